/-
  Part 15 of the proof: what the machine does and what the functions answer.
  Conditions: those that each lemma names.
-/
import Derived.Shelf.SlSortCmp.NoneTotal
import Derived.Shelf.SlicesG.Cmp
import Derived.StillTailTactics
import Derived.Test.YtiophifnkakjgaaGreatSGzC4N
set_option linter.unusedSimpArgs false
set_option linter.unusedVariables false
set_option maxRecDepth 100000
set_option maxHeartbeats 20000000
namespace Gv
noncomputable section
open Go Go.Proofs
open Go Go.Proofs Go.Shelf Go.RowKit Go.Sort
theorem b6.cut {P:Program} {f:FuncId} {vs:List V} {h g:Heap} {r:V} (n:b6 P f vs h r g) {id sz:Nat} {es rest:List (List V)} (l:g.view id=.arr sz (es++rest)):b6 P f vs h r (g.set id (.arr sz es)):=by
 have m:id<g.length:=fj (by rw[l];simp)
 refine⟨by simpa using n.1,λZ μ F w xs hr z p=>(n.2 Z μ F w xs hr z (by simpa using p)).mono ?_⟩
 rintro e w' ⟨x,A,μ',rfl,B,a,hex,q⟩
 refine⟨x,A,μ',rfl,B,?_,hex,by simpa using q⟩
 have t:∀k,cat (g.set id (.arr sz es)) F k=if k=id then .arr sz es else cat g F k:=λk=>by
  simp only[cat,acO]
  by_cases hk:k<g.length
  .rw[abb hk,abb hk,gH m];rfl
  .rw[aa9 hk,aa9 hk,aa9 (by omega)]
 have u:cat g F id=.arr sz (es++rest):=by simp only[cat];rw[abb m,l]
 refine⟨λk=>?_,λi j b o s C D v h1 E=>?_,a.lt,a.de,a.iK⟩
 .rw[t]
  split
  .rename_i hk
   subst hk
   have d:=a.obj k
   rw[u] at d
   intro b o0 s hm
   obtain⟨G,⟨c,e,f,n,p,H⟩,I,J⟩:=d b o0 s hm
   have y:∀i,i<es.length->(es++rest).getD i []=es.getD i []:=λi hi=>by
    simp[abF hi]
   refine⟨G,⟨c,e,f,n,p,?_⟩,λi hi=>?_,λi j hi K=>?_⟩
   .rw[abv,abR] at H;omega
   .rw[<-y i hi];exact I i (by rw[abv];omega)
   .rw[<-y i hi];exact J i j (by rw[abv];omega) K
  .exact a.obj k
 .have d:=a.inj i j b o s C D v h1 E
  rw[t,t]
  rcases d with d | d
  .left
   rw[aa9 (λe=>by rw[e,u] at d;simp at d)];exact d
  .right
   rw[aa9 (λe=>by rw[e,u] at d;simp at d)];exact d
theorem az.cut {P:Program} {f:FuncId} {vs:List V} {H:View} {K c:V->View->Prop} (h:az P f vs H K) (hk:∀r H',K r H'->c r H'∨∃id sz es rest,H' id=.arr sz (es++rest)/\c r (H'.set id (.arr sz es))):az P f vs H c:=by
 refine⟨h.1,λm n=>?_⟩
 obtain⟨r,d,j,l,o⟩:=h.2 m n
 rcases hk r _ o with h1 | ⟨id,sz,es,rest,a,h1⟩
 .exact⟨r,d,j,l,h1⟩
 .have b:id<d.length:=fj (by rw[a];simp)
  refine⟨r,d.set id (.arr sz es),j.cut a,λk g p=>?_,by rw[gH b];exact h1⟩
  have i:=l k g p
  rw[gH b]
  simp only[View.set]
  rw[aa9 (λe=>by rw[e,a] at i;simp at i)]
  exact i
instance:Inhabited aP:=⟨⟨0,0⟩⟩
def jI (x:aP):List Value:=[.int .i64 x.aB,.int .i64 x.dot]
def qd (a b:aP):Int:=if Lib.compareInt a.aB b.aB≠0 then Lib.compareInt a.aB b.aB else Lib.compareInt a.dot b.dot
theorem VX (a b:aP):(Lib.compareInt a.aB b.aB≠0->qd a b=Lib.compareInt a.aB b.aB)/\(Lib.compareInt a.aB b.aB=0->qd a b=Lib.compareInt a.dot b.dot):=by
 unfold qd
 exact⟨λh=>by rw[abb h],λh=>by rw[aa9 (by simp[h])]⟩
theorem vz (a b:aP):ltOf qd a b=c8 a b:=by
 have d:∀x y:Int,(x<y/\Lib.compareInt x y = -1)∨(x=y/\Lib.compareInt x y=0)∨(y<x/\Lib.compareInt x y=1):=λx y=>by
  unfold Lib.compareInt; (repeat' split)<;>omega
 rw[abW,gE]
 simp only[ltOf,qd]
 rcases d a.aB b.aB with ⟨h,e⟩ | ⟨h,e⟩ | ⟨h,e⟩<;>rcases d a.dot b.dot with ⟨k,c⟩ | ⟨k,c⟩ | ⟨k,c⟩<;>simp[e,c]<;>omega
theorem Q5:SWO (ltOf qd) where
 irrefl x:=by rw[vz];exact mT
 trans x y z h k:=by rw[vz] at *;exact qC h k
 ntrans x y z h k:=by
  rw[vz] at *
  cases e:c8 x z with
  | false=>rfl
  | true =>
   have h1:¬ c8 x y=true:=by simp[h]
   have a:¬ c8 y z=true:=by simp[k]
   rw[gE] at h1 a e
   omega
def fA (l:List aP):List aP:=l.mergeSort λx y=>!c8 y x
theorem Su (l:List aP):(l.toArray.toList.mergeSort λx y=>!(ltOf qd) y x)=fA l:=by
 have e:(λx y=>!(ltOf qd) y x)=λx y=>!c8 y x:=by funext x y;rw[vz]
 rw[e];rfl
theorem DG (l:List aP):(fA l).Perm l:=List.mergeSort_perm _ _
theorem ka (l:List aP):(fA l).length=l.length:=(DG l).length_eq
theorem DM (l:List aP):(fA l).Pairwise λx y=>c8 y x=false:=by
 have:=List.pairwise_mergeSort (le:=λx y:aP=>!c8 y x) (λa b c h k=>by
  simp only[adp] at h k ⊢
  cases e:c8 c a with
  | false=>simp
  | true =>
   have h1:¬ c8 b a=true:=by simpa using h
   have d:¬ c8 c b=true:=by simpa using k
   rw[gE] at h1 d e
   omega) (λa b=>by
  cases e:c8 b a with
  | false=>simp
  | true=>simp[Nn e]) l
 exact this.imp λh=>by simpa using h
def Tq:Ren where
 f:=fun
  | 6=>190
  | 15=>246
  | 14=>245
  | 28=>282
  | 29=>283
  | 20=>274
  | 21=>275
  | 22=>276
  | 23=>277
  | 24=>278
  | 25=>279
  | 26=>280
  | 27=>281
  | 46=>291
  | 47=>292
  | 48=>293
  | 49=>294
  | 50=>295
  | 57=>307
  | n=>n
 t:=fun
  | 22=>103
  | 24=>120
  | 25=>286
  | 3=>3
  | 39=>276
  | 0=>0
  | 53=>50
  | 55=>49
  | 4=>4
  | 46=>356
  | 45=>355
  | 50=>66
  | 5=>5
  | 9=>9
  | 66=>369
  | 70=>373
  | 76=>381
  | 77=>382
  | n=>n
 g:=λn=>n
theorem Xd:Go.Proofs.SlLaysF0.n6 aa Tq where
 mixed:=by kernel_rfl
 f6:=⟨Tryz.f190.name,by kernel_rfl,by kernel_rfl⟩
 f14:=⟨Tryz.f245.name,by kernel_rfl,by kernel_rfl⟩
 f15:=by kernel_rfl
 f20:=⟨Tryz.f274.name,by kernel_rfl,by kernel_rfl⟩
 f21:=⟨Tryz.f275.name,by kernel_rfl,by kernel_rfl⟩
 f22:=⟨Tryz.f276.name,by kernel_rfl,by kernel_rfl⟩
 f23:=⟨Tryz.f277.name,by kernel_rfl,by kernel_rfl⟩
 f24:=⟨Tryz.f278.name,by kernel_rfl,by kernel_rfl⟩
 f25:=⟨Tryz.f279.name,by kernel_rfl,by kernel_rfl⟩
 f26:=⟨Tryz.f280.name,by kernel_rfl,by kernel_rfl⟩
 f27:=⟨Tryz.f281.name,by kernel_rfl,by kernel_rfl⟩
 f28:=by kernel_rfl
 f29:=by kernel_rfl
 f46:=⟨Tryz.f291.name,by kernel_rfl,by kernel_rfl⟩
 f47:=by kernel_rfl
 f48:=by kernel_rfl
 f49:=⟨Tryz.f294.name,by kernel_rfl,by kernel_rfl⟩
 f50:=⟨Tryz.f295.name,by kernel_rfl,by kernel_rfl⟩
 f57:=⟨Tryz.f307.name,by kernel_rfl,by kernel_rfl⟩
 t0:=Tryz.underlying0
 a0:=Tryz.isAgg0
 z0:=Tryz.sizeOf0
 v0:=Tryz.zeroValue0
 t3:=Tryz.underlying3
 a3:=Tryz.isAgg3
 z3:=Tryz.sizeOf3
 v3:=Tryz.zeroValue3
 t4:=Tryz.underlying4
 a4:=Tryz.isAgg4
 z4:=Tryz.sizeOf4
 v4:=Tryz.zeroValue4
 t5:=Tryz.underlying5
 a5:=Tryz.isAgg5
 z5:=Tryz.sizeOf5
 v5:=Tryz.zeroValue5
 t9:=Tryz.underlying9
 a9:=Tryz.isAgg9
 z9:=Tryz.sizeOf9
 v9:=Tryz.zeroValue9
 t22:=Tryz.underlying103
 a22:=Tryz.isAgg103
 z22:=Tryz.sizeOf103
 v22:=Tryz.zeroValue103
 t25:=Tryz.underlying286
 a25:=Tryz.isAgg286
 z25:=Tryz.sizeOf286
 v25:=Tryz.zeroValue286
 t39:=Tryz.underlying276
 a39:=Tryz.isAgg276
 z39:=Tryz.sizeOf276
 v39:=Tryz.zeroValue276
 t45:=Tryz.underlying355
 a45:=Tryz.isAgg355
 z45:=Tryz.sizeOf355
 v45:=Tryz.zeroValue355
 t46:=Tryz.underlying356
 a46:=Tryz.isAgg356
 z46:=Tryz.sizeOf356
 v46:=Tryz.zeroValue356
 t50:=Tryz.underlying66
 a50:=Tryz.isAgg66
 z50:=Tryz.sizeOf66
 v50:=Tryz.zeroValue66
 t53:=Tryz.underlying50
 a53:=Tryz.isAgg50
 z53:=Tryz.sizeOf50
 v53:=Tryz.zeroValue50
 t55:=Tryz.underlying49
 a55:=Tryz.isAgg49
 z55:=Tryz.sizeOf49
 v55:=Tryz.zeroValue49
 t66:=Tryz.underlying369
 a66:=Tryz.isAgg369
 z66:=Tryz.sizeOf369
 v66:=Tryz.zeroValue369
 t70:=Tryz.underlying373
 a70:=Tryz.isAgg373
 z70:=Tryz.sizeOf373
 v70:=Tryz.zeroValue373
 t76:=Tryz.underlying381
 a76:=Tryz.isAgg381
 z76:=Tryz.sizeOf381
 v76:=Tryz.zeroValue381
 t77:=Tryz.underlying382
 a77:=Tryz.isAgg382
 z77:=Tryz.sizeOf382
 v77:=Tryz.zeroValue382
def Vw:Ren where
 f:=fun
  | 5=>248
  | 7=>284
  | n=>n
 t:=fun
  | 22=>3
  | 3=>3
  | 4=>4
  | n=>n
 g:=λn=>n
theorem Y4:Go.Proofs.SlLaysC2.n5 aa Vw where
 mixed:=by kernel_rfl
 f5:=⟨Tryz.f248.name,by kernel_rfl,by kernel_rfl⟩
 f7:=⟨Tryz.f284.name,by kernel_rfl,by kernel_rfl⟩
 t3:=Tryz.underlying3
 a3:=Tryz.isAgg3
 z3:=Tryz.sizeOf3
 v3:=Tryz.zeroValue3
 t4:=Tryz.underlying4
 a4:=Tryz.isAgg4
 z4:=Tryz.sizeOf4
 v4:=Tryz.zeroValue4
 t22:=Tryz.underlying3
 a22:=Tryz.isAgg3
 z22:=Tryz.sizeOf3
 v22:=Tryz.zeroValue3
section
attribute [local go_sem] Oper.semAt_some
theorem Nw (x y:Int) (b cap:Nat) (W:World) (h0:W.cell? ⟨b,0,none⟩=some (.int .i64 x)) (h1:W.cell? ⟨b,1,none⟩=some (.int .i64 y)) (r:Int) (hr:(x≠0->r=x)/\(x=0->r=y)):
  Calls aa 247 #[.slice (some ⟨b,0,none⟩) 2 cap] W λe w'=>e=.returned (.int .i64 r)/\w'=W:=by
 go_enter Tryz.func247,Tryz.ntmps247
 go_wp2
 refine wp_loop_rounds 3 ?_
 rw[rounds_succ]
 go_wp2
 .rename_i h
  go_ret
  exact⟨by rw[hr.1 (by simpa using h)];rfl,rfl⟩
 .rename_i h
  have hx:x=0:=by simpa using h
  rw[rounds_succ]
  go_wp2
  .rename_i h
   go_ret
   exact⟨by rw[hr.2 hx];rfl,rfl⟩
  .rename_i h
   rw[rounds_succ]
   go_wp2
   go_ret
   exact⟨by rw[hr.2 hx,show y=0 by simpa using h];rfl,rfl⟩
structure Zt (p:Prop):Prop where
 out:p
theorem M5 (x1 x2 y1 y2:Int) (W:World) (r:Int) (hr:(Lib.compareInt x1 y1≠0->r=Lib.compareInt x1 y1)/\(Lib.compareInt x1 y1=0->r=Lib.compareInt x2 y2)):
  Calls aa 191 #[.agg #[.int .i64 x1,.int .i64 x2],.agg #[.int .i64 y1,.int .i64 y2]] W λe w'=>e=.returned (.int .i64 r)/\∃q os',w'=grow (W.drewN q) os':=by
 have hcon1:=λW'=>AnyG.cmp_Compare_int Y4 x1 y1 W'
 change ∀W',Calls aa 248 _ _ _ at hcon1
 have hcon2:=λW'=>AnyG.cmp_Compare_int Y4 x2 y2 W'
 change ∀W',Calls aa 248 _ _ _ at hcon2
 generalize Lib.compareInt x1 y1=c1 at *
 generalize Lib.compareInt x2 y2=c2 at *
 go_enter Tryz.func191,Tryz.ntmps191
 go_wp2_with (first | (go_at_call 248;refine(hcon1 _).mono ?_;rintro e w' ⟨rfl,rfl⟩)|(go_at_call 248;refine(hcon2 _).mono ?_;rintro e w' ⟨rfl,rfl⟩))
 obtain⟨b1,hb1⟩:∃b1,b1=W.heap.size:=⟨_,rfl⟩
 obtain⟨b2,hb2⟩:∃b2,b2=W.heap.size+1:=⟨_,rfl⟩
 rw[<-hb2,<-hb1]
 generalize hW1:(W.alloc (Obj.cells #[Value.int IntKind.i64 x1,Value.int IntKind.i64 x2] 120)).alloc (Obj.cells #[Value.int IntKind.i64 y1,Value.int IntKind.i64 y2] 120)=W1
 have hh1:W1.heap[b1]?=some (.cells #[Value.int IntKind.i64 x1,Value.int IntKind.i64 x2] 120 (0,0)):=by
  rw[<-hW1,hb1];exact(Below.heap_alloc _ _ _ (by simp)).trans (World.alloc_heap_new W _)
 have hh2:W1.heap[b2]?=some (.cells #[Value.int IntKind.i64 y1,Value.int IntKind.i64 y2] 120 (0,0)):=by
  rw[<-hW1,hb2]
  have:=World.alloc_heap_new (W.alloc (Obj.cells #[Value.int IntKind.i64 x1,Value.int IntKind.i64 x2] 120)) (Obj.cells #[Value.int IntKind.i64 y1,Value.int IntKind.i64 y2] 120)
  rwa [World.size_alloc] at this
 have k0:W1.cell? ⟨b1,0,none⟩=some (.int .i64 x1):=by unfold World.cell?;rw[hh1];rfl
 have k1:W1.cell? ⟨b1,1,none⟩=some (.int .i64 x2):=by unfold World.cell?;rw[hh1];rfl
 have k2:W1.cell? ⟨b2,0,none⟩=some (.int .i64 y1):=by unfold World.cell?;rw[hh2];rfl
 have k3:W1.cell? ⟨b2,1,none⟩=some (.int .i64 y2):=by unfold World.cell?;rw[hh2];rfl
 clear hh1 hh2
 refine wp_region_still_tail 10 (by kernel_rfl) (by kernel_rfl) ?_
 change wpStill _ _ W1.drew (λa'=>wpList _ _ _ _ a' W1.drew) _ _
 generalize hW2:W1.drew=W2
 replace k0:W2.cell? ⟨b1,0,none⟩=some (.int .i64 x1):=by rw[<-hW2];exact k0
 replace k1:W2.cell? ⟨b1,1,none⟩=some (.int .i64 x2):=by rw[<-hW2];exact k1
 replace k2:W2.cell? ⟨b2,0,none⟩=some (.int .i64 y1):=by rw[<-hW2];exact k2
 replace k3:W2.cell? ⟨b2,1,none⟩=some (.int .i64 y2):=by rw[<-hW2];exact k3
 have hgr:Zt (W2=grow (W.drewN 1) #[Obj.cells #[Value.int IntKind.i64 x1,Value.int IntKind.i64 x2] 120,Obj.cells #[Value.int IntKind.i64 y1,Value.int IntKind.i64 y2] 120]):=by
  refine⟨?_⟩
  rw[<-hW2,<-hW1,alloc_eq_grow,alloc_eq_grow,grow_grow];rfl
 clear hW1 hW2 hb1 hb2
 simp only[adg,List.take_zero,adh,ab8]
 iterate 4 still_step
 still_call (hcon1 _)
 iterate 4 still_step
 still_call (hcon2 _)
 refine wpStill_nil ?_
 go_wp2_with (go_at_call 247;refine(Nw c1 c2 _ _ _ ?_ ?_ r hr).mono ?_)
 .unfold World.cell?;rw[World.alloc_heap_new];rfl
 .unfold World.cell?;rw[World.alloc_heap_new];rfl
 .rintro e w' ⟨rfl,rfl⟩
  go_wp2
  go_ret
  refine⟨rfl,1,#[Obj.cells #[Value.int IntKind.i64 x1,Value.int IntKind.i64 x2] 120,Obj.cells #[Value.int IntKind.i64 y1,Value.int IntKind.i64 y2] 120,Obj.cells #[Value.int IntKind.i64 c1,Value.int IntKind.i64 c2] 3],?_⟩
  rw[hgr.out,alloc_eq_grow,grow_grow];rfl
end
theorem yu {Z:Nat->Prop} {μ:Mu} {hp:Array Obj} {id off len esz:Nat} {x:Value} (h:aD Z μ hp (.sl id off len esz) x):
  (len=0/\∃a,x=.slice a 0 0)∨∃b o0 cap,∃c:Array Value,∃e f,x=.slice (some ⟨b,o0+off*esz,none⟩) len cap/\μ id=some (b,o0,esz)/\len<=cap/\hp[b]?=some (.cells c e f)/\o0+(off+cap)*esz<=c.size:=by
 cases h with
 | rI _ _ _ a=>exact .inl ⟨rfl,a,rfl⟩
 | sl _ _ _ _ b o0 cap c e f h1 d g i=>exact .inr ⟨b,o0,cap,c,e,f,rfl,h1,d,g,i⟩
theorem YE {Z:Nat->Prop} {μ:Mu} {hp:Array Obj} {f:FuncId} {x:Value} (h:aD Z μ hp (.fn f [] []) x):x=.func (.func f) #[] #[]:=by
 cases h with
 | fn _ _ _ a c h1 b _ _ =>
  rw[Array.eq_empty_of_size_eq_zero h1.symm,Array.eq_empty_of_size_eq_zero b.symm]
theorem Ig (w:World) (b o0 m:Nat) (d:Array aP) (os:Array Obj) {j:Nat} (a:j<w.heap.size):(sortWorldK jI 2 w b o0 m d os).heap[j]?=if b=j then (w.heap[j]?).map (onCells (putCells id o0 (flatK jI 2 d))) else w.heap[j]?:=by
 unfold sortWorldK grow putRowK putRow mapBlock
 simp only[Sort.ahead]
 rw[ab4 (by simpa using a),acP]
theorem Vq (l:List aP) (hl:l.length<1152921504606846976) (u:V) (H:View) (ho:aN H u 2 (bh l)):az aa 190 [u,.fn 191 [] []] H λr H'=>r=.bc []/\(∀id,owner u≠some id->H' id=H id)/\aN H' u 2 (bh (fA l)):=by
 refine⟨by kernel_rfl,?_⟩
 rintro h rfl
 have eg:∀args w,(callFunc 191 args).run aa w=.ok (.enter 191 args) w:=enters_of Tryz.func191 (by kernel_rfl) rfl
 by_cases I:l=[]
 .subst I
  refine⟨.bc [],h,⟨abg _,λZ μ F w xs s hr M=>?_⟩,.refl _,rfl,λ_ _=>rfl,by simpa [fA] using ho⟩
  obtain⟨hlen,N⟩:=s
  obtain⟨x,y,rfl⟩:∃x y,xs=[x,y]:=by
   match xs,hlen with
   | [x,y],_=>exact⟨x,y,rfl⟩
  have h0:aD Z μ w.heap u x:=N 0 (by simp)
  obtain⟨p,cap,rfl⟩:∃p cap,x=.slice p 0 cap:=by
   rcases ho with ⟨_,k,rfl⟩ | ⟨n,rfl,_⟩
   .cases h0 with | emp _ a _ _=>exact⟨a,0,rfl⟩
   .rcases yu h0 with ⟨_,a,e⟩ | ⟨b,o0,cap,c,e,f,e2,_⟩
    .exact⟨a,0,e⟩
    .exact⟨_,cap,e2⟩
  refine(AnyF.slices_SortFunc_none Xd p cap y w).mono ?_
  rintro e w' ⟨rfl,rfl⟩
  exact⟨.tuple #[],Z,μ,rfl,.bc [] #[] rfl (λi hi=>by simp at hi),hr,Ext.refl _ _ _ _,λ_ _=>rfl⟩
 have S:0<l.length:=adf.2 I
 obtain⟨n,rfl,hn⟩:=ho.sl (by rw[bT];exact S)
 rw[bT]
 have t:n<h.length:=fj (by rw[hn];simp)
 refine⟨.bc [],h.set n (.arr 2 (bh (fA l))),⟨by simp,λZ μ F w xs s hr M=>?_⟩,λk hk hd=>?_,rfl,λid al=>?_,?_⟩
 rotate_left
 .rw[gH t]
  simp only[View.set]
  rw[aa9 (λe=>by rw[e,hn] at hd;simp at hd)];exact hd
 .rw[gH t]
  simp only[View.set]
  rw[aa9 (λe=>al (by rw[e];rfl))]
 .refine .inr ⟨n,by rw[bT,ka],?_⟩
  rw[gH t];simp[View.set]
 obtain⟨hlen,N⟩:=s
 obtain⟨x,y,rfl⟩:∃x y,xs=[x,y]:=by
  match xs,hlen with
  | [x,y],_=>exact⟨x,y,rfl⟩
 have h0:aD Z μ w.heap (.sl n 0 l.length 2) x:=N 0 (by simp)
 have h1:aD Z μ w.heap (.fn 191 [] []) y:=N 1 (by simp)
 have hy:=YE h1
 subst hy
 rcases yu h0 with ⟨e,_⟩ | ⟨b,o0,cap,c0,e0,f0,rfl,E,ar,_,_⟩
 .omega
 rw[Nat.zero_mul,acI]
 have J:cat h F n=.arr 2 (bh l):=by simp only[cat];rw[abb t,hn]
 have T:=hr.obj n
 rw[J] at T
 obtain⟨_,⟨c,ty,fz,hc,U,W⟩,hq,z⟩:=T b o0 2 E
 rw[bT] at W hq z
 have O:b<w.heap.size:=hr.lt _ _ _ _ E
 have P:∀(m:List aP) (i:Nat) (hi:i<m.length),(bh m).getD i []=bM m[i]:=λm i hi=>by simp[bh,hi]
 have hH:HoldsK jI 2 w b o0 l.toArray:=by
  intro j D
  rw[size_flatK] at D
  have a1:j<l.length*2:=by simpa using D
  have hi:j / 2<l.length:=by omega
  obtain⟨x,hx,d⟩:=z (j / 2) (j % 2) hi (by omega)
  rw[show o0+j / 2*2+j % 2=o0+j by omega] at hx
  have an:x=(flatK jI 2 l.toArray)[j]!:=by
   rw[get_flatK _ _ _ _ D]
   rw[P l _ hi] at d
   have e1:l.toArray[j / 2]! = l[j / 2]:=by simp[hi]
   rw[e1]
   rcases abH (j % 2) 1 with X | X
   .rw[show j % 2=0 by omega] at d ⊢
    simp only[bM,acv] at d
    cases d;rfl
   .rw[show j % 2=1 by omega] at d ⊢
    simp only[bM,acZ,acv] at d
    cases d;rfl
  refine⟨by rw[jo,hx,an];rfl,?_⟩
  simp only[World.frozen?,hc]
  rcases U with e | e
  .simp only[e,Bool.and_eq_false_iff,acy];omega
  .simp only[Bool.and_eq_false_iff,acy];omega
 have hT:∀x y,(ltOf qd) x y=false->(ltOf qd) y x=false->x=y:=λx y h1 X=>by
  rw[vz] at h1 X
  exact acN λA=>by rw[z8 h1 A] at X;simp at X
 have K:=AnyQ.slices_SortFunc_total Xd 2 Tryz.isAgg120 Tryz.sizeOf120 jI (λ_=>rfl) (λx v N=>by simp[jI] at N;rcases N with rfl | rfl<;>rfl) qd Q5 191 #[] b o0 cap l.toArray w eg (λ_ _ _ _ x y=>M5 x.aB x.dot y.aB y.dot _ _ (VX x y)) hH O (by simp;omega) hT
 rw[Su] at K
 refine Calls.mono (show Calls aa 190 _ w _ from K) ?_
 rintro e w' ⟨rfl,m,os,rfl⟩
 have Y:=ka l
 have g:=λ{j:Nat} (D:j<w.heap.size)=>Ig w b o0 m (fA l).toArray os D
 have G:HoldsK jI 2 (sortWorldK jI 2 w b o0 m (fA l).toArray os) b o0 (fA l).toArray:=SWK.holds ⟨m,os,rfl⟩ O hH (by simp[Y])
 have B:w.heap.size<=(sortWorldK jI 2 w b o0 m (fA l).toArray os).heap.size:=SWK.le (dk:=(fA l).toArray) ⟨m,os,rfl⟩
 have Q:fa w (sortWorldK jI 2 w b o0 m (fA l).toArray os):=⟨rfl,rfl,rfl,B⟩
 generalize sortWorldK jI 2 w b o0 m (fA l).toArray os=w' at *
 have ab:w'.heap[b]?=some (.cells (putCells id o0 (flatK jI 2 (fA l).toArray) c) ty fz):=by
  rw[g O,abb rfl,hc];rfl
 have L:nB Z μ μ w.heap w'.heap h.length (.fP n (.arr 2 (bh (fA l)))):=by
  refine⟨b,o0,2,E,rfl,λj D A=>by rw[g D,aa9 (λe=>A e.symm)],λj cc ee ff C=>?_,?_⟩
  .have aq:j<w.heap.size:=by
    rcases abH j w.heap.size with q | q
    .exact q
    .simp[Array.getElem?_eq_none q] at C
   by_cases e:b=j
   .subst e
    rw[hc] at C
    simp only[abd,Obj.cells.injEq] at C
    obtain⟨rfl,rfl,rfl⟩:=C
    exact⟨_,_,ab,by simp[putCells]⟩
   .exact⟨cc,ff,by rw[g aq,aa9 e];exact C,rfl⟩
  .intro b1 o1 s1 h1
   rw[E] at h1
   simp only[abd,abz] at h1
   obtain⟨rfl,rfl,rfl⟩:=h1
   refine⟨rfl,⟨_,ty,fz,ab,?_,?_⟩,λi hi=>?_,λi j hi D=>?_⟩
   .simpa [putCells] using U
   .rw[bT,Y];simpa [putCells] using W
   .rw[bT] at hi;rw[P _ i hi];rfl
   .rw[bT] at hi
    have:=(G.cell (i:=i) (c:=j) (by simpa using hi) D).1
    rw[jo] at this
    refine⟨_,this,?_⟩
    rw[P _ i hi]
    have e1:(fA l).toArray[i]! = (fA l)[i]:=by simp[hi]
    rw[e1]
    match j,D with
    | 0,_=>exact .val _ rfl
    | 1,_=>exact .val _ rfl
 have A:cat h F n≠.dead:=by rw[J];simp
 have R:=hr.eff (n:=h.length) (eff:=.fP n (.arr 2 (bh (fA l)))) (by trivial) B L (λid o e=>by cases e;exact A) (λid o e=>by cases e)
 obtain⟨ae,a6⟩:=L.ext Q (by trivial) hr.de hr.iK
 refine⟨.tuple #[],Z,μ,rfl,.bc [] #[] rfl (λi hi=>by simp at hi),?_,ae,λ_ _=>rfl⟩
 have ev:cat (h.set n (.arr 2 (bh (fA l)))) F=bq.view (cat h F) h.length (.fP n (.arr 2 (bh (fA l)))):=by
  funext k
  simp only[cat,bq.view,View.set,acO]
  by_cases hk:k<h.length
  .rw[abb hk,abb hk,gH t];rfl
  .rw[aa9 hk,aa9 hk,aa9 (by omega)]
 rw[ev]
 exact R
abbrev iR:aP:=⟨0,0⟩
def gw (l:List aP):Nat->List aP
 | 0=>[]
 | n+1=>if n=0∨l.getD n iR≠l.getD (n-1) iR then gw l n++[l.getD n iR] else gw l n
theorem Cu (l:List aP):∀n,n<=l.length->(∀j,0<j->j<n->l.getD j iR≠l.getD (j-1) iR)->gw l n=l.take n
 | 0,_,_=>by simp[gw]
 | n+1,c,h=>by
  have a:=Cu l n (by omega) λj h1 d=>h j h1 (by omega)
  have b:l[n]?=some (l.getD n iR):=getD_some (by omega)
  rw[gw,abb,a,abr,b]
  .rfl
  .by_cases e:n=0
   .exact .inl e
   .exact .inr (h n (by omega) (by omega))
def Dd (l:List aP):List aP:=gw (fA l) l.length
theorem zJ {l:List aP} (hp:l.Pairwise λx y=>c8 y x=false):∀n,n<=l.length->cM (gw l n)/\(∀x,x∈gw l n↔∃i,i<n/\l.getD i iR=x)
 | 0,_=>by simp[gw,cM]
 | n+1,r=>by
  obtain⟨h1,f⟩:=zJ hp n (by omega)
  have d:∀i j,i<j->j<l.length->c8 (l.getD j iR) (l.getD i iR)=false:=λi j g k=>by
   have:=List.pairwise_iff_getElem.1 hp i j (by omega) k g
   simpa [aa7,aa8 k,aa8 (show i<l.length by omega)] using this
  rw[gw]
  split
  .rename_i c
   refine⟨?_,λx=>?_⟩
   .rw[cM,List.pairwise_append]
    refine⟨h1,by simp,λa p b m=>?_⟩
    rw[ab5] at m;subst m
    obtain⟨i,hi,rfl⟩:=(f a).1 p
    have c:l.getD n iR≠l.getD (n-1) iR:=c.resolve_left (by omega)
    have o:=z8 (d (n-1) n (by omega) (by omega)) c
    rcases abH i (n-1) with h | h
    .have k2:=d i (n-1) h (by omega)
     have q:¬ c8 (l.getD (n-1) iR) (l.getD i iR)=true:=by rw[k2];simp
     rw[gE] at o q ⊢
     omega
    .have:i=n-1:=by omega
     subst this;exact o
   .rw[abq,f,ab5]
    constructor
    .rintro (⟨i,hi,e⟩ | e)
     .exact⟨i,by omega,e⟩
     .exact⟨n,by omega,e.symm⟩
    .rintro⟨i,hi,e⟩
     rcases abH i n with h | h
     .exact .inl ⟨i,h,e⟩
     .have:i=n:=by omega
      subst this;exact .inr e.symm
  .rename_i c
   simp only[not_or,acU] at c
   refine⟨h1,λx=>?_⟩
   rw[f]
   constructor
   .rintro⟨i,hi,e⟩;exact⟨i,by omega,e⟩
   .rintro⟨i,hi,e⟩
    rcases abH i n with h | h
    .exact⟨i,h,e⟩
    .have:i=n:=by omega
     subst this
     exact⟨i-1,by omega,by rw[<-c.2];exact e⟩
theorem FR (l:List aP):cM (Dd l):=(zJ (DM l) _ (by rw[ka];exact abg _)).1
theorem tV {l:List aP} {x:aP} : x∈Dd l↔x∈l:=by
 rw[Dd,(zJ (DM l) _ (by rw[ka];exact abg _)).2,<-(DG l).mem_iff,acL]
 constructor
 .rintro⟨i,hi,e⟩
  have a:i<(fA l).length:=by rw[ka];exact hi
  exact⟨i,a,by rw[aa7,aa8 a] at e;exact e⟩
 .rintro⟨i,hi,e⟩
  exact⟨i,by rw[ka] at hi;exact hi,by rw[aa7,aa8 hi];exact e⟩
theorem PF {l:List aP} (h:cM l):Dd l=l:=BO (FR l) h λ_=>tV
def oI (g:ak) (s:Int):Int:=if s<0 then (g.ax.length:Int)-1-s else s
theorem AE (g:ak) (k:Nat):oI g (bj g k)=k:=by
 unfold oI bj;split<;>split<;>omega
theorem L9 {g:ak} {s:Int} (h1:s<g.ax.length):0<=oI g s/\bj g (oI g s).toNat=s:=by
 unfold oI bj;split
 .rw[aa9 (by omega)];omega
 .rw[abb (by omega)];omega
theorem Ny {g:ak} {s:Int} (h:dS g s=true):s<g.ax.length/\oI g s<g.ax.length+g.av.length:=by
 unfold dS at h
 unfold oI
 by_cases a:0<=s
 .rw[abb a] at h
  simp at h
  omega
 .rw[aa9 a] at h
  simp at h
  omega
def gU (l:List aP):List UInt8:=l.flatMap λx=>[UInt8.ofNat (x.aB+1).toNat,UInt8.ofNat x.dot.toNat]
theorem RY {a b:Nat} (c:a<256) (d:b<256) (h:UInt8.ofNat a=UInt8.ofNat b):a=b:=by
 have:=ach UInt8.toNat h
 simp at this
 omega
theorem Mh {g:ak} (c:g.c5):∀ {a b:List aP},(∀x∈a,cW g x)->(∀x∈b,cW g x)->gU a=gU b->a=b
 | [],[],_,_,_=>rfl
 | [],y::b,_,_,h=>by simp[gU] at h
 | x::a,[],_,_,h=>by simp[gU] at h
 | x::a,y::b,i,j,h=>by
  simp only[gU,List.flatMap_cons,abN,ab3,List.cons.injEq] at h
  obtain⟨h1,k,l⟩:=h
  have d:=i x (by simp)
  have e:=j y (by simp)
  have hr:=c.rules
  have q:=ed c d.1
  have r:=ed c e.1
  have:=d.1;have:=d.2;have:=e.1;have:=e.2
  have s:=RY (by omega) (by omega) h1
  have k2:=RY (by omega) (by omega) k
  have t:=Mh c (λz f=>i z (by simp[f])) (λz f=>j z (by simp[f])) l
  obtain⟨m,n⟩:=x
  obtain⟨o,p⟩:=y
  simp only at *
  have:m=o:=by omega
  have:n=p:=by omega
  subst_vars;rfl
structure ln (g:ak) (a:List ba):Prop where
 first:(a.getD 0 cg).bA=[⟨-1,0⟩]
 Cb:∀s∈a,∀e∈s.cG,(a.getD e.to.toNat cg).bA=bz g (dx g s.bA) e.sym
theorem nj (l:List ba) (i:Nat) (c:fW) (j:Nat):((l.modify i λx=>(⟨x.bA,x.cG++[c]⟩:ba)).getD j cg).bA=(l.getD j cg).bA:=by
 simp only[aa7,List.getElem?_modify]
 cases l[j]? with
 | none=>rfl
 | some x =>
  by_cases e:i=j
  .subst e;simp
  .simp[e]
theorem ln.put {g:ak} {out:List ba} (h:ln g out) {at_:Nat} {s to:Int} (c:(out.getD to.toNat cg).bA=bz g (dx g (out.getD at_ cg).bA) s):ln g (out.modify at_ λx=>(⟨x.bA,x.cG++[⟨s,to⟩]⟩:ba)):=by
 refine⟨by rw[nj];exact h.first,λy a e he=>?_⟩
 rw[nj]
 rcases mem_modify a with a | ⟨x,b,rfl⟩
 .exact h.Cb y a e he
 .rcases abq.1 he with he | he
  .exact h.Cb x (abi b) e he
  .simp at he;subst he
   rw[c,aa7,b];rfl
theorem ln.add {g:ak} {out:List ba} (h:ln g out) (h1:1<=out.length) (c:∀s∈out,∀e∈s.cG,0<=e.to/\e.to<out.length) (k:List aP):ln g (out++[⟨k,[]⟩]):=by
 have b:∀j:Nat,j<out.length->((out++[(⟨k,[]⟩:ba)]).getD j cg)=out.getD j cg:=λj d=>by
  simp[abF d]
 refine⟨by rw[b 0 (by omega)];exact h.first,λy a e he=>?_⟩
 rcases abq.1 a with a | a
 .have:=c y a e he
  rw[b _ (by omega)];exact h.Cb y a e he
 .simp at a;subst a;simp at he
theorem Sd (g:ak) (l:List aP) (at_:Nat) (out:List ba) (i:Nat) {j:Nat} (a:j<out.length):((dG g l at_ out i).getD j cg).bA=(out.getD j cg).bA:=by
 unfold dG
 split
 .rfl
 .split
  .rw[nj]
   simp[abF a]
  .rw[nj]
theorem ln.step {g:ak} {l:List aP} {at_ i:Nat} {out:List ba} (h:ln g out) (hi:er g at_ i out) (c:at_<out.length) (a:dx g (out.getD at_ cg).bA=l):ln g (dG g l at_ out i):=by
 unfold dG
 split
 .exact h
 .split
  .refine(h.add (by omega) hi.to _).put ?_
   rw[abM]
   have d:((out++[(⟨bz g l (bj g i),[]⟩:ba)]).getD out.length cg).bA=bz g l (bj g i):=by
    simp
   have e:(out++[(⟨bz g l (bj g i),[]⟩:ba)]).getD at_ cg=out.getD at_ cg:=by
    simp[abF c]
   rw[d,e,a]
  .refine h.put ?_
   obtain⟨n,b⟩:∃n:Nat,findD out (bz g l (bj g i))=n:=⟨(findD out (bz g l (bj g i))).toNat,by omega⟩
   obtain⟨s,h1,f⟩:=K3 _ _ _ b
   rw[b,abM,aa7,h1,a]
   exact f
theorem ln.row {g:ak} (a:g.c5) {at_:Nat} {out:List ba} (h:ln g out) (hi:er g at_ 0 out) (b:at_<out.length):∀n:Nat,n<=40->ln g ((List.range n).foldl (dG g (dx g (out.getD at_ cg).bA) at_) out)/\(((List.range n).foldl (dG g (dx g (out.getD at_ cg).bA) at_) out).getD at_ cg).bA=(out.getD at_ cg).bA
 | 0,_=>⟨h,rfl⟩
 | n+1,d=>by
  obtain⟨h1,c⟩:=ln.row a h hi b n (by omega)
  obtain⟨i1,i2,i3⟩:=er.row (hi.nM a b).1 (hi.nM a b).2 hi n (by omega)
  rw[acD,acM]
  simp only[abY,adi]
  refine⟨h1.step i1 (by omega) (by rw[c]),?_⟩
  rw[Sd _ _ _ _ _ (by omega),c]
theorem Fx {g:ak} (a:g.c5):∀(f at_:Nat) (out:List ba),er g at_ 0 out->ln g out->(fS g f at_ out).2=0->ln g (fS g f at_ out).1
 | 0,_,out,_,h,_=>h
 | f+1,at_,out,hi,h,b=>by
  rw[fS] at b ⊢
  split
  .rename_i c
   rw[abb c] at b
   have hr:=er.row (hi.nM a c).1 (hi.nM a c).2 hi (g.ax.length+g.av.length) (by have:=a.ax;have:=a.av;omega)
   have he:=h.row a hi c (g.ax.length+g.av.length) (by have:=a.ax;have:=a.av;omega)
   split
   .rename_i d;rw[abb d] at b;simp at b
   .rename_i d
    rw[aa9 d] at b
    exact Fx a f (at_+1) _ hr.1.next he.1 b
  .exact h
theorem P8 {g:ak} (b:g.c5) (h:(cD g).2=0):ln g (cD g).1:=by
 unfold cD at h ⊢
 split
 .rename_i hr
  rw[abb hr] at h
  exact Fx b 302 0 eC mF ⟨rfl,λs a e he=>by simp[eC] at a;subst a;simp at he⟩ h
 .rename_i hr
  rw[aa9 hr] at h
  simp at h
theorem N6 {a:List ba} {i:Nat} {e:fW} (h:e∈(a.getD i cg).cG):i<a.length/\a.getD i cg∈a:=by
 rcases abH i a.length with hi | hi
 .exact⟨hi,abi (getD_some hi)⟩
 .rw[aa7,abL hi] at h;simp at h
def lV (g:ak) (l:List aP) (n:Nat):List Int:=((List.range n).filter λi=>decide (bz g l (bj g i)≠[])).map λ(i:Nat)=>bj g i
theorem Gk (g:ak) (l:List aP) (n:Nat):lV g l (n+1)=if bz g l (bj g n)=[] then lV g l n else lV g l n++[bj g n]:=by
 unfold lV
 rw[acD,adk,abA]
 by_cases h:bz g l (bj g n)=[]
 .rw[abb h];simp[h]
 .rw[aa9 h];simp[h]
structure oU (g:ak) (at_ i:Nat) (out:List ba):Prop where
 one:(out.map ba.bA).Nodup
 back:∀j:Nat,0<j->j<out.length->∃(i:Nat) (e:fW),i<j/\e∈(out.getD i cg).cG/\e.to=j
 done:∀j:Nat,j<at_->j<out.length->(out.getD j cg).cG.map fW.sym=lV g (dx g (out.getD j cg).bA) (g.ax.length+g.av.length)
 here:at_<out.length->(out.getD at_ cg).cG.map fW.sym=lV g (dx g (out.getD at_ cg).bA) i
theorem uM (l:List ba) (i:Nat) (c:fW) (j:Nat) (hi:i<l.length):((l.modify i λx=>(⟨x.bA,x.cG++[c]⟩:ba)).getD j cg).cG=if i=j then (l.getD j cg).cG++[c] else (l.getD j cg).cG:=by
 by_cases e:i=j
 .subst e;simp[hi]
 .cases l[j]? with
  | none=>simp[e]
  | some x=>simp[e]
theorem Ie (l:List ba) (i:Nat) (c:fW):(l.modify i λx=>(⟨x.bA,x.cG++[c]⟩:ba)).map ba.bA=l.map ba.bA:=by
 apply List.ext_getElem?
 intro j
 simp only[aba,List.getElem?_modify]
 cases l[j]? with
 | none=>rfl
 | some x=>by_cases e:i=j<;>simp[e]
theorem oU.put {g:ak} {at_ i:Nat} {out:List ba} {to:Int} (b:at_<out.length) (h1:(out.map ba.bA).Nodup) (h:∀j:Nat,0<j->j<out.length->(∃(i:Nat) (e:fW),i<j/\e∈(out.getD i cg).cG/\e.to=j)∨(at_<j/\to=j))
  (l:∀j:Nat,j<at_->j<out.length->(out.getD j cg).cG.map fW.sym=lV g (dx g (out.getD j cg).bA) (g.ax.length+g.av.length)) (m:(out.getD at_ cg).cG.map fW.sym=lV g (dx g (out.getD at_ cg).bA) i)
  (c:bz g (dx g (out.getD at_ cg).bA) (bj g i)≠[]):oU g at_ (i+1) (out.modify at_ λx=>(⟨x.bA,x.cG++[⟨bj g i,to⟩]⟩:ba)):=by
 refine⟨by rw[Ie];exact h1,λj d a=>?_,λj d a=>?_,λ_=>?_⟩
 .rw[List.length_modify] at a
  rcases h j d a with ⟨k,e,f,a2,a3⟩ | ⟨f,a2⟩
  .refine⟨k,e,f,?_,a3⟩
   rw[uM _ _ _ _ b]
   split
   .exact List.mem_append_left _ a2
   .exact a2
  .refine⟨at_,⟨bj g i,to⟩,f,?_,a2⟩
   rw[uM _ _ _ _ b,abb rfl]
   simp
 .rw[List.length_modify] at a
  rw[uM _ _ _ _ b,aa9 (by omega),nj]
  exact l j d a
 .rw[uM _ _ _ _ b,abb rfl,nj,abA,m,Gk,aa9 c];rfl
theorem oU.step {g:ak} {at_ i:Nat} {out:List ba} (h:oU g at_ i out) (d:at_<out.length):oU g at_ (i+1) (dG g (dx g (out.getD at_ cg).bA) at_ out i):=by
 unfold dG
 split
 .rename_i hm
  exact⟨h.one,h.back,h.done,λ_=>by rw[Gk,abb hm];exact h.here d⟩
 .rename_i hm
  split
  .rename_i n
   have f:∀j:Nat,j<out.length->((out++[(⟨bz g (dx g (out.getD at_ cg).bA) (bj g i),[]⟩:ba)]).getD j cg)=out.getD j cg:=λj c=>by
    simp[abF c]
   refine oU.put (by simp;omega) ?_ (λj c l=>?_) (λj c l=>?_) ?_ ?_
   .rw[abA,acH]
    refine⟨h.one,by simp,λa o b m=>?_⟩
    obtain⟨s,p,rfl⟩:=abt.1 o
    simp at m;subst m
    exact MK _ _ n s p
   .rcases abH j out.length with q | q
    .obtain⟨k,e,r,a2,a3⟩:=h.back j c q
     exact .inl ⟨k,e,r,by rw[f k (by omega)];exact a2,a3⟩
    .right
     simp at l
     exact⟨by omega,by omega⟩
   .rw[f j (by omega)];exact h.done j c (by omega)
   .rw[f at_ d];exact h.here d
   .rw[f at_ d];exact hm
  .exact oU.put d h.one (λj c l=>.inl (h.back j c l)) h.done (h.here d) hm
theorem oU.row {g:ak} (a:g.c5) {at_:Nat} {out:List ba} (h:oU g at_ 0 out) (hi:er g at_ 0 out) (he:ln g out) (b:at_<out.length):∀n:Nat,n<=40->oU g at_ n ((List.range n).foldl (dG g (dx g (out.getD at_ cg).bA) at_) out)
 | 0,_=>h
 | n+1,d=>by
  have h1:=oU.row a h hi he b n (by omega)
  obtain⟨i1,i2,i3⟩:=er.row (hi.nM a b).1 (hi.nM a b).2 hi n (by omega)
  obtain⟨e,c⟩:=he.row a hi b n (by omega)
  rw[acD,acM]
  have:=h1.step (by omega)
  rw[c] at this
  exact this
theorem oU.next {g:ak} {at_:Nat} {out:List ba} (h:oU g at_ (g.ax.length+g.av.length) out) (hi:er g at_ (g.ax.length+g.av.length) out):oU g (at_+1) 0 out:=by
 refine⟨h.one,h.back,λj b a=>?_,λa=>?_⟩
 .rcases abH j at_ with q | q
  .exact h.done j q a
  .have:j=at_:=by omega
   subst this
   exact h.here a
 .have:=(hi.cG (at_+1) _ (getD_some (d:=cg) a)).2.2 (by omega)
  rw[this];simp[lV]
structure VQ (g:ak) (a:List ba):Prop where
 one:(a.map ba.bA).Nodup
 back:∀j:Nat,0<j->j<a.length->∃(i:Nat) (e:fW),i<j/\e∈(a.getD i cg).cG/\e.to=j
 all:∀s∈a,s.cG.map fW.sym=lV g (dx g s.bA) (g.ax.length+g.av.length)
theorem GB {g:ak} (a:g.c5):∀(f at_:Nat) (out:List ba),302<=f+at_->er g at_ 0 out->ln g out->oU g at_ 0 out->out.length<=300->(fS g f at_ out).2=0->VQ g (fS g f at_ out).1
 | 0,at_,out,l,_,_,h,m,_=>⟨h.one,h.back,λs c=>by
   change s∈out at c
   obtain⟨j,d,e⟩:=acL.1 c
   have:=h.done j (by omega) d
   rwa [show out.getD j cg=s by rw[aa7,aa8 d];exact e] at this⟩
 | f+1,at_,out,l,hi,he,h,m,b=>by
  have p:=a.ax
  have q:=a.av
  rw[fS] at b ⊢
  split
  .rename_i i
   rw[abb i] at b
   have hr:=er.row (hi.nM a i).1 (hi.nM a i).2 hi (g.ax.length+g.av.length) (by omega)
   have n:=he.row a hi i (g.ax.length+g.av.length) (by omega)
   have o:=h.row a hi he i (g.ax.length+g.av.length) (by omega)
   split
   .rename_i k;rw[abb k] at b;simp at b
   .rename_i k
    rw[aa9 k] at b
    exact GB a f (at_+1) _ (by omega) hr.1.next n.1 (o.next hr.1) (by omega) b
  .exact⟨h.one,h.back,λs c=>by
    change s∈out at c
    obtain⟨j,d,e⟩:=acL.1 c
    have:=h.done j (by omega) d
    rwa [show out.getD j cg=s by rw[aa7,aa8 d];exact e] at this⟩
theorem P2 {g:ak} (b:g.c5) (h:(cD g).2=0):VQ g (cD g).1:=by
 unfold cD at h ⊢
 split
 .rename_i hr
  rw[abb hr] at h
  refine GB b 302 0 eC (by omega) mF ⟨rfl,λs a e he=>by simp[eC] at a;subst a;simp at he⟩ ⟨by simp[eC],λj h1 c=>by simp[eC] at c;omega,λj h1=>by omega,λ_=>?_⟩ (by simp[eC]) h
  simp[eC,lV]
 .rename_i hr
  rw[aa9 hr] at h
  simp at h
theorem IJ (g:ak):∀(f at_:Nat) (out:List ba),(fS g f at_ out).2=0∨fS g f at_ out=([],5)
 | 0,_,_=>.inl rfl
 | f+1,at_,out=>by
  rw[fS]
  split
  .split
   .exact .inr rfl
   .exact IJ g f _ _
  .exact .inl rfl
theorem TU (g:ak):((cD g).2=0/\isRed g=true)∨(cD g=([],5)/\isRed g=true)∨(cD g=([],1)/\isRed g=false):=by
 unfold cD
 cases h:isRed g with
 | false=>exact .inr (.inr ⟨by simp,rfl⟩)
 | true =>
  rcases IJ g 302 0 eC with h | h
  .exact .inl ⟨h,rfl⟩
  .exact .inr (.inl ⟨h,rfl⟩)
theorem vA {g:ak} (a:g.c5) {x:aP} (c:cW g x) {s:Int} (h:bI g x=(s,true)):dS g s=true:=by
 obtain⟨h1,d⟩:=ye h
 have b:x.dot.toNat<(bV g x.aB).length:=by have:=c.2;omega
 have hm:s∈bV g x.aB:=by
  rw[<-d,aa7,aa8 b];exact abe _
 unfold bV at hm
 split at hm
 .simp at hm;subst hm
  have:=a.lB;have:=a.start
  unfold dS
  rw[aa9 (by omega)]
  simp;omega
 .have e:g.rules[x.aB.toNat]?=some (cd g x.aB):=by unfold cd;exact getD_some (by have:=c.1;omega)
  exact a.sym _ (abi e) s hm
def jk (a:List ba) (p:Nat) (s:Int):Nat:=(oF a p [s]).1.toNat
def uo (a:List ba) (p:Nat) (s:Int):Prop:=∃e∈(a.getD p cg).cG,e.sym=s
abbrev DP (g:ak) (a:List ba) (p:Nat):List aP:=dx g (a.getD p cg).bA
inductive Et (a:List ba):Nat->List Int->Nat->Prop
 | nil {p:Nat} : Et a p [] p
 | cons {p q:Nat} {s:Int} {X:List Int} : uo a p s->Et a (jk a p s) X q->Et a p (s::X) q
theorem Et.snoc {a:List ba} {p q:Nat} {X:List Int} (h:Et a p X q) {s:Int} (he:uo a q s):Et a p (X++[s]) (jk a q s):=by
 induction h with
 | nil=>exact .cons he .nil
 | cons h1 _ b=>exact .cons h1 (b he)
theorem N8 {a:List ba} {p:Nat} {s:Int} (h:uo a p s):p<a.length:=by
 obtain⟨e,he,_⟩:=h;exact(N6 he).1
theorem Nj {l:List fW} {s:Int} (h:∃e∈l,e.sym=s):∃e∈l,e.sym=s/\iy l s=e.to:=by
 induction l with
 | nil=>obtain⟨e,he,_⟩:=h;simp at he
 | cons e l c =>
  rw[iy]
  by_cases a:e.sym=s
  .rw[abb a];exact⟨e,by simp,a,rfl⟩
  .rw[aa9 a]
   obtain⟨d,h1,b⟩:=h
   rcases abw.1 h1 with rfl | h1
   .exact absurd b a
   .obtain⟨f,g,k2⟩:=c ⟨d,h1,b⟩
    exact⟨f,by simp[g],k2⟩
theorem WI {g:ak} {i j:Nat} (h:bj g i=bj g j):i=j:=by
 have h1:=AE g i
 rw[h,AE] at h1
 omega
theorem Nf (g:ak) (l:List aP) (n:Nat):(lV g l n).Nodup:=by
 unfold lV
 unfold List.Nodup
 rw[adq]
 exact((List.nodup_range (n:=n)).filter _).imp λa e=>a (WI e)
theorem VD {l:List fW} (h:(l.map fW.sym).Nodup) {e:fW} (he:e∈l):iy l e.sym=e.to:=by
 induction l with
 | nil=>simp at he
 | cons x l a =>
  simp only[abE,acd] at h
  rw[iy]
  rcases abw.1 he with rfl | he
  .rw[abb rfl]
  .rw[aa9 (λb=>h.1 (by rw[b];exact List.mem_map_of_mem he))]
   exact a h.2 he
structure eJ (g:ak) (a:List ba):Prop where
 jf:g.c5
 ok:J6 g a
 e:ln g a
 x:VQ g a
 pos:1<=a.length
section
variable {g:ak} {a:List ba}
theorem eJ.bA (h:eJ g a) {p:Nat} (hp:p<a.length):∀x∈(a.getD p cg).bA,cW g x:=(h.ok.bA _ (abi (getD_some hp))).2.2
theorem eJ.has (h:eJ g a) {p:Nat} (hp:p<a.length) {x:aP} (b:x∈DP g a p):cW g x:=((gQ h.jf (h.bA hp)).1 b).has (h.bA hp)
theorem eJ.Cb (h:eJ g a) {p:Nat} (hp:p<a.length) {s:Int} : uo a p s↔∃x∈DP g a p,bI g x=(s,true):=by
 have k:=h.x.all _ (abi (getD_some (d:=cg) hp))
 have e:uo a p s↔s∈((a.getD p cg).cG.map fW.sym):=by
  simp only[uo,abt]
 rw[e,k]
 simp only[lV,abt,acr,ab7,abn]
 constructor
 .rintro⟨i,⟨hi,f⟩,rfl⟩
  obtain⟨y,l⟩:=List.exists_mem_of_ne_nil _ f
  obtain⟨x,b,c,_⟩:=sr.1 l
  exact⟨x,b,c⟩
 .rintro⟨x,b,c⟩
  obtain⟨m,n⟩:=Ny (vA h.jf (h.has hp b) c)
  obtain⟨o,j⟩:=L9 m
  refine⟨(oI g s).toNat,⟨by omega,?_⟩,j⟩
  rw[j]
  exact List.ne_nil_of_mem (sr.2 ⟨x,b,c,rfl⟩)
theorem eJ.jk (h:eJ g a) {p:Nat} {s:Int} (he:uo a p s):∃e∈(a.getD p cg).cG,e.sym=s/\e.to=jk a p s/\jk a p s<a.length/\oF a p [s]=((jk a p s:Int),true):=by
 have hp:=N8 he
 have hm:=abi (getD_some (d:=cg) hp)
 obtain⟨e,h1,c,f⟩:=Nj he
 obtain⟨t1,t2⟩:=h.ok.to _ hm _ h1
 have hw:oF a p [s]=(e.to,true):=by
  unfold oF
  rw[aa9 (by omega),jU,abM,f,abb ⟨t1,t2⟩,jU]
 have b:((Gv.jk a p s:Nat):Int)=e.to:=by unfold Gv.jk;rw[hw];simp;omega
 exact⟨e,h1,c,b.symm,by omega,by rw[hw,b]⟩
theorem eJ.aaJ (h:eJ g a) {p:Nat} {s:Int} (he:uo a p s):(a.getD (Gv.jk a p s) cg).bA=bz g (DP g a p) s:=by
 have hm:=abi (getD_some (d:=cg) (N8 he))
 obtain⟨e,h1,b,c,_⟩:=h.jk he
 have:=h.e.Cb _ hm e h1
 rw[c,abM,b] at this
 exact this
theorem eJ.step (h:eJ g a) {p:Nat} (hp:p<a.length) {x:aP} (b:x∈DP g a p) {s:Int} (c:bI g x=(s,true)):uo a p s/\(⟨x.aB,x.dot+1⟩:aP)∈(a.getD (Gv.jk a p s) cg).bA/\(⟨x.aB,x.dot+1⟩:aP)∈DP g a (Gv.jk a p s)/\Gv.jk a p s<a.length:=by
 have he:=(h.Cb hp).2 ⟨x,b,c⟩
 obtain⟨_,_,_,_,d,_⟩:=h.jk he
 have hk:(⟨x.aB,x.dot+1⟩:aP)∈(a.getD (Gv.jk a p s) cg).bA:=by
  rw[h.aaJ he];exact sr.2 ⟨x,b,c,rfl⟩
 exact⟨he,hk,(gQ h.jf (h.bA d)).2 (.base hk),d⟩
theorem eJ.prev (h:eJ g a) {i:Nat} (hi:i<a.length) {x:aP} (c:x∈(a.getD i cg).bA) (f:0<i):∃(p:Nat) (y:aP) (s:Int),p<i/\p<a.length/\y∈DP g a p/\bI g y=(s,true)/\x=⟨y.aB,y.dot+1⟩/\uo a p s/\Gv.jk a p s=i:=by
 obtain⟨p,e,hp,he,d⟩:=h.x.back i f hi
 obtain⟨b,hm⟩:=N6 he
 have hk:=h.e.Cb _ hm e he
 rw[d,abM] at hk
 rw[hk] at c
 obtain⟨y,j,k,rfl⟩:=sr.1 c
 have l:uo a p e.sym:=⟨e,he,rfl⟩
 refine⟨p,y,e.sym,hp,b,j,k,rfl,l,?_⟩
 have h1:=VD (by rw[h.x.all _ hm];exact Nf _ _ _) he
 have hw:oF a p [e.sym]=(e.to,true):=by
  have:=h.ok.to _ hm _ he
  unfold oF
  rw[aa9 (by omega),jU,abM,h1,abb this,jU]
 unfold Gv.jk
 rw[hw,d];rfl
theorem Xy {x:aP} {s:Int} (b:cW g x) (h:bI g x=(s,true)):∃d:Nat,x.dot=d/\d<(bV g x.aB).length/\(bV g x.aB).drop d=s::(bV g x.aB).drop (d+1):=by
 obtain⟨h1,a⟩:=ye h
 have:=b.2
 refine⟨x.dot.toNat,by omega,by omega,?_⟩
 rw[abS (show x.dot.toNat<(bV g x.aB).length by omega)]
 rw[aa7,aa8 (show x.dot.toNat<(bV g x.aB).length by omega)] at a
 simp at a
 rw[a]
end
section
variable {g:ak} {a:List ba}
theorem O8 {x:aP} {s:Int} (a:cW g x) (h:bI g x=(s,true)):∃d:Nat,x.dot=d/\(bV g x.aB).drop d=s::gY g x/\(bV g x.aB).drop (d+1)=gY g x:=by
 obtain⟨d,h1,b,c⟩:=Xy a h
 have e:(bV g x.aB).drop (d+1)=gY g x:=by
  unfold gY
  by_cases f:0<=x.aB
  .rw[abb f,h1,bV,aa9 (by omega)];rfl
  .have hr:x.aB = -1:=by have:=a.1;omega
   rw[hr] at b ⊢
   simp only[bV,if_true] at b ⊢
   exact aby (by simp)
 exact⟨d,h1,by rw[c,e],e⟩
theorem XB (b:eJ g a) {q:Nat} (c:q<a.length) {C:Int} {k:Nat} (h:0<=C) (hk:k<g.rules.length) (i:(cd g k).left=C) (he:uo a q (-1-C)):(⟨k,0⟩:aP)∈DP g a q:=by
 obtain⟨x,d,e⟩:=(b.Cb c).1 he
 have f:g.rules[k]?=some (cd g k):=by unfold cd;exact getD_some hk
 exact(gQ b.jf (b.bA c)).2 (.step ((gQ b.jf (b.bA c)).1 d) e (by omega) f (by omega))
end
section
variable {g:ak} {a:List ba}
end
section
variable {g:ak} {a:List ba}
end
section
variable {g:ak} {a:List ba}
end
theorem H8 {g:ak} (h:(cD g).2=0):isRed g=true/\eJ g (cD g).1/\(cD g).1.length<=300:=by
 have hr:isRed g=true:=by
  rcases TU g with ⟨_,hr⟩ | ⟨b,hr⟩ | ⟨b,hr⟩
  .exact hr
  .exact hr
  .rw[b] at h;simp at h
 have a:=uV hr
 obtain⟨c,d,e⟩:=Wd a h
 exact⟨hr,⟨a,c,P8 a h,P2 a h,d⟩,e⟩
section
variable {g:ak} {a:List ba} {L:List (List ZQ)}
end
section
variable {g:ak} {a:List ba} {w:List Int}
end
section
variable {g:ak} {a:List ba}
end
structure bN where
 st:Nat
 it:aP
 ah:List Int
 be:List Int
def noN:bN:=⟨0,⟨0,0⟩,[],[]⟩
def jA (x y:bN):Bool:=decide (y.st=x.st)&&decide (y.it=x.it)
def iY (l:List bN) (x:bN):List bN:=if l.any (jA x)=true then l else l++[x]
def kg (g:ak) (x:bN) (s:Int):Nat->List bN->List bN
 | 0,l=>l
 | k+1,l=>if (cd g k).left = -1-s then iY (kg g x s k l) ⟨x.st,⟨k,0⟩,x.ah,gY g x.it++x.be⟩ else kg g x s k l
def gq (g:ak) (a:List ba) (l:List bN) (x:bN):List bN:=
 if (bI g x.it).2=true then kg g x (bI g x.it).1 g.rules.length (iY l ⟨jk a x.st (bI g x.it).1,⟨x.it.aB,x.it.dot+1⟩,x.ah++[(bI g x.it).1],x.be⟩) else l
def iU (g:ak) (a:List ba):Nat->Nat->List bN->List bN
 | 0,_,l=>l
 | f+1,i,l=>match l[i]? with
  | none=>l
  | some x=>iU g a f (i+1) (gq g a l x)
def me:List bN:=[⟨0,⟨-1,0⟩,[],[]⟩]
def cX (g:ak) (a:List ba):List bN:=iU g a 90000 0 me
def dK (l:List bN) (i:Nat):bN:=(l.find? λx=>decide (x.st=i)).getD noN
def dJ (g:ak) (x:aP):List Int:=(bV g x.aB).drop x.dot.toNat
theorem pn {g:ak} {x:aP} {s:Int} (a:cW g x) (h:bI g x=(s,true)):dJ g x=s::gY g x/\dJ g ⟨x.aB,x.dot+1⟩=gY g x:=by
 obtain⟨d,h1,b,c⟩:=O8 a h
 unfold dJ
 grind
section
variable {g:ak} {a:List ba}
structure Nd (g:ak) (a:List ba) (x:bN):Prop where
 lt:x.st<a.length
 it:x.it∈DP g a x.st
 Ik:Et a 0 x.ah x.st
 ZT:∀w,Sp g w (x.ah++(dJ g x.it++x.be)) 0 w.length->Sp g w [-1-g.start] 0 w.length
theorem Nd.start (b:eJ g a):Nd g a ⟨0,⟨-1,0⟩,[],[]⟩:=by
 refine⟨b.pos,(gQ b.jf (b.bA b.pos)).2 (.base (by rw[b.e.first];simp)),.nil,λw h=>?_⟩
 simpa [dJ,bV] using h
theorem Nd.move (b:eJ g a) {x:bN} (h:Nd g a x) {s:Int} (c:bI g x.it=(s,true)):Nd g a ⟨jk a x.st s,⟨x.it.aB,x.it.dot+1⟩,x.ah++[s],x.be⟩:=by
 obtain⟨s1,s2,d,e⟩:=b.step h.lt h.it c
 obtain⟨f1,f2⟩:=pn (b.has h.lt h.it) c
 refine⟨e,d,h.Ik.snoc s1,λw hw=>h.ZT w ?_⟩
 grind
theorem Nd.aB (b:eJ g a) {x:bN} (h:Nd g a x) {s:Int} (c:bI g x.it=(s,true)) {k:Nat} (hk:k<g.rules.length) (d:(cd g k).left = -1-s):Nd g a ⟨x.st,⟨k,0⟩,x.ah,gY g x.it++x.be⟩:=by
 obtain⟨s1,s2,o,p⟩:=b.step h.lt h.it c
 obtain⟨f1,f2⟩:=pn (b.has h.lt h.it) c
 have f:g.rules[k]?=some (cd g k):=by unfold cd;exact getD_some hk
 have l:=b.jf.left _ (abi f)
 refine⟨h.lt,XB b h.lt l.1 hk rfl (by rw[d];rw[show -1-(-1-s)=s by omega];exact s1),h.Ik,λw hw=>h.ZT w ?_⟩
 have e:dJ g ⟨k,0⟩=(cd g k).right:=by
  unfold dJ bV
  grind
 rw[e] at hw
 rw[f1]
 obtain⟨i,i1,i2⟩:=Sp.split hw
 obtain⟨j,m,n⟩:=Sp.split i2
 exact i1.app (.eN _ _ _ _ _ _ (by omega) (abi f) d m n)
def Ki (x:bN):Nat:=x.st*287+((x.it.aB+1)*7+x.it.dot).toNat
theorem Nd.small (b:eJ g a) {x:bN} (h:Nd g a x):0<=x.it.aB+1/\(x.it.aB+1)*7+x.it.dot<287/\0<=x.it.dot/\x.it.dot<=6:=by
 have h1:=b.has h.lt h.it
 have:=ed b.jf h1.1
 have:=h1.1;have:=h1.2;have:=b.jf.rules
 omega
theorem key_inj (b:eJ g a) {x y:bN} (c:Nd g a x) (d:Nd g a y) (h:Ki x=Ki y):y.st=x.st/\y.it=x.it:=by
 have h1:=c.small b;have j:=d.small b
 unfold Ki at h
 have e:y.st=x.st:=by omega
 have k:y.it.aB=x.it.aB:=by omega
 have l:y.it.dot=x.it.dot:=by omega
 refine⟨e,?_⟩
 cases f:x.it;cases i:y.it
 grind
structure kc (g:ak) (a:List ba) (l:List bN):Prop where
 nd:∀x∈l,Nd g a x
 one:(l.map Ki).Nodup
 len:∀(j:Nat) (x:bN),l[j]?=some x->x.ah.length<=j/\x.be.length<=6*j
theorem kc.short (b:eJ g a) (e:a.length<=300) {l:List bN} (h:kc g a l):l.length<=86100:=by
 have:=sK 86100 _ h.one λn c=>by
  obtain⟨x,d,rfl⟩:=abt.1 c
  have h1:=h.nd x d
  have:=h1.small b;have:=h1.lt
  unfold Ki
  omega
 grind
def v8 (l m:List bN):Prop:=∃t,m=l++t
theorem v8.refl {l:List bN} : v8 l l:=⟨[],by simp⟩
theorem v8.trans {l m n:List bN} (h:v8 l m) (k:v8 m n):v8 l n:=by
 obtain⟨t,rfl⟩:=h;obtain⟨u,rfl⟩:=k;exact⟨t++u,by simp⟩
theorem v8.mem {l m:List bN} (h:v8 l m) {x:bN} (a:x∈l):x∈m:=by
 obtain⟨t,rfl⟩:=h;exact abq.2 (.inl a)
theorem v8.at {l m:List bN} (h:v8 l m) {i:Nat} (hi:i<l.length):m[i]?=l[i]?/\i<m.length:=by
 obtain⟨t,rfl⟩:=h;exact⟨abF hi,by simp;omega⟩
def FQ (l:List bN) (st:Nat) (it:aP):Prop:=∃y∈l,y.st=st/\y.it=it
theorem FQ.up {l m:List bN} (h:v8 l m) {st:Nat} {it:aP} (k:FQ l st it):FQ m st it:=by
 obtain⟨y,a,k⟩:=k;exact⟨y,h.mem a,k⟩
theorem Fo (k:eJ g a) {l:List bN} (h:kc g a l) {x:bN} (o:Nd g a x) (h1:x.ah.length<=l.length) (q:x.be.length<=6*l.length):kc g a (iY l x)/\v8 l (iY l x)/\FQ (iY l x) x.st x.it:=by
 unfold iY
 split
 .rename_i c
  obtain⟨y,b,f⟩:=acE.1 c
  simp only[jA,abh,abn] at f
  exact⟨h,.refl,y,b,f⟩
 .rename_i c
  refine⟨⟨λy b=>?_,?_,λj y i=>?_⟩,⟨[x],rfl⟩,x,by simp,rfl,rfl⟩
  .rcases abq.1 b with b | b
   .exact h.nd y b
   .grind
  .rw[abA,acH]
   refine⟨h.one,by simp,λn p m hm e=>?_⟩
   obtain⟨y,b,rfl⟩:=abt.1 p
   simp at hm
   subst hm
   have:=key_inj k o (h.nd y b) e.symm
   exact c (acE.2 ⟨y,b,by simp[jA,this]⟩)
  .by_cases d:j<l.length
   .rw[abF d] at i;exact h.len j y i
   .grind
theorem GM (b:eJ g a) {x:bN} (c:Nd g a x) {s:Int} (d:bI g x.it=(s,true)):∀(k:Nat) (l:List bN),k<=g.rules.length->kc g a l->x.ah.length<=l.length->x.be.length+6<=6*l.length->kc g a (kg g x s k l)/\v8 l (kg g x s k l)/\∀j:Nat,j<k->(cd g j).left = -1-s->FQ (kg g x s k l) x.st ⟨j,0⟩
 | 0,l,_,h,_,_=>⟨h,.refl,λj i=>absurd i (by omega)⟩
 | k+1,l,hk,h,h1,m=>by
  obtain⟨i1,i2,i3⟩:=GM b c d k l (by omega) h h1 m
  rw[kg]
  have hle:l.length<=(kg g x s k l).length:=by obtain⟨t,n⟩:=i2;rw[n];simp
  split
  .rename_i o
   obtain⟨f1,f2⟩:=pn (b.has c.lt c.it) d
   have hr:(gY g x.it).length<=6:=by
    have:=ed b.jf (b.has c.lt c.it).1
    have e:=ach List.length f1
    simp[dJ] at e
    omega
   obtain⟨m1,m2,m3⟩:=Fo b i1 (c.aB b d (by omega) o) (by simp only;omega) (by simp only[abv];omega)
   refine⟨m1,i2.trans m2,λj i f=>?_⟩
   by_cases e:j=k
   .grind
   .exact(i3 j (by omega) f).up m2
  .grind
def J2 (g:ak) (a:List ba) (l:List bN) (x:bN):Prop:=∀s,bI g x.it=(s,true)->FQ l (jk a x.st s) ⟨x.it.aB,x.it.dot+1⟩/\∀k:Nat,k<g.rules.length->(cd g k).left = -1-s->FQ l x.st ⟨k,0⟩
theorem Am (c:eJ g a) {l:List bN} (h:kc g a l) {i:Nat} {x:bN} (hi:l[i]?=some x):kc g a (gq g a l x)/\v8 l (gq g a l x)/\J2 g a (gq g a l x) x:=by
 have e:=h.nd x (abi hi)
 have m:=(abf.1 hi).1
 have q:=h.len i x hi
 unfold gq
 split
 .rename_i f
  generalize j:(bI g x.it).1=s
  have d:bI g x.it=(s,true):=by grind
  obtain⟨m1,m2,m3⟩:=Fo c h (e.move c d) (by simp only[abv,abl,abG];omega) (by simp only;omega)
  have hle:l.length<=(iY l ⟨jk a x.st s,⟨x.it.aB,x.it.dot+1⟩,x.ah++[s],x.be⟩).length:=by obtain⟨t,n⟩:=m2;rw[n];simp
  obtain⟨o,k,p⟩:=GM c e d g.rules.length _ (abg _) m1 (by omega) (by omega)
  refine⟨o,m2.trans k,λr b=>?_⟩
  rw[d] at b
  simp only[abz,and_true] at b
  subst b
  exact⟨m3.up k,p⟩
 .rename_i f
  exact⟨h,.refl,λs j=>absurd (by rw[j]) f⟩
theorem GV (c:eJ g a) (o:a.length<=300):∀(f i:Nat) (l:List bN),kc g a l->i<=l.length->86101<=f+i->(∀(j:Nat) (x:bN),j<i->l[j]?=some x->J2 g a l x)->kc g a (iU g a f i l)/\v8 l (iU g a f i l)/\∀x∈iU g a f i l,J2 g a (iU g a f i l) x
 | 0,i,l,h,hi,p,hw=>absurd (h.short c o) (by omega)
 | f+1,i,l,h,hi,p,hw=>by
  rw[iU]
  cases e:l[i]? with
  | none =>
   have:=List.getElem?_eq_none_iff.1 e
   simp only
   refine⟨h,.refl,λx q=>?_⟩
   obtain⟨j,r⟩:=List.getElem?_of_mem q
   grind
  | some x =>
   have d:=(abf.1 e).1
   obtain⟨u,b,F⟩:=Am c h e
   have hle:l.length<=(gq g a l x).length:=by obtain⟨t,v⟩:=b;rw[v];simp
   obtain⟨w,z,A⟩:=GV c o f (i+1) _ u (by omega) (by omega) λj y r m=>by
    by_cases n:j=i
    .subst n
     rw[(b.at d).1,e] at m
     grind
    .rw[(b.at (i:=j) (by omega)).1] at m
     intro s B
     obtain⟨C,D⟩:=hw j y (by omega) m s B
     exact⟨C.up b,λk hk E=>(D k hk E).up b⟩
   exact⟨w,b.trans z,A⟩
theorem Au (d:eJ g a):kc g a me:=by
 refine⟨λx b=>?_,by simp[me],λj x c=>?_⟩
 .simp[me] at b;subst b;exact .start d
 .have:=(abf.1 c).1
  simp[me] at this
  subst this
  simp[me] at c
  grind
theorem Ah (b:eJ g a) (c:a.length<=300):kc g a (cX g a)/\(∀x∈cX g a,J2 g a (cX g a) x)/\FQ (cX g a) 0 ⟨-1,0⟩:=by
 obtain⟨d,e,f⟩:=GV b c 90000 0 me (Au b) (aco _) (by omega) λj x h=>absurd h (by omega)
 exact⟨d,f,⟨0,⟨-1,0⟩,[],[]⟩,e.mem (by simp[me]),rfl,rfl⟩
theorem Yv (b:eJ g a) (o:a.length<=300):∀n p:Nat,p<n->p<a.length->∀y∈DP g a p,FQ (cX g a) p y:=by
 obtain⟨h1,l,G⟩:=Ah b o
 intro n
 induction n with
 | zero=>grind
 | succ n r =>
  intro p hp c y t
  have v:=(gQ b.jf (b.bA c)).1 t
  induction v with
  | base hk =>
   by_cases d:p=0
   .subst d
    rw[b.e.first] at hk
    grind
   .obtain⟨q,z,s,H,w,A,B,rfl,I,J⟩:=b.prev c hk (by omega)
    obtain⟨u,hu,C,f⟩:=r q (by omega) w z A
    subst f
    have:=(l u hu s B).1
    grind
  | @step x s k R D E K m F h =>
   have i:=(gQ b.jf (b.bA c)).2 D
   obtain⟨u,hu,C,f⟩:=h i
   subst f
   have hk:=(abf.1 m).1
   have j:cd g k=R:=by unfold cd;rw[abM,aa7,m];rfl
   have:=(l u hu _ E).2 k hk (by rw[j];exact F)
   grind
theorem ET (b:eJ g a) (e:a.length<=300) {i:Nat} (hi:i<a.length):dK (cX g a) i∈cX g a/\(dK (cX g a) i).st=i/\Nd g a (dK (cX g a) i):=by
 obtain⟨h1,j,k⟩:=Ah b e
 have c:∃y,y∈DP g a i:=by
  have hk:=(b.ok.bA (a.getD i cg) (abi (getD_some hi))).2.1
  obtain⟨y,d⟩:=List.exists_mem_of_ne_nil _ hk
  exact⟨y,(gQ b.jf (b.bA hi)).2 (.base d)⟩
 obtain⟨y,d⟩:=c
 obtain⟨u,hu,l,m⟩:=Yv b e _ i (Nat.lt_succ_self i) hi y d
 unfold dK
 cases f:(cX g a).find? λx=>decide (x.st=i) with
 | none =>
  grind
 | some z =>
  have h:=List.find?_some f
  have z2:=List.mem_of_find?_eq_some f
  simp at h
  exact⟨z2,h,h1.nd z z2⟩
end
theorem DH {g:ak} (l:List Int):aG (dh g l).1/\(dh g l).1.length<=60:=by
 unfold dh
 split
 .split
  .unfold aG;simp
  .rename_i hk
   split
   .unfold aG;simp
   .rename_i b
    have a:=(hZ (aA g) l bp).1 (by simpa using hk)
    have:=Jr a (by omega)
    unfold aG;simp only;omega
 .unfold aG;simp
theorem zV {g:ak} {a l b:List Int} (h:(dh g (a++l++b)).2=0):dh g l=(dV g (aA g) g.av.length l,0):=by
 unfold dh at h
 split at h
 .rename_i h1
  split at h
  .simp at h
  .rename_i e
   split at h
   .simp at h
   .rename_i f
    simp only[adn,abh] at h1
    have c:=(hZ (aA g) (a++l++b) bp).1 (by simpa using e)
    have d:iH (aA g) l:=λx i=>c x (by simp[i])
    have t1:=px g g.av.length (a++l++b) bp (sT c) ie
    have t2:=px g g.av.length l bp (sT d) ie
    simp only[jO,gn,abv,bp] at t1 t2
    have j:(bS (aA g) l bp).2=true:=(hZ _ _ _).2 d
    simp only[bp] at f
    unfold dh
    rw[abb (by rw[abh];exact⟨h1.1,h1.2.1.2⟩),aa9 (by rw[j];simp),aa9]
    simp only[bp]
    omega
 .simp at h
theorem Wl {g:ak} {l:List Int} (h:(dh g l).2=0):bu g=true/\Sp g (dh g l).1 l 0 (dh g l).1.length/\(∀x∈(dh g l).1,0<=x/\x<g.ax.length):=by
 have h1:(bu g&&l.all (dS g))=true:=by
  unfold dh at h
  split at h
  .assumption
  .simp at h
 simp only[abh,abC] at h1
 have c:(bS (aA g) l bp).2=true:=by
  unfold dh at h
  split at h
  .split at h
   .simp at h
   .rename_i c;simpa using c
  .simp at h
 have hp:=zV (a:=[]) (l:=l) (b:=[]) (by simpa using h)
 have d:=(hZ (aA g) l bp).1 c
 have e:=bF h1.1
 have f:=Sg (λr hr=>(e.left r hr).1) g.av.length l (sT d)
 rw[hp]
 refine⟨h1.1,by simpa using YI f [] [],UG e.sym f h1.2⟩
section
variable {g:ak} {a:List ba}
def aan (g:ak) (l:List bN) (i:Nat):List Int × List Int:=((dK l i).ah,dJ g (dK l i).it++(dK l i).be)
def fq (g:ak) (a:List ba) (i:Nat):List Int × List Int:=aan g (cX g a) i
structure ix where
 state:Int
 len:Int
 word:List Int
def xC (g:ak) (a:List ba) (i:Nat):ix:=⟨i,((dh g (fq g a i).1).1.length:Int),(dh g ((fq g a i).1++(fq g a i).2)).1⟩
end
theorem EJ {g:ak} {u v:List Int} (h:(dh g (u++v)).2=0):(dh g u).2=0/\(dh g u).1.length<=(dh g (u++v)).1.length:=by
 have h1:=zV (a:=[]) (l:=u) (b:=v) (by simpa using h)
 have c:=zV (a:=[]) (l:=u++v) (b:=[]) (by simpa using h)
 rw[h1,c]
 refine⟨rfl,?_⟩
 simp only
 rw[gn,abv]
 omega
def dE (w:List Int) (p n:Nat) (o:List Int):List Int:=w.take p++(o++w.drop (p+n))
def fQ (g:ak) (w:List Int) (most:Int):Bool:=decide ((w.length:Int)<=most) && !(k6 g w).1
def im (g:ak) (w:List Int) (p:Nat) (t most:Int):List Int × Bool:=
 if p<w.length/\w.getD p 0≠t/\fQ g (dE w p 1 [t]) most=true then (dE w p 1 [t],true)
 else if fQ g (dE w p 0 [t]) most=true then (dE w p 0 [t],true) else ([],false)
def qW (g:ak) (w:List Int) (p t most:Int):(List Int × Bool) × Int:=
 if iZ g w=true/\(0<=p/\p<=w.length)/\(0<=t/\t<g.ax.length)/\(0<=most/\most<=60) then (im g w p.toNat t most,0) else (([],false),1)
theorem II {g:ak} {w:List Int} : iZ g w=true↔bu g=true/\w.length<=60/\∀x∈w,0<=x/\x<g.ax.length:=by
 unfold iZ Cf
 simp[and_assoc]
theorem vg {w:List Int} {p n:Nat} {o:List Int} {x:Int} (h:x∈dE w p n o):x∈w∨x∈o:=by
 rcases abq.1 h with h | h
 .exact .inl (acA h)
 .rcases abq.1 h with h | h
  .exact .inr h
  .exact .inl (List.mem_of_mem_drop h)
theorem G8 {g:ak} {w:List Int} {a:Int} (hr:bu g=true) (hw:∀x∈w,0<=x/\x<g.ax.length) (hm:a<=60) (b:(w.length:Int)<=a):k6 g w=(nQ g w,0):=by
 rw[k6,abb (II.2 ⟨hr,by omega,hw⟩)]
theorem Gn {g:ak} {w:List Int} {a:Int} (hr:bu g=true) (hw:∀x∈w,0<=x/\x<g.ax.length) (hm:a<=60):fQ g w a=true↔(w.length:Int)<=a/\nQ g w=false:=by
 unfold fQ
 by_cases b:(w.length:Int)<=a
 .rw[G8 hr hw hm b];simp[b]
 .simp[b]
theorem IL {g:ak} {w:List Int} {p n:Nat} {t:Int} (hw:∀x∈w,0<=x/\x<g.ax.length) (a:0<=t/\t<g.ax.length):∀x∈dE w p n [t],0<=x/\x<g.ax.length:=λx b=>by
 rcases vg b with h | h
 .exact hw x h
 .simp at h;subst h;exact a
theorem WR {g:ak} {w:List Int} {p:Nat} {t a:Int} (h:(im g w p t a).2=true):fQ g (im g w p t a).1 a=true:=by
 unfold im at h ⊢
 split
 .rename_i h1;exact h1.2.2
 .rename_i h1
  rw[aa9 h1] at h
  split
  .assumption
  .rename_i b;rw[aa9 b] at h;simp at h
def oS (g:ak) (b:ix) (most:Int) (n:Nat):List (List Int):=(List.range n).flatMap λ(t:Nat)=>if (im g b.word b.len.toNat t most).2=true then [(im g b.word b.len.toNat t most).1] else []
def ky (g:ak) (b:ix) (most:Int):List (List Int):=
 oS g b most g.ax.length
 ++ (if b.len<b.word.length/\fQ g (dE b.word b.len.toNat 1 []) most=true then [dE b.word b.len.toNat 1 []] else [])
 ++ (if b.len+1<b.word.length/\fQ g (b.word.take b.len.toNat) most=true then [b.word.take b.len.toNat] else [])
theorem xj (g:ak) (b:ix) (a:Int) (n:Nat):oS g b a (n+1)=oS g b a n++(if (im g b.word b.len.toNat n a).2=true then [(im g b.word b.len.toNat n a).1] else []):=by
 unfold oS
 rw[acD,List.flatMap_append]
 simp
theorem D6 (g:ak) (b:ix) (a:Int):(ky g b a).length<=g.ax.length+2:=by
 have h:∀n,(oS g b a n).length<=n:=λn=>by
  induction n with
  | zero=>simp[oS]
  | succ n c =>
   rw[xj,abv]
   split<;>simp<;>omega
 have:=h g.ax.length
 unfold ky
 split<;>split<;>simp<;>omega
theorem VJ {g:ak} {b:ix} {a:Int} {x:List Int} (h:x∈ky g b a):fQ g x a=true:=by
 rcases abq.1 h with h | h
 .rcases abq.1 h with h | h
  .obtain⟨t,_,c⟩:=ac2.1 h
   split at c
   .rename_i h1
    simp at c
    rw[c]
    exact WR h1
   .simp at c
  .split at h
   .rename_i h1;simp at h;rw[h];exact h1.2
   .simp at h
 .split at h
  .rename_i h1;simp at h;rw[h];exact h1.2
  .simp at h
theorem Qu {g:ak} {b:ix} {c:Int} (hw:∀x∈b.word,0<=x/\x<g.ax.length) {x:List Int} (h:x∈ky g b c):∀y∈x,0<=y/\y<g.ax.length:=by
 rcases abq.1 h with h | h
 .rcases abq.1 h with h | h
  .obtain⟨t,e,d⟩:=ac2.1 h
   have f:=ab7.1 e
   split at d
   .simp at d
    rw[d]
    unfold im
    split
    .exact IL hw (by omega)
    .split
     .exact IL hw (by omega)
     .simp
   .simp at d
  .split at h
   .simp at h
    subst h
    intro y a
    rcases vg a with a | a
    .exact hw y a
    .simp at a
   .simp at h
 .split at h
  .simp at h
   subst h
   exact λy a=>hw y (acA a)
  .simp at h
abbrev aaf:=Option Nat
section
variable {g:ak}
end
abbrev aae:=List (List aaf)
section
variable {g:ak} {c:aae}
end
section
variable {g:ak}
end
theorem HX (l:List Int):((aO l).all λe=>e.length==1&&e.all aK)=true:=by simp[aK]
theorem bG {g:ak} (d:g.Ok) {n:Nat} {w:List Int} (hr:bu g=true) (h:n<=10) (hw:w∈Mk (nQ g) g.ax.length n []):k6 g w=(true,0)/\w.length=n/\aG w/\∀x∈w,bm x:=by
 obtain⟨h1,s,e,f,c⟩:=MP _ _ _ hw
 rw[ab3] at e
 subst e
 refine⟨?_,f,by unfold aG;omega,λx a=>?_⟩
 .rw[k6,abb,h1]
  simp only[iZ,abh,abn]
  refine⟨⟨hr,by omega⟩,?_⟩
  unfold Cf
  rw[abC]
  intro x a
  have:=c x a
  simpa using this
 .have:=c x a
  have b:=d.ax
  unfold aG at b
  unfold bm
  omega
def uy:SF:=⟨ai [ag [bZ 3 0,bb 6 false],ai [ag [af 9 1,aM 10 9,af 11 2,aS 12 .gtr 10 11],aX 12 (ai [ag [bb 6 false],.ret])],ag [aV 14 4 3,af 15 1,aU 16 35 [14,15],af 13 16,c7 17 0 13,c7 18 1 13,af 7 17,af 8 18],ag [af 19 7,cO 20 19,af 6 20],.ret],
 [.tmp 6],21⟩
theorem Ad:aJ aa 84 [3]=some uy:=by kernel_rfl
def uC:SF:=⟨ai [ag [bL 8 1],ag [bL 10 2,af 11 0,af 12 1,((some 13),.op (.slice 1 (.tmp 11) none (some (.tmp 12)))),eZ 14 1 8 10 13,af 9 14],ag [af 15 9,af 16 3,eZ 17 1 8 15 16,af 9 17],ag [af 18 9,af 19 0,af 20 1,af 21 2,aS 22 .add 20 21,((some 23),.op (.slice 1 (.tmp 19) (some (.tmp 22)) none)),eZ 24 1 8 18 23,af 8 24],.ret],
 [.tmp 8],25⟩
theorem zH:aJ aa 85 []=some uC:=by kernel_rfl
def q8:SF:=⟨ai [ag [bZ 5 0,bL 10 1,bb 11 false],ai [.region true [⟨none,[af 12 2,af 13 1,aM 14 13,aS 15 .lss 12 14,af 16 15]⟩,⟨(some (16,true)),[af 17 1,af 18 2,aL 19 1 17 18,au 20 19,af 21 3,aS 22 .neq 20 21]⟩,⟨none,[dA 23 16 22,af 24 23]⟩,⟨(some (24,true)),[aV 25 4 5,af 26 1,af 27 2,af 28 3,((some 29),.op (.bH 1 1 [(.val (.int .i64 0))] [(0,(.tmp 28))])),lG 30 85 [(.tmp 26),(.tmp 27),(.val (.val (.int .i64 1))),(.tmp 29)],af 31 4,aU 32 84 [25,30,31]]⟩,⟨none,[dA 33 24 32]⟩],aX 33 (ai [ag [af 34 1,af 35 2,af 36 3,((some 37),.op (.bH 1 1 [(.val (.int .i64 0))] [(0,(.tmp 36))])),lG 38 85 [(.tmp 34),(.tmp 35),(.val (.val (.int .i64 1))),(.tmp 37)],af 10 38,bb 11 true],.ret])],ai [.region true [⟨none,[aV 39 4 5,af 40 1,af 41 2,af 42 3,((some 43),.op (.bH 1 1 [(.val (.int .i64 0))] [(0,(.tmp 42))])),lG 44 85 [(.tmp 40),(.tmp 41),(.val (.val (.int .i64 0))),(.tmp 43)],af 45 4,aU 46 84 [39,44,45]]⟩],aX 46 (ai [ag [af 47 1,af 48 2,af 49 3,((some 50),.op (.bH 1 1 [(.val (.int .i64 0))] [(0,(.tmp 49))])),lG 51 85 [(.tmp 47),(.tmp 48),(.val (.val (.int .i64 0))),(.tmp 50)],af 10 51,bb 11 true],.ret])],ag [bL 10 1,bb 11 false],.ret],
 [.tmp 10,.tmp 11],52⟩
theorem wm:aJ aa 81 [5]=some q8:=by kernel_rfl
theorem Ea (g:ak) (b:g.Ok) (w:List Int) (hw:aG w) (c:∀x∈w,bm x) (m:Int):aC aa 84 [.agg (aj g),encI w,gi m] (gb (fQ g w m)):=by
 refine aC.val (by
  intro v a;simp at a
  rcases a with rfl | rfl | rfl
  .exact dy g _ (by simp)
  .exact bg _
  .exact .val _) λH=>?_
 have h1:=V0 g b w hw c
 unfold fQ
 generalize k6 g w=x at *
 refine az.of mixed Ad ?_
 unfold aG at hw
 simp only[aj,encS,encI] at h1
 simp(disch:=omega)only[↓wr,seval,wq,uy,encI,aj,encS]
 apply ao.dec<;>intro d
 .rw[decide_eq_false (show ¬ ((w.length:Int)<=m) by omega)]
  simp(disch:=omega)only[↓wr,seval,wq]
  rfl
 .rw[abJ (show ((w.length:Int)<=m) by omega)]
  simp(disch:=omega)only[↓wr,seval,wq]
  refine ay.pure h1 ?_
  simp(disch:=omega)only[↓wr,seval,wq,Br]
  rw[abQ]
theorem Lm (w:List Int) (hw:w.length<=100000) (p n:Nat) (hp:p+n<=w.length) (o:List Int) (q:o.length<=100000):bX aa 85 [encI w,gi p,gi n,encI o] (encI (dE w p n o)):=by
 refine bX.of (by
  intro v c;simp at c
  rcases c with rfl | rfl | rfl | rfl
  .exact bg _
  .exact .val _
  .exact .val _
  .exact bg _) ?_
 refine az.of mixed zH ?_
 have b:=uU (l:=w) (k:=p) (by omega)
 have a:=qM (l:=w) (k:=p+n) (by omega)
 rw[Int.natCast_add] at a
 simp(disch:=omega)only[↓wr,seval,wq,uC,encI,b]
 refine dw (es:=[]) .nil (HX (w.take p)) (by unfold aE;simp;omega) (by unfold aE;simp;omega) ?_
 rintro u H1 d -
 simp(disch:=omega)only[↓wr,seval,wq]
 refine dw d (HX o) (by unfold aE;simp;omega) (by unfold aE;simp;omega) ?_
 rintro r s g -
 simp(disch:=omega)only[↓wr,seval,wq,a]
 refine dw g (HX (w.drop (p+n))) (by unfold aE;simp;omega) (by unfold aE;simp;omega) ?_
 rintro h i j -
 simp(disch:=omega)only[↓wr,seval,wq]
 intro t m
 refine dF.D3 (sz:=1) (f:=λx:Int=>.int .i64 x) ?_
 rw[m]
 have e:aO (dE w p n o)=[]++aO (w.take p)++aO o++aO (w.drop (p+n)):=by unfold dE;simp
 show aN i h 1 (aO (dE w p n o))
 rw[e]
 exact j
def L5 (x:List Int × Bool):V:=.bc [encI x.1,gb x.2]
theorem I1 (x:List Int × Bool):Tree (L5 x):=tP (bg _) (.val _)
theorem Sl {w:List Int} {p n:Nat} {t:Int} (a:∀x∈w,bm x) (b:bm t):∀x∈dE w p n [t],bm x:=λx c=>by
 rcases vg c with h | h
 .exact a x h
 .simp at h;subst h;exact b
theorem JF {w:List Int} {p n:Nat} {t:Int} (hw:w.length<=1000):aG (dE w p n [t]):=by
 unfold aG dE
 simp
 omega
theorem Pl {h:Heap} {u v:V} {b:Bool} (hu:Fr h u v):Fr h (.bc [u,gb b]) (.bc [v,gb b]):=.bc _ _ rfl λi hi=>by
 match i,hi with
 | 0,_=>exact hu
 | 1,_=>exact .tree _ (.val _)
theorem Nr (g:ak) (r:g.Ok) (w:List Int) (hw:w.length<=1000) (s:∀x∈w,bm x) (p:Nat) (hp:p<=w.length) (t:Int) (u:bm t) (m:Int):
  aC aa 81 [.agg (aj g),encI w,gi p,gi t,gi m] (L5 (im g w p t m)):=by
 refine aC.of (by
  intro v o;simp at o
  rcases o with rfl | rfl | rfl | rfl | rfl
  .exact dy g _ (by simp)
  .exact bg _
  .exact .val _
  .exact .val _
  .exact .val _) ?_
 have a:=λn (h:p+n<=w.length)=>Lm w (by omega) p n h [t] (by simp)
 have b:=λn=>Ea g r (dE w p n [t]) (JF hw) (Sl s u) m
 have i:p<w.length->w[p]?=some (w.getD p 0):=λh=>getD_some h
 unfold im
 refine az.of mixed wm ?_
 simp only[aj,encS] at b
 simp(disch:=omega)only[↓wr,seval,wq,q8,encI,aj,encS]
 apply ao.dec<;>intro y
 rotate_left
 have c:¬ (p<w.length/\w.getD p 0≠t/\fQ g (dE w p 1 [t]) m=true):=λh=>by omega
 rotate_left
 have f:p<w.length:=by omega
 replace i:=i f
 generalize w.getD p 0=x at i
 simp(disch:=omega)only[↓wr,seval,wq,aba,i]
 apply ao.ne<;>intro d
 rotate_left
 have c:¬ (p<w.length/\x≠t/\fQ g (dE w p 1 [t]) m=true):=λh=>h.2.1 d
 rotate_left 2
 simp(disch:=omega)only[↓wr,seval,wq]
 intro q0;try intro z
 refine ay.gV (a 1 (by omega)) (by kernel_rfl) ⟨.tree (bg w),.tree (.val _),.tree (.val _),.xL (l:=[t]) aN.new,trivial⟩ ?_
 simp(disch:=omega)only[↓wr,seval,wq]
 refine ay.pure (b 1) ?_
 simp(disch:=omega)only[↓wr,seval,wq]
 apply ao.split<;>intro e
 .simp(disch:=omega)only[↓wr,seval,wq,encI]
  intro A;try intro j
  refine ay.gV (a 1 (by omega)) (by kernel_rfl) ⟨.tree (bg w),.tree (.val _),.tree (.val _),.xL (l:=[t]) aN.new,trivial⟩ ?_
  simp(disch:=omega)only[↓wr,seval,wq]
  intro q _
  rw[abb ⟨f,d,e⟩]
  exact .tree _ (I1 (_,true))
 have c:¬ (p<w.length/\x≠t/\fQ g (dE w p 1 [t]) m=true):=λh=>by rw[e] at h;simp at h
 all_goals (
  simp(disch:=omega)only[↓wr,seval,wq,encI]
  intro C;try intro B
  refine ay.gV (a 0 (by omega)) (by kernel_rfl) ⟨.tree (bg w),.tree (.val _),.tree (.val _),.xL (l:=[t]) aN.new,trivial⟩ ?_
  simp(disch:=omega)only[↓wr,seval,wq]
  refine ay.pure (b 0) ?_
  simp(disch:=omega)only[↓wr,seval,wq]
  apply ao.split<;>intro k
  .simp(disch:=omega)only[↓wr,seval,wq,encI]
   intro A;try intro j
   refine ay.gV (a 0 (by omega)) (by kernel_rfl) ⟨.tree (bg w),.tree (.val _),.tree (.val _),.xL (l:=[t]) aN.new,trivial⟩ ?_
   simp(disch:=omega)only[↓wr,seval,wq]
   intro q _
   rw[aa9 c,abb k]
   exact .tree _ (I1 (_,true))
  .simp(disch:=omega)only[↓wr,seval,wq]
   intro q _
   rw[aa9 c,aa9 (by rw[k];simp)]
   exact Pl (.emp 1))
def Hl (x:(List Int × Bool) × Int):V:=.bc [encI x.1.1,gb x.1.2,gi x.2]
theorem Bz {g:ak} {x:bN} {s:Int} (h:∀k:Nat,k<g.rules.length->(cd g k).left≠-1-s):∀(k:Nat) (l:List bN),k<=g.rules.length->kg g x s k l=l
 | 0,_,_=>rfl
 | k+1,l,hk=>by
  rw[kg,aa9 (h k (by omega)),Bz h k l (by omega)]
def gX:List bN->Int->Nat->Int
 | [],_,_=>-1
 | x::l,i,n=>if (x.st:Int)=i then n else gX l i (n+1)
theorem F4 (i:Int):∀(l:List bN) (n:Nat) (x:bN),gX (l++[x]) i n=if gX l i n<0 then (if (x.st:Int)=i then ((n+l.length:Nat):Int) else -1) else gX l i n
 | [],n,x=>by simp[gX]
 | y::l,n,x=>by
  rw[abN,gX,gX]
  split
  .rw[aa9 (by omega)]
  .rw[F4 i l (n+1) x]
   split
   .split
    .simp only[abl];congr 1;omega
    .rfl
   .rfl
theorem Ds (i:Nat):∀(l:List bN) (n:Nat),(∃x∈l,x.st=i)->∃k:Nat,gX l i n=((n+k:Nat):Int)/\k<l.length/\l[k]?=some (dK l i)
 | [],_,h=>by obtain⟨x,a,_⟩:=h;simp at a
 | y::l,n,h=>by
  rw[gX]
  by_cases e:y.st=i
  .rw[abb (by omega)]
   exact⟨0,rfl,by simp,by simp[dK,e]⟩
  .rw[aa9 (by omega)]
   obtain⟨x,a,hi⟩:=h
   have b:x∈l:=by
    rcases abw.1 a with rfl | a
    .exact absurd hi e
    .exact a
   obtain⟨k,h1,d,c⟩:=Ds i l (n+1) ⟨x,b,hi⟩
   refine⟨k+1,by rw[h1];congr 1;omega,by simp only[abl];omega,?_⟩
   rw[abT,c]
   simp[dK,e]
theorem TC (us:List (List Int)) (w:us.flatten.length<=1000000) (hu:us.length<=1000):bX aa 68 [.aY (WY us)] (encI us.flatten):=by
 have d:∀i,(us.take i).flatten.length<=1000000:=λi=>by
  have:=ac8 i us
  have b:us.flatten=(us.take i).flatten++(us.drop i).flatten:=by rw[<-List.flatten_append,this]
  rw[b,abv] at w;omega
 refine bX.of (by intro v g;simp at g;subst g;exact eA _ _ λx _ v g=>by simp at g;subst g;exact bg x) ?_
 refine az.of mixed rf ?_
 simp(disch:=omega)only[↓wr,seval,wq,lE]
 refine aW.up us.length (λi T H'=>H'=(λ_=>.dead)/\T 0=.aY (WY us)/\T 3=gi (us.take i).flatten.length/\T 9=.aY (WY us)/\T 10=gi us.length/\T 11=gi i) ⟨rfl,rfl,rfl,rfl,rfl,rfl⟩ ?_
 rintro i k T H1 hk ⟨rfl,t0,t3,t9,t10,t11⟩
 simp(disch:=omega)only[↓wr,seval,wq,kQ,t10,t11]
 apply ao.dec<;>intro hi
 .have b:us[i]?=some (us[i]'(by omega)):=aa8 (by omega)
  have a:us.take (i+1)=us.take i++[us[i]'(by omega)]:=by rw[abr,b];rfl
  have c:=d (i+1)
  generalize us[i]'(by omega)=x at b a
  rw[a] at c
  simp only[List.flatten_append,List.flatten_cons,List.flatten_nil,abV,abv] at c
  simp(disch:=omega)only[↓wr,seval,wq,t3,t9,t11,aba,b,encI]
  refine ao.dec (λh=>absurd h (by omega)) (λ_=>?_)
  simp(disch:=omega)only[↓wr,seval,wq,t11]
  refine aF hk (by omega) ⟨rfl,t0,?_,t9,t10,rfl⟩
  rw[a,List.flatten_append,abv,List.flatten_cons,List.flatten_nil,abV]
  push_cast
  rfl
 .simp(disch:=omega)only[↓wr,seval,wq,t3]
  have e:us.take i=us:=abo (by omega)
  rw[e]
  refine ay.cF ((PQ _ w _).mono ?_)
  intro r y hr
  have j:JZ y r []:=by
   rcases hr with ⟨_,rfl,rfl⟩ | ⟨_,m,es,hm,rfl,rfl⟩
   .exact .inl .nil
   .exact .inr ⟨rfl,m,es,rfl,by simp[View.set]⟩
  have l:us.flatten.length=0->aN y r 1 (aO []):=λo=>by
   rcases hr with ⟨_,rfl,_⟩ | ⟨h1,_⟩
   .exact .nil
   .omega
  simp(disch:=omega)only[↓wr,seval,wq,t0]
  refine aW.up us.length (λi T H'=>∃u,T 6=u/\JZ H' u (us.take i).flatten/\(us.flatten.length=0->aN H' u 1 (aO (us.take i).flatten))/\T 25=.aY (WY us)/\T 26=gi us.length/\T 27=gi i) ⟨r,rfl,j,l,rfl,rfl,rfl⟩ ?_
  rintro i k T z hk ⟨u,t6,p,q,t25,t26,t27⟩
  simp(disch:=omega)only[↓wr,seval,wq,kM,t26,t27]
  apply ao.dec<;>intro hi
  .have b:us[i]?=some (us[i]'(by omega)):=aa8 (by omega)
   have a:us.take (i+1)=us.take i++[us[i]'(by omega)]:=by rw[abr,b];rfl
   have c:=d (i+1)
   generalize us[i]'(by omega)=x at b a
   rw[a,List.flatten_append,abv,List.flatten_cons,List.flatten_nil,abV] at c
   simp(disch:=omega)only[↓wr,seval,wq,t6,t25,t27,aba,b,encI]
   refine Q4 p (by unfold aE;omega) (by unfold aE;omega) rfl ?_
   intro u' A s t B
   simp(disch:=omega)only[↓wr,seval,wq,t27]
   refine aF hk (by omega) ⟨u',rfl,?_,λo=>?_,t25,t26,rfl⟩
   .rw[a];simpa using s
   .rw[a];simpa using t (q o)
  .simp(disch:=omega)only[↓wr,seval,wq,t6]
   have e:us.take i=us:=abo (by omega)
   rw[e] at p q
   intro C g
   refine dF.D3 (sz:=1) (f:=λn=>.int .i64 n) ?_
   rw[g]
   rcases p with p | ⟨o,m,es,rfl,hm⟩
   .exact p
   .have:=q (by rw[o];rfl)
    rw[o] at this ⊢;exact this
def EC (v:V) (l:List Int):Prop:=v=encI l∨(l=[]/\v=.emp 1)
theorem EC.kI {v:V} {l:List Int} (h:EC v l) {H:View} : cm H v (encI l):=by
 rcases h with rfl | ⟨rfl,rfl⟩
 .exact .tree (bg l)
 .exact λ_ _=>.emp 1
theorem EC.eL {v:V} {l:List Int} (h:EC v l):aK v=true/\V.cells v=[v]/\Tree v:=by
 rcases h with rfl | ⟨rfl,rfl⟩
 .exact⟨rfl,rfl,bg l⟩
 .exact⟨rfl,rfl,.emp 1⟩
structure eK where
 n:bN
 a:V
 b:V
structure eK.Ok (x:eK):Prop where
 a:EC x.a x.n.ah
 b:EC x.b x.n.be
def dM (x:eK):List V:=[gi x.n.st,gi x.n.it.aB,gi x.n.it.dot,x.a,x.b]
def D9 (S:List eK) (x:eK):List eK:=if S.any (λy=>jA x.n y.n)=true then S else S++[x]
theorem SH (S:List eK) (x:eK):(D9 S x).map eK.n=iY (S.map eK.n) x.n:=by
 unfold D9 iY
 rw[List.any_map]
 have e:(jA x.n∘eK.n)=λy:eK=>jA x.n y.n:=rfl
 rw[e]
 split<;>simp
theorem Oi {S:List eK} {x:eK} (b:∀y∈S,y.Ok) (c:x.Ok):∀y∈D9 S x,y.Ok:=by
 unfold D9
 split
 .exact b
 .intro y a
  rcases abq.1 a with a | a
  .exact b y a
  .simp at a;subst a;exact c
def tN:SF:=⟨ai [ag [bL 4 1],ag [bL 5 2,af 6 0,eZ 7 1 8 5 6,af 8 1,eZ 9 1 8 7 8,af 4 9],.ret],
 [.tmp 4],10⟩
theorem yG:aJ aa 65 []=some tN:=by kernel_rfl
def rz:SF:=⟨ai [ag [bZ 2 0,bL 4 1],ai [ag [af 5 1,aI 6 .lss 5 0],aX 6 (ai [ag [aw 7 3 2,au 8 7,((some 9),.op (.arith .sub (.val (.val (.int .i64 (-1)))) (.tmp 8))),((some 10),.op (.bH 1 1 [(.val (.int .i64 0))] [(0,(.tmp 9))])),af 4 10],.ret])],ag [aw 11 2 2,au 12 11,af 13 1,aL 14 3 12 13,aw 15 1 14,au 16 15,af 4 16],.ret],
 [.tmp 4],17⟩
theorem xS:aJ aa 66 [2]=some rz:=by kernel_rfl
def rQ:SC:=
 ai [ai [ag [af 6 5,af 7 0,aM 8 7,aS 9 .lss 6 8],bO 9 (.exit 0)],.block 1 (ai [.region false [⟨none,[af 12 0,af 13 5,aL 14 5 12 13,aw 15 0 14,au 16 15,aw 17 0 3,au 18 17,aS 19 .eql 16 18,af 20 19]⟩,⟨(some (20,true)),[af 21 0,af 22 5,aL 23 5 21 22,aw 24 1 23,aV 25 2 24,aw 26 1 3,aV 27 2 26,((some 28),.op (.old (.binOp .eql 120 (.tmp 25) (.tmp 27) 120) 4))]⟩,⟨none,[dA 29 20 28]⟩],aX 29 (ai [ag [af 30 0,af 4 30],.ret])]),ag [af 10 5,aI 11 .add 10 1,af 5 11]]
def uz:SF:=⟨ai [ag [bZ 3 1,bL 4 1],ai [ag [aT 5 0],bR 0 rQ],ag [af 31 0,aV 32 5 3,((some 33),.op (.bH 1 5 [(.val (.int .i64 0)),(.val (.int .i64 0)),(.val (.int .i64 0)),(.emp 1),(.emp 1)] [(0,(.tmp 32))])),eZ 34 5 72 31 33,af 4 34],.ret],
 [.tmp 4],35⟩
theorem zM:aJ aa 128 [3]=some uz:=by kernel_rfl
theorem xp (a b:List Int) (e:a.length+b.length<=1000000):bX aa 65 [encI a,encI b] (encI (a++b)):=by
 refine bX.of (by
  intro v c;simp at c
  rcases c with rfl | rfl<;>exact bg _) ?_
 refine az.of mixed yG ?_
 simp(disch:=omega)only[↓wr,seval,wq,tN,encI]
 refine dw (es:=[]) .nil (by simp[aK]) (by unfold aE;simp;omega) (by unfold aE;simp;omega) ?_
 intro u H o _
 simp(disch:=omega)only[↓wr,seval,wq]
 refine dw o (by simp[aK]) (by unfold aE;simp;omega) (by unfold aE;simp;omega) ?_
 intro g h d _
 simp(disch:=omega)only[↓wr,seval,wq]
 intro i c
 refine dF.D3 (sz:=1) (f:=λn=>.int .i64 n) ?_
 rw[c]
 simpa using d
theorem FT (g:ak) (c:bm (-1-g.start)) (r:Int) (h : -1<=r/\r<g.rules.length):aC aa 66 [.agg (aj g),gi r] (encI (bV g r)):=by
 refine aC.of (by
  intro v a;simp at a
  rcases a with rfl | rfl
  .exact bW _ (cy g)
  .exact .val _) ?_
 unfold bm at c
 refine az.of mixed xS ?_
 simp(disch:=omega)only[↓wr,seval,wq,rz,aj,encS]
 unfold bV
 apply ao.dec<;>intro h1
 .rw[abb (by omega)]
  simp(disch:=omega)only[↓wr,seval,wq]
  intro n b a
  exact cm.own (sz:=1) (es:=aO [-1-g.start]) (.inr ⟨n,rfl,by simp[View.set]⟩) (by intro e he v a;simp at he;subst he;simp at a;subst a;exact .val _) b a
 .rw[aa9 (by omega)]
  have d:g.rules[r.toNat]?=some (cd g r):=by unfold cd;exact getD_some (by omega)
  simp(disch:=omega)only[↓wr,seval,wq,aQ,aba,d]
  intro b _
  exact .tree _ (bg _)
theorem TI {x:eK} (c:x.Ok):(([dM x]:List (List V)).all λe=>e.length==5&&e.all aK)=true:=by
 simp only[dM,acj,List.all_nil,c.a.eL.1,c.b.eL.1];rfl
theorem LQ (S:List eK) (x:eK) (t:x.Ok) (K:S.length<=90000) (u:V) (H:View) (s:aN H u 5 (S.map dM)):az aa 128 [u,.agg (dM x)] H λr H'=>aN H' r 5 ((D9 S x).map dM)/\Left H H' u r:=by
 refine az.of mixed zM ?_
 have hlen:cE u=some S.length:=by rw[s.len];simp
 have e:=TI t
 obtain⟨⟨f,v,_⟩,⟨g,w,_⟩⟩:=And.intro t.a.eL t.b.eL
 simp only[dM] at e
 simp(disch:=omega)only[↓wr,seval,wq,uz,dM,f,g]
 refine aW.up S.length (λi T H'=>H'=H/\((S.take i).any λy=>jA x.n y.n)=false/\T 0=u/\T 3=.aR (dM x) 0/\T 5=gi i) ⟨rfl,rfl,rfl,rfl,rfl⟩ ?_
 rintro i k T H' hk ⟨E,c,t0,t3,t5⟩
 subst E
 simp(disch:=omega)only[↓wr,seval,wq,rQ,t0,t5,hlen]
 apply ao.dec<;>intro F
 .have z:S[i]?=some (S[i]'(by omega)):=aa8 (by omega)
  have h:S.take (i+1)=S.take i++[S[i]'(by omega)]:=by rw[abr,z];rfl
  have j:=abe (show i<S.length by omega)
  generalize S[i]'(by omega)=y at z h j
  obtain⟨id,hu,l⟩:=s.sl (by simp;omega)
  rw[abc] at hu
  have B:(S.map dM).getD i []=dM y:=by simp[z]
  simp(disch:=omega)only[↓wr,seval,wq,t0,t3,t5,hu,l,B,dM]
  refine⟨by omega,by first | omega | (simp;omega),?_⟩
  have m:((S.take (i+1)).any λy=>jA x.n y.n)=jA x.n y.n:=by
   rw[h,List.any_append,c];simp
  apply ao.eq<;>intro G
  .simp(disch:=omega)only[↓wr,seval,wq,t0,t3,t5,hu,l,B,dM]
   refine⟨by omega,by first | omega | (simp;omega),?_⟩
   refine kn (xs:=#[.int .i64 y.n.it.aB,.int .i64 y.n.it.dot]) (ys:=#[.int .i64 x.n.it.aB,.int .i64 x.n.it.dot]) Tryz.underlying120 (by kernel_rfl) (by kernel_rfl) ?_ ?_ (sQ y.n.it x.n.it) (.inl ⟨rfl,rfl⟩) ?_
   .rfl
   .rfl
   rw[Bw]
   have p:jA x.n y.n=decide (y.n.it=x.n.it):=by
    unfold jA
    rw[abJ (by omega:y.n.st=x.n.st),abQ]
   simp(disch:=omega)only[↓wr,seval,wq]
   apply ao.dec<;>intro A
   .simp(disch:=omega)only[↓wr,seval,wq,t0]
    have d:D9 S x=S:=abb (acE.2 ⟨y,j,by rw[p];simpa using A⟩)
    rw[d]
    exact⟨s,.refl⟩
   .simp(disch:=omega)only[↓wr,seval,wq,t0,t3,t5]
    refine aF hk (by omega) ⟨rfl,?_,t0,t3,rfl⟩
    rw[m,p];simpa using A
  .simp(disch:=omega)only[↓wr,seval,wq,t0,t3,t5]
   refine aF hk (by omega) ⟨rfl,?_,t0,t3,rfl⟩
   rw[m]
   unfold jA
   rw[decide_eq_false (by omega:¬ y.n.st=x.n.st),acq]
 .rw[abo (by omega)] at c
  have d:D9 S x=S++[x]:=aa9 (by rw[c];simp)
  simp(disch:=omega)only[↓wr,seval,wq,t0,t3,dM,f,g]
  intro q C
  have D:=s.fresh (o:=.arr 5 [dM x]) C
  simp only[dM] at D
  simp(disch:=omega)only[↓wr,seval,wq,bD,t0]
  refine kX D (by simp) e (by unfold aE;simp;omega) (by unfold aE;simp;omega) ?_
  intro r L I J
  simp(disch:=omega)only[↓wr,seval,wq]
  rw[d]
  refine⟨?_,J.behind C⟩
  rw[abA]
  exact I
section
variable {κ:Type} [BEq κ] [LawfulBEq κ] {kv:κ->V} {P:Program} {T:Env} {H:View} {kt et t ty:TypeId}
end
section
variable {H:View} {b:Nat} {g:ak} {a:List ba} {ul us:V} {vs:List V} {ls:List (List aP)} {ss:Sets} {more:Bool} {L:List ez}
end
section
variable {H:View} {b:Nat} {g:ak} {a:List ba} {ul us:V} {vs:List V} {ls:List (List aP)} {ss:Sets} {more:Bool} {L:List ez}
end
section
variable {H:View} {b:Nat} {g:ak} {a:List ba} {ul us:V} {vs:List V} {ls:List (List aP)} {ss:Sets} {more:Bool} {L:List ez}
end
inductive kV (P:Program) (d:Nat) (xs ys:Array Value):List Field->Bool->Prop
 | nil:kV P d xs ys [] true
 | any (f:Field) (l:List Field) (c e:Bool) (a b:Value):(f.name≠ "_")->bo P (part f.type xs f.offset)=some a->bo P (part f.type ys f.offset)=some b->bo P (Op.equalIn (d+1) f.type a b)=some e->kV P d xs ys l c->kV P d xs ys (f::l) (e&&c)
theorem kV.forIn {P:Program} {d e:Nat} {xs ys:Array Value} {l:List Field} {c:Bool} (h:kV P d xs ys l c) (g:e=d+1):
  bo P (forIn l ((none:Option Bool),()) λf _ =>
   if f.name≠ "_" then do
    let a <-part f.type xs f.offset
    let b <-part f.type ys f.offset
    let e <-Op.equalIn e f.type a b
    if (!e)=true then pure (ForInStep.done (some false,())) else pure (ForInStep.yield (none,()))
   else pure (ForInStep.yield (none,())))=some (if c=true then (none,()) else (some false,())):=by
 subst g
 induction h with
 | nil=>rfl
 | any f l c e a b i j k he _ m =>
  rw[List.forIn_cons,aZ,abb i,aZ,j,abD,aZ,k,abD,aZ,he,abD]
  cases e with
  | false=>rfl
  | true=>exact m
theorem za {P:Program} {d:Nat} {t:TypeId} {b:Array Field} {xs ys:Array Value} {c:Bool} (hu:P.underlying t=some (.struct b)) (f:P.stoodInHeld t=false) (h:kV P d xs ys b.toList c):
  bo P (Op.equalIn (d+1+1) t (.agg xs) (.agg ys))=some c:=by
 rw[Op.equalIn,aZ,dH hu,abD]
 have a:(bo P program)=some P:=rfl
 rw[aZ,a,abD,f]
 simp only[<-Array.forIn_toList,abI,if_false]
 rw[aZ,h.forIn (e:=d+1) rfl,abD]
 cases c<;>rfl
theorem yb {P:Program} {d:Nat} {t:TypeId} {k:IntKind} (hu:P.underlying t=some (.int k)) (a b:Int):bo P (Op.equalIn (d+1) t (.int k a) (.int k b))=some (a==b):=by
 simp only[Op.equalIn,aZ,dH hu,abD];rfl
theorem Xx {κ:Type} [BEq κ] {P:Program} {kt:TypeId} {kv:κ->V} (val:κ->Value) {n:Array Field} (l:∀k,dI (kv k)=some (val k)) (hu:P.underlying kt=some (.struct n))
  (heq:∀a b,bo P (Op.equal kt (val a) (val b))=some (a==b)) (c:∀k e,bo P (Instr.checkKey e 10000 kt (val k))=some ()) (o:∀k,sameKey (kv k) (kv k)=true):Ep P kt kv where
 same:=o
 find:=by
  have d:∀m:cH κ,gJ (cY kv m)=some (m.map λx=>{ key:=val x.1,val:=.nilFunc,born:=x.2.2 }):=by
   intro m
   induction m with
   | nil=>rfl
   | cons x r g =>
    simp only[cY] at g
    simp[cY,gJ,l,g]
  have f:∀(k:κ) (m:cH κ) (i:Nat),bo P (Instr.findAsking kt (val k) (m.map λx=>{ key:=val x.1,val:=.nilFunc,born:=x.2.2 }) i)=some ((gB k m).map λj=>(i+j,.nilFunc)):=by
   intro k m
   induction m with
   | nil=>intro i;rfl
   | cons x r g =>
    intro i
    simp only[abE,Instr.findAsking,aZ,heq,abD,gB]
    cases hk:k==x.1 with
    | true=>simp[vx]
    | false =>
     simp only[abI,if_false,g (i+1),Option.map_map]
     congr 2
     funext j
     simp only[Function.comp]
     congr 1
     omega
  intro k e m
  have h:bo P (underlying kt)=some _:=dH hu
  simp only[mR,l,d,aZ,c,abD]
  have:bo P (Instr.findKey kt (val k) (m.map λx=>{ key:=val x.1,val:=.nilFunc,born:=x.2.2 }))=some ((gB k m).map λj=>(0+j,.nilFunc)):=by
   unfold Instr.findKey
   rw[aZ,h,abD]
   cases m with
   | nil=>rfl
   | cons x r=>exact f k (x::r) 0
  rw[this]
  cases gB k m with
  | none=>rfl
  | some j=>simp
abbrev An:=Int × Int × Int
def vX (x:An):V:=.agg [gi x.1,gi x.2.1,gi x.2.2]
def BJ (x:An):Value:=.agg #[.int .i64 x.1,.int .i64 x.2.1,.int .i64 x.2.2]
def jx (x:bN):An:=((x.st:Int),x.it.aB,x.it.dot)
theorem IH (x y:bN):(jx x==jx y)=jA x y:=by
 obtain⟨s,⟨r,d⟩,a,b⟩:=x
 obtain⟨f,⟨g,h⟩,i,j⟩:=y
 rw[abW]
 simp[jx,jA]
 constructor
 .rintro⟨h1,c,e⟩;exact⟨by omega,c.symm,e.symm⟩
 .rintro⟨h1,c,e⟩;exact⟨by omega,c.symm,e.symm⟩
theorem Yc (a b c d:Int):kV aa 9997 #[.int .i64 a,.int .i64 b] #[.int .i64 c,.int .i64 d]
  [{ name:= "Rule",type:=3,offset:=0,embedded:=false,tag:= "",pkgPath:= "",byteOffset:=0 },{ name:= "Dot",type:=3,offset:=1,embedded:=false,tag:= "",pkgPath:= "",byteOffset:=8 }] ((a==c)&&((b==d)&&true)):=
 .any _ _ _ _ _ _ (by decide) (ey Tryz.underlying3 (.inr ⟨_,rfl⟩) _ _ rfl) (ey Tryz.underlying3 (.inr ⟨_,rfl⟩) _ _ rfl) (yb Tryz.underlying3 _ _)
  (.any _ _ _ _ _ _ (by decide) (ey Tryz.underlying3 (.inr ⟨_,rfl⟩) _ _ rfl) (ey Tryz.underlying3 (.inr ⟨_,rfl⟩) _ _ rfl) (yb Tryz.underlying3 _ _) .nil)
theorem Iw (a b c:Int):bo aa (part 120 #[.int .i64 a,.int .i64 b,.int .i64 c] 1)=some (.agg #[.int .i64 b,.int .i64 c]):=by kernel_rfl
theorem PR (x y:An):bo aa (Op.equal 218 (BJ x) (BJ y))=some (x==y):=by
 rw[lf,BJ,BJ]
 have h:kV aa 9998 #[.int .i64 x.1,.int .i64 x.2.1,.int .i64 x.2.2] #[.int .i64 y.1,.int .i64 y.2.1,.int .i64 y.2.2]
  [{ name:= "state",type:=3,offset:=0,embedded:=false,tag:= "",pkgPath:= "gerund/access",byteOffset:=0 },{ name:= "item",type:=120,offset:=1,embedded:=false,tag:= "",pkgPath:= "gerund/access",byteOffset:=8 }] ((x.1==y.1)&&(((x.2.1==y.2.1)&&((x.2.2==y.2.2)&&true))&&true)):=
  .any _ _ _ _ _ _ (by decide) (ey Tryz.underlying3 (.inr ⟨_,rfl⟩) _ _ rfl) (ey Tryz.underlying3 (.inr ⟨_,rfl⟩) _ _ rfl) (yb Tryz.underlying3 _ _)
  (.any _ _ _ _ _ _ (by decide) (Iw _ _ _) (Iw _ _ _) (za Tryz.underlying120 (by kernel_rfl) (Yc x.2.1 x.2.2 y.2.1 y.2.2)) .nil)
 rw[za Tryz.underlying218 (by kernel_rfl) h]
 obtain⟨a,b,c⟩:=x
 obtain⟨d,e,f⟩:=y
 congr 1
 rw[abW]
 simp
theorem P1 (x:An) (e:Bool):bo aa (Instr.checkKey e 10000 218 (BJ x))=some ():=by
 cases e<;>kernel_rfl
theorem VV:Ep aa 218 vX:=
 Xx BJ (λ_=>rfl) Tryz.underlying218 PR P1 λk=>by simp[sameKey,show dI (vX k)=some (BJ k) from rfl,BJ,Instr.sameBits]
end
end Gv
