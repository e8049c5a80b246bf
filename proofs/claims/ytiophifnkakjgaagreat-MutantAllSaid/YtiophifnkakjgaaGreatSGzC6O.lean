/-
  Part 15 of the proof: what the machine does and what the functions answer.
  Conditions: those that each lemma names.
-/
import Derived.Shelf.SlSortCmp.NoneTotal
import Derived.Shelf.SlicesG.Cmp
import Derived.StillTailTactics
import Derived.Test.YtiophifnkakjgaaGreatSGzC6N
set_option linter.unusedSimpArgs false
set_option linter.unusedVariables false
set_option maxRecDepth 100000
set_option maxHeartbeats 20000000
namespace Gv
noncomputable section
open Go Go.Proofs
open Go Go.Proofs Go.Shelf Go.RowKit Go.Sort
theorem bY.cut {P:Program} {f:FuncId} {vs:List V} {h g:Heap} {r:V} (n:bY P f vs h r g) {id sz:Nat} {es rest:List (List V)} (l:g.view id=.arr sz (es++rest)):bY P f vs h r (g.set id (.arr sz es)):=by
 have m:id<g.length:=fg (by rw[l];simp)
 refine⟨by simpa using n.1,λZ μ F w xs hr z p=>(n.2 Z μ F w xs hr z (by simpa using p)).mono ?_⟩
 rintro e w' ⟨x,A,μ',rfl,B,a,hex,q⟩
 refine⟨x,A,μ',rfl,B,?_,hex,by simpa using q⟩
 have t:∀k,cat (g.set id (.arr sz es)) F k=if k=id then .arr sz es else cat g F k:=λk=>by
  simp only[cat,acy]
  by_cases hk:k<g.length
  .rw[aaT hk,aaT hk,gM m];rfl
  .rw[aaR hk,aaR hk,aaR (by omega)]
 have u:cat g F id=.arr sz (es++rest):=by simp only[cat];rw[aaT m,l]
 refine⟨λk=>?_,λi j b o s C D v h1 E=>?_,a.lt,a.de,a.iK⟩
 .rw[t]
  split
  .rename_i hk
   subst hk
   have d:=a.obj k
   rw[u] at d
   intro b o0 s hm
   obtain⟨G,⟨c,e,f,n,p,H⟩,I,J⟩:=d b o0 s hm
   have y:∀i,i<es.length->(es++rest).getD i []=es.getD i []:=λi hi=>by
    simp[aaP,abm hi]
   refine⟨G,⟨c,e,f,n,p,?_⟩,λi hi=>?_,λi j hi K=>?_⟩
   .rw[abc,abz] at H;omega
   .rw[<-y i hi];exact I i (by rw[abc];omega)
   .rw[<-y i hi];exact J i j (by rw[abc];omega) K
  .exact a.obj k
 .have d:=a.inj i j b o s C D v h1 E
  rw[t,t]
  rcases d with d | d
  .left
   rw[aaR (λe=>by rw[e,u] at d;simp at d)];exact d
  .right
   rw[aaR (λe=>by rw[e,u] at d;simp at d)];exact d
theorem ay.cut {P:Program} {f:FuncId} {vs:List V} {H:View} {K c:V->View->Prop} (h:ay P f vs H K) (hk:∀r H',K r H'->c r H'∨∃id sz es rest,H' id=.arr sz (es++rest)/\c r (H'.set id (.arr sz es))):ay P f vs H c:=by
 refine⟨h.1,λm n=>?_⟩
 obtain⟨r,d,j,l,o⟩:=h.2 m n
 rcases hk r _ o with h1 | ⟨id,sz,es,rest,a,h1⟩
 .exact⟨r,d,j,l,h1⟩
 .have b:id<d.length:=fg (by rw[a];simp)
  refine⟨r,d.set id (.arr sz es),j.cut a,λk g p=>?_,by rw[gM b];exact h1⟩
  have i:=l k g p
  rw[gM b]
  simp only[View.set]
  rw[aaR (λe=>by rw[e,a] at i;simp at i)]
  exact i
instance:Inhabited aO:=⟨⟨0,0⟩⟩
def jJ (x:aO):List Value:=[.int .i64 x.aB,.int .i64 x.dot]
def qd (a b:aO):Int:=if Lib.compareInt a.aB b.aB≠0 then Lib.compareInt a.aB b.aB else Lib.compareInt a.dot b.dot
theorem Wd (a b:aO):(Lib.compareInt a.aB b.aB≠0->qd a b=Lib.compareInt a.aB b.aB)/\(Lib.compareInt a.aB b.aB=0->qd a b=Lib.compareInt a.dot b.dot):=by
 unfold qd
 exact⟨λh=>by rw[aaT h],λh=>by rw[aaR (by simp[h])]⟩
theorem vu (a b:aO):ltOf qd a b=c9 a b:=by
 have d:∀x y:Int,(x<y/\Lib.compareInt x y = -1)∨(x=y/\Lib.compareInt x y=0)∨(y<x/\Lib.compareInt x y=1):=λx y=>by
  unfold Lib.compareInt; (repeat' split)<;>omega
 rw[abD,gH]
 simp only[ltOf,aa5,qd]
 rcases d a.aB b.aB with ⟨h,e⟩ | ⟨h,e⟩ | ⟨h,e⟩<;>rcases d a.dot b.dot with ⟨k,c⟩ | ⟨k,c⟩ | ⟨k,c⟩<;>simp[e,c]<;>omega
theorem QA:SWO (ltOf qd) where
 irrefl x:=by rw[vu];exact np
 trans x y z h k:=by rw[vu] at *;exact p9 h k
 ntrans x y z h k:=by
  rw[vu] at *
  cases e:c9 x z with
  | false=>rfl
  | true =>
   have h1:¬ c9 x y=true:=by simp[h]
   have a:¬ c9 y z=true:=by simp[k]
   rw[gH] at h1 a e
   omega
def fw (l:List aO):List aO:=l.mergeSort λx y=>!c9 y x
theorem Uc (l:List aO):(l.toArray.toList.mergeSort λx y=>!(ltOf qd) y x)=fw l:=by
 have e:(λx y=>!(ltOf qd) y x)=λx y=>!c9 y x:=by funext x y;rw[vu]
 rw[e];rfl
theorem Dm (l:List aO):(fw l).Perm l:=List.mergeSort_perm _ _
theorem kd (l:List aO):(fw l).length=l.length:=(Dm l).length_eq
theorem DA (l:List aO):(fw l).Pairwise λx y=>c9 y x=false:=by
 have:=List.pairwise_mergeSort (le:=λx y:aO=>!c9 y x) (λa b c h k=>by
  simp only[ac5,Bool.not_eq_false'] at h k ⊢
  cases e:c9 c a with
  | false=>simp
  | true =>
   have h1:¬ c9 b a=true:=by simpa using h
   have d:¬ c9 c b=true:=by simpa using k
   rw[gH] at h1 d e
   omega) (λa b=>by
  cases e:c9 b a with
  | false=>simp
  | true=>simp[M5 e]) l
 exact this.imp λh=>by simpa using h
def Uk:Ren where
 f:=fun
  | 6=>190
  | 15=>246
  | 14=>245
  | 28=>282
  | 29=>283
  | 20=>274
  | 21=>275
  | 22=>276
  | 23=>277
  | 24=>278
  | 25=>279
  | 26=>280
  | 27=>281
  | 46=>291
  | 47=>292
  | 48=>293
  | 49=>294
  | 50=>295
  | 57=>307
  | n=>n
 t:=fun
  | 22=>103
  | 24=>120
  | 25=>286
  | 3=>3
  | 39=>276
  | 0=>0
  | 53=>50
  | 55=>49
  | 4=>4
  | 46=>356
  | 45=>355
  | 50=>66
  | 5=>5
  | 9=>9
  | 66=>369
  | 70=>373
  | 76=>381
  | 77=>382
  | n=>n
 g:=λn=>n
theorem WZ:Go.Proofs.SlLaysF0.n6 aa Uk where
 mixed:=by kernel_rfl
 f6:=⟨Tryz.f190.name,by kernel_rfl,by kernel_rfl⟩
 f14:=⟨Tryz.f245.name,by kernel_rfl,by kernel_rfl⟩
 f15:=by kernel_rfl
 f20:=⟨Tryz.f274.name,by kernel_rfl,by kernel_rfl⟩
 f21:=⟨Tryz.f275.name,by kernel_rfl,by kernel_rfl⟩
 f22:=⟨Tryz.f276.name,by kernel_rfl,by kernel_rfl⟩
 f23:=⟨Tryz.f277.name,by kernel_rfl,by kernel_rfl⟩
 f24:=⟨Tryz.f278.name,by kernel_rfl,by kernel_rfl⟩
 f25:=⟨Tryz.f279.name,by kernel_rfl,by kernel_rfl⟩
 f26:=⟨Tryz.f280.name,by kernel_rfl,by kernel_rfl⟩
 f27:=⟨Tryz.f281.name,by kernel_rfl,by kernel_rfl⟩
 f28:=by kernel_rfl
 f29:=by kernel_rfl
 f46:=⟨Tryz.f291.name,by kernel_rfl,by kernel_rfl⟩
 f47:=by kernel_rfl
 f48:=by kernel_rfl
 f49:=⟨Tryz.f294.name,by kernel_rfl,by kernel_rfl⟩
 f50:=⟨Tryz.f295.name,by kernel_rfl,by kernel_rfl⟩
 f57:=⟨Tryz.f307.name,by kernel_rfl,by kernel_rfl⟩
 t0:=Tryz.underlying0
 a0:=Tryz.isAgg0
 z0:=Tryz.sizeOf0
 v0:=Tryz.zeroValue0
 t3:=Tryz.underlying3
 a3:=Tryz.isAgg3
 z3:=Tryz.sizeOf3
 v3:=Tryz.zeroValue3
 t4:=Tryz.underlying4
 a4:=Tryz.isAgg4
 z4:=Tryz.sizeOf4
 v4:=Tryz.zeroValue4
 t5:=Tryz.underlying5
 a5:=Tryz.isAgg5
 z5:=Tryz.sizeOf5
 v5:=Tryz.zeroValue5
 t9:=Tryz.underlying9
 a9:=Tryz.isAgg9
 z9:=Tryz.sizeOf9
 v9:=Tryz.zeroValue9
 t22:=Tryz.underlying103
 a22:=Tryz.isAgg103
 z22:=Tryz.sizeOf103
 v22:=Tryz.zeroValue103
 t25:=Tryz.underlying286
 a25:=Tryz.isAgg286
 z25:=Tryz.sizeOf286
 v25:=Tryz.zeroValue286
 t39:=Tryz.underlying276
 a39:=Tryz.isAgg276
 z39:=Tryz.sizeOf276
 v39:=Tryz.zeroValue276
 t45:=Tryz.underlying355
 a45:=Tryz.isAgg355
 z45:=Tryz.sizeOf355
 v45:=Tryz.zeroValue355
 t46:=Tryz.underlying356
 a46:=Tryz.isAgg356
 z46:=Tryz.sizeOf356
 v46:=Tryz.zeroValue356
 t50:=Tryz.underlying66
 a50:=Tryz.isAgg66
 z50:=Tryz.sizeOf66
 v50:=Tryz.zeroValue66
 t53:=Tryz.underlying50
 a53:=Tryz.isAgg50
 z53:=Tryz.sizeOf50
 v53:=Tryz.zeroValue50
 t55:=Tryz.underlying49
 a55:=Tryz.isAgg49
 z55:=Tryz.sizeOf49
 v55:=Tryz.zeroValue49
 t66:=Tryz.underlying369
 a66:=Tryz.isAgg369
 z66:=Tryz.sizeOf369
 v66:=Tryz.zeroValue369
 t70:=Tryz.underlying373
 a70:=Tryz.isAgg373
 z70:=Tryz.sizeOf373
 v70:=Tryz.zeroValue373
 t76:=Tryz.underlying381
 a76:=Tryz.isAgg381
 z76:=Tryz.sizeOf381
 v76:=Tryz.zeroValue381
 t77:=Tryz.underlying382
 a77:=Tryz.isAgg382
 z77:=Tryz.sizeOf382
 v77:=Tryz.zeroValue382
def Vs:Ren where
 f:=fun
  | 5=>248
  | 7=>284
  | n=>n
 t:=fun
  | 22=>3
  | 3=>3
  | 4=>4
  | n=>n
 g:=λn=>n
theorem Yw:Go.Proofs.SlLaysC2.n5 aa Vs where
 mixed:=by kernel_rfl
 f5:=⟨Tryz.f248.name,by kernel_rfl,by kernel_rfl⟩
 f7:=⟨Tryz.f284.name,by kernel_rfl,by kernel_rfl⟩
 t3:=Tryz.underlying3
 a3:=Tryz.isAgg3
 z3:=Tryz.sizeOf3
 v3:=Tryz.zeroValue3
 t4:=Tryz.underlying4
 a4:=Tryz.isAgg4
 z4:=Tryz.sizeOf4
 v4:=Tryz.zeroValue4
 t22:=Tryz.underlying3
 a22:=Tryz.isAgg3
 z22:=Tryz.sizeOf3
 v22:=Tryz.zeroValue3
section
attribute [local go_sem] Oper.semAt_some
theorem MP (x y:Int) (b cap:Nat) (W:World) (h0:W.cell? ⟨b,0,none⟩=some (.int .i64 x)) (h1:W.cell? ⟨b,1,none⟩=some (.int .i64 y)) (r:Int) (hr:(x≠0->r=x)/\(x=0->r=y)):
  Calls aa 247 #[.slice (some ⟨b,0,none⟩) 2 cap] W λe w'=>e=.returned (.int .i64 r)/\w'=W:=by
 go_enter Tryz.func247,Tryz.ntmps247
 go_wp2
 refine wp_loop_rounds 3 ?_
 rw[rounds_succ]
 go_wp2
 .rename_i h
  go_ret
  exact⟨by rw[hr.1 (by simpa using h)];rfl,rfl⟩
 .rename_i h
  have hx:x=0:=by simpa using h
  rw[rounds_succ]
  go_wp2
  .rename_i h
   go_ret
   exact⟨by rw[hr.2 hx];rfl,rfl⟩
  .rename_i h
   rw[rounds_succ]
   go_wp2
   go_ret
   exact⟨by rw[hr.2 hx,show y=0 by simpa using h];rfl,rfl⟩
structure Zo (p:Prop):Prop where
 out:p
theorem ME (x1 x2 y1 y2:Int) (W:World) (r:Int) (hr:(Lib.compareInt x1 y1≠0->r=Lib.compareInt x1 y1)/\(Lib.compareInt x1 y1=0->r=Lib.compareInt x2 y2)):
  Calls aa 191 #[.agg #[.int .i64 x1,.int .i64 x2],.agg #[.int .i64 y1,.int .i64 y2]] W λe w'=>e=.returned (.int .i64 r)/\∃q os',w'=grow (W.drewN q) os':=by
 have hcon1:=λW'=>AnyG.cmp_Compare_int Yw x1 y1 W'
 change ∀W',Calls aa 248 _ _ _ at hcon1
 have hcon2:=λW'=>AnyG.cmp_Compare_int Yw x2 y2 W'
 change ∀W',Calls aa 248 _ _ _ at hcon2
 generalize Lib.compareInt x1 y1=c1 at *
 generalize Lib.compareInt x2 y2=c2 at *
 go_enter Tryz.func191,Tryz.ntmps191
 go_wp2_with (first | (go_at_call 248;refine(hcon1 _).mono ?_;rintro e w' ⟨rfl,rfl⟩)|(go_at_call 248;refine(hcon2 _).mono ?_;rintro e w' ⟨rfl,rfl⟩))
 obtain⟨b1,hb1⟩:∃b1,b1=W.heap.size:=⟨_,rfl⟩
 obtain⟨b2,hb2⟩:∃b2,b2=W.heap.size+1:=⟨_,rfl⟩
 rw[<-hb2,<-hb1]
 generalize hW1:(W.alloc (Obj.cells #[Value.int IntKind.i64 x1,Value.int IntKind.i64 x2] 120)).alloc (Obj.cells #[Value.int IntKind.i64 y1,Value.int IntKind.i64 y2] 120)=W1
 have hh1:W1.heap[b1]?=some (.cells #[Value.int IntKind.i64 x1,Value.int IntKind.i64 x2] 120 (0,0)):=by
  rw[<-hW1,hb1];exact(Below.heap_alloc _ _ _ (by simp)).trans (World.alloc_heap_new W _)
 have hh2:W1.heap[b2]?=some (.cells #[Value.int IntKind.i64 y1,Value.int IntKind.i64 y2] 120 (0,0)):=by
  rw[<-hW1,hb2]
  have:=World.alloc_heap_new (W.alloc (Obj.cells #[Value.int IntKind.i64 x1,Value.int IntKind.i64 x2] 120)) (Obj.cells #[Value.int IntKind.i64 y1,Value.int IntKind.i64 y2] 120)
  rwa [World.size_alloc] at this
 have k0:W1.cell? ⟨b1,0,none⟩=some (.int .i64 x1):=by unfold World.cell?;rw[hh1];rfl
 have k1:W1.cell? ⟨b1,1,none⟩=some (.int .i64 x2):=by unfold World.cell?;rw[hh1];rfl
 have k2:W1.cell? ⟨b2,0,none⟩=some (.int .i64 y1):=by unfold World.cell?;rw[hh2];rfl
 have k3:W1.cell? ⟨b2,1,none⟩=some (.int .i64 y2):=by unfold World.cell?;rw[hh2];rfl
 clear hh1 hh2
 refine wp_region_still_tail 10 (by kernel_rfl) (by kernel_rfl) ?_
 change wpStill _ _ W1.drew (λa'=>wpList _ _ _ _ a' W1.drew) _ _
 generalize hW2:W1.drew=W2
 replace k0:W2.cell? ⟨b1,0,none⟩=some (.int .i64 x1):=by rw[<-hW2];exact k0
 replace k1:W2.cell? ⟨b1,1,none⟩=some (.int .i64 x2):=by rw[<-hW2];exact k1
 replace k2:W2.cell? ⟨b2,0,none⟩=some (.int .i64 y1):=by rw[<-hW2];exact k2
 replace k3:W2.cell? ⟨b2,1,none⟩=some (.int .i64 y2):=by rw[<-hW2];exact k3
 have hgr:Zo (W2=grow (W.drewN 1) #[Obj.cells #[Value.int IntKind.i64 x1,Value.int IntKind.i64 x2] 120,Obj.cells #[Value.int IntKind.i64 y1,Value.int IntKind.i64 y2] 120]):=by
  refine⟨?_⟩
  rw[<-hW2,<-hW1,alloc_eq_grow,alloc_eq_grow,grow_grow];rfl
 clear hW1 hW2 hb1 hb2
 simp only[acW,List.take_zero,acX,abP]
 iterate 4 still_step
 still_call (hcon1 _)
 iterate 4 still_step
 still_call (hcon2 _)
 refine wpStill_nil ?_
 go_wp2_with (go_at_call 247;refine(MP c1 c2 _ _ _ ?_ ?_ r hr).mono ?_)
 .unfold World.cell?;rw[World.alloc_heap_new];rfl
 .unfold World.cell?;rw[World.alloc_heap_new];rfl
 .rintro e w' ⟨rfl,rfl⟩
  go_wp2
  go_ret
  refine⟨rfl,1,#[Obj.cells #[Value.int IntKind.i64 x1,Value.int IntKind.i64 x2] 120,Obj.cells #[Value.int IntKind.i64 y1,Value.int IntKind.i64 y2] 120,Obj.cells #[Value.int IntKind.i64 c1,Value.int IntKind.i64 c2] 3],?_⟩
  rw[hgr.out,alloc_eq_grow,grow_grow];rfl
end
theorem yq {Z:Nat->Prop} {μ:Mu} {hp:Array Obj} {id off len esz:Nat} {x:Value} (h:aD Z μ hp (.sl id off len esz) x):
  (len=0/\∃a,x=.slice a 0 0)∨∃b o0 cap,∃c:Array Value,∃e f,x=.slice (some ⟨b,o0+off*esz,none⟩) len cap/\μ id=some (b,o0,esz)/\len<=cap/\hp[b]?=some (.cells c e f)/\o0+(off+cap)*esz<=c.size:=by
 cases h with
 | rA _ _ _ a=>exact .inl ⟨rfl,a,rfl⟩
 | sl _ _ _ _ b o0 cap c e f h1 d g i=>exact .inr ⟨b,o0,cap,c,e,f,rfl,h1,d,g,i⟩
theorem Yl {Z:Nat->Prop} {μ:Mu} {hp:Array Obj} {f:FuncId} {x:Value} (h:aD Z μ hp (.fn f [] []) x):x=.func (.func f) #[] #[]:=by
 cases h with
 | fn _ _ _ a c h1 b _ _ =>
  rw[Array.eq_empty_of_size_eq_zero h1.symm,Array.eq_empty_of_size_eq_zero b.symm]
theorem GQ (w:World) (b o0 m:Nat) (d:Array aO) (os:Array Obj) {j:Nat} (a:j<w.heap.size):(sortWorldK jJ 2 w b o0 m d os).heap[j]?=if b=j then (w.heap[j]?).map (onCells (putCells id o0 (flatK jJ 2 d))) else w.heap[j]?:=by
 unfold sortWorldK grow putRowK putRow mapBlock
 simp only[Sort.ahead]
 rw[abM (by simpa using a),acz]
theorem V9 (l:List aO) (hl:l.length<1152921504606846976) (u:V) (H:View) (ho:aP H u 2 (bf l)):ay aa 190 [u,.fn 191 [] []] H λr H'=>r=.bb []/\(∀id,owner u≠some id->H' id=H id)/\aP H' u 2 (bf (fw l)):=by
 refine⟨by kernel_rfl,?_⟩
 rintro h rfl
 have eg:∀args w,(callFunc 191 args).run aa w=.ok (.enter 191 args) w:=enters_of Tryz.func191 (by kernel_rfl) rfl
 by_cases I:l=[]
 .subst I
  refine⟨.bb [],h,⟨aaY _,λZ μ F w xs s hr M=>?_⟩,.refl _,rfl,λ_ _=>rfl,by simpa [fw] using ho⟩
  obtain⟨hlen,N⟩:=s
  obtain⟨x,y,rfl⟩:∃x y,xs=[x,y]:=by
   match xs,hlen with
   | [x,y],_=>exact⟨x,y,rfl⟩
  have h0:aD Z μ w.heap u x:=N 0 (by simp)
  obtain⟨p,cap,rfl⟩:∃p cap,x=.slice p 0 cap:=by
   rcases ho with ⟨_,k,rfl⟩ | ⟨n,rfl,_⟩
   .cases h0 with | emp _ a _ _=>exact⟨a,0,rfl⟩
   .rcases yq h0 with ⟨_,a,e⟩ | ⟨b,o0,cap,c,e,f,e2,_⟩
    .exact⟨a,0,e⟩
    .exact⟨_,cap,e2⟩
  refine(AnyF.slices_SortFunc_none WZ p cap y w).mono ?_
  rintro e w' ⟨rfl,rfl⟩
  exact⟨.tuple #[],Z,μ,rfl,.bb [] #[] rfl (λi hi=>by simp at hi),hr,Ext.refl _ _ _ _,λ_ _=>rfl⟩
 have S:0<l.length:=acV.2 I
 obtain⟨n,rfl,hn⟩:=ho.sl (by rw[bR];exact S)
 rw[bR]
 have t:n<h.length:=fg (by rw[hn];simp)
 refine⟨.bb [],h.set n (.arr 2 (bf (fw l))),⟨by simp,λZ μ F w xs s hr M=>?_⟩,λk hk hd=>?_,rfl,λid al=>?_,?_⟩
 rotate_left
 .rw[gM t]
  simp only[View.set]
  rw[aaR (λe=>by rw[e,hn] at hd;simp at hd)];exact hd
 .rw[gM t]
  simp only[View.set]
  rw[aaR (λe=>al (by rw[e];rfl))]
 .refine .inr ⟨n,by rw[bR,kd],?_⟩
  rw[gM t];simp[View.set]
 obtain⟨hlen,N⟩:=s
 obtain⟨x,y,rfl⟩:∃x y,xs=[x,y]:=by
  match xs,hlen with
  | [x,y],_=>exact⟨x,y,rfl⟩
 have h0:aD Z μ w.heap (.sl n 0 l.length 2) x:=N 0 (by simp)
 have h1:aD Z μ w.heap (.fn 191 [] []) y:=N 1 (by simp)
 have hy:=Yl h1
 subst hy
 rcases yq h0 with ⟨e,_⟩ | ⟨b,o0,cap,c0,e0,f0,rfl,E,ar,_,_⟩
 .omega
 rw[Nat.zero_mul,acp]
 have J:cat h F n=.arr 2 (bf l):=by simp only[cat];rw[aaT t,hn]
 have T:=hr.obj n
 rw[J] at T
 obtain⟨_,⟨c,ty,fz,hc,U,W⟩,hq,z⟩:=T b o0 2 E
 rw[bR] at W hq z
 have O:b<w.heap.size:=hr.lt _ _ _ _ E
 have P:∀(m:List aO) (i:Nat) (hi:i<m.length),(bf m).getD i []=bK m[i]:=λm i hi=>by simp[bf,aaP,hi]
 have hH:HoldsK jJ 2 w b o0 l.toArray:=by
  intro j D
  rw[size_flatK] at D
  have a1:j<l.length*2:=by simpa using D
  have hi:j / 2<l.length:=by omega
  obtain⟨x,hx,d⟩:=z (j / 2) (j % 2) hi (by omega)
  rw[show o0+j / 2*2+j % 2=o0+j by omega] at hx
  have an:x=(flatK jJ 2 l.toArray)[j]!:=by
   rw[get_flatK _ _ _ _ D]
   rw[P l _ hi] at d
   have e1:l.toArray[j / 2]! = l[j / 2]:=by simp[hi]
   rw[e1]
   rcases abo (j % 2) 1 with X | X
   .rw[show j % 2=0 by omega] at d ⊢
    simp only[bK,acb] at d
    cases d;rfl
   .rw[show j % 2=1 by omega] at d ⊢
    simp only[bK,acJ,acb] at d
    cases d;rfl
  refine⟨by rw[jq,hx,an];rfl,?_⟩
  simp only[World.frozen?,hc]
  rcases U with e | e
  .simp only[e,Bool.and_eq_false_iff,acf];omega
  .simp only[Bool.and_eq_false_iff,acf];omega
 have hT:∀x y,(ltOf qd) x y=false->(ltOf qd) y x=false->x=y:=λx y h1 X=>by
  rw[vu] at h1 X
  exact acx λA=>by rw[zS h1 A] at X;simp at X
 have K:=AnyQ.slices_SortFunc_total WZ 2 Tryz.isAgg120 Tryz.sizeOf120 jJ (λ_=>rfl) (λx v N=>by simp[jJ] at N;rcases N with rfl | rfl<;>rfl) qd QA 191 #[] b o0 cap l.toArray w eg (λ_ _ _ _ x y=>ME x.aB x.dot y.aB y.dot _ _ (Wd x y)) hH O (by simp;omega) hT
 rw[Uc] at K
 refine Calls.mono (show Calls aa 190 _ w _ from K) ?_
 rintro e w' ⟨rfl,m,os,rfl⟩
 have Y:=kd l
 have g:=λ{j:Nat} (D:j<w.heap.size)=>GQ w b o0 m (fw l).toArray os D
 have G:HoldsK jJ 2 (sortWorldK jJ 2 w b o0 m (fw l).toArray os) b o0 (fw l).toArray:=SWK.holds ⟨m,os,rfl⟩ O hH (by simp[Y])
 have B:w.heap.size<=(sortWorldK jJ 2 w b o0 m (fw l).toArray os).heap.size:=SWK.le (dk:=(fw l).toArray) ⟨m,os,rfl⟩
 have Q:fa w (sortWorldK jJ 2 w b o0 m (fw l).toArray os):=⟨rfl,rfl,rfl,B⟩
 generalize sortWorldK jJ 2 w b o0 m (fw l).toArray os=w' at *
 have ab:w'.heap[b]?=some (.cells (putCells id o0 (flatK jJ 2 (fw l).toArray) c) ty fz):=by
  rw[g O,aaT rfl,hc];rfl
 have L:mR Z μ μ w.heap w'.heap h.length (.fR n (.arr 2 (bf (fw l)))):=by
  refine⟨b,o0,2,E,rfl,λj D A=>by rw[g D,aaR (λe=>A e.symm)],λj cc ee ff C=>?_,?_⟩
  .have aq:j<w.heap.size:=by
    rcases abo j w.heap.size with q | q
    .exact q
    .simp[Array.getElem?_eq_none q] at C
   by_cases e:b=j
   .subst e
    rw[hc] at C
    simp only[aaV,Obj.cells.injEq] at C
    obtain⟨rfl,rfl,rfl⟩:=C
    exact⟨_,_,ab,by simp[putCells]⟩
   .exact⟨cc,ff,by rw[g aq,aaR e];exact C,rfl⟩
  .intro b1 o1 s1 h1
   rw[E] at h1
   simp only[aaV,abf] at h1
   obtain⟨rfl,rfl,rfl⟩:=h1
   refine⟨rfl,⟨_,ty,fz,ab,?_,?_⟩,λi hi=>?_,λi j hi D=>?_⟩
   .simpa [putCells] using U
   .rw[bR,Y];simpa [putCells] using W
   .rw[bR] at hi;rw[P _ i hi];rfl
   .rw[bR] at hi
    have:=(G.cell (i:=i) (c:=j) (by simpa using hi) D).1
    rw[jq] at this
    refine⟨_,this,?_⟩
    rw[P _ i hi]
    have e1:(fw l).toArray[i]! = (fw l)[i]:=by simp[hi]
    rw[e1]
    match j,D with
    | 0,_=>exact .val _ rfl
    | 1,_=>exact .val _ rfl
 have A:cat h F n≠.dead:=by rw[J];simp
 have R:=hr.eff (n:=h.length) (eff:=.fR n (.arr 2 (bf (fw l)))) (by trivial) B L (λid o e=>by cases e;exact A) (λid o e=>by cases e)
 obtain⟨ae,a6⟩:=L.ext Q (by trivial) hr.de hr.iK
 refine⟨.tuple #[],Z,μ,rfl,.bb [] #[] rfl (λi hi=>by simp at hi),?_,ae,λ_ _=>rfl⟩
 have ev:cat (h.set n (.arr 2 (bf (fw l)))) F=bp.view (cat h F) h.length (.fR n (.arr 2 (bf (fw l)))):=by
  funext k
  simp only[cat,bp.view,View.set,acy]
  by_cases hk:k<h.length
  .rw[aaT hk,aaT hk,gM t];rfl
  .rw[aaR hk,aaR hk,aaR (by omega)]
 rw[ev]
 exact R
abbrev iQ:aO:=⟨0,0⟩
def gA (l:List aO):Nat->List aO
 | 0=>[]
 | n+1=>if n=0∨l.getD n iQ≠l.getD (n-1) iQ then gA l n++[l.getD n iQ] else gA l n
theorem Bh (l:List aO):∀n,n<=l.length->(∀j,0<j->j<n->l.getD j iQ≠l.getD (j-1) iQ)->gA l n=l.take n
 | 0,_,_=>by simp[gA]
 | n+1,c,h=>by
  have a:=Bh l n (by omega) λj h1 d=>h j h1 (by omega)
  have b:l[n]?=some (l.getD n iQ):=getD_some (by omega)
  rw[gA,aaT,a,aa9,b]
  .rfl
  .by_cases e:n=0
   .exact .inl e
   .exact .inr (h n (by omega) (by omega))
def CN (l:List aO):List aO:=gA (fw l) l.length
theorem zF {l:List aO} (hp:l.Pairwise λx y=>c9 y x=false):∀n,n<=l.length->cL (gA l n)/\(∀x,x∈gA l n↔∃i,i<n/\l.getD i iQ=x)
 | 0,_=>by simp[gA,cL]
 | n+1,r=>by
  obtain⟨h1,f⟩:=zF hp n (by omega)
  have d:∀i j,i<j->j<l.length->c9 (l.getD j iQ) (l.getD i iQ)=false:=λi j g k=>by
   have:=List.pairwise_iff_getElem.1 hp i j (by omega) k g
   simpa [aaP,aaQ k,aaQ (show i<l.length by omega)] using this
  rw[gA]
  split
  .rename_i c
   refine⟨?_,λx=>?_⟩
   .rw[cL,List.pairwise_append]
    refine⟨h1,by simp,λa p b m=>?_⟩
    rw[abN] at m;subst m
    obtain⟨i,hi,rfl⟩:=(f a).1 p
    have c:l.getD n iQ≠l.getD (n-1) iQ:=c.resolve_left (by omega)
    have o:=zS (d (n-1) n (by omega) (by omega)) c
    rcases abo i (n-1) with h | h
    .have k2:=d i (n-1) h (by omega)
     have q:¬ c9 (l.getD (n-1) iQ) (l.getD i iQ)=true:=by rw[k2];simp
     rw[gH] at o q ⊢
     omega
    .have:i=n-1:=by omega
     subst this;exact o
   .rw[aa7,f,abN]
    constructor
    .rintro (⟨i,hi,e⟩ | e)
     .exact⟨i,by omega,e⟩
     .exact⟨n,by omega,e.symm⟩
    .rintro⟨i,hi,e⟩
     rcases abo i n with h | h
     .exact .inl ⟨i,h,e⟩
     .have:i=n:=by omega
      subst this;exact .inr e.symm
  .rename_i c
   simp only[not_or,acn] at c
   refine⟨h1,λx=>?_⟩
   rw[f]
   constructor
   .rintro⟨i,hi,e⟩;exact⟨i,by omega,e⟩
   .rintro⟨i,hi,e⟩
    rcases abo i n with h | h
    .exact⟨i,h,e⟩
    .have:i=n:=by omega
     subst this
     exact⟨i-1,by omega,by rw[<-c.2];exact e⟩
theorem Fs (l:List aO):cL (CN l):=(zF (DA l) _ (by rw[kd];exact aaY _)).1
theorem tt {l:List aO} {x:aO} : x∈CN l↔x∈l:=by
 rw[CN,(zF (DA l) _ (by rw[kd];exact aaY _)).2,<-(Dm l).mem_iff,acv]
 constructor
 .rintro⟨i,hi,e⟩
  have a:i<(fw l).length:=by rw[kd];exact hi
  exact⟨i,a,by rw[aaP,aaQ a] at e;exact e⟩
 .rintro⟨i,hi,e⟩
  exact⟨i,by rw[kd] at hi;exact hi,by rw[aaP,aaQ hi];exact e⟩
theorem PQ {l:List aO} (h:cL l):CN l=l:=BA (Fs l) h λ_=>tt
def oI (g:aj) (s:Int):Int:=if s<0 then (g.ax.length:Int)-1-s else s
theorem zp (g:aj) (k:Nat):oI g (bg g k)=k:=by
 unfold oI bg;split<;>split<;>omega
theorem Mg {g:aj} {s:Int} (h1:s<g.ax.length):0<=oI g s/\bg g (oI g s).toNat=s:=by
 unfold oI bg;split
 .rw[aaR (by omega)];omega
 .rw[aaT (by omega)];omega
theorem Ox {g:aj} {s:Int} (h:dP g s=true):s<g.ax.length/\oI g s<g.ax.length+g.av.length:=by
 unfold dP at h
 unfold oI
 by_cases a:0<=s
 .rw[aaT a] at h
  simp at h
  omega
 .rw[aaR a] at h
  simp at h
  omega
def gV (l:List aO):List UInt8:=l.flatMap λx=>[UInt8.ofNat (x.aB+1).toNat,UInt8.ofNat x.dot.toNat]
theorem Rh {a b:Nat} (c:a<256) (d:b<256) (h:UInt8.ofNat a=UInt8.ofNat b):a=b:=by
 have:=abY UInt8.toNat h
 simp at this
 omega
theorem KY {g:aj} (c:g.c6):∀ {a b:List aO},(∀x∈a,cT g x)->(∀x∈b,cT g x)->gV a=gV b->a=b
 | [],[],_,_,_=>rfl
 | [],y::b,_,_,h=>by simp[gV] at h
 | x::a,[],_,_,h=>by simp[gV] at h
 | x::a,y::b,i,j,h=>by
  simp only[gV,List.flatMap_cons,abv,abK,List.cons.injEq] at h
  obtain⟨h1,k,l⟩:=h
  have d:=i x (by simp)
  have e:=j y (by simp)
  have hr:=c.rules
  have q:=dZ c d.1
  have r:=dZ c e.1
  have:=d.1;have:=d.2;have:=e.1;have:=e.2
  have s:=Rh (by omega) (by omega) h1
  have k2:=Rh (by omega) (by omega) k
  have t:=KY c (λz f=>i z (by simp[f])) (λz f=>j z (by simp[f])) l
  obtain⟨m,n⟩:=x
  obtain⟨o,p⟩:=y
  simp only at *
  have:m=o:=by omega
  have:n=p:=by omega
  subst_vars;rfl
structure lx (g:aj) (a:List ba):Prop where
 first:(a.getD 0 b6).bz=[⟨-1,0⟩]
 A0:∀s∈a,∀e∈s.cF,(a.getD e.to.toNat b6).bz=bu g (du g s.bz) e.sym
theorem mY (l:List ba) (i:Nat) (c:fY) (j:Nat):((l.modify i λx=>(⟨x.bz,x.cF++[c]⟩:ba)).getD j b6).bz=(l.getD j b6).bz:=by
 simp only[aaP,List.getElem?_modify]
 cases l[j]? with
 | none=>rfl
 | some x =>
  by_cases e:i=j
  .subst e;simp
  .simp[e]
theorem lx.put {g:aj} {out:List ba} (h:lx g out) {at_:Nat} {s to:Int} (c:(out.getD to.toNat b6).bz=bu g (du g (out.getD at_ b6).bz) s):lx g (out.modify at_ λx=>(⟨x.bz,x.cF++[⟨s,to⟩]⟩:ba)):=by
 refine⟨by rw[mY];exact h.first,λy a e he=>?_⟩
 rw[mY]
 rcases mem_modify a with a | ⟨x,b,rfl⟩
 .exact h.A0 y a e he
 .rcases aa7.1 he with he | he
  .exact h.A0 x (aa1 b) e he
  .simp at he;subst he
   rw[c,aaP,b];rfl
theorem lx.add {g:aj} {out:List ba} (h:lx g out) (h1:1<=out.length) (c:∀s∈out,∀e∈s.cF,0<=e.to/\e.to<out.length) (k:List aO):lx g (out++[⟨k,[]⟩]):=by
 have b:∀j:Nat,j<out.length->((out++[(⟨k,[]⟩:ba)]).getD j b6)=out.getD j b6:=λj d=>by
  simp[aaP,abm d]
 refine⟨by rw[b 0 (by omega)];exact h.first,λy a e he=>?_⟩
 rcases aa7.1 a with a | a
 .have:=c y a e he
  rw[b _ (by omega)];exact h.A0 y a e he
 .simp at a;subst a;simp at he
theorem R9 (g:aj) (l:List aO) (at_:Nat) (out:List ba) (i:Nat) {j:Nat} (a:j<out.length):((dB g l at_ out i).getD j b6).bz=(out.getD j b6).bz:=by
 unfold dB
 split
 .rfl
 .split
  .rw[mY]
   simp[aaP,abm a]
  .rw[mY]
theorem lx.step {g:aj} {l:List aO} {at_ i:Nat} {out:List ba} (h:lx g out) (hi:eo g at_ i out) (c:at_<out.length) (a:du g (out.getD at_ b6).bz=l):lx g (dB g l at_ out i):=by
 unfold dB
 split
 .exact h
 .split
  .refine(h.add (by omega) hi.to _).put ?_
   rw[abu]
   have d:((out++[(⟨bu g l (bg g i),[]⟩:ba)]).getD out.length b6).bz=bu g l (bg g i):=by
    simp[aaP]
   have e:(out++[(⟨bu g l (bg g i),[]⟩:ba)]).getD at_ b6=out.getD at_ b6:=by
    simp[aaP,abm c]
   rw[d,e,a]
  .refine h.put ?_
   obtain⟨n,b⟩:∃n:Nat,findD out (bu g l (bg g i))=n:=⟨(findD out (bu g l (bg g i))).toNat,by omega⟩
   obtain⟨s,h1,f⟩:=JZ _ _ _ b
   rw[b,abu,aaP,h1,a]
   exact f
theorem lx.row {g:aj} (a:g.c6) {at_:Nat} {out:List ba} (h:lx g out) (hi:eo g at_ 0 out) (b:at_<out.length):∀n:Nat,n<=40->lx g ((List.range n).foldl (dB g (du g (out.getD at_ b6).bz) at_) out)/\(((List.range n).foldl (dB g (du g (out.getD at_ b6).bz) at_) out).getD at_ b6).bz=(out.getD at_ b6).bz
 | 0,_=>⟨h,rfl⟩
 | n+1,d=>by
  obtain⟨h1,c⟩:=lx.row a h hi b n (by omega)
  obtain⟨i1,i2,i3⟩:=eo.row (hi.nN a b).1 (hi.nN a b).2 hi n (by omega)
  rw[acj,acw]
  simp only[abF,acY]
  refine⟨h1.step i1 (by omega) (by rw[c]),?_⟩
  rw[R9 _ _ _ _ _ (by omega),c]
theorem Gk {g:aj} (a:g.c6):∀(f at_:Nat) (out:List ba),eo g at_ 0 out->lx g out->(fU g f at_ out).2=0->lx g (fU g f at_ out).1
 | 0,_,out,_,h,_=>h
 | f+1,at_,out,hi,h,b=>by
  rw[fU] at b ⊢
  split
  .rename_i c
   rw[aaT c] at b
   have hr:=eo.row (hi.nN a c).1 (hi.nN a c).2 hi (g.ax.length+g.av.length) (by have:=a.ax;have:=a.av;omega)
   have he:=h.row a hi c (g.ax.length+g.av.length) (by have:=a.ax;have:=a.av;omega)
   split
   .rename_i d;rw[aaT d] at b;simp at b
   .rename_i d
    rw[aaR d] at b
    exact Gk a f (at_+1) _ hr.1.next he.1 b
  .exact h
theorem Pk {g:aj} (b:g.c6) (h:(cD g).2=0):lx g (cD g).1:=by
 unfold cD at h ⊢
 split
 .rename_i hr
  rw[aaT hr] at h
  exact Gk b 302 0 eu mI ⟨rfl,λs a e he=>by simp[eu] at a;subst a;simp at he⟩ h
 .rename_i hr
  rw[aaR hr] at h
  simp at h
theorem Ot {a:List ba} {i:Nat} {e:fY} (h:e∈(a.getD i b6).cF):i<a.length/\a.getD i b6∈a:=by
 rcases abo i a.length with hi | hi
 .exact⟨hi,aa1 (getD_some hi)⟩
 .rw[aaP,abr hi] at h;simp at h
def l0 (g:aj) (l:List aO) (n:Nat):List Int:=((List.range n).filter λi=>decide (bu g l (bg g i)≠[])).map λ(i:Nat)=>bg g i
theorem FM (g:aj) (l:List aO) (n:Nat):l0 g l (n+1)=if bu g l (bg g n)=[] then l0 g l n else l0 g l n++[bg g n]:=by
 unfold l0
 rw[acj,ac0,abh]
 by_cases h:bu g l (bg g n)=[]
 .rw[aaT h];simp[h]
 .rw[aaR h];simp[h]
structure oZ (g:aj) (at_ i:Nat) (out:List ba):Prop where
 one:(out.map ba.bz).Nodup
 back:∀j:Nat,0<j->j<out.length->∃(i:Nat) (e:fY),i<j/\e∈(out.getD i b6).cF/\e.to=j
 done:∀j:Nat,j<at_->j<out.length->(out.getD j b6).cF.map fY.sym=l0 g (du g (out.getD j b6).bz) (g.ax.length+g.av.length)
 here:at_<out.length->(out.getD at_ b6).cF.map fY.sym=l0 g (du g (out.getD at_ b6).bz) i
theorem uR (l:List ba) (i:Nat) (c:fY) (j:Nat) (hi:i<l.length):((l.modify i λx=>(⟨x.bz,x.cF++[c]⟩:ba)).getD j b6).cF=if i=j then (l.getD j b6).cF++[c] else (l.getD j b6).cF:=by
 by_cases e:i=j
 .subst e;simp[hi]
 .cases l[j]? with
  | none=>simp[e]
  | some x=>simp[e]
theorem Hu (l:List ba) (i:Nat) (c:fY):(l.modify i λx=>(⟨x.bz,x.cF++[c]⟩:ba)).map ba.bz=l.map ba.bz:=by
 apply List.ext_getElem?
 intro j
 simp only[aaS,List.getElem?_modify]
 cases l[j]? with
 | none=>rfl
 | some x=>by_cases e:i=j<;>simp[e]
theorem oZ.put {g:aj} {at_ i:Nat} {out:List ba} {to:Int} (b:at_<out.length) (h1:(out.map ba.bz).Nodup) (h:∀j:Nat,0<j->j<out.length->(∃(i:Nat) (e:fY),i<j/\e∈(out.getD i b6).cF/\e.to=j)∨(at_<j/\to=j))
  (l:∀j:Nat,j<at_->j<out.length->(out.getD j b6).cF.map fY.sym=l0 g (du g (out.getD j b6).bz) (g.ax.length+g.av.length)) (m:(out.getD at_ b6).cF.map fY.sym=l0 g (du g (out.getD at_ b6).bz) i)
  (c:bu g (du g (out.getD at_ b6).bz) (bg g i)≠[]):oZ g at_ (i+1) (out.modify at_ λx=>(⟨x.bz,x.cF++[⟨bg g i,to⟩]⟩:ba)):=by
 refine⟨by rw[Hu];exact h1,λj d a=>?_,λj d a=>?_,λ_=>?_⟩
 .rw[List.length_modify] at a
  rcases h j d a with ⟨k,e,f,a2,a3⟩ | ⟨f,a2⟩
  .refine⟨k,e,f,?_,a3⟩
   rw[uR _ _ _ _ b]
   split
   .exact List.mem_append_left _ a2
   .exact a2
  .refine⟨at_,⟨bg g i,to⟩,f,?_,a2⟩
   rw[uR _ _ _ _ b,aaT rfl]
   simp
 .rw[List.length_modify] at a
  rw[uR _ _ _ _ b,aaR (by omega),mY]
  exact l j d a
 .rw[uR _ _ _ _ b,aaT rfl,mY,abh,m,FM,aaR c];rfl
theorem oZ.step {g:aj} {at_ i:Nat} {out:List ba} (h:oZ g at_ i out) (d:at_<out.length):oZ g at_ (i+1) (dB g (du g (out.getD at_ b6).bz) at_ out i):=by
 unfold dB
 split
 .rename_i hm
  exact⟨h.one,h.back,h.done,λ_=>by rw[FM,aaT hm];exact h.here d⟩
 .rename_i hm
  split
  .rename_i n
   have f:∀j:Nat,j<out.length->((out++[(⟨bu g (du g (out.getD at_ b6).bz) (bg g i),[]⟩:ba)]).getD j b6)=out.getD j b6:=λj c=>by
    simp[aaP,abm c]
   refine oZ.put (by simp;omega) ?_ (λj c l=>?_) (λj c l=>?_) ?_ ?_
   .rw[abh,aco]
    refine⟨h.one,by simp,λa o b m=>?_⟩
    obtain⟨s,p,rfl⟩:=aba.1 o
    simp at m;subst m
    exact Kt _ _ n s p
   .rcases abo j out.length with q | q
    .obtain⟨k,e,r,a2,a3⟩:=h.back j c q
     exact .inl ⟨k,e,r,by rw[f k (by omega)];exact a2,a3⟩
    .right
     simp at l
     exact⟨by omega,by omega⟩
   .rw[f j (by omega)];exact h.done j c (by omega)
   .rw[f at_ d];exact h.here d
   .rw[f at_ d];exact hm
  .exact oZ.put d h.one (λj c l=>.inl (h.back j c l)) h.done (h.here d) hm
theorem oZ.row {g:aj} (a:g.c6) {at_:Nat} {out:List ba} (h:oZ g at_ 0 out) (hi:eo g at_ 0 out) (he:lx g out) (b:at_<out.length):∀n:Nat,n<=40->oZ g at_ n ((List.range n).foldl (dB g (du g (out.getD at_ b6).bz) at_) out)
 | 0,_=>h
 | n+1,d=>by
  have h1:=oZ.row a h hi he b n (by omega)
  obtain⟨i1,i2,i3⟩:=eo.row (hi.nN a b).1 (hi.nN a b).2 hi n (by omega)
  obtain⟨e,c⟩:=he.row a hi b n (by omega)
  rw[acj,acw]
  have:=h1.step (by omega)
  rw[c] at this
  exact this
theorem oZ.next {g:aj} {at_:Nat} {out:List ba} (h:oZ g at_ (g.ax.length+g.av.length) out) (hi:eo g at_ (g.ax.length+g.av.length) out):oZ g (at_+1) 0 out:=by
 refine⟨h.one,h.back,λj b a=>?_,λa=>?_⟩
 .rcases abo j at_ with q | q
  .exact h.done j q a
  .have:j=at_:=by omega
   subst this
   exact h.here a
 .have:=(hi.cF (at_+1) _ (getD_some (d:=b6) a)).2.2 (by omega)
  rw[this];simp[l0]
structure Wc (g:aj) (a:List ba):Prop where
 one:(a.map ba.bz).Nodup
 back:∀j:Nat,0<j->j<a.length->∃(i:Nat) (e:fY),i<j/\e∈(a.getD i b6).cF/\e.to=j
 all:∀s∈a,s.cF.map fY.sym=l0 g (du g s.bz) (g.ax.length+g.av.length)
theorem Gj {g:aj} (a:g.c6):∀(f at_:Nat) (out:List ba),302<=f+at_->eo g at_ 0 out->lx g out->oZ g at_ 0 out->out.length<=300->(fU g f at_ out).2=0->Wc g (fU g f at_ out).1
 | 0,at_,out,l,_,_,h,m,_=>⟨h.one,h.back,λs c=>by
   change s∈out at c
   obtain⟨j,d,e⟩:=acv.1 c
   have:=h.done j (by omega) d
   rwa [show out.getD j b6=s by rw[aaP,aaQ d];exact e] at this⟩
 | f+1,at_,out,l,hi,he,h,m,b=>by
  have p:=a.ax
  have q:=a.av
  rw[fU] at b ⊢
  split
  .rename_i i
   rw[aaT i] at b
   have hr:=eo.row (hi.nN a i).1 (hi.nN a i).2 hi (g.ax.length+g.av.length) (by omega)
   have n:=he.row a hi i (g.ax.length+g.av.length) (by omega)
   have o:=h.row a hi he i (g.ax.length+g.av.length) (by omega)
   split
   .rename_i k;rw[aaT k] at b;simp at b
   .rename_i k
    rw[aaR k] at b
    exact Gj a f (at_+1) _ (by omega) hr.1.next n.1 (o.next hr.1) (by omega) b
  .exact⟨h.one,h.back,λs c=>by
    change s∈out at c
    obtain⟨j,d,e⟩:=acv.1 c
    have:=h.done j (by omega) d
    rwa [show out.getD j b6=s by rw[aaP,aaQ d];exact e] at this⟩
theorem P4 {g:aj} (b:g.c6) (h:(cD g).2=0):Wc g (cD g).1:=by
 unfold cD at h ⊢
 split
 .rename_i hr
  rw[aaT hr] at h
  refine Gj b 302 0 eu (by omega) mI ⟨rfl,λs a e he=>by simp[eu] at a;subst a;simp at he⟩ ⟨by simp[eu],λj h1 c=>by simp[eu] at c;omega,λj h1=>by omega,λ_=>?_⟩ (by simp[eu]) h
  simp[eu,l0]
 .rename_i hr
  rw[aaR hr] at h
  simp at h
theorem IX (g:aj):∀(f at_:Nat) (out:List ba),(fU g f at_ out).2=0∨fU g f at_ out=([],5)
 | 0,_,_=>.inl rfl
 | f+1,at_,out=>by
  rw[fU]
  split
  .split
   .exact .inr rfl
   .exact IX g f _ _
  .exact .inl rfl
theorem RY (g:aj):((cD g).2=0/\isRed g=true)∨(cD g=([],5)/\isRed g=true)∨(cD g=([],1)/\isRed g=false):=by
 unfold cD
 cases h:isRed g with
 | false=>exact .inr (.inr ⟨by simp,rfl⟩)
 | true =>
  rcases IX g 302 0 eu with h | h
  .exact .inl ⟨h,rfl⟩
  .exact .inr (.inl ⟨h,rfl⟩)
theorem vl {g:aj} (a:g.c6) {x:aO} (c:cT g x) {s:Int} (h:bI g x=(s,true)):dP g s=true:=by
 obtain⟨h1,d⟩:=xx h
 have b:x.dot.toNat<(bV g x.aB).length:=by have:=c.2;omega
 have hm:s∈bV g x.aB:=by
  rw[<-d,aaP,aaQ b];exact aaW _
 unfold bV at hm
 split at hm
 .simp at hm;subst hm
  have:=a.lB;have:=a.start
  unfold dP
  rw[aaR (by omega)]
  simp;omega
 .have e:g.rules[x.aB.toNat]?=some (bZ g x.aB):=by unfold bZ;exact getD_some (by have:=c.1;omega)
  exact a.sym _ (aa1 e) s hm
def jh (a:List ba) (p:Nat) (s:Int):Nat:=(oP a p [s]).1.toNat
def tY (a:List ba) (p:Nat) (s:Int):Prop:=∃e∈(a.getD p b6).cF,e.sym=s
abbrev DI (g:aj) (a:List ba) (p:Nat):List aO:=du g (a.getD p b6).bz
inductive DS (a:List ba):Nat->List Int->Nat->Prop
 | nil {p:Nat} : DS a p [] p
 | cons {p q:Nat} {s:Int} {X:List Int} : tY a p s->DS a (jh a p s) X q->DS a p (s::X) q
theorem DS.snoc {a:List ba} {p q:Nat} {X:List Int} (h:DS a p X q) {s:Int} (he:tY a q s):DS a p (X++[s]) (jh a q s):=by
 induction h with
 | nil=>exact .cons he .nil
 | cons h1 _ b=>exact .cons h1 (b he)
theorem OC {a:List ba} {p:Nat} {s:Int} (h:tY a p s):p<a.length:=by
 obtain⟨e,he,_⟩:=h;exact(Ot he).1
theorem MK {l:List fY} {s:Int} (h:∃e∈l,e.sym=s):∃e∈l,e.sym=s/\ix l s=e.to:=by
 induction l with
 | nil=>obtain⟨e,he,_⟩:=h;simp at he
 | cons e l c =>
  rw[ix]
  by_cases a:e.sym=s
  .rw[aaT a];exact⟨e,by simp,a,rfl⟩
  .rw[aaR a]
   obtain⟨d,h1,b⟩:=h
   rcases abd.1 h1 with rfl | h1
   .exact absurd b a
   .obtain⟨f,g,k2⟩:=c ⟨d,h1,b⟩
    exact⟨f,by simp[g],k2⟩
theorem Vp {g:aj} {i j:Nat} (h:bg g i=bg g j):i=j:=by
 have h1:=zp g i
 rw[h,zp] at h1
 omega
theorem MW (g:aj) (l:List aO) (n:Nat):(l0 g l n).Nodup:=by
 unfold l0
 unfold List.Nodup
 rw[ac7]
 exact((List.nodup_range (n:=n)).filter _).imp λa e=>a (Vp e)
theorem V7 {l:List fY} (h:(l.map fY.sym).Nodup) {e:fY} (he:e∈l):ix l e.sym=e.to:=by
 induction l with
 | nil=>simp at he
 | cons x l a =>
  simp only[abl,abT] at h
  rw[ix]
  rcases abd.1 he with rfl | he
  .rw[aaT rfl]
  .rw[aaR (λb=>h.1 (by rw[b];exact List.mem_map_of_mem he))]
   exact a h.2 he
structure eF (g:aj) (a:List ba):Prop where
 jd:g.c6
 ok:JO g a
 e:lx g a
 x:Wc g a
 pos:1<=a.length
section
variable {g:aj} {a:List ba}
theorem eF.bz (h:eF g a) {p:Nat} (hp:p<a.length):∀x∈(a.getD p b6).bz,cT g x:=(h.ok.bz _ (aa1 (getD_some hp))).2.2
theorem eF.has (h:eF g a) {p:Nat} (hp:p<a.length) {x:aO} (b:x∈DI g a p):cT g x:=((gT h.jd (h.bz hp)).1 b).has (h.bz hp)
theorem eF.A0 (h:eF g a) {p:Nat} (hp:p<a.length) {s:Int} : tY a p s↔∃x∈DI g a p,bI g x=(s,true):=by
 have k:=h.x.all _ (aa1 (getD_some (d:=b6) hp))
 have e:tY a p s↔s∈((a.getD p b6).cF.map fY.sym):=by
  simp only[tY,aba]
 rw[e,k]
 simp only[l0,aba,ab7,abL,aa5]
 constructor
 .rintro⟨i,⟨hi,f⟩,rfl⟩
  obtain⟨y,l⟩:=List.exists_mem_of_ne_nil _ f
  obtain⟨x,b,c,_⟩:=rU.1 l
  exact⟨x,b,c⟩
 .rintro⟨x,b,c⟩
  obtain⟨m,n⟩:=Ox (vl h.jd (h.has hp b) c)
  obtain⟨o,j⟩:=Mg m
  refine⟨(oI g s).toNat,⟨by omega,?_⟩,j⟩
  rw[j]
  exact List.ne_nil_of_mem (rU.2 ⟨x,b,c,rfl⟩)
theorem eF.jh (h:eF g a) {p:Nat} {s:Int} (he:tY a p s):∃e∈(a.getD p b6).cF,e.sym=s/\e.to=jh a p s/\jh a p s<a.length/\oP a p [s]=((jh a p s:Int),true):=by
 have hp:=OC he
 have hm:=aa1 (getD_some (d:=b6) hp)
 obtain⟨e,h1,c,f⟩:=MK he
 obtain⟨t1,t2⟩:=h.ok.to _ hm _ h1
 have hw:oP a p [s]=(e.to,true):=by
  unfold oP
  rw[aaR (by omega),jO,abu,f,aaT ⟨t1,t2⟩,jO]
 have b:((Gv.jh a p s:Nat):Int)=e.to:=by unfold Gv.jh;rw[hw];simp;omega
 exact⟨e,h1,c,b.symm,by omega,by rw[hw,b]⟩
theorem eF.ZI (h:eF g a) {p:Nat} {s:Int} (he:tY a p s):(a.getD (Gv.jh a p s) b6).bz=bu g (DI g a p) s:=by
 have hm:=aa1 (getD_some (d:=b6) (OC he))
 obtain⟨e,h1,b,c,_⟩:=h.jh he
 have:=h.e.A0 _ hm e h1
 rw[c,abu,b] at this
 exact this
theorem eF.step (h:eF g a) {p:Nat} (hp:p<a.length) {x:aO} (b:x∈DI g a p) {s:Int} (c:bI g x=(s,true)):tY a p s/\(⟨x.aB,x.dot+1⟩:aO)∈(a.getD (Gv.jh a p s) b6).bz/\(⟨x.aB,x.dot+1⟩:aO)∈DI g a (Gv.jh a p s)/\Gv.jh a p s<a.length:=by
 have he:=(h.A0 hp).2 ⟨x,b,c⟩
 obtain⟨_,_,_,_,d,_⟩:=h.jh he
 have hk:(⟨x.aB,x.dot+1⟩:aO)∈(a.getD (Gv.jh a p s) b6).bz:=by
  rw[h.ZI he];exact rU.2 ⟨x,b,c,rfl⟩
 exact⟨he,hk,(gT h.jd (h.bz d)).2 (.base hk),d⟩
theorem eF.prev (h:eF g a) {i:Nat} (hi:i<a.length) {x:aO} (c:x∈(a.getD i b6).bz) (f:0<i):∃(p:Nat) (y:aO) (s:Int),p<i/\p<a.length/\y∈DI g a p/\bI g y=(s,true)/\x=⟨y.aB,y.dot+1⟩/\tY a p s/\Gv.jh a p s=i:=by
 obtain⟨p,e,hp,he,d⟩:=h.x.back i f hi
 obtain⟨b,hm⟩:=Ot he
 have hk:=h.e.A0 _ hm e he
 rw[d,abu] at hk
 rw[hk] at c
 obtain⟨y,j,k,rfl⟩:=rU.1 c
 have l:tY a p e.sym:=⟨e,he,rfl⟩
 refine⟨p,y,e.sym,hp,b,j,k,rfl,l,?_⟩
 have h1:=V7 (by rw[h.x.all _ hm];exact MW _ _ _) he
 have hw:oP a p [e.sym]=(e.to,true):=by
  have:=h.ok.to _ hm _ he
  unfold oP
  rw[aaR (by omega),jO,abu,h1,aaT this,jO]
 unfold Gv.jh
 rw[hw,d];rfl
theorem Xc {x:aO} {s:Int} (b:cT g x) (h:bI g x=(s,true)):∃d:Nat,x.dot=d/\d<(bV g x.aB).length/\(bV g x.aB).drop d=s::(bV g x.aB).drop (d+1):=by
 obtain⟨h1,a⟩:=xx h
 have:=b.2
 refine⟨x.dot.toNat,by omega,by omega,?_⟩
 rw[abA (show x.dot.toNat<(bV g x.aB).length by omega)]
 rw[aaP,aaQ (show x.dot.toNat<(bV g x.aB).length by omega)] at a
 simp at a
 rw[a]
end
section
variable {g:aj} {a:List ba}
theorem OR {x:aO} {s:Int} (a:cT g x) (h:bI g x=(s,true)):∃d:Nat,x.dot=d/\(bV g x.aB).drop d=s::hU g x/\(bV g x.aB).drop (d+1)=hU g x:=by
 obtain⟨d,h1,b,c⟩:=Xc a h
 have e:(bV g x.aB).drop (d+1)=hU g x:=by
  unfold hU
  by_cases f:0<=x.aB
  .rw[aaT f,h1,bV,aaR (by omega)];rfl
  .have hr:x.aB = -1:=by have:=a.1;omega
   rw[hr] at b ⊢
   simp only[bV,if_true] at b ⊢
   exact abg (by simp)
 exact⟨d,h1,by rw[c,e],e⟩
theorem Xk (b:eF g a) {q:Nat} (c:q<a.length) {C:Int} {k:Nat} (h:0<=C) (hk:k<g.rules.length) (i:(bZ g k).left=C) (he:tY a q (-1-C)):(⟨k,0⟩:aO)∈DI g a q:=by
 obtain⟨x,d,e⟩:=(b.A0 c).1 he
 have f:g.rules[k]?=some (bZ g k):=by unfold bZ;exact getD_some hk
 exact(gT b.jd (b.bz c)).2 (.step ((gT b.jd (b.bz c)).1 d) e (by omega) f (by omega))
end
section
variable {g:aj} {a:List ba}
end
section
variable {g:aj} {a:List ba}
end
section
variable {g:aj} {a:List ba}
end
theorem CV {g:aj} (h:(cD g).2=0):isRed g=true/\eF g (cD g).1/\(cD g).1.length<=300:=by
 have hr:isRed g=true:=by
  rcases RY g with ⟨_,hr⟩ | ⟨b,hr⟩ | ⟨b,hr⟩
  .exact hr
  .exact hr
  .rw[b] at h;simp at h
 have a:=uN hr
 obtain⟨c,d,e⟩:=UL a h
 exact⟨hr,⟨a,c,Pk a h,P4 a h,d⟩,e⟩
section
variable {g:aj} {a:List ba} {L:List (List Zu)}
end
section
variable {g:aj} {a:List ba} {w:List Int}
end
section
variable {g:aj} {a:List ba}
end
structure bL where
 st:Nat
 it:aO
 ah:List Int
 be:List Int
def noN:bL:=⟨0,⟨0,0⟩,[],[]⟩
def jB (x y:bL):Bool:=decide (y.st=x.st)&&decide (y.it=x.it)
def jg (l:List bL) (x:bL):List bL:=if l.any (jB x)=true then l else l++[x]
def ko (g:aj) (x:bL) (s:Int):Nat->List bL->List bL
 | 0,l=>l
 | k+1,l=>if (bZ g k).left = -1-s then jg (ko g x s k l) ⟨x.st,⟨k,0⟩,x.ah,hU g x.it++x.be⟩ else ko g x s k l
def gq (g:aj) (a:List ba) (l:List bL) (x:bL):List bL:=
 if (bI g x.it).2=true then ko g x (bI g x.it).1 g.rules.length (jg l ⟨jh a x.st (bI g x.it).1,⟨x.it.aB,x.it.dot+1⟩,x.ah++[(bI g x.it).1],x.be⟩) else l
def iU (g:aj) (a:List ba):Nat->Nat->List bL->List bL
 | 0,_,l=>l
 | f+1,i,l=>match l[i]? with
  | none=>l
  | some x=>iU g a f (i+1) (gq g a l x)
def mh:List bL:=[⟨0,⟨-1,0⟩,[],[]⟩]
def cY (g:aj) (a:List ba):List bL:=iU g a 90000 0 mh
def dE (l:List bL) (i:Nat):bL:=(l.find? λx=>decide (x.st=i)).getD noN
def dF (g:aj) (x:aO):List Int:=(bV g x.aB).drop x.dot.toNat
theorem pk {g:aj} {x:aO} {s:Int} (a:cT g x) (h:bI g x=(s,true)):dF g x=s::hU g x/\dF g ⟨x.aB,x.dot+1⟩=hU g x:=by
 obtain⟨d,h1,b,c⟩:=OR a h
 unfold dF
 grind
section
variable {g:aj} {a:List ba}
structure Nd (g:aj) (a:List ba) (x:bL):Prop where
 lt:x.st<a.length
 it:x.it∈DI g a x.st
 Iz:DS a 0 x.ah x.st
 ZD:∀w,Sp g w (x.ah++(dF g x.it++x.be)) 0 w.length->Sp g w [-1-g.start] 0 w.length
theorem Nd.start (b:eF g a):Nd g a ⟨0,⟨-1,0⟩,[],[]⟩:=by
 refine⟨b.pos,(gT b.jd (b.bz b.pos)).2 (.base (by rw[b.e.first];simp)),.nil,λw h=>?_⟩
 simpa [dF,bV] using h
theorem Nd.move (b:eF g a) {x:bL} (h:Nd g a x) {s:Int} (c:bI g x.it=(s,true)):Nd g a ⟨jh a x.st s,⟨x.it.aB,x.it.dot+1⟩,x.ah++[s],x.be⟩:=by
 obtain⟨s1,s2,d,e⟩:=b.step h.lt h.it c
 obtain⟨f1,f2⟩:=pk (b.has h.lt h.it) c
 refine⟨e,d,h.Iz.snoc s1,λw hw=>h.ZD w ?_⟩
 grind
theorem Nd.aB (b:eF g a) {x:bL} (h:Nd g a x) {s:Int} (c:bI g x.it=(s,true)) {k:Nat} (hk:k<g.rules.length) (d:(bZ g k).left = -1-s):Nd g a ⟨x.st,⟨k,0⟩,x.ah,hU g x.it++x.be⟩:=by
 obtain⟨s1,s2,o,p⟩:=b.step h.lt h.it c
 obtain⟨f1,f2⟩:=pk (b.has h.lt h.it) c
 have f:g.rules[k]?=some (bZ g k):=by unfold bZ;exact getD_some hk
 have l:=b.jd.left _ (aa1 f)
 refine⟨h.lt,Xk b h.lt l.1 hk rfl (by rw[d];rw[show -1-(-1-s)=s by omega];exact s1),h.Iz,λw hw=>h.ZD w ?_⟩
 have e:dF g ⟨k,0⟩=(bZ g k).right:=by
  unfold dF bV
  grind
 rw[e] at hw
 rw[f1]
 obtain⟨i,i1,i2⟩:=Sp.split hw
 obtain⟨j,m,n⟩:=Sp.split i2
 exact i1.app (.eJ _ _ _ _ _ _ (by omega) (aa1 f) d m n)
def LW (x:bL):Nat:=x.st*287+((x.it.aB+1)*7+x.it.dot).toNat
theorem Nd.small (b:eF g a) {x:bL} (h:Nd g a x):0<=x.it.aB+1/\(x.it.aB+1)*7+x.it.dot<287/\0<=x.it.dot/\x.it.dot<=6:=by
 have h1:=b.has h.lt h.it
 have:=dZ b.jd h1.1
 have:=h1.1;have:=h1.2;have:=b.jd.rules
 omega
theorem key_inj (b:eF g a) {x y:bL} (c:Nd g a x) (d:Nd g a y) (h:LW x=LW y):y.st=x.st/\y.it=x.it:=by
 have h1:=c.small b;have j:=d.small b
 unfold LW at h
 have e:y.st=x.st:=by omega
 have k:y.it.aB=x.it.aB:=by omega
 have l:y.it.dot=x.it.dot:=by omega
 refine⟨e,?_⟩
 cases f:x.it;cases i:y.it
 grind
structure jT (g:aj) (a:List ba) (l:List bL):Prop where
 nd:∀x∈l,Nd g a x
 one:(l.map LW).Nodup
 len:∀(j:Nat) (x:bL),l[j]?=some x->x.ah.length<=j/\x.be.length<=6*j
theorem jT.short (b:eF g a) (e:a.length<=300) {l:List bL} (h:jT g a l):l.length<=86100:=by
 have:=sC 86100 _ h.one λn c=>by
  obtain⟨x,d,rfl⟩:=aba.1 c
  have h1:=h.nd x d
  have:=h1.small b;have:=h1.lt
  unfold LW
  omega
 grind
def vF (l m:List bL):Prop:=∃t,m=l++t
theorem vF.refl {l:List bL} : vF l l:=⟨[],by simp⟩
theorem vF.trans {l m n:List bL} (h:vF l m) (k:vF m n):vF l n:=by
 obtain⟨t,rfl⟩:=h;obtain⟨u,rfl⟩:=k;exact⟨t++u,by simp⟩
theorem vF.mem {l m:List bL} (h:vF l m) {x:bL} (a:x∈l):x∈m:=by
 obtain⟨t,rfl⟩:=h;exact aa7.2 (.inl a)
theorem vF.at {l m:List bL} (h:vF l m) {i:Nat} (hi:i<l.length):m[i]?=l[i]?/\i<m.length:=by
 obtain⟨t,rfl⟩:=h;exact⟨abm hi,by simp;omega⟩
def FC (l:List bL) (st:Nat) (it:aO):Prop:=∃y∈l,y.st=st/\y.it=it
theorem FC.up {l m:List bL} (h:vF l m) {st:Nat} {it:aO} (k:FC l st it):FC m st it:=by
 obtain⟨y,a,k⟩:=k;exact⟨y,h.mem a,k⟩
theorem Fp (k:eF g a) {l:List bL} (h:jT g a l) {x:bL} (o:Nd g a x) (h1:x.ah.length<=l.length) (q:x.be.length<=6*l.length):jT g a (jg l x)/\vF l (jg l x)/\FC (jg l x) x.st x.it:=by
 unfold jg
 split
 .rename_i c
  obtain⟨y,b,f⟩:=ab8.1 c
  simp only[jB,aaZ,aa5] at f
  exact⟨h,.refl,y,b,f⟩
 .rename_i c
  refine⟨⟨λy b=>?_,?_,λj y i=>?_⟩,⟨[x],rfl⟩,x,by simp,rfl,rfl⟩
  .rcases aa7.1 b with b | b
   .exact h.nd y b
   .grind
  .rw[abh,aco]
   refine⟨h.one,by simp,λn p m hm e=>?_⟩
   obtain⟨y,b,rfl⟩:=aba.1 p
   simp at hm
   subst hm
   have:=key_inj k o (h.nd y b) e.symm
   exact c (ab8.2 ⟨y,b,by simp[jB,this]⟩)
  .by_cases d:j<l.length
   .rw[abm d] at i;exact h.len j y i
   .grind
theorem Gy (b:eF g a) {x:bL} (c:Nd g a x) {s:Int} (d:bI g x.it=(s,true)):∀(k:Nat) (l:List bL),k<=g.rules.length->jT g a l->x.ah.length<=l.length->x.be.length+6<=6*l.length->jT g a (ko g x s k l)/\vF l (ko g x s k l)/\∀j:Nat,j<k->(bZ g j).left = -1-s->FC (ko g x s k l) x.st ⟨j,0⟩
 | 0,l,_,h,_,_=>⟨h,.refl,λj i=>absurd i (by omega)⟩
 | k+1,l,hk,h,h1,m=>by
  obtain⟨i1,i2,i3⟩:=Gy b c d k l (by omega) h h1 m
  rw[ko]
  have hle:l.length<=(ko g x s k l).length:=by obtain⟨t,n⟩:=i2;rw[n];simp
  split
  .rename_i o
   obtain⟨f1,f2⟩:=pk (b.has c.lt c.it) d
   have hr:(hU g x.it).length<=6:=by
    have:=dZ b.jd (b.has c.lt c.it).1
    have e:=abY List.length f1
    simp[dF] at e
    omega
   obtain⟨m1,m2,m3⟩:=Fp b i1 (c.aB b d (by omega) o) (by simp only;omega) (by simp only[abc];omega)
   refine⟨m1,i2.trans m2,λj i f=>?_⟩
   by_cases e:j=k
   .grind
   .exact(i3 j (by omega) f).up m2
  .grind
def JS (g:aj) (a:List ba) (l:List bL) (x:bL):Prop:=∀s,bI g x.it=(s,true)->FC l (jh a x.st s) ⟨x.it.aB,x.it.dot+1⟩/\∀k:Nat,k<g.rules.length->(bZ g k).left = -1-s->FC l x.st ⟨k,0⟩
theorem zZ (c:eF g a) {l:List bL} (h:jT g a l) {i:Nat} {x:bL} (hi:l[i]?=some x):jT g a (gq g a l x)/\vF l (gq g a l x)/\JS g a (gq g a l x) x:=by
 have e:=h.nd x (aa1 hi)
 have m:=(aaX.1 hi).1
 have q:=h.len i x hi
 unfold gq
 split
 .rename_i f
  generalize j:(bI g x.it).1=s
  have d:bI g x.it=(s,true):=by grind
  obtain⟨m1,m2,m3⟩:=Fp c h (e.move c d) (by simp only[abc,aa3,abn];omega) (by simp only;omega)
  have hle:l.length<=(jg l ⟨jh a x.st s,⟨x.it.aB,x.it.dot+1⟩,x.ah++[s],x.be⟩).length:=by obtain⟨t,n⟩:=m2;rw[n];simp
  obtain⟨o,k,p⟩:=Gy c e d g.rules.length _ (aaY _) m1 (by omega) (by omega)
  refine⟨o,m2.trans k,λr b=>?_⟩
  rw[d] at b
  simp only[abf,and_true] at b
  subst b
  exact⟨m3.up k,p⟩
 .rename_i f
  exact⟨h,.refl,λs j=>absurd (by rw[j]) f⟩
theorem GG (c:eF g a) (o:a.length<=300):∀(f i:Nat) (l:List bL),jT g a l->i<=l.length->86101<=f+i->(∀(j:Nat) (x:bL),j<i->l[j]?=some x->JS g a l x)->jT g a (iU g a f i l)/\vF l (iU g a f i l)/\∀x∈iU g a f i l,JS g a (iU g a f i l) x
 | 0,i,l,h,hi,p,hw=>absurd (h.short c o) (by omega)
 | f+1,i,l,h,hi,p,hw=>by
  rw[iU]
  cases e:l[i]? with
  | none =>
   have:=List.getElem?_eq_none_iff.1 e
   simp only
   refine⟨h,.refl,λx q=>?_⟩
   obtain⟨j,r⟩:=List.getElem?_of_mem q
   grind
  | some x =>
   have d:=(aaX.1 e).1
   obtain⟨u,b,F⟩:=zZ c h e
   have hle:l.length<=(gq g a l x).length:=by obtain⟨t,v⟩:=b;rw[v];simp
   obtain⟨w,z,A⟩:=GG c o f (i+1) _ u (by omega) (by omega) λj y r m=>by
    by_cases n:j=i
    .subst n
     rw[(b.at d).1,e] at m
     grind
    .rw[(b.at (i:=j) (by omega)).1] at m
     intro s B
     obtain⟨C,D⟩:=hw j y (by omega) m s B
     exact⟨C.up b,λk hk E=>(D k hk E).up b⟩
   exact⟨w,b.trans z,A⟩
theorem zC (d:eF g a):jT g a mh:=by
 refine⟨λx b=>?_,by simp[mh],λj x c=>?_⟩
 .simp[mh] at b;subst b;exact .start d
 .have:=(aaX.1 c).1
  simp[mh] at this
  subst this
  simp[mh] at c
  grind
theorem Ab (b:eF g a) (c:a.length<=300):jT g a (cY g a)/\(∀x∈cY g a,JS g a (cY g a) x)/\FC (cY g a) 0 ⟨-1,0⟩:=by
 obtain⟨d,e,f⟩:=GG b c 90000 0 mh (zC b) (ab4 _) (by omega) λj x h=>absurd h (by omega)
 exact⟨d,f,⟨0,⟨-1,0⟩,[],[]⟩,e.mem (by simp[mh]),rfl,rfl⟩
theorem X1 (b:eF g a) (o:a.length<=300):∀n p:Nat,p<n->p<a.length->∀y∈DI g a p,FC (cY g a) p y:=by
 obtain⟨h1,l,G⟩:=Ab b o
 intro n
 induction n with
 | zero=>grind
 | succ n r =>
  intro p hp c y t
  have v:=(gT b.jd (b.bz c)).1 t
  induction v with
  | base hk =>
   by_cases d:p=0
   .subst d
    rw[b.e.first] at hk
    grind
   .obtain⟨q,z,s,H,w,A,B,rfl,I,J⟩:=b.prev c hk (by omega)
    obtain⟨u,hu,C,f⟩:=r q (by omega) w z A
    subst f
    have:=(l u hu s B).1
    grind
  | @step x s k R D E K m F h =>
   have i:=(gT b.jd (b.bz c)).2 D
   obtain⟨u,hu,C,f⟩:=h i
   subst f
   have hk:=(aaX.1 m).1
   have j:bZ g k=R:=by unfold bZ;rw[abu,aaP,m];rfl
   have:=(l u hu _ E).2 k hk (by rw[j];exact F)
   grind
theorem Ev (b:eF g a) (e:a.length<=300) {i:Nat} (hi:i<a.length):dE (cY g a) i∈cY g a/\(dE (cY g a) i).st=i/\Nd g a (dE (cY g a) i):=by
 obtain⟨h1,j,k⟩:=Ab b e
 have c:∃y,y∈DI g a i:=by
  have hk:=(b.ok.bz (a.getD i b6) (aa1 (getD_some hi))).2.1
  obtain⟨y,d⟩:=List.exists_mem_of_ne_nil _ hk
  exact⟨y,(gT b.jd (b.bz hi)).2 (.base d)⟩
 obtain⟨y,d⟩:=c
 obtain⟨u,hu,l,m⟩:=X1 b e _ i (Nat.lt_succ_self i) hi y d
 unfold dE
 cases f:(cY g a).find? λx=>decide (x.st=i) with
 | none =>
  grind
 | some z =>
  have h:=List.find?_some f
  have z2:=List.mem_of_find?_eq_some f
  simp at h
  exact⟨z2,h,h1.nd z z2⟩
end
theorem Ds {g:aj} (l:List Int):aI (dp g l).1/\(dp g l).1.length<=60:=by
 unfold dp
 split
 .split
  .unfold aI;simp
  .rename_i hk
   split
   .unfold aI;simp
   .rename_i b
    have a:=(ia (aA g) l bo).1 (by simpa using hk)
    have:=Jk a (by omega)
    unfold aI;simp only;omega
 .unfold aI;simp
theorem zJ {g:aj} {a l b:List Int} (h:(dp g (a++l++b)).2=0):dp g l=(dV g (aA g) g.av.length l,0):=by
 unfold dp at h
 split at h
 .rename_i h1
  split at h
  .simp at h
  .rename_i e
   split at h
   .simp at h
   .rename_i f
    simp only[ac3,aaZ] at h1
    have c:=(ia (aA g) (a++l++b) bo).1 (by simpa using e)
    have d:iE (aA g) l:=λx i=>c x (by simp[i])
    have t1:=ph g g.av.length (a++l++b) bo (sL c) ib
    have t2:=ph g g.av.length l bo (sL d) ib
    simp only[j0,gu,abc,bo] at t1 t2
    have j:(bS (aA g) l bo).2=true:=(ia _ _ _).2 d
    simp only[bo] at f
    unfold dp
    rw[aaT (by rw[aaZ];exact⟨h1.1,h1.2.1.2⟩),aaR (by rw[j];simp),aaR]
    simp only[bo]
    omega
 .simp at h
theorem UI {g:aj} {l:List Int} (h:(dp g l).2=0):bt g=true/\Sp g (dp g l).1 l 0 (dp g l).1.length/\(∀x∈(dp g l).1,0<=x/\x<g.ax.length):=by
 have h1:(bt g&&l.all (dP g))=true:=by
  unfold dp at h
  split at h
  .assumption
  .simp at h
 simp only[aaZ,abj] at h1
 have c:(bS (aA g) l bo).2=true:=by
  unfold dp at h
  split at h
  .split at h
   .simp at h
   .rename_i c;simpa using c
  .simp at h
 have hp:=zJ (a:=[]) (l:=l) (b:=[]) (by simpa using h)
 have d:=(ia (aA g) l bo).1 c
 have e:=bE h1.1
 have f:=QX (λr hr=>(e.left r hr).1) g.av.length l (sL d)
 rw[hp]
 refine⟨h1.1,by simpa using Yz f [] [],Tq e.sym f h1.2⟩
section
variable {g:aj} {a:List ba}
def aaw (g:aj) (l:List bL) (i:Nat):List Int × List Int:=((dE l i).ah,dF g (dE l i).it++(dE l i).be)
def fk (g:aj) (a:List ba) (i:Nat):List Int × List Int:=aaw g (cY g a) i
structure gX where
 state:Int
 len:Int
 word:List Int
def wT (g:aj) (a:List ba) (i:Nat):gX:=⟨i,((dp g (fk g a i).1).1.length:Int),(dp g ((fk g a i).1++(fk g a i).2)).1⟩
end
theorem Ew {g:aj} {u v:List Int} (h:(dp g (u++v)).2=0):(dp g u).2=0/\(dp g u).1.length<=(dp g (u++v)).1.length:=by
 have h1:=zJ (a:=[]) (l:=u) (b:=v) (by simpa using h)
 have c:=zJ (a:=[]) (l:=u++v) (b:=[]) (by simpa using h)
 rw[h1,c]
 refine⟨rfl,?_⟩
 simp only
 rw[gu,abc]
 omega
def dH (w:List Int) (p n:Nat) (o:List Int):List Int:=w.take p++(o++w.drop (p+n))
def iC (g:aj) (w:List Int) (most:Int):Bool:=decide ((w.length:Int)<=most) && !(kQ g w).1
def fF (g:aj) (w:List Int) (p:Nat) (t most:Int):List Int × Bool:=
 if p<w.length/\w.getD p 0≠t/\iC g (dH w p 1 [t]) most=true then (dH w p 1 [t],true)
 else if iC g (dH w p 0 [t]) most=true then (dH w p 0 [t],true) else ([],false)
def ni (g:aj) (w:List Int) (p t most:Int):(List Int × Bool) × Int:=
 if je g w=true/\(0<=p/\p<=w.length)/\(0<=t/\t<g.ax.length)/\(0<=most/\most<=60) then (fF g w p.toNat t most,0) else (([],false),1)
theorem BF {g:aj} {w:List Int} : je g w=true↔bt g=true/\w.length<=60/\∀x∈w,0<=x/\x<g.ax.length:=by
 unfold je Cm
 simp[and_assoc]
theorem yJ {w:List Int} {p n:Nat} {o:List Int} {x:Int} (h:x∈dH w p n o):x∈w∨x∈o:=by
 rcases aa7.1 h with h | h
 .exact .inl (acs h)
 .rcases aa7.1 h with h | h
  .exact .inr h
  .exact .inl (List.mem_of_mem_drop h)
theorem C1 {g:aj} {w:List Int} {a:Int} (hr:bt g=true) (hw:∀x∈w,0<=x/\x<g.ax.length) (hm:a<=60) (b:(w.length:Int)<=a):kQ g w=(mN g w,0):=by
 rw[kQ,aaT (BF.2 ⟨hr,by omega,hw⟩)]
theorem Cr {g:aj} {w:List Int} {a:Int} (hr:bt g=true) (hw:∀x∈w,0<=x/\x<g.ax.length) (hm:a<=60):iC g w a=true↔(w.length:Int)<=a/\mN g w=false:=by
 unfold iC
 by_cases b:(w.length:Int)<=a
 .rw[C1 hr hw hm b];simp[b]
 .simp[b]
theorem Bq {g:aj} {w:List Int} {p n:Nat} {t:Int} (hw:∀x∈w,0<=x/\x<g.ax.length) (a:0<=t/\t<g.ax.length):∀x∈dH w p n [t],0<=x/\x<g.ax.length:=λx b=>by
 rcases yJ b with h | h
 .exact hw x h
 .simp at h;subst h;exact a
theorem UR {g:aj} {w:List Int} {p:Nat} {t a:Int} (h:(fF g w p t a).2=true):iC g (fF g w p t a).1 a=true:=by
 unfold fF at h ⊢
 split
 .rename_i h1;exact h1.2.2
 .rename_i h1
  rw[aaR h1] at h
  split
  .assumption
  .rename_i b;rw[aaR b] at h;simp at h
theorem Xt {g:aj} {w:List Int} {p:Nat} {t a:Int} (h:(fF g w p t a).2=false):iC g (dH w p 0 [t]) a=false:=by
 unfold fF at h
 split at h
 .simp at h
 .split at h
  .simp at h
  .rename_i b;simpa using b
def tW (g:aj) (b:gX) (most:Int) (n:Nat):List (List Int):=(List.range n).flatMap λ(t:Nat)=>if (fF g b.word b.len.toNat t most).2=true then [(fF g b.word b.len.toNat t most).1] else []
def lX (g:aj) (b:gX) (most:Int):List (List Int):=
 tW g b most g.ax.length
 ++ (if b.len<b.word.length/\iC g (dH b.word b.len.toNat 1 []) most=true then [dH b.word b.len.toNat 1 []] else [])
 ++ (if b.len+1<b.word.length/\iC g (b.word.take b.len.toNat) most=true then [b.word.take b.len.toNat] else [])
theorem A3 (g:aj) (b:gX) (a:Int) (n:Nat):tW g b a (n+1)=tW g b a n++(if (fF g b.word b.len.toNat n a).2=true then [(fF g b.word b.len.toNat n a).1] else []):=by
 unfold tW
 rw[acj,List.flatMap_append]
 simp
theorem Vk (g:aj) (b:gX) (a:Int):(lX g b a).length<=g.ax.length+2:=by
 have h:∀n,(tW g b a n).length<=n:=λn=>by
  induction n with
  | zero=>simp[tW]
  | succ n c =>
   rw[A3,abc]
   split<;>simp<;>omega
 have:=h g.ax.length
 unfold lX
 split<;>split<;>simp<;>omega
theorem Vm {g:aj} {b:gX} {a:Int} {x:List Int} (h:x∈lX g b a):iC g x a=true:=by
 rcases aa7.1 h with h | h
 .rcases aa7.1 h with h | h
  .obtain⟨t,_,c⟩:=acu.1 h
   split at c
   .rename_i h1
    simp at c
    rw[c]
    exact UR h1
   .simp at c
  .split at h
   .rename_i h1;simp at h;rw[h];exact h1.2
   .simp at h
 .split at h
  .rename_i h1;simp at h;rw[h];exact h1.2
  .simp at h
theorem PG {g:aj} {b:gX} {c:Int} (hw:∀x∈b.word,0<=x/\x<g.ax.length) {x:List Int} (h:x∈lX g b c):∀y∈x,0<=y/\y<g.ax.length:=by
 rcases aa7.1 h with h | h
 .rcases aa7.1 h with h | h
  .obtain⟨t,e,d⟩:=acu.1 h
   have f:=abL.1 e
   split at d
   .simp at d
    rw[d]
    unfold fF
    split
    .exact Bq hw (by omega)
    .split
     .exact Bq hw (by omega)
     .simp
   .simp at d
  .split at h
   .simp at h
    subst h
    intro y a
    rcases yJ a with a | a
    .exact hw y a
    .simp at a
   .simp at h
 .split at h
  .simp at h
   subst h
   exact λy a=>hw y (acs a)
  .simp at h
theorem Qk {g:aj} {b:gX} {a:Int} {t:Nat} (c:t<g.ax.length) (h:(fF g b.word b.len.toNat t a).2=true):(fF g b.word b.len.toNat t a).1∈lX g b a:=by
 refine aa7.2 (.inl (aa7.2 (.inl (acu.2 ⟨t,abL.2 c,?_⟩))))
 rw[aaT h]
 simp
abbrev aaq:=Option Nat
section
variable {g:aj}
end
abbrev aar:=List (List aaq)
section
variable {g:aj} {c:aar}
end
section
variable {g:aj}
end
theorem XO (l:List Int):((aM l).all λe=>e.length==1&&e.all aK)=true:=by simp[ab9,aK]
theorem bF {g:aj} (d:g.Ok) {n:Nat} {w:List Int} (hr:bt g=true) (h:n<=10) (hw:w∈LL (mN g) g.ax.length n []):kQ g w=(true,0)/\w.length=n/\aI w/\∀x∈w,bm x:=by
 obtain⟨h1,s,e,f,c⟩:=Kp _ _ _ hw
 rw[abK] at e
 subst e
 refine⟨?_,f,by unfold aI;omega,λx a=>?_⟩
 .rw[kQ,aaT,h1]
  simp only[je,aaZ,aa5]
  refine⟨⟨hr,by omega⟩,?_⟩
  unfold Cm
  rw[abj]
  intro x a
  have:=c x a
  simpa using this
 .have:=c x a
  have b:=d.ax
  unfold aI at b
  unfold bm
  omega
def Yv (x:List Int × Bool):V:=.bb [encI x.1,gb x.2]
theorem Sr {w:List Int} {p n:Nat} {t:Int} (a:∀x∈w,bm x) (b:bm t):∀x∈dH w p n [t],bm x:=λx c=>by
 rcases yJ c with h | h
 .exact a x h
 .simp at h;subst h;exact b
theorem Ur {w:List Int} {p n:Nat} {t:Int} (hw:w.length<=1000):aI (dH w p n [t]):=by
 unfold aI dH
 simp
 omega
theorem XY {h:Heap} {u v:V} {b:Bool} (hu:Fr h u v):Fr h (.bb [u,gb b]) (.bb [v,gb b]):=.bb _ _ rfl λi hi=>by
 match i,hi with
 | 0,_=>exact hu
 | 1,_=>exact .tree _ (.val _)
def EE (x:(List Int × Bool) × Int):V:=.bb [encI x.1.1,gb x.1.2,gi x.2]
theorem Bo {g:aj} {x:bL} {s:Int} (h:∀k:Nat,k<g.rules.length->(bZ g k).left≠-1-s):∀(k:Nat) (l:List bL),k<=g.rules.length->ko g x s k l=l
 | 0,_,_=>rfl
 | k+1,l,hk=>by
  rw[ko,aaR (h k (by omega)),Bo h k l (by omega)]
def hX:List bL->Int->Nat->Int
 | [],_,_=>-1
 | x::l,i,n=>if (x.st:Int)=i then n else hX l i (n+1)
theorem Fw (i:Int):∀(l:List bL) (n:Nat) (x:bL),hX (l++[x]) i n=if hX l i n<0 then (if (x.st:Int)=i then ((n+l.length:Nat):Int) else -1) else hX l i n
 | [],n,x=>by simp[hX]
 | y::l,n,x=>by
  rw[abv,hX,hX]
  split
  .rw[aaR (by omega)]
  .rw[Fw i l (n+1) x]
   split
   .split
    .simp only[aa3];congr 1;omega
    .rfl
   .rfl
theorem DK (i:Nat):∀(l:List bL) (n:Nat),(∃x∈l,x.st=i)->∃k:Nat,hX l i n=((n+k:Nat):Int)/\k<l.length/\l[k]?=some (dE l i)
 | [],_,h=>by obtain⟨x,a,_⟩:=h;simp at a
 | y::l,n,h=>by
  rw[hX]
  by_cases e:y.st=i
  .rw[aaT (by omega)]
   exact⟨0,rfl,by simp,by simp[dE,e]⟩
  .rw[aaR (by omega)]
   obtain⟨x,a,hi⟩:=h
   have b:x∈l:=by
    rcases abd.1 a with rfl | a
    .exact absurd hi e
    .exact a
   obtain⟨k,h1,d,c⟩:=DK i l (n+1) ⟨x,b,hi⟩
   refine⟨k+1,by rw[h1];congr 1;omega,by simp only[aa3];omega,?_⟩
   rw[abB,c]
   simp[dE,e]
theorem Sa (us:List (List Int)) (w:us.flatten.length<=1000000) (hu:us.length<=1000):cg aa 68 [.aZ (Wy us)] (encI us.flatten):=by
 have d:∀i,(us.take i).flatten.length<=1000000:=λi=>by
  have:=acR i us
  have b:us.flatten=(us.take i).flatten++(us.drop i).flatten:=by rw[<-List.flatten_append,this]
  rw[b,abc] at w;omega
 refine cg.of (by intro v g;simp at g;subst g;exact fi _ _ λx _ v g=>by simp at g;subst g;exact bC x) ?_
 refine ay.of mixed q9 ?_
 simp(disch:=omega)only[↓wr,seval,wq,lG]
 refine aW.up us.length (λi T H'=>H'=(λ_=>.dead)/\T 0=.aZ (Wy us)/\T 3=gi (us.take i).flatten.length/\T 9=.aZ (Wy us)/\T 10=gi us.length/\T 11=gi i) ⟨rfl,rfl,rfl,rfl,rfl,rfl⟩ ?_
 rintro i k T H1 hk ⟨rfl,t0,t3,t9,t10,t11⟩
 simp(disch:=omega)only[↓wr,seval,wq,kI,t0,t3,t9,t10,t11]
 apply ao.dec<;>intro hi
 .have b:us[i]?=some (us[i]'(by omega)):=aaQ (by omega)
  have a:us.take (i+1)=us.take i++[us[i]'(by omega)]:=by rw[aa9,b];rfl
  have c:=d (i+1)
  generalize us[i]'(by omega)=x at b a
  rw[a] at c
  simp only[List.flatten_append,List.flatten_cons,List.flatten_nil,abW,abc] at c
  simp(disch:=omega)only[↓wr,seval,wq,t0,t3,t9,t10,t11,aaS,b,aa2,encI]
  refine ao.dec (λh=>absurd h (by omega)) (λ_=>?_)
  simp(disch:=omega)only[↓wr,seval,wq,t0,t3,t9,t10,t11]
  refine aE hk (by omega) ⟨rfl,t0,?_,t9,t10,rfl⟩
  rw[a,List.flatten_append,abc,List.flatten_cons,List.flatten_nil,abW]
  push_cast
  rfl
 .simp(disch:=omega)only[↓wr,seval,wq,t0,t3,t9,t10,t11]
  have e:us.take i=us:=aa6 (by omega)
  rw[e]
  refine az.cG ((PS _ w _).mono ?_)
  intro r y hr
  have j:JF y r []:=by
   rcases hr with ⟨_,rfl,rfl⟩ | ⟨_,m,es,hm,rfl,rfl⟩
   .exact .inl .nil
   .exact .inr ⟨rfl,m,es,rfl,by simp[View.set]⟩
  have l:us.flatten.length=0->aP y r 1 (aM []):=λo=>by
   rcases hr with ⟨_,rfl,_⟩ | ⟨h1,_⟩
   .exact .nil
   .omega
  simp(disch:=omega)only[↓wr,seval,wq,t0,t3,t9,t10,t11]
  refine aW.up us.length (λi T H'=>∃u,T 6=u/\JF H' u (us.take i).flatten/\(us.flatten.length=0->aP H' u 1 (aM (us.take i).flatten))/\T 25=.aZ (Wy us)/\T 26=gi us.length/\T 27=gi i) ⟨r,rfl,j,l,rfl,rfl,rfl⟩ ?_
  rintro i k T z hk ⟨u,t6,p,q,t25,t26,t27⟩
  simp(disch:=omega)only[↓wr,seval,wq,kR,t6,t25,t26,t27]
  apply ao.dec<;>intro hi
  .have b:us[i]?=some (us[i]'(by omega)):=aaQ (by omega)
   have a:us.take (i+1)=us.take i++[us[i]'(by omega)]:=by rw[aa9,b];rfl
   have c:=d (i+1)
   generalize us[i]'(by omega)=x at b a
   rw[a,List.flatten_append,abc,List.flatten_cons,List.flatten_nil,abW] at c
   simp(disch:=omega)only[↓wr,seval,wq,t6,t25,t26,t27,aaS,b,aa2,encI,nU]
   refine Qd p (by unfold aF;omega) (by unfold aF;omega) rfl ?_
   intro u' A s t B
   simp(disch:=omega)only[↓wr,seval,wq,t6,t25,t26,t27]
   refine aE hk (by omega) ⟨u',rfl,?_,λo=>?_,t25,t26,rfl⟩
   .rw[a];simpa using s
   .rw[a];simpa using t (q o)
  .simp(disch:=omega)only[↓wr,seval,wq,t6,t25,t26,t27]
   have e:us.take i=us:=aa6 (by omega)
   rw[e] at p q
   intro C g
   refine dD.Lh (sz:=1) (f:=λn=>.int .i64 n) ?_
   rw[g]
   rcases p with p | ⟨o,m,es,rfl,hm⟩
   .exact p
   .have:=q (by rw[o];rfl)
    rw[o] at this ⊢;exact this
def DU (v:V) (l:List Int):Prop:=v=encI l∨(l=[]/\v=.emp 1)
theorem DU.kL {v:V} {l:List Int} (h:DU v l) {H:View} : ct H v (encI l):=by
 rcases h with rfl | ⟨rfl,rfl⟩
 .exact .tree (bC l)
 .exact λ_ _=>.emp 1
theorem DU.ey {v:V} {l:List Int} (h:DU v l):aK v=true/\V.cells v=[v]/\Tree v:=by
 rcases h with rfl | ⟨rfl,rfl⟩
 .exact⟨rfl,rfl,bC l⟩
 .exact⟨rfl,rfl,.emp 1⟩
structure eE where
 n:bL
 a:V
 b:V
structure eE.Ok (x:eE):Prop where
 a:DU x.a x.n.ah
 b:DU x.b x.n.be
def dG (x:eE):List V:=[gi x.n.st,gi x.n.it.aB,gi x.n.it.dot,x.a,x.b]
def Ed (S:List eE) (x:eE):List eE:=if S.any (λy=>jB x.n y.n)=true then S else S++[x]
theorem S7 (S:List eE) (x:eE):(Ed S x).map eE.n=jg (S.map eE.n) x.n:=by
 unfold Ed jg
 rw[List.any_map]
 have e:(jB x.n∘eE.n)=λy:eE=>jB x.n y.n:=rfl
 rw[e]
 split<;>simp
theorem O5 {S:List eE} {x:eE} (b:∀y∈S,y.Ok) (c:x.Ok):∀y∈Ed S x,y.Ok:=by
 unfold Ed
 split
 .exact b
 .intro y a
  rcases aa7.1 a with a | a
  .exact b y a
  .simp at a;subst a;exact c
def tq:SF:=⟨ai [ag [bT 4 1],ag [bT 5 2,af 6 0,fL 7 1 8 5 6,af 8 1,fL 9 1 8 7 8,af 4 9],.ret],
 [.tmp 4],10⟩
theorem yA:aJ aa 65 []=some tq:=by kernel_rfl
def rl:SF:=⟨ai [ag [cm 2 0,bT 4 1],ai [ag [af 5 1,aH 6 .lss 5 0],aX 6 (ai [ag [aw 7 3 2,au 8 7,((some 9),.op (.arith .sub (.val (.val (.int .i64 (-1)))) (.tmp 8))),((some 10),.op (.bN 1 1 [(.val (.int .i64 0))] [(0,(.tmp 9))])),af 4 10],.ret])],ag [aw 11 2 2,au 12 11,af 13 1,aL 14 3 12 13,aw 15 1 14,au 16 15,af 4 16],.ret],
 [.tmp 4],17⟩
theorem xK:aJ aa 66 [2]=some rl:=by kernel_rfl
def rI:SC:=
 ai [ai [ag [af 6 5,af 7 0,aN 8 7,aS 9 .lss 6 8],bP 9 (.exit 0)],.block 1 (ai [.region false [⟨none,[af 12 0,af 13 5,aL 14 5 12 13,aw 15 0 14,au 16 15,aw 17 0 3,au 18 17,aS 19 .eql 16 18,af 20 19]⟩,⟨(some (20,true)),[af 21 0,af 22 5,aL 23 5 21 22,aw 24 1 23,aU 25 2 24,aw 26 1 3,aU 27 2 26,((some 28),.op (.old (.binOp .eql 120 (.tmp 25) (.tmp 27) 120) 4))]⟩,⟨none,[dO 29 20 28]⟩],aX 29 (ai [ag [af 30 0,af 4 30],.ret])]),ag [af 10 5,aH 11 .add 10 1,af 5 11]]
def uh:SF:=⟨ai [ag [cm 3 1,bT 4 1],ai [ag [aT 5 0],bQ 0 rI],ag [af 31 0,aU 32 5 3,((some 33),.op (.bN 1 5 [(.val (.int .i64 0)),(.val (.int .i64 0)),(.val (.int .i64 0)),(.emp 1),(.emp 1)] [(0,(.tmp 32))])),fL 34 5 72 31 33,af 4 34],.ret],
 [.tmp 4],35⟩
theorem zg:aJ aa 128 [3]=some uh:=by kernel_rfl
theorem xc (a b:List Int) (e:a.length+b.length<=1000000):cg aa 65 [encI a,encI b] (encI (a++b)):=by
 refine cg.of (by
  intro v c;simp at c
  rcases c with rfl | rfl<;>exact bC _) ?_
 refine ay.of mixed yA ?_
 simp(disch:=omega)only[↓wr,seval,wq,tq,encI,nU]
 refine eL (es:=[]) .nil (by simp[ab9,aK]) (by unfold aF;simp;omega) (by unfold aF;simp;omega) ?_
 intro u H o _
 simp(disch:=omega)only[↓wr,seval,wq,nU]
 refine eL o (by simp[ab9,aK]) (by unfold aF;simp;omega) (by unfold aF;simp;omega) ?_
 intro g h d _
 simp(disch:=omega)only[↓wr,seval,wq]
 intro i c
 refine dD.Lh (sz:=1) (f:=λn=>.int .i64 n) ?_
 rw[c]
 simpa using d
theorem EN (g:aj) (c:bm (-1-g.start)) (r:Int) (h : -1<=r/\r<g.rules.length):aC aa 66 [.agg (ak g),gi r] (encI (bV g r)):=by
 refine aC.of (by
  intro v a;simp at a
  rcases a with rfl | rfl
  .exact bW _ (cx g)
  .exact .val _) ?_
 unfold bm at c
 refine ay.of mixed xK ?_
 simp(disch:=omega)only[↓wr,seval,wq,rl,ak,encS]
 unfold bV
 apply ao.dec<;>intro h1
 .rw[aaT (by omega)]
  simp(disch:=omega)only[↓wr,seval,wq,ak,encS]
  intro n b a
  exact ct.own (sz:=1) (es:=aM [-1-g.start]) (.inr ⟨n,rfl,by simp[View.set]⟩) (by intro e he v a;simp at he;subst he;simp at a;subst a;exact .val _) b a
 .rw[aaR (by omega)]
  have d:g.rules[r.toNat]?=some (bZ g r):=by unfold bZ;exact getD_some (by omega)
  simp(disch:=omega)only[↓wr,seval,wq,ak,encS,aQ,aaS,d,aa2]
  intro b _
  exact .tree _ (bC _)
theorem TF {x:eE} (c:x.Ok):(([dG x]:List (List V)).all λe=>e.length==5&&e.all aK)=true:=by
 simp only[dG,ab0,List.all_nil,c.a.ey.1,c.b.ey.1];rfl
theorem KH (S:List eE) (x:eE) (t:x.Ok) (K:S.length<=90000) (u:V) (H:View) (s:aP H u 5 (S.map dG)):ay aa 128 [u,.agg (dG x)] H λr H'=>aP H' r 5 ((Ed S x).map dG)/\Left H H' u r:=by
 refine ay.of mixed zg ?_
 have hlen:cJ u=some S.length:=by rw[s.len];simp
 have e:=TF t
 obtain⟨⟨f,v,_⟩,⟨g,w,_⟩⟩:=And.intro t.a.ey t.b.ey
 simp only[dG] at e
 simp(disch:=omega)only[↓wr,seval,wq,uh,dG,f,v,g,w]
 refine aW.up S.length (λi T H'=>H'=H/\((S.take i).any λy=>jB x.n y.n)=false/\T 0=u/\T 3=.aR (dG x) 0/\T 5=gi i) ⟨rfl,rfl,rfl,rfl,rfl⟩ ?_
 rintro i k T H' hk ⟨E,c,t0,t3,t5⟩
 subst E
 simp(disch:=omega)only[↓wr,seval,wq,rI,t0,t3,t5,hlen]
 apply ao.dec<;>intro F
 .have z:S[i]?=some (S[i]'(by omega)):=aaQ (by omega)
  have h:S.take (i+1)=S.take i++[S[i]'(by omega)]:=by rw[aa9,z];rfl
  have j:=aaW (show i<S.length by omega)
  generalize S[i]'(by omega)=y at z h j
  obtain⟨id,hu,l⟩:=s.sl (by simp;omega)
  rw[aaU] at hu
  have B:(S.map dG).getD i []=dG y:=by simp[aaP,z]
  simp(disch:=omega)only[↓wr,seval,wq,t0,t3,t5,hu,l,B,dG]
  refine⟨by omega,by first | omega | (simp;omega),?_⟩
  have m:((S.take (i+1)).any λy=>jB x.n y.n)=jB x.n y.n:=by
   rw[h,List.any_append,c];simp
  apply ao.eq<;>intro G
  .simp(disch:=omega)only[↓wr,seval,wq,t0,t3,t5,hu,l,B,dG]
   refine⟨by omega,by first | omega | (simp;omega),?_⟩
   refine km (xs:=#[.int .i64 y.n.it.aB,.int .i64 y.n.it.dot]) (ys:=#[.int .i64 x.n.it.aB,.int .i64 x.n.it.dot]) Tryz.underlying120 (by kernel_rfl) (by kernel_rfl) ?_ ?_ (tv y.n.it x.n.it) (.inl ⟨rfl,rfl⟩) ?_
   .rfl
   .rfl
   rw[B3]
   have p:jB x.n y.n=decide (y.n.it=x.n.it):=by
    unfold jB
    rw[abt (by omega:y.n.st=x.n.st),aby]
   simp(disch:=omega)only[↓wr,seval,wq,t0,t3,t5]
   apply ao.dec<;>intro A
   .simp(disch:=omega)only[↓wr,seval,wq,t0]
    have d:Ed S x=S:=aaT (ab8.2 ⟨y,j,by rw[p];simpa using A⟩)
    rw[d]
    exact⟨s,.refl⟩
   .simp(disch:=omega)only[↓wr,seval,wq,t0,t3,t5]
    refine aE hk (by omega) ⟨rfl,?_,t0,t3,rfl⟩
    rw[m,p];simpa using A
  .simp(disch:=omega)only[↓wr,seval,wq,t0,t3,t5]
   refine aE hk (by omega) ⟨rfl,?_,t0,t3,rfl⟩
   rw[m]
   unfold jB
   rw[decide_eq_false (by omega:¬ y.n.st=x.n.st),ab6]
 .rw[aa6 (by omega)] at c
  have d:Ed S x=S++[x]:=aaR (by rw[c];simp)
  simp(disch:=omega)only[↓wr,seval,wq,t0,t3,dG,f,g]
  intro q C
  have D:=s.fresh (o:=.arr 5 [dG x]) C
  simp only[dG] at D
  simp(disch:=omega)only[↓wr,seval,wq,bG,t0,t3]
  refine jU D (by simp) e (by unfold aF;simp;omega) (by unfold aF;simp;omega) ?_
  intro r L I J
  simp(disch:=omega)only[↓wr,seval,wq]
  rw[d]
  refine⟨?_,J.behind C⟩
  rw[abh]
  exact I
section
variable {κ:Type} [BEq κ] [LawfulBEq κ] {kv:κ->V} {P:Program} {T:Env} {H:View} {kt et t ty:TypeId}
end
section
variable {H:View} {b:Nat} {g:aj} {a:List ba} {ul us:V} {vs:List V} {ls:List (List aO)} {ss:Sets} {more:Bool} {L:List er}
end
section
variable {H:View} {b:Nat} {g:aj} {a:List ba} {ul us:V} {vs:List V} {ls:List (List aO)} {ss:Sets} {more:Bool} {L:List er}
end
section
variable {H:View} {b:Nat} {g:aj} {a:List ba} {ul us:V} {vs:List V} {ls:List (List aO)} {ss:Sets} {more:Bool} {L:List er}
end
inductive k5 (P:Program) (d:Nat) (xs ys:Array Value):List Field->Bool->Prop
 | nil:k5 P d xs ys [] true
 | any (f:Field) (l:List Field) (c e:Bool) (a b:Value):(f.name≠ "_")->bk P (part f.type xs f.offset)=some a->bk P (part f.type ys f.offset)=some b->bk P (Op.equalIn (d+1) f.type a b)=some e->k5 P d xs ys l c->k5 P d xs ys (f::l) (e&&c)
theorem k5.forIn {P:Program} {d e:Nat} {xs ys:Array Value} {l:List Field} {c:Bool} (h:k5 P d xs ys l c) (g:e=d+1):
  bk P (forIn l ((none:Option Bool),()) λf _ =>
   if f.name≠ "_" then do
    let a <-part f.type xs f.offset
    let b <-part f.type ys f.offset
    let e <-Op.equalIn e f.type a b
    if (!e)=true then pure (ForInStep.done (some false,())) else pure (ForInStep.yield (none,()))
   else pure (ForInStep.yield (none,())))=some (if c=true then (none,()) else (some false,())):=by
 subst g
 induction h with
 | nil=>rfl
 | any f l c e a b i j k he _ m =>
  rw[List.forIn_cons,aY,aaT i,aY,j,abk,aY,k,abk,aY,he,abk]
  cases e with
  | false=>rfl
  | true=>exact m
theorem yU {P:Program} {d:Nat} {t:TypeId} {b:Array Field} {xs ys:Array Value} {c:Bool} (hu:P.underlying t=some (.struct b)) (f:P.stoodInHeld t=false) (h:k5 P d xs ys b.toList c):
  bk P (Op.equalIn (d+1+1) t (.agg xs) (.agg ys))=some c:=by
 rw[Op.equalIn,aY,dA hu,abk]
 have a:(bk P program)=some P:=rfl
 rw[aY,a,abk,f]
 simp only[<-Array.forIn_toList,abp,if_false]
 rw[aY,h.forIn (e:=d+1) rfl,abk]
 cases c<;>rfl
theorem xJ {P:Program} {d:Nat} {t:TypeId} {k:IntKind} (hu:P.underlying t=some (.int k)) (a b:Int):bk P (Op.equalIn (d+1) t (.int k a) (.int k b))=some (a==b):=by
 simp only[Op.equalIn,aY,dA hu,abk];rfl
theorem Xq {κ:Type} [BEq κ] {P:Program} {kt:TypeId} {kv:κ->V} (val:κ->Value) {n:Array Field} (l:∀k,dC (kv k)=some (val k)) (hu:P.underlying kt=some (.struct n))
  (heq:∀a b,bk P (Op.equal kt (val a) (val b))=some (a==b)) (c:∀k e,bk P (Instr.checkKey e 10000 kt (val k))=some ()) (o:∀k,sameKey (kv k) (kv k)=true):En P kt kv where
 same:=o
 find:=by
  have d:∀m:cH κ,gI (cX kv m)=some (m.map λx=>{ key:=val x.1,val:=.nilFunc,born:=x.2.2 }):=by
   intro m
   induction m with
   | nil=>rfl
   | cons x r g =>
    simp only[cX] at g
    simp[cX,gI,l,g]
  have f:∀(k:κ) (m:cH κ) (i:Nat),bk P (Instr.findAsking kt (val k) (m.map λx=>{ key:=val x.1,val:=.nilFunc,born:=x.2.2 }) i)=some ((gC k m).map λj=>(i+j,.nilFunc)):=by
   intro k m
   induction m with
   | nil=>intro i;rfl
   | cons x r g =>
    intro i
    simp only[abl,Instr.findAsking,aY,heq,abk,gC]
    cases hk:k==x.1 with
    | true=>simp[vQ]
    | false =>
     simp only[abp,if_false,g (i+1),Option.map_map]
     congr 2
     funext j
     simp only[Function.comp]
     congr 1
     omega
  intro k e m
  have h:bk P (underlying kt)=some _:=dA hu
  simp only[mU,l,d,aY,c,abk]
  have:bk P (Instr.findKey kt (val k) (m.map λx=>{ key:=val x.1,val:=.nilFunc,born:=x.2.2 }))=some ((gC k m).map λj=>(0+j,.nilFunc)):=by
   unfold Instr.findKey
   rw[aY,h,abk]
   cases m with
   | nil=>rfl
   | cons x r=>exact f k (x::r) 0
  rw[this]
  cases gC k m with
  | none=>rfl
  | some j=>simp
abbrev Am:=Int × Int × Int
def vU (x:Am):V:=.agg [gi x.1,gi x.2.1,gi x.2.2]
def Cd (x:Am):Value:=.agg #[.int .i64 x.1,.int .i64 x.2.1,.int .i64 x.2.2]
def js (x:bL):Am:=((x.st:Int),x.it.aB,x.it.dot)
theorem I7 (x y:bL):(js x==js y)=jB x y:=by
 obtain⟨s,⟨r,d⟩,a,b⟩:=x
 obtain⟨f,⟨g,h⟩,i,j⟩:=y
 rw[abD]
 simp[js,jB]
 constructor
 .rintro⟨h1,c,e⟩;exact⟨by omega,c.symm,e.symm⟩
 .rintro⟨h1,c,e⟩;exact⟨by omega,c.symm,e.symm⟩
theorem XK (a b c d:Int):k5 aa 9997 #[.int .i64 a,.int .i64 b] #[.int .i64 c,.int .i64 d]
  [{ name:= "Rule",type:=3,offset:=0,embedded:=false,tag:= "",pkgPath:= "",byteOffset:=0 },{ name:= "Dot",type:=3,offset:=1,embedded:=false,tag:= "",pkgPath:= "",byteOffset:=8 }] ((a==c)&&((b==d)&&true)):=
 .any _ _ _ _ _ _ (by decide) (ew Tryz.underlying3 (.inr ⟨_,rfl⟩) _ _ rfl) (ew Tryz.underlying3 (.inr ⟨_,rfl⟩) _ _ rfl) (xJ Tryz.underlying3 _ _)
  (.any _ _ _ _ _ _ (by decide) (ew Tryz.underlying3 (.inr ⟨_,rfl⟩) _ _ rfl) (ew Tryz.underlying3 (.inr ⟨_,rfl⟩) _ _ rfl) (xJ Tryz.underlying3 _ _) .nil)
theorem IH (a b c:Int):bk aa (part 120 #[.int .i64 a,.int .i64 b,.int .i64 c] 1)=some (.agg #[.int .i64 b,.int .i64 c]):=by kernel_rfl
theorem P6 (x y:Am):bk aa (Op.equal 218 (Cd x) (Cd y))=some (x==y):=by
 rw[lf,Cd,Cd]
 have h:k5 aa 9998 #[.int .i64 x.1,.int .i64 x.2.1,.int .i64 x.2.2] #[.int .i64 y.1,.int .i64 y.2.1,.int .i64 y.2.2]
  [{ name:= "state",type:=3,offset:=0,embedded:=false,tag:= "",pkgPath:= "gerund/access",byteOffset:=0 },{ name:= "item",type:=120,offset:=1,embedded:=false,tag:= "",pkgPath:= "gerund/access",byteOffset:=8 }] ((x.1==y.1)&&(((x.2.1==y.2.1)&&((x.2.2==y.2.2)&&true))&&true)):=
  .any _ _ _ _ _ _ (by decide) (ew Tryz.underlying3 (.inr ⟨_,rfl⟩) _ _ rfl) (ew Tryz.underlying3 (.inr ⟨_,rfl⟩) _ _ rfl) (xJ Tryz.underlying3 _ _)
  (.any _ _ _ _ _ _ (by decide) (IH _ _ _) (IH _ _ _) (yU Tryz.underlying120 (by kernel_rfl) (XK x.2.1 x.2.2 y.2.1 y.2.2)) .nil)
 rw[yU Tryz.underlying218 (by kernel_rfl) h]
 obtain⟨a,b,c⟩:=x
 obtain⟨d,e,f⟩:=y
 congr 1
 rw[abD]
 simp
theorem QL (x:Am) (e:Bool):bk aa (Instr.checkKey e 10000 218 (Cd x))=some ():=by
 cases e<;>kernel_rfl
theorem U8:En aa 218 vU:=
 Xq Cd (λ_=>rfl) Tryz.underlying218 P6 QL λk=>by simp[sameKey,show dC (vU k)=some (Cd k) from rfl,Cd,Instr.sameBits]
def gD:SC:=
 ai [ag [aS 9 .lss 8 7],bP 9 (.exit 0),.block 1 (ai [ag [af 10 8,af 5 10],ag [af 11 1,af 12 0,af 13 5,aL 14 2 12 13,aU 15 2 14,((some 16),.call (.tmp 11) [(.tmp 15)])],aX 16 (ai [ag [af 17 5,af 4 17],.ret])]),ag [aH 18 .add 8 1,af 8 18]]
def gR:SF:=⟨ai [ag [aT 4 0],ai [ag [af 6 0,aN 7 6,aT 8 0],bQ 0 gD],ag [aT 4 (-1)],.ret],
 [.tmp 4],19⟩
theorem kT:aJ aa 249 []=some gR:=by kernel_rfl
def As:SF:=⟨ai [ag [cm 2 0,bh 3 false],ag [aw 4 0 2,au 5 4,au 6 1,aS 7 .eql 5 6,af 3 7],.ret],
 [.tmp 3],8⟩
theorem EA:aJ aa 250 [2]=some As:=by kernel_rfl
def AJ:SC:=
 ai [ag [aS 24 .lss 23 22],bP 24 (.exit 0),.block 1 (ai [ag [aL 25 1 21 23,au 26 25,((some 10),.op (.alloc [(.val (.int .i64 0))])),cz 1 10 26],ag [af 27 0,af 28 8,aL 29 2 27 28,aw 30 1 29,au 31 30,((some 32),.op (.tU 250 [] [(.tmp 10)])),aV 33 249 [31,32],af 11 33],ai [ag [af 34 11,aH 35 .lss 34 0],aX 35 (ai [ag [aT 6 0,bh 7 false],.ret])],ag [af 36 0,af 37 8,aL 38 2 36 37,aw 39 1 38,au 40 39,af 41 11,aL 42 2 40 41,aw 43 1 42,au 44 43,af 8 44],.region false [⟨none,[af 45 8,aH 46 .lss 45 0,af 47 46]⟩,⟨(some (47,false)),[af 48 8,af 49 0,aN 50 49,aS 51 .geq 48 50]⟩,⟨none,[cE 52 47 51]⟩],aX 52 (ai [ag [aT 6 0,bh 7 false],.ret])]),ag [aH 53 .add 23 1,af 23 53]]
def Dy:SF:=⟨ai [ag [aT 6 0,bh 7 false],ag [af 12 1,af 8 12],ai [.region false [⟨none,[af 13 8,aH 14 .lss 13 0,af 15 14]⟩,⟨(some (15,false)),[af 16 8,af 17 0,aN 18 17,aS 19 .geq 16 18]⟩,⟨none,[cE 20 15 19]⟩],aX 20 (ai [ag [aT 6 0,bh 7 false],.ret])],ai [ag [af 21 2,aN 22 21,aT 23 0],bQ 0 AJ],ag [af 54 8,af 6 54,bh 7 true],.ret],
 [.tmp 6,.tmp 7],55⟩
theorem Hr:aJ aa 193 []=some Dy:=by kernel_rfl
theorem PH (l:List fY) (g:aI l) (f:FuncId) (cap:List V) (p:fY->Bool) (H:View) (h:∀x∈l,ay aa f (.agg (lZ x)::cap) H λr H'=>r=gb (p x)/\H'=H):
  ay aa 249 [.aZ (kZ l),.fn f [] cap] H λr H'=>r=gi (dU p l 0)/\H'=H:=by
 refine ay.of mixed kT ?_
 unfold aI at g
 simp(disch:=omega)only[↓wr,seval,wq,gR,kZ]
 refine aW.up l.length (λi T H'=>H=H'/\dU p (l.drop i) i=dU p l 0/\T 0=.aZ (l.map lZ)/\T 1=.fn f [] cap/\T 7=gi l.length/\T 8=gi i) ⟨rfl,rfl,rfl,rfl,rfl,rfl⟩ ?_
 rintro i k T _ hk ⟨rfl,hi,b,h1,c,d⟩
 simp(disch:=omega)only[↓wr,seval,wq,gD,b,h1,c,d]
 apply ao.dec<;>intro j
 .have e:l[i]?=some (l[i]'(by omega)):=aaQ (by omega)
  have hm:l[i]'(by omega)∈l:=aaW _
  rw[eM (show i<l.length by omega)] at hi
  generalize l[i]'(by omega)=x at e hm hi
  simp(disch:=omega)only[↓wr,seval,wq,b,h1,c,d,aaS,e,aa2,lZ]
  have a:=h x hm
  simp only[lZ] at a
  refine az.cG (a.mono ?_)
  rintro r m ⟨rfl,rfl⟩
  simp only[dU] at hi
  simp(disch:=omega)only[↓wr,seval,wq]
  apply ao.split<;>intro hp
  .simp(disch:=omega)only[↓wr,seval,wq,b,h1,c,d]
   rw[<-hi,aaT hp]
  .simp(disch:=omega)only[↓wr,seval,wq,b,h1,c,d]
   refine aE hk (by omega) ⟨rfl,?_,b,h1,c,rfl⟩
   rw[aaR (by simp[hp])] at hi
   push_cast;exact hi
 .rw[abg (by omega)] at hi
  simp(disch:=omega)only[↓wr,seval,wq,b,h1,c,d]
  rw[<-hi];rfl
theorem VA (x:fY) (s:Int) (q:Nat) (H:View) (a:H q=.arr 1 [[gi s]]):ay aa 250 [.agg (lZ x),.ptr q 0 0] H λr H'=>r=gb (decide (x.sym=s))/\H'=H:=by
 refine ay.of mixed EA ?_
 simp(disch:=omega)only[↓wr,seval,wq,As,lZ,a]
 congr 2
theorem Mp (s:Int):∀(l:List fY) (i:Int),0<=i->(dU (λe=>decide (e.sym=s)) l i<0->ix l s = -1)/\(0<=dU (λe=>decide (e.sym=s)) l i->∃(k:Nat) (e:fY),dU (λe=>decide (e.sym=s)) l i=i+k/\l[k]?=some e/\ix l s=e.to)
 | [],i,_=>⟨λ_=>rfl,λh=>by simp[dU] at h⟩
 | x::l,i,d=>by
  simp only[dU,ix,aa5]
  by_cases h:x.sym=s
  .rw[aaT h,aaT h]
   exact⟨λh=>by omega,λ_=>⟨0,x,by simp,rfl,rfl⟩⟩
  .rw[aaR h,aaR h]
   obtain⟨h1,a⟩:=Mp s l (i+1) (by omega)
   refine⟨h1,λh=>?_⟩
   obtain⟨k,e,b,k2,c⟩:=a h
   exact⟨k+1,e,by rw[b];push_cast;omega,by simpa using k2,c⟩
theorem Sw {l:List fY} (h:∀e∈l,bm e.to) (s:Int):bm (ix l s):=by
 induction l with
 | nil=>unfold bm;simp[ix]
 | cons e l a =>
  rw[ix];split
  .exact h e (by simp)
  .exact a λx b=>h x (by simp[b])
theorem VB (a:List ba) (_:aI a) (he:∀s∈a,aI s.cF/\∀e∈s.cF,bm e.sym/\bm e.to) (fr:Int) (syms:List Int) (t:aI syms):aC aa 193 [cq a,gi fr,encI syms] (.bb [gi (oP a fr syms).1,gb (oP a fr syms).2]):=by
 unfold aI at t
 refine aC.tree (by
  intro v l;simp at l
  rcases l with rfl | rfl | rfl
  .exact oo _
  .exact .val _
  .exact bC _) (wg (.val _) (.val _)) λH=>?_
 refine ay.of mixed Hr ?_
 unfold oP
 simp(disch:=omega)only[↓wr,seval,wq,Dy,cq,encI]
 apply ao.dec<;>intro h1
 .simp(disch:=omega)only[↓wr,seval,wq]
  rw[aaT (by omega)]
 simp(disch:=omega)only[↓wr,seval,wq,cq]
 apply ao.dec<;>intro u
 .simp(disch:=omega)only[↓wr,seval,wq]
  rw[aaT (by omega)]
 rw[aaR (by omega)]
 simp(disch:=omega)only[↓wr,seval,wq]
 refine aW.up syms.length (λi T H'=>∃at_:Int,0<=at_/\at_<a.length/\jO a at_ (syms.drop i)=jO a fr syms/\T 0=cq a/\T 8=gi at_/\T 21=encI syms/\T 22=gi syms.length/\T 23=gi i) ⟨fr,by omega,by omega,rfl,rfl,rfl,rfl,rfl,rfl⟩ ?_
 rintro i k T H' hk ⟨at_,D,E,hw,t0,t8,t21,t22,t23⟩
 simp(disch:=omega)only[↓wr,seval,wq,AJ,t0,t8,t21,t22,t23,encI]
 apply ao.dec<;>intro w
 .have m:syms[i]?=some (syms[i]'(by omega)):=aaQ (by omega)
  rw[abA (show i<syms.length by omega)] at hw
  generalize syms[i]'(by omega)=x at m hw
  have f:a[at_.toNat]?=some (a.getD at_.toNat b6):=getD_some (by omega)
  obtain⟨b,c⟩:=he _ (aa1 f)
  rw[jO] at hw
  have g:=Sw (λe h=>(c e h).2) x
  generalize a.getD at_.toNat b6=S at f b c hw g
  simp(disch:=omega)only[↓wr,seval,wq,t0,t8,t21,t22,t23,encI,aaS,m,aa2]
  intro q F
  rw[set_set]
  have d:(H'.set q (.arr 1 [[gi x]])) q=.arr 1 [[gi x]]:=by simp[View.set]
  generalize H'.set q (.arr 1 [[gi x]])=n at d
  simp(disch:=omega)only[↓wr,seval,wq,t0,t8,cq,aaS,f,aa2,mP]
  refine az.cG ((PH S.cF b 250 [.ptr q 0 0] (λe=>decide (e.sym=x)) n (λe _=>VA e x q n d)).mono ?_)
  rintro r G ⟨rfl,rfl⟩
  obtain⟨i1,i2⟩:=Mp x S.cF 0 (by omega)
  unfold aI at b
  simp(disch:=omega)only[↓wr,seval,wq]
  apply ao.dec<;>intro o
  .simp(disch:=omega)only[↓wr,seval,wq]
   rw[<-hw,i1 o,aaR (by omega)]
  .obtain⟨j,e,y,p,z⟩:=i2 (by omega)
   have I:=(aaX.1 p).1
   rw[y]
   have A:((0:Int)+(j:Int))=(j:Int):=by omega
   rw[A]
   rw[z] at hw g
   unfold bm at g
   simp(disch:=omega)only[↓wr,seval,wq,t0,t8,cq,aaS,f,aa2,mP,kZ,p,lZ]
   apply ao.dec<;>intro B
   .simp(disch:=omega)only[↓wr,seval,wq]
    rw[<-hw,aaR (by omega)]
   .simp(disch:=omega)only[↓wr,seval,wq,t0,cq]
    apply ao.dec<;>intro C
    .simp(disch:=omega)only[↓wr,seval,wq]
     rw[<-hw,aaR (by omega)]
    .simp(disch:=omega)only[↓wr,seval,wq,t0,t21,t22,t23]
     rw[aaT ⟨by omega,by omega⟩] at hw
     exact aE hk (by omega) ⟨e.to,by omega,by omega,hw,t0,rfl,t21,t22,rfl⟩
 .simp(disch:=omega)only[↓wr,seval,wq,t8]
  rw[abg (by omega),jO] at hw
  rw[<-hw]
end
end Gv
