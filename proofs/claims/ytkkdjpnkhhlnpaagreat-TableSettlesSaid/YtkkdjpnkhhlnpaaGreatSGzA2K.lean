/-
  Part 11 of the proof: what the machine does and what the functions answer.
  Conditions: those that each lemma names.
-/
import Derived.ProofKit
import Derived.SizedLaws
import Derived.Test.YtkkdjpnkhhlnpaaGreatSGzA2J
set_option linter.unusedSimpArgs false
set_option linter.unusedVariables false
set_option maxRecDepth 100000
namespace Gv
open Go Go.Proofs
def q0 (hp:Array Obj) (cs:List Value) (vs:List V):Prop :=
  vs.length=cs.length∧∀ μ i,i < vs.length→au (fun b=>b < hp.size) μ hp (vs.getD i .any) (cs.getD i undef)
def Wt {H:Type} (P:Program) (t:TypeId) (d:DataW H):Prop:=∀ n∈d.weights P t,n≤reachBytes
def ri (P:Program) (t:TypeId) {α:Type} (f:α→List V) (ok:α→Prop):Prop :=
  ∀ {H:Type} (enc:TypeId × Value→H) (w:World) (base:Nat) (sp:Nat→Bool) (held:Bool) (fuel:Nat) (cs:List Value) (x:DataW H × List MemPlace),
    DataW.trod enc P w base sp held fuel t cs=some x→Wt P t x.1→∃ a,ok a∧q0 w.heap cs (f a)
theorem pw {hp:Array Obj} {c:Value} {v:V} (h:∀ μ,au (fun b=>b < hp.size) μ hp v c):q0 hp [c] [v]:=by
  refine ⟨rfl,fun μ i hi=>?_⟩
  match i,hi with
  | 0,_=>exact h μ
theorem GX {P:Program} {t:TypeId} {k:IntKind} (ht:P.underlying t=some (.int k)):ri P t (fun n=>[.val (.int k n)]) (fun n=>(Lit.int k n).wf=true):=by
  intro H enc w base sp held fuel cs x h _
  obtain ⟨n,rfl,_,hw⟩:=DataW.trod_int ht h
  exact ⟨n,hw,pw fun μ=>.val _ rfl⟩
theorem xb {P:Program} {t:TypeId} (ht:P.underlying t=some .string):ri P t (fun s=>[.val (.string s)]) (fun _=>True):=by
  intro H enc w base sp held fuel cs x h _
  obtain ⟨s,rfl,_,_⟩:=DataW.trod_string ht h
  exact ⟨s,trivial,pw fun μ=>.val _ rfl⟩
theorem yR {w:World} {base:Nat} {a:Addr} {n:Nat} {cs:List Value} (h:w.cells? base a n=some cs):cs.length=n∧∀ i,i < n→w.cell? (a.add i)=some (cs.getD i undef):=by
  obtain ⟨_,h2,h3⟩:=World.cells?_some h
  refine ⟨h2,fun i hi=>?_⟩
  rw[h3 i hi,List.getD_eq_getElem?_getD,List.getElem?_eq_getElem (by omega)]
  rfl
theorem Ea {w:World} {a:Addr} {v:Value} (h:w.cell? a=some v):a.spot=none∧a.block < w.heap.size:=by
  unfold World.cell? at h
  split at h
  · rename_i c _ _ hb
    split at h
    · simp at h
    · rename_i hs
      exact ⟨by simpa using hs,(Array.getElem?_eq_some_iff.1 hb).1⟩
  · simp at h
theorem En {H:Type} {P:Program} {e:TypeId} : ∀ {l:List (DataW H)},(∀ n∈DataW.weightsAll P e l,n≤reachBytes)→∀ d∈l,Wt P e d
  | [],_,d,hd=>by simp at hd
  | x :: l,h,d,hd=>by
    simp only[DataW.weightsAll,List.mem_append] at h
    rcases List.mem_cons.1 hd with rfl | hd
    · exact fun n hn=>h n (.inl hn)
    · exact En (fun n hn=>h n (.inr hn)) d hd
theorem Fw {H:Type} {P:Program} {t e:TypeId} {elems spare:List (DataW H)} (ht:P.underlying t=some (.slice e)) (h:Wt P t (.slice elems spare)) :
    (elems.length+spare.length) * P.bytesOf e≤reachBytes∧∀ d∈elems,Wt P e d:=by
  unfold Wt at h
  unfold DataW.weights at h
  rw[ht] at h
  simp only[List.mem_cons,List.mem_append] at h
  exact ⟨h _ (.inl rfl),En fun n hn=>h n (.inr (.inl hn))⟩
theorem DH {H:Type} {P:Program} {t:TypeId} {fs:Array Field} {parts:List (DataW H)} (ht:P.underlying t=some (.struct fs)) (h:Wt P t (.agg parts)) {j:Nat} {f:Field} {d:DataW H} (hf:fs[j]?=some f) (hd:parts[j]?=some d):Wt P f.type d:=by
  intro n hn
  refine h n ?_
  unfold DataW.weights
  rw[ht]
  exact DataW.weights_mem_each (j:=j) (t:=f.type) (by simp[hf]) hd n hn
theorem A2 {α:Type} {φ:Nat→α→Prop} : ∀ (n:Nat),(∀ i,i < n→∃ a,φ i a)→∃ l:List α,l.length=n∧∀ i (hi:i < l.length),φ i l[i]
  | 0,_=>⟨[],rfl,fun i hi=>by simp at hi⟩
  | n+1,h=>by
    obtain ⟨l,hl,hφ⟩:=A2 n fun i hi=>h i (by omega)
    obtain ⟨a,ha⟩:=h n (by omega)
    refine ⟨l ++ [a],by simp[hl],fun i hi=>?_⟩
    by_cases e:i < l.length
    · rw[List.getElem_append_left e]; exact hφ i e
    · have:i=n:=by simp at hi; omega
      subst this
      rw[List.getElem_append_right (by omega)]
      simp only[hl,Nat.sub_self,List.getElem_cons_zero]; exact ha
theorem p8 {P:Program} {t e:TypeId} {α:Type} {f:α→List V} {ok:α→Prop} (ht:P.underlying t=some (.slice e)) (hc:0 < P.cellsOf e) (hb:0 < P.bytesOf e) (he:ri P e f ok) :
    ri P t (fun l:List α=>[.aS (l.map f)]) (fun l=>l.length < 4611686018427387904∧∀ a∈l,ok a):=by
  intro H enc w base sp held fuel cs x h hw
  rcases DataW.trod_slice ht h with ⟨rfl,rfl⟩ | ⟨a,len,cap,elems,rest,n,_,rfl,rfl,hba,hl,hm,hlen,hel,_,_⟩
  · exact ⟨[],⟨by simp,by simp⟩,pw fun μ=>.ec none 0 (by simp)⟩
  obtain ⟨hw1,hw2⟩:=Fw ht hw
  simp only[List.length_map] at hw1
  have hlt:len < 4611686018427387904:=by
    have h1:len * 1≤(elems.length+rest.length) * P.bytesOf e:=Nat.mul_le_mul (by omega) hb
    unfold reachBytes at hw1
    omega
  have each:∀ i,i < len→∃ y,ok y∧∃ ci,w.cells? base (a.add (i * P.cellsOf e)) (P.cellsOf e)=some ci∧q0 w.heap ci (f y):=by
    intro i hi
    have h1:=hel i hi
    have h2:elems[i]?=some (elems[i]'(by omega)):=List.getElem?_eq_getElem (by omega)
    have hmem:elems[i]'(by omega)∈elems:=List.getElem_mem _
    rw[h2,Option.bind_eq_some_iff] at h1
    obtain ⟨ci,h3,h4⟩:=h1
    obtain ⟨y,h5,h6⟩:=he enc w base sp held n ci _ h4 (hw2 _ (List.mem_map.2 ⟨_,hmem,rfl⟩))
    exact ⟨y,h5,ci,h3,h6⟩
  obtain ⟨l,hll,hφ⟩:=A2 len each
  subst hll
  refine ⟨l,⟨hlt,fun y hy=>?_⟩,pw fun μ=>?_⟩
  · obtain ⟨i,hi,rfl⟩:=List.getElem_of_mem hy
    exact (hφ i hi).1
  by_cases h0:l=[]
  · subst h0
    exact .ec (some a) cap (by simp)
  have hpos:0 < l.length:=List.length_pos_iff.2 h0
  have hcell:∀ i j,i < l.length→j < P.cellsOf e→∃ c,cellAt w.heap a.block (a.off+i * P.cellsOf e+j)=some c∧a.block < w.heap.size∧(i=0→j=0→a.spot=none)∧∀ (hi:i < l.length),au (fun b=>b < w.heap.size) μ w.heap ((f l[i]).getD j .any) c:=by
    intro i j hi hj
    obtain ⟨_,ci,h1,h2⟩:=hφ i hi
    obtain ⟨h3,h4⟩:=yR h1
    have h5:=h4 j hj
    have h6:=Ea h5
    have hbk:((a.add (i * P.cellsOf e)).add j).block=a.block:=by simp only[Addr.add]; split <;> split <;> rfl
    have hof:((a.add (i * P.cellsOf e)).add j).off=a.off+i * P.cellsOf e+j:=by
      simp only[Addr.add]; split <;> split <;> simp_all
    refine ⟨ci.getD j undef,?_,by rw[← hbk]; exact h6.2,?_,fun _=>?_⟩
    · rw[← hof,← hbk,← l9]
      rw[← h5]
      congr 1
      generalize (a.add (i * P.cellsOf e)).add j=b at h6
      cases b
      simp at h6 ⊢
      exact h6.1.symm
    · rintro rfl rfl
      simp[Addr.add] at h6
      exact h6.1
    · exact h2.2 μ j (by rw[h2.1,h3]; exact hj)
  obtain ⟨_,_,hz,hs,_⟩:=hcell 0 0 hpos hc
  have ha:a=⟨a.block,a.off,none⟩:=by
    cases a; simp at hs ⊢; exact hs
  have hlf:∀ i,i < l.length→(f (l[i]?.getD (l[0]'hpos))).length=P.cellsOf e:=fun i hi=>by
    obtain ⟨_,ci,h1,h2⟩:=hφ i hi
    rw[List.getElem?_eq_getElem hi,Option.getD_some,h2.1,(yR h1).1]
  have hgd:∀ i (hi:i < l.length),(l.map f).getD i []=f l[i]:=fun i hi=>by simp[List.getD_eq_getElem?_getD,hi]
  have hcl:(l.map f).length=l.length:=by simp
  have:=au.aS (Z:=fun b=>b < w.heap.size) (μ:=μ) (hp:=w.heap) (l.map f) a.block a.off (P.cellsOf e) cap (fun i j=>(cellAt w.heap a.block (a.off+i * P.cellsOf e+j)).getD undef) hz (by rw[hcl]; exact hl)
    (fun i hi=>by
      rw[hcl] at hi
      have:=hlf i hi
      rw[List.getElem?_eq_getElem hi,Option.getD_some] at this
      rw[hgd i hi]; exact this)
    (fun i j hi hj=>by
      rw[hcl] at hi
      obtain ⟨c,h1,_⟩:=hcell i j hi hj
      rw[h1]; rfl)
    (fun i j hi hj=>by
      rw[hcl] at hi
      obtain ⟨c,h1,_,_,h2⟩:=hcell i j hi hj
      rw[h1,hgd i hi]; exact h2 hi)
  rw[hcl,← ha] at this
  exact this
theorem rV {P:Program} {t:TypeId} {fs:Array Field} (ht:P.underlying t=some (.struct fs)) (hf:∀ (i:Nat) (f:Field),fs[i]?=some f→f.offset=i∧P.cellsOf f.type=1) (hn:P.cellsOf t=fs.size)
    {H:Type} {enc:TypeId × Value→H} {w:World} {base:Nat} {sp:Nat→Bool} {held:Bool} {fuel:Nat} {cs:List Value} {x:DataW H × List MemPlace} (h:DataW.trod enc P w base sp held fuel t cs=some x) (hw:Wt P t x.1) :
    cs.length=fs.size∧∀ (i:Nat) (f:Field),fs[i]?=some f→∀ {α:Type} {g:α→List V} {ok:α→Prop},ri P f.type g ok→∃ a,ok a∧q0 w.heap [cs.getD i undef] (g a):=by
  obtain ⟨xs,n,rfl,rfl,hl,hlen,hx⟩:=DataW.trod_struct ht h
  refine ⟨by rw[hl,hn],fun i f hi α g ok hr=>?_⟩
  obtain ⟨h1,h2⟩:=hf i f hi
  have hi2:i < fs.size:=(Array.getElem?_eq_some_iff.1 hi).1
  have h3:=hx i f hi
  have h4:xs[i]?=some (xs[i]'(by omega)):=List.getElem?_eq_getElem (by omega)
  rw[h4,h1,h2] at h3
  have h5:(cs.drop i).take 1=[cs.getD i undef]:=by
    rw[List.getD_eq_getElem?_getD,List.getElem?_eq_getElem (by omega),List.drop_eq_getElem_cons (by omega)]
    rfl
  rw[h5] at h3
  exact hr enc w base sp held n _ _ h3 (DH ht hw hi (by simp[h4]))
theorem dL {hp:Array Obj} {c:Value} {cs:List Value} {v:V} {vs:List V} (h:q0 hp [c] [v]) (k:q0 hp cs vs):q0 hp (c :: cs) (v :: vs):=by
  refine ⟨by simp[k.1],fun μ i hi=>?_⟩
  cases i with
  | zero=>exact h.2 μ 0 (by simp)
  | succ i=>exact k.2 μ i (by simpa using hi)
theorem tB {hp:Array Obj} : q0 hp [] []:=⟨rfl,fun μ i hi=>by simp at hi⟩
theorem Ge {n:Int} (h:(Lit.int .i64 n).wf=true):cU n:=by
  simp only[Lit.wf,Bool.and_eq_true,decide_eq_true_eq] at h
  exact h
theorem j5:ri Tryz.prog 3 (fun n=>[gi n]) cU:=fun enc w base sp held fuel cs x h hw=>by
  obtain ⟨n,h1,h2⟩:=GX Tryz.underlying3 enc w base sp held fuel cs x h hw
  exact ⟨n,Ge h1,h2⟩
theorem Gi:ri Tryz.prog 27 (fun l:List Int=>[encI l]) (fun l=>bd l∧∀ x∈l,cU x) :=
  p8 Tryz.underlying27 (of_decide_eq_true (by kernel_rfl)) (of_decide_eq_true (by kernel_rfl)) j5
theorem BK:ri Tryz.prog 23 (fun l:List ByteArray=>[encS l]) (fun l=>bd l∧∀ x∈l,True) :=
  p8 Tryz.underlying23 (of_decide_eq_true (by kernel_rfl)) (of_decide_eq_true (by kernel_rfl)) (xb Tryz.underlying9)
theorem HG {cs:List Value} (h:cs.length=3):cs=[cs.getD 0 undef,cs.getD 1 undef,cs.getD 2 undef]:=by
  match cs,h with
  | [a,b,c],_=>rfl
theorem Iw {cs:List Value} (h:cs.length=4):cs=[cs.getD 0 undef,cs.getD 1 undef,cs.getD 2 undef,cs.getD 3 undef]:=by
  match cs,h with
  | [a,b,c,d],_=>rfl
theorem Gu:ri Tryz.prog 134 bN (fun t=>cU t.level∧cU t.assoc):=fun enc w base sp held fuel cs x h hw=>by
  obtain ⟨hl,hf⟩:=rV Tryz.underlying134 (by
    intro i f hi
    match i,hi with
    | 0,hi=>simp at hi; subst hi; exact ⟨rfl,by kernel_rfl⟩
    | 1,hi=>simp at hi; subst hi; exact ⟨rfl,by kernel_rfl⟩
    | 2,hi=>simp at hi; subst hi; exact ⟨rfl,by kernel_rfl⟩
    | n+3,hi=>simp at hi) (by kernel_rfl) h hw
  obtain ⟨a,_,h1⟩:=hf 0 _ rfl (xb Tryz.underlying9)
  obtain ⟨b,h2,h3⟩:=hf 1 _ rfl j5
  obtain ⟨c,h4,h5⟩:=hf 2 _ rfl j5
  refine ⟨⟨a,b,c⟩,⟨h2,h4⟩,?_⟩
  rw[HG hl]
  exact dL h1 (dL h3 (dL h5 tB))
theorem GG:ri Tryz.prog 98 aY (fun r=>cU r.left∧cU r.prec∧bd r.right∧∀ x∈r.right,cU x):=fun enc w base sp held fuel cs x h hw=>by
  obtain ⟨hl,hf⟩:=rV Tryz.underlying98 (by
    intro i f hi
    match i,hi with
    | 0,hi=>simp at hi; subst hi; exact ⟨rfl,by kernel_rfl⟩
    | 1,hi=>simp at hi; subst hi; exact ⟨rfl,by kernel_rfl⟩
    | 2,hi=>simp at hi; subst hi; exact ⟨rfl,by kernel_rfl⟩
    | n+3,hi=>simp at hi) (by kernel_rfl) h hw
  obtain ⟨a,h0,h1⟩:=hf 0 _ rfl j5
  obtain ⟨b,h2,h3⟩:=hf 1 _ rfl Gi
  obtain ⟨c,h4,h5⟩:=hf 2 _ rfl j5
  refine ⟨⟨a,b,c⟩,⟨h0,h4,h2.1,h2.2⟩,?_⟩
  rw[HG hl]
  exact dL h1 (dL h3 (dL h5 tB))
theorem Gr:ri Tryz.prog 26 aw aE.Ok:=fun enc w base sp held fuel cs x h hw=>by
  obtain ⟨hl,hf⟩:=rV Tryz.underlying26 (by
    intro i f hi
    match i,hi with
    | 0,hi=>simp at hi; subst hi; exact ⟨rfl,by kernel_rfl⟩
    | 1,hi=>simp at hi; subst hi; exact ⟨rfl,by kernel_rfl⟩
    | 2,hi=>simp at hi; subst hi; exact ⟨rfl,by kernel_rfl⟩
    | 3,hi=>simp at hi; subst hi; exact ⟨rfl,by kernel_rfl⟩
    | n+4,hi=>simp at hi) (by kernel_rfl) h hw
  obtain ⟨a,h0,h1⟩:=hf 0 _ rfl (p8 Tryz.underlying22 (of_decide_eq_true (by kernel_rfl)) (of_decide_eq_true (by kernel_rfl)) Gu)
  obtain ⟨b,h2,h3⟩:=hf 1 _ rfl BK
  obtain ⟨c,h4,h5⟩:=hf 2 _ rfl (p8 Tryz.underlying24 (of_decide_eq_true (by kernel_rfl)) (of_decide_eq_true (by kernel_rfl)) GG)
  obtain ⟨d,h6,h7⟩:=hf 3 _ rfl j5
  refine ⟨⟨a,b,c,d⟩,⟨h0.1,h2.1,h4.1,h6,h0.2,h4.2⟩,?_⟩
  rw[Iw hl]
  exact dL h1 (dL h3 (dL h5 (dL h7 tB)))
def m7:SC :=
  .seq (ao [aF 44 .lss 43 42]) <|
  .seq (.cond (.tmp 44) (.skip) (.exit 0)) <|
  .seq (.block 1 (.seq (ao [aa 45 43,aI 46 3 41 43,aG 47 3 46,((some 11),.op (.alloc [(.val (.int .i64 0)),(.emp 1),(.val (.int .i64 0))])),aa 10 45,(none,.op (.store 3 (.tmp 11) (.tmp 47)))]) <|
  .seq (.seq (.region false [⟨none,[aa 48 6,al 49 0 11,ak 50 49,aI 51 1 48 50,ak 52 51,bB 53 52,aa 54 53]⟩,⟨(some (54,false)),[aG 55 3 11,aa 56 5,aB 57 177 [55,56],bB 58 57]⟩,⟨none,[aT 59 54 58]⟩]) <|
  .cond (.tmp 59) (.exit 1) (.skip)) <|
  .seq (ao [aa 60 7,aa 61 10,((some 62),.op (.ba 1 1 [(.val (.int .i64 0))] [(0,(.tmp 61))])),((some 63),.op (.app 1 8 (.tmp 60) (.tmp 62))),aa 7 63]) <|
  .seq (ao [aa 65 9,al 66 0 11,ak 67 66,((some 68),.op (.old (.lookup 236 (.tmp 65) (.tmp 67) true) 52)),aa 64 68,bA 69 0 64,bA 70 1 64,aa 12 69,aa 13 70]) <|
  .seq (ao [aa 71 13,bB 72 71]) <|
  .cond (.tmp 72) (.seq (ao [aa 73 9,al 74 0 11,ak 75 74,al 76 1 8,ak 77 76,aH 78 77,(none,.op (.old (.mapUpdate 236 (.tmp 73) (.tmp 75) (.tmp 78)) 0))]) <|
  .region false [⟨none,[al 79 1 8,ak 80 79,al 81 1 1,ak 82 81,al 83 0 11,ak 84 83,aI 85 1 82 84,ak 86 85,((some 87),.op (.ba 1 1 [(.val (.string ⟨#[]⟩))] [(0,(.tmp 86))])),((some 88),.op (.app 1 16 (.tmp 80) (.tmp 87))),al 89 1 8,(none,.op (.store 1 (.tmp 89) (.tmp 88)))]⟩]) (.skip))) <|
  ao [aq 90 .add 43 1,aa 43 90]
def mU:SC :=
  .seq (ao [aF 116 .lss 115 114]) <|
  .seq (.cond (.tmp 116) (.skip) (.exit 4)) <|
  .seq (.block 5 (.seq (ao [aa 117 115,aI 118 1 113 115,ak 119 118,aa 18 117,aa 19 119]) <|
  .seq (ao [aa 120 19,aq 121 .lss 120 0]) <|
  .cond (.tmp 121) (ao [al 122 1 17,ak 123 122,aa 124 18,aa 125 9,aa 126 19,((some 127),.op (.arith .sub (.val (.val (.int .i64 (-1)))) (.tmp 126))),((some 128),.op (.old (.lookup 236 (.tmp 125) (.tmp 127) false) 3)),((some 129),.op (.arith .sub (.val (.val (.int .i64 (-1)))) (.tmp 128))),aI 130 1 123 124,(none,.op (.store 1 (.tmp 130) (.tmp 129)))]) (.skip))) <|
  ao [aq 131 .add 115 1,aa 115 131]
def nh:SC :=
  .seq (ao [aF 94 .lss 93 92]) <|
  .seq (.cond (.tmp 94) (.skip) (.exit 2)) <|
  .seq (.block 3 (.seq (ao [aI 95 1 91 93,ak 96 95,aa 15 96]) <|
  .seq (ao [al 97 2 1,ak 98 97,aa 99 15,aI 100 3 98 99,aG 101 3 100,((some 16),.op (.alloc [(.val (.int .i64 0)),(.emp 1),(.val (.int .i64 0))])),(none,.op (.store 3 (.tmp 16) (.tmp 101)))]) <|
  .seq (.region true [⟨none,[aa 102 9,al 103 0 16,ak 104 103,((some 105),.op (.old (.lookup 236 (.tmp 102) (.tmp 104) false) 3)),al 106 1 16,ak 107 106,aB 108 178 [107],al 109 2 16,ak 110 109,((some 111),.op (.build [(.val (.int .i64 0)),(.emp 1),(.val (.int .i64 0))] [(0,1,(.tmp 105)),(1,1,(.tmp 108)),(2,1,(.tmp 110))])),((some 17),.op (.alloc [(.val (.int .i64 0)),(.emp 1),(.val (.int .i64 0))])),(none,.op (.store 3 (.tmp 17) (.tmp 111)))]⟩]) <|
  .seq (.seq (ao [al 112 1 17,ak 113 112,aH 114 113,ax 115 0]) <|
  .block 4 (.loop mU)) <|
  ao [al 132 2 8,ak 133 132,aG 134 3 17,((some 135),.op (.ba 1 3 [(.val (.int .i64 0)),(.emp 1),(.val (.int .i64 0))] [(0,(.tmp 134))])),((some 136),.op (.app 3 40 (.tmp 133) (.tmp 135))),al 137 2 8,(none,.op (.store 1 (.tmp 137) (.tmp 136)))])) <|
  ao [aq 138 .add 93 1,aa 93 138]
def ql:SF:=⟨.seq (ao [bu 1 0,((some 2),.op (.alloc [(.emp 1),(.emp 1),(.emp 1),(.val (.int .i64 0))])),((some 3),.op (.aV (.val (.emp 1)))),ax 4 0]) <|
  .seq (.seq (ao [aG 20 4 1,aB 21 64 [20],bB 22 21]) <|
  .cond (.tmp 22) (.seq (ao [((some 23),.op (.build [(.emp 1),(.emp 1),(.emp 1),(.val (.int .i64 0))] [])),(none,.op (.store 4 (.tmp 2) (.tmp 23))),((some 3),.op (.aV (.val (.emp 1)))),ax 4 1]) <|
  .ret) (.skip)) <|
  .seq (.region true [⟨none,[aG 24 4 1,aB 25 174 [24],aG 26 4 1,aB 27 175 [26],aa 5 25,aa 6 27]⟩]) <|
  .seq (.seq (ao [aa 28 5,al 29 3 1,ak 30 29,aI 31 1 28 30,ak 32 31,bB 33 32]) <|
  .cond (.tmp 33) (.seq (ao [((some 34),.op (.build [(.emp 1),(.emp 1),(.emp 1),(.val (.int .i64 0))] [])),(none,.op (.store 4 (.tmp 2) (.tmp 34))),((some 3),.op (.aV (.val (.emp 1)))),ax 4 9]) <|
  .ret) (.skip)) <|
  .seq (ao [((some 7),.op (.aV (.val (.emp 1))))]) <|
  .seq (ao [al 35 0 1,ak 36 35,aB 37 176 [36],((some 38),.op (.build [(.emp 1),(.emp 1),(.emp 1),(.val (.int .i64 0))] [(0,1,(.tmp 37))])),((some 8),.op (.alloc [(.emp 1),(.emp 1),(.emp 1),(.val (.int .i64 0))])),(none,.op (.store 4 (.tmp 8) (.tmp 38)))]) <|
  .seq (ao [((some 39),.op (.iP)),aa 9 39]) <|
  .seq (.seq (ao [al 40 2 1,ak 41 40,aH 42 41,ax 43 0]) <|
  .block 0 (.loop m7)) <|
  .seq (.seq (ao [aa 91 7,aH 92 91,ax 93 0]) <|
  .block 2 (.loop nh)) <|
  .seq (ao [aa 139 9,al 140 3 1,ak 141 140,((some 142),.op (.old (.lookup 236 (.tmp 139) (.tmp 141) false) 3)),al 143 3 8,(none,.op (.store 1 (.tmp 143) (.tmp 142)))]) <|
  .seq (ao [aG 144 4 8,aa 145 7,(none,.op (.store 4 (.tmp 2) (.tmp 144))),aa 3 145,ax 4 0]) <|
  .ret,
  [.cell 2 (some 4),.tmp 3,.tmp 4],146⟩
theorem tL:bb Tryz.prog 120 [1]=some ql:=by kernel_rfl
abbrev r8 (m:eD Int):List (V × V × Nat):=cO (Value.int .i64) m
def G3 (g:aE) (p q:List Bool) (b2 b8 b9:Nat) (u0:V) (i:Nat) (T:Env) (H:View):Prop :=
  (∃ u1 u3:V,T 7=u3∧(∀ x∈cz p q (g.rules.take i),0≤x∧x < g.aK.length)∧(cz p q (g.rules.take i)).length≤i ∧
    bq H [(.sl b8 0 1 4,4,[[u0,u1,.emp 1,gi 0]]),(u3,1,fO (ct p q (g.rules.take i) 0)),
      (u1,1,nk ((cz p q (g.rules.take i)).map fun x=>g.aK.getD x.toNat ⟨#[]⟩)),(u0,3,g.az.map bN),(.sl b2 0 1 4,4,[[.emp 1,.emp 1,.emp 1,gi 0]])] ∧
    ∃ m c,H b9=.map (r8 m) c∧iN gi (fj (cz p q (g.rules.take i)) 0) m) ∧
  T 1=.aQ (aw g) 0∧T 2=.ptr b2 0 0∧T 5=cA p∧T 6=cA q∧T 8=.ptr b8 0 0∧T 9=.mp b9∧T 41=.aS (g.rules.map aY)∧T 42=gi g.rules.length∧T 43=gi i
theorem wj {α:Type} {x s:α} : ∀ {a d:List α} {k:Nat},a.length=k→(a ++ s :: d).set k x=a ++ x :: d
  | [],d,k,h=>by simp at h; subst h; rfl
  | y :: a,d,k,h=>by
    cases k with
    | zero=>simp at h
    | succ k=>simp only[List.cons_append,List.set_cons_succ]; rw[wj (by simpa using h)]
def Ii (g:aE) (p q:List Bool) (b2 b8 b9:Nat) (u0 u1 u3:V) (o kl:List Int) (mm:eD Int) (cc:Nat) (i:Nat) (T:Env) (H:View):Prop :=
  (∃ (u2:V) (bs:uy),bs.map (·.2)=((g.rules.filter (cB p q)).take i).map (cx (b5 o)) ∧
    bq H ((.sl b8 0 1 4,4,[[u0,u1,u2,gi 0]]) :: (u3,1,fO kl) ::
      (u1,1,nk (o.map fun x=>g.aK.getD x.toNat ⟨#[]⟩)) :: (u0,3,g.az.map bN) :: (u2,3,gu bs) :: (.sl b2 0 1 4,4,[[.emp 1,.emp 1,.emp 1,gi 0]]) :: og bs) ∧
    H b9=.map (r8 mm) cc) ∧
  T 1=.aQ (aw g) 0∧T 2=.ptr b2 0 0∧T 7=u3∧T 8=.ptr b8 0 0∧T 9=.mp b9∧T 91=u3∧T 92=gi kl.length∧T 93=gi i
def Im (g:aE) (b2 b8 b9 b16 b17:Nat) (u3 v:V) (o kl:List Int) (mm:eD Int) (cc:Nat) (r:aZ) (L:List ed) (i k:Nat) (T:Env) (H:View):Prop :=
  bq H ((.sl b17 0 1 3,3,[[gi (b5 o r.left),v,gi r.prec]]) :: (v,1,fO ((cx (b5 o) r).right.take k ++ r.right.drop k)) :: (.sl b16 0 1 3,3,[aY r]) :: L) ∧
  H b9=.map (r8 mm) cc∧T 1=.aQ (aw g) 0∧T 2=.ptr b2 0 0∧T 7=u3∧T 8=.ptr b8 0 0∧T 9=.mp b9∧T 91=u3∧T 92=gi kl.length∧T 93=gi i∧T 17=.ptr b17 0 0∧T 113=v∧T 114=gi r.right.length∧T 115=gi k
set_option maxHeartbeats 8000000 in
theorem Ac (g:aE) (hg:g.Ok) (hs:g.Small):cF Tryz.prog 120 [.agg (aw g)] (wx (if bo g=true then
    if (bh g true).getD g.start.toNat false=true then (tR g (b5 (cz (bh g true) (bQ g) g.rules)) (bh g true) (bQ g),ct (bh g true) (bQ g) g.rules 0,0)
    else (qp,[],9)
  else (qp,[],1))):=by
  refine cF.of (fF g) ?_
  refine aD.of mixed tL ?_
  simp (disch:=omega) only [↓wr,↓reduceIte,wq,ai,ah,an,ab,ae,ag,aj,isNil,Nat.reduceEqDiff,Nat.reduceAdd,Nat.reduceLT,Nat.reduceLeDiff,Int.reduceNeg,Int.reduceToNat,reduceCtorEq,ql,aw,encS]
  intro b2
  try simp (disch:=omega) only [↓wr,↓reduceIte,wq,ai,ah,an,ab,ae,ag,aj,isNil,Nat.reduceEqDiff,Nat.reduceAdd,Nat.reduceLT,Nat.reduceLeDiff,Int.reduceNeg,Int.reduceToNat,reduceCtorEq,aw,encS]
  refine aJ.pure (iC g hg hs.names) (by kernel_rfl) ?_
  repeat' (first | (refine ar.dec (fun _=>?_) (fun _=>?_)) | (refine ar.eq (fun _=>?_) (fun _=>?_)) | (refine ar.ne (fun _=>?_) (fun _=>?_)) | (refine ar.split (fun _=>?_) (fun _=>?_)) | (simp (disch:=omega) only [↓wr,↓reduceIte,wq,ai,ah,an,ab,ae,ag,aj,isNil,Nat.reduceEqDiff,Nat.reduceAdd,Nat.reduceLT,Nat.reduceLeDiff,Int.reduceNeg,Int.reduceToNat,reduceCtorEq,aw,encS,set_set]))
  · rename_i hr
    rw[if_pos hr]
    refine aJ.pure (ot g hg hs).pure (by kernel_rfl) ?_
    simp (disch:=omega) only [↓wr,↓reduceIte,wq,ai,ah,an,ab,ae,ag,aj,isNil,Nat.reduceEqDiff,Nat.reduceAdd,Nat.reduceLT,Nat.reduceLeDiff,Int.reduceNeg,Int.reduceToNat,reduceCtorEq,aw,encS]
    refine aJ.pure (xM g hg hs).pure (by kernel_rfl) ?_
    have hf:=bW hr
    have h3:=hf.uj
    have h4:=hf.start
    have hpl:=ks hr true
    have hql:=n0 hr
    generalize bh g true=p at hpl ⊢
    generalize bQ g=q at hql ⊢
    have hps:p[g.start.toNat]?=some (p[g.start.toNat]'(by omega)):=List.getElem?_eq_getElem (by omega)
    have hpd:p.getD g.start.toNat false=p[g.start.toNat]'(by omega):=by simp[List.getD_eq_getElem?_getD,hps]
    generalize p[g.start.toNat]'(by omega)=s at hps hpd
    rw[hpd]
    simp (disch:=omega) only [↓wr,↓reduceIte,wq,ai,ah,an,ab,ae,ag,aj,isNil,Nat.reduceEqDiff,Nat.reduceAdd,Nat.reduceLT,Nat.reduceLeDiff,Int.reduceNeg,Int.reduceToNat,reduceCtorEq,aw,encS,cA,List.getElem?_map,hps]
    cases s with
    | false =>
      simp (disch:=omega) only [↓wr,↓reduceIte,wq,ai,ah,an,ab,ae,ag,aj,isNil,Nat.reduceEqDiff,Nat.reduceAdd,Nat.reduceLT,Nat.reduceLeDiff,Int.reduceNeg,Int.reduceToNat,reduceCtorEq,aw,encS,set_set]
      rintro h' hh
      exact yX
    | true =>
      simp (disch:=omega) only [↓wr,↓reduceIte,wq,ai,ah,an,ab,ae,ag,aj,isNil,Nat.reduceEqDiff,Nat.reduceAdd,Nat.reduceLT,Nat.reduceLeDiff,Int.reduceNeg,Int.reduceToNat,reduceCtorEq,aw,encS,set_set]
      have hN:=hf.aK
      have hN1:=hf.xV
      have hT:=hf.az
      have hR:=hf.rules
      refine aJ.yT ((EH g.az (by omega) _).mono ?_)
      rintro u0 H1 ⟨hu0,hfr⟩
      have ho1:=(bq.nil.new (H:=fun _=>cR.dead) (n:=b2) rfl 4 [[.emp 1,.emp 1,.emp 1,gi 0]]).GR hu0 hfr
      have c0:=ho1.head.cells
      have k0:=ho1.head.zF
      simp (disch:=omega) only [↓wr,↓reduceIte,wq,ai,ah,an,ab,ae,ag,aj,isNil,Nat.reduceEqDiff,Nat.reduceAdd,Nat.reduceLT,Nat.reduceLeDiff,Int.reduceNeg,Int.reduceToNat,reduceCtorEq,aw,encS,c0,k0]
      intro b8 hb8
      have ho2:=ho1.new hb8 4 [[u0,.emp 1,.emp 1,gi 0]]
      try simp (disch:=omega) only [↓wr,↓reduceIte,wq,ai,ah,an,ab,ae,ag,aj,isNil,Nat.reduceEqDiff,Nat.reduceAdd,Nat.reduceLT,Nat.reduceLeDiff,Int.reduceNeg,Int.reduceToNat,reduceCtorEq,aw,encS,c0,k0,set_set]
      intro b9 hb9
      have hb98:=(dC hb9 dG).1
      have hb9:=(dC (dC hb9 dG).2 dG).2
      have ho3:=(((ho2.fresh (n:=b9) (o:=.map [] 0) (by simp only[View.set,if_neg hb98]; exact hb9)).emp (k:=1) (sz:=1)).emp (k:=1) (sz:=1)).perm HS.symm
      try simp (disch:=omega) only [↓wr,↓reduceIte,wq,ai,ah,an,ab,ae,ag,aj,isNil,Nat.reduceEqDiff,Nat.reduceAdd,Nat.reduceLT,Nat.reduceLeDiff,Int.reduceNeg,Int.reduceToNat,reduceCtorEq,aw,encS,c0,k0,set_set]
      refine bJ.up g.rules.length (G3 g p q b2 b8 b9 u0) ?_ ?_
      · refine ⟨⟨.emp 1,.emp 1,rfl,by simp[cz],by simp[cz],by rw[set_set]; exact ho3,[],0,by simp[View.set,cO],trivial⟩,rfl,rfl,rfl,rfl,rfl,rfl,rfl,rfl,rfl⟩
      clear ho1 ho2 ho3 hb8 hb9 hb98
      rintro i k T H2 hk ⟨⟨u1,u3,t7,hin,holen,ho,mm,cc,h9,hm9⟩,t1,t2,t5,t6,t8,t9,t41,t42,t43⟩
      simp (disch:=omega) only [↓wr,↓reduceIte,wq,ai,ah,an,ab,ae,ag,aj,isNil,Nat.reduceEqDiff,Nat.reduceAdd,Nat.reduceLT,Nat.reduceLeDiff,Int.reduceNeg,Int.reduceToNat,reduceCtorEq,m7,t1,t2,t5,t6,t7,t8,t9,t41,t42,t43,aw]
      refine ar.dec (fun hc=>?_) (fun hc=>?_)
      · have hg2:g.rules[i]?=some (g.rules[i]'(by omega)):=List.getElem?_eq_getElem (by omega)
        have hmem:g.rules[i]'(by omega)∈g.rules:=List.getElem_mem _
        have htk:g.rules.take (i+1)=g.rules.take i ++ [g.rules[i]'(by omega)]:=by rw[List.take_add_one,hg2]; rfl
        generalize g.rules[i]'(by omega)=r at hg2 hmem htk
        obtain ⟨hl1,hl2,hl3,hr6,hsy⟩:=hf.rK hg hmem
        have hqs:q[r.left.toNat]?=some (q[r.left.toNat]'(by omega)):=List.getElem?_eq_getElem (by omega)
        have hqd:q.getD r.left.toNat false=q[r.left.toNat]'(by omega):=by simp[List.getD_eq_getElem?_getD,hqs]
        generalize q[r.left.toNat]'(by omega)=qs at hqs hqd
        simp (disch:=omega) only [↓wr,↓reduceIte,wq,ai,ah,an,ab,ae,ag,aj,isNil,Nat.reduceEqDiff,Nat.reduceAdd,Nat.reduceLT,Nat.reduceLeDiff,Int.reduceNeg,Int.reduceToNat,reduceCtorEq,t1,t2,t5,t6,t7,t8,t9,t41,t42,t43,aY,encI,List.getElem?_map,hg2]
        intro b11 hb11
        have hoA:=ho.new hb11 3 [aY r]
        have n911:b9≠b11:=by rintro rfl; rw[h9] at hb11; simp at hb11
        try simp (disch:=omega) only [↓wr,↓reduceIte,wq,ai,ah,an,ab,ae,ag,aj,isNil,Nat.reduceEqDiff,Nat.reduceAdd,Nat.reduceLT,Nat.reduceLeDiff,Int.reduceNeg,Int.reduceToNat,reduceCtorEq,t1,t2,t5,t6,t7,t8,t9,t41,t42,t43,aY,encI,cA,List.getElem?_map,hqs,set_set]
        have hskip:∀ (T2:Env) (H':View),cB p q r=false→H'=H2.set b11 (.arr 3 [aY r])→T2 7=u3→T2 1=.aQ (aw g) 0→T2 2=.ptr b2 0 0→T2 5=cA p→T2 6=cA q→T2 8=.ptr b8 0 0→T2 9=.mp b9→T2 41=.aS (g.rules.map aY)→T2 42=gi g.rules.length→T2 43=gi ((i:Int)+1) →
            ∃ k',k' < k∧A0 g.rules.length k' (G3 g p q b2 b8 b9 u0) T2 H':=by
          intro T2 H' hkr hH' a7 a1 a2 a5 a6 a8 a9 a41 a42 a43
          have e1:cz p q (g.rules.take (i+1))=cz p q (g.rules.take i):=by rw[htk,wZ,if_neg (by simp[hkr])]
          have e2:ct p q (g.rules.take (i+1)) 0=ct p q (g.rules.take i) 0:=by rw[htk,mK]; simp[ct,hkr]
          refine ca hk (by omega) ⟨⟨u1,u3,a7,by rw[e1]; exact hin,by rw[e1]; omega,by rw[e1,e2,hH']; exact hoA.tail,mm,cc,by rw[hH']; simp[View.set,n911,h9],by rw[e1]; exact hm9⟩,a1,a2,a5,a6,a8,a9,a41,a42,by rw[a43]; rfl⟩
        cases qs with
        | false =>
          simp (disch:=omega) only [↓wr,↓reduceIte,wq,ai,ah,an,ab,ae,ag,aj,isNil,Nat.reduceEqDiff,Nat.reduceAdd,Nat.reduceLT,Nat.reduceLeDiff,Int.reduceNeg,Int.reduceToNat,reduceCtorEq,t1,t2,t5,t6,t7,t8,t9,t41,t42,t43]
          refine hskip _ _ (by rw[cB,hqd]; rfl) ?_ ?_ ?_ ?_ ?_ ?_ ?_ ?_ ?_ ?_ ?_
          all_goals first | exact t7 | exact t1 | exact t2 | exact t5 | exact t6 | exact t8 | exact t9 | exact t41 | exact t42 | rfl | (rw[set_set]; rfl)
        | true =>
          simp (disch:=omega) only [↓wr,↓reduceIte,wq,ai,ah,an,ab,ae,ag,aj,isNil,Nat.reduceEqDiff,Nat.reduceAdd,Nat.reduceLT,Nat.reduceLeDiff,Int.reduceNeg,Int.reduceToNat,reduceCtorEq,t1,t2,t5,t6,t7,t8,t9,t41,t42,t43,aY,encI,cA]
          refine aJ.pure (mZ r p (hg.bg r hmem).2.2.1 (fun s hs'=>⟨(hsy s hs').1,fun h=>by rw[hpl]; exact (hsy s hs').2 h⟩)) (by kernel_rfl) ?_
          simp (disch:=omega) only [↓wr,↓reduceIte,wq,ai,ah,an,ab,ae,ag,aj,isNil,Nat.reduceEqDiff,Nat.reduceAdd,Nat.reduceLT,Nat.reduceLeDiff,Int.reduceNeg,Int.reduceToNat,reduceCtorEq,t1,t2,t5,t6,t7,t8,t9,t41,t42,t43]
          refine ar.split (fun hal=>?_) (fun hal=>?_)
          · simp (disch:=omega) only [↓wr,↓reduceIte,wq,ai,ah,an,ab,ae,ag,aj,isNil,Nat.reduceEqDiff,Nat.reduceAdd,Nat.reduceLT,Nat.reduceLeDiff,Int.reduceNeg,Int.reduceToNat,reduceCtorEq,t1,t2,t5,t6,t7,t8,t9,t41,t42,t43]
            have hkr:cB p q r=true:=by rw[cB,hqd,hal]; rfl
            intro m hm
            try simp (disch:=omega) only [↓wr,↓reduceIte,wq,ai,ah,an,ab,ae,ag,aj,isNil,Nat.reduceEqDiff,Nat.reduceAdd,Nat.reduceLT,Nat.reduceLeDiff,Int.reduceNeg,Int.reduceToNat,reduceCtorEq,t1,t2,t5,t6,t7,t8,t9,t41,t42,t43,g9]
            have hm11:=(dC hm dG).1
            have hm:=(dC (dC hm dG).2 dG).2
            have hoB:=(hoA.fresh (n:=m) (o:=.arr 1 [[gi i]]) (by simp only[View.set,if_neg hm11]; exact hm)).at 2 (by simp)
            have n9m:b9≠m:=by rintro rfl; rw[h9] at hm; simp at hm
            have hkl:(ct p q (g.rules.take i) 0).length≤40:=by
              rw[nf]
              have h1:=List.length_filter_le (cB p q) (g.rules.take i)
              have h2:(g.rules.take i).length≤i:=List.length_take_le _ _
              omega
            refine pr (by rw[set_set]; exact hoB) (by simp[aP]) (by unfold aW; simp at hkl ⊢; omega) (by unfold aW; simp at hkl ⊢; omega) ?_
            intro u3' H3 ho3 hleft
            have f11:=ho3.is 1 rfl (by simp)
            have f8:=ho3.is 2 rfl (by simp)
            have hleft':Left ((H2.set b11 (.arr 3 [aY r])).set m (.arr 1 [[gi i]])) H3 u3 u3':=by rw[set_set] at hleft; exact hleft
            have f9:H3 b9=.map (r8 mm) cc:=hleft'.map (b:=b9) hoB.head (by simp[View.set,n911,n9m,h9])
            have hu1:dF u1=some (nk ((cz p q (g.rules.take i)).map fun x=>g.aK.getD x.toNat ⟨#[]⟩)).length:=(ho3.own 3 rfl).len
            simp only[aY,encI] at f11
            have e2:ct p q (g.rules.take (i+1)) 0=ct p q (g.rules.take i) 0 ++ [(i:Int)]:=by
              rw[htk,mK]; simp[ct,hkr,show i≤g.rules.length by omega]
            have e1:cz p q (g.rules.take (i+1))=nG (cz p q (g.rules.take i)) r:=by rw[htk,wZ,if_pos hkr]
            generalize cz p q (g.rules.take i)=o at *
            generalize ct p q (g.rules.take i) 0=kl at *
            simp (disch:=omega) only [↓wr,↓reduceIte,wq,ai,ah,an,ab,ae,ag,aj,isNil,Nat.reduceEqDiff,Nat.reduceAdd,Nat.reduceLT,Nat.reduceLeDiff,Int.reduceNeg,Int.reduceToNat,reduceCtorEq,t1,t2,t5,t6,t8,t9,t41,t42,t43,f11,f8]
            refine Hq (kt:=3) (et:=3) (z:=gi 0) (by kernel_rfl) (by kernel_rfl) (k7 .i64 Tryz.underlying3) (id:=b9) (c:=cc) (m:=mm) (k:=r.left) (by simp (disch:=omega) only [↓wr,↓reduceIte,wq,ai,ah,an,ab,ae,ag,aj,isNil,Nat.reduceEqDiff,Nat.reduceAdd,Nat.reduceLT,Nat.reduceLeDiff,Int.reduceNeg,Int.reduceToNat,reduceCtorEq,t9]) (by simp (disch:=omega) only [↓wr,↓reduceIte,wq,ai,ah,an,ab,ae,ag,aj,isNil,Nat.reduceEqDiff,Nat.reduceAdd,Nat.reduceLT,Nat.reduceLeDiff,Int.reduceNeg,Int.reduceToNat,reduceCtorEq]) f9 ?_
            rw[hm9.get,nj]
            have hob:o.length≤40:=by omega
            by_cases hx:r.left∈o
            · have e1':nG o r=o:=by rw[nG,if_pos hx]
              rw[if_pos hx]
              simp (disch:=omega) only [↓wr,↓reduceIte,wq,ai,ah,an,ab,ae,ag,aj,isNil,Nat.reduceEqDiff,Nat.reduceAdd,Nat.reduceLT,Nat.reduceLeDiff,Int.reduceNeg,Int.reduceToNat,reduceCtorEq,t1,t2,t5,t6,t8,t9,t41,t42,t43,Option.isSome_some]
              have ho4:=(((ho3.at 1 (by simp)).tail).perm (.swap _ _ _))
              refine ca hk (by omega) ⟨⟨u1,u3',rfl,by rw[e1,e1']; exact hin,by rw[e1,e1']; omega,?_,mm,cc,f9,by rw[e1,e1']; exact hm9⟩,t1,t2,t5,t6,t8,t9,t41,t42,rfl⟩
              rw[e1,e1',e2]
              simp only[List.map_append,List.map_cons,List.map_nil]
              exact ho4
            · have e1':nG o r=o ++ [r.left]:=by rw[nG,if_neg hx]
              rw[if_neg hx]
              have hgn:g.aK[r.left.toNat]?=some (g.aK[r.left.toNat]'(by omega)):=List.getElem?_eq_getElem (by omega)
              have hgnd:g.aK.getD r.left.toNat ⟨#[]⟩=g.aK[r.left.toNat]'(by omega):=by simp[List.getD_eq_getElem?_getD,hgn]
              generalize g.aK[r.left.toNat]'(by omega)=nm at hgn hgnd
              simp (disch:=omega) only [↓wr,↓reduceIte,wq,ai,ah,an,ab,ae,ag,aj,isNil,Nat.reduceEqDiff,Nat.reduceAdd,Nat.reduceLT,Nat.reduceLeDiff,Int.reduceNeg,Int.reduceToNat,reduceCtorEq,t1,t2,t5,t6,t8,t9,t41,t42,t43,Option.isSome_none,f11,f8,hu1,List.length_map]
              refine zx (kt:=3) (et:=3) (by kernel_rfl) (k7 .i64 Tryz.underlying3) (id:=b9) (c:=cc) (m:=mm) (k:=r.left) (v:=gi o.length) (by simp (disch:=omega) only [↓wr,↓reduceIte,wq,ai,ah,an,ab,ae,ag,aj,isNil,Nat.reduceEqDiff,Nat.reduceAdd,Nat.reduceLT,Nat.reduceLeDiff,Int.reduceNeg,Int.reduceToNat,reduceCtorEq,t9]) (by simp (disch:=omega) only [↓wr,↓reduceIte,wq,ai,ah,an,ab,ae,ag,aj,isNil,Nat.reduceEqDiff,Nat.reduceAdd,Nat.reduceLT,Nat.reduceLeDiff,Int.reduceNeg,Int.reduceToNat,reduceCtorEq]) (by simp (disch:=omega) only [↓wr,↓reduceIte,wq,ai,ah,an,ab,ae,ag,aj,isNil,Nat.reduceEqDiff,Nat.reduceAdd,Nat.reduceLT,Nat.reduceLeDiff,Int.reduceNeg,Int.reduceToNat,reduceCtorEq]) f9 ?_
              intro c'
              have n89:b8≠b9:=uS ho3 2 rfl f9
              have n119:b11≠b9:=uS ho3 1 rfl f9
              simp (disch:=omega) only [↓wr,↓reduceIte,wq,ai,ah,an,ab,ae,ag,aj,isNil,Nat.reduceEqDiff,Nat.reduceAdd,Nat.reduceLT,Nat.reduceLeDiff,Int.reduceNeg,Int.reduceToNat,reduceCtorEq,t1,t2,t5,t6,t8,t9,t41,t42,t43,f11,f8,n89,n119,aw,encS,List.getElem?_map,hgn]
              intro m2 hm2
              have hm29:=(dC hm2 (by simp)).1
              have hm2:=(dC hm2 (by simp)).2
              have ho5:=((ho3.Hi f9 (o:=.map (r8 (eY r.left (gi o.length) cc mm)) c')).fresh (n:=m2) (o:=.arr 1 [[gs nm]]) (by simp only[View.set,if_neg hm29]; exact hm2)).at 3 (by simp)
              try simp (disch:=omega) only [↓wr,↓reduceIte,wq,ai,ah,an,ab,ae,ag,aj,isNil,Nat.reduceEqDiff,Nat.reduceAdd,Nat.reduceLT,Nat.reduceLeDiff,Int.reduceNeg,Int.reduceToNat,reduceCtorEq,t1,t2,t5,t6,t8,t9,t41,t42,t43,g9]
              refine pr ho5 (by simp[aP]) (by unfold aW; simp; omega) (by unfold aW; simp; omega) ?_
              intro u1' H5 ho6 hleft2
              have c1:=ho6.head.cells
              have k1:=ho6.head.zF
              have f8':=ho6.is 3 rfl (by simp)
              have f9':=hleft2.map (b:=b9) (es:=r8 (eY r.left (gi o.length) cc mm)) (c:=c') ho5.head (by simp[View.set,Ne.symm hm29])
              have n89':b9≠b8:=n89.symm
              simp (disch:=omega) only [↓wr,↓reduceIte,wq,ai,ah,an,ab,ae,ag,aj,isNil,Nat.reduceEqDiff,Nat.reduceAdd,Nat.reduceLT,Nat.reduceLeDiff,Int.reduceNeg,Int.reduceToNat,reduceCtorEq,t1,t2,t5,t6,t8,t9,t41,t42,t43,f8',c1,k1]
              have ho7:=(ho6.at 3 (by simp)).put (es':=[[u0,u1',.emp 1,gi 0]]) rfl rfl
              have ho8:=(((ho7.at 3 (by simp)).tail).perm (.cons _ (.swap _ _ _)))
              refine ca hk (by omega) ⟨⟨u1',u3',rfl,?_,?_,?_,_,c',(by simp only[View.set,if_neg n89']; exact f9'),?_⟩,t1,t2,t5,t6,t8,t9,t41,t42,rfl⟩
              · rw[e1,e1']; intro x hx'; rcases List.mem_append.1 hx' with h | h
                · exact hin x h
                · simp at h; subst h; exact ⟨hl2,hl3⟩
              · rw[e1,e1']; simp; omega
              · rw[e1,e1',e2]
                simp only[List.map_append,List.map_cons,List.map_nil,hgnd]
                exact ho8
              · rw[e1,e1',ua,Int.zero_add,← wQ hx]
                exact hm9.put r.left (o.length:Int) cc
          · simp (disch:=omega) only [↓wr,↓reduceIte,wq,ai,ah,an,ab,ae,ag,aj,isNil,Nat.reduceEqDiff,Nat.reduceAdd,Nat.reduceLT,Nat.reduceLeDiff,Int.reduceNeg,Int.reduceToNat,reduceCtorEq,t1,t2,t5,t6,t7,t8,t9,t41,t42,t43]
            refine hskip _ _ (by rw[cB,hqd,hal]; rfl) ?_ ?_ ?_ ?_ ?_ ?_ ?_ ?_ ?_ ?_ ?_
            all_goals first | exact t7 | exact t1 | exact t2 | exact t5 | exact t6 | exact t8 | exact t9 | exact t41 | exact t42 | rfl | (rw[set_set]; rfl)
      · rw[List.take_of_length_le (by omega)] at ho hin holen hm9
        have hkl40:(ct p q g.rules 0).length≤40:=by
          rw[nf]; have h1:=List.length_filter_le (cB p q) g.rules; omega
        have hkg:=rf p q g.rules 0
        have hkln:=nf p q g.rules 0
        have hrg:tR g (b5 (cz p q g.rules)) p q=⟨g.az,(cz p q g.rules).map fun x=>g.aK.getD x.toNat ⟨#[]⟩,(g.rules.filter (cB p q)).map (cx (b5 (cz p q g.rules))),b5 (cz p q g.rules) g.start⟩:=rfl
        rw[hrg,if_pos rfl]
        clear hrg
        generalize cz p q g.rules=o at *
        generalize ct p q g.rules 0=kl at *
        have hob:o.length≤40:=by omega
        have hu3:dF u3=some (fO kl).length:=(ho.own 1 rfl).len
        simp (disch:=omega) only [↓wr,↓reduceIte,wq,ai,ah,an,ab,ae,ag,aj,isNil,Nat.reduceEqDiff,Nat.reduceAdd,Nat.reduceLT,Nat.reduceLeDiff,Int.reduceNeg,Int.reduceToNat,reduceCtorEq,t1,t2,t5,t6,t7,t8,t9,hu3,List.length_map]
        refine bJ.up kl.length (Ii g p q b2 b8 b9 u0 u1 u3 o kl mm cc) ?_ ?_
        · refine ⟨⟨.emp 1,[],by simp,?_,h9⟩,t1,t2,t7,t8,t9,t7,rfl,rfl⟩
          exact (ho.emp (k:=1) (sz:=3)).perm (su [(.sl b8 0 1 4,4,[[u0,u1,.emp 1,gi 0]]),(u3,1,fO kl),(u1,1,nk (o.map fun x=>g.aK.getD x.toNat ⟨#[]⟩)),(u0,3,g.az.map bN),(.emp 1,3,[]),(.sl b2 0 1 4,4,[[.emp 1,.emp 1,.emp 1,gi 0]])] 4 (by simp)).symm
        clear ho h9 t1 t2 t5 t6 t7 t8 t9 t41 t42 t43
        rintro i k T H2 hk ⟨⟨u2,bs,hbs,ho,h9⟩,t1,t2,t7,t8,t9,t91,t92,t93⟩
        simp (disch:=omega) only [↓wr,↓reduceIte,wq,ai,ah,an,ab,ae,ag,aj,isNil,Nat.reduceEqDiff,Nat.reduceAdd,Nat.reduceLT,Nat.reduceLeDiff,Int.reduceNeg,Int.reduceToNat,reduceCtorEq,nh,t1,t2,t7,t8,t9,t91,t92,t93]
        refine ar.dec (fun hc=>?_) (fun hc=>?_)
        · obtain ⟨n3,e3,hn3⟩:=(ho.own 1 rfl).sl (by simp; omega)
          rw[List.length_map] at e3
          subst e3
          obtain ⟨m,hm1,hm2,hm3⟩:=hkg i (by omega)
          have hbg:=zj (show i < kl.length by omega)
          rw[Int.zero_add] at hm1
          have hki:kl[i]'(by omega)=(m:Int):=by
            rw[List.getElem?_eq_getElem (show i < kl.length by omega)] at hm1; simpa using hm1
          rw[hki] at hbg
          have hg2:g.rules[m]?=some (g.rules[m]'hm3):=List.getElem?_eq_getElem hm3
          have hmem:g.rules[m]'hm3∈g.rules:=List.getElem_mem _
          have htk:(g.rules.filter (cB p q)).take (i+1)=(g.rules.filter (cB p q)).take i ++ [g.rules[m]'hm3]:=by
            rw[List.take_add_one,← hm2,hg2]; rfl
          generalize g.rules[m]'hm3=r at hg2 hmem htk
          obtain ⟨hl1,hl2,hl3,hr6,hsy⟩:=hf.rK hg hmem
          simp (disch:=omega) only [↓wr,↓reduceIte,wq,ai,ah,an,ab,ae,ag,aj,isNil,Nat.reduceEqDiff,Nat.reduceAdd,Nat.reduceLT,Nat.reduceLeDiff,Int.reduceNeg,Int.reduceToNat,reduceCtorEq,t1,t2,t7,t8,t9,t91,t92,t93,hn3,hbg,List.length_map,aw,aY,encI,List.getElem?_map,hg2]
          refine ⟨by omega,by omega,?_⟩
          intro b16 hb16
          have hoA:=ho.new hb16 3 [aY r]
          have n916:b9≠b16:=by rintro rfl; rw[h9] at hb16; simp at hb16
          try simp (disch:=omega) only [↓wr,↓reduceIte,wq,ai,ah,an,ab,ae,ag,aj,isNil,Nat.reduceEqDiff,Nat.reduceAdd,Nat.reduceLT,Nat.reduceLeDiff,Int.reduceNeg,Int.reduceToNat,reduceCtorEq,t1,t2,t7,t8,t9,t91,t92,t93,set_set]
          refine xU (kt:=3) (et:=3) (z:=gi 0) (by kernel_rfl) (by kernel_rfl) (k7 .i64 Tryz.underlying3) (id:=b9) (c:=cc) (m:=mm) (k:=r.left) (by simp (disch:=omega) only [↓wr,↓reduceIte,wq,ai,ah,an,ab,ae,ag,aj,isNil,Nat.reduceEqDiff,Nat.reduceAdd,Nat.reduceLT,Nat.reduceLeDiff,Int.reduceNeg,Int.reduceToNat,reduceCtorEq,t9]) (by simp (disch:=omega) only [↓wr,↓reduceIte,wq,ai,ah,an,ab,ae,ag,aj,isNil,Nat.reduceEqDiff,Nat.reduceAdd,Nat.reduceLT,Nat.reduceLeDiff,Int.reduceNeg,Int.reduceToNat,reduceCtorEq]) (by simp[View.set,n916,h9]) ?_
          have hgt:∀ x,(getM mm x).getD (gi 0)=gi (b5 o x):=fun x=>by
            rw[hm9.get,b5]; cases cd (fj o 0) x <;> rfl
          rw[hgt]
          simp (disch:=omega) only [↓wr,↓reduceIte,wq,ai,ah,an,ab,ae,ag,aj,isNil,Nat.reduceEqDiff,Nat.reduceAdd,Nat.reduceLT,Nat.reduceLeDiff,Int.reduceNeg,Int.reduceToNat,reduceCtorEq,t1,t2,t7,t8,t9,t91,t92,t93]
          refine aJ.GA (Ei r.right (by omega) _) ?_
          intro v H3 hv hfr
          have hoB:=bq.GR (H:=H2.set b16 (.arr 3 [aY r])) hoA hv (by rw[set_set] at hfr; exact hfr)
          have h9B:H3 b9=.map (r8 mm) cc:=by
            rw[(hfr b9 (by simp[View.set,n916,h9])).1]; simp[View.set,n916,h9]
          have cv:=hv.cells
          have kv:=hv.zF
          have lv:=hv.len
          have f16:=hoB.is 1 rfl (by simp)
          simp only[aY,encI] at f16
          simp (disch:=omega) only [↓wr,↓reduceIte,wq,ai,ah,an,ab,ae,ag,aj,isNil,Nat.reduceEqDiff,Nat.reduceAdd,Nat.reduceLT,Nat.reduceLeDiff,Int.reduceNeg,Int.reduceToNat,reduceCtorEq,t1,t2,t7,t8,t9,t91,t92,t93,f16,cv,kv]
          intro b17 hb17
          have hoC:=hoB.new hb17 3 [[gi (b5 o r.left),v,gi r.prec]]
          have n917:b9≠b17:=by rintro rfl; rw[h9B] at hb17; simp at hb17
          try simp (disch:=omega) only [↓wr,↓reduceIte,wq,ai,ah,an,ab,ae,ag,aj,isNil,Nat.reduceEqDiff,Nat.reduceAdd,Nat.reduceLT,Nat.reduceLeDiff,Int.reduceNeg,Int.reduceToNat,reduceCtorEq,t1,t2,t7,t8,t9,t91,t92,t93,cv,kv,lv,set_set,List.length_map]
          generalize hL:((V.sl b8 0 1 4,4,[[u0,u1,u2,gi 0]]) :: (V.sl n3 0 kl.length 1,1,fO kl) ::
              (u1,1,nk (o.map fun x=>g.aK.getD x.toNat ⟨#[]⟩)) :: (u0,3,g.az.map bN) :: (u2,3,gu bs) :: (V.sl b2 0 1 4,4,[[V.emp 1,V.emp 1,V.emp 1,gi 0]]) :: og bs:List ed)=L at hoC
          refine bJ.up r.right.length (Im g b2 b8 b9 b16 b17 (.sl n3 0 kl.length 1) v o kl mm cc r L i) ?_ ?_
          · exact ⟨by rw[set_set]; exact hoC,by simp[View.set,n917,h9B],t1,t2,t7,t8,t9,t91,t92,t93,rfl,rfl,rfl,rfl⟩
          clear hoA hoB hoC hb16 hb17 h9 h9B f16 hv hfr t1 t2 t7 t8 t9 t91 t92 t93
          rintro k k2 T H3 hk2 ⟨hoC,h9,t1,t2,t7,t8,t9,t91,t92,t93,t17,t113,t114,t115⟩
          have f17:=hoC.is 0 rfl (by simp)
          simp (disch:=omega) only [↓wr,↓reduceIte,wq,ai,ah,an,ab,ae,ag,aj,isNil,Nat.reduceEqDiff,Nat.reduceAdd,Nat.reduceLT,Nat.reduceLeDiff,Int.reduceNeg,Int.reduceToNat,reduceCtorEq,mU,t1,t2,t7,t8,t9,t91,t92,t93,t17,t113,t114,t115]
          refine ar.dec (fun hcc=>?_) (fun hcc=>?_)
          · have hgs:r.right[k]?=some (r.right[k]'(by omega)):=List.getElem?_eq_getElem (by omega)
            have hms:r.right[k]'(by omega)∈r.right:=List.getElem_mem _
            have hrl:(cx (b5 o) r).right.length=r.right.length:=by simp[cx]
            have hts:(cx (b5 o) r).right.take (k+1)=(cx (b5 o) r).right.take k ++ [if r.right[k]'(by omega) < 0 then -1 - b5 o (-1 - r.right[k]'(by omega)) else r.right[k]'(by omega)]:=by
              rw[List.take_add_one]; simp[cx,hgs]
            have hdr:=dS (show k < r.right.length by omega)
            generalize r.right[k]'(by omega)=s at hgs hms hts hdr
            obtain ⟨⟨s1,s2⟩,s3⟩:=hsy s hms
            have hbd:=Gj o (-1 - s)
            rw[hdr] at hoC
            have hlen:(((cx (b5 o) r).right.take k ++ s :: r.right.drop (k+1)).map fun x=>[gi x]).length=r.right.length:=by simp; omega
            obtain ⟨nv,ev,hnv⟩:=(hoC.own 1 rfl).sl (by rw[hlen]; omega)
            rw[hlen] at ev
            subst ev
            have hlt:k < ((cx (b5 o) r).right.take k ++ s :: r.right.drop (k+1)).length:=by simp; omega
            have hbg2:=zj hlt
            have hel:((cx (b5 o) r).right.take k ++ s :: r.right.drop (k+1))[k]'hlt=s:=by
              rw[List.getElem_append_right (by simp; omega)]
              simp[show k - min k r.right.length=0 by omega,hrl]
            rw[hel] at hbg2
            simp (disch:=omega) only [↓wr,↓reduceIte,wq,ai,ah,an,ab,ae,ag,aj,isNil,Nat.reduceEqDiff,Nat.reduceAdd,Nat.reduceLT,Nat.reduceLeDiff,Int.reduceNeg,Int.reduceToNat,reduceCtorEq,t1,t2,t7,t8,t9,t91,t92,t93,t17,t113,t114,t115,hnv,hbg2,List.length_map]
            refine ⟨by omega,hlt,?_⟩
            have hlk:((cx (b5 o) r).right.take k).length=k:=by rw[List.length_take]; omega
            have nv9:nv≠b9:=uS hoC 1 rfl h9
            refine ar.dec (fun hneg=>?_) (fun hneg=>?_)
            · rw[if_pos hneg] at hts
              simp (disch:=omega) only [↓wr,↓reduceIte,wq,ai,ah,an,ab,ae,ag,aj,isNil,Nat.reduceEqDiff,Nat.reduceAdd,Nat.reduceLT,Nat.reduceLeDiff,Int.reduceNeg,Int.reduceToNat,reduceCtorEq,t1,t2,t7,t8,t9,t91,t92,t93,t17,t113,t114,t115,f17]
              refine xU (kt:=3) (et:=3) (z:=gi 0) (by kernel_rfl) (by kernel_rfl) (k7 .i64 Tryz.underlying3) (id:=b9) (c:=cc) (m:=mm) (k:=-1 - s) (by simp (disch:=omega) only [↓wr,↓reduceIte,wq,ai,ah,an,ab,ae,ag,aj,isNil,Nat.reduceEqDiff,Nat.reduceAdd,Nat.reduceLT,Nat.reduceLeDiff,Int.reduceNeg,Int.reduceToNat,reduceCtorEq,t9]) (by simp (disch:=omega) only [↓wr,↓reduceIte,wq,ai,ah,an,ab,ae,ag,aj,isNil,Nat.reduceEqDiff,Nat.reduceAdd,Nat.reduceLT,Nat.reduceLeDiff,Int.reduceNeg,Int.reduceToNat,reduceCtorEq]) h9 ?_
              rw[hgt]
              simp (disch:=omega) only [↓wr,↓reduceIte,wq,ai,ah,an,ab,ae,ag,aj,isNil,Nat.reduceEqDiff,Nat.reduceAdd,Nat.reduceLT,Nat.reduceLeDiff,Int.reduceNeg,Int.reduceToNat,reduceCtorEq,t1,t2,t7,t8,t9,t91,t92,t93,t17,t113,t114,t115,f17,hnv,hbg2,List.length_map]
              refine ⟨by omega,hlt,?_⟩
              have hoD:=((hoC.at 1 (by simp)).put (es':=((((cx (b5 o) r).right.take k ++ s :: r.right.drop (k+1)).map fun x=>[gi x]).set k [gi (-1 - b5 o (-1 - s))])) (by simp) (by rw[hlen])).perm (.swap _ _ _)
              refine ca hk2 (by omega) ⟨?_,by simp only[View.set,if_neg nv9.symm]; exact h9,t1,t2,t7,t8,t9,t91,t92,t93,t17,t113,t114,rfl⟩
              rw[ints_set,wj hlk] at hoD
              rw[hts,List.append_assoc]
              rw[ints_set,wj hlk]
              exact hoD
            · rw[if_neg hneg] at hts
              simp (disch:=omega) only [↓wr,↓reduceIte,wq,ai,ah,an,ab,ae,ag,aj,isNil,Nat.reduceEqDiff,Nat.reduceAdd,Nat.reduceLT,Nat.reduceLeDiff,Int.reduceNeg,Int.reduceToNat,reduceCtorEq,t1,t2,t7,t8,t9,t91,t92,t93,t17,t113,t114,t115]
              refine ca hk2 (by omega) ⟨?_,h9,t1,t2,t7,t8,t9,t91,t92,t93,t17,t113,t114,rfl⟩
              rw[hts,List.append_assoc]
              exact hoC
          · rw[List.take_of_length_le (by simp[cx]; omega),List.drop_eq_nil_of_le (by omega),List.append_nil] at hoC
            subst hL
            have f8:=hoC.is 3 rfl (by simp)
            have cv:=(hoC.own 1 rfl).cells
            have kv:=(hoC.own 1 rfl).zF
            have hbl:(gu bs).length≤40:=by
              have h1:=congrArg List.length hbs
              simp only[List.length_map,List.length_take] at h1
              simp only[gu,List.length_map]
              omega
            simp (disch:=omega) only [↓wr,↓reduceIte,wq,ai,ah,an,ab,ae,ag,aj,isNil,Nat.reduceEqDiff,Nat.reduceAdd,Nat.reduceLT,Nat.reduceLeDiff,Int.reduceNeg,Int.reduceToNat,reduceCtorEq,t1,t2,t7,t8,t9,t91,t92,t93,t17,t113,t114,t115,f8,f17,cv,kv]
            intro m hm
            have n9m:b9≠m:=by rintro rfl; rw[h9] at hm; simp at hm
            try simp (disch:=omega) only [↓wr,↓reduceIte,wq,ai,ah,an,ab,ae,ag,aj,isNil,Nat.reduceEqDiff,Nat.reduceAdd,Nat.reduceLT,Nat.reduceLeDiff,Int.reduceNeg,Int.reduceToNat,reduceCtorEq,t1,t2,t7,t8,t9,t91,t92,t93,t17,g9]
            have hoD:=(hoC.fresh (o:=.arr 3 [[gi (b5 o r.left),v,gi r.prec]]) hm).at 7 (by simp)
            refine pr hoD (by simp[vY,kv]) (by unfold aW; simp at hbl ⊢; omega) (by unfold aW; simp at hbl ⊢; omega) ?_
            intro u2' H4 hoE hleft
            have cu:=hoE.head.cells
            have ku:=hoE.head.zF
            have f8':=hoE.is 4 rfl (by simp)
            have h9':H4 b9=.map (r8 mm) cc:=hleft.map (b:=b9) hoD.head (by simp[View.set,n9m,h9])
            have n98:b9≠b8:=(uS hoE 4 rfl h9').symm
            simp (disch:=omega) only [↓wr,↓reduceIte,wq,ai,ah,an,ab,ae,ag,aj,isNil,Nat.reduceEqDiff,Nat.reduceAdd,Nat.reduceLT,Nat.reduceLeDiff,Int.reduceNeg,Int.reduceToNat,reduceCtorEq,t1,t2,t7,t8,t9,t91,t92,t93,t17,f8',cu,ku]
            have hoF:=(hoE.at 4 (by simp)).put (es':=[[u0,u1,u2',gi 0]]) rfl rfl
            have hoG:=((((hoF.at 2 (by simp)).tail).at 3 (by simp)).tail)
            refine ca hk (by omega) ⟨⟨u2',bs ++ [(v,cx (b5 o) r)],?_,?_,by simp only[View.set,if_neg n98]; exact h9'⟩,t1,t2,t7,t8,t9,t91,t92,rfl⟩
            · rw[List.map_append,hbs,htk,List.map_append]; rfl
            · refine hoG.perm (.cons _ ?_)
              simp only[og,gu,List.map_append,List.map_cons,List.map_nil]
              refine .trans ?_ (su _ 3 (by simp)).symm
              refine .cons _ ?_
              exact (List.perm_append_singleton (v,1,fO (cx (b5 o) r).right) ((.sl n3 0 kl.length 1,1,fO kl) :: (u1,1,nk (o.map fun x=>g.aK.getD x.toNat ⟨#[]⟩)) :: (u0,3,g.az.map bN) :: (.sl b2 0 1 4,4,[[.emp 1,.emp 1,.emp 1,gi 0]]) :: og bs)).symm
        · rw[List.take_of_length_le (by omega)] at hbs
          have f8:=ho.is 0 rfl (by simp)
          have f2:=ho.is 5 rfl (by simp)
          have n82:b8≠b2:=ho.ID 0 5 rfl rfl (by omega)
          have c1:=(ho.own 2 rfl).cells
          have k1:=(ho.own 2 rfl).zF
          have c2:=(ho.own 4 rfl).cells
          have k2:=(ho.own 4 rfl).zF
          have hgt:∀ x,(getM mm x).getD (gi 0)=gi (b5 o x):=fun x=>by
            rw[hm9.get,b5]; cases cd (fj o 0) x <;> rfl
          simp (disch:=omega) only [↓wr,↓reduceIte,wq,ai,ah,an,ab,ae,ag,aj,isNil,Nat.reduceEqDiff,Nat.reduceAdd,Nat.reduceLT,Nat.reduceLeDiff,Int.reduceNeg,Int.reduceToNat,reduceCtorEq,t1,t2,t7,t8,t9,t91,t92,t93,aw]
          refine xU (kt:=3) (et:=3) (z:=gi 0) (by kernel_rfl) (by kernel_rfl) (k7 .i64 Tryz.underlying3) (id:=b9) (c:=cc) (m:=mm) (k:=g.start) (by simp (disch:=omega) only [↓wr,↓reduceIte,wq,ai,ah,an,ab,ae,ag,aj,isNil,Nat.reduceEqDiff,Nat.reduceAdd,Nat.reduceLT,Nat.reduceLeDiff,Int.reduceNeg,Int.reduceToNat,reduceCtorEq,t9]) (by simp (disch:=omega) only [↓wr,↓reduceIte,wq,ai,ah,an,ab,ae,ag,aj,isNil,Nat.reduceEqDiff,Nat.reduceAdd,Nat.reduceLT,Nat.reduceLeDiff,Int.reduceNeg,Int.reduceToNat,reduceCtorEq]) h9 ?_
          rw[hgt]
          simp (disch:=omega) only [↓wr,↓reduceIte,wq,ai,ah,an,ab,ae,ag,aj,isNil,Nat.reduceEqDiff,Nat.reduceAdd,Nat.reduceLT,Nat.reduceLeDiff,Int.reduceNeg,Int.reduceToNat,reduceCtorEq,t1,t2,t7,t8,t9,t91,t92,t93,f8,f2,n82,n82.symm,c0,k0,c1,k1,c2,k2]
          intro h' hh
          have hoA:=ho.put (es':=[[u0,u1,u2,gi (b5 o g.start)]]) rfl rfl
          have hoB:=(hoA.at 5 (by simp)).put (es':=[[u0,u1,u2,gi (b5 o g.start)]]) rfl rfl
          have hv:h'.view=(H2.set b8 (.arr 4 [[u0,u1,u2,gi (b5 o g.start)]])).set b2 (.arr 4 [[u0,u1,u2,gi (b5 o g.start)]]):=hh
          rw[← hv] at hoB
          exact Gm (x:=(⟨g.az,o.map fun x=>g.aK.getD x.toNat ⟨#[]⟩,(g.rules.filter (cB p q)).map (cx (b5 o)),b5 o g.start⟩,kl,0)) (b:=bs) (hoB.own 4 rfl) (hoB.own 3 rfl) (hoB.own 5 rfl) (fun y hy=>hoB.1 y (by
            refine List.mem_cons_of_mem _ (List.mem_cons_of_mem _ (List.mem_cons_of_mem _ (List.mem_cons_of_mem _ (List.mem_cons_of_mem _ (List.mem_cons_of_mem _ ?_)))))
            exact hy)) hbs (hoB.own 2 rfl)
  · rename_i hr
    intro h' hh
    rw[if_neg (by simp[hr])]
    exact yX
theorem Bz {l:List Int} {a b:List Bool} {t:Bool} (h:dZ a b) (k:eU l a t=true):eU l b t=true:=by
  simp only[eU,List.all_eq_true] at k ⊢
  intro s hs
  have:=k s hs
  by_cases h0:0≤s
  · rw[if_pos h0] at this ⊢; exact this
  · rw[if_neg h0] at this ⊢; exact h.2 _ this
theorem dZ.G9 {a b:List Bool} (h:dZ a b) (k:dZ b a):a=b:=by
  have h1:=h.cH
  have h2:=k.cH
  exact h1.2 (by omega)
def iQ (g:aE) (t:Bool) (is:List Bool):Prop:=∀ i,is.getD i false=true→∃ r∈g.rules,r.left.toNat=i∧eU r.right is t=true
theorem iQ.step {g:aE} {t:Bool} {is:List Bool} {r:aZ} (h:iQ g t is) (hr:r∈g.rules):iQ g t (iS t is r):=by
  have hle:dZ is (iS t is r):=by
    unfold iS
    split
    · exact .set _ _
    · exact .refl _
  intro i hi
  by_cases e:is.getD i false=true
  · obtain ⟨r',h1,h2,h3⟩:=h i e
    exact ⟨r',h1,h2,Bz hle h3⟩
  · unfold iS at hi
    by_cases ha:eU r.right is t=true
    · rw[if_pos ha] at hi
      have:r.left.toNat=i:=by
        refine Classical.byContradiction fun hne=>e ?_
        simp only[List.getD_eq_getElem?_getD,List.getElem?_set,if_neg hne] at hi ⊢
        exact hi
      exact ⟨r,hr,this,Bz hle ha⟩
    · rw[if_neg ha] at hi; exact absurd hi e
theorem iQ.fold {g:aE} {t:Bool} : ∀ (l:List aZ) (is:List Bool),(∀ r∈l,r∈g.rules)→iQ g t is→iQ g t (l.foldl (iS t) is)
  | [],is,_,h=>h
  | r :: l,is,hl,h=>iQ.fold l _ (fun x hx=>hl x (by simp[hx])) (h.step (hl r (by simp)))
theorem iQ.iter {g:aE} {t:Bool} : ∀ (n:Nat) (is:List Bool),iQ g t is→iQ g t (iter (oW g t) n is)
  | 0,_,h=>h
  | n+1,is,h=>iQ.iter n _ (iQ.fold g.rules is (fun _ h=>h) h)
theorem Ca (g:aE) (t:Bool):iQ g t (bh g t):=by
  unfold bh
  split
  · refine iQ.iter _ _ ?_
    intro i hi
    simp only[bV,List.getD_eq_getElem?_getD,List.getElem?_replicate] at hi
    split at hi <;> simp at hi
  · intro i hi; simp at hi
theorem Bd (is:List Bool) (s:Int):dZ is (mark is s):=by
  unfold mark
  split
  · exact .set _ _
  · exact .refl _
theorem tg:∀ (l:List Int) (is:List Bool),dZ is (l.foldl mark is)
  | [],is=>.refl _
  | s :: l,is=>(Bd is s).trans (tg l _)
theorem yM (p is:List Bool) (r:aZ):dZ is (iV p is r):=by
  unfold iV
  split
  · exact tg _ _
  · exact .refl _
theorem x6 (p:List Bool):∀ (l:List aZ) (is:List Bool),dZ is (l.foldl (iV p) is)
  | [],is=>.refl _
  | r :: l,is=>(yM p is r).trans (x6 p l _)
theorem xF {p:List Bool} : ∀ {l:List aZ} {is:List Bool},l.foldl (iV p) is=is→∀ r∈l,iV p is r=is
  | [],_,_,_,h=>by simp at h
  | r :: l,is,h,x,hx=>by
    rw[List.foldl_cons] at h
    have h1:=x6 p l (iV p is r)
    rw[h] at h1
    have h2:=(h1.G9 (yM p is r))
    rcases List.mem_cons.1 hx with rfl | hx
    · exact h2
    · rw[h2] at h; exact xF h x hx
theorem w6:∀ {l:List Int} {is:List Bool},l.foldl mark is=is→∀ s∈l,mark is s=is
  | [],_,_,_,h=>by simp at h
  | r :: l,is,h,x,hx=>by
    rw[List.foldl_cons] at h
    have h1:=tg l (mark is r)
    rw[h] at h1
    have h2:=(h1.G9 (Bd is r))
    rcases List.mem_cons.1 hx with rfl | hx
    · exact h2
    · rw[h2] at h; exact w6 h x hx
theorem wK {g:aE} (hr:bo g=true):rL g (bh g true) (bQ g)=bQ g∧dZ ((bV g).set g.start.toNat true) (bQ g):=by
  have hf:=bW hr
  have h:=rY (mg (bh g true)) g.rules 16 ((bV g).set g.start.toNat true) (by have:=hf.aK; simp[bV]; omega)
  rw[A9,D0 hr] at h
  exact h
theorem Am {g:aE} (hr:bo g=true):(bQ g).getD g.start.toNat false=true:=by
  have hf:=bW hr
  refine (wK hr).2.2 _ ?_
  have h3:=hf.uj
  have h4:=hf.start
  simp only[List.getD_eq_getElem?_getD]
  rw[List.getElem?_set_self (by simp[bV]; omega)]
  rfl
theorem Ci {g:aE} (hr:bo g=true) {r:aZ} (hm:r∈g.rules) (hk:cB (bh g true) (bQ g) r=true) {s:Int} (hs:s∈r.right) (hn:s < 0):(bQ g).getD (-1 - s).toNat false=true:=by
  have hf:=bW hr
  have h1:=xF (wK hr).1 r hm
  unfold iV at h1
  rw[cB] at hk
  rw[if_pos hk] at h1
  have h2:=w6 h1 s hs
  unfold mark at h2
  rw[if_pos hn] at h2
  rw[← h2]
  have hl:=n0 hr
  have:=hf.neg hm hs hn
  simp only[List.getD_eq_getElem?_getD]
  rw[List.getElem?_set_self (by omega)]
  rfl
theorem CS {g:aE} (hr:bo g=true) {x:Int} (h0:0≤x) (hp:(bh g true).getD x.toNat false=true) (hq:(bQ g).getD x.toNat false=true):x∈cz (bh g true) (bQ g) g.rules:=by
  obtain ⟨r,h1,h2,h3⟩:=Ca g true _ hp
  have hf:=bW hr
  have h4:=hf.left r h1
  have:r.left=x:=by omega
  refine x9.2 ⟨r,h1,?_,this⟩
  rw[cB,this,hq,h3]; rfl
theorem Ce (g:aE):(if bo g=true then
    if (bh g true).getD g.start.toNat false=true then (tR g (b5 (cz (bh g true) (bQ g) g.rules)) (bh g true) (bQ g),ct (bh g true) (bQ g) g.rules 0,0)
    else (qp,[],9)
  else (qp,[],1))=kd g:=by
  unfold kd
  by_cases hr:bo g=true
  · rw[if_pos hr,if_pos hr]
    by_cases hp:(bh g true).getD g.start.toNat false=true
    · rw[if_pos hp,if_pos hp]
      have hf:=bW hr
      rw[EC]
      · exact CS hr hf.uj hp (Am hr)
      · intro r hm
        obtain ⟨h1,h2⟩:=List.mem_filter.1 hm
        refine ⟨x9.2 ⟨r,h1,h2,rfl⟩,fun s hs hn=>?_⟩
        refine CS hr (by omega) ?_ (Ci hr h1 h2 hs hn)
        rw[cB,Bool.and_eq_true] at h2
        have:=h2.2
        simp only[eU,List.all_eq_true] at this
        have:=this s hs
        rwa [if_neg (by omega)] at this
    · rw[if_neg hp,if_neg hp]
  · rw[if_neg hr,if_neg hr]
theorem Cb (g:aE) (hg:g.Ok) (hs:g.Small):cF Tryz.prog 120 [.agg (aw g)] (wx (kd g)):=by
  rw[← Ce]; exact Ac g hg hs
def c5 (g:aE) (k:Int):aZ:=g.rules.getD k.toNat ⟨0,[],0⟩
theorem getD_some {α:Type} {l:List α} {j:Nat} {d:α} (h:j < l.length):l[j]?=some (l.getD j d):=by simp[List.getD_eq_getElem?_getD,h]
section
variable {g r:aE} {p q:List Bool} {o:List Int}
end
section
variable {g r:aE} {p q:List Bool} {o:List Int}
end
def isRed (g:aE):Bool:=(kd g).2.2 == 0 && decide (g=(kd g).1)
def He (p:List Int) (i:Nat) (s:Int):Prop:=∃ c,p[i]?=some c∧(c=s∨c = -1)
structure Item where
  bg:Nat
  dot:Nat
  C2:Nat
  deriving DecidableEq
structure Iv (g:aE) (p:List Int) (S:Nat→List Item):Prop where
  start:∀ (i:Nat) (R:aZ),g.rules[i]?=some R→R.left=g.start→⟨i,0,0⟩∈S 0
  term:∀ a x R s,x∈S a→g.rules[x.bg]?=some R→R.right[x.dot]?=some s→0≤s→He p a s→⟨x.bg,x.dot+1,x.C2⟩∈S (a+1)
  pred:∀ a x R s i R',x∈S a→g.rules[x.bg]?=some R→R.right[x.dot]?=some s→s < 0→g.rules[i]?=some R'→R'.left = -1 - s→a≤p.length→⟨i,0,a⟩∈S a
  null:∀ a x R s,x∈S a→g.rules[x.bg]?=some R→R.right[x.dot]?=some s→s < 0→(bh g false).getD (-1 - s).toNat false=true→a≤p.length→⟨x.bg,x.dot+1,x.C2⟩∈S a
  comp:∀ a y R' x R s,y∈S a→g.rules[y.bg]?=some R'→y.dot=R'.right.length→y.C2 < a→x∈S y.C2→g.rules[x.bg]?=some R→R.right[x.dot]?=some s→s < 0→R'.left = -1 - s→a≤p.length→⟨x.bg,x.dot+1,x.C2⟩∈S a
abbrev Tb:=List (List (List Bool))
theorem Ha:qp.Ok:=by
  refine ⟨by unfold bd; decide,by unfold bd; decide,by unfold bd; decide,by unfold cU; decide,?_,?_⟩
  · intro t ht; simp[qp] at ht
  · intro r hr; simp[qp] at hr
section
variable {g r:aE} {p q:List Bool} {o:List Int}
end
theorem bytes_beq (a b:ByteArray):(a == b)=decide (a=b):=by
  cases a with | mk a=>cases b with | mk b =>
  rw[Bool.eq_iff_iff]
  show (ByteArray.beq ⟨a⟩ ⟨b⟩=true)↔_
  simp only[ByteArray.beq]
  simp
theorem D2 (a b:ByteArray):ey a b=decide (a=b):=by
  cases a with | mk a=>cases b with | mk b =>
  rw[Bool.eq_iff_iff]
  simp[ey]
theorem sx {α:Type} {a b:List α} {i:Nat} {x y:α} (hx:a[i]?=some x) (hy:b[i]?=some y) (h:a.take i=b.take i) (e:x=y):a.take (i+1)=b.take (i+1):=by
  rw[List.take_add_one,List.take_add_one,h,hx,hy,e]
theorem u6 {α:Type} {a b:List α} {i:Nat} (ha:a.length≤i) (hb:b.length≤i) (h:a.take i=b.take i):a=b:=by
  rwa [List.take_of_length_le ha,List.take_of_length_le hb] at h
theorem x3 {α:Type} {a b:List α} {i:Nat} {x y:α} (hx:a[i]?=some x) (hy:b[i]?=some y) (e:x≠y):a≠b:=by
  rintro rfl; rw[hx] at hy; exact e (by simpa using hy)
theorem tV {α:Type} {a b:List α} (h:¬ a.length=b.length):a≠b:=fun e=>h (by rw[e])
theorem Ao (x y:Term):dV Tryz.prog 9998 #[.string x.name,.int .i64 x.level,.int .i64 x.assoc] #[.string y.name,.int .i64 y.level,.int .i64 y.assoc]
    [{ name:= "Name",type:=9,offset:=0,embedded:=false,tag:= "",pkgPath:= "",byteOffset:=0 },{ name:= "Level",type:=3,offset:=1,embedded:=false,tag:= "",pkgPath:= "",byteOffset:=16 },
        { name:= "Assoc",type:=3,offset:=2,embedded:=false,tag:= "",pkgPath:= "",byteOffset:=24 }] (x.name == y.name && (x.level == y.level && (x.assoc == y.assoc && true))) :=
  .str _ _ _ _ _ (by decide) Tryz.underlying9 rfl rfl (.int _ _ _ _ _ _ (by decide) Tryz.underlying3 rfl rfl (.int _ _ _ _ _ _ (by decide) Tryz.underlying3 rfl rfl .nil))
theorem Gn (x y:Term):(x.name == y.name && (x.level == y.level && (x.assoc == y.assoc && true)))=decide (x=y):=by
  rw[bytes_beq,Bool.eq_iff_iff]
  cases x; cases y
  simp
theorem GI (a b:Int):(a == b)=decide (a=b):=by rw[Bool.eq_iff_iff]; simp
theorem E6 (x y:aZ):decide (x=y)=(decide (x.left=y.left) && (decide (x.prec=y.prec) && decide (x.right=y.right))):=by
  cases x; cases y
  rw[Bool.eq_iff_iff]
  simp[and_comm]
theorem Fl (x y:aE):decide (x=y)=(decide (x.az=y.az) && (decide (x.aK=y.aK) && (decide (x.rules=y.rules) && decide (x.start=y.start)))):=by
  cases x; cases y
  rw[Bool.eq_iff_iff]
  simp
theorem CU (g k:aE):∀ v∈[V.agg (aw g),V.agg (aw k)],Tree v:=by
  intro v hv; simp at hv
  rcases hv with rfl | rfl <;> exact cI _ (dr _)
def dh:SC :=
  .seq (ao [aF 14 .lss 13 12]) <|
  .seq (.cond (.tmp 14) (.skip) (.exit 0)) <|
  .seq (.block 1 (.seq (ao [aa 15 13,aa 5 15]) <|
  .seq (ao [aa 16 0,aa 17 5,aI 18 3 16 17,aG 19 3 18,aa 20 1,aa 21 5,aI 22 3 20 21,aG 23 3 22,((some 24),.op (.old (.binOp .neq 134 (.tmp 19) (.tmp 23) 134) 4))]) <|
  .cond (.tmp 24) (.seq (ao [aM 4 false]) <|
  .ret) (.skip))) <|
  ao [aq 25 .add 13 1,aa 13 25]
def dB:SF:=⟨.seq (ao [aM 4 false]) <|
  .seq (.seq (ao [aa 6 0,aH 7 6,aa 8 1,aH 9 8,aF 10 .neq 7 9]) <|
  .cond (.tmp 10) (.seq (ao [aM 4 false]) <|
  .ret) (.skip)) <|
  .seq (.seq (ao [aa 11 0,aH 12 11,ax 13 0]) <|
  .block 0 (.loop dh)) <|
  .seq (ao [aM 4 true]) <|
  .ret,
  [.tmp 4],26⟩
theorem fI:bb Tryz.prog 179 []=some dB:=by kernel_rfl
def dO:SC :=
  .seq (ao [aF 14 .lss 13 12]) <|
  .seq (.cond (.tmp 14) (.skip) (.exit 0)) <|
  .seq (.block 1 (.seq (ao [aa 15 13,aa 5 15]) <|
  .seq (ao [aa 16 0,aa 17 5,aI 18 1 16 17,ak 19 18,aa 20 1,aa 21 5,aI 22 1 20 21,ak 23 22,((some 24),.op (.fT .neq (.tmp 19) (.tmp 23)))]) <|
  .cond (.tmp 24) (.seq (ao [aM 4 false]) <|
  .ret) (.skip))) <|
  ao [aq 25 .add 13 1,aa 13 25]
def ee:SF:=⟨.seq (ao [aM 4 false]) <|
  .seq (.seq (ao [aa 6 0,aH 7 6,aa 8 1,aH 9 8,aF 10 .neq 7 9]) <|
  .cond (.tmp 10) (.seq (ao [aM 4 false]) <|
  .ret) (.skip)) <|
  .seq (.seq (ao [aa 11 0,aH 12 11,ax 13 0]) <|
  .block 0 (.loop dO)) <|
  .seq (ao [aM 4 true]) <|
  .ret,
  [.tmp 4],26⟩
theorem gW:bb Tryz.prog 180 []=some ee:=by kernel_rfl
def fh:SC :=
  .seq (ao [aF 14 .lss 13 12]) <|
  .seq (.cond (.tmp 14) (.skip) (.exit 0)) <|
  .seq (.block 1 (.seq (ao [aa 15 13,aa 5 15]) <|
  .seq (ao [aa 16 0,aa 17 5,aI 18 1 16 17,ak 19 18,aa 20 1,aa 21 5,aI 22 1 20 21,ak 23 22,aF 24 .neq 19 23]) <|
  .cond (.tmp 24) (.seq (ao [aM 4 false]) <|
  .ret) (.skip))) <|
  ao [aq 25 .add 13 1,aa 13 25]
def fX:SF:=⟨.seq (ao [aM 4 false]) <|
  .seq (.seq (ao [aa 6 0,aH 7 6,aa 8 1,aH 9 8,aF 10 .neq 7 9]) <|
  .cond (.tmp 10) (.seq (ao [aM 4 false]) <|
  .ret) (.skip)) <|
  .seq (.seq (ao [aa 11 0,aH 12 11,ax 13 0]) <|
  .block 0 (.loop fh)) <|
  .seq (ao [aM 4 true]) <|
  .ret,
  [.tmp 4],26⟩
theorem kb:bb Tryz.prog 224 []=some fX:=by kernel_rfl
def s0:SF:=⟨.seq (ao [bu 2 0,bu 3 1,aM 4 false]) <|
  .seq (.region false [⟨none,[al 5 0 2,ak 6 5,al 7 0 3,ak 8 7,aF 9 .eql 6 8,aa 10 9]⟩,⟨(some (10,true)),[al 11 2 2,ak 12 11,al 13 2 3,ak 14 13,aF 15 .eql 12 14]⟩,⟨none,[bf 16 10 15,aa 17 16]⟩,⟨(some (17,true)),[al 18 1 2,ak 19 18,al 20 1 3,ak 21 20,aB 22 224 [19,21]]⟩,⟨none,[bf 23 17 22,aa 4 23]⟩]) <|
  .ret,
  [.tmp 4],24⟩
theorem wb:bb Tryz.prog 182 [2,3]=some s0:=by kernel_rfl
def bI:SC :=
  .seq (ao [aF 18 .lss 17 16]) <|
  .seq (.cond (.tmp 18) (.skip) (.exit 0)) <|
  .seq (.block 1 (.seq (ao [aa 19 17,aI 20 3 15 17,aG 21 3 20,((some 8),.op (.alloc [(.val (.int .i64 0)),(.emp 1),(.val (.int .i64 0))])),aa 7 19,(none,.op (.store 3 (.tmp 8) (.tmp 21)))]) <|
  .seq (ao [aa 22 1,aa 23 7,aI 24 3 22 23,aG 25 3 24,((some 9),.op (.alloc [(.val (.int .i64 0)),(.emp 1),(.val (.int .i64 0))])),(none,.op (.store 3 (.tmp 9) (.tmp 25)))]) <|
  .seq (ao [aa 26 2,aG 27 3 8,aG 28 3 9,((some 29),.call (.tmp 26) [(.tmp 27),(.tmp 28)]),bB 30 29]) <|
  .cond (.tmp 30) (.seq (ao [aM 6 false]) <|
  .ret) (.skip))) <|
  ao [aq 31 .add 17 1,aa 17 31]
def bL:SF:=⟨.seq (ao [aM 6 false]) <|
  .seq (.seq (ao [aa 10 0,aH 11 10,aa 12 1,aH 13 12,aF 14 .neq 11 13]) <|
  .cond (.tmp 14) (.seq (ao [aM 6 false]) <|
  .ret) (.skip)) <|
  .seq (.seq (ao [aa 15 0,aH 16 15,ax 17 0]) <|
  .block 0 (.loop bI)) <|
  .seq (ao [aM 6 true]) <|
  .ret,
  [.tmp 6],32⟩
theorem cP:bb Tryz.prog 181 []=some bL:=by kernel_rfl
def uU:SF:=⟨.seq (ao [bu 2 0,bu 3 1,aM 4 false]) <|
  .seq (.region false [⟨none,[al 5 0 2,ak 6 5,al 7 0 3,ak 8 7,aB 9 179 [6,8],aa 10 9]⟩,⟨(some (10,true)),[al 11 1 2,ak 12 11,al 13 1 3,ak 14 13,aB 15 180 [12,14]]⟩,⟨none,[bf 16 10 15,aa 17 16]⟩,⟨(some (17,true)),[al 18 2 2,ak 19 18,al 20 2 3,ak 21 20,bS 22 181 [(.tmp 19),(.tmp 21),(.val (.fn 182 [] []))]]⟩,⟨none,[bf 23 17 22,aa 24 23]⟩,⟨(some (24,true)),[al 25 3 2,ak 26 25,al 27 3 3,ak 28 27,aF 29 .eql 26 28]⟩,⟨none,[bf 30 24 29,aa 4 30]⟩]) <|
  .ret,
  [.tmp 4],31⟩
theorem xN:bb Tryz.prog 121 [2,3]=some uU:=by kernel_rfl
theorem CV {α:Type} {f g:α→List V} {a b:List α} (hf:∀ x,∀ v∈f x,Tree v) (hg:∀ x,∀ v∈g x,Tree v):∀ v∈[V.aS (a.map f),V.aS (b.map g)],Tree v:=by
  intro v hv; simp at hv
  rcases hv with rfl | rfl
  · exact eC _ _ fun x _=>hf x
  · exact eC _ _ fun x _=>hg x
theorem Dy (a b:List Term) (ha:bd a) (H:View):aD Tryz.prog 179 [.aS (a.map bN),.aS (b.map bN)] H fun r _=>r=gb (decide (a=b)):=by
  refine aD.of mixed fI ?_
  unfold bd at ha
  simp (disch:=omega) only [↓wr,↓reduceIte,wq,ai,ah,an,ab,ae,ag,aj,isNil,Nat.reduceEqDiff,Nat.reduceAdd,Nat.reduceLT,Nat.reduceLeDiff,Int.reduceNeg,Int.reduceToNat,reduceCtorEq,dB]
  refine ar.ne (fun h=>?_) (fun h=>?_)
  · simp (disch:=omega) only [↓wr,↓reduceIte,wq,ai,ah,an,ab,ae,ag,aj,isNil,Nat.reduceEqDiff,Nat.reduceAdd,Nat.reduceLT,Nat.reduceLeDiff,Int.reduceNeg,Int.reduceToNat,reduceCtorEq]
    rw[decide_eq_false (tV (by omega))]
  · simp (disch:=omega) only [↓wr,↓reduceIte,wq,ai,ah,an,ab,ae,ag,aj,isNil,Nat.reduceEqDiff,Nat.reduceAdd,Nat.reduceLT,Nat.reduceLeDiff,Int.reduceNeg,Int.reduceToNat,reduceCtorEq]
    refine bJ.up a.length (fun i T _=>a.take i=b.take i∧T 0=.aS (a.map bN)∧T 1=.aS (b.map bN)∧T 12=gi a.length∧T 13=gi i) ⟨by simp,rfl,rfl,rfl,rfl⟩ ?_
    rintro i k T H hk ⟨hi,h0,h1,h7,h8⟩
    simp (disch:=omega) only [↓wr,↓reduceIte,wq,ai,ah,an,ab,ae,ag,aj,isNil,Nat.reduceEqDiff,Nat.reduceAdd,Nat.reduceLT,Nat.reduceLeDiff,Int.reduceNeg,Int.reduceToNat,reduceCtorEq,dh,h0,h1,h7,h8]
    refine ar.dec (fun hc=>?_) (fun hc=>?_)
    · have h2:a[i]?=some (a[i]'(by omega)):=List.getElem?_eq_getElem (by omega)
      have h3:b[i]?=some (b[i]'(by omega)):=List.getElem?_eq_getElem (by omega)
      generalize a[i]'(by omega)=x at h2
      generalize b[i]'(by omega)=y at h3
      simp (disch:=omega) only [↓wr,↓reduceIte,wq,ai,ah,an,ab,ae,ag,aj,isNil,Nat.reduceEqDiff,Nat.reduceAdd,Nat.reduceLT,Nat.reduceLeDiff,Int.reduceNeg,Int.reduceToNat,reduceCtorEq,h0,h1,h7,h8,List.getElem?_map,h2,h3,bN]
      refine Ae (xs:=#[.string x.name,.int .i64 x.level,.int .i64 x.assoc]) (ys:=#[.string y.name,.int .i64 y.level,.int .i64 y.assoc]) Tryz.underlying134 (by kernel_rfl) (by kernel_rfl) ?_ ?_ (Ao x y) (.inr ⟨rfl,rfl⟩) ?_
      · rfl
      · rfl
      rw[Gn]
      simp (disch:=omega) only [↓wr,↓reduceIte,wq,ai,ah,an,ab,ae,ag,aj,isNil,Nat.reduceEqDiff,Nat.reduceAdd,Nat.reduceLT,Nat.reduceLeDiff,Int.reduceNeg,Int.reduceToNat,reduceCtorEq,h0,h1,h7,h8]
      refine ar.split (fun e=>?_) (fun e=>?_)
      · simp (disch:=omega) only [↓wr,↓reduceIte,wq,ai,ah,an,ab,ae,ag,aj,isNil,Nat.reduceEqDiff,Nat.reduceAdd,Nat.reduceLT,Nat.reduceLeDiff,Int.reduceNeg,Int.reduceToNat,reduceCtorEq,h0,h1,h7,h8]
        exact ca hk (by omega) ⟨sx h2 h3 hi (by simpa using e),h0,h1,h7,rfl⟩
      · simp (disch:=omega) only [↓wr,↓reduceIte,wq,ai,ah,an,ab,ae,ag,aj,isNil,Nat.reduceEqDiff,Nat.reduceAdd,Nat.reduceLT,Nat.reduceLeDiff,Int.reduceNeg,Int.reduceToNat,reduceCtorEq,h0,h1,h7,h8]
        rw[decide_eq_false (x3 h2 h3 (by simpa using e))]
    · simp (disch:=omega) only [↓wr,↓reduceIte,wq,ai,ah,an,ab,ae,ag,aj,isNil,Nat.reduceEqDiff,Nat.reduceAdd,Nat.reduceLT,Nat.reduceLeDiff,Int.reduceNeg,Int.reduceToNat,reduceCtorEq,h0,h1,h7,h8]
      rw[decide_eq_true (u6 (by omega) (by omega) hi)]
theorem DL (a b:List ByteArray) (ha:bd a) (H:View):aD Tryz.prog 180 [encS a,encS b] H fun r _=>r=gb (decide (a=b)):=by
  refine aD.of mixed gW ?_
  unfold bd at ha
  simp (disch:=omega) only [↓wr,↓reduceIte,wq,ai,ah,an,ab,ae,ag,aj,isNil,Nat.reduceEqDiff,Nat.reduceAdd,Nat.reduceLT,Nat.reduceLeDiff,Int.reduceNeg,Int.reduceToNat,reduceCtorEq,ee,encS]
  refine ar.ne (fun h=>?_) (fun h=>?_)
  · simp (disch:=omega) only [↓wr,↓reduceIte,wq,ai,ah,an,ab,ae,ag,aj,isNil,Nat.reduceEqDiff,Nat.reduceAdd,Nat.reduceLT,Nat.reduceLeDiff,Int.reduceNeg,Int.reduceToNat,reduceCtorEq]
    rw[decide_eq_false (tV (by omega))]
  · simp (disch:=omega) only [↓wr,↓reduceIte,wq,ai,ah,an,ab,ae,ag,aj,isNil,Nat.reduceEqDiff,Nat.reduceAdd,Nat.reduceLT,Nat.reduceLeDiff,Int.reduceNeg,Int.reduceToNat,reduceCtorEq]
    refine bJ.up a.length (fun i T _=>a.take i=b.take i∧T 0=encS a∧T 1=encS b∧T 12=gi a.length∧T 13=gi i) ⟨by simp,rfl,rfl,rfl,rfl⟩ ?_
    rintro i k T H hk ⟨hi,h0,h1,h7,h8⟩
    simp (disch:=omega) only [↓wr,↓reduceIte,wq,ai,ah,an,ab,ae,ag,aj,isNil,Nat.reduceEqDiff,Nat.reduceAdd,Nat.reduceLT,Nat.reduceLeDiff,Int.reduceNeg,Int.reduceToNat,reduceCtorEq,dO,h0,h1,h7,h8,encS]
    refine ar.dec (fun hc=>?_) (fun hc=>?_)
    · have h2:a[i]?=some (a[i]'(by omega)):=List.getElem?_eq_getElem (by omega)
      have h3:b[i]?=some (b[i]'(by omega)):=List.getElem?_eq_getElem (by omega)
      generalize a[i]'(by omega)=x at h2
      generalize b[i]'(by omega)=y at h3
      simp (disch:=omega) only [↓wr,↓reduceIte,wq,ai,ah,an,ab,ae,ag,aj,isNil,Nat.reduceEqDiff,Nat.reduceAdd,Nat.reduceLT,Nat.reduceLeDiff,Int.reduceNeg,Int.reduceToNat,reduceCtorEq,h0,h1,h7,h8,encS,List.getElem?_map,h2,h3,D2]
      refine ar.split (fun e=>?_) (fun e=>?_)
      · simp (disch:=omega) only [↓wr,↓reduceIte,wq,ai,ah,an,ab,ae,ag,aj,isNil,Nat.reduceEqDiff,Nat.reduceAdd,Nat.reduceLT,Nat.reduceLeDiff,Int.reduceNeg,Int.reduceToNat,reduceCtorEq,h0,h1,h7,h8]
        exact ca hk (by omega) ⟨sx h2 h3 hi (by simpa using e),h0,h1,h7,rfl⟩
      · simp (disch:=omega) only [↓wr,↓reduceIte,wq,ai,ah,an,ab,ae,ag,aj,isNil,Nat.reduceEqDiff,Nat.reduceAdd,Nat.reduceLT,Nat.reduceLeDiff,Int.reduceNeg,Int.reduceToNat,reduceCtorEq,h0,h1,h7,h8]
        rw[decide_eq_false (x3 h2 h3 (by simpa using e))]
    · simp (disch:=omega) only [↓wr,↓reduceIte,wq,ai,ah,an,ab,ae,ag,aj,isNil,Nat.reduceEqDiff,Nat.reduceAdd,Nat.reduceLT,Nat.reduceLeDiff,Int.reduceNeg,Int.reduceToNat,reduceCtorEq,h0,h1,h7,h8]
      rw[decide_eq_true (u6 (by omega) (by omega) hi)]
theorem Dg (a b:List Int) (ha:bd a) (H:View):aD Tryz.prog 224 [encI a,encI b] H fun r _=>r=gb (decide (a=b)):=by
  refine aD.of mixed kb ?_
  unfold bd at ha
  simp (disch:=omega) only [↓wr,↓reduceIte,wq,ai,ah,an,ab,ae,ag,aj,isNil,Nat.reduceEqDiff,Nat.reduceAdd,Nat.reduceLT,Nat.reduceLeDiff,Int.reduceNeg,Int.reduceToNat,reduceCtorEq,fX,encI]
  refine ar.ne (fun h=>?_) (fun h=>?_)
  · simp (disch:=omega) only [↓wr,↓reduceIte,wq,ai,ah,an,ab,ae,ag,aj,isNil,Nat.reduceEqDiff,Nat.reduceAdd,Nat.reduceLT,Nat.reduceLeDiff,Int.reduceNeg,Int.reduceToNat,reduceCtorEq]
    rw[decide_eq_false (tV (by omega))]
  · simp (disch:=omega) only [↓wr,↓reduceIte,wq,ai,ah,an,ab,ae,ag,aj,isNil,Nat.reduceEqDiff,Nat.reduceAdd,Nat.reduceLT,Nat.reduceLeDiff,Int.reduceNeg,Int.reduceToNat,reduceCtorEq]
    refine bJ.up a.length (fun i T _=>a.take i=b.take i∧T 0=encI a∧T 1=encI b∧T 12=gi a.length∧T 13=gi i) ⟨by simp,rfl,rfl,rfl,rfl⟩ ?_
    rintro i k T H hk ⟨hi,h0,h1,h7,h8⟩
    simp (disch:=omega) only [↓wr,↓reduceIte,wq,ai,ah,an,ab,ae,ag,aj,isNil,Nat.reduceEqDiff,Nat.reduceAdd,Nat.reduceLT,Nat.reduceLeDiff,Int.reduceNeg,Int.reduceToNat,reduceCtorEq,fh,h0,h1,h7,h8,encI]
    refine ar.dec (fun hc=>?_) (fun hc=>?_)
    · have h2:a[i]?=some (a[i]'(by omega)):=List.getElem?_eq_getElem (by omega)
      have h3:b[i]?=some (b[i]'(by omega)):=List.getElem?_eq_getElem (by omega)
      generalize a[i]'(by omega)=x at h2
      generalize b[i]'(by omega)=y at h3
      simp (disch:=omega) only [↓wr,↓reduceIte,wq,ai,ah,an,ab,ae,ag,aj,isNil,Nat.reduceEqDiff,Nat.reduceAdd,Nat.reduceLT,Nat.reduceLeDiff,Int.reduceNeg,Int.reduceToNat,reduceCtorEq,h0,h1,h7,h8,encI,List.getElem?_map,h2,h3]
      refine ar.ne (fun e=>?_) (fun e=>?_)
      · simp (disch:=omega) only [↓wr,↓reduceIte,wq,ai,ah,an,ab,ae,ag,aj,isNil,Nat.reduceEqDiff,Nat.reduceAdd,Nat.reduceLT,Nat.reduceLeDiff,Int.reduceNeg,Int.reduceToNat,reduceCtorEq,h0,h1,h7,h8]
        rw[decide_eq_false (x3 h2 h3 e)]
      · simp (disch:=omega) only [↓wr,↓reduceIte,wq,ai,ah,an,ab,ae,ag,aj,isNil,Nat.reduceEqDiff,Nat.reduceAdd,Nat.reduceLT,Nat.reduceLeDiff,Int.reduceNeg,Int.reduceToNat,reduceCtorEq,h0,h1,h7,h8]
        exact ca hk (by omega) ⟨sx h2 h3 hi e,h0,h1,h7,rfl⟩
    · simp (disch:=omega) only [↓wr,↓reduceIte,wq,ai,ah,an,ab,ae,ag,aj,isNil,Nat.reduceEqDiff,Nat.reduceAdd,Nat.reduceLT,Nat.reduceLeDiff,Int.reduceNeg,Int.reduceToNat,reduceCtorEq,h0,h1,h7,h8]
      rw[decide_eq_true (u6 (by omega) (by omega) hi)]
theorem Ew (a b:List Term) (ha:bd a):aA Tryz.prog 179 [.aS (a.map bN),.aS (b.map bN)] (gb (decide (a=b))):=aA.val (CV m5 m5) (Dy a b ha)
theorem DP (a b:List ByteArray) (ha:bd a):aA Tryz.prog 180 [encS a,encS b] (gb (decide (a=b))):=aA.val (by
  intro v hv; simp at hv
  rcases hv with rfl | rfl <;> exact rM _) (DL a b ha)
theorem Ec (a b:List Int) (ha:bd a):aA Tryz.prog 224 [encI a,encI b] (gb (decide (a=b))):=aA.val (by
  intro v hv; simp at hv
  rcases hv with rfl | rfl <;> exact rl _) (Dg a b ha)
theorem FB (x y:aZ) (hx:bd x.right):aA Tryz.prog 182 [.agg (aY x),.agg (aY y)] (gb (decide (x=y))):=by
  refine aA.val (by
    intro v hv; simp at hv
    rcases hv with rfl | rfl <;> exact cI _ (dw _)) fun H=>?_
  rw[E6]
  refine aD.of mixed wb ?_
  simp (disch:=omega) only [↓wr,↓reduceIte,wq,ai,ah,an,ab,ae,ag,aj,isNil,Nat.reduceEqDiff,Nat.reduceAdd,Nat.reduceLT,Nat.reduceLeDiff,Int.reduceNeg,Int.reduceToNat,reduceCtorEq,s0,aY,encI]
  repeat' (first | (refine ar.dec (fun _=>?_) (fun _=>?_)) | (refine ar.eq (fun _=>?_) (fun _=>?_)) | (refine ar.ne (fun _=>?_) (fun _=>?_)) | (refine ar.split (fun _=>?_) (fun _=>?_)) | (refine aJ.pure (Ec x.right y.right hx) (by kernel_rfl) ?_) | (simp (disch:=omega) only [↓wr,↓reduceIte,wq,ai,ah,an,ab,ae,ag,aj,isNil,Nat.reduceEqDiff,Nat.reduceAdd,Nat.reduceLT,Nat.reduceLeDiff,Int.reduceNeg,Int.reduceToNat,reduceCtorEq,aY]))
  all_goals simp[*]
theorem ym (a b:List aZ) (ha:bd a) (hr:∀ r∈a,bd r.right) (H:View):aD Tryz.prog 181 [.aS (a.map aY),.aS (b.map aY),.fn 182 [] []] H fun r _=>r=gb (decide (a=b)):=by
  refine aD.of mixed cP ?_
  unfold bd at ha
  simp (disch:=omega) only [↓wr,↓reduceIte,wq,ai,ah,an,ab,ae,ag,aj,isNil,Nat.reduceEqDiff,Nat.reduceAdd,Nat.reduceLT,Nat.reduceLeDiff,Int.reduceNeg,Int.reduceToNat,reduceCtorEq,bL]
  refine ar.ne (fun h=>?_) (fun h=>?_)
  · simp (disch:=omega) only [↓wr,↓reduceIte,wq,ai,ah,an,ab,ae,ag,aj,isNil,Nat.reduceEqDiff,Nat.reduceAdd,Nat.reduceLT,Nat.reduceLeDiff,Int.reduceNeg,Int.reduceToNat,reduceCtorEq]
    rw[decide_eq_false (tV (by omega))]
  · simp (disch:=omega) only [↓wr,↓reduceIte,wq,ai,ah,an,ab,ae,ag,aj,isNil,Nat.reduceEqDiff,Nat.reduceAdd,Nat.reduceLT,Nat.reduceLeDiff,Int.reduceNeg,Int.reduceToNat,reduceCtorEq]
    refine bJ.up a.length (fun i T _=>a.take i=b.take i∧T 15=.aS (a.map aY)∧T 1=.aS (b.map aY)∧T 2=.fn 182 [] []∧T 16=gi a.length∧T 17=gi i) ⟨by simp,rfl,rfl,rfl,rfl,rfl⟩ ?_
    rintro i k T H hk ⟨hi,h0,h1,h6,h7,h8⟩
    simp (disch:=omega) only [↓wr,↓reduceIte,wq,ai,ah,an,ab,ae,ag,aj,isNil,Nat.reduceEqDiff,Nat.reduceAdd,Nat.reduceLT,Nat.reduceLeDiff,Int.reduceNeg,Int.reduceToNat,reduceCtorEq,bI,h0,h1,h6,h7,h8]
    refine ar.dec (fun hc=>?_) (fun hc=>?_)
    · have h2:a[i]?=some (a[i]'(by omega)):=List.getElem?_eq_getElem (by omega)
      have h3:b[i]?=some (b[i]'(by omega)):=List.getElem?_eq_getElem (by omega)
      have hm:a[i]'(by omega)∈a:=List.getElem_mem _
      generalize a[i]'(by omega)=x at h2 hm
      generalize b[i]'(by omega)=y at h3
      have hsx:=hr x hm
      simp (disch:=omega) only [↓wr,↓reduceIte,wq,ai,ah,an,ab,ae,ag,aj,isNil,Nat.reduceEqDiff,Nat.reduceAdd,Nat.reduceLT,Nat.reduceLeDiff,Int.reduceNeg,Int.reduceToNat,reduceCtorEq,h0,h1,h6,h7,h8,List.getElem?_map,h2,h3,aY,encI]
      intro n hn
      try simp (disch:=omega) only [↓wr,↓reduceIte,wq,ai,ah,an,ab,ae,ag,aj,isNil,Nat.reduceEqDiff,Nat.reduceAdd,Nat.reduceLT,Nat.reduceLeDiff,Int.reduceNeg,Int.reduceToNat,reduceCtorEq,h0,h1,h6,h7,h8,List.getElem?_map,h2,h3,aY,encI]
      intro m hmd
      have hmn:=(dC hmd dG).1
      try simp (disch:=omega) only [↓wr,↓reduceIte,wq,ai,ah,an,ab,ae,ag,aj,isNil,Nat.reduceEqDiff,Nat.reduceAdd,Nat.reduceLT,Nat.reduceLeDiff,Int.reduceNeg,Int.reduceToNat,reduceCtorEq,h0,h1,h6,h7,h8,List.getElem?_map,h2,h3,aY,encI,hmn,hmn.symm]
      refine aJ.pure (FB x y hsx) (by kernel_rfl) ?_
      simp (disch:=omega) only [↓wr,↓reduceIte,wq,ai,ah,an,ab,ae,ag,aj,isNil,Nat.reduceEqDiff,Nat.reduceAdd,Nat.reduceLT,Nat.reduceLeDiff,Int.reduceNeg,Int.reduceToNat,reduceCtorEq,h0,h1,h6,h7,h8]
      refine ar.split (fun e=>?_) (fun e=>?_)
      · simp (disch:=omega) only [↓wr,↓reduceIte,wq,ai,ah,an,ab,ae,ag,aj,isNil,Nat.reduceEqDiff,Nat.reduceAdd,Nat.reduceLT,Nat.reduceLeDiff,Int.reduceNeg,Int.reduceToNat,reduceCtorEq,h0,h1,h6,h7,h8]
        exact ca hk (by omega) ⟨sx h2 h3 hi (by simpa using e),h0,h1,h6,h7,rfl⟩
      · simp (disch:=omega) only [↓wr,↓reduceIte,wq,ai,ah,an,ab,ae,ag,aj,isNil,Nat.reduceEqDiff,Nat.reduceAdd,Nat.reduceLT,Nat.reduceLeDiff,Int.reduceNeg,Int.reduceToNat,reduceCtorEq,h0,h1,h6,h7,h8]
        rw[decide_eq_false (x3 h2 h3 (by simpa using e))]
    · simp (disch:=omega) only [↓wr,↓reduceIte,wq,ai,ah,an,ab,ae,ag,aj,isNil,Nat.reduceEqDiff,Nat.reduceAdd,Nat.reduceLT,Nat.reduceLeDiff,Int.reduceNeg,Int.reduceToNat,reduceCtorEq,h0,h1,h6,h7,h8]
      rw[decide_eq_true (u6 (by omega) (by omega) hi)]
theorem zK (a b:List aZ) (ha:bd a) (hr:∀ r∈a,bd r.right):aA Tryz.prog 181 [.aS (a.map aY),.aS (b.map aY),.fn 182 [] []] (gb (decide (a=b))):=aA.val (by
  intro v hv; simp at hv
  rcases hv with rfl | rfl | rfl
  · exact eC _ _ fun x _=>dw x
  · exact eC _ _ fun x _=>dw x
  · exact vH (by simp) (by simp)) (ym a b ha hr)
theorem Fp (g k:aE) (hg:g.Ok):aA Tryz.prog 121 [.agg (aw g),.agg (aw k)] (gb (decide (g=k))):=by
  refine aA.val (CU g k) fun H=>?_
  rw[Fl]
  refine aD.of mixed xN ?_
  simp (disch:=omega) only [↓wr,↓reduceIte,wq,ai,ah,an,ab,ae,ag,aj,isNil,Nat.reduceEqDiff,Nat.reduceAdd,Nat.reduceLT,Nat.reduceLeDiff,Int.reduceNeg,Int.reduceToNat,reduceCtorEq,uU,aw,encS]
  repeat' (first | (refine ar.dec (fun _=>?_) (fun _=>?_)) | (refine ar.eq (fun _=>?_) (fun _=>?_)) | (refine ar.ne (fun _=>?_) (fun _=>?_)) | (refine ar.split (fun _=>?_) (fun _=>?_)) | (refine aJ.pure (Ew g.az k.az hg.az) (by kernel_rfl) ?_) | (refine aJ.pure (DP g.aK k.aK hg.aK) (by kernel_rfl) ?_) | (refine aJ.pure (zK g.rules k.rules hg.rules (fun r hr=>(hg.bg r hr).2.2.1)) (by kernel_rfl) ?_) | (simp (disch:=omega) only [↓wr,↓reduceIte,wq,ai,ah,an,ab,ae,ag,aj,isNil,Nat.reduceEqDiff,Nat.reduceAdd,Nat.reduceLT,Nat.reduceLeDiff,Int.reduceNeg,Int.reduceToNat,reduceCtorEq,aw,encS]))
  all_goals simp_all [GI]
def xy:SF:=⟨.seq (ao [bu 1 0,aM 2 false]) <|
  .seq (ao [aG 7 4 1,aB 8 120 [7],aa 6 8,bA 9 0 6,bA 10 1 6,bA 11 2 6,((some 3),.op (.alloc [(.emp 1),(.emp 1),(.emp 1),(.val (.int .i64 0))])),(none,.op (.store 4 (.tmp 3) (.tmp 9))),aa 4 10,aa 5 11]) <|
  .seq (.region false [⟨none,[aa 12 5,aq 13 .eql 12 0,aa 14 13]⟩,⟨(some (14,true)),[aG 15 4 1,aG 16 4 3,aB 17 121 [15,16]]⟩,⟨none,[bf 18 14 17,aa 2 18]⟩]) <|
  .ret,
  [.tmp 2],19⟩
theorem yd:bb Tryz.prog 73 [1]=some xy:=by kernel_rfl
theorem GV (g:aE) (hg:g.Ok) (hs:g.Small):aA Tryz.prog 73 [.agg (aw g)] (gb (isRed g)):=by
  refine aA.val (fF g) fun H=>?_
  refine aD.of mixed yd ?_
  simp (disch:=omega) only [↓wr,↓reduceIte,wq,ai,ah,an,ab,ae,ag,aj,isNil,Nat.reduceEqDiff,Nat.reduceAdd,Nat.reduceLT,Nat.reduceLeDiff,Int.reduceNeg,Int.reduceToNat,reduceCtorEq,xy,aw,encS]
  refine aJ.pure (Cb g hg hs).pure (by kernel_rfl) ?_
  unfold isRed
  generalize kd g=x
  obtain ⟨k,il,e⟩:=x
  simp (disch:=omega) only [↓wr,↓reduceIte,wq,ai,ah,an,ab,ae,ag,aj,isNil,Nat.reduceEqDiff,Nat.reduceAdd,Nat.reduceLT,Nat.reduceLeDiff,Int.reduceNeg,Int.reduceToNat,reduceCtorEq,wx,aw,encS]
  intro n hn
  refine ar.eq (fun h=>?_) (fun h=>?_)
  · simp (disch:=omega) only [↓wr,↓reduceIte,wq,ai,ah,an,ab,ae,ag,aj,isNil,Nat.reduceEqDiff,Nat.reduceAdd,Nat.reduceLT,Nat.reduceLeDiff,Int.reduceNeg,Int.reduceToNat,reduceCtorEq,wx,aw,encS]
    refine aJ.pure (Fp g k hg) (by kernel_rfl) ?_
    simp (disch:=omega) only [↓wr,↓reduceIte,wq,ai,ah,an,ab,ae,ag,aj,isNil,Nat.reduceEqDiff,Nat.reduceAdd,Nat.reduceLT,Nat.reduceLeDiff,Int.reduceNeg,Int.reduceToNat,reduceCtorEq]
    simp[h]
  · simp (disch:=omega) only [↓wr,↓reduceIte,wq,ai,ah,an,ab,ae,ag,aj,isNil,Nat.reduceEqDiff,Nat.reduceAdd,Nat.reduceLT,Nat.reduceLeDiff,Int.reduceNeg,Int.reduceToNat,reduceCtorEq]
    simp[h]
def Hs:aE:=⟨[⟨⟨#[39,97,39]⟩,0,0⟩,⟨⟨#[39,98,39]⟩,0,0⟩,⟨⟨#[39,99,39]⟩,0,0⟩,⟨⟨#[39,100,39]⟩,0,0⟩],[⟨#[115]⟩,⟨#[117]⟩,⟨#[118]⟩],[⟨0,[0,(-2)],0⟩,⟨0,[1],1⟩,⟨0,[],(-1)⟩,⟨1,[(-2),2],2⟩,⟨2,[3,(-1)],3⟩],0⟩
def G2:aE:=⟨Hs.az,[⟨#[115]⟩],[⟨0,[1],1⟩,⟨0,[],(-1)⟩],0⟩
theorem jT:isRed G2=true:=by kernel_rfl
section
variable {κ:Type} [BEq κ] [LawfulBEq κ] {kv:κ→V}
variable {P:Program} {T:Env} {H:View} {kt et t ty:TypeId}
end
def FU:List Int:=[37,37,32,115,32,58,32,39,97,39,32,115,32,124,32,59]
def kz:aE:=⟨[⟨⟨#[39,97,39]⟩,0,0⟩],[⟨#[115]⟩],[⟨0,[0,(-1)],0⟩,⟨0,[],(-1)⟩],0⟩
theorem Hv:cF Tryz.prog 52 [tn FU] (l5 kz):=AL (by kernel_rfl)
section
variable {g:aE} {p:List Int} {T:Tb} {N:Nat}
end
section
variable {g r:aE} {p q:List Bool} {o:List Int}
end
section
variable {fit:List Int→Bool} {T b:Nat}
end
section
variable {P:Program} {T:Env} {H:View} {K:V→View→Prop} {w:bP (T,H,K)} {t t1 e ty:TypeId}
end
end Gv
