/-
  Part 11 of the proof: what the machine does and what the functions answer.
  Conditions: those that each lemma names.
-/
import Derived.ProofKit
import Derived.SizedLaws
import Derived.Test.YtkkdjpnkhhlnpaaGreatSGzA1J
set_option linter.unusedSimpArgs false
set_option linter.unusedVariables false
set_option maxRecDepth 100000
namespace Gv
open Go Go.Proofs
def ri (hp:Array Obj) (cs:List Value) (vs:List V):Prop :=
  vs.length=cs.length∧∀ μ i,i < vs.length→au (fun b=>b < hp.size) μ hp (vs.getD i .any) (cs.getD i undef)
def Wt {H:Type} (P:Program) (t:TypeId) (d:DataW H):Prop:=∀ n∈d.weights P t,n≤reachBytes
def nT (P:Program) (t:TypeId) {α:Type} (f:α→List V) (ok:α→Prop):Prop :=
  ∀ {H:Type} (enc:TypeId × Value→H) (w:World) (base:Nat) (sp:Nat→Bool) (held:Bool) (fuel:Nat) (cs:List Value) (x:DataW H × List MemPlace),
    DataW.trod enc P w base sp held fuel t cs=some x→Wt P t x.1→∃ a,ok a∧ri w.heap cs (f a)
theorem pX {hp:Array Obj} {c:Value} {v:V} (h:∀ μ,au (fun b=>b < hp.size) μ hp v c):ri hp [c] [v]:=by
  refine ⟨rfl,fun μ i hi=>?_⟩
  match i,hi with
  | 0,_=>exact h μ
theorem Hu {P:Program} {t:TypeId} {k:IntKind} (ht:P.underlying t=some (.int k)):nT P t (fun n=>[.val (.int k n)]) (fun n=>(Lit.int k n).wf=true):=by
  intro H enc w base sp held fuel cs x h _
  obtain ⟨n,rfl,_,hw⟩:=DataW.trod_int ht h
  exact ⟨n,hw,pX fun μ=>.val _ rfl⟩
theorem x7 {P:Program} {t:TypeId} (ht:P.underlying t=some .string):nT P t (fun s=>[.val (.string s)]) (fun _=>True):=by
  intro H enc w base sp held fuel cs x h _
  obtain ⟨s,rfl,_,_⟩:=DataW.trod_string ht h
  exact ⟨s,trivial,pX fun μ=>.val _ rfl⟩
theorem yF {w:World} {base:Nat} {a:Addr} {n:Nat} {cs:List Value} (h:w.cells? base a n=some cs):cs.length=n∧∀ i,i < n→w.cell? (a.add i)=some (cs.getD i undef):=by
  obtain ⟨_,h2,h3⟩:=World.cells?_some h
  refine ⟨h2,fun i hi=>?_⟩
  rw[h3 i hi,List.getD_eq_getElem?_getD,List.getElem?_eq_getElem (by omega)]
  rfl
theorem E5 {w:World} {a:Addr} {v:Value} (h:w.cell? a=some v):a.spot=none∧a.block < w.heap.size:=by
  unfold World.cell? at h
  split at h
  · rename_i c _ _ hb
    split at h
    · simp at h
    · rename_i hs
      exact ⟨by simpa using hs,(Array.getElem?_eq_some_iff.1 hb).1⟩
  · simp at h
theorem DQ {H:Type} {P:Program} {e:TypeId} : ∀ {l:List (DataW H)},(∀ n∈DataW.weightsAll P e l,n≤reachBytes)→∀ d∈l,Wt P e d
  | [],_,d,hd=>by simp at hd
  | x :: l,h,d,hd=>by
    simp only[DataW.weightsAll,List.mem_append] at h
    rcases List.mem_cons.1 hd with rfl | hd
    · exact fun n hn=>h n (.inl hn)
    · exact DQ (fun n hn=>h n (.inr hn)) d hd
theorem FF {H:Type} {P:Program} {t e:TypeId} {elems spare:List (DataW H)} (ht:P.underlying t=some (.slice e)) (h:Wt P t (.slice elems spare)) :
    (elems.length+spare.length) * P.bytesOf e≤reachBytes∧∀ d∈elems,Wt P e d:=by
  unfold Wt at h
  unfold DataW.weights at h
  rw[ht] at h
  simp only[List.mem_cons,List.mem_append] at h
  exact ⟨h _ (.inl rfl),DQ fun n hn=>h n (.inr (.inl hn))⟩
theorem Et {H:Type} {P:Program} {t:TypeId} {fs:Array Field} {parts:List (DataW H)} (ht:P.underlying t=some (.struct fs)) (h:Wt P t (.agg parts)) {j:Nat} {f:Field} {d:DataW H} (hf:fs[j]?=some f) (hd:parts[j]?=some d):Wt P f.type d:=by
  intro n hn
  refine h n ?_
  unfold DataW.weights
  rw[ht]
  exact DataW.weights_mem_each (j:=j) (t:=f.type) (by simp[hf]) hd n hn
theorem BC {α:Type} {φ:Nat→α→Prop} : ∀ (n:Nat),(∀ i,i < n→∃ a,φ i a)→∃ l:List α,l.length=n∧∀ i (hi:i < l.length),φ i l[i]
  | 0,_=>⟨[],rfl,fun i hi=>by simp at hi⟩
  | n+1,h=>by
    obtain ⟨l,hl,hφ⟩:=BC n fun i hi=>h i (by omega)
    obtain ⟨a,ha⟩:=h n (by omega)
    refine ⟨l ++ [a],by simp[hl],fun i hi=>?_⟩
    by_cases e:i < l.length
    · rw[List.getElem_append_left e]; exact hφ i e
    · have:i=n:=by simp at hi; omega
      subst this
      rw[List.getElem_append_right (by omega)]
      simp only[hl,Nat.sub_self,List.getElem_cons_zero]; exact ha
theorem iw {P:Program} {t e:TypeId} {α:Type} {f:α→List V} {ok:α→Prop} (ht:P.underlying t=some (.slice e)) (hc:0 < P.cellsOf e) (hb:0 < P.bytesOf e) (he:nT P e f ok) :
    nT P t (fun l:List α=>[.aP (l.map f)]) (fun l=>l.length < 4611686018427387904∧∀ a∈l,ok a):=by
  intro H enc w base sp held fuel cs x h hw
  rcases DataW.trod_slice ht h with ⟨rfl,rfl⟩ | ⟨a,len,cap,elems,rest,n,_,rfl,rfl,hba,hl,hm,hlen,hel,_,_⟩
  · exact ⟨[],⟨by simp,by simp⟩,pX fun μ=>.ej none 0 (by simp)⟩
  obtain ⟨hw1,hw2⟩:=FF ht hw
  simp only[List.length_map] at hw1
  have hlt:len < 4611686018427387904:=by
    have h1:len * 1≤(elems.length+rest.length) * P.bytesOf e:=Nat.mul_le_mul (by omega) hb
    unfold reachBytes at hw1
    omega
  have each:∀ i,i < len→∃ y,ok y∧∃ ci,w.cells? base (a.add (i * P.cellsOf e)) (P.cellsOf e)=some ci∧ri w.heap ci (f y):=by
    intro i hi
    have h1:=hel i hi
    have h2:elems[i]?=some (elems[i]'(by omega)):=List.getElem?_eq_getElem (by omega)
    have hmem:elems[i]'(by omega)∈elems:=List.getElem_mem _
    rw[h2,Option.bind_eq_some_iff] at h1
    obtain ⟨ci,h3,h4⟩:=h1
    obtain ⟨y,h5,h6⟩:=he enc w base sp held n ci _ h4 (hw2 _ (List.mem_map.2 ⟨_,hmem,rfl⟩))
    exact ⟨y,h5,ci,h3,h6⟩
  obtain ⟨l,hll,hφ⟩:=BC len each
  subst hll
  refine ⟨l,⟨hlt,fun y hy=>?_⟩,pX fun μ=>?_⟩
  · obtain ⟨i,hi,rfl⟩:=List.getElem_of_mem hy
    exact (hφ i hi).1
  by_cases h0:l=[]
  · subst h0
    exact .ej (some a) cap (by simp)
  have hpos:0 < l.length:=List.length_pos_iff.2 h0
  have hcell:∀ i j,i < l.length→j < P.cellsOf e→∃ c,cellAt w.heap a.block (a.off+i * P.cellsOf e+j)=some c∧a.block < w.heap.size∧(i=0→j=0→a.spot=none)∧∀ (hi:i < l.length),au (fun b=>b < w.heap.size) μ w.heap ((f l[i]).getD j .any) c:=by
    intro i j hi hj
    obtain ⟨_,ci,h1,h2⟩:=hφ i hi
    obtain ⟨h3,h4⟩:=yF h1
    have h5:=h4 j hj
    have h6:=E5 h5
    have hbk:((a.add (i * P.cellsOf e)).add j).block=a.block:=by simp only[Addr.add]; split <;> split <;> rfl
    have hof:((a.add (i * P.cellsOf e)).add j).off=a.off+i * P.cellsOf e+j:=by
      simp only[Addr.add]; split <;> split <;> simp_all
    refine ⟨ci.getD j undef,?_,by rw[← hbk]; exact h6.2,?_,fun _=>?_⟩
    · rw[← hof,← hbk,← mA]
      rw[← h5]
      congr 1
      generalize (a.add (i * P.cellsOf e)).add j=b at h6
      cases b
      simp at h6 ⊢
      exact h6.1.symm
    · rintro rfl rfl
      simp[Addr.add] at h6
      exact h6.1
    · exact h2.2 μ j (by rw[h2.1,h3]; exact hj)
  obtain ⟨_,_,hz,hs,_⟩:=hcell 0 0 hpos hc
  have ha:a=⟨a.block,a.off,none⟩:=by
    cases a; simp at hs ⊢; exact hs
  have hlf:∀ i,i < l.length→(f (l[i]?.getD (l[0]'hpos))).length=P.cellsOf e:=fun i hi=>by
    obtain ⟨_,ci,h1,h2⟩:=hφ i hi
    rw[List.getElem?_eq_getElem hi,Option.getD_some,h2.1,(yF h1).1]
  have hgd:∀ i (hi:i < l.length),(l.map f).getD i []=f l[i]:=fun i hi=>by simp[List.getD_eq_getElem?_getD,hi]
  have hcl:(l.map f).length=l.length:=by simp
  have:=au.aP (Z:=fun b=>b < w.heap.size) (μ:=μ) (hp:=w.heap) (l.map f) a.block a.off (P.cellsOf e) cap (fun i j=>(cellAt w.heap a.block (a.off+i * P.cellsOf e+j)).getD undef) hz (by rw[hcl]; exact hl)
    (fun i hi=>by
      rw[hcl] at hi
      have:=hlf i hi
      rw[List.getElem?_eq_getElem hi,Option.getD_some] at this
      rw[hgd i hi]; exact this)
    (fun i j hi hj=>by
      rw[hcl] at hi
      obtain ⟨c,h1,_⟩:=hcell i j hi hj
      rw[h1]; rfl)
    (fun i j hi hj=>by
      rw[hcl] at hi
      obtain ⟨c,h1,_,_,h2⟩:=hcell i j hi hj
      rw[h1,hgd i hi]; exact h2 hi)
  rw[hcl,← ha] at this
  exact this
theorem kX {P:Program} {t:TypeId} {fs:Array Field} (ht:P.underlying t=some (.struct fs)) (hf:∀ (i:Nat) (f:Field),fs[i]?=some f→f.offset=i∧P.cellsOf f.type=1) (hn:P.cellsOf t=fs.size)
    {H:Type} {enc:TypeId × Value→H} {w:World} {base:Nat} {sp:Nat→Bool} {held:Bool} {fuel:Nat} {cs:List Value} {x:DataW H × List MemPlace} (h:DataW.trod enc P w base sp held fuel t cs=some x) (hw:Wt P t x.1) :
    cs.length=fs.size∧∀ (i:Nat) (f:Field),fs[i]?=some f→∀ {α:Type} {g:α→List V} {ok:α→Prop},nT P f.type g ok→∃ a,ok a∧ri w.heap [cs.getD i undef] (g a):=by
  obtain ⟨xs,n,rfl,rfl,hl,hlen,hx⟩:=DataW.trod_struct ht h
  refine ⟨by rw[hl,hn],fun i f hi α g ok hr=>?_⟩
  obtain ⟨h1,h2⟩:=hf i f hi
  have hi2:i < fs.size:=(Array.getElem?_eq_some_iff.1 hi).1
  have h3:=hx i f hi
  have h4:xs[i]?=some (xs[i]'(by omega)):=List.getElem?_eq_getElem (by omega)
  rw[h4,h1,h2] at h3
  have h5:(cs.drop i).take 1=[cs.getD i undef]:=by
    rw[List.getD_eq_getElem?_getD,List.getElem?_eq_getElem (by omega),List.drop_eq_getElem_cons (by omega)]
    rfl
  rw[h5] at h3
  exact hr enc w base sp held n _ _ h3 (Et ht hw hi (by simp[h4]))
theorem cE {hp:Array Obj} {c:Value} {cs:List Value} {v:V} {vs:List V} (h:ri hp [c] [v]) (k:ri hp cs vs):ri hp (c :: cs) (v :: vs):=by
  refine ⟨by simp[k.1],fun μ i hi=>?_⟩
  cases i with
  | zero=>exact h.2 μ 0 (by simp)
  | succ i=>exact k.2 μ i (by simpa using hi)
theorem mO {hp:Array Obj} : ri hp [] []:=⟨rfl,fun μ i hi=>by simp at hi⟩
theorem Hb {n:Int} (h:(Lit.int .i64 n).wf=true):cm n:=by
  simp only[Lit.wf,Bool.and_eq_true,decide_eq_true_eq] at h
  exact h
theorem gx:nT Tryz.prog 3 (fun n=>[gi n]) cm:=fun enc w base sp held fuel cs x h hw=>by
  obtain ⟨n,h1,h2⟩:=Hu Tryz.underlying3 enc w base sp held fuel cs x h hw
  exact ⟨n,Hb h1,h2⟩
theorem A9:nT Tryz.prog 27 (fun l:List Int=>[encI l]) (fun l=>aU l∧∀ x∈l,cm x) :=
  iw Tryz.underlying27 (of_decide_eq_true (by kernel_rfl)) (of_decide_eq_true (by kernel_rfl)) gx
theorem Cq:nT Tryz.prog 23 (fun l:List ByteArray=>[encS l]) (fun l=>aU l∧∀ x∈l,True) :=
  iw Tryz.underlying23 (of_decide_eq_true (by kernel_rfl)) (of_decide_eq_true (by kernel_rfl)) (x7 Tryz.underlying9)
theorem Il {cs:List Value} (h:cs.length=3):cs=[cs.getD 0 undef,cs.getD 1 undef,cs.getD 2 undef]:=by
  match cs,h with
  | [a,b,c],_=>rfl
theorem Jg {cs:List Value} (h:cs.length=4):cs=[cs.getD 0 undef,cs.getD 1 undef,cs.getD 2 undef,cs.getD 3 undef]:=by
  match cs,h with
  | [a,b,c,d],_=>rfl
theorem GM:nT Tryz.prog 134 cr (fun t=>cm t.level∧cm t.assoc):=fun enc w base sp held fuel cs x h hw=>by
  obtain ⟨hl,hf⟩:=kX Tryz.underlying134 (by
    intro i f hi
    match i,hi with
    | 0,hi=>simp at hi; subst hi; exact ⟨rfl,by kernel_rfl⟩
    | 1,hi=>simp at hi; subst hi; exact ⟨rfl,by kernel_rfl⟩
    | 2,hi=>simp at hi; subst hi; exact ⟨rfl,by kernel_rfl⟩
    | n+3,hi=>simp at hi) (by kernel_rfl) h hw
  obtain ⟨a,_,h1⟩:=hf 0 _ rfl (x7 Tryz.underlying9)
  obtain ⟨b,h2,h3⟩:=hf 1 _ rfl gx
  obtain ⟨c,h4,h5⟩:=hf 2 _ rfl gx
  refine ⟨⟨a,b,c⟩,⟨h2,h4⟩,?_⟩
  rw[Il hl]
  exact cE h1 (cE h3 (cE h5 mO))
theorem GP:nT Tryz.prog 98 bc (fun r=>cm r.left∧cm r.prec∧aU r.right∧∀ x∈r.right,cm x):=fun enc w base sp held fuel cs x h hw=>by
  obtain ⟨hl,hf⟩:=kX Tryz.underlying98 (by
    intro i f hi
    match i,hi with
    | 0,hi=>simp at hi; subst hi; exact ⟨rfl,by kernel_rfl⟩
    | 1,hi=>simp at hi; subst hi; exact ⟨rfl,by kernel_rfl⟩
    | 2,hi=>simp at hi; subst hi; exact ⟨rfl,by kernel_rfl⟩
    | n+3,hi=>simp at hi) (by kernel_rfl) h hw
  obtain ⟨a,h0,h1⟩:=hf 0 _ rfl gx
  obtain ⟨b,h2,h3⟩:=hf 1 _ rfl A9
  obtain ⟨c,h4,h5⟩:=hf 2 _ rfl gx
  refine ⟨⟨a,b,c⟩,⟨h0,h4,h2.1,h2.2⟩,?_⟩
  rw[Il hl]
  exact cE h1 (cE h3 (cE h5 mO))
theorem He:nT Tryz.prog 26 aw aH.Ok:=fun enc w base sp held fuel cs x h hw=>by
  obtain ⟨hl,hf⟩:=kX Tryz.underlying26 (by
    intro i f hi
    match i,hi with
    | 0,hi=>simp at hi; subst hi; exact ⟨rfl,by kernel_rfl⟩
    | 1,hi=>simp at hi; subst hi; exact ⟨rfl,by kernel_rfl⟩
    | 2,hi=>simp at hi; subst hi; exact ⟨rfl,by kernel_rfl⟩
    | 3,hi=>simp at hi; subst hi; exact ⟨rfl,by kernel_rfl⟩
    | n+4,hi=>simp at hi) (by kernel_rfl) h hw
  obtain ⟨a,h0,h1⟩:=hf 0 _ rfl (iw Tryz.underlying22 (of_decide_eq_true (by kernel_rfl)) (of_decide_eq_true (by kernel_rfl)) GM)
  obtain ⟨b,h2,h3⟩:=hf 1 _ rfl Cq
  obtain ⟨c,h4,h5⟩:=hf 2 _ rfl (iw Tryz.underlying24 (of_decide_eq_true (by kernel_rfl)) (of_decide_eq_true (by kernel_rfl)) GP)
  obtain ⟨d,h6,h7⟩:=hf 3 _ rfl gx
  refine ⟨⟨a,b,c,d⟩,⟨h0.1,h2.1,h4.1,h6,h0.2,h4.2⟩,?_⟩
  rw[Jg hl]
  exact cE h1 (cE h3 (cE h5 (cE h7 mO)))
def nP:SC :=
  .seq (ao [aF 44 .lss 43 42]) <|
  .seq (.cond (.tmp 44) (.skip) (.exit 0)) <|
  .seq (.block 1 (.seq (ao [aa 45 43,aJ 46 3 41 43,aG 47 3 46,((some 11),.op (.alloc [(.val (.int .i64 0)),(.emp 1),(.val (.int .i64 0))])),aa 10 45,(none,.op (.store 3 (.tmp 11) (.tmp 47)))]) <|
  .seq (.seq (.region false [⟨none,[aa 48 6,al 49 0 11,ak 50 49,aJ 51 1 48 50,ak 52 51,bC 53 52,aa 54 53]⟩,⟨(some (54,false)),[aG 55 3 11,aa 56 5,aB 57 177 [55,56],bC 58 57]⟩,⟨none,[aX 59 54 58]⟩]) <|
  .cond (.tmp 59) (.exit 1) (.skip)) <|
  .seq (ao [aa 60 7,aa 61 10,((some 62),.op (.bf 1 1 [(.val (.int .i64 0))] [(0,(.tmp 61))])),((some 63),.op (.app 1 8 (.tmp 60) (.tmp 62))),aa 7 63]) <|
  .seq (ao [aa 65 9,al 66 0 11,ak 67 66,((some 68),.op (.old (.lookup 236 (.tmp 65) (.tmp 67) true) 52)),aa 64 68,bE 69 0 64,bE 70 1 64,aa 12 69,aa 13 70]) <|
  .seq (ao [aa 71 13,bC 72 71]) <|
  .cond (.tmp 72) (.seq (ao [aa 73 9,al 74 0 11,ak 75 74,al 76 1 8,ak 77 76,aC 78 77,(none,.op (.old (.mapUpdate 236 (.tmp 73) (.tmp 75) (.tmp 78)) 0))]) <|
  .region false [⟨none,[al 79 1 8,ak 80 79,al 81 1 1,ak 82 81,al 83 0 11,ak 84 83,aJ 85 1 82 84,ak 86 85,((some 87),.op (.bf 1 1 [(.val (.string ⟨#[]⟩))] [(0,(.tmp 86))])),((some 88),.op (.app 1 16 (.tmp 80) (.tmp 87))),al 89 1 8,(none,.op (.store 1 (.tmp 89) (.tmp 88)))]⟩]) (.skip))) <|
  ao [aq 90 .add 43 1,aa 43 90]
def nR:SC :=
  .seq (ao [aF 116 .lss 115 114]) <|
  .seq (.cond (.tmp 116) (.skip) (.exit 4)) <|
  .seq (.block 5 (.seq (ao [aa 117 115,aJ 118 1 113 115,ak 119 118,aa 18 117,aa 19 119]) <|
  .seq (ao [aa 120 19,aq 121 .lss 120 0]) <|
  .cond (.tmp 121) (ao [al 122 1 17,ak 123 122,aa 124 18,aa 125 9,aa 126 19,((some 127),.op (.arith .sub (.val (.val (.int .i64 (-1)))) (.tmp 126))),((some 128),.op (.old (.lookup 236 (.tmp 125) (.tmp 127) false) 3)),((some 129),.op (.arith .sub (.val (.val (.int .i64 (-1)))) (.tmp 128))),aJ 130 1 123 124,(none,.op (.store 1 (.tmp 130) (.tmp 129)))]) (.skip))) <|
  ao [aq 131 .add 115 1,aa 115 131]
def nj:SC :=
  .seq (ao [aF 94 .lss 93 92]) <|
  .seq (.cond (.tmp 94) (.skip) (.exit 2)) <|
  .seq (.block 3 (.seq (ao [aJ 95 1 91 93,ak 96 95,aa 15 96]) <|
  .seq (ao [al 97 2 1,ak 98 97,aa 99 15,aJ 100 3 98 99,aG 101 3 100,((some 16),.op (.alloc [(.val (.int .i64 0)),(.emp 1),(.val (.int .i64 0))])),(none,.op (.store 3 (.tmp 16) (.tmp 101)))]) <|
  .seq (.region true [⟨none,[aa 102 9,al 103 0 16,ak 104 103,((some 105),.op (.old (.lookup 236 (.tmp 102) (.tmp 104) false) 3)),al 106 1 16,ak 107 106,aB 108 178 [107],al 109 2 16,ak 110 109,((some 111),.op (.build [(.val (.int .i64 0)),(.emp 1),(.val (.int .i64 0))] [(0,1,(.tmp 105)),(1,1,(.tmp 108)),(2,1,(.tmp 110))])),((some 17),.op (.alloc [(.val (.int .i64 0)),(.emp 1),(.val (.int .i64 0))])),(none,.op (.store 3 (.tmp 17) (.tmp 111)))]⟩]) <|
  .seq (.seq (ao [al 112 1 17,ak 113 112,aC 114 113,ay 115 0]) <|
  .block 4 (.loop nR)) <|
  ao [al 132 2 8,ak 133 132,aG 134 3 17,((some 135),.op (.bf 1 3 [(.val (.int .i64 0)),(.emp 1),(.val (.int .i64 0))] [(0,(.tmp 134))])),((some 136),.op (.app 3 40 (.tmp 133) (.tmp 135))),al 137 2 8,(none,.op (.store 1 (.tmp 137) (.tmp 136)))])) <|
  ao [aq 138 .add 93 1,aa 93 138]
def qI:SF:=⟨.seq (ao [bo 1 0,((some 2),.op (.alloc [(.emp 1),(.emp 1),(.emp 1),(.val (.int .i64 0))])),((some 3),.op (.aW (.val (.emp 1)))),ay 4 0]) <|
  .seq (.seq (ao [aG 20 4 1,aB 21 64 [20],bC 22 21]) <|
  .cond (.tmp 22) (.seq (ao [((some 23),.op (.build [(.emp 1),(.emp 1),(.emp 1),(.val (.int .i64 0))] [])),(none,.op (.store 4 (.tmp 2) (.tmp 23))),((some 3),.op (.aW (.val (.emp 1)))),ay 4 1]) <|
  .ret) (.skip)) <|
  .seq (.region true [⟨none,[aG 24 4 1,aB 25 174 [24],aG 26 4 1,aB 27 175 [26],aa 5 25,aa 6 27]⟩]) <|
  .seq (.seq (ao [aa 28 5,al 29 3 1,ak 30 29,aJ 31 1 28 30,ak 32 31,bC 33 32]) <|
  .cond (.tmp 33) (.seq (ao [((some 34),.op (.build [(.emp 1),(.emp 1),(.emp 1),(.val (.int .i64 0))] [])),(none,.op (.store 4 (.tmp 2) (.tmp 34))),((some 3),.op (.aW (.val (.emp 1)))),ay 4 9]) <|
  .ret) (.skip)) <|
  .seq (ao [((some 7),.op (.aW (.val (.emp 1))))]) <|
  .seq (ao [al 35 0 1,ak 36 35,aB 37 176 [36],((some 38),.op (.build [(.emp 1),(.emp 1),(.emp 1),(.val (.int .i64 0))] [(0,1,(.tmp 37))])),((some 8),.op (.alloc [(.emp 1),(.emp 1),(.emp 1),(.val (.int .i64 0))])),(none,.op (.store 4 (.tmp 8) (.tmp 38)))]) <|
  .seq (ao [((some 39),.op (.ju)),aa 9 39]) <|
  .seq (.seq (ao [al 40 2 1,ak 41 40,aC 42 41,ay 43 0]) <|
  .block 0 (.loop nP)) <|
  .seq (.seq (ao [aa 91 7,aC 92 91,ay 93 0]) <|
  .block 2 (.loop nj)) <|
  .seq (ao [aa 139 9,al 140 3 1,ak 141 140,((some 142),.op (.old (.lookup 236 (.tmp 139) (.tmp 141) false) 3)),al 143 3 8,(none,.op (.store 1 (.tmp 143) (.tmp 142)))]) <|
  .seq (ao [aG 144 4 8,aa 145 7,(none,.op (.store 4 (.tmp 2) (.tmp 144))),aa 3 145,ay 4 0]) <|
  .ret,
  [.cell 2 (some 4),.tmp 3,.tmp 4],146⟩
theorem tP:aY Tryz.prog 120 [1]=some qI:=by kernel_rfl
abbrev rF (m:eM Int):List (V × V × Nat):=cU (Value.int .i64) m
def HP (g:aH) (p q:List Bool) (b2 b8 b9:Nat) (u0:V) (i:Nat) (T:Env) (H:View):Prop :=
  (∃ u1 u3:V,T 7=u3∧(∀ x∈cD p q (g.rules.take i),0≤x∧x < g.aM.length)∧(cD p q (g.rules.take i)).length≤i ∧
    bu H [(.sl b8 0 1 4,4,[[u0,u1,.emp 1,gi 0]]),(u3,1,gg (cx p q (g.rules.take i) 0)),
      (u1,1,nC ((cD p q (g.rules.take i)).map fun x=>g.aM.getD x.toNat ⟨#[]⟩)),(u0,3,g.aE.map cr),(.sl b2 0 1 4,4,[[.emp 1,.emp 1,.emp 1,gi 0]])] ∧
    ∃ m c,H b9=.map (rF m) c∧jr gi (fC (cD p q (g.rules.take i)) 0) m) ∧
  T 1=.aN (aw g) 0∧T 2=.ptr b2 0 0∧T 5=cB p∧T 6=cB q∧T 8=.ptr b8 0 0∧T 9=.mp b9∧T 41=.aP (g.rules.map bc)∧T 42=gi g.rules.length∧T 43=gi i
theorem wK {α:Type} {x s:α} : ∀ {a d:List α} {k:Nat},a.length=k→(a ++ s :: d).set k x=a ++ x :: d
  | [],d,k,h=>by simp at h; subst h; rfl
  | y :: a,d,k,h=>by
    cases k with
    | zero=>simp at h
    | succ k=>simp only[List.cons_append,List.set_cons_succ]; rw[wK (by simpa using h)]
def It (g:aH) (p q:List Bool) (b2 b8 b9:Nat) (u0 u1 u3:V) (o kl:List Int) (mm:eM Int) (cc:Nat) (i:Nat) (T:Env) (H:View):Prop :=
  (∃ (u2:V) (bs:u7),bs.map (·.2)=((g.rules.filter (cF p q)).take i).map (cw (b7 o)) ∧
    bu H ((.sl b8 0 1 4,4,[[u0,u1,u2,gi 0]]) :: (u3,1,gg kl) ::
      (u1,1,nC (o.map fun x=>g.aM.getD x.toNat ⟨#[]⟩)) :: (u0,3,g.aE.map cr) :: (u2,3,gq bs) :: (.sl b2 0 1 4,4,[[.emp 1,.emp 1,.emp 1,gi 0]]) :: oV bs) ∧
    H b9=.map (rF mm) cc) ∧
  T 1=.aN (aw g) 0∧T 2=.ptr b2 0 0∧T 7=u3∧T 8=.ptr b8 0 0∧T 9=.mp b9∧T 91=u3∧T 92=gi kl.length∧T 93=gi i
def I2 (g:aH) (b2 b8 b9 b16 b17:Nat) (u3 v:V) (o kl:List Int) (mm:eM Int) (cc:Nat) (r:bd) (L:List fc) (i k:Nat) (T:Env) (H:View):Prop :=
  bu H ((.sl b17 0 1 3,3,[[gi (b7 o r.left),v,gi r.prec]]) :: (v,1,gg ((cw (b7 o) r).right.take k ++ r.right.drop k)) :: (.sl b16 0 1 3,3,[bc r]) :: L) ∧
  H b9=.map (rF mm) cc∧T 1=.aN (aw g) 0∧T 2=.ptr b2 0 0∧T 7=u3∧T 8=.ptr b8 0 0∧T 9=.mp b9∧T 91=u3∧T 92=gi kl.length∧T 93=gi i∧T 17=.ptr b17 0 0∧T 113=v∧T 114=gi r.right.length∧T 115=gi k
set_option maxHeartbeats 8000000 in
theorem AQ (g:aH) (hg:g.Ok) (hs:g.Small):cI Tryz.prog 120 [.agg (aw g)] (w5 (if bq g=true then
    if (bj g true).getD g.start.toNat false=true then (uk g (b7 (cD (bj g true) (bS g) g.rules)) (bj g true) (bS g),cx (bj g true) (bS g) g.rules 0,0)
    else (qP,[],9)
  else (qP,[],1))):=by
  refine cI.of (fN g) ?_
  refine aA.of mixed tP ?_
  simp (disch:=omega) only [↓wr,↓reduceIte,wq,ai,ah,an,ab,ae,ag,aj,isNil,Nat.reduceEqDiff,Nat.reduceAdd,Nat.reduceLT,Nat.reduceLeDiff,Int.reduceNeg,Int.reduceToNat,reduceCtorEq,qI,aw,encS]
  intro b2
  try simp (disch:=omega) only [↓wr,↓reduceIte,wq,ai,ah,an,ab,ae,ag,aj,isNil,Nat.reduceEqDiff,Nat.reduceAdd,Nat.reduceLT,Nat.reduceLeDiff,Int.reduceNeg,Int.reduceToNat,reduceCtorEq,aw,encS]
  refine aK.pure (iU g hg hs.names) (by kernel_rfl) ?_
  repeat' (first | (refine ar.dec (fun _=>?_) (fun _=>?_)) | (refine ar.eq (fun _=>?_) (fun _=>?_)) | (refine ar.ne (fun _=>?_) (fun _=>?_)) | (refine ar.split (fun _=>?_) (fun _=>?_)) | (simp (disch:=omega) only [↓wr,↓reduceIte,wq,ai,ah,an,ab,ae,ag,aj,isNil,Nat.reduceEqDiff,Nat.reduceAdd,Nat.reduceLT,Nat.reduceLeDiff,Int.reduceNeg,Int.reduceToNat,reduceCtorEq,aw,encS,set_set]))
  · rename_i hr
    rw[if_pos hr]
    refine aK.pure (pa g hg hs).pure (by kernel_rfl) ?_
    simp (disch:=omega) only [↓wr,↓reduceIte,wq,ai,ah,an,ab,ae,ag,aj,isNil,Nat.reduceEqDiff,Nat.reduceAdd,Nat.reduceLT,Nat.reduceLeDiff,Int.reduceNeg,Int.reduceToNat,reduceCtorEq,aw,encS]
    refine aK.pure (yd g hg hs).pure (by kernel_rfl) ?_
    have hf:=bY hr
    have h3:=hf.uY
    have h4:=hf.start
    have hpl:=kG hr true
    have hql:=oE hr
    generalize bj g true=p at hpl ⊢
    generalize bS g=q at hql ⊢
    have hps:p[g.start.toNat]?=some (p[g.start.toNat]'(by omega)):=List.getElem?_eq_getElem (by omega)
    have hpd:p.getD g.start.toNat false=p[g.start.toNat]'(by omega):=by simp[List.getD_eq_getElem?_getD,hps]
    generalize p[g.start.toNat]'(by omega)=s at hps hpd
    rw[hpd]
    simp (disch:=omega) only [↓wr,↓reduceIte,wq,ai,ah,an,ab,ae,ag,aj,isNil,Nat.reduceEqDiff,Nat.reduceAdd,Nat.reduceLT,Nat.reduceLeDiff,Int.reduceNeg,Int.reduceToNat,reduceCtorEq,aw,encS,cB,List.getElem?_map,hps]
    cases s with
    | false =>
      simp (disch:=omega) only [↓wr,↓reduceIte,wq,ai,ah,an,ab,ae,ag,aj,isNil,Nat.reduceEqDiff,Nat.reduceAdd,Nat.reduceLT,Nat.reduceLeDiff,Int.reduceNeg,Int.reduceToNat,reduceCtorEq,aw,encS,set_set]
      rintro h' hh
      exact zE
    | true =>
      simp (disch:=omega) only [↓wr,↓reduceIte,wq,ai,ah,an,ab,ae,ag,aj,isNil,Nat.reduceEqDiff,Nat.reduceAdd,Nat.reduceLT,Nat.reduceLeDiff,Int.reduceNeg,Int.reduceToNat,reduceCtorEq,aw,encS,set_set]
      have hN:=hf.aM
      have hN1:=hf.yC
      have hT:=hf.aE
      have hR:=hf.rules
      refine aK.mJ ((E1 g.aE (by omega) _).mono ?_)
      rintro u0 H1 ⟨hu0,hfr⟩
      have ho1:=(bu.nil.new (H:=fun _=>cZ.dead) (n:=b2) rfl 4 [[.emp 1,.emp 1,.emp 1,gi 0]]).Ho hu0 hfr
      have c0:=ho1.head.cells
      have k0:=ho1.head.zY
      simp (disch:=omega) only [↓wr,↓reduceIte,wq,ai,ah,an,ab,ae,ag,aj,isNil,Nat.reduceEqDiff,Nat.reduceAdd,Nat.reduceLT,Nat.reduceLeDiff,Int.reduceNeg,Int.reduceToNat,reduceCtorEq,aw,encS,c0,k0]
      intro b8 hb8
      have ho2:=ho1.new hb8 4 [[u0,.emp 1,.emp 1,gi 0]]
      try simp (disch:=omega) only [↓wr,↓reduceIte,wq,ai,ah,an,ab,ae,ag,aj,isNil,Nat.reduceEqDiff,Nat.reduceAdd,Nat.reduceLT,Nat.reduceLeDiff,Int.reduceNeg,Int.reduceToNat,reduceCtorEq,aw,encS,c0,k0,set_set]
      intro b9 hb9
      have hb98:=(dZ hb9 ep).1
      have hb9:=(dZ (dZ hb9 ep).2 ep).2
      have ho3:=(((ho2.fresh (n:=b9) (o:=.map [] 0) (by simp only[View.set,if_neg hb98]; exact hb9)).emp (k:=1) (sz:=1)).emp (k:=1) (sz:=1)).perm IK.symm
      try simp (disch:=omega) only [↓wr,↓reduceIte,wq,ai,ah,an,ab,ae,ag,aj,isNil,Nat.reduceEqDiff,Nat.reduceAdd,Nat.reduceLT,Nat.reduceLeDiff,Int.reduceNeg,Int.reduceToNat,reduceCtorEq,aw,encS,c0,k0,set_set]
      refine bt.up g.rules.length (HP g p q b2 b8 b9 u0) ?_ ?_
      · refine ⟨⟨.emp 1,.emp 1,rfl,by simp[cD],by simp[cD],by rw[set_set]; exact ho3,[],0,by simp[View.set,cU],trivial⟩,rfl,rfl,rfl,rfl,rfl,rfl,rfl,rfl,rfl⟩
      clear ho1 ho2 ho3 hb8 hb9 hb98
      rintro i k T H2 hk ⟨⟨u1,u3,t7,hin,holen,ho,mm,cc,h9,hm9⟩,t1,t2,t5,t6,t8,t9,t41,t42,t43⟩
      simp (disch:=omega) only [↓wr,↓reduceIte,wq,ai,ah,an,ab,ae,ag,aj,isNil,Nat.reduceEqDiff,Nat.reduceAdd,Nat.reduceLT,Nat.reduceLeDiff,Int.reduceNeg,Int.reduceToNat,reduceCtorEq,nP,t1,t2,t5,t6,t7,t8,t9,t41,t42,t43,aw]
      refine ar.dec (fun hc=>?_) (fun hc=>?_)
      · have hg2:g.rules[i]?=some (g.rules[i]'(by omega)):=List.getElem?_eq_getElem (by omega)
        have hmem:g.rules[i]'(by omega)∈g.rules:=List.getElem_mem _
        have htk:g.rules.take (i+1)=g.rules.take i ++ [g.rules[i]'(by omega)]:=by rw[List.take_add_one,hg2]; rfl
        generalize g.rules[i]'(by omega)=r at hg2 hmem htk
        obtain ⟨hl1,hl2,hl3,hr6,hsy⟩:=hf.rW hg hmem
        have hqs:q[r.left.toNat]?=some (q[r.left.toNat]'(by omega)):=List.getElem?_eq_getElem (by omega)
        have hqd:q.getD r.left.toNat false=q[r.left.toNat]'(by omega):=by simp[List.getD_eq_getElem?_getD,hqs]
        generalize q[r.left.toNat]'(by omega)=qs at hqs hqd
        simp (disch:=omega) only [↓wr,↓reduceIte,wq,ai,ah,an,ab,ae,ag,aj,isNil,Nat.reduceEqDiff,Nat.reduceAdd,Nat.reduceLT,Nat.reduceLeDiff,Int.reduceNeg,Int.reduceToNat,reduceCtorEq,t1,t2,t5,t6,t7,t8,t9,t41,t42,t43,bc,encI,List.getElem?_map,hg2]
        intro b11 hb11
        have hoA:=ho.new hb11 3 [bc r]
        have n911:b9≠b11:=by rintro rfl; rw[h9] at hb11; simp at hb11
        try simp (disch:=omega) only [↓wr,↓reduceIte,wq,ai,ah,an,ab,ae,ag,aj,isNil,Nat.reduceEqDiff,Nat.reduceAdd,Nat.reduceLT,Nat.reduceLeDiff,Int.reduceNeg,Int.reduceToNat,reduceCtorEq,t1,t2,t5,t6,t7,t8,t9,t41,t42,t43,bc,encI,cB,List.getElem?_map,hqs,set_set]
        have hskip:∀ (T2:Env) (H':View),cF p q r=false→H'=H2.set b11 (.arr 3 [bc r])→T2 7=u3→T2 1=.aN (aw g) 0→T2 2=.ptr b2 0 0→T2 5=cB p→T2 6=cB q→T2 8=.ptr b8 0 0→T2 9=.mp b9→T2 41=.aP (g.rules.map bc)→T2 42=gi g.rules.length→T2 43=gi ((i:Int)+1) →
            ∃ k',k' < k∧AY g.rules.length k' (HP g p q b2 b8 b9 u0) T2 H':=by
          intro T2 H' hkr hH' a7 a1 a2 a5 a6 a8 a9 a41 a42 a43
          have e1:cD p q (g.rules.take (i+1))=cD p q (g.rules.take i):=by rw[htk,xx,if_neg (by simp[hkr])]
          have e2:cx p q (g.rules.take (i+1)) 0=cx p q (g.rules.take i) 0:=by rw[htk,mN]; simp[cx,hkr]
          refine bw hk (by omega) ⟨⟨u1,u3,a7,by rw[e1]; exact hin,by rw[e1]; omega,by rw[e1,e2,hH']; exact hoA.tail,mm,cc,by rw[hH']; simp[View.set,n911,h9],by rw[e1]; exact hm9⟩,a1,a2,a5,a6,a8,a9,a41,a42,by rw[a43]; rfl⟩
        cases qs with
        | false =>
          simp (disch:=omega) only [↓wr,↓reduceIte,wq,ai,ah,an,ab,ae,ag,aj,isNil,Nat.reduceEqDiff,Nat.reduceAdd,Nat.reduceLT,Nat.reduceLeDiff,Int.reduceNeg,Int.reduceToNat,reduceCtorEq,t1,t2,t5,t6,t7,t8,t9,t41,t42,t43]
          refine hskip _ _ (by rw[cF,hqd]; rfl) ?_ ?_ ?_ ?_ ?_ ?_ ?_ ?_ ?_ ?_ ?_
          all_goals first | exact t7 | exact t1 | exact t2 | exact t5 | exact t6 | exact t8 | exact t9 | exact t41 | exact t42 | rfl | (rw[set_set]; rfl)
        | true =>
          simp (disch:=omega) only [↓wr,↓reduceIte,wq,ai,ah,an,ab,ae,ag,aj,isNil,Nat.reduceEqDiff,Nat.reduceAdd,Nat.reduceLT,Nat.reduceLeDiff,Int.reduceNeg,Int.reduceToNat,reduceCtorEq,t1,t2,t5,t6,t7,t8,t9,t41,t42,t43,bc,encI,cB]
          refine aK.pure (nz r p (hg.fQ r hmem).2.2.1 (fun s hs'=>⟨(hsy s hs').1,fun h=>by rw[hpl]; exact (hsy s hs').2 h⟩)) (by kernel_rfl) ?_
          simp (disch:=omega) only [↓wr,↓reduceIte,wq,ai,ah,an,ab,ae,ag,aj,isNil,Nat.reduceEqDiff,Nat.reduceAdd,Nat.reduceLT,Nat.reduceLeDiff,Int.reduceNeg,Int.reduceToNat,reduceCtorEq,t1,t2,t5,t6,t7,t8,t9,t41,t42,t43]
          refine ar.split (fun hal=>?_) (fun hal=>?_)
          · simp (disch:=omega) only [↓wr,↓reduceIte,wq,ai,ah,an,ab,ae,ag,aj,isNil,Nat.reduceEqDiff,Nat.reduceAdd,Nat.reduceLT,Nat.reduceLeDiff,Int.reduceNeg,Int.reduceToNat,reduceCtorEq,t1,t2,t5,t6,t7,t8,t9,t41,t42,t43]
            have hkr:cF p q r=true:=by rw[cF,hqd,hal]; rfl
            intro m hm
            try simp (disch:=omega) only [↓wr,↓reduceIte,wq,ai,ah,an,ab,ae,ag,aj,isNil,Nat.reduceEqDiff,Nat.reduceAdd,Nat.reduceLT,Nat.reduceLeDiff,Int.reduceNeg,Int.reduceToNat,reduceCtorEq,t1,t2,t5,t6,t7,t8,t9,t41,t42,t43,hZ]
            have hm11:=(dZ hm ep).1
            have hm:=(dZ (dZ hm ep).2 ep).2
            have hoB:=(hoA.fresh (n:=m) (o:=.arr 1 [[gi i]]) (by simp only[View.set,if_neg hm11]; exact hm)).at 2 (by simp)
            have n9m:b9≠m:=by rintro rfl; rw[h9] at hm; simp at hm
            have hkl:(cx p q (g.rules.take i) 0).length≤40:=by
              rw[nA]
              have h1:=List.length_filter_le (cF p q) (g.rules.take i)
              have h2:(g.rules.take i).length≤i:=List.length_take_le _ _
              omega
            refine pS (by rw[set_set]; exact hoB) (by simp[aS]) (by unfold aZ; simp at hkl ⊢; omega) (by unfold aZ; simp at hkl ⊢; omega) ?_
            intro u3' H3 ho3 hleft
            have f11:=ho3.is 1 rfl (by simp)
            have f8:=ho3.is 2 rfl (by simp)
            have hleft':Left ((H2.set b11 (.arr 3 [bc r])).set m (.arr 1 [[gi i]])) H3 u3 u3':=by rw[set_set] at hleft; exact hleft
            have f9:H3 b9=.map (rF mm) cc:=hleft'.map (b:=b9) hoB.head (by simp[View.set,n911,n9m,h9])
            have hu1:dP u1=some (nC ((cD p q (g.rules.take i)).map fun x=>g.aM.getD x.toNat ⟨#[]⟩)).length:=(ho3.own 3 rfl).len
            simp only[bc,encI] at f11
            have e2:cx p q (g.rules.take (i+1)) 0=cx p q (g.rules.take i) 0 ++ [(i:Int)]:=by
              rw[htk,mN]; simp[cx,hkr,show i≤g.rules.length by omega]
            have e1:cD p q (g.rules.take (i+1))=oG (cD p q (g.rules.take i)) r:=by rw[htk,xx,if_pos hkr]
            generalize cD p q (g.rules.take i)=o at *
            generalize cx p q (g.rules.take i) 0=kl at *
            simp (disch:=omega) only [↓wr,↓reduceIte,wq,ai,ah,an,ab,ae,ag,aj,isNil,Nat.reduceEqDiff,Nat.reduceAdd,Nat.reduceLT,Nat.reduceLeDiff,Int.reduceNeg,Int.reduceToNat,reduceCtorEq,t1,t2,t5,t6,t8,t9,t41,t42,t43,f11,f8]
            refine Ih (kt:=3) (et:=3) (z:=gi 0) (by kernel_rfl) (by kernel_rfl) (kZ .i64 Tryz.underlying3) (id:=b9) (c:=cc) (m:=mm) (k:=r.left) (by simp (disch:=omega) only [↓wr,↓reduceIte,wq,ai,ah,an,ab,ae,ag,aj,isNil,Nat.reduceEqDiff,Nat.reduceAdd,Nat.reduceLT,Nat.reduceLeDiff,Int.reduceNeg,Int.reduceToNat,reduceCtorEq,t9]) (by simp (disch:=omega) only [↓wr,↓reduceIte,wq,ai,ah,an,ab,ae,ag,aj,isNil,Nat.reduceEqDiff,Nat.reduceAdd,Nat.reduceLT,Nat.reduceLeDiff,Int.reduceNeg,Int.reduceToNat,reduceCtorEq]) f9 ?_
            rw[hm9.get,nN]
            have hob:o.length≤40:=by omega
            by_cases hx:r.left∈o
            · have e1':oG o r=o:=by rw[oG,if_pos hx]
              rw[if_pos hx]
              simp (disch:=omega) only [↓wr,↓reduceIte,wq,ai,ah,an,ab,ae,ag,aj,isNil,Nat.reduceEqDiff,Nat.reduceAdd,Nat.reduceLT,Nat.reduceLeDiff,Int.reduceNeg,Int.reduceToNat,reduceCtorEq,t1,t2,t5,t6,t8,t9,t41,t42,t43,Option.isSome_some]
              have ho4:=(((ho3.at 1 (by simp)).tail).perm (.swap _ _ _))
              refine bw hk (by omega) ⟨⟨u1,u3',rfl,by rw[e1,e1']; exact hin,by rw[e1,e1']; omega,?_,mm,cc,f9,by rw[e1,e1']; exact hm9⟩,t1,t2,t5,t6,t8,t9,t41,t42,rfl⟩
              rw[e1,e1',e2]
              simp only[List.map_append,List.map_cons,List.map_nil]
              exact ho4
            · have e1':oG o r=o ++ [r.left]:=by rw[oG,if_neg hx]
              rw[if_neg hx]
              have hgn:g.aM[r.left.toNat]?=some (g.aM[r.left.toNat]'(by omega)):=List.getElem?_eq_getElem (by omega)
              have hgnd:g.aM.getD r.left.toNat ⟨#[]⟩=g.aM[r.left.toNat]'(by omega):=by simp[List.getD_eq_getElem?_getD,hgn]
              generalize g.aM[r.left.toNat]'(by omega)=nm at hgn hgnd
              simp (disch:=omega) only [↓wr,↓reduceIte,wq,ai,ah,an,ab,ae,ag,aj,isNil,Nat.reduceEqDiff,Nat.reduceAdd,Nat.reduceLT,Nat.reduceLeDiff,Int.reduceNeg,Int.reduceToNat,reduceCtorEq,t1,t2,t5,t6,t8,t9,t41,t42,t43,Option.isSome_none,f11,f8,hu1,List.length_map]
              refine zm (kt:=3) (et:=3) (by kernel_rfl) (kZ .i64 Tryz.underlying3) (id:=b9) (c:=cc) (m:=mm) (k:=r.left) (v:=gi o.length) (by simp (disch:=omega) only [↓wr,↓reduceIte,wq,ai,ah,an,ab,ae,ag,aj,isNil,Nat.reduceEqDiff,Nat.reduceAdd,Nat.reduceLT,Nat.reduceLeDiff,Int.reduceNeg,Int.reduceToNat,reduceCtorEq,t9]) (by simp (disch:=omega) only [↓wr,↓reduceIte,wq,ai,ah,an,ab,ae,ag,aj,isNil,Nat.reduceEqDiff,Nat.reduceAdd,Nat.reduceLT,Nat.reduceLeDiff,Int.reduceNeg,Int.reduceToNat,reduceCtorEq]) (by simp (disch:=omega) only [↓wr,↓reduceIte,wq,ai,ah,an,ab,ae,ag,aj,isNil,Nat.reduceEqDiff,Nat.reduceAdd,Nat.reduceLT,Nat.reduceLeDiff,Int.reduceNeg,Int.reduceToNat,reduceCtorEq]) f9 ?_
              intro c'
              have n89:b8≠b9:=uM ho3 2 rfl f9
              have n119:b11≠b9:=uM ho3 1 rfl f9
              simp (disch:=omega) only [↓wr,↓reduceIte,wq,ai,ah,an,ab,ae,ag,aj,isNil,Nat.reduceEqDiff,Nat.reduceAdd,Nat.reduceLT,Nat.reduceLeDiff,Int.reduceNeg,Int.reduceToNat,reduceCtorEq,t1,t2,t5,t6,t8,t9,t41,t42,t43,f11,f8,n89,n119,aw,encS,List.getElem?_map,hgn]
              intro m2 hm2
              have hm29:=(dZ hm2 (by simp)).1
              have hm2:=(dZ hm2 (by simp)).2
              have ho5:=((ho3.HB f9 (o:=.map (rF (ff r.left (gi o.length) cc mm)) c')).fresh (n:=m2) (o:=.arr 1 [[gs nm]]) (by simp only[View.set,if_neg hm29]; exact hm2)).at 3 (by simp)
              try simp (disch:=omega) only [↓wr,↓reduceIte,wq,ai,ah,an,ab,ae,ag,aj,isNil,Nat.reduceEqDiff,Nat.reduceAdd,Nat.reduceLT,Nat.reduceLeDiff,Int.reduceNeg,Int.reduceToNat,reduceCtorEq,t1,t2,t5,t6,t8,t9,t41,t42,t43,hZ]
              refine pS ho5 (by simp[aS]) (by unfold aZ; simp; omega) (by unfold aZ; simp; omega) ?_
              intro u1' H5 ho6 hleft2
              have c1:=ho6.head.cells
              have k1:=ho6.head.zY
              have f8':=ho6.is 3 rfl (by simp)
              have f9':=hleft2.map (b:=b9) (es:=rF (ff r.left (gi o.length) cc mm)) (c:=c') ho5.head (by simp[View.set,Ne.symm hm29])
              have n89':b9≠b8:=n89.symm
              simp (disch:=omega) only [↓wr,↓reduceIte,wq,ai,ah,an,ab,ae,ag,aj,isNil,Nat.reduceEqDiff,Nat.reduceAdd,Nat.reduceLT,Nat.reduceLeDiff,Int.reduceNeg,Int.reduceToNat,reduceCtorEq,t1,t2,t5,t6,t8,t9,t41,t42,t43,f8',c1,k1]
              have ho7:=(ho6.at 3 (by simp)).put (es':=[[u0,u1',.emp 1,gi 0]]) rfl rfl
              have ho8:=(((ho7.at 3 (by simp)).tail).perm (.cons _ (.swap _ _ _)))
              refine bw hk (by omega) ⟨⟨u1',u3',rfl,?_,?_,?_,_,c',(by simp only[View.set,if_neg n89']; exact f9'),?_⟩,t1,t2,t5,t6,t8,t9,t41,t42,rfl⟩
              · rw[e1,e1']; intro x hx'; rcases List.mem_append.1 hx' with h | h
                · exact hin x h
                · simp at h; subst h; exact ⟨hl2,hl3⟩
              · rw[e1,e1']; simp; omega
              · rw[e1,e1',e2]
                simp only[List.map_append,List.map_cons,List.map_nil,hgnd]
                exact ho8
              · rw[e1,e1',uE,Int.zero_add,← xK hx]
                exact hm9.put r.left (o.length:Int) cc
          · simp (disch:=omega) only [↓wr,↓reduceIte,wq,ai,ah,an,ab,ae,ag,aj,isNil,Nat.reduceEqDiff,Nat.reduceAdd,Nat.reduceLT,Nat.reduceLeDiff,Int.reduceNeg,Int.reduceToNat,reduceCtorEq,t1,t2,t5,t6,t7,t8,t9,t41,t42,t43]
            refine hskip _ _ (by rw[cF,hqd,hal]; rfl) ?_ ?_ ?_ ?_ ?_ ?_ ?_ ?_ ?_ ?_ ?_
            all_goals first | exact t7 | exact t1 | exact t2 | exact t5 | exact t6 | exact t8 | exact t9 | exact t41 | exact t42 | rfl | (rw[set_set]; rfl)
      · rw[List.take_of_length_le (by omega)] at ho hin holen hm9
        have hkl40:(cx p q g.rules 0).length≤40:=by
          rw[nA]; have h1:=List.length_filter_le (cF p q) g.rules; omega
        have hkg:=sA p q g.rules 0
        have hkln:=nA p q g.rules 0
        have hrg:uk g (b7 (cD p q g.rules)) p q=⟨g.aE,(cD p q g.rules).map fun x=>g.aM.getD x.toNat ⟨#[]⟩,(g.rules.filter (cF p q)).map (cw (b7 (cD p q g.rules))),b7 (cD p q g.rules) g.start⟩:=rfl
        rw[hrg,if_pos rfl]
        clear hrg
        generalize cD p q g.rules=o at *
        generalize cx p q g.rules 0=kl at *
        have hob:o.length≤40:=by omega
        have hu3:dP u3=some (gg kl).length:=(ho.own 1 rfl).len
        simp (disch:=omega) only [↓wr,↓reduceIte,wq,ai,ah,an,ab,ae,ag,aj,isNil,Nat.reduceEqDiff,Nat.reduceAdd,Nat.reduceLT,Nat.reduceLeDiff,Int.reduceNeg,Int.reduceToNat,reduceCtorEq,t1,t2,t5,t6,t7,t8,t9,hu3,List.length_map]
        refine bt.up kl.length (It g p q b2 b8 b9 u0 u1 u3 o kl mm cc) ?_ ?_
        · refine ⟨⟨.emp 1,[],by simp,?_,h9⟩,t1,t2,t7,t8,t9,t7,rfl,rfl⟩
          exact (ho.emp (k:=1) (sz:=3)).perm (sQ [(.sl b8 0 1 4,4,[[u0,u1,.emp 1,gi 0]]),(u3,1,gg kl),(u1,1,nC (o.map fun x=>g.aM.getD x.toNat ⟨#[]⟩)),(u0,3,g.aE.map cr),(.emp 1,3,[]),(.sl b2 0 1 4,4,[[.emp 1,.emp 1,.emp 1,gi 0]])] 4 (by simp)).symm
        clear ho h9 t1 t2 t5 t6 t7 t8 t9 t41 t42 t43
        rintro i k T H2 hk ⟨⟨u2,bs,hbs,ho,h9⟩,t1,t2,t7,t8,t9,t91,t92,t93⟩
        simp (disch:=omega) only [↓wr,↓reduceIte,wq,ai,ah,an,ab,ae,ag,aj,isNil,Nat.reduceEqDiff,Nat.reduceAdd,Nat.reduceLT,Nat.reduceLeDiff,Int.reduceNeg,Int.reduceToNat,reduceCtorEq,nj,t1,t2,t7,t8,t9,t91,t92,t93]
        refine ar.dec (fun hc=>?_) (fun hc=>?_)
        · obtain ⟨n3,e3,hn3⟩:=(ho.own 1 rfl).sl (by simp; omega)
          rw[List.length_map] at e3
          subst e3
          obtain ⟨m,hm1,hm2,hm3⟩:=hkg i (by omega)
          have hbg:=zV (show i < kl.length by omega)
          rw[Int.zero_add] at hm1
          have hki:kl[i]'(by omega)=(m:Int):=by
            rw[List.getElem?_eq_getElem (show i < kl.length by omega)] at hm1; simpa using hm1
          rw[hki] at hbg
          have hg2:g.rules[m]?=some (g.rules[m]'hm3):=List.getElem?_eq_getElem hm3
          have hmem:g.rules[m]'hm3∈g.rules:=List.getElem_mem _
          have htk:(g.rules.filter (cF p q)).take (i+1)=(g.rules.filter (cF p q)).take i ++ [g.rules[m]'hm3]:=by
            rw[List.take_add_one,← hm2,hg2]; rfl
          generalize g.rules[m]'hm3=r at hg2 hmem htk
          obtain ⟨hl1,hl2,hl3,hr6,hsy⟩:=hf.rW hg hmem
          simp (disch:=omega) only [↓wr,↓reduceIte,wq,ai,ah,an,ab,ae,ag,aj,isNil,Nat.reduceEqDiff,Nat.reduceAdd,Nat.reduceLT,Nat.reduceLeDiff,Int.reduceNeg,Int.reduceToNat,reduceCtorEq,t1,t2,t7,t8,t9,t91,t92,t93,hn3,hbg,List.length_map,aw,bc,encI,List.getElem?_map,hg2]
          refine ⟨by omega,by omega,?_⟩
          intro b16 hb16
          have hoA:=ho.new hb16 3 [bc r]
          have n916:b9≠b16:=by rintro rfl; rw[h9] at hb16; simp at hb16
          try simp (disch:=omega) only [↓wr,↓reduceIte,wq,ai,ah,an,ab,ae,ag,aj,isNil,Nat.reduceEqDiff,Nat.reduceAdd,Nat.reduceLT,Nat.reduceLeDiff,Int.reduceNeg,Int.reduceToNat,reduceCtorEq,t1,t2,t7,t8,t9,t91,t92,t93,set_set]
          refine yw (kt:=3) (et:=3) (z:=gi 0) (by kernel_rfl) (by kernel_rfl) (kZ .i64 Tryz.underlying3) (id:=b9) (c:=cc) (m:=mm) (k:=r.left) (by simp (disch:=omega) only [↓wr,↓reduceIte,wq,ai,ah,an,ab,ae,ag,aj,isNil,Nat.reduceEqDiff,Nat.reduceAdd,Nat.reduceLT,Nat.reduceLeDiff,Int.reduceNeg,Int.reduceToNat,reduceCtorEq,t9]) (by simp (disch:=omega) only [↓wr,↓reduceIte,wq,ai,ah,an,ab,ae,ag,aj,isNil,Nat.reduceEqDiff,Nat.reduceAdd,Nat.reduceLT,Nat.reduceLeDiff,Int.reduceNeg,Int.reduceToNat,reduceCtorEq]) (by simp[View.set,n916,h9]) ?_
          have hgt:∀ x,(getM mm x).getD (gi 0)=gi (b7 o x):=fun x=>by
            rw[hm9.get,b7]; cases cg (fC o 0) x <;> rfl
          rw[hgt]
          simp (disch:=omega) only [↓wr,↓reduceIte,wq,ai,ah,an,ab,ae,ag,aj,isNil,Nat.reduceEqDiff,Nat.reduceAdd,Nat.reduceLT,Nat.reduceLeDiff,Int.reduceNeg,Int.reduceToNat,reduceCtorEq,t1,t2,t7,t8,t9,t91,t92,t93]
          refine aK.G9 (Ew r.right (by omega) _) ?_
          intro v H3 hv hfr
          have hoB:=bu.Ho (H:=H2.set b16 (.arr 3 [bc r])) hoA hv (by rw[set_set] at hfr; exact hfr)
          have h9B:H3 b9=.map (rF mm) cc:=by
            rw[(hfr b9 (by simp[View.set,n916,h9])).1]; simp[View.set,n916,h9]
          have cv:=hv.cells
          have kv:=hv.zY
          have lv:=hv.len
          have f16:=hoB.is 1 rfl (by simp)
          simp only[bc,encI] at f16
          simp (disch:=omega) only [↓wr,↓reduceIte,wq,ai,ah,an,ab,ae,ag,aj,isNil,Nat.reduceEqDiff,Nat.reduceAdd,Nat.reduceLT,Nat.reduceLeDiff,Int.reduceNeg,Int.reduceToNat,reduceCtorEq,t1,t2,t7,t8,t9,t91,t92,t93,f16,cv,kv]
          intro b17 hb17
          have hoC:=hoB.new hb17 3 [[gi (b7 o r.left),v,gi r.prec]]
          have n917:b9≠b17:=by rintro rfl; rw[h9B] at hb17; simp at hb17
          try simp (disch:=omega) only [↓wr,↓reduceIte,wq,ai,ah,an,ab,ae,ag,aj,isNil,Nat.reduceEqDiff,Nat.reduceAdd,Nat.reduceLT,Nat.reduceLeDiff,Int.reduceNeg,Int.reduceToNat,reduceCtorEq,t1,t2,t7,t8,t9,t91,t92,t93,cv,kv,lv,set_set,List.length_map]
          generalize hL:((V.sl b8 0 1 4,4,[[u0,u1,u2,gi 0]]) :: (V.sl n3 0 kl.length 1,1,gg kl) ::
              (u1,1,nC (o.map fun x=>g.aM.getD x.toNat ⟨#[]⟩)) :: (u0,3,g.aE.map cr) :: (u2,3,gq bs) :: (V.sl b2 0 1 4,4,[[V.emp 1,V.emp 1,V.emp 1,gi 0]]) :: oV bs:List fc)=L at hoC
          refine bt.up r.right.length (I2 g b2 b8 b9 b16 b17 (.sl n3 0 kl.length 1) v o kl mm cc r L i) ?_ ?_
          · exact ⟨by rw[set_set]; exact hoC,by simp[View.set,n917,h9B],t1,t2,t7,t8,t9,t91,t92,t93,rfl,rfl,rfl,rfl⟩
          clear hoA hoB hoC hb16 hb17 h9 h9B f16 hv hfr t1 t2 t7 t8 t9 t91 t92 t93
          rintro k k2 T H3 hk2 ⟨hoC,h9,t1,t2,t7,t8,t9,t91,t92,t93,t17,t113,t114,t115⟩
          have f17:=hoC.is 0 rfl (by simp)
          simp (disch:=omega) only [↓wr,↓reduceIte,wq,ai,ah,an,ab,ae,ag,aj,isNil,Nat.reduceEqDiff,Nat.reduceAdd,Nat.reduceLT,Nat.reduceLeDiff,Int.reduceNeg,Int.reduceToNat,reduceCtorEq,nR,t1,t2,t7,t8,t9,t91,t92,t93,t17,t113,t114,t115]
          refine ar.dec (fun hcc=>?_) (fun hcc=>?_)
          · have hgs:r.right[k]?=some (r.right[k]'(by omega)):=List.getElem?_eq_getElem (by omega)
            have hms:r.right[k]'(by omega)∈r.right:=List.getElem_mem _
            have hrl:(cw (b7 o) r).right.length=r.right.length:=by simp[cw]
            have hts:(cw (b7 o) r).right.take (k+1)=(cw (b7 o) r).right.take k ++ [if r.right[k]'(by omega) < 0 then -1 - b7 o (-1 - r.right[k]'(by omega)) else r.right[k]'(by omega)]:=by
              rw[List.take_add_one]; simp[cw,hgs]
            have hdr:=dk (show k < r.right.length by omega)
            generalize r.right[k]'(by omega)=s at hgs hms hts hdr
            obtain ⟨⟨s1,s2⟩,s3⟩:=hsy s hms
            have hbd:=GN o (-1 - s)
            rw[hdr] at hoC
            have hlen:(((cw (b7 o) r).right.take k ++ s :: r.right.drop (k+1)).map fun x=>[gi x]).length=r.right.length:=by simp; omega
            obtain ⟨nv,ev,hnv⟩:=(hoC.own 1 rfl).sl (by rw[hlen]; omega)
            rw[hlen] at ev
            subst ev
            have hlt:k < ((cw (b7 o) r).right.take k ++ s :: r.right.drop (k+1)).length:=by simp; omega
            have hbg2:=zV hlt
            have hel:((cw (b7 o) r).right.take k ++ s :: r.right.drop (k+1))[k]'hlt=s:=by
              rw[List.getElem_append_right (by simp; omega)]
              simp[show k - min k r.right.length=0 by omega,hrl]
            rw[hel] at hbg2
            simp (disch:=omega) only [↓wr,↓reduceIte,wq,ai,ah,an,ab,ae,ag,aj,isNil,Nat.reduceEqDiff,Nat.reduceAdd,Nat.reduceLT,Nat.reduceLeDiff,Int.reduceNeg,Int.reduceToNat,reduceCtorEq,t1,t2,t7,t8,t9,t91,t92,t93,t17,t113,t114,t115,hnv,hbg2,List.length_map]
            refine ⟨by omega,hlt,?_⟩
            have hlk:((cw (b7 o) r).right.take k).length=k:=by rw[List.length_take]; omega
            have nv9:nv≠b9:=uM hoC 1 rfl h9
            refine ar.dec (fun hneg=>?_) (fun hneg=>?_)
            · rw[if_pos hneg] at hts
              simp (disch:=omega) only [↓wr,↓reduceIte,wq,ai,ah,an,ab,ae,ag,aj,isNil,Nat.reduceEqDiff,Nat.reduceAdd,Nat.reduceLT,Nat.reduceLeDiff,Int.reduceNeg,Int.reduceToNat,reduceCtorEq,t1,t2,t7,t8,t9,t91,t92,t93,t17,t113,t114,t115,f17]
              refine yw (kt:=3) (et:=3) (z:=gi 0) (by kernel_rfl) (by kernel_rfl) (kZ .i64 Tryz.underlying3) (id:=b9) (c:=cc) (m:=mm) (k:=-1 - s) (by simp (disch:=omega) only [↓wr,↓reduceIte,wq,ai,ah,an,ab,ae,ag,aj,isNil,Nat.reduceEqDiff,Nat.reduceAdd,Nat.reduceLT,Nat.reduceLeDiff,Int.reduceNeg,Int.reduceToNat,reduceCtorEq,t9]) (by simp (disch:=omega) only [↓wr,↓reduceIte,wq,ai,ah,an,ab,ae,ag,aj,isNil,Nat.reduceEqDiff,Nat.reduceAdd,Nat.reduceLT,Nat.reduceLeDiff,Int.reduceNeg,Int.reduceToNat,reduceCtorEq]) h9 ?_
              rw[hgt]
              simp (disch:=omega) only [↓wr,↓reduceIte,wq,ai,ah,an,ab,ae,ag,aj,isNil,Nat.reduceEqDiff,Nat.reduceAdd,Nat.reduceLT,Nat.reduceLeDiff,Int.reduceNeg,Int.reduceToNat,reduceCtorEq,t1,t2,t7,t8,t9,t91,t92,t93,t17,t113,t114,t115,f17,hnv,hbg2,List.length_map]
              refine ⟨by omega,hlt,?_⟩
              have hoD:=((hoC.at 1 (by simp)).put (es':=((((cw (b7 o) r).right.take k ++ s :: r.right.drop (k+1)).map fun x=>[gi x]).set k [gi (-1 - b7 o (-1 - s))])) (by simp) (by rw[hlen])).perm (.swap _ _ _)
              refine bw hk2 (by omega) ⟨?_,by simp only[View.set,if_neg nv9.symm]; exact h9,t1,t2,t7,t8,t9,t91,t92,t93,t17,t113,t114,rfl⟩
              rw[ints_set,wK hlk] at hoD
              rw[hts,List.append_assoc]
              rw[ints_set,wK hlk]
              exact hoD
            · rw[if_neg hneg] at hts
              simp (disch:=omega) only [↓wr,↓reduceIte,wq,ai,ah,an,ab,ae,ag,aj,isNil,Nat.reduceEqDiff,Nat.reduceAdd,Nat.reduceLT,Nat.reduceLeDiff,Int.reduceNeg,Int.reduceToNat,reduceCtorEq,t1,t2,t7,t8,t9,t91,t92,t93,t17,t113,t114,t115]
              refine bw hk2 (by omega) ⟨?_,h9,t1,t2,t7,t8,t9,t91,t92,t93,t17,t113,t114,rfl⟩
              rw[hts,List.append_assoc]
              exact hoC
          · rw[List.take_of_length_le (by simp[cw]; omega),List.drop_eq_nil_of_le (by omega),List.append_nil] at hoC
            subst hL
            have f8:=hoC.is 3 rfl (by simp)
            have cv:=(hoC.own 1 rfl).cells
            have kv:=(hoC.own 1 rfl).zY
            have hbl:(gq bs).length≤40:=by
              have h1:=congrArg List.length hbs
              simp only[List.length_map,List.length_take] at h1
              simp only[gq,List.length_map]
              omega
            simp (disch:=omega) only [↓wr,↓reduceIte,wq,ai,ah,an,ab,ae,ag,aj,isNil,Nat.reduceEqDiff,Nat.reduceAdd,Nat.reduceLT,Nat.reduceLeDiff,Int.reduceNeg,Int.reduceToNat,reduceCtorEq,t1,t2,t7,t8,t9,t91,t92,t93,t17,t113,t114,t115,f8,f17,cv,kv]
            intro m hm
            have n9m:b9≠m:=by rintro rfl; rw[h9] at hm; simp at hm
            try simp (disch:=omega) only [↓wr,↓reduceIte,wq,ai,ah,an,ab,ae,ag,aj,isNil,Nat.reduceEqDiff,Nat.reduceAdd,Nat.reduceLT,Nat.reduceLeDiff,Int.reduceNeg,Int.reduceToNat,reduceCtorEq,t1,t2,t7,t8,t9,t91,t92,t93,t17,hZ]
            have hoD:=(hoC.fresh (o:=.arr 3 [[gi (b7 o r.left),v,gi r.prec]]) hm).at 7 (by simp)
            refine pS hoD (by simp[wu,kv]) (by unfold aZ; simp at hbl ⊢; omega) (by unfold aZ; simp at hbl ⊢; omega) ?_
            intro u2' H4 hoE hleft
            have cu:=hoE.head.cells
            have ku:=hoE.head.zY
            have f8':=hoE.is 4 rfl (by simp)
            have h9':H4 b9=.map (rF mm) cc:=hleft.map (b:=b9) hoD.head (by simp[View.set,n9m,h9])
            have n98:b9≠b8:=(uM hoE 4 rfl h9').symm
            simp (disch:=omega) only [↓wr,↓reduceIte,wq,ai,ah,an,ab,ae,ag,aj,isNil,Nat.reduceEqDiff,Nat.reduceAdd,Nat.reduceLT,Nat.reduceLeDiff,Int.reduceNeg,Int.reduceToNat,reduceCtorEq,t1,t2,t7,t8,t9,t91,t92,t93,t17,f8',cu,ku]
            have hoF:=(hoE.at 4 (by simp)).put (es':=[[u0,u1,u2',gi 0]]) rfl rfl
            have hoG:=((((hoF.at 2 (by simp)).tail).at 3 (by simp)).tail)
            refine bw hk (by omega) ⟨⟨u2',bs ++ [(v,cw (b7 o) r)],?_,?_,by simp only[View.set,if_neg n98]; exact h9'⟩,t1,t2,t7,t8,t9,t91,t92,rfl⟩
            · rw[List.map_append,hbs,htk,List.map_append]; rfl
            · refine hoG.perm (.cons _ ?_)
              simp only[oV,gq,List.map_append,List.map_cons,List.map_nil]
              refine .trans ?_ (sQ _ 3 (by simp)).symm
              refine .cons _ ?_
              exact (List.perm_append_singleton (v,1,gg (cw (b7 o) r).right) ((.sl n3 0 kl.length 1,1,gg kl) :: (u1,1,nC (o.map fun x=>g.aM.getD x.toNat ⟨#[]⟩)) :: (u0,3,g.aE.map cr) :: (.sl b2 0 1 4,4,[[.emp 1,.emp 1,.emp 1,gi 0]]) :: oV bs)).symm
        · rw[List.take_of_length_le (by omega)] at hbs
          have f8:=ho.is 0 rfl (by simp)
          have f2:=ho.is 5 rfl (by simp)
          have n82:b8≠b2:=ho.Jd 0 5 rfl rfl (by omega)
          have c1:=(ho.own 2 rfl).cells
          have k1:=(ho.own 2 rfl).zY
          have c2:=(ho.own 4 rfl).cells
          have k2:=(ho.own 4 rfl).zY
          have hgt:∀ x,(getM mm x).getD (gi 0)=gi (b7 o x):=fun x=>by
            rw[hm9.get,b7]; cases cg (fC o 0) x <;> rfl
          simp (disch:=omega) only [↓wr,↓reduceIte,wq,ai,ah,an,ab,ae,ag,aj,isNil,Nat.reduceEqDiff,Nat.reduceAdd,Nat.reduceLT,Nat.reduceLeDiff,Int.reduceNeg,Int.reduceToNat,reduceCtorEq,t1,t2,t7,t8,t9,t91,t92,t93,aw]
          refine yw (kt:=3) (et:=3) (z:=gi 0) (by kernel_rfl) (by kernel_rfl) (kZ .i64 Tryz.underlying3) (id:=b9) (c:=cc) (m:=mm) (k:=g.start) (by simp (disch:=omega) only [↓wr,↓reduceIte,wq,ai,ah,an,ab,ae,ag,aj,isNil,Nat.reduceEqDiff,Nat.reduceAdd,Nat.reduceLT,Nat.reduceLeDiff,Int.reduceNeg,Int.reduceToNat,reduceCtorEq,t9]) (by simp (disch:=omega) only [↓wr,↓reduceIte,wq,ai,ah,an,ab,ae,ag,aj,isNil,Nat.reduceEqDiff,Nat.reduceAdd,Nat.reduceLT,Nat.reduceLeDiff,Int.reduceNeg,Int.reduceToNat,reduceCtorEq]) h9 ?_
          rw[hgt]
          simp (disch:=omega) only [↓wr,↓reduceIte,wq,ai,ah,an,ab,ae,ag,aj,isNil,Nat.reduceEqDiff,Nat.reduceAdd,Nat.reduceLT,Nat.reduceLeDiff,Int.reduceNeg,Int.reduceToNat,reduceCtorEq,t1,t2,t7,t8,t9,t91,t92,t93,f8,f2,n82,n82.symm,c0,k0,c1,k1,c2,k2]
          intro h' hh
          have hoA:=ho.put (es':=[[u0,u1,u2,gi (b7 o g.start)]]) rfl rfl
          have hoB:=(hoA.at 5 (by simp)).put (es':=[[u0,u1,u2,gi (b7 o g.start)]]) rfl rfl
          have hv:h'.view=(H2.set b8 (.arr 4 [[u0,u1,u2,gi (b7 o g.start)]])).set b2 (.arr 4 [[u0,u1,u2,gi (b7 o g.start)]]):=hh
          rw[← hv] at hoB
          exact GU (x:=(⟨g.aE,o.map fun x=>g.aM.getD x.toNat ⟨#[]⟩,(g.rules.filter (cF p q)).map (cw (b7 o)),b7 o g.start⟩,kl,0)) (b:=bs) (hoB.own 4 rfl) (hoB.own 3 rfl) (hoB.own 5 rfl) (fun y hy=>hoB.1 y (by
            refine List.mem_cons_of_mem _ (List.mem_cons_of_mem _ (List.mem_cons_of_mem _ (List.mem_cons_of_mem _ (List.mem_cons_of_mem _ (List.mem_cons_of_mem _ ?_)))))
            exact hy)) hbs (hoB.own 2 rfl)
  · rename_i hr
    intro h' hh
    rw[if_neg (by simp[hr])]
    exact zE
theorem A0 {l:List Int} {a b:List Bool} {t:Bool} (h:eh a b) (k:e9 l a t=true):e9 l b t=true:=by
  simp only[e9,List.all_eq_true] at k ⊢
  intro s hs
  have:=k s hs
  by_cases h0:0≤s
  · rw[if_pos h0] at this ⊢; exact this
  · rw[if_neg h0] at this ⊢; exact h.2 _ this
theorem eh.Hw {a b:List Bool} (h:eh a b) (k:eh b a):a=b:=by
  have h1:=h.cJ
  have h2:=k.cJ
  exact h1.2 (by omega)
def jj (g:aH) (t:Bool) (is:List Bool):Prop:=∀ i,is.getD i false=true→∃ r∈g.rules,r.left.toNat=i∧e9 r.right is t=true
theorem jj.step {g:aH} {t:Bool} {is:List Bool} {r:bd} (h:jj g t is) (hr:r∈g.rules):jj g t (jI t is r):=by
  have hle:eh is (jI t is r):=by
    unfold jI
    split
    · exact .set _ _
    · exact .refl _
  intro i hi
  by_cases e:is.getD i false=true
  · obtain ⟨r',h1,h2,h3⟩:=h i e
    exact ⟨r',h1,h2,A0 hle h3⟩
  · unfold jI at hi
    by_cases ha:e9 r.right is t=true
    · rw[if_pos ha] at hi
      have:r.left.toNat=i:=by
        refine Classical.byContradiction fun hne=>e ?_
        simp only[List.getD_eq_getElem?_getD,List.getElem?_set,if_neg hne] at hi ⊢
        exact hi
      exact ⟨r,hr,this,A0 hle ha⟩
    · rw[if_neg ha] at hi; exact absurd hi e
theorem jj.fold {g:aH} {t:Bool} : ∀ (l:List bd) (is:List Bool),(∀ r∈l,r∈g.rules)→jj g t is→jj g t (l.foldl (jI t) is)
  | [],is,_,h=>h
  | r :: l,is,hl,h=>jj.fold l _ (fun x hx=>hl x (by simp[hx])) (h.step (hl r (by simp)))
theorem jj.iter {g:aH} {t:Bool} : ∀ (n:Nat) (is:List Bool),jj g t is→jj g t (iter (pB g t) n is)
  | 0,_,h=>h
  | n+1,is,h=>jj.iter n _ (jj.fold g.rules is (fun _ h=>h) h)
theorem C2 (g:aH) (t:Bool):jj g t (bj g t):=by
  unfold bj
  split
  · refine jj.iter _ _ ?_
    intro i hi
    simp only[bX,List.getD_eq_getElem?_getD,List.getElem?_replicate] at hi
    split at hi <;> simp at hi
  · intro i hi; simp at hi
theorem BY (is:List Bool) (s:Int):eh is (mark is s):=by
  unfold mark
  split
  · exact .set _ _
  · exact .refl _
theorem um:∀ (l:List Int) (is:List Bool),eh is (l.foldl mark is)
  | [],is=>.refl _
  | s :: l,is=>(BY is s).trans (um l _)
theorem zu (p is:List Bool) (r:bd):eh is (jy p is r):=by
  unfold jy
  split
  · exact um _ _
  · exact .refl _
theorem yW (p:List Bool):∀ (l:List bd) (is:List Bool),eh is (l.foldl (jy p) is)
  | [],is=>.refl _
  | r :: l,is=>(zu p is r).trans (yW p l _)
theorem xi {p:List Bool} : ∀ {l:List bd} {is:List Bool},l.foldl (jy p) is=is→∀ r∈l,jy p is r=is
  | [],_,_,_,h=>by simp at h
  | r :: l,is,h,x,hx=>by
    rw[List.foldl_cons] at h
    have h1:=yW p l (jy p is r)
    rw[h] at h1
    have h2:=(h1.Hw (zu p is r))
    rcases List.mem_cons.1 hx with rfl | hx
    · exact h2
    · rw[h2] at h; exact xi h x hx
theorem xZ:∀ {l:List Int} {is:List Bool},l.foldl mark is=is→∀ s∈l,mark is s=is
  | [],_,_,_,h=>by simp at h
  | r :: l,is,h,x,hx=>by
    rw[List.foldl_cons] at h
    have h1:=um l (mark is r)
    rw[h] at h1
    have h2:=(h1.Hw (BY is r))
    rcases List.mem_cons.1 hx with rfl | hx
    · exact h2
    · rw[h2] at h; exact xZ h x hx
theorem xC {g:aH} (hr:bq g=true):sw g (bj g true) (bS g)=bS g∧eh ((bX g).set g.start.toNat true) (bS g):=by
  have hf:=bY hr
  have h:=rQ (mV (bj g true)) g.rules 16 ((bX g).set g.start.toNat true) (by have:=hf.aM; simp[bX]; omega)
  rw[A4,DX hr] at h
  exact h
theorem AN {g:aH} (hr:bq g=true):(bS g).getD g.start.toNat false=true:=by
  have hf:=bY hr
  refine (xC hr).2.2 _ ?_
  have h3:=hf.uY
  have h4:=hf.start
  simp only[List.getD_eq_getElem?_getD]
  rw[List.getElem?_set_self (by simp[bX]; omega)]
  rfl
theorem CL {g:aH} (hr:bq g=true) {r:bd} (hm:r∈g.rules) (hk:cF (bj g true) (bS g) r=true) {s:Int} (hs:s∈r.right) (hn:s < 0):(bS g).getD (-1 - s).toNat false=true:=by
  have hf:=bY hr
  have h1:=xi (xC hr).1 r hm
  unfold jy at h1
  rw[cF] at hk
  rw[if_pos hk] at h1
  have h2:=xZ h1 s hs
  unfold mark at h2
  rw[if_pos hn] at h2
  rw[← h2]
  have hl:=oE hr
  have:=hf.neg hm hs hn
  simp only[List.getD_eq_getElem?_getD]
  rw[List.getElem?_set_self (by omega)]
  rfl
theorem DS {g:aH} (hr:bq g=true) {x:Int} (h0:0≤x) (hp:(bj g true).getD x.toNat false=true) (hq:(bS g).getD x.toNat false=true):x∈cD (bj g true) (bS g) g.rules:=by
  obtain ⟨r,h1,h2,h3⟩:=C2 g true _ hp
  have hf:=bY hr
  have h4:=hf.left r h1
  have:r.left=x:=by omega
  refine ze.2 ⟨r,h1,?_,this⟩
  rw[cF,this,hq,h3]; rfl
theorem C5 (g:aH):(if bq g=true then
    if (bj g true).getD g.start.toNat false=true then (uk g (b7 (cD (bj g true) (bS g) g.rules)) (bj g true) (bS g),cx (bj g true) (bS g) g.rules 0,0)
    else (qP,[],9)
  else (qP,[],1))=kD g:=by
  unfold kD
  by_cases hr:bq g=true
  · rw[if_pos hr,if_pos hr]
    by_cases hp:(bj g true).getD g.start.toNat false=true
    · rw[if_pos hp,if_pos hp]
      have hf:=bY hr
      rw[D0]
      · exact DS hr hf.uY hp (AN hr)
      · intro r hm
        obtain ⟨h1,h2⟩:=List.mem_filter.1 hm
        refine ⟨ze.2 ⟨r,h1,h2,rfl⟩,fun s hs hn=>?_⟩
        refine DS hr (by omega) ?_ (CL hr h1 h2 hs hn)
        rw[cF,Bool.and_eq_true] at h2
        have:=h2.2
        simp only[e9,List.all_eq_true] at this
        have:=this s hs
        rwa [if_neg (by omega)] at this
    · rw[if_neg hp,if_neg hp]
  · rw[if_neg hr,if_neg hr]
theorem Cj (g:aH) (hg:g.Ok) (hs:g.Small):cI Tryz.prog 120 [.agg (aw g)] (w5 (kD g)):=by
  rw[← C5]; exact AQ g hg hs
structure Cell where
  kind:Int
  n:Int
  deriving DecidableEq
structure lD where
  aI:List (List Cell)
  gotos:List (List Int)
  deriving DecidableEq
def nq (g:aH) (n:Nat) (c:Cell):Bool:=if c.kind=0∨c.kind=3 then decide (c.n=0) else if c.kind=1 then decide (0≤c.n) && decide (c.n < n) else if c.kind=2 then decide (0≤c.n) && decide (c.n < g.rules.length) else false
def r6 (g:aH) (n:Nat) (a:List Cell) (l:List Int):Bool:=decide (a.length=g.aE.length+1) && decide (l.length=g.aM.length) && a.all (nq g n) && l.all fun x=>decide (-1≤x) && decide (x < n)
def fe (g:aH) (t:lD):Bool:=bq g && decide (1≤t.aI.length) && decide (t.aI.length≤300) && decide (t.gotos.length=t.aI.length) && (List.range t.aI.length).all fun i=>r6 g t.aI.length (t.aI.getD i []) (t.gotos.getD i [])
theorem getD_some {α:Type} {l:List α} {j:Nat} {d:α} (h:j < l.length):l[j]?=some (l.getD j d):=by simp[List.getD_eq_getElem?_getD,h]
structure GO (g:aH) (t:lD):Prop where
  right:bq g=true
  n1:1≤t.aI.length
  Jh:t.aI.length≤300
  len:t.gotos.length=t.aI.length
  row:∀ i,i < t.aI.length→r6 g t.aI.length (t.aI.getD i []) (t.gotos.getD i [])=true
theorem AJ {g:aH} {t:lD} (h:fe g t=true):GO g t:=by
  unfold fe at h
  simp only[Bool.and_eq_true,decide_eq_true_eq,List.all_eq_true,List.mem_range] at h
  exact ⟨h.1.1.1.1,h.1.1.1.2,h.1.1.2,h.1.2,h.2⟩
section
variable {g r:aH} {p q:List Bool} {o:List Int}
end
section
variable {g r:aH} {p q:List Bool} {o:List Int}
end
def isRed (g:aH):Bool:=(kD g).2.2 == 0 && decide (g=(kD g).1)
def Hr (p:List Int) (i:Nat) (s:Int):Prop:=∃ c,p[i]?=some c∧(c=s∨c = -1)
structure Item where
  fQ:Nat
  dot:Nat
  EG:Nat
  deriving DecidableEq
structure I5 (g:aH) (p:List Int) (S:Nat→List Item):Prop where
  start:∀ (i:Nat) (R:bd),g.rules[i]?=some R→R.left=g.start→⟨i,0,0⟩∈S 0
  term:∀ a x R s,x∈S a→g.rules[x.fQ]?=some R→R.right[x.dot]?=some s→0≤s→Hr p a s→⟨x.fQ,x.dot+1,x.EG⟩∈S (a+1)
  pred:∀ a x R s i R',x∈S a→g.rules[x.fQ]?=some R→R.right[x.dot]?=some s→s < 0→g.rules[i]?=some R'→R'.left = -1 - s→a≤p.length→⟨i,0,a⟩∈S a
  null:∀ a x R s,x∈S a→g.rules[x.fQ]?=some R→R.right[x.dot]?=some s→s < 0→(bj g false).getD (-1 - s).toNat false=true→a≤p.length→⟨x.fQ,x.dot+1,x.EG⟩∈S a
  comp:∀ a y R' x R s,y∈S a→g.rules[y.fQ]?=some R'→y.dot=R'.right.length→y.EG < a→x∈S y.EG→g.rules[x.fQ]?=some R→R.right[x.dot]?=some s→s < 0→R'.left = -1 - s→a≤p.length→⟨x.fQ,x.dot+1,x.EG⟩∈S a
abbrev Tb:=List (List (List Bool))
def b5 (c:Cell):List V:=[gi c.kind,gi c.n]
abbrev uP (l:List Cell):V:=.aP (l.map b5)
def bb (t:lD):List V:=[.aP (t.aI.map fun r=>[uP r]),.aP (t.gotos.map fun r=>[encI r])]
theorem m0 (c:Cell):∀ v∈b5 c,Tree v:=by
  intro v hv; simp[b5] at hv; rcases hv with rfl | rfl <;> exact .val _
theorem AM (l:List Cell):Tree (uP l):=dp _ _ fun c _ v hv=>m0 c v hv
theorem kL (t:lD):∀ v∈bb t,Tree v:=by
  intro v hv
  simp only[bb,List.mem_cons,List.not_mem_nil,or_false] at hv
  rcases hv with rfl | rfl
  · exact dp _ _ fun r _ v hv=>by simp at hv; subst hv; exact AM r
  · exact dp _ _ fun r _ v hv=>by simp at hv; subst hv; exact nG r
structure lD.Ok (t:lD):Prop where
  aI:aU t.aI
  gotos:aU t.gotos
  row:∀ r∈t.aI,aU r∧∀ c∈r,cm c.kind∧cm c.n
  go:∀ r∈t.gotos,aU r∧∀ x∈r,cm x
def lA:SF:=⟨.seq (ao [bo 3 0,bo 4 1,bo 5 2,aL 6 false]) <|
  .seq (.seq (ao [al 7 0 5,ak 8 7]) <|
  .block 0 (.seq (.seq (ao [aq 10 .eql 8 0,aa 9 10]) <|
  .cond (.tmp 9) (.skip) (ao [aq 11 .eql 8 3,aa 9 11])) <|
  .cond (.tmp 9) (.seq (ao [al 12 1 5,ak 13 12,aq 14 .eql 13 0,aa 6 14]) <|
  .ret) (.seq (ao [aq 16 .eql 8 1,aa 15 16]) <|
  .cond (.tmp 15) (.seq (.region false [⟨none,[al 17 1 5,ak 18 17,aq 19 .geq 18 0,aa 20 19]⟩,⟨(some (20,true)),[al 21 1 5,ak 22 21,al 23 0 4,ak 24 23,aC 25 24,aF 26 .lss 22 25]⟩,⟨none,[bh 27 20 26,aa 6 27]⟩]) <|
  .ret) (.seq (ao [aq 29 .eql 8 2,aa 28 29]) <|
  .cond (.tmp 28) (.seq (.region false [⟨none,[al 30 1 5,ak 31 30,aq 32 .geq 31 0,aa 33 32]⟩,⟨(some (33,true)),[al 34 1 5,ak 35 34,al 36 2 3,ak 37 36,aC 38 37,aF 39 .lss 35 38]⟩,⟨none,[bh 40 33 39,aa 6 40]⟩]) <|
  .ret) (.skip))))) <|
  .seq (ao [aL 6 false]) <|
  .ret,
  [.tmp 6],41⟩
theorem pq:aY Tryz.prog 92 [3,4,5]=some lA:=by kernel_rfl
def iQ:SC :=
  .seq (.seq (ao [aa 62 6,al 63 0 3,ak 64 63,aa 65 5,aJ 66 1 64 65,ak 67 66,aC 68 67,aF 69 .lss 62 68]) <|
  .cond (.tmp 69) (.skip) (.exit 2)) <|
  .seq (.block 3 (.seq (ao [aG 72 4 2,aG 73 2 3,al 74 0 3,ak 75 74,aa 76 5,aJ 77 1 75 76,ak 78 77,aa 79 6,aJ 80 2 78 79,aG 81 2 80,aB 82 92 [72,73,81],bC 83 82]) <|
  .cond (.tmp 83) (.seq (ao [aL 4 false]) <|
  .ret) (.skip))) <|
  ao [aa 70 6,aq 71 .add 70 1,aa 6 71]
def iZ:SC :=
  .seq (.seq (ao [aa 84 7,al 85 1 3,ak 86 85,aa 87 5,aJ 88 1 86 87,ak 89 88,aC 90 89,aF 91 .lss 84 90]) <|
  .cond (.tmp 91) (.skip) (.exit 4)) <|
  .seq (.block 5 (.seq (.region false [⟨none,[al 94 1 3,ak 95 94,aa 96 5,aJ 97 1 95 96,ak 98 97,aa 99 7,aJ 100 1 98 99,ak 101 100,aq 102 .lss 101 (-1),aa 103 102]⟩,⟨(some (103,false)),[al 104 1 3,ak 105 104,aa 106 5,aJ 107 1 105 106,ak 108 107,aa 109 7,aJ 110 1 108 109,ak 111 110,al 112 0 3,ak 113 112,aC 114 113,aF 115 .geq 111 114]⟩,⟨none,[aX 116 103 115]⟩]) <|
  .cond (.tmp 116) (.seq (ao [aL 4 false]) <|
  .ret) (.skip))) <|
  ao [aa 92 7,aq 93 .add 92 1,aa 7 93]
def iE:SC :=
  .seq (.seq (ao [aa 32 5,al 33 0 3,ak 34 33,aC 35 34,aF 36 .lss 32 35]) <|
  .cond (.tmp 36) (.skip) (.exit 0)) <|
  .seq (.block 1 (.seq (.seq (.region false [⟨none,[al 39 0 3,ak 40 39,aa 41 5,aJ 42 1 40 41,ak 43 42,aC 44 43,al 45 0 2,ak 46 45,aC 47 46,aq 48 .add 47 1,aF 49 .neq 44 48,aa 50 49]⟩,⟨(some (50,false)),[al 51 1 3,ak 52 51,aa 53 5,aJ 54 1 52 53,ak 55 54,aC 56 55,al 57 1 2,ak 58 57,aC 59 58,aF 60 .neq 56 59]⟩,⟨none,[aX 61 50 60]⟩]) <|
  .cond (.tmp 61) (.seq (ao [aL 4 false]) <|
  .ret) (.skip)) <|
  .seq (.seq (ao [ay 6 0]) <|
  .block 2 (.loop iQ)) <|
  .seq (ao [ay 7 0]) <|
  .block 4 (.loop iZ))) <|
  ao [aa 37 5,aq 38 .add 37 1,aa 5 38]
def ka:SF:=⟨.seq (ao [bo 2 0,bo 3 1,aL 4 false]) <|
  .seq (.seq (.region false [⟨none,[aG 8 4 2,aB 9 66 [8],bC 10 9,aa 11 10]⟩,⟨(some (11,false)),[al 12 0 3,ak 13 12,aC 14 13,aq 15 .lss 14 1]⟩,⟨none,[aX 16 11 15,aa 17 16]⟩,⟨(some (17,false)),[al 18 0 3,ak 19 18,aC 20 19,aq 21 .gtr 20 300]⟩,⟨none,[aX 22 17 21,aa 23 22]⟩,⟨(some (23,false)),[al 24 1 3,ak 25 24,aC 26 25,al 27 0 3,ak 28 27,aC 29 28,aF 30 .neq 26 29]⟩,⟨none,[aX 31 23 30]⟩]) <|
  .cond (.tmp 31) (.seq (ao [aL 4 false]) <|
  .ret) (.skip)) <|
  .seq (.seq (ao [ay 5 0]) <|
  .block 0 (.loop iE)) <|
  .seq (ao [aL 4 true]) <|
  .ret,
  [.tmp 4],117⟩
theorem oK:aY Tryz.prog 47 [2,3]=some ka:=by kernel_rfl
def si:SF:=⟨.seq (ao [bo 3 0,aL 6 false]) <|
  .seq (ao [ay 7 1]) <|
  .seq (.seq (ao [al 8 0 3,ak 9 8]) <|
  .block 0 (.seq (.seq (ao [aq 11 .eql 9 0,aa 10 11]) <|
  .cond (.tmp 10) (.skip) (ao [aq 12 .eql 9 3,aa 10 12])) <|
  .cond (.tmp 10) (.skip) (.seq (ao [aq 14 .eql 9 1,aa 13 14]) <|
  .cond (.tmp 13) (ao [aa 15 1,aa 7 15]) (.seq (ao [aq 17 .eql 9 2,aa 16 17]) <|
  .cond (.tmp 16) (ao [aa 18 2,aa 7 18]) (.seq (ao [aL 6 false]) <|
  .ret))))) <|
  .seq (.region false [⟨none,[al 19 1 3,ak 20 19,aq 21 .geq 20 0,aa 22 21]⟩,⟨(some (22,true)),[al 23 1 3,ak 24 23,aa 25 7,aF 26 .lss 24 25]⟩,⟨none,[bh 27 22 26,aa 6 27]⟩]) <|
  .ret,
  [.tmp 6],28⟩
theorem vu:aY Tryz.prog 89 [3]=some si:=by kernel_rfl
def nI:SF:=⟨.seq (ao [bo 3 0,aL 4 false]) <|
  .seq (ao [aG 5 2 3,ak 6 1,al 7 2 2,ak 8 7,aC 9 8,aB 10 89 [5,6,9],bC 11 10,aa 4 11]) <|
  .ret,
  [.tmp 4],12⟩
theorem sE:aY Tryz.prog 88 [3]=some nI:=by kernel_rfl
def ni:SF:=⟨.seq (ao [aL 3 false]) <|
  .seq (.region false [⟨none,[aa 4 0,aq 5 .lss 4 (-1),aa 6 5]⟩,⟨(some (6,false)),[aa 7 0,ak 8 1,aF 9 .geq 7 8]⟩,⟨none,[aX 10 6 9,aa 3 10]⟩]) <|
  .ret,
  [.tmp 3],11⟩
theorem rq:aY Tryz.prog 91 []=some ni:=by kernel_rfl
def nJ:SC :=
  .seq (ao [aF 33 .lss 32 31]) <|
  .seq (.cond (.tmp 33) (.skip) (.exit 0)) <|
  .seq (.block 1 (.seq (ao [aa 34 32,aJ 35 1 30 32,ak 36 35,aa 6 34,aa 7 36]) <|
  .seq (.seq (.region false [⟨none,[aa 37 7,aC 38 37,al 39 0 2,ak 40 39,aC 41 40,aq 42 .add 41 1,aF 43 .neq 38 42,aa 44 43]⟩,⟨(some (44,false)),[al 45 1 3,ak 46 45,aa 47 6,aJ 48 1 46 47,ak 49 48,aC 50 49,al 51 1 2,ak 52 51,aC 53 52,aF 54 .neq 50 53]⟩,⟨none,[aX 55 44 54]⟩]) <|
  .cond (.tmp 55) (.seq (ao [aL 4 false]) <|
  .ret) (.skip)) <|
  .seq (.seq (ao [aa 56 7,((some 57),.op (.iA 88 [] [(.tmp 5),(.tmp 2)])),aB 58 87 [56,57]]) <|
  .cond (.tmp 58) (.seq (ao [aL 4 false]) <|
  .ret) (.skip)) <|
  .seq (ao [al 59 1 3,ak 60 59,aa 61 6,aJ 62 1 60 61,ak 63 62,((some 64),.op (.iA 91 [] [(.tmp 5)])),aB 65 90 [63,64]]) <|
  .cond (.tmp 65) (.seq (ao [aL 4 false]) <|
  .ret) (.skip))) <|
  ao [aq 66 .add 32 1,aa 32 66]
def qR:SF:=⟨.seq (ao [bo 2 0,bo 3 1,aL 4 false]) <|
  .seq (ao [al 8 0 3,ak 9 8,aC 10 9,((some 5),.op (.alloc [(.val (.int .i64 0))])),(none,.op (.store 1 (.tmp 5) (.tmp 10)))]) <|
  .seq (.seq (.region false [⟨none,[aG 11 4 2,aB 12 64 [11],bC 13 12,aa 14 13]⟩,⟨(some (14,false)),[ak 15 5,aq 16 .lss 15 1]⟩,⟨none,[aX 17 14 16,aa 18 17]⟩,⟨(some (18,false)),[ak 19 5,aq 20 .gtr 19 300]⟩,⟨none,[aX 21 18 20,aa 22 21]⟩,⟨(some (22,false)),[al 23 1 3,ak 24 23,aC 25 24,ak 26 5,aF 27 .neq 25 26]⟩,⟨none,[aX 28 22 27]⟩]) <|
  .cond (.tmp 28) (.seq (ao [aL 4 false]) <|
  .ret) (.skip)) <|
  .seq (.seq (ao [al 29 0 3,ak 30 29,aC 31 30,ay 32 0]) <|
  .block 0 (.loop nJ)) <|
  .seq (ao [aL 4 true]) <|
  .ret,
  [.tmp 4],67⟩
theorem uq:aY Tryz.prog 46 [2,3]=some qR:=by kernel_rfl
theorem E0 (g:aH) (t:lD) (c:Cell):az Tryz.prog 92 [.agg (aw g),.agg (bb t),.agg (b5 c)] (gb (nq g t.aI.length c)):=by
  refine az.val (by
    intro v hv; simp at hv
    rcases hv with rfl | rfl | rfl
    · exact bP _ (dE g)
    · exact bP _ (kL t)
    · exact bP _ (m0 c)) fun H=>?_
  refine aA.of mixed pq ?_
  unfold nq
  simp (disch:=omega) only [↓wr,↓reduceIte,wq,ai,ah,an,ab,ae,ag,aj,isNil,Nat.reduceEqDiff,Nat.reduceAdd,Nat.reduceLT,Nat.reduceLeDiff,Int.reduceNeg,Int.reduceToNat,reduceCtorEq,lA,b5,bb,aw,encS]
  repeat' (first | (refine ar.dec (fun _=>?_) (fun _=>?_)) | (refine ar.eq (fun _=>?_) (fun _=>?_)) | (refine ar.ne (fun _=>?_) (fun _=>?_)) | (refine ar.split (fun _=>?_) (fun _=>?_)) | (simp (disch:=omega) only [↓wr,↓reduceIte,wq,ai,ah,an,ab,ae,ag,aj,isNil,Nat.reduceEqDiff,Nat.reduceAdd,Nat.reduceLT,Nat.reduceLeDiff,Int.reduceNeg,Int.reduceToNat,reduceCtorEq,b5,bb,aw,encS]))
  all_goals simp_all
  all_goals first
    | omega
    | rfl
theorem F6 (c:Cell) (a b:Int):az Tryz.prog 89 [.agg (b5 c),gi a,gi b] (gb (if c.kind=0∨c.kind=3 then decide (c.n=0) else if c.kind=1 then decide (0≤c.n) && decide (c.n < a) else if c.kind=2 then decide (0≤c.n) && decide (c.n < b) else false)):=by
  refine az.val (by
    intro v hv; simp at hv
    rcases hv with rfl | rfl | rfl
    · exact bP _ (m0 c)
    · exact .val _
    · exact .val _) fun H=>?_
  refine aA.of mixed vu ?_
  simp (disch:=omega) only [↓wr,↓reduceIte,wq,ai,ah,an,ab,ae,ag,aj,isNil,Nat.reduceEqDiff,Nat.reduceAdd,Nat.reduceLT,Nat.reduceLeDiff,Int.reduceNeg,Int.reduceToNat,reduceCtorEq,si,b5]
  repeat' (first | (refine ar.dec (fun _=>?_) (fun _=>?_)) | (refine ar.eq (fun _=>?_) (fun _=>?_)) | (refine ar.ne (fun _=>?_) (fun _=>?_)) | (refine ar.split (fun _=>?_) (fun _=>?_)) | (simp (disch:=omega) only [↓wr,↓reduceIte,wq,ai,ah,an,ab,ae,ag,aj,isNil,Nat.reduceEqDiff,Nat.reduceAdd,Nat.reduceLT,Nat.reduceLeDiff,Int.reduceNeg,Int.reduceToNat,reduceCtorEq,b5]))
  all_goals simp_all
  all_goals omega
theorem uV {g:aH} {t:lD} {i:Nat} (hi:i < t.aI.length) (h:r6 g t.aI.length (t.aI.getD i []) (t.gotos.getD i [])=false):fe g t=false:=by
  rw[Bool.eq_false_iff]
  intro hr
  have:=(AJ hr).row i hi
  rw[h] at this; simp at this
theorem BP (g:aH) (t:lD):∀ v∈[V.agg (aw g),.agg (bb t)],Tree v:=by
  intro v hv; simp at hv
  rcases hv with rfl | rfl
  · exact bP _ (dE g)
  · exact bP _ (kL t)
set_option maxHeartbeats 8000000 in
theorem CS (g:aH) (hg:g.Ok) (t:lD) (ht:t.Ok):az Tryz.prog 47 [.agg (aw g),.agg (bb t)] (gb (fe g t)):=by
  refine az.val (BP g t) fun H=>?_
  have hc:=Ci g hg
  have h1:=ht.aI
  have h2:=ht.gotos
  have h3:=hg.aE
  have h4:=hg.aM
  unfold aU at h1 h2 h3 h4
  refine aA.of mixed oK ?_
  simp only[aw,encS] at hc
  simp (disch:=omega) only [↓wr,↓reduceIte,wq,ai,ah,an,ab,ae,ag,aj,isNil,Nat.reduceEqDiff,Nat.reduceAdd,Nat.reduceLT,Nat.reduceLeDiff,Int.reduceNeg,Int.reduceToNat,reduceCtorEq,ka,aw,encS,bb]
  refine aK.pure hc (by kernel_rfl) ?_
  have hno:(bq g && decide (1≤t.aI.length) && decide (t.aI.length≤300) && decide (t.gotos.length=t.aI.length))=false→fe g t=false:=fun h=>by unfold fe; rw[h]; rfl
  simp (disch:=omega) only [↓wr,↓reduceIte,wq,ai,ah,an,ab,ae,ag,aj,isNil,Nat.reduceEqDiff,Nat.reduceAdd,Nat.reduceLT,Nat.reduceLeDiff,Int.reduceNeg,Int.reduceToNat,reduceCtorEq]
  refine ar.split (fun hr=>?_) (fun hr=>?_)
  rotate_left
  · simp (disch:=omega) only [↓wr,↓reduceIte,wq,ai,ah,an,ab,ae,ag,aj,isNil,Nat.reduceEqDiff,Nat.reduceAdd,Nat.reduceLT,Nat.reduceLeDiff,Int.reduceNeg,Int.reduceToNat,reduceCtorEq]
    rw[hno (by rw[hr]; rfl)]
  simp (disch:=omega) only [↓wr,↓reduceIte,wq,ai,ah,an,ab,ae,ag,aj,isNil,Nat.reduceEqDiff,Nat.reduceAdd,Nat.reduceLT,Nat.reduceLeDiff,Int.reduceNeg,Int.reduceToNat,reduceCtorEq,bb]
  refine ar.dec (fun c1=>?_) (fun c1=>?_)
  · simp (disch:=omega) only [↓wr,↓reduceIte,wq,ai,ah,an,ab,ae,ag,aj,isNil,Nat.reduceEqDiff,Nat.reduceAdd,Nat.reduceLT,Nat.reduceLeDiff,Int.reduceNeg,Int.reduceToNat,reduceCtorEq]
    rw[hno (by rw[hr]; simp; omega)]
  simp (disch:=omega) only [↓wr,↓reduceIte,wq,ai,ah,an,ab,ae,ag,aj,isNil,Nat.reduceEqDiff,Nat.reduceAdd,Nat.reduceLT,Nat.reduceLeDiff,Int.reduceNeg,Int.reduceToNat,reduceCtorEq,bb]
  refine ar.dec (fun c2=>?_) (fun c2=>?_)
  · simp (disch:=omega) only [↓wr,↓reduceIte,wq,ai,ah,an,ab,ae,ag,aj,isNil,Nat.reduceEqDiff,Nat.reduceAdd,Nat.reduceLT,Nat.reduceLeDiff,Int.reduceNeg,Int.reduceToNat,reduceCtorEq]
    rw[hno (by rw[hr]; simp; omega)]
  simp (disch:=omega) only [↓wr,↓reduceIte,wq,ai,ah,an,ab,ae,ag,aj,isNil,Nat.reduceEqDiff,Nat.reduceAdd,Nat.reduceLT,Nat.reduceLeDiff,Int.reduceNeg,Int.reduceToNat,reduceCtorEq,bb]
  refine ar.ne (fun c3=>?_) (fun c3=>?_)
  · simp (disch:=omega) only [↓wr,↓reduceIte,wq,ai,ah,an,ab,ae,ag,aj,isNil,Nat.reduceEqDiff,Nat.reduceAdd,Nat.reduceLT,Nat.reduceLeDiff,Int.reduceNeg,Int.reduceToNat,reduceCtorEq]
    rw[hno (by rw[hr]; simp; omega)]
  simp (disch:=omega) only [↓wr,↓reduceIte,wq,ai,ah,an,ab,ae,ag,aj,isNil,Nat.reduceEqDiff,Nat.reduceAdd,Nat.reduceLT,Nat.reduceLeDiff,Int.reduceNeg,Int.reduceToNat,reduceCtorEq]
  have hf:=bY hr
  refine bt.up t.aI.length (fun i T H'=>(∀ k,k < i→r6 g t.aI.length (t.aI.getD k []) (t.gotos.getD k [])=true)∧T 2=.aN (aw g) 0∧T 3=.aN (bb t) 0∧T 5=gi i) ⟨fun k hk=>by omega,rfl,rfl,rfl⟩ ?_
  rintro i k T H' hk ⟨hall,t2,t3,t5⟩
  simp (disch:=omega) only [↓wr,↓reduceIte,wq,ai,ah,an,ab,ae,ag,aj,isNil,Nat.reduceEqDiff,Nat.reduceAdd,Nat.reduceLT,Nat.reduceLeDiff,Int.reduceNeg,Int.reduceToNat,reduceCtorEq,iE,t2,t3,t5,bb]
  refine ar.dec (fun hd=>?_) (fun hd=>?_)
  rotate_left
  · simp (disch:=omega) only [↓wr,↓reduceIte,wq,ai,ah,an,ab,ae,ag,aj,isNil,Nat.reduceEqDiff,Nat.reduceAdd,Nat.reduceLT,Nat.reduceLeDiff,Int.reduceNeg,Int.reduceToNat,reduceCtorEq]
    rw[show fe g t=true from by
      unfold fe
      rw[hr]
      simp only[Bool.and_eq_true,decide_eq_true_eq,List.all_eq_true,List.mem_range,Bool.true_and]
      exact ⟨⟨⟨by omega,by omega⟩,by omega⟩,fun k hk=>hall k (by omega)⟩]
  have hi:i < t.aI.length:=by omega
  have ha:t.aI[i]?=some (t.aI.getD i []):=getD_some hi
  have hl:t.gotos[i]?=some (t.gotos.getD i []):=getD_some (by omega)
  have ra:=ht.row _ (List.mem_of_getElem? ha)
  have rl:=ht.go _ (List.mem_of_getElem? hl)
  have hrow:=@uV g t i hi
  generalize ea:t.aI.getD i []=a at ha ra hrow
  generalize el:t.gotos.getD i []=l at hl rl hrow
  have hrs:r6 g t.aI.length a l=(decide (a.length=g.aE.length+1) && decide (l.length=g.aM.length) && a.all (nq g t.aI.length) && l.all fun x=>decide (-1≤x) && decide (x < t.aI.length)):=rfl
  obtain ⟨sa,ra⟩:=ra
  obtain ⟨sl,rl⟩:=rl
  unfold aU at sa sl
  simp (disch:=omega) only [↓wr,↓reduceIte,wq,ai,ah,an,ab,ae,ag,aj,isNil,Nat.reduceEqDiff,Nat.reduceAdd,Nat.reduceLT,Nat.reduceLeDiff,Int.reduceNeg,Int.reduceToNat,reduceCtorEq,t2,t3,t5,bb,aw,encS,List.getElem?_map,ha,hl,Option.map_some]
  refine ar.ne (fun d1=>?_) (fun d1=>?_)
  · simp (disch:=omega) only [↓wr,↓reduceIte,wq,ai,ah,an,ab,ae,ag,aj,isNil,Nat.reduceEqDiff,Nat.reduceAdd,Nat.reduceLT,Nat.reduceLeDiff,Int.reduceNeg,Int.reduceToNat,reduceCtorEq]
    rw[hrow (by rw[hrs]; simp; omega)]
  simp (disch:=omega) only [↓wr,↓reduceIte,wq,ai,ah,an,ab,ae,ag,aj,isNil,Nat.reduceEqDiff,Nat.reduceAdd,Nat.reduceLT,Nat.reduceLeDiff,Int.reduceNeg,Int.reduceToNat,reduceCtorEq,t2,t3,t5,bb,aw,encS,encI,List.getElem?_map,ha,hl,Option.map_some]
  refine ar.ne (fun d2=>?_) (fun d2=>?_)
  · simp (disch:=omega) only [↓wr,↓reduceIte,wq,ai,ah,an,ab,ae,ag,aj,isNil,Nat.reduceEqDiff,Nat.reduceAdd,Nat.reduceLT,Nat.reduceLeDiff,Int.reduceNeg,Int.reduceToNat,reduceCtorEq]
    rw[hrow (by rw[hrs]; simp; omega)]
  simp (disch:=omega) only [↓wr,↓reduceIte,wq,ai,ah,an,ab,ae,ag,aj,isNil,Nat.reduceEqDiff,Nat.reduceAdd,Nat.reduceLT,Nat.reduceLeDiff,Int.reduceNeg,Int.reduceToNat,reduceCtorEq,t2,t3,t5]
  refine bt.up a.length (fun j T H'=>(∀ k,k < j→nq g t.aI.length (a.getD k ⟨0,0⟩)=true)∧T 2=.aN (aw g) 0∧T 3=.aN (bb t) 0∧T 5=gi i∧T 6=gi j) ⟨fun k hk=>by omega,t2,t3,t5,rfl⟩ ?_
  rintro j k' T' H'' hk' ⟨hfit,t2,t3,t5,t6⟩
  simp (disch:=omega) only [↓wr,↓reduceIte,wq,ai,ah,an,ab,ae,ag,aj,isNil,Nat.reduceEqDiff,Nat.reduceAdd,Nat.reduceLT,Nat.reduceLeDiff,Int.reduceNeg,Int.reduceToNat,reduceCtorEq,iQ,t2,t3,t5,t6,bb,aw,encS,List.getElem?_map,ha,Option.map_some]
  refine ar.dec (fun hj=>?_) (fun hj=>?_)
  · have hja:a[j]?=some (a.getD j ⟨0,0⟩):=getD_some (by omega)
    have hmem:=List.mem_of_getElem? hja
    generalize ec:a.getD j ⟨0,0⟩=c at hja hmem
    have hcall:=E0 g t c
    simp only[aw,encS,bb,b5] at hcall
    simp (disch:=omega) only [↓wr,↓reduceIte,wq,ai,ah,an,ab,ae,ag,aj,isNil,Nat.reduceEqDiff,Nat.reduceAdd,Nat.reduceLT,Nat.reduceLeDiff,Int.reduceNeg,Int.reduceToNat,reduceCtorEq,t2,t3,t5,t6,bb,aw,encS,List.getElem?_map,ha,hja,Option.map_some,b5]
    refine aK.pure hcall (by kernel_rfl) ?_
    simp (disch:=omega) only [↓wr,↓reduceIte,wq,ai,ah,an,ab,ae,ag,aj,isNil,Nat.reduceEqDiff,Nat.reduceAdd,Nat.reduceLT,Nat.reduceLeDiff,Int.reduceNeg,Int.reduceToNat,reduceCtorEq]
    refine ar.split (fun hfc=>?_) (fun hfc=>?_)
    · simp (disch:=omega) only [↓wr,↓reduceIte,wq,ai,ah,an,ab,ae,ag,aj,isNil,Nat.reduceEqDiff,Nat.reduceAdd,Nat.reduceLT,Nat.reduceLeDiff,Int.reduceNeg,Int.reduceToNat,reduceCtorEq,t2,t3,t5,t6]
      exact bw hk' (by omega) ⟨fun k hk=>by
        by_cases e:k=j
        · subst e; rw[ec]; exact hfc
        · exact hfit k (by omega),t2,t3,t5,rfl⟩
    · simp (disch:=omega) only [↓wr,↓reduceIte,wq,ai,ah,an,ab,ae,ag,aj,isNil,Nat.reduceEqDiff,Nat.reduceAdd,Nat.reduceLT,Nat.reduceLeDiff,Int.reduceNeg,Int.reduceToNat,reduceCtorEq]
      rw[hrow (by
        rw[hrs,Bool.eq_false_iff]
        intro h
        simp only[Bool.and_eq_true,List.all_eq_true] at h
        have:=h.1.2 c hmem
        rw[hfc] at this; simp at this)]
  simp (disch:=omega) only [↓wr,↓reduceIte,wq,ai,ah,an,ab,ae,ag,aj,isNil,Nat.reduceEqDiff,Nat.reduceAdd,Nat.reduceLT,Nat.reduceLeDiff,Int.reduceNeg,Int.reduceToNat,reduceCtorEq,t2,t3,t5]
  refine bt.up l.length (fun j T H'=>(∀ k,k < j→-1≤l.getD k 0∧l.getD k 0 < t.aI.length)∧T 2=.aN (aw g) 0∧T 3=.aN (bb t) 0∧T 5=gi i∧T 7=gi j) ⟨fun k hk=>by omega,t2,t3,t5,rfl⟩ ?_
  rintro j2 k2 T2 H2 hk2 ⟨hin,t2,t3,t5,t7⟩
  simp (disch:=omega) only [↓wr,↓reduceIte,wq,ai,ah,an,ab,ae,ag,aj,isNil,Nat.reduceEqDiff,Nat.reduceAdd,Nat.reduceLT,Nat.reduceLeDiff,Int.reduceNeg,Int.reduceToNat,reduceCtorEq,iZ,t2,t3,t5,t7,bb,encI,List.getElem?_map,hl,Option.map_some]
  refine ar.dec (fun hj2=>?_) (fun hj2=>?_)
  · have hjl:l[j2]?=some (l.getD j2 0):=getD_some (by omega)
    have hmem:=List.mem_of_getElem? hjl
    generalize ec:l.getD j2 0=x at hjl hmem
    have bad:¬(-1≤x∧x < (t.aI.length:Int))→r6 g t.aI.length a l=false:=fun hb=>by
      rw[hrs,Bool.eq_false_iff]
      intro h
      simp only[Bool.and_eq_true,List.all_eq_true,decide_eq_true_eq] at h
      exact hb (h.2 x hmem)
    simp (disch:=omega) only [↓wr,↓reduceIte,wq,ai,ah,an,ab,ae,ag,aj,isNil,Nat.reduceEqDiff,Nat.reduceAdd,Nat.reduceLT,Nat.reduceLeDiff,Int.reduceNeg,Int.reduceToNat,reduceCtorEq,t2,t3,t5,t7,bb,encI,List.getElem?_map,hl,hjl,Option.map_some]
    refine ar.dec (fun hx=>?_) (fun hx=>?_)
    · simp (disch:=omega) only [↓wr,↓reduceIte,wq,ai,ah,an,ab,ae,ag,aj,isNil,Nat.reduceEqDiff,Nat.reduceAdd,Nat.reduceLT,Nat.reduceLeDiff,Int.reduceNeg,Int.reduceToNat,reduceCtorEq]
      rw[hrow (bad (by omega))]
    simp (disch:=omega) only [↓wr,↓reduceIte,wq,ai,ah,an,ab,ae,ag,aj,isNil,Nat.reduceEqDiff,Nat.reduceAdd,Nat.reduceLT,Nat.reduceLeDiff,Int.reduceNeg,Int.reduceToNat,reduceCtorEq,t2,t3,t5,t7,bb,encI,List.getElem?_map,hl,hjl,Option.map_some]
    refine ar.dec (fun hy=>?_) (fun hy=>?_)
    · simp (disch:=omega) only [↓wr,↓reduceIte,wq,ai,ah,an,ab,ae,ag,aj,isNil,Nat.reduceEqDiff,Nat.reduceAdd,Nat.reduceLT,Nat.reduceLeDiff,Int.reduceNeg,Int.reduceToNat,reduceCtorEq]
      rw[hrow (bad (by omega))]
    · simp (disch:=omega) only [↓wr,↓reduceIte,wq,ai,ah,an,ab,ae,ag,aj,isNil,Nat.reduceEqDiff,Nat.reduceAdd,Nat.reduceLT,Nat.reduceLeDiff,Int.reduceNeg,Int.reduceToNat,reduceCtorEq,t2,t3,t5,t7]
      exact bw hk2 (by omega) ⟨fun k hk=>by
        by_cases e:k=j2
        · subst e; rw[ec]; omega
        · exact hin k (by omega),t2,t3,t5,rfl⟩
  · simp (disch:=omega) only [↓wr,↓reduceIte,wq,ai,ah,an,ab,ae,ag,aj,isNil,Nat.reduceEqDiff,Nat.reduceAdd,Nat.reduceLT,Nat.reduceLeDiff,Int.reduceNeg,Int.reduceToNat,reduceCtorEq,t2,t3,t5]
    refine bw hk (by omega) ⟨fun k hk=>?_,t2,t3,rfl⟩
    by_cases e:k=i
    · subst e
      rw[ea,el,hrs]
      simp only[Bool.and_eq_true,List.all_eq_true,decide_eq_true_eq]
      refine ⟨⟨⟨by omega,by omega⟩,fun c hc=>?_⟩,fun x hx=>?_⟩
      · obtain ⟨q,hq⟩:=List.mem_iff_getElem?.1 hc
        have hql:=(List.getElem?_eq_some_iff.1 hq).1
        have:=hfit q (by omega)
        rwa [List.getD_eq_getElem?_getD,hq] at this
      · obtain ⟨q,hq⟩:=List.mem_iff_getElem?.1 hx
        have hql:=(List.getElem?_eq_some_iff.1 hq).1
        have:=hin q (by omega)
        rwa [List.getD_eq_getElem?_getD,hq] at this
    · exact hall k (by omega)
def cX:SC :=
  .seq (ao [aF 9 .lss 8 7]) <|
  .seq (.cond (.tmp 9) (.skip) (.exit 0)) <|
  .seq (.block 1 (.seq (ao [aa 10 8,aa 5 10]) <|
  .seq (ao [aa 11 1,aa 12 0,aa 13 5,aJ 14 2 12 13,aG 15 2 14,((some 16),.call (.tmp 11) [(.tmp 15)])]) <|
  .cond (.tmp 16) (.seq (ao [aa 17 5,aa 4 17]) <|
  .ret) (.skip))) <|
  ao [aq 18 .add 8 1,aa 8 18]
def dc:SF:=⟨.seq (ao [ay 4 0]) <|
  .seq (.seq (ao [aa 6 0,aC 7 6,ay 8 0]) <|
  .block 0 (.loop cX)) <|
  .seq (ao [ay 4 (-1)]) <|
  .ret,
  [.tmp 4],19⟩
theorem fi:aY Tryz.prog 136 []=some dc:=by kernel_rfl
def cP:SF:=⟨.seq (ao [aL 4 false]) <|
  .seq (ao [aa 5 0,aa 6 1,aB 7 136 [5,6],aq 8 .geq 7 0,aa 4 8]) <|
  .ret,
  [.tmp 4],9⟩
theorem eK:aY Tryz.prog 87 []=some cP:=by kernel_rfl
set_option maxHeartbeats 2000000 in
theorem yg (l:List Cell) (hl:aU l) (f:FuncId) (cap:List V) (p:Cell→Bool) (H:View) (hf:∀ x∈l,aA Tryz.prog f (.agg (b5 x) :: cap) H fun r H'=>r=gb (p x)∧H'=H) :
    aA Tryz.prog 136 [.aP (l.map fun x=>b5 x),.fn f [] cap] H fun r H'=>r=gi (dC p l 0)∧H'=H:=by
  refine aA.of mixed fi ?_
  unfold aU at hl
  simp (disch:=omega) only [↓wr,↓reduceIte,wq,ai,ah,an,ab,ae,ag,aj,isNil,Nat.reduceEqDiff,Nat.reduceAdd,Nat.reduceLT,Nat.reduceLeDiff,Int.reduceNeg,Int.reduceToNat,reduceCtorEq,dc]
  refine bt.up l.length (fun i T H'=>H=H'∧dC p (l.drop i) i=dC p l 0∧T 0=.aP (l.map fun x=>b5 x)∧T 1=.fn f [] cap∧T 7=gi l.length∧T 8=gi i) ⟨rfl,rfl,rfl,rfl,rfl,rfl⟩ ?_
  rintro i k T _ hk ⟨rfl,hi,h0,h1,h7,h8⟩
  simp (disch:=omega) only [↓wr,↓reduceIte,wq,ai,ah,an,ab,ae,ag,aj,isNil,Nat.reduceEqDiff,Nat.reduceAdd,Nat.reduceLT,Nat.reduceLeDiff,Int.reduceNeg,Int.reduceToNat,reduceCtorEq,cX,h0,h1,h7,h8]
  refine ar.dec (fun hc=>?_) (fun hc=>?_)
  · have hg:l[i]?=some (l[i]'(by omega)):=List.getElem?_eq_getElem (by omega)
    have hm:l[i]'(by omega)∈l:=List.getElem_mem _
    rw[dk (show i < l.length by omega)] at hi
    generalize l[i]'(by omega)=x at hg hm hi
    simp (disch:=omega) only [↓wr,↓reduceIte,wq,ai,ah,an,ab,ae,ag,aj,isNil,Nat.reduceEqDiff,Nat.reduceAdd,Nat.reduceLT,Nat.reduceLeDiff,Int.reduceNeg,Int.reduceToNat,reduceCtorEq,h0,h1,h7,h8,List.getElem?_map,hg,Option.map_some,b5]
    have hcall:=hf x hm
    simp only[b5] at hcall
    refine aK.mJ (hcall.mono ?_)
    rintro r H2 ⟨rfl,rfl⟩
    simp only[dC] at hi
    simp (disch:=omega) only [↓wr,↓reduceIte,wq,ai,ah,an,ab,ae,ag,aj,isNil,Nat.reduceEqDiff,Nat.reduceAdd,Nat.reduceLT,Nat.reduceLeDiff,Int.reduceNeg,Int.reduceToNat,reduceCtorEq]
    refine ar.split (fun hp=>?_) (fun hp=>?_)
    · simp (disch:=omega) only [↓wr,↓reduceIte,wq,ai,ah,an,ab,ae,ag,aj,isNil,Nat.reduceEqDiff,Nat.reduceAdd,Nat.reduceLT,Nat.reduceLeDiff,Int.reduceNeg,Int.reduceToNat,reduceCtorEq,h0,h1,h7,h8]
      rw[← hi,if_pos hp]
    · simp (disch:=omega) only [↓wr,↓reduceIte,wq,ai,ah,an,ab,ae,ag,aj,isNil,Nat.reduceEqDiff,Nat.reduceAdd,Nat.reduceLT,Nat.reduceLeDiff,Int.reduceNeg,Int.reduceToNat,reduceCtorEq,h0,h1,h7,h8]
      refine bw hk (by omega) ⟨rfl,?_,h0,h1,h7,rfl⟩
      rw[if_neg (by simp[hp])] at hi
      push_cast; exact hi
  · rw[List.drop_eq_nil_of_le (by omega)] at hi
    simp (disch:=omega) only [↓wr,↓reduceIte,wq,ai,ah,an,ab,ae,ag,aj,isNil,Nat.reduceEqDiff,Nat.reduceAdd,Nat.reduceLT,Nat.reduceLeDiff,Int.reduceNeg,Int.reduceToNat,reduceCtorEq,h0,h1,h7,h8]
    rw[← hi]; rfl
theorem tM (l:List Cell) (hl:aU l) (f:FuncId) (cap:List V) (p:Cell→Bool) (H:View) (hf:∀ x∈l,aA Tryz.prog f (.agg (b5 x) :: cap) H fun r H'=>r=gb (p x)∧H'=H) :
    aA Tryz.prog 87 [.aP (l.map fun x=>b5 x),.fn f [] cap] H fun r H'=>r=gb (l.any p)∧H'=H:=by
  refine aA.of mixed eK ?_
  simp (disch:=omega) only [↓wr,↓reduceIte,wq,ai,ah,an,ab,ae,ag,aj,isNil,Nat.reduceEqDiff,Nat.reduceAdd,Nat.reduceLT,Nat.reduceLeDiff,Int.reduceNeg,Int.reduceToNat,reduceCtorEq,cP]
  refine aK.mJ ((yg l hl f cap p H hf).mono ?_)
  rintro r H2 ⟨rfl,rfl⟩
  simp (disch:=omega) only [↓wr,↓reduceIte,wq,ai,ah,an,ab,ae,ag,aj,isNil,Nat.reduceEqDiff,Nat.reduceAdd,Nat.reduceLT,Nat.reduceLeDiff,Int.reduceNeg,Int.reduceToNat,reduceCtorEq]
  rw[← kh _ l 0 (by omega)]
end Gv
