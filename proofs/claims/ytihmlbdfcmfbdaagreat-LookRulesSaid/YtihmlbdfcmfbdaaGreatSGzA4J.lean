/-
  Part 10 of the proof: what the machine does and what the functions answer.
  Conditions: those that each lemma names.
-/
import Derived.ProofKit
import Derived.SizedLaws
import Derived.Test.YtihmlbdfcmfbdaaGreatSGzA4I
set_option linter.unusedSimpArgs false
set_option linter.unusedVariables false
set_option maxRecDepth 100000
namespace Gv
open Go Go.Proofs
def qf (hp:Array Obj) (cs:List Value) (vs:List V):Prop :=
  vs.length=cs.length∧∀ μ i,i < vs.length→aq (fun b=>b < hp.size) μ hp (vs.getD i .any) (cs.getD i undef)
def Wt {H:Type} (P:Program) (t:TypeId) (d:DataW H):Prop:=∀ n∈d.weights P t,n≤reachBytes
def yW (P:Program) (t:TypeId) {α:Type} (f:α→List V) (ok:α→Prop):Prop :=
  ∀ {H:Type} (enc:TypeId × Value→H) (w:World) (base:Nat) (sp:Nat→Bool) (held:Bool) (fuel:Nat) (cs:List Value) (x:DataW H × List MemPlace),
    DataW.trod enc P w base sp held fuel t cs=some x→Wt P t x.1→∃ a,ok a∧qf w.heap cs (f a)
theorem uf {hp:Array Obj} {c:Value} {v:V} (h:∀ μ,aq (fun b=>b < hp.size) μ hp v c):qf hp [c] [v]:=by
  refine ⟨rfl,fun μ i hi=>?_⟩
  match i,hi with
  | 0,_=>exact h μ
theorem Fk {P:Program} {t:TypeId} {k:IntKind} (ht:P.underlying t=some (.int k)):yW P t (fun n=>[.val (.int k n)]) (fun n=>(Lit.int k n).wf=true):=by
  intro H enc w base sp held fuel cs x h _
  obtain ⟨n,rfl,_,hw⟩:=DataW.trod_int ht h
  exact ⟨n,hw,uf fun μ=>.val _ rfl⟩
theorem Av {w:World} {base:Nat} {a:Addr} {n:Nat} {cs:List Value} (h:w.cells? base a n=some cs):cs.length=n∧∀ i,i < n→w.cell? (a.add i)=some (cs.getD i undef):=by
  obtain ⟨_,h2,h3⟩:=World.cells?_some h
  refine ⟨h2,fun i hi=>?_⟩
  rw[h3 i hi,List.getD_eq_getElem?_getD,List.getElem?_eq_getElem (by omega)]
  rfl
theorem EJ {w:World} {a:Addr} {v:Value} (h:w.cell? a=some v):a.spot=none∧a.block < w.heap.size:=by
  unfold World.cell? at h
  split at h
  · rename_i c _ _ hb
    split at h
    · simp at h
    · rename_i hs
      exact ⟨by simpa using hs,(Array.getElem?_eq_some_iff.1 hb).1⟩
  · simp at h
theorem Fs {H:Type} {P:Program} {e:TypeId} : ∀ {l:List (DataW H)},(∀ n∈DataW.weightsAll P e l,n≤reachBytes)→∀ d∈l,Wt P e d
  | [],_,d,hd=>by simp at hd
  | x :: l,h,d,hd=>by
    simp only[DataW.weightsAll,List.mem_append] at h
    rcases List.mem_cons.1 hd with rfl | hd
    · exact fun n hn=>h n (.inl hn)
    · exact Fs (fun n hn=>h n (.inr hn)) d hd
theorem G6 {H:Type} {P:Program} {t e:TypeId} {elems spare:List (DataW H)} (ht:P.underlying t=some (.slice e)) (h:Wt P t (.slice elems spare)) :
    (elems.length+spare.length) * P.bytesOf e≤reachBytes∧∀ d∈elems,Wt P e d:=by
  unfold Wt at h
  unfold DataW.weights at h
  rw[ht] at h
  simp only[List.mem_cons,List.mem_append] at h
  exact ⟨h _ (.inl rfl),Fs fun n hn=>h n (.inr (.inl hn))⟩
theorem FI {H:Type} {P:Program} {t:TypeId} {fs:Array Field} {parts:List (DataW H)} (ht:P.underlying t=some (.struct fs)) (h:Wt P t (.agg parts)) {j:Nat} {f:Field} {d:DataW H} (hf:fs[j]?=some f) (hd:parts[j]?=some d):Wt P f.type d:=by
  intro n hn
  refine h n ?_
  unfold DataW.weights
  rw[ht]
  exact DataW.weights_mem_each (j:=j) (t:=f.type) (by simp[hf]) hd n hn
theorem Cn {α:Type} {φ:Nat→α→Prop} : ∀ (n:Nat),(∀ i,i < n→∃ a,φ i a)→∃ l:List α,l.length=n∧∀ i (hi:i < l.length),φ i l[i]
  | 0,_=>⟨[],rfl,fun i hi=>by simp at hi⟩
  | n+1,h=>by
    obtain ⟨l,hl,hφ⟩:=Cn n fun i hi=>h i (by omega)
    obtain ⟨a,ha⟩:=h n (by omega)
    refine ⟨l ++ [a],by simp[hl],fun i hi=>?_⟩
    by_cases e:i < l.length
    · rw[List.getElem_append_left e]; exact hφ i e
    · have:i=n:=by simp at hi; omega
      subst this
      rw[List.getElem_append_right (by omega)]
      simp only[hl,Nat.sub_self,List.getElem_cons_zero]; exact ha
theorem Hw {P:Program} {t e:TypeId} {α:Type} {f:α→List V} {ok:α→Prop} (ht:P.underlying t=some (.slice e)) (hc:0 < P.cellsOf e) (hb:0 < P.bytesOf e) (he:yW P e f ok) :
    yW P t (fun l:List α=>[.aF (l.map f)]) (fun l=>l.length < 4611686018427387904∧∀ a∈l,ok a):=by
  intro H enc w base sp held fuel cs x h hw
  rcases DataW.trod_slice ht h with ⟨rfl,rfl⟩ | ⟨a,len,cap,elems,rest,n,_,rfl,rfl,hba,hl,hm,hlen,hel,_,_⟩
  · exact ⟨[],⟨by simp,by simp⟩,uf fun μ=>.eF none 0 (by simp)⟩
  obtain ⟨hw1,hw2⟩:=G6 ht hw
  simp only[List.length_map] at hw1
  have hlt:len < 4611686018427387904:=by
    have h1:len * 1≤(elems.length+rest.length) * P.bytesOf e:=Nat.mul_le_mul (by omega) hb
    unfold reachBytes at hw1
    omega
  have each:∀ i,i < len→∃ y,ok y∧∃ ci,w.cells? base (a.add (i * P.cellsOf e)) (P.cellsOf e)=some ci∧qf w.heap ci (f y):=by
    intro i hi
    have h1:=hel i hi
    have h2:elems[i]?=some (elems[i]'(by omega)):=List.getElem?_eq_getElem (by omega)
    have hmem:elems[i]'(by omega)∈elems:=List.getElem_mem _
    rw[h2,Option.bind_eq_some_iff] at h1
    obtain ⟨ci,h3,h4⟩:=h1
    obtain ⟨y,h5,h6⟩:=he enc w base sp held n ci _ h4 (hw2 _ (List.mem_map.2 ⟨_,hmem,rfl⟩))
    exact ⟨y,h5,ci,h3,h6⟩
  obtain ⟨l,hll,hφ⟩:=Cn len each
  subst hll
  refine ⟨l,⟨hlt,fun y hy=>?_⟩,uf fun μ=>?_⟩
  · obtain ⟨i,hi,rfl⟩:=List.getElem_of_mem hy
    exact (hφ i hi).1
  by_cases h0:l=[]
  · subst h0
    exact .eF (some a) cap (by simp)
  have hpos:0 < l.length:=List.length_pos_iff.2 h0
  have hcell:∀ i j,i < l.length→j < P.cellsOf e→∃ c,cellAt w.heap a.block (a.off+i * P.cellsOf e+j)=some c∧a.block < w.heap.size∧(i=0→j=0→a.spot=none)∧∀ (hi:i < l.length),aq (fun b=>b < w.heap.size) μ w.heap ((f l[i]).getD j .any) c:=by
    intro i j hi hj
    obtain ⟨_,ci,h1,h2⟩:=hφ i hi
    obtain ⟨h3,h4⟩:=Av h1
    have h5:=h4 j hj
    have h6:=EJ h5
    have hbk:((a.add (i * P.cellsOf e)).add j).block=a.block:=by simp only[Addr.add]; split <;> split <;> rfl
    have hof:((a.add (i * P.cellsOf e)).add j).off=a.off+i * P.cellsOf e+j:=by
      simp only[Addr.add]; split <;> split <;> simp_all
    refine ⟨ci.getD j undef,?_,by rw[← hbk]; exact h6.2,?_,fun _=>?_⟩
    · rw[← hof,← hbk,← l5]
      rw[← h5]
      congr 1
      generalize (a.add (i * P.cellsOf e)).add j=b at h6
      cases b
      simp at h6 ⊢
      exact h6.1.symm
    · rintro rfl rfl
      simp[Addr.add] at h6
      exact h6.1
    · exact h2.2 μ j (by rw[h2.1,h3]; exact hj)
  obtain ⟨_,_,hz,hs,_⟩:=hcell 0 0 hpos hc
  have ha:a=⟨a.block,a.off,none⟩:=by
    cases a; simp at hs ⊢; exact hs
  have hlf:∀ i,i < l.length→(f (l[i]?.getD (l[0]'hpos))).length=P.cellsOf e:=fun i hi=>by
    obtain ⟨_,ci,h1,h2⟩:=hφ i hi
    rw[List.getElem?_eq_getElem hi,Option.getD_some,h2.1,(Av h1).1]
  have hgd:∀ i (hi:i < l.length),(l.map f).getD i []=f l[i]:=fun i hi=>by simp[List.getD_eq_getElem?_getD,hi]
  have hcl:(l.map f).length=l.length:=by simp
  have:=aq.aF (Z:=fun b=>b < w.heap.size) (μ:=μ) (hp:=w.heap) (l.map f) a.block a.off (P.cellsOf e) cap (fun i j=>(cellAt w.heap a.block (a.off+i * P.cellsOf e+j)).getD undef) hz (by rw[hcl]; exact hl)
    (fun i hi=>by
      rw[hcl] at hi
      have:=hlf i hi
      rw[List.getElem?_eq_getElem hi,Option.getD_some] at this
      rw[hgd i hi]; exact this)
    (fun i j hi hj=>by
      rw[hcl] at hi
      obtain ⟨c,h1,_⟩:=hcell i j hi hj
      rw[h1]; rfl)
    (fun i j hi hj=>by
      rw[hcl] at hi
      obtain ⟨c,h1,_,_,h2⟩:=hcell i j hi hj
      rw[h1,hgd i hi]; exact h2 hi)
  rw[hcl,← ha] at this
  exact this
theorem GA {P:Program} {t:TypeId} {fs:Array Field} (ht:P.underlying t=some (.struct fs)) (hf:∀ (i:Nat) (f:Field),fs[i]?=some f→f.offset=i∧P.cellsOf f.type=1) (hn:P.cellsOf t=fs.size)
    {H:Type} {enc:TypeId × Value→H} {w:World} {base:Nat} {sp:Nat→Bool} {held:Bool} {fuel:Nat} {cs:List Value} {x:DataW H × List MemPlace} (h:DataW.trod enc P w base sp held fuel t cs=some x) (hw:Wt P t x.1) :
    cs.length=fs.size∧∀ (i:Nat) (f:Field),fs[i]?=some f→∀ {α:Type} {g:α→List V} {ok:α→Prop},yW P f.type g ok→∃ a,ok a∧qf w.heap [cs.getD i undef] (g a):=by
  obtain ⟨xs,n,rfl,rfl,hl,hlen,hx⟩:=DataW.trod_struct ht h
  refine ⟨by rw[hl,hn],fun i f hi α g ok hr=>?_⟩
  obtain ⟨h1,h2⟩:=hf i f hi
  have hi2:i < fs.size:=(Array.getElem?_eq_some_iff.1 hi).1
  have h3:=hx i f hi
  have h4:xs[i]?=some (xs[i]'(by omega)):=List.getElem?_eq_getElem (by omega)
  rw[h4,h1,h2] at h3
  have h5:(cs.drop i).take 1=[cs.getD i undef]:=by
    rw[List.getD_eq_getElem?_getD,List.getElem?_eq_getElem (by omega),List.drop_eq_getElem_cons (by omega)]
    rfl
  rw[h5] at h3
  exact hr enc w base sp held n _ _ h3 (FI ht hw hi (by simp[h4]))
theorem xN {hp:Array Obj} {c:Value} {cs:List Value} {v:V} {vs:List V} (h:qf hp [c] [v]) (k:qf hp cs vs):qf hp (c :: cs) (v :: vs):=by
  refine ⟨by simp[k.1],fun μ i hi=>?_⟩
  cases i with
  | zero=>exact h.2 μ 0 (by simp)
  | succ i=>exact k.2 μ i (by simpa using hi)
theorem Ha {hp:Array Obj} : qf hp [] []:=⟨rfl,fun μ i hi=>by simp at hi⟩
theorem IN {n:Int} (h:(Lit.int .i64 n).wf=true):cd n:=by
  simp only[Lit.wf,Bool.and_eq_true,decide_eq_true_eq] at h
  exact h
theorem Ht:yW Tryz.prog 3 (fun n=>[gi n]) cd:=fun enc w base sp held fuel cs x h hw=>by
  obtain ⟨n,h1,h2⟩:=Fk Tryz.underlying3 enc w base sp held fuel cs x h hw
  exact ⟨n,IN h1,h2⟩
def nC:SC :=
  .seq (ar [aM 44 .lss 43 42]) <|
  .seq (.cond (.tmp 44) (.skip) (.exit 0)) <|
  .seq (.block 1 (.seq (ar [aa 45 43,aL 46 3 41 43,aO 47 3 46,((some 11),.op (.alloc [(.val (.int .i64 0)),(.emp 1),(.val (.int .i64 0))])),aa 10 45,(none,.op (.store 3 (.tmp 11) (.tmp 47)))]) <|
  .seq (.seq (.region false [⟨none,[aa 48 6,al 49 0 11,ak 50 49,aL 51 1 48 50,ak 52 51,cF 53 52,aa 54 53]⟩,⟨(some (54,false)),[aO 55 3 11,aa 56 5,aD 57 160 [55,56],cF 58 57]⟩,⟨none,[bU 59 54 58]⟩]) <|
  .cond (.tmp 59) (.exit 1) (.skip)) <|
  .seq (ar [aa 60 7,aa 61 10,((some 62),.op (.bg 1 1 [(.val (.int .i64 0))] [(0,(.tmp 61))])),((some 63),.op (.app 1 8 (.tmp 60) (.tmp 62))),aa 7 63]) <|
  .seq (ar [aa 65 9,al 66 0 11,ak 67 66,((some 68),.op (.old (.lookup 204 (.tmp 65) (.tmp 67) true) 30)),aa 64 68,ct 69 0 64,ct 70 1 64,aa 12 69,aa 13 70]) <|
  .seq (ar [aa 71 13,cF 72 71]) <|
  .cond (.tmp 72) (.seq (ar [aa 73 9,al 74 0 11,ak 75 74,al 76 1 8,ak 77 76,aK 78 77,(none,.op (.old (.mapUpdate 204 (.tmp 73) (.tmp 75) (.tmp 78)) 0))]) <|
  .region false [⟨none,[al 79 1 8,ak 80 79,al 81 1 1,ak 82 81,al 83 0 11,ak 84 83,aL 85 1 82 84,ak 86 85,((some 87),.op (.bg 1 1 [(.val (.string ⟨#[]⟩))] [(0,(.tmp 86))])),((some 88),.op (.app 1 16 (.tmp 80) (.tmp 87))),al 89 1 8,(none,.op (.store 1 (.tmp 89) (.tmp 88)))]⟩]) (.skip))) <|
  ar [av 90 .add 43 1,aa 43 90]
def na:SC :=
  .seq (ar [aM 116 .lss 115 114]) <|
  .seq (.cond (.tmp 116) (.skip) (.exit 4)) <|
  .seq (.block 5 (.seq (ar [aa 117 115,aL 118 1 113 115,ak 119 118,aa 18 117,aa 19 119]) <|
  .seq (ar [aa 120 19,av 121 .lss 120 0]) <|
  .cond (.tmp 121) (ar [al 122 1 17,ak 123 122,aa 124 18,aa 125 9,aa 126 19,((some 127),.op (.arith .sub (.val (.val (.int .i64 (-1)))) (.tmp 126))),((some 128),.op (.old (.lookup 204 (.tmp 125) (.tmp 127) false) 3)),((some 129),.op (.arith .sub (.val (.val (.int .i64 (-1)))) (.tmp 128))),aL 130 1 123 124,(none,.op (.store 1 (.tmp 130) (.tmp 129)))]) (.skip))) <|
  ar [av 131 .add 115 1,aa 115 131]
def nf:SC :=
  .seq (ar [aM 94 .lss 93 92]) <|
  .seq (.cond (.tmp 94) (.skip) (.exit 2)) <|
  .seq (.block 3 (.seq (ar [aL 95 1 91 93,ak 96 95,aa 15 96]) <|
  .seq (ar [al 97 2 1,ak 98 97,aa 99 15,aL 100 3 98 99,aO 101 3 100,((some 16),.op (.alloc [(.val (.int .i64 0)),(.emp 1),(.val (.int .i64 0))])),(none,.op (.store 3 (.tmp 16) (.tmp 101)))]) <|
  .seq (.region true [⟨none,[aa 102 9,al 103 0 16,ak 104 103,((some 105),.op (.old (.lookup 204 (.tmp 102) (.tmp 104) false) 3)),al 106 1 16,ak 107 106,aD 108 161 [107],al 109 2 16,ak 110 109,((some 111),.op (.build [(.val (.int .i64 0)),(.emp 1),(.val (.int .i64 0))] [(0,1,(.tmp 105)),(1,1,(.tmp 108)),(2,1,(.tmp 110))])),((some 17),.op (.alloc [(.val (.int .i64 0)),(.emp 1),(.val (.int .i64 0))])),(none,.op (.store 3 (.tmp 17) (.tmp 111)))]⟩]) <|
  .seq (.seq (ar [al 112 1 17,ak 113 112,aK 114 113,aA 115 0]) <|
  .block 4 (.loop na)) <|
  ar [al 132 2 8,ak 133 132,aO 134 3 17,((some 135),.op (.bg 1 3 [(.val (.int .i64 0)),(.emp 1),(.val (.int .i64 0))] [(0,(.tmp 134))])),((some 136),.op (.app 3 40 (.tmp 133) (.tmp 135))),al 137 2 8,(none,.op (.store 1 (.tmp 137) (.tmp 136)))])) <|
  ar [av 138 .add 93 1,aa 93 138]
def qP:SF:=⟨.seq (ar [cX 1 0,((some 2),.op (.alloc [(.emp 1),(.emp 1),(.emp 1),(.val (.int .i64 0))])),((some 3),.op (.aX (.val (.emp 1)))),aA 4 0]) <|
  .seq (.seq (ar [aO 20 4 1,aD 21 52 [20],cF 22 21]) <|
  .cond (.tmp 22) (.seq (ar [((some 23),.op (.build [(.emp 1),(.emp 1),(.emp 1),(.val (.int .i64 0))] [])),(none,.op (.store 4 (.tmp 2) (.tmp 23))),((some 3),.op (.aX (.val (.emp 1)))),aA 4 1]) <|
  .ret) (.skip)) <|
  .seq (.region true [⟨none,[aO 24 4 1,aD 25 157 [24],aO 26 4 1,aD 27 158 [26],aa 5 25,aa 6 27]⟩]) <|
  .seq (.seq (ar [aa 28 5,al 29 3 1,ak 30 29,aL 31 1 28 30,ak 32 31,cF 33 32]) <|
  .cond (.tmp 33) (.seq (ar [((some 34),.op (.build [(.emp 1),(.emp 1),(.emp 1),(.val (.int .i64 0))] [])),(none,.op (.store 4 (.tmp 2) (.tmp 34))),((some 3),.op (.aX (.val (.emp 1)))),aA 4 9]) <|
  .ret) (.skip)) <|
  .seq (ar [((some 7),.op (.aX (.val (.emp 1))))]) <|
  .seq (ar [al 35 0 1,ak 36 35,aD 37 159 [36],((some 38),.op (.build [(.emp 1),(.emp 1),(.emp 1),(.val (.int .i64 0))] [(0,1,(.tmp 37))])),((some 8),.op (.alloc [(.emp 1),(.emp 1),(.emp 1),(.val (.int .i64 0))])),(none,.op (.store 4 (.tmp 8) (.tmp 38)))]) <|
  .seq (ar [((some 39),.op (.jt)),aa 9 39]) <|
  .seq (.seq (ar [al 40 2 1,ak 41 40,aK 42 41,aA 43 0]) <|
  .block 0 (.loop nC)) <|
  .seq (.seq (ar [aa 91 7,aK 92 91,aA 93 0]) <|
  .block 2 (.loop nf)) <|
  .seq (ar [aa 139 9,al 140 3 1,ak 141 140,((some 142),.op (.old (.lookup 204 (.tmp 139) (.tmp 141) false) 3)),al 143 3 8,(none,.op (.store 1 (.tmp 143) (.tmp 142)))]) <|
  .seq (ar [aO 144 4 8,aa 145 7,(none,.op (.store 4 (.tmp 2) (.tmp 144))),aa 3 145,aA 4 0]) <|
  .ret,
  [.cell 2 (some 4),.tmp 3,.tmp 4],146⟩
theorem uu:bm Tryz.prog 109 [1]=some qP:=by kernel_rfl
abbrev rp (m:cB Int):List (V × V × Nat):=dd (Value.int .i64) m
def JX (g:ao) (p q:List Bool) (b2 b8 b9:Nat) (u0:V) (i:Nat) (T:Env) (H:View):Prop :=
  (∃ u1 u3:V,T 7=u3∧(∀ x∈bV p q (g.rules.take i),0≤x∧x < g.ax.length)∧(bV p q (g.rules.take i)).length≤i ∧
    bj H [(.sl b8 0 1 4,4,[[u0,u1,.emp 1,gi 0]]),(u3,1,cA (cr p q (g.rules.take i) 0)),
      (u1,1,nG ((bV p q (g.rules.take i)).map fun x=>g.ax.getD x.toNat ⟨#[]⟩)),(u0,3,g.az.map cq),(.sl b2 0 1 4,4,[[.emp 1,.emp 1,.emp 1,gi 0]])] ∧
    ∃ m c,H b9=.map (rp m) c∧jb gi (fG (bV p q (g.rules.take i)) 0) m) ∧
  T 1=.aY (aR g) 0∧T 2=.ptr b2 0 0∧T 5=cg p∧T 6=cg q∧T 8=.ptr b8 0 0∧T 9=.mp b9∧T 41=.aF (g.rules.map bf)∧T 42=gi g.rules.length∧T 43=gi i
theorem xL {α:Type} {x s:α} : ∀ {a d:List α} {k:Nat},a.length=k→(a ++ s :: d).set k x=a ++ x :: d
  | [],d,k,h=>by simp at h; subst h; rfl
  | y :: a,d,k,h=>by
    cases k with
    | zero=>simp at h
    | succ k=>simp only[List.cons_append,List.set_cons_succ]; rw[xL (by simpa using h)]
def K3 (g:ao) (p q:List Bool) (b2 b8 b9:Nat) (u0 u1 u3:V) (o kl:List Int) (mm:cB Int) (cc:Nat) (i:Nat) (T:Env) (H:View):Prop :=
  (∃ (u2:V) (bs:v7),bs.map (·.2)=((g.rules.filter (bo p q)).take i).map (bh (cx o)) ∧
    bj H ((.sl b8 0 1 4,4,[[u0,u1,u2,gi 0]]) :: (u3,1,cA kl) ::
      (u1,1,nG (o.map fun x=>g.ax.getD x.toNat ⟨#[]⟩)) :: (u0,3,g.az.map cq) :: (u2,3,gJ bs) :: (.sl b2 0 1 4,4,[[.emp 1,.emp 1,.emp 1,gi 0]]) :: pb bs) ∧
    H b9=.map (rp mm) cc) ∧
  T 1=.aY (aR g) 0∧T 2=.ptr b2 0 0∧T 7=u3∧T 8=.ptr b8 0 0∧T 9=.mp b9∧T 91=u3∧T 92=gi kl.length∧T 93=gi i
def KH (g:ao) (b2 b8 b9 b16 b17:Nat) (u3 v:V) (o kl:List Int) (mm:cB Int) (cc:Nat) (r:aG) (L:List dz) (i k:Nat) (T:Env) (H:View):Prop :=
  bj H ((.sl b17 0 1 3,3,[[gi (cx o r.left),v,gi r.prec]]) :: (v,1,cA ((bh (cx o) r).right.take k ++ r.right.drop k)) :: (.sl b16 0 1 3,3,[bf r]) :: L) ∧
  H b9=.map (rp mm) cc∧T 1=.aY (aR g) 0∧T 2=.ptr b2 0 0∧T 7=u3∧T 8=.ptr b8 0 0∧T 9=.mp b9∧T 91=u3∧T 92=gi kl.length∧T 93=gi i∧T 17=.ptr b17 0 0∧T 113=v∧T 114=gi r.right.length∧T 115=gi k
set_option maxHeartbeats 8000000 in
theorem BM (g:ao) (hg:g.Ok) (hs:g.Small):cJ Tryz.prog 109 [.agg (aR g)] (xB (if bz g=true then
    if (aB g true).getD g.start.toNat false=true then (iK g (cx (bV (aB g true) (bk g) g.rules)) (aB g true) (bk g),cr (aB g true) (bk g) g.rules 0,0)
    else (pr,[],9)
  else (pr,[],1))):=by
  refine cJ.of (ma g) ?_
  refine aH.of mixed uu ?_
  simp (disch:=omega) only [↓wr,↓reduceIte,wq,ai,ah,an,ab,af,ag,aj,isNil,Nat.reduceEqDiff,Nat.reduceAdd,Nat.reduceLT,Nat.reduceLeDiff,Int.reduceNeg,Int.reduceToNat,reduceCtorEq,qP,aR,encS]
  intro b2
  try simp (disch:=omega) only [↓wr,↓reduceIte,wq,ai,ah,an,ab,af,ag,aj,isNil,Nat.reduceEqDiff,Nat.reduceAdd,Nat.reduceLT,Nat.reduceLeDiff,Int.reduceNeg,Int.reduceToNat,reduceCtorEq,aR,encS]
  refine aJ.pure (nb g hg hs.names) (by kernel_rfl) ?_
  repeat' (first | (refine ay.dec (fun _=>?_) (fun _=>?_)) | (refine ay.eq (fun _=>?_) (fun _=>?_)) | (refine ay.ne (fun _=>?_) (fun _=>?_)) | (refine ay.split (fun _=>?_) (fun _=>?_)) | (simp (disch:=omega) only [↓wr,↓reduceIte,wq,ai,ah,an,ab,af,ag,aj,isNil,Nat.reduceEqDiff,Nat.reduceAdd,Nat.reduceLT,Nat.reduceLeDiff,Int.reduceNeg,Int.reduceToNat,reduceCtorEq,aR,encS,set_set]))
  · rename_i hr
    rw[if_pos hr]
    refine aJ.pure (o9 g hg hs).pure (by kernel_rfl) ?_
    simp (disch:=omega) only [↓wr,↓reduceIte,wq,ai,ah,an,ab,af,ag,aj,isNil,Nat.reduceEqDiff,Nat.reduceAdd,Nat.reduceLT,Nat.reduceLeDiff,Int.reduceNeg,Int.reduceToNat,reduceCtorEq,aR,encS]
    refine aJ.pure (y3 g hg hs).pure (by kernel_rfl) ?_
    have hf:=bq hr
    have h3:=hf.mM
    have h4:=hf.start
    have hpl:=ig hr true
    have hql:=oq hr
    generalize aB g true=p at hpl ⊢
    generalize bk g=q at hql ⊢
    have hps:p[g.start.toNat]?=some (p[g.start.toNat]'(by omega)):=List.getElem?_eq_getElem (by omega)
    have hpd:p.getD g.start.toNat false=p[g.start.toNat]'(by omega):=by simp[List.getD_eq_getElem?_getD,hps]
    generalize p[g.start.toNat]'(by omega)=s at hps hpd
    rw[hpd]
    simp (disch:=omega) only [↓wr,↓reduceIte,wq,ai,ah,an,ab,af,ag,aj,isNil,Nat.reduceEqDiff,Nat.reduceAdd,Nat.reduceLT,Nat.reduceLeDiff,Int.reduceNeg,Int.reduceToNat,reduceCtorEq,aR,encS,cg,List.getElem?_map,hps]
    cases s with
    | false =>
      simp (disch:=omega) only [↓wr,↓reduceIte,wq,ai,ah,an,ab,af,ag,aj,isNil,Nat.reduceEqDiff,Nat.reduceAdd,Nat.reduceLT,Nat.reduceLeDiff,Int.reduceNeg,Int.reduceToNat,reduceCtorEq,aR,encS,set_set]
      rintro h' hh
      exact Br
    | true =>
      simp (disch:=omega) only [↓wr,↓reduceIte,wq,ai,ah,an,ab,af,ag,aj,isNil,Nat.reduceEqDiff,Nat.reduceAdd,Nat.reduceLT,Nat.reduceLeDiff,Int.reduceNeg,Int.reduceToNat,reduceCtorEq,aR,encS,set_set]
      have hN:=hf.ax
      have hN1:=hf.zt
      have hT:=hf.az
      have hR:=hf.rules
      refine aJ.xJ ((E3 g.az (by omega) _).mono ?_)
      rintro u0 H1 ⟨hu0,hfr⟩
      have ho1:=(bj.nil.new (H:=fun _=>br.dead) (n:=b2) rfl 4 [[.emp 1,.emp 1,.emp 1,gi 0]]).JU hu0 hfr
      have c0:=ho1.head.cells
      have k0:=ho1.head.yj
      simp (disch:=omega) only [↓wr,↓reduceIte,wq,ai,ah,an,ab,af,ag,aj,isNil,Nat.reduceEqDiff,Nat.reduceAdd,Nat.reduceLT,Nat.reduceLeDiff,Int.reduceNeg,Int.reduceToNat,reduceCtorEq,aR,encS,c0,k0]
      intro b8 hb8
      have ho2:=ho1.new hb8 4 [[u0,.emp 1,.emp 1,gi 0]]
      try simp (disch:=omega) only [↓wr,↓reduceIte,wq,ai,ah,an,ab,af,ag,aj,isNil,Nat.reduceEqDiff,Nat.reduceAdd,Nat.reduceLT,Nat.reduceLeDiff,Int.reduceNeg,Int.reduceToNat,reduceCtorEq,aR,encS,c0,k0,set_set]
      intro b9 hb9
      have hb98:=(eu hb9 eH).1
      have hb9:=(eu (eu hb9 eH).2 eH).2
      have ho3:=(((ho2.fresh (n:=b9) (o:=.map [] 0) (by simp only[View.set,if_neg hb98]; exact hb9)).emp (k:=1) (sz:=1)).emp (k:=1) (sz:=1)).perm KI.symm
      try simp (disch:=omega) only [↓wr,↓reduceIte,wq,ai,ah,an,ab,af,ag,aj,isNil,Nat.reduceEqDiff,Nat.reduceAdd,Nat.reduceLT,Nat.reduceLeDiff,Int.reduceNeg,Int.reduceToNat,reduceCtorEq,aR,encS,c0,k0,set_set]
      refine cH.up g.rules.length (JX g p q b2 b8 b9 u0) ?_ ?_
      · refine ⟨⟨.emp 1,.emp 1,rfl,by simp[bV],by simp[bV],by rw[set_set]; exact ho3,[],0,by simp[View.set,dd],trivial⟩,rfl,rfl,rfl,rfl,rfl,rfl,rfl,rfl,rfl⟩
      clear ho1 ho2 ho3 hb8 hb9 hb98
      rintro i k T H2 hk ⟨⟨u1,u3,t7,hin,holen,ho,mm,cc,h9,hm9⟩,t1,t2,t5,t6,t8,t9,t41,t42,t43⟩
      simp (disch:=omega) only [↓wr,↓reduceIte,wq,ai,ah,an,ab,af,ag,aj,isNil,Nat.reduceEqDiff,Nat.reduceAdd,Nat.reduceLT,Nat.reduceLeDiff,Int.reduceNeg,Int.reduceToNat,reduceCtorEq,nC,t1,t2,t5,t6,t7,t8,t9,t41,t42,t43,aR]
      refine ay.dec (fun hc=>?_) (fun hc=>?_)
      · have hg2:g.rules[i]?=some (g.rules[i]'(by omega)):=List.getElem?_eq_getElem (by omega)
        have hmem:g.rules[i]'(by omega)∈g.rules:=List.getElem_mem _
        have htk:g.rules.take (i+1)=g.rules.take i ++ [g.rules[i]'(by omega)]:=by rw[List.take_add_one,hg2]; rfl
        generalize g.rules[i]'(by omega)=r at hg2 hmem htk
        obtain ⟨hl1,hl2,hl3,hr6,hsy⟩:=hf.rP hg hmem
        have hqs:q[r.left.toNat]?=some (q[r.left.toNat]'(by omega)):=List.getElem?_eq_getElem (by omega)
        have hqd:q.getD r.left.toNat false=q[r.left.toNat]'(by omega):=by simp[List.getD_eq_getElem?_getD,hqs]
        generalize q[r.left.toNat]'(by omega)=qs at hqs hqd
        simp (disch:=omega) only [↓wr,↓reduceIte,wq,ai,ah,an,ab,af,ag,aj,isNil,Nat.reduceEqDiff,Nat.reduceAdd,Nat.reduceLT,Nat.reduceLeDiff,Int.reduceNeg,Int.reduceToNat,reduceCtorEq,t1,t2,t5,t6,t7,t8,t9,t41,t42,t43,bf,encI,List.getElem?_map,hg2]
        intro b11 hb11
        have hoA:=ho.new hb11 3 [bf r]
        have n911:b9≠b11:=by rintro rfl; rw[h9] at hb11; simp at hb11
        try simp (disch:=omega) only [↓wr,↓reduceIte,wq,ai,ah,an,ab,af,ag,aj,isNil,Nat.reduceEqDiff,Nat.reduceAdd,Nat.reduceLT,Nat.reduceLeDiff,Int.reduceNeg,Int.reduceToNat,reduceCtorEq,t1,t2,t5,t6,t7,t8,t9,t41,t42,t43,bf,encI,cg,List.getElem?_map,hqs,set_set]
        have hskip:∀ (T2:Env) (H':View),bo p q r=false→H'=H2.set b11 (.arr 3 [bf r])→T2 7=u3→T2 1=.aY (aR g) 0→T2 2=.ptr b2 0 0→T2 5=cg p→T2 6=cg q→T2 8=.ptr b8 0 0→T2 9=.mp b9→T2 41=.aF (g.rules.map bf)→T2 42=gi g.rules.length→T2 43=gi ((i:Int)+1) →
            ∃ k',k' < k∧CS g.rules.length k' (JX g p q b2 b8 b9 u0) T2 H':=by
          intro T2 H' hkr hH' a7 a1 a2 a5 a6 a8 a9 a41 a42 a43
          have e1:bV p q (g.rules.take (i+1))=bV p q (g.rules.take i):=by rw[htk,yh,if_neg (by simp[hkr])]
          have e2:cr p q (g.rules.take (i+1)) 0=cr p q (g.rules.take i) 0:=by rw[htk,mT]; simp[cr,hkr]
          refine bO hk (by omega) ⟨⟨u1,u3,a7,by rw[e1]; exact hin,by rw[e1]; omega,by rw[e1,e2,hH']; exact hoA.tail,mm,cc,by rw[hH']; simp[View.set,n911,h9],by rw[e1]; exact hm9⟩,a1,a2,a5,a6,a8,a9,a41,a42,by rw[a43]; rfl⟩
        cases qs with
        | false =>
          simp (disch:=omega) only [↓wr,↓reduceIte,wq,ai,ah,an,ab,af,ag,aj,isNil,Nat.reduceEqDiff,Nat.reduceAdd,Nat.reduceLT,Nat.reduceLeDiff,Int.reduceNeg,Int.reduceToNat,reduceCtorEq,t1,t2,t5,t6,t7,t8,t9,t41,t42,t43]
          refine hskip _ _ (by rw[bo,hqd]; rfl) ?_ ?_ ?_ ?_ ?_ ?_ ?_ ?_ ?_ ?_ ?_
          all_goals first | exact t7 | exact t1 | exact t2 | exact t5 | exact t6 | exact t8 | exact t9 | exact t41 | exact t42 | rfl | (rw[set_set]; rfl)
        | true =>
          simp (disch:=omega) only [↓wr,↓reduceIte,wq,ai,ah,an,ab,af,ag,aj,isNil,Nat.reduceEqDiff,Nat.reduceAdd,Nat.reduceLT,Nat.reduceLeDiff,Int.reduceNeg,Int.reduceToNat,reduceCtorEq,t1,t2,t5,t6,t7,t8,t9,t41,t42,t43,bf,encI,cg]
          refine aJ.pure (nq r p (hg.aT r hmem).2.2.1 (fun s hs'=>⟨(hsy s hs').1,fun h=>by rw[hpl]; exact (hsy s hs').2 h⟩)) (by kernel_rfl) ?_
          simp (disch:=omega) only [↓wr,↓reduceIte,wq,ai,ah,an,ab,af,ag,aj,isNil,Nat.reduceEqDiff,Nat.reduceAdd,Nat.reduceLT,Nat.reduceLeDiff,Int.reduceNeg,Int.reduceToNat,reduceCtorEq,t1,t2,t5,t6,t7,t8,t9,t41,t42,t43]
          refine ay.split (fun hal=>?_) (fun hal=>?_)
          · simp (disch:=omega) only [↓wr,↓reduceIte,wq,ai,ah,an,ab,af,ag,aj,isNil,Nat.reduceEqDiff,Nat.reduceAdd,Nat.reduceLT,Nat.reduceLeDiff,Int.reduceNeg,Int.reduceToNat,reduceCtorEq,t1,t2,t5,t6,t7,t8,t9,t41,t42,t43]
            have hkr:bo p q r=true:=by rw[bo,hqd,hal]; rfl
            intro m hm
            try simp (disch:=omega) only [↓wr,↓reduceIte,wq,ai,ah,an,ab,af,ag,aj,isNil,Nat.reduceEqDiff,Nat.reduceAdd,Nat.reduceLT,Nat.reduceLeDiff,Int.reduceNeg,Int.reduceToNat,reduceCtorEq,t1,t2,t5,t6,t7,t8,t9,t41,t42,t43,e9]
            have hm11:=(eu hm eH).1
            have hm:=(eu (eu hm eH).2 eH).2
            have hoB:=(hoA.fresh (n:=m) (o:=.arr 1 [[gi i]]) (by simp only[View.set,if_neg hm11]; exact hm)).at 2 (by simp)
            have n9m:b9≠m:=by rintro rfl; rw[h9] at hm; simp at hm
            have hkl:(cr p q (g.rules.take i) 0).length≤40:=by
              rw[nM]
              have h1:=List.length_filter_le (bo p q) (g.rules.take i)
              have h2:(g.rules.take i).length≤i:=List.length_take_le _ _
              omega
            refine pI (by rw[set_set]; exact hoB) (by simp[aN]) (by unfold aW; simp at hkl ⊢; omega) (by unfold aW; simp at hkl ⊢; omega) ?_
            intro u3' H3 ho3 hleft
            have f11:=ho3.is 1 rfl (by simp)
            have f8:=ho3.is 2 rfl (by simp)
            have hleft':Left ((H2.set b11 (.arr 3 [bf r])).set m (.arr 1 [[gi i]])) H3 u3 u3':=by rw[set_set] at hleft; exact hleft
            have f9:H3 b9=.map (rp mm) cc:=hleft'.map (b:=b9) hoB.head (by simp[View.set,n911,n9m,h9])
            have hu1:cT u1=some (nG ((bV p q (g.rules.take i)).map fun x=>g.ax.getD x.toNat ⟨#[]⟩)).length:=(ho3.own 3 rfl).len
            simp only[bf,encI] at f11
            have e2:cr p q (g.rules.take (i+1)) 0=cr p q (g.rules.take i) 0 ++ [(i:Int)]:=by
              rw[htk,mT]; simp[cr,hkr,show i≤g.rules.length by omega]
            have e1:bV p q (g.rules.take (i+1))=c8 (bV p q (g.rules.take i)) r:=by rw[htk,yh,if_pos hkr]
            generalize bV p q (g.rules.take i)=o at *
            generalize cr p q (g.rules.take i) 0=kl at *
            simp (disch:=omega) only [↓wr,↓reduceIte,wq,ai,ah,an,ab,af,ag,aj,isNil,Nat.reduceEqDiff,Nat.reduceAdd,Nat.reduceLT,Nat.reduceLeDiff,Int.reduceNeg,Int.reduceToNat,reduceCtorEq,t1,t2,t5,t6,t8,t9,t41,t42,t43,f11,f8]
            refine J9 (kt:=3) (et:=3) (z:=gi 0) (by kernel_rfl) (by kernel_rfl) (kY .i64 Tryz.underlying3) (id:=b9) (c:=cc) (m:=mm) (k:=r.left) (by simp (disch:=omega) only [↓wr,↓reduceIte,wq,ai,ah,an,ab,af,ag,aj,isNil,Nat.reduceEqDiff,Nat.reduceAdd,Nat.reduceLT,Nat.reduceLeDiff,Int.reduceNeg,Int.reduceToNat,reduceCtorEq,t9]) (by simp (disch:=omega) only [↓wr,↓reduceIte,wq,ai,ah,an,ab,af,ag,aj,isNil,Nat.reduceEqDiff,Nat.reduceAdd,Nat.reduceLT,Nat.reduceLeDiff,Int.reduceNeg,Int.reduceToNat,reduceCtorEq]) f9 ?_
            rw[hm9.get,nd]
            have hob:o.length≤40:=by omega
            by_cases hx:r.left∈o
            · have e1':c8 o r=o:=by rw[c8,if_pos hx]
              rw[if_pos hx]
              simp (disch:=omega) only [↓wr,↓reduceIte,wq,ai,ah,an,ab,af,ag,aj,isNil,Nat.reduceEqDiff,Nat.reduceAdd,Nat.reduceLT,Nat.reduceLeDiff,Int.reduceNeg,Int.reduceToNat,reduceCtorEq,t1,t2,t5,t6,t8,t9,t41,t42,t43,Option.isSome_some]
              have ho4:=(((ho3.at 1 (by simp)).tail).perm (.swap _ _ _))
              refine bO hk (by omega) ⟨⟨u1,u3',rfl,by rw[e1,e1']; exact hin,by rw[e1,e1']; omega,?_,mm,cc,f9,by rw[e1,e1']; exact hm9⟩,t1,t2,t5,t6,t8,t9,t41,t42,rfl⟩
              rw[e1,e1',e2]
              simp only[List.map_append,List.map_cons,List.map_nil]
              exact ho4
            · have e1':c8 o r=o ++ [r.left]:=by rw[c8,if_neg hx]
              rw[if_neg hx]
              have hgn:g.ax[r.left.toNat]?=some (g.ax[r.left.toNat]'(by omega)):=List.getElem?_eq_getElem (by omega)
              have hgnd:g.ax.getD r.left.toNat ⟨#[]⟩=g.ax[r.left.toNat]'(by omega):=by simp[List.getD_eq_getElem?_getD,hgn]
              generalize g.ax[r.left.toNat]'(by omega)=nm at hgn hgnd
              simp (disch:=omega) only [↓wr,↓reduceIte,wq,ai,ah,an,ab,af,ag,aj,isNil,Nat.reduceEqDiff,Nat.reduceAdd,Nat.reduceLT,Nat.reduceLeDiff,Int.reduceNeg,Int.reduceToNat,reduceCtorEq,t1,t2,t5,t6,t8,t9,t41,t42,t43,Option.isSome_none,f11,f8,hu1,List.length_map]
              refine Ac (kt:=3) (et:=3) (by kernel_rfl) (kY .i64 Tryz.underlying3) (id:=b9) (c:=cc) (m:=mm) (k:=r.left) (v:=gi o.length) (by simp (disch:=omega) only [↓wr,↓reduceIte,wq,ai,ah,an,ab,af,ag,aj,isNil,Nat.reduceEqDiff,Nat.reduceAdd,Nat.reduceLT,Nat.reduceLeDiff,Int.reduceNeg,Int.reduceToNat,reduceCtorEq,t9]) (by simp (disch:=omega) only [↓wr,↓reduceIte,wq,ai,ah,an,ab,af,ag,aj,isNil,Nat.reduceEqDiff,Nat.reduceAdd,Nat.reduceLT,Nat.reduceLeDiff,Int.reduceNeg,Int.reduceToNat,reduceCtorEq]) (by simp (disch:=omega) only [↓wr,↓reduceIte,wq,ai,ah,an,ab,af,ag,aj,isNil,Nat.reduceEqDiff,Nat.reduceAdd,Nat.reduceLT,Nat.reduceLeDiff,Int.reduceNeg,Int.reduceToNat,reduceCtorEq]) f9 ?_
              intro c'
              have n89:b8≠b9:=vZ ho3 2 rfl f9
              have n119:b11≠b9:=vZ ho3 1 rfl f9
              simp (disch:=omega) only [↓wr,↓reduceIte,wq,ai,ah,an,ab,af,ag,aj,isNil,Nat.reduceEqDiff,Nat.reduceAdd,Nat.reduceLT,Nat.reduceLeDiff,Int.reduceNeg,Int.reduceToNat,reduceCtorEq,t1,t2,t5,t6,t8,t9,t41,t42,t43,f11,f8,n89,n119,aR,encS,List.getElem?_map,hgn]
              intro m2 hm2
              have hm29:=(eu hm2 (by simp)).1
              have hm2:=(eu hm2 (by simp)).2
              have ho5:=((ho3.zu f9 (o:=.map (rp (cK r.left (gi o.length) cc mm)) c')).fresh (n:=m2) (o:=.arr 1 [[gs nm]]) (by simp only[View.set,if_neg hm29]; exact hm2)).at 3 (by simp)
              try simp (disch:=omega) only [↓wr,↓reduceIte,wq,ai,ah,an,ab,af,ag,aj,isNil,Nat.reduceEqDiff,Nat.reduceAdd,Nat.reduceLT,Nat.reduceLeDiff,Int.reduceNeg,Int.reduceToNat,reduceCtorEq,t1,t2,t5,t6,t8,t9,t41,t42,t43,e9]
              refine pI ho5 (by simp[aN]) (by unfold aW; simp; omega) (by unfold aW; simp; omega) ?_
              intro u1' H5 ho6 hleft2
              have c1:=ho6.head.cells
              have k1:=ho6.head.yj
              have f8':=ho6.is 3 rfl (by simp)
              have f9':=hleft2.map (b:=b9) (es:=rp (cK r.left (gi o.length) cc mm)) (c:=c') ho5.head (by simp[View.set,Ne.symm hm29])
              have n89':b9≠b8:=n89.symm
              simp (disch:=omega) only [↓wr,↓reduceIte,wq,ai,ah,an,ab,af,ag,aj,isNil,Nat.reduceEqDiff,Nat.reduceAdd,Nat.reduceLT,Nat.reduceLeDiff,Int.reduceNeg,Int.reduceToNat,reduceCtorEq,t1,t2,t5,t6,t8,t9,t41,t42,t43,f8',c1,k1]
              have ho7:=(ho6.at 3 (by simp)).put (es':=[[u0,u1',.emp 1,gi 0]]) rfl rfl
              have ho8:=(((ho7.at 3 (by simp)).tail).perm (.cons _ (.swap _ _ _)))
              refine bO hk (by omega) ⟨⟨u1',u3',rfl,?_,?_,?_,_,c',(by simp only[View.set,if_neg n89']; exact f9'),?_⟩,t1,t2,t5,t6,t8,t9,t41,t42,rfl⟩
              · rw[e1,e1']; intro x hx'; rcases List.mem_append.1 hx' with h | h
                · exact hin x h
                · simp at h; subst h; exact ⟨hl2,hl3⟩
              · rw[e1,e1']; simp; omega
              · rw[e1,e1',e2]
                simp only[List.map_append,List.map_cons,List.map_nil,hgnd]
                exact ho8
              · rw[e1,e1',wE,Int.zero_add,← xV hx]
                exact hm9.put r.left (o.length:Int) cc
          · simp (disch:=omega) only [↓wr,↓reduceIte,wq,ai,ah,an,ab,af,ag,aj,isNil,Nat.reduceEqDiff,Nat.reduceAdd,Nat.reduceLT,Nat.reduceLeDiff,Int.reduceNeg,Int.reduceToNat,reduceCtorEq,t1,t2,t5,t6,t7,t8,t9,t41,t42,t43]
            refine hskip _ _ (by rw[bo,hqd,hal]; rfl) ?_ ?_ ?_ ?_ ?_ ?_ ?_ ?_ ?_ ?_ ?_
            all_goals first | exact t7 | exact t1 | exact t2 | exact t5 | exact t6 | exact t8 | exact t9 | exact t41 | exact t42 | rfl | (rw[set_set]; rfl)
      · rw[List.take_of_length_le (by omega)] at ho hin holen hm9
        have hkl40:(cr p q g.rules 0).length≤40:=by
          rw[nM]; have h1:=List.length_filter_le (bo p q) g.rules; omega
        have hkg:=r5 p q g.rules 0
        have hkln:=nM p q g.rules 0
        have hrg:iK g (cx (bV p q g.rules)) p q=⟨g.az,(bV p q g.rules).map fun x=>g.ax.getD x.toNat ⟨#[]⟩,(g.rules.filter (bo p q)).map (bh (cx (bV p q g.rules))),cx (bV p q g.rules) g.start⟩:=rfl
        rw[hrg,if_pos rfl]
        clear hrg
        generalize bV p q g.rules=o at *
        generalize cr p q g.rules 0=kl at *
        have hob:o.length≤40:=by omega
        have hu3:cT u3=some (cA kl).length:=(ho.own 1 rfl).len
        simp (disch:=omega) only [↓wr,↓reduceIte,wq,ai,ah,an,ab,af,ag,aj,isNil,Nat.reduceEqDiff,Nat.reduceAdd,Nat.reduceLT,Nat.reduceLeDiff,Int.reduceNeg,Int.reduceToNat,reduceCtorEq,t1,t2,t5,t6,t7,t8,t9,hu3,List.length_map]
        refine cH.up kl.length (K3 g p q b2 b8 b9 u0 u1 u3 o kl mm cc) ?_ ?_
        · refine ⟨⟨.emp 1,[],by simp,?_,h9⟩,t1,t2,t7,t8,t9,t7,rfl,rfl⟩
          exact (ho.emp (k:=1) (sz:=3)).perm (te [(.sl b8 0 1 4,4,[[u0,u1,.emp 1,gi 0]]),(u3,1,cA kl),(u1,1,nG (o.map fun x=>g.ax.getD x.toNat ⟨#[]⟩)),(u0,3,g.az.map cq),(.emp 1,3,[]),(.sl b2 0 1 4,4,[[.emp 1,.emp 1,.emp 1,gi 0]])] 4 (by simp)).symm
        clear ho h9 t1 t2 t5 t6 t7 t8 t9 t41 t42 t43
        rintro i k T H2 hk ⟨⟨u2,bs,hbs,ho,h9⟩,t1,t2,t7,t8,t9,t91,t92,t93⟩
        simp (disch:=omega) only [↓wr,↓reduceIte,wq,ai,ah,an,ab,af,ag,aj,isNil,Nat.reduceEqDiff,Nat.reduceAdd,Nat.reduceLT,Nat.reduceLeDiff,Int.reduceNeg,Int.reduceToNat,reduceCtorEq,nf,t1,t2,t7,t8,t9,t91,t92,t93]
        refine ay.dec (fun hc=>?_) (fun hc=>?_)
        · obtain ⟨n3,e3,hn3⟩:=(ho.own 1 rfl).sl (by simp; omega)
          rw[List.length_map] at e3
          subst e3
          obtain ⟨m,hm1,hm2,hm3⟩:=hkg i (by omega)
          have hbg:=zB (show i < kl.length by omega)
          rw[Int.zero_add] at hm1
          have hki:kl[i]'(by omega)=(m:Int):=by
            rw[List.getElem?_eq_getElem (show i < kl.length by omega)] at hm1; simpa using hm1
          rw[hki] at hbg
          have hg2:g.rules[m]?=some (g.rules[m]'hm3):=List.getElem?_eq_getElem hm3
          have hmem:g.rules[m]'hm3∈g.rules:=List.getElem_mem _
          have htk:(g.rules.filter (bo p q)).take (i+1)=(g.rules.filter (bo p q)).take i ++ [g.rules[m]'hm3]:=by
            rw[List.take_add_one,← hm2,hg2]; rfl
          generalize g.rules[m]'hm3=r at hg2 hmem htk
          obtain ⟨hl1,hl2,hl3,hr6,hsy⟩:=hf.rP hg hmem
          simp (disch:=omega) only [↓wr,↓reduceIte,wq,ai,ah,an,ab,af,ag,aj,isNil,Nat.reduceEqDiff,Nat.reduceAdd,Nat.reduceLT,Nat.reduceLeDiff,Int.reduceNeg,Int.reduceToNat,reduceCtorEq,t1,t2,t7,t8,t9,t91,t92,t93,hn3,hbg,List.length_map,aR,bf,encI,List.getElem?_map,hg2]
          refine ⟨by omega,by omega,?_⟩
          intro b16 hb16
          have hoA:=ho.new hb16 3 [bf r]
          have n916:b9≠b16:=by rintro rfl; rw[h9] at hb16; simp at hb16
          try simp (disch:=omega) only [↓wr,↓reduceIte,wq,ai,ah,an,ab,af,ag,aj,isNil,Nat.reduceEqDiff,Nat.reduceAdd,Nat.reduceLT,Nat.reduceLeDiff,Int.reduceNeg,Int.reduceToNat,reduceCtorEq,t1,t2,t7,t8,t9,t91,t92,t93,set_set]
          refine zf (kt:=3) (et:=3) (z:=gi 0) (by kernel_rfl) (by kernel_rfl) (kY .i64 Tryz.underlying3) (id:=b9) (c:=cc) (m:=mm) (k:=r.left) (by simp (disch:=omega) only [↓wr,↓reduceIte,wq,ai,ah,an,ab,af,ag,aj,isNil,Nat.reduceEqDiff,Nat.reduceAdd,Nat.reduceLT,Nat.reduceLeDiff,Int.reduceNeg,Int.reduceToNat,reduceCtorEq,t9]) (by simp (disch:=omega) only [↓wr,↓reduceIte,wq,ai,ah,an,ab,af,ag,aj,isNil,Nat.reduceEqDiff,Nat.reduceAdd,Nat.reduceLT,Nat.reduceLeDiff,Int.reduceNeg,Int.reduceToNat,reduceCtorEq]) (by simp[View.set,n916,h9]) ?_
          have hgt:∀ x,(getM mm x).getD (gi 0)=gi (cx o x):=fun x=>by
            rw[hm9.get,cx]; cases cE (fG o 0) x <;> rfl
          rw[hgt]
          simp (disch:=omega) only [↓wr,↓reduceIte,wq,ai,ah,an,ab,af,ag,aj,isNil,Nat.reduceEqDiff,Nat.reduceAdd,Nat.reduceLT,Nat.reduceLeDiff,Int.reduceNeg,Int.reduceToNat,reduceCtorEq,t1,t2,t7,t8,t9,t91,t92,t93]
          refine aJ.IH (EZ r.right (by omega) _) ?_
          intro v H3 hv hfr
          have hoB:=bj.JU (H:=H2.set b16 (.arr 3 [bf r])) hoA hv (by rw[set_set] at hfr; exact hfr)
          have h9B:H3 b9=.map (rp mm) cc:=by
            rw[(hfr b9 (by simp[View.set,n916,h9])).1]; simp[View.set,n916,h9]
          have cv:=hv.cells
          have kv:=hv.yj
          have lv:=hv.len
          have f16:=hoB.is 1 rfl (by simp)
          simp only[bf,encI] at f16
          simp (disch:=omega) only [↓wr,↓reduceIte,wq,ai,ah,an,ab,af,ag,aj,isNil,Nat.reduceEqDiff,Nat.reduceAdd,Nat.reduceLT,Nat.reduceLeDiff,Int.reduceNeg,Int.reduceToNat,reduceCtorEq,t1,t2,t7,t8,t9,t91,t92,t93,f16,cv,kv]
          intro b17 hb17
          have hoC:=hoB.new hb17 3 [[gi (cx o r.left),v,gi r.prec]]
          have n917:b9≠b17:=by rintro rfl; rw[h9B] at hb17; simp at hb17
          try simp (disch:=omega) only [↓wr,↓reduceIte,wq,ai,ah,an,ab,af,ag,aj,isNil,Nat.reduceEqDiff,Nat.reduceAdd,Nat.reduceLT,Nat.reduceLeDiff,Int.reduceNeg,Int.reduceToNat,reduceCtorEq,t1,t2,t7,t8,t9,t91,t92,t93,cv,kv,lv,set_set,List.length_map]
          generalize hL:((V.sl b8 0 1 4,4,[[u0,u1,u2,gi 0]]) :: (V.sl n3 0 kl.length 1,1,cA kl) ::
              (u1,1,nG (o.map fun x=>g.ax.getD x.toNat ⟨#[]⟩)) :: (u0,3,g.az.map cq) :: (u2,3,gJ bs) :: (V.sl b2 0 1 4,4,[[V.emp 1,V.emp 1,V.emp 1,gi 0]]) :: pb bs:List dz)=L at hoC
          refine cH.up r.right.length (KH g b2 b8 b9 b16 b17 (.sl n3 0 kl.length 1) v o kl mm cc r L i) ?_ ?_
          · exact ⟨by rw[set_set]; exact hoC,by simp[View.set,n917,h9B],t1,t2,t7,t8,t9,t91,t92,t93,rfl,rfl,rfl,rfl⟩
          clear hoA hoB hoC hb16 hb17 h9 h9B f16 hv hfr t1 t2 t7 t8 t9 t91 t92 t93
          rintro k k2 T H3 hk2 ⟨hoC,h9,t1,t2,t7,t8,t9,t91,t92,t93,t17,t113,t114,t115⟩
          have f17:=hoC.is 0 rfl (by simp)
          simp (disch:=omega) only [↓wr,↓reduceIte,wq,ai,ah,an,ab,af,ag,aj,isNil,Nat.reduceEqDiff,Nat.reduceAdd,Nat.reduceLT,Nat.reduceLeDiff,Int.reduceNeg,Int.reduceToNat,reduceCtorEq,na,t1,t2,t7,t8,t9,t91,t92,t93,t17,t113,t114,t115]
          refine ay.dec (fun hcc=>?_) (fun hcc=>?_)
          · have hgs:r.right[k]?=some (r.right[k]'(by omega)):=List.getElem?_eq_getElem (by omega)
            have hms:r.right[k]'(by omega)∈r.right:=List.getElem_mem _
            have hrl:(bh (cx o) r).right.length=r.right.length:=by simp[bh]
            have hts:(bh (cx o) r).right.take (k+1)=(bh (cx o) r).right.take k ++ [if r.right[k]'(by omega) < 0 then -1 - cx o (-1 - r.right[k]'(by omega)) else r.right[k]'(by omega)]:=by
              rw[List.take_add_one]; simp[bh,hgs]
            have hdr:=mb (show k < r.right.length by omega)
            generalize r.right[k]'(by omega)=s at hgs hms hts hdr
            obtain ⟨⟨s1,s2⟩,s3⟩:=hsy s hms
            have hbd:=Jd o (-1 - s)
            rw[hdr] at hoC
            have hlen:(((bh (cx o) r).right.take k ++ s :: r.right.drop (k+1)).map fun x=>[gi x]).length=r.right.length:=by simp; omega
            obtain ⟨nv,ev,hnv⟩:=(hoC.own 1 rfl).sl (by rw[hlen]; omega)
            rw[hlen] at ev
            subst ev
            have hlt:k < ((bh (cx o) r).right.take k ++ s :: r.right.drop (k+1)).length:=by simp; omega
            have hbg2:=zB hlt
            have hel:((bh (cx o) r).right.take k ++ s :: r.right.drop (k+1))[k]'hlt=s:=by
              rw[List.getElem_append_right (by simp; omega)]
              simp[show k - min k r.right.length=0 by omega,hrl]
            rw[hel] at hbg2
            simp (disch:=omega) only [↓wr,↓reduceIte,wq,ai,ah,an,ab,af,ag,aj,isNil,Nat.reduceEqDiff,Nat.reduceAdd,Nat.reduceLT,Nat.reduceLeDiff,Int.reduceNeg,Int.reduceToNat,reduceCtorEq,t1,t2,t7,t8,t9,t91,t92,t93,t17,t113,t114,t115,hnv,hbg2,List.length_map]
            refine ⟨by omega,hlt,?_⟩
            have hlk:((bh (cx o) r).right.take k).length=k:=by rw[List.length_take]; omega
            have nv9:nv≠b9:=vZ hoC 1 rfl h9
            refine ay.dec (fun hneg=>?_) (fun hneg=>?_)
            · rw[if_pos hneg] at hts
              simp (disch:=omega) only [↓wr,↓reduceIte,wq,ai,ah,an,ab,af,ag,aj,isNil,Nat.reduceEqDiff,Nat.reduceAdd,Nat.reduceLT,Nat.reduceLeDiff,Int.reduceNeg,Int.reduceToNat,reduceCtorEq,t1,t2,t7,t8,t9,t91,t92,t93,t17,t113,t114,t115,f17]
              refine zf (kt:=3) (et:=3) (z:=gi 0) (by kernel_rfl) (by kernel_rfl) (kY .i64 Tryz.underlying3) (id:=b9) (c:=cc) (m:=mm) (k:=-1 - s) (by simp (disch:=omega) only [↓wr,↓reduceIte,wq,ai,ah,an,ab,af,ag,aj,isNil,Nat.reduceEqDiff,Nat.reduceAdd,Nat.reduceLT,Nat.reduceLeDiff,Int.reduceNeg,Int.reduceToNat,reduceCtorEq,t9]) (by simp (disch:=omega) only [↓wr,↓reduceIte,wq,ai,ah,an,ab,af,ag,aj,isNil,Nat.reduceEqDiff,Nat.reduceAdd,Nat.reduceLT,Nat.reduceLeDiff,Int.reduceNeg,Int.reduceToNat,reduceCtorEq]) h9 ?_
              rw[hgt]
              simp (disch:=omega) only [↓wr,↓reduceIte,wq,ai,ah,an,ab,af,ag,aj,isNil,Nat.reduceEqDiff,Nat.reduceAdd,Nat.reduceLT,Nat.reduceLeDiff,Int.reduceNeg,Int.reduceToNat,reduceCtorEq,t1,t2,t7,t8,t9,t91,t92,t93,t17,t113,t114,t115,f17,hnv,hbg2,List.length_map]
              refine ⟨by omega,hlt,?_⟩
              have hoD:=((hoC.at 1 (by simp)).put (es':=((((bh (cx o) r).right.take k ++ s :: r.right.drop (k+1)).map fun x=>[gi x]).set k [gi (-1 - cx o (-1 - s))])) (by simp) (by rw[hlen])).perm (.swap _ _ _)
              refine bO hk2 (by omega) ⟨?_,by simp only[View.set,if_neg nv9.symm]; exact h9,t1,t2,t7,t8,t9,t91,t92,t93,t17,t113,t114,rfl⟩
              rw[ints_set,xL hlk] at hoD
              rw[hts,List.append_assoc]
              rw[ints_set,xL hlk]
              exact hoD
            · rw[if_neg hneg] at hts
              simp (disch:=omega) only [↓wr,↓reduceIte,wq,ai,ah,an,ab,af,ag,aj,isNil,Nat.reduceEqDiff,Nat.reduceAdd,Nat.reduceLT,Nat.reduceLeDiff,Int.reduceNeg,Int.reduceToNat,reduceCtorEq,t1,t2,t7,t8,t9,t91,t92,t93,t17,t113,t114,t115]
              refine bO hk2 (by omega) ⟨?_,h9,t1,t2,t7,t8,t9,t91,t92,t93,t17,t113,t114,rfl⟩
              rw[hts,List.append_assoc]
              exact hoC
          · rw[List.take_of_length_le (by simp[bh]; omega),List.drop_eq_nil_of_le (by omega),List.append_nil] at hoC
            subst hL
            have f8:=hoC.is 3 rfl (by simp)
            have cv:=(hoC.own 1 rfl).cells
            have kv:=(hoC.own 1 rfl).yj
            have hbl:(gJ bs).length≤40:=by
              have h1:=congrArg List.length hbs
              simp only[List.length_map,List.length_take] at h1
              simp only[gJ,List.length_map]
              omega
            simp (disch:=omega) only [↓wr,↓reduceIte,wq,ai,ah,an,ab,af,ag,aj,isNil,Nat.reduceEqDiff,Nat.reduceAdd,Nat.reduceLT,Nat.reduceLeDiff,Int.reduceNeg,Int.reduceToNat,reduceCtorEq,t1,t2,t7,t8,t9,t91,t92,t93,t17,t113,t114,t115,f8,f17,cv,kv]
            intro m hm
            have n9m:b9≠m:=by rintro rfl; rw[h9] at hm; simp at hm
            try simp (disch:=omega) only [↓wr,↓reduceIte,wq,ai,ah,an,ab,af,ag,aj,isNil,Nat.reduceEqDiff,Nat.reduceAdd,Nat.reduceLT,Nat.reduceLeDiff,Int.reduceNeg,Int.reduceToNat,reduceCtorEq,t1,t2,t7,t8,t9,t91,t92,t93,t17,e9]
            have hoD:=(hoC.fresh (o:=.arr 3 [[gi (cx o r.left),v,gi r.prec]]) hm).at 7 (by simp)
            refine pI hoD (by simp[wT,kv]) (by unfold aW; simp at hbl ⊢; omega) (by unfold aW; simp at hbl ⊢; omega) ?_
            intro u2' H4 hoE hleft
            have cu:=hoE.head.cells
            have ku:=hoE.head.yj
            have f8':=hoE.is 4 rfl (by simp)
            have h9':H4 b9=.map (rp mm) cc:=hleft.map (b:=b9) hoD.head (by simp[View.set,n9m,h9])
            have n98:b9≠b8:=(vZ hoE 4 rfl h9').symm
            simp (disch:=omega) only [↓wr,↓reduceIte,wq,ai,ah,an,ab,af,ag,aj,isNil,Nat.reduceEqDiff,Nat.reduceAdd,Nat.reduceLT,Nat.reduceLeDiff,Int.reduceNeg,Int.reduceToNat,reduceCtorEq,t1,t2,t7,t8,t9,t91,t92,t93,t17,f8',cu,ku]
            have hoF:=(hoE.at 4 (by simp)).put (es':=[[u0,u1,u2',gi 0]]) rfl rfl
            have hoG:=((((hoF.at 2 (by simp)).tail).at 3 (by simp)).tail)
            refine bO hk (by omega) ⟨⟨u2',bs ++ [(v,bh (cx o) r)],?_,?_,by simp only[View.set,if_neg n98]; exact h9'⟩,t1,t2,t7,t8,t9,t91,t92,rfl⟩
            · rw[List.map_append,hbs,htk,List.map_append]; rfl
            · refine hoG.perm (.cons _ ?_)
              simp only[pb,gJ,List.map_append,List.map_cons,List.map_nil]
              refine .trans ?_ (te _ 3 (by simp)).symm
              refine .cons _ ?_
              exact (List.perm_append_singleton (v,1,cA (bh (cx o) r).right) ((.sl n3 0 kl.length 1,1,cA kl) :: (u1,1,nG (o.map fun x=>g.ax.getD x.toNat ⟨#[]⟩)) :: (u0,3,g.az.map cq) :: (.sl b2 0 1 4,4,[[.emp 1,.emp 1,.emp 1,gi 0]]) :: pb bs)).symm
        · rw[List.take_of_length_le (by omega)] at hbs
          have f8:=ho.is 0 rfl (by simp)
          have f2:=ho.is 5 rfl (by simp)
          have n82:b8≠b2:=ho.Ln 0 5 rfl rfl (by omega)
          have c1:=(ho.own 2 rfl).cells
          have k1:=(ho.own 2 rfl).yj
          have c2:=(ho.own 4 rfl).cells
          have k2:=(ho.own 4 rfl).yj
          have hgt:∀ x,(getM mm x).getD (gi 0)=gi (cx o x):=fun x=>by
            rw[hm9.get,cx]; cases cE (fG o 0) x <;> rfl
          simp (disch:=omega) only [↓wr,↓reduceIte,wq,ai,ah,an,ab,af,ag,aj,isNil,Nat.reduceEqDiff,Nat.reduceAdd,Nat.reduceLT,Nat.reduceLeDiff,Int.reduceNeg,Int.reduceToNat,reduceCtorEq,t1,t2,t7,t8,t9,t91,t92,t93,aR]
          refine zf (kt:=3) (et:=3) (z:=gi 0) (by kernel_rfl) (by kernel_rfl) (kY .i64 Tryz.underlying3) (id:=b9) (c:=cc) (m:=mm) (k:=g.start) (by simp (disch:=omega) only [↓wr,↓reduceIte,wq,ai,ah,an,ab,af,ag,aj,isNil,Nat.reduceEqDiff,Nat.reduceAdd,Nat.reduceLT,Nat.reduceLeDiff,Int.reduceNeg,Int.reduceToNat,reduceCtorEq,t9]) (by simp (disch:=omega) only [↓wr,↓reduceIte,wq,ai,ah,an,ab,af,ag,aj,isNil,Nat.reduceEqDiff,Nat.reduceAdd,Nat.reduceLT,Nat.reduceLeDiff,Int.reduceNeg,Int.reduceToNat,reduceCtorEq]) h9 ?_
          rw[hgt]
          simp (disch:=omega) only [↓wr,↓reduceIte,wq,ai,ah,an,ab,af,ag,aj,isNil,Nat.reduceEqDiff,Nat.reduceAdd,Nat.reduceLT,Nat.reduceLeDiff,Int.reduceNeg,Int.reduceToNat,reduceCtorEq,t1,t2,t7,t8,t9,t91,t92,t93,f8,f2,n82,n82.symm,c0,k0,c1,k1,c2,k2]
          intro h' hh
          have hoA:=ho.put (es':=[[u0,u1,u2,gi (cx o g.start)]]) rfl rfl
          have hoB:=(hoA.at 5 (by simp)).put (es':=[[u0,u1,u2,gi (cx o g.start)]]) rfl rfl
          have hv:h'.view=(H2.set b8 (.arr 4 [[u0,u1,u2,gi (cx o g.start)]])).set b2 (.arr 4 [[u0,u1,u2,gi (cx o g.start)]]):=hh
          rw[← hv] at hoB
          exact I1 (x:=(⟨g.az,o.map fun x=>g.ax.getD x.toNat ⟨#[]⟩,(g.rules.filter (bo p q)).map (bh (cx o)),cx o g.start⟩,kl,0)) (b:=bs) (hoB.own 4 rfl) (hoB.own 3 rfl) (hoB.own 5 rfl) (fun y hy=>hoB.1 y (by
            refine List.mem_cons_of_mem _ (List.mem_cons_of_mem _ (List.mem_cons_of_mem _ (List.mem_cons_of_mem _ (List.mem_cons_of_mem _ (List.mem_cons_of_mem _ ?_)))))
            exact hy)) hbs (hoB.own 2 rfl)
  · rename_i hr
    intro h' hh
    rw[if_neg (by simp[hr])]
    exact Br
theorem CL {l:List Int} {a b:List Bool} {t:Bool} (h:ee a b) (k:dg l a t=true):dg l b t=true:=by
  simp only[dg,List.all_eq_true] at k ⊢
  intro s hs
  have:=k s hs
  by_cases h0:0≤s
  · rw[if_pos h0] at this ⊢; exact this
  · rw[if_neg h0] at this ⊢; exact h.2 _ this
theorem ee.Em {a b:List Bool} (h:ee a b) (k:ee b a):a=b:=by
  have h1:=h.c4
  have h2:=k.c4
  exact h1.2 (by omega)
def jm (g:ao) (t:Bool) (is:List Bool):Prop:=∀ i,is.getD i false=true→∃ r∈g.rules,r.left.toNat=i∧dg r.right is t=true
theorem jm.step {g:ao} {t:Bool} {is:List Bool} {r:aG} (h:jm g t is) (hr:r∈g.rules):jm g t (di t is r):=by
  have hle:ee is (di t is r):=by
    unfold di
    split
    · exact .set _ _
    · exact .refl _
  intro i hi
  by_cases e:is.getD i false=true
  · obtain ⟨r',h1,h2,h3⟩:=h i e
    exact ⟨r',h1,h2,CL hle h3⟩
  · unfold di at hi
    by_cases ha:dg r.right is t=true
    · rw[if_pos ha] at hi
      have:r.left.toNat=i:=by
        refine Classical.byContradiction fun hne=>e ?_
        simp only[List.getD_eq_getElem?_getD,List.getElem?_set,if_neg hne] at hi ⊢
        exact hi
      exact ⟨r,hr,this,CL hle ha⟩
    · rw[if_neg ha] at hi; exact absurd hi e
theorem jm.fold {g:ao} {t:Bool} : ∀ (l:List aG) (is:List Bool),(∀ r∈l,r∈g.rules)→jm g t is→jm g t (l.foldl (di t) is)
  | [],is,_,h=>h
  | r :: l,is,hl,h=>jm.fold l _ (fun x hx=>hl x (by simp[hx])) (h.step (hl r (by simp)))
theorem jm.iter {g:ao} {t:Bool} : ∀ (n:Nat) (is:List Bool),jm g t is→jm g t (iter (j3 g t) n is)
  | 0,_,h=>h
  | n+1,is,h=>jm.iter n _ (jm.fold g.rules is (fun _ h=>h) h)
theorem DM (g:ao) (t:Bool):jm g t (aB g t):=by
  unfold aB
  split
  · refine jm.iter _ _ ?_
    intro i hi
    simp only[bK,List.getD_eq_getElem?_getD,List.getElem?_replicate] at hi
    split at hi <;> simp at hi
  · intro i hi; simp at hi
theorem Cs (is:List Bool) (s:Int):ee is (mark is s):=by
  unfold mark
  split
  · exact .set _ _
  · exact .refl _
theorem uD:∀ (l:List Int) (is:List Bool),ee is (l.foldl mark is)
  | [],is=>.refl _
  | s :: l,is=>(Cs is s).trans (uD l _)
theorem BC (p is:List Bool) (r:aG):ee is (gj p is r):=by
  unfold gj
  split
  · exact uD _ _
  · exact .refl _
theorem AL (p:List Bool):∀ (l:List aG) (is:List Bool),ee is (l.foldl (gj p) is)
  | [],is=>.refl _
  | r :: l,is=>(BC p is r).trans (AL p l _)
theorem yd {p:List Bool} : ∀ {l:List aG} {is:List Bool},l.foldl (gj p) is=is→∀ r∈l,gj p is r=is
  | [],_,_,_,h=>by simp at h
  | r :: l,is,h,x,hx=>by
    rw[List.foldl_cons] at h
    have h1:=AL p l (gj p is r)
    rw[h] at h1
    have h2:=(h1.Em (BC p is r))
    rcases List.mem_cons.1 hx with rfl | hx
    · exact h2
    · rw[h2] at h; exact yd h x hx
theorem yY:∀ {l:List Int} {is:List Bool},l.foldl mark is=is→∀ s∈l,mark is s=is
  | [],_,_,_,h=>by simp at h
  | r :: l,is,h,x,hx=>by
    rw[List.foldl_cons] at h
    have h1:=uD l (mark is r)
    rw[h] at h1
    have h2:=(h1.Em (Cs is r))
    rcases List.mem_cons.1 hx with rfl | hx
    · exact h2
    · rw[h2] at h; exact yY h x hx
theorem x9 {g:ao} (hr:bz g=true):pa g (aB g true) (bk g)=bk g∧ee ((bK g).set g.start.toNat true) (bk g):=by
  have hf:=bq hr
  have h:=m5 (mC (aB g true)) g.rules 16 ((bK g).set g.start.toNat true) (by have:=hf.ax; simp[bK]; omega)
  rw[Dp,Gs hr] at h
  exact h
theorem tM {g:ao} (hr:bz g=true):(bk g).getD g.start.toNat false=true:=by
  have hf:=bq hr
  refine (x9 hr).2.2 _ ?_
  have h3:=hf.mM
  have h4:=hf.start
  simp only[List.getD_eq_getElem?_getD]
  rw[List.getElem?_set_self (by simp[bK]; omega)]
  rfl
theorem wi {g:ao} (hr:bz g=true) {r:aG} (hm:r∈g.rules) (hk:bo (aB g true) (bk g) r=true) {s:Int} (hs:s∈r.right) (hn:s < 0):(bk g).getD (-1 - s).toNat false=true:=by
  have hf:=bq hr
  have h1:=yd (x9 hr).1 r hm
  unfold gj at h1
  rw[bo] at hk
  rw[if_pos hk] at h1
  have h2:=yY h1 s hs
  unfold mark at h2
  rw[if_pos hn] at h2
  rw[← h2]
  have hl:=oq hr
  have:=hf.neg hm hs hn
  simp only[List.getD_eq_getElem?_getD]
  rw[List.getElem?_set_self (by omega)]
  rfl
theorem GD {g:ao} (hr:bz g=true) {x:Int} (h0:0≤x) (hp:(aB g true).getD x.toNat false=true) (hq:(bk g).getD x.toNat false=true):x∈bV (aB g true) (bk g) g.rules:=by
  obtain ⟨r,h1,h2,h3⟩:=DM g true _ hp
  have hf:=bq hr
  have h4:=hf.left r h1
  have:r.left=x:=by omega
  refine zS.2 ⟨r,h1,?_,this⟩
  rw[bo,this,hq,h3]; rfl
theorem Ec (g:ao):(if bz g=true then
    if (aB g true).getD g.start.toNat false=true then (iK g (cx (bV (aB g true) (bk g) g.rules)) (aB g true) (bk g),cr (aB g true) (bk g) g.rules 0,0)
    else (pr,[],9)
  else (pr,[],1))=fE g:=by
  unfold fE
  by_cases hr:bz g=true
  · rw[if_pos hr,if_pos hr]
    by_cases hp:(aB g true).getD g.start.toNat false=true
    · rw[if_pos hp,if_pos hp]
      have hf:=bq hr
      rw[Gf]
      · exact GD hr hf.mM hp (tM hr)
      · intro r hm
        obtain ⟨h1,h2⟩:=List.mem_filter.1 hm
        refine ⟨zS.2 ⟨r,h1,h2,rfl⟩,fun s hs hn=>?_⟩
        refine GD hr (by omega) ?_ (wi hr h1 h2 hs hn)
        rw[bo,Bool.and_eq_true] at h2
        have:=h2.2
        simp only[dg,List.all_eq_true] at this
        have:=this s hs
        rwa [if_neg (by omega)] at this
    · rw[if_neg hp,if_neg hp]
  · rw[if_neg hr,if_neg hr]
theorem Ek (g:ao) (hg:g.Ok) (hs:g.Small):cJ Tryz.prog 109 [.agg (aR g)] (xB (fE g)):=by
  rw[← Ec]; exact BM g hg hs
structure Cell where
  kind:Int
  n:Int
  deriving DecidableEq
structure sk where
  bJ:List (List Cell)
  gotos:List (List Int)
  deriving DecidableEq
def D6 (g:ao) (n:Nat) (c:Cell):Bool:=if c.kind=0∨c.kind=3 then decide (c.n=0) else if c.kind=1 then decide (0≤c.n) && decide (c.n < n) else if c.kind=2 then decide (0≤c.n) && decide (c.n < g.rules.length) else false
def JY (g:ao) (n:Nat) (a:List Cell) (l:List Int):Bool:=decide (a.length=g.az.length+1) && decide (l.length=g.ax.length) && a.all (D6 g n) && l.all fun x=>decide (-1≤x) && decide (x < n)
def DW (t:sk) (s x:Int):Cell:=(t.bJ.getD s.toNat []).getD x.toNat ⟨0,0⟩
def zn (t:sk) (s x:Int):Int:=(t.gotos.getD s.toNat []).getD x.toNat (-1)
def Eo (g:ao) (k:Int):aG:=g.rules.getD k.toNat ⟨0,[],0⟩
def GP (t:sk) (st:List Int):Prop:=st≠[]∧∀ x∈st,0≤x∧x < t.bJ.length
theorem getD_some {α:Type} {l:List α} {j:Nat} {d:α} (h:j < l.length):l[j]?=some (l.getD j d):=by simp[List.getD_eq_getElem?_getD,h]
theorem GP.app {t:sk} {st:List Int} {x:Int} (h:∀ y∈st,0≤y∧y < t.bJ.length) (hx:0≤x∧x < t.bJ.length):GP t (st ++ [x]):=by
  refine ⟨by simp,fun y hy=>?_⟩
  rcases List.mem_append.1 hy with hy | hy
  · exact h y hy
  · simp at hy; subst hy; exact hx
theorem GP.take {t:sk} {st:List Int} (h:GP t st) {k:Nat} (hk:0 < k):GP t (st.take k):=by
  refine ⟨?_,fun y hy=>h.2 y (List.mem_of_mem_take hy)⟩
  intro e
  rcases List.take_eq_nil_iff.1 e with e | e
  · omega
  · exact h.1 e
structure l7 (g:ao) (t:sk):Prop where
  right:bz g=true
  n1:1≤t.bJ.length
  LB:t.bJ.length≤300
  len:t.gotos.length=t.bJ.length
  row:∀ i,i < t.bJ.length→JY g t.bJ.length (t.bJ.getD i []) (t.gotos.getD i [])=true
theorem l7.vo {g:ao} {t:sk} (h:l7 g t) {i:Nat} (hi:i < t.bJ.length):(t.bJ.getD i []).length=g.az.length+1∧(t.gotos.getD i []).length=g.ax.length∧(∀ c∈t.bJ.getD i [],D6 g t.bJ.length c=true)∧∀ x∈t.gotos.getD i [],-1≤x∧x < t.bJ.length:=by
  have:=h.row i hi
  unfold JY at this
  simp only[Bool.and_eq_true,decide_eq_true_eq,List.all_eq_true] at this
  exact ⟨this.1.1.1,this.1.1.2,this.1.2,this.2⟩
theorem l7.cell {g:ao} {t:sk} (h:l7 g t) {s x:Int} (hs:0≤s∧s < t.bJ.length) (hx:0≤x∧x≤g.az.length):D6 g t.bJ.length (DW t s x)=true∧(t.bJ.getD s.toNat [])[x.toNat]?=some (DW t s x):=by
  have hi:s.toNat < t.bJ.length:=by omega
  obtain ⟨h1,_,h3,_⟩:=h.vo hi
  have hj:x.toNat < (t.bJ.getD s.toNat []).length:=by omega
  have e:(t.bJ.getD s.toNat [])[x.toNat]?=some (DW t s x):=getD_some hj
  exact ⟨h3 _ (List.mem_of_getElem? e),e⟩
theorem l7.go {g:ao} {t:sk} (h:l7 g t) {s x:Int} (hs:0≤s∧s < t.bJ.length) (hx:0≤x∧x < g.ax.length):(-1≤zn t s x∧zn t s x < t.bJ.length)∧(t.gotos.getD s.toNat [])[x.toNat]?=some (zn t s x):=by
  have hi:s.toNat < t.bJ.length:=by omega
  obtain ⟨_,h2,_,h4⟩:=h.vo hi
  have hj:x.toNat < (t.gotos.getD s.toNat []).length:=by omega
  have e:(t.gotos.getD s.toNat [])[x.toNat]?=some (zn t s x):=getD_some hj
  exact ⟨h4 _ (List.mem_of_getElem? e),e⟩
theorem BB {x:Int} : ∀ (o:List Int) (i:Int),x∈o→∃ k:Nat,c7 (fun y=>y == x) o i=i+k∧o[k]?=some x
  | [],_,h=>by simp at h
  | y :: o,i,h=>by
    by_cases e:y=x
    · exact ⟨0,by simp[c7,e],by simp[e]⟩
    · have hx:x∈o:=by
        rcases List.mem_cons.1 h with rfl | h
        · exact absurd rfl e
        · exact h
      obtain ⟨k,h1,h2⟩:=BB o (i+1) hx
      exact ⟨k+1,by simp only[c7]; rw[if_neg (by simp[e]),h1]; push_cast; omega,by simpa using h2⟩
theorem uC {o:List Int} {x:Int} (h:x∈o):o[(bp o x).toNat]?=some x:=by
  obtain ⟨k,h1,h2⟩:=BB o 0 h
  have:bp o x=k:=by unfold bp; omega
  rw[this]; simpa using h2
theorem sU {o:List Int} (hn:o.Nodup) {k:Nat} {x:Int} (h:o[k]?=some x):bp o x=k:=by
  have hx:=List.mem_of_getElem? h
  have h1:=uC hx
  have h2:=gQ hx
  obtain ⟨hk,h3⟩:=List.getElem?_eq_some_iff.1 h
  obtain ⟨hk2,h4⟩:=List.getElem?_eq_some_iff.1 h1
  have:=(List.getElem_inj hn).1 (h4.trans h3.symm)
  omega
theorem HU (acc:List Int) (r:aG):∃ m,c8 acc r=acc ++ m:=by
  unfold c8
  split
  · exact ⟨[],by simp⟩
  · exact ⟨_,rfl⟩
theorem oM:∀ (l:List aG) (acc:List Int),∃ m,l.foldl c8 acc=acc ++ m
  | [],acc=>⟨[],by simp⟩
  | r :: l,acc=>by
    obtain ⟨m,hm⟩:=HU acc r
    obtain ⟨k,hk⟩:=oM l (c8 acc r)
    exact ⟨m ++ k,by rw[List.foldl_cons,hk,hm,List.append_assoc]⟩
theorem HB {a b:List Int} {x:Int} (h:x∈a):bp (a ++ b) x=bp a x:=by
  unfold bp
  rw[tn _ _ _ _ (by omega)]
  have:=gQ h
  unfold bp at this
  rw[if_pos this.1]
theorem ql {r:ao} {o:List Int} (ho:o.Nodup) (hr:r.ax.length=o.length):∀ (l:List aG) (acc:List Int),o=l.foldl c8 acc→(∀ x∈l,ks r (bh (bp o) x)=true)→gv r (l.map (bh (bp o))) ((acc.length:Int) - 1)=true
  | [],acc,h,_=>by
    simp only[List.foldl_nil] at h
    simp[gv,hr,h]
  | x :: l,acc,h,hb=>by
    simp only[List.map_cons,gv,Bool.and_eq_true,decide_eq_true_eq]
    rw[List.foldl_cons] at h
    have h1:(bh (bp o) x).left=bp o x.left:=rfl
    obtain ⟨m,hm⟩:=oM l (c8 acc x)
    rw[← h] at hm
    by_cases hx:x.left∈acc
    · have e:c8 acc x=acc:=by unfold c8; rw[if_pos hx]
      rw[e] at hm h
      have h2:=gQ hx
      have h3:bp o x.left=bp acc x.left:=by rw[hm]; exact HB hx
      rw[h1,h3,if_neg (by omega)]
      exact ⟨⟨⟨h2.1,by omega⟩,hb x (by simp)⟩,ql ho hr l acc h fun y hy=>hb y (by simp[hy])⟩
    · have e:c8 acc x=acc ++ [x.left]:=by unfold c8; rw[if_neg hx]
      rw[e] at hm h
      have h3:bp o x.left=acc.length:=sU ho (by rw[hm]; simp)
      rw[h1,h3,if_pos (by omega)]
      refine ⟨⟨⟨by omega,by omega⟩,hb x (by simp)⟩,?_⟩
      have:=ql ho hr l (acc ++ [x.left]) h fun y hy=>hb y (by simp[hy])
      rw[List.length_append] at this
      simpa using this
theorem tF {g r:ao} (h:r.az=g.az):∀ (l:List Term) (i:Int),kX r l i=kX g l i
  | [],_=>rfl
  | t :: l,i=>by
    simp only[kX,tF h l]
    congr 1
    simp only[m8,m9,vx,h]
theorem lk {o:List Int} {n:Nat} (h:o.Nodup) (hb:∀ x∈o,0≤x∧x < n):o.length≤n:=by
  have:=kA o ((List.range n).map fun (k:Nat)=>(k:Int)) h fun x hx=>by
    have:=hb x hx
    exact List.mem_map.2 ⟨x.toNat,List.mem_range.2 (by omega),by omega⟩
  simpa using this
structure c5 (g:ao) (p q:List Bool) (o:List Int) (r:ao):Prop where
  right:bz g=true
  pe:p=aB g true
  qe:q=bk g
  oe:o=bV p q g.rules
  re:r=iK g (bp o) p q
  nodup:o.Nodup
  inside:∀ x∈o,0≤x∧x < g.ax.length
  kept:∀ R∈g.rules,bo p q R=true→R.left∈o∧∀ s∈R.right,s < 0→-1 - s∈o
  from_:∀ x∈o,∃ R∈g.rules,bo p q R=true∧R.left=x
  start:g.start∈o
section
variable {g r:ao} {p q:List Bool} {o:List Int}
theorem c5.rules (h:c5 g p q o r):r.rules=(g.rules.filter (bo p q)).map (bh (bp o)):=by rw[h.re]; rfl
theorem c5.ax (h:c5 g p q o r):r.ax=o.map fun x=>g.ax.getD x.toNat ⟨#[]⟩:=by rw[h.re,h.oe]; rfl
theorem c5.az (h:c5 g p q o r):r.az=g.az:=by rw[h.re]; rfl
theorem c5.Ax (h:c5 g p q o r):r.start=bp o g.start:=by rw[h.re]; rfl
theorem c5.len (h:c5 g p q o r):r.ax.length=o.length:=by rw[h.ax]; simp
theorem c5.iV (h:c5 g p q o r):bz r=true:=by
  have hf:=bq h.right
  have hR:=h.right
  simp only[bz,tc,ve,Bool.and_eq_true,decide_eq_true_eq] at hR ⊢
  obtain ⟨⟨⟨⟨⟨⟨⟨a1,a2⟩,⟨a3,a4⟩,a5⟩,a6⟩,a7⟩,a8⟩,a9⟩,a10⟩:=hR
  have hst:=gQ h.start
  have hol:o.length≤g.ax.length:=lk h.nodup h.inside
  have hgn:g.ax.Nodup∧∀ s∈g.ax,fZ (eR s)=true∧m9 g s < 0:=by
    rw[nB] at a5
    refine ⟨(nF g.ax).1 fun k s hk=>?_,fun s hs=>?_⟩
    · have:=a5 k s hk
      simp only[nU,AO,Bool.and_eq_true,beq_iff_eq] at this
      have:=this.1.2
      omega
    · obtain ⟨k,hk⟩:=List.getElem?_of_mem hs
      have:=a5 k s hk
      simp only[nU,Bool.and_eq_true,decide_eq_true_eq] at this
      exact ⟨this.1.1,this.2⟩
  have hget:∀ x∈o,∃ (hx:x.toNat < g.ax.length),g.ax.getD x.toNat ⟨#[]⟩=g.ax[x.toNat]:=fun x hx=>by
    have:=h.inside x hx
    exact ⟨by omega,by simp[List.getD_eq_getElem?_getD,List.getElem?_eq_getElem (show x.toNat < g.ax.length by omega)]⟩
  have hrn:r.ax.Nodup:=by
    rw[h.ax,List.nodup_iff_pairwise_ne,List.pairwise_map]
    refine (List.Pairwise.and_mem.1 h.nodup).imp ?_
    rintro x y ⟨hx,hy,hne⟩ e
    obtain ⟨h1,h2⟩:=hget x hx
    obtain ⟨h3,h4⟩:=hget y hy
    rw[h2,h4] at e
    have h5:=(List.getElem_inj hgn.1).1 e
    have h6:=h.inside x hx
    have h7:=h.inside y hy
    exact hne (by omega)
  have hrules:(g.rules.filter (bo p q)).length≤g.rules.length:=List.length_filter_le _ _
  obtain ⟨R0,hR0,hk0,_⟩:=h.from_ _ h.start
  have hpos:0 < (g.rules.filter (bo p q)).length:=List.length_pos_of_mem (List.mem_filter.2 ⟨hR0,hk0⟩)
  have hrl:r.rules.length=(g.rules.filter (bo p q)).length:=by rw[h.rules]; simp
  refine ⟨⟨⟨⟨⟨⟨⟨by rw[h.az]; exact a1,?_⟩,⟨by rw[h.len]; omega,by rw[h.len]; omega⟩,?_⟩,by omega⟩,by omega⟩,by rw[h.Ax]; omega⟩,by rw[h.Ax,h.len]; omega⟩,?_⟩
  · rw[h.az,tF h.az]; exact a2
  · rw[nB]
    intro k s hk
    have hm:=List.mem_of_getElem? hk
    have hidx:=(nF r.ax).2 hrn k s hk
    rw[h.ax,List.mem_map] at hm
    obtain ⟨x,hx,rfl⟩:=hm
    obtain ⟨h1,h2⟩:=hget x hx
    obtain ⟨h3,h4⟩:=hgn.2 _ (h2 ▸ List.getElem_mem h1:g.ax.getD x.toNat ⟨#[]⟩∈g.ax)
    simp only[nU,AO,Bool.and_eq_true,beq_iff_eq,decide_eq_true_eq]
    refine ⟨⟨h3,by rw[hidx]; omega⟩,?_⟩
    simp only[m9,h.az] at h4 ⊢
    exact h4
  · rw[h.rules]
    have:=ql (r:=r) h.nodup h.len (g.rules.filter (bo p q)) [] (by rw[h.oe]; rfl) (fun x hx=>?_)
    · simpa using this
    obtain ⟨hm,hk⟩:=List.mem_filter.1 hx
    obtain ⟨_,hin⟩:=h.kept x hm hk
    have hb:=(rF _ _ a10).2 x hm
    have hb:=hb.2.2
    simp only[ks,Bool.and_eq_true,decide_eq_true_eq,List.all_eq_true] at hb ⊢
    obtain ⟨⟨⟨b1,b2⟩,b3⟩,b4⟩:=hb
    refine ⟨⟨⟨by simpa [bh] using b1,b2⟩,by rw[h.az]; exact b3⟩,fun s hs=>?_⟩
    simp only[bh,List.mem_map] at hs
    obtain ⟨s0,hs0,rfl⟩:=hs
    have b5:=b4 s0 hs0
    by_cases hn:s0 < 0
    · rw[if_pos hn]
      have hl:=gQ (hin s0 hs0 hn)
      simp only[uU,nN,Bool.and_eq_true]
      rw[if_neg (by omega),decide_eq_false (p:=0≤-1 - bp o (-1 - s0)) (by omega)]
      simp only[h.len,decide_eq_true_eq,Bool.false_and,Bool.not_false,and_true]
      omega
    · rw[if_neg hn]
      simp only[uU,nN,h.az] at b5 ⊢
      rw[if_pos (by omega)] at b5 ⊢
      exact b5
end
inductive o8 (g:ao):Int→Prop
  | mk (R:aG):R∈g.rules→(∀ s∈R.right,s < 0→o8 g (-1 - s))→o8 g R.left
inductive kG (g:ao) (p:List Bool):Int→Prop
  | start:kG g p g.start
  | next (R:aG) (s:Int):R∈g.rules→kG g p R.left→dg R.right p true=true→s∈R.right→s < 0→kG g p (-1 - s)
theorem p7 {l:List Int} {p:List Bool} : dg l p true=true↔∀ s∈l,s < 0→p.getD (-1 - s).toNat false=true:=by
  simp only[dg,List.all_eq_true]
  constructor
  · intro h s hs hn
    have:=h s hs
    rwa [if_neg (by omega)] at this
  · intro h s hs
    by_cases hn:s < 0
    · rw[if_neg (by omega)]; exact h s hs hn
    · rw[if_pos (by omega)]
theorem uG {l:List Bool} {i j:Nat} (h:(l.set i true).getD j false=true):j=i∨l.getD j false=true:=by
  by_cases e:i=j
  · exact .inl e.symm
  · right
    simp only[List.getD_eq_getElem?_getD,List.getElem?_set,if_neg e] at h ⊢
    exact h
theorem vu {g:ao} {i:Nat} : (bK g).getD i false=false:=by
  simp only[bK,List.getD_eq_getElem?_getD,List.getElem?_replicate]
  split <;> rfl
theorem zA {g:ao} (hr:bz g=true):∀ i:Nat,(aB g true).getD i false=true→o8 g i:=by
  have hf:=bq hr
  have hst:∀ (is:List Bool) (R:aG),R∈g.rules→(∀ i:Nat,is.getD i false=true→o8 g i)→∀ i:Nat,(di true is R).getD i false=true→o8 g i:=by
    intro is R hR h i hi
    unfold di at hi
    split at hi
    · rename_i ha
      rcases uG hi with rfl | hi
      · have:=hf.left R hR
        have e:((R.left.toNat:Nat):Int)=R.left:=by omega
        rw[e]
        refine .mk R hR fun s hs hn=>?_
        have:=h _ (p7.1 ha s hs hn)
        rwa [show (((-1 - s).toNat:Nat):Int) = -1 - s by omega] at this
      · exact h i hi
    · exact h i hi
  have hfold:∀ (l:List aG) (is:List Bool),(∀ R∈l,R∈g.rules)→(∀ i:Nat,is.getD i false=true→o8 g i)→∀ i:Nat,(l.foldl (di true) is).getD i false=true→o8 g i:=by
    intro l
    induction l with
    | nil=>intro is _ h; exact h
    | cons R l ih=>intro is hl h; exact ih _ (fun x hx=>hl x (by simp[hx])) (hst is R (hl R (by simp)) h)
  have hit:∀ (n:Nat) (is:List Bool),(∀ i:Nat,is.getD i false=true→o8 g i)→∀ i:Nat,(iter (j3 g true) n is).getD i false=true→o8 g i:=by
    intro n
    induction n with
    | zero=>intro is h; exact h
    | succ n ih=>intro is h; exact ih _ (hfold g.rules is (fun _ h=>h) h)
  rw[aB,if_pos hr]
  exact hit _ _ fun i hi=>by rw[vu] at hi; simp at hi
theorem yo (t:Bool) (is:List Bool) (R:aG):ee is (di t is R):=by
  unfold di
  split
  · exact .set _ _
  · exact .refl _
theorem xW (t:Bool):∀ (l:List aG) (is:List Bool),ee is (l.foldl (di t) is)
  | [],is=>.refl _
  | R :: l,is=>(yo t is R).trans (xW t l _)
theorem uX {t:Bool} : ∀ {l:List aG} {is:List Bool},l.foldl (di t) is=is→∀ R∈l,di t is R=is
  | [],_,_,_,h=>by simp at h
  | R :: l,is,h,x,hx=>by
    rw[List.foldl_cons] at h
    have h1:=xW t l (di t is R)
    rw[h] at h1
    have h2:=(h1.Em (yo t is R))
    rcases List.mem_cons.1 hx with rfl | hx
    · exact h2
    · rw[h2] at h; exact uX h x hx
theorem F7 {g:ao} (hr:bz g=true) (t:Bool):j3 g t (aB g t)=aB g t:=by
  have hf:=bq hr
  have h:=m5 (ic t) g.rules 16 (bK g) (by have:=hf.ax; simp[bK]; omega)
  rw[CK,A1 hr] at h
  exact h.1
theorem mN {g:ao} (hr:bz g=true) {t:Bool} {R:aG} (hR:R∈g.rules) (ha:dg R.right (aB g t) t=true):(aB g t).getD R.left.toNat false=true:=by
  have h1:=uX (F7 hr t) R hR
  have hf:=bq hr
  have hl:=ig hr t
  have hb:=hf.left R hR
  unfold di at h1
  rw[if_pos ha] at h1
  rw[← h1]
  simp only[List.getD_eq_getElem?_getD]
  rw[List.getElem?_set_self (by omega)]
  rfl
theorem sB {g:ao} (hr:bz g=true) {x:Int} (h:o8 g x):(aB g true).getD x.toNat false=true:=by
  induction h with
  | mk R hR _ ih=>exact mN hr hR (p7.2 fun s hs hn=>ih s hs hn)
theorem AH {g:ao} (hr:bz g=true):∀ i:Nat,(bk g).getD i false=true→kG g (aB g true) i:=by
  have hf:=bq hr
  have hmk:∀ (R:aG),R∈g.rules→kG g (aB g true) R.left→dg R.right (aB g true) true=true→∀ (l:List Int) (is:List Bool),(∀ s∈l,s∈R.right)→(∀ i:Nat,is.getD i false=true→kG g (aB g true) i)→∀ i:Nat,(l.foldl mark is).getD i false=true→kG g (aB g true) i:=by
    intro R hR hl ha l
    induction l with
    | nil=>intro is _ h; exact h
    | cons s l ih =>
      intro is hs h
      refine ih _ (fun x hx=>hs x (by simp[hx])) fun i hi=>?_
      unfold mark at hi
      split at hi
      · rename_i hn
        rcases uG hi with rfl | hi
        · rw[show (((-1 - s).toNat:Nat):Int) = -1 - s by omega]
          exact .next R s hR hl ha (hs s (by simp)) hn
        · exact h i hi
      · exact h i hi
  have hst:∀ (is:List Bool) (R:aG),R∈g.rules→(∀ i:Nat,is.getD i false=true→kG g (aB g true) i)→∀ i:Nat,(gj (aB g true) is R).getD i false=true→kG g (aB g true) i:=by
    intro is R hR h
    unfold gj
    split
    · rename_i ha
      rw[Bool.and_eq_true] at ha
      have h1:=h _ ha.1
      have:=hf.left R hR
      rw[show ((R.left.toNat:Nat):Int)=R.left by omega] at h1
      exact hmk R hR h1 ha.2 R.right is (fun _ h=>h) h
    · exact h
  have hfold:∀ (l:List aG) (is:List Bool),(∀ R∈l,R∈g.rules)→(∀ i:Nat,is.getD i false=true→kG g (aB g true) i)→∀ i:Nat,(l.foldl (gj (aB g true)) is).getD i false=true→kG g (aB g true) i:=by
    intro l
    induction l with
    | nil=>intro is _ h; exact h
    | cons R l ih=>intro is hl h; exact ih _ (fun x hx=>hl x (by simp[hx])) (hst is R (hl R (by simp)) h)
  have hit:∀ (n:Nat) (is:List Bool),(∀ i:Nat,is.getD i false=true→kG g (aB g true) i)→∀ i:Nat,(iter (pa g (aB g true)) n is).getD i false=true→kG g (aB g true) i:=by
    intro n
    induction n with
    | zero=>intro is h; exact h
    | succ n ih=>intro is h; exact ih _ (hfold g.rules is (fun _ h=>h) h)
  rw[bk,if_pos hr]
  refine hit _ _ fun i hi=>?_
  rcases uG hi with rfl | hi
  · have:=hf.mM
    rw[show ((g.start.toNat:Nat):Int)=g.start by omega]
    exact .start
  · rw[vu] at hi; simp at hi
theorem sm {g:ao} (hr:bz g=true) {x:Int} (h:kG g (aB g true) x):(bk g).getD x.toNat false=true:=by
  induction h with
  | start=>exact tM hr
  | next R s hR _ ha hs hn ih=>exact wi hr hR (by rw[bo,ih,ha]; rfl) hs hn
section
variable {g r:ao} {p q:List Bool} {o:List Int}
theorem c5.Lq (h:c5 g p q o r) {x:Int} (hd:o8 g x):x∈o→o8 r (bp o x):=by
  induction hd with
  | mk R hR hsub ih =>
    intro hx
    obtain ⟨R1,hR1,hk1,e1⟩:=h.from_ _ hx
    have hk:bo p q R=true:=by
      rw[bo,Bool.and_eq_true] at hk1 ⊢
      refine ⟨by rw[← e1]; exact hk1.1,?_⟩
      rw[h.pe]
      exact p7.2 fun s hs hn=>sB h.right (hsub s hs hn)
    have hin:=(h.kept R hR hk).2
    have hm:bh (bp o) R∈r.rules:=by rw[h.rules]; exact List.mem_map.2 ⟨R,List.mem_filter.2 ⟨hR,hk⟩,rfl⟩
    refine o8.mk (bh (bp o) R) hm fun s' hs' hn'=>?_
    simp only[bh,List.mem_map] at hs'
    obtain ⟨s,hs,rfl⟩:=hs'
    by_cases hn:s < 0
    · rw[if_pos hn]
      have:=ih s hs hn (hin s hs hn)
      rwa [show -1 - (-1 - bp o (-1 - s))=bp o (-1 - s) by omega]
    · rw[if_neg hn] at hn'; omega
theorem c5.J0 (h:c5 g p q o r) {x:Int} (hx:x∈o):(aB r true).getD (bp o x).toNat false=true:=by
  obtain ⟨R,hR,hk,rfl⟩:=h.from_ _ hx
  rw[bo,Bool.and_eq_true,h.pe] at hk
  have h1:=mN h.right hR hk.2
  have h2:=zA h.right _ h1
  have:=(h.inside _ hx)
  rw[show ((R.left.toNat:Nat):Int)=R.left by omega] at h2
  exact sB h.iV (h.Lq h2 hx)
theorem c5.at_ (h:c5 g p q o r) {k:Nat} (hk:k < o.length):∃ x∈o,bp o x=k∧o[k]?=some x:=⟨o[k],List.getElem_mem _,sU h.nodup (List.getElem?_eq_getElem hk),List.getElem?_eq_getElem hk⟩
theorem c5.xO (h:c5 g p q o r) {k:Nat} (hk:k < o.length):(aB r true).getD k false=true:=by
  obtain ⟨x,hx,h1,_⟩:=h.at_ hk
  have:=h.J0 hx
  rwa [h1,Int.toNat_natCast] at this
theorem c5.FU (h:c5 g p q o r) {R:aG} (hR:R∈r.rules):dg R.right (aB r true) true=true:=by
  have hf:=bq h.iV
  refine p7.2 fun s hs hn=>h.xO ?_
  have:=hf.neg hR hs hn
  rw[h.len] at this
  omega
theorem c5.Lp (h:c5 g p q o r) {x:Int} (hd:kG g (aB g true) x):kG r (aB r true) (bp o x):=by
  induction hd with
  | start=>rw[← h.Ax]; exact .start
  | next R s hR h1 ha hs hn ih =>
    have hk:bo p q R=true:=by
      rw[bo,h.pe,h.qe,ha,sm h.right h1]; rfl
    have hm:bh (bp o) R∈r.rules:=by rw[h.rules]; exact List.mem_map.2 ⟨R,List.mem_filter.2 ⟨hR,hk⟩,rfl⟩
    have hin:=(h.kept R hR hk).2 s hs hn
    have h2:=gQ hin
    have:=kG.next (g:=r) (p:=aB r true) (bh (bp o) R) (-1 - bp o (-1 - s)) hm ih (h.FU hm) (by
      simp only[bh,List.mem_map]
      exact ⟨s,hs,by rw[if_pos hn]⟩) (by omega)
    rwa [show -1 - (-1 - bp o (-1 - s))=bp o (-1 - s) by omega] at this
theorem c5.GN (h:c5 g p q o r) {k:Nat} (hk:k < o.length):(bk r).getD k false=true:=by
  obtain ⟨x,hx,h1,_⟩:=h.at_ hk
  obtain ⟨R,hR,hkk,rfl⟩:=h.from_ _ hx
  rw[bo,Bool.and_eq_true,h.qe] at hkk
  have h2:=AH h.right _ hkk.1
  have:=(h.inside _ hx)
  rw[show ((R.left.toNat:Nat):Int)=R.left by omega] at h2
  have:=sm h.iV (h.Lp h2)
  rwa [h1,Int.toNat_natCast] at this
def hZ (n:Nat):List Int:=(List.range n).map fun (k:Nat)=>(k:Int)
theorem zT (n:Nat):(hZ n).length=n:=by simp[hZ]
theorem ug {n k:Nat} (h:k < n):(hZ n)[k]?=some (k:Int):=by simp[hZ,h]
theorem D3 (n:Nat):(hZ n).Nodup:=by
  rw[hZ,List.nodup_iff_pairwise_ne,List.pairwise_map]
  exact (List.nodup_range (n:=n)).imp fun h e=>h (by omega)
theorem uK {n:Nat} {x:Int} (h0:0≤x) (h1:x < n):bp (hZ n) x=x:=by
  have:=sU (D3 n) (ug (n:=n) (k:=x.toNat) (by omega))
  rw[show ((x.toNat:Nat):Int)=x by omega] at this
  exact this
theorem yM {p q:List Bool} : ∀ (l:List aG) (i:Int),(∀ R∈l,bo p q R=true)→cr p q l i=(List.range l.length).map fun (k:Nat)=>i+(k:Int)
  | [],_,_=>rfl
  | R :: l,i,h=>by
    rw[cr,if_pos (h R (by simp)),yM l (i+1) (fun x hx=>h x (by simp[hx])),List.length_cons,List.range_succ_eq_map,List.map_cons,List.map_map]
    congr 1
    · omega
    · apply List.map_congr_left
      intro k _
      simp only[Function.comp]
      push_cast; omega
theorem oS {f:Int→Int} {o:List Int} (hf:∀ x∈o,∀ y∈o,f x=f y→x=y):∀ (l:List aG) (acc:List Int),(∀ x∈acc,x∈o)→(∀ R∈l,R.left∈o)→(l.map (bh f)).foldl c8 (acc.map f)=(l.foldl c8 acc).map f
  | [],_,_,_=>rfl
  | R :: l,acc,ha,hl=>by
    have e:c8 (acc.map f) (bh f R)=(c8 acc R).map f:=by
      have h1:(bh f R).left=f R.left:=rfl
      unfold c8
      rw[h1]
      by_cases h:R.left∈acc
      · rw[if_pos h,if_pos (List.mem_map.2 ⟨_,h,rfl⟩)]
      · rw[if_neg h,if_neg (fun hm=>by
          obtain ⟨y,hy,e⟩:=List.mem_map.1 hm
          exact h (hf y (ha y hy) _ (hl R (by simp)) e ▸ hy))]
        simp
    rw[List.map_cons,List.foldl_cons,List.foldl_cons,e]
    refine oS hf l (c8 acc R) (fun x hx=>?_) (fun x hx=>hl x (by simp[hx]))
    unfold c8 at hx
    split at hx
    · exact ha x hx
    · rcases List.mem_append.1 hx with hx | hx
      · exact ha x hx
      · simp at hx; subst hx; exact hl R (by simp)
theorem c5.inj (h:c5 g p q o r):∀ x∈o,∀ y∈o,bp o x=bp o y→x=y:=by
  intro x hx y hy e
  have h1:=uC hx
  have h2:=uC hy
  rw[e,h2] at h1
  exact (Option.some.inj h1).symm
theorem c5.IA (h:c5 g p q o r):o.map (bp o)=hZ o.length:=by
  apply List.ext_getElem?
  intro k
  rw[List.getElem?_map]
  by_cases hk:k < o.length
  · rw[ug hk,List.getElem?_eq_getElem hk,Option.map_some,sU h.nodup (List.getElem?_eq_getElem hk)]
  · rw[List.getElem?_eq_none (by omega),List.getElem?_eq_none (by rw[zT]; omega)]; rfl
theorem c5.ue (h:c5 g p q o r):∀ R∈r.rules,bo (aB r true) (bk r) R=true:=fun R hR=>by
  have hf:=bq h.iV
  have:=hf.left R hR
  rw[h.len] at this
  rw[bo,h.GN (by omega),h.FU hR]; rfl
theorem c5.ord (h:c5 g p q o r):bV (aB r true) (bk r) r.rules=hZ o.length:=by
  unfold bV
  rw[List.filter_eq_self.2 h.ue,h.rules]
  have:=oS h.inj (g.rules.filter (bo p q)) [] (by simp) (fun R hR=>by
    obtain ⟨h1,h2⟩:=List.mem_filter.1 hR
    exact (h.kept R h1 h2).1)
  rw[List.map_nil] at this
  rw[this,← h.IA]
  congr 1
  rw[h.oe]; rfl
theorem c5.once (h:c5 g p q o r):fE r=(r,hZ r.rules.length,0):=by
  have hf:=bq h.iV
  have hst:=hf.start
  have hst0:=hf.mM
  rw[h.len] at hst
  rw[zw h.iV,if_pos (h.xO (by omega)),h.ord]
  have hk:cr (aB r true) (bk r) r.rules 0=hZ r.rules.length:=by
    rw[yM _ _ h.ue]
    unfold hZ
    apply List.map_congr_left
    intro k _; omega
  have hr:iK r (bp (hZ o.length)) (aB r true) (bk r)=r:=by
    unfold iK
    rw[h.ord,List.filter_eq_self.2 h.ue]
    have e1:((hZ o.length).map fun x=>r.ax.getD x.toNat ⟨#[]⟩)=r.ax:=by
      apply List.ext_getElem?
      intro k
      rw[List.getElem?_map]
      by_cases hkk:k < o.length
      · rw[ug hkk,Option.map_some]
        simp[List.getD_eq_getElem?_getD,List.getElem?_eq_getElem (show k < r.ax.length by rw[h.len]; omega)]
      · rw[List.getElem?_eq_none (by rw[zT]; omega),List.getElem?_eq_none (by rw[h.len]; omega)]; rfl
    have e2:r.rules.map (bh (bp (hZ o.length)))=r.rules:=by
      conv=>rhs; rw[← List.map_id r.rules]
      apply List.map_congr_left
      intro R hR
      have hl:=hf.left R hR
      rw[h.len] at hl
      unfold bh
      rw[uK hl.1 hl.2]
      have e3:(R.right.map fun s=>if s < 0 then -1 - bp (hZ o.length) (-1 - s) else s)=R.right:=by
        conv=>rhs; rw[← List.map_id R.right]
        apply List.map_congr_left
        intro s hs
        by_cases hn:s < 0
        · have:=hf.neg hR hs hn
          rw[h.len] at this
          rw[if_pos hn,uK (by omega) this]
          simp only[id]; omega
        · rw[if_neg hn]; rfl
      rw[e3]; rfl
    rw[e1,e2,uK hst0 hst]
  rw[hr,hk]
end
def isRed (g:ao):Bool:=(fE g).2.2 == 0 && decide (g=(fE g).1)
def kz (p:List Int) (i:Nat) (s:Int):Prop:=∃ c,p[i]?=some c∧(c=s∨c = -1)
inductive Sp (g:ao) (p:List Int):List Int→Nat→Nat→Prop
  | nil (i:Nat):Sp g p [] i i
  | term (s:Int) (l:List Int) (i j:Nat):0≤s→kz p i s→Sp g p l (i+1) j→Sp g p (s :: l) i j
  | cW (s:Int) (l:List Int) (R:aG) (i k j:Nat):s < 0→R∈g.rules→R.left = -1 - s→Sp g p R.right i k→Sp g p l k j→Sp g p (s :: l) i j
theorem Sp.le {g:ao} {p:List Int} {l:List Int} {i j:Nat} (h:Sp g p l i j):i≤j:=by
  induction h with
  | nil=>exact Nat.le_refl _
  | term _ _ _ _ _ _ _ ih=>omega
  | cW _ _ _ _ _ _ _ _ _ _ _ ih1 ih2=>omega
theorem Sp.len {g:ao} {p:List Int} {l:List Int} {i j:Nat} (h:Sp g p l i j):i≤p.length→j≤p.length:=by
  induction h with
  | nil=>exact id
  | term _ _ i _ _ hf _ ih =>
    intro _
    obtain ⟨c,hc,_⟩:=hf
    have:=(List.getElem?_eq_some_iff.1 hc).1
    exact ih (by omega)
  | cW _ _ _ _ _ _ _ _ _ _ _ ih1 ih2=>exact fun h=>ih2 (ih1 h)
theorem Sp.app {g:ao} {p:List Int} {a:List Int} {i k:Nat} (h:Sp g p a i k):∀ {b:List Int} {j:Nat},Sp g p b k j→Sp g p (a ++ b) i j:=by
  induction h with
  | nil=>exact fun h=>h
  | term s l i _ h0 hf _ ih=>exact fun hb=>.term s _ i _ h0 hf (ih hb)
  | cW s l R i k _ h0 hR hl h1 _ _ ih2=>exact fun hb=>.cW s _ R i k _ h0 hR hl h1 (ih2 hb)
theorem Sp.split {g:ao} {p:List Int} : ∀ {a b:List Int} {i j:Nat},Sp g p (a ++ b) i j→∃ k,Sp g p a i k∧Sp g p b k j
  | [],b,i,j,h=>⟨i,.nil i,h⟩
  | s :: a,b,i,j,h=>by
    cases h with
    | term _ _ _ _ h0 hf h =>
      obtain ⟨k,h1,h2⟩:=Sp.split h
      exact ⟨k,.term s a i k h0 hf h1,h2⟩
    | cW _ _ R _ m _ h0 hR hl h1 h =>
      obtain ⟨k,h2,h3⟩:=Sp.split h
      exact ⟨k,.cW s a R i m k h0 hR hl h1 h2,h3⟩
structure Item where
  aT:Nat
  dot:Nat
  iZ:Nat
  deriving DecidableEq
def Sound (g:ao) (p:List Int) (at_:Nat) (x:Item):Prop:=∃ R,g.rules[x.aT]?=some R∧x.dot≤R.right.length∧x.iZ≤at_∧Sp g p (R.right.take x.dot) x.iZ at_
structure Ld (g:ao) (p:List Int) (S:Nat→List Item):Prop where
  start:∀ (i:Nat) (R:aG),g.rules[i]?=some R→R.left=g.start→⟨i,0,0⟩∈S 0
  term:∀ a x R s,x∈S a→g.rules[x.aT]?=some R→R.right[x.dot]?=some s→0≤s→kz p a s→⟨x.aT,x.dot+1,x.iZ⟩∈S (a+1)
  pred:∀ a x R s i R',x∈S a→g.rules[x.aT]?=some R→R.right[x.dot]?=some s→s < 0→g.rules[i]?=some R'→R'.left = -1 - s→a≤p.length→⟨i,0,a⟩∈S a
  null:∀ a x R s,x∈S a→g.rules[x.aT]?=some R→R.right[x.dot]?=some s→s < 0→(aB g false).getD (-1 - s).toNat false=true→a≤p.length→⟨x.aT,x.dot+1,x.iZ⟩∈S a
  comp:∀ a y R' x R s,y∈S a→g.rules[y.aT]?=some R'→y.dot=R'.right.length→y.iZ < a→x∈S y.iZ→g.rules[x.aT]?=some R→R.right[x.dot]?=some s→s < 0→R'.left = -1 - s→a≤p.length→⟨x.aT,x.dot+1,x.iZ⟩∈S a
inductive In (p:List Int) (T:Nat→Nat→Nat→Prop):List Int→Nat→Nat→Prop
  | nil (i:Nat):In p T [] i i
  | term (s:Int) (l:List Int) (i j:Nat):0≤s→kz p i s→In p T l (i+1) j→In p T (s :: l) i j
  | cW (s:Int) (l:List Int) (i k j:Nat):s < 0→T (-1 - s).toNat i k→In p T l k j→In p T (s :: l) i j
theorem In.app {p:List Int} {T:Nat→Nat→Nat→Prop} {a:List Int} {i k:Nat} (h:In p T a i k):∀ {b:List Int} {j:Nat},In p T b k j→In p T (a ++ b) i j:=by
  induction h with
  | nil=>exact fun h=>h
  | term s l i _ h0 hf _ ih=>exact fun hb=>.term s _ i _ h0 hf (ih hb)
  | cW s l i k _ h0 h1 _ ih=>exact fun hb=>.cW s _ i k _ h0 h1 (ih hb)
theorem In.split {p:List Int} {T:Nat→Nat→Nat→Prop} : ∀ {a b:List Int} {i j:Nat},In p T (a ++ b) i j→∃ k,In p T a i k∧In p T b k j
  | [],b,i,j,h=>⟨i,.nil i,h⟩
  | s :: a,b,i,j,h=>by
    cases h with
    | term _ _ _ _ h0 hf h =>
      obtain ⟨k,h1,h2⟩:=In.split h
      exact ⟨k,.term s a i k h0 hf h1,h2⟩
    | cW _ _ _ m _ h0 h1 h =>
      obtain ⟨k,h2,h3⟩:=In.split h
      exact ⟨k,.cW s a i m k h0 h1 h2,h3⟩
theorem In.le {p:List Int} {T:Nat→Nat→Nat→Prop} (hT:∀ n i j,T n i j→i≤j) {l:List Int} {i j:Nat} (h:In p T l i j):i≤j:=by
  induction h with
  | nil=>exact Nat.le_refl _
  | term _ _ _ _ _ _ _ ih=>omega
  | cW _ _ _ _ _ _ h1 _ ih=>have:=hT _ _ _ h1; omega
def stepT (p:List Int) (T:Nat→Nat→Nat→Prop) (s:Int) (i j:Nat):Prop:=if 0≤s then kz p i s∧j=i+1 else T (-1 - s).toNat i j
theorem In.one {p:List Int} {T:Nat→Nat→Nat→Prop} {s:Int} {i j:Nat} : In p T [s] i j↔stepT p T s i j:=by
  unfold stepT
  constructor
  · intro h
    cases h with
    | term _ _ _ _ h0 hf h=>cases h; rw[if_pos h0]; exact ⟨hf,rfl⟩
    | cW _ _ _ _ _ h0 h1 h=>cases h; rw[if_neg (by omega)]; exact h1
  · intro h
    by_cases h0:0≤s
    · rw[if_pos h0] at h
      obtain ⟨hf,rfl⟩:=h
      exact .term s [] i _ h0 hf (.nil _)
    · rw[if_neg h0] at h
      exact .cW s [] i j j (by omega) h (.nil _)
abbrev Tb:=List (List (List Bool))
def uo (T:Tb) (N M:Nat):Prop:=T.length=N∧∀ r∈T,r.length=M∧∀ c∈r,c.length=M
theorem uo.row {T:Tb} {N M n:Nat} (h:uo T N M) (hn:n < N):∃ r,T[n]?=some r∧r.length=M∧T.getD n []=r:=by
  have:n < T.length:=by rw[h.1]; exact hn
  exact ⟨T[n],List.getElem?_eq_getElem this,(h.2 _ (List.getElem_mem _)).1,by simp[List.getD_eq_getElem?_getD,this]⟩
theorem uo.cell {T:Tb} {N M n i:Nat} (h:uo T N M) (hn:n < N) (hi:i < M):∃ r c,T[n]?=some r∧r[i]?=some c∧c.length=M∧(T.getD n []).getD i []=c:=by
  obtain ⟨r,hr,hl,hg⟩:=h.row hn
  have h1:i < r.length:=by omega
  refine ⟨r,r[i],hr,List.getElem?_eq_getElem h1,(h.2 r (List.mem_of_getElem? hr)).2 _ (List.getElem_mem _),?_⟩
  rw[hg]; simp[List.getD_eq_getElem?_getD,h1]
def D5 (T:Tb) (n i j:Nat):Tb:=T.set n ((T.getD n []).set i (((T.getD n []).getD i []).set j true))
def JE (N M:Nat):Tb:=List.replicate N (List.replicate M (List.replicate M false))
def Ix (T:Tb):V:=.aF (T.map fun r=>[.aF (r.map fun c=>[cg c])])
structure mF (H:View) (I N M:Nat) (R:Nat→Nat) (C:Nat→Nat→Nat) (T:Tb):Prop where
  top:H I=.arr 1 ((List.range N).map fun n=>[.sl (R n) 0 M 1])
  row:∀ n,n < N→H (R n)=.arr 1 ((List.range M).map fun i=>[.sl (C n i) 0 M 1])
  cell:∀ n i,n < N→i < M→H (C n i)=.arr 1 (du ((T.getD n []).getD i []))
  inj:∀ n i n' i',n < N→i < M→n' < N→i' < M→C n i=C n' i'→n=n'∧i=i'
theorem uv {c:List Bool} {k:Nat} {F:Nat→List V} (hc:0 < c.length) (h:du c=(List.range k).map F) (hF:∀ n x,F n≠[gb x]):False:=by
  cases c with
  | nil=>simp at hc
  | cons x c =>
    cases k with
    | zero=>simp at h
    | succ k =>
      rw[List.range_succ_eq_map] at h
      simp only[List.map_cons,List.cons.injEq] at h
      exact hF 0 x h.1.symm
theorem mF.keep {H H':View} {I N M:Nat} {R:Nat→Nat} {C:Nat→Nat→Nat} {T:Tb} (h:mF H I N M R C T) (hk:∀ id,H id≠.dead→H' id=H id):mF H' I N M R C T :=
  ⟨by rw[hk _ (by rw[h.top]; simp)]; exact h.top,fun n hn=>by rw[hk _ (by rw[h.row n hn]; simp)]; exact h.row n hn,fun n i hn hi=>by rw[hk _ (by rw[h.cell n i hn hi]; simp)]; exact h.cell n i hn hi,h.inj⟩
theorem mF.put {H:View} {I N M:Nat} {R:Nat→Nat} {C:Nat→Nat→Nat} {T:Tb} (h:mF H I N M R C T) (hT:uo T N M) {n i j:Nat} (hn:n < N) (hi:i < M) (hj:j < M) :
    mF (H.set (C n i) (.arr 1 (du (((T.getD n []).getD i []).set j true)))) I N M R C (D5 T n i j):=by
  obtain ⟨r,c,hr,hc,hcl,hg⟩:=hT.cell hn hi
  have hcell:=h.cell n i hn hi
  rw[hg] at hcell
  have e1:I≠C n i:=fun e=>by
    have:=h.top
    rw[e,hcell] at this
    simp only[br.arr.injEq,true_and] at this
    exact uv (by omega) this fun _ _=>by simp
  have e2:∀ m,m < N→R m≠C n i:=fun m hm e=>by
    have:=h.row m hm
    rw[e,hcell] at this
    simp only[br.arr.injEq,true_and] at this
    exact uv (by omega) this fun _ _=>by simp
  refine ⟨by simp only[View.set,if_neg e1]; exact h.top,fun m hm=>by simp only[View.set,if_neg (e2 m hm)]; exact h.row m hm,fun m q hm hq=>?_,h.inj⟩
  obtain ⟨r',hr',hrl,hg'⟩:=hT.row hn
  rw[hr] at hr'; simp at hr'; subst hr'
  have hnl:n < T.length:=by rw[hT.1]; exact hn
  by_cases e:C m q=C n i
  · obtain ⟨rfl,rfl⟩:=h.inj m q n i hm hq hn hi e
    simp only[View.set,if_true]
    congr 2
    rw[D5]
    simp[List.getD_eq_getElem?_getD,hnl]
    rw[List.getElem?_set]
    have:q < T[m].length:=by
      have:=(List.getElem?_eq_some_iff.1 hr).2
      rw[this,hrl]; exact hq
    simp[this]
  · simp only[View.set,if_neg e]
    rw[h.cell m q hm hq]
    congr 2
    rw[D5]
    by_cases em:n=m
    · subst em
      have eq:i≠q:=fun e'=>e (by rw[e'])
      simp[List.getD_eq_getElem?_getD,hnl,List.getElem?_set,eq]
    · simp[List.getD_eq_getElem?_getD,List.getElem?_set,em]
theorem mF.Ku {h:aw} {I N M:Nat} {R:Nat→Nat} {C:Nat→Nat→Nat} {T:Tb} (hG:mF h.view I N M R C T) (hT:uo T N M):dh h (.sl I 0 N 1) (Ix T):=by
  refine .sl I 0 N 1 1 _ _ hG.top (by simp) (by simp[hT.1]) (fun n hn=>?_) (fun n j hn hj=>?_)
  · obtain ⟨r,hr,_⟩:=hT.row hn
    simp[List.getD_eq_getElem?_getD,hr,hn]
  · obtain ⟨r,hr,hrl,hrg⟩:=hT.row hn
    have e1:((T.map fun r=>[V.aF (r.map fun c=>[cg c])]).getD n [])=[V.aF (r.map fun c=>[cg c])]:=by simp[List.getD_eq_getElem?_getD,hr]
    have e2:(((List.range N).map fun n=>[V.sl (R n) 0 M 1]).getD (0+n) [])=[V.sl (R n) 0 M 1]:=by simp[List.getD_eq_getElem?_getD,hn]
    rw[e1] at hj ⊢
    rw[e2]
    have:j=0:=by simp at hj; omega
    subst this
    simp only[List.getD_cons_zero]
    refine .sl (R n) 0 M 1 1 _ _ (hG.row n hn) (by simp) (by simp[hrl]) (fun i hi=>?_) (fun i q hi hq=>?_)
    · simp[List.getD_eq_getElem?_getD,hi,show i < r.length by omega]
    · have hic:i < r.length:=by omega
      have f1:((r.map fun c=>[cg c]).getD i [])=[cg r[i]]:=by simp[List.getD_eq_getElem?_getD,hic]
      have f2:(((List.range M).map fun i=>[V.sl (C n i) 0 M 1]).getD (0+i) [])=[V.sl (C n i) 0 M 1]:=by simp[List.getD_eq_getElem?_getD,hi]
      rw[f1] at hq ⊢
      rw[f2]
      have:q=0:=by simp at hq; omega
      subst this
      simp only[List.getD_cons_zero]
      have hcell:=hG.cell n i hn hi
      have e3:(T.getD n []).getD i []=r[i]:=by rw[hrg]; simp[List.getD_eq_getElem?_getD,hic]
      rw[e3] at hcell
      have hcl:=(hT.2 r (List.mem_of_getElem? hr)).2 _ (List.getElem_mem hic)
      have:=sF (h:=h) (id:=C n i) (is:=r[i]) hcell
      rwa [hcl] at this
theorem dh.JK {h:aw} {v t:V} (f:dh h v t):Fr h v t:=by
  induction f with
  | val v=>exact .tree _ (.val v)
  | emp k=>exact .emp k
  | sl id off len esz z es es' hH hle hlen hl _ ih=>exact .sl id off len esz z es es' hH hle hlen hl ih
  | agg cs cs' hl _ ih=>exact .agg cs cs' hl ih
  | bc cs cs' hl _ ih=>exact .bc cs cs' hl ih
theorem mF.Dt {H:View} {I N M:Nat} {R:Nat→Nat} {C:Nat→Nat→Nat} {T:Tb} (hG:mF H I N M R C T) (hT:uo T N M):df H (.sl I 0 N 1) (Ix T):=by
  rintro h rfl
  exact (hG.Ku hT).JK
structure Jj (H:View) (I N M k:Nat) (R:Nat→Nat) (C:Nat→Nat→Nat):Prop where
  top:H I=.arr 1 ((List.range N).map fun n=>[if n < k then .sl (R n) 0 M 1 else .emp 1])
  row:∀ n,n < k→H (R n)=.arr 1 ((List.range M).map fun i=>[.sl (C n i) 0 M 1])
  cell:∀ n i,n < k→i < M→H (C n i)=.arr 1 (List.replicate M [gb false])
  inj:∀ n i n' i',n < k→i < M→n' < k→i' < M→C n i=C n' i'→n=n'∧i=i'
  ne:∀ n,n < k→I≠R n
structure Bc (H:View) (I N M k:Nat) (R:Nat→Nat) (C:Nat→Nat→Nat) (r i:Nat) (D:Nat→Nat):Prop where
  top:H I=.arr 1 ((List.range N).map fun n=>[if n < k then .sl (R n) 0 M 1 else if n=k then .sl r 0 M 1 else .emp 1])
  row:∀ n,n < k→H (R n)=.arr 1 ((List.range M).map fun i=>[.sl (C n i) 0 M 1])
  cell:∀ n i,n < k→i < M→H (C n i)=.arr 1 (List.replicate M [gb false])
  inj:∀ n i n' i',n < k→i < M→n' < k→i' < M→C n i=C n' i'→n=n'∧i=i'
  ne:∀ n,n < k→I≠R n
  JW:H r=.arr 1 ((List.range M).map fun j=>[if j < i then .sl (D j) 0 M 1 else .emp 1])
  zj:∀ j,j < i→H (D j)=.arr 1 (List.replicate M [gb false])
  Jq:∀ j j',j < i→j' < i→D j=D j'→j=j'
  yC:I≠r∧(∀ n,n < k→R n≠r)∧∀ n q j,n < k→q < M→j < i→C n q≠D j
theorem B7 {M i:Nat} {F:Nat→List V} {v:List V} : ((List.range M).map F).set i v=(List.range M).map fun j=>if j=i then v else F j:=by
  apply List.ext_getElem (by simp)
  intro j h1 h2
  simp only[List.getElem_set,List.getElem_map,List.getElem_range]
  by_cases e:i=j
  · subst e; simp
  · rw[if_neg e,if_neg (Ne.symm e)]
theorem Jj.done {H:View} {I N M:Nat} {R:Nat→Nat} {C:Nat→Nat→Nat} (h:Jj H I N M N R C):mF H I N M R C (JE N M):=by
  refine ⟨?_,h.row,fun n i hn hi=>?_,h.inj⟩
  · rw[h.top]
    congr 1
    apply List.map_congr_left
    intro n hn
    rw[if_pos (by simpa using hn)]
  · rw[h.cell n i hn hi]
    simp[JE,List.getD_eq_getElem?_getD,hn,hi]
theorem Bc.KP {H:View} {I N M k:Nat} {R:Nat→Nat} {C:Nat→Nat→Nat} {r:Nat} {D:Nat→Nat} (h:Bc H I N M k R C r M D):Jj H I N M (k+1) (fun n=>if n=k then r else R n) (fun n=>if n=k then D else C n):=by
  refine ⟨?_,fun n hn=>?_,fun n i hn hi=>?_,fun n i n' i' hn hi hn' hi' e=>?_,fun n hn=>?_⟩
  · rw[h.top]
    congr 1
    apply List.map_congr_left
    intro n _
    by_cases e1:n < k
    · rw[if_pos e1,if_pos (by omega),if_neg (by omega)]
    · by_cases e2:n=k
      · rw[if_neg e1,if_pos e2,if_pos (by omega),if_pos e2]
      · rw[if_neg e1,if_neg e2,if_neg (by omega)]
  · by_cases e:n=k
    · simp only[if_pos e]
      rw[h.JW]
      congr 1
      apply List.map_congr_left
      intro i hi
      rw[if_pos (by simpa using hi)]
    · simp only[if_neg e]; exact h.row n (by omega)
  · by_cases e:n=k
    · simp only[if_pos e]; exact h.zj i hi
    · simp only[if_neg e]; exact h.cell n i (by omega) hi
  · by_cases e1:n=k
    · by_cases e2:n'=k
      · simp only[if_pos e1,if_pos e2] at e
        exact ⟨by omega,h.Jq i i' hi hi' e⟩
      · simp only[if_pos e1,if_neg e2] at e
        exact absurd e.symm (h.yC.2.2 n' i' i (by omega) hi' hi)
    · by_cases e2:n'=k
      · simp only[if_neg e1,if_pos e2] at e
        exact absurd e (h.yC.2.2 n i i' (by omega) hi hi')
      · simp only[if_neg e1,if_neg e2] at e
        exact h.inj n i n' i' (by omega) hi (by omega) hi' e
  · by_cases e:n=k
    · simp only[if_pos e]; exact h.yC.1
    · simp only[if_neg e]; exact h.ne n (by omega)
theorem Bc.next {H H':View} {I N M k:Nat} {R:Nat→Nat} {C:Nat→Nat→Nat} {r i d:Nat} {D:Nat→Nat} (h:Bc H I N M k R C r i D) (hN:0 < N) (hM:0 < M) (hd:H d=.dead)
    (hr':H' r=.arr 1 (((List.range M).map fun j=>[if j < i then V.sl (D j) 0 M 1 else .emp 1]).set i [.sl d 0 M 1])) (hd':H' d=.arr 1 (List.replicate M [gb false])) (ho:∀ id,H id≠.dead→id≠r→H' id=H id) :
    Bc H' I N M k R C r (i+1) (fun j=>if j=i then d else D j):=by
  have live:∀ id,H id≠.dead→id≠d:=fun id hid e=>by subst e; exact hid hd
  have boolr:∀ id,H id=.arr 1 (List.replicate M [gb false])→id≠r:=fun id hid e=>by
    rw[e,h.JW] at hid
    simp only[br.arr.injEq,true_and] at hid
    have:=congrArg (·[0]?) hid
    simp[hM] at this
    split at this <;> simp at this
  refine ⟨?_,fun n hn=>?_,fun n q hn hq=>?_,h.inj,h.ne,?_,fun j hj=>?_,fun j j' hj hj' e=>?_,⟨h.yC.1,h.yC.2.1,fun n q j hn hq hj=>?_⟩⟩
  · rw[ho I (by rw[h.top]; simp) h.yC.1]; exact h.top
  · rw[ho _ (by rw[h.row n hn]; simp) (h.yC.2.1 n hn)]; exact h.row n hn
  · have:=h.cell n q hn hq
    rw[ho _ (by rw[this]; simp) (boolr _ this)]; exact this
  · rw[hr',B7]
    congr 1
    apply List.map_congr_left
    intro j _
    by_cases e:j=i
    · rw[if_pos e,if_pos (by omega),if_pos e]
    · rw[if_neg e]
      by_cases e2:j < i
      · rw[if_pos e2,if_pos (by omega),if_neg e]
      · rw[if_neg e2,if_neg (by omega)]
  · by_cases e:j=i
    · simp only[if_pos e]; exact hd'
    · simp only[if_neg e]
      have:=h.zj j (by omega)
      rw[ho _ (by rw[this]; simp) (boolr _ this)]; exact this
  · by_cases e1:j=i
    · by_cases e2:j'=i
      · omega
      · simp only[if_pos e1,if_neg e2] at e
        exact absurd e.symm (live _ (by rw[h.zj j' (by omega)]; simp))
    · by_cases e2:j'=i
      · simp only[if_neg e1,if_pos e2] at e
        exact absurd e (live _ (by rw[h.zj j (by omega)]; simp))
      · simp only[if_neg e1,if_neg e2] at e
        exact h.Jq j j' (by omega) (by omega) e
  · by_cases e:j=i
    · simp only[if_pos e]; exact live _ (by rw[h.cell n q hn hq]; simp)
    · simp only[if_neg e]; exact h.yC.2.2 n q j hn hq (by omega)
structure sk.Ok (t:sk):Prop where
  bJ:aU t.bJ
  gotos:aU t.gotos
  row:∀ r∈t.bJ,aU r∧∀ c∈r,cd c.kind∧cd c.n
  go:∀ r∈t.gotos,aU r∧∀ x∈r,cd x
structure bt where
  aT:Int
  bQ:Int
  rules:Int
  az:Int
def ml:bt:=⟨(-1),0,0,0⟩
def ei:bt:=⟨0,0,0,0⟩
def bH (P:List bt) (m:Nat):bt:=P.getD m ml
abbrev mo (x:Int):Nat:=(-1 - x).toNat
def ef (P:List bt):List Int→bt→bt × Bool
  | [],s=>(s,true)
  | x :: l,s=>if 0≤x then ef P l ⟨s.aT,s.bQ,s.rules,min 1048576 (s.az+1)⟩
    else if (bH P (mo x)).aT < 0 then (s,false)
    else ef P l ⟨s.aT,max s.bQ (bH P (mo x)).bQ,min 1048576 (s.rules+(bH P (mo x)).rules),min 1048576 (s.az+(bH P (mo x)).az)⟩
def bX (P:List bt) (m:Nat):Prop:=0≤(bH P m).aT
def pE (P:List bt) (l:List Int):Prop:=∀ x∈l,x < 0→bX P (mo x)
theorem oD (P:List bt):∀ (l:List Int) (s:bt),(ef P l s).2=true↔pE P l
  | [],s=>by simp[ef,pE]
  | x :: l,s=>by
    simp only[ef,pE,List.mem_cons]
    by_cases h:0≤x
    · rw[if_pos h,oD P l]
      refine ⟨fun k y hy hn=>?_,fun k y hy=>k y (.inr hy)⟩
      rcases hy with rfl | hy
      · omega
      · exact k y hy hn
    · rw[if_neg h]
      by_cases h2:(bH P (mo x)).aT < 0
      · rw[if_pos h2]
        simp only[Bool.false_eq_true,false_iff]
        intro k
        have:=k x (.inl rfl) (by omega)
        unfold bX at this; omega
      · rw[if_neg h2,oD P l]
        refine ⟨fun k y hy hn=>?_,fun k y hy=>k y (.inr hy)⟩
        rcases hy with rfl | hy
        · unfold bX; omega
        · exact k y hy hn
theorem kh (P:List bt) (k:Int):∀ (l:List Int) (s:bt),pE P l→((ef P l s).1.bQ≤k↔s.bQ≤k∧∀ x∈l,x < 0→(bH P (mo x)).bQ≤k)
  | [],s,_=>by simp[ef]
  | x :: l,s,h=>by
    have hl:pE P l:=fun y hy=>h y (by simp[hy])
    simp only[ef,List.mem_cons]
    by_cases h0:0≤x
    · rw[if_pos h0,kh P k l _ hl]
      refine ⟨fun ⟨a,b⟩=>⟨a,fun y hy hn=>?_⟩,fun ⟨a,b⟩=>⟨a,fun y hy=>b y (.inr hy)⟩⟩
      rcases hy with rfl | hy
      · omega
      · exact b y hy hn
    · have:=h x (by simp) (by omega)
      unfold bX at this
      rw[if_neg h0,if_neg (by omega),kh P k l _ hl]
      refine ⟨fun ⟨a,b⟩=>⟨by simp only at a; omega,fun y hy hn=>?_⟩,fun ⟨a,b⟩=>⟨by have:=b x (.inl rfl) (by omega); simp only; omega,fun y hy=>b y (.inr hy)⟩⟩
      rcases hy with rfl | hy
      · simp only at a; omega
      · exact b y hy hn
theorem rQ (P:List bt):∀ (l:List Int) (s:bt),s.bQ≤(ef P l s).1.bQ
  | [],s=>Int.le_refl _
  | x :: l,s=>by
    simp only[ef]
    split
    · exact rQ P l _
    · split
      · exact Int.le_refl _
      · have:=rQ P l ⟨s.aT,max s.bQ (bH P (mo x)).bQ,min 1048576 (s.rules+(bH P (mo x)).rules),min 1048576 (s.az+(bH P (mo x)).az)⟩
        simp only at this ⊢; omega
def kD (P:List bt) (i:Nat) (r:aG):bt:=⟨i,(ef P r.right ei).1.bQ+1,min 1048576 ((ef P r.right ei).1.rules+1),(ef P r.right ei).1.az⟩
def zk (P:List bt) (i:Nat) (N:List bt) (r:aG):List bt :=
  if 0≤(bH N r.left.toNat).aT then N else if (ef P r.right ei).2=true then N.set r.left.toNat (kD P i r) else N
def p8 (P:List bt):Nat→List bt→List aG→List bt
  | _,N,[]=>N
  | i,N,r :: l=>p8 P (i+1) (zk P i N r) l
def wC (rules:List aG) (P:List bt):List bt:=p8 P 0 P rules
def jr (P:List bt) (m:Nat):Nat→List aG→Option bt
  | _,[]=>none
  | i,r :: l=>if r.left.toNat=m∧(ef P r.right ei).2=true then some (kD P i r) else jr P m (i+1) l
theorem Db {N:List bt} {i m:Nat} {p:bt} (hm:m < N.length):bH (N.set i p) m=if i=m then p else bH N m:=by
  simp only[bH,List.getD_eq_getElem?_getD,List.getElem?_set]
  split
  · rename_i e; subst e; simp[hm]
  · rfl
theorem x3 (P:List bt) (i:Nat) (N:List bt) (r:aG):(zk P i N r).length=N.length:=by
  unfold zk; split; · rfl
  split <;> simp
theorem xM (P:List bt):∀ (l:List aG) (i:Nat) (N:List bt),(p8 P i N l).length=N.length
  | [],_,_=>rfl
  | r :: l,i,N=>by rw[p8,xM P l,x3]
theorem zy (P:List bt) (m:Nat):∀ (l:List aG) (i:Nat) (N:List bt),m < N.length→bH (p8 P i N l) m=if 0≤(bH N m).aT then bH N m else (jr P m i l).getD (bH N m)
  | [],i,N,hm=>by simp[p8,jr]
  | r :: l,i,N,hm=>by
    rw[p8,zy P m l (i+1) _ (by rw[x3]; exact hm),jr]
    unfold zk
    by_cases h1:0≤(bH N r.left.toNat).aT
    · rw[if_pos h1]
      by_cases h2:r.left.toNat=m
      · subst h2
        rw[if_pos h1,if_pos h1]
      · rw[if_neg (c:=r.left.toNat=m∧_) (fun e=>h2 e.1)]
    · rw[if_neg h1]
      by_cases h3:(ef P r.right ei).2=true
      · rw[if_pos h3]
        by_cases h2:r.left.toNat=m
        · subst h2
          rw[Db hm,if_pos rfl,if_neg h1,if_pos (show (0:Int)≤(kD P i r).aT by simp only[kD]; omega),if_pos (c:=r.left.toNat=r.left.toNat∧_) (And.intro rfl h3)]
          rfl
        · rw[Db hm,if_neg h2,if_neg (c:=r.left.toNat=m∧_) (fun e=>h2 e.1)]
      · rw[if_neg h3,if_neg (c:=r.left.toNat=m∧_) (fun e=>h3 e.2)]
theorem lg {P:List bt} {m:Nat} : ∀ {l:List aG} {i:Nat} {p:bt},jr P m i l=some p→∃ (j:Nat) (r:aG),l[j]?=some r∧r.left.toNat=m∧pE P r.right∧p=kD P (i+j) r∧∀ (j':Nat) (r':aG),j' < j→l[j']?=some r'→r'.left.toNat=m→¬ pE P r'.right
  | [],i,p,h=>by simp[jr] at h
  | r :: l,i,p,h=>by
    rw[jr] at h
    by_cases hc:r.left.toNat=m∧(ef P r.right ei).2=true
    · rw[if_pos hc] at h
      exact ⟨0,r,rfl,hc.1,(oD P _ _).1 hc.2,by simpa using h.symm,fun j' r' hj=>by omega⟩
    · rw[if_neg hc] at h
      obtain ⟨j,r2,a,b,c,d,e⟩:=lg h
      refine ⟨j+1,r2,by simpa using a,b,c,by rw[d]; congr 1; omega,fun j' r' hj hr hl hk=>?_⟩
      cases j' with
      | zero =>
        simp at hr; subst hr
        exact hc ⟨hl,(oD P _ _).2 hk⟩
      | succ j'=>exact e j' r' (by omega) (by simpa using hr) hl hk
theorem xU {P:List bt} {m:Nat} : ∀ {l:List aG} {i:Nat},jr P m i l=none→∀ r∈l,r.left.toNat=m→¬ pE P r.right
  | [],i,h,r,hr,_,_=>by simp at hr
  | r :: l,i,h,r',hr,hl,hk=>by
    rw[jr] at h
    by_cases hc:r.left.toNat=m∧(ef P r.right ei).2=true
    · rw[if_pos hc] at h; simp at h
    · rw[if_neg hc] at h
      rcases List.mem_cons.1 hr with rfl | hr
      · exact hc ⟨hl,(oD P _ _).2 hk⟩
      · exact xU h r' hr hl hk
def ba (g:ao) (k:Nat):List bt:=iter (wC g.rules) k (List.replicate g.ax.length ml)
theorem yN {α:Type} (f:α→α):∀ (k:Nat) (x:α),iter f (k+1) x=f (iter f k x)
  | 0,x=>rfl
  | k+1,x=>by rw[iter,yN f k,iter]
theorem vV (g:ao) (k:Nat):ba g (k+1)=wC g.rules (ba g k):=yN _ _ _
theorem iY (g:ao):∀ k,(ba g k).length=g.ax.length
  | 0=>by simp[ba,iter]
  | k+1=>by rw[vV,wC,xM,iY g k]
theorem pn {P:List bt} {m:Nat} (h:P.length≤m):bH P m=ml:=by simp[bH,List.getD_eq_getElem?_getD,List.getElem?_eq_none h]
theorem GV {P:List bt} {m:Nat} (h:bX P m):m < P.length:=by
  rcases Nat.lt_or_ge m P.length with h1 | h1
  · exact h1
  · unfold bX at h; rw[pn h1] at h; simp[ml] at h
theorem mh (g:ao) (k m:Nat):bH (ba g (k+1)) m=if 0≤(bH (ba g k) m).aT then bH (ba g k) m else if m < g.ax.length then (jr (ba g k) m 0 g.rules).getD (bH (ba g k) m) else bH (ba g k) m:=by
  by_cases hm:m < g.ax.length
  · rw[vV,wC,zy _ _ _ _ _ (by rw[iY]; exact hm),if_pos hm]
  · rw[if_neg hm,pn (by rw[iY]; omega),pn (by rw[iY]; omega)]
    simp
theorem DU {g:ao} {k m:Nat} (h:bX (ba g k) m):bH (ba g (k+1)) m=bH (ba g k) m:=by
  rw[mh]; unfold bX at h; rw[if_pos h]
theorem tv {g:ao} {k m:Nat} (h:bX (ba g k) m):∀ d,bH (ba g (k+d)) m=bH (ba g k) m
  | 0=>rfl
  | d+1=>by
    have ih:=tv h d
    have:bX (ba g (k+d)) m:=by unfold bX at h ⊢; rw[ih]; exact h
    rw[← ih,← DU this]; rfl
theorem jg {g:ao} {k m j:Nat} (h:bX (ba g k) m) (hj:k≤j):bH (ba g j) m=bH (ba g k) m∧bX (ba g j) m:=by
  obtain ⟨d,rfl⟩:∃ d,j=k+d:=⟨j - k,by omega⟩
  have:=tv h d
  exact ⟨this,by unfold bX at h ⊢; rw[this]; exact h⟩
theorem yE {g:ao} {k m:Nat} (h0:¬ bX (ba g k) m) (h:bX (ba g (k+1)) m):jr (ba g k) m 0 g.rules=some (bH (ba g (k+1)) m):=by
  unfold bX at h h0
  rw[mh,if_neg h0] at h
  rw[mh,if_neg h0]
  split at h
  · rename_i hm
    rw[if_pos hm]
    cases hc:jr (ba g k) m 0 g.rules with
    | none=>rw[hc] at h; exact absurd h h0
    | some p=>rfl
  · exact absurd h h0
theorem qh {g:ao} {m:Nat} : ∀ {k:Nat},¬ bX (ba g k) m→bH (ba g k) m=ml
  | 0,_=>by
    simp only[ba,iter,bH,List.getD_eq_getElem?_getD,List.getElem?_replicate]
    split <;> rfl
  | k+1,h=>by
    have h0:¬ bX (ba g k) m:=fun e=>h (jg e (by omega)).2
    unfold bX at h h0
    rw[mh,if_neg h0] at h ⊢
    split
    · rename_i hm
      rw[if_pos hm] at h
      cases hc:jr (ba g k) m 0 g.rules with
      | none=>exact qh (k:=k) h0
      | some p =>
        rw[hc] at h
        obtain ⟨j,r,_,_,_,rfl,_⟩:=lg hc
        simp only[Option.getD_some,kD] at h; omega
    · exact qh (k:=k) h0
theorem my (g:ao):∀ k:Nat,∀ m,bX (ba g k) m→1≤(bH (ba g k) m).bQ∧(bH (ba g k) m).bQ≤k∧∀ j:Nat,j≤k→(bH (ba g k) m).bQ≤j→bX (ba g j) m
  | 0,m,h=>by
    unfold bX at h
    have:bH (ba g 0) m=ml:=by
      simp only[ba,iter,bH,List.getD_eq_getElem?_getD,List.getElem?_replicate]
      split <;> rfl
    rw[this] at h; simp[ml] at h
  | k+1,m,h=>by
    have ih:=my g k
    by_cases h0:bX (ba g k) m
    · obtain ⟨a,b,c⟩:=ih m h0
      rw[(jg h0 (Nat.le_succ k)).1]
      refine ⟨a,by push_cast; omega,fun j hj hh=>?_⟩
      rcases Nat.lt_or_ge k j with e | e
      · exact (jg h0 (by omega)).2
      · exact c j e hh
    · have hc:=yE h0 h
      obtain ⟨i,r,hr,hl,hk,hp,_⟩:=lg hc
      have hh:(bH (ba g (k+1)) m).bQ=(ef (ba g k) r.right ei).1.bQ+1:=by rw[hp]; rfl
      have h1:=rQ (ba g k) r.right ei
      have h2:=(kh (ba g k) k r.right ei hk).2 ⟨by simp[ei],fun x hx hn=>(ih _ (hk x hx hn)).2.1⟩
      have h3:¬ (ef (ba g k) r.right ei).1.bQ≤(k:Int) - 1:=by
        intro hle
        have hz:(0:Int)≤(ef (ba g k) r.right ei).1.bQ:=h1
        obtain ⟨d,rfl⟩:∃ d,k=d+1:=⟨k - 1,by omega⟩
        have h4:=((kh (ba g (d+1)) _ r.right ei hk).1 hle).2
        have h5:pE (ba g d) r.right:=fun x hx hn=>(ih _ (hk x hx hn)).2.2 d (by omega) (by have:=h4 x hx hn; push_cast at this; omega)
        apply h0
        by_cases h6:bX (ba g d) m
        · exact (jg h6 (by omega)).2
        · unfold bX at h6 ⊢
          have hm:=GV h
          rw[iY] at hm
          rw[mh,if_neg h6,if_pos hm]
          cases hc2:jr (ba g d) m 0 g.rules with
          | none=>exact absurd h5 (xU hc2 r (List.mem_of_getElem? hr) hl)
          | some p =>
            obtain ⟨j,r2,_,_,_,rfl,_⟩:=lg hc2
            simp only[Option.getD_some,kD]; omega
      have hz:(0:Int)≤(ef (ba g k) r.right ei).1.bQ:=h1
      refine ⟨by omega,by push_cast; omega,fun j hj hle=>?_⟩
      have:j=k+1:=by omega
      subst this; exact h
def cO (g:ao):List bt:=ba g g.ax.length
theorem sn (g:ao):(cO g).length=g.ax.length:=iY _ _
theorem tK {g:ao} {m:Nat} (h:bX (cO g) m):1≤(bH (cO g) m).bQ∧(bH (cO g) m).bQ≤g.ax.length:=⟨(my g _ m h).1,(my g _ m h).2.1⟩
theorem AS {g:ao} {m:Nat} (h:¬ bX (cO g) m):bH (cO g) m=ml:=qh h
def JT (h:List Int) (m:Nat):Int:=h.getD m 0
abbrev Jm (P:List bt):List Int:=P.map bt.bQ
theorem I4 (P:List bt) (m:Nat):JT (Jm P) m=(bH P m).bQ:=by
  simp only[JT,bH,List.getD_eq_getElem?_getD,List.getElem?_map]
  cases P[m]? <;> rfl
def Iq (P:List bt):Prop:=∀ m,(bX P m→1≤(bH P m).bQ)∧(¬ bX P m→bH P m=ml)
theorem Iq.zero {P:List bt} (h:Iq P) (m:Nat):JT (Jm P) m=0↔¬ bX P m:=by
  rw[I4]
  constructor
  · intro e k; have:=(h m).1 k; omega
  · intro k; rw[(h m).2 k]; rfl
def mJ (S:List (Int × Int)) (m:Nat):Int × Int:=S.getD m (0,0)
def rC (p:bt):Int × Int:=(min 1000 p.rules,min 1000 p.az)
def jE (p:bt):Prop:=(0≤p.rules∧p.rules≤1048576)∧(0≤p.az∧p.az≤1048576)
theorem tZ {P:List bt} (hP:∀ m,jE (bH P m)):∀ (l:List Int) (s:bt),jE s→jE (ef P l s).1
  | [],s,h=>h
  | x :: l,s,h=>by
    have hx:=hP (mo x)
    unfold jE at h hx
    simp only[ef]
    split
    · exact tZ hP l _ (by unfold jE; simp only; omega)
    · split
      · exact h
      · exact tZ hP l _ (by unfold jE; simp only; omega)
theorem Hz:jE ei:=by unfold jE; simp[ei]
theorem FP:jE ml:=by unfold jE; simp[ml]
theorem sN (g:ao):∀ k m,jE (bH (ba g k) m)
  | 0,m=>by
    have:bH (ba g 0) m=ml:=by
      simp only[ba,iter,bH,List.getD_eq_getElem?_getD,List.getElem?_replicate]
      split <;> rfl
    rw[this]; exact FP
  | k+1,m=>by
    by_cases h:bX (ba g (k+1)) m
    · by_cases h0:bX (ba g k) m
      · rw[(jg h0 (Nat.le_succ k)).1]; exact sN g k m
      · obtain ⟨i,r,_,_,_,hp,_⟩:=lg (yE h0 h)
        rw[hp]
        have:=tZ (sN g k) r.right ei Hz
        unfold jE at this ⊢
        simp only[kD]; omega
    · rw[qh h]; exact FP
inductive r9 (g:ao):List Int→List Int→List Int→Prop
  | nil:r9 g [] [] []
  | term (s:Int) (l t w:List Int):0≤s→r9 g l t w→r9 g (s :: l) t (s :: w)
  | cW (s:Int) (l:List Int) (k:Nat) (R:aG) (t1 w1 t w:List Int):s < 0→g.rules[k]?=some R→R.left = -1 - s→r9 g R.right t1 w1→r9 g l t w→r9 g (s :: l) (((k:Int) :: t1) ++ t) (w1 ++ w)
theorem r9.app {g:ao} {a t w:List Int} (h:r9 g a t w) {b t' w':List Int} (k:r9 g b t' w'):r9 g (a ++ b) (t ++ t') (w ++ w'):=by
  induction h with
  | nil=>exact k
  | term s l t w h0 _ ih=>exact .term s _ _ _ h0 ih
  | cW s l k R t1 w1 t w h0 hR hl h1 _ _ ih =>
    have:=r9.cW s _ k R t1 w1 _ _ h0 hR hl h1 ih
    simpa using this
structure Wk where
  rest:List Int
  word:List Int
  post:List Int
  high:Nat
end Gv
