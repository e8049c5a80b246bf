/-
  Part 2 of the proof: what the machine does and what the functions answer.
  Conditions: those that each lemma names.
-/
import Derived.Laws.BytesString
import Derived.Laws.IdiomStrings
import Derived.Test.YtkkdjpnkhhlnpaaGreatSGzA2A
set_option linter.unusedSimpArgs false
set_option linter.unusedVariables false
set_option maxRecDepth 100000
namespace Gv
open Go
section
variable {Z:Nat→Prop} {μ μ':Mu} {w w':World} {P:Program} {H:View} {n:Nat} {v:V} {av:aN} {rd:List Nat}
theorem DU {t1:TypeId} (hno:kq P t1=true):∃ d,P.underlying t1=some d∧∀ k,d≠.int k:=by
  unfold kq at hno
  cases hu:P.underlying t1 with
  | none=>simp[hu] at hno
  | some d=>refine ⟨d,rfl,fun k e=>?_⟩; subst e; simp[hu] at hno
theorem uK {t0 t1 e:TypeId} {ti:TypeInfo} {ats:Array TypeId} {ty:TypeId} {base:Option Addr} {sLen sCap m:Nat} {xv:Value} {new:Array Value}
    (ha0:ats[0]?=some t0) (ha1:ats[1]?=some t1) (hno:kq P t1=true) (hund:P.underlying t0=some (.slice e)) (hti:P.info? e=some ti)
    (hl:(Builtin.lenOf xv).run P w=.ok m w) (hle:sLen+m≤sCap) (hn:(Builtin.firstCells ti.size m xv).run P w=.ok new w)
    (hst:(match base with | some a=>storeCells (a.add (sLen * ti.size)) new.toList | none=>pure ()).run P w=.ok () w') :
    (Builtin.append_ ats ty #[.slice base sLen sCap,xv]).run P w=.ok (.slice base (sLen+m) sCap) w':=by
  obtain ⟨d,hd,hdi⟩:=DU hno
  cases d with
  | int k=>exact absurd rfl (hdi k)
  | _ =>
  simp only[Builtin.append_,List.getElem?_toArray,List.getElem?_cons_zero,List.getElem?_cons_succ,ha0,ha1,Sem.run_bind,aR hund,Result.andThen_ok,bM hti,aR hd,Sem.run_pure,Bool.false_eq_true,if_false,hl,Bool.not_false,if_true]
  rw[if_pos hle]
  simp only[Sem.run_bind,hn,Result.andThen_ok,Sem.run_pure]
  cases base with
  | none=>simp only[Sem.run_pure,Result.ok.injEq,true_and] at hst; subst hst; rfl
  | some a=>simp only[Sem.run_bind,hst,Result.andThen_ok,Sem.run_pure]
theorem tX (v:Value):(dD v).cells.length=v.cells.size:=by
  have h1:∀ v,(jo v).cells.length=1:=by
    intro v
    have:∀ x:V,(∀ cs,x≠.agg cs)→x.cells.length=1:=by
      intro x hx
      cases x <;> first | rfl | (rename_i cs; exact absurd rfl (hx cs))
    apply this
    intro cs
    cases v with
    | slice a len cap =>
      cases a with
      | none =>
        cases len with
        | zero=>cases cap <;> simp[jo]
        | succ l=>simp[jo]
      | some a=>simp[jo]
    | _=>simp only[jo]; split <;> simp
  cases v with
  | agg cs=>simp[dD,V.cells,Value.cells]
  | func fn a b =>
    cases fn with
    | func f=>simp only[dD]; split <;> simp[V.cells,Value.cells]
    | _=>simp only[dD]; rw[h1]; rfl
  | _=>simp only[dD]; rw[h1]; rfl
theorem Db {e:TypeId} {ti:TypeInfo} (hti:P.info? e=some ti) (hz:(zeroCells P e).map List.length=some ti.size):∃ zc:Array Value,zc.size=ti.size∧∀ w',∃ zv,(zeroValue e).run P w'=.ok zv w'∧zv.cells=zc:=by
  cases hzz:zeroCells P e with
  | none=>simp[hzz] at hz
  | some z =>
    obtain ⟨zv,hzv,rfl⟩:=fq hti hzz
    refine ⟨zv.cells,?_,fun w'=>⟨zv,gm hti hzv w',rfl⟩⟩
    rw[hzz] at hz
    simp at hz
    rw[← hz,tX]
theorem cD (w:World):w.drew.heap=w.heap:=rfl
theorem fV (w:World) (o:Obj):cw w (w.drew.alloc o):=⟨rfl,rfl,rfl,by rw[heap_alloc,cD]; simp⟩
theorem ik {l r:List (List V)} {i:Nat} (h:i < l.length):(l ++ r).getD i []=l.getD i []:=by
  simp[List.getD_eq_getElem?_getD,List.getElem?_append_left h]
theorem gX {l r:List (List V)} {i:Nat} (h:l.length≤i):(l ++ r).getD i []=r.getD (i - l.length) []:=by
  simp[List.getD_eq_getElem?_getD,List.getElem?_append_right h]
theorem xt {e:TypeId} {size:Nat} {ys xs:List (List V)} {old fl rest:Array Value} (hn:μ n=none) (bw:∀ b,Z b→b < w.heap.size)
    (h1:Flat Z μ w.heap size ys old) (h2:Flat Z μ w.heap size xs fl) (s1:∀ e∈ys,e.length=size) (s2:∀ e∈xs,e.length=size) :
    cg Z (μ.set n (w.heap.size,0,size)) (w.heap.push (.cells (old ++ fl ++ rest) e (0,0))) n (.arr size (ys ++ xs)):=by
  refine cg.newRow hn bw ?_ ?_ ?_
  · simp[h1.len,h2.len,Nat.add_mul]
  · intro i hi
    by_cases hl:i < ys.length
    · rw[ik hl]
      simp only[List.getD_eq_getElem?_getD,List.getElem?_eq_getElem hl,Option.getD_some]
      exact s1 _ (List.getElem_mem _)
    · have hl':i - ys.length < xs.length:=by simp at hi; omega
      rw[gX (by omega)]
      simp only[List.getD_eq_getElem?_getD,List.getElem?_eq_getElem hl',Option.getD_some]
      exact s2 _ (List.getElem_mem _)
  · intro i j hi hj
    by_cases hl:i < ys.length
    · have hlt:i * size+j < old.size:=by rw[h1.len]; exact dt hl hj
      refine ⟨old[i * size+j],?_,?_⟩
      · rw[Array.getElem?_append_left (by simp; omega),Array.getElem?_append_left hlt,Array.getElem?_eq_getElem hlt]
      · rw[ik hl]
        have:=h1.rel i j hl hj
        simpa only [Array.getD_eq_getD_getElem?,Array.getElem?_eq_getElem hlt,Option.getD_some] using this
    · have hl':i - ys.length < xs.length:=by simp at hi; omega
      have hlt:(i - ys.length) * size+j < fl.size:=by rw[h2.len]; exact dt hl' hj
      have e1:i * size+j - old.size=(i - ys.length) * size+j:=by
        rw[h1.len,Nat.sub_mul]
        have:ys.length * size≤i * size:=Nat.mul_le_mul_right _ (by omega)
        omega
      have e2:old.size≤i * size+j:=by
        rw[h1.len]
        have:ys.length * size≤i * size:=Nat.mul_le_mul_right _ (by omega)
        omega
      refine ⟨fl[(i - ys.length) * size+j],?_,?_⟩
      · rw[Array.getElem?_append_left (by simp; omega),Array.getElem?_append_right e2,e1,Array.getElem?_eq_getElem hlt]
      · rw[gX (by omega)]
        have:=h2.rel _ j hl' hj
        simpa only [Array.getD_eq_getD_getElem?,Array.getElem?_eq_getElem hlt,Option.getD_some] using this
theorem Bw {size:Nat} {xs:List (List V)} (h:(xs.all fun e=>e.length == size && e.all aP)=true):(∀ e∈xs,e.length=size)∧∀ e∈xs,e.all aP=true:=by
  refine ⟨fun e he=>?_,fun e he=>?_⟩
  · have:=List.all_eq_true.1 h e he
    simp only[Bool.and_eq_true,beq_iff_eq] at this
    exact this.1
  · have:=List.all_eq_true.1 h e he
    simp only[Bool.and_eq_true,beq_iff_eq] at this
    exact this.2
theorem gK {ad:Option Addr} {len cap size:Nat} : (Builtin.firstCells size 0 (.slice ad len cap)).run P w=.ok #[] w:=by
  cases ad with
  | none=>simp[Builtin.firstCells]
  | some a=>simp[Builtin.firstCells,loadCells,loadCellsFrom]
theorem q6 {x:V} {xv:Value} {xs:List (List V)} {size:Nat} (he:bF H x=some (xs,rd)) (hx:au Z μ w.heap x xv) :
    (Builtin.lenOf xv).run P w=.ok xs.length w∧(Builtin.firstCells size 0 xv).run P w=.ok #[] w:=by
  unfold bF at he
  split at he
  · simp only[Option.some.injEq,Prod.mk.injEq] at he
    obtain ⟨rfl,_⟩:=he
    obtain ⟨ad,cap,rfl,_⟩:=cb hx rfl
    exact ⟨rfl,gK⟩
  · simp only[Option.some.injEq,Prod.mk.injEq] at he
    obtain ⟨rfl,_⟩:=he
    obtain ⟨ad,cap,rfl,_⟩:=cb hx rfl
    exact ⟨rfl,gK⟩
  · simp only[Option.some.injEq,Prod.mk.injEq] at he
    obtain ⟨rfl,_⟩:=he
    obtain ⟨ad,cap,rfl,_⟩:=cb hx rfl
    exact ⟨rfl,gK⟩
  · simp only[Option.some.injEq,Prod.mk.injEq] at he
    obtain ⟨rfl,_⟩:=he
    obtain ⟨ad,cap,rfl,_⟩:=cb hx rfl
    exact ⟨rfl,gK⟩
  · split at he
    · split at he
      · rename_i hle
        simp only[Option.some.injEq,Prod.mk.injEq] at he
        obtain ⟨rfl,_⟩:=he
        obtain ⟨ad,cap,rfl,_⟩:=cb hx rfl
        refine ⟨?_,gK⟩
        rw[List.length_take,List.length_drop,Nat.min_eq_left (by omega)]; rfl
      · simp at he
    · simp at he
  · rename_i str
    simp only[Option.some.injEq,Prod.mk.injEq] at he
    obtain ⟨rfl,_⟩:=he
    have hv:=cE hx
    subst hv
    refine ⟨by rw[List.length_map,bsize]; rfl,?_⟩
    have:(str.extract 0 0).data = #[]:=by rw[ByteArray.data_extract]; simp
    simp[Builtin.firstCells,this]
  · simp at he
theorem eL (fl:Array Value) {k:Nat} (h:fl.size=k):fl.extract 0 k=fl:=by subst h; simp
theorem wN {t0 t1 e:TypeId} {ti:TypeInfo} {ats:Array TypeId} {ty:TypeId} {base:Option Addr} {sLen sCap:Nat} {x:V} {xv:Value} {xs ys:List (List V)} {rdx:List Nat} {old:Array Value}
    (ha0:ats[0]?=some t0) (ha1:ats[1]?=some t1) (hno:kq P t1=true) (hund:P.underlying t0=some (.slice e)) (hti:P.info? e=some ti) (hzs:(zeroCells P e).map List.length=some ti.size)
    (he:bF H x=some (xs,rdx)) (hx:au Z μ w.heap x xv) (hn:μ n=none) (c:Ctx Z μ w.heap H rd n av) (hrd:∀ id,id∈rdx→id∈rd) (hl:∀ e∈xs,e.length=ti.size) (hys:ys.length=sLen) (hgt:sCap < sLen+xs.length)
    (hb1:(sLen+xs.length) * ti.bytes < aW) (hb2:sLen+xs.length < aW) (hold:Flat Z μ w.heap ti.size ys old) (hyl:∀ e∈ys,e.length=ti.size)
    (ho:(Builtin.firstCells ti.size sLen (.slice base sLen sCap)).run P w.drew=.ok old w.drew) :
    ∃ xr w',(Builtin.append_ ats ty #[.slice base sLen sCap,xv]).run P w=.ok xr w'∧au Z (μ.set n (w.heap.size,0,ti.size)) w'.heap (.sl n 0 (sLen+xs.length) ti.size) xr∧cw w w' ∧
      w.heap.size < w'.heap.size∧c9 w.heap w'.heap (fun _=>False)∧cg Z (μ.set n (w.heap.size,0,ti.size)) w'.heap n (.arr ti.size (ys ++ xs)):=by
  obtain ⟨zc,hzs',hzc⟩:=Db hti hzs
  have hobj:∀ id,id∈rdx→cg Z μ w.heap id (H id):=fun id h=>c.obj id (hrd id h)
  obtain ⟨fl,hfl,hlen,hfirst⟩:=jZ (P:=P) he hx hobj hl
  obtain ⟨fl2,hfl2,_,hfirst2⟩:=jZ (P:=P) (w:=w.drew) he hx hobj hl
  have h5:=hfirst2 _ (Nat.le_refl _)
  rw[eL fl2 hfl2.len] at h5
  obtain ⟨cap,hcap,hrun⟩:=Ad (P:=P) (w:=w) (ty:=ty) ha0 ha1 hno hund hti hlen hgt hb1 hb2 hzc ho h5
  refine ⟨_,_,hrun,?_,fV _ _,by rw[heap_alloc,cD]; simp,by rw[heap_alloc,cD]; exact cq _ _,by rw[heap_alloc,cD]; exact xt hn c.bw hold hfl2 hyl hl⟩
  rw[heap_alloc,cD]
  have hrest:(Builtin.zeroCells zc (cap - (sLen+xs.length))).size=(cap - (sLen+xs.length)) * ti.size:=by simp[Builtin.zeroCells,hzs']
  have hsum:cap * ti.size=sLen * ti.size+xs.length * ti.size+(cap - (sLen+xs.length)) * ti.size:=by
    rw[← Nat.add_mul,← Nat.add_mul]; congr 1; omega
  have:=au.sl (Z:=Z) (μ:=μ.set n (w.heap.size,0,ti.size)) (hp:=w.heap.push (.cells (old ++ fl2 ++ Builtin.zeroCells zc (cap - (sLen+xs.length))) e (0,0))) n 0 (sLen+xs.length) ti.size w.heap.size 0 cap _ e (0,0) (by simp[Mu.set]) hcap (by simp; rfl)
    (by simp only[Array.size_append,hold.len,hfl2.len,hrest,hys,Nat.zero_add]; omega)
  simpa using this
theorem Ff {b o0 s:Nat} {cc c':Array Value} {e:TypeId} {f:Nat × Nat} (hn:μ n=none) (bw:∀ b,Z b→b < w.heap.size) (hz:¬ Z b) (hb:w.heap[b]?=some (.cells cc e f)) (hs:c'.size=cc.size) :
    dJ Z Z μ (μ.set n (b,o0,s)) w.heap (w.heap.setIfInBounds b (.cells c' e f)):=by
  refine ⟨fun _ h=>h,fun k hk=>bT w.heap b _ k (bw k hk) (fun e=>hz (e ▸ hk)),fun id x hx=>?_,gI hb hs⟩
  by_cases hid:id=n
  · subst hid; simp[hn] at hx
  · simp[Mu.set,hid,hx]
theorem E5 {t0 t1 e:TypeId} {ti:TypeInfo} {ats:Array TypeId} {ty:TypeId} {x:V} {xv:Value} {xs es:List (List V)} {rdx:List Nat} {id off len b o0 cap:Nat} {cc:Array Value} {e':TypeId} {f:Nat × Nat}
    (ha0:ats[0]?=some t0) (ha1:ats[1]?=some t1) (hno:kq P t1=true) (hund:P.underlying t0=some (.slice e)) (hti:P.info? e=some ti)
    (he:bF H x=some (xs,rdx)) (hx:au Z μ w.heap x xv) (hn:μ n=none) (c:Ctx Z μ w.heap H rd n av) (hrd:∀ id,id∈rdx→id∈rd) (hl:∀ e∈xs,e.length=ti.size) (hok:∀ e∈xs,e.all aP=true)
    {esz':Nat} (_:H id=.arr esz' es) (hor:cg Z μ w.heap id (.arr ti.size es)) (hm:μ id=some (b,o0,ti.size)) (hb0:off+len≤es.length) (hle:len≤cap)
    (hbk:w.heap[b]?=some (.cells cc e' f)) (hsp:o0+(off+cap) * ti.size≤cc.size) (hfit:len+xs.length≤cap) :
    aL Z μ w n (.sl n 0 (len+xs.length) ti.size) (.aV id (.arr ti.size ((es.drop off).take len ++ xs)))
      ((do pure (Next.value (← Builtin.append_ ats ty #[.slice (some ⟨b,o0+off * ti.size,none⟩) len cap,xv])):Sem Next).run P w):=by
  obtain ⟨_,⟨c2,e2,f2,hc2,hf2,hs2⟩,h3,h4⟩:=hor b o0 ti.size hm
  rw[hbk] at hc2
  simp only[Option.some.injEq,Obj.cells.injEq] at hc2
  obtain ⟨rfl,rfl,rfl⟩:=hc2
  obtain ⟨fl,hfl,hlen,hfirst⟩:=jZ (P:=P) he hx (fun id h=>c.obj id (hrd id h)) hl
  have h5:=hfirst _ (Nat.le_refl _)
  rw[eL fl hfl.len] at h5
  have hz:=c.dX _ _ _ _ hm
  have hmul:(off+cap) * ti.size=off * ti.size+cap * ti.size:=Nat.add_mul _ _ _
  have hmul2:len * ti.size+xs.length * ti.size≤cap * ti.size:=by rw[← Nat.add_mul]; exact Nat.mul_le_mul_right _ hfit
  have hfll:fl.toList.length=xs.length * ti.size:=by rw[Array.length_toList,hfl.len]
  obtain ⟨c',hst,hcs,hcell⟩:=sW (P:=P) (off:=o0+off * ti.size+len * ti.size) hbk (nT hf2) fl.toList (by rw[hfll]; omega) (ze hfl hl hok)
  have hbl:=cM hbk
  have hm':=Ff (o0:=o0+off * ti.size) (s:=ti.size) hn c.bw hz hbk hcs
  have hyl:((es.drop off).take len).length=len:=by simp; omega
  have hget:∀ i,i < len→((es.drop off).take len ++ xs).getD i []=es.getD (off+i) []:=by
    intro i hi
    rw[ik (by omega)]
    simp[List.getD_eq_getElem?_getD,List.getElem?_take,hi]
  have hget2:∀ i,len≤i→((es.drop off).take len ++ xs).getD i []=xs.getD (i - len) []:=by
    intro i hi
    rw[gX (by omega),hyl]
  refine aL.value (w':={ w with heap:=w.heap.setIfInBounds b (.cells c' e' f) }) (μ':=μ.set n (b,o0+off * ti.size,ti.size)) (uK ha0 ha1 hno hund hti hlen hfit h5 (by simpa only [eT] using hst)) ?_ ⟨rfl,rfl,rfl,by simp⟩ ?_
  · have:=au.sl (Z:=Z) (μ:=μ.set n (b,o0+off * ti.size,ti.size)) (hp:=w.heap.setIfInBounds b (.cells c' e' f)) n 0 (len+xs.length) ti.size b (o0+off * ti.size) cap c' e' f (by simp[Mu.set]) hfit (cp hbl) (by rw[hcs,Nat.zero_add]; omega)
    simpa using this
  · refine ⟨b,o0+off * ti.size,ti.size,rfl,?_,.inr ⟨⟨o0,ti.size,hm⟩,bT _ _ _,gI hbk hcs⟩⟩
    intro b1 q1 s1 hx1
    simp only[Mu.set,if_true,Option.some.injEq,Prod.mk.injEq] at hx1
    obtain ⟨rfl,rfl,rfl⟩:=hx1
    have htot:((es.drop off).take len ++ xs).length=len+xs.length:=by rw[List.length_append,hyl]
    refine ⟨rfl,⟨c',e',f,cp hbl,by rw[hcs]; exact hf2,by rw[htot,hcs,Nat.add_mul]; omega⟩,?_,?_⟩
    · intro i hi
      rw[htot] at hi
      by_cases hil:i < len
      · rw[hget i hil]; exact h3 _ (by omega)
      · rw[hget2 i (by omega)]
        have hl':i - len < xs.length:=by omega
        simp only[List.getD_eq_getElem?_getD,List.getElem?_eq_getElem hl',Option.getD_some]
        exact hl _ (List.getElem_mem _)
    · intro i j hi hj
      rw[htot] at hi
      show ∃ y,cellAt (w.heap.setIfInBounds b (.cells c' e' f)) b (o0+off * ti.size+i * ti.size+j)=some y∧_
      rw[hcell,hfll]
      by_cases hil:i < len
      · have h6:i * ti.size+j < len * ti.size:=dt hil hj
        rw[if_neg (by omega),hget i hil]
        obtain ⟨y,hy,hv⟩:=h4 (off+i) j (by omega) hj
        rw[Nat.add_mul] at hy
        exact ⟨y,by rw[← hy]; congr 1; omega,hv.mono hm'⟩
      · have hl':i - len < xs.length:=by omega
        have h6:(i - len) * ti.size+j < xs.length * ti.size:=dt hl' hj
        have h7:i * ti.size=len * ti.size+(i - len) * ti.size:=by rw[← Nat.add_mul]; congr 1; omega
        rw[if_pos (by omega),hget2 i (by omega)]
        have hlt:(i - len) * ti.size+j < fl.size:=by rw[hfl.len]; exact h6
        refine ⟨fl[(i - len) * ti.size+j],?_,?_⟩
        · rw[show o0+off * ti.size+i * ti.size+j - (o0+off * ti.size+len * ti.size)=(i - len) * ti.size+j from by omega]
          simp[hlt]
        · have:=(hfl.rel _ j hl' hj).mono hm'
          simpa only [Array.getD_eq_getD_getElem?,Array.getElem?_eq_getElem hlt,Option.getD_some] using this
theorem Cm {t0 t1:TypeId} {ats:Array TypeId} {ty:TypeId} {s x:V} {sv xv:Value} (h:iI P t0 s x H n=some (v,av,rd)) (ha0:ats[0]?=some t0) (ha1:ats[1]?=some t1) (hno:kq P t1=true)
    (hs:au Z μ w.heap s sv) (hx:au Z μ w.heap x xv) (c:Ctx Z μ w.heap H rd n av) :
    aL Z μ w n v av ((do pure (Next.value (← Builtin.append_ ats ty #[sv,xv])):Sem Next).run P w):=by
  unfold iI at h
  split at h
  · rename_i e xs rdx hu he
    have hund:P.underlying t0=some (.slice e):=by
      unfold bE at hu; split at hu <;> simp_all
    split at h
    · simp at h
    · rename_i ti hti
      split at h
      · rename_i hxs
        have hxs:xs=[]:=by simpa using hxs
        subst hxs
        have fin:∀ m,dF s=some m→some (s,aN.none,([]:List Nat))=some (v,av,rd)→aL Z μ w n v av ((do pure (Next.value (← Builtin.append_ ats ty #[sv,xv])):Sem Next).run P w):=by
          intro m hm heq
          simp only[Option.some.injEq,Prod.mk.injEq] at heq
          obtain ⟨rfl,rfl,rfl⟩:=heq
          obtain ⟨ad,cap,rfl,hle⟩:=cb hs hm
          have hel:=q6 (P:=P) (size:=ti.size) he hx
          refine aL.here (uK ha0 ha1 hno hund hti hel.1 (by omega) hel.2 ?_) hs
          cases ad <;> simp[storeCells]
        split at h
        · exact fin 0 rfl h
        · exact fin 0 rfl h
        · exact fin _ rfl h
        · exact fin _ rfl h
        · simp at h
      · rename_i hxs
        have hxs:xs≠[]:=by simpa using hxs
        have hpos:0 < xs.length:=List.length_pos_iff.2 hxs
        split at h
        · simp at h
        · rename_i hcond
          simp only[not_or,Bool.not_eq_false,Classical.not_not] at hcond
          obtain ⟨hsz0,hzs,hall⟩:=hcond
          obtain ⟨hl,hok⟩:=Bw hall
          split at h
          · split at h
            · rename_i hb
              obtain ⟨hb1,hb2⟩:=hb
              simp only[Option.some.injEq,Prod.mk.injEq] at h
              obtain ⟨rfl,rfl,rfl⟩:=h
              cases hs with
              | emp _ ad =>
                obtain ⟨xr,w',hrun,hv,hsame,hlt,hold,hor⟩:=wN (n:=n) (ty:=ty) (base:=ad) (sLen:=0) (sCap:=0) (ys:=[]) (old:=#[]) ha0 ha1 hno hund hti hzs he hx c.new c (fun id h=>h) hl rfl (by omega) (by simpa using hb1) (by simpa using hb2)
                  ⟨by simp,fun i j hi=>by simp at hi⟩ (by simp) (by simpa using lU (w:=w.drew) (ad:=ad) (cap:=0) (Nat.le_refl 0))
                simp only[Nat.zero_add] at hv
                exact aL.value hrun hv hsame ⟨w.heap.size,0,ti.size,Nat.le_refl _,hlt,rfl,hold,hor⟩
            · simp at h
          · rename_i id off len esz
            split at h
            · rename_i esz' es hH
              split at h
              · rename_i hb
                obtain ⟨hb0,rfl,hb1,hb2⟩:=hb
                simp only[Option.some.injEq,Prod.mk.injEq] at h
                obtain ⟨rfl,rfl,rfl⟩:=h
                have hor:=c.obj id (by simp)
                rw[hH] at hor
                have grow:∀ base sCap (old:Array Value),sv=.slice base len sCap→sCap < len+xs.length→Flat Z μ w.heap ti.size ((es.drop off).take len) old→(∀ e∈(es.drop off).take len,e.length=ti.size) →
                    (Builtin.firstCells ti.size len (.slice base len sCap)).run P w.drew=.ok old w.drew →
                    aL Z μ w n (.sl n 0 (len+xs.length) ti.size) (.aV id (.arr ti.size ((es.drop off).take len ++ xs))) ((do pure (Next.value (← Builtin.append_ ats ty #[sv,xv])):Sem Next).run P w):=by
                  intro base sCap old hsv hgt hfl hys ho
                  subst hsv
                  have hlen:((es.drop off).take len).length=len:=by simp; omega
                  obtain ⟨xr,w',hrun,hv,hsame,hlt,hold,hor⟩:=wN (n:=n) (ty:=ty) ha0 ha1 hno hund hti hzs he hx c.new c (fun i h=>List.mem_cons_of_mem _ h) hl hlen hgt hb1 hb2 hfl hys ho
                  exact aL.value hrun hv hsame ⟨w.heap.size,0,ti.size,rfl,hor,.inl ⟨Nat.le_refl _,hlt,hold⟩⟩
                cases hs with
                | lA _ _ _ ad =>
                  refine grow ad 0 #[] rfl (by omega) ⟨by simp,fun i j hi=>by simp at hi⟩ (by simp) (by simpa using lU (w:=w.drew) (ad:=ad) (cap:=0) (Nat.le_refl 0))
                | sl _ _ _ _ b o0 cap cc e' f hm hle hbk hsp =>
                  have hlen:((es.drop off).take len).length=len:=by simp; omega
                  obtain ⟨heq,⟨c2,e2,f2,hc2,hf2,hs2⟩,h3,h4⟩:=hor b o0 ti.size hm
                  subst heq
                  rw[hbk] at hc2
                  simp only[Option.some.injEq,Obj.cells.injEq] at hc2
                  obtain ⟨rfl,rfl,rfl⟩:=hc2
                  have hys:∀ e∈(es.drop off).take len,e.length=ti.size:=by
                    intro e he'
                    obtain ⟨i,hi,rfl⟩:=List.getElem_of_mem (List.mem_of_mem_drop (List.mem_of_mem_take he'))
                    have:=h3 i hi
                    simpa [List.getD_eq_getElem?_getD,hi] using this
                  by_cases hfit:len+xs.length≤cap
                  · exact E5 ha0 ha1 hno hund hti he hx c.new c (fun i h=>List.mem_cons_of_mem _ h) hl hok hH hor hm hb0 hle hbk hsp hfit
                  · by_cases hl0:len=0
                    · subst hl0
                      exact grow _ cap #[] rfl (by omega) ⟨by simp,fun i j hi=>by simp at hi⟩ (by simp) (by simpa using lU (w:=w.drew) (ad:=some ⟨b,o0+off * ti.size,none⟩) (cap:=cap) (Nat.le_refl 0))
                    · have hel:bF H (.sl id off len ti.size)=some ((es.drop off).take len,[id]):=by
                        cases len with
                        | zero=>exact absurd rfl hl0
                        | succ l=>simp[bF,hH,hb0]
                      obtain ⟨old,hold,_,hfirst⟩:=jZ (P:=P) (w:=w.drew) (Z:=Z) (μ:=μ) hel (au.sl id off len ti.size b o0 cap cc e' f hm hle hbk hsp) (fun i hi=>by
                        simp at hi; subst hi; rw[hH]; exact hor) hys
                      have h5:=hfirst len (by omega)
                      rw[eL old (by rw[hold.len,hlen])] at h5
                      exact grow _ cap old rfl (by omega) hold hys h5
              · simp at h
            · simp at h
          · simp at h
  · simp at h
theorem Gy {t0:TypeId} {ats:Array TypeId} {ty:TypeId} {x:V} {xv:Value} (h:zt P t0 x=some (v,av,rd)) (ha0:ats[0]?=some t0)
    (hx:au Z μ w.heap x xv) (c:Ctx Z μ w.heap H rd n av) :
    aL Z μ w n v av ((do pure (Next.value (← Builtin.cap_ ats ty #[xv])):Sem Next).run P w):=by
  unfold zt at h
  split at h
  · rename_i e k hu
    have hund:P.underlying t0=some (.slice e):=by
      unfold bE at hu; split at hu <;> simp_all
    simp only[Option.some.injEq,Prod.mk.injEq] at h
    obtain ⟨rfl,rfl,rfl⟩:=h
    cases hx with
    | emp _ ad =>
      refine aL.here (x:=goInt 0) ?_ (.val _ rfl)
      simp only[Builtin.cap_,List.getElem?_toArray,List.getElem?_cons_zero,ha0,Sem.run_bind,aR hund,Result.andThen_ok,Sem.run_pure]
      rfl
  · simp at h
theorem zR {t0 t1 e:TypeId} {ti:TypeInfo} {k:IntKind} {ats:Array TypeId} {ty:TypeId} {base:Option Addr} {m:Nat} {k2:IntKind} {zv:Value}
    (ha0:ats[0]?=some t0) (ha1:ats[1]?=some t1) (hd:P.underlying t1=some (.int k)) (hund:P.underlying t0=some (.slice e)) (hti:P.info? e=some ti)
    (hgt:0 < m) (hb1:m * ti.bytes < aW) (hb2:m < aW) (hs0:m * ti.size≠0) (hz:∀ w',(zeroValue e).run P w'=.ok zv w') :
    ∃ cap,m≤cap∧(Builtin.append_ ats ty #[.slice base 0 0,.int k2 (m:Int)]).run P w =
      .ok (.slice (some ⟨w.heap.size,0,none⟩) m cap) (w.drew.alloc (.cells (#[] ++ Builtin.zeroCells zv.cells m ++ Builtin.zeroCells zv.cells (cap - m)) e)):=by
  have hlim:=xe
  have hfit:=growslice_fits (old:=0) hgt (show m * ti.bytes≤140737488355328 by omega)
  have hmax:¬ ((m:Int) > IntKind.i64.max):=by
    have:IntKind.i64.max=9223372036854775807:=by decide
    rw[this]; omega
  have hbig:¬ (Builtin.nextslicecap m 0 * ti.bytes > 2 ^ 48):=by
    have:(2:Nat) ^ 48=281474976710656:=by decide
    rw[this]; exact Nat.not_lt.2 hfit
  have e1:IntKind.i64.wrap (m:Int)=m:=wrap_small hb2
  have g1:¬ ((m:Int) < 0):=by omega
  have g2:¬ ((m:Int) * (ti.bytes:Int) > 2 ^ 48):=by
    have:((m * ti.bytes:Nat):Int) < 2 ^ 48:=by omega
    push_cast at this; omega
  refine ⟨Question.cut (.appendCap m 0 e) (w.tape w.drawn (.appendCap m 0 e)),Nat.le_add_right _ _,?_⟩
  have hcut:Question.forced (.appendCap m 0 e)=false:=rfl
  have hfirst:∀ w':World,(Builtin.firstCells ti.size 0 (.slice base 0 0)).run P w'=.ok #[] w':=fun w'=>gK
  simp only[Builtin.append_,List.getElem?_toArray,List.getElem?_cons_zero,List.getElem?_cons_succ,ha0,ha1,Sem.run_bind,aR hund,Result.andThen_ok,bM hti,aR hd,Sem.run_pure,if_true,asInt,asIntOf,e1,Int.toNat_natCast,Sem.run_ite,g1,g2,if_false,kf hti,Nat.zero_add]
  rw[if_neg (by omega)]
  simp only[hmax,false_and,if_false,Sem.run_bind,Result.andThen_ok,Sem.run_ite,Sem.run_pure,hbig,run_choose,hcut,Bool.false_eq_true,World.drew_eq,run_askRoom,hfirst,hs0,hz,Bool.not_true,newRow,bM hti,run_newObj,World.alloc_eq]
  rfl
theorem BI {ti:TypeInfo} {z:List V} {zv:Value} {m:Nat} (hr:dm Z μ w.heap z zv.cells.toList) (hzl:z.length=ti.size):Flat Z μ w.heap ti.size (List.replicate m z) (Builtin.zeroCells zv.cells m):=by
  have hzs:zv.cells.size=ti.size:=by rw[← hzl,hr.1]; simp
  refine ⟨by simp[Builtin.zeroCells,hzs],fun i j hi hj=>?_⟩
  simp only[List.length_replicate] at hi
  have hlt:i * ti.size+j < m * ti.size:=dt hi hj
  have hmod:(i * ti.size+j) % ti.size=j:=by
    rw[Nat.mul_comm,Nat.mul_add_mod]; exact Nat.mod_eq_of_lt hj
  have h1:=hr.2 j (by rw[hzl]; exact hj)
  have e1:(List.replicate m z).getD i []=z:=by simp[List.getD_eq_getElem?_getD,hi]
  have e2:(Builtin.zeroCells zv.cells m).getD (i * ti.size+j) undef=zv.cells.toList.getD j undef:=by
    simp[Builtin.zeroCells,Array.getD_eq_getD_getElem?,List.getD_eq_getElem?_getD,hzs,hlt,hmod,getElem!_pos zv.cells j (by omega),show j < zv.cells.size by omega]
    rw[Array.getElem?_eq_getElem (by omega)]; rfl
  rw[e1,e2]
  exact h1
theorem EU {t0 t1:TypeId} {ats:Array TypeId} {ty:TypeId} {s x:V} {sv xv:Value} (h:pt P t0 s x n=some (v,av,rd)) (ha0:ats[0]?=some t0) (ha1:ats[1]?=some t1) (hno:isInt P t1=true)
    (hs:au Z μ w.heap s sv) (hx:au Z μ w.heap x xv) (c:Ctx Z μ w.heap H rd n av) :
    aL Z μ w n v av ((do pure (Next.value (← Builtin.append_ ats ty #[sv,xv])):Sem Next).run P w):=by
  unfold pt at h
  split at h
  · rename_i e l k hu hl
    have hund:P.underlying t0=some (.slice e):=by
      unfold bE at hu; split at hu <;> simp_all
    have hd:∃ d,P.underlying t1=some (.int d):=by
      unfold isInt at hno; split at hno
      · rename_i d hd; exact ⟨d,hd⟩
      · simp at hno
    obtain ⟨d,hd⟩:=hd
    obtain ⟨k1,rfl⟩:=gj hl
    have hx:=cE hx
    subst hx
    split at h
    · rename_i ti z hti hz
      split at h
      · rename_i h0
        subst h0
        simp only[Option.some.injEq,Prod.mk.injEq] at h
        obtain ⟨rfl,rfl,rfl⟩:=h
        cases hs with
        | emp _ ad ha hb =>
          refine aL.here (x:=.slice ad 0 0) ?_ (.emp _ ad ha hb)
          have e1:IntKind.i64.wrap ((0:Nat):Int)=0:=by decide
          have g2:¬ ((0:Int) * (ti.bytes:Int) > 2 ^ 48):=by rw[Int.zero_mul]; decide
          simp only[Builtin.append_,List.getElem?_toArray,List.getElem?_cons_zero,List.getElem?_cons_succ,ha0,ha1,Sem.run_bind,aR hund,Result.andThen_ok,bM hti,aR hd,Sem.run_pure,if_true,asInt,asIntOf,e1,Sem.run_ite,Int.lt_irrefl,g2,if_false,kf hti,Nat.zero_add,Int.toNat_zero,Nat.le_refl,Nat.zero_mul,Bool.not_true,Bool.false_eq_true]
          cases ad <;> simp[storeCells]
      · rename_i h0
        split at h
        · rename_i hb
          obtain ⟨hzl,hzok,hs0,hb1,hb2⟩:=hb
          simp only[Option.some.injEq,Prod.mk.injEq] at h
          obtain ⟨rfl,rfl,rfl⟩:=h
          obtain ⟨zv,hzv,rfl⟩:=fq hti hz
          cases hs with
          | emp _ ad =>
            have hpos:l * ti.size≠0:=by
              intro h; rcases Nat.mul_eq_zero.1 h with h | h <;> contradiction
            obtain ⟨cap,hcap,hrun⟩:=zR (P:=P) (w:=w) (ty:=ty) (base:=ad) (k2:=k1) ha0 ha1 hd hund hti (by omega) hb1 hb2 hpos (fun w'=>gm hti hzv w')
            have hr:=dP (dQ (Z:=Z) (μ:=μ) (w:=w) zv) hzok
            have hzs:zv.cells.size=ti.size:=by rw[← hzl,hr.1]; simp
            have hfl:=BI (m:=l) (ti:=ti) hr hzl
            have hsz:(Builtin.zeroCells zv.cells l).size=l * ti.size:=by simp[Builtin.zeroCells,hzs]
            have hsz2:(Builtin.zeroCells zv.cells (cap - l)).size=(cap - l) * ti.size:=by simp[Builtin.zeroCells,hzs]
            have hsum:cap * ti.size=l * ti.size+(cap - l) * ti.size:=by rw[← Nat.add_mul]; congr 1; omega
            refine aL.value (μ':=μ.set n (w.heap.size,0,ti.size)) hrun ?_ (fV _ _) ?_
            · rw[heap_alloc,cD]
              have:=au.sl (Z:=Z) (μ:=μ.set n (w.heap.size,0,ti.size)) (hp:=w.heap.push (.cells (#[] ++ Builtin.zeroCells zv.cells l ++ Builtin.zeroCells zv.cells (cap - l)) e (0,0))) n 0 l ti.size w.heap.size 0 cap _ e (0,0) (by simp[Mu.set]) hcap (by simp; rfl)
                (by simp only[Array.size_append,hsz,hsz2,Nat.zero_add]; (try simp); exact Nat.le_of_eq hsum)
              simpa using this
            · refine ⟨w.heap.size,0,ti.size,Nat.le_refl _,by rw[heap_alloc,cD]; simp,rfl,by rw[heap_alloc,cD]; exact cq _ _,?_⟩
              rw[heap_alloc,cD]
              have:=xt (e:=e) (rest:=Builtin.zeroCells zv.cells (cap - l)) c.new c.bw (ys:=[]) (old:=#[]) ⟨by simp,fun i j hi=>by simp at hi⟩ hfl (by simp) (fun x hx=>by rw[(List.mem_replicate.1 hx).2]; exact hzl)
              simpa using this
        · simp at h
    · simp at h
  · simp at h
theorem jg:∀ (ys es:List (List V)) (i:Nat),(j0 es i ys).length=es.length
  | [],_,_=>rfl
  | y :: ys,es,i=>by rw[j0,jg ys]; simp
theorem qd:∀ (ys es:List (List V)) (i k:Nat),i+ys.length≤es.length→(j0 es i ys).getD k []=if i≤k∧k < i+ys.length then ys.getD (k - i) [] else es.getD k []
  | [],es,i,k,_=>by rw[if_neg (by simp only[List.length_nil]; omega)]; rfl
  | y :: ys,es,i,k,h=>by
    simp only[List.length_cons] at h
    rw[j0,qd ys _ _ _ (by simp; omega)]
    simp only[List.length_cons]
    by_cases h1:i=k
    · subst h1
      rw[if_neg (by omega),if_pos (by omega)]
      simp[List.getD_eq_getElem?_getD,show i < es.length by omega]
    · by_cases h2:i+1≤k∧k < i+1+ys.length
      · rw[if_pos h2,if_pos (by omega),show k - i=(k - (i+1))+1 from by omega]
        simp
      · rw[if_neg h2,if_neg (by omega)]
        simp[List.getD_eq_getElem?_getD,h1]
theorem Fv {t0:TypeId} {ats:Array TypeId} {ty:TypeId} {d x:V} {dv xv:Value} (h:ue P t0 d x H=some (v,av,rd)) (ha0:ats[0]?=some t0)
    (hd:au Z μ w.heap d dv) (hx:au Z μ w.heap x xv) (c:Ctx Z μ w.heap H rd n av) :
    aL Z μ w n v av ((do pure (Next.value (← Builtin.copy_ ats ty #[dv,xv])):Sem Next).run P w):=by
  unfold ue at h
  split at h
  · rename_i e xs rdx dl hu he hdl
    have hund:P.underlying t0=some (.slice e):=by
      unfold bE at hu; split at hu <;> simp_all
    obtain ⟨ad,cap,rfl,hcap⟩:=cb hd hdl
    have run:∀ (new:Array Value) w' ti,P.info? e=some ti→(Builtin.lenOf xv).run P w=.ok xs.length w→(Builtin.firstCells ti.size (Nat.min xs.length dl) xv).run P w=.ok new w →
        (match ad with | some a=>storeCells a new.toList | none=>pure ()).run P w=.ok () w' →
        (Builtin.copy_ ats ty #[.slice ad dl cap,xv]).run P w=.ok (goInt (Nat.min xs.length dl:Nat)) w':=by
      intro new w' ti hti h1 h2 h3
      simp only[Builtin.copy_,List.getElem?_toArray,List.getElem?_cons_zero,List.getElem?_cons_succ,ha0,Sem.run_bind,aR hund,Result.andThen_ok,bM hti,Sem.run_pure,h1,h2]
      cases ad with
      | none=>simp only[Sem.run_pure,Result.ok.injEq,true_and] at h3; subst h3; rfl
      | some a=>simp only[Sem.run_bind,h3,Result.andThen_ok,Sem.run_pure]
    split at h
    · simp at h
    · rename_i ti hti
      split at h
      · rename_i hemp
        simp only[Option.some.injEq,Prod.mk.injEq] at h
        obtain ⟨rfl,rfl,rfl⟩:=h
        have hel:=q6 (P:=P) (size:=ti.size) he hx
        have hmin:Nat.min xs.length dl=0:=by
          have:(xs.take dl).length=0:=by rw[List.isEmpty_iff.1 hemp]; rfl
          rw[List.length_take] at this
          show min _ _=0; omega
        have:=run #[] w ti hti hel.1 (by rw[hmin]; exact hel.2) (by cases ad <;> simp[storeCells])
        rw[hmin] at this
        exact aL.here this (au.val _ rfl)
      · rename_i hne
        split at h
        · rename_i id off len esz
          split at h
          · rename_i esz' es hH
            split at h
            · rename_i hb
              obtain ⟨hb0,rfl,hsz0,hall⟩:=hb
              obtain ⟨hl,hok⟩:=Bw hall
              simp only[Option.some.injEq,Prod.mk.injEq] at h
              obtain ⟨rfl,rfl,rfl⟩:=h
              simp only[dF,Option.some.injEq] at hdl
              subst hdl
              have hor:=c.obj id (by simp)
              rw[hH] at hor
              have hmin:(xs.take len).length=Nat.min xs.length len:=by rw[List.length_take,Nat.min_comm]
              have hpos:0 < (xs.take len).length:=List.length_pos_iff.2 (by simpa using hne)
              cases hd with
              | lA=>simp at hpos
              | sl _ _ _ _ b o0 _ cc e' f hm _ hbk hsp =>
                obtain ⟨heq,⟨c2,e2,f2,hc2,hf2,hs2⟩,h3,h4⟩:=hor b o0 ti.size hm
                subst heq
                rw[hbk] at hc2
                simp only[Option.some.injEq,Obj.cells.injEq] at hc2
                obtain ⟨rfl,rfl,rfl⟩:=hc2
                obtain ⟨fl0,hfl0,hlen,hfirst⟩:=jZ (P:=P) he hx (fun id h=>c.obj id (List.mem_cons_of_mem _ h)) hl
                have h5:=hfirst (Nat.min xs.length len) (Nat.min_le_left _ _)
                have hfl:=DN hfl0 (Nat.min xs.length len) (Nat.min_le_left _ _)
                have htk:xs.take (Nat.min xs.length len)=xs.take len:=by
                  rw[List.take_eq_take_iff]; show min (min xs.length len) xs.length=min len xs.length; omega
                rw[htk] at hfl
                generalize fl0.extract 0 (Nat.min xs.length len * ti.size)=fl at h5 hfl
                have hfll:fl.toList.length=(xs.take len).length * ti.size:=by rw[Array.length_toList,hfl.len]
                have hlt':(xs.take len).length≤len:=by rw[List.length_take]; omega
                have hmul3:(off+(xs.take len).length) * ti.size≤es.length * ti.size:=Nat.mul_le_mul_right _ (by omega)
                rw[Nat.add_mul] at hmul3
                have hz:=c.dX _ _ _ _ hm
                obtain ⟨c',hst,hcs,hcell⟩:=sW (P:=P) (off:=o0+off * ti.size) hbk (nT hf2) fl.toList (by rw[hfll]; omega) (ze hfl (fun e he=>hl e (List.mem_of_mem_take he)) (fun e he=>hok e (List.mem_of_mem_take he)))
                have hbl:=cM hbk
                have hm':dJ Z Z μ μ w.heap (w.heap.setIfInBounds b (.cells c' e' f)) :=
                  ⟨fun _ h=>h,fun k hk=>bT w.heap b _ k (c.bw k hk) (fun e=>hz (e ▸ hk)),fun _ _ h=>h,gI hbk hcs⟩
                refine aL.value (μ':=μ) (run fl _ ti hti hlen h5 hst) ?_ ⟨rfl,rfl,rfl,by simp⟩ ?_
                · rw[hmin]; exact au.val _ rfl
                · refine ⟨b,o0,ti.size,hm,rfl,bT _ _ _,gI hbk hcs,?_⟩
                  intro b1 q1 s1 hx1
                  rw[hm] at hx1
                  simp only[Option.some.injEq,Prod.mk.injEq] at hx1
                  obtain ⟨rfl,rfl,rfl⟩:=hx1
                  have hsr:=fun k=>qd (xs.take len) es off k (by omega)
                  refine ⟨rfl,⟨c',e',f,cp hbl,by rw[hcs]; exact hf2,by rw[jg,hcs]; exact hs2⟩,?_,?_⟩
                  · intro i hi
                    rw[jg] at hi
                    rw[hsr]
                    split
                    · have hl':i - off < (xs.take len).length:=by omega
                      simp only[List.getD_eq_getElem?_getD,List.getElem?_eq_getElem hl',Option.getD_some]
                      exact hl _ (List.mem_of_mem_take (List.getElem_mem _))
                    · exact h3 i hi
                  · intro i j hi hj
                    rw[jg] at hi
                    show ∃ y,cellAt (w.heap.setIfInBounds b (.cells c' e' f)) b (o0+i * ti.size+j)=some y∧_
                    rw[hcell,hfll,hsr]
                    by_cases hin:off≤i∧i < off+(xs.take len).length
                    · have hl':i - off < (xs.take len).length:=by omega
                      have h6:(i - off) * ti.size+j < (xs.take len).length * ti.size:=dt hl' hj
                      have h7:i * ti.size=off * ti.size+(i - off) * ti.size:=by rw[← Nat.add_mul]; congr 1; omega
                      rw[if_pos (by omega),if_pos hin]
                      have hlt:(i - off) * ti.size+j < fl.size:=by rw[hfl.len]; exact h6
                      refine ⟨fl[(i - off) * ti.size+j],?_,?_⟩
                      · rw[show o0+i * ti.size+j - (o0+off * ti.size)=(i - off) * ti.size+j from by omega]
                        simp[hlt]
                      · have:=(hfl.rel _ j hl' hj).mono hm'
                        simpa only [Array.getD_eq_getD_getElem?,Array.getElem?_eq_getElem hlt,Option.getD_some] using this
                    · have h8:¬ (o0+off * ti.size≤o0+i * ti.size+j∧o0+i * ti.size+j < o0+off * ti.size+(xs.take len).length * ti.size):=by
                        rcases Nat.lt_or_ge i off with h9 | h9
                        · have:(i+1) * ti.size≤off * ti.size:=Nat.mul_le_mul_right _ h9
                          rw[Nat.add_mul] at this; omega
                        · have:(off+(xs.take len).length) * ti.size≤i * ti.size:=Nat.mul_le_mul_right _ (by omega)
                          rw[Nat.add_mul] at this; omega
                      rw[if_neg h8,if_neg hin]
                      obtain ⟨y,hy,hv⟩:=h4 i j hi hj
                      exact ⟨y,hy,hv.mono hm'⟩
            · simp at h
          · simp at h
        · simp at h
  · simp at h
end
section
variable {Z:Nat→Prop} {μ μ':Mu} {w w':World} {P:Program} {H:View} {n:Nat} {v:V} {av:aN} {rd:List Nat}
theorem xE (off:Nat):∀ (l:List Value) (i:Nat) (cs:Array Value),off+i+l.length≤cs.size →
    ((l.zipIdx i).foldl (fun cs (p:Value × Nat)=>cs.setIfInBounds (off+p.2) p.1) cs).size=cs.size ∧
    ∀ k,((l.zipIdx i).foldl (fun cs (p:Value × Nat)=>cs.setIfInBounds (off+p.2) p.1) cs)[k]?=if off+i≤k∧k < off+i+l.length then l[k - (off+i)]? else cs[k]?
  | [],i,cs,_=>⟨rfl,fun k=>by rw[if_neg (by simp only[List.length_nil]; omega)]; rfl⟩
  | x :: l,i,cs,h=>by
    simp only[List.length_cons] at h
    obtain ⟨h1,h2⟩:=xE off l (i+1) (cs.setIfInBounds (off+i) x) (by simp; omega)
    simp only[List.zipIdx_cons,List.foldl_cons,List.length_cons]
    refine ⟨by rw[h1]; simp,fun k=>?_⟩
    rw[h2]
    by_cases e:off+i=k
    · subst e
      rw[if_neg (by omega),if_pos (by omega)]
      simp[show off+i < cs.size by omega]
    · by_cases e2:off+(i+1)≤k∧k < off+(i+1)+l.length
      · rw[if_pos e2,if_pos (by omega),show k - (off+i)=(k - (off+(i+1)))+1 from by omega]
        simp
      · rw[if_neg e2,if_neg (by omega)]
        simp[e]
theorem ud (off:Nat) (xs cs:Array Value) (h:off+xs.size≤cs.size) :
    (xs.zipIdx.foldl (fun cs (c,j)=>cs.setIfInBounds (off+j) c) cs).size=cs.size ∧
    ∀ k,(xs.zipIdx.foldl (fun cs (c,j)=>cs.setIfInBounds (off+j) c) cs)[k]?=if off≤k∧k < off+xs.size then xs[k - off]? else cs[k]?:=by
  have:=xE off xs.toList 0 cs (by simpa using h)
  rw[← Array.foldl_toList,Array.toList_zipIdx]
  simpa using this
def vK (Z:Nat→Prop) (μ:Mu) (hp:Array Obj):List (Nat × V)→List (Nat × Value)→Prop
  | [],[]=>True
  | p :: r,q :: s=>p.1=q.1∧au Z μ hp p.2 q.2∧vK Z μ hp r s
  | _,_=>False
theorem uJ {x:V} {y:Value} (h:au Z μ w.heap x y) (hx:x.cells.all aP=true):y.cells.size=x.cells.length:=by
  have:=(dP h hx).1; simpa using this.symm
theorem y3 {size:Nat} (place:Nat→Option (Nat × Nat)) (hpl:∀ i,place i=some (i * size,size)):∀ (ps:List (Nat × V)) (qs:List (Nat × Value)) (es es':List (List V)) (cs:Array Value),
    ag size es ps=some es'→vK Z μ w.heap ps qs→Flat Z μ w.heap size es cs→(∀ i,i < es.length→(es.getD i []).length=size)→(∀ i,i < es.length→(es.getD i []).all aP=true) →
    ∃ cs',Instr.fill place cs qs=some cs'∧Flat Z μ w.heap size es' cs'∧es'.length=es.length∧(∀ i,i < es'.length→(es'.getD i []).length=size)
  | [],[],es,es',cs,h,_,hf,hl,_=>by
    simp only[ag,Option.some.injEq] at h; subst h
    exact ⟨cs,rfl,hf,rfl,hl⟩
  | (i,x) :: ps,(i',y) :: qs,es,es',cs,h,hr,hf,hl,hok=>by
    obtain ⟨hi,hxy,hrest⟩:=hr
    simp only at hi hxy
    subst hi
    simp only[ag] at h
    split at h
    · rename_i hc
      obtain ⟨h1,h2,h3⟩:=hc
      have hcr:=dP hxy h3
      have hcs:=uJ hxy h3
      have hle:i * size+size≤cs.size:=by
        rw[hf.len]
        have:(i+1) * size≤es.length * size:=Nat.mul_le_mul_right _ h2
        rw[Nat.add_mul] at this; omega
      obtain ⟨k1,k2⟩:=ud (i * size) y.cells cs (by omega)
      have hget:∀ k,(es.set i x.cells).getD k []=if k=i then x.cells else es.getD k []:=by
        intro k
        simp only[List.getD_eq_getElem?_getD,List.getElem?_set]
        by_cases e:i=k
        · subst e; simp[h2]
        · rw[if_neg e,if_neg (fun q=>e q.symm)]
      obtain ⟨cs',g1,g2,g3,g4⟩:=y3 place hpl ps qs (es.set i x.cells) es' (y.cells.zipIdx.foldl (fun cs (c,j)=>cs.setIfInBounds (i * size+j) c) cs) h hrest
        ⟨by rw[k1,hf.len]; simp,fun a j ha hj=>by
          have ha':a < es.length:=by simpa using ha
          rw[hget,Array.getD_eq_getD_getElem?,k2]
          by_cases e:a=i
          · subst e
            rw[if_pos rfl,if_pos (by omega),show a * size+j - a * size=j from by omega]
            have:=hcr.2 j (by omega)
            simpa [List.getD_eq_getElem?_getD] using this
          · have:¬ (i * size≤a * size+j∧a * size+j < i * size+y.cells.size):=by
              rcases Nat.lt_or_gt_of_ne e with h9 | h9
              · have:(a+1) * size≤i * size:=Nat.mul_le_mul_right _ h9
                rw[Nat.add_mul] at this; omega
              · have:(i+1) * size≤a * size:=Nat.mul_le_mul_right _ h9
                rw[Nat.add_mul] at this; omega
            rw[if_neg e,if_neg this]
            have:=hf.rel a j ha' hj
            simpa only [Array.getD_eq_getD_getElem?] using this⟩
        (fun k hk=>by rw[hget]; split; exact h1; exact hl k (by simpa using hk))
        (fun k hk=>by rw[hget]; split; exact h3; exact hok k (by simpa using hk))
      refine ⟨cs',?_,g2,by simpa using g3,g4⟩
      simp only[Instr.fill,hpl]
      rw[if_neg (by simp only[Bool.or_eq_true,decide_eq_true_eq,not_or]; omega)]
      exact g1
    · simp at h
  | [],_ :: _,_,_,_,_,hr,_,_,_=>hr.elim
  | _ :: _,[],_,_,_,_,hr,_,_,_=>hr.elim
theorem wh {t:TypeId} {len:Nat} {ps:List (Nat × V)} {qs:Array (Nat × Value)} (h:dM P t len ps n=some (v,av,rd)) (hr:vK Z μ w.heap ps qs.toList) (c:Ctx Z μ w.heap H rd n av) :
    aL Z μ w n v av ((do pure (Next.value (← Instr.buildSlice t len qs)):Sem Next).run P w):=by
  unfold dM at h
  cases hu:bE P t with
  | none=>simp[hu] at h
  | some e =>
    have hund:P.underlying t=some (.slice e):=by
      unfold bE at hu; split at hu <;> simp_all
    cases hti:P.info? e with
    | none=>simp[hu,hti] at h
    | some ti =>
      simp only[hu,hti] at h
      split at h
      · simp at h
      · rename_i hbig
        split at h
        · rename_i hl0
          subst hl0
          split at h
          · rename_i hemp
            simp only[Option.some.injEq,Prod.mk.injEq] at h
            obtain ⟨rfl,rfl,rfl⟩:=h
            have hps:ps=[]:=by simpa using hemp
            subst hps
            have hqs:qs = #[]:=by
              cases hq:qs.toList with
              | nil=>exact Array.toList_eq_nil_iff.1 hq
              | cons a b=>rw[hq] at hr; exact hr.elim
            subst hqs
            refine aL.value (x:=.slice (some ⟨w.heap.size,0,none⟩) 0 0) (w':=w.alloc (.cells #[] e)) ?_ (.emp 2 _ (by simp) (by simp)) (eu _ _) ⟨rfl,cq _ _⟩
            simp[Instr.buildSlice,aR hund,bM hti,Instr.fill,newRow,show Array.range 0 = #[] from rfl]
          · simp at h
        · split at h
          · simp at h
          · rename_i hl0 hs0
            split at h
            · simp at h
            · rename_i z hz
              split at h
              · rename_i hzz
                obtain ⟨hzl,hzok⟩:=hzz
                split at h
                · rename_i es hes
                  simp only[Option.some.injEq,Prod.mk.injEq] at h
                  obtain ⟨rfl,rfl,rfl⟩:=h
                  obtain ⟨zv,hzv,rfl⟩:=fq hti hz
                  have hrz:=dP (dQ (Z:=Z) (μ:=μ) (w:=w) zv) hzok
                  have hzs:zv.cells.size=ti.size:=by rw[← hzl,hrz.1]; simp
                  have hpos:len * ti.size≠0:=by
                    intro h0; rcases Nat.mul_eq_zero.1 h0 with h0 | h0 <;> contradiction
                  have hflat:Flat Z μ w.heap ti.size (List.replicate len (dD zv).cells) ((Array.range (len * ti.size)).map (zv.cells[· % zv.cells.size]!)):=by
                    refine ⟨by simp,fun i j hi hj=>?_⟩
                    simp at hi
                    have hlt:i * ti.size+j < len * ti.size:=dt (by omega) hj
                    have hmod:(i * ti.size+j) % ti.size=j:=by
                      rw[Nat.mul_comm,Nat.mul_add_mod]; exact Nat.mod_eq_of_lt hj
                    have:=hrz.2 j (by rw[hzl]; exact hj)
                    have hj2:j < zv.cells.size:=by omega
                    simp only[List.getD_eq_getElem?_getD,Array.getElem?_toList,Array.getElem?_eq_getElem hj2,Option.getD_some] at this
                    simpa [List.getD_eq_getElem?_getD,Array.getD_eq_getD_getElem?,hi,hlt,hzs,hmod,getElem!_pos zv.cells j hj2] using this
                  obtain ⟨cs',g1,g2,g3,g4⟩:=y3 (fun i=>some (i * ti.size,ti.size)) (fun _=>rfl) ps qs.toList _ es _ hes hr hflat
                    (fun i hi=>by simp at hi; simp[List.getD_eq_getElem?_getD,hi,hzl])
                    (fun i hi=>by simp at hi; simpa [List.getD_eq_getElem?_getD,hi] using hzok)
                  have g3':es.length=len:=by simpa using g3
                  refine aL.value (μ':=μ.set n (w.heap.size,0,ti.size)) (x:=.slice (some ⟨w.heap.size,0,none⟩) len len) (w':=w.alloc (.cells cs' e)) ?_ ?_ (eu _ _) ?_
                  · have hbig':¬ (2 ^ 24 < len * ti.size):=hbig
                    simp[Instr.buildSlice,aR hund,bM hti,hbig,hpos,hl0,hs0,gm hti hzv,g1,newRow]
                  · have:=au.sl (Z:=Z) (μ:=μ.set n (w.heap.size,0,ti.size)) (hp:=(w.alloc (.cells cs' e)).heap) n 0 len ti.size w.heap.size 0 len cs' e (0,0) (by simp[Mu.set]) (Nat.le_refl _) (by rw[heap_alloc]; simp) (by rw[g2.len,g3']; simp)
                    simpa using this
                  · refine ⟨w.heap.size,0,ti.size,Nat.le_refl _,by rw[heap_alloc]; simp,rfl,cq _ _,?_⟩
                    refine cg.newRow c.new c.bw (by rw[g2.len]; exact Nat.le_refl _) g4 (fun i j hi hj=>?_)
                    have hlt:i * ti.size+j < cs'.size:=by rw[g2.len]; exact dt hi hj
                    refine ⟨cs'[i * ti.size+j],by simp[hlt],?_⟩
                    have:=g2.rel i j hi hj
                    simpa only [Array.getD_eq_getD_getElem?,Array.getElem?_eq_getElem hlt,Option.getD_some] using this
                · simp at h
              · simp at h
theorem yl (place pl:Nat→Option (Nat × Nat)) (hpl:∀ i x,place i=some x→pl i=some x):∀ (ps:List (Nat × V)) (qs:List (Nat × Value)) (cs cs':List V) (aas:Array Value),
    pZ place cs ps=some cs'→vK Z μ w.heap ps qs→cs.length=aas.size→(∀ i,i < cs.length→au Z μ w.heap (cs.getD i .any) (aas.getD i undef)) →
    ∃ aas',Instr.fill pl aas qs=some aas'∧cs'.length=aas'.size∧(∀ i,i < cs'.length→au Z μ w.heap (cs'.getD i .any) (aas'.getD i undef))
  | [],[],cs,cs',aas,h,_,h1,h2=>by
    simp only[pZ,Option.some.injEq] at h; subst h
    exact ⟨aas,rfl,h1,h2⟩
  | (i,x) :: ps,(i',y) :: qs,cs,cs',aas,h,hr,h1,h2=>by
    obtain ⟨hi,hxy,hrest⟩:=hr
    simp only at hi hxy
    subst hi
    simp only[pZ] at h
    split at h
    · simp at h
    · rename_i off size hp
      split at h
      · rename_i hc
        obtain ⟨k1,k2,k3⟩:=hc
        have hcr:=dP hxy k3
        have hcs:=uJ hxy k3
        obtain ⟨m1,m2⟩:=ud off y.cells aas (by omega)
        have hsl:(ab cs off x.cells).length=cs.length:=qc _ _ _ (by omega)
        obtain ⟨aas',g1,g2,g3⟩:=yl place pl hpl ps qs (ab cs off x.cells) cs' (y.cells.zipIdx.foldl (fun cs (c,j)=>cs.setIfInBounds (off+j) c) aas) h hrest (by rw[hsl,m1,h1])
          (fun k hk=>by
            rw[hsl] at hk
            rw[Array.getD_eq_getD_getElem?,m2]
            by_cases e:off≤k∧k < off+x.cells.length
            · rw[xj _ _ _ _ (by omega) e,if_pos (by omega)]
              have:=hcr.2 (k - off) (by omega)
              simpa [List.getD_eq_getElem?_getD] using this
            · rw[uB _ _ _ _ (by omega) e,if_neg (by omega)]
              have:=h2 k hk
              simpa only [Array.getD_eq_getD_getElem?] using this)
        refine ⟨aas',?_,g2,g3⟩
        simp only[Instr.fill,hpl i _ hp]
        rw[if_neg (by simp only[Bool.or_eq_true,decide_eq_true_eq,not_or]; omega)]
        exact g1
      · simp at h
  | [],_ :: _,_,_,_,_,hr,_,_=>hr.elim
  | _ :: _,[],_,_,_,_,hr,_,_=>hr.elim
end
section
variable {Z:Nat→Prop} {μ μ':Mu} {w w':World} {P:Program} {H:View} {n:Nat} {v:V} {av:aN} {rd:List Nat}
theorem Ab {fs:Array Field} (h:∀ f∈fs.toList,(P.info? f.type).isSome=true) :
    (fs.mapM fun f=>do pure (f.offset,← Go.sizeOf f.type):Sem (Array (Nat × Nat))).run P w=.ok (fs.map fun f=>(f.offset,P.cellsOf f.type)) w:=by
  have key:∀ (l:List Field),(∀ f∈l,(P.info? f.type).isSome=true)→(l.mapM fun f=>do pure (f.offset,← Go.sizeOf f.type):Sem (List (Nat × Nat))).run P w=.ok (l.map fun f=>(f.offset,P.cellsOf f.type)) w:=by
    intro l
    induction l with
    | nil=>intro _; rfl
    | cons f r ih =>
      intro hl
      obtain ⟨i,hi⟩:=Option.isSome_iff_exists.1 (hl f List.mem_cons_self)
      simp only[List.mapM_cons,Sem.run_bind,bM hi,Result.andThen_ok,Sem.run_pure,ih (fun f hf=>hl f (List.mem_cons_of_mem _ hf)),List.map_cons,pM hi]
  have:=key fs.toList h
  rw[Array.mapM_eq_mapM_toList]
  simp only[Sem.run_map,this,Result.andThen_ok]
  congr 1
  apply Array.ext'
  simp
theorem qZ {t:TypeId} {z:V} (h:zeroV P t=some z):∃ i zv,P.info? t=some i∧i.zero=some zv∧z=dD zv:=by
  unfold zeroV at h
  split at h
  · rename_i i hi
    split at h
    · rename_i zv hz
      simp at h
      exact ⟨i,zv,hi,hz,h.symm⟩
    · simp at h
  · simp at h
theorem Eu {t:TypeId} {ps:List (Nat × V)} {qs:Array (Nat × Value)} (h:oS P t ps=some (v,av,rd)) (hr:vK Z μ w.heap ps qs.toList) :
    aL Z μ w n v av ((do pure (Next.value (← Instr.build t qs)):Sem Next).run P w):=by
  unfold oS at h
  split at h
  · rename_i fs z hu hz
    obtain ⟨i,zv,hi,hzv,hzz⟩:=qZ hz
    have hk:hQ P t=true:=by
      cases hkk:hQ P t with
      | true=>rfl
      | false=>simp[hkk] at h
    rw[if_pos hk] at h
    simp only[Option.map_eq_some_iff] at h
    obtain ⟨cs,hcs,h⟩:=h
    simp only[Prod.mk.injEq] at h
    obtain ⟨rfl,rfl,rfl⟩:=h
    have hzr:=dQ (Z:=Z) (μ:=μ) (w:=w) zv
    rw[← hzz] at hzr
    cases hzr with
    | agg _ aas h1 h2 =>
      have hks:∀ f∈fs.toList,(P.info? f.type).isSome=true:=by
        unfold hQ at hk
        rw[hu] at hk
        exact List.all_eq_true.1 hk
      obtain ⟨aas',g1,g2,g3⟩:=yl (placeOf P t) (fun i=>(fs.map fun f=>(f.offset,P.cellsOf f.type))[i]?) (fun i x hx=>by
        unfold placeOf at hx
        simp only[Option.map_eq_some_iff] at hx
        obtain ⟨⟨a,b,ft⟩,hpl,rfl⟩:=hx
        obtain ⟨fs',fd,ti,hu',hfd,hti,rfl,rfl,rfl⟩:=nC hpl
        rw[hu] at hu'
        simp only[Option.some.injEq,TypeDesc.struct.injEq] at hu'
        subst hu'
        simp[hfd,pM hti]) ps qs.toList z _ aas hcs hr h1 h2
      refine aL.here (x:=.agg aas') ?_ (.agg _ _ g2 g3)
      simp only[Instr.build,Sem.run_bind,gm hi hzv,Result.andThen_ok,aR hu,Value.cells]
      rw[Ab hks]
      simp only[Result.andThen_ok,Sem.run_pure]
      have:Instr.fill (fun x=>(fs.map fun f=>(f.offset,P.cellsOf f.type))[x]?) aas qs.toList=some aas':=g1
      simp only[this,Sem.run_pure]
  · simp at h
theorem aU {α β:Type} (P:Program) (s:Sem α) (f:α→Sem β):aX P (s >>= f)=(aX P s).bind fun a=>aX P (f a):=by
  have key:∀ s:Sem α,aX P (s.bind f)=(aX P s).bind fun a=>aX P (f a):=by
    intro s
    induction s with
    | pure a=>rfl
    | program k ih=>simp only[Sem.bind,aX]; exact ih P
    | _=>rfl
  exact key s
def Keys:List MapEntry→List MapEntry→Prop
  | [],[]=>True
  | a :: r,b :: s=>a.key=b.key∧Keys r s
  | _,_=>False
def Found (l:List MapEntry) (i:Nat):Option (Nat × Value)→Option (Nat × Value)→Prop
  | none,none=>True
  | some (a,_),some (b,x)=>a=b∧i≤a∧(l[a - i]?).map (·.val)=some x
  | _,_=>False
theorem Found.cons {l:List MapEntry} {e:MapEntry} {i:Nat} : ∀ {r r':Option (Nat × Value)},Found l (i+1) r r'→Found (e :: l) i r r'
  | none,none,_=>trivial
  | some (a,_),some (b,x),h=>by
    obtain ⟨rfl,h1,h2⟩:=h
    refine ⟨rfl,by omega,?_⟩
    rw[show a - i=(a - (i+1))+1 from by omega]
    simpa using h2
  | none,some _,h=>h.elim
  | some _,none,h=>h.elim
theorem rC (kind:TypeDesc) (k:Value):∀ (l m:List MapEntry) (i:Nat),Keys l m →
    match Instr.findNow kind k l i,Instr.findNow kind k m i with
    | some r,some r'=>Found m i r r'
    | none,none=>True
    | _,_=>False
  | [],[],i,_=>trivial
  | a :: l,b :: m,i,h=>by
    obtain ⟨hk,hr⟩:=h
    simp only[Instr.findNow,← hk]
    cases hs:Instr.sameNow kind k a.key with
    | none=>trivial
    | some t =>
      cases t with
      | true=>exact ⟨rfl,Nat.le_refl _,by simp⟩
      | false =>
        have:=rC kind k l m (i+1) hr
        simp only
        split at this
        · exact this.cons
        · trivial
        · exact this.elim
  | [],_ :: _,_,h=>h.elim
  | _ :: _,[],_,h=>h.elim
theorem m6 (kt:TypeId) (k:Value):∀ (l m:List MapEntry) (i:Nat) (r:Option (Nat × Value)),Keys l m→aX P (Instr.findAsking kt k l i)=some r →
    ∃ r',(Instr.findAsking kt k m i).run P w=.ok r' w∧Found m i r r'
  | [],[],i,r,_,h=>by
    simp only[Instr.findAsking,aX,Pure.pure,Option.some.injEq] at h
    subst h
    exact ⟨none,rfl,trivial⟩
  | a :: l,b :: m,i,r,hk,h=>by
    obtain ⟨hk,hr⟩:=hk
    simp only[Instr.findAsking,aU,Option.bind_eq_some_iff] at h
    obtain ⟨t,ht,h⟩:=h
    have hrun:=kr _ ht w
    rw[hk] at hrun
    cases t with
    | true =>
      simp only[if_true,aX,Pure.pure,Option.some.injEq] at h
      subst h
      exact ⟨some (i,b.val),by simp[Instr.findAsking,hrun],rfl,Nat.le_refl _,by simp⟩
    | false =>
      simp only[Bool.false_eq_true,if_false] at h
      obtain ⟨r',h1,h2⟩:=m6 kt k l m (i+1) r hr h
      exact ⟨r',by simp[Instr.findAsking,hrun,h1],h2.cons⟩
  | [],_ :: _,_,_,h,_=>h.elim
  | _ :: _,[],_,_,h,_=>h.elim
theorem rT:∀ (es:List (V × V × Nat)) (l m:List MapEntry),fp es=some l→es.length=m.length →
    (∀ i,i < es.length→∃ y,m[i]?=some y∧au Z μ w.heap (es.getD i default).1 y.key)→Keys l m
  | [],l,m,h,hl,_=>by
    simp only[fp,Option.some.injEq] at h
    subst h
    cases m with
    | nil=>trivial
    | cons _ _=>simp at hl
  | (k,vv,b) :: es,l,m,h,hl,hr=>by
    simp only[fp] at h
    split at h
    · rename_i x y hx hy
      simp only[Option.some.injEq] at h
      subst h
      cases m with
      | nil=>simp at hl
      | cons e m =>
        obtain ⟨y',h1,h2⟩:=hr 0 (by simp)
        simp only[List.getElem?_cons_zero,Option.some.injEq] at h1
        subst h1
        refine ⟨lf h2 hx,rT es y m hy (by simpa using hl) (fun i hi=>?_)⟩
        obtain ⟨y',h1,h2⟩:=hr (i+1) (by simpa using hi)
        exact ⟨y',by simpa using h1,by simpa using h2⟩
    · simp at h
theorem j1 {kt:TypeId} {k:V} {x:Value} {b:Bool} {es:List (V × V × Nat)} {a:Array MapEntry} {r:Option Nat} (h:kB P kt k b es=some r) (hk:au Z μ w.heap k x) (hl:a.size=es.length)
    (hr:∀ i,i < es.length→∃ y,a[i]?=some y∧au Z μ w.heap (es.getD i default).1 y.key) :
    (Instr.checkKey b 10000 kt x).run P w=.ok () w ∧
    ∃ r',(Instr.findKey kt x a.toList).run P w=.ok r' w∧(match r,r' with
      | none,none=>True
      | some i,some (j,y)=>i=j∧(a[i]?).map (·.val)=some y
      | _,_=>False):=by
  unfold kB at h
  split at h
  · rename_i x' l hx hlst
    have hxx:=lf hk hx
    subst hxx
    have hkeys:=rT (Z:=Z) (μ:=μ) (w:=w) es l a.toList hlst (by simpa using hl.symm) (fun i hi=>by simpa using hr i hi)
    have hmain:∀ q,aX P (Instr.checkKey b 10000 kt x' >>= fun _=>Instr.findKey kt x' l)=some q→(Instr.checkKey b 10000 kt x').run P w=.ok () w∧∃ r',(Instr.findKey kt x' a.toList).run P w=.ok r' w∧Found a.toList 0 q r':=by
      intro q hq
      rw[aU,Option.bind_eq_some_iff] at hq
      obtain ⟨u,hu,hq⟩:=hq
      refine ⟨kr _ hu w,?_⟩
      simp only[Instr.findKey,aU,Option.bind_eq_some_iff] at hq
      obtain ⟨d,hd,hq⟩:=hq
      have hdr:=kr _ hd w
      have hfn:=rC d x' l a.toList 0 hkeys
      cases h1:Instr.findNow d x' l 0 with
      | some r1 =>
        rw[h1] at hfn hq
        simp only[aX,Pure.pure,Option.some.injEq] at hq
        subst hq
        cases h2:Instr.findNow d x' a.toList 0 with
        | none=>rw[h2] at hfn; exact hfn.elim
        | some r2 =>
          rw[h2] at hfn
          exact ⟨r2,by simp[Instr.findKey,hdr,h2],hfn⟩
      | none =>
        rw[h1] at hfn hq
        cases h2:Instr.findNow d x' a.toList 0 with
        | some r2=>rw[h2] at hfn; exact hfn.elim
        | none =>
          obtain ⟨r',h3,h4⟩:=m6 (w:=w) kt x' l a.toList 0 q hkeys hq
          exact ⟨r',by simp[Instr.findKey,hdr,h2,h3],h4⟩
    split at h
    · rename_i i vv hp
      simp only[Option.some.injEq] at h
      subst h
      obtain ⟨h1,r',h2,h3⟩:=hmain _ hp
      refine ⟨h1,r',h2,?_⟩
      cases r' with
      | none=>exact h3.elim
      | some q =>
        obtain ⟨j,y⟩:=q
        obtain ⟨h4,_,h5⟩:=h3
        exact ⟨h4,by simpa using h5⟩
    · rename_i hp
      simp only[Option.some.injEq] at h
      subst h
      obtain ⟨h1,r',h2,h3⟩:=hmain _ hp
      refine ⟨h1,r',h2,?_⟩
      cases r' with
      | none=>trivial
      | some q=>exact h3.elim
    · simp at h
  · simp at h
theorem oV {id:Nat} {x:Value} (h:au Z μ w.heap (.mp id) x):∃ b o0 s,μ id=some (b,o0,s)∧x=.map (some b):=by
  cases h with | mp _ b o0 s hm=>exact ⟨b,o0,s,hm,rfl⟩
theorem dp {b:Nat} {a:Array MapEntry} {c:Nat} (h:w.heap[b]?=some (.map a c)):(getObj b).run P w=.ok (.map a c) w:=by
  simp[getObj,Sem.run,h]
theorem fo {b:Nat} {a:Array MapEntry} {c:Nat} (o:Obj) (h:w.heap[b]?=some (.map a c)):(setObj b o).run P w=.ok () { w with heap:=w.heap.setIfInBounds b o }:=by
  simp[setObj,Sem.run,h]
theorem jm {t kt et:TypeId} (h:dd P t=some (kt,et)):P.underlying t=some (.map kt et):=by
  unfold dd at h
  split at h
  · rename_i k e hu; simp at h; rw[hu,h.1,h.2]
  · simp at h
theorem A8 {k:Bool} {v1:V} {x1:Value} {b:Bool} (h:au Z μ w.heap v1 x1) :
    au Z μ w.heap (if k then .bc [v1,.val (.bool b)] else v1) (if k then .tuple #[x1,.bool b] else x1):=by
  cases k with
  | false=>exact h
  | true =>
    refine .bc _ _ rfl (fun i hi=>?_)
    match i,hi with
    | 0,_=>exact h
    | 1,_=>exact .val _ rfl
theorem BS {t:TypeId} {m k:V} {mv kv:Value} {ok:Bool} (h:de P t m k ok H=some (v,av,rd)) (hm:au Z μ w.heap m mv) (hk:au Z μ w.heap k kv) (c:Ctx Z μ w.heap H rd n av) :
    aL Z μ w n v av ((do pure (Next.value (← Instr.lookup t mv kv ok)):Sem Next).run P w):=by
  unfold de at h
  split at h
  · simp at h
  · rename_i kt et hmt
    have hu:=jm hmt
    split at h
    · simp at h
    · rename_i z hz
      obtain ⟨ti,zv,hti,hzv,rfl⟩:=qZ hz
      simp only at h
      split at h
      · rename_i id
        obtain ⟨b,o0,s,hμ,rfl⟩:=oV hm
        split at h
        · rename_i es clock hH
          have hobj:∀ id',id'=id→cg Z μ w.heap id (.map es clock)→∃ a:Array MapEntry,w.heap[b]?=some (.map a clock)∧a.size=es.length ∧
              ∀ i,i < es.length→∃ y,a[i]?=some y∧au Z μ w.heap (es.getD i default).1 y.key∧au Z μ w.heap (es.getD i default).2.1 y.val∧y.born=(es.getD i default).2.2:=fun _ _ h=>h b o0 s hμ
          have go:∀ r,kB P kt k es.isEmpty es=some r→cg Z μ w.heap id (.map es clock)→∃ x,(Instr.lookup t (.map (some b)) kv ok).run P w=.ok x w ∧
              (match r with
                | some i=>∀ e,es[i]?=some e→au Z μ w.heap (if ok then .bc [e.2.1,.val (.bool true)] else e.2.1) x
                | none=>au Z μ w.heap (if ok then .bc [dD zv,.val (.bool false)] else dD zv) x):=by
            intro r hr hor
            obtain ⟨a,ha,hsz,hes⟩:=hobj id rfl hor
            obtain ⟨h1,r',h2,h3⟩:=j1 (w:=w) hr hk hsz (fun i hi=>let ⟨y,h1,h2,_⟩:=hes i hi; ⟨y,h1,h2⟩)
            have hemp:a.isEmpty=es.isEmpty:=by
              simp only[Array.isEmpty,hsz]; cases es <;> simp
            cases r with
            | none =>
              cases r' with
              | some q=>exact h3.elim
              | none =>
                refine ⟨if ok then .tuple #[zv,.bool false] else zv,?_,A8 (dQ _)⟩
                simp only[Instr.lookup,Sem.run_bind,aR hu,Result.andThen_ok,dp ha,Sem.run_pure,hemp,h1,h2,gm hti hzv]
            | some i =>
              cases r' with
              | none=>exact h3.elim
              | some q =>
                obtain ⟨j,y⟩:=q
                obtain ⟨rfl,hy⟩:=h3
                refine ⟨if ok then .tuple #[y,.bool true] else y,?_,fun e he=>?_⟩
                · simp only[Instr.lookup,Sem.run_bind,aR hu,Result.andThen_ok,dp ha,Sem.run_pure,hemp,h1,h2]
                · refine A8 ?_
                  have hi:i < es.length:=by
                    rcases Nat.lt_or_ge i es.length with h | h
                    · exact h
                    · simp[List.getElem?_eq_none h] at he
                  obtain ⟨y',g1,g2,g3,g4⟩:=hes i hi
                  rw[g1] at hy
                  simp only[Option.map_some,Option.some.injEq] at hy
                  subst hy
                  simpa [List.getD_eq_getElem?_getD,he] using g3
          split at h
          · rename_i i hf
            split at h
            · rename_i k0 vv b0 he
              simp only[Option.some.injEq,Prod.mk.injEq] at h
              obtain ⟨rfl,rfl,rfl⟩:=h
              have hor:=c.obj id (by simp)
              rw[hH] at hor
              obtain ⟨x,hx,hv⟩:=go _ hf hor
              exact aL.here hx (hv _ he)
            · simp at h
          · rename_i hf
            simp only[Option.some.injEq,Prod.mk.injEq] at h
            obtain ⟨rfl,rfl,rfl⟩:=h
            have hor:=c.obj id (by simp)
            rw[hH] at hor
            obtain ⟨x,hx,hv⟩:=go _ hf hor
            exact aL.here hx hv
          · simp at h
        · simp at h
      · simp at h
end
section
variable {Z:Nat→Prop} {μ μ':Mu} {w w':World} {P:Program} {H:View} {n:Nat} {v:V} {av:aN} {rd:List Nat}
theorem gp {b:Nat} {a:Array MapEntry} {c:Nat} {o:Obj} (bw:∀ b,Z b→b < w.heap.size) (hz:¬ Z b) (hb:w.heap[b]?=some (.map a c)) :
    dJ Z Z μ μ w.heap (w.heap.setIfInBounds b o)∧cQ w.heap (w.heap.setIfInBounds b o):=by
  have hs:cQ w.heap (w.heap.setIfInBounds b o):=by
    intro k c' e f hk
    by_cases h:b=k
    · subst h; rw[hb] at hk; simp at hk
    · exact ⟨c',f,by simp[h,hk],rfl⟩
  exact ⟨⟨fun _ h=>h,fun k hk=>bT w.heap b _ k (bw k hk) (fun e=>hz (e ▸ hk)),fun _ _ h=>h,hs⟩,hs⟩
theorem qt {k0 k:V} {x0 x:Value} (h:sameKey k0 k=true) (h0:au Z μ w.heap k0 x0) (hk:au Z μ w.heap k x):(Instr.keyThatStays x0 x).run P w=.ok x w:=by
  unfold sameKey at h
  split at h
  · rename_i a b ha hb
    have e1:=lf h0 ha
    have e2:=lf hk hb
    subst e1 e2
    simp[Instr.keyThatStays,h]
  · simp at h
theorem cg.yz {id b o0 s:Nat} {es:List (V × V × Nat)} {clock i:Nat} {a:Array MapEntry} {k vv:V} {e':MapEntry} (hμ:μ id=some (b,o0,s)) (bw:∀ b,Z b→b < w.heap.size) (hz:¬ Z b) (ha:w.heap[b]?=some (.map a clock)) (hsz:a.size=es.length)
    (hes:∀ i,i < es.length→∃ y,a[i]?=some y∧au Z μ w.heap (es.getD i default).1 y.key∧au Z μ w.heap (es.getD i default).2.1 y.val∧y.born=(es.getD i default).2.2)
    (hi:i < es.length) (f:MapEntry→MapEntry) (hf:∀ y,a[i]?=some y→f y=e') (hk:au Z μ w.heap k e'.key) (hv:au Z μ w.heap vv e'.val) {bn:Nat} (hb:e'.born=bn) :
    cg Z μ (w.heap.setIfInBounds b (.map (a.modify i f) clock)) id (.map (es.set i (k,vv,bn)) clock):=by
  have hm:=(gp (μ:=μ) (o:=.map (a.modify i f) clock) bw hz ha).1
  intro b1 q1 s1 hx1
  rw[hμ] at hx1
  simp only[Option.some.injEq,Prod.mk.injEq] at hx1
  obtain ⟨rfl,rfl,rfl⟩:=hx1
  refine ⟨a.modify i f,cp (cM ha),by simp[hsz],fun j hj=>?_⟩
  have hj':j < es.length:=by simpa using hj
  obtain ⟨y,h1,h2,h3,h4⟩:=hes j hj'
  by_cases e:i=j
  · subst e
    have hg:(es.set i (k,vv,bn)).getD i default=(k,vv,bn):=by simp[List.getD_eq_getElem?_getD,hi]
    refine ⟨e',by rw[Array.getElem?_modify]; simp[h1,hf y h1],?_⟩
    rw[hg]
    exact ⟨hk.mono hm,hv.mono hm,hb⟩
  · have hg:(es.set i (k,vv,bn)).getD j default=es.getD j default:=by simp[List.getD_eq_getElem?_getD,e]
    refine ⟨y,by rw[Array.getElem?_modify]; simp[e,h1],?_⟩
    rw[hg]
    exact ⟨h2.mono hm,h3.mono hm,h4⟩
theorem cg.AH {id b o0 s:Nat} {es:List (V × V × Nat)} {clock:Nat} {a:Array MapEntry} {k vv:V} {kv vvv:Value} (hμ:μ id=some (b,o0,s)) (bw:∀ b,Z b→b < w.heap.size) (hz:¬ Z b) (ha:w.heap[b]?=some (.map a clock)) (hsz:a.size=es.length)
    (hes:∀ i,i < es.length→∃ y,a[i]?=some y∧au Z μ w.heap (es.getD i default).1 y.key∧au Z μ w.heap (es.getD i default).2.1 y.val∧y.born=(es.getD i default).2.2)
    (hk:au Z μ w.heap k kv) (hv:au Z μ w.heap vv vvv) :
    cg Z μ (w.heap.setIfInBounds b (.map (a.push { key:=kv,val:=vvv,born:=clock }) (clock+1))) id (.map (es ++ [(k,vv,clock)]) (clock+1)):=by
  have hm:=(gp (μ:=μ) (o:=.map (a.push { key:=kv,val:=vvv,born:=clock }) (clock+1)) bw hz ha).1
  intro b1 q1 s1 hx1
  rw[hμ] at hx1
  simp only[Option.some.injEq,Prod.mk.injEq] at hx1
  obtain ⟨rfl,rfl,rfl⟩:=hx1
  refine ⟨_,cp (cM ha),by simp[hsz],fun j hj=>?_⟩
  by_cases e:j < es.length
  · obtain ⟨y,h1,h2,h3,h4⟩:=hes j e
    have hg:(es ++ [(k,vv,clock)]).getD j default=es.getD j default:=by simp[List.getD_eq_getElem?_getD,List.getElem?_append_left e]
    refine ⟨y,by rw[Array.getElem?_push,if_neg (by omega)]; exact h1,?_⟩
    rw[hg]
    exact ⟨h2.mono hm,h3.mono hm,h4⟩
  · obtain rfl:j=es.length:=by simp at hj; omega
    have hg:(es ++ [(k,vv,clock)]).getD es.length default=(k,vv,clock):=by simp[List.getD_eq_getElem?_getD]
    refine ⟨_,by rw[Array.getElem?_push,if_pos hsz.symm],?_⟩
    rw[hg]
    exact ⟨hk.mono hm,hv.mono hm,rfl⟩
theorem mw {id b o0 s:Nat} {es:List (V × V × Nat)} {clock:Nat} (hor:cg Z μ w.heap id (.map es clock)) (hμ:μ id=some (b,o0,s)) :
    ∃ a:Array MapEntry,w.heap[b]?=some (.map a clock)∧a.size=es.length ∧
      ∀ i,i < es.length→∃ y,a[i]?=some y∧au Z μ w.heap (es.getD i default).1 y.key∧au Z μ w.heap (es.getD i default).2.1 y.val∧y.born=(es.getD i default).2.2:=hor b o0 s hμ
theorem gN {α:Type} {l:List α} {i:Nat} {x:α} (h:l[i]?=some x):i < l.length:=by
  rcases Nat.lt_or_ge i l.length with h' | h'
  · exact h'
  · simp[List.getElem?_eq_none h'] at h
theorem qe {t:TypeId} {m k vv:V} {mv kv vvv:Value} (h:dn P t m k vv H=some (v,av,rd)) (hm:au Z μ w.heap m mv) (hk:au Z μ w.heap k kv) (hv:au Z μ w.heap vv vvv) (c:Ctx Z μ w.heap H rd n av) :
    aL Z μ w n v av ((do Instr.mapUpdate t mv kv vvv; pure Next.skip:Sem Next).run P w):=by
  unfold dn at h
  split at h
  · rename_i kt et id hmt
    have hu:=jm hmt
    obtain ⟨b,o0,s,hμ,rfl⟩:=oV hm
    split at h
    · rename_i es clock hH
      split at h
      · rename_i i hf
        split at h
        · rename_i k0 v0 b0 he
          split at h
          · rename_i hsk
            simp only[Option.some.injEq,Prod.mk.injEq] at h
            obtain ⟨rfl,rfl,rfl⟩:=h
            have hor:=c.obj id (by simp)
            rw[hH] at hor
            obtain ⟨a,ha,hsz,hes⟩:=mw hor hμ
            have hz:=c.dX _ _ _ _ hμ
            have hi:=gN he
            obtain ⟨y,g1,g2,g3,g4⟩:=hes i hi
            simp only[List.getD_eq_getElem?_getD,he,Option.getD_some] at g2 g3 g4
            obtain ⟨h1,r',h2,h3⟩:=j1 (w:=w) hf hk hsz (fun i hi=>let ⟨y,h1,h2,_⟩:=hes i hi; ⟨y,h1,h2⟩)
            cases r' with
            | none=>exact h3.elim
            | some q =>
              obtain ⟨j,y'⟩:=q
              obtain ⟨rfl,hy⟩:=h3
              refine aL.skip (w':={ w with heap:=w.heap.setIfInBounds b (.map (a.modify i fun e=>{ e with key:=kv,val:=vvv }) clock) }) (μ':=μ) ?_ ⟨rfl,rfl,rfl,by simp⟩ ?_
              · simp only[Instr.mapUpdate,Sem.run_bind,aR hu,Result.andThen_ok,dp ha,h1,h2,g1,Option.map_some,Option.getD_some,qt hsk g2 hk,fo _ ha]
              · exact ⟨b,o0,s,hμ,rfl,bT _ _ _,(gp (μ:=μ) c.bw hz ha).2,cg.yz hμ c.bw hz ha hsz hes hi _ (e':={ y with key:=kv,val:=vvv }) (fun y2 hy2=>by rw[g1] at hy2; simp at hy2; subst hy2; rfl) hk hv g4⟩
          · simp at h
        · simp at h
      · rename_i hf
        simp only[Option.some.injEq,Prod.mk.injEq] at h
        obtain ⟨rfl,rfl,rfl⟩:=h
        have hor:=c.obj id (by simp)
        rw[hH] at hor
        obtain ⟨a,ha,hsz,hes⟩:=mw hor hμ
        have hz:=c.dX _ _ _ _ hμ
        obtain ⟨h1,r',h2,h3⟩:=j1 (w:=w) hf hk hsz (fun i hi=>let ⟨y,h1,h2,_⟩:=hes i hi; ⟨y,h1,h2⟩)
        cases r' with
        | some q=>exact h3.elim
        | none =>
          refine aL.skip (w':={ w with heap:=w.heap.setIfInBounds b (.map (a.push { key:=kv,val:=vvv,born:=clock }) (clock+1)) }) (μ':=μ) ?_ ⟨rfl,rfl,rfl,by simp⟩ ?_
          · simp only[Instr.mapUpdate,Sem.run_bind,aR hu,Result.andThen_ok,dp ha,h1,h2,fo _ ha]
          · exact ⟨b,o0,s,hμ,rfl,bT _ _ _,(gp (μ:=μ) c.bw hz ha).2,cg.AH hμ c.bw hz ha hsz hes hk hv⟩
      · simp at h
    · simp at h
  · simp at h
theorem GY {a b:V} {x y:Value} (h1:au Z μ w.heap a x) (h2:au Z μ w.heap b y):au Z μ w.heap (.bc [a,b]) (.tuple #[x,y]):=by
  refine .bc _ _ rfl (fun i hi=>?_)
  match i,hi with
  | 0,_=>exact h1
  | 1,_=>exact h2
theorem zC {t:TypeId} {m k:V} {mv kv:Value} (h:cK P t m k H=some (v,av,rd)) (hm:au Z μ w.heap m mv) (hk:au Z μ w.heap k kv) (c:Ctx Z μ w.heap H rd n av) :
    aL Z μ w n v av ((do pure (Next.value (← Instr.mapEntry t mv kv)):Sem Next).run P w):=by
  unfold cK at h
  split at h
  · rename_i kt et id hmt
    have hu:=jm hmt
    obtain ⟨b,o0,s,hμ,rfl⟩:=oV hm
    split at h
    · rename_i es clock hH
      split at h
      · rename_i i hf
        split at h
        · rename_i k0 v0 b0 he
          split at h
          · rename_i hsk
            simp only[Option.some.injEq,Prod.mk.injEq] at h
            obtain ⟨rfl,rfl,rfl⟩:=h
            have hor:=c.obj id (by simp)
            rw[hH] at hor
            obtain ⟨a,ha,hsz,hes⟩:=mw hor hμ
            have hz:=c.dX _ _ _ _ hμ
            have hi:=gN he
            obtain ⟨y,g1,g2,g3,g4⟩:=hes i hi
            simp only[List.getD_eq_getElem?_getD,he,Option.getD_some] at g2 g3 g4
            obtain ⟨h1,r',h2,h3⟩:=j1 (w:=w) hf hk hsz (fun i hi=>let ⟨y,h1,h2,_⟩:=hes i hi; ⟨y,h1,h2⟩)
            cases r' with
            | none=>exact h3.elim
            | some q =>
              obtain ⟨j,y'⟩:=q
              obtain ⟨rfl,hy⟩:=h3
              rw[g1] at hy
              simp only[Option.map_some,Option.some.injEq] at hy
              subst hy
              have hmm:=gp (μ:=μ) (o:=.map (a.modify i fun e=>{ e with key:=kv }) clock) c.bw hz ha
              refine aL.value (w':={ w with heap:=w.heap.setIfInBounds b (.map (a.modify i fun e=>{ e with key:=kv }) clock) }) (μ':=μ) (x:=.tuple #[y.val,goInt y.born]) ?_ ?_ ⟨rfl,rfl,rfl,by simp⟩ ?_
              · simp only[Instr.mapEntry,Sem.run_bind,aR hu,Result.andThen_ok,dp ha,h1,h2,g1,Option.map_some,Option.getD_some,qt hsk g2 hk,fo _ ha,Sem.run_pure]
              · refine au.mono hmm.1 (GY g3 ?_)
                rw[g4]; exact .val _ rfl
              · exact ⟨b,o0,s,hμ,rfl,bT _ _ _,hmm.2,cg.yz hμ c.bw hz ha hsz hes hi _ (e':={ y with key:=kv }) (fun y2 hy2=>by rw[g1] at hy2; simp at hy2; subst hy2; rfl) hk g3 g4⟩
          · simp at h
        · simp at h
      · rename_i hf
        split at h
        · rename_i z hz0
          obtain ⟨ti,zv,hti,hzv,rfl⟩:=qZ hz0
          simp only[Option.some.injEq,Prod.mk.injEq] at h
          obtain ⟨rfl,rfl,rfl⟩:=h
          have hor:=c.obj id (by simp)
          rw[hH] at hor
          obtain ⟨a,ha,hsz,hes⟩:=mw hor hμ
          have hz:=c.dX _ _ _ _ hμ
          obtain ⟨h1,r',h2,h3⟩:=j1 (w:=w) hf hk hsz (fun i hi=>let ⟨y,h1,h2,_⟩:=hes i hi; ⟨y,h1,h2⟩)
          cases r' with
          | some q=>exact h3.elim
          | none =>
            have hmm:=gp (μ:=μ) (o:=.map (a.push { key:=kv,val:=zv,born:=clock }) (clock+1)) c.bw hz ha
            refine aL.value (w':={ w with heap:=w.heap.setIfInBounds b (.map (a.push { key:=kv,val:=zv,born:=clock }) (clock+1)) }) (μ':=μ) (x:=.tuple #[zv,goInt clock]) ?_ ?_ ⟨rfl,rfl,rfl,by simp⟩ ?_
            · simp only[Instr.mapEntry,Sem.run_bind,aR hu,Result.andThen_ok,dp ha,h1,h2,gm hti hzv,fo _ ha,Sem.run_pure]
            · exact au.mono hmm.1 (GY (dQ _) (.val _ rfl))
            · exact ⟨b,o0,s,hμ,rfl,bT _ _ _,hmm.2,cg.AH hμ c.bw hz ha hsz hes hk (dQ _)⟩
        · simp at h
      · simp at h
    · simp at h
  · simp at h
theorem vz {t:TypeId} {m s vv:V} {mv sv vvv:Value} (h:g8 m s vv H=some (v,av,rd)) (hm:au Z μ w.heap m mv) (hs:au Z μ w.heap s sv) (hv:au Z μ w.heap vv vvv) (c:Ctx Z μ w.heap H rd n av) :
    aL Z μ w n v av ((do Instr.entryStore t mv sv vvv; pure Next.skip:Sem Next).run P w):=by
  unfold g8 at h
  split at h
  · rename_i id q hq
    obtain ⟨k,rfl⟩:=gj hq
    have hsv:=cE hs
    subst hsv
    obtain ⟨b,o0,s,hμ,rfl⟩:=oV hm
    split at h
    · rename_i es clock hH
      split at h
      · rename_i i hf
        split at h
        · rename_i k0 v0 b0 he
          simp only[Option.some.injEq,Prod.mk.injEq] at h
          obtain ⟨rfl,rfl,rfl⟩:=h
          have hor:=c.obj id (by simp)
          rw[hH] at hor
          obtain ⟨a,ha,hsz,hes⟩:=mw hor hμ
          have hz:=c.dX _ _ _ _ hμ
          have hi:=gN he
          obtain ⟨y,g1,g2,g3,g4⟩:=hes i hi
          simp only[List.getD_eq_getElem?_getD,he,Option.getD_some] at g2 g3 g4
          have hfind:a.findIdx? (fun e=>(e.born:Int) == (q:Int))=some i:=by
            rw[Array.findIdx?_eq_some_iff_getElem]
            rw[List.findIdx?_eq_some_iff_getElem] at hf
            obtain ⟨hi',hp,hlt⟩:=hf
            refine ⟨by omega,?_,?_⟩
            · have:a[i]=y:=by have:=g1; rw[Array.getElem?_eq_getElem (by omega)] at this; simpa using this
              rw[this,g4]
              have:es[i]=(k0,v0,b0):=by have:=he; rw[List.getElem?_eq_getElem hi] at this; simpa using this
              rw[this] at hp
              simp at hp ⊢; omega
            · intro j hj
              obtain ⟨y2,e1,_,_,e4⟩:=hes j (by omega)
              have h1:a[j]=y2:=by rw[Array.getElem?_eq_getElem (by omega)] at e1; simpa using e1
              have h2:=hlt j hj
              simp only[List.getD_eq_getElem?_getD,List.getElem?_eq_getElem (show j < es.length by omega),Option.getD_some] at e4
              rw[h1,e4]
              simp at h2 ⊢; omega
          refine aL.skip (w':={ w with heap:=w.heap.setIfInBounds b (.map (a.modify i fun e=>{ e with val:=vvv }) clock) }) (μ':=μ) ?_ ⟨rfl,rfl,rfl,by simp⟩ ?_
          · simp only[Instr.entryStore,Sem.run_bind,Result.andThen_ok,dp ha,asInt,asIntOf,Sem.run_pure,hfind,fo _ ha]
          · exact ⟨b,o0,s,hμ,rfl,bT _ _ _,(gp (μ:=μ) c.bw hz ha).2,cg.yz hμ c.bw hz ha hsz hes hi _ (e':={ y with val:=vvv }) (fun y2 hy2=>by rw[g1] at hy2; simp at hy2; subst hy2; rfl) g2 hv g4⟩
        · simp at h
      · simp at h
    · simp at h
  · simp at h
theorem Cq {t:TypeId} {m k:V} {mv kv:Value} {ats:Array TypeId} {ty:TypeId} (h:oF P t m k H=some (v,av,rd)) (ha0:ats[0]?=some t) (hm:au Z μ w.heap m mv) (hk:au Z μ w.heap k kv) (c:Ctx Z μ w.heap H rd n av) :
    aL Z μ w n v av ((do pure (Next.value (← Builtin.delete_ ats ty #[mv,kv])):Sem Next).run P w):=by
  unfold oF at h
  split at h
  · rename_i kt et id hmt
    have hu:=jm hmt
    obtain ⟨b,o0,s,hμ,rfl⟩:=oV hm
    split at h
    · rename_i es clock hH
      have start:cg Z μ w.heap id (.map es clock)→∀ r,kB P kt k es.isEmpty es=some r→∃ a:Array MapEntry,w.heap[b]?=some (.map a clock)∧a.size=es.length ∧
          (∀ i,i < es.length→∃ y,a[i]?=some y∧au Z μ w.heap (es.getD i default).1 y.key∧au Z μ w.heap (es.getD i default).2.1 y.val∧y.born=(es.getD i default).2.2) ∧
          (∀ i,r=some i→(Builtin.delete_ ats ty #[.map (some b),kv]).run P w=.ok (.tuple #[]) { w with heap:=w.heap.setIfInBounds b (.map (a.eraseIdxIfInBounds i) clock) }) ∧
          (r=none→(Builtin.delete_ ats ty #[.map (some b),kv]).run P w=.ok (.tuple #[]) { w with heap:=w.heap.setIfInBounds b (.map a clock) }):=by
        intro hor r hr
        obtain ⟨a,ha,hsz,hes⟩:=mw hor hμ
        obtain ⟨h1,r',h2,h3⟩:=j1 (w:=w) hr hk hsz (fun i hi=>let ⟨y,h1,h2,_⟩:=hes i hi; ⟨y,h1,h2⟩)
        have hemp:a.isEmpty=es.isEmpty:=by
          simp only[Array.isEmpty,hsz]; cases es <;> simp
        refine ⟨a,ha,hsz,hes,fun i hi=>?_,fun hi=>?_⟩
        · subst hi
          cases r' with
          | none=>exact h3.elim
          | some q =>
            obtain ⟨j,y'⟩:=q
            obtain ⟨rfl,hy⟩:=h3
            simp only[Builtin.delete_,List.getElem?_toArray,List.getElem?_cons_zero,List.getElem?_cons_succ,ha0,Sem.run_bind,aR hu,Result.andThen_ok,dp ha,hemp,h1,h2,fo _ ha,Sem.run_pure]
        · subst hi
          cases r' with
          | some q=>exact h3.elim
          | none =>
            simp only[Builtin.delete_,List.getElem?_toArray,List.getElem?_cons_zero,List.getElem?_cons_succ,ha0,Sem.run_bind,aR hu,Result.andThen_ok,dp ha,hemp,h1,h2,fo _ ha,Sem.run_pure]
      split at h
      · rename_i i hf
        simp only[Option.some.injEq,Prod.mk.injEq] at h
        obtain ⟨rfl,rfl,rfl⟩:=h
        have hor:=c.obj id (by simp)
        rw[hH] at hor
        obtain ⟨a,ha,hsz,hes,hrun,_⟩:=start hor _ hf
        have hz:=c.dX _ _ _ _ hμ
        have hmm:=gp (μ:=μ) (o:=.map (a.eraseIdxIfInBounds i) clock) c.bw hz ha
        refine aL.value (μ':=μ) (hrun i rfl) (.any _) ⟨rfl,rfl,rfl,by simp⟩ ⟨b,o0,s,hμ,rfl,bT _ _ _,hmm.2,?_⟩
        intro b1 q1 s1 hx1
        rw[hμ] at hx1
        simp only[Option.some.injEq,Prod.mk.injEq] at hx1
        obtain ⟨rfl,rfl,rfl⟩:=hx1
        have hel:∀ j,(a.eraseIdxIfInBounds i)[j]?=if j < i then a[j]? else a[j+1]?:=by
          intro j
          have:(a.eraseIdxIfInBounds i)[j]?=(a.toList.eraseIdx i)[j]?:=by rw[← Array.getElem?_toList,Array.toList_eraseIdxIfInBounds]
          rw[this,List.getElem?_eraseIdx]
          split <;> simp
        refine ⟨_,cp (cM ha),?_,fun j hj=>?_⟩
        · rw[← Array.length_toList,Array.toList_eraseIdxIfInBounds,List.length_eraseIdx,List.length_eraseIdx]
          simp[hsz]
        · have hj2:(es.eraseIdx i).getD j default=if j < i then es.getD j default else es.getD (j+1) default:=by
            simp only[List.getD_eq_getElem?_getD,List.getElem?_eraseIdx]; split <;> rfl
          rw[hel,hj2]
          have hl:(es.eraseIdx i).length≤es.length∧(i < es.length→(es.eraseIdx i).length=es.length - 1):=by
            rw[List.length_eraseIdx]; split <;> omega
          by_cases e:j < i
          · rw[if_pos e,if_pos e]
            obtain ⟨y,g1,g2,g3,g4⟩:=hes j (by omega)
            exact ⟨y,g1,g2.mono hmm.1,g3.mono hmm.1,g4⟩
          · rw[if_neg e,if_neg e]
            have:j+1 < es.length:=by
              rcases Nat.lt_or_ge i es.length with h9 | h9
              · have:=hl.2 h9; omega
              · have:=hl.1; omega
            obtain ⟨y,g1,g2,g3,g4⟩:=hes (j+1) this
            exact ⟨y,g1,g2.mono hmm.1,g3.mono hmm.1,g4⟩
      · rename_i hf
        simp only[Option.some.injEq,Prod.mk.injEq] at h
        obtain ⟨rfl,rfl,rfl⟩:=h
        have hor:=c.obj id (by simp)
        rw[hH] at hor
        obtain ⟨a,ha,hsz,hes,_,hrun⟩:=start hor _ hf
        have hsame:w.heap.setIfInBounds b (.map a clock)=w.heap:=by
          apply Array.ext_getElem?
          intro k
          simp only[Array.getElem?_setIfInBounds]
          split
          · rename_i hk
            subst hk
            rw[if_pos (cM ha)]; exact ha.symm
          · rfl
        have h5:=hrun rfl
        rw[hsame] at h5
        exact aL.here h5 (.any _)
      · simp at h
    · simp at h
  · simp at h
end
section
variable {Z:Nat→Prop} {μ μ':Mu} {w w':World} {P:Program} {H:View} {n:Nat} {v:V} {av:aN} {rd:List Nat}
theorem GM {t:TypeId} {x:V} {xv:Value} {ats:Array TypeId} {ty:TypeId} (h:nO P t x H=some (v,av,rd)) (ha0:ats[0]?=some t) (hx:au Z μ w.heap x xv) (c:Ctx Z μ w.heap H rd n av) :
    aL Z μ w n v av ((do pure (Next.value (← Builtin.len_ ats ty #[xv])):Sem Next).run P w):=by
  unfold nO at h
  split at h
  · rename_i e hu
    simp only[Option.map_eq_some_iff] at h
    obtain ⟨m,hm,h⟩:=h
    simp only[Prod.mk.injEq] at h
    obtain ⟨rfl,rfl,rfl⟩:=h
    obtain ⟨ad,cap,rfl,_⟩:=cb hx hm
    exact aL.here (x:=goInt m) (by simp[Builtin.len_,ha0,aR hu]) (.val _ rfl)
  · rename_i k e hu
    split at h
    · rename_i id
      obtain ⟨b,o0,s,hμ,rfl⟩:=oV hx
      split at h
      · rename_i es clock hH
        simp only[Option.some.injEq,Prod.mk.injEq] at h
        obtain ⟨rfl,rfl,rfl⟩:=h
        have hor:=c.obj id (by simp)
        rw[hH] at hor
        obtain ⟨a,ha,hsz,hes⟩:=mw hor hμ
        refine aL.here (x:=goInt es.length) ?_ (.val _ rfl)
        simp[Builtin.len_,ha0,aR hu,dp ha,hsz]
      · simp at h
    · simp only[Option.some.injEq,Prod.mk.injEq] at h
      obtain ⟨rfl,rfl,rfl⟩:=h
      have:=cE hx
      subst this
      exact aL.here (x:=goInt 0) (by simp[Builtin.len_,ha0,aR hu]) (.val _ rfl)
    · simp at h
  · rename_i hu
    split at h
    · rename_i s
      simp only[Option.some.injEq,Prod.mk.injEq] at h
      obtain ⟨rfl,rfl,rfl⟩:=h
      have:=cE hx
      subst this
      exact aL.here (x:=goInt s.size) (by simp[Builtin.len_,ha0,aR hu]) (.val _ rfl)
    · simp at h
  · rename_i m e hu
    simp only[Option.some.injEq,Prod.mk.injEq] at h
    obtain ⟨rfl,rfl,rfl⟩:=h
    exact aL.here (x:=goInt m) (by simp[Builtin.len_,ha0,aR hu]) (.val _ rfl)
  · simp at h
theorem sO {b:Nat} {s:ByteArray} {pos:Nat} (h:w.heap[b]?=some (.stringIter s pos)):(getObj b).run P w=.ok (.stringIter s pos) w:=by
  simp[getObj,Sem.run,h]
theorem z7 {b:Nat} {s:ByteArray} {pos:Nat} (o:Obj) (h:w.heap[b]?=some (.stringIter s pos)):(setObj b o).run P w=.ok () { w with heap:=w.heap.setIfInBounds b o }:=by
  simp[setObj,Sem.run,h]
theorem FG {x:V} {xv:Value} {ty:TypeId} (h:tW x H=some (v,av,rd)) (hx:au Z μ w.heap x xv) (c:Ctx Z μ w.heap H rd n av) :
    aL Z μ w n v av ((do pure (Next.value (← Instr.next xv true ty)):Sem Next).run P w):=by
  unfold tW at h
  split at h
  · rename_i id
    obtain ⟨b,o0,s,hμ,rfl⟩:=iG hx
    split at h
    · rename_i st pos hH
      split at h
      · rename_i hlt
        simp only[Option.some.injEq,Prod.mk.injEq] at h
        obtain ⟨rfl,rfl,rfl⟩:=h
        have hor:=c.obj id (by simp)
        rw[hH] at hor
        obtain ⟨rfl,hb⟩:=hor b o0 s hμ
        have hz:=c.dX _ _ _ _ hμ
        have hs:cQ w.heap (w.heap.setIfInBounds b (.stringIter st (pos+(Utf8.decode st pos).2))):=by
          intro k c' e f hk
          by_cases h:b=k
          · subst h; rw[hb] at hk; simp at hk
          · exact ⟨c',f,by simp[h,hk],rfl⟩
        refine aL.value (w':={ w with heap:=w.heap.setIfInBounds b (.stringIter st (pos+(Utf8.decode st pos).2)) }) (μ':=μ) (x:=.tuple #[.bool true,goInt pos,.int .i32 (Utf8.decode st pos).1]) ?_ ?_ ⟨rfl,rfl,rfl,by simp⟩ ?_
        · simp only[Nat.zero_mul,Nat.add_zero,Instr.next,Sem.run_bind,sO hb,Result.andThen_ok,hlt,if_true,z7 _ hb,Sem.run_pure]
        · refine .bc _ _ rfl (fun i hi=>?_)
          match i,hi with
          | 0,_=>exact .val _ rfl
          | 1,_=>exact .val _ rfl
          | 2,_=>exact .val _ rfl
        · refine ⟨b,0,s,hμ,rfl,bT _ _ _,hs,?_⟩
          intro b1 q1 s1 hx1
          rw[hμ] at hx1
          simp only[Option.some.injEq,Prod.mk.injEq] at hx1
          obtain ⟨rfl,rfl,rfl⟩:=hx1
          exact ⟨rfl,cp (cM hb)⟩
      · rename_i hlt
        simp only[Option.some.injEq,Prod.mk.injEq] at h
        obtain ⟨rfl,rfl,rfl⟩:=h
        have hor:=c.obj id (by simp)
        rw[hH] at hor
        obtain ⟨rfl,hb⟩:=hor b o0 s hμ
        refine aL.here (x:=.tuple #[.bool false]) ?_ (.bc _ _ rfl (fun i hi=>?_))
        · simp only[Nat.zero_mul,Nat.add_zero,Instr.next,Sem.run_bind,sO hb,Result.andThen_ok,hlt,if_false,Sem.run_pure]
        · match i,hi with
          | 0,_=>exact .val _ rfl
    · simp at h
  · simp at h
theorem xn:∀ (ns:List Int) (s:ByteArray),ns.foldl (fun r n=>r.push (UInt8.ofNat n.toNat)) s=⟨s.data ++ (ns.map fun n=>UInt8.ofNat n.toNat).toArray⟩
  | [],s=>by simp
  | n :: ns,s=>by
    simp only[List.foldl_cons,List.map_cons]
    rw[xn ns]
    congr 1
    apply Array.ext'
    simp[ByteArray.push]
theorem uW:∀ (xs:List (List V)) (l:List UInt8),kO xs=some l→∃ ns:List Int,xs=ns.map (fun n=>[V.val (.int .u8 n)])∧l=ns.map fun n=>UInt8.ofNat n.toNat
  | [],l,h=>by
    simp only[kO,Option.some.injEq] at h; subst h
    exact ⟨[],rfl,rfl⟩
  | x :: r,l,h=>by
    unfold kO at h
    split at h
    · simp at *
    · rename_i n r' heq
      simp only[List.cons.injEq] at heq
      obtain ⟨rfl,rfl⟩:=heq
      simp only[Option.map_eq_some_iff] at h
      obtain ⟨l',hl',rfl⟩:=h
      obtain ⟨ns,rfl,rfl⟩:=uW _ _ hl'
      exact ⟨n :: ns,rfl,rfl⟩
    · simp at h
theorem Gz {esz:Nat} {es:List (List V)} {c:Array Value} {e:TypeId} {f:Nat × Nat}
    (hn:μ n=none) (bw:∀ b,Z b→b < w.heap.size) (hf:f.1=f.2∨c.size≤f.1) (hs:es.length * esz≤c.size) (hlen:∀ i,i < es.length→(es.getD i []).length=esz)
    (h:∀ i j,i < es.length→j < esz→∃ x,c[i * esz+j]?=some x∧au Z μ w.heap ((es.getD i []).getD j .any) x) :
    cg Z (μ.set n (w.heap.size,0,esz)) (w.heap.push (.cells c e f)) n (.arr esz es):=by
  intro b o0 s hx
  simp only[Mu.set,if_true,Option.some.injEq,Prod.mk.injEq] at hx
  obtain ⟨rfl,rfl,rfl⟩:=hx
  have hm:dJ Z Z μ (μ.set n (w.heap.size,0,esz)) w.heap (w.heap.push (.cells c e f)):=by
    refine ⟨fun _ h=>h,fun b hb=>?_,fun id x hx=>?_,?_⟩
    · have:=bw b hb
      rw[Array.getElem?_push,if_neg (by omega)]
    · by_cases hid:id=n
      · subst hid; simp[hn] at hx
      · simp[Mu.set,hid,hx]
    · intro b c' e' f' hb
      have:=cM hb
      exact ⟨c',_,by rw[Array.getElem?_push,if_neg (by omega)]; exact hb,rfl⟩
  refine ⟨rfl,⟨c,e,f,by simp,hf,by simpa using hs⟩,hlen,fun i j hi hj=>?_⟩
  obtain ⟨x,hx,hv⟩:=h i j hi hj
  exact ⟨x,by simp[cellAt,hx],hv.mono hm⟩
theorem zX {b:Nat} {c:Array Value} {e:TypeId} {f:Nat × Nat} (h:w.heap[b]?=some (.cells c e f)) :
    ∃ f',(w.freeze ⟨b,c.size,none⟩ 1) = { w with heap:=w.heap.setIfInBounds b (.cells c e f') }∧((f.1=f.2∨c.size≤f.1)→(f'.1=f'.2∨c.size≤f'.1)):=by
  obtain ⟨lo,up⟩:=f
  refine ⟨if lo == up then (c.size,c.size+1) else (min lo c.size,max up (c.size+1)),?_,fun hf=>?_⟩
  · unfold World.freeze
    rw[if_neg (by omega)]
    congr 1
    apply Array.ext_getElem?
    intro i
    simp only[Array.getElem?_modify,Array.getElem?_setIfInBounds]
    by_cases hi:b=i
    · subst hi
      have hlt:=cM h
      have hb:w.heap[b]=.cells c e (lo,up):=by simpa [Array.getElem?_eq_getElem hlt] using h
      simp[hb,hlt]
    · simp[hi]
  · right
    simp only at hf
    split
    · exact Nat.le_refl _
    · rename_i hne
      simp only[beq_iff_eq] at hne
      simp only; omega
theorem zZ {s d:TypeId} {x:V} {xv:Value} (h:j9 P s d x H n=some (v,av,rd)) (hx:au Z μ w.heap x xv) (c:Ctx Z μ w.heap H rd n av) :
    aL Z μ w n v av ((do pure (Next.value (← convert s d xv)):Sem Next).run P w):=by
  unfold j9 at h
  split at h
  · rename_i e hs hd
    split at h
    · rename_i he
      split at h
      · rename_i xs rdx m hel hlv
        simp only[Option.map_eq_some_iff] at h
        obtain ⟨l,hl,h⟩:=h
        simp only[Prod.mk.injEq] at h
        obtain ⟨rfl,rfl,rfl⟩:=h
        obtain ⟨ns,rfl,rfl⟩:=uW _ _ hl
        obtain ⟨ad,cap,rfl,_⟩:=cb hx hlv
        have hlen:=(q6 (P:=P) (size:=1) hel hx).1
        simp only[Builtin.lenOf,Sem.run_pure,Result.ok.injEq,List.length_map,and_true] at hlen
        subst hlen
        obtain ⟨fl,hfl,_,hfirst⟩:=jZ (P:=P) (size:=1) hel hx c.obj (by simp)
        have hf:=hfirst _ (Nat.le_refl _)
        have hfll:fl.size=ns.length:=by have:=hfl.len; simpa using this
        rw[eL fl (by simpa using hfl.len)] at hf
        have hfeq:fl=(ns.map (Value.int .u8)).toArray:=by
          apply Array.ext
          · simp[hfll]
          · intro i h1 h2
            have hi:i < ns.length:=by omega
            have:=hfl.rel i 0 (by simpa using hi) (by omega)
            simp only[List.getD_eq_getElem?_getD,List.getElem?_map,List.getElem?_eq_getElem hi,Option.map_some,Option.getD_some,List.getElem?_cons_zero,Nat.mul_one,Nat.add_zero,Array.getD_eq_getD_getElem?,Array.getElem?_eq_getElem h1] at this
            have:=cE this
            simpa using this
        have hrun:(Conv.bytesToString (.slice ad ns.length cap)).run P w=.ok (.string ⟨(ns.map fun n=>UInt8.ofNat n.toNat).toArray⟩) w:=by
          cases ad with
          | none =>
            have:ns=[]:=by
              simp only[Builtin.firstCells,Sem.run_pure,Result.ok.injEq,and_true] at hf
              rw[← hf] at hfll
              simp at hfll
              exact List.length_eq_zero_iff.1 hfll.symm
            subst this
            rfl
          | some a =>
            have h9:(loadCells a ns.length).run P w=.ok (ns.map (Value.int .u8)).toArray w:=by
              rw[← hfeq]
              simpa [Builtin.firstCells] using hf
            rw[run_bytesToString w a ns.length cap ns h9,xn]
            congr 2
            simp
        refine aL.here (x:=.string ⟨(ns.map fun n=>UInt8.ofNat n.toNat).toArray⟩) ?_ (.val _ rfl)
        rw[run_convert_bytes_string w s d e ad ns.length cap hs he hd]
        exact hrun
      · simp at h
    · simp at h
  · rename_i e st hs hd
    split at h
    · rename_i he
      simp only[Option.some.injEq,Prod.mk.injEq] at h
      obtain ⟨rfl,rfl,rfl⟩:=h
      unfold dq
      have:=cE hx
      subst this
      have hcap:st.size≤grownCap w st.size 0 e:=by
        unfold grownCap Question.cut; exact Nat.le_add_right _ _
      have hbs:(bytesRow st (grownCap w st.size 0 e)).size=grownCap w st.size 0 e:=by
        simp only[bytesRow,Array.size_append,Array.size_map,Array.size_replicate]
        have:st.data.size=st.size:=rfl
        omega
      refine aL.value (μ':=μ.set n (w.heap.size,0,1)) (run_bytes_of_string w s d e st hs hd he) ?_ (fV _ _) ?_
      · rw[heap_alloc,cD]
        have:=au.sl (Z:=Z) (μ:=μ.set n (w.heap.size,0,1)) (hp:=w.heap.push (.cells (bytesRow st (grownCap w st.size 0 e)) e ((bytesRow st (grownCap w st.size 0 e)).size,(bytesRow st (grownCap w st.size 0 e)).size+1))) n 0 st.size 1 w.heap.size 0 (grownCap w st.size 0 e) _ e _ (by simp[Mu.set]) hcap (by simp; exact ⟨rfl,rfl⟩) (by rw[hbs]; simp)
        simpa using this
      · refine ⟨w.heap.size,0,1,Nat.le_refl _,by rw[heap_alloc,cD]; simp,rfl,by rw[heap_alloc,cD]; exact cq _ _,?_⟩
        rw[heap_alloc,cD]
        have hl:(st.data.toList.map fun b=>([V.val (Value.int .u8 b.toNat)]:List V)).length=st.size:=by rw[List.length_map,bsize]
        refine Gz c.new c.bw (.inr (Nat.le_refl _)) (by rw[hl,hbs]; omega) ?_ ?_
        · intro i hi
          have hi':i < st.data.toList.length:=by simpa using hi
          simp only[List.getD_eq_getElem?_getD,List.getElem?_map,List.getElem?_eq_getElem hi',Option.map_some,Option.getD_some,List.length_cons,List.length_nil]
        · intro i j hi hj
          obtain rfl:j=0:=by omega
          have hi':i < st.data.size:=by simpa using hi
          refine ⟨.int .u8 (st.data[i]).toNat,?_,?_⟩
          · simp only[bytesRow,Nat.mul_one,Nat.add_zero]
            rw[Array.getElem?_append_left (by simpa using hi'),Array.getElem?_map,Array.getElem?_eq_getElem hi']
            rfl
          · simp only[List.getD_eq_getElem?_getD,List.getElem?_map,Array.getElem?_toList,Array.getElem?_eq_getElem hi',Option.map_some,Option.getD_some,List.getElem?_cons_zero]
            exact .val _ rfl
    · simp at h
  · rename_i e1 e2 id off len esz hs hd
    split at h
    · rename_i hc
      obtain ⟨hsd,hl0⟩:=hc
      subst hsd
      rw[hs] at hd
      simp only[Option.some.injEq,TypeDesc.slice.injEq] at hd
      subst hd
      split at h
      · rename_i he
        split at h
        · rename_i z es hH
          simp only[Option.some.injEq,Prod.mk.injEq] at h
          obtain ⟨rfl,rfl,rfl⟩:=h
          have hor:=c.obj id (by simp)
          rw[hH] at hor
          cases hx with
          | lA=>exact absurd rfl hl0
          | sl _ _ _ _ b o0 cap cc e' f hm hle hbk hsp =>
            obtain ⟨rfl,⟨c2,e2,f2,hc2,hf2,hs2⟩,h3,h4⟩:=hor b o0 esz hm
            rw[hbk] at hc2
            simp only[Option.some.injEq,Obj.cells.injEq] at hc2
            obtain ⟨rfl,rfl,rfl⟩:=hc2
            obtain ⟨f',hfz,hff⟩:=zX hbk
            have hz:=c.dX _ _ _ _ hm
            have hbl:=cM hbk
            have hm':dJ Z Z μ μ w.heap (w.heap.setIfInBounds b (.cells cc e' f')):=by
              refine ⟨fun _ h=>h,fun k hk=>bT w.heap b _ k (c.bw k hk) (fun e=>hz (e ▸ hk)),fun _ _ h=>h,?_⟩
              intro k x e0 f0 hk
              by_cases hb:b=k
              · subst hb
                rw[hbk] at hk
                simp only[Option.some.injEq,Obj.cells.injEq] at hk
                obtain ⟨rfl,rfl,rfl⟩:=hk
                exact ⟨cc,f',cp hbl,rfl⟩
              · exact ⟨x,f0,by simp[hb,hk],rfl⟩
            refine aL.value (w':={ w with heap:=w.heap.setIfInBounds b (.cells cc e' f') }) (μ':=μ) (x:=.slice (some ⟨b,o0+off * esz,none⟩) len cap) ?_ ((au.sl id off len esz b o0 cap cc e' f hm hle hbk hsp).mono hm') ⟨rfl,rfl,rfl,by simp⟩ ?_
            · have hsh:w.shape? b=some (e',cc.size):=by simp[World.shape?,hbk]
              simp only[convert,Sem.run_bind,aR hs,Result.andThen_ok,aR he,beq_self_eq_true,markStringish,run_shape,hsh,run_freeze,hfz,Sem.run_pure]
            · refine ⟨b,o0,esz,hm,rfl,bT _ _ _,hm'.shape,?_⟩
              intro b1 q1 s1 hx1
              rw[hm] at hx1
              simp only[Option.some.injEq,Prod.mk.injEq] at hx1
              obtain ⟨rfl,rfl,rfl⟩:=hx1
              refine ⟨rfl,⟨cc,e',f',cp hbl,hff hf2,hs2⟩,h3,fun i j hi hj=>?_⟩
              obtain ⟨x,hx,hv⟩:=h4 i j hi hj
              refine ⟨x,?_,hv.mono hm'⟩
              simp only[cellAt,cp hbl]
              simpa only [cellAt,hbk] using hx
        · simp at h
      · simp at h
    · simp at h
  · simp at h
theorem l0 {o:Oper} {T:Env} {a:Act} (h:bY P o T=some (v,av,rd)) (hT:∀ x∈o.op.operands,au Z μ w.heap (ev T x) (a.eval x))
    (hc:∀ ρ:Operand→Value,(∀ x∈o.op.operands,ρ x=a.eval x)→execOp ρ o=execOp a.eval o):aL Z μ w n v av ((execOp a.eval o).run P w):=by
  unfold bY at h
  split at h
  · rename_i hall
    split at h
    · rename_i x hx
      split at h
      · rename_i hp
        simp only[Option.some.injEq,Prod.mk.injEq] at h
        obtain ⟨rfl,rfl,rfl⟩:=h
        rw[hc] at hx
        · exact ⟨.value x,w,μ,kr _ hx w,.inl ⟨x,rfl,.val _ hp⟩,cw.refl _,ei⟩
        · intro y hy
          rw[Array.all_eq_true_iff_forall_mem] at hall
          obtain ⟨z,hz⟩:=Option.isSome_iff_exists.1 (hall y hy)
          rw[hz]
          exact lf (hT y hy) hz
      · simp at h
    · simp at h
  · simp at h
theorem tI {T:Env} {a:Act} : ∀ (l:List (Nat × Operand)),(∀ x∈l.map (·.2),au Z μ w.heap (ev T x) (a.eval x))→vK Z μ w.heap (l.map fun (i,x)=>(i,ev T x)) (l.map fun (i,x)=>(i,a.eval x))
  | [],_=>trivial
  | (i,x) :: r,h=>⟨rfl,h x (by simp),tI r (fun y hy=>h y (by simp at hy ⊢; exact .inr hy))⟩
theorem Bt {T:Env} {a:Act} (xs:Array Operand) (h:∀ x∈xs,au Z μ w.heap (ev T x) (a.eval x)) :
    (xs.toList.map (ev T)).length=(xs.map a.eval).size∧∀ i,i < (xs.toList.map (ev T)).length→au Z μ w.heap ((xs.toList.map (ev T)).getD i .any) ((xs.map a.eval).getD i undef):=by
  refine ⟨by simp,fun i hi=>?_⟩
  have hi':i < xs.size:=by simpa using hi
  have:=h xs[i] (Array.getElem_mem _)
  simpa [List.getD_eq_getElem?_getD,Array.getD_eq_getD_getElem?,hi'] using this
theorem vN {T:Env} {a:Act} (o:Option Operand) (h:∀ x∈o.toArray,au Z μ w.heap (ev T x) (a.eval x)):qQ Z μ w.heap (o.map (ev T)) (o.map a.eval):=by
  cases o with
  | none=>trivial
  | some x=>exact h x (by simp)
theorem G6 {cs:List V} {x:Value} {t:TypeId} (h:gV cs n=some (v,av,rd)) (hr:cs.all aP=true→dm Z μ w.heap cs x.cells.toList) (c:Ctx Z μ w.heap H rd n av) :
    aL Z μ w n v av ((do pure (Next.value (← Instr.box t x)):Sem Next).run P w):=by
  have:=AQ (P:=P) (t:=t) h hr c
  simpa [Instr.box] using this
end
section
variable {Z:Nat→Prop} {μ μ':Mu} {w w':World} {P:Program} {H:View} {n:Nat} {v:V} {av:aN} {rd:List Nat}
theorem mz {ρ:Operand→Value} {o:Oper} {b:Builtin} {args:Array Operand} {ats:Array TypeId} (ho:o.op=.call { callee:=.builtin b,args:=args,argTypes:=ats }) :
    execOp ρ o=builtin b ats o.type (args.map fun | .const _=>true | _=>false) (args.map ρ):=by
  unfold execOp
  rw[ho]
  rfl
def ko (k:Nat) (x:Value) (b:Bool):Prop:=match k,x with
  | 0,.slice a _ _=>a.isNone=b
  | 1,.pointer a=>a.isNone=b
  | 2,.map a=>a.isNone=b
  | 3,.nilFunc=>b=true
  | 3,.func _ _ _=>b=false
  | _,_=>False
theorem Dp {k:Nat} {x:V} {xv:Value} {b:Bool} (h:isNil k x=some b) (hx:au Z μ w.heap x xv):ko k xv b:=by
  unfold isNil at h
  split at h
  · simp at h; subst h; cases hx with | emp k a h1 h2=>rw[h1 rfl]; rfl
  · simp at h; subst h
    cases hx with
    | emp k a h1 h2 =>
      cases a with
      | none=>exact absurd rfl (h2 rfl)
      | some a=>rfl
  · simp at h; subst h; cases hx; rfl
  · simp at h; subst h; cases hx; rfl
  · simp at h; subst h; cases hx; rfl
  · simp at h; subst h; cases hx; rfl
  · simp at h; subst h; cases hx; rfl
  · simp at h; subst h; cases hx; rfl
  · simp at h; subst h; cases hx; rfl
  · simp at h; subst h; cases hx; rfl
  · simp at h; subst h; cases hx; rfl
  · simp at h; subst h; cases hx; rfl
  · simp at h
theorem zY {t:TypeId} {k:Nat} (h:eS P t=some k):(k=0∧∃ e,P.underlying t=some (.slice e))∨(k=1∧∃ e,P.underlying t=some (.pointer e)) ∨
    (k=2∧∃ e f,P.underlying t=some (.map e f))∨(k=3∧∃ p q r,P.underlying t=some (.func p q r)):=by
  unfold eS at h
  split at h
  · rename_i e hu; simp at h; exact .inl ⟨h.symm,e,hu⟩
  · rename_i e hu; simp at h; exact .inr (.inl ⟨h.symm,e,hu⟩)
  · rename_i e f hu; simp at h; exact .inr (.inr (.inl ⟨h.symm,e,f,hu⟩))
  · rename_i p q r hu; simp at h; exact .inr (.inr (.inr ⟨h.symm,p,q,r,hu⟩))
  · simp at h
def kU (P:Program) (w:World) (t:TypeId) (x y:Operand) (xv yv:Value) (b:Bool):Prop :=
  (Op.equal t xv yv).run P w=.ok b w∧(∀ op,(eqGuard op t x y xv yv).run P w=.ok () w)∧(binOp .eql t xv yv=(do pure (.bool (← Op.equal t xv yv))))∧(binOp .neq t xv yv=(do pure (.bool (!(← Op.equal t xv yv)))))
theorem gR (t:TypeId) (x y:Value):Op.equal t x y=Op.equalIn (9999+1) t x y:=rfl
theorem DB {t e:TypeId} {x y:Operand} {a a':Option Addr} {l c l' c':Nat} {b:Bool} (hu:P.underlying t=some (.slice e)) (h:(a.isNone=true∧a'.isNone=b)∨(a.isNone=b∧a'.isNone=true)):kU P w t x y (.slice a l c) (.slice a' l' c') b:=by
  refine ⟨?_,fun op=>by cases op <;> rfl,rfl,rfl⟩
  rw[gR]
  generalize (9999:Nat)=depth
  simp only[Op.equalIn,Sem.run_bind,aR hu,Result.andThen_ok]
  cases a with
  | none=>cases a' <;> simp_all
  | some a=>cases a' <;> simp_all
theorem z1 {t e:TypeId} {x y:Operand} {a a':Option Addr} {b:Bool} (hu:P.underlying t=some (.pointer e)) (h:(a.isNone=true∧a'.isNone=b)∨(a.isNone=b∧a'.isNone=true)):kU P w t x y (.pointer a) (.pointer a') b:=by
  refine ⟨?_,fun op=>by cases op <;> rfl,rfl,rfl⟩
  rw[gR]
  generalize (9999:Nat)=depth
  simp only[Op.equalIn,Sem.run_bind,aR hu,Result.andThen_ok]
  cases a with
  | none=>cases a' <;> simp_all
  | some a=>cases a' <;> simp_all
theorem GC {t e f:TypeId} {x y:Operand} {a a':Option Nat} {b:Bool} (hu:P.underlying t=some (.map e f)) (h:(a.isNone=true∧a'.isNone=b)∨(a.isNone=b∧a'.isNone=true)):kU P w t x y (.map a) (.map a') b:=by
  refine ⟨?_,fun op=>by cases op <;> rfl,rfl,rfl⟩
  rw[gR]
  generalize (9999:Nat)=depth
  simp only[Op.equalIn,Sem.run_bind,aR hu,Result.andThen_ok]
  cases a with
  | none=>cases a' <;> simp_all
  | some a=>cases a' <;> simp_all
theorem FI {t:TypeId} {p q:Array TypeId} {r:Bool} {x y:Operand} (hu:P.underlying t=some (.func p q r)) :
    kU P w t x y .nilFunc .nilFunc true∧(∀ f m k,kU P w t x y .nilFunc (.func f m k) false)∧(∀ f m k,kU P w t x y (.func f m k) .nilFunc false):=by
  refine ⟨⟨?_,fun op=>by cases op <;> rfl,rfl,rfl⟩,fun f m k=>⟨?_,fun op=>by cases op <;> rfl,rfl,rfl⟩,fun f m k=>⟨?_,fun op=>by cases op <;> rfl,rfl,rfl⟩⟩
  all_goals
    rw[gR]
    generalize (9999:Nat)=depth
    simp only[Op.equalIn,Sem.run_bind,aR hu,Result.andThen_ok,Sem.run_pure]
theorem GH {t:TypeId} {x y:Operand} {xa ya:V} {xv yv:Value} {b:Bool} (h0:au Z μ w.heap xa xv) (h1:au Z μ w.heap ya yv) (h:v8 P t xa ya=some b):kU P w t x y xv yv b:=by
  have hcase:∃ k bx b',eS P t=some k∧isNil k xa=some bx∧isNil k ya=some b'∧((bx=true∧b'=b)∨(bx=b∧b'=true)):=by
    unfold v8 at h
    split at h
    · rename_i k hk
      split at h
      · rename_i b' h2 h3
        simp at h; subst h
        exact ⟨k,true,_,hk,h2,h3,.inl ⟨rfl,rfl⟩⟩
      · rename_i b' _ h2 h3
        simp at h; subst h
        exact ⟨k,_,true,hk,h2,h3,.inr ⟨rfl,rfl⟩⟩
      · simp at h
    · simp at h
  obtain ⟨k,bx,b',hk,hx,hy,hb⟩:=hcase
  have nx:=Dp hx h0
  have ny:=Dp hy h1
  clear h h0 h1 hx hy
  rcases zY hk with ⟨rfl,e,hu⟩ | ⟨rfl,e,hu⟩ | ⟨rfl,e,f,hu⟩ | ⟨rfl,p,q,r,hu⟩
  · cases xv <;> simp only[ko] at nx
    cases yv <;> simp only[ko] at ny
    exact DB hu (by rw[nx,ny]; exact hb)
  · cases xv <;> simp only[ko] at nx
    cases yv <;> simp only[ko] at ny
    exact z1 hu (by rw[nx,ny]; exact hb)
  · cases xv <;> simp only[ko] at nx
    cases yv <;> simp only[ko] at ny
    exact GC hu (by rw[nx,ny]; exact hb)
  · obtain ⟨g1,g2,g3⟩:=FI (P:=P) (w:=w) (x:=x) (y:=y) hu
    cases xv <;> simp only[ko] at nx
    · cases yv <;> simp only[ko] at ny
      · subst nx ny
        simp at hb
      · subst nx ny
        have:b=false:=by simpa using hb.symm
        subst this; exact g3 _ _ _
    · cases yv <;> simp only[ko] at ny
      · subst nx ny
        have:b=false:=by simpa using hb.symm
        subst this; exact g2 _ _ _
      · subst nx ny
        have:b=true:=by simpa using hb.symm
        subst this; exact g1
theorem Hh {o:Oper} {T:Env} {a:Act} (h:bm P o T H n=some (v,av,rd)) (hT:∀ x∈o.op.operands,au Z μ w.heap (ev T x) (a.eval x)) (c:Ctx Z μ w.heap H rd n av) :
    aL Z μ w n v av ((execOp a.eval o).run P w):=by
  unfold bm at h
  split at h
  ·
    rename_i x ho
    simp only[Option.some.injEq,Prod.mk.injEq] at h
    obtain ⟨rfl,rfl,rfl⟩:=h
    rw[ho] at hT
    refine ⟨.value (a.eval x),w,μ,by simp[execOp,ho],.inl ⟨_,rfl,hT x (by simp[Op.operands])⟩,cw.refl _,ei⟩
  · rename_i x ho
    simp only[Option.some.injEq,Prod.mk.injEq] at h
    obtain ⟨rfl,rfl,rfl⟩:=h
    rw[ho] at hT
    refine ⟨.value (a.eval x),w,μ,by simp[execOp,ho],.inl ⟨_,rfl,hT x (by simp[Op.operands])⟩,cw.refl _,ei⟩
  ·
    rename_i cc x y ho
    rw[ho] at hT
    split at h
    · rename_i t ht
      simp only[Option.some.injEq,Prod.mk.injEq] at h
      obtain ⟨rfl,rfl,rfl⟩:=h
      have h1:=hT cc (by simp[Op.operands])
      rw[ht] at h1
      have h1:=cE h1
      refine ⟨.value (if t then a.eval x else a.eval y),w,μ,by simp[execOp,ho,h1,asBool],.inl ⟨_,rfl,?_⟩,cw.refl _,ei⟩
      cases t with
      | true=>exact hT x (by simp[Op.operands])
      | false=>exact hT y (by simp[Op.operands])
    · simp at h
  ·
    rename_i e ho
    split at h
    · rename_i z hz
      have hinf:∃ i zv,P.info? e=some i∧i.zero=some zv∧z=(dD zv).cells:=by
        cases hi:P.info? e with
        | none=>simp[zeroCells,hi] at hz
        | some i =>
          obtain ⟨zv,h1,h2⟩:=fq hi hz
          exact ⟨i,zv,rfl,h1,h2⟩
      obtain ⟨i,zv,hi,hzv,rfl⟩:=hinf
      have:=AQ (P:=P) (x:=zv) (t:=e) h (fun hok=>dP (dQ _) hok) c
      have e1:(execOp a.eval o).run P w=((do pure (Next.value (.pointer (some (← newVar e zv)))):Sem Next).run P w):=by
        unfold execOp
        rw[ho]
        simp[Instr.alloc,gm hi hzv]
      rw[e1]; exact this
    · simp at h
  ·
    rename_i e x ho
    rw[ho] at hT
    have:=G6 (P:=P) (t:=e) h (fun hok=>dP (hT x (by simp[Op.operands])) hok) c
    have e1:execOp a.eval o=(do pure (Next.value (← Instr.box e (a.eval x)))):=by
      unfold execOp; rw[ho]
    rw[e1]; exact this
  ·
    rename_i t parts ho
    rw[ho] at hT
    have e1:execOp a.eval o=(do pure (Next.value (← Instr.build t (parts.map fun (i,x)=>(i,a.eval x))))):=by
      unfold execOp; rw[ho]
    rw[e1]
    refine Eu h ?_
    rw[Array.toList_map]
    exact tI _ (fun x hx=>hT x (by simpa [Op.operands] using hx))
  ·
    rename_i t len parts ho
    rw[ho] at hT
    have e1:execOp a.eval o=(do pure (Next.value (← Instr.buildSlice t len (parts.map fun (i,x)=>(i,a.eval x))))):=by
      unfold execOp; rw[ho]
    rw[e1]
    refine wh h ?_ c
    rw[Array.toList_map]
    exact tI _ (fun x hx=>hT x (by simpa [Op.operands] using hx))
  ·
    rename_i t x ho
    rw[ho] at hT
    have e1:execOp a.eval o=(do pure (Next.value (← Instr.loadAt t (a.eval x)))):=by
      unfold execOp; rw[ho]
    rw[e1]
    exact EN h (hT x (by simp[Op.operands])) c
  ·
    rename_i t x y ho
    rw[ho] at hT
    have e1:execOp a.eval o=(do Instr.storeAt t (a.eval x) (a.eval y); pure Next.skip):=by
      unfold execOp; rw[ho]
    rw[e1]
    exact C1 h (hT x (by simp[Op.operands])) (hT y (by simp[Op.operands])) c
  ·
    rename_i x ho
    rw[ho] at hT
    have h1:=hT x (by simp[Op.operands])
    split at h
    · rename_i id i j hx
      simp only[Option.some.injEq,Prod.mk.injEq] at h
      obtain ⟨rfl,rfl,rfl⟩:=h
      rw[hx] at h1
      have h2:=h1
      obtain ⟨b,o0,s,hm,he⟩:=iG h1
      exact ⟨.value (a.eval x),w,μ,by simp[execOp,ho,he],.inl ⟨_,rfl,h2⟩,cw.refl _,ei⟩
    · rename_i e j hx
      simp only[Option.some.injEq,Prod.mk.injEq] at h
      obtain ⟨rfl,rfl,rfl⟩:=h
      rw[hx] at h1
      have h2:=h1
      obtain ⟨b,off,hz,hrow,he⟩:=mb h1
      exact ⟨.value (a.eval x),w,μ,by simp[execOp,ho,he],.inl ⟨_,rfl,h2⟩,cw.refl _,ei⟩
    · rename_i f p q hx
      simp only[Option.some.injEq,Prod.mk.injEq] at h
      obtain ⟨rfl,rfl,rfl⟩:=h
      rw[hx] at h1
      have h2:=h1
      generalize he:a.eval x=y at h1 h2
      cases h1 with
      | fn _ _ _ aas bs _ _ _ _=>exact ⟨.value (.func (.func f) aas bs),w,μ,by simp[execOp,ho,he],.inl ⟨_,rfl,h2⟩,cw.refl _,ei⟩
    · simp at h
  ·
    rename_i t x f ho
    rw[ho] at hT
    have e1:execOp a.eval o=(do pure (Next.value (← Instr.fieldAt t (a.eval x) f))):=by
      unfold execOp; rw[ho]
    rw[e1]
    exact xS h (hT x (by simp[Op.operands]))
  ·
    rename_i t x f ho
    rw[ho] at hT
    have e1:execOp a.eval o=(do pure (Next.value (← Instr.field t (a.eval x) f))):=by
      unfold execOp; rw[ho]
    rw[e1]
    exact Dz h (hT x (by simp[Op.operands]))
  ·
    rename_i t x i ho
    rw[ho] at hT
    have e1:execOp a.eval o=(do pure (Next.value (← Instr.indexAt t (a.eval x) (a.eval i)))):=by
      unfold execOp; rw[ho]
    rw[e1]
    exact xL h (hT x (by simp[Op.operands])) (hT i (by simp[Op.operands]))
  ·
    rename_i t x lo hi mx ho
    split at h
    · refine l0 h hT (fun ρ hρ=>?_)
      rw[ho] at hρ
      have h0:=hρ x (by simp[Op.operands])
      have h1:lo.map ρ=lo.map a.eval:=by cases lo with | none=>rfl | some y=>simp[hρ y (by simp[Op.operands])]
      have h2:hi.map ρ=hi.map a.eval:=by cases hi with | none=>rfl | some y=>simp[hρ y (by simp[Op.operands])]
      have h3:mx.map ρ=mx.map a.eval:=by cases mx with | none=>rfl | some y=>simp[hρ y (by simp[Op.operands])]
      unfold execOp; rw[ho]; simp only[h0,h1,h2,h3]
    · rw[ho] at hT
      have e1:execOp a.eval o=(do pure (Next.value (← Instr.sliceAt t (a.eval x) (lo.map a.eval) (hi.map a.eval) (mx.map a.eval)))):=by
        unfold execOp; rw[ho]
      rw[e1]
      exact C3 h (hT x (by simp[Op.operands])) (vN lo (fun y hy=>hT y (by simp[Op.operands] at hy ⊢; simp[hy]))) (vN hi (fun y hy=>hT y (by simp[Op.operands] at hy ⊢; simp[hy]))) (vN mx (fun y hy=>hT y (by simp[Op.operands] at hy ⊢; simp[hy])))
  ·
    rename_i t l cc ho
    rw[ho] at hT
    have e1:execOp a.eval o=(do pure (Next.value (← Instr.makeSlice t (a.eval l) (a.eval cc)))):=by
      unfold execOp; rw[ho]
    rw[e1]
    exact xQ h (hT l (by simp[Op.operands])) (hT cc (by simp[Op.operands])) c
  ·
    rename_i t r ho
    split at h
    · simp only[Option.some.injEq,Prod.mk.injEq] at h
      obtain ⟨rfl,rfl,rfl⟩:=h
      refine ⟨.value (.map (some w.heap.size)),w.alloc (.map #[] 0),μ.set n (w.heap.size,0,0),by simp[execOp,ho,Instr.makeMap],.inl ⟨_,rfl,.mp n w.heap.size 0 0 (by simp[Mu.set])⟩,eu _ _,?_⟩
      refine ⟨w.heap.size,0,0,Nat.le_refl _,by rw[heap_alloc]; simp,rfl,by rw[heap_alloc]; exact cq _ _,?_⟩
      intro b o0 s hx
      simp only[Mu.set,if_true,Option.some.injEq,Prod.mk.injEq] at hx
      obtain ⟨rfl,rfl,rfl⟩:=hx
      exact ⟨#[],by rw[heap_alloc]; simp,rfl,fun i hi=>by simp at hi⟩
    · simp at h
  ·
    rename_i f first cap ho
    simp only[Option.some.injEq,Prod.mk.injEq] at h
    obtain ⟨rfl,rfl,rfl⟩:=h
    rw[ho] at hT
    have h1:=Bt (T:=T) (a:=a) first (fun x hx=>hT x (by simp[Op.operands,hx]))
    have h2:=Bt (T:=T) (a:=a) cap (fun x hx=>hT x (by simp[Op.operands,hx]))
    exact ⟨.value (.func (.func f) (first.map a.eval) (cap.map a.eval)),w,μ,by simp[execOp,ho,Instr.makeFunc],.inl ⟨_,rfl,.fn f _ _ _ _ h1.1 h2.1 h1.2 h2.2⟩,cw.refl _,ei⟩
  ·
    rename_i t m k ok ho
    rw[ho] at hT
    have e1:execOp a.eval o=(do pure (Next.value (← Instr.lookup t (a.eval m) (a.eval k) ok))):=by
      unfold execOp; rw[ho]
    rw[e1]
    exact BS h (hT m (by simp[Op.operands])) (hT k (by simp[Op.operands])) c
  · rename_i t m k x ho
    rw[ho] at hT
    have e1:execOp a.eval o=(do Instr.mapUpdate t (a.eval m) (a.eval k) (a.eval x); pure Next.skip):=by
      unfold execOp; rw[ho]
    rw[e1]
    exact qe h (hT m (by simp[Op.operands])) (hT k (by simp[Op.operands])) (hT x (by simp[Op.operands])) c
  · rename_i t m k x ho
    rw[ho] at hT
    have e1:execOp a.eval o=(do Instr.mapUpdate t (a.eval m) (a.eval k) (a.eval x); pure Next.skip):=by
      unfold execOp; rw[ho]
    rw[e1]
    exact qe h (hT m (by simp[Op.operands])) (hT k (by simp[Op.operands])) (hT x (by simp[Op.operands])) c
  · rename_i t m k ho
    rw[ho] at hT
    have e1:execOp a.eval o=(do pure (Next.value (← Instr.mapEntry t (a.eval m) (a.eval k)))):=by
      unfold execOp; rw[ho]
    rw[e1]
    exact zC h (hT m (by simp[Op.operands])) (hT k (by simp[Op.operands])) c
  · rename_i t m s x ho
    rw[ho] at hT
    have e1:execOp a.eval o=(do Instr.entryStore t (a.eval m) (a.eval s) (a.eval x); pure Next.skip):=by
      unfold execOp; rw[ho]
    rw[e1]
    exact vz h (hT m (by simp[Op.operands])) (hT s (by simp[Op.operands])) (hT x (by simp[Op.operands])) c
  ·
    rename_i t i ho
    rw[ho] at hT
    have h1:=hT t (by simp[Op.operands])
    split at h
    · rename_i vs hvs
      split at h
      · rename_i hi
        simp only[Option.some.injEq,Prod.mk.injEq] at h
        obtain ⟨rfl,rfl,rfl⟩:=h
        rw[hvs] at h1
        generalize he:a.eval t=y at h1
        cases h1 with
        | bc _ aas hl hr =>
          have h3:=hr i hi
          have hlt:i < aas.size:=hl ▸ hi
          simp only[Array.getD_eq_getD_getElem?,Array.getElem?_eq_getElem hlt,Option.getD_some] at h3
          exact ⟨.value aas[i],w,μ,by simp[execOp,ho,he,Instr.extract,hlt],.inl ⟨_,rfl,h3⟩,cw.refl _,ei⟩
      · simp at h
    · simp at h
  ·
    rename_i t x ho
    rw[ho] at hT
    have h1:=hT x (by simp[Op.operands])
    split at h
    · rename_i s hs
      split at h
      · rename_i hstr
        simp only[Option.some.injEq,Prod.mk.injEq] at h
        obtain ⟨rfl,rfl,rfl⟩:=h
        rw[hs] at h1
        have h1:=cE h1
        have hu:P.underlying t=some .string:=by
          rw[ho] at hstr
          unfold isStr at hstr
          simp only at hstr
          split at hstr <;> simp_all
        refine ⟨.value (.pointer (some ⟨w.heap.size,0,none⟩)),w.alloc (.stringIter s 0),μ.set n (w.heap.size,0,0),by simp[execOp,ho,h1,Instr.range,aR hu],.inl ⟨_,rfl,?_⟩,eu _ _,?_⟩
        · have:=au.ptr (Z:=Z) (μ:=μ.set n (w.heap.size,0,0)) (hp:=(w.alloc (.stringIter s 0)).heap) n 0 0 w.heap.size 0 0 (by simp[Mu.set])
          simpa using this
        · refine ⟨w.heap.size,0,0,Nat.le_refl _,by rw[heap_alloc]; simp,rfl,by rw[heap_alloc]; exact cq _ _,?_⟩
          intro b o0 s' hx
          simp only[Mu.set,if_true,Option.some.injEq,Prod.mk.injEq] at hx
          obtain ⟨rfl,rfl,rfl⟩:=hx
          exact ⟨rfl,by rw[heap_alloc]; simp⟩
      · simp at h
    · simp at h
  ·
    rename_i it ho
    rw[ho] at hT
    have e1:execOp a.eval o=(do pure (Next.value (← Instr.next (a.eval it) true o.type))):=by
      unfold execOp; rw[ho]
    rw[e1]
    exact FG h (hT it (by simp[Op.operands])) c
  ·
    rename_i s d x ho
    split at h
    · rw[ho] at hT
      have e1:execOp a.eval o=(do pure (Next.value (← convert s d (a.eval x)))):=by
        unfold execOp; rw[ho]
      rw[e1]
      exact zZ h (hT x (by simp[Op.operands])) c
    · refine l0 h hT (fun ρ hρ=>?_)
      rw[ho] at hρ
      have h0:=hρ x (by simp[Op.operands])
      unfold execOp; rw[ho]; simp only[h0]
  ·
    rename_i b args ats ho
    have hcall:execOp a.eval o=builtin b ats o.type (args.map fun | .const _=>true | _=>false) (args.map a.eval):=mz ho
    have hpure:bY P o T=some (v,av,rd)→aL Z μ w n v av ((execOp a.eval o).run P w):=by
      intro h
      refine l0 h hT (fun ρ hρ=>?_)
      rw[ho] at hρ
      rw[mz ho,mz ho]
      have:args.map ρ=args.map a.eval:=by
        apply Array.map_congr_left
        intro x hx
        exact hρ x (by simp[Op.operands,Call.operands,hx])
      rw[this]
    have hTT:∀ x∈args.toList,au Z μ w.heap (ev T x) (a.eval x):=fun x hx=>hT x (by rw[ho]; simp[Op.operands,Call.operands]; simpa using hx)
    have h0:∀ {k:Nat},k < ats.size→ats[k]?=some (ats.getD k 0):=by
      intro k hk
      simp[Array.getD_eq_getD_getElem?,hk]
    have harg1:∀ x,args.toList=[x]→args.map a.eval = #[a.eval x]:=by
      intro x hx
      apply Array.ext'
      simp[hx]
    have harg2:∀ x y,args.toList=[x,y]→args.map a.eval = #[a.eval x,a.eval y]:=by
      intro x y hx
      apply Array.ext'
      simp[hx]
    split at h
    · rename_i x hargs
      split at h
      · rename_i hsz
        rw[hcall,harg1 x hargs]
        exact GM h (h0 hsz) (hTT x (by rw[hargs]; simp)) c
      · simp at h
    · rename_i x y hargs
      split at h
      · rename_i hsz
        rw[hcall,harg2 x y hargs]
        exact Cm h (h0 (by omega)) (h0 (by omega)) hsz.2 (hTT x (by rw[hargs]; simp)) (hTT y (by rw[hargs]; simp)) c
      · split at h
        · rename_i hsz
          rw[hcall,harg2 x y hargs]
          exact EU h (h0 (by omega)) (h0 (by omega)) hsz.2 (hTT x (by rw[hargs]; simp)) (hTT y (by rw[hargs]; simp)) c
        · simp at h
    · rename_i x hargs
      split at h
      · rename_i hsz
        rw[hcall,harg1 x hargs]
        exact Gy h (h0 hsz) (hTT x (by rw[hargs]; simp)) c
      · simp at h
    · rename_i x y hargs
      split at h
      · rename_i hsz
        rw[hcall,harg2 x y hargs]
        exact Fv h (h0 hsz) (hTT x (by rw[hargs]; simp)) (hTT y (by rw[hargs]; simp)) c
      · simp at h
    · rename_i x y hargs
      split at h
      · rename_i hsz
        rw[hcall,harg2 x y hargs]
        exact Cq h (h0 hsz) (hTT x (by rw[hargs]; simp)) (hTT y (by rw[hargs]; simp)) c
      · simp at h
    · exact hpure h
    · exact hpure h
    · exact hpure h
    · exact hpure h
    · exact hpure h
    · simp at h
  · rename_i op t x y yt ho
    split at h
    · rw[ho] at hT
      have h0:=hT x (by simp[Op.operands])
      have h1:=hT y (by simp[Op.operands])
      have go:∀ b,v8 P t (ev T x) (ev T y)=some b→kU P w t x y (a.eval x) (a.eval y) b:=fun b hb=>GH h0 h1 hb
      split at h
      · rename_i b hb
        simp only[Option.some.injEq,Prod.mk.injEq] at h
        obtain ⟨rfl,rfl,rfl⟩:=h
        obtain ⟨g1,g2,g3,_⟩:=go _ hb
        refine ⟨.value (.bool b),w,μ,?_,.inl ⟨_,rfl,.val _ rfl⟩,cw.refl _,ei⟩
        unfold execOp; rw[ho]
        simp only[Sem.run_bind,g2,Result.andThen_ok,g3,g1,Sem.run_pure]
      · rename_i b hb
        simp only[Option.some.injEq,Prod.mk.injEq] at h
        obtain ⟨rfl,rfl,rfl⟩:=h
        obtain ⟨g1,g2,_,g4⟩:=go _ hb
        refine ⟨.value (.bool (!b)),w,μ,?_,.inl ⟨_,rfl,.val _ rfl⟩,cw.refl _,ei⟩
        unfold execOp; rw[ho]
        simp only[Sem.run_bind,g2,Result.andThen_ok,g4,g1,Sem.run_pure]
      · simp at h
    · refine l0 h hT (fun ρ hρ=>?_)
      rw[ho] at hρ
      have h0:=hρ x (by simp[Op.operands])
      have h1:=hρ y (by simp[Op.operands])
      unfold execOp; rw[ho]; simp only[h0,h1]
  · rename_i op t x ho
    refine l0 h hT (fun ρ hρ=>?_)
    rw[ho] at hρ
    have h0:=hρ x (by simp[Op.operands])
    unfold execOp; rw[ho]; simp only[h0]
  · rename_i t x y ho
    refine l0 h hT (fun ρ hρ=>?_)
    rw[ho] at hρ
    have h0:=hρ x (by simp[Op.operands])
    have h1:=hρ y (by simp[Op.operands])
    unfold execOp; rw[ho]; simp only[h0,h1]
  · simp at h
end
end Gv
