/-
  Part 2 of the proof: what the machine does and what the functions answer.
  Conditions: those that each lemma names.
-/
import Derived.Laws.BytesString
import Derived.Laws.IdiomStrings
import Derived.Test.YtihmlbdfcmfbdaaGreatSGzB1A
set_option linter.unusedSimpArgs false
set_option linter.unusedVariables false
set_option maxRecDepth 100000
namespace Gv
open Go
section
variable {Z:Nat→Prop} {μ μ':Mu} {w w':World} {P:Program} {H:View} {n:Nat} {v:V} {eff:bf} {rd:List Nat}
theorem Jq {t1:TypeId} (hno:om P t1=true):∃ d,P.underlying t1=some d∧∀ k,d≠.int k:=by
 unfold om at hno
 cases hu:P.underlying t1 with
 | none=>simp[hu] at hno
 | some d=>refine ⟨d,rfl,fun k e=>?_⟩; subst e; simp[hu] at hno
theorem Ac {t0 t1 e:TypeId} {ti:TypeInfo} {ats:Array TypeId} {ty:TypeId} {base:Option Addr} {sLen sCap m:Nat} {xv:Value} {new:Array Value}
  (ha0:ats[0]?=some t0) (ha1:ats[1]?=some t1) (hno:om P t1=true) (hund:P.underlying t0=some (.slice e)) (hti:P.info? e=some ti)
  (hl:(Builtin.lenOf xv).run P w=.ok m w) (hle:sLen+m≤sCap) (hn:(Builtin.firstCells ti.size m xv).run P w=.ok new w)
  (hst:(match base with | some a=>storeCells (a.add (sLen * ti.size)) new.toList | none=>pure ()).run P w=.ok () w') :
  (Builtin.append_ ats ty #[.slice base sLen sCap,xv]).run P w=.ok (.slice base (sLen+m) sCap) w':=by
 obtain ⟨d,hd,hdi⟩:=Jq hno
 cases d with
 | int k=>exact absurd rfl (hdi k)
 | _ =>
 simp only[Builtin.append_,RZ,RA,RS,ha0,ha1,Sem.run_bind,ba hund,Result.andThen_ok,c7 hti,ba hd,Sem.run_pure,Ru,if_false,hl,Bool.not_false,if_true]
 rw[Ra hle]
 simp only[Sem.run_bind,hn,Result.andThen_ok,Sem.run_pure]
 cases base with
 | none=>simp only[Sem.run_pure,Result.ok.injEq,true_and] at hst; subst hst; rfl
 | some a=>simp only[Sem.run_bind,hst,Result.andThen_ok,Sem.run_pure]
theorem Ax (v:Value):(eE v).cells.length=v.cells.size:=by
 have h1:∀ v,(mI v).cells.length=1:=by
  intro v
  have:∀ x:V,(∀ cs,x≠.agg cs)→x.cells.length=1:=by
   intro x hx
   cases x <;> first | rfl | (rename_i cs; exact absurd rfl (hx cs))
  apply this
  intro cs
  cases v with
  | slice a len cap =>
   cases a with
   | none =>
    cases len with
    | zero=>cases cap <;> simp[mI]
    | succ l=>simp[mI]
   | some a=>simp[mI]
  | _=>simp only[mI]; split <;> simp
 cases v with
 | agg cs=>simp[eE,V.cells,Value.cells]
 | func fn a b =>
  cases fn with
  | func f=>simp only[eE]; split <;> simp[V.cells,Value.cells]
  | _=>simp only[eE]; rw[h1]; rfl
 | _=>simp only[eE]; rw[h1]; rfl
theorem Lw {e:TypeId} {ti:TypeInfo} (hti:P.info? e=some ti) (hz:(zeroCells P e).map List.length=some ti.size):∃ zc:Array Value,zc.size=ti.size∧∀ w',∃ zv,(zeroValue e).run P w'=.ok zv w'∧zv.cells=zc:=by
 cases hzz:zeroCells P e with
 | none=>simp[hzz] at hz
 | some z =>
  obtain ⟨zv,hzv,rfl⟩:=ie hti hzz
  refine ⟨zv.cells,?_,fun w'=>⟨zv,iZ hti hzv w',rfl⟩⟩
  rw[hzz] at hz
  simp at hz
  rw[← hz,Ax]
theorem ej (w:World):w.drew.heap=w.heap:=rfl
theorem jG (w:World) (o:Obj):dT w (w.drew.alloc o):=⟨rfl,rfl,rfl,by rw[heap_alloc,ej]; simp⟩
theorem lC {l r:List (List V)} {i:Nat} (h:i < l.length):(l ++ r).getD i []=l.getD i []:=by
 simp[Q6,Rt h]
theorem kC {l r:List (List V)} {i:Nat} (h:l.length≤i):(l ++ r).getD i []=r.getD (i - l.length) []:=by
 simp[Q6,RL h]
theorem B0 {e:TypeId} {size:Nat} {ys xs:List (List V)} {old fl rest:Array Value} (hn:μ n=none) (cg:∀ b,Z b→b < w.heap.size)
  (h1:Flat Z μ w.heap size ys old) (h2:Flat Z μ w.heap size xs fl) (s1:∀ e∈ys,e.length=size) (s2:∀ e∈xs,e.length=size) :
  dK Z (μ.set n (w.heap.size,0,size)) (w.heap.push (.cells (old ++ fl ++ rest) e (0,0))) n (.arr size (ys ++ xs)):=by
 refine dK.newRow hn cg ?_ ?_ ?_
 ·simp[h1.len,h2.len,RP]
 ·intro i hi
  by_cases hl:i < ys.length
  ·rw[lC hl]
   simp only[Q6,Q7 hl,Rq]
   exact s1 _ (Rj _)
  ·have hl':i - ys.length < xs.length:=by simp at hi; omega
   rw[kC (by omega)]
   simp only[Q6,Q7 hl',Rq]
   exact s2 _ (Rj _)
 ·intro i j hi hj
  by_cases hl:i < ys.length
  ·have hlt:i * size+j < old.size:=by rw[h1.len]; exact eY hl hj
   refine ⟨old[i * size+j],?_,?_⟩
   ·rw[Su (by simp; omega),Su hlt,Rr hlt]
   ·rw[lC hl]
    have:=h1.rel i j hl hj
    simpa only [Rh,Rr hlt,Rq] using this
  ·have hl':i - ys.length < xs.length:=by simp at hi; omega
   have hlt:(i - ys.length) * size+j < fl.size:=by rw[h2.len]; exact eY hl' hj
   have e1:i * size+j - old.size=(i - ys.length) * size+j:=by
    rw[h1.len,Nat.sub_mul]
    have:ys.length * size≤i * size:=RJ _ (by omega)
    omega
   have e2:old.size≤i * size+j:=by
    rw[h1.len]
    have:ys.length * size≤i * size:=RJ _ (by omega)
    omega
   refine ⟨fl[(i - ys.length) * size+j],?_,?_⟩
   ·rw[Su (by simp; omega),Array.getElem?_append_right e2,e1,Rr hlt]
   ·rw[kC (by omega)]
    have:=h2.rel _ j hl' hj
    simpa only [Rh,Rr hlt,Rq] using this
theorem Hl {size:Nat} {xs:List (List V)} (h:(xs.all fun e=>e.length == size && e.all aS)=true):(∀ e∈xs,e.length=size)∧∀ e∈xs,e.all aS=true:=by
 refine ⟨fun e he=>?_,fun e he=>?_⟩
 ·have:=RD.1 h e he
  simp only[Rg,Sd] at this
  exact this.1
 ·have:=RD.1 h e he
  simp only[Rg,Sd] at this
  exact this.2
theorem kb {ad:Option Addr} {len cap size:Nat} : (Builtin.firstCells size 0 (.slice ad len cap)).run P w=.ok #[] w:=by
 cases ad with
 | none=>simp[Builtin.firstCells]
 | some a=>simp[Builtin.firstCells,loadCells,loadCellsFrom]
theorem wx {x:V} {xv:Value} {xs:List (List V)} {size:Nat} (he:bR H x=some (xs,rd)) (hx:aA Z μ w.heap x xv) :
  (Builtin.lenOf xv).run P w=.ok xs.length w∧(Builtin.firstCells size 0 xv).run P w=.ok #[] w:=by
 unfold bR at he
 split at he
 ·simp only[Q8,Rb] at he
  obtain ⟨rfl,_⟩:=he
  obtain ⟨ad,cap,rfl,_⟩:=du hx rfl
  exact ⟨rfl,kb⟩
 ·simp only[Q8,Rb] at he
  obtain ⟨rfl,_⟩:=he
  obtain ⟨ad,cap,rfl,_⟩:=du hx rfl
  exact ⟨rfl,kb⟩
 ·simp only[Q8,Rb] at he
  obtain ⟨rfl,_⟩:=he
  obtain ⟨ad,cap,rfl,_⟩:=du hx rfl
  exact ⟨rfl,kb⟩
 ·simp only[Q8,Rb] at he
  obtain ⟨rfl,_⟩:=he
  obtain ⟨ad,cap,rfl,_⟩:=du hx rfl
  exact ⟨rfl,kb⟩
 ·split at he
  ·split at he
   ·rename_i hle
    simp only[Q8,Rb] at he
    obtain ⟨rfl,_⟩:=he
    obtain ⟨ad,cap,rfl,_⟩:=du hx rfl
    refine ⟨?_,kb⟩
    rw[Sa,List.length_drop,Nat.min_eq_left (by omega)]; rfl
   ·simp at he
  ·simp at he
 ·rename_i str
  simp only[Q8,Rb] at he
  obtain ⟨rfl,_⟩:=he
  have hv:=eo hx
  subst hv
  refine ⟨by rw[Ro,bsize]; rfl,?_⟩
  have:(str.extract 0 0).data = #[]:=by rw[ByteArray.data_extract]; simp
  simp[Builtin.firstCells,this]
 ·simp at he
theorem iF (fl:Array Value) {k:Nat} (h:fl.size=k):fl.extract 0 k=fl:=by subst h; simp
theorem BA {t0 t1 e:TypeId} {ti:TypeInfo} {ats:Array TypeId} {ty:TypeId} {base:Option Addr} {sLen sCap:Nat} {x:V} {xv:Value} {xs ys:List (List V)} {rdx:List Nat} {old:Array Value}
  (ha0:ats[0]?=some t0) (ha1:ats[1]?=some t1) (hno:om P t1=true) (hund:P.underlying t0=some (.slice e)) (hti:P.info? e=some ti) (hzs:(zeroCells P e).map List.length=some ti.size)
  (he:bR H x=some (xs,rdx)) (hx:aA Z μ w.heap x xv) (hn:μ n=none) (c:Ctx Z μ w.heap H rd n eff) (hrd:∀ id,id∈rdx→id∈rd) (hl:∀ e∈xs,e.length=ti.size) (hys:ys.length=sLen) (hgt:sCap < sLen+xs.length)
  (hb1:(sLen+xs.length) * ti.bytes < aK) (hb2:sLen+xs.length < aK) (hold:Flat Z μ w.heap ti.size ys old) (hyl:∀ e∈ys,e.length=ti.size)
  (ho:(Builtin.firstCells ti.size sLen (.slice base sLen sCap)).run P w.drew=.ok old w.drew) :
  ∃ xr w',(Builtin.append_ ats ty #[.slice base sLen sCap,xv]).run P w=.ok xr w'∧aA Z (μ.set n (w.heap.size,0,ti.size)) w'.heap (.sl n 0 (sLen+xs.length) ti.size) xr∧dT w w' ∧
   w.heap.size < w'.heap.size∧fq w.heap w'.heap (fun _=>False)∧dK Z (μ.set n (w.heap.size,0,ti.size)) w'.heap n (.arr ti.size (ys ++ xs)):=by
 obtain ⟨zc,hzs',hzc⟩:=Lw hti hzs
 have hobj:∀ id,id∈rdx→dK Z μ w.heap id (H id):=fun id h=>c.obj id (hrd id h)
 obtain ⟨fl,hfl,hlen,hfirst⟩:=nE (P:=P) he hx hobj hl
 obtain ⟨fl2,hfl2,_,hfirst2⟩:=nE (P:=P) (w:=w.drew) he hx hobj hl
 have h5:=hfirst2 _ (Ri _)
 rw[iF fl2 hfl2.len] at h5
 obtain ⟨cap,hcap,hrun⟩:=FT (P:=P) (w:=w) (ty:=ty) ha0 ha1 hno hund hti hlen hgt hb1 hb2 hzc ho h5
 refine ⟨_,_,hrun,?_,jG _ _,by rw[heap_alloc,ej]; simp,by rw[heap_alloc,ej]; exact dX _ _,by rw[heap_alloc,ej]; exact B0 hn c.cg hold hfl2 hyl hl⟩
 rw[heap_alloc,ej]
 have hrest:(Builtin.zeroCells zc (cap - (sLen+xs.length))).size=(cap - (sLen+xs.length)) * ti.size:=by simp[Builtin.zeroCells,hzs']
 have hsum:cap * ti.size=sLen * ti.size+xs.length * ti.size+(cap - (sLen+xs.length)) * ti.size:=by
  rw[← RP,← RP]; congr 1; omega
 have:=aA.sl (Z:=Z) (μ:=μ.set n (w.heap.size,0,ti.size)) (hp:=w.heap.push (.cells (old ++ fl2 ++ Builtin.zeroCells zc (cap - (sLen+xs.length))) e (0,0))) n 0 (sLen+xs.length) ti.size w.heap.size 0 cap _ e (0,0) (by simp[Mu.set]) hcap (by simp; rfl)
  (by simp only[Array.size_append,hold.len,hfl2.len,hrest,hys,R8]; omega)
 simpa using this
theorem LW {b o0 s:Nat} {cc c':Array Value} {e:TypeId} {f:Nat × Nat} (hn:μ n=none) (cg:∀ b,Z b→b < w.heap.size) (hz:¬ Z b) (hb:w.heap[b]?=some (.cells cc e f)) (hs:c'.size=cc.size) :
  gj Z Z μ (μ.set n (b,o0,s)) w.heap (w.heap.setIfInBounds b (.cells c' e f)):=by
 refine ⟨fun _ h=>h,fun k hk=>cI w.heap b _ k (cg k hk) (fun e=>hz (e ▸ hk)),fun id x hx=>?_,ix hb hs⟩
 by_cases hid:id=n
 ·subst hid; simp[hn] at hx
 ·simp[Mu.set,hid,hx]
theorem M0 {t0 t1 e:TypeId} {ti:TypeInfo} {ats:Array TypeId} {ty:TypeId} {x:V} {xv:Value} {xs es:List (List V)} {rdx:List Nat} {id off len b o0 cap:Nat} {cc:Array Value} {e':TypeId} {f:Nat × Nat}
  (ha0:ats[0]?=some t0) (ha1:ats[1]?=some t1) (hno:om P t1=true) (hund:P.underlying t0=some (.slice e)) (hti:P.info? e=some ti)
  (he:bR H x=some (xs,rdx)) (hx:aA Z μ w.heap x xv) (hn:μ n=none) (c:Ctx Z μ w.heap H rd n eff) (hrd:∀ id,id∈rdx→id∈rd) (hl:∀ e∈xs,e.length=ti.size) (hok:∀ e∈xs,e.all aS=true)
  {esz':Nat} (_:H id=.arr esz' es) (hor:dK Z μ w.heap id (.arr ti.size es)) (hm:μ id=some (b,o0,ti.size)) (hb0:off+len≤es.length) (hle:len≤cap)
  (hbk:w.heap[b]?=some (.cells cc e' f)) (hsp:o0+(off+cap) * ti.size≤cc.size) (hfit:len+xs.length≤cap) :
  aT Z μ w n (.sl n 0 (len+xs.length) ti.size) (.bN id (.arr ti.size ((es.drop off).take len ++ xs)))
   ((do pure (Next.value (← Builtin.append_ ats ty #[.slice (some ⟨b,o0+off * ti.size,none⟩) len cap,xv])):Sem Next).run P w):=by
 obtain ⟨_,⟨c2,e2,f2,hc2,hf2,hs2⟩,h3,h4⟩:=hor b o0 ti.size hm
 rw[hbk] at hc2
 simp only[Q8,Obj.cells.injEq] at hc2
 obtain ⟨rfl,rfl,rfl⟩:=hc2
 obtain ⟨fl,hfl,hlen,hfirst⟩:=nE (P:=P) he hx (fun id h=>c.obj id (hrd id h)) hl
 have h5:=hfirst _ (Ri _)
 rw[iF fl hfl.len] at h5
 have hz:=c.gf _ _ _ _ hm
 have hmul:(off+cap) * ti.size=off * ti.size+cap * ti.size:=RP _ _ _
 have hmul2:len * ti.size+xs.length * ti.size≤cap * ti.size:=by rw[← RP]; exact RJ _ hfit
 have hfll:fl.toList.length=xs.length * ti.size:=by rw[Array.length_toList,hfl.len]
 obtain ⟨c',hst,hcs,hcell⟩:=rU (P:=P) (off:=o0+off * ti.size+len * ti.size) hbk (oq hf2) fl.toList (by rw[hfll]; omega) (xW hfl hl hok)
 have hbl:=en hbk
 have hm':=LW (o0:=o0+off * ti.size) (s:=ti.size) hn c.cg hz hbk hcs
 have hyl:((es.drop off).take len).length=len:=by simp; omega
 have hget:∀ i,i < len→((es.drop off).take len ++ xs).getD i []=es.getD (off+i) []:=by
  intro i hi
  rw[lC (by omega)]
  simp[Q6,SE,hi]
 have hget2:∀ i,len≤i→((es.drop off).take len ++ xs).getD i []=xs.getD (i - len) []:=by
  intro i hi
  rw[kC (by omega),hyl]
 refine aT.value (w':={ w with heap:=w.heap.setIfInBounds b (.cells c' e' f) }) (μ':=μ.set n (b,o0+off * ti.size,ti.size)) (Ac ha0 ha1 hno hund hti hlen hfit h5 (by simpa only [iQ] using hst)) ?_ ⟨rfl,rfl,rfl,by simp⟩ ?_
 ·have:=aA.sl (Z:=Z) (μ:=μ.set n (b,o0+off * ti.size,ti.size)) (hp:=w.heap.setIfInBounds b (.cells c' e' f)) n 0 (len+xs.length) ti.size b (o0+off * ti.size) cap c' e' f (by simp[Mu.set]) hfit (dC hbl) (by rw[hcs,R8]; omega)
  simpa using this
 ·refine ⟨b,o0+off * ti.size,ti.size,rfl,?_,.inr ⟨⟨o0,ti.size,hm⟩,cI _ _ _,ix hbk hcs⟩⟩
  intro b1 q1 s1 hx1
  simp only[Mu.set,if_true,Q8,Rb] at hx1
  obtain ⟨rfl,rfl,rfl⟩:=hx1
  have htot:((es.drop off).take len ++ xs).length=len+xs.length:=by rw[R5,hyl]
  refine ⟨rfl,⟨c',e',f,dC hbl,by rw[hcs]; exact hf2,by rw[htot,hcs,RP]; omega⟩,?_,?_⟩
  ·intro i hi
   rw[htot] at hi
   by_cases hil:i < len
   ·rw[hget i hil]; exact h3 _ (by omega)
   ·rw[hget2 i (by omega)]
    have hl':i - len < xs.length:=by omega
    simp only[Q6,Q7 hl',Rq]
    exact hl _ (Rj _)
  ·intro i j hi hj
   rw[htot] at hi
   show ∃ y,cellAt (w.heap.setIfInBounds b (.cells c' e' f)) b (o0+off * ti.size+i * ti.size+j)=some y∧_
   rw[hcell,hfll]
   by_cases hil:i < len
   ·have h6:i * ti.size+j < len * ti.size:=eY hil hj
    rw[Q9 (by omega),hget i hil]
    obtain ⟨y,hy,hv⟩:=h4 (off+i) j (by omega) hj
    rw[RP] at hy
    exact ⟨y,by rw[← hy]; congr 1; omega,hv.mono hm'⟩
   ·have hl':i - len < xs.length:=by omega
    have h6:(i - len) * ti.size+j < xs.length * ti.size:=eY hl' hj
    have h7:i * ti.size=len * ti.size+(i - len) * ti.size:=by rw[← RP]; congr 1; omega
    rw[Ra (by omega),hget2 i (by omega)]
    have hlt:(i - len) * ti.size+j < fl.size:=by rw[hfl.len]; exact h6
    refine ⟨fl[(i - len) * ti.size+j],?_,?_⟩
    ·rw[show o0+off * ti.size+i * ti.size+j - (o0+off * ti.size+len * ti.size)=(i - len) * ti.size+j from by omega]
     simp[hlt]
    ·have:=(hfl.rel _ j hl' hj).mono hm'
     simpa only [Rh,Rr hlt,Rq] using this
theorem Io {t0 t1:TypeId} {ats:Array TypeId} {ty:TypeId} {s x:V} {sv xv:Value} (h:lH P t0 s x H n=some (v,eff,rd)) (ha0:ats[0]?=some t0) (ha1:ats[1]?=some t1) (hno:om P t1=true)
  (hs:aA Z μ w.heap s sv) (hx:aA Z μ w.heap x xv) (c:Ctx Z μ w.heap H rd n eff) :
  aT Z μ w n v eff ((do pure (Next.value (← Builtin.append_ ats ty #[sv,xv])):Sem Next).run P w):=by
 unfold lH at h
 split at h
 ·rename_i e xs rdx hu he
  have hund:P.underlying t0=some (.slice e):=by
   unfold cx at hu; split at hu <;> simp_all
  split at h
  ·simp at h
  ·rename_i ti hti
   split at h
   ·rename_i hxs
    have hxs:xs=[]:=by simpa using hxs
    subst hxs
    have fin:∀ m,cY s=some m→some (s,bf.none,([]:List Nat))=some (v,eff,rd)→aT Z μ w n v eff ((do pure (Next.value (← Builtin.append_ ats ty #[sv,xv])):Sem Next).run P w):=by
     intro m hm heq
     simp only[Q8,Rb] at heq
     obtain ⟨rfl,rfl,rfl⟩:=heq
     obtain ⟨ad,cap,rfl,hle⟩:=du hs hm
     have hel:=wx (P:=P) (size:=ti.size) he hx
     refine aT.here (Ac ha0 ha1 hno hund hti hel.1 (by omega) hel.2 ?_) hs
     cases ad <;> simp[storeCells]
    split at h
    ·exact fin 0 rfl h
    ·exact fin 0 rfl h
    ·exact fin _ rfl h
    ·exact fin _ rfl h
    ·simp at h
   ·rename_i hxs
    have hxs:xs≠[]:=by simpa using hxs
    have hpos:0 < xs.length:=To.2 hxs
    split at h
    ·simp at h
    ·rename_i hcond
     simp only[not_or,Bool.not_eq_false,Classical.not_not] at hcond
     obtain ⟨hsz0,hzs,hall⟩:=hcond
     obtain ⟨hl,hok⟩:=Hl hall
     split at h
     ·split at h
      ·rename_i hb
       obtain ⟨hb1,hb2⟩:=hb
       simp only[Q8,Rb] at h
       obtain ⟨rfl,rfl,rfl⟩:=h
       cases hs with
       | emp _ ad =>
        obtain ⟨xr,w',hrun,hv,hsame,hlt,hold,hor⟩:=BA (n:=n) (ty:=ty) (base:=ad) (sLen:=0) (sCap:=0) (ys:=[]) (old:=#[]) ha0 ha1 hno hund hti hzs he hx c.new c (fun id h=>h) hl rfl (by omega) (by simpa using hb1) (by simpa using hb2)
         ⟨by simp,fun i j hi=>by simp at hi⟩ (by simp) (by simpa using pM (w:=w.drew) (ad:=ad) (cap:=0) (Ri 0))
        simp only[R8] at hv
        exact aT.value hrun hv hsame ⟨w.heap.size,0,ti.size,Ri _,hlt,rfl,hold,hor⟩
      ·simp at h
     ·rename_i id off len esz
      split at h
      ·rename_i esz' es hH
       split at h
       ·rename_i hb
        obtain ⟨hb0,rfl,hb1,hb2⟩:=hb
        simp only[Q8,Rb] at h
        obtain ⟨rfl,rfl,rfl⟩:=h
        have hor:=c.obj id (by simp)
        rw[hH] at hor
        have grow:∀ base sCap (old:Array Value),sv=.slice base len sCap→sCap < len+xs.length→Flat Z μ w.heap ti.size ((es.drop off).take len) old→(∀ e∈(es.drop off).take len,e.length=ti.size) →
          (Builtin.firstCells ti.size len (.slice base len sCap)).run P w.drew=.ok old w.drew →
          aT Z μ w n (.sl n 0 (len+xs.length) ti.size) (.bN id (.arr ti.size ((es.drop off).take len ++ xs))) ((do pure (Next.value (← Builtin.append_ ats ty #[sv,xv])):Sem Next).run P w):=by
         intro base sCap old hsv hgt hfl hys ho
         subst hsv
         have hlen:((es.drop off).take len).length=len:=by simp; omega
         obtain ⟨xr,w',hrun,hv,hsame,hlt,hold,hor⟩:=BA (n:=n) (ty:=ty) ha0 ha1 hno hund hti hzs he hx c.new c (fun i h=>RN _ h) hl hlen hgt hb1 hb2 hfl hys ho
         exact aT.value hrun hv hsame ⟨w.heap.size,0,ti.size,rfl,hor,.inl ⟨Ri _,hlt,hold⟩⟩
        cases hs with
        | nh _ _ _ ad =>
         refine grow ad 0 #[] rfl (by omega) ⟨by simp,fun i j hi=>by simp at hi⟩ (by simp) (by simpa using pM (w:=w.drew) (ad:=ad) (cap:=0) (Ri 0))
        | sl _ _ _ _ b o0 cap cc e' f hm hle hbk hsp =>
         have hlen:((es.drop off).take len).length=len:=by simp; omega
         obtain ⟨heq,⟨c2,e2,f2,hc2,hf2,hs2⟩,h3,h4⟩:=hor b o0 ti.size hm
         subst heq
         rw[hbk] at hc2
         simp only[Q8,Obj.cells.injEq] at hc2
         obtain ⟨rfl,rfl,rfl⟩:=hc2
         have hys:∀ e∈(es.drop off).take len,e.length=ti.size:=by
          intro e he'
          obtain ⟨i,hi,rfl⟩:=List.getElem_of_mem (List.mem_of_mem_drop (List.mem_of_mem_take he'))
          have:=h3 i hi
          simpa [Q6,hi] using this
         by_cases hfit:len+xs.length≤cap
         ·exact M0 ha0 ha1 hno hund hti he hx c.new c (fun i h=>RN _ h) hl hok hH hor hm hb0 hle hbk hsp hfit
         ·by_cases hl0:len=0
          ·subst hl0
           exact grow _ cap #[] rfl (by omega) ⟨by simp,fun i j hi=>by simp at hi⟩ (by simp) (by simpa using pM (w:=w.drew) (ad:=some ⟨b,o0+off * ti.size,none⟩) (cap:=cap) (Ri 0))
          ·have hel:bR H (.sl id off len ti.size)=some ((es.drop off).take len,[id]):=by
            cases len with
            | zero=>exact absurd rfl hl0
            | succ l=>simp[bR,hH,hb0]
           obtain ⟨old,hold,_,hfirst⟩:=nE (P:=P) (w:=w.drew) (Z:=Z) (μ:=μ) hel (aA.sl id off len ti.size b o0 cap cc e' f hm hle hbk hsp) (fun i hi=>by
            simp at hi; subst hi; rw[hH]; exact hor) hys
           have h5:=hfirst len (by omega)
           rw[iF old (by rw[hold.len,hlen])] at h5
           exact grow _ cap old rfl (by omega) hold hys h5
       ·simp at h
      ·simp at h
     ·simp at h
 ·simp at h
theorem OO {t0:TypeId} {ats:Array TypeId} {ty:TypeId} {x:V} {xv:Value} (h:DP P t0 x=some (v,eff,rd)) (ha0:ats[0]?=some t0)
  (hx:aA Z μ w.heap x xv) (c:Ctx Z μ w.heap H rd n eff) :
  aT Z μ w n v eff ((do pure (Next.value (← Builtin.cap_ ats ty #[xv])):Sem Next).run P w):=by
 unfold DP at h
 split at h
 ·rename_i e k hu
  have hund:P.underlying t0=some (.slice e):=by
   unfold cx at hu; split at hu <;> simp_all
  simp only[Q8,Rb] at h
  obtain ⟨rfl,rfl,rfl⟩:=h
  cases hx with
  | emp _ ad =>
   refine aT.here (x:=goInt 0) ?_ (.val _ rfl)
   simp only[Builtin.cap_,RZ,RA,ha0,Sem.run_bind,ba hund,Result.andThen_ok,Sem.run_pure]
   rfl
 ·simp at h
theorem D2 {t0 t1 e:TypeId} {ti:TypeInfo} {k:IntKind} {ats:Array TypeId} {ty:TypeId} {base:Option Addr} {m:Nat} {k2:IntKind} {zv:Value}
  (ha0:ats[0]?=some t0) (ha1:ats[1]?=some t1) (hd:P.underlying t1=some (.int k)) (hund:P.underlying t0=some (.slice e)) (hti:P.info? e=some ti)
  (hgt:0 < m) (hb1:m * ti.bytes < aK) (hb2:m < aK) (hs0:m * ti.size≠0) (hz:∀ w',(zeroValue e).run P w'=.ok zv w') :
  ∃ cap,m≤cap∧(Builtin.append_ ats ty #[.slice base 0 0,.int k2 (m:Int)]).run P w =
   .ok (.slice (some ⟨w.heap.size,0,none⟩) m cap) (w.drew.alloc (.cells (#[] ++ Builtin.zeroCells zv.cells m ++ Builtin.zeroCells zv.cells (cap - m)) e)):=by
 have hlim:=BX
 have hfit:=growslice_fits (old:=0) hgt (show m * ti.bytes≤140737488355328 by omega)
 have hmax:¬ ((m:Int) > IntKind.i64.max):=by
  have:IntKind.i64.max=9223372036854775807:=by decide
  rw[this]; omega
 have hbig:¬ (Builtin.nextslicecap m 0 * ti.bytes > 2 ^ 48):=by
  have:(2:Nat) ^ 48=281474976710656:=by decide
  rw[this]; exact Nat.not_lt.2 hfit
 have e1:IntKind.i64.wrap (m:Int)=m:=wrap_small hb2
 have g1:¬ ((m:Int) < 0):=by omega
 have g2:¬ ((m:Int) * (ti.bytes:Int) > 2 ^ 48):=by
  have:((m * ti.bytes:Nat):Int) < 2 ^ 48:=by omega
  push_cast at this; omega
 refine ⟨Question.cut (.appendCap m 0 e) (w.tape w.drawn (.appendCap m 0 e)),Nat.le_add_right _ _,?_⟩
 have hcut:Question.forced (.appendCap m 0 e)=false:=rfl
 have hfirst:∀ w':World,(Builtin.firstCells ti.size 0 (.slice base 0 0)).run P w'=.ok #[] w':=fun w'=>kb
 simp only[Builtin.append_,RZ,RA,RS,ha0,ha1,Sem.run_bind,ba hund,Result.andThen_ok,c7 hti,ba hd,Sem.run_pure,if_true,asInt,asIntOf,e1,Rs,Sem.run_ite,g1,g2,if_false,nQ hti,R8]
 rw[Q9 (by omega)]
 simp only[hmax,false_and,if_false,Sem.run_bind,Result.andThen_ok,Sem.run_ite,Sem.run_pure,hbig,run_choose,hcut,Ru,World.drew_eq,run_askRoom,hfirst,hs0,hz,Tw,newRow,c7 hti,run_newObj,World.alloc_eq]
 rfl
theorem Am {ti:TypeInfo} {z:List V} {zv:Value} {m:Nat} (hr:fi Z μ w.heap z zv.cells.toList) (hzl:z.length=ti.size):Flat Z μ w.heap ti.size (List.replicate m z) (Builtin.zeroCells zv.cells m):=by
 have hzs:zv.cells.size=ti.size:=by rw[← hzl,hr.1]; simp
 refine ⟨by simp[Builtin.zeroCells,hzs],fun i j hi hj=>?_⟩
 simp only[Te] at hi
 have hlt:i * ti.size+j < m * ti.size:=eY hi hj
 have hmod:(i * ti.size+j) % ti.size=j:=by
  rw[Nat.mul_comm,Nat.mul_add_mod]; exact Nat.mod_eq_of_lt hj
 have h1:=hr.2 j (by rw[hzl]; exact hj)
 have e1:(List.replicate m z).getD i []=z:=by simp[Q6,hi]
 have e2:(Builtin.zeroCells zv.cells m).getD (i * ti.size+j) undef=zv.cells.toList.getD j undef:=by
  simp[Builtin.zeroCells,Rh,Q6,hzs,hlt,hmod,getElem!_pos zv.cells j (by omega),show j < zv.cells.size by omega]
  rw[Rr (by omega)]; rfl
 rw[e1,e2]
 exact h1
theorem Nj {t0 t1:TypeId} {ats:Array TypeId} {ty:TypeId} {s x:V} {sv xv:Value} (h:ub P t0 s x n=some (v,eff,rd)) (ha0:ats[0]?=some t0) (ha1:ats[1]?=some t1) (hno:isInt P t1=true)
  (hs:aA Z μ w.heap s sv) (hx:aA Z μ w.heap x xv) (c:Ctx Z μ w.heap H rd n eff) :
  aT Z μ w n v eff ((do pure (Next.value (← Builtin.append_ ats ty #[sv,xv])):Sem Next).run P w):=by
 unfold ub at h
 split at h
 ·rename_i e l k hu hl
  have hund:P.underlying t0=some (.slice e):=by
   unfold cx at hu; split at hu <;> simp_all
  have hd:∃ d,P.underlying t1=some (.int d):=by
   unfold isInt at hno; split at hno
   ·rename_i d hd; exact ⟨d,hd⟩
   ·simp at hno
  obtain ⟨d,hd⟩:=hd
  obtain ⟨k1,rfl⟩:=jO hl
  have hx:=eo hx
  subst hx
  split at h
  ·rename_i ti z hti hz
   split at h
   ·rename_i h0
    subst h0
    simp only[Q8,Rb] at h
    obtain ⟨rfl,rfl,rfl⟩:=h
    cases hs with
    | emp _ ad ha hb =>
     refine aT.here (x:=.slice ad 0 0) ?_ (.emp _ ad ha hb)
     have e1:IntKind.i64.wrap ((0:Nat):Int)=0:=by decide
     have g2:¬ ((0:Int) * (ti.bytes:Int) > 2 ^ 48):=by rw[Int.zero_mul]; decide
     simp only[Builtin.append_,RZ,RA,RS,ha0,ha1,Sem.run_bind,ba hund,Result.andThen_ok,c7 hti,ba hd,Sem.run_pure,if_true,asInt,asIntOf,e1,Sem.run_ite,Int.lt_irrefl,g2,if_false,nQ hti,R8,Int.toNat_zero,Ri,Nat.zero_mul,Tw,Ru]
     cases ad <;> simp[storeCells]
   ·rename_i h0
    split at h
    ·rename_i hb
     obtain ⟨hzl,hzok,hs0,hb1,hb2⟩:=hb
     simp only[Q8,Rb] at h
     obtain ⟨rfl,rfl,rfl⟩:=h
     obtain ⟨zv,hzv,rfl⟩:=ie hti hz
     cases hs with
     | emp _ ad =>
      have hpos:l * ti.size≠0:=by
       intro h; rcases Nat.mul_eq_zero.1 h with h | h <;> contradiction
      obtain ⟨cap,hcap,hrun⟩:=D2 (P:=P) (w:=w) (ty:=ty) (base:=ad) (k2:=k1) ha0 ha1 hd hund hti (by omega) hb1 hb2 hpos (fun w'=>iZ hti hzv w')
      have hr:=fL (fN (Z:=Z) (μ:=μ) (w:=w) zv) hzok
      have hzs:zv.cells.size=ti.size:=by rw[← hzl,hr.1]; simp
      have hfl:=Am (m:=l) (ti:=ti) hr hzl
      have hsz:(Builtin.zeroCells zv.cells l).size=l * ti.size:=by simp[Builtin.zeroCells,hzs]
      have hsz2:(Builtin.zeroCells zv.cells (cap - l)).size=(cap - l) * ti.size:=by simp[Builtin.zeroCells,hzs]
      have hsum:cap * ti.size=l * ti.size+(cap - l) * ti.size:=by rw[← RP]; congr 1; omega
      refine aT.value (μ':=μ.set n (w.heap.size,0,ti.size)) hrun ?_ (jG _ _) ?_
      ·rw[heap_alloc,ej]
       have:=aA.sl (Z:=Z) (μ:=μ.set n (w.heap.size,0,ti.size)) (hp:=w.heap.push (.cells (#[] ++ Builtin.zeroCells zv.cells l ++ Builtin.zeroCells zv.cells (cap - l)) e (0,0))) n 0 l ti.size w.heap.size 0 cap _ e (0,0) (by simp[Mu.set]) hcap (by simp; rfl)
        (by simp only[Array.size_append,hsz,hsz2,R8]; (try simp); exact Nat.le_of_eq hsum)
       simpa using this
      ·refine ⟨w.heap.size,0,ti.size,Ri _,by rw[heap_alloc,ej]; simp,rfl,by rw[heap_alloc,ej]; exact dX _ _,?_⟩
       rw[heap_alloc,ej]
       have:=B0 (e:=e) (rest:=Builtin.zeroCells zv.cells (cap - l)) c.new c.cg (ys:=[]) (old:=#[]) ⟨by simp,fun i j hi=>by simp at hi⟩ hfl (by simp) (fun x hx=>by rw[(List.mem_replicate.1 hx).2]; exact hzl)
       simpa using this
    ·simp at h
  ·simp at h
 ·simp at h
theorem gK:∀ (ys es:List (List V)) (i:Nat),(fw es i ys).length=es.length
 | [],_,_=>rfl
 | y :: ys,es,i=>by rw[fw,gK ys]; simp
theorem oZ:∀ (ys es:List (List V)) (i k:Nat),i+ys.length≤es.length→(fw es i ys).getD k []=if i≤k∧k < i+ys.length then ys.getD (k - i) [] else es.getD k []
 | [],es,i,k,_=>by rw[Q9 (by simp only[RF]; omega)]; rfl
 | y :: ys,es,i,k,h=>by
  simp only[Rp] at h
  rw[fw,oZ ys _ _ _ (by simp; omega)]
  simp only[Rp]
  by_cases h1:i=k
  ·subst h1
   rw[Q9 (by omega),Ra (by omega)]
   simp[Q6,show i < es.length by omega]
  ·by_cases h2:i+1≤k∧k < i+1+ys.length
   ·rw[Ra h2,Ra (by omega),show k - i=(k - (i+1))+1 from by omega]
    simp
   ·rw[Q9 h2,Q9 (by omega)]
    simp[Q6,h1]
theorem NC {t0:TypeId} {ats:Array TypeId} {ty:TypeId} {d x:V} {dv xv:Value} (h:zG P t0 d x H=some (v,eff,rd)) (ha0:ats[0]?=some t0)
  (hd:aA Z μ w.heap d dv) (hx:aA Z μ w.heap x xv) (c:Ctx Z μ w.heap H rd n eff) :
  aT Z μ w n v eff ((do pure (Next.value (← Builtin.copy_ ats ty #[dv,xv])):Sem Next).run P w):=by
 unfold zG at h
 split at h
 ·rename_i e xs rdx dl hu he hdl
  have hund:P.underlying t0=some (.slice e):=by
   unfold cx at hu; split at hu <;> simp_all
  obtain ⟨ad,cap,rfl,hcap⟩:=du hd hdl
  have run:∀ (new:Array Value) w' ti,P.info? e=some ti→(Builtin.lenOf xv).run P w=.ok xs.length w→(Builtin.firstCells ti.size (Nat.min xs.length dl) xv).run P w=.ok new w →
    (match ad with | some a=>storeCells a new.toList | none=>pure ()).run P w=.ok () w' →
    (Builtin.copy_ ats ty #[.slice ad dl cap,xv]).run P w=.ok (goInt (Nat.min xs.length dl:Nat)) w':=by
   intro new w' ti hti h1 h2 h3
   simp only[Builtin.copy_,RZ,RA,RS,ha0,Sem.run_bind,ba hund,Result.andThen_ok,c7 hti,Sem.run_pure,h1,h2]
   cases ad with
   | none=>simp only[Sem.run_pure,Result.ok.injEq,true_and] at h3; subst h3; rfl
   | some a=>simp only[Sem.run_bind,h3,Result.andThen_ok,Sem.run_pure]
  split at h
  ·simp at h
  ·rename_i ti hti
   split at h
   ·rename_i hemp
    simp only[Q8,Rb] at h
    obtain ⟨rfl,rfl,rfl⟩:=h
    have hel:=wx (P:=P) (size:=ti.size) he hx
    have hmin:Nat.min xs.length dl=0:=by
     have:(xs.take dl).length=0:=by rw[List.isEmpty_iff.1 hemp]; rfl
     rw[Sa] at this
     show min _ _=0; omega
    have:=run #[] w ti hti hel.1 (by rw[hmin]; exact hel.2) (by cases ad <;> simp[storeCells])
    rw[hmin] at this
    exact aT.here this (aA.val _ rfl)
   ·rename_i hne
    split at h
    ·rename_i id off len esz
     split at h
     ·rename_i esz' es hH
      split at h
      ·rename_i hb
       obtain ⟨hb0,rfl,hsz0,hall⟩:=hb
       obtain ⟨hl,hok⟩:=Hl hall
       simp only[Q8,Rb] at h
       obtain ⟨rfl,rfl,rfl⟩:=h
       simp only[cY,Q8] at hdl
       subst hdl
       have hor:=c.obj id (by simp)
       rw[hH] at hor
       have hmin:(xs.take len).length=Nat.min xs.length len:=by rw[Sa,Nat.min_comm]
       have hpos:0 < (xs.take len).length:=To.2 (by simpa using hne)
       cases hd with
       | nh=>simp at hpos
       | sl _ _ _ _ b o0 _ cc e' f hm _ hbk hsp =>
        obtain ⟨heq,⟨c2,e2,f2,hc2,hf2,hs2⟩,h3,h4⟩:=hor b o0 ti.size hm
        subst heq
        rw[hbk] at hc2
        simp only[Q8,Obj.cells.injEq] at hc2
        obtain ⟨rfl,rfl,rfl⟩:=hc2
        obtain ⟨fl0,hfl0,hlen,hfirst⟩:=nE (P:=P) he hx (fun id h=>c.obj id (RN _ h)) hl
        have h5:=hfirst (Nat.min xs.length len) (Nat.min_le_left _ _)
        have hfl:=Kv hfl0 (Nat.min xs.length len) (Nat.min_le_left _ _)
        have htk:xs.take (Nat.min xs.length len)=xs.take len:=by
         rw[List.take_eq_take_iff]; show min (min xs.length len) xs.length=min len xs.length; omega
        rw[htk] at hfl
        generalize fl0.extract 0 (Nat.min xs.length len * ti.size)=fl at h5 hfl
        have hfll:fl.toList.length=(xs.take len).length * ti.size:=by rw[Array.length_toList,hfl.len]
        have hlt':(xs.take len).length≤len:=by rw[Sa]; omega
        have hmul3:(off+(xs.take len).length) * ti.size≤es.length * ti.size:=RJ _ (by omega)
        rw[RP] at hmul3
        have hz:=c.gf _ _ _ _ hm
        obtain ⟨c',hst,hcs,hcell⟩:=rU (P:=P) (off:=o0+off * ti.size) hbk (oq hf2) fl.toList (by rw[hfll]; omega) (xW hfl (fun e he=>hl e (List.mem_of_mem_take he)) (fun e he=>hok e (List.mem_of_mem_take he)))
        have hbl:=en hbk
        have hm':gj Z Z μ μ w.heap (w.heap.setIfInBounds b (.cells c' e' f)) :=
         ⟨fun _ h=>h,fun k hk=>cI w.heap b _ k (c.cg k hk) (fun e=>hz (e ▸ hk)),fun _ _ h=>h,ix hbk hcs⟩
        refine aT.value (μ':=μ) (run fl _ ti hti hlen h5 hst) ?_ ⟨rfl,rfl,rfl,by simp⟩ ?_
        ·rw[hmin]; exact aA.val _ rfl
        ·refine ⟨b,o0,ti.size,hm,rfl,cI _ _ _,ix hbk hcs,?_⟩
         intro b1 q1 s1 hx1
         rw[hm] at hx1
         simp only[Q8,Rb] at hx1
         obtain ⟨rfl,rfl,rfl⟩:=hx1
         have hsr:=fun k=>oZ (xs.take len) es off k (by omega)
         refine ⟨rfl,⟨c',e',f,dC hbl,by rw[hcs]; exact hf2,by rw[gK,hcs]; exact hs2⟩,?_,?_⟩
         ·intro i hi
          rw[gK] at hi
          rw[hsr]
          split
          ·have hl':i - off < (xs.take len).length:=by omega
           simp only[Q6,Q7 hl',Rq]
           exact hl _ (List.mem_of_mem_take (Rj _))
          ·exact h3 i hi
         ·intro i j hi hj
          rw[gK] at hi
          show ∃ y,cellAt (w.heap.setIfInBounds b (.cells c' e' f)) b (o0+i * ti.size+j)=some y∧_
          rw[hcell,hfll,hsr]
          by_cases hin:off≤i∧i < off+(xs.take len).length
          ·have hl':i - off < (xs.take len).length:=by omega
           have h6:(i - off) * ti.size+j < (xs.take len).length * ti.size:=eY hl' hj
           have h7:i * ti.size=off * ti.size+(i - off) * ti.size:=by rw[← RP]; congr 1; omega
           rw[Ra (by omega),Ra hin]
           have hlt:(i - off) * ti.size+j < fl.size:=by rw[hfl.len]; exact h6
           refine ⟨fl[(i - off) * ti.size+j],?_,?_⟩
           ·rw[show o0+i * ti.size+j - (o0+off * ti.size)=(i - off) * ti.size+j from by omega]
            simp[hlt]
           ·have:=(hfl.rel _ j hl' hj).mono hm'
            simpa only [Rh,Rr hlt,Rq] using this
          ·have h8:¬ (o0+off * ti.size≤o0+i * ti.size+j∧o0+i * ti.size+j < o0+off * ti.size+(xs.take len).length * ti.size):=by
            rcases Rw i off with h9 | h9
            ·have:(i+1) * ti.size≤off * ti.size:=RJ _ h9
             rw[RP] at this; omega
            ·have:(off+(xs.take len).length) * ti.size≤i * ti.size:=RJ _ (by omega)
             rw[RP] at this; omega
           rw[Q9 h8,Q9 hin]
           obtain ⟨y,hy,hv⟩:=h4 i j hi hj
           exact ⟨y,hy,hv.mono hm'⟩
      ·simp at h
     ·simp at h
    ·simp at h
 ·simp at h
theorem JI {t0:TypeId} {ats:Array TypeId} {ty:TypeId} {d:V} {dv:Value} (h:sq P t0 d H=some (v,eff,rd)) (ha0:ats[0]?=some t0)
  (hd:aA Z μ w.heap d dv) (c:Ctx Z μ w.heap H rd n eff) :
  aT Z μ w n v eff ((do pure (Next.value (← Builtin.clear_ ats ty #[dv])):Sem Next).run P w):=by
 unfold sq at h
 split at h
 ·rename_i e dl hu hdl
  have hund:P.underlying t0=some (.slice e):=by
   unfold cx at hu; split at hu <;> simp_all
  obtain ⟨ad,cap,rfl,hcap⟩:=du hd hdl
  split at h
  ·rename_i h0
   subst h0
   simp only[Q8,Rb] at h
   obtain ⟨rfl,rfl,rfl⟩:=h
   refine aT.here (x:=.tuple #[]) ?_ (.bt [] #[] rfl (fun i hi=>by simp at hi))
   simp only[Builtin.clear_,RZ,RA,ha0,Sem.run_bind,ba hund,Result.andThen_ok]
   cases ad <;> simp
  ·rename_i hne
   split at h
   ·rename_i id off len esz ti z hti hzc
    split at h
    ·rename_i esz' es hH
     split at h
     ·rename_i hb
      obtain ⟨hb0,rfl,hsz0,hzl,hzok⟩:=hb
      simp only[Q8,Rb] at h
      obtain ⟨rfl,rfl,rfl⟩:=h
      simp only[cY,Q8] at hdl
      subst hdl
      have hor:=c.obj id (by simp)
      rw[hH] at hor
      obtain ⟨zv,hzv,rfl⟩:=ie hti hzc
      have hr:=fL (fN (Z:=Z) (μ:=μ) (w:=w) zv) hzok
      have hfl:=Am (m:=len) (ti:=ti) hr hzl
      have run:∀ (a:Addr) (w':World),ad=some a→(storeCells a (Builtin.zeroCells zv.cells len).toList).run P w=.ok () w' →
        (Builtin.clear_ ats ty #[.slice ad len cap]).run P w=.ok (.tuple #[]) w':=by
       rintro a w' rfl h3
       obtain ⟨m,rfl⟩:∃ m,len=m+1:=⟨len - 1,by omega⟩
       simp only[Builtin.clear_,RZ,RA,ha0,Sem.run_bind,ba hund,Result.andThen_ok,iZ hti hzv,h3,Sem.run_pure]
      cases hd with
      | nh=>omega
      | sl _ _ _ _ b o0 _ cc e' f hm _ hbk hsp =>
       obtain ⟨heq,⟨c2,e2,f2,hc2,hf2,hs2⟩,h3,h4⟩:=hor b o0 ti.size hm
       subst heq
       rw[hbk] at hc2
       simp only[Q8,Obj.cells.injEq] at hc2
       obtain ⟨rfl,rfl,rfl⟩:=hc2
       have hzall:∀ e∈List.replicate len (eE zv).cells,e=(eE zv).cells:=fun e he=>List.eq_of_mem_replicate he
       have hrl:(List.replicate len (eE zv).cells).length=len:=Te
       generalize hxs:List.replicate len (eE zv).cells=xs at hfl hzall hrl ⊢
       generalize hfe:Builtin.zeroCells zv.cells len=fl at hfl run
       have hfll:fl.toList.length=xs.length * ti.size:=by rw[Array.length_toList,hfl.len]
       have hmul3:(off+xs.length) * ti.size≤es.length * ti.size:=RJ _ (by omega)
       rw[RP] at hmul3
       have hz:=c.gf _ _ _ _ hm
       obtain ⟨c',hst,hcs,hcell⟩:=rU (P:=P) (off:=o0+off * ti.size) hbk (oq hf2) fl.toList (by rw[hfll]; omega) (xW hfl (fun e he=>by rw[hzall e he]; exact hzl) (fun e he=>by rw[hzall e he]; exact hzok))
       have hbl:=en hbk
       have hm':gj Z Z μ μ w.heap (w.heap.setIfInBounds b (.cells c' e' f)) :=
        ⟨fun _ h=>h,fun k hk=>cI w.heap b _ k (c.cg k hk) (fun e=>hz (e ▸ hk)),fun _ _ h=>h,ix hbk hcs⟩
       refine aT.value (μ':=μ) (run _ _ rfl hst) ?_ ⟨rfl,rfl,rfl,by simp⟩ ?_
       ·exact .bt [] #[] rfl (fun i hi=>by simp at hi)
       ·refine ⟨b,o0,ti.size,hm,rfl,cI _ _ _,ix hbk hcs,?_⟩
        intro b1 q1 s1 hx1
        rw[hm] at hx1
        simp only[Q8,Rb] at hx1
        obtain ⟨rfl,rfl,rfl⟩:=hx1
        have hsr:=fun k=>oZ xs es off k (by omega)
        refine ⟨rfl,⟨c',e',f,dC hbl,by rw[hcs]; exact hf2,by rw[gK,hcs]; exact hs2⟩,?_,?_⟩
        ·intro i hi
         rw[gK] at hi
         rw[hsr]
         split
         ·have hl':i - off < xs.length:=by omega
          simp only[Q6,Q7 hl',Rq]
          rw[hzall _ (Rj hl')]; exact hzl
         ·exact h3 i hi
        ·intro i j hi hj
         rw[gK] at hi
         show ∃ y,cellAt (w.heap.setIfInBounds b (.cells c' e' f)) b (o0+i * ti.size+j)=some y∧_
         rw[hcell,hfll,hsr]
         by_cases hin:off≤i∧i < off+xs.length
         ·have hl':i - off < xs.length:=by omega
          have h6:(i - off) * ti.size+j < xs.length * ti.size:=eY hl' hj
          have h7:i * ti.size=off * ti.size+(i - off) * ti.size:=by rw[← RP]; congr 1; omega
          rw[Ra (by omega),Ra hin]
          have hlt:(i - off) * ti.size+j < fl.size:=by rw[hfl.len]; exact h6
          refine ⟨fl[(i - off) * ti.size+j],?_,?_⟩
          ·rw[show o0+i * ti.size+j - (o0+off * ti.size)=(i - off) * ti.size+j from by omega]
           simp[hlt]
          ·have:=(hfl.rel _ j hl' hj).mono hm'
           simpa only [Rh,Rr hlt,Rq] using this
         ·have h8:¬ (o0+off * ti.size≤o0+i * ti.size+j∧o0+i * ti.size+j < o0+off * ti.size+xs.length * ti.size):=by
           rcases Rw i off with h9 | h9
           ·have:(i+1) * ti.size≤off * ti.size:=RJ _ h9
            rw[RP] at this; omega
           ·have:(off+xs.length) * ti.size≤i * ti.size:=RJ _ (by omega)
            rw[RP] at this; omega
          rw[Q9 h8,Q9 hin]
          obtain ⟨y,hy,hv⟩:=h4 i j hi hj
          exact ⟨y,hy,hv.mono hm'⟩
     ·simp at h
    ·simp at h
   ·simp at h
 ·simp at h
end
section
variable {Z:Nat→Prop} {μ μ':Mu} {w w':World} {P:Program} {H:View} {n:Nat} {v:V} {eff:bf} {rd:List Nat}
theorem Cc (off:Nat):∀ (l:List Value) (i:Nat) (cs:Array Value),off+i+l.length≤cs.size →
  ((l.zipIdx i).foldl (fun cs (p:Value × Nat)=>cs.setIfInBounds (off+p.2) p.1) cs).size=cs.size ∧
  ∀ k,((l.zipIdx i).foldl (fun cs (p:Value × Nat)=>cs.setIfInBounds (off+p.2) p.1) cs)[k]?=if off+i≤k∧k < off+i+l.length then l[k - (off+i)]? else cs[k]?
 | [],i,cs,_=>⟨rfl,fun k=>by rw[Q9 (by simp only[RF]; omega)]; rfl⟩
 | x :: l,i,cs,h=>by
  simp only[Rp] at h
  obtain ⟨h1,h2⟩:=Cc off l (i+1) (cs.setIfInBounds (off+i) x) (by simp; omega)
  simp only[List.zipIdx_cons,Rx,Rp]
  refine ⟨by rw[h1]; simp,fun k=>?_⟩
  rw[h2]
  by_cases e:off+i=k
  ·subst e
   rw[Q9 (by omega),Ra (by omega)]
   simp[show off+i < cs.size by omega]
  ·by_cases e2:off+(i+1)≤k∧k < off+(i+1)+l.length
   ·rw[Ra e2,Ra (by omega),show k - (off+i)=(k - (off+(i+1)))+1 from by omega]
    simp
   ·rw[Q9 e2,Q9 (by omega)]
    simp[e]
theorem zl (off:Nat) (xs cs:Array Value) (h:off+xs.size≤cs.size) :
  (xs.zipIdx.foldl (fun cs (c,j)=>cs.setIfInBounds (off+j) c) cs).size=cs.size ∧
  ∀ k,(xs.zipIdx.foldl (fun cs (c,j)=>cs.setIfInBounds (off+j) c) cs)[k]?=if off≤k∧k < off+xs.size then xs[k - off]? else cs[k]?:=by
 have:=Cc off xs.toList 0 cs (by simpa using h)
 rw[← Array.foldl_toList,Array.toList_zipIdx]
 simpa using this
def AW (Z:Nat→Prop) (μ:Mu) (hp:Array Obj):List (Nat × V)→List (Nat × Value)→Prop
 | [],[]=>True
 | p :: r,q :: s=>p.1=q.1∧aA Z μ hp p.2 q.2∧AW Z μ hp r s
 | _,_=>False
theorem Aj {x:V} {y:Value} (h:aA Z μ w.heap x y) (hx:x.cells.all aS=true):y.cells.size=x.cells.length:=by
 have:=(fL h hx).1; simpa using this.symm
theorem D5 {size:Nat} (place:Nat→Option (Nat × Nat)) (hpl:∀ i,place i=some (i * size,size)):∀ (ps:List (Nat × V)) (qs:List (Nat × Value)) (es es':List (List V)) (cs:Array Value),
  af size es ps=some es'→AW Z μ w.heap ps qs→Flat Z μ w.heap size es cs→(∀ i,i < es.length→(es.getD i []).length=size)→(∀ i,i < es.length→(es.getD i []).all aS=true) →
  ∃ cs',Instr.fill place cs qs=some cs'∧Flat Z μ w.heap size es' cs'∧es'.length=es.length∧(∀ i,i < es'.length→(es'.getD i []).length=size)
 | [],[],es,es',cs,h,_,hf,hl,_=>by
  simp only[af,Q8] at h; subst h
  exact ⟨cs,rfl,hf,rfl,hl⟩
 | (i,x) :: ps,(i',y) :: qs,es,es',cs,h,hr,hf,hl,hok=>by
  obtain ⟨hi,hxy,hrest⟩:=hr
  simp only at hi hxy
  subst hi
  simp only[af] at h
  split at h
  ·rename_i hc
   obtain ⟨h1,h2,h3⟩:=hc
   have hcr:=fL hxy h3
   have hcs:=Aj hxy h3
   have hle:i * size+size≤cs.size:=by
    rw[hf.len]
    have:(i+1) * size≤es.length * size:=RJ _ h2
    rw[RP] at this; omega
   obtain ⟨k1,k2⟩:=zl (i * size) y.cells cs (by omega)
   have hget:∀ k,(es.set i x.cells).getD k []=if k=i then x.cells else es.getD k []:=by
    intro k
    simp only[Q6,Sz]
    by_cases e:i=k
    ·subst e; simp[h2]
    ·rw[Q9 e,Q9 (fun q=>e q.symm)]
   obtain ⟨cs',g1,g2,g3,g4⟩:=D5 place hpl ps qs (es.set i x.cells) es' (y.cells.zipIdx.foldl (fun cs (c,j)=>cs.setIfInBounds (i * size+j) c) cs) h hrest
    ⟨by rw[k1,hf.len]; simp,fun a j ha hj=>by
     have ha':a < es.length:=by simpa using ha
     rw[hget,Rh,k2]
     by_cases e:a=i
     ·subst e
      rw[Ra rfl,Ra (by omega),show a * size+j - a * size=j from by omega]
      have:=hcr.2 j (by omega)
      simpa [Q6] using this
     ·have:¬ (i * size≤a * size+j∧a * size+j < i * size+y.cells.size):=by
       rcases Nat.lt_or_gt_of_ne e with h9 | h9
       ·have:(a+1) * size≤i * size:=RJ _ h9
        rw[RP] at this; omega
       ·have:(i+1) * size≤a * size:=RJ _ h9
        rw[RP] at this; omega
      rw[Q9 e,Q9 this]
      have:=hf.rel a j ha' hj
      simpa only [Rh] using this⟩
    (fun k hk=>by rw[hget]; split; exact h1; exact hl k (by simpa using hk))
    (fun k hk=>by rw[hget]; split; exact h3; exact hok k (by simpa using hk))
   refine ⟨cs',?_,g2,by simpa using g3,g4⟩
   simp only[Instr.fill,hpl]
   rw[Q9 (by simp only[Se,Rn,not_or]; omega)]
   exact g1
  ·simp at h
 | [],_ :: _,_,_,_,_,hr,_,_,_=>hr.elim
 | _ :: _,[],_,_,_,_,hr,_,_,_=>hr.elim
theorem AR {t:TypeId} {len:Nat} {ps:List (Nat × V)} {qs:Array (Nat × Value)} (h:gE P t len ps n=some (v,eff,rd)) (hr:AW Z μ w.heap ps qs.toList) (c:Ctx Z μ w.heap H rd n eff) :
  aT Z μ w n v eff ((do pure (Next.value (← Instr.buildSlice t len qs)):Sem Next).run P w):=by
 unfold gE at h
 cases hu:cx P t with
 | none=>simp[hu] at h
 | some e =>
  have hund:P.underlying t=some (.slice e):=by
   unfold cx at hu; split at hu <;> simp_all
  cases hti:P.info? e with
  | none=>simp[hu,hti] at h
  | some ti =>
   simp only[hu,hti] at h
   split at h
   ·simp at h
   ·rename_i hbig
    split at h
    ·rename_i hl0
     subst hl0
     split at h
     ·rename_i hemp
      simp only[Q8,Rb] at h
      obtain ⟨rfl,rfl,rfl⟩:=h
      have hps:ps=[]:=by simpa using hemp
      subst hps
      have hqs:qs = #[]:=by
       cases hq:qs.toList with
       | nil=>exact Array.toList_eq_nil_iff.1 hq
       | cons a b=>rw[hq] at hr; exact hr.elim
      subst hqs
      refine aT.value (x:=.slice (some ⟨w.heap.size,0,none⟩) 0 0) (w':=w.alloc (.cells #[] e)) ?_ (.emp 2 _ (by simp) (by simp)) (ij _ _) ⟨rfl,dX _ _⟩
      simp[Instr.buildSlice,ba hund,c7 hti,Instr.fill,newRow,show Array.range 0 = #[] from rfl]
     ·simp at h
    ·split at h
     ·simp at h
     ·rename_i hl0 hs0
      split at h
      ·simp at h
      ·rename_i z hz
       split at h
       ·rename_i hzz
        obtain ⟨hzl,hzok⟩:=hzz
        split at h
        ·rename_i es hes
         simp only[Q8,Rb] at h
         obtain ⟨rfl,rfl,rfl⟩:=h
         obtain ⟨zv,hzv,rfl⟩:=ie hti hz
         have hrz:=fL (fN (Z:=Z) (μ:=μ) (w:=w) zv) hzok
         have hzs:zv.cells.size=ti.size:=by rw[← hzl,hrz.1]; simp
         have hpos:len * ti.size≠0:=by
          intro h0; rcases Nat.mul_eq_zero.1 h0 with h0 | h0 <;> contradiction
         have hflat:Flat Z μ w.heap ti.size (List.replicate len (eE zv).cells) ((Array.range (len * ti.size)).map (zv.cells[· % zv.cells.size]!)):=by
          refine ⟨by simp,fun i j hi hj=>?_⟩
          simp at hi
          have hlt:i * ti.size+j < len * ti.size:=eY (by omega) hj
          have hmod:(i * ti.size+j) % ti.size=j:=by
           rw[Nat.mul_comm,Nat.mul_add_mod]; exact Nat.mod_eq_of_lt hj
          have:=hrz.2 j (by rw[hzl]; exact hj)
          have hj2:j < zv.cells.size:=by omega
          simp only[Q6,Array.getElem?_toList,Rr hj2,Rq] at this
          simpa [Q6,Rh,hi,hlt,hzs,hmod,getElem!_pos zv.cells j hj2] using this
         obtain ⟨cs',g1,g2,g3,g4⟩:=D5 (fun i=>some (i * ti.size,ti.size)) (fun _=>rfl) ps qs.toList _ es _ hes hr hflat
          (fun i hi=>by simp at hi; simp[Q6,hi,hzl])
          (fun i hi=>by simp at hi; simpa [Q6,hi] using hzok)
         have g3':es.length=len:=by simpa using g3
         refine aT.value (μ':=μ.set n (w.heap.size,0,ti.size)) (x:=.slice (some ⟨w.heap.size,0,none⟩) len len) (w':=w.alloc (.cells cs' e)) ?_ ?_ (ij _ _) ?_
         ·have hbig':¬ (2 ^ 24 < len * ti.size):=hbig
          simp[Instr.buildSlice,ba hund,c7 hti,hbig,hpos,hl0,hs0,iZ hti hzv,g1,newRow]
         ·have:=aA.sl (Z:=Z) (μ:=μ.set n (w.heap.size,0,ti.size)) (hp:=(w.alloc (.cells cs' e)).heap) n 0 len ti.size w.heap.size 0 len cs' e (0,0) (by simp[Mu.set]) (Ri _) (by rw[heap_alloc]; simp) (by rw[g2.len,g3']; simp)
          simpa using this
         ·refine ⟨w.heap.size,0,ti.size,Ri _,by rw[heap_alloc]; simp,rfl,dX _ _,?_⟩
          refine dK.newRow c.new c.cg (by rw[g2.len]; exact Ri _) g4 (fun i j hi hj=>?_)
          have hlt:i * ti.size+j < cs'.size:=by rw[g2.len]; exact eY hi hj
          refine ⟨cs'[i * ti.size+j],by simp[hlt],?_⟩
          have:=g2.rel i j hi hj
          simpa only [Rh,Rr hlt,Rq] using this
        ·simp at h
       ·simp at h
theorem Ff (place pl:Nat→Option (Nat × Nat)) (hpl:∀ i x,place i=some x→pl i=some x):∀ (ps:List (Nat × V)) (qs:List (Nat × Value)) (cs cs':List V) (aas:Array Value),
  ua place cs ps=some cs'→AW Z μ w.heap ps qs→cs.length=aas.size→(∀ i,i < cs.length→aA Z μ w.heap (cs.getD i .any) (aas.getD i undef)) →
  ∃ aas',Instr.fill pl aas qs=some aas'∧cs'.length=aas'.size∧(∀ i,i < cs'.length→aA Z μ w.heap (cs'.getD i .any) (aas'.getD i undef))
 | [],[],cs,cs',aas,h,_,h1,h2=>by
  simp only[ua,Q8] at h; subst h
  exact ⟨aas,rfl,h1,h2⟩
 | (i,x) :: ps,(i',y) :: qs,cs,cs',aas,h,hr,h1,h2=>by
  obtain ⟨hi,hxy,hrest⟩:=hr
  simp only at hi hxy
  subst hi
  simp only[ua] at h
  split at h
  ·simp at h
  ·rename_i off size hp
   split at h
   ·rename_i hc
    obtain ⟨k1,k2,k3⟩:=hc
    have hcr:=fL hxy k3
    have hcs:=Aj hxy k3
    obtain ⟨m1,m2⟩:=zl off y.cells aas (by omega)
    have hsl:(aa cs off x.cells).length=cs.length:=uu _ _ _ (by omega)
    obtain ⟨aas',g1,g2,g3⟩:=Ff place pl hpl ps qs (aa cs off x.cells) cs' (y.cells.zipIdx.foldl (fun cs (c,j)=>cs.setIfInBounds (off+j) c) aas) h hrest (by rw[hsl,m1,h1])
     (fun k hk=>by
      rw[hsl] at hk
      rw[Rh,m2]
      by_cases e:off≤k∧k < off+x.cells.length
      ·rw[CE _ _ _ _ (by omega) e,Ra (by omega)]
       have:=hcr.2 (k - off) (by omega)
       simpa [Q6] using this
      ·rw[zq _ _ _ _ (by omega) e,Q9 (by omega)]
       have:=h2 k hk
       simpa only [Rh] using this)
    refine ⟨aas',?_,g2,g3⟩
    simp only[Instr.fill,hpl i _ hp]
    rw[Q9 (by simp only[Se,Rn,not_or]; omega)]
    exact g1
   ·simp at h
 | [],_ :: _,_,_,_,_,hr,_,_=>hr.elim
 | _ :: _,[],_,_,_,_,hr,_,_=>hr.elim
end
section
variable {Z:Nat→Prop} {μ μ':Mu} {w w':World} {P:Program} {H:View} {n:Nat} {v:V} {eff:bf} {rd:List Nat}
theorem F0 {fs:Array Field} (h:∀ f∈fs.toList,(P.info? f.type).isSome=true) :
  (fs.mapM fun f=>do pure (f.offset,← Go.sizeOf f.type):Sem (Array (Nat × Nat))).run P w=.ok (fs.map fun f=>(f.offset,P.cellsOf f.type)) w:=by
 have key:∀ (l:List Field),(∀ f∈l,(P.info? f.type).isSome=true)→(l.mapM fun f=>do pure (f.offset,← Go.sizeOf f.type):Sem (List (Nat × Nat))).run P w=.ok (l.map fun f=>(f.offset,P.cellsOf f.type)) w:=by
  intro l
  induction l with
  | nil=>intro _; rfl
  | cons f r ih =>
   intro hl
   obtain ⟨i,hi⟩:=Option.isSome_iff_exists.1 (hl f Tt)
   simp only[List.mapM_cons,Sem.run_bind,c7 hi,Result.andThen_ok,Sem.run_pure,ih (fun f hf=>hl f (RN _ hf)),RE,tC hi]
 have:=key fs.toList h
 rw[Array.mapM_eq_mapM_toList]
 simp only[Sem.run_map,this,Result.andThen_ok]
 congr 1
 apply Array.ext'
 simp
theorem uZ {t:TypeId} {z:V} (h:zeroV P t=some z):∃ i zv,P.info? t=some i∧i.zero=some zv∧z=eE zv:=by
 unfold zeroV at h
 split at h
 ·rename_i i hi
  split at h
  ·rename_i zv hz
   simp at h
   exact ⟨i,zv,hi,hz,h.symm⟩
  ·simp at h
 ·simp at h
theorem Jn {t:TypeId} {ps:List (Nat × V)} {qs:Array (Nat × Value)} (h:sj P t ps=some (v,eff,rd)) (hr:AW Z μ w.heap ps qs.toList) :
  aT Z μ w n v eff ((do pure (Next.value (← Instr.build t qs)):Sem Next).run P w):=by
 unfold sj at h
 split at h
 ·rename_i fs z hu hz
  obtain ⟨i,zv,hi,hzv,hzz⟩:=uZ hz
  have hk:kT P t=true:=by
   cases hkk:kT P t with
   | true=>rfl
   | false=>simp[hkk] at h
  rw[Ra hk] at h
  simp only[Rf] at h
  obtain ⟨cs,hcs,h⟩:=h
  simp only[Rb] at h
  obtain ⟨rfl,rfl,rfl⟩:=h
  have hzr:=fN (Z:=Z) (μ:=μ) (w:=w) zv
  rw[← hzz] at hzr
  cases hzr with
  | agg _ aas h1 h2 =>
   have hks:∀ f∈fs.toList,(P.info? f.type).isSome=true:=by
    unfold kT at hk
    rw[hu] at hk
    exact RD.1 hk
   obtain ⟨aas',g1,g2,g3⟩:=Ff (placeOf P t) (fun i=>(fs.map fun f=>(f.offset,P.cellsOf f.type))[i]?) (fun i x hx=>by
    unfold placeOf at hx
    simp only[Rf] at hx
    obtain ⟨⟨a,b,ft⟩,hpl,rfl⟩:=hx
    obtain ⟨fs',fd,ti,hu',hfd,hti,rfl,rfl,rfl⟩:=rZ hpl
    rw[hu] at hu'
    simp only[Q8,TypeDesc.struct.injEq] at hu'
    subst hu'
    simp[hfd,tC hti]) ps qs.toList z _ aas hcs hr h1 h2
   refine aT.here (x:=.agg aas') ?_ (.agg _ _ g2 g3)
   simp only[Instr.build,Sem.run_bind,iZ hi hzv,Result.andThen_ok,ba hu,Value.cells]
   rw[F0 hks]
   simp only[Result.andThen_ok,Sem.run_pure]
   have:Instr.fill (fun x=>(fs.map fun f=>(f.offset,P.cellsOf f.type))[x]?) aas qs.toList=some aas':=g1
   simp only[this,Sem.run_pure]
 ·simp at h
theorem aW {α β:Type} (P:Program) (s:Sem α) (f:α→Sem β):bp P (s >>= f)=(bp P s).bind fun a=>bp P (f a):=by
 have key:∀ s:Sem α,bp P (s.bind f)=(bp P s).bind fun a=>bp P (f a):=by
  intro s
  induction s with
  | pure a=>rfl
  | program k ih=>simp only[Sem.bind,bp]; exact ih P
  | _=>rfl
 exact key s
def Keys:List MapEntry→List MapEntry→Prop
 | [],[]=>True
 | a :: r,b :: s=>a.key=b.key∧Keys r s
 | _,_=>False
def Found (l:List MapEntry) (i:Nat):Option (Nat × Value)→Option (Nat × Value)→Prop
 | none,none=>True
 | some (a,_),some (b,x)=>a=b∧i≤a∧(l[a - i]?).map (·.val)=some x
 | _,_=>False
theorem Found.cons {l:List MapEntry} {e:MapEntry} {i:Nat} : ∀ {r r':Option (Nat × Value)},Found l (i+1) r r'→Found (e :: l) i r r'
 | none,none,_=>trivial
 | some (a,_),some (b,x),h=>by
  obtain ⟨rfl,h1,h2⟩:=h
  refine ⟨rfl,by omega,?_⟩
  rw[show a - i=(a - (i+1))+1 from by omega]
  simpa using h2
 | none,some _,h=>h.elim
 | some _,none,h=>h.elim
theorem vf (kind:TypeDesc) (k:Value):∀ (l m:List MapEntry) (i:Nat),Keys l m →
  match Instr.findNow kind k l i,Instr.findNow kind k m i with
  | some r,some r'=>Found m i r r'
  | none,none=>True
  | _,_=>False
 | [],[],i,_=>trivial
 | a :: l,b :: m,i,h=>by
  obtain ⟨hk,hr⟩:=h
  simp only[Instr.findNow,← hk]
  cases hs:Instr.sameNow kind k a.key with
  | none=>trivial
  | some t =>
   cases t with
   | true=>exact ⟨rfl,Ri _,by simp⟩
   | false =>
    have:=vf kind k l m (i+1) hr
    simp only
    split at this
    ·exact this.cons
    ·trivial
    ·exact this.elim
 | [],_ :: _,_,h=>h.elim
 | _ :: _,[],_,h=>h.elim
theorem qV (kt:TypeId) (k:Value):∀ (l m:List MapEntry) (i:Nat) (r:Option (Nat × Value)),Keys l m→bp P (Instr.findAsking kt k l i)=some r →
  ∃ r',(Instr.findAsking kt k m i).run P w=.ok r' w∧Found m i r r'
 | [],[],i,r,_,h=>by
  simp only[Instr.findAsking,bp,Pure.pure,Q8] at h
  subst h
  exact ⟨none,rfl,trivial⟩
 | a :: l,b :: m,i,r,hk,h=>by
  obtain ⟨hk,hr⟩:=hk
  simp only[Instr.findAsking,aW,Option.bind_eq_some_iff] at h
  obtain ⟨t,ht,h⟩:=h
  have hrun:=ot _ ht w
  rw[hk] at hrun
  cases t with
  | true =>
   simp only[if_true,bp,Pure.pure,Q8] at h
   subst h
   exact ⟨some (i,b.val),by simp[Instr.findAsking,hrun],rfl,Ri _,by simp⟩
  | false =>
   simp only[Ru,if_false] at h
   obtain ⟨r',h1,h2⟩:=qV kt k l m (i+1) r hr h
   exact ⟨r',by simp[Instr.findAsking,hrun,h1],h2.cons⟩
 | [],_ :: _,_,_,h,_=>h.elim
 | _ :: _,[],_,_,h,_=>h.elim
theorem vV:∀ (es:List (V × V × Nat)) (l m:List MapEntry),gv es=some l→es.length=m.length →
  (∀ i,i < es.length→∃ y,m[i]?=some y∧aA Z μ w.heap (es.getD i default).1 y.key)→Keys l m
 | [],l,m,h,hl,_=>by
  simp only[gv,Q8] at h
  subst h
  cases m with
  | nil=>trivial
  | cons _ _=>simp at hl
 | (k,vv,b) :: es,l,m,h,hl,hr=>by
  simp only[gv] at h
  split at h
  ·rename_i x y hx hy
   simp only[Q8] at h
   subst h
   cases m with
   | nil=>simp at hl
   | cons e m =>
    obtain ⟨y',h1,h2⟩:=hr 0 (by simp)
    simp only[RA,Q8] at h1
    subst h1
    refine ⟨oT h2 hx,vV es y m hy (by simpa using hl) (fun i hi=>?_)⟩
    obtain ⟨y',h1,h2⟩:=hr (i+1) (by simpa using hi)
    exact ⟨y',by simpa using h1,by simpa using h2⟩
  ·simp at h
theorem nH {kt:TypeId} {k:V} {x:Value} {b:Bool} {es:List (V × V × Nat)} {a:Array MapEntry} {r:Option Nat} (h:kV P kt k b es=some r) (hk:aA Z μ w.heap k x) (hl:a.size=es.length)
  (hr:∀ i,i < es.length→∃ y,a[i]?=some y∧aA Z μ w.heap (es.getD i default).1 y.key) :
  (Instr.checkKey b 10000 kt x).run P w=.ok () w ∧
  ∃ r',(Instr.findKey kt x a.toList).run P w=.ok r' w∧(match r,r' with
   | none,none=>True
   | some i,some (j,y)=>i=j∧(a[i]?).map (·.val)=some y
   | _,_=>False):=by
 unfold kV at h
 split at h
 ·rename_i x' l hx hlst
  have hxx:=oT hk hx
  subst hxx
  have hkeys:=vV (Z:=Z) (μ:=μ) (w:=w) es l a.toList hlst (by simpa using hl.symm) (fun i hi=>by simpa using hr i hi)
  have hmain:∀ q,bp P (Instr.checkKey b 10000 kt x' >>= fun _=>Instr.findKey kt x' l)=some q→(Instr.checkKey b 10000 kt x').run P w=.ok () w∧∃ r',(Instr.findKey kt x' a.toList).run P w=.ok r' w∧Found a.toList 0 q r':=by
   intro q hq
   rw[aW,Option.bind_eq_some_iff] at hq
   obtain ⟨u,hu,hq⟩:=hq
   refine ⟨ot _ hu w,?_⟩
   simp only[Instr.findKey,aW,Option.bind_eq_some_iff] at hq
   obtain ⟨d,hd,hq⟩:=hq
   have hdr:=ot _ hd w
   have hfn:=vf d x' l a.toList 0 hkeys
   cases h1:Instr.findNow d x' l 0 with
   | some r1 =>
    rw[h1] at hfn hq
    simp only[bp,Pure.pure,Q8] at hq
    subst hq
    cases h2:Instr.findNow d x' a.toList 0 with
    | none=>rw[h2] at hfn; exact hfn.elim
    | some r2 =>
     rw[h2] at hfn
     exact ⟨r2,by simp[Instr.findKey,hdr,h2],hfn⟩
   | none =>
    rw[h1] at hfn hq
    cases h2:Instr.findNow d x' a.toList 0 with
    | some r2=>rw[h2] at hfn; exact hfn.elim
    | none =>
     obtain ⟨r',h3,h4⟩:=qV (w:=w) kt x' l a.toList 0 q hkeys hq
     exact ⟨r',by simp[Instr.findKey,hdr,h2,h3],h4⟩
  split at h
  ·rename_i i vv hp
   simp only[Q8] at h
   subst h
   obtain ⟨h1,r',h2,h3⟩:=hmain _ hp
   refine ⟨h1,r',h2,?_⟩
   cases r' with
   | none=>exact h3.elim
   | some q =>
    obtain ⟨j,y⟩:=q
    obtain ⟨h4,_,h5⟩:=h3
    exact ⟨h4,by simpa using h5⟩
  ·rename_i hp
   simp only[Q8] at h
   subst h
   obtain ⟨h1,r',h2,h3⟩:=hmain _ hp
   refine ⟨h1,r',h2,?_⟩
   cases r' with
   | none=>trivial
   | some q=>exact h3.elim
  ·simp at h
 ·simp at h
theorem so {id:Nat} {x:Value} (h:aA Z μ w.heap (.mp id) x):∃ b o0 s,μ id=some (b,o0,s)∧x=.map (some b):=by
 cases h with | mp _ b o0 s hm=>exact ⟨b,o0,s,hm,rfl⟩
theorem fJ {b:Nat} {a:Array MapEntry} {c:Nat} (h:w.heap[b]?=some (.map a c)):(getObj b).run P w=.ok (.map a c) w:=by
 simp[getObj,Sem.run,h]
theorem je {b:Nat} {a:Array MapEntry} {c:Nat} (o:Obj) (h:w.heap[b]?=some (.map a c)):(setObj b o).run P w=.ok () { w with heap:=w.heap.setIfInBounds b o }:=by
 simp[setObj,Sem.run,h]
theorem mK {t kt et:TypeId} (h:cT P t=some (kt,et)):P.underlying t=some (.map kt et):=by
 unfold cT at h
 split at h
 ·rename_i k e hu; simp at h; rw[hu,h.1,h.2]
 ·simp at h
theorem GK {k:Bool} {v1:V} {x1:Value} {b:Bool} (h:aA Z μ w.heap v1 x1) :
  aA Z μ w.heap (if k then .bt [v1,.val (.bool b)] else v1) (if k then .tuple #[x1,.bool b] else x1):=by
 cases k with
 | false=>exact h
 | true =>
  refine .bt _ _ rfl (fun i hi=>?_)
  match i,hi with
  | 0,_=>exact h
  | 1,_=>exact .val _ rfl
theorem Ie {t:TypeId} {m k:V} {mv kv:Value} {ok:Bool} (h:eV P t m k ok H=some (v,eff,rd)) (hm:aA Z μ w.heap m mv) (hk:aA Z μ w.heap k kv) (c:Ctx Z μ w.heap H rd n eff) :
  aT Z μ w n v eff ((do pure (Next.value (← Instr.lookup t mv kv ok)):Sem Next).run P w):=by
 unfold eV at h
 split at h
 ·simp at h
 ·rename_i kt et hmt
  have hu:=mK hmt
  split at h
  ·simp at h
  ·rename_i z hz
   obtain ⟨ti,zv,hti,hzv,rfl⟩:=uZ hz
   simp only at h
   split at h
   ·rename_i id
    obtain ⟨b,o0,s,hμ,rfl⟩:=so hm
    split at h
    ·rename_i es clock hH
     have hobj:∀ id',id'=id→dK Z μ w.heap id (.map es clock)→∃ a:Array MapEntry,w.heap[b]?=some (.map a clock)∧a.size=es.length ∧
       ∀ i,i < es.length→∃ y,a[i]?=some y∧aA Z μ w.heap (es.getD i default).1 y.key∧aA Z μ w.heap (es.getD i default).2.1 y.val∧y.born=(es.getD i default).2.2:=fun _ _ h=>h b o0 s hμ
     have go:∀ r,kV P kt k es.isEmpty es=some r→dK Z μ w.heap id (.map es clock)→∃ x,(Instr.lookup t (.map (some b)) kv ok).run P w=.ok x w ∧
       (match r with
        | some i=>∀ e,es[i]?=some e→aA Z μ w.heap (if ok then .bt [e.2.1,.val (.bool true)] else e.2.1) x
        | none=>aA Z μ w.heap (if ok then .bt [eE zv,.val (.bool false)] else eE zv) x):=by
      intro r hr hor
      obtain ⟨a,ha,hsz,hes⟩:=hobj id rfl hor
      obtain ⟨h1,r',h2,h3⟩:=nH (w:=w) hr hk hsz (fun i hi=>let ⟨y,h1,h2,_⟩:=hes i hi; ⟨y,h1,h2⟩)
      have hemp:a.isEmpty=es.isEmpty:=by
       simp only[Array.isEmpty,hsz]; cases es <;> simp
      cases r with
      | none =>
       cases r' with
       | some q=>exact h3.elim
       | none =>
        refine ⟨if ok then .tuple #[zv,.bool false] else zv,?_,GK (fN _)⟩
        simp only[Instr.lookup,Sem.run_bind,ba hu,Result.andThen_ok,fJ ha,Sem.run_pure,hemp,h1,h2,iZ hti hzv]
      | some i =>
       cases r' with
       | none=>exact h3.elim
       | some q =>
        obtain ⟨j,y⟩:=q
        obtain ⟨rfl,hy⟩:=h3
        refine ⟨if ok then .tuple #[y,.bool true] else y,?_,fun e he=>?_⟩
        ·simp only[Instr.lookup,Sem.run_bind,ba hu,Result.andThen_ok,fJ ha,Sem.run_pure,hemp,h1,h2]
        ·refine GK ?_
         have hi:i < es.length:=by
          rcases Rw i es.length with h | h
          ·exact h
          ·simp[RH h] at he
         obtain ⟨y',g1,g2,g3,g4⟩:=hes i hi
         rw[g1] at hy
         simp only[Rk,Q8] at hy
         subst hy
         simpa [Q6,he] using g3
     split at h
     ·rename_i i hf
      split at h
      ·rename_i k0 vv b0 he
       simp only[Q8,Rb] at h
       obtain ⟨rfl,rfl,rfl⟩:=h
       have hor:=c.obj id (by simp)
       rw[hH] at hor
       obtain ⟨x,hx,hv⟩:=go _ hf hor
       exact aT.here hx (hv _ he)
      ·simp at h
     ·rename_i hf
      simp only[Q8,Rb] at h
      obtain ⟨rfl,rfl,rfl⟩:=h
      have hor:=c.obj id (by simp)
      rw[hH] at hor
      obtain ⟨x,hx,hv⟩:=go _ hf hor
      exact aT.here hx hv
     ·simp at h
    ·simp at h
   ·simp at h
end
section
variable {Z:Nat→Prop} {μ μ':Mu} {w w':World} {P:Program} {H:View} {n:Nat} {v:V} {eff:bf} {rd:List Nat}
theorem jZ {b:Nat} {a:Array MapEntry} {c:Nat} {o:Obj} (cg:∀ b,Z b→b < w.heap.size) (hz:¬ Z b) (hb:w.heap[b]?=some (.map a c)) :
  gj Z Z μ μ w.heap (w.heap.setIfInBounds b o)∧eP w.heap (w.heap.setIfInBounds b o):=by
 have hs:eP w.heap (w.heap.setIfInBounds b o):=by
  intro k c' e f hk
  by_cases h:b=k
  ·subst h; rw[hb] at hk; simp at hk
  ·exact ⟨c',f,by simp[h,hk],rfl⟩
 exact ⟨⟨fun _ h=>h,fun k hk=>cI w.heap b _ k (cg k hk) (fun e=>hz (e ▸ hk)),fun _ _ h=>h,hs⟩,hs⟩
theorem uI {k0 k:V} {x0 x:Value} (h:sameKey k0 k=true) (h0:aA Z μ w.heap k0 x0) (hk:aA Z μ w.heap k x):(Instr.keyThatStays x0 x).run P w=.ok x w:=by
 unfold sameKey at h
 split at h
 ·rename_i a b ha hb
  have e1:=oT h0 ha
  have e2:=oT hk hb
  subst e1 e2
  simp[Instr.keyThatStays,h]
 ·simp at h
theorem dK.DK {id b o0 s:Nat} {es:List (V × V × Nat)} {clock i:Nat} {a:Array MapEntry} {k vv:V} {e':MapEntry} (hμ:μ id=some (b,o0,s)) (cg:∀ b,Z b→b < w.heap.size) (hz:¬ Z b) (ha:w.heap[b]?=some (.map a clock)) (hsz:a.size=es.length)
  (hes:∀ i,i < es.length→∃ y,a[i]?=some y∧aA Z μ w.heap (es.getD i default).1 y.key∧aA Z μ w.heap (es.getD i default).2.1 y.val∧y.born=(es.getD i default).2.2)
  (hi:i < es.length) (f:MapEntry→MapEntry) (hf:∀ y,a[i]?=some y→f y=e') (hk:aA Z μ w.heap k e'.key) (hv:aA Z μ w.heap vv e'.val) {bn:Nat} (hb:e'.born=bn) :
  dK Z μ (w.heap.setIfInBounds b (.map (a.modify i f) clock)) id (.map (es.set i (k,vv,bn)) clock):=by
 have hm:=(jZ (μ:=μ) (o:=.map (a.modify i f) clock) cg hz ha).1
 intro b1 q1 s1 hx1
 rw[hμ] at hx1
 simp only[Q8,Rb] at hx1
 obtain ⟨rfl,rfl,rfl⟩:=hx1
 refine ⟨a.modify i f,dC (en ha),by simp[hsz],fun j hj=>?_⟩
 have hj':j < es.length:=by simpa using hj
 obtain ⟨y,h1,h2,h3,h4⟩:=hes j hj'
 by_cases e:i=j
 ·subst e
  have hg:(es.set i (k,vv,bn)).getD i default=(k,vv,bn):=by simp[Q6,hi]
  refine ⟨e',by rw[Array.getElem?_modify]; simp[h1,hf y h1],?_⟩
  rw[hg]
  exact ⟨hk.mono hm,hv.mono hm,hb⟩
 ·have hg:(es.set i (k,vv,bn)).getD j default=es.getD j default:=by simp[Q6,e]
  refine ⟨y,by rw[Array.getElem?_modify]; simp[e,h1],?_⟩
  rw[hg]
  exact ⟨h2.mono hm,h3.mono hm,h4⟩
theorem dK.Gt {id b o0 s:Nat} {es:List (V × V × Nat)} {clock:Nat} {a:Array MapEntry} {k vv:V} {kv vvv:Value} (hμ:μ id=some (b,o0,s)) (cg:∀ b,Z b→b < w.heap.size) (hz:¬ Z b) (ha:w.heap[b]?=some (.map a clock)) (hsz:a.size=es.length)
  (hes:∀ i,i < es.length→∃ y,a[i]?=some y∧aA Z μ w.heap (es.getD i default).1 y.key∧aA Z μ w.heap (es.getD i default).2.1 y.val∧y.born=(es.getD i default).2.2)
  (hk:aA Z μ w.heap k kv) (hv:aA Z μ w.heap vv vvv) :
  dK Z μ (w.heap.setIfInBounds b (.map (a.push { key:=kv,val:=vvv,born:=clock }) (clock+1))) id (.map (es ++ [(k,vv,clock)]) (clock+1)):=by
 have hm:=(jZ (μ:=μ) (o:=.map (a.push { key:=kv,val:=vvv,born:=clock }) (clock+1)) cg hz ha).1
 intro b1 q1 s1 hx1
 rw[hμ] at hx1
 simp only[Q8,Rb] at hx1
 obtain ⟨rfl,rfl,rfl⟩:=hx1
 refine ⟨_,dC (en ha),by simp[hsz],fun j hj=>?_⟩
 by_cases e:j < es.length
 ·obtain ⟨y,h1,h2,h3,h4⟩:=hes j e
  have hg:(es ++ [(k,vv,clock)]).getD j default=es.getD j default:=by simp[Q6,Rt e]
  refine ⟨y,by rw[S3,Q9 (by omega)]; exact h1,?_⟩
  rw[hg]
  exact ⟨h2.mono hm,h3.mono hm,h4⟩
 ·obtain rfl:j=es.length:=by simp at hj; omega
  have hg:(es ++ [(k,vv,clock)]).getD es.length default=(k,vv,clock):=by simp[Q6]
  refine ⟨_,by rw[S3,Ra hsz.symm],?_⟩
  rw[hg]
  exact ⟨hk.mono hm,hv.mono hm,rfl⟩
theorem pZ {id b o0 s:Nat} {es:List (V × V × Nat)} {clock:Nat} (hor:dK Z μ w.heap id (.map es clock)) (hμ:μ id=some (b,o0,s)) :
 ∃ a:Array MapEntry,w.heap[b]?=some (.map a clock)∧a.size=es.length ∧
  ∀ i,i < es.length→∃ y,a[i]?=some y∧aA Z μ w.heap (es.getD i default).1 y.key∧aA Z μ w.heap (es.getD i default).2.1 y.val∧y.born=(es.getD i default).2.2:=hor b o0 s hμ
theorem ka {α:Type} {l:List α} {i:Nat} {x:α} (h:l[i]?=some x):i < l.length:=by
 rcases Rw i l.length with h' | h'
 ·exact h'
 ·simp[RH h'] at h
theorem uv {t:TypeId} {m k vv:V} {mv kv vvv:Value} (h:er P t m k vv H=some (v,eff,rd)) (hm:aA Z μ w.heap m mv) (hk:aA Z μ w.heap k kv) (hv:aA Z μ w.heap vv vvv) (c:Ctx Z μ w.heap H rd n eff) :
  aT Z μ w n v eff ((do Instr.mapUpdate t mv kv vvv; pure Next.skip:Sem Next).run P w):=by
 unfold er at h
 split at h
 ·rename_i kt et id hmt
  have hu:=mK hmt
  obtain ⟨b,o0,s,hμ,rfl⟩:=so hm
  split at h
  ·rename_i es clock hH
   split at h
   ·rename_i i hf
    split at h
    ·rename_i k0 v0 b0 he
     split at h
     ·rename_i hsk
      simp only[Q8,Rb] at h
      obtain ⟨rfl,rfl,rfl⟩:=h
      have hor:=c.obj id (by simp)
      rw[hH] at hor
      obtain ⟨a,ha,hsz,hes⟩:=pZ hor hμ
      have hz:=c.gf _ _ _ _ hμ
      have hi:=ka he
      obtain ⟨y,g1,g2,g3,g4⟩:=hes i hi
      simp only[Q6,he,Rq] at g2 g3 g4
      obtain ⟨h1,r',h2,h3⟩:=nH (w:=w) hf hk hsz (fun i hi=>let ⟨y,h1,h2,_⟩:=hes i hi; ⟨y,h1,h2⟩)
      cases r' with
      | none=>exact h3.elim
      | some q =>
       obtain ⟨j,y'⟩:=q
       obtain ⟨rfl,hy⟩:=h3
       refine aT.skip (w':={ w with heap:=w.heap.setIfInBounds b (.map (a.modify i fun e=>{ e with key:=kv,val:=vvv }) clock) }) (μ':=μ) ?_ ⟨rfl,rfl,rfl,by simp⟩ ?_
       ·simp only[Instr.mapUpdate,Sem.run_bind,ba hu,Result.andThen_ok,fJ ha,h1,h2,g1,Rk,Rq,uI hsk g2 hk,je _ ha]
       ·exact ⟨b,o0,s,hμ,rfl,cI _ _ _,(jZ (μ:=μ) c.cg hz ha).2,dK.DK hμ c.cg hz ha hsz hes hi _ (e':={ y with key:=kv,val:=vvv }) (fun y2 hy2=>by rw[g1] at hy2; simp at hy2; subst hy2; rfl) hk hv g4⟩
     ·simp at h
    ·simp at h
   ·rename_i hf
    simp only[Q8,Rb] at h
    obtain ⟨rfl,rfl,rfl⟩:=h
    have hor:=c.obj id (by simp)
    rw[hH] at hor
    obtain ⟨a,ha,hsz,hes⟩:=pZ hor hμ
    have hz:=c.gf _ _ _ _ hμ
    obtain ⟨h1,r',h2,h3⟩:=nH (w:=w) hf hk hsz (fun i hi=>let ⟨y,h1,h2,_⟩:=hes i hi; ⟨y,h1,h2⟩)
    cases r' with
    | some q=>exact h3.elim
    | none =>
     refine aT.skip (w':={ w with heap:=w.heap.setIfInBounds b (.map (a.push { key:=kv,val:=vvv,born:=clock }) (clock+1)) }) (μ':=μ) ?_ ⟨rfl,rfl,rfl,by simp⟩ ?_
     ·simp only[Instr.mapUpdate,Sem.run_bind,ba hu,Result.andThen_ok,fJ ha,h1,h2,je _ ha]
     ·exact ⟨b,o0,s,hμ,rfl,cI _ _ _,(jZ (μ:=μ) c.cg hz ha).2,dK.Gt hμ c.cg hz ha hsz hes hk hv⟩
   ·simp at h
  ·simp at h
 ·simp at h
theorem O2 {a b:V} {x y:Value} (h1:aA Z μ w.heap a x) (h2:aA Z μ w.heap b y):aA Z μ w.heap (.bt [a,b]) (.tuple #[x,y]):=by
 refine .bt _ _ rfl (fun i hi=>?_)
 match i,hi with
 | 0,_=>exact h1
 | 1,_=>exact h2
theorem Fw {t:TypeId} {m k:V} {mv kv:Value} (h:dH P t m k H=some (v,eff,rd)) (hm:aA Z μ w.heap m mv) (hk:aA Z μ w.heap k kv) (c:Ctx Z μ w.heap H rd n eff) :
  aT Z μ w n v eff ((do pure (Next.value (← Instr.mapEntry t mv kv)):Sem Next).run P w):=by
 unfold dH at h
 split at h
 ·rename_i kt et id hmt
  have hu:=mK hmt
  obtain ⟨b,o0,s,hμ,rfl⟩:=so hm
  split at h
  ·rename_i es clock hH
   split at h
   ·rename_i i hf
    split at h
    ·rename_i k0 v0 b0 he
     split at h
     ·rename_i hsk
      simp only[Q8,Rb] at h
      obtain ⟨rfl,rfl,rfl⟩:=h
      have hor:=c.obj id (by simp)
      rw[hH] at hor
      obtain ⟨a,ha,hsz,hes⟩:=pZ hor hμ
      have hz:=c.gf _ _ _ _ hμ
      have hi:=ka he
      obtain ⟨y,g1,g2,g3,g4⟩:=hes i hi
      simp only[Q6,he,Rq] at g2 g3 g4
      obtain ⟨h1,r',h2,h3⟩:=nH (w:=w) hf hk hsz (fun i hi=>let ⟨y,h1,h2,_⟩:=hes i hi; ⟨y,h1,h2⟩)
      cases r' with
      | none=>exact h3.elim
      | some q =>
       obtain ⟨j,y'⟩:=q
       obtain ⟨rfl,hy⟩:=h3
       rw[g1] at hy
       simp only[Rk,Q8] at hy
       subst hy
       have hmm:=jZ (μ:=μ) (o:=.map (a.modify i fun e=>{ e with key:=kv }) clock) c.cg hz ha
       refine aT.value (w':={ w with heap:=w.heap.setIfInBounds b (.map (a.modify i fun e=>{ e with key:=kv }) clock) }) (μ':=μ) (x:=.tuple #[y.val,goInt y.born]) ?_ ?_ ⟨rfl,rfl,rfl,by simp⟩ ?_
       ·simp only[Instr.mapEntry,Sem.run_bind,ba hu,Result.andThen_ok,fJ ha,h1,h2,g1,Rk,Rq,uI hsk g2 hk,je _ ha,Sem.run_pure]
       ·refine aA.mono hmm.1 (O2 g3 ?_)
        rw[g4]; exact .val _ rfl
       ·exact ⟨b,o0,s,hμ,rfl,cI _ _ _,hmm.2,dK.DK hμ c.cg hz ha hsz hes hi _ (e':={ y with key:=kv }) (fun y2 hy2=>by rw[g1] at hy2; simp at hy2; subst hy2; rfl) hk g3 g4⟩
     ·simp at h
    ·simp at h
   ·rename_i hf
    split at h
    ·rename_i z hz0
     obtain ⟨ti,zv,hti,hzv,rfl⟩:=uZ hz0
     simp only[Q8,Rb] at h
     obtain ⟨rfl,rfl,rfl⟩:=h
     have hor:=c.obj id (by simp)
     rw[hH] at hor
     obtain ⟨a,ha,hsz,hes⟩:=pZ hor hμ
     have hz:=c.gf _ _ _ _ hμ
     obtain ⟨h1,r',h2,h3⟩:=nH (w:=w) hf hk hsz (fun i hi=>let ⟨y,h1,h2,_⟩:=hes i hi; ⟨y,h1,h2⟩)
     cases r' with
     | some q=>exact h3.elim
     | none =>
      have hmm:=jZ (μ:=μ) (o:=.map (a.push { key:=kv,val:=zv,born:=clock }) (clock+1)) c.cg hz ha
      refine aT.value (w':={ w with heap:=w.heap.setIfInBounds b (.map (a.push { key:=kv,val:=zv,born:=clock }) (clock+1)) }) (μ':=μ) (x:=.tuple #[zv,goInt clock]) ?_ ?_ ⟨rfl,rfl,rfl,by simp⟩ ?_
      ·simp only[Instr.mapEntry,Sem.run_bind,ba hu,Result.andThen_ok,fJ ha,h1,h2,iZ hti hzv,je _ ha,Sem.run_pure]
      ·exact aA.mono hmm.1 (O2 (fN _) (.val _ rfl))
      ·exact ⟨b,o0,s,hμ,rfl,cI _ _ _,hmm.2,dK.Gt hμ c.cg hz ha hsz hes hk (fN _)⟩
    ·simp at h
   ·simp at h
  ·simp at h
 ·simp at h
theorem Bl {t:TypeId} {m s vv:V} {mv sv vvv:Value} (h:jo m s vv H=some (v,eff,rd)) (hm:aA Z μ w.heap m mv) (hs:aA Z μ w.heap s sv) (hv:aA Z μ w.heap vv vvv) (c:Ctx Z μ w.heap H rd n eff) :
  aT Z μ w n v eff ((do Instr.entryStore t mv sv vvv; pure Next.skip:Sem Next).run P w):=by
 unfold jo at h
 split at h
 ·rename_i id q hq
  obtain ⟨k,rfl⟩:=jO hq
  have hsv:=eo hs
  subst hsv
  obtain ⟨b,o0,s,hμ,rfl⟩:=so hm
  split at h
  ·rename_i es clock hH
   split at h
   ·rename_i i hf
    split at h
    ·rename_i k0 v0 b0 he
     simp only[Q8,Rb] at h
     obtain ⟨rfl,rfl,rfl⟩:=h
     have hor:=c.obj id (by simp)
     rw[hH] at hor
     obtain ⟨a,ha,hsz,hes⟩:=pZ hor hμ
     have hz:=c.gf _ _ _ _ hμ
     have hi:=ka he
     obtain ⟨y,g1,g2,g3,g4⟩:=hes i hi
     simp only[Q6,he,Rq] at g2 g3 g4
     have hfind:a.findIdx? (fun e=>(e.born:Int) == (q:Int))=some i:=by
      rw[Array.findIdx?_eq_some_iff_getElem]
      rw[List.findIdx?_eq_some_iff_getElem] at hf
      obtain ⟨hi',hp,hlt⟩:=hf
      refine ⟨by omega,?_,?_⟩
      ·have:a[i]=y:=by have:=g1; rw[Rr (by omega)] at this; simpa using this
       rw[this,g4]
       have:es[i]=(k0,v0,b0):=by have:=he; rw[Q7 hi] at this; simpa using this
       rw[this] at hp
       simp at hp ⊢; omega
      ·intro j hj
       obtain ⟨y2,e1,_,_,e4⟩:=hes j (by omega)
       have h1:a[j]=y2:=by rw[Rr (by omega)] at e1; simpa using e1
       have h2:=hlt j hj
       simp only[Q6,Q7 (show j < es.length by omega),Rq] at e4
       rw[h1,e4]
       simp at h2 ⊢; omega
     refine aT.skip (w':={ w with heap:=w.heap.setIfInBounds b (.map (a.modify i fun e=>{ e with val:=vvv }) clock) }) (μ':=μ) ?_ ⟨rfl,rfl,rfl,by simp⟩ ?_
     ·simp only[Instr.entryStore,Sem.run_bind,Result.andThen_ok,fJ ha,asInt,asIntOf,Sem.run_pure,hfind,je _ ha]
     ·exact ⟨b,o0,s,hμ,rfl,cI _ _ _,(jZ (μ:=μ) c.cg hz ha).2,dK.DK hμ c.cg hz ha hsz hes hi _ (e':={ y with val:=vvv }) (fun y2 hy2=>by rw[g1] at hy2; simp at hy2; subst hy2; rfl) g2 hv g4⟩
    ·simp at h
   ·simp at h
  ·simp at h
 ·simp at h
theorem I9 {t:TypeId} {m k:V} {mv kv:Value} {ats:Array TypeId} {ty:TypeId} (h:sx P t m k H=some (v,eff,rd)) (ha0:ats[0]?=some t) (hm:aA Z μ w.heap m mv) (hk:aA Z μ w.heap k kv) (c:Ctx Z μ w.heap H rd n eff) :
  aT Z μ w n v eff ((do pure (Next.value (← Builtin.delete_ ats ty #[mv,kv])):Sem Next).run P w):=by
 unfold sx at h
 split at h
 ·rename_i kt et id hmt
  have hu:=mK hmt
  obtain ⟨b,o0,s,hμ,rfl⟩:=so hm
  split at h
  ·rename_i es clock hH
   have start:dK Z μ w.heap id (.map es clock)→∀ r,kV P kt k es.isEmpty es=some r→∃ a:Array MapEntry,w.heap[b]?=some (.map a clock)∧a.size=es.length ∧
     (∀ i,i < es.length→∃ y,a[i]?=some y∧aA Z μ w.heap (es.getD i default).1 y.key∧aA Z μ w.heap (es.getD i default).2.1 y.val∧y.born=(es.getD i default).2.2) ∧
     (∀ i,r=some i→(Builtin.delete_ ats ty #[.map (some b),kv]).run P w=.ok (.tuple #[]) { w with heap:=w.heap.setIfInBounds b (.map (a.eraseIdxIfInBounds i) clock) }) ∧
     (r=none→(Builtin.delete_ ats ty #[.map (some b),kv]).run P w=.ok (.tuple #[]) { w with heap:=w.heap.setIfInBounds b (.map a clock) }):=by
    intro hor r hr
    obtain ⟨a,ha,hsz,hes⟩:=pZ hor hμ
    obtain ⟨h1,r',h2,h3⟩:=nH (w:=w) hr hk hsz (fun i hi=>let ⟨y,h1,h2,_⟩:=hes i hi; ⟨y,h1,h2⟩)
    have hemp:a.isEmpty=es.isEmpty:=by
     simp only[Array.isEmpty,hsz]; cases es <;> simp
    refine ⟨a,ha,hsz,hes,fun i hi=>?_,fun hi=>?_⟩
    ·subst hi
     cases r' with
     | none=>exact h3.elim
     | some q =>
      obtain ⟨j,y'⟩:=q
      obtain ⟨rfl,hy⟩:=h3
      simp only[Builtin.delete_,RZ,RA,RS,ha0,Sem.run_bind,ba hu,Result.andThen_ok,fJ ha,hemp,h1,h2,je _ ha,Sem.run_pure]
    ·subst hi
     cases r' with
     | some q=>exact h3.elim
     | none =>
      simp only[Builtin.delete_,RZ,RA,RS,ha0,Sem.run_bind,ba hu,Result.andThen_ok,fJ ha,hemp,h1,h2,je _ ha,Sem.run_pure]
   split at h
   ·rename_i i hf
    simp only[Q8,Rb] at h
    obtain ⟨rfl,rfl,rfl⟩:=h
    have hor:=c.obj id (by simp)
    rw[hH] at hor
    obtain ⟨a,ha,hsz,hes,hrun,_⟩:=start hor _ hf
    have hz:=c.gf _ _ _ _ hμ
    have hmm:=jZ (μ:=μ) (o:=.map (a.eraseIdxIfInBounds i) clock) c.cg hz ha
    refine aT.value (μ':=μ) (hrun i rfl) (.any _) ⟨rfl,rfl,rfl,by simp⟩ ⟨b,o0,s,hμ,rfl,cI _ _ _,hmm.2,?_⟩
    intro b1 q1 s1 hx1
    rw[hμ] at hx1
    simp only[Q8,Rb] at hx1
    obtain ⟨rfl,rfl,rfl⟩:=hx1
    have hel:∀ j,(a.eraseIdxIfInBounds i)[j]?=if j < i then a[j]? else a[j+1]?:=by
     intro j
     have:(a.eraseIdxIfInBounds i)[j]?=(a.toList.eraseIdx i)[j]?:=by rw[← Array.getElem?_toList,Array.toList_eraseIdxIfInBounds]
     rw[this,List.getElem?_eraseIdx]
     split <;> simp
    refine ⟨_,dC (en ha),?_,fun j hj=>?_⟩
    ·rw[← Array.length_toList,Array.toList_eraseIdxIfInBounds,List.length_eraseIdx,List.length_eraseIdx]
     simp[hsz]
    ·have hj2:(es.eraseIdx i).getD j default=if j < i then es.getD j default else es.getD (j+1) default:=by
      simp only[Q6,List.getElem?_eraseIdx]; split <;> rfl
     rw[hel,hj2]
     have hl:(es.eraseIdx i).length≤es.length∧(i < es.length→(es.eraseIdx i).length=es.length - 1):=by
      rw[List.length_eraseIdx]; split <;> omega
     by_cases e:j < i
     ·rw[Ra e,Ra e]
      obtain ⟨y,g1,g2,g3,g4⟩:=hes j (by omega)
      exact ⟨y,g1,g2.mono hmm.1,g3.mono hmm.1,g4⟩
     ·rw[Q9 e,Q9 e]
      have:j+1 < es.length:=by
       rcases Rw i es.length with h9 | h9
       ·have:=hl.2 h9; omega
       ·have:=hl.1; omega
      obtain ⟨y,g1,g2,g3,g4⟩:=hes (j+1) this
      exact ⟨y,g1,g2.mono hmm.1,g3.mono hmm.1,g4⟩
   ·rename_i hf
    simp only[Q8,Rb] at h
    obtain ⟨rfl,rfl,rfl⟩:=h
    have hor:=c.obj id (by simp)
    rw[hH] at hor
    obtain ⟨a,ha,hsz,hes,_,hrun⟩:=start hor _ hf
    have hsame:w.heap.setIfInBounds b (.map a clock)=w.heap:=by
     apply Array.ext_getElem?
     intro k
     simp only[R7]
     split
     ·rename_i hk
      subst hk
      rw[Ra (en ha)]; exact ha.symm
     ·rfl
    have h5:=hrun rfl
    rw[hsame] at h5
    exact aT.here h5 (.any _)
   ·simp at h
  ·simp at h
 ·simp at h
end
section
variable {Z:Nat→Prop} {μ μ':Mu} {w w':World} {P:Program} {H:View} {n:Nat} {v:V} {eff:bf} {rd:List Nat}
theorem OE {t:TypeId} {x:V} {xv:Value} {ats:Array TypeId} {ty:TypeId} (h:rX P t x H=some (v,eff,rd)) (ha0:ats[0]?=some t) (hx:aA Z μ w.heap x xv) (c:Ctx Z μ w.heap H rd n eff) :
  aT Z μ w n v eff ((do pure (Next.value (← Builtin.len_ ats ty #[xv])):Sem Next).run P w):=by
 unfold rX at h
 split at h
 ·rename_i e hu
  simp only[Rf] at h
  obtain ⟨m,hm,h⟩:=h
  simp only[Rb] at h
  obtain ⟨rfl,rfl,rfl⟩:=h
  obtain ⟨ad,cap,rfl,_⟩:=du hx hm
  exact aT.here (x:=goInt m) (by simp[Builtin.len_,ha0,ba hu]) (.val _ rfl)
 ·rename_i k e hu
  split at h
  ·rename_i id
   obtain ⟨b,o0,s,hμ,rfl⟩:=so hx
   split at h
   ·rename_i es clock hH
    simp only[Q8,Rb] at h
    obtain ⟨rfl,rfl,rfl⟩:=h
    have hor:=c.obj id (by simp)
    rw[hH] at hor
    obtain ⟨a,ha,hsz,hes⟩:=pZ hor hμ
    refine aT.here (x:=goInt es.length) ?_ (.val _ rfl)
    simp[Builtin.len_,ha0,ba hu,fJ ha,hsz]
   ·simp at h
  ·simp only[Q8,Rb] at h
   obtain ⟨rfl,rfl,rfl⟩:=h
   have:=eo hx
   subst this
   exact aT.here (x:=goInt 0) (by simp[Builtin.len_,ha0,ba hu]) (.val _ rfl)
  ·simp at h
 ·rename_i hu
  split at h
  ·rename_i s
   simp only[Q8,Rb] at h
   obtain ⟨rfl,rfl,rfl⟩:=h
   have:=eo hx
   subst this
   exact aT.here (x:=goInt s.size) (by simp[Builtin.len_,ha0,ba hu]) (.val _ rfl)
  ·simp at h
 ·rename_i m e hu
  simp only[Q8,Rb] at h
  obtain ⟨rfl,rfl,rfl⟩:=h
  exact aT.here (x:=goInt m) (by simp[Builtin.len_,ha0,ba hu]) (.val _ rfl)
 ·simp at h
theorem xM {b:Nat} {s:ByteArray} {pos:Nat} (h:w.heap[b]?=some (.stringIter s pos)):(getObj b).run P w=.ok (.stringIter s pos) w:=by
 simp[getObj,Sem.run,h]
theorem FJ {b:Nat} {s:ByteArray} {pos:Nat} (o:Obj) (h:w.heap[b]?=some (.stringIter s pos)):(setObj b o).run P w=.ok () { w with heap:=w.heap.setIfInBounds b o }:=by
 simp[setObj,Sem.run,h]
theorem Mq {x:V} {xv:Value} {ty:TypeId} (h:Ai x H=some (v,eff,rd)) (hx:aA Z μ w.heap x xv) (c:Ctx Z μ w.heap H rd n eff) :
  aT Z μ w n v eff ((do pure (Next.value (← Instr.next xv true ty)):Sem Next).run P w):=by
 unfold Ai at h
 split at h
 ·rename_i id
  obtain ⟨b,o0,s,hμ,rfl⟩:=lP hx
  split at h
  ·rename_i st pos hH
   split at h
   ·rename_i hlt
    simp only[Q8,Rb] at h
    obtain ⟨rfl,rfl,rfl⟩:=h
    have hor:=c.obj id (by simp)
    rw[hH] at hor
    obtain ⟨rfl,hb⟩:=hor b o0 s hμ
    have hz:=c.gf _ _ _ _ hμ
    have hs:eP w.heap (w.heap.setIfInBounds b (.stringIter st (pos+(Utf8.decode st pos).2))):=by
     intro k c' e f hk
     by_cases h:b=k
     ·subst h; rw[hb] at hk; simp at hk
     ·exact ⟨c',f,by simp[h,hk],rfl⟩
    refine aT.value (w':={ w with heap:=w.heap.setIfInBounds b (.stringIter st (pos+(Utf8.decode st pos).2)) }) (μ':=μ) (x:=.tuple #[.bool true,goInt pos,.int .i32 (Utf8.decode st pos).1]) ?_ ?_ ⟨rfl,rfl,rfl,by simp⟩ ?_
    ·simp only[Nat.zero_mul,S6,Instr.next,Sem.run_bind,xM hb,Result.andThen_ok,hlt,if_true,FJ _ hb,Sem.run_pure]
    ·refine .bt _ _ rfl (fun i hi=>?_)
     match i,hi with
     | 0,_=>exact .val _ rfl
     | 1,_=>exact .val _ rfl
     | 2,_=>exact .val _ rfl
    ·refine ⟨b,0,s,hμ,rfl,cI _ _ _,hs,?_⟩
     intro b1 q1 s1 hx1
     rw[hμ] at hx1
     simp only[Q8,Rb] at hx1
     obtain ⟨rfl,rfl,rfl⟩:=hx1
     exact ⟨rfl,dC (en hb)⟩
   ·rename_i hlt
    simp only[Q8,Rb] at h
    obtain ⟨rfl,rfl,rfl⟩:=h
    have hor:=c.obj id (by simp)
    rw[hH] at hor
    obtain ⟨rfl,hb⟩:=hor b o0 s hμ
    refine aT.here (x:=.tuple #[.bool false]) ?_ (.bt _ _ rfl (fun i hi=>?_))
    ·simp only[Nat.zero_mul,S6,Instr.next,Sem.run_bind,xM hb,Result.andThen_ok,hlt,if_false,Sem.run_pure]
    ·match i,hi with
     | 0,_=>exact .val _ rfl
  ·simp at h
 ·simp at h
theorem B6:∀ (ns:List Int) (s:ByteArray),ns.foldl (fun r n=>r.push (UInt8.ofNat n.toNat)) s=⟨s.data ++ (ns.map fun n=>UInt8.ofNat n.toNat).toArray⟩
 | [],s=>by simp
 | n :: ns,s=>by
  simp only[Rx,RE]
  rw[B6 ns]
  congr 1
  apply Array.ext'
  simp[ByteArray.push]
theorem Af:∀ (xs:List (List V)) (l:List UInt8),j9 xs=some l→∃ ns:List Int,xs=ns.map (fun n=>[V.val (.int .u8 n)])∧l=ns.map fun n=>UInt8.ofNat n.toNat
 | [],l,h=>by
  simp only[j9,Q8] at h; subst h
  exact ⟨[],rfl,rfl⟩
 | x :: r,l,h=>by
  unfold j9 at h
  split at h
  ·simp at *
  ·rename_i n r' heq
   simp only[Tu] at heq
   obtain ⟨rfl,rfl⟩:=heq
   simp only[Rf] at h
   obtain ⟨l',hl',rfl⟩:=h
   obtain ⟨ns,rfl,rfl⟩:=Af _ _ hl'
   exact ⟨n :: ns,rfl,rfl⟩
  ·simp at h
theorem OA {esz:Nat} {es:List (List V)} {c:Array Value} {e:TypeId} {f:Nat × Nat}
  (hn:μ n=none) (cg:∀ b,Z b→b < w.heap.size) (hf:f.1=f.2∨c.size≤f.1) (hs:es.length * esz≤c.size) (hlen:∀ i,i < es.length→(es.getD i []).length=esz)
  (h:∀ i j,i < es.length→j < esz→∃ x,c[i * esz+j]?=some x∧aA Z μ w.heap ((es.getD i []).getD j .any) x) :
  dK Z (μ.set n (w.heap.size,0,esz)) (w.heap.push (.cells c e f)) n (.arr esz es):=by
 intro b o0 s hx
 simp only[Mu.set,if_true,Q8,Rb] at hx
 obtain ⟨rfl,rfl,rfl⟩:=hx
 have hm:gj Z Z μ (μ.set n (w.heap.size,0,esz)) w.heap (w.heap.push (.cells c e f)):=by
  refine ⟨fun _ h=>h,fun b hb=>?_,fun id x hx=>?_,?_⟩
  ·have:=cg b hb
   rw[S3,Q9 (by omega)]
  ·by_cases hid:id=n
   ·subst hid; simp[hn] at hx
   ·simp[Mu.set,hid,hx]
  ·intro b c' e' f' hb
   have:=en hb
   exact ⟨c',_,by rw[S3,Q9 (by omega)]; exact hb,rfl⟩
 refine ⟨rfl,⟨c,e,f,by simp,hf,by simpa using hs⟩,hlen,fun i j hi hj=>?_⟩
 obtain ⟨x,hx,hv⟩:=h i j hi hj
 exact ⟨x,by simp[cellAt,hx],hv.mono hm⟩
theorem F5 {b:Nat} {c:Array Value} {e:TypeId} {f:Nat × Nat} (h:w.heap[b]?=some (.cells c e f)) :
  ∃ f',(w.freeze ⟨b,c.size,none⟩ 1) = { w with heap:=w.heap.setIfInBounds b (.cells c e f') }∧((f.1=f.2∨c.size≤f.1)→(f'.1=f'.2∨c.size≤f'.1)):=by
 obtain ⟨lo,up⟩:=f
 refine ⟨if lo == up then (c.size,c.size+1) else (min lo c.size,max up (c.size+1)),?_,fun hf=>?_⟩
 ·unfold World.freeze
  rw[Q9 (by omega)]
  congr 1
  apply Array.ext_getElem?
  intro i
  simp only[Array.getElem?_modify,R7]
  by_cases hi:b=i
  ·subst hi
   have hlt:=en h
   have hb:w.heap[b]=.cells c e (lo,up):=by simpa [Rr hlt] using h
   simp[hb,hlt]
  ·simp[hi]
 ·right
  simp only at hf
  split
  ·exact Ri _
  ·rename_i hne
   simp only[Sd] at hne
   simp only; omega
theorem FI {s d:TypeId} {x:V} {xv:Value} (h:ll P s d x H n=some (v,eff,rd)) (hx:aA Z μ w.heap x xv) (c:Ctx Z μ w.heap H rd n eff) :
  aT Z μ w n v eff ((do pure (Next.value (← convert s d xv)):Sem Next).run P w):=by
 unfold ll at h
 split at h
 ·rename_i e hs hd
  split at h
  ·rename_i he
   split at h
   ·rename_i xs rdx m hel hlv
    simp only[Rf] at h
    obtain ⟨l,hl,h⟩:=h
    simp only[Rb] at h
    obtain ⟨rfl,rfl,rfl⟩:=h
    obtain ⟨ns,rfl,rfl⟩:=Af _ _ hl
    obtain ⟨ad,cap,rfl,_⟩:=du hx hlv
    have hlen:=(wx (P:=P) (size:=1) hel hx).1
    simp only[Builtin.lenOf,Sem.run_pure,Result.ok.injEq,Ro,and_true] at hlen
    subst hlen
    obtain ⟨fl,hfl,_,hfirst⟩:=nE (P:=P) (size:=1) hel hx c.obj (by simp)
    have hf:=hfirst _ (Ri _)
    have hfll:fl.size=ns.length:=by have:=hfl.len; simpa using this
    rw[iF fl (by simpa using hfl.len)] at hf
    have hfeq:fl=(ns.map (Value.int .u8)).toArray:=by
     apply Array.ext
     ·simp[hfll]
     ·intro i h1 h2
      have hi:i < ns.length:=by omega
      have:=hfl.rel i 0 (by simpa using hi) (by omega)
      simp only[Q6,Rc,Q7 hi,Rk,Rq,RA,Nat.mul_one,S6,Rh,Rr h1] at this
      have:=eo this
      simpa using this
    have hrun:(Conv.bytesToString (.slice ad ns.length cap)).run P w=.ok (.string ⟨(ns.map fun n=>UInt8.ofNat n.toNat).toArray⟩) w:=by
     cases ad with
     | none =>
      have:ns=[]:=by
       simp only[Builtin.firstCells,Sem.run_pure,Result.ok.injEq,and_true] at hf
       rw[← hf] at hfll
       simp at hfll
       exact SV.1 hfll.symm
      subst this
      rfl
     | some a =>
      have h9:(loadCells a ns.length).run P w=.ok (ns.map (Value.int .u8)).toArray w:=by
       rw[← hfeq]
       simpa [Builtin.firstCells] using hf
      rw[run_bytesToString w a ns.length cap ns h9,B6]
      congr 2
      simp
    refine aT.here (x:=.string ⟨(ns.map fun n=>UInt8.ofNat n.toNat).toArray⟩) ?_ (.val _ rfl)
    rw[run_convert_bytes_string w s d e ad ns.length cap hs he hd]
    exact hrun
   ·simp at h
  ·simp at h
 ·rename_i e st hs hd
  split at h
  ·rename_i he
   simp only[Q8,Rb] at h
   obtain ⟨rfl,rfl,rfl⟩:=h
   unfold fU
   have:=eo hx
   subst this
   have hcap:st.size≤grownCap w st.size 0 e:=by
    unfold grownCap Question.cut; exact Nat.le_add_right _ _
   have hbs:(bytesRow st (grownCap w st.size 0 e)).size=grownCap w st.size 0 e:=by
    simp only[bytesRow,Array.size_append,Array.size_map,Array.size_replicate]
    have:st.data.size=st.size:=rfl
    omega
   refine aT.value (μ':=μ.set n (w.heap.size,0,1)) (run_bytes_of_string w s d e st hs hd he) ?_ (jG _ _) ?_
   ·rw[heap_alloc,ej]
    have:=aA.sl (Z:=Z) (μ:=μ.set n (w.heap.size,0,1)) (hp:=w.heap.push (.cells (bytesRow st (grownCap w st.size 0 e)) e ((bytesRow st (grownCap w st.size 0 e)).size,(bytesRow st (grownCap w st.size 0 e)).size+1))) n 0 st.size 1 w.heap.size 0 (grownCap w st.size 0 e) _ e _ (by simp[Mu.set]) hcap (by simp; exact ⟨rfl,rfl⟩) (by rw[hbs]; simp)
    simpa using this
   ·refine ⟨w.heap.size,0,1,Ri _,by rw[heap_alloc,ej]; simp,rfl,by rw[heap_alloc,ej]; exact dX _ _,?_⟩
    rw[heap_alloc,ej]
    have hl:(st.data.toList.map fun b=>([V.val (Value.int .u8 b.toNat)]:List V)).length=st.size:=by rw[Ro,bsize]
    refine OA c.new c.cg (.inr (Ri _)) (by rw[hl,hbs]; omega) ?_ ?_
    ·intro i hi
     have hi':i < st.data.toList.length:=by simpa using hi
     simp only[Q6,Rc,Q7 hi',Rk,Rq,Rp,RF]
    ·intro i j hi hj
     obtain rfl:j=0:=by omega
     have hi':i < st.data.size:=by simpa using hi
     refine ⟨.int .u8 (st.data[i]).toNat,?_,?_⟩
     ·simp only[bytesRow,Nat.mul_one,S6]
      rw[Su (by simpa using hi'),Array.getElem?_map,Rr hi']
      rfl
     ·simp only[Q6,Rc,Array.getElem?_toList,Rr hi',Rk,Rq,RA]
      exact .val _ rfl
  ·simp at h
 ·rename_i e1 e2 id off len esz hs hd
  split at h
  ·rename_i hc
   obtain ⟨hsd,hl0⟩:=hc
   subst hsd
   rw[hs] at hd
   simp only[Q8,TypeDesc.slice.injEq] at hd
   subst hd
   split at h
   ·rename_i he
    split at h
    ·rename_i z es hH
     simp only[Q8,Rb] at h
     obtain ⟨rfl,rfl,rfl⟩:=h
     have hor:=c.obj id (by simp)
     rw[hH] at hor
     cases hx with
     | nh=>exact absurd rfl hl0
     | sl _ _ _ _ b o0 cap cc e' f hm hle hbk hsp =>
      obtain ⟨rfl,⟨c2,e2,f2,hc2,hf2,hs2⟩,h3,h4⟩:=hor b o0 esz hm
      rw[hbk] at hc2
      simp only[Q8,Obj.cells.injEq] at hc2
      obtain ⟨rfl,rfl,rfl⟩:=hc2
      obtain ⟨f',hfz,hff⟩:=F5 hbk
      have hz:=c.gf _ _ _ _ hm
      have hbl:=en hbk
      have hm':gj Z Z μ μ w.heap (w.heap.setIfInBounds b (.cells cc e' f')):=by
       refine ⟨fun _ h=>h,fun k hk=>cI w.heap b _ k (c.cg k hk) (fun e=>hz (e ▸ hk)),fun _ _ h=>h,?_⟩
       intro k x e0 f0 hk
       by_cases hb:b=k
       ·subst hb
        rw[hbk] at hk
        simp only[Q8,Obj.cells.injEq] at hk
        obtain ⟨rfl,rfl,rfl⟩:=hk
        exact ⟨cc,f',dC hbl,rfl⟩
       ·exact ⟨x,f0,by simp[hb,hk],rfl⟩
      refine aT.value (w':={ w with heap:=w.heap.setIfInBounds b (.cells cc e' f') }) (μ':=μ) (x:=.slice (some ⟨b,o0+off * esz,none⟩) len cap) ?_ ((aA.sl id off len esz b o0 cap cc e' f hm hle hbk hsp).mono hm') ⟨rfl,rfl,rfl,by simp⟩ ?_
      ·have hsh:w.shape? b=some (e',cc.size):=by simp[World.shape?,hbk]
       simp only[convert,Sem.run_bind,ba hs,Result.andThen_ok,ba he,SP,markStringish,run_shape,hsh,run_freeze,hfz,Sem.run_pure]
      ·refine ⟨b,o0,esz,hm,rfl,cI _ _ _,hm'.shape,?_⟩
       intro b1 q1 s1 hx1
       rw[hm] at hx1
       simp only[Q8,Rb] at hx1
       obtain ⟨rfl,rfl,rfl⟩:=hx1
       refine ⟨rfl,⟨cc,e',f',dC hbl,hff hf2,hs2⟩,h3,fun i j hi hj=>?_⟩
       obtain ⟨x,hx,hv⟩:=h4 i j hi hj
       refine ⟨x,?_,hv.mono hm'⟩
       simp only[cellAt,dC hbl]
       simpa only [cellAt,hbk] using hx
    ·simp at h
   ·simp at h
  ·simp at h
 ·simp at h
theorem pR {o:Oper} {T:Env} {a:Act} (h:dp P o T=some (v,eff,rd)) (hT:∀ x∈o.op.operands,aA Z μ w.heap (ev T x) (a.eval x))
  (hc:∀ ρ:Operand→Value,(∀ x∈o.op.operands,ρ x=a.eval x)→execOp ρ o=execOp a.eval o):aT Z μ w n v eff ((execOp a.eval o).run P w):=by
 unfold dp at h
 split at h
 ·rename_i hall
  split at h
  ·rename_i x hx
   split at h
   ·rename_i hp
    simp only[Q8,Rb] at h
    obtain ⟨rfl,rfl,rfl⟩:=h
    rw[hc] at hx
    ·exact ⟨.value x,w,μ,ot _ hx w,.inl ⟨x,rfl,.val _ hp⟩,dT.refl _,ib⟩
    ·intro y hy
     rw[Array.all_eq_true_iff_forall_mem] at hall
     obtain ⟨z,hz⟩:=Option.isSome_iff_exists.1 (hall y hy)
     rw[hz]
     exact oT (hT y hy) hz
   ·simp at h
  ·simp at h
 ·simp at h
theorem x8 {T:Env} {a:Act} : ∀ (l:List (Nat × Operand)),(∀ x∈l.map (·.2),aA Z μ w.heap (ev T x) (a.eval x))→AW Z μ w.heap (l.map fun (i,x)=>(i,ev T x)) (l.map fun (i,x)=>(i,a.eval x))
 | [],_=>trivial
 | (i,x) :: r,h=>⟨rfl,h x (by simp),x8 r (fun y hy=>h y (by simp at hy ⊢; exact .inr hy))⟩
theorem G9 {T:Env} {a:Act} (xs:Array Operand) (h:∀ x∈xs,aA Z μ w.heap (ev T x) (a.eval x)) :
  (xs.toList.map (ev T)).length=(xs.map a.eval).size∧∀ i,i < (xs.toList.map (ev T)).length→aA Z μ w.heap ((xs.toList.map (ev T)).getD i .any) ((xs.map a.eval).getD i undef):=by
 refine ⟨by simp,fun i hi=>?_⟩
 have hi':i < xs.size:=by simpa using hi
 have:=h xs[i] (Array.getElem_mem _)
 simpa [Q6,Rh,hi'] using this
theorem AT {T:Env} {a:Act} (o:Option Operand) (h:∀ x∈o.toArray,aA Z μ w.heap (ev T x) (a.eval x)):vi Z μ w.heap (o.map (ev T)) (o.map a.eval):=by
 cases o with
 | none=>trivial
 | some x=>exact h x (by simp)
theorem OY {cs:List V} {x:Value} {t:TypeId} (h:kE cs n=some (v,eff,rd)) (hr:cs.all aS=true→fi Z μ w.heap cs x.cells.toList) (c:Ctx Z μ w.heap H rd n eff) :
  aT Z μ w n v eff ((do pure (Next.value (← Instr.box t x)):Sem Next).run P w):=by
 have:=Gc (P:=P) (t:=t) h hr c
 simpa [Instr.box] using this
end
end Gv
