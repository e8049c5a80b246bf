/-
  Part 2 of the proof: what the machine does and what the functions answer.
  Conditions: those that each lemma names.
-/
import Derived.Laws.BytesString
import Derived.Laws.IdiomStrings
import Derived.Test.YtihmlbdfcmfbdaaGreatSGzB2A
set_option linter.unusedSimpArgs false
set_option linter.unusedVariables false
set_option maxRecDepth 100000
namespace Gv
open Go
section
variable {Z:Nat→Prop} {μ μ':Mu} {w w':World} {P:Program} {H:View} {n:Nat} {v:V} {eff:bC} {rd:List Nat}
theorem NO {t1:TypeId} (hno:pR P t1=true):∃ d,P.underlying t1=some d∧∀ k,d≠.int k:=by
 unfold pR at hno
 cases hu:P.underlying t1 with
 | none=>simp[hu] at hno
 | some d=>refine ⟨d,rfl,fun k e=>?_⟩; subst e; simp[hu] at hno
theorem BA {t0 t1 e:TypeId} {ti:TypeInfo} {ats:Array TypeId} {ty:TypeId} {base:Option Addr} {sLen sCap m:Nat} {xv:Value} {new:Array Value}
  (ha0:ats[0]?=some t0) (ha1:ats[1]?=some t1) (hno:pR P t1=true) (hund:P.underlying t0=some (.slice e)) (hti:P.info? e=some ti)
  (hl:(Builtin.lenOf xv).run P w=.ok m w) (hle:sLen+m≤sCap) (hn:(Builtin.firstCells ti.size m xv).run P w=.ok new w)
  (hst:(match base with | some a=>storeCells (a.add (sLen * ti.size)) new.toList | none=>pure ()).run P w=.ok () w') :
  (Builtin.append_ ats ty #[.slice base sLen sCap,xv]).run P w=.ok (.slice base (sLen+m) sCap) w':=by
 obtain ⟨d,hd,hdi⟩:=NO hno
 cases d with
 | int k=>exact absurd rfl (hdi k)
 | _ =>
 simp only[Builtin.append_,U2,UC,UP,ha0,ha1,Sem.run_bind,bA hund,Result.andThen_ok,dH hti,bA hd,Sem.run_pure,Ut,if_false,hl,Bool.not_false,if_true]
 rw[T9 hle]
 simp only[Sem.run_bind,hn,Result.andThen_ok,Sem.run_pure]
 cases base with
 | none=>simp only[Sem.run_pure,Result.ok.injEq,true_and] at hst; subst hst; rfl
 | some a=>simp only[Sem.run_bind,hst,Result.andThen_ok,Sem.run_pure]
theorem Cl (v:Value):(fi v).cells.length=v.cells.size:=by
 have h1:∀ v,(om v).cells.length=1:=by
  intro v
  have:∀ x:V,(∀ cs,x≠.agg cs)→x.cells.length=1:=by
   intro x hx
   cases x <;> first | rfl | (rename_i cs; exact absurd rfl (hx cs))
  apply this
  intro cs
  cases v with
  | slice a len cap =>
   cases a with
   | none =>
    cases len with
    | zero=>cases cap <;> simp[om]
    | succ l=>simp[om]
   | some a=>simp[om]
  | _=>simp only[om]; split <;> simp
 cases v with
 | agg cs=>simp[fi,V.cells,Value.cells]
 | func fn a b =>
  cases fn with
  | func f=>simp only[fi]; split <;> simp[V.cells,Value.cells]
  | _=>simp only[fi]; rw[h1]; rfl
 | _=>simp only[fi]; rw[h1]; rfl
theorem Nu {e:TypeId} {ti:TypeInfo} (hti:P.info? e=some ti) (hz:(zeroCells P e).map List.length=some ti.size):∃ zc:Array Value,zc.size=ti.size∧∀ w',∃ zv,(zeroValue e).run P w'=.ok zv w'∧zv.cells=zc:=by
 cases hzz:zeroCells P e with
 | none=>simp[hzz] at hz
 | some z =>
  obtain ⟨zv,hzv,rfl⟩:=iH hti hzz
  refine ⟨zv.cells,?_,fun w'=>⟨zv,jA hti hzv w',rfl⟩⟩
  rw[hzz] at hz
  simp at hz
  rw[← hz,Cl]
theorem eR (w:World):w.drew.heap=w.heap:=rfl
theorem j5 (w:World) (o:Obj):eE w (w.drew.alloc o):=⟨rfl,rfl,rfl,by rw[heap_alloc,eR]; simp⟩
theorem mz {l r:List (List V)} {i:Nat} (h:i < l.length):(l ++ r).getD i []=l.getD i []:=by
 simp[T0,Us h]
theorem lE {l r:List (List V)} {i:Nat} (h:l.length≤i):(l ++ r).getD i []=r.getD (i - l.length) []:=by
 simp[T0,UH h]
theorem Eu {e:TypeId} {size:Nat} {ys xs:List (List V)} {old fl rest:Array Value} (hn:μ n=none) (cL:∀ b,Z b→b < w.heap.size)
  (h1:Flat Z μ w.heap size ys old) (h2:Flat Z μ w.heap size xs fl) (s1:∀ e∈ys,e.length=size) (s2:∀ e∈xs,e.length=size) :
  en Z (μ.set n (w.heap.size,0,size)) (w.heap.push (.cells (old ++ fl ++ rest) e (0,0))) n (.arr size (ys ++ xs)):=by
 refine en.newRow hn cL ?_ ?_ ?_
 ·simp[h1.len,h2.len,US]
 ·intro i hi
  by_cases hl:i < ys.length
  ·rw[mz hl]
   simp only[T0,T4 hl,Un]
   exact s1 _ (Ud _)
  ·have hl':i - ys.length < xs.length:=by simp at hi; omega
   rw[lE (by omega)]
   simp only[T0,T4 hl',Un]
   exact s2 _ (Ud _)
 ·intro i j hi hj
  by_cases hl:i < ys.length
  ·have hlt:i * size+j < old.size:=by rw[h1.len]; exact fK hl hj
   refine ⟨old[i * size+j],?_,?_⟩
   ·rw[Vo (by simp; omega),Vo hlt,Up hlt]
   ·rw[mz hl]
    have:=h1.rel i j hl hj
    simpa only [Ui,Up hlt,Un] using this
  ·have hl':i - ys.length < xs.length:=by simp at hi; omega
   have hlt:(i - ys.length) * size+j < fl.size:=by rw[h2.len]; exact fK hl' hj
   have e1:i * size+j - old.size=(i - ys.length) * size+j:=by
    rw[h1.len,Nat.sub_mul]
    have:ys.length * size≤i * size:=UJ _ (by omega)
    omega
   have e2:old.size≤i * size+j:=by
    rw[h1.len]
    have:ys.length * size≤i * size:=UJ _ (by omega)
    omega
   refine ⟨fl[(i - ys.length) * size+j],?_,?_⟩
   ·rw[Vo (by simp; omega),Array.getElem?_append_right e2,e1,Up hlt]
   ·rw[lE (by omega)]
    have:=h2.rel _ j hl' hj
    simpa only [Ui,Up hlt,Un] using this
theorem IP {size:Nat} {xs:List (List V)} (h:(xs.all fun e=>e.length == size && e.all aX)=true):(∀ e∈xs,e.length=size)∧∀ e∈xs,e.all aX=true:=by
 refine ⟨fun e he=>?_,fun e he=>?_⟩
 ·have:=UE.1 h e he
  simp only[Uh,Va] at this
  exact this.1
 ·have:=UE.1 h e he
  simp only[Uh,Va] at this
  exact this.2
theorem lj {ad:Option Addr} {len cap size:Nat} : (Builtin.firstCells size 0 (.slice ad len cap)).run P w=.ok #[] w:=by
 cases ad with
 | none=>simp[Builtin.firstCells]
 | some a=>simp[Builtin.firstCells,loadCells,loadCellsFrom]
theorem yi {x:V} {xv:Value} {xs:List (List V)} {size:Nat} (he:bX H x=some (xs,rd)) (hx:aF Z μ w.heap x xv) :
  (Builtin.lenOf xv).run P w=.ok xs.length w∧(Builtin.firstCells size 0 xv).run P w=.ok #[] w:=by
 unfold bX at he
 split at he
 ·simp only[T7,Ua] at he
  obtain ⟨rfl,_⟩:=he
  obtain ⟨ad,cap,rfl,_⟩:=dS hx rfl
  exact ⟨rfl,lj⟩
 ·simp only[T7,Ua] at he
  obtain ⟨rfl,_⟩:=he
  obtain ⟨ad,cap,rfl,_⟩:=dS hx rfl
  exact ⟨rfl,lj⟩
 ·simp only[T7,Ua] at he
  obtain ⟨rfl,_⟩:=he
  obtain ⟨ad,cap,rfl,_⟩:=dS hx rfl
  exact ⟨rfl,lj⟩
 ·simp only[T7,Ua] at he
  obtain ⟨rfl,_⟩:=he
  obtain ⟨ad,cap,rfl,_⟩:=dS hx rfl
  exact ⟨rfl,lj⟩
 ·split at he
  ·split at he
   ·rename_i hle
    simp only[T7,Ua] at he
    obtain ⟨rfl,_⟩:=he
    obtain ⟨ad,cap,rfl,_⟩:=dS hx rfl
    refine ⟨?_,lj⟩
    rw[UN,List.length_drop,V2 (by omega)]; rfl
   ·simp at he
  ·simp at he
 ·rename_i str
  simp only[T7,Ua] at he
  obtain ⟨rfl,_⟩:=he
  have hv:=eT hx
  subst hv
  refine ⟨by rw[Uc,bsize]; rfl,?_⟩
  have:(str.extract 0 0).data = #[]:=by rw[ByteArray.data_extract]; simp
  simp[Builtin.firstCells,this]
 ·simp at he
theorem ja (fl:Array Value) {k:Nat} (h:fl.size=k):fl.extract 0 k=fl:=by subst h; simp
theorem DL {t0 t1 e:TypeId} {ti:TypeInfo} {ats:Array TypeId} {ty:TypeId} {base:Option Addr} {sLen sCap:Nat} {x:V} {xv:Value} {xs ys:List (List V)} {rdx:List Nat} {old:Array Value}
  (ha0:ats[0]?=some t0) (ha1:ats[1]?=some t1) (hno:pR P t1=true) (hund:P.underlying t0=some (.slice e)) (hti:P.info? e=some ti) (hzs:(zeroCells P e).map List.length=some ti.size)
  (he:bX H x=some (xs,rdx)) (hx:aF Z μ w.heap x xv) (hn:μ n=none) (c:Ctx Z μ w.heap H rd n eff) (hrd:∀ id,id∈rdx→id∈rd) (hl:∀ e∈xs,e.length=ti.size) (hys:ys.length=sLen) (hgt:sCap < sLen+xs.length)
  (hb1:(sLen+xs.length) * ti.bytes < aK) (hb2:sLen+xs.length < aK) (hold:Flat Z μ w.heap ti.size ys old) (hyl:∀ e∈ys,e.length=ti.size)
  (ho:(Builtin.firstCells ti.size sLen (.slice base sLen sCap)).run P w.drew=.ok old w.drew) :
  ∃ xr w',(Builtin.append_ ats ty #[.slice base sLen sCap,xv]).run P w=.ok xr w'∧aF Z (μ.set n (w.heap.size,0,ti.size)) w'.heap (.sl n 0 (sLen+xs.length) ti.size) xr∧eE w w' ∧
   w.heap.size < w'.heap.size∧fV w.heap w'.heap (fun _=>False)∧en Z (μ.set n (w.heap.size,0,ti.size)) w'.heap n (.arr ti.size (ys ++ xs)):=by
 obtain ⟨zc,hzs',hzc⟩:=Nu hti hzs
 have hobj:∀ id,id∈rdx→en Z μ w.heap id (H id):=fun id h=>c.obj id (hrd id h)
 obtain ⟨fl,hfl,hlen,hfirst⟩:=py (P:=P) he hx hobj hl
 obtain ⟨fl2,hfl2,_,hfirst2⟩:=py (P:=P) (w:=w.drew) he hx hobj hl
 have h5:=hfirst2 _ (Ug _)
 rw[ja fl2 hfl2.len] at h5
 obtain ⟨cap,hcap,hrun⟩:=Ik (P:=P) (w:=w) (ty:=ty) ha0 ha1 hno hund hti hlen hgt hb1 hb2 hzc ho h5
 refine ⟨_,_,hrun,?_,j5 _ _,by rw[heap_alloc,eR]; simp,by rw[heap_alloc,eR]; exact eF _ _,by rw[heap_alloc,eR]; exact Eu hn c.cL hold hfl2 hyl hl⟩
 rw[heap_alloc,eR]
 have hrest:(Builtin.zeroCells zc (cap - (sLen+xs.length))).size=(cap - (sLen+xs.length)) * ti.size:=by simp[Builtin.zeroCells,hzs']
 have hsum:cap * ti.size=sLen * ti.size+xs.length * ti.size+(cap - (sLen+xs.length)) * ti.size:=by
  rw[← US,← US]; congr 1; omega
 have:=aF.sl (Z:=Z) (μ:=μ.set n (w.heap.size,0,ti.size)) (hp:=w.heap.push (.cells (old ++ fl2 ++ Builtin.zeroCells zc (cap - (sLen+xs.length))) e (0,0))) n 0 (sLen+xs.length) ti.size w.heap.size 0 cap _ e (0,0) (by simp[Mu.set]) hcap (by simp; rfl)
  (by simp only[Array.size_append,hold.len,hfl2.len,hrest,hys,U3]; omega)
 simpa using this
theorem PH {b o0 s:Nat} {cc c':Array Value} {e:TypeId} {f:Nat × Nat} (hn:μ n=none) (cL:∀ b,Z b→b < w.heap.size) (hz:¬ Z b) (hb:w.heap[b]?=some (.cells cc e f)) (hs:c'.size=cc.size) :
  gR Z Z μ (μ.set n (b,o0,s)) w.heap (w.heap.setIfInBounds b (.cells c' e f)):=by
 refine ⟨fun _ h=>h,fun k hk=>de w.heap b _ k (cL k hk) (fun e=>hz (e ▸ hk)),fun id x hx=>?_,iW hb hs⟩
 by_cases hid:id=n
 ·subst hid; simp[hn] at hx
 ·simp[Mu.set,hid,hx]
theorem OR {t0 t1 e:TypeId} {ti:TypeInfo} {ats:Array TypeId} {ty:TypeId} {x:V} {xv:Value} {xs es:List (List V)} {rdx:List Nat} {id off len b o0 cap:Nat} {cc:Array Value} {e':TypeId} {f:Nat × Nat}
  (ha0:ats[0]?=some t0) (ha1:ats[1]?=some t1) (hno:pR P t1=true) (hund:P.underlying t0=some (.slice e)) (hti:P.info? e=some ti)
  (he:bX H x=some (xs,rdx)) (hx:aF Z μ w.heap x xv) (hn:μ n=none) (c:Ctx Z μ w.heap H rd n eff) (hrd:∀ id,id∈rdx→id∈rd) (hl:∀ e∈xs,e.length=ti.size) (hok:∀ e∈xs,e.all aX=true)
  {esz':Nat} (_:H id=.arr esz' es) (hor:en Z μ w.heap id (.arr ti.size es)) (hm:μ id=some (b,o0,ti.size)) (hb0:off+len≤es.length) (hle:len≤cap)
  (hbk:w.heap[b]?=some (.cells cc e' f)) (hsp:o0+(off+cap) * ti.size≤cc.size) (hfit:len+xs.length≤cap) :
  bk Z μ w n (.sl n 0 (len+xs.length) ti.size) (.bP id (.arr ti.size ((es.drop off).take len ++ xs)))
   ((do pure (Next.value (← Builtin.append_ ats ty #[.slice (some ⟨b,o0+off * ti.size,none⟩) len cap,xv])):Sem Next).run P w):=by
 obtain ⟨_,⟨c2,e2,f2,hc2,hf2,hs2⟩,h3,h4⟩:=hor b o0 ti.size hm
 rw[hbk] at hc2
 simp only[T7,Obj.cells.injEq] at hc2
 obtain ⟨rfl,rfl,rfl⟩:=hc2
 obtain ⟨fl,hfl,hlen,hfirst⟩:=py (P:=P) he hx (fun id h=>c.obj id (hrd id h)) hl
 have h5:=hfirst _ (Ug _)
 rw[ja fl hfl.len] at h5
 have hz:=c.gM _ _ _ _ hm
 have hmul:(off+cap) * ti.size=off * ti.size+cap * ti.size:=US _ _ _
 have hmul2:len * ti.size+xs.length * ti.size≤cap * ti.size:=by rw[← US]; exact UJ _ hfit
 have hfll:fl.toList.length=xs.length * ti.size:=by rw[Array.length_toList,hfl.len]
 obtain ⟨c',hst,hcs,hcell⟩:=uj (P:=P) (off:=o0+off * ti.size+len * ti.size) hbk (p9 hf2) fl.toList (by rw[hfll]; omega) (AA hfl hl hok)
 have hbl:=eQ hbk
 have hm':=PH (o0:=o0+off * ti.size) (s:=ti.size) hn c.cL hz hbk hcs
 have hyl:((es.drop off).take len).length=len:=by simp; omega
 have hget:∀ i,i < len→((es.drop off).take len ++ xs).getD i []=es.getD (off+i) []:=by
  intro i hi
  rw[mz (by omega)]
  simp[T0,Vv,hi]
 have hget2:∀ i,len≤i→((es.drop off).take len ++ xs).getD i []=xs.getD (i - len) []:=by
  intro i hi
  rw[lE (by omega),hyl]
 refine bk.value (w':={ w with heap:=w.heap.setIfInBounds b (.cells c' e' f) }) (μ':=μ.set n (b,o0+off * ti.size,ti.size)) (BA ha0 ha1 hno hund hti hlen hfit h5 (by simpa only [jo] using hst)) ?_ ⟨rfl,rfl,rfl,by simp⟩ ?_
 ·have:=aF.sl (Z:=Z) (μ:=μ.set n (b,o0+off * ti.size,ti.size)) (hp:=w.heap.setIfInBounds b (.cells c' e' f)) n 0 (len+xs.length) ti.size b (o0+off * ti.size) cap c' e' f (by simp[Mu.set]) hfit (dX hbl) (by rw[hcs,U3]; omega)
  simpa using this
 ·refine ⟨b,o0+off * ti.size,ti.size,rfl,?_,.inr ⟨⟨o0,ti.size,hm⟩,de _ _ _,iW hbk hcs⟩⟩
  intro b1 q1 s1 hx1
  simp only[Mu.set,if_true,T7,Ua] at hx1
  obtain ⟨rfl,rfl,rfl⟩:=hx1
  have htot:((es.drop off).take len ++ xs).length=len+xs.length:=by rw[UX,hyl]
  refine ⟨rfl,⟨c',e',f,dX hbl,by rw[hcs]; exact hf2,by rw[htot,hcs,US]; omega⟩,?_,?_⟩
  ·intro i hi
   rw[htot] at hi
   by_cases hil:i < len
   ·rw[hget i hil]; exact h3 _ (by omega)
   ·rw[hget2 i (by omega)]
    have hl':i - len < xs.length:=by omega
    simp only[T0,T4 hl',Un]
    exact hl _ (Ud _)
  ·intro i j hi hj
   rw[htot] at hi
   show ∃ y,cellAt (w.heap.setIfInBounds b (.cells c' e' f)) b (o0+off * ti.size+i * ti.size+j)=some y∧_
   rw[hcell,hfll]
   by_cases hil:i < len
   ·have h6:i * ti.size+j < len * ti.size:=fK hil hj
    rw[T6 (by omega),hget i hil]
    obtain ⟨y,hy,hv⟩:=h4 (off+i) j (by omega) hj
    rw[US] at hy
    exact ⟨y,by rw[← hy]; congr 1; omega,hv.mono hm'⟩
   ·have hl':i - len < xs.length:=by omega
    have h6:(i - len) * ti.size+j < xs.length * ti.size:=fK hl' hj
    have h7:i * ti.size=len * ti.size+(i - len) * ti.size:=by rw[← US]; congr 1; omega
    rw[T9 (by omega),hget2 i (by omega)]
    have hlt:(i - len) * ti.size+j < fl.size:=by rw[hfl.len]; exact h6
    refine ⟨fl[(i - len) * ti.size+j],?_,?_⟩
    ·rw[show o0+off * ti.size+i * ti.size+j - (o0+off * ti.size+len * ti.size)=(i - len) * ti.size+j from by omega]
     simp[hlt]
    ·have:=(hfl.rel _ j hl' hj).mono hm'
     simpa only [Ui,Up hlt,Un] using this
theorem Lf {t0 t1:TypeId} {ats:Array TypeId} {ty:TypeId} {s x:V} {sv xv:Value} (h:mN P t0 s x H n=some (v,eff,rd)) (ha0:ats[0]?=some t0) (ha1:ats[1]?=some t1) (hno:pR P t1=true)
  (hs:aF Z μ w.heap s sv) (hx:aF Z μ w.heap x xv) (c:Ctx Z μ w.heap H rd n eff) :
  bk Z μ w n v eff ((do pure (Next.value (← Builtin.append_ ats ty #[sv,xv])):Sem Next).run P w):=by
 unfold mN at h
 split at h
 ·rename_i e xs rdx hu he
  have hund:P.underlying t0=some (.slice e):=by
   unfold cW at hu; split at hu <;> simp_all
  split at h
  ·simp at h
  ·rename_i ti hti
   split at h
   ·rename_i hxs
    have hxs:xs=[]:=by simpa using hxs
    subst hxs
    have fin:∀ m,cG s=some m→some (s,bC.none,([]:List Nat))=some (v,eff,rd)→bk Z μ w n v eff ((do pure (Next.value (← Builtin.append_ ats ty #[sv,xv])):Sem Next).run P w):=by
     intro m hm heq
     simp only[T7,Ua] at heq
     obtain ⟨rfl,rfl,rfl⟩:=heq
     obtain ⟨ad,cap,rfl,hle⟩:=dS hs hm
     have hel:=yi (P:=P) (size:=ti.size) he hx
     refine bk.here (BA ha0 ha1 hno hund hti hel.1 (by omega) hel.2 ?_) hs
     cases ad <;> simp[storeCells]
    split at h
    ·exact fin 0 rfl h
    ·exact fin 0 rfl h
    ·exact fin _ rfl h
    ·exact fin _ rfl h
    ·simp at h
   ·rename_i hxs
    have hxs:xs≠[]:=by simpa using hxs
    have hpos:0 < xs.length:=VY.2 hxs
    split at h
    ·simp at h
    ·rename_i hcond
     simp only[not_or,Bool.not_eq_false,Classical.not_not] at hcond
     obtain ⟨hsz0,hzs,hall⟩:=hcond
     obtain ⟨hl,hok⟩:=IP hall
     split at h
     ·split at h
      ·rename_i hb
       obtain ⟨hb1,hb2⟩:=hb
       simp only[T7,Ua] at h
       obtain ⟨rfl,rfl,rfl⟩:=h
       cases hs with
       | emp _ ad =>
        obtain ⟨xr,w',hrun,hv,hsame,hlt,hold,hor⟩:=DL (n:=n) (ty:=ty) (base:=ad) (sLen:=0) (sCap:=0) (ys:=[]) (old:=#[]) ha0 ha1 hno hund hti hzs he hx c.new c (fun id h=>h) hl rfl (by omega) (by simpa using hb1) (by simpa using hb2)
         ⟨by simp,fun i j hi=>by simp at hi⟩ (by simp) (by simpa using rn (w:=w.drew) (ad:=ad) (cap:=0) (Ug 0))
        simp only[U3] at hv
        exact bk.value hrun hv hsame ⟨w.heap.size,0,ti.size,Ug _,hlt,rfl,hold,hor⟩
      ·simp at h
     ·rename_i id off len esz
      split at h
      ·rename_i esz' es hH
       split at h
       ·rename_i hb
        obtain ⟨hb0,rfl,hb1,hb2⟩:=hb
        simp only[T7,Ua] at h
        obtain ⟨rfl,rfl,rfl⟩:=h
        have hor:=c.obj id (by simp)
        rw[hH] at hor
        have grow:∀ base sCap (old:Array Value),sv=.slice base len sCap→sCap < len+xs.length→Flat Z μ w.heap ti.size ((es.drop off).take len) old→(∀ e∈(es.drop off).take len,e.length=ti.size) →
          (Builtin.firstCells ti.size len (.slice base len sCap)).run P w.drew=.ok old w.drew →
          bk Z μ w n (.sl n 0 (len+xs.length) ti.size) (.bP id (.arr ti.size ((es.drop off).take len ++ xs))) ((do pure (Next.value (← Builtin.append_ ats ty #[sv,xv])):Sem Next).run P w):=by
         intro base sCap old hsv hgt hfl hys ho
         subst hsv
         have hlen:((es.drop off).take len).length=len:=by simp; omega
         obtain ⟨xr,w',hrun,hv,hsame,hlt,hold,hor⟩:=DL (n:=n) (ty:=ty) ha0 ha1 hno hund hti hzs he hx c.new c (fun i h=>Ux _ h) hl hlen hgt hb1 hb2 hfl hys ho
         exact bk.value hrun hv hsame ⟨w.heap.size,0,ti.size,rfl,hor,.inl ⟨Ug _,hlt,hold⟩⟩
        cases hs with
        | oZ _ _ _ ad =>
         refine grow ad 0 #[] rfl (by omega) ⟨by simp,fun i j hi=>by simp at hi⟩ (by simp) (by simpa using rn (w:=w.drew) (ad:=ad) (cap:=0) (Ug 0))
        | sl _ _ _ _ b o0 cap cc e' f hm hle hbk hsp =>
         have hlen:((es.drop off).take len).length=len:=by simp; omega
         obtain ⟨heq,⟨c2,e2,f2,hc2,hf2,hs2⟩,h3,h4⟩:=hor b o0 ti.size hm
         subst heq
         rw[hbk] at hc2
         simp only[T7,Obj.cells.injEq] at hc2
         obtain ⟨rfl,rfl,rfl⟩:=hc2
         have hys:∀ e∈(es.drop off).take len,e.length=ti.size:=by
          intro e he'
          obtain ⟨i,hi,rfl⟩:=List.getElem_of_mem (List.mem_of_mem_drop (List.mem_of_mem_take he'))
          have:=h3 i hi
          simpa [T0,hi] using this
         by_cases hfit:len+xs.length≤cap
         ·exact OR ha0 ha1 hno hund hti he hx c.new c (fun i h=>Ux _ h) hl hok hH hor hm hb0 hle hbk hsp hfit
         ·by_cases hl0:len=0
          ·subst hl0
           exact grow _ cap #[] rfl (by omega) ⟨by simp,fun i j hi=>by simp at hi⟩ (by simp) (by simpa using rn (w:=w.drew) (ad:=some ⟨b,o0+off * ti.size,none⟩) (cap:=cap) (Ug 0))
          ·have hel:bX H (.sl id off len ti.size)=some ((es.drop off).take len,[id]):=by
            cases len with
            | zero=>exact absurd rfl hl0
            | succ l=>simp[bX,hH,hb0]
           obtain ⟨old,hold,_,hfirst⟩:=py (P:=P) (w:=w.drew) (Z:=Z) (μ:=μ) hel (aF.sl id off len ti.size b o0 cap cc e' f hm hle hbk hsp) (fun i hi=>by
            simp at hi; subst hi; rw[hH]; exact hor) hys
           have h5:=hfirst len (by omega)
           rw[ja old (by rw[hold.len,hlen])] at h5
           exact grow _ cap old rfl (by omega) hold hys h5
       ·simp at h
      ·simp at h
     ·simp at h
 ·simp at h
theorem QT {t0:TypeId} {ats:Array TypeId} {ty:TypeId} {x:V} {xv:Value} (h:F7 P t0 x=some (v,eff,rd)) (ha0:ats[0]?=some t0)
  (hx:aF Z μ w.heap x xv) (c:Ctx Z μ w.heap H rd n eff) :
  bk Z μ w n v eff ((do pure (Next.value (← Builtin.cap_ ats ty #[xv])):Sem Next).run P w):=by
 unfold F7 at h
 split at h
 ·rename_i e k hu
  have hund:P.underlying t0=some (.slice e):=by
   unfold cW at hu; split at hu <;> simp_all
  simp only[T7,Ua] at h
  obtain ⟨rfl,rfl,rfl⟩:=h
  cases hx with
  | emp _ ad =>
   refine bk.here (x:=goInt 0) ?_ (.val _ rfl)
   simp only[Builtin.cap_,U2,UC,ha0,Sem.run_bind,bA hund,Result.andThen_ok,Sem.run_pure]
   rfl
 ·simp at h
theorem Hr {t0 t1 e:TypeId} {ti:TypeInfo} {k:IntKind} {ats:Array TypeId} {ty:TypeId} {base:Option Addr} {m:Nat} {k2:IntKind} {zv:Value}
  (ha0:ats[0]?=some t0) (ha1:ats[1]?=some t1) (hd:P.underlying t1=some (.int k)) (hund:P.underlying t0=some (.slice e)) (hti:P.info? e=some ti)
  (hgt:0 < m) (hb1:m * ti.bytes < aK) (hb2:m < aK) (hs0:m * ti.size≠0) (hz:∀ w',(zeroValue e).run P w'=.ok zv w') :
  ∃ cap,m≤cap∧(Builtin.append_ ats ty #[.slice base 0 0,.int k2 (m:Int)]).run P w =
   .ok (.slice (some ⟨w.heap.size,0,none⟩) m cap) (w.drew.alloc (.cells (#[] ++ Builtin.zeroCells zv.cells m ++ Builtin.zeroCells zv.cells (cap - m)) e)):=by
 have hlim:=DV
 have hfit:=growslice_fits (old:=0) hgt (show m * ti.bytes≤140737488355328 by omega)
 have hmax:¬ ((m:Int) > IntKind.i64.max):=by
  have:IntKind.i64.max=9223372036854775807:=by decide
  rw[this]; omega
 have hbig:¬ (Builtin.nextslicecap m 0 * ti.bytes > 2 ^ 48):=by
  have:(2:Nat) ^ 48=281474976710656:=by decide
  rw[this]; exact Nat.not_lt.2 hfit
 have e1:IntKind.i64.wrap (m:Int)=m:=wrap_small hb2
 have g1:¬ ((m:Int) < 0):=by omega
 have g2:¬ ((m:Int) * (ti.bytes:Int) > 2 ^ 48):=by
  have:((m * ti.bytes:Nat):Int) < 2 ^ 48:=by omega
  push_cast at this; omega
 refine ⟨Question.cut (.appendCap m 0 e) (w.tape w.drawn (.appendCap m 0 e)),Nat.le_add_right _ _,?_⟩
 have hcut:Question.forced (.appendCap m 0 e)=false:=rfl
 have hfirst:∀ w':World,(Builtin.firstCells ti.size 0 (.slice base 0 0)).run P w'=.ok #[] w':=fun w'=>lj
 simp only[Builtin.append_,U2,UC,UP,ha0,ha1,Sem.run_bind,bA hund,Result.andThen_ok,dH hti,bA hd,Sem.run_pure,if_true,asInt,asIntOf,e1,Uq,Sem.run_ite,g1,g2,if_false,pv hti,U3]
 rw[T6 (by omega)]
 simp only[hmax,false_and,if_false,Sem.run_bind,Result.andThen_ok,Sem.run_ite,Sem.run_pure,hbig,run_choose,hcut,Ut,World.drew_eq,run_askRoom,hfirst,hs0,hz,V5,newRow,dH hti,run_newObj,World.alloc_eq]
 rfl
theorem BM {ti:TypeInfo} {z:List V} {zv:Value} {m:Nat} (hr:fU Z μ w.heap z zv.cells.toList) (hzl:z.length=ti.size):Flat Z μ w.heap ti.size (List.replicate m z) (Builtin.zeroCells zv.cells m):=by
 have hzs:zv.cells.size=ti.size:=by rw[← hzl,hr.1]; simp
 refine ⟨by simp[Builtin.zeroCells,hzs],fun i j hi hj=>?_⟩
 simp only[VT] at hi
 have hlt:i * ti.size+j < m * ti.size:=fK hi hj
 have hmod:(i * ti.size+j) % ti.size=j:=by
  rw[Nat.mul_comm,Nat.mul_add_mod]; exact Nat.mod_eq_of_lt hj
 have h1:=hr.2 j (by rw[hzl]; exact hj)
 have e1:(List.replicate m z).getD i []=z:=by simp[T0,hi]
 have e2:(Builtin.zeroCells zv.cells m).getD (i * ti.size+j) undef=zv.cells.toList.getD j undef:=by
  simp[Builtin.zeroCells,Ui,T0,hzs,hlt,hmod,getElem!_pos zv.cells j (by omega),show j < zv.cells.size by omega]
  rw[Up (by omega)]; rfl
 rw[e1,e2]
 exact h1
theorem PL {t0 t1:TypeId} {ats:Array TypeId} {ty:TypeId} {s x:V} {sv xv:Value} (h:wo P t0 s x n=some (v,eff,rd)) (ha0:ats[0]?=some t0) (ha1:ats[1]?=some t1) (hno:isInt P t1=true)
  (hs:aF Z μ w.heap s sv) (hx:aF Z μ w.heap x xv) (c:Ctx Z μ w.heap H rd n eff) :
  bk Z μ w n v eff ((do pure (Next.value (← Builtin.append_ ats ty #[sv,xv])):Sem Next).run P w):=by
 unfold wo at h
 split at h
 ·rename_i e l k hu hl
  have hund:P.underlying t0=some (.slice e):=by
   unfold cW at hu; split at hu <;> simp_all
  have hd:∃ d,P.underlying t1=some (.int d):=by
   unfold isInt at hno; split at hno
   ·rename_i d hd; exact ⟨d,hd⟩
   ·simp at hno
  obtain ⟨d,hd⟩:=hd
  obtain ⟨k1,rfl⟩:=kr hl
  have hx:=eT hx
  subst hx
  split at h
  ·rename_i ti z hti hz
   split at h
   ·rename_i h0
    subst h0
    simp only[T7,Ua] at h
    obtain ⟨rfl,rfl,rfl⟩:=h
    cases hs with
    | emp _ ad ha hb =>
     refine bk.here (x:=.slice ad 0 0) ?_ (.emp _ ad ha hb)
     have e1:IntKind.i64.wrap ((0:Nat):Int)=0:=by decide
     have g2:¬ ((0:Int) * (ti.bytes:Int) > 2 ^ 48):=by rw[Int.zero_mul]; decide
     simp only[Builtin.append_,U2,UC,UP,ha0,ha1,Sem.run_bind,bA hund,Result.andThen_ok,dH hti,bA hd,Sem.run_pure,if_true,asInt,asIntOf,e1,Sem.run_ite,Int.lt_irrefl,g2,if_false,pv hti,U3,Int.toNat_zero,Ug,Nat.zero_mul,V5,Ut]
     cases ad <;> simp[storeCells]
   ·rename_i h0
    split at h
    ·rename_i hb
     obtain ⟨hzl,hzok,hs0,hb1,hb2⟩:=hb
     simp only[T7,Ua] at h
     obtain ⟨rfl,rfl,rfl⟩:=h
     obtain ⟨zv,hzv,rfl⟩:=iH hti hz
     cases hs with
     | emp _ ad =>
      have hpos:l * ti.size≠0:=by
       intro h; rcases Nat.mul_eq_zero.1 h with h | h <;> contradiction
      obtain ⟨cap,hcap,hrun⟩:=Hr (P:=P) (w:=w) (ty:=ty) (base:=ad) (k2:=k1) ha0 ha1 hd hund hti (by omega) hb1 hb2 hpos (fun w'=>jA hti hzv w')
      have hr:=gH (gE (Z:=Z) (μ:=μ) (w:=w) zv) hzok
      have hzs:zv.cells.size=ti.size:=by rw[← hzl,hr.1]; simp
      have hfl:=BM (m:=l) (ti:=ti) hr hzl
      have hsz:(Builtin.zeroCells zv.cells l).size=l * ti.size:=by simp[Builtin.zeroCells,hzs]
      have hsz2:(Builtin.zeroCells zv.cells (cap - l)).size=(cap - l) * ti.size:=by simp[Builtin.zeroCells,hzs]
      have hsum:cap * ti.size=l * ti.size+(cap - l) * ti.size:=by rw[← US]; congr 1; omega
      refine bk.value (μ':=μ.set n (w.heap.size,0,ti.size)) hrun ?_ (j5 _ _) ?_
      ·rw[heap_alloc,eR]
       have:=aF.sl (Z:=Z) (μ:=μ.set n (w.heap.size,0,ti.size)) (hp:=w.heap.push (.cells (#[] ++ Builtin.zeroCells zv.cells l ++ Builtin.zeroCells zv.cells (cap - l)) e (0,0))) n 0 l ti.size w.heap.size 0 cap _ e (0,0) (by simp[Mu.set]) hcap (by simp; rfl)
        (by simp only[Array.size_append,hsz,hsz2,U3]; (try simp); exact Nat.le_of_eq hsum)
       simpa using this
      ·refine ⟨w.heap.size,0,ti.size,Ug _,by rw[heap_alloc,eR]; simp,rfl,by rw[heap_alloc,eR]; exact eF _ _,?_⟩
       rw[heap_alloc,eR]
       have:=Eu (e:=e) (rest:=Builtin.zeroCells zv.cells (cap - l)) c.new c.cL (ys:=[]) (old:=#[]) ⟨by simp,fun i j hi=>by simp at hi⟩ hfl (by simp) (fun x hx=>by rw[(List.mem_replicate.1 hx).2]; exact hzl)
       simpa using this
    ·simp at h
  ·simp at h
 ·simp at h
theorem iu:∀ (ys es:List (List V)) (i:Nat),(gj es i ys).length=es.length
 | [],_,_=>rfl
 | y :: ys,es,i=>by rw[gj,iu ys]; simp
theorem qP:∀ (ys es:List (List V)) (i k:Nat),i+ys.length≤es.length→(gj es i ys).getD k []=if i≤k∧k < i+ys.length then ys.getD (k - i) [] else es.getD k []
 | [],es,i,k,_=>by rw[T6 (by simp only[UG]; omega)]; rfl
 | y :: ys,es,i,k,h=>by
  simp only[Um] at h
  rw[gj,qP ys _ _ _ (by simp; omega)]
  simp only[Um]
  by_cases h1:i=k
  ·subst h1
   rw[T6 (by omega),T9 (by omega)]
   simp[T0,show i < es.length by omega]
  ·by_cases h2:i+1≤k∧k < i+1+ys.length
   ·rw[T9 h2,T9 (by omega),show k - i=(k - (i+1))+1 from by omega]
    simp
   ·rw[T6 h2,T6 (by omega)]
    simp[T0,h1]
theorem Pq {t0:TypeId} {ats:Array TypeId} {ty:TypeId} {d x:V} {dv xv:Value} (h:A3 P t0 d x H=some (v,eff,rd)) (ha0:ats[0]?=some t0)
  (hd:aF Z μ w.heap d dv) (hx:aF Z μ w.heap x xv) (c:Ctx Z μ w.heap H rd n eff) :
  bk Z μ w n v eff ((do pure (Next.value (← Builtin.copy_ ats ty #[dv,xv])):Sem Next).run P w):=by
 unfold A3 at h
 split at h
 ·rename_i e xs rdx dl hu he hdl
  have hund:P.underlying t0=some (.slice e):=by
   unfold cW at hu; split at hu <;> simp_all
  obtain ⟨ad,cap,rfl,hcap⟩:=dS hd hdl
  have run:∀ (new:Array Value) w' ti,P.info? e=some ti→(Builtin.lenOf xv).run P w=.ok xs.length w→(Builtin.firstCells ti.size (Nat.min xs.length dl) xv).run P w=.ok new w →
    (match ad with | some a=>storeCells a new.toList | none=>pure ()).run P w=.ok () w' →
    (Builtin.copy_ ats ty #[.slice ad dl cap,xv]).run P w=.ok (goInt (Nat.min xs.length dl:Nat)) w':=by
   intro new w' ti hti h1 h2 h3
   simp only[Builtin.copy_,U2,UC,UP,ha0,Sem.run_bind,bA hund,Result.andThen_ok,dH hti,Sem.run_pure,h1,h2]
   cases ad with
   | none=>simp only[Sem.run_pure,Result.ok.injEq,true_and] at h3; subst h3; rfl
   | some a=>simp only[Sem.run_bind,h3,Result.andThen_ok,Sem.run_pure]
  split at h
  ·simp at h
  ·rename_i ti hti
   split at h
   ·rename_i hemp
    simp only[T7,Ua] at h
    obtain ⟨rfl,rfl,rfl⟩:=h
    have hel:=yi (P:=P) (size:=ti.size) he hx
    have hmin:Nat.min xs.length dl=0:=by
     have:(xs.take dl).length=0:=by rw[List.isEmpty_iff.1 hemp]; rfl
     rw[UN] at this
     show min _ _=0; omega
    have:=run #[] w ti hti hel.1 (by rw[hmin]; exact hel.2) (by cases ad <;> simp[storeCells])
    rw[hmin] at this
    exact bk.here this (aF.val _ rfl)
   ·rename_i hne
    split at h
    ·rename_i id off len esz
     split at h
     ·rename_i esz' es hH
      split at h
      ·rename_i hb
       obtain ⟨hb0,rfl,hsz0,hall⟩:=hb
       obtain ⟨hl,hok⟩:=IP hall
       simp only[T7,Ua] at h
       obtain ⟨rfl,rfl,rfl⟩:=h
       simp only[cG,T7] at hdl
       subst hdl
       have hor:=c.obj id (by simp)
       rw[hH] at hor
       have hmin:(xs.take len).length=Nat.min xs.length len:=by rw[UN,Nat.min_comm]
       have hpos:0 < (xs.take len).length:=VY.2 (by simpa using hne)
       cases hd with
       | oZ=>simp at hpos
       | sl _ _ _ _ b o0 _ cc e' f hm _ hbk hsp =>
        obtain ⟨heq,⟨c2,e2,f2,hc2,hf2,hs2⟩,h3,h4⟩:=hor b o0 ti.size hm
        subst heq
        rw[hbk] at hc2
        simp only[T7,Obj.cells.injEq] at hc2
        obtain ⟨rfl,rfl,rfl⟩:=hc2
        obtain ⟨fl0,hfl0,hlen,hfirst⟩:=py (P:=P) he hx (fun id h=>c.obj id (Ux _ h)) hl
        have h5:=hfirst (Nat.min xs.length len) (Nat.min_le_left _ _)
        have hfl:=LJ hfl0 (Nat.min xs.length len) (Nat.min_le_left _ _)
        have htk:xs.take (Nat.min xs.length len)=xs.take len:=by
         rw[List.take_eq_take_iff]; show min (min xs.length len) xs.length=min len xs.length; omega
        rw[htk] at hfl
        generalize fl0.extract 0 (Nat.min xs.length len * ti.size)=fl at h5 hfl
        have hfll:fl.toList.length=(xs.take len).length * ti.size:=by rw[Array.length_toList,hfl.len]
        have hlt':(xs.take len).length≤len:=by rw[UN]; omega
        have hmul3:(off+(xs.take len).length) * ti.size≤es.length * ti.size:=UJ _ (by omega)
        rw[US] at hmul3
        have hz:=c.gM _ _ _ _ hm
        obtain ⟨c',hst,hcs,hcell⟩:=uj (P:=P) (off:=o0+off * ti.size) hbk (p9 hf2) fl.toList (by rw[hfll]; omega) (AA hfl (fun e he=>hl e (List.mem_of_mem_take he)) (fun e he=>hok e (List.mem_of_mem_take he)))
        have hbl:=eQ hbk
        have hm':gR Z Z μ μ w.heap (w.heap.setIfInBounds b (.cells c' e' f)) :=
         ⟨fun _ h=>h,fun k hk=>de w.heap b _ k (c.cL k hk) (fun e=>hz (e ▸ hk)),fun _ _ h=>h,iW hbk hcs⟩
        refine bk.value (μ':=μ) (run fl _ ti hti hlen h5 hst) ?_ ⟨rfl,rfl,rfl,by simp⟩ ?_
        ·rw[hmin]; exact aF.val _ rfl
        ·refine ⟨b,o0,ti.size,hm,rfl,de _ _ _,iW hbk hcs,?_⟩
         intro b1 q1 s1 hx1
         rw[hm] at hx1
         simp only[T7,Ua] at hx1
         obtain ⟨rfl,rfl,rfl⟩:=hx1
         have hsr:=fun k=>qP (xs.take len) es off k (by omega)
         refine ⟨rfl,⟨c',e',f,dX hbl,by rw[hcs]; exact hf2,by rw[iu,hcs]; exact hs2⟩,?_,?_⟩
         ·intro i hi
          rw[iu] at hi
          rw[hsr]
          split
          ·have hl':i - off < (xs.take len).length:=by omega
           simp only[T0,T4 hl',Un]
           exact hl _ (List.mem_of_mem_take (Ud _))
          ·exact h3 i hi
         ·intro i j hi hj
          rw[iu] at hi
          show ∃ y,cellAt (w.heap.setIfInBounds b (.cells c' e' f)) b (o0+i * ti.size+j)=some y∧_
          rw[hcell,hfll,hsr]
          by_cases hin:off≤i∧i < off+(xs.take len).length
          ·have hl':i - off < (xs.take len).length:=by omega
           have h6:(i - off) * ti.size+j < (xs.take len).length * ti.size:=fK hl' hj
           have h7:i * ti.size=off * ti.size+(i - off) * ti.size:=by rw[← US]; congr 1; omega
           rw[T9 (by omega),T9 hin]
           have hlt:(i - off) * ti.size+j < fl.size:=by rw[hfl.len]; exact h6
           refine ⟨fl[(i - off) * ti.size+j],?_,?_⟩
           ·rw[show o0+i * ti.size+j - (o0+off * ti.size)=(i - off) * ti.size+j from by omega]
            simp[hlt]
           ·have:=(hfl.rel _ j hl' hj).mono hm'
            simpa only [Ui,Up hlt,Un] using this
          ·have h8:¬ (o0+off * ti.size≤o0+i * ti.size+j∧o0+i * ti.size+j < o0+off * ti.size+(xs.take len).length * ti.size):=by
            rcases Uv i off with h9 | h9
            ·have:(i+1) * ti.size≤off * ti.size:=UJ _ h9
             rw[US] at this; omega
            ·have:(off+(xs.take len).length) * ti.size≤i * ti.size:=UJ _ (by omega)
             rw[US] at this; omega
           rw[T6 h8,T6 hin]
           obtain ⟨y,hy,hv⟩:=h4 i j hi hj
           exact ⟨y,hy,hv.mono hm'⟩
      ·simp at h
     ·simp at h
    ·simp at h
 ·simp at h
theorem MQ {t0:TypeId} {ats:Array TypeId} {ty:TypeId} {d:V} {dv:Value} (h:uO P t0 d H=some (v,eff,rd)) (ha0:ats[0]?=some t0)
  (hd:aF Z μ w.heap d dv) (c:Ctx Z μ w.heap H rd n eff) :
  bk Z μ w n v eff ((do pure (Next.value (← Builtin.clear_ ats ty #[dv])):Sem Next).run P w):=by
 unfold uO at h
 split at h
 ·rename_i e dl hu hdl
  have hund:P.underlying t0=some (.slice e):=by
   unfold cW at hu; split at hu <;> simp_all
  obtain ⟨ad,cap,rfl,hcap⟩:=dS hd hdl
  split at h
  ·rename_i h0
   subst h0
   simp only[T7,Ua] at h
   obtain ⟨rfl,rfl,rfl⟩:=h
   refine bk.here (x:=.tuple #[]) ?_ (.bE [] #[] rfl (fun i hi=>by simp at hi))
   simp only[Builtin.clear_,U2,UC,ha0,Sem.run_bind,bA hund,Result.andThen_ok]
   cases ad <;> simp
  ·rename_i hne
   split at h
   ·rename_i id off len esz ti z hti hzc
    split at h
    ·rename_i esz' es hH
     split at h
     ·rename_i hb
      obtain ⟨hb0,rfl,hsz0,hzl,hzok⟩:=hb
      simp only[T7,Ua] at h
      obtain ⟨rfl,rfl,rfl⟩:=h
      simp only[cG,T7] at hdl
      subst hdl
      have hor:=c.obj id (by simp)
      rw[hH] at hor
      obtain ⟨zv,hzv,rfl⟩:=iH hti hzc
      have hr:=gH (gE (Z:=Z) (μ:=μ) (w:=w) zv) hzok
      have hfl:=BM (m:=len) (ti:=ti) hr hzl
      have run:∀ (a:Addr) (w':World),ad=some a→(storeCells a (Builtin.zeroCells zv.cells len).toList).run P w=.ok () w' →
        (Builtin.clear_ ats ty #[.slice ad len cap]).run P w=.ok (.tuple #[]) w':=by
       rintro a w' rfl h3
       obtain ⟨m,rfl⟩:∃ m,len=m+1:=⟨len - 1,by omega⟩
       simp only[Builtin.clear_,U2,UC,ha0,Sem.run_bind,bA hund,Result.andThen_ok,jA hti hzv,h3,Sem.run_pure]
      cases hd with
      | oZ=>omega
      | sl _ _ _ _ b o0 _ cc e' f hm _ hbk hsp =>
       obtain ⟨heq,⟨c2,e2,f2,hc2,hf2,hs2⟩,h3,h4⟩:=hor b o0 ti.size hm
       subst heq
       rw[hbk] at hc2
       simp only[T7,Obj.cells.injEq] at hc2
       obtain ⟨rfl,rfl,rfl⟩:=hc2
       have hzall:∀ e∈List.replicate len (fi zv).cells,e=(fi zv).cells:=fun e he=>List.eq_of_mem_replicate he
       have hrl:(List.replicate len (fi zv).cells).length=len:=VT
       generalize hxs:List.replicate len (fi zv).cells=xs at hfl hzall hrl ⊢
       generalize hfe:Builtin.zeroCells zv.cells len=fl at hfl run
       have hfll:fl.toList.length=xs.length * ti.size:=by rw[Array.length_toList,hfl.len]
       have hmul3:(off+xs.length) * ti.size≤es.length * ti.size:=UJ _ (by omega)
       rw[US] at hmul3
       have hz:=c.gM _ _ _ _ hm
       obtain ⟨c',hst,hcs,hcell⟩:=uj (P:=P) (off:=o0+off * ti.size) hbk (p9 hf2) fl.toList (by rw[hfll]; omega) (AA hfl (fun e he=>by rw[hzall e he]; exact hzl) (fun e he=>by rw[hzall e he]; exact hzok))
       have hbl:=eQ hbk
       have hm':gR Z Z μ μ w.heap (w.heap.setIfInBounds b (.cells c' e' f)) :=
        ⟨fun _ h=>h,fun k hk=>de w.heap b _ k (c.cL k hk) (fun e=>hz (e ▸ hk)),fun _ _ h=>h,iW hbk hcs⟩
       refine bk.value (μ':=μ) (run _ _ rfl hst) ?_ ⟨rfl,rfl,rfl,by simp⟩ ?_
       ·exact .bE [] #[] rfl (fun i hi=>by simp at hi)
       ·refine ⟨b,o0,ti.size,hm,rfl,de _ _ _,iW hbk hcs,?_⟩
        intro b1 q1 s1 hx1
        rw[hm] at hx1
        simp only[T7,Ua] at hx1
        obtain ⟨rfl,rfl,rfl⟩:=hx1
        have hsr:=fun k=>qP xs es off k (by omega)
        refine ⟨rfl,⟨c',e',f,dX hbl,by rw[hcs]; exact hf2,by rw[iu,hcs]; exact hs2⟩,?_,?_⟩
        ·intro i hi
         rw[iu] at hi
         rw[hsr]
         split
         ·have hl':i - off < xs.length:=by omega
          simp only[T0,T4 hl',Un]
          rw[hzall _ (Ud hl')]; exact hzl
         ·exact h3 i hi
        ·intro i j hi hj
         rw[iu] at hi
         show ∃ y,cellAt (w.heap.setIfInBounds b (.cells c' e' f)) b (o0+i * ti.size+j)=some y∧_
         rw[hcell,hfll,hsr]
         by_cases hin:off≤i∧i < off+xs.length
         ·have hl':i - off < xs.length:=by omega
          have h6:(i - off) * ti.size+j < xs.length * ti.size:=fK hl' hj
          have h7:i * ti.size=off * ti.size+(i - off) * ti.size:=by rw[← US]; congr 1; omega
          rw[T9 (by omega),T9 hin]
          have hlt:(i - off) * ti.size+j < fl.size:=by rw[hfl.len]; exact h6
          refine ⟨fl[(i - off) * ti.size+j],?_,?_⟩
          ·rw[show o0+i * ti.size+j - (o0+off * ti.size)=(i - off) * ti.size+j from by omega]
           simp[hlt]
          ·have:=(hfl.rel _ j hl' hj).mono hm'
           simpa only [Ui,Up hlt,Un] using this
         ·have h8:¬ (o0+off * ti.size≤o0+i * ti.size+j∧o0+i * ti.size+j < o0+off * ti.size+xs.length * ti.size):=by
           rcases Uv i off with h9 | h9
           ·have:(i+1) * ti.size≤off * ti.size:=UJ _ h9
            rw[US] at this; omega
           ·have:(off+xs.length) * ti.size≤i * ti.size:=UJ _ (by omega)
            rw[US] at this; omega
          rw[T6 h8,T6 hin]
          obtain ⟨y,hy,hv⟩:=h4 i j hi hj
          exact ⟨y,hy,hv.mono hm'⟩
     ·simp at h
    ·simp at h
   ·simp at h
 ·simp at h
end
section
variable {Z:Nat→Prop} {μ μ':Mu} {w w':World} {P:Program} {H:View} {n:Nat} {v:V} {eff:bC} {rd:List Nat}
theorem Eg (off:Nat):∀ (l:List Value) (i:Nat) (cs:Array Value),off+i+l.length≤cs.size →
  ((l.zipIdx i).foldl (fun cs (p:Value × Nat)=>cs.setIfInBounds (off+p.2) p.1) cs).size=cs.size ∧
  ∀ k,((l.zipIdx i).foldl (fun cs (p:Value × Nat)=>cs.setIfInBounds (off+p.2) p.1) cs)[k]?=if off+i≤k∧k < off+i+l.length then l[k - (off+i)]? else cs[k]?
 | [],i,cs,_=>⟨rfl,fun k=>by rw[T6 (by simp only[UG]; omega)]; rfl⟩
 | x :: l,i,cs,h=>by
  simp only[Um] at h
  obtain ⟨h1,h2⟩:=Eg off l (i+1) (cs.setIfInBounds (off+i) x) (by simp; omega)
  simp only[List.zipIdx_cons,Uu,Um]
  refine ⟨by rw[h1]; simp,fun k=>?_⟩
  rw[h2]
  by_cases e:off+i=k
  ·subst e
   rw[T6 (by omega),T9 (by omega)]
   simp[show off+i < cs.size by omega]
  ·by_cases e2:off+(i+1)≤k∧k < off+(i+1)+l.length
   ·rw[T9 e2,T9 (by omega),show k - (off+i)=(k - (off+(i+1)))+1 from by omega]
    simp
   ·rw[T6 e2,T6 (by omega)]
    simp[e]
theorem B4 (off:Nat) (xs cs:Array Value) (h:off+xs.size≤cs.size) :
  (xs.zipIdx.foldl (fun cs (c,j)=>cs.setIfInBounds (off+j) c) cs).size=cs.size ∧
  ∀ k,(xs.zipIdx.foldl (fun cs (c,j)=>cs.setIfInBounds (off+j) c) cs)[k]?=if off≤k∧k < off+xs.size then xs[k - off]? else cs[k]?:=by
 have:=Eg off xs.toList 0 cs (by simpa using h)
 rw[← Array.foldl_toList,Array.toList_zipIdx]
 simpa using this
def Dq (Z:Nat→Prop) (μ:Mu) (hp:Array Obj):List (Nat × V)→List (Nat × Value)→Prop
 | [],[]=>True
 | p :: r,q :: s=>p.1=q.1∧aF Z μ hp p.2 q.2∧Dq Z μ hp r s
 | _,_=>False
theorem Cw {x:V} {y:Value} (h:aF Z μ w.heap x y) (hx:x.cells.all aX=true):y.cells.size=x.cells.length:=by
 have:=(gH h hx).1; simpa using this.symm
theorem GF {size:Nat} (place:Nat→Option (Nat × Nat)) (hpl:∀ i,place i=some (i * size,size)):∀ (ps:List (Nat × V)) (qs:List (Nat × Value)) (es es':List (List V)) (cs:Array Value),
  af size es ps=some es'→Dq Z μ w.heap ps qs→Flat Z μ w.heap size es cs→(∀ i,i < es.length→(es.getD i []).length=size)→(∀ i,i < es.length→(es.getD i []).all aX=true) →
  ∃ cs',Instr.fill place cs qs=some cs'∧Flat Z μ w.heap size es' cs'∧es'.length=es.length∧(∀ i,i < es'.length→(es'.getD i []).length=size)
 | [],[],es,es',cs,h,_,hf,hl,_=>by
  simp only[af,T7] at h; subst h
  exact ⟨cs,rfl,hf,rfl,hl⟩
 | (i,x) :: ps,(i',y) :: qs,es,es',cs,h,hr,hf,hl,hok=>by
  obtain ⟨hi,hxy,hrest⟩:=hr
  simp only at hi hxy
  subst hi
  simp only[af] at h
  split at h
  ·rename_i hc
   obtain ⟨h1,h2,h3⟩:=hc
   have hcr:=gH hxy h3
   have hcs:=Cw hxy h3
   have hle:i * size+size≤cs.size:=by
    rw[hf.len]
    have:(i+1) * size≤es.length * size:=UJ _ h2
    rw[US] at this; omega
   obtain ⟨k1,k2⟩:=B4 (i * size) y.cells cs (by omega)
   have hget:∀ k,(es.set i x.cells).getD k []=if k=i then x.cells else es.getD k []:=by
    intro k
    simp only[T0,Vm]
    by_cases e:i=k
    ·subst e; simp[h2]
    ·rw[T6 e,T6 (fun q=>e q.symm)]
   obtain ⟨cs',g1,g2,g3,g4⟩:=GF place hpl ps qs (es.set i x.cells) es' (y.cells.zipIdx.foldl (fun cs (c,j)=>cs.setIfInBounds (i * size+j) c) cs) h hrest
    ⟨by rw[k1,hf.len]; simp,fun a j ha hj=>by
     have ha':a < es.length:=by simpa using ha
     rw[hget,Ui,k2]
     by_cases e:a=i
     ·subst e
      rw[T9 rfl,T9 (by omega),show a * size+j - a * size=j from by omega]
      have:=hcr.2 j (by omega)
      simpa [T0] using this
     ·have:¬ (i * size≤a * size+j∧a * size+j < i * size+y.cells.size):=by
       rcases Nat.lt_or_gt_of_ne e with h9 | h9
       ·have:(a+1) * size≤i * size:=UJ _ h9
        rw[US] at this; omega
       ·have:(i+1) * size≤a * size:=UJ _ h9
        rw[US] at this; omega
      rw[T6 e,T6 this]
      have:=hf.rel a j ha' hj
      simpa only [Ui] using this⟩
    (fun k hk=>by rw[hget]; split; exact h1; exact hl k (by simpa using hk))
    (fun k hk=>by rw[hget]; split; exact h3; exact hok k (by simpa using hk))
   refine ⟨cs',?_,g2,by simpa using g3,g4⟩
   simp only[Instr.fill,hpl]
   rw[T6 (by simp only[U8,Ul,not_or]; omega)]
   exact g1
  ·simp at h
 | [],_ :: _,_,_,_,_,hr,_,_,_=>hr.elim
 | _ :: _,[],_,_,_,_,hr,_,_,_=>hr.elim
theorem CL {t:TypeId} {len:Nat} {ps:List (Nat × V)} {qs:Array (Nat × Value)} (h:ic P t len ps n=some (v,eff,rd)) (hr:Dq Z μ w.heap ps qs.toList) (c:Ctx Z μ w.heap H rd n eff) :
  bk Z μ w n v eff ((do pure (Next.value (← Instr.buildSlice t len qs)):Sem Next).run P w):=by
 unfold ic at h
 cases hu:cW P t with
 | none=>simp[hu] at h
 | some e =>
  have hund:P.underlying t=some (.slice e):=by
   unfold cW at hu; split at hu <;> simp_all
  cases hti:P.info? e with
  | none=>simp[hu,hti] at h
  | some ti =>
   simp only[hu,hti] at h
   split at h
   ·simp at h
   ·rename_i hbig
    split at h
    ·rename_i hl0
     subst hl0
     split at h
     ·rename_i hemp
      simp only[T7,Ua] at h
      obtain ⟨rfl,rfl,rfl⟩:=h
      have hps:ps=[]:=by simpa using hemp
      subst hps
      have hqs:qs = #[]:=by
       cases hq:qs.toList with
       | nil=>exact Array.toList_eq_nil_iff.1 hq
       | cons a b=>rw[hq] at hr; exact hr.elim
      subst hqs
      refine bk.value (x:=.slice (some ⟨w.heap.size,0,none⟩) 0 0) (w':=w.alloc (.cells #[] e)) ?_ (.emp 2 _ (by simp) (by simp)) (iV _ _) ⟨rfl,eF _ _⟩
      simp[Instr.buildSlice,bA hund,dH hti,Instr.fill,newRow,show Array.range 0 = #[] from rfl]
     ·simp at h
    ·split at h
     ·simp at h
     ·rename_i hl0 hs0
      split at h
      ·simp at h
      ·rename_i z hz
       split at h
       ·rename_i hzz
        obtain ⟨hzl,hzok⟩:=hzz
        split at h
        ·rename_i es hes
         simp only[T7,Ua] at h
         obtain ⟨rfl,rfl,rfl⟩:=h
         obtain ⟨zv,hzv,rfl⟩:=iH hti hz
         have hrz:=gH (gE (Z:=Z) (μ:=μ) (w:=w) zv) hzok
         have hzs:zv.cells.size=ti.size:=by rw[← hzl,hrz.1]; simp
         have hpos:len * ti.size≠0:=by
          intro h0; rcases Nat.mul_eq_zero.1 h0 with h0 | h0 <;> contradiction
         have hflat:Flat Z μ w.heap ti.size (List.replicate len (fi zv).cells) ((Array.range (len * ti.size)).map (zv.cells[· % zv.cells.size]!)):=by
          refine ⟨by simp,fun i j hi hj=>?_⟩
          simp at hi
          have hlt:i * ti.size+j < len * ti.size:=fK (by omega) hj
          have hmod:(i * ti.size+j) % ti.size=j:=by
           rw[Nat.mul_comm,Nat.mul_add_mod]; exact Nat.mod_eq_of_lt hj
          have:=hrz.2 j (by rw[hzl]; exact hj)
          have hj2:j < zv.cells.size:=by omega
          simp only[T0,Array.getElem?_toList,Up hj2,Un] at this
          simpa [T0,Ui,hi,hlt,hzs,hmod,getElem!_pos zv.cells j hj2] using this
         obtain ⟨cs',g1,g2,g3,g4⟩:=GF (fun i=>some (i * ti.size,ti.size)) (fun _=>rfl) ps qs.toList _ es _ hes hr hflat
          (fun i hi=>by simp at hi; simp[T0,hi,hzl])
          (fun i hi=>by simp at hi; simpa [T0,hi] using hzok)
         have g3':es.length=len:=by simpa using g3
         refine bk.value (μ':=μ.set n (w.heap.size,0,ti.size)) (x:=.slice (some ⟨w.heap.size,0,none⟩) len len) (w':=w.alloc (.cells cs' e)) ?_ ?_ (iV _ _) ?_
         ·have hbig':¬ (2 ^ 24 < len * ti.size):=hbig
          simp[Instr.buildSlice,bA hund,dH hti,hbig,hpos,hl0,hs0,jA hti hzv,g1,newRow]
         ·have:=aF.sl (Z:=Z) (μ:=μ.set n (w.heap.size,0,ti.size)) (hp:=(w.alloc (.cells cs' e)).heap) n 0 len ti.size w.heap.size 0 len cs' e (0,0) (by simp[Mu.set]) (Ug _) (by rw[heap_alloc]; simp) (by rw[g2.len,g3']; simp)
          simpa using this
         ·refine ⟨w.heap.size,0,ti.size,Ug _,by rw[heap_alloc]; simp,rfl,eF _ _,?_⟩
          refine en.newRow c.new c.cL (by rw[g2.len]; exact Ug _) g4 (fun i j hi hj=>?_)
          have hlt:i * ti.size+j < cs'.size:=by rw[g2.len]; exact fK hi hj
          refine ⟨cs'[i * ti.size+j],by simp[hlt],?_⟩
          have:=g2.rel i j hi hj
          simpa only [Ui,Up hlt,Un] using this
        ·simp at h
       ·simp at h
theorem GL (place pl:Nat→Option (Nat × Nat)) (hpl:∀ i x,place i=some x→pl i=some x):∀ (ps:List (Nat × V)) (qs:List (Nat × Value)) (cs cs':List V) (aas:Array Value),
  vz place cs ps=some cs'→Dq Z μ w.heap ps qs→cs.length=aas.size→(∀ i,i < cs.length→aF Z μ w.heap (cs.getD i .any) (aas.getD i undef)) →
  ∃ aas',Instr.fill pl aas qs=some aas'∧cs'.length=aas'.size∧(∀ i,i < cs'.length→aF Z μ w.heap (cs'.getD i .any) (aas'.getD i undef))
 | [],[],cs,cs',aas,h,_,h1,h2=>by
  simp only[vz,T7] at h; subst h
  exact ⟨aas,rfl,h1,h2⟩
 | (i,x) :: ps,(i',y) :: qs,cs,cs',aas,h,hr,h1,h2=>by
  obtain ⟨hi,hxy,hrest⟩:=hr
  simp only at hi hxy
  subst hi
  simp only[vz] at h
  split at h
  ·simp at h
  ·rename_i off size hp
   split at h
   ·rename_i hc
    obtain ⟨k1,k2,k3⟩:=hc
    have hcr:=gH hxy k3
    have hcs:=Cw hxy k3
    obtain ⟨m1,m2⟩:=B4 off y.cells aas (by omega)
    have hsl:(aa cs off x.cells).length=cs.length:=xg _ _ _ (by omega)
    obtain ⟨aas',g1,g2,g3⟩:=GL place pl hpl ps qs (aa cs off x.cells) cs' (y.cells.zipIdx.foldl (fun cs (c,j)=>cs.setIfInBounds (off+j) c) aas) h hrest (by rw[hsl,m1,h1])
     (fun k hk=>by
      rw[hsl] at hk
      rw[Ui,m2]
      by_cases e:off≤k∧k < off+x.cells.length
      ·rw[D4 _ _ _ _ (by omega) e,T9 (by omega)]
       have:=hcr.2 (k - off) (by omega)
       simpa [T0] using this
      ·rw[CG _ _ _ _ (by omega) e,T6 (by omega)]
       have:=h2 k hk
       simpa only [Ui] using this)
    refine ⟨aas',?_,g2,g3⟩
    simp only[Instr.fill,hpl i _ hp]
    rw[T6 (by simp only[U8,Ul,not_or]; omega)]
    exact g1
   ·simp at h
 | [],_ :: _,_,_,_,_,hr,_,_=>hr.elim
 | _ :: _,[],_,_,_,_,hr,_,_=>hr.elim
end
section
variable {Z:Nat→Prop} {μ μ':Mu} {w w':World} {P:Program} {H:View} {n:Nat} {v:V} {eff:bC} {rd:List Nat}
theorem Ij {fs:Array Field} (h:∀ f∈fs.toList,(P.info? f.type).isSome=true) :
  (fs.mapM fun f=>do pure (f.offset,← Go.sizeOf f.type):Sem (Array (Nat × Nat))).run P w=.ok (fs.map fun f=>(f.offset,P.cellsOf f.type)) w:=by
 have key:∀ (l:List Field),(∀ f∈l,(P.info? f.type).isSome=true)→(l.mapM fun f=>do pure (f.offset,← Go.sizeOf f.type):Sem (List (Nat × Nat))).run P w=.ok (l.map fun f=>(f.offset,P.cellsOf f.type)) w:=by
  intro l
  induction l with
  | nil=>intro _; rfl
  | cons f r ih =>
   intro hl
   obtain ⟨i,hi⟩:=Option.isSome_iff_exists.1 (hl f V1)
   simp only[List.mapM_cons,Sem.run_bind,dH hi,Result.andThen_ok,Sem.run_pure,ih (fun f hf=>hl f (Ux _ hf)),Uz,wg hi]
 have:=key fs.toList h
 rw[Array.mapM_eq_mapM_toList]
 simp only[Sem.run_map,this,Result.andThen_ok]
 congr 1
 apply Array.ext'
 simp
theorem ye {t:TypeId} {z:V} (h:zeroV P t=some z):∃ i zv,P.info? t=some i∧i.zero=some zv∧z=fi zv:=by
 unfold zeroV at h
 split at h
 ·rename_i i hi
  split at h
  ·rename_i zv hz
   simp at h
   exact ⟨i,zv,hi,hz,h.symm⟩
  ·simp at h
 ·simp at h
theorem LS {t:TypeId} {ps:List (Nat × V)} {qs:Array (Nat × Value)} (h:uG P t ps=some (v,eff,rd)) (hr:Dq Z μ w.heap ps qs.toList) :
  bk Z μ w n v eff ((do pure (Next.value (← Instr.build t qs)):Sem Next).run P w):=by
 unfold uG at h
 split at h
 ·rename_i fs z hu hz
  obtain ⟨i,zv,hi,hzv,hzz⟩:=ye hz
  have hk:lL P t=true:=by
   cases hkk:lL P t with
   | true=>rfl
   | false=>simp[hkk] at h
  rw[T9 hk] at h
  simp only[Uf] at h
  obtain ⟨cs,hcs,h⟩:=h
  simp only[Ua] at h
  obtain ⟨rfl,rfl,rfl⟩:=h
  have hzr:=gE (Z:=Z) (μ:=μ) (w:=w) zv
  rw[← hzz] at hzr
  cases hzr with
  | agg _ aas h1 h2 =>
   have hks:∀ f∈fs.toList,(P.info? f.type).isSome=true:=by
    unfold lL at hk
    rw[hu] at hk
    exact UE.1 hk
   obtain ⟨aas',g1,g2,g3⟩:=GL (placeOf P t) (fun i=>(fs.map fun f=>(f.offset,P.cellsOf f.type))[i]?) (fun i x hx=>by
    unfold placeOf at hx
    simp only[Uf] at hx
    obtain ⟨⟨a,b,ft⟩,hpl,rfl⟩:=hx
    obtain ⟨fs',fd,ti,hu',hfd,hti,rfl,rfl,rfl⟩:=uu hpl
    rw[hu] at hu'
    simp only[T7,TypeDesc.struct.injEq] at hu'
    subst hu'
    simp[hfd,wg hti]) ps qs.toList z _ aas hcs hr h1 h2
   refine bk.here (x:=.agg aas') ?_ (.agg _ _ g2 g3)
   simp only[Instr.build,Sem.run_bind,jA hi hzv,Result.andThen_ok,bA hu,Value.cells]
   rw[Ij hks]
   simp only[Result.andThen_ok,Sem.run_pure]
   have:Instr.fill (fun x=>(fs.map fun f=>(f.offset,P.cellsOf f.type))[x]?) aas qs.toList=some aas':=g1
   simp only[this,Sem.run_pure]
 ·simp at h
theorem bw {α β:Type} (P:Program) (s:Sem α) (f:α→Sem β):bG P (s >>= f)=(bG P s).bind fun a=>bG P (f a):=by
 have key:∀ s:Sem α,bG P (s.bind f)=(bG P s).bind fun a=>bG P (f a):=by
  intro s
  induction s with
  | pure a=>rfl
  | program k ih=>simp only[Sem.bind,bG]; exact ih P
  | _=>rfl
 exact key s
def Keys:List MapEntry→List MapEntry→Prop
 | [],[]=>True
 | a :: r,b :: s=>a.key=b.key∧Keys r s
 | _,_=>False
def Found (l:List MapEntry) (i:Nat):Option (Nat × Value)→Option (Nat × Value)→Prop
 | none,none=>True
 | some (a,_),some (b,x)=>a=b∧i≤a∧(l[a - i]?).map (·.val)=some x
 | _,_=>False
theorem Found.cons {l:List MapEntry} {e:MapEntry} {i:Nat} : ∀ {r r':Option (Nat × Value)},Found l (i+1) r r'→Found (e :: l) i r r'
 | none,none,_=>trivial
 | some (a,_),some (b,x),h=>by
  obtain ⟨rfl,h1,h2⟩:=h
  refine ⟨rfl,by omega,?_⟩
  rw[show a - i=(a - (i+1))+1 from by omega]
  simpa using h2
 | none,some _,h=>h.elim
 | some _,none,h=>h.elim
theorem xB (kind:TypeDesc) (k:Value):∀ (l m:List MapEntry) (i:Nat),Keys l m →
  match Instr.findNow kind k l i,Instr.findNow kind k m i with
  | some r,some r'=>Found m i r r'
  | none,none=>True
  | _,_=>False
 | [],[],i,_=>trivial
 | a :: l,b :: m,i,h=>by
  obtain ⟨hk,hr⟩:=h
  simp only[Instr.findNow,← hk]
  cases hs:Instr.sameNow kind k a.key with
  | none=>trivial
  | some t =>
   cases t with
   | true=>exact ⟨rfl,Ug _,by simp⟩
   | false =>
    have:=xB kind k l m (i+1) hr
    simp only
    split at this
    ·exact this.cons
    ·trivial
    ·exact this.elim
 | [],_ :: _,_,h=>h.elim
 | _ :: _,[],_,h=>h.elim
theorem tE (kt:TypeId) (k:Value):∀ (l m:List MapEntry) (i:Nat) (r:Option (Nat × Value)),Keys l m→bG P (Instr.findAsking kt k l i)=some r →
  ∃ r',(Instr.findAsking kt k m i).run P w=.ok r' w∧Found m i r r'
 | [],[],i,r,_,h=>by
  simp only[Instr.findAsking,bG,Pure.pure,T7] at h
  subst h
  exact ⟨none,rfl,trivial⟩
 | a :: l,b :: m,i,r,hk,h=>by
  obtain ⟨hk,hr⟩:=hk
  simp only[Instr.findAsking,bw,Option.bind_eq_some_iff] at h
  obtain ⟨t,ht,h⟩:=h
  have hrun:=pQ _ ht w
  rw[hk] at hrun
  cases t with
  | true =>
   simp only[if_true,bG,Pure.pure,T7] at h
   subst h
   exact ⟨some (i,b.val),by simp[Instr.findAsking,hrun],rfl,Ug _,by simp⟩
  | false =>
   simp only[Ut,if_false] at h
   obtain ⟨r',h1,h2⟩:=tE kt k l m (i+1) r hr h
   exact ⟨r',by simp[Instr.findAsking,hrun,h1],h2.cons⟩
 | [],_ :: _,_,_,h,_=>h.elim
 | _ :: _,[],_,_,h,_=>h.elim
theorem y9:∀ (es:List (V × V × Nat)) (l m:List MapEntry),hX es=some l→es.length=m.length →
  (∀ i,i < es.length→∃ y,m[i]?=some y∧aF Z μ w.heap (es.getD i default).1 y.key)→Keys l m
 | [],l,m,h,hl,_=>by
  simp only[hX,T7] at h
  subst h
  cases m with
  | nil=>trivial
  | cons _ _=>simp at hl
 | (k,vv,b) :: es,l,m,h,hl,hr=>by
  simp only[hX] at h
  split at h
  ·rename_i x y hx hy
   simp only[T7] at h
   subst h
   cases m with
   | nil=>simp at hl
   | cons e m =>
    obtain ⟨y',h1,h2⟩:=hr 0 (by simp)
    simp only[UC,T7] at h1
    subst h1
    refine ⟨qz h2 hx,y9 es y m hy (by simpa using hl) (fun i hi=>?_)⟩
    obtain ⟨y',h1,h2⟩:=hr (i+1) (by simpa using hi)
    exact ⟨y',by simpa using h1,by simpa using h2⟩
  ·simp at h
theorem pL {kt:TypeId} {k:V} {x:Value} {b:Bool} {es:List (V × V × Nat)} {a:Array MapEntry} {r:Option Nat} (h:mb P kt k b es=some r) (hk:aF Z μ w.heap k x) (hl:a.size=es.length)
  (hr:∀ i,i < es.length→∃ y,a[i]?=some y∧aF Z μ w.heap (es.getD i default).1 y.key) :
  (Instr.checkKey b 10000 kt x).run P w=.ok () w ∧
  ∃ r',(Instr.findKey kt x a.toList).run P w=.ok r' w∧(match r,r' with
   | none,none=>True
   | some i,some (j,y)=>i=j∧(a[i]?).map (·.val)=some y
   | _,_=>False):=by
 unfold mb at h
 split at h
 ·rename_i x' l hx hlst
  have hxx:=qz hk hx
  subst hxx
  have hkeys:=y9 (Z:=Z) (μ:=μ) (w:=w) es l a.toList hlst (by simpa using hl.symm) (fun i hi=>by simpa using hr i hi)
  have hmain:∀ q,bG P (Instr.checkKey b 10000 kt x' >>= fun _=>Instr.findKey kt x' l)=some q→(Instr.checkKey b 10000 kt x').run P w=.ok () w∧∃ r',(Instr.findKey kt x' a.toList).run P w=.ok r' w∧Found a.toList 0 q r':=by
   intro q hq
   rw[bw,Option.bind_eq_some_iff] at hq
   obtain ⟨u,hu,hq⟩:=hq
   refine ⟨pQ _ hu w,?_⟩
   simp only[Instr.findKey,bw,Option.bind_eq_some_iff] at hq
   obtain ⟨d,hd,hq⟩:=hq
   have hdr:=pQ _ hd w
   have hfn:=xB d x' l a.toList 0 hkeys
   cases h1:Instr.findNow d x' l 0 with
   | some r1 =>
    rw[h1] at hfn hq
    simp only[bG,Pure.pure,T7] at hq
    subst hq
    cases h2:Instr.findNow d x' a.toList 0 with
    | none=>rw[h2] at hfn; exact hfn.elim
    | some r2 =>
     rw[h2] at hfn
     exact ⟨r2,by simp[Instr.findKey,hdr,h2],hfn⟩
   | none =>
    rw[h1] at hfn hq
    cases h2:Instr.findNow d x' a.toList 0 with
    | some r2=>rw[h2] at hfn; exact hfn.elim
    | none =>
     obtain ⟨r',h3,h4⟩:=tE (w:=w) kt x' l a.toList 0 q hkeys hq
     exact ⟨r',by simp[Instr.findKey,hdr,h2,h3],h4⟩
  split at h
  ·rename_i i vv hp
   simp only[T7] at h
   subst h
   obtain ⟨h1,r',h2,h3⟩:=hmain _ hp
   refine ⟨h1,r',h2,?_⟩
   cases r' with
   | none=>exact h3.elim
   | some q =>
    obtain ⟨j,y⟩:=q
    obtain ⟨h4,_,h5⟩:=h3
    exact ⟨h4,by simpa using h5⟩
  ·rename_i hp
   simp only[T7] at h
   subst h
   obtain ⟨h1,r',h2,h3⟩:=hmain _ hp
   refine ⟨h1,r',h2,?_⟩
   cases r' with
   | none=>trivial
   | some q=>exact h3.elim
  ·simp at h
 ·simp at h
theorem uE {id:Nat} {x:Value} (h:aF Z μ w.heap (.mp id) x):∃ b o0 s,μ id=some (b,o0,s)∧x=.map (some b):=by
 cases h with | mp _ b o0 s hm=>exact ⟨b,o0,s,hm,rfl⟩
theorem gq {b:Nat} {a:Array MapEntry} {c:Nat} (h:w.heap[b]?=some (.map a c)):(getObj b).run P w=.ok (.map a c) w:=by
 simp[getObj,Sem.run,h]
theorem jH {b:Nat} {a:Array MapEntry} {c:Nat} (o:Obj) (h:w.heap[b]?=some (.map a c)):(setObj b o).run P w=.ok () { w with heap:=w.heap.setIfInBounds b o }:=by
 simp[setObj,Sem.run,h]
theorem og {t kt et:TypeId} (h:dz P t=some (kt,et)):P.underlying t=some (.map kt et):=by
 unfold dz at h
 split at h
 ·rename_i k e hu; simp at h; rw[hu,h.1,h.2]
 ·simp at h
theorem IL {k:Bool} {v1:V} {x1:Value} {b:Bool} (h:aF Z μ w.heap v1 x1) :
  aF Z μ w.heap (if k then .bE [v1,.val (.bool b)] else v1) (if k then .tuple #[x1,.bool b] else x1):=by
 cases k with
 | false=>exact h
 | true =>
  refine .bE _ _ rfl (fun i hi=>?_)
  match i,hi with
  | 0,_=>exact h
  | 1,_=>exact .val _ rfl
theorem Lg {t:TypeId} {m k:V} {mv kv:Value} {ok:Bool} (h:fE P t m k ok H=some (v,eff,rd)) (hm:aF Z μ w.heap m mv) (hk:aF Z μ w.heap k kv) (c:Ctx Z μ w.heap H rd n eff) :
  bk Z μ w n v eff ((do pure (Next.value (← Instr.lookup t mv kv ok)):Sem Next).run P w):=by
 unfold fE at h
 split at h
 ·simp at h
 ·rename_i kt et hmt
  have hu:=og hmt
  split at h
  ·simp at h
  ·rename_i z hz
   obtain ⟨ti,zv,hti,hzv,rfl⟩:=ye hz
   simp only at h
   split at h
   ·rename_i id
    obtain ⟨b,o0,s,hμ,rfl⟩:=uE hm
    split at h
    ·rename_i es clock hH
     have hobj:∀ id',id'=id→en Z μ w.heap id (.map es clock)→∃ a:Array MapEntry,w.heap[b]?=some (.map a clock)∧a.size=es.length ∧
       ∀ i,i < es.length→∃ y,a[i]?=some y∧aF Z μ w.heap (es.getD i default).1 y.key∧aF Z μ w.heap (es.getD i default).2.1 y.val∧y.born=(es.getD i default).2.2:=fun _ _ h=>h b o0 s hμ
     have go:∀ r,mb P kt k es.isEmpty es=some r→en Z μ w.heap id (.map es clock)→∃ x,(Instr.lookup t (.map (some b)) kv ok).run P w=.ok x w ∧
       (match r with
        | some i=>∀ e,es[i]?=some e→aF Z μ w.heap (if ok then .bE [e.2.1,.val (.bool true)] else e.2.1) x
        | none=>aF Z μ w.heap (if ok then .bE [fi zv,.val (.bool false)] else fi zv) x):=by
      intro r hr hor
      obtain ⟨a,ha,hsz,hes⟩:=hobj id rfl hor
      obtain ⟨h1,r',h2,h3⟩:=pL (w:=w) hr hk hsz (fun i hi=>let ⟨y,h1,h2,_⟩:=hes i hi; ⟨y,h1,h2⟩)
      have hemp:a.isEmpty=es.isEmpty:=by
       simp only[Array.isEmpty,hsz]; cases es <;> simp
      cases r with
      | none =>
       cases r' with
       | some q=>exact h3.elim
       | none =>
        refine ⟨if ok then .tuple #[zv,.bool false] else zv,?_,IL (gE _)⟩
        simp only[Instr.lookup,Sem.run_bind,bA hu,Result.andThen_ok,gq ha,Sem.run_pure,hemp,h1,h2,jA hti hzv]
      | some i =>
       cases r' with
       | none=>exact h3.elim
       | some q =>
        obtain ⟨j,y⟩:=q
        obtain ⟨rfl,hy⟩:=h3
        refine ⟨if ok then .tuple #[y,.bool true] else y,?_,fun e he=>?_⟩
        ·simp only[Instr.lookup,Sem.run_bind,bA hu,Result.andThen_ok,gq ha,Sem.run_pure,hemp,h1,h2]
        ·refine IL ?_
         have hi:i < es.length:=by
          rcases Uv i es.length with h | h
          ·exact h
          ·simp[UF h] at he
         obtain ⟨y',g1,g2,g3,g4⟩:=hes i hi
         rw[g1] at hy
         simp only[Ue,T7] at hy
         subst hy
         simpa [T0,he] using g3
     split at h
     ·rename_i i hf
      split at h
      ·rename_i k0 vv b0 he
       simp only[T7,Ua] at h
       obtain ⟨rfl,rfl,rfl⟩:=h
       have hor:=c.obj id (by simp)
       rw[hH] at hor
       obtain ⟨x,hx,hv⟩:=go _ hf hor
       exact bk.here hx (hv _ he)
      ·simp at h
     ·rename_i hf
      simp only[T7,Ua] at h
      obtain ⟨rfl,rfl,rfl⟩:=h
      have hor:=c.obj id (by simp)
      rw[hH] at hor
      obtain ⟨x,hx,hv⟩:=go _ hf hor
      exact bk.here hx hv
     ·simp at h
    ·simp at h
   ·simp at h
end
section
variable {Z:Nat→Prop} {μ μ':Mu} {w w':World} {P:Program} {H:View} {n:Nat} {v:V} {eff:bC} {rd:List Nat}
theorem kL {b:Nat} {a:Array MapEntry} {c:Nat} {o:Obj} (cL:∀ b,Z b→b < w.heap.size) (hz:¬ Z b) (hb:w.heap[b]?=some (.map a c)) :
  gR Z Z μ μ w.heap (w.heap.setIfInBounds b o)∧fC w.heap (w.heap.setIfInBounds b o):=by
 have hs:fC w.heap (w.heap.setIfInBounds b o):=by
  intro k c' e f hk
  by_cases h:b=k
  ·subst h; rw[hb] at hk; simp at hk
  ·exact ⟨c',f,by simp[h,hk],rfl⟩
 exact ⟨⟨fun _ h=>h,fun k hk=>de w.heap b _ k (cL k hk) (fun e=>hz (e ▸ hk)),fun _ _ h=>h,hs⟩,hs⟩
theorem xf {k0 k:V} {x0 x:Value} (h:sameKey k0 k=true) (h0:aF Z μ w.heap k0 x0) (hk:aF Z μ w.heap k x):(Instr.keyThatStays x0 x).run P w=.ok x w:=by
 unfold sameKey at h
 split at h
 ·rename_i a b ha hb
  have e1:=qz h0 ha
  have e2:=qz hk hb
  subst e1 e2
  simp[Instr.keyThatStays,h]
 ·simp at h
theorem en.FJ {id b o0 s:Nat} {es:List (V × V × Nat)} {clock i:Nat} {a:Array MapEntry} {k vv:V} {e':MapEntry} (hμ:μ id=some (b,o0,s)) (cL:∀ b,Z b→b < w.heap.size) (hz:¬ Z b) (ha:w.heap[b]?=some (.map a clock)) (hsz:a.size=es.length)
  (hes:∀ i,i < es.length→∃ y,a[i]?=some y∧aF Z μ w.heap (es.getD i default).1 y.key∧aF Z μ w.heap (es.getD i default).2.1 y.val∧y.born=(es.getD i default).2.2)
  (hi:i < es.length) (f:MapEntry→MapEntry) (hf:∀ y,a[i]?=some y→f y=e') (hk:aF Z μ w.heap k e'.key) (hv:aF Z μ w.heap vv e'.val) {bn:Nat} (hb:e'.born=bn) :
  en Z μ (w.heap.setIfInBounds b (.map (a.modify i f) clock)) id (.map (es.set i (k,vv,bn)) clock):=by
 have hm:=(kL (μ:=μ) (o:=.map (a.modify i f) clock) cL hz ha).1
 intro b1 q1 s1 hx1
 rw[hμ] at hx1
 simp only[T7,Ua] at hx1
 obtain ⟨rfl,rfl,rfl⟩:=hx1
 refine ⟨a.modify i f,dX (eQ ha),by simp[hsz],fun j hj=>?_⟩
 have hj':j < es.length:=by simpa using hj
 obtain ⟨y,h1,h2,h3,h4⟩:=hes j hj'
 by_cases e:i=j
 ·subst e
  have hg:(es.set i (k,vv,bn)).getD i default=(k,vv,bn):=by simp[T0,hi]
  refine ⟨e',by rw[Array.getElem?_modify]; simp[h1,hf y h1],?_⟩
  rw[hg]
  exact ⟨hk.mono hm,hv.mono hm,hb⟩
 ·have hg:(es.set i (k,vv,bn)).getD j default=es.getD j default:=by simp[T0,e]
  refine ⟨y,by rw[Array.getElem?_modify]; simp[e,h1],?_⟩
  rw[hg]
  exact ⟨h2.mono hm,h3.mono hm,h4⟩
theorem en.Jx {id b o0 s:Nat} {es:List (V × V × Nat)} {clock:Nat} {a:Array MapEntry} {k vv:V} {kv vvv:Value} (hμ:μ id=some (b,o0,s)) (cL:∀ b,Z b→b < w.heap.size) (hz:¬ Z b) (ha:w.heap[b]?=some (.map a clock)) (hsz:a.size=es.length)
  (hes:∀ i,i < es.length→∃ y,a[i]?=some y∧aF Z μ w.heap (es.getD i default).1 y.key∧aF Z μ w.heap (es.getD i default).2.1 y.val∧y.born=(es.getD i default).2.2)
  (hk:aF Z μ w.heap k kv) (hv:aF Z μ w.heap vv vvv) :
  en Z μ (w.heap.setIfInBounds b (.map (a.push { key:=kv,val:=vvv,born:=clock }) (clock+1))) id (.map (es ++ [(k,vv,clock)]) (clock+1)):=by
 have hm:=(kL (μ:=μ) (o:=.map (a.push { key:=kv,val:=vvv,born:=clock }) (clock+1)) cL hz ha).1
 intro b1 q1 s1 hx1
 rw[hμ] at hx1
 simp only[T7,Ua] at hx1
 obtain ⟨rfl,rfl,rfl⟩:=hx1
 refine ⟨_,dX (eQ ha),by simp[hsz],fun j hj=>?_⟩
 by_cases e:j < es.length
 ·obtain ⟨y,h1,h2,h3,h4⟩:=hes j e
  have hg:(es ++ [(k,vv,clock)]).getD j default=es.getD j default:=by simp[T0,Us e]
  refine ⟨y,by rw[VI,T6 (by omega)]; exact h1,?_⟩
  rw[hg]
  exact ⟨h2.mono hm,h3.mono hm,h4⟩
 ·obtain rfl:j=es.length:=by simp at hj; omega
  have hg:(es ++ [(k,vv,clock)]).getD es.length default=(k,vv,clock):=by simp[T0]
  refine ⟨_,by rw[VI,T9 hsz.symm],?_⟩
  rw[hg]
  exact ⟨hk.mono hm,hv.mono hm,rfl⟩
theorem rT {id b o0 s:Nat} {es:List (V × V × Nat)} {clock:Nat} (hor:en Z μ w.heap id (.map es clock)) (hμ:μ id=some (b,o0,s)) :
 ∃ a:Array MapEntry,w.heap[b]?=some (.map a clock)∧a.size=es.length ∧
  ∀ i,i < es.length→∃ y,a[i]?=some y∧aF Z μ w.heap (es.getD i default).1 y.key∧aF Z μ w.heap (es.getD i default).2.1 y.val∧y.born=(es.getD i default).2.2:=hor b o0 s hμ
theorem kZ {α:Type} {l:List α} {i:Nat} {x:α} (h:l[i]?=some x):i < l.length:=by
 rcases Uv i l.length with h' | h'
 ·exact h'
 ·simp[UF h'] at h
theorem xn {t:TypeId} {m k vv:V} {mv kv vvv:Value} (h:eZ P t m k vv H=some (v,eff,rd)) (hm:aF Z μ w.heap m mv) (hk:aF Z μ w.heap k kv) (hv:aF Z μ w.heap vv vvv) (c:Ctx Z μ w.heap H rd n eff) :
  bk Z μ w n v eff ((do Instr.mapUpdate t mv kv vvv; pure Next.skip:Sem Next).run P w):=by
 unfold eZ at h
 split at h
 ·rename_i kt et id hmt
  have hu:=og hmt
  obtain ⟨b,o0,s,hμ,rfl⟩:=uE hm
  split at h
  ·rename_i es clock hH
   split at h
   ·rename_i i hf
    split at h
    ·rename_i k0 v0 b0 he
     split at h
     ·rename_i hsk
      simp only[T7,Ua] at h
      obtain ⟨rfl,rfl,rfl⟩:=h
      have hor:=c.obj id (by simp)
      rw[hH] at hor
      obtain ⟨a,ha,hsz,hes⟩:=rT hor hμ
      have hz:=c.gM _ _ _ _ hμ
      have hi:=kZ he
      obtain ⟨y,g1,g2,g3,g4⟩:=hes i hi
      simp only[T0,he,Un] at g2 g3 g4
      obtain ⟨h1,r',h2,h3⟩:=pL (w:=w) hf hk hsz (fun i hi=>let ⟨y,h1,h2,_⟩:=hes i hi; ⟨y,h1,h2⟩)
      cases r' with
      | none=>exact h3.elim
      | some q =>
       obtain ⟨j,y'⟩:=q
       obtain ⟨rfl,hy⟩:=h3
       refine bk.skip (w':={ w with heap:=w.heap.setIfInBounds b (.map (a.modify i fun e=>{ e with key:=kv,val:=vvv }) clock) }) (μ':=μ) ?_ ⟨rfl,rfl,rfl,by simp⟩ ?_
       ·simp only[Instr.mapUpdate,Sem.run_bind,bA hu,Result.andThen_ok,gq ha,h1,h2,g1,Ue,Un,xf hsk g2 hk,jH _ ha]
       ·exact ⟨b,o0,s,hμ,rfl,de _ _ _,(kL (μ:=μ) c.cL hz ha).2,en.FJ hμ c.cL hz ha hsz hes hi _ (e':={ y with key:=kv,val:=vvv }) (fun y2 hy2=>by rw[g1] at hy2; simp at hy2; subst hy2; rfl) hk hv g4⟩
     ·simp at h
    ·simp at h
   ·rename_i hf
    simp only[T7,Ua] at h
    obtain ⟨rfl,rfl,rfl⟩:=h
    have hor:=c.obj id (by simp)
    rw[hH] at hor
    obtain ⟨a,ha,hsz,hes⟩:=rT hor hμ
    have hz:=c.gM _ _ _ _ hμ
    obtain ⟨h1,r',h2,h3⟩:=pL (w:=w) hf hk hsz (fun i hi=>let ⟨y,h1,h2,_⟩:=hes i hi; ⟨y,h1,h2⟩)
    cases r' with
    | some q=>exact h3.elim
    | none =>
     refine bk.skip (w':={ w with heap:=w.heap.setIfInBounds b (.map (a.push { key:=kv,val:=vvv,born:=clock }) (clock+1)) }) (μ':=μ) ?_ ⟨rfl,rfl,rfl,by simp⟩ ?_
     ·simp only[Instr.mapUpdate,Sem.run_bind,bA hu,Result.andThen_ok,gq ha,h1,h2,jH _ ha]
     ·exact ⟨b,o0,s,hμ,rfl,de _ _ _,(kL (μ:=μ) c.cL hz ha).2,en.Jx hμ c.cL hz ha hsz hes hk hv⟩
   ·simp at h
  ·simp at h
 ·simp at h
theorem RT {a b:V} {x y:Value} (h1:aF Z μ w.heap a x) (h2:aF Z μ w.heap b y):aF Z μ w.heap (.bE [a,b]) (.tuple #[x,y]):=by
 refine .bE _ _ rfl (fun i hi=>?_)
 match i,hi with
 | 0,_=>exact h1
 | 1,_=>exact h2
theorem GO {t:TypeId} {m k:V} {mv kv:Value} (h:eh P t m k H=some (v,eff,rd)) (hm:aF Z μ w.heap m mv) (hk:aF Z μ w.heap k kv) (c:Ctx Z μ w.heap H rd n eff) :
  bk Z μ w n v eff ((do pure (Next.value (← Instr.mapEntry t mv kv)):Sem Next).run P w):=by
 unfold eh at h
 split at h
 ·rename_i kt et id hmt
  have hu:=og hmt
  obtain ⟨b,o0,s,hμ,rfl⟩:=uE hm
  split at h
  ·rename_i es clock hH
   split at h
   ·rename_i i hf
    split at h
    ·rename_i k0 v0 b0 he
     split at h
     ·rename_i hsk
      simp only[T7,Ua] at h
      obtain ⟨rfl,rfl,rfl⟩:=h
      have hor:=c.obj id (by simp)
      rw[hH] at hor
      obtain ⟨a,ha,hsz,hes⟩:=rT hor hμ
      have hz:=c.gM _ _ _ _ hμ
      have hi:=kZ he
      obtain ⟨y,g1,g2,g3,g4⟩:=hes i hi
      simp only[T0,he,Un] at g2 g3 g4
      obtain ⟨h1,r',h2,h3⟩:=pL (w:=w) hf hk hsz (fun i hi=>let ⟨y,h1,h2,_⟩:=hes i hi; ⟨y,h1,h2⟩)
      cases r' with
      | none=>exact h3.elim
      | some q =>
       obtain ⟨j,y'⟩:=q
       obtain ⟨rfl,hy⟩:=h3
       rw[g1] at hy
       simp only[Ue,T7] at hy
       subst hy
       have hmm:=kL (μ:=μ) (o:=.map (a.modify i fun e=>{ e with key:=kv }) clock) c.cL hz ha
       refine bk.value (w':={ w with heap:=w.heap.setIfInBounds b (.map (a.modify i fun e=>{ e with key:=kv }) clock) }) (μ':=μ) (x:=.tuple #[y.val,goInt y.born]) ?_ ?_ ⟨rfl,rfl,rfl,by simp⟩ ?_
       ·simp only[Instr.mapEntry,Sem.run_bind,bA hu,Result.andThen_ok,gq ha,h1,h2,g1,Ue,Un,xf hsk g2 hk,jH _ ha,Sem.run_pure]
       ·refine aF.mono hmm.1 (RT g3 ?_)
        rw[g4]; exact .val _ rfl
       ·exact ⟨b,o0,s,hμ,rfl,de _ _ _,hmm.2,en.FJ hμ c.cL hz ha hsz hes hi _ (e':={ y with key:=kv }) (fun y2 hy2=>by rw[g1] at hy2; simp at hy2; subst hy2; rfl) hk g3 g4⟩
     ·simp at h
    ·simp at h
   ·rename_i hf
    split at h
    ·rename_i z hz0
     obtain ⟨ti,zv,hti,hzv,rfl⟩:=ye hz0
     simp only[T7,Ua] at h
     obtain ⟨rfl,rfl,rfl⟩:=h
     have hor:=c.obj id (by simp)
     rw[hH] at hor
     obtain ⟨a,ha,hsz,hes⟩:=rT hor hμ
     have hz:=c.gM _ _ _ _ hμ
     obtain ⟨h1,r',h2,h3⟩:=pL (w:=w) hf hk hsz (fun i hi=>let ⟨y,h1,h2,_⟩:=hes i hi; ⟨y,h1,h2⟩)
     cases r' with
     | some q=>exact h3.elim
     | none =>
      have hmm:=kL (μ:=μ) (o:=.map (a.push { key:=kv,val:=zv,born:=clock }) (clock+1)) c.cL hz ha
      refine bk.value (w':={ w with heap:=w.heap.setIfInBounds b (.map (a.push { key:=kv,val:=zv,born:=clock }) (clock+1)) }) (μ':=μ) (x:=.tuple #[zv,goInt clock]) ?_ ?_ ⟨rfl,rfl,rfl,by simp⟩ ?_
      ·simp only[Instr.mapEntry,Sem.run_bind,bA hu,Result.andThen_ok,gq ha,h1,h2,jA hti hzv,jH _ ha,Sem.run_pure]
      ·exact aF.mono hmm.1 (RT (gE _) (.val _ rfl))
      ·exact ⟨b,o0,s,hμ,rfl,de _ _ _,hmm.2,en.Jx hμ c.cL hz ha hsz hes hk (gE _)⟩
    ·simp at h
   ·simp at h
  ·simp at h
 ·simp at h
theorem C9 {t:TypeId} {m s vv:V} {mv sv vvv:Value} (h:jM m s vv H=some (v,eff,rd)) (hm:aF Z μ w.heap m mv) (hs:aF Z μ w.heap s sv) (hv:aF Z μ w.heap vv vvv) (c:Ctx Z μ w.heap H rd n eff) :
  bk Z μ w n v eff ((do Instr.entryStore t mv sv vvv; pure Next.skip:Sem Next).run P w):=by
 unfold jM at h
 split at h
 ·rename_i id q hq
  obtain ⟨k,rfl⟩:=kr hq
  have hsv:=eT hs
  subst hsv
  obtain ⟨b,o0,s,hμ,rfl⟩:=uE hm
  split at h
  ·rename_i es clock hH
   split at h
   ·rename_i i hf
    split at h
    ·rename_i k0 v0 b0 he
     simp only[T7,Ua] at h
     obtain ⟨rfl,rfl,rfl⟩:=h
     have hor:=c.obj id (by simp)
     rw[hH] at hor
     obtain ⟨a,ha,hsz,hes⟩:=rT hor hμ
     have hz:=c.gM _ _ _ _ hμ
     have hi:=kZ he
     obtain ⟨y,g1,g2,g3,g4⟩:=hes i hi
     simp only[T0,he,Un] at g2 g3 g4
     have hfind:a.findIdx? (fun e=>(e.born:Int) == (q:Int))=some i:=by
      rw[Array.findIdx?_eq_some_iff_getElem]
      rw[List.findIdx?_eq_some_iff_getElem] at hf
      obtain ⟨hi',hp,hlt⟩:=hf
      refine ⟨by omega,?_,?_⟩
      ·have:a[i]=y:=by have:=g1; rw[Up (by omega)] at this; simpa using this
       rw[this,g4]
       have:es[i]=(k0,v0,b0):=by have:=he; rw[T4 hi] at this; simpa using this
       rw[this] at hp
       simp at hp ⊢; omega
      ·intro j hj
       obtain ⟨y2,e1,_,_,e4⟩:=hes j (by omega)
       have h1:a[j]=y2:=by rw[Up (by omega)] at e1; simpa using e1
       have h2:=hlt j hj
       simp only[T0,T4 (show j < es.length by omega),Un] at e4
       rw[h1,e4]
       simp at h2 ⊢; omega
     refine bk.skip (w':={ w with heap:=w.heap.setIfInBounds b (.map (a.modify i fun e=>{ e with val:=vvv }) clock) }) (μ':=μ) ?_ ⟨rfl,rfl,rfl,by simp⟩ ?_
     ·simp only[Instr.entryStore,Sem.run_bind,Result.andThen_ok,gq ha,asInt,asIntOf,Sem.run_pure,hfind,jH _ ha]
     ·exact ⟨b,o0,s,hμ,rfl,de _ _ _,(kL (μ:=μ) c.cL hz ha).2,en.FJ hμ c.cL hz ha hsz hes hi _ (e':={ y with val:=vvv }) (fun y2 hy2=>by rw[g1] at hy2; simp at hy2; subst hy2; rfl) g2 hv g4⟩
    ·simp at h
   ·simp at h
  ·simp at h
 ·simp at h
theorem KR {t:TypeId} {m k:V} {mv kv:Value} {ats:Array TypeId} {ty:TypeId} (h:uX P t m k H=some (v,eff,rd)) (ha0:ats[0]?=some t) (hm:aF Z μ w.heap m mv) (hk:aF Z μ w.heap k kv) (c:Ctx Z μ w.heap H rd n eff) :
  bk Z μ w n v eff ((do pure (Next.value (← Builtin.delete_ ats ty #[mv,kv])):Sem Next).run P w):=by
 unfold uX at h
 split at h
 ·rename_i kt et id hmt
  have hu:=og hmt
  obtain ⟨b,o0,s,hμ,rfl⟩:=uE hm
  split at h
  ·rename_i es clock hH
   have start:en Z μ w.heap id (.map es clock)→∀ r,mb P kt k es.isEmpty es=some r→∃ a:Array MapEntry,w.heap[b]?=some (.map a clock)∧a.size=es.length ∧
     (∀ i,i < es.length→∃ y,a[i]?=some y∧aF Z μ w.heap (es.getD i default).1 y.key∧aF Z μ w.heap (es.getD i default).2.1 y.val∧y.born=(es.getD i default).2.2) ∧
     (∀ i,r=some i→(Builtin.delete_ ats ty #[.map (some b),kv]).run P w=.ok (.tuple #[]) { w with heap:=w.heap.setIfInBounds b (.map (a.eraseIdxIfInBounds i) clock) }) ∧
     (r=none→(Builtin.delete_ ats ty #[.map (some b),kv]).run P w=.ok (.tuple #[]) { w with heap:=w.heap.setIfInBounds b (.map a clock) }):=by
    intro hor r hr
    obtain ⟨a,ha,hsz,hes⟩:=rT hor hμ
    obtain ⟨h1,r',h2,h3⟩:=pL (w:=w) hr hk hsz (fun i hi=>let ⟨y,h1,h2,_⟩:=hes i hi; ⟨y,h1,h2⟩)
    have hemp:a.isEmpty=es.isEmpty:=by
     simp only[Array.isEmpty,hsz]; cases es <;> simp
    refine ⟨a,ha,hsz,hes,fun i hi=>?_,fun hi=>?_⟩
    ·subst hi
     cases r' with
     | none=>exact h3.elim
     | some q =>
      obtain ⟨j,y'⟩:=q
      obtain ⟨rfl,hy⟩:=h3
      simp only[Builtin.delete_,U2,UC,UP,ha0,Sem.run_bind,bA hu,Result.andThen_ok,gq ha,hemp,h1,h2,jH _ ha,Sem.run_pure]
    ·subst hi
     cases r' with
     | some q=>exact h3.elim
     | none =>
      simp only[Builtin.delete_,U2,UC,UP,ha0,Sem.run_bind,bA hu,Result.andThen_ok,gq ha,hemp,h1,h2,jH _ ha,Sem.run_pure]
   split at h
   ·rename_i i hf
    simp only[T7,Ua] at h
    obtain ⟨rfl,rfl,rfl⟩:=h
    have hor:=c.obj id (by simp)
    rw[hH] at hor
    obtain ⟨a,ha,hsz,hes,hrun,_⟩:=start hor _ hf
    have hz:=c.gM _ _ _ _ hμ
    have hmm:=kL (μ:=μ) (o:=.map (a.eraseIdxIfInBounds i) clock) c.cL hz ha
    refine bk.value (μ':=μ) (hrun i rfl) (.any _) ⟨rfl,rfl,rfl,by simp⟩ ⟨b,o0,s,hμ,rfl,de _ _ _,hmm.2,?_⟩
    intro b1 q1 s1 hx1
    rw[hμ] at hx1
    simp only[T7,Ua] at hx1
    obtain ⟨rfl,rfl,rfl⟩:=hx1
    have hel:∀ j,(a.eraseIdxIfInBounds i)[j]?=if j < i then a[j]? else a[j+1]?:=by
     intro j
     have:(a.eraseIdxIfInBounds i)[j]?=(a.toList.eraseIdx i)[j]?:=by rw[← Array.getElem?_toList,Array.toList_eraseIdxIfInBounds]
     rw[this,List.getElem?_eraseIdx]
     split <;> simp
    refine ⟨_,dX (eQ ha),?_,fun j hj=>?_⟩
    ·rw[← Array.length_toList,Array.toList_eraseIdxIfInBounds,List.length_eraseIdx,List.length_eraseIdx]
     simp[hsz]
    ·have hj2:(es.eraseIdx i).getD j default=if j < i then es.getD j default else es.getD (j+1) default:=by
      simp only[T0,List.getElem?_eraseIdx]; split <;> rfl
     rw[hel,hj2]
     have hl:(es.eraseIdx i).length≤es.length∧(i < es.length→(es.eraseIdx i).length=es.length - 1):=by
      rw[List.length_eraseIdx]; split <;> omega
     by_cases e:j < i
     ·rw[T9 e,T9 e]
      obtain ⟨y,g1,g2,g3,g4⟩:=hes j (by omega)
      exact ⟨y,g1,g2.mono hmm.1,g3.mono hmm.1,g4⟩
     ·rw[T6 e,T6 e]
      have:j+1 < es.length:=by
       rcases Uv i es.length with h9 | h9
       ·have:=hl.2 h9; omega
       ·have:=hl.1; omega
      obtain ⟨y,g1,g2,g3,g4⟩:=hes (j+1) this
      exact ⟨y,g1,g2.mono hmm.1,g3.mono hmm.1,g4⟩
   ·rename_i hf
    simp only[T7,Ua] at h
    obtain ⟨rfl,rfl,rfl⟩:=h
    have hor:=c.obj id (by simp)
    rw[hH] at hor
    obtain ⟨a,ha,hsz,hes,_,hrun⟩:=start hor _ hf
    have hsame:w.heap.setIfInBounds b (.map a clock)=w.heap:=by
     apply Array.ext_getElem?
     intro k
     simp only[U5]
     split
     ·rename_i hk
      subst hk
      rw[T9 (eQ ha)]; exact ha.symm
     ·rfl
    have h5:=hrun rfl
    rw[hsame] at h5
    exact bk.here h5 (.any _)
   ·simp at h
  ·simp at h
 ·simp at h
end
section
variable {Z:Nat→Prop} {μ μ':Mu} {w w':World} {P:Program} {H:View} {n:Nat} {v:V} {eff:bC} {rd:List Nat}
theorem QC {t:TypeId} {x:V} {xv:Value} {ats:Array TypeId} {ty:TypeId} (h:tV P t x H=some (v,eff,rd)) (ha0:ats[0]?=some t) (hx:aF Z μ w.heap x xv) (c:Ctx Z μ w.heap H rd n eff) :
  bk Z μ w n v eff ((do pure (Next.value (← Builtin.len_ ats ty #[xv])):Sem Next).run P w):=by
 unfold tV at h
 split at h
 ·rename_i e hu
  simp only[Uf] at h
  obtain ⟨m,hm,h⟩:=h
  simp only[Ua] at h
  obtain ⟨rfl,rfl,rfl⟩:=h
  obtain ⟨ad,cap,rfl,_⟩:=dS hx hm
  exact bk.here (x:=goInt m) (by simp[Builtin.len_,ha0,bA hu]) (.val _ rfl)
 ·rename_i k e hu
  split at h
  ·rename_i id
   obtain ⟨b,o0,s,hμ,rfl⟩:=uE hx
   split at h
   ·rename_i es clock hH
    simp only[T7,Ua] at h
    obtain ⟨rfl,rfl,rfl⟩:=h
    have hor:=c.obj id (by simp)
    rw[hH] at hor
    obtain ⟨a,ha,hsz,hes⟩:=rT hor hμ
    refine bk.here (x:=goInt es.length) ?_ (.val _ rfl)
    simp[Builtin.len_,ha0,bA hu,gq ha,hsz]
   ·simp at h
  ·simp only[T7,Ua] at h
   obtain ⟨rfl,rfl,rfl⟩:=h
   have:=eT hx
   subst this
   exact bk.here (x:=goInt 0) (by simp[Builtin.len_,ha0,bA hu]) (.val _ rfl)
  ·simp at h
 ·rename_i hu
  split at h
  ·rename_i s
   simp only[T7,Ua] at h
   obtain ⟨rfl,rfl,rfl⟩:=h
   have:=eT hx
   subst this
   exact bk.here (x:=goInt s.size) (by simp[Builtin.len_,ha0,bA hu]) (.val _ rfl)
  ·simp at h
 ·rename_i m e hu
  simp only[T7,Ua] at h
  obtain ⟨rfl,rfl,rfl⟩:=h
  exact bk.here (x:=goInt m) (by simp[Builtin.len_,ha0,bA hu]) (.val _ rfl)
 ·simp at h
theorem zT {b:Nat} {s:ByteArray} {pos:Nat} (h:w.heap[b]?=some (.stringIter s pos)):(getObj b).run P w=.ok (.stringIter s pos) w:=by
 simp[getObj,Sem.run,h]
theorem Ir {b:Nat} {s:ByteArray} {pos:Nat} (o:Obj) (h:w.heap[b]?=some (.stringIter s pos)):(setObj b o).run P w=.ok () { w with heap:=w.heap.setIfInBounds b o }:=by
 simp[setObj,Sem.run,h]
theorem Pe {x:V} {xv:Value} {ty:TypeId} (h:A4 x H=some (v,eff,rd)) (hx:aF Z μ w.heap x xv) (c:Ctx Z μ w.heap H rd n eff) :
  bk Z μ w n v eff ((do pure (Next.value (← Instr.next xv true ty)):Sem Next).run P w):=by
 unfold A4 at h
 split at h
 ·rename_i id
  obtain ⟨b,o0,s,hμ,rfl⟩:=nu hx
  split at h
  ·rename_i st pos hH
   split at h
   ·rename_i hlt
    simp only[T7,Ua] at h
    obtain ⟨rfl,rfl,rfl⟩:=h
    have hor:=c.obj id (by simp)
    rw[hH] at hor
    obtain ⟨rfl,hb⟩:=hor b o0 s hμ
    have hz:=c.gM _ _ _ _ hμ
    have hs:fC w.heap (w.heap.setIfInBounds b (.stringIter st (pos+(Utf8.decode st pos).2))):=by
     intro k c' e f hk
     by_cases h:b=k
     ·subst h; rw[hb] at hk; simp at hk
     ·exact ⟨c',f,by simp[h,hk],rfl⟩
    refine bk.value (w':={ w with heap:=w.heap.setIfInBounds b (.stringIter st (pos+(Utf8.decode st pos).2)) }) (μ':=μ) (x:=.tuple #[.bool true,goInt pos,.int .i32 (Utf8.decode st pos).1]) ?_ ?_ ⟨rfl,rfl,rfl,by simp⟩ ?_
    ·simp only[Nat.zero_mul,VM,Instr.next,Sem.run_bind,zT hb,Result.andThen_ok,hlt,if_true,Ir _ hb,Sem.run_pure]
    ·refine .bE _ _ rfl (fun i hi=>?_)
     match i,hi with
     | 0,_=>exact .val _ rfl
     | 1,_=>exact .val _ rfl
     | 2,_=>exact .val _ rfl
    ·refine ⟨b,0,s,hμ,rfl,de _ _ _,hs,?_⟩
     intro b1 q1 s1 hx1
     rw[hμ] at hx1
     simp only[T7,Ua] at hx1
     obtain ⟨rfl,rfl,rfl⟩:=hx1
     exact ⟨rfl,dX (eQ hb)⟩
   ·rename_i hlt
    simp only[T7,Ua] at h
    obtain ⟨rfl,rfl,rfl⟩:=h
    have hor:=c.obj id (by simp)
    rw[hH] at hor
    obtain ⟨rfl,hb⟩:=hor b o0 s hμ
    refine bk.here (x:=.tuple #[.bool false]) ?_ (.bE _ _ rfl (fun i hi=>?_))
    ·simp only[Nat.zero_mul,VM,Instr.next,Sem.run_bind,zT hb,Result.andThen_ok,hlt,if_false,Sem.run_pure]
    ·match i,hi with
     | 0,_=>exact .val _ rfl
  ·simp at h
 ·simp at h
theorem EH:∀ (ns:List Int) (s:ByteArray),ns.foldl (fun r n=>r.push (UInt8.ofNat n.toNat)) s=⟨s.data ++ (ns.map fun n=>UInt8.ofNat n.toNat).toArray⟩
 | [],s=>by simp
 | n :: ns,s=>by
  simp only[Uu,Uz]
  rw[EH ns]
  congr 1
  apply Array.ext'
  simp[ByteArray.push]
theorem Bb:∀ (xs:List (List V)) (l:List UInt8),kH xs=some l→∃ ns:List Int,xs=ns.map (fun n=>[V.val (.int .u8 n)])∧l=ns.map fun n=>UInt8.ofNat n.toNat
 | [],l,h=>by
  simp only[kH,T7] at h; subst h
  exact ⟨[],rfl,rfl⟩
 | x :: r,l,h=>by
  unfold kH at h
  split at h
  ·simp at *
  ·rename_i n r' heq
   simp only[V3] at heq
   obtain ⟨rfl,rfl⟩:=heq
   simp only[Uf] at h
   obtain ⟨l',hl',rfl⟩:=h
   obtain ⟨ns,rfl,rfl⟩:=Bb _ _ hl'
   exact ⟨n :: ns,rfl,rfl⟩
  ·simp at h
theorem Q8 {esz:Nat} {es:List (List V)} {c:Array Value} {e:TypeId} {f:Nat × Nat}
  (hn:μ n=none) (cL:∀ b,Z b→b < w.heap.size) (hf:f.1=f.2∨c.size≤f.1) (hs:es.length * esz≤c.size) (hlen:∀ i,i < es.length→(es.getD i []).length=esz)
  (h:∀ i j,i < es.length→j < esz→∃ x,c[i * esz+j]?=some x∧aF Z μ w.heap ((es.getD i []).getD j .any) x) :
  en Z (μ.set n (w.heap.size,0,esz)) (w.heap.push (.cells c e f)) n (.arr esz es):=by
 intro b o0 s hx
 simp only[Mu.set,if_true,T7,Ua] at hx
 obtain ⟨rfl,rfl,rfl⟩:=hx
 have hm:gR Z Z μ (μ.set n (w.heap.size,0,esz)) w.heap (w.heap.push (.cells c e f)):=by
  refine ⟨fun _ h=>h,fun b hb=>?_,fun id x hx=>?_,?_⟩
  ·have:=cL b hb
   rw[VI,T6 (by omega)]
  ·by_cases hid:id=n
   ·subst hid; simp[hn] at hx
   ·simp[Mu.set,hid,hx]
  ·intro b c' e' f' hb
   have:=eQ hb
   exact ⟨c',_,by rw[VI,T6 (by omega)]; exact hb,rfl⟩
 refine ⟨rfl,⟨c,e,f,by simp,hf,by simpa using hs⟩,hlen,fun i j hi hj=>?_⟩
 obtain ⟨x,hx,hv⟩:=h i j hi hj
 exact ⟨x,by simp[cellAt,hx],hv.mono hm⟩
theorem HZ {b:Nat} {c:Array Value} {e:TypeId} {f:Nat × Nat} (h:w.heap[b]?=some (.cells c e f)) :
  ∃ f',(w.freeze ⟨b,c.size,none⟩ 1) = { w with heap:=w.heap.setIfInBounds b (.cells c e f') }∧((f.1=f.2∨c.size≤f.1)→(f'.1=f'.2∨c.size≤f'.1)):=by
 obtain ⟨lo,up⟩:=f
 refine ⟨if lo == up then (c.size,c.size+1) else (min lo c.size,max up (c.size+1)),?_,fun hf=>?_⟩
 ·unfold World.freeze
  rw[T6 (by omega)]
  congr 1
  apply Array.ext_getElem?
  intro i
  simp only[Array.getElem?_modify,U5]
  by_cases hi:b=i
  ·subst hi
   have hlt:=eQ h
   have hb:w.heap[b]=.cells c e (lo,up):=by simpa [Up hlt] using h
   simp[hb,hlt]
  ·simp[hi]
 ·right
  simp only at hf
  split
  ·exact Ug _
  ·rename_i hne
   simp only[Va] at hne
   simp only; omega
theorem Iy {s d:TypeId} {x:V} {xv:Value} (h:mH P s d x H n=some (v,eff,rd)) (hx:aF Z μ w.heap x xv) (c:Ctx Z μ w.heap H rd n eff) :
  bk Z μ w n v eff ((do pure (Next.value (← convert s d xv)):Sem Next).run P w):=by
 unfold mH at h
 split at h
 ·rename_i e hs hd
  split at h
  ·rename_i he
   split at h
   ·rename_i xs rdx m hel hlv
    simp only[Uf] at h
    obtain ⟨l,hl,h⟩:=h
    simp only[Ua] at h
    obtain ⟨rfl,rfl,rfl⟩:=h
    obtain ⟨ns,rfl,rfl⟩:=Bb _ _ hl
    obtain ⟨ad,cap,rfl,_⟩:=dS hx hlv
    have hlen:=(yi (P:=P) (size:=1) hel hx).1
    simp only[Builtin.lenOf,Sem.run_pure,Result.ok.injEq,Uc,and_true] at hlen
    subst hlen
    obtain ⟨fl,hfl,_,hfirst⟩:=py (P:=P) (size:=1) hel hx c.obj (by simp)
    have hf:=hfirst _ (Ug _)
    have hfll:fl.size=ns.length:=by have:=hfl.len; simpa using this
    rw[ja fl (by simpa using hfl.len)] at hf
    have hfeq:fl=(ns.map (Value.int .u8)).toArray:=by
     apply Array.ext
     ·simp[hfll]
     ·intro i h1 h2
      have hi:i < ns.length:=by omega
      have:=hfl.rel i 0 (by simpa using hi) (by omega)
      simp only[T0,T8,T4 hi,Ue,Un,UC,Nat.mul_one,VM,Ui,Up h1] at this
      have:=eT this
      simpa using this
    have hrun:(Conv.bytesToString (.slice ad ns.length cap)).run P w=.ok (.string ⟨(ns.map fun n=>UInt8.ofNat n.toNat).toArray⟩) w:=by
     cases ad with
     | none =>
      have:ns=[]:=by
       simp only[Builtin.firstCells,Sem.run_pure,Result.ok.injEq,and_true] at hf
       rw[← hf] at hfll
       simp at hfll
       exact Vn.1 hfll.symm
      subst this
      rfl
     | some a =>
      have h9:(loadCells a ns.length).run P w=.ok (ns.map (Value.int .u8)).toArray w:=by
       rw[← hfeq]
       simpa [Builtin.firstCells] using hf
      rw[run_bytesToString w a ns.length cap ns h9,EH]
      congr 2
      simp
    refine bk.here (x:=.string ⟨(ns.map fun n=>UInt8.ofNat n.toNat).toArray⟩) ?_ (.val _ rfl)
    rw[run_convert_bytes_string w s d e ad ns.length cap hs he hd]
    exact hrun
   ·simp at h
  ·simp at h
 ·rename_i e st hs hd
  split at h
  ·rename_i he
   simp only[T7,Ua] at h
   obtain ⟨rfl,rfl,rfl⟩:=h
   unfold gC
   have:=eT hx
   subst this
   have hcap:st.size≤grownCap w st.size 0 e:=by
    unfold grownCap Question.cut; exact Nat.le_add_right _ _
   have hbs:(bytesRow st (grownCap w st.size 0 e)).size=grownCap w st.size 0 e:=by
    simp only[bytesRow,Array.size_append,Array.size_map,Array.size_replicate]
    have:st.data.size=st.size:=rfl
    omega
   refine bk.value (μ':=μ.set n (w.heap.size,0,1)) (run_bytes_of_string w s d e st hs hd he) ?_ (j5 _ _) ?_
   ·rw[heap_alloc,eR]
    have:=aF.sl (Z:=Z) (μ:=μ.set n (w.heap.size,0,1)) (hp:=w.heap.push (.cells (bytesRow st (grownCap w st.size 0 e)) e ((bytesRow st (grownCap w st.size 0 e)).size,(bytesRow st (grownCap w st.size 0 e)).size+1))) n 0 st.size 1 w.heap.size 0 (grownCap w st.size 0 e) _ e _ (by simp[Mu.set]) hcap (by simp; exact ⟨rfl,rfl⟩) (by rw[hbs]; simp)
    simpa using this
   ·refine ⟨w.heap.size,0,1,Ug _,by rw[heap_alloc,eR]; simp,rfl,by rw[heap_alloc,eR]; exact eF _ _,?_⟩
    rw[heap_alloc,eR]
    have hl:(st.data.toList.map fun b=>([V.val (Value.int .u8 b.toNat)]:List V)).length=st.size:=by rw[Uc,bsize]
    refine Q8 c.new c.cL (.inr (Ug _)) (by rw[hl,hbs]; omega) ?_ ?_
    ·intro i hi
     have hi':i < st.data.toList.length:=by simpa using hi
     simp only[T0,T8,T4 hi',Ue,Un,Um,UG]
    ·intro i j hi hj
     obtain rfl:j=0:=by omega
     have hi':i < st.data.size:=by simpa using hi
     refine ⟨.int .u8 (st.data[i]).toNat,?_,?_⟩
     ·simp only[bytesRow,Nat.mul_one,VM]
      rw[Vo (by simpa using hi'),Array.getElem?_map,Up hi']
      rfl
     ·simp only[T0,T8,Array.getElem?_toList,Up hi',Ue,Un,UC]
      exact .val _ rfl
  ·simp at h
 ·rename_i e1 e2 id off len esz hs hd
  split at h
  ·rename_i hc
   obtain ⟨hsd,hl0⟩:=hc
   subst hsd
   rw[hs] at hd
   simp only[T7,TypeDesc.slice.injEq] at hd
   subst hd
   split at h
   ·rename_i he
    split at h
    ·rename_i z es hH
     simp only[T7,Ua] at h
     obtain ⟨rfl,rfl,rfl⟩:=h
     have hor:=c.obj id (by simp)
     rw[hH] at hor
     cases hx with
     | oZ=>exact absurd rfl hl0
     | sl _ _ _ _ b o0 cap cc e' f hm hle hbk hsp =>
      obtain ⟨rfl,⟨c2,e2,f2,hc2,hf2,hs2⟩,h3,h4⟩:=hor b o0 esz hm
      rw[hbk] at hc2
      simp only[T7,Obj.cells.injEq] at hc2
      obtain ⟨rfl,rfl,rfl⟩:=hc2
      obtain ⟨f',hfz,hff⟩:=HZ hbk
      have hz:=c.gM _ _ _ _ hm
      have hbl:=eQ hbk
      have hm':gR Z Z μ μ w.heap (w.heap.setIfInBounds b (.cells cc e' f')):=by
       refine ⟨fun _ h=>h,fun k hk=>de w.heap b _ k (c.cL k hk) (fun e=>hz (e ▸ hk)),fun _ _ h=>h,?_⟩
       intro k x e0 f0 hk
       by_cases hb:b=k
       ·subst hb
        rw[hbk] at hk
        simp only[T7,Obj.cells.injEq] at hk
        obtain ⟨rfl,rfl,rfl⟩:=hk
        exact ⟨cc,f',dX hbl,rfl⟩
       ·exact ⟨x,f0,by simp[hb,hk],rfl⟩
      refine bk.value (w':={ w with heap:=w.heap.setIfInBounds b (.cells cc e' f') }) (μ':=μ) (x:=.slice (some ⟨b,o0+off * esz,none⟩) len cap) ?_ ((aF.sl id off len esz b o0 cap cc e' f hm hle hbk hsp).mono hm') ⟨rfl,rfl,rfl,by simp⟩ ?_
      ·have hsh:w.shape? b=some (e',cc.size):=by simp[World.shape?,hbk]
       simp only[convert,Sem.run_bind,bA hs,Result.andThen_ok,bA he,Vy,markStringish,run_shape,hsh,run_freeze,hfz,Sem.run_pure]
      ·refine ⟨b,o0,esz,hm,rfl,de _ _ _,hm'.shape,?_⟩
       intro b1 q1 s1 hx1
       rw[hm] at hx1
       simp only[T7,Ua] at hx1
       obtain ⟨rfl,rfl,rfl⟩:=hx1
       refine ⟨rfl,⟨cc,e',f',dX hbl,hff hf2,hs2⟩,h3,fun i j hi hj=>?_⟩
       obtain ⟨x,hx,hv⟩:=h4 i j hi hj
       refine ⟨x,?_,hv.mono hm'⟩
       simp only[cellAt,dX hbl]
       simpa only [cellAt,hbk] using hx
    ·simp at h
   ·simp at h
  ·simp at h
 ·simp at h
theorem rP {o:Oper} {T:Env} {a:Act} (h:dL P o T=some (v,eff,rd)) (hT:∀ x∈o.op.operands,aF Z μ w.heap (ev T x) (a.eval x))
  (hc:∀ ρ:Operand→Value,(∀ x∈o.op.operands,ρ x=a.eval x)→execOp ρ o=execOp a.eval o):bk Z μ w n v eff ((execOp a.eval o).run P w):=by
 unfold dL at h
 split at h
 ·rename_i hall
  split at h
  ·rename_i x hx
   split at h
   ·rename_i hp
    simp only[T7,Ua] at h
    obtain ⟨rfl,rfl,rfl⟩:=h
    rw[hc] at hx
    ·exact ⟨.value x,w,μ,pQ _ hx w,.inl ⟨x,rfl,.val _ hp⟩,eE.refl _,iJ⟩
    ·intro y hy
     rw[Array.all_eq_true_iff_forall_mem] at hall
     obtain ⟨z,hz⟩:=Option.isSome_iff_exists.1 (hall y hy)
     rw[hz]
     exact qz (hT y hy) hz
   ·simp at h
  ·simp at h
 ·simp at h
theorem AP {T:Env} {a:Act} : ∀ (l:List (Nat × Operand)),(∀ x∈l.map (·.2),aF Z μ w.heap (ev T x) (a.eval x))→Dq Z μ w.heap (l.map fun (i,x)=>(i,ev T x)) (l.map fun (i,x)=>(i,a.eval x))
 | [],_=>trivial
 | (i,x) :: r,h=>⟨rfl,h x (by simp),AP r (fun y hy=>h y (by simp at hy ⊢; exact .inr hy))⟩
theorem JE {T:Env} {a:Act} (xs:Array Operand) (h:∀ x∈xs,aF Z μ w.heap (ev T x) (a.eval x)) :
  (xs.toList.map (ev T)).length=(xs.map a.eval).size∧∀ i,i < (xs.toList.map (ev T)).length→aF Z μ w.heap ((xs.toList.map (ev T)).getD i .any) ((xs.map a.eval).getD i undef):=by
 refine ⟨by simp,fun i hi=>?_⟩
 have hi':i < xs.size:=by simpa using hi
 have:=h xs[i] (Array.getElem_mem _)
 simpa [T0,Ui,hi'] using this
theorem Da {T:Env} {a:Act} (o:Option Operand) (h:∀ x∈o.toArray,aF Z μ w.heap (ev T x) (a.eval x)):yw Z μ w.heap (o.map (ev T)) (o.map a.eval):=by
 cases o with
 | none=>trivial
 | some x=>exact h x (by simp)
theorem Rj {cs:List V} {x:Value} {t:TypeId} (h:lG cs n=some (v,eff,rd)) (hr:cs.all aX=true→fU Z μ w.heap cs x.cells.toList) (c:Ctx Z μ w.heap H rd n eff) :
  bk Z μ w n v eff ((do pure (Next.value (← Instr.box t x)):Sem Next).run P w):=by
 have:=JM (P:=P) (t:=t) h hr c
 simpa [Instr.box] using this
end
end Gv
