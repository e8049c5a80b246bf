/-
  Part 2 of the proof: what the machine does and what the functions answer.
  Conditions: those that each lemma names.
-/
import Derived.Laws.BytesString
import Derived.Laws.IdiomStrings
import Derived.Test.YtoamakccoedejaaGreatDoorSGjSA
set_option linter.unusedSimpArgs false
set_option linter.unusedVariables false
set_option maxRecDepth 100000
set_option maxHeartbeats 20000000
namespace Gv
open Go
section
variable {Z:Nat->Prop} {μ μ':Mu} {w w':World} {P:Program} {H:View} {n:Nat} {v:V} {ag:az} {rd:List Nat}
theorem Ar {t1:TypeId} (a:iV P t1=true):∃d,P.underlying t1=some d/\∀k,d≠.int k:=by
 unfold iV at a
 cases hu:P.underlying t1 with
 | none=>simp[hu] at a
 | some d=>refine⟨d,rfl,λk e=>?_⟩;subst e;simp[hu] at a
theorem qP {t0 t1 e:TypeId} {ti:TypeInfo} {b:Array TypeId} {ty:TypeId} {base:Option Addr} {sLen sCap m:Nat} {g:Value} {new:Array Value}
  (h:b[0]?=some t0) (i:b[1]?=some t1) (j:iV P t1=true) (f:P.underlying t0=some (.slice e)) (l:P.info? e=some ti)
  (o:(Builtin.lenOf g).run P w=.ok m w) (hle:sLen+m<=sCap) (p:(Builtin.firstCells ti.size m g).run P w=.ok new w)
  (c:(match base with | some a=>storeCells (a.add (sLen*ti.size)) new.toList | none=>pure ()).run P w=.ok () w'):
  (Builtin.append_ b ty #[.slice base sLen sCap,g]).run P w=.ok (.slice base (sLen+m) sCap) w':=by
 obtain⟨d,q,n⟩:=Ar j
 cases d with
 | int k=>exact absurd rfl (n k)
 | _ =>
 simp only[Builtin.append_,Hp,Hd,Hx,h,i,Sem.run_bind,aw f,Result.andThen_ok,bt l,aw q,Sem.run_pure,Hc,if_false,o,Bool.not_false,if_true]
 rw[GZ hle]
 simp only[Sem.run_bind,p,Result.andThen_ok,Sem.run_pure]
 cases base with
 | none=>simp only[Sem.run_pure,Result.ok.injEq,true_and] at c;subst c;rfl
 | some a=>simp only[Sem.run_bind,c,Result.andThen_ok,Sem.run_pure]
theorem qm (v:Value):(cK v).cells.length=v.cells.size:=by
 have c:∀v,(ij v).cells.length=1:=by
  intro v
  have:∀x:V,(∀cs,x≠.agg cs)->x.cells.length=1:=by
   intro x d
   cases x<;>first | rfl | (rename_i cs;exact absurd rfl (d cs))
  apply this
  cases v with
  | slice a len cap =>
   cases a with
   | none =>
    cases len with
    | zero=>cases cap<;>simp[ij]
    | succ l=>simp[ij]
   | some a=>simp[ij]
  | _=>simp only[ij];split<;>simp
 cases v with
 | agg cs=>simp[cK,V.cells,Value.cells]
 | func fn a b =>
  cases fn with
  | func f=>simp only[cK];split<;>simp[V.cells,Value.cells]
  | _=>simp only[cK];rw[c];rfl
 | _=>simp only[cK];rw[c];rfl
theorem Au {e:TypeId} {ti:TypeInfo} (b:P.info? e=some ti) (d:(zeroCells P e).map List.length=some ti.size):∃g:Array Value,g.size=ti.size/\∀w',∃c,(zeroValue e).run P w'=.ok c w'/\c.cells=g:=by
 cases a:zeroCells P e with
 | none=>simp[a] at d
 | some z =>
  obtain⟨c,f,rfl⟩:=ee b a
  refine⟨c.cells,?_,λw'=>⟨c,ew b f w',rfl⟩⟩
  rw[a] at d
  simp at d
  rw[<-d,qm]
theorem cJ (w:World):w.drew.heap=w.heap:=rfl
theorem fm (w:World) (o:Obj):bZ w (w.drew.alloc o):=⟨rfl,rfl,rfl,by rw[heap_alloc,cJ];simp⟩
theorem gO {l r:List (List V)} {i:Nat} (h:i<l.length):(l++r).getD i []=l.getD i []:=by
 simp[GQ,Hz h]
theorem gf {l r:List (List V)} {i:Nat} (h:l.length<=i):(l++r).getD i []=r.getD (i-l.length) []:=by
 simp[GQ,HN h]
theorem sF {e:TypeId} {size:Nat} {ys xs:List (List V)} {old g rest:Array Value} (l:μ n=none) (aX:∀b,Z b->b<w.heap.size)
  (f:Flat Z μ w.heap size ys old) (k:Flat Z μ w.heap size xs g) (s1:∀e∈ys,e.length=size) (s2:∀e∈xs,e.length=size):
  bT Z (μ.set n (w.heap.size,0,size)) (w.heap.push (.cells (old++g++rest) e (0,0))) n (.arr size (ys++xs)):=by
 refine bT.newRow l aX ?_ ?_ ?_
 .simp[f.len,k.len,Hl]
 .intro i hi
  by_cases d:i<ys.length
  .rw[gO d]
   simp only[GQ,GR d,G1]
   exact s1 _ (G4 _)
  .have c:i-ys.length<xs.length:=by simp at hi;omega
   rw[gf (by omega)]
   simp only[GQ,GR c,G1]
   exact s2 _ (G4 _)
 .intro i j hi h
  by_cases d:i<ys.length
  .have a:i*size+j<old.size:=by rw[f.len];exact c4 d h
   refine⟨old[i*size+j],?_,?_⟩
   .rw[HO (by simp;omega),HO a,G3 a]
   .rw[gO d]
    have:=f.rel i j d h
    simpa only [GW,G3 a,G1] using this
  .have c:i-ys.length<xs.length:=by simp at hi;omega
   have a:(i-ys.length)*size+j<g.size:=by rw[k.len];exact c4 c h
   have m:i*size+j-old.size=(i-ys.length)*size+j:=by
    rw[f.len,Nat.sub_mul]
    have:ys.length*size<=i*size:=Hf _ (by omega)
    omega
   have o:old.size<=i*size+j:=by
    rw[f.len]
    have:ys.length*size<=i*size:=Hf _ (by omega)
    omega
   refine⟨g[(i-ys.length)*size+j],?_,?_⟩
   .rw[HO (by simp;omega),Array.getElem?_append_right o,m,G3 a]
   .rw[gf (by omega)]
    have:=k.rel _ j c h
    simpa only [GW,G3 a,G1] using this
theorem xC {size:Nat} {xs:List (List V)} (h:(xs.all λe=>e.length==size&&e.all au)=true):(∀e∈xs,e.length=size)/\∀e∈xs,e.all au=true:=by
 refine⟨λe he=>?_,λe he=>?_⟩
 .have:=Hg.1 h e he
  simp only[G0,HC] at this
  exact this.1
 .have:=Hg.1 h e he
  simp only[G0,HC] at this
  exact this.2
theorem fU {ad:Option Addr} {len cap size:Nat} : (Builtin.firstCells size 0 (.slice ad len cap)).run P w=.ok #[] w:=by
 cases ad with
 | none=>simp[Builtin.firstCells]
 | some a=>simp[Builtin.firstCells,loadCells,loadCellsFrom]
theorem oc {x:V} {b:Value} {xs:List (List V)} {size:Nat} (he:bc H x=some (xs,rd)) (a:ae Z μ w.heap x b):
  (Builtin.lenOf b).run P w=.ok xs.length w/\(Builtin.firstCells size 0 b).run P w=.ok #[] w:=by
 unfold bc at he
 split at he
 .obtain⟨rfl,_⟩:=he
  obtain⟨ad,cap,rfl,_⟩:=bL a rfl
  exact⟨rfl,fU⟩
 .obtain⟨rfl,_⟩:=he
  obtain⟨ad,cap,rfl,_⟩:=bL a rfl
  exact⟨rfl,fU⟩
 .obtain⟨rfl,_⟩:=he
  obtain⟨ad,cap,rfl,_⟩:=bL a rfl
  exact⟨rfl,fU⟩
 .obtain⟨rfl,_⟩:=he
  obtain⟨ad,cap,rfl,_⟩:=bL a rfl
  exact⟨rfl,fU⟩
 .split at he
  .split at he
   .rename_i hle
    obtain⟨rfl,_⟩:=he
    obtain⟨ad,cap,rfl,_⟩:=bL a rfl
    refine⟨?_,fU⟩
    rw[HW,List.length_drop,Nat.min_eq_left (by omega)];rfl
   .simp at he
  .simp at he
 .rename_i str
  obtain⟨rfl,_⟩:=he
  have c:=bd a
  subst c
  refine⟨by rw[G8,bsize];rfl,?_⟩
  have:(str.extract 0 0).data = #[]:=by rw[ByteArray.data_extract];simp
  simp[Builtin.firstCells,this]
 .simp at he
theorem eE (a:Array Value) {k:Nat} (h:a.size=k):a.extract 0 k=a:=by subst h;simp
theorem sH {t0 t1 e:TypeId} {ti:TypeInfo} {f:Array TypeId} {ty:TypeId} {base:Option Addr} {sLen sCap:Nat} {x:V} {F:Value} {xs ys:List (List V)} {g:List Nat} {old:Array Value}
  (r:f[0]?=some t0) (s:f[1]?=some t1) (t:iV P t1=true) (j:P.underlying t0=some (.slice e)) (k:P.info? e=some ti) (u:(zeroCells P e).map List.length=some ti.size)
  (he:bc H x=some (xs,g)) (G:ae Z μ w.heap x F) (M:μ n=none) (c:Ctx Z μ w.heap H rd n ag) (v:∀id,id∈g->id∈rd) (y:∀e∈xs,e.length=ti.size) (z:ys.length=sLen) (A:sCap<sLen+xs.length)
  (B:(sLen+xs.length)*ti.bytes<aD) (C:sLen+xs.length<aD) (hold:Flat Z μ w.heap ti.size ys old) (D:∀e∈ys,e.length=ti.size)
  (N:(Builtin.firstCells ti.size sLen (.slice base sLen sCap)).run P w.drew=.ok old w.drew):
  ∃I w',(Builtin.append_ f ty #[.slice base sLen sCap,F]).run P w=.ok I w'/\ae Z (μ.set n (w.heap.size,0,ti.size)) w'.heap (.sl n 0 (sLen+xs.length) ti.size) I/\bZ w w' /\
   w.heap.size<w'.heap.size/\cT w.heap w'.heap (λ_=>False)/\bT Z (μ.set n (w.heap.size,0,ti.size)) w'.heap n (.arr ti.size (ys++xs)):=by
 obtain⟨J,l,E⟩:=Au k u
 have d:∀id,id∈g->bT Z μ w.heap id (H id):=λid h=>c.obj id (v id h)
 obtain⟨Q,O,hlen,q⟩:=iG (P:=P) he G d y
 obtain⟨m,a,_,b⟩:=iG (P:=P) (w:=w.drew) he G d y
 have K:=b _ (GX _)
 rw[eE m a.len] at K
 obtain⟨cap,o,p⟩:=wC (P:=P) (w:=w) (ty:=ty) r s t j k hlen A B C E N K
 refine⟨_,_,p,?_,fm _ _,by rw[heap_alloc,cJ];simp,by rw[heap_alloc,cJ];exact b6 _ _,by rw[heap_alloc,cJ];exact sF M c.aX hold a D y⟩
 rw[heap_alloc,cJ]
 have i:(Builtin.zeroCells J (cap-(sLen+xs.length))).size=(cap-(sLen+xs.length))*ti.size:=by simp[Builtin.zeroCells,l]
 have L:cap*ti.size=sLen*ti.size+xs.length*ti.size+(cap-(sLen+xs.length))*ti.size:=by
  rw[<-Hl,<-Hl];congr 1;omega
 have:=ae.sl (Z:=Z) (μ:=μ.set n (w.heap.size,0,ti.size)) (hp:=w.heap.push (.cells (old++m++Builtin.zeroCells J (cap-(sLen+xs.length))) e (0,0))) n 0 (sLen+xs.length) ti.size w.heap.size 0 cap _ e (0,0) (by simp[Mu.set]) o (by simp;rfl)
  (by simp only[Array.size_append,hold.len,a.len,i,z,Hy];omega)
 simpa using this
theorem CT {b o0 s:Nat} {c d:Array Value} {e:TypeId} {f:Nat × Nat} (j:μ n=none) (aX:∀b,Z b->b<w.heap.size) (l:¬ Z b) (m:w.heap[b]?=some (.cells c e f)) (o:d.size=c.size):
  dC Z Z μ (μ.set n (b,o0,s)) w.heap (w.heap.setIfInBounds b (.cells d e f)):=by
 refine⟨λ_ h=>h,λk g=>bo w.heap b _ k (aX k g) (λe=>l (e▸g)),λid x i=>?_,er m o⟩
 by_cases a:id=n
 .subst a;simp[j] at i
 .simp[Mu.set,a,i]
theorem CQ {t0 t1 e:TypeId} {ti:TypeInfo} {u:Array TypeId} {ty:TypeId} {x:V} {xv:Value} {xs es:List (List V)} {A:List Nat} {id off len b o0 cap:Nat} {cc:Array Value} {e':TypeId} {f:Nat × Nat}
  (N:u[0]?=some t0) (O:u[1]?=some t1) (Q:iV P t1=true) (B:P.underlying t0=some (.slice e)) (R:P.info? e=some ti)
  (he:bc H x=some (xs,A)) (hx:ae Z μ w.heap x xv) (hn:μ n=none) (c:Ctx Z μ w.heap H rd n ag) (S:∀id,id∈A->id∈rd) (T:∀e∈xs,e.length=ti.size) (U:∀e∈xs,e.all au=true)
  {C:Nat} (_:H id=.arr C es) (W:bT Z μ w.heap id (.arr ti.size es)) (hm:μ id=some (b,o0,ti.size)) (ao:off+len<=es.length) (hle:len<=cap)
  (a:w.heap[b]?=some (.cells cc e' f)) (a1:o0+(off+cap)*ti.size<=cc.size) (d:len+xs.length<=cap):
  aq Z μ w n (.sl n 0 (len+xs.length) ti.size) (.cU id (.arr ti.size ((es.drop off).take len++xs)))
   ((do pure (Next.value (<-Builtin.append_ u ty #[.slice (some ⟨b,o0+off*ti.size,none⟩) len cap,xv])):Sem Next).run P w):=by
 obtain⟨_,⟨c2,e2,f2,v,D,a6⟩,h3,h4⟩:=W b o0 ti.size hm
 rw[a] at v
 simp only[GS,Obj.cells.injEq] at v
 obtain⟨rfl,rfl,rfl⟩:=v
 obtain⟨E,g,hlen,m⟩:=iG (P:=P) he hx (λid h=>c.obj id (S id h)) T
 have h5:=m _ (GX _)
 rw[eE E g.len] at h5
 have hz:=c.dQ _ _ _ _ hm
 have hmul:(off+cap)*ti.size=off*ti.size+cap*ti.size:=Hl _ _ _
 have X:len*ti.size+xs.length*ti.size<=cap*ti.size:=by rw[<-Hl];exact Hf _ d
 have q:E.toList.length=xs.length*ti.size:=by rw[Array.length_toList,g.len]
 obtain⟨L,Y,k,z⟩:=k8 (P:=P) (off:=o0+off*ti.size+len*ti.size) a (iU D) E.toList (by rw[q];omega) (pj g T U)
 have F:=cr a
 have G:=CT (o0:=o0+off*ti.size) (s:=ti.size) hn c.aX hz a k
 have I:((es.drop off).take len).length=len:=by simp;omega
 have r:∀i,i<len->((es.drop off).take len++xs).getD i []=es.getD (off+i) []:=by
  intro i hi
  rw[gO (by omega)]
  simp[GQ,HA,hi]
 have l:∀i,len<=i->((es.drop off).take len++xs).getD i []=xs.getD (i-len) []:=by
  intro i hi
  rw[gf (by omega),I]
 refine aq.value (w':={ w with heap:=w.heap.setIfInBounds b (.cells L e' f) }) (μ':=μ.set n (b,o0+off*ti.size,ti.size)) (qP N O Q B R hlen d h5 (by simpa only [ec] using Y)) ?_ ⟨rfl,rfl,rfl,by simp⟩ ?_
 .have:=ae.sl (Z:=Z) (μ:=μ.set n (b,o0+off*ti.size,ti.size)) (hp:=w.heap.setIfInBounds b (.cells L e' f)) n 0 (len+xs.length) ti.size b (o0+off*ti.size) cap L e' f (by simp[Mu.set]) d (bN F) (by rw[k,Hy];omega)
  simpa using this
 .refine⟨b,o0+off*ti.size,ti.size,rfl,?_,.inr ⟨⟨o0,ti.size,hm⟩,bo _ _ _,er a k⟩⟩
  intro b1 q1 s1 J
  simp only[Mu.set,if_true,GS,G6] at J
  obtain⟨rfl,rfl,rfl⟩:=J
  have t:((es.drop off).take len++xs).length=len+xs.length:=by rw[Im,I]
  refine⟨rfl,⟨L,e',f,bN F,by rw[k];exact D,by rw[t,k,Hl];omega⟩,?_,?_⟩
  .intro i hi
   by_cases o:i<len
   .rw[r i o];exact h3 _ (by omega)
   .rw[l i (by omega)]
    have p:i-len<xs.length:=by omega
    simp only[GQ,GR p,G1]
    exact T _ (G4 _)
  .intro i j hi M
   rw[t] at hi
   rw[z,q]
   by_cases o:i<len
   .have h6:i*ti.size+j<len*ti.size:=c4 o M
    rw[GV (by omega),r i o]
    obtain⟨y,hy,hv⟩:=h4 (off+i) j (by omega) M
    rw[Hl] at hy
    exact⟨y,by rw[<-hy];congr 1;omega,hv.mono G⟩
   .have p:i-len<xs.length:=by omega
    have h6:(i-len)*ti.size+j<xs.length*ti.size:=c4 p M
    have h7:i*ti.size=len*ti.size+(i-len)*ti.size:=by rw[<-Hl];congr 1;omega
    rw[GZ (by omega),l i (by omega)]
    have K:(i-len)*ti.size+j<E.size:=by rw[g.len];exact h6
    refine⟨E[(i-len)*ti.size+j],?_,?_⟩
    .rw[show o0+off*ti.size+i*ti.size+j-(o0+off*ti.size+len*ti.size)=(i-len)*ti.size+j from by omega]
     simp[K]
    .have:=(g.rel _ j p M).mono G
     simpa only [GW,G3 K,G1] using this
theorem zn {t0 t1:TypeId} {o:Array TypeId} {ty:TypeId} {s x:V} {G Q:Value} (h:gW P t0 s x H n=some (v,ag,rd)) (r:o[0]?=some t0) (t:o[1]?=some t1) (u:iV P t1=true)
  (R:ae Z μ w.heap s G) (S:ae Z μ w.heap x Q) (c:Ctx Z μ w.heap H rd n ag):
  aq Z μ w n v ag ((do pure (Next.value (<-Builtin.append_ o ty #[G,Q])):Sem Next).run P w):=by
 unfold gW at h
 split at h
 .rename_i e xs bn hu he
  have k:P.underlying t0=some (.slice e):=by
   unfold aY at hu;split at hu<;>simp_all
  split at h
  .simp at h
  .rename_i ti y
   split at h
   .rename_i d
    have d:xs=[]:=by simpa using d
    subst d
    have fin:∀m,dd s=some m->some (s,az.none,([]:List Nat))=some (v,ag,rd)->aq Z μ w n v ag ((do pure (Next.value (<-Builtin.append_ o ty #[G,Q])):Sem Next).run P w):=by
     intro m hm heq
     obtain⟨rfl,rfl,rfl⟩:=heq
     obtain⟨ad,cap,rfl,hle⟩:=bL R hm
     have z:=oc (P:=P) (size:=ti.size) he S
     refine aq.here (qP r t u k y z.1 (by omega) z.2 ?_) R
     cases ad<;>simp[storeCells]
    split at h
    .exact fin 0 rfl h
    .exact fin 0 rfl h
    .exact fin _ rfl h
    .exact fin _ rfl h
    .simp at h
   .rename_i d
    have d:xs≠[]:=by simpa using d
    have a8:0<xs.length:=List.length_pos_iff.2 d
    split at h
    .simp at h
    .rename_i p
     simp only[not_or,Bool.not_eq_false,Classical.not_not] at p
     obtain⟨bk,I,J⟩:=p
     obtain⟨W,X⟩:=xC J
     split at h
     .split at h
      .rename_i Y
       obtain⟨C,D⟩:=Y
       obtain⟨rfl,rfl,rfl⟩:=h
       cases R with
       | emp _ ad =>
        obtain⟨xr,w',q,T,g,E,hold,a⟩:=sH (n:=n) (ty:=ty) (base:=ad) (sLen:=0) (sCap:=0) (ys:=[]) (old:=#[]) r t u k y I he S c.new c (λid h=>h) W rfl (by omega) (by simpa using C) (by simpa using D)
         ⟨by simp,λi j hi=>by simp at hi⟩ (by simp) (by simpa using jG (w:=w.drew) (ad:=ad) (cap:=0) (GX 0))
        simp only[Hy] at T
        exact aq.value q T g ⟨w.heap.size,0,ti.size,GX _,E,rfl,hold,a⟩
      .simp at h
     .rename_i id off len esz
      split at h
      .rename_i bl es U
       split at h
       .rename_i Y
        obtain⟨K,rfl,C,D⟩:=Y
        obtain⟨rfl,rfl,rfl⟩:=h
        have a:=c.obj id (by simp)
        rw[U] at a
        have grow:∀base sCap (old:Array Value),G=.slice base len sCap->sCap<len+xs.length->Flat Z μ w.heap ti.size ((es.drop off).take len) old->(∀e∈(es.drop off).take len,e.length=ti.size) ->
          (Builtin.firstCells ti.size len (.slice base len sCap)).run P w.drew=.ok old w.drew ->
          aq Z μ w n (.sl n 0 (len+xs.length) ti.size) (.cU id (.arr ti.size ((es.drop off).take len++xs))) ((do pure (Next.value (<-Builtin.append_ o ty #[G,Q])):Sem Next).run P w):=by
         intro base sCap old ao a1 a6 A ho
         subst ao
         have hlen:((es.drop off).take len).length=len:=by simp;omega
         obtain⟨xr,w',q,T,g,E,hold,a⟩:=sH (n:=n) (ty:=ty) r t u k y I he S c.new c (λi h=>Hw _ h) W hlen a1 C D a6 A ho
         exact aq.value q T g ⟨w.heap.size,0,ti.size,rfl,a,.inl ⟨GX _,E,hold⟩⟩
        cases R with
        | fj _ _ _ ad =>
         refine grow ad 0 #[] rfl (by omega) ⟨by simp,λi j hi=>by simp at hi⟩ (by simp) (by simpa using jG (w:=w.drew) (ad:=ad) (cap:=0) (GX 0))
        | sl _ _ _ _ b o0 cap cc e' f hm hle F L =>
         have hlen:((es.drop off).take len).length=len:=by simp;omega
         obtain⟨heq,⟨c2,e2,f2,M,bs,bx⟩,h3,h4⟩:=a b o0 ti.size hm
         subst heq
         rw[F] at M
         obtain⟨rfl,rfl,rfl⟩:=M
         have A:∀e∈(es.drop off).take len,e.length=ti.size:=by
          intro e a7
          obtain⟨i,hi,rfl⟩:=List.getElem_of_mem (List.mem_of_mem_drop (List.mem_of_mem_take a7))
          have:=h3 i hi
          simpa [GQ,hi] using this
         by_cases N:len+xs.length<=cap
         .exact CQ r t u k y he S c.new c (λi h=>Hw _ h) W X U a hm K hle F L N
         .by_cases O:len=0
          .subst O
           exact grow _ cap #[] rfl (by omega) ⟨by simp,λi j hi=>by simp at hi⟩ (by simp) (by simpa using jG (w:=w.drew) (ad:=some ⟨b,o0+off*ti.size,none⟩) (cap:=cap) (GX 0))
          .have z:bc H (.sl id off len ti.size)=some ((es.drop off).take len,[id]):=by
            cases len with
            | zero=>exact absurd rfl O
            | succ l=>simp[bc,U,K]
           obtain⟨old,hold,_,B⟩:=iG (P:=P) (w:=w.drew) (Z:=Z) (μ:=μ) z (ae.sl id off len ti.size b o0 cap cc e' f hm hle F L) (λi hi=>by
            simp at hi;subst hi;rw[U];exact a) A
           have h5:=B len (by omega)
           rw[eE old (by rw[hold.len,hlen])] at h5
           exact grow _ cap old rfl (by omega) hold A h5
       .simp at h
      .simp at h
     .simp at h
 .simp at h
theorem DK {t0:TypeId} {a:Array TypeId} {ty:TypeId} {x:V} {f:Value} (h:vu P t0 x=some (v,ag,rd)) (d:a[0]?=some t0)
  (g:ae Z μ w.heap x f) (c:Ctx Z μ w.heap H rd n ag):
  aq Z μ w n v ag ((do pure (Next.value (<-Builtin.cap_ a ty #[f])):Sem Next).run P w):=by
 unfold vu at h
 split at h
 .rename_i e k hu
  have b:P.underlying t0=some (.slice e):=by
   unfold aY at hu;split at hu<;>simp_all
  obtain⟨rfl,rfl,rfl⟩:=h
  cases g with
  | emp _ ad =>
   refine aq.here (x:=goInt 0) ?_ (.val _ rfl)
   simp only[Builtin.cap_,Hp,Hd,d,Sem.run_bind,aw b,Result.andThen_ok,Sem.run_pure]
   rfl
 .simp at h
theorem u6 {t0 t1 e:TypeId} {ti:TypeInfo} {k:IntKind} {b:Array TypeId} {ty:TypeId} {base:Option Addr} {m:Nat} {k2:IntKind} {j:Value}
  (l:b[0]?=some t0) (n:b[1]?=some t1) (s:P.underlying t1=some (.int k)) (d:P.underlying t0=some (.slice e)) (c:P.info? e=some ti)
  (o:0<m) (t:m*ti.bytes<aD) (p:m<aD) (q:m*ti.size≠0) (u:∀w',(zeroValue e).run P w'=.ok j w'):
  ∃cap,m<=cap/\(Builtin.append_ b ty #[.slice base 0 0,.int k2 (m:Int)]).run P w =
   .ok (.slice (some ⟨w.heap.size,0,none⟩) m cap) (w.drew.alloc (.cells (#[]++Builtin.zeroCells j.cells m++Builtin.zeroCells j.cells (cap-m)) e)):=by
 have r:=r8
 have f:=growslice_fits (old:=0) o (show m*ti.bytes<=140737488355328 by omega)
 have g:¬ ((m:Int)>IntKind.i64.max):=by
  have:IntKind.i64.max=9223372036854775807:=by decide
  rw[this];omega
 have h:¬ (Builtin.nextslicecap m 0*ti.bytes>2 ^ 48):=by
  have:(2:Nat) ^ 48=281474976710656:=by decide
  rw[this];exact Nat.not_lt.2 f
 have v:IntKind.i64.wrap (m:Int)=m:=wrap_small p
 have g1:¬ ((m:Int)<0):=by omega
 have g2:¬ ((m:Int)*(ti.bytes:Int)>2 ^ 48):=by
  have:((m*ti.bytes:Nat):Int)<2 ^ 48:=by omega
  push_cast at this;omega
 refine⟨Question.cut (.appendCap m 0 e) (w.tape w.drawn (.appendCap m 0 e)),Nat.le_add_right _ _,?_⟩
 have i:Question.forced (.appendCap m 0 e)=false:=rfl
 have a:∀w':World,(Builtin.firstCells ti.size 0 (.slice base 0 0)).run P w'=.ok #[] w':=λw'=>fU
 simp only[Builtin.append_,Hp,Hd,Hx,l,n,Sem.run_bind,aw d,Result.andThen_ok,bt c,aw s,Sem.run_pure,if_true,asInt,asIntOf,v,Int.toNat_natCast,Sem.run_ite,g1,g2,if_false,iH c,Hy]
 rw[GV (by omega)]
 simp only[g,false_and,if_false,Sem.run_bind,Result.andThen_ok,Sem.run_ite,Sem.run_pure,h,run_choose,i,Hc,World.drew_eq,run_askRoom,a,q,u,Iq,newRow,bt c,run_newObj,World.alloc_eq]
 rfl
theorem qt {ti:TypeInfo} {z:List V} {a:Value} {m:Nat} (hr:cL Z μ w.heap z a.cells.toList) (b:z.length=ti.size):Flat Z μ w.heap ti.size (List.replicate m z) (Builtin.zeroCells a.cells m):=by
 have c:a.cells.size=ti.size:=by rw[<-b,hr.1];simp
 refine⟨by simp[Builtin.zeroCells,c],λi j hi e=>?_⟩
 simp only[List.length_replicate] at hi
 have f:i*ti.size+j<m*ti.size:=c4 hi e
 have d:(i*ti.size+j) % ti.size=j:=by
  rw[Nat.mul_comm,Nat.mul_add_mod];exact Nat.mod_eq_of_lt e
 have g:=hr.2 j (by rw[b];exact e)
 have h:(List.replicate m z).getD i []=z:=by simp[GQ,hi]
 have k:(Builtin.zeroCells a.cells m).getD (i*ti.size+j) undef=a.cells.toList.getD j undef:=by
  simp[Builtin.zeroCells,GW,GQ,c,f,d,getElem!_pos a.cells j (by omega),show j<a.cells.size by omega]
  rw[G3 (by omega)];rfl
 rw[h,k]
 exact g
theorem Cx {t0 t1:TypeId} {f:Array TypeId} {ty:TypeId} {s x:V} {N O:Value} (h:l5 P t0 s x n=some (v,ag,rd)) (r:f[0]?=some t0) (t:f[1]?=some t1) (g:isInt P t1=true)
  (Q:ae Z μ w.heap s N) (u:ae Z μ w.heap x O) (c:Ctx Z μ w.heap H rd n ag):
  aq Z μ w n v ag ((do pure (Next.value (<-Builtin.append_ f ty #[N,O])):Sem Next).run P w):=by
 unfold l5 at h
 split at h
 .rename_i e l k hu R
  have b:P.underlying t0=some (.slice e):=by
   unfold aY at hu;split at hu<;>simp_all
  have q:∃d,P.underlying t1=some (.int d):=by
   unfold isInt at g;split at g
   .rename_i d q;exact⟨d,q⟩
   .simp at g
  obtain⟨d,q⟩:=q
  obtain⟨S,rfl⟩:=eR R
  have u:=bd u
  subst u
  split at h
  .rename_i ti z a T
   split at h
   .rename_i U
    subst U
    obtain⟨rfl,rfl,rfl⟩:=h
    cases Q with
    | emp _ ad W G =>
     refine aq.here (x:=.slice ad 0 0) ?_ (.emp _ ad W G)
     have X:IntKind.i64.wrap ((0:Nat):Int)=0:=by decide
     have g2:¬ ((0:Int)*(ti.bytes:Int)>2 ^ 48):=by rw[Int.zero_mul];decide
     simp only[Builtin.append_,Hp,Hd,Hx,r,t,Sem.run_bind,aw b,Result.andThen_ok,bt a,aw q,Sem.run_pure,if_true,asInt,asIntOf,X,Sem.run_ite,Int.lt_irrefl,g2,if_false,iH a,Hy,Int.toNat_zero,GX,Nat.zero_mul,Iq,Hc]
     cases ad<;>simp[storeCells]
   .split at h
    .rename_i G
     obtain⟨o,y,Y,I,J⟩:=G
     obtain⟨rfl,rfl,rfl⟩:=h
     obtain⟨p,K,rfl⟩:=ee a T
     cases Q with
     | emp _ ad =>
      have A:l*ti.size≠0:=by
       intro h;rcases Nat.mul_eq_zero.1 h with h | h<;>contradiction
      obtain⟨cap,B,C⟩:=u6 (P:=P) (w:=w) (ty:=ty) (base:=ad) (k2:=S) r t q b a (by omega) I J A (λw'=>ew a K w')
      have hr:=dq (cZ (Z:=Z) (μ:=μ) (w:=w) p) y
      have D:p.cells.size=ti.size:=by rw[<-o,hr.1];simp
      have L:=qt (m:=l) (ti:=ti) hr o
      have M:(Builtin.zeroCells p.cells l).size=l*ti.size:=by simp[Builtin.zeroCells,D]
      have E:(Builtin.zeroCells p.cells (cap-l)).size=(cap-l)*ti.size:=by simp[Builtin.zeroCells,D]
      have F:cap*ti.size=l*ti.size+(cap-l)*ti.size:=by rw[<-Hl];congr 1;omega
      refine aq.value (μ':=μ.set n (w.heap.size,0,ti.size)) C ?_ (fm _ _) ?_
      .rw[heap_alloc,cJ]
       have:=ae.sl (Z:=Z) (μ:=μ.set n (w.heap.size,0,ti.size)) (hp:=w.heap.push (.cells (#[]++Builtin.zeroCells p.cells l++Builtin.zeroCells p.cells (cap-l)) e (0,0))) n 0 l ti.size w.heap.size 0 cap _ e (0,0) (by simp[Mu.set]) B (by simp;rfl)
        (by simp only[Array.size_append,M,E,Hy]; (try simp);exact Nat.le_of_eq F)
       simpa using this
      .refine⟨w.heap.size,0,ti.size,GX _,by rw[heap_alloc,cJ];simp,rfl,by rw[heap_alloc,cJ];exact b6 _ _,?_⟩
       rw[heap_alloc,cJ]
       have:=sF (e:=e) (rest:=Builtin.zeroCells p.cells (cap-l)) c.new c.aX (ys:=[]) (old:=#[]) ⟨by simp,λi j hi=>by simp at hi⟩ L (by simp) (λx u=>by rw[(List.mem_replicate.1 u).2];exact o)
       simpa using this
    .simp at h
  .simp at h
 .simp at h
theorem dR:∀(ys es:List (List V)) (i:Nat),(gM es i ys).length=es.length
 | [],_,_=>rfl
 | y::ys,es,i=>by rw[gM,dR ys];simp
theorem jx:∀(ys es:List (List V)) (i k:Nat),i+ys.length<=es.length->(gM es i ys).getD k []=if i<=k/\k<i+ys.length then ys.getD (k-i) [] else es.getD k []
 | [],es,i,k,_=>by rw[GV (by simp only[Hh];omega)];rfl
 | y::ys,es,i,k,h=>by
  simp only[G5] at h
  rw[gM,jx ys _ _ _ (by simp;omega)]
  simp only[G5]
  by_cases a:i=k
  .subst a
   rw[GV (by omega),GZ (by omega)]
   simp[GQ,show i<es.length by omega]
  .by_cases b:i+1<=k/\k<i+1+ys.length
   .rw[GZ b,GZ (by omega),show k-i=(k-(i+1))+1 from by omega]
    simp
   .rw[GV b,GV (by omega)]
    simp[GQ,a]
theorem Dg {t0:TypeId} {t:Array TypeId} {ty:TypeId} {d x:V} {dv B:Value} (h:qu P t0 d x H=some (v,ag,rd)) (U:t[0]?=some t0)
  (hd:ae Z μ w.heap d dv) (hx:ae Z μ w.heap x B) (c:Ctx Z μ w.heap H rd n ag):
  aq Z μ w n v ag ((do pure (Next.value (<-Builtin.copy_ t ty #[dv,B])):Sem Next).run P w):=by
 unfold qu at h
 split at h
 .rename_i e xs bx dl hu he u
  have C:P.underlying t0=some (.slice e):=by
   unfold aY at hu;split at hu<;>simp_all
  obtain⟨ad,cap,rfl,bk⟩:=bL hd u
  have run:∀(new:Array Value) w' ti,P.info? e=some ti->(Builtin.lenOf B).run P w=.ok xs.length w->(Builtin.firstCells ti.size (Nat.min xs.length dl) B).run P w=.ok new w ->
    (match ad with | some a=>storeCells a new.toList | none=>pure ()).run P w=.ok () w' ->
    (Builtin.copy_ t ty #[.slice ad dl cap,B]).run P w=.ok (goInt (Nat.min xs.length dl:Nat)) w':=by
   intro new w' ti o h1 h2 D
   simp only[Builtin.copy_,Hp,Hd,Hx,U,Sem.run_bind,aw C,Result.andThen_ok,bt o,Sem.run_pure,h1,h2]
   cases ad with
   | none=>simp only[Sem.run_pure,Result.ok.injEq,true_and] at D;subst D;rfl
   | some a=>simp only[Sem.run_bind,D,Result.andThen_ok,Sem.run_pure]
  split at h
  .simp at h
  .rename_i ti o
   split at h
   .rename_i E
    obtain⟨rfl,rfl,rfl⟩:=h
    have F:=oc (P:=P) (size:=ti.size) he hx
    have g:Nat.min xs.length dl=0:=by
     have:(xs.take dl).length=0:=by rw[List.isEmpty_iff.1 E];rfl
     rw[HW] at this
     show min _ _=0;omega
    have:=run #[] w ti o F.1 (by rw[g];exact F.2) (by cases ad<;>simp[storeCells])
    rw[g] at this
    exact aq.here this (ae.val _ rfl)
   .rename_i W
    split at h
    .rename_i id off len esz
     split at h
     .rename_i bl es hH
      split at h
      .rename_i hb
       obtain⟨b0,rfl,bn,G⟩:=hb
       obtain⟨X,Y⟩:=xC G
       obtain⟨rfl,rfl,rfl⟩:=h
       simp only[dd,GS] at u
       subst u
       have I:=c.obj id (by simp)
       rw[hH] at I
       have g:(xs.take len).length=Nat.min xs.length len:=by rw[HW,Nat.min_comm]
       have J:0<(xs.take len).length:=List.length_pos_iff.2 (by simpa using W)
       cases hd with
       | fj=>simp at J
       | sl _ _ _ _ b o0 _ cc e' f hm _ m b2 =>
        obtain⟨heq,⟨c2,e2,f2,K,L,ao⟩,D,h4⟩:=I b o0 ti.size hm
        subst heq
        rw[m] at K
        obtain⟨rfl,rfl,rfl⟩:=K
        obtain⟨a1,M,hlen,p⟩:=iG (P:=P) he hx (λid h=>c.obj id (Hw _ h)) X
        have h5:=p (Nat.min xs.length len) (Nat.min_le_left _ _)
        have l:=Am M (Nat.min xs.length len) (Nat.min_le_left _ _)
        have a6:xs.take (Nat.min xs.length len)=xs.take len:=by
         rw[List.take_eq_take_iff];show min (min xs.length len) xs.length=min len xs.length;omega
        rw[a6] at l
        generalize a1.extract 0 (Nat.min xs.length len*ti.size)=N at h5 l
        have s:N.toList.length=(xs.take len).length*ti.size:=by rw[Array.length_toList,l.len]
        have bs:(xs.take len).length<=len:=by rw[HW];omega
        have z:(off+(xs.take len).length)*ti.size<=es.length*ti.size:=Hf _ (by omega)
        rw[Hl] at z
        have hz:=c.dQ _ _ _ _ hm
        obtain⟨c',a7,q,A⟩:=k8 (P:=P) (off:=o0+off*ti.size) m (iU L) N.toList (by rw[s];omega) (pj l (λe he=>X e (List.mem_of_mem_take he)) (λe he=>Y e (List.mem_of_mem_take he)))
        have a8:=cr m
        have O:dC Z Z μ μ w.heap (w.heap.setIfInBounds b (.cells c' e' f)):=
         ⟨λ_ h=>h,λk hk=>bo w.heap b _ k (c.aX k hk) (λe=>hz (e▸hk)),λ_ _ h=>h,er m q⟩
        refine aq.value (μ':=μ) (run N _ ti o hlen h5 a7) ?_ ⟨rfl,rfl,rfl,by simp⟩ ?_
        .rw[g];exact ae.val _ rfl
        .refine⟨b,o0,ti.size,hm,rfl,bo _ _ _,er m q,?_⟩
         intro b1 q1 s1 Q
         rw[hm] at Q
         obtain⟨rfl,rfl,rfl⟩:=Q
         have R:=λk=>jx (xs.take len) es off k (by omega)
         refine⟨rfl,⟨c',e',f,bN a8,by rw[q];exact L,by rw[dR,q];exact ao⟩,?_,?_⟩
         .intro i hi
          rw[dR] at hi
          rw[R]
          split
          .have r:i-off<(xs.take len).length:=by omega
           simp only[GQ,GR r,G1]
           exact X _ (List.mem_of_mem_take (G4 _))
          .exact D i hi
         .intro i j hi hj
          rw[dR] at hi
          rw[A,s,R]
          by_cases S:off<=i/\i<off+(xs.take len).length
          .have r:i-off<(xs.take len).length:=by omega
           have h6:(i-off)*ti.size+j<(xs.take len).length*ti.size:=c4 r hj
           have h7:i*ti.size=off*ti.size+(i-off)*ti.size:=by rw[<-Hl];congr 1;omega
           rw[GZ (by omega),GZ S]
           have T:(i-off)*ti.size+j<N.size:=by rw[l.len];exact h6
           refine⟨N[(i-off)*ti.size+j],?_,?_⟩
           .rw[show o0+i*ti.size+j-(o0+off*ti.size)=(i-off)*ti.size+j from by omega]
            simp[T]
           .have:=(l.rel _ j r hj).mono O
            simpa only [GW,G3 T,G1] using this
          .have h8:¬ (o0+off*ti.size<=o0+i*ti.size+j/\o0+i*ti.size+j<o0+off*ti.size+(xs.take len).length*ti.size):=by
            rcases Ho i off with h9 | h9
            .have:(i+1)*ti.size<=off*ti.size:=Hf _ h9
             rw[Hl] at this;omega
            .have:(off+(xs.take len).length)*ti.size<=i*ti.size:=Hf _ (by omega)
             rw[Hl] at this;omega
           rw[GV h8,GV S]
           obtain⟨y,hy,hv⟩:=h4 i j hi hj
           exact⟨y,hy,hv.mono O⟩
      .simp at h
     .simp at h
    .simp at h
 .simp at h
theorem Cc {t0:TypeId} {u:Array TypeId} {ty:TypeId} {d:V} {dv:Value} (h:od P t0 d H=some (v,ag,rd)) (F:u[0]?=some t0)
  (hd:ae Z μ w.heap d dv) (c:Ctx Z μ w.heap H rd n ag):
  aq Z μ w n v ag ((do pure (Next.value (<-Builtin.clear_ u ty #[dv])):Sem Next).run P w):=by
 unfold od at h
 split at h
 .rename_i e dl hu A
  have r:P.underlying t0=some (.slice e):=by
   unfold aY at hu;split at hu<;>simp_all
  obtain⟨ad,cap,rfl,a1⟩:=bL hd A
  split at h
  .rename_i h0
   subst h0
   obtain⟨rfl,rfl,rfl⟩:=h
   refine aq.here (x:=.tuple #[]) ?_ (.aA [] #[] rfl (λi hi=>by simp at hi))
   simp only[Builtin.clear_,Hp,Hd,F,Sem.run_bind,aw r,Result.andThen_ok]
   cases ad<;>simp
  .split at h
   .rename_i id off len esz ti z G S
    split at h
    .rename_i a6 es hH
     split at h
     .rename_i hb
      obtain⟨a8,rfl,a7,B,s⟩:=hb
      obtain⟨rfl,rfl,rfl⟩:=h
      simp only[dd,GS] at A
      subst A
      have I:=c.obj id (by simp)
      rw[hH] at I
      obtain⟨C,T,rfl⟩:=ee G S
      have hr:=dq (cZ (Z:=Z) (μ:=μ) (w:=w) C) s
      have l:=qt (m:=len) (ti:=ti) hr B
      have run:∀(a:Addr) (w':World),ad=some a->(storeCells a (Builtin.zeroCells C.cells len).toList).run P w=.ok () w' ->
        (Builtin.clear_ u ty #[.slice ad len cap]).run P w=.ok (.tuple #[]) w':=by
       rintro a w' rfl U
       obtain⟨m,rfl⟩:∃m,len=m+1:=⟨len-1,by omega⟩
       simp only[Builtin.clear_,Hp,Hd,F,Sem.run_bind,aw r,Result.andThen_ok,ew G T,U,Sem.run_pure]
      cases hd with
      | fj=>omega
      | sl _ _ _ _ b o0 _ cc e' f hm _ o bk =>
       obtain⟨heq,⟨c2,e2,f2,J,K,W⟩,U,h4⟩:=I b o0 ti.size hm
       subst heq
       rw[o] at J
       obtain⟨rfl,rfl,rfl⟩:=J
       have g:∀e∈List.replicate len (cK C).cells,e=(cK C).cells:=λe he=>List.eq_of_mem_replicate he
       have X:(List.replicate len (cK C).cells).length=len:=List.length_replicate
       generalize bl:List.replicate len (cK C).cells=xs at l g X ⊢
       generalize bn:Builtin.zeroCells C.cells len=R at l run
       have t:R.toList.length=xs.length*ti.size:=by rw[Array.length_toList,l.len]
       have D:(off+xs.length)*ti.size<=es.length*ti.size:=Hf _ (by omega)
       rw[Hl] at D
       have hz:=c.dQ _ _ _ _ hm
       obtain⟨c',Y,q,E⟩:=k8 (P:=P) (off:=o0+off*ti.size) o (iU K) R.toList (by rw[t];omega) (pj l (λe he=>by rw[g e he];exact B) (λe he=>by rw[g e he];exact s))
       have ao:=cr o
       have L:dC Z Z μ μ w.heap (w.heap.setIfInBounds b (.cells c' e' f)):=
        ⟨λ_ h=>h,λk hk=>bo w.heap b _ k (c.aX k hk) (λe=>hz (e▸hk)),λ_ _ h=>h,er o q⟩
       refine aq.value (μ':=μ) (run _ _ rfl Y) ?_ ⟨rfl,rfl,rfl,by simp⟩ ?_
       .exact .aA [] #[] rfl (λi hi=>by simp at hi)
       .refine⟨b,o0,ti.size,hm,rfl,bo _ _ _,er o q,?_⟩
        intro b1 q1 s1 M
        rw[hm] at M
        obtain⟨rfl,rfl,rfl⟩:=M
        have N:=λk=>jx xs es off k (by omega)
        refine⟨rfl,⟨c',e',f,bN ao,by rw[q];exact K,by rw[dR,q];exact W⟩,?_,?_⟩
        .intro i hi
         rw[dR] at hi
         rw[N]
         split
         .have p:i-off<xs.length:=by omega
          simp only[GQ,GR p,G1]
          rw[g _ (G4 p)];exact B
         .exact U i hi
        .intro i j hi hj
         rw[dR] at hi
         rw[E,t,N]
         by_cases O:off<=i/\i<off+xs.length
         .have p:i-off<xs.length:=by omega
          have h6:(i-off)*ti.size+j<xs.length*ti.size:=c4 p hj
          have h7:i*ti.size=off*ti.size+(i-off)*ti.size:=by rw[<-Hl];congr 1;omega
          rw[GZ (by omega),GZ O]
          have Q:(i-off)*ti.size+j<R.size:=by rw[l.len];exact h6
          refine⟨R[(i-off)*ti.size+j],?_,?_⟩
          .rw[show o0+i*ti.size+j-(o0+off*ti.size)=(i-off)*ti.size+j from by omega]
           simp[Q]
          .have:=(l.rel _ j p hj).mono L
           simpa only [GW,G3 Q,G1] using this
         .have h8:¬ (o0+off*ti.size<=o0+i*ti.size+j/\o0+i*ti.size+j<o0+off*ti.size+xs.length*ti.size):=by
           rcases Ho i off with h9 | h9
           .have:(i+1)*ti.size<=off*ti.size:=Hf _ h9
            rw[Hl] at this;omega
           .have:(off+xs.length)*ti.size<=i*ti.size:=Hf _ (by omega)
            rw[Hl] at this;omega
          rw[GV h8,GV O]
          obtain⟨y,hy,hv⟩:=h4 i j hi hj
          exact⟨y,hy,hv.mono L⟩
     .simp at h
    .simp at h
   .simp at h
 .simp at h
end
section
variable {Z:Nat->Prop} {μ μ':Mu} {w w':World} {P:Program} {H:View} {n:Nat} {v:V} {ag:az} {rd:List Nat}
theorem sY (off:Nat):∀(l:List Value) (i:Nat) (cs:Array Value),off+i+l.length<=cs.size ->
  ((l.zipIdx i).foldl (λcs (p:Value × Nat)=>cs.setIfInBounds (off+p.2) p.1) cs).size=cs.size /\
  ∀k,((l.zipIdx i).foldl (λcs (p:Value × Nat)=>cs.setIfInBounds (off+p.2) p.1) cs)[k]?=if off+i<=k/\k<off+i+l.length then l[k-(off+i)]? else cs[k]?
 | [],i,cs,_=>⟨rfl,λk=>by rw[GV (by simp only[Hh];omega)];rfl⟩
 | x::l,i,cs,h=>by
  simp only[G5] at h
  obtain⟨b,c⟩:=sY off l (i+1) (cs.setIfInBounds (off+i) x) (by simp;omega)
  simp only[List.zipIdx_cons,H0,G5]
  refine⟨by rw[b];simp,λk=>?_⟩
  rw[c]
  by_cases e:off+i=k
  .subst e
   rw[GV (by omega),GZ (by omega)]
   simp[show off+i<cs.size by omega]
  .by_cases a:off+(i+1)<=k/\k<off+(i+1)+l.length
   .rw[GZ a,GZ (by omega),show k-(off+i)=(k-(off+(i+1)))+1 from by omega]
    simp
   .rw[GV a,GV (by omega)]
    simp[e]
theorem qX (off:Nat) (xs cs:Array Value) (h:off+xs.size<=cs.size):
  (xs.zipIdx.foldl (λcs (c,j)=>cs.setIfInBounds (off+j) c) cs).size=cs.size /\
  ∀k,(xs.zipIdx.foldl (λcs (c,j)=>cs.setIfInBounds (off+j) c) cs)[k]?=if off<=k/\k<off+xs.size then xs[k-off]? else cs[k]?:=by
 have:=sY off xs.toList 0 cs (by simpa using h)
 rw[<-Array.foldl_toList,Array.toList_zipIdx]
 simpa using this
def rn (Z:Nat->Prop) (μ:Mu) (hp:Array Obj):List (Nat × V)->List (Nat × Value)->Prop
 | [],[]=>True
 | p::r,q::s=>p.1=q.1/\ae Z μ hp p.2 q.2/\rn Z μ hp r s
 | _,_=>False
theorem qU {x:V} {y:Value} (h:ae Z μ w.heap x y) (a:x.cells.all au=true):y.cells.size=x.cells.length:=by
 have:=(dq h a).1;simpa using this.symm
theorem tV {size:Nat} (place:Nat->Option (Nat × Nat)) (l:∀i,place i=some (i*size,size)):∀(n:List (Nat × V)) (o:List (Nat × Value)) (es es':List (List V)) (cs:Array Value),
  fQ size es n=some es'->rn Z μ w.heap n o->Flat Z μ w.heap size es cs->(∀i,i<es.length->(es.getD i []).length=size)->(∀i,i<es.length->(es.getD i []).all au=true) ->
  ∃d,Instr.fill place cs o=some d/\Flat Z μ w.heap size es' d/\es'.length=es.length/\(∀i,i<es'.length->(es'.getD i []).length=size)
 | [],[],es,es',cs,h,_,m,p,_=>by
  simp only[fQ,GS] at h;subst h
  exact⟨cs,rfl,m,rfl,p⟩
 | (i,x)::n,(H,y)::o,es,es',cs,h,hr,m,p,r=>by
  obtain⟨hi,f,g⟩:=hr
  simp only at hi f
  subst hi
  simp only[fQ] at h
  split at h
  .rename_i B
   obtain⟨C,A,s⟩:=B
   have t:=dq f s
   have D:=qU f s
   have hle:i*size+size<=cs.size:=by
    rw[m.len]
    have:(i+1)*size<=es.length*size:=Hf _ A
    rw[Hl] at this;omega
   obtain⟨E,k2⟩:=qX (i*size) y.cells cs (by omega)
   have b:∀k,(es.set i x.cells).getD k []=if k=i then x.cells else es.getD k []:=by
    intro k
    simp only[GQ,Ir]
    by_cases e:i=k
    .subst e;simp[A]
    .rw[GV e,GV (λq=>e q.symm)]
   obtain⟨d,g1,g2,g3,g4⟩:=tV place l n o (es.set i x.cells) es' (y.cells.zipIdx.foldl (λcs (c,j)=>cs.setIfInBounds (i*size+j) c) cs) h g
    ⟨by rw[E,m.len];simp,λa j F G=>by
     have u:a<es.length:=by simpa using F
     rw[b,GW,k2]
     by_cases e:a=i
     .subst e
      rw[GZ rfl,GZ (by omega),show a*size+j-a*size=j from by omega]
      have:=t.2 j (by omega)
      simpa [GQ] using this
     .have:¬ (i*size<=a*size+j/\a*size+j<i*size+y.cells.size):=by
       rcases Nat.lt_or_gt_of_ne e with v | v
       .have:(a+1)*size<=i*size:=Hf _ v
        rw[Hl] at this;omega
       .have:(i+1)*size<=a*size:=Hf _ v
        rw[Hl] at this;omega
      rw[GV e,GV this]
      have:=m.rel a j u G
      simpa only [GW] using this⟩
    (λk z=>by rw[b];split;exact C;exact p k (by simpa using z))
    (λk z=>by rw[b];split;exact s;exact r k (by simpa using z))
   refine⟨d,?_,g2,by simpa using g3,g4⟩
   simp only[Instr.fill,l]
   rw[GV (by simp only[Ie,G7,not_or];omega)]
   exact g1
  .simp at h
 | [],_::_,_,_,_,_,hr,_,_,_=>hr.elim
 | _::_,[],_,_,_,_,hr,_,_,_=>hr.elim
theorem rH {t:TypeId} {len:Nat} {E:List (Nat × V)} {s:Array (Nat × Value)} (h:dI P t len E n=some (v,ag,rd)) (hr:rn Z μ w.heap E s.toList) (c:Ctx Z μ w.heap H rd n ag):
  aq Z μ w n v ag ((do pure (Next.value (<-Instr.buildSlice t len s)):Sem Next).run P w):=by
 unfold dI at h
 cases hu:aY P t with
 | none=>simp[hu] at h
 | some e =>
  have k:P.underlying t=some (.slice e):=by
   unfold aY at hu;split at hu<;>simp_all
  cases d:P.info? e with
  | none=>simp[hu,d] at h
  | some ti =>
   simp only[hu,d] at h
   split at h
   .simp at h
   .rename_i u
    split at h
    .rename_i m
     subst m
     split at h
     .rename_i y
      obtain⟨rfl,rfl,rfl⟩:=h
      have F:E=[]:=by simpa using y
      subst F
      have G:s = #[]:=by
       cases Q:s.toList with
       | nil=>exact Array.toList_eq_nil_iff.1 Q
       | cons a b=>rw[Q] at hr;exact hr.elim
      subst G
      refine aq.value (x:=.slice (some ⟨w.heap.size,0,none⟩) 0 0) (w':=w.alloc (.cells #[] e)) ?_ (.emp 2 _ (by simp) (by simp)) (eu _ _) ⟨rfl,b6 _ _⟩
      simp[Instr.buildSlice,aw k,bt d,Instr.fill,newRow,show Array.range 0 = #[] from rfl]
     .simp at h
    .split at h
     .simp at h
     .rename_i m I
      split at h
      .simp at h
      .rename_i z R
       split at h
       .rename_i J
        obtain⟨o,l⟩:=J
        split at h
        .rename_i es K
         obtain⟨rfl,rfl,rfl⟩:=h
         obtain⟨p,L,rfl⟩:=ee d R
         have A:=dq (cZ (Z:=Z) (μ:=μ) (w:=w) p) l
         have M:p.cells.size=ti.size:=by rw[<-o,A.1];simp
         have B:len*ti.size≠0:=by
          intro N;rcases Nat.mul_eq_zero.1 N with N | N<;>contradiction
         have q:Flat Z μ w.heap ti.size (List.replicate len (cK p).cells) ((Array.range (len*ti.size)).map (p.cells[· % p.cells.size]!)):=by
          refine⟨by simp,λi j hi r=>?_⟩
          simp at hi
          have g:i*ti.size+j<len*ti.size:=c4 (by omega) r
          have C:(i*ti.size+j) % ti.size=j:=by
           rw[Nat.mul_comm,Nat.mul_add_mod];exact Nat.mod_eq_of_lt r
          have:=A.2 j (by rw[o];exact r)
          have D:j<p.cells.size:=by omega
          simp only[GQ,Ib,G3 D,G1] at this
          simpa [GQ,GW,hi,g,M,C,getElem!_pos p.cells j D] using this
         obtain⟨f,g1,g2,g3,g4⟩:=tV (λi=>some (i*ti.size,ti.size)) (λ_=>rfl) E s.toList _ es _ K hr q
          (λi hi=>by simp at hi;simp[GQ,hi,o])
          (λi hi=>by simp at hi;simpa [GQ,hi] using l)
         have O:es.length=len:=by simpa using g3
         refine aq.value (μ':=μ.set n (w.heap.size,0,ti.size)) (x:=.slice (some ⟨w.heap.size,0,none⟩) len len) (w':=w.alloc (.cells f e)) ?_ ?_ (eu _ _) ?_
         .simp[Instr.buildSlice,aw k,bt d,u,B,m,I,ew d L,g1,newRow]
         .have:=ae.sl (Z:=Z) (μ:=μ.set n (w.heap.size,0,ti.size)) (hp:=(w.alloc (.cells f e)).heap) n 0 len ti.size w.heap.size 0 len f e (0,0) (by simp[Mu.set]) (GX _) (by rw[heap_alloc];simp) (by rw[g2.len,O];simp)
          simpa using this
         .refine⟨w.heap.size,0,ti.size,GX _,by rw[heap_alloc];simp,rfl,b6 _ _,?_⟩
          refine bT.newRow c.new c.aX (by rw[g2.len];exact GX _) g4 (λi j hi r=>?_)
          have g:i*ti.size+j<f.size:=by rw[g2.len];exact c4 hi r
          refine⟨f[i*ti.size+j],by simp[g],?_⟩
          have:=g2.rel i j hi r
          simpa only [GW,G3 g,G1] using this
        .simp at h
       .simp at h
theorem pv (place pl:Nat->Option (Nat × Nat)) (l:∀i x,place i=some x->pl i=some x):∀(n:List (Nat × V)) (o:List (Nat × Value)) (cs d:List V) (a:Array Value),
  kQ place cs n=some d->rn Z μ w.heap n o->cs.length=a.size->(∀i,i<cs.length->ae Z μ w.heap (cs.getD i .any) (a.getD i undef)) ->
  ∃b,Instr.fill pl a o=some b/\d.length=b.size/\(∀i,i<d.length->ae Z μ w.heap (d.getD i .any) (b.getD i undef))
 | [],[],cs,d,a,h,_,p,q=>by
  simp only[kQ,GS] at h;subst h
  exact⟨a,rfl,p,q⟩
 | (i,x)::n,(B,y)::o,cs,d,a,h,hr,p,q=>by
  obtain⟨hi,f,g⟩:=hr
  simp only at hi f
  subst hi
  simp only[kQ] at h
  split at h
  .simp at h
  .rename_i off size hp
   split at h
   .rename_i u
    obtain⟨C,k2,s⟩:=u
    have r:=dq f s
    have v:=qU f s
    obtain⟨z,A⟩:=qX off y.cells a (by omega)
    have m:(cI cs off x.cells).length=cs.length:=mS _ _ _ (by omega)
    obtain⟨b,g1,g2,g3⟩:=pv place pl l n o (cI cs off x.cells) d (y.cells.zipIdx.foldl (λcs (c,j)=>cs.setIfInBounds (off+j) c) a) h g (by rw[m,z,p])
     (λk t=>by
      rw[m] at t
      rw[GW,A]
      by_cases e:off<=k/\k<off+x.cells.length
      .rw[sE _ _ _ _ (by omega) e,GZ (by omega)]
       have:=r.2 (k-off) (by omega)
       simpa [GQ] using this
      .rw[qa _ _ _ _ (by omega) e,GV (by omega)]
       have:=q k t
       simpa only [GW] using this)
    refine⟨b,?_,g2,g3⟩
    simp only[Instr.fill,l i _ hp]
    rw[GV (by simp only[Ie,G7,not_or];omega)]
    exact g1
   .simp at h
 | [],_::_,_,_,_,_,hr,_,_=>hr.elim
 | _::_,[],_,_,_,_,hr,_,_=>hr.elim
end
section
variable {Z:Nat->Prop} {μ μ':Mu} {w w':World} {P:Program} {H:View} {n:Nat} {v:V} {ag:az} {rd:List Nat}
theorem wy {a:Array Field} (h:∀f∈a.toList,(P.info? f.type).isSome=true):
  (a.mapM λf=>do pure (f.offset,<-Go.sizeOf f.type):Sem (Array (Nat × Nat))).run P w=.ok (a.map λf=>(f.offset,P.cellsOf f.type)) w:=by
 have key:∀(l:List Field),(∀f∈l,(P.info? f.type).isSome=true)->(l.mapM λf=>do pure (f.offset,<-Go.sizeOf f.type):Sem (List (Nat × Nat))).run P w=.ok (l.map λf=>(f.offset,P.cellsOf f.type)) w:=by
  intro l
  induction l with
  | nil=>intro _;rfl
  | cons f r c =>
   intro b
   obtain⟨i,hi⟩:=Option.isSome_iff_exists.1 (b f List.mem_cons_self)
   simp only[List.mapM_cons,Sem.run_bind,bt hi,Result.andThen_ok,Sem.run_pure,c (λf d=>b f (Hw _ d)),H9,mj hi]
 have:=key a.toList h
 rw[Array.mapM_eq_mapM_toList]
 simp only[Sem.run_map,this,Result.andThen_ok]
 congr 1
 apply Array.ext'
 simp
theorem kE {t:TypeId} {z:V} (h:zeroV P t=some z):∃i a,P.info? t=some i/\i.zero=some a/\z=cK a:=by
 unfold zeroV at h
 split at h
 .rename_i i hi
  split at h
  .rename_i a b
   simp at h
   exact⟨i,a,hi,b,h.symm⟩
  .simp at h
 .simp at h
theorem AO {t:TypeId} {s:List (Nat × V)} {q:Array (Nat × Value)} (h:lQ P t s=some (v,ag,rd)) (hr:rn Z μ w.heap s q.toList):
  aq Z μ w n v ag ((do pure (Next.value (<-Instr.build t q)):Sem Next).run P w):=by
 unfold lQ at h
 split at h
 .rename_i y z hu A
  obtain⟨i,B,hi,j,l⟩:=kE A
  have u:gz P t=true:=by
   cases C:gz P t with
   | true=>rfl
   | false=>simp[C] at h
  rw[GZ u] at h
  simp only[GU] at h
  obtain⟨cs,m,h⟩:=h
  obtain⟨rfl,rfl,rfl⟩:=h
  have d:=cZ (Z:=Z) (μ:=μ) (w:=w) B
  rw[<-l] at d
  cases d with
  | agg _ g D E =>
   have F:∀f∈y.toList,(P.info? f.type).isSome=true:=by
    unfold gz at u
    rw[hu] at u
    exact Hg.1 u
   obtain⟨c,g1,g2,g3⟩:=pv (placeOf P t) (λi=>(y.map λf=>(f.offset,P.cellsOf f.type))[i]?) (λi x r=>by
    unfold placeOf at r
    simp only[GU] at r
    obtain⟨⟨a,b,J⟩,G,rfl⟩:=r
    obtain⟨I,fd,ti,o,H,p,rfl,rfl,rfl⟩:=lf G
    rw[hu] at o
    simp only[GS,TypeDesc.struct.injEq] at o
    subst o
    simp[H,mj p]) s q.toList z _ g m hr D E
   refine aq.here (x:=.agg c) ?_ (.agg _ _ g2 g3)
   simp only[Instr.build,Sem.run_bind,ew hi j,Result.andThen_ok,aw hu,Value.cells]
   rw[wy F]
   simp only[Result.andThen_ok,Sem.run_pure]
   have:Instr.fill (λx=>(y.map λf=>(f.offset,P.cellsOf f.type))[x]?) g q.toList=some c:=g1
   simp only[this,Sem.run_pure]
 .rename_i len e z hu A
  obtain⟨i,B,hi,j,l⟩:=kE A
  split at h
  .rename_i ti p
   simp only[GU] at h
   obtain⟨cs,m,h⟩:=h
   obtain⟨rfl,rfl,rfl⟩:=h
   have d:=cZ (Z:=Z) (μ:=μ) (w:=w) B
   rw[<-l] at d
   cases d with
   | agg _ g D E =>
    obtain⟨c,g1,g2,g3⟩:=pv (λk=>some (k*ti.size,ti.size)) (λk=>some (k*ti.size,ti.size)) (λ_ _ r=>r) s q.toList z _ g m hr D E
    refine aq.here (x:=.agg c) ?_ (.agg _ _ g2 g3)
    simp only[Instr.build,Sem.run_bind,ew hi j,Result.andThen_ok,aw hu,Value.cells,bt p,g1,Sem.run_pure]
  .simp at h
 .simp at h
theorem aE {α β:Type} (P:Program) (s:Sem α) (f:α->Sem β):aH P (s >>= f)=(aH P s).bind λa=>aH P (f a):=by
 have key:∀s:Sem α,aH P (s.bind f)=(aH P s).bind λa=>aH P (f a):=by
  intro s
  induction s with
  | pure a=>rfl
  | program k b=>simp only[Sem.bind,aH];exact b P
  | _=>rfl
 exact key s
def Keys:List MapEntry->List MapEntry->Prop
 | [],[]=>True
 | a::r,b::s=>a.key=b.key/\Keys r s
 | _,_=>False
def Found (l:List MapEntry) (i:Nat):Option (Nat × Value)->Option (Nat × Value)->Prop
 | none,none=>True
 | some (a,_),some (b,x)=>a=b/\i<=a/\(l[a-i]?).map (·.val)=some x
 | _,_=>False
theorem Found.cons {l:List MapEntry} {e:MapEntry} {i:Nat}:∀ {r c:Option (Nat × Value)},Found l (i+1) r c->Found (e::l) i r c
 | none,none,_=>trivial
 | some (a,_),some (b,x),h=>by
  obtain⟨rfl,f,d⟩:=h
  refine⟨rfl,by omega,?_⟩
  rw[show a-i=(a-(i+1))+1 from by omega]
  simpa using d
 | none,some _,h=>h.elim
 | some _,none,h=>h.elim
theorem nh (kind:TypeDesc) (k:Value):∀(l m:List MapEntry) (i:Nat),Keys l m ->
  match Instr.findNow kind k l i,Instr.findNow kind k m i with
  | some r,some c=>Found m i r c
  | none,none=>True
  | _,_=>False
 | [],[],i,_=>trivial
 | a::l,b::m,i,h=>by
  obtain⟨d,hr⟩:=h
  simp only[Instr.findNow,<-d]
  cases e:Instr.sameNow kind k a.key with
  | none=>trivial
  | some t =>
   cases t with
   | true=>exact⟨rfl,GX _,by simp⟩
   | false =>
    have:=nh kind k l m (i+1) hr
    simp only
    split at this
    .exact this.cons
    .trivial
    .exact this.elim
 | [],_::_,_,h=>h.elim
 | _::_,[],_,h=>h.elim
theorem ky (kt:TypeId) (k:Value):∀(l m:List MapEntry) (i:Nat) (r:Option (Nat × Value)),Keys l m->aH P (Instr.findAsking kt k l i)=some r ->
  ∃d,(Instr.findAsking kt k m i).run P w=.ok d w/\Found m i r d
 | [],[],i,r,_,h=>by
  simp only[Instr.findAsking,aH,Pure.pure,GS] at h
  subst h
  exact⟨none,rfl,trivial⟩
 | a::l,b::m,i,r,e,h=>by
  obtain⟨e,hr⟩:=e
  simp only[Instr.findAsking,aE,Option.bind_eq_some_iff] at h
  obtain⟨t,f,h⟩:=h
  have c:=iR _ f w
  rw[e] at c
  cases t with
  | true =>
   simp only[if_true,aH,Pure.pure,GS] at h
   subst h
   exact⟨some (i,b.val),by simp[Instr.findAsking,c],rfl,GX _,by simp⟩
  | false =>
   obtain⟨d,g,j⟩:=ky kt k l m (i+1) r hr h
   exact⟨d,by simp[Instr.findAsking,c,g],j.cons⟩
 | [],_::_,_,_,h,_=>h.elim
 | _::_,[],_,_,h,_=>h.elim
theorem nD:∀(es:List (V × V × Nat)) (l m:List MapEntry),eS es=some l->es.length=m.length ->
  (∀i,i<es.length->∃y,m[i]?=some y/\ae Z μ w.heap (es.getD i default).1 y.key)->Keys l m
 | [],l,m,h,a,_=>by
  simp only[eS,GS] at h
  subst h
  cases m with
  | nil=>trivial
  | cons _ _=>simp at a
 | (k,n,b)::es,l,m,h,a,hr=>by
  simp only[eS] at h
  split at h
  .rename_i x y g j
   simp only[GS] at h
   subst h
   cases m with
   | nil=>simp at a
   | cons e m =>
    obtain⟨f,c,d⟩:=hr 0 (by simp)
    simp only[Hd,GS] at c
    subst c
    refine⟨jb d g,nD es y m j (by simpa using a) (λi hi=>?_)⟩
    obtain⟨f,c,d⟩:=hr (i+1) (by simpa using hi)
    exact⟨f,by simpa using c,by simpa using d⟩
  .simp at h
theorem iL {kt:TypeId} {k:V} {x:Value} {b:Bool} {es:List (V × V × Nat)} {a:Array MapEntry} {r:Option Nat} (h:iT P kt k b es=some r) (C:ae Z μ w.heap k x) (D:a.size=es.length)
  (hr:∀i,i<es.length->∃y,a[i]?=some y/\ae Z μ w.heap (es.getD i default).1 y.key):
  (Instr.checkKey b 10000 kt x).run P w=.ok () w /\
  ∃e,(Instr.findKey kt x a.toList).run P w=.ok e w/\(match r,e with
   | none,none=>True
   | some i,some (j,y)=>i=j/\(a[i]?).map (·.val)=some y
   | _,_=>False):=by
 unfold iT at h
 split at h
 .rename_i o l E t
  have z:=jb C E
  subst z
  have f:=nD (Z:=Z) (μ:=μ) (w:=w) es l a.toList t (by simpa using D.symm) (λi hi=>by simpa using hr i hi)
  have g:∀q,aH P (Instr.checkKey b 10000 kt o >>= λ_=>Instr.findKey kt o l)=some q->(Instr.checkKey b 10000 kt o).run P w=.ok () w/\∃e,(Instr.findKey kt o a.toList).run P w=.ok e w/\Found a.toList 0 q e:=by
   intro q m
   rw[aE,Option.bind_eq_some_iff] at m
   obtain⟨u,hu,m⟩:=m
   refine⟨iR _ hu w,?_⟩
   simp only[Instr.findKey,aE,Option.bind_eq_some_iff] at m
   obtain⟨d,F,m⟩:=m
   have v:=iR _ F w
   have c:=nh d o l a.toList 0 f
   cases p:Instr.findNow d o l 0 with
   | some H =>
    rw[p] at c m
    simp only[aH,Pure.pure,GS] at m
    subst m
    cases n:Instr.findNow d o a.toList 0 with
    | none=>rw[n] at c;exact c.elim
    | some B =>
     rw[n] at c
     exact⟨B,by simp[Instr.findKey,v,n],c⟩
   | none =>
    rw[p] at c m
    cases n:Instr.findNow d o a.toList 0 with
    | some B=>rw[n] at c;exact c.elim
    | none =>
     obtain⟨e,s,A⟩:=ky (w:=w) kt o l a.toList 0 q f m
     exact⟨e,by simp[Instr.findKey,v,n,s],A⟩
  split at h
  .rename_i i I hp
   simp only[GS] at h
   subst h
   obtain⟨p,e,n,s⟩:=g _ hp
   refine⟨p,e,n,?_⟩
   cases e with
   | none=>exact s.elim
   | some q =>
    obtain⟨A,_,G⟩:=s
    exact⟨A,by simpa using G⟩
  .rename_i hp
   simp only[GS] at h
   subst h
   obtain⟨p,e,n,s⟩:=g _ hp
   refine⟨p,e,n,?_⟩
   cases e with
   | none=>trivial
   | some q=>exact s.elim
  .simp at h
 .simp at h
theorem lN {id:Nat} {x:Value} (h:ae Z μ w.heap (.mp id) x):∃b o0 s,μ id=some (b,o0,s)/\x=.map (some b):=by
 cases h with | mp _ b o0 s hm=>exact⟨b,o0,s,hm,rfl⟩
theorem dm {b:Nat} {a:Array MapEntry} {c:Nat} (h:w.heap[b]?=some (.map a c)):(getObj b).run P w=.ok (.map a c) w:=by
 simp[getObj,Sem.run,h]
theorem eV {b:Nat} {a:Array MapEntry} {c:Nat} (o:Obj) (h:w.heap[b]?=some (.map a c)):(setObj b o).run P w=.ok () { w with heap:=w.heap.setIfInBounds b o }:=by
 simp[setObj,Sem.run,h]
theorem iq {t kt et:TypeId} (h:de P t=some (kt,et)):P.underlying t=some (.map kt et):=by
 unfold de at h
 split at h
 .rename_i k e hu;simp at h;rw[hu,h.1,h.2]
 .simp at h
theorem xN {k:Bool} {v1:V} {a:Value} {b:Bool} (h:ae Z μ w.heap v1 a):
  ae Z μ w.heap (if k then .aA [v1,.val (.bool b)] else v1) (if k then .tuple #[a,.bool b] else a):=by
 cases k with
 | false=>exact h
 | true =>
  refine .aA _ _ rfl (λi hi=>?_)
  match i,hi with
  | 0,_=>exact h
  | 1,_=>exact .val _ rfl
theorem ze {t:TypeId} {m k:V} {N B:Value} {ok:Bool} (h:cH P t m k ok H=some (v,ag,rd)) (hm:ae Z μ w.heap m N) (S:ae Z μ w.heap k B) (c:Ctx Z μ w.heap H rd n ag):
  aq Z μ w n v ag ((do pure (Next.value (<-Instr.lookup t N B ok)):Sem Next).run P w):=by
 unfold cH at h
 split at h
 .simp at h
 .rename_i kt et C
  have hu:=iq C
  split at h
  .simp at h
  .rename_i z T
   obtain⟨ti,p,D,E,rfl⟩:=kE T
   simp only at h
   split at h
   .rename_i id
    obtain⟨b,o0,s,F,rfl⟩:=lN hm
    split at h
    .rename_i es clock O
     have g:∀G,G=id->bT Z μ w.heap id (.map es clock)->∃a:Array MapEntry,w.heap[b]?=some (.map a clock)/\a.size=es.length /\
       ∀i,i<es.length->∃y,a[i]?=some y/\ae Z μ w.heap (es.getD i default).1 y.key/\ae Z μ w.heap (es.getD i default).2.1 y.val/\y.born=(es.getD i default).2.2:=λ_ _ h=>h b o0 s F
     have go:∀r,iT P kt k es.isEmpty es=some r->bT Z μ w.heap id (.map es clock)->∃x,(Instr.lookup t (.map (some b)) B ok).run P w=.ok x w /\
       (match r with
        | some i=>∀e,es[i]?=some e->ae Z μ w.heap (if ok then .aA [e.2.1,.val (.bool true)] else e.2.1) x
        | none=>ae Z μ w.heap (if ok then .aA [cK p,.val (.bool false)] else cK p) x):=by
      intro r hr d
      obtain⟨a,Q,l,o⟩:=g id rfl d
      obtain⟨u,R,A,I⟩:=iL (w:=w) hr S l (λi hi=>let ⟨y,u,A,_⟩:=o i hi; ⟨y,u,A⟩)
      have f:a.isEmpty=es.isEmpty:=by
       simp only[Array.isEmpty,l];cases es<;>simp
      cases r with
      | none =>
       cases R with
       | some q=>exact I.elim
       | none =>
        refine⟨if ok then .tuple #[p,.bool false] else p,?_,xN (cZ _)⟩
        simp only[Instr.lookup,Sem.run_bind,aw hu,Result.andThen_ok,dm Q,Sem.run_pure,f,u,A,ew D E]
      | some i =>
       cases R with
       | none=>exact I.elim
       | some q =>
        obtain⟨j,y⟩:=q
        obtain⟨rfl,J⟩:=I
        refine⟨if ok then .tuple #[y,.bool true] else y,?_,λe he=>?_⟩
        .simp only[Instr.lookup,Sem.run_bind,aw hu,Result.andThen_ok,dm Q,Sem.run_pure,f,u,A]
        .refine xN ?_
         have hi:i<es.length:=by
          rcases Ho i es.length with h | h
          .exact h
          .simp[Hs h] at he
         obtain⟨U,g1,g2,g3,g4⟩:=o i hi
         rw[g1] at J
         simp only[Hb,GS] at J
         subst J
         simpa [GQ,he] using g3
     split at h
     .rename_i i K
      split at h
      .rename_i W X Y he
       obtain⟨rfl,rfl,rfl⟩:=h
       have d:=c.obj id (by simp)
       rw[O] at d
       obtain⟨x,L,M⟩:=go _ K d
       exact aq.here L (M _ he)
      .simp at h
     .rename_i K
      obtain⟨rfl,rfl,rfl⟩:=h
      have d:=c.obj id (by simp)
      rw[O] at d
      obtain⟨x,L,M⟩:=go _ K d
      exact aq.here L M
     .simp at h
    .simp at h
   .simp at h
end
section
variable {Z:Nat->Prop} {μ μ':Mu} {w w':World} {P:Program} {H:View} {n:Nat} {v:V} {ag:az} {rd:List Nat}
theorem fD {b:Nat} {a:Array MapEntry} {c:Nat} {o:Obj} (aX:∀b,Z b->b<w.heap.size) (i:¬ Z b) (j:w.heap[b]?=some (.map a c)):
  dC Z Z μ μ w.heap (w.heap.setIfInBounds b o)/\cR w.heap (w.heap.setIfInBounds b o):=by
 have g:cR w.heap (w.heap.setIfInBounds b o):=by
  intro k l e f d
  by_cases h:b=k
  .subst h;rw[j] at d;simp at d
  .exact⟨l,f,by simp[h,d],rfl⟩
 exact⟨⟨λ_ h=>h,λk d=>bo w.heap b _ k (aX k d) (λe=>i (e▸d)),λ_ _ h=>h,g⟩,g⟩
theorem mR {c k:V} {d x:Value} (h:sameKey c k=true) (e:ae Z μ w.heap c d) (f:ae Z μ w.heap k x):(Instr.keyThatStays d x).run P w=.ok x w:=by
 unfold sameKey at h
 split at h
 .rename_i a b g i
  have j:=jb e g
  have l:=jb f i
  subst j l
  simp[Instr.keyThatStays,h]
 .simp at h
theorem bT.uw {id b o0 s:Nat} {es:List (V × V × Nat)} {clock i:Nat} {a:Array MapEntry} {k d:V} {e':MapEntry} (h:μ id=some (b,o0,s)) (aX:∀b,Z b->b<w.heap.size) (t:¬ Z b) (r:w.heap[b]?=some (.map a clock)) (l:a.size=es.length)
  (m:∀i,i<es.length->∃y,a[i]?=some y/\ae Z μ w.heap (es.getD i default).1 y.key/\ae Z μ w.heap (es.getD i default).2.1 y.val/\y.born=(es.getD i default).2.2)
  (hi:i<es.length) (f:MapEntry->MapEntry) (u:∀y,a[i]?=some y->f y=e') (v:ae Z μ w.heap k e'.key) (x:ae Z μ w.heap d e'.val) {g:Nat} (z:e'.born=g):
  bT Z μ (w.heap.setIfInBounds b (.map (a.modify i f) clock)) id (.map (es.set i (k,d,g)) clock):=by
 have hm:=(fD (μ:=μ) (o:=.map (a.modify i f) clock) aX t r).1
 intro E F s1 c
 rw[h] at c
 simp only[GS,G6] at c
 obtain⟨rfl,rfl,rfl⟩:=c
 refine⟨a.modify i f,bN (cr r),by simp[l],λj A=>?_⟩
 have n:j<es.length:=by simpa using A
 obtain⟨y,p,B,C,D⟩:=m j n
 by_cases e:i=j
 .subst e
  have q:(es.set i (k,d,g)).getD i default=(k,d,g):=by simp[GQ,hi]
  refine⟨e',by rw[HU];simp[p,u y p],?_⟩
  rw[q]
  exact⟨v.mono hm,x.mono hm,z⟩
 .have q:(es.set i (k,d,g)).getD j default=es.getD j default:=by simp[GQ,e]
  refine⟨y,by rw[HU];simp[e,p],?_⟩
  rw[q]
  exact⟨B.mono hm,C.mono hm,D⟩
theorem bT.wY {id b o0 s:Nat} {es:List (V × V × Nat)} {clock:Nat} {a:Array MapEntry} {k f:V} {h c:Value} (l:μ id=some (b,o0,s)) (aX:∀b,Z b->b<w.heap.size) (q:¬ Z b) (p:w.heap[b]?=some (.map a clock)) (g:a.size=es.length)
  (m:∀i,i<es.length->∃y,a[i]?=some y/\ae Z μ w.heap (es.getD i default).1 y.key/\ae Z μ w.heap (es.getD i default).2.1 y.val/\y.born=(es.getD i default).2.2)
  (r:ae Z μ w.heap k h) (t:ae Z μ w.heap f c):
  bT Z μ (w.heap.setIfInBounds b (.map (a.push { key:=h,val:=c,born:=clock }) (clock+1))) id (.map (es++[(k,f,clock)]) (clock+1)):=by
 have hm:=(fD (μ:=μ) (o:=.map (a.push { key:=h,val:=c,born:=clock }) (clock+1)) aX q p).1
 intro B C s1 d
 rw[l] at d
 simp only[GS,G6] at d
 obtain⟨rfl,rfl,rfl⟩:=d
 refine⟨_,bN (cr p),by simp[g],λj u=>?_⟩
 by_cases e:j<es.length
 .obtain⟨y,v,x,z,A⟩:=m j e
  have n:(es++[(k,f,clock)]).getD j default=es.getD j default:=by simp[GQ,Hz e]
  refine⟨y,by rw[Ik,GV (by omega)];exact v,?_⟩
  rw[n]
  exact⟨x.mono hm,z.mono hm,A⟩
 .obtain rfl:j=es.length:=by simp at u;omega
  have n:(es++[(k,f,clock)]).getD es.length default=(k,f,clock):=by simp[GQ]
  refine⟨_,by rw[Ik,GZ g.symm],?_⟩
  rw[n]
  exact⟨r.mono hm,t.mono hm,rfl⟩
theorem ka {id b o0 s:Nat} {es:List (V × V × Nat)} {clock:Nat} (c:bT Z μ w.heap id (.map es clock)) (d:μ id=some (b,o0,s)):
 ∃a:Array MapEntry,w.heap[b]?=some (.map a clock)/\a.size=es.length /\
  ∀i,i<es.length->∃y,a[i]?=some y/\ae Z μ w.heap (es.getD i default).1 y.key/\ae Z μ w.heap (es.getD i default).2.1 y.val/\y.born=(es.getD i default).2.2:=c b o0 s d
theorem fJ {α:Type} {l:List α} {i:Nat} {x:α} (h:l[i]?=some x):i<l.length:=by
 rcases Ho i l.length with a | a
 .exact a
 .simp[Hs a] at h
theorem mI {t:TypeId} {m k I:V} {J z g:Value} (h:di P t m k I H=some (v,ag,rd)) (hm:ae Z μ w.heap m J) (A:ae Z μ w.heap k z) (K:ae Z μ w.heap I g) (c:Ctx Z μ w.heap H rd n ag):
  aq Z μ w n v ag ((do Instr.mapUpdate t J z g;pure Next.skip:Sem Next).run P w):=by
 unfold di at h
 split at h
 .rename_i kt et id D
  have hu:=iq D
  obtain⟨b,o0,s,d,rfl⟩:=lN hm
  split at h
  .rename_i es clock L
   split at h
   .rename_i i E
    split at h
    .rename_i M v0 N he
     split at h
     .rename_i F
      obtain⟨rfl,rfl,rfl⟩:=h
      have l:=c.obj id (by simp)
      rw[L] at l
      obtain⟨a,p,o,f⟩:=ka l d
      have B:=c.dQ _ _ _ _ d
      have hi:=fJ he
      obtain⟨y,g1,g2,g3,g4⟩:=f i hi
      simp only[GQ,he,G1] at g2 g3 g4
      obtain⟨r,G,u,C⟩:=iL (w:=w) E A o (λi hi=>let ⟨y,r,u,_⟩:=f i hi; ⟨y,r,u⟩)
      cases G with
      | none=>exact C.elim
      | some q =>
       obtain⟨j,O⟩:=q
       obtain⟨rfl,Q⟩:=C
       refine aq.skip (w':={ w with heap:=w.heap.setIfInBounds b (.map (a.modify i λe=>{ e with key:=z,val:=g }) clock) }) (μ':=μ) ?_ ⟨rfl,rfl,rfl,by simp⟩ ?_
       .simp only[Instr.mapUpdate,Sem.run_bind,aw hu,Result.andThen_ok,dm p,r,u,g1,Hb,G1,mR F g2 A,eV _ p]
       .exact⟨b,o0,s,d,rfl,bo _ _ _,(fD (μ:=μ) c.aX B p).2,bT.uw d c.aX B p o f hi _ (e':={ y with key:=z,val:=g }) (λR x=>by rw[g1] at x;simp at x;subst x;rfl) A K g4⟩
     .simp at h
    .simp at h
   .rename_i E
    obtain⟨rfl,rfl,rfl⟩:=h
    have l:=c.obj id (by simp)
    rw[L] at l
    obtain⟨a,p,o,f⟩:=ka l d
    have B:=c.dQ _ _ _ _ d
    obtain⟨r,G,u,C⟩:=iL (w:=w) E A o (λi hi=>let ⟨y,r,u,_⟩:=f i hi; ⟨y,r,u⟩)
    cases G with
    | some q=>exact C.elim
    | none =>
     refine aq.skip (w':={ w with heap:=w.heap.setIfInBounds b (.map (a.push { key:=z,val:=g,born:=clock }) (clock+1)) }) (μ':=μ) ?_ ⟨rfl,rfl,rfl,by simp⟩ ?_
     .simp only[Instr.mapUpdate,Sem.run_bind,aw hu,Result.andThen_ok,dm p,r,u,eV _ p]
     .exact⟨b,o0,s,d,rfl,bo _ _ _,(fD (μ:=μ) c.aX B p).2,bT.wY d c.aX B p o f A K⟩
   .simp at h
  .simp at h
 .simp at h
theorem Ez {a b:V} {x y:Value} (c:ae Z μ w.heap a x) (d:ae Z μ w.heap b y):ae Z μ w.heap (.aA [a,b]) (.tuple #[x,y]):=by
 refine .aA _ _ rfl (λi hi=>?_)
 match i,hi with
 | 0,_=>exact c
 | 1,_=>exact d
theorem tX {t:TypeId} {m k:V} {R u:Value} (h:cx P t m k H=some (v,ag,rd)) (hm:ae Z μ w.heap m R) (D:ae Z μ w.heap k u) (c:Ctx Z μ w.heap H rd n ag):
  aq Z μ w n v ag ((do pure (Next.value (<-Instr.mapEntry t R u)):Sem Next).run P w):=by
 unfold cx at h
 split at h
 .rename_i kt et id G
  have hu:=iq G
  obtain⟨b,o0,s,d,rfl⟩:=lN hm
  split at h
  .rename_i es clock S
   split at h
   .rename_i i I
    split at h
    .rename_i T v0 U he
     split at h
     .rename_i J
      obtain⟨rfl,rfl,rfl⟩:=h
      have g:=c.obj id (by simp)
      rw[S] at g
      obtain⟨a,r,l,f⟩:=ka g d
      have E:=c.dQ _ _ _ _ d
      have hi:=fJ he
      obtain⟨y,g1,g2,g3,g4⟩:=f i hi
      simp only[GQ,he,G1] at g2 g3 g4
      obtain⟨A,K,B,F⟩:=iL (w:=w) I D l (λi hi=>let ⟨y,A,B,_⟩:=f i hi; ⟨y,A,B⟩)
      cases K with
      | none=>exact F.elim
      | some q =>
       obtain⟨j,W⟩:=q
       obtain⟨rfl,L⟩:=F
       rw[g1] at L
       simp only[Hb,GS] at L
       subst L
       have p:=fD (μ:=μ) (o:=.map (a.modify i λe=>{ e with key:=u }) clock) c.aX E r
       refine aq.value (w':={ w with heap:=w.heap.setIfInBounds b (.map (a.modify i λe=>{ e with key:=u }) clock) }) (μ':=μ) (x:=.tuple #[y.val,goInt y.born]) ?_ ?_ ⟨rfl,rfl,rfl,by simp⟩ ?_
       .simp only[Instr.mapEntry,Sem.run_bind,aw hu,Result.andThen_ok,dm r,A,B,g1,Hb,G1,mR J g2 D,eV _ r,Sem.run_pure]
       .refine ae.mono p.1 (Ez g3 ?_)
        rw[g4];exact .val _ rfl
       .exact⟨b,o0,s,d,rfl,bo _ _ _,p.2,bT.uw d c.aX E r l f hi _ (e':={ y with key:=u }) (λX C=>by rw[g1] at C;simp at C;subst C;rfl) D g3 g4⟩
     .simp at h
    .simp at h
   .rename_i I
    split at h
    .rename_i z M
     obtain⟨ti,N,O,Q,rfl⟩:=kE M
     obtain⟨rfl,rfl,rfl⟩:=h
     have g:=c.obj id (by simp)
     rw[S] at g
     obtain⟨a,r,l,f⟩:=ka g d
     have E:=c.dQ _ _ _ _ d
     obtain⟨A,K,B,F⟩:=iL (w:=w) I D l (λi hi=>let ⟨y,A,B,_⟩:=f i hi; ⟨y,A,B⟩)
     cases K with
     | some q=>exact F.elim
     | none =>
      have p:=fD (μ:=μ) (o:=.map (a.push { key:=u,val:=N,born:=clock }) (clock+1)) c.aX E r
      refine aq.value (w':={ w with heap:=w.heap.setIfInBounds b (.map (a.push { key:=u,val:=N,born:=clock }) (clock+1)) }) (μ':=μ) (x:=.tuple #[N,goInt clock]) ?_ ?_ ⟨rfl,rfl,rfl,by simp⟩ ?_
      .simp only[Instr.mapEntry,Sem.run_bind,aw hu,Result.andThen_ok,dm r,A,B,ew O Q,eV _ r,Sem.run_pure]
      .exact ae.mono p.1 (Ez (cZ _) (.val _ rfl))
      .exact⟨b,o0,s,d,rfl,bo _ _ _,p.2,bT.wY d c.aX E r l f D (cZ _)⟩
    .simp at h
   .simp at h
  .simp at h
 .simp at h
theorem rU {t:TypeId} {m s A:V} {B C d:Value} (h:gn m s A H=some (v,ag,rd)) (hm:ae Z μ w.heap m B) (J:ae Z μ w.heap s C) (K:ae Z μ w.heap A d) (c:Ctx Z μ w.heap H rd n ag):
  aq Z μ w n v ag ((do Instr.entryStore t B C d;pure Next.skip:Sem Next).run P w):=by
 unfold gn at h
 split at h
 .rename_i id q L
  obtain⟨k,rfl⟩:=eR L
  have u:=bd J
  subst u
  obtain⟨b,o0,s,f,rfl⟩:=lN hm
  split at h
  .rename_i es clock M
   split at h
   .rename_i i D
    split at h
    .rename_i N v0 O he
     obtain⟨rfl,rfl,rfl⟩:=h
     have p:=c.obj id (by simp)
     rw[M] at p
     obtain⟨a,r,x,g⟩:=ka p f
     have E:=c.dQ _ _ _ _ f
     have hi:=fJ he
     obtain⟨y,g1,g2,g3,g4⟩:=g i hi
     simp only[GQ,he,G1] at g2 g3 g4
     have l:a.findIdx? (λe=>(e.born:Int)==(q:Int))=some i:=by
      rw[Array.findIdx?_eq_some_iff_getElem]
      rw[List.findIdx?_eq_some_iff_getElem] at D
      obtain⟨Q,hp,z⟩:=D
      refine⟨by omega,?_,?_⟩
      .have:a[i]=y:=by have:=g1;rw[G3 (by omega)] at this;simpa using this
       rw[this,g4]
       have:es[i]=(N,v0,O):=by have:=he;rw[GR hi] at this;simpa using this
       rw[this] at hp
       simp at hp ⊢;omega
      .intro j R
       obtain⟨F,G,_,_,I⟩:=g j (by omega)
       have S:a[j]=F:=by rw[G3 (by omega)] at G;simpa using G
       have T:=z j R
       simp only[GQ,GR (show j<es.length by omega),G1] at I
       rw[S,I]
       simp at T ⊢;omega
     refine aq.skip (w':={ w with heap:=w.heap.setIfInBounds b (.map (a.modify i λe=>{ e with val:=d }) clock) }) (μ':=μ) ?_ ⟨rfl,rfl,rfl,by simp⟩ ?_
     .simp only[Instr.entryStore,Sem.run_bind,Result.andThen_ok,dm r,asInt,asIntOf,Sem.run_pure,l,eV _ r]
     .exact⟨b,o0,s,f,rfl,bo _ _ _,(fD (μ:=μ) c.aX E r).2,bT.uw f c.aX E r x g hi _ (e':={ y with val:=d }) (λF o=>by rw[g1] at o;simp at o;subst o;rfl) g2 K g4⟩
    .simp at h
   .simp at h
  .simp at h
 .simp at h
theorem zH {t:TypeId} {m k:V} {O E:Value} {x:Array TypeId} {ty:TypeId} (h:lE P t m k H=some (v,ag,rd)) (C:x[0]?=some t) (hm:ae Z μ w.heap m O) (I:ae Z μ w.heap k E) (c:Ctx Z μ w.heap H rd n ag):
  aq Z μ w n v ag ((do pure (Next.value (<-Builtin.delete_ x ty #[O,E])):Sem Next).run P w):=by
 unfold lE at h
 split at h
 .rename_i kt et id J
  have hu:=iq J
  obtain⟨b,o0,s,z,rfl⟩:=lN hm
  split at h
  .rename_i es clock Q
   have start:bT Z μ w.heap id (.map es clock)->∀r,iT P kt k es.isEmpty es=some r->∃a:Array MapEntry,w.heap[b]?=some (.map a clock)/\a.size=es.length /\
     (∀i,i<es.length->∃y,a[i]?=some y/\ae Z μ w.heap (es.getD i default).1 y.key/\ae Z μ w.heap (es.getD i default).2.1 y.val/\y.born=(es.getD i default).2.2) /\
     (∀i,r=some i->(Builtin.delete_ x ty #[.map (some b),E]).run P w=.ok (.tuple #[]) { w with heap:=w.heap.setIfInBounds b (.map (a.eraseIdxIfInBounds i) clock) }) /\
     (r=none->(Builtin.delete_ x ty #[.map (some b),E]).run P w=.ok (.tuple #[]) { w with heap:=w.heap.setIfInBounds b (.map a clock) }):=by
    intro d r hr
    obtain⟨a,l,f,g⟩:=ka d z
    obtain⟨F,R,G,K⟩:=iL (w:=w) hr I f (λi hi=>let ⟨y,F,G,_⟩:=g i hi; ⟨y,F,G⟩)
    have A:a.isEmpty=es.isEmpty:=by
     simp only[Array.isEmpty,f];cases es<;>simp
    refine⟨a,l,f,g,λi hi=>?_,λhi=>?_⟩
    .subst hi
     cases R with
     | none=>exact K.elim
     | some q =>
      obtain⟨rfl,X⟩:=K
      simp only[Builtin.delete_,Hp,Hd,Hx,C,Sem.run_bind,aw hu,Result.andThen_ok,dm l,A,F,G,eV _ l,Sem.run_pure]
    .subst hi
     cases R with
     | some q=>exact K.elim
     | none =>
      simp only[Builtin.delete_,Hp,Hd,Hx,C,Sem.run_bind,aw hu,Result.andThen_ok,dm l,A,F,G,eV _ l,Sem.run_pure]
   split at h
   .rename_i i L
    obtain⟨rfl,rfl,rfl⟩:=h
    have d:=c.obj id (by simp)
    rw[Q] at d
    obtain⟨a,l,f,g,p,_⟩:=start d _ L
    have W:=c.dQ _ _ _ _ z
    have u:=fD (μ:=μ) (o:=.map (a.eraseIdxIfInBounds i) clock) c.aX W l
    refine aq.value (μ':=μ) (p i rfl) (.any _) ⟨rfl,rfl,rfl,by simp⟩ ⟨b,o0,s,z,rfl,bo _ _ _,u.2,?_⟩
    intro Y q1 s1 D
    rw[z] at D
    obtain⟨rfl,rfl,rfl⟩:=D
    have M:∀j,(a.eraseIdxIfInBounds i)[j]?=if j<i then a[j]? else a[j+1]?:=by
     intro j
     have:(a.eraseIdxIfInBounds i)[j]?=(a.toList.eraseIdx i)[j]?:=by rw[<-Ib,Array.toList_eraseIdxIfInBounds]
     rw[this,List.getElem?_eraseIdx]
     split<;>simp
    refine⟨_,bN (cr l),?_,λj hj=>?_⟩
    .rw[<-Array.length_toList,Array.toList_eraseIdxIfInBounds,List.length_eraseIdx,List.length_eraseIdx]
     simp[f]
    .have N:(es.eraseIdx i).getD j default=if j<i then es.getD j default else es.getD (j+1) default:=by
      simp only[GQ,List.getElem?_eraseIdx];split<;>rfl
     rw[M,N]
     have S:(es.eraseIdx i).length<=es.length/\(i<es.length->(es.eraseIdx i).length=es.length-1):=by
      rw[List.length_eraseIdx];split<;>omega
     by_cases e:j<i
     .rw[GZ e,GZ e]
      obtain⟨y,g1,g2,g3,g4⟩:=g j (by omega)
      exact⟨y,g1,g2.mono u.1,g3.mono u.1,g4⟩
     .rw[GV e,GV e]
      have:j+1<es.length:=by
       rcases Ho i es.length with T | T
       .have:=S.2 T;omega
       .have:=S.1;omega
      obtain⟨y,g1,g2,g3,g4⟩:=g (j+1) this
      exact⟨y,g1,g2.mono u.1,g3.mono u.1,g4⟩
   .rename_i L
    obtain⟨rfl,rfl,rfl⟩:=h
    have d:=c.obj id (by simp)
    rw[Q] at d
    obtain⟨a,l,f,g,_,p⟩:=start d _ L
    have B:w.heap.setIfInBounds b (.map a clock)=w.heap:=by
     apply Array.ext_getElem?
     intro k
     simp only[HE]
     split
     .rename_i I
      subst I
      rw[GZ (cr l)];exact l.symm
     .rfl
    have U:=p rfl
    rw[B] at U
    exact aq.here U (.any _)
   .simp at h
  .simp at h
 .simp at h
end
section
variable {Z:Nat->Prop} {μ μ':Mu} {w w':World} {P:Program} {H:View} {n:Nat} {v:V} {ag:az} {rd:List Nat}
theorem Er {t:TypeId} {x:V} {o:Value} {f:Array TypeId} {ty:TypeId} (h:lj P t x H=some (v,ag,rd)) (d:f[0]?=some t) (i:ae Z μ w.heap x o) (c:Ctx Z μ w.heap H rd n ag):
  aq Z μ w n v ag ((do pure (Next.value (<-Builtin.len_ f ty #[o])):Sem Next).run P w):=by
 unfold lj at h
 split at h
 .rename_i e hu
  simp only[GU] at h
  obtain⟨m,hm,h⟩:=h
  obtain⟨rfl,rfl,rfl⟩:=h
  obtain⟨ad,cap,rfl,_⟩:=bL i hm
  exact aq.here (x:=goInt m) (by simp[Builtin.len_,d,aw hu]) (.val _ rfl)
 .rename_i k e hu
  split at h
  .rename_i id
   obtain⟨b,o0,s,j,rfl⟩:=lN i
   split at h
   .rename_i es clock p
    obtain⟨rfl,rfl,rfl⟩:=h
    have g:=c.obj id (by simp)
    rw[p] at g
    obtain⟨a,q,l,r⟩:=ka g j
    refine aq.here (x:=goInt es.length) ?_ (.val _ rfl)
    simp[Builtin.len_,d,aw hu,dm q,l]
   .simp at h
  .obtain⟨rfl,rfl,rfl⟩:=h
   have:=bd i
   subst this
   exact aq.here (x:=goInt 0) (by simp[Builtin.len_,d,aw hu]) (.val _ rfl)
  .simp at h
 .rename_i hu
  split at h
  .rename_i s
   obtain⟨rfl,rfl,rfl⟩:=h
   have:=bd i
   subst this
   exact aq.here (x:=goInt s.size) (by simp[Builtin.len_,d,aw hu]) (.val _ rfl)
  .simp at h
 .rename_i m e hu
  obtain⟨rfl,rfl,rfl⟩:=h
  exact aq.here (x:=goInt m) (by simp[Builtin.len_,d,aw hu]) (.val _ rfl)
 .simp at h
theorem oP {b:Nat} {s:ByteArray} {pos:Nat} (h:w.heap[b]?=some (.stringIter s pos)):(getObj b).run P w=.ok (.stringIter s pos) w:=by
 simp[getObj,Sem.run,h]
theorem wz {b:Nat} {s:ByteArray} {pos:Nat} (o:Obj) (h:w.heap[b]?=some (.stringIter s pos)):(setObj b o).run P w=.ok () { w with heap:=w.heap.setIfInBounds b o }:=by
 simp[setObj,Sem.run,h]
theorem Cw {x:V} {o:Value} {ty:TypeId} (h:qE x H=some (v,ag,rd)) (q:ae Z μ w.heap x o) (c:Ctx Z μ w.heap H rd n ag):
  aq Z μ w n v ag ((do pure (Next.value (<-Instr.next o true ty)):Sem Next).run P w):=by
 unfold qE at h
 split at h
 .rename_i id
  obtain⟨b,o0,s,d,rfl⟩:=gR q
  split at h
  .rename_i st pos p
   split at h
   .rename_i g
    obtain⟨rfl,rfl,rfl⟩:=h
    have a:=c.obj id (by simp)
    rw[p] at a
    obtain⟨rfl,j⟩:=a b o0 s d
    have r:cR w.heap (w.heap.setIfInBounds b (.stringIter st (pos+(Utf8.decode st pos).2))):=by
     intro k t e f m
     by_cases h:b=k
     .subst h;rw[j] at m;simp at m
     .exact⟨t,f,by simp[h,m],rfl⟩
    refine aq.value (w':={ w with heap:=w.heap.setIfInBounds b (.stringIter st (pos+(Utf8.decode st pos).2)) }) (μ':=μ) (x:=.tuple #[.bool true,goInt pos,.int .i32 (Utf8.decode st pos).1]) ?_ ?_ ⟨rfl,rfl,rfl,by simp⟩ ?_
    .simp only[Nat.zero_mul,Ic,Instr.next,Sem.run_bind,oP j,Result.andThen_ok,g,if_true,wz _ j,Sem.run_pure]
    .refine .aA _ _ rfl (λi hi=>?_)
     match i,hi with
     | 0,_=>exact .val _ rfl
     | 1,_=>exact .val _ rfl
     | 2,_=>exact .val _ rfl
    .refine⟨b,0,s,d,rfl,bo _ _ _,r,?_⟩
     intro u y s1 l
     rw[d] at l
     obtain⟨rfl,rfl,rfl⟩:=l
     exact⟨rfl,bN (cr j)⟩
   .rename_i g
    obtain⟨rfl,rfl,rfl⟩:=h
    have a:=c.obj id (by simp)
    rw[p] at a
    obtain⟨rfl,j⟩:=a b o0 s d
    refine aq.here (x:=.tuple #[.bool false]) ?_ (.aA _ _ rfl (λi hi=>?_))
    .simp only[Nat.zero_mul,Ic,Instr.next,Sem.run_bind,oP j,Result.andThen_ok,g,if_false,Sem.run_pure]
    .match i,hi with
     | 0,_=>exact .val _ rfl
  .simp at h
 .simp at h
theorem sJ:∀(a:List Int) (s:ByteArray),a.foldl (λr n=>r.push (UInt8.ofNat n.toNat)) s=⟨s.data++(a.map λn=>UInt8.ofNat n.toNat).toArray⟩
 | [],s=>by simp
 | n::a,s=>by
  simp only[H0,H9]
  rw[sJ a]
  congr 1
  simp[ByteArray.push]
theorem rf:∀(xs:List (List V)) (l:List UInt8),ji xs=some l->∃a:List Int,xs=a.map (λn=>[V.val (.int .u8 n)])/\l=a.map λn=>UInt8.ofNat n.toNat
 | [],l,h=>by
  simp only[ji,GS] at h;subst h
  exact⟨[],rfl,rfl⟩
 | x::r,l,h=>by
  unfold ji at h
  split at h
  .simp at *
  .rename_i n c heq
   obtain⟨rfl,rfl⟩:=heq
   simp only[GU] at h
   obtain⟨l',b,rfl⟩:=h
   obtain⟨a,rfl,rfl⟩:=rf _ _ b
   exact⟨n::a,rfl,rfl⟩
  .simp at h
theorem DM {esz:Nat} {es:List (List V)} {c:Array Value} {e:TypeId} {f:Nat × Nat}
  (k:μ n=none) (aX:∀b,Z b->b<w.heap.size) (l:f.1=f.2∨c.size<=f.1) (m:es.length*esz<=c.size) (hlen:∀i,i<es.length->(es.getD i []).length=esz)
  (h:∀i j,i<es.length->j<esz->∃x,c[i*esz+j]?=some x/\ae Z μ w.heap ((es.getD i []).getD j .any) x):
  bT Z (μ.set n (w.heap.size,0,esz)) (w.heap.push (.cells c e f)) n (.arr esz es):=by
 intro b o0 s a
 simp only[Mu.set,if_true,GS,G6] at a
 obtain⟨rfl,rfl,rfl⟩:=a
 have hm:dC Z Z μ (μ.set n (w.heap.size,0,esz)) w.heap (w.heap.push (.cells c e f)):=by
  refine⟨λ_ h=>h,λb g=>?_,λid x a=>?_,?_⟩
  .have:=aX b g
   rw[Ik,GV (by omega)]
  .by_cases d:id=n
   .subst d;simp[k] at a
   .simp[Mu.set,d,a]
  .intro b o e' r g
   have:=cr g
   exact⟨o,_,by rw[Ik,GV (by omega)];exact g,rfl⟩
 refine⟨rfl,⟨c,e,f,by simp,l,by simpa using m⟩,hlen,λi j hi p=>?_⟩
 obtain⟨x,a,q⟩:=h i j hi p
 exact⟨x,by simp[cellAt,a],q.mono hm⟩
theorem wD {b:Nat} {c:Array Value} {e:TypeId} {f:Nat × Nat} (h:w.heap[b]?=some (.cells c e f)):
  ∃d,(w.freeze ⟨b,c.size,none⟩ 1) = { w with heap:=w.heap.setIfInBounds b (.cells c e d) }/\((f.1=f.2∨c.size<=f.1)->(d.1=d.2∨c.size<=d.1)):=by
 obtain⟨lo,up⟩:=f
 refine⟨if lo==up then (c.size,c.size+1) else (min lo c.size,max up (c.size+1)),?_,λk=>?_⟩
 .unfold World.freeze
  rw[GV (by omega)]
  congr 1
  apply Array.ext_getElem?
  intro i
  simp only[HU,HE]
  by_cases hi:b=i
  .subst hi
   have a:=cr h
   have j:w.heap[b]=.cells c e (lo,up):=by simpa [G3 a] using h
   simp[j,a]
  .simp[hi]
 .right
  split
  .exact GX _
  .rename_i g
   simp only[HC] at g
   simp only;omega
theorem we {s d:TypeId} {x:V} {xv:Value} (h:iJ P s d x H n=some (v,ag,rd)) (t:ae Z μ w.heap x xv) (c:Ctx Z μ w.heap H rd n ag):
  aq Z μ w n v ag ((do pure (Next.value (<-convert s d xv)):Sem Next).run P w):=by
 unfold iJ at h
 split at h
 .rename_i e C u
  split at h
  .rename_i he
   split at h
   .rename_i xs a8 m F R
    simp only[GU] at h
    obtain⟨l,S,h⟩:=h
    obtain⟨rfl,rfl,rfl⟩:=h
    obtain⟨o,rfl,rfl⟩:=rf _ _ S
    obtain⟨ad,cap,rfl,_⟩:=bL t R
    have hlen:=(oc (P:=P) (size:=1) F t).1
    simp only[Builtin.lenOf,Sem.run_pure,Result.ok.injEq,G8,and_true] at hlen
    subst hlen
    obtain⟨T,y,_,r⟩:=iG (P:=P) (size:=1) F t c.obj (by simp)
    have O:=r _ (GX _)
    have p:T.size=o.length:=by have:=y.len;simpa using this
    rw[eE T (by simpa using y.len)] at O
    have G:T=(o.map (Value.int .u8)).toArray:=by
     apply Array.ext
     .simp[p]
     .intro i h1 h2
      have hi:i<o.length:=by omega
      have:=y.rel i 0 (by simpa using hi) (by omega)
      simp only[GQ,GY,GR hi,Hb,G1,Hd,Nat.mul_one,Ic,GW,G3 h1] at this
      have:=bd this
      simpa using this
    have I:(Conv.bytesToString (.slice ad o.length cap)).run P w=.ok (.string ⟨(o.map λn=>UInt8.ofNat n.toNat).toArray⟩) w:=by
     cases ad with
     | none =>
      have:o=[]:=by
       simp only[Builtin.firstCells,Sem.run_pure,Result.ok.injEq,and_true] at O
       rw[<-O] at p
       exact HM.1 p.symm
      subst this
      rfl
     | some a =>
      have h9:(loadCells a o.length).run P w=.ok (o.map (Value.int .u8)).toArray w:=by
       rw[<-G]
       simpa [Builtin.firstCells] using O
      rw[run_bytesToString w a o.length cap o h9,sJ]
      congr 2
      simp
    refine aq.here (x:=.string ⟨(o.map λn=>UInt8.ofNat n.toNat).toArray⟩) ?_ (.val _ rfl)
    rw[run_convert_bytes_string w s d e ad o.length cap C he u]
    exact I
   .simp at h
  .simp at h
 .rename_i e st C u
  split at h
  .rename_i he
   obtain⟨rfl,rfl,rfl⟩:=h
   unfold dt
   have:=bd t
   subst this
   have J:st.size<=grownCap w st.size 0 e:=by
    unfold grownCap Question.cut;exact Nat.le_add_right _ _
   have K:(bytesRow st (grownCap w st.size 0 e)).size=grownCap w st.size 0 e:=by
    simp only[bytesRow,Array.size_append,Array.size_map,Array.size_replicate]
    have:st.data.size=st.size:=rfl
    omega
   refine aq.value (μ':=μ.set n (w.heap.size,0,1)) (run_bytes_of_string w s d e st C u he) ?_ (fm _ _) ?_
   .rw[heap_alloc,cJ]
    have:=ae.sl (Z:=Z) (μ:=μ.set n (w.heap.size,0,1)) (hp:=w.heap.push (.cells (bytesRow st (grownCap w st.size 0 e)) e ((bytesRow st (grownCap w st.size 0 e)).size,(bytesRow st (grownCap w st.size 0 e)).size+1))) n 0 st.size 1 w.heap.size 0 (grownCap w st.size 0 e) _ e _ (by simp[Mu.set]) J (by simp;exact⟨rfl,rfl⟩) (by rw[K];simp)
    simpa using this
   .refine⟨w.heap.size,0,1,GX _,by rw[heap_alloc,cJ];simp,rfl,by rw[heap_alloc,cJ];exact b6 _ _,?_⟩
    have S:(st.data.toList.map λb=>([V.val (Value.int .u8 b.toNat)]:List V)).length=st.size:=by rw[G8,bsize]
    refine DM c.new c.aX (.inr (GX _)) (by rw[S,K];omega) ?_ ?_
    .intro i hi
     have q:i<st.data.toList.length:=by simpa using hi
     simp only[GQ,GY,GR q,Hb,G1,G5,Hh]
    .intro i j hi hj
     obtain rfl:j=0:=by omega
     have q:i<st.data.size:=by simpa using hi
     refine⟨.int .u8 (st.data[i]).toNat,?_,?_⟩
     .simp only[bytesRow,Nat.mul_one,Ic]
      rw[HO (by simpa using q),Array.getElem?_map,G3 q]
      rfl
     .simp only[GQ,GY,Ib,G3 q,Hb,G1,Hd]
      exact .val _ rfl
  .simp at h
 .rename_i e1 e2 id off len esz C u
  split at h
  .rename_i hc
   obtain⟨U,W⟩:=hc
   subst U
   rw[C] at u
   simp only[GS,TypeDesc.slice.injEq] at u
   subst u
   split at h
   .rename_i he
    split at h
    .rename_i z es hH
     obtain⟨rfl,rfl,rfl⟩:=h
     have L:=c.obj id (by simp)
     rw[hH] at L
     cases t with
     | fj=>exact absurd rfl W
     | sl _ _ _ _ b o0 cap D e' f hm hle g X =>
      obtain⟨rfl,⟨c2,e2,f2,M,Y,ao⟩,h3,h4⟩:=L b o0 esz hm
      rw[g] at M
      obtain⟨rfl,rfl,rfl⟩:=M
      obtain⟨Q,a1,a6⟩:=wD g
      have hz:=c.dQ _ _ _ _ hm
      have A:=cr g
      have B:dC Z Z μ μ w.heap (w.heap.setIfInBounds b (.cells D e' Q)):=by
       refine⟨λ_ h=>h,λk E=>bo w.heap b _ k (c.aX k E) (λe=>hz (e▸E)),λ_ _ h=>h,?_⟩
       intro k x e0 f0 E
       by_cases hb:b=k
       .subst hb
        rw[g] at E
        obtain⟨rfl,rfl,rfl⟩:=E
        exact⟨D,Q,bN A,rfl⟩
       .exact⟨x,f0,by simp[hb,E],rfl⟩
      refine aq.value (w':={ w with heap:=w.heap.setIfInBounds b (.cells D e' Q) }) (μ':=μ) (x:=.slice (some ⟨b,o0+off*esz,none⟩) len cap) ?_ ((ae.sl id off len esz b o0 cap D e' f hm hle g X).mono B) ⟨rfl,rfl,rfl,by simp⟩ ?_
      .have a7:w.shape? b=some (e',D.size):=by simp[World.shape?,g]
       simp only[convert,Sem.run_bind,aw C,Result.andThen_ok,aw he,beq_self_eq_true,markStringish,run_shape,a7,run_freeze,a1,Sem.run_pure]
      .refine⟨b,o0,esz,hm,rfl,bo _ _ _,B.shape,?_⟩
       intro b1 q1 s1 N
       rw[hm] at N
       obtain⟨rfl,rfl,rfl⟩:=N
       refine⟨rfl,⟨D,e',Q,bN A,a6 Y,ao⟩,h3,λi j hi hj=>?_⟩
       obtain⟨x,t,hv⟩:=h4 i j hi hj
       refine⟨x,?_,hv.mono B⟩
       simp only[cellAt,bN A]
       simpa only [cellAt,g] using t
    .simp at h
   .simp at h
  .simp at h
 .simp at h
theorem jV {o:Oper} {T:Env} {a:Act} (h:bJ P o T=some (v,ag,rd)) (g:∀x∈o.op.operands,ae Z μ w.heap (ev T x) (a.eval x))
  (i:∀c:Operand->Value,(∀x∈o.op.operands,c x=a.eval x)->execOp c o=execOp a.eval o):aq Z μ w n v ag ((execOp a.eval o).run P w):=by
 unfold bJ at h
 split at h
 .rename_i b
  split at h
  .rename_i x d
   split at h
   .rename_i hp
    obtain⟨rfl,rfl,rfl⟩:=h
    rw[i] at d
    .exact⟨.value x,w,μ,iR _ d w,.inl ⟨x,rfl,.val _ hp⟩,bZ.refl _,dZ⟩
    .intro y e
     rw[Array.all_eq_true_iff_forall_mem] at b
     obtain⟨z,f⟩:=Option.isSome_iff_exists.1 (b y e)
     rw[f]
     exact jb (g y e) f
   .simp at h
  .simp at h
 .simp at h
theorem pq {T:Env} {a:Act}:∀(l:List (Nat × Operand)),(∀x∈l.map (·.2),ae Z μ w.heap (ev T x) (a.eval x))->rn Z μ w.heap (l.map λ(i,x)=>(i,ev T x)) (l.map λ(i,x)=>(i,a.eval x))
 | [],_=>trivial
 | (i,x)::r,h=>⟨rfl,h x (by simp),pq r (λy b=>h y (by simp at b ⊢;exact .inr b))⟩
theorem yD {T:Env} {a:Act} (xs:Array Operand) (h:∀x∈xs,ae Z μ w.heap (ev T x) (a.eval x)):
  (xs.toList.map (ev T)).length=(xs.map a.eval).size/\∀i,i<(xs.toList.map (ev T)).length->ae Z μ w.heap ((xs.toList.map (ev T)).getD i .any) ((xs.map a.eval).getD i undef):=by
 refine⟨by simp,λi hi=>?_⟩
 have b:i<xs.size:=by simpa using hi
 have:=h xs[i] (Array.getElem_mem _)
 simpa [GQ,GW,b] using this
theorem rX {T:Env} {a:Act} (o:Option Operand) (h:∀x∈o.toArray,ae Z μ w.heap (ev T x) (a.eval x)):m8 Z μ w.heap (o.map (ev T)) (o.map a.eval):=by
 cases o with
 | none=>trivial
 | some x=>exact h x (by simp)
theorem EF {cs:List V} {x:Value} {t:TypeId} (h:fZ cs n=some (v,ag,rd)) (hr:cs.all au=true->cL Z μ w.heap cs x.cells.toList) (c:Ctx Z μ w.heap H rd n ag):
  aq Z μ w n v ag ((do pure (Next.value (<-Instr.box t x)):Sem Next).run P w):=by
 have:=xU (P:=P) (t:=t) h hr c
 simpa [Instr.box] using this
end
section
variable {Z:Nat->Prop} {μ μ':Mu} {w w':World} {P:Program} {H:View} {n:Nat} {v:V} {ag:az} {rd:List Nat}
theorem j1 {c:Operand->Value} {o:Oper} {b:Builtin} {args:Array Operand} {a:Array TypeId} (d:o.op=.call { callee:=.builtin b,args:=args,argTypes:=a }):
  execOp c o=builtin b a o.type (args.map fun | .const _=>true | _=>false) (args.map c):=by
 unfold execOp
 rw[d]
 rfl
def iM (k:Nat) (x:Value) (b:Bool):Prop:=match k,x with
 | 0,.slice a _ _=>a.isNone=b
 | 1,.pointer a=>a.isNone=b
 | 2,.map a=>a.isNone=b
 | 3,.nilFunc=>b=true
 | 3,.func _ _ _=>b=false
 | _,_=>False
theorem BL {k:Nat} {x:V} {d:Value} {b:Bool} (h:ct k x=some b) (c:ae Z μ w.heap x d):iM k d b:=by
 unfold ct at h
 split at h
 .simp at h;subst h;cases c with | emp k a e f=>rw[e rfl];rfl
 .simp at h;subst h
  cases c with
  | emp k a e f =>
   cases a with
   | none=>exact absurd rfl (f rfl)
   | some a=>rfl
 .simp at h;subst h;cases c;rfl
 .simp at h;subst h;cases c;rfl
 .simp at h;subst h;cases c;rfl
 .simp at h;subst h;cases c;rfl
 .simp at h;subst h;cases c;rfl
 .simp at h;subst h;cases c;rfl
 .simp at h;subst h;cases c;rfl
 .simp at h;subst h;cases c;rfl
 .simp at h;subst h;cases c;rfl
 .simp at h;subst h;cases c;rfl
 .simp at h
theorem wM {t:TypeId} {k:Nat} (h:eL P t=some k):(k=0/\∃e,P.underlying t=some (.slice e))∨(k=1/\∃e,P.underlying t=some (.pointer e)) ∨
  (k=2/\∃e f,P.underlying t=some (.map e f))∨(k=3/\∃p q r,P.underlying t=some (.func p q r)):=by
 unfold eL at h
 split at h
 .rename_i e hu;simp at h;exact .inl ⟨h.symm,e,hu⟩
 .rename_i e hu;simp at h;exact .inr (.inl ⟨h.symm,e,hu⟩)
 .rename_i e f hu;simp at h;exact .inr (.inr (.inl ⟨h.symm,e,f,hu⟩))
 .rename_i p q r hu;simp at h;exact .inr (.inr (.inr ⟨h.symm,p,q,r,hu⟩))
 .simp at h
def ja (P:Program) (w:World) (t:TypeId) (x y:Operand) (xv yv:Value) (b:Bool):Prop:=
 (Op.equal t xv yv).run P w=.ok b w/\(∀op,(eqGuard op t x y xv yv).run P w=.ok () w)/\(binOp .eql t xv yv=(do pure (.bool (<-Op.equal t xv yv))))/\(binOp .neq t xv yv=(do pure (.bool (!(<-Op.equal t xv yv)))))
theorem fV (t:TypeId) (x y:Value):Op.equal t x y=Op.equalIn (9999+1) t x y:=rfl
theorem z8 {t e:TypeId} {x y:Operand} {a d:Option Addr} {l c l' f:Nat} {b:Bool} (hu:P.underlying t=some (.slice e)) (h:(a.isNone=true/\d.isNone=b)∨(a.isNone=b/\d.isNone=true)):ja P w t x y (.slice a l c) (.slice d l' f) b:=by
 refine⟨?_,λop=>by cases op<;>rfl,rfl,rfl⟩
 rw[fV]
 generalize (9999:Nat)=depth
 simp only[Op.equalIn,Sem.run_bind,aw hu,Result.andThen_ok]
 cases a with
 | none=>cases d<;>simp_all
 | some a=>cases d<;>simp_all
theorem wH {t e:TypeId} {x y:Operand} {a c:Option Addr} {b:Bool} (hu:P.underlying t=some (.pointer e)) (h:(a.isNone=true/\c.isNone=b)∨(a.isNone=b/\c.isNone=true)):ja P w t x y (.pointer a) (.pointer c) b:=by
 refine⟨?_,λop=>by cases op<;>rfl,rfl,rfl⟩
 rw[fV]
 generalize (9999:Nat)=depth
 simp only[Op.equalIn,Sem.run_bind,aw hu,Result.andThen_ok]
 cases a with
 | none=>cases c<;>simp_all
 | some a=>cases c<;>simp_all
theorem Et {t e f:TypeId} {x y:Operand} {a c:Option Nat} {b:Bool} (hu:P.underlying t=some (.map e f)) (h:(a.isNone=true/\c.isNone=b)∨(a.isNone=b/\c.isNone=true)):ja P w t x y (.map a) (.map c) b:=by
 refine⟨?_,λop=>by cases op<;>rfl,rfl,rfl⟩
 rw[fV]
 generalize (9999:Nat)=depth
 simp only[Op.equalIn,Sem.run_bind,aw hu,Result.andThen_ok]
 cases a with
 | none=>cases c<;>simp_all
 | some a=>cases c<;>simp_all
theorem CY {t:TypeId} {p q:Array TypeId} {r:Bool} {x y:Operand} (hu:P.underlying t=some (.func p q r)):
  ja P w t x y .nilFunc .nilFunc true/\(∀f m k,ja P w t x y .nilFunc (.func f m k) false)/\(∀f m k,ja P w t x y (.func f m k) .nilFunc false):=by
 refine⟨⟨?_,λop=>by cases op<;>rfl,rfl,rfl⟩,λf m k=>⟨?_,λop=>by cases op<;>rfl,rfl,rfl⟩,λf m k=>⟨?_,λop=>by cases op<;>rfl,rfl,rfl⟩⟩
 all_goals
  rw[fV]
  generalize (9999:Nat)=depth
  simp only[Op.equalIn,Sem.run_bind,aw hu,Result.andThen_ok,Sem.run_pure]
theorem DR {t:TypeId} {x y:Operand} {o s:V} {j d:Value} {b:Bool} (z:ae Z μ w.heap o j) (A:ae Z μ w.heap s d) (h:rS P t o s=some b):ja P w t x y j d b:=by
 have g:∃k m l,eL P t=some k/\ct k o=some m/\ct k s=some l/\((m=true/\l=b)∨(m=b/\l=true)):=by
  unfold rS at h
  split at h
  .rename_i k n
   split at h
   .rename_i l u v
    simp at h;subst h
    exact⟨k,true,_,n,u,v,.inl ⟨rfl,rfl⟩⟩
   .rename_i l _ u v
    simp at h;subst h
    exact⟨k,_,true,n,u,v,.inr ⟨rfl,rfl⟩⟩
   .simp at h
  .simp at h
 obtain⟨k,m,l,n,B,C,i⟩:=g
 have c:=BL B z
 have a:=BL C A
 rcases wM n with ⟨rfl,e,hu⟩ | ⟨rfl,e,hu⟩ | ⟨rfl,e,f,hu⟩ | ⟨rfl,p,q,r,hu⟩
 .cases j<;>simp only[iM] at c
  cases d<;>simp only[iM] at a
  exact z8 hu (by rw[c,a];exact i)
 .cases j<;>simp only[iM] at c
  cases d<;>simp only[iM] at a
  exact wH hu (by rw[c,a];exact i)
 .cases j<;>simp only[iM] at c
  cases d<;>simp only[iM] at a
  exact Et hu (by rw[c,a];exact i)
 .obtain⟨g1,g2,g3⟩:=CY (P:=P) (w:=w) (x:=x) (y:=y) hu
  cases j<;>simp only[iM] at c
  .cases d<;>simp only[iM] at a
   .subst c a
    simp at i
   .subst c a
    have:b=false:=by simpa using i.symm
    subst this;exact g3 _ _ _
  .cases d<;>simp only[iM] at a
   .subst c a
    have:b=false:=by simpa using i.symm
    subst this;exact g2 _ _ _
   .subst c a
    have:b=true:=by simpa using i.symm
    subst this;exact g1
theorem E9 {o:Oper} {T:Env} {a:Act} (h:aP P o T H n=some (v,ag,rd)) (A:∀x∈o.op.operands,ae Z μ w.heap (ev T x) (a.eval x)) (c:Ctx Z μ w.heap H rd n ag):
  aq Z μ w n v ag ((execOp a.eval o).run P w):=by
 unfold aP at h
 split at h
 ·
  rename_i x g
  obtain⟨rfl,rfl,rfl⟩:=h
  rw[g] at A
  refine⟨.value (a.eval x),w,μ,by simp[execOp,g],.inl ⟨_,rfl,A x (by simp[Op.operands])⟩,bZ.refl _,dZ⟩
 .rename_i x g
  obtain⟨rfl,rfl,rfl⟩:=h
  rw[g] at A
  refine⟨.value (a.eval x),w,μ,by simp[execOp,g],.inl ⟨_,rfl,A x (by simp[Op.operands])⟩,bZ.refl _,dZ⟩
 ·
  rename_i cc x y g
  rw[g] at A
  split at h
  .rename_i t ht
   obtain⟨rfl,rfl,rfl⟩:=h
   have C:=A cc (by simp[Op.operands])
   rw[ht] at C
   have C:=bd C
   refine⟨.value (if t then a.eval x else a.eval y),w,μ,by simp[execOp,g,C,asBool],.inl ⟨_,rfl,?_⟩,bZ.refl _,dZ⟩
   cases t with
   | true=>exact A x (by simp[Op.operands])
   | false=>exact A y (by simp[Op.operands])
  .simp at h
 .rename_i e g
  split at h
  .rename_i z hz
   have X:∃i V,P.info? e=some i/\i.zero=some V/\z=(cK V).cells:=by
    cases hi:P.info? e with
    | none=>simp[zeroCells,hi] at hz
    | some i =>
     obtain⟨V,C,O⟩:=ee hi hz
     exact⟨i,V,rfl,C,O⟩
   obtain⟨i,V,hi,a1,rfl⟩:=X
   have:=xU (P:=P) (x:=V) (t:=e) h (λW=>dq (cZ _) W) c
   have D:(execOp a.eval o).run P w=((do pure (Next.value (.pointer (some (<-newVar e V)))):Sem Next).run P w):=by
    unfold execOp
    rw[g]
    simp[Instr.alloc,ew hi a1]
   rw[D];exact this
  .simp at h
 ·
  rename_i e x g
  rw[g] at A
  have:=EF (P:=P) (t:=e) h (λW=>dq (A x (by simp[Op.operands])) W) c
  have D:execOp a.eval o=(do pure (Next.value (<-Instr.box e (a.eval x)))):=by
   unfold execOp;rw[g]
  rw[D];exact this
 .rename_i t parts g
  rw[g] at A
  have D:execOp a.eval o=(do pure (Next.value (<-Instr.build t (parts.map λ(i,x)=>(i,a.eval x))))):=by
   unfold execOp;rw[g]
  rw[D]
  refine AO h ?_
  rw[Array.toList_map]
  exact pq _ (λx F=>A x (by simpa [Op.operands] using F))
 .rename_i t len parts g
  rw[g] at A
  have D:execOp a.eval o=(do pure (Next.value (<-Instr.buildSlice t len (parts.map λ(i,x)=>(i,a.eval x))))):=by
   unfold execOp;rw[g]
  rw[D]
  refine rH h ?_ c
  rw[Array.toList_map]
  exact pq _ (λx F=>A x (by simpa [Op.operands] using F))
 ·
  rename_i t x g
  rw[g] at A
  have D:execOp a.eval o=(do pure (Next.value (<-Instr.loadAt t (a.eval x)))):=by
   unfold execOp;rw[g]
  rw[D]
  exact CJ h (A x (by simp[Op.operands])) c
 .rename_i t x y g
  rw[g] at A
  have D:execOp a.eval o=(do Instr.storeAt t (a.eval x) (a.eval y);pure Next.skip):=by
   unfold execOp;rw[g]
  rw[D]
  exact AR h (A x (by simp[Op.operands])) (A y (by simp[Op.operands])) c
 .rename_i x g
  rw[g] at A
  have C:=A x (by simp[Op.operands])
  split at h
  .rename_i id i j F
   obtain⟨rfl,rfl,rfl⟩:=h
   rw[F] at C
   have O:=C
   obtain⟨b,o0,s,hm,he⟩:=gR C
   exact⟨.value (a.eval x),w,μ,by simp[execOp,g,he],.inl ⟨_,rfl,O⟩,bZ.refl _,dZ⟩
  .rename_i e j F
   obtain⟨rfl,rfl,rfl⟩:=h
   rw[F] at C
   have O:=C
   obtain⟨b,off,hz,a7,he⟩:=kj C
   exact⟨.value (a.eval x),w,μ,by simp[execOp,g,he],.inl ⟨_,rfl,O⟩,bZ.refl _,dZ⟩
  .rename_i f p q F
   obtain⟨rfl,rfl,rfl⟩:=h
   rw[F] at C
   have O:=C
   generalize he:a.eval x=y at C O
   cases C with
   | fn _ _ _ Q bs _ _ _ _=>exact⟨.value (.func (.func f) Q bs),w,μ,by simp[execOp,g,he],.inl ⟨_,rfl,O⟩,bZ.refl _,dZ⟩
  .simp at h
 .rename_i t x f g
  rw[g] at A
  have D:execOp a.eval o=(do pure (Next.value (<-Instr.fieldAt t (a.eval x) f))):=by
   unfold execOp;rw[g]
  rw[D]
  exact tC h (A x (by simp[Op.operands]))
 .rename_i t x f g
  rw[g] at A
  have D:execOp a.eval o=(do pure (Next.value (<-Instr.field t (a.eval x) f))):=by
   unfold execOp;rw[g]
  rw[D]
  exact A1 h (A x (by simp[Op.operands]))
 .rename_i t x i g
  rw[g] at A
  have D:execOp a.eval o=(do pure (Next.value (<-Instr.indexAt t (a.eval x) (a.eval i)))):=by
   unfold execOp;rw[g]
  rw[D]
  exact tz h (A x (by simp[Op.operands])) (A i (by simp[Op.operands]))
 .rename_i t x lo hi Y g
  split at h
  .refine jV h A (λR B=>?_)
   rw[g] at B
   have K:=B x (by simp[Op.operands])
   have C:lo.map R=lo.map a.eval:=by cases lo with | none=>rfl | some y=>simp[B y (by simp[Op.operands])]
   have O:hi.map R=hi.map a.eval:=by cases hi with | none=>rfl | some y=>simp[B y (by simp[Op.operands])]
   have h3:Y.map R=Y.map a.eval:=by cases Y with | none=>rfl | some y=>simp[B y (by simp[Op.operands])]
   unfold execOp;rw[g];simp only[K,C,O,h3]
  .rw[g] at A
   have D:execOp a.eval o=(do pure (Next.value (<-Instr.sliceAt t (a.eval x) (lo.map a.eval) (hi.map a.eval) (Y.map a.eval)))):=by
    unfold execOp;rw[g]
   rw[D]
   exact B8 h (A x (by simp[Op.operands])) (rX lo (λy U=>A y (by simp[Op.operands] at U ⊢;simp[U]))) (rX hi (λy U=>A y (by simp[Op.operands] at U ⊢;simp[U]))) (rX Y (λy U=>A y (by simp[Op.operands] at U ⊢;simp[U])))
 .rename_i t l cc g
  rw[g] at A
  have D:execOp a.eval o=(do pure (Next.value (<-Instr.makeSlice t (a.eval l) (a.eval cc)))):=by
   unfold execOp;rw[g]
  rw[D]
  exact tq h (A l (by simp[Op.operands])) (A cc (by simp[Op.operands])) c
 .rename_i t r g
  split at h
  .obtain⟨rfl,rfl,rfl⟩:=h
   refine⟨.value (.map (some w.heap.size)),w.alloc (.map #[] 0),μ.set n (w.heap.size,0,0),by simp[execOp,g,Instr.makeMap],.inl ⟨_,rfl,.mp n w.heap.size 0 0 (by simp[Mu.set])⟩,eu _ _,?_⟩
   refine⟨w.heap.size,0,0,GX _,by rw[heap_alloc];simp,rfl,by rw[heap_alloc];exact b6 _ _,?_⟩
   intro b o0 s F
   simp only[Mu.set,if_true,GS,G6] at F
   obtain⟨rfl,rfl,rfl⟩:=F
   exact⟨#[],by rw[heap_alloc];simp,rfl,λi hi=>by simp at hi⟩
  .simp at h
 .rename_i f first cap g
  obtain⟨rfl,rfl,rfl⟩:=h
  rw[g] at A
  have C:=yD (T:=T) (a:=a) first (λx F=>A x (by simp[Op.operands,F]))
  have O:=yD (T:=T) (a:=a) cap (λx F=>A x (by simp[Op.operands,F]))
  exact⟨.value (.func (.func f) (first.map a.eval) (cap.map a.eval)),w,μ,by simp[execOp,g,Instr.makeFunc],.inl ⟨_,rfl,.fn f _ _ _ _ C.1 O.1 C.2 O.2⟩,bZ.refl _,dZ⟩
 .rename_i t m k ok g
  rw[g] at A
  have D:execOp a.eval o=(do pure (Next.value (<-Instr.lookup t (a.eval m) (a.eval k) ok))):=by
   unfold execOp;rw[g]
  rw[D]
  exact ze h (A m (by simp[Op.operands])) (A k (by simp[Op.operands])) c
 .rename_i t m k x g
  rw[g] at A
  have D:execOp a.eval o=(do Instr.mapUpdate t (a.eval m) (a.eval k) (a.eval x);pure Next.skip):=by
   unfold execOp;rw[g]
  rw[D]
  exact mI h (A m (by simp[Op.operands])) (A k (by simp[Op.operands])) (A x (by simp[Op.operands])) c
 .rename_i t m k x g
  rw[g] at A
  have D:execOp a.eval o=(do Instr.mapUpdate t (a.eval m) (a.eval k) (a.eval x);pure Next.skip):=by
   unfold execOp;rw[g]
  rw[D]
  exact mI h (A m (by simp[Op.operands])) (A k (by simp[Op.operands])) (A x (by simp[Op.operands])) c
 .rename_i t m k g
  rw[g] at A
  have D:execOp a.eval o=(do pure (Next.value (<-Instr.mapEntry t (a.eval m) (a.eval k)))):=by
   unfold execOp;rw[g]
  rw[D]
  exact tX h (A m (by simp[Op.operands])) (A k (by simp[Op.operands])) c
 .rename_i t m s x g
  rw[g] at A
  have D:execOp a.eval o=(do Instr.entryStore t (a.eval m) (a.eval s) (a.eval x);pure Next.skip):=by
   unfold execOp;rw[g]
  rw[D]
  exact rU h (A m (by simp[Op.operands])) (A s (by simp[Op.operands])) (A x (by simp[Op.operands])) c
 .rename_i t i g
  rw[g] at A
  have C:=A t (by simp[Op.operands])
  split at h
  .rename_i vs a6
   split at h
   .rename_i hi
    obtain⟨rfl,rfl,rfl⟩:=h
    rw[a6] at C
    generalize he:a.eval t=y at C
    cases C with
    | aA _ Q hl hr =>
     have h3:=hr i hi
     have ao:i<Q.size:=hl▸hi
     simp only[GW,G3 ao,G1] at h3
     exact⟨.value Q[i],w,μ,by simp[execOp,g,he,Instr.extract,ao],.inl ⟨_,rfl,h3⟩,bZ.refl _,dZ⟩
   .simp at h
  .simp at h
 .rename_i t x g
  rw[g] at A
  have C:=A x (by simp[Op.operands])
  split at h
  .rename_i s hs
   split at h
   .rename_i N
    obtain⟨rfl,rfl,rfl⟩:=h
    rw[hs] at C
    have C:=bd C
    have hu:P.underlying t=some .string:=by
     rw[g] at N
     unfold isStr at N
     simp only at N
     split at N<;>simp_all
    refine⟨.value (.pointer (some ⟨w.heap.size,0,none⟩)),w.alloc (.stringIter s 0),μ.set n (w.heap.size,0,0),by simp[execOp,g,C,Instr.range,aw hu],.inl ⟨_,rfl,?_⟩,eu _ _,?_⟩
    .have:=ae.ptr (Z:=Z) (μ:=μ.set n (w.heap.size,0,0)) (hp:=(w.alloc (.stringIter s 0)).heap) n 0 0 w.heap.size 0 0 (by simp[Mu.set])
     simpa using this
    .refine⟨w.heap.size,0,0,GX _,by rw[heap_alloc];simp,rfl,by rw[heap_alloc];exact b6 _ _,?_⟩
     intro b o0 s' F
     simp only[Mu.set,if_true,GS,G6] at F
     obtain⟨rfl,rfl,rfl⟩:=F
     exact⟨rfl,by rw[heap_alloc];simp⟩
   .simp at h
  .simp at h
 ·
  rename_i it g
  rw[g] at A
  have D:execOp a.eval o=(do pure (Next.value (<-Instr.next (a.eval it) true o.type))):=by
   unfold execOp;rw[g]
  rw[D]
  exact Cw h (A it (by simp[Op.operands])) c
 .rename_i s d x g
  split at h
  .rw[g] at A
   have D:execOp a.eval o=(do pure (Next.value (<-convert s d (a.eval x)))):=by
    unfold execOp;rw[g]
   rw[D]
   exact we h (A x (by simp[Op.operands])) c
  .refine jV h A (λR B=>?_)
   rw[g] at B
   have K:=B x (by simp[Op.operands])
   unfold execOp;rw[g];simp only[K]
 .rename_i b args S g
  have E:execOp a.eval o=builtin b S o.type (args.map fun | .const _=>true | _=>false) (args.map a.eval):=j1 g
  have I:bJ P o T=some (v,ag,rd)->aq Z μ w n v ag ((execOp a.eval o).run P w):=by
   intro h
   refine jV h A (λR B=>?_)
   rw[g] at B
   rw[j1 g,j1 g]
   have:args.map R=args.map a.eval:=by
    apply Array.map_congr_left
    intro x F
    exact B x (by simp[Op.operands,Call.operands,F])
   rw[this]
  have J:∀x∈args.toList,ae Z μ w.heap (ev T x) (a.eval x):=λx F=>A x (by rw[g];simp[Op.operands,Call.operands];simpa using F)
  have K:∀ {k:Nat},k<S.size->S[k]?=some (S.getD k 0):=by
   intro k hk
   simp[GW,hk]
  have M:∀x,args.toList=[x]->args.map a.eval = #[a.eval x]:=by
   intro x F
   apply Array.ext'
   simp[F]
  have L:∀x y,args.toList=[x,y]->args.map a.eval = #[a.eval x,a.eval y]:=by
   intro x y F
   apply Array.ext'
   simp[F]
  split at h
  .rename_i x u
   split at h
   .rename_i G
    rw[E,M x u]
    exact Er h (K G) (J x (by rw[u];simp)) c
   .simp at h
  .rename_i x y u
   split at h
   .rename_i G
    rw[E,L x y u]
    exact zn h (K (by omega)) (K (by omega)) G.2 (J x (by rw[u];simp)) (J y (by rw[u];simp)) c
   .split at h
    .rename_i G
     rw[E,L x y u]
     exact Cx h (K (by omega)) (K (by omega)) G.2 (J x (by rw[u];simp)) (J y (by rw[u];simp)) c
    .simp at h
  .rename_i x u
   split at h
   .rename_i G
    rw[E,M x u]
    exact DK h (K G) (J x (by rw[u];simp)) c
   .simp at h
  .rename_i x y u
   split at h
   .rename_i G
    rw[E,L x y u]
    exact Dg h (K G) (J x (by rw[u];simp)) (J y (by rw[u];simp)) c
   .simp at h
  .rename_i x y u
   split at h
   .rename_i G
    rw[E,L x y u]
    exact zH h (K G) (J x (by rw[u];simp)) (J y (by rw[u];simp)) c
   .simp at h
  .rename_i x u
   split at h
   .rename_i G
    rw[E,M x u]
    exact Cc h (K G) (J x (by rw[u];simp)) c
   .simp at h
  .exact I h
  .exact I h
  .exact I h
  .exact I h
  .exact I h
  .simp at h
 .rename_i op t x y yt g
  split at h
  .rw[g] at A
   have K:=A x (by simp[Op.operands])
   have C:=A y (by simp[Op.operands])
   have go:∀b,rS P t (ev T x) (ev T y)=some b->ja P w t x y (a.eval x) (a.eval y) b:=λb hb=>DR K C hb
   split at h
   .rename_i b hb
    obtain⟨rfl,rfl,rfl⟩:=h
    obtain⟨g1,g2,g3,_⟩:=go _ hb
    refine⟨.value (.bool b),w,μ,?_,.inl ⟨_,rfl,.val _ rfl⟩,bZ.refl _,dZ⟩
    unfold execOp;rw[g]
    simp only[Sem.run_bind,g2,Result.andThen_ok,g3,g1,Sem.run_pure]
   .rename_i b hb
    obtain⟨rfl,rfl,rfl⟩:=h
    obtain⟨g1,g2,_,g4⟩:=go _ hb
    refine⟨.value (.bool (!b)),w,μ,?_,.inl ⟨_,rfl,.val _ rfl⟩,bZ.refl _,dZ⟩
    unfold execOp;rw[g]
    simp only[Sem.run_bind,g2,Result.andThen_ok,g4,g1,Sem.run_pure]
   .simp at h
  .refine jV h A (λR B=>?_)
   rw[g] at B
   have K:=B x (by simp[Op.operands])
   have C:=B y (by simp[Op.operands])
   unfold execOp;rw[g];simp only[K,C]
 .rename_i op t x g
  refine jV h A (λR B=>?_)
  rw[g] at B
  have K:=B x (by simp[Op.operands])
  unfold execOp;rw[g];simp only[K]
 .rename_i t x y g
  refine jV h A (λR B=>?_)
  rw[g] at B
  have K:=B x (by simp[Op.operands])
  have C:=B y (by simp[Op.operands])
  unfold execOp;rw[g];simp only[K,C]
 .simp at h
end
end Gv
