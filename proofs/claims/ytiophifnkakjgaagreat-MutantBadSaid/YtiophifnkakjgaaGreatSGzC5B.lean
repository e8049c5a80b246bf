/-
  Part 2 of the proof: what the machine does and what the functions answer.
  Conditions: those that each lemma names.
-/
import Derived.Laws.BytesString
import Derived.Laws.IdiomStrings
import Derived.Test.YtiophifnkakjgaaGreatSGzC5A
set_option linter.unusedSimpArgs false
set_option linter.unusedVariables false
set_option maxRecDepth 100000
set_option maxHeartbeats 20000000
namespace Gv
open Go
section
variable {Z:Nat->Prop} {μ μ':Mu} {w w':World} {P:Program} {H:View} {n:Nat} {v:V} {eff:bo} {rd:List Nat}
theorem Uc {t1:TypeId} (a:qQ P t1=true):∃d,P.underlying t1=some d/\∀k,d≠.int k:=by
 unfold qQ at a
 cases hu:P.underlying t1 with
 | none=>simp[hu] at a
 | some d=>refine⟨d,rfl,λk e=>?_⟩;subst e;simp[hu] at a
theorem EU {t0 t1 e:TypeId} {ti:TypeInfo} {b:Array TypeId} {ty:TypeId} {base:Option Addr} {sLen sCap m:Nat} {g:Value} {new:Array Value}
  (h:b[0]?=some t0) (i:b[1]?=some t1) (j:qQ P t1=true) (f:P.underlying t0=some (.slice e)) (l:P.info? e=some ti)
  (o:(Builtin.lenOf g).run P w=.ok m w) (hle:sLen+m<=sCap) (p:(Builtin.firstCells ti.size m g).run P w=.ok new w)
  (c:(match base with | some a=>storeCells (a.add (sLen*ti.size)) new.toList | none=>pure ()).run P w=.ok () w'):
  (Builtin.append_ b ty #[.slice base sLen sCap,g]).run P w=.ok (.slice base (sLen+m) sCap) w':=by
 obtain⟨d,q,n⟩:=Uc j
 cases d with
 | int k=>exact absurd rfl (n k)
 | _ =>
 simp only[Builtin.append_,abp,abb,abv,h,i,Sem.run_bind,bD f,Result.andThen_ok,ec l,bD q,Sem.run_pure,aa9,if_false,o,Bool.not_false,if_true]
 rw[aaL hle]
 simp only[Sem.run_bind,p,Result.andThen_ok]
 cases base with
 | none=>simp only[Sem.run_pure,Result.ok.injEq,true_and] at c;subst c;rfl
 | some a=>simp only[Sem.run_bind,c,Result.andThen_ok,Sem.run_pure]
theorem Ev (v:Value):(gv v).cells.length=v.cells.size:=by
 have h1:∀v,(qe v).cells.length=1:=by
  intro v
  have:∀x:V,(∀cs,x≠.agg cs)->x.cells.length=1:=by
   intro x c
   cases x<;>first | rfl | (rename_i cs;exact absurd rfl (c cs))
  apply this
  intro cs
  cases v with
  | slice a len cap =>
   cases a with
   | none =>
    cases len with
    | zero=>cases cap<;>simp[qe]
    | succ l=>simp[qe]
   | some a=>simp[qe]
  | _=>simp only[qe];split<;>simp
 cases v with
 | agg cs=>simp[gv,V.cells,Value.cells]
 | func fn a b =>
  cases fn with
  | func f=>simp only[gv];split<;>simp[V.cells,Value.cells]
  | _=>simp only[gv];rw[h1];rfl
 | _=>simp only[gv];rw[h1];rfl
theorem Rq {e:TypeId} {ti:TypeInfo} (b:P.info? e=some ti) (d:(zeroCells P e).map List.length=some ti.size):∃g:Array Value,g.size=ti.size/\∀w',∃c,(zeroValue e).run P w'=.ok c w'/\c.cells=g:=by
 cases a:zeroCells P e with
 | none=>simp[a] at d
 | some z =>
  obtain⟨c,f,rfl⟩:=jJ b a
  refine⟨c.cells,?_,λw'=>⟨c,kZ b f w',rfl⟩⟩
  rw[a] at d
  simp at d
  rw[<-d,Ev]
theorem fT (w:World):w.drew.heap=w.heap:=rfl
theorem iH (w:World) (o:Obj):eX w (w.drew.alloc o):=⟨rfl,rfl,rfl,by rw[heap_alloc,fT];simp⟩
theorem oP {l r:List (List V)} {i:Nat} (h:i<l.length):(l++r).getD i []=l.getD i []:=by
 simp[abf h]
theorem nL {l r:List (List V)} {i:Nat} (h:l.length<=i):(l++r).getD i []=r.getD (i-l.length) []:=by
 simp[abN h]
theorem IJ {e:TypeId} {size:Nat} {ys xs:List (List V)} {old f rest:Array Value} (k:μ n=none) (df:∀b,Z b->b<w.heap.size)
  (h1:Flat Z μ w.heap size ys old) (h:Flat Z μ w.heap size xs f) (s1:∀e∈ys,e.length=size) (s2:∀e∈xs,e.length=size):
  eP Z (μ.set n (w.heap.size,0,size)) (w.heap.push (.cells (old++f++rest) e (0,0))) n (.arr size (ys++xs)):=by
 refine eP.newRow k df ?_ ?_ ?_
 .simp[h1.len,h.len,abq]
 .intro i hi
  by_cases d:i<ys.length
  .rw[oP d]
   simp only[aaG,aaH d,aaZ]
   exact s1 _ (aaP _)
  .have c:i-ys.length<xs.length:=by simp at hi;omega
   rw[nL (by omega)]
   simp only[aaG,aaH c,aaZ]
   exact s2 _ (aaP _)
 .intro i j hi g
  by_cases d:i<ys.length
  .have a:i*size+j<old.size:=by rw[h1.len];exact gN d g
   refine⟨old[i*size+j],?_,?_⟩
   .rw[abE (by simp;omega),abE a,aa3 a]
   .rw[oP d]
    have:=h1.rel i j d g
    simpa only [aaW,aa3 a,aaZ] using this
  .have c:i-ys.length<xs.length:=by simp at hi;omega
   have a:(i-ys.length)*size+j<f.size:=by rw[h.len];exact gN c g
   have l:i*size+j-old.size=(i-ys.length)*size+j:=by
    rw[h1.len,Nat.sub_mul]
    have:ys.length*size<=i*size:=abm _ (by omega)
    omega
   have m:old.size<=i*size+j:=by
    rw[h1.len]
    have:ys.length*size<=i*size:=abm _ (by omega)
    omega
   refine⟨f[(i-ys.length)*size+j],?_,?_⟩
   .rw[abE (by simp;omega),Array.getElem?_append_right m,l,aa3 a]
   .rw[nL (by omega)]
    have:=h.rel _ j c g
    simpa only [aaW,aa3 a,aaZ] using this
theorem OT {size:Nat} {xs:List (List V)} (h:(xs.all λe=>e.length==size&&e.all aL)=true):(∀e∈xs,e.length=size)/\∀e∈xs,e.all aL=true:=by
 refine⟨λe he=>?_,λe he=>?_⟩
 .have:=abc.1 h e he
  simp only[aaR,abJ] at this
  exact this.1
 .have:=abc.1 h e he
  simp only[aaR,abJ] at this
  exact this.2
theorem mS {ad:Option Addr} {len cap size:Nat} : (Builtin.firstCells size 0 (.slice ad len cap)).run P w=.ok #[] w:=by
 cases ad with
 | none=>simp[Builtin.firstCells]
 | some a=>simp[Builtin.firstCells,loadCells,loadCellsFrom]
theorem Bx {x:V} {b:Value} {xs:List (List V)} {size:Nat} (he:bM H x=some (xs,rd)) (a:aD Z μ w.heap x b):
  (Builtin.lenOf b).run P w=.ok xs.length w/\(Builtin.firstCells size 0 b).run P w=.ok #[] w:=by
 unfold bM at he
 split at he
 .simp only[aaK,aaN] at he
  obtain⟨rfl,_⟩:=he
  obtain⟨ad,cap,rfl,_⟩:=eF a rfl
  exact⟨rfl,mS⟩
 .simp only[aaK,aaN] at he
  obtain⟨rfl,_⟩:=he
  obtain⟨ad,cap,rfl,_⟩:=eF a rfl
  exact⟨rfl,mS⟩
 .simp only[aaK,aaN] at he
  obtain⟨rfl,_⟩:=he
  obtain⟨ad,cap,rfl,_⟩:=eF a rfl
  exact⟨rfl,mS⟩
 .simp only[aaK,aaN] at he
  obtain⟨rfl,_⟩:=he
  obtain⟨ad,cap,rfl,_⟩:=eF a rfl
  exact⟨rfl,mS⟩
 .split at he
  .split at he
   .rename_i hle
    simp only[aaK,aaN] at he
    obtain⟨rfl,_⟩:=he
    obtain⟨ad,cap,rfl,_⟩:=eF a rfl
    refine⟨?_,mS⟩
    rw[abL,List.length_drop,Nat.min_eq_left (by omega)];rfl
   .simp at he
  .simp at he
 .rename_i str
  simp only[aaK,aaN] at he
  obtain⟨rfl,_⟩:=he
  have c:=fc a
  subst c
  refine⟨by rw[aaM,bsize];rfl,?_⟩
  have:(str.extract 0 0).data = #[]:=by rw[ByteArray.data_extract];simp
  simp[Builtin.firstCells]
 .simp at he
theorem kx (a:Array Value) {k:Nat} (h:a.size=k):a.extract 0 k=a:=by subst h;simp
theorem IE {t0 t1 e:TypeId} {ti:TypeInfo} {f:Array TypeId} {ty:TypeId} {base:Option Addr} {sLen sCap:Nat} {x:V} {F:Value} {xs ys:List (List V)} {g:List Nat} {old:Array Value}
  (r:f[0]?=some t0) (s:f[1]?=some t1) (t:qQ P t1=true) (j:P.underlying t0=some (.slice e)) (k:P.info? e=some ti) (u:(zeroCells P e).map List.length=some ti.size)
  (he:bM H x=some (xs,g)) (G:aD Z μ w.heap x F) (M:μ n=none) (c:Ctx Z μ w.heap H rd n eff) (v:∀id,id∈g->id∈rd) (y:∀e∈xs,e.length=ti.size) (z:ys.length=sLen) (A:sCap<sLen+xs.length)
  (B:(sLen+xs.length)*ti.bytes<aF) (C:sLen+xs.length<aF) (hold:Flat Z μ w.heap ti.size ys old) (D:∀e∈ys,e.length=ti.size)
  (N:(Builtin.firstCells ti.size sLen (.slice base sLen sCap)).run P w.drew=.ok old w.drew):
  ∃I w',(Builtin.append_ f ty #[.slice base sLen sCap,F]).run P w=.ok I w'/\aD Z (μ.set n (w.heap.size,0,ti.size)) w'.heap (.sl n 0 (sLen+xs.length) ti.size) I/\eX w w' /\
   w.heap.size<w'.heap.size/\gU w.heap w'.heap (λ_=>False)/\eP Z (μ.set n (w.heap.size,0,ti.size)) w'.heap n (.arr ti.size (ys++xs)):=by
 obtain⟨J,l,E⟩:=Rq k u
 have d:∀id,id∈g->eP Z μ w.heap id (H id):=λid h=>c.obj id (v id h)
 obtain⟨Q,O,hlen,q⟩:=sg (P:=P) he G d y
 obtain⟨m,a,_,b⟩:=sg (P:=P) (w:=w.drew) he G d y
 have K:=b _ (aaQ _)
 rw[kx m a.len] at K
 obtain⟨cap,o,p⟩:=MU (P:=P) (w:=w) (ty:=ty) r s t j k hlen A B C E N K
 refine⟨_,_,p,?_,iH _ _,by rw[heap_alloc,fT];simp,by rw[heap_alloc,fT];exact fH _ _,by rw[heap_alloc,fT];exact IJ M c.df hold a D y⟩
 rw[heap_alloc,fT]
 have i:(Builtin.zeroCells J (cap-(sLen+xs.length))).size=(cap-(sLen+xs.length))*ti.size:=by simp[Builtin.zeroCells,l]
 have L:cap*ti.size=sLen*ti.size+xs.length*ti.size+(cap-(sLen+xs.length))*ti.size:=by
  rw[<-abq,<-abq];congr 1;omega
 have:=aD.sl (Z:=Z) (μ:=μ.set n (w.heap.size,0,ti.size)) (hp:=w.heap.push (.cells (old++m++Builtin.zeroCells J (cap-(sLen+xs.length))) e (0,0))) n 0 (sLen+xs.length) ti.size w.heap.size 0 cap _ e (0,0) (by simp[Mu.set]) o (by simp;rfl)
  (by simp only[Array.size_append,hold.len,a.len,i,z,abx];omega)
 simpa using this
theorem Vs {b o0 s:Nat} {c d:Array Value} {e:TypeId} {f:Nat × Nat} (i:μ n=none) (df:∀b,Z b->b<w.heap.size) (j:¬ Z b) (l:w.heap[b]?=some (.cells c e f)) (m:d.size=c.size):
  iP Z Z μ (μ.set n (b,o0,s)) w.heap (w.heap.setIfInBounds b (.cells d e f)):=by
 refine⟨λ_ h=>h,λk hk=>dM w.heap b _ k (df k hk) (λe=>j (e▸hk)),λid x g=>?_,jY l m⟩
 by_cases a:id=n
 .subst a;simp[i] at g
 .simp[Mu.set,a,g]
theorem UI {t0 t1 e:TypeId} {ti:TypeInfo} {u:Array TypeId} {ty:TypeId} {x:V} {xv:Value} {xs es:List (List V)} {A:List Nat} {id off len b o0 cap:Nat} {cc:Array Value} {e':TypeId} {f:Nat × Nat}
  (N:u[0]?=some t0) (O:u[1]?=some t1) (Q:qQ P t1=true) (B:P.underlying t0=some (.slice e)) (R:P.info? e=some ti)
  (he:bM H x=some (xs,A)) (hx:aD Z μ w.heap x xv) (hn:μ n=none) (c:Ctx Z μ w.heap H rd n eff) (S:∀id,id∈A->id∈rd) (T:∀e∈xs,e.length=ti.size) (U:∀e∈xs,e.all aL=true)
  {C:Nat} (_:H id=.arr C es) (W:eP Z μ w.heap id (.arr ti.size es)) (hm:μ id=some (b,o0,ti.size)) (ab:off+len<=es.length) (hle:len<=cap)
  (a:w.heap[b]?=some (.cells cc e' f)) (ae:o0+(off+cap)*ti.size<=cc.size) (d:len+xs.length<=cap):
  bq Z μ w n (.sl n 0 (len+xs.length) ti.size) (.eR id (.arr ti.size ((es.drop off).take len++xs)))
   ((do pure (Next.value (<-Builtin.append_ u ty #[.slice (some ⟨b,o0+off*ti.size,none⟩) len cap,xv])):Sem Next).run P w):=by
 obtain⟨_,⟨c2,e2,f2,v,D,al⟩,h3,h4⟩:=W b o0 ti.size hm
 rw[a] at v
 simp only[aaK,Obj.cells.injEq] at v
 obtain⟨rfl,rfl,rfl⟩:=v
 obtain⟨E,g,hlen,o⟩:=sg (P:=P) he hx (λid h=>c.obj id (S id h)) T
 have h5:=o _ (aaQ _)
 rw[kx E g.len] at h5
 have hz:=c.ix _ _ _ _ hm
 have hmul:(off+cap)*ti.size=off*ti.size+cap*ti.size:=abq _ _ _
 have X:len*ti.size+xs.length*ti.size<=cap*ti.size:=by rw[<-abq];exact abm _ d
 have r:E.toList.length=xs.length*ti.size:=by rw[Array.length_toList,g.len]
 obtain⟨F,Y,k,z⟩:=xH (P:=P) (off:=o0+off*ti.size+len*ti.size) a (sF D) E.toList (by rw[r];omega) (Er g T U)
 have G:=fC a
 have I:=Vs (o0:=o0+off*ti.size) (s:=ti.size) hn c.df hz a k
 have J:((es.drop off).take len).length=len:=by simp;omega
 have t:∀i,i<len->((es.drop off).take len++xs).getD i []=es.getD (off+i) []:=by
  intro i hi
  rw[oP (by omega)]
  simp[hi]
 have l:∀i,len<=i->((es.drop off).take len++xs).getD i []=xs.getD (i-len) []:=by
  intro i hi
  rw[nL (by omega),J]
 refine bq.value (w':={ w with heap:=w.heap.setIfInBounds b (.cells F e' f) }) (μ':=μ.set n (b,o0+off*ti.size,ti.size)) (EU N O Q B R hlen d h5 (by simpa only [kE] using Y)) ?_ ⟨rfl,rfl,rfl,by simp⟩ ?_
 .have:=aD.sl (Z:=Z) (μ:=μ.set n (b,o0+off*ti.size,ti.size)) (hp:=w.heap.setIfInBounds b (.cells F e' f)) n 0 (len+xs.length) ti.size b (o0+off*ti.size) cap F e' f (by simp[Mu.set]) d (eW G) (by rw[k,abx];omega)
  simpa using this
 .refine⟨b,o0+off*ti.size,ti.size,rfl,?_,.inr ⟨⟨o0,ti.size,hm⟩,dM _ _ _,jY a k⟩⟩
  intro b1 q1 s1 K
  simp only[Mu.set,if_true,aaK,aaN] at K
  obtain⟨rfl,rfl,rfl⟩:=K
  have m:((es.drop off).take len++xs).length=len+xs.length:=by rw[aa5,J]
  refine⟨rfl,⟨F,e',f,eW G,by rw[k];exact D,by rw[m,k,abq];omega⟩,?_,?_⟩
  .intro i hi
   rw[m] at hi
   by_cases p:i<len
   .rw[t i p];exact h3 _ (by omega)
   .rw[l i (by omega)]
    have q:i-len<xs.length:=by omega
    simp only[aaG,aaH q,aaZ]
    exact T _ (aaP _)
  .intro i j hi M
   rw[m] at hi
   show ∃y,cellAt (w.heap.setIfInBounds b (.cells F e' f)) b (o0+off*ti.size+i*ti.size+j)=some y/\_
   rw[z,r]
   by_cases p:i<len
   .have h6:i*ti.size+j<len*ti.size:=gN p M
    rw[aaI (by omega),t i p]
    obtain⟨y,hy,hv⟩:=h4 (off+i) j (by omega) M
    rw[abq] at hy
    exact⟨y,by rw[<-hy];congr 1;omega,hv.mono I⟩
   .have q:i-len<xs.length:=by omega
    have h6:(i-len)*ti.size+j<xs.length*ti.size:=gN q M
    have h7:i*ti.size=len*ti.size+(i-len)*ti.size:=by rw[<-abq];congr 1;omega
    rw[aaL (by omega),l i (by omega)]
    have L:(i-len)*ti.size+j<E.size:=by rw[g.len];exact h6
    refine⟨E[(i-len)*ti.size+j],?_,?_⟩
    .rw[show o0+off*ti.size+i*ti.size+j-(o0+off*ti.size+len*ti.size)=(i-len)*ti.size+j from by omega]
     simp[L]
    .have:=(g.rel _ j q M).mono I
     simpa only [aaW,aa3 L,aaZ] using this
theorem Py {t0 t1:TypeId} {o:Array TypeId} {ty:TypeId} {s x:V} {I Q:Value} (h:pC P t0 s x H n=some (v,eff,rd)) (r:o[0]?=some t0) (t:o[1]?=some t1) (u:qQ P t1=true)
  (R:aD Z μ w.heap s I) (S:aD Z μ w.heap x Q) (c:Ctx Z μ w.heap H rd n eff):
  bq Z μ w n v eff ((do pure (Next.value (<-Builtin.append_ o ty #[I,Q])):Sem Next).run P w):=by
 unfold pC at h
 split at h
 .rename_i e xs a1 hu he
  have k:P.underlying t0=some (.slice e):=by
   unfold de at hu;split at hu<;>simp_all
  split at h
  .simp at h
  .rename_i ti y
   split at h
   .rename_i d
    have d:xs=[]:=by simpa using d
    subst d
    have fin:∀m,cE s=some m->some (s,bo.none,([]:List Nat))=some (v,eff,rd)->bq Z μ w n v eff ((do pure (Next.value (<-Builtin.append_ o ty #[I,Q])):Sem Next).run P w):=by
     intro m hm heq
     simp only[aaK,aaN] at heq
     obtain⟨rfl,rfl,rfl⟩:=heq
     obtain⟨ad,cap,rfl,hle⟩:=eF R hm
     have z:=Bx (P:=P) (size:=ti.size) he S
     refine bq.here (EU r t u k y z.1 (by omega) z.2 ?_) R
     cases ad<;>simp[storeCells]
    split at h
    .exact fin 0 rfl h
    .exact fin 0 rfl h
    .exact fin _ rfl h
    .exact fin _ rfl h
    .simp at h
   .rename_i d
    have d:xs≠[]:=by simpa using d
    have an:0<xs.length:=acO.2 d
    split at h
    .simp at h
    .rename_i p
     simp only[not_or,Classical.not_not] at p
     obtain⟨aq,J,K⟩:=p
     obtain⟨U,W⟩:=OT K
     split at h
     .split at h
      .rename_i X
       obtain⟨C,D⟩:=X
       simp only[aaK,aaN] at h
       obtain⟨rfl,rfl,rfl⟩:=h
       cases R with
       | emp _ ad =>
        obtain⟨xr,w',q,T,g,E,hold,a⟩:=IE (n:=n) (ty:=ty) (base:=ad) (sLen:=0) (sCap:=0) (ys:=[]) (old:=#[]) r t u k y J he S c.new c (λid h=>h) U rfl (by omega) (by simpa using C) (by simpa using D)
         ⟨by simp,λi j hi=>by simp at hi⟩ (by simp) (by simpa using uL (w:=w.drew) (ad:=ad) (cap:=0) (aaQ 0))
        simp only[abx] at T
        exact bq.value q T g ⟨w.heap.size,0,ti.size,aaQ _,E,rfl,hold,a⟩
      .simp at h
     .rename_i id off len esz
      split at h
      .rename_i ar es hH
       split at h
       .rename_i X
        obtain⟨L,rfl,C,D⟩:=X
        simp only[aaK,aaN] at h
        obtain⟨rfl,rfl,rfl⟩:=h
        have a:=c.obj id (by simp)
        rw[hH] at a
        have grow:∀base sCap (old:Array Value),I=.slice base len sCap->sCap<len+xs.length->Flat Z μ w.heap ti.size ((es.drop off).take len) old->(∀e∈(es.drop off).take len,e.length=ti.size) ->
          (Builtin.firstCells ti.size len (.slice base len sCap)).run P w.drew=.ok old w.drew ->
          bq Z μ w n (.sl n 0 (len+xs.length) ti.size) (.eR id (.arr ti.size ((es.drop off).take len++xs))) ((do pure (Next.value (<-Builtin.append_ o ty #[I,Q])):Sem Next).run P w):=by
         intro base sCap old Y ab ae A ho
         subst Y
         have hlen:((es.drop off).take len).length=len:=by simp;omega
         obtain⟨xr,w',q,T,g,E,hold,a⟩:=IE (n:=n) (ty:=ty) r t u k y J he S c.new c (λi h=>aa6 _ h) U hlen ab C D ae A ho
         exact bq.value q T g ⟨w.heap.size,0,ti.size,rfl,a,.inl ⟨aaQ _,E,hold⟩⟩
        cases R with
        | qq _ _ _ ad =>
         refine grow ad 0 #[] rfl (by omega) ⟨by simp,λi j hi=>by simp at hi⟩ (by simp) (by simpa using uL (w:=w.drew) (ad:=ad) (cap:=0) (aaQ 0))
        | sl _ _ _ _ b o0 cap cc e' f hm hle F M =>
         have hlen:((es.drop off).take len).length=len:=by simp;omega
         obtain⟨heq,⟨c2,e2,f2,G,a6,a7⟩,h3,h4⟩:=a b o0 ti.size hm
         subst heq
         rw[F] at G
         simp only[aaK,Obj.cells.injEq] at G
         obtain⟨rfl,rfl,rfl⟩:=G
         have A:∀e∈(es.drop off).take len,e.length=ti.size:=by
          intro e al
          obtain⟨i,hi,rfl⟩:=acx (List.mem_of_mem_drop (aci al))
          have:=h3 i hi
          simpa [aaG,hi] using this
         by_cases N:len+xs.length<=cap
         .exact UI r t u k y he S c.new c (λi h=>aa6 _ h) U W hH a hm L hle F M N
         .by_cases O:len=0
          .subst O
           exact grow _ cap #[] rfl (by omega) ⟨by simp,λi j hi=>by simp at hi⟩ (by simp) (by simpa using uL (w:=w.drew) (ad:=some ⟨b,o0+off*ti.size,none⟩) (cap:=cap) (aaQ 0))
          .have z:bM H (.sl id off len ti.size)=some ((es.drop off).take len,[id]):=by
            cases len with
            | zero=>exact absurd rfl O
            | succ l=>simp[bM,hH,L]
           obtain⟨old,hold,_,B⟩:=sg (P:=P) (w:=w.drew) (Z:=Z) (μ:=μ) z (aD.sl id off len ti.size b o0 cap cc e' f hm hle F M) (λi hi=>by
            simp at hi;subst hi;rw[hH];exact a) A
           have h5:=B len (by omega)
           rw[kx old (by rw[hold.len,hlen])] at h5
           exact grow _ cap old rfl (by omega) hold A h5
       .simp at h
      .simp at h
     .simp at h
 .simp at h
theorem W8 {t0:TypeId} {a:Array TypeId} {ty:TypeId} {x:V} {f:Value} (h:He P t0 x=some (v,eff,rd)) (d:a[0]?=some t0)
  (g:aD Z μ w.heap x f) (c:Ctx Z μ w.heap H rd n eff):
  bq Z μ w n v eff ((do pure (Next.value (<-Builtin.cap_ a ty #[f])):Sem Next).run P w):=by
 unfold He at h
 split at h
 .rename_i e k hu
  have b:P.underlying t0=some (.slice e):=by
   unfold de at hu;split at hu<;>simp_all
  simp only[aaK,aaN] at h
  obtain⟨rfl,rfl,rfl⟩:=h
  cases g with
  | emp _ ad =>
   refine bq.here (x:=goInt 0) ?_ (.val _ rfl)
   simp only[Builtin.cap_,abp,abb,d,Sem.run_bind,bD b,Result.andThen_ok,Sem.run_pure]
   rfl
 .simp at h
theorem J9 {t0 t1 e:TypeId} {ti:TypeInfo} {k:IntKind} {b:Array TypeId} {ty:TypeId} {base:Option Addr} {m:Nat} {k2:IntKind} {j:Value}
  (l:b[0]?=some t0) (n:b[1]?=some t1) (s:P.underlying t1=some (.int k)) (d:P.underlying t0=some (.slice e)) (c:P.info? e=some ti)
  (o:0<m) (t:m*ti.bytes<aF) (p:m<aF) (q:m*ti.size≠0) (u:∀w',(zeroValue e).run P w'=.ok j w'):
  ∃cap,m<=cap/\(Builtin.append_ b ty #[.slice base 0 0,.int k2 (m:Int)]).run P w =
   .ok (.slice (some ⟨w.heap.size,0,none⟩) m cap) (w.drew.alloc (.cells (#[]++Builtin.zeroCells j.cells m++Builtin.zeroCells j.cells (cap-m)) e)):=by
 have r:=IB
 have f:=growslice_fits (old:=0) o (show m*ti.bytes<=140737488355328 by omega)
 have g:¬ ((m:Int)>IntKind.i64.max):=by
  have:IntKind.i64.max=9223372036854775807:=by decide
  rw[this];omega
 have h:¬ (Builtin.nextslicecap m 0*ti.bytes>2 ^ 48):=by
  have:(2:Nat) ^ 48=281474976710656:=by decide
  rw[this];exact Nat.not_lt.2 f
 have v:IntKind.i64.wrap (m:Int)=m:=wrap_small p
 have g1:¬ ((m:Int)<0):=by omega
 have g2:¬ ((m:Int)*(ti.bytes:Int)>2 ^ 48):=by
  have:((m*ti.bytes:Nat):Int)<2 ^ 48:=by omega
  push_cast at this;omega
 refine⟨Question.cut (.appendCap m 0 e) (w.tape w.drawn (.appendCap m 0 e)),Nat.le_add_right _ _,?_⟩
 have i:Question.forced (.appendCap m 0 e)=false:=rfl
 have a:∀w':World,(Builtin.firstCells ti.size 0 (.slice base 0 0)).run P w'=.ok #[] w':=λw'=>mS
 simp only[Builtin.append_,abp,abb,abv,l,n,Sem.run_bind,bD d,Result.andThen_ok,ec c,bD s,Sem.run_pure,if_true,asInt,asIntOf,v,abk,Sem.run_ite,g1,g2,if_false,r5 c,abx]
 rw[aaI (by omega)]
 simp only[g,false_and,if_false,Sem.run_bind,Result.andThen_ok,Sem.run_pure,h,run_choose,i,aa9,World.drew_eq,run_askRoom,a,q,u,acN,newRow,run_newObj,World.alloc_eq]
 rfl
theorem Fb {ti:TypeInfo} {z:List V} {a:Value} {m:Nat} (hr:gG Z μ w.heap z a.cells.toList) (b:z.length=ti.size):Flat Z μ w.heap ti.size (List.replicate m z) (Builtin.zeroCells a.cells m):=by
 have c:a.cells.size=ti.size:=by rw[<-b,hr.1];simp
 refine⟨by simp[Builtin.zeroCells,c],λi j hi e=>?_⟩
 simp only[acF] at hi
 have f:i*ti.size+j<m*ti.size:=gN hi e
 have d:(i*ti.size+j) % ti.size=j:=by
  rw[Nat.mul_comm,Nat.mul_add_mod];exact Nat.mod_eq_of_lt e
 have h1:=hr.2 j (by rw[b];exact e)
 have g:(List.replicate m z).getD i []=z:=by simp[hi]
 have h:(Builtin.zeroCells a.cells m).getD (i*ti.size+j) undef=a.cells.toList.getD j undef:=by
  simp[Builtin.zeroCells,c,f,d,getElem!_pos a.cells j (by omega)]
  rw[aa3 (by omega)];rfl
 rw[g,h]
 exact h1
theorem Vg {t0 t1:TypeId} {f:Array TypeId} {ty:TypeId} {s x:V} {N O:Value} (h:uD P t0 s x n=some (v,eff,rd)) (r:f[0]?=some t0) (t:f[1]?=some t1) (g:isInt P t1=true)
  (Q:aD Z μ w.heap s N) (u:aD Z μ w.heap x O) (c:Ctx Z μ w.heap H rd n eff):
  bq Z μ w n v eff ((do pure (Next.value (<-Builtin.append_ f ty #[N,O])):Sem Next).run P w):=by
 unfold uD at h
 split at h
 .rename_i e l k hu S
  have b:P.underlying t0=some (.slice e):=by
   unfold de at hu;split at hu<;>simp_all
  have q:∃d,P.underlying t1=some (.int d):=by
   unfold isInt at g;split at g
   .rename_i d q;exact⟨d,q⟩
   .simp at g
  obtain⟨d,q⟩:=q
  obtain⟨T,rfl⟩:=mD S
  have u:=fc u
  subst u
  split at h
  .rename_i ti z a U
   split at h
   .rename_i R
    subst R
    simp only[aaK,aaN] at h
    obtain⟨rfl,rfl,rfl⟩:=h
    cases Q with
    | emp _ ad W G =>
     refine bq.here (x:=.slice ad 0 0) ?_ (.emp _ ad W G)
     have X:IntKind.i64.wrap ((0:Nat):Int)=0:=by decide
     have g2:¬ ((0:Int)*(ti.bytes:Int)>2 ^ 48):=by rw[Int.zero_mul];decide
     simp only[Builtin.append_,abp,abb,abv,r,t,Sem.run_bind,bD b,Result.andThen_ok,ec a,bD q,Sem.run_pure,if_true,asInt,asIntOf,X,Sem.run_ite,Int.lt_irrefl,g2,if_false,r5 a,abx,Int.toNat_zero,aaQ,Nat.zero_mul,acN,aa9]
     cases ad<;>simp[storeCells]
   .rename_i R
    split at h
    .rename_i G
     obtain⟨o,y,Y,I,J⟩:=G
     simp only[aaK,aaN] at h
     obtain⟨rfl,rfl,rfl⟩:=h
     obtain⟨p,K,rfl⟩:=jJ a U
     cases Q with
     | emp _ ad =>
      have A:l*ti.size≠0:=by
       intro h;rcases Nat.mul_eq_zero.1 h with h | h<;>contradiction
      obtain⟨cap,B,C⟩:=J9 (P:=P) (w:=w) (ty:=ty) (base:=ad) (k2:=T) r t q b a (by omega) I J A (λw'=>kZ a K w')
      have hr:=iC (iB (Z:=Z) (μ:=μ) (w:=w) p) y
      have D:p.cells.size=ti.size:=by rw[<-o,hr.1];simp
      have L:=Fb (m:=l) (ti:=ti) hr o
      have M:(Builtin.zeroCells p.cells l).size=l*ti.size:=by simp[Builtin.zeroCells,D]
      have E:(Builtin.zeroCells p.cells (cap-l)).size=(cap-l)*ti.size:=by simp[Builtin.zeroCells,D]
      have F:cap*ti.size=l*ti.size+(cap-l)*ti.size:=by rw[<-abq];congr 1;omega
      refine bq.value (μ':=μ.set n (w.heap.size,0,ti.size)) C ?_ (iH _ _) ?_
      .rw[heap_alloc,fT]
       have:=aD.sl (Z:=Z) (μ:=μ.set n (w.heap.size,0,ti.size)) (hp:=w.heap.push (.cells (#[]++Builtin.zeroCells p.cells l++Builtin.zeroCells p.cells (cap-l)) e (0,0))) n 0 l ti.size w.heap.size 0 cap _ e (0,0) (by simp[Mu.set]) B (by simp;rfl)
        (by simp only[Array.size_append,M,E,abx]; (try simp);exact Nat.le_of_eq F)
       simpa using this
      .refine⟨w.heap.size,0,ti.size,aaQ _,by rw[heap_alloc,fT];simp,rfl,by rw[heap_alloc,fT];exact fH _ _,?_⟩
       rw[heap_alloc,fT]
       have:=IJ (e:=e) (rest:=Builtin.zeroCells p.cells (cap-l)) c.new c.df (ys:=[]) (old:=#[]) ⟨by simp,λi j hi=>by simp at hi⟩ L (by simp) (λx u=>by rw[(List.mem_replicate.1 u).2];exact o)
       simpa using this
    .simp at h
  .simp at h
 .simp at h
theorem jw:∀(ys es:List (List V)) (i:Nat),(eQ es i ys).length=es.length
 | [],_,_=>rfl
 | y::ys,es,i=>by rw[eQ,jw ys];simp
theorem tP:∀(ys es:List (List V)) (i k:Nat),i+ys.length<=es.length->(eQ es i ys).getD k []=if i<=k/\k<i+ys.length then ys.getD (k-i) [] else es.getD k []
 | [],es,i,k,_=>by rw[aaI (by simp only[abe];omega)];rfl
 | y::ys,es,i,k,h=>by
  simp only[aaS] at h
  rw[eQ,tP ys _ _ _ (by simp;omega)]
  simp only[aaS]
  by_cases h1:i=k
  .subst h1
   rw[aaI (by omega),aaL (by omega)]
   simp[show i<es.length by omega]
  .by_cases a:i+1<=k/\k<i+1+ys.length
   .rw[aaL a,aaL (by omega),show k-i=(k-(i+1))+1 from by omega]
    simp
   .rw[aaI a,aaI (by omega)]
    simp[h1]
theorem VA {t0:TypeId} {t:Array TypeId} {ty:TypeId} {d x:V} {dv D:Value} (h:zt P t0 d x H=some (v,eff,rd)) (U:t[0]?=some t0)
  (hd:aD Z μ w.heap d dv) (hx:aD Z μ w.heap x D) (c:Ctx Z μ w.heap H rd n eff):
  bq Z μ w n v eff ((do pure (Next.value (<-Builtin.copy_ t ty #[dv,D])):Sem Next).run P w):=by
 unfold zt at h
 split at h
 .rename_i e xs a8 dl hu he u
  have E:P.underlying t0=some (.slice e):=by
   unfold de at hu;split at hu<;>simp_all
  obtain⟨ad,cap,rfl,ar⟩:=eF hd u
  have run:∀(new:Array Value) w' ti,P.info? e=some ti->(Builtin.lenOf D).run P w=.ok xs.length w->(Builtin.firstCells ti.size (Nat.min xs.length dl) D).run P w=.ok new w ->
    (match ad with | some a=>storeCells a new.toList | none=>pure ()).run P w=.ok () w' ->
    (Builtin.copy_ t ty #[.slice ad dl cap,D]).run P w=.ok (goInt (Nat.min xs.length dl:Nat)) w':=by
   intro new w' ti o h1 h2 F
   simp only[Builtin.copy_,abp,abb,abv,U,Sem.run_bind,bD E,Result.andThen_ok,ec o,h1,h2]
   cases ad with
   | none=>simp only[Sem.run_pure,Result.ok.injEq,true_and] at F;subst F;rfl
   | some a=>simp only[Sem.run_bind,F,Result.andThen_ok,Sem.run_pure]
  split at h
  .simp at h
  .rename_i ti o
   split at h
   .rename_i G
    simp only[aaK,aaN] at h
    obtain⟨rfl,rfl,rfl⟩:=h
    have I:=Bx (P:=P) (size:=ti.size) he hx
    have g:Nat.min xs.length dl=0:=by
     have:(xs.take dl).length=0:=by rw[List.isEmpty_iff.1 G];rfl
     rw[abL] at this
     show min _ _=0;omega
    have:=run #[] w ti o I.1 (by rw[g];exact I.2) (by cases ad<;>simp[storeCells])
    rw[g] at this
    exact bq.here this (aD.val _ rfl)
   .rename_i W
    split at h
    .rename_i id off len esz
     split at h
     .rename_i a1 es hH
      split at h
      .rename_i hb
       obtain⟨bd,rfl,a6,J⟩:=hb
       obtain⟨X,Y⟩:=OT J
       simp only[aaK,aaN] at h
       obtain⟨rfl,rfl,rfl⟩:=h
       simp only[cE,aaK] at u
       subst u
       have K:=c.obj id (by simp)
       rw[hH] at K
       have g:(xs.take len).length=Nat.min xs.length len:=by rw[abL,Nat.min_comm]
       have L:0<(xs.take len).length:=acO.2 (by simpa using W)
       cases hd with
       | qq=>simp at L
       | sl _ _ _ _ b o0 _ cc e' f hm _ m bl =>
        obtain⟨heq,⟨c2,e2,f2,z,M,ab⟩,F,h4⟩:=K b o0 ti.size hm
        subst heq
        rw[m] at z
        simp only[aaK,Obj.cells.injEq] at z
        obtain⟨rfl,rfl,rfl⟩:=z
        obtain⟨ae,N,hlen,p⟩:=sg (P:=P) he hx (λid h=>c.obj id (aa6 _ h)) X
        have h5:=p (Nat.min xs.length len) (Nat.min_le_left _ _)
        have l:=Rh N (Nat.min xs.length len) (Nat.min_le_left _ _)
        have al:xs.take (Nat.min xs.length len)=xs.take len:=by
         rw[List.take_eq_take_iff];show min (min xs.length len) xs.length=min len xs.length;omega
        rw[al] at l
        generalize ae.extract 0 (Nat.min xs.length len*ti.size)=O at h5 l
        have s:O.toList.length=(xs.take len).length*ti.size:=by rw[Array.length_toList,l.len]
        have a7:(xs.take len).length<=len:=by rw[abL];omega
        have A:(off+(xs.take len).length)*ti.size<=es.length*ti.size:=abm _ (by omega)
        rw[abq] at A
        have hz:=c.ix _ _ _ _ hm
        obtain⟨c',an,q,B⟩:=xH (P:=P) (off:=o0+off*ti.size) m (sF M) O.toList (by rw[s];omega) (Er l (λe he=>X e (aci he)) (λe he=>Y e (aci he)))
        have aq:=fC m
        have Q:iP Z Z μ μ w.heap (w.heap.setIfInBounds b (.cells c' e' f)):=
         ⟨λ_ h=>h,λk hk=>dM w.heap b _ k (c.df k hk) (λe=>hz (e▸hk)),λ_ _ h=>h,jY m q⟩
        refine bq.value (μ':=μ) (run O _ ti o hlen h5 an) ?_ ⟨rfl,rfl,rfl,by simp⟩ ?_
        .rw[g];exact aD.val _ rfl
        .refine⟨b,o0,ti.size,hm,rfl,dM _ _ _,jY m q,?_⟩
         intro b1 q1 s1 C
         rw[hm] at C
         simp only[aaK,aaN] at C
         obtain⟨rfl,rfl,rfl⟩:=C
         have R:=λk=>tP (xs.take len) es off k (by omega)
         refine⟨rfl,⟨c',e',f,eW aq,by rw[q];exact M,by rw[jw,q];exact ab⟩,?_,?_⟩
         .intro i hi
          rw[jw] at hi
          rw[R]
          split
          .have r:i-off<(xs.take len).length:=by omega
           simp only[aaG,aaH r,aaZ]
           exact X _ (aci (aaP _))
          .exact F i hi
         .intro i j hi hj
          rw[jw] at hi
          show ∃y,cellAt (w.heap.setIfInBounds b (.cells c' e' f)) b (o0+i*ti.size+j)=some y/\_
          rw[B,s,R]
          by_cases S:off<=i/\i<off+(xs.take len).length
          .have r:i-off<(xs.take len).length:=by omega
           have h6:(i-off)*ti.size+j<(xs.take len).length*ti.size:=gN r hj
           have h7:i*ti.size=off*ti.size+(i-off)*ti.size:=by rw[<-abq];congr 1;omega
           rw[aaL (by omega),aaL S]
           have T:(i-off)*ti.size+j<O.size:=by rw[l.len];exact h6
           refine⟨O[(i-off)*ti.size+j],?_,?_⟩
           .rw[show o0+i*ti.size+j-(o0+off*ti.size)=(i-off)*ti.size+j from by omega]
            simp[T]
           .have:=(l.rel _ j r hj).mono Q
            simpa only [aaW,aa3 T,aaZ] using this
          .have h8:¬ (o0+off*ti.size<=o0+i*ti.size+j/\o0+i*ti.size+j<o0+off*ti.size+(xs.take len).length*ti.size):=by
            rcases abg i off with h9 | h9
            .have:(i+1)*ti.size<=off*ti.size:=abm _ h9
             rw[abq] at this;omega
            .have:(off+(xs.take len).length)*ti.size<=i*ti.size:=abm _ (by omega)
             rw[abq] at this;omega
           rw[aaI h8,aaI S]
           obtain⟨y,hy,hv⟩:=h4 i j hi hj
           exact⟨y,hy,hv.mono Q⟩
      .simp at h
     .simp at h
    .simp at h
 .simp at h
theorem Ui {t0:TypeId} {u:Array TypeId} {ty:TypeId} {d:V} {dv:Value} (h:yR P t0 d H=some (v,eff,rd)) (I:u[0]?=some t0)
  (hd:aD Z μ w.heap d dv) (c:Ctx Z μ w.heap H rd n eff):
  bq Z μ w n v eff ((do pure (Next.value (<-Builtin.clear_ u ty #[dv])):Sem Next).run P w):=by
 unfold yR at h
 split at h
 .rename_i e dl hu A
  have r:P.underlying t0=some (.slice e):=by
   unfold de at hu;split at hu<;>simp_all
  obtain⟨ad,cap,rfl,al⟩:=eF hd A
  split at h
  .rename_i h0
   subst h0
   simp only[aaK,aaN] at h
   obtain⟨rfl,rfl,rfl⟩:=h
   refine bq.here (x:=.tuple #[]) ?_ (.bb [] #[] rfl (λi hi=>by simp at hi))
   simp only[Builtin.clear_,abp,abb,I,Sem.run_bind,bD r,Result.andThen_ok]
   cases ad<;>simp
  .rename_i ar
   split at h
   .rename_i id off len esz ti z J S
    split at h
    .rename_i an es hH
     split at h
     .rename_i hb
      obtain⟨a1,rfl,aq,B,s⟩:=hb
      simp only[aaK,aaN] at h
      obtain⟨rfl,rfl,rfl⟩:=h
      simp only[cE,aaK] at A
      subst A
      have K:=c.obj id (by simp)
      rw[hH] at K
      obtain⟨C,T,rfl⟩:=jJ J S
      have hr:=iC (iB (Z:=Z) (μ:=μ) (w:=w) C) s
      have l:=Fb (m:=len) (ti:=ti) hr B
      have run:∀(a:Addr) (w':World),ad=some a->(storeCells a (Builtin.zeroCells C.cells len).toList).run P w=.ok () w' ->
        (Builtin.clear_ u ty #[.slice ad len cap]).run P w=.ok (.tuple #[]) w':=by
       rintro a w' rfl U
       obtain⟨m,rfl⟩:∃m,len=m+1:=⟨len-1,by omega⟩
       simp only[Builtin.clear_,abp,abb,I,Sem.run_bind,bD r,Result.andThen_ok,kZ J T,U,Sem.run_pure]
      cases hd with
      | qq=>omega
      | sl _ _ _ _ b o0 _ cc e' f hm _ o a6 =>
       obtain⟨heq,⟨c2,e2,f2,D,L,W⟩,U,h4⟩:=K b o0 ti.size hm
       subst heq
       rw[o] at D
       simp only[aaK,Obj.cells.injEq] at D
       obtain⟨rfl,rfl,rfl⟩:=D
       have g:∀e∈List.replicate len (gv C).cells,e=(gv C).cells:=λe he=>List.eq_of_mem_replicate he
       have X:(List.replicate len (gv C).cells).length=len:=acF
       generalize a7:List.replicate len (gv C).cells=xs at l g X ⊢
       generalize a8:Builtin.zeroCells C.cells len=R at l run
       have t:R.toList.length=xs.length*ti.size:=by rw[Array.length_toList,l.len]
       have E:(off+xs.length)*ti.size<=es.length*ti.size:=abm _ (by omega)
       rw[abq] at E
       have hz:=c.ix _ _ _ _ hm
       obtain⟨Y,ab,q,F⟩:=xH (P:=P) (off:=o0+off*ti.size) o (sF L) R.toList (by rw[t];omega) (Er l (λe he=>by rw[g e he];exact B) (λe he=>by rw[g e he];exact s))
       have ae:=fC o
       have M:iP Z Z μ μ w.heap (w.heap.setIfInBounds b (.cells Y e' f)):=
        ⟨λ_ h=>h,λk hk=>dM w.heap b _ k (c.df k hk) (λe=>hz (e▸hk)),λ_ _ h=>h,jY o q⟩
       refine bq.value (μ':=μ) (run _ _ rfl ab) ?_ ⟨rfl,rfl,rfl,by simp⟩ ?_
       .exact .bb [] #[] rfl (λi hi=>by simp at hi)
       .refine⟨b,o0,ti.size,hm,rfl,dM _ _ _,jY o q,?_⟩
        intro b1 q1 s1 G
        rw[hm] at G
        simp only[aaK,aaN] at G
        obtain⟨rfl,rfl,rfl⟩:=G
        have N:=λk=>tP xs es off k (by omega)
        refine⟨rfl,⟨Y,e',f,eW ae,by rw[q];exact L,by rw[jw,q];exact W⟩,?_,?_⟩
        .intro i hi
         rw[jw] at hi
         rw[N]
         split
         .have p:i-off<xs.length:=by omega
          simp only[aaG,aaH p,aaZ]
          rw[g _ (aaP p)];exact B
         .exact U i hi
        .intro i j hi hj
         rw[jw] at hi
         show ∃y,cellAt (w.heap.setIfInBounds b (.cells Y e' f)) b (o0+i*ti.size+j)=some y/\_
         rw[F,t,N]
         by_cases O:off<=i/\i<off+xs.length
         .have p:i-off<xs.length:=by omega
          have h6:(i-off)*ti.size+j<xs.length*ti.size:=gN p hj
          have h7:i*ti.size=off*ti.size+(i-off)*ti.size:=by rw[<-abq];congr 1;omega
          rw[aaL (by omega),aaL O]
          have Q:(i-off)*ti.size+j<R.size:=by rw[l.len];exact h6
          refine⟨R[(i-off)*ti.size+j],?_,?_⟩
          .rw[show o0+i*ti.size+j-(o0+off*ti.size)=(i-off)*ti.size+j from by omega]
           simp[Q]
          .have:=(l.rel _ j p hj).mono M
           simpa only [aaW,aa3 Q,aaZ] using this
         .have h8:¬ (o0+off*ti.size<=o0+i*ti.size+j/\o0+i*ti.size+j<o0+off*ti.size+xs.length*ti.size):=by
           rcases abg i off with h9 | h9
           .have:(i+1)*ti.size<=off*ti.size:=abm _ h9
            rw[abq] at this;omega
           .have:(off+xs.length)*ti.size<=i*ti.size:=abm _ (by omega)
            rw[abq] at this;omega
          rw[aaI h8,aaI O]
          obtain⟨y,hy,hv⟩:=h4 i j hi hj
          exact⟨y,hy,hv.mono M⟩
     .simp at h
    .simp at h
   .simp at h
 .simp at h
end
section
variable {Z:Nat->Prop} {μ μ':Mu} {w w':World} {P:Program} {H:View} {n:Nat} {v:V} {eff:bo} {rd:List Nat}
theorem I6 (off:Nat):∀(l:List Value) (i:Nat) (cs:Array Value),off+i+l.length<=cs.size ->
  ((l.zipIdx i).foldl (λcs (p:Value × Nat)=>cs.setIfInBounds (off+p.2) p.1) cs).size=cs.size /\
  ∀k,((l.zipIdx i).foldl (λcs (p:Value × Nat)=>cs.setIfInBounds (off+p.2) p.1) cs)[k]?=if off+i<=k/\k<off+i+l.length then l[k-(off+i)]? else cs[k]?
 | [],i,cs,_=>⟨rfl,λk=>by rw[aaI (by simp only[abe];omega)];rfl⟩
 | x::l,i,cs,h=>by
  simp only[aaS] at h
  obtain⟨h1,b⟩:=I6 off l (i+1) (cs.setIfInBounds (off+i) x) (by simp;omega)
  simp only[List.zipIdx_cons,abr,aaS]
  refine⟨by rw[h1];simp,λk=>?_⟩
  rw[b]
  by_cases e:off+i=k
  .subst e
   rw[aaI (by omega),aaL (by omega)]
   simp[show off+i<cs.size by omega]
  .by_cases a:off+(i+1)<=k/\k<off+(i+1)+l.length
   .rw[aaL a,aaL (by omega),show k-(off+i)=(k-(off+(i+1)))+1 from by omega]
    simp
   .rw[aaI a,aaI (by omega)]
    simp[e]
theorem EY (off:Nat) (xs cs:Array Value) (h:off+xs.size<=cs.size):
  (xs.zipIdx.foldl (λcs (c,j)=>cs.setIfInBounds (off+j) c) cs).size=cs.size /\
  ∀k,(xs.zipIdx.foldl (λcs (c,j)=>cs.setIfInBounds (off+j) c) cs)[k]?=if off<=k/\k<off+xs.size then xs[k-off]? else cs[k]?:=by
 have:=I6 off xs.toList 0 cs (by simpa using h)
 rw[<-Array.foldl_toList,Array.toList_zipIdx]
 simpa using this
def Ho (Z:Nat->Prop) (μ:Mu) (hp:Array Obj):List (Nat × V)->List (Nat × Value)->Prop
 | [],[]=>True
 | p::r,q::s=>p.1=q.1/\aD Z μ hp p.2 q.2/\Ho Z μ hp r s
 | _,_=>False
theorem FR {x:V} {y:Value} (h:aD Z μ w.heap x y) (a:x.cells.all aL=true):y.cells.size=x.cells.length:=by
 have:=(iC h a).1;simpa using this.symm
theorem J8 {size:Nat} (place:Nat->Option (Nat × Nat)) (l:∀i,place i=some (i*size,size)):∀(n:List (Nat × V)) (o:List (Nat × Value)) (es es':List (List V)) (cs:Array Value),
  mZ size es n=some es'->Ho Z μ w.heap n o->Flat Z μ w.heap size es cs->(∀i,i<es.length->(es.getD i []).length=size)->(∀i,i<es.length->(es.getD i []).all aL=true) ->
  ∃d,Instr.fill place cs o=some d/\Flat Z μ w.heap size es' d/\es'.length=es.length/\(∀i,i<es'.length->(es'.getD i []).length=size)
 | [],[],es,es',cs,h,_,m,p,_=>by
  simp only[mZ,aaK] at h;subst h
  exact⟨cs,rfl,m,rfl,p⟩
 | (i,x)::n,(F,y)::o,es,es',cs,h,hr,m,p,r=>by
  obtain⟨hi,f,g⟩:=hr
  simp only at hi f
  subst hi
  simp only[mZ] at h
  split at h
  .rename_i A
   obtain⟨h1,z,s⟩:=A
   have t:=iC f s
   have B:=FR f s
   have hle:i*size+size<=cs.size:=by
    rw[m.len]
    have:(i+1)*size<=es.length*size:=abm _ z
    rw[abq] at this;omega
   obtain⟨C,k2⟩:=EY (i*size) y.cells cs (by omega)
   have b:∀k,(es.set i x.cells).getD k []=if k=i then x.cells else es.getD k []:=by
    intro k
    simp only[aaG,abw]
    by_cases e:i=k
    .subst e;simp[z]
    .rw[aaI e,aaI (λq=>e q.symm)]
   obtain⟨d,g1,g2,g3,g4⟩:=J8 place l n o (es.set i x.cells) es' (y.cells.zipIdx.foldl (λcs (c,j)=>cs.setIfInBounds (i*size+j) c) cs) h g
    ⟨by rw[C,m.len];simp,λa j D E=>by
     have u:a<es.length:=by simpa using D
     rw[b,aaW,k2]
     by_cases e:a=i
     .subst e
      rw[aaL rfl,aaL (by omega),show a*size+j-a*size=j from by omega]
      have:=t.2 j (by omega)
      simpa [aaG] using this
     .have:¬ (i*size<=a*size+j/\a*size+j<i*size+y.cells.size):=by
       rcases Nat.lt_or_gt_of_ne e with v | v
       .have:(a+1)*size<=i*size:=abm _ v
        rw[abq] at this;omega
       .have:(i+1)*size<=a*size:=abm _ v
        rw[abq] at this;omega
      rw[aaI e,aaI this]
      have:=m.rel a j u E
      simpa only [aaW] using this⟩
    (λk hk=>by rw[b];split;exact h1;exact p k (by simpa using hk))
    (λk hk=>by rw[b];split;exact s;exact r k (by simpa using hk))
   refine⟨d,?_,g2,by simpa using g3,g4⟩
   simp only[Instr.fill,l]
   rw[aaI (by simp only[acv,aaX,not_or];omega)]
   exact g1
  .simp at h
 | [],_::_,_,_,_,_,hr,_,_,_=>hr.elim
 | _::_,[],_,_,_,_,hr,_,_,_=>hr.elim
theorem GY {t:TypeId} {len:Nat} {E:List (Nat × V)} {u:Array (Nat × Value)} (h:jh P t len E n=some (v,eff,rd)) (hr:Ho Z μ w.heap E u.toList) (c:Ctx Z μ w.heap H rd n eff):
  bq Z μ w n v eff ((do pure (Next.value (<-Instr.buildSlice t len u)):Sem Next).run P w):=by
 unfold jh at h
 cases hu:de P t with
 | none=>simp[hu] at h
 | some e =>
  have k:P.underlying t=some (.slice e):=by
   unfold de at hu;split at hu<;>simp_all
  cases d:P.info? e with
  | none=>simp[hu,d] at h
  | some ti =>
   simp only[hu,d] at h
   split at h
   .simp at h
   .rename_i l
    split at h
    .rename_i o
     subst o
     split at h
     .rename_i y
      simp only[aaK,aaN] at h
      obtain⟨rfl,rfl,rfl⟩:=h
      have F:E=[]:=by simpa using y
      subst F
      have G:u = #[]:=by
       cases R:u.toList with
       | nil=>exact Array.toList_eq_nil_iff.1 R
       | cons a b=>rw[R] at hr;exact hr.elim
      subst G
      refine bq.value (x:=.slice (some ⟨w.heap.size,0,none⟩) 0 0) (w':=w.alloc (.cells #[] e)) ?_ (.emp 2 _ (by simp) (by simp)) (jd _ _) ⟨rfl,fH _ _⟩
      simp[Instr.buildSlice,bD k,ec d,Instr.fill,newRow,show Array.range 0 = #[] from rfl]
     .simp at h
    .split at h
     .simp at h
     .rename_i o I
      split at h
      .simp at h
      .rename_i z S
       split at h
       .rename_i J
        obtain⟨p,m⟩:=J
        split at h
        .rename_i es K
         simp only[aaK,aaN] at h
         obtain⟨rfl,rfl,rfl⟩:=h
         obtain⟨q,L,rfl⟩:=jJ d S
         have A:=iC (iB (Z:=Z) (μ:=μ) (w:=w) q) m
         have M:q.cells.size=ti.size:=by rw[<-p,A.1];simp
         have B:len*ti.size≠0:=by
          intro N;rcases Nat.mul_eq_zero.1 N with N | N<;>contradiction
         have r:Flat Z μ w.heap ti.size (List.replicate len (gv q).cells) ((Array.range (len*ti.size)).map (q.cells[· % q.cells.size]!)):=by
          refine⟨by simp,λi j hi s=>?_⟩
          simp at hi
          have g:i*ti.size+j<len*ti.size:=gN (by omega) s
          have C:(i*ti.size+j) % ti.size=j:=by
           rw[Nat.mul_comm,Nat.mul_add_mod];exact Nat.mod_eq_of_lt s
          have:=A.2 j (by rw[p];exact s)
          have D:j<q.cells.size:=by omega
          simp only[aaG,acE,aa3 D,aaZ] at this
          simpa [aaG,aaW,hi,g,M,C,getElem!_pos q.cells j D] using this
         obtain⟨f,g1,g2,g3,g4⟩:=J8 (λi=>some (i*ti.size,ti.size)) (λ_=>rfl) E u.toList _ es _ K hr r
          (λi hi=>by simp at hi;simp[hi,p])
          (λi hi=>by simp at hi;simpa [aaG,hi] using m)
         have O:es.length=len:=by simpa using g3
         refine bq.value (μ':=μ.set n (w.heap.size,0,ti.size)) (x:=.slice (some ⟨w.heap.size,0,none⟩) len len) (w':=w.alloc (.cells f e)) ?_ ?_ (jd _ _) ?_
         .have Q:¬ (2 ^ 24<len*ti.size):=l
          simp[Instr.buildSlice,bD k,ec d,l,B,kZ d L,g1,newRow]
         .have:=aD.sl (Z:=Z) (μ:=μ.set n (w.heap.size,0,ti.size)) (hp:=(w.alloc (.cells f e)).heap) n 0 len ti.size w.heap.size 0 len f e (0,0) (by simp[Mu.set]) (aaQ _) (by rw[heap_alloc];simp) (by rw[g2.len,O];simp)
          simpa using this
         .refine⟨w.heap.size,0,ti.size,aaQ _,by rw[heap_alloc];simp,rfl,fH _ _,?_⟩
          refine eP.newRow c.new c.df (by rw[g2.len];exact aaQ _) g4 (λi j hi s=>?_)
          have g:i*ti.size+j<f.size:=by rw[g2.len];exact gN hi s
          refine⟨f[i*ti.size+j],by simp[g],?_⟩
          have:=g2.rel i j hi s
          simpa only [aaW,aa3 g,aaZ] using this
        .simp at h
       .simp at h
theorem Mo (place pl:Nat->Option (Nat × Nat)) (l:∀i x,place i=some x->pl i=some x):∀(n:List (Nat × V)) (o:List (Nat × Value)) (cs d:List V) (a:Array Value),
  zj place cs n=some d->Ho Z μ w.heap n o->cs.length=a.size->(∀i,i<cs.length->aD Z μ w.heap (cs.getD i .any) (a.getD i undef)) ->
  ∃b,Instr.fill pl a o=some b/\d.length=b.size/\(∀i,i<d.length->aD Z μ w.heap (d.getD i .any) (b.getD i undef))
 | [],[],cs,d,a,h,_,h1,p=>by
  simp only[zj,aaK] at h;subst h
  exact⟨a,rfl,h1,p⟩
 | (i,x)::n,(u,y)::o,cs,d,a,h,hr,h1,p=>by
  obtain⟨hi,f,g⟩:=hr
  simp only at hi f
  subst hi
  simp only[zj] at h
  split at h
  .simp at h
  .rename_i off size hp
   split at h
   .rename_i s
    obtain⟨v,k2,r⟩:=s
    have q:=iC f r
    have t:=FR f r
    obtain⟨m1,m2⟩:=EY off y.cells a (by omega)
    have m:(gm cs off x.cells).length=cs.length:=AM _ _ _ (by omega)
    obtain⟨b,g1,g2,g3⟩:=Mo place pl l n o (gm cs off x.cells) d (y.cells.zipIdx.foldl (λcs (c,j)=>cs.setIfInBounds (off+j) c) a) h g (by rw[m,m1,h1])
     (λk hk=>by
      rw[m] at hk
      rw[aaW,m2]
      by_cases e:off<=k/\k<off+x.cells.length
      .rw[IM _ _ _ _ (by omega) e,aaL (by omega)]
       have:=q.2 (k-off) (by omega)
       simpa [aaG] using this
      .rw[Fs _ _ _ _ (by omega) e,aaI (by omega)]
       have:=p k hk
       simpa only [aaW] using this)
    refine⟨b,?_,g2,g3⟩
    simp only[Instr.fill,l i _ hp]
    rw[aaI (by simp only[acv,aaX,not_or];omega)]
    exact g1
   .simp at h
 | [],_::_,_,_,_,_,hr,_,_=>hr.elim
 | _::_,[],_,_,_,_,hr,_,_=>hr.elim
end
section
variable {Z:Nat->Prop} {μ μ':Mu} {w w':World} {P:Program} {H:View} {n:Nat} {v:V} {eff:bo} {rd:List Nat}
theorem MG {a:Array Field} (h:∀f∈a.toList,(P.info? f.type).isSome=true):
  (a.mapM λf=>do pure (f.offset,<-Go.sizeOf f.type):Sem (Array (Nat × Nat))).run P w=.ok (a.map λf=>(f.offset,P.cellsOf f.type)) w:=by
 have key:∀(l:List Field),(∀f∈l,(P.info? f.type).isSome=true)->(l.mapM λf=>do pure (f.offset,<-Go.sizeOf f.type):Sem (List (Nat × Nat))).run P w=.ok (l.map λf=>(f.offset,P.cellsOf f.type)) w:=by
  intro l
  induction l with
  | nil=>intro _;rfl
  | cons f r c =>
   intro b
   obtain⟨i,hi⟩:=Option.isSome_iff_exists.1 (b f abP)
   simp only[List.mapM_cons,Sem.run_bind,ec hi,Result.andThen_ok,Sem.run_pure,c (λf d=>b f (aa6 _ d)),aba,zP hi]
 have:=key a.toList h
 rw[Array.mapM_eq_mapM_toList]
 simp only[Sem.run_map,this,Result.andThen_ok]
 congr 1
 apply Array.ext'
 simp
theorem BE {t:TypeId} {z:V} (h:zeroV P t=some z):∃i a,P.info? t=some i/\i.zero=some a/\z=gv a:=by
 unfold zeroV at h
 split at h
 .rename_i i hi
  split at h
  .rename_i a b
   simp at h
   exact⟨i,a,hi,b,h.symm⟩
  .simp at h
 .simp at h
theorem Ti {t:TypeId} {k:List (Nat × V)} {j:Array (Nat × Value)} (h:x6 P t k=some (v,eff,rd)) (hr:Ho Z μ w.heap k j.toList):
  bq Z μ w n v eff ((do pure (Next.value (<-Instr.build t j)):Sem Next).run P w):=by
 unfold x6 at h
 split at h
 .rename_i l z hu B
  obtain⟨i,C,hi,m,o⟩:=BE B
  have hk:oC P t=true:=by
   cases p:oC P t with
   | true=>rfl
   | false=>simp[p] at h
  rw[aaL hk] at h
  simp only[aaT] at h
  obtain⟨cs,q,h⟩:=h
  simp only[aaN] at h
  obtain⟨rfl,rfl,rfl⟩:=h
  have e:=iB (Z:=Z) (μ:=μ) (w:=w) C
  rw[<-o] at e
  cases e with
  | agg _ g h1 D =>
   have r:∀f∈l.toList,(P.info? f.type).isSome=true:=by
    unfold oC at hk
    rw[hu] at hk
    exact abc.1 hk
   obtain⟨c,g1,g2,g3⟩:=Mo (placeOf P t) (λi=>(l.map λf=>(f.offset,P.cellsOf f.type))[i]?) (λi x s=>by
    unfold placeOf at s
    simp only[aaT] at s
    obtain⟨⟨a,b,F⟩,u,rfl⟩:=s
    obtain⟨E,fd,ti,d,y,A,rfl,rfl,rfl⟩:=xW u
    rw[hu] at d
    simp only[aaK,TypeDesc.struct.injEq] at d
    subst d
    simp[y,zP A]) k j.toList z _ g q hr h1 D
   refine bq.here (x:=.agg c) ?_ (.agg _ _ g2 g3)
   simp only[Instr.build,Sem.run_bind,kZ hi m,Result.andThen_ok,bD hu,Value.cells]
   rw[MG r]
   simp only[Result.andThen_ok]
   have:Instr.fill (λx=>(l.map λf=>(f.offset,P.cellsOf f.type))[x]?) g j.toList=some c:=g1
   simp only[this,Sem.run_pure]
 .simp at h
theorem aY {α β:Type} (P:Program) (s:Sem α) (f:α->Sem β):bk P (s >>= f)=(bk P s).bind λa=>bk P (f a):=by
 have key:∀s:Sem α,bk P (s.bind f)=(bk P s).bind λa=>bk P (f a):=by
  intro s
  induction s with
  | pure a=>rfl
  | program k b=>simp only[Sem.bind,bk];exact b P
  | _=>rfl
 exact key s
def Keys:List MapEntry->List MapEntry->Prop
 | [],[]=>True
 | a::r,b::s=>a.key=b.key/\Keys r s
 | _,_=>False
def Found (l:List MapEntry) (i:Nat):Option (Nat × Value)->Option (Nat × Value)->Prop
 | none,none=>True
 | some (a,_),some (b,x)=>a=b/\i<=a/\(l[a-i]?).map (·.val)=some x
 | _,_=>False
theorem Found.cons {l:List MapEntry} {e:MapEntry} {i:Nat}:∀ {r c:Option (Nat × Value)},Found l (i+1) r c->Found (e::l) i r c
 | none,none,_=>trivial
 | some (a,_),some (b,x),h=>by
  obtain⟨rfl,h1,d⟩:=h
  refine⟨rfl,by omega,?_⟩
  rw[show a-i=(a-(i+1))+1 from by omega]
  simpa using d
 | none,some _,h=>h.elim
 | some _,none,h=>h.elim
theorem AU (kind:TypeDesc) (k:Value):∀(l m:List MapEntry) (i:Nat),Keys l m ->
  match Instr.findNow kind k l i,Instr.findNow kind k m i with
  | some r,some c=>Found m i r c
  | none,none=>True
  | _,_=>False
 | [],[],i,_=>trivial
 | a::l,b::m,i,h=>by
  obtain⟨hk,hr⟩:=h
  simp only[Instr.findNow,<-hk]
  cases d:Instr.sameNow kind k a.key with
  | none=>trivial
  | some t =>
   cases t with
   | true=>exact⟨rfl,aaQ _,by simp⟩
   | false =>
    have:=AU kind k l m (i+1) hr
    simp only
    split at this
    .exact this.cons
    .trivial
    .exact this.elim
 | [],_::_,_,h=>h.elim
 | _::_,[],_,h=>h.elim
theorem wc (kt:TypeId) (k:Value):∀(l m:List MapEntry) (i:Nat) (r:Option (Nat × Value)),Keys l m->bk P (Instr.findAsking kt k l i)=some r ->
  ∃d,(Instr.findAsking kt k m i).run P w=.ok d w/\Found m i r d
 | [],[],i,r,_,h=>by
  simp only[Instr.findAsking,bk,Pure.pure,aaK] at h
  subst h
  exact⟨none,rfl,trivial⟩
 | a::l,b::m,i,r,hk,h=>by
  obtain⟨hk,hr⟩:=hk
  simp only[Instr.findAsking,aY,Option.bind_eq_some_iff] at h
  obtain⟨t,e,h⟩:=h
  have c:=sm _ e w
  rw[hk] at c
  cases t with
  | true =>
   simp only[if_true,bk,Pure.pure,aaK] at h
   subst h
   exact⟨some (i,b.val),by simp[Instr.findAsking,c],rfl,aaQ _,by simp⟩
  | false =>
   simp only[aa9,if_false] at h
   obtain⟨d,h1,f⟩:=wc kt k l m (i+1) r hr h
   exact⟨d,by simp[Instr.findAsking,c,h1],f.cons⟩
 | [],_::_,_,_,h,_=>h.elim
 | _::_,[],_,_,h,_=>h.elim
theorem B9:∀(es:List (V × V × Nat)) (l m:List MapEntry),gF es=some l->es.length=m.length ->
  (∀i,i<es.length->∃y,m[i]?=some y/\aD Z μ w.heap (es.getD i default).1 y.key)->Keys l m
 | [],l,m,h,a,_=>by
  simp only[gF,aaK] at h
  subst h
  cases m with
  | nil=>trivial
  | cons _ _=>simp at a
 | (k,j,b)::es,l,m,h,a,hr=>by
  simp only[gF] at h
  split at h
  .rename_i x y f g
   simp only[aaK] at h
   subst h
   cases m with
   | nil=>simp at a
   | cons e m =>
    obtain⟨d,h1,c⟩:=hr 0 (by simp)
    simp only[abb,aaK] at h1
    subst h1
    refine⟨s9 c f,B9 es y m g (by simpa using a) (λi hi=>?_)⟩
    obtain⟨d,h1,c⟩:=hr (i+1) (by simpa using hi)
    exact⟨d,by simpa using h1,by simpa using c⟩
  .simp at h
theorem rQ {kt:TypeId} {k:V} {x:Value} {b:Bool} {es:List (V × V × Nat)} {a:Array MapEntry} {r:Option Nat} (h:nt P kt k b es=some r) (hk:aD Z μ w.heap k x) (B:a.size=es.length)
  (hr:∀i,i<es.length->∃y,a[i]?=some y/\aD Z μ w.heap (es.getD i default).1 y.key):
  (Instr.checkKey b 10000 kt x).run P w=.ok () w /\
  ∃e,(Instr.findKey kt x a.toList).run P w=.ok e w/\(match r,e with
   | none,none=>True
   | some i,some (j,y)=>i=j/\(a[i]?).map (·.val)=some y
   | _,_=>False):=by
 unfold nt at h
 split at h
 .rename_i o l C s
  have v:=s9 hk C
  subst v
  have f:=B9 (Z:=Z) (μ:=μ) (w:=w) es l a.toList s (by simpa using B.symm) (λi hi=>by simpa using hr i hi)
  have g:∀q,bk P (Instr.checkKey b 10000 kt o >>= λ_=>Instr.findKey kt o l)=some q->(Instr.checkKey b 10000 kt o).run P w=.ok () w/\∃e,(Instr.findKey kt o a.toList).run P w=.ok e w/\Found a.toList 0 q e:=by
   intro q m
   rw[aY,Option.bind_eq_some_iff] at m
   obtain⟨u,hu,m⟩:=m
   refine⟨sm _ hu w,?_⟩
   simp only[Instr.findKey,aY,Option.bind_eq_some_iff] at m
   obtain⟨d,D,m⟩:=m
   have t:=sm _ D w
   have c:=AU d o l a.toList 0 f
   cases h1:Instr.findNow d o l 0 with
   | some F =>
    rw[h1] at c m
    simp only[bk,Pure.pure,aaK] at m
    subst m
    cases n:Instr.findNow d o a.toList 0 with
    | none=>rw[n] at c;exact c.elim
    | some A =>
     rw[n] at c
     exact⟨A,by simp[Instr.findKey,t,n],c⟩
   | none =>
    rw[h1] at c m
    cases n:Instr.findNow d o a.toList 0 with
    | some A=>rw[n] at c;exact c.elim
    | none =>
     obtain⟨e,p,z⟩:=wc (w:=w) kt o l a.toList 0 q f m
     exact⟨e,by simp[Instr.findKey,t,n,p],z⟩
  split at h
  .rename_i i G hp
   simp only[aaK] at h
   subst h
   obtain⟨h1,e,n,p⟩:=g _ hp
   refine⟨h1,e,n,?_⟩
   cases e with
   | none=>exact p.elim
   | some q =>
    obtain⟨j,y⟩:=q
    obtain⟨z,_,E⟩:=p
    exact⟨z,by simpa using E⟩
  .rename_i hp
   simp only[aaK] at h
   subst h
   obtain⟨h1,e,n,p⟩:=g _ hp
   refine⟨h1,e,n,?_⟩
   cases e with
   | none=>trivial
   | some q=>exact p.elim
  .simp at h
 .simp at h
theorem y3 {id:Nat} {x:Value} (h:aD Z μ w.heap (.mp id) x):∃b o0 s,μ id=some (b,o0,s)/\x=.map (some b):=by
 cases h with | mp _ b o0 s hm=>exact⟨b,o0,s,hm,rfl⟩
theorem iu {b:Nat} {a:Array MapEntry} {c:Nat} (h:w.heap[b]?=some (.map a c)):(getObj b).run P w=.ok (.map a c) w:=by
 simp[getObj,Sem.run,h]
theorem ly {b:Nat} {a:Array MapEntry} {c:Nat} (o:Obj) (h:w.heap[b]?=some (.map a c)):(setObj b o).run P w=.ok () { w with heap:=w.heap.setIfInBounds b o }:=by
 simp[setObj,Sem.run,h]
theorem pY {t kt et:TypeId} (h:eN P t=some (kt,et)):P.underlying t=some (.map kt et):=by
 unfold eN at h
 split at h
 .rename_i k e hu;simp at h;rw[hu,h.1,h.2]
 .simp at h
theorem On {k:Bool} {v1:V} {a:Value} {b:Bool} (h:aD Z μ w.heap v1 a):
  aD Z μ w.heap (if k then .bb [v1,.val (.bool b)] else v1) (if k then .tuple #[a,.bool b] else a):=by
 cases k with
 | false=>exact h
 | true =>
  refine .bb _ _ rfl (λi hi=>?_)
  match i,hi with
  | 0,_=>exact h
  | 1,_=>exact .val _ rfl
theorem Qt {t:TypeId} {m k:V} {L kv:Value} {ok:Bool} (h:fU P t m k ok H=some (v,eff,rd)) (hm:aD Z μ w.heap m L) (hk:aD Z μ w.heap k kv) (c:Ctx Z μ w.heap H rd n eff):
  bq Z μ w n v eff ((do pure (Next.value (<-Instr.lookup t L kv ok)):Sem Next).run P w):=by
 unfold fU at h
 split at h
 .simp at h
 .rename_i kt et A
  have hu:=pY A
  split at h
  .simp at h
  .rename_i z O
   obtain⟨ti,p,B,C,rfl⟩:=BE O
   simp only at h
   split at h
   .rename_i id
    obtain⟨b,o0,s,D,rfl⟩:=y3 hm
    split at h
    .rename_i es clock hH
     have g:∀E,E=id->eP Z μ w.heap id (.map es clock)->∃a:Array MapEntry,w.heap[b]?=some (.map a clock)/\a.size=es.length /\
       ∀i,i<es.length->∃y,a[i]?=some y/\aD Z μ w.heap (es.getD i default).1 y.key/\aD Z μ w.heap (es.getD i default).2.1 y.val/\y.born=(es.getD i default).2.2:=λ_ _ h=>h b o0 s D
     have go:∀r,nt P kt k es.isEmpty es=some r->eP Z μ w.heap id (.map es clock)->∃x,(Instr.lookup t (.map (some b)) kv ok).run P w=.ok x w /\
       (match r with
        | some i=>∀e,es[i]?=some e->aD Z μ w.heap (if ok then .bb [e.2.1,.val (.bool true)] else e.2.1) x
        | none=>aD Z μ w.heap (if ok then .bb [gv p,.val (.bool false)] else gv p) x):=by
      intro r hr d
      obtain⟨a,M,l,o⟩:=g id rfl d
      obtain⟨h1,N,u,F⟩:=rQ (w:=w) hr hk l (λi hi=>let ⟨y,h1,u,_⟩:=o i hi; ⟨y,h1,u⟩)
      have f:a.isEmpty=es.isEmpty:=by
       simp only[Array.isEmpty,l];cases es<;>simp
      cases r with
      | none =>
       cases N with
       | some q=>exact F.elim
       | none =>
        refine⟨if ok then .tuple #[p,.bool false] else p,?_,On (iB _)⟩
        simp only[Instr.lookup,Sem.run_bind,bD hu,Result.andThen_ok,iu M,Sem.run_pure,f,h1,u,kZ B C]
      | some i =>
       cases N with
       | none=>exact F.elim
       | some q =>
        obtain⟨j,y⟩:=q
        obtain⟨rfl,G⟩:=F
        refine⟨if ok then .tuple #[y,.bool true] else y,?_,λe he=>?_⟩
        .simp only[Instr.lookup,Sem.run_bind,bD hu,Result.andThen_ok,iu M,Sem.run_pure,f,h1,u]
        .refine On ?_
         have hi:i<es.length:=by
          rcases abg i es.length with h | h
          .exact h
          .simp[abi h] at he
         obtain⟨Q,g1,g2,g3,g4⟩:=o i hi
         rw[g1] at G
         simp only[aaU,aaK] at G
         subst G
         simpa [aaG,he] using g3
     split at h
     .rename_i i I
      split at h
      .rename_i R S T he
       simp only[aaK,aaN] at h
       obtain⟨rfl,rfl,rfl⟩:=h
       have d:=c.obj id (by simp)
       rw[hH] at d
       obtain⟨x,J,K⟩:=go _ I d
       exact bq.here J (K _ he)
      .simp at h
     .rename_i I
      simp only[aaK,aaN] at h
      obtain⟨rfl,rfl,rfl⟩:=h
      have d:=c.obj id (by simp)
      rw[hH] at d
      obtain⟨x,J,K⟩:=go _ I d
      exact bq.here J K
     .simp at h
    .simp at h
   .simp at h
end
section
variable {Z:Nat->Prop} {μ μ':Mu} {w w':World} {P:Program} {H:View} {n:Nat} {v:V} {eff:bo} {rd:List Nat}
theorem mj {b:Nat} {a:Array MapEntry} {c:Nat} {o:Obj} (df:∀b,Z b->b<w.heap.size) (g:¬ Z b) (i:w.heap[b]?=some (.map a c)):
  iP Z Z μ μ w.heap (w.heap.setIfInBounds b o)/\gn w.heap (w.heap.setIfInBounds b o):=by
 have d:gn w.heap (w.heap.setIfInBounds b o):=by
  intro k j e f hk
  by_cases h:b=k
  .subst h;rw[i] at hk;simp at hk
  .exact⟨j,f,by simp[h,hk],rfl⟩
 exact⟨⟨λ_ h=>h,λk hk=>dM w.heap b _ k (df k hk) (λe=>g (e▸hk)),λ_ _ h=>h,d⟩,d⟩
theorem AB {c k:V} {d x:Value} (h:sameKey c k=true) (e:aD Z μ w.heap c d) (hk:aD Z μ w.heap k x):(Instr.keyThatStays d x).run P w=.ok x w:=by
 unfold sameKey at h
 split at h
 .rename_i a b f g
  have i:=s9 e f
  have j:=s9 hk g
  subst i j
  simp[Instr.keyThatStays,h]
 .simp at h
theorem eP.LX {id b o0 s:Nat} {es:List (V × V × Nat)} {clock i:Nat} {a:Array MapEntry} {k d:V} {e':MapEntry} (h:μ id=some (b,o0,s)) (df:∀b,Z b->b<w.heap.size) (r:¬ Z b) (q:w.heap[b]?=some (.map a clock)) (l:a.size=es.length)
  (m:∀i,i<es.length->∃y,a[i]?=some y/\aD Z μ w.heap (es.getD i default).1 y.key/\aD Z μ w.heap (es.getD i default).2.1 y.val/\y.born=(es.getD i default).2.2)
  (hi:i<es.length) (f:MapEntry->MapEntry) (t:∀y,a[i]?=some y->f y=e') (hk:aD Z μ w.heap k e'.key) (u:aD Z μ w.heap d e'.val) {g:Nat} (v:e'.born=g):
  eP Z μ (w.heap.setIfInBounds b (.map (a.modify i f) clock)) id (.map (es.set i (k,d,g)) clock):=by
 have hm:=(mj (μ:=μ) (o:=.map (a.modify i f) clock) df r q).1
 intro C D s1 c
 rw[h] at c
 simp only[aaK,aaN] at c
 obtain⟨rfl,rfl,rfl⟩:=c
 refine⟨a.modify i f,eW (fC q),by simp[l],λj x=>?_⟩
 have n:j<es.length:=by simpa using x
 obtain⟨y,h1,z,A,B⟩:=m j n
 by_cases e:i=j
 .subst e
  have p:(es.set i (k,d,g)).getD i default=(k,d,g):=by simp[hi]
  refine⟨e',by rw[acn];simp[h1,t y h1],?_⟩
  rw[p]
  exact⟨hk.mono hm,u.mono hm,v⟩
 .have p:(es.set i (k,d,g)).getD j default=es.getD j default:=by simp[e]
  refine⟨y,by rw[acn];simp[e,h1],?_⟩
  rw[p]
  exact⟨z.mono hm,A.mono hm,B⟩
theorem eP.Ox {id b o0 s:Nat} {es:List (V × V × Nat)} {clock:Nat} {a:Array MapEntry} {k f:V} {kv c:Value} (h:μ id=some (b,o0,s)) (df:∀b,Z b->b<w.heap.size) (p:¬ Z b) (n:w.heap[b]?=some (.map a clock)) (g:a.size=es.length)
  (l:∀i,i<es.length->∃y,a[i]?=some y/\aD Z μ w.heap (es.getD i default).1 y.key/\aD Z μ w.heap (es.getD i default).2.1 y.val/\y.born=(es.getD i default).2.2)
  (hk:aD Z μ w.heap k kv) (q:aD Z μ w.heap f c):
  eP Z μ (w.heap.setIfInBounds b (.map (a.push { key:=kv,val:=c,born:=clock }) (clock+1))) id (.map (es++[(k,f,clock)]) (clock+1)):=by
 have hm:=(mj (μ:=μ) (o:=.map (a.push { key:=kv,val:=c,born:=clock }) (clock+1)) df p n).1
 intro x z s1 d
 rw[h] at d
 simp only[aaK,aaN] at d
 obtain⟨rfl,rfl,rfl⟩:=d
 refine⟨_,eW (fC n),by simp[g],λj r=>?_⟩
 by_cases e:j<es.length
 .obtain⟨y,h1,t,u,v⟩:=l j e
  have m:(es++[(k,f,clock)]).getD j default=es.getD j default:=by simp[abf e]
  refine⟨y,by rw[acw,aaI (by omega)];exact h1,?_⟩
  rw[m]
  exact⟨t.mono hm,u.mono hm,v⟩
 .obtain rfl:j=es.length:=by simp at r;omega
  have m:(es++[(k,f,clock)]).getD es.length default=(k,f,clock):=by simp
  refine⟨_,by rw[acw,aaL g.symm],?_⟩
  rw[m]
  exact⟨hk.mono hm,q.mono hm,rfl⟩
theorem vr {id b o0 s:Nat} {es:List (V × V × Nat)} {clock:Nat} (c:eP Z μ w.heap id (.map es clock)) (d:μ id=some (b,o0,s)):
 ∃a:Array MapEntry,w.heap[b]?=some (.map a clock)/\a.size=es.length /\
  ∀i,i<es.length->∃y,a[i]?=some y/\aD Z μ w.heap (es.getD i default).1 y.key/\aD Z μ w.heap (es.getD i default).2.1 y.val/\y.born=(es.getD i default).2.2:=c b o0 s d
theorem nh {α:Type} {l:List α} {i:Nat} {x:α} (h:l[i]?=some x):i<l.length:=by
 rcases abg i l.length with a | a
 .exact a
 .simp[abi a] at h
theorem Aw {t:TypeId} {m k E:V} {F kv g:Value} (h:ik P t m k E H=some (v,eff,rd)) (hm:aD Z μ w.heap m F) (hk:aD Z μ w.heap k kv) (G:aD Z μ w.heap E g) (c:Ctx Z μ w.heap H rd n eff):
  bq Z μ w n v eff ((do Instr.mapUpdate t F kv g;pure Next.skip:Sem Next).run P w):=by
 unfold ik at h
 split at h
 .rename_i kt et id A
  have hu:=pY A
  obtain⟨b,o0,s,d,rfl⟩:=y3 hm
  split at h
  .rename_i es clock hH
   split at h
   .rename_i i B
    split at h
    .rename_i I v0 J he
     split at h
     .rename_i C
      simp only[aaK,aaN] at h
      obtain⟨rfl,rfl,rfl⟩:=h
      have l:=c.obj id (by simp)
      rw[hH] at l
      obtain⟨a,p,o,f⟩:=vr l d
      have x:=c.ix _ _ _ _ d
      have hi:=nh he
      obtain⟨y,g1,g2,g3,g4⟩:=f i hi
      simp only[aaG,he,aaZ] at g2 g3 g4
      obtain⟨h1,D,r,z⟩:=rQ (w:=w) B hk o (λi hi=>let ⟨y,h1,r,_⟩:=f i hi; ⟨y,h1,r⟩)
      cases D with
      | none=>exact z.elim
      | some q =>
       obtain⟨j,K⟩:=q
       obtain⟨rfl,L⟩:=z
       refine bq.skip (w':={ w with heap:=w.heap.setIfInBounds b (.map (a.modify i λe=>{ e with key:=kv,val:=g }) clock) }) (μ':=μ) ?_ ⟨rfl,rfl,rfl,by simp⟩ ?_
       .simp only[Instr.mapUpdate,Sem.run_bind,bD hu,Result.andThen_ok,iu p,h1,r,g1,aaU,aaZ,AB C g2 hk,ly _ p]
       .exact⟨b,o0,s,d,rfl,dM _ _ _,(mj (μ:=μ) c.df x p).2,eP.LX d c.df x p o f hi _ (e':={ y with key:=kv,val:=g }) (λM u=>by rw[g1] at u;simp at u;subst u;rfl) hk G g4⟩
     .simp at h
    .simp at h
   .rename_i B
    simp only[aaK,aaN] at h
    obtain⟨rfl,rfl,rfl⟩:=h
    have l:=c.obj id (by simp)
    rw[hH] at l
    obtain⟨a,p,o,f⟩:=vr l d
    have x:=c.ix _ _ _ _ d
    obtain⟨h1,D,r,z⟩:=rQ (w:=w) B hk o (λi hi=>let ⟨y,h1,r,_⟩:=f i hi; ⟨y,h1,r⟩)
    cases D with
    | some q=>exact z.elim
    | none =>
     refine bq.skip (w':={ w with heap:=w.heap.setIfInBounds b (.map (a.push { key:=kv,val:=g,born:=clock }) (clock+1)) }) (μ':=μ) ?_ ⟨rfl,rfl,rfl,by simp⟩ ?_
     .simp only[Instr.mapUpdate,Sem.run_bind,bD hu,Result.andThen_ok,iu p,h1,r,ly _ p]
     .exact⟨b,o0,s,d,rfl,dM _ _ _,(mj (μ:=μ) c.df x p).2,eP.Ox d c.df x p o f hk G⟩
   .simp at h
  .simp at h
 .simp at h
theorem Yk {a b:V} {x y:Value} (h1:aD Z μ w.heap a x) (c:aD Z μ w.heap b y):aD Z μ w.heap (.bb [a,b]) (.tuple #[x,y]):=by
 refine .bb _ _ rfl (λi hi=>?_)
 match i,hi with
 | 0,_=>exact h1
 | 1,_=>exact c
theorem LQ {t:TypeId} {m k:V} {N kv:Value} (h:fe P t m k H=some (v,eff,rd)) (hm:aD Z μ w.heap m N) (hk:aD Z μ w.heap k kv) (c:Ctx Z μ w.heap H rd n eff):
  bq Z μ w n v eff ((do pure (Next.value (<-Instr.mapEntry t N kv)):Sem Next).run P w):=by
 unfold fe at h
 split at h
 .rename_i kt et id D
  have hu:=pY D
  obtain⟨b,o0,s,d,rfl⟩:=y3 hm
  split at h
  .rename_i es clock hH
   split at h
   .rename_i i E
    split at h
    .rename_i O v0 Q he
     split at h
     .rename_i F
      simp only[aaK,aaN] at h
      obtain⟨rfl,rfl,rfl⟩:=h
      have g:=c.obj id (by simp)
      rw[hH] at g
      obtain⟨a,r,l,f⟩:=vr g d
      have B:=c.ix _ _ _ _ d
      have hi:=nh he
      obtain⟨y,g1,g2,g3,g4⟩:=f i hi
      simp only[aaG,he,aaZ] at g2 g3 g4
      obtain⟨h1,G,u,C⟩:=rQ (w:=w) E hk l (λi hi=>let ⟨y,h1,u,_⟩:=f i hi; ⟨y,h1,u⟩)
      cases G with
      | none=>exact C.elim
      | some q =>
       obtain⟨j,R⟩:=q
       obtain⟨rfl,I⟩:=C
       rw[g1] at I
       simp only[aaU,aaK] at I
       subst I
       have p:=mj (μ:=μ) (o:=.map (a.modify i λe=>{ e with key:=kv }) clock) c.df B r
       refine bq.value (w':={ w with heap:=w.heap.setIfInBounds b (.map (a.modify i λe=>{ e with key:=kv }) clock) }) (μ':=μ) (x:=.tuple #[y.val,goInt y.born]) ?_ ?_ ⟨rfl,rfl,rfl,by simp⟩ ?_
       .simp only[Instr.mapEntry,Sem.run_bind,bD hu,Result.andThen_ok,iu r,h1,u,g1,aaU,aaZ,AB F g2 hk,ly _ r,Sem.run_pure]
       .refine aD.mono p.1 (Yk g3 ?_)
        rw[g4];exact .val _ rfl
       .exact⟨b,o0,s,d,rfl,dM _ _ _,p.2,eP.LX d c.df B r l f hi _ (e':={ y with key:=kv }) (λS A=>by rw[g1] at A;simp at A;subst A;rfl) hk g3 g4⟩
     .simp at h
    .simp at h
   .rename_i E
    split at h
    .rename_i z J
     obtain⟨ti,K,L,M,rfl⟩:=BE J
     simp only[aaK,aaN] at h
     obtain⟨rfl,rfl,rfl⟩:=h
     have g:=c.obj id (by simp)
     rw[hH] at g
     obtain⟨a,r,l,f⟩:=vr g d
     have B:=c.ix _ _ _ _ d
     obtain⟨h1,G,u,C⟩:=rQ (w:=w) E hk l (λi hi=>let ⟨y,h1,u,_⟩:=f i hi; ⟨y,h1,u⟩)
     cases G with
     | some q=>exact C.elim
     | none =>
      have p:=mj (μ:=μ) (o:=.map (a.push { key:=kv,val:=K,born:=clock }) (clock+1)) c.df B r
      refine bq.value (w':={ w with heap:=w.heap.setIfInBounds b (.map (a.push { key:=kv,val:=K,born:=clock }) (clock+1)) }) (μ':=μ) (x:=.tuple #[K,goInt clock]) ?_ ?_ ⟨rfl,rfl,rfl,by simp⟩ ?_
      .simp only[Instr.mapEntry,Sem.run_bind,bD hu,Result.andThen_ok,iu r,h1,u,kZ L M,ly _ r,Sem.run_pure]
      .exact aD.mono p.1 (Yk (iB _) (.val _ rfl))
      .exact⟨b,o0,s,d,rfl,dM _ _ _,p.2,eP.Ox d c.df B r l f hk (iB _)⟩
    .simp at h
   .simp at h
  .simp at h
 .simp at h
theorem GP {t:TypeId} {m s A:V} {B C d:Value} (h:lN m s A H=some (v,eff,rd)) (hm:aD Z μ w.heap m B) (J:aD Z μ w.heap s C) (K:aD Z μ w.heap A d) (c:Ctx Z μ w.heap H rd n eff):
  bq Z μ w n v eff ((do Instr.entryStore t B C d;pure Next.skip:Sem Next).run P w):=by
 unfold lN at h
 split at h
 .rename_i id q L
  obtain⟨k,rfl⟩:=mD L
  have u:=fc J
  subst u
  obtain⟨b,o0,s,f,rfl⟩:=y3 hm
  split at h
  .rename_i es clock hH
   split at h
   .rename_i i D
    split at h
    .rename_i M v0 N he
     simp only[aaK,aaN] at h
     obtain⟨rfl,rfl,rfl⟩:=h
     have p:=c.obj id (by simp)
     rw[hH] at p
     obtain⟨a,r,x,g⟩:=vr p f
     have E:=c.ix _ _ _ _ f
     have hi:=nh he
     obtain⟨y,g1,g2,g3,g4⟩:=g i hi
     simp only[aaG,he,aaZ] at g2 g3 g4
     have l:a.findIdx? (λe=>(e.born:Int)==(q:Int))=some i:=by
      rw[Array.findIdx?_eq_some_iff_getElem]
      rw[List.findIdx?_eq_some_iff_getElem] at D
      obtain⟨O,hp,z⟩:=D
      refine⟨by omega,?_,?_⟩
      .have:a[i]=y:=by have:=g1;rw[aa3 (by omega)] at this;simpa using this
       rw[this,g4]
       have:es[i]=(M,v0,N):=by have:=he;rw[aaH hi] at this;simpa using this
       rw[this] at hp
       simp at hp ⊢;omega
      .intro j Q
       obtain⟨F,G,_,_,I⟩:=g j (by omega)
       have h1:a[j]=F:=by rw[aa3 (by omega)] at G;simpa using G
       have R:=z j Q
       simp only[aaG,aaH (show j<es.length by omega),aaZ] at I
       rw[h1,I]
       simp at R ⊢;omega
     refine bq.skip (w':={ w with heap:=w.heap.setIfInBounds b (.map (a.modify i λe=>{ e with val:=d }) clock) }) (μ':=μ) ?_ ⟨rfl,rfl,rfl,by simp⟩ ?_
     .simp only[Instr.entryStore,Sem.run_bind,Result.andThen_ok,iu r,asInt,asIntOf,Sem.run_pure,l,ly _ r]
     .exact⟨b,o0,s,f,rfl,dM _ _ _,(mj (μ:=μ) c.df E r).2,eP.LX f c.df E r x g hi _ (e':={ y with val:=d }) (λF o=>by rw[g1] at o;simp at o;subst o;rfl) g2 K g4⟩
    .simp at h
   .simp at h
  .simp at h
 .simp at h
theorem PB {t:TypeId} {m k:V} {L kv:Value} {x:Array TypeId} {ty:TypeId} (h:yM P t m k H=some (v,eff,rd)) (D:x[0]?=some t) (hm:aD Z μ w.heap m L) (hk:aD Z μ w.heap k kv) (c:Ctx Z μ w.heap H rd n eff):
  bq Z μ w n v eff ((do pure (Next.value (<-Builtin.delete_ x ty #[L,kv])):Sem Next).run P w):=by
 unfold yM at h
 split at h
 .rename_i kt et id F
  have hu:=pY F
  obtain⟨b,o0,s,z,rfl⟩:=y3 hm
  split at h
  .rename_i es clock hH
   have start:eP Z μ w.heap id (.map es clock)->∀r,nt P kt k es.isEmpty es=some r->∃a:Array MapEntry,w.heap[b]?=some (.map a clock)/\a.size=es.length /\
     (∀i,i<es.length->∃y,a[i]?=some y/\aD Z μ w.heap (es.getD i default).1 y.key/\aD Z μ w.heap (es.getD i default).2.1 y.val/\y.born=(es.getD i default).2.2) /\
     (∀i,r=some i->(Builtin.delete_ x ty #[.map (some b),kv]).run P w=.ok (.tuple #[]) { w with heap:=w.heap.setIfInBounds b (.map (a.eraseIdxIfInBounds i) clock) }) /\
     (r=none->(Builtin.delete_ x ty #[.map (some b),kv]).run P w=.ok (.tuple #[]) { w with heap:=w.heap.setIfInBounds b (.map a clock) }):=by
    intro d r hr
    obtain⟨a,l,f,g⟩:=vr d z
    obtain⟨h1,M,E,G⟩:=rQ (w:=w) hr hk f (λi hi=>let ⟨y,h1,E,_⟩:=g i hi; ⟨y,h1,E⟩)
    have A:a.isEmpty=es.isEmpty:=by
     simp only[Array.isEmpty,f];cases es<;>simp
    refine⟨a,l,f,g,λi hi=>?_,λhi=>?_⟩
    .subst hi
     cases M with
     | none=>exact G.elim
     | some q =>
      obtain⟨j,S⟩:=q
      obtain⟨rfl,T⟩:=G
      simp only[Builtin.delete_,abp,abb,abv,D,Sem.run_bind,bD hu,Result.andThen_ok,iu l,A,h1,E,ly _ l,Sem.run_pure]
    .subst hi
     cases M with
     | some q=>exact G.elim
     | none =>
      simp only[Builtin.delete_,abp,abb,abv,D,Sem.run_bind,bD hu,Result.andThen_ok,iu l,A,h1,E,ly _ l,Sem.run_pure]
   split at h
   .rename_i i I
    simp only[aaK,aaN] at h
    obtain⟨rfl,rfl,rfl⟩:=h
    have d:=c.obj id (by simp)
    rw[hH] at d
    obtain⟨a,l,f,g,p,_⟩:=start d _ I
    have R:=c.ix _ _ _ _ z
    have u:=mj (μ:=μ) (o:=.map (a.eraseIdxIfInBounds i) clock) c.df R l
    refine bq.value (μ':=μ) (p i rfl) (.any _) ⟨rfl,rfl,rfl,by simp⟩ ⟨b,o0,s,z,rfl,dM _ _ _,u.2,?_⟩
    intro U W s1 B
    rw[z] at B
    simp only[aaK,aaN] at B
    obtain⟨rfl,rfl,rfl⟩:=B
    have J:∀j,(a.eraseIdxIfInBounds i)[j]?=if j<i then a[j]? else a[j+1]?:=by
     intro j
     have:(a.eraseIdxIfInBounds i)[j]?=(a.toList.eraseIdx i)[j]?:=by rw[<-acE,Array.toList_eraseIdxIfInBounds]
     rw[this,List.getElem?_eraseIdx]
     split<;>simp
    refine⟨_,eW (fC l),?_,λj X=>?_⟩
    .rw[<-Array.length_toList,Array.toList_eraseIdxIfInBounds,List.length_eraseIdx,List.length_eraseIdx]
     simp[f]
    .have K:(es.eraseIdx i).getD j default=if j<i then es.getD j default else es.getD (j+1) default:=by
      simp only[aaG,List.getElem?_eraseIdx];split<;>rfl
     rw[J,K]
     have N:(es.eraseIdx i).length<=es.length/\(i<es.length->(es.eraseIdx i).length=es.length-1):=by
      rw[List.length_eraseIdx];split<;>omega
     by_cases e:j<i
     .rw[aaL e,aaL e]
      obtain⟨y,g1,g2,g3,g4⟩:=g j (by omega)
      exact⟨y,g1,g2.mono u.1,g3.mono u.1,g4⟩
     .rw[aaI e,aaI e]
      have:j+1<es.length:=by
       rcases abg i es.length with O | O
       .have:=N.2 O;omega
       .have:=N.1;omega
      obtain⟨y,g1,g2,g3,g4⟩:=g (j+1) this
      exact⟨y,g1,g2.mono u.1,g3.mono u.1,g4⟩
   .rename_i I
    simp only[aaK,aaN] at h
    obtain⟨rfl,rfl,rfl⟩:=h
    have d:=c.obj id (by simp)
    rw[hH] at d
    obtain⟨a,l,f,g,_,p⟩:=start d _ I
    have C:w.heap.setIfInBounds b (.map a clock)=w.heap:=by
     apply Array.ext_getElem?
     intro k
     simp only[abZ]
     split
     .rename_i hk
      subst hk
      rw[aaL (fC l)];exact l.symm
     .rfl
    have Q:=p rfl
    rw[C] at Q
    exact bq.here Q (.any _)
   .simp at h
  .simp at h
 .simp at h
end
section
variable {Z:Nat->Prop} {μ μ':Mu} {w w':World} {P:Program} {H:View} {n:Nat} {v:V} {eff:bo} {rd:List Nat}
theorem XV {t:TypeId} {x:V} {o:Value} {f:Array TypeId} {ty:TypeId} (h:xI P t x H=some (v,eff,rd)) (d:f[0]?=some t) (i:aD Z μ w.heap x o) (c:Ctx Z μ w.heap H rd n eff):
  bq Z μ w n v eff ((do pure (Next.value (<-Builtin.len_ f ty #[o])):Sem Next).run P w):=by
 unfold xI at h
 split at h
 .rename_i e hu
  simp only[aaT] at h
  obtain⟨m,hm,h⟩:=h
  simp only[aaN] at h
  obtain⟨rfl,rfl,rfl⟩:=h
  obtain⟨ad,cap,rfl,_⟩:=eF i hm
  exact bq.here (x:=goInt m) (by simp[Builtin.len_,d,bD hu]) (.val _ rfl)
 .rename_i k e hu
  split at h
  .rename_i id
   obtain⟨b,o0,s,j,rfl⟩:=y3 i
   split at h
   .rename_i es clock hH
    simp only[aaK,aaN] at h
    obtain⟨rfl,rfl,rfl⟩:=h
    have g:=c.obj id (by simp)
    rw[hH] at g
    obtain⟨a,p,l,q⟩:=vr g j
    refine bq.here (x:=goInt es.length) ?_ (.val _ rfl)
    simp[Builtin.len_,d,bD hu,iu p,l]
   .simp at h
  .simp only[aaK,aaN] at h
   obtain⟨rfl,rfl,rfl⟩:=h
   have:=fc i
   subst this
   exact bq.here (x:=goInt 0) (by simp[Builtin.len_,d,bD hu]) (.val _ rfl)
  .simp at h
 .rename_i hu
  split at h
  .rename_i s
   simp only[aaK,aaN] at h
   obtain⟨rfl,rfl,rfl⟩:=h
   have:=fc i
   subst this
   exact bq.here (x:=goInt s.size) (by simp[Builtin.len_,d,bD hu]) (.val _ rfl)
  .simp at h
 .rename_i m e hu
  simp only[aaK,aaN] at h
  obtain⟨rfl,rfl,rfl⟩:=h
  exact bq.here (x:=goInt m) (by simp[Builtin.len_,d,bD hu]) (.val _ rfl)
 .simp at h
theorem DB {b:Nat} {s:ByteArray} {pos:Nat} (h:w.heap[b]?=some (.stringIter s pos)):(getObj b).run P w=.ok (.stringIter s pos) w:=by
 simp[getObj,Sem.run,h]
theorem MP {b:Nat} {s:ByteArray} {pos:Nat} (o:Obj) (h:w.heap[b]?=some (.stringIter s pos)):(setObj b o).run P w=.ok () { w with heap:=w.heap.setIfInBounds b o }:=by
 simp[setObj,Sem.run,h]
theorem VU {x:V} {m:Value} {ty:TypeId} (h:Ge x H=some (v,eff,rd)) (o:aD Z μ w.heap x m) (c:Ctx Z μ w.heap H rd n eff):
  bq Z μ w n v eff ((do pure (Next.value (<-Instr.next m true ty)):Sem Next).run P w):=by
 unfold Ge at h
 split at h
 .rename_i id
  obtain⟨b,o0,s,a,rfl⟩:=pr o
  split at h
  .rename_i st pos hH
   split at h
   .rename_i g
    simp only[aaK,aaN] at h
    obtain⟨rfl,rfl,rfl⟩:=h
    have d:=c.obj id (by simp)
    rw[hH] at d
    obtain⟨rfl,l⟩:=d b o0 s a
    have r:=c.ix _ _ _ _ a
    have p:gn w.heap (w.heap.setIfInBounds b (.stringIter st (pos+(Utf8.decode st pos).2))):=by
     intro k q e f hk
     by_cases h:b=k
     .subst h;rw[l] at hk;simp at hk
     .exact⟨q,f,by simp[h,hk],rfl⟩
    refine bq.value (w':={ w with heap:=w.heap.setIfInBounds b (.stringIter st (pos+(Utf8.decode st pos).2)) }) (μ':=μ) (x:=.tuple #[.bool true,goInt pos,.int .i32 (Utf8.decode st pos).1]) ?_ ?_ ⟨rfl,rfl,rfl,by simp⟩ ?_
    .simp only[Nat.zero_mul,acf,Instr.next,Sem.run_bind,DB l,Result.andThen_ok,g,if_true,MP _ l,Sem.run_pure]
    .refine .bb _ _ rfl (λi hi=>?_)
     match i,hi with
     | 0,_=>exact .val _ rfl
     | 1,_=>exact .val _ rfl
     | 2,_=>exact .val _ rfl
    .refine⟨b,0,s,a,rfl,dM _ _ _,p,?_⟩
     intro t u s1 j
     rw[a] at j
     simp only[aaK,aaN] at j
     obtain⟨rfl,rfl,rfl⟩:=j
     exact⟨rfl,eW (fC l)⟩
   .rename_i g
    simp only[aaK,aaN] at h
    obtain⟨rfl,rfl,rfl⟩:=h
    have d:=c.obj id (by simp)
    rw[hH] at d
    obtain⟨rfl,l⟩:=d b o0 s a
    refine bq.here (x:=.tuple #[.bool false]) ?_ (.bb _ _ rfl (λi hi=>?_))
    .simp only[Nat.zero_mul,acf,Instr.next,Sem.run_bind,DB l,Result.andThen_ok,g,if_false,Sem.run_pure]
    .match i,hi with
     | 0,_=>exact .val _ rfl
  .simp at h
 .simp at h
theorem IS:∀(a:List Int) (s:ByteArray),a.foldl (λr n=>r.push (UInt8.ofNat n.toNat)) s=⟨s.data++(a.map λn=>UInt8.ofNat n.toNat).toArray⟩
 | [],s=>by simp
 | n::a,s=>by
  simp only[abr,aba]
  rw[IS a]
  congr 1
  apply Array.ext'
  simp[ByteArray.push]
theorem Gx:∀(xs:List (List V)) (l:List UInt8),mC xs=some l->∃a:List Int,xs=a.map (λn=>[V.val (.int .u8 n)])/\l=a.map λn=>UInt8.ofNat n.toNat
 | [],l,h=>by
  simp only[mC,aaK] at h;subst h
  exact⟨[],rfl,rfl⟩
 | x::r,l,h=>by
  unfold mC at h
  split at h
  .simp at *
  .rename_i n c heq
   simp only[List.cons.injEq] at heq
   obtain⟨rfl,rfl⟩:=heq
   simp only[aaT] at h
   obtain⟨l',b,rfl⟩:=h
   obtain⟨a,rfl,rfl⟩:=Gx _ _ b
   exact⟨n::a,rfl,rfl⟩
  .simp at h
theorem WS {esz:Nat} {es:List (List V)} {c:Array Value} {e:TypeId} {f:Nat × Nat}
  (k:μ n=none) (df:∀b,Z b->b<w.heap.size) (l:f.1=f.2∨c.size<=f.1) (m:es.length*esz<=c.size) (hlen:∀i,i<es.length->(es.getD i []).length=esz)
  (h:∀i j,i<es.length->j<esz->∃x,c[i*esz+j]?=some x/\aD Z μ w.heap ((es.getD i []).getD j .any) x):
  eP Z (μ.set n (w.heap.size,0,esz)) (w.heap.push (.cells c e f)) n (.arr esz es):=by
 intro b o0 s a
 simp only[Mu.set,if_true,aaK,aaN] at a
 obtain⟨rfl,rfl,rfl⟩:=a
 have hm:iP Z Z μ (μ.set n (w.heap.size,0,esz)) w.heap (w.heap.push (.cells c e f)):=by
  refine⟨λ_ h=>h,λb g=>?_,λid x a=>?_,?_⟩
  .have:=df b g
   rw[acw,aaI (by omega)]
  .by_cases d:id=n
   .subst d;simp[k] at a
   .simp[Mu.set,d,a]
  .intro b o e' r g
   have:=fC g
   exact⟨o,_,by rw[acw,aaI (by omega)];exact g,rfl⟩
 refine⟨rfl,⟨c,e,f,by simp,l,by simpa using m⟩,hlen,λi j hi p=>?_⟩
 obtain⟨x,a,q⟩:=h i j hi p
 exact⟨x,by simp[cellAt,a],q.mono hm⟩
theorem MC {b:Nat} {c:Array Value} {e:TypeId} {f:Nat × Nat} (h:w.heap[b]?=some (.cells c e f)):
  ∃d,(w.freeze ⟨b,c.size,none⟩ 1) = { w with heap:=w.heap.setIfInBounds b (.cells c e d) }/\((f.1=f.2∨c.size<=f.1)->(d.1=d.2∨c.size<=d.1)):=by
 obtain⟨lo,up⟩:=f
 refine⟨if lo==up then (c.size,c.size+1) else (min lo c.size,max up (c.size+1)),?_,λj=>?_⟩
 .unfold World.freeze
  rw[aaI (by omega)]
  congr 1
  apply Array.ext_getElem?
  intro i
  simp only[acn,abZ]
  by_cases hi:b=i
  .subst hi
   have a:=fC h
   have k:w.heap[b]=.cells c e (lo,up):=by simpa [aa3 a] using h
   simp[k,a]
  .simp[hi]
 .right
  simp only at j
  split
  .exact aaQ _
  .rename_i g
   simp only[abJ] at g
   simp only;omega
theorem MK {s d:TypeId} {x:V} {xv:Value} (h:oW P s d x H n=some (v,eff,rd)) (t:aD Z μ w.heap x xv) (c:Ctx Z μ w.heap H rd n eff):
  bq Z μ w n v eff ((do pure (Next.value (<-convert s d xv)):Sem Next).run P w):=by
 unfold oW at h
 split at h
 .rename_i e E u
  split at h
  .rename_i he
   split at h
   .rename_i xs an m G Q
    simp only[aaT] at h
    obtain⟨l,R,h⟩:=h
    simp only[aaN] at h
    obtain⟨rfl,rfl,rfl⟩:=h
    obtain⟨p,rfl,rfl⟩:=Gx _ _ R
    obtain⟨ad,cap,rfl,_⟩:=eF t Q
    have hlen:=(Bx (P:=P) (size:=1) G t).1
    simp only[Builtin.lenOf,Sem.run_pure,Result.ok.injEq,aaM,and_true] at hlen
    subst hlen
    obtain⟨S,y,_,r⟩:=sg (P:=P) (size:=1) G t c.obj (by simp)
    have N:=r _ (aaQ _)
    have o:S.size=p.length:=by have:=y.len;simpa using this
    rw[kx S (by simpa using y.len)] at N
    have I:S=(p.map (Value.int .u8)).toArray:=by
     apply Array.ext
     .simp[o]
     .intro i h1 h2
      have hi:i<p.length:=by omega
      have:=y.rel i 0 (by simpa using hi) (by omega)
      simp only[aaG,aaJ,aaH hi,aaU,aaZ,abb,acY,acf,aaW,aa3 h1] at this
      have:=fc this
      simpa using this
    have J:(Conv.bytesToString (.slice ad p.length cap)).run P w=.ok (.string ⟨(p.map λn=>UInt8.ofNat n.toNat).toArray⟩) w:=by
     cases ad with
     | none =>
      have:p=[]:=by
       simp only[Builtin.firstCells,Sem.run_pure,Result.ok.injEq,and_true] at N
       rw[<-N] at o
       simp at o
       exact ab3.1 o.symm
      subst this
      rfl
     | some a =>
      have h9:(loadCells a p.length).run P w=.ok (p.map (Value.int .u8)).toArray w:=by
       rw[<-I]
       simpa [Builtin.firstCells] using N
      rw[run_bytesToString w a p.length cap p h9,IS]
      congr 2
      simp
    refine bq.here (x:=.string ⟨(p.map λn=>UInt8.ofNat n.toNat).toArray⟩) ?_ (.val _ rfl)
    rw[run_convert_bytes_string w s d e ad p.length cap E he u]
    exact J
   .simp at h
  .simp at h
 .rename_i e st E u
  split at h
  .rename_i he
   simp only[aaK,aaN] at h
   obtain⟨rfl,rfl,rfl⟩:=h
   unfold iy
   have:=fc t
   subst this
   have K:st.size<=grownCap w st.size 0 e:=by
    unfold grownCap Question.cut;exact Nat.le_add_right _ _
   have L:(bytesRow st (grownCap w st.size 0 e)).size=grownCap w st.size 0 e:=by
    simp only[bytesRow,Array.size_append,Array.size_map,Array.size_replicate]
    have:st.data.size=st.size:=rfl
    omega
   refine bq.value (μ':=μ.set n (w.heap.size,0,1)) (run_bytes_of_string w s d e st E u he) ?_ (iH _ _) ?_
   .rw[heap_alloc,fT]
    have:=aD.sl (Z:=Z) (μ:=μ.set n (w.heap.size,0,1)) (hp:=w.heap.push (.cells (bytesRow st (grownCap w st.size 0 e)) e ((bytesRow st (grownCap w st.size 0 e)).size,(bytesRow st (grownCap w st.size 0 e)).size+1))) n 0 st.size 1 w.heap.size 0 (grownCap w st.size 0 e) _ e _ (by simp[Mu.set]) K (by simp;exact⟨rfl,rfl⟩) (by rw[L];simp)
    simpa using this
   .refine⟨w.heap.size,0,1,aaQ _,by rw[heap_alloc,fT];simp,rfl,by rw[heap_alloc,fT];exact fH _ _,?_⟩
    rw[heap_alloc,fT]
    have R:(st.data.toList.map λb=>([V.val (Value.int .u8 b.toNat)]:List V)).length=st.size:=by rw[aaM,bsize]
    refine WS c.new c.df (.inr (aaQ _)) (by rw[R,L];omega) ?_ ?_
    .intro i hi
     have q:i<st.data.toList.length:=by simpa using hi
     simp only[aaG,aaJ,aaH q,aaU,aaZ,aaS,abe]
    .intro i j hi hj
     obtain rfl:j=0:=by omega
     have q:i<st.data.size:=by simpa using hi
     refine⟨.int .u8 (st.data[i]).toNat,?_,?_⟩
     .simp only[bytesRow,acY,acf]
      rw[abE (by simpa using q),Array.getElem?_map,aa3 q]
      rfl
     .simp only[aaG,aaJ,acE,aa3 q,aaU,aaZ,abb]
      exact .val _ rfl
  .simp at h
 .rename_i e1 e2 id off len esz E u
  split at h
  .rename_i hc
   obtain⟨T,U⟩:=hc
   subst T
   rw[E] at u
   simp only[aaK,TypeDesc.slice.injEq] at u
   subst u
   split at h
   .rename_i he
    split at h
    .rename_i z es hH
     simp only[aaK,aaN] at h
     obtain⟨rfl,rfl,rfl⟩:=h
     have M:=c.obj id (by simp)
     rw[hH] at M
     cases t with
     | qq=>exact absurd rfl U
     | sl _ _ _ _ b o0 cap F e' f hm hle g W =>
      obtain⟨rfl,⟨c2,e2,f2,A,X,Y⟩,h3,h4⟩:=M b o0 esz hm
      rw[g] at A
      simp only[aaK,Obj.cells.injEq] at A
      obtain⟨rfl,rfl,rfl⟩:=A
      obtain⟨O,ab,ae⟩:=MC g
      have hz:=c.ix _ _ _ _ hm
      have B:=fC g
      have C:iP Z Z μ μ w.heap (w.heap.setIfInBounds b (.cells F e' O)):=by
       refine⟨λ_ h=>h,λk hk=>dM w.heap b _ k (c.df k hk) (λe=>hz (e▸hk)),λ_ _ h=>h,?_⟩
       intro k x e0 f0 hk
       by_cases hb:b=k
       .subst hb
        rw[g] at hk
        simp only[aaK,Obj.cells.injEq] at hk
        obtain⟨rfl,rfl,rfl⟩:=hk
        exact⟨F,O,eW B,rfl⟩
       .exact⟨x,f0,by simp[hb,hk],rfl⟩
      refine bq.value (w':={ w with heap:=w.heap.setIfInBounds b (.cells F e' O) }) (μ':=μ) (x:=.slice (some ⟨b,o0+off*esz,none⟩) len cap) ?_ ((aD.sl id off len esz b o0 cap F e' f hm hle g W).mono C) ⟨rfl,rfl,rfl,by simp⟩ ?_
      .have al:w.shape? b=some (e',F.size):=by simp[World.shape?,g]
       simp only[convert,Sem.run_bind,bD E,Result.andThen_ok,bD he,beq_self_eq_true,markStringish,run_shape,al,run_freeze,ab,Sem.run_pure]
      .refine⟨b,o0,esz,hm,rfl,dM _ _ _,C.shape,?_⟩
       intro b1 q1 s1 D
       rw[hm] at D
       simp only[aaK,aaN] at D
       obtain⟨rfl,rfl,rfl⟩:=D
       refine⟨rfl,⟨F,e',O,eW B,ae X,Y⟩,h3,λi j hi hj=>?_⟩
       obtain⟨x,t,hv⟩:=h4 i j hi hj
       refine⟨x,?_,hv.mono C⟩
       simp only[cellAt,eW B]
       simpa only [cellAt,g] using t
    .simp at h
   .simp at h
  .simp at h
 .simp at h
theorem uY {o:Oper} {T:Env} {a:Act} (h:eA P o T=some (v,eff,rd)) (g:∀x∈o.op.operands,aD Z μ w.heap (ev T x) (a.eval x))
  (i:∀c:Operand->Value,(∀x∈o.op.operands,c x=a.eval x)->execOp c o=execOp a.eval o):bq Z μ w n v eff ((execOp a.eval o).run P w):=by
 unfold eA at h
 split at h
 .rename_i b
  split at h
  .rename_i x d
   split at h
   .rename_i hp
    simp only[aaK,aaN] at h
    obtain⟨rfl,rfl,rfl⟩:=h
    rw[i] at d
    .exact⟨.value x,w,μ,sm _ d w,.inl ⟨x,rfl,.val _ hp⟩,eX.refl _,jI⟩
    .intro y e
     rw[Array.all_eq_true_iff_forall_mem] at b
     obtain⟨z,f⟩:=Option.isSome_iff_exists.1 (b y e)
     rw[f]
     exact s9 (g y e) f
   .simp at h
  .simp at h
 .simp at h
theorem DL {T:Env} {a:Act}:∀(l:List (Nat × Operand)),(∀x∈l.map (·.2),aD Z μ w.heap (ev T x) (a.eval x))->Ho Z μ w.heap (l.map λ(i,x)=>(i,ev T x)) (l.map λ(i,x)=>(i,a.eval x))
 | [],_=>trivial
 | (i,x)::r,h=>⟨rfl,h x (by simp),DL r (λy b=>h y (by simp at b ⊢;exact .inr b))⟩
theorem Oc {T:Env} {a:Act} (xs:Array Operand) (h:∀x∈xs,aD Z μ w.heap (ev T x) (a.eval x)):
  (xs.toList.map (ev T)).length=(xs.map a.eval).size/\∀i,i<(xs.toList.map (ev T)).length->aD Z μ w.heap ((xs.toList.map (ev T)).getD i .any) ((xs.map a.eval).getD i undef):=by
 refine⟨by simp,λi hi=>?_⟩
 have b:i<xs.size:=by simpa using hi
 have:=h xs[i] (Array.getElem_mem _)
 simpa [aaG,aaW,b] using this
theorem Hf {T:Env} {a:Act} (o:Option Operand) (h:∀x∈o.toArray,aD Z μ w.heap (ev T x) (a.eval x)):Bh Z μ w.heap (o.map (ev T)) (o.map a.eval):=by
 cases o with
 | none=>trivial
 | some x=>exact h x (by simp)
theorem YP {cs:List V} {x:Value} {t:TypeId} (h:nP cs n=some (v,eff,rd)) (hr:cs.all aL=true->gG Z μ w.heap cs x.cells.toList) (c:Ctx Z μ w.heap H rd n eff):
  bq Z μ w n v eff ((do pure (Next.value (<-Instr.box t x)):Sem Next).run P w):=by
 have:=Nw (P:=P) (t:=t) h hr c
 simpa [Instr.box] using this
end
end Gv
