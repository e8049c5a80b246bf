/-
  Part 2 of the proof: what the machine does and what the functions answer.
  Conditions: those that each lemma names.
-/
import Derived.Laws.BytesString
import Derived.Laws.IdiomStrings
import Derived.Test.YtiophifnkakjgaaGreatSGzC3A
set_option linter.unusedSimpArgs false
set_option linter.unusedVariables false
set_option maxRecDepth 100000
set_option maxHeartbeats 20000000
namespace Gv
open Go
section
variable {Z:Nat->Prop} {μ μ':Mu} {w w':World} {P:Program} {H:View} {n:Nat} {v:V} {eff:aS} {rd:List Nat}
theorem OH {t1:TypeId} (a:oe P t1=true):∃ d,P.underlying t1=some d/\∀ k,d≠.int k:=by
 unfold oe at a
 cases hu:P.underlying t1 with
 | none=>simp[hu] at a
 | some d=>refine⟨d,rfl,λk e=>?_⟩;subst e;simp[hu] at a
theorem CZ {t0 t1 e:TypeId} {ti:TypeInfo} {b:Array TypeId} {ty:TypeId} {base:Option Addr} {sLen sCap m:Nat} {g:Value} {new:Array Value}
  (h:b[0]?=some t0) (i:b[1]?=some t1) (j:oe P t1=true) (f:P.underlying t0=some (.slice e)) (l:P.info? e=some ti)
  (o:(Builtin.lenOf g).run P w=.ok m w) (hle:sLen+m<=sCap) (p:(Builtin.firstCells ti.size m g).run P w=.ok new w)
  (c:(match base with | some a=>storeCells (a.add (sLen * ti.size)) new.toList | none=>pure ()).run P w=.ok () w') :
  (Builtin.append_ b ty #[.slice base sLen sCap,g]).run P w=.ok (.slice base (sLen+m) sCap) w':=by
 obtain⟨d,q,n⟩:=OH j
 cases d with
 | int k=>exact absurd rfl (n k)
 | _ =>
 simp only[Builtin.append_,Xg,WX,Xl,h,i,Sem.run_bind,bh f,Result.andThen_ok,dx l,bh q,Sem.run_pure,WR,if_false,o,Bool.not_false,if_true]
 rw[Wv hle]
 simp only[Sem.run_bind,p,Result.andThen_ok,Sem.run_pure]
 cases base with
 | none=>simp only[Sem.run_pure,Result.ok.injEq,true_and] at c;subst c;rfl
 | some a=>simp only[Sem.run_bind,c,Result.andThen_ok,Sem.run_pure]
theorem CW (v:Value):(fA v).cells.length=v.cells.size:=by
 have h1:∀ v,(nO v).cells.length=1:=by
  intro v
  have:∀ x:V,(∀ cs,x≠.agg cs)->x.cells.length=1:=by
   intro x c
   cases x <;> first | rfl | (rename_i cs;exact absurd rfl (c cs))
  apply this
  intro cs
  cases v with
  | slice a len cap =>
   cases a with
   | none =>
    cases len with
    | zero=>cases cap <;> simp[nO]
    | succ l=>simp[nO]
   | some a=>simp[nO]
  | _=>simp only[nO];split <;> simp
 cases v with
 | agg cs=>simp[fA,V.cells,Value.cells]
 | func fn a b =>
  cases fn with
  | func f=>simp only[fA];split <;> simp[V.cells,Value.cells]
  | _=>simp only[fA];rw[h1];rfl
 | _=>simp only[fA];rw[h1];rfl
theorem Od {e:TypeId} {ti:TypeInfo} (b:P.info? e=some ti) (d:(zeroCells P e).map List.length=some ti.size):∃ g:Array Value,g.size=ti.size/\∀ w',∃ c,(zeroValue e).run P w'=.ok c w'/\c.cells=g:=by
 cases a:zeroCells P e with
 | none=>simp[a] at d
 | some z =>
  obtain⟨c,f,rfl⟩:=iV b a
  refine⟨c.cells,?_,λw'=>⟨c,kb b f w',rfl⟩⟩
  rw[a] at d
  simp at d
  rw[<-d,CW]
theorem eY (w:World):w.drew.heap=w.heap:=rfl
theorem gX (w:World) (o:Obj):ep w (w.drew.alloc o):=⟨rfl,rfl,rfl,by rw[heap_alloc,eY];simp⟩
theorem mL {l r:List (List V)} {i:Nat} (h:i < l.length):(l ++ r).getD i []=l.getD i []:=by
 simp[Wo,WS h]
theorem lT {l r:List (List V)} {i:Nat} (h:l.length<=i):(l ++ r).getD i []=r.getD (i - l.length) []:=by
 simp[Wo,Xi h]
theorem E6 {e:TypeId} {size:Nat} {ys xs:List (List V)} {old f rest:Array Value} (k:μ n=none) (cw:∀ b,Z b->b < w.heap.size)
  (h1:Flat Z μ w.heap size ys old) (h:Flat Z μ w.heap size xs f) (s1:∀ e∈ys,e.length=size) (s2:∀ e∈xs,e.length=size) :
  dS Z (μ.set n (w.heap.size,0,size)) (w.heap.push (.cells (old ++ f ++ rest) e (0,0))) n (.arr size (ys ++ xs)):=by
 refine dS.newRow k cw ?_ ?_ ?_
 .simp[h1.len,h.len,Xf]
 .intro i hi
  by_cases d:i < ys.length
  .rw[mL d]
   simp only[Wo,Wp d,WJ]
   exact s1 _ (WA _)
  .have c:i - ys.length < xs.length:=by simp at hi;omega
   rw[lT (by omega)]
   simp only[Wo,Wp c,WJ]
   exact s2 _ (WA _)
 .intro i j hi g
  by_cases d:i < ys.length
  .have a:i * size+j < old.size:=by rw[h1.len];exact fU d g
   refine⟨old[i * size+j],?_,?_⟩
   .rw[Xr (by simp;omega),Xr a,WM a]
   .rw[mL d]
    have:=h1.rel i j d g
    simpa only [WE,WM a,WJ] using this
  .have c:i - ys.length < xs.length:=by simp at hi;omega
   have a:(i - ys.length) * size+j < f.size:=by rw[h.len];exact fU c g
   have l:i * size+j - old.size=(i - ys.length) * size+j:=by
    rw[h1.len,Nat.sub_mul]
    have:ys.length * size<=i * size:=Xd _ (by omega)
    omega
   have m:old.size<=i * size+j:=by
    rw[h1.len]
    have:ys.length * size<=i * size:=Xd _ (by omega)
    omega
   refine⟨f[(i - ys.length) * size+j],?_,?_⟩
   .rw[Xr (by simp;omega),Array.getElem?_append_right m,l,WM a]
   .rw[lT (by omega)]
    have:=h.rel _ j c g
    simpa only [WE,WM a,WJ] using this
theorem KQ {size:Nat} {xs:List (List V)} (h:(xs.all λe=>e.length == size && e.all aE)=true):(∀ e∈xs,e.length=size)/\∀ e∈xs,e.all aE=true:=by
 refine⟨λe he=>?_,λe he=>?_⟩
 .have:=WU.1 h e he
  simp only[WC,Xw] at this
  exact this.1
 .have:=WU.1 h e he
  simp only[WC,Xw] at this
  exact this.2
theorem lz {ad:Option Addr} {len cap size:Nat} : (Builtin.firstCells size 0 (.slice ad len cap)).run P w=.ok #[] w:=by
 cases ad with
 | none=>simp[Builtin.firstCells]
 | some a=>simp[Builtin.firstCells,loadCells,loadCellsFrom]
theorem xT {x:V} {b:Value} {xs:List (List V)} {size:Nat} (he:bD H x=some (xs,rd)) (a:aw Z μ w.heap x b) :
  (Builtin.lenOf b).run P w=.ok xs.length w/\(Builtin.firstCells size 0 b).run P w=.ok #[] w:=by
 unfold bD at he
 split at he
 .simp only[Wu,Wx] at he
  obtain⟨rfl,_⟩:=he
  obtain⟨ad,cap,rfl,_⟩:=dP a rfl
  exact⟨rfl,lz⟩
 .simp only[Wu,Wx] at he
  obtain⟨rfl,_⟩:=he
  obtain⟨ad,cap,rfl,_⟩:=dP a rfl
  exact⟨rfl,lz⟩
 .simp only[Wu,Wx] at he
  obtain⟨rfl,_⟩:=he
  obtain⟨ad,cap,rfl,_⟩:=dP a rfl
  exact⟨rfl,lz⟩
 .simp only[Wu,Wx] at he
  obtain⟨rfl,_⟩:=he
  obtain⟨ad,cap,rfl,_⟩:=dP a rfl
  exact⟨rfl,lz⟩
 .split at he
  .split at he
   .rename_i hle
    simp only[Wu,Wx] at he
    obtain⟨rfl,_⟩:=he
    obtain⟨ad,cap,rfl,_⟩:=dP a rfl
    refine⟨?_,lz⟩
    rw[XD,List.length_drop,Nat.min_eq_left (by omega)];rfl
   .simp at he
  .simp at he
 .rename_i str
  simp only[Wu,Wx] at he
  obtain⟨rfl,_⟩:=he
  have c:=er a
  subst c
  refine⟨by rw[WG,bsize];rfl,?_⟩
  have:(str.extract 0 0).data = #[]:=by rw[ByteArray.data_extract];simp
  simp[Builtin.firstCells,this]
 .simp at he
theorem jw (a:Array Value) {k:Nat} (h:a.size=k):a.extract 0 k=a:=by subst h;simp
theorem EX {t0 t1 e:TypeId} {ti:TypeInfo} {f:Array TypeId} {ty:TypeId} {base:Option Addr} {sLen sCap:Nat} {x:V} {F:Value} {xs ys:List (List V)} {g:List Nat} {old:Array Value}
  (r:f[0]?=some t0) (s:f[1]?=some t1) (t:oe P t1=true) (j:P.underlying t0=some (.slice e)) (k:P.info? e=some ti) (u:(zeroCells P e).map List.length=some ti.size)
  (he:bD H x=some (xs,g)) (G:aw Z μ w.heap x F) (M:μ n=none) (c:Ctx Z μ w.heap H rd n eff) (v:∀ id,id∈g->id∈rd) (y:∀ e∈xs,e.length=ti.size) (z:ys.length=sLen) (A:sCap < sLen+xs.length)
  (B:(sLen+xs.length) * ti.bytes < aD) (C:sLen+xs.length < aD) (hold:Flat Z μ w.heap ti.size ys old) (D:∀ e∈ys,e.length=ti.size)
  (N:(Builtin.firstCells ti.size sLen (.slice base sLen sCap)).run P w.drew=.ok old w.drew) :
  ∃ I w',(Builtin.append_ f ty #[.slice base sLen sCap,F]).run P w=.ok I w'/\aw Z (μ.set n (w.heap.size,0,ti.size)) w'.heap (.sl n 0 (sLen+xs.length) ti.size) I/\ep w w' /\
   w.heap.size < w'.heap.size/\gh w.heap w'.heap (λ_=>False)/\dS Z (μ.set n (w.heap.size,0,ti.size)) w'.heap n (.arr ti.size (ys ++ xs)):=by
 obtain⟨J,l,E⟩:=Od k u
 have d:∀ id,id∈g->dS Z μ w.heap id (H id):=λid h=>c.obj id (v id h)
 obtain⟨Q,O,hlen,q⟩:=pj (P:=P) he G d y
 obtain⟨m,a,_,b⟩:=pj (P:=P) (w:=w.drew) he G d y
 have K:=b _ (Wz _)
 rw[jw m a.len] at K
 obtain⟨cap,o,p⟩:=Ja (P:=P) (w:=w) (ty:=ty) r s t j k hlen A B C E N K
 refine⟨_,_,p,?_,gX _ _,by rw[heap_alloc,eY];simp,by rw[heap_alloc,eY];exact eN _ _,by rw[heap_alloc,eY];exact E6 M c.cw hold a D y⟩
 rw[heap_alloc,eY]
 have i:(Builtin.zeroCells J (cap - (sLen+xs.length))).size=(cap - (sLen+xs.length)) * ti.size:=by simp[Builtin.zeroCells,l]
 have L:cap * ti.size=sLen * ti.size+xs.length * ti.size+(cap - (sLen+xs.length)) * ti.size:=by
  rw[<-Xf,<-Xf];congr 1;omega
 have:=aw.sl (Z:=Z) (μ:=μ.set n (w.heap.size,0,ti.size)) (hp:=w.heap.push (.cells (old ++ m ++ Builtin.zeroCells J (cap - (sLen+xs.length))) e (0,0))) n 0 (sLen+xs.length) ti.size w.heap.size 0 cap _ e (0,0) (by simp[Mu.set]) o (by simp;rfl)
  (by simp only[Array.size_append,hold.len,a.len,i,z,Xk];omega)
 simpa using this
theorem QY {b o0 s:Nat} {c d:Array Value} {e:TypeId} {f:Nat × Nat} (i:μ n=none) (cw:∀ b,Z b->b < w.heap.size) (j:¬ Z b) (l:w.heap[b]?=some (.cells c e f)) (m:d.size=c.size) :
  ia Z Z μ (μ.set n (b,o0,s)) w.heap (w.heap.setIfInBounds b (.cells d e f)):=by
 refine⟨λ_ h=>h,λk hk=>db w.heap b _ k (cw k hk) (λe=>j (e ▸ hk)),λid x g=>?_,jf l m⟩
 by_cases a:id=n
 .subst a;simp[i] at g
 .simp[Mu.set,a,g]
theorem R3 {t0 t1 e:TypeId} {ti:TypeInfo} {u:Array TypeId} {ty:TypeId} {x:V} {xv:Value} {xs es:List (List V)} {A:List Nat} {id off len b o0 cap:Nat} {cc:Array Value} {e':TypeId} {f:Nat × Nat}
  (N:u[0]?=some t0) (O:u[1]?=some t1) (Q:oe P t1=true) (B:P.underlying t0=some (.slice e)) (R:P.info? e=some ti)
  (he:bD H x=some (xs,A)) (hx:aw Z μ w.heap x xv) (hn:μ n=none) (c:Ctx Z μ w.heap H rd n eff) (S:∀ id,id∈A->id∈rd) (T:∀ e∈xs,e.length=ti.size) (U:∀ e∈xs,e.all aE=true)
  {C:Nat} (_:H id=.arr C es) (W:dS Z μ w.heap id (.arr ti.size es)) (hm:μ id=some (b,o0,ti.size)) (ab:off+len<=es.length) (hle:len<=cap)
  (a:w.heap[b]?=some (.cells cc e' f)) (ae:o0+(off+cap) * ti.size<=cc.size) (d:len+xs.length<=cap) :
  aV Z μ w n (.sl n 0 (len+xs.length) ti.size) (.dX id (.arr ti.size ((es.drop off).take len ++ xs)))
   ((do pure (Next.value (<-Builtin.append_ u ty #[.slice (some ⟨b,o0+off * ti.size,none⟩) len cap,xv])):Sem Next).run P w):=by
 obtain⟨_,⟨c2,e2,f2,v,D,al⟩,h3,h4⟩:=W b o0 ti.size hm
 rw[a] at v
 simp only[Wu,Obj.cells.injEq] at v
 obtain⟨rfl,rfl,rfl⟩:=v
 obtain⟨E,g,hlen,o⟩:=pj (P:=P) he hx (λid h=>c.obj id (S id h)) T
 have h5:=o _ (Wz _)
 rw[jw E g.len] at h5
 have hz:=c.gR _ _ _ _ hm
 have hmul:(off+cap) * ti.size=off * ti.size+cap * ti.size:=Xf _ _ _
 have X:len * ti.size+xs.length * ti.size<=cap * ti.size:=by rw[<-Xf];exact Xd _ d
 have r:E.toList.length=xs.length * ti.size:=by rw[Array.length_toList,g.len]
 obtain⟨F,Y,k,z⟩:=uc (P:=P) (off:=o0+off * ti.size+len * ti.size) a (pL D) E.toList (by rw[r];omega) (A8 g T U)
 have G:=eM a
 have I:=QY (o0:=o0+off * ti.size) (s:=ti.size) hn c.cw hz a k
 have J:((es.drop off).take len).length=len:=by simp;omega
 have t:∀ i,i < len->((es.drop off).take len ++ xs).getD i []=es.getD (off+i) []:=by
  intro i hi
  rw[mL (by omega)]
  simp[Wo,XI,hi]
 have l:∀ i,len<=i->((es.drop off).take len ++ xs).getD i []=xs.getD (i - len) []:=by
  intro i hi
  rw[lT (by omega),J]
 refine aV.value (w':={ w with heap:=w.heap.setIfInBounds b (.cells F e' f) }) (μ':=μ.set n (b,o0+off * ti.size,ti.size)) (CZ N O Q B R hlen d h5 (by simpa only [jI] using Y)) ?_ ⟨rfl,rfl,rfl,by simp⟩ ?_
 .have:=aw.sl (Z:=Z) (μ:=μ.set n (b,o0+off * ti.size,ti.size)) (hp:=w.heap.setIfInBounds b (.cells F e' f)) n 0 (len+xs.length) ti.size b (o0+off * ti.size) cap F e' f (by simp[Mu.set]) d (ec G) (by rw[k,Xk];omega)
  simpa using this
 .refine⟨b,o0+off * ti.size,ti.size,rfl,?_,.inr ⟨⟨o0,ti.size,hm⟩,db _ _ _,jf a k⟩⟩
  intro b1 q1 s1 K
  simp only[Mu.set,if_true,Wu,Wx] at K
  obtain⟨rfl,rfl,rfl⟩:=K
  have m:((es.drop off).take len ++ xs).length=len+xs.length:=by rw[WO,J]
  refine⟨rfl,⟨F,e',f,ec G,by rw[k];exact D,by rw[m,k,Xf];omega⟩,?_,?_⟩
  .intro i hi
   rw[m] at hi
   by_cases p:i < len
   .rw[t i p];exact h3 _ (by omega)
   .rw[l i (by omega)]
    have q:i - len < xs.length:=by omega
    simp only[Wo,Wp q,WJ]
    exact T _ (WA _)
  .intro i j hi M
   rw[m] at hi
   show ∃ y,cellAt (w.heap.setIfInBounds b (.cells F e' f)) b (o0+off * ti.size+i * ti.size+j)=some y/\_
   rw[z,r]
   by_cases p:i < len
   .have h6:i * ti.size+j < len * ti.size:=fU p M
    rw[Ws (by omega),t i p]
    obtain⟨y,hy,hv⟩:=h4 (off+i) j (by omega) M
    rw[Xf] at hy
    exact⟨y,by rw[<-hy];congr 1;omega,hv.mono I⟩
   .have q:i - len < xs.length:=by omega
    have h6:(i - len) * ti.size+j < xs.length * ti.size:=fU q M
    have h7:i * ti.size=len * ti.size+(i - len) * ti.size:=by rw[<-Xf];congr 1;omega
    rw[Wv (by omega),l i (by omega)]
    have L:(i - len) * ti.size+j < E.size:=by rw[g.len];exact h6
    refine⟨E[(i - len) * ti.size+j],?_,?_⟩
    .rw[show o0+off * ti.size+i * ti.size+j - (o0+off * ti.size+len * ti.size)=(i - len) * ti.size+j from by omega]
     simp[L]
    .have:=(g.rel _ j q M).mono I
     simpa only [WE,WM L,WJ] using this
theorem Lu {t0 t1:TypeId} {o:Array TypeId} {ty:TypeId} {s x:V} {I Q:Value} (h:nA P t0 s x H n=some (v,eff,rd)) (r:o[0]?=some t0) (t:o[1]?=some t1) (u:oe P t1=true)
  (R:aw Z μ w.heap s I) (S:aw Z μ w.heap x Q) (c:Ctx Z μ w.heap H rd n eff) :
  aV Z μ w n v eff ((do pure (Next.value (<-Builtin.append_ o ty #[I,Q])):Sem Next).run P w):=by
 unfold nA at h
 split at h
 .rename_i e xs a7 hu he
  have k:P.underlying t0=some (.slice e):=by
   unfold cr at hu;split at hu <;> simp_all
  split at h
  .simp at h
  .rename_i ti y
   split at h
   .rename_i d
    have d:xs=[]:=by simpa using d
    subst d
    have fin:∀ m,cT s=some m->some (s,aS.none,([]:List Nat))=some (v,eff,rd)->aV Z μ w n v eff ((do pure (Next.value (<-Builtin.append_ o ty #[I,Q])):Sem Next).run P w):=by
     intro m hm heq
     simp only[Wu,Wx] at heq
     obtain⟨rfl,rfl,rfl⟩:=heq
     obtain⟨ad,cap,rfl,hle⟩:=dP R hm
     have z:=xT (P:=P) (size:=ti.size) he S
     refine aV.here (CZ r t u k y z.1 (by omega) z.2 ?_) R
     cases ad <;> simp[storeCells]
    split at h
    .exact fin 0 rfl h
    .exact fin 0 rfl h
    .exact fin _ rfl h
    .exact fin _ rfl h
    .simp at h
   .rename_i d
    have d:xs≠[]:=by simpa using d
    have ar:0 < xs.length:=Yx.2 d
    split at h
    .simp at h
    .rename_i p
     simp only[not_or,Bool.not_eq_false,Classical.not_not] at p
     obtain⟨a1,J,K⟩:=p
     obtain⟨U,W⟩:=KQ K
     split at h
     .split at h
      .rename_i X
       obtain⟨C,D⟩:=X
       simp only[Wu,Wx] at h
       obtain⟨rfl,rfl,rfl⟩:=h
       cases R with
       | emp _ ad =>
        obtain⟨xr,w',q,T,g,E,hold,a⟩:=EX (n:=n) (ty:=ty) (base:=ad) (sLen:=0) (sCap:=0) (ys:=[]) (old:=#[]) r t u k y J he S c.new c (λid h=>h) U rfl (by omega) (by simpa using C) (by simpa using D)
         ⟨by simp,λi j hi=>by simp at hi⟩ (by simp) (by simpa using rn (w:=w.drew) (ad:=ad) (cap:=0) (Wz 0))
        simp only[Xk] at T
        exact aV.value q T g ⟨w.heap.size,0,ti.size,Wz _,E,rfl,hold,a⟩
      .simp at h
     .rename_i id off len esz
      split at h
      .rename_i a6 es hH
       split at h
       .rename_i X
        obtain⟨L,rfl,C,D⟩:=X
        simp only[Wu,Wx] at h
        obtain⟨rfl,rfl,rfl⟩:=h
        have a:=c.obj id (by simp)
        rw[hH] at a
        have grow:∀ base sCap (old:Array Value),I=.slice base len sCap->sCap < len+xs.length->Flat Z μ w.heap ti.size ((es.drop off).take len) old->(∀ e∈(es.drop off).take len,e.length=ti.size) ->
          (Builtin.firstCells ti.size len (.slice base len sCap)).run P w.drew=.ok old w.drew ->
          aV Z μ w n (.sl n 0 (len+xs.length) ti.size) (.dX id (.arr ti.size ((es.drop off).take len ++ xs))) ((do pure (Next.value (<-Builtin.append_ o ty #[I,Q])):Sem Next).run P w):=by
         intro base sCap old Y ab ae A ho
         subst Y
         have hlen:((es.drop off).take len).length=len:=by simp;omega
         obtain⟨xr,w',q,T,g,E,hold,a⟩:=EX (n:=n) (ty:=ty) r t u k y J he S c.new c (λi h=>W9 _ h) U hlen ab C D ae A ho
         exact aV.value q T g ⟨w.heap.size,0,ti.size,rfl,a,.inl ⟨Wz _,E,hold⟩⟩
        cases R with
        | oB _ _ _ ad =>
         refine grow ad 0 #[] rfl (by omega) ⟨by simp,λi j hi=>by simp at hi⟩ (by simp) (by simpa using rn (w:=w.drew) (ad:=ad) (cap:=0) (Wz 0))
        | sl _ _ _ _ b o0 cap cc e' f hm hle F M =>
         have hlen:((es.drop off).take len).length=len:=by simp;omega
         obtain⟨heq,⟨c2,e2,f2,G,a8,bd⟩,h3,h4⟩:=a b o0 ti.size hm
         subst heq
         rw[F] at G
         simp only[Wu,Obj.cells.injEq] at G
         obtain⟨rfl,rfl,rfl⟩:=G
         have A:∀ e∈(es.drop off).take len,e.length=ti.size:=by
          intro e al
          obtain⟨i,hi,rfl⟩:=Yd (List.mem_of_mem_drop (Yq al))
          have:=h3 i hi
          simpa [Wo,hi] using this
         by_cases N:len+xs.length<=cap
         .exact R3 r t u k y he S c.new c (λi h=>W9 _ h) U W hH a hm L hle F M N
         .by_cases O:len=0
          .subst O
           exact grow _ cap #[] rfl (by omega) ⟨by simp,λi j hi=>by simp at hi⟩ (by simp) (by simpa using rn (w:=w.drew) (ad:=some ⟨b,o0+off * ti.size,none⟩) (cap:=cap) (Wz 0))
          .have z:bD H (.sl id off len ti.size)=some ((es.drop off).take len,[id]):=by
            cases len with
            | zero=>exact absurd rfl O
            | succ l=>simp[bD,hH,L]
           obtain⟨old,hold,_,B⟩:=pj (P:=P) (w:=w.drew) (Z:=Z) (μ:=μ) z (aw.sl id off len ti.size b o0 cap cc e' f hm hle F M) (λi hi=>by
            simp at hi;subst hi;rw[hH];exact a) A
           have h5:=B len (by omega)
           rw[jw old (by rw[hold.len,hlen])] at h5
           exact grow _ cap old rfl (by omega) hold A h5
       .simp at h
      .simp at h
     .simp at h
 .simp at h
theorem Tu {t0:TypeId} {a:Array TypeId} {ty:TypeId} {x:V} {f:Value} (h:Dz P t0 x=some (v,eff,rd)) (d:a[0]?=some t0)
  (g:aw Z μ w.heap x f) (c:Ctx Z μ w.heap H rd n eff) :
  aV Z μ w n v eff ((do pure (Next.value (<-Builtin.cap_ a ty #[f])):Sem Next).run P w):=by
 unfold Dz at h
 split at h
 .rename_i e k hu
  have b:P.underlying t0=some (.slice e):=by
   unfold cr at hu;split at hu <;> simp_all
  simp only[Wu,Wx] at h
  obtain⟨rfl,rfl,rfl⟩:=h
  cases g with
  | emp _ ad =>
   refine aV.here (x:=goInt 0) ?_ (.val _ rfl)
   simp only[Builtin.cap_,Xg,WX,d,Sem.run_bind,bh b,Result.andThen_ok,Sem.run_pure]
   rfl
 .simp at h
theorem Gq {t0 t1 e:TypeId} {ti:TypeInfo} {k:IntKind} {b:Array TypeId} {ty:TypeId} {base:Option Addr} {m:Nat} {k2:IntKind} {j:Value}
  (l:b[0]?=some t0) (n:b[1]?=some t1) (s:P.underlying t1=some (.int k)) (d:P.underlying t0=some (.slice e)) (c:P.info? e=some ti)
  (o:0 < m) (t:m * ti.bytes < aD) (p:m < aD) (q:m * ti.size≠0) (u:∀ w',(zeroValue e).run P w'=.ok j w') :
  ∃ cap,m<=cap/\(Builtin.append_ b ty #[.slice base 0 0,.int k2 (m:Int)]).run P w =
   .ok (.slice (some ⟨w.heap.size,0,none⟩) m cap) (w.drew.alloc (.cells (#[] ++ Builtin.zeroCells j.cells m ++ Builtin.zeroCells j.cells (cap - m)) e)):=by
 have r:=Fh
 have f:=growslice_fits (old:=0) o (show m * ti.bytes<=140737488355328 by omega)
 have g:¬ ((m:Int) > IntKind.i64.max):=by
  have:IntKind.i64.max=9223372036854775807:=by decide
  rw[this];omega
 have h:¬ (Builtin.nextslicecap m 0 * ti.bytes > 2 ^ 48):=by
  have:(2:Nat) ^ 48=281474976710656:=by decide
  rw[this];exact Nat.not_lt.2 f
 have v:IntKind.i64.wrap (m:Int)=m:=wrap_small p
 have g1:¬ ((m:Int) < 0):=by omega
 have g2:¬ ((m:Int) * (ti.bytes:Int) > 2 ^ 48):=by
  have:((m * ti.bytes:Nat):Int) < 2 ^ 48:=by omega
  push_cast at this;omega
 refine⟨Question.cut (.appendCap m 0 e) (w.tape w.drawn (.appendCap m 0 e)),Nat.le_add_right _ _,?_⟩
 have i:Question.forced (.appendCap m 0 e)=false:=rfl
 have a:∀ w':World,(Builtin.firstCells ti.size 0 (.slice base 0 0)).run P w'=.ok #[] w':=λw'=>lz
 simp only[Builtin.append_,Xg,WX,Xl,l,n,Sem.run_bind,bh d,Result.andThen_ok,dx c,bh s,Sem.run_pure,if_true,asInt,asIntOf,v,W8,Sem.run_ite,g1,g2,if_false,pw c,Xk]
 rw[Ws (by omega)]
 simp only[g,false_and,if_false,Sem.run_bind,Result.andThen_ok,Sem.run_ite,Sem.run_pure,h,run_choose,i,WR,World.drew_eq,run_askRoom,a,q,u,Yw,newRow,dx c,run_newObj,World.alloc_eq]
 rfl
theorem Cf {ti:TypeInfo} {z:List V} {a:Value} {m:Nat} (hr:fO Z μ w.heap z a.cells.toList) (b:z.length=ti.size):Flat Z μ w.heap ti.size (List.replicate m z) (Builtin.zeroCells a.cells m):=by
 have c:a.cells.size=ti.size:=by rw[<-b,hr.1];simp
 refine⟨by simp[Builtin.zeroCells,c],λi j hi e=>?_⟩
 simp only[Yl] at hi
 have f:i * ti.size+j < m * ti.size:=fU hi e
 have d:(i * ti.size+j) % ti.size=j:=by
  rw[Nat.mul_comm,Nat.mul_add_mod];exact Nat.mod_eq_of_lt e
 have h1:=hr.2 j (by rw[b];exact e)
 have g:(List.replicate m z).getD i []=z:=by simp[Wo,hi]
 have h:(Builtin.zeroCells a.cells m).getD (i * ti.size+j) undef=a.cells.toList.getD j undef:=by
  simp[Builtin.zeroCells,WE,Wo,c,f,d,getElem!_pos a.cells j (by omega),show j < a.cells.size by omega]
  rw[WM (by omega)];rfl
 rw[g,h]
 exact h1
theorem Qu {t0 t1:TypeId} {f:Array TypeId} {ty:TypeId} {s x:V} {N O:Value} (h:qU P t0 s x n=some (v,eff,rd)) (r:f[0]?=some t0) (t:f[1]?=some t1) (g:isInt P t1=true)
  (Q:aw Z μ w.heap s N) (u:aw Z μ w.heap x O) (c:Ctx Z μ w.heap H rd n eff) :
  aV Z μ w n v eff ((do pure (Next.value (<-Builtin.append_ f ty #[N,O])):Sem Next).run P w):=by
 unfold qU at h
 split at h
 .rename_i e l k hu S
  have b:P.underlying t0=some (.slice e):=by
   unfold cr at hu;split at hu <;> simp_all
  have q:∃ d,P.underlying t1=some (.int d):=by
   unfold isInt at g;split at g
   .rename_i d q;exact⟨d,q⟩
   .simp at g
  obtain⟨d,q⟩:=q
  obtain⟨T,rfl⟩:=ln S
  have u:=er u
  subst u
  split at h
  .rename_i ti z a U
   split at h
   .rename_i R
    subst R
    simp only[Wu,Wx] at h
    obtain⟨rfl,rfl,rfl⟩:=h
    cases Q with
    | emp _ ad W G =>
     refine aV.here (x:=.slice ad 0 0) ?_ (.emp _ ad W G)
     have X:IntKind.i64.wrap ((0:Nat):Int)=0:=by decide
     have g2:¬ ((0:Int) * (ti.bytes:Int) > 2 ^ 48):=by rw[Int.zero_mul];decide
     simp only[Builtin.append_,Xg,WX,Xl,r,t,Sem.run_bind,bh b,Result.andThen_ok,dx a,bh q,Sem.run_pure,if_true,asInt,asIntOf,X,Sem.run_ite,Int.lt_irrefl,g2,if_false,pw a,Xk,Int.toNat_zero,Wz,Nat.zero_mul,Yw,WR]
     cases ad <;> simp[storeCells]
   .rename_i R
    split at h
    .rename_i G
     obtain⟨o,y,Y,I,J⟩:=G
     simp only[Wu,Wx] at h
     obtain⟨rfl,rfl,rfl⟩:=h
     obtain⟨p,K,rfl⟩:=iV a U
     cases Q with
     | emp _ ad =>
      have A:l * ti.size≠0:=by
       intro h;rcases Nat.mul_eq_zero.1 h with h | h <;> contradiction
      obtain⟨cap,B,C⟩:=Gq (P:=P) (w:=w) (ty:=ty) (base:=ad) (k2:=T) r t q b a (by omega) I J A (λw'=>kb a K w')
      have hr:=gH (gK (Z:=Z) (μ:=μ) (w:=w) p) y
      have D:p.cells.size=ti.size:=by rw[<-o,hr.1];simp
      have L:=Cf (m:=l) (ti:=ti) hr o
      have M:(Builtin.zeroCells p.cells l).size=l * ti.size:=by simp[Builtin.zeroCells,D]
      have E:(Builtin.zeroCells p.cells (cap - l)).size=(cap - l) * ti.size:=by simp[Builtin.zeroCells,D]
      have F:cap * ti.size=l * ti.size+(cap - l) * ti.size:=by rw[<-Xf];congr 1;omega
      refine aV.value (μ':=μ.set n (w.heap.size,0,ti.size)) C ?_ (gX _ _) ?_
      .rw[heap_alloc,eY]
       have:=aw.sl (Z:=Z) (μ:=μ.set n (w.heap.size,0,ti.size)) (hp:=w.heap.push (.cells (#[] ++ Builtin.zeroCells p.cells l ++ Builtin.zeroCells p.cells (cap - l)) e (0,0))) n 0 l ti.size w.heap.size 0 cap _ e (0,0) (by simp[Mu.set]) B (by simp;rfl)
        (by simp only[Array.size_append,M,E,Xk]; (try simp);exact Nat.le_of_eq F)
       simpa using this
      .refine⟨w.heap.size,0,ti.size,Wz _,by rw[heap_alloc,eY];simp,rfl,by rw[heap_alloc,eY];exact eN _ _,?_⟩
       rw[heap_alloc,eY]
       have:=E6 (e:=e) (rest:=Builtin.zeroCells p.cells (cap - l)) c.new c.cw (ys:=[]) (old:=#[]) ⟨by simp,λi j hi=>by simp at hi⟩ L (by simp) (λx u=>by rw[(List.mem_replicate.1 u).2];exact o)
       simpa using this
    .simp at h
  .simp at h
 .simp at h
theorem iH:∀ (ys es:List (List V)) (i:Nat),(dV es i ys).length=es.length
 | [],_,_=>rfl
 | y :: ys,es,i=>by rw[dV,iH ys];simp
theorem qE:∀ (ys es:List (List V)) (i k:Nat),i+ys.length<=es.length->(dV es i ys).getD k []=if i<=k/\k < i+ys.length then ys.getD (k - i) [] else es.getD k []
 | [],es,i,k,_=>by rw[Ws (by simp only[WW];omega)];rfl
 | y :: ys,es,i,k,h=>by
  simp only[WD] at h
  rw[dV,qE ys _ _ _ (by simp;omega)]
  simp only[WD]
  by_cases h1:i=k
  .subst h1
   rw[Ws (by omega),Wv (by omega)]
   simp[Wo,show i < es.length by omega]
  .by_cases a:i+1<=k/\k < i+1+ys.length
   .rw[Wv a,Wv (by omega),show k - i=(k - (i+1))+1 from by omega]
    simp
   .rw[Ws a,Ws (by omega)]
    simp[Wo,h1]
theorem Qs {t0:TypeId} {t:Array TypeId} {ty:TypeId} {d x:V} {dv D:Value} (h:vW P t0 d x H=some (v,eff,rd)) (U:t[0]?=some t0)
  (hd:aw Z μ w.heap d dv) (hx:aw Z μ w.heap x D) (c:Ctx Z μ w.heap H rd n eff) :
  aV Z μ w n v eff ((do pure (Next.value (<-Builtin.copy_ t ty #[dv,D])):Sem Next).run P w):=by
 unfold vW at h
 split at h
 .rename_i e xs bl dl hu he u
  have E:P.underlying t0=some (.slice e):=by
   unfold cr at hu;split at hu <;> simp_all
  obtain⟨ad,cap,rfl,a6⟩:=dP hd u
  have run:∀ (new:Array Value) w' ti,P.info? e=some ti->(Builtin.lenOf D).run P w=.ok xs.length w->(Builtin.firstCells ti.size (Nat.min xs.length dl) D).run P w=.ok new w ->
    (match ad with | some a=>storeCells a new.toList | none=>pure ()).run P w=.ok () w' ->
    (Builtin.copy_ t ty #[.slice ad dl cap,D]).run P w=.ok (goInt (Nat.min xs.length dl:Nat)) w':=by
   intro new w' ti o h1 h2 F
   simp only[Builtin.copy_,Xg,WX,Xl,U,Sem.run_bind,bh E,Result.andThen_ok,dx o,Sem.run_pure,h1,h2]
   cases ad with
   | none=>simp only[Sem.run_pure,Result.ok.injEq,true_and] at F;subst F;rfl
   | some a=>simp only[Sem.run_bind,F,Result.andThen_ok,Sem.run_pure]
  split at h
  .simp at h
  .rename_i ti o
   split at h
   .rename_i G
    simp only[Wu,Wx] at h
    obtain⟨rfl,rfl,rfl⟩:=h
    have I:=xT (P:=P) (size:=ti.size) he hx
    have g:Nat.min xs.length dl=0:=by
     have:(xs.take dl).length=0:=by rw[List.isEmpty_iff.1 G];rfl
     rw[XD] at this
     show min _ _=0;omega
    have:=run #[] w ti o I.1 (by rw[g];exact I.2) (by cases ad <;> simp[storeCells])
    rw[g] at this
    exact aV.here this (aw.val _ rfl)
   .rename_i W
    split at h
    .rename_i id off len esz
     split at h
     .rename_i a7 es hH
      split at h
      .rename_i hb
       obtain⟨bn,rfl,a8,J⟩:=hb
       obtain⟨X,Y⟩:=KQ J
       simp only[Wu,Wx] at h
       obtain⟨rfl,rfl,rfl⟩:=h
       simp only[cT,Wu] at u
       subst u
       have K:=c.obj id (by simp)
       rw[hH] at K
       have g:(xs.take len).length=Nat.min xs.length len:=by rw[XD,Nat.min_comm]
       have L:0 < (xs.take len).length:=Yx.2 (by simpa using W)
       cases hd with
       | oB=>simp at L
       | sl _ _ _ _ b o0 _ cc e' f hm _ m br =>
        obtain⟨heq,⟨c2,e2,f2,z,M,ab⟩,F,h4⟩:=K b o0 ti.size hm
        subst heq
        rw[m] at z
        simp only[Wu,Obj.cells.injEq] at z
        obtain⟨rfl,rfl,rfl⟩:=z
        obtain⟨ae,N,hlen,p⟩:=pj (P:=P) he hx (λid h=>c.obj id (W9 _ h)) X
        have h5:=p (Nat.min xs.length len) (Nat.min_le_left _ _)
        have l:=O1 N (Nat.min xs.length len) (Nat.min_le_left _ _)
        have al:xs.take (Nat.min xs.length len)=xs.take len:=by
         rw[List.take_eq_take_iff];show min (min xs.length len) xs.length=min len xs.length;omega
        rw[al] at l
        generalize ae.extract 0 (Nat.min xs.length len * ti.size)=O at h5 l
        have s:O.toList.length=(xs.take len).length * ti.size:=by rw[Array.length_toList,l.len]
        have bd:(xs.take len).length<=len:=by rw[XD];omega
        have A:(off+(xs.take len).length) * ti.size<=es.length * ti.size:=Xd _ (by omega)
        rw[Xf] at A
        have hz:=c.gR _ _ _ _ hm
        obtain⟨c',ar,q,B⟩:=uc (P:=P) (off:=o0+off * ti.size) m (pL M) O.toList (by rw[s];omega) (A8 l (λe he=>X e (Yq he)) (λe he=>Y e (Yq he)))
        have a1:=eM m
        have Q:ia Z Z μ μ w.heap (w.heap.setIfInBounds b (.cells c' e' f)) :=
         ⟨λ_ h=>h,λk hk=>db w.heap b _ k (c.cw k hk) (λe=>hz (e ▸ hk)),λ_ _ h=>h,jf m q⟩
        refine aV.value (μ':=μ) (run O _ ti o hlen h5 ar) ?_ ⟨rfl,rfl,rfl,by simp⟩ ?_
        .rw[g];exact aw.val _ rfl
        .refine⟨b,o0,ti.size,hm,rfl,db _ _ _,jf m q,?_⟩
         intro b1 q1 s1 C
         rw[hm] at C
         simp only[Wu,Wx] at C
         obtain⟨rfl,rfl,rfl⟩:=C
         have R:=λk=>qE (xs.take len) es off k (by omega)
         refine⟨rfl,⟨c',e',f,ec a1,by rw[q];exact M,by rw[iH,q];exact ab⟩,?_,?_⟩
         .intro i hi
          rw[iH] at hi
          rw[R]
          split
          .have r:i - off < (xs.take len).length:=by omega
           simp only[Wo,Wp r,WJ]
           exact X _ (Yq (WA _))
          .exact F i hi
         .intro i j hi hj
          rw[iH] at hi
          show ∃ y,cellAt (w.heap.setIfInBounds b (.cells c' e' f)) b (o0+i * ti.size+j)=some y/\_
          rw[B,s,R]
          by_cases S:off<=i/\i < off+(xs.take len).length
          .have r:i - off < (xs.take len).length:=by omega
           have h6:(i - off) * ti.size+j < (xs.take len).length * ti.size:=fU r hj
           have h7:i * ti.size=off * ti.size+(i - off) * ti.size:=by rw[<-Xf];congr 1;omega
           rw[Wv (by omega),Wv S]
           have T:(i - off) * ti.size+j < O.size:=by rw[l.len];exact h6
           refine⟨O[(i - off) * ti.size+j],?_,?_⟩
           .rw[show o0+i * ti.size+j - (o0+off * ti.size)=(i - off) * ti.size+j from by omega]
            simp[T]
           .have:=(l.rel _ j r hj).mono Q
            simpa only [WE,WM T,WJ] using this
          .have h8:¬ (o0+off * ti.size<=o0+i * ti.size+j/\o0+i * ti.size+j < o0+off * ti.size+(xs.take len).length * ti.size):=by
            rcases W5 i off with h9 | h9
            .have:(i+1) * ti.size<=off * ti.size:=Xd _ h9
             rw[Xf] at this;omega
            .have:(off+(xs.take len).length) * ti.size<=i * ti.size:=Xd _ (by omega)
             rw[Xf] at this;omega
           rw[Ws h8,Ws S]
           obtain⟨y,hy,hv⟩:=h4 i j hi hj
           exact⟨y,hy,hv.mono Q⟩
      .simp at h
     .simp at h
    .simp at h
 .simp at h
theorem PS {t0:TypeId} {u:Array TypeId} {ty:TypeId} {d:V} {dv:Value} (h:uB P t0 d H=some (v,eff,rd)) (I:u[0]?=some t0)
  (hd:aw Z μ w.heap d dv) (c:Ctx Z μ w.heap H rd n eff) :
  aV Z μ w n v eff ((do pure (Next.value (<-Builtin.clear_ u ty #[dv])):Sem Next).run P w):=by
 unfold uB at h
 split at h
 .rename_i e dl hu A
  have r:P.underlying t0=some (.slice e):=by
   unfold cr at hu;split at hu <;> simp_all
  obtain⟨ad,cap,rfl,al⟩:=dP hd A
  split at h
  .rename_i h0
   subst h0
   simp only[Wu,Wx] at h
   obtain⟨rfl,rfl,rfl⟩:=h
   refine aV.here (x:=.tuple #[]) ?_ (.aO [] #[] rfl (λi hi=>by simp at hi))
   simp only[Builtin.clear_,Xg,WX,I,Sem.run_bind,bh r,Result.andThen_ok]
   cases ad <;> simp
  .rename_i a6
   split at h
   .rename_i id off len esz ti z J S
    split at h
    .rename_i ar es hH
     split at h
     .rename_i hb
      obtain⟨a7,rfl,a1,B,s⟩:=hb
      simp only[Wu,Wx] at h
      obtain⟨rfl,rfl,rfl⟩:=h
      simp only[cT,Wu] at A
      subst A
      have K:=c.obj id (by simp)
      rw[hH] at K
      obtain⟨C,T,rfl⟩:=iV J S
      have hr:=gH (gK (Z:=Z) (μ:=μ) (w:=w) C) s
      have l:=Cf (m:=len) (ti:=ti) hr B
      have run:∀ (a:Addr) (w':World),ad=some a->(storeCells a (Builtin.zeroCells C.cells len).toList).run P w=.ok () w' ->
        (Builtin.clear_ u ty #[.slice ad len cap]).run P w=.ok (.tuple #[]) w':=by
       rintro a w' rfl U
       obtain⟨m,rfl⟩:∃ m,len=m+1:=⟨len - 1,by omega⟩
       simp only[Builtin.clear_,Xg,WX,I,Sem.run_bind,bh r,Result.andThen_ok,kb J T,U,Sem.run_pure]
      cases hd with
      | oB=>omega
      | sl _ _ _ _ b o0 _ cc e' f hm _ o a8 =>
       obtain⟨heq,⟨c2,e2,f2,D,L,W⟩,U,h4⟩:=K b o0 ti.size hm
       subst heq
       rw[o] at D
       simp only[Wu,Obj.cells.injEq] at D
       obtain⟨rfl,rfl,rfl⟩:=D
       have g:∀ e∈List.replicate len (fA C).cells,e=(fA C).cells:=λe he=>List.eq_of_mem_replicate he
       have X:(List.replicate len (fA C).cells).length=len:=Yl
       generalize bd:List.replicate len (fA C).cells=xs at l g X ⊢
       generalize bl:Builtin.zeroCells C.cells len=R at l run
       have t:R.toList.length=xs.length * ti.size:=by rw[Array.length_toList,l.len]
       have E:(off+xs.length) * ti.size<=es.length * ti.size:=Xd _ (by omega)
       rw[Xf] at E
       have hz:=c.gR _ _ _ _ hm
       obtain⟨Y,ab,q,F⟩:=uc (P:=P) (off:=o0+off * ti.size) o (pL L) R.toList (by rw[t];omega) (A8 l (λe he=>by rw[g e he];exact B) (λe he=>by rw[g e he];exact s))
       have ae:=eM o
       have M:ia Z Z μ μ w.heap (w.heap.setIfInBounds b (.cells Y e' f)) :=
        ⟨λ_ h=>h,λk hk=>db w.heap b _ k (c.cw k hk) (λe=>hz (e ▸ hk)),λ_ _ h=>h,jf o q⟩
       refine aV.value (μ':=μ) (run _ _ rfl ab) ?_ ⟨rfl,rfl,rfl,by simp⟩ ?_
       .exact .aO [] #[] rfl (λi hi=>by simp at hi)
       .refine⟨b,o0,ti.size,hm,rfl,db _ _ _,jf o q,?_⟩
        intro b1 q1 s1 G
        rw[hm] at G
        simp only[Wu,Wx] at G
        obtain⟨rfl,rfl,rfl⟩:=G
        have N:=λk=>qE xs es off k (by omega)
        refine⟨rfl,⟨Y,e',f,ec ae,by rw[q];exact L,by rw[iH,q];exact W⟩,?_,?_⟩
        .intro i hi
         rw[iH] at hi
         rw[N]
         split
         .have p:i - off < xs.length:=by omega
          simp only[Wo,Wp p,WJ]
          rw[g _ (WA p)];exact B
         .exact U i hi
        .intro i j hi hj
         rw[iH] at hi
         show ∃ y,cellAt (w.heap.setIfInBounds b (.cells Y e' f)) b (o0+i * ti.size+j)=some y/\_
         rw[F,t,N]
         by_cases O:off<=i/\i < off+xs.length
         .have p:i - off < xs.length:=by omega
          have h6:(i - off) * ti.size+j < xs.length * ti.size:=fU p hj
          have h7:i * ti.size=off * ti.size+(i - off) * ti.size:=by rw[<-Xf];congr 1;omega
          rw[Wv (by omega),Wv O]
          have Q:(i - off) * ti.size+j < R.size:=by rw[l.len];exact h6
          refine⟨R[(i - off) * ti.size+j],?_,?_⟩
          .rw[show o0+i * ti.size+j - (o0+off * ti.size)=(i - off) * ti.size+j from by omega]
           simp[Q]
          .have:=(l.rel _ j p hj).mono M
           simpa only [WE,WM Q,WJ] using this
         .have h8:¬ (o0+off * ti.size<=o0+i * ti.size+j/\o0+i * ti.size+j < o0+off * ti.size+xs.length * ti.size):=by
           rcases W5 i off with h9 | h9
           .have:(i+1) * ti.size<=off * ti.size:=Xd _ h9
            rw[Xf] at this;omega
           .have:(off+xs.length) * ti.size<=i * ti.size:=Xd _ (by omega)
            rw[Xf] at this;omega
          rw[Ws h8,Ws O]
          obtain⟨y,hy,hv⟩:=h4 i j hi hj
          exact⟨y,hy,hv.mono M⟩
     .simp at h
    .simp at h
   .simp at h
 .simp at h
end
section
variable {Z:Nat->Prop} {μ μ':Mu} {w w':World} {P:Program} {H:View} {n:Nat} {v:V} {eff:aS} {rd:List Nat}
theorem Fw (off:Nat):∀ (l:List Value) (i:Nat) (cs:Array Value),off+i+l.length<=cs.size ->
  ((l.zipIdx i).foldl (λcs (p:Value × Nat)=>cs.setIfInBounds (off+p.2) p.1) cs).size=cs.size /\
  ∀ k,((l.zipIdx i).foldl (λcs (p:Value × Nat)=>cs.setIfInBounds (off+p.2) p.1) cs)[k]?=if off+i<=k/\k < off+i+l.length then l[k - (off+i)]? else cs[k]?
 | [],i,cs,_=>⟨rfl,λk=>by rw[Ws (by simp only[WW];omega)];rfl⟩
 | x :: l,i,cs,h=>by
  simp only[WD] at h
  obtain⟨h1,b⟩:=Fw off l (i+1) (cs.setIfInBounds (off+i) x) (by simp;omega)
  simp only[List.zipIdx_cons,Xz,WD]
  refine⟨by rw[h1];simp,λk=>?_⟩
  rw[b]
  by_cases e:off+i=k
  .subst e
   rw[Ws (by omega),Wv (by omega)]
   simp[show off+i < cs.size by omega]
  .by_cases a:off+(i+1)<=k/\k < off+(i+1)+l.length
   .rw[Wv a,Wv (by omega),show k - (off+i)=(k - (off+(i+1)))+1 from by omega]
    simp
   .rw[Ws a,Ws (by omega)]
    simp[e]
theorem BB (off:Nat) (xs cs:Array Value) (h:off+xs.size<=cs.size) :
  (xs.zipIdx.foldl (λcs (c,j)=>cs.setIfInBounds (off+j) c) cs).size=cs.size /\
  ∀ k,(xs.zipIdx.foldl (λcs (c,j)=>cs.setIfInBounds (off+j) c) cs)[k]?=if off<=k/\k < off+xs.size then xs[k - off]? else cs[k]?:=by
 have:=Fw off xs.toList 0 cs (by simpa using h)
 rw[<-Array.foldl_toList,Array.toList_zipIdx]
 simpa using this
def DN (Z:Nat->Prop) (μ:Mu) (hp:Array Obj):List (Nat × V)->List (Nat × Value)->Prop
 | [],[]=>True
 | p :: r,q :: s=>p.1=q.1/\aw Z μ hp p.2 q.2/\DN Z μ hp r s
 | _,_=>False
theorem B6 {x:V} {y:Value} (h:aw Z μ w.heap x y) (a:x.cells.all aE=true):y.cells.size=x.cells.length:=by
 have:=(gH h a).1;simpa using this.symm
theorem Gc {size:Nat} (place:Nat->Option (Nat × Nat)) (l:∀ i,place i=some (i * size,size)):∀ (n:List (Nat × V)) (o:List (Nat × Value)) (es es':List (List V)) (cs:Array Value),
  lK size es n=some es'->DN Z μ w.heap n o->Flat Z μ w.heap size es cs->(∀ i,i < es.length->(es.getD i []).length=size)->(∀ i,i < es.length->(es.getD i []).all aE=true) ->
  ∃ d,Instr.fill place cs o=some d/\Flat Z μ w.heap size es' d/\es'.length=es.length/\(∀ i,i < es'.length->(es'.getD i []).length=size)
 | [],[],es,es',cs,h,_,m,p,_=>by
  simp only[lK,Wu] at h;subst h
  exact⟨cs,rfl,m,rfl,p⟩
 | (i,x) :: n,(F,y) :: o,es,es',cs,h,hr,m,p,r=>by
  obtain⟨hi,f,g⟩:=hr
  simp only at hi f
  subst hi
  simp only[lK] at h
  split at h
  .rename_i A
   obtain⟨h1,z,s⟩:=A
   have t:=gH f s
   have B:=B6 f s
   have hle:i * size+size<=cs.size:=by
    rw[m.len]
    have:(i+1) * size<=es.length * size:=Xd _ z
    rw[Xf] at this;omega
   obtain⟨C,k2⟩:=BB (i * size) y.cells cs (by omega)
   have b:∀ k,(es.set i x.cells).getD k []=if k=i then x.cells else es.getD k []:=by
    intro k
    simp only[Wo,Xs]
    by_cases e:i=k
    .subst e;simp[z]
    .rw[Ws e,Ws (λq=>e q.symm)]
   obtain⟨d,g1,g2,g3,g4⟩:=Gc place l n o (es.set i x.cells) es' (y.cells.zipIdx.foldl (λcs (c,j)=>cs.setIfInBounds (i * size+j) c) cs) h g
    ⟨by rw[C,m.len];simp,λa j D E=>by
     have u:a < es.length:=by simpa using D
     rw[b,WE,k2]
     by_cases e:a=i
     .subst e
      rw[Wv rfl,Wv (by omega),show a * size+j - a * size=j from by omega]
      have:=t.2 j (by omega)
      simpa [Wo] using this
     .have:¬ (i * size<=a * size+j/\a * size+j < i * size+y.cells.size):=by
       rcases Nat.lt_or_gt_of_ne e with v | v
       .have:(a+1) * size<=i * size:=Xd _ v
        rw[Xf] at this;omega
       .have:(i+1) * size<=a * size:=Xd _ v
        rw[Xf] at this;omega
      rw[Ws e,Ws this]
      have:=m.rel a j u E
      simpa only [WE] using this⟩
    (λk hk=>by rw[b];split;exact h1;exact p k (by simpa using hk))
    (λk hk=>by rw[b];split;exact s;exact r k (by simpa using hk))
   refine⟨d,?_,g2,by simpa using g3,g4⟩
   simp only[Instr.fill,l]
   rw[Ws (by simp only[Yc,WH,not_or];omega)]
   exact g1
  .simp at h
 | [],_ :: _,_,_,_,_,hr,_,_,_=>hr.elim
 | _ :: _,[],_,_,_,_,hr,_,_,_=>hr.elim
theorem C5 {t:TypeId} {len:Nat} {E:List (Nat × V)} {u:Array (Nat × Value)} (h:ix P t len E n=some (v,eff,rd)) (hr:DN Z μ w.heap E u.toList) (c:Ctx Z μ w.heap H rd n eff) :
  aV Z μ w n v eff ((do pure (Next.value (<-Instr.buildSlice t len u)):Sem Next).run P w):=by
 unfold ix at h
 cases hu:cr P t with
 | none=>simp[hu] at h
 | some e =>
  have k:P.underlying t=some (.slice e):=by
   unfold cr at hu;split at hu <;> simp_all
  cases d:P.info? e with
  | none=>simp[hu,d] at h
  | some ti =>
   simp only[hu,d] at h
   split at h
   .simp at h
   .rename_i l
    split at h
    .rename_i o
     subst o
     split at h
     .rename_i y
      simp only[Wu,Wx] at h
      obtain⟨rfl,rfl,rfl⟩:=h
      have F:E=[]:=by simpa using y
      subst F
      have G:u = #[]:=by
       cases R:u.toList with
       | nil=>exact Array.toList_eq_nil_iff.1 R
       | cons a b=>rw[R] at hr;exact hr.elim
      subst G
      refine aV.value (x:=.slice (some ⟨w.heap.size,0,none⟩) 0 0) (w':=w.alloc (.cells #[] e)) ?_ (.emp 2 _ (by simp) (by simp)) (ir _ _) ⟨rfl,eN _ _⟩
      simp[Instr.buildSlice,bh k,dx d,Instr.fill,newRow,show Array.range 0 = #[] from rfl]
     .simp at h
    .split at h
     .simp at h
     .rename_i o I
      split at h
      .simp at h
      .rename_i z S
       split at h
       .rename_i J
        obtain⟨p,m⟩:=J
        split at h
        .rename_i es K
         simp only[Wu,Wx] at h
         obtain⟨rfl,rfl,rfl⟩:=h
         obtain⟨q,L,rfl⟩:=iV d S
         have A:=gH (gK (Z:=Z) (μ:=μ) (w:=w) q) m
         have M:q.cells.size=ti.size:=by rw[<-p,A.1];simp
         have B:len * ti.size≠0:=by
          intro N;rcases Nat.mul_eq_zero.1 N with N | N <;> contradiction
         have r:Flat Z μ w.heap ti.size (List.replicate len (fA q).cells) ((Array.range (len * ti.size)).map (q.cells[· % q.cells.size]!)):=by
          refine⟨by simp,λi j hi s=>?_⟩
          simp at hi
          have g:i * ti.size+j < len * ti.size:=fU (by omega) s
          have C:(i * ti.size+j) % ti.size=j:=by
           rw[Nat.mul_comm,Nat.mul_add_mod];exact Nat.mod_eq_of_lt s
          have:=A.2 j (by rw[p];exact s)
          have D:j < q.cells.size:=by omega
          simp only[Wo,Yk,WM D,WJ] at this
          simpa [Wo,WE,hi,g,M,C,getElem!_pos q.cells j D] using this
         obtain⟨f,g1,g2,g3,g4⟩:=Gc (λi=>some (i * ti.size,ti.size)) (λ_=>rfl) E u.toList _ es _ K hr r
          (λi hi=>by simp at hi;simp[Wo,hi,p])
          (λi hi=>by simp at hi;simpa [Wo,hi] using m)
         have O:es.length=len:=by simpa using g3
         refine aV.value (μ':=μ.set n (w.heap.size,0,ti.size)) (x:=.slice (some ⟨w.heap.size,0,none⟩) len len) (w':=w.alloc (.cells f e)) ?_ ?_ (ir _ _) ?_
         .have Q:¬ (2 ^ 24 < len * ti.size):=l
          simp[Instr.buildSlice,bh k,dx d,l,B,o,I,kb d L,g1,newRow]
         .have:=aw.sl (Z:=Z) (μ:=μ.set n (w.heap.size,0,ti.size)) (hp:=(w.alloc (.cells f e)).heap) n 0 len ti.size w.heap.size 0 len f e (0,0) (by simp[Mu.set]) (Wz _) (by rw[heap_alloc];simp) (by rw[g2.len,O];simp)
          simpa using this
         .refine⟨w.heap.size,0,ti.size,Wz _,by rw[heap_alloc];simp,rfl,eN _ _,?_⟩
          refine dS.newRow c.new c.cw (by rw[g2.len];exact Wz _) g4 (λi j hi s=>?_)
          have g:i * ti.size+j < f.size:=by rw[g2.len];exact fU hi s
          refine⟨f[i * ti.size+j],by simp[g],?_⟩
          have:=g2.rel i j hi s
          simpa only [WE,WM g,WJ] using this
        .simp at h
       .simp at h
theorem HO (place pl:Nat->Option (Nat × Nat)) (l:∀ i x,place i=some x->pl i=some x):∀ (n:List (Nat × V)) (o:List (Nat × Value)) (cs d:List V) (a:Array Value),
  vq place cs n=some d->DN Z μ w.heap n o->cs.length=a.size->(∀ i,i < cs.length->aw Z μ w.heap (cs.getD i .any) (a.getD i undef)) ->
  ∃ b,Instr.fill pl a o=some b/\d.length=b.size/\(∀ i,i < d.length->aw Z μ w.heap (d.getD i .any) (b.getD i undef))
 | [],[],cs,d,a,h,_,h1,p=>by
  simp only[vq,Wu] at h;subst h
  exact⟨a,rfl,h1,p⟩
 | (i,x) :: n,(u,y) :: o,cs,d,a,h,hr,h1,p=>by
  obtain⟨hi,f,g⟩:=hr
  simp only at hi f
  subst hi
  simp only[vq] at h
  split at h
  .simp at h
  .rename_i off size hp
   split at h
   .rename_i s
    obtain⟨v,k2,r⟩:=s
    have q:=gH f r
    have t:=B6 f r
    obtain⟨m1,m2⟩:=BB off y.cells a (by omega)
    have m:(fp cs off x.cells).length=cs.length:=xc _ _ _ (by omega)
    obtain⟨b,g1,g2,g3⟩:=HO place pl l n o (fp cs off x.cells) d (y.cells.zipIdx.foldl (λcs (c,j)=>cs.setIfInBounds (off+j) c) a) h g (by rw[m,m1,h1])
     (λk hk=>by
      rw[m] at hk
      rw[WE,m2]
      by_cases e:off<=k/\k < off+x.cells.length
      .rw[E5 _ _ _ _ (by omega) e,Wv (by omega)]
       have:=q.2 (k - off) (by omega)
       simpa [Wo] using this
      .rw[BR _ _ _ _ (by omega) e,Ws (by omega)]
       have:=p k hk
       simpa only [WE] using this)
    refine⟨b,?_,g2,g3⟩
    simp only[Instr.fill,l i _ hp]
    rw[Ws (by simp only[Yc,WH,not_or];omega)]
    exact g1
   .simp at h
 | [],_ :: _,_,_,_,_,hr,_,_=>hr.elim
 | _ :: _,[],_,_,_,_,hr,_,_=>hr.elim
end
section
variable {Z:Nat->Prop} {μ μ':Mu} {w w':World} {P:Program} {H:View} {n:Nat} {v:V} {eff:aS} {rd:List Nat}
theorem Jp {a:Array Field} (h:∀ f∈a.toList,(P.info? f.type).isSome=true) :
  (a.mapM λf=>do pure (f.offset,<-Go.sizeOf f.type):Sem (Array (Nat × Nat))).run P w=.ok (a.map λf=>(f.offset,P.cellsOf f.type)) w:=by
 have key:∀ (l:List Field),(∀ f∈l,(P.info? f.type).isSome=true)->(l.mapM λf=>do pure (f.offset,<-Go.sizeOf f.type):Sem (List (Nat × Nat))).run P w=.ok (l.map λf=>(f.offset,P.cellsOf f.type)) w:=by
  intro l
  induction l with
  | nil=>intro _;rfl
  | cons f r c =>
   intro b
   obtain⟨i,hi⟩:=Option.isSome_iff_exists.1 (b f XE)
   simp only[List.mapM_cons,Sem.run_bind,dx hi,Result.andThen_ok,Sem.run_pure,c (λf d=>b f (W9 _ d)),WZ,vG hi]
 have:=key a.toList h
 rw[Array.mapM_eq_mapM_toList]
 simp only[Sem.run_map,this,Result.andThen_ok]
 congr 1
 apply Array.ext'
 simp
theorem za {t:TypeId} {z:V} (h:zeroV P t=some z):∃ i a,P.info? t=some i/\i.zero=some a/\z=fA a:=by
 unfold zeroV at h
 split at h
 .rename_i i hi
  split at h
  .rename_i a b
   simp at h
   exact⟨i,a,hi,b,h.symm⟩
  .simp at h
 .simp at h
theorem M3 {t:TypeId} {k:List (Nat × V)} {j:Array (Nat × Value)} (h:uY P t k=some (v,eff,rd)) (hr:DN Z μ w.heap k j.toList) :
  aV Z μ w n v eff ((do pure (Next.value (<-Instr.build t j)):Sem Next).run P w):=by
 unfold uY at h
 split at h
 .rename_i l z hu B
  obtain⟨i,C,hi,m,o⟩:=za B
  have hk:ml P t=true:=by
   cases p:ml P t with
   | true=>rfl
   | false=>simp[p] at h
  rw[Wv hk] at h
  simp only[WB] at h
  obtain⟨cs,q,h⟩:=h
  simp only[Wx] at h
  obtain⟨rfl,rfl,rfl⟩:=h
  have e:=gK (Z:=Z) (μ:=μ) (w:=w) C
  rw[<-o] at e
  cases e with
  | agg _ g h1 D =>
   have r:∀ f∈l.toList,(P.info? f.type).isSome=true:=by
    unfold ml at hk
    rw[hu] at hk
    exact WU.1 hk
   obtain⟨c,g1,g2,g3⟩:=HO (placeOf P t) (λi=>(l.map λf=>(f.offset,P.cellsOf f.type))[i]?) (λi x s=>by
    unfold placeOf at s
    simp only[WB] at s
    obtain⟨⟨a,b,F⟩,u,rfl⟩:=s
    obtain⟨E,fd,ti,d,y,A,rfl,rfl,rfl⟩:=uh u
    rw[hu] at d
    simp only[Wu,TypeDesc.struct.injEq] at d
    subst d
    simp[y,vG A]) k j.toList z _ g q hr h1 D
   refine aV.here (x:=.agg c) ?_ (.agg _ _ g2 g3)
   simp only[Instr.build,Sem.run_bind,kb hi m,Result.andThen_ok,bh hu,Value.cells]
   rw[Jp r]
   simp only[Result.andThen_ok,Sem.run_pure]
   have:Instr.fill (λx=>(l.map λf=>(f.offset,P.cellsOf f.type))[x]?) g j.toList=some c:=g1
   simp only[this,Sem.run_pure]
 .simp at h
theorem aI {α β:Type} (P:Program) (s:Sem α) (f:α->Sem β):aP P (s >>= f)=(aP P s).bind λa=>aP P (f a):=by
 have key:∀ s:Sem α,aP P (s.bind f)=(aP P s).bind λa=>aP P (f a):=by
  intro s
  induction s with
  | pure a=>rfl
  | program k b=>simp only[Sem.bind,aP];exact b P
  | _=>rfl
 exact key s
def Keys:List MapEntry->List MapEntry->Prop
 | [],[]=>True
 | a :: r,b :: s=>a.key=b.key/\Keys r s
 | _,_=>False
def Found (l:List MapEntry) (i:Nat):Option (Nat × Value)->Option (Nat × Value)->Prop
 | none,none=>True
 | some (a,_),some (b,x)=>a=b/\i<=a/\(l[a - i]?).map (·.val)=some x
 | _,_=>False
theorem Found.cons {l:List MapEntry} {e:MapEntry} {i:Nat} : ∀ {r c:Option (Nat × Value)},Found l (i+1) r c->Found (e :: l) i r c
 | none,none,_=>trivial
 | some (a,_),some (b,x),h=>by
  obtain⟨rfl,h1,d⟩:=h
  refine⟨rfl,by omega,?_⟩
  rw[show a - i=(a - (i+1))+1 from by omega]
  simpa using d
 | none,some _,h=>h.elim
 | some _,none,h=>h.elim
theorem yl (kind:TypeDesc) (k:Value):∀ (l m:List MapEntry) (i:Nat),Keys l m ->
  match Instr.findNow kind k l i,Instr.findNow kind k m i with
  | some r,some c=>Found m i r c
  | none,none=>True
  | _,_=>False
 | [],[],i,_=>trivial
 | a :: l,b :: m,i,h=>by
  obtain⟨hk,hr⟩:=h
  simp only[Instr.findNow,<-hk]
  cases d:Instr.sameNow kind k a.key with
  | none=>trivial
  | some t =>
   cases t with
   | true=>exact⟨rfl,Wz _,by simp⟩
   | false =>
    have:=yl kind k l m (i+1) hr
    simp only
    split at this
    .exact this.cons
    .trivial
    .exact this.elim
 | [],_ :: _,_,h=>h.elim
 | _ :: _,[],_,h=>h.elim
theorem tu (kt:TypeId) (k:Value):∀ (l m:List MapEntry) (i:Nat) (r:Option (Nat × Value)),Keys l m->aP P (Instr.findAsking kt k l i)=some r ->
  ∃ d,(Instr.findAsking kt k m i).run P w=.ok d w/\Found m i r d
 | [],[],i,r,_,h=>by
  simp only[Instr.findAsking,aP,Pure.pure,Wu] at h
  subst h
  exact⟨none,rfl,trivial⟩
 | a :: l,b :: m,i,r,hk,h=>by
  obtain⟨hk,hr⟩:=hk
  simp only[Instr.findAsking,aI,Option.bind_eq_some_iff] at h
  obtain⟨t,e,h⟩:=h
  have c:=pQ _ e w
  rw[hk] at c
  cases t with
  | true =>
   simp only[if_true,aP,Pure.pure,Wu] at h
   subst h
   exact⟨some (i,b.val),by simp[Instr.findAsking,c],rfl,Wz _,by simp⟩
  | false =>
   simp only[WR,if_false] at h
   obtain⟨d,h1,f⟩:=tu kt k l m (i+1) r hr h
   exact⟨d,by simp[Instr.findAsking,c,h1],f.cons⟩
 | [],_ :: _,_,_,h,_=>h.elim
 | _ :: _,[],_,_,h,_=>h.elim
theorem yK:∀ (es:List (V × V × Nat)) (l m:List MapEntry),fN es=some l->es.length=m.length ->
  (∀ i,i < es.length->∃ y,m[i]?=some y/\aw Z μ w.heap (es.getD i default).1 y.key)->Keys l m
 | [],l,m,h,a,_=>by
  simp only[fN,Wu] at h
  subst h
  cases m with
  | nil=>trivial
  | cons _ _=>simp at a
 | (k,j,b) :: es,l,m,h,a,hr=>by
  simp only[fN] at h
  split at h
  .rename_i x y f g
   simp only[Wu] at h
   subst h
   cases m with
   | nil=>simp at a
   | cons e m =>
    obtain⟨d,h1,c⟩:=hr 0 (by simp)
    simp only[WX,Wu] at h1
    subst h1
    refine⟨qt c f,yK es y m g (by simpa using a) (λi hi=>?_)⟩
    obtain⟨d,h1,c⟩:=hr (i+1) (by simpa using hi)
    exact⟨d,by simpa using h1,by simpa using c⟩
  .simp at h
theorem pD {kt:TypeId} {k:V} {x:Value} {b:Bool} {es:List (V × V × Nat)} {a:Array MapEntry} {r:Option Nat} (h:lG P kt k b es=some r) (hk:aw Z μ w.heap k x) (B:a.size=es.length)
  (hr:∀ i,i < es.length->∃ y,a[i]?=some y/\aw Z μ w.heap (es.getD i default).1 y.key) :
  (Instr.checkKey b 10000 kt x).run P w=.ok () w /\
  ∃ e,(Instr.findKey kt x a.toList).run P w=.ok e w/\(match r,e with
   | none,none=>True
   | some i,some (j,y)=>i=j/\(a[i]?).map (·.val)=some y
   | _,_=>False):=by
 unfold lG at h
 split at h
 .rename_i o l C s
  have v:=qt hk C
  subst v
  have f:=yK (Z:=Z) (μ:=μ) (w:=w) es l a.toList s (by simpa using B.symm) (λi hi=>by simpa using hr i hi)
  have g:∀ q,aP P (Instr.checkKey b 10000 kt o >>= λ_=>Instr.findKey kt o l)=some q->(Instr.checkKey b 10000 kt o).run P w=.ok () w/\∃ e,(Instr.findKey kt o a.toList).run P w=.ok e w/\Found a.toList 0 q e:=by
   intro q m
   rw[aI,Option.bind_eq_some_iff] at m
   obtain⟨u,hu,m⟩:=m
   refine⟨pQ _ hu w,?_⟩
   simp only[Instr.findKey,aI,Option.bind_eq_some_iff] at m
   obtain⟨d,D,m⟩:=m
   have t:=pQ _ D w
   have c:=yl d o l a.toList 0 f
   cases h1:Instr.findNow d o l 0 with
   | some F =>
    rw[h1] at c m
    simp only[aP,Pure.pure,Wu] at m
    subst m
    cases n:Instr.findNow d o a.toList 0 with
    | none=>rw[n] at c;exact c.elim
    | some A =>
     rw[n] at c
     exact⟨A,by simp[Instr.findKey,t,n],c⟩
   | none =>
    rw[h1] at c m
    cases n:Instr.findNow d o a.toList 0 with
    | some A=>rw[n] at c;exact c.elim
    | none =>
     obtain⟨e,p,z⟩:=tu (w:=w) kt o l a.toList 0 q f m
     exact⟨e,by simp[Instr.findKey,t,n,p],z⟩
  split at h
  .rename_i i G hp
   simp only[Wu] at h
   subst h
   obtain⟨h1,e,n,p⟩:=g _ hp
   refine⟨h1,e,n,?_⟩
   cases e with
   | none=>exact p.elim
   | some q =>
    obtain⟨j,y⟩:=q
    obtain⟨z,_,E⟩:=p
    exact⟨z,by simpa using E⟩
  .rename_i hp
   simp only[Wu] at h
   subst h
   obtain⟨h1,e,n,p⟩:=g _ hp
   refine⟨h1,e,n,?_⟩
   cases e with
   | none=>trivial
   | some q=>exact p.elim
  .simp at h
 .simp at h
theorem uW {id:Nat} {x:Value} (h:aw Z μ w.heap (.mp id) x):∃ b o0 s,μ id=some (b,o0,s)/\x=.map (some b):=by
 cases h with | mp _ b o0 s hm=>exact⟨b,o0,s,hm,rfl⟩
theorem gB {b:Nat} {a:Array MapEntry} {c:Nat} (h:w.heap[b]?=some (.map a c)):(getObj b).run P w=.ok (.map a c) w:=by
 simp[getObj,Sem.run,h]
theorem kd {b:Nat} {a:Array MapEntry} {c:Nat} (o:Obj) (h:w.heap[b]?=some (.map a c)):(setObj b o).run P w=.ok () { w with heap:=w.heap.setIfInBounds b o }:=by
 simp[setObj,Sem.run,h]
theorem nX {t kt et:TypeId} (h:dR P t=some (kt,et)):P.underlying t=some (.map kt et):=by
 unfold dR at h
 split at h
 .rename_i k e hu;simp at h;rw[hu,h.1,h.2]
 .simp at h
theorem KZ {k:Bool} {v1:V} {a:Value} {b:Bool} (h:aw Z μ w.heap v1 a) :
  aw Z μ w.heap (if k then .aO [v1,.val (.bool b)] else v1) (if k then .tuple #[a,.bool b] else a):=by
 cases k with
 | false=>exact h
 | true =>
  refine .aO _ _ rfl (λi hi=>?_)
  match i,hi with
  | 0,_=>exact h
  | 1,_=>exact .val _ rfl
theorem LD {t:TypeId} {m k:V} {L kv:Value} {ok:Bool} (h:fc P t m k ok H=some (v,eff,rd)) (hm:aw Z μ w.heap m L) (hk:aw Z μ w.heap k kv) (c:Ctx Z μ w.heap H rd n eff) :
  aV Z μ w n v eff ((do pure (Next.value (<-Instr.lookup t L kv ok)):Sem Next).run P w):=by
 unfold fc at h
 split at h
 .simp at h
 .rename_i kt et A
  have hu:=nX A
  split at h
  .simp at h
  .rename_i z O
   obtain⟨ti,p,B,C,rfl⟩:=za O
   simp only at h
   split at h
   .rename_i id
    obtain⟨b,o0,s,D,rfl⟩:=uW hm
    split at h
    .rename_i es clock hH
     have g:∀ E,E=id->dS Z μ w.heap id (.map es clock)->∃ a:Array MapEntry,w.heap[b]?=some (.map a clock)/\a.size=es.length /\
       ∀ i,i < es.length->∃ y,a[i]?=some y/\aw Z μ w.heap (es.getD i default).1 y.key/\aw Z μ w.heap (es.getD i default).2.1 y.val/\y.born=(es.getD i default).2.2:=λ_ _ h=>h b o0 s D
     have go:∀ r,lG P kt k es.isEmpty es=some r->dS Z μ w.heap id (.map es clock)->∃ x,(Instr.lookup t (.map (some b)) kv ok).run P w=.ok x w /\
       (match r with
        | some i=>∀ e,es[i]?=some e->aw Z μ w.heap (if ok then .aO [e.2.1,.val (.bool true)] else e.2.1) x
        | none=>aw Z μ w.heap (if ok then .aO [fA p,.val (.bool false)] else fA p) x):=by
      intro r hr d
      obtain⟨a,M,l,o⟩:=g id rfl d
      obtain⟨h1,N,u,F⟩:=pD (w:=w) hr hk l (λi hi=>let ⟨y,h1,u,_⟩:=o i hi; ⟨y,h1,u⟩)
      have f:a.isEmpty=es.isEmpty:=by
       simp only[Array.isEmpty,l];cases es <;> simp
      cases r with
      | none =>
       cases N with
       | some q=>exact F.elim
       | none =>
        refine⟨if ok then .tuple #[p,.bool false] else p,?_,KZ (gK _)⟩
        simp only[Instr.lookup,Sem.run_bind,bh hu,Result.andThen_ok,gB M,Sem.run_pure,f,h1,u,kb B C]
      | some i =>
       cases N with
       | none=>exact F.elim
       | some q =>
        obtain⟨j,y⟩:=q
        obtain⟨rfl,G⟩:=F
        refine⟨if ok then .tuple #[y,.bool true] else y,?_,λe he=>?_⟩
        .simp only[Instr.lookup,Sem.run_bind,bh hu,Result.andThen_ok,gB M,Sem.run_pure,f,h1,u]
        .refine KZ ?_
         have hi:i < es.length:=by
          rcases W5 i es.length with h | h
          .exact h
          .simp[Xa h] at he
         obtain⟨Q,g1,g2,g3,g4⟩:=o i hi
         rw[g1] at G
         simp only[WL,Wu] at G
         subst G
         simpa [Wo,he] using g3
     split at h
     .rename_i i I
      split at h
      .rename_i R S T he
       simp only[Wu,Wx] at h
       obtain⟨rfl,rfl,rfl⟩:=h
       have d:=c.obj id (by simp)
       rw[hH] at d
       obtain⟨x,J,K⟩:=go _ I d
       exact aV.here J (K _ he)
      .simp at h
     .rename_i I
      simp only[Wu,Wx] at h
      obtain⟨rfl,rfl,rfl⟩:=h
      have d:=c.obj id (by simp)
      rw[hH] at d
      obtain⟨x,J,K⟩:=go _ I d
      exact aV.here J K
     .simp at h
    .simp at h
   .simp at h
end
section
variable {Z:Nat->Prop} {μ μ':Mu} {w w':World} {P:Program} {H:View} {n:Nat} {v:V} {eff:aS} {rd:List Nat}
theorem lg {b:Nat} {a:Array MapEntry} {c:Nat} {o:Obj} (cw:∀ b,Z b->b < w.heap.size) (g:¬ Z b) (i:w.heap[b]?=some (.map a c)) :
  ia Z Z μ μ w.heap (w.heap.setIfInBounds b o)/\fu w.heap (w.heap.setIfInBounds b o):=by
 have d:fu w.heap (w.heap.setIfInBounds b o):=by
  intro k j e f hk
  by_cases h:b=k
  .subst h;rw[i] at hk;simp at hk
  .exact⟨j,f,by simp[h,hk],rfl⟩
 exact⟨⟨λ_ h=>h,λk hk=>db w.heap b _ k (cw k hk) (λe=>g (e ▸ hk)),λ_ _ h=>h,d⟩,d⟩
theorem xj {c k:V} {d x:Value} (h:sameKey c k=true) (e:aw Z μ w.heap c d) (hk:aw Z μ w.heap k x):(Instr.keyThatStays d x).run P w=.ok x w:=by
 unfold sameKey at h
 split at h
 .rename_i a b f g
  have i:=qt e f
  have j:=qt hk g
  subst i j
  simp[Instr.keyThatStays,h]
 .simp at h
theorem dS.HN {id b o0 s:Nat} {es:List (V × V × Nat)} {clock i:Nat} {a:Array MapEntry} {k d:V} {e':MapEntry} (h:μ id=some (b,o0,s)) (cw:∀ b,Z b->b < w.heap.size) (r:¬ Z b) (q:w.heap[b]?=some (.map a clock)) (l:a.size=es.length)
  (m:∀ i,i < es.length->∃ y,a[i]?=some y/\aw Z μ w.heap (es.getD i default).1 y.key/\aw Z μ w.heap (es.getD i default).2.1 y.val/\y.born=(es.getD i default).2.2)
  (hi:i < es.length) (f:MapEntry->MapEntry) (t:∀ y,a[i]?=some y->f y=e') (hk:aw Z μ w.heap k e'.key) (u:aw Z μ w.heap d e'.val) {g:Nat} (v:e'.born=g) :
  dS Z μ (w.heap.setIfInBounds b (.map (a.modify i f) clock)) id (.map (es.set i (k,d,g)) clock):=by
 have hm:=(lg (μ:=μ) (o:=.map (a.modify i f) clock) cw r q).1
 intro C D s1 c
 rw[h] at c
 simp only[Wu,Wx] at c
 obtain⟨rfl,rfl,rfl⟩:=c
 refine⟨a.modify i f,ec (eM q),by simp[l],λj x=>?_⟩
 have n:j < es.length:=by simpa using x
 obtain⟨y,h1,z,A,B⟩:=m j n
 by_cases e:i=j
 .subst e
  have p:(es.set i (k,d,g)).getD i default=(k,d,g):=by simp[Wo,hi]
  refine⟨e',by rw[X7];simp[h1,t y h1],?_⟩
  rw[p]
  exact⟨hk.mono hm,u.mono hm,v⟩
 .have p:(es.set i (k,d,g)).getD j default=es.getD j default:=by simp[Wo,e]
  refine⟨y,by rw[X7];simp[e,h1],?_⟩
  rw[p]
  exact⟨z.mono hm,A.mono hm,B⟩
theorem dS.Kk {id b o0 s:Nat} {es:List (V × V × Nat)} {clock:Nat} {a:Array MapEntry} {k f:V} {kv c:Value} (h:μ id=some (b,o0,s)) (cw:∀ b,Z b->b < w.heap.size) (p:¬ Z b) (n:w.heap[b]?=some (.map a clock)) (g:a.size=es.length)
  (l:∀ i,i < es.length->∃ y,a[i]?=some y/\aw Z μ w.heap (es.getD i default).1 y.key/\aw Z μ w.heap (es.getD i default).2.1 y.val/\y.born=(es.getD i default).2.2)
  (hk:aw Z μ w.heap k kv) (q:aw Z μ w.heap f c) :
  dS Z μ (w.heap.setIfInBounds b (.map (a.push { key:=kv,val:=c,born:=clock }) (clock+1))) id (.map (es ++ [(k,f,clock)]) (clock+1)):=by
 have hm:=(lg (μ:=μ) (o:=.map (a.push { key:=kv,val:=c,born:=clock }) (clock+1)) cw p n).1
 intro x z s1 d
 rw[h] at d
 simp only[Wu,Wx] at d
 obtain⟨rfl,rfl,rfl⟩:=d
 refine⟨_,ec (eM n),by simp[g],λj r=>?_⟩
 by_cases e:j < es.length
 .obtain⟨y,h1,t,u,v⟩:=l j e
  have m:(es ++ [(k,f,clock)]).getD j default=es.getD j default:=by simp[Wo,WS e]
  refine⟨y,by rw[X3,Ws (by omega)];exact h1,?_⟩
  rw[m]
  exact⟨t.mono hm,u.mono hm,v⟩
 .obtain rfl:j=es.length:=by simp at r;omega
  have m:(es ++ [(k,f,clock)]).getD es.length default=(k,f,clock):=by simp[Wo]
  refine⟨_,by rw[X3,Wv g.symm],?_⟩
  rw[m]
  exact⟨hk.mono hm,q.mono hm,rfl⟩
theorem sr {id b o0 s:Nat} {es:List (V × V × Nat)} {clock:Nat} (c:dS Z μ w.heap id (.map es clock)) (d:μ id=some (b,o0,s)) :
 ∃ a:Array MapEntry,w.heap[b]?=some (.map a clock)/\a.size=es.length /\
  ∀ i,i < es.length->∃ y,a[i]?=some y/\aw Z μ w.heap (es.getD i default).1 y.key/\aw Z μ w.heap (es.getD i default).2.1 y.val/\y.born=(es.getD i default).2.2:=c b o0 s d
theorem lD {α:Type} {l:List α} {i:Nat} {x:α} (h:l[i]?=some x):i < l.length:=by
 rcases W5 i l.length with a | a
 .exact a
 .simp[Xa a] at h
theorem xw {t:TypeId} {m k E:V} {F kv g:Value} (h:gC P t m k E H=some (v,eff,rd)) (hm:aw Z μ w.heap m F) (hk:aw Z μ w.heap k kv) (G:aw Z μ w.heap E g) (c:Ctx Z μ w.heap H rd n eff) :
  aV Z μ w n v eff ((do Instr.mapUpdate t F kv g;pure Next.skip:Sem Next).run P w):=by
 unfold gC at h
 split at h
 .rename_i kt et id A
  have hu:=nX A
  obtain⟨b,o0,s,d,rfl⟩:=uW hm
  split at h
  .rename_i es clock hH
   split at h
   .rename_i i B
    split at h
    .rename_i I v0 J he
     split at h
     .rename_i C
      simp only[Wu,Wx] at h
      obtain⟨rfl,rfl,rfl⟩:=h
      have l:=c.obj id (by simp)
      rw[hH] at l
      obtain⟨a,p,o,f⟩:=sr l d
      have x:=c.gR _ _ _ _ d
      have hi:=lD he
      obtain⟨y,g1,g2,g3,g4⟩:=f i hi
      simp only[Wo,he,WJ] at g2 g3 g4
      obtain⟨h1,D,r,z⟩:=pD (w:=w) B hk o (λi hi=>let ⟨y,h1,r,_⟩:=f i hi; ⟨y,h1,r⟩)
      cases D with
      | none=>exact z.elim
      | some q =>
       obtain⟨j,K⟩:=q
       obtain⟨rfl,L⟩:=z
       refine aV.skip (w':={ w with heap:=w.heap.setIfInBounds b (.map (a.modify i λe=>{ e with key:=kv,val:=g }) clock) }) (μ':=μ) ?_ ⟨rfl,rfl,rfl,by simp⟩ ?_
       .simp only[Instr.mapUpdate,Sem.run_bind,bh hu,Result.andThen_ok,gB p,h1,r,g1,WL,WJ,xj C g2 hk,kd _ p]
       .exact⟨b,o0,s,d,rfl,db _ _ _,(lg (μ:=μ) c.cw x p).2,dS.HN d c.cw x p o f hi _ (e':={ y with key:=kv,val:=g }) (λM u=>by rw[g1] at u;simp at u;subst u;rfl) hk G g4⟩
     .simp at h
    .simp at h
   .rename_i B
    simp only[Wu,Wx] at h
    obtain⟨rfl,rfl,rfl⟩:=h
    have l:=c.obj id (by simp)
    rw[hH] at l
    obtain⟨a,p,o,f⟩:=sr l d
    have x:=c.gR _ _ _ _ d
    obtain⟨h1,D,r,z⟩:=pD (w:=w) B hk o (λi hi=>let ⟨y,h1,r,_⟩:=f i hi; ⟨y,h1,r⟩)
    cases D with
    | some q=>exact z.elim
    | none =>
     refine aV.skip (w':={ w with heap:=w.heap.setIfInBounds b (.map (a.push { key:=kv,val:=g,born:=clock }) (clock+1)) }) (μ':=μ) ?_ ⟨rfl,rfl,rfl,by simp⟩ ?_
     .simp only[Instr.mapUpdate,Sem.run_bind,bh hu,Result.andThen_ok,gB p,h1,r,kd _ p]
     .exact⟨b,o0,s,d,rfl,db _ _ _,(lg (μ:=μ) c.cw x p).2,dS.Kk d c.cw x p o f hk G⟩
   .simp at h
  .simp at h
 .simp at h
theorem Uv {a b:V} {x y:Value} (h1:aw Z μ w.heap a x) (c:aw Z μ w.heap b y):aw Z μ w.heap (.aO [a,b]) (.tuple #[x,y]):=by
 refine .aO _ _ rfl (λi hi=>?_)
 match i,hi with
 | 0,_=>exact h1
 | 1,_=>exact c
theorem IL {t:TypeId} {m k:V} {N kv:Value} (h:ew P t m k H=some (v,eff,rd)) (hm:aw Z μ w.heap m N) (hk:aw Z μ w.heap k kv) (c:Ctx Z μ w.heap H rd n eff) :
  aV Z μ w n v eff ((do pure (Next.value (<-Instr.mapEntry t N kv)):Sem Next).run P w):=by
 unfold ew at h
 split at h
 .rename_i kt et id D
  have hu:=nX D
  obtain⟨b,o0,s,d,rfl⟩:=uW hm
  split at h
  .rename_i es clock hH
   split at h
   .rename_i i E
    split at h
    .rename_i O v0 Q he
     split at h
     .rename_i F
      simp only[Wu,Wx] at h
      obtain⟨rfl,rfl,rfl⟩:=h
      have g:=c.obj id (by simp)
      rw[hH] at g
      obtain⟨a,r,l,f⟩:=sr g d
      have B:=c.gR _ _ _ _ d
      have hi:=lD he
      obtain⟨y,g1,g2,g3,g4⟩:=f i hi
      simp only[Wo,he,WJ] at g2 g3 g4
      obtain⟨h1,G,u,C⟩:=pD (w:=w) E hk l (λi hi=>let ⟨y,h1,u,_⟩:=f i hi; ⟨y,h1,u⟩)
      cases G with
      | none=>exact C.elim
      | some q =>
       obtain⟨j,R⟩:=q
       obtain⟨rfl,I⟩:=C
       rw[g1] at I
       simp only[WL,Wu] at I
       subst I
       have p:=lg (μ:=μ) (o:=.map (a.modify i λe=>{ e with key:=kv }) clock) c.cw B r
       refine aV.value (w':={ w with heap:=w.heap.setIfInBounds b (.map (a.modify i λe=>{ e with key:=kv }) clock) }) (μ':=μ) (x:=.tuple #[y.val,goInt y.born]) ?_ ?_ ⟨rfl,rfl,rfl,by simp⟩ ?_
       .simp only[Instr.mapEntry,Sem.run_bind,bh hu,Result.andThen_ok,gB r,h1,u,g1,WL,WJ,xj F g2 hk,kd _ r,Sem.run_pure]
       .refine aw.mono p.1 (Uv g3 ?_)
        rw[g4];exact .val _ rfl
       .exact⟨b,o0,s,d,rfl,db _ _ _,p.2,dS.HN d c.cw B r l f hi _ (e':={ y with key:=kv }) (λS A=>by rw[g1] at A;simp at A;subst A;rfl) hk g3 g4⟩
     .simp at h
    .simp at h
   .rename_i E
    split at h
    .rename_i z J
     obtain⟨ti,K,L,M,rfl⟩:=za J
     simp only[Wu,Wx] at h
     obtain⟨rfl,rfl,rfl⟩:=h
     have g:=c.obj id (by simp)
     rw[hH] at g
     obtain⟨a,r,l,f⟩:=sr g d
     have B:=c.gR _ _ _ _ d
     obtain⟨h1,G,u,C⟩:=pD (w:=w) E hk l (λi hi=>let ⟨y,h1,u,_⟩:=f i hi; ⟨y,h1,u⟩)
     cases G with
     | some q=>exact C.elim
     | none =>
      have p:=lg (μ:=μ) (o:=.map (a.push { key:=kv,val:=K,born:=clock }) (clock+1)) c.cw B r
      refine aV.value (w':={ w with heap:=w.heap.setIfInBounds b (.map (a.push { key:=kv,val:=K,born:=clock }) (clock+1)) }) (μ':=μ) (x:=.tuple #[K,goInt clock]) ?_ ?_ ⟨rfl,rfl,rfl,by simp⟩ ?_
      .simp only[Instr.mapEntry,Sem.run_bind,bh hu,Result.andThen_ok,gB r,h1,u,kb L M,kd _ r,Sem.run_pure]
      .exact aw.mono p.1 (Uv (gK _) (.val _ rfl))
      .exact⟨b,o0,s,d,rfl,db _ _ _,p.2,dS.Kk d c.cw B r l f hk (gK _)⟩
    .simp at h
   .simp at h
  .simp at h
 .simp at h
theorem C3 {t:TypeId} {m s A:V} {B C d:Value} (h:ko m s A H=some (v,eff,rd)) (hm:aw Z μ w.heap m B) (J:aw Z μ w.heap s C) (K:aw Z μ w.heap A d) (c:Ctx Z μ w.heap H rd n eff) :
  aV Z μ w n v eff ((do Instr.entryStore t B C d;pure Next.skip:Sem Next).run P w):=by
 unfold ko at h
 split at h
 .rename_i id q L
  obtain⟨k,rfl⟩:=ln L
  have u:=er J
  subst u
  obtain⟨b,o0,s,f,rfl⟩:=uW hm
  split at h
  .rename_i es clock hH
   split at h
   .rename_i i D
    split at h
    .rename_i M v0 N he
     simp only[Wu,Wx] at h
     obtain⟨rfl,rfl,rfl⟩:=h
     have p:=c.obj id (by simp)
     rw[hH] at p
     obtain⟨a,r,x,g⟩:=sr p f
     have E:=c.gR _ _ _ _ f
     have hi:=lD he
     obtain⟨y,g1,g2,g3,g4⟩:=g i hi
     simp only[Wo,he,WJ] at g2 g3 g4
     have l:a.findIdx? (λe=>(e.born:Int) == (q:Int))=some i:=by
      rw[Array.findIdx?_eq_some_iff_getElem]
      rw[List.findIdx?_eq_some_iff_getElem] at D
      obtain⟨O,hp,z⟩:=D
      refine⟨by omega,?_,?_⟩
      .have:a[i]=y:=by have:=g1;rw[WM (by omega)] at this;simpa using this
       rw[this,g4]
       have:es[i]=(M,v0,N):=by have:=he;rw[Wp hi] at this;simpa using this
       rw[this] at hp
       simp at hp ⊢;omega
      .intro j Q
       obtain⟨F,G,_,_,I⟩:=g j (by omega)
       have h1:a[j]=F:=by rw[WM (by omega)] at G;simpa using G
       have R:=z j Q
       simp only[Wo,Wp (show j < es.length by omega),WJ] at I
       rw[h1,I]
       simp at R ⊢;omega
     refine aV.skip (w':={ w with heap:=w.heap.setIfInBounds b (.map (a.modify i λe=>{ e with val:=d }) clock) }) (μ':=μ) ?_ ⟨rfl,rfl,rfl,by simp⟩ ?_
     .simp only[Instr.entryStore,Sem.run_bind,Result.andThen_ok,gB r,asInt,asIntOf,Sem.run_pure,l,kd _ r]
     .exact⟨b,o0,s,f,rfl,db _ _ _,(lg (μ:=μ) c.cw E r).2,dS.HN f c.cw E r x g hi _ (e':={ y with val:=d }) (λF o=>by rw[g1] at o;simp at o;subst o;rfl) g2 K g4⟩
    .simp at h
   .simp at h
  .simp at h
 .simp at h
theorem Me {t:TypeId} {m k:V} {L kv:Value} {x:Array TypeId} {ty:TypeId} (h:u7 P t m k H=some (v,eff,rd)) (D:x[0]?=some t) (hm:aw Z μ w.heap m L) (hk:aw Z μ w.heap k kv) (c:Ctx Z μ w.heap H rd n eff) :
  aV Z μ w n v eff ((do pure (Next.value (<-Builtin.delete_ x ty #[L,kv])):Sem Next).run P w):=by
 unfold u7 at h
 split at h
 .rename_i kt et id F
  have hu:=nX F
  obtain⟨b,o0,s,z,rfl⟩:=uW hm
  split at h
  .rename_i es clock hH
   have start:dS Z μ w.heap id (.map es clock)->∀ r,lG P kt k es.isEmpty es=some r->∃ a:Array MapEntry,w.heap[b]?=some (.map a clock)/\a.size=es.length /\
     (∀ i,i < es.length->∃ y,a[i]?=some y/\aw Z μ w.heap (es.getD i default).1 y.key/\aw Z μ w.heap (es.getD i default).2.1 y.val/\y.born=(es.getD i default).2.2) /\
     (∀ i,r=some i->(Builtin.delete_ x ty #[.map (some b),kv]).run P w=.ok (.tuple #[]) { w with heap:=w.heap.setIfInBounds b (.map (a.eraseIdxIfInBounds i) clock) }) /\
     (r=none->(Builtin.delete_ x ty #[.map (some b),kv]).run P w=.ok (.tuple #[]) { w with heap:=w.heap.setIfInBounds b (.map a clock) }):=by
    intro d r hr
    obtain⟨a,l,f,g⟩:=sr d z
    obtain⟨h1,M,E,G⟩:=pD (w:=w) hr hk f (λi hi=>let ⟨y,h1,E,_⟩:=g i hi; ⟨y,h1,E⟩)
    have A:a.isEmpty=es.isEmpty:=by
     simp only[Array.isEmpty,f];cases es <;> simp
    refine⟨a,l,f,g,λi hi=>?_,λhi=>?_⟩
    .subst hi
     cases M with
     | none=>exact G.elim
     | some q =>
      obtain⟨j,S⟩:=q
      obtain⟨rfl,T⟩:=G
      simp only[Builtin.delete_,Xg,WX,Xl,D,Sem.run_bind,bh hu,Result.andThen_ok,gB l,A,h1,E,kd _ l,Sem.run_pure]
    .subst hi
     cases M with
     | some q=>exact G.elim
     | none =>
      simp only[Builtin.delete_,Xg,WX,Xl,D,Sem.run_bind,bh hu,Result.andThen_ok,gB l,A,h1,E,kd _ l,Sem.run_pure]
   split at h
   .rename_i i I
    simp only[Wu,Wx] at h
    obtain⟨rfl,rfl,rfl⟩:=h
    have d:=c.obj id (by simp)
    rw[hH] at d
    obtain⟨a,l,f,g,p,_⟩:=start d _ I
    have R:=c.gR _ _ _ _ z
    have u:=lg (μ:=μ) (o:=.map (a.eraseIdxIfInBounds i) clock) c.cw R l
    refine aV.value (μ':=μ) (p i rfl) (.any _) ⟨rfl,rfl,rfl,by simp⟩ ⟨b,o0,s,z,rfl,db _ _ _,u.2,?_⟩
    intro U W s1 B
    rw[z] at B
    simp only[Wu,Wx] at B
    obtain⟨rfl,rfl,rfl⟩:=B
    have J:∀ j,(a.eraseIdxIfInBounds i)[j]?=if j < i then a[j]? else a[j+1]?:=by
     intro j
     have:(a.eraseIdxIfInBounds i)[j]?=(a.toList.eraseIdx i)[j]?:=by rw[<-Yk,Array.toList_eraseIdxIfInBounds]
     rw[this,List.getElem?_eraseIdx]
     split <;> simp
    refine⟨_,ec (eM l),?_,λj X=>?_⟩
    .rw[<-Array.length_toList,Array.toList_eraseIdxIfInBounds,List.length_eraseIdx,List.length_eraseIdx]
     simp[f]
    .have K:(es.eraseIdx i).getD j default=if j < i then es.getD j default else es.getD (j+1) default:=by
      simp only[Wo,List.getElem?_eraseIdx];split <;> rfl
     rw[J,K]
     have N:(es.eraseIdx i).length<=es.length/\(i < es.length->(es.eraseIdx i).length=es.length - 1):=by
      rw[List.length_eraseIdx];split <;> omega
     by_cases e:j < i
     .rw[Wv e,Wv e]
      obtain⟨y,g1,g2,g3,g4⟩:=g j (by omega)
      exact⟨y,g1,g2.mono u.1,g3.mono u.1,g4⟩
     .rw[Ws e,Ws e]
      have:j+1 < es.length:=by
       rcases W5 i es.length with O | O
       .have:=N.2 O;omega
       .have:=N.1;omega
      obtain⟨y,g1,g2,g3,g4⟩:=g (j+1) this
      exact⟨y,g1,g2.mono u.1,g3.mono u.1,g4⟩
   .rename_i I
    simp only[Wu,Wx] at h
    obtain⟨rfl,rfl,rfl⟩:=h
    have d:=c.obj id (by simp)
    rw[hH] at d
    obtain⟨a,l,f,g,_,p⟩:=start d _ I
    have C:w.heap.setIfInBounds b (.map a clock)=w.heap:=by
     apply Array.ext_getElem?
     intro k
     simp only[Xn]
     split
     .rename_i hk
      subst hk
      rw[Wv (eM l)];exact l.symm
     .rfl
    have Q:=p rfl
    rw[C] at Q
    exact aV.here Q (.any _)
   .simp at h
  .simp at h
 .simp at h
end
section
variable {Z:Nat->Prop} {μ μ':Mu} {w w':World} {P:Program} {H:View} {n:Nat} {v:V} {eff:aS} {rd:List Nat}
theorem SZ {t:TypeId} {x:V} {o:Value} {f:Array TypeId} {ty:TypeId} (h:ue P t x H=some (v,eff,rd)) (d:f[0]?=some t) (i:aw Z μ w.heap x o) (c:Ctx Z μ w.heap H rd n eff) :
  aV Z μ w n v eff ((do pure (Next.value (<-Builtin.len_ f ty #[o])):Sem Next).run P w):=by
 unfold ue at h
 split at h
 .rename_i e hu
  simp only[WB] at h
  obtain⟨m,hm,h⟩:=h
  simp only[Wx] at h
  obtain⟨rfl,rfl,rfl⟩:=h
  obtain⟨ad,cap,rfl,_⟩:=dP i hm
  exact aV.here (x:=goInt m) (by simp[Builtin.len_,d,bh hu]) (.val _ rfl)
 .rename_i k e hu
  split at h
  .rename_i id
   obtain⟨b,o0,s,j,rfl⟩:=uW i
   split at h
   .rename_i es clock hH
    simp only[Wu,Wx] at h
    obtain⟨rfl,rfl,rfl⟩:=h
    have g:=c.obj id (by simp)
    rw[hH] at g
    obtain⟨a,p,l,q⟩:=sr g j
    refine aV.here (x:=goInt es.length) ?_ (.val _ rfl)
    simp[Builtin.len_,d,bh hu,gB p,l]
   .simp at h
  .simp only[Wu,Wx] at h
   obtain⟨rfl,rfl,rfl⟩:=h
   have:=er i
   subst this
   exact aV.here (x:=goInt 0) (by simp[Builtin.len_,d,bh hu]) (.val _ rfl)
  .simp at h
 .rename_i hu
  split at h
  .rename_i s
   simp only[Wu,Wx] at h
   obtain⟨rfl,rfl,rfl⟩:=h
   have:=er i
   subst this
   exact aV.here (x:=goInt s.size) (by simp[Builtin.len_,d,bh hu]) (.val _ rfl)
  .simp at h
 .rename_i m e hu
  simp only[Wu,Wx] at h
  obtain⟨rfl,rfl,rfl⟩:=h
  exact aV.here (x:=goInt m) (by simp[Builtin.len_,d,bh hu]) (.val _ rfl)
 .simp at h
theorem zS {b:Nat} {s:ByteArray} {pos:Nat} (h:w.heap[b]?=some (.stringIter s pos)):(getObj b).run P w=.ok (.stringIter s pos) w:=by
 simp[getObj,Sem.run,h]
theorem I4 {b:Nat} {s:ByteArray} {pos:Nat} (o:Obj) (h:w.heap[b]?=some (.stringIter s pos)):(setObj b o).run P w=.ok () { w with heap:=w.heap.setIfInBounds b o }:=by
 simp[setObj,Sem.run,h]
theorem Qz {x:V} {m:Value} {ty:TypeId} (h:BX x H=some (v,eff,rd)) (o:aw Z μ w.heap x m) (c:Ctx Z μ w.heap H rd n eff) :
  aV Z μ w n v eff ((do pure (Next.value (<-Instr.next m true ty)):Sem Next).run P w):=by
 unfold BX at h
 split at h
 .rename_i id
  obtain⟨b,o0,s,a,rfl⟩:=mY o
  split at h
  .rename_i st pos hH
   split at h
   .rename_i g
    simp only[Wu,Wx] at h
    obtain⟨rfl,rfl,rfl⟩:=h
    have d:=c.obj id (by simp)
    rw[hH] at d
    obtain⟨rfl,l⟩:=d b o0 s a
    have r:=c.gR _ _ _ _ a
    have p:fu w.heap (w.heap.setIfInBounds b (.stringIter st (pos+(Utf8.decode st pos).2))):=by
     intro k q e f hk
     by_cases h:b=k
     .subst h;rw[l] at hk;simp at hk
     .exact⟨q,f,by simp[h,hk],rfl⟩
    refine aV.value (w':={ w with heap:=w.heap.setIfInBounds b (.stringIter st (pos+(Utf8.decode st pos).2)) }) (μ':=μ) (x:=.tuple #[.bool true,goInt pos,.int .i32 (Utf8.decode st pos).1]) ?_ ?_ ⟨rfl,rfl,rfl,by simp⟩ ?_
    .simp only[Nat.zero_mul,XW,Instr.next,Sem.run_bind,zS l,Result.andThen_ok,g,if_true,I4 _ l,Sem.run_pure]
    .refine .aO _ _ rfl (λi hi=>?_)
     match i,hi with
     | 0,_=>exact .val _ rfl
     | 1,_=>exact .val _ rfl
     | 2,_=>exact .val _ rfl
    .refine⟨b,0,s,a,rfl,db _ _ _,p,?_⟩
     intro t u s1 j
     rw[a] at j
     simp only[Wu,Wx] at j
     obtain⟨rfl,rfl,rfl⟩:=j
     exact⟨rfl,ec (eM l)⟩
   .rename_i g
    simp only[Wu,Wx] at h
    obtain⟨rfl,rfl,rfl⟩:=h
    have d:=c.obj id (by simp)
    rw[hH] at d
    obtain⟨rfl,l⟩:=d b o0 s a
    refine aV.here (x:=.tuple #[.bool false]) ?_ (.aO _ _ rfl (λi hi=>?_))
    .simp only[Nat.zero_mul,XW,Instr.next,Sem.run_bind,zS l,Result.andThen_ok,g,if_false,Sem.run_pure]
    .match i,hi with
     | 0,_=>exact .val _ rfl
  .simp at h
 .simp at h
theorem Fl:∀ (a:List Int) (s:ByteArray),a.foldl (λr n=>r.push (UInt8.ofNat n.toNat)) s=⟨s.data ++ (a.map λn=>UInt8.ofNat n.toNat).toArray⟩
 | [],s=>by simp
 | n :: a,s=>by
  simp only[Xz,WZ]
  rw[Fl a]
  congr 1
  apply Array.ext'
  simp[ByteArray.push]
theorem Cx:∀ (xs:List (List V)) (l:List UInt8),ll xs=some l->∃ a:List Int,xs=a.map (λn=>[V.val (.int .u8 n)])/\l=a.map λn=>UInt8.ofNat n.toNat
 | [],l,h=>by
  simp only[ll,Wu] at h;subst h
  exact⟨[],rfl,rfl⟩
 | x :: r,l,h=>by
  unfold ll at h
  split at h
  .simp at *
  .rename_i n c heq
   simp only[List.cons.injEq] at heq
   obtain⟨rfl,rfl⟩:=heq
   simp only[WB] at h
   obtain⟨l',b,rfl⟩:=h
   obtain⟨a,rfl,rfl⟩:=Cx _ _ b
   exact⟨n :: a,rfl,rfl⟩
  .simp at h
theorem Sy {esz:Nat} {es:List (List V)} {c:Array Value} {e:TypeId} {f:Nat × Nat}
  (k:μ n=none) (cw:∀ b,Z b->b < w.heap.size) (l:f.1=f.2∨c.size<=f.1) (m:es.length * esz<=c.size) (hlen:∀ i,i < es.length->(es.getD i []).length=esz)
  (h:∀ i j,i < es.length->j < esz->∃ x,c[i * esz+j]?=some x/\aw Z μ w.heap ((es.getD i []).getD j .any) x) :
  dS Z (μ.set n (w.heap.size,0,esz)) (w.heap.push (.cells c e f)) n (.arr esz es):=by
 intro b o0 s a
 simp only[Mu.set,if_true,Wu,Wx] at a
 obtain⟨rfl,rfl,rfl⟩:=a
 have hm:ia Z Z μ (μ.set n (w.heap.size,0,esz)) w.heap (w.heap.push (.cells c e f)):=by
  refine⟨λ_ h=>h,λb g=>?_,λid x a=>?_,?_⟩
  .have:=cw b g
   rw[X3,Ws (by omega)]
  .by_cases d:id=n
   .subst d;simp[k] at a
   .simp[Mu.set,d,a]
  .intro b o e' r g
   have:=eM g
   exact⟨o,_,by rw[X3,Ws (by omega)];exact g,rfl⟩
 refine⟨rfl,⟨c,e,f,by simp,l,by simpa using m⟩,hlen,λi j hi p=>?_⟩
 obtain⟨x,a,q⟩:=h i j hi p
 exact⟨x,by simp[cellAt,a],q.mono hm⟩
theorem I6 {b:Nat} {c:Array Value} {e:TypeId} {f:Nat × Nat} (h:w.heap[b]?=some (.cells c e f)) :
  ∃ d,(w.freeze ⟨b,c.size,none⟩ 1) = { w with heap:=w.heap.setIfInBounds b (.cells c e d) }/\((f.1=f.2∨c.size<=f.1)->(d.1=d.2∨c.size<=d.1)):=by
 obtain⟨lo,up⟩:=f
 refine⟨if lo == up then (c.size,c.size+1) else (min lo c.size,max up (c.size+1)),?_,λj=>?_⟩
 .unfold World.freeze
  rw[Ws (by omega)]
  congr 1
  apply Array.ext_getElem?
  intro i
  simp only[X7,Xn]
  by_cases hi:b=i
  .subst hi
   have a:=eM h
   have k:w.heap[b]=.cells c e (lo,up):=by simpa [WM a] using h
   simp[k,a]
  .simp[hi]
 .right
  simp only at j
  split
  .exact Wz _
  .rename_i g
   simp only[Xw] at g
   simp only;omega
theorem I9 {s d:TypeId} {x:V} {xv:Value} (h:mT P s d x H n=some (v,eff,rd)) (t:aw Z μ w.heap x xv) (c:Ctx Z μ w.heap H rd n eff) :
  aV Z μ w n v eff ((do pure (Next.value (<-convert s d xv)):Sem Next).run P w):=by
 unfold mT at h
 split at h
 .rename_i e E u
  split at h
  .rename_i he
   split at h
   .rename_i xs ar m G Q
    simp only[WB] at h
    obtain⟨l,R,h⟩:=h
    simp only[Wx] at h
    obtain⟨rfl,rfl,rfl⟩:=h
    obtain⟨p,rfl,rfl⟩:=Cx _ _ R
    obtain⟨ad,cap,rfl,_⟩:=dP t Q
    have hlen:=(xT (P:=P) (size:=1) G t).1
    simp only[Builtin.lenOf,Sem.run_pure,Result.ok.injEq,WG,and_true] at hlen
    subst hlen
    obtain⟨S,y,_,r⟩:=pj (P:=P) (size:=1) G t c.obj (by simp)
    have N:=r _ (Wz _)
    have o:S.size=p.length:=by have:=y.len;simpa using this
    rw[jw S (by simpa using y.len)] at N
    have I:S=(p.map (Value.int .u8)).toArray:=by
     apply Array.ext
     .simp[o]
     .intro i h1 h2
      have hi:i < p.length:=by omega
      have:=y.rel i 0 (by simpa using hi) (by omega)
      simp only[Wo,Ww,Wp hi,WL,WJ,WX,YB,XW,WE,WM h1] at this
      have:=er this
      simpa using this
    have J:(Conv.bytesToString (.slice ad p.length cap)).run P w=.ok (.string ⟨(p.map λn=>UInt8.ofNat n.toNat).toArray⟩) w:=by
     cases ad with
     | none =>
      have:p=[]:=by
       simp only[Builtin.firstCells,Sem.run_pure,Result.ok.injEq,and_true] at N
       rw[<-N] at o
       simp at o
       exact XY.1 o.symm
      subst this
      rfl
     | some a =>
      have h9:(loadCells a p.length).run P w=.ok (p.map (Value.int .u8)).toArray w:=by
       rw[<-I]
       simpa [Builtin.firstCells] using N
      rw[run_bytesToString w a p.length cap p h9,Fl]
      congr 2
      simp
    refine aV.here (x:=.string ⟨(p.map λn=>UInt8.ofNat n.toNat).toArray⟩) ?_ (.val _ rfl)
    rw[run_convert_bytes_string w s d e ad p.length cap E he u]
    exact J
   .simp at h
  .simp at h
 .rename_i e st E u
  split at h
  .rename_i he
   simp only[Wu,Wx] at h
   obtain⟨rfl,rfl,rfl⟩:=h
   unfold gN
   have:=er t
   subst this
   have K:st.size<=grownCap w st.size 0 e:=by
    unfold grownCap Question.cut;exact Nat.le_add_right _ _
   have L:(bytesRow st (grownCap w st.size 0 e)).size=grownCap w st.size 0 e:=by
    simp only[bytesRow,Array.size_append,Array.size_map,Array.size_replicate]
    have:st.data.size=st.size:=rfl
    omega
   refine aV.value (μ':=μ.set n (w.heap.size,0,1)) (run_bytes_of_string w s d e st E u he) ?_ (gX _ _) ?_
   .rw[heap_alloc,eY]
    have:=aw.sl (Z:=Z) (μ:=μ.set n (w.heap.size,0,1)) (hp:=w.heap.push (.cells (bytesRow st (grownCap w st.size 0 e)) e ((bytesRow st (grownCap w st.size 0 e)).size,(bytesRow st (grownCap w st.size 0 e)).size+1))) n 0 st.size 1 w.heap.size 0 (grownCap w st.size 0 e) _ e _ (by simp[Mu.set]) K (by simp;exact⟨rfl,rfl⟩) (by rw[L];simp)
    simpa using this
   .refine⟨w.heap.size,0,1,Wz _,by rw[heap_alloc,eY];simp,rfl,by rw[heap_alloc,eY];exact eN _ _,?_⟩
    rw[heap_alloc,eY]
    have R:(st.data.toList.map λb=>([V.val (Value.int .u8 b.toNat)]:List V)).length=st.size:=by rw[WG,bsize]
    refine Sy c.new c.cw (.inr (Wz _)) (by rw[R,L];omega) ?_ ?_
    .intro i hi
     have q:i < st.data.toList.length:=by simpa using hi
     simp only[Wo,Ww,Wp q,WL,WJ,WD,WW]
    .intro i j hi hj
     obtain rfl:j=0:=by omega
     have q:i < st.data.size:=by simpa using hi
     refine⟨.int .u8 (st.data[i]).toNat,?_,?_⟩
     .simp only[bytesRow,YB,XW]
      rw[Xr (by simpa using q),Array.getElem?_map,WM q]
      rfl
     .simp only[Wo,Ww,Yk,WM q,WL,WJ,WX]
      exact .val _ rfl
  .simp at h
 .rename_i e1 e2 id off len esz E u
  split at h
  .rename_i hc
   obtain⟨T,U⟩:=hc
   subst T
   rw[E] at u
   simp only[Wu,TypeDesc.slice.injEq] at u
   subst u
   split at h
   .rename_i he
    split at h
    .rename_i z es hH
     simp only[Wu,Wx] at h
     obtain⟨rfl,rfl,rfl⟩:=h
     have M:=c.obj id (by simp)
     rw[hH] at M
     cases t with
     | oB=>exact absurd rfl U
     | sl _ _ _ _ b o0 cap F e' f hm hle g W =>
      obtain⟨rfl,⟨c2,e2,f2,A,X,Y⟩,h3,h4⟩:=M b o0 esz hm
      rw[g] at A
      simp only[Wu,Obj.cells.injEq] at A
      obtain⟨rfl,rfl,rfl⟩:=A
      obtain⟨O,ab,ae⟩:=I6 g
      have hz:=c.gR _ _ _ _ hm
      have B:=eM g
      have C:ia Z Z μ μ w.heap (w.heap.setIfInBounds b (.cells F e' O)):=by
       refine⟨λ_ h=>h,λk hk=>db w.heap b _ k (c.cw k hk) (λe=>hz (e ▸ hk)),λ_ _ h=>h,?_⟩
       intro k x e0 f0 hk
       by_cases hb:b=k
       .subst hb
        rw[g] at hk
        simp only[Wu,Obj.cells.injEq] at hk
        obtain⟨rfl,rfl,rfl⟩:=hk
        exact⟨F,O,ec B,rfl⟩
       .exact⟨x,f0,by simp[hb,hk],rfl⟩
      refine aV.value (w':={ w with heap:=w.heap.setIfInBounds b (.cells F e' O) }) (μ':=μ) (x:=.slice (some ⟨b,o0+off * esz,none⟩) len cap) ?_ ((aw.sl id off len esz b o0 cap F e' f hm hle g W).mono C) ⟨rfl,rfl,rfl,by simp⟩ ?_
      .have al:w.shape? b=some (e',F.size):=by simp[World.shape?,g]
       simp only[convert,Sem.run_bind,bh E,Result.andThen_ok,bh he,beq_self_eq_true,markStringish,run_shape,al,run_freeze,ab,Sem.run_pure]
      .refine⟨b,o0,esz,hm,rfl,db _ _ _,C.shape,?_⟩
       intro b1 q1 s1 D
       rw[hm] at D
       simp only[Wu,Wx] at D
       obtain⟨rfl,rfl,rfl⟩:=D
       refine⟨rfl,⟨F,e',O,ec B,ae X,Y⟩,h3,λi j hi hj=>?_⟩
       obtain⟨x,t,hv⟩:=h4 i j hi hj
       refine⟨x,?_,hv.mono C⟩
       simp only[cellAt,ec B]
       simpa only [cellAt,g] using t
    .simp at h
   .simp at h
  .simp at h
 .simp at h
theorem rD {o:Oper} {T:Env} {a:Act} (h:dI P o T=some (v,eff,rd)) (g:∀ x∈o.op.operands,aw Z μ w.heap (ev T x) (a.eval x))
  (i:∀ c:Operand->Value,(∀ x∈o.op.operands,c x=a.eval x)->execOp c o=execOp a.eval o):aV Z μ w n v eff ((execOp a.eval o).run P w):=by
 unfold dI at h
 split at h
 .rename_i b
  split at h
  .rename_i x d
   split at h
   .rename_i hp
    simp only[Wu,Wx] at h
    obtain⟨rfl,rfl,rfl⟩:=h
    rw[i] at d
    .exact⟨.value x,w,μ,pQ _ d w,.inl ⟨x,rfl,.val _ hp⟩,ep.refl _,iU⟩
    .intro y e
     rw[Array.all_eq_true_iff_forall_mem] at b
     obtain⟨z,f⟩:=Option.isSome_iff_exists.1 (b y e)
     rw[f]
     exact qt (g y e) f
   .simp at h
  .simp at h
 .simp at h
theorem Ba {T:Env} {a:Act} : ∀ (l:List (Nat × Operand)),(∀ x∈l.map (·.2),aw Z μ w.heap (ev T x) (a.eval x))->DN Z μ w.heap (l.map λ(i,x)=>(i,ev T x)) (l.map λ(i,x)=>(i,a.eval x))
 | [],_=>trivial
 | (i,x) :: r,h=>⟨rfl,h x (by simp),Ba r (λy b=>h y (by simp at b ⊢;exact .inr b))⟩
theorem KO {T:Env} {a:Act} (xs:Array Operand) (h:∀ x∈xs,aw Z μ w.heap (ev T x) (a.eval x)) :
  (xs.toList.map (ev T)).length=(xs.map a.eval).size/\∀ i,i < (xs.toList.map (ev T)).length->aw Z μ w.heap ((xs.toList.map (ev T)).getD i .any) ((xs.map a.eval).getD i undef):=by
 refine⟨by simp,λi hi=>?_⟩
 have b:i < xs.size:=by simpa using hi
 have:=h xs[i] (Array.getElem_mem _)
 simpa [Wo,WE,b] using this
theorem D3 {T:Env} {a:Act} (o:Option Operand) (h:∀ x∈o.toArray,aw Z μ w.heap (ev T x) (a.eval x)):yS Z μ w.heap (o.map (ev T)) (o.map a.eval):=by
 cases o with
 | none=>trivial
 | some x=>exact h x (by simp)
theorem TQ {cs:List V} {x:Value} {t:TypeId} (h:lU cs n=some (v,eff,rd)) (hr:cs.all aE=true->fO Z μ w.heap cs x.cells.toList) (c:Ctx Z μ w.heap H rd n eff) :
  aV Z μ w n v eff ((do pure (Next.value (<-Instr.box t x)):Sem Next).run P w):=by
 have:=JN (P:=P) (t:=t) h hr c
 simpa [Instr.box] using this
end
end Gv
