/-
  Part 2 of the proof: what the machine does and what the functions answer.
  Conditions: those that each lemma names.
-/
import Derived.Laws.BytesString
import Derived.Laws.IdiomStrings
import Derived.Test.YtihmlbdfcmfbdaaGreatSGzB3A
set_option linter.unusedSimpArgs false
set_option linter.unusedVariables false
set_option maxRecDepth 100000
set_option maxHeartbeats 20000000
namespace Gv
open Go
section
variable {Z:Nat->Prop} {μ μ':Mu} {w w':World} {P:Program} {H:View} {n:Nat} {v:V} {eff:bH} {rd:List Nat}
theorem SZ {t1:TypeId} (a:rZ P t1=true):∃ d,P.underlying t1=some d/\∀ k,d≠.int k:=by
 unfold rZ at a
 cases hu:P.underlying t1 with
 | none=>simp[hu] at a
 | some d=>refine⟨d,rfl,λk e=>?_⟩;subst e;simp[hu] at a
theorem Fe {t0 t1 e:TypeId} {ti:TypeInfo} {b:Array TypeId} {ty:TypeId} {base:Option Addr} {sLen sCap m:Nat} {g:Value} {new:Array Value}
  (h:b[0]?=some t0) (i:b[1]?=some t1) (j:rZ P t1=true) (f:P.underlying t0=some (.slice e)) (l:P.info? e=some ti)
  (hl:(Builtin.lenOf g).run P w=.ok m w) (hle:sLen+m<=sCap) (o:(Builtin.firstCells ti.size m g).run P w=.ok new w)
  (c:(match base with | some a=>storeCells (a.add (sLen * ti.size)) new.toList | none=>pure ()).run P w=.ok () w') :
  (Builtin.append_ b ty #[.slice base sLen sCap,g]).run P w=.ok (.slice base (sLen+m) sCap) w':=by
 obtain⟨d,hd,n⟩:=SZ j
 cases d with
 | int k=>exact absurd rfl (n k)
 | _ =>
 simp only[Builtin.append_,aal,ZL,aae,h,i,Sem.run_bind,bG f,Result.andThen_ok,dR l,bG hd,Sem.run_pure,ZM,if_false,hl,Bool.not_false,if_true]
 rw[Zn hle]
 simp only[Sem.run_bind,o,Result.andThen_ok,Sem.run_pure]
 cases base with
 | none=>simp only[Sem.run_pure,Result.ok.injEq,true_and] at c;subst c;rfl
 | some a=>simp only[Sem.run_bind,c,Result.andThen_ok,Sem.run_pure]
theorem EO (v:Value):(gq v).cells.length=v.cells.size:=by
 have h1:∀ v,(pH v).cells.length=1:=by
  intro v
  have:∀ x:V,(∀ cs,x≠.agg cs)->x.cells.length=1:=by
   intro x c
   cases x <;> first | rfl | (rename_i cs;exact absurd rfl (c cs))
  apply this
  intro cs
  cases v with
  | slice a len cap =>
   cases a with
   | none =>
    cases len with
    | zero=>cases cap <;> simp[pH]
    | succ l=>simp[pH]
   | some a=>simp[pH]
  | _=>simp only[pH];split <;> simp
 cases v with
 | agg cs=>simp[gq,V.cells,Value.cells]
 | func fn a b =>
  cases fn with
  | func f=>simp only[gq];split <;> simp[V.cells,Value.cells]
  | _=>simp only[gq];rw[h1];rfl
 | _=>simp only[gq];rw[h1];rfl
theorem SJ {e:TypeId} {ti:TypeInfo} (b:P.info? e=some ti) (d:(zeroCells P e).map List.length=some ti.size):∃ g:Array Value,g.size=ti.size/\∀ w',∃ c,(zeroValue e).run P w'=.ok c w'/\c.cells=g:=by
 cases a:zeroCells P e with
 | none=>simp[a] at d
 | some z =>
  obtain⟨c,f,rfl⟩:=jG b a
  refine⟨c.cells,?_,λw'=>⟨c,kJ b f w',rfl⟩⟩
  rw[a] at d
  simp at d
  rw[<-d,EO]
theorem fJ (w:World):w.drew.heap=w.heap:=rfl
theorem lQ (w:World) (o:Obj):fk w (w.drew.alloc o):=⟨rfl,rfl,rfl,by rw[heap_alloc,fJ];simp⟩
theorem og {l r:List (List V)} {i:Nat} (h:i < l.length):(l ++ r).getD i []=l.getD i []:=by
 simp[Zi,ZP h]
theorem nr {l r:List (List V)} {i:Nat} (h:l.length<=i):(l ++ r).getD i []=r.getD (i - l.length) []:=by
 simp[Zi,Z3 h]
theorem Ib {e:TypeId} {size:Nat} {ys xs:List (List V)} {old d rest:Array Value} (h:μ n=none) (c4:∀ b,Z b->b < w.heap.size)
  (h1:Flat Z μ w.heap size ys old) (g:Flat Z μ w.heap size xs d) (s1:∀ e∈ys,e.length=size) (s2:∀ e∈xs,e.length=size) :
  eU Z (μ.set n (w.heap.size,0,size)) (w.heap.push (.cells (old ++ d ++ rest) e (0,0))) n (.arr size (ys ++ xs)):=by
 refine eU.newRow h c4 ?_ ?_ ?_
 .simp[h1.len,g.len,aaf]
 .intro i hi
  by_cases hl:i < ys.length
  .rw[og hl]
   simp only[Zi,Zj hl,ZC]
   exact s1 _ (Zs _)
  .have c:i - ys.length < xs.length:=by simp at hi;omega
   rw[nr (by omega)]
   simp only[Zi,Zj c,ZC]
   exact s2 _ (Zs _)
 .intro i j hi f
  by_cases hl:i < ys.length
  .have a:i * size+j < old.size:=by rw[h1.len];exact gK hl f
   refine⟨old[i * size+j],?_,?_⟩
   .rw[aaP (by simp;omega),aaP a,ZH a]
   .rw[og hl]
    have:=h1.rel i j hl f
    simpa only [Zv,ZH a,ZC] using this
  .have c:i - ys.length < xs.length:=by simp at hi;omega
   have a:(i - ys.length) * size+j < d.size:=by rw[g.len];exact gK c f
   have k:i * size+j - old.size=(i - ys.length) * size+j:=by
    rw[h1.len,Nat.sub_mul]
    have:ys.length * size<=i * size:=Z9 _ (by omega)
    omega
   have l:old.size<=i * size+j:=by
    rw[h1.len]
    have:ys.length * size<=i * size:=Z9 _ (by omega)
    omega
   refine⟨d[(i - ys.length) * size+j],?_,?_⟩
   .rw[aaP (by simp;omega),Array.getElem?_append_right l,k,ZH a]
   .rw[nr (by omega)]
    have:=g.rel _ j c f
    simpa only [Zv,ZH a,ZC] using this
theorem L9 {size:Nat} {xs:List (List V)} (h:(xs.all λe=>e.length == size && e.all aL)=true):(∀ e∈xs,e.length=size)/\∀ e∈xs,e.all aL=true:=by
 refine⟨λe he=>?_,λe he=>?_⟩
 .have:=ZZ.1 h e he
  simp only[Zw,aaz] at this
  exact this.1
 .have:=ZZ.1 h e he
  simp only[Zw,aaz] at this
  exact this.2
theorem mN {ad:Option Addr} {len cap size:Nat} : (Builtin.firstCells size 0 (.slice ad len cap)).run P w=.ok #[] w:=by
 cases ad with
 | none=>simp[Builtin.firstCells]
 | some a=>simp[Builtin.firstCells,loadCells,loadCellsFrom]
theorem AL {x:V} {b:Value} {xs:List (List V)} {size:Nat} (he:bR H x=some (xs,rd)) (a:aC Z μ w.heap x b) :
  (Builtin.lenOf b).run P w=.ok xs.length w/\(Builtin.firstCells size 0 b).run P w=.ok #[] w:=by
 unfold bR at he
 split at he
 .simp only[Zl,Zo] at he
  obtain⟨rfl,_⟩:=he
  obtain⟨ad,cap,rfl,_⟩:=eu a rfl
  exact⟨rfl,mN⟩
 .simp only[Zl,Zo] at he
  obtain⟨rfl,_⟩:=he
  obtain⟨ad,cap,rfl,_⟩:=eu a rfl
  exact⟨rfl,mN⟩
 .simp only[Zl,Zo] at he
  obtain⟨rfl,_⟩:=he
  obtain⟨ad,cap,rfl,_⟩:=eu a rfl
  exact⟨rfl,mN⟩
 .simp only[Zl,Zo] at he
  obtain⟨rfl,_⟩:=he
  obtain⟨ad,cap,rfl,_⟩:=eu a rfl
  exact⟨rfl,mN⟩
 .split at he
  .split at he
   .rename_i hle
    simp only[Zl,Zo] at he
    obtain⟨rfl,_⟩:=he
    obtain⟨ad,cap,rfl,_⟩:=eu a rfl
    refine⟨?_,mN⟩
    rw[Z6,List.length_drop,Nat.min_eq_left (by omega)];rfl
   .simp at he
  .simp at he
 .rename_i str
  simp only[Zl,Zo] at he
  obtain⟨rfl,_⟩:=he
  have c:=fP a
  subst c
  refine⟨by rw[Zr,bsize];rfl,?_⟩
  have:(str.extract 0 0).data = #[]:=by rw[ByteArray.data_extract];simp
  simp[Builtin.firstCells,this]
 .simp at he
theorem j8 (a:Array Value) {k:Nat} (h:a.size=k):a.extract 0 k=a:=by subst h;simp
theorem HX {t0 t1 e:TypeId} {ti:TypeInfo} {f:Array TypeId} {ty:TypeId} {base:Option Addr} {sLen sCap:Nat} {x:V} {E:Value} {xs ys:List (List V)} {g:List Nat} {old:Array Value}
  (r:f[0]?=some t0) (s:f[1]?=some t1) (t:rZ P t1=true) (j:P.underlying t0=some (.slice e)) (k:P.info? e=some ti) (u:(zeroCells P e).map List.length=some ti.size)
  (he:bR H x=some (xs,g)) (F:aC Z μ w.heap x E) (L:μ n=none) (c:Ctx Z μ w.heap H rd n eff) (v:∀ id,id∈g->id∈rd) (hl:∀ e∈xs,e.length=ti.size) (y:ys.length=sLen) (z:sCap < sLen+xs.length)
  (A:(sLen+xs.length) * ti.bytes < aA) (B:sLen+xs.length < aA) (hold:Flat Z μ w.heap ti.size ys old) (C:∀ e∈ys,e.length=ti.size)
  (M:(Builtin.firstCells ti.size sLen (.slice base sLen sCap)).run P w.drew=.ok old w.drew) :
  ∃ G w',(Builtin.append_ f ty #[.slice base sLen sCap,E]).run P w=.ok G w'/\aC Z (μ.set n (w.heap.size,0,ti.size)) w'.heap (.sl n 0 (sLen+xs.length) ti.size) G/\fk w w' /\
   w.heap.size < w'.heap.size/\gX w.heap w'.heap (λ_=>False)/\eU Z (μ.set n (w.heap.size,0,ti.size)) w'.heap n (.arr ti.size (ys ++ xs)):=by
 obtain⟨I,l,D⟩:=SJ k u
 have d:∀ id,id∈g->eU Z μ w.heap id (H id):=λid h=>c.obj id (v id h)
 obtain⟨O,N,hlen,q⟩:=ry (P:=P) he F d hl
 obtain⟨m,a,_,b⟩:=ry (P:=P) (w:=w.drew) he F d hl
 have J:=b _ (Zt _)
 rw[j8 m a.len] at J
 obtain⟨cap,o,p⟩:=LU (P:=P) (w:=w) (ty:=ty) r s t j k hlen z A B D M J
 refine⟨_,_,p,?_,lQ _ _,by rw[heap_alloc,fJ];simp,by rw[heap_alloc,fJ];exact fq _ _,by rw[heap_alloc,fJ];exact Ib L c.c4 hold a C hl⟩
 rw[heap_alloc,fJ]
 have i:(Builtin.zeroCells I (cap - (sLen+xs.length))).size=(cap - (sLen+xs.length)) * ti.size:=by simp[Builtin.zeroCells,l]
 have K:cap * ti.size=sLen * ti.size+xs.length * ti.size+(cap - (sLen+xs.length)) * ti.size:=by
  rw[<-aaf,<-aaf];congr 1;omega
 have:=aC.sl (Z:=Z) (μ:=μ.set n (w.heap.size,0,ti.size)) (hp:=w.heap.push (.cells (old ++ m ++ Builtin.zeroCells I (cap - (sLen+xs.length))) e (0,0))) n 0 (sLen+xs.length) ti.size w.heap.size 0 cap _ e (0,0) (by simp[Mu.set]) o (by simp;rfl)
  (by simp only[Array.size_append,hold.len,a.len,i,y,aaw];omega)
 simpa using this
theorem UL {b o0 s:Nat} {c d:Array Value} {e:TypeId} {f:Nat × Nat} (i:μ n=none) (c4:∀ b,Z b->b < w.heap.size) (j:¬ Z b) (l:w.heap[b]?=some (.cells c e f)) (hs:d.size=c.size) :
  iO Z Z μ (μ.set n (b,o0,s)) w.heap (w.heap.setIfInBounds b (.cells d e f)):=by
 refine⟨λ_ h=>h,λk hk=>du w.heap b _ k (c4 k hk) (λe=>j (e ▸ hk)),λid x g=>?_,jW l hs⟩
 by_cases a:id=n
 .subst a;simp[i] at g
 .simp[Mu.set,a,g]
theorem TF {t0 t1 e:TypeId} {ti:TypeInfo} {u:Array TypeId} {ty:TypeId} {x:V} {Y:Value} {xs es:List (List V)} {A:List Nat} {id off len b o0 cap:Nat} {cc:Array Value} {e':TypeId} {f:Nat × Nat}
  (N:u[0]?=some t0) (O:u[1]?=some t1) (Q:rZ P t1=true) (B:P.underlying t0=some (.slice e)) (R:P.info? e=some ti)
  (he:bR H x=some (xs,A)) (hx:aC Z μ w.heap x Y) (hn:μ n=none) (c:Ctx Z μ w.heap H rd n eff) (S:∀ id,id∈A->id∈rd) (hl:∀ e∈xs,e.length=ti.size) (T:∀ e∈xs,e.all aL=true)
  {C:Nat} (_:H id=.arr C es) (U:eU Z μ w.heap id (.arr ti.size es)) (hm:μ id=some (b,o0,ti.size)) (an:off+len<=es.length) (hle:len<=cap)
  (a:w.heap[b]?=some (.cells cc e' f)) (aq:o0+(off+cap) * ti.size<=cc.size) (d:len+xs.length<=cap) :
  bp Z μ w n (.sl n 0 (len+xs.length) ti.size) (.er id (.arr ti.size ((es.drop off).take len ++ xs)))
   ((do pure (Next.value (<-Builtin.append_ u ty #[.slice (some ⟨b,o0+off * ti.size,none⟩) len cap,Y])):Sem Next).run P w):=by
 obtain⟨_,⟨c2,e2,f2,v,D,ar⟩,h3,h4⟩:=U b o0 ti.size hm
 rw[a] at v
 simp only[Zl,Obj.cells.injEq] at v
 obtain⟨rfl,rfl,rfl⟩:=v
 obtain⟨E,g,hlen,o⟩:=ry (P:=P) he hx (λid h=>c.obj id (S id h)) hl
 have h5:=o _ (Zt _)
 rw[j8 E g.len] at h5
 have hz:=c.iJ _ _ _ _ hm
 have hmul:(off+cap) * ti.size=off * ti.size+cap * ti.size:=aaf _ _ _
 have W:len * ti.size+xs.length * ti.size<=cap * ti.size:=by rw[<-aaf];exact Z9 _ d
 have r:E.toList.length=xs.length * ti.size:=by rw[Array.length_toList,g.len]
 obtain⟨F,X,k,z⟩:=w5 (P:=P) (off:=o0+off * ti.size+len * ti.size) a (rO D) E.toList (by rw[r];omega) (DO g hl T)
 have G:=fL a
 have I:=UL (o0:=o0+off * ti.size) (s:=ti.size) hn c.c4 hz a k
 have J:((es.drop off).take len).length=len:=by simp;omega
 have t:∀ i,i < len->((es.drop off).take len ++ xs).getD i []=es.getD (off+i) []:=by
  intro i hi
  rw[og (by omega)]
  simp[Zi,aaZ,hi]
 have l:∀ i,len<=i->((es.drop off).take len ++ xs).getD i []=xs.getD (i - len) []:=by
  intro i hi
  rw[nr (by omega),J]
 refine bp.value (w':={ w with heap:=w.heap.setIfInBounds b (.cells F e' f) }) (μ':=μ.set n (b,o0+off * ti.size,ti.size)) (Fe N O Q B R hlen d h5 (by simpa only [ke] using X)) ?_ ⟨rfl,rfl,rfl,by simp⟩ ?_
 .have:=aC.sl (Z:=Z) (μ:=μ.set n (b,o0+off * ti.size,ti.size)) (hp:=w.heap.setIfInBounds b (.cells F e' f)) n 0 (len+xs.length) ti.size b (o0+off * ti.size) cap F e' f (by simp[Mu.set]) d (eM G) (by rw[k,aaw];omega)
  simpa using this
 .refine⟨b,o0+off * ti.size,ti.size,rfl,?_,.inr ⟨⟨o0,ti.size,hm⟩,du _ _ _,jW a k⟩⟩
  intro b1 q1 s1 K
  simp only[Mu.set,if_true,Zl,Zo] at K
  obtain⟨rfl,rfl,rfl⟩:=K
  have m:((es.drop off).take len ++ xs).length=len+xs.length:=by rw[aab,J]
  refine⟨rfl,⟨F,e',f,eM G,by rw[k];exact D,by rw[m,k,aaf];omega⟩,?_,?_⟩
  .intro i hi
   rw[m] at hi
   by_cases p:i < len
   .rw[t i p];exact h3 _ (by omega)
   .rw[l i (by omega)]
    have q:i - len < xs.length:=by omega
    simp only[Zi,Zj q,ZC]
    exact hl _ (Zs _)
  .intro i j hi M
   rw[m] at hi
   show ∃ y,cellAt (w.heap.setIfInBounds b (.cells F e' f)) b (o0+off * ti.size+i * ti.size+j)=some y/\_
   rw[z,r]
   by_cases p:i < len
   .have h6:i * ti.size+j < len * ti.size:=gK p M
    rw[Zk (by omega),t i p]
    obtain⟨y,hy,hv⟩:=h4 (off+i) j (by omega) M
    rw[aaf] at hy
    exact⟨y,by rw[<-hy];congr 1;omega,hv.mono I⟩
   .have q:i - len < xs.length:=by omega
    have h6:(i - len) * ti.size+j < xs.length * ti.size:=gK q M
    have h7:i * ti.size=len * ti.size+(i - len) * ti.size:=by rw[<-aaf];congr 1;omega
    rw[Zn (by omega),l i (by omega)]
    have L:(i - len) * ti.size+j < E.size:=by rw[g.len];exact h6
    refine⟨E[(i - len) * ti.size+j],?_,?_⟩
    .rw[show o0+off * ti.size+i * ti.size+j - (o0+off * ti.size+len * ti.size)=(i - len) * ti.size+j from by omega]
     simp[L]
    .have:=(g.rel _ j q M).mono I
     simpa only [Zv,ZH L,ZC] using this
theorem Ox {t0 t1:TypeId} {o:Array TypeId} {ty:TypeId} {s x:V} {I Q:Value} (h:oD P t0 s x H n=some (v,eff,rd)) (r:o[0]?=some t0) (t:o[1]?=some t1) (u:rZ P t1=true)
  (hs:aC Z μ w.heap s I) (R:aC Z μ w.heap x Q) (c:Ctx Z μ w.heap H rd n eff) :
  bp Z μ w n v eff ((do pure (Next.value (<-Builtin.append_ o ty #[I,Q])):Sem Next).run P w):=by
 unfold oD at h
 split at h
 .rename_i e xs a6 hu he
  have k:P.underlying t0=some (.slice e):=by
   unfold de at hu;split at hu <;> simp_all
  split at h
  .simp at h
  .rename_i ti y
   split at h
   .rename_i d
    have d:xs=[]:=by simpa using d
    subst d
    have fin:∀ m,cT s=some m->some (s,bH.none,([]:List Nat))=some (v,eff,rd)->bp Z μ w n v eff ((do pure (Next.value (<-Builtin.append_ o ty #[I,Q])):Sem Next).run P w):=by
     intro m hm heq
     simp only[Zl,Zo] at heq
     obtain⟨rfl,rfl,rfl⟩:=heq
     obtain⟨ad,cap,rfl,hle⟩:=eu hs hm
     have z:=AL (P:=P) (size:=ti.size) he R
     refine bp.here (Fe r t u k y z.1 (by omega) z.2 ?_) hs
     cases ad <;> simp[storeCells]
    split at h
    .exact fin 0 rfl h
    .exact fin 0 rfl h
    .exact fin _ rfl h
    .exact fin _ rfl h
    .simp at h
   .rename_i d
    have d:xs≠[]:=by simpa using d
    have aq:0 < xs.length:=abk.2 d
    split at h
    .simp at h
    .rename_i p
     simp only[not_or,Bool.not_eq_false,Classical.not_not] at p
     obtain⟨ar,J,K⟩:=p
     obtain⟨hl,T⟩:=L9 K
     split at h
     .split at h
      .rename_i U
       obtain⟨C,D⟩:=U
       simp only[Zl,Zo] at h
       obtain⟨rfl,rfl,rfl⟩:=h
       cases hs with
       | emp _ ad =>
        obtain⟨xr,w',q,S,g,E,hold,a⟩:=HX (n:=n) (ty:=ty) (base:=ad) (sLen:=0) (sCap:=0) (ys:=[]) (old:=#[]) r t u k y J he R c.new c (λid h=>h) hl rfl (by omega) (by simpa using C) (by simpa using D)
         ⟨by simp,λi j hi=>by simp at hi⟩ (by simp) (by simpa using tL (w:=w.drew) (ad:=ad) (cap:=0) (Zt 0))
        simp only[aaw] at S
        exact bp.value q S g ⟨w.heap.size,0,ti.size,Zt _,E,rfl,hold,a⟩
      .simp at h
     .rename_i id off len esz
      split at h
      .rename_i a1 es hH
       split at h
       .rename_i U
        obtain⟨L,rfl,C,D⟩:=U
        simp only[Zl,Zo] at h
        obtain⟨rfl,rfl,rfl⟩:=h
        have a:=c.obj id (by simp)
        rw[hH] at a
        have grow:∀ base sCap (old:Array Value),I=.slice base len sCap->sCap < len+xs.length->Flat Z μ w.heap ti.size ((es.drop off).take len) old->(∀ e∈(es.drop off).take len,e.length=ti.size) ->
          (Builtin.firstCells ti.size len (.slice base len sCap)).run P w.drew=.ok old w.drew ->
          bp Z μ w n (.sl n 0 (len+xs.length) ti.size) (.er id (.arr ti.size ((es.drop off).take len ++ xs))) ((do pure (Next.value (<-Builtin.append_ o ty #[I,Q])):Sem Next).run P w):=by
         intro base sCap old W X Y A ho
         subst W
         have hlen:((es.drop off).take len).length=len:=by simp;omega
         obtain⟨xr,w',q,S,g,E,hold,a⟩:=HX (n:=n) (ty:=ty) r t u k y J he R c.new c (λi h=>ZE _ h) hl hlen X C D Y A ho
         exact bp.value q S g ⟨w.heap.size,0,ti.size,rfl,a,.inl ⟨Zt _,E,hold⟩⟩
        cases hs with
        | qX _ _ _ ad =>
         refine grow ad 0 #[] rfl (by omega) ⟨by simp,λi j hi=>by simp at hi⟩ (by simp) (by simpa using tL (w:=w.drew) (ad:=ad) (cap:=0) (Zt 0))
        | sl _ _ _ _ b o0 cap cc e' f hm hle F M =>
         have hlen:((es.drop off).take len).length=len:=by simp;omega
         obtain⟨heq,⟨c2,e2,f2,G,a7,a8⟩,h3,h4⟩:=a b o0 ti.size hm
         subst heq
         rw[F] at G
         simp only[Zl,Obj.cells.injEq] at G
         obtain⟨rfl,rfl,rfl⟩:=G
         have A:∀ e∈(es.drop off).take len,e.length=ti.size:=by
          intro e an
          obtain⟨i,hi,rfl⟩:=List.getElem_of_mem (List.mem_of_mem_drop (List.mem_of_mem_take an))
          have:=h3 i hi
          simpa [Zi,hi] using this
         by_cases N:len+xs.length<=cap
         .exact TF r t u k y he R c.new c (λi h=>ZE _ h) hl T hH a hm L hle F M N
         .by_cases O:len=0
          .subst O
           exact grow _ cap #[] rfl (by omega) ⟨by simp,λi j hi=>by simp at hi⟩ (by simp) (by simpa using tL (w:=w.drew) (ad:=some ⟨b,o0+off * ti.size,none⟩) (cap:=cap) (Zt 0))
          .have z:bR H (.sl id off len ti.size)=some ((es.drop off).take len,[id]):=by
            cases len with
            | zero=>exact absurd rfl O
            | succ l=>simp[bR,hH,L]
           obtain⟨old,hold,_,B⟩:=ry (P:=P) (w:=w.drew) (Z:=Z) (μ:=μ) z (aC.sl id off len ti.size b o0 cap cc e' f hm hle F M) (λi hi=>by
            simp at hi;subst hi;rw[hH];exact a) A
           have h5:=B len (by omega)
           rw[j8 old (by rw[hold.len,hlen])] at h5
           exact grow _ cap old rfl (by omega) hold A h5
       .simp at h
      .simp at h
     .simp at h
 .simp at h
theorem Wn {t0:TypeId} {a:Array TypeId} {ty:TypeId} {x:V} {f:Value} (h:J0 P t0 x=some (v,eff,rd)) (d:a[0]?=some t0)
  (g:aC Z μ w.heap x f) (c:Ctx Z μ w.heap H rd n eff) :
  bp Z μ w n v eff ((do pure (Next.value (<-Builtin.cap_ a ty #[f])):Sem Next).run P w):=by
 unfold J0 at h
 split at h
 .rename_i e k hu
  have b:P.underlying t0=some (.slice e):=by
   unfold de at hu;split at hu <;> simp_all
  simp only[Zl,Zo] at h
  obtain⟨rfl,rfl,rfl⟩:=h
  cases g with
  | emp _ ad =>
   refine bp.here (x:=goInt 0) ?_ (.val _ rfl)
   simp only[Builtin.cap_,aal,ZL,d,Sem.run_bind,bG b,Result.andThen_ok,Sem.run_pure]
   rfl
 .simp at h
theorem Jp {t0 t1 e:TypeId} {ti:TypeInfo} {k:IntKind} {b:Array TypeId} {ty:TypeId} {base:Option Addr} {m:Nat} {k2:IntKind} {j:Value}
  (l:b[0]?=some t0) (n:b[1]?=some t1) (hd:P.underlying t1=some (.int k)) (d:P.underlying t0=some (.slice e)) (c:P.info? e=some ti)
  (o:0 < m) (s:m * ti.bytes < aA) (p:m < aA) (q:m * ti.size≠0) (t:∀ w',(zeroValue e).run P w'=.ok j w') :
  ∃ cap,m<=cap/\(Builtin.append_ b ty #[.slice base 0 0,.int k2 (m:Int)]).run P w =
   .ok (.slice (some ⟨w.heap.size,0,none⟩) m cap) (w.drew.alloc (.cells (#[] ++ Builtin.zeroCells j.cells m ++ Builtin.zeroCells j.cells (cap - m)) e)):=by
 have r:=Hn
 have f:=growslice_fits (old:=0) o (show m * ti.bytes<=140737488355328 by omega)
 have g:¬ ((m:Int) > IntKind.i64.max):=by
  have:IntKind.i64.max=9223372036854775807:=by decide
  rw[this];omega
 have h:¬ (Builtin.nextslicecap m 0 * ti.bytes > 2 ^ 48):=by
  have:(2:Nat) ^ 48=281474976710656:=by decide
  rw[this];exact Nat.not_lt.2 f
 have u:IntKind.i64.wrap (m:Int)=m:=wrap_small p
 have g1:¬ ((m:Int) < 0):=by omega
 have g2:¬ ((m:Int) * (ti.bytes:Int) > 2 ^ 48):=by
  have:((m * ti.bytes:Nat):Int) < 2 ^ 48:=by omega
  push_cast at this;omega
 refine⟨Question.cut (.appendCap m 0 e) (w.tape w.drawn (.appendCap m 0 e)),Nat.le_add_right _ _,?_⟩
 have i:Question.forced (.appendCap m 0 e)=false:=rfl
 have a:∀ w':World,(Builtin.firstCells ti.size 0 (.slice base 0 0)).run P w'=.ok #[] w':=λw'=>mN
 simp only[Builtin.append_,aal,ZL,aae,l,n,Sem.run_bind,bG d,Result.andThen_ok,dR c,bG hd,Sem.run_pure,if_true,asInt,asIntOf,u,ZK,Sem.run_ite,g1,g2,if_false,rp c,aaw]
 rw[Zk (by omega)]
 simp only[g,false_and,if_false,Sem.run_bind,Result.andThen_ok,Sem.run_ite,Sem.run_pure,h,run_choose,i,ZM,World.drew_eq,run_askRoom,a,q,t,abd,newRow,dR c,run_newObj,World.alloc_eq]
 rfl
theorem D3 {ti:TypeInfo} {z:List V} {a:Value} {m:Nat} (hr:gS Z μ w.heap z a.cells.toList) (b:z.length=ti.size):Flat Z μ w.heap ti.size (List.replicate m z) (Builtin.zeroCells a.cells m):=by
 have c:a.cells.size=ti.size:=by rw[<-b,hr.1];simp
 refine⟨by simp[Builtin.zeroCells,c],λi j hi e=>?_⟩
 simp only[aaq] at hi
 have f:i * ti.size+j < m * ti.size:=gK hi e
 have d:(i * ti.size+j) % ti.size=j:=by
  rw[Nat.mul_comm,Nat.mul_add_mod];exact Nat.mod_eq_of_lt e
 have h1:=hr.2 j (by rw[b];exact e)
 have g:(List.replicate m z).getD i []=z:=by simp[Zi,hi]
 have h:(Builtin.zeroCells a.cells m).getD (i * ti.size+j) undef=a.cells.toList.getD j undef:=by
  simp[Builtin.zeroCells,Zv,Zi,c,f,d,getElem!_pos a.cells j (by omega),show j < a.cells.size by omega]
  rw[ZH (by omega)];rfl
 rw[g,h]
 exact h1
theorem Tp {t0 t1:TypeId} {f:Array TypeId} {ty:TypeId} {s x:V} {M N:Value} (h:zw P t0 s x n=some (v,eff,rd)) (q:f[0]?=some t0) (r:f[1]?=some t1) (g:isInt P t1=true)
  (hs:aC Z μ w.heap s M) (t:aC Z μ w.heap x N) (c:Ctx Z μ w.heap H rd n eff) :
  bp Z μ w n v eff ((do pure (Next.value (<-Builtin.append_ f ty #[M,N])):Sem Next).run P w):=by
 unfold zw at h
 split at h
 .rename_i e l k hu hl
  have b:P.underlying t0=some (.slice e):=by
   unfold de at hu;split at hu <;> simp_all
  have hd:∃ d,P.underlying t1=some (.int d):=by
   unfold isInt at g;split at g
   .rename_i d hd;exact⟨d,hd⟩
   .simp at g
  obtain⟨d,hd⟩:=hd
  obtain⟨Q,rfl⟩:=me hl
  have t:=fP t
  subst t
  split at h
  .rename_i ti z a R
   split at h
   .rename_i O
    subst O
    simp only[Zl,Zo] at h
    obtain⟨rfl,rfl,rfl⟩:=h
    cases hs with
    | emp _ ad S F =>
     refine bp.here (x:=.slice ad 0 0) ?_ (.emp _ ad S F)
     have T:IntKind.i64.wrap ((0:Nat):Int)=0:=by decide
     have g2:¬ ((0:Int) * (ti.bytes:Int) > 2 ^ 48):=by rw[Int.zero_mul];decide
     simp only[Builtin.append_,aal,ZL,aae,q,r,Sem.run_bind,bG b,Result.andThen_ok,dR a,bG hd,Sem.run_pure,if_true,asInt,asIntOf,T,Sem.run_ite,Int.lt_irrefl,g2,if_false,rp a,aaw,Int.toNat_zero,Zt,Nat.zero_mul,abd,ZM]
     cases ad <;> simp[storeCells]
   .rename_i O
    split at h
    .rename_i F
     obtain⟨o,u,U,G,I⟩:=F
     simp only[Zl,Zo] at h
     obtain⟨rfl,rfl,rfl⟩:=h
     obtain⟨p,J,rfl⟩:=jG a R
     cases hs with
     | emp _ ad =>
      have y:l * ti.size≠0:=by
       intro h;rcases Nat.mul_eq_zero.1 h with h | h <;> contradiction
      obtain⟨cap,A,B⟩:=Jp (P:=P) (w:=w) (ty:=ty) (base:=ad) (k2:=Q) q r hd b a (by omega) G I y (λw'=>kJ a J w')
      have hr:=iF (iG (Z:=Z) (μ:=μ) (w:=w) p) u
      have C:p.cells.size=ti.size:=by rw[<-o,hr.1];simp
      have K:=D3 (m:=l) (ti:=ti) hr o
      have L:(Builtin.zeroCells p.cells l).size=l * ti.size:=by simp[Builtin.zeroCells,C]
      have D:(Builtin.zeroCells p.cells (cap - l)).size=(cap - l) * ti.size:=by simp[Builtin.zeroCells,C]
      have E:cap * ti.size=l * ti.size+(cap - l) * ti.size:=by rw[<-aaf];congr 1;omega
      refine bp.value (μ':=μ.set n (w.heap.size,0,ti.size)) B ?_ (lQ _ _) ?_
      .rw[heap_alloc,fJ]
       have:=aC.sl (Z:=Z) (μ:=μ.set n (w.heap.size,0,ti.size)) (hp:=w.heap.push (.cells (#[] ++ Builtin.zeroCells p.cells l ++ Builtin.zeroCells p.cells (cap - l)) e (0,0))) n 0 l ti.size w.heap.size 0 cap _ e (0,0) (by simp[Mu.set]) A (by simp;rfl)
        (by simp only[Array.size_append,L,D,aaw]; (try simp);exact Nat.le_of_eq E)
       simpa using this
      .refine⟨w.heap.size,0,ti.size,Zt _,by rw[heap_alloc,fJ];simp,rfl,by rw[heap_alloc,fJ];exact fq _ _,?_⟩
       rw[heap_alloc,fJ]
       have:=Ib (e:=e) (rest:=Builtin.zeroCells p.cells (cap - l)) c.new c.c4 (ys:=[]) (old:=#[]) ⟨by simp,λi j hi=>by simp at hi⟩ K (by simp) (λx t=>by rw[(List.mem_replicate.1 t).2];exact o)
       simpa using this
    .simp at h
  .simp at h
 .simp at h
theorem jt:∀ (ys es:List (List V)) (i:Nat),(eC es i ys).length=es.length
 | [],_,_=>rfl
 | y :: ys,es,i=>by rw[eC,jt ys];simp
theorem s6:∀ (ys es:List (List V)) (i k:Nat),i+ys.length<=es.length->(eC es i ys).getD k []=if i<=k/\k < i+ys.length then ys.getD (k - i) [] else es.getD k []
 | [],es,i,k,_=>by rw[Zk (by simp only[ZW];omega)];rfl
 | y :: ys,es,i,k,h=>by
  simp only[ZB] at h
  rw[eC,s6 ys _ _ _ (by simp;omega)]
  simp only[ZB]
  by_cases h1:i=k
  .subst h1
   rw[Zk (by omega),Zn (by omega)]
   simp[Zi,show i < es.length by omega]
  .by_cases a:i+1<=k/\k < i+1+ys.length
   .rw[Zn a,Zn (by omega),show k - i=(k - (i+1))+1 from by omega]
    simp
   .rw[Zk a,Zk (by omega)]
    simp[Zi,h1]
theorem Ux {t0:TypeId} {t:Array TypeId} {ty:TypeId} {d x:V} {dv D:Value} (h:zk P t0 d x H=some (v,eff,rd)) (U:t[0]?=some t0)
  (hd:aC Z μ w.heap d dv) (hx:aC Z μ w.heap x D) (c:Ctx Z μ w.heap H rd n eff) :
  bp Z μ w n v eff ((do pure (Next.value (<-Builtin.copy_ t ty #[dv,D])):Sem Next).run P w):=by
 unfold zk at h
 split at h
 .rename_i e xs bd dl hu he u
  have E:P.underlying t0=some (.slice e):=by
   unfold de at hu;split at hu <;> simp_all
  obtain⟨ad,cap,rfl,a6⟩:=eu hd u
  have run:∀ (new:Array Value) w' ti,P.info? e=some ti->(Builtin.lenOf D).run P w=.ok xs.length w->(Builtin.firstCells ti.size (Nat.min xs.length dl) D).run P w=.ok new w ->
    (match ad with | some a=>storeCells a new.toList | none=>pure ()).run P w=.ok () w' ->
    (Builtin.copy_ t ty #[.slice ad dl cap,D]).run P w=.ok (goInt (Nat.min xs.length dl:Nat)) w':=by
   intro new w' ti o h1 h2 F
   simp only[Builtin.copy_,aal,ZL,aae,U,Sem.run_bind,bG E,Result.andThen_ok,dR o,Sem.run_pure,h1,h2]
   cases ad with
   | none=>simp only[Sem.run_pure,Result.ok.injEq,true_and] at F;subst F;rfl
   | some a=>simp only[Sem.run_bind,F,Result.andThen_ok,Sem.run_pure]
  split at h
  .simp at h
  .rename_i ti o
   split at h
   .rename_i G
    simp only[Zl,Zo] at h
    obtain⟨rfl,rfl,rfl⟩:=h
    have I:=AL (P:=P) (size:=ti.size) he hx
    have g:Nat.min xs.length dl=0:=by
     have:(xs.take dl).length=0:=by rw[List.isEmpty_iff.1 G];rfl
     rw[Z6] at this
     show min _ _=0;omega
    have:=run #[] w ti o I.1 (by rw[g];exact I.2) (by cases ad <;> simp[storeCells])
    rw[g] at this
    exact bp.here this (aC.val _ rfl)
   .rename_i W
    split at h
    .rename_i id off len esz
     split at h
     .rename_i a7 es hH
      split at h
      .rename_i hb
       obtain⟨bl,rfl,a8,J⟩:=hb
       obtain⟨hl,X⟩:=L9 J
       simp only[Zl,Zo] at h
       obtain⟨rfl,rfl,rfl⟩:=h
       simp only[cT,Zl] at u
       subst u
       have K:=c.obj id (by simp)
       rw[hH] at K
       have g:(xs.take len).length=Nat.min xs.length len:=by rw[Z6,Nat.min_comm]
       have L:0 < (xs.take len).length:=abk.2 (by simpa using W)
       cases hd with
       | qX=>simp at L
       | sl _ _ _ _ b o0 _ cc e' f hm _ m bn =>
        obtain⟨heq,⟨c2,e2,f2,z,M,Y⟩,F,h4⟩:=K b o0 ti.size hm
        subst heq
        rw[m] at z
        simp only[Zl,Obj.cells.injEq] at z
        obtain⟨rfl,rfl,rfl⟩:=z
        obtain⟨an,N,hlen,p⟩:=ry (P:=P) he hx (λid h=>c.obj id (ZE _ h)) hl
        have h5:=p (Nat.min xs.length len) (Nat.min_le_left _ _)
        have l:=PS N (Nat.min xs.length len) (Nat.min_le_left _ _)
        have aq:xs.take (Nat.min xs.length len)=xs.take len:=by
         rw[List.take_eq_take_iff];show min (min xs.length len) xs.length=min len xs.length;omega
        rw[aq] at l
        generalize an.extract 0 (Nat.min xs.length len * ti.size)=O at h5 l
        have s:O.toList.length=(xs.take len).length * ti.size:=by rw[Array.length_toList,l.len]
        have bb:(xs.take len).length<=len:=by rw[Z6];omega
        have A:(off+(xs.take len).length) * ti.size<=es.length * ti.size:=Z9 _ (by omega)
        rw[aaf] at A
        have hz:=c.iJ _ _ _ _ hm
        obtain⟨c',ar,q,B⟩:=w5 (P:=P) (off:=o0+off * ti.size) m (rO M) O.toList (by rw[s];omega) (DO l (λe he=>hl e (List.mem_of_mem_take he)) (λe he=>X e (List.mem_of_mem_take he)))
        have a1:=fL m
        have Q:iO Z Z μ μ w.heap (w.heap.setIfInBounds b (.cells c' e' f)) :=
         ⟨λ_ h=>h,λk hk=>du w.heap b _ k (c.c4 k hk) (λe=>hz (e ▸ hk)),λ_ _ h=>h,jW m q⟩
        refine bp.value (μ':=μ) (run O _ ti o hlen h5 ar) ?_ ⟨rfl,rfl,rfl,by simp⟩ ?_
        .rw[g];exact aC.val _ rfl
        .refine⟨b,o0,ti.size,hm,rfl,du _ _ _,jW m q,?_⟩
         intro b1 q1 s1 C
         rw[hm] at C
         simp only[Zl,Zo] at C
         obtain⟨rfl,rfl,rfl⟩:=C
         have R:=λk=>s6 (xs.take len) es off k (by omega)
         refine⟨rfl,⟨c',e',f,eM a1,by rw[q];exact M,by rw[jt,q];exact Y⟩,?_,?_⟩
         .intro i hi
          rw[jt] at hi
          rw[R]
          split
          .have r:i - off < (xs.take len).length:=by omega
           simp only[Zi,Zj r,ZC]
           exact hl _ (List.mem_of_mem_take (Zs _))
          .exact F i hi
         .intro i j hi hj
          rw[jt] at hi
          show ∃ y,cellAt (w.heap.setIfInBounds b (.cells c' e' f)) b (o0+i * ti.size+j)=some y/\_
          rw[B,s,R]
          by_cases S:off<=i/\i < off+(xs.take len).length
          .have r:i - off < (xs.take len).length:=by omega
           have h6:(i - off) * ti.size+j < (xs.take len).length * ti.size:=gK r hj
           have h7:i * ti.size=off * ti.size+(i - off) * ti.size:=by rw[<-aaf];congr 1;omega
           rw[Zn (by omega),Zn S]
           have T:(i - off) * ti.size+j < O.size:=by rw[l.len];exact h6
           refine⟨O[(i - off) * ti.size+j],?_,?_⟩
           .rw[show o0+i * ti.size+j - (o0+off * ti.size)=(i - off) * ti.size+j from by omega]
            simp[T]
           .have:=(l.rel _ j r hj).mono Q
            simpa only [Zv,ZH T,ZC] using this
          .have h8:¬ (o0+off * ti.size<=o0+i * ti.size+j/\o0+i * ti.size+j < o0+off * ti.size+(xs.take len).length * ti.size):=by
            rcases ZI i off with h9 | h9
            .have:(i+1) * ti.size<=off * ti.size:=Z9 _ h9
             rw[aaf] at this;omega
            .have:(off+(xs.take len).length) * ti.size<=i * ti.size:=Z9 _ (by omega)
             rw[aaf] at this;omega
           rw[Zk h8,Zk S]
           obtain⟨y,hy,hv⟩:=h4 i j hi hj
           exact⟨y,hy,hv.mono Q⟩
      .simp at h
     .simp at h
    .simp at h
 .simp at h
theorem Qr {t0:TypeId} {u:Array TypeId} {ty:TypeId} {d:V} {dv:Value} (h:yp P t0 d H=some (v,eff,rd)) (I:u[0]?=some t0)
  (hd:aC Z μ w.heap d dv) (c:Ctx Z μ w.heap H rd n eff) :
  bp Z μ w n v eff ((do pure (Next.value (<-Builtin.clear_ u ty #[dv])):Sem Next).run P w):=by
 unfold yp at h
 split at h
 .rename_i e dl hu A
  have r:P.underlying t0=some (.slice e):=by
   unfold de at hu;split at hu <;> simp_all
  obtain⟨ad,cap,rfl,ar⟩:=eu hd A
  split at h
  .rename_i h0
   subst h0
   simp only[Zl,Zo] at h
   obtain⟨rfl,rfl,rfl⟩:=h
   refine bp.here (x:=.tuple #[]) ?_ (.bt [] #[] rfl (λi hi=>by simp at hi))
   simp only[Builtin.clear_,aal,ZL,I,Sem.run_bind,bG r,Result.andThen_ok]
   cases ad <;> simp
  .rename_i a7
   split at h
   .rename_i id off len esz ti z J S
    split at h
    .rename_i a1 es hH
     split at h
     .rename_i hb
      obtain⟨a8,rfl,a6,B,s⟩:=hb
      simp only[Zl,Zo] at h
      obtain⟨rfl,rfl,rfl⟩:=h
      simp only[cT,Zl] at A
      subst A
      have K:=c.obj id (by simp)
      rw[hH] at K
      obtain⟨C,T,rfl⟩:=jG J S
      have hr:=iF (iG (Z:=Z) (μ:=μ) (w:=w) C) s
      have l:=D3 (m:=len) (ti:=ti) hr B
      have run:∀ (a:Addr) (w':World),ad=some a->(storeCells a (Builtin.zeroCells C.cells len).toList).run P w=.ok () w' ->
        (Builtin.clear_ u ty #[.slice ad len cap]).run P w=.ok (.tuple #[]) w':=by
       rintro a w' rfl U
       obtain⟨m,rfl⟩:∃ m,len=m+1:=⟨len - 1,by omega⟩
       simp only[Builtin.clear_,aal,ZL,I,Sem.run_bind,bG r,Result.andThen_ok,kJ J T,U,Sem.run_pure]
      cases hd with
      | qX=>omega
      | sl _ _ _ _ b o0 _ cc e' f hm _ o bb =>
       obtain⟨heq,⟨c2,e2,f2,D,L,W⟩,U,h4⟩:=K b o0 ti.size hm
       subst heq
       rw[o] at D
       simp only[Zl,Obj.cells.injEq] at D
       obtain⟨rfl,rfl,rfl⟩:=D
       have g:∀ e∈List.replicate len (gq C).cells,e=(gq C).cells:=λe he=>List.eq_of_mem_replicate he
       have X:(List.replicate len (gq C).cells).length=len:=aaq
       generalize bd:List.replicate len (gq C).cells=xs at l g X ⊢
       generalize bl:Builtin.zeroCells C.cells len=R at l run
       have t:R.toList.length=xs.length * ti.size:=by rw[Array.length_toList,l.len]
       have E:(off+xs.length) * ti.size<=es.length * ti.size:=Z9 _ (by omega)
       rw[aaf] at E
       have hz:=c.iJ _ _ _ _ hm
       obtain⟨Y,an,q,F⟩:=w5 (P:=P) (off:=o0+off * ti.size) o (rO L) R.toList (by rw[t];omega) (DO l (λe he=>by rw[g e he];exact B) (λe he=>by rw[g e he];exact s))
       have aq:=fL o
       have M:iO Z Z μ μ w.heap (w.heap.setIfInBounds b (.cells Y e' f)) :=
        ⟨λ_ h=>h,λk hk=>du w.heap b _ k (c.c4 k hk) (λe=>hz (e ▸ hk)),λ_ _ h=>h,jW o q⟩
       refine bp.value (μ':=μ) (run _ _ rfl an) ?_ ⟨rfl,rfl,rfl,by simp⟩ ?_
       .exact .bt [] #[] rfl (λi hi=>by simp at hi)
       .refine⟨b,o0,ti.size,hm,rfl,du _ _ _,jW o q,?_⟩
        intro b1 q1 s1 G
        rw[hm] at G
        simp only[Zl,Zo] at G
        obtain⟨rfl,rfl,rfl⟩:=G
        have N:=λk=>s6 xs es off k (by omega)
        refine⟨rfl,⟨Y,e',f,eM aq,by rw[q];exact L,by rw[jt,q];exact W⟩,?_,?_⟩
        .intro i hi
         rw[jt] at hi
         rw[N]
         split
         .have p:i - off < xs.length:=by omega
          simp only[Zi,Zj p,ZC]
          rw[g _ (Zs p)];exact B
         .exact U i hi
        .intro i j hi hj
         rw[jt] at hi
         show ∃ y,cellAt (w.heap.setIfInBounds b (.cells Y e' f)) b (o0+i * ti.size+j)=some y/\_
         rw[F,t,N]
         by_cases O:off<=i/\i < off+xs.length
         .have p:i - off < xs.length:=by omega
          have h6:(i - off) * ti.size+j < xs.length * ti.size:=gK p hj
          have h7:i * ti.size=off * ti.size+(i - off) * ti.size:=by rw[<-aaf];congr 1;omega
          rw[Zn (by omega),Zn O]
          have Q:(i - off) * ti.size+j < R.size:=by rw[l.len];exact h6
          refine⟨R[(i - off) * ti.size+j],?_,?_⟩
          .rw[show o0+i * ti.size+j - (o0+off * ti.size)=(i - off) * ti.size+j from by omega]
           simp[Q]
          .have:=(l.rel _ j p hj).mono M
           simpa only [Zv,ZH Q,ZC] using this
         .have h8:¬ (o0+off * ti.size<=o0+i * ti.size+j/\o0+i * ti.size+j < o0+off * ti.size+xs.length * ti.size):=by
           rcases ZI i off with h9 | h9
           .have:(i+1) * ti.size<=off * ti.size:=Z9 _ h9
            rw[aaf] at this;omega
           .have:(off+xs.length) * ti.size<=i * ti.size:=Z9 _ (by omega)
            rw[aaf] at this;omega
          rw[Zk h8,Zk O]
          obtain⟨y,hy,hv⟩:=h4 i j hi hj
          exact⟨y,hy,hv.mono M⟩
     .simp at h
    .simp at h
   .simp at h
 .simp at h
end
section
variable {Z:Nat->Prop} {μ μ':Mu} {w w':World} {P:Program} {H:View} {n:Nat} {v:V} {eff:bH} {rd:List Nat}
theorem HF (off:Nat):∀ (l:List Value) (i:Nat) (cs:Array Value),off+i+l.length<=cs.size ->
  ((l.zipIdx i).foldl (λcs (p:Value × Nat)=>cs.setIfInBounds (off+p.2) p.1) cs).size=cs.size /\
  ∀ k,((l.zipIdx i).foldl (λcs (p:Value × Nat)=>cs.setIfInBounds (off+p.2) p.1) cs)[k]?=if off+i<=k/\k < off+i+l.length then l[k - (off+i)]? else cs[k]?
 | [],i,cs,_=>⟨rfl,λk=>by rw[Zk (by simp only[ZW];omega)];rfl⟩
 | x :: l,i,cs,h=>by
  simp only[ZB] at h
  obtain⟨h1,b⟩:=HF off l (i+1) (cs.setIfInBounds (off+i) x) (by simp;omega)
  simp only[List.zipIdx_cons,ZS,ZB]
  refine⟨by rw[h1];simp,λk=>?_⟩
  rw[b]
  by_cases e:off+i=k
  .subst e
   rw[Zk (by omega),Zn (by omega)]
   simp[show off+i < cs.size by omega]
  .by_cases a:off+(i+1)<=k/\k < off+(i+1)+l.length
   .rw[Zn a,Zn (by omega),show k - (off+i)=(k - (off+(i+1)))+1 from by omega]
    simp
   .rw[Zk a,Zk (by omega)]
    simp[e]
theorem Ey (off:Nat) (xs cs:Array Value) (h:off+xs.size<=cs.size) :
  (xs.zipIdx.foldl (λcs (c,j)=>cs.setIfInBounds (off+j) c) cs).size=cs.size /\
  ∀ k,(xs.zipIdx.foldl (λcs (c,j)=>cs.setIfInBounds (off+j) c) cs)[k]?=if off<=k/\k < off+xs.size then xs[k - off]? else cs[k]?:=by
 have:=HF off xs.toList 0 cs (by simpa using h)
 rw[<-Array.foldl_toList,Array.toList_zipIdx]
 simpa using this
def Gx (Z:Nat->Prop) (μ:Mu) (hp:Array Obj):List (Nat × V)->List (Nat × Value)->Prop
 | [],[]=>True
 | p :: r,q :: s=>p.1=q.1/\aC Z μ hp p.2 q.2/\Gx Z μ hp r s
 | _,_=>False
theorem Er {x:V} {y:Value} (h:aC Z μ w.heap x y) (a:x.cells.all aL=true):y.cells.size=x.cells.length:=by
 have:=(iF h a).1;simpa using this.symm
theorem JV {size:Nat} (place:Nat->Option (Nat × Nat)) (l:∀ i,place i=some (i * size,size)):∀ (n:List (Nat × V)) (o:List (Nat × Value)) (es es':List (List V)) (cs:Array Value),
  mT size es n=some es'->Gx Z μ w.heap n o->Flat Z μ w.heap size es cs->(∀ i,i < es.length->(es.getD i []).length=size)->(∀ i,i < es.length->(es.getD i []).all aL=true) ->
  ∃ d,Instr.fill place cs o=some d/\Flat Z μ w.heap size es' d/\es'.length=es.length/\(∀ i,i < es'.length->(es'.getD i []).length=size)
 | [],[],es,es',cs,h,_,m,hl,_=>by
  simp only[mT,Zl] at h;subst h
  exact⟨cs,rfl,m,rfl,hl⟩
 | (i,x) :: n,(E,y) :: o,es,es',cs,h,hr,m,hl,p=>by
  obtain⟨hi,f,g⟩:=hr
  simp only at hi f
  subst hi
  simp only[mT] at h
  split at h
  .rename_i z
   obtain⟨h1,v,r⟩:=z
   have s:=iF f r
   have A:=Er f r
   have hle:i * size+size<=cs.size:=by
    rw[m.len]
    have:(i+1) * size<=es.length * size:=Z9 _ v
    rw[aaf] at this;omega
   obtain⟨B,k2⟩:=Ey (i * size) y.cells cs (by omega)
   have b:∀ k,(es.set i x.cells).getD k []=if k=i then x.cells else es.getD k []:=by
    intro k
    simp only[Zi,aaV]
    by_cases e:i=k
    .subst e;simp[v]
    .rw[Zk e,Zk (λq=>e q.symm)]
   obtain⟨d,g1,g2,g3,g4⟩:=JV place l n o (es.set i x.cells) es' (y.cells.zipIdx.foldl (λcs (c,j)=>cs.setIfInBounds (i * size+j) c) cs) h g
    ⟨by rw[B,m.len];simp,λa j C D=>by
     have t:a < es.length:=by simpa using C
     rw[b,Zv,k2]
     by_cases e:a=i
     .subst e
      rw[Zn rfl,Zn (by omega),show a * size+j - a * size=j from by omega]
      have:=s.2 j (by omega)
      simpa [Zi] using this
     .have:¬ (i * size<=a * size+j/\a * size+j < i * size+y.cells.size):=by
       rcases Nat.lt_or_gt_of_ne e with u | u
       .have:(a+1) * size<=i * size:=Z9 _ u
        rw[aaf] at this;omega
       .have:(i+1) * size<=a * size:=Z9 _ u
        rw[aaf] at this;omega
      rw[Zk e,Zk this]
      have:=m.rel a j t D
      simpa only [Zv] using this⟩
    (λk hk=>by rw[b];split;exact h1;exact hl k (by simpa using hk))
    (λk hk=>by rw[b];split;exact r;exact p k (by simpa using hk))
   refine⟨d,?_,g2,by simpa using g3,g4⟩
   simp only[Instr.fill,l]
   rw[Zk (by simp only[aam,ZA,not_or];omega)]
   exact g1
  .simp at h
 | [],_ :: _,_,_,_,_,hr,_,_,_=>hr.elim
 | _ :: _,[],_,_,_,_,hr,_,_,_=>hr.elim
theorem Gl {t:TypeId} {len:Nat} {E:List (Nat × V)} {u:Array (Nat × Value)} (h:jc P t len E n=some (v,eff,rd)) (hr:Gx Z μ w.heap E u.toList) (c:Ctx Z μ w.heap H rd n eff) :
  bp Z μ w n v eff ((do pure (Next.value (<-Instr.buildSlice t len u)):Sem Next).run P w):=by
 unfold jc at h
 cases hu:de P t with
 | none=>simp[hu] at h
 | some e =>
  have k:P.underlying t=some (.slice e):=by
   unfold de at hu;split at hu <;> simp_all
  cases d:P.info? e with
  | none=>simp[hu,d] at h
  | some ti =>
   simp only[hu,d] at h
   split at h
   .simp at h
   .rename_i l
    split at h
    .rename_i o
     subst o
     split at h
     .rename_i y
      simp only[Zl,Zo] at h
      obtain⟨rfl,rfl,rfl⟩:=h
      have F:E=[]:=by simpa using y
      subst F
      have G:u = #[]:=by
       cases hq:u.toList with
       | nil=>exact Array.toList_eq_nil_iff.1 hq
       | cons a b=>rw[hq] at hr;exact hr.elim
      subst G
      refine bp.value (x:=.slice (some ⟨w.heap.size,0,none⟩) 0 0) (w':=w.alloc (.cells #[] e)) ?_ (.emp 2 _ (by simp) (by simp)) (jQ _ _) ⟨rfl,fq _ _⟩
      simp[Instr.buildSlice,bG k,dR d,Instr.fill,newRow,show Array.range 0 = #[] from rfl]
     .simp at h
    .split at h
     .simp at h
     .rename_i o I
      split at h
      .simp at h
      .rename_i z R
       split at h
       .rename_i J
        obtain⟨p,m⟩:=J
        split at h
        .rename_i es K
         simp only[Zl,Zo] at h
         obtain⟨rfl,rfl,rfl⟩:=h
         obtain⟨q,L,rfl⟩:=jG d R
         have A:=iF (iG (Z:=Z) (μ:=μ) (w:=w) q) m
         have M:q.cells.size=ti.size:=by rw[<-p,A.1];simp
         have B:len * ti.size≠0:=by
          intro N;rcases Nat.mul_eq_zero.1 N with N | N <;> contradiction
         have r:Flat Z μ w.heap ti.size (List.replicate len (gq q).cells) ((Array.range (len * ti.size)).map (q.cells[· % q.cells.size]!)):=by
          refine⟨by simp,λi j hi s=>?_⟩
          simp at hi
          have g:i * ti.size+j < len * ti.size:=gK (by omega) s
          have C:(i * ti.size+j) % ti.size=j:=by
           rw[Nat.mul_comm,Nat.mul_add_mod];exact Nat.mod_eq_of_lt s
          have:=A.2 j (by rw[p];exact s)
          have D:j < q.cells.size:=by omega
          simp only[Zi,Array.getElem?_toList,ZH D,ZC] at this
          simpa [Zi,Zv,hi,g,M,C,getElem!_pos q.cells j D] using this
         obtain⟨f,g1,g2,g3,g4⟩:=JV (λi=>some (i * ti.size,ti.size)) (λ_=>rfl) E u.toList _ es _ K hr r
          (λi hi=>by simp at hi;simp[Zi,hi,p])
          (λi hi=>by simp at hi;simpa [Zi,hi] using m)
         have O:es.length=len:=by simpa using g3
         refine bp.value (μ':=μ.set n (w.heap.size,0,ti.size)) (x:=.slice (some ⟨w.heap.size,0,none⟩) len len) (w':=w.alloc (.cells f e)) ?_ ?_ (jQ _ _) ?_
         .have Q:¬ (2 ^ 24 < len * ti.size):=l
          simp[Instr.buildSlice,bG k,dR d,l,B,o,I,kJ d L,g1,newRow]
         .have:=aC.sl (Z:=Z) (μ:=μ.set n (w.heap.size,0,ti.size)) (hp:=(w.alloc (.cells f e)).heap) n 0 len ti.size w.heap.size 0 len f e (0,0) (by simp[Mu.set]) (Zt _) (by rw[heap_alloc];simp) (by rw[g2.len,O];simp)
          simpa using this
         .refine⟨w.heap.size,0,ti.size,Zt _,by rw[heap_alloc];simp,rfl,fq _ _,?_⟩
          refine eU.newRow c.new c.c4 (by rw[g2.len];exact Zt _) g4 (λi j hi s=>?_)
          have g:i * ti.size+j < f.size:=by rw[g2.len];exact gK hi s
          refine⟨f[i * ti.size+j],by simp[g],?_⟩
          have:=g2.rel i j hi s
          simpa only [Zv,ZH g,ZC] using this
        .simp at h
       .simp at h
theorem Jg (place pl:Nat->Option (Nat × Nat)) (l:∀ i x,place i=some x->pl i=some x):∀ (n:List (Nat × V)) (o:List (Nat × Value)) (cs d:List V) (a:Array Value),
  yP place cs n=some d->Gx Z μ w.heap n o->cs.length=a.size->(∀ i,i < cs.length->aC Z μ w.heap (cs.getD i .any) (a.getD i undef)) ->
  ∃ b,Instr.fill pl a o=some b/\d.length=b.size/\(∀ i,i < d.length->aC Z μ w.heap (d.getD i .any) (b.getD i undef))
 | [],[],cs,d,a,h,_,h1,p=>by
  simp only[yP,Zl] at h;subst h
  exact⟨a,rfl,h1,p⟩
 | (i,x) :: n,(u,y) :: o,cs,d,a,h,hr,h1,p=>by
  obtain⟨hi,f,g⟩:=hr
  simp only at hi f
  subst hi
  simp only[yP] at h
  split at h
  .simp at h
  .rename_i off size hp
   split at h
   .rename_i s
    obtain⟨v,k2,r⟩:=s
    have q:=iF f r
    have t:=Er f r
    obtain⟨m1,m2⟩:=Ey off y.cells a (by omega)
    have m:(gm cs off x.cells).length=cs.length:=Ai _ _ _ (by omega)
    obtain⟨b,g1,g2,g3⟩:=Jg place pl l n o (gm cs off x.cells) d (y.cells.zipIdx.foldl (λcs (c,j)=>cs.setIfInBounds (off+j) c) a) h g (by rw[m,m1,h1])
     (λk hk=>by
      rw[m] at hk
      rw[Zv,m2]
      by_cases e:off<=k/\k < off+x.cells.length
      .rw[HV _ _ _ _ (by omega) e,Zn (by omega)]
       have:=q.2 (k - off) (by omega)
       simpa [Zi] using this
      .rw[Ez _ _ _ _ (by omega) e,Zk (by omega)]
       have:=p k hk
       simpa only [Zv] using this)
    refine⟨b,?_,g2,g3⟩
    simp only[Instr.fill,l i _ hp]
    rw[Zk (by simp only[aam,ZA,not_or];omega)]
    exact g1
   .simp at h
 | [],_ :: _,_,_,_,_,hr,_,_=>hr.elim
 | _ :: _,[],_,_,_,_,hr,_,_=>hr.elim
end
section
variable {Z:Nat->Prop} {μ μ':Mu} {w w':World} {P:Program} {H:View} {n:Nat} {v:V} {eff:bH} {rd:List Nat}
theorem Ll {a:Array Field} (h:∀ f∈a.toList,(P.info? f.type).isSome=true) :
  (a.mapM λf=>do pure (f.offset,<-Go.sizeOf f.type):Sem (Array (Nat × Nat))).run P w=.ok (a.map λf=>(f.offset,P.cellsOf f.type)) w:=by
 have key:∀ (l:List Field),(∀ f∈l,(P.info? f.type).isSome=true)->(l.mapM λf=>do pure (f.offset,<-Go.sizeOf f.type):Sem (List (Nat × Nat))).run P w=.ok (l.map λf=>(f.offset,P.cellsOf f.type)) w:=by
  intro l
  induction l with
  | nil=>intro _;rfl
  | cons f r b =>
   intro hl
   obtain⟨i,hi⟩:=Option.isSome_iff_exists.1 (hl f abq)
   simp only[List.mapM_cons,Sem.run_bind,dR hi,Result.andThen_ok,Sem.run_pure,b (λf c=>hl f (ZE _ c)),ZJ,zN hi]
 have:=key a.toList h
 rw[Array.mapM_eq_mapM_toList]
 simp only[Sem.run_map,this,Result.andThen_ok]
 congr 1
 apply Array.ext'
 simp
theorem AA {t:TypeId} {z:V} (h:zeroV P t=some z):∃ i a,P.info? t=some i/\i.zero=some a/\z=gq a:=by
 unfold zeroV at h
 split at h
 .rename_i i hi
  split at h
  .rename_i a b
   simp at h
   exact⟨i,a,hi,b,h.symm⟩
  .simp at h
 .simp at h
theorem Ql {t:TypeId} {k:List (Nat × V)} {j:Array (Nat × Value)} (h:xD P t k=some (v,eff,rd)) (hr:Gx Z μ w.heap k j.toList) :
  bp Z μ w n v eff ((do pure (Next.value (<-Instr.build t j)):Sem Next).run P w):=by
 unfold xD at h
 split at h
 .rename_i l z hu B
  obtain⟨i,C,hi,m,o⟩:=AA B
  have hk:nP P t=true:=by
   cases p:nP P t with
   | true=>rfl
   | false=>simp[p] at h
  rw[Zn hk] at h
  simp only[Zu] at h
  obtain⟨cs,q,h⟩:=h
  simp only[Zo] at h
  obtain⟨rfl,rfl,rfl⟩:=h
  have e:=iG (Z:=Z) (μ:=μ) (w:=w) C
  rw[<-o] at e
  cases e with
  | agg _ g h1 D =>
   have r:∀ f∈l.toList,(P.info? f.type).isSome=true:=by
    unfold nP at hk
    rw[hu] at hk
    exact ZZ.1 hk
   obtain⟨c,g1,g2,g3⟩:=Jg (placeOf P t) (λi=>(l.map λf=>(f.offset,P.cellsOf f.type))[i]?) (λi x s=>by
    unfold placeOf at s
    simp only[Zu] at s
    obtain⟨⟨a,b,F⟩,u,rfl⟩:=s
    obtain⟨E,fd,ti,d,y,A,rfl,rfl,rfl⟩:=wD u
    rw[hu] at d
    simp only[Zl,TypeDesc.struct.injEq] at d
    subst d
    simp[y,zN A]) k j.toList z _ g q hr h1 D
   refine bp.here (x:=.agg c) ?_ (.agg _ _ g2 g3)
   simp only[Instr.build,Sem.run_bind,kJ hi m,Result.andThen_ok,bG hu,Value.cells]
   rw[Ll r]
   simp only[Result.andThen_ok,Sem.run_pure]
   have:Instr.fill (λx=>(l.map λf=>(f.offset,P.cellsOf f.type))[x]?) g j.toList=some c:=g1
   simp only[this,Sem.run_pure]
 .simp at h
theorem bC {α β:Type} (P:Program) (s:Sem α) (f:α->Sem β):bM P (s >>= f)=(bM P s).bind λa=>bM P (f a):=by
 have key:∀ s:Sem α,bM P (s.bind f)=(bM P s).bind λa=>bM P (f a):=by
  intro s
  induction s with
  | pure a=>rfl
  | program k b=>simp only[Sem.bind,bM];exact b P
  | _=>rfl
 exact key s
def Keys:List MapEntry->List MapEntry->Prop
 | [],[]=>True
 | a :: r,b :: s=>a.key=b.key/\Keys r s
 | _,_=>False
def Found (l:List MapEntry) (i:Nat):Option (Nat × Value)->Option (Nat × Value)->Prop
 | none,none=>True
 | some (a,_),some (b,x)=>a=b/\i<=a/\(l[a - i]?).map (·.val)=some x
 | _,_=>False
theorem Found.cons {l:List MapEntry} {e:MapEntry} {i:Nat} : ∀ {r c:Option (Nat × Value)},Found l (i+1) r c->Found (e :: l) i r c
 | none,none,_=>trivial
 | some (a,_),some (b,x),h=>by
  obtain⟨rfl,h1,d⟩:=h
  refine⟨rfl,by omega,?_⟩
  rw[show a - i=(a - (i+1))+1 from by omega]
  simpa using d
 | none,some _,h=>h.elim
 | some _,none,h=>h.elim
theorem A6 (kind:TypeDesc) (k:Value):∀ (l m:List MapEntry) (i:Nat),Keys l m ->
  match Instr.findNow kind k l i,Instr.findNow kind k m i with
  | some r,some c=>Found m i r c
  | none,none=>True
  | _,_=>False
 | [],[],i,_=>trivial
 | a :: l,b :: m,i,h=>by
  obtain⟨hk,hr⟩:=h
  simp only[Instr.findNow,<-hk]
  cases hs:Instr.sameNow kind k a.key with
  | none=>trivial
  | some t =>
   cases t with
   | true=>exact⟨rfl,Zt _,by simp⟩
   | false =>
    have:=A6 kind k l m (i+1) hr
    simp only
    split at this
    .exact this.cons
    .trivial
    .exact this.elim
 | [],_ :: _,_,h=>h.elim
 | _ :: _,[],_,h=>h.elim
theorem wy (kt:TypeId) (k:Value):∀ (l m:List MapEntry) (i:Nat) (r:Option (Nat × Value)),Keys l m->bM P (Instr.findAsking kt k l i)=some r ->
  ∃ d,(Instr.findAsking kt k m i).run P w=.ok d w/\Found m i r d
 | [],[],i,r,_,h=>by
  simp only[Instr.findAsking,bM,Pure.pure,Zl] at h
  subst h
  exact⟨none,rfl,trivial⟩
 | a :: l,b :: m,i,r,hk,h=>by
  obtain⟨hk,hr⟩:=hk
  simp only[Instr.findAsking,bC,Option.bind_eq_some_iff] at h
  obtain⟨t,e,h⟩:=h
  have c:=rJ _ e w
  rw[hk] at c
  cases t with
  | true =>
   simp only[if_true,bM,Pure.pure,Zl] at h
   subst h
   exact⟨some (i,b.val),by simp[Instr.findAsking,c],rfl,Zt _,by simp⟩
  | false =>
   simp only[ZM,if_false] at h
   obtain⟨d,h1,f⟩:=wy kt k l m (i+1) r hr h
   exact⟨d,by simp[Instr.findAsking,c,h1],f.cons⟩
 | [],_ :: _,_,_,h,_=>h.elim
 | _ :: _,[],_,_,h,_=>h.elim
theorem AD:∀ (es:List (V × V × Nat)) (l m:List MapEntry),iY es=some l->es.length=m.length ->
  (∀ i,i < es.length->∃ y,m[i]?=some y/\aC Z μ w.heap (es.getD i default).1 y.key)->Keys l m
 | [],l,m,h,hl,_=>by
  simp only[iY,Zl] at h
  subst h
  cases m with
  | nil=>trivial
  | cons _ _=>simp at hl
 | (k,g,b) :: es,l,m,h,hl,hr=>by
  simp only[iY] at h
  split at h
  .rename_i x y d f
   simp only[Zl] at h
   subst h
   cases m with
   | nil=>simp at hl
   | cons e m =>
    obtain⟨c,h1,a⟩:=hr 0 (by simp)
    simp only[ZL,Zl] at h1
    subst h1
    refine⟨sA a d,AD es y m f (by simpa using hl) (λi hi=>?_)⟩
    obtain⟨c,h1,a⟩:=hr (i+1) (by simpa using hi)
    exact⟨c,by simpa using h1,by simpa using a⟩
  .simp at h
theorem rq {kt:TypeId} {k:V} {x:Value} {b:Bool} {es:List (V × V × Nat)} {a:Array MapEntry} {r:Option Nat} (h:oc P kt k b es=some r) (hk:aC Z μ w.heap k x) (hl:a.size=es.length)
  (hr:∀ i,i < es.length->∃ y,a[i]?=some y/\aC Z μ w.heap (es.getD i default).1 y.key) :
  (Instr.checkKey b 10000 kt x).run P w=.ok () w /\
  ∃ e,(Instr.findKey kt x a.toList).run P w=.ok e w/\(match r,e with
   | none,none=>True
   | some i,some (j,y)=>i=j/\(a[i]?).map (·.val)=some y
   | _,_=>False):=by
 unfold oc at h
 split at h
 .rename_i n l A p
  have t:=sA hk A
  subst t
  have f:=AD (Z:=Z) (μ:=μ) (w:=w) es l a.toList p (by simpa using hl.symm) (λi hi=>by simpa using hr i hi)
  have g:∀ q,bM P (Instr.checkKey b 10000 kt n >>= λ_=>Instr.findKey kt n l)=some q->(Instr.checkKey b 10000 kt n).run P w=.ok () w/\∃ e,(Instr.findKey kt n a.toList).run P w=.ok e w/\Found a.toList 0 q e:=by
   intro q hq
   rw[bC,Option.bind_eq_some_iff] at hq
   obtain⟨u,hu,hq⟩:=hq
   refine⟨rJ _ hu w,?_⟩
   simp only[Instr.findKey,bC,Option.bind_eq_some_iff] at hq
   obtain⟨d,hd,hq⟩:=hq
   have s:=rJ _ hd w
   have c:=A6 d n l a.toList 0 f
   cases h1:Instr.findNow d n l 0 with
   | some C =>
    rw[h1] at c hq
    simp only[bM,Pure.pure,Zl] at hq
    subst hq
    cases m:Instr.findNow d n a.toList 0 with
    | none=>rw[m] at c;exact c.elim
    | some z =>
     rw[m] at c
     exact⟨z,by simp[Instr.findKey,s,m],c⟩
   | none =>
    rw[h1] at c hq
    cases m:Instr.findNow d n a.toList 0 with
    | some z=>rw[m] at c;exact c.elim
    | none =>
     obtain⟨e,o,v⟩:=wy (w:=w) kt n l a.toList 0 q f hq
     exact⟨e,by simp[Instr.findKey,s,m,o],v⟩
  split at h
  .rename_i i D hp
   simp only[Zl] at h
   subst h
   obtain⟨h1,e,m,o⟩:=g _ hp
   refine⟨h1,e,m,?_⟩
   cases e with
   | none=>exact o.elim
   | some q =>
    obtain⟨j,y⟩:=q
    obtain⟨v,_,B⟩:=o
    exact⟨v,by simpa using B⟩
  .rename_i hp
   simp only[Zl] at h
   subst h
   obtain⟨h1,e,m,o⟩:=g _ hp
   refine⟨h1,e,m,?_⟩
   cases e with
   | none=>trivial
   | some q=>exact o.elim
  .simp at h
 .simp at h
theorem xJ {id:Nat} {x:Value} (h:aC Z μ w.heap (.mp id) x):∃ b o0 s,μ id=some (b,o0,s)/\x=.map (some b):=by
 cases h with | mp _ b o0 s hm=>exact⟨b,o0,s,hm,rfl⟩
theorem ix {b:Nat} {a:Array MapEntry} {c:Nat} (h:w.heap[b]?=some (.map a c)):(getObj b).run P w=.ok (.map a c) w:=by
 simp[getObj,Sem.run,h]
theorem kO {b:Nat} {a:Array MapEntry} {c:Nat} (o:Obj) (h:w.heap[b]?=some (.map a c)):(setObj b o).run P w=.ok () { w with heap:=w.heap.setIfInBounds b o }:=by
 simp[setObj,Sem.run,h]
theorem pV {t kt et:TypeId} (h:dK P t=some (kt,et)):P.underlying t=some (.map kt et):=by
 unfold dK at h
 split at h
 .rename_i k e hu;simp at h;rw[hu,h.1,h.2]
 .simp at h
theorem LX {k:Bool} {v1:V} {a:Value} {b:Bool} (h:aC Z μ w.heap v1 a) :
  aC Z μ w.heap (if k then .bt [v1,.val (.bool b)] else v1) (if k then .tuple #[a,.bool b] else a):=by
 cases k with
 | false=>exact h
 | true =>
  refine .bt _ _ rfl (λi hi=>?_)
  match i,hi with
  | 0,_=>exact h
  | 1,_=>exact .val _ rfl
theorem On {t:TypeId} {m k:V} {L kv:Value} {ok:Bool} (h:gF P t m k ok H=some (v,eff,rd)) (hm:aC Z μ w.heap m L) (hk:aC Z μ w.heap k kv) (c:Ctx Z μ w.heap H rd n eff) :
  bp Z μ w n v eff ((do pure (Next.value (<-Instr.lookup t L kv ok)):Sem Next).run P w):=by
 unfold gF at h
 split at h
 .simp at h
 .rename_i kt et A
  have hu:=pV A
  split at h
  .simp at h
  .rename_i z O
   obtain⟨ti,p,B,C,rfl⟩:=AA O
   simp only at h
   split at h
   .rename_i id
    obtain⟨b,o0,s,D,rfl⟩:=xJ hm
    split at h
    .rename_i es clock hH
     have g:∀ E,E=id->eU Z μ w.heap id (.map es clock)->∃ a:Array MapEntry,w.heap[b]?=some (.map a clock)/\a.size=es.length /\
       ∀ i,i < es.length->∃ y,a[i]?=some y/\aC Z μ w.heap (es.getD i default).1 y.key/\aC Z μ w.heap (es.getD i default).2.1 y.val/\y.born=(es.getD i default).2.2:=λ_ _ h=>h b o0 s D
     have go:∀ r,oc P kt k es.isEmpty es=some r->eU Z μ w.heap id (.map es clock)->∃ x,(Instr.lookup t (.map (some b)) kv ok).run P w=.ok x w /\
       (match r with
        | some i=>∀ e,es[i]?=some e->aC Z μ w.heap (if ok then .bt [e.2.1,.val (.bool true)] else e.2.1) x
        | none=>aC Z μ w.heap (if ok then .bt [gq p,.val (.bool false)] else gq p) x):=by
      intro r hr d
      obtain⟨a,M,l,o⟩:=g id rfl d
      obtain⟨h1,N,u,F⟩:=rq (w:=w) hr hk l (λi hi=>let ⟨y,h1,u,_⟩:=o i hi; ⟨y,h1,u⟩)
      have f:a.isEmpty=es.isEmpty:=by
       simp only[Array.isEmpty,l];cases es <;> simp
      cases r with
      | none =>
       cases N with
       | some q=>exact F.elim
       | none =>
        refine⟨if ok then .tuple #[p,.bool false] else p,?_,LX (iG _)⟩
        simp only[Instr.lookup,Sem.run_bind,bG hu,Result.andThen_ok,ix M,Sem.run_pure,f,h1,u,kJ B C]
      | some i =>
       cases N with
       | none=>exact F.elim
       | some q =>
        obtain⟨j,y⟩:=q
        obtain⟨rfl,G⟩:=F
        refine⟨if ok then .tuple #[y,.bool true] else y,?_,λe he=>?_⟩
        .simp only[Instr.lookup,Sem.run_bind,bG hu,Result.andThen_ok,ix M,Sem.run_pure,f,h1,u]
        .refine LX ?_
         have hi:i < es.length:=by
          rcases ZI i es.length with h | h
          .exact h
          .simp[ZT h] at he
         obtain⟨Q,g1,g2,g3,g4⟩:=o i hi
         rw[g1] at G
         simp only[Zq,Zl] at G
         subst G
         simpa [Zi,he] using g3
     split at h
     .rename_i i I
      split at h
      .rename_i R S T he
       simp only[Zl,Zo] at h
       obtain⟨rfl,rfl,rfl⟩:=h
       have d:=c.obj id (by simp)
       rw[hH] at d
       obtain⟨x,J,K⟩:=go _ I d
       exact bp.here J (K _ he)
      .simp at h
     .rename_i I
      simp only[Zl,Zo] at h
      obtain⟨rfl,rfl,rfl⟩:=h
      have d:=c.obj id (by simp)
      rw[hH] at d
      obtain⟨x,J,K⟩:=go _ I d
      exact bp.here J K
     .simp at h
    .simp at h
   .simp at h
end
section
variable {Z:Nat->Prop} {μ μ':Mu} {w w':World} {P:Program} {H:View} {n:Nat} {v:V} {eff:bH} {rd:List Nat}
theorem mz {b:Nat} {a:Array MapEntry} {c:Nat} {o:Obj} (c4:∀ b,Z b->b < w.heap.size) (d:¬ Z b) (g:w.heap[b]?=some (.map a c)) :
  iO Z Z μ μ w.heap (w.heap.setIfInBounds b o)/\gB w.heap (w.heap.setIfInBounds b o):=by
 have hs:gB w.heap (w.heap.setIfInBounds b o):=by
  intro k i e f hk
  by_cases h:b=k
  .subst h;rw[g] at hk;simp at hk
  .exact⟨i,f,by simp[h,hk],rfl⟩
 exact⟨⟨λ_ h=>h,λk hk=>du w.heap b _ k (c4 k hk) (λe=>d (e ▸ hk)),λ_ _ h=>h,hs⟩,hs⟩
theorem Af {c k:V} {d x:Value} (h:sameKey c k=true) (e:aC Z μ w.heap c d) (hk:aC Z μ w.heap k x):(Instr.keyThatStays d x).run P w=.ok x w:=by
 unfold sameKey at h
 split at h
 .rename_i a b f g
  have i:=sA e f
  have j:=sA hk g
  subst i j
  simp[Instr.keyThatStays,h]
 .simp at h
theorem eU.Lg {id b o0 s:Nat} {es:List (V × V × Nat)} {clock i:Nat} {a:Array MapEntry} {k d:V} {e':MapEntry} (h:μ id=some (b,o0,s)) (c4:∀ b,Z b->b < w.heap.size) (r:¬ Z b) (q:w.heap[b]?=some (.map a clock)) (l:a.size=es.length)
  (m:∀ i,i < es.length->∃ y,a[i]?=some y/\aC Z μ w.heap (es.getD i default).1 y.key/\aC Z μ w.heap (es.getD i default).2.1 y.val/\y.born=(es.getD i default).2.2)
  (hi:i < es.length) (f:MapEntry->MapEntry) (t:∀ y,a[i]?=some y->f y=e') (hk:aC Z μ w.heap k e'.key) (u:aC Z μ w.heap d e'.val) {g:Nat} (v:e'.born=g) :
  eU Z μ (w.heap.setIfInBounds b (.map (a.modify i f) clock)) id (.map (es.set i (k,d,g)) clock):=by
 have hm:=(mz (μ:=μ) (o:=.map (a.modify i f) clock) c4 r q).1
 intro C D s1 c
 rw[h] at c
 simp only[Zl,Zo] at c
 obtain⟨rfl,rfl,rfl⟩:=c
 refine⟨a.modify i f,eM (fL q),by simp[l],λj x=>?_⟩
 have n:j < es.length:=by simpa using x
 obtain⟨y,h1,z,A,B⟩:=m j n
 by_cases e:i=j
 .subst e
  have p:(es.set i (k,d,g)).getD i default=(k,d,g):=by simp[Zi,hi]
  refine⟨e',by rw[Array.getElem?_modify];simp[h1,t y h1],?_⟩
  rw[p]
  exact⟨hk.mono hm,u.mono hm,v⟩
 .have p:(es.set i (k,d,g)).getD j default=es.getD j default:=by simp[Zi,e]
  refine⟨y,by rw[Array.getElem?_modify];simp[e,h1],?_⟩
  rw[p]
  exact⟨z.mono hm,A.mono hm,B⟩
theorem eU.NU {id b o0 s:Nat} {es:List (V × V × Nat)} {clock:Nat} {a:Array MapEntry} {k f:V} {kv c:Value} (h:μ id=some (b,o0,s)) (c4:∀ b,Z b->b < w.heap.size) (p:¬ Z b) (n:w.heap[b]?=some (.map a clock)) (g:a.size=es.length)
  (l:∀ i,i < es.length->∃ y,a[i]?=some y/\aC Z μ w.heap (es.getD i default).1 y.key/\aC Z μ w.heap (es.getD i default).2.1 y.val/\y.born=(es.getD i default).2.2)
  (hk:aC Z μ w.heap k kv) (q:aC Z μ w.heap f c) :
  eU Z μ (w.heap.setIfInBounds b (.map (a.push { key:=kv,val:=c,born:=clock }) (clock+1))) id (.map (es ++ [(k,f,clock)]) (clock+1)):=by
 have hm:=(mz (μ:=μ) (o:=.map (a.push { key:=kv,val:=c,born:=clock }) (clock+1)) c4 p n).1
 intro x z s1 d
 rw[h] at d
 simp only[Zl,Zo] at d
 obtain⟨rfl,rfl,rfl⟩:=d
 refine⟨_,eM (fL n),by simp[g],λj r=>?_⟩
 by_cases e:j < es.length
 .obtain⟨y,h1,t,u,v⟩:=l j e
  have m:(es ++ [(k,f,clock)]).getD j default=es.getD j default:=by simp[Zi,ZP e]
  refine⟨y,by rw[aa6,Zk (by omega)];exact h1,?_⟩
  rw[m]
  exact⟨t.mono hm,u.mono hm,v⟩
 .obtain rfl:j=es.length:=by simp at r;omega
  have m:(es ++ [(k,f,clock)]).getD es.length default=(k,f,clock):=by simp[Zi]
  refine⟨_,by rw[aa6,Zn g.symm],?_⟩
  rw[m]
  exact⟨hk.mono hm,q.mono hm,rfl⟩
theorem uY {id b o0 s:Nat} {es:List (V × V × Nat)} {clock:Nat} (c:eU Z μ w.heap id (.map es clock)) (d:μ id=some (b,o0,s)) :
 ∃ a:Array MapEntry,w.heap[b]?=some (.map a clock)/\a.size=es.length /\
  ∀ i,i < es.length->∃ y,a[i]?=some y/\aC Z μ w.heap (es.getD i default).1 y.key/\aC Z μ w.heap (es.getD i default).2.1 y.val/\y.born=(es.getD i default).2.2:=c b o0 s d
theorem mS {α:Type} {l:List α} {i:Nat} {x:α} (h:l[i]?=some x):i < l.length:=by
 rcases ZI i l.length with a | a
 .exact a
 .simp[ZT a] at h
theorem zZ {t:TypeId} {m k E:V} {F kv g:Value} (h:fX P t m k E H=some (v,eff,rd)) (hm:aC Z μ w.heap m F) (hk:aC Z μ w.heap k kv) (G:aC Z μ w.heap E g) (c:Ctx Z μ w.heap H rd n eff) :
  bp Z μ w n v eff ((do Instr.mapUpdate t F kv g;pure Next.skip:Sem Next).run P w):=by
 unfold fX at h
 split at h
 .rename_i kt et id A
  have hu:=pV A
  obtain⟨b,o0,s,d,rfl⟩:=xJ hm
  split at h
  .rename_i es clock hH
   split at h
   .rename_i i B
    split at h
    .rename_i I v0 J he
     split at h
     .rename_i C
      simp only[Zl,Zo] at h
      obtain⟨rfl,rfl,rfl⟩:=h
      have l:=c.obj id (by simp)
      rw[hH] at l
      obtain⟨a,p,o,f⟩:=uY l d
      have x:=c.iJ _ _ _ _ d
      have hi:=mS he
      obtain⟨y,g1,g2,g3,g4⟩:=f i hi
      simp only[Zi,he,ZC] at g2 g3 g4
      obtain⟨h1,D,r,z⟩:=rq (w:=w) B hk o (λi hi=>let ⟨y,h1,r,_⟩:=f i hi; ⟨y,h1,r⟩)
      cases D with
      | none=>exact z.elim
      | some q =>
       obtain⟨j,K⟩:=q
       obtain⟨rfl,L⟩:=z
       refine bp.skip (w':={ w with heap:=w.heap.setIfInBounds b (.map (a.modify i λe=>{ e with key:=kv,val:=g }) clock) }) (μ':=μ) ?_ ⟨rfl,rfl,rfl,by simp⟩ ?_
       .simp only[Instr.mapUpdate,Sem.run_bind,bG hu,Result.andThen_ok,ix p,h1,r,g1,Zq,ZC,Af C g2 hk,kO _ p]
       .exact⟨b,o0,s,d,rfl,du _ _ _,(mz (μ:=μ) c.c4 x p).2,eU.Lg d c.c4 x p o f hi _ (e':={ y with key:=kv,val:=g }) (λM u=>by rw[g1] at u;simp at u;subst u;rfl) hk G g4⟩
     .simp at h
    .simp at h
   .rename_i B
    simp only[Zl,Zo] at h
    obtain⟨rfl,rfl,rfl⟩:=h
    have l:=c.obj id (by simp)
    rw[hH] at l
    obtain⟨a,p,o,f⟩:=uY l d
    have x:=c.iJ _ _ _ _ d
    obtain⟨h1,D,r,z⟩:=rq (w:=w) B hk o (λi hi=>let ⟨y,h1,r,_⟩:=f i hi; ⟨y,h1,r⟩)
    cases D with
    | some q=>exact z.elim
    | none =>
     refine bp.skip (w':={ w with heap:=w.heap.setIfInBounds b (.map (a.push { key:=kv,val:=g,born:=clock }) (clock+1)) }) (μ':=μ) ?_ ⟨rfl,rfl,rfl,by simp⟩ ?_
     .simp only[Instr.mapUpdate,Sem.run_bind,bG hu,Result.andThen_ok,ix p,h1,r,kO _ p]
     .exact⟨b,o0,s,d,rfl,du _ _ _,(mz (μ:=μ) c.c4 x p).2,eU.NU d c.c4 x p o f hk G⟩
   .simp at h
  .simp at h
 .simp at h
theorem WN {a b:V} {x y:Value} (h1:aC Z μ w.heap a x) (c:aC Z μ w.heap b y):aC Z μ w.heap (.bt [a,b]) (.tuple #[x,y]):=by
 refine .bt _ _ rfl (λi hi=>?_)
 match i,hi with
 | 0,_=>exact h1
 | 1,_=>exact c
theorem J7 {t:TypeId} {m k:V} {N kv:Value} (h:eT P t m k H=some (v,eff,rd)) (hm:aC Z μ w.heap m N) (hk:aC Z μ w.heap k kv) (c:Ctx Z μ w.heap H rd n eff) :
  bp Z μ w n v eff ((do pure (Next.value (<-Instr.mapEntry t N kv)):Sem Next).run P w):=by
 unfold eT at h
 split at h
 .rename_i kt et id D
  have hu:=pV D
  obtain⟨b,o0,s,d,rfl⟩:=xJ hm
  split at h
  .rename_i es clock hH
   split at h
   .rename_i i E
    split at h
    .rename_i O v0 Q he
     split at h
     .rename_i F
      simp only[Zl,Zo] at h
      obtain⟨rfl,rfl,rfl⟩:=h
      have g:=c.obj id (by simp)
      rw[hH] at g
      obtain⟨a,r,l,f⟩:=uY g d
      have B:=c.iJ _ _ _ _ d
      have hi:=mS he
      obtain⟨y,g1,g2,g3,g4⟩:=f i hi
      simp only[Zi,he,ZC] at g2 g3 g4
      obtain⟨h1,G,u,C⟩:=rq (w:=w) E hk l (λi hi=>let ⟨y,h1,u,_⟩:=f i hi; ⟨y,h1,u⟩)
      cases G with
      | none=>exact C.elim
      | some q =>
       obtain⟨j,R⟩:=q
       obtain⟨rfl,I⟩:=C
       rw[g1] at I
       simp only[Zq,Zl] at I
       subst I
       have p:=mz (μ:=μ) (o:=.map (a.modify i λe=>{ e with key:=kv }) clock) c.c4 B r
       refine bp.value (w':={ w with heap:=w.heap.setIfInBounds b (.map (a.modify i λe=>{ e with key:=kv }) clock) }) (μ':=μ) (x:=.tuple #[y.val,goInt y.born]) ?_ ?_ ⟨rfl,rfl,rfl,by simp⟩ ?_
       .simp only[Instr.mapEntry,Sem.run_bind,bG hu,Result.andThen_ok,ix r,h1,u,g1,Zq,ZC,Af F g2 hk,kO _ r,Sem.run_pure]
       .refine aC.mono p.1 (WN g3 ?_)
        rw[g4];exact .val _ rfl
       .exact⟨b,o0,s,d,rfl,du _ _ _,p.2,eU.Lg d c.c4 B r l f hi _ (e':={ y with key:=kv }) (λS A=>by rw[g1] at A;simp at A;subst A;rfl) hk g3 g4⟩
     .simp at h
    .simp at h
   .rename_i E
    split at h
    .rename_i z J
     obtain⟨ti,K,L,M,rfl⟩:=AA J
     simp only[Zl,Zo] at h
     obtain⟨rfl,rfl,rfl⟩:=h
     have g:=c.obj id (by simp)
     rw[hH] at g
     obtain⟨a,r,l,f⟩:=uY g d
     have B:=c.iJ _ _ _ _ d
     obtain⟨h1,G,u,C⟩:=rq (w:=w) E hk l (λi hi=>let ⟨y,h1,u,_⟩:=f i hi; ⟨y,h1,u⟩)
     cases G with
     | some q=>exact C.elim
     | none =>
      have p:=mz (μ:=μ) (o:=.map (a.push { key:=kv,val:=K,born:=clock }) (clock+1)) c.c4 B r
      refine bp.value (w':={ w with heap:=w.heap.setIfInBounds b (.map (a.push { key:=kv,val:=K,born:=clock }) (clock+1)) }) (μ':=μ) (x:=.tuple #[K,goInt clock]) ?_ ?_ ⟨rfl,rfl,rfl,by simp⟩ ?_
      .simp only[Instr.mapEntry,Sem.run_bind,bG hu,Result.andThen_ok,ix r,h1,u,kJ L M,kO _ r,Sem.run_pure]
      .exact aC.mono p.1 (WN (iG _) (.val _ rfl))
      .exact⟨b,o0,s,d,rfl,du _ _ _,p.2,eU.NU d c.c4 B r l f hk (iG _)⟩
    .simp at h
   .simp at h
  .simp at h
 .simp at h
theorem FN {t:TypeId} {m s A:V} {B C d:Value} (h:lh m s A H=some (v,eff,rd)) (hm:aC Z μ w.heap m B) (hs:aC Z μ w.heap s C) (J:aC Z μ w.heap A d) (c:Ctx Z μ w.heap H rd n eff) :
  bp Z μ w n v eff ((do Instr.entryStore t B C d;pure Next.skip:Sem Next).run P w):=by
 unfold lh at h
 split at h
 .rename_i id q hq
  obtain⟨k,rfl⟩:=me hq
  have u:=fP hs
  subst u
  obtain⟨b,o0,s,f,rfl⟩:=xJ hm
  split at h
  .rename_i es clock hH
   split at h
   .rename_i i D
    split at h
    .rename_i K v0 L he
     simp only[Zl,Zo] at h
     obtain⟨rfl,rfl,rfl⟩:=h
     have p:=c.obj id (by simp)
     rw[hH] at p
     obtain⟨a,r,x,g⟩:=uY p f
     have E:=c.iJ _ _ _ _ f
     have hi:=mS he
     obtain⟨y,g1,g2,g3,g4⟩:=g i hi
     simp only[Zi,he,ZC] at g2 g3 g4
     have l:a.findIdx? (λe=>(e.born:Int) == (q:Int))=some i:=by
      rw[Array.findIdx?_eq_some_iff_getElem]
      rw[List.findIdx?_eq_some_iff_getElem] at D
      obtain⟨M,hp,z⟩:=D
      refine⟨by omega,?_,?_⟩
      .have:a[i]=y:=by have:=g1;rw[ZH (by omega)] at this;simpa using this
       rw[this,g4]
       have:es[i]=(K,v0,L):=by have:=he;rw[Zj hi] at this;simpa using this
       rw[this] at hp
       simp at hp ⊢;omega
      .intro j N
       obtain⟨F,G,_,_,I⟩:=g j (by omega)
       have h1:a[j]=F:=by rw[ZH (by omega)] at G;simpa using G
       have O:=z j N
       simp only[Zi,Zj (show j < es.length by omega),ZC] at I
       rw[h1,I]
       simp at O ⊢;omega
     refine bp.skip (w':={ w with heap:=w.heap.setIfInBounds b (.map (a.modify i λe=>{ e with val:=d }) clock) }) (μ':=μ) ?_ ⟨rfl,rfl,rfl,by simp⟩ ?_
     .simp only[Instr.entryStore,Sem.run_bind,Result.andThen_ok,ix r,asInt,asIntOf,Sem.run_pure,l,kO _ r]
     .exact⟨b,o0,s,f,rfl,du _ _ _,(mz (μ:=μ) c.c4 E r).2,eU.Lg f c.c4 E r x g hi _ (e':={ y with val:=d }) (λF o=>by rw[g1] at o;simp at o;subst o;rfl) g2 J g4⟩
    .simp at h
   .simp at h
  .simp at h
 .simp at h
theorem OT {t:TypeId} {m k:V} {L kv:Value} {x:Array TypeId} {ty:TypeId} (h:xU P t m k H=some (v,eff,rd)) (D:x[0]?=some t) (hm:aC Z μ w.heap m L) (hk:aC Z μ w.heap k kv) (c:Ctx Z μ w.heap H rd n eff) :
  bp Z μ w n v eff ((do pure (Next.value (<-Builtin.delete_ x ty #[L,kv])):Sem Next).run P w):=by
 unfold xU at h
 split at h
 .rename_i kt et id F
  have hu:=pV F
  obtain⟨b,o0,s,z,rfl⟩:=xJ hm
  split at h
  .rename_i es clock hH
   have start:eU Z μ w.heap id (.map es clock)->∀ r,oc P kt k es.isEmpty es=some r->∃ a:Array MapEntry,w.heap[b]?=some (.map a clock)/\a.size=es.length /\
     (∀ i,i < es.length->∃ y,a[i]?=some y/\aC Z μ w.heap (es.getD i default).1 y.key/\aC Z μ w.heap (es.getD i default).2.1 y.val/\y.born=(es.getD i default).2.2) /\
     (∀ i,r=some i->(Builtin.delete_ x ty #[.map (some b),kv]).run P w=.ok (.tuple #[]) { w with heap:=w.heap.setIfInBounds b (.map (a.eraseIdxIfInBounds i) clock) }) /\
     (r=none->(Builtin.delete_ x ty #[.map (some b),kv]).run P w=.ok (.tuple #[]) { w with heap:=w.heap.setIfInBounds b (.map a clock) }):=by
    intro d r hr
    obtain⟨a,l,f,g⟩:=uY d z
    obtain⟨h1,M,E,G⟩:=rq (w:=w) hr hk f (λi hi=>let ⟨y,h1,E,_⟩:=g i hi; ⟨y,h1,E⟩)
    have A:a.isEmpty=es.isEmpty:=by
     simp only[Array.isEmpty,f];cases es <;> simp
    refine⟨a,l,f,g,λi hi=>?_,λhi=>?_⟩
    .subst hi
     cases M with
     | none=>exact G.elim
     | some q =>
      obtain⟨j,R⟩:=q
      obtain⟨rfl,S⟩:=G
      simp only[Builtin.delete_,aal,ZL,aae,D,Sem.run_bind,bG hu,Result.andThen_ok,ix l,A,h1,E,kO _ l,Sem.run_pure]
    .subst hi
     cases M with
     | some q=>exact G.elim
     | none =>
      simp only[Builtin.delete_,aal,ZL,aae,D,Sem.run_bind,bG hu,Result.andThen_ok,ix l,A,h1,E,kO _ l,Sem.run_pure]
   split at h
   .rename_i i I
    simp only[Zl,Zo] at h
    obtain⟨rfl,rfl,rfl⟩:=h
    have d:=c.obj id (by simp)
    rw[hH] at d
    obtain⟨a,l,f,g,p,_⟩:=start d _ I
    have Q:=c.iJ _ _ _ _ z
    have u:=mz (μ:=μ) (o:=.map (a.eraseIdxIfInBounds i) clock) c.c4 Q l
    refine bp.value (μ':=μ) (p i rfl) (.any _) ⟨rfl,rfl,rfl,by simp⟩ ⟨b,o0,s,z,rfl,du _ _ _,u.2,?_⟩
    intro T U s1 B
    rw[z] at B
    simp only[Zl,Zo] at B
    obtain⟨rfl,rfl,rfl⟩:=B
    have J:∀ j,(a.eraseIdxIfInBounds i)[j]?=if j < i then a[j]? else a[j+1]?:=by
     intro j
     have:(a.eraseIdxIfInBounds i)[j]?=(a.toList.eraseIdx i)[j]?:=by rw[<-Array.getElem?_toList,Array.toList_eraseIdxIfInBounds]
     rw[this,List.getElem?_eraseIdx]
     split <;> simp
    refine⟨_,eM (fL l),?_,λj W=>?_⟩
    .rw[<-Array.length_toList,Array.toList_eraseIdxIfInBounds,List.length_eraseIdx,List.length_eraseIdx]
     simp[f]
    .have K:(es.eraseIdx i).getD j default=if j < i then es.getD j default else es.getD (j+1) default:=by
      simp only[Zi,List.getElem?_eraseIdx];split <;> rfl
     rw[J,K]
     have hl:(es.eraseIdx i).length<=es.length/\(i < es.length->(es.eraseIdx i).length=es.length - 1):=by
      rw[List.length_eraseIdx];split <;> omega
     by_cases e:j < i
     .rw[Zn e,Zn e]
      obtain⟨y,g1,g2,g3,g4⟩:=g j (by omega)
      exact⟨y,g1,g2.mono u.1,g3.mono u.1,g4⟩
     .rw[Zk e,Zk e]
      have:j+1 < es.length:=by
       rcases ZI i es.length with N | N
       .have:=hl.2 N;omega
       .have:=hl.1;omega
      obtain⟨y,g1,g2,g3,g4⟩:=g (j+1) this
      exact⟨y,g1,g2.mono u.1,g3.mono u.1,g4⟩
   .rename_i I
    simp only[Zl,Zo] at h
    obtain⟨rfl,rfl,rfl⟩:=h
    have d:=c.obj id (by simp)
    rw[hH] at d
    obtain⟨a,l,f,g,_,p⟩:=start d _ I
    have C:w.heap.setIfInBounds b (.map a clock)=w.heap:=by
     apply Array.ext_getElem?
     intro k
     simp only[aao]
     split
     .rename_i hk
      subst hk
      rw[Zn (fL l)];exact l.symm
     .rfl
    have O:=p rfl
    rw[C] at O
    exact bp.here O (.any _)
   .simp at h
  .simp at h
 .simp at h
end
section
variable {Z:Nat->Prop} {μ μ':Mu} {w w':World} {P:Program} {H:View} {n:Nat} {v:V} {eff:bH} {rd:List Nat}
theorem Wh {t:TypeId} {x:V} {o:Value} {f:Array TypeId} {ty:TypeId} (h:xk P t x H=some (v,eff,rd)) (d:f[0]?=some t) (i:aC Z μ w.heap x o) (c:Ctx Z μ w.heap H rd n eff) :
  bp Z μ w n v eff ((do pure (Next.value (<-Builtin.len_ f ty #[o])):Sem Next).run P w):=by
 unfold xk at h
 split at h
 .rename_i e hu
  simp only[Zu] at h
  obtain⟨m,hm,h⟩:=h
  simp only[Zo] at h
  obtain⟨rfl,rfl,rfl⟩:=h
  obtain⟨ad,cap,rfl,_⟩:=eu i hm
  exact bp.here (x:=goInt m) (by simp[Builtin.len_,d,bG hu]) (.val _ rfl)
 .rename_i k e hu
  split at h
  .rename_i id
   obtain⟨b,o0,s,j,rfl⟩:=xJ i
   split at h
   .rename_i es clock hH
    simp only[Zl,Zo] at h
    obtain⟨rfl,rfl,rfl⟩:=h
    have g:=c.obj id (by simp)
    rw[hH] at g
    obtain⟨a,p,l,q⟩:=uY g j
    refine bp.here (x:=goInt es.length) ?_ (.val _ rfl)
    simp[Builtin.len_,d,bG hu,ix p,l]
   .simp at h
  .simp only[Zl,Zo] at h
   obtain⟨rfl,rfl,rfl⟩:=h
   have:=fP i
   subst this
   exact bp.here (x:=goInt 0) (by simp[Builtin.len_,d,bG hu]) (.val _ rfl)
  .simp at h
 .rename_i hu
  split at h
  .rename_i s
   simp only[Zl,Zo] at h
   obtain⟨rfl,rfl,rfl⟩:=h
   have:=fP i
   subst this
   exact bp.here (x:=goInt s.size) (by simp[Builtin.len_,d,bG hu]) (.val _ rfl)
  .simp at h
 .rename_i m e hu
  simp only[Zl,Zo] at h
  obtain⟨rfl,rfl,rfl⟩:=h
  exact bp.here (x:=goInt m) (by simp[Builtin.len_,d,bG hu]) (.val _ rfl)
 .simp at h
theorem CL {b:Nat} {s:ByteArray} {pos:Nat} (h:w.heap[b]?=some (.stringIter s pos)):(getObj b).run P w=.ok (.stringIter s pos) w:=by
 simp[getObj,Sem.run,h]
theorem LJ {b:Nat} {s:ByteArray} {pos:Nat} (o:Obj) (h:w.heap[b]?=some (.stringIter s pos)):(setObj b o).run P w=.ok () { w with heap:=w.heap.setIfInBounds b o }:=by
 simp[setObj,Sem.run,h]
theorem T0 {x:V} {m:Value} {ty:TypeId} (h:Fw x H=some (v,eff,rd)) (o:aC Z μ w.heap x m) (c:Ctx Z μ w.heap H rd n eff) :
  bp Z μ w n v eff ((do pure (Next.value (<-Instr.next m true ty)):Sem Next).run P w):=by
 unfold Fw at h
 split at h
 .rename_i id
  obtain⟨b,o0,s,a,rfl⟩:=oW o
  split at h
  .rename_i st pos hH
   split at h
   .rename_i g
    simp only[Zl,Zo] at h
    obtain⟨rfl,rfl,rfl⟩:=h
    have d:=c.obj id (by simp)
    rw[hH] at d
    obtain⟨rfl,l⟩:=d b o0 s a
    have q:=c.iJ _ _ _ _ a
    have hs:gB w.heap (w.heap.setIfInBounds b (.stringIter st (pos+(Utf8.decode st pos).2))):=by
     intro k p e f hk
     by_cases h:b=k
     .subst h;rw[l] at hk;simp at hk
     .exact⟨p,f,by simp[h,hk],rfl⟩
    refine bp.value (w':={ w with heap:=w.heap.setIfInBounds b (.stringIter st (pos+(Utf8.decode st pos).2)) }) (μ':=μ) (x:=.tuple #[.bool true,goInt pos,.int .i32 (Utf8.decode st pos).1]) ?_ ?_ ⟨rfl,rfl,rfl,by simp⟩ ?_
    .simp only[Nat.zero_mul,aba,Instr.next,Sem.run_bind,CL l,Result.andThen_ok,g,if_true,LJ _ l,Sem.run_pure]
    .refine .bt _ _ rfl (λi hi=>?_)
     match i,hi with
     | 0,_=>exact .val _ rfl
     | 1,_=>exact .val _ rfl
     | 2,_=>exact .val _ rfl
    .refine⟨b,0,s,a,rfl,du _ _ _,hs,?_⟩
     intro r t s1 j
     rw[a] at j
     simp only[Zl,Zo] at j
     obtain⟨rfl,rfl,rfl⟩:=j
     exact⟨rfl,eM (fL l)⟩
   .rename_i g
    simp only[Zl,Zo] at h
    obtain⟨rfl,rfl,rfl⟩:=h
    have d:=c.obj id (by simp)
    rw[hH] at d
    obtain⟨rfl,l⟩:=d b o0 s a
    refine bp.here (x:=.tuple #[.bool false]) ?_ (.bt _ _ rfl (λi hi=>?_))
    .simp only[Nat.zero_mul,aba,Instr.next,Sem.run_bind,CL l,Result.andThen_ok,g,if_false,Sem.run_pure]
    .match i,hi with
     | 0,_=>exact .val _ rfl
  .simp at h
 .simp at h
theorem Hu:∀ (ns:List Int) (s:ByteArray),ns.foldl (λr n=>r.push (UInt8.ofNat n.toNat)) s=⟨s.data ++ (ns.map λn=>UInt8.ofNat n.toNat).toArray⟩
 | [],s=>by simp
 | n :: ns,s=>by
  simp only[ZS,ZJ]
  rw[Hu ns]
  congr 1
  apply Array.ext'
  simp[ByteArray.push]
theorem Ed:∀ (xs:List (List V)) (l:List UInt8),mo xs=some l->∃ ns:List Int,xs=ns.map (λn=>[V.val (.int .u8 n)])/\l=ns.map λn=>UInt8.ofNat n.toNat
 | [],l,h=>by
  simp only[mo,Zl] at h;subst h
  exact⟨[],rfl,rfl⟩
 | x :: r,l,h=>by
  unfold mo at h
  split at h
  .simp at *
  .rename_i n b heq
   simp only[abr] at heq
   obtain⟨rfl,rfl⟩:=heq
   simp only[Zu] at h
   obtain⟨l',a,rfl⟩:=h
   obtain⟨ns,rfl,rfl⟩:=Ed _ _ a
   exact⟨n :: ns,rfl,rfl⟩
  .simp at h
theorem Wm {esz:Nat} {es:List (List V)} {c:Array Value} {e:TypeId} {f:Nat × Nat}
  (k:μ n=none) (c4:∀ b,Z b->b < w.heap.size) (l:f.1=f.2∨c.size<=f.1) (hs:es.length * esz<=c.size) (hlen:∀ i,i < es.length->(es.getD i []).length=esz)
  (h:∀ i j,i < es.length->j < esz->∃ x,c[i * esz+j]?=some x/\aC Z μ w.heap ((es.getD i []).getD j .any) x) :
  eU Z (μ.set n (w.heap.size,0,esz)) (w.heap.push (.cells c e f)) n (.arr esz es):=by
 intro b o0 s a
 simp only[Mu.set,if_true,Zl,Zo] at a
 obtain⟨rfl,rfl,rfl⟩:=a
 have hm:iO Z Z μ (μ.set n (w.heap.size,0,esz)) w.heap (w.heap.push (.cells c e f)):=by
  refine⟨λ_ h=>h,λb g=>?_,λid x a=>?_,?_⟩
  .have:=c4 b g
   rw[aa6,Zk (by omega)]
  .by_cases d:id=n
   .subst d;simp[k] at a
   .simp[Mu.set,d,a]
  .intro b m e' q g
   have:=fL g
   exact⟨m,_,by rw[aa6,Zk (by omega)];exact g,rfl⟩
 refine⟨rfl,⟨c,e,f,by simp,l,by simpa using hs⟩,hlen,λi j hi o=>?_⟩
 obtain⟨x,a,p⟩:=h i j hi o
 exact⟨x,by simp[cellAt,a],p.mono hm⟩
theorem LM {b:Nat} {c:Array Value} {e:TypeId} {f:Nat × Nat} (h:w.heap[b]?=some (.cells c e f)) :
  ∃ d,(w.freeze ⟨b,c.size,none⟩ 1) = { w with heap:=w.heap.setIfInBounds b (.cells c e d) }/\((f.1=f.2∨c.size<=f.1)->(d.1=d.2∨c.size<=d.1)):=by
 obtain⟨lo,up⟩:=f
 refine⟨if lo == up then (c.size,c.size+1) else (min lo c.size,max up (c.size+1)),?_,λj=>?_⟩
 .unfold World.freeze
  rw[Zk (by omega)]
  congr 1
  apply Array.ext_getElem?
  intro i
  simp only[Array.getElem?_modify,aao]
  by_cases hi:b=i
  .subst hi
   have a:=fL h
   have k:w.heap[b]=.cells c e (lo,up):=by simpa [ZH a] using h
   simp[k,a]
  .simp[hi]
 .right
  simp only at j
  split
  .exact Zt _
  .rename_i g
   simp only[aaz] at g
   simp only;omega
theorem Lw {s d:TypeId} {x:V} {Y:Value} (h:ov P s d x H n=some (v,eff,rd)) (r:aC Z μ w.heap x Y) (c:Ctx Z μ w.heap H rd n eff) :
  bp Z μ w n v eff ((do pure (Next.value (<-convert s d Y)):Sem Next).run P w):=by
 unfold ov at h
 split at h
 .rename_i e hs hd
  split at h
  .rename_i he
   split at h
   .rename_i xs an m D M
    simp only[Zu] at h
    obtain⟨l,hl,h⟩:=h
    simp only[Zo] at h
    obtain⟨rfl,rfl,rfl⟩:=h
    obtain⟨ns,rfl,rfl⟩:=Ed _ _ hl
    obtain⟨ad,cap,rfl,_⟩:=eu r M
    have hlen:=(AL (P:=P) (size:=1) D r).1
    simp only[Builtin.lenOf,Sem.run_pure,Result.ok.injEq,Zr,and_true] at hlen
    subst hlen
    obtain⟨N,t,_,q⟩:=ry (P:=P) (size:=1) D r c.obj (by simp)
    have K:=q _ (Zt _)
    have o:N.size=ns.length:=by have:=t.len;simpa using this
    rw[j8 N (by simpa using t.len)] at K
    have E:N=(ns.map (Value.int .u8)).toArray:=by
     apply Array.ext
     .simp[o]
     .intro i h1 h2
      have hi:i < ns.length:=by omega
      have:=t.rel i 0 (by simpa using hi) (by omega)
      simp only[Zi,Zm,Zj hi,Zq,ZC,ZL,Nat.mul_one,aba,Zv,ZH h1] at this
      have:=fP this
      simpa using this
    have F:(Conv.bytesToString (.slice ad ns.length cap)).run P w=.ok (.string ⟨(ns.map λn=>UInt8.ofNat n.toNat).toArray⟩) w:=by
     cases ad with
     | none =>
      have:ns=[]:=by
       simp only[Builtin.firstCells,Sem.run_pure,Result.ok.injEq,and_true] at K
       rw[<-K] at o
       simp at o
       exact aaJ.1 o.symm
      subst this
      rfl
     | some a =>
      have h9:(loadCells a ns.length).run P w=.ok (ns.map (Value.int .u8)).toArray w:=by
       rw[<-E]
       simpa [Builtin.firstCells] using K
      rw[run_bytesToString w a ns.length cap ns h9,Hu]
      congr 2
      simp
    refine bp.here (x:=.string ⟨(ns.map λn=>UInt8.ofNat n.toNat).toArray⟩) ?_ (.val _ rfl)
    rw[run_convert_bytes_string w s d e ad ns.length cap hs he hd]
    exact F
   .simp at h
  .simp at h
 .rename_i e st hs hd
  split at h
  .rename_i he
   simp only[Zl,Zo] at h
   obtain⟨rfl,rfl,rfl⟩:=h
   unfold iD
   have:=fP r
   subst this
   have G:st.size<=grownCap w st.size 0 e:=by
    unfold grownCap Question.cut;exact Nat.le_add_right _ _
   have I:(bytesRow st (grownCap w st.size 0 e)).size=grownCap w st.size 0 e:=by
    simp only[bytesRow,Array.size_append,Array.size_map,Array.size_replicate]
    have:st.data.size=st.size:=rfl
    omega
   refine bp.value (μ':=μ.set n (w.heap.size,0,1)) (run_bytes_of_string w s d e st hs hd he) ?_ (lQ _ _) ?_
   .rw[heap_alloc,fJ]
    have:=aC.sl (Z:=Z) (μ:=μ.set n (w.heap.size,0,1)) (hp:=w.heap.push (.cells (bytesRow st (grownCap w st.size 0 e)) e ((bytesRow st (grownCap w st.size 0 e)).size,(bytesRow st (grownCap w st.size 0 e)).size+1))) n 0 st.size 1 w.heap.size 0 (grownCap w st.size 0 e) _ e _ (by simp[Mu.set]) G (by simp;exact⟨rfl,rfl⟩) (by rw[I];simp)
    simpa using this
   .refine⟨w.heap.size,0,1,Zt _,by rw[heap_alloc,fJ];simp,rfl,by rw[heap_alloc,fJ];exact fq _ _,?_⟩
    rw[heap_alloc,fJ]
    have hl:(st.data.toList.map λb=>([V.val (Value.int .u8 b.toNat)]:List V)).length=st.size:=by rw[Zr,bsize]
    refine Wm c.new c.c4 (.inr (Zt _)) (by rw[hl,I];omega) ?_ ?_
    .intro i hi
     have p:i < st.data.toList.length:=by simpa using hi
     simp only[Zi,Zm,Zj p,Zq,ZC,ZB,ZW]
    .intro i j hi hj
     obtain rfl:j=0:=by omega
     have p:i < st.data.size:=by simpa using hi
     refine⟨.int .u8 (st.data[i]).toNat,?_,?_⟩
     .simp only[bytesRow,Nat.mul_one,aba]
      rw[aaP (by simpa using p),Array.getElem?_map,ZH p]
      rfl
     .simp only[Zi,Zm,Array.getElem?_toList,ZH p,Zq,ZC,ZL]
      exact .val _ rfl
  .simp at h
 .rename_i e1 e2 id off len esz hs hd
  split at h
  .rename_i hc
   obtain⟨O,Q⟩:=hc
   subst O
   rw[hs] at hd
   simp only[Zl,TypeDesc.slice.injEq] at hd
   subst hd
   split at h
   .rename_i he
    split at h
    .rename_i z es hH
     simp only[Zl,Zo] at h
     obtain⟨rfl,rfl,rfl⟩:=h
     have J:=c.obj id (by simp)
     rw[hH] at J
     cases r with
     | qX=>exact absurd rfl Q
     | sl _ _ _ _ b o0 cap C e' f hm hle g R =>
      obtain⟨rfl,⟨c2,e2,f2,u,S,T⟩,h3,h4⟩:=J b o0 esz hm
      rw[g] at u
      simp only[Zl,Obj.cells.injEq] at u
      obtain⟨rfl,rfl,rfl⟩:=u
      obtain⟨L,U,W⟩:=LM g
      have hz:=c.iJ _ _ _ _ hm
      have y:=fL g
      have A:iO Z Z μ μ w.heap (w.heap.setIfInBounds b (.cells C e' L)):=by
       refine⟨λ_ h=>h,λk hk=>du w.heap b _ k (c.c4 k hk) (λe=>hz (e ▸ hk)),λ_ _ h=>h,?_⟩
       intro k x e0 f0 hk
       by_cases hb:b=k
       .subst hb
        rw[g] at hk
        simp only[Zl,Obj.cells.injEq] at hk
        obtain⟨rfl,rfl,rfl⟩:=hk
        exact⟨C,L,eM y,rfl⟩
       .exact⟨x,f0,by simp[hb,hk],rfl⟩
      refine bp.value (w':={ w with heap:=w.heap.setIfInBounds b (.cells C e' L) }) (μ':=μ) (x:=.slice (some ⟨b,o0+off * esz,none⟩) len cap) ?_ ((aC.sl id off len esz b o0 cap C e' f hm hle g R).mono A) ⟨rfl,rfl,rfl,by simp⟩ ?_
      .have X:w.shape? b=some (e',C.size):=by simp[World.shape?,g]
       simp only[convert,Sem.run_bind,bG hs,Result.andThen_ok,bG he,aaF,markStringish,run_shape,X,run_freeze,U,Sem.run_pure]
      .refine⟨b,o0,esz,hm,rfl,du _ _ _,A.shape,?_⟩
       intro b1 q1 s1 B
       rw[hm] at B
       simp only[Zl,Zo] at B
       obtain⟨rfl,rfl,rfl⟩:=B
       refine⟨rfl,⟨C,e',L,eM y,W S,T⟩,h3,λi j hi hj=>?_⟩
       obtain⟨x,r,hv⟩:=h4 i j hi hj
       refine⟨x,?_,hv.mono A⟩
       simp only[cellAt,eM y]
       simpa only [cellAt,g] using r
    .simp at h
   .simp at h
  .simp at h
 .simp at h
theorem ud {o:Oper} {T:Env} {a:Act} (h:ej P o T=some (v,eff,rd)) (g:∀ x∈o.op.operands,aC Z μ w.heap (ev T x) (a.eval x))
  (i:∀ c:Operand->Value,(∀ x∈o.op.operands,c x=a.eval x)->execOp c o=execOp a.eval o):bp Z μ w n v eff ((execOp a.eval o).run P w):=by
 unfold ej at h
 split at h
 .rename_i b
  split at h
  .rename_i x d
   split at h
   .rename_i hp
    simp only[Zl,Zo] at h
    obtain⟨rfl,rfl,rfl⟩:=h
    rw[i] at d
    .exact⟨.value x,w,μ,rJ _ d w,.inl ⟨x,rfl,.val _ hp⟩,fk.refl _,jJ⟩
    .intro y e
     rw[Array.all_eq_true_iff_forall_mem] at b
     obtain⟨z,f⟩:=Option.isSome_iff_exists.1 (b y e)
     rw[f]
     exact sA (g y e) f
   .simp at h
  .simp at h
 .simp at h
theorem Dk {T:Env} {a:Act} : ∀ (l:List (Nat × Operand)),(∀ x∈l.map (·.2),aC Z μ w.heap (ev T x) (a.eval x))->Gx Z μ w.heap (l.map λ(i,x)=>(i,ev T x)) (l.map λ(i,x)=>(i,a.eval x))
 | [],_=>trivial
 | (i,x) :: r,h=>⟨rfl,h x (by simp),Dk r (λy b=>h y (by simp at b ⊢;exact .inr b))⟩
theorem Nb {T:Env} {a:Act} (xs:Array Operand) (h:∀ x∈xs,aC Z μ w.heap (ev T x) (a.eval x)) :
  (xs.toList.map (ev T)).length=(xs.map a.eval).size/\∀ i,i < (xs.toList.map (ev T)).length->aC Z μ w.heap ((xs.toList.map (ev T)).getD i .any) ((xs.map a.eval).getD i undef):=by
 refine⟨by simp,λi hi=>?_⟩
 have b:i < xs.size:=by simpa using hi
 have:=h xs[i] (Array.getElem_mem _)
 simpa [Zi,Zv,b] using this
theorem Gd {T:Env} {a:Act} (o:Option Operand) (h:∀ x∈o.toArray,aC Z μ w.heap (ev T x) (a.eval x)):Bi Z μ w.heap (o.map (ev T)) (o.map a.eval):=by
 cases o with
 | none=>trivial
 | some x=>exact h x (by simp)
theorem W9 {cs:List V} {x:Value} {t:TypeId} (h:np cs n=some (v,eff,rd)) (hr:cs.all aL=true->gS Z μ w.heap cs x.cells.toList) (c:Ctx Z μ w.heap H rd n eff) :
  bp Z μ w n v eff ((do pure (Next.value (<-Instr.box t x)):Sem Next).run P w):=by
 have:=NV (P:=P) (t:=t) h hr c
 simpa [Instr.box] using this
end
end Gv
