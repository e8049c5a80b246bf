/-
  Part 19 of the proof: what the machine does and what the functions answer.
  Conditions: those that each lemma names.
-/
import Derived.Shelf.Slices.Delete
import Derived.Test.YtiophifnkakjgaaGreatSGzC4R
set_option linter.unusedSimpArgs false
set_option linter.unusedVariables false
set_option maxRecDepth 100000
set_option maxHeartbeats 20000000
namespace Gv
open Go Go.Proofs
open Go Go.Lib Go.Proofs Go.Shelf Go.RowKit Go.Sort
def eU:Ren where
 f:=fun
  | 21=>142
  | 27=>201
  | 28=>202
  | 35=>253
  | 39=>285
  | n=>n
 t:=fun
  | 22=>27
  | 3=>3
  | 4=>4
  | 0=>0
  | n=>n
 g:=λn=>n
theorem Mi:Go.Proofs.Lays2.n21 aa eU where
 mixed:=by kernel_rfl
 f21:=by kernel_rfl
 f27:=by kernel_rfl
 f28:=by kernel_rfl
 f35:=by kernel_rfl
 f39:=by kernel_rfl
 t0:=Tryz.underlying0
 a0:=Tryz.isAgg0
 z0:=Tryz.sizeOf0
 v0:=Tryz.zeroValue0
 t3:=Tryz.underlying3
 a3:=Tryz.isAgg3
 z3:=Tryz.sizeOf3
 v3:=Tryz.zeroValue3
 t4:=Tryz.underlying4
 a4:=Tryz.isAgg4
 z4:=Tryz.sizeOf4
 v4:=Tryz.zeroValue4
 t22:=Tryz.underlying27
 a22:=Tryz.isAgg27
 z22:=Tryz.sizeOf27
 v22:=Tryz.zeroValue27
 i3:=by kernel_rfl
def Vy:Ren where
 f:=fun
  | 23=>144
  | n=>n
 t:=fun
  | 22=>27
  | 3=>3
  | 4=>4
  | 0=>0
  | n=>n
 g:=λn=>n
theorem aab:Go.Proofs.Lays2.n23 aa Vy where
 mixed:=by kernel_rfl
 f23:=by kernel_rfl
 t0:=Tryz.underlying0
 a0:=Tryz.isAgg0
 z0:=Tryz.sizeOf0
 v0:=Tryz.zeroValue0
 t3:=Tryz.underlying3
 a3:=Tryz.isAgg3
 z3:=Tryz.sizeOf3
 v3:=Tryz.zeroValue3
 t4:=Tryz.underlying4
 a4:=Tryz.isAgg4
 z4:=Tryz.sizeOf4
 v4:=Tryz.zeroValue4
 t22:=Tryz.underlying27
 a22:=Tryz.isAgg27
 z22:=Tryz.sizeOf27
 v22:=Tryz.zeroValue27
 i3:=by kernel_rfl
section
variable {Z:Nat->Prop} {μ:Mu}
theorem BM {hp:Array Obj} {id b o0:Nat} {l:List Int} {c:Array Value} {e:TypeId} {f:Nat × Nat} (hm:μ id=some (b,o0,1)) (d:hp[b]?=some (.cells c e f)) (g:f.1=f.2∨c.size<=f.1) (k:o0+l.length<=c.size)
  (h:∀j,j<l.length->cellAt hp b (o0+j)=some (.int .i64 (l.getD j 0))):eT Z μ hp id (.arr 1 (aO l)):=by
 intro m n s1 h1
 rw[hm] at h1
 simp only[abd,abz] at h1
 obtain⟨rfl,rfl,rfl⟩:=h1
 have a:(aO l).length=l.length:=by simp
 refine⟨rfl,⟨c,e,f,d,g,by rw[a];omega⟩,λi hi=>?_,λi j hi o=>?_⟩
 .rw[a] at hi;rw[zY hi];rfl
 .rw[a] at hi
  rw[zY hi]
  obtain rfl:j=0:=by omega
  exact⟨_,by simpa using h i hi,.val _ rfl⟩
theorem HT {w:World} {H:View} {n b o0:Nat} {l:List Int} (hr:eQ Z μ w.heap H) (g:H n=.arr 1 (aO l)) (hm:μ n=some (b,o0,1)):
  ∃c e f,w.heap[b]?=some (.cells c e f)/\(f.1=f.2∨c.size<=f.1)/\o0+l.length<=c.size/\∀j,j<l.length->w.cell? ⟨b,o0+j,none⟩=some (.int .i64 (l.getD j 0)):=by
 have h:=hr.obj n
 rw[g] at h
 obtain⟨_,⟨c,e,f,i,k,m⟩,_,o⟩:=h b o0 1 hm
 refine⟨c,e,f,i,k,by simpa using m,λj a=>?_⟩
 obtain⟨x,p,d⟩:=o j 0 (by simpa using a) (by omega)
 rw[zY a] at d
 cases d
 rw[jo]
 simpa using p
theorem U3 {w:World} {b k:Nat} {c:Array Value} {e:TypeId} {f:Nat × Nat} (a:w.heap[b]?=some (.cells c e f)) (d:f.1=f.2∨c.size<=f.1) (hk:k<c.size):w.frozen? ⟨b,k,none⟩=false:=by
 simp only[World.frozen?,a]
 rcases d with e | e
 .simp only[e,Bool.and_eq_false_iff,acy];omega
 .simp only[Bool.and_eq_false_iff,acy];omega
structure fo (w w':World) (b:Nat):Prop where
 same:fa w w'
 old:∀j,j≠b->w'.heap[j]?=w.heap[j]?
 cell:∀c e f,w.heap[b]?=some (.cells c e f)->∃c',w'.heap[b]?=some (.cells c' e f)/\c'.size=c.size
theorem fo.refl (w:World) (b:Nat):fo w w b:=⟨.refl w,λ_ _=>rfl,λc e f h=>⟨c,h,rfl⟩⟩
theorem fo.trans {w a d:World} {b:Nat} (h:fo w a b) (k:fo a d b):fo w d b:=⟨h.same.trans k.same,λj g=>(k.old j g).trans (h.old j g),λc e f i=>by
 obtain⟨c1,h1,s1⟩:=h.cell c e f i
 obtain⟨c2,l,s2⟩:=k.cell c1 e f h1
 exact⟨c2,l,s2.trans s1⟩⟩
theorem fo.drew (w:World) (b:Nat):fo w w.drew b:=⟨⟨rfl,rfl,rfl,abg _⟩,λ_ _=>rfl,λc e f h=>⟨c,h,rfl⟩⟩
theorem fo.map (w:World) (b:Nat) (g:Array Value->Array Value) (a:∀c,(g c).size=c.size):fo w (mapBlock w b g) b:=by
 refine⟨⟨rfl,rfl,rfl,?_⟩,λj d=>?_,λc e f h=>⟨g c,?_,a c⟩⟩
 .simp[mapBlock]
 .simp only[mapBlock,acP]
  rw[aa9 (λe=>d e.symm)]
 .simp only[mapBlock,acP,if_true,h]
  rfl
theorem fo.setCells (b:Nat):∀(vs:List Value) (o:Nat) (w:World),fo w (w.setCells b o vs) b
 | [],_,w=>.refl w b
 | v::r,o,w=>by
  rw[World.setCells]
  refine fo.trans ?_ (fo.setCells b r (o+1) _)
  rw[setCell_eq]
  exact fo.map _ _ _ (λc=>by simp)
theorem fo.ahead (w:World) (b q:Nat):fo w (Sort.ahead w q) b:=⟨⟨rfl,rfl,rfl,abg _⟩,λ_ _=>rfl,λc e f h=>⟨c,h,rfl⟩⟩
theorem fo.mE {w w':World} {b:Nat} (h:fo w w' b):gu w.heap w'.heap:=λj c e f a=>by
 by_cases d:j=b
 .subst d
  obtain⟨g,h1,i⟩:=h.cell c e f a
  exact⟨g,f,h1,i⟩
 .exact⟨c,f,by rw[h.old j d];exact a,rfl⟩
theorem Rj {h:Heap} {F:View} {eff:bq} (b:∀id,id∈eff.wr->h.view id≠.dead):cat (eff.apply h) F=eff.view (cat h F) h.length:=by
 have c:=k9 b
 funext k
 cases eff with
 | none=>rfl
 | new o =>
  have a:(bq.apply h (.new o)).length=h.length+1:=by simp[bq.apply]
  simp only[cat,c,a,bq.view,View.set]
  (repeat' split)<;>first | rfl | omega
 | fP id o =>
  have:=fj (b id (by simp[bq.wr]))
  have a:(bq.apply h (.fP id o)).length=h.length:=by simp[bq.apply]
  simp only[cat,c,a,bq.view,View.set]
  (repeat' split)<;>first | rfl | omega
 | eW id o =>
  have:=fj (b id (by simp[bq.wr]))
  have a:(bq.apply h (.eW id o)).length=h.length+1:=by simp[bq.apply]
  simp only[cat,c,a,bq.view,View.set]
  (repeat' split)<;>first | rfl | omega
theorem Dc {μ':Mu} {w w':World} {h:Heap} {F:View} {eff:bq} (hr:eQ Z μ w.heap (cat h F)) (he:nB Z μ μ' w.heap w'.heap h.length eff) (c:fa w w') (d:eff.fresh (μ h.length=none)) (b:∀id,id∈eff.wr->h.view id≠.dead):
  eQ Z μ' w'.heap (cat (eff.apply h) F)/\Ext Z μ w h.length Z μ' w':=by
 refine⟨?_,(he.ext c d hr.de hr.iK).1⟩
 rw[Rj b]
 have f:∀id,h.view id≠.dead->cat h F id≠.dead:=λid a=>by
  simp only[cat];rw[abb (fj a)];exact a
 exact hr.eff d c.size he (λid o e=>f id (b id (by rw[e];simp[bq.wr]))) (λid o e=>f id (b id (by rw[e];simp[bq.wr])))
theorem Zg {w w':World} {h:Heap} {F:View} {n b o0:Nat} {l l':List Int} (hr:eQ Z μ w.heap (cat h F)) (o:h.view n=.arr 1 (aO l)) (a:μ h.length=none) (hm:μ n=some (b,o0,1)) (hp:fo w w' b)
  {c:Array Value} {e:TypeId} {f:Nat × Nat} (p:w.heap[b]?=some (.cells c e f)) (q:f.1=f.2∨c.size<=f.1) (r:o0+l'.length<=c.size) (s:∀j,j<l'.length->w'.cell? ⟨b,o0+j,none⟩=some (.int .i64 (l'.getD j 0))):
  eQ Z (μ.set h.length (b,o0,1)) w'.heap (cat (h.set n .dead++[.arr 1 (aO l')]) F)/\Ext Z μ w h.length Z (μ.set h.length (b,o0,1)) w':=by
 obtain⟨t,i,d⟩:=hp.cell c e f p
 refine Dc (eff:=.eW n (.arr 1 (aO l'))) hr ?_ hp.same a (λid g=>by
  simp[bq.wr] at g;subst g;rw[o];simp)
 refine⟨b,o0,1,rfl,?_,.inr ⟨⟨o0,1,hm⟩,λj m k=>hp.old j k,hp.mE⟩⟩
 exact BM (b:=b) (o0:=o0) (by simp[Mu.set]) i (by rw[d];exact q) (by rw[d];exact r) (λj m=>by rw[<-jo];exact s j m)
theorem YU {w w':World} {h:Heap} {F:View} {n b o0:Nat} {l l':List Int} (hr:eQ Z μ w.heap (cat h F)) (m:h.view n=.arr 1 (aO l)) (hm:μ n=some (b,o0,1)) (hp:fo w w' b)
  {c:Array Value} {e:TypeId} {f:Nat × Nat} (o:w.heap[b]?=some (.cells c e f)) (p:f.1=f.2∨c.size<=f.1) (q:o0+l'.length<=c.size) (r:∀j,j<l'.length->w'.cell? ⟨b,o0+j,none⟩=some (.int .i64 (l'.getD j 0))):
  eQ Z μ w'.heap (cat (h.set n (.arr 1 (aO l'))) F)/\Ext Z μ w h.length Z μ w':=by
 obtain⟨s,g,a⟩:=hp.cell c e f o
 refine Dc (eff:=.fP n (.arr 1 (aO l'))) hr ?_ hp.same trivial (λid d=>by
  simp[bq.wr] at d;subst d;rw[m];simp)
 refine⟨b,o0,1,hm,rfl,λj k i=>hp.old j i,hp.mE,?_⟩
 exact BM hm g (by rw[a];exact p) (by rw[a];exact q) (λj k=>by rw[<-jo];exact r j k)
theorem HC {w w':World} {h:Heap} {F:View} {l':List Int} (hr:eQ Z μ w.heap (cat h F)) (a:μ h.length=none) (g:fa w w') (hold:∀j,j<w.heap.size->w'.heap[j]?=w.heap[j]?)
  {c:Array Value} {e:TypeId} {f:Nat × Nat} (l:w'.heap[w.heap.size]?=some (.cells c e f)) (o:f.1=f.2∨c.size<=f.1) (r:l'.length<=c.size) (p:∀j,j<l'.length->w'.cell? ⟨w.heap.size,j,none⟩=some (.int .i64 (l'.getD j 0)))
  {eff:bq} (he:eff=.new (.arr 1 (aO l'))∨∃n,eff=.eW n (.arr 1 (aO l'))/\h.view n≠.dead):
  eQ Z (μ.set h.length (w.heap.size,0,1)) w'.heap (cat (eff.apply h) F)/\Ext Z μ w h.length Z (μ.set h.length (w.heap.size,0,1)) w':=by
 have i:w.heap.size<w'.heap.size:=fG l
 have m:eT Z (μ.set h.length (w.heap.size,0,1)) w'.heap h.length (.arr 1 (aO l')):=BM (b:=w.heap.size) (o0:=0) (by simp[Mu.set]) l o (by omega) (λj k=>by rw[<-jo,abX];exact p j k)
 rcases he with rfl | ⟨n,rfl,q⟩
 .exact Dc hr ⟨_,0,1,abg _,i,rfl,λj k _=>hold j k,m⟩ g a (λid d=>by simp[bq.wr] at d)
 .exact Dc hr ⟨_,0,1,rfl,m,.inl ⟨abg _,i,λj k _=>hold j k⟩⟩ g a (λid d=>by
   simp[bq.wr] at d;subst d;exact q)
end
theorem yn {l:List Int} {i:Nat} {t:Int} (hi:i<=l.length) (j:Nat):(dE l i 0 [t]).getD j 0=if j<i then l.getD j 0 else if j=i then t else l.getD (j-1) 0:=by
 unfold dE
 simp only[aa7,List.getElem?_append,acb,Nat.min_eq_left hi,acn,List.length_singleton,acz]
 by_cases h1:j<i
 .simp[h1]
 .rw[aa9 h1,aa9 h1]
  by_cases a:j=i
  .subst a;simp
  .rw[aa9 (by omega),aa9 a]
   congr 2;omega
theorem mC {l:List Int} {i:Nat} {t:Int} (hi:i<=l.length):(dE l i 0 [t]).length=l.length+1:=by
 unfold dE;simp;omega
theorem XF {l cur:List Int} {i:Nat} {t:Int} (hi:i<=l.length) (h:HO (l++[t]) cur i (l.length+1-i) (l.length+1-i-1)):cur=dE l i 0 [t]:=by
 obtain⟨h1,c⟩:=h
 simp only[abv,List.length_singleton] at h1 c
 refine ab2 (by rw[mC hi,h1]) λk hk a=>?_
 have b:k<l.length+1:=by omega
 have e:=c k b
 have f:=yn (t:=t) hi k
 have g:cur.getD k 0=cur[k]:=by simp[aa8 hk]
 have a2:(dE l i 0 [t]).getD k 0=(dE l i 0 [t])[k]:=by simp[aa8 a]
 rw[<-g,<-a2,e,f]
 have d:∀m,m<l.length->(l++[t]).getD m 0=l.getD m 0:=λm hm=>by simp[abF hm]
 have j:(l++[t]).getD l.length 0=t:=by simp
 by_cases c1:k<i
 .rw[aa9 (by omega),abb c1]
  exact d k (by omega)
 .rw[abb (by omega),aa9 c1]
  by_cases c2:k=i
  .rw[abb c2,abb (by omega),show k+(l.length+1-i-1)=l.length by omega,j]
  .rw[aa9 c2,aa9 (by omega),show k+(l.length+1-i-1)-(l.length+1-i)=k-1 by omega]
   exact d _ (by omega)
open Go Go.Lib Go.Proofs Go.Shelf Go.RowKit Go.Sort
theorem lK {w:World} {b k:Nat} {vs:List Value} {o:Nat} (a:∀j,j<vs.length->(w.cell? ⟨b,o+j,none⟩).isSome=true):
  (w.setCells b o vs).cell? ⟨b,k,none⟩=if o<=k/\k<o+vs.length then vs[k-o]? else w.cell? ⟨b,k,none⟩:=by
 split
 .rename_i h
  have:=World.cell?_setCells_in b vs o w a (k-o) (by omega)
  rw[show o+(k-o)=k by omega] at this
  rw[this,aa8 (by omega)]
 .rename_i h
  exact World.cell?_setCells_out b vs o w _ (λ_ _=>by show k<o∨o+vs.length<=k;omega)
theorem Bi {l:List Int} {j:Nat} (h:j<l.length):(l.map (Value.int .i64))[j]?=some (.int .i64 (l.getD j 0)):=by
 simp[h]
theorem nS {w:World} {row:Array Value} {e:TypeId} : (w.alloc (.cells row e)).heap[w.heap.size]?=some (.cells row e (0,0)):=World.alloc_heap_new w _
theorem BQ {w:World} {o:Obj} {j:Nat} (a:j<w.heap.size):(w.alloc o).heap[j]?=w.heap[j]?:=by
 rw[heap_alloc,acX,aa9 (by omega)]
theorem GF:CX:=by
 intro H u v l i t ho hv cb hi hl
 refine⟨by kernel_rfl,?_⟩
 rintro h rfl
 have bl:v<h.length:=fj (by rw[hv];simp)
 have args:∀ {Z:Nat->Prop} {μ:Mu} {F:View} {w:World} {u:V} {xs:List Value},gI Z μ w.heap [u,gi i,.sl v 0 1 1] xs->eQ Z μ w.heap (cat h F) ->
   ∃x B E S,xs=[x,.int .i64 i,.slice (some ⟨B,E,none⟩) 1 S]/\aD Z μ w.heap u x/\μ v=some (B,E,1)/\(∃c e f,w.heap[B]?=some (.cells c e f)/\(f.1=f.2∨c.size<=f.1)/\E+1<=c.size)/\w.cell? ⟨B,E,none⟩=some (.int .i64 t):=by
  intro Z μ F w u xs I hr
  obtain⟨hlen,hx⟩:=I
  obtain⟨x0,x1,x2,rfl⟩:∃x0 x1 x2,xs=[x0,x1,x2]:=by
   match xs,hlen with
   | [a,b,c],_=>exact⟨a,b,c,rfl⟩
  have h0:aD Z μ w.heap u x0:=hx 0 (by simp)
  have h1:aD Z μ w.heap (gi i) x1:=hx 1 (by simp)
  have P:aD Z μ w.heap (.sl v 0 1 1) x2:=hx 2 (by simp)
  have e1:=fi h1
  subst e1
  rcases yu P with ⟨e,_⟩ | ⟨B,E,S,cv,ev,fv,rfl,J,cS,aq,cc⟩
  .omega
  have cf:cat h F v=.arr 1 (aO [t]):=by simp only[cat];rw[abb bl,hv];rfl
  obtain⟨c,e,f,hc,hf,hs,d⟩:=HT hr cf J
  exact⟨x0,B,E,S,by simp,h0,J,⟨c,e,f,hc,hf,by simpa using hs⟩,by simpa using d 0 (by simp)⟩
 have T:∀ {w:World} {B E:Nat},w.cell? ⟨B,E,none⟩=some (.int .i64 t)->∀j x,[Value.int .i64 t][j]?=some x->w.cell? ⟨B,E+j,none⟩=some x:=by
  intro w B E d j x p
  match j,p with
  | 0,p=>simp at p;subst p;simpa using d
 have U:∀x∈[Value.int .i64 t],x.oneCell'=true:=by simp;rfl
 have hG:∀(w:World) (n c:Nat),n<=grownCap w n c (eU.t 3):=λw n c=>grownCap_ge w _ _ _
 rcases ho with ⟨he,k,rfl⟩ | ⟨n,rfl,hn⟩
 .obtain rfl:l=[]:=List.map_eq_nil_iff.1 he
  obtain rfl:i=0:=by simpa using hi
  refine⟨.sl h.length 0 1 1,h++[.arr 1 (aO [t])],⟨by simp,λZ μ F w xs I hr z=>?_⟩,λk hk hd=>?_,?_,?_⟩
  rotate_left
  .rw[kU];simp only[View.set];rw[aa9 (by omega)];exact hd
  .exact .inr ⟨h.length,rfl,by rw[kU];simp[View.set];rfl⟩
  .intro id C _ _
   have:=fj C
   rw[kU]
   exact⟨by simp only[View.set];rw[aa9 (by omega)],by simp[owner];omega⟩
  obtain⟨x,B,E,S,rfl,h0,J,_,d⟩:=args I hr
  have W:=z h.length (abg _) (by simp)
  cases h0 with
  | emp _ a _ _ =>
   have r:=Any2.slices_Insert_int_end_grow Mi a 0 0 B E 1 S [] [.int .i64 t] w (by omega) (by omega) (by omega) (by omega) rfl rfl (λ_=>rfl) (by simp) (T d) U
   refine Calls.mono (show Calls aa 142 _ w _ from r) ?_
   rintro e w' ⟨rfl,rfl⟩
   have hg:=hG w (0+1) 0
   generalize grownCap w (0+1) 0 (eU.t 3)=G at hg ⊢
   generalize s:(([]++[Value.int .i64 t]).toArray++Builtin.zeroCells (Value.int .i64 0).cells (G-(0+1)))=row
   have bn:row.size=G:=by rw[<-s];simp[Builtin.zeroCells,Value.cells];omega
   obtain⟨k1,k2⟩:=HC (l':=[t]) (w':=w.drew.alloc (.cells row _)) (eff:=.new (.arr 1 (aO [t]))) hr W (iP _ _) (λj p=>BQ (w:=w.drew) p) (nS (w:=w.drew)) (.inl rfl) (by simp;omega) (λj p=>by
    obtain rfl:j=0:=by simpa using p
    have:=World.cell?_alloc_at (w:=w.drew) row (eU.t 3) w.heap.size 0 rfl
    refine this.trans ?_
    rw[<-s,ab4 (by simp)];rfl) (.inl rfl)
   refine⟨_,Z,_,rfl,?_,k1,k2,λid C=>?_⟩
   .have:=aD.sl (Z:=Z) (μ:=μ.set h.length (w.heap.size,0,1)) (hp:=(w.drew.alloc (.cells row (eU.t 3))).heap) h.length 0 1 1 w.heap.size 0 G row _ (0,0) (by simp[Mu.set]) (by omega) (nS (w:=w.drew)) (by omega)
    simpa using this
   .simp only[Mu.set]
    rw[aa9 (by simp at C;omega)]
 .simp only[abc] at *
  have ar:n<h.length:=fj (by rw[hn];simp)
  have ch:v≠n:=λe=>cb (by rw[e];rfl)
  have e1:Heap.view (h.set n .dead++[.arr 1 (aO (l++[t]))]) h.length=.arr 1 (aO (l++[t])):=by
   have:=kU (h.set n .dead) (.arr 1 (aO (l++[t])))
   rw[this];simp[View.set]
  obtain⟨_,hR⟩:=Ic (H:=Heap.view (h.set n .dead++[.arr 1 (aO (l++[t]))])) (id:=h.length) (l:=l++[t]) (off:=i) (len:=l.length+1-i) (m:=1) e1 (by simp;omega) (by omega) (by unfold aG;simp;omega)
  obtain⟨r2,P,hA,hS,cur,br,bs,a1⟩:=hR _ rfl
  obtain rfl:=XF hi bs
  have cV:h.length+1<=P.length:=by simpa using hA.1
  have D:∀id,P.view id=if id=h.length then .arr 1 (aO (dE l i 0 [t])) else if id=n then .dead else h.view id:=λid=>by
   by_cases e:id=h.length
   .rw[abb e,e,br]
   .rw[aa9 e,a1 id e,kU,gH ar]
    simp only[View.set,acO]
    rw[aa9 e]
  refine⟨.sl h.length 0 (l.length+1) 1,P,⟨by omega,λZ μ F w xs I hr z=>?_⟩,λk hk hd=>?_,?_,?_⟩
  rotate_left
  .rw[D,aa9 (by omega),hd];simp
  .exact .inr ⟨h.length,by rw[abc,mC hi],by rw[D,abb rfl]⟩
  .intro id C _ hu
   have h3:=fj C
   have h4:id≠n:=λe=>hu (by rw[e];rfl)
   rw[D,aa9 (by omega),aa9 h4]
   exact⟨rfl,by simp[owner];omega⟩
  obtain⟨x,B,E,S,rfl,h0,J,⟨cv,ev,fv,aq,cj,cc⟩,d⟩:=args I hr
  have W:=z h.length (abg _) (by omega)
  have bx:cat h F n=.arr 1 (aO l):=by simp only[cat];rw[abb ar,hn]
  have fin:∀ {w':World} {y:Value} {b o:Nat},eQ Z (μ.set h.length (b,o,1)) w'.heap (cat (h.set n .dead++[.arr 1 (aO (dE l i 0 [t]))]) F)/\Ext Z μ w h.length Z (μ.set h.length (b,o,1)) w'->aD Z (μ.set h.length (b,o,1)) w'.heap (.sl h.length 0 (l.length+1) 1) y ->
    ∃A μ',aD A μ' w'.heap (.sl h.length 0 (l.length+1) 1) y/\eQ A μ' w'.heap (cat P F)/\Ext Z μ w h.length A μ' w'/\∀id,id<h.length∨P.length<=id->μ' id=μ id:=by
   rintro w' y b o ⟨k1,k2⟩ k3
   refine⟨Z,_,k3,k1.congr λid C=>?_,k2,λid C=>?_⟩
   .have e2:Heap.view (h.set n .dead++[.arr 1 (aO (dE l i 0 [t]))]) id=P.view id:=by
     rw[D,kU,gH ar]
     simp only[View.set,acO]
    simp only[cat,abv,acO,List.length_singleton]
    by_cases c1:id<h.length+1
    .rw[abb c1,abb (by omega),e2]
    .rw[aa9 c1]
     by_cases c2:id<P.length
     .exact absurd (by simp only[Mu.set];rw[aa9 (by omega)];exact z id (by omega) c2) C
     .rw[aa9 c2]
   .simp only[Mu.set];rw[aa9 (by omega)]
  have live:h.view n≠.dead:=by rw[hn];simp
  have a6:(l.map (Value.int .i64)).length=l.length:=by simp
  have b0:∀x∈l.map (Value.int .i64),x.oneCell'=true:=λx hx=>by
   obtain⟨_,_,rfl⟩:=abt.1 hx
   rfl
  have al:∀(a:Option Addr) (c:Nat),i=l.length->l.length<=c->c<l.length+1->(a=none->l.length=0)->(∀ad,a=some ad->∀j v,(l.map (Value.int .i64))[j]?=some v->w.cell? (ad.add j)=some v) ->
    Calls aa 142 #[.slice a l.length c,.int .i64 l.length,.slice (some ⟨B,E,none⟩) 1 S] w λe w'=>∃x A μ',e=.returned x/\aD A μ' w'.heap (.sl h.length 0 (l.length+1) 1) x/\eQ A μ' w'.heap (cat P F)/\Ext Z μ w h.length A μ' w'/\∀id,id<h.length∨P.length<=id->μ' id=μ id:=by
   intro a c K ck c3 b1 X
   have r:=Any2.slices_Insert_int_end_grow Mi a l.length c B E 1 S (l.map (Value.int .i64)) [.int .i64 t] w (by omega) ck (by omega) (by omega) a6 rfl b1 X (T d) U
   refine Calls.mono (show Calls aa 142 _ w _ from r) ?_
   rintro e w' ⟨rfl,rfl⟩
   have hg:=hG w (l.length+1) c
   generalize grownCap w (l.length+1) c (eU.t 3)=G at hg ⊢
   generalize s:((l.map (Value.int .i64)++[Value.int .i64 t]).toArray++Builtin.zeroCells (Value.int .i64 0).cells (G-(l.length+1)))=row
   have bn:row.size=G:=by rw[<-s];simp[Builtin.zeroCells,Value.cells];omega
   have k:=HC (l':=dE l i 0 [t]) (w':=w.drew.alloc (.cells row (eU.t 3))) (eff:=.eW n (.arr 1 (aO (dE l i 0 [t])))) hr W (iP _ _) (λj p=>BQ (w:=w.drew) p) (nS (w:=w.drew)) (.inl rfl) (by rw[mC hi];omega) (λj p=>by
    rw[mC hi] at p
    have:=World.cell?_alloc_at (w:=w.drew) row (eU.t 3) w.heap.size j rfl
    refine this.trans ?_
    rw[<-s,yn hi,K,ab4 (by simp;omega),abU]
    by_cases c1:j<l.length
    .rw[abb c1,abF (by omega),Bi c1]
    .obtain rfl:j=l.length:=by omega
     rw[aa9 c1,abb rfl,acf (by omega)]
     simp) (.inr ⟨n,rfl,live⟩)
   obtain⟨A,μ',f1,f2,f3,f4⟩:=fin k (y:=.slice (some ⟨w.heap.size,0,none⟩) (l.length+1) G) (by
    have:=aD.sl (Z:=Z) (μ:=μ.set h.length (w.heap.size,0,1)) (hp:=(w.drew.alloc (.cells row (eU.t 3))).heap) h.length 0 (l.length+1) 1 w.heap.size 0 G row _ (0,0) (by simp[Mu.set]) (by omega) (nS (w:=w.drew)) (by omega)
    simpa using this)
   exact⟨_,A,μ',rfl,f1,f2,f3,f4⟩
  rcases yu h0 with ⟨e0,a,rfl⟩ | ⟨b,o0,cap,c0,e0,f0,rfl,a7,an,L,c4⟩
  .obtain rfl:l=[]:=acx.1 e0
   obtain rfl:i=0:=by simpa using hi
   exact al a 0 rfl (by simp) (by simp) (λ_=>rfl) (by simp)
  obtain⟨c,e,f,hc,hf,hs,ae⟩:=HT hr bx a7
  rw[L] at hc
  simp only[abd,Obj.cells.injEq] at hc
  obtain⟨rfl,rfl,rfl⟩:=hc
  rw[Nat.zero_mul,acI]
  have X:∀j v,(l.map (Value.int .i64))[j]?=some v->w.cell? ⟨b,o0+j,none⟩=some v:=λj x p=>by
   have b2:j<l.length:=by
    have:=(abf.1 p).1
    simpa using this
   rw[Bi b2] at p
   rw[ae j b2,p]
  by_cases M:l.length+1<=cap
  .have g:∀j,j<l.length+1->(w.cell? ⟨b,o0+j,none⟩).isSome=true:=λj p=>by
    rw[jo,cellAt,L];simp;omega
   have b3:∀j,j<l.length+1->w.frozen? ⟨b,o0+j,none⟩=false:=λj p=>U3 L hf (by omega)
   have Y:∀ {w':World},fo w w' b->aD Z (μ.set h.length (b,o0,1)) w'.heap (.sl h.length 0 (l.length+1) 1) (.slice (some ⟨b,o0,none⟩) (l.length+1) cap):=λ{w'} hp=>by
    obtain⟨c',Q,b4⟩:=hp.cell _ _ _ L
    have:=aD.sl (Z:=Z) (μ:=μ.set h.length (b,o0,1)) (hp:=w'.heap) h.length 0 (l.length+1) 1 b o0 cap c' _ _ (by simp[Mu.set]) M Q (by omega)
    simpa using this
   have room:∀ {w':World} {l':List Int},fo w w' b->l'.length=l.length+1->(∀j,j<l.length+1->w'.cell? ⟨b,o0+j,none⟩=some (.int .i64 (l'.getD j 0))) ->
     eQ Z (μ.set h.length (b,o0,1)) w'.heap (cat (h.set n .dead++[.arr 1 (aO l')]) F)/\Ext Z μ w h.length Z (μ.set h.length (b,o0,1)) w':=λhp da cu =>
    Zg hr hn W a7 hp L hf (by omega) (λj p=>cu j (by omega))
   by_cases K:i=l.length
   .have r:=PC Mi b o0 l.length cap B E 1 S [.int .i64 t] w (by omega) M (by omega) rfl (λj p=>by rw[abP];exact g _ (by omega)) (λj p=>by rw[abP];exact b3 _ (by omega)) (T d) U
    rw[K]
    refine Calls.mono (show Calls aa 142 _ w _ from r) ?_
    rintro e w' ⟨rfl,rfl⟩
    have hp:=fo.setCells b [.int .i64 t] (o0+l.length) w
    obtain⟨A,μ',f1,f2,f3,f4⟩:=fin (room hp (mC hi) λj p=>by
     rw[lK (λj p=>by rw[abP];exact g _ (by simp at p;omega)),yn hi]
     by_cases c1:j<l.length
     .rw[aa9 (by omega),abb (by omega)]
      exact ae j c1
     .obtain rfl:j=l.length:=by omega
      rw[abb (by simp),aa9 (by omega),abb K.symm]
      simp) (Y hp)
    exact⟨_,A,μ',rfl,f1,f2,f3,f4⟩
   .have cA:B≠b:=λe=>by
     subst e
     rcases hr.inj v n _ _ _ _ _ ch J a7 with q | q
     .simp only[cat] at q;rw[abb bl,hv] at q;simp at q
     .rw[bx] at q;simp at q
    have cC:w.shape? B=some (ev,cv.size):=by simp only[World.shape?,aq]
    obtain⟨tb,cI⟩:∃tb,w.shape? b=some (tb,c0.size):=⟨_,by unfold World.shape?;rw[L]⟩
    have r:=MF Mi b o0 l.length cap i B E 1 S (l.map (Value.int .i64)) [.int .i64 t] w (by omega) (by omega) M (by omega) cA a6 rfl X g b3 (T d) b0 U _ _ _ _ cC cI (by omega) (by omega) (U3 aq cj (by omega))
     (λw'=>∃A μ',aD A μ' w'.heap (.sl h.length 0 (l.length+1) 1) (.slice (some ⟨b,o0,none⟩) (l.length+1) cap)/\eQ A μ' w'.heap (cat P F)/\Ext Z μ w h.length A μ' w'/\∀id,id<h.length∨P.length<=id->μ' id=μ id)
     (λR ab=>by
      have a8:fo w R b:=by rcases ab with rfl | rfl<;>first | exact .refl _ _ | exact .drew _ _
      have N:∀x,R.cell? x=w.cell? x:=λx=>by rcases ab with rfl | rfl<;>rfl
      have hp:=(((a8.trans (.drew _ _)).trans (fo.setCells b ((l.map (Value.int .i64)).drop i) (o0+(i+1)) _)).trans (fo.setCells b [.int .i64 t] (o0+i) _))
      refine fin (room hp (mC hi) λj p=>?_) (Y hp)
      have cN:∀k,k<l.length+1->((R.drew.setCells b (o0+(i+1)) ((l.map (Value.int .i64)).drop i)).cell? ⟨b,o0+k,none⟩).isSome=true:=λk hk=>isSome_setCells _ _ _ _ (λq O=>by
        show (R.cell? _).isSome=true
        rw[N,abP];simp at O;exact g _ (by omega)) _ (by show (R.cell? _).isSome=true;rw[N];exact g k hk)
      rw[lK (λq O=>by rw[abP];simp at O;exact cN _ (by omega)),yn hi]
      by_cases c1:j=i
      .subst c1
       rw[abb (by simp),aa9 (by omega),abb rfl]
       simp
      .rw[aa9 (by simp;omega),lK (λq O=>by
        show (R.cell? _).isSome=true
        rw[N,abP];simp at O;exact g _ (by omega))]
       by_cases c2:j<i
       .rw[aa9 (by omega),abb c2]
        show R.cell? _=_
        rw[N];exact ae j (by omega)
       .rw[abb (by simp;omega),aa9 c2,aa9 c1,acz,show i+(o0+j-(o0+(i+1)))=j-1 by omega,Bi (by omega)])
     (λR ab=>by
      have a8:fo w R b:=by rcases ab with rfl | rfl | rfl<;>first | exact .refl _ _ | exact .drew _ _ | exact(fo.drew _ _).trans (.drew _ _)
      have N:∀x,R.cell? x=w.cell? x:=λx=>by rcases ab with rfl | rfl | rfl<;>rfl
      have hp:=a8.trans (fo.setCells b [.int .i64 t] (o0+l.length) R)
      obtain⟨k1,k2⟩:=room (l':=l++[t]) hp (by simp) λj p=>by
       rw[lK (λq O=>by rw[N,abP];simp at O;exact g _ (by omega))]
       by_cases c1:j<l.length
       .rw[aa9 (by omega),N,ae j c1]
        simp[abF c1]
       .obtain rfl:j=l.length:=by omega
        rw[abb (by simp)]
        simp
      obtain⟨c',Q,b4⟩:=hp.cell _ _ _ L
      have ha:=hA.2 Z (μ.set h.length (b,o0,1)) F (R.setCells b (o0+l.length) [.int .i64 t]) [.slice (some ⟨b,o0+i,none⟩) (l.length+1-i) (cap-i),.int .i64 (1:Nat)] ⟨rfl,λq O=>by
        match q,O with
        | 0,_ =>
         have:=aD.sl (Z:=Z) (μ:=μ.set h.length (b,o0,1)) (hp:=(R.setCells b (o0+l.length) [.int .i64 t]).heap) h.length i (l.length+1-i) 1 b o0 (cap-i) c' _ _ (by simp[Mu.set]) (by omega) Q (by omega)
         simpa using this
        | 1,_=>exact .val _ rfl⟩ k1 (λid b5 b7=>by
       simp at b5
       simp only[Mu.set];rw[aa9 (by omega)];exact z id (by omega) b7)
      refine Calls.mono ha ?_
      rintro e w' ⟨y,A,μ',rfl,_,g2,g3,g4⟩
      refine⟨⟨y,rfl⟩,A,μ',?_,g2,k2.trans g3 (by simp) hr.lt,λid C=>?_⟩
      .exact(Y hp).mono g3.mono
      .rw[g4 id (by simp;omega)]
       simp only[Mu.set];rw[aa9 (by omega)])
    refine Calls.mono (show Calls aa 142 _ w _ from r) ?_
    rintro e w' ⟨rfl,A,μ',f1,f2,f3,f4⟩
    exact⟨_,A,μ',rfl,f1,f2,f3,f4⟩
  .by_cases K:i=l.length
   .rw[K]
    refine al _ cap K an (by omega) (λq=>by simp at q) (λad b8 j x p=>?_)
    simp only[abd] at b8
    subst b8
    rw[Addr.add_lit]
    exact X j x p
   .have r:=Any2.slices_Insert_int_grow Mi b o0 l.length cap i B E 1 S (l.map (Value.int .i64)) [.int .i64 t] w (by omega) (by omega) an (by omega) (by omega) a6 rfl X (T d) b0 U
    refine Calls.mono (show Calls aa 142 _ w _ from r) ?_
    rintro e w' ⟨rfl,rfl⟩
    have hg:=hG w (l.length+1) cap
    generalize grownCap w (l.length+1) cap (eU.t 3)=G at hg ⊢
    generalize s:(((l.map (Value.int .i64)).take i).toArray++Builtin.zeroCells (Value.int .i64 0).cells (l.length+1-i)++Builtin.zeroCells (Value.int .i64 0).cells (G-(l.length+1)))=row
    have bn:row.size=G:=by rw[<-s];simp[Builtin.zeroCells,Value.cells];omega
    have hp:fo (w.alloc (.cells row (eU.t 3))) ((((w.alloc (.cells row (eU.t 3))).drew.setCells w.heap.size i [.int .i64 t]).drew).setCells w.heap.size (i+1) ((l.map (Value.int .i64)).drop i)) w.heap.size:=
     (((fo.drew _ _).trans (fo.setCells _ _ _ _)).trans (.drew _ _)).trans (fo.setCells _ _ _ _)
    have b9:∀k,(w.alloc (.cells row (eU.t 3))).cell? ⟨w.heap.size,k,none⟩=row[k]?:=λk=>World.cell?_alloc_at (w:=w) row (eU.t 3) w.heap.size k rfl
    have bd:∀k,k<l.length+1->((w.alloc (.cells row (eU.t 3))).cell? ⟨w.heap.size,k,none⟩).isSome=true:=λk hk=>by rw[b9];simp;omega
    obtain⟨c',Q,b4⟩:=hp.cell _ _ _ (nS (w:=w))
    have ca:∀k,k<l.length+1->(((w.alloc (.cells row (eU.t 3))).drew.setCells w.heap.size i [.int .i64 t]).cell? ⟨w.heap.size,k,none⟩).isSome=true:=λk hk=>isSome_setCells _ _ _ ((w.alloc (.cells row (eU.t 3))).drew) (λq O=>bd _ (by simp at O;omega)) _ (bd k hk)
    have k:=HC (l':=dE l i 0 [t]) (eff:=.eW n (.arr 1 (aO (dE l i 0 [t])))) hr W ((ja _ _).trans hp.same) (λj p=>(hp.old j (by omega)).trans (BQ p)) Q (.inl rfl) (by rw[mC hi];omega) (λj p=>by
     rw[mC hi] at p
     rw[lK (λq O=>by simp at O;exact ca _ (by omega)),yn hi]
     by_cases c1:i+1<=j
     .rw[abb (by simp;omega),aa9 (by omega),aa9 (by omega),acz,show i+(j-(i+1))=j-1 by omega,Bi (by omega)]
     .rw[aa9 (by omega)]
      show ((w.alloc (.cells row (eU.t 3))).drew.setCells w.heap.size i [.int .i64 t]).cell? _=_
      rw[lK (λq O=>by simp at O;exact bd _ (by omega))]
      by_cases c2:j=i
      .subst c2
       rw[abb (by simp),aa9 (by omega),abb rfl]
       simp
      .rw[aa9 (by simp;omega),abb (by omega)]
       refine(b9 j).trans ?_
       rw[<-s,Array.append_assoc,ab4 (by simp;omega),abU,acn,abb (by omega),Bi (by omega)]) (.inr ⟨n,rfl,live⟩)
    obtain⟨A,μ',f1,f2,f3,f4⟩:=fin k (y:=.slice (some ⟨w.heap.size,0,none⟩) (l.length+1) G) (by
     have:=aD.sl (Z:=Z) (μ:=μ.set h.length (w.heap.size,0,1)) (hp:=((((w.alloc (.cells row (eU.t 3))).drew.setCells w.heap.size i [.int .i64 t]).drew).setCells w.heap.size (i+1) ((l.map (Value.int .i64)).drop i)).heap) h.length 0 (l.length+1) 1 w.heap.size 0 G c' _ (0,0) (by simp[Mu.set]) (by omega) Q (by omega)
     simpa using this)
    exact⟨_,A,μ',rfl,f1,f2,f3,f4⟩
open Go Go.Lib Go.Proofs Go.Shelf Go.RowKit Go.Sort
set_option maxRecDepth 1000000 in
theorem M4 {P:Program} {ρ:Ren} (L:Lays2.n23 P ρ) (blk off cap i j:Nat) (d:Array Int) (w:World) (hH:Holds (Value.int .i64) w blk off d) (hcap:d.size<=cap) (hm:d.size<=9223372036854775807) (hij:i<=j) (hj:j<=d.size):
  Calls P (ρ.f 23) #[.slice (some ⟨blk,off,none⟩) d.size cap,.int .i64 i,.int .i64 j] w λe w'=>e=.returned (.slice (some ⟨blk,off,none⟩) (d.size-(j-i)) cap)/\∃q,w'=putRow (Value.int .i64) (Sort.ahead w q) blk off (d.toList.take i++d.toList.drop j++List.replicate (j-i) 0).toArray:=by
 have mixed:=L.mixed;have t0:=L.t0;have a0:=L.a0;have z0:=L.z0;have v0:=L.v0;have t3:=L.t3;have a3:=L.a3;have z3:=L.z3;have v3:=L.v3;have t4:=L.t4;have a4:=L.a4;have z4:=L.z4;have v4:=L.v4;have t22:=L.t22;have a22:=L.a22;have z22:=L.z22;have v22:=L.v22
 obtain⟨i0,hi0,hz0,hz1,hz2⟩:=info_parts L.i3
 by_cases heq:i=j
 .subst heq
  have h0:Calls P (ρ.f 23) #[.slice (some ⟨blk,off,none⟩) d.size cap,.int .i64 i,.int .i64 i] w λe w'=>e=.returned (.slice (some ⟨blk,off,none⟩) d.size cap)/\w'=w:=by
   go_enter L.f23,Body2.n23_ntmps ρ
   go_wp2
   all_goals (go_ret;exact⟨rfl,rfl⟩)
  refine h0.mono ?_
  rintro e w' ⟨rfl,rfl⟩
  have e:(d.toList.take i++d.toList.drop i++List.replicate (i-i) 0).toArray=d:=by simp
  refine⟨by rw[Nat.sub_self,Nat.sub_zero],0,?_⟩
  rw[e]
  exact(putRow_self (Value.int .i64) (Sort.ahead w' 0) blk off d hH).symm
 .have hlt:i<j:=by omega
  obtain⟨news,hnews⟩:∃news,news=(d.toList.drop j).map (Value.int .i64):=⟨_,rfl⟩
  have hlen:news.length=d.size-j:=by rw[hnews];simp
  have hget:∀t,t<d.size-j->news[t]?=some ((Value.int .i64) d[j+t]!):=by
   intro t ht
   rw[hnews,aba,acz,ac5,getElem!_pos d (j+t) (by omega),abu (by omega)]
   rfl
  obtain⟨A,hA,hsrc⟩:∃A:Addr,(if cap=j then some (⟨blk,off,none⟩:Addr) else some ⟨blk,off+j,none⟩)=some A/\Hid (∀t u,news[t]?=some u->w.drew.cell? (A.add t)=some u):=by
   by_cases h:cap=j
   .refine⟨⟨blk,off,none⟩,by simp[h],λt u hu=>?_⟩
    have h0:news.length=0:=by rw[hlen];omega
    rw[acx.1 h0] at hu
    simp at hu
   .refine⟨⟨blk,off+j,none⟩,by simp[h],λt u hu=>?_⟩
    have ht:t<d.size-j:=by
     have:=(abf.1 hu).1
     rwa [hlen] at this
    rw[hget t ht] at hu
    rw[Addr.add_lit,show off+j+t=off+(j+t) by omega]
    exact(hH (j+t) (by omega)).1.trans hu
  have s1:Hid (news.length=(d.size-j)*1):=by rw[adr];exact hlen
  have s2:Hid (∀u∈news,u.oneCell'=true):=by
   intro u hu
   rw[hnews] at hu
   obtain⟨x,_,rfl⟩:=abt.1 hu
   rfl
  have s3:Hid (∀t,t<news.length->(w.drew.cell? ⟨blk,off+i*1+t,none⟩).isSome=true/\w.drew.frozen? ⟨blk,off+i*1+t,none⟩=false):=by
   intro t ht
   rw[adr,abP]
   exact⟨by show (w.cell? _).isSome=true;rw[(hH (i+t) (by omega)).1];rfl,(hH (i+t) (by omega)).2⟩
  obtain⟨W1,hW1⟩:∃W1,W1=w.drew.setCells blk (off+i*1) news:=⟨_,rfl⟩
  have hW1':W1=putRow (Value.int .i64) (Sort.ahead w 1) blk off (lay d i (d.toList.drop j)):=by
   rw[hW1,hnews,adr,<-putRow_setCells (Value.int .i64) (Sort.ahead w 1) blk off _ d i (by simp;omega),putRow_self (Value.int .i64) (Sort.ahead w 1) blk off d (holds_ahead (Value.int .i64) w 1 blk off d hH)]
   rfl
  have hH1:Holds (Value.int .i64) W1 blk off (lay d i (d.toList.drop j)):=by rw[hW1'];exact holds_putRow (Value.int .i64) _ blk off d _ (holds_ahead (Value.int .i64) w 1 blk off d hH) (lay_size _ _ _)
  have hcl:∀ty,(Builtin.clear_ #[ρ.t 22] ty #[.slice (some ⟨blk,off+(i+(d.size-j)),none⟩) (d.size-(i+(d.size-j))) (cap-(i+(d.size-j)))]).run P W1=.ok (.tuple #[]) (W1.setCells blk (off+(i+(d.size-j))) (List.replicate (d.size-(i+(d.size-j))) ((Value.int .i64) 0))):=
   λty=>Lib.run_clear_slice W1 _ _ ty _ t22 v3 rfl rfl blk (off+(i+(d.size-j))) _ _ (by omega) (λt ht=>by rw[show off+(i+(d.size-j))+t=off+(i+(d.size-j)+t) by omega,(hH1 _ (by rw[lay_size];omega)).1];rfl) (λt ht=>by rw[show off+(i+(d.size-j))+t=off+(i+(d.size-j)+t) by omega];exact(hH1 _ (by rw[lay_size];omega)).2)
  have X:Aside (W1=putRow (Value.int .i64) (Sort.ahead w 1) blk off (lay d i (d.toList.drop j))):=hW1'
  have hW:Hid (W1=w.drew.setCells blk (off+i*1) news):=hW1
  have hic:i<=cap:=by omega
  clear hW1 hW1' hH1 hH hget hnews hlen
  go_enter L.f23,Body2.n23_ntmps ρ
  go_wp2_with fail
  go_region_law_o (refine step_append_room rfl (.tmp 22) (.tmp 25) (ρ.t 22) rfl (ρ.t 3) i0 1 t22 hi0 hz1 blk off i cap (by simp[Act.eval,Act.put]) A (d.size-j) (cap-j) news (by simp[Act.eval,Act.put]) s1.out hsrc.out s2.out (by omega) s3.out ?_;rw[<-hW.out])
  go_wp2
  go_ret
  refine⟨by rw[show d.size-(j-i)=i+(d.size-j) by omega];rfl,1,?_⟩
  rw[<-delete_arr d i j 0 hij hj,<-putRow_setCells (Value.int .i64) _ blk off _ _ (i+(d.size-j)) (by rw[lay_size];simp;omega),<-X.out,List.map_replicate,show d.size-(i+(d.size-j))=j-i by omega]
open Go Go.Lib Go.Proofs Go.Shelf Go.RowKit Go.Sort
theorem D8 {l:List Int} {p:Nat} (hp:p<l.length):(dE l p 1 []).length=l.length-1:=by
 unfold dE;simp;omega
theorem P7:Pz:=by
 intro H u l p O hp W
 refine⟨by kernel_rfl,?_⟩
 rintro h rfl
 obtain⟨n,rfl,z⟩:=O.sl (by simp;omega)
 simp only[abc] at *
 have i:n<h.length:=fj (by rw[z];simp)
 refine⟨.sl n 0 (l.length-1) 1,h.set n (.arr 1 (aO (dE l p 1 []))),⟨by simp,λZ μ F w xs v hr A=>?_⟩,λk hk s=>?_,?_,?_⟩
 rotate_left
 .rw[gH i]
  simp only[View.set]
  rw[aa9 (λe=>by rw[e,z] at s;simp at s)];exact s
 .exact .inr ⟨n,by rw[abc,D8 hp],by rw[gH i];simp[View.set]⟩
 .intro id P hu
  have M:id≠n:=λe=>hu (by rw[e];rfl)
  rw[gH i]
  exact⟨by simp only[View.set];rw[aa9 M],λe=>M (by simp[owner] at e;exact e.symm)⟩
 obtain⟨hlen,B⟩:=v
 obtain⟨C,D,E,rfl⟩:∃C D E,xs=[C,D,E]:=by
  match xs,hlen with
  | [a,b,c],_=>exact⟨a,b,c,rfl⟩
 have Q:aD Z μ w.heap (.sl n 0 l.length 1) C:=B 0 (by simp)
 have h1:aD Z μ w.heap (gi p) D:=B 1 (by simp)
 have R:aD Z μ w.heap (gi ((p:Int)+1)) E:=B 2 (by simp)
 obtain rfl:=fi h1
 obtain rfl:=fi R
 rcases yu Q with ⟨e,_⟩ | ⟨b,o0,cap,c0,X,f0,rfl,r,x,m,S⟩
 .omega
 have G:cat h F n=.arr 1 (aO l):=by simp only[cat];rw[abb i,z]
 obtain⟨c,e,f,I,N,Y,J⟩:=HT hr G r
 rw[m] at I
 simp only[abd,Obj.cells.injEq] at I
 obtain⟨rfl,rfl,rfl⟩:=I
 have hH:Holds (Value.int .i64) w b o0 l.toArray:=λj t=>by
  have t:j<l.length:=by simpa using t
  refine⟨?_,U3 m N (by omega)⟩
  rw[J j t]
  simp[t]
 have g:=M4 aab b o0 cap p (p+1) l.toArray w hH (by simpa using x) (by simp;omega) (by omega) (by simp;omega)
 rw[show ((p+1:Nat):Int)=(p:Int)+1 by omega] at g
 simp only[acw,Nat.zero_mul,acI] at g ⊢
 refine Calls.mono (show Calls aa 144 _ w _ from g) ?_
 rintro e w' ⟨rfl,q,rfl⟩
 generalize s:(l.take p++l.drop (p+1)++List.replicate (p+1-p) 0).toArray=d
 have K:d.size=l.length:=by rw[<-s];simp;omega
 have y:fo w (putRow (Value.int .i64) (Sort.ahead w q) b o0 d) b:=(fo.ahead w b q).trans (fo.map _ _ _ (λc=>by simp[putCells]))
 have o:Holds (Value.int .i64) (putRow (Value.int .i64) (Sort.ahead w q) b o0 d) b o0 d:=holds_putRow _ _ b o0 l.toArray d (holds_ahead _ w q b o0 _ hH) (by simp[K])
 obtain⟨T,k2⟩:=YU (l':=dE l p 1 []) hr z r y m N (by rw[D8 hp];omega) (λj t=>by
  rw[D8 hp] at t
  rw[(o j (by omega)).1,<-s]
  unfold dE
  congr 2
  rw[getElem!_pos _ j (by simp;omega)]
  simp only[List.getElem_toArray,ab3,aa7]
  rw[List.getElem_append_left (by simp;omega),aa8 (by simp;omega),abp])
 obtain⟨U,L,V⟩:=y.cell _ _ _ m
 refine⟨_,Z,μ,rfl,?_,T,k2,λ_ _=>rfl⟩
 have:=aD.sl (Z:=Z) (μ:=μ) (hp:=(putRow (Value.int .i64) (Sort.ahead w q) b o0 d).heap) n 0 (l.length-1) 1 b o0 cap U _ _ r (by omega) L (by omega)
 simpa using this
theorem lJ {g:ak} (a:g.Small):g.ax.length<=1000:=by have:=a.names;omega
theorem B5 (g:ak) (d:g.Ok) (a:g.Small) (m:Int):aC aa 41 [.agg (aj g),gi m] (sJ (fZ g m)):=
 Wf GF P7 g d a m (λb c=>by
  obtain⟨h1,e,f,h⟩:=Ho (lJ a) c
  exact⟨by omega,e,f,h⟩) (by have:=(qG g).1;omega) (lJ a) λhm b c x i j=>Vt hm c i j
theorem Cp (g:ak) (a:g.Ok) (b:g.Small) (w:List Int) (hw:aG w) (c:∀x∈w,bm x) (p t m:Int) (d:bm t):
 bX aa 38 [.agg (aj g),encI w,gi p,gi t,gi m] (Hl (qW g w p t m)):=WH GF g a b w hw c p t m d
noncomputable def XC:List (FuncId × DF):=C3 aa [(36,[]),(26,[])]
theorem PA:sG aa XC:=vO _ _
noncomputable def W9:List Hg:=[(44,[EN Sj],vr dr,false),(44,[EN Xh],vr kD,false),
 (38,[.agg (aj dr),encI [0,1],gi 1,gi 0,gi 5],Hl (([0,0],true),0),false),(38,[.agg (aj kD),encI [0],gi 0,gi 0,gi 5],Hl (([],false),0),false),(38,[.agg (aj dr),encI [0],gi 2,gi 0,gi 5],Hl (([],false),1),false),
 (41,[.agg (aj dr),gi 9],sJ (GC,0),true),(41,[.agg (aj vR),gi 9],sJ ([],1),true)]
theorem U2:∀x∈W9,x.Ok aa:=by
 intro x a
 simp only[W9,abw,List.not_mem_nil,or_false] at a
 rcases a with rfl | rfl | rfl | rfl | rfl | rfl | rfl
 .exact⟨by kernel_rfl,.inl YD⟩
 .exact⟨by kernel_rfl,.inl Zv⟩
 .exact⟨by kernel_rfl,.inl (YP▸Cp dr Bl vB [0,1] (by unfold aG;decide) (by unfold bm;decide) 1 0 5 (by unfold bm;decide))⟩
 .exact⟨by kernel_rfl,.inl (ZL▸Cp kD Jo.1 Jo.2 [0] (by unfold aG;decide) (by unfold bm;decide) 0 0 5 (by unfold bm;decide))⟩
 .exact⟨by kernel_rfl,.inl (Yr▸Cp dr Bl vB [0] (by unfold aG;decide) (by unfold bm;decide) 2 0 5 (by unfold bm;decide))⟩
 .exact⟨by kernel_rfl,TQ▸B5 dr Bl vB 9⟩
 .exact⟨by kernel_rfl,ZF▸B5 vR YK ⟨by decide⟩ 9⟩
theorem P5:aC aa 36 [] (gb true):=
 (qT mixed PA (Le U2) (by simp) (by kernel_rfl)).pure
def lW:SF:=⟨ai [ag [bZ 2 0,bb 4 false],ai [ag [aU 9 36 [],cO 10 9],aX 10 (ai [ag [bb 4 false],.ret])],ai [.region false [⟨none,[aV 11 4 2,aU 12 14 [11],af 13 12]⟩,⟨(some (13,false)),[aV 14 4 2,aU 15 40 [14]]⟩,⟨none,[cJ 16 13 15]⟩],aX 16 (ai [ag [bb 4 true],.ret])],ag [aV 18 4 2,af 19 1,aU 20 41 [18,19],af 17 20,c7 21 0 17,c7 22 1 17,af 5 21,af 6 22],ag [aV 24 4 2,af 25 1,aU 26 42 [24,25],af 23 26,c7 27 0 23,c7 28 1 23,af 7 27,af 8 28],.region false [⟨none,[af 29 5,af 30 7,aU 31 43 [29,30],af 32 31]⟩,⟨(some (32,true)),[af 33 6,af 34 8,aS 35 .eql 33 34]⟩,⟨none,[dA 36 32 35,af 4 36]⟩],.ret],
 [.tmp 4],37⟩
theorem sm:aJ aa 10 [2]=some lW:=by kernel_rfl
theorem Q9 (g:ak) (c:g.Ok) (a:g.Small) (m:Int):aC aa 42 [.agg (aj g),gi m] (sJ (fZ g m)):=
 Sx g c m (λb d=>by
  obtain⟨h1,e,f,j⟩:=Ho (lJ a) d
  exact⟨by omega,e,f⟩) (λi b h=>(wQ h).1.state) (by have:=(qG g).1;omega) (lJ a)
theorem M0 (g:ak) (c:g.Ok) (a:g.Small):aC aa 40 [.agg (aj g)] (gb (KX g)):=
 QC g c (by have:=(qG g).1;omega) (lJ a) λb d=>by have:=(Ho (lJ a) d).1;unfold aG;omega
theorem Ti {g:ak} {m:Int} : (fZ g m).1.length<=2000/\(∀c∈(fZ g m).1,c.2.length<=61/\fQ g c.2 m=true/\(∀x∈c.2,0<=x/\x<g.ax.length)/\bu g=true/\m<=60)/\(fZ g m).1.Pairwise (λa b=>a.1<=b.1)/\((fZ g m).2≠0->(fZ g m).1=[]):=by
 unfold fZ
 split
 .rename_i h1
  split
  .simp
  .rename_i k
   have k:(cB g).2=0:=acU.1 k
   split
   .simp
   .rename_i t
    refine⟨by simp only;omega,λc e=>?_,?_,λh=>absurd rfl h⟩
    .obtain⟨b,p,e⟩:=ac2.1 e
     obtain⟨i,_,o⟩:=B4 p
     unfold dt at e
     obtain⟨x,d,rfl⟩:=abt.1 e
     have l:=VJ d
     have k2:=Qu o.ax d
     have q:=(Gn o.right k2 h1.2.2).1 l
     exact⟨by have:=q.1;have:=h1.2.2;simp only;omega,l,k2,o.right,h1.2.2⟩
    .have hp:(cB g).1.Pairwise λa b=>a.state<=b.state:=by
      rw[List.pairwise_iff_getElem]
      intro i j hi r s
      rw[(wQ (aa8 hi)).1.state,(wQ (aa8 r)).1.state]
      omega
     rw[List.pairwise_flatMap]
     refine⟨λb _=>?_,hp.imp λ{a b} f x d y n=>?_⟩
     .unfold dt
      rw[adq]
      exact List.pairwise_of_forall λ_ _=>Int.le_refl _
     .unfold dt at d n
      obtain⟨_,_,rfl⟩:=abt.1 d
      obtain⟨_,_,rfl⟩:=abt.1 n
      exact f
 .simp
theorem Hr (g:ak) (a:g.Ok) (m:Int) (_:bm m):aC aa 10 [.agg (aj g),gi m] (gb true):=by
 refine aC.val (VN g m) λH=>?_
 refine az.of mixed sm ?_
 simp(disch:=omega)only[↓wr,seval,wq,lW,aj,encS]
 refine ay.pure P5 ?_
 simp(disch:=omega)only[↓wr,seval,wq]
 refine ay.pure (Vc g) ?_
 simp(disch:=omega)only[↓wr,seval,wq]
 apply ao.split<;>intro e
 .simp(disch:=omega)only[↓wr,seval,wq]
 have b:=Nh e
 have f:=M0 g a b
 have h1:=B5 g a b m
 have h:=Q9 g a b m
 obtain⟨k,k2,_,_⟩:=Ti (g:=g) (m:=m)
 have i:=SQ (fZ g m).1 (fZ g m).1 (by unfold aG;omega) (by unfold aG;omega) (λc d=>by have:=(k2 c d).1;unfold aG;omega) (λc d=>by have:=(k2 c d).1;unfold aG;omega)
 rw[abJ rfl] at i
 generalize fZ g m=y at *
 simp only[aj,encS] at f h1 h
 simp(disch:=omega)only[↓wr,seval,wq]
 refine ay.pure f ?_
 simp(disch:=omega)only[↓wr,seval,wq]
 apply ao.split<;>intro j
 .simp(disch:=omega)only[↓wr,seval,wq]
 simp(disch:=omega)only[↓wr,seval,wq]
 refine ay.pure h1 ?_
 simp(disch:=omega)only[↓wr,seval,wq,sJ]
 refine ay.pure h ?_
 simp(disch:=omega)only[↓wr,seval,wq,sJ]
 refine ay.pure i ?_
 simp(disch:=omega)only[↓wr,seval,wq]
 simp
end Gv
