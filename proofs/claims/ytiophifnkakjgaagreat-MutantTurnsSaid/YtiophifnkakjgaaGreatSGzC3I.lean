/-
  Part 9 of the proof: what the machine does and what the functions answer.
  Conditions: those that each lemma names.
-/
import Derived.ProofKit
import Derived.SizedLaws
import Derived.Test.YtiophifnkakjgaaGreatSGzC3H
set_option linter.unusedSimpArgs false
set_option linter.unusedVariables false
set_option maxRecDepth 100000
set_option maxHeartbeats 20000000
namespace Gv
open Go Go.Proofs
abbrev aM (l:List Int):List (List V):=l.map λx=>[gi x]
abbrev tl (l:List ByteArray):List (List V):=l.map λs=>[gs s]
theorem Io {l:List Int} {i:Nat} (h:i < l.length):(aM l).getD i []=[gi l[i]]:=by simp[Wo,h]
theorem ints_set (l:List Int) (i:Nat) (x:Int):(aM l).set i [gi x]=aM (l.set i x):=by simp[Yr]
abbrev CD:=List (V × aW)
def kY (b:CD):List (List V):=b.map λx=>[gi x.2.left,x.1,gi x.2.prec]
def uF (b:CD):List ed:=b.map λx=>(x.1,1,aM x.2.right)
theorem PL {h:Heap} {u:V} {b:CD} (c:aH h.view u 3 (kY b)) (f:∀ x∈uF b,aH h.view x.1 x.2.1 x.2.2):du h u (.aL ((b.map (·.2)).map aU)):=by
 refine du.own c (by simp[kY]) (λi hi=>?_) (λi j hi a=>?_)
 all_goals
  simp only[kY,WG] at hi
  have e:(kY b).getD i []=[gi b[i].2.left,b[i].1,gi b[i].2.prec]:=by simp[kY,Wo,hi]
  have d:((b.map (·.2)).map aU).getD i []=aU b[i].2:=by simp[Wo,hi]
 .rw[e,d];rfl
 .rw[e,d]
  rw[d] at a
  have hm:b[i]∈b:=WA _
  have c:=f (b[i].1,1,aM b[i].2.right) (WQ.2 ⟨_,hm,rfl⟩)
  match j,a with
  | 0,_=>exact .val _
  | 1,_=>exact mN c
  | 2,_=>exact .val _
  | n+3,a=>exact absurd a (by simp only[aU,WD,WW];omega)
theorem RA {h:Heap} {u:V} {l:List ByteArray} (a:aH h.view u 1 (tl l)):du h u (encS l):=du.DJ (f:=Value.string) a
theorem NF {h:Heap} {u:V} {l:List Term} (b:aH h.view u 3 (l.map dp)):du h u (eH l):=by
 refine du.own b rfl (λ_ _=>rfl) (λi j hi a=>?_)
 simp only[WG] at hi
 have c:(l.map dp).getD i []=dp l[i]:=by simp[Wo,hi]
 rw[c] at a ⊢
 match j,a with
 | 0,_=>exact .val _
 | 1,_=>exact .val _
 | 2,_=>exact .val _
 | n+3,a=>exact absurd a (by simp only[dp,WD,WW];omega)
def DP (x:ag × List Int × Int):V:=.aO [.agg (ak x.1),encI x.2.1,gi x.2.2]
theorem GO {h:Heap} {e:Int} {b k2 c d:Nat} : du h (.aO [.agg [.emp b,.emp k2,.emp c,gi 0],.emp d,gi e]) (DP (tg,[],e)):=by
 refine .aO _ _ rfl λi hi=>?_
 match i,hi with
 | 0,_ =>
  refine .agg _ _ rfl λj a=>?_
  match j,a with
  | 0,_=>exact .emp _
  | 1,_=>exact .emp _
  | 2,_=>exact .emp _
  | 3,_=>exact .val _
  | n+4,a=>exact absurd a (by simp only[WD,WW];omega)
 | 1,_=>exact .emp _
 | 2,_=>exact .val _
 | n+3,hi=>exact absurd hi (by simp only[WD,WW];omega)
theorem S9 {h:Heap} {c d e f:V} {x:ag × List Int × Int} {b:CD} (g:aH h.view c 3 (x.1.an.map dp)) (h1:aH h.view d 1 (tl x.1.ax)) (k:aH h.view e 3 (kY b)) (l:∀ y∈uF b,aH h.view y.1 y.2.1 y.2.2)
  (hr:b.map (·.2)=x.1.rules) (m:aH h.view f 1 (aM x.2.1)):du h (.aO [.agg [c,d,e,gi x.1.start],f,gi x.2.2]) (DP x):=by
 refine .aO _ _ rfl λi hi=>?_
 match i,hi with
 | 0,_ =>
  refine .agg _ _ rfl λj a=>?_
  match j,a with
  | 0,_=>exact NF g
  | 1,_=>exact RA h1
  | 2,_=>have:=PL k l;rw[hr] at this;exact this
  | 3,_=>exact .val _
  | n+4,a=>exact absurd a (by simp only[WD,WW];omega)
 | 1,_=>exact mN m
 | 2,_=>exact .val _
 | n+3,hi=>exact absurd hi (by simp only[WD,WW];omega)
theorem Jd {g:ag} (e:nV g=false):g.Small:=by
 simp only[nV,Bool.or_eq_false_iff,XC] at e
 exact⟨by omega⟩
theorem Rr (g:ag):az Tryz.prog 14 [.agg (ak g)] (gb (nV g)):=az.val (eR g) λH=>(QC g H).mono λ_ _ h=>h.1
theorem yE {a b:V} (c:Tree a) (d:Tree b):Tree (.aO [a,b]):=.aO _ λi hi=>by
 match i,hi with
 | 0,_=>exact c
 | 1,_=>exact d
 | n+2,h=>exact absurd h (by simp)
theorem G7 {h:Heap} {a b c d:V} (e:du h a c) (f:du h b d):du h (.aO [a,b]) (.aO [c,d]):=.aO _ _ rfl λi hi=>by
 match i,hi with
 | 0,_=>exact e
 | 1,_=>exact f
 | n+2,h=>exact absurd h (by simp)
theorem LJ {H:View} {id n:Nat} {l:List Int} (a:H id=.arr 1 (aM l)) (b:n=l.length):cg H (.sl id 0 n 1) (encI l):=by
 subst b
 exact cg.own (sz:=1) (.inr ⟨id,by simp,a⟩) λe he v a=>by
  obtain⟨x,_,rfl⟩:=WQ.1 he
  simp at a;subst a;exact .val _
theorem wC {l:List Int} {k:Nat} (h:k<=l.length):cY 1 (.aL (l.map λx=>[gi x])) none (some (gi k))=some (.aL ((l.take k).map λx=>[gi x]),.none,[]):=by
 simp[cY,bound,asNat,h,Yg,List.map_take]
theorem vw {l:List Int} {k:Nat} (h:k<=l.length):cY 1 (.aL (l.map λx=>[gi x])) (some (gi k)) none=some (.aL ((l.drop k).map λx=>[gi x]),.none,[]):=by
 simp[cY,bound,asNat,h,Yg,List.map_drop]
 rw[WT (by simp)]
theorem dE {P:Program} {t:TypeId} {d:TypeDesc} (hu:P.underlying t=some d) (a:d=.string∨∃ k,d=.int k) (cs:Array Value) (off:Nat) {v:Value} (b:cs[off]?=some v):aP P (part t cs off)=some v:=by
 have c:aP P (isAgg t)=some false:=by
  rcases a with rfl | ⟨k,rfl⟩
  all_goals simp only[isAgg,aI,cU hu,WV];rfl
 simp only[part,aI,c,WV,WR,if_false,b]
 rfl
inductive gp (P:Program) (d:Nat) (xs ys:Array Value):List Field->Bool->Prop
 | nil:gp P d xs ys [] true
 | str (f:Field) (l:List Field) (c:Bool) (a b:ByteArray):(f.name≠ "_")->P.underlying f.type=some .string->xs[f.offset]?=some (.string a)->ys[f.offset]?=some (.string b)->gp P d xs ys l c->gp P d xs ys (f :: l) (a == b && c)
 | int (f:Field) (l:List Field) (c:Bool) (k:IntKind) (a b:Int):(f.name≠ "_")->P.underlying f.type=some (.int k)->xs[f.offset]?=some (.int k a)->ys[f.offset]?=some (.int k b)->gp P d xs ys l c->gp P d xs ys (f :: l) (a == b && c)
theorem gp.forIn {P:Program} {d e:Nat} {xs ys:Array Value} {l:List Field} {c:Bool} (h:gp P d xs ys l c) (n:e=d+1) :
  aP P (forIn l ((none:Option Bool),()) λf _ =>
    if f.name≠ "_" then do
     let a <-part f.type xs f.offset
     let b <-part f.type ys f.offset
     let e <-Op.equalIn e f.type a b
     if (!e)=true then pure (ForInStep.done (some false,())) else pure (ForInStep.yield (none,()))
    else pure (ForInStep.yield (none,())))=some (if c=true then (none,()) else (some false,())):=by
 subst n
 induction h with
 | nil=>rfl
 | str f l c a b g hu i j _ m =>
  have he:aP P (Op.equalIn (d+1) f.type (.string a) (.string b))=some (a == b):=by
   simp only[Op.equalIn,aI,cU hu,WV];rfl
  rw[List.forIn_cons,aI,Wv g,aI,dE hu (.inl rfl) xs _ i,WV,aI,dE hu (.inl rfl) ys _ j,WV,aI,he,WV]
  cases a == b with
  | false=>rfl
  | true=>exact m
 | int f l c k a b g hu i j _ m =>
  have he:aP P (Op.equalIn (d+1) f.type (.int k a) (.int k b))=some (a == b):=by
   simp only[Op.equalIn,aI,cU hu,WV];rfl
  rw[List.forIn_cons,aI,Wv g,aI,dE hu (.inr ⟨k,rfl⟩) xs _ i,WV,aI,dE hu (.inr ⟨k,rfl⟩) ys _ j,WV,aI,he,WV]
  cases a == b with
  | false=>rfl
  | true=>exact m
theorem rU {P:Program} {t:TypeId} {b:Array Field} {xs ys:Array Value} {c:Bool} (hu:P.underlying t=some (.struct b)) (d:P.stoodInHeld t=false) (h:gp P 9998 xs ys b.toList c) :
  aP P (Op.equal t (.agg xs) (.agg ys))=some c:=by
 rw[j9]
 rw[Op.equalIn,aI,cU hu,WV]
 have a:(aP P program)=some P:=rfl
 rw[aI,a,WV,d]
 simp only[<-Array.forIn_toList,WR,if_false]
 rw[aI,h.forIn (e:=9999) rfl,WV]
 cases c <;> rfl
theorem DR {P:Program} {o:Oper} {T:Env} {op:BinOp} {t u:TypeId} {x y:Operand} {f:Array Field} {xs ys:Array Value} {c r:Bool} (b:o.op=.binOp op t x y u) (hu:P.underlying t=some (.struct f)) (i:P.stoodInHeld t=false) (g:P.eqGuardType P.depth t=false)
  (d:cO (ev T x)=some (.agg xs)) (e:cO (ev T y)=some (.agg ys)) (h:gp P 9998 xs ys f.toList c) (hr:(op=.eql/\r=c)∨(op=.neq/\r = !c)) :
  dI P o T=some (.val (.bool r),.none,[]):=by
 have he:=rU hu i h
 have a:(aP P program)=some P:=rfl
 unfold dI
 simp only[b,Op.operands,d,e]
 rcases hr with ⟨rfl,rfl⟩ | ⟨rfl,rfl⟩
 .simp[execOp,b,d,e,eqGuard,binOp,jj,aI,a,g,he,plain]
  try simp[aP,pure,plain]
 .simp[execOp,b,d,e,eqGuard,binOp,jj,aI,a,g,he,plain]
  try simp[aP,pure,plain,bne]
theorem tZ {P:Program} {T:Env} {H:View} {K:V->View->Prop} {w:ct (T,H,K)} {op:BinOp} {t u ty:TypeId} {x y:Operand} {a:Array Field} {xs ys:Array Value} {c r:Bool} (hu:P.underlying t=some (.struct a)) (b:P.stoodInHeld t=false) (d:P.eqGuardType P.depth t=false)
  (e:cO (ev T x)=some (.agg xs)) (f:cO (ev T y)=some (.agg ys)) (h:gp P 9998 xs ys a.toList c) (hr:(op=.eql/\r=c)∨(op=.neq/\r = !c)) (hk:K (.val (.bool r)) H):iZ P (.binOp op t x y u) ty T H K w:=by
 intro n _
 refine⟨.val (.bool r),.none,[],?_,hk⟩
 have g:jK P t=none:=by simp[jK,hu]
 simp only[sI,bR,oper,g]
 simp only[Option.isSome_none,WR,if_false]
 exact DR rfl hu b d e f h hr
def y5 (hp:Array Obj) (cs:List Value) (vs:List V):Prop :=
 vs.length=cs.length/\∀ μ i,i < vs.length->aw (λb=>b < hp.size) μ hp (vs.getD i .any) (cs.getD i undef)
def Wt {H:Type} (P:Program) (t:TypeId) (d:DataW H):Prop:=∀ n∈d.weights P t,n<=reachBytes
def xk (P:Program) (t:TypeId) {α:Type} (f:α->List V) (ok:α->Prop):Prop :=
 ∀ {H:Type} (enc:TypeId × Value->H) (w:World) (base:Nat) (sp:Nat->Bool) (held:Bool) (fuel:Nat) (cs:List Value) (x:DataW H × List MemPlace),
  DataW.trod enc P w base sp held fuel t cs=some x->Wt P t x.1->∃ a,ok a/\y5 w.heap cs (f a)
theorem vF {hp:Array Obj} {c:Value} {v:V} (h:∀ μ,aw (λb=>b < hp.size) μ hp v c):y5 hp [c] [v]:=by
 refine⟨rfl,λμ i hi=>?_⟩
 match i,hi with
 | 0,_=>exact h μ
theorem TV {P:Program} {t:TypeId} {k:IntKind} (a:P.underlying t=some (.int k)):xk P t (λn=>[.val (.int k n)]) (λn=>(Lit.int k n).wf=true):=by
 intro H enc w base sp held fuel cs x h _
 obtain⟨n,rfl,_,hw⟩:=DataW.trod_int a h
 exact⟨n,hw,vF λμ=>.val _ rfl⟩
theorem ED {P:Program} {t:TypeId} (a:P.underlying t=some .string):xk P t (λs=>[.val (.string s)]) (λ_=>True):=by
 intro H enc w base sp held fuel cs x h _
 obtain⟨s,rfl,_,_⟩:=DataW.trod_string a h
 exact⟨s,trivial,vF λμ=>.val _ rfl⟩
theorem Ig {w:World} {base:Nat} {a:Addr} {n:Nat} {cs:List Value} (h:w.cells? base a n=some cs):cs.length=n/\∀ i,i < n->w.cell? (a.add i)=some (cs.getD i undef):=by
 obtain⟨_,b,c⟩:=World.cells?_some h
 refine⟨b,λi hi=>?_⟩
 rw[c i hi,Wo,Wp (by omega)]
 rfl
theorem Ni {w:World} {a:Addr} {v:Value} (h:w.cell? a=some v):a.spot=none/\a.block < w.heap.size:=by
 unfold World.cell? at h
 split at h
 .rename_i c _ _ b
  split at h
  .simp at h
  .rename_i d
   exact⟨by simpa using d,(Array.getElem?_eq_some_iff.1 b).1⟩
 .simp at h
theorem Qf {H:Type} {P:Program} {e:TypeId} : ∀ {l:List (DataW H)},(∀ n∈DataW.weightsAll P e l,n<=reachBytes)->∀ d∈l,Wt P e d
 | [],_,d,a=>by simp at a
 | x :: l,h,d,a=>by
  simp only[DataW.weightsAll,WN] at h
  rcases WK.1 a with rfl | a
  .exact λn b=>h n (.inl b)
  .exact Qf (λn b=>h n (.inr b)) d a
theorem RS {H:Type} {P:Program} {t e:TypeId} {elems spare:List (DataW H)} (a:P.underlying t=some (.slice e)) (h:Wt P t (.slice elems spare)) :
  (elems.length+spare.length) * P.bytesOf e<=reachBytes/\∀ d∈elems,Wt P e d:=by
 unfold Wt at h
 unfold DataW.weights at h
 rw[a] at h
 simp only[WK,WN] at h
 exact⟨h _ (.inl rfl),Qf λn b=>h n (.inr (.inl b))⟩
theorem OX {H:Type} {P:Program} {t:TypeId} {a:Array Field} {parts:List (DataW H)} (b:P.underlying t=some (.struct a)) (h:Wt P t (.agg parts)) {j:Nat} {f:Field} {d:DataW H} (c:a[j]?=some f) (e:parts[j]?=some d):Wt P f.type d:=by
 intro n g
 refine h n ?_
 unfold DataW.weights
 rw[b]
 exact DataW.weights_mem_each (j:=j) (t:=f.type) (by simp[c]) e n g
theorem KS {α:Type} {c:Nat->α->Prop} : ∀ (n:Nat),(∀ i,i < n->∃ a,c i a)->∃ l:List α,l.length=n/\∀ i (hi:i < l.length),c i l[i]
 | 0,_=>⟨[],rfl,λi hi=>by simp at hi⟩
 | n+1,h=>by
  obtain⟨l,d,b⟩:=KS n λi hi=>h i (by omega)
  obtain⟨a,f⟩:=h n (by omega)
  refine⟨l ++ [a],by simp[d],λi hi=>?_⟩
  by_cases e:i < l.length
  .rw[List.getElem_append_left e];exact b i e
  .have:i=n:=by simp at hi;omega
   subst this
   rw[List.getElem_append_right (by omega)]
   simp only[d,Nat.sub_self,List.getElem_cons_zero];exact f
theorem vz {P:Program} {t e:TypeId} {α:Type} {f:α->List V} {ok:α->Prop} (J:P.underlying t=some (.slice e)) (M:0 < P.cellsOf e) (N:0 < P.bytesOf e) (he:xk P e f ok) :
  xk P t (λl:List α=>[.aL (l.map f)]) (λl=>l.length < 4611686018427387904/\∀ a∈l,ok a):=by
 intro H enc w base sp held fuel cs x h hw
 rcases DataW.trod_slice J h with ⟨rfl,rfl⟩ | ⟨a,len,cap,elems,rest,n,_,rfl,rfl,O,Q,hm,hlen,A,_,_⟩
 .exact⟨[],⟨by simp,by simp⟩,vF λμ=>.iC none 0 (by simp)⟩
 obtain⟨r,B⟩:=RS J hw
 simp only[WG] at r
 have C:len < 4611686018427387904:=by
  have h1:len * 1<=(elems.length+rest.length) * P.bytesOf e:=Nat.mul_le_mul (by omega) N
  unfold reachBytes at r
  omega
 have each:∀ i,i < len->∃ y,ok y/\∃ ci,w.cells? base (a.add (i * P.cellsOf e)) (P.cellsOf e)=some ci/\y5 w.heap ci (f y):=by
  intro i hi
  have h1:=A i hi
  have k:elems[i]?=some (elems[i]'(by omega)):=Wp (by omega)
  have s:elems[i]'(by omega)∈elems:=WA _
  rw[k,Option.bind_eq_some_iff] at h1
  obtain⟨ci,D,E⟩:=h1
  obtain⟨y,z,m⟩:=he enc w base sp held n ci _ E (B _ (WQ.2 ⟨_,s,rfl⟩))
  exact⟨y,z,ci,D,m⟩
 obtain⟨l,F,p⟩:=KS len each
 subst F
 refine⟨l,⟨C,λy R=>?_⟩,vF λμ=>?_⟩
 .obtain⟨i,hi,rfl⟩:=Yd R
  exact(p i hi).1
 by_cases K:l=[]
 .subst K
  exact .iC (some a) cap (by simp)
 have o:0 < l.length:=Yx.2 K
 have d:∀ i j,i < l.length->j < P.cellsOf e->∃ c,cellAt w.heap a.block (a.off+i * P.cellsOf e+j)=some c/\a.block < w.heap.size/\(i=0->j=0->a.spot=none)/\∀ (hi:i < l.length),aw (λb=>b < w.heap.size) μ w.heap ((f l[i]).getD j .any) c:=by
  intro i j hi q
  obtain⟨_,ci,h1,k⟩:=p i hi
  obtain⟨D,E⟩:=Ig h1
  have z:=E j q
  have m:=Ni z
  have u:((a.add (i * P.cellsOf e)).add j).block=a.block:=by simp only[Addr.add];split <;> split <;> rfl
  have G:((a.add (i * P.cellsOf e)).add j).off=a.off+i * P.cellsOf e+j:=by
   simp only[Addr.add];split <;> split <;> simp_all
  refine⟨ci.getD j undef,?_,by rw[<-u];exact m.2,?_,λ_=>?_⟩
  .rw[<-G,<-u,<-iz]
   rw[<-z]
   congr 1
   generalize (a.add (i * P.cellsOf e)).add j=b at m
   cases b
   simp at m ⊢
   exact m.1.symm
  .rintro rfl rfl
   simp[Addr.add] at m
   exact m.1
  .exact k.2 μ j (by rw[k.1,D];exact q)
 obtain⟨_,_,S,L,_⟩:=d 0 0 o M
 have T:a=⟨a.block,a.off,none⟩:=by
  cases a;simp at L ⊢;exact L
 have I:∀ i,i < l.length->(f (l[i]?.getD (l[0]'o))).length=P.cellsOf e:=λi hi=>by
  obtain⟨_,ci,h1,k⟩:=p i hi
  rw[Wp hi,WJ,k.1,(Ig h1).1]
 have v:∀ i (hi:i < l.length),(l.map f).getD i []=f l[i]:=λi hi=>by simp[Wo,hi]
 have g:(l.map f).length=l.length:=by simp
 have:=aw.aL (Z:=λb=>b < w.heap.size) (μ:=μ) (hp:=w.heap) (l.map f) a.block a.off (P.cellsOf e) cap (λi j=>(cellAt w.heap a.block (a.off+i * P.cellsOf e+j)).getD undef) S (by rw[g];exact Q)
  (λi hi=>by
   rw[g] at hi
   have:=I i hi
   rw[Wp hi,WJ] at this
   rw[v i hi];exact this)
  (λi j hi q=>by
   rw[g] at hi
   obtain⟨c,h1,_⟩:=d i j hi q
   rw[h1];rfl)
  (λi j hi q=>by
   rw[g] at hi
   obtain⟨c,h1,_,_,k⟩:=d i j hi q
   rw[h1,v i hi];exact k hi)
 rw[g,<-T] at this
 exact this
theorem tx {P:Program} {t:TypeId} {b:Array Field} (d:P.underlying t=some (.struct b)) (j:∀ (i:Nat) (f:Field),b[i]?=some f->f.offset=i/\P.cellsOf f.type=1) (k:P.cellsOf t=b.size)
  {H:Type} {enc:TypeId × Value->H} {w:World} {base:Nat} {sp:Nat->Bool} {held:Bool} {fuel:Nat} {cs:List Value} {x:DataW H × List MemPlace} (h:DataW.trod enc P w base sp held fuel t cs=some x) (hw:Wt P t x.1) :
  cs.length=b.size/\∀ (i:Nat) (f:Field),b[i]?=some f->∀ {α:Type} {g:α->List V} {ok:α->Prop},xk P f.type g ok->∃ a,ok a/\y5 w.heap [cs.getD i undef] (g a):=by
 obtain⟨xs,n,rfl,rfl,l,hlen,m⟩:=DataW.trod_struct d h
 refine⟨by rw[l,k],λi f hi α g ok hr=>?_⟩
 obtain⟨h1,o⟩:=j i f hi
 have p:i < b.size:=(Array.getElem?_eq_some_iff.1 hi).1
 have c:=m i f hi
 have e:xs[i]?=some (xs[i]'(by omega)):=Wp (by omega)
 rw[e,h1,o] at c
 have q:(cs.drop i).take 1=[cs.getD i undef]:=by
  rw[Wo,Wp (by omega),XH (by omega)]
  rfl
 rw[q] at c
 exact hr enc w base sp held n _ _ c (OX d hw hi (by simp[e]))
theorem fq {hp:Array Obj} {c:Value} {cs:List Value} {v:V} {vs:List V} (h:y5 hp [c] [v]) (k:y5 hp cs vs):y5 hp (c :: cs) (v :: vs):=by
 refine⟨by simp[k.1],λμ i hi=>?_⟩
 cases i with
 | zero=>exact h.2 μ 0 (by simp)
 | succ i=>exact k.2 μ i (by simpa using hi)
theorem wQ {hp:Array Obj} : y5 hp [] []:=⟨rfl,λμ i hi=>by simp at hi⟩
theorem Tg {n:Int} (h:(Lit.int .i64 n).wf=true):ba n:=by
 simp only[Lit.wf,WC,WH] at h
 exact h
theorem j0:xk Tryz.prog 3 (λn=>[gi n]) ba:=λenc w base sp held fuel cs x h hw=>by
 obtain⟨n,h1,a⟩:=TV Tryz.underlying3 enc w base sp held fuel cs x h hw
 exact⟨n,Tg h1,a⟩
theorem JV:xk Tryz.prog 27 (λl:List Int=>[encI l]) (λl=>aC l/\∀ x∈l,ba x) :=
 vz Tryz.underlying27 (Yb (by kernel_rfl)) (Yb (by kernel_rfl)) j0
theorem Mq:xk Tryz.prog 23 (λl:List ByteArray=>[encS l]) (λl=>aC l/\∀ x∈l,True) :=
 vz Tryz.underlying23 (Yb (by kernel_rfl)) (Yb (by kernel_rfl)) (ED Tryz.underlying9)
theorem T8 {cs:List Value} (h:cs.length=3):cs=[cs.getD 0 undef,cs.getD 1 undef,cs.getD 2 undef]:=by
 match cs,h with
 | [a,b,c],_=>rfl
theorem Wa {cs:List Value} (h:cs.length=4):cs=[cs.getD 0 undef,cs.getD 1 undef,cs.getD 2 undef,cs.getD 3 undef]:=by
 match cs,h with
 | [a,b,c,d],_=>rfl
theorem S8:xk Tryz.prog 130 dp (λt=>ba t.level/\ba t.assoc):=λenc w base sp held fuel cs x h hw=>by
 obtain⟨e,d⟩:=tx Tryz.underlying130 (by
  intro i f hi
  match i,hi with
  | 0,hi=>simp at hi;subst hi;exact⟨rfl,by kernel_rfl⟩
  | 1,hi=>simp at hi;subst hi;exact⟨rfl,by kernel_rfl⟩
  | 2,hi=>simp at hi;subst hi;exact⟨rfl,by kernel_rfl⟩
  | n+3,hi=>simp at hi) (by kernel_rfl) h hw
 obtain⟨a,_,h1⟩:=d 0 _ rfl (ED Tryz.underlying9)
 obtain⟨b,g,j⟩:=d 1 _ rfl j0
 obtain⟨c,k,l⟩:=d 2 _ rfl j0
 refine⟨⟨a,b,c⟩,⟨g,k⟩,?_⟩
 rw[T8 e]
 exact fq h1 (fq j (fq l wQ))
theorem Tn:xk Tryz.prog 92 aU (λr=>ba r.left/\ba r.prec/\aC r.right/\∀ x∈r.right,ba x):=λenc w base sp held fuel cs x h hw=>by
 obtain⟨g,d⟩:=tx Tryz.underlying92 (by
  intro i f hi
  match i,hi with
  | 0,hi=>simp at hi;subst hi;exact⟨rfl,by kernel_rfl⟩
  | 1,hi=>simp at hi;subst hi;exact⟨rfl,by kernel_rfl⟩
  | 2,hi=>simp at hi;subst hi;exact⟨rfl,by kernel_rfl⟩
  | n+3,hi=>simp at hi) (by kernel_rfl) h hw
 obtain⟨a,j,h1⟩:=d 0 _ rfl j0
 obtain⟨b,e,k⟩:=d 1 _ rfl JV
 obtain⟨c,l,m⟩:=d 2 _ rfl j0
 refine⟨⟨a,b,c⟩,⟨j,l,e.1,e.2⟩,?_⟩
 rw[T8 g]
 exact fq h1 (fq k (fq m wQ))
theorem SV:xk Tryz.prog 26 ak ag.Ok:=λenc w base sp held fuel cs x h hw=>by
 obtain⟨k,e⟩:=tx Tryz.underlying26 (by
  intro i f hi
  match i,hi with
  | 0,hi=>simp at hi;subst hi;exact⟨rfl,by kernel_rfl⟩
  | 1,hi=>simp at hi;subst hi;exact⟨rfl,by kernel_rfl⟩
  | 2,hi=>simp at hi;subst hi;exact⟨rfl,by kernel_rfl⟩
  | 3,hi=>simp at hi;subst hi;exact⟨rfl,by kernel_rfl⟩
  | n+4,hi=>simp at hi) (by kernel_rfl) h hw
 obtain⟨a,g,h1⟩:=e 0 _ rfl (vz Tryz.underlying22 (Yb (by kernel_rfl)) (Yb (by kernel_rfl)) S8)
 obtain⟨b,l,m⟩:=e 1 _ rfl Mq
 obtain⟨c,j,o⟩:=e 2 _ rfl (vz Tryz.underlying24 (Yb (by kernel_rfl)) (Yb (by kernel_rfl)) Tn)
 obtain⟨d,p,q⟩:=e 3 _ rfl j0
 refine⟨⟨a,b,c,d⟩,⟨g.1,l.1,j.1,p,g.2,j.2⟩,?_⟩
 rw[Wa k]
 exact fq h1 (fq m (fq o (fq q wQ)))
def tv:SC :=
 ai [af [aZ 44 .lss 43 42],cp 44 (.exit 0),.block 1 (ai [af [aa 45 43,aY 46 3 41 43,bj 47 3 46,((some 11),.op (.alloc [(.val (.int .i64 0)),(.emp 1),(.val (.int .i64 0))])),aa 10 45,df 3 11 47],ai [.region false [⟨none,[aa 48 6,ay 49 0 11,au 50 49,aY 51 1 48 50,au 52 51,cW 53 52,aa 54 53]⟩,⟨(some (54,false)),[bj 55 3 11,aa 56 5,aT 57 164 [55,56],cW 58 57]⟩,⟨none,[b6 59 54 58]⟩],bf 59 (.exit 1)],af [aa 60 7,aa 61 10,((some 62),.op (.bS 1 1 [(.val (.int .i64 0))] [(0,(.tmp 61))])),iR 63 1 8 60 62,aa 7 63],af [aa 65 9,ay 66 0 11,au 67 66,((some 68),.op (.old (.lookup 265 (.tmp 65) (.tmp 67) true) 66)),aa 64 68,dO 69 0 64,dO 70 1 64,aa 12 69,aa 13 70],af [aa 71 13,cW 72 71],bf 72 (ai [af [aa 73 9,ay 74 0 11,au 75 74,ay 76 1 8,au 77 76,aQ 78 77,(none,.op (.old (.mapUpdate 265 (.tmp 73) (.tmp 75) (.tmp 78)) 0))],.region false [⟨none,[ay 79 1 8,au 80 79,ay 81 1 1,au 82 81,ay 83 0 11,au 84 83,aY 85 1 82 84,au 86 85,((some 87),.op (.bS 1 1 [(.val (.string ⟨#[]⟩))] [(0,(.tmp 86))])),iR 88 1 16 80 87,ay 89 1 8,df 1 89 88]⟩]])]),af [aF 90 .add 43 1,aa 43 90]]
def sY:SC :=
 ai [af [aZ 116 .lss 115 114],cp 116 (.exit 4),.block 5 (ai [af [aa 117 115,aY 118 1 113 115,au 119 118,aa 18 117,aa 19 119],af [aa 120 19,aF 121 .lss 120 0],bf 121 (af [ay 122 1 17,au 123 122,aa 124 18,aa 125 9,aa 126 19,((some 127),.op (.arith .sub (.val (.val (.int .i64 (-1)))) (.tmp 126))),((some 128),.op (.old (.lookup 265 (.tmp 125) (.tmp 127) false) 3)),((some 129),.op (.arith .sub (.val (.val (.int .i64 (-1)))) (.tmp 128))),aY 130 1 123 124,df 1 130 129])]),af [aF 131 .add 115 1,aa 115 131]]
def sQ:SC :=
 ai [af [aZ 94 .lss 93 92],cp 94 (.exit 2),.block 3 (ai [af [aY 95 1 91 93,au 96 95,aa 15 96],af [ay 97 2 1,au 98 97,aa 99 15,aY 100 3 98 99,bj 101 3 100,((some 16),.op (.alloc [(.val (.int .i64 0)),(.emp 1),(.val (.int .i64 0))])),df 3 16 101],.region true [⟨none,[aa 102 9,ay 103 0 16,au 104 103,((some 105),.op (.old (.lookup 265 (.tmp 102) (.tmp 104) false) 3)),ay 106 1 16,au 107 106,aT 108 140 [107],ay 109 2 16,au 110 109,((some 111),.op (.build [(.val (.int .i64 0)),(.emp 1),(.val (.int .i64 0))] [(0,1,(.tmp 105)),(1,1,(.tmp 108)),(2,1,(.tmp 110))])),((some 17),.op (.alloc [(.val (.int .i64 0)),(.emp 1),(.val (.int .i64 0))])),df 3 17 111]⟩],ai [af [ay 112 1 17,au 113 112,aQ 114 113,bb 115 0],cz 4 sY],af [ay 132 2 8,au 133 132,bj 134 3 17,((some 135),.op (.bS 1 3 [(.val (.int .i64 0)),(.emp 1),(.val (.int .i64 0))] [(0,(.tmp 134))])),iR 136 3 40 133 135,ay 137 2 8,df 1 137 136]]),af [aF 138 .add 93 1,aa 93 138]]
def wY:SF:=⟨ai [af [cJ 1 0,((some 2),.op (.alloc [(.emp 1),(.emp 1),(.emp 1),(.val (.int .i64 0))])),b7 3 1,bb 4 0],ai [af [bj 20 4 1,aT 21 89 [20],cW 22 21],bf 22 (ai [af [((some 23),.op (.build [(.emp 1),(.emp 1),(.emp 1),(.val (.int .i64 0))] [])),df 4 2 23,b7 3 1,bb 4 1],.ret])],.region true [⟨none,[bj 24 4 1,aT 25 161 [24],bj 26 4 1,aT 27 162 [26],aa 5 25,aa 6 27]⟩],ai [af [aa 28 5,ay 29 3 1,au 30 29,aY 31 1 28 30,au 32 31,cW 33 32],bf 33 (ai [af [((some 34),.op (.build [(.emp 1),(.emp 1),(.emp 1),(.val (.int .i64 0))] [])),df 4 2 34,b7 3 1,bb 4 9],.ret])],af [b7 7 1],af [ay 35 0 1,au 36 35,aT 37 163 [36],((some 38),.op (.build [(.emp 1),(.emp 1),(.emp 1),(.val (.int .i64 0))] [(0,1,(.tmp 37))])),((some 8),.op (.alloc [(.emp 1),(.emp 1),(.emp 1),(.val (.int .i64 0))])),df 4 8 38],af [((some 39),.op (.oo)),aa 9 39],ai [af [ay 40 2 1,au 41 40,aQ 42 41,bb 43 0],cz 0 tv],ai [af [aa 91 7,aQ 92 91,bb 93 0],cz 2 sQ],af [aa 139 9,ay 140 3 1,au 141 140,((some 142),.op (.old (.lookup 265 (.tmp 139) (.tmp 141) false) 3)),ay 143 3 8,df 1 143 142],af [bj 144 4 8,aa 145 7,df 4 2 144,aa 3 145,bb 4 0],.ret],
 [.cell 2 (some 4),.tmp 3,.tmp 4],146⟩
theorem AE:aG Tryz.prog 92 [1]=some wY:=by kernel_rfl
abbrev xO (m:bQ Int):List (V × V × Nat):=bV (Value.int .i64) m
def UE (g:ag) (p q:List Bool) (b2 b8 b9:Nat) (u0:V) (i:Nat) (T:Env) (H:View):Prop :=
 (∃ u1 u3:V,T 7=u3/\(∀ x∈eV p q (g.rules.take i),0<=x/\x < g.ax.length)/\(eV p q (g.rules.take i)).length<=i /\
  bu H [(.sl b8 0 1 4,4,[[u0,u1,.emp 1,gi 0]]),(u3,1,aM (eQ p q (g.rules.take i) 0)),
   (u1,1,tl ((eV p q (g.rules.take i)).map λx=>g.ax.getD x.toNat ⟨#[]⟩)),(u0,3,g.an.map dp),(.sl b2 0 1 4,4,[[.emp 1,.emp 1,.emp 1,gi 0]])] /\
  ∃ m c,H b9=.map (xO m) c/\nN gi (jZ (eV p q (g.rules.take i)) 0) m) /\
 T 1=.aN (ak g) 0/\T 2=.ptr b2 0 0/\T 5=cB p/\T 6=cB q/\T 8=.ptr b8 0 0/\T 9=.mp b9/\T 41=.aL (g.rules.map aU)/\T 42=gi g.rules.length/\T 43=gi i
theorem DY {α:Type} {x s:α} : ∀ {a d:List α} {k:Nat},a.length=k->(a ++ s :: d).set k x=a ++ x :: d
 | [],d,k,h=>by simp at h;subst h;rfl
 | y :: a,d,k,h=>by
  cases k with
  | zero=>simp at h
  | succ k=>simp only[Xh,List.set_cons_succ];rw[DY (by simpa using h)]
def VP (g:ag) (p q:List Bool) (b2 b8 b9:Nat) (u0 u1 u3:V) (o kl:List Int) (mm:bQ Int) (cc:Nat) (i:Nat) (T:Env) (H:View):Prop :=
 (∃ (u2:V) (bs:CD),bs.map (·.2)=((g.rules.filter (fa p q)).take i).map (eS (eo o)) /\
  bu H ((.sl b8 0 1 4,4,[[u0,u1,u2,gi 0]]) :: (u3,1,aM kl) ::
   (u1,1,tl (o.map λx=>g.ax.getD x.toNat ⟨#[]⟩)) :: (u0,3,g.an.map dp) :: (u2,3,kY bs) :: (.sl b2 0 1 4,4,[[.emp 1,.emp 1,.emp 1,gi 0]]) :: uF bs) /\
  H b9=.map (xO mm) cc) /\
 T 1=.aN (ak g) 0/\T 2=.ptr b2 0 0/\T 7=u3/\T 8=.ptr b8 0 0/\T 9=.mp b9/\T 91=u3/\T 92=gi kl.length/\T 93=gi i
def Vp (g:ag) (b2 b8 b9 b16 b17:Nat) (u3 v:V) (o kl:List Int) (mm:bQ Int) (cc:Nat) (r:aW) (L:List ed) (i k:Nat) (T:Env) (H:View):Prop :=
 bu H ((.sl b17 0 1 3,3,[[gi (eo o r.left),v,gi r.prec]]) :: (v,1,aM ((eS (eo o) r).right.take k ++ r.right.drop k)) :: (.sl b16 0 1 3,3,[aU r]) :: L) /\
 H b9=.map (xO mm) cc/\T 1=.aN (ak g) 0/\T 2=.ptr b2 0 0/\T 7=u3/\T 8=.ptr b8 0 0/\T 9=.mp b9/\T 91=u3/\T 92=gi kl.length/\T 93=gi i/\T 17=.ptr b17 0 0/\T 113=v/\T 114=gi r.right.length/\T 115=gi k
theorem Jy (g:ag) (hg:g.Ok) (hs:g.Small):cd Tryz.prog 92 [.agg (ak g)] (DP (if bq g=true then
  if (bm g true).getD g.start.toNat false=true then (AS g (eo (eV (bm g true) (dy g) g.rules)) (bm g true) (dy g),eQ (bm g true) (dy g) g.rules 0,0)
  else (tg,[],9)
 else (tg,[],1))):=by
 refine cd.of (eR g) ?_
 refine ao.of mixed AE ?_
 simp(disch:=omega)only[↓wr,seval,wq,wY,ak,encS]
 intro Q
 try simp(disch:=omega)only[↓wr,seval,wq,ak,encS]
 refine aq.pure (ni g hg hs.names) ?_
 repeat' (first | ((first|apply aj.dec|apply aj.eq|apply aj.ne|apply aj.split)<;>intro)|(simp(disch:=omega)only[↓wr,seval,wq,ak,encS,set_set]))
 .rename_i hr
  rw[Wv hr]
  refine aq.pure (uz g hg hs).pure ?_
  simp(disch:=omega)only[↓wr,seval,wq,ak,encS]
  refine aq.pure (FH g hg hs).pure ?_
  have hf:=bK hr
  have h3:=hf.lX
  have h4:=hf.start
  have da:=ky hr true
  have fz:=tU hr
  generalize bm g true=p at da ⊢
  generalize dy g=q at fz ⊢
  have ck:p[g.start.toNat]?=some (p[g.start.toNat]'(by omega)):=Wp (by omega)
  have dc:p.getD g.start.toNat false=p[g.start.toNat]'(by omega):=by simp[Wo,ck]
  generalize p[g.start.toNat]'(by omega)=s at ck dc
  rw[dc]
  simp(disch:=omega)only[↓wr,seval,wq,ak,encS,cB,Ww,ck]
  cases s with
  | false =>
   simp(disch:=omega)only[↓wr,seval,wq,ak,encS,set_set]
   rintro h' hh
   exact GO
  | true =>
   simp(disch:=omega)only[↓wr,seval,wq,ak,encS,set_set]
   have hN:=hf.ax
   have hQ:=hf.th
   have hT:=hf.an
   have hR:=hf.rules
   refine aq.bX ((PE g.an (by omega) _).mono ?_)
   rintro B H1 ⟨ga,K⟩
   have bd:=(bu.nil.new (H:=λ_=>bN.dead) (n:=Q) rfl 4 [[.emp 1,.emp 1,.emp 1,gi 0]]).MQ ga K
   have c0:=bd.head.cells
   have k0:=bd.head.fF
   simp(disch:=omega)only[↓wr,seval,wq,ak,encS,c0,k0]
   intro O dj
   have ds:=bd.new dj 4 [[B,.emp 1,.emp 1,gi 0]]
   try simp(disch:=omega)only[↓wr,seval,wq,ak,encS,c0,k0,set_set]
   intro d R
   have cb:=(dg R dG).1
   have R:=(dg (dg R dG).2 dG).2
   have f:=(((ds.fresh (n:=d) (o:=.map [] 0) (by simp only[View.set,Ws cb];exact R)).emp (k:=1) (sz:=1)).emp (k:=1) (sz:=1)).perm Ug.symm
   try simp(disch:=omega)only[↓wr,seval,wq,ak,encS,c0,k0,set_set]
   refine bk.up g.rules.length (UE g p q Q O d B) ?_ ?_
   .refine⟨⟨.emp 1,.emp 1,rfl,by simp[eV],by simp[eV],by rw[set_set];exact f,[],0,by simp[View.set,bV],trivial⟩,rfl,rfl,rfl,rfl,rfl,rfl,rfl,rfl,rfl⟩
   clear bd ds f dj R cb
   rintro i k T H2 hk ⟨⟨G,u3,t7,bl,cA,A,mm,C,j,D⟩,t1,t2,t5,t6,t8,t9,t41,t42,t43⟩
   simp(disch:=omega)only[↓wr,seval,wq,tv,t1,t2,t5,t6,t7,t8,t9,t41,t42,t43,ak]
   apply aj.dec<;>intro hc
   .have E:g.rules[i]?=some (g.rules[i]'(by omega)):=Wp (by omega)
    have l:g.rules[i]'(by omega)∈g.rules:=WA _
    have w:g.rules.take (i+1)=g.rules.take i ++ [g.rules[i]'(by omega)]:=by rw[WY,E];rfl
    generalize g.rules[i]'(by omega)=r at E l w
    obtain⟨gd,dv,ea,gk,bn⟩:=hf.zd hg l
    have cC:q[r.left.toNat]?=some (q[r.left.toNat]'(by omega)):=Wp (by omega)
    have br:q.getD r.left.toNat false=q[r.left.toNat]'(by omega):=by simp[Wo,cC]
    generalize q[r.left.toNat]'(by omega)=qs at cC br
    simp(disch:=omega)only[↓wr,seval,wq,t1,t2,t5,t6,t7,t8,t9,t41,t42,t43,aU,encI,Ww,E]
    intro bx S
    have F:=A.new S 3 [aU r]
    have cf:d≠bx:=by rintro rfl;rw[j] at S;simp at S
    try simp(disch:=omega)only[↓wr,seval,wq,t1,t2,t5,t6,t7,t8,t9,t41,t42,t43,aU,encI,cB,Ww,cC,set_set]
    have U:∀ (P:Env) (H':View),fa p q r=false->H'=H2.set bx (.arr 3 [aU r])->P 7=u3->P 1=.aN (ak g) 0->P 2=.ptr Q 0 0->P 5=cB p->P 6=cB q->P 8=.ptr O 0 0->P 9=.mp d->P 41=.aL (g.rules.map aU)->P 42=gi g.rules.length->P 43=gi ((i:Int)+1) ->
      ∃ k',k' < k/\Is g.rules.length k' (UE g p q Q O d B) P H':=by
     intro P H' W eb a7 a1 a2 a5 a6 a8 a9 a41 gr ha
     have M:eV p q (g.rules.take (i+1))=eV p q (g.rules.take i):=by rw[w,Ea,Ws (by simp[W])]
     have e2:eQ p q (g.rules.take (i+1)) 0=eQ p q (g.rules.take i) 0:=by rw[w,rL];simp[eQ,W]
     refine aJ hk (by omega) ⟨⟨G,u3,a7,by rw[M];exact bl,by rw[M];omega,by rw[M,e2,eb];exact F.tail,mm,C,by rw[eb];simp[View.set,cf,j],by rw[M];exact D⟩,a1,a2,a5,a6,a8,a9,a41,gr,by rw[ha];rfl⟩
    cases qs with
    | false =>
     simp(disch:=omega)only[↓wr,seval,wq,t1,t2,t5,t6,t7,t8,t9,t41,t42,t43]
     refine U _ _ (by rw[fa,br];rfl) ?_ ?_ ?_ ?_ ?_ ?_ ?_ ?_ ?_ ?_ ?_
     all_goals first | exact t7 | exact t1 | exact t2 | exact t5 | exact t6 | exact t8 | exact t9 | exact t41 | exact t42 | rfl | (rw[set_set];rfl)
    | true =>
     simp(disch:=omega)only[↓wr,seval,wq,t1,t2,t5,t6,t7,t8,t9,t41,t42,t43,aU,encI,cB]
     refine aq.pure (sO r p (hg.av r l).2.2.1 (λs ee=>⟨(bn s ee).1,λh=>by rw[da];exact(bn s ee).2 h⟩)) ?_
     simp(disch:=omega)only[↓wr,seval,wq,t1,t2,t5,t6,t7,t8,t9,t41,t42,t43]
     apply aj.split<;>intro cI
     .simp(disch:=omega)only[↓wr,seval,wq,t1,t2,t5,t6,t7,t8,t9,t41,t42,t43]
      have W:fa p q r=true:=by rw[fa,br,cI];rfl
      intro m hm
      try simp(disch:=omega)only[↓wr,seval,wq,t1,t2,t5,t6,t7,t8,t9,t41,t42,t43,bY]
      have ef:=(dg hm dG).1
      have hm:=(dg (dg hm dG).2 dG).2
      have e:=(F.fresh (n:=m) (o:=.arr 1 [[gi i]]) (by simp only[View.set,Ws ef];exact hm)).at 2 (by simp)
      have cN:d≠m:=by rintro rfl;rw[j] at hm;simp at hm
      have eg:(eQ p q (g.rules.take i) 0).length<=40:=by
       rw[s9]
       have h1:=List.length_filter_le (fa p q) (g.rules.take i)
       have h2:(g.rules.take i).length<=i:=List.length_take_le _ _
       omega
      refine gE (by rw[set_set];exact e) (by simp[aE]) (by unfold aD;simp at eg ⊢;omega) (by unfold aD;simp at eg ⊢;omega) ?_
      intro cS H3 f t
      have f11:=f.is 1 rfl (by simp)
      have f8:=f.is 2 rfl (by simp)
      have b0:Left ((H2.set bx (.arr 3 [aU r])).set m (.arr 1 [[gi i]])) H3 u3 cS:=by rw[set_set] at t;exact t
      have f9:H3 d=.map (xO mm) C:=b0.map (b:=d) e.head (by simp[View.set,cf,cN,j])
      have hb:cT G=some (tl ((eV p q (g.rules.take i)).map λx=>g.ax.getD x.toNat ⟨#[]⟩)).length:=(f.own 3 rfl).len
      simp only[aU,encI] at f11
      have e2:eQ p q (g.rules.take (i+1)) 0=eQ p q (g.rules.take i) 0 ++ [(i:Int)]:=by
       rw[w,rL];simp[eQ,W,show i<=g.rules.length by omega]
      have M:eV p q (g.rules.take (i+1))=tI (eV p q (g.rules.take i)) r:=by rw[w,Ea,Wv W]
      generalize eV p q (g.rules.take i)=o at *
      generalize eQ p q (g.rules.take i) 0=kl at *
      simp(disch:=omega)only[↓wr,seval,wq,t1,t2,t5,t6,t8,t9,t41,t42,t43,f11,f8]
      refine Sj (kt:=3) (et:=3) (z:=gi 0) (by kernel_rfl) (by kernel_rfl) (k5 .i64 Tryz.underlying3) (id:=d) (c:=C) (m:=mm) (k:=r.left) (by simp(disch:=omega)only[↓wr,seval,wq,t9]) (by simp(disch:=omega)only[↓wr,seval,wq]) f9 ?_
      rw[D.get,sT]
      have hd:o.length<=40:=by omega
      by_cases hx:r.left∈o
      .have u:tI o r=o:=by rw[tI,Wv hx]
       rw[Wv hx]
       simp(disch:=omega)only[↓wr,seval,wq,t1,t2,t5,t6,t8,t9,t41,t42,t43,Option.isSome_some]
       have hj:=(((f.at 1 (by simp)).tail).perm (.swap _ _ _))
       refine aJ hk (by omega) ⟨⟨G,cS,rfl,by rw[M,u];exact bl,by rw[M,u];omega,?_,mm,C,f9,by rw[M,u];exact D⟩,t1,t2,t5,t6,t8,t9,t41,t42,rfl⟩
       rw[M,u,e2]
       simp only[W6,WZ,Yy]
       exact hj
      .have u:tI o r=o ++ [r.left]:=by rw[tI,Ws hx]
       rw[Ws hx]
       have cV:g.ax[r.left.toNat]?=some (g.ax[r.left.toNat]'(by omega)):=Wp (by omega)
       have ch:g.ax.getD r.left.toNat ⟨#[]⟩=g.ax[r.left.toNat]'(by omega):=by simp[Wo,cV]
       generalize g.ax[r.left.toNat]'(by omega)=nm at cV ch
       simp(disch:=omega)only[↓wr,seval,wq,t1,t2,t5,t6,t8,t9,t41,t42,t43,Option.isSome_none,f11,f8,hb,WG]
       refine uk (kt:=3) (et:=3) (by kernel_rfl) (k5 .i64 Tryz.underlying3) (id:=d) (c:=C) (m:=mm) (k:=r.left) (v:=gi o.length) (by simp(disch:=omega)only[↓wr,seval,wq,t9]) (by simp(disch:=omega)only[↓wr,seval,wq]) (by simp(disch:=omega)only[↓wr,seval,wq]) f9 ?_
       intro c'
       have ej:O≠d:=Ca f 2 rfl f9
       have n119:bx≠d:=Ca f 1 rfl f9
       simp(disch:=omega)only[↓wr,seval,wq,t1,t2,t5,t6,t8,t9,t41,t42,t43,f11,f8,ej,n119,ak,encS,Ww,cV]
       intro m2 N
       have cj:=(dg N (by simp)).1
       have N:=(dg N (by simp)).2
       have ek:=((f.B4 f9 (o:=.map (xO (bz r.left (gi o.length) C mm)) c')).fresh (n:=m2) (o:=.arr 1 [[gs nm]]) (by simp only[View.set,Ws cj];exact N)).at 3 (by simp)
       try simp(disch:=omega)only[↓wr,seval,wq,t1,t2,t5,t6,t8,t9,t41,t42,t43,bY]
       refine gE ek (by simp[aE]) (by unfold aD;simp;omega) (by unfold aD;simp;omega) ?_
       intro e0 H5 b1 b3
       have c1:=b1.head.cells
       have k1:=b1.head.fF
       have c3:=b1.is 3 rfl (by simp)
       have hl:=b3.map (b:=d) (es:=xO (bz r.left (gi o.length) C mm)) (c:=c') ek.head (by simp[View.set,Ne.symm cj])
       have e4:d≠O:=ej.symm
       simp(disch:=omega)only[↓wr,seval,wq,t1,t2,t5,t6,t8,t9,t41,t42,t43,c3,c1,k1]
       have hn:=(b1.at 3 (by simp)).put (es':=[[B,e0,.emp 1,gi 0]]) rfl rfl
       have hq:=(((hn.at 3 (by simp)).tail).perm (.cons _ (.swap _ _ _)))
       refine aJ hk (by omega) ⟨⟨e0,cS,rfl,?_,?_,?_,_,c',(by simp only[View.set,Ws e4];exact hl),?_⟩,t1,t2,t5,t6,t8,t9,t41,t42,rfl⟩
       .rw[M,u];intro x ht;rcases WN.1 ht with h | h
        .exact bl x h
        .simp at h;subst h;exact⟨dv,ea⟩
       .rw[M,u];simp;omega
       .rw[M,u,e2]
        simp only[W6,WZ,Yy,ch]
        exact hq
       .rw[M,u,CC,Int.zero_add,<-EM hx]
        exact D.put r.left (o.length:Int) C
     .simp(disch:=omega)only[↓wr,seval,wq,t1,t2,t5,t6,t7,t8,t9,t41,t42,t43]
      refine U _ _ (by rw[fa,br,cI];rfl) ?_ ?_ ?_ ?_ ?_ ?_ ?_ ?_ ?_ ?_ ?_
      all_goals first | exact t7 | exact t1 | exact t2 | exact t5 | exact t6 | exact t8 | exact t9 | exact t41 | exact t42 | rfl | (rw[set_set];rfl)
   .rw[WT (by omega)] at A bl cA D
    have hz:(eQ p q g.rules 0).length<=40:=by
     rw[s9];have h1:=List.length_filter_le (fa p q) g.rules;omega
    have hA:=yp p q g.rules 0
    have hP:=s9 p q g.rules 0
    have e5:AS g (eo (eV p q g.rules)) p q=⟨g.an,(eV p q g.rules).map λx=>g.ax.getD x.toNat ⟨#[]⟩,(g.rules.filter (fa p q)).map (eS (eo (eV p q g.rules))),eo (eV p q g.rules) g.start⟩:=rfl
    rw[e5]
    clear e5
    generalize eV p q g.rules=o at *
    generalize eQ p q g.rules 0=kl at *
    have hd:o.length<=40:=by omega
    have hB:cT u3=some (aM kl).length:=(A.own 1 rfl).len
    simp(disch:=omega)only[↓wr,seval,wq,t1,t2,t5,t6,t7,t8,t9,hB,WG]
    refine bk.up kl.length (VP g p q Q O d B G u3 o kl mm C) ?_ ?_
    .refine⟨⟨.emp 1,[],by simp,?_,j⟩,t1,t2,t7,t8,t9,t7,rfl,rfl⟩
     exact(A.emp (k:=1) (sz:=3)).perm (zl [(.sl O 0 1 4,4,[[B,G,.emp 1,gi 0]]),(u3,1,aM kl),(G,1,tl (o.map λx=>g.ax.getD x.toNat ⟨#[]⟩)),(B,3,g.an.map dp),(.emp 1,3,[]),(.sl Q 0 1 4,4,[[.emp 1,.emp 1,.emp 1,gi 0]])] 4 (by simp)).symm
    clear A j t1 t2 t5 t6 t7 t8 t9 t41 t42 t43
    rintro i k T H2 hk ⟨⟨u2,bs,b4,A,j⟩,t1,t2,t7,t8,t9,t91,t92,t93⟩
    simp(disch:=omega)only[↓wr,seval,wq,sQ,t1,t2,t7,t8,t9,t91,t92,t93]
    apply aj.dec<;>intro hc
    .obtain⟨n3,e3,hC⟩:=(A.own 1 rfl).sl (by simp;omega)
     rw[WG] at e3
     subst e3
     obtain⟨m,c4,N,X⟩:=hA i (by omega)
     have e6:=Io (show i < kl.length by omega)
     rw[Int.zero_add] at c4
     have hD:kl[i]'(by omega)=(m:Int):=by
      rw[Wp (show i < kl.length by omega)] at c4;simpa using c4
     rw[hD] at e6
     have E:g.rules[m]?=some (g.rules[m]'X):=Wp X
     have l:g.rules[m]'X∈g.rules:=WA _
     have w:(g.rules.filter (fa p q)).take (i+1)=(g.rules.filter (fa p q)).take i ++ [g.rules[m]'X]:=by
      rw[WY,<-N,E];rfl
     generalize g.rules[m]'X=r at E l w
     obtain⟨gd,dv,ea,gk,bn⟩:=hf.zd hg l
     simp(disch:=omega)only[↓wr,seval,wq,t1,t2,t7,t8,t9,t91,t92,t93,hC,e6,WG,ak,aU,encI,Ww,E]
     refine⟨by omega,by omega,?_⟩
     intro c5 I
     have F:=A.new I 3 [aU r]
     have Y:d≠c5:=by rintro rfl;rw[j] at I;simp at I
     try simp(disch:=omega)only[↓wr,seval,wq,t1,t2,t7,t8,t9,t91,t92,t93,set_set]
     refine zm (kt:=3) (et:=3) (z:=gi 0) (by kernel_rfl) (by kernel_rfl) (k5 .i64 Tryz.underlying3) (id:=d) (c:=C) (m:=mm) (k:=r.left) (by simp(disch:=omega)only[↓wr,seval,wq,t9]) (by simp(disch:=omega)only[↓wr,seval,wq]) (by simp[View.set,Y,j]) ?_
     have b5:∀ x,(getM mm x).getD (gi 0)=gi (eo o x):=λx=>by
      rw[D.get,eo];cases eA (jZ o 0) x <;> rfl
     rw[b5]
     simp(disch:=omega)only[↓wr,seval,wq,t1,t2,t7,t8,t9,t91,t92,t93]
     refine aq.D5 (Fx r.right (by omega) _) ?_
     intro v H3 hv K
     have e:=bu.MQ (H:=H2.set c5 (.arr 3 [aU r])) F hv (by rw[set_set] at K;exact K)
     have c6:H3 d=.map (xO mm) C:=by
      rw[(K d (by simp[View.set,Y,j])).1];simp[View.set,Y,j]
     have cv:=hv.cells
     have kv:=hv.fF
     have lv:=hv.len
     have f16:=e.is 1 rfl (by simp)
     simp only[aU,encI] at f16
     simp(disch:=omega)only[↓wr,seval,wq,t1,t2,t7,t8,t9,t91,t92,t93,f16,cv,kv]
     intro e7 J
     have a:=e.new J 3 [[gi (eo o r.left),v,gi r.prec]]
     have e8:d≠e7:=by rintro rfl;rw[c6] at J;simp at J
     try simp(disch:=omega)only[↓wr,seval,wq,t1,t2,t7,t8,t9,t91,t92,t93,cv,kv,lv,set_set,WG]
     generalize hL:((V.sl O 0 1 4,4,[[B,G,u2,gi 0]]) :: (V.sl n3 0 kl.length 1,1,aM kl) ::
       (G,1,tl (o.map λx=>g.ax.getD x.toNat ⟨#[]⟩)) :: (B,3,g.an.map dp) :: (u2,3,kY bs) :: (V.sl Q 0 1 4,4,[[V.emp 1,V.emp 1,V.emp 1,gi 0]]) :: uF bs:List ed)=L at a
     refine bk.up r.right.length (Vp g Q O d c5 e7 (.sl n3 0 kl.length 1) v o kl mm C r L i) ?_ ?_
     .exact⟨by rw[set_set];exact a,by simp[View.set,e8,c6],t1,t2,t7,t8,t9,t91,t92,t93,rfl,rfl,rfl,rfl⟩
     clear F e a I J j c6 f16 hv K t1 t2 t7 t8 t9 t91 t92 t93
     rintro k k2 T H3 e9 ⟨a,j,t1,t2,t7,t8,t9,t91,t92,t93,t17,t113,t114,t115⟩
     have f17:=a.is 0 rfl (by simp)
     simp(disch:=omega)only[↓wr,seval,wq,sY,t1,t2,t7,t8,t9,t91,t92,t93,t17,t113,t114,t115]
     apply aj.dec<;>intro hE
     .have fb:r.right[k]?=some (r.right[k]'(by omega)):=Wp (by omega)
      have ff:r.right[k]'(by omega)∈r.right:=WA _
      have hF:(eS (eo o) r).right.length=r.right.length:=by simp[eS]
      have Z:(eS (eo o) r).right.take (k+1)=(eS (eo o) r).right.take k ++ [if r.right[k]'(by omega) < 0 then -1 - eo o (-1 - r.right[k]'(by omega)) else r.right[k]'(by omega)]:=by
       rw[WY];simp[eS,fb]
      have fl:=fS (show k < r.right.length by omega)
      generalize r.right[k]'(by omega)=s at fb ff Z fl
      obtain⟨⟨s1,s2⟩,s3⟩:=bn s ff
      have hS:=SH o (-1 - s)
      rw[fl] at a
      have hlen:(((eS (eo o) r).right.take k ++ s :: r.right.drop (k+1)).map λx=>[gi x]).length=r.right.length:=by simp;omega
      obtain⟨nv,ev,fm⟩:=(a.own 1 rfl).sl (by rw[hlen];omega)
      rw[hlen] at ev
      subst ev
      have ca:k < ((eS (eo o) r).right.take k ++ s :: r.right.drop (k+1)).length:=by simp;omega
      have ab:=Io ca
      have hG:((eS (eo o) r).right.take k ++ s :: r.right.drop (k+1))[k]'ca=s:=by
       rw[List.getElem_append_right (by simp;omega)]
       simp[show k - min k r.right.length=0 by omega,hF]
      rw[hG] at ab
      simp(disch:=omega)only[↓wr,seval,wq,t1,t2,t7,t8,t9,t91,t92,t93,t17,t113,t114,t115,fm,ab,WG]
      refine⟨by omega,ca,?_⟩
      have fs:((eS (eo o) r).right.take k).length=k:=by rw[XD];omega
      have hI:nv≠d:=Ca a 1 rfl j
      apply aj.dec<;>intro ae
      .rw[Wv ae] at Z
       simp(disch:=omega)only[↓wr,seval,wq,t1,t2,t7,t8,t9,t91,t92,t93,t17,t113,t114,t115,f17]
       refine zm (kt:=3) (et:=3) (z:=gi 0) (by kernel_rfl) (by kernel_rfl) (k5 .i64 Tryz.underlying3) (id:=d) (c:=C) (m:=mm) (k:=-1 - s) (by simp(disch:=omega)only[↓wr,seval,wq,t9]) (by simp(disch:=omega)only[↓wr,seval,wq]) j ?_
       rw[b5]
       simp(disch:=omega)only[↓wr,seval,wq,t1,t2,t7,t8,t9,t91,t92,t93,t17,t113,t114,t115,f17,fm,ab,WG]
       refine⟨by omega,ca,?_⟩
       have al:=((a.at 1 (by simp)).put (es':=((((eS (eo o) r).right.take k ++ s :: r.right.drop (k+1)).map λx=>[gi x]).set k [gi (-1 - eo o (-1 - s))])) (by simp) (by rw[hlen])).perm (.swap _ _ _)
       refine aJ e9 (by omega) ⟨?_,by simp only[View.set,Ws hI.symm];exact j,t1,t2,t7,t8,t9,t91,t92,t93,t17,t113,t114,rfl⟩
       rw[ints_set,DY fs] at al
       rw[Z,Xp]
       rw[ints_set,DY fs]
       exact al
      .rw[Ws ae] at Z
       simp(disch:=omega)only[↓wr,seval,wq,t1,t2,t7,t8,t9,t91,t92,t93,t17,t113,t114,t115]
       refine aJ e9 (by omega) ⟨?_,j,t1,t2,t7,t8,t9,t91,t92,t93,t17,t113,t114,rfl⟩
       rw[Z,Xp]
       exact a
     .rw[WT (by simp[eS];omega),Xb (by omega),Xe] at a
      subst hL
      have f8:=a.is 3 rfl (by simp)
      have cv:=(a.own 1 rfl).cells
      have kv:=(a.own 1 rfl).fF
      have ft:(kY bs).length<=40:=by
       have h1:=XG List.length b4
       simp only[WG,XD] at h1
       simp only[kY,WG]
       omega
      simp(disch:=omega)only[↓wr,seval,wq,t1,t2,t7,t8,t9,t91,t92,t93,t17,t113,t114,t115,f8,f17,cv,kv]
      intro m hm
      have cN:d≠m:=by rintro rfl;rw[j] at hm;simp at hm
      try simp(disch:=omega)only[↓wr,seval,wq,t1,t2,t7,t8,t9,t91,t92,t93,t17,bY]
      have al:=(a.fresh (o:=.arr 3 [[gi (eo o r.left),v,gi r.prec]]) hm).at 7 (by simp)
      refine gE al (by simp[C7,kv]) (by unfold aD;simp at ft ⊢;omega) (by unfold aD;simp at ft ⊢;omega) ?_
      intro fv H4 ar t
      have cu:=ar.head.cells
      have ku:=ar.head.fF
      have c3:=ar.is 4 rfl (by simp)
      have fx:H4 d=.map (xO mm) C:=t.map (b:=d) al.head (by simp[View.set,cN,j])
      have hJ:d≠O:=(Ca ar 4 rfl fx).symm
      simp(disch:=omega)only[↓wr,seval,wq,t1,t2,t7,t8,t9,t91,t92,t93,t17,c3,cu,ku]
      have hK:=(ar.at 4 (by simp)).put (es':=[[B,G,fv,gi 0]]) rfl rfl
      have hM:=((((hK.at 2 (by simp)).tail).at 3 (by simp)).tail)
      refine aJ hk (by omega) ⟨⟨fv,bs ++ [(v,eS (eo o) r)],?_,?_,by simp only[View.set,Ws hJ];exact fx⟩,t1,t2,t7,t8,t9,t91,t92,rfl⟩
      .rw[W6,b4,w,W6];rfl
      .refine hM.perm (.cons _ ?_)
       simp only[uF,kY,W6,WZ,Yy]
       refine .trans ?_ (zl _ 3 (by simp)).symm
       refine .cons _ ?_
       exact(List.perm_append_singleton (v,1,aM (eS (eo o) r).right) ((.sl n3 0 kl.length 1,1,aM kl) :: (G,1,tl (o.map λx=>g.ax.getD x.toNat ⟨#[]⟩)) :: (B,3,g.an.map dp) :: (.sl Q 0 1 4,4,[[.emp 1,.emp 1,.emp 1,gi 0]]) :: uF bs)).symm
    .rw[WT (by omega)] at b4
     have f8:=A.is 0 rfl (by simp)
     have f2:=A.is 5 rfl (by simp)
     have fy:O≠Q:=A.Vj 0 5 rfl rfl (by omega)
     have c1:=(A.own 2 rfl).cells
     have k1:=(A.own 2 rfl).fF
     have c2:=(A.own 4 rfl).cells
     have k2:=(A.own 4 rfl).fF
     have b5:∀ x,(getM mm x).getD (gi 0)=gi (eo o x):=λx=>by
      rw[D.get,eo];cases eA (jZ o 0) x <;> rfl
     simp(disch:=omega)only[↓wr,seval,wq,t1,t2,t7,t8,t9,t91,t92,t93,ak]
     refine zm (kt:=3) (et:=3) (z:=gi 0) (by kernel_rfl) (by kernel_rfl) (k5 .i64 Tryz.underlying3) (id:=d) (c:=C) (m:=mm) (k:=g.start) (by simp(disch:=omega)only[↓wr,seval,wq,t9]) (by simp(disch:=omega)only[↓wr,seval,wq]) j ?_
     rw[b5]
     simp(disch:=omega)only[↓wr,seval,wq,t1,t2,t7,t8,t9,t91,t92,t93,f8,f2,fy,fy.symm,c0,k0,c1,k1,c2,k2]
     intro h' hh
     have F:=A.put (es':=[[B,G,u2,gi (eo o g.start)]]) rfl rfl
     have e:=(F.at 5 (by simp)).put (es':=[[B,G,u2,gi (eo o g.start)]]) rfl rfl
     have hv:h'.view=(H2.set O (.arr 4 [[B,G,u2,gi (eo o g.start)]])).set Q (.arr 4 [[B,G,u2,gi (eo o g.start)]]):=hh
     rw[<-hv] at e
     exact S9 (x:=(⟨g.an,o.map λx=>g.ax.getD x.toNat ⟨#[]⟩,(g.rules.filter (fa p q)).map (eS (eo o)),eo o g.start⟩,kl,0)) (b:=bs) (e.own 4 rfl) (e.own 3 rfl) (e.own 5 rfl) (λy hy=>e.1 y (by
      refine W9 _ (W9 _ (W9 _ (W9 _ (W9 _ (W9 _ ?_)))))
      exact hy)) b4 (e.own 2 rfl)
 .rename_i hr
  intro h' hh
  rw[Ws (by simp[hr])]
  exact GO
theorem JE {l:List Int} {a b:List Bool} {t:Bool} (h:gT a b) (k:hX l a t=true):hX l b t=true:=by
 simp only[hX,WU] at k ⊢
 intro s d
 have:=k s d
 by_cases c:0<=s
 .rw[Wv c] at this ⊢;exact this
 .rw[Ws c] at this ⊢;exact h.2 _ this
theorem gT.QA {a b:List Bool} (h:gT a b) (k:gT b a):a=b:=by
 have h1:=h.cy
 have c:=k.cy
 exact h1.2 (by omega)
def nY (g:ag) (t:Bool) (is:List Bool):Prop:=∀ i,is.getD i false=true->∃ r∈g.rules,r.left.toNat=i/\hX r.right is t=true
theorem nY.step {g:ag} {t:Bool} {is:List Bool} {r:aW} (h:nY g t is) (hr:r∈g.rules):nY g t (fI t is r):=by
 have hle:gT is (fI t is r):=by
  unfold fI
  split
  .exact .set _ _
  .exact .refl _
 intro i hi
 by_cases e:is.getD i false=true
 .obtain⟨c,h1,d,f⟩:=h i e
  exact⟨c,h1,d,JE hle f⟩
 .unfold fI at hi
  by_cases a:hX r.right is t=true
  .rw[Wv a] at hi
   have:r.left.toNat=i:=by
    refine Yp λb=>e ?_
    simp only[Wo,Xs,Ws b] at hi ⊢
    exact hi
   exact⟨r,hr,this,JE hle a⟩
  .rw[Ws a] at hi;exact absurd hi e
theorem nY.fold {g:ag} {t:Bool} : ∀ (l:List aW) (is:List Bool),(∀ r∈l,r∈g.rules)->nY g t is->nY g t (l.foldl (fI t) is)
 | [],is,_,h=>h
 | r :: l,is,a,h=>nY.fold l _ (λx b=>a x (by simp[b])) (h.step (a r (by simp)))
theorem nY.iter {g:ag} {t:Bool} : ∀ (n:Nat) (is:List Bool),nY g t is->nY g t (iter (pt g t) n is)
 | 0,_,h=>h
 | n+1,is,h=>nY.iter n _ (nY.fold g.rules is (λ_ h=>h) h)
theorem L4 (g:ag) (t:Bool):nY g t (bm g t):=by
 unfold bm
 split
 .refine nY.iter _ _ ?_
  intro i hi
  simp only[cZ,Wo,Xu] at hi
  split at hi <;> simp at hi
 .intro i hi;simp at hi
theorem KG (is:List Bool) (s:Int):gT is (mark is s):=by
 unfold mark
 split
 .exact .set _ _
 .exact .refl _
theorem A4:∀ (l:List Int) (is:List Bool),gT is (l.foldl mark is)
 | [],is=>.refl _
 | s :: l,is=>(KG is s).trans (A4 l _)
theorem Gb (p is:List Bool) (r:aW):gT is (oM p is r):=by
 unfold oM
 split
 .exact A4 _ _
 .exact .refl _
theorem Ip (p:List Bool):∀ (l:List aW) (is:List Bool),gT is (l.foldl (oM p) is)
 | [],is=>.refl _
 | r :: l,is=>(Gb p is r).trans (Ip p l _)
theorem Fj {p:List Bool} : ∀ {l:List aW} {is:List Bool},l.foldl (oM p) is=is->∀ r∈l,oM p is r=is
 | [],_,_,_,h=>by simp at h
 | r :: l,is,h,x,a=>by
  rw[Xz] at h
  have h1:=Ip p l (oM p is r)
  rw[h] at h1
  have b:=(h1.QA (Gb p is r))
  rcases WK.1 a with rfl | a
  .exact b
  .rw[b] at h;exact Fj h x a
theorem Et:∀ {l:List Int} {is:List Bool},l.foldl mark is=is->∀ s∈l,mark is s=is
 | [],_,_,_,h=>by simp at h
 | r :: l,is,h,x,a=>by
  rw[Xz] at h
  have h1:=A4 l (mark is r)
  rw[h] at h1
  have b:=(h1.QA (KG is r))
  rcases WK.1 a with rfl | a
  .exact b
  .rw[b] at h;exact Et h x a
theorem Er {g:ag} (hr:bq g=true):y0 g (bm g true) (dy g)=dy g/\gT ((cZ g).set g.start.toNat true) (dy g):=by
 have a:=bK hr
 have h:=sN (sq (bm g true)) g.rules 16 ((cZ g).set g.start.toNat true) (by have:=a.ax;simp[cZ];omega)
 rw[K7,Ou hr] at h
 exact h
theorem Je {g:ag} (hr:bq g=true):(dy g).getD g.start.toNat false=true:=by
 have a:=bK hr
 refine(Er hr).2.2 _ ?_
 have b:=a.lX
 have c:=a.start
 simp only[Wo]
 rw[Yh (by simp[cZ];omega)]
 rfl
theorem L2 {g:ag} (hr:bq g=true) {r:aW} (hm:r∈g.rules) (hk:fa (bm g true) (dy g) r=true) {s:Int} (b:s∈r.right) (c:s < 0):(dy g).getD (-1 - s).toNat false=true:=by
 have d:=bK hr
 have h1:=Fj (Er hr).1 r hm
 unfold oM at h1
 rw[fa] at hk
 rw[Wv hk] at h1
 have a:=Et h1 s b
 unfold mark at a
 rw[Wv c] at a
 rw[<-a]
 have e:=tU hr
 have:=d.neg hm b c
 simp only[Wo]
 rw[Yh (by omega)]
 rfl
theorem Qd {g:ag} (hr:bq g=true) {x:Int} (d:0<=x) (hp:(bm g true).getD x.toNat false=true) (a:(dy g).getD x.toNat false=true):x∈eV (bm g true) (dy g) g.rules:=by
 obtain⟨r,h1,e,b⟩:=L4 g true _ hp
 have c:=bK hr
 have f:=c.left r h1
 have:r.left=x:=by omega
 refine GZ.2 ⟨r,h1,?_,this⟩
 rw[fa,this,a,b];rfl
theorem Mf (g:ag):(if bq g=true then
  if (bm g true).getD g.start.toNat false=true then (AS g (eo (eV (bm g true) (dy g) g.rules)) (bm g true) (dy g),eQ (bm g true) (dy g) g.rules 0,0)
  else (tg,[],9)
 else (tg,[],1))=mJ g:=by
 unfold mJ
 by_cases hr:bq g=true
 .rw[Wv hr,Wv hr]
  by_cases hp:(bm g true).getD g.start.toNat false=true
  .rw[Wv hp,Wv hp]
   have c:=bK hr
   rw[OV]
   .exact Qd hr c.lX hp (Je hr)
   .intro r hm
    obtain⟨h1,a⟩:=XF.1 hm
    refine⟨GZ.2 ⟨r,h1,a,rfl⟩,λs b d=>?_⟩
    refine Qd hr (by omega) ?_ (L2 hr h1 a b d)
    rw[fa,WC] at a
    have:=a.2
    simp only[hX,WU] at this
    have:=this s b
    rwa [Ws (by omega)] at this
  .rw[Ws hp,Ws hp]
 .rw[Ws hr,Ws hr]
theorem LN (g:ag) (a:g.Ok) (b:g.Small):cd Tryz.prog 92 [.agg (ak g)] (DP (mJ g)):=by
 rw[<-Mf];exact Jy g a b
def bT (g:ag) (k:Int):aW:=g.rules.getD k.toNat ⟨0,[],0⟩
theorem getD_some {α:Type} {l:List α} {j:Nat} {d:α} (h:j < l.length):l[j]?=some (l.getD j d):=by simp[Wo,h]
section
variable {g r:ag} {p q:List Bool} {o:List Int}
end
theorem RU {l:List Bool} {i j:Nat} (h:(l.set i true).getD j false=true):j=i∨l.getD j false=true:=by
 by_cases e:i=j
 .exact .inl e.symm
 .right
  simp only[Wo,Xs,Ws e] at h ⊢
  exact h
theorem Mz {g:ag} {i:Nat} : (cZ g).getD i false=false:=by
 simp only[cZ,Wo,Xu]
 split <;> rfl
theorem Ei (t:Bool) (is:List Bool) (R:aW):gT is (fI t is R):=by
 unfold fI
 split
 .exact .set _ _
 .exact .refl _
theorem EI (t:Bool):∀ (l:List aW) (is:List Bool),gT is (l.foldl (fI t) is)
 | [],is=>.refl _
 | R :: l,is=>(Ei t is R).trans (EI t l _)
theorem BN {t:Bool} : ∀ {l:List aW} {is:List Bool},l.foldl (fI t) is=is->∀ R∈l,fI t is R=is
 | [],_,_,_,h=>by simp at h
 | R :: l,is,h,x,a=>by
  rw[Xz] at h
  have h1:=EI t l (fI t is R)
  rw[h] at h1
  have b:=(h1.QA (Ei t is R))
  rcases WK.1 a with rfl | a
  .exact b
  .rw[b] at h;exact BN h x a
theorem Ow {g:ag} (hr:bq g=true) (t:Bool):pt g t (bm g t)=bm g t:=by
 have a:=bK hr
 have h:=sN (mg t) g.rules 16 (cZ g) (by have:=a.ax;simp[cZ];omega)
 rw[Km,GV hr] at h
 exact h.1
theorem yD {g:ag} (hr:bq g=true) {t:Bool} {R:aW} (a:R∈g.rules) (b:hX R.right (bm g t) t=true):(bm g t).getD R.left.toNat false=true:=by
 have h1:=BN (Ow hr t) R a
 have c:=bK hr
 have d:=ky hr t
 have e:=c.left R a
 unfold fI at h1
 rw[Wv b] at h1
 rw[<-h1]
 simp only[Wo]
 rw[Yh (by omega)]
 rfl
section
variable {g r:ag} {p q:List Bool} {o:List Int}
end
def isRed (g:ag):Bool:=(mJ g).2.2 == 0 && decide (g=(mJ g).1)
def r9 (p:List Int) (i:Nat) (s:Int):Prop:=∃ c,p[i]?=some c/\(c=s∨c = -1)
inductive Sp (g:ag) (p:List Int):List Int->Nat->Nat->Prop
 | nil (i:Nat):Sp g p [] i i
 | term (s:Int) (l:List Int) (i j:Nat):0<=s->r9 p i s->Sp g p l (i+1) j->Sp g p (s :: l) i j
 | dQ (s:Int) (l:List Int) (R:aW) (i k j:Nat):s < 0->R∈g.rules->R.left = -1 - s->Sp g p R.right i k->Sp g p l k j->Sp g p (s :: l) i j
theorem Sp.le {g:ag} {p:List Int} {l:List Int} {i j:Nat} (h:Sp g p l i j):i<=j:=by
 induction h with
 | nil=>exact Wz _
 | term _ _ _ _ _ _ _ c=>omega
 | dQ _ _ _ _ _ _ _ _ _ _ _ a b=>omega
theorem Sp.len {g:ag} {p:List Int} {l:List Int} {i j:Nat} (h:Sp g p l i j):i<=p.length->j<=p.length:=by
 induction h with
 | nil=>exact id
 | term _ _ i _ _ d _ e =>
  intro _
  obtain⟨c,f,_⟩:=d
  have:=(Wy.1 f).1
  exact e (by omega)
 | dQ _ _ _ _ _ _ _ _ _ _ _ a b=>exact λh=>b (a h)
theorem Sp.app {g:ag} {p:List Int} {a:List Int} {i k:Nat} (h:Sp g p a i k):∀ {b:List Int} {j:Nat},Sp g p b k j->Sp g p (a ++ b) i j:=by
 induction h with
 | nil=>exact λh=>h
 | term s l i _ c f _ m=>exact λd=>.term s _ i _ c f (m d)
 | dQ s l R i k _ c n o h1 _ _ e=>exact λd=>.dQ s _ R i k _ c n o h1 (e d)
theorem Sp.split {g:ag} {p:List Int} : ∀ {a b:List Int} {i j:Nat},Sp g p (a ++ b) i j->∃ k,Sp g p a i k/\Sp g p b k j
 | [],b,i,j,h=>⟨i,.nil i,h⟩
 | s :: a,b,i,j,h=>by
  cases h with
  | term _ _ _ _ c e h =>
   obtain⟨k,h1,d⟩:=Sp.split h
   exact⟨k,.term s a i k c e h1,d⟩
  | dQ _ _ R _ m _ c f l h1 h =>
   obtain⟨k,d,n⟩:=Sp.split h
   exact⟨k,.dQ s a R i m k c f l h1 d,n⟩
theorem TI {g:ag} (hr:bq g=true) {p l:List Int} {i j:Nat} (h:Sp g p l i j):i=j->hX l (bm g false) false=true:=by
 induction h with
 | nil=>intro _;rfl
 | term _ _ _ _ _ _ h _=>intro e;have:=h.le;omega
 | dQ s l R i k j m c d h1 f a b =>
  intro e
  have n:=h1.le
  have o:=f.le
  have g1:=yD hr c (a (by omega))
  rw[d] at g1
  have g2:=b (by omega)
  simp only[hX,XK,WC] at g2 ⊢
  rw[Ws (by omega)]
  exact⟨g1,g2⟩
def tn (g:ag) (is:List Bool):Prop:=∀ i,is.getD i false=true->∃ R∈g.rules,R.left.toNat=i/\∀ (p:List Int) (k:Nat),Sp g p R.right k k
theorem Hj {g:ag} (a:∀ r∈g.rules,0<=r.left) {is:List Bool} (h:tn g is):∀ l:List Int,hX l is false=true->∀ (p:List Int) (k:Nat),Sp g p l k k
 | [],_,p,k=>.nil k
 | s :: l,b,p,k=>by
  simp only[hX,XK,WC] at b
  obtain⟨h1,e⟩:=b
  by_cases c:0<=s
  .rw[Wv c] at h1;simp at h1
  .rw[Ws c] at h1
   obtain⟨R,d,i,f⟩:=h _ h1
   have:=a R d
   exact .dQ s l R k k k (by omega) d (by omega) (f p k) (Hj a h l e p k)
theorem MJ {g:ag} (hr:bq g=true):tn g (bm g false):=by
 have j:=bK hr
 have b:=λr c=>(j.left r c).1
 have d:∀ (is:List Bool) (R:aW),R∈g.rules->tn g is->tn g (fI false is R):=by
  intro is R k h i hi
  unfold fI at hi
  split at hi
  .rename_i m
   rcases RU hi with rfl | hi
   .exact⟨R,k,rfl,Hj b h R.right m⟩
   .exact h i hi
  .exact h i hi
 have a:∀ (l:List aW) (is:List Bool),(∀ R∈l,R∈g.rules)->tn g is->tn g (l.foldl (fI false) is):=by
  intro l
  induction l with
  | nil=>intro is _ h;exact h
  | cons R l e=>intro is b h;exact e _ (λx o=>b x (by simp[o])) (d is R (b R (by simp)) h)
 have f:∀ (n:Nat) (is:List Bool),tn g is->tn g (iter (pt g false) n is):=by
  intro n
  induction n with
  | zero=>intro is h;exact h
  | succ n e=>intro is h;exact e _ (a g.rules is (λ_ h=>h) h)
 unfold bm
 rw[Wv hr]
 exact f _ _ λi hi=>by rw[Mz] at hi;simp at hi
structure Item where
 av:Nat
 dot:Nat
 dB:Nat
 deriving DecidableEq
def Sound (g:ag) (p:List Int) (at_:Nat) (x:Item):Prop:=∃ R,g.rules[x.av]?=some R/\x.dot<=R.right.length/\x.dB<=at_/\Sp g p (R.right.take x.dot) x.dB at_
structure BJ (g:ag) (p:List Int) (S:Nat->List Item):Prop where
 start:∀ (i:Nat) (R:aW),g.rules[i]?=some R->R.left=g.start->⟨i,0,0⟩∈S 0
 term:∀ a x R s,x∈S a->g.rules[x.av]?=some R->R.right[x.dot]?=some s->0<=s->r9 p a s->⟨x.av,x.dot+1,x.dB⟩∈S (a+1)
 pred:∀ a x R s i R',x∈S a->g.rules[x.av]?=some R->R.right[x.dot]?=some s->s < 0->g.rules[i]?=some R'->R'.left = -1 - s->a<=p.length->⟨i,0,a⟩∈S a
 null:∀ a x R s,x∈S a->g.rules[x.av]?=some R->R.right[x.dot]?=some s->s < 0->(bm g false).getD (-1 - s).toNat false=true->a<=p.length->⟨x.av,x.dot+1,x.dB⟩∈S a
 comp:∀ a y R' x R s,y∈S a->g.rules[y.av]?=some R'->y.dot=R'.right.length->y.dB < a->x∈S y.dB->g.rules[x.av]?=some R->R.right[x.dot]?=some s->s < 0->R'.left = -1 - s->a<=p.length->⟨x.av,x.dot+1,x.dB⟩∈S a
theorem MT {g:ag} (hr:bq g=true) {p:List Int} {S:Nat->List Item} (w:BJ g p S) {l:List Int} {a j:Nat} (h:Sp g p l a j) :
  ∀ (x:Item) (R:aW),x∈S a->g.rules[x.av]?=some R->R.right.drop x.dot=l->x.dot<=R.right.length->a<=p.length->⟨x.av,R.right.length,x.dB⟩∈S j:=by
 induction h with
 | nil i =>
  intro x R d b f hle _
  have:x.dot=R.right.length:=by
   have:=XG List.length f
   simp at this;omega
  rw[<-this];exact d
 | term s l i j u E _ G =>
  intro x R d b f hle hp
  have m:R.right[x.dot]?=some s:=by
   have:=XG (·[0]?) f
   simpa using this
  have n:=(Wy.1 m).1
  have h1:=w.term i x R s d b m u E
  obtain⟨c,y,_⟩:=E
  have H:=(Wy.1 y).1
  refine G ⟨x.av,x.dot+1,x.dB⟩ R h1 b ?_ n (by omega)
  have:=XG List.tail f
  simpa using this
 | dQ s l Q i k j u F z o I A B =>
  intro x R d b f hle hp
  have m:R.right[x.dot]?=some s:=by
   have:=XG (·[0]?) f
   simpa using this
  have n:=(Wy.1 m).1
  obtain⟨q,J,C⟩:=Yd F
  have r:g.rules[q]?=some Q:=by rw[Wp J,C]
  have D:=w.pred i x R s q Q d b m u r z hp
  have t:=A ⟨q,0,i⟩ Q D r (by simp) (by simp) hp
  have hk:=o.len hp
  have v:⟨x.av,x.dot+1,x.dB⟩∈S k:=by
   rcases Nat.lt_or_eq_of_le o.le with e | e
   .exact w.comp k ⟨q,Q.right.length,i⟩ Q x R s t r rfl e d b m u z hk
   .subst e
    have:=yD hr F (TI hr o rfl)
    rw[z] at this
    exact w.null i x R s d b m u this hp
  refine B ⟨x.av,x.dot+1,x.dB⟩ R v b ?_ n hk
  have:=XG List.tail f
  simpa using this
theorem O3 {g:ag} (hr:bq g=true) {p:List Int} {S:Nat->List Item} (j:BJ g p S) (l:∀ a x,x∈S a->Sound g p a x) :
  (∃ x∈S p.length,∃ R,g.rules[x.av]?=some R/\R.left=g.start/\x.dB=0/\x.dot=R.right.length)↔Sp g p [-1 - g.start] 0 p.length:=by
 have m:=bK hr
 have u:=m.lX
 constructor
 .rintro⟨x,n,R,e,o,f,r⟩
  obtain⟨v,c,_,_,b⟩:=l _ x n
  rw[e] at c;simp at c;subst c
  rw[r,X0,f] at b
  exact .dQ _ _ R 0 p.length p.length (by omega) (WI e) (by omega) b (.nil _)
 .intro h
  cases h with
  | term _ _ _ _ h1 _ _=>omega
  | dQ _ _ R _ k _ h1 e o b s =>
   cases s
   obtain⟨q,t,i⟩:=Yd e
   have d:g.rules[q]?=some R:=by rw[Wp t,i]
   have:=MT hr j b ⟨q,0,0⟩ R (j.start q R d (by omega)) d (by simp) (by simp) (by omega)
   exact⟨_,this,R,d,by omega,rfl,rfl⟩
inductive In (p:List Int) (T:Nat->Nat->Nat->Prop):List Int->Nat->Nat->Prop
 | nil (i:Nat):In p T [] i i
 | term (s:Int) (l:List Int) (i j:Nat):0<=s->r9 p i s->In p T l (i+1) j->In p T (s :: l) i j
 | dQ (s:Int) (l:List Int) (i k j:Nat):s < 0->T (-1 - s).toNat i k->In p T l k j->In p T (s :: l) i j
theorem Su {g:ag} {p:List Int} {T:Nat->Nat->Nat->Prop} (c:∀ n i j,T n i j->Sp g p [-1 - (n:Int)] i j) {l:List Int} {i j:Nat} (h:In p T l i j):Sp g p l i j:=by
 induction h with
 | nil i=>exact .nil i
 | term s l i j b d _ a=>exact .term s l i j b d a
 | dQ s l i k j b h1 _ a =>
  have:=c _ _ _ h1
  rw[show -1 - (((-1 - s).toNat:Nat):Int)=s by omega] at this
  exact Sp.app this a
theorem U9 {g:ag} (u:∀ r∈g.rules,0<=r.left) {p:List Int} {T:Nat->Nat->Nat->Prop} (n:∀ R∈g.rules,∀ i j,i<=p.length->In p T R.right i j->T R.left.toNat i j) {l:List Int} {i j:Nat} (h:Sp g p l i j):i<=p.length->In p T l i j:=by
 induction h with
 | nil i=>intro _;exact .nil i
 | term s l i j a b _ o =>
  intro _
  obtain⟨c,m,d⟩:=b
  have:=(Wy.1 m).1
  exact .term s l i j a ⟨c,m,d⟩ (o (by omega))
 | dQ s l R i k j a q t h1 _ e f =>
  intro hp
  have:=n R q i k hp (e hp)
  rw[t] at this
  exact .dQ s l i k j a this (f (h1.len hp))
theorem Pd {g:ag} (b:∀ r∈g.rules,0<=r.left) {p:List Int} {T:Nat->Nat->Nat->Prop} (c:∀ n i j,T n i j->Sp g p [-1 - (n:Int)] i j) (a:∀ R∈g.rules,∀ i j,i<=p.length->In p T R.right i j->T R.left.toNat i j) {n i j:Nat} (hi:i<=p.length) :
  T n i j↔Sp g p [-1 - (n:Int)] i j:=by
 refine⟨c n i j,λh=>?_⟩
 cases h with
 | term _ _ _ _ d _ _=>omega
 | dQ _ _ R _ k _ d e l h1 f =>
  cases f
  have:=a R e i _ hi (U9 b a h1 hi)
  rw[show R.left.toNat=n by omega] at this
  exact this
theorem In.app {p:List Int} {T:Nat->Nat->Nat->Prop} {a:List Int} {i k:Nat} (h:In p T a i k):∀ {b:List Int} {j:Nat},In p T b k j->In p T (a ++ b) i j:=by
 induction h with
 | nil=>exact λh=>h
 | term s l i _ c f _ d=>exact λe=>.term s _ i _ c f (d e)
 | dQ s l i k _ c h1 _ d=>exact λe=>.dQ s _ i k _ c h1 (d e)
theorem In.split {p:List Int} {T:Nat->Nat->Nat->Prop} : ∀ {a b:List Int} {i j:Nat},In p T (a ++ b) i j->∃ k,In p T a i k/\In p T b k j
 | [],b,i,j,h=>⟨i,.nil i,h⟩
 | s :: a,b,i,j,h=>by
  cases h with
  | term _ _ _ _ c e h =>
   obtain⟨k,h1,d⟩:=In.split h
   exact⟨k,.term s a i k c e h1,d⟩
  | dQ _ _ _ m _ c h1 h =>
   obtain⟨k,d,f⟩:=In.split h
   exact⟨k,.dQ s a i m k c h1 d,f⟩
theorem In.le {p:List Int} {T:Nat->Nat->Nat->Prop} (a:∀ n i j,T n i j->i<=j) {l:List Int} {i j:Nat} (h:In p T l i j):i<=j:=by
 induction h with
 | nil=>exact Wz _
 | term _ _ _ _ _ _ _ b=>omega
 | dQ _ _ _ _ _ _ h1 _ b=>have:=a _ _ _ h1;omega
def stepT (p:List Int) (T:Nat->Nat->Nat->Prop) (s:Int) (i j:Nat):Prop:=if 0<=s then r9 p i s/\j=i+1 else T (-1 - s).toNat i j
theorem In.one {p:List Int} {T:Nat->Nat->Nat->Prop} {s:Int} {i j:Nat} : In p T [s] i j↔stepT p T s i j:=by
 unfold stepT
 constructor
 .intro h
  cases h with
  | term _ _ _ _ a b h=>cases h;rw[Wv a];exact⟨b,rfl⟩
  | dQ _ _ _ _ _ a h1 h=>cases h;rw[Ws (by omega)];exact h1
 .intro h
  by_cases a:0<=s
  .rw[Wv a] at h
   obtain⟨b,rfl⟩:=h
   exact .term s [] i _ a b (.nil _)
  .rw[Ws a] at h
   exact .dQ s [] i j j (by omega) h (.nil _)
theorem In.snoc {p:List Int} {T:Nat->Nat->Nat->Prop} {a:List Int} {s:Int} {i j:Nat} : In p T (a ++ [s]) i j↔∃ k,In p T a i k/\stepT p T s k j :=
 ⟨λh=>by obtain⟨k,h1,b⟩:=h.split;exact⟨k,h1,In.one.1 b⟩,λ⟨k,h1,b⟩=>h1.app (In.one.2 b)⟩
abbrev Tb:=List (List (List Bool))
def gJ (T:Tb) (n i j:Nat):Bool:=((T.getD n []).getD i []).getD j false
def jA (T:Tb) (N M:Nat):Prop:=T.length=N/\∀ r∈T,r.length=M/\∀ c∈r,c.length=M
theorem jA.row {T:Tb} {N M n:Nat} (h:jA T N M) (a:n < N):∃ r,T[n]?=some r/\r.length=M/\T.getD n []=r:=by
 have:n < T.length:=by rw[h.1];exact a
 exact⟨T[n],Wp this,(h.2 _ (WA _)).1,by simp[Wo,this]⟩
theorem jA.cell {T:Tb} {N M n i:Nat} (h:jA T N M) (a:n < N) (hi:i < M):∃ r c,T[n]?=some r/\r[i]?=some c/\c.length=M/\(T.getD n []).getD i []=c:=by
 obtain⟨r,hr,d,b⟩:=h.row a
 have h1:i < r.length:=by omega
 refine⟨r,r[i],hr,Wp h1,(h.2 r (WI hr)).2 _ (WA _),?_⟩
 rw[b];simp[Wo,h1]
def oc (T:Tb) (n i j:Nat):Tb:=T.set n ((T.getD n []).set i (((T.getD n []).getD i []).set j true))
def yX (N M:Nat):Tb:=List.replicate N (List.replicate M (List.replicate M false))
theorem Kt (N M:Nat):jA (yX N M) N M:=by
 refine⟨by simp[yX],λr hr=>?_⟩
 simp only[yX,List.mem_replicate] at hr
 obtain⟨_,rfl⟩:=hr
 refine⟨by simp,λc a=>?_⟩
 simp only[List.mem_replicate] at a
 obtain⟨_,rfl⟩:=a
 simp
theorem SY (N M n i j:Nat):gJ (yX N M) n i j=false:=by
 simp only[gJ,yX,Wo,Xu]
 split
 .simp only[WJ,Xu]
  split
  .simp only[WJ,Xu]
   split <;> rfl
  .rfl
 .rfl
theorem Rh {T:Tb} {N M n i j:Nat} (h:jA T N M) (k:n < N) (hi:i < M):jA (oc T n i j) N M:=by
 obtain⟨r,c,hr,m,e,l⟩:=h.cell k hi
 obtain⟨o,a,f,b⟩:=h.row k
 rw[hr] at a;simp at a;subst a
 refine⟨by simp[oc,h.1],λx d=>?_⟩
 rw[oc,b,] at d
 rcases List.mem_or_eq_of_mem_set d with d | rfl
 .exact h.2 x d
 .refine⟨by simp[f],λy g=>?_⟩
  rcases List.mem_or_eq_of_mem_set g with g | rfl
  .exact(h.2 r (WI hr)).2 y g
  .rw[b] at l
   rw[l];simp[e]
theorem Qq {T:Tb} {N M n i j d f k:Nat} (h:jA T N M) (l:n < N) (hi:i < M) (y:j < M):gJ (oc T n i j) d f k=if d=n/\f=i/\k=j then true else gJ T d f k:=by
 obtain⟨r,c,hr,z,u,t⟩:=h.cell l hi
 obtain⟨A,a,v,b⟩:=h.row l
 rw[hr] at a;simp at a;subst a
 have w:n < T.length:=by rw[h.1];exact l
 have m:i < r.length:=by omega
 have o:j < c.length:=by omega
 rw[b] at t
 have g:r.getD i []=c:=t
 simp only[gJ,oc,b,g]
 by_cases p:d=n
 .subst p
  have x:(T.set d (r.set i (c.set j true))).getD d []=r.set i (c.set j true):=by simp[Wo,w]
  rw[x,b]
  by_cases q:f=i
  .subst q
   have a2:(r.set f (c.set j true)).getD f []=c.set j true:=by simp[Wo,m]
   rw[a2,g]
   by_cases s:k=j
   .subst s
    rw[Wv ⟨rfl,rfl,rfl⟩]
    simp[Wo,o]
   .rw[Ws (λe=>s e.2.2)]
    simp[Wo,Xs,Ne.symm s]
  .rw[Ws (λe=>q e.2.1)]
   simp[Wo,Xs,Ne.symm q]
 .rw[Ws (λe=>p e.1)]
  simp[Wo,Xs,Ne.symm p]
def jt (p:List Int) (T:Tb) (s:Int) (a j:Nat):Bool :=
 if 0<=s then decide (a < p.length) && (p.getD a 0 == s || p.getD a 0 == -1) && decide (j=a+1) else decide (a<=j) && gJ T (-1 - s).toNat a j
def eJ (p:List Int) (T:Tb) (s:Int) (now:List Bool) (f a0 j:Nat):Bool:=(List.range a0).any λa=>decide (f<=a) && now.getD a false && jt p T s a j
def fG (M:Nat) (F:Nat->Bool):List Bool:=(List.range M).map F
def mB (p:List Int) (T:Tb) (f:Nat) (now:List Bool) (s:Int):List Bool:=fG (p.length+1) (eJ p T s now f (p.length+1))
def kJ (p:List Int) (T:Tb) (l:List Int) (f:Nat):List Bool:=l.foldl (mB p T f) (fG (p.length+1) λj=>decide (j=f))
theorem kx (M:Nat) (F:Nat->Bool):(fG M F).length=M:=by simp[fG]
theorem IG {M j:Nat} {F:Nat->Bool} (h:j < M):(fG M F).getD j false=F j:=by simp[fG,Wo,h]
theorem KU {M i:Nat} {F:Nat->Bool} (v:Bool):(fG M F).set i v=fG M λj=>if j=i then v else F j:=by
 apply XL (by simp[fG])
 intro j h1 a
 simp only[fG,WG,List.length_range] at a
 simp only[fG,List.getElem_set,List.getElem_map,List.getElem_range]
 by_cases e:i=j
 .subst e;simp
 .rw[Ws e,Ws (Ne.symm e)]
theorem kS {M:Nat} {F G:Nat->Bool} (h:∀ j,j < M->F j=G j):fG M F=fG M G:=by
 unfold fG
 apply Xy
 intro j a
 exact h j (by simpa using a)
theorem x6 (p:List Int) (T:Tb) (f:Nat):∀ (l:List Int) (now:List Bool),now.length=p.length+1->(l.foldl (mB p T f) now).length=p.length+1
 | [],_,h=>h
 | s :: l,now,_=>x6 p T f l _ (by rw[mB,kx])
theorem Fa (p:List Int) (T:Tb) (l:List Int) (f:Nat):(kJ p T l f).length=p.length+1:=x6 p T f l _ (kx _ _)
theorem Mc (p:List Int) (T:Tb) (s:Int) (now:List Bool) (f a j:Nat):eJ p T s now f (a+1) j=(eJ p T s now f a j || (decide (f<=a) && now.getD a false && jt p T s a j)):=by
 simp[eJ,X4]
theorem Jk (p:List Int) (T:Tb) (s:Int) (now:List Bool) (f j:Nat):eJ p T s now f f j=false:=by
 simp only[eJ,List.any_eq_false,XA]
 intro a b
 rw[decide_eq_false (by omega)];simp
def mD (T:Tb):V:=.aL (T.map λr=>[.aL (r.map λc=>[cB c])])
theorem LK (T:Tb):Tree (mD T):=eK _ _ λr _ v a=>by
 simp at a;subst a
 exact eK _ _ λc _ v a=>by simp at a;subst a;exact kW c
def nT:SC :=
 ai [ai [af [aa 75 13,aa 76 1,aQ 77 76,aZ 78 .leq 75 77],cp 78 (.exit 4)],.block 5 (.region false [⟨none,[aa 81 11,aa 82 13,aa 83 11,aa 84 13,aY 85 1 83 84,au 86 85,aa 87 86]⟩,⟨(some (87,false)),[aa 88 2,aa 89 0,aa 90 10,aY 91 1 89 90,au 92 91,((some 93),.op (.arith .sub (.val (.val (.int .i64 (-1)))) (.tmp 92))),aY 94 1 88 93,au 95 94,aa 96 12,aY 97 1 95 96,au 98 97,aa 99 13,aY 100 1 98 99,au 101 100]⟩,⟨none,[b6 102 87 101,aY 103 1 81 82,df 1 103 102]⟩]),af [aa 79 13,aF 80 .add 79 1,aa 13 80]]
def nJ:SC :=
 ai [ai [af [aa 32 12,aa 33 1,aQ 34 33,aZ 35 .leq 32 34],cp 35 (.exit 2)],.block 3 (ai [ai [af [aa 38 9,aa 39 12,aY 40 1 38 39,au 41 40,cW 42 41],bf 42 (.exit 3)],ai [af [aa 43 0,aa 44 10,aY 45 1 43 44,au 46 45,aF 47 .geq 46 0],bf 47 (ai [ai [.region false [⟨none,[aa 48 12,aa 49 1,aQ 50 49,aZ 51 .lss 48 50,aa 52 51]⟩,⟨(some (52,true)),[aa 53 1,aa 54 12,aY 55 1 53 54,au 56 55,aa 57 0,aa 58 10,aY 59 1 57 58,au 60 59,aZ 61 .eql 56 60,aa 62 61]⟩,⟨(some (62,false)),[aa 63 1,aa 64 12,aY 65 1 63 64,au 66 65,aF 67 .eql 66 (-1)]⟩,⟨(some (52,true)),[b6 68 62 67]⟩,⟨none,[fe 69 52 68]⟩],bf 69 (af [aa 70 11,aa 71 12,aF 72 .add 71 1,aY 73 1 70 72,(none,.op (.store 1 (.tmp 73) (.val (.val (.bool true)))))])],.exit 3])],af [aa 74 12,aa 13 74],cz 4 nT]),af [aa 36 12,aF 37 .add 36 1,aa 12 37]]
def ot:SC :=
 ai [ai [af [aa 21 10,aa 22 0,aQ 23 22,aZ 24 .lss 21 23],cp 24 (.exit 0)],.block 1 (ai [af [aa 27 1,aQ 28 27,aF 29 .add 28 1,((some 30),.op (.make 1 1 [(.val (.bool false))] (.tmp 29) (.tmp 29))),aa 11 30],ai [af [aa 31 3,aa 12 31],cz 2 nJ],af [aa 104 11,aa 9 104]]),af [aa 25 10,aF 26 .add 25 1,aa 10 26]]
def qc:SF:=⟨ai [af [b7 8 1],af [aa 14 1,aQ 15 14,aF 16 .add 15 1,((some 17),.op (.make 1 1 [(.val (.bool false))] (.tmp 16) (.tmp 16))),aa 9 17],af [aa 18 9,aa 19 3,aY 20 1 18 19,(none,.op (.store 1 (.tmp 20) (.val (.val (.bool true)))))],ai [af [bb 10 0],cz 0 ot],af [aa 105 9,aa 8 105],.ret],
 [.tmp 8],106⟩
theorem uI:aG Tryz.prog 200 []=some qc:=by kernel_rfl
theorem q9 {l:List Bool} {i:Nat} (h:i < l.length):(bH l).getD i []=[gb (l.getD i false)]:=by simp[Wo,h]
theorem SQ (l p:List Int) (T:Tb) (f N:Nat) (hl:aC l) (hp:p.length<=1000) (hT:jA T N (p.length+1)) (hf:f<=p.length) (hn:∀ x∈l,ba x/\(x < 0->-1 - x < N)) :
  cd Tryz.prog 200 [encI l,encI p,mD T,gi f] (cB (kJ p T l f)):=by
 unfold aC at hl
 have hM:((p.length:Int)+1).toNat=p.length+1:=by omega
 refine cd.of (by
  intro v Y;simp at Y
  rcases Y with rfl | rfl | rfl | rfl
  .exact aX l
  .exact aX p
  .exact LK T
  .exact .val _) ?_
 refine ao.of mixed uI ?_
 simp(disch:=omega)only[↓wr,seval,wq,qc,encI]
 refine⟨⟨by omega,by unfold aD;omega,by unfold aD;omega⟩,λh=>by omega,?_⟩
 intro _ b
 try simp(disch:=omega)only[↓wr,seval,wq,encI]
 refine⟨by omega,by simp;omega,?_⟩
 have E:(List.replicate (p.length+1) [gb false]).set f [gb true]=bH (fG (p.length+1) λj=>decide (j=f)):=by
  rw[show List.replicate (p.length+1) [gb false]=bH (List.replicate (p.length+1) false) by simp,lu]
  congr 1
  apply XL (by simp[fG])
  intro j h1 h2
  simp only[fG,List.getElem_set,List.getElem_replicate,List.getElem_map,List.getElem_range]
  by_cases e:f=j
  .subst e;simp
  .rw[Ws e];simp[Ne.symm e]
 refine bk.up l.length (λq a H'=>∃ (b:Nat),a 9=.sl b 0 (p.length+1) 1/\H' b=.arr 1 (bH ((l.take q).foldl (mB p T f) (fG (p.length+1) λj=>decide (j=f))))/\a 0=encI l/\a 1=encI p/\a 2=mD T/\a 3=gi f/\a 10=gi q) ?_ ?_
 .refine⟨b,rfl,?_,rfl,rfl,rfl,rfl,rfl⟩
  simp only[View.set,if_true]
  rw[Wo,Xu,Wv (by omega)]
  rw[List.take_zero,List.foldl_nil,<-E];rfl
 rintro q k a H hk ⟨b,t9,o,t0,t1,t2,t3,t10⟩
 have P:=x6 p T f (l.take q) (fG (p.length+1) λj=>decide (j=f)) (kx _ _)
 have F:∀ x,l[q]?=some x->(l.take (q+1)).foldl (mB p T f) (fG (p.length+1) λj=>decide (j=f))=mB p T f ((l.take q).foldl (mB p T f) (fG (p.length+1) λj=>decide (j=f))) x:=λx hx=>by
  rw[WY,hx,X2];rfl
 simp(disch:=omega)only[↓wr,seval,wq,ot,t0,t1,t2,t3,t9,t10,encI]
 apply aj.dec<;>intro hc
 .have O:l[q]?=some (l[q]'(by omega)):=Wp (by omega)
  have D:l[q]'(by omega)∈l:=WA _
  have G:=F _ O
  generalize l[q]'(by omega)=s at O D G
  generalize (l.take q).foldl (mB p T f) (fG (p.length+1) λj=>decide (j=f))=now at o P G
  obtain⟨⟨bl,br⟩,Z⟩:=hn s D
  simp(disch:=omega)only[↓wr,seval,wq,t0,t1,t2,t3,t9,t10,encI]
  refine⟨⟨by omega,by unfold aD;omega,by unfold aD;omega⟩,λh=>by omega,?_⟩
  intro _ d w
  have A:b≠d:=by rintro rfl;rw[o] at w;simp at w
  try simp(disch:=omega)only[↓wr,seval,wq,t0,t1,t2,t3,t9,t10,encI]
  refine bk.up (p.length+1 - f) (λi a H'=>H' b=.arr 1 (bH now)/\H' d=.arr 1 (bH (fG (p.length+1) (eJ p T s now f (f+i))))/\a 9=.sl b 0 (p.length+1) 1/\a 11=.sl d 0 (p.length+1) 1/\a 0=encI l/\a 1=encI p/\a 2=mD T/\a 3=gi f/\a 10=gi q/\a 12=gi ((f+i:Nat):Int)) ?_ ?_
  .refine⟨by simp[View.set,A,o],?_,t9,rfl,t0,t1,t2,t3,t10,rfl⟩
   simp only[View.set,if_true]
   rw[hM,show List.replicate (p.length+1) [V.val (Value.bool false)]=bH (List.replicate (p.length+1) false) by simp]
   congr 2
   apply XL (by simp[fG])
   intro j h1 h2
   simp only[fG,List.getElem_replicate,List.getElem_map,List.getElem_range]
   rw[XW,Jk]
  clear w o t0 t1 t2 t3 t9 t10
  rintro i m a H hm ⟨o,w,t9,t11,t0,t1,t2,t3,t10,t12⟩
  simp(disch:=omega)only[↓wr,seval,wq,nJ,t0,t1,t2,t3,t9,t10,t11,t12,encI]
  apply aj.dec<;>intro ae
  .have al:=q9 (l:=now) (i:=f+i) (by omega)
   simp(disch:=omega)only[↓wr,seval,wq,t0,t1,t2,t3,t9,t10,t11,t12,o,al]
   refine⟨by omega,by omega,?_⟩
   have t:=Mc p T s now f (f+i)
   rw[Xc (show f<=f+i by omega),Xj] at t
   have bs:∀ j,(λj=>eJ p T s now f (f+i) j) j=eJ p T s now f (f+i) j:=λ_=>rfl
   generalize now.getD (f+i) false=bn at t
   apply aj.split<;>intro I
   .subst I
    simp only[Xj] at t
    simp(disch:=omega)only[↓wr,seval,wq,t0,t1,t2,t3,t9,t10,t11,t12,encI,Ww,O]
    apply aj.dec<;>intro J
    .have z:∀ j,jt p T s (f+i) j=(decide (f+i < p.length) && (p.getD (f+i) 0 == s || p.getD (f+i) 0 == -1) && decide (j=f+i+1)):=λj=>by rw[jt,Wv (show 0<=s from J)]
     simp(disch:=omega)only[↓wr,seval,wq,t0,t1,t2,t3,t9,t10,t11,t12,encI]
     apply aj.dec<;>intro ha
     .have K:p[f+i]?=some (p.getD (f+i) 0):=by simp[Wo,show f+i < p.length by omega]
      generalize p.getD (f+i) 0=c at K z
      have g:∀ v:Bool,(bH (fG (p.length+1) (eJ p T s now f (f+i)))).set (f+i+1) [gb v]=bH (fG (p.length+1) λj=>if j=f+i+1 then v else eJ p T s now f (f+i) j):=λv=>by rw[lu,KU]
      have y:=q9 (l:=fG (p.length+1) (eJ p T s now f (f+i))) (i:=f+i+1) (by rw[kx];omega)
      have Q:(c=s∨c = -1)->bH (fG (p.length+1) (eJ p T s now f (f+(i+1))))=bH (fG (p.length+1) λj=>if j=f+i+1 then true else eJ p T s now f (f+i) j):=λB=>by
       congr 1
       refine kS λj _=>?_
       rw[<-W7,t,z]
       by_cases e:j=f+i+1
       .rw[Wv e,Xc (show f+i < p.length by omega),Xc e]
        rcases B with h | h <;> simp[h]
       .rw[Ws e,decide_eq_false e];simp
      have ar:¬ (c=s∨c = -1)->bH (fG (p.length+1) (eJ p T s now f (f+(i+1))))=bH (fG (p.length+1) (eJ p T s now f (f+i))):=λB=>by
       congr 1
       refine kS λj _=>?_
       rw[<-W7,t,z,show (c == s || c == -1)=false by simp;omega];simp
      have R:((f+i:Nat):Int)+1=((f+i+1:Nat):Int):=by omega
      have ga:∀ {C:Env} {H2:View},C 9=.sl b 0 (p.length+1) 1->C 11=.sl d 0 (p.length+1) 1->C 0=encI l->C 1=encI p->C 2=mD T->C 3=gi f->C 10=gi q->C 12=gi (((f+i:Nat):Int)+1)->H2 b=.arr 1 (bH now)->H2 d=.arr 1 (bH (fG (p.length+1) (eJ p T s now f (f+(i+1))))) ->
        ∃ k',k' < m/\Is (p.length+1 - f) k' (λi a H'=>H' b=.arr 1 (bH now)/\H' d=.arr 1 (bH (fG (p.length+1) (eJ p T s now f (f+i))))/\a 9=.sl b 0 (p.length+1) 1/\a 11=.sl d 0 (p.length+1) 1/\a 0=encI l/\a 1=encI p/\a 2=mD T/\a 3=gi f/\a 10=gi q/\a 12=gi ((f+i:Nat):Int)) C H2:=λa9 a6 a0 a1 a2 a3 a7 a12 ab ad=>aJ hm (by omega) ⟨ab,ad,a9,a6,a0,a1,a2,a3,a7,by rw[a12];rfl⟩
      simp(disch:=omega)only[↓wr,seval,wq,t0,t1,t2,t3,t9,t10,t11,t12,encI,Ww,O,K]
      apply aj.eq<;>intro B
      .simp(disch:=omega)only[↓wr,seval,wq,t0,t1,t2,t3,t9,t10,t11,t12,R,w]
       refine⟨by omega,by rw[kx];omega,?_⟩
       refine ga t9 t11 t0 t1 t2 t3 t10 rfl (by simp[View.set,A,o]) ?_
       simp only[View.set,if_true]
       rw[y,Q (.inl B),<-g true];rfl
      .simp(disch:=omega)only[↓wr,seval,wq,t0,t1,t2,t3,t9,t10,t11,t12,encI,Ww,O,K]
       apply aj.eq<;>intro S
       .simp(disch:=omega)only[↓wr,seval,wq,t0,t1,t2,t3,t9,t10,t11,t12,R,w]
        refine⟨by omega,by rw[kx];omega,?_⟩
        refine ga t9 t11 t0 t1 t2 t3 t10 rfl (by simp[View.set,A,o]) ?_
        simp only[View.set,if_true]
        rw[y,Q (.inr S),<-g true];rfl
       .simp(disch:=omega)only[↓wr,seval,wq,t0,t1,t2,t3,t9,t10,t11,t12]
        exact ga t9 t11 t0 t1 t2 t3 t10 rfl o (by rw[ar (by omega)];exact w)
     .simp(disch:=omega)only[↓wr,seval,wq,t0,t1,t2,t3,t9,t10,t11,t12]
      refine aJ hm (by omega) ⟨o,?_,t9,t11,t0,t1,t2,t3,t10,rfl⟩
      rw[w,<-W7]
      refine XG (λl=>bN.arr 1 (bH l)) (kS λj _=>?_)
      rw[t,z,decide_eq_false (show ¬ f+i < p.length by omega)];simp
    .have bx : -1 - s < N:=Z (by omega)
     obtain⟨row,cell,U,L,b0,a8⟩:=hT.cell (n:=(-1 - s).toNat) (i:=f+i) (by omega) (by omega)
     have z:∀ j,jt p T s (f+i) j=(decide (f+i<=j) && cell.getD j false):=λj=>by
      rw[jt,Ws (show ¬ 0<=s from J),gJ,a8]
     simp(disch:=omega)only[↓wr,seval,wq,t0,t1,t2,t3,t9,t10,t11,t12]
     refine bk.up (p.length+1 - (f+i)) (λr a H'=>H' b=.arr 1 (bH now)/\H' d=.arr 1 (bH (fG (p.length+1) λj=>eJ p T s now f (f+i) j || (decide (j < f+i+r) && jt p T s (f+i) j)))/\a 9=.sl b 0 (p.length+1) 1/\a 11=.sl d 0 (p.length+1) 1/\a 0=encI l/\a 1=encI p/\a 2=mD T/\a 3=gi f/\a 10=gi q/\a 12=gi ((f+i:Nat):Int)/\a 13=gi ((f+i+r:Nat):Int)) ?_ ?_
     .refine⟨o,?_,t9,t11,t0,t1,t2,t3,t10,t12,rfl⟩
      rw[w]
      refine XG (λl=>bN.arr 1 (bH l)) (kS λj _=>?_)
      rw[z]
      by_cases e:j < f+i
      .rw[decide_eq_false (show ¬ f+i<=j by omega)];simp
      .rw[decide_eq_false (show ¬ j < f+i+0 by omega)];simp
     clear w o t0 t1 t2 t3 t9 t10 t11 t12
     rintro r u a H hu ⟨o,w,t9,t11,t0,t1,t2,t3,t10,t12,t13⟩
     simp(disch:=omega)only[↓wr,seval,wq,nT,t0,t1,t2,t3,t9,t10,t11,t12,t13,encI]
     apply aj.dec<;>intro bd
     .have hF:∀ j,(eJ p T s now f (f+i) j || (decide (j < f+i+(r+1)) && jt p T s (f+i) j))=if j=f+i+r then (eJ p T s now f (f+i) j || jt p T s (f+i) j) else (eJ p T s now f (f+i) j || (decide (j < f+i+r) && jt p T s (f+i) j)):=λj=>by
       by_cases e:j=f+i+r
       .rw[Wv e,Xc (show j < f+i+(r+1) by omega),Xj]
       .rw[Ws e]
        congr 2
        simp only[decide_eq_decide];omega
      have y:=q9 (l:=fG (p.length+1) λj=>eJ p T s now f (f+i) j || (decide (j < f+i+r) && jt p T s (f+i) j)) (i:=f+i+r) (by rw[kx];omega)
      rw[IG (by omega),decide_eq_false (show ¬ f+i+r < f+i+r by omega),XQ,Bool.or_false] at y
      have W:=z (f+i+r)
      rw[Xc (show f+i<=f+i+r by omega),Xj] at W
      have X:cell[f+i+r]?=some (cell.getD (f+i+r) false):=by simp[Wo,show f+i+r < cell.length by omega]
      have g:∀ v,v=(eJ p T s now f (f+i) (f+i+r) || jt p T s (f+i) (f+i+r))->(bH (fG (p.length+1) λj=>eJ p T s now f (f+i) j || (decide (j < f+i+r) && jt p T s (f+i) j))).set (f+i+r) [gb v]=bH (fG (p.length+1) λj=>eJ p T s now f (f+i) j || (decide (j < f+i+(r+1)) && jt p T s (f+i) j)):=λv Y=>by
       rw[lu,KU]
       refine XG bH (kS λj _=>?_)
       rw[hF]
       by_cases e:j=f+i+r
       .subst e;rw[Wv rfl,Wv rfl,Y]
       .rw[Ws e,Ws e]
      rw[W] at g
      generalize cell.getD (f+i+r) false=cv at X g
      generalize eJ p T s now f (f+i) (f+i+r)=pv at y g
      simp(disch:=omega)only[↓wr,seval,wq,t0,t1,t2,t3,t9,t10,t11,t12,t13,w,y]
      refine⟨by omega,by rw[kx];omega,?_⟩
      apply aj.split<;>intro M
      .simp(disch:=omega)only[↓wr,seval,wq,t0,t1,t2,t3,t9,t10,t11,t12,t13,w]
       refine⟨by omega,by rw[kx];omega,aJ hu (by omega) ⟨by simp[View.set,A,o],?_,t9,t11,t0,t1,t2,t3,t10,t12,rfl⟩⟩
       simp only[View.set,if_true]
       rw[y,<-g true (by rw[M];rfl)];rfl
      .simp(disch:=omega)only[↓wr,seval,wq,t0,t1,t2,t3,t9,t10,t11,t12,t13,encI,mD,cB,Ww,O,U,L,X,w]
       refine⟨by omega,by rw[kx];omega,aJ hu (by omega) ⟨by simp[View.set,A,o],?_,t9,t11,t0,t1,t2,t3,t10,t12,rfl⟩⟩
       simp only[View.set,if_true]
       rw[y,<-g cv (by rw[M];rfl)];rfl
     .simp(disch:=omega)only[↓wr,seval,wq,t0,t1,t2,t3,t9,t10,t11,t12,t13]
      have hr:f+i+r=p.length+1:=by omega
      refine aJ hm (by omega) ⟨o,?_,t9,t11,t0,t1,t2,t3,t10,rfl⟩
      rw[w,<-W7]
      refine XG (λl=>bN.arr 1 (bH l)) (kS λj hj=>?_)
      rw[t,hr,Xc hj,Xj]
   .subst I
    simp only[XQ,Bool.or_false] at t
    simp(disch:=omega)only[↓wr,seval,wq,t0,t1,t2,t3,t9,t10,t11,t12]
    refine aJ hm (by omega) ⟨o,?_,t9,t11,t0,t1,t2,t3,t10,by rfl⟩
    rw[w,<-W7]
    exact XG (λl=>bN.arr 1 (bH l)) (kS λj _=>(t j).symm)
  .have hi:f+i=p.length+1:=by omega
   rw[hi] at w
   simp(disch:=omega)only[↓wr,seval,wq,t0,t1,t2,t3,t9,t10,t11,t12]
   refine aJ hk (by omega) ⟨d,rfl,?_,t0,t1,t2,t3,rfl⟩
   rw[G];exact w
 .have e:q=l.length:=by omega
  subst e
  rw[X0] at o P
  simp(disch:=omega)only[↓wr,seval,wq,t0,t1,t2,t3,t9,t10]
  intro h' hh
  have:=yH (h:=h') (id:=b) (is:=kJ p T l f) (by rw[hh];exact o)
  rwa [Fa] at this
def CB (T:Tb) (n i j:Nat):Prop:=i<=j/\gJ T n i j=true
theorem EB {p:List Int} {T:Tb} {s:Int} {a j:Nat} : jt p T s a j=true↔stepT p (CB T) s a j:=by
 unfold jt stepT
 split
 .simp only[WC,WH,Yc,Xw]
  constructor
  .rintro⟨⟨h1,b⟩,d⟩
   exact⟨⟨p.getD a 0,by simp[Wo,h1],b⟩,d⟩
  .rintro⟨⟨c,e,b⟩,d⟩
   have h1:=(Wy.1 e).1
   have:p.getD a 0=c:=by simp[Wo,e]
   exact⟨⟨h1,by rw[this];exact b⟩,d⟩
 .simp only[WC,WH];rfl
theorem GH {T:Tb} : ∀ n i j,CB T n i j->i<=j:=λ_ _ _ h=>h.1
theorem Ic {p:List Int} {T:Tb} {f:Nat} (i:f<=p.length):∀ (l pre:List Int) (now:List Bool),(∀ j,j<=p.length->(now.getD j false=true↔In p (CB T) pre f j)) ->
  ∀ j,j<=p.length->((l.foldl (mB p T f) now).getD j false=true↔In p (CB T) (pre ++ l) f j)
 | [],pre,now,h,j,b=>by rw[Xe];exact h j b
 | s :: l,pre,now,h,j,b=>by
  have k:∀ j,j<=p.length->((mB p T f now s).getD j false=true↔In p (CB T) (pre ++ [s]) f j):=λj b=>by
   rw[mB,IG (by omega),In.snoc]
   simp only[eJ,XZ,XA,WC,WH]
   constructor
   .rintro⟨a,g,⟨_,c⟩,d⟩
    exact⟨a,(h a (by omega)).1 c,EB.1 d⟩
   .rintro⟨a,c,d⟩
    have hle:=c.le GH
    have g:a<=p.length:=by
     have e:=d
     unfold stepT at e
     split at e
     .omega
     .have:=e.1;omega
    exact⟨a,by omega,⟨hle,(h a g).2 c⟩,EB.2 d⟩
  have:=Ic i l (pre ++ [s]) (mB p T f now s) k j b
  rwa [Xp] at this
theorem GI {p:List Int} {T:Tb} {l:List Int} {f:Nat} (b:f<=p.length) {j:Nat} (a:j<=p.length):(kJ p T l f).getD j false=true↔In p (CB T) l f j:=by
 have:=Ic (T:=T) b l [] (fG (p.length+1) λj=>decide (j=f)) (λj a=>by
  rw[IG (by omega),WH]
  constructor
  .rintro rfl;exact .nil _
  .intro h;cases h;rfl) j a
 exact this
open Classical in
noncomputable def zP (g:ag) (p:List Int):Tb:=(List.range g.ax.length).map λ(n:Nat)=>(List.range (p.length+1)).map λ(i:Nat)=>(List.range (p.length+1)).map λ(j:Nat)=>decide (Sp g p [-1 - (n:Int)] i j)
theorem Pt (g:ag) (p:List Int):jA (zP g p) g.ax.length (p.length+1):=by
 refine⟨by simp[zP],λr hr=>?_⟩
 simp only[zP,WQ] at hr
 obtain⟨n,_,rfl⟩:=hr
 refine⟨by simp,λc a=>?_⟩
 simp only[WQ] at a
 obtain⟨i,_,rfl⟩:=a
 simp
theorem NK {g:ag} {p:List Int} {n i j:Nat} (a:n < g.ax.length) (hi:i<=p.length) (b:j<=p.length):gJ (zP g p) n i j=true↔Sp g p [-1 - (n:Int)] i j:=by
 simp[gJ,zP,Wo,a,show i < p.length+1 by omega,show j < p.length+1 by omega]
theorem Ux {S T:Tb} {N M:Nat} (a:jA S N M) (b:jA T N M) (h:∀ n i j,n < N->i < M->j < M->gJ S n i j=gJ T n i j):S=T:=by
 apply XL (by rw[a.1,b.1])
 intro n h1 c
 have f:n < N:=by rw[<-a.1];exact h1
 have g:=(a.2 _ (WA h1)).1
 have a2:=(b.2 _ (WA c)).1
 apply XL (by rw[g,a2])
 intro i d e
 have hi:i < M:=by omega
 have k:=(a.2 _ (WA h1)).2 _ (WA d)
 have l:=(b.2 _ (WA c)).2 _ (WA e)
 apply XL (by rw[k,l])
 intro j m o
 have:=h n i j f hi (by omega)
 simpa [gJ,Wo,h1,c,d,e,m,o] using this
theorem TW {g:ag} {p:List Int} {T:Tb} (c:∀ r∈g.rules,0<=r.left) (m:∀ r∈g.rules,r.left < g.ax.length) (d:jA T g.ax.length (p.length+1)) (b:∀ n i j,CB T n i j->Sp g p [-1 - (n:Int)] i j)
  (e:∀ n i j,gJ T n i j=true->i<=j) (f:∀ R∈g.rules,∀ i j,i<=j->j<=p.length->(kJ p T R.right i).getD j false=true->gJ T R.left.toNat i j=true):T=zP g p:=by
 refine Ux d (Pt g p) λn i j k hi o=>?_
 rw[Xm,NK k (by omega) (by omega)]
 have a:∀ R∈g.rules,∀ i j,i<=p.length->In p (CB T) R.right i j->CB T R.left.toNat i j:=λR l i j hi h=>by
  have hle:=h.le GH
  have hlen:=(Su b h).len hi
  exact⟨hle,f R l i j hle hlen ((GI hi hlen).2 h)⟩
 rw[<-Pd c b a (by omega)]
 exact⟨λh=>⟨e n i j h,h⟩,λh=>h.2⟩
structure nZ (H:View) (I N M:Nat) (R:Nat->Nat) (C:Nat->Nat->Nat) (T:Tb):Prop where
 top:H I=.arr 1 ((List.range N).map λn=>[.sl (R n) 0 M 1])
 row:∀ n,n < N->H (R n)=.arr 1 ((List.range M).map λi=>[.sl (C n i) 0 M 1])
 cell:∀ n i,n < N->i < M->H (C n i)=.arr 1 (bH ((T.getD n []).getD i []))
 inj:∀ n i n' i',n < N->i < M->n' < N->i' < M->C n i=C n' i'->n=n'/\i=i'
theorem GK {c:List Bool} {k:Nat} {F:Nat->List V} (a:0 < c.length) (h:bH c=(List.range k).map F) (b:∀ n x,F n≠[gb x]):False:=by
 cases c with
 | nil=>simp at a
 | cons x c =>
  cases k with
  | zero=>simp at h
  | succ k =>
   rw[List.range_succ_eq_map] at h
   simp only[WZ,List.cons.injEq] at h
   exact b 0 x h.1.symm
theorem nZ.keep {H H':View} {I N M:Nat} {R:Nat->Nat} {C:Nat->Nat->Nat} {T:Tb} (h:nZ H I N M R C T) (hk:∀ id,H id≠.dead->H' id=H id):nZ H' I N M R C T :=
 ⟨by rw[hk _ (by rw[h.top];simp)];exact h.top,λn a=>by rw[hk _ (by rw[h.row n a];simp)];exact h.row n a,λn i a hi=>by rw[hk _ (by rw[h.cell n i a hi];simp)];exact h.cell n i a hi,h.inj⟩
theorem nZ.put {H:View} {I N M:Nat} {R:Nat->Nat} {C:Nat->Nat->Nat} {T:Tb} (h:nZ H I N M R C T) (g:jA T N M) {n i j:Nat} (d:n < N) (hi:i < M) (v:j < M) :
  nZ (H.set (C n i) (.arr 1 (bH (((T.getD n []).getD i []).set j true)))) I N M R C (oc T n i j):=by
 obtain⟨r,c,hr,w,o,p⟩:=g.cell d hi
 have a:=h.cell n i d hi
 rw[p] at a
 have s:I≠C n i:=λe=>by
  have:=h.top
  rw[e,a] at this
  simp only[bN.arr.injEq,true_and] at this
  exact GK (by omega) this λ_ _=>by simp
 have t:∀ m,m < N->R m≠C n i:=λm hm e=>by
  have:=h.row m hm
  rw[e,a] at this
  simp only[bN.arr.injEq,true_and] at this
  exact GK (by omega) this λ_ _=>by simp
 refine⟨by simp only[View.set,Ws s];exact h.top,λm hm=>by simp only[View.set,Ws (t m hm)];exact h.row m hm,λm q hm k=>?_,h.inj⟩
 obtain⟨x,b,l,u⟩:=g.row d
 rw[hr] at b;simp at b;subst b
 have f:n < T.length:=by rw[g.1];exact d
 by_cases e:C m q=C n i
 .obtain⟨rfl,rfl⟩:=h.inj m q n i hm k d hi e
  simp only[View.set,if_true]
  congr 2
  rw[oc]
  simp[Wo,f]
  rw[Xs]
  have:q < T[m].length:=by
   have:=(Wy.1 hr).2
   rw[this,l];exact k
  simp[this]
 .simp only[View.set,Ws e]
  rw[h.cell m q hm k]
  congr 2
  rw[oc]
  by_cases em:n=m
  .subst em
   have eq:i≠q:=λe'=>e (by rw[e'])
   simp[Wo,f,Xs,eq]
  .simp[Wo,Xs,em]
theorem nZ.Vi {h:Heap} {I N M:Nat} {R:Nat->Nat} {C:Nat->Nat->Nat} {T:Tb} (f:nZ h.view I N M R C T) (e:jA T N M):du h (.sl I 0 N 1) (mD T):=by
 refine .sl I 0 N 1 1 _ _ f.top (by simp) (by simp[e.1]) (λn b=>?_) (λn j b m=>?_)
 .obtain⟨r,hr,_⟩:=e.row b
  simp[Wo,hr,b]
 .obtain⟨r,hr,g,k⟩:=e.row b
  have p:((T.map λr=>[V.aL (r.map λc=>[cB c])]).getD n [])=[V.aL (r.map λc=>[cB c])]:=by simp[Wo,hr]
  have s:(((List.range N).map λn=>[V.sl (R n) 0 M 1]).getD (0+n) [])=[V.sl (R n) 0 M 1]:=by simp[Wo,b]
  rw[p] at m ⊢
  rw[s]
  have:j=0:=by simp at m;omega
  subst this
  simp only[Xx]
  refine .sl (R n) 0 M 1 1 _ _ (f.row n b) (by simp) (by simp[g]) (λi hi=>?_) (λi q hi o=>?_)
  .simp[Wo,hi,show i < r.length by omega]
  .have d:i < r.length:=by omega
   have f1:((r.map λc=>[cB c]).getD i [])=[cB r[i]]:=by simp[Wo,d]
   have f2:(((List.range M).map λi=>[V.sl (C n i) 0 M 1]).getD (0+i) [])=[V.sl (C n i) 0 M 1]:=by simp[Wo,hi]
   rw[f1] at o ⊢
   rw[f2]
   have:q=0:=by simp at o;omega
   subst this
   simp only[Xx]
   have a:=f.cell n i b hi
   have t:(T.getD n []).getD i []=r[i]:=by rw[k];simp[Wo,d]
   rw[t] at a
   have l:=(e.2 r (WI hr)).2 _ (WA d)
   have:=yH (h:=h) (id:=C n i) (is:=r[i]) a
   rwa [l] at this
theorem du.QP {h:Heap} {v t:V} (f:du h v t):Fr h v t:=by
 induction f with
 | val v=>exact .tree _ (.val v)
 | emp k=>exact .emp k
 | sl id off len esz z es es' hH hle hlen b _ c=>exact .sl id off len esz z es es' hH hle hlen b c
 | agg cs a b _ c=>exact .agg cs a b c
 | aO cs a b _ c=>exact .aO cs a b c
theorem nZ.mK {H:View} {I N M:Nat} {R:Nat->Nat} {C:Nat->Nat->Nat} {T:Tb} (a:nZ H I N M R C T) (b:jA T N M):cg H (.sl I 0 N 1) (mD T):=by
 rintro h rfl
 exact(a.Vi b).QP
end Gv
