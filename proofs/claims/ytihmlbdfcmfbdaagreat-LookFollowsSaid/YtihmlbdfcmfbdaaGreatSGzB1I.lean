/-
  Part 9 of the proof: what the machine does and what the functions answer.
  Conditions: those that each lemma names.
-/
import Derived.ProofKit
import Derived.SizedLaws
import Derived.Test.YtihmlbdfcmfbdaaGreatSGzB1H
set_option linter.unusedSimpArgs false
set_option linter.unusedVariables false
set_option maxRecDepth 100000
namespace Gv
open Go Go.Proofs
abbrev dD (l:List Int):List (List V):=l.map fun x=>[gi x]
abbrev qR (l:List ByteArray):List (List V):=l.map fun s=>[gs s]
theorem EO {l:List Int} {i:Nat} (h:i < l.length):(dD l).getD i []=[gi l[i]]:=by simp[Q6,h]
theorem ints_set (l:List Int) (i:Nat) (x:Int):(dD l).set i [gi x]=dD (l.set i x):=by simp[Sr]
abbrev zt:=List (V × aM)
def j0 (b:zt):List (List V):=b.map fun x=>[gi x.2.left,x.1,gi x.2.prec]
def s7 (b:zt):List cb:=b.map fun x=>(x.1,1,dD x.2.right)
theorem Lp {h:aE} {u:V} {b:zt} (ho:bc h.view u 3 (j0 b)) (hb:∀ x∈s7 b,bc h.view x.1 x.2.1 x.2.2):eh h u (.aH ((b.map (·.2)).map aO)):=by
 refine eh.own ho (by simp[j0]) (fun i hi=>?_) (fun i j hi hj=>?_)
 all_goals
  simp only[j0,Ro] at hi
  have e1:(j0 b).getD i []=[gi b[i].2.left,b[i].1,gi b[i].2.prec]:=by simp[j0,Q6,hi]
  have e2:((b.map (·.2)).map aO).getD i []=aO b[i].2:=by simp[Q6,hi]
 ·rw[e1,e2]; rfl
 ·rw[e1,e2]
  rw[e2] at hj
  have hm:b[i]∈b:=Rj _
  have ho:=hb (b[i].1,1,dD b[i].2.right) (Rv.2 ⟨_,hm,rfl⟩)
  match j,hj with
  | 0,_=>exact .val _
  | 1,_=>exact nD ho
  | 2,_=>exact .val _
  | n+3,hj=>exact absurd hj (by simp only[aO,Rp,RF]; omega)
theorem LX {h:aE} {u:V} {l:List ByteArray} (ho:bc h.view u 1 (qR l)):eh h u (encS l):=eh.Ng (f:=Value.string) ho
theorem Ki {h:aE} {u:V} {l:List Term} (ho:bc h.view u 3 (l.map ca)):eh h u (dR l):=by
 refine eh.own ho rfl (fun _ _=>rfl) (fun i j hi hj=>?_)
 simp only[Ro] at hi
 have e1:(l.map ca).getD i []=ca l[i]:=by simp[Q6,hi]
 rw[e1] at hj ⊢
 match j,hj with
 | 0,_=>exact .val _
 | 1,_=>exact .val _
 | 2,_=>exact .val _
 | n+3,hj=>exact absurd hj (by simp only[ca,Rp,RF]; omega)
def Bh (x:ao × List Int × Int):V:=.bt [.agg (aw x.1),encI x.2.1,gi x.2.2]
theorem EK {h:aE} {e:Int} {k1 k2 k3 k4:Nat} : eh h (.bt [.agg [.emp k1,.emp k2,.emp k3,gi 0],.emp k4,gi e]) (Bh (ta,[],e)):=by
 refine .bt _ _ rfl fun i hi=>?_
 match i,hi with
 | 0,_ =>
  refine .agg _ _ rfl fun j hj=>?_
  match j,hj with
  | 0,_=>exact .emp _
  | 1,_=>exact .emp _
  | 2,_=>exact .emp _
  | 3,_=>exact .val _
  | n+4,hj=>exact absurd hj (by simp only[Rp,RF]; omega)
 | 1,_=>exact .emp _
 | 2,_=>exact .val _
 | n+3,hi=>exact absurd hi (by simp only[Rp,RF]; omega)
theorem OJ {h:aE} {u0 u1 u2 u3:V} {x:ao × List Int × Int} {b:zt} (h0:bc h.view u0 3 (x.1.av.map ca)) (h1:bc h.view u1 1 (qR x.1.az)) (h2:bc h.view u2 3 (j0 b)) (hb:∀ y∈s7 b,bc h.view y.1 y.2.1 y.2.2)
  (hr:b.map (·.2)=x.1.rules) (h3:bc h.view u3 1 (dD x.2.1)):eh h (.bt [.agg [u0,u1,u2,gi x.1.start],u3,gi x.2.2]) (Bh x):=by
 refine .bt _ _ rfl fun i hi=>?_
 match i,hi with
 | 0,_ =>
  refine .agg _ _ rfl fun j hj=>?_
  match j,hj with
  | 0,_=>exact Ki h0
  | 1,_=>exact LX h1
  | 2,_=>have:=Lp h2 hb; rw[hr] at this; exact this
  | 3,_=>exact .val _
  | n+4,hj=>exact absurd hj (by simp only[Rp,RF]; omega)
 | 1,_=>exact nD h3
 | 2,_=>exact .val _
 | n+3,hi=>exact absurd hi (by simp only[Rp,RF]; omega)
theorem F6 {g:ao} (e:mo g=false):g.Small:=by
 simp only[mo,Bool.or_eq_false_iff,SH] at e
 exact ⟨by omega⟩
theorem L7 (g:ao):aG Tryz.prog 16 [.agg (aw g)] (gb (mo g)):=aG.val (eU g) fun H=>(MC g H).mono fun _ _ h=>h.1
theorem JF {a b:V} (ha:Tree a) (hb:Tree b):Tree (.bt [a,b]):=.bt _ fun i hi=>by
 match i,hi with
 | 0,_=>exact ha
 | 1,_=>exact hb
 | n+2,h=>exact absurd h (by simp)
theorem yM {l:List Int} {k:Nat} (h:k≤l.length):eQ 1 (.aH (l.map fun x=>[gi x])) (some (gi k)) none=some (.aH ((l.drop k).map fun x=>[gi x]),.none,[]):=by
 simp[eQ,bound,asNat,h,List.all_map,List.map_drop]
 rw[Rz (by simp)]
theorem iO {P:Program} {t:TypeId} {d:TypeDesc} (hu:P.underlying t=some d) (hd:d=.string∨∃ k,d=.int k) (cs:Array Value) (off:Nat) {v:Value} (hv:cs[off]?=some v):bp P (part t cs off)=some v:=by
 have h0:bp P (isAgg t)=some false:=by
  rcases hd with rfl | ⟨k,rfl⟩
  all_goals simp only[isAgg,aW,dB hu,RK]; rfl
 simp only[part,aW,h0,RK,Ru,if_false,hv]
 rfl
inductive fu (P:Program) (d:Nat) (xs ys:Array Value):List Field→Bool→Prop
 | nil:fu P d xs ys [] true
 | str (f:Field) (l:List Field) (c:Bool) (a b:ByteArray):(f.name≠ "_")→P.underlying f.type=some .string→xs[f.offset]?=some (.string a)→ys[f.offset]?=some (.string b)→fu P d xs ys l c→fu P d xs ys (f :: l) (a == b && c)
 | int (f:Field) (l:List Field) (c:Bool) (k:IntKind) (a b:Int):(f.name≠ "_")→P.underlying f.type=some (.int k)→xs[f.offset]?=some (.int k a)→ys[f.offset]?=some (.int k b)→fu P d xs ys l c→fu P d xs ys (f :: l) (a == b && c)
theorem fu.forIn {P:Program} {d e:Nat} {xs ys:Array Value} {l:List Field} {c:Bool} (h:fu P d xs ys l c) (hd:e=d+1) :
  bp P (forIn l ((none:Option Bool),()) fun f _ =>
    if f.name≠ "_" then do
     let a ← part f.type xs f.offset
     let b ← part f.type ys f.offset
     let e ← Op.equalIn e f.type a b
     if (!e)=true then pure (ForInStep.done (some false,())) else pure (ForInStep.yield (none,()))
    else pure (ForInStep.yield (none,())))=some (if c=true then (none,()) else (some false,())):=by
 subst hd
 induction h with
 | nil=>rfl
 | str f l c a b hn hu hx hy _ ih =>
  have he:bp P (Op.equalIn (d+1) f.type (.string a) (.string b))=some (a == b):=by
   simp only[Op.equalIn,aW,dB hu,RK]; rfl
  rw[List.forIn_cons,aW,Ra hn,aW,iO hu (.inl rfl) xs _ hx,RK,aW,iO hu (.inl rfl) ys _ hy,RK,aW,he,RK]
  cases a == b with
  | false=>rfl
  | true=>exact ih
 | int f l c k a b hn hu hx hy _ ih =>
  have he:bp P (Op.equalIn (d+1) f.type (.int k a) (.int k b))=some (a == b):=by
   simp only[Op.equalIn,aW,dB hu,RK]; rfl
  rw[List.forIn_cons,aW,Ra hn,aW,iO hu (.inr ⟨k,rfl⟩) xs _ hx,RK,aW,iO hu (.inr ⟨k,rfl⟩) ys _ hy,RK,aW,he,RK]
  cases a == b with
  | false=>rfl
  | true=>exact ih
theorem qC {P:Program} {t:TypeId} {fs:Array Field} {xs ys:Array Value} {c:Bool} (hu:P.underlying t=some (.struct fs)) (hs:P.stoodInHeld t=false) (h:fu P 9998 xs ys fs.toList c) :
  bp P (Op.equal t (.agg xs) (.agg ys))=some c:=by
 rw[kf]
 rw[Op.equalIn,aW,dB hu,RK]
 have hst:(bp P program)=some P:=rfl
 rw[aW,hst,RK,hs]
 simp only[← Array.forIn_toList,Ru,if_false]
 rw[aW,h.forIn (e:=9999) rfl,RK]
 cases c <;> rfl
theorem Bm {P:Program} {o:Oper} {T:Env} {op:BinOp} {t u:TypeId} {x y:Operand} {fs:Array Field} {xs ys:Array Value} {c r:Bool} (ho:o.op=.binOp op t x y u) (hu:P.underlying t=some (.struct fs)) (hs:P.stoodInHeld t=false) (hg:P.eqGuardType P.depth t=false)
  (hx:cJ (ev T x)=some (.agg xs)) (hy:cJ (ev T y)=some (.agg ys)) (h:fu P 9998 xs ys fs.toList c) (hr:(op=.eql∧r=c)∨(op=.neq∧r = !c)) :
  dp P o T=some (.val (.bool r),.none,[]):=by
 have he:=qC hu hs h
 have hst:(bp P program)=some P:=rfl
 unfold dp
 simp only[ho,Op.operands,hx,hy]
 rcases hr with ⟨rfl,rfl⟩ | ⟨rfl,rfl⟩
 ·simp[execOp,ho,hx,hy,eqGuard,binOp,iA,aW,hst,hg,he,plain]
  try simp[bp,pure,plain]
 ·simp[execOp,ho,hx,hy,eqGuard,binOp,iA,aW,hst,hg,he,plain]
  try simp[bp,pure,plain,bne]
theorem r6 {P:Program} {T:Env} {H:View} {K:V→View→Prop} {w:bX (T,H,K)} {op:BinOp} {t u ty:TypeId} {x y:Operand} {fs:Array Field} {xs ys:Array Value} {c r:Bool} (hu:P.underlying t=some (.struct fs)) (hs:P.stoodInHeld t=false) (hg:P.eqGuardType P.depth t=false)
  (hx:cJ (ev T x)=some (.agg xs)) (hy:cJ (ev T y)=some (.agg ys)) (h:fu P 9998 xs ys fs.toList c) (hr:(op=.eql∧r=c)∨(op=.neq∧r = !c)) (hk:K (.val (.bool r)) H):jD P (.binOp op t x y u) ty T H K w:=by
 intro n _
 refine ⟨.val (.bool r),.none,[],?_,hk⟩
 have hn:iL P t=none:=by simp[iL,hu]
 simp only[sI,bV,oper,hn]
 simp only[Option.isSome_none,Ru,if_false]
 exact Bm rfl hu hs hg hx hy h hr
def wo (hp:Array Obj) (cs:List Value) (vs:List V):Prop :=
 vs.length=cs.length∧∀ μ i,i < vs.length→aA (fun b=>b < hp.size) μ hp (vs.getD i .any) (cs.getD i undef)
def Wt {H:Type} (P:Program) (t:TypeId) (d:DataW H):Prop:=∀ n∈d.weights P t,n≤reachBytes
def vp (P:Program) (t:TypeId) {α:Type} (f:α→List V) (ok:α→Prop):Prop :=
 ∀ {H:Type} (enc:TypeId × Value→H) (w:World) (base:Nat) (sp:Nat→Bool) (held:Bool) (fuel:Nat) (cs:List Value) (x:DataW H × List MemPlace),
  DataW.trod enc P w base sp held fuel t cs=some x→Wt P t x.1→∃ a,ok a∧wo w.heap cs (f a)
theorem tx {hp:Array Obj} {c:Value} {v:V} (h:∀ μ,aA (fun b=>b < hp.size) μ hp v c):wo hp [c] [v]:=by
 refine ⟨rfl,fun μ i hi=>?_⟩
 match i,hi with
 | 0,_=>exact h μ
theorem OU {P:Program} {t:TypeId} {k:IntKind} (ht:P.underlying t=some (.int k)):vp P t (fun n=>[.val (.int k n)]) (fun n=>(Lit.int k n).wf=true):=by
 intro H enc w base sp held fuel cs x h _
 obtain ⟨n,rfl,_,hw⟩:=DataW.trod_int ht h
 exact ⟨n,hw,tx fun μ=>.val _ rfl⟩
theorem CF {P:Program} {t:TypeId} (ht:P.underlying t=some .string):vp P t (fun s=>[.val (.string s)]) (fun _=>True):=by
 intro H enc w base sp held fuel cs x h _
 obtain ⟨s,rfl,_,_⟩:=DataW.trod_string ht h
 exact ⟨s,trivial,tx fun μ=>.val _ rfl⟩
theorem EY {w:World} {base:Nat} {a:Addr} {n:Nat} {cs:List Value} (h:w.cells? base a n=some cs):cs.length=n∧∀ i,i < n→w.cell? (a.add i)=some (cs.getD i undef):=by
 obtain ⟨_,h2,h3⟩:=World.cells?_some h
 refine ⟨h2,fun i hi=>?_⟩
 rw[h3 i hi,Q6,Q7 (by omega)]
 rfl
theorem LG {w:World} {a:Addr} {v:Value} (h:w.cell? a=some v):a.spot=none∧a.block < w.heap.size:=by
 unfold World.cell? at h
 split at h
 ·rename_i c _ _ hb
  split at h
  ·simp at h
  ·rename_i hs
   exact ⟨by simpa using hs,(Array.getElem?_eq_some_iff.1 hb).1⟩
 ·simp at h
theorem La {H:Type} {P:Program} {e:TypeId} : ∀ {l:List (DataW H)},(∀ n∈DataW.weightsAll P e l,n≤reachBytes)→∀ d∈l,Wt P e d
 | [],_,d,hd=>by simp at hd
 | x :: l,h,d,hd=>by
  simp only[DataW.weightsAll,Ry] at h
  rcases Rm.1 hd with rfl | hd
  ·exact fun n hn=>h n (.inl hn)
  ·exact La (fun n hn=>h n (.inr hn)) d hd
theorem L9 {H:Type} {P:Program} {t e:TypeId} {elems spare:List (DataW H)} (ht:P.underlying t=some (.slice e)) (h:Wt P t (.slice elems spare)) :
  (elems.length+spare.length) * P.bytesOf e≤reachBytes∧∀ d∈elems,Wt P e d:=by
 unfold Wt at h
 unfold DataW.weights at h
 rw[ht] at h
 simp only[Rm,Ry] at h
 exact ⟨h _ (.inl rfl),La fun n hn=>h n (.inr (.inl hn))⟩
theorem KL {H:Type} {P:Program} {t:TypeId} {fs:Array Field} {parts:List (DataW H)} (ht:P.underlying t=some (.struct fs)) (h:Wt P t (.agg parts)) {j:Nat} {f:Field} {d:DataW H} (hf:fs[j]?=some f) (hd:parts[j]?=some d):Wt P f.type d:=by
 intro n hn
 refine h n ?_
 unfold DataW.weights
 rw[ht]
 exact DataW.weights_mem_each (j:=j) (t:=f.type) (by simp[hf]) hd n hn
theorem Hu {α:Type} {φ:Nat→α→Prop} : ∀ (n:Nat),(∀ i,i < n→∃ a,φ i a)→∃ l:List α,l.length=n∧∀ i (hi:i < l.length),φ i l[i]
 | 0,_=>⟨[],rfl,fun i hi=>by simp at hi⟩
 | n+1,h=>by
  obtain ⟨l,hl,hφ⟩:=Hu n fun i hi=>h i (by omega)
  obtain ⟨a,ha⟩:=h n (by omega)
  refine ⟨l ++ [a],by simp[hl],fun i hi=>?_⟩
  by_cases e:i < l.length
  ·rw[List.getElem_append_left e]; exact hφ i e
  ·have:i=n:=by simp at hi; omega
   subst this
   rw[List.getElem_append_right (by omega)]
   simp only[hl,Nat.sub_self,List.getElem_cons_zero]; exact ha
theorem uf {P:Program} {t e:TypeId} {α:Type} {f:α→List V} {ok:α→Prop} (ht:P.underlying t=some (.slice e)) (hc:0 < P.cellsOf e) (hb:0 < P.bytesOf e) (he:vp P e f ok) :
  vp P t (fun l:List α=>[.aH (l.map f)]) (fun l=>l.length < 4611686018427387904∧∀ a∈l,ok a):=by
 intro H enc w base sp held fuel cs x h hw
 rcases DataW.trod_slice ht h with ⟨rfl,rfl⟩ | ⟨a,len,cap,elems,rest,n,_,rfl,rfl,hba,hl,hm,hlen,hel,_,_⟩
 ·exact ⟨[],⟨by simp,by simp⟩,tx fun μ=>.gM none 0 (by simp)⟩
 obtain ⟨hw1,hw2⟩:=L9 ht hw
 simp only[Ro] at hw1
 have hlt:len < 4611686018427387904:=by
  have h1:len * 1≤(elems.length+rest.length) * P.bytesOf e:=Nat.mul_le_mul (by omega) hb
  unfold reachBytes at hw1
  omega
 have each:∀ i,i < len→∃ y,ok y∧∃ ci,w.cells? base (a.add (i * P.cellsOf e)) (P.cellsOf e)=some ci∧wo w.heap ci (f y):=by
  intro i hi
  have h1:=hel i hi
  have h2:elems[i]?=some (elems[i]'(by omega)):=Q7 (by omega)
  have hmem:elems[i]'(by omega)∈elems:=Rj _
  rw[h2,Option.bind_eq_some_iff] at h1
  obtain ⟨ci,h3,h4⟩:=h1
  obtain ⟨y,h5,h6⟩:=he enc w base sp held n ci _ h4 (hw2 _ (Rv.2 ⟨_,hmem,rfl⟩))
  exact ⟨y,h5,ci,h3,h6⟩
 obtain ⟨l,hll,hφ⟩:=Hu len each
 subst hll
 refine ⟨l,⟨hlt,fun y hy=>?_⟩,tx fun μ=>?_⟩
 ·obtain ⟨i,hi,rfl⟩:=List.getElem_of_mem hy
  exact (hφ i hi).1
 by_cases h0:l=[]
 ·subst h0
  exact .gM (some a) cap (by simp)
 have hpos:0 < l.length:=To.2 h0
 have hcell:∀ i j,i < l.length→j < P.cellsOf e→∃ c,cellAt w.heap a.block (a.off+i * P.cellsOf e+j)=some c∧a.block < w.heap.size∧(i=0→j=0→a.spot=none)∧∀ (hi:i < l.length),aA (fun b=>b < w.heap.size) μ w.heap ((f l[i]).getD j .any) c:=by
  intro i j hi hj
  obtain ⟨_,ci,h1,h2⟩:=hφ i hi
  obtain ⟨h3,h4⟩:=EY h1
  have h5:=h4 j hj
  have h6:=LG h5
  have hbk:((a.add (i * P.cellsOf e)).add j).block=a.block:=by simp only[Addr.add]; split <;> split <;> rfl
  have hof:((a.add (i * P.cellsOf e)).add j).off=a.off+i * P.cellsOf e+j:=by
   simp only[Addr.add]; split <;> split <;> simp_all
  refine ⟨ci.getD j undef,?_,by rw[← hbk]; exact h6.2,?_,fun _=>?_⟩
  ·rw[← hof,← hbk,← lO]
   rw[← h5]
   congr 1
   generalize (a.add (i * P.cellsOf e)).add j=b at h6
   cases b
   simp at h6 ⊢
   exact h6.1.symm
  ·rintro rfl rfl
   simp[Addr.add] at h6
   exact h6.1
  ·exact h2.2 μ j (by rw[h2.1,h3]; exact hj)
 obtain ⟨_,_,hz,hs,_⟩:=hcell 0 0 hpos hc
 have ha:a=⟨a.block,a.off,none⟩:=by
  cases a; simp at hs ⊢; exact hs
 have hlf:∀ i,i < l.length→(f (l[i]?.getD (l[0]'hpos))).length=P.cellsOf e:=fun i hi=>by
  obtain ⟨_,ci,h1,h2⟩:=hφ i hi
  rw[Q7 hi,Rq,h2.1,(EY h1).1]
 have hgd:∀ i (hi:i < l.length),(l.map f).getD i []=f l[i]:=fun i hi=>by simp[Q6,hi]
 have hcl:(l.map f).length=l.length:=by simp
 have:=aA.aH (Z:=fun b=>b < w.heap.size) (μ:=μ) (hp:=w.heap) (l.map f) a.block a.off (P.cellsOf e) cap (fun i j=>(cellAt w.heap a.block (a.off+i * P.cellsOf e+j)).getD undef) hz (by rw[hcl]; exact hl)
  (fun i hi=>by
   rw[hcl] at hi
   have:=hlf i hi
   rw[Q7 hi,Rq] at this
   rw[hgd i hi]; exact this)
  (fun i j hi hj=>by
   rw[hcl] at hi
   obtain ⟨c,h1,_⟩:=hcell i j hi hj
   rw[h1]; rfl)
  (fun i j hi hj=>by
   rw[hcl] at hi
   obtain ⟨c,h1,_,_,h2⟩:=hcell i j hi hj
   rw[h1,hgd i hi]; exact h2 hi)
 rw[hcl,← ha] at this
 exact this
theorem wM {P:Program} {t:TypeId} {fs:Array Field} (ht:P.underlying t=some (.struct fs)) (hf:∀ (i:Nat) (f:Field),fs[i]?=some f→f.offset=i∧P.cellsOf f.type=1) (hn:P.cellsOf t=fs.size)
  {H:Type} {enc:TypeId × Value→H} {w:World} {base:Nat} {sp:Nat→Bool} {held:Bool} {fuel:Nat} {cs:List Value} {x:DataW H × List MemPlace} (h:DataW.trod enc P w base sp held fuel t cs=some x) (hw:Wt P t x.1) :
  cs.length=fs.size∧∀ (i:Nat) (f:Field),fs[i]?=some f→∀ {α:Type} {g:α→List V} {ok:α→Prop},vp P f.type g ok→∃ a,ok a∧wo w.heap [cs.getD i undef] (g a):=by
 obtain ⟨xs,n,rfl,rfl,hl,hlen,hx⟩:=DataW.trod_struct ht h
 refine ⟨by rw[hl,hn],fun i f hi α g ok hr=>?_⟩
 obtain ⟨h1,h2⟩:=hf i f hi
 have hi2:i < fs.size:=(Array.getElem?_eq_some_iff.1 hi).1
 have h3:=hx i f hi
 have h4:xs[i]?=some (xs[i]'(by omega)):=Q7 (by omega)
 rw[h4,h1,h2] at h3
 have h5:(cs.drop i).take 1=[cs.getD i undef]:=by
  rw[Q6,Q7 (by omega),RX (by omega)]
  rfl
 rw[h5] at h3
 exact hr enc w base sp held n _ _ h3 (KL ht hw hi (by simp[h4]))
theorem gB {hp:Array Obj} {c:Value} {cs:List Value} {v:V} {vs:List V} (h:wo hp [c] [v]) (k:wo hp cs vs):wo hp (c :: cs) (v :: vs):=by
 refine ⟨by simp[k.1],fun μ i hi=>?_⟩
 cases i with
 | zero=>exact h.2 μ 0 (by simp)
 | succ i=>exact k.2 μ i (by simpa using hi)
theorem yC {hp:Array Obj} : wo hp [] []:=⟨rfl,fun μ i hi=>by simp at hi⟩
theorem Oq {n:Int} (h:(Lit.int .i64 n).wf=true):cm n:=by
 simp only[Lit.wf,Rg,Rn] at h
 exact h
theorem nu:vp Tryz.prog 3 (fun n=>[gi n]) cm:=fun enc w base sp held fuel cs x h hw=>by
 obtain ⟨n,h1,h2⟩:=OU Tryz.underlying3 enc w base sp held fuel cs x h hw
 exact ⟨n,Oq h1,h2⟩
theorem OG:vp Tryz.prog 43 (fun l:List Int=>[encI l]) (fun l=>aV l∧∀ x∈l,cm x) :=
 uf Tryz.underlying43 (SY (by kernel_rfl)) (SY (by kernel_rfl)) nu
theorem Ik:vp Tryz.prog 23 (fun l:List ByteArray=>[encS l]) (fun l=>aV l∧∀ x∈l,True) :=
 uf Tryz.underlying23 (SY (by kernel_rfl)) (SY (by kernel_rfl)) (CF Tryz.underlying9)
theorem P8 {cs:List Value} (h:cs.length=3):cs=[cs.getD 0 undef,cs.getD 1 undef,cs.getD 2 undef]:=by
 match cs,h with
 | [a,b,c],_=>rfl
theorem QT {cs:List Value} (h:cs.length=4):cs=[cs.getD 0 undef,cs.getD 1 undef,cs.getD 2 undef,cs.getD 3 undef]:=by
 match cs,h with
 | [a,b,c,d],_=>rfl
theorem OH:vp Tryz.prog 129 ca (fun t=>cm t.level∧cm t.assoc):=fun enc w base sp held fuel cs x h hw=>by
 obtain ⟨hl,hf⟩:=wM Tryz.underlying129 (by
  intro i f hi
  match i,hi with
  | 0,hi=>simp at hi; subst hi; exact ⟨rfl,by kernel_rfl⟩
  | 1,hi=>simp at hi; subst hi; exact ⟨rfl,by kernel_rfl⟩
  | 2,hi=>simp at hi; subst hi; exact ⟨rfl,by kernel_rfl⟩
  | n+3,hi=>simp at hi) (by kernel_rfl) h hw
 obtain ⟨a,_,h1⟩:=hf 0 _ rfl (CF Tryz.underlying9)
 obtain ⟨b,h2,h3⟩:=hf 1 _ rfl nu
 obtain ⟨c,h4,h5⟩:=hf 2 _ rfl nu
 refine ⟨⟨a,b,c⟩,⟨h2,h4⟩,?_⟩
 rw[P8 hl]
 exact gB h1 (gB h3 (gB h5 yC))
theorem Ol:vp Tryz.prog 71 aO (fun r=>cm r.left∧cm r.prec∧aV r.right∧∀ x∈r.right,cm x):=fun enc w base sp held fuel cs x h hw=>by
 obtain ⟨hl,hf⟩:=wM Tryz.underlying71 (by
  intro i f hi
  match i,hi with
  | 0,hi=>simp at hi; subst hi; exact ⟨rfl,by kernel_rfl⟩
  | 1,hi=>simp at hi; subst hi; exact ⟨rfl,by kernel_rfl⟩
  | 2,hi=>simp at hi; subst hi; exact ⟨rfl,by kernel_rfl⟩
  | n+3,hi=>simp at hi) (by kernel_rfl) h hw
 obtain ⟨a,h0,h1⟩:=hf 0 _ rfl nu
 obtain ⟨b,h2,h3⟩:=hf 1 _ rfl OG
 obtain ⟨c,h4,h5⟩:=hf 2 _ rfl nu
 refine ⟨⟨a,b,c⟩,⟨h0,h4,h2.1,h2.2⟩,?_⟩
 rw[P8 hl]
 exact gB h1 (gB h3 (gB h5 yC))
theorem OD:vp Tryz.prog 26 aw ao.Ok:=fun enc w base sp held fuel cs x h hw=>by
 obtain ⟨hl,hf⟩:=wM Tryz.underlying26 (by
  intro i f hi
  match i,hi with
  | 0,hi=>simp at hi; subst hi; exact ⟨rfl,by kernel_rfl⟩
  | 1,hi=>simp at hi; subst hi; exact ⟨rfl,by kernel_rfl⟩
  | 2,hi=>simp at hi; subst hi; exact ⟨rfl,by kernel_rfl⟩
  | 3,hi=>simp at hi; subst hi; exact ⟨rfl,by kernel_rfl⟩
  | n+4,hi=>simp at hi) (by kernel_rfl) h hw
 obtain ⟨a,h0,h1⟩:=hf 0 _ rfl (uf Tryz.underlying22 (SY (by kernel_rfl)) (SY (by kernel_rfl)) OH)
 obtain ⟨b,h2,h3⟩:=hf 1 _ rfl Ik
 obtain ⟨c,h4,h5⟩:=hf 2 _ rfl (uf Tryz.underlying24 (SY (by kernel_rfl)) (SY (by kernel_rfl)) Ol)
 obtain ⟨d,h6,h7⟩:=hf 3 _ rfl nu
 refine ⟨⟨a,b,c,d⟩,⟨h0.1,h2.1,h4.1,h6,h0.2,h4.2⟩,?_⟩
 rw[QT hl]
 exact gB h1 (gB h3 (gB h5 (gB h7 yC)))
def rq:SC :=
 .seq (an [bz 44 .lss 43 42]) <|
 .seq (.cond (.tmp 44) (.skip) (.exit 0)) <|
 .seq (.block 1 (.seq (an [aj 45 43,aY 46 3 41 43,bM 47 3 46,((some 11),.op (.alloc [(.val (.int .i64 0)),(.emp 1),(.val (.int .i64 0))])),aj 10 45,(none,.op (.store 3 (.tmp 11) (.tmp 47)))]) <|
 .seq (.seq (.region false [⟨none,[aj 48 6,aC 49 0 11,ay 50 49,aY 51 1 48 50,ay 52 51,dm 53 52,aj 54 53]⟩,⟨(some (54,false)),[bM 55 3 11,aj 56 5,bJ 57 160 [55,56],dm 58 57]⟩,⟨none,[cU 59 54 58]⟩]) <|
 .cond (.tmp 59) (.exit 1) (.skip)) <|
 .seq (an [aj 60 7,aj 61 10,((some 62),.op (.c4 1 1 [(.val (.int .i64 0))] [(0,(.tmp 61))])),((some 63),.op (.app 1 8 (.tmp 60) (.tmp 62))),aj 7 63]) <|
 .seq (an [aj 65 9,aC 66 0 11,ay 67 66,((some 68),.op (.old (.lookup 204 (.tmp 65) (.tmp 67) true) 30)),aj 64 68,kH 69 0 64,kH 70 1 64,aj 12 69,aj 13 70]) <|
 .seq (an [aj 71 13,dm 72 71]) <|
 .cond (.tmp 72) (.seq (an [aj 73 9,aC 74 0 11,ay 75 74,aC 76 1 8,ay 77 76,bj 78 77,(none,.op (.old (.mapUpdate 204 (.tmp 73) (.tmp 75) (.tmp 78)) 0))]) <|
 .region false [⟨none,[aC 79 1 8,ay 80 79,aC 81 1 1,ay 82 81,aC 83 0 11,ay 84 83,aY 85 1 82 84,ay 86 85,((some 87),.op (.c4 1 1 [(.val (.string ⟨#[]⟩))] [(0,(.tmp 86))])),((some 88),.op (.app 1 16 (.tmp 80) (.tmp 87))),aC 89 1 8,(none,.op (.store 1 (.tmp 89) (.tmp 88)))]⟩]) (.skip))) <|
 an [aR 90 .add 43 1,aj 43 90]
def qM:SC :=
 .seq (an [bz 116 .lss 115 114]) <|
 .seq (.cond (.tmp 116) (.skip) (.exit 4)) <|
 .seq (.block 5 (.seq (an [aj 117 115,aY 118 1 113 115,ay 119 118,aj 18 117,aj 19 119]) <|
 .seq (an [aj 120 19,aR 121 .lss 120 0]) <|
 .cond (.tmp 121) (an [aC 122 1 17,ay 123 122,aj 124 18,aj 125 9,aj 126 19,((some 127),.op (.arith .sub (.val (.val (.int .i64 (-1)))) (.tmp 126))),((some 128),.op (.old (.lookup 204 (.tmp 125) (.tmp 127) false) 3)),((some 129),.op (.arith .sub (.val (.val (.int .i64 (-1)))) (.tmp 128))),aY 130 1 123 124,(none,.op (.store 1 (.tmp 130) (.tmp 129)))]) (.skip))) <|
 an [aR 131 .add 115 1,aj 115 131]
def rD:SC :=
 .seq (an [bz 94 .lss 93 92]) <|
 .seq (.cond (.tmp 94) (.skip) (.exit 2)) <|
 .seq (.block 3 (.seq (an [aY 95 1 91 93,ay 96 95,aj 15 96]) <|
 .seq (an [aC 97 2 1,ay 98 97,aj 99 15,aY 100 3 98 99,bM 101 3 100,((some 16),.op (.alloc [(.val (.int .i64 0)),(.emp 1),(.val (.int .i64 0))])),(none,.op (.store 3 (.tmp 16) (.tmp 101)))]) <|
 .seq (.region true [⟨none,[aj 102 9,aC 103 0 16,ay 104 103,((some 105),.op (.old (.lookup 204 (.tmp 102) (.tmp 104) false) 3)),aC 106 1 16,ay 107 106,bJ 108 161 [107],aC 109 2 16,ay 110 109,((some 111),.op (.build [(.val (.int .i64 0)),(.emp 1),(.val (.int .i64 0))] [(0,1,(.tmp 105)),(1,1,(.tmp 108)),(2,1,(.tmp 110))])),((some 17),.op (.alloc [(.val (.int .i64 0)),(.emp 1),(.val (.int .i64 0))])),(none,.op (.store 3 (.tmp 17) (.tmp 111)))]⟩]) <|
 .seq (.seq (an [aC 112 1 17,ay 113 112,bj 114 113,bA 115 0]) <|
 .block 4 (.loop qM)) <|
 an [aC 132 2 8,ay 133 132,bM 134 3 17,((some 135),.op (.c4 1 3 [(.val (.int .i64 0)),(.emp 1),(.val (.int .i64 0))] [(0,(.tmp 134))])),((some 136),.op (.app 3 40 (.tmp 133) (.tmp 135))),aC 137 2 8,(none,.op (.store 1 (.tmp 137) (.tmp 136)))])) <|
 an [aR 138 .add 93 1,aj 93 138]
def uN:SF:=⟨.seq (an [dN 1 0,((some 2),.op (.alloc [(.emp 1),(.emp 1),(.emp 1),(.val (.int .i64 0))])),((some 3),.op (.bN (.val (.emp 1)))),bA 4 0]) <|
 .seq (.seq (an [bM 20 4 1,bJ 21 52 [20],dm 22 21]) <|
 .cond (.tmp 22) (.seq (an [((some 23),.op (.build [(.emp 1),(.emp 1),(.emp 1),(.val (.int .i64 0))] [])),(none,.op (.store 4 (.tmp 2) (.tmp 23))),((some 3),.op (.bN (.val (.emp 1)))),bA 4 1]) <|
 .ret) (.skip)) <|
 .seq (.region true [⟨none,[bM 24 4 1,bJ 25 157 [24],bM 26 4 1,bJ 27 158 [26],aj 5 25,aj 6 27]⟩]) <|
 .seq (.seq (an [aj 28 5,aC 29 3 1,ay 30 29,aY 31 1 28 30,ay 32 31,dm 33 32]) <|
 .cond (.tmp 33) (.seq (an [((some 34),.op (.build [(.emp 1),(.emp 1),(.emp 1),(.val (.int .i64 0))] [])),(none,.op (.store 4 (.tmp 2) (.tmp 34))),((some 3),.op (.bN (.val (.emp 1)))),bA 4 9]) <|
 .ret) (.skip)) <|
 .seq (an [((some 7),.op (.bN (.val (.emp 1))))]) <|
 .seq (an [aC 35 0 1,ay 36 35,bJ 37 159 [36],((some 38),.op (.build [(.emp 1),(.emp 1),(.emp 1),(.val (.int .i64 0))] [(0,1,(.tmp 37))])),((some 8),.op (.alloc [(.emp 1),(.emp 1),(.emp 1),(.val (.int .i64 0))])),(none,.op (.store 4 (.tmp 8) (.tmp 38)))]) <|
 .seq (an [((some 39),.op (.mJ)),aj 9 39]) <|
 .seq (.seq (an [aC 40 2 1,ay 41 40,bj 42 41,bA 43 0]) <|
 .block 0 (.loop rq)) <|
 .seq (.seq (an [aj 91 7,bj 92 91,bA 93 0]) <|
 .block 2 (.loop rD)) <|
 .seq (an [aj 139 9,aC 140 3 1,ay 141 140,((some 142),.op (.old (.lookup 204 (.tmp 139) (.tmp 141) false) 3)),aC 143 3 8,(none,.op (.store 1 (.tmp 143) (.tmp 142)))]) <|
 .seq (an [bM 144 4 8,aj 145 7,(none,.op (.store 4 (.tmp 2) (.tmp 144))),aj 3 145,bA 4 0]) <|
 .ret,
 [.cell 2 (some 4),.tmp 3,.tmp 4],146⟩
theorem yf:aU Tryz.prog 109 [1]=some uN:=by kernel_rfl
abbrev v8 (m:bF Int):List (V × V × Nat):=bW (Value.int .i64) m
def Pj (g:ao) (p q:List Bool) (b2 b8 b9:Nat) (u0:V) (i:Nat) (T:Env) (H:View):Prop :=
 (∃ u1 u3:V,T 7=u3∧(∀ x∈dr p q (g.rules.take i),0≤x∧x < g.az.length)∧(dr p q (g.rules.take i)).length≤i ∧
  bk H [(.sl b8 0 1 4,4,[[u0,u1,.emp 1,gi 0]]),(u3,1,dD (dQ p q (g.rules.take i) 0)),
   (u1,1,qR ((dr p q (g.rules.take i)).map fun x=>g.az.getD x.toNat ⟨#[]⟩)),(u0,3,g.av.map ca),(.sl b2 0 1 4,4,[[.emp 1,.emp 1,.emp 1,gi 0]])] ∧
  ∃ m c,H b9=.map (v8 m) c∧mC gi (jk (dr p q (g.rules.take i)) 0) m) ∧
 T 1=.aL (aw g) 0∧T 2=.ptr b2 0 0∧T 5=bG p∧T 6=bG q∧T 8=.ptr b8 0 0∧T 9=.mp b9∧T 41=.aH (g.rules.map aO)∧T 42=gi g.rules.length∧T 43=gi i
theorem AE {α:Type} {x s:α} : ∀ {a d:List α} {k:Nat},a.length=k→(a ++ s :: d).set k x=a ++ x :: d
 | [],d,k,h=>by simp at h; subst h; rfl
 | y :: a,d,k,h=>by
  cases k with
  | zero=>simp at h
  | succ k=>simp only[RM,List.set_cons_succ]; rw[AE (by simpa using h)]
def QB (g:ao) (p q:List Bool) (b2 b8 b9:Nat) (u0 u1 u3:V) (o kl:List Int) (mm:bF Int) (cc:Nat) (i:Nat) (T:Env) (H:View):Prop :=
 (∃ (u2:V) (bs:zt),bs.map (·.2)=((g.rules.filter (cp p q)).take i).map (bY (dz o)) ∧
  bk H ((.sl b8 0 1 4,4,[[u0,u1,u2,gi 0]]) :: (u3,1,dD kl) ::
   (u1,1,qR (o.map fun x=>g.az.getD x.toNat ⟨#[]⟩)) :: (u0,3,g.av.map ca) :: (u2,3,j0 bs) :: (.sl b2 0 1 4,4,[[.emp 1,.emp 1,.emp 1,gi 0]]) :: s7 bs) ∧
  H b9=.map (v8 mm) cc) ∧
 T 1=.aL (aw g) 0∧T 2=.ptr b2 0 0∧T 7=u3∧T 8=.ptr b8 0 0∧T 9=.mp b9∧T 91=u3∧T 92=gi kl.length∧T 93=gi i
def Qp (g:ao) (b2 b8 b9 b16 b17:Nat) (u3 v:V) (o kl:List Int) (mm:bF Int) (cc:Nat) (r:aM) (L:List cb) (i k:Nat) (T:Env) (H:View):Prop :=
 bk H ((.sl b17 0 1 3,3,[[gi (dz o r.left),v,gi r.prec]]) :: (v,1,dD ((bY (dz o) r).right.take k ++ r.right.drop k)) :: (.sl b16 0 1 3,3,[aO r]) :: L) ∧
 H b9=.map (v8 mm) cc∧T 1=.aL (aw g) 0∧T 2=.ptr b2 0 0∧T 7=u3∧T 8=.ptr b8 0 0∧T 9=.mp b9∧T 91=u3∧T 92=gi kl.length∧T 93=gi i∧T 17=.ptr b17 0 0∧T 113=v∧T 114=gi r.right.length∧T 115=gi k
set_option maxHeartbeats 8000000 in
theorem Ga (g:ao) (hg:g.Ok) (hs:g.Small):de Tryz.prog 109 [.agg (aw g)] (Bh (if bE g=true then
  if (au g true).getD g.start.toNat false=true then (oX g (dz (dr (au g true) (bP g) g.rules)) (au g true) (bP g),dQ (au g true) (bP g) g.rules 0,0)
  else (ta,[],9)
 else (ta,[],1))):=by
 refine de.of (eU g) ?_
 refine aB.of mixed yf ?_
 simp (disch:=omega) only [↓wr,seval,wq,ah,ag,ak,aa,ab,af,ai,ae,uN,aw,encS]
 intro b2
 try simp (disch:=omega) only [↓wr,seval,wq,ah,ag,ak,aa,ab,af,ai,ae,aw,encS]
 refine aF.pure (rp g hg hs.names) (by kernel_rfl) ?_
 repeat' (first | (refine aq.dec (fun _=>?_) (fun _=>?_)) | (refine aq.eq (fun _=>?_) (fun _=>?_)) | (refine aq.ne (fun _=>?_) (fun _=>?_)) | (refine aq.split (fun _=>?_) (fun _=>?_)) | (simp (disch:=omega) only [↓wr,seval,wq,ah,ag,ak,aa,ab,af,ai,ae,aw,encS,set_set]))
 ·rename_i hr
  rw[Ra hr]
  refine aF.pure (sH g hg hs).pure (by kernel_rfl) ?_
  simp (disch:=omega) only [↓wr,seval,wq,ah,ag,ak,aa,ab,af,ai,ae,aw,encS]
  refine aF.pure (CX g hg hs).pure (by kernel_rfl) ?_
  have hf:=bL hr
  have h3:=hf.jT
  have h4:=hf.start
  have hpl:=fG hr true
  have hql:=rI hr
  generalize au g true=p at hpl ⊢
  generalize bP g=q at hql ⊢
  have hps:p[g.start.toNat]?=some (p[g.start.toNat]'(by omega)):=Q7 (by omega)
  have hpd:p.getD g.start.toNat false=p[g.start.toNat]'(by omega):=by simp[Q6,hps]
  generalize p[g.start.toNat]'(by omega)=s at hps hpd
  rw[hpd]
  simp (disch:=omega) only [↓wr,seval,wq,ah,ag,ak,aa,ab,af,ai,ae,aw,encS,bG,Rc,hps]
  cases s with
  | false =>
   simp (disch:=omega) only [↓wr,seval,wq,ah,ag,ak,aa,ab,af,ai,ae,aw,encS,set_set]
   rintro h' hh
   exact EK
  | true =>
   simp (disch:=omega) only [↓wr,seval,wq,ah,ag,ak,aa,ab,af,ai,ae,aw,encS,set_set]
   have hN:=hf.az
   have hN1:=hf.pN
   have hT:=hf.av
   have hR:=hf.rules
   refine aF.eJ ((LV g.av (by omega) _).mono ?_)
   rintro u0 H1 ⟨hu0,hfr⟩
   have ho1:=(bk.nil.new (H:=fun _=>dh.dead) (n:=b2) rfl 4 [[.emp 1,.emp 1,.emp 1,gi 0]]).Ph hu0 hfr
   have c0:=ho1.head.cells
   have k0:=ho1.head.qi
   simp (disch:=omega) only [↓wr,seval,wq,ah,ag,ak,aa,ab,af,ai,ae,aw,encS,c0,k0]
   intro b8 hb8
   have ho2:=ho1.new hb8 4 [[u0,.emp 1,.emp 1,gi 0]]
   try simp (disch:=omega) only [↓wr,seval,wq,ah,ag,ak,aa,ab,af,ai,ae,aw,encS,c0,k0,set_set]
   intro b9 hb9
   have hb98:=(fZ hb9 gV).1
   have hb9:=(fZ (fZ hb9 gV).2 gV).2
   have ho3:=(((ho2.fresh (n:=b9) (o:=.map [] 0) (by simp only[View.set,Q9 hb98]; exact hb9)).emp (k:=1) (sz:=1)).emp (k:=1) (sz:=1)).perm Qo.symm
   try simp (disch:=omega) only [↓wr,seval,wq,ah,ag,ak,aa,ab,af,ai,ae,aw,encS,c0,k0,set_set]
   refine bg.up g.rules.length (Pj g p q b2 b8 b9 u0) ?_ ?_
   ·refine ⟨⟨.emp 1,.emp 1,rfl,by simp[dr],by simp[dr],by rw[set_set]; exact ho3,[],0,by simp[View.set,bW],trivial⟩,rfl,rfl,rfl,rfl,rfl,rfl,rfl,rfl,rfl⟩
   clear ho1 ho2 ho3 hb8 hb9 hb98
   rintro i k T H2 hk ⟨⟨u1,u3,t7,hin,holen,ho,mm,cc,h9,hm9⟩,t1,t2,t5,t6,t8,t9,t41,t42,t43⟩
   simp (disch:=omega) only [↓wr,seval,wq,ah,ag,ak,aa,ab,af,ai,ae,rq,t1,t2,t5,t6,t7,t8,t9,t41,t42,t43,aw]
   refine aq.dec (fun hc=>?_) (fun hc=>?_)
   ·have hg2:g.rules[i]?=some (g.rules[i]'(by omega)):=Q7 (by omega)
    have hmem:g.rules[i]'(by omega)∈g.rules:=Rj _
    have htk:g.rules.take (i+1)=g.rules.take i ++ [g.rules[i]'(by omega)]:=by rw[RG,hg2]; rfl
    generalize g.rules[i]'(by omega)=r at hg2 hmem htk
    obtain ⟨hl1,hl2,hl3,hr6,hsy⟩:=hf.vJ hg hmem
    have hqs:q[r.left.toNat]?=some (q[r.left.toNat]'(by omega)):=Q7 (by omega)
    have mN:q.getD r.left.toNat false=q[r.left.toNat]'(by omega):=by simp[Q6,hqs]
    generalize q[r.left.toNat]'(by omega)=qs at hqs mN
    simp (disch:=omega) only [↓wr,seval,wq,ah,ag,ak,aa,ab,af,ai,ae,t1,t2,t5,t6,t7,t8,t9,t41,t42,t43,aO,encI,Rc,hg2]
    intro b11 hb11
    have hoA:=ho.new hb11 3 [aO r]
    have n911:b9≠b11:=by rintro rfl; rw[h9] at hb11; simp at hb11
    try simp (disch:=omega) only [↓wr,seval,wq,ah,ag,ak,aa,ab,af,ai,ae,t1,t2,t5,t6,t7,t8,t9,t41,t42,t43,aO,encI,bG,Rc,hqs,set_set]
    have hskip:∀ (T2:Env) (H':View),cp p q r=false→H'=H2.set b11 (.arr 3 [aO r])→T2 7=u3→T2 1=.aL (aw g) 0→T2 2=.ptr b2 0 0→T2 5=bG p→T2 6=bG q→T2 8=.ptr b8 0 0→T2 9=.mp b9→T2 41=.aH (g.rules.map aO)→T2 42=gi g.rules.length→T2 43=gi ((i:Int)+1) →
      ∃ k',k' < k∧Gz g.rules.length k' (Pj g p q b2 b8 b9 u0) T2 H':=by
     intro T2 H' hkr hH' a7 a1 a2 a5 a6 a8 a9 a41 a42 a43
     have e1:dr p q (g.rules.take (i+1))=dr p q (g.rules.take i):=by rw[htk,B4,Q9 (by simp[hkr])]
     have e2:dQ p q (g.rules.take (i+1)) 0=dQ p q (g.rules.take i) 0:=by rw[htk,qh]; simp[dQ,hkr]
     refine aQ hk (by omega) ⟨⟨u1,u3,a7,by rw[e1]; exact hin,by rw[e1]; omega,by rw[e1,e2,hH']; exact hoA.tail,mm,cc,by rw[hH']; simp[View.set,n911,h9],by rw[e1]; exact hm9⟩,a1,a2,a5,a6,a8,a9,a41,a42,by rw[a43]; rfl⟩
    cases qs with
    | false =>
     simp (disch:=omega) only [↓wr,seval,wq,ah,ag,ak,aa,ab,af,ai,ae,t1,t2,t5,t6,t7,t8,t9,t41,t42,t43]
     refine hskip _ _ (by rw[cp,mN]; rfl) ?_ ?_ ?_ ?_ ?_ ?_ ?_ ?_ ?_ ?_ ?_
     all_goals first | exact t7 | exact t1 | exact t2 | exact t5 | exact t6 | exact t8 | exact t9 | exact t41 | exact t42 | rfl | (rw[set_set]; rfl)
    | true =>
     simp (disch:=omega) only [↓wr,seval,wq,ah,ag,ak,aa,ab,af,ai,ae,t1,t2,t5,t6,t7,t8,t9,t41,t42,t43,aO,encI,bG]
     refine aF.pure (rC r p (hg.aD r hmem).2.2.1 (fun s hs'=>⟨(hsy s hs').1,fun h=>by rw[hpl]; exact (hsy s hs').2 h⟩)) (by kernel_rfl) ?_
     simp (disch:=omega) only [↓wr,seval,wq,ah,ag,ak,aa,ab,af,ai,ae,t1,t2,t5,t6,t7,t8,t9,t41,t42,t43]
     refine aq.split (fun hal=>?_) (fun hal=>?_)
     ·simp (disch:=omega) only [↓wr,seval,wq,ah,ag,ak,aa,ab,af,ai,ae,t1,t2,t5,t6,t7,t8,t9,t41,t42,t43]
      have hkr:cp p q r=true:=by rw[cp,mN,hal]; rfl
      intro m hm
      try simp (disch:=omega) only [↓wr,seval,wq,ah,ag,ak,aa,ab,af,ai,ae,t1,t2,t5,t6,t7,t8,t9,t41,t42,t43,dW]
      have hm11:=(fZ hm gV).1
      have hm:=(fZ (fZ hm gV).2 gV).2
      have hoB:=(hoA.fresh (n:=m) (o:=.arr 1 [[gi i]]) (by simp only[View.set,Q9 hm11]; exact hm)).at 2 (by simp)
      have n9m:b9≠m:=by rintro rfl; rw[h9] at hm; simp at hm
      have hkl:(dQ p q (g.rules.take i) 0).length≤40:=by
       rw[rz]
       have h1:=Sg (cp p q) (g.rules.take i)
       have h2:(g.rules.take i).length≤i:=List.length_take_le _ _
       omega
      refine eR (by rw[set_set]; exact hoB) (by simp[aS]) (by unfold aK; simp at hkl ⊢; omega) (by unfold aK; simp at hkl ⊢; omega) ?_
      intro u3' H3 ho3 hleft
      have f11:=ho3.is 1 rfl (by simp)
      have f8:=ho3.is 2 rfl (by simp)
      have hleft':Left ((H2.set b11 (.arr 3 [aO r])).set m (.arr 1 [[gi i]])) H3 u3 u3':=by rw[set_set] at hleft; exact hleft
      have f9:H3 b9=.map (v8 mm) cc:=hleft'.map (b:=b9) hoB.head (by simp[View.set,n911,n9m,h9])
      have hu1:cY u1=some (qR ((dr p q (g.rules.take i)).map fun x=>g.az.getD x.toNat ⟨#[]⟩)).length:=(ho3.own 3 rfl).len
      simp only[aO,encI] at f11
      have e2:dQ p q (g.rules.take (i+1)) 0=dQ p q (g.rules.take i) 0 ++ [(i:Int)]:=by
       rw[htk,qh]; simp[dQ,hkr,show i≤g.rules.length by omega]
      have e1:dr p q (g.rules.take (i+1))=gO (dr p q (g.rules.take i)) r:=by rw[htk,B4,Ra hkr]
      generalize dr p q (g.rules.take i)=o at *
      generalize dQ p q (g.rules.take i) 0=kl at *
      simp (disch:=omega) only [↓wr,seval,wq,ah,ag,ak,aa,ab,af,ai,ae,t1,t2,t5,t6,t8,t9,t41,t42,t43,f11,f8]
      refine NK (kt:=3) (et:=3) (z:=gi 0) (by kernel_rfl) (by kernel_rfl) (jX .i64 Tryz.underlying3) (id:=b9) (c:=cc) (m:=mm) (k:=r.left) (by simp (disch:=omega) only [↓wr,seval,wq,ah,ag,ak,aa,ab,af,ai,ae,t9]) (by simp (disch:=omega) only [↓wr,seval,wq,ah,ag,ak,aa,ab,af,ai,ae]) f9 ?_
      rw[hm9.get,qQ]
      have hob:o.length≤40:=by omega
      by_cases hx:r.left∈o
      ·have e1':gO o r=o:=by rw[gO,Ra hx]
       rw[Ra hx]
       simp (disch:=omega) only [↓wr,seval,wq,ah,ag,ak,aa,ab,af,ai,ae,t1,t2,t5,t6,t8,t9,t41,t42,t43,Option.isSome_some]
       have ho4:=(((ho3.at 1 (by simp)).tail).perm (.swap _ _ _))
       refine aQ hk (by omega) ⟨⟨u1,u3',rfl,by rw[e1,e1']; exact hin,by rw[e1,e1']; omega,?_,mm,cc,f9,by rw[e1,e1']; exact hm9⟩,t1,t2,t5,t6,t8,t9,t41,t42,rfl⟩
       rw[e1,e1',e2]
       simp only[RI,RE,List.map_nil]
       exact ho4
      ·have e1':gO o r=o ++ [r.left]:=by rw[gO,Q9 hx]
       rw[Q9 hx]
       have hgn:g.az[r.left.toNat]?=some (g.az[r.left.toNat]'(by omega)):=Q7 (by omega)
       have hgnd:g.az.getD r.left.toNat ⟨#[]⟩=g.az[r.left.toNat]'(by omega):=by simp[Q6,hgn]
       generalize g.az[r.left.toNat]'(by omega)=nm at hgn hgnd
       simp (disch:=omega) only [↓wr,seval,wq,ah,ag,ak,aa,ab,af,ai,ae,t1,t2,t5,t6,t8,t9,t41,t42,t43,Option.isSome_none,f11,f8,hu1,Ro]
       refine sQ (kt:=3) (et:=3) (by kernel_rfl) (jX .i64 Tryz.underlying3) (id:=b9) (c:=cc) (m:=mm) (k:=r.left) (v:=gi o.length) (by simp (disch:=omega) only [↓wr,seval,wq,ah,ag,ak,aa,ab,af,ai,ae,t9]) (by simp (disch:=omega) only [↓wr,seval,wq,ah,ag,ak,aa,ab,af,ai,ae]) (by simp (disch:=omega) only [↓wr,seval,wq,ah,ag,ak,aa,ab,af,ai,ae]) f9 ?_
       intro c'
       have n89:b8≠b9:=zX ho3 2 rfl f9
       have n119:b11≠b9:=zX ho3 1 rfl f9
       simp (disch:=omega) only [↓wr,seval,wq,ah,ag,ak,aa,ab,af,ai,ae,t1,t2,t5,t6,t8,t9,t41,t42,t43,f11,f8,n89,n119,aw,encS,Rc,hgn]
       intro m2 hm2
       have hm29:=(fZ hm2 (by simp)).1
       have hm2:=(fZ hm2 (by simp)).2
       have ho5:=((ho3.sf f9 (o:=.map (v8 (bu r.left (gi o.length) cc mm)) c')).fresh (n:=m2) (o:=.arr 1 [[gs nm]]) (by simp only[View.set,Q9 hm29]; exact hm2)).at 3 (by simp)
       try simp (disch:=omega) only [↓wr,seval,wq,ah,ag,ak,aa,ab,af,ai,ae,t1,t2,t5,t6,t8,t9,t41,t42,t43,dW]
       refine eR ho5 (by simp[aS]) (by unfold aK; simp; omega) (by unfold aK; simp; omega) ?_
       intro u1' H5 ho6 hleft2
       have c1:=ho6.head.cells
       have k1:=ho6.head.qi
       have f8':=ho6.is 3 rfl (by simp)
       have f9':=hleft2.map (b:=b9) (es:=v8 (bu r.left (gi o.length) cc mm)) (c:=c') ho5.head (by simp[View.set,Ne.symm hm29])
       have n89':b9≠b8:=n89.symm
       simp (disch:=omega) only [↓wr,seval,wq,ah,ag,ak,aa,ab,af,ai,ae,t1,t2,t5,t6,t8,t9,t41,t42,t43,f8',c1,k1]
       have ho7:=(ho6.at 3 (by simp)).put (es':=[[u0,u1',.emp 1,gi 0]]) rfl rfl
       have ho8:=(((ho7.at 3 (by simp)).tail).perm (.cons _ (.swap _ _ _)))
       refine aQ hk (by omega) ⟨⟨u1',u3',rfl,?_,?_,?_,_,c',(by simp only[View.set,Q9 n89']; exact f9'),?_⟩,t1,t2,t5,t6,t8,t9,t41,t42,rfl⟩
       ·rw[e1,e1']; intro x hx'; rcases Ry.1 hx' with h | h
        ·exact hin x h
        ·simp at h; subst h; exact ⟨hl2,hl3⟩
       ·rw[e1,e1']; simp; omega
       ·rw[e1,e1',e2]
        simp only[RI,RE,List.map_nil,hgnd]
        exact ho8
       ·rw[e1,e1',zN,Int.zero_add,← CQ hx]
        exact hm9.put r.left (o.length:Int) cc
     ·simp (disch:=omega) only [↓wr,seval,wq,ah,ag,ak,aa,ab,af,ai,ae,t1,t2,t5,t6,t7,t8,t9,t41,t42,t43]
      refine hskip _ _ (by rw[cp,mN,hal]; rfl) ?_ ?_ ?_ ?_ ?_ ?_ ?_ ?_ ?_ ?_ ?_
      all_goals first | exact t7 | exact t1 | exact t2 | exact t5 | exact t6 | exact t8 | exact t9 | exact t41 | exact t42 | rfl | (rw[set_set]; rfl)
   ·rw[Rz (by omega)] at ho hin holen hm9
    have hkl40:(dQ p q g.rules 0).length≤40:=by
     rw[rz]; have h1:=Sg (cp p q) g.rules; omega
    have hkg:=vm p q g.rules 0
    have hkln:=rz p q g.rules 0
    have hrg:oX g (dz (dr p q g.rules)) p q=⟨g.av,(dr p q g.rules).map fun x=>g.az.getD x.toNat ⟨#[]⟩,(g.rules.filter (cp p q)).map (bY (dz (dr p q g.rules))),dz (dr p q g.rules) g.start⟩:=rfl
    rw[hrg]
    clear hrg
    generalize dr p q g.rules=o at *
    generalize dQ p q g.rules 0=kl at *
    have hob:o.length≤40:=by omega
    have hu3:cY u3=some (dD kl).length:=(ho.own 1 rfl).len
    simp (disch:=omega) only [↓wr,seval,wq,ah,ag,ak,aa,ab,af,ai,ae,t1,t2,t5,t6,t7,t8,t9,hu3,Ro]
    refine bg.up kl.length (QB g p q b2 b8 b9 u0 u1 u3 o kl mm cc) ?_ ?_
    ·refine ⟨⟨.emp 1,[],by simp,?_,h9⟩,t1,t2,t7,t8,t9,t7,rfl,rfl⟩
     exact (ho.emp (k:=1) (sz:=3)).perm (w8 [(.sl b8 0 1 4,4,[[u0,u1,.emp 1,gi 0]]),(u3,1,dD kl),(u1,1,qR (o.map fun x=>g.az.getD x.toNat ⟨#[]⟩)),(u0,3,g.av.map ca),(.emp 1,3,[]),(.sl b2 0 1 4,4,[[.emp 1,.emp 1,.emp 1,gi 0]])] 4 (by simp)).symm
    clear ho h9 t1 t2 t5 t6 t7 t8 t9 t41 t42 t43
    rintro i k T H2 hk ⟨⟨u2,bs,hbs,ho,h9⟩,t1,t2,t7,t8,t9,t91,t92,t93⟩
    simp (disch:=omega) only [↓wr,seval,wq,ah,ag,ak,aa,ab,af,ai,ae,rD,t1,t2,t7,t8,t9,t91,t92,t93]
    refine aq.dec (fun hc=>?_) (fun hc=>?_)
    ·obtain ⟨n3,e3,hn3⟩:=(ho.own 1 rfl).sl (by simp; omega)
     rw[Ro] at e3
     subst e3
     obtain ⟨m,hm1,hm2,hm3⟩:=hkg i (by omega)
     have hbg:=EO (show i < kl.length by omega)
     rw[Int.zero_add] at hm1
     have hki:kl[i]'(by omega)=(m:Int):=by
      rw[Q7 (show i < kl.length by omega)] at hm1; simpa using hm1
     rw[hki] at hbg
     have hg2:g.rules[m]?=some (g.rules[m]'hm3):=Q7 hm3
     have hmem:g.rules[m]'hm3∈g.rules:=Rj _
     have htk:(g.rules.filter (cp p q)).take (i+1)=(g.rules.filter (cp p q)).take i ++ [g.rules[m]'hm3]:=by
      rw[RG,← hm2,hg2]; rfl
     generalize g.rules[m]'hm3=r at hg2 hmem htk
     obtain ⟨hl1,hl2,hl3,hr6,hsy⟩:=hf.vJ hg hmem
     simp (disch:=omega) only [↓wr,seval,wq,ah,ag,ak,aa,ab,af,ai,ae,t1,t2,t7,t8,t9,t91,t92,t93,hn3,hbg,Ro,aw,aO,encI,Rc,hg2]
     refine ⟨by omega,by omega,?_⟩
     intro b16 hb16
     have hoA:=ho.new hb16 3 [aO r]
     have n916:b9≠b16:=by rintro rfl; rw[h9] at hb16; simp at hb16
     try simp (disch:=omega) only [↓wr,seval,wq,ah,ag,ak,aa,ab,af,ai,ae,t1,t2,t7,t8,t9,t91,t92,t93,set_set]
     refine wW (kt:=3) (et:=3) (z:=gi 0) (by kernel_rfl) (by kernel_rfl) (jX .i64 Tryz.underlying3) (id:=b9) (c:=cc) (m:=mm) (k:=r.left) (by simp (disch:=omega) only [↓wr,seval,wq,ah,ag,ak,aa,ab,af,ai,ae,t9]) (by simp (disch:=omega) only [↓wr,seval,wq,ah,ag,ak,aa,ab,af,ai,ae]) (by simp[View.set,n916,h9]) ?_
     have hgt:∀ x,(getM mm x).getD (gi 0)=gi (dz o x):=fun x=>by
      rw[hm9.get,dz]; cases dJ (jk o 0) x <;> rfl
     rw[hgt]
     simp (disch:=omega) only [↓wr,seval,wq,ah,ag,ak,aa,ab,af,ai,ae,t1,t2,t7,t8,t9,t91,t92,t93]
     refine aF.Hs (Ks r.right (by omega) _) ?_
     intro v H3 hv hfr
     have hoB:=bk.Ph (H:=H2.set b16 (.arr 3 [aO r])) hoA hv (by rw[set_set] at hfr; exact hfr)
     have h9B:H3 b9=.map (v8 mm) cc:=by
      rw[(hfr b9 (by simp[View.set,n916,h9])).1]; simp[View.set,n916,h9]
     have cv:=hv.cells
     have kv:=hv.qi
     have lv:=hv.len
     have f16:=hoB.is 1 rfl (by simp)
     simp only[aO,encI] at f16
     simp (disch:=omega) only [↓wr,seval,wq,ah,ag,ak,aa,ab,af,ai,ae,t1,t2,t7,t8,t9,t91,t92,t93,f16,cv,kv]
     intro b17 hb17
     have hoC:=hoB.new hb17 3 [[gi (dz o r.left),v,gi r.prec]]
     have n917:b9≠b17:=by rintro rfl; rw[h9B] at hb17; simp at hb17
     try simp (disch:=omega) only [↓wr,seval,wq,ah,ag,ak,aa,ab,af,ai,ae,t1,t2,t7,t8,t9,t91,t92,t93,cv,kv,lv,set_set,Ro]
     generalize hL:((V.sl b8 0 1 4,4,[[u0,u1,u2,gi 0]]) :: (V.sl n3 0 kl.length 1,1,dD kl) ::
       (u1,1,qR (o.map fun x=>g.az.getD x.toNat ⟨#[]⟩)) :: (u0,3,g.av.map ca) :: (u2,3,j0 bs) :: (V.sl b2 0 1 4,4,[[V.emp 1,V.emp 1,V.emp 1,gi 0]]) :: s7 bs:List cb)=L at hoC
     refine bg.up r.right.length (Qp g b2 b8 b9 b16 b17 (.sl n3 0 kl.length 1) v o kl mm cc r L i) ?_ ?_
     ·exact ⟨by rw[set_set]; exact hoC,by simp[View.set,n917,h9B],t1,t2,t7,t8,t9,t91,t92,t93,rfl,rfl,rfl,rfl⟩
     clear hoA hoB hoC hb16 hb17 h9 h9B f16 hv hfr t1 t2 t7 t8 t9 t91 t92 t93
     rintro k k2 T H3 hk2 ⟨hoC,h9,t1,t2,t7,t8,t9,t91,t92,t93,t17,t113,t114,t115⟩
     have f17:=hoC.is 0 rfl (by simp)
     simp (disch:=omega) only [↓wr,seval,wq,ah,ag,ak,aa,ab,af,ai,ae,qM,t1,t2,t7,t8,t9,t91,t92,t93,t17,t113,t114,t115]
     refine aq.dec (fun hcc=>?_) (fun hcc=>?_)
     ·have hgs:r.right[k]?=some (r.right[k]'(by omega)):=Q7 (by omega)
      have hms:r.right[k]'(by omega)∈r.right:=Rj _
      have hrl:(bY (dz o) r).right.length=r.right.length:=by simp[bY]
      have hts:(bY (dz o) r).right.take (k+1)=(bY (dz o) r).right.take k ++ [if r.right[k]'(by omega) < 0 then -1 - dz o (-1 - r.right[k]'(by omega)) else r.right[k]'(by omega)]:=by
       rw[RG]; simp[bY,hgs]
      have hdr:=eC (show k < r.right.length by omega)
      generalize r.right[k]'(by omega)=s at hgs hms hts hdr
      obtain ⟨⟨s1,s2⟩,s3⟩:=hsy s hms
      have hbd:=N7 o (-1 - s)
      rw[hdr] at hoC
      have hlen:(((bY (dz o) r).right.take k ++ s :: r.right.drop (k+1)).map fun x=>[gi x]).length=r.right.length:=by simp; omega
      obtain ⟨nv,ev,hnv⟩:=(hoC.own 1 rfl).sl (by rw[hlen]; omega)
      rw[hlen] at ev
      subst ev
      have hlt:k < ((bY (dz o) r).right.take k ++ s :: r.right.drop (k+1)).length:=by simp; omega
      have hbg2:=EO hlt
      have hel:((bY (dz o) r).right.take k ++ s :: r.right.drop (k+1))[k]'hlt=s:=by
       rw[List.getElem_append_right (by simp; omega)]
       simp[show k - min k r.right.length=0 by omega,hrl]
      rw[hel] at hbg2
      simp (disch:=omega) only [↓wr,seval,wq,ah,ag,ak,aa,ab,af,ai,ae,t1,t2,t7,t8,t9,t91,t92,t93,t17,t113,t114,t115,hnv,hbg2,Ro]
      refine ⟨by omega,hlt,?_⟩
      have hlk:((bY (dz o) r).right.take k).length=k:=by rw[Sa]; omega
      have nv9:nv≠b9:=zX hoC 1 rfl h9
      refine aq.dec (fun hneg=>?_) (fun hneg=>?_)
      ·rw[Ra hneg] at hts
       simp (disch:=omega) only [↓wr,seval,wq,ah,ag,ak,aa,ab,af,ai,ae,t1,t2,t7,t8,t9,t91,t92,t93,t17,t113,t114,t115,f17]
       refine wW (kt:=3) (et:=3) (z:=gi 0) (by kernel_rfl) (by kernel_rfl) (jX .i64 Tryz.underlying3) (id:=b9) (c:=cc) (m:=mm) (k:=-1 - s) (by simp (disch:=omega) only [↓wr,seval,wq,ah,ag,ak,aa,ab,af,ai,ae,t9]) (by simp (disch:=omega) only [↓wr,seval,wq,ah,ag,ak,aa,ab,af,ai,ae]) h9 ?_
       rw[hgt]
       simp (disch:=omega) only [↓wr,seval,wq,ah,ag,ak,aa,ab,af,ai,ae,t1,t2,t7,t8,t9,t91,t92,t93,t17,t113,t114,t115,f17,hnv,hbg2,Ro]
       refine ⟨by omega,hlt,?_⟩
       have hoD:=((hoC.at 1 (by simp)).put (es':=((((bY (dz o) r).right.take k ++ s :: r.right.drop (k+1)).map fun x=>[gi x]).set k [gi (-1 - dz o (-1 - s))])) (by simp) (by rw[hlen])).perm (.swap _ _ _)
       refine aQ hk2 (by omega) ⟨?_,by simp only[View.set,Q9 nv9.symm]; exact h9,t1,t2,t7,t8,t9,t91,t92,t93,t17,t113,t114,rfl⟩
       rw[ints_set,AE hlk] at hoD
       rw[hts,RO]
       rw[ints_set,AE hlk]
       exact hoD
      ·rw[Q9 hneg] at hts
       simp (disch:=omega) only [↓wr,seval,wq,ah,ag,ak,aa,ab,af,ai,ae,t1,t2,t7,t8,t9,t91,t92,t93,t17,t113,t114,t115]
       refine aQ hk2 (by omega) ⟨?_,h9,t1,t2,t7,t8,t9,t91,t92,t93,t17,t113,t114,rfl⟩
       rw[hts,RO]
       exact hoC
     ·rw[Rz (by simp[bY]; omega),RB (by omega),SM] at hoC
      subst hL
      have f8:=hoC.is 3 rfl (by simp)
      have cv:=(hoC.own 1 rfl).cells
      have kv:=(hoC.own 1 rfl).qi
      have hbl:(j0 bs).length≤40:=by
       have h1:=Sp List.length hbs
       simp only[Ro,Sa] at h1
       simp only[j0,Ro]
       omega
      simp (disch:=omega) only [↓wr,seval,wq,ah,ag,ak,aa,ab,af,ai,ae,t1,t2,t7,t8,t9,t91,t92,t93,t17,t113,t114,t115,f8,f17,cv,kv]
      intro m hm
      have n9m:b9≠m:=by rintro rfl; rw[h9] at hm; simp at hm
      try simp (disch:=omega) only [↓wr,seval,wq,ah,ag,ak,aa,ab,af,ai,ae,t1,t2,t7,t8,t9,t91,t92,t93,t17,dW]
      have hoD:=(hoC.fresh (o:=.arr 3 [[gi (dz o r.left),v,gi r.prec]]) hm).at 7 (by simp)
      refine eR hoD (by simp[AS,kv]) (by unfold aK; simp at hbl ⊢; omega) (by unfold aK; simp at hbl ⊢; omega) ?_
      intro u2' H4 hoE hleft
      have cu:=hoE.head.cells
      have ku:=hoE.head.qi
      have f8':=hoE.is 4 rfl (by simp)
      have h9':H4 b9=.map (v8 mm) cc:=hleft.map (b:=b9) hoD.head (by simp[View.set,n9m,h9])
      have n98:b9≠b8:=(zX hoE 4 rfl h9').symm
      simp (disch:=omega) only [↓wr,seval,wq,ah,ag,ak,aa,ab,af,ai,ae,t1,t2,t7,t8,t9,t91,t92,t93,t17,f8',cu,ku]
      have hoF:=(hoE.at 4 (by simp)).put (es':=[[u0,u1,u2',gi 0]]) rfl rfl
      have hoG:=((((hoF.at 2 (by simp)).tail).at 3 (by simp)).tail)
      refine aQ hk (by omega) ⟨⟨u2',bs ++ [(v,bY (dz o) r)],?_,?_,by simp only[View.set,Q9 n98]; exact h9'⟩,t1,t2,t7,t8,t9,t91,t92,rfl⟩
      ·rw[RI,hbs,htk,RI]; rfl
      ·refine hoG.perm (.cons _ ?_)
       simp only[s7,j0,RI,RE,List.map_nil]
       refine .trans ?_ (w8 _ 3 (by simp)).symm
       refine .cons _ ?_
       exact (List.perm_append_singleton (v,1,dD (bY (dz o) r).right) ((.sl n3 0 kl.length 1,1,dD kl) :: (u1,1,qR (o.map fun x=>g.az.getD x.toNat ⟨#[]⟩)) :: (u0,3,g.av.map ca) :: (.sl b2 0 1 4,4,[[.emp 1,.emp 1,.emp 1,gi 0]]) :: s7 bs)).symm
    ·rw[Rz (by omega)] at hbs
     have f8:=ho.is 0 rfl (by simp)
     have f2:=ho.is 5 rfl (by simp)
     have n82:b8≠b2:=ho.NZ 0 5 rfl rfl (by omega)
     have c1:=(ho.own 2 rfl).cells
     have k1:=(ho.own 2 rfl).qi
     have c2:=(ho.own 4 rfl).cells
     have k2:=(ho.own 4 rfl).qi
     have hgt:∀ x,(getM mm x).getD (gi 0)=gi (dz o x):=fun x=>by
      rw[hm9.get,dz]; cases dJ (jk o 0) x <;> rfl
     simp (disch:=omega) only [↓wr,seval,wq,ah,ag,ak,aa,ab,af,ai,ae,t1,t2,t7,t8,t9,t91,t92,t93,aw]
     refine wW (kt:=3) (et:=3) (z:=gi 0) (by kernel_rfl) (by kernel_rfl) (jX .i64 Tryz.underlying3) (id:=b9) (c:=cc) (m:=mm) (k:=g.start) (by simp (disch:=omega) only [↓wr,seval,wq,ah,ag,ak,aa,ab,af,ai,ae,t9]) (by simp (disch:=omega) only [↓wr,seval,wq,ah,ag,ak,aa,ab,af,ai,ae]) h9 ?_
     rw[hgt]
     simp (disch:=omega) only [↓wr,seval,wq,ah,ag,ak,aa,ab,af,ai,ae,t1,t2,t7,t8,t9,t91,t92,t93,f8,f2,n82,n82.symm,c0,k0,c1,k1,c2,k2]
     intro h' hh
     have hoA:=ho.put (es':=[[u0,u1,u2,gi (dz o g.start)]]) rfl rfl
     have hoB:=(hoA.at 5 (by simp)).put (es':=[[u0,u1,u2,gi (dz o g.start)]]) rfl rfl
     have hv:h'.view=(H2.set b8 (.arr 4 [[u0,u1,u2,gi (dz o g.start)]])).set b2 (.arr 4 [[u0,u1,u2,gi (dz o g.start)]]):=hh
     rw[← hv] at hoB
     exact OJ (x:=(⟨g.av,o.map fun x=>g.az.getD x.toNat ⟨#[]⟩,(g.rules.filter (cp p q)).map (bY (dz o)),dz o g.start⟩,kl,0)) (b:=bs) (hoB.own 4 rfl) (hoB.own 3 rfl) (hoB.own 5 rfl) (fun y hy=>hoB.1 y (by
      refine RN _ (RN _ (RN _ (RN _ (RN _ (RN _ ?_)))))
      exact hy)) hbs (hoB.own 2 rfl)
 ·rename_i hr
  intro h' hh
  rw[Q9 (by simp[hr])]
  exact EK
theorem G5 {l:List Int} {a b:List Bool} {t:Bool} (h:eM a b) (k:bZ l a t=true):bZ l b t=true:=by
 simp only[bZ,RD] at k ⊢
 intro s hs
 have:=k s hs
 by_cases h0:0≤s
 ·rw[Ra h0] at this ⊢; exact this
 ·rw[Q9 h0] at this ⊢; exact h.2 _ this
theorem eM.EC {a b:List Bool} (h:eM a b) (k:eM b a):a=b:=by
 have h1:=h.dE
 have h2:=k.dE
 exact h1.2 (by omega)
def mL (g:ao) (t:Bool) (is:List Bool):Prop:=∀ i,is.getD i false=true→∃ r∈g.rules,r.left.toNat=i∧bZ r.right is t=true
theorem mL.step {g:ao} {t:Bool} {is:List Bool} {r:aM} (h:mL g t is) (hr:r∈g.rules):mL g t (dP t is r):=by
 have hle:eM is (dP t is r):=by
  unfold dP
  split
  ·exact .set _ _
  ·exact .refl _
 intro i hi
 by_cases e:is.getD i false=true
 ·obtain ⟨r',h1,h2,h3⟩:=h i e
  exact ⟨r',h1,h2,G5 hle h3⟩
 ·unfold dP at hi
  by_cases ha:bZ r.right is t=true
  ·rw[Ra ha] at hi
   have:r.left.toNat=i:=by
    refine Th fun hne=>e ?_
    simp only[Q6,Sz,Q9 hne] at hi ⊢
    exact hi
   exact ⟨r,hr,this,G5 hle ha⟩
  ·rw[Q9 ha] at hi; exact absurd hi e
theorem mL.fold {g:ao} {t:Bool} : ∀ (l:List aM) (is:List Bool),(∀ r∈l,r∈g.rules)→mL g t is→mL g t (l.foldl (dP t) is)
 | [],is,_,h=>h
 | r :: l,is,hl,h=>mL.fold l _ (fun x hx=>hl x (by simp[hx])) (h.step (hl r (by simp)))
theorem mL.iter {g:ao} {t:Bool} : ∀ (n:Nat) (is:List Bool),mL g t is→mL g t (iter (js g t) n is)
 | 0,_,h=>h
 | n+1,is,h=>mL.iter n _ (mL.fold g.rules is (fun _ h=>h) h)
theorem Ic (g:ao) (t:Bool):mL g t (au g t):=by
 unfold au
 split
 ·refine mL.iter _ _ ?_
  intro i hi
  simp only[cn,Q6,Tn] at hi
  split at hi <;> simp at hi
 ·intro i hi; simp at hi
theorem HN (is:List Bool) (s:Int):eM is (mark is s):=by
 unfold mark
 split
 ·exact .set _ _
 ·exact .refl _
theorem x4:∀ (l:List Int) (is:List Bool),eM is (l.foldl mark is)
 | [],is=>.refl _
 | s :: l,is=>(HN is s).trans (x4 l _)
theorem E0 (p is:List Bool) (r:aM):eM is (jE p is r):=by
 unfold jE
 split
 ·exact x4 _ _
 ·exact .refl _
theorem E2 (p:List Bool):∀ (l:List aM) (is:List Bool),eM is (l.foldl (jE p) is)
 | [],is=>.refl _
 | r :: l,is=>(E0 p is r).trans (E2 p l _)
theorem CB {p:List Bool} : ∀ {l:List aM} {is:List Bool},l.foldl (jE p) is=is→∀ r∈l,jE p is r=is
 | [],_,_,_,h=>by simp at h
 | r :: l,is,h,x,hx=>by
  rw[Rx] at h
  have h1:=E2 p l (jE p is r)
  rw[h] at h1
  have h2:=(h1.EC (E0 p is r))
  rcases Rm.1 hx with rfl | hx
  ·exact h2
  ·rw[h2] at h; exact CB h x hx
theorem CP:∀ {l:List Int} {is:List Bool},l.foldl mark is=is→∀ s∈l,mark is s=is
 | [],_,_,_,h=>by simp at h
 | r :: l,is,h,x,hx=>by
  rw[Rx] at h
  have h1:=x4 l (mark is r)
  rw[h] at h1
  have h2:=(h1.EC (HN is r))
  rcases Rm.1 hx with rfl | hx
  ·exact h2
  ·rw[h2] at h; exact CP h x hx
theorem Cb {g:ao} (hr:bE g=true):sw g (au g true) (bP g)=bP g∧eM ((cn g).set g.start.toNat true) (bP g):=by
 have hf:=bL hr
 have h:=rr (qt (au g true)) g.rules 16 ((cn g).set g.start.toNat true) (by have:=hf.az; simp[cn]; omega)
 rw[Gu,LU hr] at h
 exact h
theorem rM {g:ao} (hr:bE g=true):(bP g).getD g.start.toNat false=true:=by
 have hf:=bL hr
 refine (Cb hr).2.2 _ ?_
 have h3:=hf.jT
 have h4:=hf.start
 simp only[Q6]
 rw[S7 (by simp[cn]; omega)]
 rfl
theorem tW {g:ao} (hr:bE g=true) {r:aM} (hm:r∈g.rules) (hk:cp (au g true) (bP g) r=true) {s:Int} (hs:s∈r.right) (hn:s < 0):(bP g).getD (-1 - s).toNat false=true:=by
 have hf:=bL hr
 have h1:=CB (Cb hr).1 r hm
 unfold jE at h1
 rw[cp] at hk
 rw[Ra hk] at h1
 have h2:=CP h1 s hs
 unfold mark at h2
 rw[Ra hn] at h2
 rw[← h2]
 have hl:=rI hr
 have:=hf.neg hm hs hn
 simp only[Q6]
 rw[S7 (by omega)]
 rfl
theorem zF {g:ao} (hr:bE g=true) {x:Int} (h0:0≤x) (hp:(au g true).getD x.toNat false=true) (hq:(bP g).getD x.toNat false=true):x∈dr (au g true) (bP g) g.rules:=by
 obtain ⟨r,h1,h2,h3⟩:=Ic g true _ hp
 have hf:=bL hr
 have h4:=hf.left r h1
 have:r.left=x:=by omega
 refine qA.2 ⟨r,h1,?_,this⟩
 rw[cp,this,hq,h3]; rfl
theorem IG (g:ao):(if bE g=true then
  if (au g true).getD g.start.toNat false=true then (oX g (dz (dr (au g true) (bP g) g.rules)) (au g true) (bP g),dQ (au g true) (bP g) g.rules 0,0)
  else (ta,[],9)
 else (ta,[],1))=gL g:=by
 unfold gL
 by_cases hr:bE g=true
 ·rw[Ra hr,Ra hr]
  by_cases hp:(au g true).getD g.start.toNat false=true
  ·rw[Ra hp,Ra hp]
   have hf:=bL hr
   rw[JU]
   ·exact zF hr hf.jT hp (rM hr)
   ·intro r hm
    obtain ⟨h1,h2⟩:=RQ.1 hm
    refine ⟨qA.2 ⟨r,h1,h2,rfl⟩,fun s hs hn=>?_⟩
    refine zF hr (by omega) ?_ (tW hr h1 h2 hs hn)
    rw[cp,Rg] at h2
    have:=h2.2
    simp only[bZ,RD] at this
    have:=this s hs
    rwa [Q9 (by omega)] at this
  ·rw[Q9 hp,Q9 hp]
 ·rw[Q9 hr,Q9 hr]
theorem I3 (g:ao) (hg:g.Ok) (hs:g.Small):de Tryz.prog 109 [.agg (aw g)] (Bh (gL g)):=by
 rw[← IG]; exact Ga g hg hs
def ax (g:ao) (k:Int):aM:=g.rules.getD k.toNat ⟨0,[],0⟩
theorem getD_some {α:Type} {l:List α} {j:Nat} {d:α} (h:j < l.length):l[j]?=some (l.getD j d):=by simp[Q6,h]
theorem D7 {x:Int} : ∀ (o:List Int) (i:Int),x∈o→∃ k:Nat,cB (fun y=>y == x) o i=i+k∧o[k]?=some x
 | [],_,h=>by simp at h
 | y :: o,i,h=>by
  by_cases e:y=x
  ·exact ⟨0,by simp[cB,e],by simp[e]⟩
  ·have hx:x∈o:=by
    rcases Rm.1 h with rfl | h
    ·exact absurd rfl e
    ·exact h
   obtain ⟨k,h1,h2⟩:=D7 o (i+1) hx
   exact ⟨k+1,by simp only[cB]; rw[Q9 (by simp[e]),h1]; push_cast; omega,by simpa using h2⟩
theorem LY {o:List Int} {x:Int} (h:x∈o):o[(cE o x).toNat]?=some x:=by
 obtain ⟨k,h1,h2⟩:=D7 o 0 h
 have:cE o x=k:=by unfold cE; omega
 rw[this]; simpa using h2
theorem GM {o:List Int} (hn:o.Nodup) {k:Nat} {x:Int} (h:o[k]?=some x):cE o x=k:=by
 have hx:=Re h
 have h1:=LY hx
 have h2:=nC hx
 obtain ⟨hk,h3⟩:=Rl.1 h
 obtain ⟨hk2,h4⟩:=Rl.1 h1
 have:=(List.getElem_inj hn).1 (h4.trans h3.symm)
 omega
theorem pX:∀ (l:List aM) (acc:List Int),acc.Nodup→(l.foldl gO acc).Nodup
 | [],_,h=>h
 | r :: l,acc,h=>pX l _ (Jb h)
theorem HU (p q:List Bool) (l:List aM):(dr p q l).Nodup:=pX _ _ List.nodup_nil
theorem MN (acc:List Int) (r:aM):∃ m,gO acc r=acc ++ m:=by
 unfold gO
 split
 ·exact ⟨[],by simp⟩
 ·exact ⟨_,rfl⟩
theorem sT:∀ (l:List aM) (acc:List Int),∃ m,l.foldl gO acc=acc ++ m
 | [],acc=>⟨[],by simp⟩
 | r :: l,acc=>by
  obtain ⟨m,hm⟩:=MN acc r
  obtain ⟨k,hk⟩:=sT l (gO acc r)
  exact ⟨m ++ k,by rw[Rx,hk,hm,RO]⟩
theorem MM {a b:List Int} {x:Int} (h:x∈a):cE (a ++ b) x=cE a x:=by
 unfold cE
 rw[xt _ _ _ _ (by omega)]
 have:=nC h
 unfold cE at this
 rw[Ra this.1]
theorem tL {r:ao} {o:List Int} (ho:o.Nodup) (hr:r.az.length=o.length):∀ (l:List aM) (acc:List Int),o=l.foldl gO acc→(∀ x∈l,gZ r (bY (cE o) x)=true)→gm r (l.map (bY (cE o))) ((acc.length:Int) - 1)=true
 | [],acc,h,_=>by
  simp only[SD] at h
  simp[gm,hr,h]
 | x :: l,acc,h,hb=>by
  simp only[RE,gm,Rg,Rn]
  rw[Rx] at h
  have h1:(bY (cE o) x).left=cE o x.left:=rfl
  obtain ⟨m,hm⟩:=sT l (gO acc x)
  rw[← h] at hm
  by_cases hx:x.left∈acc
  ·have e:gO acc x=acc:=by unfold gO; rw[Ra hx]
   rw[e] at hm h
   have h2:=nC hx
   have h3:cE o x.left=cE acc x.left:=by rw[hm]; exact MM hx
   rw[h1,h3,Q9 (by omega)]
   exact ⟨⟨⟨h2.1,by omega⟩,hb x (by simp)⟩,tL ho hr l acc h fun y hy=>hb y (by simp[hy])⟩
  ·have e:gO acc x=acc ++ [x.left]:=by unfold gO; rw[Q9 hx]
   rw[e] at hm h
   have h3:cE o x.left=acc.length:=GM ho (by rw[hm]; simp)
   rw[h1,h3,Ra (by omega)]
   refine ⟨⟨⟨by omega,by omega⟩,hb x (by simp)⟩,?_⟩
   have:=tL ho hr l (acc ++ [x.left]) h fun y hy=>hb y (by simp[hy])
   rw[R5] at this
   simpa using this
theorem xx {g r:ao} (h:r.av=g.av):∀ (l:List Term) (i:Int),jm r l i=jm g l i
 | [],_=>rfl
 | t :: l,i=>by
  simp only[jm,xx h l]
  congr 1
  simp only[jy,lh,pL,h]
theorem C1 {o:List Int} {n:Nat} (h:o.Nodup) (hb:∀ x∈o,0≤x∧x < n):o.length≤n:=by
 have:=lI o ((List.range n).map fun (k:Nat)=>(k:Int)) h fun x hx=>by
  have:=hb x hx
  exact Rv.2 ⟨x.toNat,R3.2 (by omega),by omega⟩
 simpa using this
structure iM (g:ao) (p q:List Bool) (o:List Int) (r:ao):Prop where
 right:bE g=true
 pe:p=au g true
 qe:q=bP g
 oe:o=dr p q g.rules
 re:r=oX g (cE o) p q
 nodup:o.Nodup
 inside:∀ x∈o,0≤x∧x < g.az.length
 kept:∀ R∈g.rules,cp p q R=true→R.left∈o∧∀ s∈R.right,s < 0→-1 - s∈o
 from_:∀ x∈o,∃ R∈g.rules,cp p q R=true∧R.left=x
 start:g.start∈o
theorem JN {g:ao} (hr:bE g=true) (hp:(au g true).getD g.start.toNat false=true):iM g (au g true) (bP g) (dr (au g true) (bP g) g.rules) (oX g (cE (dr (au g true) (bP g) g.rules)) (au g true) (bP g)):=by
 have hf:=bL hr
 refine ⟨hr,rfl,rfl,rfl,rfl,HU _ _ _,fun x hx=>?_,fun R hm hk=>⟨qA.2 ⟨R,hm,hk,rfl⟩,fun s hs hn=>?_⟩,fun x hx=>qA.1 hx,zF hr hf.jT hp (rM hr)⟩
 ·obtain ⟨R,h1,_,rfl⟩:=qA.1 hx
  exact hf.left R h1
 ·refine zF hr (by omega) ?_ (tW hr hm hk hs hn)
  rw[cp,Rg] at hk
  have:=hk.2
  simp only[bZ,RD] at this
  have:=this s hs
  rwa [Q9 (by omega)] at this
section
variable {g r:ao} {p q:List Bool} {o:List Int}
theorem iM.rules (h:iM g p q o r):r.rules=(g.rules.filter (cp p q)).map (bY (cE o)):=by rw[h.re]; rfl
theorem iM.az (h:iM g p q o r):r.az=o.map fun x=>g.az.getD x.toNat ⟨#[]⟩:=by rw[h.re,h.oe]; rfl
theorem iM.av (h:iM g p q o r):r.av=g.av:=by rw[h.re]; rfl
theorem iM.DM (h:iM g p q o r):r.start=cE o g.start:=by rw[h.re]; rfl
theorem iM.len (h:iM g p q o r):r.az.length=o.length:=by rw[h.az]; simp
theorem iM.vn (h:iM g p q o r):bE r=true:=by
 have hf:=bL h.right
 have hR:=h.right
 simp only[bE,jr,jQ,Rg,Rn] at hR ⊢
 obtain ⟨⟨⟨⟨⟨⟨⟨a1,a2⟩,⟨a3,a4⟩,a5⟩,a6⟩,a7⟩,a8⟩,a9⟩,a10⟩:=hR
 have hst:=nC h.start
 have hol:o.length≤g.az.length:=C1 h.nodup h.inside
 have hgn:g.az.Nodup∧∀ s∈g.az,fI (eO s)=true∧lh g s < 0:=by
  rw[qZ] at a5
  refine ⟨(qT g.az).1 fun k s hk=>?_,fun s hs=>?_⟩
  ·have:=a5 k s hk
   simp only[kA,vM,Rg,Sd] at this
   have:=this.1.2
   omega
  ·obtain ⟨k,hk⟩:=List.getElem?_of_mem hs
   have:=a5 k s hk
   simp only[kA,Rg,Rn] at this
   exact ⟨this.1.1,this.2⟩
 have hget:∀ x∈o,∃ (hx:x.toNat < g.az.length),g.az.getD x.toNat ⟨#[]⟩=g.az[x.toNat]:=fun x hx=>by
  have:=h.inside x hx
  exact ⟨by omega,by simp[Q6,Q7 (show x.toNat < g.az.length by omega)]⟩
 have hrn:r.az.Nodup:=by
  rw[h.az,S9,Tm]
  refine (List.Pairwise.and_mem.1 h.nodup).imp ?_
  rintro x y ⟨hx,hy,hne⟩ e
  obtain ⟨h1,h2⟩:=hget x hx
  obtain ⟨h3,h4⟩:=hget y hy
  rw[h2,h4] at e
  have h5:=(List.getElem_inj hgn.1).1 e
  have h6:=h.inside x hx
  have h7:=h.inside y hy
  exact hne (by omega)
 have hrules:(g.rules.filter (cp p q)).length≤g.rules.length:=Sg _ _
 obtain ⟨R0,hR0,hk0,_⟩:=h.from_ _ h.start
 have hpos:0 < (g.rules.filter (cp p q)).length:=List.length_pos_of_mem (RQ.2 ⟨hR0,hk0⟩)
 have hrl:r.rules.length=(g.rules.filter (cp p q)).length:=by rw[h.rules]; simp
 refine ⟨⟨⟨⟨⟨⟨⟨by rw[h.av]; exact a1,?_⟩,⟨by rw[h.len]; omega,by rw[h.len]; omega⟩,?_⟩,by omega⟩,by omega⟩,by rw[h.DM]; omega⟩,by rw[h.DM,h.len]; omega⟩,?_⟩
 ·rw[h.av,xx h.av]; exact a2
 ·rw[qZ]
  intro k s hk
  have hm:=Re hk
  have hidx:=(qT r.az).2 hrn k s hk
  rw[h.az,Rv] at hm
  obtain ⟨x,hx,rfl⟩:=hm
  obtain ⟨h1,h2⟩:=hget x hx
  obtain ⟨h3,h4⟩:=hgn.2 _ (h2 ▸ Rj h1:g.az.getD x.toNat ⟨#[]⟩∈g.az)
  simp only[kA,vM,Rg,Sd,Rn]
  refine ⟨⟨h3,by rw[hidx]; omega⟩,?_⟩
  simp only[lh,h.av] at h4 ⊢
  exact h4
 ·rw[h.rules]
  have:=tL (r:=r) h.nodup h.len (g.rules.filter (cp p q)) [] (by rw[h.oe]; rfl) (fun x hx=>?_)
  ·simpa using this
  obtain ⟨hm,hk⟩:=RQ.1 hx
  obtain ⟨_,hin⟩:=h.kept x hm hk
  have hb:=(wD _ _ a10).2 x hm
  have hb:=hb.2.2
  simp only[gZ,Rg,Rn,RD] at hb ⊢
  obtain ⟨⟨⟨b1,b2⟩,b3⟩,b4⟩:=hb
  refine ⟨⟨⟨by simpa [bY] using b1,b2⟩,by rw[h.av]; exact b3⟩,fun s hs=>?_⟩
  simp only[bY,Rv] at hs
  obtain ⟨s0,hs0,rfl⟩:=hs
  have b5:=b4 s0 hs0
  by_cases hn:s0 < 0
  ·rw[Ra hn]
   have hl:=nC (hin s0 hs0 hn)
   simp only[lA,gP,Rg]
   rw[Q9 (by omega),decide_eq_false (p:=0≤-1 - cE o (-1 - s0)) (by omega)]
   simp only[h.len,Rn,SL,Bool.not_false,and_true]
   omega
  ·rw[Q9 hn]
   simp only[lA,gP,h.av] at b5 ⊢
   rw[Ra (by omega)] at b5 ⊢
   exact b5
end
inductive rv (g:ao):Int→Prop
 | mk (R:aM):R∈g.rules→(∀ s∈R.right,s < 0→rv g (-1 - s))→rv g R.left
inductive mj (g:ao) (p:List Bool):Int→Prop
 | start:mj g p g.start
 | next (R:aM) (s:Int):R∈g.rules→mj g p R.left→bZ R.right p true=true→s∈R.right→s < 0→mj g p (-1 - s)
theorem tI {l:List Int} {p:List Bool} : bZ l p true=true↔∀ s∈l,s < 0→p.getD (-1 - s).toNat false=true:=by
 simp only[bZ,RD]
 constructor
 ·intro h s hs hn
  have:=h s hs
  rwa [Q9 (by omega)] at this
 ·intro h s hs
  by_cases hn:s < 0
  ·rw[Q9 (by omega)]; exact h s hs hn
  ·rw[Ra (by omega)]
theorem yi {l:List Bool} {i j:Nat} (h:(l.set i true).getD j false=true):j=i∨l.getD j false=true:=by
 by_cases e:i=j
 ·exact .inl e.symm
 ·right
  simp only[Q6,Sz,Q9 e] at h ⊢
  exact h
theorem Ay {g:ao} {i:Nat} : (cn g).getD i false=false:=by
 simp only[cn,Q6,Tn]
 split <;> rfl
theorem uS {g:ao} (hr:bE g=true):∀ i:Nat,(au g true).getD i false=true→rv g i:=by
 have hf:=bL hr
 have hst:∀ (is:List Bool) (R:aM),R∈g.rules→(∀ i:Nat,is.getD i false=true→rv g i)→∀ i:Nat,(dP true is R).getD i false=true→rv g i:=by
  intro is R hR h i hi
  unfold dP at hi
  split at hi
  ·rename_i ha
   rcases yi hi with rfl | hi
   ·have:=hf.left R hR
    have e:((R.left.toNat:Nat):Int)=R.left:=by omega
    rw[e]
    refine .mk R hR fun s hs hn=>?_
    have:=h _ (tI.1 ha s hs hn)
    rwa [show (((-1 - s).toNat:Nat):Int) = -1 - s by omega] at this
   ·exact h i hi
  ·exact h i hi
 have hfold:∀ (l:List aM) (is:List Bool),(∀ R∈l,R∈g.rules)→(∀ i:Nat,is.getD i false=true→rv g i)→∀ i:Nat,(l.foldl (dP true) is).getD i false=true→rv g i:=by
  intro l
  induction l with
  | nil=>intro is _ h; exact h
  | cons R l ih=>intro is hl h; exact ih _ (fun x hx=>hl x (by simp[hx])) (hst is R (hl R (by simp)) h)
 have hit:∀ (n:Nat) (is:List Bool),(∀ i:Nat,is.getD i false=true→rv g i)→∀ i:Nat,(iter (js g true) n is).getD i false=true→rv g i:=by
  intro n
  induction n with
  | zero=>intro is h; exact h
  | succ n ih=>intro is h; exact ih _ (hfold g.rules is (fun _ h=>h) h)
 rw[au,Ra hr]
 exact hit _ _ fun i hi=>by rw[Ay] at hi; simp at hi
theorem Bv (t:Bool) (is:List Bool) (R:aM):eM is (dP t is R):=by
 unfold dP
 split
 ·exact .set _ _
 ·exact .refl _
theorem By (t:Bool):∀ (l:List aM) (is:List Bool),eM is (l.foldl (dP t) is)
 | [],is=>.refl _
 | R :: l,is=>(Bv t is R).trans (By t l _)
theorem zD {t:Bool} : ∀ {l:List aM} {is:List Bool},l.foldl (dP t) is=is→∀ R∈l,dP t is R=is
 | [],_,_,_,h=>by simp at h
 | R :: l,is,h,x,hx=>by
  rw[Rx] at h
  have h1:=By t l (dP t is R)
  rw[h] at h1
  have h2:=(h1.EC (Bv t is R))
  rcases Rm.1 hx with rfl | hx
  ·exact h2
  ·rw[h2] at h; exact zD h x hx
theorem Ko {g:ao} (hr:bE g=true) (t:Bool):js g t (au g t)=au g t:=by
 have hf:=bL hr
 have h:=rr (kR t) g.rules 16 (cn g) (by have:=hf.az; simp[cn]; omega)
 rw[Gs,Dm hr] at h
 exact h.1
theorem qg {g:ao} (hr:bE g=true) {t:Bool} {R:aM} (hR:R∈g.rules) (ha:bZ R.right (au g t) t=true):(au g t).getD R.left.toNat false=true:=by
 have h1:=zD (Ko hr t) R hR
 have hf:=bL hr
 have hl:=fG hr t
 have hb:=hf.left R hR
 unfold dP at h1
 rw[Ra ha] at h1
 rw[← h1]
 simp only[Q6]
 rw[S7 (by omega)]
 rfl
theorem vE {g:ao} (hr:bE g=true) {x:Int} (h:rv g x):(au g true).getD x.toNat false=true:=by
 induction h with
 | mk R hR _ ih=>exact qg hr hR (tI.2 fun s hs hn=>ih s hs hn)
theorem wg {g:ao} (hr:bE g=true):∀ i:Nat,(bP g).getD i false=true→mj g (au g true) i:=by
 have hf:=bL hr
 have hmk:∀ (R:aM),R∈g.rules→mj g (au g true) R.left→bZ R.right (au g true) true=true→∀ (l:List Int) (is:List Bool),(∀ s∈l,s∈R.right)→(∀ i:Nat,is.getD i false=true→mj g (au g true) i)→∀ i:Nat,(l.foldl mark is).getD i false=true→mj g (au g true) i:=by
  intro R hR hl ha l
  induction l with
  | nil=>intro is _ h; exact h
  | cons s l ih =>
   intro is hs h
   refine ih _ (fun x hx=>hs x (by simp[hx])) fun i hi=>?_
   unfold mark at hi
   split at hi
   ·rename_i hn
    rcases yi hi with rfl | hi
    ·rw[show (((-1 - s).toNat:Nat):Int) = -1 - s by omega]
     exact .next R s hR hl ha (hs s (by simp)) hn
    ·exact h i hi
   ·exact h i hi
 have hst:∀ (is:List Bool) (R:aM),R∈g.rules→(∀ i:Nat,is.getD i false=true→mj g (au g true) i)→∀ i:Nat,(jE (au g true) is R).getD i false=true→mj g (au g true) i:=by
  intro is R hR h
  unfold jE
  split
  ·rename_i ha
   rw[Rg] at ha
   have h1:=h _ ha.1
   have:=hf.left R hR
   rw[show ((R.left.toNat:Nat):Int)=R.left by omega] at h1
   exact hmk R hR h1 ha.2 R.right is (fun _ h=>h) h
  ·exact h
 have hfold:∀ (l:List aM) (is:List Bool),(∀ R∈l,R∈g.rules)→(∀ i:Nat,is.getD i false=true→mj g (au g true) i)→∀ i:Nat,(l.foldl (jE (au g true)) is).getD i false=true→mj g (au g true) i:=by
  intro l
  induction l with
  | nil=>intro is _ h; exact h
  | cons R l ih=>intro is hl h; exact ih _ (fun x hx=>hl x (by simp[hx])) (hst is R (hl R (by simp)) h)
 have hit:∀ (n:Nat) (is:List Bool),(∀ i:Nat,is.getD i false=true→mj g (au g true) i)→∀ i:Nat,(iter (sw g (au g true)) n is).getD i false=true→mj g (au g true) i:=by
  intro n
  induction n with
  | zero=>intro is h; exact h
  | succ n ih=>intro is h; exact ih _ (hfold g.rules is (fun _ h=>h) h)
 rw[bP,Ra hr]
 refine hit _ _ fun i hi=>?_
 rcases yi hi with rfl | hi
 ·have:=hf.jT
  rw[show ((g.start.toNat:Nat):Int)=g.start by omega]
  exact .start
 ·rw[Ay] at hi; simp at hi
theorem vG {g:ao} (hr:bE g=true) {x:Int} (h:mj g (au g true) x):(bP g).getD x.toNat false=true:=by
 induction h with
 | start=>exact rM hr
 | next R s hR _ ha hs hn ih=>exact tW hr hR (by rw[cp,ih,ha]; rfl) hs hn
section
variable {g r:ao} {p q:List Bool} {o:List Int}
theorem iM.QZ (h:iM g p q o r) {x:Int} (hd:rv g x):x∈o→rv r (cE o x):=by
 induction hd with
 | mk R hR hsub ih =>
  intro hx
  obtain ⟨R1,hR1,hk1,e1⟩:=h.from_ _ hx
  have hk:cp p q R=true:=by
   rw[cp,Rg] at hk1 ⊢
   refine ⟨by rw[← e1]; exact hk1.1,?_⟩
   rw[h.pe]
   exact tI.2 fun s hs hn=>vE h.right (hsub s hs hn)
  have hin:=(h.kept R hR hk).2
  have hm:bY (cE o) R∈r.rules:=by rw[h.rules]; exact Rv.2 ⟨R,RQ.2 ⟨hR,hk⟩,rfl⟩
  refine rv.mk (bY (cE o) R) hm fun s' hs' hn'=>?_
  simp only[bY,Rv] at hs'
  obtain ⟨s,hs,rfl⟩:=hs'
  by_cases hn:s < 0
  ·rw[Ra hn]
   have:=ih s hs hn (hin s hs hn)
   rwa [show -1 - (-1 - cE o (-1 - s))=cE o (-1 - s) by omega]
  ·rw[Q9 hn] at hn'; omega
theorem iM.PZ (h:iM g p q o r) {x:Int} (hx:x∈o):(au r true).getD (cE o x).toNat false=true:=by
 obtain ⟨R,hR,hk,rfl⟩:=h.from_ _ hx
 rw[cp,Rg,h.pe] at hk
 have h1:=qg h.right hR hk.2
 have h2:=uS h.right _ h1
 have:=(h.inside _ hx)
 rw[show ((R.left.toNat:Nat):Int)=R.left by omega] at h2
 exact vE h.vn (h.QZ h2 hx)
theorem iM.at_ (h:iM g p q o r) {k:Nat} (hk:k < o.length):∃ x∈o,cE o x=k∧o[k]?=some x:=⟨o[k],Rj _,GM h.nodup (Q7 hk),Q7 hk⟩
theorem iM.Cy (h:iM g p q o r) {k:Nat} (hk:k < o.length):(au r true).getD k false=true:=by
 obtain ⟨x,hx,h1,_⟩:=h.at_ hk
 have:=h.PZ hx
 rwa [h1,Rs] at this
theorem iM.Pm (h:iM g p q o r) {R:aM} (hR:R∈r.rules):bZ R.right (au r true) true=true:=by
 have hf:=bL h.vn
 refine tI.2 fun s hs hn=>h.Cy ?_
 have:=hf.neg hR hs hn
 rw[h.len] at this
 omega
theorem iM.Q0 (h:iM g p q o r) {x:Int} (hd:mj g (au g true) x):mj r (au r true) (cE o x):=by
 induction hd with
 | start=>rw[← h.DM]; exact .start
 | next R s hR h1 ha hs hn ih =>
  have hk:cp p q R=true:=by
   rw[cp,h.pe,h.qe,ha,vG h.right h1]; rfl
  have hm:bY (cE o) R∈r.rules:=by rw[h.rules]; exact Rv.2 ⟨R,RQ.2 ⟨hR,hk⟩,rfl⟩
  have hin:=(h.kept R hR hk).2 s hs hn
  have h2:=nC hin
  have:=mj.next (g:=r) (p:=au r true) (bY (cE o) R) (-1 - cE o (-1 - s)) hm ih (h.Pm hm) (by
   simp only[bY,Rv]
   exact ⟨s,hs,by rw[Ra hn]⟩) (by omega)
  rwa [show -1 - (-1 - cE o (-1 - s))=cE o (-1 - s) by omega] at this
theorem iM.Lr (h:iM g p q o r) {k:Nat} (hk:k < o.length):(bP r).getD k false=true:=by
 obtain ⟨x,hx,h1,_⟩:=h.at_ hk
 obtain ⟨R,hR,hkk,rfl⟩:=h.from_ _ hx
 rw[cp,Rg,h.qe] at hkk
 have h2:=wg h.right _ hkk.1
 have:=(h.inside _ hx)
 rw[show ((R.left.toNat:Nat):Int)=R.left by omega] at h2
 have:=vG h.vn (h.Q0 h2)
 rwa [h1,Rs] at this
end
def isRed (g:ao):Bool:=(gL g).2.2 == 0 && decide (g=(gL g).1)
def Pk (p:List Int) (i:Nat) (s:Int):Prop:=∃ c,p[i]?=some c∧(c=s∨c = -1)
structure Item where
 aD:Nat
 dot:Nat
 Lj:Nat
 deriving DecidableEq
structure Q4 (g:ao) (p:List Int) (S:Nat→List Item):Prop where
 start:∀ (i:Nat) (R:aM),g.rules[i]?=some R→R.left=g.start→⟨i,0,0⟩∈S 0
 term:∀ a x R s,x∈S a→g.rules[x.aD]?=some R→R.right[x.dot]?=some s→0≤s→Pk p a s→⟨x.aD,x.dot+1,x.Lj⟩∈S (a+1)
 pred:∀ a x R s i R',x∈S a→g.rules[x.aD]?=some R→R.right[x.dot]?=some s→s < 0→g.rules[i]?=some R'→R'.left = -1 - s→a≤p.length→⟨i,0,a⟩∈S a
 null:∀ a x R s,x∈S a→g.rules[x.aD]?=some R→R.right[x.dot]?=some s→s < 0→(au g false).getD (-1 - s).toNat false=true→a≤p.length→⟨x.aD,x.dot+1,x.Lj⟩∈S a
 comp:∀ a y R' x R s,y∈S a→g.rules[y.aD]?=some R'→y.dot=R'.right.length→y.Lj < a→x∈S y.Lj→g.rules[x.aD]?=some R→R.right[x.dot]?=some s→s < 0→R'.left = -1 - s→a≤p.length→⟨x.aD,x.dot+1,x.Lj⟩∈S a
abbrev Tb:=List (List (List Bool))
theorem Pg:ta.Ok:=by
 refine ⟨by unfold aV; decide,by unfold aV; decide,by unfold aV; decide,by unfold cm; decide,?_,?_⟩
 ·intro t ht; simp[ta] at ht
 ·intro r hr; simp[ta] at hr
section
variable {g r:ao} {p q:List Bool} {o:List Int}
end
theorem bytes_beq (a b:ByteArray):(a == b)=decide (a=b):=by
 cases a with | mk a=>cases b with | mk b =>
 rw[Si]
 show (ByteArray.beq ⟨a⟩ ⟨b⟩=true)↔_
 simp only[ByteArray.beq]
 simp
theorem Ln (a b:ByteArray):ir a b=decide (a=b):=by
 cases a with | mk a=>cases b with | mk b =>
 rw[Si]
 simp[ir]
theorem wZ {α:Type} {a b:List α} {i:Nat} {x y:α} (hx:a[i]?=some x) (hy:b[i]?=some y) (h:a.take i=b.take i) (e:x=y):a.take (i+1)=b.take (i+1):=by
 rw[RG,RG,h,hx,hy,e]
theorem zh {α:Type} {a b:List α} {i:Nat} (ha:a.length≤i) (hb:b.length≤i) (h:a.take i=b.take i):a=b:=by
 rwa [Rz ha,Rz hb] at h
theorem De {α:Type} {a b:List α} {i:Nat} {x y:α} (hx:a[i]?=some x) (hy:b[i]?=some y) (e:x≠y):a≠b:=by
 rintro rfl; rw[hx] at hy; exact e (by simpa using hy)
theorem zg {α:Type} {a b:List α} (h:¬ a.length=b.length):a≠b:=fun e=>h (by rw[e])
theorem FZ (x y:Term):fu Tryz.prog 9998 #[.string x.name,.int .i64 x.level,.int .i64 x.assoc] #[.string y.name,.int .i64 y.level,.int .i64 y.assoc]
  [{ name:= "Name",type:=9,offset:=0,embedded:=false,tag:= "",pkgPath:= "",byteOffset:=0 },{ name:= "Level",type:=3,offset:=1,embedded:=false,tag:= "",pkgPath:= "",byteOffset:=16 },
   { name:= "Assoc",type:=3,offset:=2,embedded:=false,tag:= "",pkgPath:= "",byteOffset:=24 }] (x.name == y.name && (x.level == y.level && (x.assoc == y.assoc && true))) :=
 .str _ _ _ _ _ (by decide) Tryz.underlying9 rfl rfl (.int _ _ _ _ _ _ (by decide) Tryz.underlying3 rfl rfl (.int _ _ _ _ _ _ (by decide) Tryz.underlying3 rfl rfl .nil))
theorem OC (x y:Term):(x.name == y.name && (x.level == y.level && (x.assoc == y.assoc && true)))=decide (x=y):=by
 rw[bytes_beq,Si]
 cases x; cases y
 simp
theorem Oi (a b:Int):(a == b)=decide (a=b):=by rw[Si]; simp
theorem L0 (x y:aM):decide (x=y)=(decide (x.left=y.left) && (decide (x.prec=y.prec) && decide (x.right=y.right))):=by
 cases x; cases y
 rw[Si]
 simp[and_comm]
theorem Mt (x y:ao):decide (x=y)=(decide (x.av=y.av) && (decide (x.az=y.az) && (decide (x.rules=y.rules) && decide (x.start=y.start)))):=by
 cases x; cases y
 rw[Si]
 simp
theorem LS (g k:ao):∀ v∈[V.agg (aw g),V.agg (aw k)],Tree v:=by
 intro v hv; simp at hv
 rcases hv with rfl | rfl <;> exact dS _ (eX _)
def fC:SC :=
 .seq (an [bz 14 .lss 13 12]) <|
 .seq (.cond (.tmp 14) (.skip) (.exit 0)) <|
 .seq (.block 1 (.seq (an [aj 15 13,aj 5 15]) <|
 .seq (an [aj 16 0,aj 17 5,aY 18 3 16 17,bM 19 3 18,aj 20 1,aj 21 5,aY 22 3 20 21,bM 23 3 22,((some 24),.op (.old (.binOp .neq 129 (.tmp 19) (.tmp 23) 129) 4))]) <|
 .cond (.tmp 24) (.seq (an [bK 4 false]) <|
 .ret) (.skip))) <|
 an [aR 25 .add 13 1,aj 13 25]
def fV:SF:=⟨.seq (an [bK 4 false]) <|
 .seq (.seq (an [aj 6 0,bj 7 6,aj 8 1,bj 9 8,bz 10 .neq 7 9]) <|
 .cond (.tmp 10) (.seq (an [bK 4 false]) <|
 .ret) (.skip)) <|
 .seq (.seq (an [aj 11 0,bj 12 11,bA 13 0]) <|
 .block 0 (.loop fC)) <|
 .seq (an [bK 4 true]) <|
 .ret,
 [.tmp 4],26⟩
theorem ju:aU Tryz.prog 162 []=some fV:=by kernel_rfl
def gF:SC :=
 .seq (an [bz 14 .lss 13 12]) <|
 .seq (.cond (.tmp 14) (.skip) (.exit 0)) <|
 .seq (.block 1 (.seq (an [aj 15 13,aj 5 15]) <|
 .seq (an [aj 16 0,aj 17 5,aY 18 1 16 17,ay 19 18,aj 20 1,aj 21 5,aY 22 1 20 21,ay 23 22,((some 24),.op (.uU .neq (.tmp 19) (.tmp 23)))]) <|
 .cond (.tmp 24) (.seq (an [bK 4 false]) <|
 .ret) (.skip))) <|
 an [aR 25 .add 13 1,aj 13 25]
def hU:SF:=⟨.seq (an [bK 4 false]) <|
 .seq (.seq (an [aj 6 0,bj 7 6,aj 8 1,bj 9 8,bz 10 .neq 7 9]) <|
 .cond (.tmp 10) (.seq (an [bK 4 false]) <|
 .ret) (.skip)) <|
 .seq (.seq (an [aj 11 0,bj 12 11,bA 13 0]) <|
 .block 0 (.loop gF)) <|
 .seq (an [bK 4 true]) <|
 .ret,
 [.tmp 4],26⟩
theorem kD:aU Tryz.prog 163 []=some hU:=by kernel_rfl
def iX:SC :=
 .seq (an [bz 14 .lss 13 12]) <|
 .seq (.cond (.tmp 14) (.skip) (.exit 0)) <|
 .seq (.block 1 (.seq (an [aj 15 13,aj 5 15]) <|
 .seq (an [aj 16 0,aj 17 5,aY 18 1 16 17,ay 19 18,aj 20 1,aj 21 5,aY 22 1 20 21,ay 23 22,bz 24 .neq 19 23]) <|
 .cond (.tmp 24) (.seq (an [bK 4 false]) <|
 .ret) (.skip))) <|
 an [aR 25 .add 13 1,aj 13 25]
def jM:SF:=⟨.seq (an [bK 4 false]) <|
 .seq (.seq (an [aj 6 0,bj 7 6,aj 8 1,bj 9 8,bz 10 .neq 7 9]) <|
 .cond (.tmp 10) (.seq (an [bK 4 false]) <|
 .ret) (.skip)) <|
 .seq (.seq (an [aj 11 0,bj 12 11,bA 13 0]) <|
 .block 0 (.loop iX)) <|
 .seq (an [bK 4 true]) <|
 .ret,
 [.tmp 4],26⟩
theorem nG:aU Tryz.prog 198 []=some jM:=by kernel_rfl
def xL:SF:=⟨.seq (an [dN 2 0,dN 3 1,bK 4 false]) <|
 .seq (.region false [⟨none,[aC 5 0 2,ay 6 5,aC 7 0 3,ay 8 7,bz 9 .eql 6 8,aj 10 9]⟩,⟨(some (10,true)),[aC 11 2 2,ay 12 11,aC 13 2 3,ay 14 13,bz 15 .eql 12 14]⟩,⟨none,[gA 16 10 15,aj 17 16]⟩,⟨(some (17,true)),[aC 18 1 2,ay 19 18,aC 20 1 3,ay 21 20,bJ 22 198 [19,21]]⟩,⟨none,[gA 23 17 22,aj 4 23]⟩]) <|
 .ret,
 [.tmp 4],24⟩
theorem AJ:aU Tryz.prog 165 [2,3]=some xL:=by kernel_rfl
def cW:SC :=
 .seq (an [bz 18 .lss 17 16]) <|
 .seq (.cond (.tmp 18) (.skip) (.exit 0)) <|
 .seq (.block 1 (.seq (an [aj 19 17,aY 20 3 15 17,bM 21 3 20,((some 8),.op (.alloc [(.val (.int .i64 0)),(.emp 1),(.val (.int .i64 0))])),aj 7 19,(none,.op (.store 3 (.tmp 8) (.tmp 21)))]) <|
 .seq (an [aj 22 1,aj 23 7,aY 24 3 22 23,bM 25 3 24,((some 9),.op (.alloc [(.val (.int .i64 0)),(.emp 1),(.val (.int .i64 0))])),(none,.op (.store 3 (.tmp 9) (.tmp 25)))]) <|
 .seq (an [aj 26 2,bM 27 3 8,bM 28 3 9,((some 29),.call (.tmp 26) [(.tmp 27),(.tmp 28)]),dm 30 29]) <|
 .cond (.tmp 30) (.seq (an [bK 6 false]) <|
 .ret) (.skip))) <|
 an [aR 31 .add 17 1,aj 17 31]
def c6:SF:=⟨.seq (an [bK 6 false]) <|
 .seq (.seq (an [aj 10 0,bj 11 10,aj 12 1,bj 13 12,bz 14 .neq 11 13]) <|
 .cond (.tmp 14) (.seq (an [bK 6 false]) <|
 .ret) (.skip)) <|
 .seq (.seq (an [aj 15 0,bj 16 15,bA 17 0]) <|
 .block 0 (.loop cW)) <|
 .seq (an [bK 6 true]) <|
 .ret,
 [.tmp 6],32⟩
theorem eK:aU Tryz.prog 164 []=some c6:=by kernel_rfl
def Al:SF:=⟨.seq (an [dN 2 0,dN 3 1,bK 4 false]) <|
 .seq (.region false [⟨none,[aC 5 0 2,ay 6 5,aC 7 0 3,ay 8 7,bJ 9 162 [6,8],aj 10 9]⟩,⟨(some (10,true)),[aC 11 1 2,ay 12 11,aC 13 1 3,ay 14 13,bJ 15 163 [12,14]]⟩,⟨none,[gA 16 10 15,aj 17 16]⟩,⟨(some (17,true)),[aC 18 2 2,ay 19 18,aC 20 2 3,ay 21 20,p7 22 164 [(.tmp 19),(.tmp 21),(.val (.fn 165 [] []))]]⟩,⟨none,[gA 23 17 22,aj 24 23]⟩,⟨(some (24,true)),[aC 25 3 2,ay 26 25,aC 27 3 3,ay 28 27,bz 29 .eql 26 28]⟩,⟨none,[gA 30 24 29,aj 4 30]⟩]) <|
 .ret,
 [.tmp 4],31⟩
theorem CU:aU Tryz.prog 110 [2,3]=some Al:=by kernel_rfl
theorem LR {α:Type} {f g:α→List V} {a b:List α} (hf:∀ x,∀ v∈f x,Tree v) (hg:∀ x,∀ v∈g x,Tree v):∀ v∈[V.aH (a.map f),V.aH (b.map g)],Tree v:=by
 intro v hv; simp at hv
 rcases hv with rfl | rfl
 ·exact eT _ _ fun x _=>hf x
 ·exact eT _ _ fun x _=>hg x
theorem LH (a b:List Term) (ha:aV a) (H:View):aB Tryz.prog 162 [.aH (a.map ca),.aH (b.map ca)] H fun r _=>r=gb (decide (a=b)):=by
 refine aB.of mixed ju ?_
 unfold aV at ha
 simp (disch:=omega) only [↓wr,seval,wq,ah,ag,ak,aa,ab,af,ai,ae,fV]
 refine aq.ne (fun h=>?_) (fun h=>?_)
 ·simp (disch:=omega) only [↓wr,seval,wq,ah,ag,ak,aa,ab,af,ai,ae]
  rw[decide_eq_false (zg (by omega))]
 ·simp (disch:=omega) only [↓wr,seval,wq,ah,ag,ak,aa,ab,af,ai,ae]
  refine bg.up a.length (fun i T _=>a.take i=b.take i∧T 0=.aH (a.map ca)∧T 1=.aH (b.map ca)∧T 12=gi a.length∧T 13=gi i) ⟨by simp,rfl,rfl,rfl,rfl⟩ ?_
  rintro i k T H hk ⟨hi,h0,h1,h7,h8⟩
  simp (disch:=omega) only [↓wr,seval,wq,ah,ag,ak,aa,ab,af,ai,ae,fC,h0,h1,h7,h8]
  refine aq.dec (fun hc=>?_) (fun hc=>?_)
  ·have h2:a[i]?=some (a[i]'(by omega)):=Q7 (by omega)
   have h3:b[i]?=some (b[i]'(by omega)):=Q7 (by omega)
   generalize a[i]'(by omega)=x at h2
   generalize b[i]'(by omega)=y at h3
   simp (disch:=omega) only [↓wr,seval,wq,ah,ag,ak,aa,ab,af,ai,ae,h0,h1,h7,h8,Rc,h2,h3,ca]
   refine r6 (xs:=#[.string x.name,.int .i64 x.level,.int .i64 x.assoc]) (ys:=#[.string y.name,.int .i64 y.level,.int .i64 y.assoc]) Tryz.underlying129 (by kernel_rfl) (by kernel_rfl) ?_ ?_ (FZ x y) (.inr ⟨rfl,rfl⟩) ?_
   ·rfl
   ·rfl
   rw[OC]
   simp (disch:=omega) only [↓wr,seval,wq,ah,ag,ak,aa,ab,af,ai,ae,h0,h1,h7,h8]
   refine aq.split (fun e=>?_) (fun e=>?_)
   ·simp (disch:=omega) only [↓wr,seval,wq,ah,ag,ak,aa,ab,af,ai,ae,h0,h1,h7,h8]
    exact aQ hk (by omega) ⟨wZ h2 h3 hi (by simpa using e),h0,h1,h7,rfl⟩
   ·simp (disch:=omega) only [↓wr,seval,wq,ah,ag,ak,aa,ab,af,ai,ae,h0,h1,h7,h8]
    rw[decide_eq_false (De h2 h3 (by simpa using e))]
  ·simp (disch:=omega) only [↓wr,seval,wq,ah,ag,ak,aa,ab,af,ai,ae,h0,h1,h7,h8]
   rw[decide_eq_true (zh (by omega) (by omega) hi)]
theorem Kf (a b:List ByteArray) (ha:aV a) (H:View):aB Tryz.prog 163 [encS a,encS b] H fun r _=>r=gb (decide (a=b)):=by
 refine aB.of mixed kD ?_
 unfold aV at ha
 simp (disch:=omega) only [↓wr,seval,wq,ah,ag,ak,aa,ab,af,ai,ae,hU,encS]
 refine aq.ne (fun h=>?_) (fun h=>?_)
 ·simp (disch:=omega) only [↓wr,seval,wq,ah,ag,ak,aa,ab,af,ai,ae]
  rw[decide_eq_false (zg (by omega))]
 ·simp (disch:=omega) only [↓wr,seval,wq,ah,ag,ak,aa,ab,af,ai,ae]
  refine bg.up a.length (fun i T _=>a.take i=b.take i∧T 0=encS a∧T 1=encS b∧T 12=gi a.length∧T 13=gi i) ⟨by simp,rfl,rfl,rfl,rfl⟩ ?_
  rintro i k T H hk ⟨hi,h0,h1,h7,h8⟩
  simp (disch:=omega) only [↓wr,seval,wq,ah,ag,ak,aa,ab,af,ai,ae,gF,h0,h1,h7,h8,encS]
  refine aq.dec (fun hc=>?_) (fun hc=>?_)
  ·have h2:a[i]?=some (a[i]'(by omega)):=Q7 (by omega)
   have h3:b[i]?=some (b[i]'(by omega)):=Q7 (by omega)
   generalize a[i]'(by omega)=x at h2
   generalize b[i]'(by omega)=y at h3
   simp (disch:=omega) only [↓wr,seval,wq,ah,ag,ak,aa,ab,af,ai,ae,h0,h1,h7,h8,encS,Rc,h2,h3,Ln]
   refine aq.split (fun e=>?_) (fun e=>?_)
   ·simp (disch:=omega) only [↓wr,seval,wq,ah,ag,ak,aa,ab,af,ai,ae,h0,h1,h7,h8]
    exact aQ hk (by omega) ⟨wZ h2 h3 hi (by simpa using e),h0,h1,h7,rfl⟩
   ·simp (disch:=omega) only [↓wr,seval,wq,ah,ag,ak,aa,ab,af,ai,ae,h0,h1,h7,h8]
    rw[decide_eq_false (De h2 h3 (by simpa using e))]
  ·simp (disch:=omega) only [↓wr,seval,wq,ah,ag,ak,aa,ab,af,ai,ae,h0,h1,h7,h8]
   rw[decide_eq_true (zh (by omega) (by omega) hi)]
theorem JB (a b:List Int) (ha:aV a) (H:View):aB Tryz.prog 198 [encI a,encI b] H fun r _=>r=gb (decide (a=b)):=by
 refine aB.of mixed nG ?_
 unfold aV at ha
 simp (disch:=omega) only [↓wr,seval,wq,ah,ag,ak,aa,ab,af,ai,ae,jM,encI]
 refine aq.ne (fun h=>?_) (fun h=>?_)
 ·simp (disch:=omega) only [↓wr,seval,wq,ah,ag,ak,aa,ab,af,ai,ae]
  rw[decide_eq_false (zg (by omega))]
 ·simp (disch:=omega) only [↓wr,seval,wq,ah,ag,ak,aa,ab,af,ai,ae]
  refine bg.up a.length (fun i T _=>a.take i=b.take i∧T 0=encI a∧T 1=encI b∧T 12=gi a.length∧T 13=gi i) ⟨by simp,rfl,rfl,rfl,rfl⟩ ?_
  rintro i k T H hk ⟨hi,h0,h1,h7,h8⟩
  simp (disch:=omega) only [↓wr,seval,wq,ah,ag,ak,aa,ab,af,ai,ae,iX,h0,h1,h7,h8,encI]
  refine aq.dec (fun hc=>?_) (fun hc=>?_)
  ·have h2:a[i]?=some (a[i]'(by omega)):=Q7 (by omega)
   have h3:b[i]?=some (b[i]'(by omega)):=Q7 (by omega)
   generalize a[i]'(by omega)=x at h2
   generalize b[i]'(by omega)=y at h3
   simp (disch:=omega) only [↓wr,seval,wq,ah,ag,ak,aa,ab,af,ai,ae,h0,h1,h7,h8,encI,Rc,h2,h3]
   refine aq.ne (fun e=>?_) (fun e=>?_)
   ·simp (disch:=omega) only [↓wr,seval,wq,ah,ag,ak,aa,ab,af,ai,ae,h0,h1,h7,h8]
    rw[decide_eq_false (De h2 h3 e)]
   ·simp (disch:=omega) only [↓wr,seval,wq,ah,ag,ak,aa,ab,af,ai,ae,h0,h1,h7,h8]
    exact aQ hk (by omega) ⟨wZ h2 h3 hi e,h0,h1,h7,rfl⟩
  ·simp (disch:=omega) only [↓wr,seval,wq,ah,ag,ak,aa,ab,af,ai,ae,h0,h1,h7,h8]
   rw[decide_eq_true (zh (by omega) (by omega) hi)]
theorem Jk (a b:List Term) (ha:aV a):aG Tryz.prog 162 [.aH (a.map ca),.aH (b.map ca)] (gb (decide (a=b))):=aG.val (LR qP qP) (LH a b ha)
theorem J7 (a b:List ByteArray) (ha:aV a):aG Tryz.prog 163 [encS a,encS b] (gb (decide (a=b))):=aG.val (by
 intro v hv; simp at hv
 rcases hv with rfl | rfl <;> exact uT _) (Kf a b ha)
theorem K1 (a b:List Int) (ha:aV a):aG Tryz.prog 198 [encI a,encI b] (gb (decide (a=b))):=aG.val (by
 intro v hv; simp at hv
 rcases hv with rfl | rfl <;> exact gD _) (JB a b ha)
theorem MS (x y:aM) (hx:aV x.right):aG Tryz.prog 165 [.agg (aO x),.agg (aO y)] (gb (decide (x=y))):=by
 refine aG.val (by
  intro v hv; simp at hv
  rcases hv with rfl | rfl <;> exact dS _ (fO _)) fun H=>?_
 rw[L0]
 refine aB.of mixed AJ ?_
 simp (disch:=omega) only [↓wr,seval,wq,ah,ag,ak,aa,ab,af,ai,ae,xL,aO,encI]
 repeat' (first | (refine aq.dec (fun _=>?_) (fun _=>?_)) | (refine aq.eq (fun _=>?_) (fun _=>?_)) | (refine aq.ne (fun _=>?_) (fun _=>?_)) | (refine aq.split (fun _=>?_) (fun _=>?_)) | (refine aF.pure (K1 x.right y.right hx) (by kernel_rfl) ?_) | (simp (disch:=omega) only [↓wr,seval,wq,ah,ag,ak,aa,ab,af,ai,ae,aO]))
 all_goals simp[*]
theorem Fm (a b:List aM) (ha:aV a) (hr:∀ r∈a,aV r.right) (H:View):aB Tryz.prog 164 [.aH (a.map aO),.aH (b.map aO),.fn 165 [] []] H fun r _=>r=gb (decide (a=b)):=by
 refine aB.of mixed eK ?_
 unfold aV at ha
 simp (disch:=omega) only [↓wr,seval,wq,ah,ag,ak,aa,ab,af,ai,ae,c6]
 refine aq.ne (fun h=>?_) (fun h=>?_)
 ·simp (disch:=omega) only [↓wr,seval,wq,ah,ag,ak,aa,ab,af,ai,ae]
  rw[decide_eq_false (zg (by omega))]
 ·simp (disch:=omega) only [↓wr,seval,wq,ah,ag,ak,aa,ab,af,ai,ae]
  refine bg.up a.length (fun i T _=>a.take i=b.take i∧T 15=.aH (a.map aO)∧T 1=.aH (b.map aO)∧T 2=.fn 165 [] []∧T 16=gi a.length∧T 17=gi i) ⟨by simp,rfl,rfl,rfl,rfl,rfl⟩ ?_
  rintro i k T H hk ⟨hi,h0,h1,h6,h7,h8⟩
  simp (disch:=omega) only [↓wr,seval,wq,ah,ag,ak,aa,ab,af,ai,ae,cW,h0,h1,h6,h7,h8]
  refine aq.dec (fun hc=>?_) (fun hc=>?_)
  ·have h2:a[i]?=some (a[i]'(by omega)):=Q7 (by omega)
   have h3:b[i]?=some (b[i]'(by omega)):=Q7 (by omega)
   have hm:a[i]'(by omega)∈a:=Rj _
   generalize a[i]'(by omega)=x at h2 hm
   generalize b[i]'(by omega)=y at h3
   have hsx:=hr x hm
   simp (disch:=omega) only [↓wr,seval,wq,ah,ag,ak,aa,ab,af,ai,ae,h0,h1,h6,h7,h8,Rc,h2,h3,aO,encI]
   intro n hn
   try simp (disch:=omega) only [↓wr,seval,wq,ah,ag,ak,aa,ab,af,ai,ae,h0,h1,h6,h7,h8,Rc,h2,h3,aO,encI]
   intro m hmd
   have hmn:=(fZ hmd gV).1
   try simp (disch:=omega) only [↓wr,seval,wq,ah,ag,ak,aa,ab,af,ai,ae,h0,h1,h6,h7,h8,Rc,h2,h3,aO,encI,hmn,hmn.symm]
   refine aF.pure (MS x y hsx) (by kernel_rfl) ?_
   simp (disch:=omega) only [↓wr,seval,wq,ah,ag,ak,aa,ab,af,ai,ae,h0,h1,h6,h7,h8]
   refine aq.split (fun e=>?_) (fun e=>?_)
   ·simp (disch:=omega) only [↓wr,seval,wq,ah,ag,ak,aa,ab,af,ai,ae,h0,h1,h6,h7,h8]
    exact aQ hk (by omega) ⟨wZ h2 h3 hi (by simpa using e),h0,h1,h6,h7,rfl⟩
   ·simp (disch:=omega) only [↓wr,seval,wq,ah,ag,ak,aa,ab,af,ai,ae,h0,h1,h6,h7,h8]
    rw[decide_eq_false (De h2 h3 (by simpa using e))]
  ·simp (disch:=omega) only [↓wr,seval,wq,ah,ag,ak,aa,ab,af,ai,ae,h0,h1,h6,h7,h8]
   rw[decide_eq_true (zh (by omega) (by omega) hi)]
theorem EV (a b:List aM) (ha:aV a) (hr:∀ r∈a,aV r.right):aG Tryz.prog 164 [.aH (a.map aO),.aH (b.map aO),.fn 165 [] []] (gb (decide (a=b))):=aG.val (by
 intro v hv; simp at hv
 rcases hv with rfl | rfl | rfl
 ·exact eT _ _ fun x _=>fO x
 ·exact eT _ _ fun x _=>fO x
 ·exact Bp (by simp) (by simp)) (Fm a b ha hr)
theorem Mm (g k:ao) (hg:g.Ok):aG Tryz.prog 110 [.agg (aw g),.agg (aw k)] (gb (decide (g=k))):=by
 refine aG.val (LS g k) fun H=>?_
 rw[Mt]
 refine aB.of mixed CU ?_
 simp (disch:=omega) only [↓wr,seval,wq,ah,ag,ak,aa,ab,af,ai,ae,Al,aw,encS]
 repeat' (first | (refine aq.dec (fun _=>?_) (fun _=>?_)) | (refine aq.eq (fun _=>?_) (fun _=>?_)) | (refine aq.ne (fun _=>?_) (fun _=>?_)) | (refine aq.split (fun _=>?_) (fun _=>?_)) | (refine aF.pure (Jk g.av k.av hg.av) (by kernel_rfl) ?_) | (refine aF.pure (J7 g.az k.az hg.az) (by kernel_rfl) ?_) | (refine aF.pure (EV g.rules k.rules hg.rules (fun r hr=>(hg.aD r hr).2.2.1)) (by kernel_rfl) ?_) | (simp (disch:=omega) only [↓wr,seval,wq,ah,ag,ak,aa,ab,af,ai,ae,aw,encS]))
 all_goals simp_all [Oi]
def Cf:SF:=⟨.seq (an [dN 1 0,bK 2 false]) <|
 .seq (an [bM 7 4 1,bJ 8 109 [7],aj 6 8,kH 9 0 6,kH 10 1 6,kH 11 2 6,((some 3),.op (.alloc [(.emp 1),(.emp 1),(.emp 1),(.val (.int .i64 0))])),(none,.op (.store 4 (.tmp 3) (.tmp 9))),aj 4 10,aj 5 11]) <|
 .seq (.region false [⟨none,[aj 12 5,aR 13 .eql 12 0,aj 14 13]⟩,⟨(some (14,true)),[bM 15 4 1,bM 16 4 3,bJ 17 110 [15,16]]⟩,⟨none,[gA 18 14 17,aj 2 18]⟩]) <|
 .ret,
 [.tmp 2],19⟩
theorem DR:aU Tryz.prog 61 [1]=some Cf:=by kernel_rfl
theorem KP (g:ao) (hg:g.Ok) (hs:g.Small):aG Tryz.prog 61 [.agg (aw g)] (gb (isRed g)):=by
 refine aG.val (eU g) fun H=>?_
 refine aB.of mixed DR ?_
 simp (disch:=omega) only [↓wr,seval,wq,ah,ag,ak,aa,ab,af,ai,ae,Cf,aw,encS]
 refine aF.pure (I3 g hg hs).pure (by kernel_rfl) ?_
 unfold isRed
 generalize gL g=x
 obtain ⟨k,il,e⟩:=x
 simp (disch:=omega) only [↓wr,seval,wq,ah,ag,ak,aa,ab,af,ai,ae,Bh,aw,encS]
 intro n hn
 refine aq.eq (fun h=>?_) (fun h=>?_)
 ·simp (disch:=omega) only [↓wr,seval,wq,ah,ag,ak,aa,ab,af,ai,ae,Bh,aw,encS]
  refine aF.pure (Mm g k hg) (by kernel_rfl) ?_
  simp (disch:=omega) only [↓wr,seval,wq,ah,ag,ak,aa,ab,af,ai,ae]
  simp[h]
 ·simp (disch:=omega) only [↓wr,seval,wq,ah,ag,ak,aa,ab,af,ai,ae]
  simp[h]
def PR:ao:=⟨[⟨⟨#[39,97,39]⟩,0,0⟩,⟨⟨#[39,98,39]⟩,0,0⟩,⟨⟨#[39,99,39]⟩,0,0⟩,⟨⟨#[39,100,39]⟩,0,0⟩],[⟨#[115]⟩,⟨#[117]⟩,⟨#[118]⟩],[⟨0,[0,(-2)],0⟩,⟨0,[1],1⟩,⟨0,[],(-1)⟩,⟨1,[(-2),2],2⟩,⟨2,[3,(-1)],3⟩],0⟩
def Ps:ao:=⟨PR.av,[⟨#[115]⟩],[⟨0,[1],1⟩,⟨0,[],(-1)⟩],0⟩
theorem ni:isRed Ps=true:=by kernel_rfl
theorem eh.fr {h:aE} {v t:V} (f:eh h v t):Fr h v t:=by
 induction f with
 | val v=>exact .tree _ (.val _)
 | emp k=>exact .emp k
 | sl id off len esz z es es' h1 h2 h3 h4 _ ih=>exact .sl id off len esz z es es' h1 h2 h3 h4 ih
 | agg cs cs' h1 _ ih=>exact .agg cs cs' h1 ih
 | bt cs cs' h1 _ ih=>exact .bt cs cs' h1 ih
end Gv
