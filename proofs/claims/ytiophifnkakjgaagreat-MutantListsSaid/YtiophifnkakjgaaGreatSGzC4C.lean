/-
  Part 3 of the proof: what the machine does and what the functions answer.
  Conditions: those that each lemma names.
-/
import Derived.Orders
import Derived.LoopN
import Derived.Scope
import Derived.Test.YtiophifnkakjgaaGreatSGzC4B
set_option linter.unusedSimpArgs false
set_option linter.unusedVariables false
set_option maxRecDepth 100000
set_option maxHeartbeats 20000000
namespace Gv
open Go
def bq.wr:bq->List Nat
 | .none | .new _=>[]
 | .fP id _ | .eW id _=>[id]
def kE (μ:Mu) (b:Nat):Prop:=∃id o s,μ id=some (b,o,s)
structure Ext (Z:Nat->Prop) (μ:Mu) (w:World) (m:Nat) (Z':Nat->Prop) (μ':Mu) (w':World):Prop where
 same:fa w w'
 mono:iQ Z Z' μ μ' w.heap w'.heap
 frame:hU w.heap w'.heap (kE μ)
 V5:∀b,Z' b->Z b∨w.heap.size<=b
 Gf:∀id b o s,μ' id=some (b,o,s)->μ id=some (b,o,s)∨(m<=id/\(w.heap.size<=b∨kE μ b))
theorem Ext.refl (Z:Nat->Prop) (μ:Mu) (w:World) (m:Nat):Ext Z μ w m Z μ w:=
 ⟨fa.refl _,iQ.refl _ _ _,λ_ _ _=>rfl,λ_ h=>.inl h,λ_ _ _ _ h=>.inl h⟩
theorem Ext.trans {Z l c:Nat->Prop} {μ μ' a:Mu} {w w' d:World} {m n:Nat} (h:Ext Z μ w m l μ' w') (k:Ext l μ' w' n c a d) (hm:m<=n) (q:∀id b o s,μ id=some (b,o,s)->b<w.heap.size):Ext Z μ w m c a d:=by
 have e:∀b,kE μ' b->w.heap.size<=b∨kE μ b:=by
  rintro b ⟨id,o,s,i⟩
  rcases h.Gf _ _ _ _ i with h1 | ⟨_,h1 | h1⟩
  .exact .inr ⟨_,_,_,h1⟩
  .exact .inl h1
  .exact .inr h1
 refine⟨h.same.trans k.same,h.mono.trans k.mono,λb g p=>?_,λb g=>?_,λid b o s i=>?_⟩
 .rw[k.frame b (abK g h.same.size) (λj=>?_),h.frame b g p]
  rcases e b j with h1 | h1
  .omega
  .exact p h1
 .rcases k.V5 b g with h1 | h1
  .exact h.V5 b h1
  .exact .inr (abZ h.same.size h1)
 .rcases k.Gf _ _ _ _ i with h1 | ⟨h1,f⟩
  .exact h.Gf _ _ _ _ h1
  .refine .inr ⟨by omega,?_⟩
   rcases f with f | f
   .exact .inl (abZ h.same.size f)
   .exact e b f
def cat (h:Heap) (F:View):View:=λid=>if id<h.length then h.view id else F id
def b6 (P:Program) (f:FuncId) (vs:List V) (h:Heap) (r:V) (h':Heap):Prop:=
 h.length<=h'.length/\∀Z μ (F:View) (w:World) (xs:List Value),gI Z μ w.heap vs xs->eQ Z μ w.heap (cat h F)->(∀id,h.length<=id->id<h'.length->μ id=none) ->
  Calls P f xs.toArray w λe w'=>∃x Z' μ',e=.returned x/\aD Z' μ' w'.heap r x/\eQ Z' μ' w'.heap (cat h' F)/\Ext Z μ w h.length Z' μ' w'/\(∀id,id<h.length∨h'.length<=id->μ' id=μ id)
def eh (P:Program) (f:FuncId):Bool:=match P.funcs[f]? with
 | some fn=>fn.name != "runtime.NumGoroutine" && fn.body.isSome
 | none=>false
def uP (n:Nat) (o:Oper):Bool:=match o.dst with
 | some d=>d<n
 | none=>true
def dW (n:Nat) (all:List Oper) (T:Env) (o:Oper):Option Bool:=match o.guard with
 | none=>some true
 | some (j,want)=>match (all[j]?).bind (·.dst) with
  | some d=>if d<n then (match T d with
   | .val (.bool b)=>some (b==want)
   | .bc []=>some false
   | _=>none) else none
  | none=>none
inductive eF (P:Program) (n:Nat) (all:List Oper):Oper->Env->Heap->V->Heap->List Nat->List Nat->Bool->Prop
 | skip {o:Oper} {T:Env} {h:Heap} : dW n all T o=some false->eF P n all o T h (.bc []) h [] [] false
 | op {o:Oper} {T:Env} {h:Heap} {v:V} {eff:bq} {rd:List Nat} : dW n all T o=some true->cL P o T h.view h.length=some (v,eff,rd)->eF P n all o T h v (eff.apply h) rd eff.wr false
 | kN {o:Oper} {T:Env} {h:Heap} {e:TypeId} {x:Operand} : dW n all T o=some true->o.op=.box e x->(ev T x).cells.all aK=true->eF P n all o T h (.aR (ev T x).cells 0) h [] [] false
 | ia {o:Oper} {T:Env} {h:Heap} {s d e:TypeId} {x:Operand} {st:ByteArray} : dW n all T o=some true->o.op=.convert s d x->P.underlying s=some .string->P.underlying d=some (.slice e)->P.underlying e=some (.int .u8)->ev T x=.val (.string st)->eF P n all o T h (.aY (iF st)) h [] [] false
 | call {o:Oper} {T:Env} {h h':Heap} {r:V} {f:Operand} {args:Array Operand} {ats:Array TypeId} {g:FuncId} {first cap:List V} {wr:List Nat} : dW n all T o=some true ->
  o.op=.call { callee:=.value f,args:=args,argTypes:=ats }->ev T f=.fn g first cap->eh P g=true->b6 P g (first++args.toList.map (ev T)++cap) h r h' ->
  (∀id,id<h.length->¬ id∈wr->h'.view id=h.view id)->(∀id,id∈wr->id<h.length)->eF P n all o T h r h' [] wr true
theorem fj {h:Heap} {id:Nat} (a:h.view id≠.dead):id<h.length:=by
 rcases abH id h.length with h1 | h1
 .exact h1
 .exfalso;apply a;simp[Heap.view,abL h1]
theorem gH {h:Heap} {id:Nat} {o:ct} (a:id<h.length):Heap.view (h.set id o)=View.set h.view id o:=by
 funext k
 simp only[Heap.view,View.set,aa7,ab1]
 by_cases e:id=k
 .subst e;simp[a]
 .rw[aa9 e,aa9 (λq=>e q.symm)]
theorem kU (h:Heap) (o:ct):Heap.view (h++[o])=View.set h.view h.length o:=by
 funext k
 simp only[Heap.view,View.set,aa7]
 by_cases e:k=h.length
 .subst e;simp
 .rw[aa9 e]
  rcases abH k h.length with h1 | h1
  .rw[abF h1]
  .rw[acf h1,abL (by simp;omega),abL h1]
theorem k9 {h:Heap} {eff:bq} (a:∀id,id∈eff.wr->h.view id≠.dead):Heap.view (eff.apply h)=eff.view h.view h.length:=by
 cases eff with
 | none=>rfl
 | new o=>exact kU h o
 | fP id o=>exact gH (fj (a id (by simp[bq.wr])))
 | eW id o =>
  have:=fj (a id (by simp[bq.wr]))
  simp only[bq.apply,bq.view]
  rw[kU,gH this]
  simp
theorem iE (h:Heap) (eff:bq):(eff.apply h).length=h.length+(match eff with | .new _ | .eW _ _=>1 | _=>0):=by
 cases eff<;>simp[bq.apply]
theorem o8 {P:Program} {o:Oper} {T:Env} {H:View} {n:Nat} {v:V} {eff:bq} {rd:List Nat} (h:cL P o T H n=some (v,eff,rd)):∀id,id∈eff.wr->H id≠.dead/\id∈rd:=by
 have b:∀ {v':V} {e:bq} {r:List Nat},e.wr=[]->some (v',e,r)=some (v,eff,rd)->∀id,id∈eff.wr->H id≠.dead/\id∈rd:=by
  intro v' e r he heq id c
  obtain⟨_,rfl,_⟩:=heq
  rw[he] at c;simp at c
 have pu:eE P o T=some (v,eff,rd)->∀id,id∈eff.wr->H id≠.dead/\id∈rd:=by
  intro h
  unfold eE at h
  split at h
  .split at h
   .split at h
    .exact b rfl h
    .simp at h
   .simp at h
  .simp at h
 have up:∀ {id:Nat} {d:ct} {v':V} {r:List Nat},H id≠.dead->id∈r->some (v',bq.fP id d,r)=some (v,eff,rd)->∀i,i∈eff.wr->H i≠.dead/\i∈rd:=by
  intro id d v' r h1 g heq i hi
  obtain⟨_,rfl,rfl⟩:=heq
  simp[bq.wr] at hi;subst hi;exact⟨h1,g⟩
 have k:∀ {id:Nat} {d:ct} {v':V} {r:List Nat},H id≠.dead->id∈r->some (v',bq.eW id d,r)=some (v,eff,rd)->∀i,i∈eff.wr->H i≠.dead/\i∈rd:=by
  intro id d v' r h1 g heq i hi
  obtain⟨_,rfl,rfl⟩:=heq
  simp[bq.wr] at hi;subst hi;exact⟨h1,g⟩
 have j:∀ {cs:List V},nL cs n=some (v,eff,rd)->∀id,id∈eff.wr->H id≠.dead/\id∈rd:=by
  intro cs h
  unfold nL at h
  split at h
  .exact b rfl h
  .simp at h
 have mp:∀ {α:Type} {x:Option α} {f:α->V} {r:List Nat},(x.map λa=>(f a,bq.none,r))=some (v,eff,rd)->∀id,id∈eff.wr->H id≠.dead/\id∈rd:=by
  intro α x f r h
  simp only[abj] at h
  obtain⟨a,_,h⟩:=h
  exact b rfl (ach some h)
 unfold cL at h
 split at h
 .exact b rfl h
 .exact b rfl h
 .split at h
  .exact b rfl h
  .simp at h
 .split at h
  .exact j h
  .simp at h
 .exact j h
 .unfold yL at h
  split at h
  .split at h
   .exact mp h
   .simp at h
  .simp at h
 .unfold jg at h
  repeat' (split at h)
  all_goals first | exact b rfl h | (simp at h;done)
 .unfold oM at h
  repeat' (split at h)
  all_goals first | exact mp h | (simp at h;done)
 .unfold tn at h
  split at h
  .split at h
   .rename_i hH
    split at h
    .exact up (by rw[hH];simp) (by simp) h
    .simp at h
   .simp at h
  .simp at h
 .repeat' (split at h)
  all_goals first | exact b rfl h | (simp at h;done)
 .unfold nr at h
  repeat' (split at h)
  all_goals first | exact b rfl h | (simp at h;done)
 .unfold yU at h
  split at h
  .exact mp h
  .simp at h
 .unfold nk at h
  repeat' (split at h)
  all_goals first | exact b rfl h | (simp at h;done)
 .split at h
  .exact pu h
  .unfold vK at h
   repeat' (split at h)
   all_goals first | exact b rfl h | (simp at h;done)
 .unfold nz at h
  repeat' (split at h)
  all_goals first | exact b rfl h | (simp at h;done)
 .repeat' (split at h)
  all_goals first | exact b rfl h | (simp at h;done)
 .exact b rfl h
 .unfold fV at h
  repeat' (split at h)
  all_goals first | exact b rfl h | (simp at h;done)
 .unfold iq at h
  split at h
  .split at h
   .rename_i hH
    repeat' (split at h)
    all_goals first | exact up (by rw[hH];simp) (by simp) h | (simp at h;done)
   .simp at h
  .simp at h
 .unfold iq at h
  split at h
  .split at h
   .rename_i hH
    repeat' (split at h)
    all_goals first | exact up (by rw[hH];simp) (by simp) h | (simp at h;done)
   .simp at h
  .simp at h
 .unfold fk at h
  split at h
  .split at h
   .rename_i hH
    repeat' (split at h)
    all_goals first | exact up (by rw[hH];simp) (by simp) h | (simp at h;done)
   .simp at h
  .simp at h
 .unfold lN at h
  split at h
  .split at h
   .rename_i hH
    repeat' (split at h)
    all_goals first | exact up (by rw[hH];simp) (by simp) h | (simp at h;done)
   .simp at h
  .simp at h
 .repeat' (split at h)
  all_goals first | exact b rfl h | (simp at h;done)
 .repeat' (split at h)
  all_goals first | exact b rfl h | (simp at h;done)
 .unfold GD at h
  split at h
  .split at h
   .rename_i hH
    split at h
    .exact up (by rw[hH];simp) (by simp) h
    .exact b rfl h
   .simp at h
  .simp at h
 .split at h
  .unfold oZ at h
   split at h
   .repeat' (split at h)
    all_goals first | exact mp h | exact b rfl h | (simp at h;done)
   .repeat' (split at h)
    all_goals first | exact mp h | exact b rfl h | (simp at h;done)
   .split at h
    .split at h
     .split at h
      .rename_i hH
       exact up (by rw[hH];simp) (by simp) h
      .simp at h
     .simp at h
    .simp at h
   .simp at h
  .exact pu h
 .split at h
  .split at h
   .unfold x7 at h
    repeat' (split at h)
    all_goals first | exact mp h | exact b rfl h | (simp at h;done)
   .simp at h
  .split at h
   .unfold pJ at h
    split at h
    .split at h
     .simp at h
     .split at h
      .split at h
       all_goals first | exact b rfl h | (simp at h;done)
      .split at h
       .simp at h
       .split at h
        .split at h
         .exact b rfl h
         .simp at h
        .split at h
         .rename_i hH
          split at h
          .exact k (by rw[hH];simp) (by simp) h
          .simp at h
         .simp at h
        .simp at h
    .simp at h
   .split at h
    .unfold uK at h
     split at h
     .split at h
      .split at h
       .exact b rfl h
       .split at h
        .exact b rfl h
        .simp at h
      .simp at h
     .simp at h
    .simp at h
  .split at h
   .unfold HL at h
    split at h
    .exact b rfl h
    .simp at h
   .simp at h
  .split at h
   .unfold zP at h
    split at h
    .split at h
     .simp at h
     .split at h
      .exact b rfl h
      .split at h
       .split at h
        .rename_i hH
         split at h
         .exact up (by rw[hH];simp) (by simp) h
         .simp at h
        .simp at h
       .simp at h
    .simp at h
   .simp at h
  .split at h
   .unfold zd at h
    split at h
    .split at h
     .rename_i hH
      repeat' (split at h)
      all_goals first | exact up (by rw[hH];simp) (by simp) h | exact b rfl h | (simp at h;done)
     .simp at h
    .simp at h
   .simp at h
  .split at h
   .unfold yW at h
    split at h
    .split at h
     .exact b rfl h
     .split at h
      .split at h
       .rename_i hH
        split at h
        .exact up (by rw[hH];simp) (by simp) h
        .simp at h
       .simp at h
      .simp at h
    .simp at h
   .simp at h
  .exact pu h
  .exact pu h
  .exact pu h
  .exact pu h
  .exact pu h
  .simp at h
 .split at h
  .split at h
   .exact b rfl h
   .exact b rfl h
   .simp at h
  .exact pu h
 .exact pu h
 .exact pu h
 .simp at h
section
variable {P:Program} {n:Nat} {all:List Oper} {Z:Nat->Prop} {μ:Mu} {w:World}
theorem eQ.congr {H H':View} {hp:Array Obj} (h:eQ Z μ hp H) (e:∀id,μ id≠none->H' id=H id):eQ Z μ hp H':=by
 refine⟨λid=>?_,λi j b o s g k d hi f=>?_,h.lt,h.de,h.iK⟩
 .by_cases hm:μ id=none
  .cases hH:H' id with
   | dead=>trivial
   | arr esz es=>intro b o0 s a;rw[hm] at a;simp at a
   | map es c=>intro b o0 s a;rw[hm] at a;simp at a
   | Ac s p=>intro b o0 t a;rw[hm] at a;simp at a
  .rw[e id hm];exact h.obj id
 .rw[e i (by rw[hi];simp),e j (by rw[f];simp)]
  exact h.inj i j b o s g k d hi f
def kr (H:View) (h h':Heap) (wr:List Nat):View:=λid=>if id∈wr∨(h.length<=id/\id<h'.length) then h'.view id else H id
theorem nB.ext {μ':Mu} {w':World} {eff:bq} {m:Nat} (he:nB Z μ μ' w.heap w'.heap m eff) (k:fa w w') (r:eff.fresh (μ m=none)) (de:∀b,Z b->b<w.heap.size) (iK:∀id b o s,μ id=some (b,o,s)->¬ Z b):
  Ext Z μ w m Z μ' w'/\(∀id,(∀(_:¬ (match eff with | .new _ | .eW _ _=>id=m | _=>False)),μ' id=μ id)):=by
 have hm:=he.mono r de iK
 cases eff with
 | none =>
  obtain⟨rfl,f⟩:=he
  exact⟨⟨k,hm,λb l _=>f b l (λx=>x),λ_ h=>.inl h,λ_ _ _ _ h=>.inl h⟩,λ_ _=>rfl⟩
 | new o =>
  obtain⟨b,o0,s,t,u,rfl,f,_⟩:=he
  refine⟨⟨k,hm,λb l _=>f b l (λx=>x),λ_ h=>.inl h,λid g v y d=>?_⟩,λid i=>by simp[Mu.set];intro e;exact absurd e i⟩
  by_cases e:id=m
  .subst e;simp[Mu.set] at d;exact .inr ⟨abg _,.inl (by omega)⟩
  .simp[Mu.set,e] at d;exact .inl d
 | fP id o =>
  obtain⟨b,o0,s,a,rfl,f,_,_⟩:=he
  exact⟨⟨k,hm,λg c j=>f g c (λe=>j ⟨id,o0,s,e▸a⟩),λ_ h=>.inl h,λ_ _ _ _ h=>.inl h⟩,λ_ _=>rfl⟩
 | eW id o =>
  obtain⟨b,o0,s,rfl,_,q⟩:=he
  refine⟨⟨k,hm,?_,λ_ h=>.inl h,λn g v y d=>?_⟩,λid i=>by simp[Mu.set];intro e;exact absurd e i⟩
  .rcases q with h1 | ⟨⟨p,s1,a⟩,f,_⟩
   .exact λg c _=>h1.2.2 g c (λx=>x)
   .exact λg c j=>f g c (λe=>j ⟨id,p,s1,e▸a⟩)
  .by_cases e:n=m
   .subst e
    simp[Mu.set] at d
    obtain⟨rfl,_,_⟩:=d
    rcases q with h1 | ⟨⟨p,s1,a⟩,_,_⟩
    .exact .inr ⟨abg _,.inl h1.1⟩
    .exact .inr ⟨abg _,.inr ⟨id,p,s1,a⟩⟩
   .simp[Mu.set,e] at d;exact .inl d
theorem Mc {f:FuncId} {args:Array Value} (h:eh P f=true):(callFunc f args).run P w=.ok (.enter f args) w:=by
 unfold eh at h
 split at h
 .rename_i fn a
  simp only[abh,bne_iff_ne,ne_eq] at h
  have e:fn.body.isNone=false:=by cases b:fn.body<;>simp_all
  have c:¬ (fn.name = "runtime.NumGoroutine"):=by simpa using h.1
  have d:¬ (fn.body=none):=by cases b:fn.body<;>simp_all
  simp[callFunc,a,c,d]
 .simp at h
theorem qS {ops:Array Oper} (g:ops=all.toArray) {a:Act} (k:a.tmps.size=n) {T:Env} {o:Oper} {t:Bool} (e:dW n all T o=some t)
  (f:∀j want d,o.guard=some (j,want)->(all[j]?).bind (·.dst)=some d->aD Z μ w.heap (T d) (a.tmps.getD d undef)):Region.wanted o (yielded ops a.tmps)=t:=by
 unfold dW at e
 unfold Region.wanted
 cases i:o.guard with
 | none=>simp[i] at e;subst e;rfl
 | some p =>
  obtain⟨j,want⟩:=p
  simp only[i] at e ⊢
  cases l:(all[j]?).bind (·.dst) with
  | none=>simp[l] at e
  | some d =>
   simp only[l] at e
   split at e
   .rename_i m
    have h:=f j want d i l
    split at e
    .rename_i b r
     rw[r] at h
     have h:=fi h
     simp only[abd] at e
     subst e
     have c:d<a.tmps.size:=k▸m
     simp only[abm,abu c,abp] at h
     have:yielded ops a.tmps j=some b:=by
      unfold yielded
      subst g
      simp only[abU,l,abD,abu c,h]
     rw[this]
     cases b<;>cases want<;>rfl
    .rename_i r
     rw[r] at h
     have c:d<a.tmps.size:=k▸m
     generalize q:a.tmps.getD d undef=x at h
     cases h with
     | bc _ s h1 v =>
      simp only[abd] at e
      subst e
      have u:a.tmps[d]?=some (.tuple s):=by
       rw[abu c]
       simp only[abm,abu c,abp] at q
       rw[q]
      have:yielded ops a.tmps j=none:=by
       unfold yielded
       subst g
       simp only[abU,l,abD,u]
      rw[this]
      rfl
    .simp at e
   .simp at e
theorem CH {ops:Array Oper} (B:ops=all.toArray) {i:Nat} {o:Oper} (hi:ops[i]?=some o) {T:Env} {h Y:Heap} {v:V} {rd wr:List Nat} {call:Bool} (st:eF P n all o T h v Y rd wr call) {a:Act} {H:View}
  (G:a.tmps.size=n) (m:∀j want d,o.guard=some (j,want)->(all[j]?).bind (·.dst)=some d->aD Z μ w.heap (T d) (a.tmps.getD d undef))
  (hT:∀x∈o.op.operands,aD Z μ w.heap (ev T x) (a.eval x)) (hr:eQ Z μ w.heap H) (bl:∀id,id∈rd->μ id≠none->H id=h.view id)
  (I:call=true->∀id,id<h.length->μ id≠none->H id=h.view id) (J:∀id,h.length<=id->id<Y.length->μ id=none)
  {K:Act->World->Prop} {Q:Exit->Act->World->Prop}
  (hK:∀x w' Z' μ',aD Z' μ' w'.heap v x->eQ Z' μ' w'.heap (kr H h Y wr)->Ext Z μ w h.length Z' μ' w'->(∀id,id<h.length∨Y.length<=id->μ' id=μ id)->K (a.put o.dst x) w'):
  wpOp P ops Q i K a w:=by
 unfold wpOp
 rw[hi]
 cases st with
 | skip O =>
  have:=qS (w:=w) B G O m
  simp only[this,abI,if_false]
  refine hK undef w Z μ (.bc _ _ rfl (λi hi=>by simp at hi)) (hr.congr λid c=>?_) (Ext.refl _ _ _ _) (λ_ _=>rfl)
  unfold kr
  rw[aa9]
  rintro (h1 | h1)
  .simp at h1
  .omega
 | op O bn =>
  rename_i eff
  have:=qS (w:=w) B G O m
  simp only[this,if_true]
  left
  have D:=o8 bn
  have b4:=k9 (λid c=>(D id c).1)
  have hlen:=iE h eff
  have ab:eff.fresh (μ h.length=none):=by
   cases eff with
   | new o=>exact J _ (abg _) (by rw[hlen];simp)
   | eW k o=>exact J _ (abg _) (by rw[hlen];simp)
   | _=>trivial
  .have br:Ctx Z μ w.heap h.view rd h.length eff:=by
    refine⟨ab,λid c=>?_,hr.lt,hr.de,hr.iK⟩
    by_cases hm:μ id=none
    .have:=(eQ.congr (H':=λk=>if k=id then h.view id else H k) hr (λk hk=>by
      split
      .rename_i e;subst e;exact absurd hm hk
      .rfl)).obj id
     simpa using this
    .rw[<-bl id c hm];exact hr.obj id
   obtain⟨nx,w',μ',t,bx,l,u⟩:=Y9 bn hT br
   have hex:=u.ext l ab hr.de hr.iK
   have L:eQ Z μ' w'.heap (kr H h (eff.apply h) eff.wr):=by
    have M:∀id,id∈eff.wr->μ id≠none->H id≠.dead:=λid c hm=>by
     rw[bl id (D id c).2 hm];exact(D id c).1
    have b0:∀id o,(eff=.fP id o∨eff=.eW id o)->H id≠.dead∨μ id=none:=by
     rintro id o (rfl | rfl)
     .by_cases hm:μ id=none
      .exact .inr hm
      .exact .inl (M id (by simp[bq.wr]) hm)
     .by_cases hm:μ id=none
      .exact .inr hm
      .exact .inl (M id (by simp[bq.wr]) hm)
    have h2:eQ Z μ w.heap (λk=>if μ k=none then .Ac .empty 0 else H k):=hr.congr (λk hk=>by simp[hk])
    have h3:=h2.eff ab l.size u (λid o e=>by
     split
     .simp
     .rename_i hk;exact(b0 id o (.inl e)).resolve_right hk) (λid o e=>by
     split
     .simp
     .rename_i hk;exact(b0 id o (.inr e)).resolve_right hk)
    refine h3.congr (λid c=>?_)
    unfold kr
    rw[b4]
    cases eff with
    | none =>
     obtain⟨rfl,_⟩:=u
     simp only[bq.wr,bq.apply,bq.view,List.not_mem_nil,false_or]
     rw[aa9 (by omega),aa9 c]
    | new o =>
     obtain⟨b,o0,s,_,_,rfl,_⟩:=u
     simp only[bq.wr,bq.view,View.set,List.not_mem_nil,false_or]
     by_cases e:id=h.length
     .subst e;rw[abb ⟨abg _,by rw[hlen];simp⟩,abb rfl,abb rfl]
     .rw[aa9 (by rw[hlen];simp only;omega),aa9 e]
      have:μ id≠none:=by simpa [Mu.set,e] using c
      rw[aa9 this]
    | fP k o =>
     obtain⟨b,o0,s,_,rfl,_⟩:=u
     simp only[bq.wr,bq.view,View.set,ab5]
     by_cases e:id=k
     .subst e;rw[abb (.inl rfl),abb rfl,abb rfl]
     .rw[aa9 (by rw[hlen];simp only;omega),aa9 e,aa9 c]
    | eW k o =>
     obtain⟨b,o0,s,rfl,_⟩:=u
     simp only[bq.wr,bq.view,View.set,ab5]
     by_cases e:id=h.length
     .subst e;rw[abb (.inr ⟨abg _,by rw[hlen];simp⟩),abb rfl,abb rfl]
     .by_cases e2:id=k
      .subst e2;rw[abb (.inl rfl),aa9 e,abb rfl,aa9 e,abb rfl]
      .rw[aa9 (by rw[hlen];simp only;omega),aa9 e,aa9 e2]
       have:μ id≠none:=by simpa [Mu.set,e] using c
       rw[aa9 this]
   have C:∀id,id<h.length∨(eff.apply h).length<=id->μ' id=μ id:=by
    intro id c
    refine hex.2 id (λR=>?_)
    cases eff with
    | none=>exact R
    | new o=>simp only at R;subst R;rw[hlen] at c;simp at c;omega
    | fP k o=>exact R
    | eW k o=>simp only at R;subst R;rw[hlen] at c;simp at c;omega
   unfold Oper.wp
   rw[t]
   rcases bx with ⟨x,rfl,hv⟩ | ⟨rfl,rfl⟩
   .exact hK x w' Z μ' hv L hex.1 C
   .exact hK undef w' Z μ' (.any _) L hex.1 C
 | kN O S ae =>
  rename_i e x
  have:=qS (w:=w) B G O m
  simp only[this,if_true]
  left
  have z:=hT x (by rw[S];simp[Op.operands])
  have b1:=iC z ae
  have t:(execOp a.eval o).run P w=.ok (.value (.pointer (some ⟨w.heap.size,0,none⟩))) (w.alloc (.cells (a.eval x).cells e)):=by
   unfold execOp
   rw[S]
   simp[Instr.box,newVar,newRow]
  unfold Oper.wp
  rw[t]
  have A:hU w.heap (w.alloc (.cells (a.eval x).cells e)).heap (λ_=>False):=fK _ _
  have b2:(w.alloc (.cells (a.eval x).cells e)).heap.size=w.heap.size+1:=by rw[heap_alloc];simp
  have hm:iQ Z (λb=>Z b∨b=w.heap.size) μ μ w.heap (w.alloc (.cells (a.eval x).cells e)).heap:=⟨λ_ h=>.inl h,λb r=>A b (hr.de b r) (λx=>x),λ_ _ h=>h,A.mE⟩
  have l:fa w (w.alloc (.cells (a.eval x).cells e)):=ja _ _
  have al:kr H h h []=H:=by
   funext id
   unfold kr
   rw[aa9]
   rintro (h1 | h1)
   .simp at h1
   .omega
  refine hK _ _ (λb=>Z b∨b=w.heap.size) μ ?_ (al.symm▸⟨λid=>?_,hr.inj,λid b o s z=>abK (hr.lt _ _ _ _ z) l.size,λb r=>?_,λid b o s z an=>?_⟩)
   ⟨l,hm,λb r _=>A b r (λx=>x),λb r=>?_,λ_ _ _ _ h=>.inl h⟩ (λ_ _=>rfl)
  .have:=aD.aR (Z:=λb=>Z b∨b=w.heap.size) (μ:=μ) (hp:=(w.alloc (.cells (a.eval x).cells e)).heap) (ev T x).cells 0 w.heap.size 0 (λk=>(a.eval x).cells.toList.getD k undef) (.inr rfl) (λk hk=>?_) (λk hk=>(b1.2 k hk).mono hm)
   .simpa using this
   .have aq:k<(a.eval x).cells.size:=by have:=b1.1;simp at this;omega
    simp[cellAt,heap_alloc,aq]
  .exact(hr.obj id).mono hm rfl (λb o s z=>A b (hr.lt _ _ _ _ z) (λx=>x))
  .rcases r with r | rfl
   .exact abK (hr.de b r) l.size
   .omega
  .rcases an with r | rfl
   .exact hr.iK _ _ _ _ z r
   .have:=hr.lt _ _ _ _ z;omega
  .rcases r with r | rfl
   .exact .inl r
   .exact .inr (abg _)
 | ia O S hs hd he b5 =>
  rename_i s d e x st
  have:=qS (w:=w) B G O m
  simp only[this,if_true]
  left
  have z:=hT x (by rw[S];simp[Op.operands])
  rw[b5] at z
  have b7:=fi z
  have X:st.size<=grownCap w st.size 0 e:=by unfold grownCap Question.cut;exact Nat.le_add_right _ _
  have t:=run_bytes_of_string w s d e st hs hd he
  generalize cf:grownCap w st.size 0 e=cap at t X
  have b8:(bytesRow st cap).size=cap:=by
   simp only[bytesRow,Array.size_append,Array.size_map,Array.size_replicate]
   have:st.data.size=st.size:=rfl
   omega
  have ar:(execOp a.eval o).run P w=.ok (.value (.slice (some ⟨w.heap.size,0,none⟩) st.size cap)) (w.drew.alloc (.cells (bytesRow st cap) e (cap,cap+1))):=by
   unfold execOp
   rw[S]
   simp only[b7,Sem.run_bind,t,Result.andThen_ok,Sem.run_pure]
   rw[b8]
  unfold Oper.wp
  rw[ar]
  have E:(w.drew.alloc (.cells (bytesRow st cap) e (cap,cap+1))).heap=w.heap.push (.cells (bytesRow st cap) e (cap,cap+1)):=by rw[heap_alloc,gj]
  have A:hU w.heap (w.drew.alloc (.cells (bytesRow st cap) e (cap,cap+1))).heap (λ_=>False):=by rw[E];exact fK _ _
  have b2:(w.drew.alloc (.cells (bytesRow st cap) e (cap,cap+1))).heap.size=w.heap.size+1:=by rw[E];simp
  have hm:iQ Z (λb=>Z b∨b=w.heap.size) μ μ w.heap (w.drew.alloc (.cells (bytesRow st cap) e (cap,cap+1))).heap:=⟨λ_ h=>.inl h,λb r=>A b (hr.de b r) (λx=>x),λ_ _ h=>h,A.mE⟩
  have l:fa w (w.drew.alloc (.cells (bytesRow st cap) e (cap,cap+1))):=iP _ _
  have al:kr H h h []=H:=by
   funext id
   unfold kr
   rw[aa9]
   rintro (h1 | h1)
   .simp at h1
   .omega
  refine hK _ _ (λb=>Z b∨b=w.heap.size) μ ?_ (al.symm▸⟨λid=>?_,hr.inj,λid b o s z=>abK (hr.lt _ _ _ _ z) l.size,λb r=>?_,λid b o s z an=>?_⟩)
   ⟨l,hm,λb r _=>A b r (λx=>x),λb r=>?_,λ_ _ _ _ h=>.inl h⟩ (λ_ _=>rfl)
  .have U:(iF st).length=st.size:=by rw[iF,abc,bsize]
   have:=aD.aY (Z:=λb=>Z b∨b=w.heap.size) (μ:=μ) (hp:=(w.drew.alloc (.cells (bytesRow st cap) e (cap,cap+1))).heap) (iF st) w.heap.size 0 1 cap (λi _=>.int .u8 ((st.data.toList.getD i 0).toNat)) (.inr rfl) (by rw[U];exact X) ?_ ?_ ?_
   .rw[U] at this;exact this
   .intro i hi
    have F:i<st.data.toList.length:=by simpa [iF] using hi
    simp only[iF,aa7,aba,aa8 F,abk,abp,abl,abG]
   .intro i j hi hj
    obtain rfl:j=0:=by omega
    have F:i<st.data.size:=by simpa [iF] using hi
    rw[E]
    simp only[cellAt,Array.getElem?_push_size,bytesRow,adr,acI,abX]
    rw[ab4 (by simpa using F),Array.getElem?_map,abu F]
    simp[abu F]
   .intro i j hi hj
    obtain rfl:j=0:=by omega
    have F:i<st.data.size:=by simpa [iF] using hi
    simp only[iF,aa7,aba,ac5,abu F,abk,abp,abB]
    exact .val _ rfl
  .exact(hr.obj id).mono hm rfl (λb o s z=>A b (hr.lt _ _ _ _ z) (λx=>x))
  .rcases r with r | rfl
   .exact abK (hr.de b r) l.size
   .omega
  .rcases an with r | rfl
   .exact hr.iK _ _ _ _ z r
   .have:=hr.lt _ _ _ _ z;omega
  .rcases r with r | rfl
   .exact .inl r
   .exact .inr (abg _)
 | call O S hf ae R hw b9 =>
  rename_i f args ch g first cap
  have:=qS (w:=w) B G O m
  simp only[this,if_true]
  left
  have a1:∀x∈args.toList,aD Z μ w.heap (ev T x) (a.eval x):=λx z=>hT x (by rw[S];simp[Op.operands,Call.operands];right;simpa using z)
  have a6:=hT f (by rw[S];simp[Op.operands,Call.operands])
  rw[hf] at a6
  generalize ca:a.eval f=fx at a6
  cases a6 with
  | fn _ _ _ W bs h1 h2 h3 h4 =>
   have t:(execOp a.eval o).run P w=.ok (.enter g (W++args.map a.eval++bs)) w:=by
    unfold execOp
    rw[S]
    simp only[resolve,ca,Deferred.ofValue,Sem.run_bind,Sem.run_pure,Result.andThen_ok,invoke,Mc ae]
   unfold Oper.wp
   rw[t]
   have cb:(W++args.map a.eval++bs)=(W.toList++args.toList.map a.eval++bs.toList).toArray:=by
    apply Array.ext';simp
   rw[cb]
   have a7:gI Z μ w.heap (first++args.toList.map (ev T)++cap) (W.toList++args.toList.map a.eval++bs.toList):=by
    have app:∀ {p q:List V} {x y:List Value},gI Z μ w.heap p x->gI Z μ w.heap q y->gI Z μ w.heap (p++q) (x++y):=by
     intro p q x y hp hq
     refine⟨by simp[hp.1,hq.1],λk hk=>?_⟩
     simp only[aa7]
     by_cases a8:k<p.length
     .rw[abF a8,abF (hp.1▸a8)]
      simpa only [aa7] using hp.2 k a8
     .rw[acf (by omega),acf (by rw[<-hp.1];omega),<-hp.1]
      simpa only [aa7] using hq.2 (k-p.length) (by simp at hk;omega)
    refine app (app ⟨by simpa using h1,λk hk=>?_⟩ ⟨by simp,λk hk=>?_⟩) ⟨by simpa using h2,λk hk=>?_⟩
    .simpa [aa7,abm] using h3 k hk
    .have aq:k<args.toList.length:=by simpa using hk
     have:=a1 args.toList[k] (abe _)
     simp only[aa7,aba,aa8 aq,abk,abp]
     exact this
    .simpa [aa7,abm] using h4 k hk
   have b3:eQ Z μ w.heap (cat h H):=hr.congr (λid c=>by
    unfold cat;split
    .rename_i cc;exact(I rfl id cc c).symm
    .rfl)
   refine(R.2 Z μ H w _ a7 b3 J).mono ?_
   rintro e w' ⟨x,Z',μ',rfl,hv,hh,hex,C⟩
   refine hK x w' Z' μ' hv (hh.congr λid c=>?_) hex C
   unfold kr cat
   by_cases N:id∈wr∨(h.length<=id/\id<Y.length)
   .rw[abb N]
    rcases N with h5 | h5
    .by_cases U:id<Y.length
     .rw[abb U]
     .exact absurd (abK (b9 id h5) R.1) U
    .rw[abb h5.2]
   .rw[aa9 N]
    by_cases U:id<Y.length
    .rw[abb U]
     have bd:id<h.length:=by
      rcases abH id h.length with h6 | h6
      .exact h6
      .exact absurd (.inr ⟨h6,U⟩) N
     rw[hw id bd (λq=>N (.inl q))]
     exact I rfl id bd (by rw[<-C id (.inl bd)];exact c)
    .rw[aa9 U]
end
structure Rec where
 rd:List Nat
 wr:List Nat
 call:Bool
 lo:Nat
 hi:Nat
inductive Tr (P:Program) (n:Nat) (all:List Oper):List Oper->Env->Heap->List Rec->Env->Heap->Prop
 | nil {T:Env} {h:Heap} : Tr P n all [] T h [] T h
 | cons {o:Oper} {rest:List Oper} {T T':Env} {h h1 h':Heap} {v:V} {rd wr:List Nat} {call:Bool} {recs:List Rec} : eF P n all o T h v h1 rd wr call->uP n o=true ->
  Tr P n all rest (T.put o.dst v) h1 recs T' h'->Tr P n all (o::rest) T h (⟨rd,wr,call,h.length,h1.length⟩::recs) T' h'
def mask (o:Oper) (acc:List Nat):Nat:=o.after.toList.foldl (λs e=>if Region.binds .any e then s ||| 2 ^ e.on ||| acc.getD e.on 0 else s) 0
def gT:List Oper->List Nat->List Nat
 | [],acc=>acc
 | o::r,acc=>gT r (acc++[mask o acc])
def tmpsOf (o:Oper):List Nat:=o.op.operands.toList.filterMap fun | .tmp t=>some t | _=>none
def qB (all:List Oper) (o:Oper):List Nat:=o.dst.toList++tmpsOf o++(match o.guard with
 | some (j,_)=>((all[j]?).bind (·.dst)).toList
 | none=>[])
def Qk (d:Option Nat) (l:List Nat):Bool:=match d with
 | some t=>!l.contains t
 | none=>true
def ordered (b:List Nat) (i k:Nat):Bool:=(b.getD k 0).testBit i
def oB (all:List Oper):Bool:=
 let b:=gT all []
 all.zipIdx.all λ(ok,k) =>
  (ok.after.toList.all λe=>!Region.binds .any e||decide (e.on<k)) &&
  all.zipIdx.all λ(oi,i)=>!decide (i<k)||ordered b i k||(Qk oi.dst (qB all ok)&&Qk ok.dst (qB all oi))
structure rb (a b:Rec):Prop where
 ZV:∀id,id∈a.wr->¬ id∈b.rd
 YW:∀id,id∈b.wr->¬ id∈a.rd
 ZH:a.call=true->b.wr=[]
 call2:b.call=true->a.wr=[]
 new:∀id,id∈b.wr->¬ (a.lo<=id/\id<a.hi)
def yi (all:List Oper) (recs:List Rec):Prop:=∀i k a b,i<k->recs[i]?=some a->recs[k]?=some b->ordered (gT all []) i k=false->rb a b
theorem Jg (l:List Edge) (acc:List Nat) (s j:Nat):(l.foldl (λs e=>if Region.binds .any e then s ||| 2 ^ e.on ||| acc.getD e.on 0 else s) s).testBit j=true ->
  s.testBit j=true∨∃e∈l,Region.binds .any e=true/\(j=e.on∨(acc.getD e.on 0).testBit j=true):=by
 induction l generalizing s with
 | nil=>intro h;exact .inl h
 | cons e l c =>
  intro h
  simp only[abY] at h
  rcases c _ h with h1 | ⟨e',b,d⟩
  .by_cases a:Region.binds .any e=true
   .rw[abb a,Nat.testBit_or,Nat.testBit_or,Nat.testBit_two_pow] at h1
    simp only[acW,abn] at h1
    rcases h1 with (h1 | h1) | h1
    .exact .inl h1
    .exact .inr ⟨e,acg,a,.inl h1.symm⟩
    .exact .inr ⟨e,acg,a,.inr h1⟩
   .rw[aa9 a] at h1;exact .inl h1
  .exact .inr ⟨e',abx _ b,d⟩
theorem Eu:∀(l:List Oper) (acc:List Nat) (k:Nat),k<acc.length->(gT l acc).getD k 0=acc.getD k 0
 | [],acc,k,_=>rfl
 | o::r,acc,k,h=>by
  rw[gT,Eu r _ k (by simp;omega)]
  simp[abF h]
theorem HP:∀(l:List Oper) (acc:List Nat) (k:Nat) (o:Oper),l[k]?=some o->∃a,(gT l acc).getD (acc.length+k) 0=mask o a/\a.length=acc.length+k/\∀m,m<a.length->a.getD m 0=(gT l acc).getD m 0
 | [],acc,k,o,h=>by simp at h
 | p::r,acc,0,o,h=>by
  simp at h;subst h
  refine⟨acc,?_,by simp,λm hm=>?_⟩
  .rw[gT,Eu r _ _ (by simp)]
   simp
  .rw[gT,Eu r _ _ (by simp;omega)]
   simp[abF hm]
 | p::r,acc,k+1,o,h=>by
  have b:r[k]?=some o:=by simpa using h
  obtain⟨a,h1,c,d⟩:=HP r (acc++[mask p acc]) k o b
  refine⟨a,?_,by simp at c;omega,λm hm=>?_⟩
  .have e:(acc++[mask p acc]).length+k=acc.length+(k+1):=by simp;omega
   rw[<-e];exact h1
  .rw[gT];exact d m hm
theorem AP {all:List Oper} {L:Nat->Prop} (m:∀k o,all[k]?=some o->∀e∈o.after.toList,Region.binds .any e=true->e.on<k)
  (n:∀k o,all[k]?=some o->L k->∀e∈o.after.toList,Region.binds .any e=true->L e.on):∀k o j,all[k]?=some o->L k->ordered (gT all []) j k=true->L j:=by
 intro k
 induction k using Nat.strongRecOn with
 | _ k p =>
  intro o j hk d f
  unfold ordered at f
  obtain⟨i,h1,q,r⟩:=HP all [] k o hk
  simp only[abG,abX] at h1 q
  rw[h1] at f
  rcases Jg _ _ _ _ f with a | ⟨e,he,b,a⟩
  .simp at a
  .have g:=m k o hk e he b
   have c:=n k o hk d e he b
   rcases a with a | a
   .rw[a];exact c
   .have l:k<all.length:=by
     rcases abH k all.length with h | h
     .exact h
     .simp[abL h] at hk
    refine p e.on g _ j (aa8 (by omega)) c ?_
    unfold ordered
    rw[<-r e.on (by omega)]
    exact a
theorem KU {all:List Oper} {L:Nat->Prop} (g:∀k o,all[k]?=some o->∀e∈o.after.toList,Region.binds .any e=true->e.on<k)
  (l:∀k o,all[k]?=some o->L k->∀e∈o.after.toList,Region.binds .any e=true->L e.on) {k:Nat} {o:Oper} (hk:all[k]?=some o) (hr:∀e∈o.after.toList,Region.binds .any e=true->L e.on)
  {j:Nat} (d:ordered (gT all []) j k=true):L j:=by
 unfold ordered at d
 obtain⟨h,h1,m,n⟩:=HP all [] k o hk
 simp only[abG,abX] at h1 m
 rw[h1] at d
 rcases Jg _ _ _ _ d with a | ⟨e,he,b,a⟩
 .simp at a
 .have p:=g k o hk e he b
  have c:=hr e he b
  rcases a with a | a
  .rw[a];exact c
  .have i:k<all.length:=by
    rcases abH k all.length with f | f
    .exact f
    .simp[abL f] at hk
   refine AP g l e.on _ j (aa8 (by omega)) c ?_
   unfold ordered
   rw[<-n e.on (by omega)]
   exact a
theorem MV {all:List Oper} (h:oB all=true):(∀k o,all[k]?=some o->∀e∈o.after.toList,Region.binds .any e=true->e.on<k) /\
  ∀i k a ok,i<k->all[i]?=some a->all[k]?=some ok->ordered (gT all []) i k=false->(∀t,a.dst=some t->¬ t∈qB all ok)/\(∀t,ok.dst=some t->¬ t∈qB all a):=by
 unfold oB at h
 have mem:∀k o,all[k]?=some o->(o,k)∈all.zipIdx:=by
  intro k o hk
  rw[ab6];exact hk
 refine⟨λk o hk e he f=>?_,λi k a ok b hi hk g=>?_⟩
 .have:=abC.1 h _ (mem k o hk)
  simp only[abh] at this
  have:=abC.1 this.1 e he
  simpa [f] using this
 .have:=abC.1 h _ (mem k ok hk)
  simp only[abh] at this
  have:=abC.1 this.2 _ (mem i a hi)
  simp only[b,decide_true,ade,adb,g,abh] at this
  have c:∀(d:Option Nat) (l:List Nat),Qk d l=true->∀t,d=some t->¬ t∈l:=by
   intro d l j t m
   subst m
   simpa [Qk] using j
  exact⟨c _ _ this.1,c _ _ this.2⟩
theorem Jy {P:Program} {n:Nat} {all:List Oper}:∀(l:List Oper) (T:Env) (h:Heap) (a:List Rec) (d:Env) (e:Heap),Tr P n all l T h a d e ->
  a.length=l.length/\∃(c:Nat->Env) (b:Nat->Heap) (vs:Nat->V),c 0=T/\b 0=h/\c l.length=d/\b l.length=e /\
   ∀i o r,l[i]?=some o->a[i]?=some r->eF P n all o (c i) (b i) (vs i) (b (i+1)) r.rd r.wr r.call/\uP n o=true/\c (i+1)=(c i).put o.dst (vs i)/\r.lo=(b i).length/\r.hi=(b (i+1)).length:=by
 intro l T h a d e m
 induction m with
 | nil=>exact⟨rfl,λ_=>_,λ_=>_,λ_=>.any,rfl,rfl,rfl,rfl,λi o r h=>by simp at h⟩
 | @cons o rest T d h h1 e v rd wr call a f p _ q =>
  obtain⟨s,c,b,vs,j,k,t,u,hi⟩:=q
  refine⟨by simp[s],λi=>match i with | 0=>T | i+1=>c i,λi=>match i with | 0=>h | i+1=>b i,λi=>match i with | 0=>v | i+1=>vs i,rfl,rfl,t,u,?_⟩
  intro i w r g hr
  cases i with
  | zero =>
   simp at g hr
   subst g hr
   exact⟨by simpa only [j,k] using f,p,by simp only[j],rfl,by simp only[k]⟩
  | succ i =>
   exact hi i w r (by simpa using g) (by simpa using hr)
theorem wC {P:Program} {n:Nat} {all:List Oper} {o:Oper} {T:Env} {h a:Heap} {v:V} {rd wr:List Nat} {call:Bool} (st:eF P n all o T h v a rd wr call):h.length<=a.length:=by
 cases st with
 | skip=>exact abg _
 | op _ _=>rw[iE];exact Nat.le_add_right _ _
 | kN _ _ _=>exact abg _
 | ia _ _ _ _ _ _=>exact abg _
 | call _ _ _ _ b _ _=>exact b.1
theorem uG {P:Program} {n:Nat} {all:List Oper} {o:Oper} {T:Env} {h c:Heap} {v:V} {rd wr:List Nat} {call:Bool} (st:eF P n all o T h v c rd wr call) {id:Nat} (a:id<h.length) (hw:¬ id∈wr):c.view id=h.view id:=by
 cases st with
 | skip=>rfl
 | op f b =>
  rename_i eff
  rw[k9 (λid a=>(o8 b id a).1)]
  cases eff with
  | none=>rfl
  | new o=>simp only[bq.view,View.set];rw[aa9 (by omega)]
  | fP k o=>simp only[bq.view,View.set];rw[aa9 (λe=>hw (by simp[bq.wr,e]))]
  | eW k o=>simp only[bq.view,View.set];rw[aa9 (by omega),aa9 (λe=>hw (by simp[bq.wr,e]))]
 | kN _ _ _=>rfl
 | ia _ _ _ _ _ _=>rfl
 | call _ _ _ _ _ d _=>exact d id a hw
theorem AF {P:Program} {n:Nat} {all:List Oper} {o:Oper} {T:Env} {h b:Heap} {v:V} {rd wr:List Nat} {call:Bool} (st:eF P n all o T h v b rd wr call) {id:Nat} (hw:id∈wr):id<h.length/\(call=false->id∈rd):=by
 cases st with
 | skip=>simp at hw
 | op d a=>exact⟨fj (o8 a id hw).1,λ_=>(o8 a id hw).2⟩
 | kN _ _ _=>simp at hw
 | ia _ _ _ _ _ _=>simp at hw
 | call _ _ _ _ _ _ c=>exact⟨c id hw,λh=>by simp at h⟩
theorem Lf {H:View} {x:V} {xs:List (List V)} {rd:List Nat} (h:bQ H x=some (xs,rd)):∀id,id∈rd->H id≠.dead:=by
 intro id a
 unfold bQ at h
 split at h
 .simp at h;rw[h.2] at a;simp at a
 .simp at h;rw[h.2] at a;simp at a
 .simp at h;rw[h.2] at a;simp at a
 .simp at h;rw[h.2] at a;simp at a
 .split at h
  .rename_i hH
   split at h
   .simp at h;rw[<-h.2] at a;simp at a;subst a;rw[hH];simp
   .simp at h
  .simp at h
 .simp at h;rw[h.2] at a;simp at a
 .simp at h
theorem Zf {P:Program} {o:Oper} {T:Env} {H:View} {n:Nat} {v:V} {eff:bq} {rd:List Nat} (h:cL P o T H n=some (v,eff,rd)):∀id,id∈rd->H id≠.dead:=by
 have b:∀ {v':V} {e:bq},some (v',e,([]:List Nat))=some (v,eff,rd)->∀id,id∈rd->H id≠.dead:=by
  intro v' e heq id c
  simp only[abd,abz] at heq
  rw[<-heq.2.2] at c;simp at c
 have one:∀ {k:Nat} {v':V} {e:bq},H k≠.dead->some (v',e,[k])=some (v,eff,rd)->∀id,id∈rd->H id≠.dead:=by
  intro k v' e hk heq id c
  simp only[abd,abz] at heq
  rw[<-heq.2.2] at c;simp at c;subst c;exact hk
 have mp:∀ {α:Type} {x:Option α} {f:α->V},(x.map λa=>(f a,bq.none,([]:List Nat)))=some (v,eff,rd)->∀id,id∈rd->H id≠.dead:=by
  intro α x f h
  simp only[abj] at h
  obtain⟨a,_,h⟩:=h
  exact b (ach some h)
 have j:∀ {α:Type} {x:Option α} {f:α->V} {k:Nat},H k≠.dead->(x.map λa=>(f a,bq.none,[k]))=some (v,eff,rd)->∀id,id∈rd->H id≠.dead:=by
  intro α x f k hk h
  simp only[abj] at h
  obtain⟨a,_,h⟩:=h
  exact one hk (ach some h)
 have pu:eE P o T=some (v,eff,rd)->∀id,id∈rd->H id≠.dead:=by
  intro h
  unfold eE at h
  repeat' (split at h)
  all_goals first | exact b h | (simp at h;done)
 have l:∀ {cs:List V},nL cs n=some (v,eff,rd)->∀id,id∈rd->H id≠.dead:=by
  intro cs h
  unfold nL at h
  split at h
  .exact b h
  .simp at h
 have g:∀ {x:V} {xs:List (List V)} {r:List Nat} {v':V} {e:bq},bQ H x=some (xs,r)->some (v',e,r)=some (v,eff,rd)->∀id,id∈rd->H id≠.dead:=by
  intro x xs r v' e he heq id c
  simp only[abd,abz] at heq
  rw[<-heq.2.2] at c
  exact Lf he id c
 have i:∀ {x:V} {xs:List (List V)} {r:List Nat} {v':V} {e:bq} {k:Nat},bQ H x=some (xs,r)->H k≠.dead->some (v',e,k::r)=some (v,eff,rd)->∀id,id∈rd->H id≠.dead:=by
  intro x xs r v' e k he hk heq id c
  simp only[abd,abz] at heq
  rw[<-heq.2.2] at c
  rcases abw.1 c with h1 | h1
  .subst h1;exact hk
  .exact Lf he id h1
 unfold cL at h
 split at h
 .exact b h
 .exact b h
 .split at h
  .exact b h
  .simp at h
 .split at h
  .exact l h
  .simp at h
 .exact l h
 .unfold yL at h
  split at h
  .split at h
   .exact mp h
   .simp at h
  .simp at h
 .unfold jg at h
  repeat' (split at h)
  all_goals first | exact b h | (simp at h;done)
 .unfold oM at h
  split at h
  .split at h
   .rename_i hH
    split at h
    .exact j (by rw[hH];simp) h
    .simp at h
   .simp at h
  .exact mp h
  .simp at h
 .unfold tn at h
  split at h
  .split at h
   .rename_i hH
    split at h
    .exact one (by rw[hH];simp) h
    .simp at h
   .simp at h
  .simp at h
 .repeat' (split at h)
  all_goals first | exact b h | (simp at h;done)
 .unfold nr at h
  repeat' (split at h)
  all_goals first | exact b h | (simp at h;done)
 .unfold yU at h
  split at h
  .exact mp h
  .simp at h
 .unfold nk at h
  repeat' (split at h)
  all_goals first | exact b h | (simp at h;done)
 .split at h
  .exact pu h
  .unfold vK at h
   repeat' (split at h)
   all_goals first | exact b h | (simp at h;done)
 .unfold nz at h
  repeat' (split at h)
  all_goals first | exact b h | (simp at h;done)
 .repeat' (split at h)
  all_goals first | exact b h | (simp at h;done)
 .exact b h
 .unfold fV at h
  simp only at h
  split at h
  .simp at h
  .split at h
   .simp at h
   .split at h
    .split at h
     .rename_i hH
      repeat' (split at h)
      all_goals first | exact one (by rw[hH];simp) h | (simp at h;done)
     .simp at h
    .simp at h
 .unfold iq at h
  split at h
  .split at h
   .rename_i hH
    repeat' (split at h)
    all_goals first | exact one (by rw[hH];simp) h | (simp at h;done)
   .simp at h
  .simp at h
 .unfold iq at h
  split at h
  .split at h
   .rename_i hH
    repeat' (split at h)
    all_goals first | exact one (by rw[hH];simp) h | (simp at h;done)
   .simp at h
  .simp at h
 .unfold fk at h
  split at h
  .split at h
   .rename_i hH
    repeat' (split at h)
    all_goals first | exact one (by rw[hH];simp) h | (simp at h;done)
   .simp at h
  .simp at h
 .unfold lN at h
  split at h
  .split at h
   .rename_i hH
    repeat' (split at h)
    all_goals first | exact one (by rw[hH];simp) h | (simp at h;done)
   .simp at h
  .simp at h
 .repeat' (split at h)
  all_goals first | exact b h | (simp at h;done)
 .repeat' (split at h)
  all_goals first | exact b h | (simp at h;done)
 .unfold GD at h
  split at h
  .split at h
   .rename_i hH
    split at h
    .exact one (by rw[hH];simp) h
    .exact one (by rw[hH];simp) h
   .simp at h
  .simp at h
 .split at h
  .unfold oZ at h
   split at h
   .split at h
    .split at h
     .rename_i he _
      simp only[abj] at h
      obtain⟨a,_,h⟩:=h
      exact g he (ach some h)
     .simp at h
    .simp at h
   .repeat' (split at h)
    all_goals first | exact b h | (simp at h;done)
   .split at h
    .split at h
     .split at h
      .rename_i hH
       exact one (by rw[hH];simp) h
      .simp at h
     .simp at h
    .simp at h
   .simp at h
  .exact pu h
 .split at h
  .split at h
   .unfold x7 at h
    split at h
    .exact mp h
    .split at h
     .split at h
      .rename_i hH
       exact one (by rw[hH];simp) h
      .simp at h
     .exact b h
     .simp at h
    .repeat' (split at h)
     all_goals first | exact b h | (simp at h;done)
    .exact b h
    .simp at h
   .simp at h
  .split at h
   .unfold pJ at h
    split at h
    .rename_i d
     split at h
     .simp at h
     .split at h
      .split at h
       all_goals first | exact b h | (simp at h;done)
      .split at h
       .simp at h
       .split at h
        .split at h
         .exact g d h
         .simp at h
        .split at h
         .rename_i hH
          split at h
          .exact i d (by rw[hH];simp) h
          .simp at h
         .simp at h
        .simp at h
    .simp at h
   .split at h
    .unfold uK at h
     split at h
     .split at h
      .split at h
       .exact b h
       .split at h
        .exact b h
        .simp at h
      .simp at h
     .simp at h
    .simp at h
  .split at h
   .unfold HL at h
    split at h
    .exact b h
    .simp at h
   .simp at h
  .split at h
   .unfold zP at h
    split at h
    .rename_i d _
     split at h
     .simp at h
     .split at h
      .exact b h
      .split at h
       .split at h
        .rename_i hH
         split at h
         .exact i d (by rw[hH];simp) h
         .simp at h
        .simp at h
       .simp at h
    .simp at h
   .simp at h
  .split at h
   .unfold zd at h
    split at h
    .split at h
     .rename_i hH
      repeat' (split at h)
      all_goals first | exact one (by rw[hH];simp) h | (simp at h;done)
     .simp at h
    .simp at h
   .simp at h
  .split at h
   .unfold yW at h
    split at h
    .split at h
     .exact b h
     .split at h
      .split at h
       .rename_i hH
        split at h
        .exact one (by rw[hH];simp) h
        .simp at h
       .simp at h
      .simp at h
    .simp at h
   .simp at h
  .exact pu h
  .exact pu h
  .exact pu h
  .exact pu h
  .exact pu h
  .simp at h
 .split at h
  .split at h
   .exact b h
   .exact b h
   .simp at h
  .exact pu h
 .exact pu h
 .exact pu h
 .simp at h
theorem EU {P:Program} {n:Nat} {all:List Oper} {o:Oper} {T:Env} {h b:Heap} {v:V} {rd wr:List Nat} {call:Bool} (st:eF P n all o T h v b rd wr call) {id:Nat} (hw:id∈rd):id<h.length:=by
 cases st with
 | skip=>simp at hw
 | op c a=>exact fj (Zf a id hw)
 | kN _ _ _=>simp at hw
 | ia _ _ _ _ _ _=>simp at hw
 | call _ _ _ _ _ _ d=>simp at hw
structure tT (n:Nat) (Z:Nat->Prop) (μ:Mu) (F:View) (T:Env) (h:Heap) (a:Act) (w:World):Prop where
 defers:a.defers=[]
 size:a.tmps.size=n
 tm:∀t,aD Z μ w.heap (T t) (a.tmps.getD t undef)
 hr:eQ Z μ w.heap (cat h F)
def dB (P:Program) (n:Nat) (c:Code) (T:Env) (h:Heap) (e:Exit) (T':Env) (h':Heap):Prop:=
 h.length<=h'.length/\∀Z μ F a w,(∀id,h.length<=id->id<h'.length->μ id=none)->tT n Z μ F T h a w ->
  c.wp P (λe' a' w'=>e'=e/\∃Z' μ',tT n Z' μ' F T' h' a' w'/\Ext Z μ w h.length Z' μ' w'/\(∀id,id<h.length∨h'.length<=id->μ' id=μ id)) a w
section
variable {P:Program} {n:Nat} {all:List Oper}
theorem Ns {Z:Nat->Prop} {μ:Mu} {w:World} {T:Env} {a:Act} {o:Oper} (h:∀t,t∈tmpsOf o->aD Z μ w.heap (T t) (a.tmps.getD t undef)):∀x∈o.op.operands,aD Z μ w.heap (ev T x) (a.eval x):=by
 intro x b
 cases x with
 | tmp t=>exact h t (by simp only[tmpsOf,acB];exact⟨.tmp t,by simpa using b,rfl⟩)
 | const v=>exact iD v
 | global g=>exact .any _
 | func f=>exact .fn f [] [] #[] #[] rfl rfl (λi hi=>by simp at hi) (λi hi=>by simp at hi)
theorem O4 {a:Nat->Heap} {N:Nat} (h:∀i,i<N->(a i).length<=(a (i+1)).length):∀i j,i<=j->j<=N->(a i).length<=(a j).length:=by
 intro i j b
 induction b with
 | refl=>intro _;exact abg _
 | step _ c=>intro d;exact abZ (c (by omega)) (h _ (by omega))
theorem CU {a:Nat->Env} {vs:Nat->V} {N t:Nat} (g:∀i o,all[i]?=some o->a (i+1)=(a i).put o.dst (vs i)) (p:N=all.length):∀i j,i<=j->j<=N->(∀k o,i<=k->k<j->all[k]?=some o->o.dst≠some t)->a j t=a i t:=by
 intro i j c
 induction c with
 | refl=>intro _ _;rfl
 | step hle h =>
  rename_i m
  intro q b
  have hm:m<all.length:=by omega
  rw[g m all[m] (aa8 hm)]
  have l:=b m all[m] hle (by omega) (aa8 hm)
  have:(Env.put (a m) (all[m]).dst (vs m)) t=a m t:=by
   cases f:(all[m]).dst with
   | none=>rfl
   | some d =>
    simp only[Env.put]
    rw[aa9 (λe=>l (by rw[f,e]))]
  rw[this]
  exact h (by omega) (λk o h1 r n=>b k o h1 (by omega) n)
def D7 (P:Program) (n:Nat) (all:List Oper) (recs:List Rec) (Ts:Nat->Env) (hs:Nat->Heap) (vs:Nat->V):Prop:=∀i o r,all[i]?=some o->recs[i]?=some r ->
 eF P n all o (Ts i) (hs i) (vs i) (hs (i+1)) r.rd r.wr r.call/\uP n o=true/\Ts (i+1)=(Ts i).put o.dst (vs i)/\r.lo=(hs i).length/\r.hi=(hs (i+1)).length
structure Bears (P:Program) (n:Nat) (all:List Oper) (Ts:Nat->Env) (hs:Nat->Heap) (vs:Nat->V) (i k:Nat) (o:Oper) (a b:Rec):Prop where
 wr:a.wr=[]
 call:a.call=false
 len:a.lo=a.hi
 step:∀g:Heap,g.length=(hs i).length->(∀id,id<(hs i).length->g.view id=if id∈b.wr then (hs (k+1)).view id else (hs i).view id)->eF P n all o (Ts i) g (vs i) g a.rd [] false
def PG (P:Program) (n:Nat) (all:List Oper) (recs:List Rec) (T T':Env) (h:Heap):Prop:=∀Ts hs vs,Ts 0=T->hs 0=h->Ts all.length=T'->recs.length=all.length->D7 P n all recs Ts hs vs->∀i,∃tol:Option Nat,
 (∀k a b,i<k->recs[i]?=some a->recs[k]?=some b->ordered (gT all []) i k=false->tol≠some k->rb a b) /\
 ∀k a b o,tol=some k->recs[i]?=some a->recs[k]?=some b->all[i]?=some o->i<k/\Bears P n all Ts hs vs i k o a b
theorem yi.ZX {c:List Rec} {T d:Env} {hp:Heap} (h:yi all c):PG P n all c T d hp:=λ_ _ _ _ _ _ _ _ i=>⟨none,λk a b h1 e f g _=>h i k a b h1 e f g,λk a b o h1=>by simp at h1⟩
theorem zT (hm:P.follows .mixedOrders=true) {id:Nat} {T T':Env} {h h':Heap} {A:List Rec} (tr:Tr P n all all T h A T' h') (ht:oB all=true) (fl:PG P n all A T T' h):
  dB P n (.region id all.toArray true) T h .normal T' h':=by
 obtain⟨fm,Ts,v,vs,eg,ar,ei,a1,E⟩:=Jy all T h A T' h' tr
 obtain⟨U,V⟩:=MV ht
 have hc:=fl Ts v vs eg ar ei fm E
 have J:∀i,i<all.length->∃o r,all[i]?=some o/\A[i]?=some r:=λi hi=>⟨all[i],A[i]'(by omega),aa8 hi,aa8 (by omega)⟩
 have cC:∀i o,all[i]?=some o->i<all.length:=λi o hi=>ng hi
 have hT:∀i o,all[i]?=some o->Ts (i+1)=(Ts i).put o.dst (vs i):=λi o hi=>by
  obtain⟨o',r,h1,y⟩:=J i (cC i o hi)
  exact(E i o r hi y).2.2.1
 have bx:∀i,i<all.length->(v i).length<=(v (i+1)).length:=λi hi=>by
  obtain⟨o,r,h1,y⟩:=J i hi
  exact wC (E i o r h1 y).1
 have f:=O4 bx
 have hle:h.length<=h'.length:=by rw[<-ar,<-a1];exact f _ _ (aco _) (abg _)
 have W:∀i j id,i<=j->j<=all.length->id<(v i).length->(∀k r,i<=k->k<j->A[k]?=some r->¬ id∈r.wr)->(v j).view id=(v i).view id:=by
  intro i j id fs
  induction fs with
  | refl=>intro _ _ _;rfl
  | step hle ih =>
   rename_i m
   intro hj s b0
   obtain⟨o,r,h1,y⟩:=J m (by omega)
   rw[uG (E m o r h1 y).1 (abK s (f _ _ hle (by omega))) (b0 m r hle (by omega) y)]
   exact ih (by omega) s (λk r h1 y N=>b0 k r h1 (by omega) N)
 refine⟨hle,λZ μ F a w b1 ab=>wp_region_any hm ?_⟩
 let Inv (bG:Array Bool) (I:Act) (w':World):Prop:=∃Y μ' H,I.defers=[]/\I.tmps.size=n /\
  (∀t,∃G,G<=all.length/\aD Y μ' w'.heap (Ts G t) (I.tmps.getD t undef)/\∀k o,all[k]?=some o->o.dst=some t->(bG.getD k false=true↔k<G)) /\
  eQ Y μ' w'.heap H /\
  (∀id,μ' id≠none->(∃G,G<=all.length/\id<(v G).length/\H id=(v G).view id/\∀k r,A[k]?=some r->id∈r.wr->(bG.getD k false=true↔k<G))∨(h'.length<=id/\H id=F id)) /\
  (∀k id,k<all.length->(v k).length<=id->id<(v (k+1)).length->μ' id≠none->bG.getD k false=true) /\
  (∀k o,all[k]?=some o->bG.getD k false=true->∀e∈o.after.toList,Region.binds .any e=true->bG.getD e.on false=true) /\
  Ext Z μ w h.length Y μ' w'/\(∀id,id<h.length∨h'.length<=id->μ' id=μ id)/\bG.size=all.length
 have key:∀fuel bG I w',Inv bG I w'->((List.range all.length).countP λi=>!bG.getD i false)<=fuel ->
   wpAny P .any all.toArray (λe' I w'=>e'=.normal/\∃Y μ',tT n Y μ' F T' h' I w'/\Ext Z μ w h.length Y μ' w'/\(∀id,id<h.length∨h'.length<=id->μ' id=μ id)) fuel bG I w':=by
  have ready_iff:∀(bG:Array Bool),bG.size=all.length->∀i,i∈Region.ready .any all.toArray bG↔(∃o,all[i]?=some o/\bG.getD i false=false/\∀e∈o.after.toList,Region.binds .any e=true->bG.getD e.on false=true):=by
   intro bG X i
   simp only[Region.ready,acw,acr,ab7,abU,abh,adp]
   constructor
   .rintro⟨hi,h1,y⟩
    rw[aa8 hi] at y
    refine⟨all[i],aa8 hi,?_,λe he hb=>?_⟩
    .have:i<bG.size:=by omega
     simp only[abm,abu this,abp] at h1 ⊢
     exact h1
    .have:=Array.all_eq_true_iff_forall_mem.1 y e (by simpa using he)
     simpa [hb] using this
   .rintro⟨o,R,h1,y⟩
    have hi:=cC i o R
    refine⟨hi,?_,?_⟩
    .have:i<bG.size:=by omega
     simp only[abm,abu this,abp] at h1 ⊢
     exact h1
    .rw[R]
     simp only[abk,abp]
     rw[Array.all_eq_true_iff_forall_mem]
     intro e he
     cases hb:Region.binds .any e with
     | false=>rfl
     | true=>simpa using y e (by simpa using he) hb
  have b2:∀(bG:Array Bool),bG.size=all.length->Region.ready .any all.toArray bG=[]->∀i,i<all.length->bG.getD i false=true:=by
   intro bG X b3 i
   induction i using Nat.strongRecOn with
   | _ i ih =>
    intro hi
    cases hl:bG.getD i false with
    | true=>rfl
    | false =>
     exfalso
     have:i∈Region.ready .any all.toArray bG:=(ready_iff bG X i).2 ⟨all[i],aa8 hi,hl,λe he hb=>ih e.on (U i all[i] (aa8 hi) e he hb) (by have:=U i all[i] (aa8 hi) e he hb;omega)⟩
     rw[b3] at this;simp at this
  have finish:∀bG I w',Inv bG I w'->(∀i,i<all.length->bG.getD i false=true) ->
    ∃Y μ',tT n Y μ' F T' h' I w'/\Ext Z μ w h.length Y μ' w'/\(∀id,id<h.length∨h'.length<=id->μ' id=μ id):=by
   rintro bG I w' ⟨Y,μ',H,hd,X,cI,hr,b4,b5,cN,hex,b7,O⟩ ae
   refine⟨Y,μ',⟨hd,X,λt=>?_,hr.congr λid s=>?_⟩,hex,b7⟩
   .obtain⟨G,B,hv,hw⟩:=cI t
    have:=CU (t:=t) hT rfl G all.length B (abg _) (λk o h1 y N h4=>by
     have:=(hw k o N h4).1 (ae k y);omega)
    rw[<-ei,this];exact hv
   .unfold cat
    rcases b4 id s with ⟨G,B,hl,hH,hw⟩ | ⟨hl,hH⟩
    .have:=W G all.length id B (abg _) hl (λk r h1 y N h4=>by
      have:=(hw k r N h4).1 (ae k y);omega)
     have ft:id<h'.length:=by rw[<-a1];exact abK hl (f _ _ B (abg _))
     rw[abb ft,hH,<-this,a1]
    .rw[aa9 (by omega),hH]
  intro fuel
  induction fuel with
  | zero =>
   intro bG I w' hinv ej
   have O:bG.size=all.length:=by obtain⟨_,_,_,_,_,_,_,_,_,_,_,_,O⟩:=hinv;exact O
   have ae:∀i,i<all.length->bG.getD i false=true:=by
    intro i hi
    have h0:(List.range all.length).countP (λi=>!bG.getD i false)=0:=by omega
    rw[List.countP_eq_zero] at h0
    have:=h0 i (by simpa using hi)
    simpa using this
   refine⟨?_,rfl,finish bG I w' hinv ae⟩
   apply List.eq_nil_iff_forall_not_mem.2
   intro i hi
   obtain⟨o,R,h1,_⟩:=(ready_iff bG O i).1 hi
   rw[ae i (cC i o R)] at h1;simp at h1
  | succ fuel ih =>
   intro bG I w' hinv ej
   have O:bG.size=all.length:=by obtain⟨_,_,_,_,_,_,_,_,_,_,_,_,O⟩:=hinv;exact O
   refine⟨λb3=>⟨rfl,finish bG I w' hinv (b2 bG O b3)⟩,λi hi=>?_⟩
   obtain⟨o,R,eH,b8⟩:=(ready_iff bG O i).1 hi
   have K:=cC i o R
   obtain⟨_,r,_,C⟩:=J i K
   obtain⟨b9,ca,_,e0,e1⟩:=E i o r R C
   obtain⟨Y,μ',H,hd,X,cI,hr,b4,b5,cN,hex,b7,_⟩:=hinv
   have a8:¬ (bG.getD i false=true):=by rw[eH];simp
   have before:∀j,ordered (gT all []) j i=true->bG.getD j false=true:=λj hj=>KU U cN R b8 hj
   have behind:∀k ok,all[k]?=some ok->ordered (gT all []) i k=true->bG.getD k false=true->False:=λk ok hk c S=>a8 (AP (L:=λk=>bG.getD k false=true) U cN k ok i hk S c)
   have slot:∀t,t∈qB all o->aD Y μ' w'.heap (Ts i t) (I.tmps.getD t undef):=by
    intro t cb
    obtain⟨G,B,hv,hw⟩:=cI t
    rcases Nat.le_total G i with a6 | a6
    .have:=CU (t:=t) hT rfl G i a6 (by omega) (λk ok h1 y N h4=>by
      have al:=(hw k ok N h4).1
      cases c:ordered (gT all []) k i with
      | true=>have:=al (before k c);omega
      | false=>exact(V k i ok o y N R c).1 t h4 cb)
     rw[this];exact hv
    .have:=CU (t:=t) hT rfl i G a6 B (λk ok h1 y N h4=>by
      have al:=(hw k ok N h4).2 y
      rcases Nat.eq_or_lt_of_le h1 with u | u
      .subst u;exact a8 al
      .cases c:ordered (gT all []) i k with
       | true=>exact behind k ok N c al
       | false=>exact(V i k o ok u R N c).2 t h4 cb)
     rw[<-this];exact hv
   obtain⟨cc,e2,c3⟩:=hc i
   have cf:∀id,id<(v i).length->μ' id≠none->(∀k z,A[k]?=some z->k≠i->id∈z.wr->(bG.getD k false=true↔k<i))->H id=(v i).view id:=by
    intro id s hm hk
    rcases b4 id hm with ⟨G,B,hl,hH,hw⟩ | ⟨hl,_⟩
    .rw[hH]
     rcases Nat.le_total G i with a6 | a6
     .exact(W G i id a6 (by omega) hl (λk z h1 y N h4=>by
       have:=(hw k z N h4).1 ((hk k z N (by omega) h4).2 y);omega)).symm
     .exact W i G id a6 B s (λk z h1 y N h4=>by
       have al:=(hw k z N h4).2 y
       rcases Nat.eq_or_lt_of_le h1 with u | u
       .subst u;exact a8 al
       .have:=(hk k z N (by omega) h4).1 al;omega)
    .have:(v i).length<=h'.length:=by rw[<-a1];exact f _ _ (by omega) (abg _)
     omega
   have place:∀id,(id∈r.rd∨id∈r.wr∨r.call=true)->∀k z,A[k]?=some z->k≠i->id∈z.wr->(cc=some k->bG.getD k false=false)->(bG.getD k false=true↔k<i):=by
    intro id s k z hk a7 hw e3
    have fv:id∈r.wr->r.call=false->id∈r.rd:=λh1 y=>(AF b9 h1).2 y
    have ch:id∈r.rd∨r.call=true:=by
     rcases s with h1 | h1 | h1
     .exact .inl h1
     .cases e4:r.call with
      | true=>exact .inr rfl
      | false=>exact .inl (fv h1 e4)
     .exact .inr h1
    have cj:z.wr≠[]:=λe=>by rw[e] at hw;simp at hw
    obtain⟨ok,_,ck,_⟩:=J k (by have:=ng hk;omega)
    rcases Nat.lt_or_gt_of_ne a7 with bd | bd
    .refine⟨λ_=>bd,λ_=>?_⟩
     cases c:ordered (gT all []) k i with
     | true=>exact before k c
     | false =>
      obtain⟨tk,fx,fy⟩:=hc k
      by_cases e5:tk=some i
      .exact absurd (fy i z r ok e5 hk C ck).2.wr cj
      .have nc:=fx i z r bd hk C c e5
       rcases ch with h1 | h1
       .exact absurd h1 (nc.ZV id hw)
       .exact absurd (nc.call2 h1) cj
    .refine⟨λS=>?_,λh6=>by omega⟩
     exfalso
     cases c:ordered (gT all []) i k with
     | true=>exact behind k ok ck c S
     | false =>
      by_cases et:cc=some k
      .rw[e3 et] at S;simp at S
      .have nc:=e2 k r z bd C hk c et
       rcases ch with h1 | h1
       .exact absurd h1 (nc.YW id hw)
       .exact absurd (nc.ZH h1) cj
   have closing:∀x w1 Z1 an,aD Z1 an w1.heap (vs i) x->eQ Z1 an w1.heap (kr H (v i) (v (i+1)) r.wr)->Ext Y μ' w' (v i).length Z1 an w1->(∀id,id<(v i).length∨(v (i+1)).length<=id->an id=μ' id) ->
     wpAny P .any all.toArray (λe' I w'=>e'=.normal/\∃Y μ',tT n Y μ' F T' h' I w'/\Ext Z μ w h.length Y μ' w'/\(∀id,id<h.length∨h'.length<=id->μ' id=μ id)) fuel (bG.setIfInBounds i true) (I.put o.dst x) w1:=by
    intro x w1 Z1 an c4 da bl M
    have Q:∀k,(bG.setIfInBounds i true).getD k false=if k=i then true else bG.getD k false:=by
     intro k
     simp only[abm,acp]
     by_cases e:i=k
     .subst e;rw[abb rfl,abb rfl,abb (by omega)];rfl
     .rw[aa9 e,aa9 (λq=>e q.symm)]
    have e6:(bG.setIfInBounds i true).size=all.length:=by simpa using O
    refine ih _ _ _ ⟨Z1,an,kr H (v i) (v (i+1)) r.wr,?_,?_,?_,da,?_,?_,?_,?_,?_,e6⟩ ?_
    .unfold Act.put;split<;>exact hd
    .unfold Act.put;split<;>simp[X]
    .intro t
     by_cases cu:o.dst=some t
     .refine⟨i+1,K,?_,λk ok hk br=>?_⟩
      .rw[hT i o R,cu]
       have e7:t<I.tmps.size:=by unfold uP at ca;rw[cu] at ca;rw[X];simpa using ca
       simp only[Env.put,Act.put,if_true,abm,acp,e7,abp]
       exact c4
      .rw[Q]
       by_cases e:k=i
       .subst e;simp
       .rw[aa9 e]
        have cb:t∈qB all o:=by simp[qB,cu]
        rcases Nat.lt_or_gt_of_ne e with u | u
        .cases c:ordered (gT all []) k i with
         | true=>exact⟨λ_=>by omega,λ_=>before k c⟩
         | false=>exact absurd cb ((V k i ok o u hk R c).1 t br)
        .cases c:ordered (gT all []) i k with
         | true=>exact⟨λS=>(behind k ok hk c S).elim,λh6=>by omega⟩
         | false=>exact absurd cb ((V i k o ok u R hk c).2 t br)
     .obtain⟨G,B,hv,hw⟩:=cI t
      refine⟨G,B,?_,λk ok hk br=>?_⟩
      .have:(I.put o.dst x).tmps.getD t undef=I.tmps.getD t undef:=by
        unfold Act.put
        split
        .rename_i d db
         simp only[abm,acp]
         rw[aa9 (λe=>cu (by rw[db,e]))]
        .rfl
       rw[this];exact hv.mono bl.mono
      .rw[Q,aa9 (λe=>by subst e;rw[R] at hk;simp at hk;subst hk;exact cu br)]
       exact hw k ok hk br
    .intro id dc
     unfold kr
     by_cases bs:id∈r.wr∨((v i).length<=id/\id<(v (i+1)).length)
     .left
      have aq:id<(v (i+1)).length:=by
       rcases bs with u | u
       .exact abK (AF b9 u).1 (bx i K)
       .exact u.2
      refine⟨i+1,K,aq,by rw[abb bs],λk z hk D=>?_⟩
      rw[Q]
      by_cases e:k=i
      .subst e;simp
      .rw[aa9 e]
       obtain⟨ok,_,ck,_⟩:=J k (by have:=ng hk;omega)
       rcases bs with u | u
       .have hp:=place id (.inr (.inl u)) k z hk e D (λet=>by
         have:=(c3 k r z o et C hk R).2.wr
         rw[this] at u;simp at u)
        exact⟨λS=>by have:=hp.1 S;omega,λh7=>hp.2 (by omega)⟩
       .obtain⟨cv,_⟩:=E k ok z ck hk
        have al:=(AF cv D).1
        have fz:i<k:=by
         rcases abH i k with h6 | h6
         .exact h6
         .have:=f k i h6 (by omega);omega
        refine⟨λS=>?_,λh7=>by omega⟩
        exfalso
        cases c:ordered (gT all []) i k with
        | true=>exact behind k ok ck c S
        | false =>
         by_cases et:cc=some k
         .have:=(c3 k r z o et C hk R).2.len
          omega
         .exact(e2 k r z fz C hk c et).new id D (by rw[e0,e1];exact u)
     .rw[aa9 bs]
      have dj:μ' id≠none:=by
       rw[<-M id ?_]
       .exact dc
       .rcases abH id (v i).length with h6 | h6
        .exact .inl h6
        .right
         rcases abH id (v (i+1)).length with h7 | h7
         .exact absurd (.inr ⟨h6,h7⟩) bs
         .exact h7
      rcases b4 id dj with ⟨G,B,hl,hH,hw⟩ | u
      .refine .inl ⟨G,B,hl,hH,λk z hk D=>?_⟩
       rw[Q,aa9 (λe=>by subst e;rw[C] at hk;simp at hk;subst hk;exact bs (.inl D))]
       exact hw k z hk D
      .exact .inr u
    .intro k id hk h1 y dc
     rw[Q]
     by_cases e:k=i
     .rw[abb e]
     .rw[aa9 e]
      refine b5 k id hk h1 y ?_
      rw[<-M id ?_]
      .exact dc
      .rcases Nat.lt_or_gt_of_ne e with h6 | h6
       .left;exact abK y (f _ _ h6 (by omega))
       .right;exact abZ (f _ _ h6 (by omega)) h1
    .intro k ok hk S e he hb
     rw[Q] at S ⊢
     by_cases ek:k=i
     .subst ek
      rw[R] at hk;simp at hk;subst hk
      split
      .rfl
      .exact b8 e he hb
     .rw[aa9 ek] at S
      split
      .rfl
      .exact cN k ok hk S e he hb
    .refine hex.trans bl ?_ ab.hr.lt
     rw[<-ar];exact f _ _ (aco _) (by omega)
    .intro id s
     rw[M id,b7 id s]
     rcases s with u | u
     .left;rw[<-ar] at u;exact abK u (f _ _ (aco _) (by omega))
     .right;rw[<-a1] at u;exact abZ (f _ _ K (abg _)) u
    .have:(List.range all.length).countP (λk=>!(bG.setIfInBounds i true).getD k false)<(List.range all.length).countP (λk=>!bG.getD k false):=by
      have gen:∀(l:List Nat),i∈l->l.Nodup->l.countP (λk=>!(bG.setIfInBounds i true).getD k false)<l.countP (λk=>!bG.getD k false):=by
       intro l
       induction l with
       | nil=>intro h;simp at h
       | cons x l ga =>
        intro e8 dm
        simp only[acd] at dm
        by_cases e:x=i
        .subst e
         have ds:l.countP (λk=>!(bG.setIfInBounds x true).getD k false)=l.countP (λk=>!bG.getD k false):=by
          apply List.countP_congr
          intro k hk
          have gd:k≠x:=λq=>dm.1 (by rw[<-q];exact hk)
          rw[Q,aa9 gd]
         have h1:(bG.setIfInBounds x true).getD x false=true:=by rw[Q,abb rfl]
         rw[List.countP_cons,List.countP_cons,ds,h1,eH]
         simp
        .have dv:i∈l:=by
          rcases abw.1 e8 with u | u
          .exact absurd u.symm e
          .exact u
         have:=ga dv dm.2
         simp only[List.countP_cons,Q,aa9 e]
         simp only[Q] at this
         omega
      exact gen _ (by simpa using K) List.nodup_range
     omega
   have bn:∀j want d,o.guard=some (j,want)->(all[j]?).bind (·.dst)=some d->aD Y μ' w'.heap (Ts i d) (I.tmps.getD d undef):=λj want d hg db=>slot d (by
    simp only[qB,abq];right;rw[hg];simp[db])
   have cV:=Ns (o:=o) λt gk=>slot t (by
    simp only[qB,abq];left;right;exact gk)
   by_cases e9:∃k0,cc=some k0/\bG.getD k0 false=true
   .obtain⟨k0,ea,fb⟩:=e9
    have gr:k0<all.length:=by
     rcases abH k0 all.length with u | u
     .exact u
     .simp[Array.getElem?_eq_none (show bG.size<=k0 by omega)] at fb
    obtain⟨_,b,_,hb⟩:=J k0 gr
    obtain⟨hh,hB⟩:=c3 k0 r b o ea C hb R
    let g:Heap:=(List.range (v i).length).map λid=>if id∈b.wr then (v (k0+1)).view id else (v i).view id
    have ff:∀id,id<(v i).length->Heap.view g id=if id∈b.wr then (v (k0+1)).view id else (v i).view id:=by
     intro id s
     simp only[g,Heap.view,aa7,aba,acG s,abk,abp]
    have hlen:(v (i+1)).length=(v i).length:=by rw[<-e1,<-e0,hB.len]
    have cA:List.length g=(v i).length:=by simp only[g,abc,List.length_range]
    have cv:=hB.step g cA ff
    have ha:kr H g g []=kr H (v i) (v (i+1)) r.wr:=by
     funext id
     unfold kr
     rw[aa9 (by
            rintro (h1 | h1); · simp at h1
            .omega),aa9 (by
              rw[hB.wr];rintro (h1 | h1); · simp at h1
              .omega)]
    refine CH rfl (by simpa using R) cv X bn cV hr (λid s hm=>?_) (λh1=>by simp at h1) (λid h1 y=>by omega) (λx w1 Z1 an c4 da bl M=>closing x w1 Z1 an c4 (by rw[<-ha];exact da) (by rw[<-cA];exact bl) (λid s=>M id (by
     rw[cA];omega)))
    have aq:=EU b9 s
    rw[ff id aq]
    by_cases cS:id∈b.wr
    .rw[abb cS]
     rcases b4 id hm with ⟨G,B,hl,hH,hw⟩ | ⟨hl,_⟩
     .have hf:=(hw k0 b hb cS).1 fb
      rw[hH]
      refine W (k0+1) G id hf B (abK aq (f _ _ (by omega) (by omega))) (λk z h1 y N h4=>?_)
      have S:=(hw k z N h4).2 y
      have:=(place id (.inl s) k z N (by omega) h4 (λe=>by rw[ea] at e;simp at e;omega)).1 S
      omega
     .have:(v i).length<=h'.length:=by rw[<-a1];exact f _ _ (by omega) (abg _)
      omega
    .rw[aa9 cS]
     refine cf id aq hm λk z hk a7 D=>place id (.inl s) k z hk a7 D λe=>?_
     rw[ea] at e;simp at e;subst e
     rw[hb] at hk;simp at hk;subst hk
     exact absurd D cS
   .have b0:∀k,cc=some k->bG.getD k false=false:=λk e=>by
     cases hl:bG.getD k false with
     | false=>rfl
     | true=>exact absurd ⟨k,e,hl⟩ e9
    refine CH rfl (by simpa using R) b9 X bn cV hr (λid s hm=>cf id (EU b9 s) hm λk z hk a7 D=>place id (.inl s) k z hk a7 D (b0 k))
     (λeb id s hm=>cf id s hm λk z hk a7 D=>place id (.inr (.inr eb)) k z hk a7 D (b0 k)) (λid h1 y=>?_) closing
    apply acF
    intro dj
    exact a8 (b5 i id K h1 y dj)
 have ee:Inv (Array.replicate all.length false) a { w with drawn:=w.drawn+1 }:=by
  refine⟨Z,μ,cat h F,ab.defers,ab.size,λt=>⟨0,aco _,by rw[eg];exact ab.tm t,λk o hk br=>?_⟩,ab.hr,λid ef=>?_,λk id hk h1 y ef=>?_,λk o hk S=>?_,?_,λ_ _=>rfl,by simp⟩
  .have:(Array.replicate all.length false).getD k false=false:=by
    simp only[abm,Array.getElem?_replicate];split<;>rfl
   rw[this];simp
  .unfold cat
   by_cases hl:id<h.length
   .left
    refine⟨0,aco _,by rw[ar];exact hl,by rw[abb hl,ar],λk r hk D=>?_⟩
    have:(Array.replicate all.length false).getD k false=false:=by
     simp only[abm,Array.getElem?_replicate];split<;>rfl
    rw[this];simp
   .rw[aa9 hl]
    rcases abH id h'.length with u | u
    .exact absurd (b1 id (by omega) u) ef
    .exact .inr ⟨u,rfl⟩
  .exfalso
   refine ef (b1 id ?_ ?_)
   .rw[<-ar];exact abZ (f _ _ (aco _) (by omega)) h1
   .rw[<-a1];exact abK y (f _ _ hk (abg _))
  .have:(Array.replicate all.length false).getD k false=false:=by
    simp only[abm,Array.getElem?_replicate];split<;>rfl
   rw[this] at S;simp at S
  .exact⟨⟨rfl,rfl,rfl,abg _⟩,iQ.refl _ _ _,λ_ _ _=>rfl,λ_ h=>.inl h,λ_ _ _ _ h=>.inl h⟩
 have:=key all.length _ _ _ ee (by
  have:=List.countP_le_length (p:=λi=>!(Array.replicate all.length false).getD i false) (l:=List.range all.length)
  simpa using this)
 simpa using this
theorem Bk (hm:P.follows .mixedOrders=true) {id:Nat} {T b:Env} {h c:Heap} {a:List Rec} (d:Tr P n all all T h a b c) (e:oB all=true) (f:yi all a):
 dB P n (.region id all.toArray true) T h .normal b c:=zT hm d e f.ZX
end
section
variable {P:Program} {n:Nat}
theorem tT.eval {Z:Nat->Prop} {μ:Mu} {F:View} {T:Env} {h:Heap} {a:Act} {w:World} (s:tT n Z μ F T h a w) (x:Operand):aD Z μ w.heap (ev T x) (a.eval x):=by
 cases x with
 | tmp t=>exact s.tm t
 | const v=>exact iD v
 | global g=>exact .any _
 | func f=>exact .fn f [] [] #[] #[] rfl rfl (λi hi=>by simp at hi) (λi hi=>by simp at hi)
theorem Kt {all:List Oper} {id:Nat} {T N:Env} {h B:Heap} {f:List Rec} (tr:Tr P n all all T h f N B):dB P n (.region id all.toArray false) T h .normal N B:=by
 obtain⟨ab,Ts,y,vs,O,z,Q,G,g⟩:=Jy all T h f N B tr
 have C:∀i,i<all.length->∃o r,all[i]?=some o/\f[i]?=some r:=λi hi=>⟨all[i],f[i]'(by omega),aa8 hi,aa8 (by omega)⟩
 have l:∀i,i<all.length->(y i).length<=(y (i+1)).length:=λi hi=>by
  obtain⟨o,r,h1,J⟩:=C i hi
  exact wC (g i o r h1 J).1
 have c:=O4 l
 refine⟨by rw[<-z,<-G];exact c _ _ (aco _) (abg _),λZ μ F a w H D=>wp_region ?_⟩
 have key:∀k i,i+k=all.length->∀E μ' I w',tT n E μ' F (Ts i) (y i) I w'->Ext Z μ w h.length E μ' w'->(∀id,id<h.length∨B.length<=id->μ' id=μ id)->(∀id,(y i).length<=id->id<B.length->μ' id=none) ->
   wpOps P all.toArray (λe' I w'=>e'=.normal/\∃E μ',tT n E μ' F N B I w'/\Ext Z μ w h.length E μ' w'/\(∀id,id<h.length∨B.length<=id->μ' id=μ id)) (List.range' i k) I w':=by
  intro k
  induction k with
  | zero =>
   intro i hi E μ' I w' b hex m _
   obtain rfl:i=all.length:=by omega
   simp only[List.range'_zero,wpOps]
   rw[Q,G] at b
   exact⟨trivial,E,μ',b,hex,m⟩
  | succ k ih =>
   intro i hi E μ' I w' b hex m K
   obtain⟨o,r,ho,hr⟩:=C i (by omega)
   obtain⟨A,p,hT,ae,al⟩:=g i o r ho hr
   have an:=l i (by omega)
   have aq:(y (i+1)).length<=B.length:=by rw[<-G];exact c _ _ (by omega) (abg _)
   have R:h.length<=(y i).length:=by rw[<-z];exact c _ _ (aco _) (by omega)
   refine CH rfl (by simpa using ho) A b.size (λj want d _ _=>b.tm d) (λx _=>b.eval x) b.hr (λid s _=>?_) (λ_ id s _=>?_) (λid h1 J=>K id h1 (by omega)) ?_
   .unfold cat;rw[abb (EU A s)]
   .unfold cat;rw[abb s]
   .intro x w1 Z1 S U V u v
    refine ih (i+1) (by omega) Z1 S _ w1 ⟨?_,?_,λt=>?_,V.congr λid _=>?_⟩ (hex.trans u R D.hr.lt) (λid s=>?_) (λid h1 J=>?_)
    .unfold Act.put;split<;>exact b.defers
    .unfold Act.put;split<;>simp[b.size]
    .rw[hT]
     cases W:o.dst with
     | none =>
      exact(b.tm t).mono u.mono
     | some d =>
      have L:d<I.tmps.size:=by unfold uP at p;rw[W] at p;rw[b.size];simpa using p
      simp only[Env.put,Act.put,abm,acp]
      by_cases e:t=d
      .subst e;rw[abb rfl,abb rfl,abb L];exact U
      .rw[aa9 e,aa9 (λq=>e q.symm)]
       have:=(b.tm t).mono u.mono
       simpa only [abm] using this
    .simp only[cat,kr]
     by_cases X:id<(y (i+1)).length
     .rw[abb X]
      split
      .rfl
      .rename_i hn
       have M:id<(y i).length:=by
        rcases abH id (y i).length with Y | Y
        .exact Y
        .exact absurd (.inr ⟨Y,X⟩) hn
       rw[abb M,uG A M (λq=>hn (.inl q))]
     .rw[aa9 X,aa9,aa9 (by omega)]
      rintro (M | M)
      .have:=(AF A M).1;omega
      .omega
    .rw[v id (by omega),m id s]
    .rw[v id (by omega)];exact K id (by omega) J
 have:=key all.length 0 (by omega) Z μ a w (by rw[O,z];exact D) (Ext.refl _ _ _ _) (λ_ _=>rfl) (λid h1 J=>H id (by rw[<-z];exact h1) J)
 rw[acw,List.range_eq_range']
 exact this
theorem dB.weaken {c:Code} {T q:Env} {h j:Heap} {e:Exit} (x:dB P n c T h e q j) {Z:Nat->Prop} {μ:Mu} {F:View} {a:Act} {w:World} {r:Nat->Prop} {d:Mu} {l:World} {m:Nat}
  (f:∀id,h.length<=id->id<j.length->μ id=none) (s:tT n Z μ F T h a w) (hex:Ext r d l m Z μ w) (hm:m<=h.length) (p:∀id b o s,d id=some (b,o,s)->b<l.heap.size):
  c.wp P (λe' t w'=>e'=e/\∃k μ',tT n k μ' F q j t w'/\Ext r d l m k μ' w'/\(∀id,id<h.length∨j.length<=id->μ' id=μ id)) a w:=
 wp_mono (x.2 Z μ F a w f s) λ_ _ _ ⟨he,k,μ',u,g,i⟩=>⟨he,k,μ',u,hex.trans g hm p,i⟩
theorem dB.seq {x y:Code} {T k l:Env} {h h1 f:Heap} {e:Exit} (g:dB P n x T h .normal k h1) (i:dB P n y k h1 e l f):dB P n (.seq x y) T h e l f:=by
 refine⟨abZ g.1 i.1,λZ μ F a w b s=>wp_seq (wp_mono (g.2 Z μ F a w (λid h1 f=>b id h1 (abK f i.1)) s) ?_)⟩
 rintro e' o w' ⟨rfl,m,μ',j,hex,c⟩
 refine wp_mono (i.weaken (λid h1 f=>?_) j hex g.1 s.hr.lt) ?_
 .rw[c id (.inr h1)];exact b id (abZ g.1 h1) f
 .rintro e' o w' ⟨he,m,μ',j,hex,d⟩
  refine⟨he,m,μ',j,hex,λid p=>?_⟩
  have:=g.1
  have:=i.1
  rw[d id (by omega),c id (by omega)]
theorem dB.OY {x y:Code} {T c:Env} {h h1:Heap} {e:Exit} (d:dB P n x T h e c h1) (he:e≠.normal):dB P n (.seq x y) T h e c h1:=by
 refine⟨d.1,λZ μ F a w b s=>wp_seq (wp_mono (d.2 Z μ F a w b s) ?_)⟩
 rintro e' f w' ⟨rfl,h⟩
 cases e'<;>first | exact absurd rfl he | exact⟨rfl,h⟩
theorem dB.here {c:Code} {T:Env} {h:Heap} {e:Exit} (b:∀(Q:Exit->Act->World->Prop) a w,Q e a w->c.wp P Q a w):dB P n c T h e T h:=
 ⟨abg _,λZ μ _ a w _ s=>b _ a w ⟨rfl,Z,μ,s,Ext.refl _ _ _ _,λ_ _=>rfl⟩⟩
theorem dB.skip {T:Env} {h:Heap} : dB P n .skip T h .normal T h:=.here λ_ _ _ h=>wp_skip h
theorem dB.label {T:Env} {h:Heap} {l:Nat} : dB P n (.label l) T h .normal T h:=.here λ_ _ _ h=>wp_label h
theorem dB.exit {T:Env} {h:Heap} {id:Nat} : dB P n (.exit id) T h (.exit id) T h:=.here λ_ _ _ h=>wp_exit h
theorem dB.goto {T:Env} {h:Heap} {l:Nat} : dB P n (.goto l) T h (.goto l) T h:=.here λ_ _ _ h=>wp_goto h
theorem dB.ret {T:Env} {h:Heap} : dB P n .ret T h .ret T h:=.here λ_ _ _ h=>wp_ret h
theorem dB.cond {c:Operand} {x y:Code} {T d:Env} {h f:Heap} {e:Exit} {t:Bool} (i:ev T c=.val (.bool t)) (g:dB P n (if t then x else y) T h e d f):dB P n (.cond c x y) T h e d f:=by
 refine⟨g.1,λZ μ F a w b s=>wp_cond (t:=t) ?_ (g.2 Z μ F a w b s)⟩
 have:=s.eval c
 rw[i] at this
 exact fi this
def sy (id:Nat):Exit->Exit
 | .exit id'=>if id'=id then .normal else .exit id'
 | e=>e
theorem dB.block {id:Nat} {c:Code} {T d:Env} {h f:Heap} {e:Exit} (g:dB P n c T h e d f):dB P n (.block id c) T h (sy id e) d f:=by
 refine⟨g.1,λZ μ F a w b s=>wp_block (wp_mono (g.2 Z μ F a w b s) ?_)⟩
 rintro e' j w' ⟨rfl,h⟩
 cases e' with
 | exit i =>
  simp only[Exit.inBlock,sy]
  split
  .exact⟨rfl,h⟩
  .exact⟨rfl,h⟩
 | _=>exact⟨rfl,h⟩
theorem Dy {c:Code} {Q b:Exit->Act->World->Prop} (d:∀e a w,Q e a w->b e a w):∀(k:Nat) (a:Act) (w:World),Code.rounds P c Q k a w->Code.rounds P c b k a w
 | 0,_,_,h=>h
 | k+1,a,w,h=>by
  refine wp_mono h λe a w h=>?_
  cases e with
  | normal=>exact Dy d k a w h
  | _=>exact d _ _ _ h
def sx (P:Program) (n:Nat) (c:Code) (T:Env) (h:Heap) (e:Exit) (T':Env) (h':Heap):Prop:=
 h.length<=h'.length/\∃k,∀Z μ F a w,(∀id,h.length<=id->id<h'.length->μ id=none)->tT n Z μ F T h a w ->
  Code.rounds P c (λe' a' w'=>e'=e/\∃Z' μ',tT n Z' μ' F T' h' a' w'/\Ext Z μ w h.length Z' μ' w'/\(∀id,id<h.length∨h'.length<=id->μ' id=μ id)) k a w
theorem sx.out {c:Code} {T d:Env} {h h1:Heap} {e:Exit} (f:dB P n c T h e d h1) (he:e≠.normal):sx P n c T h e d h1:=by
 refine⟨f.1,1,λZ μ F a w b s=>?_⟩
 refine wp_mono (f.2 Z μ F a w b s) ?_
 rintro e' g w' ⟨rfl,h⟩
 cases e'<;>first | exact absurd rfl he | exact⟨rfl,h⟩
theorem sx.step {c:Code} {T r t:Env} {h h1 g:Heap} {e:Exit} (i:dB P n c T h .normal r h1) (m:sx P n c r h1 e t g):sx P n c T h e t g:=by
 obtain⟨j,k,m⟩:=m
 refine⟨abZ i.1 j,k+1,λZ μ F a w b s=>?_⟩
 refine wp_mono (i.2 Z μ F a w (λid h1 g=>b id h1 (abK g j)) s) ?_
 rintro e' o w' ⟨rfl,p,μ',q,hex,d⟩
 refine Dy ?_ k o w' (m p μ' F o w' (λid h1 g=>?_) q)
 .rintro e' o w' ⟨he,p,μ',q,l,f⟩
  refine⟨he,p,μ',q,hex.trans l i.1 s.hr.lt,λid u=>?_⟩
  have:=i.1
  rw[f id (by omega),d id (by omega)]
 .rw[d id (.inr h1)];exact b id (abZ i.1 h1) g
theorem dB.loop {c:Code} {T d:Env} {h f:Heap} {e:Exit} (g:sx P n c T h e d f):dB P n (.loop c) T h e d f:=by
 obtain⟨h1,k,i⟩:=g
 exact⟨h1,λZ μ F a w b s=>wp_loop_rounds k (i Z μ F a w b s)⟩
def jumps (P:Program) (c:Code) (Q:Exit->Act->World->Prop):Nat->Code->Act->World->Prop
 | 0,_,_,_=>False
 | k+1,x,a,w=>x.wp P (λe a w=>match e with
  | .goto l=>(match findLabel c l with
   | some rest=>jumps P c Q k rest a w
   | none=>Q (.goto l) a w)
  | e=>Q e a w) a w
theorem Va {c:Code} {Q:Exit->Act->World->Prop} {a:Act} {w:World} (k:Nat) (h:jumps P c Q k c a w):(Code.scope c).wp P Q a w:=by
 intro b K cs
 have key:∀k x a w,jumps P c Q k x a w->∃e q w',Q e q w'/\Arrives P (lone (b.at a (.code x :: .inScope c::K)) cs w) b K cs e q w':=by
  intro k
  induction k with
  | zero=>intro x a w h;exact h.elim
  | succ k t =>
   intro x a w h
   obtain⟨e,f,g,i,d⟩:=h b (.inScope c::K) cs
   cases e with
   | normal=>exact⟨.normal,f,g,i,Steps.trans d (.one step_inScope)⟩
   | exit id=>exact⟨.exit id,f,g,i,λs hk=>d s (by simp[exitTo,hk])⟩
   | goto l =>
    simp only at i
    cases r:findLabel c l with
    | some rest =>
     rw[r] at i
     obtain⟨n,o,p,m,j⟩:=t rest f g i
     exact⟨n,o,p,m,.of_steps (d _ (by simp[gotoIn,r])) j⟩
    | none =>
     rw[r] at i
     exact⟨.goto l,f,g,i,λs hk=>d s (by simp[gotoIn,r,hk])⟩
   | ret=>exact⟨_,f,g,i,d⟩
   | panic u=>exact⟨_,f,g,i,d⟩
   | outgrown=>exact⟨_,f,g,i,d⟩
 obtain⟨e,q,w',i,d⟩:=key k c a w h
 exact⟨e,q,w',i,.of_steps (.one step_scope) d⟩
theorem GJ {c:Code} {Q f:Exit->Act->World->Prop} (b:∀e a w,Q e a w->f e a w):∀(k:Nat) (x:Code) (a:Act) (w:World),jumps P c Q k x a w->jumps P c f k x a w
 | 0,_,_,_,h=>h
 | k+1,x,a,w,h=>by
  refine wp_mono h λe a w h=>?_
  cases e with
  | goto l =>
   simp only at h ⊢
   split
   .rename_i rest d;rw[d] at h;exact GJ b k rest a w h
   .rename_i d;rw[d] at h;exact b _ _ _ h
  | _=>exact b _ _ _ h
def uN (P:Program) (n:Nat) (c x:Code) (T:Env) (h:Heap) (e:Exit) (T':Env) (h':Heap):Prop:=
 h.length<=h'.length/\∃k,∀Z μ F a w,(∀id,h.length<=id->id<h'.length->μ id=none)->tT n Z μ F T h a w ->
  jumps P c (λe' a' w'=>e'=e/\∃Z' μ',tT n Z' μ' F T' h' a' w'/\Ext Z μ w h.length Z' μ' w'/\(∀id,id<h.length∨h'.length<=id->μ' id=μ id)) k x a w
def ND (c:Code):Exit->Bool
 | .goto l=>(findLabel c l).isNone
 | _=>true
theorem uN.out {c x:Code} {T d:Env} {h h1:Heap} {e:Exit} (f:dB P n x T h e d h1) (he:ND c e=true):uN P n c x T h e d h1:=by
 refine⟨f.1,1,λZ μ F a w b s=>?_⟩
 refine wp_mono (f.2 Z μ F a w b s) ?_
 rintro e' g w' ⟨rfl,h⟩
 cases e' with
 | goto l =>
  simp only[ND,Option.isNone_iff_eq_none] at he
  simp only[he];exact⟨trivial,h⟩
 | _=>exact⟨rfl,h⟩
theorem uN.jump {c x rest:Code} {T t u:Env} {h h1 g:Heap} {e:Exit} {l:Nat} (i:dB P n x T h (.goto l) t h1) (v:findLabel c l=some rest) (o:uN P n c rest t h1 e u g):uN P n c x T h e u g:=by
 obtain⟨j,k,o⟩:=o
 refine⟨abZ i.1 j,k+1,λZ μ F a w b s=>?_⟩
 refine wp_mono (i.2 Z μ F a w (λid h1 g=>b id h1 (abK g j)) s) ?_
 rintro e' p w' ⟨rfl,q,μ',r,hex,d⟩
 simp only[v]
 refine GJ ?_ k rest p w' (o q μ' F p w' (λid h1 g=>?_) r)
 .rintro e' p w' ⟨he,q,μ',r,m,f⟩
  refine⟨he,q,μ',r,hex.trans m i.1 s.hr.lt,λid y=>?_⟩
  have:=i.1
  rw[f id (by omega),d id (by omega)]
 .rw[d id (.inr h1)];exact b id (abZ i.1 h1) g
theorem dB.scope {c:Code} {T d:Env} {h f:Heap} {e:Exit} (g:uN P n c c T h e d f):dB P n (.scope c) T h e d f:=by
 obtain⟨h1,k,i⟩:=g
 exact⟨h1,λZ μ F a w b s=>Va k (i Z μ F a w b s)⟩
def mS (vs:List V):Env:=λt=>vs.getD t .any
def vJ (P:Program) (T:Env) (h:Heap):ResultVar->Option V
 | .tmp t=>some (T t)
 | .cell a t=>(oM P t (T a) h.view).map (·.1)
def nV (P:Program) (T:Env) (h:Heap):List ResultVar->Option (List V)
 | []=>some []
 | r::rest=>match vJ P T h r,nV P T h rest with
  | some v,some vs=>some (v::vs)
  | _,_=>none
def Qr (P:Program) (fn:Func) (T:Env) (h:Heap):Option V:=match nV P T h fn.results.toList with
 | some [v]=>some v
 | some vs=>some (.bc vs)
 | none=>none
theorem Oe {Z:Nat->Prop} {μ:Mu} {F:View} {T:Env} {h:Heap} {a:Act} {w:World} (s:tT n Z μ F T h a w) (f:ResultVar->Sem Value) (o:∀t,f (.tmp t)=pure (a.tmps.getD t undef))
  (q:∀p t,f (.cell p t)=(do loadVar t (<-asAddr (a.tmps.getD p undef)))):∀(l:List ResultVar) (vs:List V),nV P T h l=some vs ->
  ∃xs:List Value,(l.mapM f).run P w=.ok xs w/\gI Z μ w.heap vs xs
 | [],vs,d=>by
  simp only[nV,abd] at d;subst d
  exact⟨[],rfl,rfl,λi hi=>by simp at hi⟩
 | r::l,vs,d=>by
  simp only[nV] at d
  split at d
  .rename_i v B h1 I
   simp only[abd] at d;subst d
   obtain⟨xs,J,hr⟩:=Oe s f o q l B I
   have one:∃x,(f r).run P w=.ok x w/\aD Z μ w.heap v x:=by
    cases r with
    | tmp t =>
     simp only[vJ,abd] at h1;subst h1
     rw[o]
     exact⟨_,rfl,s.tm t⟩
    | cell p t =>
     simp only[vJ,abj] at h1
     obtain⟨⟨v',eff,rd⟩,c,rfl⟩:=h1
     have hp:=s.tm p
     rw[q]
     unfold oM at c
     split at c
     .rename_i id i j C
      rw[C] at hp
      obtain⟨b,o0,sz,hm,g⟩:=pj hp
      split at c
      .rename_i esz es hH
       split at c
       .rename_i hi
        simp only[abj,abz] at c
        obtain⟨D,k,rfl,_,_⟩:=c
        have u:=s.hr.obj id
        have z:cat h F id=.arr esz es:=by
         simp only[cat];rw[abb (fj (by rw[hH];simp)),hH]
        rw[z] at u
        obtain⟨y,E,m⟩:=xx (P:=P) (rowOf u hm hi).2 k
        exact⟨y,by rw[g];simp[asAddr,E],m⟩
       .simp at c
      .simp at c
     .rename_i e j C
      rw[C] at hp
      obtain⟨b,off,K,A,g⟩:=vC hp
      simp only[abj,abz] at c
      obtain⟨D,k,rfl,_,_⟩:=c
      obtain⟨y,E,m⟩:=xx (P:=P) A k
      exact⟨y,by rw[g];simp[asAddr,E],m⟩
     .simp at c
   obtain⟨x,G,H⟩:=one
   refine⟨x::xs,?_,⟨by simp[hr.1],λi hi=>?_⟩⟩
   .simp only[List.mapM_cons,Sem.run_bind]
    rw[G]
    simp only[Result.andThen_ok]
    rw[J]
    rfl
   .cases i with
    | zero=>exact H
    | succ i=>simpa using hr.2 i (by simpa using hi)
  .simp at d
theorem b6.OO {f:FuncId} {fn:Func} {c:Code} {vs:List V} {C:Env} {h A:Heap} {e:Exit} {r:V} (L:P.funcs[f]?=some fn) (M:fn.body=some c) (Q:vs.length<=fn.ntmps)
  (K:dB P fn.ntmps c (mS vs) h e C A) (he:e=.ret∨e=.normal) (hr:Qr P fn C A=some r):b6 P f vs h r A:=by
 refine⟨K.1,λZ μ F w xs j D l=>calls_of_wp L M ?_⟩
 have m:(xs.toArray++Array.replicate (fn.ntmps-xs.toArray.size) undef).size=fn.ntmps:=by
  have:=j.1;simp;omega
 have q:tT fn.ntmps Z μ F (mS vs) h { tmps:=xs.toArray++Array.replicate (fn.ntmps-xs.toArray.size) undef,defers:=[] } w:=by
  refine⟨rfl,m,λt=>?_,D⟩
  unfold mS
  by_cases E:t<vs.length
  .have:=j.2 t E
   have G:t<xs.length:=j.1▸E
   have g:(xs.toArray++Array.replicate (fn.ntmps-xs.toArray.size) undef).getD t undef=xs.getD t undef:=by
    rw[abm,ab4 (by simpa using G)]
    simp
   rw[g];exact this
  .have:vs.getD t .any=.any:=by simp[abL (Nat.le_of_not_lt E)]
   rw[this];exact .any _
 refine wp_mono (K.2 Z μ F _ w l q) ?_
 rintro e' o w' ⟨rfl,B,μ',s,hex,k⟩
 have u:∃x,(results fn o.tmps).run P w'=.ok x w'/\aD B μ' w'.heap r x:=by
  unfold Qr at hr
  have go:∀d,nV P C A fn.results.toList=some d->(match d with | [v]=>some v | vs=>some (.bc vs))=some r->∃x,(results fn o.tmps).run P w'=.ok x w'/\aD B μ' w'.heap r x:=by
   intro d h1 g
   unfold results
   obtain⟨n,H,b⟩:=Oe s (fun
     | .tmp t=>pure (o.tmps.getD t undef)
     | .cell p t=>do loadVar t (<-asAddr (o.tmps.getD p undef))) (λ_=>rfl) (λ_ _=>rfl) _ _ h1
   rw[Array.mapM_eq_mapM_toList]
   simp only[Sem.run_bind,Sem.run_map]
   show ∃x,(((((fn.results.toList.mapM (fun
     | .tmp t=>pure (o.tmps.getD t undef)
     | .cell p t=>do loadVar t (<-asAddr (o.tmps.getD p undef)):ResultVar->Sem Value)).run P w').andThen λa w'=>.ok a.toArray w').andThen λa w'=>(pure (if h:a.size=1 then a[0] else Value.tuple a):Sem Value).run P w')=.ok x w')/\_
   rw[H]
   match d,n,b,g with
   | [v],[x],b,g =>
    simp only[abd] at g
    subst g
    exact⟨x,rfl,b.2 0 (by simp)⟩
   | [],[],b,g =>
    simp only[abd] at g
    subst g
    exact⟨.tuple #[],rfl,.bc _ _ rfl (λi hi=>by simp at hi)⟩
   | v1::v2::d,N::O::n,b,g =>
    simp only[abd] at g
    subst g
    refine⟨.tuple (N::O::n).toArray,by simp,.bc _ _ (by simpa using b.1) (λi hi=>?_)⟩
    have:=b.2 i hi
    simpa [abm,aa7] using this
   | [_],[],b,_=>exact absurd b.1 (by simp)
   | [_],_::_::_,b,_=>exact absurd b.1 (by simp)
   | [],_::_,b,_=>exact absurd b.1 (by simp)
   | _::_::_,[],b,_=>exact absurd b.1 (by simp)
   | _::_::_,[_],b,_=>exact absurd b.1 (by simp)
  split at hr
  .rename_i v I;exact go _ I hr
  .rename_i d J I
   refine go _ I ?_
   split
   .rename_i v;exact absurd rfl (J v)
   .exact hr
  .simp at hr
 obtain⟨x,y,z⟩:=u
 rcases he with rfl | rfl
 .exact⟨s.defers,x,y,x,B,μ',rfl,z,s.hr,hex,k⟩
 .exact⟨s.defers,x,y,x,B,μ',rfl,z,s.hr,hex,k⟩
end
inductive Tree:V->Prop
 | val (v:Value):Tree (.val v)
 | emp (k:Nat):Tree (.emp k)
 | eD:Tree .eD
 | aY (es:List (List V)):(∀i j,i<es.length->j<(es.getD i []).length->Tree ((es.getD i []).getD j .any))->Tree (.aY es)
 | aR (e:List V) (j:Nat):(∀k,k<e.length->Tree (e.getD k .any))->Tree (.aR e j)
 | fn (f:FuncId) (xs ys:List V):(∀i,i<xs.length->Tree (xs.getD i .any))->(∀i,i<ys.length->Tree (ys.getD i .any))->Tree (.fn f xs ys)
 | agg (cs:List V):(∀i,i<cs.length->Tree (cs.getD i .any))->Tree (.agg cs)
 | bc (cs:List V):(∀i,i<cs.length->Tree (cs.getD i .any))->Tree (.bc cs)
theorem zA {Z:Nat->Prop} {μ u:Mu} {hp:Array Obj} {v:V} {x:Value} (h:aD Z μ hp v x):Tree v->aD Z u hp v x:=by
 induction h with
 | any x=>intro t;exact .any x
 | val v w=>intro _;exact .val v w
 | emp k a h1 n=>intro _;exact .emp k a h1 n
 | eD a cap=>intro _;exact .eD a cap
 | jz a cap h1=>intro _;exact .jz a cap h1
 | aY es b off esz cap c o hle m p _ g =>
  intro t
  cases t with
  | aY _ l=>exact .aY es b off esz cap c o hle m p (λi j hi s=>g i j hi s (l i j hi (by rw[m i hi];exact s)))
 | rI id off esz a=>intro t;cases t
 | sl id off len esz b o0 cap c e f hm hle z A=>intro t;cases t
 | ptr id i j b o0 esz hm=>intro t;cases t
 | aR e j b off c o p _ g =>
  intro t
  cases t with
  | aR _ _ l=>exact .aR e j b off c o p (λk hk=>g k hk (l k hk))
 | mp id b o0 esz hm=>intro t;cases t
 | fn f xs ys d y h1 n _ _ q r =>
  intro t
  cases t with
  | fn _ _ _ t1 t2=>exact .fn f xs ys d y h1 n (λi hi=>q i hi (t1 i hi)) (λi hi=>r i hi (t2 i hi))
 | agg cs d h1 _ g =>
  intro t
  cases t with
  | agg _ l=>exact .agg cs d h1 (λi hi=>g i hi (l i hi))
 | bc cs d h1 _ g =>
  intro t
  cases t with
  | bc _ l=>exact .bc cs d h1 (λi hi=>g i hi (l i hi))
inductive Fr (h:Heap):V->V->Prop
 | tree (v:V):Tree v->Fr h v v
 | emp (k:Nat):Fr h (.emp k) (.aY [])
 | sl (id off len esz z:Nat) (es es':List (List V)):h.view id=.arr z es->off+len<=es.length->es'.length=len ->
  (∀i,i<len->(es'.getD i []).length=(es.getD (off+i) []).length) ->
  (∀i j,i<len->j<(es'.getD i []).length->Fr h ((es.getD (off+i) []).getD j .any) ((es'.getD i []).getD j .any))->Fr h (.sl id off len esz) (.aY es')
 | ptr (id i j z:Nat) (es:List (List V)) (e':List V):h.view id=.arr z es->i<es.length->e'.length=(es.getD i []).length ->
  (∀k,k<e'.length->Fr h ((es.getD i []).getD k .any) (e'.getD k .any))->Fr h (.ptr id i j) (.aR e' j)
 | agg (cs cs':List V):cs'.length=cs.length->(∀i,i<cs.length->Fr h (cs.getD i .any) (cs'.getD i .any))->Fr h (.agg cs) (.agg cs')
 | bc (cs cs':List V):cs'.length=cs.length->(∀i,i<cs.length->Fr h (cs.getD i .any) (cs'.getD i .any))->Fr h (.bc cs) (.bc cs')
theorem Gc {h:Heap} {Z:Nat->Prop} {μ u:Mu} {F:View} {hp:Array Obj} (hr:eQ Z μ hp (cat h F)) {v t:V} (fr:Fr h v t):∀ {x:Value},aD Z μ hp v x->aD (λb=>Z b∨kE μ b) u hp t x:=by
 have l:∀id,h.view id≠.dead->cat h F id=h.view id:=λid H=>by simp only[cat];rw[abb (fj H)]
 induction fr with
 | tree v I =>
  intro x d
  have h1:aD Z u hp v x:=zA d I
  exact h1.mono ⟨λ_ h=>.inl h,λ_ _=>rfl,λ_ _ h=>h,gu.refl _⟩
 | emp k=>intro x d;cases d with | emp _ a=>exact .jz a 0 (λ_=>rfl)
 | sl id off len esz z es es' hH hle hlen J _ o =>
  intro x d
  cases d with
  | rI _ _ _ a =>
   have:es'=[]:=acx.1 hlen
   subst this
   exact .jz a 0 (λ_=>rfl)
  | sl _ _ _ _ b o0 cap c e f hm G O P =>
   have g:=hr.obj id
   rw[l id (by rw[hH];simp),hH] at g
   obtain⟨rfl,_,K,L⟩:=g b o0 esz hm
   have d:∀i,∃ci:Nat->Value,∀j,j<esz->i<len->cellAt hp b (o0+off*esz+i*esz+j)=some (ci j)/\aD Z μ hp ((es.getD (off+i) []).getD j .any) (ci j):=by
    intro i
    by_cases hi:i<len
    .obtain⟨ci,A⟩:=qx (n:=esz) (p:=λj x=>cellAt hp b (o0+off*esz+i*esz+j)=some x/\aD Z μ hp ((es.getD (off+i) []).getD j .any) x) (λj m=>by
      obtain⟨x,d,B⟩:=L (off+i) j (by omega) m
      rw[abR,<-abP] at d
      exact⟨x,d,B⟩)
     exact⟨ci,λj m _=>A j m⟩
    .exact⟨λ_=>undef,λj _ h=>absurd h hi⟩
   obtain⟨M,q⟩:=Classical.axiomOfChoice d
   have r:∀i,i<es'.length->(es'.getD i []).length=esz:=λi hi=>by rw[J i (by omega)];exact K _ (by omega)
   have:=aD.aY (Z:=λb=>Z b∨kE μ b) (μ:=u) (hp:=hp) es' b (o0+off*esz) esz cap M (.inr ⟨id,o0,esz,hm⟩) (by omega) r
    (λi j hi m=>(q i j m (by omega)).1) (λi j hi m=>o i j (by omega) (by rw[r i hi];exact m) (q i j m (by omega)).2)
   rw[hlen] at this
   exact this
 | ptr id i j z es e' hH hi hlen _ o =>
  intro x d
  obtain⟨b,o0,sz,hm,rfl⟩:=pj (w:={ (default:World) with heap:=hp }) d
  have g:=hr.obj id
  rw[l id (by rw[hH];simp),hH] at g
  obtain⟨rfl,s⟩:=rowOf (w:={ (default:World) with heap:=hp }) g hm hi
  refine C8 (w:={ (default:World) with heap:=hp }) (.inr ⟨id,o0,sz,hm⟩) (λk hk=>?_)
  obtain⟨y,N,B⟩:=s k (by omega)
  exact⟨y,N,o k hk B⟩
 | agg cs C hlen _ o =>
  intro x d
  cases d with
  | agg _ D h1 E=>exact .agg _ _ (by omega) (λi hi=>o i (by omega) (E i (by omega)))
 | bc cs C hlen _ o =>
  intro x d
  cases d with
  | bc _ D h1 E=>exact .bc _ _ (by omega) (λi hi=>o i (by omega) (E i (by omega)))
def aC (P:Program) (f:FuncId) (vs:List V) (t:V):Prop:=
 ∀Z μ (w:World) (xs:List Value),gI Z μ w.heap vs xs->(∀b,Z b->b<w.heap.size) ->
  Calls P f xs.toArray w λe w'=>∃x Z',e=.returned x/\(∀ν,aD Z' ν w'.heap t x)/\fa w w'/\(∀b,Z b->Z' b)/\(∀b,Z' b->Z b∨(w.heap.size<=b/\b<w'.heap.size))/\hU w.heap w'.heap (λ_=>False)
theorem aC.Az {P:Program} {f:FuncId} {vs:List V} {r t:V} {l:Heap} (m:∀v∈vs,Tree v) (n:b6 P f vs [] r l) (p:Fr l r t):aC P f vs t:=by
 intro Z μ w xs c q
 have d:gI Z (λ_=>none) w.heap vs xs:=⟨c.1,λi hi=>zA (c.2 i hi) (by
  simp only[aa7,aa8 hi,abp]
  exact m _ (abe _))⟩
 have g:eQ Z (λ_=>none) w.heap (cat [] λ_=>.dead):=by
  exact⟨λ_=>trivial,λi j b o s A B _ h=>by simp at h,λid b o s h=>by simp at h,q,λid b o s h=>by simp at h⟩
 refine(n.2 Z _ _ w xs d g (λ_ _ _=>rfl)).mono ?_
 rintro e w' ⟨x,u,μ',rfl,y,k,hex,_⟩
 refine⟨x,λb=>u b∨kE μ' b,rfl,λC=>Gc k p y,hex.same,λb a=>.inl (hex.mono.z b a),?_,λb a _=>hex.frame b a (by rintro⟨_,_,_,h⟩;simp at h)⟩
 rintro b (a | ⟨id,o,s,a⟩)
 .rcases hex.V5 b a with h1 | h1
  .exact .inl h1
  .exact .inr ⟨h1,k.de b a⟩
 .rcases hex.Gf _ _ _ _ a with h1 | ⟨_,h1 | ⟨_,_,_,h1⟩⟩
  .simp at h1
  .exact .inr ⟨h1,k.lt _ _ _ _ a⟩
  .simp at h1
theorem b6.hX {P:Program} {f:FuncId} {vs:List V} {t:V} (n:aC P f vs t) (h:Heap):b6 P f vs h t h:=by
 refine⟨abg _,λZ μ F w xs g hr j=>(n Z μ w xs g hr.de).mono ?_⟩
 rintro e w' ⟨x,m,rfl,p,k,q,a,i⟩
 have hm:iQ Z m μ μ w.heap w'.heap:=⟨q,λb c=>i b (hr.de b c) (λx=>x),λ_ _ h=>h,i.mE⟩
 refine⟨x,m,μ,rfl,p μ,⟨λid=>(hr.obj id).mono hm rfl (λb o s d=>i b (hr.lt _ _ _ _ d) (λx=>x)),hr.inj,λid b o s d=>abK (hr.lt _ _ _ _ d) k.size,λb c=>?_,λid b o s d l=>?_⟩,
  ⟨k,hm,λb c _=>i b c (λx=>x),λb c=>?_,λ_ _ _ _ h=>.inl h⟩,λ_ _=>rfl⟩
 .rcases a b c with h1 | h1
  .exact abK (hr.de b h1) k.size
  .exact h1.2
 .rcases a b l with h1 | h1
  .exact hr.iK _ _ _ _ d h1
  .have:=hr.lt _ _ _ _ d;omega
 .rcases a b c with h1 | h1
  .exact .inl h1
  .exact .inr h1.1
def HF (l:List Nat) (x:Nat):Bool:=!l.contains x
def Hf (a b:Rec):Bool:=
 a.wr.all (HF b.rd)&&b.wr.all (HF a.rd)&&(!a.call||b.wr.isEmpty)&&(!b.call||a.wr.isEmpty)&&b.wr.all λid=>!(decide (a.lo<=id)&&decide (id<a.hi))
section
variable {P:Program} {n:Nat}
theorem UU {a b:Rec} (h:Hf a b=true):rb a b:=by
 unfold Hf at h
 simp only[abh,abC,HF,adp,acW] at h
 obtain⟨⟨⟨⟨h1,g⟩,e⟩,f⟩,i⟩:=h
 refine⟨λid d hm=>?_,λid d hm=>?_,λc=>?_,λc=>?_,λid d hm=>?_⟩
 .have:=h1 id d;simp at this;exact this hm
 .have:=g id d;simp at this;exact this hm
 .rcases e with e | e
  .rw[c] at e;simp at e
  .simpa using e
 .rcases f with f | f
  .rw[c] at f;simp at f
  .simpa using f
 .have:=i id d
  simp at this
  omega
end
end Gv
