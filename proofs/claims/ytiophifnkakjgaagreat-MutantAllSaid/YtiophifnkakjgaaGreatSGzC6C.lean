/-
  Part 3 of the proof: what the machine does and what the functions answer.
  Conditions: those that each lemma names.
-/
import Derived.Orders
import Derived.LoopN
import Derived.Scope
import Derived.Test.YtiophifnkakjgaaGreatSGzC6B
set_option linter.unusedSimpArgs false
set_option linter.unusedVariables false
set_option maxRecDepth 100000
set_option maxHeartbeats 20000000
namespace Gv
open Go
def bp.wr:bp->List Nat
 | .none | .new _=>[]
 | .fR id _ | .eT id _=>[id]
def kx (μ:Mu) (b:Nat):Prop:=∃id o s,μ id=some (b,o,s)
structure Ext (Z:Nat->Prop) (μ:Mu) (w:World) (m:Nat) (Z':Nat->Prop) (μ':Mu) (w':World):Prop where
 same:fa w w'
 mono:iS Z Z' μ μ' w.heap w'.heap
 frame:gY w.heap w'.heap (kx μ)
 V8:∀b,Z' b->Z b∨w.heap.size<=b
 GA:∀id b o s,μ' id=some (b,o,s)->μ id=some (b,o,s)∨(m<=id/\(w.heap.size<=b∨kx μ b))
theorem Ext.refl (Z:Nat->Prop) (μ:Mu) (w:World) (m:Nat):Ext Z μ w m Z μ w:=
 ⟨fa.refl _,iS.refl _ _ _,λ_ _ _=>rfl,λ_ h=>.inl h,λ_ _ _ _ h=>.inl h⟩
theorem Ext.trans {Z l c:Nat->Prop} {μ μ' a:Mu} {w w' d:World} {m n:Nat} (h:Ext Z μ w m l μ' w') (k:Ext l μ' w' n c a d) (hm:m<=n) (q:∀id b o s,μ id=some (b,o,s)->b<w.heap.size):Ext Z μ w m c a d:=by
 have e:∀b,kx μ' b->w.heap.size<=b∨kx μ b:=by
  rintro b ⟨id,o,s,i⟩
  rcases h.GA _ _ _ _ i with h1 | ⟨_,h1 | h1⟩
  .exact .inr ⟨_,_,_,h1⟩
  .exact .inl h1
  .exact .inr h1
 refine⟨h.same.trans k.same,h.mono.trans k.mono,λb g p=>?_,λb g=>?_,λid b o s i=>?_⟩
 .rw[k.frame b (abq g h.same.size) (λj=>?_),h.frame b g p]
  rcases e b j with h1 | h1
  .omega
  .exact p h1
 .rcases k.V8 b g with h1 | h1
  .exact h.V8 b h1
  .exact .inr (abG h.same.size h1)
 .rcases k.GA _ _ _ _ i with h1 | ⟨h1,f⟩
  .exact h.GA _ _ _ _ h1
  .refine .inr ⟨by omega,?_⟩
   rcases f with f | f
   .exact .inl (abG h.same.size f)
   .exact e b f
def cat (h:Heap) (F:View):View:=λid=>if id<h.length then h.view id else F id
def bY (P:Program) (f:FuncId) (vs:List V) (h:Heap) (r:V) (h':Heap):Prop:=
 h.length<=h'.length/\∀Z μ (F:View) (w:World) (xs:List Value),gG Z μ w.heap vs xs->eS Z μ w.heap (cat h F)->(∀id,h.length<=id->id<h'.length->μ id=none) ->
  Calls P f xs.toArray w λe w'=>∃x Z' μ',e=.returned x/\aD Z' μ' w'.heap r x/\eS Z' μ' w'.heap (cat h' F)/\Ext Z μ w h.length Z' μ' w'/\(∀id,id<h.length∨h'.length<=id->μ' id=μ id)
def ec (P:Program) (f:FuncId):Bool:=match P.funcs[f]? with
 | some fn=>fn.name != "runtime.NumGoroutine" && fn.body.isSome
 | none=>false
def uz (n:Nat) (o:Oper):Bool:=match o.dst with
 | some d=>d<n
 | none=>true
def dT (n:Nat) (all:List Oper) (T:Env) (o:Oper):Option Bool:=match o.guard with
 | none=>some true
 | some (j,want)=>match (all[j]?).bind (·.dst) with
  | some d=>if d<n then (match T d with
   | .val (.bool b)=>some (b==want)
   | .bb []=>some false
   | _=>none) else none
  | none=>none
inductive eC (P:Program) (n:Nat) (all:List Oper):Oper->Env->Heap->V->Heap->List Nat->List Nat->Bool->Prop
 | skip {o:Oper} {T:Env} {h:Heap} : dT n all T o=some false->eC P n all o T h (.bb []) h [] [] false
 | op {o:Oper} {T:Env} {h:Heap} {v:V} {eff:bp} {rd:List Nat} : dT n all T o=some true->cK P o T h.view h.length=some (v,eff,rd)->eC P n all o T h v (eff.apply h) rd eff.wr false
 | kO {o:Oper} {T:Env} {h:Heap} {e:TypeId} {x:Operand} : dT n all T o=some true->o.op=.box e x->(ev T x).cells.all aK=true->eC P n all o T h (.aR (ev T x).cells 0) h [] [] false
 | ic {o:Oper} {T:Env} {h:Heap} {s d e:TypeId} {x:Operand} {st:ByteArray} : dT n all T o=some true->o.op=.convert s d x->P.underlying s=some .string->P.underlying d=some (.slice e)->P.underlying e=some (.int .u8)->ev T x=.val (.string st)->eC P n all o T h (.aZ (iA st)) h [] [] false
 | call {o:Oper} {T:Env} {h h':Heap} {r:V} {f:Operand} {args:Array Operand} {ats:Array TypeId} {g:FuncId} {first cap:List V} {wr:List Nat} : dT n all T o=some true ->
  o.op=.call { callee:=.value f,args:=args,argTypes:=ats }->ev T f=.fn g first cap->ec P g=true->bY P g (first++args.toList.map (ev T)++cap) h r h' ->
  (∀id,id<h.length->¬ id∈wr->h'.view id=h.view id)->(∀id,id∈wr->id<h.length)->eC P n all o T h r h' [] wr true
theorem fg {h:Heap} {id:Nat} (a:h.view id≠.dead):id<h.length:=by
 rcases abo id h.length with h1 | h1
 .exact h1
 .exfalso;apply a;simp[Heap.view,aaP,abr h1]
theorem gM {h:Heap} {id:Nat} {o:cr} (a:id<h.length):Heap.view (h.set id o)=View.set h.view id o:=by
 funext k
 simp only[Heap.view,View.set,aaP,abI]
 by_cases e:id=k
 .subst e;simp[a]
 .rw[aaR e,aaR (λq=>e q.symm)]
theorem kY (h:Heap) (o:cr):Heap.view (h++[o])=View.set h.view h.length o:=by
 funext k
 simp only[Heap.view,View.set,aaP]
 by_cases e:k=h.length
 .subst e;simp
 .rw[aaR e]
  rcases abo k h.length with h1 | h1
  .rw[abm h1]
  .rw[abV h1,abr (by simp;omega),abr h1]
theorem k8 {h:Heap} {eff:bp} (a:∀id,id∈eff.wr->h.view id≠.dead):Heap.view (eff.apply h)=eff.view h.view h.length:=by
 cases eff with
 | none=>rfl
 | new o=>exact kY h o
 | fR id o=>exact gM (fg (a id (by simp[bp.wr])))
 | eT id o =>
  have:=fg (a id (by simp[bp.wr]))
  simp only[bp.apply,bp.view]
  rw[kY,gM this]
  simp
theorem iH (h:Heap) (eff:bp):(eff.apply h).length=h.length+(match eff with | .new _ | .eT _ _=>1 | _=>0):=by
 cases eff<;>simp[bp.apply]
theorem pb {P:Program} {o:Oper} {T:Env} {H:View} {n:Nat} {v:V} {eff:bp} {rd:List Nat} (h:cK P o T H n=some (v,eff,rd)):∀id,id∈eff.wr->H id≠.dead/\id∈rd:=by
 have b:∀ {v':V} {e:bp} {r:List Nat},e.wr=[]->some (v',e,r)=some (v,eff,rd)->∀id,id∈eff.wr->H id≠.dead/\id∈rd:=by
  intro v' e r he heq id c
  obtain⟨_,rfl,_⟩:=heq
  rw[he] at c;simp at c
 have pu:eA P o T=some (v,eff,rd)->∀id,id∈eff.wr->H id≠.dead/\id∈rd:=by
  intro h
  unfold eA at h
  split at h
  .split at h
   .split at h
    .exact b rfl h
    .simp at h
   .simp at h
  .simp at h
 have up:∀ {id:Nat} {d:cr} {v':V} {r:List Nat},H id≠.dead->id∈r->some (v',bp.fR id d,r)=some (v,eff,rd)->∀i,i∈eff.wr->H i≠.dead/\i∈rd:=by
  intro id d v' r h1 g heq i hi
  obtain⟨_,rfl,rfl⟩:=heq
  simp[bp.wr] at hi;subst hi;exact⟨h1,g⟩
 have k:∀ {id:Nat} {d:cr} {v':V} {r:List Nat},H id≠.dead->id∈r->some (v',bp.eT id d,r)=some (v,eff,rd)->∀i,i∈eff.wr->H i≠.dead/\i∈rd:=by
  intro id d v' r h1 g heq i hi
  obtain⟨_,rfl,rfl⟩:=heq
  simp[bp.wr] at hi;subst hi;exact⟨h1,g⟩
 have j:∀ {cs:List V},nP cs n=some (v,eff,rd)->∀id,id∈eff.wr->H id≠.dead/\id∈rd:=by
  intro cs h
  unfold nP at h
  split at h
  .exact b rfl h
  .simp at h
 have mp:∀ {α:Type} {x:Option α} {f:α->V} {r:List Nat},(x.map λa=>(f a,bp.none,r))=some (v,eff,rd)->∀id,id∈eff.wr->H id≠.dead/\id∈rd:=by
  intro α x f r h
  simp only[aa0] at h
  obtain⟨a,_,h⟩:=h
  exact b rfl (abY some h)
 unfold cK at h
 split at h
 .exact b rfl h
 .exact b rfl h
 .split at h
  .exact b rfl h
  .simp at h
 .split at h
  .exact j h
  .simp at h
 .exact j h
 .unfold ye at h
  split at h
  .split at h
   .exact mp h
   .simp at h
  .simp at h
 .unfold jk at h
  repeat' (split at h)
  all_goals first | exact b rfl h | (simp at h;done)
 .unfold oM at h
  repeat' (split at h)
  all_goals first | exact mp h | (simp at h;done)
 .unfold s8 at h
  split at h
  .split at h
   .rename_i hH
    split at h
    .exact up (by rw[hH];simp) (by simp) h
    .simp at h
   .simp at h
  .simp at h
 .repeat' (split at h)
  all_goals first | exact b rfl h | (simp at h;done)
 .unfold mX at h
  repeat' (split at h)
  all_goals first | exact b rfl h | (simp at h;done)
 .unfold yg at h
  split at h
  .exact mp h
  .simp at h
 .unfold nk at h
  repeat' (split at h)
  all_goals first | exact b rfl h | (simp at h;done)
 .split at h
  .exact pu h
  .unfold vt at h
   repeat' (split at h)
   all_goals first | exact b rfl h | (simp at h;done)
 .unfold nA at h
  repeat' (split at h)
  all_goals first | exact b rfl h | (simp at h;done)
 .repeat' (split at h)
  all_goals first | exact b rfl h | (simp at h;done)
 .exact b rfl h
 .unfold fX at h
  repeat' (split at h)
  all_goals first | exact b rfl h | (simp at h;done)
 .unfold iy at h
  split at h
  .split at h
   .rename_i hH
    repeat' (split at h)
    all_goals first | exact up (by rw[hH];simp) (by simp) h | (simp at h;done)
   .simp at h
  .simp at h
 .unfold iy at h
  split at h
  .split at h
   .rename_i hH
    repeat' (split at h)
    all_goals first | exact up (by rw[hH];simp) (by simp) h | (simp at h;done)
   .simp at h
  .simp at h
 .unfold fh at h
  split at h
  .split at h
   .rename_i hH
    repeat' (split at h)
    all_goals first | exact up (by rw[hH];simp) (by simp) h | (simp at h;done)
   .simp at h
  .simp at h
 .unfold lO at h
  split at h
  .split at h
   .rename_i hH
    repeat' (split at h)
    all_goals first | exact up (by rw[hH];simp) (by simp) h | (simp at h;done)
   .simp at h
  .simp at h
 .repeat' (split at h)
  all_goals first | exact b rfl h | (simp at h;done)
 .repeat' (split at h)
  all_goals first | exact b rfl h | (simp at h;done)
 .unfold F3 at h
  split at h
  .split at h
   .rename_i hH
    split at h
    .exact up (by rw[hH];simp) (by simp) h
    .exact b rfl h
   .simp at h
  .simp at h
 .split at h
  .unfold oS at h
   split at h
   .repeat' (split at h)
    all_goals first | exact mp h | exact b rfl h | (simp at h;done)
   .repeat' (split at h)
    all_goals first | exact mp h | exact b rfl h | (simp at h;done)
   .split at h
    .split at h
     .split at h
      .rename_i hH
       exact up (by rw[hH];simp) (by simp) h
      .simp at h
     .simp at h
    .simp at h
   .simp at h
  .exact pu h
 .split at h
  .split at h
   .unfold xp at h
    repeat' (split at h)
    all_goals first | exact mp h | exact b rfl h | (simp at h;done)
   .simp at h
  .split at h
   .unfold pG at h
    split at h
    .split at h
     .simp at h
     .split at h
      .split at h
       all_goals first | exact b rfl h | (simp at h;done)
      .split at h
       .simp at h
       .split at h
        .split at h
         .exact b rfl h
         .simp at h
        .split at h
         .rename_i hH
          split at h
          .exact k (by rw[hH];simp) (by simp) h
          .simp at h
         .simp at h
        .simp at h
    .simp at h
   .split at h
    .unfold uB at h
     split at h
     .split at h
      .split at h
       .exact b rfl h
       .split at h
        .exact b rfl h
        .simp at h
      .simp at h
     .simp at h
    .simp at h
  .split at h
   .unfold Hh at h
    split at h
    .exact b rfl h
    .simp at h
   .simp at h
  .split at h
   .unfold Aq at h
    split at h
    .split at h
     .simp at h
     .split at h
      .exact b rfl h
      .split at h
       .split at h
        .rename_i hH
         split at h
         .exact up (by rw[hH];simp) (by simp) h
         .simp at h
        .simp at h
       .simp at h
    .simp at h
   .simp at h
  .split at h
   .unfold y0 at h
    split at h
    .split at h
     .rename_i hH
      repeat' (split at h)
      all_goals first | exact up (by rw[hH];simp) (by simp) h | exact b rfl h | (simp at h;done)
     .simp at h
    .simp at h
   .simp at h
  .split at h
   .unfold x8 at h
    split at h
    .split at h
     .exact b rfl h
     .split at h
      .split at h
       .rename_i hH
        split at h
        .exact up (by rw[hH];simp) (by simp) h
        .simp at h
       .simp at h
      .simp at h
    .simp at h
   .simp at h
  .exact pu h
  .exact pu h
  .exact pu h
  .exact pu h
  .exact pu h
  .simp at h
 .split at h
  .split at h
   .exact b rfl h
   .exact b rfl h
   .simp at h
  .exact pu h
 .exact pu h
 .exact pu h
 .simp at h
section
variable {P:Program} {n:Nat} {all:List Oper} {Z:Nat->Prop} {μ:Mu} {w:World}
theorem eS.congr {H H':View} {hp:Array Obj} (h:eS Z μ hp H) (e:∀id,μ id≠none->H' id=H id):eS Z μ hp H':=by
 refine⟨λid=>?_,λi j b o s g k d hi f=>?_,h.lt,h.de,h.iK⟩
 .by_cases hm:μ id=none
  .cases hH:H' id with
   | dead=>trivial
   | arr esz es=>intro b o0 s a;rw[hm] at a;simp at a
   | map es c=>intro b o0 s a;rw[hm] at a;simp at a
   | zu s p=>intro b o0 t a;rw[hm] at a;simp at a
  .rw[e id hm];exact h.obj id
 .rw[e i (by rw[hi];simp),e j (by rw[f];simp)]
  exact h.inj i j b o s g k d hi f
def kE (H:View) (h h':Heap) (wr:List Nat):View:=λid=>if id∈wr∨(h.length<=id/\id<h'.length) then h'.view id else H id
theorem mR.ext {μ':Mu} {w':World} {eff:bp} {m:Nat} (he:mR Z μ μ' w.heap w'.heap m eff) (k:fa w w') (r:eff.fresh (μ m=none)) (de:∀b,Z b->b<w.heap.size) (iK:∀id b o s,μ id=some (b,o,s)->¬ Z b):
  Ext Z μ w m Z μ' w'/\(∀id,(∀(_:¬ (match eff with | .new _ | .eT _ _=>id=m | _=>False)),μ' id=μ id)):=by
 have hm:=he.mono r de iK
 cases eff with
 | none =>
  obtain⟨rfl,f⟩:=he
  exact⟨⟨k,hm,λb l _=>f b l (λx=>x),λ_ h=>.inl h,λ_ _ _ _ h=>.inl h⟩,λ_ _=>rfl⟩
 | new o =>
  obtain⟨b,o0,s,t,u,rfl,f,_⟩:=he
  refine⟨⟨k,hm,λb l _=>f b l (λx=>x),λ_ h=>.inl h,λid g v y d=>?_⟩,λid i=>by simp[Mu.set];intro e;exact absurd e i⟩
  by_cases e:id=m
  .subst e;simp[Mu.set] at d;exact .inr ⟨aaY _,.inl (by omega)⟩
  .simp[Mu.set,e] at d;exact .inl d
 | fR id o =>
  obtain⟨b,o0,s,a,rfl,f,_,_⟩:=he
  exact⟨⟨k,hm,λg c j=>f g c (λe=>j ⟨id,o0,s,e▸a⟩),λ_ h=>.inl h,λ_ _ _ _ h=>.inl h⟩,λ_ _=>rfl⟩
 | eT id o =>
  obtain⟨b,o0,s,rfl,_,q⟩:=he
  refine⟨⟨k,hm,?_,λ_ h=>.inl h,λn g v y d=>?_⟩,λid i=>by simp[Mu.set];intro e;exact absurd e i⟩
  .rcases q with h1 | ⟨⟨p,s1,a⟩,f,_⟩
   .exact λg c _=>h1.2.2 g c (λx=>x)
   .exact λg c j=>f g c (λe=>j ⟨id,p,s1,e▸a⟩)
  .by_cases e:n=m
   .subst e
    simp[Mu.set] at d
    obtain⟨rfl,_,_⟩:=d
    rcases q with h1 | ⟨⟨p,s1,a⟩,_,_⟩
    .exact .inr ⟨aaY _,.inl h1.1⟩
    .exact .inr ⟨aaY _,.inr ⟨id,p,s1,a⟩⟩
   .simp[Mu.set,e] at d;exact .inl d
theorem Ma {f:FuncId} {args:Array Value} (h:ec P f=true):(callFunc f args).run P w=.ok (.enter f args) w:=by
 unfold ec at h
 split at h
 .rename_i fn a
  simp only[aaZ,bne_iff_ne,ne_eq] at h
  have e:fn.body.isNone=false:=by cases b:fn.body<;>simp_all
  have c:¬ (fn.name = "runtime.NumGoroutine"):=by simpa using h.1
  have d:¬ (fn.body=none):=by cases b:fn.body<;>simp_all
  simp[callFunc,a,c,d]
 .simp at h
theorem qA {ops:Array Oper} (g:ops=all.toArray) {a:Act} (k:a.tmps.size=n) {T:Env} {o:Oper} {t:Bool} (e:dT n all T o=some t)
  (f:∀j want d,o.guard=some (j,want)->(all[j]?).bind (·.dst)=some d->aD Z μ w.heap (T d) (a.tmps.getD d undef)):Region.wanted o (yielded ops a.tmps)=t:=by
 unfold dT at e
 unfold Region.wanted
 cases i:o.guard with
 | none=>simp[i] at e;subst e;rfl
 | some p =>
  obtain⟨j,want⟩:=p
  simp only[i] at e ⊢
  cases l:(all[j]?).bind (·.dst) with
  | none=>simp[l] at e
  | some d =>
   simp only[l] at e
   split at e
   .rename_i m
    have h:=f j want d i l
    split at e
    .rename_i b r
     rw[r] at h
     have h:=fe h
     simp only[aaV] at e
     subst e
     have c:d<a.tmps.size:=k▸m
     simp only[aa4,abb c,aa8] at h
     have:yielded ops a.tmps j=some b:=by
      unfold yielded
      subst g
      simp only[abC,l,abk,abb c,h]
     rw[this]
     cases b<;>cases want<;>rfl
    .rename_i r
     rw[r] at h
     have c:d<a.tmps.size:=k▸m
     generalize q:a.tmps.getD d undef=x at h
     cases h with
     | bb _ s h1 v =>
      simp only[aaV] at e
      subst e
      have u:a.tmps[d]?=some (.tuple s):=by
       rw[abb c]
       simp only[aa4,abb c,aa8] at q
       rw[q]
      have:yielded ops a.tmps j=none:=by
       unfold yielded
       subst g
       simp only[abC,l,abk,u]
      rw[this]
      rfl
    .simp at e
   .simp at e
theorem A8 {ops:Array Oper} (B:ops=all.toArray) {i:Nat} {o:Oper} (hi:ops[i]?=some o) {T:Env} {h Y:Heap} {v:V} {rd wr:List Nat} {call:Bool} (st:eC P n all o T h v Y rd wr call) {a:Act} {H:View}
  (G:a.tmps.size=n) (m:∀j want d,o.guard=some (j,want)->(all[j]?).bind (·.dst)=some d->aD Z μ w.heap (T d) (a.tmps.getD d undef))
  (hT:∀x∈o.op.operands,aD Z μ w.heap (ev T x) (a.eval x)) (hr:eS Z μ w.heap H) (bl:∀id,id∈rd->μ id≠none->H id=h.view id)
  (I:call=true->∀id,id<h.length->μ id≠none->H id=h.view id) (J:∀id,h.length<=id->id<Y.length->μ id=none)
  {K:Act->World->Prop} {Q:Exit->Act->World->Prop}
  (hK:∀x w' Z' μ',aD Z' μ' w'.heap v x->eS Z' μ' w'.heap (kE H h Y wr)->Ext Z μ w h.length Z' μ' w'->(∀id,id<h.length∨Y.length<=id->μ' id=μ id)->K (a.put o.dst x) w'):
  wpOp P ops Q i K a w:=by
 unfold wpOp
 rw[hi]
 cases st with
 | skip O =>
  have:=qA (w:=w) B G O m
  simp only[this,abp,if_false]
  refine hK undef w Z μ (.bb _ _ rfl (λi hi=>by simp at hi)) (hr.congr λid c=>?_) (Ext.refl _ _ _ _) (λ_ _=>rfl)
  unfold kE
  rw[aaR]
  rintro (h1 | h1)
  .simp at h1
  .omega
 | op O bn =>
  rename_i eff
  have:=qA (w:=w) B G O m
  simp only[this,if_true]
  left
  have D:=pb bn
  have b4:=k8 (λid c=>(D id c).1)
  have hlen:=iH h eff
  have ab:eff.fresh (μ h.length=none):=by
   cases eff with
   | new o=>exact J _ (aaY _) (by rw[hlen];simp)
   | eT k o=>exact J _ (aaY _) (by rw[hlen];simp)
   | _=>trivial
  .have br:Ctx Z μ w.heap h.view rd h.length eff:=by
    refine⟨ab,λid c=>?_,hr.lt,hr.de,hr.iK⟩
    by_cases hm:μ id=none
    .have:=(eS.congr (H':=λk=>if k=id then h.view id else H k) hr (λk hk=>by
      split
      .rename_i e;subst e;exact absurd hm hk
      .rfl)).obj id
     simpa using this
    .rw[<-bl id c hm];exact hr.obj id
   obtain⟨nx,w',μ',t,bx,l,u⟩:=Y4 bn hT br
   have hex:=u.ext l ab hr.de hr.iK
   have L:eS Z μ' w'.heap (kE H h (eff.apply h) eff.wr):=by
    have M:∀id,id∈eff.wr->μ id≠none->H id≠.dead:=λid c hm=>by
     rw[bl id (D id c).2 hm];exact(D id c).1
    have b0:∀id o,(eff=.fR id o∨eff=.eT id o)->H id≠.dead∨μ id=none:=by
     rintro id o (rfl | rfl)
     .by_cases hm:μ id=none
      .exact .inr hm
      .exact .inl (M id (by simp[bp.wr]) hm)
     .by_cases hm:μ id=none
      .exact .inr hm
      .exact .inl (M id (by simp[bp.wr]) hm)
    have h2:eS Z μ w.heap (λk=>if μ k=none then .zu .empty 0 else H k):=hr.congr (λk hk=>by simp[hk])
    have h3:=h2.eff ab l.size u (λid o e=>by
     split
     .simp
     .rename_i hk;exact(b0 id o (.inl e)).resolve_right hk) (λid o e=>by
     split
     .simp
     .rename_i hk;exact(b0 id o (.inr e)).resolve_right hk)
    refine h3.congr (λid c=>?_)
    unfold kE
    rw[b4]
    cases eff with
    | none =>
     obtain⟨rfl,_⟩:=u
     simp only[bp.wr,bp.apply,bp.view,List.not_mem_nil,false_or]
     rw[aaR (by omega),aaR c]
    | new o =>
     obtain⟨b,o0,s,_,_,rfl,_⟩:=u
     simp only[bp.wr,bp.view,View.set,List.not_mem_nil,false_or]
     by_cases e:id=h.length
     .subst e;rw[aaT ⟨aaY _,by rw[hlen];simp⟩,aaT rfl,aaT rfl]
     .rw[aaR (by rw[hlen];simp only;omega),aaR e]
      have:μ id≠none:=by simpa [Mu.set,e] using c
      rw[aaR this]
    | fR k o =>
     obtain⟨b,o0,s,_,rfl,_⟩:=u
     simp only[bp.wr,bp.view,View.set,abN]
     by_cases e:id=k
     .subst e;rw[aaT (.inl rfl),aaT rfl,aaT rfl]
     .rw[aaR (by rw[hlen];simp only;omega),aaR e,aaR c]
    | eT k o =>
     obtain⟨b,o0,s,rfl,_⟩:=u
     simp only[bp.wr,bp.view,View.set,abN]
     by_cases e:id=h.length
     .subst e;rw[aaT (.inr ⟨aaY _,by rw[hlen];simp⟩),aaT rfl,aaT rfl]
     .by_cases e2:id=k
      .subst e2;rw[aaT (.inl rfl),aaR e,aaT rfl,aaR e,aaT rfl]
      .rw[aaR (by rw[hlen];simp only;omega),aaR e,aaR e2]
       have:μ id≠none:=by simpa [Mu.set,e] using c
       rw[aaR this]
   have C:∀id,id<h.length∨(eff.apply h).length<=id->μ' id=μ id:=by
    intro id c
    refine hex.2 id (λR=>?_)
    cases eff with
    | none=>exact R
    | new o=>simp only at R;subst R;rw[hlen] at c;simp at c;omega
    | fR k o=>exact R
    | eT k o=>simp only at R;subst R;rw[hlen] at c;simp at c;omega
   unfold Oper.wp
   rw[t]
   rcases bx with ⟨x,rfl,hv⟩ | ⟨rfl,rfl⟩
   .exact hK x w' Z μ' hv L hex.1 C
   .exact hK undef w' Z μ' (.any _) L hex.1 C
 | kO O S ae =>
  rename_i e x
  have:=qA (w:=w) B G O m
  simp only[this,if_true]
  left
  have z:=hT x (by rw[S];simp[Op.operands])
  have b1:=iz z ae
  have t:(execOp a.eval o).run P w=.ok (.value (.pointer (some ⟨w.heap.size,0,none⟩))) (w.alloc (.cells (a.eval x).cells e)):=by
   unfold execOp
   rw[S]
   simp[Instr.box,newVar,newRow]
  unfold Oper.wp
  rw[t]
  have A:gY w.heap (w.alloc (.cells (a.eval x).cells e)).heap (λ_=>False):=fM _ _
  have b2:(w.alloc (.cells (a.eval x).cells e)).heap.size=w.heap.size+1:=by rw[heap_alloc];simp
  have hm:iS Z (λb=>Z b∨b=w.heap.size) μ μ w.heap (w.alloc (.cells (a.eval x).cells e)).heap:=⟨λ_ h=>.inl h,λb r=>A b (hr.de b r) (λx=>x),λ_ _ h=>h,A.mn⟩
  have l:fa w (w.alloc (.cells (a.eval x).cells e)):=jc _ _
  have al:kE H h h []=H:=by
   funext id
   unfold kE
   rw[aaR]
   rintro (h1 | h1)
   .simp at h1
   .omega
  refine hK _ _ (λb=>Z b∨b=w.heap.size) μ ?_ (al.symm▸⟨λid=>?_,hr.inj,λid b o s z=>abq (hr.lt _ _ _ _ z) l.size,λb r=>?_,λid b o s z an=>?_⟩)
   ⟨l,hm,λb r _=>A b r (λx=>x),λb r=>?_,λ_ _ _ _ h=>.inl h⟩ (λ_ _=>rfl)
  .have:=aD.aR (Z:=λb=>Z b∨b=w.heap.size) (μ:=μ) (hp:=(w.alloc (.cells (a.eval x).cells e)).heap) (ev T x).cells 0 w.heap.size 0 (λk=>(a.eval x).cells.toList.getD k undef) (.inr rfl) (λk hk=>?_) (λk hk=>(b1.2 k hk).mono hm)
   .simpa using this
   .have aq:k<(a.eval x).cells.size:=by have:=b1.1;simp at this;omega
    simp[cellAt,heap_alloc,aaP,aq]
  .exact(hr.obj id).mono hm rfl (λb o s z=>A b (hr.lt _ _ _ _ z) (λx=>x))
  .rcases r with r | rfl
   .exact abq (hr.de b r) l.size
   .omega
  .rcases an with r | rfl
   .exact hr.iK _ _ _ _ z r
   .have:=hr.lt _ _ _ _ z;omega
  .rcases r with r | rfl
   .exact .inl r
   .exact .inr (aaY _)
 | ic O S hs hd he b5 =>
  rename_i s d e x st
  have:=qA (w:=w) B G O m
  simp only[this,if_true]
  left
  have z:=hT x (by rw[S];simp[Op.operands])
  rw[b5] at z
  have b7:=fe z
  have X:st.size<=grownCap w st.size 0 e:=by unfold grownCap Question.cut;exact Nat.le_add_right _ _
  have t:=run_bytes_of_string w s d e st hs hd he
  generalize cf:grownCap w st.size 0 e=cap at t X
  have b8:(bytesRow st cap).size=cap:=by
   simp only[bytesRow,Array.size_append,Array.size_map,Array.size_replicate]
   have:st.data.size=st.size:=rfl
   omega
  have ar:(execOp a.eval o).run P w=.ok (.value (.slice (some ⟨w.heap.size,0,none⟩) st.size cap)) (w.drew.alloc (.cells (bytesRow st cap) e (cap,cap+1))):=by
   unfold execOp
   rw[S]
   simp only[b7,Sem.run_bind,t,Result.andThen_ok,Sem.run_pure]
   rw[b8]
  unfold Oper.wp
  rw[ar]
  have E:(w.drew.alloc (.cells (bytesRow st cap) e (cap,cap+1))).heap=w.heap.push (.cells (bytesRow st cap) e (cap,cap+1)):=by rw[heap_alloc,gw]
  have A:gY w.heap (w.drew.alloc (.cells (bytesRow st cap) e (cap,cap+1))).heap (λ_=>False):=by rw[E];exact fM _ _
  have b2:(w.drew.alloc (.cells (bytesRow st cap) e (cap,cap+1))).heap.size=w.heap.size+1:=by rw[E];simp
  have hm:iS Z (λb=>Z b∨b=w.heap.size) μ μ w.heap (w.drew.alloc (.cells (bytesRow st cap) e (cap,cap+1))).heap:=⟨λ_ h=>.inl h,λb r=>A b (hr.de b r) (λx=>x),λ_ _ h=>h,A.mn⟩
  have l:fa w (w.drew.alloc (.cells (bytesRow st cap) e (cap,cap+1))):=iO _ _
  have al:kE H h h []=H:=by
   funext id
   unfold kE
   rw[aaR]
   rintro (h1 | h1)
   .simp at h1
   .omega
  refine hK _ _ (λb=>Z b∨b=w.heap.size) μ ?_ (al.symm▸⟨λid=>?_,hr.inj,λid b o s z=>abq (hr.lt _ _ _ _ z) l.size,λb r=>?_,λid b o s z an=>?_⟩)
   ⟨l,hm,λb r _=>A b r (λx=>x),λb r=>?_,λ_ _ _ _ h=>.inl h⟩ (λ_ _=>rfl)
  .have U:(iA st).length=st.size:=by rw[iA,aaU,bsize]
   have:=aD.aZ (Z:=λb=>Z b∨b=w.heap.size) (μ:=μ) (hp:=(w.drew.alloc (.cells (bytesRow st cap) e (cap,cap+1))).heap) (iA st) w.heap.size 0 1 cap (λi _=>.int .u8 ((st.data.toList.getD i 0).toNat)) (.inr rfl) (by rw[U];exact X) ?_ ?_ ?_
   .rw[U] at this;exact this
   .intro i hi
    have F:i<st.data.toList.length:=by simpa [iA] using hi
    simp only[iA,aaP,aaS,aaQ F,aa2,aa8,aa3,abn]
   .intro i j hi hj
    obtain rfl:j=0:=by omega
    have F:i<st.data.size:=by simpa [iA] using hi
    rw[E]
    simp only[cellAt,Array.getElem?_push_size,bytesRow,ac8,acp,abE]
    rw[abM (by simpa using F),Array.getElem?_map,abb F]
    simp[aaP,abb F]
   .intro i j hi hj
    obtain rfl:j=0:=by omega
    have F:i<st.data.size:=by simpa [iA] using hi
    simp only[iA,aaP,aaS,acO,abb F,aa2,aa8,abi]
    exact .val _ rfl
  .exact(hr.obj id).mono hm rfl (λb o s z=>A b (hr.lt _ _ _ _ z) (λx=>x))
  .rcases r with r | rfl
   .exact abq (hr.de b r) l.size
   .omega
  .rcases an with r | rfl
   .exact hr.iK _ _ _ _ z r
   .have:=hr.lt _ _ _ _ z;omega
  .rcases r with r | rfl
   .exact .inl r
   .exact .inr (aaY _)
 | call O S hf ae R hw b9 =>
  rename_i f args ch g first cap
  have:=qA (w:=w) B G O m
  simp only[this,if_true]
  left
  have a1:∀x∈args.toList,aD Z μ w.heap (ev T x) (a.eval x):=λx z=>hT x (by rw[S];simp[Op.operands,Call.operands];right;simpa using z)
  have a6:=hT f (by rw[S];simp[Op.operands,Call.operands])
  rw[hf] at a6
  generalize ca:a.eval f=fx at a6
  cases a6 with
  | fn _ _ _ W bs h1 h2 h3 h4 =>
   have t:(execOp a.eval o).run P w=.ok (.enter g (W++args.map a.eval++bs)) w:=by
    unfold execOp
    rw[S]
    simp only[resolve,ca,Deferred.ofValue,Sem.run_bind,Sem.run_pure,Result.andThen_ok,invoke,Ma ae]
   unfold Oper.wp
   rw[t]
   have cb:(W++args.map a.eval++bs)=(W.toList++args.toList.map a.eval++bs.toList).toArray:=by
    apply Array.ext';simp
   rw[cb]
   have a7:gG Z μ w.heap (first++args.toList.map (ev T)++cap) (W.toList++args.toList.map a.eval++bs.toList):=by
    have app:∀ {p q:List V} {x y:List Value},gG Z μ w.heap p x->gG Z μ w.heap q y->gG Z μ w.heap (p++q) (x++y):=by
     intro p q x y hp hq
     refine⟨by simp[hp.1,hq.1],λk hk=>?_⟩
     simp only[aaP]
     by_cases a8:k<p.length
     .rw[abm a8,abm (hp.1▸a8)]
      simpa only [aaP] using hp.2 k a8
     .rw[abV (by omega),abV (by rw[<-hp.1];omega),<-hp.1]
      simpa only [aaP] using hq.2 (k-p.length) (by simp at hk;omega)
    refine app (app ⟨by simpa using h1,λk hk=>?_⟩ ⟨by simp,λk hk=>?_⟩) ⟨by simpa using h2,λk hk=>?_⟩
    .simpa [aaP,aa4] using h3 k hk
    .have aq:k<args.toList.length:=by simpa using hk
     have:=a1 args.toList[k] (aaW _)
     simp only[aaP,aaS,aaQ aq,aa2,aa8]
     exact this
    .simpa [aaP,aa4] using h4 k hk
   have b3:eS Z μ w.heap (cat h H):=hr.congr (λid c=>by
    unfold cat;split
    .rename_i cc;exact(I rfl id cc c).symm
    .rfl)
   refine(R.2 Z μ H w _ a7 b3 J).mono ?_
   rintro e w' ⟨x,Z',μ',rfl,hv,hh,hex,C⟩
   refine hK x w' Z' μ' hv (hh.congr λid c=>?_) hex C
   unfold kE cat
   by_cases N:id∈wr∨(h.length<=id/\id<Y.length)
   .rw[aaT N]
    rcases N with h5 | h5
    .by_cases U:id<Y.length
     .rw[aaT U]
     .exact absurd (abq (b9 id h5) R.1) U
    .rw[aaT h5.2]
   .rw[aaR N]
    by_cases U:id<Y.length
    .rw[aaT U]
     have bd:id<h.length:=by
      rcases abo id h.length with h6 | h6
      .exact h6
      .exact absurd (.inr ⟨h6,U⟩) N
     rw[hw id bd (λq=>N (.inl q))]
     exact I rfl id bd (by rw[<-C id (.inl bd)];exact c)
    .rw[aaR U]
end
structure Rec where
 rd:List Nat
 wr:List Nat
 call:Bool
 lo:Nat
 hi:Nat
inductive Tr (P:Program) (n:Nat) (all:List Oper):List Oper->Env->Heap->List Rec->Env->Heap->Prop
 | nil {T:Env} {h:Heap} : Tr P n all [] T h [] T h
 | cons {o:Oper} {rest:List Oper} {T T':Env} {h h1 h':Heap} {v:V} {rd wr:List Nat} {call:Bool} {recs:List Rec} : eC P n all o T h v h1 rd wr call->uz n o=true ->
  Tr P n all rest (T.put o.dst v) h1 recs T' h'->Tr P n all (o::rest) T h (⟨rd,wr,call,h.length,h1.length⟩::recs) T' h'
def mask (o:Oper) (acc:List Nat):Nat:=o.after.toList.foldl (λs e=>if Region.binds .any e then s ||| 2 ^ e.on ||| acc.getD e.on 0 else s) 0
def gW:List Oper->List Nat->List Nat
 | [],acc=>acc
 | o::r,acc=>gW r (acc++[mask o acc])
def tmpsOf (o:Oper):List Nat:=o.op.operands.toList.filterMap fun | .tmp t=>some t | _=>none
def p8 (all:List Oper) (o:Oper):List Nat:=o.dst.toList++tmpsOf o++(match o.guard with
 | some (j,_)=>((all[j]?).bind (·.dst)).toList
 | none=>[])
def Pd (d:Option Nat) (l:List Nat):Bool:=match d with
 | some t=>!l.contains t
 | none=>true
def ordered (b:List Nat) (i k:Nat):Bool:=(b.getD k 0).testBit i
def ox (all:List Oper):Bool:=
 let b:=gW all []
 all.zipIdx.all λ(ok,k) =>
  (ok.after.toList.all λe=>!Region.binds .any e||decide (e.on<k)) &&
  all.zipIdx.all λ(oi,i)=>!decide (i<k)||ordered b i k||(Pd oi.dst (p8 all ok)&&Pd ok.dst (p8 all oi))
structure qx (a b:Rec):Prop where
 ZC:∀id,id∈a.wr->¬ id∈b.rd
 Ye:∀id,id∈b.wr->¬ id∈a.rd
 Za:a.call=true->b.wr=[]
 call2:b.call=true->a.wr=[]
 new:∀id,id∈b.wr->¬ (a.lo<=id/\id<a.hi)
def xF (all:List Oper) (recs:List Rec):Prop:=∀i k a b,i<k->recs[i]?=some a->recs[k]?=some b->ordered (gW all []) i k=false->qx a b
theorem IF (l:List Edge) (acc:List Nat) (s j:Nat):(l.foldl (λs e=>if Region.binds .any e then s ||| 2 ^ e.on ||| acc.getD e.on 0 else s) s).testBit j=true ->
  s.testBit j=true∨∃e∈l,Region.binds .any e=true/\(j=e.on∨(acc.getD e.on 0).testBit j=true):=by
 induction l generalizing s with
 | nil=>intro h;exact .inl h
 | cons e l c =>
  intro h
  simp only[abF] at h
  rcases c _ h with h1 | ⟨e',b,d⟩
  .by_cases a:Region.binds .any e=true
   .rw[aaT a,Nat.testBit_or,Nat.testBit_or,Nat.testBit_two_pow] at h1
    simp only[acG,aa5] at h1
    rcases h1 with (h1 | h1) | h1
    .exact .inl h1
    .exact .inr ⟨e,abX,a,.inl h1.symm⟩
    .exact .inr ⟨e,abX,a,.inr h1⟩
   .rw[aaR a] at h1;exact .inl h1
  .exact .inr ⟨e',abe _ b,d⟩
theorem DZ:∀(l:List Oper) (acc:List Nat) (k:Nat),k<acc.length->(gW l acc).getD k 0=acc.getD k 0
 | [],acc,k,_=>rfl
 | o::r,acc,k,h=>by
  rw[gW,DZ r _ k (by simp;omega)]
  simp[aaP,abm h]
theorem Hs:∀(l:List Oper) (acc:List Nat) (k:Nat) (o:Oper),l[k]?=some o->∃a,(gW l acc).getD (acc.length+k) 0=mask o a/\a.length=acc.length+k/\∀m,m<a.length->a.getD m 0=(gW l acc).getD m 0
 | [],acc,k,o,h=>by simp at h
 | p::r,acc,0,o,h=>by
  simp at h;subst h
  refine⟨acc,?_,by simp,λm hm=>?_⟩
  .rw[gW,DZ r _ _ (by simp)]
   simp[aaP]
  .rw[gW,DZ r _ _ (by simp;omega)]
   simp[aaP,abm hm]
 | p::r,acc,k+1,o,h=>by
  have b:r[k]?=some o:=by simpa using h
  obtain⟨a,h1,c,d⟩:=Hs r (acc++[mask p acc]) k o b
  refine⟨a,?_,by simp at c;omega,λm hm=>?_⟩
  .have e:(acc++[mask p acc]).length+k=acc.length+(k+1):=by simp;omega
   rw[<-e];exact h1
  .rw[gW];exact d m hm
theorem AH {all:List Oper} {L:Nat->Prop} (m:∀k o,all[k]?=some o->∀e∈o.after.toList,Region.binds .any e=true->e.on<k)
  (n:∀k o,all[k]?=some o->L k->∀e∈o.after.toList,Region.binds .any e=true->L e.on):∀k o j,all[k]?=some o->L k->ordered (gW all []) j k=true->L j:=by
 intro k
 induction k using Nat.strongRecOn with
 | _ k p =>
  intro o j hk d f
  unfold ordered at f
  obtain⟨i,h1,q,r⟩:=Hs all [] k o hk
  simp only[abn,abE] at h1 q
  rw[h1] at f
  rcases IF _ _ _ _ f with a | ⟨e,he,b,a⟩
  .simp at a
  .have g:=m k o hk e he b
   have c:=n k o hk d e he b
   rcases a with a | a
   .rw[a];exact c
   .have l:k<all.length:=by
     rcases abo k all.length with h | h
     .exact h
     .simp[abr h] at hk
    refine p e.on g _ j (aaQ (by omega)) c ?_
    unfold ordered
    rw[<-r e.on (by omega)]
    exact a
theorem K2 {all:List Oper} {L:Nat->Prop} (g:∀k o,all[k]?=some o->∀e∈o.after.toList,Region.binds .any e=true->e.on<k)
  (l:∀k o,all[k]?=some o->L k->∀e∈o.after.toList,Region.binds .any e=true->L e.on) {k:Nat} {o:Oper} (hk:all[k]?=some o) (hr:∀e∈o.after.toList,Region.binds .any e=true->L e.on)
  {j:Nat} (d:ordered (gW all []) j k=true):L j:=by
 unfold ordered at d
 obtain⟨h,h1,m,n⟩:=Hs all [] k o hk
 simp only[abn,abE] at h1 m
 rw[h1] at d
 rcases IF _ _ _ _ d with a | ⟨e,he,b,a⟩
 .simp at a
 .have p:=g k o hk e he b
  have c:=hr e he b
  rcases a with a | a
  .rw[a];exact c
  .have i:k<all.length:=by
    rcases abo k all.length with f | f
    .exact f
    .simp[abr f] at hk
   refine AH g l e.on _ j (aaQ (by omega)) c ?_
   unfold ordered
   rw[<-n e.on (by omega)]
   exact a
theorem Mz {all:List Oper} (h:ox all=true):(∀k o,all[k]?=some o->∀e∈o.after.toList,Region.binds .any e=true->e.on<k) /\
  ∀i k a ok,i<k->all[i]?=some a->all[k]?=some ok->ordered (gW all []) i k=false->(∀t,a.dst=some t->¬ t∈p8 all ok)/\(∀t,ok.dst=some t->¬ t∈p8 all a):=by
 unfold ox at h
 have mem:∀k o,all[k]?=some o->(o,k)∈all.zipIdx:=by
  intro k o hk
  rw[abO];exact hk
 refine⟨λk o hk e he f=>?_,λi k a ok b hi hk g=>?_⟩
 .have:=abj.1 h _ (mem k o hk)
  simp only[aaZ] at this
  have:=abj.1 this.1 e he
  simpa [f] using this
 .have:=abj.1 h _ (mem k ok hk)
  simp only[aaZ] at this
  have:=abj.1 this.2 _ (mem i a hi)
  simp only[b,decide_true,acU,acC,g,aaZ] at this
  have c:∀(d:Option Nat) (l:List Nat),Pd d l=true->∀t,d=some t->¬ t∈l:=by
   intro d l j t m
   subst m
   simpa [Pd] using j
  exact⟨c _ _ this.1,c _ _ this.2⟩
theorem HX {P:Program} {n:Nat} {all:List Oper}:∀(l:List Oper) (T:Env) (h:Heap) (a:List Rec) (d:Env) (e:Heap),Tr P n all l T h a d e ->
  a.length=l.length/\∃(c:Nat->Env) (b:Nat->Heap) (vs:Nat->V),c 0=T/\b 0=h/\c l.length=d/\b l.length=e /\
   ∀i o r,l[i]?=some o->a[i]?=some r->eC P n all o (c i) (b i) (vs i) (b (i+1)) r.rd r.wr r.call/\uz n o=true/\c (i+1)=(c i).put o.dst (vs i)/\r.lo=(b i).length/\r.hi=(b (i+1)).length:=by
 intro l T h a d e m
 induction m with
 | nil=>exact⟨rfl,λ_=>_,λ_=>_,λ_=>.any,rfl,rfl,rfl,rfl,λi o r h=>by simp at h⟩
 | @cons o rest T d h h1 e v rd wr call a f p _ q =>
  obtain⟨s,c,b,vs,j,k,t,u,hi⟩:=q
  refine⟨by simp[s],λi=>match i with | 0=>T | i+1=>c i,λi=>match i with | 0=>h | i+1=>b i,λi=>match i with | 0=>v | i+1=>vs i,rfl,rfl,t,u,?_⟩
  intro i w r g hr
  cases i with
  | zero =>
   simp at g hr
   subst g hr
   exact⟨by simpa only [j,k] using f,p,by simp only[j],rfl,by simp only[k]⟩
  | succ i =>
   exact hi i w r (by simpa using g) (by simpa using hr)
theorem wW {P:Program} {n:Nat} {all:List Oper} {o:Oper} {T:Env} {h a:Heap} {v:V} {rd wr:List Nat} {call:Bool} (st:eC P n all o T h v a rd wr call):h.length<=a.length:=by
 cases st with
 | skip=>exact aaY _
 | op _ _=>rw[iH];exact Nat.le_add_right _ _
 | kO _ _ _=>exact aaY _
 | ic _ _ _ _ _ _=>exact aaY _
 | call _ _ _ _ b _ _=>exact b.1
theorem uD {P:Program} {n:Nat} {all:List Oper} {o:Oper} {T:Env} {h c:Heap} {v:V} {rd wr:List Nat} {call:Bool} (st:eC P n all o T h v c rd wr call) {id:Nat} (a:id<h.length) (hw:¬ id∈wr):c.view id=h.view id:=by
 cases st with
 | skip=>rfl
 | op f b =>
  rename_i eff
  rw[k8 (λid a=>(pb b id a).1)]
  cases eff with
  | none=>rfl
  | new o=>simp only[bp.view,View.set];rw[aaR (by omega)]
  | fR k o=>simp only[bp.view,View.set];rw[aaR (λe=>hw (by simp[bp.wr,e]))]
  | eT k o=>simp only[bp.view,View.set];rw[aaR (by omega),aaR (λe=>hw (by simp[bp.wr,e]))]
 | kO _ _ _=>rfl
 | ic _ _ _ _ _ _=>rfl
 | call _ _ _ _ _ d _=>exact d id a hw
theorem Ap {P:Program} {n:Nat} {all:List Oper} {o:Oper} {T:Env} {h b:Heap} {v:V} {rd wr:List Nat} {call:Bool} (st:eC P n all o T h v b rd wr call) {id:Nat} (hw:id∈wr):id<h.length/\(call=false->id∈rd):=by
 cases st with
 | skip=>simp at hw
 | op d a=>exact⟨fg (pb a id hw).1,λ_=>(pb a id hw).2⟩
 | kO _ _ _=>simp at hw
 | ic _ _ _ _ _ _=>simp at hw
 | call _ _ _ _ _ _ c=>exact⟨c id hw,λh=>by simp at h⟩
theorem L2 {H:View} {x:V} {xs:List (List V)} {rd:List Nat} (h:bM H x=some (xs,rd)):∀id,id∈rd->H id≠.dead:=by
 intro id a
 unfold bM at h
 split at h
 .simp at h;rw[h.2] at a;simp at a
 .simp at h;rw[h.2] at a;simp at a
 .simp at h;rw[h.2] at a;simp at a
 .simp at h;rw[h.2] at a;simp at a
 .split at h
  .rename_i hH
   split at h
   .simp at h;rw[<-h.2] at a;simp at a;subst a;rw[hH];simp
   .simp at h
  .simp at h
 .simp at h;rw[h.2] at a;simp at a
 .simp at h
theorem Yj {P:Program} {o:Oper} {T:Env} {H:View} {n:Nat} {v:V} {eff:bp} {rd:List Nat} (h:cK P o T H n=some (v,eff,rd)):∀id,id∈rd->H id≠.dead:=by
 have b:∀ {v':V} {e:bp},some (v',e,([]:List Nat))=some (v,eff,rd)->∀id,id∈rd->H id≠.dead:=by
  intro v' e heq id c
  simp only[aaV,abf] at heq
  rw[<-heq.2.2] at c;simp at c
 have one:∀ {k:Nat} {v':V} {e:bp},H k≠.dead->some (v',e,[k])=some (v,eff,rd)->∀id,id∈rd->H id≠.dead:=by
  intro k v' e hk heq id c
  simp only[aaV,abf] at heq
  rw[<-heq.2.2] at c;simp at c;subst c;exact hk
 have mp:∀ {α:Type} {x:Option α} {f:α->V},(x.map λa=>(f a,bp.none,([]:List Nat)))=some (v,eff,rd)->∀id,id∈rd->H id≠.dead:=by
  intro α x f h
  simp only[aa0] at h
  obtain⟨a,_,h⟩:=h
  exact b (abY some h)
 have j:∀ {α:Type} {x:Option α} {f:α->V} {k:Nat},H k≠.dead->(x.map λa=>(f a,bp.none,[k]))=some (v,eff,rd)->∀id,id∈rd->H id≠.dead:=by
  intro α x f k hk h
  simp only[aa0] at h
  obtain⟨a,_,h⟩:=h
  exact one hk (abY some h)
 have pu:eA P o T=some (v,eff,rd)->∀id,id∈rd->H id≠.dead:=by
  intro h
  unfold eA at h
  repeat' (split at h)
  all_goals first | exact b h | (simp at h;done)
 have l:∀ {cs:List V},nP cs n=some (v,eff,rd)->∀id,id∈rd->H id≠.dead:=by
  intro cs h
  unfold nP at h
  split at h
  .exact b h
  .simp at h
 have g:∀ {x:V} {xs:List (List V)} {r:List Nat} {v':V} {e:bp},bM H x=some (xs,r)->some (v',e,r)=some (v,eff,rd)->∀id,id∈rd->H id≠.dead:=by
  intro x xs r v' e he heq id c
  simp only[aaV,abf] at heq
  rw[<-heq.2.2] at c
  exact L2 he id c
 have i:∀ {x:V} {xs:List (List V)} {r:List Nat} {v':V} {e:bp} {k:Nat},bM H x=some (xs,r)->H k≠.dead->some (v',e,k::r)=some (v,eff,rd)->∀id,id∈rd->H id≠.dead:=by
  intro x xs r v' e k he hk heq id c
  simp only[aaV,abf] at heq
  rw[<-heq.2.2] at c
  rcases abd.1 c with h1 | h1
  .subst h1;exact hk
  .exact L2 he id h1
 unfold cK at h
 split at h
 .exact b h
 .exact b h
 .split at h
  .exact b h
  .simp at h
 .split at h
  .exact l h
  .simp at h
 .exact l h
 .unfold ye at h
  split at h
  .split at h
   .exact mp h
   .simp at h
  .simp at h
 .unfold jk at h
  repeat' (split at h)
  all_goals first | exact b h | (simp at h;done)
 .unfold oM at h
  split at h
  .split at h
   .rename_i hH
    split at h
    .exact j (by rw[hH];simp) h
    .simp at h
   .simp at h
  .exact mp h
  .simp at h
 .unfold s8 at h
  split at h
  .split at h
   .rename_i hH
    split at h
    .exact one (by rw[hH];simp) h
    .simp at h
   .simp at h
  .simp at h
 .repeat' (split at h)
  all_goals first | exact b h | (simp at h;done)
 .unfold mX at h
  repeat' (split at h)
  all_goals first | exact b h | (simp at h;done)
 .unfold yg at h
  split at h
  .exact mp h
  .simp at h
 .unfold nk at h
  repeat' (split at h)
  all_goals first | exact b h | (simp at h;done)
 .split at h
  .exact pu h
  .unfold vt at h
   repeat' (split at h)
   all_goals first | exact b h | (simp at h;done)
 .unfold nA at h
  repeat' (split at h)
  all_goals first | exact b h | (simp at h;done)
 .repeat' (split at h)
  all_goals first | exact b h | (simp at h;done)
 .exact b h
 .unfold fX at h
  simp only at h
  split at h
  .simp at h
  .split at h
   .simp at h
   .split at h
    .split at h
     .rename_i hH
      repeat' (split at h)
      all_goals first | exact one (by rw[hH];simp) h | (simp at h;done)
     .simp at h
    .simp at h
 .unfold iy at h
  split at h
  .split at h
   .rename_i hH
    repeat' (split at h)
    all_goals first | exact one (by rw[hH];simp) h | (simp at h;done)
   .simp at h
  .simp at h
 .unfold iy at h
  split at h
  .split at h
   .rename_i hH
    repeat' (split at h)
    all_goals first | exact one (by rw[hH];simp) h | (simp at h;done)
   .simp at h
  .simp at h
 .unfold fh at h
  split at h
  .split at h
   .rename_i hH
    repeat' (split at h)
    all_goals first | exact one (by rw[hH];simp) h | (simp at h;done)
   .simp at h
  .simp at h
 .unfold lO at h
  split at h
  .split at h
   .rename_i hH
    repeat' (split at h)
    all_goals first | exact one (by rw[hH];simp) h | (simp at h;done)
   .simp at h
  .simp at h
 .repeat' (split at h)
  all_goals first | exact b h | (simp at h;done)
 .repeat' (split at h)
  all_goals first | exact b h | (simp at h;done)
 .unfold F3 at h
  split at h
  .split at h
   .rename_i hH
    split at h
    .exact one (by rw[hH];simp) h
    .exact one (by rw[hH];simp) h
   .simp at h
  .simp at h
 .split at h
  .unfold oS at h
   split at h
   .split at h
    .split at h
     .rename_i he _
      simp only[aa0] at h
      obtain⟨a,_,h⟩:=h
      exact g he (abY some h)
     .simp at h
    .simp at h
   .repeat' (split at h)
    all_goals first | exact b h | (simp at h;done)
   .split at h
    .split at h
     .split at h
      .rename_i hH
       exact one (by rw[hH];simp) h
      .simp at h
     .simp at h
    .simp at h
   .simp at h
  .exact pu h
 .split at h
  .split at h
   .unfold xp at h
    split at h
    .exact mp h
    .split at h
     .split at h
      .rename_i hH
       exact one (by rw[hH];simp) h
      .simp at h
     .exact b h
     .simp at h
    .repeat' (split at h)
     all_goals first | exact b h | (simp at h;done)
    .exact b h
    .simp at h
   .simp at h
  .split at h
   .unfold pG at h
    split at h
    .rename_i d
     split at h
     .simp at h
     .split at h
      .split at h
       all_goals first | exact b h | (simp at h;done)
      .split at h
       .simp at h
       .split at h
        .split at h
         .exact g d h
         .simp at h
        .split at h
         .rename_i hH
          split at h
          .exact i d (by rw[hH];simp) h
          .simp at h
         .simp at h
        .simp at h
    .simp at h
   .split at h
    .unfold uB at h
     split at h
     .split at h
      .split at h
       .exact b h
       .split at h
        .exact b h
        .simp at h
      .simp at h
     .simp at h
    .simp at h
  .split at h
   .unfold Hh at h
    split at h
    .exact b h
    .simp at h
   .simp at h
  .split at h
   .unfold Aq at h
    split at h
    .rename_i d _
     split at h
     .simp at h
     .split at h
      .exact b h
      .split at h
       .split at h
        .rename_i hH
         split at h
         .exact i d (by rw[hH];simp) h
         .simp at h
        .simp at h
       .simp at h
    .simp at h
   .simp at h
  .split at h
   .unfold y0 at h
    split at h
    .split at h
     .rename_i hH
      repeat' (split at h)
      all_goals first | exact one (by rw[hH];simp) h | (simp at h;done)
     .simp at h
    .simp at h
   .simp at h
  .split at h
   .unfold x8 at h
    split at h
    .split at h
     .exact b h
     .split at h
      .split at h
       .rename_i hH
        split at h
        .exact one (by rw[hH];simp) h
        .simp at h
       .simp at h
      .simp at h
    .simp at h
   .simp at h
  .exact pu h
  .exact pu h
  .exact pu h
  .exact pu h
  .exact pu h
  .simp at h
 .split at h
  .split at h
   .exact b h
   .exact b h
   .simp at h
  .exact pu h
 .exact pu h
 .exact pu h
 .simp at h
theorem D1 {P:Program} {n:Nat} {all:List Oper} {o:Oper} {T:Env} {h b:Heap} {v:V} {rd wr:List Nat} {call:Bool} (st:eC P n all o T h v b rd wr call) {id:Nat} (hw:id∈rd):id<h.length:=by
 cases st with
 | skip=>simp at hw
 | op c a=>exact fg (Yj a id hw)
 | kO _ _ _=>simp at hw
 | ic _ _ _ _ _ _=>simp at hw
 | call _ _ _ _ _ _ d=>simp at hw
structure sY (n:Nat) (Z:Nat->Prop) (μ:Mu) (F:View) (T:Env) (h:Heap) (a:Act) (w:World):Prop where
 defers:a.defers=[]
 size:a.tmps.size=n
 tm:∀t,aD Z μ w.heap (T t) (a.tmps.getD t undef)
 hr:eS Z μ w.heap (cat h F)
def dy (P:Program) (n:Nat) (c:Code) (T:Env) (h:Heap) (e:Exit) (T':Env) (h':Heap):Prop:=
 h.length<=h'.length/\∀Z μ F a w,(∀id,h.length<=id->id<h'.length->μ id=none)->sY n Z μ F T h a w ->
  c.wp P (λe' a' w'=>e'=e/\∃Z' μ',sY n Z' μ' F T' h' a' w'/\Ext Z μ w h.length Z' μ' w'/\(∀id,id<h.length∨h'.length<=id->μ' id=μ id)) a w
section
variable {P:Program} {n:Nat} {all:List Oper}
theorem MD {Z:Nat->Prop} {μ:Mu} {w:World} {T:Env} {a:Act} {o:Oper} (h:∀t,t∈tmpsOf o->aD Z μ w.heap (T t) (a.tmps.getD t undef)):∀x∈o.op.operands,aD Z μ w.heap (ev T x) (a.eval x):=by
 intro x b
 cases x with
 | tmp t=>exact h t (by simp only[tmpsOf,ach];exact⟨.tmp t,by simpa using b,rfl⟩)
 | const v=>exact iF v
 | global g=>exact .any _
 | func f=>exact .fn f [] [] #[] #[] rfl rfl (λi hi=>by simp at hi) (λi hi=>by simp at hi)
theorem NP {a:Nat->Heap} {N:Nat} (h:∀i,i<N->(a i).length<=(a (i+1)).length):∀i j,i<=j->j<=N->(a i).length<=(a j).length:=by
 intro i j b
 induction b with
 | refl=>intro _;exact aaY _
 | step _ c=>intro d;exact abG (c (by omega)) (h _ (by omega))
theorem CX {a:Nat->Env} {vs:Nat->V} {N t:Nat} (g:∀i o,all[i]?=some o->a (i+1)=(a i).put o.dst (vs i)) (p:N=all.length):∀i j,i<=j->j<=N->(∀k o,i<=k->k<j->all[k]?=some o->o.dst≠some t)->a j t=a i t:=by
 intro i j c
 induction c with
 | refl=>intro _ _;rfl
 | step hle h =>
  rename_i m
  intro q b
  have hm:m<all.length:=by omega
  rw[g m all[m] (aaQ hm)]
  have l:=b m all[m] hle (by omega) (aaQ hm)
  have:(Env.put (a m) (all[m]).dst (vs m)) t=a m t:=by
   cases f:(all[m]).dst with
   | none=>rfl
   | some d =>
    simp only[Env.put]
    rw[aaR (λe=>l (by rw[f,e]))]
  rw[this]
  exact h (by omega) (λk o h1 r n=>b k o h1 (by omega) n)
def Eh (P:Program) (n:Nat) (all:List Oper) (recs:List Rec) (Ts:Nat->Env) (hs:Nat->Heap) (vs:Nat->V):Prop:=∀i o r,all[i]?=some o->recs[i]?=some r ->
 eC P n all o (Ts i) (hs i) (vs i) (hs (i+1)) r.rd r.wr r.call/\uz n o=true/\Ts (i+1)=(Ts i).put o.dst (vs i)/\r.lo=(hs i).length/\r.hi=(hs (i+1)).length
structure Bears (P:Program) (n:Nat) (all:List Oper) (Ts:Nat->Env) (hs:Nat->Heap) (vs:Nat->V) (i k:Nat) (o:Oper) (a b:Rec):Prop where
 wr:a.wr=[]
 call:a.call=false
 len:a.lo=a.hi
 step:∀g:Heap,g.length=(hs i).length->(∀id,id<(hs i).length->g.view id=if id∈b.wr then (hs (k+1)).view id else (hs i).view id)->eC P n all o (Ts i) g (vs i) g a.rd [] false
def PX (P:Program) (n:Nat) (all:List Oper) (recs:List Rec) (T T':Env) (h:Heap):Prop:=∀Ts hs vs,Ts 0=T->hs 0=h->Ts all.length=T'->recs.length=all.length->Eh P n all recs Ts hs vs->∀i,∃tol:Option Nat,
 (∀k a b,i<k->recs[i]?=some a->recs[k]?=some b->ordered (gW all []) i k=false->tol≠some k->qx a b) /\
 ∀k a b o,tol=some k->recs[i]?=some a->recs[k]?=some b->all[i]?=some o->i<k/\Bears P n all Ts hs vs i k o a b
theorem xF.Zz {c:List Rec} {T d:Env} {hp:Heap} (h:xF all c):PX P n all c T d hp:=λ_ _ _ _ _ _ _ _ i=>⟨none,λk a b h1 e f g _=>h i k a b h1 e f g,λk a b o h1=>by simp at h1⟩
theorem Ad (hm:P.follows .mixedOrders=true) {id:Nat} {T T':Env} {h h':Heap} {A:List Rec} (tr:Tr P n all all T h A T' h') (ht:ox all=true) (fl:PX P n all A T T' h):
  dy P n (.region id all.toArray true) T h .normal T' h':=by
 obtain⟨fm,Ts,v,vs,eg,ar,ei,a1,E⟩:=HX all T h A T' h' tr
 obtain⟨U,V⟩:=Mz ht
 have hc:=fl Ts v vs eg ar ei fm E
 have J:∀i,i<all.length->∃o r,all[i]?=some o/\A[i]?=some r:=λi hi=>⟨all[i],A[i]'(by omega),aaQ hi,aaQ (by omega)⟩
 have cC:∀i o,all[i]?=some o->i<all.length:=λi o hi=>nj hi
 have hT:∀i o,all[i]?=some o->Ts (i+1)=(Ts i).put o.dst (vs i):=λi o hi=>by
  obtain⟨o',r,h1,y⟩:=J i (cC i o hi)
  exact(E i o r hi y).2.2.1
 have bx:∀i,i<all.length->(v i).length<=(v (i+1)).length:=λi hi=>by
  obtain⟨o,r,h1,y⟩:=J i hi
  exact wW (E i o r h1 y).1
 have f:=NP bx
 have hle:h.length<=h'.length:=by rw[<-ar,<-a1];exact f _ _ (ab4 _) (aaY _)
 have W:∀i j id,i<=j->j<=all.length->id<(v i).length->(∀k r,i<=k->k<j->A[k]?=some r->¬ id∈r.wr)->(v j).view id=(v i).view id:=by
  intro i j id fs
  induction fs with
  | refl=>intro _ _ _;rfl
  | step hle ih =>
   rename_i m
   intro hj s b0
   obtain⟨o,r,h1,y⟩:=J m (by omega)
   rw[uD (E m o r h1 y).1 (abq s (f _ _ hle (by omega))) (b0 m r hle (by omega) y)]
   exact ih (by omega) s (λk r h1 y N=>b0 k r h1 (by omega) N)
 refine⟨hle,λZ μ F a w b1 ab=>wp_region_any hm ?_⟩
 let Inv (bF:Array Bool) (I:Act) (w':World):Prop:=∃Y μ' H,I.defers=[]/\I.tmps.size=n /\
  (∀t,∃G,G<=all.length/\aD Y μ' w'.heap (Ts G t) (I.tmps.getD t undef)/\∀k o,all[k]?=some o->o.dst=some t->(bF.getD k false=true↔k<G)) /\
  eS Y μ' w'.heap H /\
  (∀id,μ' id≠none->(∃G,G<=all.length/\id<(v G).length/\H id=(v G).view id/\∀k r,A[k]?=some r->id∈r.wr->(bF.getD k false=true↔k<G))∨(h'.length<=id/\H id=F id)) /\
  (∀k id,k<all.length->(v k).length<=id->id<(v (k+1)).length->μ' id≠none->bF.getD k false=true) /\
  (∀k o,all[k]?=some o->bF.getD k false=true->∀e∈o.after.toList,Region.binds .any e=true->bF.getD e.on false=true) /\
  Ext Z μ w h.length Y μ' w'/\(∀id,id<h.length∨h'.length<=id->μ' id=μ id)/\bF.size=all.length
 have key:∀fuel bF I w',Inv bF I w'->((List.range all.length).countP λi=>!bF.getD i false)<=fuel ->
   wpAny P .any all.toArray (λe' I w'=>e'=.normal/\∃Y μ',sY n Y μ' F T' h' I w'/\Ext Z μ w h.length Y μ' w'/\(∀id,id<h.length∨h'.length<=id->μ' id=μ id)) fuel bF I w':=by
  have ready_iff:∀(bF:Array Bool),bF.size=all.length->∀i,i∈Region.ready .any all.toArray bF↔(∃o,all[i]?=some o/\bF.getD i false=false/\∀e∈o.after.toList,Region.binds .any e=true->bF.getD e.on false=true):=by
   intro bF X i
   simp only[Region.ready,acd,ab7,abL,abC,aaZ,ac5]
   constructor
   .rintro⟨hi,h1,y⟩
    rw[aaQ hi] at y
    refine⟨all[i],aaQ hi,?_,λe he hb=>?_⟩
    .have:i<bF.size:=by omega
     simp only[aa4,abb this,aa8] at h1 ⊢
     exact h1
    .have:=Array.all_eq_true_iff_forall_mem.1 y e (by simpa using he)
     simpa [hb] using this
   .rintro⟨o,R,h1,y⟩
    have hi:=cC i o R
    refine⟨hi,?_,?_⟩
    .have:i<bF.size:=by omega
     simp only[aa4,abb this,aa8] at h1 ⊢
     exact h1
    .rw[R]
     simp only[aa2,aa8]
     rw[Array.all_eq_true_iff_forall_mem]
     intro e he
     cases hb:Region.binds .any e with
     | false=>rfl
     | true=>simpa using y e (by simpa using he) hb
  have b2:∀(bF:Array Bool),bF.size=all.length->Region.ready .any all.toArray bF=[]->∀i,i<all.length->bF.getD i false=true:=by
   intro bF X b3 i
   induction i using Nat.strongRecOn with
   | _ i ih =>
    intro hi
    cases hl:bF.getD i false with
    | true=>rfl
    | false =>
     exfalso
     have:i∈Region.ready .any all.toArray bF:=(ready_iff bF X i).2 ⟨all[i],aaQ hi,hl,λe he hb=>ih e.on (U i all[i] (aaQ hi) e he hb) (by have:=U i all[i] (aaQ hi) e he hb;omega)⟩
     rw[b3] at this;simp at this
  have finish:∀bF I w',Inv bF I w'->(∀i,i<all.length->bF.getD i false=true) ->
    ∃Y μ',sY n Y μ' F T' h' I w'/\Ext Z μ w h.length Y μ' w'/\(∀id,id<h.length∨h'.length<=id->μ' id=μ id):=by
   rintro bF I w' ⟨Y,μ',H,hd,X,cI,hr,b4,b5,cN,hex,b7,O⟩ ae
   refine⟨Y,μ',⟨hd,X,λt=>?_,hr.congr λid s=>?_⟩,hex,b7⟩
   .obtain⟨G,B,hv,hw⟩:=cI t
    have:=CX (t:=t) hT rfl G all.length B (aaY _) (λk o h1 y N h4=>by
     have:=(hw k o N h4).1 (ae k y);omega)
    rw[<-ei,this];exact hv
   .unfold cat
    rcases b4 id s with ⟨G,B,hl,hH,hw⟩ | ⟨hl,hH⟩
    .have:=W G all.length id B (aaY _) hl (λk r h1 y N h4=>by
      have:=(hw k r N h4).1 (ae k y);omega)
     have ft:id<h'.length:=by rw[<-a1];exact abq hl (f _ _ B (aaY _))
     rw[aaT ft,hH,<-this,a1]
    .rw[aaR (by omega),hH]
  intro fuel
  induction fuel with
  | zero =>
   intro bF I w' hinv ej
   have O:bF.size=all.length:=by obtain⟨_,_,_,_,_,_,_,_,_,_,_,_,O⟩:=hinv;exact O
   have ae:∀i,i<all.length->bF.getD i false=true:=by
    intro i hi
    have h0:(List.range all.length).countP (λi=>!bF.getD i false)=0:=by omega
    rw[List.countP_eq_zero] at h0
    have:=h0 i (by simpa using hi)
    simpa using this
   refine⟨?_,rfl,finish bF I w' hinv ae⟩
   apply List.eq_nil_iff_forall_not_mem.2
   intro i hi
   obtain⟨o,R,h1,_⟩:=(ready_iff bF O i).1 hi
   rw[ae i (cC i o R)] at h1;simp at h1
  | succ fuel ih =>
   intro bF I w' hinv ej
   have O:bF.size=all.length:=by obtain⟨_,_,_,_,_,_,_,_,_,_,_,_,O⟩:=hinv;exact O
   refine⟨λb3=>⟨rfl,finish bF I w' hinv (b2 bF O b3)⟩,λi hi=>?_⟩
   obtain⟨o,R,eH,b8⟩:=(ready_iff bF O i).1 hi
   have K:=cC i o R
   obtain⟨_,r,_,C⟩:=J i K
   obtain⟨b9,ca,_,e0,e1⟩:=E i o r R C
   obtain⟨Y,μ',H,hd,X,cI,hr,b4,b5,cN,hex,b7,_⟩:=hinv
   have a8:¬ (bF.getD i false=true):=by rw[eH];simp
   have before:∀j,ordered (gW all []) j i=true->bF.getD j false=true:=λj hj=>K2 U cN R b8 hj
   have behind:∀k ok,all[k]?=some ok->ordered (gW all []) i k=true->bF.getD k false=true->False:=λk ok hk c S=>a8 (AH (L:=λk=>bF.getD k false=true) U cN k ok i hk S c)
   have slot:∀t,t∈p8 all o->aD Y μ' w'.heap (Ts i t) (I.tmps.getD t undef):=by
    intro t cb
    obtain⟨G,B,hv,hw⟩:=cI t
    rcases Nat.le_total G i with a6 | a6
    .have:=CX (t:=t) hT rfl G i a6 (by omega) (λk ok h1 y N h4=>by
      have al:=(hw k ok N h4).1
      cases c:ordered (gW all []) k i with
      | true=>have:=al (before k c);omega
      | false=>exact(V k i ok o y N R c).1 t h4 cb)
     rw[this];exact hv
    .have:=CX (t:=t) hT rfl i G a6 B (λk ok h1 y N h4=>by
      have al:=(hw k ok N h4).2 y
      rcases Nat.eq_or_lt_of_le h1 with u | u
      .subst u;exact a8 al
      .cases c:ordered (gW all []) i k with
       | true=>exact behind k ok N c al
       | false=>exact(V i k o ok u R N c).2 t h4 cb)
     rw[<-this];exact hv
   obtain⟨cc,e2,c3⟩:=hc i
   have cf:∀id,id<(v i).length->μ' id≠none->(∀k z,A[k]?=some z->k≠i->id∈z.wr->(bF.getD k false=true↔k<i))->H id=(v i).view id:=by
    intro id s hm hk
    rcases b4 id hm with ⟨G,B,hl,hH,hw⟩ | ⟨hl,_⟩
    .rw[hH]
     rcases Nat.le_total G i with a6 | a6
     .exact(W G i id a6 (by omega) hl (λk z h1 y N h4=>by
       have:=(hw k z N h4).1 ((hk k z N (by omega) h4).2 y);omega)).symm
     .exact W i G id a6 B s (λk z h1 y N h4=>by
       have al:=(hw k z N h4).2 y
       rcases Nat.eq_or_lt_of_le h1 with u | u
       .subst u;exact a8 al
       .have:=(hk k z N (by omega) h4).1 al;omega)
    .have:(v i).length<=h'.length:=by rw[<-a1];exact f _ _ (by omega) (aaY _)
     omega
   have place:∀id,(id∈r.rd∨id∈r.wr∨r.call=true)->∀k z,A[k]?=some z->k≠i->id∈z.wr->(cc=some k->bF.getD k false=false)->(bF.getD k false=true↔k<i):=by
    intro id s k z hk a7 hw e3
    have fu:id∈r.wr->r.call=false->id∈r.rd:=λh1 y=>(Ap b9 h1).2 y
    have ch:id∈r.rd∨r.call=true:=by
     rcases s with h1 | h1 | h1
     .exact .inl h1
     .cases e4:r.call with
      | true=>exact .inr rfl
      | false=>exact .inl (fu h1 e4)
     .exact .inr h1
    have cj:z.wr≠[]:=λe=>by rw[e] at hw;simp at hw
    obtain⟨ok,_,ck,_⟩:=J k (by have:=nj hk;omega)
    rcases Nat.lt_or_gt_of_ne a7 with bd | bd
    .refine⟨λ_=>bd,λ_=>?_⟩
     cases c:ordered (gW all []) k i with
     | true=>exact before k c
     | false =>
      obtain⟨tk,fv,fx⟩:=hc k
      by_cases e5:tk=some i
      .exact absurd (fx i z r ok e5 hk C ck).2.wr cj
      .have nc:=fv i z r bd hk C c e5
       rcases ch with h1 | h1
       .exact absurd h1 (nc.ZC id hw)
       .exact absurd (nc.call2 h1) cj
    .refine⟨λS=>?_,λh6=>by omega⟩
     exfalso
     cases c:ordered (gW all []) i k with
     | true=>exact behind k ok ck c S
     | false =>
      by_cases et:cc=some k
      .rw[e3 et] at S;simp at S
      .have nc:=e2 k r z bd C hk c et
       rcases ch with h1 | h1
       .exact absurd h1 (nc.Ye id hw)
       .exact absurd (nc.Za h1) cj
   have closing:∀x w1 Z1 an,aD Z1 an w1.heap (vs i) x->eS Z1 an w1.heap (kE H (v i) (v (i+1)) r.wr)->Ext Y μ' w' (v i).length Z1 an w1->(∀id,id<(v i).length∨(v (i+1)).length<=id->an id=μ' id) ->
     wpAny P .any all.toArray (λe' I w'=>e'=.normal/\∃Y μ',sY n Y μ' F T' h' I w'/\Ext Z μ w h.length Y μ' w'/\(∀id,id<h.length∨h'.length<=id->μ' id=μ id)) fuel (bF.setIfInBounds i true) (I.put o.dst x) w1:=by
    intro x w1 Z1 an c4 da bl M
    have Q:∀k,(bF.setIfInBounds i true).getD k false=if k=i then true else bF.getD k false:=by
     intro k
     simp only[aa4,ab5]
     by_cases e:i=k
     .subst e;rw[aaT rfl,aaT rfl,aaT (by omega)];rfl
     .rw[aaR e,aaR (λq=>e q.symm)]
    have e6:(bF.setIfInBounds i true).size=all.length:=by simpa using O
    refine ih _ _ _ ⟨Z1,an,kE H (v i) (v (i+1)) r.wr,?_,?_,?_,da,?_,?_,?_,?_,?_,e6⟩ ?_
    .unfold Act.put;split<;>exact hd
    .unfold Act.put;split<;>simp[X]
    .intro t
     by_cases cu:o.dst=some t
     .refine⟨i+1,K,?_,λk ok hk br=>?_⟩
      .rw[hT i o R,cu]
       have e7:t<I.tmps.size:=by unfold uz at ca;rw[cu] at ca;rw[X];simpa using ca
       simp only[Env.put,Act.put,if_true,aa4,ab5,e7,aa8]
       exact c4
      .rw[Q]
       by_cases e:k=i
       .subst e;simp
       .rw[aaR e]
        have cb:t∈p8 all o:=by simp[p8,cu]
        rcases Nat.lt_or_gt_of_ne e with u | u
        .cases c:ordered (gW all []) k i with
         | true=>exact⟨λ_=>by omega,λ_=>before k c⟩
         | false=>exact absurd cb ((V k i ok o u hk R c).1 t br)
        .cases c:ordered (gW all []) i k with
         | true=>exact⟨λS=>(behind k ok hk c S).elim,λh6=>by omega⟩
         | false=>exact absurd cb ((V i k o ok u R hk c).2 t br)
     .obtain⟨G,B,hv,hw⟩:=cI t
      refine⟨G,B,?_,λk ok hk br=>?_⟩
      .have:(I.put o.dst x).tmps.getD t undef=I.tmps.getD t undef:=by
        unfold Act.put
        split
        .rename_i d db
         simp only[aa4,ab5]
         rw[aaR (λe=>cu (by rw[db,e]))]
        .rfl
       rw[this];exact hv.mono bl.mono
      .rw[Q,aaR (λe=>by subst e;rw[R] at hk;simp at hk;subst hk;exact cu br)]
       exact hw k ok hk br
    .intro id dc
     unfold kE
     by_cases bs:id∈r.wr∨((v i).length<=id/\id<(v (i+1)).length)
     .left
      have aq:id<(v (i+1)).length:=by
       rcases bs with u | u
       .exact abq (Ap b9 u).1 (bx i K)
       .exact u.2
      refine⟨i+1,K,aq,by rw[aaT bs],λk z hk D=>?_⟩
      rw[Q]
      by_cases e:k=i
      .subst e;simp
      .rw[aaR e]
       obtain⟨ok,_,ck,_⟩:=J k (by have:=nj hk;omega)
       rcases bs with u | u
       .have hp:=place id (.inr (.inl u)) k z hk e D (λet=>by
         have:=(c3 k r z o et C hk R).2.wr
         rw[this] at u;simp at u)
        exact⟨λS=>by have:=hp.1 S;omega,λh7=>hp.2 (by omega)⟩
       .obtain⟨cv,_⟩:=E k ok z ck hk
        have al:=(Ap cv D).1
        have fy:i<k:=by
         rcases abo i k with h6 | h6
         .exact h6
         .have:=f k i h6 (by omega);omega
        refine⟨λS=>?_,λh7=>by omega⟩
        exfalso
        cases c:ordered (gW all []) i k with
        | true=>exact behind k ok ck c S
        | false =>
         by_cases et:cc=some k
         .have:=(c3 k r z o et C hk R).2.len
          omega
         .exact(e2 k r z fy C hk c et).new id D (by rw[e0,e1];exact u)
     .rw[aaR bs]
      have dj:μ' id≠none:=by
       rw[<-M id ?_]
       .exact dc
       .rcases abo id (v i).length with h6 | h6
        .exact .inl h6
        .right
         rcases abo id (v (i+1)).length with h7 | h7
         .exact absurd (.inr ⟨h6,h7⟩) bs
         .exact h7
      rcases b4 id dj with ⟨G,B,hl,hH,hw⟩ | u
      .refine .inl ⟨G,B,hl,hH,λk z hk D=>?_⟩
       rw[Q,aaR (λe=>by subst e;rw[C] at hk;simp at hk;subst hk;exact bs (.inl D))]
       exact hw k z hk D
      .exact .inr u
    .intro k id hk h1 y dc
     rw[Q]
     by_cases e:k=i
     .rw[aaT e]
     .rw[aaR e]
      refine b5 k id hk h1 y ?_
      rw[<-M id ?_]
      .exact dc
      .rcases Nat.lt_or_gt_of_ne e with h6 | h6
       .left;exact abq y (f _ _ h6 (by omega))
       .right;exact abG (f _ _ h6 (by omega)) h1
    .intro k ok hk S e he hb
     rw[Q] at S ⊢
     by_cases ek:k=i
     .subst ek
      rw[R] at hk;simp at hk;subst hk
      split
      .rfl
      .exact b8 e he hb
     .rw[aaR ek] at S
      split
      .rfl
      .exact cN k ok hk S e he hb
    .refine hex.trans bl ?_ ab.hr.lt
     rw[<-ar];exact f _ _ (ab4 _) (by omega)
    .intro id s
     rw[M id,b7 id s]
     rcases s with u | u
     .left;rw[<-ar] at u;exact abq u (f _ _ (ab4 _) (by omega))
     .right;rw[<-a1] at u;exact abG (f _ _ K (aaY _)) u
    .have:(List.range all.length).countP (λk=>!(bF.setIfInBounds i true).getD k false)<(List.range all.length).countP (λk=>!bF.getD k false):=by
      have gen:∀(l:List Nat),i∈l->l.Nodup->l.countP (λk=>!(bF.setIfInBounds i true).getD k false)<l.countP (λk=>!bF.getD k false):=by
       intro l
       induction l with
       | nil=>intro h;simp at h
       | cons x l fz =>
        intro e8 dm
        simp only[abT] at dm
        by_cases e:x=i
        .subst e
         have ds:l.countP (λk=>!(bF.setIfInBounds x true).getD k false)=l.countP (λk=>!bF.getD k false):=by
          apply List.countP_congr
          intro k hk
          have ga:k≠x:=λq=>dm.1 (by rw[<-q];exact hk)
          rw[Q,aaR ga]
         have h1:(bF.setIfInBounds x true).getD x false=true:=by rw[Q,aaT rfl]
         rw[List.countP_cons,List.countP_cons,ds,h1,eH]
         simp
        .have dv:i∈l:=by
          rcases abd.1 e8 with u | u
          .exact absurd u.symm e
          .exact u
         have:=fz dv dm.2
         simp only[List.countP_cons,Q,aaR e]
         simp only[Q] at this
         omega
      exact gen _ (by simpa using K) List.nodup_range
     omega
   have bn:∀j want d,o.guard=some (j,want)->(all[j]?).bind (·.dst)=some d->aD Y μ' w'.heap (Ts i d) (I.tmps.getD d undef):=λj want d hg db=>slot d (by
    simp only[p8,aa7];right;rw[hg];simp[db])
   have cV:=MD (o:=o) λt gd=>slot t (by
    simp only[p8,aa7];left;right;exact gd)
   by_cases e9:∃k0,cc=some k0/\bF.getD k0 false=true
   .obtain⟨k0,ea,fb⟩:=e9
    have gk:k0<all.length:=by
     rcases abo k0 all.length with u | u
     .exact u
     .simp[aa4,Array.getElem?_eq_none (show bF.size<=k0 by omega)] at fb
    obtain⟨_,b,_,hb⟩:=J k0 gk
    obtain⟨hf,hB⟩:=c3 k0 r b o ea C hb R
    let g:Heap:=(List.range (v i).length).map λid=>if id∈b.wr then (v (k0+1)).view id else (v i).view id
    have ff:∀id,id<(v i).length->Heap.view g id=if id∈b.wr then (v (k0+1)).view id else (v i).view id:=by
     intro id s
     simp only[g,Heap.view,aaP,aaS,acm s,aa2,aa8]
    have hlen:(v (i+1)).length=(v i).length:=by rw[<-e1,<-e0,hB.len]
    have cA:List.length g=(v i).length:=by simp only[g,aaU,List.length_range]
    have cv:=hB.step g cA ff
    have gr:kE H g g []=kE H (v i) (v (i+1)) r.wr:=by
     funext id
     unfold kE
     rw[aaR (by
            rintro (h1 | h1); · simp at h1
            .omega),aaR (by
              rw[hB.wr];rintro (h1 | h1); · simp at h1
              .omega)]
    refine A8 rfl (by simpa using R) cv X bn cV hr (λid s hm=>?_) (λh1=>by simp at h1) (λid h1 y=>by omega) (λx w1 Z1 an c4 da bl M=>closing x w1 Z1 an c4 (by rw[<-gr];exact da) (by rw[<-cA];exact bl) (λid s=>M id (by
     rw[cA];omega)))
    have aq:=D1 b9 s
    rw[ff id aq]
    by_cases cS:id∈b.wr
    .rw[aaT cS]
     rcases b4 id hm with ⟨G,B,hl,hH,hw⟩ | ⟨hl,_⟩
     .have ha:=(hw k0 b hb cS).1 fb
      rw[hH]
      refine W (k0+1) G id ha B (abq aq (f _ _ (by omega) (by omega))) (λk z h1 y N h4=>?_)
      have S:=(hw k z N h4).2 y
      have:=(place id (.inl s) k z N (by omega) h4 (λe=>by rw[ea] at e;simp at e;omega)).1 S
      omega
     .have:(v i).length<=h'.length:=by rw[<-a1];exact f _ _ (by omega) (aaY _)
      omega
    .rw[aaR cS]
     refine cf id aq hm λk z hk a7 D=>place id (.inl s) k z hk a7 D λe=>?_
     rw[ea] at e;simp at e;subst e
     rw[hb] at hk;simp at hk;subst hk
     exact absurd D cS
   .have b0:∀k,cc=some k->bF.getD k false=false:=λk e=>by
     cases hl:bF.getD k false with
     | false=>rfl
     | true=>exact absurd ⟨k,e,hl⟩ e9
    refine A8 rfl (by simpa using R) b9 X bn cV hr (λid s hm=>cf id (D1 b9 s) hm λk z hk a7 D=>place id (.inl s) k z hk a7 D (b0 k))
     (λeb id s hm=>cf id s hm λk z hk a7 D=>place id (.inr (.inr eb)) k z hk a7 D (b0 k)) (λid h1 y=>?_) closing
    apply ack
    intro dj
    exact a8 (b5 i id K h1 y dj)
 have ee:Inv (Array.replicate all.length false) a { w with drawn:=w.drawn+1 }:=by
  refine⟨Z,μ,cat h F,ab.defers,ab.size,λt=>⟨0,ab4 _,by rw[eg];exact ab.tm t,λk o hk br=>?_⟩,ab.hr,λid ef=>?_,λk id hk h1 y ef=>?_,λk o hk S=>?_,?_,λ_ _=>rfl,by simp⟩
  .have:(Array.replicate all.length false).getD k false=false:=by
    simp only[aa4,Array.getElem?_replicate];split<;>rfl
   rw[this];simp
  .unfold cat
   by_cases hl:id<h.length
   .left
    refine⟨0,ab4 _,by rw[ar];exact hl,by rw[aaT hl,ar],λk r hk D=>?_⟩
    have:(Array.replicate all.length false).getD k false=false:=by
     simp only[aa4,Array.getElem?_replicate];split<;>rfl
    rw[this];simp
   .rw[aaR hl]
    rcases abo id h'.length with u | u
    .exact absurd (b1 id (by omega) u) ef
    .exact .inr ⟨u,rfl⟩
  .exfalso
   refine ef (b1 id ?_ ?_)
   .rw[<-ar];exact abG (f _ _ (ab4 _) (by omega)) h1
   .rw[<-a1];exact abq y (f _ _ hk (aaY _))
  .have:(Array.replicate all.length false).getD k false=false:=by
    simp only[aa4,Array.getElem?_replicate];split<;>rfl
   rw[this] at S;simp at S
  .exact⟨⟨rfl,rfl,rfl,aaY _⟩,iS.refl _ _ _,λ_ _ _=>rfl,λ_ h=>.inl h,λ_ _ _ _ h=>.inl h⟩
 have:=key all.length _ _ _ ee (by
  have:=List.countP_le_length (p:=λi=>!(Array.replicate all.length false).getD i false) (l:=List.range all.length)
  simpa using this)
 simpa using this
theorem B2 (hm:P.follows .mixedOrders=true) {id:Nat} {T b:Env} {h c:Heap} {a:List Rec} (d:Tr P n all all T h a b c) (e:ox all=true) (f:xF all a):
 dy P n (.region id all.toArray true) T h .normal b c:=Ad hm d e f.Zz
end
section
variable {P:Program} {n:Nat}
theorem sY.eval {Z:Nat->Prop} {μ:Mu} {F:View} {T:Env} {h:Heap} {a:Act} {w:World} (s:sY n Z μ F T h a w) (x:Operand):aD Z μ w.heap (ev T x) (a.eval x):=by
 cases x with
 | tmp t=>exact s.tm t
 | const v=>exact iF v
 | global g=>exact .any _
 | func f=>exact .fn f [] [] #[] #[] rfl rfl (λi hi=>by simp at hi) (λi hi=>by simp at hi)
theorem KW {all:List Oper} {id:Nat} {T N:Env} {h B:Heap} {f:List Rec} (tr:Tr P n all all T h f N B):dy P n (.region id all.toArray false) T h .normal N B:=by
 obtain⟨ab,Ts,y,vs,O,z,Q,G,g⟩:=HX all T h f N B tr
 have C:∀i,i<all.length->∃o r,all[i]?=some o/\f[i]?=some r:=λi hi=>⟨all[i],f[i]'(by omega),aaQ hi,aaQ (by omega)⟩
 have l:∀i,i<all.length->(y i).length<=(y (i+1)).length:=λi hi=>by
  obtain⟨o,r,h1,J⟩:=C i hi
  exact wW (g i o r h1 J).1
 have c:=NP l
 refine⟨by rw[<-z,<-G];exact c _ _ (ab4 _) (aaY _),λZ μ F a w H D=>wp_region ?_⟩
 have key:∀k i,i+k=all.length->∀E μ' I w',sY n E μ' F (Ts i) (y i) I w'->Ext Z μ w h.length E μ' w'->(∀id,id<h.length∨B.length<=id->μ' id=μ id)->(∀id,(y i).length<=id->id<B.length->μ' id=none) ->
   wpOps P all.toArray (λe' I w'=>e'=.normal/\∃E μ',sY n E μ' F N B I w'/\Ext Z μ w h.length E μ' w'/\(∀id,id<h.length∨B.length<=id->μ' id=μ id)) (List.range' i k) I w':=by
  intro k
  induction k with
  | zero =>
   intro i hi E μ' I w' b hex m _
   obtain rfl:i=all.length:=by omega
   simp only[List.range'_zero,wpOps]
   rw[Q,G] at b
   exact⟨trivial,E,μ',b,hex,m⟩
  | succ k ih =>
   intro i hi E μ' I w' b hex m K
   obtain⟨o,r,ho,hr⟩:=C i (by omega)
   obtain⟨A,p,hT,ae,al⟩:=g i o r ho hr
   have an:=l i (by omega)
   have aq:(y (i+1)).length<=B.length:=by rw[<-G];exact c _ _ (by omega) (aaY _)
   have R:h.length<=(y i).length:=by rw[<-z];exact c _ _ (ab4 _) (by omega)
   refine A8 rfl (by simpa using ho) A b.size (λj want d _ _=>b.tm d) (λx _=>b.eval x) b.hr (λid s _=>?_) (λ_ id s _=>?_) (λid h1 J=>K id h1 (by omega)) ?_
   .unfold cat;rw[aaT (D1 A s)]
   .unfold cat;rw[aaT s]
   .intro x w1 Z1 S U V u v
    refine ih (i+1) (by omega) Z1 S _ w1 ⟨?_,?_,λt=>?_,V.congr λid _=>?_⟩ (hex.trans u R D.hr.lt) (λid s=>?_) (λid h1 J=>?_)
    .unfold Act.put;split<;>exact b.defers
    .unfold Act.put;split<;>simp[b.size]
    .rw[hT]
     cases W:o.dst with
     | none =>
      exact(b.tm t).mono u.mono
     | some d =>
      have L:d<I.tmps.size:=by unfold uz at p;rw[W] at p;rw[b.size];simpa using p
      simp only[Env.put,Act.put,aa4,ab5]
      by_cases e:t=d
      .subst e;rw[aaT rfl,aaT rfl,aaT L];exact U
      .rw[aaR e,aaR (λq=>e q.symm)]
       have:=(b.tm t).mono u.mono
       simpa only [aa4] using this
    .simp only[cat,kE]
     by_cases X:id<(y (i+1)).length
     .rw[aaT X]
      split
      .rfl
      .rename_i hn
       have M:id<(y i).length:=by
        rcases abo id (y i).length with Y | Y
        .exact Y
        .exact absurd (.inr ⟨Y,X⟩) hn
       rw[aaT M,uD A M (λq=>hn (.inl q))]
     .rw[aaR X,aaR,aaR (by omega)]
      rintro (M | M)
      .have:=(Ap A M).1;omega
      .omega
    .rw[v id (by omega),m id s]
    .rw[v id (by omega)];exact K id (by omega) J
 have:=key all.length 0 (by omega) Z μ a w (by rw[O,z];exact D) (Ext.refl _ _ _ _) (λ_ _=>rfl) (λid h1 J=>H id (by rw[<-z];exact h1) J)
 rw[acd,List.range_eq_range']
 exact this
theorem dy.weaken {c:Code} {T q:Env} {h j:Heap} {e:Exit} (x:dy P n c T h e q j) {Z:Nat->Prop} {μ:Mu} {F:View} {a:Act} {w:World} {r:Nat->Prop} {d:Mu} {l:World} {m:Nat}
  (f:∀id,h.length<=id->id<j.length->μ id=none) (s:sY n Z μ F T h a w) (hex:Ext r d l m Z μ w) (hm:m<=h.length) (p:∀id b o s,d id=some (b,o,s)->b<l.heap.size):
  c.wp P (λe' t w'=>e'=e/\∃k μ',sY n k μ' F q j t w'/\Ext r d l m k μ' w'/\(∀id,id<h.length∨j.length<=id->μ' id=μ id)) a w:=
 wp_mono (x.2 Z μ F a w f s) λ_ _ _ ⟨he,k,μ',u,g,i⟩=>⟨he,k,μ',u,hex.trans g hm p,i⟩
theorem dy.seq {x y:Code} {T k l:Env} {h h1 f:Heap} {e:Exit} (g:dy P n x T h .normal k h1) (i:dy P n y k h1 e l f):dy P n (.seq x y) T h e l f:=by
 refine⟨abG g.1 i.1,λZ μ F a w b s=>wp_seq (wp_mono (g.2 Z μ F a w (λid h1 f=>b id h1 (abq f i.1)) s) ?_)⟩
 rintro e' o w' ⟨rfl,m,μ',j,hex,c⟩
 refine wp_mono (i.weaken (λid h1 f=>?_) j hex g.1 s.hr.lt) ?_
 .rw[c id (.inr h1)];exact b id (abG g.1 h1) f
 .rintro e' o w' ⟨he,m,μ',j,hex,d⟩
  refine⟨he,m,μ',j,hex,λid p=>?_⟩
  have:=g.1
  have:=i.1
  rw[d id (by omega),c id (by omega)]
theorem dy.Oi {x y:Code} {T c:Env} {h h1:Heap} {e:Exit} (d:dy P n x T h e c h1) (he:e≠.normal):dy P n (.seq x y) T h e c h1:=by
 refine⟨d.1,λZ μ F a w b s=>wp_seq (wp_mono (d.2 Z μ F a w b s) ?_)⟩
 rintro e' f w' ⟨rfl,h⟩
 cases e'<;>first | exact absurd rfl he | exact⟨rfl,h⟩
theorem dy.here {c:Code} {T:Env} {h:Heap} {e:Exit} (b:∀(Q:Exit->Act->World->Prop) a w,Q e a w->c.wp P Q a w):dy P n c T h e T h:=
 ⟨aaY _,λZ μ _ a w _ s=>b _ a w ⟨rfl,Z,μ,s,Ext.refl _ _ _ _,λ_ _=>rfl⟩⟩
theorem dy.skip {T:Env} {h:Heap} : dy P n .skip T h .normal T h:=.here λ_ _ _ h=>wp_skip h
theorem dy.label {T:Env} {h:Heap} {l:Nat} : dy P n (.label l) T h .normal T h:=.here λ_ _ _ h=>wp_label h
theorem dy.exit {T:Env} {h:Heap} {id:Nat} : dy P n (.exit id) T h (.exit id) T h:=.here λ_ _ _ h=>wp_exit h
theorem dy.goto {T:Env} {h:Heap} {l:Nat} : dy P n (.goto l) T h (.goto l) T h:=.here λ_ _ _ h=>wp_goto h
theorem dy.ret {T:Env} {h:Heap} : dy P n .ret T h .ret T h:=.here λ_ _ _ h=>wp_ret h
theorem dy.cond {c:Operand} {x y:Code} {T d:Env} {h f:Heap} {e:Exit} {t:Bool} (i:ev T c=.val (.bool t)) (g:dy P n (if t then x else y) T h e d f):dy P n (.cond c x y) T h e d f:=by
 refine⟨g.1,λZ μ F a w b s=>wp_cond (t:=t) ?_ (g.2 Z μ F a w b s)⟩
 have:=s.eval c
 rw[i] at this
 exact fe this
def sw (id:Nat):Exit->Exit
 | .exit id'=>if id'=id then .normal else .exit id'
 | e=>e
theorem dy.block {id:Nat} {c:Code} {T d:Env} {h f:Heap} {e:Exit} (g:dy P n c T h e d f):dy P n (.block id c) T h (sw id e) d f:=by
 refine⟨g.1,λZ μ F a w b s=>wp_block (wp_mono (g.2 Z μ F a w b s) ?_)⟩
 rintro e' j w' ⟨rfl,h⟩
 cases e' with
 | exit i =>
  simp only[Exit.inBlock,sw]
  split
  .exact⟨rfl,h⟩
  .exact⟨rfl,h⟩
 | _=>exact⟨rfl,h⟩
theorem Da {c:Code} {Q b:Exit->Act->World->Prop} (d:∀e a w,Q e a w->b e a w):∀(k:Nat) (a:Act) (w:World),Code.rounds P c Q k a w->Code.rounds P c b k a w
 | 0,_,_,h=>h
 | k+1,a,w,h=>by
  refine wp_mono h λe a w h=>?_
  cases e with
  | normal=>exact Da d k a w h
  | _=>exact d _ _ _ h
def sr (P:Program) (n:Nat) (c:Code) (T:Env) (h:Heap) (e:Exit) (T':Env) (h':Heap):Prop:=
 h.length<=h'.length/\∃k,∀Z μ F a w,(∀id,h.length<=id->id<h'.length->μ id=none)->sY n Z μ F T h a w ->
  Code.rounds P c (λe' a' w'=>e'=e/\∃Z' μ',sY n Z' μ' F T' h' a' w'/\Ext Z μ w h.length Z' μ' w'/\(∀id,id<h.length∨h'.length<=id->μ' id=μ id)) k a w
theorem sr.out {c:Code} {T d:Env} {h h1:Heap} {e:Exit} (f:dy P n c T h e d h1) (he:e≠.normal):sr P n c T h e d h1:=by
 refine⟨f.1,1,λZ μ F a w b s=>?_⟩
 refine wp_mono (f.2 Z μ F a w b s) ?_
 rintro e' g w' ⟨rfl,h⟩
 cases e'<;>first | exact absurd rfl he | exact⟨rfl,h⟩
theorem sr.step {c:Code} {T r t:Env} {h h1 g:Heap} {e:Exit} (i:dy P n c T h .normal r h1) (m:sr P n c r h1 e t g):sr P n c T h e t g:=by
 obtain⟨j,k,m⟩:=m
 refine⟨abG i.1 j,k+1,λZ μ F a w b s=>?_⟩
 refine wp_mono (i.2 Z μ F a w (λid h1 g=>b id h1 (abq g j)) s) ?_
 rintro e' o w' ⟨rfl,p,μ',q,hex,d⟩
 refine Da ?_ k o w' (m p μ' F o w' (λid h1 g=>?_) q)
 .rintro e' o w' ⟨he,p,μ',q,l,f⟩
  refine⟨he,p,μ',q,hex.trans l i.1 s.hr.lt,λid u=>?_⟩
  have:=i.1
  rw[f id (by omega),d id (by omega)]
 .rw[d id (.inr h1)];exact b id (abG i.1 h1) g
theorem dy.loop {c:Code} {T d:Env} {h f:Heap} {e:Exit} (g:sr P n c T h e d f):dy P n (.loop c) T h e d f:=by
 obtain⟨h1,k,i⟩:=g
 exact⟨h1,λZ μ F a w b s=>wp_loop_rounds k (i Z μ F a w b s)⟩
def jumps (P:Program) (c:Code) (Q:Exit->Act->World->Prop):Nat->Code->Act->World->Prop
 | 0,_,_,_=>False
 | k+1,x,a,w=>x.wp P (λe a w=>match e with
  | .goto l=>(match findLabel c l with
   | some rest=>jumps P c Q k rest a w
   | none=>Q (.goto l) a w)
  | e=>Q e a w) a w
theorem Wi {c:Code} {Q:Exit->Act->World->Prop} {a:Act} {w:World} (k:Nat) (h:jumps P c Q k c a w):(Code.scope c).wp P Q a w:=by
 intro b K cs
 have key:∀k x a w,jumps P c Q k x a w->∃e q w',Q e q w'/\Arrives P (lone (b.at a (.code x :: .inScope c::K)) cs w) b K cs e q w':=by
  intro k
  induction k with
  | zero=>intro x a w h;exact h.elim
  | succ k t =>
   intro x a w h
   obtain⟨e,f,g,i,d⟩:=h b (.inScope c::K) cs
   cases e with
   | normal=>exact⟨.normal,f,g,i,Steps.trans d (.one step_inScope)⟩
   | exit id=>exact⟨.exit id,f,g,i,λs hk=>d s (by simp[exitTo,hk])⟩
   | goto l =>
    simp only at i
    cases r:findLabel c l with
    | some rest =>
     rw[r] at i
     obtain⟨n,o,p,m,j⟩:=t rest f g i
     exact⟨n,o,p,m,.of_steps (d _ (by simp[gotoIn,r])) j⟩
    | none =>
     rw[r] at i
     exact⟨.goto l,f,g,i,λs hk=>d s (by simp[gotoIn,r,hk])⟩
   | ret=>exact⟨_,f,g,i,d⟩
   | panic u=>exact⟨_,f,g,i,d⟩
   | outgrown=>exact⟨_,f,g,i,d⟩
 obtain⟨e,q,w',i,d⟩:=key k c a w h
 exact⟨e,q,w',i,.of_steps (.one step_scope) d⟩
theorem EW {c:Code} {Q f:Exit->Act->World->Prop} (b:∀e a w,Q e a w->f e a w):∀(k:Nat) (x:Code) (a:Act) (w:World),jumps P c Q k x a w->jumps P c f k x a w
 | 0,_,_,_,h=>h
 | k+1,x,a,w,h=>by
  refine wp_mono h λe a w h=>?_
  cases e with
  | goto l =>
   simp only at h ⊢
   split
   .rename_i rest d;rw[d] at h;exact EW b k rest a w h
   .rename_i d;rw[d] at h;exact b _ _ _ h
  | _=>exact b _ _ _ h
def uG (P:Program) (n:Nat) (c x:Code) (T:Env) (h:Heap) (e:Exit) (T':Env) (h':Heap):Prop:=
 h.length<=h'.length/\∃k,∀Z μ F a w,(∀id,h.length<=id->id<h'.length->μ id=none)->sY n Z μ F T h a w ->
  jumps P c (λe' a' w'=>e'=e/\∃Z' μ',sY n Z' μ' F T' h' a' w'/\Ext Z μ w h.length Z' μ' w'/\(∀id,id<h.length∨h'.length<=id->μ' id=μ id)) k x a w
def ND (c:Code):Exit->Bool
 | .goto l=>(findLabel c l).isNone
 | _=>true
theorem uG.out {c x:Code} {T d:Env} {h h1:Heap} {e:Exit} (f:dy P n x T h e d h1) (he:ND c e=true):uG P n c x T h e d h1:=by
 refine⟨f.1,1,λZ μ F a w b s=>?_⟩
 refine wp_mono (f.2 Z μ F a w b s) ?_
 rintro e' g w' ⟨rfl,h⟩
 cases e' with
 | goto l =>
  simp only[ND,Option.isNone_iff_eq_none] at he
  simp only[he];exact⟨trivial,h⟩
 | _=>exact⟨rfl,h⟩
theorem uG.jump {c x rest:Code} {T t u:Env} {h h1 g:Heap} {e:Exit} {l:Nat} (i:dy P n x T h (.goto l) t h1) (v:findLabel c l=some rest) (o:uG P n c rest t h1 e u g):uG P n c x T h e u g:=by
 obtain⟨j,k,o⟩:=o
 refine⟨abG i.1 j,k+1,λZ μ F a w b s=>?_⟩
 refine wp_mono (i.2 Z μ F a w (λid h1 g=>b id h1 (abq g j)) s) ?_
 rintro e' p w' ⟨rfl,q,μ',r,hex,d⟩
 simp only[v]
 refine EW ?_ k rest p w' (o q μ' F p w' (λid h1 g=>?_) r)
 .rintro e' p w' ⟨he,q,μ',r,m,f⟩
  refine⟨he,q,μ',r,hex.trans m i.1 s.hr.lt,λid y=>?_⟩
  have:=i.1
  rw[f id (by omega),d id (by omega)]
 .rw[d id (.inr h1)];exact b id (abG i.1 h1) g
theorem dy.scope {c:Code} {T d:Env} {h f:Heap} {e:Exit} (g:uG P n c c T h e d f):dy P n (.scope c) T h e d f:=by
 obtain⟨h1,k,i⟩:=g
 exact⟨h1,λZ μ F a w b s=>Wi k (i Z μ F a w b s)⟩
def mT (vs:List V):Env:=λt=>vs.getD t .any
def vV (P:Program) (T:Env) (h:Heap):ResultVar->Option V
 | .tmp t=>some (T t)
 | .cell a t=>(oM P t (T a) h.view).map (·.1)
def nW (P:Program) (T:Env) (h:Heap):List ResultVar->Option (List V)
 | []=>some []
 | r::rest=>match vV P T h r,nW P T h rest with
  | some v,some vs=>some (v::vs)
  | _,_=>none
def Qn (P:Program) (fn:Func) (T:Env) (h:Heap):Option V:=match nW P T h fn.results.toList with
 | some [v]=>some v
 | some vs=>some (.bb vs)
 | none=>none
theorem OH {Z:Nat->Prop} {μ:Mu} {F:View} {T:Env} {h:Heap} {a:Act} {w:World} (s:sY n Z μ F T h a w) (f:ResultVar->Sem Value) (o:∀t,f (.tmp t)=pure (a.tmps.getD t undef))
  (q:∀p t,f (.cell p t)=(do loadVar t (<-asAddr (a.tmps.getD p undef)))):∀(l:List ResultVar) (vs:List V),nW P T h l=some vs ->
  ∃xs:List Value,(l.mapM f).run P w=.ok xs w/\gG Z μ w.heap vs xs
 | [],vs,d=>by
  simp only[nW,aaV] at d;subst d
  exact⟨[],rfl,rfl,λi hi=>by simp at hi⟩
 | r::l,vs,d=>by
  simp only[nW] at d
  split at d
  .rename_i v B h1 I
   simp only[aaV] at d;subst d
   obtain⟨xs,J,hr⟩:=OH s f o q l B I
   have one:∃x,(f r).run P w=.ok x w/\aD Z μ w.heap v x:=by
    cases r with
    | tmp t =>
     simp only[vV,aaV] at h1;subst h1
     rw[o]
     exact⟨_,rfl,s.tm t⟩
    | cell p t =>
     simp only[vV,aa0] at h1
     obtain⟨⟨v',eff,rd⟩,c,rfl⟩:=h1
     have hp:=s.tm p
     rw[q]
     unfold oM at c
     split at c
     .rename_i id i j C
      rw[C] at hp
      obtain⟨b,o0,sz,hm,g⟩:=pS hp
      split at c
      .rename_i esz es hH
       split at c
       .rename_i hi
        simp only[aa0,abf] at c
        obtain⟨D,k,rfl,_,_⟩:=c
        have u:=s.hr.obj id
        have z:cat h F id=.arr esz es:=by
         simp only[cat];rw[aaT (fg (by rw[hH];simp)),hH]
        rw[z] at u
        obtain⟨y,E,m⟩:=wL (P:=P) (rowOf u hm hi).2 k
        exact⟨y,by rw[g];simp[asAddr,E],m⟩
       .simp at c
      .simp at c
     .rename_i e j C
      rw[C] at hp
      obtain⟨b,off,K,A,g⟩:=vG hp
      simp only[aa0,abf] at c
      obtain⟨D,k,rfl,_,_⟩:=c
      obtain⟨y,E,m⟩:=wL (P:=P) A k
      exact⟨y,by rw[g];simp[asAddr,E],m⟩
     .simp at c
   obtain⟨x,G,H⟩:=one
   refine⟨x::xs,?_,⟨by simp[hr.1],λi hi=>?_⟩⟩
   .simp only[List.mapM_cons,Sem.run_bind]
    rw[G]
    simp only[Result.andThen_ok,Sem.run_bind]
    rw[J]
    rfl
   .cases i with
    | zero=>exact H
    | succ i=>simpa using hr.2 i (by simpa using hi)
  .simp at d
theorem bY.OU {f:FuncId} {fn:Func} {c:Code} {vs:List V} {C:Env} {h A:Heap} {e:Exit} {r:V} (L:P.funcs[f]?=some fn) (M:fn.body=some c) (Q:vs.length<=fn.ntmps)
  (K:dy P fn.ntmps c (mT vs) h e C A) (he:e=.ret∨e=.normal) (hr:Qn P fn C A=some r):bY P f vs h r A:=by
 refine⟨K.1,λZ μ F w xs j D l=>calls_of_wp L M ?_⟩
 have m:(xs.toArray++Array.replicate (fn.ntmps-xs.toArray.size) undef).size=fn.ntmps:=by
  have:=j.1;simp;omega
 have q:sY fn.ntmps Z μ F (mT vs) h { tmps:=xs.toArray++Array.replicate (fn.ntmps-xs.toArray.size) undef,defers:=[] } w:=by
  refine⟨rfl,m,λt=>?_,D⟩
  unfold mT
  by_cases E:t<vs.length
  .have:=j.2 t E
   have G:t<xs.length:=j.1▸E
   have g:(xs.toArray++Array.replicate (fn.ntmps-xs.toArray.size) undef).getD t undef=xs.getD t undef:=by
    rw[aa4,abM (by simpa using G)]
    simp[aaP]
   rw[g];exact this
  .have:vs.getD t .any=.any:=by simp[aaP,abr (Nat.le_of_not_lt E)]
   rw[this];exact .any _
 refine wp_mono (K.2 Z μ F _ w l q) ?_
 rintro e' o w' ⟨rfl,B,μ',s,hex,k⟩
 have u:∃x,(results fn o.tmps).run P w'=.ok x w'/\aD B μ' w'.heap r x:=by
  unfold Qn at hr
  have go:∀d,nW P C A fn.results.toList=some d->(match d with | [v]=>some v | vs=>some (.bb vs))=some r->∃x,(results fn o.tmps).run P w'=.ok x w'/\aD B μ' w'.heap r x:=by
   intro d h1 g
   unfold results
   obtain⟨n,H,b⟩:=OH s (fun
     | .tmp t=>pure (o.tmps.getD t undef)
     | .cell p t=>do loadVar t (<-asAddr (o.tmps.getD p undef))) (λ_=>rfl) (λ_ _=>rfl) _ _ h1
   rw[Array.mapM_eq_mapM_toList]
   simp only[Sem.run_bind,Sem.run_map]
   show ∃x,(((((fn.results.toList.mapM (fun
     | .tmp t=>pure (o.tmps.getD t undef)
     | .cell p t=>do loadVar t (<-asAddr (o.tmps.getD p undef)):ResultVar->Sem Value)).run P w').andThen λa w'=>.ok a.toArray w').andThen λa w'=>(pure (if h:a.size=1 then a[0] else Value.tuple a):Sem Value).run P w')=.ok x w')/\_
   rw[H]
   match d,n,b,g with
   | [v],[x],b,g =>
    simp only[aaV] at g
    subst g
    exact⟨x,rfl,b.2 0 (by simp)⟩
   | [],[],b,g =>
    simp only[aaV] at g
    subst g
    exact⟨.tuple #[],rfl,.bb _ _ rfl (λi hi=>by simp at hi)⟩
   | v1::v2::d,N::O::n,b,g =>
    simp only[aaV] at g
    subst g
    refine⟨.tuple (N::O::n).toArray,by simp,.bb _ _ (by simpa using b.1) (λi hi=>?_)⟩
    have:=b.2 i hi
    simpa [aa4,aaP] using this
   | [_],[],b,_=>exact absurd b.1 (by simp)
   | [_],_::_::_,b,_=>exact absurd b.1 (by simp)
   | [],_::_,b,_=>exact absurd b.1 (by simp)
   | _::_::_,[],b,_=>exact absurd b.1 (by simp)
   | _::_::_,[_],b,_=>exact absurd b.1 (by simp)
  split at hr
  .rename_i v I;exact go _ I hr
  .rename_i d J I
   refine go _ I ?_
   split
   .rename_i v;exact absurd rfl (J v)
   .exact hr
  .simp at hr
 obtain⟨x,y,z⟩:=u
 rcases he with rfl | rfl
 .exact⟨s.defers,x,y,x,B,μ',rfl,z,s.hr,hex,k⟩
 .exact⟨s.defers,x,y,x,B,μ',rfl,z,s.hr,hex,k⟩
end
inductive Tree:V->Prop
 | val (v:Value):Tree (.val v)
 | emp (k:Nat):Tree (.emp k)
 | eD:Tree .eD
 | aZ (es:List (List V)):(∀i j,i<es.length->j<(es.getD i []).length->Tree ((es.getD i []).getD j .any))->Tree (.aZ es)
 | aR (e:List V) (j:Nat):(∀k,k<e.length->Tree (e.getD k .any))->Tree (.aR e j)
 | fn (f:FuncId) (xs ys:List V):(∀i,i<xs.length->Tree (xs.getD i .any))->(∀i,i<ys.length->Tree (ys.getD i .any))->Tree (.fn f xs ys)
 | agg (cs:List V):(∀i,i<cs.length->Tree (cs.getD i .any))->Tree (.agg cs)
 | bb (cs:List V):(∀i,i<cs.length->Tree (cs.getD i .any))->Tree (.bb cs)
theorem zH {Z:Nat->Prop} {μ u:Mu} {hp:Array Obj} {v:V} {x:Value} (h:aD Z μ hp v x):Tree v->aD Z u hp v x:=by
 induction h with
 | any x=>intro t;exact .any x
 | val v w=>intro _;exact .val v w
 | emp k a h1 n=>intro _;exact .emp k a h1 n
 | eD a cap=>intro _;exact .eD a cap
 | jx a cap h1=>intro _;exact .jx a cap h1
 | aZ es b off esz cap c o hle m p _ g =>
  intro t
  cases t with
  | aZ _ l=>exact .aZ es b off esz cap c o hle m p (λi j hi s=>g i j hi s (l i j hi (by rw[m i hi];exact s)))
 | rA id off esz a=>intro t;cases t
 | sl id off len esz b o0 cap c e f hm hle z A=>intro t;cases t
 | ptr id i j b o0 esz hm=>intro t;cases t
 | aR e j b off c o p _ g =>
  intro t
  cases t with
  | aR _ _ l=>exact .aR e j b off c o p (λk hk=>g k hk (l k hk))
 | mp id b o0 esz hm=>intro t;cases t
 | fn f xs ys d y h1 n _ _ q r =>
  intro t
  cases t with
  | fn _ _ _ t1 t2=>exact .fn f xs ys d y h1 n (λi hi=>q i hi (t1 i hi)) (λi hi=>r i hi (t2 i hi))
 | agg cs d h1 _ g =>
  intro t
  cases t with
  | agg _ l=>exact .agg cs d h1 (λi hi=>g i hi (l i hi))
 | bb cs d h1 _ g =>
  intro t
  cases t with
  | bb _ l=>exact .bb cs d h1 (λi hi=>g i hi (l i hi))
inductive Fr (h:Heap):V->V->Prop
 | tree (v:V):Tree v->Fr h v v
 | emp (k:Nat):Fr h (.emp k) (.aZ [])
 | sl (id off len esz z:Nat) (es es':List (List V)):h.view id=.arr z es->off+len<=es.length->es'.length=len ->
  (∀i,i<len->(es'.getD i []).length=(es.getD (off+i) []).length) ->
  (∀i j,i<len->j<(es'.getD i []).length->Fr h ((es.getD (off+i) []).getD j .any) ((es'.getD i []).getD j .any))->Fr h (.sl id off len esz) (.aZ es')
 | ptr (id i j z:Nat) (es:List (List V)) (e':List V):h.view id=.arr z es->i<es.length->e'.length=(es.getD i []).length ->
  (∀k,k<e'.length->Fr h ((es.getD i []).getD k .any) (e'.getD k .any))->Fr h (.ptr id i j) (.aR e' j)
 | agg (cs cs':List V):cs'.length=cs.length->(∀i,i<cs.length->Fr h (cs.getD i .any) (cs'.getD i .any))->Fr h (.agg cs) (.agg cs')
 | bb (cs cs':List V):cs'.length=cs.length->(∀i,i<cs.length->Fr h (cs.getD i .any) (cs'.getD i .any))->Fr h (.bb cs) (.bb cs')
theorem Ga {h:Heap} {Z:Nat->Prop} {μ u:Mu} {F:View} {hp:Array Obj} (hr:eS Z μ hp (cat h F)) {v t:V} (fr:Fr h v t):∀ {x:Value},aD Z μ hp v x->aD (λb=>Z b∨kx μ b) u hp t x:=by
 have l:∀id,h.view id≠.dead->cat h F id=h.view id:=λid H=>by simp only[cat];rw[aaT (fg H)]
 induction fr with
 | tree v I =>
  intro x d
  have h1:aD Z u hp v x:=zH d I
  exact h1.mono ⟨λ_ h=>.inl h,λ_ _=>rfl,λ_ _ h=>h,gj.refl _⟩
 | emp k=>intro x d;cases d with | emp _ a=>exact .jx a 0 (λ_=>rfl)
 | sl id off len esz z es es' hH hle hlen J _ o =>
  intro x d
  cases d with
  | rA _ _ _ a =>
   have:es'=[]:=ace.1 hlen
   subst this
   exact .jx a 0 (λ_=>rfl)
  | sl _ _ _ _ b o0 cap c e f hm G O P =>
   have g:=hr.obj id
   rw[l id (by rw[hH];simp),hH] at g
   obtain⟨rfl,_,K,L⟩:=g b o0 esz hm
   have d:∀i,∃ci:Nat->Value,∀j,j<esz->i<len->cellAt hp b (o0+off*esz+i*esz+j)=some (ci j)/\aD Z μ hp ((es.getD (off+i) []).getD j .any) (ci j):=by
    intro i
    by_cases hi:i<len
    .obtain⟨ci,A⟩:=qb (n:=esz) (p:=λj x=>cellAt hp b (o0+off*esz+i*esz+j)=some x/\aD Z μ hp ((es.getD (off+i) []).getD j .any) x) (λj m=>by
      obtain⟨x,d,B⟩:=L (off+i) j (by omega) m
      rw[abz,<-abx] at d
      exact⟨x,d,B⟩)
     exact⟨ci,λj m _=>A j m⟩
    .exact⟨λ_=>undef,λj _ h=>absurd h hi⟩
   obtain⟨M,q⟩:=Classical.axiomOfChoice d
   have r:∀i,i<es'.length->(es'.getD i []).length=esz:=λi hi=>by rw[J i (by omega)];exact K _ (by omega)
   have:=aD.aZ (Z:=λb=>Z b∨kx μ b) (μ:=u) (hp:=hp) es' b (o0+off*esz) esz cap M (.inr ⟨id,o0,esz,hm⟩) (by omega) r
    (λi j hi m=>(q i j m (by omega)).1) (λi j hi m=>o i j (by omega) (by rw[r i hi];exact m) (q i j m (by omega)).2)
   rw[hlen] at this
   exact this
 | ptr id i j z es e' hH hi hlen _ o =>
  intro x d
  obtain⟨b,o0,sz,hm,rfl⟩:=pS (w:={ (default:World) with heap:=hp }) d
  have g:=hr.obj id
  rw[l id (by rw[hH];simp),hH] at g
  obtain⟨rfl,s⟩:=rowOf (w:={ (default:World) with heap:=hp }) g hm hi
  refine C2 (w:={ (default:World) with heap:=hp }) (.inr ⟨id,o0,sz,hm⟩) (λk hk=>?_)
  obtain⟨y,N,B⟩:=s k (by omega)
  exact⟨y,N,o k hk B⟩
 | agg cs C hlen _ o =>
  intro x d
  cases d with
  | agg _ D h1 E=>exact .agg _ _ (by omega) (λi hi=>o i (by omega) (E i (by omega)))
 | bb cs C hlen _ o =>
  intro x d
  cases d with
  | bb _ D h1 E=>exact .bb _ _ (by omega) (λi hi=>o i (by omega) (E i (by omega)))
def aC (P:Program) (f:FuncId) (vs:List V) (t:V):Prop:=
 ∀Z μ (w:World) (xs:List Value),gG Z μ w.heap vs xs->(∀b,Z b->b<w.heap.size) ->
  Calls P f xs.toArray w λe w'=>∃x Z',e=.returned x/\(∀ν,aD Z' ν w'.heap t x)/\fa w w'/\(∀b,Z b->Z' b)/\(∀b,Z' b->Z b∨(w.heap.size<=b/\b<w'.heap.size))/\gY w.heap w'.heap (λ_=>False)
theorem aC.zG {P:Program} {f:FuncId} {vs:List V} {r t:V} {l:Heap} (m:∀v∈vs,Tree v) (n:bY P f vs [] r l) (p:Fr l r t):aC P f vs t:=by
 intro Z μ w xs c q
 have d:gG Z (λ_=>none) w.heap vs xs:=⟨c.1,λi hi=>zH (c.2 i hi) (by
  simp only[aaP,aaQ hi,aa8]
  exact m _ (aaW _))⟩
 have g:eS Z (λ_=>none) w.heap (cat [] λ_=>.dead):=by
  exact⟨λ_=>trivial,λi j b o s A B _ h=>by simp at h,λid b o s h=>by simp at h,q,λid b o s h=>by simp at h⟩
 refine(n.2 Z _ _ w xs d g (λ_ _ _=>rfl)).mono ?_
 rintro e w' ⟨x,u,μ',rfl,y,k,hex,_⟩
 refine⟨x,λb=>u b∨kx μ' b,rfl,λC=>Ga k p y,hex.same,λb a=>.inl (hex.mono.z b a),?_,λb a _=>hex.frame b a (by rintro⟨_,_,_,h⟩;simp at h)⟩
 rintro b (a | ⟨id,o,s,a⟩)
 .rcases hex.V8 b a with h1 | h1
  .exact .inl h1
  .exact .inr ⟨h1,k.de b a⟩
 .rcases hex.GA _ _ _ _ a with h1 | ⟨_,h1 | ⟨_,_,_,h1⟩⟩
  .simp at h1
  .exact .inr ⟨h1,k.lt _ _ _ _ a⟩
  .simp at h1
theorem bY.ij {P:Program} {f:FuncId} {vs:List V} {t:V} (n:aC P f vs t) (h:Heap):bY P f vs h t h:=by
 refine⟨aaY _,λZ μ F w xs g hr j=>(n Z μ w xs g hr.de).mono ?_⟩
 rintro e w' ⟨x,m,rfl,p,k,q,a,i⟩
 have hm:iS Z m μ μ w.heap w'.heap:=⟨q,λb c=>i b (hr.de b c) (λx=>x),λ_ _ h=>h,i.mn⟩
 refine⟨x,m,μ,rfl,p μ,⟨λid=>(hr.obj id).mono hm rfl (λb o s d=>i b (hr.lt _ _ _ _ d) (λx=>x)),hr.inj,λid b o s d=>abq (hr.lt _ _ _ _ d) k.size,λb c=>?_,λid b o s d l=>?_⟩,
  ⟨k,hm,λb c _=>i b c (λx=>x),λb c=>?_,λ_ _ _ _ h=>.inl h⟩,λ_ _=>rfl⟩
 .rcases a b c with h1 | h1
  .exact abq (hr.de b h1) k.size
  .exact h1.2
 .rcases a b l with h1 | h1
  .exact hr.iK _ _ _ _ d h1
  .have:=hr.lt _ _ _ _ d;omega
 .rcases a b c with h1 | h1
  .exact .inl h1
  .exact .inr h1.1
def Hp (l:List Nat) (x:Nat):Bool:=!l.contains x
def G9 (a b:Rec):Bool:=
 a.wr.all (Hp b.rd)&&b.wr.all (Hp a.rd)&&(!a.call||b.wr.isEmpty)&&(!b.call||a.wr.isEmpty)&&b.wr.all λid=>!(decide (a.lo<=id)&&decide (id<a.hi))
section
variable {P:Program} {n:Nat}
theorem Ud {a b:Rec} (h:G9 a b=true):qx a b:=by
 unfold G9 at h
 simp only[aaZ,abj,Hp,ac5,acG] at h
 obtain⟨⟨⟨⟨h1,g⟩,e⟩,f⟩,i⟩:=h
 refine⟨λid d hm=>?_,λid d hm=>?_,λc=>?_,λc=>?_,λid d hm=>?_⟩
 .have:=h1 id d;simp at this;exact this hm
 .have:=g id d;simp at this;exact this hm
 .rcases e with e | e
  .rw[c] at e;simp at e
  .simpa using e
 .rcases f with f | f
  .rw[c] at f;simp at f
  .simpa using f
 .have:=i id d
  simp at this
  omega
end
end Gv
