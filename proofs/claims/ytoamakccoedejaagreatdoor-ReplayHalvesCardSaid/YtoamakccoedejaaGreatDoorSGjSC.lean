/-
  Part 3 of the proof: what the machine does and what the functions answer.
  Conditions: those that each lemma names.
-/
import Derived.Orders
import Derived.LoopN
import Derived.Scope
import Derived.Test.YtoamakccoedejaaGreatDoorSGjSB
set_option linter.unusedSimpArgs false
set_option linter.unusedVariables false
set_option maxRecDepth 100000
set_option maxHeartbeats 20000000
namespace Gv
open Go
def az.wr:az->List Nat
 | .none | .new _=>[]
 | .dp id _ | .cU id _=>[id]
def eF (μ:Mu) (b:Nat):Prop:=∃id o s,μ id=some (b,o,s)
structure Ext (Z:Nat->Prop) (μ:Mu) (w:World) (m:Nat) (Z':Nat->Prop) (μ':Mu) (w':World):Prop where
 same:bZ w w'
 mono:dC Z Z' μ μ' w.heap w'.heap
 frame:cT w.heap w'.heap (eF μ)
 C6:∀b,Z' b->Z b∨w.heap.size<=b
 qe:∀id b o s,μ' id=some (b,o,s)->μ id=some (b,o,s)∨(m<=id/\(w.heap.size<=b∨eF μ b))
theorem Ext.refl (Z:Nat->Prop) (μ:Mu) (w:World) (m:Nat):Ext Z μ w m Z μ w:=
 ⟨bZ.refl _,dC.refl _ _ _,λ_ _ _=>rfl,λ_ h=>.inl h,λ_ _ _ _ h=>.inl h⟩
theorem Ext.trans {Z Z' d:Nat->Prop} {μ μ' c:Mu} {w w' e:World} {m n:Nat} (h:Ext Z μ w m Z' μ' w') (k:Ext Z' μ' w' n d c e) (hm:m<=n) (q:∀id b o s,μ id=some (b,o,s)->b<w.heap.size):Ext Z μ w m d c e:=by
 have f:∀b,eF μ' b->w.heap.size<=b∨eF μ b:=by
  rintro b ⟨id,o,s,j⟩
  rcases h.qe _ _ _ _ j with a | ⟨_,a | a⟩
  .exact .inr ⟨_,_,_,a⟩
  .exact .inl a
  .exact .inr a
 refine⟨h.same.trans k.same,h.mono.trans k.mono,λb i p=>?_,λb i=>?_,λid b o s j=>?_⟩
 .rw[k.frame b (G2 i h.same.size) (λl=>?_),h.frame b i p]
  rcases f b l with a | a
  .omega
  .exact p a
 .rcases k.C6 b i with a | a
  .exact h.C6 b a
  .exact .inr (Hk h.same.size a)
 .rcases k.qe _ _ _ _ j with a | ⟨a,g⟩
  .exact h.qe _ _ _ _ a
  .refine .inr ⟨by omega,?_⟩
   rcases g with g | g
   .exact .inl (Hk h.same.size g)
   .exact f b g
def cat (h:ah) (F:View):View:=λid=>if id<h.length then h.view id else F id
def aN (P:Program) (f:FuncId) (vs:List V) (h:ah) (r:V) (h':ah):Prop:=
 h.length<=h'.length/\∀Z μ (F:View) (w:World) (xs:List Value),cL Z μ w.heap vs xs->dO Z μ w.heap (cat h F)->(∀id,h.length<=id->id<h'.length->μ id=none) ->
  Calls P f xs.toArray w λe w'=>∃x Z' μ',e=.returned x/\ae Z' μ' w'.heap r x/\dO Z' μ' w'.heap (cat h' F)/\Ext Z μ w h.length Z' μ' w'/\(∀id,id<h.length∨h'.length<=id->μ' id=μ id)
def ba (P:Program) (f:FuncId):Bool:=match P.funcs[f]? with
 | some fn=>fn.name != "runtime.NumGoroutine" && fn.body.isSome
 | none=>false
def jO (n:Nat) (o:Oper):Bool:=match o.dst with
 | some d=>d<n
 | none=>true
def bw (n:Nat) (all:List Oper) (T:Env) (o:Oper):Option Bool:=match o.guard with
 | none=>some true
 | some (j,want)=>match (all[j]?).bind (·.dst) with
  | some d=>if d<n then (match T d with
   | .val (.bool b)=>some (b==want)
   | .aA []=>some false
   | _=>none) else none
  | none=>none
inductive bK (P:Program) (n:Nat) (all:List Oper):Oper->Env->ah->V->ah->List Nat->List Nat->Bool->Prop
 | skip {o:Oper} {T:Env} {h:ah} : bw n all T o=some false->bK P n all o T h (.aA []) h [] [] false
 | op {o:Oper} {T:Env} {h:ah} {v:V} {ag:az} {rd:List Nat} : bw n all T o=some true->aP P o T h.view h.length=some (v,ag,rd)->bK P n all o T h v (ag.apply h) rd ag.wr false
 | eN {o:Oper} {T:Env} {h:ah} {e:TypeId} {x:Operand} : bw n all T o=some true->o.op=.box e x->(ev T x).cells.all au=true->bK P n all o T h (.aC (ev T x).cells 0) h [] [] false
 | df {o:Oper} {T:Env} {h:ah} {s d e:TypeId} {x:Operand} {st:ByteArray} : bw n all T o=some true->o.op=.convert s d x->P.underlying s=some .string->P.underlying d=some (.slice e)->P.underlying e=some (.int .u8)->ev T x=.val (.string st)->bK P n all o T h (.al (dt st)) h [] [] false
 | call {o:Oper} {T:Env} {h h':ah} {r:V} {f:Operand} {args:Array Operand} {ats:Array TypeId} {g:FuncId} {first cap:List V} {wr:List Nat} : bw n all T o=some true ->
  o.op=.call { callee:=.value f,args:=args,argTypes:=ats }->ev T f=.fn g first cap->ba P g=true->aN P g (first++args.toList.map (ev T)++cap) h r h' ->
  (∀id,id<h.length->¬ id∈wr->h'.view id=h.view id)->(∀id,id∈wr->id<h.length)->bK P n all o T h r h' [] wr true
theorem fb {h:ah} {id:Nat} (b:h.view id≠.dead):id<h.length:=by
 rcases Ho id h.length with a | a
 .exact a
 .exfalso;apply b;simp[ah.view,GQ,Hs a]
theorem ub {h:ah} {id:Nat} {o:cQ} (a:id<h.length):ah.view (h.set id o)=View.set h.view id o:=by
 funext k
 simp only[ah.view,View.set,GQ,Ir]
 by_cases e:id=k
 .subst e;simp[a]
 .rw[GV e,GV (λq=>e q.symm)]
theorem sj (h:ah) (o:cQ):ah.view (h++[o])=View.set h.view h.length o:=by
 funext k
 simp only[ah.view,View.set,GQ]
 by_cases e:k=h.length
 .subst e;simp
 .rw[GV e]
  rcases Ho k h.length with a | a
  .rw[Hz a]
  .rw[HN a,Hs (by simp;omega),Hs a]
theorem fX {h:ah} {ag:az} (a:∀id,id∈ag.wr->h.view id≠.dead):ah.view (ag.apply h)=ag.view h.view h.length:=by
 cases ag with
 | none=>rfl
 | new o=>exact sj h o
 | dp id o=>exact ub (fb (a id (by simp[az.wr])))
 | cU id o =>
  have:=fb (a id (by simp[az.wr]))
  simp only[az.apply,az.view]
  rw[sj,ub this]
  simp
theorem dr (h:ah) (ag:az):(ag.apply h).length=h.length+(match ag with | .new _ | .cU _ _=>1 | _=>0):=by
 cases ag<;>simp[az.apply]
theorem gJ {P:Program} {o:Oper} {T:Env} {H:View} {n:Nat} {v:V} {ag:az} {rd:List Nat} (h:aP P o T H n=some (v,ag,rd)):∀id,id∈ag.wr->H id≠.dead/\id∈rd:=by
 have b:∀ {d:V} {e:az} {r:List Nat},e.wr=[]->some (d,e,r)=some (v,ag,rd)->∀id,id∈ag.wr->H id≠.dead/\id∈rd:=by
  intro d e r he heq id g
  obtain⟨_,rfl,_⟩:=heq
  rw[he] at g;simp at g
 have pu:bJ P o T=some (v,ag,rd)->∀id,id∈ag.wr->H id≠.dead/\id∈rd:=by
  intro h
  unfold bJ at h
  split at h
  .split at h
   .split at h
    .exact b rfl h
    .simp at h
   .simp at h
  .simp at h
 have up:∀ {id:Nat} {j:cQ} {d:V} {r:List Nat},H id≠.dead->id∈r->some (d,az.dp id j,r)=some (v,ag,rd)->∀i,i∈ag.wr->H i≠.dead/\i∈rd:=by
  intro id j d r k l heq i hi
  obtain⟨_,rfl,rfl⟩:=heq
  simp[az.wr] at hi;subst hi;exact⟨k,l⟩
 have p:∀ {id:Nat} {j:cQ} {d:V} {r:List Nat},H id≠.dead->id∈r->some (d,az.cU id j,r)=some (v,ag,rd)->∀i,i∈ag.wr->H i≠.dead/\i∈rd:=by
  intro id j d r k l heq i hi
  obtain⟨_,rfl,rfl⟩:=heq
  simp[az.wr] at hi;subst hi;exact⟨k,l⟩
 have m:∀ {cs:List V},fZ cs n=some (v,ag,rd)->∀id,id∈ag.wr->H id≠.dead/\id∈rd:=by
  intro cs h
  unfold fZ at h
  split at h
  .exact b rfl h
  .simp at h
 have mp:∀ {α:Type} {x:Option α} {f:α->V} {r:List Nat},(x.map λa=>(f a,az.none,r))=some (v,ag,rd)->∀id,id∈ag.wr->H id≠.dead/\id∈rd:=by
  intro α x f r h
  simp only[GU] at h
  obtain⟨a,_,h⟩:=h
  exact b rfl (congrArg some h)
 unfold aP at h
 split at h
 .exact b rfl h
 .exact b rfl h
 .split at h
  .exact b rfl h
  .simp at h
 .split at h
  .exact m h
  .simp at h
 .exact m h
 .unfold lQ at h
  split at h
  .split at h
   .exact mp h
   .simp at h
  .split at h
   .exact mp h
   .simp at h
  .simp at h
 .unfold dI at h
  repeat' (split at h)
  all_goals first | exact b rfl h | (simp at h;done)
 .unfold gD at h
  repeat' (split at h)
  all_goals first | exact mp h | (simp at h;done)
 .unfold jc at h
  split at h
  .split at h
   .rename_i c
    split at h
    .exact up (by rw[c];simp) (by simp) h
    .simp at h
   .simp at h
  .simp at h
 .repeat' (split at h)
  all_goals first | exact b rfl h | (simp at h;done)
 .unfold fW at h
  repeat' (split at h)
  all_goals first | exact b rfl h | (simp at h;done)
 .unfold lP at h
  split at h
  .exact mp h
  .simp at h
 .unfold fT at h
  repeat' (split at h)
  all_goals first | exact b rfl h | (simp at h;done)
 .split at h
  .exact pu h
  .unfold kb at h
   repeat' (split at h)
   all_goals first | exact b rfl h | (simp at h;done)
 .unfold fS at h
  repeat' (split at h)
  all_goals first | exact b rfl h | (simp at h;done)
 .repeat' (split at h)
  all_goals first | exact b rfl h | (simp at h;done)
 .exact b rfl h
 .unfold cH at h
  repeat' (split at h)
  all_goals first | exact b rfl h | (simp at h;done)
 .unfold di at h
  split at h
  .split at h
   .rename_i c
    repeat' (split at h)
    all_goals first | exact up (by rw[c];simp) (by simp) h | (simp at h;done)
   .simp at h
  .simp at h
 .unfold di at h
  split at h
  .split at h
   .rename_i c
    repeat' (split at h)
    all_goals first | exact up (by rw[c];simp) (by simp) h | (simp at h;done)
   .simp at h
  .simp at h
 .unfold cx at h
  split at h
  .split at h
   .rename_i c
    repeat' (split at h)
    all_goals first | exact up (by rw[c];simp) (by simp) h | (simp at h;done)
   .simp at h
  .simp at h
 .unfold gn at h
  split at h
  .split at h
   .rename_i c
    repeat' (split at h)
    all_goals first | exact up (by rw[c];simp) (by simp) h | (simp at h;done)
   .simp at h
  .simp at h
 .repeat' (split at h)
  all_goals first | exact b rfl h | (simp at h;done)
 .repeat' (split at h)
  all_goals first | exact b rfl h | (simp at h;done)
 .unfold qE at h
  split at h
  .split at h
   .rename_i c
    split at h
    .exact up (by rw[c];simp) (by simp) h
    .exact b rfl h
   .simp at h
  .simp at h
 .split at h
  .unfold iJ at h
   split at h
   .repeat' (split at h)
    all_goals first | exact mp h | exact b rfl h | (simp at h;done)
   .repeat' (split at h)
    all_goals first | exact mp h | exact b rfl h | (simp at h;done)
   .split at h
    .split at h
     .split at h
      .rename_i c
       exact up (by rw[c];simp) (by simp) h
      .simp at h
     .simp at h
    .simp at h
   .simp at h
  .exact pu h
 .split at h
  .split at h
   .unfold lj at h
    repeat' (split at h)
    all_goals first | exact mp h | exact b rfl h | (simp at h;done)
   .simp at h
  .split at h
   .unfold gW at h
    split at h
    .split at h
     .simp at h
     .split at h
      .split at h
       all_goals first | exact b rfl h | (simp at h;done)
      .split at h
       .simp at h
       .split at h
        .split at h
         .exact b rfl h
         .simp at h
        .split at h
         .rename_i c
          split at h
          .exact p (by rw[c];simp) (by simp) h
          .simp at h
         .simp at h
        .simp at h
    .simp at h
   .split at h
    .unfold l5 at h
     split at h
     .split at h
      .split at h
       .exact b rfl h
       .split at h
        .exact b rfl h
        .simp at h
      .simp at h
     .simp at h
    .simp at h
  .split at h
   .unfold vu at h
    split at h
    .exact b rfl h
    .simp at h
   .simp at h
  .split at h
   .unfold qu at h
    split at h
    .split at h
     .simp at h
     .split at h
      .exact b rfl h
      .split at h
       .split at h
        .rename_i c
         split at h
         .exact up (by rw[c];simp) (by simp) h
         .simp at h
        .simp at h
       .simp at h
    .simp at h
   .simp at h
  .split at h
   .unfold lE at h
    split at h
    .split at h
     .rename_i c
      repeat' (split at h)
      all_goals first | exact up (by rw[c];simp) (by simp) h | exact b rfl h | (simp at h;done)
     .simp at h
    .simp at h
   .simp at h
  .split at h
   .unfold od at h
    split at h
    .split at h
     .exact b rfl h
     .split at h
      .split at h
       .rename_i c
        split at h
        .exact up (by rw[c];simp) (by simp) h
        .simp at h
       .simp at h
      .simp at h
    .simp at h
   .simp at h
  .exact pu h
  .exact pu h
  .exact pu h
  .exact pu h
  .exact pu h
  .simp at h
 .split at h
  .split at h
   .exact b rfl h
   .exact b rfl h
   .simp at h
  .exact pu h
 .exact pu h
 .exact pu h
 .simp at h
section
variable {P:Program} {n:Nat} {all:List Oper} {Z:Nat->Prop} {μ:Mu} {w:World}
theorem dO.congr {H H':View} {hp:Array Obj} (h:dO Z μ hp H) (e:∀id,μ id≠none->H' id=H id):dO Z μ hp H':=by
 refine⟨λid=>?_,λi j b o s g k d hi f=>?_,h.lt,h.aX,h.dQ,h.gl⟩
 .by_cases hm:μ id=none
  .cases l:H' id with
   | dead=>trivial
   | arr esz es=>intro b o0 s a;rw[hm] at a;simp at a
   | map es c=>intro b o0 s a;rw[hm] at a;simp at a
   | mg s p=>intro b o0 t a;rw[hm] at a;simp at a
  .rw[e id hm];exact h.obj id
 .rw[e i (by rw[hi];simp),e j (by rw[f];simp)]
  exact h.inj i j b o s g k d hi f
def eH (H:View) (h h':ah) (wr:List Nat):View:=λid=>if id∈wr∨(h.length<=id/\id<h'.length) then h'.view id else H id
theorem gZ.ext {μ':Mu} {w':World} {ag:az} {m:Nat} (he:gZ Z μ μ' w.heap w'.heap m ag) (k:bZ w w') (t:ag.fresh (μ m=none)) (aX:∀b,Z b->b<w.heap.size) (dQ:∀id b o s,μ id=some (b,o,s)->¬ Z b):
  Ext Z μ w m Z μ' w'/\(∀id,(∀(_:¬ (match ag with | .new _ | .cU _ _=>id=m | _=>False)),μ' id=μ id)):=by
 have hm:=he.mono t aX dQ
 cases ag with
 | none =>
  obtain⟨rfl,f⟩:=he
  exact⟨⟨k,hm,λb l _=>f b l (λx=>x),λ_ h=>.inl h,λ_ _ _ _ h=>.inl h⟩,λ_ _=>rfl⟩
 | new o =>
  obtain⟨b,o0,s,u,v,rfl,f,_⟩:=he
  refine⟨⟨k,hm,λb l _=>f b l (λx=>x),λ_ h=>.inl h,λid g y z d=>?_⟩,λid i=>by simp[Mu.set];intro e;exact absurd e i⟩
  by_cases e:id=m
  .subst e;simp[Mu.set] at d;exact .inr ⟨GX _,.inl (by omega)⟩
  .simp[Mu.set,e] at d;exact .inl d
 | dp id o =>
  obtain⟨b,o0,s,a,rfl,f,_,_⟩:=he
  exact⟨⟨k,hm,λg c j=>f g c (λe=>j ⟨id,o0,s,e▸a⟩),λ_ h=>.inl h,λ_ _ _ _ h=>.inl h⟩,λ_ _=>rfl⟩
 | cU id o =>
  obtain⟨b,o0,s,rfl,_,r⟩:=he
  refine⟨⟨k,hm,?_,λ_ h=>.inl h,λn g y z d=>?_⟩,λid i=>by simp[Mu.set];intro e;exact absurd e i⟩
  .rcases r with p | ⟨⟨q,s1,a⟩,f,_⟩
   .exact λg c _=>p.2.2 g c (λx=>x)
   .exact λg c j=>f g c (λe=>j ⟨id,q,s1,e▸a⟩)
  .by_cases e:n=m
   .subst e
    simp[Mu.set] at d
    obtain⟨rfl,_,_⟩:=d
    rcases r with p | ⟨⟨q,s1,a⟩,_,_⟩
    .exact .inr ⟨GX _,.inl p.1⟩
    .exact .inr ⟨GX _,.inr ⟨id,q,s1,a⟩⟩
   .simp[Mu.set,e] at d;exact .inl d
theorem uu {f:FuncId} {args:Array Value} (h:ba P f=true):(callFunc f args).run P w=.ok (.enter f args) w:=by
 unfold ba at h
 split at h
 .rename_i fn a
  simp only[G0,Is,ne_eq] at h
  have e:fn.body.isNone=false:=by cases b:fn.body<;>simp_all
  have c:¬ (fn.name = "runtime.NumGoroutine"):=by simpa using h.1
  have d:¬ (fn.body=none):=by cases b:fn.body<;>simp_all
  simp[callFunc,a,c,d]
 .simp at h
theorem ix {ops:Array Oper} (g:ops=all.toArray) {a:Act} (k:a.tmps.size=n) {T:Env} {o:Oper} {t:Bool} (e:bw n all T o=some t)
  (f:∀j want d,o.guard=some (j,want)->(all[j]?).bind (·.dst)=some d->ae Z μ w.heap (T d) (a.tmps.getD d undef)):Region.wanted o (yielded ops a.tmps)=t:=by
 unfold bw at e
 unfold Region.wanted
 cases i:o.guard with
 | none=>simp[i] at e;subst e;rfl
 | some p =>
  obtain⟨j,want⟩:=p
  simp only[i] at e ⊢
  cases l:(all[j]?).bind (·.dst) with
  | none=>simp[l] at e
  | some d =>
   simp only[l] at e
   split at e
   .rename_i m
    have h:=f j want d i l
    split at e
    .rename_i b r
     rw[r] at h
     have h:=bd h
     simp only[GS] at e
     subst e
     have c:d<a.tmps.size:=k▸m
     simp only[GW,G3 c,G1] at h
     have:yielded ops a.tmps j=some b:=by
      unfold yielded
      subst g
      simp only[Hp,l,Hj,G3 c,h]
     rw[this]
     cases b<;>cases want<;>rfl
    .rename_i r
     rw[r] at h
     have c:d<a.tmps.size:=k▸m
     generalize q:a.tmps.getD d undef=x at h
     cases h with
     | aA _ s v y =>
      simp only[GS] at e
      subst e
      have u:a.tmps[d]?=some (.tuple s):=by
       rw[G3 c]
       simp only[GW,G3 c,G1] at q
       rw[q]
      have:yielded ops a.tmps j=none:=by
       unfold yielded
       subst g
       simp only[Hp,l,Hj,u]
      rw[this]
      rfl
    .simp at e
   .simp at e
theorem nX {ops:Array Oper} (D:ops=all.toArray) {i:Nat} {o:Oper} (hi:ops[i]?=some o) {T:Env} {h h':ah} {v:V} {rd wr:List Nat} {call:Bool} (st:bK P n all o T h v h' rd wr call) {a:Act} {H:View}
  (J:a.tmps.size=n) (m:∀j want d,o.guard=some (j,want)->(all[j]?).bind (·.dst)=some d->ae Z μ w.heap (T d) (a.tmps.getD d undef))
  (hT:∀x∈o.op.operands,ae Z μ w.heap (ev T x) (a.eval x)) (hr:dO Z μ w.heap H) (b9:∀id,id∈rd->μ id≠none->H id=h.view id)
  (L:call=true->∀id,id<h.length->μ id≠none->H id=h.view id) (M:∀id,h.length<=id->id<h'.length->μ id=none)
  {K:Act->World->Prop} {Q:Exit->Act->World->Prop}
  (hK:∀x w' Z' μ',ae Z' μ' w'.heap v x->dO Z' μ' w'.heap (eH H h h' wr)->Ext Z μ w h.length Z' μ' w'->(∀id,id<h.length∨h'.length<=id->μ' id=μ id)->K (a.put o.dst x) w'):
  wpOp P ops Q i K a w:=by
 unfold wpOp
 rw[hi]
 cases st with
 | skip U =>
  have:=ix (w:=w) D J U m
  simp only[this,Hc,if_false]
  refine hK undef w Z μ (.aA _ _ rfl (λi hi=>by simp at hi)) (hr.congr λid c=>?_) (Ext.refl _ _ _ _) (λ_ _=>rfl)
  unfold eH
  rw[GV]
  rintro (S | S)
  .simp at S
  .omega
 | op U ca =>
  rename_i ag
  have:=ix (w:=w) D J U m
  simp only[this,if_true]
  left
  have F:=gJ ca
  have cv:=fX (λid c=>(F id c).1)
  have hlen:=dr h ag
  have a6:ag.fresh (μ h.length=none):=by
   cases ag with
   | new o=>exact M _ (GX _) (by rw[hlen];simp)
   | cU k o=>exact M _ (GX _) (by rw[hlen];simp)
   | _=>trivial
  .have cc:Ctx Z μ w.heap h.view rd h.length ag:=by
    refine⟨a6,λid c=>?_,hr.lt,hr.aX,hr.dQ⟩
    by_cases hm:μ id=none
    .have:=(dO.congr (H':=λk=>if k=id then h.view id else H k) hr (λk C=>by
      split
      .rename_i e;subst e;exact absurd hm C
      .rfl)).obj id
     simpa using this
    .rw[<-b9 id c hm];exact hr.obj id
   obtain⟨nx,w',μ',t,cf,l,u⟩:=E9 ca hT cc
   have hex:=u.ext l a6 hr.aX hr.dQ
   have N:dO Z μ' w'.heap (eH H h (ag.apply h) ag.wr):=by
    have O:∀id,id∈ag.wr->μ id≠none->H id≠.dead:=λid c hm=>by
     rw[b9 id (F id c).2 hm];exact(F id c).1
    have ch:∀id o,(ag=.dp id o∨ag=.cU id o)->H id≠.dead∨μ id=none:=by
     rintro id o (rfl | rfl)
     .by_cases hm:μ id=none
      .exact .inr hm
      .exact .inl (O id (by simp[az.wr]) hm)
     .by_cases hm:μ id=none
      .exact .inr hm
      .exact .inl (O id (by simp[az.wr]) hm)
    have h2:dO Z μ w.heap (λk=>if μ k=none then .mg .empty 0 else H k):=hr.congr (λk C=>by simp[C])
    have h3:=h2.ag a6 l.size u (λid o e=>by
     split
     .simp
     .rename_i C;exact(ch id o (.inl e)).resolve_right C) (λid o e=>by
     split
     .simp
     .rename_i C;exact(ch id o (.inr e)).resolve_right C)
    refine h3.congr (λid c=>?_)
    unfold eH
    rw[cv]
    cases ag with
    | none =>
     obtain⟨rfl,_⟩:=u
     simp only[az.wr,az.apply,az.view,List.not_mem_nil,false_or]
     rw[GV (by omega),GV c]
    | new o =>
     obtain⟨b,o0,s,_,_,rfl,_⟩:=u
     simp only[az.wr,az.view,View.set,List.not_mem_nil,false_or]
     by_cases e:id=h.length
     .subst e;rw[GZ ⟨GX _,by rw[hlen];simp⟩,GZ rfl,GZ rfl]
     .rw[GV (by rw[hlen];simp only;omega),GV e]
      have:μ id≠none:=by simpa [Mu.set,e] using c
      rw[GV this]
    | dp k o =>
     obtain⟨b,o0,s,_,rfl,_⟩:=u
     simp only[az.wr,az.view,View.set,HH]
     by_cases e:id=k
     .subst e;rw[GZ (.inl rfl),GZ rfl,GZ rfl]
     .rw[GV (by rw[hlen];simp only;omega),GV e,GV c]
    | cU k o =>
     obtain⟨b,o0,s,rfl,_⟩:=u
     simp only[az.wr,az.view,View.set,HH]
     by_cases e:id=h.length
     .subst e;rw[GZ (.inr ⟨GX _,by rw[hlen];simp⟩),GZ rfl,GZ rfl]
     .by_cases e2:id=k
      .subst e2;rw[GZ (.inl rfl),GV e,GZ rfl,GV e,GZ rfl]
      .rw[GV (by rw[hlen];simp only;omega),GV e,GV e2]
       have:μ id≠none:=by simpa [Mu.set,e] using c
       rw[GV this]
   have E:∀id,id<h.length∨(ag.apply h).length<=id->μ' id=μ id:=by
    intro id c
    refine hex.2 id (λW=>?_)
    cases ag with
    | none=>exact W
    | new o=>simp only at W;subst W;rw[hlen] at c;simp at c;omega
    | dp k o=>exact W
    | cU k o=>simp only at W;subst W;rw[hlen] at c;simp at c;omega
   unfold Oper.wp
   rw[t]
   rcases cf with ⟨x,rfl,hv⟩ | ⟨rfl,rfl⟩
   .exact hK x w' Z μ' hv N hex.1 E
   .exact hK undef w' Z μ' (.any _) N hex.1 E
 | eN U X a7 =>
  rename_i e x
  have:=ix (w:=w) D J U m
  simp only[this,if_true]
  left
  have A:=hT x (by rw[X];simp[Op.operands])
  have cj:=dq A a7
  have t:(execOp a.eval o).run P w=.ok (.value (.pointer (some ⟨w.heap.size,0,none⟩))) (w.alloc (.cells (a.eval x).cells e)):=by
   unfold execOp
   rw[X]
   simp[Instr.box,newVar,newRow]
  unfold Oper.wp
  rw[t]
  have B:cT w.heap (w.alloc (.cells (a.eval x).cells e)).heap (λ_=>False):=b6 _ _
  have ck:(w.alloc (.cells (a.eval x).cells e)).heap.size=w.heap.size+1:=by rw[heap_alloc];simp
  have hm:dC Z (λb=>Z b∨b=w.heap.size) μ μ w.heap (w.alloc (.cells (a.eval x).cells e)).heap:=⟨λ_ h=>.inl h,λb r=>B b (hr.aX b r) (λx=>x),λ_ _ h=>h,B.jo⟩
  have l:bZ w (w.alloc (.cells (a.eval x).cells e)):=eu _ _
  have a8:eH H h h []=H:=by
   funext id
   unfold eH
   rw[GV]
   rintro (S | S)
   .simp at S
   .omega
  refine hK _ _ (λb=>Z b∨b=w.heap.size) μ ?_ (a8.symm▸⟨λid=>?_,hr.inj,λid b o s A=>G2 (hr.lt _ _ _ _ A) l.size,λb r=>?_,λid b o s A bk=>?_,hr.gl.mono hm.z hm.zz⟩)
   ⟨l,hm,λb r _=>B b r (λx=>x),λb r=>?_,λ_ _ _ _ h=>.inl h⟩ (λ_ _=>rfl)
  .have:=ae.aC (Z:=λb=>Z b∨b=w.heap.size) (μ:=μ) (hp:=(w.alloc (.cells (a.eval x).cells e)).heap) (ev T x).cells 0 w.heap.size 0 (λk=>(a.eval x).cells.toList.getD k undef) (.inr rfl) (λk C=>?_) (λk C=>(cj.2 k C).mono hm)
   .simpa using this
   .have bl:k<(a.eval x).cells.size:=by have:=cj.1;simp at this;omega
    simp[cellAt,heap_alloc,GQ,bl]
  .exact(hr.obj id).mono hm rfl (λb o s A=>B b (hr.lt _ _ _ _ A) (λx=>x))
  .rcases r with r | rfl
   .exact G2 (hr.aX b r) l.size
   .omega
  .rcases bk with r | rfl
   .exact hr.dQ _ _ _ _ A r
   .have:=hr.lt _ _ _ _ A;omega
  .rcases r with r | rfl
   .exact .inl r
   .exact .inr (GX _)
 | df U X hs hd he cy =>
  rename_i s d e x st
  have:=ix (w:=w) D J U m
  simp only[this,if_true]
  left
  have A:=hT x (by rw[X];simp[Op.operands])
  rw[cy] at A
  have cC:=bd A
  have a1:st.size<=grownCap w st.size 0 e:=by unfold grownCap Question.cut;exact Nat.le_add_right _ _
  have t:=run_bytes_of_string w s d e st hs hd he
  generalize c2:grownCap w st.size 0 e=cap at t a1
  have cN:(bytesRow st cap).size=cap:=by
   simp only[bytesRow,Array.size_append,Array.size_map,Array.size_replicate]
   have:st.data.size=st.size:=rfl
   omega
  have bn:(execOp a.eval o).run P w=.ok (.value (.slice (some ⟨w.heap.size,0,none⟩) st.size cap)) (w.drew.alloc (.cells (bytesRow st cap) e (cap,cap+1))):=by
   unfold execOp
   rw[X]
   simp only[cC,Sem.run_bind,t,Result.andThen_ok,Sem.run_pure]
   rw[cN]
  unfold Oper.wp
  rw[bn]
  have G:(w.drew.alloc (.cells (bytesRow st cap) e (cap,cap+1))).heap=w.heap.push (.cells (bytesRow st cap) e (cap,cap+1)):=by rw[heap_alloc,cJ]
  have B:cT w.heap (w.drew.alloc (.cells (bytesRow st cap) e (cap,cap+1))).heap (λ_=>False):=by rw[G];exact b6 _ _
  have ck:(w.drew.alloc (.cells (bytesRow st cap) e (cap,cap+1))).heap.size=w.heap.size+1:=by rw[G];simp
  have hm:dC Z (λb=>Z b∨b=w.heap.size) μ μ w.heap (w.drew.alloc (.cells (bytesRow st cap) e (cap,cap+1))).heap:=⟨λ_ h=>.inl h,λb r=>B b (hr.aX b r) (λx=>x),λ_ _ h=>h,B.jo⟩
  have l:bZ w (w.drew.alloc (.cells (bytesRow st cap) e (cap,cap+1))):=fm _ _
  have a8:eH H h h []=H:=by
   funext id
   unfold eH
   rw[GV]
   rintro (S | S)
   .simp at S
   .omega
  refine hK _ _ (λb=>Z b∨b=w.heap.size) μ ?_ (a8.symm▸⟨λid=>?_,hr.inj,λid b o s A=>G2 (hr.lt _ _ _ _ A) l.size,λb r=>?_,λid b o s A bk=>?_,hr.gl.mono hm.z hm.zz⟩)
   ⟨l,hm,λb r _=>B b r (λx=>x),λb r=>?_,λ_ _ _ _ h=>.inl h⟩ (λ_ _=>rfl)
  .have Y:(dt st).length=st.size:=by rw[dt,G8,bsize]
   have:=ae.al (Z:=λb=>Z b∨b=w.heap.size) (μ:=μ) (hp:=(w.drew.alloc (.cells (bytesRow st cap) e (cap,cap+1))).heap) (dt st) w.heap.size 0 1 cap (λi _=>.int .u8 ((st.data.toList.getD i 0).toNat)) (.inr rfl) (by rw[Y];exact a1) ?_ ?_ ?_
   .rw[Y] at this;exact this
   .intro i hi
    have I:i<st.data.toList.length:=by simpa [dt] using hi
    simp only[dt,GQ,GY,GR I,Hb,G1,G5,Hh]
   .intro i j hi hj
    obtain rfl:j=0:=by omega
    have I:i<st.data.size:=by simpa [dt] using hi
    rw[G]
    simp only[cellAt,Array.getElem?_push_size,bytesRow,Nat.mul_one,Ic,Hy]
    rw[HO (by simpa using I),Array.getElem?_map,G3 I]
    simp[GQ,G3 I]
   .intro i j hi hj
    obtain rfl:j=0:=by omega
    have I:i<st.data.size:=by simpa [dt] using hi
    simp only[dt,GQ,GY,Ib,G3 I,Hb,G1,Hd]
    exact .val _ rfl
  .exact(hr.obj id).mono hm rfl (λb o s A=>B b (hr.lt _ _ _ _ A) (λx=>x))
  .rcases r with r | rfl
   .exact G2 (hr.aX b r) l.size
   .omega
  .rcases bk with r | rfl
   .exact hr.dQ _ _ _ _ A r
   .have:=hr.lt _ _ _ _ A;omega
  .rcases r with r | rfl
   .exact .inl r
   .exact .inr (GX _)
 | call U X hf a7 W hw cS =>
  rename_i f args c3 g first cap
  have:=ix (w:=w) D J U m
  simp only[this,if_true]
  left
  have bx:∀x∈args.toList,ae Z μ w.heap (ev T x) (a.eval x):=λx A=>hT x (by rw[X];simp[Op.operands,Call.operands];right;simpa using A)
  have b0:=hT f (by rw[X];simp[Op.operands,Call.operands])
  rw[hf] at b0
  generalize cV:a.eval f=fx at b0
  cases b0 with
  | fn _ _ _ ao bs S h2 h3 h4 =>
   have t:(execOp a.eval o).run P w=.ok (.enter g (ao++args.map a.eval++bs)) w:=by
    unfold execOp
    rw[X]
    simp only[resolve,cV,Deferred.ofValue,Sem.run_bind,Sem.run_pure,Result.andThen_ok,invoke,uu a7]
   unfold Oper.wp
   rw[t]
   have c0:(ao++args.map a.eval++bs)=(ao.toList++args.toList.map a.eval++bs.toList).toArray:=by
    apply Array.ext';simp
   rw[c0]
   have b1:cL Z μ w.heap (first++args.toList.map (ev T)++cap) (ao.toList++args.toList.map a.eval++bs.toList):=by
    have app:∀ {p q:List V} {x y:List Value},cL Z μ w.heap p x->cL Z μ w.heap q y->cL Z μ w.heap (p++q) (x++y):=by
     intro p q x y hp hq
     refine⟨by simp[hp.1,hq.1],λk C=>?_⟩
     simp only[GQ]
     by_cases b2:k<p.length
     .rw[Hz b2,Hz (hp.1▸b2)]
      simpa only [GQ] using hp.2 k b2
     .rw[HN (by omega),HN (by rw[<-hp.1];omega),<-hp.1]
      simpa only [GQ] using hq.2 (k-p.length) (by simp at C;omega)
    refine app (app ⟨by simpa using S,λk C=>?_⟩ ⟨by simp,λk C=>?_⟩) ⟨by simpa using h2,λk C=>?_⟩
    .simpa [GQ,GW] using h3 k C
    .have bl:k<args.toList.length:=by simpa using C
     have:=bx args.toList[k] (G4 _)
     simp only[GQ,GY,GR bl,Hb,G1]
     exact this
    .simpa [GQ,GW] using h4 k C
   have cu:dO Z μ w.heap (cat h H):=hr.congr (λid c=>by
    unfold cat;split
    .rename_i c1;exact(L rfl id c1 c).symm
    .rfl)
   refine(W.2 Z μ H w _ b1 cu M).mono ?_
   rintro e w' ⟨x,Z',μ',rfl,hv,hh,hex,E⟩
   refine hK x w' Z' μ' hv (hh.congr λid c=>?_) hex E
   unfold eH cat
   by_cases R:id∈wr∨(h.length<=id/\id<h'.length)
   .rw[GZ R]
    rcases R with h5 | h5
    .by_cases Y:id<h'.length
     .rw[GZ Y]
     .exact absurd (G2 (cS id h5) W.1) Y
    .rw[GZ h5.2]
   .rw[GV R]
    by_cases Y:id<h'.length
    .rw[GZ Y]
     have b8:id<h.length:=by
      rcases Ho id h.length with h6 | h6
      .exact h6
      .exact absurd (.inr ⟨h6,Y⟩) R
     rw[hw id b8 (λq=>R (.inl q))]
     exact L rfl id b8 (by rw[<-E id (.inl b8)];exact c)
    .rw[GV Y]
end
structure Rec where
 rd:List Nat
 wr:List Nat
 call:Bool
 lo:Nat
 hi:Nat
inductive Tr (P:Program) (n:Nat) (all:List Oper):List Oper->Env->ah->List Rec->Env->ah->Prop
 | nil {T:Env} {h:ah} : Tr P n all [] T h [] T h
 | cons {o:Oper} {rest:List Oper} {T T':Env} {h h1 h':ah} {v:V} {rd wr:List Nat} {call:Bool} {recs:List Rec} : bK P n all o T h v h1 rd wr call->jO n o=true ->
  Tr P n all rest (T.put o.dst v) h1 recs T' h'->Tr P n all (o::rest) T h (⟨rd,wr,call,h.length,h1.length⟩::recs) T' h'
def mask (o:Oper) (acc:List Nat):Nat:=o.after.toList.foldl (λs e=>if Region.binds .any e then s ||| 2 ^ e.on ||| acc.getD e.on 0 else s) 0
def cP:List Oper->List Nat->List Nat
 | [],acc=>acc
 | o::r,acc=>cP r (acc++[mask o acc])
def tmpsOf (o:Oper):List Nat:=o.op.operands.toList.filterMap fun | .tmp t=>some t | _=>none
def hE (all:List Oper) (o:Oper):List Nat:=o.dst.toList++tmpsOf o++(match o.guard with
 | some (j,_)=>((all[j]?).bind (·.dst)).toList
 | none=>[])
def zb (d:Option Nat) (l:List Nat):Bool:=match d with
 | some t=>!l.contains t
 | none=>true
def ordered (b:List Nat) (i k:Nat):Bool:=(b.getD k 0).testBit i
def fC (all:List Oper):Bool:=
 let b:=cP all []
 all.zipIdx.all λ(ok,k) =>
  (ok.after.toList.all λe=>!Region.binds .any e||decide (e.on<k)) &&
  all.zipIdx.all λ(oi,i)=>!decide (i<k)||ordered b i k||(zb oi.dst (hE all ok)&&zb ok.dst (hE all oi))
structure fE (a b:Rec):Prop where
 FJ:∀id,id∈a.wr->¬ id∈b.rd
 Ey:∀id,id∈b.wr->¬ id∈a.rd
 FC:a.call=true->b.wr=[]
 call2:b.call=true->a.wr=[]
 new:∀id,id∈b.wr->¬ (a.lo<=id/\id<a.hi)
def ld (all:List Oper) (recs:List Rec):Prop:=∀i k a b,i<k->recs[i]?=some a->recs[k]?=some b->ordered (cP all []) i k=false->fE a b
theorem sO (l:List Edge) (acc:List Nat) (s j:Nat):(l.foldl (λs e=>if Region.binds .any e then s ||| 2 ^ e.on ||| acc.getD e.on 0 else s) s).testBit j=true ->
  s.testBit j=true∨∃e∈l,Region.binds .any e=true/\(j=e.on∨(acc.getD e.on 0).testBit j=true):=by
 induction l generalizing s with
 | nil=>intro h;exact .inl h
 | cons e l d =>
  intro h
  simp only[H0] at h
  rcases d _ h with a | ⟨e',c,f⟩
  .by_cases b:Region.binds .any e=true
   .rw[GZ b,Nat.testBit_or,Nat.testBit_or,Nat.testBit_two_pow] at a
    simp only[Ie,G7] at a
    rcases a with (a | a) | a
    .exact .inl a
    .exact .inr ⟨e,List.mem_cons_self,b,.inl a.symm⟩
    .exact .inr ⟨e,List.mem_cons_self,b,.inr a⟩
   .rw[GV b] at a;exact .inl a
  .exact .inr ⟨e',Hw _ c,f⟩
theorem pP:∀(l:List Oper) (acc:List Nat) (k:Nat),k<acc.length->(cP l acc).getD k 0=acc.getD k 0
 | [],acc,k,_=>rfl
 | o::r,acc,k,h=>by
  rw[cP,pP r _ k (by simp;omega)]
  simp[GQ,Hz h]
theorem rT:∀(l:List Oper) (acc:List Nat) (k:Nat) (o:Oper),l[k]?=some o->∃a,(cP l acc).getD (acc.length+k) 0=mask o a/\a.length=acc.length+k/\∀m,m<a.length->a.getD m 0=(cP l acc).getD m 0
 | [],acc,k,o,h=>by simp at h
 | p::r,acc,0,o,h=>by
  simp at h;subst h
  refine⟨acc,?_,by simp,λm hm=>?_⟩
  .rw[cP,pP r _ _ (by simp)]
   simp[GQ]
  .rw[cP,pP r _ _ (by simp;omega)]
   simp[GQ,Hz hm]
 | p::r,acc,k+1,o,h=>by
  have b:r[k]?=some o:=by simpa using h
  obtain⟨a,c,d,f⟩:=rT r (acc++[mask p acc]) k o b
  refine⟨a,?_,by simp at d;omega,λm hm=>?_⟩
  .have e:(acc++[mask p acc]).length+k=acc.length+(k+1):=by simp;omega
   rw[<-e];exact c
  .rw[cP];exact f m hm
theorem mG {all:List Oper} {L:Nat->Prop} (p:∀k o,all[k]?=some o->∀e∈o.after.toList,Region.binds .any e=true->e.on<k)
  (q:∀k o,all[k]?=some o->L k->∀e∈o.after.toList,Region.binds .any e=true->L e.on):∀k o j,all[k]?=some o->L k->ordered (cP all []) j k=true->L j:=by
 intro k
 induction k using Nat.strongRecOn with
 | _ k r =>
  intro o j d f g
  unfold ordered at g
  obtain⟨l,m,s,t⟩:=rT all [] k o d
  simp only[Hh,Hy] at m s
  rw[m] at g
  rcases sO _ _ _ _ g with a | ⟨e,he,b,a⟩
  .simp at a
  .have h:=p k o d e he b
   have c:=q k o d f e he b
   rcases a with a | a
   .rw[a];exact c
   .have n:k<all.length:=by
     rcases Ho k all.length with i | i
     .exact i
     .simp[Hs i] at d
    refine r e.on h _ j (GR (by omega)) c ?_
    unfold ordered
    rw[<-t e.on (by omega)]
    exact a
theorem u9 {all:List Oper} {L:Nat->Prop} (h:∀k o,all[k]?=some o->∀e∈o.after.toList,Region.binds .any e=true->e.on<k)
  (n:∀k o,all[k]?=some o->L k->∀e∈o.after.toList,Region.binds .any e=true->L e.on) {k:Nat} {o:Oper} (d:all[k]?=some o) (hr:∀e∈o.after.toList,Region.binds .any e=true->L e.on)
  {j:Nat} (f:ordered (cP all []) j k=true):L j:=by
 unfold ordered at f
 obtain⟨i,l,p,q⟩:=rT all [] k o d
 simp only[Hh,Hy] at l p
 rw[l] at f
 rcases sO _ _ _ _ f with a | ⟨e,he,b,a⟩
 .simp at a
 .have r:=h k o d e he b
  have c:=hr e he b
  rcases a with a | a
  .rw[a];exact c
  .have m:k<all.length:=by
    rcases Ho k all.length with g | g
    .exact g
    .simp[Hs g] at d
   refine mG h n e.on _ j (GR (by omega)) c ?_
   unfold ordered
   rw[<-q e.on (by omega)]
   exact a
theorem wh {all:List Oper} (h:fC all=true):(∀k o,all[k]?=some o->∀e∈o.after.toList,Region.binds .any e=true->e.on<k) /\
  ∀i k a ok,i<k->all[i]?=some a->all[k]?=some ok->ordered (cP all []) i k=false->(∀t,a.dst=some t->¬ t∈hE all ok)/\(∀t,ok.dst=some t->¬ t∈hE all a):=by
 unfold fC at h
 have mem:∀k o,all[k]?=some o->(o,k)∈all.zipIdx:=by
  intro k o b
  rw[Hu];exact b
 refine⟨λk o b e he g=>?_,λi k a ok c hi b j=>?_⟩
 .have:=Hg.1 h _ (mem k o b)
  simp only[G0] at this
  have:=Hg.1 this.1 e he
  simpa [g] using this
 .have:=Hg.1 h _ (mem k ok b)
  simp only[G0] at this
  have:=Hg.1 this.2 _ (mem i a hi)
  simp only[c,decide_true,Iq,Bool.false_or,j,G0] at this
  have f:∀(d:Option Nat) (l:List Nat),zb d l=true->∀t,d=some t->¬ t∈l:=by
   intro d l m t n
   subst n
   simpa [zb] using m
  exact⟨f _ _ this.1,f _ _ this.2⟩
theorem sK {P:Program} {n:Nat} {all:List Oper}:∀(l:List Oper) (T:Env) (h:ah) (a:List Rec) (T':Env) (d:ah),Tr P n all l T h a T' d ->
  a.length=l.length/\∃(c:Nat->Env) (b:Nat->ah) (vs:Nat->V),c 0=T/\b 0=h/\c l.length=T'/\b l.length=d /\
   ∀i o r,l[i]?=some o->a[i]?=some r->bK P n all o (c i) (b i) (vs i) (b (i+1)) r.rd r.wr r.call/\jO n o=true/\c (i+1)=(c i).put o.dst (vs i)/\r.lo=(b i).length/\r.hi=(b (i+1)).length:=by
 intro l T h a T' d k
 induction k with
 | nil=>exact⟨rfl,λ_=>_,λ_=>_,λ_=>.any,rfl,rfl,rfl,rfl,λi o r h=>by simp at h⟩
 | @cons o rest T T' h w d v rd wr call a e m _ p =>
  obtain⟨q,c,b,vs,g,j,s,t,hi⟩:=p
  refine⟨by simp[q],λi=>match i with | 0=>T | i+1=>c i,λi=>match i with | 0=>h | i+1=>b i,λi=>match i with | 0=>v | i+1=>vs i,rfl,rfl,s,t,?_⟩
  intro i u r f hr
  cases i with
  | zero =>
   simp at f hr
   subst f hr
   exact⟨by simpa only [g,j] using e,m,by simp only[g],rfl,by simp only[j]⟩
  | succ i =>
   exact hi i u r (by simpa using f) (by simpa using hr)
theorem kG {P:Program} {n:Nat} {all:List Oper} {o:Oper} {T:Env} {h a:ah} {v:V} {rd wr:List Nat} {call:Bool} (st:bK P n all o T h v a rd wr call):h.length<=a.length:=by
 cases st with
 | skip=>exact GX _
 | op _ _=>rw[dr];exact Nat.le_add_right _ _
 | eN _ _ _=>exact GX _
 | df _ _ _ _ _ _=>exact GX _
 | call _ _ _ _ b _ _=>exact b.1
theorem jD {P:Program} {n:Nat} {all:List Oper} {o:Oper} {T:Env} {h c:ah} {v:V} {rd wr:List Nat} {call:Bool} (st:bK P n all o T h v c rd wr call) {id:Nat} (a:id<h.length) (hw:¬ id∈wr):c.view id=h.view id:=by
 cases st with
 | skip=>rfl
 | op f b =>
  rename_i ag
  rw[fX (λid a=>(gJ b id a).1)]
  cases ag with
  | none=>rfl
  | new o=>simp only[az.view,View.set];rw[GV (by omega)]
  | dp k o=>simp only[az.view,View.set];rw[GV (λe=>hw (by simp[az.wr,e]))]
  | cU k o=>simp only[az.view,View.set];rw[GV (by omega),GV (λe=>hw (by simp[az.wr,e]))]
 | eN _ _ _=>rfl
 | df _ _ _ _ _ _=>rfl
 | call _ _ _ _ _ d _=>exact d id a hw
theorem me {P:Program} {n:Nat} {all:List Oper} {o:Oper} {T:Env} {h b:ah} {v:V} {rd wr:List Nat} {call:Bool} (st:bK P n all o T h v b rd wr call) {id:Nat} (hw:id∈wr):id<h.length/\(call=false->id∈rd):=by
 cases st with
 | skip=>simp at hw
 | op d a=>exact⟨fb (gJ a id hw).1,λ_=>(gJ a id hw).2⟩
 | eN _ _ _=>simp at hw
 | df _ _ _ _ _ _=>simp at hw
 | call _ _ _ _ _ _ c=>exact⟨c id hw,λh=>by simp at h⟩
theorem uH {H:View} {x:V} {xs:List (List V)} {rd:List Nat} (h:bc H x=some (xs,rd)):∀id,id∈rd->H id≠.dead:=by
 intro id a
 unfold bc at h
 split at h
 .simp at h;rw[h.2] at a;simp at a
 .simp at h;rw[h.2] at a;simp at a
 .simp at h;rw[h.2] at a;simp at a
 .simp at h;rw[h.2] at a;simp at a
 .split at h
  .rename_i b
   split at h
   .simp at h;rw[<-h.2] at a;simp at a;subst a;rw[b];simp
   .simp at h
  .simp at h
 .simp at h;rw[h.2] at a;simp at a
 .simp at h
theorem Fb {P:Program} {o:Oper} {T:Env} {H:View} {n:Nat} {v:V} {ag:az} {rd:List Nat} (h:aP P o T H n=some (v,ag,rd)):∀id,id∈rd->H id≠.dead:=by
 have b:∀ {g:V} {e:az},some (g,e,([]:List Nat))=some (v,ag,rd)->∀id,id∈rd->H id≠.dead:=by
  intro g e heq id d
  simp only[GS,G6] at heq
  rw[<-heq.2.2] at d;simp at d
 have one:∀ {k:Nat} {g:V} {e:az},H k≠.dead->some (g,e,[k])=some (v,ag,rd)->∀id,id∈rd->H id≠.dead:=by
  intro k g e j heq id d
  simp only[GS,G6] at heq
  rw[<-heq.2.2] at d;simp at d;subst d;exact j
 have mp:∀ {α:Type} {x:Option α} {f:α->V},(x.map λa=>(f a,az.none,([]:List Nat)))=some (v,ag,rd)->∀id,id∈rd->H id≠.dead:=by
  intro α x f h
  simp only[GU] at h
  obtain⟨a,_,h⟩:=h
  exact b (congrArg some h)
 have p:∀ {α:Type} {x:Option α} {f:α->V} {k:Nat},H k≠.dead->(x.map λa=>(f a,az.none,[k]))=some (v,ag,rd)->∀id,id∈rd->H id≠.dead:=by
  intro α x f k j h
  simp only[GU] at h
  obtain⟨a,_,h⟩:=h
  exact one j (congrArg some h)
 have pu:bJ P o T=some (v,ag,rd)->∀id,id∈rd->H id≠.dead:=by
  intro h
  unfold bJ at h
  repeat' (split at h)
  all_goals first | exact b h | (simp at h;done)
 have s:∀ {cs:List V},fZ cs n=some (v,ag,rd)->∀id,id∈rd->H id≠.dead:=by
  intro cs h
  unfold fZ at h
  split at h
  .exact b h
  .simp at h
 have l:∀ {x:V} {xs:List (List V)} {r:List Nat} {g:V} {e:az},bc H x=some (xs,r)->some (g,e,r)=some (v,ag,rd)->∀id,id∈rd->H id≠.dead:=by
  intro x xs r g e he heq id d
  simp only[GS,G6] at heq
  rw[<-heq.2.2] at d
  exact uH he id d
 have m:∀ {x:V} {xs:List (List V)} {r:List Nat} {g:V} {e:az} {k:Nat},bc H x=some (xs,r)->H k≠.dead->some (g,e,k::r)=some (v,ag,rd)->∀id,id∈rd->H id≠.dead:=by
  intro x xs r g e k he j heq id d
  simp only[GS,G6] at heq
  rw[<-heq.2.2] at d
  rcases Hi.1 d with q | q
  .subst q;exact j
  .exact uH he id q
 unfold aP at h
 split at h
 .exact b h
 .exact b h
 .split at h
  .exact b h
  .simp at h
 .split at h
  .exact s h
  .simp at h
 .exact s h
 .unfold lQ at h
  split at h
  .split at h
   .exact mp h
   .simp at h
  .split at h
   .exact mp h
   .simp at h
  .simp at h
 .unfold dI at h
  repeat' (split at h)
  all_goals first | exact b h | (simp at h;done)
 .unfold gD at h
  split at h
  .split at h
   .rename_i c
    split at h
    .exact p (by rw[c];simp) h
    .simp at h
   .simp at h
  .exact mp h
  .simp at h
 .unfold jc at h
  split at h
  .split at h
   .rename_i c
    split at h
    .exact one (by rw[c];simp) h
    .simp at h
   .simp at h
  .simp at h
 .repeat' (split at h)
  all_goals first | exact b h | (simp at h;done)
 .unfold fW at h
  repeat' (split at h)
  all_goals first | exact b h | (simp at h;done)
 .unfold lP at h
  split at h
  .exact mp h
  .simp at h
 .unfold fT at h
  repeat' (split at h)
  all_goals first | exact b h | (simp at h;done)
 .split at h
  .exact pu h
  .unfold kb at h
   repeat' (split at h)
   all_goals first | exact b h | (simp at h;done)
 .unfold fS at h
  repeat' (split at h)
  all_goals first | exact b h | (simp at h;done)
 .repeat' (split at h)
  all_goals first | exact b h | (simp at h;done)
 .exact b h
 .unfold cH at h
  simp only at h
  split at h
  .simp at h
  .split at h
   .simp at h
   .split at h
    .split at h
     .rename_i c
      repeat' (split at h)
      all_goals first | exact one (by rw[c];simp) h | (simp at h;done)
     .simp at h
    .simp at h
 .unfold di at h
  split at h
  .split at h
   .rename_i c
    repeat' (split at h)
    all_goals first | exact one (by rw[c];simp) h | (simp at h;done)
   .simp at h
  .simp at h
 .unfold di at h
  split at h
  .split at h
   .rename_i c
    repeat' (split at h)
    all_goals first | exact one (by rw[c];simp) h | (simp at h;done)
   .simp at h
  .simp at h
 .unfold cx at h
  split at h
  .split at h
   .rename_i c
    repeat' (split at h)
    all_goals first | exact one (by rw[c];simp) h | (simp at h;done)
   .simp at h
  .simp at h
 .unfold gn at h
  split at h
  .split at h
   .rename_i c
    repeat' (split at h)
    all_goals first | exact one (by rw[c];simp) h | (simp at h;done)
   .simp at h
  .simp at h
 .repeat' (split at h)
  all_goals first | exact b h | (simp at h;done)
 .repeat' (split at h)
  all_goals first | exact b h | (simp at h;done)
 .unfold qE at h
  split at h
  .split at h
   .rename_i c
    split at h
    .exact one (by rw[c];simp) h
    .exact one (by rw[c];simp) h
   .simp at h
  .simp at h
 .split at h
  .unfold iJ at h
   split at h
   .split at h
    .split at h
     .rename_i he _
      simp only[GU] at h
      obtain⟨a,_,h⟩:=h
      exact l he (congrArg some h)
     .simp at h
    .simp at h
   .repeat' (split at h)
    all_goals first | exact b h | (simp at h;done)
   .split at h
    .split at h
     .split at h
      .rename_i c
       exact one (by rw[c];simp) h
      .simp at h
     .simp at h
    .simp at h
   .simp at h
  .exact pu h
 .split at h
  .split at h
   .unfold lj at h
    split at h
    .exact mp h
    .split at h
     .split at h
      .rename_i c
       exact one (by rw[c];simp) h
      .simp at h
     .exact b h
     .simp at h
    .repeat' (split at h)
     all_goals first | exact b h | (simp at h;done)
    .exact b h
    .simp at h
   .simp at h
  .split at h
   .unfold gW at h
    split at h
    .rename_i i
     split at h
     .simp at h
     .split at h
      .split at h
       all_goals first | exact b h | (simp at h;done)
      .split at h
       .simp at h
       .split at h
        .split at h
         .exact l i h
         .simp at h
        .split at h
         .rename_i c
          split at h
          .exact m i (by rw[c];simp) h
          .simp at h
         .simp at h
        .simp at h
    .simp at h
   .split at h
    .unfold l5 at h
     split at h
     .split at h
      .split at h
       .exact b h
       .split at h
        .exact b h
        .simp at h
      .simp at h
     .simp at h
    .simp at h
  .split at h
   .unfold vu at h
    split at h
    .exact b h
    .simp at h
   .simp at h
  .split at h
   .unfold qu at h
    split at h
    .rename_i i _
     split at h
     .simp at h
     .split at h
      .exact b h
      .split at h
       .split at h
        .rename_i c
         split at h
         .exact m i (by rw[c];simp) h
         .simp at h
        .simp at h
       .simp at h
    .simp at h
   .simp at h
  .split at h
   .unfold lE at h
    split at h
    .split at h
     .rename_i c
      repeat' (split at h)
      all_goals first | exact one (by rw[c];simp) h | (simp at h;done)
     .simp at h
    .simp at h
   .simp at h
  .split at h
   .unfold od at h
    split at h
    .split at h
     .exact b h
     .split at h
      .split at h
       .rename_i c
        split at h
        .exact one (by rw[c];simp) h
        .simp at h
       .simp at h
      .simp at h
    .simp at h
   .simp at h
  .exact pu h
  .exact pu h
  .exact pu h
  .exact pu h
  .exact pu h
  .simp at h
 .split at h
  .split at h
   .exact b h
   .exact b h
   .simp at h
  .exact pu h
 .exact pu h
 .exact pu h
 .simp at h
theorem pE {P:Program} {n:Nat} {all:List Oper} {o:Oper} {T:Env} {h b:ah} {v:V} {rd wr:List Nat} {call:Bool} (st:bK P n all o T h v b rd wr call) {id:Nat} (hw:id∈rd):id<h.length:=by
 cases st with
 | skip=>simp at hw
 | op c a=>exact fb (Fb a id hw)
 | eN _ _ _=>simp at hw
 | df _ _ _ _ _ _=>simp at hw
 | call _ _ _ _ _ _ d=>simp at hw
structure jh (n:Nat) (Z:Nat->Prop) (μ:Mu) (F:View) (T:Env) (h:ah) (a:Act) (w:World):Prop where
 defers:a.defers=[]
 size:a.tmps.size=n
 tm:∀t,ae Z μ w.heap (T t) (a.tmps.getD t undef)
 hr:dO Z μ w.heap (cat h F)
def aW (P:Program) (n:Nat) (c:Code) (T:Env) (h:ah) (e:Exit) (T':Env) (h':ah):Prop:=
 h.length<=h'.length/\∀Z μ F a w,(∀id,h.length<=id->id<h'.length->μ id=none)->jh n Z μ F T h a w ->
  c.wp P (λe' a' w'=>e'=e/\∃Z' μ',jh n Z' μ' F T' h' a' w'/\Ext Z μ w h.length Z' μ' w'/\(∀id,id<h.length∨h'.length<=id->μ' id=μ id)) a w
section
variable {P:Program} {n:Nat} {all:List Oper}
theorem wE {Z:Nat->Prop} {μ:Mu} {w:World} {T:Env} {a:Act} {o:Oper} (b:Gl Z w.heap) (h:∀t,t∈tmpsOf o->ae Z μ w.heap (T t) (a.tmps.getD t undef)):∀x∈o.op.operands,ae Z μ w.heap (ev T x) (a.eval x):=by
 intro x c
 cases x with
 | tmp t=>exact h t (by simp only[tmpsOf,HX];exact⟨.tmp t,by simpa using c,rfl⟩)
 | const v=>exact cZ v
 | global g=>exact Bi b g
 | func f=>exact .fn f [] [] #[] #[] rfl rfl (λi hi=>by simp at hi) (λi hi=>by simp at hi)
theorem ye {a:Nat->ah} {N:Nat} (h:∀i,i<N->(a i).length<=(a (i+1)).length):∀i j,i<=j->j<=N->(a i).length<=(a j).length:=by
 intro i j b
 induction b with
 | refl=>intro _;exact GX _
 | step _ c=>intro d;exact Hk (c (by omega)) (h _ (by omega))
theorem oo {a:Nat->Env} {vs:Nat->V} {N t:Nat} (g:∀i o,all[i]?=some o->a (i+1)=(a i).put o.dst (vs i)) (q:N=all.length):∀i j,i<=j->j<=N->(∀k o,i<=k->k<j->all[k]?=some o->o.dst≠some t)->a j t=a i t:=by
 intro i j c
 induction c with
 | refl=>intro _ _;rfl
 | step hle h =>
  rename_i m
  intro r b
  have hm:m<all.length:=by omega
  rw[g m all[m] (GR hm)]
  have l:=b m all[m] hle (by omega) (GR hm)
  have:(Env.put (a m) (all[m]).dst (vs m)) t=a m t:=by
   cases f:(all[m]).dst with
   | none=>rfl
   | some d =>
    simp only[Env.put]
    rw[GV (λe=>l (by rw[f,e]))]
  rw[this]
  exact h (by omega) (λk o n s p=>b k o n (by omega) p)
def pM (P:Program) (n:Nat) (all:List Oper) (recs:List Rec) (Ts:Nat->Env) (hs:Nat->ah) (vs:Nat->V):Prop:=∀i o r,all[i]?=some o->recs[i]?=some r ->
 bK P n all o (Ts i) (hs i) (vs i) (hs (i+1)) r.rd r.wr r.call/\jO n o=true/\Ts (i+1)=(Ts i).put o.dst (vs i)/\r.lo=(hs i).length/\r.hi=(hs (i+1)).length
structure Bears (P:Program) (n:Nat) (all:List Oper) (Ts:Nat->Env) (hs:Nat->ah) (vs:Nat->V) (i k:Nat) (o:Oper) (a b:Rec):Prop where
 wr:a.wr=[]
 call:a.call=false
 len:a.lo=a.hi
 step:∀g:ah,g.length=(hs i).length->(∀id,id<(hs i).length->g.view id=if id∈b.wr then (hs (k+1)).view id else (hs i).view id)->bK P n all o (Ts i) g (vs i) g a.rd [] false
def tL (P:Program) (n:Nat) (all:List Oper) (recs:List Rec) (T T':Env) (h:ah):Prop:=∀Ts hs vs,Ts 0=T->hs 0=h->Ts all.length=T'->recs.length=all.length->pM P n all recs Ts hs vs->∀i,∃tol:Option Nat,
 (∀k a b,i<k->recs[i]?=some a->recs[k]?=some b->ordered (cP all []) i k=false->tol≠some k->fE a b) /\
 ∀k a b o,tol=some k->recs[i]?=some a->recs[k]?=some b->all[i]?=some o->i<k/\Bears P n all Ts hs vs i k o a b
theorem ld.FL {c:List Rec} {T T':Env} {hp:ah} (h:ld all c):tL P n all c T T' hp:=λ_ _ _ _ _ _ _ _ i=>⟨none,λk a b d e f g _=>h i k a b d e f g,λk a b o d=>by simp at d⟩
theorem jK (hm:P.follows .mixedOrders=true) {id:Nat} {T T':Env} {h h':ah} {C:List Rec} (tr:Tr P n all all T h C T' h') (ht:fC all=true) (hJ:tL P n all C T T' h):
  aW P n (.region id all.toArray true) T h .normal T' h':=by
 obtain⟨hK,Ts,z,vs,gd,bl,gk,bn,I⟩:=sK all T h C T' h' tr
 obtain⟨W,X⟩:=wh ht
 have hc:=hJ Ts z vs gd bl gk hK I
 have M:∀i,i<all.length->∃o r,all[i]?=some o/\C[i]?=some r:=λi hi=>⟨all[i],C[i]'(by omega),GR hi,GR (by omega)⟩
 have dv:∀i o,all[i]?=some o->i<all.length:=λi o hi=>fJ hi
 have hT:∀i o,all[i]?=some o->Ts (i+1)=(Ts i).put o.dst (vs i):=λi o hi=>by
  obtain⟨o',r,s,A⟩:=M i (dv i o hi)
  exact(I i o r hi A).2.2.1
 have cc:∀i,i<all.length->(z i).length<=(z (i+1)).length:=λi hi=>by
  obtain⟨o,r,s,A⟩:=M i hi
  exact kG (I i o r s A).1
 have f:=ye cc
 have hle:h.length<=h'.length:=by rw[<-bl,<-bn];exact f _ _ (HG _) (GX _)
 have Y:∀i j id,i<=j->j<=all.length->id<(z i).length->(∀k r,i<=k->k<j->C[k]?=some r->¬ id∈r.wr)->(z j).view id=(z i).view id:=by
  intro i j id hM
  induction hM with
  | refl=>intro _ _ _;rfl
  | step hle ih =>
   rename_i m
   intro hj v cf
   obtain⟨o,r,s,A⟩:=M m (by omega)
   rw[jD (I m o r s A).1 (G2 v (f _ _ hle (by omega))) (cf m r hle (by omega) A)]
   exact ih (by omega) v (λk r s A Q=>cf k r s (by omega) Q)
 refine⟨hle,λZ μ F a w ch a1=>wp_region_any hm ?_⟩
 let Inv (listed:Array Bool) (K:Act) (w':World):Prop:=∃Z' μ' H,K.defers=[]/\K.tmps.size=n /\
  (∀t,∃J,J<=all.length/\ae Z' μ' w'.heap (Ts J t) (K.tmps.getD t undef)/\∀k o,all[k]?=some o->o.dst=some t->(listed.getD k false=true↔k<J)) /\
  dO Z' μ' w'.heap H /\
  (∀id,μ' id≠none->(∃J,J<=all.length/\id<(z J).length/\H id=(z J).view id/\∀k r,C[k]?=some r->id∈r.wr->(listed.getD k false=true↔k<J))∨(h'.length<=id/\H id=F id)) /\
  (∀k id,k<all.length->(z k).length<=id->id<(z (k+1)).length->μ' id≠none->listed.getD k false=true) /\
  (∀k o,all[k]?=some o->listed.getD k false=true->∀e∈o.after.toList,Region.binds .any e=true->listed.getD e.on false=true) /\
  Ext Z μ w h.length Z' μ' w'/\(∀id,id<h.length∨h'.length<=id->μ' id=μ id)/\listed.size=all.length
 have key:∀fuel listed K w',Inv listed K w'->((List.range all.length).countP λi=>!listed.getD i false)<=fuel ->
   wpAny P .any all.toArray (λe' K w'=>e'=.normal/\∃Z' μ',jh n Z' μ' F T' h' K w'/\Ext Z μ w h.length Z' μ' w'/\(∀id,id<h.length∨h'.length<=id->μ' id=μ id)) fuel listed K w':=by
  have ready_iff:∀(listed:Array Bool),listed.size=all.length->∀i,i∈Region.ready .any all.toArray listed↔(∃o,all[i]?=some o/\listed.getD i false=false/\∀e∈o.after.toList,Region.binds .any e=true->listed.getD e.on false=true):=by
   intro listed ao i
   simp only[Region.ready,HJ,Ig,List.mem_range,Hp,G0,Bool.not_eq_true']
   constructor
   .rintro⟨hi,s,A⟩
    rw[GR hi] at A
    refine⟨all[i],GR hi,?_,λe he hb=>?_⟩
    .have:i<listed.size:=by omega
     simp only[GW,G3 this,G1] at s ⊢
     exact s
    .have:=Array.all_eq_true_iff_forall_mem.1 A e (by simpa using he)
     simpa [hb] using this
   .rintro⟨o,U,s,A⟩
    have hi:=dv i o U
    refine⟨hi,?_,?_⟩
    .have:i<listed.size:=by omega
     simp only[GW,G3 this,G1] at s ⊢
     exact s
    .rw[U]
     simp only[Hb,G1]
     rw[Array.all_eq_true_iff_forall_mem]
     intro e he
     cases hb:Region.binds .any e with
     | false=>rfl
     | true=>simpa using A e (by simpa using he) hb
  have cj:∀(listed:Array Bool),listed.size=all.length->Region.ready .any all.toArray listed=[]->∀i,i<all.length->listed.getD i false=true:=by
   intro listed ao ck i
   induction i using Nat.strongRecOn with
   | _ i ih =>
    intro hi
    cases hl:listed.getD i false with
    | true=>rfl
    | false =>
     exfalso
     have:i∈Region.ready .any all.toArray listed:=(ready_iff listed ao i).2 ⟨all[i],GR hi,hl,λe he hb=>ih e.on (W i all[i] (GR hi) e he hb) (by have:=W i all[i] (GR hi) e he hb;omega)⟩
     rw[ck] at this;simp at this
  have finish:∀listed K w',Inv listed K w'->(∀i,i<all.length->listed.getD i false=true) ->
    ∃Z' μ',jh n Z' μ' F T' h' K w'/\Ext Z μ w h.length Z' μ' w'/\(∀id,id<h.length∨h'.length<=id->μ' id=μ id):=by
   rintro listed K w' ⟨Z',μ',H,hd,ao,ea,hr,cu,cv,eb,hex,cy,R⟩ a6
   refine⟨Z',μ',⟨hd,ao,λt=>?_,hr.congr λid v=>?_⟩,hex,cy⟩
   .obtain⟨J,D,hv,hw⟩:=ea t
    have:=oo (t:=t) hT rfl J all.length D (GX _) (λk o s A Q h4=>by
     have:=(hw k o Q h4).1 (a6 k A);omega)
    rw[<-gk,this];exact hv
   .unfold cat
    rcases cu id v with ⟨J,D,hl,hH,hw⟩ | ⟨hl,hH⟩
    .have:=Y J all.length id D (GX _) hl (λk r s A Q h4=>by
      have:=(hw k r Q h4).1 (a6 k A);omega)
     have hN:id<h'.length:=by rw[<-bn];exact G2 hl (f _ _ D (GX _))
     rw[GZ hN,hH,<-this,bn]
    .rw[GV (by omega),hH]
  intro fuel
  induction fuel with
  | zero =>
   intro listed K w' hinv gr
   have R:listed.size=all.length:=by obtain⟨_,_,_,_,_,_,_,_,_,_,_,_,R⟩:=hinv;exact R
   have a6:∀i,i<all.length->listed.getD i false=true:=by
    intro i hi
    have h0:(List.range all.length).countP (λi=>!listed.getD i false)=0:=by omega
    rw[List.countP_eq_zero] at h0
    have:=h0 i (by simpa using hi)
    simpa using this
   refine⟨?_,rfl,finish listed K w' hinv a6⟩
   apply List.eq_nil_iff_forall_not_mem.2
   intro i hi
   obtain⟨o,U,s,_⟩:=(ready_iff listed R i).1 hi
   rw[a6 i (dv i o U)] at s;simp at s
  | succ fuel ih =>
   intro listed K w' hinv gr
   have R:listed.size=all.length:=by obtain⟨_,_,_,_,_,_,_,_,_,_,_,_,R⟩:=hinv;exact R
   refine⟨λck=>⟨rfl,finish listed K w' hinv (cj listed R ck)⟩,λi hi=>?_⟩
   obtain⟨o,U,ha,cC⟩:=(ready_iff listed R i).1 hi
   have N:=dv i o U
   obtain⟨_,r,_,E⟩:=M i N
   obtain⟨cN,cS,_,hf,hh⟩:=I i o r U E
   obtain⟨Z',μ',H,hd,ao,ea,hr,cu,cv,eb,hex,cy,_⟩:=hinv
   have b0:¬ (listed.getD i false=true):=by rw[ha];simp
   have before:∀j,ordered (cP all []) j i=true->listed.getD j false=true:=λj hj=>u9 W eb U cC hj
   have behind:∀k ok,all[k]?=some ok->ordered (cP all []) i k=true->listed.getD k false=true->False:=λk ok u c V=>b0 (mG (L:=λk=>listed.getD k false=true) W eb k ok i u V c)
   have slot:∀t,t∈hE all o->ae Z' μ' w'.heap (Ts i t) (K.tmps.getD t undef):=by
    intro t cV
    obtain⟨J,D,hv,hw⟩:=ea t
    rcases Nat.le_total J i with bs | bs
    .have:=oo (t:=t) hT rfl J i bs (by omega) (λk ok s A Q h4=>by
      have a7:=(hw k ok Q h4).1
      cases c:ordered (cP all []) k i with
      | true=>have:=a7 (before k c);omega
      | false=>exact(X k i ok o A Q U c).1 t h4 cV)
     rw[this];exact hv
    .have:=oo (t:=t) hT rfl i J bs D (λk ok s A Q h4=>by
      have a7:=(hw k ok Q h4).2 A
      rcases Nat.eq_or_lt_of_le s with y | y
      .subst y;exact b0 a7
      .cases c:ordered (cP all []) i k with
       | true=>exact behind k ok Q c a7
       | false=>exact(X i k o ok y U Q c).2 t h4 cV)
     rw[<-this];exact hv
   obtain⟨c0,hn,e1⟩:=hc i
   have c1:∀id,id<(z i).length->μ' id≠none->(∀k B,C[k]?=some B->k≠i->id∈B.wr->(listed.getD k false=true↔k<i))->H id=(z i).view id:=by
    intro id v hm u
    rcases cu id hm with ⟨J,D,hl,hH,hw⟩ | ⟨hl,_⟩
    .rw[hH]
     rcases Nat.le_total J i with bs | bs
     .exact(Y J i id bs (by omega) hl (λk B s A Q h4=>by
       have:=(hw k B Q h4).1 ((u k B Q (by omega) h4).2 A);omega)).symm
     .exact Y i J id bs D v (λk B s A Q h4=>by
       have a7:=(hw k B Q h4).2 A
       rcases Nat.eq_or_lt_of_le s with y | y
       .subst y;exact b0 a7
       .have:=(u k B Q (by omega) h4).1 a7;omega)
    .have:(z i).length<=h'.length:=by rw[<-bn];exact f _ _ (by omega) (GX _)
     omega
   have place:∀id,(id∈r.rd∨id∈r.wr∨r.call=true)->∀k B,C[k]?=some B->k≠i->id∈B.wr->(c0=some k->listed.getD k false=false)->(listed.getD k false=true↔k<i):=by
    intro id v k B u bx hw hq
    have hP:id∈r.wr->r.call=false->id∈r.rd:=λs A=>(me cN s).2 A
    have c2:id∈r.rd∨r.call=true:=by
     rcases v with s | s | s
     .exact .inl s
     .cases hx:r.call with
      | true=>exact .inr rfl
      | false=>exact .inl (hP s hx)
     .exact .inr s
    have c3:B.wr≠[]:=λe=>by rw[e] at hw;simp at hw
    obtain⟨ok,_,da,_⟩:=M k (by have:=fJ u;omega)
    rcases Nat.lt_or_gt_of_ne bx with b1 | b1
    .refine⟨λ_=>b1,λ_=>?_⟩
     cases c:ordered (cP all []) k i with
     | true=>exact before k c
     | false =>
      obtain⟨tk,hQ,hR⟩:=hc k
      by_cases hy:tk=some i
      .exact absurd (hR i B r ok hy u E da).2.wr c3
      .have nc:=hQ i B r b1 u E c hy
       rcases c2 with s | s
       .exact absurd s (nc.FJ id hw)
       .exact absurd (nc.call2 s) c3
    .refine⟨λV=>?_,λh6=>by omega⟩
     exfalso
     cases c:ordered (cP all []) i k with
     | true=>exact behind k ok da c V
     | false =>
      by_cases et:c0=some k
      .rw[hq et] at V;simp at V
      .have nc:=hn k r B b1 E u c et
       rcases c2 with s | s
       .exact absurd s (nc.Ey id hw)
       .exact absurd (nc.FC s) c3
   have closing:∀x w1 Z1 a8,ae Z1 a8 w1.heap (vs i) x->dO Z1 a8 w1.heap (eH H (z i) (z (i+1)) r.wr)->Ext Z' μ' w' (z i).length Z1 a8 w1->(∀id,id<(z i).length∨(z (i+1)).length<=id->a8 id=μ' id) ->
     wpAny P .any all.toArray (λe' K w'=>e'=.normal/\∃Z' μ',jh n Z' μ' F T' h' K w'/\Ext Z μ w h.length Z' μ' w'/\(∀id,id<h.length∨h'.length<=id->μ' id=μ id)) fuel (listed.setIfInBounds i true) (K.put o.dst x) w1:=by
    intro x w1 Z1 a8 e2 e3 b2 O
    have S:∀k,(listed.setIfInBounds i true).getD k false=if k=i then true else listed.getD k false:=by
     intro k
     simp only[GW,HE]
     by_cases e:i=k
     .subst e;rw[GZ rfl,GZ rfl,GZ (by omega)];rfl
     .rw[GV e,GV (λq=>e q.symm)]
    have hz:(listed.setIfInBounds i true).size=all.length:=by simpa using R
    refine ih _ _ _ ⟨Z1,a8,eH H (z i) (z (i+1)) r.wr,?_,?_,?_,e3,?_,?_,?_,?_,?_,hz⟩ ?_
    .unfold Act.put;split<;>exact hd
    .unfold Act.put;split<;>simp[ao]
    .intro t
     by_cases dj:o.dst=some t
     .refine⟨i+1,N,?_,λk ok u b9=>?_⟩
      .rw[hT i o U,dj]
       have hA:t<K.tmps.size:=by unfold jO at cS;rw[dj] at cS;rw[ao];simpa using cS
       simp only[Env.put,Act.put,if_true,GW,HE,hA,G1]
       exact e2
      .rw[S]
       by_cases e:k=i
       .subst e;simp
       .rw[GV e]
        have cV:t∈hE all o:=by simp[hE,dj]
        rcases Nat.lt_or_gt_of_ne e with y | y
        .cases c:ordered (cP all []) k i with
         | true=>exact⟨λ_=>by omega,λ_=>before k c⟩
         | false=>exact absurd cV ((X k i ok o y u U c).1 t b9)
        .cases c:ordered (cP all []) i k with
         | true=>exact⟨λV=>(behind k ok u c V).elim,λh6=>by omega⟩
         | false=>exact absurd cV ((X i k o ok y U u c).2 t b9)
     .obtain⟨J,D,hv,hw⟩:=ea t
      refine⟨J,D,?_,λk ok u b9=>?_⟩
      .have:(K.put o.dst x).tmps.getD t undef=K.tmps.getD t undef:=by
        unfold Act.put
        split
        .rename_i d e4
         simp only[GW,HE]
         rw[GV (λe=>dj (by rw[e4,e]))]
        .rfl
       rw[this];exact hv.mono b2.mono
      .rw[S,GV (λe=>by subst e;rw[U] at u;simp at u;subst u;exact dj b9)]
       exact hw k ok u b9
    .intro id e5
     unfold eH
     by_cases ca:id∈r.wr∨((z i).length<=id/\id<(z (i+1)).length)
     .left
      have bk:id<(z (i+1)).length:=by
       rcases ca with y | y
       .exact G2 (me cN y).1 (cc i N)
       .exact y.2
      refine⟨i+1,N,bk,by rw[GZ ca],λk B u G=>?_⟩
      rw[S]
      by_cases e:k=i
      .subst e;simp
      .rw[GV e]
       obtain⟨ok,_,da,_⟩:=M k (by have:=fJ u;omega)
       rcases ca with y | y
       .have hp:=place id (.inr (.inl y)) k B u e G (λet=>by
         have:=(e1 k r B o et E u U).2.wr
         rw[this] at y;simp at y)
        exact⟨λV=>by have:=hp.1 V;omega,λh7=>hp.2 (by omega)⟩
       .obtain⟨dn,_⟩:=I k ok B da u
        have a7:=(me dn G).1
        have hS:i<k:=by
         rcases Ho i k with h6 | h6
         .exact h6
         .have:=f k i h6 (by omega);omega
        refine⟨λV=>?_,λh7=>by omega⟩
        exfalso
        cases c:ordered (cP all []) i k with
        | true=>exact behind k ok da c V
        | false =>
         by_cases et:c0=some k
         .have:=(e1 k r B o et E u U).2.len
          omega
         .exact(hn k r B hS E u c et).new id G (by rw[hf,hh];exact y)
     .rw[GV ca]
      have e6:μ' id≠none:=by
       rw[<-O id ?_]
       .exact e5
       .rcases Ho id (z i).length with h6 | h6
        .exact .inl h6
        .right
         rcases Ho id (z (i+1)).length with h7 | h7
         .exact absurd (.inr ⟨h6,h7⟩) ca
         .exact h7
      rcases cu id e6 with ⟨J,D,hl,hH,hw⟩ | y
      .refine .inl ⟨J,D,hl,hH,λk B u G=>?_⟩
       rw[S,GV (λe=>by subst e;rw[E] at u;simp at u;subst u;exact ca (.inl G))]
       exact hw k B u G
      .exact .inr y
    .intro k id u s A e5
     rw[S]
     by_cases e:k=i
     .rw[GZ e]
     .rw[GV e]
      refine cv k id u s A ?_
      rw[<-O id ?_]
      .exact e5
      .rcases Nat.lt_or_gt_of_ne e with h6 | h6
       .left;exact G2 A (f _ _ h6 (by omega))
       .right;exact Hk (f _ _ h6 (by omega)) s
    .intro k ok u V e he hb
     rw[S] at V ⊢
     by_cases ek:k=i
     .subst ek
      rw[U] at u;simp at u;subst u
      split
      .rfl
      .exact cC e he hb
     .rw[GV ek] at V
      split
      .rfl
      .exact eb k ok u V e he hb
    .refine hex.trans b2 ?_ a1.hr.lt
     rw[<-bl];exact f _ _ (HG _) (by omega)
    .intro id v
     rw[O id,cy id v]
     rcases v with y | y
     .left;rw[<-bl] at y;exact G2 y (f _ _ (HG _) (by omega))
     .right;rw[<-bn] at y;exact Hk (f _ _ N (GX _)) y
    .have:(List.range all.length).countP (λk=>!(listed.setIfInBounds i true).getD k false)<(List.range all.length).countP (λk=>!listed.getD k false):=by
      have gen:∀(l:List Nat),i∈l->l.Nodup->l.countP (λk=>!(listed.setIfInBounds i true).getD k false)<l.countP (λk=>!listed.getD k false):=by
       intro l
       induction l with
       | nil=>intro h;simp at h
       | cons x l hV =>
        intro hD e7
        simp only[HR] at e7
        by_cases e:x=i
        .subst e
         have e8:l.countP (λk=>!(listed.setIfInBounds x true).getD k false)=l.countP (λk=>!listed.getD k false):=by
          apply List.countP_congr
          intro k u
          have hW:k≠x:=λq=>e7.1 (by rw[<-q];exact u)
          rw[S,GV hW]
         have s:(listed.setIfInBounds x true).getD x false=true:=by rw[S,GZ rfl]
         rw[List.countP_cons,List.countP_cons,e8,s,ha]
         simp
        .have fl:i∈l:=by
          rcases Hi.1 hD with y | y
          .exact absurd y.symm e
          .exact y
         have:=hV fl e7.2
         simp only[List.countP_cons,S,GV e]
         simp only[S] at this
         omega
      exact gen _ (by simpa using N) List.nodup_range
     omega
   have b8:∀j want d,o.guard=some (j,want)->(all[j]?).bind (·.dst)=some d->ae Z' μ' w'.heap (Ts i d) (K.tmps.getD d undef):=λj want d hg e4=>slot d (by
    simp only[hE,Io];right;rw[hg];simp[e4])
   have e0:=wE (o:=o) hr.gl λt hY=>slot t (by
    simp only[hE,Io];left;right;exact hY)
   by_cases hF:∃k0,c0=some k0/\listed.getD k0 false=true
   .obtain⟨k0,fs,hG⟩:=hF
    have h8:k0<all.length:=by
     rcases Ho k0 all.length with y | y
     .exact y
     .simp[GW,Array.getElem?_eq_none (show listed.size<=k0 by omega)] at hG
    obtain⟨_,b,_,hb⟩:=M k0 h8
    obtain⟨j2,hB⟩:=e1 k0 r b o fs E hb U
    let g:ah:=(List.range (z i).length).map λid=>if id∈b.wr then (z (k0+1)).view id else (z i).view id
    have hI:∀id,id<(z i).length->ah.view g id=if id∈b.wr then (z (k0+1)).view id else (z i).view id:=by
     intro id v
     simp only[g,ah.view,GQ,GY,List.getElem?_range v,Hb,G1]
    have hlen:(z (i+1)).length=(z i).length:=by rw[<-hh,<-hf,hB.len]
    have ds:List.length g=(z i).length:=by simp only[g,G8,List.length_range]
    have dn:=hB.step g ds hI
    have h9:eH H g g []=eH H (z i) (z (i+1)) r.wr:=by
     funext id
     unfold eH
     rw[GV (by
            rintro (s | s); · simp at s
            .omega),GV (by
              rw[hB.wr];rintro (s | s); · simp at s
              .omega)]
    refine nX rfl (by simpa using U) dn ao b8 e0 hr (λid v hm=>?_) (λs=>by simp at s) (λid s A=>by omega) (λx w1 Z1 a8 e2 e3 b2 O=>closing x w1 Z1 a8 e2 (by rw[<-h9];exact e3) (by rw[<-ds];exact b2) (λid v=>O id (by
     rw[ds];omega)))
    have bk:=pE cN v
    rw[hI id bk]
    by_cases eg:id∈b.wr
    .rw[GZ eg]
     rcases cu id hm with ⟨J,D,hl,hH,hw⟩ | ⟨hl,_⟩
     .have il:=(hw k0 b hb eg).1 hG
      rw[hH]
      refine Y (k0+1) J id il D (G2 bk (f _ _ (by omega) (by omega))) (λk B s A Q h4=>?_)
      have V:=(hw k B Q h4).2 A
      have:=(place id (.inl v) k B Q (by omega) h4 (λe=>by rw[fs] at e;simp at e;omega)).1 V
      omega
     .have:(z i).length<=h'.length:=by rw[<-bn];exact f _ _ (by omega) (GX _)
      omega
    .rw[GV eg]
     refine c1 id bk hm λk B u bx G=>place id (.inl v) k B u bx G λe=>?_
     rw[fs] at e;simp at e;subst e
     rw[hb] at u;simp at u;subst u
     exact absurd G eg
   .have cf:∀k,c0=some k->listed.getD k false=false:=λk e=>by
     cases hl:listed.getD k false with
     | false=>rfl
     | true=>exact absurd ⟨k,e,hl⟩ hF
    refine nX rfl (by simpa using U) cN ao b8 e0 hr (λid v hm=>c1 id (pE cN v) hm λk B u bx G=>place id (.inl v) k B u bx G (cf k))
     (λft id v hm=>c1 id v hm λk B u bx G=>place id (.inr (.inr ft)) k B u bx G (cf k)) (λid s A=>?_) closing
    apply Classical.byContradiction
    intro e6
    exact b0 (cv i id N s A e6)
 have fx:Inv (Array.replicate all.length false) a { w with drawn:=w.drawn+1 }:=by
  refine⟨Z,μ,cat h F,a1.defers,a1.size,λt=>⟨0,HG _,by rw[gd];exact a1.tm t,λk o u b9=>?_⟩,a1.hr,λid fz=>?_,λk id u s A fz=>?_,λk o u V=>?_,?_,λ_ _=>rfl,by simp⟩
  .have:(Array.replicate all.length false).getD k false=false:=by
    simp only[GW,Array.getElem?_replicate];split<;>rfl
   rw[this];simp
  .unfold cat
   by_cases hl:id<h.length
   .left
    refine⟨0,HG _,by rw[bl];exact hl,by rw[GZ hl,bl],λk r u G=>?_⟩
    have:(Array.replicate all.length false).getD k false=false:=by
     simp only[GW,Array.getElem?_replicate];split<;>rfl
    rw[this];simp
   .rw[GV hl]
    rcases Ho id h'.length with y | y
    .exact absurd (ch id (by omega) y) fz
    .exact .inr ⟨y,rfl⟩
  .exfalso
   refine fz (ch id ?_ ?_)
   .rw[<-bl];exact Hk (f _ _ (HG _) (by omega)) s
   .rw[<-bn];exact G2 A (f _ _ u (GX _))
  .have:(Array.replicate all.length false).getD k false=false:=by
    simp only[GW,Array.getElem?_replicate];split<;>rfl
   rw[this] at V;simp at V
  .exact⟨⟨rfl,rfl,rfl,GX _⟩,dC.refl _ _ _,λ_ _ _=>rfl,λ_ h=>.inl h,λ_ _ _ _ h=>.inl h⟩
 have:=key all.length _ _ _ fx (by
  have:=List.countP_le_length (p:=λi=>!(Array.replicate all.length false).getD i false) (l:=List.range all.length)
  simpa using this)
 simpa using this
theorem nK (hm:P.follows .mixedOrders=true) {id:Nat} {T T':Env} {h b:ah} {a:List Rec} (c:Tr P n all all T h a T' b) (d:fC all=true) (e:ld all a):
 aW P n (.region id all.toArray true) T h .normal T' b:=jK hm c d e.FL
end
section
variable {P:Program} {n:Nat}
theorem jh.eval {Z:Nat->Prop} {μ:Mu} {F:View} {T:Env} {h:ah} {a:Act} {w:World} (s:jh n Z μ F T h a w) (x:Operand):ae Z μ w.heap (ev T x) (a.eval x):=by
 cases x with
 | tmp t=>exact s.tm t
 | const v=>exact cZ v
 | global g=>exact Bi s.hr.gl g
 | func f=>exact .fn f [] [] #[] #[] rfl rfl (λi hi=>by simp at hi) (λi hi=>by simp at hi)
theorem vL {all:List Oper} {id:Nat} {T T':Env} {h B:ah} {f:List Rec} (tr:Tr P n all all T h f T' B):aW P n (.region id all.toArray false) T h .normal T' B:=by
 obtain⟨ao,Ts,y,vs,N,z,O,E,g⟩:=sK all T h f T' B tr
 have C:∀i,i<all.length->∃o r,all[i]?=some o/\f[i]?=some r:=λi hi=>⟨all[i],f[i]'(by omega),GR hi,GR (by omega)⟩
 have l:∀i,i<all.length->(y i).length<=(y (i+1)).length:=λi hi=>by
  obtain⟨o,r,I,J⟩:=C i hi
  exact kG (g i o r I J).1
 have c:=ye l
 refine⟨by rw[<-z,<-E];exact c _ _ (HG _) (GX _),λZ μ F a w G D=>wp_region ?_⟩
 have key:∀k i,i+k=all.length->∀Z' μ' H w',jh n Z' μ' F (Ts i) (y i) H w'->Ext Z μ w h.length Z' μ' w'->(∀id,id<h.length∨B.length<=id->μ' id=μ id)->(∀id,(y i).length<=id->id<B.length->μ' id=none) ->
   wpOps P all.toArray (λe' H w'=>e'=.normal/\∃Z' μ',jh n Z' μ' F T' B H w'/\Ext Z μ w h.length Z' μ' w'/\(∀id,id<h.length∨B.length<=id->μ' id=μ id)) (List.range' i k) H w':=by
  intro k
  induction k with
  | zero =>
   intro i hi Z' μ' H w' b hex m _
   obtain rfl:i=all.length:=by omega
   simp only[List.range'_zero,wpOps]
   rw[O,E] at b
   exact⟨trivial,Z',μ',b,hex,m⟩
  | succ k ih =>
   intro i hi Z' μ' H w' b hex m K
   obtain⟨o,r,Y,hr⟩:=C i (by omega)
   obtain⟨A,p,hT,a1,a6⟩:=g i o r Y hr
   have a7:=l i (by omega)
   have a8:(y (i+1)).length<=B.length:=by rw[<-E];exact c _ _ (by omega) (GX _)
   have Q:h.length<=(y i).length:=by rw[<-z];exact c _ _ (HG _) (by omega)
   refine nX rfl (by simpa using Y) A b.size (λj want d _ _=>b.tm d) (λx _=>b.eval x) b.hr (λid s _=>?_) (λ_ id s _=>?_) (λid I J=>K id I (by omega)) ?_
   .unfold cat;rw[GZ (pE A s)]
   .unfold cat;rw[GZ s]
   .intro x w1 Z1 R S U u v
    refine ih (i+1) (by omega) Z1 R _ w1 ⟨?_,?_,λt=>?_,U.congr λid _=>?_⟩ (hex.trans u Q D.hr.lt) (λid s=>?_) (λid I J=>?_)
    .unfold Act.put;split<;>exact b.defers
    .unfold Act.put;split<;>simp[b.size]
    .rw[hT]
     cases V:o.dst with
     | none =>
      exact(b.tm t).mono u.mono
     | some d =>
      have L:d<H.tmps.size:=by unfold jO at p;rw[V] at p;rw[b.size];simpa using p
      simp only[Env.put,Act.put,GW,HE]
      by_cases e:t=d
      .subst e;rw[GZ rfl,GZ rfl,GZ L];exact S
      .rw[GV e,GV (λq=>e q.symm)]
       have:=(b.tm t).mono u.mono
       simpa only [GW] using this
    .simp only[cat,eH]
     by_cases W:id<(y (i+1)).length
     .rw[GZ W]
      split
      .rfl
      .rename_i hn
       have M:id<(y i).length:=by
        rcases Ho id (y i).length with X | X
        .exact X
        .exact absurd (.inr ⟨X,W⟩) hn
       rw[GZ M,jD A M (λq=>hn (.inl q))]
     .rw[GV W,GV,GV (by omega)]
      rintro (M | M)
      .have:=(me A M).1;omega
      .omega
    .rw[v id (by omega),m id s]
    .rw[v id (by omega)];exact K id (by omega) J
 have:=key all.length 0 (by omega) Z μ a w (by rw[N,z];exact D) (Ext.refl _ _ _ _) (λ_ _=>rfl) (λid I J=>G id (by rw[<-z];exact I) J)
 rw[HJ,List.range_eq_range']
 exact this
theorem aW.weaken {c:Code} {T T':Env} {h j:ah} {e:Exit} (x:aW P n c T h e T' j) {Z:Nat->Prop} {μ:Mu} {F:View} {a:Act} {w:World} {p:Nat->Prop} {d:Mu} {k:World} {m:Nat}
  (f:∀id,h.length<=id->id<j.length->μ id=none) (s:jh n Z μ F T h a w) (hex:Ext p d k m Z μ w) (hm:m<=h.length) (l:∀id b o s,d id=some (b,o,s)->b<k.heap.size):
  c.wp P (λe' q w'=>e'=e/\∃Z' μ',jh n Z' μ' F T' j q w'/\Ext p d k m Z' μ' w'/\(∀id,id<h.length∨j.length<=id->μ' id=μ id)) a w:=
 wp_mono (x.2 Z μ F a w f s) λ_ _ _ ⟨he,Z',μ',r,g,i⟩=>⟨he,Z',μ',r,hex.trans g hm l,i⟩
theorem aW.seq {x y:Code} {T l m:Env} {h d g:ah} {e:Exit} (i:aW P n x T h .normal l d) (j:aW P n y l d e m g):aW P n (.seq x y) T h e m g:=by
 refine⟨Hk i.1 j.1,λZ μ F a w b s=>wp_seq (wp_mono (i.2 Z μ F a w (λid d g=>b id d (G2 g j.1)) s) ?_)⟩
 rintro e' o w' ⟨rfl,Z',μ',k,hex,c⟩
 refine wp_mono (j.weaken (λid d g=>?_) k hex i.1 s.hr.lt) ?_
 .rw[c id (.inr d)];exact b id (Hk i.1 d) g
 .rintro e' o w' ⟨he,Z',μ',k,hex,f⟩
  refine⟨he,Z',μ',k,hex,λid p=>?_⟩
  have:=i.1
  have:=j.1
  rw[f id (by omega),c id (by omega)]
theorem aW.yg {x y:Code} {T c:Env} {h d:ah} {e:Exit} (f:aW P n x T h e c d) (he:e≠.normal):aW P n (.seq x y) T h e c d:=by
 refine⟨f.1,λZ μ F a w b s=>wp_seq (wp_mono (f.2 Z μ F a w b s) ?_)⟩
 rintro e' g w' ⟨rfl,h⟩
 cases e'<;>first | exact absurd rfl he | exact⟨rfl,h⟩
theorem aW.here {c:Code} {T:Env} {h:ah} {e:Exit} (b:∀(Q:Exit->Act->World->Prop) a w,Q e a w->c.wp P Q a w):aW P n c T h e T h:=
 ⟨GX _,λZ μ _ a w _ s=>b _ a w ⟨rfl,Z,μ,s,Ext.refl _ _ _ _,λ_ _=>rfl⟩⟩
theorem aW.skip {T:Env} {h:ah} : aW P n .skip T h .normal T h:=.here λ_ _ _ h=>wp_skip h
theorem aW.label {T:Env} {h:ah} {l:Nat} : aW P n (.label l) T h .normal T h:=.here λ_ _ _ h=>wp_label h
theorem aW.exit {T:Env} {h:ah} {id:Nat} : aW P n (.exit id) T h (.exit id) T h:=.here λ_ _ _ h=>wp_exit h
theorem aW.goto {T:Env} {h:ah} {l:Nat} : aW P n (.goto l) T h (.goto l) T h:=.here λ_ _ _ h=>wp_goto h
theorem aW.ret {T:Env} {h:ah} : aW P n .ret T h .ret T h:=.here λ_ _ _ h=>wp_ret h
theorem aW.cond {c:Operand} {x y:Code} {T T':Env} {h d:ah} {e:Exit} {t:Bool} (g:ev T c=.val (.bool t)) (f:aW P n (if t then x else y) T h e T' d):aW P n (.cond c x y) T h e T' d:=by
 refine⟨f.1,λZ μ F a w b s=>wp_cond (t:=t) ?_ (f.2 Z μ F a w b s)⟩
 have:=s.eval c
 rw[g] at this
 exact bd this
def iP (id:Nat):Exit->Exit
 | .exit id'=>if id'=id then .normal else .exit id'
 | e=>e
theorem aW.block {id:Nat} {c:Code} {T T':Env} {h d:ah} {e:Exit} (f:aW P n c T h e T' d):aW P n (.block id c) T h (iP id e) T' d:=by
 refine⟨f.1,λZ μ F a w b s=>wp_block (wp_mono (f.2 Z μ F a w b s) ?_)⟩
 rintro e' i w' ⟨rfl,h⟩
 cases e' with
 | exit g =>
  simp only[Exit.inBlock,iP]
  split
  .exact⟨rfl,h⟩
  .exact⟨rfl,h⟩
 | _=>exact⟨rfl,h⟩
theorem oV {c:Code} {Q b:Exit->Act->World->Prop} (d:∀e a w,Q e a w->b e a w):∀(k:Nat) (a:Act) (w:World),Code.rounds P c Q k a w->Code.rounds P c b k a w
 | 0,_,_,h=>h
 | k+1,a,w,h=>by
  refine wp_mono h λe a w h=>?_
  cases e with
  | normal=>exact oV d k a w h
  | _=>exact d _ _ _ h
def iY (P:Program) (n:Nat) (c:Code) (T:Env) (h:ah) (e:Exit) (T':Env) (h':ah):Prop:=
 h.length<=h'.length/\∃k,∀Z μ F a w,(∀id,h.length<=id->id<h'.length->μ id=none)->jh n Z μ F T h a w ->
  Code.rounds P c (λe' a' w'=>e'=e/\∃Z' μ',jh n Z' μ' F T' h' a' w'/\Ext Z μ w h.length Z' μ' w'/\(∀id,id<h.length∨h'.length<=id->μ' id=μ id)) k a w
theorem iY.out {c:Code} {T d:Env} {h f:ah} {e:Exit} (g:aW P n c T h e d f) (he:e≠.normal):iY P n c T h e d f:=by
 refine⟨g.1,1,λZ μ F a w b s=>?_⟩
 refine wp_mono (g.2 Z μ F a w b s) ?_
 rintro e' i w' ⟨rfl,h⟩
 cases e'<;>first | exact absurd rfl he | exact⟨rfl,h⟩
theorem iY.step {c:Code} {T r t:Env} {h f i:ah} {e:Exit} (j:aW P n c T h .normal r f) (o:iY P n c r f e t i):iY P n c T h e t i:=by
 obtain⟨l,k,o⟩:=o
 refine⟨Hk j.1 l,k+1,λZ μ F a w b s=>?_⟩
 refine wp_mono (j.2 Z μ F a w (λid f i=>b id f (G2 i l)) s) ?_
 rintro e' p w' ⟨rfl,Z',μ',q,hex,d⟩
 refine oV ?_ k p w' (o Z' μ' F p w' (λid f i=>?_) q)
 .rintro e' p w' ⟨he,Z',μ',q,m,g⟩
  refine⟨he,Z',μ',q,hex.trans m j.1 s.hr.lt,λid u=>?_⟩
  have:=j.1
  rw[g id (by omega),d id (by omega)]
 .rw[d id (.inr f)];exact b id (Hk j.1 f) i
theorem aW.loop {c:Code} {T T':Env} {h d:ah} {e:Exit} (f:iY P n c T h e T' d):aW P n (.loop c) T h e T' d:=by
 obtain⟨g,k,i⟩:=f
 exact⟨g,λZ μ F a w b s=>wp_loop_rounds k (i Z μ F a w b s)⟩
def jumps (P:Program) (c:Code) (Q:Exit->Act->World->Prop):Nat->Code->Act->World->Prop
 | 0,_,_,_=>False
 | k+1,x,a,w=>x.wp P (λe a w=>match e with
  | .goto l=>(match findLabel c l with
   | some rest=>jumps P c Q k rest a w
   | none=>Q (.goto l) a w)
  | e=>Q e a w) a w
theorem Cn {c:Code} {Q:Exit->Act->World->Prop} {a:Act} {w:World} (k:Nat) (h:jumps P c Q k c a w):(Code.scope c).wp P Q a w:=by
 intro b K cs
 have key:∀k x a w,jumps P c Q k x a w->∃e q w',Q e q w'/\Arrives P (lone (b.at a (.code x :: .inScope c::K)) cs w) b K cs e q w':=by
  intro k
  induction k with
  | zero=>intro x a w h;exact h.elim
  | succ k u =>
   intro x a w h
   obtain⟨e,f,g,i,d⟩:=h b (.inScope c::K) cs
   cases e with
   | normal=>exact⟨.normal,f,g,i,Steps.trans d (.one step_inScope)⟩
   | exit id=>exact⟨.exit id,f,g,i,λs t=>d s (by simp[exitTo,t])⟩
   | goto l =>
    simp only at i
    cases r:findLabel c l with
    | some rest =>
     rw[r] at i
     obtain⟨n,o,p,m,j⟩:=u rest f g i
     exact⟨n,o,p,m,.of_steps (d _ (by simp[gotoIn,r])) j⟩
    | none =>
     rw[r] at i
     exact⟨.goto l,f,g,i,λs t=>d s (by simp[gotoIn,r,t])⟩
   | ret=>exact⟨_,f,g,i,d⟩
   | panic v=>exact⟨_,f,g,i,d⟩
   | outgrown=>exact⟨_,f,g,i,d⟩
 obtain⟨e,q,w',i,d⟩:=key k c a w h
 exact⟨e,q,w',i,.of_steps (.one step_scope) d⟩
theorem qn {c:Code} {Q f:Exit->Act->World->Prop} (b:∀e a w,Q e a w->f e a w):∀(k:Nat) (x:Code) (a:Act) (w:World),jumps P c Q k x a w->jumps P c f k x a w
 | 0,_,_,_,h=>h
 | k+1,x,a,w,h=>by
  refine wp_mono h λe a w h=>?_
  cases e with
  | goto l =>
   simp only at h ⊢
   split
   .rename_i rest d;rw[d] at h;exact qn b k rest a w h
   .rename_i d;rw[d] at h;exact b _ _ _ h
  | _=>exact b _ _ _ h
def gC (P:Program) (n:Nat) (c x:Code) (T:Env) (h:ah) (e:Exit) (T':Env) (h':ah):Prop:=
 h.length<=h'.length/\∃k,∀Z μ F a w,(∀id,h.length<=id->id<h'.length->μ id=none)->jh n Z μ F T h a w ->
  jumps P c (λe' a' w'=>e'=e/\∃Z' μ',jh n Z' μ' F T' h' a' w'/\Ext Z μ w h.length Z' μ' w'/\(∀id,id<h.length∨h'.length<=id->μ' id=μ id)) k x a w
def rQ (c:Code):Exit->Bool
 | .goto l=>(findLabel c l).isNone
 | _=>true
theorem gC.out {c x:Code} {T d:Env} {h f:ah} {e:Exit} (g:aW P n x T h e d f) (he:rQ c e=true):gC P n c x T h e d f:=by
 refine⟨g.1,1,λZ μ F a w b s=>?_⟩
 refine wp_mono (g.2 Z μ F a w b s) ?_
 rintro e' i w' ⟨rfl,h⟩
 cases e' with
 | goto l =>
  simp only[rQ,Option.isNone_iff_eq_none] at he
  simp only[he];exact⟨trivial,h⟩
 | _=>exact⟨rfl,h⟩
theorem gC.jump {c x rest:Code} {T t u:Env} {h f i:ah} {e:Exit} {l:Nat} (j:aW P n x T h (.goto l) t f) (v:findLabel c l=some rest) (p:gC P n c rest t f e u i):gC P n c x T h e u i:=by
 obtain⟨m,k,p⟩:=p
 refine⟨Hk j.1 m,k+1,λZ μ F a w b s=>?_⟩
 refine wp_mono (j.2 Z μ F a w (λid f i=>b id f (G2 i m)) s) ?_
 rintro e' q w' ⟨rfl,Z',μ',r,hex,d⟩
 simp only[v]
 refine qn ?_ k rest q w' (p Z' μ' F q w' (λid f i=>?_) r)
 .rintro e' q w' ⟨he,Z',μ',r,o,g⟩
  refine⟨he,Z',μ',r,hex.trans o j.1 s.hr.lt,λid y=>?_⟩
  have:=j.1
  rw[g id (by omega),d id (by omega)]
 .rw[d id (.inr f)];exact b id (Hk j.1 f) i
theorem aW.scope {c:Code} {T T':Env} {h d:ah} {e:Exit} (f:gC P n c c T h e T' d):aW P n (.scope c) T h e T' d:=by
 obtain⟨g,k,i⟩:=f
 exact⟨g,λZ μ F a w b s=>Cn k (i Z μ F a w b s)⟩
def fI (vs:List V):Env:=λt=>vs.getD t .any
def j3 (P:Program) (T:Env) (h:ah):ResultVar->Option V
 | .tmp t=>some (T t)
 | .cell a t=>(gD P t (T a) h.view).map (·.1)
def gm (P:Program) (T:Env) (h:ah):List ResultVar->Option (List V)
 | []=>some []
 | r::rest=>match j3 P T h r,gm P T h rest with
  | some v,some vs=>some (v::vs)
  | _,_=>none
def za (P:Program) (fn:Func) (T:Env) (h:ah):Option V:=match gm P T h fn.results.toList with
 | some [v]=>some v
 | some vs=>some (.aA vs)
 | none=>none
theorem wT {Z:Nat->Prop} {μ:Mu} {F:View} {T:Env} {h:ah} {a:Act} {w:World} (s:jh n Z μ F T h a w) (f:ResultVar->Sem Value) (o:∀t,f (.tmp t)=pure (a.tmps.getD t undef))
  (q:∀p t,f (.cell p t)=(do loadVar t (<-asAddr (a.tmps.getD p undef)))):∀(l:List ResultVar) (vs:List V),gm P T h l=some vs ->
  ∃xs:List Value,(l.mapM f).run P w=.ok xs w/\cL Z μ w.heap vs xs
 | [],vs,d=>by
  simp only[gm,GS] at d;subst d
  exact⟨[],rfl,rfl,λi hi=>by simp at hi⟩
 | r::l,vs,d=>by
  simp only[gm] at d
  split at d
  .rename_i v C B K
   simp only[GS] at d;subst d
   obtain⟨xs,L,hr⟩:=wT s f o q l C K
   have one:∃x,(f r).run P w=.ok x w/\ae Z μ w.heap v x:=by
    cases r with
    | tmp t =>
     simp only[j3,GS] at B;subst B
     rw[o]
     exact⟨_,rfl,s.tm t⟩
    | cell p t =>
     simp only[j3,GU] at B
     obtain⟨⟨M,ag,rd⟩,c,rfl⟩:=B
     have hp:=s.tm p
     rw[q]
     unfold gD at c
     split at c
     .rename_i id i j D
      rw[D] at hp
      obtain⟨b,o0,sz,hm,g⟩:=gR hp
      split at c
      .rename_i esz es J
       split at c
       .rename_i hi
        simp only[GU,G6] at c
        obtain⟨E,k,rfl,_,_⟩:=c
        have u:=s.hr.obj id
        have z:cat h F id=.arr esz es:=by
         simp only[cat];rw[GZ (fb (by rw[J];simp)),J]
        rw[z] at u
        obtain⟨y,G,m⟩:=kT (P:=P) (rowOf u hm hi).2 k
        exact⟨y,by rw[g];simp[asAddr,G],m⟩
       .simp at c
      .simp at c
     .rename_i e j D
      rw[D] at hp
      obtain⟨b,off,N,A,g⟩:=kj hp
      simp only[GU,G6] at c
      obtain⟨E,k,rfl,_,_⟩:=c
      obtain⟨y,G,m⟩:=kT (P:=P) A k
      exact⟨y,by rw[g];simp[asAddr,G],m⟩
     .simp at c
   obtain⟨x,H,I⟩:=one
   refine⟨x::xs,?_,⟨by simp[hr.1],λi hi=>?_⟩⟩
   .simp only[List.mapM_cons,Sem.run_bind]
    rw[H]
    simp only[Result.andThen_ok,Sem.run_bind]
    rw[L]
    rfl
   .cases i with
    | zero=>exact I
    | succ i=>simpa using hr.2 i (by simpa using hi)
  .simp at d
theorem aN.xP {f:FuncId} {fn:Func} {c:Code} {vs:List V} {T':Env} {h A:ah} {e:Exit} {r:V} (J:P.funcs[f]?=some fn) (K:fn.body=some c) (O:vs.length<=fn.ntmps)
  (I:aW P fn.ntmps c (fI vs) h e T' A) (he:e=.ret∨e=.normal) (hr:za P fn T' A=some r):aN P f vs h r A:=by
 refine⟨I.1,λZ μ F w xs j B l=>calls_of_wp J K ?_⟩
 have m:(xs.toArray++Array.replicate (fn.ntmps-xs.toArray.size) undef).size=fn.ntmps:=by
  have:=j.1;simp;omega
 have q:jh fn.ntmps Z μ F (fI vs) h { tmps:=xs.toArray++Array.replicate (fn.ntmps-xs.toArray.size) undef,defers:=[] } w:=by
  refine⟨rfl,m,λt=>?_,B⟩
  unfold fI
  by_cases C:t<vs.length
  .have:=j.2 t C
   have D:t<xs.length:=j.1▸C
   have g:(xs.toArray++Array.replicate (fn.ntmps-xs.toArray.size) undef).getD t undef=xs.getD t undef:=by
    rw[GW,HO (by simpa using D)]
    simp[GQ]
   rw[g];exact this
  .have:vs.getD t .any=.any:=by simp[GQ,Hs (Nat.le_of_not_lt C)]
   rw[this];exact .any _
 refine wp_mono (I.2 Z μ F _ w l q) ?_
 rintro e' o w' ⟨rfl,Z',μ',s,hex,k⟩
 have u:∃x,(results fn o.tmps).run P w'=.ok x w'/\ae Z' μ' w'.heap r x:=by
  unfold za at hr
  have go:∀d,gm P T' A fn.results.toList=some d->(match d with | [v]=>some v | vs=>some (.aA vs))=some r->∃x,(results fn o.tmps).run P w'=.ok x w'/\ae Z' μ' w'.heap r x:=by
   intro d L g
   unfold results
   obtain⟨n,E,b⟩:=wT s (fun
     | .tmp t=>pure (o.tmps.getD t undef)
     | .cell p t=>do loadVar t (<-asAddr (o.tmps.getD p undef))) (λ_=>rfl) (λ_ _=>rfl) _ _ L
   rw[Array.mapM_eq_mapM_toList]
   simp only[Sem.run_bind,Sem.run_map]
   show ∃x,(((((fn.results.toList.mapM (fun
     | .tmp t=>pure (o.tmps.getD t undef)
     | .cell p t=>do loadVar t (<-asAddr (o.tmps.getD p undef)):ResultVar->Sem Value)).run P w').andThen λa w'=>.ok a.toArray w').andThen λa w'=>(pure (if h:a.size=1 then a[0] else Value.tuple a):Sem Value).run P w')=.ok x w')/\_
   rw[E]
   match d,n,b,g with
   | [v],[x],b,g =>
    simp only[GS] at g
    subst g
    exact⟨x,rfl,b.2 0 (by simp)⟩
   | [],[],b,g =>
    simp only[GS] at g
    subst g
    exact⟨.tuple #[],rfl,.aA _ _ rfl (λi hi=>by simp at hi)⟩
   | v1::v2::d,M::N::n,b,g =>
    simp only[GS] at g
    subst g
    refine⟨.tuple (M::N::n).toArray,by simp,.aA _ _ (by simpa using b.1) (λi hi=>?_)⟩
    have:=b.2 i hi
    simpa [GW,GQ] using this
   | [_],[],b,_=>exact absurd b.1 (by simp)
   | [_],_::_::_,b,_=>exact absurd b.1 (by simp)
   | [],_::_,b,_=>exact absurd b.1 (by simp)
   | _::_::_,[],b,_=>exact absurd b.1 (by simp)
   | _::_::_,[_],b,_=>exact absurd b.1 (by simp)
  split at hr
  .rename_i v G;exact go _ G hr
  .rename_i d H G
   refine go _ G ?_
   split
   .rename_i v;exact absurd rfl (H v)
   .exact hr
  .simp at hr
 obtain⟨x,y,z⟩:=u
 rcases he with rfl | rfl
 .exact⟨s.defers,x,y,x,Z',μ',rfl,z,s.hr,hex,k⟩
 .exact⟨s.defers,x,y,x,Z',μ',rfl,z,s.hr,hex,k⟩
end
inductive Tree:V->Prop
 | val (v:Value):Tree (.val v)
 | emp (k:Nat):Tree (.emp k)
 | bS:Tree .bS
 | al (es:List (List V)):(∀i j,i<es.length->j<(es.getD i []).length->Tree ((es.getD i []).getD j .any))->Tree (.al es)
 | aC (e:List V) (j:Nat):(∀k,k<e.length->Tree (e.getD k .any))->Tree (.aC e j)
 | fn (f:FuncId) (xs ys:List V):(∀i,i<xs.length->Tree (xs.getD i .any))->(∀i,i<ys.length->Tree (ys.getD i .any))->Tree (.fn f xs ys)
 | agg (cs:List V):(∀i,i<cs.length->Tree (cs.getD i .any))->Tree (.agg cs)
 | aA (cs:List V):(∀i,i<cs.length->Tree (cs.getD i .any))->Tree (.aA cs)
theorem lT {Z:Nat->Prop} {μ ν:Mu} {hp:Array Obj} {v:V} {x:Value} (h:ae Z μ hp v x):Tree v->ae Z ν hp v x:=by
 induction h with
 | any x=>intro t;exact .any x
 | val v y=>intro _;exact .val v y
 | emp k a g o=>intro _;exact .emp k a g o
 | bS a cap=>intro _;exact .bS a cap
 | dA a cap g=>intro _;exact .dA a cap g
 | al es b off esz cap c p hle n q _ l =>
  intro t
  cases t with
  | al _ m=>exact .al es b off esz cap c p hle n q (λi j hi u=>l i j hi u (m i j hi (by rw[n i hi];exact u)))
 | fj id off esz a=>intro t;cases t
 | sl id off len esz b o0 cap c e f hm hle A B=>intro t;cases t
 | ptr id i j b o0 esz hm=>intro t;cases t
 | aC e j b off c p q _ l =>
  intro t
  cases t with
  | aC _ _ m=>exact .aC e j b off c p q (λk w=>l k w (m k w))
 | mp id b o0 esz hm=>intro t;cases t
 | fn f xs ys d z g o _ _ r s =>
  intro t
  cases t with
  | fn _ _ _ t1 t2=>exact .fn f xs ys d z g o (λi hi=>r i hi (t1 i hi)) (λi hi=>s i hi (t2 i hi))
 | agg cs d g _ l =>
  intro t
  cases t with
  | agg _ m=>exact .agg cs d g (λi hi=>l i hi (m i hi))
 | aA cs d g _ l =>
  intro t
  cases t with
  | aA _ m=>exact .aA cs d g (λi hi=>l i hi (m i hi))
inductive Fr (h:ah):V->V->Prop
 | tree (v:V):Tree v->Fr h v v
 | emp (k:Nat):Fr h (.emp k) (.al [])
 | sl (id off len esz z:Nat) (es es':List (List V)):h.view id=.arr z es->off+len<=es.length->es'.length=len ->
  (∀i,i<len->(es'.getD i []).length=(es.getD (off+i) []).length) ->
  (∀i j,i<len->j<(es'.getD i []).length->Fr h ((es.getD (off+i) []).getD j .any) ((es'.getD i []).getD j .any))->Fr h (.sl id off len esz) (.al es')
 | ptr (id i j z:Nat) (es:List (List V)) (e':List V):h.view id=.arr z es->i<es.length->e'.length=(es.getD i []).length ->
  (∀k,k<e'.length->Fr h ((es.getD i []).getD k .any) (e'.getD k .any))->Fr h (.ptr id i j) (.aC e' j)
 | agg (cs cs':List V):cs'.length=cs.length->(∀i,i<cs.length->Fr h (cs.getD i .any) (cs'.getD i .any))->Fr h (.agg cs) (.agg cs')
 | aA (cs cs':List V):cs'.length=cs.length->(∀i,i<cs.length->Fr h (cs.getD i .any) (cs'.getD i .any))->Fr h (.aA cs) (.aA cs')
theorem pU {h:ah} {Z:Nat->Prop} {μ ν:Mu} {F:View} {hp:Array Obj} (hr:dO Z μ hp (cat h F)) {v t:V} (fr:Fr h v t):∀ {x:Value},ae Z μ hp v x->ae (λb=>Z b∨eF μ b) ν hp t x:=by
 have l:∀id,h.view id≠.dead->cat h F id=h.view id:=λid I=>by simp only[cat];rw[GZ (fb I)]
 induction fr with
 | tree v J =>
  intro x d
  have A:ae Z ν hp v x:=lT d J
  exact A.mono ⟨λ_ h=>.inl h,λ_ _=>rfl,λ_ _ h=>h,cR.refl _⟩
 | emp k=>intro x d;cases d with | emp _ a=>exact .dA a 0 (λ_=>rfl)
 | sl id off len esz z es es' q hle hlen K _ o =>
  intro x d
  cases d with
  | fj _ _ _ a =>
   have:es'=[]:=HM.1 hlen
   subst this
   exact .dA a 0 (λ_=>rfl)
  | sl _ _ _ _ b o0 cap c e f hm H Q R =>
   have g:=hr.obj id
   rw[l id (by rw[q];simp),q] at g
   obtain⟨rfl,_,L,M⟩:=g b o0 esz hm
   have d:∀i,∃ci:Nat->Value,∀j,j<esz->i<len->cellAt hp b (o0+off*esz+i*esz+j)=some (ci j)/\ae Z μ hp ((es.getD (off+i) []).getD j .any) (ci j):=by
    intro i
    by_cases hi:i<len
    .obtain⟨ci,B⟩:=iv (n:=esz) (p:=λj x=>cellAt hp b (o0+off*esz+i*esz+j)=some x/\ae Z μ hp ((es.getD (off+i) []).getD j .any) x) (λj m=>by
      obtain⟨x,d,C⟩:=M (off+i) j (by omega) m
      rw[Hl,<-Nat.add_assoc] at d
      exact⟨x,d,C⟩)
     exact⟨ci,λj m _=>B j m⟩
    .exact⟨λ_=>undef,λj _ h=>absurd h hi⟩
   obtain⟨N,r⟩:=Classical.axiomOfChoice d
   have s:∀i,i<es'.length->(es'.getD i []).length=esz:=λi hi=>by rw[K i (by omega)];exact L _ (by omega)
   have:=ae.al (Z:=λb=>Z b∨eF μ b) (μ:=ν) (hp:=hp) es' b (o0+off*esz) esz cap N (.inr ⟨id,o0,esz,hm⟩) (by omega) s
    (λi j hi m=>(r i j m (by omega)).1) (λi j hi m=>o i j (by omega) (by rw[s i hi];exact m) (r i j m (by omega)).2)
   rw[hlen] at this
   exact this
 | ptr id i j z es e' q hi hlen _ o =>
  intro x d
  obtain⟨b,o0,sz,hm,rfl⟩:=gR (w:={ (default:World) with heap:=hp }) d
  have g:=hr.obj id
  rw[l id (by rw[q];simp),q] at g
  obtain⟨rfl,u⟩:=rowOf (w:={ (default:World) with heap:=hp }) g hm hi
  refine oG (w:={ (default:World) with heap:=hp }) (.inr ⟨id,o0,sz,hm⟩) (λk O=>?_)
  obtain⟨y,P,C⟩:=u k (by omega)
  exact⟨y,P,o k O C⟩
 | agg cs D hlen _ o =>
  intro x d
  cases d with
  | agg _ E A G=>exact .agg _ _ (by omega) (λi hi=>o i (by omega) (G i (by omega)))
 | aA cs D hlen _ o =>
  intro x d
  cases d with
  | aA _ E A G=>exact .aA _ _ (by omega) (λi hi=>o i (by omega) (G i (by omega)))
def ak (P:Program) (f:FuncId) (vs:List V) (t:V):Prop:=
 ∀Z μ (w:World) (xs:List Value),cL Z μ w.heap vs xs->(∀b,Z b->b<w.heap.size)->Gl Z w.heap ->
  Calls P f xs.toArray w λe w'=>∃x Z',e=.returned x/\(∀ν,ae Z' ν w'.heap t x)/\bZ w w'/\(∀b,Z b->Z' b)/\(∀b,Z' b->Z b∨(w.heap.size<=b/\b<w'.heap.size))/\cT w.heap w'.heap (λ_=>False)
theorem ak.mr {P:Program} {f:FuncId} {vs:List V} {r t:V} {m:ah} (n:∀v∈vs,Tree v) (p:aN P f vs [] r m) (q:Fr m r t):ak P f vs t:=by
 intro Z μ w xs d u y
 have g:cL Z (λ_=>none) w.heap vs xs:=⟨d.1,λi hi=>lT (d.2 i hi) (by
  simp only[GQ,GR hi,G1]
  exact n _ (G4 _))⟩
 have k:dO Z (λ_=>none) w.heap (cat [] λ_=>.dead):=by
  exact⟨λ_=>trivial,λi j b o s B C _ h=>by simp at h,λid b o s h=>by simp at h,u,λid b o s h=>by simp at h,y⟩
 refine(p.2 Z _ _ w xs g k (λ_ _ _=>rfl)).mono ?_
 rintro e w' ⟨x,Z',μ',rfl,A,l,hex,_⟩
 refine⟨x,λb=>Z' b∨eF μ' b,rfl,λν=>pU l q A,hex.same,λb a=>.inl (hex.mono.z b a),?_,λb a _=>hex.frame b a (by rintro⟨_,_,_,h⟩;simp at h)⟩
 rintro b (a | ⟨id,o,s,a⟩)
 .rcases hex.C6 b a with c | c
  .exact .inl c
  .exact .inr ⟨c,l.aX b a⟩
 .rcases hex.qe _ _ _ _ a with c | ⟨_,c | ⟨_,_,_,c⟩⟩
  .simp at c
  .exact .inr ⟨c,l.lt _ _ _ _ a⟩
  .simp at c
theorem aN.ed {P:Program} {f:FuncId} {vs:List V} {t:V} (n:ak P f vs t) (h:ah):aN P f vs h t h:=by
 refine⟨GX _,λZ μ F w xs i hr k=>(n Z μ w xs i hr.aX hr.gl).mono ?_⟩
 rintro e w' ⟨x,Z',rfl,p,l,q,c,j⟩
 have hm:dC Z Z' μ μ w.heap w'.heap:=⟨q,λb d=>j b (hr.aX b d) (λx=>x),λ_ _ h=>h,j.jo⟩
 refine⟨x,Z',μ,rfl,p μ,⟨λid=>(hr.obj id).mono hm rfl (λb o s g=>j b (hr.lt _ _ _ _ g) (λx=>x)),hr.inj,λid b o s g=>G2 (hr.lt _ _ _ _ g) l.size,λb d=>?_,λid b o s g m=>?_,hr.gl.mono hm.z hm.zz⟩,
  ⟨l,hm,λb d _=>j b d (λx=>x),λb d=>?_,λ_ _ _ _ h=>.inl h⟩,λ_ _=>rfl⟩
 .rcases c b d with a | a
  .exact G2 (hr.aX b a) l.size
  .exact a.2
 .rcases c b m with a | a
  .exact hr.dQ _ _ _ _ g a
  .have:=hr.lt _ _ _ _ g;omega
 .rcases c b d with a | a
  .exact .inl a
  .exact .inr a.1
theorem rA {Z:Nat->Prop} {μ:Mu} {hp:Array Obj} {es:List (List V)} {x:Value} (h:ae Z μ hp (.al es) x):
  (es=[]/\∃a cap,x=.slice a 0 cap/\(a=none->cap=0))∨(∃b off esz cap,∃c:Nat->Nat->Value,x=.slice (some ⟨b,off,none⟩) es.length cap/\Z b/\es.length<=cap /\
   (∀i,i<es.length->(es.getD i []).length=esz)/\(∀i j,i<es.length->j<esz->cellAt hp b (off+i*esz+j)=some (c i j)) /\
   (∀i j,i<es.length->j<esz->ae Z μ hp ((es.getD i []).getD j .any) (c i j))):=by
 cases h with
 | dA a cap d=>exact .inl ⟨rfl,a,cap,rfl,d⟩
 | al _ b off esz cap c e f g k l=>exact .inr ⟨b,off,esz,cap,c,rfl,e,f,g,k,l⟩
def rz (l:List Nat) (x:Nat):Bool:=!l.contains x
def rV (a b:Rec):Bool:=
 a.wr.all (rz b.rd)&&b.wr.all (rz a.rd)&&(!a.call||b.wr.isEmpty)&&(!b.call||a.wr.isEmpty)&&b.wr.all λid=>!(decide (a.lo<=id)&&decide (id<a.hi))
section
variable {P:Program} {n:Nat}
theorem AK {a b:Rec} (h:rV a b=true):fE a b:=by
 unfold rV at h
 simp only[G0,Hg,rz,Bool.not_eq_true',Ie] at h
 obtain⟨⟨⟨⟨g,i⟩,e⟩,f⟩,j⟩:=h
 refine⟨λid d hm=>?_,λid d hm=>?_,λc=>?_,λc=>?_,λid d hm=>?_⟩
 .have:=g id d;simp at this;exact this hm
 .have:=i id d;simp at this;exact this hm
 .rcases e with e | e
  .rw[c] at e;simp at e
  .simpa using e
 .rcases f with f | f
  .rw[c] at f;simp at f
  .simpa using f
 .have:=j id d
  simp at this
  omega
end
end Gv
