/-
  Part 4 of the proof: what the machine does and what the functions answer.
  Conditions: those that each lemma names.
-/
import Derived.Test.YtiophifnkakjgaaGreatSGzB9C
set_option linter.unusedSimpArgs false
set_option linter.unusedVariables false
set_option maxRecDepth 100000
set_option maxHeartbeats 20000000
namespace Gv
open Go
inductive Tree:V->Prop
 | val (v:Value):Tree (.val v)
 | emp (k:Nat):Tree (.emp k)
 | dO:Tree .dO
 | aW (es:List (List V)):(∀ i j,i < es.length->j < (es.getD i []).length->Tree ((es.getD i []).getD j .any))->Tree (.aW es)
 | aJ (e:List V) (j:Nat):(∀ k,k < e.length->Tree (e.getD k .any))->Tree (.aJ e j)
 | fn (f:FuncId) (xs ys:List V):(∀ i,i < xs.length->Tree (xs.getD i .any))->(∀ i,i < ys.length->Tree (ys.getD i .any))->Tree (.fn f xs ys)
 | agg (cs:List V):(∀ i,i < cs.length->Tree (cs.getD i .any))->Tree (.agg cs)
 | aY (cs:List V):(∀ i,i < cs.length->Tree (cs.getD i .any))->Tree (.aY cs)
theorem wQ {Z:Nat->Prop} {μ u:Mu} {hp:Array Obj} {v:V} {x:Value} (h:ay Z μ hp v x):Tree v->ay Z u hp v x:=by
 induction h with
 | any x=>intro t;exact .any x
 | val v w=>intro _;exact .val v w
 | emp k a h1 n=>intro _;exact .emp k a h1 n
 | dO a cap=>intro _;exact .dO a cap
 | im a cap h1=>intro _;exact .im a cap h1
 | aW es b off esz cap c o hle m p _ g =>
  intro t
  cases t with
  | aW _ l=>exact .aW es b off esz cap c o hle m p (λi j hi s=>g i j hi s (l i j hi (by rw[m i hi];exact s)))
 | py id off esz a=>intro t;cases t
 | sl id off len esz b o0 cap c e f hm hle z A=>intro t;cases t
 | ptr id i j b o0 esz hm=>intro t;cases t
 | aJ e j b off c o p _ g =>
  intro t
  cases t with
  | aJ _ _ l=>exact .aJ e j b off c o p (λk hk=>g k hk (l k hk))
 | mp id b o0 esz hm=>intro t;cases t
 | fn f xs ys d y h1 n _ _ q r =>
  intro t
  cases t with
  | fn _ _ _ t1 t2=>exact .fn f xs ys d y h1 n (λi hi=>q i hi (t1 i hi)) (λi hi=>r i hi (t2 i hi))
 | agg cs d h1 _ g =>
  intro t
  cases t with
  | agg _ l=>exact .agg cs d h1 (λi hi=>g i hi (l i hi))
 | aY cs d h1 _ g =>
  intro t
  cases t with
  | aY _ l=>exact .aY cs d h1 (λi hi=>g i hi (l i hi))
inductive Fr (h:aD):V->V->Prop
 | tree (v:V):Tree v->Fr h v v
 | emp (k:Nat):Fr h (.emp k) (.aW [])
 | sl (id off len esz z:Nat) (es es':List (List V)):h.view id=.arr z es->off+len<=es.length->es'.length=len ->
  (∀ i,i < len->(es'.getD i []).length=(es.getD (off+i) []).length) ->
  (∀ i j,i < len->j < (es'.getD i []).length->Fr h ((es.getD (off+i) []).getD j .any) ((es'.getD i []).getD j .any))->Fr h (.sl id off len esz) (.aW es')
 | ptr (id i j z:Nat) (es:List (List V)) (e':List V):h.view id=.arr z es->i < es.length->e'.length=(es.getD i []).length ->
  (∀ k,k < e'.length->Fr h ((es.getD i []).getD k .any) (e'.getD k .any))->Fr h (.ptr id i j) (.aJ e' j)
 | agg (cs cs':List V):cs'.length=cs.length->(∀ i,i < cs.length->Fr h (cs.getD i .any) (cs'.getD i .any))->Fr h (.agg cs) (.agg cs')
 | aY (cs cs':List V):cs'.length=cs.length->(∀ i,i < cs.length->Fr h (cs.getD i .any) (cs'.getD i .any))->Fr h (.aY cs) (.aY cs')
theorem BJ {h:aD} {Z:Nat->Prop} {μ u:Mu} {F:View} {hp:Array Obj} (hr:hX Z μ hp (cat h F)) {v t:V} (fr:Fr h v t):∀ {x:Value},ay Z μ hp v x->ay (λb=>Z b∨jq μ b) u hp t x:=by
 have l:∀ id,h.view id≠.dead->cat h F id=h.view id:=λid H=>by simp only[cat];rw[Vu (ij H)]
 induction fr with
 | tree v I =>
  intro x d
  have h1:ay Z u hp v x:=wQ d I
  exact h1.mono ⟨λ_ h=>.inl h,λ_ _=>rfl,λ_ _ h=>h,fI.refl _⟩
 | emp k=>intro x d;cases d with | emp _ a=>exact .im a 0 (λ_=>rfl)
 | sl id off len esz z es es' hH hle hlen J _ o =>
  intro x d
  cases d with
  | py _ _ _ a =>
   have:es'=[]:=W9.1 hlen
   subst this
   exact .im a 0 (λ_=>rfl)
  | sl _ _ _ _ b o0 cap c e f hm G O P =>
   have g:=hr.obj id
   rw[l id (by rw[hH];simp),hH] at g
   obtain⟨rfl,_,K,L⟩:=g b o0 esz hm
   have d:∀ i,∃ ci:Nat->Value,∀ j,j < esz->i < len->cellAt hp b (o0+off * esz+i * esz+j)=some (ci j)/\ay Z μ hp ((es.getD (off+i) []).getD j .any) (ci j):=by
    intro i
    by_cases hi:i < len
    .obtain⟨ci,A⟩:=oN (n:=esz) (p:=λj x=>cellAt hp b (o0+off * esz+i * esz+j)=some x/\ay Z μ hp ((es.getD (off+i) []).getD j .any) x) (λj m=>by
      obtain⟨x,d,B⟩:=L (off+i) j (by omega) m
      rw[V5,<-Ws] at d
      exact⟨x,d,B⟩)
     exact⟨ci,λj m _=>A j m⟩
    .exact⟨λ_=>undef,λj _ h=>absurd h hi⟩
   obtain⟨M,q⟩:=Classical.axiomOfChoice d
   have r:∀ i,i < es'.length->(es'.getD i []).length=esz:=λi hi=>by rw[J i (by omega)];exact K _ (by omega)
   have:=ay.aW (Z:=λb=>Z b∨jq μ b) (μ:=u) (hp:=hp) es' b (o0+off * esz) esz cap M (.inr ⟨id,o0,esz,hm⟩) (by omega) r
    (λi j hi m=>(q i j m (by omega)).1) (λi j hi m=>o i j (by omega) (by rw[r i hi];exact m) (q i j m (by omega)).2)
   rw[hlen] at this
   exact this
 | ptr id i j z es e' hH hi hlen _ o =>
  intro x d
  obtain⟨b,o0,sz,hm,rfl⟩:=nG (w:={ (default:World) with heap:=hp }) d
  have g:=hr.obj id
  rw[l id (by rw[hH];simp),hH] at g
  obtain⟨rfl,s⟩:=rowOf (w:={ (default:World) with heap:=hp }) g hm hi
  refine zr (w:={ (default:World) with heap:=hp }) (.inr ⟨id,o0,sz,hm⟩) (λk hk=>?_)
  obtain⟨y,N,B⟩:=s k (by omega)
  exact⟨y,N,o k hk B⟩
 | agg cs C hlen _ o =>
  intro x d
  cases d with
  | agg _ D h1 E=>exact .agg _ _ (by omega) (λi hi=>o i (by omega) (E i (by omega)))
 | aY cs C hlen _ o =>
  intro x d
  cases d with
  | aY _ D h1 E=>exact .aY _ _ (by omega) (λi hi=>o i (by omega) (E i (by omega)))
def aB (P:Program) (f:FuncId) (vs:List V) (t:V):Prop :=
 ∀ Z μ (w:World) (xs:List Value),fU Z μ w.heap vs xs->(∀ b,Z b->b < w.heap.size) ->
  Calls P f xs.toArray w λe w'=>∃ x Z',e=.returned x/\(∀ ν,ay Z' ν w'.heap t x)/\eN w w'/\(∀ b,Z b->Z' b)/\(∀ b,Z' b->Z b∨(w.heap.size<=b/\b < w'.heap.size))/\fW w.heap w'.heap (λ_=>False)
theorem Dm (F:View):cat [] F=F:=by funext id;simp[cat]
theorem aB.v7 {P:Program} {f:FuncId} {vs:List V} {r t:V} {l:aD} (m:∀ v∈vs,Tree v) (n:bK P f vs [] r l) (p:Fr l r t):aB P f vs t:=by
 intro Z μ w xs c q
 have d:fU Z (λ_=>none) w.heap vs xs:=⟨c.1,λi hi=>wQ (c.2 i hi) (by
  simp only[Vp,Vq hi,VI]
  exact m _ (Vw _))⟩
 have g:hX Z (λ_=>none) w.heap (cat [] λ_=>.dead):=by
  rw[Dm]
  exact⟨λ_=>trivial,λi j b o s A B _ h=>by simp at h,λid b o s h=>by simp at h,q,λid b o s h=>by simp at h⟩
 refine(n.2 Z _ _ w xs d g (λ_ _ _=>rfl)).mono ?_
 rintro e w' ⟨x,u,μ',rfl,y,k,hex,_⟩
 refine⟨x,λb=>u b∨jq μ' b,rfl,λC=>BJ k p y,hex.same,λb a=>.inl (hex.mono.z b a),?_,λb a _=>hex.frame b a (by rintro⟨_,_,_,h⟩;simp at h)⟩
 rintro b (a | ⟨id,o,s,a⟩)
 .rcases hex.PF b a with h1 | h1
  .exact .inl h1
  .exact .inr ⟨h1,k.cQ b a⟩
 .rcases hex.CI _ _ _ _ a with h1 | ⟨_,h1 | ⟨_,_,_,h1⟩⟩
  .simp at h1
  .exact .inr ⟨h1,k.lt _ _ _ _ a⟩
  .simp at h1
theorem bK.gh {P:Program} {f:FuncId} {vs:List V} {t:V} (n:aB P f vs t) (h:aD):bK P f vs h t h:=by
 refine⟨VA _,λZ μ F w xs g hr j=>(n Z μ w xs g hr.cQ).mono ?_⟩
 rintro e w' ⟨x,m,rfl,p,k,q,a,i⟩
 have hm:gT Z m μ μ w.heap w'.heap:=⟨q,λb c=>i b (hr.cQ b c) (λx=>x),λ_ _ h=>h,i.rf⟩
 refine⟨x,m,μ,rfl,p μ,⟨λid=>(hr.obj id).mono hm rfl (λb o s d=>i b (hr.lt _ _ _ _ d) (λx=>x)),hr.inj,λid b o s d=>VY (hr.lt _ _ _ _ d) k.size,λb c=>?_,λid b o s d l=>?_⟩,
  ⟨k,hm,λb c _=>i b c (λx=>x),λb c=>?_,λ_ _ _ _ h=>.inl h⟩,λ_ _=>rfl⟩
 .rcases a b c with h1 | h1
  .exact VY (hr.cQ b h1) k.size
  .exact h1.2
 .rcases a b l with h1 | h1
  .exact hr.gP _ _ _ _ d h1
  .have:=hr.lt _ _ _ _ d;omega
 .rcases a b c with h1 | h1
  .exact .inl h1
  .exact .inr h1.1
def CU (l:List Nat) (x:Nat):Bool:=!l.contains x
def DO (a b:Rec):Bool :=
 a.wr.all (CU b.rd) && b.wr.all (CU a.rd) && (!a.call || b.wr.isEmpty) && (!b.call || a.wr.isEmpty) && b.wr.all λid=>!(decide (a.lo<=id) && decide (id < a.hi))
section
variable {P:Program} {n:Nat}
theorem Pq {a b:Rec} (h:DO a b=true):oG a b:=by
 unfold DO at h
 simp only[VD,VU,CU,Xn,Xb] at h
 obtain⟨⟨⟨⟨h1,g⟩,e⟩,f⟩,i⟩:=h
 refine⟨λid d hm=>?_,λid d hm=>?_,λc=>?_,λc=>?_,λid d hm=>?_⟩
 .have:=h1 id d;simp at this;exact this hm
 .have:=g id d;simp at this;exact this hm
 .rcases e with e | e
  .rw[c] at e;simp at e
  .simpa using e
 .rcases f with f | f
  .rw[c] at f;simp at f
  .simpa using f
 .have:=i id d
  simp at this
  omega
end
inductive SX where
 | tmp (t:Nat)
 | val (v:V)
 deriving Inhabited
def SX.of:Operand->SX
 | .tmp t=>.tmp t
 | .const v=>.val (fy v)
 | .global _=>.val .any
 | .func f=>.val (.fn f [] [])
def SX.at (T:Env):SX->V
 | .tmp t=>T t
 | .val v=>v
theorem SX.cO (T:Env) (x:Operand):(SX.of x).at T=ev T x:=by cases x <;> rfl
inductive SI where
 | eU (x:SX)
 | pick (c a b:SX)
 | box (x:SX)
 | jw (x:SX)
 | alloc (z:List V)
 | build (z:List V) (parts:List (Nat × Nat × SX))
 | cg (len sz:Nat) (z:List V) (parts:List (Nat × SX))
 | load (sz:Option Nat) (a:SX)
 | xg (sz:Option Nat) (a:SX)
 | store (sz:Nat) (a x:SX)
 | AU (x:SX)
 | addr (off:Nat) (x:SX)
 | field (off:Nat) (sz:Option Nat) (x:SX)
 | idx (sz:Nat) (x i:SX)
 | slice (sz:Nat) (x:SX) (lo hi:Option SX)
 | make (sz bytes:Nat) (z:List V) (l c:SX)
 | qq
 | uq (f:FuncId) (first cap:List SX)
 | ext (i:Nat) (x:SX)
 | len (x:SX)
 | pM (x:SX)
 | app (sz bytes:Nat) (x y:SX)
 | arith (op:BinOp) (x y:SX)
 | sh (left:Bool) (x y:SX)
 | xl (op:BinOp) (x y:SX)
 | iv (x i:SX)
 | not (x:SX)
 | nil (eq:Bool) (k:Nat) (x y:SX)
 | beq (eq:Bool) (x y:SX)
 | mm (mx:Bool) (x y:SX)
 | conv (k:IntKind) (x:SX)
 | C5 (x:SX)
 | gg (x:SX)
 | old (op:Op) (ty:TypeId)
 deriving Inhabited
def mE:Option Nat->List V->Nat->Option V
 | some n,cs,off=>if off+n<=cs.length then some (.agg ((cs.drop off).take n)) else none
 | none,cs,off=>if off < cs.length then some (cs.getD off .any) else none
def xc (sz:Option Nat) (a:V) (H:View):Out:=match a with
 | .ptr id i j=>match H id with
  | .arr _ es=>if i < es.length then (mE sz (es.getD i []) j).map λv=>(v,.none,[id]) else none
  | _=>none
 | .aJ e j=>(mE sz e j).map λv=>(v,.none,[])
 | _=>none
def BI (sz:Nat) (a v:V) (H:View):Out:=match a with
 | .ptr id i j=>match H id with
  | .arr esz es =>
   if i < es.length/\v.cells.length=sz/\j+v.cells.length<=esz/\v.cells.all aH=true
   then some (.any,.fe id (.arr esz (es.set i (fp (es.getD i []) j v.cells))),[id]) else none
  | _=>none
 | _=>none
def mo (z:List V) (parts:List (Nat × Nat × V)):Option (List V):=match parts with
 | []=>some z
 | (off,size,x) :: r=>if x.cells.length=size/\off+size<=z.length/\x.cells.all aH=true then mo (fp z off x.cells) r else none
def zi (len sz:Nat) (z:List V) (parts:List (Nat × V)) (n:Nat):Out :=
 match lH sz (List.replicate len z) parts with
 | some es=>some (.sl n 0 len sz,.new (.arr sz es),[])
 | none=>none
def zD (off:Nat) (x:V):Out:=match x with
 | .ptr id i j=>some (.ptr id i (j+off),.none,[])
 | .aJ e j=>some (.aJ e (j+off),.none,[])
 | _=>none
def DP (sz:Nat) (x i:V):Out:=match asNat i with
 | none=>none
 | some q=>match x with
  | .sl id off len esz=>if q < len/\esz=sz then some (.ptr id (off+q) 0,.none,[]) else none
  | .aW es=>if q < es.length/\(es.getD q []).length=sz then some (.aJ (es.getD q []) 0,.none,[]) else none
  | _=>none
def cY (sz:Nat) (x:V) (lo hi:Option V):Out:=match x with
 | .sl id off len esz=>match bound 0 lo,bound len hi with
  | some l,some h=>if l<=h/\h<=len/\esz=sz then some (.sl id (off+l) (h - l) esz,.none,[]) else none
  | _,_=>none
 | .aW es=>match bound 0 lo,bound es.length hi with
  | some l,some h=>if l<=h/\h<=es.length/\(es.all λe=>e.length == sz)=true then some (.aW ((es.drop l).take (h - l)),.none,[]) else none
  | _,_=>none
 | .emp k=>match bound 0 lo,bound 0 hi with
  | some 0,some 0=>some (.emp k,.none,[])
  | _,_=>none
 | _=>none
def CG (sz bytes:Nat) (z:List V) (len cap:V) (n:Nat):Out:=match asNat len,asNat cap with
 | some l,some c =>
  if l<=c/\c < aC/\bytes * c < aC then
   (if c=0 then some (.emp 2,.none,[]) else some (.sl n 0 l sz,.new (.arr sz (List.replicate l z)),[]))
  else none
 | _,_=>none
def FV (sz bytes:Nat) (s x:V) (H:View) (n:Nat):Out:=match bC H x with
 | some (xs,rd) =>
  if xs.isEmpty then (match s with
   | .emp _ | .dO | .aW _ | .sl _ _ _ _=>some (s,.none,[])
   | _=>none)
  else if ¬ ((xs.all λe=>e.length == sz && e.all aH)=true) then none
  else match s with
   | .emp _=>if xs.length * bytes < aC/\xs.length < aC then some (.sl n 0 xs.length sz,.new (.arr sz xs),rd) else none
   | .sl id off len esz=>match H id with
    | .arr _ es =>
     if off+len<=es.length/\esz=sz/\(len+xs.length) * bytes < aC/\len+xs.length < aC
     then some (.sl n 0 (len+xs.length) esz,.eU id (.arr esz ((es.drop off).take len ++ xs)),id :: rd) else none
    | _=>none
   | _=>none
 | none=>none
def hU (op:BinOp) (k:IntKind) (a b:Int):Option Value:=match op with
 | .add=>some (.int k (k.wrap (a+b)))
 | .sub=>some (.int k (k.wrap (a - b)))
 | .mul=>some (.int k (k.wrap (a * b)))
 | .quo=>if b=0 then none else some (.int k (k.wrap (a.tdiv b)))
 | .rem=>if b=0 then none else some (.int k (a.tmod b))
 | .eql=>some (.bool (a == b))
 | .neq=>some (.bool (a != b))
 | .lss=>some (.bool (a < b))
 | .leq=>some (.bool (a<=b))
 | .gtr=>some (.bool (a > b))
 | .geq=>some (.bool (a≥b))
 | .or=>some (.int k (k.wrap (BitVec.ofInt k.bits a ||| BitVec.ofInt k.bits b).toNat))
 | .and=>some (.int k (k.wrap (BitVec.ofInt k.bits a &&& BitVec.ofInt k.bits b).toNat))
 | .xor=>some (.int k (k.wrap (BitVec.ofInt k.bits a ^^^ BitVec.ofInt k.bits b).toNat))
 | .andNot=>some (.int k (k.wrap (BitVec.ofInt k.bits a &&& ~~~(BitVec.ofInt k.bits b)).toNat))
 | _=>none
def yi (op:BinOp) (x y:V):Out:=match x,y with
 | .val (.int k a),.val (.int k' b)=>if k=k' then (hU op k a b).map λv=>(.val v,.none,[]) else none
 | _,_=>none
def KJ (left:Bool) (k:IntKind) (a b:Int):Int:=if left then k.wrap (a * 2 ^ (min b.toNat k.bits)) else a.fdiv (2 ^ (min b.toNat k.bits))
def NF (left:Bool) (x y:V):Out:=match x,y with
 | .val (.int k a),.val (.int _ b)=>if b < 0 then none else some (.val (.int k (KJ left k a b)),.none,[])
 | _,_=>none
def Qk:BinOp->Option Bool
 | .shl=>some true
 | .shr=>some false
 | _=>none
def jb (a b:ByteArray):Bool:=a.data.toList == b.data.toList
def AZ (op:BinOp) (x y:V):Out:=match x,y with
 | .val (.string a),.val (.string b)=>match op with
  | .eql=>some (.val (.bool (jb a b)),.none,[])
  | .neq=>some (.val (.bool (!jb a b)),.none,[])
  | _=>none
 | _,_=>none
def B9 (x i:V):Out:=match x,asNat i with
 | .val (.string s),some q=>match s.data.toList[q]? with
  | some b=>some (.val (.int .u8 b.toNat),.none,[])
  | none=>none
 | _,_=>none
def AV:Option Bool->Option Bool->Option Bool
 | some true,some b=>some b
 | some b,some true=>some b
 | _,_=>none
theorem JS {P:Program} {t:TypeId} {k:Nat} (h:jA P t=some k) (x y:V):C9 P t x y=AV (eX k x) (eX k y):=by
 simp only[C9,h]
 unfold AV
 split <;> simp_all
def oper (op:Op) (ty:TypeId):Oper:=⟨none,op,ty,"",#[],none⟩
theorem QO (P:Program) (o:Oper) (T:Env) (H:View) (n:Nat):cd P (oper o.op o.type) T H n=cd P o T H n:=by
 cases o;rfl
def sI (P:Program) (s:SI) (T:Env) (H:View) (n:Nat):Out:=match s with
 | .eU x=>some (x.at T,.none,[])
 | .pick c a b=>match c.at T with
  | .val (.bool t)=>some (if t then a.at T else b.at T,.none,[])
  | _=>none
 | .box x=>lW (x.at T).cells n
 | .jw x=>if (x.at T).cells.all aH=true then some (.aJ (x.at T).cells 0,.none,[]) else none
 | .alloc z=>lW z n
 | .build z parts=>(mo z (parts.map λ(a,b,x)=>(a,b,x.at T))).map λcs=>(.agg cs,.none,[])
 | .cg len sz z parts=>zi len sz z (parts.map λ(i,x)=>(i,x.at T)) n
 | .load sz a=>xc sz (a.at T) H
 | .xg sz a=>match a.at T with
  | .aJ e j=>(mE sz e j).map λv=>(v,.none,[])
  | _=>none
 | .store sz a x=>BI sz (a.at T) (x.at T) H
 | .AU x=>match x.at T with
  | .ptr id i j=>some (.ptr id i j,.none,[])
  | .aJ e j=>some (.aJ e j,.none,[])
  | .fn f a b=>some (.fn f a b,.none,[])
  | _=>none
 | .addr off x=>zD off (x.at T)
 | .field off sz x=>match x.at T with
  | .agg cs=>(mE sz cs off).map λv=>(v,.none,[])
  | _=>none
 | .idx sz x i=>DP sz (x.at T) (i.at T)
 | .slice sz x lo hi=>cY sz (x.at T) (lo.map (SX.at T)) (hi.map (SX.at T))
 | .make sz bytes z l c=>CG sz bytes z (l.at T) (c.at T) n
 | .qq=>some (.mp n,.new (.map [] 0),[])
 | .uq f first cap=>some (.fn f (first.map (SX.at T)) (cap.map (SX.at T)),.none,[])
 | .ext i x=>match x.at T with
  | .aY vs=>if i < vs.length then some (vs.getD i .any,.none,[]) else none
  | _=>none
 | .len x=>(ct (x.at T)).map λn=>(fO n,.none,[])
 | .pM x=>match x.at T with
  | .val (.string s)=>some (fO s.size,.none,[])
  | _=>none
 | .app sz bytes x y=>FV sz bytes (x.at T) (y.at T) H n
 | .arith op x y=>yi op (x.at T) (y.at T)
 | .sh l x y=>NF l (x.at T) (y.at T)
 | .xl op x y=>AZ op (x.at T) (y.at T)
 | .iv x i=>B9 (x.at T) (i.at T)
 | .not x=>match x.at T with
  | .val (.bool t)=>some (.val (.bool (!t)),.none,[])
  | _=>none
 | .nil eq k x y=>match AV (eX k (x.at T)) (eX k (y.at T)) with
  | some b=>some (.val (.bool (if eq then b else !b)),.none,[])
  | none=>none
 | .beq eq x y=>match x.at T,y.at T with
  | .val (.bool a),.val (.bool b)=>some (.val (.bool (if eq then a == b else a != b)),.none,[])
  | _,_=>none
 | .mm mx x y=>match x.at T,y.at T with
  | .val (.int k a),.val (.int _ b)=>some (.val (.int k (if mx then (if b > a then b else a) else (if b < a then b else a))),.none,[])
  | _,_=>none
 | .conv k x=>match x.at T with
  | .val (.int _ a)=>some (.val (.int k (k.wrap a)),.none,[])
  | _=>none
 | .C5 x=>match x.at T with
  | .aW es=>(kL es).map λl=>(.val (.string ⟨l.toArray⟩),.none,[])
  | _=>none
 | .gg x=>match x.at T with
  | .val (.string s)=>some (.aW (gG s),.none,[])
  | _=>none
 | .old op ty=>cd P (oper op ty) T H n
def B7 (P:Program) (t:TypeId):Option (Option Nat):=match P.info? t,sg P t with
 | some i,some true=>some (some i.size)
 | some _,some false=>some none
 | _,_=>none
theorem wA {P:Program} {t:TypeId} {k:Option Nat} (h:B7 P t=some k) (cs:List V) (j:Nat):qm P t cs j=mE k cs j:=by
 unfold B7 at h
 split at h
 .rename_i i h1 a
  simp at h;subst h;simp[qm,h1,a,mE]
 .rename_i i h1 a
  simp at h;subst h;simp[qm,h1,a,mE]
 .simp at h
def oQ (P:Program) (t:TypeId):Option (Nat × Nat × List V):=match cK P t with
 | some e=>match P.info? e,zeroCells P e with
  | some ti,some z=>if z.length=ti.size/\z.all aH=true/\ti.size≠0 then some (ti.size,ti.bytes,z) else none
  | _,_=>none
 | none=>none
theorem jT {P:Program} {t:TypeId} {sz a:Nat} {z:List V} (h:oQ P t=some (sz,a,z)) :
  ∃ e ti,cK P t=some e/\P.underlying t=some (.slice e)/\P.info? e=some ti/\zeroCells P e=some z/\z.length=ti.size/\z.all aH=true/\ti.size≠0/\sz=ti.size/\a=ti.bytes:=by
 unfold oQ at h
 split at h
 .rename_i e he
  split at h
  .rename_i ti f h1 c
   split at h
   .rename_i b
    simp at h
    obtain⟨rfl,rfl,rfl⟩:=h
    have hu:P.underlying t=some (.slice e):=by
     unfold cK at he;split at he
     .rename_i d;simp at he;subst he;exact d
     .simp at he
    exact⟨e,ti,he,hu,h1,c,b.1,b.2.1,b.2.2,rfl,rfl⟩
   .simp at h
  .simp at h
 .simp at h
def uQ (P:Program) (t:TypeId):List (Nat × Operand)->Option (List (Nat × Nat × SX))
 | []=>some []
 | (i,x) :: r=>match placeOf P t i,uQ P t r with
  | some (a,b),some l=>some ((a,b,SX.of x) :: l)
  | _,_=>none
def comp (P:Program) (o:Oper):SI:=match o.op with
 | .move x | .assign x=>.eU (SX.of x)
 | .pick c a b=>.pick (SX.of c) (SX.of a) (SX.of b)
 | .alloc e=>match zeroCells P e with
  | some z=>.alloc z
  | none=>.old o.op o.type
 | .box _ x=>.box (SX.of x)
 | .load t a=>match B7 P t with
  | some k=>.load k (SX.of a)
  | none=>.old o.op o.type
 | .store t a v=>match P.info? t with
  | some _=>.store (P.cellsOf t) (SX.of a) (SX.of v)
  | none=>.old o.op o.type
 | .nilCheck x=>.AU (SX.of x)
 | .fieldAddr t x f=>match pW P t f with
  | some (off,s,_)=>if s=0 then .old o.op o.type else .addr off (SX.of x)
  | none=>.old o.op o.type
 | .field t x f=>match pW P t f with
  | some (off,_,ft)=>match B7 P ft with
   | some k=>.field off k (SX.of x)
   | none=>.old o.op o.type
  | none=>.old o.op o.type
 | .indexAddr t x i=>match oQ P t with
  | some (sz,_,_)=>.idx sz (SX.of x) (SX.of i)
  | none=>.old o.op o.type
 | .slice t x lo hi none=>match oQ P t with
  | some (sz,_,_)=>.slice sz (SX.of x) (lo.map SX.of) (hi.map SX.of)
  | none=>.old o.op o.type
 | .makeSlice t l c=>match oQ P t with
  | some (sz,b,z)=>.make sz b z (SX.of l) (SX.of c)
  | none=>.old o.op o.type
 | .makeMap _ none=>.qq
 | .makeFunc (.func f) first cap=>.uq f (first.toList.map SX.of) (cap.toList.map SX.of)
 | .extract t i=>.ext i (SX.of t)
 | .build t parts=>match P.underlying t,zeroV P t with
  | some (.struct _),some (.agg z)=>if mh P t=true then
    (match uQ P t parts.toList with
    | some ps=>.build z ps
    | none=>.old o.op o.type) else .old o.op o.type
  | _,_=>.old o.op o.type
 | .buildSlice t len parts=>match oQ P t with
  | some (sz,_,z)=>if len=0/\parts.toList.isEmpty=true then .eU (.val (.emp 2)) else if len * sz<=2 ^ 24/\len≠0 then .cg len sz z (parts.toList.map λ(i,x)=>(i,SX.of x)) else .old o.op o.type
  | none=>.old o.op o.type
 | .call { callee:=.builtin b,args,argTypes }=>match b,args.toList with
  | .len,[x]=>if 1<=argTypes.size then (match P.underlying (argTypes.getD 0 0) with
   | some (.slice _)=>.len (SX.of x)
   | some .string=>.pM (SX.of x)
   | _=>.old o.op o.type) else .old o.op o.type
  | .append,[s,x]=>if 2<=argTypes.size/\ow P (argTypes.getD 1 0)=true then (match oQ P (argTypes.getD 0 0) with
   | some (sz,b,_)=>.app sz b (SX.of s) (SX.of x)
   | none=>.old o.op o.type) else .old o.op o.type
  | .min,[x,y]=>.mm false (SX.of x) (SX.of y)
  | .max,[x,y]=>.mm true (SX.of x) (SX.of y)
  | _,_=>.old o.op o.type
 | .convert s d x=>match P.underlying s,P.underlying d with
  | some (.int _),some (.int k)=>.conv k (SX.of x)
  | _,_=>.old o.op o.type
 | .binOp op t x y _=>match jA P t with
  | some k=>match op with
   | .eql=>.nil true k (SX.of x) (SX.of y)
   | .neq=>.nil false k (SX.of x) (SX.of y)
   | _=>.old o.op o.type
  | none=>match P.underlying t with
   | some (.int _)=>match Qk op with
    | some l=>.sh l (SX.of x) (SX.of y)
    | none=>.arith op (SX.of x) (SX.of y)
   | some .string=>.xl op (SX.of x) (SX.of y)
   | some .bool=>match op with
    | .eql=>.beq true (SX.of x) (SX.of y)
    | .neq=>.beq false (SX.of x) (SX.of y)
    | _=>.old o.op o.type
   | _=>.old o.op o.type
 | .unOp .not _ x=>.not (SX.of x)
 | .index t x i=>match P.underlying t with
  | some .string=>.iv (SX.of x) (SX.of i)
  | _=>.old o.op o.type
 | _=>.old o.op o.type
theorem E6 {P:Program} {t:TypeId} {T:Env} : ∀ (parts:List (Nat × Operand)) (c:List (Nat × Nat × SX)) (z:List V),uQ P t parts=some c ->
  vP (placeOf P t) z (parts.map λ(i,x)=>(i,ev T x))=mo z (c.map λ(a,b,x)=>(a,b,x.at T))
 | [],c,z,h=>by simp[uQ] at h;subst h;rfl
 | (i,x) :: r,c,z,h=>by
  simp only[uQ] at h
  split at h
  .rename_i a b l h1 d
   simp at h;subst h
   simp only[VX,vP,h1,mo,SX.cO]
   split
   .exact E6 r l _ d
   .rfl
  .simp at h
theorem IL {P:Program} {o:Oper} {T:Env} {op:BinOp} {t u:TypeId} {x y:Operand} {k:IntKind} {a b:Int} {r:Value} (c:o.op=.binOp op t x y u) (d:ev T x=.val (.int k a)) (e:ev T y=.val (.int k b)) (h:hU op k a b=some r) :
  dP P o T=some (.val r,.none,[]):=by
 unfold dP
 simp only[c,Op.operands]
 simp only[d,e,de]
 cases op <;> simp only[hU,Vr,reduceCtorEq] at h
 all_goals first
  | (
   split at h
   .simp at h
   .rename_i f
    simp at h;subst h
    simp[execOp,c,d,e,de,eqGuard,binOp,Op.intDiv,f,plain]
    try rfl)
  | (subst h;simp[execOp,c,d,e,de,eqGuard,binOp,Op.intArith,Op.intCmp,Op.intBits,plain];try rfl)
theorem P4 {P:Program} {o:Oper} {T:Env} {op:BinOp} {t u:TypeId} {x y:Operand} {l:Bool} {v:V} {eff:bq} {rd:List Nat} (c:o.op=.binOp op t x y u) (d:Qk op=some l) (h:NF l (ev T x) (ev T y)=some (v,eff,rd)) :
  dP P o T=some (v,eff,rd):=by
 unfold NF at h
 split at h
 .rename_i k a i b e f
  split at h
  .simp at h
  .rename_i g
   simp only[Vr,Vv] at h
   obtain⟨rfl,rfl,rfl⟩:=h
   unfold dP
   simp only[c,Op.operands]
   simp only[e,f,de]
   cases op <;> simp only[Qk,Vr,reduceCtorEq] at d
   all_goals
    subst d
    simp[execOp,c,e,f,de,eqGuard,binOp,Op.shift,g,plain,KJ]
    try rfl
 .simp at h
theorem OG {P:Program} {o:Oper} {T:Env} {op:BinOp} {t u:TypeId} {x y:Operand} {v:V} {eff:bq} {rd:List Nat} (c:o.op=.binOp op t x y u) (h:AZ op (ev T x) (ev T y)=some (v,eff,rd)) :
  dP P o T=some (v,eff,rd):=by
 unfold AZ at h
 split at h
 .rename_i a b d e
  unfold dP
  simp only[c,Op.operands,d,e,de]
  have he:(a.toList == b.toList)=jb a b:=by simp[jb,ByteArray.toList_eq]
  split at h
  .simp at h;obtain⟨rfl,rfl,rfl⟩:=h
   simp[execOp,c,d,e,de,eqGuard,binOp,Op.stringOp,plain,<-he];rfl
  .simp at h;obtain⟨rfl,rfl,rfl⟩:=h
   simp[execOp,c,d,e,de,eqGuard,binOp,Op.stringOp,plain,<-he];rfl
  .simp at h
 .simp at h
theorem Lz {P:Program} {o:Oper} {T:Env} {t:TypeId} {x i:Operand} {v:V} {eff:bq} {rd:List Nat} (e:o.op=.index t x i) (hu:P.underlying t=some .string) (h:B9 (ev T x) (ev T i)=some (v,eff,rd)) :
  dP P o T=some (v,eff,rd):=by
 unfold B9 at h
 split at h
 .rename_i s q f a
  split at h
  .rename_i b m
   simp at h;obtain⟨rfl,rfl,rfl⟩:=h
   unfold asNat at a
   split at a
   .rename_i k z g
    split at a
    .rename_i j
     simp at a;subst a
     have l:s[z.toNat]?=some b:=by
      obtain⟨c,rfl⟩:=VC.1 m
      have d:z.toNat < s.size:=by rw[bsize] at c;exact c
      rw[getElem?_pos s z.toNat d]
      rfl
     unfold dP
     simp only[e,Op.operands,f,g,de]
     simp[execOp,e,f,g,de,Instr.index,asIntOf,underlying,program,hu,j,l,plain]
     simp[bg,hu,j,l,plain,bind,Sem.bind,pure]
     rfl
    .simp at a
   .simp at a
  .simp at h
 .simp at h
theorem ML {P:Program} {o:Oper} {T:Env} {t:TypeId} {x:Operand} {b:Bool} (a:o.op=.unOp .not t x) (c:ev T x=.val (.bool b)) :
  dP P o T=some (.val (.bool (!b)),.none,[]):=by
 unfold dP
 simp only[a,Op.operands,c,de]
 simp[execOp,a,c,de,Op.unary,plain]
 rfl
theorem jg {α β:Type} (P:Program) (s:Sem α) (f:α->β):bg P (Functor.map f s)=(bg P s).map f:=by
 show bg P (s >>= λa=>pure (f a))=_
 rw[aV]
 cases bg P s <;> rfl
theorem dL {P:Program} {t:TypeId} {d:TypeDesc} (h:P.underlying t=some d):bg P (underlying t)=some d:=by
 simp only[underlying,program,aV]
 simp[bg,h]
 rfl
theorem xj {P:Program} {t:TypeId} {a b:Bool} (hu:P.underlying t=some .bool):bg P (Op.equal t (.bool a) (.bool b))=some (a == b):=by
 rw[jW]
 generalize 9999=d
 simp only[Op.equalIn,aV,dL hu,V1]
 rfl
theorem D0 {P:Program} {o:Oper} {T:Env} {op:BinOp} {t u:TypeId} {x y:Operand} {a b:Bool} {r:Bool} (c:o.op=.binOp op t x y u) (hu:P.underlying t=some .bool) (d:ev T x=.val (.bool a)) (e:ev T y=.val (.bool b))
  (hr:(op=.eql/\r=(a == b))∨(op=.neq/\r=(a != b))) :
  dP P o T=some (.val (.bool r),.none,[]):=by
 unfold dP
 simp only[c,Op.operands,d,e,de]
 rcases hr with ⟨rfl,rfl⟩ | ⟨rfl,rfl⟩
 .simp[execOp,c,d,e,de,eqGuard,binOp,jg,aV,xj hu,plain]
  try simp[bg,pure,plain]
 .simp[execOp,c,d,e,de,eqGuard,binOp,jg,aV,xj hu,plain]
  try simp[bg,pure,plain,bne]
theorem KZ {P:Program} {o:Oper} {T:Env} {s d:TypeId} {x:Operand} {f k b:IntKind} {a:Int} (c:o.op=.convert s d x) (g:P.underlying s=some (.int f)) (h:P.underlying d=some (.int k)) (e:ev T x=.val (.int b a)) :
  dP P o T=some (.val (.int k (k.wrap a)),.none,[]):=by
 unfold dP
 simp only[c,Op.operands,e,de]
 have:bg P (convert s d (.int b a))=some (.int k (k.wrap a)):=by
  simp only[convert,aV,dL g,dL h,V1]
  rfl
 simp[execOp,c,e,de,jg,this,plain]
theorem F0 {P:Program} {o:Oper} {T:Env} {bi:Builtin} {x y:Operand} {k d:IntKind} {a b:Int} {args:Array Operand} {c:Array TypeId} {r:Int} (e:o.op=.call { callee:=.builtin bi,args:=args,argTypes:=c }) (h:args.toList=[x,y])
  (f:ev T x=.val (.int k a)) (g:ev T y=.val (.int d b)) (hr:(bi=.max/\r=if b > a then b else a)∨(bi=.min/\r=if b < a then b else a)) :
  dP P o T=some (.val (.int k r),.none,[]):=by
 obtain rfl:args = #[x,y]:=by rw[<-Array.toArray_toList (xs:=args),h]
 unfold dP
 rcases hr with ⟨rfl,rfl⟩ | ⟨rfl,rfl⟩
 .have:bg P (Builtin.max_ c o.type #[.int k a,.int d b])=some (.int k (if b > a then b else a)):=rfl
  simp[e,Op.operands,Call.operands,f,g,de,execOp,resolve,invoke,builtin,jg,this,plain]
 .have:bg P (Builtin.min_ c o.type #[.int k a,.int d b])=some (.int k (if b < a then b else a)):=rfl
  simp[e,Op.operands,Call.operands,f,g,de,execOp,resolve,invoke,builtin,jg,this,plain]
theorem CC (l:List Operand) (T:Env):(l.map SX.of).map (SX.at T)=l.map (ev T):=by
 rw[List.map_map];congr 1;funext x;exact SX.cO T x
theorem R9 (l:Option Operand) (T:Env):(l.map SX.of).map (SX.at T)=l.map (ev T):=by
 cases l <;> simp[SX.cO]
theorem R1 (l:List (Nat × Operand)) (T:Env):(l.map λ(i,x)=>(i,SX.of x)).map (λ(i,x)=>(i,SX.at T x))=l.map λ(i,x)=>(i,ev T x):=by
 rw[List.map_map];congr 1;funext x;simp[SX.cO]
theorem Ka {P:Program} {o:Oper} {T:Env} {H:View} {n:Nat} {v:V} {eff:bq} {rd:List Nat} (h:sI P (comp P o) T H n=some (v,eff,rd)) :
  cd P o T H n=some (v,eff,rd):=by
 have old:∀ {s:SI},s=.old o.op o.type->sI P s T H n=some (v,eff,rd)->cd P o T H n=some (v,eff,rd):=λe h=>by rw[e] at h;simp only[sI,QO] at h;exact h
 unfold comp at h
 split at h
 .rename_i x g;simp only[sI,SX.cO] at h;simp only[cd,g];exact h
 .rename_i x g;simp only[sI,SX.cO] at h;simp only[cd,g];exact h
 .rename_i c a b g;simp only[sI,SX.cO] at h;simp only[cd,g];exact h
 .rename_i e g
  split at h
  .rename_i z R;simp only[sI] at h;simp only[cd,g,R];exact h
  .exact old rfl h
 .rename_i t x g;simp only[sI,SX.cO] at h;simp only[cd,g];exact h
 .rename_i t a g
  split at h
  .rename_i k hk
   simp only[sI,SX.cO,xc] at h
   simp only[cd,g,mH,wA hk]
   exact h
  .exact old rfl h
 .rename_i t a x g
  split at h
  .rename_i ti S
   simp only[sI,SX.cO,BI] at h
   simp only[cd,g,rm,S,Option.isSome_some,and_true]
   exact h
  .exact old rfl h
 .rename_i x g;simp only[sI,SX.cO] at h;simp only[cd,g];exact h
 .rename_i t x f g
  split at h
  .rename_i off s ft I
   split at h
   .exact old rfl h
   .rename_i N
    simp only[sI,SX.cO,zD] at h
    simp only[cd,g,lu,I,N,if_false]
    exact h
  .exact old rfl h
 .rename_i t x f g
  split at h
  .rename_i off s ft I
   split at h
   .rename_i k hk
    simp only[sI,SX.cO] at h
    simp only[cd,g,uM,I]
    split at h
    .rename_i cs U;simp only[U,wA hk];exact h
    .simp at h
   .exact old rfl h
  .exact old rfl h
 .rename_i t x i g
  split at h
  .rename_i sz b z hk
   obtain⟨e,ti,h1,J,w,D,K,O,L,rfl,rfl⟩:=jT hk
   simp only[sI,SX.cO,DP] at h
   simp only[cd,g,lD,J,w]
   exact h
  .exact old rfl h
 .rename_i t x lo hi g
  split at h
  .rename_i sz b z hk
   obtain⟨e,ti,h1,J,w,D,K,O,L,rfl,rfl⟩:=jT hk
   simp only[sI,SX.cO,R9] at h
   simp only[cd,g]
   have q:sA P t (ev T x) (lo.map (ev T)) (hi.map (ev T)) none=some (v,eff,rd):=by
    simp only[sA,h1,w]
    unfold cY at h
    split at h
    .rename_i p;rw[p];exact h
    .rename_i p;rw[p];exact h
    .rename_i p;rw[p];exact h
    .simp at h
   unfold cY at h
   split at h
   .rename_i p;rw[p] at q ⊢;exact q
   .rename_i p;rw[p] at q ⊢;exact q
   .rename_i p;rw[p] at q ⊢;exact q
   .simp at h
  .exact old rfl h
 .rename_i t l c g
  split at h
  .rename_i sz b z hk
   obtain⟨e,ti,h1,J,w,D,K,O,L,rfl,rfl⟩:=jT hk
   simp only[sI,SX.cO,CG] at h
   simp only[cd,g,lG,h1,w]
   split at h
   .rename_i l' c' hl G
    simp only[hl,G,L,if_false,D,K,O,and_self,if_true]
    exact h
   .simp at h
  .exact old rfl h
 .rename_i t g;simp only[sI] at h;simp only[cd,g];exact h
 .rename_i f first cap g;simp only[sI,CC] at h;simp only[cd,g];exact h
 .rename_i t i g;simp only[sI,SX.cO] at h;simp only[cd,g];exact h
 .rename_i t parts g
  split at h
  .rename_i fs z h1 J
   split at h
   .rename_i w
    split at h
    .rename_i ps D
     simp only[sI] at h
     simp only[cd,g,uW,h1,J,w,if_true]
     have:=E6 (T:=T) parts.toList ps z D
     rw[this]
     exact h
    .exact old rfl h
   .exact old rfl h
  .exact old rfl h
 .rename_i t len parts g
  split at h
  .rename_i sz b z hk
   obtain⟨e,ti,h1,J,w,D,K,O,L,rfl,rfl⟩:=jT hk
   split at h
   .rename_i G
    obtain⟨rfl,G⟩:=G
    simp only[sI,SX.at] at h
    simp only[cd,g,ib,h1,w]
    rw[List.isEmpty_iff] at G
    rw[Vs (by omega),Vu trivial,G]
    exact h
   split at h
   .rename_i G
    simp only[sI,R1,zi] at h
    simp only[cd,g,ib,h1,w]
    rw[Vs (by omega),Vs G.2,Vs L]
    simp only[D,K,O,and_self,if_true]
    exact h
   .exact old rfl h
  .exact old rfl h
 .rename_i b args ab g
  split at h
  .rename_i x j
   split at h
   .rename_i E
    simp only[cd,g,j,E,if_true,tW]
    split at h
    .rename_i e hu
     simp only[sI,SX.cO] at h
     simp only[hu];exact h
    .rename_i hu
     simp only[sI,SX.cO] at h
     simp only[hu]
     exact h
    .have:=old rfl h
     simpa only [cd,g,j,E,if_true,tW] using this
   .exact old rfl h
  .rename_i s x j
   split at h
   .rename_i E
    split at h
    .rename_i sz b z hk
     obtain⟨e,ti,h1,J,w,D,K,O,L,rfl,rfl⟩:=jT hk
     simp only[sI,SX.cO] at h
     simp only[cd,g,j]
     rw[Vu E]
     unfold FV at h
     split at h
     .rename_i xs an W
      simp only[nt,h1,W,w]
      have R:(zeroCells P e).map List.length=some ti.size:=by rw[D];simp[K]
      split at h
      .rename_i A;rw[Vu A];exact h
      .rename_i A
       rw[Vs A]
       split at h
       .simp at h
       .rename_i Q
        rw[Vs (by
         rintro (p | p | p)
         .exact L p
         .exact p R
         .exact Q p)]
        exact h
     .simp at h
    .exact old rfl h
   .exact old rfl h
  .rename_i x y j
   simp only[sI,SX.cO] at h
   simp only[cd,g]
   split at h
   .rename_i k a X b B F
    have:=F0 (P:=P) (T:=T) g j B F (.inr ⟨rfl,rfl⟩)
    rw[this];exact h
   .simp at h
  .rename_i x y j
   simp only[sI,SX.cO] at h
   simp only[cd,g]
   split at h
   .rename_i k a X b B F
    have:=F0 (P:=P) (T:=T) g j B F (.inl ⟨rfl,rfl⟩)
    rw[this];exact h
   .simp at h
  .exact old rfl h
 .rename_i s d x g
  split at h
  .rename_i k0 k N Z
   simp only[sI,SX.cO] at h
   simp only[cd,g]
   split at h
   .rename_i X a B
    have M:¬ (k8 P s d=true):=by simp[k8,N,Z]
    rw[Vs M,KZ g N Z B];exact h
   .simp at h
  .exact old rfl h
 .rename_i op t x y u g
  split at h
  .rename_i k hk
   have C:(jA P t).isSome=true:=by rw[hk];rfl
   split at h
   .simp only[sI,SX.cO] at h
    simp only[cd,g]
    rw[Vu C,JS hk]
    split at h
    .rename_i b M;rw[M];simpa using h
    .simp at h
   .simp only[sI,SX.cO] at h
    simp only[cd,g]
    rw[Vu C,JS hk]
    split at h
    .rename_i b M;rw[M];simpa using h
    .simp at h
   .exact old rfl h
  .rename_i hk
   have m:¬ ((jA P t).isSome=true):=by rw[hk];simp
   split at h
   .split at h
    .rename_i l N
     simp only[sI,SX.cO] at h
     simp only[cd,g]
     rw[Vs m]
     exact P4 g N h
    .simp only[sI,SX.cO,yi] at h
     simp only[cd,g]
     split at h
     .rename_i k a X b B F
      split at h
      .rename_i Y
       subst Y
       simp only[Vy] at h
       obtain⟨r,hr,h⟩:=h
       rw[Vs m,IL g B F hr];exact W4 some h
      .simp at h
     .simp at h
   .simp only[sI,SX.cO] at h
    simp only[cd,g]
    rw[Vs m]
    exact OG g h
   .rename_i hu
    split at h
    .simp only[sI,SX.cO] at h
     simp only[cd,g]
     split at h
     .rename_i a b B F
      rw[Vs m,D0 g hu B F (.inl ⟨rfl,rfl⟩)];simpa using h
     .simp at h
    .simp only[sI,SX.cO] at h
     simp only[cd,g]
     split at h
     .rename_i a b B F
      rw[Vs m,D0 g hu B F (.inr ⟨rfl,rfl⟩)];simpa using h
     .simp at h
    .exact old rfl h
   .exact old rfl h
 .rename_i t x g
  simp only[sI,SX.cO] at h
  simp only[cd,g]
  split at h
  .rename_i b M;rw[ML g M];exact h
  .simp at h
 .rename_i t x i g
  split at h
  .rename_i hu
   simp only[sI,SX.cO] at h
   simp only[cd,g]
   exact Lz g hu h
  .exact old rfl h
 .exact old rfl h
theorem Px {P:Program} {sz:Option Nat} {a:SX} {T:Env} {H:View} {n:Nat} {v:V} {eff:bq} {rd:List Nat} (h:sI P (.xg sz a) T H n=some (v,eff,rd)):sI P (.load sz a) T H n=some (v,eff,rd):=by
 simp only[sI] at h
 simp only[sI,xc]
 split at h
 .rename_i e j b;rw[b];exact h
 .simp at h
def toStr (P:Program) (s d:TypeId):Bool:=match P.underlying s,P.underlying d with
 | some (.slice e),some .string=>(match P.underlying e with | some (.int .u8)=>true | _=>false)
 | _,_=>false
def vg (P:Program) (s d:TypeId):Bool:=match P.underlying s,P.underlying d with
 | some .string,some (.slice e)=>(match P.underlying e with | some (.int .u8)=>true | _=>false)
 | _,_=>false
theorem NQ {P:Program} {s d:TypeId} (h:toStr P s d=true):∃ e,P.underlying s=some (.slice e)/\P.underlying d=some .string/\P.underlying e=some (.int .u8):=by
 unfold toStr at h
 split at h
 .rename_i e h1 a
  split at h
  .rename_i b;exact⟨e,h1,a,b⟩
  .simp at h
 .simp at h
theorem Aj {P:Program} {s d:TypeId} (h:vg P s d=true):∃ e,P.underlying s=some .string/\P.underlying d=some (.slice e)/\P.underlying e=some (.int .u8):=by
 unfold vg at h
 split at h
 .rename_i e h1 a
  split at h
  .rename_i b;exact⟨e,h1,a,b⟩
  .simp at h
 .simp at h
theorem RQ {P:Program} {s d ty:TypeId} {x:Operand} {T:Env} {H:View} {n:Nat} {v:V} {eff:bq} {rd:List Nat} (a:toStr P s d=true) (h:sI P (.C5 (SX.of x)) T H n=some (v,eff,rd)):sI P (.old (.convert s d x) ty) T H n=some (v,eff,rd):=by
 obtain⟨e,h1,b,c⟩:=NQ a
 simp only[sI,SX.cO] at h
 simp only[sI,cd,oper,k8,h1,if_true,mV,b,c]
 split at h
 .rename_i es f
  rw[f]
  simp only[bC,ct]
  exact h
 .simp at h
inductive SB where
 | op (s:SI)
 | call (f:SX) (args:List SX)
 | tG (f:SX) (args:List SX)
 deriving Inhabited
structure SO where
 dst:Option Nat
 guard:Option (Nat × Bool)
 b:SB
 deriving Inhabited
structure SG where
 guard:Option (Nat × Bool)
 ops:List (Option Nat × SB)
 deriving Inhabited
inductive SC where
 | skip
 | region (quiet:Bool) (gs:List SG)
 | uZ (aps:List (Nat × Nat)) (gs:List SG)
 | zE (tol:Nat × Nat × Nat) (aps:List (Nat × Nat)) (gs:List SG)
 | seq (x y:SC)
 | cond (c:SX) (x y:SC)
 | block (id:Nat) (c:SC)
 | loop (c:SC)
 | exit (id:Nat)
 | ret
 | scope (l:Nat) (c r:SC)
 | label (l:Nat)
 | goto (l:Nat)
 deriving Inhabited
def n0:SC->Nat->Option SC
 | .seq a b,l=>match n0 a l with
  | some r=>some (.seq r b)
  | none=>n0 b l
 | .label l',l=>if l' == l then some .skip else none
 | _,_=>none
def FT:SC->Option Nat
 | .seq a b=>match FT a with
  | some l=>some l
  | none=>FT b
 | .label l=>some l
 | _=>none
def zG (l:Nat):Exit->Prop->Prop->Prop
 | .goto l',a,_=>l'=l/\a
 | _,_,b=>b
inductive SR where
 | tmp (t:Nat)
 | cell (t:Nat) (sz:Option Nat)
 deriving Inhabited
def zF (P:Program) (op:Op):Nat:=match op with
 | .convert s d _=>if k8 P s d=true then 2 else 0
 | .call { callee:=.builtin b,.. }=>match b with
  | .min | .max | .complex | .real | .imag=>0
  | .len=>1
  | _=>2
 | .lookup ..=>1
 | .binOp .. | .unOp .. | .index ..=>0
 | _=>2
def tO (P:Program):SI->Nat
 | .eU _ | .pick .. | .jw _ | .AU _ | .addr .. | .field .. | .idx .. | .slice .. | .uq .. | .ext .. | .len _ | .pM _ | .arith .. | .sh .. | .xl .. | .iv .. | .not _ | .nil .. | .build .. | .xg .. | .beq .. | .mm .. | .conv .. | .C5 _ | .gg _=>0
 | .load .. | .box _ | .alloc _ | .cg .. | .make .. | .qq=>1
 | .store .. | .app ..=>2
 | .old op _=>zF P op
def ja (P:Program) (quiet:Bool):SB->Nat
 | .op s=>tO P s
 | .call ..=>if quiet then 1 else 2
 | .tG ..=>1
structure Fz where
 l:List Nat
 fr:Bool
def xY (P:Program) (fr:Bool):SI->SI
 | .load k a=>if fr then .xg k a else .load k a
 | .old (.convert s d x) ty=>if fr && toStr P s d then .C5 (SX.of x) else .old (.convert s d x) ty
 | s=>s
def mF (P:Program) (fz:Fz) (o:Oper):SB:=match o.op with
 | .call { callee:=.value f,args,.. }=>if (match o.dst with | some d=>fz.l.contains (200000+d) | none=>false) then .tG (SX.of f) (args.toList.map SX.of) else .call (SX.of f) (args.toList.map SX.of)
 | .box _ x=>if (match o.dst with | some d=>fz.l.contains d | none=>false) then .op (.jw (SX.of x)) else .op (.box (SX.of x))
 | .convert s d x=>if (match o.dst with | some t=>fz.l.contains t | none=>false) && vg P s d then .op (.gg (SX.of x)) else .op (xY P fz.fr (comp P o))
 | _=>.op (xY P fz.fr (comp P o))
def vu (n:Nat) (all:List Oper) (o:Oper):Option (Option (Nat × Bool)):=match o.guard with
 | none=>some none
 | some (j,want)=>match (all[j]?).bind (·.dst) with
  | some d=>if d < n then some (some (d,want)) else none
  | none=>none
def Fx (P:Program) (n:Nat) (all:List Oper) (fz:Fz) (o:Oper):Option SO :=
 if r5 n o then (vu n all o).map λg=>⟨o.dst,g,mF P fz o⟩ else none
def dF (P:Program) (n:Nat) (all:List Oper) (fz:Fz):List Oper->Option (List SO)
 | []=>some []
 | o :: r=>match Fx P n all fz o,dF P n all fz r with
  | some s,some l=>some (s :: l)
  | _,_=>none
def SG.flat (g:SG):List SO:=g.ops.map λ(d,b)=>⟨d,g.guard,b⟩
def kG (gs:List SG):List SO:=(gs.map SG.flat).flatten
def Lc (g:Option (Nat × Bool)) (s:SO):Bool:=match g,s.guard with
 | none,none=>true
 | some (d,w),some (d',w')=>d == d' && w == w' && s.dst != some d
 | _,_=>false
def group:List SO->List SG
 | []=>[]
 | s :: r=>match group r with
  | g :: gs=>if Lc g.guard s then ⟨g.guard,(s.dst,s.b) :: g.ops⟩ :: gs else ⟨s.guard,[(s.dst,s.b)]⟩ :: g :: gs
  | []=>[⟨s.guard,[(s.dst,s.b)]⟩]
theorem Qn {g:Option (Nat × Bool)} {s:SO} (h:Lc g s=true):s.guard=g:=by
 unfold Lc at h
 split at h
 .rename_i h1;exact h1
 .rename_i d w a w' h1
  simp at h;rw[h1,h.1.1,h.1.2]
 .simp at h
theorem gB:∀ l:List SO,kG (group l)=l
 | []=>rfl
 | s :: r=>by
  have a:=gB r
  simp only[group]
  split
  .rename_i g gs c
   rw[c] at a
   split
   .rename_i e
    have:=Qn e
    rw[<-a]
    cases s with
    | mk d f b=>simp only at this;subst this;simp[kG,SG.flat]
   .rw[<-a];simp[kG,SG.flat]
  .rename_i c
   rw[c] at a
   rw[<-a];simp[kG,SG.flat]
def Dy (o:Oper):Bool:=match o.op with
 | .load ..=>true
 | _=>false
def AI (o:Oper):Bool:=match o.op with
 | .alloc _=>true
 | _=>false
def kS (o:Oper):Option Nat:=match o.op,o.guard with
 | .store _ (.tmp t) _,none=>some t
 | _,_=>none
def SY (all:List Oper) (j k t:Nat):Bool:=match all[j]? with
 | some o=>o.dst == some t && o.guard.isNone && AI o && ((all.drop (j+1)).take (k - (j+1))).all λo'=>o'.dst != some t
 | none=>false
def zw (all:List Oper) (i k:Nat):Bool:=match all[i]?,all[k]? with
 | some a,some b=>Dy a && (match kS b with
  | some t=>(List.range k).any λj=>decide (i < j) && SY all j k t
  | none=>false)
 | _,_=>false
def FD (all:List Oper) (ls:List Nat):Bool :=
 let b:=fE all []
 ls.zipIdx.all λ(x,i)=>ls.zipIdx.all λ(y,k)=>!decide (i < k) || ordered b i k || x == 0 || y == 0 || (decide (x<=1) && decide (y<=1)) || zw all i k
def sj (o:Oper):Option Nat:=match o.op with
 | .load _ (.tmp t)=>some t
 | _=>none
def stays (all:List Oper) (i t:Nat):Bool:=(all.drop i).all λo=>o.dst != some t
def BG (all:List Oper) (i k:Nat):Option (Nat × Nat):=match all[i]?,all[k]? with
 | some a,some b=>match sj a,kS b with
  | some s,some t=>if stays all i s && stays all k t then some (s,t) else none
  | _,_=>match kS a,sj b with
   | some t,some s=>if stays all i t && stays all k s then some (s,t) else none
   | _,_=>none
 | _,_=>none
def yC (all:List Oper) (x i y k:Nat):Bool:=!decide (i < k) || ordered (fE all []) i k || x == 0 || y == 0 || (decide (x<=1) && decide (y<=1)) || zw all i k
def kN (all:List Oper) (ls:List Nat):List (Nat × Nat):=ls.zipIdx.flatMap λ(x,i)=>ls.zipIdx.filterMap λ(y,k)=>if yC all x i y k then none else some (i,k)
def BM (all:List Oper):List (Nat × Nat)->Option (List (Nat × Nat))
 | []=>some []
 | (i,k) :: r=>match BG all i k,BM all r with
  | some p,some l=>some (p :: l)
  | _,_=>none
def MV (o:Oper):Option Nat:=match o.op,o.guard with
 | .call { callee:=.builtin .append,args,.. },none=>match args.toList with
  | [.tmp t,_]=>some t
  | _=>none
 | _,_=>none
def pR (o:Oper):Option Nat:=match kS o with
 | some t=>some t
 | none=>MV o
def Ia (o:Oper):Bool:=match o.op with
 | .buildSlice ..=>true
 | .alloc _=>true
 | _=>false
def newAt (all:List Oper) (k:Nat):Bool:=match all[k]? with
 | some b=>Ia b
 | none=>false
def DM (all:List Oper) (i k:Nat):Option (Nat × Nat):=match all[i]?,all[k]? with
 | some a,some b=>match sj a,pR b with
  | some s,some t=>if stays all i s && stays all k t then some (s,t) else none
  | _,_=>match pR a,sj b with
   | some t,some s=>if stays all i t && stays all k s then some (s,t) else none
   | _,_=>none
 | _,_=>none
def Fu (all:List Oper) (ls:List Nat) (i k:Nat):Option (Nat × Nat × Nat):=match all[i]?,all[k]? with
 | some a,some b=>match a.op,b.op,a.guard,b.guard with
  | .lookup t (.tmp m) (.tmp q) false,.mapEntry t' (.tmp m') (.tmp q'),none,none =>
   if t == t' && m == m' && q == q' && stays all i m && stays all i q && stays all k m && stays all k q && decide (i < k) && (List.range k).all λj=>decide (ls.getD j 2<=1) then some (t,m,q) else none
  | _,_,_,_=>none
 | _,_=>none
def FJ (all:List Oper) (ls:List Nat) (tp:Option (Nat × Nat)):List (Nat × Nat):=(kN all ls).filter λp=>!newAt all p.2 && tp != some p
def zm (o:Oper):Option (Nat × Nat × Nat):=match o.op,o.guard,o.dst with
 | .call { callee:=.builtin .append,args,.. },none,some d=>match args.toList with
  | [.tmp t,.tmp y]=>some (t,y,d)
  | _=>none
 | _,_,_=>none
def Du (all:List Oper) (i k:Nat):Option (List (Nat × Nat)):=match all[i]?,all[k]? with
 | some a,some b=>match zm a,zm b with
  | some (t,y,d),some (t',y',_)=>if stays all i t && stays all i y && stays all (i+1) d && stays all k t' && stays all k y' then some [(t,t'),(t,y'),(t',y),(d,t')] else none
  | _,_=>none
 | _,_=>none
def zg (all:List Oper) (i k:Nat):Option (List (Nat × Nat)):=match DM all i k with
 | some p=>some [p]
 | none=>Du all i k
def uR (all:List Oper):List (Nat × Nat)->Option (List (Nat × Nat))
 | []=>some []
 | (i,k) :: r=>match zg all i k,uR all r with
  | some p,some l=>some (p ++ l)
  | _,_=>none
def tS (g:SG):Bool:=match g.guard with
 | none=>true
 | some (d,_)=>g.ops.all λx=>x.1 != some d
def rR (P:Program) (n:Nat) (fz:Fz) (ops:List Oper) (draw quiet:Bool):Option SC:=match dF P n ops fz ops with
 | none=>none
 | some l=>if !(group l).all tS then none else
  if draw then (if l8 ops && FD ops (l.map λs=>ja P quiet s.b) then some (.region quiet (group l)) else none)
  else some (.region quiet (group l))
def Bc (P:Program) (n:Nat) (fz:Fz) (ops:List Oper):Option SC:=match dF P n ops fz ops with
 | none=>none
 | some l=>if !(group l).all tS then none else
  if l8 ops then (BM ops (kN ops (l.map λs=>ja P false s.b))).map λaps=>.uZ aps (group l) else none
def RB (all:List Oper) (ls:List Nat):Option (Nat × Nat):=(kN all ls).find? λp=>(Fu all ls p.1 p.2).isSome
def Bj (P:Program) (n:Nat) (fz:Fz) (ops:List Oper):Option SC:=match dF P n ops fz ops with
 | none=>none
 | some l=>if !(group l).all tS then none else
  if l8 ops then
   (match RB ops (l.map λs=>ja P false s.b) with
   | none=>(uR ops (FJ ops (l.map λs=>ja P false s.b) none)).map λaps=>.uZ aps (group l)
   | some p=>match Fu ops (l.map λs=>ja P false s.b) p.1 p.2 with
    | some tol=>(uR ops (FJ ops (l.map λs=>ja P false s.b) (some p))).map λaps=>.zE tol aps (group l)
    | none=>none)
  else none
def TQ:Nat:=100000
def T7:Nat:=100001
def orElse':Option SC->Option SC->Option SC
 | some x,_=>some x
 | none,y=>y
def Bg (P:Program) (n:Nat) (fz:List Nat) (ops:List Oper) (draw:Bool):Option SC :=
 orElse' (rR P n ⟨fz,false⟩ ops draw false) (if draw then orElse' (if fz.contains TQ then Bj P n ⟨fz,false⟩ ops else none) <| orElse' (if fz.contains T7 then rR P n ⟨fz,true⟩ ops true false else none) <| orElse' (Bc P n ⟨fz,false⟩ ops) (orElse' (rR P n ⟨fz,false⟩ ops true true) (orElse' (rR P n ⟨fz,true⟩ ops true false) (rR P n ⟨fz,true⟩ ops true true))) else none)
def di (P:Program) (n:Nat) (fz:List Nat):Code->Option SC
 | .skip=>some .skip
 | .region _ ops draw=>Bg P n fz ops.toList draw
 | .seq x y=>match di P n fz x,di P n fz y with
  | some a,some b=>some (.seq a b)
  | _,_=>none
 | .cond c x y=>match di P n fz x,di P n fz y with
  | some a,some b=>some (.cond (SX.of c) a b)
  | _,_=>none
 | .block id c=>(di P n fz c).map (.block id)
 | .loop c=>(di P n fz c).map .loop
 | .exit id=>some (.exit id)
 | .ret=>some .ret
 | .scope c=>match di P n fz c with
  | some sc=>match FT sc with
   | some l=>(n0 sc l).map λr=>.scope l sc r
   | none=>none
  | none=>none
 | .label l=>some (.label l)
 | .goto l=>some (.goto l)
 | _=>none
def jh (h h':aD):Prop:=∀ id,id < h.length->h.view id=.dead->h'.view id=.dead
theorem jh.refl (h:aD):jh h h:=λ_ _ e=>e
theorem jh.trans {a b c:aD} (h:jh a b) (k:jh b c) (f:a.length<=b.length):jh a c:=λid d e=>k id (VY d f) (h id d e)
def aw (P:Program) (f:FuncId) (vs:List V) (H:View) (K:V->View->Prop):Prop :=
 dD P f=true/\∀ h:aD,h.view=H->∃ r h',bK P f vs h r h'/\jh h h'/\K r h'.view
def CN (P:Program) (f:FuncId) (vs:List V) (H:View) (K:V->View->Prop):Prop :=
 dD P f=true/\∀ h:aD,h.view=H->∃ r h',bK P f vs h r h'/\(∀ id,id < h.length->h'.view id=h.view id)/\K r h'.view
def jX (sz:Option Nat) (e:List V) (j:Nat) (K:V->Prop):Prop:=match sz with
 | some n=>j+n<=e.length/\K (.agg ((e.drop j).take n))
 | none=>j < e.length/\K (e.getD j .any)
def wI (P:Program) (s:SI) (T:Env) (H:View) (K:V->View->Prop):Prop:=match s with
 | .eU x=>K (x.at T) H
 | .pick c a b=>match c.at T with
  | .val (.bool t)=>K (if t then a.at T else b.at T) H
  | _=>False
 | .box x=>(x.at T).cells.all aH=true/\∀ n,H n=.dead->K (.ptr n 0 0) (H.set n (.arr (x.at T).cells.length [(x.at T).cells]))
 | .jw x=>(x.at T).cells.all aH=true/\K (.aJ (x.at T).cells 0) H
 | .alloc z=>z.all aH=true/\∀ n,H n=.dead->K (.ptr n 0 0) (H.set n (.arr z.length [z]))
 | .load sz a=>match a.at T with
  | .ptr id i j=>match H id with
   | .arr _ es=>i < es.length/\jX sz (es.getD i []) j λv=>K v H
   | _=>False
  | .aJ e j=>jX sz e j λv=>K v H
  | _=>False
 | .xg sz a=>match a.at T with
  | .aJ e j=>jX sz e j λv=>K v H
  | _=>False
 | .store sz a x=>match a.at T with
  | .ptr id i j=>match H id with
   | .arr esz es=>(i < es.length/\(x.at T).cells.length=sz/\j+(x.at T).cells.length<=esz/\(x.at T).cells.all aH=true) /\
     K .any (H.set id (.arr esz (es.set i (fp (es.getD i []) j (x.at T).cells))))
   | _=>False
  | _=>False
 | .AU x=>match x.at T with
  | .ptr id i j=>K (.ptr id i j) H
  | .aJ e j=>K (.aJ e j) H
  | .fn f a b=>K (.fn f a b) H
  | _=>False
 | .addr off x=>match x.at T with
  | .ptr id i j=>K (.ptr id i (j+off)) H
  | .aJ e j=>K (.aJ e (j+off)) H
  | _=>False
 | .field off sz x=>match x.at T with
  | .agg cs=>jX sz cs off λv=>K v H
  | _=>False
 | .idx sz x i=>match asNat (i.at T) with
  | none=>False
  | some q=>match x.at T with
   | .sl id off len esz=>(q < len/\esz=sz)/\K (.ptr id (off+q) 0) H
   | .aW es=>∃ e,es[q]?=some e/\e.length=sz/\K (.aJ e 0) H
   | _=>False
 | .uq f first cap=>K (.fn f (first.map (SX.at T)) (cap.map (SX.at T))) H
 | .qq=>∀ n,H n=.dead->K (.mp n) (H.set n (.map [] 0))
 | .ext i x=>match x.at T with
  | .aY vs=>i < vs.length/\K (vs.getD i .any) H
  | _=>False
 | .len x=>match ct (x.at T) with
  | some n=>K (fO n) H
  | none=>False
 | .pM x=>match x.at T with
  | .val (.string s)=>K (fO s.size) H
  | _=>False
 | .arith op x y=>match x.at T,y.at T with
  | .val (.int k a),.val (.int k' b)=>k=k'/\(match hU op k a b with | some v=>K (.val v) H | none=>False)
  | _,_=>False
 | .xl op x y=>match x.at T,y.at T with
  | .val (.string a),.val (.string b)=>(match op with
   | .eql=>K (.val (.bool (jb a b))) H
   | .neq=>K (.val (.bool (!jb a b))) H
   | _=>False)
  | _,_=>False
 | .iv x i=>match x.at T,asNat (i.at T) with
  | .val (.string s),some q=>∃ b,s.data.toList[q]?=some b/\K (.val (.int .u8 b.toNat)) H
  | _,_=>False
 | .not x=>match x.at T with
  | .val (.bool t)=>K (.val (.bool (!t))) H
  | _=>False
 | .nil eq k x y=>match AV (eX k (x.at T)) (eX k (y.at T)) with
  | some b=>K (.val (.bool (if eq then b else !b))) H
  | none=>False
 | .beq eq x y=>match x.at T,y.at T with
  | .val (.bool a),.val (.bool b)=>K (.val (.bool (if eq then a == b else a != b))) H
  | _,_=>False
 | .mm mx x y=>match x.at T,y.at T with
  | .val (.int k a),.val (.int _ b)=>K (.val (.int k (if mx then (if b > a then b else a) else (if b < a then b else a)))) H
  | _,_=>False
 | .conv k x=>match x.at T with
  | .val (.int _ a)=>K (.val (.int k (k.wrap a))) H
  | _=>False
 | .sh l x y=>match x.at T,y.at T with
  | .val (.int k a),.val (.int _ b)=>0<=b/\K (.val (.int k (KJ l k a b))) H
  | _,_=>False
 | .build z parts=>match mo z (parts.map λ(a,b,x)=>(a,b,x.at T)) with
  | some cs=>K (.agg cs) H
  | none=>False
 | .cg len sz z parts=>match lH sz (List.replicate len z) (parts.map λ(i,x)=>(i,x.at T)) with
  | some es=>∀ n,H n=.dead->K (.sl n 0 len sz) (H.set n (.arr sz es))
  | none=>False
 | .slice sz x lo hi=>match cY sz (x.at T) (lo.map (SX.at T)) (hi.map (SX.at T)) with
  | some (v,.none,_)=>K v H
  | _=>False
 | .make sz bytes z l c=>match asNat (l.at T),asNat (c.at T) with
  | some l,some c=>(l<=c/\c < aC/\bytes * c < aC)/\(c=0->K (.emp 2) H)/\(c≠0->∀ n,H n=.dead->K (.sl n 0 l sz) (H.set n (.arr sz (List.replicate l z))))
  | _,_=>False
 | .app sz bytes x y=>match bC H (y.at T) with
  | some (xs,_)=>if xs.isEmpty=true then (match x.at T with
    | .emp k=>K (.emp k) H
    | .dO=>K .dO H
    | .aW es=>K (.aW es) H
    | .sl a b c d=>K (.sl a b c d) H
    | _=>False)
   else (xs.all λe=>e.length == sz && e.all aH)=true/\(match x.at T with
    | .emp _=>(xs.length * bytes < aC/\xs.length < aC)/\∀ n,H n=.dead->K (.sl n 0 xs.length sz) (H.set n (.arr sz xs))
    | .sl id off len esz=>match H id with
     | .arr _ es=>(off+len<=es.length/\esz=sz/\(len+xs.length) * bytes < aC/\len+xs.length < aC) /\
      ∀ n,H n=.dead->K (.sl n 0 (len+xs.length) esz) ((H.set id .dead).set n (.arr esz ((es.drop off).take len ++ xs)))
     | _=>False
    | _=>False)
  | none=>False
 | .C5 x=>match x.at T with
  | .aW es=>(match kL es with
   | some l=>K (.val (.string ⟨l.toArray⟩)) H
   | none=>False)
  | _=>False
 | .gg x=>match x.at T with
  | .val (.string s)=>K (.aW (gG s)) H
  | _=>False
 | s=>∀ n,H n=.dead->∃ v eff rd,sI P s T H n=some (v,eff,rd)/\K v (eff.view H n)
def wB (P:Program) (quiet:Bool) (b:SB) (T:Env) (H:View) (K:V->View->Prop):Prop:=match b with
 | .op s=>wI P s T H K
 | .call f args=>match f.at T with
  | .fn g first cap=>if quiet then CN P g (first ++ args.map (SX.at T) ++ cap) H K else aw P g (first ++ args.map (SX.at T) ++ cap) H K
  | _=>False
 | .tG f args=>match f.at T with
  | .fn g first cap=>CN P g (first ++ args.map (SX.at T) ++ cap) H K
  | _=>False
def yV (P:Program) (quiet:Bool):List (Option Nat × SB)->Env->View->(Env->View->Prop)->Prop
 | [],T,H,K=>K T H
 | (d,b) :: r,T,H,K=>wB P quiet b T H λv H'=>yV P quiet r (T.put d v) H' K
def iB:List (Option Nat × SB)->Env->Env
 | [],T=>T
 | (d,_) :: r,T=>iB r (T.put d (.aY []))
def wG (P:Program) (quiet:Bool) (g:SG) (T:Env) (H:View) (K:Env->View->Prop):Prop:=match g.guard with
 | none=>yV P quiet g.ops T H K
 | some (d,want)=>match T d with
  | .val (.bool b)=>(b=want->yV P quiet g.ops (T.put (some d) (.val (.bool want))) H K)/\(b = !want->K (iB g.ops (T.put (some d) (.val (.bool (!want))))) H)
  | .aY []=>K (iB g.ops T) H
  | _=>False
def xk (P:Program) (quiet:Bool):List SG->Env->View->(Env->View->Prop)->Prop
 | [],T,H,K=>K T H
 | g :: r,T,H,K=>wG P quiet g T H λT' H'=>xk P quiet r T' H' K
def tA (c:SX) (b:Bool) (T:Env):Env:=match c with
 | .tmp t=>T.put (some t) (.val (.bool b))
 | _=>T
def zT:Exit->Prop->Prop->Prop
 | .normal,a,_=>a
 | _,_,b=>b
def iZ (a b:V):Prop:=match a,b with
 | .ptr i _ _,.ptr j _ _=>i≠j
 | .ptr i _ _,.sl j _ _ _=>i≠j
 | .ptr _ _ _,.emp _=>True
 | .ptr _ _ _,.dO=>True
 | .ptr _ _ _,.aW _=>True
 | .aJ _ _,_=>True
 | .sl i _ _ _,.sl j _ _ _=>i≠j
 | .sl _ _ _ _,.emp _=>True
 | .sl _ _ _ _,.dO=>True
 | .sl _ _ _ _,.aW _=>True
 | .emp _,_=>True
 | .dO,_=>True
 | .aW _,_=>True
 | _,_=>False
def Ho (P:Program) (t:TypeId) (m q:V) (H:View):Prop:=match m with
 | .mp id=>(∃ es c,H id=.map es c)/\∀ v obj rd,en P t (.mp id) q H=some (v,.fe id obj,rd)->fc P t (.mp id) q false (H.set id obj)=fc P t (.mp id) q false H
 | _=>False
def yq:List (Nat × Nat)->Env->Prop->Prop
 | [],_,K=>K
 | p :: l,T,K=>iZ (T p.1) (T p.2)/\yq l T K
def wS (P:Program):SC->Env->View->(Exit->Env->View->Prop)->Prop
 | .skip,T,H,Q=>Q .normal T H
 | .region quiet gs,T,H,Q=>xk P quiet gs T H (Q .normal)
 | .uZ aps gs,T,H,Q=>xk P false gs T H λT' H'=>yq aps T' (Q .normal T' H')
 | .zE tol aps gs,T,H,Q=>xk P false gs T H λT' H'=>Ho P tol.1 (T' tol.2.1) (T' tol.2.2) H/\yq aps T' (Q .normal T' H')
 | .seq x y,T,H,Q=>wS P x T H λe T' H'=>zT e (wS P y T' H' Q) (Q e T' H')
 | .cond c x y,T,H,Q=>match c.at T with
  | .val (.bool b)=>(b=true->wS P x (tA c true T) H Q)/\(b=false->wS P y (tA c false T) H Q)
  | _=>False
 | .block id c,T,H,Q=>wS P c T H λe=>Q (qo id e)
 | .loop c,T,H,Q=>∃ I:Nat->Env->View->Prop,(∃ k,I k T H)/\∀ k T H,I k T H->wS P c T H λe T' H'=>zT e (∃ k',k' < k/\I k' T' H') (Q e T' H')
 | .exit id,T,H,Q=>Q (.exit id) T H
 | .ret,T,H,Q=>Q .ret T H
 | .scope l c r,T,H,Q=>∃ (I:Nat->Env->View->Prop) (K:Nat),wS P c T H (λe T' H'=>zG l e (∃ k,k < K/\I k T' H') (Q e T' H'))/\∀ k T H,I k T H->wS P r T H λe T' H'=>zG l e (∃ k',k' < k/\I k' T' H') (Q e T' H')
 | .label _,T,H,Q=>Q .normal T H
 | .goto l,T,H,Q=>Q (.goto l) T H
def wR (T:Env) (H:View) (r:SR) (K:V->Prop):Prop:=match r with
 | .tmp t=>K (T t)
 | .cell t sz=>match T t with
  | .ptr id i j=>match H id with
   | .arr _ es=>i < es.length/\jX sz (es.getD i []) j K
   | _=>False
  | .aJ e j=>jX sz e j K
  | _=>False
def Ci (T:Env) (H:View):List SR->List V->(List V->Prop)->Prop
 | [],acc,K=>K acc
 | r :: l,acc,K=>wR T H r λv=>Ci T H l (acc ++ [v]) K
def wu:List V->V
 | [v]=>v
 | vs=>.aY vs
def fJ (P:Program):List ResultVar->Option (List SR)
 | []=>some []
 | .tmp t :: r=>(fJ P r).map (.tmp t :: ·)
 | .cell a t :: r=>match B7 P t,fJ P r with
  | some k,some l=>some (.cell a k :: l)
  | _,_=>none
structure SF where
 code:SC
 res:List SR
 n:Nat
def af:List SC->SC
 | []=>.skip
 | [a]=>a
 | a :: b :: l=>.seq a (af (b :: l))
abbrev cy (k a b:Nat):Option Nat × SB:=(none,.op (.store k (.tmp a) (.tmp b)))
abbrev bT (a k:Nat):Option Nat × SB:=(some a,.op (.eU (.val (.emp k))))
abbrev gp (d s b x y:Nat):Option Nat × SB:=(some d,.op (.app s b (.tmp x) (.tmp y)))
abbrev aZ (a:Nat) (x:SC):SC:=.cond (.tmp a) x .skip
abbrev bO (a:Nat) (x:SC):SC:=.cond (.tmp a) .skip x
abbrev bR (a:Nat) (x:SC):SC:=.block a (.loop x)
abbrev aa (a b:Nat):Option Nat × SB:=(some a,.op (.eU (.tmp b)))
abbrev aP (a:Nat) (n:Int):Option Nat × SB:=(some a,.op (.eU (.val (.val (.int .i64 n)))))
abbrev bm (a:Nat) (n:Bool):Option Nat × SB:=(some a,.op (.eU (.val (.val (.bool n)))))
abbrev al (a b:Nat):Option Nat × SB:=(some a,.op (.load none (.tmp b)))
abbrev bb (a k b:Nat):Option Nat × SB:=(some a,.op (.load (some k) (.tmp b)))
abbrev av (a k b:Nat):Option Nat × SB:=(some a,.op (.addr k (.tmp b)))
abbrev aL (a k b c:Nat):Option Nat × SB:=(some a,.op (.idx k (.tmp b) (.tmp c)))
abbrev cx (a b c:Nat):Option Nat × SB:=(some a,.op (.pick (.tmp b) (.val (.val (.bool true))) (.tmp c)))
abbrev eV (a b c:Nat):Option Nat × SB:=(some a,.op (.pick (.tmp b) (.tmp c) (.val (.val (.bool false)))))
abbrev aS (a:Nat) (o:BinOp) (b c:Nat):Option Nat × SB:=(some a,.op (.arith o (.tmp b) (.tmp c)))
abbrev aF (a:Nat) (o:BinOp) (b:Nat) (n:Int):Option Nat × SB:=(some a,.op (.arith o (.tmp b) (.val (.val (.int .i64 n)))))
abbrev aN (a b:Nat):Option Nat × SB:=(some a,.op (.len (.tmp b)))
abbrev dJ (a k b:Nat):Option Nat × SB:=(some a,.op (.ext k (.tmp b)))
abbrev c5 (a b:Nat):Option Nat × SB:=(some a,.op (.not (.tmp b)))
abbrev cE (a b:Nat):Option Nat × SB:=(some a,.op (.jw (.tmp b)))
abbrev kW (a b:Nat):Option Nat × SB:=(some a,.op (.AU (.tmp b)))
abbrev qN (a f:Nat) (l:List SX):Option Nat × SB:=(some a,.call (.val (.fn f [] [])) l)
abbrev bf (a f:Nat) (l:List Nat):Option Nat × SB:=(some a,.call (.val (.fn f [] [])) (l.map .tmp))
abbrev ae (l:List (Option Nat × SB)):SC:=.region false [⟨none,l⟩]
def aM (P:Program) (f:FuncId) (fz:List Nat):Option SF:=match P.funcs[f]? with
 | some fn=>match fn.body with
  | some c=>match di P fn.ntmps fz c,fJ P fn.results.toList,dD P f with
   | some sc,some rs,true=>some ⟨sc,rs,fn.ntmps⟩
   | _,_,_=>none
  | none=>none
 | none=>none
theorem p7 {sz:Option Nat} {e:List V} {j:Nat} {K:V->Prop} (h:jX sz e j K):∃ v,mE sz e j=some v/\K v:=by
 cases sz with
 | none=>exact⟨_,by simp only[mE];rw[Vu h.1],h.2⟩
 | some n=>exact⟨_,by simp only[mE];rw[Vu h.1],h.2⟩
theorem TY {P:Program} {s:SI} {T:Env} {H:View} {K:V->View->Prop} (h:wI P s T H K) {n:Nat} (r:H n=.dead) :
  ∃ v eff rd,sI P s T H n=some (v,eff,rd)/\K v (eff.view H n):=by
 unfold wI at h
 split at h
 .exact⟨_,_,_,rfl,h⟩
 .split at h
  .rename_i t D;exact⟨_,_,_,by simp only[sI,D];rfl,h⟩
  .exact h.elim
 .exact⟨_,_,_,by simp only[sI,lW];rw[Vu h.1],h.2 n r⟩
 .exact⟨_,_,_,by simp only[sI];rw[Vu h.1],h.2⟩
 .exact⟨_,_,_,by simp only[sI,lW];rw[Vu h.1],h.2 n r⟩
 .split at h
  .rename_i id i j u
   split at h
   .rename_i es hH
    obtain⟨h1,f⟩:=h
    obtain⟨v,o,hk⟩:=p7 f
    exact⟨_,_,_,by simp only[sI,xc,u,hH];rw[Vu h1,o];rfl,hk⟩
   .exact h.elim
  .rename_i e j u
   obtain⟨v,o,hk⟩:=p7 h
   exact⟨_,_,_,by simp only[sI,xc,u];rw[o];rfl,hk⟩
  .exact h.elim
 .split at h
  .rename_i e j u
   obtain⟨v,o,hk⟩:=p7 h
   exact⟨_,_,_,by simp only[sI,u];rw[o];rfl,hk⟩
  .exact h.elim
 .split at h
  .rename_i id i j u
   split at h
   .rename_i esz es hH
    exact⟨_,_,_,by simp only[sI,BI,u,hH];rw[Vu h.1],h.2⟩
   .exact h.elim
  .exact h.elim
 .split at h
  .rename_i d;exact⟨_,_,_,by simp only[sI,d];rfl,h⟩
  .rename_i d;exact⟨_,_,_,by simp only[sI,d];rfl,h⟩
  .rename_i d;exact⟨_,_,_,by simp only[sI,d];rfl,h⟩
  .exact h.elim
 .split at h
  .rename_i d;exact⟨_,_,_,by simp only[sI,zD,d];rfl,h⟩
  .rename_i d;exact⟨_,_,_,by simp only[sI,zD,d];rfl,h⟩
  .exact h.elim
 .split at h
  .rename_i cs d
   obtain⟨v,o,hk⟩:=p7 h
   exact⟨_,_,_,by simp only[sI,d,o];rfl,hk⟩
  .exact h.elim
 .split at h
  .exact h.elim
  .rename_i q y
   split at h
   .rename_i d;exact⟨_,_,_,by simp only[sI,DP,y,d];rw[Vu h.1],h.2⟩
   .rename_i es d
    obtain⟨e,he,x,hk⟩:=h
    have A:q < es.length:=(VC.1 he).1
    have B:es.getD q []=e:=by simp[Vp,he]
    exact⟨_,_,_,by simp only[sI,DP,y,d];rw[B,Vu ⟨A,x⟩],hk⟩
   .exact h.elim
 .exact⟨_,_,_,rfl,h⟩
 .exact⟨_,_,_,rfl,h n r⟩
 .split at h
  .rename_i vs d;exact⟨_,_,_,by simp only[sI,d];rw[Vu h.1],h.2⟩
  .exact h.elim
 .split at h
  .rename_i m d;exact⟨_,_,_,by simp only[sI,d];rfl,h⟩
  .exact h.elim
 .split at h
  .rename_i s d;exact⟨_,_,_,by simp only[sI,d];rfl,h⟩
  .exact h.elim
 .split at h
  .rename_i k a F b d g
   obtain⟨rfl,h⟩:=h
   split at h
   .rename_i v o;exact⟨_,_,_,by simp only[sI,yi,d,g,if_true,o];rfl,h⟩
   .exact h.elim
  .exact h.elim
 .split at h
  .rename_i a b d g
   split at h
   .exact⟨_,_,_,by simp only[sI,AZ,d,g];rfl,h⟩
   .exact⟨_,_,_,by simp only[sI,AZ,d,g];rfl,h⟩
   .exact h.elim
  .exact h.elim
 .split at h
  .rename_i s q d y
   obtain⟨b,p,hk⟩:=h
   exact⟨_,_,_,by simp only[sI,B9,d,y,p];rfl,hk⟩
  .exact h.elim
 .split at h
  .rename_i t d;exact⟨_,_,_,by simp only[sI,d];rfl,h⟩
  .exact h.elim
 .split at h
  .rename_i b p;exact⟨_,_,_,by simp only[sI,p];rfl,h⟩
  .exact h.elim
 .split at h
  .rename_i d g;exact⟨_,_,_,by simp only[sI,d,g];rfl,h⟩
  .exact h.elim
 .split at h
  .rename_i d g;exact⟨_,_,_,by simp only[sI,d,g];rfl,h⟩
  .exact h.elim
 .split at h
  .rename_i d;exact⟨_,_,_,by simp only[sI,d];rfl,h⟩
  .exact h.elim
 .split at h
  .rename_i d g;exact⟨_,_,_,by simp only[sI,NF,d,g];rw[Vs (by omega)],h.2⟩
  .exact h.elim
 .split at h
  .rename_i cs p;exact⟨_,_,_,by simp only[sI,p];rfl,h⟩
  .exact h.elim
 .split at h
  .rename_i es p;exact⟨_,_,_,by simp only[sI,zi,p];rfl,h n r⟩
  .exact h.elim
 .split at h
  .rename_i v rd p;exact⟨_,_,_,by simp only[sI,p];rfl,h⟩
  .exact h.elim
 .split at h
  .rename_i l c x C
   obtain⟨h1,f,E⟩:=h
   by_cases e:c=0
   .exact⟨.emp 2,.none,[],by simp only[sI,CG,x,C];rw[Vu h1,Vu e],f e⟩
   .exact⟨_,_,_,by simp only[sI,CG,x,C];rw[Vu h1,Vs e],E e n r⟩
  .exact h.elim
 .split at h
  .rename_i xs rd w
   split at h
   .rename_i he
    split at h
    all_goals first
     | (rename_i d;exact⟨_,_,_,by simp only[sI,FV,w];rw[Vu he,d],h⟩)
     | exact h.elim
   .rename_i he
    obtain⟨h1,f⟩:=h
    split at f
    .rename_i d
     exact⟨_,_,_,by simp only[sI,FV,w];rw[Vs he,Vs (by rw[h1];simp),d];simp only;rw[Vu f.1],f.2 n r⟩
    .rename_i id off len esz d
     split at f
     .rename_i z es hH
      exact⟨_,_,_,by simp only[sI,FV,w];rw[Vs he,Vs (by rw[h1];simp),d];simp only[hH];rw[Vu f.1],f.2 n r⟩
     .exact f.elim
    .exact f.elim
  .exact h.elim
 .split at h
  .rename_i d
   split at h
   .rename_i l x;exact⟨_,_,_,by simp only[sI,d,x];rfl,h⟩
   .exact h.elim
  .exact h.elim
 .split at h
  .rename_i d;exact⟨_,_,_,by simp only[sI,d];rfl,h⟩
  .exact h.elim
 .exact h n r
def kM (k:Nat) (rd wr:List Nat) (call:Bool) (n n':Nat):Prop :=
 (k=0->rd=[]/\wr=[]/\call=false/\n'=n)/\(k<=1->wr=[])
theorem Rb {k:Nat} (h:k=2) {rd wr:List Nat} {call:Bool} {n a:Nat} : kM k rd wr call n a:=⟨λb=>by omega,λb=>by omega⟩
theorem re {P:Program} {o:Oper} {T:Env} {v:V} {eff:bq} {rd:List Nat} (h:dP P o T=some (v,eff,rd)):eff=.none/\rd=[]:=by
 unfold dP at h
 split at h
 .split at h
  .split at h
   .simp at h;exact⟨h.2.1.symm,h.2.2⟩
   .simp at h
  .simp at h
 .simp at h
theorem Q0 {P:Program} {o:Oper} {T:Env} {H:View} {n:Nat} {v:V} {eff:bq} {rd:List Nat} (h:cd P o T H n=some (v,eff,rd)) :
  (zF P o.op=0->eff=.none/\rd=[])/\(zF P o.op=1->eff.wr=[]):=by
 unfold zF
 split
 .rename_i s d x a
  simp only[cd,a] at h
  split
  .exact⟨λh=>by simp at h,λh=>by simp at h⟩
  .rename_i g
   rw[Vs g] at h
   exact⟨λ_=>re h,λh=>by simp at h⟩
 .rename_i b args j a
  simp only[cd,a] at h
  split
  any_goals exact⟨λ_=>re h,λh=>by simp at h⟩
  .refine⟨λh=>by simp at h,λ_=>?_⟩
   split at h
   .rename_i f
    split at h
    .simp only[tW] at h
     have c:∀ {v':V} {r:List Nat},some (v',bq.none,r)=some (v,eff,rd)->eff.wr=[]:=λe=>by
      simp only[Vr,Vv] at e;rw[<-e.2.1];rfl
     split at h
     .simp only[Vy] at h
      obtain⟨_,_,h⟩:=h
      exact c (W4 some h)
     .split at h
      .split at h
       .exact c h
       .simp at h
      .exact c h
      .simp at h
     .split at h
      .exact c h
      .simp at h
     .exact c h
     .simp at h
    .simp at h
   any_goals simp at h
   all_goals contradiction
  .exact⟨λh=>by simp at h,λh=>by simp at h⟩
 .rename_i t m k ok a
  refine⟨λh=>by simp at h,λ_=>?_⟩
  simp only[cd,a,fc] at h
  have c:∀ {v':V} {r:List Nat},some (v',bq.none,r)=some (v,eff,rd)->eff.wr=[]:=λe=>by
   simp only[Vr,Vv] at e;rw[<-e.2.1];rfl
  split at h
  .simp at h
  .split at h
   .simp at h
   .split at h
    .split at h
     .split at h
      .split at h
       .exact c h
       .simp at h
      .exact c h
      .simp at h
     .simp at h
    .simp at h
 .rename_i op t x y u a
  refine⟨λ_=>?_,λh=>by simp at h⟩
  simp only[cd,a] at h
  split at h
  .split at h
   .simp at h;exact⟨h.2.1.symm,h.2.2⟩
   .simp at h;exact⟨h.2.1.symm,h.2.2⟩
   .simp at h
  .exact re h
 .rename_i op t x a
  exact⟨λ_=>re (by simpa only [cd,a] using h),λh=>by simp at h⟩
 .rename_i t x i a
  exact⟨λ_=>re (by simpa only [cd,a] using h),λh=>by simp at h⟩
 .exact⟨λh=>by simp at h,λh=>by simp at h⟩
theorem si {P:Program} {s:SI} {T:Env} {H:View} {n:Nat} {v:V} {eff:bq} {rd:List Nat} (h:sI P s T H n=some (v,eff,rd)) :
  (tO P s=0->eff=.none/\rd=[])/\(tO P s=1->eff.wr=[]):=by
 have nn:∀ {v':V},some (v',bq.none,([]:List Nat))=some (v,eff,rd)->eff=.none/\rd=[]:=λe=>by
  simp only[Vr,Vv] at e;exact⟨e.2.1.symm,e.2.2.symm⟩
 have mp:∀ {α:Type} {x:Option α} {f:α->V},(x.map λa=>(f a,bq.none,([]:List Nat)))=some (v,eff,rd)->eff=.none/\rd=[]:=by
  intro α x f h
  simp only[Vy] at h
  obtain⟨a,_,h⟩:=h
  simp only[Vv] at h;exact⟨h.2.1.symm,h.2.2.symm⟩
 have nw:∀ {v':V} {o:c7} {r:List Nat},some (v',bq.new o,r)=some (v,eff,rd)->eff.wr=[]:=λe=>by
  simp only[Vr,Vv] at e;rw[<-e.2.1];rfl
 have n1:∀ {v':V} {r:List Nat},some (v',bq.none,r)=some (v,eff,rd)->eff.wr=[]:=λe=>by
  simp only[Vr,Vv] at e;rw[<-e.2.1];rfl
 unfold tO
 cases s <;> simp only[sI] at h
 case old op ty=>exact Q0 (o:=oper op ty) h
 all_goals
  constructor <;> intro hk <;> first
   | (exfalso;revert hk;simp;done)
   | skip
 all_goals try simp only[xc,lW,zD,DP,cY,CG,zi,yi,NF,AZ,B9] at h
 all_goals first
  | exact nn h
  | exact mp h
  | exact nw h
  | exact n1 h
  | skip
 all_goals repeat' (split at h)
 all_goals first
  | exact nn h
  | exact mp h
  | exact nw h
  | exact n1 h
  | (simp at h;done)
  | (simp only[Vy,Vv] at h;obtain⟨_,_,_,rfl,_⟩:=h;rfl)
end Gv
