/-
  Part 4 of the proof: what the machine does and what the functions answer.
  Conditions: those that each lemma names.
-/
import Derived.Test.YtiophifnkakjgaaGreatSGzC2C
set_option linter.unusedSimpArgs false
set_option linter.unusedVariables false
set_option maxRecDepth 100000
set_option maxHeartbeats 20000000
namespace Gv
open Go
inductive Tree:V->Prop
 | val (v:Value):Tree (.val v)
 | emp (k:Nat):Tree (.emp k)
 | dn:Tree .dn
 | aX (es:List (List V)):(∀ i j,i < es.length->j < (es.getD i []).length->Tree ((es.getD i []).getD j .any))->Tree (.aX es)
 | aC (e:List V) (j:Nat):(∀ k,k < e.length->Tree (e.getD k .any))->Tree (.aC e j)
 | fn (f:FuncId) (xs ys:List V):(∀ i,i < xs.length->Tree (xs.getD i .any))->(∀ i,i < ys.length->Tree (ys.getD i .any))->Tree (.fn f xs ys)
 | agg (cs:List V):(∀ i,i < cs.length->Tree (cs.getD i .any))->Tree (.agg cs)
 | aU (cs:List V):(∀ i,i < cs.length->Tree (cs.getD i .any))->Tree (.aU cs)
theorem rV {Z:Nat->Prop} {μ u:Mu} {hp:Array Obj} {v:V} {x:Value} (h:aq Z μ hp v x):Tree v->aq Z u hp v x:=by
 induction h with
 | any x=>intro t;exact .any x
 | val v w=>intro _;exact .val v w
 | emp k a h1 n=>intro _;exact .emp k a h1 n
 | dn a cap=>intro _;exact .dn a cap
 | fy a cap h1=>intro _;exact .fy a cap h1
 | aX es b off esz cap c o hle m p _ g =>
  intro t
  cases t with
  | aX _ l=>exact .aX es b off esz cap c o hle m p (λi j hi s=>g i j hi s (l i j hi (by rw[m i hi];exact s)))
 | nq id off esz a=>intro t;cases t
 | sl id off len esz b o0 cap c e f hm hle z A=>intro t;cases t
 | ptr id i j b o0 esz hm=>intro t;cases t
 | aC e j b off c o p _ g =>
  intro t
  cases t with
  | aC _ _ l=>exact .aC e j b off c o p (λk hk=>g k hk (l k hk))
 | mp id b o0 esz hm=>intro t;cases t
 | fn f xs ys d y h1 n _ _ q r =>
  intro t
  cases t with
  | fn _ _ _ t1 t2=>exact .fn f xs ys d y h1 n (λi hi=>q i hi (t1 i hi)) (λi hi=>r i hi (t2 i hi))
 | agg cs d h1 _ g =>
  intro t
  cases t with
  | agg _ l=>exact .agg cs d h1 (λi hi=>g i hi (l i hi))
 | aU cs d h1 _ g =>
  intro t
  cases t with
  | aU _ l=>exact .aU cs d h1 (λi hi=>g i hi (l i hi))
inductive Fr (h:aw):V->V->Prop
 | tree (v:V):Tree v->Fr h v v
 | emp (k:Nat):Fr h (.emp k) (.aX [])
 | sl (id off len esz z:Nat) (es es':List (List V)):h.view id=.arr z es->off+len<=es.length->es'.length=len ->
  (∀ i,i < len->(es'.getD i []).length=(es.getD (off+i) []).length) ->
  (∀ i j,i < len->j < (es'.getD i []).length->Fr h ((es.getD (off+i) []).getD j .any) ((es'.getD i []).getD j .any))->Fr h (.sl id off len esz) (.aX es')
 | ptr (id i j z:Nat) (es:List (List V)) (e':List V):h.view id=.arr z es->i < es.length->e'.length=(es.getD i []).length ->
  (∀ k,k < e'.length->Fr h ((es.getD i []).getD k .any) (e'.getD k .any))->Fr h (.ptr id i j) (.aC e' j)
 | agg (cs cs':List V):cs'.length=cs.length->(∀ i,i < cs.length->Fr h (cs.getD i .any) (cs'.getD i .any))->Fr h (.agg cs) (.agg cs')
 | aU (cs cs':List V):cs'.length=cs.length->(∀ i,i < cs.length->Fr h (cs.getD i .any) (cs'.getD i .any))->Fr h (.aU cs) (.aU cs')
theorem yd {h:aw} {Z:Nat->Prop} {μ u:Mu} {F:View} {hp:Array Obj} (hr:fc Z μ hp (cat h F)) {v t:V} (fr:Fr h v t):∀ {x:Value},aq Z μ hp v x->aq (λb=>Z b∨fW μ b) u hp t x:=by
 have l:∀ id,h.view id≠.dead->cat h F id=h.view id:=λid H=>by simp only[cat];rw[OM (fC H)]
 induction fr with
 | tree v I =>
  intro x d
  have h1:aq Z u hp v x:=rV d I
  exact h1.mono ⟨λ_ h=>.inl h,λ_ _=>rfl,λ_ _ h=>h,dQ.refl _⟩
 | emp k=>intro x d;cases d with | emp _ a=>exact .fy a 0 (λ_=>rfl)
 | sl id off len esz z es es' hH hle hlen J _ o =>
  intro x d
  cases d with
  | nq _ _ _ a =>
   have:es'=[]:=PS.1 hlen
   subst this
   exact .fy a 0 (λ_=>rfl)
  | sl _ _ _ _ b o0 cap c e f hm G O P =>
   have g:=hr.obj id
   rw[l id (by rw[hH];simp),hH] at g
   obtain⟨rfl,_,K,L⟩:=g b o0 esz hm
   have d:∀ i,∃ ci:Nat->Value,∀ j,j < esz->i < len->cellAt hp b (o0+off * esz+i * esz+j)=some (ci j)/\aq Z μ hp ((es.getD (off+i) []).getD j .any) (ci j):=by
    intro i
    by_cases hi:i < len
    .obtain⟨ci,A⟩:=kS (n:=esz) (p:=λj x=>cellAt hp b (o0+off * esz+i * esz+j)=some x/\aq Z μ hp ((es.getD (off+i) []).getD j .any) x) (λj m=>by
      obtain⟨x,d,B⟩:=L (off+i) j (by omega) m
      rw[Pk,<-P1] at d
      exact⟨x,d,B⟩)
     exact⟨ci,λj m _=>A j m⟩
    .exact⟨λ_=>undef,λj _ h=>absurd h hi⟩
   obtain⟨M,q⟩:=Classical.axiomOfChoice d
   have r:∀ i,i < es'.length->(es'.getD i []).length=esz:=λi hi=>by rw[J i (by omega)];exact K _ (by omega)
   have:=aq.aX (Z:=λb=>Z b∨fW μ b) (μ:=u) (hp:=hp) es' b (o0+off * esz) esz cap M (.inr ⟨id,o0,esz,hm⟩) (by omega) r
    (λi j hi m=>(q i j m (by omega)).1) (λi j hi m=>o i j (by omega) (by rw[r i hi];exact m) (q i j m (by omega)).2)
   rw[hlen] at this
   exact this
 | ptr id i j z es e' hH hi hlen _ o =>
  intro x d
  obtain⟨b,o0,sz,hm,rfl⟩:=kE (w:={ (default:World) with heap:=hp }) d
  have g:=hr.obj id
  rw[l id (by rw[hH];simp),hH] at g
  obtain⟨rfl,s⟩:=rowOf (w:={ (default:World) with heap:=hp }) g hm hi
  refine vq (w:={ (default:World) with heap:=hp }) (.inr ⟨id,o0,sz,hm⟩) (λk hk=>?_)
  obtain⟨y,N,B⟩:=s k (by omega)
  exact⟨y,N,o k hk B⟩
 | agg cs C hlen _ o =>
  intro x d
  cases d with
  | agg _ D h1 E=>exact .agg _ _ (by omega) (λi hi=>o i (by omega) (E i (by omega)))
 | aU cs C hlen _ o =>
  intro x d
  cases d with
  | aU _ D h1 E=>exact .aU _ _ (by omega) (λi hi=>o i (by omega) (E i (by omega)))
def ar (P:Program) (f:FuncId) (vs:List V) (t:V):Prop :=
 ∀ Z μ (w:World) (xs:List Value),er Z μ w.heap vs xs->(∀ b,Z b->b < w.heap.size) ->
  Calls P f xs.toArray w λe w'=>∃ x Z',e=.returned x/\(∀ ν,aq Z' ν w'.heap t x)/\c8 w w'/\(∀ b,Z b->Z' b)/\(∀ b,Z' b->Z b∨(w.heap.size<=b/\b < w'.heap.size))/\ee w.heap w'.heap (λ_=>False)
theorem y1 (F:View):cat [] F=F:=by funext id;simp[cat]
theorem ar.sd {P:Program} {f:FuncId} {vs:List V} {r t:V} {l:aw} (m:∀ v∈vs,Tree v) (n:bu P f vs [] r l) (p:Fr l r t):ar P f vs t:=by
 intro Z μ w xs c q
 have d:er Z (λ_=>none) w.heap vs xs:=⟨c.1,λi hi=>rV (c.2 i hi) (by
  simp only[OH,OI hi,OS]
  exact m _ (OW _))⟩
 have g:fc Z (λ_=>none) w.heap (cat [] λ_=>.dead):=by
  rw[y1]
  exact⟨λ_=>trivial,λi j b o s A B _ h=>by simp at h,λid b o s h=>by simp at h,q,λid b o s h=>by simp at h⟩
 refine(n.2 Z _ _ w xs d g (λ_ _ _=>rfl)).mono ?_
 rintro e w' ⟨x,u,μ',rfl,y,k,hex,_⟩
 refine⟨x,λb=>u b∨fW μ' b,rfl,λC=>yd k p y,hex.same,λb a=>.inl (hex.mono.z b a),?_,λb a _=>hex.frame b a (by rintro⟨_,_,_,h⟩;simp at h)⟩
 rintro b (a | ⟨id,o,s,a⟩)
 .rcases hex.Kg b a with h1 | h1
  .exact .inl h1
  .exact .inr ⟨h1,k.bE b a⟩
 .rcases hex.yw _ _ _ _ a with h1 | ⟨_,h1 | ⟨_,_,_,h1⟩⟩
  .simp at h1
  .exact .inr ⟨h1,k.lt _ _ _ _ a⟩
  .simp at h1
theorem bu.j7 {P:Program} {f:FuncId} {vs:List V} {t:V} (n:ar P f vs t) (h:aw):bu P f vs h t h:=by
 refine⟨OR _,λZ μ F w xs g hr j=>(n Z μ w xs g hr.bE).mono ?_⟩
 rintro e w' ⟨x,m,rfl,p,k,q,a,i⟩
 have hm:eL Z m μ μ w.heap w'.heap:=⟨q,λb c=>i b (hr.bE b c) (λx=>x),λ_ _ h=>h,i.mP⟩
 refine⟨x,m,μ,rfl,p μ,⟨λid=>(hr.obj id).mono hm rfl (λb o s d=>i b (hr.lt _ _ _ _ d) (λx=>x)),hr.inj,λid b o s d=>O0 (hr.lt _ _ _ _ d) k.size,λb c=>?_,λid b o s d l=>?_⟩,
  ⟨k,hm,λb c _=>i b c (λx=>x),λb c=>?_,λ_ _ _ _ h=>.inl h⟩,λ_ _=>rfl⟩
 .rcases a b c with h1 | h1
  .exact O0 (hr.bE b h1) k.size
  .exact h1.2
 .rcases a b l with h1 | h1
  .exact hr.eU _ _ _ _ d h1
  .have:=hr.lt _ _ _ _ d;omega
 .rcases a b c with h1 | h1
  .exact .inl h1
  .exact .inr h1.1
def yS (l:List Nat) (x:Nat):Bool:=!l.contains x
def zj (a b:Rec):Bool :=
 a.wr.all (yS b.rd) && b.wr.all (yS a.rd) && (!a.call || b.wr.isEmpty) && (!b.call || a.wr.isEmpty) && b.wr.all λid=>!(decide (a.lo<=id) && decide (id < a.hi))
section
variable {P:Program} {n:Nat}
theorem HP {a b:Rec} (h:zj a b=true):lq a b:=by
 unfold zj at h
 simp only[OO,O7,yS,Qz,Qi] at h
 obtain⟨⟨⟨⟨h1,g⟩,e⟩,f⟩,i⟩:=h
 refine⟨λid d hm=>?_,λid d hm=>?_,λc=>?_,λc=>?_,λid d hm=>?_⟩
 .have:=h1 id d;simp at this;exact this hm
 .have:=g id d;simp at this;exact this hm
 .rcases e with e | e
  .rw[c] at e;simp at e
  .simpa using e
 .rcases f with f | f
  .rw[c] at f;simp at f
  .simpa using f
 .have:=i id d
  simp at this
  omega
end
inductive SX where
 | tmp (t:Nat)
 | val (v:V)
 deriving Inhabited
def SX.of:Operand->SX
 | .tmp t=>.tmp t
 | .const v=>.val (dJ v)
 | .global _=>.val .any
 | .func f=>.val (.fn f [] [])
def SX.at (T:Env):SX->V
 | .tmp t=>T t
 | .val v=>v
theorem SX.bB (T:Env) (x:Operand):(SX.of x).at T=ev T x:=by cases x <;> rfl
inductive SI where
 | cF (x:SX)
 | pick (c a b:SX)
 | box (x:SX)
 | gg (x:SX)
 | alloc (z:List V)
 | build (z:List V) (parts:List (Nat × Nat × SX))
 | bM (len sz:Nat) (z:List V) (parts:List (Nat × SX))
 | load (sz:Option Nat) (a:SX)
 | vh (sz:Option Nat) (a:SX)
 | store (sz:Nat) (a x:SX)
 | wC (x:SX)
 | addr (off:Nat) (x:SX)
 | field (off:Nat) (sz:Option Nat) (x:SX)
 | idx (sz:Nat) (x i:SX)
 | slice (sz:Nat) (x:SX) (lo hi:Option SX)
 | make (sz bytes:Nat) (z:List V) (l c:SX)
 | sA
 | sH (f:FuncId) (first cap:List SX)
 | ext (i:Nat) (x:SX)
 | len (x:SX)
 | mf (x:SX)
 | app (sz bytes:Nat) (x y:SX)
 | arith (op:BinOp) (x y:SX)
 | sh (left:Bool) (x y:SX)
 | tN (op:BinOp) (x y:SX)
 | ff (x i:SX)
 | not (x:SX)
 | nil (eq:Bool) (k:Nat) (x y:SX)
 | beq (eq:Bool) (x y:SX)
 | mm (mx:Bool) (x y:SX)
 | conv (k:IntKind) (x:SX)
 | zi (x:SX)
 | ej (x:SX)
 | old (op:Op) (ty:TypeId)
 deriving Inhabited
def jO:Option Nat->List V->Nat->Option V
 | some n,cs,off=>if off+n<=cs.length then some (.agg ((cs.drop off).take n)) else none
 | none,cs,off=>if off < cs.length then some (cs.getD off .any) else none
def sm (sz:Option Nat) (a:V) (H:View):Out:=match a with
 | .ptr id i j=>match H id with
  | .arr _ es=>if i < es.length then (jO sz (es.getD i []) j).map λv=>(v,.none,[id]) else none
  | _=>none
 | .aC e j=>(jO sz e j).map λv=>(v,.none,[])
 | _=>none
def yy (sz:Nat) (a v:V) (H:View):Out:=match a with
 | .ptr id i j=>match H id with
  | .arr esz es =>
   if i < es.length/\v.cells.length=sz/\j+v.cells.length<=esz/\v.cells.all aD=true
   then some (.any,.dP id (.arr esz (es.set i (dE (es.getD i []) j v.cells))),[id]) else none
  | _=>none
 | _=>none
def jn (z:List V) (parts:List (Nat × Nat × V)):Option (List V):=match parts with
 | []=>some z
 | (off,size,x) :: r=>if x.cells.length=size/\off+size<=z.length/\x.cells.all aD=true then jn (dE z off x.cells) r else none
def vr (len sz:Nat) (z:List V) (parts:List (Nat × V)) (n:Nat):Out :=
 match iR sz (List.replicate len z) parts with
 | some es=>some (.sl n 0 len sz,.new (.arr sz es),[])
 | none=>none
def vd (off:Nat) (x:V):Out:=match x with
 | .ptr id i j=>some (.ptr id i (j+off),.none,[])
 | .aC e j=>some (.aC e (j+off),.none,[])
 | _=>none
def y6 (sz:Nat) (x i:V):Out:=match asNat i with
 | none=>none
 | some q=>match x with
  | .sl id off len esz=>if q < len/\esz=sz then some (.ptr id (off+q) 0,.none,[]) else none
  | .aX es=>if q < es.length/\(es.getD q []).length=sz then some (.aC (es.getD q []) 0,.none,[]) else none
  | _=>none
def np (sz:Nat) (x:V) (lo hi:Option V):Out:=match x with
 | .sl id off len esz=>match bound 0 lo,bound len hi with
  | some l,some h=>if l<=h/\h<=len/\esz=sz then some (.sl id (off+l) (h - l) esz,.none,[]) else none
  | _,_=>none
 | .aX es=>match bound 0 lo,bound es.length hi with
  | some l,some h=>if l<=h/\h<=es.length/\(es.all λe=>e.length == sz)=true then some (.aX ((es.drop l).take (h - l)),.none,[]) else none
  | _,_=>none
 | .emp k=>match bound 0 lo,bound 0 hi with
  | some 0,some 0=>some (.emp k,.none,[])
  | _,_=>none
 | _=>none
def xJ (sz bytes:Nat) (z:List V) (len cap:V) (n:Nat):Out:=match asNat len,asNat cap with
 | some l,some c =>
  if l<=c/\c < aB/\bytes * c < aB then
   (if c=0 then some (.emp 2,.none,[]) else some (.sl n 0 l sz,.new (.arr sz (List.replicate l z)),[]))
  else none
 | _,_=>none
def BN (sz bytes:Nat) (s x:V) (H:View) (n:Nat):Out:=match bD H x with
 | some (xs,rd) =>
  if xs.isEmpty then (match s with
   | .emp _ | .dn | .aX _ | .sl _ _ _ _=>some (s,.none,[])
   | _=>none)
  else if ¬ ((xs.all λe=>e.length == sz && e.all aD)=true) then none
  else match s with
   | .emp _=>if xs.length * bytes < aB/\xs.length < aB then some (.sl n 0 xs.length sz,.new (.arr sz xs),rd) else none
   | .sl id off len esz=>match H id with
    | .arr _ es =>
     if off+len<=es.length/\esz=sz/\(len+xs.length) * bytes < aB/\len+xs.length < aB
     then some (.sl n 0 (len+xs.length) esz,.cF id (.arr esz ((es.drop off).take len ++ xs)),id :: rd) else none
    | _=>none
   | _=>none
 | none=>none
def eV (op:BinOp) (k:IntKind) (a b:Int):Option Value:=match op with
 | .add=>some (.int k (k.wrap (a+b)))
 | .sub=>some (.int k (k.wrap (a - b)))
 | .mul=>some (.int k (k.wrap (a * b)))
 | .quo=>if b=0 then none else some (.int k (k.wrap (a.tdiv b)))
 | .rem=>if b=0 then none else some (.int k (a.tmod b))
 | .eql=>some (.bool (a == b))
 | .neq=>some (.bool (a != b))
 | .lss=>some (.bool (a < b))
 | .leq=>some (.bool (a<=b))
 | .gtr=>some (.bool (a > b))
 | .geq=>some (.bool (a≥b))
 | .or=>some (.int k (k.wrap (BitVec.ofInt k.bits a ||| BitVec.ofInt k.bits b).toNat))
 | .and=>some (.int k (k.wrap (BitVec.ofInt k.bits a &&& BitVec.ofInt k.bits b).toNat))
 | .xor=>some (.int k (k.wrap (BitVec.ofInt k.bits a ^^^ BitVec.ofInt k.bits b).toNat))
 | .andNot=>some (.int k (k.wrap (BitVec.ofInt k.bits a &&& ~~~(BitVec.ofInt k.bits b)).toNat))
 | _=>none
def tV (op:BinOp) (x y:V):Out:=match x,y with
 | .val (.int k a),.val (.int k' b)=>if k=k' then (eV op k a b).map λv=>(.val v,.none,[]) else none
 | _,_=>none
def Fv (left:Bool) (k:IntKind) (a b:Int):Int:=if left then k.wrap (a * 2 ^ (min b.toNat k.bits)) else a.fdiv (2 ^ (min b.toNat k.bits))
def IB (left:Bool) (x y:V):Out:=match x,y with
 | .val (.int k a),.val (.int _ b)=>if b < 0 then none else some (.val (.int k (Fv left k a b)),.none,[])
 | _,_=>none
def Kf:BinOp->Option Bool
 | .shl=>some true
 | .shr=>some false
 | _=>none
def gD (a b:ByteArray):Bool:=a.data.toList == b.data.toList
def wE (op:BinOp) (x y:V):Out:=match x,y with
 | .val (.string a),.val (.string b)=>match op with
  | .eql=>some (.val (.bool (gD a b)),.none,[])
  | .neq=>some (.val (.bool (!gD a b)),.none,[])
  | _=>none
 | _,_=>none
def yn (x i:V):Out:=match x,asNat i with
 | .val (.string s),some q=>match s.data.toList[q]? with
  | some b=>some (.val (.int .u8 b.toNat),.none,[])
  | none=>none
 | _,_=>none
def wc:Option Bool->Option Bool->Option Bool
 | some true,some b=>some b
 | some b,some true=>some b
 | _,_=>none
theorem Fb {P:Program} {t:TypeId} {k:Nat} (h:gn P t=some k) (x y:V):yK P t x y=wc (dq k x) (dq k y):=by
 simp only[yK,h]
 unfold wc
 split <;> simp_all
def oper (op:Op) (ty:TypeId):Oper:=⟨none,op,ty,"",#[],none⟩
theorem Kn (P:Program) (o:Oper) (T:Env) (H:View) (n:Nat):bo P (oper o.op o.type) T H n=bo P o T H n:=by
 cases o;rfl
def sI (P:Program) (s:SI) (T:Env) (H:View) (n:Nat):Out:=match s with
 | .cF x=>some (x.at T,.none,[])
 | .pick c a b=>match c.at T with
  | .val (.bool t)=>some (if t then a.at T else b.at T,.none,[])
  | _=>none
 | .box x=>iY (x.at T).cells n
 | .gg x=>if (x.at T).cells.all aD=true then some (.aC (x.at T).cells 0,.none,[]) else none
 | .alloc z=>iY z n
 | .build z parts=>(jn z (parts.map λ(a,b,x)=>(a,b,x.at T))).map λcs=>(.agg cs,.none,[])
 | .bM len sz z parts=>vr len sz z (parts.map λ(i,x)=>(i,x.at T)) n
 | .load sz a=>sm sz (a.at T) H
 | .vh sz a=>match a.at T with
  | .aC e j=>(jO sz e j).map λv=>(v,.none,[])
  | _=>none
 | .store sz a x=>yy sz (a.at T) (x.at T) H
 | .wC x=>match x.at T with
  | .ptr id i j=>some (.ptr id i j,.none,[])
  | .aC e j=>some (.aC e j,.none,[])
  | .fn f a b=>some (.fn f a b,.none,[])
  | _=>none
 | .addr off x=>vd off (x.at T)
 | .field off sz x=>match x.at T with
  | .agg cs=>(jO sz cs off).map λv=>(v,.none,[])
  | _=>none
 | .idx sz x i=>y6 sz (x.at T) (i.at T)
 | .slice sz x lo hi=>np sz (x.at T) (lo.map (SX.at T)) (hi.map (SX.at T))
 | .make sz bytes z l c=>xJ sz bytes z (l.at T) (c.at T) n
 | .sA=>some (.mp n,.new (.map [] 0),[])
 | .sH f first cap=>some (.fn f (first.map (SX.at T)) (cap.map (SX.at T)),.none,[])
 | .ext i x=>match x.at T with
  | .aU vs=>if i < vs.length then some (vs.getD i .any,.none,[]) else none
  | _=>none
 | .len x=>(dh (x.at T)).map λn=>(bz n,.none,[])
 | .mf x=>match x.at T with
  | .val (.string s)=>some (bz s.size,.none,[])
  | _=>none
 | .app sz bytes x y=>BN sz bytes (x.at T) (y.at T) H n
 | .arith op x y=>tV op (x.at T) (y.at T)
 | .sh l x y=>IB l (x.at T) (y.at T)
 | .tN op x y=>wE op (x.at T) (y.at T)
 | .ff x i=>yn (x.at T) (i.at T)
 | .not x=>match x.at T with
  | .val (.bool t)=>some (.val (.bool (!t)),.none,[])
  | _=>none
 | .nil eq k x y=>match wc (dq k (x.at T)) (dq k (y.at T)) with
  | some b=>some (.val (.bool (if eq then b else !b)),.none,[])
  | none=>none
 | .beq eq x y=>match x.at T,y.at T with
  | .val (.bool a),.val (.bool b)=>some (.val (.bool (if eq then a == b else a != b)),.none,[])
  | _,_=>none
 | .mm mx x y=>match x.at T,y.at T with
  | .val (.int k a),.val (.int _ b)=>some (.val (.int k (if mx then (if b > a then b else a) else (if b < a then b else a))),.none,[])
  | _,_=>none
 | .conv k x=>match x.at T with
  | .val (.int _ a)=>some (.val (.int k (k.wrap a)),.none,[])
  | _=>none
 | .zi x=>match x.at T with
  | .aX es=>(nj es).map λl=>(.val (.string ⟨l.toArray⟩),.none,[])
  | _=>none
 | .ej x=>match x.at T with
  | .val (.string s)=>some (.aX (eC s),.none,[])
  | _=>none
 | .old op ty=>bo P (oper op ty) T H n
def xM (P:Program) (t:TypeId):Option (Option Nat):=match P.info? t,oX P t with
 | some i,some true=>some (some i.size)
 | some _,some false=>some none
 | _,_=>none
theorem sZ {P:Program} {t:TypeId} {k:Option Nat} (h:xM P t=some k) (cs:List V) (j:Nat):mG P t cs j=jO k cs j:=by
 unfold xM at h
 split at h
 .rename_i i h1 a
  simp at h;subst h;simp[mG,h1,a,jO]
 .rename_i i h1 a
  simp at h;subst h;simp[mG,h1,a,jO]
 .simp at h
def sk (P:Program) (t:TypeId):Option (Nat × Nat × List V):=match bG P t with
 | some e=>match P.info? e,zeroCells P e with
  | some ti,some z=>if z.length=ti.size/\z.all aD=true/\ti.size≠0 then some (ti.size,ti.bytes,z) else none
  | _,_=>none
 | none=>none
theorem pI {P:Program} {t:TypeId} {sz a:Nat} {z:List V} (h:sk P t=some (sz,a,z)) :
  ∃ e ti,bG P t=some e/\P.underlying t=some (.slice e)/\P.info? e=some ti/\zeroCells P e=some z/\z.length=ti.size/\z.all aD=true/\ti.size≠0/\sz=ti.size/\a=ti.bytes:=by
 unfold sk at h
 split at h
 .rename_i e he
  split at h
  .rename_i ti f h1 c
   split at h
   .rename_i b
    simp at h
    obtain⟨rfl,rfl,rfl⟩:=h
    have hu:P.underlying t=some (.slice e):=by
     unfold bG at he;split at he
     .rename_i d;simp at he;subst he;exact d
     .simp at he
    exact⟨e,ti,he,hu,h1,c,b.1,b.2.1,b.2.2,rfl,rfl⟩
   .simp at h
  .simp at h
 .simp at h
def rB (P:Program) (t:TypeId):List (Nat × Operand)->Option (List (Nat × Nat × SX))
 | []=>some []
 | (i,x) :: r=>match placeOf P t i,rB P t r with
  | some (a,b),some l=>some ((a,b,SX.of x) :: l)
  | _,_=>none
def comp (P:Program) (o:Oper):SI:=match o.op with
 | .move x | .assign x=>.cF (SX.of x)
 | .pick c a b=>.pick (SX.of c) (SX.of a) (SX.of b)
 | .alloc e=>match zeroCells P e with
  | some z=>.alloc z
  | none=>.old o.op o.type
 | .box _ x=>.box (SX.of x)
 | .load t a=>match xM P t with
  | some k=>.load k (SX.of a)
  | none=>.old o.op o.type
 | .store t a v=>match P.info? t with
  | some _=>.store (P.cellsOf t) (SX.of a) (SX.of v)
  | none=>.old o.op o.type
 | .nilCheck x=>.wC (SX.of x)
 | .fieldAddr t x f=>match l0 P t f with
  | some (off,s,_)=>if s=0 then .old o.op o.type else .addr off (SX.of x)
  | none=>.old o.op o.type
 | .field t x f=>match l0 P t f with
  | some (off,_,ft)=>match xM P ft with
   | some k=>.field off k (SX.of x)
   | none=>.old o.op o.type
  | none=>.old o.op o.type
 | .indexAddr t x i=>match sk P t with
  | some (sz,_,_)=>.idx sz (SX.of x) (SX.of i)
  | none=>.old o.op o.type
 | .slice t x lo hi none=>match sk P t with
  | some (sz,_,_)=>.slice sz (SX.of x) (lo.map SX.of) (hi.map SX.of)
  | none=>.old o.op o.type
 | .makeSlice t l c=>match sk P t with
  | some (sz,b,z)=>.make sz b z (SX.of l) (SX.of c)
  | none=>.old o.op o.type
 | .makeMap _ none=>.sA
 | .makeFunc (.func f) first cap=>.sH f (first.toList.map SX.of) (cap.toList.map SX.of)
 | .extract t i=>.ext i (SX.of t)
 | .build t parts=>match P.underlying t,zeroV P t with
  | some (.struct _),some (.agg z)=>if jh P t=true then
    (match rB P t parts.toList with
    | some ps=>.build z ps
    | none=>.old o.op o.type) else .old o.op o.type
  | _,_=>.old o.op o.type
 | .buildSlice t len parts=>match sk P t with
  | some (sz,_,z)=>if len=0/\parts.toList.isEmpty=true then .cF (.val (.emp 2)) else if len * sz<=2 ^ 24/\len≠0 then .bM len sz z (parts.toList.map λ(i,x)=>(i,SX.of x)) else .old o.op o.type
  | none=>.old o.op o.type
 | .call { callee:=.builtin b,args,argTypes }=>match b,args.toList with
  | .len,[x]=>if 1<=argTypes.size then (match P.underlying (argTypes.getD 0 0) with
   | some (.slice _)=>.len (SX.of x)
   | some .string=>.mf (SX.of x)
   | _=>.old o.op o.type) else .old o.op o.type
  | .append,[s,x]=>if 2<=argTypes.size/\mH P (argTypes.getD 1 0)=true then (match sk P (argTypes.getD 0 0) with
   | some (sz,b,_)=>.app sz b (SX.of s) (SX.of x)
   | none=>.old o.op o.type) else .old o.op o.type
  | .min,[x,y]=>.mm false (SX.of x) (SX.of y)
  | .max,[x,y]=>.mm true (SX.of x) (SX.of y)
  | _,_=>.old o.op o.type
 | .convert s d x=>match P.underlying s,P.underlying d with
  | some (.int _),some (.int k)=>.conv k (SX.of x)
  | _,_=>.old o.op o.type
 | .binOp op t x y _=>match gn P t with
  | some k=>match op with
   | .eql=>.nil true k (SX.of x) (SX.of y)
   | .neq=>.nil false k (SX.of x) (SX.of y)
   | _=>.old o.op o.type
  | none=>match P.underlying t with
   | some (.int _)=>match Kf op with
    | some l=>.sh l (SX.of x) (SX.of y)
    | none=>.arith op (SX.of x) (SX.of y)
   | some .string=>.tN op (SX.of x) (SX.of y)
   | some .bool=>match op with
    | .eql=>.beq true (SX.of x) (SX.of y)
    | .neq=>.beq false (SX.of x) (SX.of y)
    | _=>.old o.op o.type
   | _=>.old o.op o.type
 | .unOp .not _ x=>.not (SX.of x)
 | .index t x i=>match P.underlying t with
  | some .string=>.ff (SX.of x) (SX.of i)
  | _=>.old o.op o.type
 | _=>.old o.op o.type
theorem zI {P:Program} {t:TypeId} {T:Env} : ∀ (parts:List (Nat × Operand)) (c:List (Nat × Nat × SX)) (z:List V),rB P t parts=some c ->
  sK (placeOf P t) z (parts.map λ(i,x)=>(i,ev T x))=jn z (c.map λ(a,b,x)=>(a,b,x.at T))
 | [],c,z,h=>by simp[rB] at h;subst h;rfl
 | (i,x) :: r,c,z,h=>by
  simp only[rB] at h
  split at h
  .rename_i a b l h1 d
   simp at h;subst h
   simp only[Pa,sK,h1,jn,SX.bB]
   split
   .exact zI r l _ d
   .rfl
  .simp at h
theorem Dy {P:Program} {o:Oper} {T:Env} {op:BinOp} {t u:TypeId} {x y:Operand} {k:IntKind} {a b:Int} {r:Value} (c:o.op=.binOp op t x y u) (d:ev T x=.val (.int k a)) (e:ev T y=.val (.int k b)) (h:eV op k a b=some r) :
  cw P o T=some (.val r,.none,[]):=by
 unfold cw
 simp only[c,Op.operands]
 simp only[d,e,bO]
 cases op <;> simp only[eV,OJ,reduceCtorEq] at h
 all_goals first
  | (
   split at h
   .simp at h
   .rename_i f
    simp at h;subst h
    simp[execOp,c,d,e,bO,eqGuard,binOp,Op.intDiv,f,plain]
    try rfl)
  | (subst h;simp[execOp,c,d,e,bO,eqGuard,binOp,Op.intArith,Op.intCmp,Op.intBits,plain];try rfl)
theorem Jz {P:Program} {o:Oper} {T:Env} {op:BinOp} {t u:TypeId} {x y:Operand} {l:Bool} {v:V} {au:aM} {rd:List Nat} (c:o.op=.binOp op t x y u) (d:Kf op=some l) (h:IB l (ev T x) (ev T y)=some (v,au,rd)) :
  cw P o T=some (v,au,rd):=by
 unfold IB at h
 split at h
 .rename_i k a i b e f
  split at h
  .simp at h
  .rename_i g
   simp only[OJ,OL] at h
   obtain⟨rfl,rfl,rfl⟩:=h
   unfold cw
   simp only[c,Op.operands]
   simp only[e,f,bO]
   cases op <;> simp only[Kf,OJ,reduceCtorEq] at d
   all_goals
    subst d
    simp[execOp,c,e,f,bO,eqGuard,binOp,Op.shift,g,plain,Fv]
    try rfl
 .simp at h
theorem GL {P:Program} {o:Oper} {T:Env} {op:BinOp} {t u:TypeId} {x y:Operand} {v:V} {au:aM} {rd:List Nat} (c:o.op=.binOp op t x y u) (h:wE op (ev T x) (ev T y)=some (v,au,rd)) :
  cw P o T=some (v,au,rd):=by
 unfold wE at h
 split at h
 .rename_i a b d e
  unfold cw
  simp only[c,Op.operands,d,e,bO]
  have he:(a.toList == b.toList)=gD a b:=by simp[gD,ByteArray.toList_eq]
  split at h
  .simp at h;obtain⟨rfl,rfl,rfl⟩:=h
   simp[execOp,c,d,e,bO,eqGuard,binOp,Op.stringOp,plain,<-he];rfl
  .simp at h;obtain⟨rfl,rfl,rfl⟩:=h
   simp[execOp,c,d,e,bO,eqGuard,binOp,Op.stringOp,plain,<-he];rfl
  .simp at h
 .simp at h
theorem Gm {P:Program} {o:Oper} {T:Env} {t:TypeId} {x i:Operand} {v:V} {au:aM} {rd:List Nat} (e:o.op=.index t x i) (hu:P.underlying t=some .string) (h:yn (ev T x) (ev T i)=some (v,au,rd)) :
  cw P o T=some (v,au,rd):=by
 unfold yn at h
 split at h
 .rename_i s q f a
  split at h
  .rename_i b m
   simp at h;obtain⟨rfl,rfl,rfl⟩:=h
   unfold asNat at a
   split at a
   .rename_i k z g
    split at a
    .rename_i j
     simp at a;subst a
     have l:s[z.toNat]?=some b:=by
      obtain⟨c,rfl⟩:=OV.1 m
      have d:z.toNat < s.size:=by rw[bsize] at c;exact c
      rw[getElem?_pos s z.toNat d]
      rfl
     unfold cw
     simp only[e,Op.operands,f,g,bO]
     simp[execOp,e,f,g,bO,Instr.index,asIntOf,underlying,program,hu,j,l,plain]
     simp[aT,hu,j,l,plain,bind,Sem.bind,pure]
     rfl
    .simp at a
   .simp at a
  .simp at h
 .simp at h
theorem HJ {P:Program} {o:Oper} {T:Env} {t:TypeId} {x:Operand} {b:Bool} (a:o.op=.unOp .not t x) (c:ev T x=.val (.bool b)) :
  cw P o T=some (.val (.bool (!b)),.none,[]):=by
 unfold cw
 simp only[a,Op.operands,c,bO]
 simp[execOp,a,c,bO,Op.unary,plain]
 rfl
theorem fP {α β:Type} (P:Program) (s:Sem α) (f:α->β):aT P (Functor.map f s)=(aT P s).map f:=by
 show aT P (s >>= λa=>pure (f a))=_
 rw[aI]
 cases aT P s <;> rfl
theorem cI {P:Program} {t:TypeId} {d:TypeDesc} (h:P.underlying t=some d):aT P (underlying t)=some d:=by
 simp only[underlying,program,aI]
 simp[aT,h]
 rfl
theorem tu {P:Program} {t:TypeId} {a b:Bool} (hu:P.underlying t=some .bool):aT P (Op.equal t (.bool a) (.bool b))=some (a == b):=by
 rw[iL]
 generalize 9999=d
 simp only[Op.equalIn,aI,cI hu,Pj]
 rfl
theorem zC {P:Program} {o:Oper} {T:Env} {op:BinOp} {t u:TypeId} {x y:Operand} {a b:Bool} {r:Bool} (c:o.op=.binOp op t x y u) (hu:P.underlying t=some .bool) (d:ev T x=.val (.bool a)) (e:ev T y=.val (.bool b))
  (hr:(op=.eql/\r=(a == b))∨(op=.neq/\r=(a != b))) :
  cw P o T=some (.val (.bool r),.none,[]):=by
 unfold cw
 simp only[c,Op.operands,d,e,bO]
 rcases hr with ⟨rfl,rfl⟩ | ⟨rfl,rfl⟩
 .simp[execOp,c,d,e,bO,eqGuard,binOp,fP,aI,tu hu,plain]
  try simp[aT,pure,plain]
 .simp[execOp,c,d,e,bO,eqGuard,binOp,fP,aI,tu hu,plain]
  try simp[aT,pure,plain,bne]
theorem FZ {P:Program} {o:Oper} {T:Env} {s d:TypeId} {x:Operand} {f k b:IntKind} {a:Int} (c:o.op=.convert s d x) (g:P.underlying s=some (.int f)) (h:P.underlying d=some (.int k)) (e:ev T x=.val (.int b a)) :
  cw P o T=some (.val (.int k (k.wrap a)),.none,[]):=by
 unfold cw
 simp only[c,Op.operands,e,bO]
 have:aT P (convert s d (.int b a))=some (.int k (k.wrap a)):=by
  simp only[convert,aI,cI g,cI h,Pj]
  rfl
 simp[execOp,c,e,bO,fP,this,plain]
theorem BO {P:Program} {o:Oper} {T:Env} {bi:Builtin} {x y:Operand} {k d:IntKind} {a b:Int} {args:Array Operand} {c:Array TypeId} {r:Int} (e:o.op=.call { callee:=.builtin bi,args:=args,argTypes:=c }) (h:args.toList=[x,y])
  (f:ev T x=.val (.int k a)) (g:ev T y=.val (.int d b)) (hr:(bi=.max/\r=if b > a then b else a)∨(bi=.min/\r=if b < a then b else a)) :
  cw P o T=some (.val (.int k r),.none,[]):=by
 obtain rfl:args = #[x,y]:=by rw[<-Array.toArray_toList (xs:=args),h]
 unfold cw
 rcases hr with ⟨rfl,rfl⟩ | ⟨rfl,rfl⟩
 .have:aT P (Builtin.max_ c o.type #[.int k a,.int d b])=some (.int k (if b > a then b else a)):=rfl
  simp[e,Op.operands,Call.operands,f,g,bO,execOp,resolve,invoke,builtin,fP,this,plain]
 .have:aT P (Builtin.min_ c o.type #[.int k a,.int d b])=some (.int k (if b < a then b else a)):=rfl
  simp[e,Op.operands,Call.operands,f,g,bO,execOp,resolve,invoke,builtin,fP,this,plain]
theorem xC (l:List Operand) (T:Env):(l.map SX.of).map (SX.at T)=l.map (ev T):=by
 rw[List.map_map];congr 1;funext x;exact SX.bB T x
theorem L3 (l:Option Operand) (T:Env):(l.map SX.of).map (SX.at T)=l.map (ev T):=by
 cases l <;> simp[SX.bB]
theorem Md (l:List (Nat × Operand)) (T:Env):(l.map λ(i,x)=>(i,SX.of x)).map (λ(i,x)=>(i,SX.at T x))=l.map λ(i,x)=>(i,ev T x):=by
 rw[List.map_map];congr 1;funext x;simp[SX.bB]
theorem Ee {P:Program} {o:Oper} {T:Env} {H:View} {n:Nat} {v:V} {au:aM} {rd:List Nat} (h:sI P (comp P o) T H n=some (v,au,rd)) :
  bo P o T H n=some (v,au,rd):=by
 have old:∀ {s:SI},s=.old o.op o.type->sI P s T H n=some (v,au,rd)->bo P o T H n=some (v,au,rd):=λe h=>by rw[e] at h;simp only[sI,Kn] at h;exact h
 unfold comp at h
 split at h
 .rename_i x g;simp only[sI,SX.bB] at h;simp only[bo,g];exact h
 .rename_i x g;simp only[sI,SX.bB] at h;simp only[bo,g];exact h
 .rename_i c a b g;simp only[sI,SX.bB] at h;simp only[bo,g];exact h
 .rename_i e g
  split at h
  .rename_i z R;simp only[sI] at h;simp only[bo,g,R];exact h
  .exact old rfl h
 .rename_i t x g;simp only[sI,SX.bB] at h;simp only[bo,g];exact h
 .rename_i t a g
  split at h
  .rename_i k hk
   simp only[sI,SX.bB,sm] at h
   simp only[bo,g,jM,sZ hk]
   exact h
  .exact old rfl h
 .rename_i t a x g
  split at h
  .rename_i ti S
   simp only[sI,SX.bB,yy] at h
   simp only[bo,g,nz,S,Option.isSome_some,and_true]
   exact h
  .exact old rfl h
 .rename_i x g;simp only[sI,SX.bB] at h;simp only[bo,g];exact h
 .rename_i t x f g
  split at h
  .rename_i off s ft I
   split at h
   .exact old rfl h
   .rename_i N
    simp only[sI,SX.bB,vd] at h
    simp only[bo,g,iH,I,N,if_false]
    exact h
  .exact old rfl h
 .rename_i t x f g
  split at h
  .rename_i off s ft I
   split at h
   .rename_i k hk
    simp only[sI,SX.bB] at h
    simp only[bo,g,rA,I]
    split at h
    .rename_i cs U;simp only[U,sZ hk];exact h
    .simp at h
   .exact old rfl h
  .exact old rfl h
 .rename_i t x i g
  split at h
  .rename_i sz b z hk
   obtain⟨e,ti,h1,J,w,D,K,O,L,rfl,rfl⟩:=pI hk
   simp only[sI,SX.bB,y6] at h
   simp only[bo,g,iP,J,w]
   exact h
  .exact old rfl h
 .rename_i t x lo hi g
  split at h
  .rename_i sz b z hk
   obtain⟨e,ti,h1,J,w,D,K,O,L,rfl,rfl⟩:=pI hk
   simp only[sI,SX.bB,L3] at h
   simp only[bo,g]
   have q:pf P t (ev T x) (lo.map (ev T)) (hi.map (ev T)) none=some (v,au,rd):=by
    simp only[pf,h1,w]
    unfold np at h
    split at h
    .rename_i p;rw[p];exact h
    .rename_i p;rw[p];exact h
    .rename_i p;rw[p];exact h
    .simp at h
   unfold np at h
   split at h
   .rename_i p;rw[p] at q ⊢;exact q
   .rename_i p;rw[p] at q ⊢;exact q
   .rename_i p;rw[p] at q ⊢;exact q
   .simp at h
  .exact old rfl h
 .rename_i t l c g
  split at h
  .rename_i sz b z hk
   obtain⟨e,ti,h1,J,w,D,K,O,L,rfl,rfl⟩:=pI hk
   simp only[sI,SX.bB,xJ] at h
   simp only[bo,g,iE,h1,w]
   split at h
   .rename_i l' c' hl G
    simp only[hl,G,L,if_false,D,K,O,and_self,if_true]
    exact h
   .simp at h
  .exact old rfl h
 .rename_i t g;simp only[sI] at h;simp only[bo,g];exact h
 .rename_i f first cap g;simp only[sI,xC] at h;simp only[bo,g];exact h
 .rename_i t i g;simp only[sI,SX.bB] at h;simp only[bo,g];exact h
 .rename_i t parts g
  split at h
  .rename_i fs z h1 J
   split at h
   .rename_i w
    split at h
    .rename_i ps D
     simp only[sI] at h
     simp only[bo,g,qY,h1,J,w,if_true]
     have:=zI (T:=T) parts.toList ps z D
     rw[this]
     exact h
    .exact old rfl h
   .exact old rfl h
  .exact old rfl h
 .rename_i t len parts g
  split at h
  .rename_i sz b z hk
   obtain⟨e,ti,h1,J,w,D,K,O,L,rfl,rfl⟩:=pI hk
   split at h
   .rename_i G
    obtain⟨rfl,G⟩:=G
    simp only[sI,SX.at] at h
    simp only[bo,g,e9,h1,w]
    rw[List.isEmpty_iff] at G
    rw[OK (by omega),OM trivial,G]
    exact h
   split at h
   .rename_i G
    simp only[sI,Md,vr] at h
    simp only[bo,g,e9,h1,w]
    rw[OK (by omega),OK G.2,OK L]
    simp only[D,K,O,and_self,if_true]
    exact h
   .exact old rfl h
  .exact old rfl h
 .rename_i b args a1 g
  split at h
  .rename_i x j
   split at h
   .rename_i E
    simp only[bo,g,j,E,if_true,qN]
    split at h
    .rename_i e hu
     simp only[sI,SX.bB] at h
     simp only[hu];exact h
    .rename_i hu
     simp only[sI,SX.bB] at h
     simp only[hu]
     exact h
    .have:=old rfl h
     simpa only [bo,g,j,E,if_true,qN] using this
   .exact old rfl h
  .rename_i s x j
   split at h
   .rename_i E
    split at h
    .rename_i sz b z hk
     obtain⟨e,ti,h1,J,w,D,K,O,L,rfl,rfl⟩:=pI hk
     simp only[sI,SX.bB] at h
     simp only[bo,g,j]
     rw[OM E]
     unfold BN at h
     split at h
     .rename_i xs a6 W
      simp only[kG,h1,W,w]
      have R:(zeroCells P e).map List.length=some ti.size:=by rw[D];simp[K]
      split at h
      .rename_i A;rw[OM A];exact h
      .rename_i A
       rw[OK A]
       split at h
       .simp at h
       .rename_i Q
        rw[OK (by
         rintro (p | p | p)
         .exact L p
         .exact p R
         .exact Q p)]
        exact h
     .simp at h
    .exact old rfl h
   .exact old rfl h
  .rename_i x y j
   simp only[sI,SX.bB] at h
   simp only[bo,g]
   split at h
   .rename_i k a X b B F
    have:=BO (P:=P) (T:=T) g j B F (.inr ⟨rfl,rfl⟩)
    rw[this];exact h
   .simp at h
  .rename_i x y j
   simp only[sI,SX.bB] at h
   simp only[bo,g]
   split at h
   .rename_i k a X b B F
    have:=BO (P:=P) (T:=T) g j B F (.inl ⟨rfl,rfl⟩)
    rw[this];exact h
   .simp at h
  .exact old rfl h
 .rename_i s d x g
  split at h
  .rename_i k0 k N Z
   simp only[sI,SX.bB] at h
   simp only[bo,g]
   split at h
   .rename_i X a B
    have M:¬ (ik P s d=true):=by simp[ik,N,Z]
    rw[OK M,FZ g N Z B];exact h
   .simp at h
  .exact old rfl h
 .rename_i op t x y u g
  split at h
  .rename_i k hk
   have C:(gn P t).isSome=true:=by rw[hk];rfl
   split at h
   .simp only[sI,SX.bB] at h
    simp only[bo,g]
    rw[OM C,Fb hk]
    split at h
    .rename_i b M;rw[M];simpa using h
    .simp at h
   .simp only[sI,SX.bB] at h
    simp only[bo,g]
    rw[OM C,Fb hk]
    split at h
    .rename_i b M;rw[M];simpa using h
    .simp at h
   .exact old rfl h
  .rename_i hk
   have m:¬ ((gn P t).isSome=true):=by rw[hk];simp
   split at h
   .split at h
    .rename_i l N
     simp only[sI,SX.bB] at h
     simp only[bo,g]
     rw[OK m]
     exact Jz g N h
    .simp only[sI,SX.bB,tV] at h
     simp only[bo,g]
     split at h
     .rename_i k a X b B F
      split at h
      .rename_i Y
       subst Y
       simp only[OQ] at h
       obtain⟨r,hr,h⟩:=h
       rw[OK m,Dy g B F hr];exact Qo some h
      .simp at h
     .simp at h
   .simp only[sI,SX.bB] at h
    simp only[bo,g]
    rw[OK m]
    exact GL g h
   .rename_i hu
    split at h
    .simp only[sI,SX.bB] at h
     simp only[bo,g]
     split at h
     .rename_i a b B F
      rw[OK m,zC g hu B F (.inl ⟨rfl,rfl⟩)];simpa using h
     .simp at h
    .simp only[sI,SX.bB] at h
     simp only[bo,g]
     split at h
     .rename_i a b B F
      rw[OK m,zC g hu B F (.inr ⟨rfl,rfl⟩)];simpa using h
     .simp at h
    .exact old rfl h
   .exact old rfl h
 .rename_i t x g
  simp only[sI,SX.bB] at h
  simp only[bo,g]
  split at h
  .rename_i b M;rw[HJ g M];exact h
  .simp at h
 .rename_i t x i g
  split at h
  .rename_i hu
   simp only[sI,SX.bB] at h
   simp only[bo,g]
   exact Gm g hu h
  .exact old rfl h
 .exact old rfl h
theorem Kv {P:Program} {sz:Option Nat} {a:SX} {T:Env} {H:View} {n:Nat} {v:V} {au:aM} {rd:List Nat} (h:sI P (.vh sz a) T H n=some (v,au,rd)):sI P (.load sz a) T H n=some (v,au,rd):=by
 simp only[sI] at h
 simp only[sI,sm]
 split at h
 .rename_i e j b;rw[b];exact h
 .simp at h
def toStr (P:Program) (s d:TypeId):Bool:=match P.underlying s,P.underlying d with
 | some (.slice e),some .string=>(match P.underlying e with | some (.int .u8)=>true | _=>false)
 | _,_=>false
def rq (P:Program) (s d:TypeId):Bool:=match P.underlying s,P.underlying d with
 | some .string,some (.slice e)=>(match P.underlying e with | some (.int .u8)=>true | _=>false)
 | _,_=>false
theorem IJ {P:Program} {s d:TypeId} (h:toStr P s d=true):∃ e,P.underlying s=some (.slice e)/\P.underlying d=some .string/\P.underlying e=some (.int .u8):=by
 unfold toStr at h
 split at h
 .rename_i e h1 a
  split at h
  .rename_i b;exact⟨e,h1,a,b⟩
  .simp at h
 .simp at h
theorem vE {P:Program} {s d:TypeId} (h:rq P s d=true):∃ e,P.underlying s=some .string/\P.underlying d=some (.slice e)/\P.underlying e=some (.int .u8):=by
 unfold rq at h
 split at h
 .rename_i e h1 a
  split at h
  .rename_i b;exact⟨e,h1,a,b⟩
  .simp at h
 .simp at h
theorem LM {P:Program} {s d ty:TypeId} {x:Operand} {T:Env} {H:View} {n:Nat} {v:V} {au:aM} {rd:List Nat} (a:toStr P s d=true) (h:sI P (.zi (SX.of x)) T H n=some (v,au,rd)):sI P (.old (.convert s d x) ty) T H n=some (v,au,rd):=by
 obtain⟨e,h1,b,c⟩:=IJ a
 simp only[sI,SX.bB] at h
 simp only[sI,bo,oper,ik,h1,if_true,jT,b,c]
 split at h
 .rename_i es f
  rw[f]
  simp only[bD,dh]
  exact h
 .simp at h
inductive SB where
 | op (s:SI)
 | call (f:SX) (args:List SX)
 | vu (f:SX) (args:List SX)
 deriving Inhabited
structure SO where
 dst:Option Nat
 guard:Option (Nat × Bool)
 b:SB
 deriving Inhabited
structure SG where
 guard:Option (Nat × Bool)
 ops:List (Option Nat × SB)
 deriving Inhabited
inductive SC where
 | skip
 | region (quiet:Bool) (gs:List SG)
 | rj (aps:List (Nat × Nat)) (gs:List SG)
 | vn (tol:Nat × Nat × Nat) (aps:List (Nat × Nat)) (gs:List SG)
 | seq (x y:SC)
 | cond (c:SX) (x y:SC)
 | block (id:Nat) (c:SC)
 | loop (c:SC)
 | exit (id:Nat)
 | ret
 | scope (l:Nat) (c r:SC)
 | label (l:Nat)
 | goto (l:Nat)
 deriving Inhabited
def kW:SC->Nat->Option SC
 | .seq a b,l=>match kW a l with
  | some r=>some (.seq r b)
  | none=>kW b l
 | .label l',l=>if l' == l then some .skip else none
 | _,_=>none
def Bf:SC->Option Nat
 | .seq a b=>match Bf a with
  | some l=>some l
  | none=>Bf b
 | .label l=>some l
 | _=>none
def ve (l:Nat):Exit->Prop->Prop->Prop
 | .goto l',a,_=>l'=l/\a
 | _,_,b=>b
inductive SR where
 | tmp (t:Nat)
 | cell (t:Nat) (sz:Option Nat)
 deriving Inhabited
def vm (P:Program) (op:Op):Nat:=match op with
 | .convert s d _=>if ik P s d=true then 2 else 0
 | .call { callee:=.builtin b,.. }=>match b with
  | .min | .max | .complex | .real | .imag=>0
  | .len=>1
  | _=>2
 | .lookup ..=>1
 | .binOp .. | .unOp .. | .index ..=>0
 | _=>2
def qg (P:Program):SI->Nat
 | .cF _ | .pick .. | .gg _ | .wC _ | .addr .. | .field .. | .idx .. | .slice .. | .sH .. | .ext .. | .len _ | .mf _ | .arith .. | .sh .. | .tN .. | .ff .. | .not _ | .nil .. | .build .. | .vh .. | .beq .. | .mm .. | .conv .. | .zi _ | .ej _=>0
 | .load .. | .box _ | .alloc _ | .bM .. | .make .. | .sA=>1
 | .store .. | .app ..=>2
 | .old op _=>vm P op
def fK (P:Program) (quiet:Bool):SB->Nat
 | .op s=>qg P s
 | .call ..=>if quiet then 1 else 2
 | .vu ..=>1
structure Fz where
 l:List Nat
 fr:Bool
def uM (P:Program) (fr:Bool):SI->SI
 | .load k a=>if fr then .vh k a else .load k a
 | .old (.convert s d x) ty=>if fr && toStr P s d then .zi (SX.of x) else .old (.convert s d x) ty
 | s=>s
def jQ (P:Program) (fz:Fz) (o:Oper):SB:=match o.op with
 | .call { callee:=.value f,args,.. }=>if (match o.dst with | some d=>fz.l.contains (200000+d) | none=>false) then .vu (SX.of f) (args.toList.map SX.of) else .call (SX.of f) (args.toList.map SX.of)
 | .box _ x=>if (match o.dst with | some d=>fz.l.contains d | none=>false) then .op (.gg (SX.of x)) else .op (.box (SX.of x))
 | .convert s d x=>if (match o.dst with | some t=>fz.l.contains t | none=>false) && rq P s d then .op (.ej (SX.of x)) else .op (uM P fz.fr (comp P o))
 | _=>.op (uM P fz.fr (comp P o))
def rQ (n:Nat) (all:List Oper) (o:Oper):Option (Option (Nat × Bool)):=match o.guard with
 | none=>some none
 | some (j,want)=>match (all[j]?).bind (·.dst) with
  | some d=>if d < n then some (some (d,want)) else none
  | none=>none
def AW (P:Program) (n:Nat) (all:List Oper) (fz:Fz) (o:Oper):Option SO :=
 if oH n o then (rQ n all o).map λg=>⟨o.dst,g,jQ P fz o⟩ else none
def b6 (P:Program) (n:Nat) (all:List Oper) (fz:Fz):List Oper->Option (List SO)
 | []=>some []
 | o :: r=>match AW P n all fz o,b6 P n all fz r with
  | some s,some l=>some (s :: l)
  | _,_=>none
def SG.flat (g:SG):List SO:=g.ops.map λ(d,b)=>⟨d,g.guard,b⟩
def hD (gs:List SG):List SO:=(gs.map SG.flat).flatten
def F6 (g:Option (Nat × Bool)) (s:SO):Bool:=match g,s.guard with
 | none,none=>true
 | some (d,w),some (d',w')=>d == d' && w == w' && s.dst != some d
 | _,_=>false
def group:List SO->List SG
 | []=>[]
 | s :: r=>match group r with
  | g :: gs=>if F6 g.guard s then ⟨g.guard,(s.dst,s.b) :: g.ops⟩ :: gs else ⟨s.guard,[(s.dst,s.b)]⟩ :: g :: gs
  | []=>[⟨s.guard,[(s.dst,s.b)]⟩]
theorem J0 {g:Option (Nat × Bool)} {s:SO} (h:F6 g s=true):s.guard=g:=by
 unfold F6 at h
 split at h
 .rename_i h1;exact h1
 .rename_i d w a w' h1
  simp at h;rw[h1,h.1.1,h.1.2]
 .simp at h
theorem eo:∀ l:List SO,hD (group l)=l
 | []=>rfl
 | s :: r=>by
  have a:=eo r
  simp only[group]
  split
  .rename_i g gs c
   rw[c] at a
   split
   .rename_i e
    have:=J0 e
    rw[<-a]
    cases s with
    | mk d f b=>simp only at this;subst this;simp[hD,SG.flat]
   .rw[<-a];simp[hD,SG.flat]
  .rename_i c
   rw[c] at a
   rw[<-a];simp[hD,SG.flat]
def ze (o:Oper):Bool:=match o.op with
 | .load ..=>true
 | _=>false
def xb (o:Oper):Bool:=match o.op with
 | .alloc _=>true
 | _=>false
def hZ (o:Oper):Option Nat:=match o.op,o.guard with
 | .store _ (.tmp t) _,none=>some t
 | _,_=>none
def MZ (all:List Oper) (j k t:Nat):Bool:=match all[j]? with
 | some o=>o.dst == some t && o.guard.isNone && xb o && ((all.drop (j+1)).take (k - (j+1))).all λo'=>o'.dst != some t
 | none=>false
def u9 (all:List Oper) (i k:Nat):Bool:=match all[i]?,all[k]? with
 | some a,some b=>ze a && (match hZ b with
  | some t=>(List.range k).any λj=>decide (i < j) && MZ all j k t
  | none=>false)
 | _,_=>false
def AX (all:List Oper) (ls:List Nat):Bool :=
 let b:=dN all []
 ls.zipIdx.all λ(x,i)=>ls.zipIdx.all λ(y,k)=>!decide (i < k) || ordered b i k || x == 0 || y == 0 || (decide (x<=1) && decide (y<=1)) || u9 all i k
def oT (o:Oper):Option Nat:=match o.op with
 | .load _ (.tmp t)=>some t
 | _=>none
def stays (all:List Oper) (i t:Nat):Bool:=(all.drop i).all λo=>o.dst != some t
def xQ (all:List Oper) (i k:Nat):Option (Nat × Nat):=match all[i]?,all[k]? with
 | some a,some b=>match oT a,hZ b with
  | some s,some t=>if stays all i s && stays all k t then some (s,t) else none
  | _,_=>match hZ a,oT b with
   | some t,some s=>if stays all i t && stays all k s then some (s,t) else none
   | _,_=>none
 | _,_=>none
def uT (all:List Oper) (x i y k:Nat):Bool:=!decide (i < k) || ordered (dN all []) i k || x == 0 || y == 0 || (decide (x<=1) && decide (y<=1)) || u9 all i k
def iA (all:List Oper) (ls:List Nat):List (Nat × Nat):=ls.zipIdx.flatMap λ(x,i)=>ls.zipIdx.filterMap λ(y,k)=>if uT all x i y k then none else some (i,k)
def x7 (all:List Oper):List (Nat × Nat)->Option (List (Nat × Nat))
 | []=>some []
 | (i,k) :: r=>match xQ all i k,x7 all r with
  | some p,some l=>some (p :: l)
  | _,_=>none
def Is (o:Oper):Option Nat:=match o.op,o.guard with
 | .call { callee:=.builtin .append,args,.. },none=>match args.toList with
  | [.tmp t,_]=>some t
  | _=>none
 | _,_=>none
def mn (o:Oper):Option Nat:=match hZ o with
 | some t=>some t
 | none=>Is o
def Cr (o:Oper):Bool:=match o.op with
 | .buildSlice ..=>true
 | .alloc _=>true
 | _=>false
def newAt (all:List Oper) (k:Nat):Bool:=match all[k]? with
 | some b=>Cr b
 | none=>false
def zd (all:List Oper) (i k:Nat):Option (Nat × Nat):=match all[i]?,all[k]? with
 | some a,some b=>match oT a,mn b with
  | some s,some t=>if stays all i s && stays all k t then some (s,t) else none
  | _,_=>match mn a,oT b with
   | some t,some s=>if stays all i t && stays all k s then some (s,t) else none
   | _,_=>none
 | _,_=>none
def AV (all:List Oper) (ls:List Nat) (i k:Nat):Option (Nat × Nat × Nat):=match all[i]?,all[k]? with
 | some a,some b=>match a.op,b.op,a.guard,b.guard with
  | .lookup t (.tmp m) (.tmp q) false,.mapEntry t' (.tmp m') (.tmp q'),none,none =>
   if t == t' && m == m' && q == q' && stays all i m && stays all i q && stays all k m && stays all k q && decide (i < k) && (List.range k).all λj=>decide (ls.getD j 2<=1) then some (t,m,q) else none
  | _,_,_,_=>none
 | _,_=>none
def A3 (all:List Oper) (ls:List Nat) (tp:Option (Nat × Nat)):List (Nat × Nat):=(iA all ls).filter λp=>!newAt all p.2 && tp != some p
def vz (o:Oper):Option (Nat × Nat × Nat):=match o.op,o.guard,o.dst with
 | .call { callee:=.builtin .append,args,.. },none,some d=>match args.toList with
  | [.tmp t,.tmp y]=>some (t,y,d)
  | _=>none
 | _,_,_=>none
def yO (all:List Oper) (i k:Nat):Option (List (Nat × Nat)):=match all[i]?,all[k]? with
 | some a,some b=>match vz a,vz b with
  | some (t,y,d),some (t',y',_)=>if stays all i t && stays all i y && stays all (i+1) d && stays all k t' && stays all k y' then some [(t,t'),(t,y'),(t',y),(d,t')] else none
  | _,_=>none
 | _,_=>none
def vy (all:List Oper) (i k:Nat):Option (List (Nat × Nat)):=match zd all i k with
 | some p=>some [p]
 | none=>yO all i k
def qX (all:List Oper):List (Nat × Nat)->Option (List (Nat × Nat))
 | []=>some []
 | (i,k) :: r=>match vy all i k,qX all r with
  | some p,some l=>some (p ++ l)
  | _,_=>none
def pU (g:SG):Bool:=match g.guard with
 | none=>true
 | some (d,_)=>g.ops.all λx=>x.1 != some d
def oR (P:Program) (n:Nat) (fz:Fz) (ops:List Oper) (draw quiet:Bool):Option SC:=match b6 P n ops fz ops with
 | none=>none
 | some l=>if !(group l).all pU then none else
  if draw then (if jo ops && AX ops (l.map λs=>fK P quiet s.b) then some (.region quiet (group l)) else none)
  else some (.region quiet (group l))
def yF (P:Program) (n:Nat) (fz:Fz) (ops:List Oper):Option SC:=match b6 P n ops fz ops with
 | none=>none
 | some l=>if !(group l).all pU then none else
  if jo ops then (x7 ops (iA ops (l.map λs=>fK P false s.b))).map λaps=>.rj aps (group l) else none
def LK (all:List Oper) (ls:List Nat):Option (Nat × Nat):=(iA all ls).find? λp=>(AV all ls p.1 p.2).isSome
def ye (P:Program) (n:Nat) (fz:Fz) (ops:List Oper):Option SC:=match b6 P n ops fz ops with
 | none=>none
 | some l=>if !(group l).all pU then none else
  if jo ops then
   (match LK ops (l.map λs=>fK P false s.b) with
   | none=>(qX ops (A3 ops (l.map λs=>fK P false s.b) none)).map λaps=>.rj aps (group l)
   | some p=>match AV ops (l.map λs=>fK P false s.b) p.1 p.2 with
    | some tol=>(qX ops (A3 ops (l.map λs=>fK P false s.b) (some p))).map λaps=>.vn tol aps (group l)
    | none=>none)
  else none
def Nb:Nat:=100000
def Nd:Nat:=100001
def orElse':Option SC->Option SC->Option SC
 | some x,_=>some x
 | none,y=>y
def xL (P:Program) (n:Nat) (fz:List Nat) (ops:List Oper) (draw:Bool):Option SC :=
 orElse' (oR P n ⟨fz,false⟩ ops draw false) (if draw then orElse' (if fz.contains Nb then ye P n ⟨fz,false⟩ ops else none) <| orElse' (if fz.contains Nd then oR P n ⟨fz,true⟩ ops true false else none) <| orElse' (yF P n ⟨fz,false⟩ ops) (orElse' (oR P n ⟨fz,false⟩ ops true true) (orElse' (oR P n ⟨fz,true⟩ ops true false) (oR P n ⟨fz,true⟩ ops true true))) else none)
def bP (P:Program) (n:Nat) (fz:List Nat):Code->Option SC
 | .skip=>some .skip
 | .region _ ops draw=>xL P n fz ops.toList draw
 | .seq x y=>match bP P n fz x,bP P n fz y with
  | some a,some b=>some (.seq a b)
  | _,_=>none
 | .cond c x y=>match bP P n fz x,bP P n fz y with
  | some a,some b=>some (.cond (SX.of c) a b)
  | _,_=>none
 | .block id c=>(bP P n fz c).map (.block id)
 | .loop c=>(bP P n fz c).map .loop
 | .exit id=>some (.exit id)
 | .ret=>some .ret
 | .scope c=>match bP P n fz c with
  | some sc=>match Bf sc with
   | some l=>(kW sc l).map λr=>.scope l sc r
   | none=>none
  | none=>none
 | .label l=>some (.label l)
 | .goto l=>some (.goto l)
 | _=>none
def fN (h h':aw):Prop:=∀ id,id < h.length->h.view id=.dead->h'.view id=.dead
theorem fN.refl (h:aw):fN h h:=λ_ _ e=>e
theorem fN.trans {a b c:aw} (h:fN a b) (k:fN b c) (f:a.length<=b.length):fN a c:=λid d e=>k id (O0 d f) (h id d e)
def an (P:Program) (f:FuncId) (vs:List V) (H:View) (K:V->View->Prop):Prop :=
 bX P f=true/\∀ h:aw,h.view=H->∃ r h',bu P f vs h r h'/\fN h h'/\K r h'.view
def yD (P:Program) (f:FuncId) (vs:List V) (H:View) (K:V->View->Prop):Prop :=
 bX P f=true/\∀ h:aw,h.view=H->∃ r h',bu P f vs h r h'/\(∀ id,id < h.length->h'.view id=h.view id)/\K r h'.view
def gE (sz:Option Nat) (e:List V) (j:Nat) (K:V->Prop):Prop:=match sz with
 | some n=>j+n<=e.length/\K (.agg ((e.drop j).take n))
 | none=>j < e.length/\K (e.getD j .any)
def wI (P:Program) (s:SI) (T:Env) (H:View) (K:V->View->Prop):Prop:=match s with
 | .cF x=>K (x.at T) H
 | .pick c a b=>match c.at T with
  | .val (.bool t)=>K (if t then a.at T else b.at T) H
  | _=>False
 | .box x=>(x.at T).cells.all aD=true/\∀ n,H n=.dead->K (.ptr n 0 0) (H.set n (.arr (x.at T).cells.length [(x.at T).cells]))
 | .gg x=>(x.at T).cells.all aD=true/\K (.aC (x.at T).cells 0) H
 | .alloc z=>z.all aD=true/\∀ n,H n=.dead->K (.ptr n 0 0) (H.set n (.arr z.length [z]))
 | .load sz a=>match a.at T with
  | .ptr id i j=>match H id with
   | .arr _ es=>i < es.length/\gE sz (es.getD i []) j λv=>K v H
   | _=>False
  | .aC e j=>gE sz e j λv=>K v H
  | _=>False
 | .vh sz a=>match a.at T with
  | .aC e j=>gE sz e j λv=>K v H
  | _=>False
 | .store sz a x=>match a.at T with
  | .ptr id i j=>match H id with
   | .arr esz es=>(i < es.length/\(x.at T).cells.length=sz/\j+(x.at T).cells.length<=esz/\(x.at T).cells.all aD=true) /\
     K .any (H.set id (.arr esz (es.set i (dE (es.getD i []) j (x.at T).cells))))
   | _=>False
  | _=>False
 | .wC x=>match x.at T with
  | .ptr id i j=>K (.ptr id i j) H
  | .aC e j=>K (.aC e j) H
  | .fn f a b=>K (.fn f a b) H
  | _=>False
 | .addr off x=>match x.at T with
  | .ptr id i j=>K (.ptr id i (j+off)) H
  | .aC e j=>K (.aC e (j+off)) H
  | _=>False
 | .field off sz x=>match x.at T with
  | .agg cs=>gE sz cs off λv=>K v H
  | _=>False
 | .idx sz x i=>match asNat (i.at T) with
  | none=>False
  | some q=>match x.at T with
   | .sl id off len esz=>(q < len/\esz=sz)/\K (.ptr id (off+q) 0) H
   | .aX es=>∃ e,es[q]?=some e/\e.length=sz/\K (.aC e 0) H
   | _=>False
 | .sH f first cap=>K (.fn f (first.map (SX.at T)) (cap.map (SX.at T))) H
 | .sA=>∀ n,H n=.dead->K (.mp n) (H.set n (.map [] 0))
 | .ext i x=>match x.at T with
  | .aU vs=>i < vs.length/\K (vs.getD i .any) H
  | _=>False
 | .len x=>match dh (x.at T) with
  | some n=>K (bz n) H
  | none=>False
 | .mf x=>match x.at T with
  | .val (.string s)=>K (bz s.size) H
  | _=>False
 | .arith op x y=>match x.at T,y.at T with
  | .val (.int k a),.val (.int k' b)=>k=k'/\(match eV op k a b with | some v=>K (.val v) H | none=>False)
  | _,_=>False
 | .tN op x y=>match x.at T,y.at T with
  | .val (.string a),.val (.string b)=>(match op with
   | .eql=>K (.val (.bool (gD a b))) H
   | .neq=>K (.val (.bool (!gD a b))) H
   | _=>False)
  | _,_=>False
 | .ff x i=>match x.at T,asNat (i.at T) with
  | .val (.string s),some q=>∃ b,s.data.toList[q]?=some b/\K (.val (.int .u8 b.toNat)) H
  | _,_=>False
 | .not x=>match x.at T with
  | .val (.bool t)=>K (.val (.bool (!t))) H
  | _=>False
 | .nil eq k x y=>match wc (dq k (x.at T)) (dq k (y.at T)) with
  | some b=>K (.val (.bool (if eq then b else !b))) H
  | none=>False
 | .beq eq x y=>match x.at T,y.at T with
  | .val (.bool a),.val (.bool b)=>K (.val (.bool (if eq then a == b else a != b))) H
  | _,_=>False
 | .mm mx x y=>match x.at T,y.at T with
  | .val (.int k a),.val (.int _ b)=>K (.val (.int k (if mx then (if b > a then b else a) else (if b < a then b else a)))) H
  | _,_=>False
 | .conv k x=>match x.at T with
  | .val (.int _ a)=>K (.val (.int k (k.wrap a))) H
  | _=>False
 | .sh l x y=>match x.at T,y.at T with
  | .val (.int k a),.val (.int _ b)=>0<=b/\K (.val (.int k (Fv l k a b))) H
  | _,_=>False
 | .build z parts=>match jn z (parts.map λ(a,b,x)=>(a,b,x.at T)) with
  | some cs=>K (.agg cs) H
  | none=>False
 | .bM len sz z parts=>match iR sz (List.replicate len z) (parts.map λ(i,x)=>(i,x.at T)) with
  | some es=>∀ n,H n=.dead->K (.sl n 0 len sz) (H.set n (.arr sz es))
  | none=>False
 | .slice sz x lo hi=>match np sz (x.at T) (lo.map (SX.at T)) (hi.map (SX.at T)) with
  | some (v,.none,_)=>K v H
  | _=>False
 | .make sz bytes z l c=>match asNat (l.at T),asNat (c.at T) with
  | some l,some c=>(l<=c/\c < aB/\bytes * c < aB)/\(c=0->K (.emp 2) H)/\(c≠0->∀ n,H n=.dead->K (.sl n 0 l sz) (H.set n (.arr sz (List.replicate l z))))
  | _,_=>False
 | .app sz bytes x y=>match bD H (y.at T) with
  | some (xs,_)=>if xs.isEmpty=true then (match x.at T with
    | .emp k=>K (.emp k) H
    | .dn=>K .dn H
    | .aX es=>K (.aX es) H
    | .sl a b c d=>K (.sl a b c d) H
    | _=>False)
   else (xs.all λe=>e.length == sz && e.all aD)=true/\(match x.at T with
    | .emp _=>(xs.length * bytes < aB/\xs.length < aB)/\∀ n,H n=.dead->K (.sl n 0 xs.length sz) (H.set n (.arr sz xs))
    | .sl id off len esz=>match H id with
     | .arr _ es=>(off+len<=es.length/\esz=sz/\(len+xs.length) * bytes < aB/\len+xs.length < aB) /\
      ∀ n,H n=.dead->K (.sl n 0 (len+xs.length) esz) ((H.set id .dead).set n (.arr esz ((es.drop off).take len ++ xs)))
     | _=>False
    | _=>False)
  | none=>False
 | .zi x=>match x.at T with
  | .aX es=>(match nj es with
   | some l=>K (.val (.string ⟨l.toArray⟩)) H
   | none=>False)
  | _=>False
 | .ej x=>match x.at T with
  | .val (.string s)=>K (.aX (eC s)) H
  | _=>False
 | s=>∀ n,H n=.dead->∃ v au rd,sI P s T H n=some (v,au,rd)/\K v (au.view H n)
def wB (P:Program) (quiet:Bool) (b:SB) (T:Env) (H:View) (K:V->View->Prop):Prop:=match b with
 | .op s=>wI P s T H K
 | .call f args=>match f.at T with
  | .fn g first cap=>if quiet then yD P g (first ++ args.map (SX.at T) ++ cap) H K else an P g (first ++ args.map (SX.at T) ++ cap) H K
  | _=>False
 | .vu f args=>match f.at T with
  | .fn g first cap=>yD P g (first ++ args.map (SX.at T) ++ cap) H K
  | _=>False
def ug (P:Program) (quiet:Bool):List (Option Nat × SB)->Env->View->(Env->View->Prop)->Prop
 | [],T,H,K=>K T H
 | (d,b) :: r,T,H,K=>wB P quiet b T H λv H'=>ug P quiet r (T.put d v) H' K
def fE:List (Option Nat × SB)->Env->Env
 | [],T=>T
 | (d,_) :: r,T=>fE r (T.put d (.aU []))
def wG (P:Program) (quiet:Bool) (g:SG) (T:Env) (H:View) (K:Env->View->Prop):Prop:=match g.guard with
 | none=>ug P quiet g.ops T H K
 | some (d,want)=>match T d with
  | .val (.bool b)=>(b=want->ug P quiet g.ops (T.put (some d) (.val (.bool want))) H K)/\(b = !want->K (fE g.ops (T.put (some d) (.val (.bool (!want))))) H)
  | .aU []=>K (fE g.ops T) H
  | _=>False
def te (P:Program) (quiet:Bool):List SG->Env->View->(Env->View->Prop)->Prop
 | [],T,H,K=>K T H
 | g :: r,T,H,K=>wG P quiet g T H λT' H'=>te P quiet r T' H' K
def qj (c:SX) (b:Bool) (T:Env):Env:=match c with
 | .tmp t=>T.put (some t) (.val (.bool b))
 | _=>T
def vZ:Exit->Prop->Prop->Prop
 | .normal,a,_=>a
 | _,_,b=>b
def fv (a b:V):Prop:=match a,b with
 | .ptr i _ _,.ptr j _ _=>i≠j
 | .ptr i _ _,.sl j _ _ _=>i≠j
 | .ptr _ _ _,.emp _=>True
 | .ptr _ _ _,.dn=>True
 | .ptr _ _ _,.aX _=>True
 | .aC _ _,_=>True
 | .sl i _ _ _,.sl j _ _ _=>i≠j
 | .sl _ _ _ _,.emp _=>True
 | .sl _ _ _ _,.dn=>True
 | .sl _ _ _ _,.aX _=>True
 | .emp _,_=>True
 | .dn,_=>True
 | .aX _,_=>True
 | _,_=>False
def C6 (P:Program) (t:TypeId) (m q:V) (H:View):Prop:=match m with
 | .mp id=>(∃ es c,H id=.map es c)/\∀ v obj rd,cM P t (.mp id) q H=some (v,.dP id obj,rd)->dG P t (.mp id) q false (H.set id obj)=dG P t (.mp id) q false H
 | _=>False
def uQ:List (Nat × Nat)->Env->Prop->Prop
 | [],_,K=>K
 | p :: l,T,K=>fv (T p.1) (T p.2)/\uQ l T K
def wS (P:Program):SC->Env->View->(Exit->Env->View->Prop)->Prop
 | .skip,T,H,Q=>Q .normal T H
 | .region quiet gs,T,H,Q=>te P quiet gs T H (Q .normal)
 | .rj aps gs,T,H,Q=>te P false gs T H λT' H'=>uQ aps T' (Q .normal T' H')
 | .vn tol aps gs,T,H,Q=>te P false gs T H λT' H'=>C6 P tol.1 (T' tol.2.1) (T' tol.2.2) H/\uQ aps T' (Q .normal T' H')
 | .seq x y,T,H,Q=>wS P x T H λe T' H'=>vZ e (wS P y T' H' Q) (Q e T' H')
 | .cond c x y,T,H,Q=>match c.at T with
  | .val (.bool b)=>(b=true->wS P x (qj c true T) H Q)/\(b=false->wS P y (qj c false T) H Q)
  | _=>False
 | .block id c,T,H,Q=>wS P c T H λe=>Q (mF id e)
 | .loop c,T,H,Q=>∃ I:Nat->Env->View->Prop,(∃ k,I k T H)/\∀ k T H,I k T H->wS P c T H λe T' H'=>vZ e (∃ k',k' < k/\I k' T' H') (Q e T' H')
 | .exit id,T,H,Q=>Q (.exit id) T H
 | .ret,T,H,Q=>Q .ret T H
 | .scope l c r,T,H,Q=>∃ (I:Nat->Env->View->Prop) (K:Nat),wS P c T H (λe T' H'=>ve l e (∃ k,k < K/\I k T' H') (Q e T' H'))/\∀ k T H,I k T H->wS P r T H λe T' H'=>ve l e (∃ k',k' < k/\I k' T' H') (Q e T' H')
 | .label _,T,H,Q=>Q .normal T H
 | .goto l,T,H,Q=>Q (.goto l) T H
def wR (T:Env) (H:View) (r:SR) (K:V->Prop):Prop:=match r with
 | .tmp t=>K (T t)
 | .cell t sz=>match T t with
  | .ptr id i j=>match H id with
   | .arr _ es=>i < es.length/\gE sz (es.getD i []) j K
   | _=>False
  | .aC e j=>gE sz e j K
  | _=>False
def yh (T:Env) (H:View):List SR->List V->(List V->Prop)->Prop
 | [],acc,K=>K acc
 | r :: l,acc,K=>wR T H r λv=>yh T H l (acc ++ [v]) K
def sX:List V->V
 | [v]=>v
 | vs=>.aU vs
def dR (P:Program):List ResultVar->Option (List SR)
 | []=>some []
 | .tmp t :: r=>(dR P r).map (.tmp t :: ·)
 | .cell a t :: r=>match xM P t,dR P r with
  | some k,some l=>some (.cell a k :: l)
  | _,_=>none
structure SF where
 code:SC
 res:List SR
 n:Nat
def ae:List SC->SC
 | []=>.skip
 | [a]=>a
 | a :: b :: l=>.seq a (ae (b :: l))
abbrev cb (k a b:Nat):Option Nat × SB:=(none,.op (.store k (.tmp a) (.tmp b)))
abbrev cp (a k:Nat):Option Nat × SB:=(some a,.op (.cF (.val (.emp k))))
abbrev pk (d s b x y:Nat):Option Nat × SB:=(some d,.op (.app s b (.tmp x) (.tmp y)))
abbrev bc (a:Nat) (x:SC):SC:=.cond (.tmp a) x .skip
abbrev bH (a:Nat) (x:SC):SC:=.cond (.tmp a) .skip x
abbrev bJ (a:Nat) (x:SC):SC:=.block a (.loop x)
abbrev aa (a b:Nat):Option Nat × SB:=(some a,.op (.cF (.tmp b)))
abbrev aN (a:Nat) (n:Int):Option Nat × SB:=(some a,.op (.cF (.val (.val (.int .i64 n)))))
abbrev bb (a:Nat) (n:Bool):Option Nat × SB:=(some a,.op (.cF (.val (.val (.bool n)))))
abbrev ak (a b:Nat):Option Nat × SB:=(some a,.op (.load none (.tmp b)))
abbrev ba (a k b:Nat):Option Nat × SB:=(some a,.op (.load (some k) (.tmp b)))
abbrev av (a k b:Nat):Option Nat × SB:=(some a,.op (.addr k (.tmp b)))
abbrev aW (a k b c:Nat):Option Nat × SB:=(some a,.op (.idx k (.tmp b) (.tmp c)))
abbrev bq (a b c:Nat):Option Nat × SB:=(some a,.op (.pick (.tmp b) (.val (.val (.bool true))) (.tmp c)))
abbrev bV (a b c:Nat):Option Nat × SB:=(some a,.op (.pick (.tmp b) (.tmp c) (.val (.val (.bool false)))))
abbrev aV (a:Nat) (o:BinOp) (b c:Nat):Option Nat × SB:=(some a,.op (.arith o (.tmp b) (.tmp c)))
abbrev ax (a:Nat) (o:BinOp) (b:Nat) (n:Int):Option Nat × SB:=(some a,.op (.arith o (.tmp b) (.val (.val (.int .i64 n)))))
abbrev aR (a b:Nat):Option Nat × SB:=(some a,.op (.len (.tmp b)))
abbrev cP (a k b:Nat):Option Nat × SB:=(some a,.op (.ext k (.tmp b)))
abbrev bS (a b:Nat):Option Nat × SB:=(some a,.op (.not (.tmp b)))
abbrev cE (a b:Nat):Option Nat × SB:=(some a,.op (.gg (.tmp b)))
abbrev fT (a b:Nat):Option Nat × SB:=(some a,.op (.wC (.tmp b)))
abbrev jG (a f:Nat) (l:List SX):Option Nat × SB:=(some a,.call (.val (.fn f [] [])) l)
abbrev aJ (a f:Nat) (l:List Nat):Option Nat × SB:=(some a,.call (.val (.fn f [] [])) (l.map .tmp))
abbrev ab (l:List (Option Nat × SB)):SC:=.region false [⟨none,l⟩]
def aE (P:Program) (f:FuncId) (fz:List Nat):Option SF:=match P.funcs[f]? with
 | some fn=>match fn.body with
  | some c=>match bP P fn.ntmps fz c,dR P fn.results.toList,bX P f with
   | some sc,some rs,true=>some ⟨sc,rs,fn.ntmps⟩
   | _,_,_=>none
  | none=>none
 | none=>none
theorem l6 {sz:Option Nat} {e:List V} {j:Nat} {K:V->Prop} (h:gE sz e j K):∃ v,jO sz e j=some v/\K v:=by
 cases sz with
 | none=>exact⟨_,by simp only[jO];rw[OM h.1],h.2⟩
 | some n=>exact⟨_,by simp only[jO];rw[OM h.1],h.2⟩
theorem Nr {P:Program} {s:SI} {T:Env} {H:View} {K:V->View->Prop} (h:wI P s T H K) {n:Nat} (r:H n=.dead) :
  ∃ v au rd,sI P s T H n=some (v,au,rd)/\K v (au.view H n):=by
 unfold wI at h
 split at h
 .exact⟨_,_,_,rfl,h⟩
 .split at h
  .rename_i t D;exact⟨_,_,_,by simp only[sI,D];rfl,h⟩
  .exact h.elim
 .exact⟨_,_,_,by simp only[sI,iY];rw[OM h.1],h.2 n r⟩
 .exact⟨_,_,_,by simp only[sI];rw[OM h.1],h.2⟩
 .exact⟨_,_,_,by simp only[sI,iY];rw[OM h.1],h.2 n r⟩
 .split at h
  .rename_i id i j u
   split at h
   .rename_i es hH
    obtain⟨h1,f⟩:=h
    obtain⟨v,o,hk⟩:=l6 f
    exact⟨_,_,_,by simp only[sI,sm,u,hH];rw[OM h1,o];rfl,hk⟩
   .exact h.elim
  .rename_i e j u
   obtain⟨v,o,hk⟩:=l6 h
   exact⟨_,_,_,by simp only[sI,sm,u];rw[o];rfl,hk⟩
  .exact h.elim
 .split at h
  .rename_i e j u
   obtain⟨v,o,hk⟩:=l6 h
   exact⟨_,_,_,by simp only[sI,u];rw[o];rfl,hk⟩
  .exact h.elim
 .split at h
  .rename_i id i j u
   split at h
   .rename_i esz es hH
    exact⟨_,_,_,by simp only[sI,yy,u,hH];rw[OM h.1],h.2⟩
   .exact h.elim
  .exact h.elim
 .split at h
  .rename_i d;exact⟨_,_,_,by simp only[sI,d];rfl,h⟩
  .rename_i d;exact⟨_,_,_,by simp only[sI,d];rfl,h⟩
  .rename_i d;exact⟨_,_,_,by simp only[sI,d];rfl,h⟩
  .exact h.elim
 .split at h
  .rename_i d;exact⟨_,_,_,by simp only[sI,vd,d];rfl,h⟩
  .rename_i d;exact⟨_,_,_,by simp only[sI,vd,d];rfl,h⟩
  .exact h.elim
 .split at h
  .rename_i cs d
   obtain⟨v,o,hk⟩:=l6 h
   exact⟨_,_,_,by simp only[sI,d,o];rfl,hk⟩
  .exact h.elim
 .split at h
  .exact h.elim
  .rename_i q y
   split at h
   .rename_i d;exact⟨_,_,_,by simp only[sI,y6,y,d];rw[OM h.1],h.2⟩
   .rename_i es d
    obtain⟨e,he,x,hk⟩:=h
    have A:q < es.length:=(OV.1 he).1
    have B:es.getD q []=e:=by simp[OH,he]
    exact⟨_,_,_,by simp only[sI,y6,y,d];rw[B,OM ⟨A,x⟩],hk⟩
   .exact h.elim
 .exact⟨_,_,_,rfl,h⟩
 .exact⟨_,_,_,rfl,h n r⟩
 .split at h
  .rename_i vs d;exact⟨_,_,_,by simp only[sI,d];rw[OM h.1],h.2⟩
  .exact h.elim
 .split at h
  .rename_i m d;exact⟨_,_,_,by simp only[sI,d];rfl,h⟩
  .exact h.elim
 .split at h
  .rename_i s d;exact⟨_,_,_,by simp only[sI,d];rfl,h⟩
  .exact h.elim
 .split at h
  .rename_i k a F b d g
   obtain⟨rfl,h⟩:=h
   split at h
   .rename_i v o;exact⟨_,_,_,by simp only[sI,tV,d,g,if_true,o];rfl,h⟩
   .exact h.elim
  .exact h.elim
 .split at h
  .rename_i a b d g
   split at h
   .exact⟨_,_,_,by simp only[sI,wE,d,g];rfl,h⟩
   .exact⟨_,_,_,by simp only[sI,wE,d,g];rfl,h⟩
   .exact h.elim
  .exact h.elim
 .split at h
  .rename_i s q d y
   obtain⟨b,p,hk⟩:=h
   exact⟨_,_,_,by simp only[sI,yn,d,y,p];rfl,hk⟩
  .exact h.elim
 .split at h
  .rename_i t d;exact⟨_,_,_,by simp only[sI,d];rfl,h⟩
  .exact h.elim
 .split at h
  .rename_i b p;exact⟨_,_,_,by simp only[sI,p];rfl,h⟩
  .exact h.elim
 .split at h
  .rename_i d g;exact⟨_,_,_,by simp only[sI,d,g];rfl,h⟩
  .exact h.elim
 .split at h
  .rename_i d g;exact⟨_,_,_,by simp only[sI,d,g];rfl,h⟩
  .exact h.elim
 .split at h
  .rename_i d;exact⟨_,_,_,by simp only[sI,d];rfl,h⟩
  .exact h.elim
 .split at h
  .rename_i d g;exact⟨_,_,_,by simp only[sI,IB,d,g];rw[OK (by omega)],h.2⟩
  .exact h.elim
 .split at h
  .rename_i cs p;exact⟨_,_,_,by simp only[sI,p];rfl,h⟩
  .exact h.elim
 .split at h
  .rename_i es p;exact⟨_,_,_,by simp only[sI,vr,p];rfl,h n r⟩
  .exact h.elim
 .split at h
  .rename_i v rd p;exact⟨_,_,_,by simp only[sI,p];rfl,h⟩
  .exact h.elim
 .split at h
  .rename_i l c x C
   obtain⟨h1,f,E⟩:=h
   by_cases e:c=0
   .exact⟨.emp 2,.none,[],by simp only[sI,xJ,x,C];rw[OM h1,OM e],f e⟩
   .exact⟨_,_,_,by simp only[sI,xJ,x,C];rw[OM h1,OK e],E e n r⟩
  .exact h.elim
 .split at h
  .rename_i xs rd w
   split at h
   .rename_i he
    split at h
    all_goals first
     | (rename_i d;exact⟨_,_,_,by simp only[sI,BN,w];rw[OM he,d],h⟩)
     | exact h.elim
   .rename_i he
    obtain⟨h1,f⟩:=h
    split at f
    .rename_i d
     exact⟨_,_,_,by simp only[sI,BN,w];rw[OK he,OK (by rw[h1];simp),d];simp only;rw[OM f.1],f.2 n r⟩
    .rename_i id off len esz d
     split at f
     .rename_i z es hH
      exact⟨_,_,_,by simp only[sI,BN,w];rw[OK he,OK (by rw[h1];simp),d];simp only[hH];rw[OM f.1],f.2 n r⟩
     .exact f.elim
    .exact f.elim
  .exact h.elim
 .split at h
  .rename_i d
   split at h
   .rename_i l x;exact⟨_,_,_,by simp only[sI,d,x];rfl,h⟩
   .exact h.elim
  .exact h.elim
 .split at h
  .rename_i d;exact⟨_,_,_,by simp only[sI,d];rfl,h⟩
  .exact h.elim
 .exact h n r
def iw (k:Nat) (rd wr:List Nat) (call:Bool) (n n':Nat):Prop :=
 (k=0->rd=[]/\wr=[]/\call=false/\n'=n)/\(k<=1->wr=[])
theorem K4 {k:Nat} (h:k=2) {rd wr:List Nat} {call:Bool} {n a:Nat} : iw k rd wr call n a:=⟨λb=>by omega,λb=>by omega⟩
theorem ni {P:Program} {o:Oper} {T:Env} {v:V} {au:aM} {rd:List Nat} (h:cw P o T=some (v,au,rd)):au=.none/\rd=[]:=by
 unfold cw at h
 split at h
 .split at h
  .split at h
   .simp at h;exact⟨h.2.1.symm,h.2.2⟩
   .simp at h
  .simp at h
 .simp at h
theorem Ka {P:Program} {o:Oper} {T:Env} {H:View} {n:Nat} {v:V} {au:aM} {rd:List Nat} (h:bo P o T H n=some (v,au,rd)) :
  (vm P o.op=0->au=.none/\rd=[])/\(vm P o.op=1->au.wr=[]):=by
 unfold vm
 split
 .rename_i s d x a
  simp only[bo,a] at h
  split
  .exact⟨λh=>by simp at h,λh=>by simp at h⟩
  .rename_i j
   rw[OK j] at h
   exact⟨λ_=>ni h,λh=>by simp at h⟩
 .rename_i b args l a
  simp only[bo,a] at h
  split
  any_goals exact⟨λ_=>ni h,λh=>by simp at h⟩
  .refine⟨λh=>by simp at h,λ_=>?_⟩
   split at h
   .rename_i f
    split at h
    .simp only[qN] at h
     have c:∀ {g:V} {r:List Nat},some (g,aM.none,r)=some (v,au,rd)->au.wr=[]:=λe=>by
      simp only[OJ,OL] at e;rw[<-e.2.1];rfl
     split at h
     .simp only[OQ] at h
      obtain⟨_,_,h⟩:=h
      exact c (Qo some h)
     .split at h
      .split at h
       .exact c h
       .simp at h
      .exact c h
      .simp at h
     .split at h
      .exact c h
      .simp at h
     .exact c h
     .simp at h
    .simp at h
   any_goals simp at h
   all_goals contradiction
  .exact⟨λh=>by simp at h,λh=>by simp at h⟩
 .rename_i t m k ok a
  refine⟨λh=>by simp at h,λ_=>?_⟩
  simp only[bo,a,dG] at h
  have c:∀ {g:V} {r:List Nat},some (g,aM.none,r)=some (v,au,rd)->au.wr=[]:=λe=>by
   simp only[OJ,OL] at e;rw[<-e.2.1];rfl
  split at h
  .simp at h
  .split at h
   .simp at h
   .split at h
    .split at h
     .split at h
      .split at h
       .exact c h
       .simp at h
      .exact c h
      .simp at h
     .simp at h
    .simp at h
 .rename_i op t x y u a
  refine⟨λ_=>?_,λh=>by simp at h⟩
  simp only[bo,a] at h
  split at h
  .split at h
   .simp at h;exact⟨h.2.1.symm,h.2.2⟩
   .simp at h;exact⟨h.2.1.symm,h.2.2⟩
   .simp at h
  .exact ni h
 .rename_i op t x a
  exact⟨λ_=>ni (by simpa only [bo,a] using h),λh=>by simp at h⟩
 .rename_i t x i a
  exact⟨λ_=>ni (by simpa only [bo,a] using h),λh=>by simp at h⟩
 .exact⟨λh=>by simp at h,λh=>by simp at h⟩
theorem oW {P:Program} {s:SI} {T:Env} {H:View} {n:Nat} {v:V} {au:aM} {rd:List Nat} (h:sI P s T H n=some (v,au,rd)) :
  (qg P s=0->au=.none/\rd=[])/\(qg P s=1->au.wr=[]):=by
 have nn:∀ {v':V},some (v',aM.none,([]:List Nat))=some (v,au,rd)->au=.none/\rd=[]:=λe=>by
  simp only[OJ,OL] at e;exact⟨e.2.1.symm,e.2.2.symm⟩
 have mp:∀ {α:Type} {x:Option α} {f:α->V},(x.map λa=>(f a,aM.none,([]:List Nat)))=some (v,au,rd)->au=.none/\rd=[]:=by
  intro α x f h
  simp only[OQ] at h
  obtain⟨a,_,h⟩:=h
  simp only[OL] at h;exact⟨h.2.1.symm,h.2.2.symm⟩
 have nw:∀ {v':V} {o:bp} {r:List Nat},some (v',aM.new o,r)=some (v,au,rd)->au.wr=[]:=λe=>by
  simp only[OJ,OL] at e;rw[<-e.2.1];rfl
 have n1:∀ {v':V} {r:List Nat},some (v',aM.none,r)=some (v,au,rd)->au.wr=[]:=λe=>by
  simp only[OJ,OL] at e;rw[<-e.2.1];rfl
 unfold qg
 cases s <;> simp only[sI] at h
 case old op ty=>exact Ka (o:=oper op ty) h
 all_goals
  constructor <;> intro hk <;> first
   | (exfalso;revert hk;simp;done)
   | skip
 all_goals try simp only[sm,iY,vd,y6,np,xJ,vr,tV,IB,wE,yn] at h
 all_goals first
  | exact nn h
  | exact mp h
  | exact nw h
  | exact n1 h
  | skip
 all_goals repeat' (split at h)
 all_goals first
  | exact nn h
  | exact mp h
  | exact nw h
  | exact n1 h
  | (simp at h;done)
  | (simp only[OQ,OL] at h;obtain⟨_,_,_,rfl,_⟩:=h;rfl)
end Gv
