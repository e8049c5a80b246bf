/-
  Part 4 of the proof: what the machine does and what the functions answer.
  Conditions: those that each lemma names.
-/
import Derived.Test.YtiophifnkakjgaaGreatSGzC3C
set_option linter.unusedSimpArgs false
set_option linter.unusedVariables false
set_option maxRecDepth 100000
set_option maxHeartbeats 20000000
namespace Gv
open Go
inductive Tree:V->Prop
 | val (v:Value):Tree (.val v)
 | emp (k:Nat):Tree (.emp k)
 | dM:Tree .dM
 | aL (es:List (List V)):(∀ i j,i < es.length->j < (es.getD i []).length->Tree ((es.getD i []).getD j .any))->Tree (.aL es)
 | aN (e:List V) (j:Nat):(∀ k,k < e.length->Tree (e.getD k .any))->Tree (.aN e j)
 | fn (f:FuncId) (xs ys:List V):(∀ i,i < xs.length->Tree (xs.getD i .any))->(∀ i,i < ys.length->Tree (ys.getD i .any))->Tree (.fn f xs ys)
 | agg (cs:List V):(∀ i,i < cs.length->Tree (cs.getD i .any))->Tree (.agg cs)
 | aO (cs:List V):(∀ i,i < cs.length->Tree (cs.getD i .any))->Tree (.aO cs)
theorem vV {Z:Nat->Prop} {μ u:Mu} {hp:Array Obj} {v:V} {x:Value} (h:aw Z μ hp v x):Tree v->aw Z u hp v x:=by
 induction h with
 | any x=>intro t;exact .any x
 | val v w=>intro _;exact .val v w
 | emp k a h1 n=>intro _;exact .emp k a h1 n
 | dM a cap=>intro _;exact .dM a cap
 | iC a cap h1=>intro _;exact .iC a cap h1
 | aL es b off esz cap c o hle m p _ g =>
  intro t
  cases t with
  | aL _ l=>exact .aL es b off esz cap c o hle m p (λi j hi s=>g i j hi s (l i j hi (by rw[m i hi];exact s)))
 | oB id off esz a=>intro t;cases t
 | sl id off len esz b o0 cap c e f hm hle z A=>intro t;cases t
 | ptr id i j b o0 esz hm=>intro t;cases t
 | aN e j b off c o p _ g =>
  intro t
  cases t with
  | aN _ _ l=>exact .aN e j b off c o p (λk hk=>g k hk (l k hk))
 | mp id b o0 esz hm=>intro t;cases t
 | fn f xs ys d y h1 n _ _ q r =>
  intro t
  cases t with
  | fn _ _ _ t1 t2=>exact .fn f xs ys d y h1 n (λi hi=>q i hi (t1 i hi)) (λi hi=>r i hi (t2 i hi))
 | agg cs d h1 _ g =>
  intro t
  cases t with
  | agg _ l=>exact .agg cs d h1 (λi hi=>g i hi (l i hi))
 | aO cs d h1 _ g =>
  intro t
  cases t with
  | aO _ l=>exact .aO cs d h1 (λi hi=>g i hi (l i hi))
inductive Fr (h:Heap):V->V->Prop
 | tree (v:V):Tree v->Fr h v v
 | emp (k:Nat):Fr h (.emp k) (.aL [])
 | sl (id off len esz z:Nat) (es es':List (List V)):h.view id=.arr z es->off+len<=es.length->es'.length=len ->
  (∀ i,i < len->(es'.getD i []).length=(es.getD (off+i) []).length) ->
  (∀ i j,i < len->j < (es'.getD i []).length->Fr h ((es.getD (off+i) []).getD j .any) ((es'.getD i []).getD j .any))->Fr h (.sl id off len esz) (.aL es')
 | ptr (id i j z:Nat) (es:List (List V)) (e':List V):h.view id=.arr z es->i < es.length->e'.length=(es.getD i []).length ->
  (∀ k,k < e'.length->Fr h ((es.getD i []).getD k .any) (e'.getD k .any))->Fr h (.ptr id i j) (.aN e' j)
 | agg (cs cs':List V):cs'.length=cs.length->(∀ i,i < cs.length->Fr h (cs.getD i .any) (cs'.getD i .any))->Fr h (.agg cs) (.agg cs')
 | aO (cs cs':List V):cs'.length=cs.length->(∀ i,i < cs.length->Fr h (cs.getD i .any) (cs'.getD i .any))->Fr h (.aO cs) (.aO cs')
theorem CQ {h:Heap} {Z:Nat->Prop} {μ u:Mu} {F:View} {hp:Array Obj} (hr:dT Z μ hp (cat h F)) {v t:V} (fr:Fr h v t):∀ {x:Value},aw Z μ hp v x->aw (λb=>Z b∨jr μ b) u hp t x:=by
 have l:∀ id,h.view id≠.dead->cat h F id=h.view id:=λid H=>by simp only[cat];rw[Wv (eu H)]
 induction fr with
 | tree v I =>
  intro x d
  have h1:aw Z u hp v x:=vV d I
  exact h1.mono ⟨λ_ h=>.inl h,λ_ _=>rfl,λ_ _ h=>h,fu.refl _⟩
 | emp k=>intro x d;cases d with | emp _ a=>exact .iC a 0 (λ_=>rfl)
 | sl id off len esz z es es' hH hle hlen J _ o =>
  intro x d
  cases d with
  | oB _ _ _ a =>
   have:es'=[]:=XY.1 hlen
   subst this
   exact .iC a 0 (λ_=>rfl)
  | sl _ _ _ _ b o0 cap c e f hm G O P =>
   have g:=hr.obj id
   rw[l id (by rw[hH];simp),hH] at g
   obtain⟨rfl,_,K,L⟩:=g b o0 esz hm
   have d:∀ i,∃ ci:Nat->Value,∀ j,j < esz->i < len->cellAt hp b (o0+off * esz+i * esz+j)=some (ci j)/\aw Z μ hp ((es.getD (off+i) []).getD j .any) (ci j):=by
    intro i
    by_cases hi:i < len
    .obtain⟨ci,A⟩:=nG (n:=esz) (p:=λj x=>cellAt hp b (o0+off * esz+i * esz+j)=some x/\aw Z μ hp ((es.getD (off+i) []).getD j .any) x) (λj m=>by
      obtain⟨x,d,B⟩:=L (off+i) j (by omega) m
      rw[Xf,<-W7] at d
      exact⟨x,d,B⟩)
     exact⟨ci,λj m _=>A j m⟩
    .exact⟨λ_=>undef,λj _ h=>absurd h hi⟩
   obtain⟨M,q⟩:=Classical.axiomOfChoice d
   have r:∀ i,i < es'.length->(es'.getD i []).length=esz:=λi hi=>by rw[J i (by omega)];exact K _ (by omega)
   have:=aw.aL (Z:=λb=>Z b∨jr μ b) (μ:=u) (hp:=hp) es' b (o0+off * esz) esz cap M (.inr ⟨id,o0,esz,hm⟩) (by omega) r
    (λi j hi m=>(q i j m (by omega)).1) (λi j hi m=>o i j (by omega) (by rw[r i hi];exact m) (q i j m (by omega)).2)
   rw[hlen] at this
   exact this
 | ptr id i j z es e' hH hi hlen _ o =>
  intro x d
  obtain⟨b,o0,sz,hm,rfl⟩:=mY (w:={ (default:World) with heap:=hp }) d
  have g:=hr.obj id
  rw[l id (by rw[hH];simp),hH] at g
  obtain⟨rfl,s⟩:=rowOf (w:={ (default:World) with heap:=hp }) g hm hi
  refine zH (w:={ (default:World) with heap:=hp }) (.inr ⟨id,o0,sz,hm⟩) (λk hk=>?_)
  obtain⟨y,N,B⟩:=s k (by omega)
  exact⟨y,N,o k hk B⟩
 | agg cs C hlen _ o =>
  intro x d
  cases d with
  | agg _ D h1 E=>exact .agg _ _ (by omega) (λi hi=>o i (by omega) (E i (by omega)))
 | aO cs C hlen _ o =>
  intro x d
  cases d with
  | aO _ D h1 E=>exact .aO _ _ (by omega) (λi hi=>o i (by omega) (E i (by omega)))
def az (P:Program) (f:FuncId) (vs:List V) (t:V):Prop :=
 ∀ Z μ (w:World) (xs:List Value),fO Z μ w.heap vs xs->(∀ b,Z b->b < w.heap.size) ->
  Calls P f xs.toArray w λe w'=>∃ x Z',e=.returned x/\(∀ ν,aw Z' ν w'.heap t x)/\ep w w'/\(∀ b,Z b->Z' b)/\(∀ b,Z' b->Z b∨(w.heap.size<=b/\b < w'.heap.size))/\gh w.heap w'.heap (λ_=>False)
theorem C2 (F:View):cat [] F=F:=by funext id;simp[cat]
theorem az.vR {P:Program} {f:FuncId} {vs:List V} {r t:V} {l:Heap} (m:∀ v∈vs,Tree v) (n:bC P f vs [] r l) (p:Fr l r t):az P f vs t:=by
 intro Z μ w xs c q
 have d:fO Z (λ_=>none) w.heap vs xs:=⟨c.1,λi hi=>vV (c.2 i hi) (by
  simp only[Wo,Wp hi,WJ]
  exact m _ (WA _))⟩
 have g:dT Z (λ_=>none) w.heap (cat [] λ_=>.dead):=by
  rw[C2]
  exact⟨λ_=>trivial,λi j b o s A B _ h=>by simp at h,λid b o s h=>by simp at h,q,λid b o s h=>by simp at h⟩
 refine(n.2 Z _ _ w xs d g (λ_ _ _=>rfl)).mono ?_
 rintro e w' ⟨x,u,μ',rfl,y,k,hex,_⟩
 refine⟨x,λb=>u b∨jr μ' b,rfl,λC=>CQ k p y,hex.same,λb a=>.inl (hex.mono.z b a),?_,λb a _=>hex.frame b a (by rintro⟨_,_,_,h⟩;simp at h)⟩
 rintro b (a | ⟨id,o,s,a⟩)
 .rcases hex.RZ b a with h1 | h1
  .exact .inl h1
  .exact .inr ⟨h1,k.cw b a⟩
 .rcases hex.Cm _ _ _ _ a with h1 | ⟨_,h1 | ⟨_,_,_,h1⟩⟩
  .simp at h1
  .exact .inr ⟨h1,k.lt _ _ _ _ a⟩
  .simp at h1
theorem bC.gn {P:Program} {f:FuncId} {vs:List V} {t:V} (n:az P f vs t) (h:Heap):bC P f vs h t h:=by
 refine⟨Wz _,λZ μ F w xs g hr j=>(n Z μ w xs g hr.cw).mono ?_⟩
 rintro e w' ⟨x,m,rfl,p,k,q,a,i⟩
 have hm:ia Z m μ μ w.heap w'.heap:=⟨q,λb c=>i b (hr.cw b c) (λx=>x),λ_ _ h=>h,i.kU⟩
 refine⟨x,m,μ,rfl,p μ,⟨λid=>(hr.obj id).mono hm rfl (λb o s d=>i b (hr.lt _ _ _ _ d) (λx=>x)),hr.inj,λid b o s d=>W4 (hr.lt _ _ _ _ d) k.size,λb c=>?_,λid b o s d l=>?_⟩,
  ⟨k,hm,λb c _=>i b c (λx=>x),λb c=>?_,λ_ _ _ _ h=>.inl h⟩,λ_ _=>rfl⟩
 .rcases a b c with h1 | h1
  .exact W4 (hr.cw b h1) k.size
  .exact h1.2
 .rcases a b l with h1 | h1
  .exact hr.gR _ _ _ _ d h1
  .have:=hr.lt _ _ _ _ d;omega
 .rcases a b c with h1 | h1
  .exact .inl h1
  .exact .inr h1.1
def DQ (l:List Nat) (x:Nat):Bool:=!l.contains x
def De (a b:Rec):Bool :=
 a.wr.all (DQ b.rd) && b.wr.all (DQ a.rd) && (!a.call || b.wr.isEmpty) && (!b.call || a.wr.isEmpty) && b.wr.all λid=>!(decide (a.lo<=id) && decide (id < a.hi))
section
variable {P:Program} {n:Nat}
theorem Pr {a b:Rec} (h:De a b=true):nE a b:=by
 unfold De at h
 simp only[WC,WU,DQ,Yt,Yc] at h
 obtain⟨⟨⟨⟨h1,g⟩,e⟩,f⟩,i⟩:=h
 refine⟨λid d hm=>?_,λid d hm=>?_,λc=>?_,λc=>?_,λid d hm=>?_⟩
 .have:=h1 id d;simp at this;exact this hm
 .have:=g id d;simp at this;exact this hm
 .rcases e with e | e
  .rw[c] at e;simp at e
  .simpa using e
 .rcases f with f | f
  .rw[c] at f;simp at f
  .simpa using f
 .have:=i id d
  simp at this
  omega
end
inductive SX where
 | tmp (t:Nat)
 | val (v:V)
 deriving Inhabited
def SX.of:Operand->SX
 | .tmp t=>.tmp t
 | .const v=>.val (fA v)
 | .global _=>.val .any
 | .func f=>.val (.fn f [] [])
def SX.at (T:Env):SX->V
 | .tmp t=>T t
 | .val v=>v
theorem SX.cx (T:Env) (x:Operand):(SX.of x).at T=ev T x:=by cases x <;> rfl
inductive SI where
 | dX (x:SX)
 | pick (c a b:SX)
 | box (x:SX)
 | jL (x:SX)
 | alloc (z:List V)
 | build (z:List V) (parts:List (Nat × Nat × SX))
 | bS (len sz:Nat) (z:List V) (parts:List (Nat × SX))
 | load (sz:Option Nat) (a:SX)
 | zr (sz:Option Nat) (a:SX)
 | store (sz:Nat) (a x:SX)
 | AA (x:SX)
 | addr (off:Nat) (x:SX)
 | field (off:Nat) (sz:Option Nat) (x:SX)
 | idx (sz:Nat) (x i:SX)
 | slice (sz:Nat) (x:SX) (lo hi:Option SX)
 | make (sz bytes:Nat) (z:List V) (l c:SX)
 | oo
 | qH (f:FuncId) (first cap:List SX)
 | ext (i:Nat) (x:SX)
 | len (x:SX)
 | pr (x:SX)
 | app (sz bytes:Nat) (x y:SX)
 | arith (op:BinOp) (x y:SX)
 | sh (left:Bool) (x y:SX)
 | yo (op:BinOp) (x y:SX)
 | iF (x i:SX)
 | not (x:SX)
 | nil (eq:Bool) (k:Nat) (x y:SX)
 | beq (eq:Bool) (x y:SX)
 | mm (mx:Bool) (x y:SX)
 | conv (k:IntKind) (x:SX)
 | DI (x:SX)
 | gu (x:SX)
 | old (op:Op) (ty:TypeId)
 deriving Inhabited
def mA:Option Nat->List V->Nat->Option V
 | some n,cs,off=>if off+n<=cs.length then some (.agg ((cs.drop off).take n)) else none
 | none,cs,off=>if off < cs.length then some (cs.getD off .any) else none
def vD (sz:Option Nat) (a:V) (H:View):Out:=match a with
 | .ptr id i j=>match H id with
  | .arr _ es=>if i < es.length then (mA sz (es.getD i []) j).map λv=>(v,.none,[id]) else none
  | _=>none
 | .aN e j=>(mA sz e j).map λv=>(v,.none,[])
 | _=>none
def By (sz:Nat) (a v:V) (H:View):Out:=match a with
 | .ptr id i j=>match H id with
  | .arr esz es =>
   if i < es.length/\v.cells.length=sz/\j+v.cells.length<=esz/\v.cells.all aE=true
   then some (.any,.eP id (.arr esz (es.set i (fp (es.getD i []) j v.cells))),[id]) else none
  | _=>none
 | _=>none
def lY (z:List V) (parts:List (Nat × Nat × V)):Option (List V):=match parts with
 | []=>some z
 | (off,size,x) :: r=>if x.cells.length=size/\off+size<=z.length/\x.cells.all aE=true then lY (fp z off x.cells) r else none
def zx (len sz:Nat) (z:List V) (parts:List (Nat × V)) (n:Nat):Out :=
 match lK sz (List.replicate len z) parts with
 | some es=>some (.sl n 0 len sz,.new (.arr sz es),[])
 | none=>none
def zE (off:Nat) (x:V):Out:=match x with
 | .ptr id i j=>some (.ptr id i (j+off),.none,[])
 | .aN e j=>some (.aN e (j+off),.none,[])
 | _=>none
def DU (sz:Nat) (x i:V):Out:=match asNat i with
 | none=>none
 | some q=>match x with
  | .sl id off len esz=>if q < len/\esz=sz then some (.ptr id (off+q) 0,.none,[]) else none
  | .aL es=>if q < es.length/\(es.getD q []).length=sz then some (.aN (es.getD q []) 0,.none,[]) else none
  | _=>none
def cY (sz:Nat) (x:V) (lo hi:Option V):Out:=match x with
 | .sl id off len esz=>match bound 0 lo,bound len hi with
  | some l,some h=>if l<=h/\h<=len/\esz=sz then some (.sl id (off+l) (h - l) esz,.none,[]) else none
  | _,_=>none
 | .aL es=>match bound 0 lo,bound es.length hi with
  | some l,some h=>if l<=h/\h<=es.length/\(es.all λe=>e.length == sz)=true then some (.aL ((es.drop l).take (h - l)),.none,[]) else none
  | _,_=>none
 | .emp k=>match bound 0 lo,bound 0 hi with
  | some 0,some 0=>some (.emp k,.none,[])
  | _,_=>none
 | _=>none
def CH (sz bytes:Nat) (z:List V) (len cap:V) (n:Nat):Out:=match asNat len,asNat cap with
 | some l,some c =>
  if l<=c/\c < aD/\bytes * c < aD then
   (if c=0 then some (.emp 2,.none,[]) else some (.sl n 0 l sz,.new (.arr sz (List.replicate l z)),[]))
  else none
 | _,_=>none
def HL (sz bytes:Nat) (s x:V) (H:View) (n:Nat):Out:=match bD H x with
 | some (xs,rd) =>
  if xs.isEmpty then (match s with
   | .emp _ | .dM | .aL _ | .sl _ _ _ _=>some (s,.none,[])
   | _=>none)
  else if ¬ ((xs.all λe=>e.length == sz && e.all aE)=true) then none
  else match s with
   | .emp _=>if xs.length * bytes < aD/\xs.length < aD then some (.sl n 0 xs.length sz,.new (.arr sz xs),rd) else none
   | .sl id off len esz=>match H id with
    | .arr _ es =>
     if off+len<=es.length/\esz=sz/\(len+xs.length) * bytes < aD/\len+xs.length < aD
     then some (.sl n 0 (len+xs.length) esz,.dX id (.arr esz ((es.drop off).take len ++ xs)),id :: rd) else none
    | _=>none
   | _=>none
 | none=>none
def ik (op:BinOp) (k:IntKind) (a b:Int):Option Value:=match op with
 | .add=>some (.int k (k.wrap (a+b)))
 | .sub=>some (.int k (k.wrap (a - b)))
 | .mul=>some (.int k (k.wrap (a * b)))
 | .quo=>if b=0 then none else some (.int k (k.wrap (a.tdiv b)))
 | .rem=>if b=0 then none else some (.int k (a.tmod b))
 | .eql=>some (.bool (a == b))
 | .neq=>some (.bool (a != b))
 | .lss=>some (.bool (a < b))
 | .leq=>some (.bool (a<=b))
 | .gtr=>some (.bool (a > b))
 | .geq=>some (.bool (a≥b))
 | .or=>some (.int k (k.wrap (BitVec.ofInt k.bits a ||| BitVec.ofInt k.bits b).toNat))
 | .and=>some (.int k (k.wrap (BitVec.ofInt k.bits a &&& BitVec.ofInt k.bits b).toNat))
 | .xor=>some (.int k (k.wrap (BitVec.ofInt k.bits a ^^^ BitVec.ofInt k.bits b).toNat))
 | .andNot=>some (.int k (k.wrap (BitVec.ofInt k.bits a &&& ~~~(BitVec.ofInt k.bits b)).toNat))
 | _=>none
def zb (op:BinOp) (x y:V):Out:=match x,y with
 | .val (.int k a),.val (.int k' b)=>if k=k' then (ik op k a b).map λv=>(.val v,.none,[]) else none
 | _,_=>none
def Lr (left:Bool) (k:IntKind) (a b:Int):Int:=if left then k.wrap (a * 2 ^ (min b.toNat k.bits)) else a.fdiv (2 ^ (min b.toNat k.bits))
def Nh (left:Bool) (x y:V):Out:=match x,y with
 | .val (.int k a),.val (.int _ b)=>if b < 0 then none else some (.val (.int k (Lr left k a b)),.none,[])
 | _,_=>none
def Qp:BinOp->Option Bool
 | .shl=>some true
 | .shr=>some false
 | _=>none
def iX (a b:ByteArray):Bool:=a.data.toList == b.data.toList
def A7 (op:BinOp) (x y:V):Out:=match x,y with
 | .val (.string a),.val (.string b)=>match op with
  | .eql=>some (.val (.bool (iX a b)),.none,[])
  | .neq=>some (.val (.bool (!iX a b)),.none,[])
  | _=>none
 | _,_=>none
def Cj (x i:V):Out:=match x,asNat i with
 | .val (.string s),some q=>match s.data.toList[q]? with
  | some b=>some (.val (.int .u8 b.toNat),.none,[])
  | none=>none
 | _,_=>none
def AN:Option Bool->Option Bool->Option Bool
 | some true,some b=>some b
 | some b,some true=>some b
 | _,_=>none
theorem Kv {P:Program} {t:TypeId} {k:Nat} (h:jK P t=some k) (x y:V):Dm P t x y=AN (eX k x) (eX k y):=by
 simp only[Dm,h]
 unfold AN
 split <;> simp_all
def oper (op:Op) (ty:TypeId):Oper:=⟨none,op,ty,"",#[],none⟩
theorem Rm (P:Program) (o:Oper) (T:Env) (H:View) (n:Nat):bR P (oper o.op o.type) T H n=bR P o T H n:=by
 cases o;rfl
def sI (P:Program) (s:SI) (T:Env) (H:View) (n:Nat):Out:=match s with
 | .dX x=>some (x.at T,.none,[])
 | .pick c a b=>match c.at T with
  | .val (.bool t)=>some (if t then a.at T else b.at T,.none,[])
  | _=>none
 | .box x=>lU (x.at T).cells n
 | .jL x=>if (x.at T).cells.all aE=true then some (.aN (x.at T).cells 0,.none,[]) else none
 | .alloc z=>lU z n
 | .build z parts=>(lY z (parts.map λ(a,b,x)=>(a,b,x.at T))).map λcs=>(.agg cs,.none,[])
 | .bS len sz z parts=>zx len sz z (parts.map λ(i,x)=>(i,x.at T)) n
 | .load sz a=>vD sz (a.at T) H
 | .zr sz a=>match a.at T with
  | .aN e j=>(mA sz e j).map λv=>(v,.none,[])
  | _=>none
 | .store sz a x=>By sz (a.at T) (x.at T) H
 | .AA x=>match x.at T with
  | .ptr id i j=>some (.ptr id i j,.none,[])
  | .aN e j=>some (.aN e j,.none,[])
  | .fn f a b=>some (.fn f a b,.none,[])
  | _=>none
 | .addr off x=>zE off (x.at T)
 | .field off sz x=>match x.at T with
  | .agg cs=>(mA sz cs off).map λv=>(v,.none,[])
  | _=>none
 | .idx sz x i=>DU sz (x.at T) (i.at T)
 | .slice sz x lo hi=>cY sz (x.at T) (lo.map (SX.at T)) (hi.map (SX.at T))
 | .make sz bytes z l c=>CH sz bytes z (l.at T) (c.at T) n
 | .oo=>some (.mp n,.new (.map [] 0),[])
 | .qH f first cap=>some (.fn f (first.map (SX.at T)) (cap.map (SX.at T)),.none,[])
 | .ext i x=>match x.at T with
  | .aO vs=>if i < vs.length then some (vs.getD i .any,.none,[]) else none
  | _=>none
 | .len x=>(cT (x.at T)).map λn=>(bU n,.none,[])
 | .pr x=>match x.at T with
  | .val (.string s)=>some (bU s.size,.none,[])
  | _=>none
 | .app sz bytes x y=>HL sz bytes (x.at T) (y.at T) H n
 | .arith op x y=>zb op (x.at T) (y.at T)
 | .sh l x y=>Nh l (x.at T) (y.at T)
 | .yo op x y=>A7 op (x.at T) (y.at T)
 | .iF x i=>Cj (x.at T) (i.at T)
 | .not x=>match x.at T with
  | .val (.bool t)=>some (.val (.bool (!t)),.none,[])
  | _=>none
 | .nil eq k x y=>match AN (eX k (x.at T)) (eX k (y.at T)) with
  | some b=>some (.val (.bool (if eq then b else !b)),.none,[])
  | none=>none
 | .beq eq x y=>match x.at T,y.at T with
  | .val (.bool a),.val (.bool b)=>some (.val (.bool (if eq then a == b else a != b)),.none,[])
  | _,_=>none
 | .mm mx x y=>match x.at T,y.at T with
  | .val (.int k a),.val (.int _ b)=>some (.val (.int k (if mx then (if b > a then b else a) else (if b < a then b else a))),.none,[])
  | _,_=>none
 | .conv k x=>match x.at T with
  | .val (.int _ a)=>some (.val (.int k (k.wrap a)),.none,[])
  | _=>none
 | .DI x=>match x.at T with
  | .aL es=>(ll es).map λl=>(.val (.string ⟨l.toArray⟩),.none,[])
  | _=>none
 | .gu x=>match x.at T with
  | .val (.string s)=>some (.aL (gN s),.none,[])
  | _=>none
 | .old op ty=>bR P (oper op ty) T H n
def Cc (P:Program) (t:TypeId):Option (Option Nat):=match P.info? t,rC P t with
 | some i,some true=>some (some i.size)
 | some _,some false=>some none
 | _,_=>none
theorem wv {P:Program} {t:TypeId} {k:Option Nat} (h:Cc P t=some k) (cs:List V) (j:Nat):pJ P t cs j=mA k cs j:=by
 unfold Cc at h
 split at h
 .rename_i i h1 a
  simp at h;subst h;simp[pJ,h1,a,mA]
 .rename_i i h1 a
  simp at h;subst h;simp[pJ,h1,a,mA]
 .simp at h
def og (P:Program) (t:TypeId):Option (Nat × Nat × List V):=match cr P t with
 | some e=>match P.info? e,zeroCells P e with
  | some ti,some z=>if z.length=ti.size/\z.all aE=true/\ti.size≠0 then some (ti.size,ti.bytes,z) else none
  | _,_=>none
 | none=>none
theorem kg {P:Program} {t:TypeId} {sz a:Nat} {z:List V} (h:og P t=some (sz,a,z)) :
  ∃ e ti,cr P t=some e/\P.underlying t=some (.slice e)/\P.info? e=some ti/\zeroCells P e=some z/\z.length=ti.size/\z.all aE=true/\ti.size≠0/\sz=ti.size/\a=ti.bytes:=by
 unfold og at h
 split at h
 .rename_i e he
  split at h
  .rename_i ti f h1 c
   split at h
   .rename_i b
    simp at h
    obtain⟨rfl,rfl,rfl⟩:=h
    have hu:P.underlying t=some (.slice e):=by
     unfold cr at he;split at he
     .rename_i d;simp at he;subst he;exact d
     .simp at he
    exact⟨e,ti,he,hu,h1,c,b.1,b.2.1,b.2.2,rfl,rfl⟩
   .simp at h
  .simp at h
 .simp at h
def uC (P:Program) (t:TypeId):List (Nat × Operand)->Option (List (Nat × Nat × SX))
 | []=>some []
 | (i,x) :: r=>match placeOf P t i,uC P t r with
  | some (a,b),some l=>some ((a,b,SX.of x) :: l)
  | _,_=>none
def comp (P:Program) (o:Oper):SI:=match o.op with
 | .move x | .assign x=>.dX (SX.of x)
 | .pick c a b=>.pick (SX.of c) (SX.of a) (SX.of b)
 | .alloc e=>match zeroCells P e with
  | some z=>.alloc z
  | none=>.old o.op o.type
 | .box _ x=>.box (SX.of x)
 | .load t a=>match Cc P t with
  | some k=>.load k (SX.of a)
  | none=>.old o.op o.type
 | .store t a v=>match P.info? t with
  | some _=>.store (P.cellsOf t) (SX.of a) (SX.of v)
  | none=>.old o.op o.type
 | .nilCheck x=>.AA (SX.of x)
 | .fieldAddr t x f=>match pA P t f with
  | some (off,s,_)=>if s=0 then .old o.op o.type else .addr off (SX.of x)
  | none=>.old o.op o.type
 | .field t x f=>match pA P t f with
  | some (off,_,ft)=>match Cc P ft with
   | some k=>.field off k (SX.of x)
   | none=>.old o.op o.type
  | none=>.old o.op o.type
 | .indexAddr t x i=>match og P t with
  | some (sz,_,_)=>.idx sz (SX.of x) (SX.of i)
  | none=>.old o.op o.type
 | .slice t x lo hi none=>match og P t with
  | some (sz,_,_)=>.slice sz (SX.of x) (lo.map SX.of) (hi.map SX.of)
  | none=>.old o.op o.type
 | .makeSlice t l c=>match og P t with
  | some (sz,b,z)=>.make sz b z (SX.of l) (SX.of c)
  | none=>.old o.op o.type
 | .makeMap _ none=>.oo
 | .makeFunc (.func f) first cap=>.qH f (first.toList.map SX.of) (cap.toList.map SX.of)
 | .extract t i=>.ext i (SX.of t)
 | .build t parts=>match P.underlying t,zeroV P t with
  | some (.struct _),some (.agg z)=>if ml P t=true then
    (match uC P t parts.toList with
    | some ps=>.build z ps
    | none=>.old o.op o.type) else .old o.op o.type
  | _,_=>.old o.op o.type
 | .buildSlice t len parts=>match og P t with
  | some (sz,_,z)=>if len=0/\parts.toList.isEmpty=true then .dX (.val (.emp 2)) else if len * sz<=2 ^ 24/\len≠0 then .bS len sz z (parts.toList.map λ(i,x)=>(i,SX.of x)) else .old o.op o.type
  | none=>.old o.op o.type
 | .call { callee:=.builtin b,args,argTypes }=>match b,args.toList with
  | .len,[x]=>if 1<=argTypes.size then (match P.underlying (argTypes.getD 0 0) with
   | some (.slice _)=>.len (SX.of x)
   | some .string=>.pr (SX.of x)
   | _=>.old o.op o.type) else .old o.op o.type
  | .append,[s,x]=>if 2<=argTypes.size/\oe P (argTypes.getD 1 0)=true then (match og P (argTypes.getD 0 0) with
   | some (sz,b,_)=>.app sz b (SX.of s) (SX.of x)
   | none=>.old o.op o.type) else .old o.op o.type
  | .min,[x,y]=>.mm false (SX.of x) (SX.of y)
  | .max,[x,y]=>.mm true (SX.of x) (SX.of y)
  | _,_=>.old o.op o.type
 | .convert s d x=>match P.underlying s,P.underlying d with
  | some (.int _),some (.int k)=>.conv k (SX.of x)
  | _,_=>.old o.op o.type
 | .binOp op t x y _=>match jK P t with
  | some k=>match op with
   | .eql=>.nil true k (SX.of x) (SX.of y)
   | .neq=>.nil false k (SX.of x) (SX.of y)
   | _=>.old o.op o.type
  | none=>match P.underlying t with
   | some (.int _)=>match Qp op with
    | some l=>.sh l (SX.of x) (SX.of y)
    | none=>.arith op (SX.of x) (SX.of y)
   | some .string=>.yo op (SX.of x) (SX.of y)
   | some .bool=>match op with
    | .eql=>.beq true (SX.of x) (SX.of y)
    | .neq=>.beq false (SX.of x) (SX.of y)
    | _=>.old o.op o.type
   | _=>.old o.op o.type
 | .unOp .not _ x=>.not (SX.of x)
 | .index t x i=>match P.underlying t with
  | some .string=>.iF (SX.of x) (SX.of i)
  | _=>.old o.op o.type
 | _=>.old o.op o.type
theorem Fc {P:Program} {t:TypeId} {T:Env} : ∀ (parts:List (Nat × Operand)) (c:List (Nat × Nat × SX)) (z:List V),uC P t parts=some c ->
  vq (placeOf P t) z (parts.map λ(i,x)=>(i,ev T x))=lY z (c.map λ(a,b,x)=>(a,b,x.at T))
 | [],c,z,h=>by simp[uC] at h;subst h;rfl
 | (i,x) :: r,c,z,h=>by
  simp only[uC] at h
  split at h
  .rename_i a b l h1 d
   simp at h;subst h
   simp only[WZ,vq,h1,lY,SX.cx]
   split
   .exact Fc r l _ d
   .rfl
  .simp at h
theorem Jl {P:Program} {o:Oper} {T:Env} {op:BinOp} {t u:TypeId} {x y:Operand} {k:IntKind} {a b:Int} {r:Value} (c:o.op=.binOp op t x y u) (d:ev T x=.val (.int k a)) (e:ev T y=.val (.int k b)) (h:ik op k a b=some r) :
  dI P o T=some (.val r,.none,[]):=by
 unfold dI
 simp only[c,Op.operands]
 simp only[d,e,cO]
 cases op <;> simp only[ik,Wu,reduceCtorEq] at h
 all_goals first
  | (
   split at h
   .simp at h
   .rename_i f
    simp at h;subst h
    simp[execOp,c,d,e,cO,eqGuard,binOp,Op.intDiv,f,plain]
    try rfl)
  | (subst h;simp[execOp,c,d,e,cO,eqGuard,binOp,Op.intArith,Op.intCmp,Op.intBits,plain];try rfl)
theorem QW {P:Program} {o:Oper} {T:Env} {op:BinOp} {t u:TypeId} {x y:Operand} {l:Bool} {v:V} {eff:aS} {rd:List Nat} (c:o.op=.binOp op t x y u) (d:Qp op=some l) (h:Nh l (ev T x) (ev T y)=some (v,eff,rd)) :
  dI P o T=some (v,eff,rd):=by
 unfold Nh at h
 split at h
 .rename_i k a i b e f
  split at h
  .simp at h
  .rename_i g
   simp only[Wu,Wx] at h
   obtain⟨rfl,rfl,rfl⟩:=h
   unfold dI
   simp only[c,Op.operands]
   simp only[e,f,cO]
   cases op <;> simp only[Qp,Wu,reduceCtorEq] at d
   all_goals
    subst d
    simp[execOp,c,e,f,cO,eqGuard,binOp,Op.shift,g,plain,Lr]
    try rfl
 .simp at h
theorem Pg {P:Program} {o:Oper} {T:Env} {op:BinOp} {t u:TypeId} {x y:Operand} {v:V} {eff:aS} {rd:List Nat} (c:o.op=.binOp op t x y u) (h:A7 op (ev T x) (ev T y)=some (v,eff,rd)) :
  dI P o T=some (v,eff,rd):=by
 unfold A7 at h
 split at h
 .rename_i a b d e
  unfold dI
  simp only[c,Op.operands,d,e,cO]
  have he:(a.toList == b.toList)=iX a b:=by simp[iX,ByteArray.toList_eq]
  split at h
  .simp at h;obtain⟨rfl,rfl,rfl⟩:=h
   simp[execOp,c,d,e,cO,eqGuard,binOp,Op.stringOp,plain,<-he];rfl
  .simp at h;obtain⟨rfl,rfl,rfl⟩:=h
   simp[execOp,c,d,e,cO,eqGuard,binOp,Op.stringOp,plain,<-he];rfl
  .simp at h
 .simp at h
theorem MI {P:Program} {o:Oper} {T:Env} {t:TypeId} {x i:Operand} {v:V} {eff:aS} {rd:List Nat} (e:o.op=.index t x i) (hu:P.underlying t=some .string) (h:Cj (ev T x) (ev T i)=some (v,eff,rd)) :
  dI P o T=some (v,eff,rd):=by
 unfold Cj at h
 split at h
 .rename_i s q f a
  split at h
  .rename_i b m
   simp at h;obtain⟨rfl,rfl,rfl⟩:=h
   unfold asNat at a
   split at a
   .rename_i k z g
    split at a
    .rename_i j
     simp at a;subst a
     have l:s[z.toNat]?=some b:=by
      obtain⟨c,rfl⟩:=Wy.1 m
      have d:z.toNat < s.size:=by rw[bsize] at c;exact c
      rw[getElem?_pos s z.toNat d]
      rfl
     unfold dI
     simp only[e,Op.operands,f,g,cO]
     simp[execOp,e,f,g,cO,Instr.index,asIntOf,underlying,program,hu,j,l,plain]
     simp[aP,hu,j,l,plain,bind,Sem.bind,pure]
     rfl
    .simp at a
   .simp at a
  .simp at h
 .simp at h
theorem OI {P:Program} {o:Oper} {T:Env} {t:TypeId} {x:Operand} {b:Bool} (a:o.op=.unOp .not t x) (c:ev T x=.val (.bool b)) :
  dI P o T=some (.val (.bool (!b)),.none,[]):=by
 unfold dI
 simp only[a,Op.operands,c,cO]
 simp[execOp,a,c,cO,Op.unary,plain]
 rfl
theorem jj {α β:Type} (P:Program) (s:Sem α) (f:α->β):aP P (Functor.map f s)=(aP P s).map f:=by
 show aP P (s >>= λa=>pure (f a))=_
 rw[aI]
 cases aP P s <;> rfl
theorem cU {P:Program} {t:TypeId} {d:TypeDesc} (h:P.underlying t=some d):aP P (underlying t)=some d:=by
 simp only[underlying,program,aI]
 simp[aP,h]
 rfl
theorem xh {P:Program} {t:TypeId} {a b:Bool} (hu:P.underlying t=some .bool):aP P (Op.equal t (.bool a) (.bool b))=some (a == b):=by
 rw[j9]
 generalize 9999=d
 simp only[Op.equalIn,aI,cU hu,WV]
 rfl
theorem Ed {P:Program} {o:Oper} {T:Env} {op:BinOp} {t u:TypeId} {x y:Operand} {a b:Bool} {r:Bool} (c:o.op=.binOp op t x y u) (hu:P.underlying t=some .bool) (d:ev T x=.val (.bool a)) (e:ev T y=.val (.bool b))
  (hr:(op=.eql/\r=(a == b))∨(op=.neq/\r=(a != b))) :
  dI P o T=some (.val (.bool r),.none,[]):=by
 unfold dI
 simp only[c,Op.operands,d,e,cO]
 rcases hr with ⟨rfl,rfl⟩ | ⟨rfl,rfl⟩
 .simp[execOp,c,d,e,cO,eqGuard,binOp,jj,aI,xh hu,plain]
  try simp[aP,pure,plain]
 .simp[execOp,c,d,e,cO,eqGuard,binOp,jj,aI,xh hu,plain]
  try simp[aP,pure,plain,bne]
theorem ML {P:Program} {o:Oper} {T:Env} {s d:TypeId} {x:Operand} {f k b:IntKind} {a:Int} (c:o.op=.convert s d x) (g:P.underlying s=some (.int f)) (h:P.underlying d=some (.int k)) (e:ev T x=.val (.int b a)) :
  dI P o T=some (.val (.int k (k.wrap a)),.none,[]):=by
 unfold dI
 simp only[c,Op.operands,e,cO]
 have:aP P (convert s d (.int b a))=some (.int k (k.wrap a)):=by
  simp only[convert,aI,cU g,cU h,WV]
  rfl
 simp[execOp,c,e,cO,jj,this,plain]
theorem Iu {P:Program} {o:Oper} {T:Env} {bi:Builtin} {x y:Operand} {k d:IntKind} {a b:Int} {args:Array Operand} {c:Array TypeId} {r:Int} (e:o.op=.call { callee:=.builtin bi,args:=args,argTypes:=c }) (h:args.toList=[x,y])
  (f:ev T x=.val (.int k a)) (g:ev T y=.val (.int d b)) (hr:(bi=.max/\r=if b > a then b else a)∨(bi=.min/\r=if b < a then b else a)) :
  dI P o T=some (.val (.int k r),.none,[]):=by
 obtain rfl:args = #[x,y]:=by rw[<-Array.toArray_toList (xs:=args),h]
 unfold dI
 rcases hr with ⟨rfl,rfl⟩ | ⟨rfl,rfl⟩
 .have:aP P (Builtin.max_ c o.type #[.int k a,.int d b])=some (.int k (if b > a then b else a)):=rfl
  simp[e,Op.operands,Call.operands,f,g,cO,execOp,resolve,invoke,builtin,jj,this,plain]
 .have:aP P (Builtin.min_ c o.type #[.int k a,.int d b])=some (.int k (if b < a then b else a)):=rfl
  simp[e,Op.operands,Call.operands,f,g,cO,execOp,resolve,invoke,builtin,jj,this,plain]
theorem CI (l:List Operand) (T:Env):(l.map SX.of).map (SX.at T)=l.map (ev T):=by
 rw[List.map_map];congr 1;funext x;exact SX.cx T x
theorem S4 (l:Option Operand) (T:Env):(l.map SX.of).map (SX.at T)=l.map (ev T):=by
 cases l <;> simp[SX.cx]
theorem Tv (l:List (Nat × Operand)) (T:Env):(l.map λ(i,x)=>(i,SX.of x)).map (λ(i,x)=>(i,SX.at T x))=l.map λ(i,x)=>(i,ev T x):=by
 rw[List.map_map];congr 1;funext x;simp[SX.cx]
theorem La {P:Program} {o:Oper} {T:Env} {H:View} {n:Nat} {v:V} {eff:aS} {rd:List Nat} (h:sI P (comp P o) T H n=some (v,eff,rd)) :
  bR P o T H n=some (v,eff,rd):=by
 have old:∀ {s:SI},s=.old o.op o.type->sI P s T H n=some (v,eff,rd)->bR P o T H n=some (v,eff,rd):=λe h=>by rw[e] at h;simp only[sI,Rm] at h;exact h
 unfold comp at h
 split at h
 .rename_i x g;simp only[sI,SX.cx] at h;simp only[bR,g];exact h
 .rename_i x g;simp only[sI,SX.cx] at h;simp only[bR,g];exact h
 .rename_i c a b g;simp only[sI,SX.cx] at h;simp only[bR,g];exact h
 .rename_i e g
  split at h
  .rename_i z R;simp only[sI] at h;simp only[bR,g,R];exact h
  .exact old rfl h
 .rename_i t x g;simp only[sI,SX.cx] at h;simp only[bR,g];exact h
 .rename_i t a g
  split at h
  .rename_i k hk
   simp only[sI,SX.cx,vD] at h
   simp only[bR,g,mC,wv hk]
   exact h
  .exact old rfl h
 .rename_i t a x g
  split at h
  .rename_i ti S
   simp only[sI,SX.cx,By] at h
   simp only[bR,g,qv,S,Option.isSome_some,and_true]
   exact h
  .exact old rfl h
 .rename_i x g;simp only[sI,SX.cx] at h;simp only[bR,g];exact h
 .rename_i t x f g
  split at h
  .rename_i off s ft I
   split at h
   .exact old rfl h
   .rename_i N
    simp only[sI,SX.cx,zE] at h
    simp only[bR,g,lC,I,N,if_false]
    exact h
  .exact old rfl h
 .rename_i t x f g
  split at h
  .rename_i off s ft I
   split at h
   .rename_i k hk
    simp only[sI,SX.cx] at h
    simp only[bR,g,ui,I]
    split at h
    .rename_i cs U;simp only[U,wv hk];exact h
    .simp at h
   .exact old rfl h
  .exact old rfl h
 .rename_i t x i g
  split at h
  .rename_i sz b z hk
   obtain⟨e,ti,h1,J,w,D,K,O,L,rfl,rfl⟩:=kg hk
   simp only[sI,SX.cx,DU] at h
   simp only[bR,g,lx,J,w]
   exact h
  .exact old rfl h
 .rename_i t x lo hi g
  split at h
  .rename_i sz b z hk
   obtain⟨e,ti,h1,J,w,D,K,O,L,rfl,rfl⟩:=kg hk
   simp only[sI,SX.cx,S4] at h
   simp only[bR,g]
   have q:r5 P t (ev T x) (lo.map (ev T)) (hi.map (ev T)) none=some (v,eff,rd):=by
    simp only[r5,h1,w]
    unfold cY at h
    split at h
    .rename_i p;rw[p];exact h
    .rename_i p;rw[p];exact h
    .rename_i p;rw[p];exact h
    .simp at h
   unfold cY at h
   split at h
   .rename_i p;rw[p] at q ⊢;exact q
   .rename_i p;rw[p] at q ⊢;exact q
   .rename_i p;rw[p] at q ⊢;exact q
   .simp at h
  .exact old rfl h
 .rename_i t l c g
  split at h
  .rename_i sz b z hk
   obtain⟨e,ti,h1,J,w,D,K,O,L,rfl,rfl⟩:=kg hk
   simp only[sI,SX.cx,CH] at h
   simp only[bR,g,lP,h1,w]
   split at h
   .rename_i l' c' hl G
    simp only[hl,G,L,if_false,D,K,O,and_self,if_true]
    exact h
   .simp at h
  .exact old rfl h
 .rename_i t g;simp only[sI] at h;simp only[bR,g];exact h
 .rename_i f first cap g;simp only[sI,CI] at h;simp only[bR,g];exact h
 .rename_i t i g;simp only[sI,SX.cx] at h;simp only[bR,g];exact h
 .rename_i t parts g
  split at h
  .rename_i fs z h1 J
   split at h
   .rename_i w
    split at h
    .rename_i ps D
     simp only[sI] at h
     simp only[bR,g,uY,h1,J,w,if_true]
     have:=Fc (T:=T) parts.toList ps z D
     rw[this]
     exact h
    .exact old rfl h
   .exact old rfl h
  .exact old rfl h
 .rename_i t len parts g
  split at h
  .rename_i sz b z hk
   obtain⟨e,ti,h1,J,w,D,K,O,L,rfl,rfl⟩:=kg hk
   split at h
   .rename_i G
    obtain⟨rfl,G⟩:=G
    simp only[sI,SX.at] at h
    simp only[bR,g,ix,h1,w]
    rw[List.isEmpty_iff] at G
    rw[Ws (by omega),Wv trivial,G]
    exact h
   split at h
   .rename_i G
    simp only[sI,Tv,zx] at h
    simp only[bR,g,ix,h1,w]
    rw[Ws (by omega),Ws G.2,Ws L]
    simp only[D,K,O,and_self,if_true]
    exact h
   .exact old rfl h
  .exact old rfl h
 .rename_i b args ab g
  split at h
  .rename_i x j
   split at h
   .rename_i E
    simp only[bR,g,j,E,if_true,ue]
    split at h
    .rename_i e hu
     simp only[sI,SX.cx] at h
     simp only[hu];exact h
    .rename_i hu
     simp only[sI,SX.cx] at h
     simp only[hu]
     exact h
    .have:=old rfl h
     simpa only [bR,g,j,E,if_true,ue] using this
   .exact old rfl h
  .rename_i s x j
   split at h
   .rename_i E
    split at h
    .rename_i sz b z hk
     obtain⟨e,ti,h1,J,w,D,K,O,L,rfl,rfl⟩:=kg hk
     simp only[sI,SX.cx] at h
     simp only[bR,g,j]
     rw[Wv E]
     unfold HL at h
     split at h
     .rename_i xs ae W
      simp only[nA,h1,W,w]
      have R:(zeroCells P e).map List.length=some ti.size:=by rw[D];simp[K]
      split at h
      .rename_i A;rw[Wv A];exact h
      .rename_i A
       rw[Ws A]
       split at h
       .simp at h
       .rename_i Q
        rw[Ws (by
         rintro (p | p | p)
         .exact L p
         .exact p R
         .exact Q p)]
        exact h
     .simp at h
    .exact old rfl h
   .exact old rfl h
  .rename_i x y j
   simp only[sI,SX.cx] at h
   simp only[bR,g]
   split at h
   .rename_i k a X b B F
    have:=Iu (P:=P) (T:=T) g j B F (.inr ⟨rfl,rfl⟩)
    rw[this];exact h
   .simp at h
  .rename_i x y j
   simp only[sI,SX.cx] at h
   simp only[bR,g]
   split at h
   .rename_i k a X b B F
    have:=Iu (P:=P) (T:=T) g j B F (.inl ⟨rfl,rfl⟩)
    rw[this];exact h
   .simp at h
  .exact old rfl h
 .rename_i s d x g
  split at h
  .rename_i k0 k N Z
   simp only[sI,SX.cx] at h
   simp only[bR,g]
   split at h
   .rename_i X a B
    have M:¬ (lf P s d=true):=by simp[lf,N,Z]
    rw[Ws M,ML g N Z B];exact h
   .simp at h
  .exact old rfl h
 .rename_i op t x y u g
  split at h
  .rename_i k hk
   have C:(jK P t).isSome=true:=by rw[hk];rfl
   split at h
   .simp only[sI,SX.cx] at h
    simp only[bR,g]
    rw[Wv C,Kv hk]
    split at h
    .rename_i b M;rw[M];simpa using h
    .simp at h
   .simp only[sI,SX.cx] at h
    simp only[bR,g]
    rw[Wv C,Kv hk]
    split at h
    .rename_i b M;rw[M];simpa using h
    .simp at h
   .exact old rfl h
  .rename_i hk
   have m:¬ ((jK P t).isSome=true):=by rw[hk];simp
   split at h
   .split at h
    .rename_i l N
     simp only[sI,SX.cx] at h
     simp only[bR,g]
     rw[Ws m]
     exact QW g N h
    .simp only[sI,SX.cx,zb] at h
     simp only[bR,g]
     split at h
     .rename_i k a X b B F
      split at h
      .rename_i Y
       subst Y
       simp only[WB] at h
       obtain⟨r,hr,h⟩:=h
       rw[Ws m,Jl g B F hr];exact XG some h
      .simp at h
     .simp at h
   .simp only[sI,SX.cx] at h
    simp only[bR,g]
    rw[Ws m]
    exact Pg g h
   .rename_i hu
    split at h
    .simp only[sI,SX.cx] at h
     simp only[bR,g]
     split at h
     .rename_i a b B F
      rw[Ws m,Ed g hu B F (.inl ⟨rfl,rfl⟩)];simpa using h
     .simp at h
    .simp only[sI,SX.cx] at h
     simp only[bR,g]
     split at h
     .rename_i a b B F
      rw[Ws m,Ed g hu B F (.inr ⟨rfl,rfl⟩)];simpa using h
     .simp at h
    .exact old rfl h
   .exact old rfl h
 .rename_i t x g
  simp only[sI,SX.cx] at h
  simp only[bR,g]
  split at h
  .rename_i b M;rw[OI g M];exact h
  .simp at h
 .rename_i t x i g
  split at h
  .rename_i hu
   simp only[sI,SX.cx] at h
   simp only[bR,g]
   exact MI g hu h
  .exact old rfl h
 .exact old rfl h
theorem Qr {P:Program} {sz:Option Nat} {a:SX} {T:Env} {H:View} {n:Nat} {v:V} {eff:aS} {rd:List Nat} (h:sI P (.zr sz a) T H n=some (v,eff,rd)):sI P (.load sz a) T H n=some (v,eff,rd):=by
 simp only[sI] at h
 simp only[sI,vD]
 split at h
 .rename_i e j b;rw[b];exact h
 .simp at h
def toStr (P:Program) (s d:TypeId):Bool:=match P.underlying s,P.underlying d with
 | some (.slice e),some .string=>(match P.underlying e with | some (.int .u8)=>true | _=>false)
 | _,_=>false
def vn (P:Program) (s d:TypeId):Bool:=match P.underlying s,P.underlying d with
 | some .string,some (.slice e)=>(match P.underlying e with | some (.int .u8)=>true | _=>false)
 | _,_=>false
theorem NZ {P:Program} {s d:TypeId} (h:toStr P s d=true):∃ e,P.underlying s=some (.slice e)/\P.underlying d=some .string/\P.underlying e=some (.int .u8):=by
 unfold toStr at h
 split at h
 .rename_i e h1 a
  split at h
  .rename_i b;exact⟨e,h1,a,b⟩
  .simp at h
 .simp at h
theorem zU {P:Program} {s d:TypeId} (h:vn P s d=true):∃ e,P.underlying s=some .string/\P.underlying d=some (.slice e)/\P.underlying e=some (.int .u8):=by
 unfold vn at h
 split at h
 .rename_i e h1 a
  split at h
  .rename_i b;exact⟨e,h1,a,b⟩
  .simp at h
 .simp at h
theorem TB {P:Program} {s d ty:TypeId} {x:Operand} {T:Env} {H:View} {n:Nat} {v:V} {eff:aS} {rd:List Nat} (a:toStr P s d=true) (h:sI P (.DI (SX.of x)) T H n=some (v,eff,rd)):sI P (.old (.convert s d x) ty) T H n=some (v,eff,rd):=by
 obtain⟨e,h1,b,c⟩:=NZ a
 simp only[sI,SX.cx] at h
 simp only[sI,bR,oper,lf,h1,if_true,mT,b,c]
 split at h
 .rename_i es f
  rw[f]
  simp only[bD,cT]
  exact h
 .simp at h
inductive SB where
 | op (s:SI)
 | call (f:SX) (args:List SX)
 | sX (f:SX) (args:List SX)
 deriving Inhabited
structure SO where
 dst:Option Nat
 guard:Option (Nat × Bool)
 b:SB
 deriving Inhabited
structure SG where
 guard:Option (Nat × Bool)
 ops:List (Option Nat × SB)
 deriving Inhabited
inductive SC where
 | skip
 | region (quiet:Bool) (gs:List SG)
 | rH (aps:List (Nat × Nat)) (gs:List SG)
 | uP (tol:Nat × Nat × Nat) (aps:List (Nat × Nat)) (gs:List SG)
 | seq (x y:SC)
 | cond (c:SX) (x y:SC)
 | block (id:Nat) (c:SC)
 | loop (c:SC)
 | exit (id:Nat)
 | ret
 | scope (l:Nat) (c r:SC)
 | label (l:Nat)
 | goto (l:Nat)
 deriving Inhabited
def oH:SC->Nat->Option SC
 | .seq a b,l=>match oH a l with
  | some r=>some (.seq r b)
  | none=>oH b l
 | .label l',l=>if l' == l then some .skip else none
 | _,_=>none
def IP:SC->Option Nat
 | .seq a b=>match IP a with
  | some l=>some l
  | none=>IP b
 | .label l=>some l
 | _=>none
def zC (l:Nat):Exit->Prop->Prop->Prop
 | .goto l',a,_=>l'=l/\a
 | _,_,b=>b
inductive SR where
 | tmp (t:Nat)
 | cell (t:Nat) (sz:Option Nat)
 deriving Inhabited
def zo (P:Program) (op:Op):Nat:=match op with
 | .convert s d _=>if lf P s d=true then 2 else 0
 | .call { callee:=.builtin b,.. }=>match b with
  | .min | .max | .complex | .real | .imag=>0
  | .len=>1
  | _=>2
 | .lookup ..=>1
 | .binOp .. | .unOp .. | .index ..=>0
 | _=>2
def sS (P:Program):SI->Nat
 | .dX _ | .pick .. | .jL _ | .AA _ | .addr .. | .field .. | .idx .. | .slice .. | .qH .. | .ext .. | .len _ | .pr _ | .arith .. | .sh .. | .yo .. | .iF .. | .not _ | .nil .. | .build .. | .zr .. | .beq .. | .mm .. | .conv .. | .DI _ | .gu _=>0
 | .load .. | .box _ | .alloc _ | .bS .. | .make .. | .oo=>1
 | .store .. | .app ..=>2
 | .old op _=>zo P op
def je (P:Program) (quiet:Bool):SB->Nat
 | .op s=>sS P s
 | .call ..=>if quiet then 1 else 2
 | .sX ..=>1
structure Fz where
 l:List Nat
 fr:Bool
def ym (P:Program) (fr:Bool):SI->SI
 | .load k a=>if fr then .zr k a else .load k a
 | .old (.convert s d x) ty=>if fr && toStr P s d then .DI (SX.of x) else .old (.convert s d x) ty
 | s=>s
def my (P:Program) (fz:Fz) (o:Oper):SB:=match o.op with
 | .call { callee:=.value f,args,.. }=>if (match o.dst with | some d=>fz.l.contains (200000+d) | none=>false) then .sX (SX.of f) (args.toList.map SX.of) else .call (SX.of f) (args.toList.map SX.of)
 | .box _ x=>if (match o.dst with | some d=>fz.l.contains d | none=>false) then .op (.jL (SX.of x)) else .op (.box (SX.of x))
 | .convert s d x=>if (match o.dst with | some t=>fz.l.contains t | none=>false) && vn P s d then .op (.gu (SX.of x)) else .op (ym P fz.fr (comp P o))
 | _=>.op (ym P fz.fr (comp P o))
def uu (n:Nat) (all:List Oper) (o:Oper):Option (Option (Nat × Bool)):=match o.guard with
 | none=>some none
 | some (j,want)=>match (all[j]?).bind (·.dst) with
  | some d=>if d < n then some (some (d,want)) else none
  | none=>none
def FT (P:Program) (n:Nat) (all:List Oper) (fz:Fz) (o:Oper):Option SO :=
 if qV n o then (uu n all o).map λg=>⟨o.dst,g,my P fz o⟩ else none
def dA (P:Program) (n:Nat) (all:List Oper) (fz:Fz):List Oper->Option (List SO)
 | []=>some []
 | o :: r=>match FT P n all fz o,dA P n all fz r with
  | some s,some l=>some (s :: l)
  | _,_=>none
def SG.flat (g:SG):List SO:=g.ops.map λ(d,b)=>⟨d,g.guard,b⟩
def kM (gs:List SG):List SO:=(gs.map SG.flat).flatten
def L9 (g:Option (Nat × Bool)) (s:SO):Bool:=match g,s.guard with
 | none,none=>true
 | some (d,w),some (d',w')=>d == d' && w == w' && s.dst != some d
 | _,_=>false
def group:List SO->List SG
 | []=>[]
 | s :: r=>match group r with
  | g :: gs=>if L9 g.guard s then ⟨g.guard,(s.dst,s.b) :: g.ops⟩ :: gs else ⟨s.guard,[(s.dst,s.b)]⟩ :: g :: gs
  | []=>[⟨s.guard,[(s.dst,s.b)]⟩]
theorem Q2 {g:Option (Nat × Bool)} {s:SO} (h:L9 g s=true):s.guard=g:=by
 unfold L9 at h
 split at h
 .rename_i h1;exact h1
 .rename_i d w a w' h1
  simp at h;rw[h1,h.1.1,h.1.2]
 .simp at h
theorem gF:∀ l:List SO,kM (group l)=l
 | []=>rfl
 | s :: r=>by
  have a:=gF r
  simp only[group]
  split
  .rename_i g gs c
   rw[c] at a
   split
   .rename_i e
    have:=Q2 e
    rw[<-a]
    cases s with
    | mk d f b=>simp only at this;subst this;simp[kM,SG.flat]
   .rw[<-a];simp[kM,SG.flat]
  .rename_i c
   rw[c] at a
   rw[<-a];simp[kM,SG.flat]
def DA (o:Oper):Bool:=match o.op with
 | .load ..=>true
 | _=>false
def Az (o:Oper):Bool:=match o.op with
 | .alloc _=>true
 | _=>false
def kZ (o:Oper):Option Nat:=match o.op,o.guard with
 | .store _ (.tmp t) _,none=>some t
 | _,_=>none
def Up (all:List Oper) (j k t:Nat):Bool:=match all[j]? with
 | some o=>o.dst == some t && o.guard.isNone && Az o && ((all.drop (j+1)).take (k - (j+1))).all λo'=>o'.dst != some t
 | none=>false
def zj (all:List Oper) (i k:Nat):Bool:=match all[i]?,all[k]? with
 | some a,some b=>DA a && (match kZ b with
  | some t=>(List.range k).any λj=>decide (i < j) && Up all j k t
  | none=>false)
 | _,_=>false
def FW (all:List Oper) (ls:List Nat):Bool :=
 let b:=fM all []
 ls.zipIdx.all λ(x,i)=>ls.zipIdx.all λ(y,k)=>!decide (i < k) || ordered b i k || x == 0 || y == 0 || (decide (x<=1) && decide (y<=1)) || zj all i k
def rB (o:Oper):Option Nat:=match o.op with
 | .load _ (.tmp t)=>some t
 | _=>none
def stays (all:List Oper) (i t:Nat):Bool:=(all.drop i).all λo=>o.dst != some t
def B9 (all:List Oper) (i k:Nat):Option (Nat × Nat):=match all[i]?,all[k]? with
 | some a,some b=>match rB a,kZ b with
  | some s,some t=>if stays all i s && stays all k t then some (s,t) else none
  | _,_=>match kZ a,rB b with
   | some t,some s=>if stays all i t && stays all k s then some (s,t) else none
   | _,_=>none
 | _,_=>none
def yN (all:List Oper) (x i y k:Nat):Bool:=!decide (i < k) || ordered (fM all []) i k || x == 0 || y == 0 || (decide (x<=1) && decide (y<=1)) || zj all i k
def k9 (all:List Oper) (ls:List Nat):List (Nat × Nat):=ls.zipIdx.flatMap λ(x,i)=>ls.zipIdx.filterMap λ(y,k)=>if yN all x i y k then none else some (i,k)
def Bj (all:List Oper):List (Nat × Nat)->Option (List (Nat × Nat))
 | []=>some []
 | (i,k) :: r=>match B9 all i k,Bj all r with
  | some p,some l=>some (p :: l)
  | _,_=>none
def Pc (o:Oper):Option Nat:=match o.op,o.guard with
 | .call { callee:=.builtin .append,args,.. },none=>match args.toList with
  | [.tmp t,_]=>some t
  | _=>none
 | _,_=>none
def pn (o:Oper):Option Nat:=match kZ o with
 | some t=>some t
 | none=>Pc o
def G3 (o:Oper):Bool:=match o.op with
 | .buildSlice ..=>true
 | .alloc _=>true
 | _=>false
def newAt (all:List Oper) (k:Nat):Bool:=match all[k]? with
 | some b=>G3 b
 | none=>false
def Dt (all:List Oper) (i k:Nat):Option (Nat × Nat):=match all[i]?,all[k]? with
 | some a,some b=>match rB a,pn b with
  | some s,some t=>if stays all i s && stays all k t then some (s,t) else none
  | _,_=>match pn a,rB b with
   | some t,some s=>if stays all i t && stays all k s then some (s,t) else none
   | _,_=>none
 | _,_=>none
def F3 (all:List Oper) (ls:List Nat) (i k:Nat):Option (Nat × Nat × Nat):=match all[i]?,all[k]? with
 | some a,some b=>match a.op,b.op,a.guard,b.guard with
  | .lookup t (.tmp m) (.tmp q) false,.mapEntry t' (.tmp m') (.tmp q'),none,none =>
   if t == t' && m == m' && q == q' && stays all i m && stays all i q && stays all k m && stays all k q && decide (i < k) && (List.range k).all λj=>decide (ls.getD j 2<=1) then some (t,m,q) else none
  | _,_,_,_=>none
 | _,_=>none
def F0 (all:List Oper) (ls:List Nat) (tp:Option (Nat × Nat)):List (Nat × Nat):=(k9 all ls).filter λp=>!newAt all p.2 && tp != some p
def zF (o:Oper):Option (Nat × Nat × Nat):=match o.op,o.guard,o.dst with
 | .call { callee:=.builtin .append,args,.. },none,some d=>match args.toList with
  | [.tmp t,.tmp y]=>some (t,y,d)
  | _=>none
 | _,_,_=>none
def DT (all:List Oper) (i k:Nat):Option (List (Nat × Nat)):=match all[i]?,all[k]? with
 | some a,some b=>match zF a,zF b with
  | some (t,y,d),some (t',y',_)=>if stays all i t && stays all i y && stays all (i+1) d && stays all k t' && stays all k y' then some [(t,t'),(t,y'),(t',y),(d,t')] else none
  | _,_=>none
 | _,_=>none
def zp (all:List Oper) (i k:Nat):Option (List (Nat × Nat)):=match Dt all i k with
 | some p=>some [p]
 | none=>DT all i k
def uG (all:List Oper):List (Nat × Nat)->Option (List (Nat × Nat))
 | []=>some []
 | (i,k) :: r=>match zp all i k,uG all r with
  | some p,some l=>some (p ++ l)
  | _,_=>none
def td (g:SG):Bool:=match g.guard with
 | none=>true
 | some (d,_)=>g.ops.all λx=>x.1 != some d
def rr (P:Program) (n:Nat) (fz:Fz) (ops:List Oper) (draw quiet:Bool):Option SC:=match dA P n ops fz ops with
 | none=>none
 | some l=>if !(group l).all td then none else
  if draw then (if lZ ops && FW ops (l.map λs=>je P quiet s.b) then some (.region quiet (group l)) else none)
  else some (.region quiet (group l))
def BZ (P:Program) (n:Nat) (fz:Fz) (ops:List Oper):Option SC:=match dA P n ops fz ops with
 | none=>none
 | some l=>if !(group l).all td then none else
  if lZ ops then (Bj ops (k9 ops (l.map λs=>je P false s.b))).map λaps=>.rH aps (group l) else none
def S5 (all:List Oper) (ls:List Nat):Option (Nat × Nat):=(k9 all ls).find? λp=>(F3 all ls p.1 p.2).isSome
def Bw (P:Program) (n:Nat) (fz:Fz) (ops:List Oper):Option SC:=match dA P n ops fz ops with
 | none=>none
 | some l=>if !(group l).all td then none else
  if lZ ops then
   (match S5 ops (l.map λs=>je P false s.b) with
   | none=>(uG ops (F0 ops (l.map λs=>je P false s.b) none)).map λaps=>.rH aps (group l)
   | some p=>match F3 ops (l.map λs=>je P false s.b) p.1 p.2 with
    | some tol=>(uG ops (F0 ops (l.map λs=>je P false s.b) (some p))).map λaps=>.uP tol aps (group l)
    | none=>none)
  else none
def UP:Nat:=100000
def Vc:Nat:=100001
def orElse':Option SC->Option SC->Option SC
 | some x,_=>some x
 | none,y=>y
def Ce (P:Program) (n:Nat) (fz:List Nat) (ops:List Oper) (draw:Bool):Option SC :=
 orElse' (rr P n ⟨fz,false⟩ ops draw false) (if draw then orElse' (if fz.contains UP then Bw P n ⟨fz,false⟩ ops else none) <| orElse' (if fz.contains Vc then rr P n ⟨fz,true⟩ ops true false else none) <| orElse' (BZ P n ⟨fz,false⟩ ops) (orElse' (rr P n ⟨fz,false⟩ ops true true) (orElse' (rr P n ⟨fz,true⟩ ops true false) (rr P n ⟨fz,true⟩ ops true true))) else none)
def c8 (P:Program) (n:Nat) (fz:List Nat):Code->Option SC
 | .skip=>some .skip
 | .region _ ops draw=>Ce P n fz ops.toList draw
 | .seq x y=>match c8 P n fz x,c8 P n fz y with
  | some a,some b=>some (.seq a b)
  | _,_=>none
 | .cond c x y=>match c8 P n fz x,c8 P n fz y with
  | some a,some b=>some (.cond (SX.of c) a b)
  | _,_=>none
 | .block id c=>(c8 P n fz c).map (.block id)
 | .loop c=>(c8 P n fz c).map .loop
 | .exit id=>some (.exit id)
 | .ret=>some .ret
 | .scope c=>match c8 P n fz c with
  | some sc=>match IP sc with
   | some l=>(oH sc l).map λr=>.scope l sc r
   | none=>none
  | none=>none
 | .label l=>some (.label l)
 | .goto l=>some (.goto l)
 | _=>none
def jk (h h':Heap):Prop:=∀ id,id < h.length->h.view id=.dead->h'.view id=.dead
theorem jk.refl (h:Heap):jk h h:=λ_ _ e=>e
theorem jk.trans {a b c:Heap} (h:jk a b) (k:jk b c) (f:a.length<=b.length):jk a c:=λid d e=>k id (W4 d f) (h id d e)
def ao (P:Program) (f:FuncId) (vs:List V) (H:View) (K:V->View->Prop):Prop :=
 dw P f=true/\∀ h:Heap,h.view=H->∃ r h',bC P f vs h r h'/\jk h h'/\K r h'.view
def Cg (P:Program) (f:FuncId) (vs:List V) (H:View) (K:V->View->Prop):Prop :=
 dw P f=true/\∀ h:Heap,h.view=H->∃ r h',bC P f vs h r h'/\(∀ id,id < h.length->h'.view id=h.view id)/\K r h'.view
def j6 (sz:Option Nat) (e:List V) (j:Nat) (K:V->Prop):Prop:=match sz with
 | some n=>j+n<=e.length/\K (.agg ((e.drop j).take n))
 | none=>j < e.length/\K (e.getD j .any)
def wI (P:Program) (s:SI) (T:Env) (H:View) (K:V->View->Prop):Prop:=match s with
 | .dX x=>K (x.at T) H
 | .pick c a b=>match c.at T with
  | .val (.bool t)=>K (if t then a.at T else b.at T) H
  | _=>False
 | .box x=>(x.at T).cells.all aE=true/\∀ n,H n=.dead->K (.ptr n 0 0) (H.set n (.arr (x.at T).cells.length [(x.at T).cells]))
 | .jL x=>(x.at T).cells.all aE=true/\K (.aN (x.at T).cells 0) H
 | .alloc z=>z.all aE=true/\∀ n,H n=.dead->K (.ptr n 0 0) (H.set n (.arr z.length [z]))
 | .load sz a=>match a.at T with
  | .ptr id i j=>match H id with
   | .arr _ es=>i < es.length/\j6 sz (es.getD i []) j λv=>K v H
   | _=>False
  | .aN e j=>j6 sz e j λv=>K v H
  | _=>False
 | .zr sz a=>match a.at T with
  | .aN e j=>j6 sz e j λv=>K v H
  | _=>False
 | .store sz a x=>match a.at T with
  | .ptr id i j=>match H id with
   | .arr esz es=>(i < es.length/\(x.at T).cells.length=sz/\j+(x.at T).cells.length<=esz/\(x.at T).cells.all aE=true) /\
     K .any (H.set id (.arr esz (es.set i (fp (es.getD i []) j (x.at T).cells))))
   | _=>False
  | _=>False
 | .AA x=>match x.at T with
  | .ptr id i j=>K (.ptr id i j) H
  | .aN e j=>K (.aN e j) H
  | .fn f a b=>K (.fn f a b) H
  | _=>False
 | .addr off x=>match x.at T with
  | .ptr id i j=>K (.ptr id i (j+off)) H
  | .aN e j=>K (.aN e (j+off)) H
  | _=>False
 | .field off sz x=>match x.at T with
  | .agg cs=>j6 sz cs off λv=>K v H
  | _=>False
 | .idx sz x i=>match asNat (i.at T) with
  | none=>False
  | some q=>match x.at T with
   | .sl id off len esz=>(q < len/\esz=sz)/\K (.ptr id (off+q) 0) H
   | .aL es=>∃ e,es[q]?=some e/\e.length=sz/\K (.aN e 0) H
   | _=>False
 | .qH f first cap=>K (.fn f (first.map (SX.at T)) (cap.map (SX.at T))) H
 | .oo=>∀ n,H n=.dead->K (.mp n) (H.set n (.map [] 0))
 | .ext i x=>match x.at T with
  | .aO vs=>i < vs.length/\K (vs.getD i .any) H
  | _=>False
 | .len x=>match cT (x.at T) with
  | some n=>K (bU n) H
  | none=>False
 | .pr x=>match x.at T with
  | .val (.string s)=>K (bU s.size) H
  | _=>False
 | .arith op x y=>match x.at T,y.at T with
  | .val (.int k a),.val (.int k' b)=>k=k'/\(match ik op k a b with | some v=>K (.val v) H | none=>False)
  | _,_=>False
 | .yo op x y=>match x.at T,y.at T with
  | .val (.string a),.val (.string b)=>(match op with
   | .eql=>K (.val (.bool (iX a b))) H
   | .neq=>K (.val (.bool (!iX a b))) H
   | _=>False)
  | _,_=>False
 | .iF x i=>match x.at T,asNat (i.at T) with
  | .val (.string s),some q=>∃ b,s.data.toList[q]?=some b/\K (.val (.int .u8 b.toNat)) H
  | _,_=>False
 | .not x=>match x.at T with
  | .val (.bool t)=>K (.val (.bool (!t))) H
  | _=>False
 | .nil eq k x y=>match AN (eX k (x.at T)) (eX k (y.at T)) with
  | some b=>K (.val (.bool (if eq then b else !b))) H
  | none=>False
 | .beq eq x y=>match x.at T,y.at T with
  | .val (.bool a),.val (.bool b)=>K (.val (.bool (if eq then a == b else a != b))) H
  | _,_=>False
 | .mm mx x y=>match x.at T,y.at T with
  | .val (.int k a),.val (.int _ b)=>K (.val (.int k (if mx then (if b > a then b else a) else (if b < a then b else a)))) H
  | _,_=>False
 | .conv k x=>match x.at T with
  | .val (.int _ a)=>K (.val (.int k (k.wrap a))) H
  | _=>False
 | .sh l x y=>match x.at T,y.at T with
  | .val (.int k a),.val (.int _ b)=>0<=b/\K (.val (.int k (Lr l k a b))) H
  | _,_=>False
 | .build z parts=>match lY z (parts.map λ(a,b,x)=>(a,b,x.at T)) with
  | some cs=>K (.agg cs) H
  | none=>False
 | .bS len sz z parts=>match lK sz (List.replicate len z) (parts.map λ(i,x)=>(i,x.at T)) with
  | some es=>∀ n,H n=.dead->K (.sl n 0 len sz) (H.set n (.arr sz es))
  | none=>False
 | .slice sz x lo hi=>match cY sz (x.at T) (lo.map (SX.at T)) (hi.map (SX.at T)) with
  | some (v,.none,_)=>K v H
  | _=>False
 | .make sz bytes z l c=>match asNat (l.at T),asNat (c.at T) with
  | some l,some c=>(l<=c/\c < aD/\bytes * c < aD)/\(c=0->K (.emp 2) H)/\(c≠0->∀ n,H n=.dead->K (.sl n 0 l sz) (H.set n (.arr sz (List.replicate l z))))
  | _,_=>False
 | .app sz bytes x y=>match bD H (y.at T) with
  | some (xs,_)=>if xs.isEmpty=true then (match x.at T with
    | .emp k=>K (.emp k) H
    | .dM=>K .dM H
    | .aL es=>K (.aL es) H
    | .sl a b c d=>K (.sl a b c d) H
    | _=>False)
   else (xs.all λe=>e.length == sz && e.all aE)=true/\(match x.at T with
    | .emp _=>(xs.length * bytes < aD/\xs.length < aD)/\∀ n,H n=.dead->K (.sl n 0 xs.length sz) (H.set n (.arr sz xs))
    | .sl id off len esz=>match H id with
     | .arr _ es=>(off+len<=es.length/\esz=sz/\(len+xs.length) * bytes < aD/\len+xs.length < aD) /\
      ∀ n,H n=.dead->K (.sl n 0 (len+xs.length) esz) ((H.set id .dead).set n (.arr esz ((es.drop off).take len ++ xs)))
     | _=>False
    | _=>False)
  | none=>False
 | .DI x=>match x.at T with
  | .aL es=>(match ll es with
   | some l=>K (.val (.string ⟨l.toArray⟩)) H
   | none=>False)
  | _=>False
 | .gu x=>match x.at T with
  | .val (.string s)=>K (.aL (gN s)) H
  | _=>False
 | s=>∀ n,H n=.dead->∃ v eff rd,sI P s T H n=some (v,eff,rd)/\K v (eff.view H n)
def wB (P:Program) (quiet:Bool) (b:SB) (T:Env) (H:View) (K:V->View->Prop):Prop:=match b with
 | .op s=>wI P s T H K
 | .call f args=>match f.at T with
  | .fn g first cap=>if quiet then Cg P g (first ++ args.map (SX.at T) ++ cap) H K else ao P g (first ++ args.map (SX.at T) ++ cap) H K
  | _=>False
 | .sX f args=>match f.at T with
  | .fn g first cap=>Cg P g (first ++ args.map (SX.at T) ++ cap) H K
  | _=>False
def yb (P:Program) (quiet:Bool):List (Option Nat × SB)->Env->View->(Env->View->Prop)->Prop
 | [],T,H,K=>K T H
 | (d,b) :: r,T,H,K=>wB P quiet b T H λv H'=>yb P quiet r (T.put d v) H' K
def iT:List (Option Nat × SB)->Env->Env
 | [],T=>T
 | (d,_) :: r,T=>iT r (T.put d (.aO []))
def wG (P:Program) (quiet:Bool) (g:SG) (T:Env) (H:View) (K:Env->View->Prop):Prop:=match g.guard with
 | none=>yb P quiet g.ops T H K
 | some (d,want)=>match T d with
  | .val (.bool b)=>(b=want->yb P quiet g.ops (T.put (some d) (.val (.bool want))) H K)/\(b = !want->K (iT g.ops (T.put (some d) (.val (.bool (!want))))) H)
  | .aO []=>K (iT g.ops T) H
  | _=>False
def xe (P:Program) (quiet:Bool):List SG->Env->View->(Env->View->Prop)->Prop
 | [],T,H,K=>K T H
 | g :: r,T,H,K=>wG P quiet g T H λT' H'=>xe P quiet r T' H' K
def sL (c:SX) (b:Bool) (T:Env):Env:=match c with
 | .tmp t=>T.put (some t) (.val (.bool b))
 | _=>T
def Ag:Exit->Prop->Prop->Prop
 | .normal,a,_=>a
 | _,_,b=>b
def iO (a b:V):Prop:=match a,b with
 | .ptr i _ _,.ptr j _ _=>i≠j
 | .ptr i _ _,.sl j _ _ _=>i≠j
 | .ptr _ _ _,.emp _=>True
 | .ptr _ _ _,.dM=>True
 | .ptr _ _ _,.aL _=>True
 | .aN _ _,_=>True
 | .sl i _ _ _,.sl j _ _ _=>i≠j
 | .sl _ _ _ _,.emp _=>True
 | .sl _ _ _ _,.dM=>True
 | .sl _ _ _ _,.aL _=>True
 | .emp _,_=>True
 | .dM,_=>True
 | .aL _,_=>True
 | _,_=>False
def Hz (P:Program) (t:TypeId) (m q:V) (H:View):Prop:=match m with
 | .mp id=>(∃ es c,H id=.map es c)/\∀ v obj rd,ew P t (.mp id) q H=some (v,.eP id obj,rd)->fc P t (.mp id) q false (H.set id obj)=fc P t (.mp id) q false H
 | _=>False
def yY:List (Nat × Nat)->Env->Prop->Prop
 | [],_,K=>K
 | p :: l,T,K=>iO (T p.1) (T p.2)/\yY l T K
def wS (P:Program):SC->Env->View->(Exit->Env->View->Prop)->Prop
 | .skip,T,H,Q=>Q .normal T H
 | .region quiet gs,T,H,Q=>xe P quiet gs T H (Q .normal)
 | .rH aps gs,T,H,Q=>xe P false gs T H λT' H'=>yY aps T' (Q .normal T' H')
 | .uP tol aps gs,T,H,Q=>xe P false gs T H λT' H'=>Hz P tol.1 (T' tol.2.1) (T' tol.2.2) H/\yY aps T' (Q .normal T' H')
 | .seq x y,T,H,Q=>wS P x T H λe T' H'=>Ag e (wS P y T' H' Q) (Q e T' H')
 | .cond c x y,T,H,Q=>match c.at T with
  | .val (.bool b)=>(b=true->wS P x (sL c true T) H Q)/\(b=false->wS P y (sL c false T) H Q)
  | _=>False
 | .block id c,T,H,Q=>wS P c T H λe=>Q (pE id e)
 | .loop c,T,H,Q=>∃ I:Nat->Env->View->Prop,(∃ k,I k T H)/\∀ k T H,I k T H->wS P c T H λe T' H'=>Ag e (∃ k',k' < k/\I k' T' H') (Q e T' H')
 | .exit id,T,H,Q=>Q (.exit id) T H
 | .ret,T,H,Q=>Q .ret T H
 | .scope l c r,T,H,Q=>∃ (I:Nat->Env->View->Prop) (K:Nat),wS P c T H (λe T' H'=>zC l e (∃ k,k < K/\I k T' H') (Q e T' H'))/\∀ k T H,I k T H->wS P r T H λe T' H'=>zC l e (∃ k',k' < k/\I k' T' H') (Q e T' H')
 | .label _,T,H,Q=>Q .normal T H
 | .goto l,T,H,Q=>Q (.goto l) T H
def wR (T:Env) (H:View) (r:SR) (K:V->Prop):Prop:=match r with
 | .tmp t=>K (T t)
 | .cell t sz=>match T t with
  | .ptr id i j=>match H id with
   | .arr _ es=>i < es.length/\j6 sz (es.getD i []) j K
   | _=>False
  | .aN e j=>j6 sz e j K
  | _=>False
def Bn (T:Env) (H:View):List SR->List V->(List V->Prop)->Prop
 | [],acc,K=>K acc
 | r :: l,acc,K=>wR T H r λv=>Bn T H l (acc ++ [v]) K
def vP:List V->V
 | [v]=>v
 | vs=>.aO vs
def fR (P:Program):List ResultVar->Option (List SR)
 | []=>some []
 | .tmp t :: r=>(fR P r).map (.tmp t :: ·)
 | .cell a t :: r=>match Cc P t,fR P r with
  | some k,some l=>some (.cell a k :: l)
  | _,_=>none
structure SF where
 code:SC
 res:List SR
 n:Nat
def ai:List SC->SC
 | []=>.skip
 | [a]=>a
 | a :: b :: l=>.seq a (ai (b :: l))
abbrev df (k a b:Nat):Option Nat × SB:=(none,.op (.store k (.tmp a) (.tmp b)))
abbrev b7 (a k:Nat):Option Nat × SB:=(some a,.op (.dX (.val (.emp k))))
abbrev iR (d s b x y:Nat):Option Nat × SB:=(some d,.op (.app s b (.tmp x) (.tmp y)))
abbrev bf (a:Nat) (x:SC):SC:=.cond (.tmp a) x .skip
abbrev cp (a:Nat) (x:SC):SC:=.cond (.tmp a) .skip x
abbrev cz (a:Nat) (x:SC):SC:=.block a (.loop x)
abbrev aa (a b:Nat):Option Nat × SB:=(some a,.op (.dX (.tmp b)))
abbrev bb (a:Nat) (n:Int):Option Nat × SB:=(some a,.op (.dX (.val (.val (.int .i64 n)))))
abbrev bc (a:Nat) (n:Bool):Option Nat × SB:=(some a,.op (.dX (.val (.val (.bool n)))))
abbrev au (a b:Nat):Option Nat × SB:=(some a,.op (.load none (.tmp b)))
abbrev bj (a k b:Nat):Option Nat × SB:=(some a,.op (.load (some k) (.tmp b)))
abbrev ay (a k b:Nat):Option Nat × SB:=(some a,.op (.addr k (.tmp b)))
abbrev aY (a k b c:Nat):Option Nat × SB:=(some a,.op (.idx k (.tmp b) (.tmp c)))
abbrev b6 (a b c:Nat):Option Nat × SB:=(some a,.op (.pick (.tmp b) (.val (.val (.bool true))) (.tmp c)))
abbrev fe (a b c:Nat):Option Nat × SB:=(some a,.op (.pick (.tmp b) (.tmp c) (.val (.val (.bool false)))))
abbrev aZ (a:Nat) (o:BinOp) (b c:Nat):Option Nat × SB:=(some a,.op (.arith o (.tmp b) (.tmp c)))
abbrev aF (a:Nat) (o:BinOp) (b:Nat) (n:Int):Option Nat × SB:=(some a,.op (.arith o (.tmp b) (.val (.val (.int .i64 n)))))
abbrev aQ (a b:Nat):Option Nat × SB:=(some a,.op (.len (.tmp b)))
abbrev dO (a k b:Nat):Option Nat × SB:=(some a,.op (.ext k (.tmp b)))
abbrev cW (a b:Nat):Option Nat × SB:=(some a,.op (.not (.tmp b)))
abbrev cJ (a b:Nat):Option Nat × SB:=(some a,.op (.jL (.tmp b)))
abbrev eW (a b:Nat):Option Nat × SB:=(some a,.op (.AA (.tmp b)))
abbrev nr (a f:Nat) (l:List SX):Option Nat × SB:=(some a,.call (.val (.fn f [] [])) l)
abbrev aT (a f:Nat) (l:List Nat):Option Nat × SB:=(some a,.call (.val (.fn f [] [])) (l.map .tmp))
abbrev af (l:List (Option Nat × SB)):SC:=.region false [⟨none,l⟩]
def aG (P:Program) (f:FuncId) (fz:List Nat):Option SF:=match P.funcs[f]? with
 | some fn=>match fn.body with
  | some c=>match c8 P fn.ntmps fz c,fR P fn.results.toList,dw P f with
   | some sc,some rs,true=>some ⟨sc,rs,fn.ntmps⟩
   | _,_,_=>none
  | none=>none
 | none=>none
theorem pe {sz:Option Nat} {e:List V} {j:Nat} {K:V->Prop} (h:j6 sz e j K):∃ v,mA sz e j=some v/\K v:=by
 cases sz with
 | none=>exact⟨_,by simp only[mA];rw[Wv h.1],h.2⟩
 | some n=>exact⟨_,by simp only[mA];rw[Wv h.1],h.2⟩
theorem Ve {P:Program} {s:SI} {T:Env} {H:View} {K:V->View->Prop} (h:wI P s T H K) {n:Nat} (r:H n=.dead) :
  ∃ v eff rd,sI P s T H n=some (v,eff,rd)/\K v (eff.view H n):=by
 unfold wI at h
 split at h
 .exact⟨_,_,_,rfl,h⟩
 .split at h
  .rename_i t D;exact⟨_,_,_,by simp only[sI,D];rfl,h⟩
  .exact h.elim
 .exact⟨_,_,_,by simp only[sI,lU];rw[Wv h.1],h.2 n r⟩
 .exact⟨_,_,_,by simp only[sI];rw[Wv h.1],h.2⟩
 .exact⟨_,_,_,by simp only[sI,lU];rw[Wv h.1],h.2 n r⟩
 .split at h
  .rename_i id i j u
   split at h
   .rename_i es hH
    obtain⟨h1,f⟩:=h
    obtain⟨v,o,hk⟩:=pe f
    exact⟨_,_,_,by simp only[sI,vD,u,hH];rw[Wv h1,o];rfl,hk⟩
   .exact h.elim
  .rename_i e j u
   obtain⟨v,o,hk⟩:=pe h
   exact⟨_,_,_,by simp only[sI,vD,u];rw[o];rfl,hk⟩
  .exact h.elim
 .split at h
  .rename_i e j u
   obtain⟨v,o,hk⟩:=pe h
   exact⟨_,_,_,by simp only[sI,u];rw[o];rfl,hk⟩
  .exact h.elim
 .split at h
  .rename_i id i j u
   split at h
   .rename_i esz es hH
    exact⟨_,_,_,by simp only[sI,By,u,hH];rw[Wv h.1],h.2⟩
   .exact h.elim
  .exact h.elim
 .split at h
  .rename_i d;exact⟨_,_,_,by simp only[sI,d];rfl,h⟩
  .rename_i d;exact⟨_,_,_,by simp only[sI,d];rfl,h⟩
  .rename_i d;exact⟨_,_,_,by simp only[sI,d];rfl,h⟩
  .exact h.elim
 .split at h
  .rename_i d;exact⟨_,_,_,by simp only[sI,zE,d];rfl,h⟩
  .rename_i d;exact⟨_,_,_,by simp only[sI,zE,d];rfl,h⟩
  .exact h.elim
 .split at h
  .rename_i cs d
   obtain⟨v,o,hk⟩:=pe h
   exact⟨_,_,_,by simp only[sI,d,o];rfl,hk⟩
  .exact h.elim
 .split at h
  .exact h.elim
  .rename_i q y
   split at h
   .rename_i d;exact⟨_,_,_,by simp only[sI,DU,y,d];rw[Wv h.1],h.2⟩
   .rename_i es d
    obtain⟨e,he,x,hk⟩:=h
    have A:q < es.length:=(Wy.1 he).1
    have B:es.getD q []=e:=by simp[Wo,he]
    exact⟨_,_,_,by simp only[sI,DU,y,d];rw[B,Wv ⟨A,x⟩],hk⟩
   .exact h.elim
 .exact⟨_,_,_,rfl,h⟩
 .exact⟨_,_,_,rfl,h n r⟩
 .split at h
  .rename_i vs d;exact⟨_,_,_,by simp only[sI,d];rw[Wv h.1],h.2⟩
  .exact h.elim
 .split at h
  .rename_i m d;exact⟨_,_,_,by simp only[sI,d];rfl,h⟩
  .exact h.elim
 .split at h
  .rename_i s d;exact⟨_,_,_,by simp only[sI,d];rfl,h⟩
  .exact h.elim
 .split at h
  .rename_i k a F b d g
   obtain⟨rfl,h⟩:=h
   split at h
   .rename_i v o;exact⟨_,_,_,by simp only[sI,zb,d,g,if_true,o];rfl,h⟩
   .exact h.elim
  .exact h.elim
 .split at h
  .rename_i a b d g
   split at h
   .exact⟨_,_,_,by simp only[sI,A7,d,g];rfl,h⟩
   .exact⟨_,_,_,by simp only[sI,A7,d,g];rfl,h⟩
   .exact h.elim
  .exact h.elim
 .split at h
  .rename_i s q d y
   obtain⟨b,p,hk⟩:=h
   exact⟨_,_,_,by simp only[sI,Cj,d,y,p];rfl,hk⟩
  .exact h.elim
 .split at h
  .rename_i t d;exact⟨_,_,_,by simp only[sI,d];rfl,h⟩
  .exact h.elim
 .split at h
  .rename_i b p;exact⟨_,_,_,by simp only[sI,p];rfl,h⟩
  .exact h.elim
 .split at h
  .rename_i d g;exact⟨_,_,_,by simp only[sI,d,g];rfl,h⟩
  .exact h.elim
 .split at h
  .rename_i d g;exact⟨_,_,_,by simp only[sI,d,g];rfl,h⟩
  .exact h.elim
 .split at h
  .rename_i d;exact⟨_,_,_,by simp only[sI,d];rfl,h⟩
  .exact h.elim
 .split at h
  .rename_i d g;exact⟨_,_,_,by simp only[sI,Nh,d,g];rw[Ws (by omega)],h.2⟩
  .exact h.elim
 .split at h
  .rename_i cs p;exact⟨_,_,_,by simp only[sI,p];rfl,h⟩
  .exact h.elim
 .split at h
  .rename_i es p;exact⟨_,_,_,by simp only[sI,zx,p];rfl,h n r⟩
  .exact h.elim
 .split at h
  .rename_i v rd p;exact⟨_,_,_,by simp only[sI,p];rfl,h⟩
  .exact h.elim
 .split at h
  .rename_i l c x C
   obtain⟨h1,f,E⟩:=h
   by_cases e:c=0
   .exact⟨.emp 2,.none,[],by simp only[sI,CH,x,C];rw[Wv h1,Wv e],f e⟩
   .exact⟨_,_,_,by simp only[sI,CH,x,C];rw[Wv h1,Ws e],E e n r⟩
  .exact h.elim
 .split at h
  .rename_i xs rd w
   split at h
   .rename_i he
    split at h
    all_goals first
     | (rename_i d;exact⟨_,_,_,by simp only[sI,HL,w];rw[Wv he,d],h⟩)
     | exact h.elim
   .rename_i he
    obtain⟨h1,f⟩:=h
    split at f
    .rename_i d
     exact⟨_,_,_,by simp only[sI,HL,w];rw[Ws he,Ws (by rw[h1];simp),d];simp only;rw[Wv f.1],f.2 n r⟩
    .rename_i id off len esz d
     split at f
     .rename_i z es hH
      exact⟨_,_,_,by simp only[sI,HL,w];rw[Ws he,Ws (by rw[h1];simp),d];simp only[hH];rw[Wv f.1],f.2 n r⟩
     .exact f.elim
    .exact f.elim
  .exact h.elim
 .split at h
  .rename_i d
   split at h
   .rename_i l x;exact⟨_,_,_,by simp only[sI,d,x];rfl,h⟩
   .exact h.elim
  .exact h.elim
 .split at h
  .rename_i d;exact⟨_,_,_,by simp only[sI,d];rfl,h⟩
  .exact h.elim
 .exact h n r
def kV (k:Nat) (rd wr:List Nat) (call:Bool) (n n':Nat):Prop :=
 (k=0->rd=[]/\wr=[]/\call=false/\n'=n)/\(k<=1->wr=[])
theorem Sm {k:Nat} (h:k=2) {rd wr:List Nat} {call:Bool} {n a:Nat} : kV k rd wr call n a:=⟨λb=>by omega,λb=>by omega⟩
theorem qe {P:Program} {o:Oper} {T:Env} {v:V} {eff:aS} {rd:List Nat} (h:dI P o T=some (v,eff,rd)):eff=.none/\rd=[]:=by
 unfold dI at h
 split at h
 .split at h
  .split at h
   .simp at h;exact⟨h.2.1.symm,h.2.2⟩
   .simp at h
  .simp at h
 .simp at h
theorem QD {P:Program} {o:Oper} {T:Env} {H:View} {n:Nat} {v:V} {eff:aS} {rd:List Nat} (h:bR P o T H n=some (v,eff,rd)) :
  (zo P o.op=0->eff=.none/\rd=[])/\(zo P o.op=1->eff.wr=[]):=by
 unfold zo
 split
 .rename_i s d x a
  simp only[bR,a] at h
  split
  .exact⟨λh=>by simp at h,λh=>by simp at h⟩
  .rename_i g
   rw[Ws g] at h
   exact⟨λ_=>qe h,λh=>by simp at h⟩
 .rename_i b args j a
  simp only[bR,a] at h
  split
  any_goals exact⟨λ_=>qe h,λh=>by simp at h⟩
  .refine⟨λh=>by simp at h,λ_=>?_⟩
   split at h
   .rename_i f
    split at h
    .simp only[ue] at h
     have c:∀ {v':V} {r:List Nat},some (v',aS.none,r)=some (v,eff,rd)->eff.wr=[]:=λe=>by
      simp only[Wu,Wx] at e;rw[<-e.2.1];rfl
     split at h
     .simp only[WB] at h
      obtain⟨_,_,h⟩:=h
      exact c (XG some h)
     .split at h
      .split at h
       .exact c h
       .simp at h
      .exact c h
      .simp at h
     .split at h
      .exact c h
      .simp at h
     .exact c h
     .simp at h
    .simp at h
   any_goals simp at h
   all_goals contradiction
  .exact⟨λh=>by simp at h,λh=>by simp at h⟩
 .rename_i t m k ok a
  refine⟨λh=>by simp at h,λ_=>?_⟩
  simp only[bR,a,fc] at h
  have c:∀ {v':V} {r:List Nat},some (v',aS.none,r)=some (v,eff,rd)->eff.wr=[]:=λe=>by
   simp only[Wu,Wx] at e;rw[<-e.2.1];rfl
  split at h
  .simp at h
  .split at h
   .simp at h
   .split at h
    .split at h
     .split at h
      .split at h
       .exact c h
       .simp at h
      .exact c h
      .simp at h
     .simp at h
    .simp at h
 .rename_i op t x y u a
  refine⟨λ_=>?_,λh=>by simp at h⟩
  simp only[bR,a] at h
  split at h
  .split at h
   .simp at h;exact⟨h.2.1.symm,h.2.2⟩
   .simp at h;exact⟨h.2.1.symm,h.2.2⟩
   .simp at h
  .exact qe h
 .rename_i op t x a
  exact⟨λ_=>qe (by simpa only [bR,a] using h),λh=>by simp at h⟩
 .rename_i t x i a
  exact⟨λ_=>qe (by simpa only [bR,a] using h),λh=>by simp at h⟩
 .exact⟨λh=>by simp at h,λh=>by simp at h⟩
theorem rI {P:Program} {s:SI} {T:Env} {H:View} {n:Nat} {v:V} {eff:aS} {rd:List Nat} (h:sI P s T H n=some (v,eff,rd)) :
  (sS P s=0->eff=.none/\rd=[])/\(sS P s=1->eff.wr=[]):=by
 have nn:∀ {v':V},some (v',aS.none,([]:List Nat))=some (v,eff,rd)->eff=.none/\rd=[]:=λe=>by
  simp only[Wu,Wx] at e;exact⟨e.2.1.symm,e.2.2.symm⟩
 have mp:∀ {α:Type} {x:Option α} {f:α->V},(x.map λa=>(f a,aS.none,([]:List Nat)))=some (v,eff,rd)->eff=.none/\rd=[]:=by
  intro α x f h
  simp only[WB] at h
  obtain⟨a,_,h⟩:=h
  simp only[Wx] at h;exact⟨h.2.1.symm,h.2.2.symm⟩
 have nw:∀ {v':V} {o:bN} {r:List Nat},some (v',aS.new o,r)=some (v,eff,rd)->eff.wr=[]:=λe=>by
  simp only[Wu,Wx] at e;rw[<-e.2.1];rfl
 have n1:∀ {v':V} {r:List Nat},some (v',aS.none,r)=some (v,eff,rd)->eff.wr=[]:=λe=>by
  simp only[Wu,Wx] at e;rw[<-e.2.1];rfl
 unfold sS
 cases s <;> simp only[sI] at h
 case old op ty=>exact QD (o:=oper op ty) h
 all_goals
  constructor <;> intro hk <;> first
   | (exfalso;revert hk;simp;done)
   | skip
 all_goals try simp only[vD,lU,zE,DU,cY,CH,zx,zb,Nh,A7,Cj] at h
 all_goals first
  | exact nn h
  | exact mp h
  | exact nw h
  | exact n1 h
  | skip
 all_goals repeat' (split at h)
 all_goals first
  | exact nn h
  | exact mp h
  | exact nw h
  | exact n1 h
  | (simp at h;done)
  | (simp only[WB,Wx] at h;obtain⟨_,_,_,rfl,_⟩:=h;rfl)
end Gv
