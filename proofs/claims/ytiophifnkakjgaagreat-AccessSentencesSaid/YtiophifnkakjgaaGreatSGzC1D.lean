/-
  Part 4 of the proof: what the machine does and what the functions answer.
  Conditions: those that each lemma names.
-/
import Derived.Test.YtiophifnkakjgaaGreatSGzC1C
set_option linter.unusedSimpArgs false
set_option linter.unusedVariables false
set_option maxRecDepth 100000
set_option maxHeartbeats 20000000
namespace Gv
open Go
inductive Tree:V->Prop
 | val (v:Value):Tree (.val v)
 | emp (k:Nat):Tree (.emp k)
 | eD:Tree .eD
 | aU (es:List (List V)):(∀ i j,i < es.length->j < (es.getD i []).length->Tree ((es.getD i []).getD j .any))->Tree (.aU es)
 | aL (e:List V) (j:Nat):(∀ k,k < e.length->Tree (e.getD k .any))->Tree (.aL e j)
 | fn (f:FuncId) (xs ys:List V):(∀ i,i < xs.length->Tree (xs.getD i .any))->(∀ i,i < ys.length->Tree (ys.getD i .any))->Tree (.fn f xs ys)
 | agg (cs:List V):(∀ i,i < cs.length->Tree (cs.getD i .any))->Tree (.agg cs)
 | bf (cs:List V):(∀ i,i < cs.length->Tree (cs.getD i .any))->Tree (.bf cs)
theorem zt {Z:Nat->Prop} {μ u:Mu} {hp:Array Obj} {v:V} {x:Value} (h:aB Z μ hp v x):Tree v->aB Z u hp v x:=by
 induction h with
 | any x=>intro t;exact .any x
 | val v w=>intro _;exact .val v w
 | emp k a h1 n=>intro _;exact .emp k a h1 n
 | eD a cap=>intro _;exact .eD a cap
 | ji a cap h1=>intro _;exact .ji a cap h1
 | aU es b off esz cap c o hle m p _ g =>
  intro t
  cases t with
  | aU _ l=>exact .aU es b off esz cap c o hle m p (λi j hi s=>g i j hi s (l i j hi (by rw[m i hi];exact s)))
 | rn id off esz a=>intro t;cases t
 | sl id off len esz b o0 cap c e f hm hle z A=>intro t;cases t
 | ptr id i j b o0 esz hm=>intro t;cases t
 | aL e j b off c o p _ g =>
  intro t
  cases t with
  | aL _ _ l=>exact .aL e j b off c o p (λk hk=>g k hk (l k hk))
 | mp id b o0 esz hm=>intro t;cases t
 | fn f xs ys d y h1 n _ _ q r =>
  intro t
  cases t with
  | fn _ _ _ t1 t2=>exact .fn f xs ys d y h1 n (λi hi=>q i hi (t1 i hi)) (λi hi=>r i hi (t2 i hi))
 | agg cs d h1 _ g =>
  intro t
  cases t with
  | agg _ l=>exact .agg cs d h1 (λi hi=>g i hi (l i hi))
 | bf cs d h1 _ g =>
  intro t
  cases t with
  | bf _ l=>exact .bf cs d h1 (λi hi=>g i hi (l i hi))
inductive Fr (h:aE):V->V->Prop
 | tree (v:V):Tree v->Fr h v v
 | emp (k:Nat):Fr h (.emp k) (.aU [])
 | sl (id off len esz z:Nat) (es es':List (List V)):h.view id=.arr z es->off+len<=es.length->es'.length=len ->
  (∀ i,i < len->(es'.getD i []).length=(es.getD (off+i) []).length) ->
  (∀ i j,i < len->j < (es'.getD i []).length->Fr h ((es.getD (off+i) []).getD j .any) ((es'.getD i []).getD j .any))->Fr h (.sl id off len esz) (.aU es')
 | ptr (id i j z:Nat) (es:List (List V)) (e':List V):h.view id=.arr z es->i < es.length->e'.length=(es.getD i []).length ->
  (∀ k,k < e'.length->Fr h ((es.getD i []).getD k .any) (e'.getD k .any))->Fr h (.ptr id i j) (.aL e' j)
 | agg (cs cs':List V):cs'.length=cs.length->(∀ i,i < cs.length->Fr h (cs.getD i .any) (cs'.getD i .any))->Fr h (.agg cs) (.agg cs')
 | bf (cs cs':List V):cs'.length=cs.length->(∀ i,i < cs.length->Fr h (cs.getD i .any) (cs'.getD i .any))->Fr h (.bf cs) (.bf cs')
theorem Fh {h:aE} {Z:Nat->Prop} {μ u:Mu} {F:View} {hp:Array Obj} (hr:iR Z μ hp (cat h F)) {v t:V} (fr:Fr h v t):∀ {x:Value},aB Z μ hp v x->aB (λb=>Z b∨kd μ b) u hp t x:=by
 have l:∀ id,h.view id≠.dead->cat h F id=h.view id:=λid H=>by simp only[cat];rw[aaF (jh H)]
 induction fr with
 | tree v I =>
  intro x d
  have h1:aB Z u hp v x:=zt d I
  exact h1.mono ⟨λ_ h=>.inl h,λ_ _=>rfl,λ_ _ h=>h,gx.refl _⟩
 | emp k=>intro x d;cases d with | emp _ a=>exact .ji a 0 (λ_=>rfl)
 | sl id off len esz z es es' hH hle hlen J _ o =>
  intro x d
  cases d with
  | rn _ _ _ a =>
   have:es'=[]:=abU.1 hlen
   subst this
   exact .ji a 0 (λ_=>rfl)
  | sl _ _ _ _ b o0 cap c e f hm G O P =>
   have g:=hr.obj id
   rw[l id (by rw[hH];simp),hH] at g
   obtain⟨rfl,_,K,L⟩:=g b o0 esz hm
   have d:∀ i,∃ ci:Nat->Value,∀ j,j < esz->i < len->cellAt hp b (o0+off * esz+i * esz+j)=some (ci j)/\aB Z μ hp ((es.getD (off+i) []).getD j .any) (ci j):=by
    intro i
    by_cases hi:i < len
    .obtain⟨ci,A⟩:=p9 (n:=esz) (p:=λj x=>cellAt hp b (o0+off * esz+i * esz+j)=some x/\aB Z μ hp ((es.getD (off+i) []).getD j .any) x) (λj m=>by
      obtain⟨x,d,B⟩:=L (off+i) j (by omega) m
      rw[abp,<-aca] at d
      exact⟨x,d,B⟩)
     exact⟨ci,λj m _=>A j m⟩
    .exact⟨λ_=>undef,λj _ h=>absurd h hi⟩
   obtain⟨M,q⟩:=Classical.axiomOfChoice d
   have r:∀ i,i < es'.length->(es'.getD i []).length=esz:=λi hi=>by rw[J i (by omega)];exact K _ (by omega)
   have:=aB.aU (Z:=λb=>Z b∨kd μ b) (μ:=u) (hp:=hp) es' b (o0+off * esz) esz cap M (.inr ⟨id,o0,esz,hm⟩) (by omega) r
    (λi j hi m=>(q i j m (by omega)).1) (λi j hi m=>o i j (by omega) (by rw[r i hi];exact m) (q i j m (by omega)).2)
   rw[hlen] at this
   exact this
 | ptr id i j z es e' hH hi hlen _ o =>
  intro x d
  obtain⟨b,o0,sz,hm,rfl⟩:=pA (w:={ (default:World) with heap:=hp }) d
  have g:=hr.obj id
  rw[l id (by rw[hH];simp),hH] at g
  obtain⟨rfl,s⟩:=rowOf (w:={ (default:World) with heap:=hp }) g hm hi
  refine Cr (w:={ (default:World) with heap:=hp }) (.inr ⟨id,o0,sz,hm⟩) (λk hk=>?_)
  obtain⟨y,N,B⟩:=s k (by omega)
  exact⟨y,N,o k hk B⟩
 | agg cs C hlen _ o =>
  intro x d
  cases d with
  | agg _ D h1 E=>exact .agg _ _ (by omega) (λi hi=>o i (by omega) (E i (by omega)))
 | bf cs C hlen _ o =>
  intro x d
  cases d with
  | bf _ D h1 E=>exact .bf _ _ (by omega) (λi hi=>o i (by omega) (E i (by omega)))
def az (P:Program) (f:FuncId) (vs:List V) (t:V):Prop :=
 ∀ Z μ (w:World) (xs:List Value),gL Z μ w.heap vs xs->(∀ b,Z b->b < w.heap.size) ->
  Calls P f xs.toArray w λe w'=>∃ x Z',e=.returned x/\(∀ ν,aB Z' ν w'.heap t x)/\fB w w'/\(∀ b,Z b->Z' b)/\(∀ b,Z' b->Z b∨(w.heap.size<=b/\b < w'.heap.size))/\gN w.heap w'.heap (λ_=>False)
theorem F8 (F:View):cat [] F=F:=by funext id;simp[cat]
theorem az.zw {P:Program} {f:FuncId} {vs:List V} {r t:V} {l:aE} (m:∀ v∈vs,Tree v) (n:bU P f vs [] r l) (p:Fr l r t):az P f vs t:=by
 intro Z μ w xs c q
 have d:gL Z (λ_=>none) w.heap vs xs:=⟨c.1,λi hi=>zt (c.2 i hi) (by
  simp only[aaA,aaB hi,aaU]
  exact m _ (aaL _))⟩
 have g:iR Z (λ_=>none) w.heap (cat [] λ_=>.dead):=by
  rw[F8]
  exact⟨λ_=>trivial,λi j b o s A B _ h=>by simp at h,λid b o s h=>by simp at h,q,λid b o s h=>by simp at h⟩
 refine(n.2 Z _ _ w xs d g (λ_ _ _=>rfl)).mono ?_
 rintro e w' ⟨x,u,μ',rfl,y,k,hex,_⟩
 refine⟨x,λb=>u b∨kd μ' b,rfl,λC=>Fh k p y,hex.same,λb a=>.inl (hex.mono.z b a),?_,λb a _=>hex.frame b a (by rintro⟨_,_,_,h⟩;simp at h)⟩
 rintro b (a | ⟨id,o,s,a⟩)
 .rcases hex.U3 b a with h1 | h1
  .exact .inl h1
  .exact .inr ⟨h1,k.di b a⟩
 .rcases hex.Fv _ _ _ _ a with h1 | ⟨_,h1 | ⟨_,_,_,h1⟩⟩
  .simp at h1
  .exact .inr ⟨h1,k.lt _ _ _ _ a⟩
  .simp at h1
theorem bU.gU {P:Program} {f:FuncId} {vs:List V} {t:V} (n:az P f vs t) (h:aE):bU P f vs h t h:=by
 refine⟨aaM _,λZ μ F w xs g hr j=>(n Z μ w xs g hr.di).mono ?_⟩
 rintro e w' ⟨x,m,rfl,p,k,q,a,i⟩
 have hm:iB Z m μ μ w.heap w'.heap:=⟨q,λb c=>i b (hr.di b c) (λx=>x),λ_ _ h=>h,i.sT⟩
 refine⟨x,m,μ,rfl,p μ,⟨λid=>(hr.obj id).mono hm rfl (λb o s d=>i b (hr.lt _ _ _ _ d) (λx=>x)),hr.inj,λid b o s d=>abd (hr.lt _ _ _ _ d) k.size,λb c=>?_,λid b o s d l=>?_⟩,
  ⟨k,hm,λb c _=>i b c (λx=>x),λb c=>?_,λ_ _ _ _ h=>.inl h⟩,λ_ _=>rfl⟩
 .rcases a b c with h1 | h1
  .exact abd (hr.di b h1) k.size
  .exact h1.2
 .rcases a b l with h1 | h1
  .exact hr.ix _ _ _ _ d h1
  .have:=hr.lt _ _ _ _ d;omega
 .rcases a b c with h1 | h1
  .exact .inl h1
  .exact .inr h1.1
def GL (l:List Nat) (x:Nat):Bool:=!l.contains x
def Gj (a b:Rec):Bool :=
 a.wr.all (GL b.rd) && b.wr.all (GL a.rd) && (!a.call || b.wr.isEmpty) && (!b.call || a.wr.isEmpty) && b.wr.all λid=>!(decide (a.lo<=id) && decide (id < a.hi))
section
variable {P:Program} {n:Nat}
theorem RH {a b:Rec} (h:Gj a b=true):pV a b:=by
 unfold Gj at h
 simp only[aaK,aaZ,GL,acD,abC] at h
 obtain⟨⟨⟨⟨h1,g⟩,e⟩,f⟩,i⟩:=h
 refine⟨λid d hm=>?_,λid d hm=>?_,λc=>?_,λc=>?_,λid d hm=>?_⟩
 .have:=h1 id d;simp at this;exact this hm
 .have:=g id d;simp at this;exact this hm
 .rcases e with e | e
  .rw[c] at e;simp at e
  .simpa using e
 .rcases f with f | f
  .rw[c] at f;simp at f
  .simpa using f
 .have:=i id d
  simp at this
  omega
end
inductive SX where
 | tmp (t:Nat)
 | val (v:V)
 deriving Inhabited
def SX.of:Operand->SX
 | .tmp t=>.tmp t
 | .const v=>.val (gj v)
 | .global _=>.val .any
 | .func f=>.val (.fn f [] [])
def SX.at (T:Env):SX->V
 | .tmp t=>T t
 | .val v=>v
theorem SX.dh (T:Env) (x:Operand):(SX.of x).at T=ev T x:=by cases x <;> rfl
inductive SI where
 | eJ (x:SX)
 | pick (c a b:SX)
 | box (x:SX)
 | ko (x:SX)
 | alloc (z:List V)
 | build (z:List V) (parts:List (Nat × Nat × SX))
 | bJ (len sz:Nat) (z:List V) (parts:List (Nat × SX))
 | load (sz:Option Nat) (a:SX)
 | Cl (sz:Option Nat) (a:SX)
 | store (sz:Nat) (a x:SX)
 | Dn (x:SX)
 | addr (off:Nat) (x:SX)
 | field (off:Nat) (sz:Option Nat) (x:SX)
 | idx (sz:Nat) (x i:SX)
 | slice (sz:Nat) (x:SX) (lo hi:Option SX)
 | make (sz bytes:Nat) (z:List V) (l c:SX)
 | rY
 | xl (f:FuncId) (first cap:List SX)
 | ext (i:Nat) (x:SX)
 | len (x:SX)
 | rN (x:SX)
 | app (sz bytes:Nat) (x y:SX)
 | arith (op:BinOp) (x y:SX)
 | sh (left:Bool) (x y:SX)
 | Ae (op:BinOp) (x y:SX)
 | jm (x i:SX)
 | not (x:SX)
 | nil (eq:Bool) (k:Nat) (x y:SX)
 | beq (eq:Bool) (x y:SX)
 | mm (mx:Bool) (x y:SX)
 | conv (k:IntKind) (x:SX)
 | GM (x:SX)
 | gV (x:SX)
 | old (op:Op) (ty:TypeId)
 deriving Inhabited
def oc:Option Nat->List V->Nat->Option V
 | some n,cs,off=>if off+n<=cs.length then some (.agg ((cs.drop off).take n)) else none
 | none,cs,off=>if off < cs.length then some (cs.getD off .any) else none
def yQ (sz:Option Nat) (a:V) (H:View):Out:=match a with
 | .ptr id i j=>match H id with
  | .arr _ es=>if i < es.length then (oc sz (es.getD i []) j).map λv=>(v,.none,[id]) else none
  | _=>none
 | .aL e j=>(oc sz e j).map λv=>(v,.none,[])
 | _=>none
def EH (sz:Nat) (a v:V) (H:View):Out:=match a with
 | .ptr id i j=>match H id with
  | .arr esz es =>
   if i < es.length/\v.cells.length=sz/\j+v.cells.length<=esz/\v.cells.all aI=true
   then some (.any,.fU id (.arr esz (es.set i (gg (es.getD i []) j v.cells))),[id]) else none
  | _=>none
 | _=>none
def nL (z:List V) (parts:List (Nat × Nat × V)):Option (List V):=match parts with
 | []=>some z
 | (off,size,x) :: r=>if x.cells.length=size/\off+size<=z.length/\x.cells.all aI=true then nL (gg z off x.cells) r else none
def Cv (len sz:Nat) (z:List V) (parts:List (Nat × V)) (n:Nat):Out :=
 match mH sz (List.replicate len z) parts with
 | some es=>some (.sl n 0 len sz,.new (.arr sz es),[])
 | none=>none
def Ch (off:Nat) (x:V):Out:=match x with
 | .ptr id i j=>some (.ptr id i (j+off),.none,[])
 | .aL e j=>some (.aL e (j+off),.none,[])
 | _=>none
def Gt (sz:Nat) (x i:V):Out:=match asNat i with
 | none=>none
 | some q=>match x with
  | .sl id off len esz=>if q < len/\esz=sz then some (.ptr id (off+q) 0,.none,[]) else none
  | .aU es=>if q < es.length/\(es.getD q []).length=sz then some (.aL (es.getD q []) 0,.none,[]) else none
  | _=>none
def dA (sz:Nat) (x:V) (lo hi:Option V):Out:=match x with
 | .sl id off len esz=>match bound 0 lo,bound len hi with
  | some l,some h=>if l<=h/\h<=len/\esz=sz then some (.sl id (off+l) (h - l) esz,.none,[]) else none
  | _,_=>none
 | .aU es=>match bound 0 lo,bound es.length hi with
  | some l,some h=>if l<=h/\h<=es.length/\(es.all λe=>e.length == sz)=true then some (.aU ((es.drop l).take (h - l)),.none,[]) else none
  | _,_=>none
 | .emp k=>match bound 0 lo,bound 0 hi with
  | some 0,some 0=>some (.emp k,.none,[])
  | _,_=>none
 | _=>none
def E4 (sz bytes:Nat) (z:List V) (len cap:V) (n:Nat):Out:=match asNat len,asNat cap with
 | some l,some c =>
  if l<=c/\c < aC/\bytes * c < aC then
   (if c=0 then some (.emp 2,.none,[]) else some (.sl n 0 l sz,.new (.arr sz (List.replicate l z)),[]))
  else none
 | _,_=>none
def KZ (sz bytes:Nat) (s x:V) (H:View) (n:Nat):Out:=match bR H x with
 | some (xs,rd) =>
  if xs.isEmpty then (match s with
   | .emp _ | .eD | .aU _ | .sl _ _ _ _=>some (s,.none,[])
   | _=>none)
  else if ¬ ((xs.all λe=>e.length == sz && e.all aI)=true) then none
  else match s with
   | .emp _=>if xs.length * bytes < aC/\xs.length < aC then some (.sl n 0 xs.length sz,.new (.arr sz xs),rd) else none
   | .sl id off len esz=>match H id with
    | .arr _ es =>
     if off+len<=es.length/\esz=sz/\(len+xs.length) * bytes < aC/\len+xs.length < aC
     then some (.sl n 0 (len+xs.length) esz,.eJ id (.arr esz ((es.drop off).take len ++ xs)),id :: rd) else none
    | _=>none
   | _=>none
 | none=>none
def iL (op:BinOp) (k:IntKind) (a b:Int):Option Value:=match op with
 | .add=>some (.int k (k.wrap (a+b)))
 | .sub=>some (.int k (k.wrap (a - b)))
 | .mul=>some (.int k (k.wrap (a * b)))
 | .quo=>if b=0 then none else some (.int k (k.wrap (a.tdiv b)))
 | .rem=>if b=0 then none else some (.int k (a.tmod b))
 | .eql=>some (.bool (a == b))
 | .neq=>some (.bool (a != b))
 | .lss=>some (.bool (a < b))
 | .leq=>some (.bool (a<=b))
 | .gtr=>some (.bool (a > b))
 | .geq=>some (.bool (a≥b))
 | .or=>some (.int k (k.wrap (BitVec.ofInt k.bits a ||| BitVec.ofInt k.bits b).toNat))
 | .and=>some (.int k (k.wrap (BitVec.ofInt k.bits a &&& BitVec.ofInt k.bits b).toNat))
 | .xor=>some (.int k (k.wrap (BitVec.ofInt k.bits a ^^^ BitVec.ofInt k.bits b).toNat))
 | .andNot=>some (.int k (k.wrap (BitVec.ofInt k.bits a &&& ~~~(BitVec.ofInt k.bits b)).toNat))
 | _=>none
def BW (op:BinOp) (x y:V):Out:=match x,y with
 | .val (.int k a),.val (.int k' b)=>if k=k' then (iL op k a b).map λv=>(.val v,.none,[]) else none
 | _,_=>none
def PI (left:Bool) (k:IntKind) (a b:Int):Int:=if left then k.wrap (a * 2 ^ (min b.toNat k.bits)) else a.fdiv (2 ^ (min b.toNat k.bits))
def Ug (left:Bool) (x y:V):Out:=match x,y with
 | .val (.int k a),.val (.int _ b)=>if b < 0 then none else some (.val (.int k (PI left k a b)),.none,[])
 | _,_=>none
def Uz:BinOp->Option Bool
 | .shl=>some true
 | .shr=>some false
 | _=>none
def jT (a b:ByteArray):Bool:=a.data.toList == b.data.toList
def DB (op:BinOp) (x y:V):Out:=match x,y with
 | .val (.string a),.val (.string b)=>match op with
  | .eql=>some (.val (.bool (jT a b)),.none,[])
  | .neq=>some (.val (.bool (!jT a b)),.none,[])
  | _=>none
 | _,_=>none
def D2 (x i:V):Out:=match x,asNat i with
 | .val (.string s),some q=>match s.data.toList[q]? with
  | some b=>some (.val (.int .u8 b.toNat),.none,[])
  | none=>none
 | _,_=>none
def Dt:Option Bool->Option Bool->Option Bool
 | some true,some b=>some b
 | some b,some true=>some b
 | _,_=>none
theorem MO {P:Program} {t:TypeId} {k:Nat} (h:ky P t=some k) (x y:V):F3 P t x y=Dt (fQ k x) (fQ k y):=by
 simp only[F3,h]
 unfold Dt
 split <;> simp_all
def oper (op:Op) (ty:TypeId):Oper:=⟨none,op,ty,"",#[],none⟩
theorem UZ (P:Program) (o:Oper) (T:Env) (H:View) (n:Nat):cH P (oper o.op o.type) T H n=cH P o T H n:=by
 cases o;rfl
def sI (P:Program) (s:SI) (T:Env) (H:View) (n:Nat):Out:=match s with
 | .eJ x=>some (x.at T,.none,[])
 | .pick c a b=>match c.at T with
  | .val (.bool t)=>some (if t then a.at T else b.at T,.none,[])
  | _=>none
 | .box x=>nC (x.at T).cells n
 | .ko x=>if (x.at T).cells.all aI=true then some (.aL (x.at T).cells 0,.none,[]) else none
 | .alloc z=>nC z n
 | .build z parts=>(nL z (parts.map λ(a,b,x)=>(a,b,x.at T))).map λcs=>(.agg cs,.none,[])
 | .bJ len sz z parts=>Cv len sz z (parts.map λ(i,x)=>(i,x.at T)) n
 | .load sz a=>yQ sz (a.at T) H
 | .Cl sz a=>match a.at T with
  | .aL e j=>(oc sz e j).map λv=>(v,.none,[])
  | _=>none
 | .store sz a x=>EH sz (a.at T) (x.at T) H
 | .Dn x=>match x.at T with
  | .ptr id i j=>some (.ptr id i j,.none,[])
  | .aL e j=>some (.aL e j,.none,[])
  | .fn f a b=>some (.fn f a b,.none,[])
  | _=>none
 | .addr off x=>Ch off (x.at T)
 | .field off sz x=>match x.at T with
  | .agg cs=>(oc sz cs off).map λv=>(v,.none,[])
  | _=>none
 | .idx sz x i=>Gt sz (x.at T) (i.at T)
 | .slice sz x lo hi=>dA sz (x.at T) (lo.map (SX.at T)) (hi.map (SX.at T))
 | .make sz bytes z l c=>E4 sz bytes z (l.at T) (c.at T) n
 | .rY=>some (.mp n,.new (.map [] 0),[])
 | .xl f first cap=>some (.fn f (first.map (SX.at T)) (cap.map (SX.at T)),.none,[])
 | .ext i x=>match x.at T with
  | .bf vs=>if i < vs.length then some (vs.getD i .any,.none,[]) else none
  | _=>none
 | .len x=>(cT (x.at T)).map λn=>(gG n,.none,[])
 | .rN x=>match x.at T with
  | .val (.string s)=>some (gG s.size,.none,[])
  | _=>none
 | .app sz bytes x y=>KZ sz bytes (x.at T) (y.at T) H n
 | .arith op x y=>BW op (x.at T) (y.at T)
 | .sh l x y=>Ug l (x.at T) (y.at T)
 | .Ae op x y=>DB op (x.at T) (y.at T)
 | .jm x i=>D2 (x.at T) (i.at T)
 | .not x=>match x.at T with
  | .val (.bool t)=>some (.val (.bool (!t)),.none,[])
  | _=>none
 | .nil eq k x y=>match Dt (fQ k (x.at T)) (fQ k (y.at T)) with
  | some b=>some (.val (.bool (if eq then b else !b)),.none,[])
  | none=>none
 | .beq eq x y=>match x.at T,y.at T with
  | .val (.bool a),.val (.bool b)=>some (.val (.bool (if eq then a == b else a != b)),.none,[])
  | _,_=>none
 | .mm mx x y=>match x.at T,y.at T with
  | .val (.int k a),.val (.int _ b)=>some (.val (.int k (if mx then (if b > a then b else a) else (if b < a then b else a))),.none,[])
  | _,_=>none
 | .conv k x=>match x.at T with
  | .val (.int _ a)=>some (.val (.int k (k.wrap a)),.none,[])
  | _=>none
 | .GM x=>match x.at T with
  | .aU es=>(l8 es).map λl=>(.val (.string ⟨l.toArray⟩),.none,[])
  | _=>none
 | .gV x=>match x.at T with
  | .val (.string s)=>some (.aU (iu s),.none,[])
  | _=>none
 | .old op ty=>cH P (oper op ty) T H n
def FL (P:Program) (t:TypeId):Option (Option Nat):=match P.info? t,ux P t with
 | some i,some true=>some (some i.size)
 | some _,some false=>some none
 | _,_=>none
theorem zU {P:Program} {t:TypeId} {k:Option Nat} (h:FL P t=some k) (cs:List V) (j:Nat):sn P t cs j=oc k cs j:=by
 unfold FL at h
 split at h
 .rename_i i h1 a
  simp at h;subst h;simp[sn,h1,a,oc]
 .rename_i i h1 a
  simp at h;subst h;simp[sn,h1,a,oc]
 .simp at h
def qD (P:Program) (t:TypeId):Option (Nat × Nat × List V):=match dd P t with
 | some e=>match P.info? e,zeroCells P e with
  | some ti,some z=>if z.length=ti.size/\z.all aI=true/\ti.size≠0 then some (ti.size,ti.bytes,z) else none
  | _,_=>none
 | none=>none
theorem kY {P:Program} {t:TypeId} {sz a:Nat} {z:List V} (h:qD P t=some (sz,a,z)) :
  ∃ e ti,dd P t=some e/\P.underlying t=some (.slice e)/\P.info? e=some ti/\zeroCells P e=some z/\z.length=ti.size/\z.all aI=true/\ti.size≠0/\sz=ti.size/\a=ti.bytes:=by
 unfold qD at h
 split at h
 .rename_i e he
  split at h
  .rename_i ti f h1 c
   split at h
   .rename_i b
    simp at h
    obtain⟨rfl,rfl,rfl⟩:=h
    have hu:P.underlying t=some (.slice e):=by
     unfold dd at he;split at he
     .rename_i d;simp at he;subst he;exact d
     .simp at he
    exact⟨e,ti,he,hu,h1,c,b.1,b.2.1,b.2.2,rfl,rfl⟩
   .simp at h
  .simp at h
 .simp at h
def xT (P:Program) (t:TypeId):List (Nat × Operand)->Option (List (Nat × Nat × SX))
 | []=>some []
 | (i,x) :: r=>match placeOf P t i,xT P t r with
  | some (a,b),some l=>some ((a,b,SX.of x) :: l)
  | _,_=>none
def comp (P:Program) (o:Oper):SI:=match o.op with
 | .move x | .assign x=>.eJ (SX.of x)
 | .pick c a b=>.pick (SX.of c) (SX.of a) (SX.of b)
 | .alloc e=>match zeroCells P e with
  | some z=>.alloc z
  | none=>.old o.op o.type
 | .box _ x=>.box (SX.of x)
 | .load t a=>match FL P t with
  | some k=>.load k (SX.of a)
  | none=>.old o.op o.type
 | .store t a v=>match P.info? t with
  | some _=>.store (P.cellsOf t) (SX.of a) (SX.of v)
  | none=>.old o.op o.type
 | .nilCheck x=>.Dn (SX.of x)
 | .fieldAddr t x f=>match rC P t f with
  | some (off,s,_)=>if s=0 then .old o.op o.type else .addr off (SX.of x)
  | none=>.old o.op o.type
 | .field t x f=>match rC P t f with
  | some (off,_,ft)=>match FL P ft with
   | some k=>.field off k (SX.of x)
   | none=>.old o.op o.type
  | none=>.old o.op o.type
 | .indexAddr t x i=>match qD P t with
  | some (sz,_,_)=>.idx sz (SX.of x) (SX.of i)
  | none=>.old o.op o.type
 | .slice t x lo hi none=>match qD P t with
  | some (sz,_,_)=>.slice sz (SX.of x) (lo.map SX.of) (hi.map SX.of)
  | none=>.old o.op o.type
 | .makeSlice t l c=>match qD P t with
  | some (sz,b,z)=>.make sz b z (SX.of l) (SX.of c)
  | none=>.old o.op o.type
 | .makeMap _ none=>.rY
 | .makeFunc (.func f) first cap=>.xl f (first.toList.map SX.of) (cap.toList.map SX.of)
 | .extract t i=>.ext i (SX.of t)
 | .build t parts=>match P.underlying t,zeroV P t with
  | some (.struct _),some (.agg z)=>if nO P t=true then
    (match xT P t parts.toList with
    | some ps=>.build z ps
    | none=>.old o.op o.type) else .old o.op o.type
  | _,_=>.old o.op o.type
 | .buildSlice t len parts=>match qD P t with
  | some (sz,_,z)=>if len=0/\parts.toList.isEmpty=true then .eJ (.val (.emp 2)) else if len * sz<=2 ^ 24/\len≠0 then .bJ len sz z (parts.toList.map λ(i,x)=>(i,SX.of x)) else .old o.op o.type
  | none=>.old o.op o.type
 | .call { callee:=.builtin b,args,argTypes }=>match b,args.toList with
  | .len,[x]=>if 1<=argTypes.size then (match P.underlying (argTypes.getD 0 0) with
   | some (.slice _)=>.len (SX.of x)
   | some .string=>.rN (SX.of x)
   | _=>.old o.op o.type) else .old o.op o.type
  | .append,[s,x]=>if 2<=argTypes.size/\p7 P (argTypes.getD 1 0)=true then (match qD P (argTypes.getD 0 0) with
   | some (sz,b,_)=>.app sz b (SX.of s) (SX.of x)
   | none=>.old o.op o.type) else .old o.op o.type
  | .min,[x,y]=>.mm false (SX.of x) (SX.of y)
  | .max,[x,y]=>.mm true (SX.of x) (SX.of y)
  | _,_=>.old o.op o.type
 | .convert s d x=>match P.underlying s,P.underlying d with
  | some (.int _),some (.int k)=>.conv k (SX.of x)
  | _,_=>.old o.op o.type
 | .binOp op t x y _=>match ky P t with
  | some k=>match op with
   | .eql=>.nil true k (SX.of x) (SX.of y)
   | .neq=>.nil false k (SX.of x) (SX.of y)
   | _=>.old o.op o.type
  | none=>match P.underlying t with
   | some (.int _)=>match Uz op with
    | some l=>.sh l (SX.of x) (SX.of y)
    | none=>.arith op (SX.of x) (SX.of y)
   | some .string=>.Ae op (SX.of x) (SX.of y)
   | some .bool=>match op with
    | .eql=>.beq true (SX.of x) (SX.of y)
    | .neq=>.beq false (SX.of x) (SX.of y)
    | _=>.old o.op o.type
   | _=>.old o.op o.type
 | .unOp .not _ x=>.not (SX.of x)
 | .index t x i=>match P.underlying t with
  | some .string=>.jm (SX.of x) (SX.of i)
  | _=>.old o.op o.type
 | _=>.old o.op o.type
theorem Io {P:Program} {t:TypeId} {T:Env} : ∀ (parts:List (Nat × Operand)) (c:List (Nat × Nat × SX)) (z:List V),xT P t parts=some c ->
  yL (placeOf P t) z (parts.map λ(i,x)=>(i,ev T x))=nL z (c.map λ(a,b,x)=>(a,b,x.at T))
 | [],c,z,h=>by simp[xT] at h;subst h;rfl
 | (i,x) :: r,c,z,h=>by
  simp only[xT] at h
  split at h
  .rename_i a b l h1 d
   simp at h;subst h
   simp only[aa9,yL,h1,nL,SX.dh]
   split
   .exact Io r l _ d
   .rfl
  .simp at h
theorem L7 {P:Program} {o:Oper} {T:Env} {op:BinOp} {t u:TypeId} {x y:Operand} {k:IntKind} {a b:Int} {r:Value} (c:o.op=.binOp op t x y u) (d:ev T x=.val (.int k a)) (e:ev T y=.val (.int k b)) (h:iL op k a b=some r) :
  eE P o T=some (.val r,.none,[]):=by
 unfold eE
 simp only[c,Op.operands]
 simp only[d,e,dJ]
 cases op <;> simp only[iL,aaC,reduceCtorEq] at h
 all_goals first
  | (
   split at h
   .simp at h
   .rename_i f
    simp at h;subst h
    simp[execOp,c,d,e,dJ,eqGuard,binOp,Op.intDiv,f,plain]
    try rfl)
  | (subst h;simp[execOp,c,d,e,dJ,eqGuard,binOp,Op.intArith,Op.intCmp,Op.intBits,plain];try rfl)
theorem Un {P:Program} {o:Oper} {T:Env} {op:BinOp} {t u:TypeId} {x y:Operand} {l:Bool} {v:V} {eff:bE} {rd:List Nat} (c:o.op=.binOp op t x y u) (d:Uz op=some l) (h:Ug l (ev T x) (ev T y)=some (v,eff,rd)) :
  eE P o T=some (v,eff,rd):=by
 unfold Ug at h
 split at h
 .rename_i k a i b e f
  split at h
  .simp at h
  .rename_i g
   simp only[aaC,aaG] at h
   obtain⟨rfl,rfl,rfl⟩:=h
   unfold eE
   simp only[c,Op.operands]
   simp only[e,f,dJ]
   cases op <;> simp only[Uz,aaC,reduceCtorEq] at d
   all_goals
    subst d
    simp[execOp,c,e,f,dJ,eqGuard,binOp,Op.shift,g,plain,PI]
    try rfl
 .simp at h
theorem Q7 {P:Program} {o:Oper} {T:Env} {op:BinOp} {t u:TypeId} {x y:Operand} {v:V} {eff:bE} {rd:List Nat} (c:o.op=.binOp op t x y u) (h:DB op (ev T x) (ev T y)=some (v,eff,rd)) :
  eE P o T=some (v,eff,rd):=by
 unfold DB at h
 split at h
 .rename_i a b d e
  unfold eE
  simp only[c,Op.operands,d,e,dJ]
  have he:(a.toList == b.toList)=jT a b:=by simp[jT,ByteArray.toList_eq]
  split at h
  .simp at h;obtain⟨rfl,rfl,rfl⟩:=h
   simp[execOp,c,d,e,dJ,eqGuard,binOp,Op.stringOp,plain,<-he];rfl
  .simp at h;obtain⟨rfl,rfl,rfl⟩:=h
   simp[execOp,c,d,e,dJ,eqGuard,binOp,Op.stringOp,plain,<-he];rfl
  .simp at h
 .simp at h
theorem Qn {P:Program} {o:Oper} {T:Env} {t:TypeId} {x i:Operand} {v:V} {eff:bE} {rd:List Nat} (e:o.op=.index t x i) (hu:P.underlying t=some .string) (h:D2 (ev T x) (ev T i)=some (v,eff,rd)) :
  eE P o T=some (v,eff,rd):=by
 unfold D2 at h
 split at h
 .rename_i s q f a
  split at h
  .rename_i b m
   simp at h;obtain⟨rfl,rfl,rfl⟩:=h
   unfold asNat at a
   split at a
   .rename_i k z g
    split at a
    .rename_i j
     simp at a;subst a
     have l:s[z.toNat]?=some b:=by
      obtain⟨c,rfl⟩:=aaR.1 m
      have d:z.toNat < s.size:=by rw[bsize] at c;exact c
      rw[getElem?_pos s z.toNat d]
      rfl
     unfold eE
     simp only[e,Op.operands,f,g,dJ]
     simp[execOp,e,f,g,dJ,Instr.index,asIntOf,underlying,program,hu,j,l,plain]
     simp[bw,hu,j,l,plain,bind,Sem.bind,pure]
     rfl
    .simp at a
   .simp at a
  .simp at h
 .simp at h
theorem Uk {P:Program} {o:Oper} {T:Env} {t:TypeId} {x:Operand} {b:Bool} (a:o.op=.unOp .not t x) (c:ev T x=.val (.bool b)) :
  eE P o T=some (.val (.bool (!b)),.none,[]):=by
 unfold eE
 simp only[a,Op.operands,c,dJ]
 simp[execOp,a,c,dJ,Op.unary,plain]
 rfl
theorem j6 {α β:Type} (P:Program) (s:Sem α) (f:α->β):bw P (Functor.map f s)=(bw P s).map f:=by
 show bw P (s >>= λa=>pure (f a))=_
 rw[bm]
 cases bw P s <;> rfl
theorem ep {P:Program} {t:TypeId} {d:TypeDesc} (h:P.underlying t=some d):bw P (underlying t)=some d:=by
 simp only[underlying,program,bm]
 simp[bw,h]
 rfl
theorem Ao {P:Program} {t:TypeId} {a b:Bool} (hu:P.underlying t=some .bool):bw P (Op.equal t (.bool a) (.bool b))=some (a == b):=by
 rw[kP]
 generalize 9999=d
 simp only[Op.equalIn,bm,ep hu,abe]
 rfl
theorem Iw {P:Program} {o:Oper} {T:Env} {op:BinOp} {t u:TypeId} {x y:Operand} {a b:Bool} {r:Bool} (c:o.op=.binOp op t x y u) (hu:P.underlying t=some .bool) (d:ev T x=.val (.bool a)) (e:ev T y=.val (.bool b))
  (hr:(op=.eql/\r=(a == b))∨(op=.neq/\r=(a != b))) :
  eE P o T=some (.val (.bool r),.none,[]):=by
 unfold eE
 simp only[c,Op.operands,d,e,dJ]
 rcases hr with ⟨rfl,rfl⟩ | ⟨rfl,rfl⟩
 .simp[execOp,c,d,e,dJ,eqGuard,binOp,j6,bm,Ao hu,plain]
  try simp[bw,pure,plain]
 .simp[execOp,c,d,e,dJ,eqGuard,binOp,j6,bm,Ao hu,plain]
  try simp[bw,pure,plain,bne]
theorem Qp {P:Program} {o:Oper} {T:Env} {s d:TypeId} {x:Operand} {f k b:IntKind} {a:Int} (c:o.op=.convert s d x) (g:P.underlying s=some (.int f)) (h:P.underlying d=some (.int k)) (e:ev T x=.val (.int b a)) :
  eE P o T=some (.val (.int k (k.wrap a)),.none,[]):=by
 unfold eE
 simp only[c,Op.operands,e,dJ]
 have:bw P (convert s d (.int b a))=some (.int k (k.wrap a)):=by
  simp only[convert,bm,ep g,ep h,abe]
  rfl
 simp[execOp,c,e,dJ,j6,this,plain]
theorem KV {P:Program} {o:Oper} {T:Env} {bi:Builtin} {x y:Operand} {k d:IntKind} {a b:Int} {args:Array Operand} {c:Array TypeId} {r:Int} (e:o.op=.call { callee:=.builtin bi,args:=args,argTypes:=c }) (h:args.toList=[x,y])
  (f:ev T x=.val (.int k a)) (g:ev T y=.val (.int d b)) (hr:(bi=.max/\r=if b > a then b else a)∨(bi=.min/\r=if b < a then b else a)) :
  eE P o T=some (.val (.int k r),.none,[]):=by
 obtain rfl:args = #[x,y]:=by rw[<-Array.toArray_toList (xs:=args),h]
 unfold eE
 rcases hr with ⟨rfl,rfl⟩ | ⟨rfl,rfl⟩
 .have:bw P (Builtin.max_ c o.type #[.int k a,.int d b])=some (.int k (if b > a then b else a)):=rfl
  simp[e,Op.operands,Call.operands,f,g,dJ,execOp,resolve,invoke,builtin,j6,this,plain]
 .have:bw P (Builtin.min_ c o.type #[.int k a,.int d b])=some (.int k (if b < a then b else a)):=rfl
  simp[e,Op.operands,Call.operands,f,g,dJ,execOp,resolve,invoke,builtin,j6,this,plain]
theorem Ff (l:List Operand) (T:Env):(l.map SX.of).map (SX.at T)=l.map (ev T):=by
 rw[List.map_map];congr 1;funext x;exact SX.dh T x
theorem WM (l:Option Operand) (T:Env):(l.map SX.of).map (SX.at T)=l.map (ev T):=by
 cases l <;> simp[SX.dh]
theorem XD (l:List (Nat × Operand)) (T:Env):(l.map λ(i,x)=>(i,SX.of x)).map (λ(i,x)=>(i,SX.at T x))=l.map λ(i,x)=>(i,ev T x):=by
 rw[List.map_map];congr 1;funext x;simp[SX.dh]
theorem MD {P:Program} {o:Oper} {T:Env} {H:View} {n:Nat} {v:V} {eff:bE} {rd:List Nat} (h:sI P (comp P o) T H n=some (v,eff,rd)) :
  cH P o T H n=some (v,eff,rd):=by
 have old:∀ {s:SI},s=.old o.op o.type->sI P s T H n=some (v,eff,rd)->cH P o T H n=some (v,eff,rd):=λe h=>by rw[e] at h;simp only[sI,UZ] at h;exact h
 unfold comp at h
 split at h
 .rename_i x g;simp only[sI,SX.dh] at h;simp only[cH,g];exact h
 .rename_i x g;simp only[sI,SX.dh] at h;simp only[cH,g];exact h
 .rename_i c a b g;simp only[sI,SX.dh] at h;simp only[cH,g];exact h
 .rename_i e g
  split at h
  .rename_i z R;simp only[sI] at h;simp only[cH,g,R];exact h
  .exact old rfl h
 .rename_i t x g;simp only[sI,SX.dh] at h;simp only[cH,g];exact h
 .rename_i t a g
  split at h
  .rename_i k hk
   simp only[sI,SX.dh,yQ] at h
   simp only[cH,g,nX,zU hk]
   exact h
  .exact old rfl h
 .rename_i t a x g
  split at h
  .rename_i ti S
   simp only[sI,SX.dh,EH] at h
   simp only[cH,g,sU,S,Option.isSome_some,and_true]
   exact h
  .exact old rfl h
 .rename_i x g;simp only[sI,SX.dh] at h;simp only[cH,g];exact h
 .rename_i t x f g
  split at h
  .rename_i off s ft I
   split at h
   .exact old rfl h
   .rename_i N
    simp only[sI,SX.dh,Ch] at h
    simp only[cH,g,mE,I,N,if_false]
    exact h
  .exact old rfl h
 .rename_i t x f g
  split at h
  .rename_i off s ft I
   split at h
   .rename_i k hk
    simp only[sI,SX.dh] at h
    simp only[cH,g,yq,I]
    split at h
    .rename_i cs U;simp only[U,zU hk];exact h
    .simp at h
   .exact old rfl h
  .exact old rfl h
 .rename_i t x i g
  split at h
  .rename_i sz b z hk
   obtain⟨e,ti,h1,J,w,D,K,O,L,rfl,rfl⟩:=kY hk
   simp only[sI,SX.dh,Gt] at h
   simp only[cH,g,mC,J,w]
   exact h
  .exact old rfl h
 .rename_i t x lo hi g
  split at h
  .rename_i sz b z hk
   obtain⟨e,ti,h1,J,w,D,K,O,L,rfl,rfl⟩:=kY hk
   simp only[sI,SX.dh,WM] at h
   simp only[cH,g]
   have q:vh P t (ev T x) (lo.map (ev T)) (hi.map (ev T)) none=some (v,eff,rd):=by
    simp only[vh,h1,w]
    unfold dA at h
    split at h
    .rename_i p;rw[p];exact h
    .rename_i p;rw[p];exact h
    .rename_i p;rw[p];exact h
    .simp at h
   unfold dA at h
   split at h
   .rename_i p;rw[p] at q ⊢;exact q
   .rename_i p;rw[p] at q ⊢;exact q
   .rename_i p;rw[p] at q ⊢;exact q
   .simp at h
  .exact old rfl h
 .rename_i t l c g
  split at h
  .rename_i sz b z hk
   obtain⟨e,ti,h1,J,w,D,K,O,L,rfl,rfl⟩:=kY hk
   simp only[sI,SX.dh,E4] at h
   simp only[cH,g,mF,h1,w]
   split at h
   .rename_i l' c' hl G
    simp only[hl,G,L,if_false,D,K,O,and_self,if_true]
    exact h
   .simp at h
  .exact old rfl h
 .rename_i t g;simp only[sI] at h;simp only[cH,g];exact h
 .rename_i f first cap g;simp only[sI,Ff] at h;simp only[cH,g];exact h
 .rename_i t i g;simp only[sI,SX.dh] at h;simp only[cH,g];exact h
 .rename_i t parts g
  split at h
  .rename_i fs z h1 J
   split at h
   .rename_i w
    split at h
    .rename_i ps D
     simp only[sI] at h
     simp only[cH,g,yg,h1,J,w,if_true]
     have:=Io (T:=T) parts.toList ps z D
     rw[this]
     exact h
    .exact old rfl h
   .exact old rfl h
  .exact old rfl h
 .rename_i t len parts g
  split at h
  .rename_i sz b z hk
   obtain⟨e,ti,h1,J,w,D,K,O,L,rfl,rfl⟩:=kY hk
   split at h
   .rename_i G
    obtain⟨rfl,G⟩:=G
    simp only[sI,SX.at] at h
    simp only[cH,g,iW,h1,w]
    rw[List.isEmpty_iff] at G
    rw[aaD (by omega),aaF trivial,G]
    exact h
   split at h
   .rename_i G
    simp only[sI,XD,Cv] at h
    simp only[cH,g,iW,h1,w]
    rw[aaD (by omega),aaD G.2,aaD L]
    simp only[D,K,O,and_self,if_true]
    exact h
   .exact old rfl h
  .exact old rfl h
 .rename_i b args an g
  split at h
  .rename_i x j
   split at h
   .rename_i E
    simp only[cH,g,j,E,if_true,wY]
    split at h
    .rename_i e hu
     simp only[sI,SX.dh] at h
     simp only[hu];exact h
    .rename_i hu
     simp only[sI,SX.dh] at h
     simp only[hu]
     exact h
    .have:=old rfl h
     simpa only [cH,g,j,E,if_true,wY] using this
   .exact old rfl h
  .rename_i s x j
   split at h
   .rename_i E
    split at h
    .rename_i sz b z hk
     obtain⟨e,ti,h1,J,w,D,K,O,L,rfl,rfl⟩:=kY hk
     simp only[sI,SX.dh] at h
     simp only[cH,g,j]
     rw[aaF E]
     unfold KZ at h
     split at h
     .rename_i xs aq W
      simp only[pz,h1,W,w]
      have R:(zeroCells P e).map List.length=some ti.size:=by rw[D];simp[K]
      split at h
      .rename_i A;rw[aaF A];exact h
      .rename_i A
       rw[aaD A]
       split at h
       .simp at h
       .rename_i Q
        rw[aaD (by
         rintro (p | p | p)
         .exact L p
         .exact p R
         .exact Q p)]
        exact h
     .simp at h
    .exact old rfl h
   .exact old rfl h
  .rename_i x y j
   simp only[sI,SX.dh] at h
   simp only[cH,g]
   split at h
   .rename_i k a X b B F
    have:=KV (P:=P) (T:=T) g j B F (.inr ⟨rfl,rfl⟩)
    rw[this];exact h
   .simp at h
  .rename_i x y j
   simp only[sI,SX.dh] at h
   simp only[cH,g]
   split at h
   .rename_i k a X b B F
    have:=KV (P:=P) (T:=T) g j B F (.inl ⟨rfl,rfl⟩)
    rw[this];exact h
   .simp at h
  .exact old rfl h
 .rename_i s d x g
  split at h
  .rename_i k0 k N Z
   simp only[sI,SX.dh] at h
   simp only[cH,g]
   split at h
   .rename_i X a B
    have M:¬ (lY P s d=true):=by simp[lY,N,Z]
    rw[aaD M,Qp g N Z B];exact h
   .simp at h
  .exact old rfl h
 .rename_i op t x y u g
  split at h
  .rename_i k hk
   have C:(ky P t).isSome=true:=by rw[hk];rfl
   split at h
   .simp only[sI,SX.dh] at h
    simp only[cH,g]
    rw[aaF C,MO hk]
    split at h
    .rename_i b M;rw[M];simpa using h
    .simp at h
   .simp only[sI,SX.dh] at h
    simp only[cH,g]
    rw[aaF C,MO hk]
    split at h
    .rename_i b M;rw[M];simpa using h
    .simp at h
   .exact old rfl h
  .rename_i hk
   have m:¬ ((ky P t).isSome=true):=by rw[hk];simp
   split at h
   .split at h
    .rename_i l N
     simp only[sI,SX.dh] at h
     simp only[cH,g]
     rw[aaD m]
     exact Un g N h
    .simp only[sI,SX.dh,BW] at h
     simp only[cH,g]
     split at h
     .rename_i k a X b B F
      split at h
      .rename_i Y
       subst Y
       simp only[aaO] at h
       obtain⟨r,hr,h⟩:=h
       rw[aaD m,L7 g B F hr];exact abN some h
      .simp at h
     .simp at h
   .simp only[sI,SX.dh] at h
    simp only[cH,g]
    rw[aaD m]
    exact Q7 g h
   .rename_i hu
    split at h
    .simp only[sI,SX.dh] at h
     simp only[cH,g]
     split at h
     .rename_i a b B F
      rw[aaD m,Iw g hu B F (.inl ⟨rfl,rfl⟩)];simpa using h
     .simp at h
    .simp only[sI,SX.dh] at h
     simp only[cH,g]
     split at h
     .rename_i a b B F
      rw[aaD m,Iw g hu B F (.inr ⟨rfl,rfl⟩)];simpa using h
     .simp at h
    .exact old rfl h
   .exact old rfl h
 .rename_i t x g
  simp only[sI,SX.dh] at h
  simp only[cH,g]
  split at h
  .rename_i b M;rw[Uk g M];exact h
  .simp at h
 .rename_i t x i g
  split at h
  .rename_i hu
   simp only[sI,SX.dh] at h
   simp only[cH,g]
   exact Qn g hu h
  .exact old rfl h
 .exact old rfl h
theorem Vq {P:Program} {sz:Option Nat} {a:SX} {T:Env} {H:View} {n:Nat} {v:V} {eff:bE} {rd:List Nat} (h:sI P (.Cl sz a) T H n=some (v,eff,rd)):sI P (.load sz a) T H n=some (v,eff,rd):=by
 simp only[sI] at h
 simp only[sI,yQ]
 split at h
 .rename_i e j b;rw[b];exact h
 .simp at h
def toStr (P:Program) (s d:TypeId):Bool:=match P.underlying s,P.underlying d with
 | some (.slice e),some .string=>(match P.underlying e with | some (.int .u8)=>true | _=>false)
 | _,_=>false
def xX (P:Program) (s d:TypeId):Bool:=match P.underlying s,P.underlying d with
 | some .string,some (.slice e)=>(match P.underlying e with | some (.int .u8)=>true | _=>false)
 | _,_=>false
theorem Sm {P:Program} {s d:TypeId} (h:toStr P s d=true):∃ e,P.underlying s=some (.slice e)/\P.underlying d=some .string/\P.underlying e=some (.int .u8):=by
 unfold toStr at h
 split at h
 .rename_i e h1 a
  split at h
  .rename_i b;exact⟨e,h1,a,b⟩
  .simp at h
 .simp at h
theorem C6 {P:Program} {s d:TypeId} (h:xX P s d=true):∃ e,P.underlying s=some .string/\P.underlying d=some (.slice e)/\P.underlying e=some (.int .u8):=by
 unfold xX at h
 split at h
 .rename_i e h1 a
  split at h
  .rename_i b;exact⟨e,h1,a,b⟩
  .simp at h
 .simp at h
theorem WV {P:Program} {s d ty:TypeId} {x:Operand} {T:Env} {H:View} {n:Nat} {v:V} {eff:bE} {rd:List Nat} (a:toStr P s d=true) (h:sI P (.GM (SX.of x)) T H n=some (v,eff,rd)):sI P (.old (.convert s d x) ty) T H n=some (v,eff,rd):=by
 obtain⟨e,h1,b,c⟩:=Sm a
 simp only[sI,SX.dh] at h
 simp only[sI,cH,oper,lY,h1,if_true,ox,b,c]
 split at h
 .rename_i es f
  rw[f]
  simp only[bR,cT]
  exact h
 .simp at h
inductive SB where
 | op (s:SI)
 | call (f:SX) (args:List SX)
 | vQ (f:SX) (args:List SX)
 deriving Inhabited
structure SO where
 dst:Option Nat
 guard:Option (Nat × Bool)
 b:SB
 deriving Inhabited
structure SG where
 guard:Option (Nat × Bool)
 ops:List (Option Nat × SB)
 deriving Inhabited
inductive SC where
 | skip
 | region (quiet:Bool) (gs:List SG)
 | rL (aps:List (Nat × Nat)) (gs:List SG)
 | Cn (tol:Nat × Nat × Nat) (aps:List (Nat × Nat)) (gs:List SG)
 | seq (x y:SC)
 | cond (c:SX) (x y:SC)
 | block (id:Nat) (c:SC)
 | loop (c:SC)
 | exit (id:Nat)
 | ret
 | scope (l:Nat) (c r:SC)
 | label (l:Nat)
 | goto (l:Nat)
 deriving Inhabited
def qv:SC->Nat->Option SC
 | .seq a b,l=>match qv a l with
  | some r=>some (.seq r b)
  | none=>qv b l
 | .label l',l=>if l' == l then some .skip else none
 | _,_=>none
def Kt:SC->Option Nat
 | .seq a b=>match Kt a with
  | some l=>some l
  | none=>Kt b
 | .label l=>some l
 | _=>none
def Cy (l:Nat):Exit->Prop->Prop->Prop
 | .goto l',a,_=>l'=l/\a
 | _,_,b=>b
inductive SR where
 | tmp (t:Nat)
 | cell (t:Nat) (sz:Option Nat)
 deriving Inhabited
def Ck (P:Program) (op:Op):Nat:=match op with
 | .convert s d _=>if lY P s d=true then 2 else 0
 | .call { callee:=.builtin b,.. }=>match b with
  | .min | .max | .complex | .real | .imag=>0
  | .len=>1
  | _=>2
 | .lookup ..=>1
 | .binOp .. | .unOp .. | .index ..=>0
 | _=>2
def vG (P:Program):SI->Nat
 | .eJ _ | .pick .. | .ko _ | .Dn _ | .addr .. | .field .. | .idx .. | .slice .. | .xl .. | .ext .. | .len _ | .rN _ | .arith .. | .sh .. | .Ae .. | .jm .. | .not _ | .nil .. | .build .. | .Cl .. | .beq .. | .mm .. | .conv .. | .GM _ | .gV _=>0
 | .load .. | .box _ | .alloc _ | .bJ .. | .make .. | .rY=>1
 | .store .. | .app ..=>2
 | .old op _=>Ck P op
def jU (P:Program) (quiet:Bool):SB->Nat
 | .op s=>vG P s
 | .call ..=>if quiet then 1 else 2
 | .vQ ..=>1
structure Fz where
 l:List Nat
 fr:Bool
def AT (P:Program) (fr:Bool):SI->SI
 | .load k a=>if fr then .Cl k a else .load k a
 | .old (.convert s d x) ty=>if fr && toStr P s d then .GM (SX.of x) else .old (.convert s d x) ty
 | s=>s
def nW (P:Program) (fz:Fz) (o:Oper):SB:=match o.op with
 | .call { callee:=.value f,args,.. }=>if (match o.dst with | some d=>fz.l.contains (200000+d) | none=>false) then .vQ (SX.of f) (args.toList.map SX.of) else .call (SX.of f) (args.toList.map SX.of)
 | .box _ x=>if (match o.dst with | some d=>fz.l.contains d | none=>false) then .op (.ko (SX.of x)) else .op (.box (SX.of x))
 | .convert s d x=>if (match o.dst with | some t=>fz.l.contains t | none=>false) && xX P s d then .op (.gV (SX.of x)) else .op (AT P fz.fr (comp P o))
 | _=>.op (AT P fz.fr (comp P o))
def xI (n:Nat) (all:List Oper) (o:Oper):Option (Option (Nat × Bool)):=match o.guard with
 | none=>some none
 | some (j,want)=>match (all[j]?).bind (·.dst) with
  | some d=>if d < n then some (some (d,want)) else none
  | none=>none
def Jc (P:Program) (n:Nat) (all:List Oper) (fz:Fz) (o:Oper):Option SO :=
 if tP n o then (xI n all o).map λg=>⟨o.dst,g,nW P fz o⟩ else none
def eh (P:Program) (n:Nat) (all:List Oper) (fz:Fz):List Oper->Option (List SO)
 | []=>some []
 | o :: r=>match Jc P n all fz o,eh P n all fz r with
  | some s,some l=>some (s :: l)
  | _,_=>none
def SG.flat (g:SG):List SO:=g.ops.map λ(d,b)=>⟨d,g.guard,b⟩
def lL (gs:List SG):List SO:=(gs.map SG.flat).flatten
def Ps (g:Option (Nat × Bool)) (s:SO):Bool:=match g,s.guard with
 | none,none=>true
 | some (d,w),some (d',w')=>d == d' && w == w' && s.dst != some d
 | _,_=>false
def group:List SO->List SG
 | []=>[]
 | s :: r=>match group r with
  | g :: gs=>if Ps g.guard s then ⟨g.guard,(s.dst,s.b) :: g.ops⟩ :: gs else ⟨s.guard,[(s.dst,s.b)]⟩ :: g :: gs
  | []=>[⟨s.guard,[(s.dst,s.b)]⟩]
theorem UJ {g:Option (Nat × Bool)} {s:SO} (h:Ps g s=true):s.guard=g:=by
 unfold Ps at h
 split at h
 .rename_i h1;exact h1
 .rename_i d w a w' h1
  simp at h;rw[h1,h.1.1,h.1.2]
 .simp at h
theorem ia:∀ l:List SO,lL (group l)=l
 | []=>rfl
 | s :: r=>by
  have a:=ia r
  simp only[group]
  split
  .rename_i g gs c
   rw[c] at a
   split
   .rename_i e
    have:=UJ e
    rw[<-a]
    cases s with
    | mk d f b=>simp only at this;subst this;simp[lL,SG.flat]
   .rw[<-a];simp[lL,SG.flat]
  .rename_i c
   rw[c] at a
   rw[<-a];simp[lL,SG.flat]
def Gu (o:Oper):Bool:=match o.op with
 | .load ..=>true
 | _=>false
def DL (o:Oper):Bool:=match o.op with
 | .alloc _=>true
 | _=>false
def lS (o:Oper):Option Nat:=match o.op,o.guard with
 | .store _ (.tmp t) _,none=>some t
 | _,_=>none
def X0 (all:List Oper) (j k t:Nat):Bool:=match all[j]? with
 | some o=>o.dst == some t && o.guard.isNone && DL o && ((all.drop (j+1)).take (k - (j+1))).all λo'=>o'.dst != some t
 | none=>false
def Cs (all:List Oper) (i k:Nat):Bool:=match all[i]?,all[k]? with
 | some a,some b=>Gu a && (match lS b with
  | some t=>(List.range k).any λj=>decide (i < j) && X0 all j k t
  | none=>false)
 | _,_=>false
def Je (all:List Oper) (ls:List Nat):Bool :=
 let b:=gu all []
 ls.zipIdx.all λ(x,i)=>ls.zipIdx.all λ(y,k)=>!decide (i < k) || ordered b i k || x == 0 || y == 0 || (decide (x<=1) && decide (y<=1)) || Cs all i k
def uj (o:Oper):Option Nat:=match o.op with
 | .load _ (.tmp t)=>some t
 | _=>none
def stays (all:List Oper) (i t:Nat):Bool:=(all.drop i).all λo=>o.dst != some t
def FM (all:List Oper) (i k:Nat):Option (Nat × Nat):=match all[i]?,all[k]? with
 | some a,some b=>match uj a,lS b with
  | some s,some t=>if stays all i s && stays all k t then some (s,t) else none
  | _,_=>match lS a,uj b with
   | some t,some s=>if stays all i t && stays all k s then some (s,t) else none
   | _,_=>none
 | _,_=>none
def AL (all:List Oper) (x i y k:Nat):Bool:=!decide (i < k) || ordered (gu all []) i k || x == 0 || y == 0 || (decide (x<=1) && decide (y<=1)) || Cs all i k
def lT (all:List Oper) (ls:List Nat):List (Nat × Nat):=ls.zipIdx.flatMap λ(x,i)=>ls.zipIdx.filterMap λ(y,k)=>if AL all x i y k then none else some (i,k)
def FD (all:List Oper):List (Nat × Nat)->Option (List (Nat × Nat))
 | []=>some []
 | (i,k) :: r=>match FM all i k,FD all r with
  | some p,some l=>some (p :: l)
  | _,_=>none
def Ru (o:Oper):Option Nat:=match o.op,o.guard with
 | .call { callee:=.builtin .append,args,.. },none=>match args.toList with
  | [.tmp t,_]=>some t
  | _=>none
 | _,_=>none
def rV (o:Oper):Option Nat:=match lS o with
 | some t=>some t
 | none=>Ru o
def K8 (o:Oper):Bool:=match o.op with
 | .buildSlice ..=>true
 | .alloc _=>true
 | _=>false
def newAt (all:List Oper) (k:Nat):Bool:=match all[k]? with
 | some b=>K8 b
 | none=>false
def F7 (all:List Oper) (i k:Nat):Option (Nat × Nat):=match all[i]?,all[k]? with
 | some a,some b=>match uj a,rV b with
  | some s,some t=>if stays all i s && stays all k t then some (s,t) else none
  | _,_=>match rV a,uj b with
   | some t,some s=>if stays all i t && stays all k s then some (s,t) else none
   | _,_=>none
 | _,_=>none
def Ja (all:List Oper) (ls:List Nat) (i k:Nat):Option (Nat × Nat × Nat):=match all[i]?,all[k]? with
 | some a,some b=>match a.op,b.op,a.guard,b.guard with
  | .lookup t (.tmp m) (.tmp q) false,.mapEntry t' (.tmp m') (.tmp q'),none,none =>
   if t == t' && m == m' && q == q' && stays all i m && stays all i q && stays all k m && stays all k q && decide (i < k) && (List.range k).all λj=>decide (ls.getD j 2<=1) then some (t,m,q) else none
  | _,_,_,_=>none
 | _,_=>none
def I9 (all:List Oper) (ls:List Nat) (tp:Option (Nat × Nat)):List (Nat × Nat):=(lT all ls).filter λp=>!newAt all p.2 && tp != some p
def Cp (o:Oper):Option (Nat × Nat × Nat):=match o.op,o.guard,o.dst with
 | .call { callee:=.builtin .append,args,.. },none,some d=>match args.toList with
  | [.tmp t,.tmp y]=>some (t,y,d)
  | _=>none
 | _,_,_=>none
def GO (all:List Oper) (i k:Nat):Option (List (Nat × Nat)):=match all[i]?,all[k]? with
 | some a,some b=>match Cp a,Cp b with
  | some (t,y,d),some (t',y',_)=>if stays all i t && stays all i y && stays all (i+1) d && stays all k t' && stays all k y' then some [(t,t'),(t,y'),(t',y),(d,t')] else none
  | _,_=>none
 | _,_=>none
def Ct (all:List Oper) (i k:Nat):Option (List (Nat × Nat)):=match F7 all i k with
 | some p=>some [p]
 | none=>GO all i k
def yc (all:List Oper):List (Nat × Nat)->Option (List (Nat × Nat))
 | []=>some []
 | (i,k) :: r=>match Ct all i k,yc all r with
  | some p,some l=>some (p ++ l)
  | _,_=>none
def vV (g:SG):Bool:=match g.guard with
 | none=>true
 | some (d,_)=>g.ops.all λx=>x.1 != some d
def tW (P:Program) (n:Nat) (fz:Fz) (ops:List Oper) (draw quiet:Bool):Option SC:=match eh P n ops fz ops with
 | none=>none
 | some l=>if !(group l).all vV then none else
  if draw then (if nJ ops && Je ops (l.map λs=>jU P quiet s.b) then some (.region quiet (group l)) else none)
  else some (.region quiet (group l))
def FH (P:Program) (n:Nat) (fz:Fz) (ops:List Oper):Option SC:=match eh P n ops fz ops with
 | none=>none
 | some l=>if !(group l).all vV then none else
  if nJ ops then (FD ops (lT ops (l.map λs=>jU P false s.b))).map λaps=>.rL aps (group l) else none
def W9 (all:List Oper) (ls:List Nat):Option (Nat × Nat):=(lT all ls).find? λp=>(Ja all ls p.1 p.2).isSome
def D9 (P:Program) (n:Nat) (fz:Fz) (ops:List Oper):Option SC:=match eh P n ops fz ops with
 | none=>none
 | some l=>if !(group l).all vV then none else
  if nJ ops then
   (match W9 ops (l.map λs=>jU P false s.b) with
   | none=>(yc ops (I9 ops (l.map λs=>jU P false s.b) none)).map λaps=>.rL aps (group l)
   | some p=>match Ja ops (l.map λs=>jU P false s.b) p.1 p.2 with
    | some tol=>(yc ops (I9 ops (l.map λs=>jU P false s.b) (some p))).map λaps=>.Cn tol aps (group l)
    | none=>none)
  else none
def Y9:Nat:=100000
def Y6:Nat:=100001
def orElse':Option SC->Option SC->Option SC
 | some x,_=>some x
 | none,y=>y
def F0 (P:Program) (n:Nat) (fz:List Nat) (ops:List Oper) (draw:Bool):Option SC :=
 orElse' (tW P n ⟨fz,false⟩ ops draw false) (if draw then orElse' (if fz.contains Y9 then D9 P n ⟨fz,false⟩ ops else none) <| orElse' (if fz.contains Y6 then tW P n ⟨fz,true⟩ ops true false else none) <| orElse' (FH P n ⟨fz,false⟩ ops) (orElse' (tW P n ⟨fz,false⟩ ops true true) (orElse' (tW P n ⟨fz,true⟩ ops true false) (tW P n ⟨fz,true⟩ ops true true))) else none)
def dP (P:Program) (n:Nat) (fz:List Nat):Code->Option SC
 | .skip=>some .skip
 | .region _ ops draw=>F0 P n fz ops.toList draw
 | .seq x y=>match dP P n fz x,dP P n fz y with
  | some a,some b=>some (.seq a b)
  | _,_=>none
 | .cond c x y=>match dP P n fz x,dP P n fz y with
  | some a,some b=>some (.cond (SX.of c) a b)
  | _,_=>none
 | .block id c=>(dP P n fz c).map (.block id)
 | .loop c=>(dP P n fz c).map .loop
 | .exit id=>some (.exit id)
 | .ret=>some .ret
 | .scope c=>match dP P n fz c with
  | some sc=>match Kt sc with
   | some l=>(qv sc l).map λr=>.scope l sc r
   | none=>none
  | none=>none
 | .label l=>some (.label l)
 | .goto l=>some (.goto l)
 | _=>none
def j8 (h h':aE):Prop:=∀ id,id < h.length->h.view id=.dead->h'.view id=.dead
theorem j8.refl (h:aE):j8 h h:=λ_ _ e=>e
theorem j8.trans {a b c:aE} (h:j8 a b) (k:j8 b c) (f:a.length<=b.length):j8 a c:=λid d e=>k id (abd d f) (h id d e)
def aw (P:Program) (f:FuncId) (vs:List V) (H:View) (K:V->View->Prop):Prop :=
 ed P f=true/\∀ h:aE,h.view=H->∃ r h',bU P f vs h r h'/\j8 h h'/\K r h'.view
def Ez (P:Program) (f:FuncId) (vs:List V) (H:View) (K:V->View->Prop):Prop :=
 ed P f=true/\∀ h:aE,h.view=H->∃ r h',bU P f vs h r h'/\(∀ id,id < h.length->h'.view id=h.view id)/\K r h'.view
def kS (sz:Option Nat) (e:List V) (j:Nat) (K:V->Prop):Prop:=match sz with
 | some n=>j+n<=e.length/\K (.agg ((e.drop j).take n))
 | none=>j < e.length/\K (e.getD j .any)
def wI (P:Program) (s:SI) (T:Env) (H:View) (K:V->View->Prop):Prop:=match s with
 | .eJ x=>K (x.at T) H
 | .pick c a b=>match c.at T with
  | .val (.bool t)=>K (if t then a.at T else b.at T) H
  | _=>False
 | .box x=>(x.at T).cells.all aI=true/\∀ n,H n=.dead->K (.ptr n 0 0) (H.set n (.arr (x.at T).cells.length [(x.at T).cells]))
 | .ko x=>(x.at T).cells.all aI=true/\K (.aL (x.at T).cells 0) H
 | .alloc z=>z.all aI=true/\∀ n,H n=.dead->K (.ptr n 0 0) (H.set n (.arr z.length [z]))
 | .load sz a=>match a.at T with
  | .ptr id i j=>match H id with
   | .arr _ es=>i < es.length/\kS sz (es.getD i []) j λv=>K v H
   | _=>False
  | .aL e j=>kS sz e j λv=>K v H
  | _=>False
 | .Cl sz a=>match a.at T with
  | .aL e j=>kS sz e j λv=>K v H
  | _=>False
 | .store sz a x=>match a.at T with
  | .ptr id i j=>match H id with
   | .arr esz es=>(i < es.length/\(x.at T).cells.length=sz/\j+(x.at T).cells.length<=esz/\(x.at T).cells.all aI=true) /\
     K .any (H.set id (.arr esz (es.set i (gg (es.getD i []) j (x.at T).cells))))
   | _=>False
  | _=>False
 | .Dn x=>match x.at T with
  | .ptr id i j=>K (.ptr id i j) H
  | .aL e j=>K (.aL e j) H
  | .fn f a b=>K (.fn f a b) H
  | _=>False
 | .addr off x=>match x.at T with
  | .ptr id i j=>K (.ptr id i (j+off)) H
  | .aL e j=>K (.aL e (j+off)) H
  | _=>False
 | .field off sz x=>match x.at T with
  | .agg cs=>kS sz cs off λv=>K v H
  | _=>False
 | .idx sz x i=>match asNat (i.at T) with
  | none=>False
  | some q=>match x.at T with
   | .sl id off len esz=>(q < len/\esz=sz)/\K (.ptr id (off+q) 0) H
   | .aU es=>∃ e,es[q]?=some e/\e.length=sz/\K (.aL e 0) H
   | _=>False
 | .xl f first cap=>K (.fn f (first.map (SX.at T)) (cap.map (SX.at T))) H
 | .rY=>∀ n,H n=.dead->K (.mp n) (H.set n (.map [] 0))
 | .ext i x=>match x.at T with
  | .bf vs=>i < vs.length/\K (vs.getD i .any) H
  | _=>False
 | .len x=>match cT (x.at T) with
  | some n=>K (gG n) H
  | none=>False
 | .rN x=>match x.at T with
  | .val (.string s)=>K (gG s.size) H
  | _=>False
 | .arith op x y=>match x.at T,y.at T with
  | .val (.int k a),.val (.int k' b)=>k=k'/\(match iL op k a b with | some v=>K (.val v) H | none=>False)
  | _,_=>False
 | .Ae op x y=>match x.at T,y.at T with
  | .val (.string a),.val (.string b)=>(match op with
   | .eql=>K (.val (.bool (jT a b))) H
   | .neq=>K (.val (.bool (!jT a b))) H
   | _=>False)
  | _,_=>False
 | .jm x i=>match x.at T,asNat (i.at T) with
  | .val (.string s),some q=>∃ b,s.data.toList[q]?=some b/\K (.val (.int .u8 b.toNat)) H
  | _,_=>False
 | .not x=>match x.at T with
  | .val (.bool t)=>K (.val (.bool (!t))) H
  | _=>False
 | .nil eq k x y=>match Dt (fQ k (x.at T)) (fQ k (y.at T)) with
  | some b=>K (.val (.bool (if eq then b else !b))) H
  | none=>False
 | .beq eq x y=>match x.at T,y.at T with
  | .val (.bool a),.val (.bool b)=>K (.val (.bool (if eq then a == b else a != b))) H
  | _,_=>False
 | .mm mx x y=>match x.at T,y.at T with
  | .val (.int k a),.val (.int _ b)=>K (.val (.int k (if mx then (if b > a then b else a) else (if b < a then b else a)))) H
  | _,_=>False
 | .conv k x=>match x.at T with
  | .val (.int _ a)=>K (.val (.int k (k.wrap a))) H
  | _=>False
 | .sh l x y=>match x.at T,y.at T with
  | .val (.int k a),.val (.int _ b)=>0<=b/\K (.val (.int k (PI l k a b))) H
  | _,_=>False
 | .build z parts=>match nL z (parts.map λ(a,b,x)=>(a,b,x.at T)) with
  | some cs=>K (.agg cs) H
  | none=>False
 | .bJ len sz z parts=>match mH sz (List.replicate len z) (parts.map λ(i,x)=>(i,x.at T)) with
  | some es=>∀ n,H n=.dead->K (.sl n 0 len sz) (H.set n (.arr sz es))
  | none=>False
 | .slice sz x lo hi=>match dA sz (x.at T) (lo.map (SX.at T)) (hi.map (SX.at T)) with
  | some (v,.none,_)=>K v H
  | _=>False
 | .make sz bytes z l c=>match asNat (l.at T),asNat (c.at T) with
  | some l,some c=>(l<=c/\c < aC/\bytes * c < aC)/\(c=0->K (.emp 2) H)/\(c≠0->∀ n,H n=.dead->K (.sl n 0 l sz) (H.set n (.arr sz (List.replicate l z))))
  | _,_=>False
 | .app sz bytes x y=>match bR H (y.at T) with
  | some (xs,_)=>if xs.isEmpty=true then (match x.at T with
    | .emp k=>K (.emp k) H
    | .eD=>K .eD H
    | .aU es=>K (.aU es) H
    | .sl a b c d=>K (.sl a b c d) H
    | _=>False)
   else (xs.all λe=>e.length == sz && e.all aI)=true/\(match x.at T with
    | .emp _=>(xs.length * bytes < aC/\xs.length < aC)/\∀ n,H n=.dead->K (.sl n 0 xs.length sz) (H.set n (.arr sz xs))
    | .sl id off len esz=>match H id with
     | .arr _ es=>(off+len<=es.length/\esz=sz/\(len+xs.length) * bytes < aC/\len+xs.length < aC) /\
      ∀ n,H n=.dead->K (.sl n 0 (len+xs.length) esz) ((H.set id .dead).set n (.arr esz ((es.drop off).take len ++ xs)))
     | _=>False
    | _=>False)
  | none=>False
 | .GM x=>match x.at T with
  | .aU es=>(match l8 es with
   | some l=>K (.val (.string ⟨l.toArray⟩)) H
   | none=>False)
  | _=>False
 | .gV x=>match x.at T with
  | .val (.string s)=>K (.aU (iu s)) H
  | _=>False
 | s=>∀ n,H n=.dead->∃ v eff rd,sI P s T H n=some (v,eff,rd)/\K v (eff.view H n)
def wB (P:Program) (quiet:Bool) (b:SB) (T:Env) (H:View) (K:V->View->Prop):Prop:=match b with
 | .op s=>wI P s T H K
 | .call f args=>match f.at T with
  | .fn g first cap=>if quiet then Ez P g (first ++ args.map (SX.at T) ++ cap) H K else aw P g (first ++ args.map (SX.at T) ++ cap) H K
  | _=>False
 | .vQ f args=>match f.at T with
  | .fn g first cap=>Ez P g (first ++ args.map (SX.at T) ++ cap) H K
  | _=>False
def AX (P:Program) (quiet:Bool):List (Option Nat × SB)->Env->View->(Env->View->Prop)->Prop
 | [],T,H,K=>K T H
 | (d,b) :: r,T,H,K=>wB P quiet b T H λv H'=>AX P quiet r (T.put d v) H' K
def jz:List (Option Nat × SB)->Env->Env
 | [],T=>T
 | (d,_) :: r,T=>jz r (T.put d (.bf []))
def wG (P:Program) (quiet:Bool) (g:SG) (T:Env) (H:View) (K:Env->View->Prop):Prop:=match g.guard with
 | none=>AX P quiet g.ops T H K
 | some (d,want)=>match T d with
  | .val (.bool b)=>(b=want->AX P quiet g.ops (T.put (some d) (.val (.bool want))) H K)/\(b = !want->K (jz g.ops (T.put (some d) (.val (.bool (!want))))) H)
  | .bf []=>K (jz g.ops T) H
  | _=>False
def Av (P:Program) (quiet:Bool):List SG->Env->View->(Env->View->Prop)->Prop
 | [],T,H,K=>K T H
 | g :: r,T,H,K=>wG P quiet g T H λT' H'=>Av P quiet r T' H' K
def wC (c:SX) (b:Bool) (T:Env):Env:=match c with
 | .tmp t=>T.put (some t) (.val (.bool b))
 | _=>T
def C5:Exit->Prop->Prop->Prop
 | .normal,a,_=>a
 | _,_,b=>b
def iY (a b:V):Prop:=match a,b with
 | .ptr i _ _,.ptr j _ _=>i≠j
 | .ptr i _ _,.sl j _ _ _=>i≠j
 | .ptr _ _ _,.emp _=>True
 | .ptr _ _ _,.eD=>True
 | .ptr _ _ _,.aU _=>True
 | .aL _ _,_=>True
 | .sl i _ _ _,.sl j _ _ _=>i≠j
 | .sl _ _ _ _,.emp _=>True
 | .sl _ _ _ _,.eD=>True
 | .sl _ _ _ _,.aU _=>True
 | .emp _,_=>True
 | .eD,_=>True
 | .aU _,_=>True
 | _,_=>False
def Jx (P:Program) (t:TypeId) (m q:V) (H:View):Prop:=match m with
 | .mp id=>(∃ es c,H id=.map es c)/\∀ v obj rd,eY P t (.mp id) q H=some (v,.fU id obj,rd)->fS P t (.mp id) q false (H.set id obj)=fS P t (.mp id) q false H
 | _=>False
def Bi:List (Nat × Nat)->Env->Prop->Prop
 | [],_,K=>K
 | p :: l,T,K=>iY (T p.1) (T p.2)/\Bi l T K
def wS (P:Program):SC->Env->View->(Exit->Env->View->Prop)->Prop
 | .skip,T,H,Q=>Q .normal T H
 | .region quiet gs,T,H,Q=>Av P quiet gs T H (Q .normal)
 | .rL aps gs,T,H,Q=>Av P false gs T H λT' H'=>Bi aps T' (Q .normal T' H')
 | .Cn tol aps gs,T,H,Q=>Av P false gs T H λT' H'=>Jx P tol.1 (T' tol.2.1) (T' tol.2.2) H/\Bi aps T' (Q .normal T' H')
 | .seq x y,T,H,Q=>wS P x T H λe T' H'=>C5 e (wS P y T' H' Q) (Q e T' H')
 | .cond c x y,T,H,Q=>match c.at T with
  | .val (.bool b)=>(b=true->wS P x (wC c true T) H Q)/\(b=false->wS P y (wC c false T) H Q)
  | _=>False
 | .block id c,T,H,Q=>wS P c T H λe=>Q (sj id e)
 | .loop c,T,H,Q=>∃ I:Nat->Env->View->Prop,(∃ k,I k T H)/\∀ k T H,I k T H->wS P c T H λe T' H'=>C5 e (∃ k',k' < k/\I k' T' H') (Q e T' H')
 | .exit id,T,H,Q=>Q (.exit id) T H
 | .ret,T,H,Q=>Q .ret T H
 | .scope l c r,T,H,Q=>∃ (I:Nat->Env->View->Prop) (K:Nat),wS P c T H (λe T' H'=>Cy l e (∃ k,k < K/\I k T' H') (Q e T' H'))/\∀ k T H,I k T H->wS P r T H λe T' H'=>Cy l e (∃ k',k' < k/\I k' T' H') (Q e T' H')
 | .label _,T,H,Q=>Q .normal T H
 | .goto l,T,H,Q=>Q (.goto l) T H
def wR (T:Env) (H:View) (r:SR) (K:V->Prop):Prop:=match r with
 | .tmp t=>K (T t)
 | .cell t sz=>match T t with
  | .ptr id i j=>match H id with
   | .arr _ es=>i < es.length/\kS sz (es.getD i []) j K
   | _=>False
  | .aL e j=>kS sz e j K
  | _=>False
def EX (T:Env) (H:View):List SR->List V->(List V->Prop)->Prop
 | [],acc,K=>K acc
 | r :: l,acc,K=>wR T H r λv=>EX T H l (acc ++ [v]) K
def zO:List V->V
 | [v]=>v
 | vs=>.bf vs
def gz (P:Program):List ResultVar->Option (List SR)
 | []=>some []
 | .tmp t :: r=>(gz P r).map (.tmp t :: ·)
 | .cell a t :: r=>match FL P t,gz P r with
  | some k,some l=>some (.cell a k :: l)
  | _,_=>none
structure SF where
 code:SC
 res:List SR
 n:Nat
def ae:List SC->SC
 | []=>.skip
 | [a]=>a
 | a :: b :: l=>.seq a (ae (b :: l))
abbrev cD (k a b:Nat):Option Nat × SB:=(none,.op (.store k (.tmp a) (.tmp b)))
abbrev bT (a k:Nat):Option Nat × SB:=(some a,.op (.eJ (.val (.emp k))))
abbrev fD (d s b x y:Nat):Option Nat × SB:=(some d,.op (.app s b (.tmp x) (.tmp y)))
abbrev bb (a:Nat) (x:SC):SC:=.cond (.tmp a) x .skip
abbrev bX (a:Nat) (x:SC):SC:=.cond (.tmp a) .skip x
abbrev bZ (a:Nat) (x:SC):SC:=.block a (.loop x)
abbrev aa (a b:Nat):Option Nat × SB:=(some a,.op (.eJ (.tmp b)))
abbrev aR (a:Nat) (n:Int):Option Nat × SB:=(some a,.op (.eJ (.val (.val (.int .i64 n)))))
abbrev bB (a:Nat) (n:Bool):Option Nat × SB:=(some a,.op (.eJ (.val (.val (.bool n)))))
abbrev ak (a b:Nat):Option Nat × SB:=(some a,.op (.load none (.tmp b)))
abbrev aZ (a k b:Nat):Option Nat × SB:=(some a,.op (.load (some k) (.tmp b)))
abbrev ao (a k b:Nat):Option Nat × SB:=(some a,.op (.addr k (.tmp b)))
abbrev aO (a k b c:Nat):Option Nat × SB:=(some a,.op (.idx k (.tmp b) (.tmp c)))
abbrev cy (a b c:Nat):Option Nat × SB:=(some a,.op (.pick (.tmp b) (.val (.val (.bool true))) (.tmp c)))
abbrev eO (a b c:Nat):Option Nat × SB:=(some a,.op (.pick (.tmp b) (.tmp c) (.val (.val (.bool false)))))
abbrev aQ (a:Nat) (o:BinOp) (b c:Nat):Option Nat × SB:=(some a,.op (.arith o (.tmp b) (.tmp c)))
abbrev aF (a:Nat) (o:BinOp) (b:Nat) (n:Int):Option Nat × SB:=(some a,.op (.arith o (.tmp b) (.val (.val (.int .i64 n)))))
abbrev aN (a b:Nat):Option Nat × SB:=(some a,.op (.len (.tmp b)))
abbrev dr (a k b:Nat):Option Nat × SB:=(some a,.op (.ext k (.tmp b)))
abbrev c9 (a b:Nat):Option Nat × SB:=(some a,.op (.not (.tmp b)))
abbrev cF (a b:Nat):Option Nat × SB:=(some a,.op (.ko (.tmp b)))
abbrev fh (a b:Nat):Option Nat × SB:=(some a,.op (.Dn (.tmp b)))
abbrev qw (a f:Nat) (l:List SX):Option Nat × SB:=(some a,.call (.val (.fn f [] [])) l)
abbrev bk (a f:Nat) (l:List Nat):Option Nat × SB:=(some a,.call (.val (.fn f [] [])) (l.map .tmp))
abbrev ab (l:List (Option Nat × SB)):SC:=.region false [⟨none,l⟩]
def aP (P:Program) (f:FuncId) (fz:List Nat):Option SF:=match P.funcs[f]? with
 | some fn=>match fn.body with
  | some c=>match dP P fn.ntmps fz c,gz P fn.results.toList,ed P f with
   | some sc,some rs,true=>some ⟨sc,rs,fn.ntmps⟩
   | _,_,_=>none
  | none=>none
 | none=>none
theorem rQ {sz:Option Nat} {e:List V} {j:Nat} {K:V->Prop} (h:kS sz e j K):∃ v,oc sz e j=some v/\K v:=by
 cases sz with
 | none=>exact⟨_,by simp only[oc];rw[aaF h.1],h.2⟩
 | some n=>exact⟨_,by simp only[oc];rw[aaF h.1],h.2⟩
theorem Ze {P:Program} {s:SI} {T:Env} {H:View} {K:V->View->Prop} (h:wI P s T H K) {n:Nat} (r:H n=.dead) :
  ∃ v eff rd,sI P s T H n=some (v,eff,rd)/\K v (eff.view H n):=by
 unfold wI at h
 split at h
 .exact⟨_,_,_,rfl,h⟩
 .split at h
  .rename_i t D;exact⟨_,_,_,by simp only[sI,D];rfl,h⟩
  .exact h.elim
 .exact⟨_,_,_,by simp only[sI,nC];rw[aaF h.1],h.2 n r⟩
 .exact⟨_,_,_,by simp only[sI];rw[aaF h.1],h.2⟩
 .exact⟨_,_,_,by simp only[sI,nC];rw[aaF h.1],h.2 n r⟩
 .split at h
  .rename_i id i j u
   split at h
   .rename_i es hH
    obtain⟨h1,f⟩:=h
    obtain⟨v,o,hk⟩:=rQ f
    exact⟨_,_,_,by simp only[sI,yQ,u,hH];rw[aaF h1,o];rfl,hk⟩
   .exact h.elim
  .rename_i e j u
   obtain⟨v,o,hk⟩:=rQ h
   exact⟨_,_,_,by simp only[sI,yQ,u];rw[o];rfl,hk⟩
  .exact h.elim
 .split at h
  .rename_i e j u
   obtain⟨v,o,hk⟩:=rQ h
   exact⟨_,_,_,by simp only[sI,u];rw[o];rfl,hk⟩
  .exact h.elim
 .split at h
  .rename_i id i j u
   split at h
   .rename_i esz es hH
    exact⟨_,_,_,by simp only[sI,EH,u,hH];rw[aaF h.1],h.2⟩
   .exact h.elim
  .exact h.elim
 .split at h
  .rename_i d;exact⟨_,_,_,by simp only[sI,d];rfl,h⟩
  .rename_i d;exact⟨_,_,_,by simp only[sI,d];rfl,h⟩
  .rename_i d;exact⟨_,_,_,by simp only[sI,d];rfl,h⟩
  .exact h.elim
 .split at h
  .rename_i d;exact⟨_,_,_,by simp only[sI,Ch,d];rfl,h⟩
  .rename_i d;exact⟨_,_,_,by simp only[sI,Ch,d];rfl,h⟩
  .exact h.elim
 .split at h
  .rename_i cs d
   obtain⟨v,o,hk⟩:=rQ h
   exact⟨_,_,_,by simp only[sI,d,o];rfl,hk⟩
  .exact h.elim
 .split at h
  .exact h.elim
  .rename_i q y
   split at h
   .rename_i d;exact⟨_,_,_,by simp only[sI,Gt,y,d];rw[aaF h.1],h.2⟩
   .rename_i es d
    obtain⟨e,he,x,hk⟩:=h
    have A:q < es.length:=(aaR.1 he).1
    have B:es.getD q []=e:=by simp[aaA,he]
    exact⟨_,_,_,by simp only[sI,Gt,y,d];rw[B,aaF ⟨A,x⟩],hk⟩
   .exact h.elim
 .exact⟨_,_,_,rfl,h⟩
 .exact⟨_,_,_,rfl,h n r⟩
 .split at h
  .rename_i vs d;exact⟨_,_,_,by simp only[sI,d];rw[aaF h.1],h.2⟩
  .exact h.elim
 .split at h
  .rename_i m d;exact⟨_,_,_,by simp only[sI,d];rfl,h⟩
  .exact h.elim
 .split at h
  .rename_i s d;exact⟨_,_,_,by simp only[sI,d];rfl,h⟩
  .exact h.elim
 .split at h
  .rename_i k a F b d g
   obtain⟨rfl,h⟩:=h
   split at h
   .rename_i v o;exact⟨_,_,_,by simp only[sI,BW,d,g,if_true,o];rfl,h⟩
   .exact h.elim
  .exact h.elim
 .split at h
  .rename_i a b d g
   split at h
   .exact⟨_,_,_,by simp only[sI,DB,d,g];rfl,h⟩
   .exact⟨_,_,_,by simp only[sI,DB,d,g];rfl,h⟩
   .exact h.elim
  .exact h.elim
 .split at h
  .rename_i s q d y
   obtain⟨b,p,hk⟩:=h
   exact⟨_,_,_,by simp only[sI,D2,d,y,p];rfl,hk⟩
  .exact h.elim
 .split at h
  .rename_i t d;exact⟨_,_,_,by simp only[sI,d];rfl,h⟩
  .exact h.elim
 .split at h
  .rename_i b p;exact⟨_,_,_,by simp only[sI,p];rfl,h⟩
  .exact h.elim
 .split at h
  .rename_i d g;exact⟨_,_,_,by simp only[sI,d,g];rfl,h⟩
  .exact h.elim
 .split at h
  .rename_i d g;exact⟨_,_,_,by simp only[sI,d,g];rfl,h⟩
  .exact h.elim
 .split at h
  .rename_i d;exact⟨_,_,_,by simp only[sI,d];rfl,h⟩
  .exact h.elim
 .split at h
  .rename_i d g;exact⟨_,_,_,by simp only[sI,Ug,d,g];rw[aaD (by omega)],h.2⟩
  .exact h.elim
 .split at h
  .rename_i cs p;exact⟨_,_,_,by simp only[sI,p];rfl,h⟩
  .exact h.elim
 .split at h
  .rename_i es p;exact⟨_,_,_,by simp only[sI,Cv,p];rfl,h n r⟩
  .exact h.elim
 .split at h
  .rename_i v rd p;exact⟨_,_,_,by simp only[sI,p];rfl,h⟩
  .exact h.elim
 .split at h
  .rename_i l c x C
   obtain⟨h1,f,E⟩:=h
   by_cases e:c=0
   .exact⟨.emp 2,.none,[],by simp only[sI,E4,x,C];rw[aaF h1,aaF e],f e⟩
   .exact⟨_,_,_,by simp only[sI,E4,x,C];rw[aaF h1,aaD e],E e n r⟩
  .exact h.elim
 .split at h
  .rename_i xs rd w
   split at h
   .rename_i he
    split at h
    all_goals first
     | (rename_i d;exact⟨_,_,_,by simp only[sI,KZ,w];rw[aaF he,d],h⟩)
     | exact h.elim
   .rename_i he
    obtain⟨h1,f⟩:=h
    split at f
    .rename_i d
     exact⟨_,_,_,by simp only[sI,KZ,w];rw[aaD he,aaD (by rw[h1];simp),d];simp only;rw[aaF f.1],f.2 n r⟩
    .rename_i id off len esz d
     split at f
     .rename_i z es hH
      exact⟨_,_,_,by simp only[sI,KZ,w];rw[aaD he,aaD (by rw[h1];simp),d];simp only[hH];rw[aaF f.1],f.2 n r⟩
     .exact f.elim
    .exact f.elim
  .exact h.elim
 .split at h
  .rename_i d
   split at h
   .rename_i l x;exact⟨_,_,_,by simp only[sI,d,x];rfl,h⟩
   .exact h.elim
  .exact h.elim
 .split at h
  .rename_i d;exact⟨_,_,_,by simp only[sI,d];rfl,h⟩
  .exact h.elim
 .exact h n r
def mj (k:Nat) (rd wr:List Nat) (call:Bool) (n n':Nat):Prop :=
 (k=0->rd=[]/\wr=[]/\call=false/\n'=n)/\(k<=1->wr=[])
theorem Wn {k:Nat} (h:k=2) {rd wr:List Nat} {call:Bool} {n a:Nat} : mj k rd wr call n a:=⟨λb=>by omega,λb=>by omega⟩
theorem sQ {P:Program} {o:Oper} {T:Env} {v:V} {eff:bE} {rd:List Nat} (h:eE P o T=some (v,eff,rd)):eff=.none/\rd=[]:=by
 unfold eE at h
 split at h
 .split at h
  .split at h
   .simp at h;exact⟨h.2.1.symm,h.2.2⟩
   .simp at h
  .simp at h
 .simp at h
theorem UC {P:Program} {o:Oper} {T:Env} {H:View} {n:Nat} {v:V} {eff:bE} {rd:List Nat} (h:cH P o T H n=some (v,eff,rd)) :
  (Ck P o.op=0->eff=.none/\rd=[])/\(Ck P o.op=1->eff.wr=[]):=by
 unfold Ck
 split
 .rename_i s d x a
  simp only[cH,a] at h
  split
  .exact⟨λh=>by simp at h,λh=>by simp at h⟩
  .rename_i g
   rw[aaD g] at h
   exact⟨λ_=>sQ h,λh=>by simp at h⟩
 .rename_i b args j a
  simp only[cH,a] at h
  split
  any_goals exact⟨λ_=>sQ h,λh=>by simp at h⟩
  .refine⟨λh=>by simp at h,λ_=>?_⟩
   split at h
   .rename_i f
    split at h
    .simp only[wY] at h
     have c:∀ {v':V} {r:List Nat},some (v',bE.none,r)=some (v,eff,rd)->eff.wr=[]:=λe=>by
      simp only[aaC,aaG] at e;rw[<-e.2.1];rfl
     split at h
     .simp only[aaO] at h
      obtain⟨_,_,h⟩:=h
      exact c (abN some h)
     .split at h
      .split at h
       .exact c h
       .simp at h
      .exact c h
      .simp at h
     .split at h
      .exact c h
      .simp at h
     .exact c h
     .simp at h
    .simp at h
   any_goals simp at h
   all_goals contradiction
  .exact⟨λh=>by simp at h,λh=>by simp at h⟩
 .rename_i t m k ok a
  refine⟨λh=>by simp at h,λ_=>?_⟩
  simp only[cH,a,fS] at h
  have c:∀ {v':V} {r:List Nat},some (v',bE.none,r)=some (v,eff,rd)->eff.wr=[]:=λe=>by
   simp only[aaC,aaG] at e;rw[<-e.2.1];rfl
  split at h
  .simp at h
  .split at h
   .simp at h
   .split at h
    .split at h
     .split at h
      .split at h
       .exact c h
       .simp at h
      .exact c h
      .simp at h
     .simp at h
    .simp at h
 .rename_i op t x y u a
  refine⟨λ_=>?_,λh=>by simp at h⟩
  simp only[cH,a] at h
  split at h
  .split at h
   .simp at h;exact⟨h.2.1.symm,h.2.2⟩
   .simp at h;exact⟨h.2.1.symm,h.2.2⟩
   .simp at h
  .exact sQ h
 .rename_i op t x a
  exact⟨λ_=>sQ (by simpa only [cH,a] using h),λh=>by simp at h⟩
 .rename_i t x i a
  exact⟨λ_=>sQ (by simpa only [cH,a] using h),λh=>by simp at h⟩
 .exact⟨λh=>by simp at h,λh=>by simp at h⟩
theorem uq {P:Program} {s:SI} {T:Env} {H:View} {n:Nat} {v:V} {eff:bE} {rd:List Nat} (h:sI P s T H n=some (v,eff,rd)) :
  (vG P s=0->eff=.none/\rd=[])/\(vG P s=1->eff.wr=[]):=by
 have nn:∀ {v':V},some (v',bE.none,([]:List Nat))=some (v,eff,rd)->eff=.none/\rd=[]:=λe=>by
  simp only[aaC,aaG] at e;exact⟨e.2.1.symm,e.2.2.symm⟩
 have mp:∀ {α:Type} {x:Option α} {f:α->V},(x.map λa=>(f a,bE.none,([]:List Nat)))=some (v,eff,rd)->eff=.none/\rd=[]:=by
  intro α x f h
  simp only[aaO] at h
  obtain⟨a,_,h⟩:=h
  simp only[aaG] at h;exact⟨h.2.1.symm,h.2.2.symm⟩
 have nw:∀ {v':V} {o:dG} {r:List Nat},some (v',bE.new o,r)=some (v,eff,rd)->eff.wr=[]:=λe=>by
  simp only[aaC,aaG] at e;rw[<-e.2.1];rfl
 have n1:∀ {v':V} {r:List Nat},some (v',bE.none,r)=some (v,eff,rd)->eff.wr=[]:=λe=>by
  simp only[aaC,aaG] at e;rw[<-e.2.1];rfl
 unfold vG
 cases s <;> simp only[sI] at h
 case old op ty=>exact UC (o:=oper op ty) h
 all_goals
  constructor <;> intro hk <;> first
   | (exfalso;revert hk;simp;done)
   | skip
 all_goals try simp only[yQ,nC,Ch,Gt,dA,E4,Cv,BW,Ug,DB,D2] at h
 all_goals first
  | exact nn h
  | exact mp h
  | exact nw h
  | exact n1 h
  | skip
 all_goals repeat' (split at h)
 all_goals first
  | exact nn h
  | exact mp h
  | exact nw h
  | exact n1 h
  | (simp at h;done)
  | (simp only[aaO,aaG] at h;obtain⟨_,_,_,rfl,_⟩:=h;rfl)
end Gv
