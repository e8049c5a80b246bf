/-
  Part 4 of the proof: what the machine does and what the functions answer.
  Conditions: those that each lemma names.
-/
import Derived.Test.YtihmlbdfcmfbdaaGreatSGzB5C
set_option linter.unusedSimpArgs false
set_option linter.unusedVariables false
set_option maxRecDepth 100000
set_option maxHeartbeats 20000000
namespace Gv
open Go
inductive Tree:V->Prop
 | val (v:Value):Tree (.val v)
 | emp (k:Nat):Tree (.emp k)
 | ep:Tree .ep
 | aE (es:List (List V)):(∀ i j,i < es.length->j < (es.getD i []).length->Tree ((es.getD i []).getD j .any))->Tree (.aE es)
 | aH (e:List V) (j:Nat):(∀ k,k < e.length->Tree (e.getD k .any))->Tree (.aH e j)
 | fn (f:FuncId) (xs ys:List V):(∀ i,i < xs.length->Tree (xs.getD i .any))->(∀ i,i < ys.length->Tree (ys.getD i .any))->Tree (.fn f xs ys)
 | agg (cs:List V):(∀ i,i < cs.length->Tree (cs.getD i .any))->Tree (.agg cs)
 | bD (cs:List V):(∀ i,i < cs.length->Tree (cs.getD i .any))->Tree (.bD cs)
theorem Aa {Z:Nat->Prop} {μ u:Mu} {hp:Array Obj} {v:V} {x:Value} (h:aB Z μ hp v x):Tree v->aB Z u hp v x:=by
 induction h with
 | any x=>intro t;exact .any x
 | val v w=>intro _;exact .val v w
 | emp k a h1 n=>intro _;exact .emp k a h1 n
 | ep a cap=>intro _;exact .ep a cap
 | jE a cap h1=>intro _;exact .jE a cap h1
 | aE es b off esz cap c o hle m p _ g =>
  intro t
  cases t with
  | aE _ l=>exact .aE es b off esz cap c o hle m p (λi j hi s=>g i j hi s (l i j hi (by rw[m i hi];exact s)))
 | rr id off esz a=>intro t;cases t
 | sl id off len esz b o0 cap c e f hm hle z hs=>intro t;cases t
 | ptr id i j b o0 esz hm=>intro t;cases t
 | aH e j b off c o p _ g =>
  intro t
  cases t with
  | aH _ _ l=>exact .aH e j b off c o p (λk hk=>g k hk (l k hk))
 | mp id b o0 esz hm=>intro t;cases t
 | fn f xs ys d y h1 n _ _ q r =>
  intro t
  cases t with
  | fn _ _ _ t1 t2=>exact .fn f xs ys d y h1 n (λi hi=>q i hi (t1 i hi)) (λi hi=>r i hi (t2 i hi))
 | agg cs d h1 _ g =>
  intro t
  cases t with
  | agg _ l=>exact .agg cs d h1 (λi hi=>g i hi (l i hi))
 | bD cs d h1 _ g =>
  intro t
  cases t with
  | bD _ l=>exact .bD cs d h1 (λi hi=>g i hi (l i hi))
inductive Fr (h:aG):V->V->Prop
 | tree (v:V):Tree v->Fr h v v
 | emp (k:Nat):Fr h (.emp k) (.aE [])
 | sl (id off len esz z:Nat) (es es':List (List V)):h.view id=.arr z es->off+len<=es.length->es'.length=len ->
  (∀ i,i < len->(es'.getD i []).length=(es.getD (off+i) []).length) ->
  (∀ i j,i < len->j < (es'.getD i []).length->Fr h ((es.getD (off+i) []).getD j .any) ((es'.getD i []).getD j .any))->Fr h (.sl id off len esz) (.aE es')
 | ptr (id i j z:Nat) (es:List (List V)) (e':List V):h.view id=.arr z es->i < es.length->e'.length=(es.getD i []).length ->
  (∀ k,k < e'.length->Fr h ((es.getD i []).getD k .any) (e'.getD k .any))->Fr h (.ptr id i j) (.aH e' j)
 | agg (cs cs':List V):cs'.length=cs.length->(∀ i,i < cs.length->Fr h (cs.getD i .any) (cs'.getD i .any))->Fr h (.agg cs) (.agg cs')
 | bD (cs cs':List V):cs'.length=cs.length->(∀ i,i < cs.length->Fr h (cs.getD i .any) (cs'.getD i .any))->Fr h (.bD cs) (.bD cs')
theorem FO {h:aG} {Z:Nat->Prop} {μ u:Mu} {F:View} {hp:Array Obj} (hr:jj Z μ hp (cat h F)) {v t:V} (fr:Fr h v t):∀ {x:Value},aB Z μ hp v x->aB (λb=>Z b∨ko μ b) u hp t x:=by
 have l:∀ id,h.view id≠.dead->cat h F id=h.view id:=λid hd=>by simp only[cat];rw[aaw (jw hd)]
 induction fr with
 | tree v H =>
  intro x d
  have h1:aB Z u hp v x:=Aa d H
  exact h1.mono ⟨λ_ h=>.inl h,λ_ _=>rfl,λ_ _ h=>h,gI.refl _⟩
 | emp k=>intro x d;cases d with | emp _ a=>exact .jE a 0 (λ_=>rfl)
 | sl id off len esz z es es' hH hle hlen hl _ o =>
  intro x d
  cases d with
  | rr _ _ _ a =>
   have:es'=[]:=abQ.1 hlen
   subst this
   exact .jE a 0 (λ_=>rfl)
  | sl _ _ _ _ b o0 cap c e f hm G M hs =>
   have g:=hr.obj id
   rw[l id (by rw[hH];simp),hH] at g
   obtain⟨rfl,_,I,J⟩:=g b o0 esz hm
   have d:∀ i,∃ ci:Nat->Value,∀ j,j < esz->i < len->cellAt hp b (o0+off * esz+i * esz+j)=some (ci j)/\aB Z μ hp ((es.getD (off+i) []).getD j .any) (ci j):=by
    intro i
    by_cases hi:i < len
    .obtain⟨ci,A⟩:=qm (n:=esz) (p:=λj x=>cellAt hp b (o0+off * esz+i * esz+j)=some x/\aB Z μ hp ((es.getD (off+i) []).getD j .any) x) (λj m=>by
      obtain⟨x,d,B⟩:=J (off+i) j (by omega) m
      rw[abn,<-acm] at d
      exact⟨x,d,B⟩)
     exact⟨ci,λj m _=>A j m⟩
    .exact⟨λ_=>undef,λj _ h=>absurd h hi⟩
   obtain⟨K,q⟩:=Classical.axiomOfChoice d
   have r:∀ i,i < es'.length->(es'.getD i []).length=esz:=λi hi=>by rw[hl i (by omega)];exact I _ (by omega)
   have:=aB.aE (Z:=λb=>Z b∨ko μ b) (μ:=u) (hp:=hp) es' b (o0+off * esz) esz cap K (.inr ⟨id,o0,esz,hm⟩) (by omega) r
    (λi j hi m=>(q i j m (by omega)).1) (λi j hi m=>o i j (by omega) (by rw[r i hi];exact m) (q i j m (by omega)).2)
   rw[hlen] at this
   exact this
 | ptr id i j z es e' hH hi hlen _ o =>
  intro x d
  obtain⟨b,o0,sz,hm,rfl⟩:=pF (w:={ (default:World) with heap:=hp }) d
  have g:=hr.obj id
  rw[l id (by rw[hH];simp),hH] at g
  obtain⟨rfl,s⟩:=rowOf (w:={ (default:World) with heap:=hp }) g hm hi
  refine CS (w:={ (default:World) with heap:=hp }) (.inr ⟨id,o0,sz,hm⟩) (λk hk=>?_)
  obtain⟨y,L,B⟩:=s k (by omega)
  exact⟨y,L,o k hk B⟩
 | agg cs C hlen _ o =>
  intro x d
  cases d with
  | agg _ D h1 E=>exact .agg _ _ (by omega) (λi hi=>o i (by omega) (E i (by omega)))
 | bD cs C hlen _ o =>
  intro x d
  cases d with
  | bD _ D h1 E=>exact .bD _ _ (by omega) (λi hi=>o i (by omega) (E i (by omega)))
def az (P:Program) (f:FuncId) (vs:List V) (t:V):Prop :=
 ∀ Z μ (w:World) (xs:List Value),gX Z μ w.heap vs xs->(∀ b,Z b->b < w.heap.size) ->
  Calls P f xs.toArray w λe w'=>∃ x Z',e=.returned x/\(∀ ν,aB Z' ν w'.heap t x)/\fv w w'/\(∀ b,Z b->Z' b)/\(∀ b,Z' b->Z b∨(w.heap.size<=b/\b < w'.heap.size))/\ie w.heap w'.heap (λ_=>False)
theorem G3 (F:View):cat [] F=F:=by funext id;simp[cat]
theorem az.yX {P:Program} {f:FuncId} {vs:List V} {r t:V} {l:aG} (m:∀ v∈vs,Tree v) (n:cd P f vs [] r l) (p:Fr l r t):az P f vs t:=by
 intro Z μ w xs c q
 have d:gX Z (λ_=>none) w.heap vs xs:=⟨c.1,λi hi=>Aa (c.2 i hi) (by
  simp only[aaq,aar hi,aaL]
  exact m _ (aaC _))⟩
 have g:jj Z (λ_=>none) w.heap (cat [] λ_=>.dead):=by
  rw[G3]
  exact⟨λ_=>trivial,λi j b o s A B _ h=>by simp at h,λid b o s h=>by simp at h,q,λid b o s h=>by simp at h⟩
 refine(n.2 Z _ _ w xs d g (λ_ _ _=>rfl)).mono ?_
 rintro e w' ⟨x,u,μ',rfl,y,k,hex,_⟩
 refine⟨x,λb=>u b∨ko μ' b,rfl,λC=>FO k p y,hex.same,λb a=>.inl (hex.mono.z b a),?_,λb a _=>hex.frame b a (by rintro⟨_,_,_,h⟩;simp at h)⟩
 rintro b (a | ⟨id,o,s,a⟩)
 .rcases hex.UO b a with h1 | h1
  .exact .inl h1
  .exact .inr ⟨h1,k.dd b a⟩
 .rcases hex.FU _ _ _ _ a with h1 | ⟨_,h1 | ⟨_,_,_,h1⟩⟩
  .simp at h1
  .exact .inr ⟨h1,k.lt _ _ _ _ a⟩
  .simp at h1
theorem cd.ij {P:Program} {f:FuncId} {vs:List V} {t:V} (m:az P f vs t) (h:aG):cd P f vs h t h:=by
 refine⟨aaD _,λZ μ F w xs g hr j=>(m Z μ w xs g hr.dd).mono ?_⟩
 rintro e w' ⟨x,l,rfl,n,hs,p,a,i⟩
 have hm:iY Z l μ μ w.heap w'.heap:=⟨p,λb c=>i b (hr.dd b c) (λx=>x),λ_ _ h=>h,i.sZ⟩
 refine⟨x,l,μ,rfl,n μ,⟨λid=>(hr.obj id).mono hm rfl (λb o s d=>i b (hr.lt _ _ _ _ d) (λx=>x)),hr.inj,λid b o s d=>aa3 (hr.lt _ _ _ _ d) hs.size,λb c=>?_,λid b o s d k=>?_⟩,
  ⟨hs,hm,λb c _=>i b c (λx=>x),λb c=>?_,λ_ _ _ _ h=>.inl h⟩,λ_ _=>rfl⟩
 .rcases a b c with h1 | h1
  .exact aa3 (hr.dd b h1) hs.size
  .exact h1.2
 .rcases a b k with h1 | h1
  .exact hr.iR _ _ _ _ d h1
  .have:=hr.lt _ _ _ _ d;omega
 .rcases a b c with h1 | h1
  .exact .inl h1
  .exact .inr h1.1
structure St where
 L:List V
 h:aG
 wl:List Nat
def GK (l:List Nat) (x:Nat):Bool:=!l.contains x
def Gx (a b:Rec):Bool :=
 a.wr.all (GK b.rd) && b.wr.all (GK a.rd) && (!a.call || b.wr.isEmpty) && (!b.call || a.wr.isEmpty) && b.wr.all λid=>!(decide (a.lo<=id) && decide (id < a.hi))
section
variable {P:Program} {n:Nat}
theorem Rn {a b:Rec} (h:Gx a b=true):qN a b:=by
 unfold Gx at h
 simp only[aaB,aaX,GK,acF,abt] at h
 obtain⟨⟨⟨⟨h1,g⟩,e⟩,f⟩,i⟩:=h
 refine⟨λid d hm=>?_,λid d hm=>?_,λc=>?_,λc=>?_,λid d hm=>?_⟩
 .have:=h1 id d;simp at this;exact this hm
 .have:=g id d;simp at this;exact this hm
 .rcases e with e | e
  .rw[c] at e;simp at e
  .simpa using e
 .rcases f with f | f
  .rw[c] at f;simp at f
  .simpa using f
 .have:=i id d
  simp at this
  omega
end
inductive SX where
 | tmp (t:Nat)
 | val (v:V)
 deriving Inhabited
def SX.of:Operand->SX
 | .tmp t=>.tmp t
 | .const v=>.val (gC v)
 | .global _=>.val .any
 | .func f=>.val (.fn f [] [])
def SX.at (T:Env):SX->V
 | .tmp t=>T t
 | .val v=>v
theorem SX.c8 (T:Env) (x:Operand):(SX.of x).at T=ev T x:=by cases x <;> rfl
inductive SI where
 | eF (x:SX)
 | pick (c a b:SX)
 | box (x:SX)
 | kD (x:SX)
 | alloc (z:List V)
 | build (z:List V) (parts:List (Nat × Nat × SX))
 | bW (len sz:Nat) (z:List V) (parts:List (Nat × SX))
 | load (sz:Option Nat) (a:SX)
 | CF (sz:Option Nat) (a:SX)
 | store (sz:Nat) (a x:SX)
 | DP (x:SX)
 | addr (off:Nat) (x:SX)
 | field (off:Nat) (sz:Option Nat) (x:SX)
 | idx (sz:Nat) (x i:SX)
 | slice (sz:Nat) (x:SX) (lo hi:Option SX)
 | make (sz bytes:Nat) (z:List V) (l c:SX)
 | p9
 | rQ (f:FuncId) (first cap:List SX)
 | ext (i:Nat) (x:SX)
 | len (x:SX)
 | rJ (x:SX)
 | app (sz bytes:Nat) (x y:SX)
 | arith (op:BinOp) (x y:SX)
 | sh (left:Bool) (x y:SX)
 | AB (op:BinOp) (x y:SX)
 | jy (x i:SX)
 | not (x:SX)
 | nil (eq:Bool) (k:Nat) (x y:SX)
 | beq (eq:Bool) (x y:SX)
 | mm (mx:Bool) (x y:SX)
 | conv (k:IntKind) (x:SX)
 | GN (x:SX)
 | iq (x:SX)
 | old (op:Op) (ty:TypeId)
 deriving Inhabited
def oA:Option Nat->List V->Nat->Option V
 | some n,cs,off=>if off+n<=cs.length then some (.agg ((cs.drop off).take n)) else none
 | none,cs,off=>if off < cs.length then some (cs.getD off .any) else none
def zB (sz:Option Nat) (a:V) (H:View):Out:=match a with
 | .ptr id i j=>match H id with
  | .arr _ es=>if i < es.length then (oA sz (es.getD i []) j).map λv=>(v,.none,[id]) else none
  | _=>none
 | .aH e j=>(oA sz e j).map λv=>(v,.none,[])
 | _=>none
def EY (sz:Nat) (a v:V) (H:View):Out:=match a with
 | .ptr id i j=>match H id with
  | .arr esz es =>
   if i < es.length/\v.cells.length=sz/\j+v.cells.length<=esz/\v.cells.all aR=true
   then some (.any,.fQ id (.arr esz (es.set i (gu (es.getD i []) j v.cells))),[id]) else none
  | _=>none
 | _=>none
def ox (z:List V) (parts:List (Nat × Nat × V)):Option (List V):=match parts with
 | []=>some z
 | (off,size,x) :: r=>if x.cells.length=size/\off+size<=z.length/\x.cells.all aR=true then ox (gu z off x.cells) r else none
def CA (len sz:Nat) (z:List V) (parts:List (Nat × V)) (n:Nat):Out :=
 match ng sz (List.replicate len z) parts with
 | some es=>some (.sl n 0 len sz,.new (.arr sz es),[])
 | none=>none
def CC (off:Nat) (x:V):Out:=match x with
 | .ptr id i j=>some (.ptr id i (j+off),.none,[])
 | .aH e j=>some (.aH e (j+off),.none,[])
 | _=>none
def G8 (sz:Nat) (x i:V):Out:=match asNat i with
 | none=>none
 | some q=>match x with
  | .sl id off len esz=>if q < len/\esz=sz then some (.ptr id (off+q) 0,.none,[]) else none
  | .aE es=>if q < es.length/\(es.getD q []).length=sz then some (.aH (es.getD q []) 0,.none,[]) else none
  | _=>none
def dO (sz:Nat) (x:V) (lo hi:Option V):Out:=match x with
 | .sl id off len esz=>match bound 0 lo,bound len hi with
  | some l,some h=>if l<=h/\h<=len/\esz=sz then some (.sl id (off+l) (h - l) esz,.none,[]) else none
  | _,_=>none
 | .aE es=>match bound 0 lo,bound es.length hi with
  | some l,some h=>if l<=h/\h<=es.length/\(es.all λe=>e.length == sz)=true then some (.aE ((es.drop l).take (h - l)),.none,[]) else none
  | _,_=>none
 | .emp k=>match bound 0 lo,bound 0 hi with
  | some 0,some 0=>some (.emp k,.none,[])
  | _,_=>none
 | _=>none
def FL (sz bytes:Nat) (z:List V) (len cap:V) (n:Nat):Out:=match asNat len,asNat cap with
 | some l,some c =>
  if l<=c/\c < aD/\bytes * c < aD then
   (if c=0 then some (.emp 2,.none,[]) else some (.sl n 0 l sz,.new (.arr sz (List.replicate l z)),[]))
  else none
 | _,_=>none
def KP (sz bytes:Nat) (s x:V) (H:View) (n:Nat):Out:=match bQ H x with
 | some (xs,rd) =>
  if xs.isEmpty then (match s with
   | .emp _ | .ep | .aE _ | .sl _ _ _ _=>some (s,.none,[])
   | _=>none)
  else if ¬ ((xs.all λe=>e.length == sz && e.all aR)=true) then none
  else match s with
   | .emp _=>if xs.length * bytes < aD/\xs.length < aD then some (.sl n 0 xs.length sz,.new (.arr sz xs),rd) else none
   | .sl id off len esz=>match H id with
    | .arr _ es =>
     if off+len<=es.length/\esz=sz/\(len+xs.length) * bytes < aD/\len+xs.length < aD
     then some (.sl n 0 (len+xs.length) esz,.eF id (.arr esz ((es.drop off).take len ++ xs)),id :: rd) else none
    | _=>none
   | _=>none
 | none=>none
def jo (op:BinOp) (k:IntKind) (a b:Int):Option Value:=match op with
 | .add=>some (.int k (k.wrap (a+b)))
 | .sub=>some (.int k (k.wrap (a - b)))
 | .mul=>some (.int k (k.wrap (a * b)))
 | .quo=>if b=0 then none else some (.int k (k.wrap (a.tdiv b)))
 | .rem=>if b=0 then none else some (.int k (a.tmod b))
 | .eql=>some (.bool (a == b))
 | .neq=>some (.bool (a != b))
 | .lss=>some (.bool (a < b))
 | .leq=>some (.bool (a<=b))
 | .gtr=>some (.bool (a > b))
 | .geq=>some (.bool (a≥b))
 | .or=>some (.int k (k.wrap (BitVec.ofInt k.bits a ||| BitVec.ofInt k.bits b).toNat))
 | .and=>some (.int k (k.wrap (BitVec.ofInt k.bits a &&& BitVec.ofInt k.bits b).toNat))
 | .xor=>some (.int k (k.wrap (BitVec.ofInt k.bits a ^^^ BitVec.ofInt k.bits b).toNat))
 | .andNot=>some (.int k (k.wrap (BitVec.ofInt k.bits a &&& ~~~(BitVec.ofInt k.bits b)).toNat))
 | _=>none
def Bo (op:BinOp) (x y:V):Out:=match x,y with
 | .val (.int k a),.val (.int k' b)=>if k=k' then (jo op k a b).map λv=>(.val v,.none,[]) else none
 | _,_=>none
def G0 (left:Bool) (k:IntKind) (a b:Int):Int:=if left then k.wrap (a * 2 ^ (min b.toNat k.bits)) else a.fdiv (2 ^ (min b.toNat k.bits))
def Ru (left:Bool) (x y:V):Out:=match x,y with
 | .val (.int k a),.val (.int _ b)=>if b < 0 then none else some (.val (.int k (G0 left k a b)),.none,[])
 | _,_=>none
def VS:BinOp->Option Bool
 | .shl=>some true
 | .shr=>some false
 | _=>none
def j8 (a b:ByteArray):Bool:=a.data.toList == b.data.toList
def DD (op:BinOp) (x y:V):Out:=match x,y with
 | .val (.string a),.val (.string b)=>match op with
  | .eql=>some (.val (.bool (j8 a b)),.none,[])
  | .neq=>some (.val (.bool (!j8 a b)),.none,[])
  | _=>none
 | _,_=>none
def E5 (x i:V):Out:=match x,asNat i with
 | .val (.string s),some q=>match s.data.toList[q]? with
  | some b=>some (.val (.int .u8 b.toNat),.none,[])
  | none=>none
 | _,_=>none
def D7:Option Bool->Option Bool->Option Bool
 | some true,some b=>some b
 | some b,some true=>some b
 | _,_=>none
theorem NB {P:Program} {t:TypeId} {k:Nat} (h:kr P t=some k) (x y:V):GS P t x y=D7 (fV k x) (fV k y):=by
 simp only[GS,h]
 unfold D7
 split <;> simp_all
def oper (op:Op) (ty:TypeId):Oper:=⟨none,op,ty,"",#[],none⟩
theorem V3 (P:Program) (o:Oper) (T:Env) (H:View) (n:Nat):cD P (oper o.op o.type) T H n=cD P o T H n:=by
 cases o;rfl
def sI (P:Program) (s:SI) (T:Env) (H:View) (n:Nat):Out:=match s with
 | .eF x=>some (x.at T,.none,[])
 | .pick c a b=>match c.at T with
  | .val (.bool t)=>some (if t then a.at T else b.at T,.none,[])
  | _=>none
 | .box x=>nR (x.at T).cells n
 | .kD x=>if (x.at T).cells.all aR=true then some (.aH (x.at T).cells 0,.none,[]) else none
 | .alloc z=>nR z n
 | .build z parts=>(ox z (parts.map λ(a,b,x)=>(a,b,x.at T))).map λcs=>(.agg cs,.none,[])
 | .bW len sz z parts=>CA len sz z (parts.map λ(i,x)=>(i,x.at T)) n
 | .load sz a=>zB sz (a.at T) H
 | .CF sz a=>match a.at T with
  | .aH e j=>(oA sz e j).map λv=>(v,.none,[])
  | _=>none
 | .store sz a x=>EY sz (a.at T) (x.at T) H
 | .DP x=>match x.at T with
  | .ptr id i j=>some (.ptr id i j,.none,[])
  | .aH e j=>some (.aH e j,.none,[])
  | .fn f a b=>some (.fn f a b,.none,[])
  | _=>none
 | .addr off x=>CC off (x.at T)
 | .field off sz x=>match x.at T with
  | .agg cs=>(oA sz cs off).map λv=>(v,.none,[])
  | _=>none
 | .idx sz x i=>G8 sz (x.at T) (i.at T)
 | .slice sz x lo hi=>dO sz (x.at T) (lo.map (SX.at T)) (hi.map (SX.at T))
 | .make sz bytes z l c=>FL sz bytes z (l.at T) (c.at T) n
 | .p9=>some (.mp n,.new (.map [] 0),[])
 | .rQ f first cap=>some (.fn f (first.map (SX.at T)) (cap.map (SX.at T)),.none,[])
 | .ext i x=>match x.at T with
  | .bD vs=>if i < vs.length then some (vs.getD i .any,.none,[]) else none
  | _=>none
 | .len x=>(cU (x.at T)).map λn=>(iW n,.none,[])
 | .rJ x=>match x.at T with
  | .val (.string s)=>some (iW s.size,.none,[])
  | _=>none
 | .app sz bytes x y=>KP sz bytes (x.at T) (y.at T) H n
 | .arith op x y=>Bo op (x.at T) (y.at T)
 | .sh l x y=>Ru l (x.at T) (y.at T)
 | .AB op x y=>DD op (x.at T) (y.at T)
 | .jy x i=>E5 (x.at T) (i.at T)
 | .not x=>match x.at T with
  | .val (.bool t)=>some (.val (.bool (!t)),.none,[])
  | _=>none
 | .nil eq k x y=>match D7 (fV k (x.at T)) (fV k (y.at T)) with
  | some b=>some (.val (.bool (if eq then b else !b)),.none,[])
  | none=>none
 | .beq eq x y=>match x.at T,y.at T with
  | .val (.bool a),.val (.bool b)=>some (.val (.bool (if eq then a == b else a != b)),.none,[])
  | _,_=>none
 | .mm mx x y=>match x.at T,y.at T with
  | .val (.int k a),.val (.int _ b)=>some (.val (.int k (if mx then (if b > a then b else a) else (if b < a then b else a))),.none,[])
  | _,_=>none
 | .conv k x=>match x.at T with
  | .val (.int _ a)=>some (.val (.int k (k.wrap a)),.none,[])
  | _=>none
 | .GN x=>match x.at T with
  | .aE es=>(mE es).map λl=>(.val (.string ⟨l.toArray⟩),.none,[])
  | _=>none
 | .iq x=>match x.at T with
  | .val (.string s)=>some (.aE (iG s),.none,[])
  | _=>none
 | .old op ty=>cD P (oper op ty) T H n
def Ft (P:Program) (t:TypeId):Option (Option Nat):=match P.info? t,uF P t with
 | some i,some true=>some (some i.size)
 | some _,some false=>some none
 | _,_=>none
theorem yU {P:Program} {t:TypeId} {k:Option Nat} (h:Ft P t=some k) (cs:List V) (j:Nat):sA P t cs j=oA k cs j:=by
 unfold Ft at h
 split at h
 .rename_i i h1 a
  simp at h;subst h;simp[sA,h1,a,oA]
 .rename_i i h1 a
  simp at h;subst h;simp[sA,h1,a,oA]
 .simp at h
def sn (P:Program) (t:TypeId):Option (Nat × Nat × List V):=match dp P t with
 | some e=>match P.info? e,zeroCells P e with
  | some ti,some z=>if z.length=ti.size/\z.all aR=true/\ti.size≠0 then some (ti.size,ti.bytes,z) else none
  | _,_=>none
 | none=>none
theorem mT {P:Program} {t:TypeId} {sz a:Nat} {z:List V} (h:sn P t=some (sz,a,z)) :
  ∃ e ti,dp P t=some e/\P.underlying t=some (.slice e)/\P.info? e=some ti/\zeroCells P e=some z/\z.length=ti.size/\z.all aR=true/\ti.size≠0/\sz=ti.size/\a=ti.bytes:=by
 unfold sn at h
 split at h
 .rename_i e he
  split at h
  .rename_i ti f h1 c
   split at h
   .rename_i b
    simp at h
    obtain⟨rfl,rfl,rfl⟩:=h
    have hu:P.underlying t=some (.slice e):=by
     unfold dp at he;split at he
     .rename_i d;simp at he;subst he;exact d
     .simp at he
    exact⟨e,ti,he,hu,h1,c,b.1,b.2.1,b.2.2,rfl,rfl⟩
   .simp at h
  .simp at h
 .simp at h
def yC (P:Program) (t:TypeId):List (Nat × Operand)->Option (List (Nat × Nat × SX))
 | []=>some []
 | (i,x) :: r=>match placeOf P t i,yC P t r with
  | some (a,b),some l=>some ((a,b,SX.of x) :: l)
  | _,_=>none
def comp (P:Program) (o:Oper):SI:=match o.op with
 | .move x | .assign x=>.eF (SX.of x)
 | .pick c a b=>.pick (SX.of c) (SX.of a) (SX.of b)
 | .alloc e=>match zeroCells P e with
  | some z=>.alloc z
  | none=>.old o.op o.type
 | .box _ x=>.box (SX.of x)
 | .load t a=>match Ft P t with
  | some k=>.load k (SX.of a)
  | none=>.old o.op o.type
 | .store t a v=>match P.info? t with
  | some _=>.store (P.cellsOf t) (SX.of a) (SX.of v)
  | none=>.old o.op o.type
 | .nilCheck x=>.DP (SX.of x)
 | .fieldAddr t x f=>match rU P t f with
  | some (off,s,_)=>if s=0 then .old o.op o.type else .addr off (SX.of x)
  | none=>.old o.op o.type
 | .field t x f=>match rU P t f with
  | some (off,_,ft)=>match Ft P ft with
   | some k=>.field off k (SX.of x)
   | none=>.old o.op o.type
  | none=>.old o.op o.type
 | .indexAddr t x i=>match sn P t with
  | some (sz,_,_)=>.idx sz (SX.of x) (SX.of i)
  | none=>.old o.op o.type
 | .slice t x lo hi none=>match sn P t with
  | some (sz,_,_)=>.slice sz (SX.of x) (lo.map SX.of) (hi.map SX.of)
  | none=>.old o.op o.type
 | .makeSlice t l c=>match sn P t with
  | some (sz,b,z)=>.make sz b z (SX.of l) (SX.of c)
  | none=>.old o.op o.type
 | .makeMap _ none=>.p9
 | .makeFunc (.func f) first cap=>.rQ f (first.toList.map SX.of) (cap.toList.map SX.of)
 | .extract t i=>.ext i (SX.of t)
 | .build t parts=>match P.underlying t,zeroV P t with
  | some (.struct _),some (.agg z)=>if og P t=true then
    (match yC P t parts.toList with
    | some ps=>.build z ps
    | none=>.old o.op o.type) else .old o.op o.type
  | _,_=>.old o.op o.type
 | .buildSlice t len parts=>match sn P t with
  | some (sz,_,z)=>if len=0/\parts.toList.isEmpty=true then .eF (.val (.emp 2)) else if len * sz<=2 ^ 24/\len≠0 then .bW len sz z (parts.toList.map λ(i,x)=>(i,SX.of x)) else .old o.op o.type
  | none=>.old o.op o.type
 | .call { callee:=.builtin b,args,argTypes }=>match b,args.toList with
  | .len,[x]=>if 1<=argTypes.size then (match P.underlying (argTypes.getD 0 0) with
   | some (.slice _)=>.len (SX.of x)
   | some .string=>.rJ (SX.of x)
   | _=>.old o.op o.type) else .old o.op o.type
  | .append,[s,x]=>if 2<=argTypes.size/\se P (argTypes.getD 1 0)=true then (match sn P (argTypes.getD 0 0) with
   | some (sz,b,_)=>.app sz b (SX.of s) (SX.of x)
   | none=>.old o.op o.type) else .old o.op o.type
  | .min,[x,y]=>.mm false (SX.of x) (SX.of y)
  | .max,[x,y]=>.mm true (SX.of x) (SX.of y)
  | _,_=>.old o.op o.type
 | .convert s d x=>match P.underlying s,P.underlying d with
  | some (.int _),some (.int k)=>.conv k (SX.of x)
  | _,_=>.old o.op o.type
 | .binOp op t x y _=>match kr P t with
  | some k=>match op with
   | .eql=>.nil true k (SX.of x) (SX.of y)
   | .neq=>.nil false k (SX.of x) (SX.of y)
   | _=>.old o.op o.type
  | none=>match P.underlying t with
   | some (.int _)=>match VS op with
    | some l=>.sh l (SX.of x) (SX.of y)
    | none=>.arith op (SX.of x) (SX.of y)
   | some .string=>.AB op (SX.of x) (SX.of y)
   | some .bool=>match op with
    | .eql=>.beq true (SX.of x) (SX.of y)
    | .neq=>.beq false (SX.of x) (SX.of y)
    | _=>.old o.op o.type
   | _=>.old o.op o.type
 | .unOp .not _ x=>.not (SX.of x)
 | .index t x i=>match P.underlying t with
  | some .string=>.jy (SX.of x) (SX.of i)
  | _=>.old o.op o.type
 | _=>.old o.op o.type
theorem IN {P:Program} {t:TypeId} {T:Env} : ∀ (parts:List (Nat × Operand)) (c:List (Nat × Nat × SX)) (z:List V),yC P t parts=some c ->
  zo (placeOf P t) z (parts.map λ(i,x)=>(i,ev T x))=ox z (c.map λ(a,b,x)=>(a,b,x.at T))
 | [],c,z,h=>by simp[yC] at h;subst h;rfl
 | (i,x) :: r,c,z,h=>by
  simp only[yC] at h
  split at h
  .rename_i a b l h1 d
   simp at h;subst h
   simp only[aaW,zo,h1,ox,SX.c8]
   split
   .exact IN r l _ d
   .rfl
  .simp at h
theorem Mn {P:Program} {o:Oper} {T:Env} {op:BinOp} {t u:TypeId} {x y:Operand} {k:IntKind} {a b:Int} {r:Value} (c:o.op=.binOp op t x y u) (d:ev T x=.val (.int k a)) (e:ev T y=.val (.int k b)) (h:jo op k a b=some r) :
  eo P o T=some (.val r,.none,[]):=by
 unfold eo
 simp only[c,Op.operands]
 simp only[d,e,dH]
 cases op <;> simp only[jo,aau,reduceCtorEq] at h
 all_goals first
  | (
   split at h
   .simp at h
   .rename_i f
    simp at h;subst h
    simp[execOp,c,d,e,dH,eqGuard,binOp,Op.intDiv,f,plain]
    try rfl)
  | (subst h;simp[execOp,c,d,e,dH,eqGuard,binOp,Op.intArith,Op.intCmp,Op.intBits,plain];try rfl)
theorem Uw {P:Program} {o:Oper} {T:Env} {op:BinOp} {t u:TypeId} {x y:Operand} {l:Bool} {v:V} {eff:bH} {rd:List Nat} (c:o.op=.binOp op t x y u) (hs:VS op=some l) (h:Ru l (ev T x) (ev T y)=some (v,eff,rd)) :
  eo P o T=some (v,eff,rd):=by
 unfold Ru at h
 split at h
 .rename_i k a g b d e
  split at h
  .simp at h
  .rename_i f
   simp only[aau,aay] at h
   obtain⟨rfl,rfl,rfl⟩:=h
   unfold eo
   simp only[c,Op.operands]
   simp only[d,e,dH]
   cases op <;> simp only[VS,aau,reduceCtorEq] at hs
   all_goals
    subst hs
    simp[execOp,c,d,e,dH,eqGuard,binOp,Op.shift,f,plain,G0]
    try rfl
 .simp at h
theorem Ss {P:Program} {o:Oper} {T:Env} {op:BinOp} {t u:TypeId} {x y:Operand} {v:V} {eff:bH} {rd:List Nat} (c:o.op=.binOp op t x y u) (h:DD op (ev T x) (ev T y)=some (v,eff,rd)) :
  eo P o T=some (v,eff,rd):=by
 unfold DD at h
 split at h
 .rename_i a b d e
  unfold eo
  simp only[c,Op.operands,d,e,dH]
  have he:(a.toList == b.toList)=j8 a b:=by simp[j8,ByteArray.toList_eq]
  split at h
  .simp at h;obtain⟨rfl,rfl,rfl⟩:=h
   simp[execOp,c,d,e,dH,eqGuard,binOp,Op.stringOp,plain,<-he];rfl
  .simp at h;obtain⟨rfl,rfl,rfl⟩:=h
   simp[execOp,c,d,e,dH,eqGuard,binOp,Op.stringOp,plain,<-he];rfl
  .simp at h
 .simp at h
theorem Ql {P:Program} {o:Oper} {T:Env} {t:TypeId} {x i:Operand} {v:V} {eff:bH} {rd:List Nat} (d:o.op=.index t x i) (hu:P.underlying t=some .string) (h:E5 (ev T x) (ev T i)=some (v,eff,rd)) :
  eo P o T=some (v,eff,rd):=by
 unfold E5 at h
 split at h
 .rename_i s q e hq
  split at h
  .rename_i b j
   simp at h;obtain⟨rfl,rfl,rfl⟩:=h
   unfold asNat at hq
   split at hq
   .rename_i k z f
    split at hq
    .rename_i g
     simp at hq;subst hq
     have hs:s[z.toNat]?=some b:=by
      obtain⟨a,rfl⟩:=aaG.1 j
      have c:z.toNat < s.size:=by rw[bsize] at a;exact a
      rw[getElem?_pos s z.toNat c]
      rfl
     unfold eo
     simp only[d,Op.operands,e,f,dH]
     simp[execOp,d,e,f,dH,Instr.index,asIntOf,underlying,program,hu,g,hs,plain]
     simp[bL,hu,g,hs,plain,bind,Sem.bind,pure]
     rfl
    .simp at hq
   .simp at hq
  .simp at h
 .simp at h
theorem RL {P:Program} {o:Oper} {T:Env} {t:TypeId} {x:Operand} {b:Bool} (a:o.op=.unOp .not t x) (c:ev T x=.val (.bool b)) :
  eo P o T=some (.val (.bool (!b)),.none,[]):=by
 unfold eo
 simp only[a,Op.operands,c,dH]
 simp[execOp,a,c,dH,Op.unary,plain]
 rfl
theorem ki {α β:Type} (P:Program) (s:Sem α) (f:α->β):bL P (Functor.map f s)=(bL P s).map f:=by
 show bL P (s >>= λa=>pure (f a))=_
 rw[bE]
 cases bL P s <;> rfl
theorem eW {P:Program} {t:TypeId} {d:TypeDesc} (h:P.underlying t=some d):bL P (underlying t)=some d:=by
 simp only[underlying,program,bE]
 simp[bL,h]
 rfl
theorem Ax {P:Program} {t:TypeId} {a b:Bool} (hu:P.underlying t=some .bool):bL P (Op.equal t (.bool a) (.bool b))=some (a == b):=by
 rw[nB]
 generalize 9999=d
 simp only[Op.equalIn,bE,eW hu,abf]
 rfl
theorem I1 {P:Program} {o:Oper} {T:Env} {op:BinOp} {t u:TypeId} {x y:Operand} {a b:Bool} {r:Bool} (c:o.op=.binOp op t x y u) (hu:P.underlying t=some .bool) (d:ev T x=.val (.bool a)) (e:ev T y=.val (.bool b))
  (hr:(op=.eql/\r=(a == b))∨(op=.neq/\r=(a != b))) :
  eo P o T=some (.val (.bool r),.none,[]):=by
 unfold eo
 simp only[c,Op.operands,d,e,dH]
 rcases hr with ⟨rfl,rfl⟩ | ⟨rfl,rfl⟩
 .simp[execOp,c,d,e,dH,eqGuard,binOp,ki,bE,Ax hu,plain]
  try simp[bL,pure,plain]
 .simp[execOp,c,d,e,dH,eqGuard,binOp,ki,bE,Ax hu,plain]
  try simp[bL,pure,plain,bne]
theorem P8 {P:Program} {o:Oper} {T:Env} {s d:TypeId} {x:Operand} {f k b:IntKind} {a:Int} (c:o.op=.convert s d x) (hs:P.underlying s=some (.int f)) (hd:P.underlying d=some (.int k)) (e:ev T x=.val (.int b a)) :
  eo P o T=some (.val (.int k (k.wrap a)),.none,[]):=by
 unfold eo
 simp only[c,Op.operands,e,dH]
 have:bL P (convert s d (.int b a))=some (.int k (k.wrap a)):=by
  simp only[convert,bE,eW hs,eW hd,abf]
  rfl
 simp[execOp,c,e,dH,ki,this,plain]
theorem Kf {P:Program} {o:Oper} {T:Env} {bi:Builtin} {x y:Operand} {k d:IntKind} {a b:Int} {args:Array Operand} {c:Array TypeId} {r:Int} (e:o.op=.call { callee:=.builtin bi,args:=args,argTypes:=c }) (h:args.toList=[x,y])
  (f:ev T x=.val (.int k a)) (g:ev T y=.val (.int d b)) (hr:(bi=.max/\r=if b > a then b else a)∨(bi=.min/\r=if b < a then b else a)) :
  eo P o T=some (.val (.int k r),.none,[]):=by
 obtain rfl:args = #[x,y]:=by rw[<-Array.toArray_toList (xs:=args),h]
 unfold eo
 rcases hr with ⟨rfl,rfl⟩ | ⟨rfl,rfl⟩
 .have:bL P (Builtin.max_ c o.type #[.int k a,.int d b])=some (.int k (if b > a then b else a)):=rfl
  simp[e,Op.operands,Call.operands,f,g,dH,execOp,resolve,invoke,builtin,ki,this,plain]
 .have:bL P (Builtin.min_ c o.type #[.int k a,.int d b])=some (.int k (if b < a then b else a)):=rfl
  simp[e,Op.operands,Call.operands,f,g,dH,execOp,resolve,invoke,builtin,ki,this,plain]
theorem EW (l:List Operand) (T:Env):(l.map SX.of).map (SX.at T)=l.map (ev T):=by
 rw[List.map_map];congr 1;funext x;exact SX.c8 T x
theorem XG (l:Option Operand) (T:Env):(l.map SX.of).map (SX.at T)=l.map (ev T):=by
 cases l <;> simp[SX.c8]
theorem W8 (l:List (Nat × Operand)) (T:Env):(l.map λ(i,x)=>(i,SX.of x)).map (λ(i,x)=>(i,SX.at T x))=l.map λ(i,x)=>(i,ev T x):=by
 rw[List.map_map];congr 1;funext x;simp[SX.c8]
theorem OK {P:Program} {o:Oper} {T:Env} {H:View} {n:Nat} {v:V} {eff:bH} {rd:List Nat} (h:sI P (comp P o) T H n=some (v,eff,rd)) :
  cD P o T H n=some (v,eff,rd):=by
 have old:∀ {s:SI},s=.old o.op o.type->sI P s T H n=some (v,eff,rd)->cD P o T H n=some (v,eff,rd):=λe h=>by rw[e] at h;simp only[sI,V3] at h;exact h
 unfold comp at h
 split at h
 .rename_i x g;simp only[sI,SX.c8] at h;simp only[cD,g];exact h
 .rename_i x g;simp only[sI,SX.c8] at h;simp only[cD,g];exact h
 .rename_i c a b g;simp only[sI,SX.c8] at h;simp only[cD,g];exact h
 .rename_i e g
  split at h
  .rename_i z Q;simp only[sI] at h;simp only[cD,g,Q];exact h
  .exact old rfl h
 .rename_i t x g;simp only[sI,SX.c8] at h;simp only[cD,g];exact h
 .rename_i t a g
  split at h
  .rename_i k hk
   simp only[sI,SX.c8,zB] at h
   simp only[cD,g,oz,yU hk]
   exact h
  .exact old rfl h
 .rename_i t a x g
  split at h
  .rename_i ti R
   simp only[sI,SX.c8,EY] at h
   simp only[cD,g,td,R,Option.isSome_some,and_true]
   exact h
  .exact old rfl h
 .rename_i x g;simp only[sI,SX.c8] at h;simp only[cD,g];exact h
 .rename_i t x f g
  split at h
  .rename_i off s Y I
   split at h
   .exact old rfl h
   .rename_i hs
    simp only[sI,SX.c8,CC] at h
    simp only[cD,g,na,I,hs,if_false]
    exact h
  .exact old rfl h
 .rename_i t x f g
  split at h
  .rename_i off s Y I
   split at h
   .rename_i k hk
    simp only[sI,SX.c8] at h
    simp only[cD,g,yD,I]
    split at h
    .rename_i cs S;simp only[S,yU hk];exact h
    .simp at h
   .exact old rfl h
  .exact old rfl h
 .rename_i t x i g
  split at h
  .rename_i sz b z hk
   obtain⟨e,ti,h1,J,w,D,K,N,L,rfl,rfl⟩:=mT hk
   simp only[sI,SX.c8,G8] at h
   simp only[cD,g,nC,J,w]
   exact h
  .exact old rfl h
 .rename_i t x lo hi g
  split at h
  .rename_i sz b z hk
   obtain⟨e,ti,h1,J,w,D,K,N,L,rfl,rfl⟩:=mT hk
   simp only[sI,SX.c8,XG] at h
   simp only[cD,g]
   have q:uQ P t (ev T x) (lo.map (ev T)) (hi.map (ev T)) none=some (v,eff,rd):=by
    simp only[uQ,h1,w]
    unfold dO at h
    split at h
    .rename_i p;rw[p];exact h
    .rename_i p;rw[p];exact h
    .rename_i p;rw[p];exact h
    .simp at h
   unfold dO at h
   split at h
   .rename_i p;rw[p] at q ⊢;exact q
   .rename_i p;rw[p] at q ⊢;exact q
   .rename_i p;rw[p] at q ⊢;exact q
   .simp at h
  .exact old rfl h
 .rename_i t l c g
  split at h
  .rename_i sz b z hk
   obtain⟨e,ti,h1,J,w,D,K,N,L,rfl,rfl⟩:=mT hk
   simp only[sI,SX.c8,FL] at h
   simp only[cD,g,ni,h1,w]
   split at h
   .rename_i l' c' hl G
    simp only[hl,G,L,if_false,D,K,N,and_self,if_true]
    exact h
   .simp at h
  .exact old rfl h
 .rename_i t g;simp only[sI] at h;simp only[cD,g];exact h
 .rename_i f first cap g;simp only[sI,EW] at h;simp only[cD,g];exact h
 .rename_i t i g;simp only[sI,SX.c8] at h;simp only[cD,g];exact h
 .rename_i t parts g
  split at h
  .rename_i fs z h1 J
   split at h
   .rename_i w
    split at h
    .rename_i Z D
     simp only[sI] at h
     simp only[cD,g,x5,h1,J,w,if_true]
     have:=IN (T:=T) parts.toList Z z D
     rw[this]
     exact h
    .exact old rfl h
   .exact old rfl h
  .exact old rfl h
 .rename_i t len parts g
  split at h
  .rename_i sz b z hk
   obtain⟨e,ti,h1,J,w,D,K,N,L,rfl,rfl⟩:=mT hk
   split at h
   .rename_i G
    obtain⟨rfl,G⟩:=G
    simp only[sI,SX.at] at h
    simp only[cD,g,ju,h1,w]
    rw[List.isEmpty_iff] at G
    rw[aat (by omega),aaw trivial,G]
    exact h
   split at h
   .rename_i G
    simp only[sI,W8,CA] at h
    simp only[cD,g,ju,h1,w]
    rw[aat (by omega),aat G.2,aat L]
    simp only[D,K,N,and_self,if_true]
    exact h
   .exact old rfl h
  .exact old rfl h
 .rename_i b args an g
  split at h
  .rename_i x j
   split at h
   .rename_i E
    simp only[cD,g,j,E,if_true,xh]
    split at h
    .rename_i e hu
     simp only[sI,SX.c8] at h
     simp only[hu];exact h
    .rename_i hu
     simp only[sI,SX.c8] at h
     simp only[hu]
     exact h
    .have:=old rfl h
     simpa only [cD,g,j,E,if_true,xh] using this
   .exact old rfl h
  .rename_i s x j
   split at h
   .rename_i E
    split at h
    .rename_i sz b z hk
     obtain⟨e,ti,h1,J,w,D,K,N,L,rfl,rfl⟩:=mT hk
     simp only[sI,SX.c8] at h
     simp only[cD,g,j]
     rw[aaw E]
     unfold KP at h
     split at h
     .rename_i xs aq U
      simp only[oY,h1,U,w]
      have Q:(zeroCells P e).map List.length=some ti.size:=by rw[D];simp[K]
      split at h
      .rename_i A;rw[aaw A];exact h
      .rename_i A
       rw[aat A]
       split at h
       .simp at h
       .rename_i O
        rw[aat (by
         rintro (p | p | p)
         .exact L p
         .exact p Q
         .exact O p)]
        exact h
     .simp at h
    .exact old rfl h
   .exact old rfl h
  .rename_i x y j
   simp only[sI,SX.c8] at h
   simp only[cD,g]
   split at h
   .rename_i k a W b B F
    have:=Kf (P:=P) (T:=T) g j B F (.inr ⟨rfl,rfl⟩)
    rw[this];exact h
   .simp at h
  .rename_i x y j
   simp only[sI,SX.c8] at h
   simp only[cD,g]
   split at h
   .rename_i k a W b B F
    have:=Kf (P:=P) (T:=T) g j B F (.inl ⟨rfl,rfl⟩)
    rw[this];exact h
   .simp at h
  .exact old rfl h
 .rename_i s d x g
  split at h
  .rename_i k0 k hs hd
   simp only[sI,SX.c8] at h
   simp only[cD,g]
   split at h
   .rename_i W a B
    have M:¬ (mj P s d=true):=by simp[mj,hs,hd]
    rw[aat M,P8 g hs hd B];exact h
   .simp at h
  .exact old rfl h
 .rename_i op t x y u g
  split at h
  .rename_i k hk
   have C:(kr P t).isSome=true:=by rw[hk];rfl
   split at h
   .simp only[sI,SX.c8] at h
    simp only[cD,g]
    rw[aaw C,NB hk]
    split at h
    .rename_i b M;rw[M];simpa using h
    .simp at h
   .simp only[sI,SX.c8] at h
    simp only[cD,g]
    rw[aaw C,NB hk]
    split at h
    .rename_i b M;rw[M];simpa using h
    .simp at h
   .exact old rfl h
  .rename_i hk
   have m:¬ ((kr P t).isSome=true):=by rw[hk];simp
   split at h
   .split at h
    .rename_i l hs
     simp only[sI,SX.c8] at h
     simp only[cD,g]
     rw[aat m]
     exact Uw g hs h
    .simp only[sI,SX.c8,Bo] at h
     simp only[cD,g]
     split at h
     .rename_i k a W b B F
      split at h
      .rename_i X
       subst X
       simp only[aaF] at h
       obtain⟨r,hr,h⟩:=h
       rw[aat m,Mn g B F hr];exact abk some h
      .simp at h
     .simp at h
   .simp only[sI,SX.c8] at h
    simp only[cD,g]
    rw[aat m]
    exact Ss g h
   .rename_i hu
    split at h
    .simp only[sI,SX.c8] at h
     simp only[cD,g]
     split at h
     .rename_i a b B F
      rw[aat m,I1 g hu B F (.inl ⟨rfl,rfl⟩)];simpa using h
     .simp at h
    .simp only[sI,SX.c8] at h
     simp only[cD,g]
     split at h
     .rename_i a b B F
      rw[aat m,I1 g hu B F (.inr ⟨rfl,rfl⟩)];simpa using h
     .simp at h
    .exact old rfl h
   .exact old rfl h
 .rename_i t x g
  simp only[sI,SX.c8] at h
  simp only[cD,g]
  split at h
  .rename_i b M;rw[RL g M];exact h
  .simp at h
 .rename_i t x i g
  split at h
  .rename_i hu
   simp only[sI,SX.c8] at h
   simp only[cD,g]
   exact Ql g hu h
  .exact old rfl h
 .exact old rfl h
theorem UY {P:Program} {sz:Option Nat} {a:SX} {T:Env} {H:View} {n:Nat} {v:V} {eff:bH} {rd:List Nat} (h:sI P (.CF sz a) T H n=some (v,eff,rd)):sI P (.load sz a) T H n=some (v,eff,rd):=by
 simp only[sI] at h
 simp only[sI,zB]
 split at h
 .rename_i e j b;rw[b];exact h
 .simp at h
def toStr (P:Program) (s d:TypeId):Bool:=match P.underlying s,P.underlying d with
 | some (.slice e),some .string=>(match P.underlying e with | some (.int .u8)=>true | _=>false)
 | _,_=>false
def xY (P:Program) (s d:TypeId):Bool:=match P.underlying s,P.underlying d with
 | some .string,some (.slice e)=>(match P.underlying e with | some (.int .u8)=>true | _=>false)
 | _,_=>false
theorem Tw {P:Program} {s d:TypeId} (h:toStr P s d=true):∃ e,P.underlying s=some (.slice e)/\P.underlying d=some .string/\P.underlying e=some (.int .u8):=by
 unfold toStr at h
 split at h
 .rename_i e h1 a
  split at h
  .rename_i b;exact⟨e,h1,a,b⟩
  .simp at h
 .simp at h
theorem C9 {P:Program} {s d:TypeId} (h:xY P s d=true):∃ e,P.underlying s=some .string/\P.underlying d=some (.slice e)/\P.underlying e=some (.int .u8):=by
 unfold xY at h
 split at h
 .rename_i e h1 a
  split at h
  .rename_i b;exact⟨e,h1,a,b⟩
  .simp at h
 .simp at h
theorem WQ {P:Program} {s d ty:TypeId} {x:Operand} {T:Env} {H:View} {n:Nat} {v:V} {eff:bH} {rd:List Nat} (a:toStr P s d=true) (h:sI P (.GN (SX.of x)) T H n=some (v,eff,rd)):sI P (.old (.convert s d x) ty) T H n=some (v,eff,rd):=by
 obtain⟨e,h1,b,c⟩:=Tw a
 simp only[sI,SX.c8] at h
 simp only[sI,cD,oper,mj,h1,if_true,oM,b,c]
 split at h
 .rename_i es f
  rw[f]
  simp only[bQ,cU]
  exact h
 .simp at h
inductive SB where
 | op (s:SI)
 | call (f:SX) (args:List SX)
 | yR (f:SX) (args:List SX)
 deriving Inhabited
structure SO where
 dst:Option Nat
 guard:Option (Nat × Bool)
 b:SB
 deriving Inhabited
structure SG where
 guard:Option (Nat × Bool)
 ops:List (Option Nat × SB)
 deriving Inhabited
inductive SC where
 | skip
 | region (quiet:Bool) (gs:List SG)
 | pv (aps:List (Nat × Nat)) (gs:List SG)
 | Gw (tol:Nat × Nat × Nat) (aps:List (Nat × Nat)) (gs:List SG)
 | seq (x y:SC)
 | cond (c:SX) (x y:SC)
 | block (id:Nat) (c:SC)
 | loop (c:SC)
 | exit (id:Nat)
 | ret
 | scope (l:Nat) (c r:SC)
 | label (l:Nat)
 | goto (l:Nat)
 deriving Inhabited
def qK:SC->Nat->Option SC
 | .seq a b,l=>match qK a l with
  | some r=>some (.seq r b)
  | none=>qK b l
 | .label l',l=>if l' == l then some .skip else none
 | _,_=>none
def JW:SC->Option Nat
 | .seq a b=>match JW a with
  | some l=>some l
  | none=>JW b
 | .label l=>some l
 | _=>none
def CV (l:Nat):Exit->Prop->Prop->Prop
 | .goto l',a,_=>l'=l/\a
 | _,_,b=>b
inductive SR where
 | tmp (t:Nat)
 | cell (t:Nat) (sz:Option Nat)
 deriving Inhabited
def CM (P:Program) (op:Op):Nat:=match op with
 | .convert s d _=>if mj P s d=true then 2 else 0
 | .call { callee:=.builtin b,.. }=>match b with
  | .min | .max | .complex | .real | .imag=>0
  | .len=>1
  | _=>2
 | .lookup ..=>1
 | .binOp .. | .unOp .. | .index ..=>0
 | _=>2
def v8 (P:Program):SI->Nat
 | .eF _ | .pick .. | .kD _ | .DP _ | .addr .. | .field .. | .idx .. | .slice .. | .rQ .. | .ext .. | .len _ | .rJ _ | .arith .. | .sh .. | .AB .. | .jy .. | .not _ | .nil .. | .build .. | .CF .. | .beq .. | .mm .. | .conv .. | .GN _ | .iq _=>0
 | .load .. | .box _ | .alloc _ | .bW .. | .make .. | .p9=>1
 | .store .. | .app ..=>2
 | .old op _=>CM P op
def jZ (P:Program) (quiet:Bool):SB->Nat
 | .op s=>v8 P s
 | .call ..=>if quiet then 1 else 2
 | .yR ..=>1
structure Fz where
 l:List Nat
 fr:Bool
def Cg (P:Program) (fr:Bool):SI->SI
 | .load k a=>if fr then .CF k a else .load k a
 | .old (.convert s d x) ty=>if fr && toStr P s d then .GN (SX.of x) else .old (.convert s d x) ty
 | s=>s
def oH (P:Program) (fz:Fz) (o:Oper):SB:=match o.op with
 | .call { callee:=.value f,args,.. }=>if (match o.dst with | some d=>fz.l.contains (200000+d) | none=>false) then .yR (SX.of f) (args.toList.map SX.of) else .call (SX.of f) (args.toList.map SX.of)
 | .box _ x=>if (match o.dst with | some d=>fz.l.contains d | none=>false) then .op (.kD (SX.of x)) else .op (.box (SX.of x))
 | .convert s d x=>if (match o.dst with | some t=>fz.l.contains t | none=>false) && xY P s d then .op (.iq (SX.of x)) else .op (Cg P fz.fr (comp P o))
 | _=>.op (Cg P fz.fr (comp P o))
def xO (n:Nat) (all:List Oper) (o:Oper):Option (Option (Nat × Bool)):=match o.guard with
 | none=>some none
 | some (j,want)=>match (all[j]?).bind (·.dst) with
  | some d=>if d < n then some (some (d,want)) else none
  | none=>none
def Ju (P:Program) (n:Nat) (all:List Oper) (fz:Fz) (o:Oper):Option SO :=
 if uv n o then (xO n all o).map λg=>⟨o.dst,g,oH P fz o⟩ else none
def dY (P:Program) (n:Nat) (all:List Oper) (fz:Fz):List Oper->Option (List SO)
 | []=>some []
 | o :: r=>match Ju P n all fz o,dY P n all fz r with
  | some s,some l=>some (s :: l)
  | _,_=>none
def SG.flat (g:SG):List SO:=g.ops.map λ(d,b)=>⟨d,g.guard,b⟩
def lU (gs:List SG):List SO:=(gs.map SG.flat).flatten
def Qb (g:Option (Nat × Bool)) (s:SO):Bool:=match g,s.guard with
 | none,none=>true
 | some (d,w),some (d',w')=>d == d' && w == w' && s.dst != some d
 | _,_=>false
def group:List SO->List SG
 | []=>[]
 | s :: r=>match group r with
  | g :: gs=>if Qb g.guard s then ⟨g.guard,(s.dst,s.b) :: g.ops⟩ :: gs else ⟨s.guard,[(s.dst,s.b)]⟩ :: g :: gs
  | []=>[⟨s.guard,[(s.dst,s.b)]⟩]
theorem VO {g:Option (Nat × Bool)} {s:SO} (h:Qb g s=true):s.guard=g:=by
 unfold Qb at h
 split at h
 .rename_i h1;exact h1
 .rename_i d w a w' h1
  simp at h;rw[h1,h.1.1,h.1.2]
 .simp at h
theorem iA:∀ l:List SO,lU (group l)=l
 | []=>rfl
 | s :: r=>by
  have a:=iA r
  simp only[group]
  split
  .rename_i g gs c
   rw[c] at a
   split
   .rename_i e
    have:=VO e
    rw[<-a]
    cases s with
    | mk d f b=>simp only at this;subst this;simp[lU,SG.flat]
   .rw[<-a];simp[lU,SG.flat]
  .rename_i c
   rw[c] at a
   rw[<-a];simp[lU,SG.flat]
def GG (o:Oper):Bool:=match o.op with
 | .load ..=>true
 | _=>false
def DL (o:Oper):Bool:=match o.op with
 | .alloc _=>true
 | _=>false
def mP (o:Oper):Option Nat:=match o.op,o.guard with
 | .store _ (.tmp t) _,none=>some t
 | _,_=>none
def Yw (all:List Oper) (j k t:Nat):Bool:=match all[j]? with
 | some o=>o.dst == some t && o.guard.isNone && DL o && ((all.drop (j+1)).take (k - (j+1))).all λo'=>o'.dst != some t
 | none=>false
def CQ (all:List Oper) (i k:Nat):Bool:=match all[i]?,all[k]? with
 | some a,some b=>GG a && (match mP b with
  | some t=>(List.range k).any λj=>decide (i < j) && Yw all j k t
  | none=>false)
 | _,_=>false
def Jp (all:List Oper) (ls:List Nat):Bool :=
 let b:=gJ all []
 ls.zipIdx.all λ(x,i)=>ls.zipIdx.all λ(y,k)=>!decide (i < k) || ordered b i k || x == 0 || y == 0 || (decide (x<=1) && decide (y<=1)) || CQ all i k
def uI (o:Oper):Option Nat:=match o.op with
 | .load _ (.tmp t)=>some t
 | _=>none
def stays (all:List Oper) (i t:Nat):Bool:=(all.drop i).all λo=>o.dst != some t
def Gk (all:List Oper) (i k:Nat):Option (Nat × Nat):=match all[i]?,all[k]? with
 | some a,some b=>match uI a,mP b with
  | some s,some t=>if stays all i s && stays all k t then some (s,t) else none
  | _,_=>match mP a,uI b with
   | some t,some s=>if stays all i t && stays all k s then some (s,t) else none
   | _,_=>none
 | _,_=>none
def Be (all:List Oper) (x i y k:Nat):Bool:=!decide (i < k) || ordered (gJ all []) i k || x == 0 || y == 0 || (decide (x<=1) && decide (y<=1)) || CQ all i k
def mV (all:List Oper) (ls:List Nat):List (Nat × Nat):=ls.zipIdx.flatMap λ(x,i)=>ls.zipIdx.filterMap λ(y,k)=>if Be all x i y k then none else some (i,k)
def Fy (all:List Oper):List (Nat × Nat)->Option (List (Nat × Nat))
 | []=>some []
 | (i,k) :: r=>match Gk all i k,Fy all r with
  | some p,some l=>some (p :: l)
  | _,_=>none
def TQ (o:Oper):Option Nat:=match o.op,o.guard with
 | .call { callee:=.builtin .append,args,.. },none=>match args.toList with
  | [.tmp t,_]=>some t
  | _=>none
 | _,_=>none
def rT (o:Oper):Option Nat:=match mP o with
 | some t=>some t
 | none=>TQ o
def Kr (o:Oper):Bool:=match o.op with
 | .buildSlice ..=>true
 | .alloc _=>true
 | _=>false
def newAt (all:List Oper) (k:Nat):Bool:=match all[k]? with
 | some b=>Kr b
 | none=>false
def G9 (all:List Oper) (i k:Nat):Option (Nat × Nat):=match all[i]?,all[k]? with
 | some a,some b=>match uI a,rT b with
  | some s,some t=>if stays all i s && stays all k t then some (s,t) else none
  | _,_=>match rT a,uI b with
   | some t,some s=>if stays all i t && stays all k s then some (s,t) else none
   | _,_=>none
 | _,_=>none
def Jr (all:List Oper) (ls:List Nat) (i k:Nat):Option (Nat × Nat × Nat):=match all[i]?,all[k]? with
 | some a,some b=>match a.op,b.op,a.guard,b.guard with
  | .lookup t (.tmp m) (.tmp q) false,.mapEntry t' (.tmp m') (.tmp q'),none,none =>
   if t == t' && m == m' && q == q' && stays all i m && stays all i q && stays all k m && stays all k q && decide (i < k) && (List.range k).all λj=>decide (ls.getD j 2<=1) then some (t,m,q) else none
  | _,_,_,_=>none
 | _,_=>none
def Js (all:List Oper) (ls:List Nat) (tp:Option (Nat × Nat)):List (Nat × Nat):=(mV all ls).filter λp=>!newAt all p.2 && tp != some p
def Cy (o:Oper):Option (Nat × Nat × Nat):=match o.op,o.guard,o.dst with
 | .call { callee:=.builtin .append,args,.. },none,some d=>match args.toList with
  | [.tmp t,.tmp y]=>some (t,y,d)
  | _=>none
 | _,_,_=>none
def GD (all:List Oper) (i k:Nat):Option (List (Nat × Nat)):=match all[i]?,all[k]? with
 | some a,some b=>match Cy a,Cy b with
  | some (t,y,d),some (t',y',_)=>if stays all i t && stays all i y && stays all (i+1) d && stays all k t' && stays all k y' then some [(t,t'),(t,y'),(t',y),(d,t')] else none
  | _,_=>none
 | _,_=>none
def CR (all:List Oper) (i k:Nat):Option (List (Nat × Nat)):=match G9 all i k with
 | some p=>some [p]
 | none=>GD all i k
def yf (all:List Oper):List (Nat × Nat)->Option (List (Nat × Nat))
 | []=>some []
 | (i,k) :: r=>match CR all i k,yf all r with
  | some p,some l=>some (p ++ l)
  | _,_=>none
def vX (g:SG):Bool:=match g.guard with
 | none=>true
 | some (d,_)=>g.ops.all λx=>x.1 != some d
def ux (P:Program) (n:Nat) (fz:Fz) (ops:List Oper) (draw quiet:Bool):Option SC:=match dY P n ops fz ops with
 | none=>none
 | some l=>if !(group l).all vX then none else
  if draw then (if od ops && Jp ops (l.map λs=>jZ P quiet s.b) then some (.region quiet (group l)) else none)
  else some (.region quiet (group l))
def EH (P:Program) (n:Nat) (fz:Fz) (ops:List Oper):Option SC:=match dY P n ops fz ops with
 | none=>none
 | some l=>if !(group l).all vX then none else
  if od ops then (Fy ops (mV ops (l.map λs=>jZ P false s.b))).map λaps=>.pv aps (group l) else none
def WN (all:List Oper) (ls:List Nat):Option (Nat × Nat):=(mV all ls).find? λp=>(Jr all ls p.1 p.2).isSome
def FP (P:Program) (n:Nat) (fz:Fz) (ops:List Oper):Option SC:=match dY P n ops fz ops with
 | none=>none
 | some l=>if !(group l).all vX then none else
  if od ops then
   (match WN ops (l.map λs=>jZ P false s.b) with
   | none=>(yf ops (Js ops (l.map λs=>jZ P false s.b) none)).map λaps=>.pv aps (group l)
   | some p=>match Jr ops (l.map λs=>jZ P false s.b) p.1 p.2 with
    | some tol=>(yf ops (Js ops (l.map λs=>jZ P false s.b) (some p))).map λaps=>.Gw tol aps (group l)
    | none=>none)
  else none
def Ze:Nat:=100000
def YY:Nat:=100001
def orElse':Option SC->Option SC->Option SC
 | some x,_=>some x
 | none,y=>y
def EA (P:Program) (n:Nat) (fz:List Nat) (ops:List Oper) (draw:Bool):Option SC :=
 orElse' (ux P n ⟨fz,false⟩ ops draw false) (if draw then orElse' (if fz.contains Ze then FP P n ⟨fz,false⟩ ops else none) <| orElse' (if fz.contains YY then ux P n ⟨fz,true⟩ ops true false else none) <| orElse' (EH P n ⟨fz,false⟩ ops) (orElse' (ux P n ⟨fz,false⟩ ops true true) (orElse' (ux P n ⟨fz,true⟩ ops true false) (ux P n ⟨fz,true⟩ ops true true))) else none)
def dE (P:Program) (n:Nat) (fz:List Nat):Code->Option SC
 | .skip=>some .skip
 | .region _ ops draw=>EA P n fz ops.toList draw
 | .seq x y=>match dE P n fz x,dE P n fz y with
  | some a,some b=>some (.seq a b)
  | _,_=>none
 | .cond c x y=>match dE P n fz x,dE P n fz y with
  | some a,some b=>some (.cond (SX.of c) a b)
  | _,_=>none
 | .block id c=>(dE P n fz c).map (.block id)
 | .loop c=>(dE P n fz c).map .loop
 | .exit id=>some (.exit id)
 | .ret=>some .ret
 | .scope c=>match dE P n fz c with
  | some sc=>match JW sc with
   | some l=>(qK sc l).map λr=>.scope l sc r
   | none=>none
  | none=>none
 | .label l=>some (.label l)
 | .goto l=>some (.goto l)
 | _=>none
def kh (h h':aG):Prop:=∀ id,id < h.length->h.view id=.dead->h'.view id=.dead
theorem kh.refl (h:aG):kh h h:=λ_ _ e=>e
theorem kh.trans {a b c:aG} (h:kh a b) (k:kh b c) (hl:a.length<=b.length):kh a c:=λid d e=>k id (aa3 d hl) (h id d e)
def av (P:Program) (f:FuncId) (vs:List V) (H:View) (K:V->View->Prop):Prop :=
 dW P f=true/\∀ h:aG,h.view=H->∃ r h',cd P f vs h r h'/\kh h h'/\K r h'.view
def Fm (P:Program) (f:FuncId) (vs:List V) (H:View) (K:V->View->Prop):Prop :=
 dW P f=true/\∀ h:aG,h.view=H->∃ r h',cd P f vs h r h'/\(∀ id,id < h.length->h'.view id=h.view id)/\K r h'.view
def kN (sz:Option Nat) (e:List V) (j:Nat) (K:V->Prop):Prop:=match sz with
 | some n=>j+n<=e.length/\K (.agg ((e.drop j).take n))
 | none=>j < e.length/\K (e.getD j .any)
def wI (P:Program) (s:SI) (T:Env) (H:View) (K:V->View->Prop):Prop:=match s with
 | .eF x=>K (x.at T) H
 | .pick c a b=>match c.at T with
  | .val (.bool t)=>K (if t then a.at T else b.at T) H
  | _=>False
 | .box x=>(x.at T).cells.all aR=true/\∀ n,H n=.dead->K (.ptr n 0 0) (H.set n (.arr (x.at T).cells.length [(x.at T).cells]))
 | .kD x=>(x.at T).cells.all aR=true/\K (.aH (x.at T).cells 0) H
 | .alloc z=>z.all aR=true/\∀ n,H n=.dead->K (.ptr n 0 0) (H.set n (.arr z.length [z]))
 | .load sz a=>match a.at T with
  | .ptr id i j=>match H id with
   | .arr _ es=>i < es.length/\kN sz (es.getD i []) j λv=>K v H
   | _=>False
  | .aH e j=>kN sz e j λv=>K v H
  | _=>False
 | .CF sz a=>match a.at T with
  | .aH e j=>kN sz e j λv=>K v H
  | _=>False
 | .store sz a x=>match a.at T with
  | .ptr id i j=>match H id with
   | .arr esz es=>(i < es.length/\(x.at T).cells.length=sz/\j+(x.at T).cells.length<=esz/\(x.at T).cells.all aR=true) /\
     K .any (H.set id (.arr esz (es.set i (gu (es.getD i []) j (x.at T).cells))))
   | _=>False
  | _=>False
 | .DP x=>match x.at T with
  | .ptr id i j=>K (.ptr id i j) H
  | .aH e j=>K (.aH e j) H
  | .fn f a b=>K (.fn f a b) H
  | _=>False
 | .addr off x=>match x.at T with
  | .ptr id i j=>K (.ptr id i (j+off)) H
  | .aH e j=>K (.aH e (j+off)) H
  | _=>False
 | .field off sz x=>match x.at T with
  | .agg cs=>kN sz cs off λv=>K v H
  | _=>False
 | .idx sz x i=>match asNat (i.at T) with
  | none=>False
  | some q=>match x.at T with
   | .sl id off len esz=>(q < len/\esz=sz)/\K (.ptr id (off+q) 0) H
   | .aE es=>∃ e,es[q]?=some e/\e.length=sz/\K (.aH e 0) H
   | _=>False
 | .rQ f first cap=>K (.fn f (first.map (SX.at T)) (cap.map (SX.at T))) H
 | .p9=>∀ n,H n=.dead->K (.mp n) (H.set n (.map [] 0))
 | .ext i x=>match x.at T with
  | .bD vs=>i < vs.length/\K (vs.getD i .any) H
  | _=>False
 | .len x=>match cU (x.at T) with
  | some n=>K (iW n) H
  | none=>False
 | .rJ x=>match x.at T with
  | .val (.string s)=>K (iW s.size) H
  | _=>False
 | .arith op x y=>match x.at T,y.at T with
  | .val (.int k a),.val (.int k' b)=>k=k'/\(match jo op k a b with | some v=>K (.val v) H | none=>False)
  | _,_=>False
 | .AB op x y=>match x.at T,y.at T with
  | .val (.string a),.val (.string b)=>(match op with
   | .eql=>K (.val (.bool (j8 a b))) H
   | .neq=>K (.val (.bool (!j8 a b))) H
   | _=>False)
  | _,_=>False
 | .jy x i=>match x.at T,asNat (i.at T) with
  | .val (.string s),some q=>∃ b,s.data.toList[q]?=some b/\K (.val (.int .u8 b.toNat)) H
  | _,_=>False
 | .not x=>match x.at T with
  | .val (.bool t)=>K (.val (.bool (!t))) H
  | _=>False
 | .nil eq k x y=>match D7 (fV k (x.at T)) (fV k (y.at T)) with
  | some b=>K (.val (.bool (if eq then b else !b))) H
  | none=>False
 | .beq eq x y=>match x.at T,y.at T with
  | .val (.bool a),.val (.bool b)=>K (.val (.bool (if eq then a == b else a != b))) H
  | _,_=>False
 | .mm mx x y=>match x.at T,y.at T with
  | .val (.int k a),.val (.int _ b)=>K (.val (.int k (if mx then (if b > a then b else a) else (if b < a then b else a)))) H
  | _,_=>False
 | .conv k x=>match x.at T with
  | .val (.int _ a)=>K (.val (.int k (k.wrap a))) H
  | _=>False
 | .sh l x y=>match x.at T,y.at T with
  | .val (.int k a),.val (.int _ b)=>0<=b/\K (.val (.int k (G0 l k a b))) H
  | _,_=>False
 | .build z parts=>match ox z (parts.map λ(a,b,x)=>(a,b,x.at T)) with
  | some cs=>K (.agg cs) H
  | none=>False
 | .bW len sz z parts=>match ng sz (List.replicate len z) (parts.map λ(i,x)=>(i,x.at T)) with
  | some es=>∀ n,H n=.dead->K (.sl n 0 len sz) (H.set n (.arr sz es))
  | none=>False
 | .slice sz x lo hi=>match dO sz (x.at T) (lo.map (SX.at T)) (hi.map (SX.at T)) with
  | some (v,.none,_)=>K v H
  | _=>False
 | .make sz bytes z l c=>match asNat (l.at T),asNat (c.at T) with
  | some l,some c=>(l<=c/\c < aD/\bytes * c < aD)/\(c=0->K (.emp 2) H)/\(c≠0->∀ n,H n=.dead->K (.sl n 0 l sz) (H.set n (.arr sz (List.replicate l z))))
  | _,_=>False
 | .app sz bytes x y=>match bQ H (y.at T) with
  | some (xs,_)=>if xs.isEmpty=true then (match x.at T with
    | .emp k=>K (.emp k) H
    | .ep=>K .ep H
    | .aE es=>K (.aE es) H
    | .sl a b c d=>K (.sl a b c d) H
    | _=>False)
   else (xs.all λe=>e.length == sz && e.all aR)=true/\(match x.at T with
    | .emp _=>(xs.length * bytes < aD/\xs.length < aD)/\∀ n,H n=.dead->K (.sl n 0 xs.length sz) (H.set n (.arr sz xs))
    | .sl id off len esz=>match H id with
     | .arr _ es=>(off+len<=es.length/\esz=sz/\(len+xs.length) * bytes < aD/\len+xs.length < aD) /\
      ∀ n,H n=.dead->K (.sl n 0 (len+xs.length) esz) ((H.set id .dead).set n (.arr esz ((es.drop off).take len ++ xs)))
     | _=>False
    | _=>False)
  | none=>False
 | .GN x=>match x.at T with
  | .aE es=>(match mE es with
   | some l=>K (.val (.string ⟨l.toArray⟩)) H
   | none=>False)
  | _=>False
 | .iq x=>match x.at T with
  | .val (.string s)=>K (.aE (iG s)) H
  | _=>False
 | s=>∀ n,H n=.dead->∃ v eff rd,sI P s T H n=some (v,eff,rd)/\K v (eff.view H n)
def wB (P:Program) (quiet:Bool) (b:SB) (T:Env) (H:View) (K:V->View->Prop):Prop:=match b with
 | .op s=>wI P s T H K
 | .call f args=>match f.at T with
  | .fn g first cap=>if quiet then Fm P g (first ++ args.map (SX.at T) ++ cap) H K else av P g (first ++ args.map (SX.at T) ++ cap) H K
  | _=>False
 | .yR f args=>match f.at T with
  | .fn g first cap=>Fm P g (first ++ args.map (SX.at T) ++ cap) H K
  | _=>False
def Ca (P:Program) (quiet:Bool):List (Option Nat × SB)->Env->View->(Env->View->Prop)->Prop
 | [],T,H,K=>K T H
 | (d,b) :: r,T,H,K=>wB P quiet b T H λv H'=>Ca P quiet r (T.put d v) H' K
def jR:List (Option Nat × SB)->Env->Env
 | [],T=>T
 | (d,_) :: r,T=>jR r (T.put d (.bD []))
def wG (P:Program) (quiet:Bool) (g:SG) (T:Env) (H:View) (K:Env->View->Prop):Prop:=match g.guard with
 | none=>Ca P quiet g.ops T H K
 | some (d,want)=>match T d with
  | .val (.bool b)=>(b=want->Ca P quiet g.ops (T.put (some d) (.val (.bool want))) H K)/\(b = !want->K (jR g.ops (T.put (some d) (.val (.bool (!want))))) H)
  | .bD []=>K (jR g.ops T) H
  | _=>False
def Al (P:Program) (quiet:Bool):List SG->Env->View->(Env->View->Prop)->Prop
 | [],T,H,K=>K T H
 | g :: r,T,H,K=>wG P quiet g T H λT' H'=>Al P quiet r T' H' K
def sd (c:SX) (b:Bool) (T:Env):Env:=match c with
 | .tmp t=>T.put (some t) (.val (.bool b))
 | _=>T
def Di:Exit->Prop->Prop->Prop
 | .normal,a,_=>a
 | _,_,b=>b
def jv (a b:V):Prop:=match a,b with
 | .ptr i _ _,.ptr j _ _=>i≠j
 | .ptr i _ _,.sl j _ _ _=>i≠j
 | .ptr _ _ _,.emp _=>True
 | .ptr _ _ _,.ep=>True
 | .ptr _ _ _,.aE _=>True
 | .aH _ _,_=>True
 | .sl i _ _ _,.sl j _ _ _=>i≠j
 | .sl _ _ _ _,.emp _=>True
 | .sl _ _ _ _,.ep=>True
 | .sl _ _ _ _,.aE _=>True
 | .emp _,_=>True
 | .ep,_=>True
 | .aE _,_=>True
 | _,_=>False
def PN (P:Program) (t:TypeId) (m q:V) (H:View):Prop:=match m with
 | .mp id=>(∃ es c,H id=.map es c)/\∀ v obj rd,e9 P t (.mp id) q H=some (v,.fQ id obj,rd)->gM P t (.mp id) q false (H.set id obj)=gM P t (.mp id) q false H
 | _=>False
def Bc:List (Nat × Nat)->Env->Prop->Prop
 | [],_,K=>K
 | p :: l,T,K=>jv (T p.1) (T p.2)/\Bc l T K
def wS (P:Program):SC->Env->View->(Exit->Env->View->Prop)->Prop
 | .skip,T,H,Q=>Q .normal T H
 | .region quiet gs,T,H,Q=>Al P quiet gs T H (Q .normal)
 | .pv aps gs,T,H,Q=>Al P false gs T H λT' H'=>Bc aps T' (Q .normal T' H')
 | .Gw tol aps gs,T,H,Q=>Al P false gs T H λT' H'=>PN P tol.1 (T' tol.2.1) (T' tol.2.2) H/\Bc aps T' (Q .normal T' H')
 | .seq x y,T,H,Q=>wS P x T H λe T' H'=>Di e (wS P y T' H' Q) (Q e T' H')
 | .cond c x y,T,H,Q=>match c.at T with
  | .val (.bool b)=>(b=true->wS P x (sd c true T) H Q)/\(b=false->wS P y (sd c false T) H Q)
  | _=>False
 | .block id c,T,H,Q=>wS P c T H λe=>Q (sy id e)
 | .loop c,T,H,Q=>∃ I:Nat->Env->View->Prop,(∃ k,I k T H)/\∀ k T H,I k T H->wS P c T H λe T' H'=>Di e (∃ k',k' < k/\I k' T' H') (Q e T' H')
 | .exit id,T,H,Q=>Q (.exit id) T H
 | .ret,T,H,Q=>Q .ret T H
 | .scope l c r,T,H,Q=>∃ (I:Nat->Env->View->Prop) (K:Nat),wS P c T H (λe T' H'=>CV l e (∃ k,k < K/\I k T' H') (Q e T' H'))/\∀ k T H,I k T H->wS P r T H λe T' H'=>CV l e (∃ k',k' < k/\I k' T' H') (Q e T' H')
 | .label _,T,H,Q=>Q .normal T H
 | .goto l,T,H,Q=>Q (.goto l) T H
def wR (T:Env) (H:View) (r:SR) (K:V->Prop):Prop:=match r with
 | .tmp t=>K (T t)
 | .cell t sz=>match T t with
  | .ptr id i j=>match H id with
   | .arr _ es=>i < es.length/\kN sz (es.getD i []) j K
   | _=>False
  | .aH e j=>kN sz e j K
  | _=>False
def Gg (T:Env) (H:View):List SR->List V->(List V->Prop)->Prop
 | [],acc,K=>K acc
 | r :: l,acc,K=>wR T H r λv=>Gg T H l (acc ++ [v]) K
def z8:List V->V
 | [v]=>v
 | vs=>.bD vs
def gN (P:Program):List ResultVar->Option (List SR)
 | []=>some []
 | .tmp t :: r=>(gN P r).map (.tmp t :: ·)
 | .cell a t :: r=>match Ft P t,gN P r with
  | some k,some l=>some (.cell a k :: l)
  | _,_=>none
structure SF where
 code:SC
 res:List SR
 n:Nat
def ae:List SC->SC
 | []=>.skip
 | [a]=>a
 | a :: b :: l=>.seq a (ae (b :: l))
abbrev bZ (k a b:Nat):Option Nat × SB:=(none,.op (.store k (.tmp a) (.tmp b)))
abbrev cT (a k:Nat):Option Nat × SB:=(some a,.op (.eF (.val (.emp k))))
abbrev gx (d s b x y:Nat):Option Nat × SB:=(some d,.op (.app s b (.tmp x) (.tmp y)))
abbrev bf (a:Nat) (x:SC):SC:=.cond (.tmp a) x .skip
abbrev bS (a:Nat) (x:SC):SC:=.cond (.tmp a) .skip x
abbrev bX (a:Nat) (x:SC):SC:=.block a (.loop x)
abbrev aa (a b:Nat):Option Nat × SB:=(some a,.op (.eF (.tmp b)))
abbrev aT (a:Nat) (n:Int):Option Nat × SB:=(some a,.op (.eF (.val (.val (.int .i64 n)))))
abbrev bw (a:Nat) (n:Bool):Option Nat × SB:=(some a,.op (.eF (.val (.val (.bool n)))))
abbrev aj (a b:Nat):Option Nat × SB:=(some a,.op (.load none (.tmp b)))
abbrev aY (a k b:Nat):Option Nat × SB:=(some a,.op (.load (some k) (.tmp b)))
abbrev ao (a k b:Nat):Option Nat × SB:=(some a,.op (.addr k (.tmp b)))
abbrev aI (a k b c:Nat):Option Nat × SB:=(some a,.op (.idx k (.tmp b) (.tmp c)))
abbrev cF (a b c:Nat):Option Nat × SB:=(some a,.op (.pick (.tmp b) (.val (.val (.bool true))) (.tmp c)))
abbrev eC (a b c:Nat):Option Nat × SB:=(some a,.op (.pick (.tmp b) (.tmp c) (.val (.val (.bool false)))))
abbrev aQ (a:Nat) (o:BinOp) (b c:Nat):Option Nat × SB:=(some a,.op (.arith o (.tmp b) (.tmp c)))
abbrev aF (a:Nat) (o:BinOp) (b:Nat) (n:Int):Option Nat × SB:=(some a,.op (.arith o (.tmp b) (.val (.val (.int .i64 n)))))
abbrev aM (a b:Nat):Option Nat × SB:=(some a,.op (.len (.tmp b)))
abbrev eP (a k b:Nat):Option Nat × SB:=(some a,.op (.ext k (.tmp b)))
abbrev c4 (a b:Nat):Option Nat × SB:=(some a,.op (.not (.tmp b)))
abbrev cy (a b:Nat):Option Nat × SB:=(some a,.op (.kD (.tmp b)))
abbrev cR (a b:Nat):Option Nat × SB:=(some a,.op (.DP (.tmp b)))
abbrev qx (a f:Nat) (l:List SX):Option Nat × SB:=(some a,.call (.val (.fn f [] [])) l)
abbrev bm (a f:Nat) (l:List Nat):Option Nat × SB:=(some a,.call (.val (.fn f [] [])) (l.map .tmp))
abbrev ab (l:List (Option Nat × SB)):SC:=.region false [⟨none,l⟩]
def aO (P:Program) (f:FuncId) (fz:List Nat):Option SF:=match P.funcs[f]? with
 | some fn=>match fn.body with
  | some c=>match dE P fn.ntmps fz c,gN P fn.results.toList,dW P f with
   | some sc,some rs,true=>some ⟨sc,rs,fn.ntmps⟩
   | _,_,_=>none
  | none=>none
 | none=>none
theorem rR {sz:Option Nat} {e:List V} {j:Nat} {K:V->Prop} (h:kN sz e j K):∃ v,oA sz e j=some v/\K v:=by
 cases sz with
 | none=>exact⟨_,by simp only[oA];rw[aaw h.1],h.2⟩
 | some n=>exact⟨_,by simp only[oA];rw[aaw h.1],h.2⟩
theorem Y4 {P:Program} {s:SI} {T:Env} {H:View} {K:V->View->Prop} (h:wI P s T H K) {n:Nat} (r:H n=.dead) :
  ∃ v eff rd,sI P s T H n=some (v,eff,rd)/\K v (eff.view H n):=by
 unfold wI at h
 split at h
 .exact⟨_,_,_,rfl,h⟩
 .split at h
  .rename_i t B;exact⟨_,_,_,by simp only[sI,B];rfl,h⟩
  .exact h.elim
 .exact⟨_,_,_,by simp only[sI,nR];rw[aaw h.1],h.2 n r⟩
 .exact⟨_,_,_,by simp only[sI];rw[aaw h.1],h.2⟩
 .exact⟨_,_,_,by simp only[sI,nR];rw[aaw h.1],h.2 n r⟩
 .split at h
  .rename_i id i j u
   split at h
   .rename_i es hH
    obtain⟨h1,f⟩:=h
    obtain⟨v,o,hk⟩:=rR f
    exact⟨_,_,_,by simp only[sI,zB,u,hH];rw[aaw h1,o];rfl,hk⟩
   .exact h.elim
  .rename_i e j u
   obtain⟨v,o,hk⟩:=rR h
   exact⟨_,_,_,by simp only[sI,zB,u];rw[o];rfl,hk⟩
  .exact h.elim
 .split at h
  .rename_i e j u
   obtain⟨v,o,hk⟩:=rR h
   exact⟨_,_,_,by simp only[sI,u];rw[o];rfl,hk⟩
  .exact h.elim
 .split at h
  .rename_i id i j u
   split at h
   .rename_i esz es hH
    exact⟨_,_,_,by simp only[sI,EY,u,hH];rw[aaw h.1],h.2⟩
   .exact h.elim
  .exact h.elim
 .split at h
  .rename_i d;exact⟨_,_,_,by simp only[sI,d];rfl,h⟩
  .rename_i d;exact⟨_,_,_,by simp only[sI,d];rfl,h⟩
  .rename_i d;exact⟨_,_,_,by simp only[sI,d];rfl,h⟩
  .exact h.elim
 .split at h
  .rename_i d;exact⟨_,_,_,by simp only[sI,CC,d];rfl,h⟩
  .rename_i d;exact⟨_,_,_,by simp only[sI,CC,d];rfl,h⟩
  .exact h.elim
 .split at h
  .rename_i cs d
   obtain⟨v,o,hk⟩:=rR h
   exact⟨_,_,_,by simp only[sI,d,o];rfl,hk⟩
  .exact h.elim
 .split at h
  .exact h.elim
  .rename_i q hq
   split at h
   .rename_i d;exact⟨_,_,_,by simp only[sI,G8,hq,d];rw[aaw h.1],h.2⟩
   .rename_i es d
    obtain⟨e,he,hl,hk⟩:=h
    have x:q < es.length:=(aaG.1 he).1
    have y:es.getD q []=e:=by simp[aaq,he]
    exact⟨_,_,_,by simp only[sI,G8,hq,d];rw[y,aaw ⟨x,hl⟩],hk⟩
   .exact h.elim
 .exact⟨_,_,_,rfl,h⟩
 .exact⟨_,_,_,rfl,h n r⟩
 .split at h
  .rename_i vs d;exact⟨_,_,_,by simp only[sI,d];rw[aaw h.1],h.2⟩
  .exact h.elim
 .split at h
  .rename_i m d;exact⟨_,_,_,by simp only[sI,d];rfl,h⟩
  .exact h.elim
 .split at h
  .rename_i s d;exact⟨_,_,_,by simp only[sI,d];rfl,h⟩
  .exact h.elim
 .split at h
  .rename_i k a D b d g
   obtain⟨rfl,h⟩:=h
   split at h
   .rename_i v o;exact⟨_,_,_,by simp only[sI,Bo,d,g,if_true,o];rfl,h⟩
   .exact h.elim
  .exact h.elim
 .split at h
  .rename_i a b d g
   split at h
   .exact⟨_,_,_,by simp only[sI,DD,d,g];rfl,h⟩
   .exact⟨_,_,_,by simp only[sI,DD,d,g];rfl,h⟩
   .exact h.elim
  .exact h.elim
 .split at h
  .rename_i s q d hq
   obtain⟨b,p,hk⟩:=h
   exact⟨_,_,_,by simp only[sI,E5,d,hq,p];rfl,hk⟩
  .exact h.elim
 .split at h
  .rename_i t d;exact⟨_,_,_,by simp only[sI,d];rfl,h⟩
  .exact h.elim
 .split at h
  .rename_i b p;exact⟨_,_,_,by simp only[sI,p];rfl,h⟩
  .exact h.elim
 .split at h
  .rename_i d g;exact⟨_,_,_,by simp only[sI,d,g];rfl,h⟩
  .exact h.elim
 .split at h
  .rename_i d g;exact⟨_,_,_,by simp only[sI,d,g];rfl,h⟩
  .exact h.elim
 .split at h
  .rename_i d;exact⟨_,_,_,by simp only[sI,d];rfl,h⟩
  .exact h.elim
 .split at h
  .rename_i d g;exact⟨_,_,_,by simp only[sI,Ru,d,g];rw[aat (by omega)],h.2⟩
  .exact h.elim
 .split at h
  .rename_i cs p;exact⟨_,_,_,by simp only[sI,p];rfl,h⟩
  .exact h.elim
 .split at h
  .rename_i es p;exact⟨_,_,_,by simp only[sI,CA,p];rfl,h n r⟩
  .exact h.elim
 .split at h
  .rename_i v rd p;exact⟨_,_,_,by simp only[sI,p];rfl,h⟩
  .exact h.elim
 .split at h
  .rename_i l c hl A
   obtain⟨h1,f,C⟩:=h
   by_cases e:c=0
   .exact⟨.emp 2,.none,[],by simp only[sI,FL,hl,A];rw[aaw h1,aaw e],f e⟩
   .exact⟨_,_,_,by simp only[sI,FL,hl,A];rw[aaw h1,aat e],C e n r⟩
  .exact h.elim
 .split at h
  .rename_i xs rd w
   split at h
   .rename_i he
    split at h
    all_goals first
     | (rename_i d;exact⟨_,_,_,by simp only[sI,KP,w];rw[aaw he,d],h⟩)
     | exact h.elim
   .rename_i he
    obtain⟨h1,f⟩:=h
    split at f
    .rename_i d
     exact⟨_,_,_,by simp only[sI,KP,w];rw[aat he,aat (by rw[h1];simp),d];simp only;rw[aaw f.1],f.2 n r⟩
    .rename_i id off len esz d
     split at f
     .rename_i z es hH
      exact⟨_,_,_,by simp only[sI,KP,w];rw[aat he,aat (by rw[h1];simp),d];simp only[hH];rw[aaw f.1],f.2 n r⟩
     .exact f.elim
    .exact f.elim
  .exact h.elim
 .split at h
  .rename_i d
   split at h
   .rename_i l hl;exact⟨_,_,_,by simp only[sI,d,hl];rfl,h⟩
   .exact h.elim
  .exact h.elim
 .split at h
  .rename_i d;exact⟨_,_,_,by simp only[sI,d];rfl,h⟩
  .exact h.elim
 .exact h n r
def mL (k:Nat) (rd wr:List Nat) (call:Bool) (n n':Nat):Prop :=
 (k=0->rd=[]/\wr=[]/\call=false/\n'=n)/\(k<=1->wr=[])
theorem Wm {k:Nat} (h:k=2) {rd wr:List Nat} {call:Bool} {n a:Nat} : mL k rd wr call n a:=⟨λb=>by omega,λb=>by omega⟩
theorem tu {P:Program} {o:Oper} {T:Env} {v:V} {eff:bH} {rd:List Nat} (h:eo P o T=some (v,eff,rd)):eff=.none/\rd=[]:=by
 unfold eo at h
 split at h
 .split at h
  .split at h
   .simp at h;exact⟨h.2.1.symm,h.2.2⟩
   .simp at h
  .simp at h
 .simp at h
theorem VB {P:Program} {o:Oper} {T:Env} {H:View} {n:Nat} {v:V} {eff:bH} {rd:List Nat} (h:cD P o T H n=some (v,eff,rd)) :
  (CM P o.op=0->eff=.none/\rd=[])/\(CM P o.op=1->eff.wr=[]):=by
 unfold CM
 split
 .rename_i s d x a
  simp only[cD,a] at h
  split
  .exact⟨λh=>by simp at h,λh=>by simp at h⟩
  .rename_i g
   rw[aat g] at h
   exact⟨λ_=>tu h,λh=>by simp at h⟩
 .rename_i b args j a
  simp only[cD,a] at h
  split
  any_goals exact⟨λ_=>tu h,λh=>by simp at h⟩
  .refine⟨λh=>by simp at h,λ_=>?_⟩
   split at h
   .rename_i f
    split at h
    .simp only[xh] at h
     have c:∀ {v':V} {r:List Nat},some (v',bH.none,r)=some (v,eff,rd)->eff.wr=[]:=λe=>by
      simp only[aau,aay] at e;rw[<-e.2.1];rfl
     split at h
     .simp only[aaF] at h
      obtain⟨_,_,h⟩:=h
      exact c (abk some h)
     .split at h
      .split at h
       .exact c h
       .simp at h
      .exact c h
      .simp at h
     .split at h
      .exact c h
      .simp at h
     .exact c h
     .simp at h
    .simp at h
   any_goals simp at h
   all_goals contradiction
  .exact⟨λh=>by simp at h,λh=>by simp at h⟩
 .rename_i t m k ok a
  refine⟨λh=>by simp at h,λ_=>?_⟩
  simp only[cD,a,gM] at h
  have c:∀ {v':V} {r:List Nat},some (v',bH.none,r)=some (v,eff,rd)->eff.wr=[]:=λe=>by
   simp only[aau,aay] at e;rw[<-e.2.1];rfl
  split at h
  .simp at h
  .split at h
   .simp at h
   .split at h
    .split at h
     .split at h
      .split at h
       .exact c h
       .simp at h
      .exact c h
      .simp at h
     .simp at h
    .simp at h
 .rename_i op t x y u a
  refine⟨λ_=>?_,λh=>by simp at h⟩
  simp only[cD,a] at h
  split at h
  .split at h
   .simp at h;exact⟨h.2.1.symm,h.2.2⟩
   .simp at h;exact⟨h.2.1.symm,h.2.2⟩
   .simp at h
  .exact tu h
 .rename_i op t x a
  exact⟨λ_=>tu (by simpa only [cD,a] using h),λh=>by simp at h⟩
 .rename_i t x i a
  exact⟨λ_=>tu (by simpa only [cD,a] using h),λh=>by simp at h⟩
 .exact⟨λh=>by simp at h,λh=>by simp at h⟩
theorem uK {P:Program} {s:SI} {T:Env} {H:View} {n:Nat} {v:V} {eff:bH} {rd:List Nat} (h:sI P s T H n=some (v,eff,rd)) :
  (v8 P s=0->eff=.none/\rd=[])/\(v8 P s=1->eff.wr=[]):=by
 have nn:∀ {v':V},some (v',bH.none,([]:List Nat))=some (v,eff,rd)->eff=.none/\rd=[]:=λe=>by
  simp only[aau,aay] at e;exact⟨e.2.1.symm,e.2.2.symm⟩
 have mp:∀ {α:Type} {x:Option α} {f:α->V},(x.map λa=>(f a,bH.none,([]:List Nat)))=some (v,eff,rd)->eff=.none/\rd=[]:=by
  intro α x f h
  simp only[aaF] at h
  obtain⟨a,_,h⟩:=h
  simp only[aay] at h;exact⟨h.2.1.symm,h.2.2.symm⟩
 have nw:∀ {v':V} {o:di} {r:List Nat},some (v',bH.new o,r)=some (v,eff,rd)->eff.wr=[]:=λe=>by
  simp only[aau,aay] at e;rw[<-e.2.1];rfl
 have n1:∀ {v':V} {r:List Nat},some (v',bH.none,r)=some (v,eff,rd)->eff.wr=[]:=λe=>by
  simp only[aau,aay] at e;rw[<-e.2.1];rfl
 unfold v8
 cases s <;> simp only[sI] at h
 case old op ty=>exact VB (o:=oper op ty) h
 all_goals
  constructor <;> intro hk <;> first
   | (exfalso;revert hk;simp;done)
   | skip
 all_goals try simp only[zB,nR,CC,G8,dO,FL,CA,Bo,Ru,DD,E5] at h
 all_goals first
  | exact nn h
  | exact mp h
  | exact nw h
  | exact n1 h
  | skip
 all_goals repeat' (split at h)
 all_goals first
  | exact nn h
  | exact mp h
  | exact nw h
  | exact n1 h
  | (simp at h;done)
  | (simp only[aaF,aay] at h;obtain⟨_,_,_,rfl,_⟩:=h;rfl)
end Gv
