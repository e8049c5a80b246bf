/-
  Part 4 of the proof: what the machine does and what the functions answer.
  Conditions: those that each lemma names.
-/
import Derived.Test.YtihmlbdfcmfbdaaGreatSGzB4C
set_option linter.unusedSimpArgs false
set_option linter.unusedVariables false
set_option maxRecDepth 100000
set_option maxHeartbeats 20000000
namespace Gv
open Go
inductive Tree:V→Prop
 | val (v:Value):Tree (.val v)
 | emp (k:Nat):Tree (.emp k)
 | dS:Tree .dS
 | aE (es:List (List V)):(∀ i j,i < es.length→j < (es.getD i []).length→Tree ((es.getD i []).getD j .any))→Tree (.aE es)
 | aJ (e:List V) (j:Nat):(∀ k,k < e.length→Tree (e.getD k .any))→Tree (.aJ e j)
 | fn (f:FuncId) (xs ys:List V):(∀ i,i < xs.length→Tree (xs.getD i .any))→(∀ i,i < ys.length→Tree (ys.getD i .any))→Tree (.fn f xs ys)
 | agg (cs:List V):(∀ i,i < cs.length→Tree (cs.getD i .any))→Tree (.agg cs)
 | bp (cs:List V):(∀ i,i < cs.length→Tree (cs.getD i .any))→Tree (.bp cs)
theorem xi {Z:Nat→Prop} {μ u:Mu} {hp:Array Obj} {v:V} {x:Value} (h:az Z μ hp v x):Tree v→az Z u hp v x:=by
 induction h with
 | any x=>intro t; exact .any x
 | val v w=>intro _; exact .val v w
 | emp k a h1 n=>intro _; exact .emp k a h1 n
 | dS a cap=>intro _; exact .dS a cap
 | iX a cap h1=>intro _; exact .iX a cap h1
 | aE es b off esz cap c o hle m p _ g =>
  intro t
  cases t with
  | aE _ l=>exact .aE es b off esz cap c o hle m p (fun i j hi s=>g i j hi s (l i j hi (by rw[m i hi]; exact s)))
 | pO id off esz a=>intro t; cases t
 | sl id off len esz b o0 cap c e f hm hle z hs=>intro t; cases t
 | ptr id i j b o0 esz hm=>intro t; cases t
 | aJ e j b off c o p _ g =>
  intro t
  cases t with
  | aJ _ _ l=>exact .aJ e j b off c o p (fun k hk=>g k hk (l k hk))
 | mp id b o0 esz hm=>intro t; cases t
 | fn f xs ys d y h1 n _ _ q r =>
  intro t
  cases t with
  | fn _ _ _ t1 t2=>exact .fn f xs ys d y h1 n (fun i hi=>q i hi (t1 i hi)) (fun i hi=>r i hi (t2 i hi))
 | agg cs d h1 _ g =>
  intro t
  cases t with
  | agg _ l=>exact .agg cs d h1 (fun i hi=>g i hi (l i hi))
 | bp cs d h1 _ g =>
  intro t
  cases t with
  | bp _ l=>exact .bp cs d h1 (fun i hi=>g i hi (l i hi))
inductive Fr (h:aC):V→V→Prop
 | tree (v:V):Tree v→Fr h v v
 | emp (k:Nat):Fr h (.emp k) (.aE [])
 | sl (id off len esz z:Nat) (es es':List (List V)):h.view id=.arr z es→off+len≤es.length→es'.length=len →
  (∀ i,i < len→(es'.getD i []).length=(es.getD (off+i) []).length) →
  (∀ i j,i < len→j < (es'.getD i []).length→Fr h ((es.getD (off+i) []).getD j .any) ((es'.getD i []).getD j .any))→Fr h (.sl id off len esz) (.aE es')
 | ptr (id i j z:Nat) (es:List (List V)) (e':List V):h.view id=.arr z es→i < es.length→e'.length=(es.getD i []).length →
  (∀ k,k < e'.length→Fr h ((es.getD i []).getD k .any) (e'.getD k .any))→Fr h (.ptr id i j) (.aJ e' j)
 | agg (cs cs':List V):cs'.length=cs.length→(∀ i,i < cs.length→Fr h (cs.getD i .any) (cs'.getD i .any))→Fr h (.agg cs) (.agg cs')
 | bp (cs cs':List V):cs'.length=cs.length→(∀ i,i < cs.length→Fr h (cs.getD i .any) (cs'.getD i .any))→Fr h (.bp cs) (.bp cs')
theorem CT {h:aC} {Z:Nat→Prop} {μ u:Mu} {F:View} {hp:Array Obj} (hr:iH Z μ hp (cat h F)) {v t:V} (fr:Fr h v t):∀ {x:Value},az Z μ hp v x→az (fun b=>Z b∨jG μ b) u hp t x:=by
 have l:∀ id,h.view id≠.dead→cat h F id=h.view id:=fun id hd=>by simp only[cat]; rw[Xg (iS hd)]
 induction fr with
 | tree v H =>
  intro x d
  have h1:az Z u hp v x:=xi d H
  exact h1.mono ⟨fun _ h=>.inl h,fun _ _=>rfl,fun _ _ h=>h,fV.refl _⟩
 | emp k=>intro x d; cases d with | emp _ a=>exact .iX a 0 (fun _=>rfl)
 | sl id off len esz z es es' hH hle hlen hl _ o =>
  intro x d
  cases d with
  | pO _ _ _ a =>
   have:es'=[]:=YD.1 hlen
   subst this
   exact .iX a 0 (fun _=>rfl)
  | sl _ _ _ _ b o0 cap c e f hm G M hs =>
   have g:=hr.obj id
   rw[l id (by rw[hH]; simp),hH] at g
   obtain ⟨rfl,_,I,J⟩:=g b o0 esz hm
   have d:∀ i,∃ ci:Nat→Value,∀ j,j < esz→i < len→cellAt hp b (o0+off * esz+i * esz+j)=some (ci j)∧az Z μ hp ((es.getD (off+i) []).getD j .any) (ci j):=by
    intro i
    by_cases hi:i < len
    ·obtain ⟨ci,A⟩:=pg (n:=esz) (p:=fun j x=>cellAt hp b (o0+off * esz+i * esz+j)=some x∧az Z μ hp ((es.getD (off+i) []).getD j .any) x) (fun j m=>by
      obtain ⟨x,d,B⟩:=J (off+i) j (by omega) m
      rw[X5,← Y4] at d
      exact ⟨x,d,B⟩)
     exact ⟨ci,fun j m _=>A j m⟩
    ·exact ⟨fun _=>undef,fun j _ h=>absurd h hi⟩
   obtain ⟨K,q⟩:=Classical.axiomOfChoice d
   have r:∀ i,i < es'.length→(es'.getD i []).length=esz:=fun i hi=>by rw[hl i (by omega)]; exact I _ (by omega)
   have:=az.aE (Z:=fun b=>Z b∨jG μ b) (μ:=u) (hp:=hp) es' b (o0+off * esz) esz cap K (.inr ⟨id,o0,esz,hm⟩) (by omega) r
    (fun i j hi m=>(q i j m (by omega)).1) (fun i j hi m=>o i j (by omega) (by rw[r i hi]; exact m) (q i j m (by omega)).2)
   rw[hlen] at this
   exact this
 | ptr id i j z es e' hH hi hlen _ o =>
  intro x d
  obtain ⟨b,o0,sz,hm,rfl⟩:=oy (w:={ (default:World) with heap:=hp }) d
  have g:=hr.obj id
  rw[l id (by rw[hH]; simp),hH] at g
  obtain ⟨rfl,s⟩:=rowOf (w:={ (default:World) with heap:=hp }) g hm hi
  refine An (w:={ (default:World) with heap:=hp }) (.inr ⟨id,o0,sz,hm⟩) (fun k hk=>?_)
  obtain ⟨y,L,B⟩:=s k (by omega)
  exact ⟨y,L,o k hk B⟩
 | agg cs C hlen _ o =>
  intro x d
  cases d with
  | agg _ D h1 E=>exact .agg _ _ (by omega) (fun i hi=>o i (by omega) (E i (by omega)))
 | bp cs C hlen _ o =>
  intro x d
  cases d with
  | bp _ D h1 E=>exact .bp _ _ (by omega) (fun i hi=>o i (by omega) (E i (by omega)))
def aA (P:Program) (f:FuncId) (vs:List V) (t:V):Prop :=
 ∀ Z μ (w:World) (xs:List Value),gA Z μ w.heap vs xs→(∀ b,Z b→b < w.heap.size) →
  Calls P f xs.toArray w fun e w'=>∃ x Z',e=.returned x∧(∀ ν,az Z' ν w'.heap t x)∧eM w w'∧(∀ b,Z b→Z' b)∧(∀ b,Z' b→Z b∨(w.heap.size≤b∧b < w'.heap.size))∧gF w.heap w'.heap (fun _=>False)
theorem D1 (F:View):cat [] F=F:=by funext id; simp[cat]
theorem aA.wV {P:Program} {f:FuncId} {vs:List V} {r t:V} {l:aC} (m:∀ v∈vs,Tree v) (n:bS P f vs [] r l) (p:Fr l r t):aA P f vs t:=by
 intro Z μ w xs c q
 have d:gA Z (fun _=>none) w.heap vs xs:=⟨c.1,fun i hi=>xi (c.2 i hi) (by
  simp only[Xb,Xc hi,Xu]
  exact m _ (Xm _))⟩
 have g:iH Z (fun _=>none) w.heap (cat [] fun _=>.dead):=by
  rw[D1]
  exact ⟨fun _=>trivial,fun i j b o s A B _ h=>by simp at h,fun id b o s h=>by simp at h,q,fun id b o s h=>by simp at h⟩
 refine (n.2 Z _ _ w xs d g (fun _ _ _=>rfl)).mono ?_
 rintro e w' ⟨x,u,μ',rfl,y,k,hex,_⟩
 refine ⟨x,fun b=>u b∨jG μ' b,rfl,fun C=>CT k p y,hex.same,fun b a=>.inl (hex.mono.z b a),?_,fun b a _=>hex.frame b a (by rintro ⟨_,_,_,h⟩; simp at h)⟩
 rintro b (a | ⟨id,o,s,a⟩)
 ·rcases hex.Rp b a with h1 | h1
  ·exact .inl h1
  ·exact .inr ⟨h1,k.cQ b a⟩
 ·rcases hex.Cr _ _ _ _ a with h1 | ⟨_,h1 | ⟨_,_,_,h1⟩⟩
  ·simp at h1
  ·exact .inr ⟨h1,k.lt _ _ _ _ a⟩
  ·simp at h1
theorem bS.gJ {P:Program} {f:FuncId} {vs:List V} {t:V} (m:aA P f vs t) (h:aC):bS P f vs h t h:=by
 refine ⟨Xo _,fun Z μ F w xs g hr j=>(m Z μ w xs g hr.cQ).mono ?_⟩
 rintro e w' ⟨x,l,rfl,n,hs,p,a,i⟩
 have hm:ix Z l μ μ w.heap w'.heap:=⟨p,fun b c=>i b (hr.cQ b c) (fun x=>x),fun _ _ h=>h,i.rv⟩
 refine ⟨x,l,μ,rfl,n μ,⟨fun id=>(hr.obj id).mono hm rfl (fun b o s d=>i b (hr.lt _ _ _ _ d) (fun x=>x)),hr.inj,fun id b o s d=>XM (hr.lt _ _ _ _ d) hs.size,fun b c=>?_,fun id b o s d k=>?_⟩,
  ⟨hs,hm,fun b c _=>i b c (fun x=>x),fun b c=>?_,fun _ _ _ _ h=>.inl h⟩,fun _ _=>rfl⟩
 ·rcases a b c with h1 | h1
  ·exact XM (hr.cQ b h1) hs.size
  ·exact h1.2
 ·rcases a b k with h1 | h1
  ·exact hr.ie _ _ _ _ d h1
  ·have:=hr.lt _ _ _ _ d; omega
 ·rcases a b c with h1 | h1
  ·exact .inl h1
  ·exact .inr h1.1
structure St where
 L:List V
 h:aC
 wl:List Nat
def D6 (l:List Nat) (x:Nat):Bool:=!l.contains x
def Ex (a b:Rec):Bool :=
 a.wr.all (D6 b.rd) && b.wr.all (D6 a.rd) && (!a.call || b.wr.isEmpty) && (!b.call || a.wr.isEmpty) && b.wr.all fun id=>!(decide (a.lo≤id) && decide (id < a.hi))
section
variable {P:Program} {n:Nat}
theorem Qx {a b:Rec} (h:Ex a b=true):pr a b:=by
 unfold Ex at h
 simp only[Xl,XI,D6,Zj,Yp] at h
 obtain ⟨⟨⟨⟨h1,g⟩,e⟩,f⟩,i⟩:=h
 refine ⟨fun id d hm=>?_,fun id d hm=>?_,fun c=>?_,fun c=>?_,fun id d hm=>?_⟩
 ·have:=h1 id d; simp at this; exact this hm
 ·have:=g id d; simp at this; exact this hm
 ·rcases e with e | e
  ·rw[c] at e; simp at e
  ·simpa using e
 ·rcases f with f | f
  ·rw[c] at f; simp at f
  ·simpa using f
 ·have:=i id d
  simp at this
  omega
end
inductive SX where
 | tmp (t:Nat)
 | val (v:V)
 deriving Inhabited
def SX.of:Operand→SX
 | .tmp t=>.tmp t
 | .const v=>.val (fN v)
 | .global _=>.val .any
 | .func f=>.val (.fn f [] [])
def SX.at (T:Env):SX→V
 | .tmp t=>T t
 | .val v=>v
theorem SX.cP (T:Env) (x:Operand):(SX.of x).at T=ev T x:=by cases x <;> rfl
inductive SI where
 | fa (x:SX)
 | pick (c a b:SX)
 | box (x:SX)
 | jQ (x:SX)
 | alloc (z:List V)
 | build (z:List V) (parts:List (Nat × Nat × SX))
 | bV (len sz:Nat) (z:List V) (parts:List (Nat × SX))
 | load (sz:Option Nat) (a:SX)
 | Aw (sz:Option Nat) (a:SX)
 | store (sz:Nat) (a x:SX)
 | B5 (x:SX)
 | addr (off:Nat) (x:SX)
 | field (off:Nat) (sz:Option Nat) (x:SX)
 | idx (sz:Nat) (x i:SX)
 | slice (sz:Nat) (x:SX) (lo hi:Option SX)
 | make (sz bytes:Nat) (z:List V) (l c:SX)
 | pD
 | s9 (f:FuncId) (first cap:List SX)
 | ext (i:Nat) (x:SX)
 | len (x:SX)
 | qp (x:SX)
 | app (sz bytes:Nat) (x y:SX)
 | arith (op:BinOp) (x y:SX)
 | sh (left:Bool) (x y:SX)
 | yc (op:BinOp) (x y:SX)
 | ja (x i:SX)
 | not (x:SX)
 | nil (eq:Bool) (k:Nat) (x y:SX)
 | beq (eq:Bool) (x y:SX)
 | mm (mx:Bool) (x y:SX)
 | conv (k:IntKind) (x:SX)
 | Es (x:SX)
 | gH (x:SX)
 | old (op:Op) (ty:TypeId)
 deriving Inhabited
def nb:Option Nat→List V→Nat→Option V
 | some n,cs,off=>if off+n≤cs.length then some (.agg ((cs.drop off).take n)) else none
 | none,cs,off=>if off < cs.length then some (cs.getD off .any) else none
def wY (sz:Option Nat) (a:V) (H:View):Out:=match a with
 | .ptr id i j=>match H id with
  | .arr _ es=>if i < es.length then (nb sz (es.getD i []) j).map fun v=>(v,.none,[id]) else none
  | _=>none
 | .aJ e j=>(nb sz e j).map fun v=>(v,.none,[])
 | _=>none
def Ct (sz:Nat) (a v:V) (H:View):Out:=match a with
 | .ptr id i j=>match H id with
  | .arr esz es =>
   if i < es.length∧v.cells.length=sz∧j+v.cells.length≤esz∧v.cells.all aO=true
   then some (.any,.fk id (.arr esz (es.set i (fJ (es.getD i []) j v.cells))),[id]) else none
  | _=>none
 | _=>none
def mT (z:List V) (parts:List (Nat × Nat × V)):Option (List V):=match parts with
 | []=>some z
 | (off,size,x) :: r=>if x.cells.length=size∧off+size≤z.length∧x.cells.all aO=true then mT (fJ z off x.cells) r else none
def AG (len sz:Nat) (z:List V) (parts:List (Nat × V)) (n:Nat):Out :=
 match mb sz (List.replicate len z) parts with
 | some es=>some (.sl n 0 len sz,.new (.arr sz es),[])
 | none=>none
def As (off:Nat) (x:V):Out:=match x with
 | .ptr id i j=>some (.ptr id i (j+off),.none,[])
 | .aJ e j=>some (.aJ e (j+off),.none,[])
 | _=>none
def EL (sz:Nat) (x i:V):Out:=match asNat i with
 | none=>none
 | some q=>match x with
  | .sl id off len esz=>if q < len∧esz=sz then some (.ptr id (off+q) 0,.none,[]) else none
  | .aE es=>if q < es.length∧(es.getD q []).length=sz then some (.aJ (es.getD q []) 0,.none,[]) else none
  | _=>none
def dx (sz:Nat) (x:V) (lo hi:Option V):Out:=match x with
 | .sl id off len esz=>match bound 0 lo,bound len hi with
  | some l,some h=>if l≤h∧h≤len∧esz=sz then some (.sl id (off+l) (h - l) esz,.none,[]) else none
  | _,_=>none
 | .aE es=>match bound 0 lo,bound es.length hi with
  | some l,some h=>if l≤h∧h≤es.length∧(es.all fun e=>e.length == sz)=true then some (.aE ((es.drop l).take (h - l)),.none,[]) else none
  | _,_=>none
 | .emp k=>match bound 0 lo,bound 0 hi with
  | some 0,some 0=>some (.emp k,.none,[])
  | _,_=>none
 | _=>none
def Dn (sz bytes:Nat) (z:List V) (len cap:V) (n:Nat):Out:=match asNat len,asNat cap with
 | some l,some c =>
  if l≤c∧c < aB∧bytes * c < aB then
   (if c=0 then some (.emp 2,.none,[]) else some (.sl n 0 l sz,.new (.arr sz (List.replicate l z)),[]))
  else none
 | _,_=>none
def IZ (sz bytes:Nat) (s x:V) (H:View) (n:Nat):Out:=match bI H x with
 | some (xs,rd) =>
  if xs.isEmpty then (match s with
   | .emp _ | .dS | .aE _ | .sl _ _ _ _=>some (s,.none,[])
   | _=>none)
  else if ¬ ((xs.all fun e=>e.length == sz && e.all aO)=true) then none
  else match s with
   | .emp _=>if xs.length * bytes < aB∧xs.length < aB then some (.sl n 0 xs.length sz,.new (.arr sz xs),rd) else none
   | .sl id off len esz=>match H id with
    | .arr _ es =>
     if off+len≤es.length∧esz=sz∧(len+xs.length) * bytes < aB∧len+xs.length < aB
     then some (.sl n 0 (len+xs.length) esz,.fa id (.arr esz ((es.drop off).take len ++ xs)),id :: rd) else none
    | _=>none
   | _=>none
 | none=>none
def iD (op:BinOp) (k:IntKind) (a b:Int):Option Value:=match op with
 | .add=>some (.int k (k.wrap (a+b)))
 | .sub=>some (.int k (k.wrap (a - b)))
 | .mul=>some (.int k (k.wrap (a * b)))
 | .quo=>if b=0 then none else some (.int k (k.wrap (a.tdiv b)))
 | .rem=>if b=0 then none else some (.int k (a.tmod b))
 | .eql=>some (.bool (a == b))
 | .neq=>some (.bool (a != b))
 | .lss=>some (.bool (a < b))
 | .leq=>some (.bool (a≤b))
 | .gtr=>some (.bool (a > b))
 | .geq=>some (.bool (a≥b))
 | .or=>some (.int k (k.wrap (BitVec.ofInt k.bits a ||| BitVec.ofInt k.bits b).toNat))
 | .and=>some (.int k (k.wrap (BitVec.ofInt k.bits a &&& BitVec.ofInt k.bits b).toNat))
 | .xor=>some (.int k (k.wrap (BitVec.ofInt k.bits a ^^^ BitVec.ofInt k.bits b).toNat))
 | .andNot=>some (.int k (k.wrap (BitVec.ofInt k.bits a &&& ~~~(BitVec.ofInt k.bits b)).toNat))
 | _=>none
def yR (op:BinOp) (x y:V):Out:=match x,y with
 | .val (.int k a),.val (.int k' b)=>if k=k' then (iD op k a b).map fun v=>(.val v,.none,[]) else none
 | _,_=>none
def El (left:Bool) (k:IntKind) (a b:Int):Int:=if left then k.wrap (a * 2 ^ (min b.toNat k.bits)) else a.fdiv (2 ^ (min b.toNat k.bits))
def Pd (left:Bool) (x y:V):Out:=match x,y with
 | .val (.int k a),.val (.int _ b)=>if b < 0 then none else some (.val (.int k (El left k a b)),.none,[])
 | _,_=>none
def RM:BinOp→Option Bool
 | .shl=>some true
 | .shr=>some false
 | _=>none
def jo (a b:ByteArray):Bool:=a.data.toList == b.data.toList
def BM (op:BinOp) (x y:V):Out:=match x,y with
 | .val (.string a),.val (.string b)=>match op with
  | .eql=>some (.val (.bool (jo a b)),.none,[])
  | .neq=>some (.val (.bool (!jo a b)),.none,[])
  | _=>none
 | _,_=>none
def DZ (x i:V):Out:=match x,asNat i with
 | .val (.string s),some q=>match s.data.toList[q]? with
  | some b=>some (.val (.int .u8 b.toNat),.none,[])
  | none=>none
 | _,_=>none
def Bu:Option Bool→Option Bool→Option Bool
 | some true,some b=>some b
 | some b,some true=>some b
 | _,_=>none
theorem Kf {P:Program} {t:TypeId} {k:Nat} (h:jM P t=some k) (x y:V):Ey P t x y=Bu (fh k x) (fh k y):=by
 simp only[Ey,h]
 unfold Bu
 split <;> simp_all
def oper (op:Op) (ty:TypeId):Oper:=⟨none,op,ty,"",#[],none⟩
theorem Q4 (P:Program) (o:Oper) (T:Env) (H:View) (n:Nat):cp P (oper o.op o.type) T H n=cp P o T H n:=by
 cases o; rfl
def sI (P:Program) (s:SI) (T:Env) (H:View) (n:Nat):Out:=match s with
 | .fa x=>some (x.at T,.none,[])
 | .pick c a b=>match c.at T with
  | .val (.bool t)=>some (if t then a.at T else b.at T,.none,[])
  | _=>none
 | .box x=>mG (x.at T).cells n
 | .jQ x=>if (x.at T).cells.all aO=true then some (.aJ (x.at T).cells 0,.none,[]) else none
 | .alloc z=>mG z n
 | .build z parts=>(mT z (parts.map fun (a,b,x)=>(a,b,x.at T))).map fun cs=>(.agg cs,.none,[])
 | .bV len sz z parts=>AG len sz z (parts.map fun (i,x)=>(i,x.at T)) n
 | .load sz a=>wY sz (a.at T) H
 | .Aw sz a=>match a.at T with
  | .aJ e j=>(nb sz e j).map fun v=>(v,.none,[])
  | _=>none
 | .store sz a x=>Ct sz (a.at T) (x.at T) H
 | .B5 x=>match x.at T with
  | .ptr id i j=>some (.ptr id i j,.none,[])
  | .aJ e j=>some (.aJ e j,.none,[])
  | .fn f a b=>some (.fn f a b,.none,[])
  | _=>none
 | .addr off x=>As off (x.at T)
 | .field off sz x=>match x.at T with
  | .agg cs=>(nb sz cs off).map fun v=>(v,.none,[])
  | _=>none
 | .idx sz x i=>EL sz (x.at T) (i.at T)
 | .slice sz x lo hi=>dx sz (x.at T) (lo.map (SX.at T)) (hi.map (SX.at T))
 | .make sz bytes z l c=>Dn sz bytes z (l.at T) (c.at T) n
 | .pD=>some (.mp n,.new (.map [] 0),[])
 | .s9 f first cap=>some (.fn f (first.map (SX.at T)) (cap.map (SX.at T)),.none,[])
 | .ext i x=>match x.at T with
  | .bp vs=>if i < vs.length then some (vs.getD i .any,.none,[]) else none
  | _=>none
 | .len x=>(cH (x.at T)).map fun n=>(iL n,.none,[])
 | .qp x=>match x.at T with
  | .val (.string s)=>some (iL s.size,.none,[])
  | _=>none
 | .app sz bytes x y=>IZ sz bytes (x.at T) (y.at T) H n
 | .arith op x y=>yR op (x.at T) (y.at T)
 | .sh l x y=>Pd l (x.at T) (y.at T)
 | .yc op x y=>BM op (x.at T) (y.at T)
 | .ja x i=>DZ (x.at T) (i.at T)
 | .not x=>match x.at T with
  | .val (.bool t)=>some (.val (.bool (!t)),.none,[])
  | _=>none
 | .nil eq k x y=>match Bu (fh k (x.at T)) (fh k (y.at T)) with
  | some b=>some (.val (.bool (if eq then b else !b)),.none,[])
  | none=>none
 | .beq eq x y=>match x.at T,y.at T with
  | .val (.bool a),.val (.bool b)=>some (.val (.bool (if eq then a == b else a != b)),.none,[])
  | _,_=>none
 | .mm mx x y=>match x.at T,y.at T with
  | .val (.int k a),.val (.int _ b)=>some (.val (.int k (if mx then (if b > a then b else a) else (if b < a then b else a))),.none,[])
  | _,_=>none
 | .conv k x=>match x.at T with
  | .val (.int _ a)=>some (.val (.int k (k.wrap a)),.none,[])
  | _=>none
 | .Es x=>match x.at T with
  | .aE es=>(lI es).map fun l=>(.val (.string ⟨l.toArray⟩),.none,[])
  | _=>none
 | .gH x=>match x.at T with
  | .val (.string s)=>some (.aE (gX s),.none,[])
  | _=>none
 | .old op ty=>cp P (oper op ty) T H n
def DX (P:Program) (t:TypeId):Option (Option Nat):=match P.info? t,sM P t with
 | some i,some true=>some (some i.size)
 | some _,some false=>some none
 | _,_=>none
theorem xV {P:Program} {t:TypeId} {k:Option Nat} (h:DX P t=some k) (cs:List V) (j:Nat):qM P t cs j=nb k cs j:=by
 unfold DX at h
 split at h
 ·rename_i i h1 a
  simp at h; subst h; simp[qM,h1,a,nb]
 ·rename_i i h1 a
  simp at h; subst h; simp[qM,h1,a,nb]
 ·simp at h
def qY (P:Program) (t:TypeId):Option (Nat × Nat × List V):=match cY P t with
 | some e=>match P.info? e,zeroCells P e with
  | some ti,some z=>if z.length=ti.size∧z.all aO=true∧ti.size≠0 then some (ti.size,ti.bytes,z) else none
  | _,_=>none
 | none=>none
theorem lO {P:Program} {t:TypeId} {sz a:Nat} {z:List V} (h:qY P t=some (sz,a,z)) :
  ∃ e ti,cY P t=some e∧P.underlying t=some (.slice e)∧P.info? e=some ti∧zeroCells P e=some z∧z.length=ti.size∧z.all aO=true∧ti.size≠0∧sz=ti.size∧a=ti.bytes:=by
 unfold qY at h
 split at h
 ·rename_i e he
  split at h
  ·rename_i ti f h1 c
   split at h
   ·rename_i b
    simp at h
    obtain ⟨rfl,rfl,rfl⟩:=h
    have hu:P.underlying t=some (.slice e):=by
     unfold cY at he; split at he
     ·rename_i d; simp at he; subst he; exact d
     ·simp at he
    exact ⟨e,ti,he,hu,h1,c,b.1,b.2.1,b.2.2,rfl,rfl⟩
   ·simp at h
  ·simp at h
 ·simp at h
def vI (P:Program) (t:TypeId):List (Nat × Operand)→Option (List (Nat × Nat × SX))
 | []=>some []
 | (i,x) :: r=>match placeOf P t i,vI P t r with
  | some (a,b),some l=>some ((a,b,SX.of x) :: l)
  | _,_=>none
def comp (P:Program) (o:Oper):SI:=match o.op with
 | .move x | .assign x=>.fa (SX.of x)
 | .pick c a b=>.pick (SX.of c) (SX.of a) (SX.of b)
 | .alloc e=>match zeroCells P e with
  | some z=>.alloc z
  | none=>.old o.op o.type
 | .box _ x=>.box (SX.of x)
 | .load t a=>match DX P t with
  | some k=>.load k (SX.of a)
  | none=>.old o.op o.type
 | .store t a v=>match P.info? t with
  | some _=>.store (P.cellsOf t) (SX.of a) (SX.of v)
  | none=>.old o.op o.type
 | .nilCheck x=>.B5 (SX.of x)
 | .fieldAddr t x f=>match qF P t f with
  | some (off,s,_)=>if s=0 then .old o.op o.type else .addr off (SX.of x)
  | none=>.old o.op o.type
 | .field t x f=>match qF P t f with
  | some (off,_,ft)=>match DX P ft with
   | some k=>.field off k (SX.of x)
   | none=>.old o.op o.type
  | none=>.old o.op o.type
 | .indexAddr t x i=>match qY P t with
  | some (sz,_,_)=>.idx sz (SX.of x) (SX.of i)
  | none=>.old o.op o.type
 | .slice t x lo hi none=>match qY P t with
  | some (sz,_,_)=>.slice sz (SX.of x) (lo.map SX.of) (hi.map SX.of)
  | none=>.old o.op o.type
 | .makeSlice t l c=>match qY P t with
  | some (sz,b,z)=>.make sz b z (SX.of l) (SX.of c)
  | none=>.old o.op o.type
 | .makeMap _ none=>.pD
 | .makeFunc (.func f) first cap=>.s9 f (first.toList.map SX.of) (cap.toList.map SX.of)
 | .extract t i=>.ext i (SX.of t)
 | .build t parts=>match P.underlying t,zeroV P t with
  | some (.struct _),some (.agg z)=>if mN P t=true then
    (match vI P t parts.toList with
    | some ps=>.build z ps
    | none=>.old o.op o.type) else .old o.op o.type
  | _,_=>.old o.op o.type
 | .buildSlice t len parts=>match qY P t with
  | some (sz,_,z)=>if len=0∧parts.toList.isEmpty=true then .fa (.val (.emp 2)) else if len * sz≤2 ^ 24∧len≠0 then .bV len sz z (parts.toList.map fun (i,x)=>(i,SX.of x)) else .old o.op o.type
  | none=>.old o.op o.type
 | .call { callee:=.builtin b,args,argTypes }=>match b,args.toList with
  | .len,[x]=>if 1≤argTypes.size then (match P.underlying (argTypes.getD 0 0) with
   | some (.slice _)=>.len (SX.of x)
   | some .string=>.qp (SX.of x)
   | _=>.old o.op o.type) else .old o.op o.type
  | .append,[s,x]=>if 2≤argTypes.size∧qK P (argTypes.getD 1 0)=true then (match qY P (argTypes.getD 0 0) with
   | some (sz,b,_)=>.app sz b (SX.of s) (SX.of x)
   | none=>.old o.op o.type) else .old o.op o.type
  | .min,[x,y]=>.mm false (SX.of x) (SX.of y)
  | .max,[x,y]=>.mm true (SX.of x) (SX.of y)
  | _,_=>.old o.op o.type
 | .convert s d x=>match P.underlying s,P.underlying d with
  | some (.int _),some (.int k)=>.conv k (SX.of x)
  | _,_=>.old o.op o.type
 | .binOp op t x y _=>match jM P t with
  | some k=>match op with
   | .eql=>.nil true k (SX.of x) (SX.of y)
   | .neq=>.nil false k (SX.of x) (SX.of y)
   | _=>.old o.op o.type
  | none=>match P.underlying t with
   | some (.int _)=>match RM op with
    | some l=>.sh l (SX.of x) (SX.of y)
    | none=>.arith op (SX.of x) (SX.of y)
   | some .string=>.yc op (SX.of x) (SX.of y)
   | some .bool=>match op with
    | .eql=>.beq true (SX.of x) (SX.of y)
    | .neq=>.beq false (SX.of x) (SX.of y)
    | _=>.old o.op o.type
   | _=>.old o.op o.type
 | .unOp .not _ x=>.not (SX.of x)
 | .index t x i=>match P.underlying t with
  | some .string=>.ja (SX.of x) (SX.of i)
  | _=>.old o.op o.type
 | _=>.old o.op o.type
theorem Gz {P:Program} {t:TypeId} {T:Env} : ∀ (parts:List (Nat × Operand)) (c:List (Nat × Nat × SX)) (z:List V),vI P t parts=some c →
  xP (placeOf P t) z (parts.map fun (i,x)=>(i,ev T x))=mT z (c.map fun (a,b,x)=>(a,b,x.at T))
 | [],c,z,h=>by simp[vI] at h; subst h; rfl
 | (i,x) :: r,c,z,h=>by
  simp only[vI] at h
  split at h
  ·rename_i a b l h1 d
   simp at h; subst h
   simp only[XF,xP,h1,mT,SX.cP]
   split
   ·exact Gz r l _ d
   ·rfl
  ·simp at h
theorem JS {P:Program} {o:Oper} {T:Env} {op:BinOp} {t u:TypeId} {x y:Operand} {k:IntKind} {a b:Int} {r:Value} (c:o.op=.binOp op t x y u) (d:ev T x=.val (.int k a)) (e:ev T y=.val (.int k b)) (h:iD op k a b=some r) :
  dQ P o T=some (.val r,.none,[]):=by
 unfold dQ
 simp only[c,Op.operands]
 simp only[d,e,dq]
 cases op <;> simp only[iD,Xe,reduceCtorEq] at h
 all_goals first
  | (
   split at h
   ·simp at h
   ·rename_i f
    simp at h; subst h
    simp[execOp,c,d,e,dq,eqGuard,binOp,Op.intDiv,f,plain]
    try rfl)
  | (subst h; simp[execOp,c,d,e,dq,eqGuard,binOp,Op.intArith,Op.intCmp,Op.intBits,plain]; try rfl)
theorem Q7 {P:Program} {o:Oper} {T:Env} {op:BinOp} {t u:TypeId} {x y:Operand} {l:Bool} {v:V} {eff:bA} {rd:List Nat} (c:o.op=.binOp op t x y u) (hs:RM op=some l) (h:Pd l (ev T x) (ev T y)=some (v,eff,rd)) :
  dQ P o T=some (v,eff,rd):=by
 unfold Pd at h
 split at h
 ·rename_i k a g b d e
  split at h
  ·simp at h
  ·rename_i f
   simp only[Xe,Xh] at h
   obtain ⟨rfl,rfl,rfl⟩:=h
   unfold dQ
   simp only[c,Op.operands]
   simp only[d,e,dq]
   cases op <;> simp only[RM,Xe,reduceCtorEq] at hs
   all_goals
    subst hs
    simp[execOp,c,d,e,dq,eqGuard,binOp,Op.shift,f,plain,El]
    try rfl
 ·simp at h
theorem O6 {P:Program} {o:Oper} {T:Env} {op:BinOp} {t u:TypeId} {x y:Operand} {v:V} {eff:bA} {rd:List Nat} (c:o.op=.binOp op t x y u) (h:BM op (ev T x) (ev T y)=some (v,eff,rd)) :
  dQ P o T=some (v,eff,rd):=by
 unfold BM at h
 split at h
 ·rename_i a b d e
  unfold dQ
  simp only[c,Op.operands,d,e,dq]
  have he:(a.toList == b.toList)=jo a b:=by simp[jo,ByteArray.toList_eq]
  split at h
  ·simp at h; obtain ⟨rfl,rfl,rfl⟩:=h
   simp[execOp,c,d,e,dq,eqGuard,binOp,Op.stringOp,plain,← he]; rfl
  ·simp at h; obtain ⟨rfl,rfl,rfl⟩:=h
   simp[execOp,c,d,e,dq,eqGuard,binOp,Op.stringOp,plain,← he]; rfl
  ·simp at h
 ·simp at h
theorem Mx {P:Program} {o:Oper} {T:Env} {t:TypeId} {x i:Operand} {v:V} {eff:bA} {rd:List Nat} (d:o.op=.index t x i) (hu:P.underlying t=some .string) (h:DZ (ev T x) (ev T i)=some (v,eff,rd)) :
  dQ P o T=some (v,eff,rd):=by
 unfold DZ at h
 split at h
 ·rename_i s q e hq
  split at h
  ·rename_i b j
   simp at h; obtain ⟨rfl,rfl,rfl⟩:=h
   unfold asNat at hq
   split at hq
   ·rename_i k z f
    split at hq
    ·rename_i g
     simp at hq; subst hq
     have hs:s[z.toNat]?=some b:=by
      obtain ⟨a,rfl⟩:=Xq.1 j
      have c:z.toNat < s.size:=by rw[bsize] at a; exact a
      rw[getElem?_pos s z.toNat c]
      rfl
     unfold dQ
     simp only[d,Op.operands,e,f,dq]
     simp[execOp,d,e,f,dq,Instr.index,asIntOf,underlying,program,hu,g,hs,plain]
     simp[bD,hu,g,hs,plain,bind,Sem.bind,pure]
     rfl
    ·simp at hq
   ·simp at hq
  ·simp at h
 ·simp at h
theorem Ou {P:Program} {o:Oper} {T:Env} {t:TypeId} {x:Operand} {b:Bool} (a:o.op=.unOp .not t x) (c:ev T x=.val (.bool b)) :
  dQ P o T=some (.val (.bool (!b)),.none,[]):=by
 unfold dQ
 simp only[a,Op.operands,c,dq]
 simp[execOp,a,c,dq,Op.unary,plain]
 rfl
theorem jD {α β:Type} (P:Program) (s:Sem α) (f:α→β):bD P (Functor.map f s)=(bD P s).map f:=by
 show bD P (s >>= fun a=>pure (f a))=_
 rw[bt]
 cases bD P s <;> rfl
theorem er {P:Program} {t:TypeId} {d:TypeDesc} (h:P.underlying t=some d):bD P (underlying t)=some d:=by
 simp only[underlying,program,bt]
 simp[bD,h]
 rfl
theorem yl {P:Program} {t:TypeId} {a b:Bool} (hu:P.underlying t=some .bool):bD P (Op.equal t (.bool a) (.bool b))=some (a == b):=by
 rw[lX]
 generalize 9999=d
 simp only[Op.equalIn,bt,er hu,XS]
 rfl
theorem F4 {P:Program} {o:Oper} {T:Env} {op:BinOp} {t u:TypeId} {x y:Operand} {a b:Bool} {r:Bool} (c:o.op=.binOp op t x y u) (hu:P.underlying t=some .bool) (d:ev T x=.val (.bool a)) (e:ev T y=.val (.bool b))
  (hr:(op=.eql∧r=(a == b))∨(op=.neq∧r=(a != b))) :
  dQ P o T=some (.val (.bool r),.none,[]):=by
 unfold dQ
 simp only[c,Op.operands,d,e,dq]
 rcases hr with ⟨rfl,rfl⟩ | ⟨rfl,rfl⟩
 ·simp[execOp,c,d,e,dq,eqGuard,binOp,jD,bt,yl hu,plain]
  try simp[bD,pure,plain]
 ·simp[execOp,c,d,e,dq,eqGuard,binOp,jD,bt,yl hu,plain]
  try simp[bD,pure,plain,bne]
theorem Na {P:Program} {o:Oper} {T:Env} {s d:TypeId} {x:Operand} {f k b:IntKind} {a:Int} (c:o.op=.convert s d x) (hs:P.underlying s=some (.int f)) (hd:P.underlying d=some (.int k)) (e:ev T x=.val (.int b a)) :
  dQ P o T=some (.val (.int k (k.wrap a)),.none,[]):=by
 unfold dQ
 simp only[c,Op.operands,e,dq]
 have:bD P (convert s d (.int b a))=some (.int k (k.wrap a)):=by
  simp only[convert,bt,er hs,er hd,XS]
  rfl
 simp[execOp,c,e,dq,jD,this,plain]
theorem IU {P:Program} {o:Oper} {T:Env} {bi:Builtin} {x y:Operand} {k d:IntKind} {a b:Int} {args:Array Operand} {c:Array TypeId} {r:Int} (e:o.op=.call { callee:=.builtin bi,args:=args,argTypes:=c }) (h:args.toList=[x,y])
  (f:ev T x=.val (.int k a)) (g:ev T y=.val (.int d b)) (hr:(bi=.max∧r=if b > a then b else a)∨(bi=.min∧r=if b < a then b else a)) :
  dQ P o T=some (.val (.int k r),.none,[]):=by
 obtain rfl:args = #[x,y]:=by rw[← Array.toArray_toList (xs:=args),h]
 unfold dQ
 rcases hr with ⟨rfl,rfl⟩ | ⟨rfl,rfl⟩
 ·have:bD P (Builtin.max_ c o.type #[.int k a,.int d b])=some (.int k (if b > a then b else a)):=rfl
  simp[e,Op.operands,Call.operands,f,g,dq,execOp,resolve,invoke,builtin,jD,this,plain]
 ·have:bD P (Builtin.min_ c o.type #[.int k a,.int d b])=some (.int k (if b < a then b else a)):=rfl
  simp[e,Op.operands,Call.operands,f,g,dq,execOp,resolve,invoke,builtin,jD,this,plain]
theorem DU (l:List Operand) (T:Env):(l.map SX.of).map (SX.at T)=l.map (ev T):=by
 rw[List.map_map]; congr 1; funext x; exact SX.cP T x
theorem Ui (l:Option Operand) (T:Env):(l.map SX.of).map (SX.at T)=l.map (ev T):=by
 cases l <;> simp[SX.cP]
theorem Uq (l:List (Nat × Operand)) (T:Env):(l.map fun (i,x)=>(i,SX.of x)).map (fun (i,x)=>(i,SX.at T x))=l.map fun (i,x)=>(i,ev T x):=by
 rw[List.map_map]; congr 1; funext x; simp[SX.cP]
theorem KC {P:Program} {o:Oper} {T:Env} {H:View} {n:Nat} {v:V} {eff:bA} {rd:List Nat} (h:sI P (comp P o) T H n=some (v,eff,rd)) :
  cp P o T H n=some (v,eff,rd):=by
 have old:∀ {s:SI},s=.old o.op o.type→sI P s T H n=some (v,eff,rd)→cp P o T H n=some (v,eff,rd):=fun e h=>by rw[e] at h; simp only[sI,Q4] at h; exact h
 unfold comp at h
 split at h
 ·rename_i x g; simp only[sI,SX.cP] at h; simp only[cp,g]; exact h
 ·rename_i x g; simp only[sI,SX.cP] at h; simp only[cp,g]; exact h
 ·rename_i c a b g; simp only[sI,SX.cP] at h; simp only[cp,g]; exact h
 ·rename_i e g
  split at h
  ·rename_i z Q; simp only[sI] at h; simp only[cp,g,Q]; exact h
  ·exact old rfl h
 ·rename_i t x g; simp only[sI,SX.cP] at h; simp only[cp,g]; exact h
 ·rename_i t a g
  split at h
  ·rename_i k hk
   simp only[sI,SX.cP,wY] at h
   simp only[cp,g,na,xV hk]
   exact h
  ·exact old rfl h
 ·rename_i t a x g
  split at h
  ·rename_i ti R
   simp only[sI,SX.cP,Ct] at h
   simp only[cp,g,rG,R,Option.isSome_some,and_true]
   exact h
  ·exact old rfl h
 ·rename_i x g; simp only[sI,SX.cP] at h; simp only[cp,g]; exact h
 ·rename_i t x f g
  split at h
  ·rename_i off s Y I
   split at h
   ·exact old rfl h
   ·rename_i hs
    simp only[sI,SX.cP,As] at h
    simp only[cp,g,mf,I,hs,if_false]
    exact h
  ·exact old rfl h
 ·rename_i t x f g
  split at h
  ·rename_i off s Y I
   split at h
   ·rename_i k hk
    simp only[sI,SX.cP] at h
    simp only[cp,g,wH,I]
    split at h
    ·rename_i cs S; simp only[S,xV hk]; exact h
    ·simp at h
   ·exact old rfl h
  ·exact old rfl h
 ·rename_i t x i g
  split at h
  ·rename_i sz b z hk
   obtain ⟨e,ti,h1,J,w,D,K,N,L,rfl,rfl⟩:=lO hk
   simp only[sI,SX.cP,EL] at h
   simp only[cp,g,ml,J,w]
   exact h
  ·exact old rfl h
 ·rename_i t x lo hi g
  split at h
  ·rename_i sz b z hk
   obtain ⟨e,ti,h1,J,w,D,K,N,L,rfl,rfl⟩:=lO hk
   simp only[sI,SX.cP,Ui] at h
   simp only[cp,g]
   have q:tj P t (ev T x) (lo.map (ev T)) (hi.map (ev T)) none=some (v,eff,rd):=by
    simp only[tj,h1,w]
    unfold dx at h
    split at h
    ·rename_i p; rw[p]; exact h
    ·rename_i p; rw[p]; exact h
    ·rename_i p; rw[p]; exact h
    ·simp at h
   unfold dx at h
   split at h
   ·rename_i p; rw[p] at q ⊢; exact q
   ·rename_i p; rw[p] at q ⊢; exact q
   ·rename_i p; rw[p] at q ⊢; exact q
   ·simp at h
  ·exact old rfl h
 ·rename_i t l c g
  split at h
  ·rename_i sz b z hk
   obtain ⟨e,ti,h1,J,w,D,K,N,L,rfl,rfl⟩:=lO hk
   simp only[sI,SX.cP,Dn] at h
   simp only[cp,g,mc,h1,w]
   split at h
   ·rename_i l' c' hl G
    simp only[hl,G,L,if_false,D,K,N,and_self,if_true]
    exact h
   ·simp at h
  ·exact old rfl h
 ·rename_i t g; simp only[sI] at h; simp only[cp,g]; exact h
 ·rename_i f first cap g; simp only[sI,DU] at h; simp only[cp,g]; exact h
 ·rename_i t i g; simp only[sI,SX.cP] at h; simp only[cp,g]; exact h
 ·rename_i t parts g
  split at h
  ·rename_i fs z h1 J
   split at h
   ·rename_i w
    split at h
    ·rename_i Z D
     simp only[sI] at h
     simp only[cp,g,wD,h1,J,w,if_true]
     have:=Gz (T:=T) parts.toList Z z D
     rw[this]
     exact h
    ·exact old rfl h
   ·exact old rfl h
  ·exact old rfl h
 ·rename_i t len parts g
  split at h
  ·rename_i sz b z hk
   obtain ⟨e,ti,h1,J,w,D,K,N,L,rfl,rfl⟩:=lO hk
   split at h
   ·rename_i G
    obtain ⟨rfl,G⟩:=G
    simp only[sI,SX.at] at h
    simp only[cp,g,iM,h1,w]
    rw[List.isEmpty_iff] at G
    rw[Xd (by omega),Xg trivial,G]
    exact h
   split at h
   ·rename_i G
    simp only[sI,Uq,AG] at h
    simp only[cp,g,iM,h1,w]
    rw[Xd (by omega),Xd G.2,Xd L]
    simp only[D,K,N,and_self,if_true]
    exact h
   ·exact old rfl h
  ·exact old rfl h
 ·rename_i b args an g
  split at h
  ·rename_i x j
   split at h
   ·rename_i E
    simp only[cp,g,j,E,if_true,uN]
    split at h
    ·rename_i e hu
     simp only[sI,SX.cP] at h
     simp only[hu]; exact h
    ·rename_i hu
     simp only[sI,SX.cP] at h
     simp only[hu]
     exact h
    ·have:=old rfl h
     simpa only [cp,g,j,E,if_true,uN] using this
   ·exact old rfl h
  ·rename_i s x j
   split at h
   ·rename_i E
    split at h
    ·rename_i sz b z hk
     obtain ⟨e,ti,h1,J,w,D,K,N,L,rfl,rfl⟩:=lO hk
     simp only[sI,SX.cP] at h
     simp only[cp,g,j]
     rw[Xg E]
     unfold IZ at h
     split at h
     ·rename_i xs aq U
      simp only[nM,h1,U,w]
      have Q:(zeroCells P e).map List.length=some ti.size:=by rw[D]; simp[K]
      split at h
      ·rename_i A; rw[Xg A]; exact h
      ·rename_i A
       rw[Xd A]
       split at h
       ·simp at h
       ·rename_i O
        rw[Xd (by
         rintro (p | p | p)
         ·exact L p
         ·exact p Q
         ·exact O p)]
        exact h
     ·simp at h
    ·exact old rfl h
   ·exact old rfl h
  ·rename_i x y j
   simp only[sI,SX.cP] at h
   simp only[cp,g]
   split at h
   ·rename_i k a W b B F
    have:=IU (P:=P) (T:=T) g j B F (.inr ⟨rfl,rfl⟩)
    rw[this]; exact h
   ·simp at h
  ·rename_i x y j
   simp only[sI,SX.cP] at h
   simp only[cp,g]
   split at h
   ·rename_i k a W b B F
    have:=IU (P:=P) (T:=T) g j B F (.inl ⟨rfl,rfl⟩)
    rw[this]; exact h
   ·simp at h
  ·exact old rfl h
 ·rename_i s d x g
  split at h
  ·rename_i k0 k hs hd
   simp only[sI,SX.cP] at h
   simp only[cp,g]
   split at h
   ·rename_i W a B
    have M:¬ (ll P s d=true):=by simp[ll,hs,hd]
    rw[Xd M,Na g hs hd B]; exact h
   ·simp at h
  ·exact old rfl h
 ·rename_i op t x y u g
  split at h
  ·rename_i k hk
   have C:(jM P t).isSome=true:=by rw[hk]; rfl
   split at h
   ·simp only[sI,SX.cP] at h
    simp only[cp,g]
    rw[Xg C,Kf hk]
    split at h
    ·rename_i b M; rw[M]; simpa using h
    ·simp at h
   ·simp only[sI,SX.cP] at h
    simp only[cp,g]
    rw[Xg C,Kf hk]
    split at h
    ·rename_i b M; rw[M]; simpa using h
    ·simp at h
   ·exact old rfl h
  ·rename_i hk
   have m:¬ ((jM P t).isSome=true):=by rw[hk]; simp
   split at h
   ·split at h
    ·rename_i l hs
     simp only[sI,SX.cP] at h
     simp only[cp,g]
     rw[Xd m]
     exact Q7 g hs h
    ·simp only[sI,SX.cP,yR] at h
     simp only[cp,g]
     split at h
     ·rename_i k a W b B F
      split at h
      ·rename_i X
       subst X
       simp only[Xn] at h
       obtain ⟨r,hr,h⟩:=h
       rw[Xd m,JS g B F hr]; exact YA some h
      ·simp at h
     ·simp at h
   ·simp only[sI,SX.cP] at h
    simp only[cp,g]
    rw[Xd m]
    exact O6 g h
   ·rename_i hu
    split at h
    ·simp only[sI,SX.cP] at h
     simp only[cp,g]
     split at h
     ·rename_i a b B F
      rw[Xd m,F4 g hu B F (.inl ⟨rfl,rfl⟩)]; simpa using h
     ·simp at h
    ·simp only[sI,SX.cP] at h
     simp only[cp,g]
     split at h
     ·rename_i a b B F
      rw[Xd m,F4 g hu B F (.inr ⟨rfl,rfl⟩)]; simpa using h
     ·simp at h
    ·exact old rfl h
   ·exact old rfl h
 ·rename_i t x g
  simp only[sI,SX.cP] at h
  simp only[cp,g]
  split at h
  ·rename_i b M; rw[Ou g M]; exact h
  ·simp at h
 ·rename_i t x i g
  split at h
  ·rename_i hu
   simp only[sI,SX.cP] at h
   simp only[cp,g]
   exact Mx g hu h
  ·exact old rfl h
 ·exact old rfl h
theorem Sk {P:Program} {sz:Option Nat} {a:SX} {T:Env} {H:View} {n:Nat} {v:V} {eff:bA} {rd:List Nat} (h:sI P (.Aw sz a) T H n=some (v,eff,rd)):sI P (.load sz a) T H n=some (v,eff,rd):=by
 simp only[sI] at h
 simp only[sI,wY]
 split at h
 ·rename_i e j b; rw[b]; exact h
 ·simp at h
def toStr (P:Program) (s d:TypeId):Bool:=match P.underlying s,P.underlying d with
 | some (.slice e),some .string=>(match P.underlying e with | some (.int .u8)=>true | _=>false)
 | _,_=>false
def vY (P:Program) (s d:TypeId):Bool:=match P.underlying s,P.underlying d with
 | some .string,some (.slice e)=>(match P.underlying e with | some (.int .u8)=>true | _=>false)
 | _,_=>false
theorem Qo {P:Program} {s d:TypeId} (h:toStr P s d=true):∃ e,P.underlying s=some (.slice e)∧P.underlying d=some .string∧P.underlying e=some (.int .u8):=by
 unfold toStr at h
 split at h
 ·rename_i e h1 a
  split at h
  ·rename_i b; exact ⟨e,h1,a,b⟩
  ·simp at h
 ·simp at h
theorem Bd {P:Program} {s d:TypeId} (h:vY P s d=true):∃ e,P.underlying s=some .string∧P.underlying d=some (.slice e)∧P.underlying e=some (.int .u8):=by
 unfold vY at h
 split at h
 ·rename_i e h1 a
  split at h
  ·rename_i b; exact ⟨e,h1,a,b⟩
  ·simp at h
 ·simp at h
theorem TR {P:Program} {s d ty:TypeId} {x:Operand} {T:Env} {H:View} {n:Nat} {v:V} {eff:bA} {rd:List Nat} (a:toStr P s d=true) (h:sI P (.Es (SX.of x)) T H n=some (v,eff,rd)):sI P (.old (.convert s d x) ty) T H n=some (v,eff,rd):=by
 obtain ⟨e,h1,b,c⟩:=Qo a
 simp only[sI,SX.cP] at h
 simp only[sI,cp,oper,ll,h1,if_true,nA,b,c]
 split at h
 ·rename_i es f
  rw[f]
  simp only[bI,cH]
  exact h
 ·simp at h
inductive SB where
 | op (s:SI)
 | call (f:SX) (args:List SX)
 | wW (f:SX) (args:List SX)
 deriving Inhabited
structure SO where
 dst:Option Nat
 guard:Option (Nat × Bool)
 b:SB
 deriving Inhabited
structure SG where
 guard:Option (Nat × Bool)
 ops:List (Option Nat × SB)
 deriving Inhabited
inductive SC where
 | skip
 | region (quiet:Bool) (gs:List SG)
 | nT (aps:List (Nat × Nat)) (gs:List SG)
 | D7 (tol:Nat × Nat × Nat) (aps:List (Nat × Nat)) (gs:List SG)
 | seq (x y:SC)
 | cond (c:SX) (x y:SC)
 | block (id:Nat) (c:SC)
 | loop (c:SC)
 | exit (id:Nat)
 | ret
 | scope (l:Nat) (c r:SC)
 | label (l:Nat)
 | goto (l:Nat)
 deriving Inhabited
def pG:SC→Nat→Option SC
 | .seq a b,l=>match pG a l with
  | some r=>some (.seq r b)
  | none=>pG b l
 | .label l',l=>if l' == l then some .skip else none
 | _,_=>none
def Hp:SC→Option Nat
 | .seq a b=>match Hp a with
  | some l=>some l
  | none=>Hp b
 | .label l=>some l
 | _=>none
def Az (l:Nat):Exit→Prop→Prop→Prop
 | .goto l',a,_=>l'=l∧a
 | _,_,b=>b
inductive SR where
 | tmp (t:Nat)
 | cell (t:Nat) (sz:Option Nat)
 deriving Inhabited
def Ap (P:Program) (op:Op):Nat:=match op with
 | .convert s d _=>if ll P s d=true then 2 else 0
 | .call { callee:=.builtin b,.. }=>match b with
  | .min | .max | .complex | .real | .imag=>0
  | .len=>1
  | _=>2
 | .lookup ..=>1
 | .binOp .. | .unOp .. | .index ..=>0
 | _=>2
def ux (P:Program):SI→Nat
 | .fa _ | .pick .. | .jQ _ | .B5 _ | .addr .. | .field .. | .idx .. | .slice .. | .s9 .. | .ext .. | .len _ | .qp _ | .arith .. | .sh .. | .yc .. | .ja .. | .not _ | .nil .. | .build .. | .Aw .. | .beq .. | .mm .. | .conv .. | .Es _ | .gH _=>0
 | .load .. | .box _ | .alloc _ | .bV .. | .make .. | .pD=>1
 | .store .. | .app ..=>2
 | .old op _=>Ap P op
def jz (P:Program) (quiet:Bool):SB→Nat
 | .op s=>ux P s
 | .call ..=>if quiet then 1 else 2
 | .wW ..=>1
structure Fz where
 l:List Nat
 fr:Bool
def zw (P:Program) (fr:Bool):SI→SI
 | .load k a=>if fr then .Aw k a else .load k a
 | .old (.convert s d x) ty=>if fr && toStr P s d then .Es (SX.of x) else .old (.convert s d x) ty
 | s=>s
def nf (P:Program) (fz:Fz) (o:Oper):SB:=match o.op with
 | .call { callee:=.value f,args,.. }=>if (match o.dst with | some d=>fz.l.contains (200000+d) | none=>false) then .wW (SX.of f) (args.toList.map SX.of) else .call (SX.of f) (args.toList.map SX.of)
 | .box _ x=>if (match o.dst with | some d=>fz.l.contains d | none=>false) then .op (.jQ (SX.of x)) else .op (.box (SX.of x))
 | .convert s d x=>if (match o.dst with | some t=>fz.l.contains t | none=>false) && vY P s d then .op (.gH (SX.of x)) else .op (zw P fz.fr (comp P o))
 | _=>.op (zw P fz.fr (comp P o))
def wC (n:Nat) (all:List Oper) (o:Oper):Option (Option (Nat × Bool)):=match o.guard with
 | none=>some none
 | some (j,want)=>match (all[j]?).bind (·.dst) with
  | some d=>if d < n then some (some (d,want)) else none
  | none=>none
def GQ (P:Program) (n:Nat) (all:List Oper) (fz:Fz) (o:Oper):Option SO :=
 if sD n o then (wC n all o).map fun g=>⟨o.dst,g,nf P fz o⟩ else none
def dN (P:Program) (n:Nat) (all:List Oper) (fz:Fz):List Oper→Option (List SO)
 | []=>some []
 | o :: r=>match GQ P n all fz o,dN P n all fz r with
  | some s,some l=>some (s :: l)
  | _,_=>none
def SG.flat (g:SG):List SO:=g.ops.map fun (d,b)=>⟨d,g.guard,b⟩
def kW (gs:List SG):List SO:=(gs.map SG.flat).flatten
def L5 (g:Option (Nat × Bool)) (s:SO):Bool:=match g,s.guard with
 | none,none=>true
 | some (d,w),some (d',w')=>d == d' && w == w' && s.dst != some d
 | _,_=>false
def group:List SO→List SG
 | []=>[]
 | s :: r=>match group r with
  | g :: gs=>if L5 g.guard s then ⟨g.guard,(s.dst,s.b) :: g.ops⟩ :: gs else ⟨s.guard,[(s.dst,s.b)]⟩ :: g :: gs
  | []=>[⟨s.guard,[(s.dst,s.b)]⟩]
theorem SJ {g:Option (Nat × Bool)} {s:SO} (h:L5 g s=true):s.guard=g:=by
 unfold L5 at h
 split at h
 ·rename_i h1; exact h1
 ·rename_i d w a w' h1
  simp at h; rw[h1,h.1.1,h.1.2]
 ·simp at h
theorem gU:∀ l:List SO,kW (group l)=l
 | []=>rfl
 | s :: r=>by
  have a:=gU r
  simp only[group]
  split
  ·rename_i g gs c
   rw[c] at a
   split
   ·rename_i e
    have:=SJ e
    rw[← a]
    cases s with
    | mk d f b=>simp only at this; subst this; simp[kW,SG.flat]
   ·rw[← a]; simp[kW,SG.flat]
  ·rename_i c
   rw[c] at a
   rw[← a]; simp[kW,SG.flat]
def D3 (o:Oper):Bool:=match o.op with
 | .load ..=>true
 | _=>false
def BZ (o:Oper):Bool:=match o.op with
 | .alloc _=>true
 | _=>false
def lP (o:Oper):Option Nat:=match o.op,o.guard with
 | .store _ (.tmp t) _,none=>some t
 | _,_=>none
def U8 (all:List Oper) (j k t:Nat):Bool:=match all[j]? with
 | some o=>o.dst == some t && o.guard.isNone && BZ o && ((all.drop (j+1)).take (k - (j+1))).all fun o'=>o'.dst != some t
 | none=>false
def AP (all:List Oper) (i k:Nat):Bool:=match all[i]?,all[k]? with
 | some a,some b=>D3 a && (match lP b with
  | some t=>(List.range k).any fun j=>decide (i < j) && U8 all j k t
  | none=>false)
 | _,_=>false
def GZ (all:List Oper) (ls:List Nat):Bool :=
 let b:=fW all []
 ls.zipIdx.all fun (x,i)=>ls.zipIdx.all fun (y,k)=>!decide (i < k) || ordered b i k || x == 0 || y == 0 || (decide (x≤1) && decide (y≤1)) || AP all i k
def sP (o:Oper):Option Nat:=match o.op with
 | .load _ (.tmp t)=>some t
 | _=>none
def stays (all:List Oper) (i t:Nat):Bool:=(all.drop i).all fun o=>o.dst != some t
def Du (all:List Oper) (i k:Nat):Option (Nat × Nat):=match all[i]?,all[k]? with
 | some a,some b=>match sP a,lP b with
  | some s,some t=>if stays all i s && stays all k t then some (s,t) else none
  | _,_=>match lP a,sP b with
   | some t,some s=>if stays all i t && stays all k s then some (s,t) else none
   | _,_=>none
 | _,_=>none
def zY (all:List Oper) (x i y k:Nat):Bool:=!decide (i < k) || ordered (fW all []) i k || x == 0 || y == 0 || (decide (x≤1) && decide (y≤1)) || AP all i k
def lg (all:List Oper) (ls:List Nat):List (Nat × Nat):=ls.zipIdx.flatMap fun (x,i)=>ls.zipIdx.filterMap fun (y,k)=>if zY all x i y k then none else some (i,k)
def Cl (all:List Oper):List (Nat × Nat)→Option (List (Nat × Nat))
 | []=>some []
 | (i,k) :: r=>match Du all i k,Cl all r with
  | some p,some l=>some (p :: l)
  | _,_=>none
def Ob (o:Oper):Option Nat:=match o.op,o.guard with
 | .call { callee:=.builtin .append,args,.. },none=>match args.toList with
  | [.tmp t,_]=>some t
  | _=>none
 | _,_=>none
def qx (o:Oper):Option Nat:=match lP o with
 | some t=>some t
 | none=>Ob o
def IY (o:Oper):Bool:=match o.op with
 | .buildSlice ..=>true
 | .alloc _=>true
 | _=>false
def newAt (all:List Oper) (k:Nat):Bool:=match all[k]? with
 | some b=>IY b
 | none=>false
def EN (all:List Oper) (i k:Nat):Option (Nat × Nat):=match all[i]?,all[k]? with
 | some a,some b=>match sP a,qx b with
  | some s,some t=>if stays all i s && stays all k t then some (s,t) else none
  | _,_=>match qx a,sP b with
   | some t,some s=>if stays all i t && stays all k s then some (s,t) else none
   | _,_=>none
 | _,_=>none
def GR (all:List Oper) (ls:List Nat) (i k:Nat):Option (Nat × Nat × Nat):=match all[i]?,all[k]? with
 | some a,some b=>match a.op,b.op,a.guard,b.guard with
  | .lookup t (.tmp m) (.tmp q) false,.mapEntry t' (.tmp m') (.tmp q'),none,none =>
   if t == t' && m == m' && q == q' && stays all i m && stays all i q && stays all k m && stays all k q && decide (i < k) && (List.range k).all fun j=>decide (ls.getD j 2≤1) then some (t,m,q) else none
  | _,_,_,_=>none
 | _,_=>none
def GX (all:List Oper) (ls:List Nat) (tp:Option (Nat × Nat)):List (Nat × Nat):=(lg all ls).filter fun p=>!newAt all p.2 && tp != some p
def Ax (o:Oper):Option (Nat × Nat × Nat):=match o.op,o.guard,o.dst with
 | .call { callee:=.builtin .append,args,.. },none,some d=>match args.toList with
  | [.tmp t,.tmp y]=>some (t,y,d)
  | _=>none
 | _,_,_=>none
def EF (all:List Oper) (i k:Nat):Option (List (Nat × Nat)):=match all[i]?,all[k]? with
 | some a,some b=>match Ax a,Ax b with
  | some (t,y,d),some (t',y',_)=>if stays all i t && stays all i y && stays all (i+1) d && stays all k t' && stays all k y' then some [(t,t'),(t,y'),(t',y),(d,t')] else none
  | _,_=>none
 | _,_=>none
def AI (all:List Oper) (i k:Nat):Option (List (Nat × Nat)):=match EN all i k with
 | some p=>some [p]
 | none=>EF all i k
def vL (all:List Oper):List (Nat × Nat)→Option (List (Nat × Nat))
 | []=>some []
 | (i,k) :: r=>match AI all i k,vL all r with
  | some p,some l=>some (p ++ l)
  | _,_=>none
def uH (g:SG):Bool:=match g.guard with
 | none=>true
 | some (d,_)=>g.ops.all fun x=>x.1 != some d
def sH (P:Program) (n:Nat) (fz:Fz) (ops:List Oper) (draw quiet:Bool):Option SC:=match dN P n ops fz ops with
 | none=>none
 | some l=>if !(group l).all uH then none else
  if draw then (if mQ ops && GZ ops (l.map fun s=>jz P quiet s.b) then some (.region quiet (group l)) else none)
  else some (.region quiet (group l))
def DW (P:Program) (n:Nat) (fz:Fz) (ops:List Oper):Option SC:=match dN P n ops fz ops with
 | none=>none
 | some l=>if !(group l).all uH then none else
  if mQ ops then (Cl ops (lg ops (l.map fun s=>jz P false s.b))).map fun aps=>.nT aps (group l) else none
def TL (all:List Oper) (ls:List Nat):Option (Nat × Nat):=(lg all ls).find? fun p=>(GR all ls p.1 p.2).isSome
def DN (P:Program) (n:Nat) (fz:Fz) (ops:List Oper):Option SC:=match dN P n ops fz ops with
 | none=>none
 | some l=>if !(group l).all uH then none else
  if mQ ops then
   (match TL ops (l.map fun s=>jz P false s.b) with
   | none=>(vL ops (GX ops (l.map fun s=>jz P false s.b) none)).map fun aps=>.nT aps (group l)
   | some p=>match GR ops (l.map fun s=>jz P false s.b) p.1 p.2 with
    | some tol=>(vL ops (GX ops (l.map fun s=>jz P false s.b) (some p))).map fun aps=>.D7 tol aps (group l)
    | none=>none)
  else none
def VL:Nat:=100000
def VC:Nat:=100001
def orElse':Option SC→Option SC→Option SC
 | some x,_=>some x
 | none,y=>y
def De (P:Program) (n:Nat) (fz:List Nat) (ops:List Oper) (draw:Bool):Option SC :=
 orElse' (sH P n ⟨fz,false⟩ ops draw false) (if draw then orElse' (if fz.contains VL then DN P n ⟨fz,false⟩ ops else none) <| orElse' (if fz.contains VC then sH P n ⟨fz,true⟩ ops true false else none) <| orElse' (DW P n ⟨fz,false⟩ ops) (orElse' (sH P n ⟨fz,false⟩ ops true true) (orElse' (sH P n ⟨fz,true⟩ ops true false) (sH P n ⟨fz,true⟩ ops true true))) else none)
def dp (P:Program) (n:Nat) (fz:List Nat):Code→Option SC
 | .skip=>some .skip
 | .region _ ops draw=>De P n fz ops.toList draw
 | .seq x y=>match dp P n fz x,dp P n fz y with
  | some a,some b=>some (.seq a b)
  | _,_=>none
 | .cond c x y=>match dp P n fz x,dp P n fz y with
  | some a,some b=>some (.cond (SX.of c) a b)
  | _,_=>none
 | .block id c=>(dp P n fz c).map (.block id)
 | .loop c=>(dp P n fz c).map .loop
 | .exit id=>some (.exit id)
 | .ret=>some .ret
 | .scope c=>match dp P n fz c with
  | some sc=>match Hp sc with
   | some l=>(pG sc l).map fun r=>.scope l sc r
   | none=>none
  | none=>none
 | .label l=>some (.label l)
 | .goto l=>some (.goto l)
 | _=>none
def jE (h h':aC):Prop:=∀ id,id < h.length→h.view id=.dead→h'.view id=.dead
theorem jE.refl (h:aC):jE h h:=fun _ _ e=>e
theorem jE.trans {a b c:aC} (h:jE a b) (k:jE b c) (hl:a.length≤b.length):jE a c:=fun id d e=>k id (XM d hl) (h id d e)
def aw (P:Program) (f:FuncId) (vs:List V) (H:View) (K:V→View→Prop):Prop :=
 dJ P f=true∧∀ h:aC,h.view=H→∃ r h',bS P f vs h r h'∧jE h h'∧K r h'.view
def DR (P:Program) (f:FuncId) (vs:List V) (H:View) (K:V→View→Prop):Prop :=
 dJ P f=true∧∀ h:aC,h.view=H→∃ r h',bS P f vs h r h'∧(∀ id,id < h.length→h'.view id=h.view id)∧K r h'.view
def kj (sz:Option Nat) (e:List V) (j:Nat) (K:V→Prop):Prop:=match sz with
 | some n=>j+n≤e.length∧K (.agg ((e.drop j).take n))
 | none=>j < e.length∧K (e.getD j .any)
def wI (P:Program) (s:SI) (T:Env) (H:View) (K:V→View→Prop):Prop:=match s with
 | .fa x=>K (x.at T) H
 | .pick c a b=>match c.at T with
  | .val (.bool t)=>K (if t then a.at T else b.at T) H
  | _=>False
 | .box x=>(x.at T).cells.all aO=true∧∀ n,H n=.dead→K (.ptr n 0 0) (H.set n (.arr (x.at T).cells.length [(x.at T).cells]))
 | .jQ x=>(x.at T).cells.all aO=true∧K (.aJ (x.at T).cells 0) H
 | .alloc z=>z.all aO=true∧∀ n,H n=.dead→K (.ptr n 0 0) (H.set n (.arr z.length [z]))
 | .load sz a=>match a.at T with
  | .ptr id i j=>match H id with
   | .arr _ es=>i < es.length∧kj sz (es.getD i []) j fun v=>K v H
   | _=>False
  | .aJ e j=>kj sz e j fun v=>K v H
  | _=>False
 | .Aw sz a=>match a.at T with
  | .aJ e j=>kj sz e j fun v=>K v H
  | _=>False
 | .store sz a x=>match a.at T with
  | .ptr id i j=>match H id with
   | .arr esz es=>(i < es.length∧(x.at T).cells.length=sz∧j+(x.at T).cells.length≤esz∧(x.at T).cells.all aO=true) ∧
     K .any (H.set id (.arr esz (es.set i (fJ (es.getD i []) j (x.at T).cells))))
   | _=>False
  | _=>False
 | .B5 x=>match x.at T with
  | .ptr id i j=>K (.ptr id i j) H
  | .aJ e j=>K (.aJ e j) H
  | .fn f a b=>K (.fn f a b) H
  | _=>False
 | .addr off x=>match x.at T with
  | .ptr id i j=>K (.ptr id i (j+off)) H
  | .aJ e j=>K (.aJ e (j+off)) H
  | _=>False
 | .field off sz x=>match x.at T with
  | .agg cs=>kj sz cs off fun v=>K v H
  | _=>False
 | .idx sz x i=>match asNat (i.at T) with
  | none=>False
  | some q=>match x.at T with
   | .sl id off len esz=>(q < len∧esz=sz)∧K (.ptr id (off+q) 0) H
   | .aE es=>∃ e,es[q]?=some e∧e.length=sz∧K (.aJ e 0) H
   | _=>False
 | .s9 f first cap=>K (.fn f (first.map (SX.at T)) (cap.map (SX.at T))) H
 | .pD=>∀ n,H n=.dead→K (.mp n) (H.set n (.map [] 0))
 | .ext i x=>match x.at T with
  | .bp vs=>i < vs.length∧K (vs.getD i .any) H
  | _=>False
 | .len x=>match cH (x.at T) with
  | some n=>K (iL n) H
  | none=>False
 | .qp x=>match x.at T with
  | .val (.string s)=>K (iL s.size) H
  | _=>False
 | .arith op x y=>match x.at T,y.at T with
  | .val (.int k a),.val (.int k' b)=>k=k'∧(match iD op k a b with | some v=>K (.val v) H | none=>False)
  | _,_=>False
 | .yc op x y=>match x.at T,y.at T with
  | .val (.string a),.val (.string b)=>(match op with
   | .eql=>K (.val (.bool (jo a b))) H
   | .neq=>K (.val (.bool (!jo a b))) H
   | _=>False)
  | _,_=>False
 | .ja x i=>match x.at T,asNat (i.at T) with
  | .val (.string s),some q=>∃ b,s.data.toList[q]?=some b∧K (.val (.int .u8 b.toNat)) H
  | _,_=>False
 | .not x=>match x.at T with
  | .val (.bool t)=>K (.val (.bool (!t))) H
  | _=>False
 | .nil eq k x y=>match Bu (fh k (x.at T)) (fh k (y.at T)) with
  | some b=>K (.val (.bool (if eq then b else !b))) H
  | none=>False
 | .beq eq x y=>match x.at T,y.at T with
  | .val (.bool a),.val (.bool b)=>K (.val (.bool (if eq then a == b else a != b))) H
  | _,_=>False
 | .mm mx x y=>match x.at T,y.at T with
  | .val (.int k a),.val (.int _ b)=>K (.val (.int k (if mx then (if b > a then b else a) else (if b < a then b else a)))) H
  | _,_=>False
 | .conv k x=>match x.at T with
  | .val (.int _ a)=>K (.val (.int k (k.wrap a))) H
  | _=>False
 | .sh l x y=>match x.at T,y.at T with
  | .val (.int k a),.val (.int _ b)=>0≤b∧K (.val (.int k (El l k a b))) H
  | _,_=>False
 | .build z parts=>match mT z (parts.map fun (a,b,x)=>(a,b,x.at T)) with
  | some cs=>K (.agg cs) H
  | none=>False
 | .bV len sz z parts=>match mb sz (List.replicate len z) (parts.map fun (i,x)=>(i,x.at T)) with
  | some es=>∀ n,H n=.dead→K (.sl n 0 len sz) (H.set n (.arr sz es))
  | none=>False
 | .slice sz x lo hi=>match dx sz (x.at T) (lo.map (SX.at T)) (hi.map (SX.at T)) with
  | some (v,.none,_)=>K v H
  | _=>False
 | .make sz bytes z l c=>match asNat (l.at T),asNat (c.at T) with
  | some l,some c=>(l≤c∧c < aB∧bytes * c < aB)∧(c=0→K (.emp 2) H)∧(c≠0→∀ n,H n=.dead→K (.sl n 0 l sz) (H.set n (.arr sz (List.replicate l z))))
  | _,_=>False
 | .app sz bytes x y=>match bI H (y.at T) with
  | some (xs,_)=>if xs.isEmpty=true then (match x.at T with
    | .emp k=>K (.emp k) H
    | .dS=>K .dS H
    | .aE es=>K (.aE es) H
    | .sl a b c d=>K (.sl a b c d) H
    | _=>False)
   else (xs.all fun e=>e.length == sz && e.all aO)=true∧(match x.at T with
    | .emp _=>(xs.length * bytes < aB∧xs.length < aB)∧∀ n,H n=.dead→K (.sl n 0 xs.length sz) (H.set n (.arr sz xs))
    | .sl id off len esz=>match H id with
     | .arr _ es=>(off+len≤es.length∧esz=sz∧(len+xs.length) * bytes < aB∧len+xs.length < aB) ∧
      ∀ n,H n=.dead→K (.sl n 0 (len+xs.length) esz) ((H.set id .dead).set n (.arr esz ((es.drop off).take len ++ xs)))
     | _=>False
    | _=>False)
  | none=>False
 | .Es x=>match x.at T with
  | .aE es=>(match lI es with
   | some l=>K (.val (.string ⟨l.toArray⟩)) H
   | none=>False)
  | _=>False
 | .gH x=>match x.at T with
  | .val (.string s)=>K (.aE (gX s)) H
  | _=>False
 | s=>∀ n,H n=.dead→∃ v eff rd,sI P s T H n=some (v,eff,rd)∧K v (eff.view H n)
def wB (P:Program) (quiet:Bool) (b:SB) (T:Env) (H:View) (K:V→View→Prop):Prop:=match b with
 | .op s=>wI P s T H K
 | .call f args=>match f.at T with
  | .fn g first cap=>if quiet then DR P g (first ++ args.map (SX.at T) ++ cap) H K else aw P g (first ++ args.map (SX.at T) ++ cap) H K
  | _=>False
 | .wW f args=>match f.at T with
  | .fn g first cap=>DR P g (first ++ args.map (SX.at T) ++ cap) H K
  | _=>False
def yT (P:Program) (quiet:Bool):List (Option Nat × SB)→Env→View→(Env→View→Prop)→Prop
 | [],T,H,K=>K T H
 | (d,b) :: r,T,H,K=>wB P quiet b T H fun v H'=>yT P quiet r (T.put d v) H' K
def jh:List (Option Nat × SB)→Env→Env
 | [],T=>T
 | (d,_) :: r,T=>jh r (T.put d (.bp []))
def wG (P:Program) (quiet:Bool) (g:SG) (T:Env) (H:View) (K:Env→View→Prop):Prop:=match g.guard with
 | none=>yT P quiet g.ops T H K
 | some (d,want)=>match T d with
  | .val (.bool b)=>(b=want→yT P quiet g.ops (T.put (some d) (.val (.bool want))) H K)∧(b = !want→K (jh g.ops (T.put (some d) (.val (.bool (!want))))) H)
  | .bp []=>K (jh g.ops T) H
  | _=>False
def yf (P:Program) (quiet:Bool):List SG→Env→View→(Env→View→Prop)→Prop
 | [],T,H,K=>K T H
 | g :: r,T,H,K=>wG P quiet g T H fun T' H'=>yf P quiet r T' H' K
def qL (c:SX) (b:Bool) (T:Env):Env:=match c with
 | .tmp t=>T.put (some t) (.val (.bool b))
 | _=>T
def Bl:Exit→Prop→Prop→Prop
 | .normal,a,_=>a
 | _,_,b=>b
def iN (a b:V):Prop:=match a,b with
 | .ptr i _ _,.ptr j _ _=>i≠j
 | .ptr i _ _,.sl j _ _ _=>i≠j
 | .ptr _ _ _,.emp _=>True
 | .ptr _ _ _,.dS=>True
 | .ptr _ _ _,.aE _=>True
 | .aJ _ _,_=>True
 | .sl i _ _ _,.sl j _ _ _=>i≠j
 | .sl _ _ _ _,.emp _=>True
 | .sl _ _ _ _,.dS=>True
 | .sl _ _ _ _,.aE _=>True
 | .emp _,_=>True
 | .dS,_=>True
 | .aE _,_=>True
 | _,_=>False
def M1 (P:Program) (t:TypeId) (m q:V) (H:View):Prop:=match m with
 | .mp id=>(∃ es c,H id=.map es c)∧∀ v obj rd,ey P t (.mp id) q H=some (v,.fk id obj,rd)→gf P t (.mp id) q false (H.set id obj)=gf P t (.mp id) q false H
 | _=>False
def yQ:List (Nat × Nat)→Env→Prop→Prop
 | [],_,K=>K
 | p :: l,T,K=>iN (T p.1) (T p.2)∧yQ l T K
def wS (P:Program):SC→Env→View→(Exit→Env→View→Prop)→Prop
 | .skip,T,H,Q=>Q .normal T H
 | .region quiet gs,T,H,Q=>yf P quiet gs T H (Q .normal)
 | .nT aps gs,T,H,Q=>yf P false gs T H fun T' H'=>yQ aps T' (Q .normal T' H')
 | .D7 tol aps gs,T,H,Q=>yf P false gs T H fun T' H'=>M1 P tol.1 (T' tol.2.1) (T' tol.2.2) H∧yQ aps T' (Q .normal T' H')
 | .seq x y,T,H,Q=>wS P x T H fun e T' H'=>Bl e (wS P y T' H' Q) (Q e T' H')
 | .cond c x y,T,H,Q=>match c.at T with
  | .val (.bool b)=>(b=true→wS P x (qL c true T) H Q)∧(b=false→wS P y (qL c false T) H Q)
  | _=>False
 | .block id c,T,H,Q=>wS P c T H fun e=>Q (qQ id e)
 | .loop c,T,H,Q=>∃ I:Nat→Env→View→Prop,(∃ k,I k T H)∧∀ k T H,I k T H→wS P c T H fun e T' H'=>Bl e (∃ k',k' < k∧I k' T' H') (Q e T' H')
 | .exit id,T,H,Q=>Q (.exit id) T H
 | .ret,T,H,Q=>Q .ret T H
 | .scope l c r,T,H,Q=>∃ (I:Nat→Env→View→Prop) (K:Nat),wS P c T H (fun e T' H'=>Az l e (∃ k,k < K∧I k T' H') (Q e T' H'))∧∀ k T H,I k T H→wS P r T H fun e T' H'=>Az l e (∃ k',k' < k∧I k' T' H') (Q e T' H')
 | .label _,T,H,Q=>Q .normal T H
 | .goto l,T,H,Q=>Q (.goto l) T H
def wR (T:Env) (H:View) (r:SR) (K:V→Prop):Prop:=match r with
 | .tmp t=>K (T t)
 | .cell t sz=>match T t with
  | .ptr id i j=>match H id with
   | .arr _ es=>i < es.length∧kj sz (es.getD i []) j K
   | _=>False
  | .aJ e j=>kj sz e j K
  | _=>False
def C6 (T:Env) (H:View):List SR→List V→(List V→Prop)→Prop
 | [],acc,K=>K acc
 | r :: l,acc,K=>wR T H r fun v=>C6 T H l (acc ++ [v]) K
def xZ:List V→V
 | [v]=>v
 | vs=>.bp vs
def ga (P:Program):List ResultVar→Option (List SR)
 | []=>some []
 | .tmp t :: r=>(ga P r).map (.tmp t :: ·)
 | .cell a t :: r=>match DX P t,ga P r with
  | some k,some l=>some (.cell a k :: l)
  | _,_=>none
structure SF where
 code:SC
 res:List SR
 n:Nat
def ae:List SC→SC
 | []=>.skip
 | [a]=>a
 | a :: b :: l=>.seq a (ae (b :: l))
abbrev bU (k a b:Nat):Option Nat × SB:=(none,.op (.store k (.tmp a) (.tmp b)))
abbrev df (a k:Nat):Option Nat × SB:=(some a,.op (.fa (.val (.emp k))))
abbrev gY (d s b x y:Nat):Option Nat × SB:=(some d,.op (.app s b (.tmp x) (.tmp y)))
abbrev bf (a:Nat) (x:SC):SC:=.cond (.tmp a) x .skip
abbrev bY (a:Nat) (x:SC):SC:=.cond (.tmp a) .skip x
abbrev b6 (a:Nat) (x:SC):SC:=.block a (.loop x)
abbrev aa (a b:Nat):Option Nat × SB:=(some a,.op (.fa (.tmp b)))
abbrev aS (a:Nat) (n:Int):Option Nat × SB:=(some a,.op (.fa (.val (.val (.int .i64 n)))))
abbrev bu (a:Nat) (n:Bool):Option Nat × SB:=(some a,.op (.fa (.val (.val (.bool n)))))
abbrev aj (a b:Nat):Option Nat × SB:=(some a,.op (.load none (.tmp b)))
abbrev bg (a k b:Nat):Option Nat × SB:=(some a,.op (.load (some k) (.tmp b)))
abbrev ao (a k b:Nat):Option Nat × SB:=(some a,.op (.addr k (.tmp b)))
abbrev aQ (a k b c:Nat):Option Nat × SB:=(some a,.op (.idx k (.tmp b) (.tmp c)))
abbrev cz (a b c:Nat):Option Nat × SB:=(some a,.op (.pick (.tmp b) (.val (.val (.bool true))) (.tmp c)))
abbrev eJ (a b c:Nat):Option Nat × SB:=(some a,.op (.pick (.tmp b) (.tmp c) (.val (.val (.bool false)))))
abbrev aV (a:Nat) (o:BinOp) (b c:Nat):Option Nat × SB:=(some a,.op (.arith o (.tmp b) (.tmp c)))
abbrev aH (a:Nat) (o:BinOp) (b:Nat) (n:Int):Option Nat × SB:=(some a,.op (.arith o (.tmp b) (.val (.val (.int .i64 n)))))
abbrev aN (a b:Nat):Option Nat × SB:=(some a,.op (.len (.tmp b)))
abbrev fI (a k b:Nat):Option Nat × SB:=(some a,.op (.ext k (.tmp b)))
abbrev de (a b:Nat):Option Nat × SB:=(some a,.op (.not (.tmp b)))
abbrev cI (a b:Nat):Option Nat × SB:=(some a,.op (.jQ (.tmp b)))
abbrev ep (a b:Nat):Option Nat × SB:=(some a,.op (.B5 (.tmp b)))
abbrev r7 (a f:Nat) (l:List SX):Option Nat × SB:=(some a,.call (.val (.fn f [] [])) l)
abbrev bz (a f:Nat) (l:List Nat):Option Nat × SB:=(some a,.call (.val (.fn f [] [])) (l.map .tmp))
abbrev ab (l:List (Option Nat × SB)):SC:=.region false [⟨none,l⟩]
def aR (P:Program) (f:FuncId) (fz:List Nat):Option SF:=match P.funcs[f]? with
 | some fn=>match fn.body with
  | some c=>match dp P fn.ntmps fz c,ga P fn.results.toList,dJ P f with
   | some sc,some rs,true=>some ⟨sc,rs,fn.ntmps⟩
   | _,_,_=>none
  | none=>none
 | none=>none
theorem qj {sz:Option Nat} {e:List V} {j:Nat} {K:V→Prop} (h:kj sz e j K):∃ v,nb sz e j=some v∧K v:=by
 cases sz with
 | none=>exact ⟨_,by simp only[nb]; rw[Xg h.1],h.2⟩
 | some n=>exact ⟨_,by simp only[nb]; rw[Xg h.1],h.2⟩
theorem VU {P:Program} {s:SI} {T:Env} {H:View} {K:V→View→Prop} (h:wI P s T H K) {n:Nat} (r:H n=.dead) :
  ∃ v eff rd,sI P s T H n=some (v,eff,rd)∧K v (eff.view H n):=by
 unfold wI at h
 split at h
 ·exact ⟨_,_,_,rfl,h⟩
 ·split at h
  ·rename_i t B; exact ⟨_,_,_,by simp only[sI,B]; rfl,h⟩
  ·exact h.elim
 ·exact ⟨_,_,_,by simp only[sI,mG]; rw[Xg h.1],h.2 n r⟩
 ·exact ⟨_,_,_,by simp only[sI]; rw[Xg h.1],h.2⟩
 ·exact ⟨_,_,_,by simp only[sI,mG]; rw[Xg h.1],h.2 n r⟩
 ·split at h
  ·rename_i id i j u
   split at h
   ·rename_i es hH
    obtain ⟨h1,f⟩:=h
    obtain ⟨v,o,hk⟩:=qj f
    exact ⟨_,_,_,by simp only[sI,wY,u,hH]; rw[Xg h1,o]; rfl,hk⟩
   ·exact h.elim
  ·rename_i e j u
   obtain ⟨v,o,hk⟩:=qj h
   exact ⟨_,_,_,by simp only[sI,wY,u]; rw[o]; rfl,hk⟩
  ·exact h.elim
 ·split at h
  ·rename_i e j u
   obtain ⟨v,o,hk⟩:=qj h
   exact ⟨_,_,_,by simp only[sI,u]; rw[o]; rfl,hk⟩
  ·exact h.elim
 ·split at h
  ·rename_i id i j u
   split at h
   ·rename_i esz es hH
    exact ⟨_,_,_,by simp only[sI,Ct,u,hH]; rw[Xg h.1],h.2⟩
   ·exact h.elim
  ·exact h.elim
 ·split at h
  ·rename_i d; exact ⟨_,_,_,by simp only[sI,d]; rfl,h⟩
  ·rename_i d; exact ⟨_,_,_,by simp only[sI,d]; rfl,h⟩
  ·rename_i d; exact ⟨_,_,_,by simp only[sI,d]; rfl,h⟩
  ·exact h.elim
 ·split at h
  ·rename_i d; exact ⟨_,_,_,by simp only[sI,As,d]; rfl,h⟩
  ·rename_i d; exact ⟨_,_,_,by simp only[sI,As,d]; rfl,h⟩
  ·exact h.elim
 ·split at h
  ·rename_i cs d
   obtain ⟨v,o,hk⟩:=qj h
   exact ⟨_,_,_,by simp only[sI,d,o]; rfl,hk⟩
  ·exact h.elim
 ·split at h
  ·exact h.elim
  ·rename_i q hq
   split at h
   ·rename_i d; exact ⟨_,_,_,by simp only[sI,EL,hq,d]; rw[Xg h.1],h.2⟩
   ·rename_i es d
    obtain ⟨e,he,hl,hk⟩:=h
    have x:q < es.length:=(Xq.1 he).1
    have y:es.getD q []=e:=by simp[Xb,he]
    exact ⟨_,_,_,by simp only[sI,EL,hq,d]; rw[y,Xg ⟨x,hl⟩],hk⟩
   ·exact h.elim
 ·exact ⟨_,_,_,rfl,h⟩
 ·exact ⟨_,_,_,rfl,h n r⟩
 ·split at h
  ·rename_i vs d; exact ⟨_,_,_,by simp only[sI,d]; rw[Xg h.1],h.2⟩
  ·exact h.elim
 ·split at h
  ·rename_i m d; exact ⟨_,_,_,by simp only[sI,d]; rfl,h⟩
  ·exact h.elim
 ·split at h
  ·rename_i s d; exact ⟨_,_,_,by simp only[sI,d]; rfl,h⟩
  ·exact h.elim
 ·split at h
  ·rename_i k a D b d g
   obtain ⟨rfl,h⟩:=h
   split at h
   ·rename_i v o; exact ⟨_,_,_,by simp only[sI,yR,d,g,if_true,o]; rfl,h⟩
   ·exact h.elim
  ·exact h.elim
 ·split at h
  ·rename_i a b d g
   split at h
   ·exact ⟨_,_,_,by simp only[sI,BM,d,g]; rfl,h⟩
   ·exact ⟨_,_,_,by simp only[sI,BM,d,g]; rfl,h⟩
   ·exact h.elim
  ·exact h.elim
 ·split at h
  ·rename_i s q d hq
   obtain ⟨b,p,hk⟩:=h
   exact ⟨_,_,_,by simp only[sI,DZ,d,hq,p]; rfl,hk⟩
  ·exact h.elim
 ·split at h
  ·rename_i t d; exact ⟨_,_,_,by simp only[sI,d]; rfl,h⟩
  ·exact h.elim
 ·split at h
  ·rename_i b p; exact ⟨_,_,_,by simp only[sI,p]; rfl,h⟩
  ·exact h.elim
 ·split at h
  ·rename_i d g; exact ⟨_,_,_,by simp only[sI,d,g]; rfl,h⟩
  ·exact h.elim
 ·split at h
  ·rename_i d g; exact ⟨_,_,_,by simp only[sI,d,g]; rfl,h⟩
  ·exact h.elim
 ·split at h
  ·rename_i d; exact ⟨_,_,_,by simp only[sI,d]; rfl,h⟩
  ·exact h.elim
 ·split at h
  ·rename_i d g; exact ⟨_,_,_,by simp only[sI,Pd,d,g]; rw[Xd (by omega)],h.2⟩
  ·exact h.elim
 ·split at h
  ·rename_i cs p; exact ⟨_,_,_,by simp only[sI,p]; rfl,h⟩
  ·exact h.elim
 ·split at h
  ·rename_i es p; exact ⟨_,_,_,by simp only[sI,AG,p]; rfl,h n r⟩
  ·exact h.elim
 ·split at h
  ·rename_i v rd p; exact ⟨_,_,_,by simp only[sI,p]; rfl,h⟩
  ·exact h.elim
 ·split at h
  ·rename_i l c hl A
   obtain ⟨h1,f,C⟩:=h
   by_cases e:c=0
   ·exact ⟨.emp 2,.none,[],by simp only[sI,Dn,hl,A]; rw[Xg h1,Xg e],f e⟩
   ·exact ⟨_,_,_,by simp only[sI,Dn,hl,A]; rw[Xg h1,Xd e],C e n r⟩
  ·exact h.elim
 ·split at h
  ·rename_i xs rd w
   split at h
   ·rename_i he
    split at h
    all_goals first
     | (rename_i d; exact ⟨_,_,_,by simp only[sI,IZ,w]; rw[Xg he,d],h⟩)
     | exact h.elim
   ·rename_i he
    obtain ⟨h1,f⟩:=h
    split at f
    ·rename_i d
     exact ⟨_,_,_,by simp only[sI,IZ,w]; rw[Xd he,Xd (by rw[h1]; simp),d]; simp only; rw[Xg f.1],f.2 n r⟩
    ·rename_i id off len esz d
     split at f
     ·rename_i z es hH
      exact ⟨_,_,_,by simp only[sI,IZ,w]; rw[Xd he,Xd (by rw[h1]; simp),d]; simp only[hH]; rw[Xg f.1],f.2 n r⟩
     ·exact f.elim
    ·exact f.elim
  ·exact h.elim
 ·split at h
  ·rename_i d
   split at h
   ·rename_i l hl; exact ⟨_,_,_,by simp only[sI,d,hl]; rfl,h⟩
   ·exact h.elim
  ·exact h.elim
 ·split at h
  ·rename_i d; exact ⟨_,_,_,by simp only[sI,d]; rfl,h⟩
  ·exact h.elim
 ·exact h n r
def ln (k:Nat) (rd wr:List Nat) (call:Bool) (n n':Nat):Prop :=
 (k=0→rd=[]∧wr=[]∧call=false∧n'=n)∧(k≤1→wr=[])
theorem Tw {k:Nat} (h:k=2) {rd wr:List Nat} {call:Bool} {n a:Nat} : ln k rd wr call n a:=⟨fun b=>by omega,fun b=>by omega⟩
theorem rj {P:Program} {o:Oper} {T:Env} {v:V} {eff:bA} {rd:List Nat} (h:dQ P o T=some (v,eff,rd)):eff=.none∧rd=[]:=by
 unfold dQ at h
 split at h
 ·split at h
  ·split at h
   ·simp at h; exact ⟨h.2.1.symm,h.2.2⟩
   ·simp at h
  ·simp at h
 ·simp at h
theorem Sp {P:Program} {o:Oper} {T:Env} {H:View} {n:Nat} {v:V} {eff:bA} {rd:List Nat} (h:cp P o T H n=some (v,eff,rd)) :
  (Ap P o.op=0→eff=.none∧rd=[])∧(Ap P o.op=1→eff.wr=[]):=by
 unfold Ap
 split
 ·rename_i s d x a
  simp only[cp,a] at h
  split
  ·exact ⟨fun h=>by simp at h,fun h=>by simp at h⟩
  ·rename_i g
   rw[Xd g] at h
   exact ⟨fun _=>rj h,fun h=>by simp at h⟩
 ·rename_i b args j a
  simp only[cp,a] at h
  split
  any_goals exact ⟨fun _=>rj h,fun h=>by simp at h⟩
  ·refine ⟨fun h=>by simp at h,fun _=>?_⟩
   split at h
   ·rename_i f
    split at h
    ·simp only[uN] at h
     have c:∀ {v':V} {r:List Nat},some (v',bA.none,r)=some (v,eff,rd)→eff.wr=[]:=fun e=>by
      simp only[Xe,Xh] at e; rw[← e.2.1]; rfl
     split at h
     ·simp only[Xn] at h
      obtain ⟨_,_,h⟩:=h
      exact c (YA some h)
     ·split at h
      ·split at h
       ·exact c h
       ·simp at h
      ·exact c h
      ·simp at h
     ·split at h
      ·exact c h
      ·simp at h
     ·exact c h
     ·simp at h
    ·simp at h
   any_goals simp at h
   all_goals contradiction
  ·exact ⟨fun h=>by simp at h,fun h=>by simp at h⟩
 ·rename_i t m k ok a
  refine ⟨fun h=>by simp at h,fun _=>?_⟩
  simp only[cp,a,gf] at h
  have c:∀ {v':V} {r:List Nat},some (v',bA.none,r)=some (v,eff,rd)→eff.wr=[]:=fun e=>by
   simp only[Xe,Xh] at e; rw[← e.2.1]; rfl
  split at h
  ·simp at h
  ·split at h
   ·simp at h
   ·split at h
    ·split at h
     ·split at h
      ·split at h
       ·exact c h
       ·simp at h
      ·exact c h
      ·simp at h
     ·simp at h
    ·simp at h
 ·rename_i op t x y u a
  refine ⟨fun _=>?_,fun h=>by simp at h⟩
  simp only[cp,a] at h
  split at h
  ·split at h
   ·simp at h; exact ⟨h.2.1.symm,h.2.2⟩
   ·simp at h; exact ⟨h.2.1.symm,h.2.2⟩
   ·simp at h
  ·exact rj h
 ·rename_i op t x a
  exact ⟨fun _=>rj (by simpa only [cp,a] using h),fun h=>by simp at h⟩
 ·rename_i t x i a
  exact ⟨fun _=>rj (by simpa only [cp,a] using h),fun h=>by simp at h⟩
 ·exact ⟨fun h=>by simp at h,fun h=>by simp at h⟩
theorem sL {P:Program} {s:SI} {T:Env} {H:View} {n:Nat} {v:V} {eff:bA} {rd:List Nat} (h:sI P s T H n=some (v,eff,rd)) :
  (ux P s=0→eff=.none∧rd=[])∧(ux P s=1→eff.wr=[]):=by
 have nn:∀ {v':V},some (v',bA.none,([]:List Nat))=some (v,eff,rd)→eff=.none∧rd=[]:=fun e=>by
  simp only[Xe,Xh] at e; exact ⟨e.2.1.symm,e.2.2.symm⟩
 have mp:∀ {α:Type} {x:Option α} {f:α→V},(x.map fun a=>(f a,bA.none,([]:List Nat)))=some (v,eff,rd)→eff=.none∧rd=[]:=by
  intro α x f h
  simp only[Xn] at h
  obtain ⟨a,_,h⟩:=h
  simp only[Xh] at h; exact ⟨h.2.1.symm,h.2.2.symm⟩
 have nw:∀ {v':V} {o:c6} {r:List Nat},some (v',bA.new o,r)=some (v,eff,rd)→eff.wr=[]:=fun e=>by
  simp only[Xe,Xh] at e; rw[← e.2.1]; rfl
 have n1:∀ {v':V} {r:List Nat},some (v',bA.none,r)=some (v,eff,rd)→eff.wr=[]:=fun e=>by
  simp only[Xe,Xh] at e; rw[← e.2.1]; rfl
 unfold ux
 cases s <;> simp only[sI] at h
 case old op ty=>exact Sp (o:=oper op ty) h
 all_goals
  constructor <;> intro hk <;> first
   | (exfalso; revert hk; simp; done)
   | skip
 all_goals try simp only[wY,mG,As,EL,dx,Dn,AG,yR,Pd,BM,DZ] at h
 all_goals first
  | exact nn h
  | exact mp h
  | exact nw h
  | exact n1 h
  | skip
 all_goals repeat' (split at h)
 all_goals first
  | exact nn h
  | exact mp h
  | exact nw h
  | exact n1 h
  | (simp at h; done)
  | (simp only[Xn,Xh] at h; obtain ⟨_,_,_,rfl,_⟩:=h; rfl)
end Gv
