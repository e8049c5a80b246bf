/-
  Part 4 of the proof: what the machine does and what the functions answer.
  Conditions: those that each lemma names.
-/
import Derived.Test.YtihmlbdfcmfbdaaGreatSGzB3C
set_option linter.unusedSimpArgs false
set_option linter.unusedVariables false
set_option maxRecDepth 100000
set_option maxHeartbeats 20000000
namespace Gv
open Go
inductive Tree:V->Prop
 | val (v:Value):Tree (.val v)
 | emp (k:Nat):Tree (.emp k)
 | ef:Tree .ef
 | aD (es:List (List V)):(∀ i j,i < es.length->j < (es.getD i []).length->Tree ((es.getD i []).getD j .any))->Tree (.aD es)
 | aI (e:List V) (j:Nat):(∀ k,k < e.length->Tree (e.getD k .any))->Tree (.aI e j)
 | fn (f:FuncId) (xs ys:List V):(∀ i,i < xs.length->Tree (xs.getD i .any))->(∀ i,i < ys.length->Tree (ys.getD i .any))->Tree (.fn f xs ys)
 | agg (cs:List V):(∀ i,i < cs.length->Tree (cs.getD i .any))->Tree (.agg cs)
 | bt (cs:List V):(∀ i,i < cs.length->Tree (cs.getD i .any))->Tree (.bt cs)
theorem zL {Z:Nat->Prop} {μ u:Mu} {hp:Array Obj} {v:V} {x:Value} (h:aC Z μ hp v x):Tree v->aC Z u hp v x:=by
 induction h with
 | any x=>intro t;exact .any x
 | val v w=>intro _;exact .val v w
 | emp k a h1 n=>intro _;exact .emp k a h1 n
 | ef a cap=>intro _;exact .ef a cap
 | js a cap h1=>intro _;exact .js a cap h1
 | aD es b off esz cap c o hle m p _ g =>
  intro t
  cases t with
  | aD _ l=>exact .aD es b off esz cap c o hle m p (λi j hi s=>g i j hi s (l i j hi (by rw[m i hi];exact s)))
 | qX id off esz a=>intro t;cases t
 | sl id off len esz b o0 cap c e f hm hle z hs=>intro t;cases t
 | ptr id i j b o0 esz hm=>intro t;cases t
 | aI e j b off c o p _ g =>
  intro t
  cases t with
  | aI _ _ l=>exact .aI e j b off c o p (λk hk=>g k hk (l k hk))
 | mp id b o0 esz hm=>intro t;cases t
 | fn f xs ys d y h1 n _ _ q r =>
  intro t
  cases t with
  | fn _ _ _ t1 t2=>exact .fn f xs ys d y h1 n (λi hi=>q i hi (t1 i hi)) (λi hi=>r i hi (t2 i hi))
 | agg cs d h1 _ g =>
  intro t
  cases t with
  | agg _ l=>exact .agg cs d h1 (λi hi=>g i hi (l i hi))
 | bt cs d h1 _ g =>
  intro t
  cases t with
  | bt _ l=>exact .bt cs d h1 (λi hi=>g i hi (l i hi))
inductive Fr (h:aF):V->V->Prop
 | tree (v:V):Tree v->Fr h v v
 | emp (k:Nat):Fr h (.emp k) (.aD [])
 | sl (id off len esz z:Nat) (es es':List (List V)):h.view id=.arr z es->off+len<=es.length->es'.length=len ->
  (∀ i,i < len->(es'.getD i []).length=(es.getD (off+i) []).length) ->
  (∀ i j,i < len->j < (es'.getD i []).length->Fr h ((es.getD (off+i) []).getD j .any) ((es'.getD i []).getD j .any))->Fr h (.sl id off len esz) (.aD es')
 | ptr (id i j z:Nat) (es:List (List V)) (e':List V):h.view id=.arr z es->i < es.length->e'.length=(es.getD i []).length ->
  (∀ k,k < e'.length->Fr h ((es.getD i []).getD k .any) (e'.getD k .any))->Fr h (.ptr id i j) (.aI e' j)
 | agg (cs cs':List V):cs'.length=cs.length->(∀ i,i < cs.length->Fr h (cs.getD i .any) (cs'.getD i .any))->Fr h (.agg cs) (.agg cs')
 | bt (cs cs':List V):cs'.length=cs.length->(∀ i,i < cs.length->Fr h (cs.getD i .any) (cs'.getD i .any))->Fr h (.bt cs) (.bt cs')
theorem E2 {h:aF} {Z:Nat->Prop} {μ u:Mu} {F:View} {hp:Array Obj} (hr:iU Z μ hp (cat h F)) {v t:V} (fr:Fr h v t):∀ {x:Value},aC Z μ hp v x->aC (λb=>Z b∨j6 μ b) u hp t x:=by
 have l:∀ id,h.view id≠.dead->cat h F id=h.view id:=λid hd=>by simp only[cat];rw[Zn (jj hd)]
 induction fr with
 | tree v H =>
  intro x d
  have h1:aC Z u hp v x:=zL d H
  exact h1.mono ⟨λ_ h=>.inl h,λ_ _=>rfl,λ_ _ h=>h,gB.refl _⟩
 | emp k=>intro x d;cases d with | emp _ a=>exact .js a 0 (λ_=>rfl)
 | sl id off len esz z es es' hH hle hlen hl _ o =>
  intro x d
  cases d with
  | qX _ _ _ a =>
   have:es'=[]:=aaJ.1 hlen
   subst this
   exact .js a 0 (λ_=>rfl)
  | sl _ _ _ _ b o0 cap c e f hm G M hs =>
   have g:=hr.obj id
   rw[l id (by rw[hH];simp),hH] at g
   obtain⟨rfl,_,I,J⟩:=g b o0 esz hm
   have d:∀ i,∃ ci:Nat->Value,∀ j,j < esz->i < len->cellAt hp b (o0+off * esz+i * esz+j)=some (ci j)/\aC Z μ hp ((es.getD (off+i) []).getD j .any) (ci j):=by
    intro i
    by_cases hi:i < len
    .obtain⟨ci,A⟩:=qu (n:=esz) (p:=λj x=>cellAt hp b (o0+off * esz+i * esz+j)=some x/\aC Z μ hp ((es.getD (off+i) []).getD j .any) x) (λj m=>by
      obtain⟨x,d,B⟩:=J (off+i) j (by omega) m
      rw[aaf,<-abc] at d
      exact⟨x,d,B⟩)
     exact⟨ci,λj m _=>A j m⟩
    .exact⟨λ_=>undef,λj _ h=>absurd h hi⟩
   obtain⟨K,q⟩:=Classical.axiomOfChoice d
   have r:∀ i,i < es'.length->(es'.getD i []).length=esz:=λi hi=>by rw[hl i (by omega)];exact I _ (by omega)
   have:=aC.aD (Z:=λb=>Z b∨j6 μ b) (μ:=u) (hp:=hp) es' b (o0+off * esz) esz cap K (.inr ⟨id,o0,esz,hm⟩) (by omega) r
    (λi j hi m=>(q i j m (by omega)).1) (λi j hi m=>o i j (by omega) (by rw[r i hi];exact m) (q i j m (by omega)).2)
   rw[hlen] at this
   exact this
 | ptr id i j z es e' hH hi hlen _ o =>
  intro x d
  obtain⟨b,o0,sz,hm,rfl⟩:=oW (w:={ (default:World) with heap:=hp }) d
  have g:=hr.obj id
  rw[l id (by rw[hH];simp),hH] at g
  obtain⟨rfl,s⟩:=rowOf (w:={ (default:World) with heap:=hp }) g hm hi
  refine Cq (w:={ (default:World) with heap:=hp }) (.inr ⟨id,o0,sz,hm⟩) (λk hk=>?_)
  obtain⟨y,L,B⟩:=s k (by omega)
  exact⟨y,L,o k hk B⟩
 | agg cs C hlen _ o =>
  intro x d
  cases d with
  | agg _ D h1 E=>exact .agg _ _ (by omega) (λi hi=>o i (by omega) (E i (by omega)))
 | bt cs C hlen _ o =>
  intro x d
  cases d with
  | bt _ D h1 E=>exact .bt _ _ (by omega) (λi hi=>o i (by omega) (E i (by omega)))
def az (P:Program) (f:FuncId) (vs:List V) (t:V):Prop :=
 ∀ Z μ (w:World) (xs:List Value),gS Z μ w.heap vs xs->(∀ b,Z b->b < w.heap.size) ->
  Calls P f xs.toArray w λe w'=>∃ x Z',e=.returned x/\(∀ ν,aC Z' ν w'.heap t x)/\fk w w'/\(∀ b,Z b->Z' b)/\(∀ b,Z' b->Z b∨(w.heap.size<=b/\b < w'.heap.size))/\gX w.heap w'.heap (λ_=>False)
theorem FY (F:View):cat [] F=F:=by funext id;simp[cat]
theorem az.yS {P:Program} {f:FuncId} {vs:List V} {r t:V} {l:aF} (m:∀ v∈vs,Tree v) (n:bZ P f vs [] r l) (p:Fr l r t):az P f vs t:=by
 intro Z μ w xs c q
 have d:gS Z (λ_=>none) w.heap vs xs:=⟨c.1,λi hi=>zL (c.2 i hi) (by
  simp only[Zi,Zj hi,ZC]
  exact m _ (Zs _))⟩
 have g:iU Z (λ_=>none) w.heap (cat [] λ_=>.dead):=by
  rw[FY]
  exact⟨λ_=>trivial,λi j b o s A B _ h=>by simp at h,λid b o s h=>by simp at h,q,λid b o s h=>by simp at h⟩
 refine(n.2 Z _ _ w xs d g (λ_ _ _=>rfl)).mono ?_
 rintro e w' ⟨x,u,μ',rfl,y,k,hex,_⟩
 refine⟨x,λb=>u b∨j6 μ' b,rfl,λC=>E2 k p y,hex.same,λb a=>.inl (hex.mono.z b a),?_,λb a _=>hex.frame b a (by rintro⟨_,_,_,h⟩;simp at h)⟩
 rintro b (a | ⟨id,o,s,a⟩)
 .rcases hex.Ur b a with h1 | h1
  .exact .inl h1
  .exact .inr ⟨h1,k.c4 b a⟩
 .rcases hex.EM _ _ _ _ a with h1 | ⟨_,h1 | ⟨_,_,_,h1⟩⟩
  .simp at h1
  .exact .inr ⟨h1,k.lt _ _ _ _ a⟩
  .simp at h1
theorem bZ.hU {P:Program} {f:FuncId} {vs:List V} {t:V} (m:az P f vs t) (h:aF):bZ P f vs h t h:=by
 refine⟨Zt _,λZ μ F w xs g hr j=>(m Z μ w xs g hr.c4).mono ?_⟩
 rintro e w' ⟨x,l,rfl,n,hs,p,a,i⟩
 have hm:iO Z l μ μ w.heap w'.heap:=⟨p,λb c=>i b (hr.c4 b c) (λx=>x),λ_ _ h=>h,i.sJ⟩
 refine⟨x,l,μ,rfl,n μ,⟨λid=>(hr.obj id).mono hm rfl (λb o s d=>i b (hr.lt _ _ _ _ d) (λx=>x)),hr.inj,λid b o s d=>ZX (hr.lt _ _ _ _ d) hs.size,λb c=>?_,λid b o s d k=>?_⟩,
  ⟨hs,hm,λb c _=>i b c (λx=>x),λb c=>?_,λ_ _ _ _ h=>.inl h⟩,λ_ _=>rfl⟩
 .rcases a b c with h1 | h1
  .exact ZX (hr.c4 b h1) hs.size
  .exact h1.2
 .rcases a b k with h1 | h1
  .exact hr.iJ _ _ _ _ d h1
  .have:=hr.lt _ _ _ _ d;omega
 .rcases a b c with h1 | h1
  .exact .inl h1
  .exact .inr h1.1
structure St where
 L:List V
 h:aF
 wl:List Nat
def Gy (l:List Nat) (x:Nat):Bool:=!l.contains x
def Gh (a b:Rec):Bool :=
 a.wr.all (Gy b.rd) && b.wr.all (Gy a.rd) && (!a.call || b.wr.isEmpty) && (!b.call || a.wr.isEmpty) && b.wr.all λid=>!(decide (a.lo<=id) && decide (id < a.hi))
section
variable {P:Program} {n:Nat}
theorem SY {a b:Rec} (h:Gh a b=true):qh a b:=by
 unfold Gh at h
 simp only[Zw,ZZ,Gy,abv,aam] at h
 obtain⟨⟨⟨⟨h1,g⟩,e⟩,f⟩,i⟩:=h
 refine⟨λid d hm=>?_,λid d hm=>?_,λc=>?_,λc=>?_,λid d hm=>?_⟩
 .have:=h1 id d;simp at this;exact this hm
 .have:=g id d;simp at this;exact this hm
 .rcases e with e | e
  .rw[c] at e;simp at e
  .simpa using e
 .rcases f with f | f
  .rw[c] at f;simp at f
  .simpa using f
 .have:=i id d
  simp at this
  omega
end
inductive SX where
 | tmp (t:Nat)
 | val (v:V)
 deriving Inhabited
def SX.of:Operand->SX
 | .tmp t=>.tmp t
 | .const v=>.val (gq v)
 | .global _=>.val .any
 | .func f=>.val (.fn f [] [])
def SX.at (T:Env):SX->V
 | .tmp t=>T t
 | .val v=>v
theorem SX.cZ (T:Env) (x:Operand):(SX.of x).at T=ev T x:=by cases x <;> rfl
inductive SI where
 | er (x:SX)
 | pick (c a b:SX)
 | box (x:SX)
 | kf (x:SX)
 | alloc (z:List V)
 | build (z:List V) (parts:List (Nat × Nat × SX))
 | bO (len sz:Nat) (z:List V) (parts:List (Nat × SX))
 | load (sz:Option Nat) (a:SX)
 | Ci (sz:Option Nat) (a:SX)
 | store (sz:Nat) (a x:SX)
 | Dn (x:SX)
 | addr (off:Nat) (x:SX)
 | field (off:Nat) (sz:Option Nat) (x:SX)
 | idx (sz:Nat) (x i:SX)
 | slice (sz:Nat) (x:SX) (lo hi:Option SX)
 | make (sz bytes:Nat) (z:List V) (l c:SX)
 | pA
 | uS (f:FuncId) (first cap:List SX)
 | ext (i:Nat) (x:SX)
 | len (x:SX)
 | rD (x:SX)
 | app (sz bytes:Nat) (x y:SX)
 | arith (op:BinOp) (x y:SX)
 | sh (left:Bool) (x y:SX)
 | zX (op:BinOp) (x y:SX)
 | jk (x i:SX)
 | not (x:SX)
 | nil (eq:Bool) (k:Nat) (x y:SX)
 | beq (eq:Bool) (x y:SX)
 | mm (mx:Bool) (x y:SX)
 | conv (k:IntKind) (x:SX)
 | Gc (x:SX)
 | hX (x:SX)
 | old (op:Op) (ty:TypeId)
 deriving Inhabited
def nT:Option Nat->List V->Nat->Option V
 | some n,cs,off=>if off+n<=cs.length then some (.agg ((cs.drop off).take n)) else none
 | none,cs,off=>if off < cs.length then some (cs.getD off .any) else none
def zy (sz:Option Nat) (a:V) (H:View):Out:=match a with
 | .ptr id i j=>match H id with
  | .arr _ es=>if i < es.length then (nT sz (es.getD i []) j).map λv=>(v,.none,[id]) else none
  | _=>none
 | .aI e j=>(nT sz e j).map λv=>(v,.none,[])
 | _=>none
def FA (sz:Nat) (a v:V) (H:View):Out:=match a with
 | .ptr id i j=>match H id with
  | .arr esz es =>
   if i < es.length/\v.cells.length=sz/\j+v.cells.length<=esz/\v.cells.all aL=true
   then some (.any,.fK id (.arr esz (es.set i (gm (es.getD i []) j v.cells))),[id]) else none
  | _=>none
 | _=>none
def nJ (z:List V) (parts:List (Nat × Nat × V)):Option (List V):=match parts with
 | []=>some z
 | (off,size,x) :: r=>if x.cells.length=size/\off+size<=z.length/\x.cells.all aL=true then nJ (gm z off x.cells) r else none
def Cc (len sz:Nat) (z:List V) (parts:List (Nat × V)) (n:Nat):Out :=
 match mT sz (List.replicate len z) parts with
 | some es=>some (.sl n 0 len sz,.new (.arr sz es),[])
 | none=>none
def Ce (off:Nat) (x:V):Out:=match x with
 | .ptr id i j=>some (.ptr id i (j+off),.none,[])
 | .aI e j=>some (.aI e (j+off),.none,[])
 | _=>none
def FW (sz:Nat) (x i:V):Out:=match asNat i with
 | none=>none
 | some q=>match x with
  | .sl id off len esz=>if q < len/\esz=sz then some (.ptr id (off+q) 0,.none,[]) else none
  | .aD es=>if q < es.length/\(es.getD q []).length=sz then some (.aI (es.getD q []) 0,.none,[]) else none
  | _=>none
def dE (sz:Nat) (x:V) (lo hi:Option V):Out:=match x with
 | .sl id off len esz=>match bound 0 lo,bound len hi with
  | some l,some h=>if l<=h/\h<=len/\esz=sz then some (.sl id (off+l) (h - l) esz,.none,[]) else none
  | _,_=>none
 | .aD es=>match bound 0 lo,bound es.length hi with
  | some l,some h=>if l<=h/\h<=es.length/\(es.all λe=>e.length == sz)=true then some (.aD ((es.drop l).take (h - l)),.none,[]) else none
  | _,_=>none
 | .emp k=>match bound 0 lo,bound 0 hi with
  | some 0,some 0=>some (.emp k,.none,[])
  | _,_=>none
 | _=>none
def Ep (sz bytes:Nat) (z:List V) (len cap:V) (n:Nat):Out:=match asNat len,asNat cap with
 | some l,some c =>
  if l<=c/\c < aA/\bytes * c < aA then
   (if c=0 then some (.emp 2,.none,[]) else some (.sl n 0 l sz,.new (.arr sz (List.replicate l z)),[]))
  else none
 | _,_=>none
def KC (sz bytes:Nat) (s x:V) (H:View) (n:Nat):Out:=match bR H x with
 | some (xs,rd) =>
  if xs.isEmpty then (match s with
   | .emp _ | .ef | .aD _ | .sl _ _ _ _=>some (s,.none,[])
   | _=>none)
  else if ¬ ((xs.all λe=>e.length == sz && e.all aL)=true) then none
  else match s with
   | .emp _=>if xs.length * bytes < aA/\xs.length < aA then some (.sl n 0 xs.length sz,.new (.arr sz xs),rd) else none
   | .sl id off len esz=>match H id with
    | .arr _ es =>
     if off+len<=es.length/\esz=sz/\(len+xs.length) * bytes < aA/\len+xs.length < aA
     then some (.sl n 0 (len+xs.length) esz,.er id (.arr esz ((es.drop off).take len ++ xs)),id :: rd) else none
    | _=>none
   | _=>none
 | none=>none
def iW (op:BinOp) (k:IntKind) (a b:Int):Option Value:=match op with
 | .add=>some (.int k (k.wrap (a+b)))
 | .sub=>some (.int k (k.wrap (a - b)))
 | .mul=>some (.int k (k.wrap (a * b)))
 | .quo=>if b=0 then none else some (.int k (k.wrap (a.tdiv b)))
 | .rem=>if b=0 then none else some (.int k (a.tmod b))
 | .eql=>some (.bool (a == b))
 | .neq=>some (.bool (a != b))
 | .lss=>some (.bool (a < b))
 | .leq=>some (.bool (a<=b))
 | .gtr=>some (.bool (a > b))
 | .geq=>some (.bool (a≥b))
 | .or=>some (.int k (k.wrap (BitVec.ofInt k.bits a ||| BitVec.ofInt k.bits b).toNat))
 | .and=>some (.int k (k.wrap (BitVec.ofInt k.bits a &&& BitVec.ofInt k.bits b).toNat))
 | .xor=>some (.int k (k.wrap (BitVec.ofInt k.bits a ^^^ BitVec.ofInt k.bits b).toNat))
 | .andNot=>some (.int k (k.wrap (BitVec.ofInt k.bits a &&& ~~~(BitVec.ofInt k.bits b)).toNat))
 | _=>none
def AF (op:BinOp) (x y:V):Out:=match x,y with
 | .val (.int k a),.val (.int k' b)=>if k=k' then (iW op k a b).map λv=>(.val v,.none,[]) else none
 | _,_=>none
def GH (left:Bool) (k:IntKind) (a b:Int):Int:=if left then k.wrap (a * 2 ^ (min b.toNat k.bits)) else a.fdiv (2 ^ (min b.toNat k.bits))
def Ry (left:Bool) (x y:V):Out:=match x,y with
 | .val (.int k a),.val (.int _ b)=>if b < 0 then none else some (.val (.int k (GH left k a b)),.none,[])
 | _,_=>none
def Uz:BinOp->Option Bool
 | .shl=>some true
 | .shr=>some false
 | _=>none
def jR (a b:ByteArray):Bool:=a.data.toList == b.data.toList
def C8 (op:BinOp) (x y:V):Out:=match x,y with
 | .val (.string a),.val (.string b)=>match op with
  | .eql=>some (.val (.bool (jR a b)),.none,[])
  | .neq=>some (.val (.bool (!jR a b)),.none,[])
  | _=>none
 | _,_=>none
def EP (x i:V):Out:=match x,asNat i with
 | .val (.string s),some q=>match s.data.toList[q]? with
  | some b=>some (.val (.int .u8 b.toNat),.none,[])
  | none=>none
 | _,_=>none
def Da:Option Bool->Option Bool->Option Bool
 | some true,some b=>some b
 | some b,some true=>some b
 | _,_=>none
theorem MF {P:Program} {t:TypeId} {k:Nat} (h:kh P t=some k) (x y:V):Gp P t x y=Da (fN k x) (fN k y):=by
 simp only[Gp,h]
 unfold Da
 split <;> simp_all
def oper (op:Op) (ty:TypeId):Oper:=⟨none,op,ty,"",#[],none⟩
theorem UU (P:Program) (o:Oper) (T:Env) (H:View) (n:Nat):cx P (oper o.op o.type) T H n=cx P o T H n:=by
 cases o;rfl
def sI (P:Program) (s:SI) (T:Env) (H:View) (n:Nat):Out:=match s with
 | .er x=>some (x.at T,.none,[])
 | .pick c a b=>match c.at T with
  | .val (.bool t)=>some (if t then a.at T else b.at T,.none,[])
  | _=>none
 | .box x=>np (x.at T).cells n
 | .kf x=>if (x.at T).cells.all aL=true then some (.aI (x.at T).cells 0,.none,[]) else none
 | .alloc z=>np z n
 | .build z parts=>(nJ z (parts.map λ(a,b,x)=>(a,b,x.at T))).map λcs=>(.agg cs,.none,[])
 | .bO len sz z parts=>Cc len sz z (parts.map λ(i,x)=>(i,x.at T)) n
 | .load sz a=>zy sz (a.at T) H
 | .Ci sz a=>match a.at T with
  | .aI e j=>(nT sz e j).map λv=>(v,.none,[])
  | _=>none
 | .store sz a x=>FA sz (a.at T) (x.at T) H
 | .Dn x=>match x.at T with
  | .ptr id i j=>some (.ptr id i j,.none,[])
  | .aI e j=>some (.aI e j,.none,[])
  | .fn f a b=>some (.fn f a b,.none,[])
  | _=>none
 | .addr off x=>Ce off (x.at T)
 | .field off sz x=>match x.at T with
  | .agg cs=>(nT sz cs off).map λv=>(v,.none,[])
  | _=>none
 | .idx sz x i=>FW sz (x.at T) (i.at T)
 | .slice sz x lo hi=>dE sz (x.at T) (lo.map (SX.at T)) (hi.map (SX.at T))
 | .make sz bytes z l c=>Ep sz bytes z (l.at T) (c.at T) n
 | .pA=>some (.mp n,.new (.map [] 0),[])
 | .uS f first cap=>some (.fn f (first.map (SX.at T)) (cap.map (SX.at T)),.none,[])
 | .ext i x=>match x.at T with
  | .bt vs=>if i < vs.length then some (vs.getD i .any,.none,[]) else none
  | _=>none
 | .len x=>(cT (x.at T)).map λn=>(jd n,.none,[])
 | .rD x=>match x.at T with
  | .val (.string s)=>some (jd s.size,.none,[])
  | _=>none
 | .app sz bytes x y=>KC sz bytes (x.at T) (y.at T) H n
 | .arith op x y=>AF op (x.at T) (y.at T)
 | .sh l x y=>Ry l (x.at T) (y.at T)
 | .zX op x y=>C8 op (x.at T) (y.at T)
 | .jk x i=>EP (x.at T) (i.at T)
 | .not x=>match x.at T with
  | .val (.bool t)=>some (.val (.bool (!t)),.none,[])
  | _=>none
 | .nil eq k x y=>match Da (fN k (x.at T)) (fN k (y.at T)) with
  | some b=>some (.val (.bool (if eq then b else !b)),.none,[])
  | none=>none
 | .beq eq x y=>match x.at T,y.at T with
  | .val (.bool a),.val (.bool b)=>some (.val (.bool (if eq then a == b else a != b)),.none,[])
  | _,_=>none
 | .mm mx x y=>match x.at T,y.at T with
  | .val (.int k a),.val (.int _ b)=>some (.val (.int k (if mx then (if b > a then b else a) else (if b < a then b else a))),.none,[])
  | _,_=>none
 | .conv k x=>match x.at T with
  | .val (.int _ a)=>some (.val (.int k (k.wrap a)),.none,[])
  | _=>none
 | .Gc x=>match x.at T with
  | .aD es=>(mo es).map λl=>(.val (.string ⟨l.toArray⟩),.none,[])
  | _=>none
 | .hX x=>match x.at T with
  | .val (.string s)=>some (.aD (iD s),.none,[])
  | _=>none
 | .old op ty=>cx P (oper op ty) T H n
def Fs (P:Program) (t:TypeId):Option (Option Nat):=match P.info? t,ub P t with
 | some i,some true=>some (some i.size)
 | some _,some false=>some none
 | _,_=>none
theorem yA {P:Program} {t:TypeId} {k:Option Nat} (h:Fs P t=some k) (cs:List V) (j:Nat):rQ P t cs j=nT k cs j:=by
 unfold Fs at h
 split at h
 .rename_i i h1 a
  simp at h;subst h;simp[rQ,h1,a,nT]
 .rename_i i h1 a
  simp at h;subst h;simp[rQ,h1,a,nT]
 .simp at h
def rL (P:Program) (t:TypeId):Option (Nat × Nat × List V):=match de P t with
 | some e=>match P.info? e,zeroCells P e with
  | some ti,some z=>if z.length=ti.size/\z.all aL=true/\ti.size≠0 then some (ti.size,ti.bytes,z) else none
  | _,_=>none
 | none=>none
theorem mc {P:Program} {t:TypeId} {sz a:Nat} {z:List V} (h:rL P t=some (sz,a,z)) :
  ∃ e ti,de P t=some e/\P.underlying t=some (.slice e)/\P.info? e=some ti/\zeroCells P e=some z/\z.length=ti.size/\z.all aL=true/\ti.size≠0/\sz=ti.size/\a=ti.bytes:=by
 unfold rL at h
 split at h
 .rename_i e he
  split at h
  .rename_i ti f h1 c
   split at h
   .rename_i b
    simp at h
    obtain⟨rfl,rfl,rfl⟩:=h
    have hu:P.underlying t=some (.slice e):=by
     unfold de at he;split at he
     .rename_i d;simp at he;subst he;exact d
     .simp at he
    exact⟨e,ti,he,hu,h1,c,b.1,b.2.1,b.2.2,rfl,rfl⟩
   .simp at h
  .simp at h
 .simp at h
def xL (P:Program) (t:TypeId):List (Nat × Operand)->Option (List (Nat × Nat × SX))
 | []=>some []
 | (i,x) :: r=>match placeOf P t i,xL P t r with
  | some (a,b),some l=>some ((a,b,SX.of x) :: l)
  | _,_=>none
def comp (P:Program) (o:Oper):SI:=match o.op with
 | .move x | .assign x=>.er (SX.of x)
 | .pick c a b=>.pick (SX.of c) (SX.of a) (SX.of b)
 | .alloc e=>match zeroCells P e with
  | some z=>.alloc z
  | none=>.old o.op o.type
 | .box _ x=>.box (SX.of x)
 | .load t a=>match Fs P t with
  | some k=>.load k (SX.of a)
  | none=>.old o.op o.type
 | .store t a v=>match P.info? t with
  | some _=>.store (P.cellsOf t) (SX.of a) (SX.of v)
  | none=>.old o.op o.type
 | .nilCheck x=>.Dn (SX.of x)
 | .fieldAddr t x f=>match rv P t f with
  | some (off,s,_)=>if s=0 then .old o.op o.type else .addr off (SX.of x)
  | none=>.old o.op o.type
 | .field t x f=>match rv P t f with
  | some (off,_,ft)=>match Fs P ft with
   | some k=>.field off k (SX.of x)
   | none=>.old o.op o.type
  | none=>.old o.op o.type
 | .indexAddr t x i=>match rL P t with
  | some (sz,_,_)=>.idx sz (SX.of x) (SX.of i)
  | none=>.old o.op o.type
 | .slice t x lo hi none=>match rL P t with
  | some (sz,_,_)=>.slice sz (SX.of x) (lo.map SX.of) (hi.map SX.of)
  | none=>.old o.op o.type
 | .makeSlice t l c=>match rL P t with
  | some (sz,b,z)=>.make sz b z (SX.of l) (SX.of c)
  | none=>.old o.op o.type
 | .makeMap _ none=>.pA
 | .makeFunc (.func f) first cap=>.uS f (first.toList.map SX.of) (cap.toList.map SX.of)
 | .extract t i=>.ext i (SX.of t)
 | .build t parts=>match P.underlying t,zeroV P t with
  | some (.struct _),some (.agg z)=>if nP P t=true then
    (match xL P t parts.toList with
    | some ps=>.build z ps
    | none=>.old o.op o.type) else .old o.op o.type
  | _,_=>.old o.op o.type
 | .buildSlice t len parts=>match rL P t with
  | some (sz,_,z)=>if len=0/\parts.toList.isEmpty=true then .er (.val (.emp 2)) else if len * sz<=2 ^ 24/\len≠0 then .bO len sz z (parts.toList.map λ(i,x)=>(i,SX.of x)) else .old o.op o.type
  | none=>.old o.op o.type
 | .call { callee:=.builtin b,args,argTypes }=>match b,args.toList with
  | .len,[x]=>if 1<=argTypes.size then (match P.underlying (argTypes.getD 0 0) with
   | some (.slice _)=>.len (SX.of x)
   | some .string=>.rD (SX.of x)
   | _=>.old o.op o.type) else .old o.op o.type
  | .append,[s,x]=>if 2<=argTypes.size/\rZ P (argTypes.getD 1 0)=true then (match rL P (argTypes.getD 0 0) with
   | some (sz,b,_)=>.app sz b (SX.of s) (SX.of x)
   | none=>.old o.op o.type) else .old o.op o.type
  | .min,[x,y]=>.mm false (SX.of x) (SX.of y)
  | .max,[x,y]=>.mm true (SX.of x) (SX.of y)
  | _,_=>.old o.op o.type
 | .convert s d x=>match P.underlying s,P.underlying d with
  | some (.int _),some (.int k)=>.conv k (SX.of x)
  | _,_=>.old o.op o.type
 | .binOp op t x y _=>match kh P t with
  | some k=>match op with
   | .eql=>.nil true k (SX.of x) (SX.of y)
   | .neq=>.nil false k (SX.of x) (SX.of y)
   | _=>.old o.op o.type
  | none=>match P.underlying t with
   | some (.int _)=>match Uz op with
    | some l=>.sh l (SX.of x) (SX.of y)
    | none=>.arith op (SX.of x) (SX.of y)
   | some .string=>.zX op (SX.of x) (SX.of y)
   | some .bool=>match op with
    | .eql=>.beq true (SX.of x) (SX.of y)
    | .neq=>.beq false (SX.of x) (SX.of y)
    | _=>.old o.op o.type
   | _=>.old o.op o.type
 | .unOp .not _ x=>.not (SX.of x)
 | .index t x i=>match P.underlying t with
  | some .string=>.jk (SX.of x) (SX.of i)
  | _=>.old o.op o.type
 | _=>.old o.op o.type
theorem Ij {P:Program} {t:TypeId} {T:Env} : ∀ (parts:List (Nat × Operand)) (c:List (Nat × Nat × SX)) (z:List V),xL P t parts=some c ->
  yP (placeOf P t) z (parts.map λ(i,x)=>(i,ev T x))=nJ z (c.map λ(a,b,x)=>(a,b,x.at T))
 | [],c,z,h=>by simp[xL] at h;subst h;rfl
 | (i,x) :: r,c,z,h=>by
  simp only[xL] at h
  split at h
  .rename_i a b l h1 d
   simp at h;subst h
   simp only[ZJ,yP,h1,nJ,SX.cZ]
   split
   .exact Ij r l _ d
   .rfl
  .simp at h
theorem LO {P:Program} {o:Oper} {T:Env} {op:BinOp} {t u:TypeId} {x y:Operand} {k:IntKind} {a b:Int} {r:Value} (c:o.op=.binOp op t x y u) (d:ev T x=.val (.int k a)) (e:ev T y=.val (.int k b)) (h:iW op k a b=some r) :
  ej P o T=some (.val r,.none,[]):=by
 unfold ej
 simp only[c,Op.operands]
 simp only[d,e,dx]
 cases op <;> simp only[iW,Zl,reduceCtorEq] at h
 all_goals first
  | (
   split at h
   .simp at h
   .rename_i f
    simp at h;subst h
    simp[execOp,c,d,e,dx,eqGuard,binOp,Op.intDiv,f,plain]
    try rfl)
  | (subst h;simp[execOp,c,d,e,dx,eqGuard,binOp,Op.intArith,Op.intCmp,Op.intBits,plain];try rfl)
theorem UG {P:Program} {o:Oper} {T:Env} {op:BinOp} {t u:TypeId} {x y:Operand} {l:Bool} {v:V} {eff:bH} {rd:List Nat} (c:o.op=.binOp op t x y u) (hs:Uz op=some l) (h:Ry l (ev T x) (ev T y)=some (v,eff,rd)) :
  ej P o T=some (v,eff,rd):=by
 unfold Ry at h
 split at h
 .rename_i k a g b d e
  split at h
  .simp at h
  .rename_i f
   simp only[Zl,Zo] at h
   obtain⟨rfl,rfl,rfl⟩:=h
   unfold ej
   simp only[c,Op.operands]
   simp only[d,e,dx]
   cases op <;> simp only[Uz,Zl,reduceCtorEq] at hs
   all_goals
    subst hs
    simp[execOp,c,d,e,dx,eqGuard,binOp,Op.shift,f,plain,GH]
    try rfl
 .simp at h
theorem QJ {P:Program} {o:Oper} {T:Env} {op:BinOp} {t u:TypeId} {x y:Operand} {v:V} {eff:bH} {rd:List Nat} (c:o.op=.binOp op t x y u) (h:C8 op (ev T x) (ev T y)=some (v,eff,rd)) :
  ej P o T=some (v,eff,rd):=by
 unfold C8 at h
 split at h
 .rename_i a b d e
  unfold ej
  simp only[c,Op.operands,d,e,dx]
  have he:(a.toList == b.toList)=jR a b:=by simp[jR,ByteArray.toList_eq]
  split at h
  .simp at h;obtain⟨rfl,rfl,rfl⟩:=h
   simp[execOp,c,d,e,dx,eqGuard,binOp,Op.stringOp,plain,<-he];rfl
  .simp at h;obtain⟨rfl,rfl,rfl⟩:=h
   simp[execOp,c,d,e,dx,eqGuard,binOp,Op.stringOp,plain,<-he];rfl
  .simp at h
 .simp at h
theorem Pq {P:Program} {o:Oper} {T:Env} {t:TypeId} {x i:Operand} {v:V} {eff:bH} {rd:List Nat} (d:o.op=.index t x i) (hu:P.underlying t=some .string) (h:EP (ev T x) (ev T i)=some (v,eff,rd)) :
  ej P o T=some (v,eff,rd):=by
 unfold EP at h
 split at h
 .rename_i s q e hq
  split at h
  .rename_i b j
   simp at h;obtain⟨rfl,rfl,rfl⟩:=h
   unfold asNat at hq
   split at hq
   .rename_i k z f
    split at hq
    .rename_i g
     simp at hq;subst hq
     have hs:s[z.toNat]?=some b:=by
      obtain⟨a,rfl⟩:=Zy.1 j
      have c:z.toNat < s.size:=by rw[bsize] at a;exact a
      rw[getElem?_pos s z.toNat c]
      rfl
     unfold ej
     simp only[d,Op.operands,e,f,dx]
     simp[execOp,d,e,f,dx,Instr.index,asIntOf,underlying,program,hu,g,hs,plain]
     simp[bM,hu,g,hs,plain,bind,Sem.bind,pure]
     rfl
    .simp at hq
   .simp at hq
  .simp at h
 .simp at h
theorem Qg {P:Program} {o:Oper} {T:Env} {t:TypeId} {x:Operand} {b:Bool} (a:o.op=.unOp .not t x) (c:ev T x=.val (.bool b)) :
  ej P o T=some (.val (.bool (!b)),.none,[]):=by
 unfold ej
 simp only[a,Op.operands,c,dx]
 simp[execOp,a,c,dx,Op.unary,plain]
 rfl
theorem j0 {α β:Type} (P:Program) (s:Sem α) (f:α->β):bM P (Functor.map f s)=(bM P s).map f:=by
 show bM P (s >>= λa=>pure (f a))=_
 rw[bC]
 cases bM P s <;> rfl
theorem eP {P:Program} {t:TypeId} {d:TypeDesc} (h:P.underlying t=some d):bM P (underlying t)=some d:=by
 simp only[underlying,program,bC]
 simp[bM,h]
 rfl
theorem Aa {P:Program} {t:TypeId} {a b:Bool} (hu:P.underlying t=some .bool):bM P (Op.equal t (.bool a) (.bool b))=some (a == b):=by
 rw[mB]
 generalize 9999=d
 simp only[Op.equalIn,bC,eP hu,aaa]
 rfl
theorem Hv {P:Program} {o:Oper} {T:Env} {op:BinOp} {t u:TypeId} {x y:Operand} {a b:Bool} {r:Bool} (c:o.op=.binOp op t x y u) (hu:P.underlying t=some .bool) (d:ev T x=.val (.bool a)) (e:ev T y=.val (.bool b))
  (hr:(op=.eql/\r=(a == b))∨(op=.neq/\r=(a != b))) :
  ej P o T=some (.val (.bool r),.none,[]):=by
 unfold ej
 simp only[c,Op.operands,d,e,dx]
 rcases hr with ⟨rfl,rfl⟩ | ⟨rfl,rfl⟩
 .simp[execOp,c,d,e,dx,eqGuard,binOp,j0,bC,Aa hu,plain]
  try simp[bM,pure,plain]
 .simp[execOp,c,d,e,dx,eqGuard,binOp,j0,bC,Aa hu,plain]
  try simp[bM,pure,plain,bne]
theorem O9 {P:Program} {o:Oper} {T:Env} {s d:TypeId} {x:Operand} {f k b:IntKind} {a:Int} (c:o.op=.convert s d x) (hs:P.underlying s=some (.int f)) (hd:P.underlying d=some (.int k)) (e:ev T x=.val (.int b a)) :
  ej P o T=some (.val (.int k (k.wrap a)),.none,[]):=by
 unfold ej
 simp only[c,Op.operands,e,dx]
 have:bM P (convert s d (.int b a))=some (.int k (k.wrap a)):=by
  simp only[convert,bC,eP hs,eP hd,aaa]
  rfl
 simp[execOp,c,e,dx,j0,this,plain]
theorem JE {P:Program} {o:Oper} {T:Env} {bi:Builtin} {x y:Operand} {k d:IntKind} {a b:Int} {args:Array Operand} {c:Array TypeId} {r:Int} (e:o.op=.call { callee:=.builtin bi,args:=args,argTypes:=c }) (h:args.toList=[x,y])
  (f:ev T x=.val (.int k a)) (g:ev T y=.val (.int d b)) (hr:(bi=.max/\r=if b > a then b else a)∨(bi=.min/\r=if b < a then b else a)) :
  ej P o T=some (.val (.int k r),.none,[]):=by
 obtain rfl:args = #[x,y]:=by rw[<-Array.toArray_toList (xs:=args),h]
 unfold ej
 rcases hr with ⟨rfl,rfl⟩ | ⟨rfl,rfl⟩
 .have:bM P (Builtin.max_ c o.type #[.int k a,.int d b])=some (.int k (if b > a then b else a)):=rfl
  simp[e,Op.operands,Call.operands,f,g,dx,execOp,resolve,invoke,builtin,j0,this,plain]
 .have:bM P (Builtin.min_ c o.type #[.int k a,.int d b])=some (.int k (if b < a then b else a)):=rfl
  simp[e,Op.operands,Call.operands,f,g,dx,execOp,resolve,invoke,builtin,j0,this,plain]
theorem DU (l:List Operand) (T:Env):(l.map SX.of).map (SX.at T)=l.map (ev T):=by
 rw[List.map_map];congr 1;funext x;exact SX.cZ T x
theorem VY (l:Option Operand) (T:Env):(l.map SX.of).map (SX.at T)=l.map (ev T):=by
 cases l <;> simp[SX.cZ]
theorem WA (l:List (Nat × Operand)) (T:Env):(l.map λ(i,x)=>(i,SX.of x)).map (λ(i,x)=>(i,SX.at T x))=l.map λ(i,x)=>(i,ev T x):=by
 rw[List.map_map];congr 1;funext x;simp[SX.cZ]
theorem M6 {P:Program} {o:Oper} {T:Env} {H:View} {n:Nat} {v:V} {eff:bH} {rd:List Nat} (h:sI P (comp P o) T H n=some (v,eff,rd)) :
  cx P o T H n=some (v,eff,rd):=by
 have old:∀ {s:SI},s=.old o.op o.type->sI P s T H n=some (v,eff,rd)->cx P o T H n=some (v,eff,rd):=λe h=>by rw[e] at h;simp only[sI,UU] at h;exact h
 unfold comp at h
 split at h
 .rename_i x g;simp only[sI,SX.cZ] at h;simp only[cx,g];exact h
 .rename_i x g;simp only[sI,SX.cZ] at h;simp only[cx,g];exact h
 .rename_i c a b g;simp only[sI,SX.cZ] at h;simp only[cx,g];exact h
 .rename_i e g
  split at h
  .rename_i z Q;simp only[sI] at h;simp only[cx,g,Q];exact h
  .exact old rfl h
 .rename_i t x g;simp only[sI,SX.cZ] at h;simp only[cx,g];exact h
 .rename_i t a g
  split at h
  .rename_i k hk
   simp only[sI,SX.cZ,zy] at h
   simp only[cx,g,od,yA hk]
   exact h
  .exact old rfl h
 .rename_i t a x g
  split at h
  .rename_i ti R
   simp only[sI,SX.cZ,FA] at h
   simp only[cx,g,sP,R,Option.isSome_some,and_true]
   exact h
  .exact old rfl h
 .rename_i x g;simp only[sI,SX.cZ] at h;simp only[cx,g];exact h
 .rename_i t x f g
  split at h
  .rename_i off s Y I
   split at h
   .exact old rfl h
   .rename_i hs
    simp only[sI,SX.cZ,Ce] at h
    simp only[cx,g,mC,I,hs,if_false]
    exact h
  .exact old rfl h
 .rename_i t x f g
  split at h
  .rename_i off s Y I
   split at h
   .rename_i k hk
    simp only[sI,SX.cZ] at h
    simp only[cx,g,xG,I]
    split at h
    .rename_i cs S;simp only[S,yA hk];exact h
    .simp at h
   .exact old rfl h
  .exact old rfl h
 .rename_i t x i g
  split at h
  .rename_i sz b z hk
   obtain⟨e,ti,h1,J,w,D,K,N,L,rfl,rfl⟩:=mc hk
   simp only[sI,SX.cZ,FW] at h
   simp only[cx,g,mU,J,w]
   exact h
  .exact old rfl h
 .rename_i t x lo hi g
  split at h
  .rename_i sz b z hk
   obtain⟨e,ti,h1,J,w,D,K,N,L,rfl,rfl⟩:=mc hk
   simp only[sI,SX.cZ,VY] at h
   simp only[cx,g]
   have q:uA P t (ev T x) (lo.map (ev T)) (hi.map (ev T)) none=some (v,eff,rd):=by
    simp only[uA,h1,w]
    unfold dE at h
    split at h
    .rename_i p;rw[p];exact h
    .rename_i p;rw[p];exact h
    .rename_i p;rw[p];exact h
    .simp at h
   unfold dE at h
   split at h
   .rename_i p;rw[p] at q ⊢;exact q
   .rename_i p;rw[p] at q ⊢;exact q
   .rename_i p;rw[p] at q ⊢;exact q
   .simp at h
  .exact old rfl h
 .rename_i t l c g
  split at h
  .rename_i sz b z hk
   obtain⟨e,ti,h1,J,w,D,K,N,L,rfl,rfl⟩:=mc hk
   simp only[sI,SX.cZ,Ep] at h
   simp only[cx,g,mG,h1,w]
   split at h
   .rename_i l' c' hl G
    simp only[hl,G,L,if_false,D,K,N,and_self,if_true]
    exact h
   .simp at h
  .exact old rfl h
 .rename_i t g;simp only[sI] at h;simp only[cx,g];exact h
 .rename_i f first cap g;simp only[sI,DU] at h;simp only[cx,g];exact h
 .rename_i t i g;simp only[sI,SX.cZ] at h;simp only[cx,g];exact h
 .rename_i t parts g
  split at h
  .rename_i fs z h1 J
   split at h
   .rename_i w
    split at h
    .rename_i Z D
     simp only[sI] at h
     simp only[cx,g,xD,h1,J,w,if_true]
     have:=Ij (T:=T) parts.toList Z z D
     rw[this]
     exact h
    .exact old rfl h
   .exact old rfl h
  .exact old rfl h
 .rename_i t len parts g
  split at h
  .rename_i sz b z hk
   obtain⟨e,ti,h1,J,w,D,K,N,L,rfl,rfl⟩:=mc hk
   split at h
   .rename_i G
    obtain⟨rfl,G⟩:=G
    simp only[sI,SX.at] at h
    simp only[cx,g,jc,h1,w]
    rw[List.isEmpty_iff] at G
    rw[Zk (by omega),Zn trivial,G]
    exact h
   split at h
   .rename_i G
    simp only[sI,WA,Cc] at h
    simp only[cx,g,jc,h1,w]
    rw[Zk (by omega),Zk G.2,Zk L]
    simp only[D,K,N,and_self,if_true]
    exact h
   .exact old rfl h
  .exact old rfl h
 .rename_i b args an g
  split at h
  .rename_i x j
   split at h
   .rename_i E
    simp only[cx,g,j,E,if_true,xk]
    split at h
    .rename_i e hu
     simp only[sI,SX.cZ] at h
     simp only[hu];exact h
    .rename_i hu
     simp only[sI,SX.cZ] at h
     simp only[hu]
     exact h
    .have:=old rfl h
     simpa only [cx,g,j,E,if_true,xk] using this
   .exact old rfl h
  .rename_i s x j
   split at h
   .rename_i E
    split at h
    .rename_i sz b z hk
     obtain⟨e,ti,h1,J,w,D,K,N,L,rfl,rfl⟩:=mc hk
     simp only[sI,SX.cZ] at h
     simp only[cx,g,j]
     rw[Zn E]
     unfold KC at h
     split at h
     .rename_i xs aq U
      simp only[oD,h1,U,w]
      have Q:(zeroCells P e).map List.length=some ti.size:=by rw[D];simp[K]
      split at h
      .rename_i A;rw[Zn A];exact h
      .rename_i A
       rw[Zk A]
       split at h
       .simp at h
       .rename_i O
        rw[Zk (by
         rintro (p | p | p)
         .exact L p
         .exact p Q
         .exact O p)]
        exact h
     .simp at h
    .exact old rfl h
   .exact old rfl h
  .rename_i x y j
   simp only[sI,SX.cZ] at h
   simp only[cx,g]
   split at h
   .rename_i k a W b B F
    have:=JE (P:=P) (T:=T) g j B F (.inr ⟨rfl,rfl⟩)
    rw[this];exact h
   .simp at h
  .rename_i x y j
   simp only[sI,SX.cZ] at h
   simp only[cx,g]
   split at h
   .rename_i k a W b B F
    have:=JE (P:=P) (T:=T) g j B F (.inl ⟨rfl,rfl⟩)
    rw[this];exact h
   .simp at h
  .exact old rfl h
 .rename_i s d x g
  split at h
  .rename_i k0 k hs hd
   simp only[sI,SX.cZ] at h
   simp only[cx,g]
   split at h
   .rename_i W a B
    have M:¬ (lS P s d=true):=by simp[lS,hs,hd]
    rw[Zk M,O9 g hs hd B];exact h
   .simp at h
  .exact old rfl h
 .rename_i op t x y u g
  split at h
  .rename_i k hk
   have C:(kh P t).isSome=true:=by rw[hk];rfl
   split at h
   .simp only[sI,SX.cZ] at h
    simp only[cx,g]
    rw[Zn C,MF hk]
    split at h
    .rename_i b M;rw[M];simpa using h
    .simp at h
   .simp only[sI,SX.cZ] at h
    simp only[cx,g]
    rw[Zn C,MF hk]
    split at h
    .rename_i b M;rw[M];simpa using h
    .simp at h
   .exact old rfl h
  .rename_i hk
   have m:¬ ((kh P t).isSome=true):=by rw[hk];simp
   split at h
   .split at h
    .rename_i l hs
     simp only[sI,SX.cZ] at h
     simp only[cx,g]
     rw[Zk m]
     exact UG g hs h
    .simp only[sI,SX.cZ,AF] at h
     simp only[cx,g]
     split at h
     .rename_i k a W b B F
      split at h
      .rename_i X
       subst X
       simp only[Zu] at h
       obtain⟨r,hr,h⟩:=h
       rw[Zk m,LO g B F hr];exact aau some h
      .simp at h
     .simp at h
   .simp only[sI,SX.cZ] at h
    simp only[cx,g]
    rw[Zk m]
    exact QJ g h
   .rename_i hu
    split at h
    .simp only[sI,SX.cZ] at h
     simp only[cx,g]
     split at h
     .rename_i a b B F
      rw[Zk m,Hv g hu B F (.inl ⟨rfl,rfl⟩)];simpa using h
     .simp at h
    .simp only[sI,SX.cZ] at h
     simp only[cx,g]
     split at h
     .rename_i a b B F
      rw[Zk m,Hv g hu B F (.inr ⟨rfl,rfl⟩)];simpa using h
     .simp at h
    .exact old rfl h
   .exact old rfl h
 .rename_i t x g
  simp only[sI,SX.cZ] at h
  simp only[cx,g]
  split at h
  .rename_i b M;rw[Qg g M];exact h
  .simp at h
 .rename_i t x i g
  split at h
  .rename_i hu
   simp only[sI,SX.cZ] at h
   simp only[cx,g]
   exact Pq g hu h
  .exact old rfl h
 .exact old rfl h
theorem UQ {P:Program} {sz:Option Nat} {a:SX} {T:Env} {H:View} {n:Nat} {v:V} {eff:bH} {rd:List Nat} (h:sI P (.Ci sz a) T H n=some (v,eff,rd)):sI P (.load sz a) T H n=some (v,eff,rd):=by
 simp only[sI] at h
 simp only[sI,zy]
 split at h
 .rename_i e j b;rw[b];exact h
 .simp at h
def toStr (P:Program) (s d:TypeId):Bool:=match P.underlying s,P.underlying d with
 | some (.slice e),some .string=>(match P.underlying e with | some (.int .u8)=>true | _=>false)
 | _,_=>false
def xB (P:Program) (s d:TypeId):Bool:=match P.underlying s,P.underlying d with
 | some .string,some (.slice e)=>(match P.underlying e with | some (.int .u8)=>true | _=>false)
 | _,_=>false
theorem QM {P:Program} {s d:TypeId} (h:toStr P s d=true):∃ e,P.underlying s=some (.slice e)/\P.underlying d=some .string/\P.underlying e=some (.int .u8):=by
 unfold toStr at h
 split at h
 .rename_i e h1 a
  split at h
  .rename_i b;exact⟨e,h1,a,b⟩
  .simp at h
 .simp at h
theorem CD {P:Program} {s d:TypeId} (h:xB P s d=true):∃ e,P.underlying s=some .string/\P.underlying d=some (.slice e)/\P.underlying e=some (.int .u8):=by
 unfold xB at h
 split at h
 .rename_i e h1 a
  split at h
  .rename_i b;exact⟨e,h1,a,b⟩
  .simp at h
 .simp at h
theorem VV {P:Program} {s d ty:TypeId} {x:Operand} {T:Env} {H:View} {n:Nat} {v:V} {eff:bH} {rd:List Nat} (a:toStr P s d=true) (h:sI P (.Gc (SX.of x)) T H n=some (v,eff,rd)):sI P (.old (.convert s d x) ty) T H n=some (v,eff,rd):=by
 obtain⟨e,h1,b,c⟩:=QM a
 simp only[sI,SX.cZ] at h
 simp only[sI,cx,oper,lS,h1,if_true,ov,b,c]
 split at h
 .rename_i es f
  rw[f]
  simp only[bR,cT]
  exact h
 .simp at h
inductive SB where
 | op (s:SI)
 | call (f:SX) (args:List SX)
 | yG (f:SX) (args:List SX)
 deriving Inhabited
structure SO where
 dst:Option Nat
 guard:Option (Nat × Bool)
 b:SB
 deriving Inhabited
structure SG where
 guard:Option (Nat × Bool)
 ops:List (Option Nat × SB)
 deriving Inhabited
inductive SC where
 | skip
 | region (quiet:Bool) (gs:List SG)
 | kU (aps:List (Nat × Nat)) (gs:List SG)
 | Gi (tol:Nat × Nat × Nat) (aps:List (Nat × Nat)) (gs:List SG)
 | seq (x y:SC)
 | cond (c:SX) (x y:SC)
 | block (id:Nat) (c:SC)
 | loop (c:SC)
 | exit (id:Nat)
 | ret
 | scope (l:Nat) (c r:SC)
 | label (l:Nat)
 | goto (l:Nat)
 deriving Inhabited
def qa:SC->Nat->Option SC
 | .seq a b,l=>match qa a l with
  | some r=>some (.seq r b)
  | none=>qa b l
 | .label l',l=>if l' == l then some .skip else none
 | _,_=>none
def JY:SC->Option Nat
 | .seq a b=>match JY a with
  | some l=>some l
  | none=>JY b
 | .label l=>some l
 | _=>none
def Cs (l:Nat):Exit->Prop->Prop->Prop
 | .goto l',a,_=>l'=l/\a
 | _,_,b=>b
inductive SR where
 | tmp (t:Nat)
 | cell (t:Nat) (sz:Option Nat)
 deriving Inhabited
def Cr (P:Program) (op:Op):Nat:=match op with
 | .convert s d _=>if lS P s d=true then 2 else 0
 | .call { callee:=.builtin b,.. }=>match b with
  | .min | .max | .complex | .real | .imag=>0
  | .len=>1
  | _=>2
 | .lookup ..=>1
 | .binOp .. | .unOp .. | .index ..=>0
 | _=>2
def vZ (P:Program):SI->Nat
 | .er _ | .pick .. | .kf _ | .Dn _ | .addr .. | .field .. | .idx .. | .slice .. | .uS .. | .ext .. | .len _ | .rD _ | .arith .. | .sh .. | .zX .. | .jk .. | .not _ | .nil .. | .build .. | .Ci .. | .beq .. | .mm .. | .conv .. | .Gc _ | .hX _=>0
 | .load .. | .box _ | .alloc _ | .bO .. | .make .. | .pA=>1
 | .store .. | .app ..=>2
 | .old op _=>Cr P op
def jT (P:Program) (quiet:Bool):SB->Nat
 | .op s=>vZ P s
 | .call ..=>if quiet then 1 else 2
 | .yG ..=>1
structure Fz where
 l:List Nat
 fr:Bool
def AJ (P:Program) (fr:Bool):SI->SI
 | .load k a=>if fr then .Ci k a else .load k a
 | .old (.convert s d x) ty=>if fr && toStr P s d then .Gc (SX.of x) else .old (.convert s d x) ty
 | s=>s
def nV (P:Program) (fz:Fz) (o:Oper):SB:=match o.op with
 | .call { callee:=.value f,args,.. }=>if (match o.dst with | some d=>fz.l.contains (200000+d) | none=>false) then .yG (SX.of f) (args.toList.map SX.of) else .call (SX.of f) (args.toList.map SX.of)
 | .box _ x=>if (match o.dst with | some d=>fz.l.contains d | none=>false) then .op (.kf (SX.of x)) else .op (.box (SX.of x))
 | .convert s d x=>if (match o.dst with | some t=>fz.l.contains t | none=>false) && xB P s d then .op (.hX (SX.of x)) else .op (AJ P fz.fr (comp P o))
 | _=>.op (AJ P fz.fr (comp P o))
def yg (n:Nat) (all:List Oper) (o:Oper):Option (Option (Nat × Bool)):=match o.guard with
 | none=>some none
 | some (j,want)=>match (all[j]?).bind (·.dst) with
  | some d=>if d < n then some (some (d,want)) else none
  | none=>none
def IJ (P:Program) (n:Nat) (all:List Oper) (fz:Fz) (o:Oper):Option SO :=
 if tK n o then (yg n all o).map λg=>⟨o.dst,g,nV P fz o⟩ else none
def dV (P:Program) (n:Nat) (all:List Oper) (fz:Fz):List Oper->Option (List SO)
 | []=>some []
 | o :: r=>match IJ P n all fz o,dV P n all fz r with
  | some s,some l=>some (s :: l)
  | _,_=>none
def SG.flat (g:SG):List SO:=g.ops.map λ(d,b)=>⟨d,g.guard,b⟩
def lR (gs:List SG):List SO:=(gs.map SG.flat).flatten
def Pm (g:Option (Nat × Bool)) (s:SO):Bool:=match g,s.guard with
 | none,none=>true
 | some (d,w),some (d',w')=>d == d' && w == w' && s.dst != some d
 | _,_=>false
def group:List SO->List SG
 | []=>[]
 | s :: r=>match group r with
  | g :: gs=>if Pm g.guard s then ⟨g.guard,(s.dst,s.b) :: g.ops⟩ :: gs else ⟨s.guard,[(s.dst,s.b)]⟩ :: g :: gs
  | []=>[⟨s.guard,[(s.dst,s.b)]⟩]
theorem Uk {g:Option (Nat × Bool)} {s:SO} (h:Pm g s=true):s.guard=g:=by
 unfold Pm at h
 split at h
 .rename_i h1;exact h1
 .rename_i d w a w' h1
  simp at h;rw[h1,h.1.1,h.1.2]
 .simp at h
theorem iv:∀ l:List SO,lR (group l)=l
 | []=>rfl
 | s :: r=>by
  have a:=iv r
  simp only[group]
  split
  .rename_i g gs c
   rw[c] at a
   split
   .rename_i e
    have:=Uk e
    rw[<-a]
    cases s with
    | mk d f b=>simp only at this;subst this;simp[lR,SG.flat]
   .rw[<-a];simp[lR,SG.flat]
  .rename_i c
   rw[c] at a
   rw[<-a];simp[lR,SG.flat]
def FQ (o:Oper):Bool:=match o.op with
 | .load ..=>true
 | _=>false
def Dx (o:Oper):Bool:=match o.op with
 | .alloc _=>true
 | _=>false
def ml (o:Oper):Option Nat:=match o.op,o.guard with
 | .store _ (.tmp t) _,none=>some t
 | _,_=>none
def XD (all:List Oper) (j k t:Nat):Bool:=match all[j]? with
 | some o=>o.dst == some t && o.guard.isNone && Dx o && ((all.drop (j+1)).take (k - (j+1))).all λo'=>o'.dst != some t
 | none=>false
def Cp (all:List Oper) (i k:Nat):Bool:=match all[i]?,all[k]? with
 | some a,some b=>FQ a && (match ml b with
  | some t=>(List.range k).any λj=>decide (i < j) && XD all j k t
  | none=>false)
 | _,_=>false
def IL (all:List Oper) (ls:List Nat):Bool :=
 let b:=gD all []
 ls.zipIdx.all λ(x,i)=>ls.zipIdx.all λ(y,k)=>!decide (i < k) || ordered b i k || x == 0 || y == 0 || (decide (x<=1) && decide (y<=1)) || Cp all i k
def tZ (o:Oper):Option Nat:=match o.op with
 | .load _ (.tmp t)=>some t
 | _=>none
def stays (all:List Oper) (i t:Nat):Bool:=(all.drop i).all λo=>o.dst != some t
def EE (all:List Oper) (i k:Nat):Option (Nat × Nat):=match all[i]?,all[k]? with
 | some a,some b=>match tZ a,ml b with
  | some s,some t=>if stays all i s && stays all k t then some (s,t) else none
  | _,_=>match ml a,tZ b with
   | some t,some s=>if stays all i t && stays all k s then some (s,t) else none
   | _,_=>none
 | _,_=>none
def AB (all:List Oper) (x i y k:Nat):Bool:=!decide (i < k) || ordered (gD all []) i k || x == 0 || y == 0 || (decide (x<=1) && decide (y<=1)) || Cp all i k
def ma (all:List Oper) (ls:List Nat):List (Nat × Nat):=ls.zipIdx.flatMap λ(x,i)=>ls.zipIdx.filterMap λ(y,k)=>if AB all x i y k then none else some (i,k)
def D2 (all:List Oper):List (Nat × Nat)->Option (List (Nat × Nat))
 | []=>some []
 | (i,k) :: r=>match EE all i k,D2 all r with
  | some p,some l=>some (p :: l)
  | _,_=>none
def RW (o:Oper):Option Nat:=match o.op,o.guard with
 | .call { callee:=.builtin .append,args,.. },none=>match args.toList with
  | [.tmp t,_]=>some t
  | _=>none
 | _,_=>none
def rA (o:Oper):Option Nat:=match ml o with
 | some t=>some t
 | none=>RW o
def Jf (o:Oper):Bool:=match o.op with
 | .buildSlice ..=>true
 | .alloc _=>true
 | _=>false
def newAt (all:List Oper) (k:Nat):Bool:=match all[k]? with
 | some b=>Jf b
 | none=>false
def FZ (all:List Oper) (i k:Nat):Option (Nat × Nat):=match all[i]?,all[k]? with
 | some a,some b=>match tZ a,rA b with
  | some s,some t=>if stays all i s && stays all k t then some (s,t) else none
  | _,_=>match rA a,tZ b with
   | some t,some s=>if stays all i t && stays all k s then some (s,t) else none
   | _,_=>none
 | _,_=>none
def IQ (all:List Oper) (ls:List Nat) (i k:Nat):Option (Nat × Nat × Nat):=match all[i]?,all[k]? with
 | some a,some b=>match a.op,b.op,a.guard,b.guard with
  | .lookup t (.tmp m) (.tmp q) false,.mapEntry t' (.tmp m') (.tmp q'),none,none =>
   if t == t' && m == m' && q == q' && stays all i m && stays all i q && stays all k m && stays all k q && decide (i < k) && (List.range k).all λj=>decide (ls.getD j 2<=1) then some (t,m,q) else none
  | _,_,_,_=>none
 | _,_=>none
def IV (all:List Oper) (ls:List Nat) (tp:Option (Nat × Nat)):List (Nat × Nat):=(ma all ls).filter λp=>!newAt all p.2 && tp != some p
def Cn (o:Oper):Option (Nat × Nat × Nat):=match o.op,o.guard,o.dst with
 | .call { callee:=.builtin .append,args,.. },none,some d=>match args.toList with
  | [.tmp t,.tmp y]=>some (t,y,d)
  | _=>none
 | _,_,_=>none
def Gj (all:List Oper) (i k:Nat):Option (List (Nat × Nat)):=match all[i]?,all[k]? with
 | some a,some b=>match Cn a,Cn b with
  | some (t,y,d),some (t',y',_)=>if stays all i t && stays all i y && stays all (i+1) d && stays all k t' && stays all k y' then some [(t,t'),(t,y'),(t',y),(d,t')] else none
  | _,_=>none
 | _,_=>none
def Cd (all:List Oper) (i k:Nat):Option (List (Nat × Nat)):=match FZ all i k with
 | some p=>some [p]
 | none=>Gj all i k
def xE (all:List Oper):List (Nat × Nat)->Option (List (Nat × Nat))
 | []=>some []
 | (i,k) :: r=>match Cd all i k,xE all r with
  | some p,some l=>some (p ++ l)
  | _,_=>none
def wu (g:SG):Bool:=match g.guard with
 | none=>true
 | some (d,_)=>g.ops.all λx=>x.1 != some d
def tH (P:Program) (n:Nat) (fz:Fz) (ops:List Oper) (draw quiet:Bool):Option SC:=match dV P n ops fz ops with
 | none=>none
 | some l=>if !(group l).all wu then none else
  if draw then (if nG ops && IL ops (l.map λs=>jT P quiet s.b) then some (.region quiet (group l)) else none)
  else some (.region quiet (group l))
def D8 (P:Program) (n:Nat) (fz:Fz) (ops:List Oper):Option SC:=match dV P n ops fz ops with
 | none=>none
 | some l=>if !(group l).all wu then none else
  if nG ops then (D2 ops (ma ops (l.map λs=>jT P false s.b))).map λaps=>.kU aps (group l) else none
def WG (all:List Oper) (ls:List Nat):Option (Nat × Nat):=(ma all ls).find? λp=>(IQ all ls p.1 p.2).isSome
def EH (P:Program) (n:Nat) (fz:Fz) (ops:List Oper):Option SC:=match dV P n ops fz ops with
 | none=>none
 | some l=>if !(group l).all wu then none else
  if nG ops then
   (match WG ops (l.map λs=>jT P false s.b) with
   | none=>(xE ops (IV ops (l.map λs=>jT P false s.b) none)).map λaps=>.kU aps (group l)
   | some p=>match IQ ops (l.map λs=>jT P false s.b) p.1 p.2 with
    | some tol=>(xE ops (IV ops (l.map λs=>jT P false s.b) (some p))).map λaps=>.Gi tol aps (group l)
    | none=>none)
  else none
def XU:Nat:=100000
def XR:Nat:=100001
def orElse':Option SC->Option SC->Option SC
 | some x,_=>some x
 | none,y=>y
def Fy (P:Program) (n:Nat) (fz:List Nat) (ops:List Oper) (draw:Bool):Option SC :=
 orElse' (tH P n ⟨fz,false⟩ ops draw false) (if draw then orElse' (if fz.contains XU then EH P n ⟨fz,false⟩ ops else none) <| orElse' (if fz.contains XR then tH P n ⟨fz,true⟩ ops true false else none) <| orElse' (D8 P n ⟨fz,false⟩ ops) (orElse' (tH P n ⟨fz,false⟩ ops true true) (orElse' (tH P n ⟨fz,true⟩ ops true false) (tH P n ⟨fz,true⟩ ops true true))) else none)
def dw (P:Program) (n:Nat) (fz:List Nat):Code->Option SC
 | .skip=>some .skip
 | .region _ ops draw=>Fy P n fz ops.toList draw
 | .seq x y=>match dw P n fz x,dw P n fz y with
  | some a,some b=>some (.seq a b)
  | _,_=>none
 | .cond c x y=>match dw P n fz x,dw P n fz y with
  | some a,some b=>some (.cond (SX.of c) a b)
  | _,_=>none
 | .block id c=>(dw P n fz c).map (.block id)
 | .loop c=>(dw P n fz c).map .loop
 | .exit id=>some (.exit id)
 | .ret=>some .ret
 | .scope c=>match dw P n fz c with
  | some sc=>match JY sc with
   | some l=>(qa sc l).map λr=>.scope l sc r
   | none=>none
  | none=>none
 | .label l=>some (.label l)
 | .goto l=>some (.goto l)
 | _=>none
def jY (h h':aF):Prop:=∀ id,id < h.length->h.view id=.dead->h'.view id=.dead
theorem jY.refl (h:aF):jY h h:=λ_ _ e=>e
theorem jY.trans {a b c:aF} (h:jY a b) (k:jY b c) (hl:a.length<=b.length):jY a c:=λid d e=>k id (ZX d hl) (h id d e)
def au (P:Program) (f:FuncId) (vs:List V) (H:View) (K:V->View->Prop):Prop :=
 dS P f=true/\∀ h:aF,h.view=H->∃ r h',bZ P f vs h r h'/\jY h h'/\K r h'.view
def EZ (P:Program) (f:FuncId) (vs:List V) (H:View) (K:V->View->Prop):Prop :=
 dS P f=true/\∀ h:aF,h.view=H->∃ r h',bZ P f vs h r h'/\(∀ id,id < h.length->h'.view id=h.view id)/\K r h'.view
def kG (sz:Option Nat) (e:List V) (j:Nat) (K:V->Prop):Prop:=match sz with
 | some n=>j+n<=e.length/\K (.agg ((e.drop j).take n))
 | none=>j < e.length/\K (e.getD j .any)
def wI (P:Program) (s:SI) (T:Env) (H:View) (K:V->View->Prop):Prop:=match s with
 | .er x=>K (x.at T) H
 | .pick c a b=>match c.at T with
  | .val (.bool t)=>K (if t then a.at T else b.at T) H
  | _=>False
 | .box x=>(x.at T).cells.all aL=true/\∀ n,H n=.dead->K (.ptr n 0 0) (H.set n (.arr (x.at T).cells.length [(x.at T).cells]))
 | .kf x=>(x.at T).cells.all aL=true/\K (.aI (x.at T).cells 0) H
 | .alloc z=>z.all aL=true/\∀ n,H n=.dead->K (.ptr n 0 0) (H.set n (.arr z.length [z]))
 | .load sz a=>match a.at T with
  | .ptr id i j=>match H id with
   | .arr _ es=>i < es.length/\kG sz (es.getD i []) j λv=>K v H
   | _=>False
  | .aI e j=>kG sz e j λv=>K v H
  | _=>False
 | .Ci sz a=>match a.at T with
  | .aI e j=>kG sz e j λv=>K v H
  | _=>False
 | .store sz a x=>match a.at T with
  | .ptr id i j=>match H id with
   | .arr esz es=>(i < es.length/\(x.at T).cells.length=sz/\j+(x.at T).cells.length<=esz/\(x.at T).cells.all aL=true) /\
     K .any (H.set id (.arr esz (es.set i (gm (es.getD i []) j (x.at T).cells))))
   | _=>False
  | _=>False
 | .Dn x=>match x.at T with
  | .ptr id i j=>K (.ptr id i j) H
  | .aI e j=>K (.aI e j) H
  | .fn f a b=>K (.fn f a b) H
  | _=>False
 | .addr off x=>match x.at T with
  | .ptr id i j=>K (.ptr id i (j+off)) H
  | .aI e j=>K (.aI e (j+off)) H
  | _=>False
 | .field off sz x=>match x.at T with
  | .agg cs=>kG sz cs off λv=>K v H
  | _=>False
 | .idx sz x i=>match asNat (i.at T) with
  | none=>False
  | some q=>match x.at T with
   | .sl id off len esz=>(q < len/\esz=sz)/\K (.ptr id (off+q) 0) H
   | .aD es=>∃ e,es[q]?=some e/\e.length=sz/\K (.aI e 0) H
   | _=>False
 | .uS f first cap=>K (.fn f (first.map (SX.at T)) (cap.map (SX.at T))) H
 | .pA=>∀ n,H n=.dead->K (.mp n) (H.set n (.map [] 0))
 | .ext i x=>match x.at T with
  | .bt vs=>i < vs.length/\K (vs.getD i .any) H
  | _=>False
 | .len x=>match cT (x.at T) with
  | some n=>K (jd n) H
  | none=>False
 | .rD x=>match x.at T with
  | .val (.string s)=>K (jd s.size) H
  | _=>False
 | .arith op x y=>match x.at T,y.at T with
  | .val (.int k a),.val (.int k' b)=>k=k'/\(match iW op k a b with | some v=>K (.val v) H | none=>False)
  | _,_=>False
 | .zX op x y=>match x.at T,y.at T with
  | .val (.string a),.val (.string b)=>(match op with
   | .eql=>K (.val (.bool (jR a b))) H
   | .neq=>K (.val (.bool (!jR a b))) H
   | _=>False)
  | _,_=>False
 | .jk x i=>match x.at T,asNat (i.at T) with
  | .val (.string s),some q=>∃ b,s.data.toList[q]?=some b/\K (.val (.int .u8 b.toNat)) H
  | _,_=>False
 | .not x=>match x.at T with
  | .val (.bool t)=>K (.val (.bool (!t))) H
  | _=>False
 | .nil eq k x y=>match Da (fN k (x.at T)) (fN k (y.at T)) with
  | some b=>K (.val (.bool (if eq then b else !b))) H
  | none=>False
 | .beq eq x y=>match x.at T,y.at T with
  | .val (.bool a),.val (.bool b)=>K (.val (.bool (if eq then a == b else a != b))) H
  | _,_=>False
 | .mm mx x y=>match x.at T,y.at T with
  | .val (.int k a),.val (.int _ b)=>K (.val (.int k (if mx then (if b > a then b else a) else (if b < a then b else a)))) H
  | _,_=>False
 | .conv k x=>match x.at T with
  | .val (.int _ a)=>K (.val (.int k (k.wrap a))) H
  | _=>False
 | .sh l x y=>match x.at T,y.at T with
  | .val (.int k a),.val (.int _ b)=>0<=b/\K (.val (.int k (GH l k a b))) H
  | _,_=>False
 | .build z parts=>match nJ z (parts.map λ(a,b,x)=>(a,b,x.at T)) with
  | some cs=>K (.agg cs) H
  | none=>False
 | .bO len sz z parts=>match mT sz (List.replicate len z) (parts.map λ(i,x)=>(i,x.at T)) with
  | some es=>∀ n,H n=.dead->K (.sl n 0 len sz) (H.set n (.arr sz es))
  | none=>False
 | .slice sz x lo hi=>match dE sz (x.at T) (lo.map (SX.at T)) (hi.map (SX.at T)) with
  | some (v,.none,_)=>K v H
  | _=>False
 | .make sz bytes z l c=>match asNat (l.at T),asNat (c.at T) with
  | some l,some c=>(l<=c/\c < aA/\bytes * c < aA)/\(c=0->K (.emp 2) H)/\(c≠0->∀ n,H n=.dead->K (.sl n 0 l sz) (H.set n (.arr sz (List.replicate l z))))
  | _,_=>False
 | .app sz bytes x y=>match bR H (y.at T) with
  | some (xs,_)=>if xs.isEmpty=true then (match x.at T with
    | .emp k=>K (.emp k) H
    | .ef=>K .ef H
    | .aD es=>K (.aD es) H
    | .sl a b c d=>K (.sl a b c d) H
    | _=>False)
   else (xs.all λe=>e.length == sz && e.all aL)=true/\(match x.at T with
    | .emp _=>(xs.length * bytes < aA/\xs.length < aA)/\∀ n,H n=.dead->K (.sl n 0 xs.length sz) (H.set n (.arr sz xs))
    | .sl id off len esz=>match H id with
     | .arr _ es=>(off+len<=es.length/\esz=sz/\(len+xs.length) * bytes < aA/\len+xs.length < aA) /\
      ∀ n,H n=.dead->K (.sl n 0 (len+xs.length) esz) ((H.set id .dead).set n (.arr esz ((es.drop off).take len ++ xs)))
     | _=>False
    | _=>False)
  | none=>False
 | .Gc x=>match x.at T with
  | .aD es=>(match mo es with
   | some l=>K (.val (.string ⟨l.toArray⟩)) H
   | none=>False)
  | _=>False
 | .hX x=>match x.at T with
  | .val (.string s)=>K (.aD (iD s)) H
  | _=>False
 | s=>∀ n,H n=.dead->∃ v eff rd,sI P s T H n=some (v,eff,rd)/\K v (eff.view H n)
def wB (P:Program) (quiet:Bool) (b:SB) (T:Env) (H:View) (K:V->View->Prop):Prop:=match b with
 | .op s=>wI P s T H K
 | .call f args=>match f.at T with
  | .fn g first cap=>if quiet then EZ P g (first ++ args.map (SX.at T) ++ cap) H K else au P g (first ++ args.map (SX.at T) ++ cap) H K
  | _=>False
 | .yG f args=>match f.at T with
  | .fn g first cap=>EZ P g (first ++ args.map (SX.at T) ++ cap) H K
  | _=>False
def BZ (P:Program) (quiet:Bool):List (Option Nat × SB)->Env->View->(Env->View->Prop)->Prop
 | [],T,H,K=>K T H
 | (d,b) :: r,T,H,K=>wB P quiet b T H λv H'=>BZ P quiet r (T.put d v) H' K
def jE:List (Option Nat × SB)->Env->Env
 | [],T=>T
 | (d,_) :: r,T=>jE r (T.put d (.bt []))
def wG (P:Program) (quiet:Bool) (g:SG) (T:Env) (H:View) (K:Env->View->Prop):Prop:=match g.guard with
 | none=>BZ P quiet g.ops T H K
 | some (d,want)=>match T d with
  | .val (.bool b)=>(b=want->BZ P quiet g.ops (T.put (some d) (.val (.bool want))) H K)/\(b = !want->K (jE g.ops (T.put (some d) (.val (.bool (!want))))) H)
  | .bt []=>K (jE g.ops T) H
  | _=>False
def Aj (P:Program) (quiet:Bool):List SG->Env->View->(Env->View->Prop)->Prop
 | [],T,H,K=>K T H
 | g :: r,T,H,K=>wG P quiet g T H λT' H'=>Aj P quiet r T' H' K
def rT (c:SX) (b:Bool) (T:Env):Env:=match c with
 | .tmp t=>T.put (some t) (.val (.bool b))
 | _=>T
def CG:Exit->Prop->Prop->Prop
 | .normal,a,_=>a
 | _,_,b=>b
def jg (a b:V):Prop:=match a,b with
 | .ptr i _ _,.ptr j _ _=>i≠j
 | .ptr i _ _,.sl j _ _ _=>i≠j
 | .ptr _ _ _,.emp _=>True
 | .ptr _ _ _,.ef=>True
 | .ptr _ _ _,.aD _=>True
 | .aI _ _,_=>True
 | .sl i _ _ _,.sl j _ _ _=>i≠j
 | .sl _ _ _ _,.emp _=>True
 | .sl _ _ _ _,.ef=>True
 | .sl _ _ _ _,.aD _=>True
 | .emp _,_=>True
 | .ef,_=>True
 | .aD _,_=>True
 | _,_=>False
def N4 (P:Program) (t:TypeId) (m q:V) (H:View):Prop:=match m with
 | .mp id=>(∃ es c,H id=.map es c)/\∀ v obj rd,eT P t (.mp id) q H=some (v,.fK id obj,rd)->gF P t (.mp id) q false (H.set id obj)=gF P t (.mp id) q false H
 | _=>False
def BW:List (Nat × Nat)->Env->Prop->Prop
 | [],_,K=>K
 | p :: l,T,K=>jg (T p.1) (T p.2)/\BW l T K
def wS (P:Program):SC->Env->View->(Exit->Env->View->Prop)->Prop
 | .skip,T,H,Q=>Q .normal T H
 | .region quiet gs,T,H,Q=>Aj P quiet gs T H (Q .normal)
 | .kU aps gs,T,H,Q=>Aj P false gs T H λT' H'=>BW aps T' (Q .normal T' H')
 | .Gi tol aps gs,T,H,Q=>Aj P false gs T H λT' H'=>N4 P tol.1 (T' tol.2.1) (T' tol.2.2) H/\BW aps T' (Q .normal T' H')
 | .seq x y,T,H,Q=>wS P x T H λe T' H'=>CG e (wS P y T' H' Q) (Q e T' H')
 | .cond c x y,T,H,Q=>match c.at T with
  | .val (.bool b)=>(b=true->wS P x (rT c true T) H Q)/\(b=false->wS P y (rT c false T) H Q)
  | _=>False
 | .block id c,T,H,Q=>wS P c T H λe=>Q (rK id e)
 | .loop c,T,H,Q=>∃ I:Nat->Env->View->Prop,(∃ k,I k T H)/\∀ k T H,I k T H->wS P c T H λe T' H'=>CG e (∃ k',k' < k/\I k' T' H') (Q e T' H')
 | .exit id,T,H,Q=>Q (.exit id) T H
 | .ret,T,H,Q=>Q .ret T H
 | .scope l c r,T,H,Q=>∃ (I:Nat->Env->View->Prop) (K:Nat),wS P c T H (λe T' H'=>Cs l e (∃ k,k < K/\I k T' H') (Q e T' H'))/\∀ k T H,I k T H->wS P r T H λe T' H'=>Cs l e (∃ k',k' < k/\I k' T' H') (Q e T' H')
 | .label _,T,H,Q=>Q .normal T H
 | .goto l,T,H,Q=>Q (.goto l) T H
def wR (T:Env) (H:View) (r:SR) (K:V->Prop):Prop:=match r with
 | .tmp t=>K (T t)
 | .cell t sz=>match T t with
  | .ptr id i j=>match H id with
   | .arr _ es=>i < es.length/\kG sz (es.getD i []) j K
   | _=>False
  | .aI e j=>kG sz e j K
  | _=>False
def FC (T:Env) (H:View):List SR->List V->(List V->Prop)->Prop
 | [],acc,K=>K acc
 | r :: l,acc,K=>wR T H r λv=>FC T H l (acc ++ [v]) K
def zG:List V->V
 | [v]=>v
 | vs=>.bt vs
def gE (P:Program):List ResultVar->Option (List SR)
 | []=>some []
 | .tmp t :: r=>(gE P r).map (.tmp t :: ·)
 | .cell a t :: r=>match Fs P t,gE P r with
  | some k,some l=>some (.cell a k :: l)
  | _,_=>none
structure SF where
 code:SC
 res:List SR
 n:Nat
def ae:List SC->SC
 | []=>.skip
 | [a]=>a
 | a :: b :: l=>.seq a (ae (b :: l))
abbrev bK (k a b:Nat):Option Nat × SB:=(none,.op (.store k (.tmp a) (.tmp b)))
abbrev cq (a k:Nat):Option Nat × SB:=(some a,.op (.er (.val (.emp k))))
abbrev eE (d s b x y:Nat):Option Nat × SB:=(some d,.op (.app s b (.tmp x) (.tmp y)))
abbrev bc (a:Nat) (x:SC):SC:=.cond (.tmp a) x .skip
abbrev bT (a:Nat) (x:SC):SC:=.cond (.tmp a) .skip x
abbrev bU (a:Nat) (x:SC):SC:=.block a (.loop x)
abbrev aa (a b:Nat):Option Nat × SB:=(some a,.op (.er (.tmp b)))
abbrev aQ (a:Nat) (n:Int):Option Nat × SB:=(some a,.op (.er (.val (.val (.int .i64 n)))))
abbrev bz (a:Nat) (n:Bool):Option Nat × SB:=(some a,.op (.er (.val (.val (.bool n)))))
abbrev ai (a b:Nat):Option Nat × SB:=(some a,.op (.load none (.tmp b)))
abbrev aT (a k b:Nat):Option Nat × SB:=(some a,.op (.load (some k) (.tmp b)))
abbrev ao (a k b:Nat):Option Nat × SB:=(some a,.op (.addr k (.tmp b)))
abbrev aH (a k b c:Nat):Option Nat × SB:=(some a,.op (.idx k (.tmp b) (.tmp c)))
abbrev cD (a b c:Nat):Option Nat × SB:=(some a,.op (.pick (.tmp b) (.val (.val (.bool true))) (.tmp c)))
abbrev eF (a b c:Nat):Option Nat × SB:=(some a,.op (.pick (.tmp b) (.tmp c) (.val (.val (.bool false)))))
abbrev aS (a:Nat) (o:BinOp) (b c:Nat):Option Nat × SB:=(some a,.op (.arith o (.tmp b) (.tmp c)))
abbrev aG (a:Nat) (o:BinOp) (b:Nat) (n:Int):Option Nat × SB:=(some a,.op (.arith o (.tmp b) (.val (.val (.int .i64 n)))))
abbrev aP (a b:Nat):Option Nat × SB:=(some a,.op (.len (.tmp b)))
abbrev dW (a k b:Nat):Option Nat × SB:=(some a,.op (.ext k (.tmp b)))
abbrev c6 (a b:Nat):Option Nat × SB:=(some a,.op (.not (.tmp b)))
abbrev cw (a b:Nat):Option Nat × SB:=(some a,.op (.kf (.tmp b)))
abbrev cQ (a b:Nat):Option Nat × SB:=(some a,.op (.Dn (.tmp b)))
abbrev qb (a f:Nat) (l:List SX):Option Nat × SB:=(some a,.call (.val (.fn f [] [])) l)
abbrev bh (a f:Nat) (l:List Nat):Option Nat × SB:=(some a,.call (.val (.fn f [] [])) (l.map .tmp))
abbrev ab (l:List (Option Nat × SB)):SC:=.region false [⟨none,l⟩]
def aN (P:Program) (f:FuncId) (fz:List Nat):Option SF:=match P.funcs[f]? with
 | some fn=>match fn.body with
  | some c=>match dw P fn.ntmps fz c,gE P fn.results.toList,dS P f with
   | some sc,some rs,true=>some ⟨sc,rs,fn.ntmps⟩
   | _,_,_=>none
  | none=>none
 | none=>none
theorem rB {sz:Option Nat} {e:List V} {j:Nat} {K:V->Prop} (h:kG sz e j K):∃ v,nT sz e j=some v/\K v:=by
 cases sz with
 | none=>exact⟨_,by simp only[nT];rw[Zn h.1],h.2⟩
 | some n=>exact⟨_,by simp only[nT];rw[Zn h.1],h.2⟩
theorem XX {P:Program} {s:SI} {T:Env} {H:View} {K:V->View->Prop} (h:wI P s T H K) {n:Nat} (r:H n=.dead) :
  ∃ v eff rd,sI P s T H n=some (v,eff,rd)/\K v (eff.view H n):=by
 unfold wI at h
 split at h
 .exact⟨_,_,_,rfl,h⟩
 .split at h
  .rename_i t B;exact⟨_,_,_,by simp only[sI,B];rfl,h⟩
  .exact h.elim
 .exact⟨_,_,_,by simp only[sI,np];rw[Zn h.1],h.2 n r⟩
 .exact⟨_,_,_,by simp only[sI];rw[Zn h.1],h.2⟩
 .exact⟨_,_,_,by simp only[sI,np];rw[Zn h.1],h.2 n r⟩
 .split at h
  .rename_i id i j u
   split at h
   .rename_i es hH
    obtain⟨h1,f⟩:=h
    obtain⟨v,o,hk⟩:=rB f
    exact⟨_,_,_,by simp only[sI,zy,u,hH];rw[Zn h1,o];rfl,hk⟩
   .exact h.elim
  .rename_i e j u
   obtain⟨v,o,hk⟩:=rB h
   exact⟨_,_,_,by simp only[sI,zy,u];rw[o];rfl,hk⟩
  .exact h.elim
 .split at h
  .rename_i e j u
   obtain⟨v,o,hk⟩:=rB h
   exact⟨_,_,_,by simp only[sI,u];rw[o];rfl,hk⟩
  .exact h.elim
 .split at h
  .rename_i id i j u
   split at h
   .rename_i esz es hH
    exact⟨_,_,_,by simp only[sI,FA,u,hH];rw[Zn h.1],h.2⟩
   .exact h.elim
  .exact h.elim
 .split at h
  .rename_i d;exact⟨_,_,_,by simp only[sI,d];rfl,h⟩
  .rename_i d;exact⟨_,_,_,by simp only[sI,d];rfl,h⟩
  .rename_i d;exact⟨_,_,_,by simp only[sI,d];rfl,h⟩
  .exact h.elim
 .split at h
  .rename_i d;exact⟨_,_,_,by simp only[sI,Ce,d];rfl,h⟩
  .rename_i d;exact⟨_,_,_,by simp only[sI,Ce,d];rfl,h⟩
  .exact h.elim
 .split at h
  .rename_i cs d
   obtain⟨v,o,hk⟩:=rB h
   exact⟨_,_,_,by simp only[sI,d,o];rfl,hk⟩
  .exact h.elim
 .split at h
  .exact h.elim
  .rename_i q hq
   split at h
   .rename_i d;exact⟨_,_,_,by simp only[sI,FW,hq,d];rw[Zn h.1],h.2⟩
   .rename_i es d
    obtain⟨e,he,hl,hk⟩:=h
    have x:q < es.length:=(Zy.1 he).1
    have y:es.getD q []=e:=by simp[Zi,he]
    exact⟨_,_,_,by simp only[sI,FW,hq,d];rw[y,Zn ⟨x,hl⟩],hk⟩
   .exact h.elim
 .exact⟨_,_,_,rfl,h⟩
 .exact⟨_,_,_,rfl,h n r⟩
 .split at h
  .rename_i vs d;exact⟨_,_,_,by simp only[sI,d];rw[Zn h.1],h.2⟩
  .exact h.elim
 .split at h
  .rename_i m d;exact⟨_,_,_,by simp only[sI,d];rfl,h⟩
  .exact h.elim
 .split at h
  .rename_i s d;exact⟨_,_,_,by simp only[sI,d];rfl,h⟩
  .exact h.elim
 .split at h
  .rename_i k a D b d g
   obtain⟨rfl,h⟩:=h
   split at h
   .rename_i v o;exact⟨_,_,_,by simp only[sI,AF,d,g,if_true,o];rfl,h⟩
   .exact h.elim
  .exact h.elim
 .split at h
  .rename_i a b d g
   split at h
   .exact⟨_,_,_,by simp only[sI,C8,d,g];rfl,h⟩
   .exact⟨_,_,_,by simp only[sI,C8,d,g];rfl,h⟩
   .exact h.elim
  .exact h.elim
 .split at h
  .rename_i s q d hq
   obtain⟨b,p,hk⟩:=h
   exact⟨_,_,_,by simp only[sI,EP,d,hq,p];rfl,hk⟩
  .exact h.elim
 .split at h
  .rename_i t d;exact⟨_,_,_,by simp only[sI,d];rfl,h⟩
  .exact h.elim
 .split at h
  .rename_i b p;exact⟨_,_,_,by simp only[sI,p];rfl,h⟩
  .exact h.elim
 .split at h
  .rename_i d g;exact⟨_,_,_,by simp only[sI,d,g];rfl,h⟩
  .exact h.elim
 .split at h
  .rename_i d g;exact⟨_,_,_,by simp only[sI,d,g];rfl,h⟩
  .exact h.elim
 .split at h
  .rename_i d;exact⟨_,_,_,by simp only[sI,d];rfl,h⟩
  .exact h.elim
 .split at h
  .rename_i d g;exact⟨_,_,_,by simp only[sI,Ry,d,g];rw[Zk (by omega)],h.2⟩
  .exact h.elim
 .split at h
  .rename_i cs p;exact⟨_,_,_,by simp only[sI,p];rfl,h⟩
  .exact h.elim
 .split at h
  .rename_i es p;exact⟨_,_,_,by simp only[sI,Cc,p];rfl,h n r⟩
  .exact h.elim
 .split at h
  .rename_i v rd p;exact⟨_,_,_,by simp only[sI,p];rfl,h⟩
  .exact h.elim
 .split at h
  .rename_i l c hl A
   obtain⟨h1,f,C⟩:=h
   by_cases e:c=0
   .exact⟨.emp 2,.none,[],by simp only[sI,Ep,hl,A];rw[Zn h1,Zn e],f e⟩
   .exact⟨_,_,_,by simp only[sI,Ep,hl,A];rw[Zn h1,Zk e],C e n r⟩
  .exact h.elim
 .split at h
  .rename_i xs rd w
   split at h
   .rename_i he
    split at h
    all_goals first
     | (rename_i d;exact⟨_,_,_,by simp only[sI,KC,w];rw[Zn he,d],h⟩)
     | exact h.elim
   .rename_i he
    obtain⟨h1,f⟩:=h
    split at f
    .rename_i d
     exact⟨_,_,_,by simp only[sI,KC,w];rw[Zk he,Zk (by rw[h1];simp),d];simp only;rw[Zn f.1],f.2 n r⟩
    .rename_i id off len esz d
     split at f
     .rename_i z es hH
      exact⟨_,_,_,by simp only[sI,KC,w];rw[Zk he,Zk (by rw[h1];simp),d];simp only[hH];rw[Zn f.1],f.2 n r⟩
     .exact f.elim
    .exact f.elim
  .exact h.elim
 .split at h
  .rename_i d
   split at h
   .rename_i l hl;exact⟨_,_,_,by simp only[sI,d,hl];rfl,h⟩
   .exact h.elim
  .exact h.elim
 .split at h
  .rename_i d;exact⟨_,_,_,by simp only[sI,d];rfl,h⟩
  .exact h.elim
 .exact h n r
def mn (k:Nat) (rd wr:List Nat) (call:Bool) (n n':Nat):Prop :=
 (k=0->rd=[]/\wr=[]/\call=false/\n'=n)/\(k<=1->wr=[])
theorem VF {k:Nat} (h:k=2) {rd wr:List Nat} {call:Bool} {n a:Nat} : mn k rd wr call n a:=⟨λb=>by omega,λb=>by omega⟩
theorem sB {P:Program} {o:Oper} {T:Env} {v:V} {eff:bH} {rd:List Nat} (h:ej P o T=some (v,eff,rd)):eff=.none/\rd=[]:=by
 unfold ej at h
 split at h
 .split at h
  .split at h
   .simp at h;exact⟨h.2.1.symm,h.2.2⟩
   .simp at h
  .simp at h
 .simp at h
theorem TA {P:Program} {o:Oper} {T:Env} {H:View} {n:Nat} {v:V} {eff:bH} {rd:List Nat} (h:cx P o T H n=some (v,eff,rd)) :
  (Cr P o.op=0->eff=.none/\rd=[])/\(Cr P o.op=1->eff.wr=[]):=by
 unfold Cr
 split
 .rename_i s d x a
  simp only[cx,a] at h
  split
  .exact⟨λh=>by simp at h,λh=>by simp at h⟩
  .rename_i g
   rw[Zk g] at h
   exact⟨λ_=>sB h,λh=>by simp at h⟩
 .rename_i b args j a
  simp only[cx,a] at h
  split
  any_goals exact⟨λ_=>sB h,λh=>by simp at h⟩
  .refine⟨λh=>by simp at h,λ_=>?_⟩
   split at h
   .rename_i f
    split at h
    .simp only[xk] at h
     have c:∀ {v':V} {r:List Nat},some (v',bH.none,r)=some (v,eff,rd)->eff.wr=[]:=λe=>by
      simp only[Zl,Zo] at e;rw[<-e.2.1];rfl
     split at h
     .simp only[Zu] at h
      obtain⟨_,_,h⟩:=h
      exact c (aau some h)
     .split at h
      .split at h
       .exact c h
       .simp at h
      .exact c h
      .simp at h
     .split at h
      .exact c h
      .simp at h
     .exact c h
     .simp at h
    .simp at h
   any_goals simp at h
   all_goals contradiction
  .exact⟨λh=>by simp at h,λh=>by simp at h⟩
 .rename_i t m k ok a
  refine⟨λh=>by simp at h,λ_=>?_⟩
  simp only[cx,a,gF] at h
  have c:∀ {v':V} {r:List Nat},some (v',bH.none,r)=some (v,eff,rd)->eff.wr=[]:=λe=>by
   simp only[Zl,Zo] at e;rw[<-e.2.1];rfl
  split at h
  .simp at h
  .split at h
   .simp at h
   .split at h
    .split at h
     .split at h
      .split at h
       .exact c h
       .simp at h
      .exact c h
      .simp at h
     .simp at h
    .simp at h
 .rename_i op t x y u a
  refine⟨λ_=>?_,λh=>by simp at h⟩
  simp only[cx,a] at h
  split at h
  .split at h
   .simp at h;exact⟨h.2.1.symm,h.2.2⟩
   .simp at h;exact⟨h.2.1.symm,h.2.2⟩
   .simp at h
  .exact sB h
 .rename_i op t x a
  exact⟨λ_=>sB (by simpa only [cx,a] using h),λh=>by simp at h⟩
 .rename_i t x i a
  exact⟨λ_=>sB (by simpa only [cx,a] using h),λh=>by simp at h⟩
 .exact⟨λh=>by simp at h,λh=>by simp at h⟩
theorem tY {P:Program} {s:SI} {T:Env} {H:View} {n:Nat} {v:V} {eff:bH} {rd:List Nat} (h:sI P s T H n=some (v,eff,rd)) :
  (vZ P s=0->eff=.none/\rd=[])/\(vZ P s=1->eff.wr=[]):=by
 have nn:∀ {v':V},some (v',bH.none,([]:List Nat))=some (v,eff,rd)->eff=.none/\rd=[]:=λe=>by
  simp only[Zl,Zo] at e;exact⟨e.2.1.symm,e.2.2.symm⟩
 have mp:∀ {α:Type} {x:Option α} {f:α->V},(x.map λa=>(f a,bH.none,([]:List Nat)))=some (v,eff,rd)->eff=.none/\rd=[]:=by
  intro α x f h
  simp only[Zu] at h
  obtain⟨a,_,h⟩:=h
  simp only[Zo] at h;exact⟨h.2.1.symm,h.2.2.symm⟩
 have nw:∀ {v':V} {o:cU} {r:List Nat},some (v',bH.new o,r)=some (v,eff,rd)->eff.wr=[]:=λe=>by
  simp only[Zl,Zo] at e;rw[<-e.2.1];rfl
 have n1:∀ {v':V} {r:List Nat},some (v',bH.none,r)=some (v,eff,rd)->eff.wr=[]:=λe=>by
  simp only[Zl,Zo] at e;rw[<-e.2.1];rfl
 unfold vZ
 cases s <;> simp only[sI] at h
 case old op ty=>exact TA (o:=oper op ty) h
 all_goals
  constructor <;> intro hk <;> first
   | (exfalso;revert hk;simp;done)
   | skip
 all_goals try simp only[zy,np,Ce,FW,dE,Ep,Cc,AF,Ry,C8,EP] at h
 all_goals first
  | exact nn h
  | exact mp h
  | exact nw h
  | exact n1 h
  | skip
 all_goals repeat' (split at h)
 all_goals first
  | exact nn h
  | exact mp h
  | exact nw h
  | exact n1 h
  | (simp at h;done)
  | (simp only[Zu,Zo] at h;obtain⟨_,_,_,rfl,_⟩:=h;rfl)
end Gv
