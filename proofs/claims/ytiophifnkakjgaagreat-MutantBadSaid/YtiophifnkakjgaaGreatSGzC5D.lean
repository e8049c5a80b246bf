/-
  Part 4 of the proof: what the machine does and what the functions answer.
  Conditions: those that each lemma names.
-/
import Derived.Test.YtiophifnkakjgaaGreatSGzC5C
set_option linter.unusedSimpArgs false
set_option linter.unusedVariables false
set_option maxRecDepth 100000
set_option maxHeartbeats 20000000
namespace Gv
open Go
inductive Tree:V->Prop
 | val (v:Value):Tree (.val v)
 | emp (k:Nat):Tree (.emp k)
 | ez:Tree .ez
 | aZ (es:List (List V)):(∀i j,i<es.length->j<(es.getD i []).length->Tree ((es.getD i []).getD j .any))->Tree (.aZ es)
 | aP (e:List V) (j:Nat):(∀k,k<e.length->Tree (e.getD k .any))->Tree (.aP e j)
 | fn (f:FuncId) (xs ys:List V):(∀i,i<xs.length->Tree (xs.getD i .any))->(∀i,i<ys.length->Tree (ys.getD i .any))->Tree (.fn f xs ys)
 | agg (cs:List V):(∀i,i<cs.length->Tree (cs.getD i .any))->Tree (.agg cs)
 | bb (cs:List V):(∀i,i<cs.length->Tree (cs.getD i .any))->Tree (.bb cs)
theorem zU {Z:Nat->Prop} {μ u:Mu} {hp:Array Obj} {v:V} {x:Value} (h:aD Z μ hp v x):Tree v->aD Z u hp v x:=by
 induction h with
 | any x=>intro t;exact .any x
 | val v w=>intro _;exact .val v w
 | emp k a h1 n=>intro _;exact .emp k a h1 n
 | ez a cap=>intro _;exact .ez a cap
 | jo a cap h1=>intro _;exact .jo a cap h1
 | aZ es b off esz cap c o hle m p _ g =>
  intro t
  cases t with
  | aZ _ l=>exact .aZ es b off esz cap c o hle m p (λi j hi s=>g i j hi s (l i j hi (by rw[m i hi];exact s)))
 | qq id off esz a=>intro t;cases t
 | sl id off len esz b o0 cap c e f hm hle z A=>intro t;cases t
 | ptr id i j b o0 esz hm=>intro t;cases t
 | aP e j b off c o p _ g =>
  intro t
  cases t with
  | aP _ _ l=>exact .aP e j b off c o p (λk hk=>g k hk (l k hk))
 | mp id b o0 esz hm=>intro t;cases t
 | fn f xs ys d y h1 n _ _ q r =>
  intro t
  cases t with
  | fn _ _ _ t1 t2=>exact .fn f xs ys d y h1 n (λi hi=>q i hi (t1 i hi)) (λi hi=>r i hi (t2 i hi))
 | agg cs d h1 _ g =>
  intro t
  cases t with
  | agg _ l=>exact .agg cs d h1 (λi hi=>g i hi (l i hi))
 | bb cs d h1 _ g =>
  intro t
  cases t with
  | bb _ l=>exact .bb cs d h1 (λi hi=>g i hi (l i hi))
inductive Fr (h:Heap):V->V->Prop
 | tree (v:V):Tree v->Fr h v v
 | emp (k:Nat):Fr h (.emp k) (.aZ [])
 | sl (id off len esz z:Nat) (es es':List (List V)):h.view id=.arr z es->off+len<=es.length->es'.length=len ->
  (∀i,i<len->(es'.getD i []).length=(es.getD (off+i) []).length) ->
  (∀i j,i<len->j<(es'.getD i []).length->Fr h ((es.getD (off+i) []).getD j .any) ((es'.getD i []).getD j .any))->Fr h (.sl id off len esz) (.aZ es')
 | ptr (id i j z:Nat) (es:List (List V)) (e':List V):h.view id=.arr z es->i<es.length->e'.length=(es.getD i []).length ->
  (∀k,k<e'.length->Fr h ((es.getD i []).getD k .any) (e'.getD k .any))->Fr h (.ptr id i j) (.aP e' j)
 | agg (cs cs':List V):cs'.length=cs.length->(∀i,i<cs.length->Fr h (cs.getD i .any) (cs'.getD i .any))->Fr h (.agg cs) (.agg cs')
 | bb (cs cs':List V):cs'.length=cs.length->(∀i,i<cs.length->Fr h (cs.getD i .any) (cs'.getD i .any))->Fr h (.bb cs) (.bb cs')
theorem EP {h:Heap} {Z:Nat->Prop} {μ u:Mu} {F:View} {hp:Array Obj} (hr:eO Z μ hp (cat h F)) {v t:V} (fr:Fr h v t):∀ {x:Value},aD Z μ hp v x->aD (λb=>Z b∨kC μ b) u hp t x:=by
 have l:∀id,h.view id≠.dead->cat h F id=h.view id:=λid H=>by simp only[cat];rw[aaL (fa H)]
 induction fr with
 | tree v I =>
  intro x d
  have h1:aD Z u hp v x:=zU d I
  exact h1.mono ⟨λ_ h=>.inl h,λ_ _=>rfl,λ_ _ h=>h,gn.refl _⟩
 | emp k=>intro x d;cases d with | emp _ a=>exact .jo a 0 (λ_=>rfl)
 | sl id off len esz z es es' hH hle hlen J _ o =>
  intro x d
  cases d with
  | qq _ _ _ a =>
   have:es'=[]:=ab3.1 hlen
   subst this
   exact .jo a 0 (λ_=>rfl)
  | sl _ _ _ _ b o0 cap c e f hm G O P =>
   have g:=hr.obj id
   rw[l id (by rw[hH];simp),hH] at g
   obtain⟨rfl,_,K,L⟩:=g b o0 esz hm
   have d:∀i,∃ci:Nat->Value,∀j,j<esz->i<len->cellAt hp b (o0+off*esz+i*esz+j)=some (ci j)/\aD Z μ hp ((es.getD (off+i) []).getD j .any) (ci j):=by
    intro i
    by_cases hi:i<len
    .obtain⟨ci,A⟩:=p7 (n:=esz) (p:=λj x=>cellAt hp b (o0+off*esz+i*esz+j)=some x/\aD Z μ hp ((es.getD (off+i) []).getD j .any) x) (λj m=>by
      obtain⟨x,d,B⟩:=L (off+i) j (by omega) m
      rw[abq,<-abn] at d
      exact⟨x,d,B⟩)
     exact⟨ci,λj m _=>A j m⟩
    .exact⟨λ_=>undef,λj _ h=>absurd h hi⟩
   obtain⟨M,q⟩:=Classical.axiomOfChoice d
   have r:∀i,i<es'.length->(es'.getD i []).length=esz:=λi hi=>by rw[J i (by omega)];exact K _ (by omega)
   have:=aD.aZ (Z:=λb=>Z b∨kC μ b) (μ:=u) (hp:=hp) es' b (o0+off*esz) esz cap M (.inr ⟨id,o0,esz,hm⟩) (by omega) r
    (λi j hi m=>(q i j m (by omega)).1) (λi j hi m=>o i j (by omega) (by rw[r i hi];exact m) (q i j m (by omega)).2)
   rw[hlen] at this
   exact this
 | ptr id i j z es e' hH hi hlen _ o =>
  intro x d
  obtain⟨b,o0,sz,hm,rfl⟩:=pr (w:={ (default:World) with heap:=hp }) d
  have g:=hr.obj id
  rw[l id (by rw[hH];simp),hH] at g
  obtain⟨rfl,s⟩:=rowOf (w:={ (default:World) with heap:=hp }) g hm hi
  refine CJ (w:={ (default:World) with heap:=hp }) (.inr ⟨id,o0,sz,hm⟩) (λk hk=>?_)
  obtain⟨y,N,B⟩:=s k (by omega)
  exact⟨y,N,o k hk B⟩
 | agg cs C hlen _ o =>
  intro x d
  cases d with
  | agg _ D h1 E=>exact .agg _ _ (by omega) (λi hi=>o i (by omega) (E i (by omega)))
 | bb cs C hlen _ o =>
  intro x d
  cases d with
  | bb _ D h1 E=>exact .bb _ _ (by omega) (λi hi=>o i (by omega) (E i (by omega)))
def aC (P:Program) (f:FuncId) (vs:List V) (t:V):Prop:=
 ∀Z μ (w:World) (xs:List Value),gG Z μ w.heap vs xs->(∀b,Z b->b<w.heap.size) ->
  Calls P f xs.toArray w λe w'=>∃x Z',e=.returned x/\(∀ν,aD Z' ν w'.heap t x)/\eX w w'/\(∀b,Z b->Z' b)/\(∀b,Z' b->Z b∨(w.heap.size<=b/\b<w'.heap.size))/\gU w.heap w'.heap (λ_=>False)
theorem GZ (F:View):cat [] F=F:=by funext id;simp[cat]
theorem aC.zl {P:Program} {f:FuncId} {vs:List V} {r t:V} {l:Heap} (m:∀v∈vs,Tree v) (n:bZ P f vs [] r l) (p:Fr l r t):aC P f vs t:=by
 intro Z μ w xs c q
 have d:gG Z (λ_=>none) w.heap vs xs:=⟨c.1,λi hi=>zU (c.2 i hi) (by
  simp only[aaG,aaH hi,aaZ]
  exact m _ (aaP _))⟩
 have g:eO Z (λ_=>none) w.heap (cat [] λ_=>.dead):=by
  rw[GZ]
  exact⟨λ_=>trivial,λi j b o s A B _ h=>by simp at h,λid b o s h=>by simp at h,q,λid b o s h=>by simp at h⟩
 refine(n.2 Z _ _ w xs d g (λ_ _ _=>rfl)).mono ?_
 rintro e w' ⟨x,u,μ',rfl,y,k,hex,_⟩
 refine⟨x,λb=>u b∨kC μ' b,rfl,λC=>EP k p y,hex.same,λb a=>.inl (hex.mono.z b a),?_,λb a _=>hex.frame b a (by rintro⟨_,_,_,h⟩;simp at h)⟩
 rintro b (a | ⟨id,o,s,a⟩)
 .rcases hex.VB b a with h1 | h1
  .exact .inl h1
  .exact .inr ⟨h1,k.df b a⟩
 .rcases hex.Gk _ _ _ _ a with h1 | ⟨_,h1 | ⟨_,_,_,h1⟩⟩
  .simp at h1
  .exact .inr ⟨h1,k.lt _ _ _ _ a⟩
  .simp at h1
theorem bZ.hZ {P:Program} {f:FuncId} {vs:List V} {t:V} (n:aC P f vs t) (h:Heap):bZ P f vs h t h:=by
 refine⟨aaQ _,λZ μ F w xs g hr j=>(n Z μ w xs g hr.df).mono ?_⟩
 rintro e w' ⟨x,m,rfl,p,k,q,a,i⟩
 have hm:iP Z m μ μ w.heap w'.heap:=⟨q,λb c=>i b (hr.df b c) (λx=>x),λ_ _ h=>h,i.mn⟩
 refine⟨x,m,μ,rfl,p μ,⟨λid=>(hr.obj id).mono hm rfl (λb o s d=>i b (hr.lt _ _ _ _ d) (λx=>x)),hr.inj,λid b o s d=>abh (hr.lt _ _ _ _ d) k.size,λb c=>?_,λid b o s d l=>?_⟩,
  ⟨k,hm,λb c _=>i b c (λx=>x),λb c=>?_,λ_ _ _ _ h=>.inl h⟩,λ_ _=>rfl⟩
 .rcases a b c with h1 | h1
  .exact abh (hr.df b h1) k.size
  .exact h1.2
 .rcases a b l with h1 | h1
  .exact hr.ix _ _ _ _ d h1
  .have:=hr.lt _ _ _ _ d;omega
 .rcases a b c with h1 | h1
  .exact .inl h1
  .exact .inr h1.1
def Ha (l:List Nat) (x:Nat):Bool:=!l.contains x
def Hq (a b:Rec):Bool:=
 a.wr.all (Ha b.rd)&&b.wr.all (Ha a.rd)&&(!a.call||b.wr.isEmpty)&&(!b.call||a.wr.isEmpty)&&b.wr.all λid=>!(decide (a.lo<=id)&&decide (id<a.hi))
section
variable {P:Program} {n:Nat}
theorem RU {a b:Rec} (h:Hq a b=true):qo a b:=by
 unfold Hq at h
 simp only[aaR,abc,Ha,acW,acv] at h
 obtain⟨⟨⟨⟨h1,g⟩,e⟩,f⟩,i⟩:=h
 refine⟨λid d hm=>?_,λid d hm=>?_,λc=>?_,λc=>?_,λid d hm=>?_⟩
 .have:=h1 id d;simp at this;exact this hm
 .have:=g id d;simp at this;exact this hm
 .rcases e with e | e
  .rw[c] at e;simp at e
  .simpa using e
 .rcases f with f | f
  .rw[c] at f;simp at f
  .simpa using f
 .have:=i id d
  simp at this
  omega
end
inductive SX where
 | tmp (t:Nat)
 | val (v:V)
 deriving Inhabited
def SX.of:Operand->SX
 | .tmp t=>.tmp t
 | .const v=>.val (gv v)
 | .global _=>.val .any
 | .func f=>.val (.fn f [] [])
def SX.at (T:Env):SX->V
 | .tmp t=>T t
 | .val v=>v
theorem SX.dh (T:Env) (x:Operand):(SX.of x).at T=ev T x:=by cases x<;>rfl
inductive SI where
 | eR (x:SX)
 | pick (c a b:SX)
 | box (x:SX)
 | kO (x:SX)
 | alloc (z:List V)
 | build (z:List V) (parts:List (Nat × Nat × SX))
 | bO (len sz:Nat) (z:List V) (parts:List (Nat × SX))
 | load (sz:Option Nat) (a:SX)
 | CA (sz:Option Nat) (a:SX)
 | store (sz:Nat) (a x:SX)
 | Et (x:SX)
 | addr (off:Nat) (x:SX)
 | field (off:Nat) (sz:Option Nat) (x:SX)
 | idx (sz:Nat) (x i:SX)
 | slice (sz:Nat) (x:SX) (lo hi:Option SX)
 | make (sz bytes:Nat) (z:List V) (l c:SX)
 | qW
 | tQ (f:FuncId) (first cap:List SX)
 | ext (i:Nat) (x:SX)
 | len (x:SX)
 | rN (x:SX)
 | app (sz bytes:Nat) (x y:SX)
 | arith (op:BinOp) (x y:SX)
 | sh (left:Bool) (x y:SX)
 | AH (op:BinOp) (x y:SX)
 | jv (x i:SX)
 | not (x:SX)
 | nil (eq:Bool) (k:Nat) (x y:SX)
 | beq (eq:Bool) (x y:SX)
 | mm (mx:Bool) (x y:SX)
 | conv (k:IntKind) (x:SX)
 | GH (x:SX)
 | hX (x:SX)
 | old (op:Op) (ty:TypeId)
 deriving Inhabited
def oM:Option Nat->List V->Nat->Option V
 | some n,cs,off=>if off+n<=cs.length then some (.agg ((cs.drop off).take n)) else none
 | none,cs,off=>if off<cs.length then some (cs.getD off .any) else none
def zi (sz:Option Nat) (a:V) (H:View):Out:=match a with
 | .ptr id i j=>match H id with
  | .arr _ es=>if i<es.length then (oM sz (es.getD i []) j).map λv=>(v,.none,[id]) else none
  | _=>none
 | .aP e j=>(oM sz e j).map λv=>(v,.none,[])
 | _=>none
def FZ (sz:Nat) (a v:V) (H:View):Out:=match a with
 | .ptr id i j=>match H id with
  | .arr esz es =>
   if i<es.length/\v.cells.length=sz/\j+v.cells.length<=esz/\v.cells.all aL=true
   then some (.any,.fJ id (.arr esz (es.set i (gm (es.getD i []) j v.cells))),[id]) else none
  | _=>none
 | _=>none
def ou (z:List V) (parts:List (Nat × Nat × V)):Option (List V):=match parts with
 | []=>some z
 | (off,size,x)::r=>if x.cells.length=size/\off+size<=z.length/\x.cells.all aL=true then ou (gm z off x.cells) r else none
def Ct (len sz:Nat) (z:List V) (parts:List (Nat × V)) (n:Nat):Out:=
 match mZ sz (List.replicate len z) parts with
 | some es=>some (.sl n 0 len sz,.new (.arr sz es),[])
 | none=>none
def CF (off:Nat) (x:V):Out:=match x with
 | .ptr id i j=>some (.ptr id i (j+off),.none,[])
 | .aP e j=>some (.aP e (j+off),.none,[])
 | _=>none
def GF (sz:Nat) (x i:V):Out:=match asNat i with
 | none=>none
 | some q=>match x with
  | .sl id off len esz=>if q<len/\esz=sz then some (.ptr id (off+q) 0,.none,[]) else none
  | .aZ es=>if q<es.length/\(es.getD q []).length=sz then some (.aP (es.getD q []) 0,.none,[]) else none
  | _=>none
def c8 (sz:Nat) (x:V) (lo hi:Option V):Out:=match x with
 | .sl id off len esz=>match bound 0 lo,bound len hi with
  | some l,some h=>if l<=h/\h<=len/\esz=sz then some (.sl id (off+l) (h-l) esz,.none,[]) else none
  | _,_=>none
 | .aZ es=>match bound 0 lo,bound es.length hi with
  | some l,some h=>if l<=h/\h<=es.length/\(es.all λe=>e.length==sz)=true then some (.aZ ((es.drop l).take (h-l)),.none,[]) else none
  | _,_=>none
 | .emp k=>match bound 0 lo,bound 0 hi with
  | some 0,some 0=>some (.emp k,.none,[])
  | _,_=>none
 | _=>none
def F2 (sz bytes:Nat) (z:List V) (len cap:V) (n:Nat):Out:=match asNat len,asNat cap with
 | some l,some c =>
  if l<=c/\c<aF/\bytes*c<aF then
   (if c=0 then some (.emp 2,.none,[]) else some (.sl n 0 l sz,.new (.arr sz (List.replicate l z)),[]))
  else none
 | _,_=>none
def Le (sz bytes:Nat) (s x:V) (H:View) (n:Nat):Out:=match bM H x with
 | some (xs,rd) =>
  if xs.isEmpty then (match s with
   | .emp _ | .ez | .aZ _ | .sl _ _ _ _=>some (s,.none,[])
   | _=>none)
  else if ¬ ((xs.all λe=>e.length==sz&&e.all aL)=true) then none
  else match s with
   | .emp _=>if xs.length*bytes<aF/\xs.length<aF then some (.sl n 0 xs.length sz,.new (.arr sz xs),rd) else none
   | .sl id off len esz=>match H id with
    | .arr _ es =>
     if off+len<=es.length/\esz=sz/\(len+xs.length)*bytes<aF/\len+xs.length<aF
     then some (.sl n 0 (len+xs.length) esz,.eR id (.arr esz ((es.drop off).take len++xs)),id::rd) else none
    | _=>none
   | _=>none
 | none=>none
def ja (op:BinOp) (k:IntKind) (a b:Int):Option Value:=match op with
 | .add=>some (.int k (k.wrap (a+b)))
 | .sub=>some (.int k (k.wrap (a-b)))
 | .mul=>some (.int k (k.wrap (a*b)))
 | .quo=>if b=0 then none else some (.int k (k.wrap (a.tdiv b)))
 | .rem=>if b=0 then none else some (.int k (a.tmod b))
 | .eql=>some (.bool (a==b))
 | .neq=>some (.bool (a != b))
 | .lss=>some (.bool (a<b))
 | .leq=>some (.bool (a<=b))
 | .gtr=>some (.bool (a>b))
 | .geq=>some (.bool (a≥b))
 | .or=>some (.int k (k.wrap (BitVec.ofInt k.bits a ||| BitVec.ofInt k.bits b).toNat))
 | .and=>some (.int k (k.wrap (BitVec.ofInt k.bits a &&& BitVec.ofInt k.bits b).toNat))
 | .xor=>some (.int k (k.wrap (BitVec.ofInt k.bits a ^^^ BitVec.ofInt k.bits b).toNat))
 | .andNot=>some (.int k (k.wrap (BitVec.ofInt k.bits a &&& ~~~(BitVec.ofInt k.bits b)).toNat))
 | _=>none
def BS (op:BinOp) (x y:V):Out:=match x,y with
 | .val (.int k a),.val (.int k' b)=>if k=k' then (ja op k a b).map λv=>(.val v,.none,[]) else none
 | _,_=>none
def PO (left:Bool) (k:IntKind) (a b:Int):Int:=if left then k.wrap (a*2 ^ (min b.toNat k.bits)) else a.fdiv (2 ^ (min b.toNat k.bits))
def Tt (left:Bool) (x y:V):Out:=match x,y with
 | .val (.int k a),.val (.int _ b)=>if b<0 then none else some (.val (.int k (PO left k a b)),.none,[])
 | _,_=>none
def Vl:BinOp->Option Bool
 | .shl=>some true
 | .shr=>some false
 | _=>none
def kd (a b:ByteArray):Bool:=a.data.toList==b.data.toList
def DO (op:BinOp) (x y:V):Out:=match x,y with
 | .val (.string a),.val (.string b)=>match op with
  | .eql=>some (.val (.bool (kd a b)),.none,[])
  | .neq=>some (.val (.bool (!kd a b)),.none,[])
  | _=>none
 | _,_=>none
def EN (x i:V):Out:=match x,asNat i with
 | .val (.string s),some q=>match s.data.toList[q]? with
  | some b=>some (.val (.int .u8 b.toNat),.none,[])
  | none=>none
 | _,_=>none
def DR:Option Bool->Option Bool->Option Bool
 | some true,some b=>some b
 | some b,some true=>some b
 | _,_=>none
theorem M0 {P:Program} {t:TypeId} {k:Nat} (h:kG P t=some k) (x y:V):HE P t x y=DR (fN k x) (fN k y):=by
 simp only[HE,h]
 unfold DR
 split<;>simp_all
def oper (op:Op) (ty:TypeId):Oper:=⟨none,op,ty,"",#[],none⟩
theorem UG (P:Program) (o:Oper) (T:Env) (H:View) (n:Nat):cL P (oper o.op o.type) T H n=cL P o T H n:=by
 cases o;rfl
def sI (P:Program) (s:SI) (T:Env) (H:View) (n:Nat):Out:=match s with
 | .eR x=>some (x.at T,.none,[])
 | .pick c a b=>match c.at T with
  | .val (.bool t)=>some (if t then a.at T else b.at T,.none,[])
  | _=>none
 | .box x=>nP (x.at T).cells n
 | .kO x=>if (x.at T).cells.all aL=true then some (.aP (x.at T).cells 0,.none,[]) else none
 | .alloc z=>nP z n
 | .build z parts=>(ou z (parts.map λ(a,b,x)=>(a,b,x.at T))).map λcs=>(.agg cs,.none,[])
 | .bO len sz z parts=>Ct len sz z (parts.map λ(i,x)=>(i,x.at T)) n
 | .load sz a=>zi sz (a.at T) H
 | .CA sz a=>match a.at T with
  | .aP e j=>(oM sz e j).map λv=>(v,.none,[])
  | _=>none
 | .store sz a x=>FZ sz (a.at T) (x.at T) H
 | .Et x=>match x.at T with
  | .ptr id i j=>some (.ptr id i j,.none,[])
  | .aP e j=>some (.aP e j,.none,[])
  | .fn f a b=>some (.fn f a b,.none,[])
  | _=>none
 | .addr off x=>CF off (x.at T)
 | .field off sz x=>match x.at T with
  | .agg cs=>(oM sz cs off).map λv=>(v,.none,[])
  | _=>none
 | .idx sz x i=>GF sz (x.at T) (i.at T)
 | .slice sz x lo hi=>c8 sz (x.at T) (lo.map (SX.at T)) (hi.map (SX.at T))
 | .make sz bytes z l c=>F2 sz bytes z (l.at T) (c.at T) n
 | .qW=>some (.mp n,.new (.map [] 0),[])
 | .tQ f first cap=>some (.fn f (first.map (SX.at T)) (cap.map (SX.at T)),.none,[])
 | .ext i x=>match x.at T with
  | .bb vs=>if i<vs.length then some (vs.getD i .any,.none,[]) else none
  | _=>none
 | .len x=>(cE (x.at T)).map λn=>(cM n,.none,[])
 | .rN x=>match x.at T with
  | .val (.string s)=>some (cM s.size,.none,[])
  | _=>none
 | .app sz bytes x y=>Le sz bytes (x.at T) (y.at T) H n
 | .arith op x y=>BS op (x.at T) (y.at T)
 | .sh l x y=>Tt l (x.at T) (y.at T)
 | .AH op x y=>DO op (x.at T) (y.at T)
 | .jv x i=>EN (x.at T) (i.at T)
 | .not x=>match x.at T with
  | .val (.bool t)=>some (.val (.bool (!t)),.none,[])
  | _=>none
 | .nil eq k x y=>match DR (fN k (x.at T)) (fN k (y.at T)) with
  | some b=>some (.val (.bool (if eq then b else !b)),.none,[])
  | none=>none
 | .beq eq x y=>match x.at T,y.at T with
  | .val (.bool a),.val (.bool b)=>some (.val (.bool (if eq then a==b else a != b)),.none,[])
  | _,_=>none
 | .mm mx x y=>match x.at T,y.at T with
  | .val (.int k a),.val (.int _ b)=>some (.val (.int k (if mx then (if b>a then b else a) else (if b<a then b else a))),.none,[])
  | _,_=>none
 | .conv k x=>match x.at T with
  | .val (.int _ a)=>some (.val (.int k (k.wrap a)),.none,[])
  | _=>none
 | .GH x=>match x.at T with
  | .aZ es=>(mC es).map λl=>(.val (.string ⟨l.toArray⟩),.none,[])
  | _=>none
 | .hX x=>match x.at T with
  | .val (.string s)=>some (.aZ (iy s),.none,[])
  | _=>none
 | .old op ty=>cL P (oper op ty) T H n
def Ey (P:Program) (t:TypeId):Option (Option Nat):=match P.info? t,uW P t with
 | some i,some true=>some (some i.size)
 | some _,some false=>some none
 | _,_=>none
theorem zg {P:Program} {t:TypeId} {k:Option Nat} (h:Ey P t=some k) (cs:List V) (j:Nat):sr P t cs j=oM k cs j:=by
 unfold Ey at h
 split at h
 .rename_i i h1 a
  simp at h;subst h;simp[sr,h1,a,oM]
 .rename_i i h1 a
  simp at h;subst h;simp[sr,h1,a,oM]
 .simp at h
def pR (P:Program) (t:TypeId):Option (Nat × Nat × List V):=match de P t with
 | some e=>match P.info? e,zeroCells P e with
  | some ti,some z=>if z.length=ti.size/\z.all aL=true/\ti.size≠0 then some (ti.size,ti.bytes,z) else none
  | _,_=>none
 | none=>none
theorem lz {P:Program} {t:TypeId} {sz a:Nat} {z:List V} (h:pR P t=some (sz,a,z)):
  ∃e ti,de P t=some e/\P.underlying t=some (.slice e)/\P.info? e=some ti/\zeroCells P e=some z/\z.length=ti.size/\z.all aL=true/\ti.size≠0/\sz=ti.size/\a=ti.bytes:=by
 unfold pR at h
 split at h
 .rename_i e he
  split at h
  .rename_i ti f h1 c
   split at h
   .rename_i b
    simp at h
    obtain⟨rfl,rfl,rfl⟩:=h
    have hu:P.underlying t=some (.slice e):=by
     unfold de at he;split at he
     .rename_i d;simp at he;subst he;exact d
     .simp at he
    exact⟨e,ti,he,hu,h1,c,b.1,b.2.1,b.2.2,rfl,rfl⟩
   .simp at h
  .simp at h
 .simp at h
def yJ (P:Program) (t:TypeId):List (Nat × Operand)->Option (List (Nat × Nat × SX))
 | []=>some []
 | (i,x)::r=>match placeOf P t i,yJ P t r with
  | some (a,b),some l=>some ((a,b,SX.of x)::l)
  | _,_=>none
def comp (P:Program) (o:Oper):SI:=match o.op with
 | .move x | .assign x=>.eR (SX.of x)
 | .pick c a b=>.pick (SX.of c) (SX.of a) (SX.of b)
 | .alloc e=>match zeroCells P e with
  | some z=>.alloc z
  | none=>.old o.op o.type
 | .box _ x=>.box (SX.of x)
 | .load t a=>match Ey P t with
  | some k=>.load k (SX.of a)
  | none=>.old o.op o.type
 | .store t a v=>match P.info? t with
  | some _=>.store (P.cellsOf t) (SX.of a) (SX.of v)
  | none=>.old o.op o.type
 | .nilCheck x=>.Et (SX.of x)
 | .fieldAddr t x f=>match r6 P t f with
  | some (off,s,_)=>if s=0 then .old o.op o.type else .addr off (SX.of x)
  | none=>.old o.op o.type
 | .field t x f=>match r6 P t f with
  | some (off,_,ft)=>match Ey P ft with
   | some k=>.field off k (SX.of x)
   | none=>.old o.op o.type
  | none=>.old o.op o.type
 | .indexAddr t x i=>match pR P t with
  | some (sz,_,_)=>.idx sz (SX.of x) (SX.of i)
  | none=>.old o.op o.type
 | .slice t x lo hi none=>match pR P t with
  | some (sz,_,_)=>.slice sz (SX.of x) (lo.map SX.of) (hi.map SX.of)
  | none=>.old o.op o.type
 | .makeSlice t l c=>match pR P t with
  | some (sz,b,z)=>.make sz b z (SX.of l) (SX.of c)
  | none=>.old o.op o.type
 | .makeMap _ none=>.qW
 | .makeFunc (.func f) first cap=>.tQ f (first.toList.map SX.of) (cap.toList.map SX.of)
 | .extract t i=>.ext i (SX.of t)
 | .build t parts=>match P.underlying t,zeroV P t with
  | some (.struct _),some (.agg z)=>if oC P t=true then
    (match yJ P t parts.toList with
    | some ps=>.build z ps
    | none=>.old o.op o.type) else .old o.op o.type
  | _,_=>.old o.op o.type
 | .buildSlice t len parts=>match pR P t with
  | some (sz,_,z)=>if len=0/\parts.toList.isEmpty=true then .eR (.val (.emp 2)) else if len*sz<=2 ^ 24/\len≠0 then .bO len sz z (parts.toList.map λ(i,x)=>(i,SX.of x)) else .old o.op o.type
  | none=>.old o.op o.type
 | .call { callee:=.builtin b,args,argTypes }=>match b,args.toList with
  | .len,[x]=>if 1<=argTypes.size then (match P.underlying (argTypes.getD 0 0) with
   | some (.slice _)=>.len (SX.of x)
   | some .string=>.rN (SX.of x)
   | _=>.old o.op o.type) else .old o.op o.type
  | .append,[s,x]=>if 2<=argTypes.size/\qQ P (argTypes.getD 1 0)=true then (match pR P (argTypes.getD 0 0) with
   | some (sz,b,_)=>.app sz b (SX.of s) (SX.of x)
   | none=>.old o.op o.type) else .old o.op o.type
  | .min,[x,y]=>.mm false (SX.of x) (SX.of y)
  | .max,[x,y]=>.mm true (SX.of x) (SX.of y)
  | _,_=>.old o.op o.type
 | .convert s d x=>match P.underlying s,P.underlying d with
  | some (.int _),some (.int k)=>.conv k (SX.of x)
  | _,_=>.old o.op o.type
 | .binOp op t x y _=>match kG P t with
  | some k=>match op with
   | .eql=>.nil true k (SX.of x) (SX.of y)
   | .neq=>.nil false k (SX.of x) (SX.of y)
   | _=>.old o.op o.type
  | none=>match P.underlying t with
   | some (.int _)=>match Vl op with
    | some l=>.sh l (SX.of x) (SX.of y)
    | none=>.arith op (SX.of x) (SX.of y)
   | some .string=>.AH op (SX.of x) (SX.of y)
   | some .bool=>match op with
    | .eql=>.beq true (SX.of x) (SX.of y)
    | .neq=>.beq false (SX.of x) (SX.of y)
    | _=>.old o.op o.type
   | _=>.old o.op o.type
 | .unOp .not _ x=>.not (SX.of x)
 | .index t x i=>match P.underlying t with
  | some .string=>.jv (SX.of x) (SX.of i)
  | _=>.old o.op o.type
 | _=>.old o.op o.type
theorem Is {P:Program} {t:TypeId} {T:Env}:∀(parts:List (Nat × Operand)) (c:List (Nat × Nat × SX)) (z:List V),yJ P t parts=some c ->
  zj (placeOf P t) z (parts.map λ(i,x)=>(i,ev T x))=ou z (c.map λ(a,b,x)=>(a,b,x.at T))
 | [],c,z,h=>by simp[yJ] at h;subst h;rfl
 | (i,x)::r,c,z,h=>by
  simp only[yJ] at h
  split at h
  .rename_i a b l h1 d
   simp at h;subst h
   simp only[aba,zj,h1,ou,SX.dh]
   split
   .exact Is r l _ d
   .rfl
  .simp at h
theorem ME {P:Program} {o:Oper} {T:Env} {op:BinOp} {t u:TypeId} {x y:Operand} {k:IntKind} {a b:Int} {r:Value} (c:o.op=.binOp op t x y u) (d:ev T x=.val (.int k a)) (e:ev T y=.val (.int k b)) (h:ja op k a b=some r):
  eA P o T=some (.val r,.none,[]):=by
 unfold eA
 simp only[c,Op.operands]
 simp only[dz]
 cases op<;>simp only[ja,aaK,reduceCtorEq] at h
 all_goals first
  | (
   split at h
   .simp at h
   .rename_i f
    simp at h;subst h
    simp[execOp,c,d,e,eqGuard,binOp,Op.intDiv,f,plain]
    try rfl)
  | (subst h;simp[execOp,c,d,e,eqGuard,binOp,Op.intArith,Op.intCmp,Op.intBits,plain];try rfl)
theorem V1 {P:Program} {o:Oper} {T:Env} {op:BinOp} {t u:TypeId} {x y:Operand} {l:Bool} {v:V} {eff:bo} {rd:List Nat} (c:o.op=.binOp op t x y u) (d:Vl op=some l) (h:Tt l (ev T x) (ev T y)=some (v,eff,rd)):
  eA P o T=some (v,eff,rd):=by
 unfold Tt at h
 split at h
 .rename_i k a i b e f
  split at h
  .simp at h
  .rename_i g
   simp only[aaK,aaN] at h
   obtain⟨rfl,rfl,rfl⟩:=h
   unfold eA
   simp only[c,Op.operands]
   simp only[dz]
   cases op<;>simp only[Vl,aaK,reduceCtorEq] at d
   all_goals
    subst d
    simp[execOp,c,e,f,eqGuard,binOp,Op.shift,g,plain,PO]
    try rfl
 .simp at h
theorem QT {P:Program} {o:Oper} {T:Env} {op:BinOp} {t u:TypeId} {x y:Operand} {v:V} {eff:bo} {rd:List Nat} (c:o.op=.binOp op t x y u) (h:DO op (ev T x) (ev T y)=some (v,eff,rd)):
  eA P o T=some (v,eff,rd):=by
 unfold DO at h
 split at h
 .rename_i a b d e
  unfold eA
  simp only[c,Op.operands,dz]
  have he:(a.toList==b.toList)=kd a b:=by simp[kd,ByteArray.toList_eq]
  split at h
  .simp at h;obtain⟨rfl,rfl,rfl⟩:=h
   simp[execOp,c,d,e,eqGuard,binOp,Op.stringOp,plain,<-he];rfl
  .simp at h;obtain⟨rfl,rfl,rfl⟩:=h
   simp[execOp,c,d,e,eqGuard,binOp,Op.stringOp,plain,<-he];rfl
  .simp at h
 .simp at h
theorem Qf {P:Program} {o:Oper} {T:Env} {t:TypeId} {x i:Operand} {v:V} {eff:bo} {rd:List Nat} (e:o.op=.index t x i) (hu:P.underlying t=some .string) (h:EN (ev T x) (ev T i)=some (v,eff,rd)):
  eA P o T=some (v,eff,rd):=by
 unfold EN at h
 split at h
 .rename_i s q f a
  split at h
  .rename_i b m
   simp at h;obtain⟨rfl,rfl,rfl⟩:=h
   unfold asNat at a
   split at a
   .rename_i k z g
    split at a
    .rename_i j
     simp at a;subst a
     have l:s[z.toNat]?=some b:=by
      obtain⟨c,rfl⟩:=aaO.1 m
      have d:z.toNat<s.size:=by rw[bsize] at c;exact c
      rw[getElem?_pos s z.toNat d]
      rfl
     unfold eA
     simp only[e,Op.operands,dz]
     simp[execOp,e,f,g,Instr.index,asIntOf,underlying,program,j,plain]
     simp[bk,hu,l,bind,Sem.bind,pure]
     rfl
    .simp at a
   .simp at a
  .simp at h
 .simp at h
theorem TY {P:Program} {o:Oper} {T:Env} {t:TypeId} {x:Operand} {b:Bool} (a:o.op=.unOp .not t x) (c:ev T x=.val (.bool b)):
  eA P o T=some (.val (.bool (!b)),.none,[]):=by
 unfold eA
 simp only[a,Op.operands,dz]
 simp[execOp,a,c,Op.unary,plain]
 rfl
theorem kh {α β:Type} (P:Program) (s:Sem α) (f:α->β):bk P (Functor.map f s)=(bk P s).map f:=by
 show bk P (s >>= λa=>pure (f a))=_
 rw[aY]
 cases bk P s<;>rfl
theorem dD {P:Program} {t:TypeId} {d:TypeDesc} (h:P.underlying t=some d):bk P (underlying t)=some d:=by
 simp only[underlying,program,aY]
 simp[bk,h]
 rfl
theorem Au {P:Program} {t:TypeId} {a b:Bool} (hu:P.underlying t=some .bool):bk P (Op.equal t (.bool a) (.bool b))=some (a==b):=by
 rw[k7]
 generalize 9999=d
 simp only[Op.equalIn,aY,dD hu,abd]
 rfl
theorem Iy {P:Program} {o:Oper} {T:Env} {op:BinOp} {t u:TypeId} {x y:Operand} {a b:Bool} {r:Bool} (c:o.op=.binOp op t x y u) (hu:P.underlying t=some .bool) (d:ev T x=.val (.bool a)) (e:ev T y=.val (.bool b))
  (hr:(op=.eql/\r=(a==b))∨(op=.neq/\r=(a != b))):
  eA P o T=some (.val (.bool r),.none,[]):=by
 unfold eA
 simp only[c,Op.operands,dz]
 rcases hr with ⟨rfl,rfl⟩ | ⟨rfl,rfl⟩
 .simp[execOp,c,d,e,eqGuard,binOp,kh,Au hu,plain]
  try simp[bk,pure,plain]
 .simp[execOp,c,d,e,eqGuard,binOp,kh,Au hu,plain]
  try simp[bne]
theorem PQ {P:Program} {o:Oper} {T:Env} {s d:TypeId} {x:Operand} {f k b:IntKind} {a:Int} (c:o.op=.convert s d x) (g:P.underlying s=some (.int f)) (h:P.underlying d=some (.int k)) (e:ev T x=.val (.int b a)):
  eA P o T=some (.val (.int k (k.wrap a)),.none,[]):=by
 unfold eA
 simp only[c,Op.operands,dz]
 have:bk P (convert s d (.int b a))=some (.int k (k.wrap a)):=by
  simp only[convert,aY,dD g,dD h,abd]
  rfl
 simp[execOp,c,e,kh,this,plain]
theorem LM {P:Program} {o:Oper} {T:Env} {bi:Builtin} {x y:Operand} {k d:IntKind} {a b:Int} {args:Array Operand} {c:Array TypeId} {r:Int} (e:o.op=.call { callee:=.builtin bi,args:=args,argTypes:=c }) (h:args.toList=[x,y])
  (f:ev T x=.val (.int k a)) (g:ev T y=.val (.int d b)) (hr:(bi=.max/\r=if b>a then b else a)∨(bi=.min/\r=if b<a then b else a)):
  eA P o T=some (.val (.int k r),.none,[]):=by
 obtain rfl:args = #[x,y]:=by rw[<-Array.toArray_toList (xs:=args),h]
 unfold eA
 rcases hr with ⟨rfl,rfl⟩ | ⟨rfl,rfl⟩
 .have:bk P (Builtin.max_ c o.type #[.int k a,.int d b])=some (.int k (if b>a then b else a)):=rfl
  simp[e,Op.operands,Call.operands,f,g,dz,execOp,resolve,invoke,builtin,kh,this,plain]
 .have:bk P (Builtin.min_ c o.type #[.int k a,.int d b])=some (.int k (if b<a then b else a)):=rfl
  simp[e,Op.operands,Call.operands,f,g,dz,execOp,resolve,invoke,builtin,kh,this,plain]
theorem Ex (l:List Operand) (T:Env):(l.map SX.of).map (SX.at T)=l.map (ev T):=by
 rw[List.map_map];congr 1;funext x;exact SX.dh T x
theorem XO (l:Option Operand) (T:Env):(l.map SX.of).map (SX.at T)=l.map (ev T):=by
 cases l<;>simp[SX.dh]
theorem Xj (l:List (Nat × Operand)) (T:Env):(l.map λ(i,x)=>(i,SX.of x)).map (λ(i,x)=>(i,SX.at T x))=l.map λ(i,x)=>(i,ev T x):=by
 rw[List.map_map];congr 1;funext x;simp[SX.dh]
theorem OA {P:Program} {o:Oper} {T:Env} {H:View} {n:Nat} {v:V} {eff:bo} {rd:List Nat} (h:sI P (comp P o) T H n=some (v,eff,rd)):
  cL P o T H n=some (v,eff,rd):=by
 have old:∀ {s:SI},s=.old o.op o.type->sI P s T H n=some (v,eff,rd)->cL P o T H n=some (v,eff,rd):=λe h=>by rw[e] at h;simp only[sI,UG] at h;exact h
 unfold comp at h
 split at h
 .rename_i x g;simp only[sI,SX.dh] at h;simp only[cL,g];exact h
 .rename_i x g;simp only[sI,SX.dh] at h;simp only[cL,g];exact h
 .rename_i c a b g;simp only[sI,SX.dh] at h;simp only[cL,g];exact h
 .rename_i e g
  split at h
  .rename_i z R;simp only[sI] at h;simp only[cL,g,R];exact h
  .exact old rfl h
 .rename_i t x g;simp only[sI,SX.dh] at h;simp only[cL,g];exact h
 .rename_i t a g
  split at h
  .rename_i k hk
   simp only[sI,SX.dh,zi] at h
   simp only[cL,g,oG,zg hk]
   exact h
  .exact old rfl h
 .rename_i t a x g
  split at h
  .rename_i ti S
   simp only[sI,SX.dh,FZ] at h
   simp only[cL,g,s8,S,Option.isSome_some,and_true]
   exact h
  .exact old rfl h
 .rename_i x g;simp only[sI,SX.dh] at h;simp only[cL,g];exact h
 .rename_i t x f g
  split at h
  .rename_i off s ft I
   split at h
   .exact old rfl h
   .rename_i N
    simp only[sI,SX.dh,CF] at h
    simp only[cL,g,mT,I,N,if_false]
    exact h
  .exact old rfl h
 .rename_i t x f g
  split at h
  .rename_i off s ft I
   split at h
   .rename_i k hk
    simp only[sI,SX.dh] at h
    simp only[cL,g,yw,I]
    split at h
    .rename_i cs U;simp only[U,zg hk];exact h
    .simp at h
   .exact old rfl h
  .exact old rfl h
 .rename_i t x i g
  split at h
  .rename_i sz b z hk
   obtain⟨e,ti,h1,J,w,D,K,O,L,rfl,rfl⟩:=lz hk
   simp only[sI,SX.dh,GF] at h
   simp only[cL,g,nz,J,w]
   exact h
  .exact old rfl h
 .rename_i t x lo hi g
  split at h
  .rename_i sz b z hk
   obtain⟨e,ti,h1,J,w,D,K,O,L,rfl,rfl⟩:=lz hk
   simp only[sI,SX.dh,XO] at h
   simp only[cL,g]
   have q:vA P t (ev T x) (lo.map (ev T)) (hi.map (ev T)) none=some (v,eff,rd):=by
    simp only[vA,h1,w]
    unfold c8 at h
    split at h
    .rename_i p;rw[p];exact h
    .rename_i p;rw[p];exact h
    .rename_i p;rw[p];exact h
    .simp at h
   unfold c8 at h
   split at h
   .rename_i p;rw[p] at q ⊢;exact q
   .rename_i p;rw[p] at q ⊢;exact q
   .rename_i p;rw[p] at q ⊢;exact q
   .simp at h
  .exact old rfl h
 .rename_i t l c g
  split at h
  .rename_i sz b z hk
   obtain⟨e,ti,h1,J,w,D,K,O,L,rfl,rfl⟩:=lz hk
   simp only[sI,SX.dh,F2] at h
   simp only[cL,g,mX,h1,w]
   split at h
   .rename_i l' c' hl G
    simp only[hl,G,L,if_false,D,K,O,and_self,if_true]
    exact h
   .simp at h
  .exact old rfl h
 .rename_i t g;simp only[sI] at h;simp only[cL,g];exact h
 .rename_i f first cap g;simp only[sI,Ex] at h;simp only[cL,g];exact h
 .rename_i t i g;simp only[sI,SX.dh] at h;simp only[cL,g];exact h
 .rename_i t parts g
  split at h
  .rename_i fs z h1 J
   split at h
   .rename_i w
    split at h
    .rename_i ps D
     simp only[sI] at h
     simp only[cL,g,x6,h1,J,w,if_true]
     have:=Is (T:=T) parts.toList ps z D
     rw[this]
     exact h
    .exact old rfl h
   .exact old rfl h
  .exact old rfl h
 .rename_i t len parts g
  split at h
  .rename_i sz b z hk
   obtain⟨e,ti,h1,J,w,D,K,O,L,rfl,rfl⟩:=lz hk
   split at h
   .rename_i G
    obtain⟨rfl,G⟩:=G
    simp only[sI,SX.at] at h
    simp only[cL,g,jh,h1,w]
    rw[List.isEmpty_iff] at G
    rw[aaI (by omega),aaL trivial,G]
    exact h
   split at h
   .rename_i G
    simp only[sI,Xj,Ct] at h
    simp only[cL,g,jh,h1,w]
    rw[aaI (by omega),aaI G.2,aaI L]
    simp only[D,K,O,and_self,if_true]
    exact h
   .exact old rfl h
  .exact old rfl h
 .rename_i b args ab g
  split at h
  .rename_i x j
   split at h
   .rename_i E
    simp only[cL,g,j,E,if_true,xI]
    split at h
    .rename_i e hu
     simp only[sI,SX.dh] at h
     simp only[hu];exact h
    .rename_i hu
     simp only[sI,SX.dh] at h
     simp only[hu]
     exact h
    .have:=old rfl h
     simpa only [cL,g,j,E,if_true,xI] using this
   .exact old rfl h
  .rename_i s x j
   split at h
   .rename_i E
    split at h
    .rename_i sz b z hk
     obtain⟨e,ti,h1,J,w,D,K,O,L,rfl,rfl⟩:=lz hk
     simp only[sI,SX.dh] at h
     simp only[cL,g,j]
     rw[aaL E]
     unfold Le at h
     split at h
     .rename_i xs ae W
      simp only[pC,h1,W,w]
      have R:(zeroCells P e).map List.length=some ti.size:=by rw[D];simp[K]
      split at h
      .rename_i A;rw[aaL A];exact h
      .rename_i A
       rw[aaI A]
       split at h
       .simp at h
       .rename_i Q
        rw[aaI (by
         rintro (p | p | p)
         .exact L p
         .exact p R
         .exact Q p)]
        exact h
     .simp at h
    .exact old rfl h
   .exact old rfl h
  .rename_i x y j
   simp only[sI,SX.dh] at h
   simp only[cL,g]
   split at h
   .rename_i k a X b B F
    have:=LM (P:=P) (T:=T) g j B F (.inr ⟨rfl,rfl⟩)
    rw[this];exact h
   .simp at h
  .rename_i x y j
   simp only[sI,SX.dh] at h
   simp only[cL,g]
   split at h
   .rename_i k a X b B F
    have:=LM (P:=P) (T:=T) g j B F (.inl ⟨rfl,rfl⟩)
    rw[this];exact h
   .simp at h
  .exact old rfl h
 .rename_i s d x g
  split at h
  .rename_i k0 k N Z
   simp only[sI,SX.dh] at h
   simp only[cL,g]
   split at h
   .rename_i X a B
    have M:¬ (mw P s d=true):=by simp[mw,N,Z]
    rw[aaI M,PQ g N Z B];exact h
   .simp at h
  .exact old rfl h
 .rename_i op t x y u g
  split at h
  .rename_i k hk
   have C:(kG P t).isSome=true:=by rw[hk];rfl
   split at h
   .simp only[sI,SX.dh] at h
    simp only[cL,g]
    rw[aaL C,M0 hk]
    split at h
    .rename_i b M;rw[M];simpa using h
    .simp at h
   .simp only[sI,SX.dh] at h
    simp only[cL,g]
    rw[aaL C,M0 hk]
    split at h
    .rename_i b M;rw[M];simpa using h
    .simp at h
   .exact old rfl h
  .rename_i hk
   have m:¬ ((kG P t).isSome=true):=by rw[hk];simp
   split at h
   .split at h
    .rename_i l N
     simp only[sI,SX.dh] at h
     simp only[cL,g]
     rw[aaI m]
     exact V1 g N h
    .simp only[sI,SX.dh,BS] at h
     simp only[cL,g]
     split at h
     .rename_i k a X b B F
      split at h
      .rename_i Y
       subst Y
       simp only[aaT] at h
       obtain⟨r,hr,h⟩:=h
       rw[aaI m,ME g B F hr];exact abQ some h
      .simp at h
     .simp at h
   .simp only[sI,SX.dh] at h
    simp only[cL,g]
    rw[aaI m]
    exact QT g h
   .rename_i hu
    split at h
    .simp only[sI,SX.dh] at h
     simp only[cL,g]
     split at h
     .rename_i a b B F
      rw[aaI m,Iy g hu B F (.inl ⟨rfl,rfl⟩)];simpa using h
     .simp at h
    .simp only[sI,SX.dh] at h
     simp only[cL,g]
     split at h
     .rename_i a b B F
      rw[aaI m,Iy g hu B F (.inr ⟨rfl,rfl⟩)];simpa using h
     .simp at h
    .exact old rfl h
   .exact old rfl h
 .rename_i t x g
  simp only[sI,SX.dh] at h
  simp only[cL,g]
  split at h
  .rename_i b M;rw[TY g M];exact h
  .simp at h
 .rename_i t x i g
  split at h
  .rename_i hu
   simp only[sI,SX.dh] at h
   simp only[cL,g]
   exact Qf g hu h
  .exact old rfl h
 .exact old rfl h
theorem U9 {P:Program} {sz:Option Nat} {a:SX} {T:Env} {H:View} {n:Nat} {v:V} {eff:bo} {rd:List Nat} (h:sI P (.CA sz a) T H n=some (v,eff,rd)):sI P (.load sz a) T H n=some (v,eff,rd):=by
 simp only[sI] at h
 simp only[sI,zi]
 split at h
 .rename_i e j b;rw[b];exact h
 .simp at h
def toStr (P:Program) (s d:TypeId):Bool:=match P.underlying s,P.underlying d with
 | some (.slice e),some .string=>(match P.underlying e with | some (.int .u8)=>true | _=>false)
 | _,_=>false
def yY (P:Program) (s d:TypeId):Bool:=match P.underlying s,P.underlying d with
 | some .string,some (.slice e)=>(match P.underlying e with | some (.int .u8)=>true | _=>false)
 | _,_=>false
theorem Ua {P:Program} {s d:TypeId} (h:toStr P s d=true):∃e,P.underlying s=some (.slice e)/\P.underlying d=some .string/\P.underlying e=some (.int .u8):=by
 unfold toStr at h
 split at h
 .rename_i e h1 a
  split at h
  .rename_i b;exact⟨e,h1,a,b⟩
  .simp at h
 .simp at h
theorem C4 {P:Program} {s d:TypeId} (h:yY P s d=true):∃e,P.underlying s=some .string/\P.underlying d=some (.slice e)/\P.underlying e=some (.int .u8):=by
 unfold yY at h
 split at h
 .rename_i e h1 a
  split at h
  .rename_i b;exact⟨e,h1,a,b⟩
  .simp at h
 .simp at h
theorem Xd {P:Program} {s d ty:TypeId} {x:Operand} {T:Env} {H:View} {n:Nat} {v:V} {eff:bo} {rd:List Nat} (a:toStr P s d=true) (h:sI P (.GH (SX.of x)) T H n=some (v,eff,rd)):sI P (.old (.convert s d x) ty) T H n=some (v,eff,rd):=by
 obtain⟨e,h1,b,c⟩:=Ua a
 simp only[sI,SX.dh] at h
 simp only[sI,cL,oper,mw,h1,if_true,oW,b,c]
 split at h
 .rename_i es f
  rw[f]
  simp only[bM,cE]
  exact h
 .simp at h
inductive SB where
 | op (s:SI)
 | call (f:SX) (args:List SX)
 | qj (f:SX) (args:List SX)
 deriving Inhabited
structure SO where
 dst:Option Nat
 guard:Option (Nat × Bool)
 b:SB
 deriving Inhabited
structure SG where
 guard:Option (Nat × Bool)
 ops:List (Option Nat × SB)
 deriving Inhabited
inductive SC where
 | skip
 | region (quiet:Bool) (gs:List SG)
 | uQ (aps:List (Nat × Nat)) (gs:List SG)
 | yQ (tol:Nat × Nat × Nat) (aps:List (Nat × Nat)) (gs:List SG)
 | seq (x y:SC)
 | cond (c:SX) (x y:SC)
 | block (id:Nat) (c:SC)
 | loop (c:SC)
 | exit (id:Nat)
 | ret
 | scope (l:Nat) (c r:SC)
 | label (l:Nat)
 | goto (l:Nat)
 deriving Inhabited
def qP:SC->Nat->Option SC
 | .seq a b,l=>match qP a l with
  | some r=>some (.seq r b)
  | none=>qP b l
 | .label l',l=>if l'==l then some .skip else none
 | _,_=>none
def LD:SC->Option Nat
 | .seq a b=>match LD a with
  | some l=>some l
  | none=>LD b
 | .label l=>some l
 | _=>none
def Cy (l:Nat):Exit->Prop->Prop->Prop
 | .goto l',a,_=>l'=l/\a
 | _,_,b=>b
inductive SR where
 | tmp (t:Nat)
 | cell (t:Nat) (sz:Option Nat)
 deriving Inhabited
def Cv (P:Program) (op:Op):Nat:=match op with
 | .convert s d _=>if mw P s d=true then 2 else 0
 | .call { callee:=.builtin b,.. }=>match b with
  | .min | .max | .complex | .real | .imag=>0
  | .len=>1
  | _=>2
 | .lookup ..=>1
 | .binOp .. | .unOp .. | .index ..=>0
 | _=>2
def wP (P:Program):SI->Nat
 | .eR _ | .pick .. | .kO _ | .Et _ | .addr .. | .field .. | .idx .. | .slice .. | .tQ .. | .ext .. | .len _ | .rN _ | .arith .. | .sh .. | .AH .. | .jv .. | .not _ | .nil .. | .build .. | .CA .. | .beq .. | .mm .. | .conv .. | .GH _ | .hX _=>0
 | .load .. | .box _ | .alloc _ | .bO .. | .make .. | .qW=>1
 | .store .. | .app ..=>2
 | .old op _=>Cv P op
def jU (P:Program) (quiet:Bool):SB->Nat
 | .op s=>wP P s
 | .call ..=>if quiet then 1 else 2
 | .qj ..=>1
structure Fz where
 l:List Nat
 fr:Bool
def BC (P:Program) (fr:Bool):SI->SI
 | .load k a=>if fr then .CA k a else .load k a
 | .old (.convert s d x) ty=>if fr&&toStr P s d then .GH (SX.of x) else .old (.convert s d x) ty
 | s=>s
def oJ (P:Program) (fz:Fz) (o:Oper):SB:=match o.op with
 | .call { callee:=.value f,args,.. }=>if (match o.dst with | some d=>fz.l.contains (200000+d) | none=>false) then .qj (SX.of f) (args.toList.map SX.of) else .call (SX.of f) (args.toList.map SX.of)
 | .box _ x=>if (match o.dst with | some d=>fz.l.contains d | none=>false) then .op (.kO (SX.of x)) else .op (.box (SX.of x))
 | .convert s d x=>if (match o.dst with | some t=>fz.l.contains t | none=>false)&&yY P s d then .op (.hX (SX.of x)) else .op (BC P fz.fr (comp P o))
 | _=>.op (BC P fz.fr (comp P o))
def yW (n:Nat) (all:List Oper) (o:Oper):Option (Option (Nat × Bool)):=match o.guard with
 | none=>some none
 | some (j,want)=>match (all[j]?).bind (·.dst) with
  | some d=>if d<n then some (some (d,want)) else none
  | none=>none
def JH (P:Program) (n:Nat) (all:List Oper) (fz:Fz) (o:Oper):Option SO:=
 if uF n o then (yW n all o).map λg=>⟨o.dst,g,oJ P fz o⟩ else none
def eh (P:Program) (n:Nat) (all:List Oper) (fz:Fz):List Oper->Option (List SO)
 | []=>some []
 | o::r=>match JH P n all fz o,eh P n all fz r with
  | some s,some l=>some (s::l)
  | _,_=>none
def SG.flat (g:SG):List SO:=g.ops.map λ(d,b)=>⟨d,g.guard,b⟩
def mV (gs:List SG):List SO:=(gs.map SG.flat).flatten
def Pg (g:Option (Nat × Bool)) (s:SO):Bool:=match g,s.guard with
 | none,none=>true
 | some (d,w),some (d',w')=>d==d'&&w==w'&&s.dst != some d
 | _,_=>false
def group:List SO->List SG
 | []=>[]
 | s::r=>match group r with
  | g::gs=>if Pg g.guard s then ⟨g.guard,(s.dst,s.b)::g.ops⟩::gs else ⟨s.guard,[(s.dst,s.b)]⟩::g::gs
  | []=>[⟨s.guard,[(s.dst,s.b)]⟩]
theorem Ve {g:Option (Nat × Bool)} {s:SO} (h:Pg g s=true):s.guard=g:=by
 unfold Pg at h
 grind
theorem iq:∀l:List SO,mV (group l)=l
 | []=>rfl
 | s::r=>by
  have a:=iq r
  simp only[group]
  split
  .rename_i g gs c
   rw[c] at a
   split
   .rename_i e
    have:=Ve e
    rw[<-a]
    cases s with
    | mk d f b=>grind [mV,SG.flat]
   .rw[<-a];simp[mV,SG.flat]
  .rename_i c
   rw[c] at a
   rw[<-a];simp[mV,SG.flat]
def GR (o:Oper):Bool:=match o.op with
 | .load ..=>true
 | _=>false
def DT (o:Oper):Bool:=match o.op with
 | .alloc _=>true
 | _=>false
def mJ (o:Oper):Option Nat:=match o.op,o.guard with
 | .store _ (.tmp t) _,none=>some t
 | _,_=>none
def Yd (all:List Oper) (j k t:Nat):Bool:=match all[j]? with
 | some o=>o.dst==some t&&o.guard.isNone&&DT o&&((all.drop (j+1)).take (k-(j+1))).all λo'=>o'.dst != some t
 | none=>false
def CN (all:List Oper) (i k:Nat):Bool:=match all[i]?,all[k]? with
 | some a,some b=>GR a&&(match mJ b with
  | some t=>(List.range k).any λj=>decide (i<j)&&Yd all j k t
  | none=>false)
 | _,_=>false
def JI (all:List Oper) (ls:List Nat):Bool:=
 let b:=gK all []
 ls.zipIdx.all λ(x,i)=>ls.zipIdx.all λ(y,k)=>!decide (i<k)||ordered b i k||x==0||y==0||(decide (x<=1)&&decide (y<=1))||CN all i k
def uZ (o:Oper):Option Nat:=match o.op with
 | .load _ (.tmp t)=>some t
 | _=>none
def stays (all:List Oper) (i t:Nat):Bool:=(all.drop i).all λo=>o.dst != some t
def E2 (all:List Oper) (i k:Nat):Option (Nat × Nat):=match all[i]?,all[k]? with
 | some a,some b=>match uZ a,mJ b with
  | some s,some t=>if stays all i s&&stays all k t then some (s,t) else none
  | _,_=>match mJ a,uZ b with
   | some t,some s=>if stays all i t&&stays all k s then some (s,t) else none
   | _,_=>none
 | _,_=>none
def BQ (all:List Oper) (x i y k:Nat):Bool:=!decide (i<k)||ordered (gK all []) i k||x==0||y==0||(decide (x<=1)&&decide (y<=1))||CN all i k
def mL (all:List Oper) (ls:List Nat):List (Nat × Nat):=ls.zipIdx.flatMap λ(x,i)=>ls.zipIdx.filterMap λ(y,k)=>if BQ all x i y k then none else some (i,k)
def EL (all:List Oper):List (Nat × Nat)->Option (List (Nat × Nat))
 | []=>some []
 | (i,k)::r=>match E2 all i k,EL all r with
  | some p,some l=>some (p::l)
  | _,_=>none
def SA (o:Oper):Option Nat:=match o.op,o.guard with
 | .call { callee:=.builtin .append,args,.. },none=>match args.toList with
  | [.tmp t,_]=>some t
  | _=>none
 | _,_=>none
def sj (o:Oper):Option Nat:=match mJ o with
 | some t=>some t
 | none=>SA o
def K4 (o:Oper):Bool:=match o.op with
 | .buildSlice ..=>true
 | .alloc _=>true
 | _=>false
def newAt (all:List Oper) (k:Nat):Bool:=match all[k]? with
 | some b=>K4 b
 | none=>false
def Hv (all:List Oper) (i k:Nat):Option (Nat × Nat):=match all[i]?,all[k]? with
 | some a,some b=>match uZ a,sj b with
  | some s,some t=>if stays all i s&&stays all k t then some (s,t) else none
  | _,_=>match sj a,uZ b with
   | some t,some s=>if stays all i t&&stays all k s then some (s,t) else none
   | _,_=>none
 | _,_=>none
def JG (all:List Oper) (ls:List Nat) (i k:Nat):Option (Nat × Nat × Nat):=match all[i]?,all[k]? with
 | some a,some b=>match a.op,b.op,a.guard,b.guard with
  | .lookup t (.tmp m) (.tmp q) false,.mapEntry t' (.tmp m') (.tmp q'),none,none =>
   if t==t'&&m==m'&&q==q'&&stays all i m&&stays all i q&&stays all k m&&stays all k q&&decide (i<k)&&(List.range k).all λj=>decide (ls.getD j 2<=1) then some (t,m,q) else none
  | _,_,_,_=>none
 | _,_=>none
def JE (all:List Oper) (ls:List Nat) (tp:Option (Nat × Nat)):List (Nat × Nat):=(mL all ls).filter λp=>!newAt all p.2&&tp != some p
def CI (o:Oper):Option (Nat × Nat × Nat):=match o.op,o.guard,o.dst with
 | .call { callee:=.builtin .append,args,.. },none,some d=>match args.toList with
  | [.tmp t,.tmp y]=>some (t,y,d)
  | _=>none
 | _,_,_=>none
def GX (all:List Oper) (i k:Nat):Option (List (Nat × Nat)):=match all[i]?,all[k]? with
 | some a,some b=>match CI a,CI b with
  | some (t,y,d),some (t',y',_)=>if stays all i t&&stays all i y&&stays all (i+1) d&&stays all k t'&&stays all k y' then some [(t,t'),(t,y'),(t',y),(d,t')] else none
  | _,_=>none
 | _,_=>none
def CU (all:List Oper) (i k:Nat):Option (List (Nat × Nat)):=match Hv all i k with
 | some p=>some [p]
 | none=>GX all i k
def yP (all:List Oper):List (Nat × Nat)->Option (List (Nat × Nat))
 | []=>some []
 | (i,k)::r=>match CU all i k,yP all r with
  | some p,some l=>some (p++l)
  | _,_=>none
def wm (g:SG):Bool:=match g.guard with
 | none=>true
 | some (d,_)=>g.ops.all λx=>x.1 != some d
def uJ (P:Program) (n:Nat) (fz:Fz) (ops:List Oper) (draw quiet:Bool):Option SC:=match eh P n ops fz ops with
 | none=>none
 | some l=>if !(group l).all wm then none else
  if draw then (if oe ops&&JI ops (l.map λs=>jU P quiet s.b) then some (.region quiet (group l)) else none)
  else some (.region quiet (group l))
def F9 (P:Program) (n:Nat) (fz:Fz) (ops:List Oper):Option SC:=match eh P n ops fz ops with
 | none=>none
 | some l=>if !(group l).all wm then none else
  if oe ops then (EL ops (mL ops (l.map λs=>jU P false s.b))).map λaps=>.uQ aps (group l) else none
def W7 (all:List Oper) (ls:List Nat):Option (Nat × Nat):=(mL all ls).find? λp=>(JG all ls p.1 p.2).isSome
def Fa (P:Program) (n:Nat) (fz:Fz) (ops:List Oper):Option SC:=match eh P n ops fz ops with
 | none=>none
 | some l=>if !(group l).all wm then none else
  if oe ops then
   (match W7 ops (l.map λs=>jU P false s.b) with
   | none=>(yP ops (JE ops (l.map λs=>jU P false s.b) none)).map λaps=>.uQ aps (group l)
   | some p=>match JG ops (l.map λs=>jU P false s.b) p.1 p.2 with
    | some tol=>(yP ops (JE ops (l.map λs=>jU P false s.b) (some p))).map λaps=>.yQ tol aps (group l)
    | none=>none)
  else none
def Y9:Nat:=100000
def Y1:Nat:=100001
def orElse':Option SC->Option SC->Option SC
 | some x,_=>some x
 | none,y=>y
def Fo (P:Program) (n:Nat) (fz:List Nat) (ops:List Oper) (draw:Bool):Option SC:=
 orElse' (uJ P n ⟨fz,false⟩ ops draw false) (if draw then orElse' (if fz.contains Y9 then Fa P n ⟨fz,false⟩ ops else none)<|orElse' (if fz.contains Y1 then uJ P n ⟨fz,true⟩ ops true false else none)<|orElse' (F9 P n ⟨fz,false⟩ ops) (orElse' (uJ P n ⟨fz,false⟩ ops true true) (orElse' (uJ P n ⟨fz,true⟩ ops true false) (uJ P n ⟨fz,true⟩ ops true true))) else none)
def dK (P:Program) (n:Nat) (fz:List Nat):Code->Option SC
 | .skip=>some .skip
 | .region _ ops draw=>Fo P n fz ops.toList draw
 | .seq x y=>match dK P n fz x,dK P n fz y with
  | some a,some b=>some (.seq a b)
  | _,_=>none
 | .cond c x y=>match dK P n fz x,dK P n fz y with
  | some a,some b=>some (.cond (SX.of c) a b)
  | _,_=>none
 | .block id c=>(dK P n fz c).map (.block id)
 | .loop c=>(dK P n fz c).map .loop
 | .exit id=>some (.exit id)
 | .ret=>some .ret
 | .scope c=>match dK P n fz c with
  | some sc=>match LD sc with
   | some l=>(qP sc l).map λr=>.scope l sc r
   | none=>none
  | none=>none
 | .label l=>some (.label l)
 | .goto l=>some (.goto l)
 | _=>none
def ki (h h':Heap):Prop:=∀id,id<h.length->h.view id=.dead->h'.view id=.dead
theorem ki.refl (h:Heap):ki h h:=λ_ _ e=>e
theorem ki.trans {a b c:Heap} (h:ki a b) (k:ki b c) (f:a.length<=b.length):ki a c:=λid d e=>k id (abh d f) (h id d e)
def az (P:Program) (f:FuncId) (vs:List V) (H:View) (K:V->View->Prop):Prop:=
 dZ P f=true/\∀h:Heap,h.view=H->∃r h',bZ P f vs h r h'/\ki h h'/\K r h'.view
def EJ (P:Program) (f:FuncId) (vs:List V) (H:View) (K:V->View->Prop):Prop:=
 dZ P f=true/\∀h:Heap,h.view=H->∃r h',bZ P f vs h r h'/\(∀id,id<h.length->h'.view id=h.view id)/\K r h'.view
def lq (sz:Option Nat) (e:List V) (j:Nat) (K:V->Prop):Prop:=match sz with
 | some n=>j+n<=e.length/\K (.agg ((e.drop j).take n))
 | none=>j<e.length/\K (e.getD j .any)
def wI (P:Program) (s:SI) (T:Env) (H:View) (K:V->View->Prop):Prop:=match s with
 | .eR x=>K (x.at T) H
 | .pick c a b=>match c.at T with
  | .val (.bool t)=>K (if t then a.at T else b.at T) H
  | _=>False
 | .box x=>(x.at T).cells.all aL=true/\∀n,H n=.dead->K (.ptr n 0 0) (H.set n (.arr (x.at T).cells.length [(x.at T).cells]))
 | .kO x=>(x.at T).cells.all aL=true/\K (.aP (x.at T).cells 0) H
 | .alloc z=>z.all aL=true/\∀n,H n=.dead->K (.ptr n 0 0) (H.set n (.arr z.length [z]))
 | .load sz a=>match a.at T with
  | .ptr id i j=>match H id with
   | .arr _ es=>i<es.length/\lq sz (es.getD i []) j λv=>K v H
   | _=>False
  | .aP e j=>lq sz e j λv=>K v H
  | _=>False
 | .CA sz a=>match a.at T with
  | .aP e j=>lq sz e j λv=>K v H
  | _=>False
 | .store sz a x=>match a.at T with
  | .ptr id i j=>match H id with
   | .arr esz es=>(i<es.length/\(x.at T).cells.length=sz/\j+(x.at T).cells.length<=esz/\(x.at T).cells.all aL=true) /\
     K .any (H.set id (.arr esz (es.set i (gm (es.getD i []) j (x.at T).cells))))
   | _=>False
  | _=>False
 | .Et x=>match x.at T with
  | .ptr id i j=>K (.ptr id i j) H
  | .aP e j=>K (.aP e j) H
  | .fn f a b=>K (.fn f a b) H
  | _=>False
 | .addr off x=>match x.at T with
  | .ptr id i j=>K (.ptr id i (j+off)) H
  | .aP e j=>K (.aP e (j+off)) H
  | _=>False
 | .field off sz x=>match x.at T with
  | .agg cs=>lq sz cs off λv=>K v H
  | _=>False
 | .idx sz x i=>match asNat (i.at T) with
  | none=>False
  | some q=>match x.at T with
   | .sl id off len esz=>(q<len/\esz=sz)/\K (.ptr id (off+q) 0) H
   | .aZ es=>∃e,es[q]?=some e/\e.length=sz/\K (.aP e 0) H
   | _=>False
 | .tQ f first cap=>K (.fn f (first.map (SX.at T)) (cap.map (SX.at T))) H
 | .qW=>∀n,H n=.dead->K (.mp n) (H.set n (.map [] 0))
 | .ext i x=>match x.at T with
  | .bb vs=>i<vs.length/\K (vs.getD i .any) H
  | _=>False
 | .len x=>match cE (x.at T) with
  | some n=>K (cM n) H
  | none=>False
 | .rN x=>match x.at T with
  | .val (.string s)=>K (cM s.size) H
  | _=>False
 | .arith op x y=>match x.at T,y.at T with
  | .val (.int k a),.val (.int k' b)=>k=k'/\(match ja op k a b with | some v=>K (.val v) H | none=>False)
  | _,_=>False
 | .AH op x y=>match x.at T,y.at T with
  | .val (.string a),.val (.string b)=>(match op with
   | .eql=>K (.val (.bool (kd a b))) H
   | .neq=>K (.val (.bool (!kd a b))) H
   | _=>False)
  | _,_=>False
 | .jv x i=>match x.at T,asNat (i.at T) with
  | .val (.string s),some q=>∃b,s.data.toList[q]?=some b/\K (.val (.int .u8 b.toNat)) H
  | _,_=>False
 | .not x=>match x.at T with
  | .val (.bool t)=>K (.val (.bool (!t))) H
  | _=>False
 | .nil eq k x y=>match DR (fN k (x.at T)) (fN k (y.at T)) with
  | some b=>K (.val (.bool (if eq then b else !b))) H
  | none=>False
 | .beq eq x y=>match x.at T,y.at T with
  | .val (.bool a),.val (.bool b)=>K (.val (.bool (if eq then a==b else a != b))) H
  | _,_=>False
 | .mm mx x y=>match x.at T,y.at T with
  | .val (.int k a),.val (.int _ b)=>K (.val (.int k (if mx then (if b>a then b else a) else (if b<a then b else a)))) H
  | _,_=>False
 | .conv k x=>match x.at T with
  | .val (.int _ a)=>K (.val (.int k (k.wrap a))) H
  | _=>False
 | .sh l x y=>match x.at T,y.at T with
  | .val (.int k a),.val (.int _ b)=>0<=b/\K (.val (.int k (PO l k a b))) H
  | _,_=>False
 | .build z parts=>match ou z (parts.map λ(a,b,x)=>(a,b,x.at T)) with
  | some cs=>K (.agg cs) H
  | none=>False
 | .bO len sz z parts=>match mZ sz (List.replicate len z) (parts.map λ(i,x)=>(i,x.at T)) with
  | some es=>∀n,H n=.dead->K (.sl n 0 len sz) (H.set n (.arr sz es))
  | none=>False
 | .slice sz x lo hi=>match c8 sz (x.at T) (lo.map (SX.at T)) (hi.map (SX.at T)) with
  | some (v,.none,_)=>K v H
  | _=>False
 | .make sz bytes z l c=>match asNat (l.at T),asNat (c.at T) with
  | some l,some c=>(l<=c/\c<aF/\bytes*c<aF)/\(c=0->K (.emp 2) H)/\(c≠0->∀n,H n=.dead->K (.sl n 0 l sz) (H.set n (.arr sz (List.replicate l z))))
  | _,_=>False
 | .app sz bytes x y=>match bM H (y.at T) with
  | some (xs,_)=>if xs.isEmpty=true then (match x.at T with
    | .emp k=>K (.emp k) H
    | .ez=>K .ez H
    | .aZ es=>K (.aZ es) H
    | .sl a b c d=>K (.sl a b c d) H
    | _=>False)
   else (xs.all λe=>e.length==sz&&e.all aL)=true/\(match x.at T with
    | .emp _=>(xs.length*bytes<aF/\xs.length<aF)/\∀n,H n=.dead->K (.sl n 0 xs.length sz) (H.set n (.arr sz xs))
    | .sl id off len esz=>match H id with
     | .arr _ es=>(off+len<=es.length/\esz=sz/\(len+xs.length)*bytes<aF/\len+xs.length<aF) /\
      ∀n,H n=.dead->K (.sl n 0 (len+xs.length) esz) ((H.set id .dead).set n (.arr esz ((es.drop off).take len++xs)))
     | _=>False
    | _=>False)
  | none=>False
 | .GH x=>match x.at T with
  | .aZ es=>(match mC es with
   | some l=>K (.val (.string ⟨l.toArray⟩)) H
   | none=>False)
  | _=>False
 | .hX x=>match x.at T with
  | .val (.string s)=>K (.aZ (iy s)) H
  | _=>False
 | s=>∀n,H n=.dead->∃v eff rd,sI P s T H n=some (v,eff,rd)/\K v (eff.view H n)
def wB (P:Program) (quiet:Bool) (b:SB) (T:Env) (H:View) (K:V->View->Prop):Prop:=match b with
 | .op s=>wI P s T H K
 | .call f args=>match f.at T with
  | .fn g first cap=>if quiet then EJ P g (first++args.map (SX.at T)++cap) H K else az P g (first++args.map (SX.at T)++cap) H K
  | _=>False
 | .qj f args=>match f.at T with
  | .fn g first cap=>EJ P g (first++args.map (SX.at T)++cap) H K
  | _=>False
def Cl (P:Program) (quiet:Bool):List (Option Nat × SB)->Env->View->(Env->View->Prop)->Prop
 | [],T,H,K=>K T H
 | (d,b)::r,T,H,K=>wB P quiet b T H λv H'=>Cl P quiet r (T.put d v) H' K
def jK:List (Option Nat × SB)->Env->Env
 | [],T=>T
 | (d,_)::r,T=>jK r (T.put d (.bb []))
def wG (P:Program) (quiet:Bool) (g:SG) (T:Env) (H:View) (K:Env->View->Prop):Prop:=match g.guard with
 | none=>Cl P quiet g.ops T H K
 | some (d,want)=>match T d with
  | .val (.bool b)=>(b=want->Cl P quiet g.ops (T.put (some d) (.val (.bool want))) H K)/\(b = !want->K (jK g.ops (T.put (some d) (.val (.bool (!want))))) H)
  | .bb []=>K (jK g.ops T) H
  | _=>False
def AI (P:Program) (quiet:Bool):List SG->Env->View->(Env->View->Prop)->Prop
 | [],T,H,K=>K T H
 | g::r,T,H,K=>wG P quiet g T H λT' H'=>AI P quiet r T' H' K
def wz (c:SX) (b:Bool) (T:Env):Env:=match c with
 | .tmp t=>T.put (some t) (.val (.bool b))
 | _=>T
def Dz:Exit->Prop->Prop->Prop
 | .normal,a,_=>a
 | _,_,b=>b
def jE (a b:V):Prop:=match a,b with
 | .ptr i _ _,.ptr j _ _=>i≠j
 | .ptr i _ _,.sl j _ _ _=>i≠j
 | .ptr _ _ _,.emp _=>True
 | .ptr _ _ _,.ez=>True
 | .ptr _ _ _,.aZ _=>True
 | .aP _ _,_=>True
 | .sl i _ _ _,.sl j _ _ _=>i≠j
 | .sl _ _ _ _,.emp _=>True
 | .sl _ _ _ _,.ez=>True
 | .sl _ _ _ _,.aZ _=>True
 | .emp _,_=>True
 | .ez,_=>True
 | .aZ _,_=>True
 | _,_=>False
def KA (P:Program) (t:TypeId) (m q:V) (H:View):Prop:=match m with
 | .mp id=>(∃es c,H id=.map es c)/\∀v obj rd,fe P t (.mp id) q H=some (v,.fJ id obj,rd)->fU P t (.mp id) q false (H.set id obj)=fU P t (.mp id) q false H
 | _=>False
def AW:List (Nat × Nat)->Env->Prop->Prop
 | [],_,K=>K
 | p::l,T,K=>jE (T p.1) (T p.2)/\AW l T K
def wS (P:Program):SC->Env->View->(Exit->Env->View->Prop)->Prop
 | .skip,T,H,Q=>Q .normal T H
 | .region quiet gs,T,H,Q=>AI P quiet gs T H (Q .normal)
 | .uQ aps gs,T,H,Q=>AI P false gs T H λT' H'=>AW aps T' (Q .normal T' H')
 | .yQ tol aps gs,T,H,Q=>AI P false gs T H λT' H'=>KA P tol.1 (T' tol.2.1) (T' tol.2.2) H/\AW aps T' (Q .normal T' H')
 | .seq x y,T,H,Q=>wS P x T H λe T' H'=>Dz e (wS P y T' H' Q) (Q e T' H')
 | .cond c x y,T,H,Q=>match c.at T with
  | .val (.bool b)=>(b=true->wS P x (wz c true T) H Q)/\(b=false->wS P y (wz c false T) H Q)
  | _=>False
 | .block id c,T,H,Q=>wS P c T H λe=>Q (so id e)
 | .loop c,T,H,Q=>∃I:Nat->Env->View->Prop,(∃k,I k T H)/\∀k T H,I k T H->wS P c T H λe T' H'=>Dz e (∃k',k'<k/\I k' T' H') (Q e T' H')
 | .exit id,T,H,Q=>Q (.exit id) T H
 | .ret,T,H,Q=>Q .ret T H
 | .scope l c r,T,H,Q=>∃(I:Nat->Env->View->Prop) (K:Nat),wS P c T H (λe T' H'=>Cy l e (∃k,k<K/\I k T' H') (Q e T' H'))/\∀k T H,I k T H->wS P r T H λe T' H'=>Cy l e (∃k',k'<k/\I k' T' H') (Q e T' H')
 | .label _,T,H,Q=>Q .normal T H
 | .goto l,T,H,Q=>Q (.goto l) T H
def wR (T:Env) (H:View) (r:SR) (K:V->Prop):Prop:=match r with
 | .tmp t=>K (T t)
 | .cell t sz=>match T t with
  | .ptr id i j=>match H id with
   | .arr _ es=>i<es.length/\lq sz (es.getD i []) j K
   | _=>False
  | .aP e j=>lq sz e j K
  | _=>False
def Gw (T:Env) (H:View):List SR->List V->(List V->Prop)->Prop
 | [],acc,K=>K acc
 | r::l,acc,K=>wR T H r λv=>Gw T H l (acc++[v]) K
def zF:List V->V
 | [v]=>v
 | vs=>.bb vs
def gL (P:Program):List ResultVar->Option (List SR)
 | []=>some []
 | .tmp t::r=>(gL P r).map (.tmp t :: ·)
 | .cell a t::r=>match Ey P t,gL P r with
  | some k,some l=>some (.cell a k::l)
  | _,_=>none
structure SF where
 code:SC
 res:List SR
 n:Nat
def ai:List SC->SC
 | []=>.skip
 | [a]=>a
 | a::b::l=>.seq a (ai (b::l))
abbrev cz (k a b:Nat):Option Nat × SB:=(none,.op (.store k (.tmp a) (.tmp b)))
abbrev bU (a k:Nat):Option Nat × SB:=(some a,.op (.eR (.val (.emp k))))
abbrev fP (d s b x y:Nat):Option Nat × SB:=(some d,.op (.app s b (.tmp x) (.tmp y)))
abbrev aX (a:Nat) (x:SC):SC:=.cond (.tmp a) x .skip
abbrev bQ (a:Nat) (x:SC):SC:=.cond (.tmp a) .skip x
abbrev bS (a:Nat) (x:SC):SC:=.block a (.loop x)
abbrev af (a b:Nat):Option Nat × SB:=(some a,.op (.eR (.tmp b)))
abbrev aT (a:Nat) (n:Int):Option Nat × SB:=(some a,.op (.eR (.val (.val (.int .i64 n)))))
abbrev bh (a:Nat) (n:Bool):Option Nat × SB:=(some a,.op (.eR (.val (.val (.bool n)))))
abbrev au (a b:Nat):Option Nat × SB:=(some a,.op (.load none (.tmp b)))
abbrev aU (a k b:Nat):Option Nat × SB:=(some a,.op (.load (some k) (.tmp b)))
abbrev aw (a k b:Nat):Option Nat × SB:=(some a,.op (.addr k (.tmp b)))
abbrev aK (a k b c:Nat):Option Nat × SB:=(some a,.op (.idx k (.tmp b) (.tmp c)))
abbrev cG (a b c:Nat):Option Nat × SB:=(some a,.op (.pick (.tmp b) (.val (.val (.bool true))) (.tmp c)))
abbrev dQ (a b c:Nat):Option Nat × SB:=(some a,.op (.pick (.tmp b) (.tmp c) (.val (.val (.bool false)))))
abbrev aS (a:Nat) (o:BinOp) (b c:Nat):Option Nat × SB:=(some a,.op (.arith o (.tmp b) (.tmp c)))
abbrev aH (a:Nat) (o:BinOp) (b:Nat) (n:Int):Option Nat × SB:=(some a,.op (.arith o (.tmp b) (.val (.val (.int .i64 n)))))
abbrev aM (a b:Nat):Option Nat × SB:=(some a,.op (.len (.tmp b)))
abbrev du (a k b:Nat):Option Nat × SB:=(some a,.op (.ext k (.tmp b)))
abbrev cX (a b:Nat):Option Nat × SB:=(some a,.op (.not (.tmp b)))
abbrev cg (a b:Nat):Option Nat × SB:=(some a,.op (.kO (.tmp b)))
abbrev fO (a b:Nat):Option Nat × SB:=(some a,.op (.Et (.tmp b)))
abbrev qh (a f:Nat) (l:List SX):Option Nat × SB:=(some a,.call (.val (.fn f [] [])) l)
abbrev aV (a f:Nat) (l:List Nat):Option Nat × SB:=(some a,.call (.val (.fn f [] [])) (l.map .tmp))
abbrev ag (l:List (Option Nat × SB)):SC:=.region false [⟨none,l⟩]
def aJ (P:Program) (f:FuncId) (fz:List Nat):Option SF:=match P.funcs[f]? with
 | some fn=>match fn.body with
  | some c=>match dK P fn.ntmps fz c,gL P fn.results.toList,dZ P f with
   | some sc,some rs,true=>some ⟨sc,rs,fn.ntmps⟩
   | _,_,_=>none
  | none=>none
 | none=>none
theorem sk {sz:Option Nat} {e:List V} {j:Nat} {K:V->Prop} (h:lq sz e j K):∃v,oM sz e j=some v/\K v:=by
 cases sz with
 | none=>exact⟨_,by simp only[oM];rw[aaL h.1],h.2⟩
 | some n=>exact⟨_,by simp only[oM];rw[aaL h.1],h.2⟩
theorem YZ {P:Program} {s:SI} {T:Env} {H:View} {K:V->View->Prop} (h:wI P s T H K) {n:Nat} (r:H n=.dead):
  ∃v eff rd,sI P s T H n=some (v,eff,rd)/\K v (eff.view H n):=by
 unfold wI at h
 split at h
 .exact⟨_,_,_,rfl,h⟩
 .split at h
  .rename_i t D;exact⟨_,_,_,by simp only[sI,D];rfl,h⟩
  .exact h.elim
 .exact⟨_,_,_,by simp only[sI,nP];rw[aaL h.1],h.2 n r⟩
 .exact⟨_,_,_,by simp only[sI];rw[aaL h.1],h.2⟩
 .exact⟨_,_,_,by simp only[sI,nP];rw[aaL h.1],h.2 n r⟩
 .split at h
  .rename_i id i j u
   split at h
   .rename_i es hH
    obtain⟨h1,f⟩:=h
    obtain⟨v,o,hk⟩:=sk f
    exact⟨_,_,_,by simp only[sI,zi,u,hH];rw[aaL h1,o];rfl,hk⟩
   .exact h.elim
  .rename_i e j u
   obtain⟨v,o,hk⟩:=sk h
   exact⟨_,_,_,by simp only[sI,zi,u];rw[o];rfl,hk⟩
  .exact h.elim
 .split at h
  .rename_i e j u
   obtain⟨v,o,hk⟩:=sk h
   exact⟨_,_,_,by simp only[sI,u];rw[o];rfl,hk⟩
  .exact h.elim
 .split at h
  .rename_i id i j u
   split at h
   .rename_i esz es hH
    exact⟨_,_,_,by simp only[sI,FZ,u,hH];rw[aaL h.1],h.2⟩
   .exact h.elim
  .exact h.elim
 .split at h
  .rename_i d;exact⟨_,_,_,by simp only[sI,d];rfl,h⟩
  .rename_i d;exact⟨_,_,_,by simp only[sI,d];rfl,h⟩
  .rename_i d;exact⟨_,_,_,by simp only[sI,d];rfl,h⟩
  .exact h.elim
 .split at h
  .rename_i d;exact⟨_,_,_,by simp only[sI,CF,d];rfl,h⟩
  .rename_i d;exact⟨_,_,_,by simp only[sI,CF,d];rfl,h⟩
  .exact h.elim
 .split at h
  .rename_i cs d
   obtain⟨v,o,hk⟩:=sk h
   exact⟨_,_,_,by simp only[sI,d,o];rfl,hk⟩
  .exact h.elim
 .split at h
  .exact h.elim
  .rename_i q y
   split at h
   .rename_i d;exact⟨_,_,_,by simp only[sI,GF,y,d];rw[aaL h.1],h.2⟩
   .rename_i es d
    obtain⟨e,he,x,hk⟩:=h
    have A:q<es.length:=(aaO.1 he).1
    have B:es.getD q []=e:=by simp[he]
    exact⟨_,_,_,by simp only[sI,GF,y,d];rw[B,aaL ⟨A,x⟩],hk⟩
   .exact h.elim
 .exact⟨_,_,_,rfl,h⟩
 .exact⟨_,_,_,rfl,h n r⟩
 .split at h
  .rename_i vs d;exact⟨_,_,_,by simp only[sI,d];rw[aaL h.1],h.2⟩
  .exact h.elim
 .split at h
  .rename_i m d;exact⟨_,_,_,by simp only[sI,d];rfl,h⟩
  .exact h.elim
 .split at h
  .rename_i s d;exact⟨_,_,_,by simp only[sI,d];rfl,h⟩
  .exact h.elim
 .split at h
  .rename_i k a F b d g
   obtain⟨rfl,h⟩:=h
   split at h
   .rename_i v o;exact⟨_,_,_,by simp only[sI,BS,d,g,if_true,o];rfl,h⟩
   .exact h.elim
  .exact h.elim
 .split at h
  .rename_i a b d g
   split at h
   .exact⟨_,_,_,by simp only[sI,DO,d,g];rfl,h⟩
   .exact⟨_,_,_,by simp only[sI,DO,d,g];rfl,h⟩
   .exact h.elim
  .exact h.elim
 .split at h
  .rename_i s q d y
   obtain⟨b,p,hk⟩:=h
   exact⟨_,_,_,by simp only[sI,EN,d,y,p];rfl,hk⟩
  .exact h.elim
 .split at h
  .rename_i t d;exact⟨_,_,_,by simp only[sI,d];rfl,h⟩
  .exact h.elim
 .split at h
  .rename_i b p;exact⟨_,_,_,by simp only[sI,p];rfl,h⟩
  .exact h.elim
 .split at h
  .rename_i d g;exact⟨_,_,_,by simp only[sI,d,g];rfl,h⟩
  .exact h.elim
 .split at h
  .rename_i d g;exact⟨_,_,_,by simp only[sI,d,g];rfl,h⟩
  .exact h.elim
 .split at h
  .rename_i d;exact⟨_,_,_,by simp only[sI,d];rfl,h⟩
  .exact h.elim
 .split at h
  .rename_i d g;exact⟨_,_,_,by simp only[sI,Tt,d,g];rw[aaI (by omega)],h.2⟩
  .exact h.elim
 .split at h
  .rename_i cs p;exact⟨_,_,_,by simp only[sI,p];rfl,h⟩
  .exact h.elim
 .split at h
  .rename_i es p;exact⟨_,_,_,by simp only[sI,Ct,p];rfl,h n r⟩
  .exact h.elim
 .split at h
  .rename_i v rd p;exact⟨_,_,_,by simp only[sI,p];rfl,h⟩
  .exact h.elim
 .split at h
  .rename_i l c x C
   obtain⟨h1,f,E⟩:=h
   by_cases e:c=0
   .exact⟨.emp 2,.none,[],by simp only[sI,F2,x,C];rw[aaL h1,aaL e],f e⟩
   .exact⟨_,_,_,by simp only[sI,F2,x,C];rw[aaL h1,aaI e],E e n r⟩
  .exact h.elim
 .split at h
  .rename_i xs rd w
   split at h
   .rename_i he
    split at h
    all_goals first
     | (rename_i d;exact⟨_,_,_,by simp only[sI,Le,w];rw[aaL he,d],h⟩)
     | exact h.elim
   .rename_i he
    obtain⟨h1,f⟩:=h
    split at f
    .rename_i d
     exact⟨_,_,_,by simp only[sI,Le,w];rw[aaI he,aaI (by rw[h1];simp),d];simp only;rw[aaL f.1],f.2 n r⟩
    .rename_i id off len esz d
     split at f
     .rename_i z es hH
      exact⟨_,_,_,by simp only[sI,Le,w];rw[aaI he,aaI (by rw[h1];simp),d];simp only[hH];rw[aaL f.1],f.2 n r⟩
     .exact f.elim
    .exact f.elim
  .exact h.elim
 .split at h
  .rename_i d
   split at h
   .rename_i l x;exact⟨_,_,_,by simp only[sI,d,x];rfl,h⟩
   .exact h.elim
  .exact h.elim
 .split at h
  .rename_i d;exact⟨_,_,_,by simp only[sI,d];rfl,h⟩
  .exact h.elim
 .exact h n r
def me (k:Nat) (rd wr:List Nat) (call:Bool) (n n':Nat):Prop:=
 (k=0->rd=[]/\wr=[]/\call=false/\n'=n)/\(k<=1->wr=[])
theorem WG {k:Nat} (h:k=2) {rd wr:List Nat} {call:Bool} {n a:Nat} : me k rd wr call n a:=⟨λb=>by omega,λb=>by omega⟩
theorem sZ {P:Program} {o:Oper} {T:Env} {v:V} {eff:bo} {rd:List Nat} (h:eA P o T=some (v,eff,rd)):eff=.none/\rd=[]:=by
 unfold eA at h
 split at h
 .split at h
  .split at h
   .simp at h;exact⟨h.2.1.symm,h.2.2⟩
   .simp at h
  .simp at h
 .simp at h
theorem Vp {P:Program} {o:Oper} {T:Env} {H:View} {n:Nat} {v:V} {eff:bo} {rd:List Nat} (h:cL P o T H n=some (v,eff,rd)):
  (Cv P o.op=0->eff=.none/\rd=[])/\(Cv P o.op=1->eff.wr=[]):=by
 unfold Cv
 split
 .rename_i s d x a
  simp only[cL,a] at h
  split
  .exact⟨λh=>by simp at h,λh=>by simp at h⟩
  .rename_i g
   rw[aaI g] at h
   exact⟨λ_=>sZ h,λh=>by simp at h⟩
 .rename_i b args j a
  simp only[cL,a] at h
  split
  any_goals exact⟨λ_=>sZ h,λh=>by simp at h⟩
  .refine⟨λh=>by simp at h,λ_=>?_⟩
   split at h
   .rename_i f
    split at h
    .simp only[xI] at h
     have c:∀ {v':V} {r:List Nat},some (v',bo.none,r)=some (v,eff,rd)->eff.wr=[]:=λe=>by
      simp only[aaK,aaN] at e;rw[<-e.2.1];rfl
     split at h
     .simp only[aaT] at h
      obtain⟨_,_,h⟩:=h
      exact c (abQ some h)
     .split at h
      .split at h
       .exact c h
       .simp at h
      .exact c h
      .simp at h
     .split at h
      .exact c h
      .simp at h
     .exact c h
     .simp at h
    .simp at h
   any_goals simp at h
   all_goals contradiction
  .exact⟨λh=>by simp at h,λh=>by simp at h⟩
 .rename_i t m k ok a
  refine⟨λh=>by simp at h,λ_=>?_⟩
  simp only[cL,a,fU] at h
  have c:∀ {v':V} {r:List Nat},some (v',bo.none,r)=some (v,eff,rd)->eff.wr=[]:=λe=>by
   simp only[aaK,aaN] at e;rw[<-e.2.1];rfl
  split at h
  .simp at h
  .split at h
   .simp at h
   .split at h
    .split at h
     .split at h
      .split at h
       .exact c h
       .simp at h
      .exact c h
      .simp at h
     .simp at h
    .simp at h
 .rename_i op t x y u a
  refine⟨λ_=>?_,λh=>by simp at h⟩
  simp only[cL,a] at h
  split at h
  .split at h
   .simp at h;exact⟨h.2.1.symm,h.2.2⟩
   .simp at h;exact⟨h.2.1.symm,h.2.2⟩
   .simp at h
  .exact sZ h
 .rename_i op t x a
  exact⟨λ_=>sZ (by simpa only [cL,a] using h),λh=>by simp at h⟩
 .rename_i t x i a
  exact⟨λ_=>sZ (by simpa only [cL,a] using h),λh=>by simp at h⟩
 .exact⟨λh=>by simp at h,λh=>by simp at h⟩
theorem uS {P:Program} {s:SI} {T:Env} {H:View} {n:Nat} {v:V} {eff:bo} {rd:List Nat} (h:sI P s T H n=some (v,eff,rd)):
  (wP P s=0->eff=.none/\rd=[])/\(wP P s=1->eff.wr=[]):=by
 have nn:∀ {v':V},some (v',bo.none,([]:List Nat))=some (v,eff,rd)->eff=.none/\rd=[]:=λe=>by
  simp only[aaK,aaN] at e;exact⟨e.2.1.symm,e.2.2.symm⟩
 have mp:∀ {α:Type} {x:Option α} {f:α->V},(x.map λa=>(f a,bo.none,([]:List Nat)))=some (v,eff,rd)->eff=.none/\rd=[]:=by
  intro α x f h
  simp only[aaT] at h
  obtain⟨a,_,h⟩:=h
  simp only[aaN] at h;exact⟨h.2.1.symm,h.2.2.symm⟩
 have nw:∀ {v':V} {o:cr} {r:List Nat},some (v',bo.new o,r)=some (v,eff,rd)->eff.wr=[]:=λe=>by
  simp only[aaK,aaN] at e;rw[<-e.2.1];rfl
 have n1:∀ {v':V} {r:List Nat},some (v',bo.none,r)=some (v,eff,rd)->eff.wr=[]:=λe=>by
  simp only[aaK,aaN] at e;rw[<-e.2.1];rfl
 unfold wP
 cases s<;>simp only[sI] at h
 case old op ty=>exact Vp (o:=oper op ty) h
 all_goals
  constructor<;>intro hk<;>first
   | (exfalso;revert hk;simp;done)
   | skip
 all_goals try simp only[zi,nP,CF,GF,c8,F2,Ct,BS,Tt,DO,EN] at h
 all_goals first
  | exact nn h
  | exact mp h
  | exact nw h
  | exact n1 h
  | skip
 all_goals repeat' (split at h)
 all_goals first
  | exact nn h
  | exact mp h
  | exact nw h
  | exact n1 h
  | (simp at h;done)
  | (simp only[aaT,aaN] at h;obtain⟨_,_,_,rfl,_⟩:=h;rfl)
end Gv
