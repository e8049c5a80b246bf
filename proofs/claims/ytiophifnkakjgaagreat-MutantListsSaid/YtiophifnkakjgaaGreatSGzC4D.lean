/-
  Part 4 of the proof: what the machine does and what the functions answer.
  Conditions: those that each lemma names.
-/
import Derived.Test.YtiophifnkakjgaaGreatSGzC4C
set_option linter.unusedSimpArgs false
set_option linter.unusedVariables false
set_option maxRecDepth 100000
set_option maxHeartbeats 20000000
namespace Gv
open Go
inductive SX where
 | tmp (t:Nat)
 | val (v:V)
 deriving Inhabited
def SX.of:Operand->SX
 | .tmp t=>.tmp t
 | .const v=>.val (gz v)
 | .global _=>.val .any
 | .func f=>.val (.fn f [] [])
def SX.at (T:Env):SX->V
 | .tmp t=>T t
 | .val v=>v
theorem SX.di (T:Env) (x:Operand):(SX.of x).at T=ev T x:=by cases x<;>rfl
inductive SI where
 | eW (x:SX)
 | pick (c a b:SX)
 | box (x:SX)
 | kN (x:SX)
 | alloc (z:List V)
 | build (z:List V) (parts:List (Nat × Nat × SX))
 | bH (len sz:Nat) (z:List V) (parts:List (Nat × SX))
 | load (sz:Option Nat) (a:SX)
 | De (sz:Option Nat) (a:SX)
 | store (sz:Nat) (a x:SX)
 | Er (x:SX)
 | addr (off:Nat) (x:SX)
 | field (off:Nat) (sz:Option Nat) (x:SX)
 | idx (sz:Nat) (x i:SX)
 | slice (sz:Nat) (x:SX) (lo hi:Option SX)
 | make (sz bytes:Nat) (z:List V) (l c:SX)
 | ra
 | uh (f:FuncId) (first cap:List SX)
 | ext (i:Nat) (x:SX)
 | len (x:SX)
 | rV (x:SX)
 | app (sz bytes:Nat) (x y:SX)
 | arith (op:BinOp) (x y:SX)
 | sh (left:Bool) (x y:SX)
 | AO (op:BinOp) (x y:SX)
 | js (x i:SX)
 | not (x:SX)
 | nil (eq:Bool) (k:Nat) (x y:SX)
 | beq (eq:Bool) (x y:SX)
 | mm (mx:Bool) (x y:SX)
 | conv (k:IntKind) (x:SX)
 | Hk (x:SX)
 | ia (x:SX)
 | old (op:Op) (ty:TypeId)
 deriving Inhabited
def oJ:Option Nat->List V->Nat->Option V
 | some n,cs,off=>if off+n<=cs.length then some (.agg ((cs.drop off).take n)) else none
 | none,cs,off=>if off<cs.length then some (cs.getD off .any) else none
def zU (sz:Option Nat) (a:V) (H:View):Out:=match a with
 | .ptr id i j=>match H id with
  | .arr _ es=>if i<es.length then (oJ sz (es.getD i []) j).map λv=>(v,.none,[id]) else none
  | _=>none
 | .aR e j=>(oJ sz e j).map λv=>(v,.none,[])
 | _=>none
def F7 (sz:Nat) (a v:V) (H:View):Out:=match a with
 | .ptr id i j=>match H id with
  | .arr esz es =>
   if i<es.length/\v.cells.length=sz/\j+v.cells.length<=esz/\v.cells.all aK=true
   then some (.any,.fP id (.arr esz (es.set i (gm (es.getD i []) j v.cells))),[id]) else none
  | _=>none
 | _=>none
def oh (z:List V) (parts:List (Nat × Nat × V)):Option (List V):=match parts with
 | []=>some z
 | (off,size,x)::r=>if x.cells.length=size/\off+size<=z.length/\x.cells.all aK=true then oh (gm z off x.cells) r else none
def CR (len sz:Nat) (z:List V) (parts:List (Nat × V)) (n:Nat):Out:=
 match mV sz (List.replicate len z) parts with
 | some es=>some (.sl n 0 len sz,.new (.arr sz es),[])
 | none=>none
def CO (off:Nat) (x:V):Out:=match x with
 | .ptr id i j=>some (.ptr id i (j+off),.none,[])
 | .aR e j=>some (.aR e (j+off),.none,[])
 | _=>none
def Hw (sz:Nat) (x i:V):Out:=match asNat i with
 | none=>none
 | some q=>match x with
  | .sl id off len esz=>if q<len/\esz=sz then some (.ptr id (off+q) 0,.none,[]) else none
  | .aY es=>if q<es.length/\(es.getD q []).length=sz then some (.aR (es.getD q []) 0,.none,[]) else none
  | _=>none
def c6 (sz:Nat) (x:V) (lo hi:Option V):Out:=match x with
 | .sl id off len esz=>match bound 0 lo,bound len hi with
  | some l,some h=>if l<=h/\h<=len/\esz=sz then some (.sl id (off+l) (h-l) esz,.none,[]) else none
  | _,_=>none
 | .aY es=>match bound 0 lo,bound es.length hi with
  | some l,some h=>if l<=h/\h<=es.length/\(es.all λe=>e.length==sz)=true then some (.aY ((es.drop l).take (h-l)),.none,[]) else none
  | _,_=>none
 | .emp k=>match bound 0 lo,bound 0 hi with
  | some 0,some 0=>some (.emp k,.none,[])
  | _,_=>none
 | _=>none
def Ft (sz bytes:Nat) (z:List V) (len cap:V) (n:Nat):Out:=match asNat len,asNat cap with
 | some l,some c =>
  if l<=c/\c<aE/\bytes*c<aE then
   (if c=0 then some (.emp 2,.none,[]) else some (.sl n 0 l sz,.new (.arr sz (List.replicate l z)),[]))
  else none
 | _,_=>none
def My (sz bytes:Nat) (s x:V) (H:View) (n:Nat):Out:=match bQ H x with
 | some (xs,rd) =>
  if xs.isEmpty then (match s with
   | .emp _ | .eD | .aY _ | .sl _ _ _ _=>some (s,.none,[])
   | _=>none)
  else if ¬ ((xs.all λe=>e.length==sz&&e.all aK)=true) then none
  else match s with
   | .emp _=>if xs.length*bytes<aE/\xs.length<aE then some (.sl n 0 xs.length sz,.new (.arr sz xs),rd) else none
   | .sl id off len esz=>match H id with
    | .arr _ es =>
     if off+len<=es.length/\esz=sz/\(len+xs.length)*bytes<aE/\len+xs.length<aE
     then some (.sl n 0 (len+xs.length) esz,.eW id (.arr esz ((es.drop off).take len++xs)),id::rd) else none
    | _=>none
   | _=>none
 | none=>none
def jc (op:BinOp) (k:IntKind) (a b:Int):Option Value:=match op with
 | .add=>some (.int k (k.wrap (a+b)))
 | .sub=>some (.int k (k.wrap (a-b)))
 | .mul=>some (.int k (k.wrap (a*b)))
 | .quo=>if b=0 then none else some (.int k (k.wrap (a.tdiv b)))
 | .rem=>if b=0 then none else some (.int k (a.tmod b))
 | .eql=>some (.bool (a==b))
 | .neq=>some (.bool (a != b))
 | .lss=>some (.bool (a<b))
 | .leq=>some (.bool (a<=b))
 | .gtr=>some (.bool (a>b))
 | .geq=>some (.bool (a≥b))
 | .or=>some (.int k (k.wrap (BitVec.ofInt k.bits a ||| BitVec.ofInt k.bits b).toNat))
 | .and=>some (.int k (k.wrap (BitVec.ofInt k.bits a &&& BitVec.ofInt k.bits b).toNat))
 | .xor=>some (.int k (k.wrap (BitVec.ofInt k.bits a ^^^ BitVec.ofInt k.bits b).toNat))
 | .andNot=>some (.int k (k.wrap (BitVec.ofInt k.bits a &&& ~~~(BitVec.ofInt k.bits b)).toNat))
 | _=>none
def CE (op:BinOp) (x y:V):Out:=match x,y with
 | .val (.int k a),.val (.int k' b)=>if k=k' then (jc op k a b).map λv=>(.val v,.none,[]) else none
 | _,_=>none
def Ql (left:Bool) (k:IntKind) (a b:Int):Int:=if left then k.wrap (a*2 ^ (min b.toNat k.bits)) else a.fdiv (2 ^ (min b.toNat k.bits))
def UQ (left:Bool) (x y:V):Out:=match x,y with
 | .val (.int k a),.val (.int _ b)=>if b<0 then none else some (.val (.int k (Ql left k a b)),.none,[])
 | _,_=>none
def VT:BinOp->Option Bool
 | .shl=>some true
 | .shr=>some false
 | _=>none
def jM (a b:ByteArray):Bool:=a.data.toList==b.data.toList
def EA (op:BinOp) (x y:V):Out:=match x,y with
 | .val (.string a),.val (.string b)=>match op with
  | .eql=>some (.val (.bool (jM a b)),.none,[])
  | .neq=>some (.val (.bool (!jM a b)),.none,[])
  | _=>none
 | _,_=>none
def GZ (x i:V):Out:=match x,asNat i with
 | .val (.string s),some q=>match s.data.toList[q]? with
  | some b=>some (.val (.int .u8 b.toNat),.none,[])
  | none=>none
 | _,_=>none
def EH:Option Bool->Option Bool->Option Bool
 | some true,some b=>some b
 | some b,some true=>some b
 | _,_=>none
theorem Oc {P:Program} {t:TypeId} {k:Nat} (h:kG P t=some k) (x y:V):HJ P t x y=EH (fR k x) (fR k y):=by
 simp only[HJ,h]
 unfold EH
 split<;>simp_all
def oper (op:Op) (ty:TypeId):Oper:=⟨none,op,ty,"",#[],none⟩
theorem Wv (P:Program) (o:Oper) (T:Env) (H:View) (n:Nat):cL P (oper o.op o.type) T H n=cL P o T H n:=by
 cases o;rfl
def sI (P:Program) (s:SI) (T:Env) (H:View) (n:Nat):Out:=match s with
 | .eW x=>some (x.at T,.none,[])
 | .pick c a b=>match c.at T with
  | .val (.bool t)=>some (if t then a.at T else b.at T,.none,[])
  | _=>none
 | .box x=>nL (x.at T).cells n
 | .kN x=>if (x.at T).cells.all aK=true then some (.aR (x.at T).cells 0,.none,[]) else none
 | .alloc z=>nL z n
 | .build z parts=>(oh z (parts.map λ(a,b,x)=>(a,b,x.at T))).map λcs=>(.agg cs,.none,[])
 | .bH len sz z parts=>CR len sz z (parts.map λ(i,x)=>(i,x.at T)) n
 | .load sz a=>zU sz (a.at T) H
 | .De sz a=>match a.at T with
  | .aR e j=>(oJ sz e j).map λv=>(v,.none,[])
  | _=>none
 | .store sz a x=>F7 sz (a.at T) (x.at T) H
 | .Er x=>match x.at T with
  | .ptr id i j=>some (.ptr id i j,.none,[])
  | .aR e j=>some (.aR e j,.none,[])
  | .fn f a b=>some (.fn f a b,.none,[])
  | _=>none
 | .addr off x=>CO off (x.at T)
 | .field off sz x=>match x.at T with
  | .agg cs=>(oJ sz cs off).map λv=>(v,.none,[])
  | _=>none
 | .idx sz x i=>Hw sz (x.at T) (i.at T)
 | .slice sz x lo hi=>c6 sz (x.at T) (lo.map (SX.at T)) (hi.map (SX.at T))
 | .make sz bytes z l c=>Ft sz bytes z (l.at T) (c.at T) n
 | .ra=>some (.mp n,.new (.map [] 0),[])
 | .uh f first cap=>some (.fn f (first.map (SX.at T)) (cap.map (SX.at T)),.none,[])
 | .ext i x=>match x.at T with
  | .bc vs=>if i<vs.length then some (vs.getD i .any,.none,[]) else none
  | _=>none
 | .len x=>(cE (x.at T)).map λn=>(cP n,.none,[])
 | .rV x=>match x.at T with
  | .val (.string s)=>some (cP s.size,.none,[])
  | _=>none
 | .app sz bytes x y=>My sz bytes (x.at T) (y.at T) H n
 | .arith op x y=>CE op (x.at T) (y.at T)
 | .sh l x y=>UQ l (x.at T) (y.at T)
 | .AO op x y=>EA op (x.at T) (y.at T)
 | .js x i=>GZ (x.at T) (i.at T)
 | .not x=>match x.at T with
  | .val (.bool t)=>some (.val (.bool (!t)),.none,[])
  | _=>none
 | .nil eq k x y=>match EH (fR k (x.at T)) (fR k (y.at T)) with
  | some b=>some (.val (.bool (if eq then b else !b)),.none,[])
  | none=>none
 | .beq eq x y=>match x.at T,y.at T with
  | .val (.bool a),.val (.bool b)=>some (.val (.bool (if eq then a==b else a != b)),.none,[])
  | _,_=>none
 | .mm mx x y=>match x.at T,y.at T with
  | .val (.int k a),.val (.int _ b)=>some (.val (.int k (if mx then (if b>a then b else a) else (if b<a then b else a))),.none,[])
  | _,_=>none
 | .conv k x=>match x.at T with
  | .val (.int _ a)=>some (.val (.int k (k.wrap a)),.none,[])
  | _=>none
 | .Hk x=>match x.at T with
  | .aY es=>(mJ es).map λl=>(.val (.string ⟨l.toArray⟩),.none,[])
  | _=>none
 | .ia x=>match x.at T with
  | .val (.string s)=>some (.aY (iF s),.none,[])
  | _=>none
 | .old op ty=>cL P (oper op ty) T H n
def Ge (P:Program) (t:TypeId):Option (Option Nat):=match P.info? t,vp P t with
 | some i,some true=>some (some i.size)
 | some _,some false=>some none
 | _,_=>none
theorem zQ {P:Program} {t:TypeId} {k:Option Nat} (h:Ge P t=some k) (cs:List V) (j:Nat):sM P t cs j=oJ k cs j:=by
 unfold Ge at h
 split at h
 .rename_i i h1 a
  simp at h;subst h;simp[sM,h1,a,oJ]
 .rename_i i h1 a
  simp at h;subst h;simp[sM,h1,a,oJ]
 .simp at h
def pV (P:Program) (t:TypeId):Option (Nat × Nat × List V):=match dg P t with
 | some e=>match P.info? e,zeroCells P e with
  | some ti,some z=>if z.length=ti.size/\z.all aK=true/\ti.size≠0 then some (ti.size,ti.bytes,z) else none
  | _,_=>none
 | none=>none
theorem lA {P:Program} {t:TypeId} {sz a:Nat} {z:List V} (h:pV P t=some (sz,a,z)):
  ∃e ti,dg P t=some e/\P.underlying t=some (.slice e)/\P.info? e=some ti/\zeroCells P e=some z/\z.length=ti.size/\z.all aK=true/\ti.size≠0/\sz=ti.size/\a=ti.bytes:=by
 unfold pV at h
 split at h
 .rename_i e he
  split at h
  .rename_i ti f h1 c
   split at h
   .rename_i b
    obtain⟨rfl,rfl,rfl⟩:=h
    have hu:P.underlying t=some (.slice e):=by
     unfold dg at he;split at he
     .rename_i d;simp at he;subst he;exact d
     .simp at he
    exact⟨e,ti,he,hu,h1,c,b.1,b.2.1,b.2.2,rfl,rfl⟩
   .simp at h
  .simp at h
 .simp at h
def yl (P:Program) (t:TypeId):List (Nat × Operand)->Option (List (Nat × Nat × SX))
 | []=>some []
 | (i,x)::r=>match placeOf P t i,yl P t r with
  | some (a,b),some l=>some ((a,b,SX.of x)::l)
  | _,_=>none
def comp (P:Program) (o:Oper):SI:=match o.op with
 | .move x | .assign x=>.eW (SX.of x)
 | .pick c a b=>.pick (SX.of c) (SX.of a) (SX.of b)
 | .alloc e=>match zeroCells P e with
  | some z=>.alloc z
  | none=>.old o.op o.type
 | .box _ x=>.box (SX.of x)
 | .load t a=>match Ge P t with
  | some k=>.load k (SX.of a)
  | none=>.old o.op o.type
 | .store t a v=>match P.info? t with
  | some _=>.store (P.cellsOf t) (SX.of a) (SX.of v)
  | none=>.old o.op o.type
 | .nilCheck x=>.Er (SX.of x)
 | .fieldAddr t x f=>match sk P t f with
  | some (off,s,_)=>if s=0 then .old o.op o.type else .addr off (SX.of x)
  | none=>.old o.op o.type
 | .field t x f=>match sk P t f with
  | some (off,_,ft)=>match Ge P ft with
   | some k=>.field off k (SX.of x)
   | none=>.old o.op o.type
  | none=>.old o.op o.type
 | .indexAddr t x i=>match pV P t with
  | some (sz,_,_)=>.idx sz (SX.of x) (SX.of i)
  | none=>.old o.op o.type
 | .slice t x lo hi none=>match pV P t with
  | some (sz,_,_)=>.slice sz (SX.of x) (lo.map SX.of) (hi.map SX.of)
  | none=>.old o.op o.type
 | .makeSlice t l c=>match pV P t with
  | some (sz,b,z)=>.make sz b z (SX.of l) (SX.of c)
  | none=>.old o.op o.type
 | .makeMap _ none=>.ra
 | .makeFunc (.func f) first cap=>.uh f (first.toList.map SX.of) (cap.toList.map SX.of)
 | .extract t i=>.ext i (SX.of t)
 | .build t parts=>match P.underlying t,zeroV P t with
  | some (.struct _),some (.agg z)=>if nU P t=true then
    (match yl P t parts.toList with
    | some ps=>.build z ps
    | none=>.old o.op o.type) else .old o.op o.type
  | _,_=>.old o.op o.type
 | .buildSlice t len parts=>match pV P t with
  | some (sz,_,z)=>if len=0/\parts.toList.isEmpty=true then .eW (.val (.emp 2)) else if len*sz<=2 ^ 24/\len≠0 then .bH len sz z (parts.toList.map λ(i,x)=>(i,SX.of x)) else .old o.op o.type
  | none=>.old o.op o.type
 | .call { callee:=.builtin b,args,argTypes }=>match b,args.toList with
  | .len,[x]=>if 1<=argTypes.size then (match P.underlying (argTypes.getD 0 0) with
   | some (.slice _)=>.len (SX.of x)
   | some .string=>.rV (SX.of x)
   | _=>.old o.op o.type) else .old o.op o.type
  | .append,[s,x]=>if 2<=argTypes.size/\pY P (argTypes.getD 1 0)=true then (match pV P (argTypes.getD 0 0) with
   | some (sz,b,_)=>.app sz b (SX.of s) (SX.of x)
   | none=>.old o.op o.type) else .old o.op o.type
  | .min,[x,y]=>.mm false (SX.of x) (SX.of y)
  | .max,[x,y]=>.mm true (SX.of x) (SX.of y)
  | _,_=>.old o.op o.type
 | .convert s d x=>match P.underlying s,P.underlying d with
  | some (.int _),some (.int k)=>.conv k (SX.of x)
  | _,_=>.old o.op o.type
 | .binOp op t x y _=>match kG P t with
  | some k=>match op with
   | .eql=>.nil true k (SX.of x) (SX.of y)
   | .neq=>.nil false k (SX.of x) (SX.of y)
   | _=>.old o.op o.type
  | none=>match P.underlying t with
   | some (.int _)=>match VT op with
    | some l=>.sh l (SX.of x) (SX.of y)
    | none=>.arith op (SX.of x) (SX.of y)
   | some .string=>.AO op (SX.of x) (SX.of y)
   | some .bool=>match op with
    | .eql=>.beq true (SX.of x) (SX.of y)
    | .neq=>.beq false (SX.of x) (SX.of y)
    | _=>.old o.op o.type
   | _=>.old o.op o.type
 | .unOp .not _ x=>.not (SX.of x)
 | .index t x i=>match P.underlying t with
  | some .string=>.js (SX.of x) (SX.of i)
  | _=>.old o.op o.type
 | _=>.old o.op o.type
theorem Jn {P:Program} {t:TypeId} {T:Env}:∀(parts:List (Nat × Operand)) (c:List (Nat × Nat × SX)) (z:List V),yl P t parts=some c ->
  Al (placeOf P t) z (parts.map λ(i,x)=>(i,ev T x))=oh z (c.map λ(a,b,x)=>(a,b,x.at T))
 | [],c,z,h=>by simp[yl] at h;subst h;rfl
 | (i,x)::r,c,z,h=>by
  simp only[yl] at h
  split at h
  .rename_i a b l h1 d
   simp at h;subst h
   simp only[abE,Al,h1,oh,SX.di]
   split
   .exact Jn r l _ d
   .rfl
  .simp at h
theorem MT {P:Program} {o:Oper} {T:Env} {op:BinOp} {t u:TypeId} {x y:Operand} {k:IntKind} {a b:Int} {r:Value} (c:o.op=.binOp op t x y u) (d:ev T x=.val (.int k a)) (e:ev T y=.val (.int k b)) (h:jc op k a b=some r):
  eE P o T=some (.val r,.none,[]):=by
 unfold eE
 simp only[c,Op.operands]
 simp only[dI]
 cases op<;>simp only[jc,abd,reduceCtorEq] at h
 all_goals first
  | (
   split at h
   .simp at h
   .rename_i f
    simp at h;subst h
    simp[execOp,c,d,e,eqGuard,binOp,Op.intDiv,f,plain]
    try rfl)
  | (subst h;simp[execOp,c,d,e,eqGuard,binOp,Op.intArith,Op.intCmp,Op.intBits,plain];try rfl)
theorem Vd {P:Program} {o:Oper} {T:Env} {op:BinOp} {t u:TypeId} {x y:Operand} {l:Bool} {v:V} {eff:bq} {rd:List Nat} (c:o.op=.binOp op t x y u) (d:VT op=some l) (h:UQ l (ev T x) (ev T y)=some (v,eff,rd)):
  eE P o T=some (v,eff,rd):=by
 unfold UQ at h
 split at h
 .rename_i k a i b e f
  split at h
  .simp at h
  .rename_i g
   obtain⟨rfl,rfl,rfl⟩:=h
   unfold eE
   simp only[c,Op.operands]
   cases op<;>simp only[VT,abd,reduceCtorEq] at d
   all_goals
    subst d
    simp[execOp,c,e,f,dI,eqGuard,binOp,Op.shift,g,plain,Ql]
    try rfl
 .simp at h
theorem Sm {P:Program} {o:Oper} {T:Env} {op:BinOp} {t u:TypeId} {x y:Operand} {v:V} {eff:bq} {rd:List Nat} (c:o.op=.binOp op t x y u) (h:EA op (ev T x) (ev T y)=some (v,eff,rd)):
  eE P o T=some (v,eff,rd):=by
 unfold EA at h
 split at h
 .rename_i a b d e
  unfold eE
  simp only[c,Op.operands,dI]
  have he:(a.toList==b.toList)=jM a b:=by simp[jM,ByteArray.toList_eq]
  split at h
  .simp at h;obtain⟨rfl,rfl,rfl⟩:=h
   simp[execOp,c,d,e,eqGuard,binOp,Op.stringOp,plain,<-he];rfl
  .simp at h;obtain⟨rfl,rfl,rfl⟩:=h
   simp[execOp,c,d,e,eqGuard,binOp,Op.stringOp,plain,<-he];rfl
  .simp at h
 .simp at h
theorem Qp {P:Program} {o:Oper} {T:Env} {t:TypeId} {x i:Operand} {v:V} {eff:bq} {rd:List Nat} (e:o.op=.index t x i) (hu:P.underlying t=some .string) (h:GZ (ev T x) (ev T i)=some (v,eff,rd)):
  eE P o T=some (v,eff,rd):=by
 unfold GZ at h
 split at h
 .rename_i s q f a
  split at h
  .rename_i b m
   simp at h;obtain⟨rfl,rfl,rfl⟩:=h
   unfold asNat at a
   split at a
   .rename_i k z g
    split at a
    .rename_i j
     simp at a;subst a
     have l:s[z.toNat]?=some b:=by
      obtain⟨c,rfl⟩:=abf.1 m
      have d:z.toNat<s.size:=by rw[bsize] at c;exact c
      rw[getElem?_pos s z.toNat d]
      rfl
     unfold eE
     simp only[e,Op.operands,dI]
     simp[execOp,e,f,g,Instr.index,asIntOf,underlying,program,j,plain]
     simp[bo,hu,l,bind,Sem.bind,pure]
     rfl
    .simp at a
   .simp at a
  .simp at h
 .simp at h
theorem RN {P:Program} {o:Oper} {T:Env} {t:TypeId} {x:Operand} {b:Bool} (a:o.op=.unOp .not t x) (c:ev T x=.val (.bool b)):
  eE P o T=some (.val (.bool (!b)),.none,[]):=by
 unfold eE
 simp only[a,Op.operands,dI]
 simp[execOp,a,c,Op.unary,plain]
 rfl
theorem ki {α β:Type} (P:Program) (s:Sem α) (f:α->β):bo P (Functor.map f s)=(bo P s).map f:=by
 show bo P (s >>= λa=>pure (f a))=_
 rw[aZ]
 cases bo P s<;>rfl
theorem dH {P:Program} {t:TypeId} {d:TypeDesc} (h:P.underlying t=some d):bo P (underlying t)=some d:=by
 simp only[underlying,program,aZ]
 simp[bo,h]
 rfl
theorem AW {P:Program} {t:TypeId} {a b:Bool} (hu:P.underlying t=some .bool):bo P (Op.equal t (.bool a) (.bool b))=some (a==b):=by
 rw[lf]
 generalize 9999=d
 simp only[Op.equalIn,aZ,dH hu,abD]
 rfl
theorem JA {P:Program} {o:Oper} {T:Env} {op:BinOp} {t u:TypeId} {x y:Operand} {a b:Bool} {r:Bool} (c:o.op=.binOp op t x y u) (hu:P.underlying t=some .bool) (d:ev T x=.val (.bool a)) (e:ev T y=.val (.bool b))
  (hr:(op=.eql/\r=(a==b))∨(op=.neq/\r=(a != b))):
  eE P o T=some (.val (.bool r),.none,[]):=by
 unfold eE
 simp only[c,Op.operands,dI]
 rcases hr with ⟨rfl,rfl⟩ | ⟨rfl,rfl⟩
 .simp[execOp,c,d,e,eqGuard,binOp,ki,AW hu,plain]
  try simp[bo,pure,plain]
 .simp[execOp,c,d,e,eqGuard,binOp,ki,AW hu,plain]
  try simp[bne]
theorem Qt {P:Program} {o:Oper} {T:Env} {s d:TypeId} {x:Operand} {f k b:IntKind} {a:Int} (c:o.op=.convert s d x) (g:P.underlying s=some (.int f)) (h:P.underlying d=some (.int k)) (e:ev T x=.val (.int b a)):
  eE P o T=some (.val (.int k (k.wrap a)),.none,[]):=by
 unfold eE
 simp only[c,Op.operands,dI]
 have:bo P (convert s d (.int b a))=some (.int k (k.wrap a)):=by
  simp only[convert,aZ,dH g,dH h,abD]
  rfl
 simp[execOp,c,e,ki,this,plain]
theorem Ko {P:Program} {o:Oper} {T:Env} {bi:Builtin} {x y:Operand} {k d:IntKind} {a b:Int} {args:Array Operand} {c:Array TypeId} {r:Int} (e:o.op=.call { callee:=.builtin bi,args:=args,argTypes:=c }) (h:args.toList=[x,y])
  (f:ev T x=.val (.int k a)) (g:ev T y=.val (.int d b)) (hr:(bi=.max/\r=if b>a then b else a)∨(bi=.min/\r=if b<a then b else a)):
  eE P o T=some (.val (.int k r),.none,[]):=by
 obtain rfl:args = #[x,y]:=by rw[<-Array.toArray_toList (xs:=args),h]
 unfold eE
 rcases hr with ⟨rfl,rfl⟩ | ⟨rfl,rfl⟩
 .have:bo P (Builtin.max_ c o.type #[.int k a,.int d b])=some (.int k (if b>a then b else a)):=rfl
  simp[e,Op.operands,Call.operands,f,g,dI,execOp,resolve,invoke,builtin,ki,this,plain]
 .have:bo P (Builtin.min_ c o.type #[.int k a,.int d b])=some (.int k (if b<a then b else a)):=rfl
  simp[e,Op.operands,Call.operands,f,g,dI,execOp,resolve,invoke,builtin,ki,this,plain]
theorem Gu (l:List Operand) (T:Env):(l.map SX.of).map (SX.at T)=l.map (ev T):=by
 rw[List.map_map];congr 1;funext x;exact SX.di T x
theorem Yk (l:Option Operand) (T:Env):(l.map SX.of).map (SX.at T)=l.map (ev T):=by
 cases l<;>simp[SX.di]
theorem XD (l:List (Nat × Operand)) (T:Env):(l.map λ(i,x)=>(i,SX.of x)).map (λ(i,x)=>(i,SX.at T x))=l.map λ(i,x)=>(i,ev T x):=by
 rw[List.map_map];congr 1;funext x;simp[SX.di]
theorem Ov {P:Program} {o:Oper} {T:Env} {H:View} {n:Nat} {v:V} {eff:bq} {rd:List Nat} (h:sI P (comp P o) T H n=some (v,eff,rd)):
  cL P o T H n=some (v,eff,rd):=by
 have old:∀ {s:SI},s=.old o.op o.type->sI P s T H n=some (v,eff,rd)->cL P o T H n=some (v,eff,rd):=λe h=>by rw[e] at h;simp only[sI,Wv] at h;exact h
 unfold comp at h
 split at h
 .rename_i x g;simp only[sI,SX.di] at h;simp only[cL,g];exact h
 .rename_i x g;simp only[sI,SX.di] at h;simp only[cL,g];exact h
 .rename_i c a b g;simp only[sI,SX.di] at h;simp only[cL,g];exact h
 .rename_i e g
  split at h
  .rename_i z R;simp only[sI] at h;simp only[cL,g,R];exact h
  .exact old rfl h
 .rename_i t x g;simp only[sI,SX.di] at h;simp only[cL,g];exact h
 .rename_i t a g
  split at h
  .rename_i k hk
   simp only[sI,SX.di,zU] at h
   simp only[cL,g,oM,zQ hk]
   exact h
  .exact old rfl h
 .rename_i t a x g
  split at h
  .rename_i ti S
   simp only[sI,SX.di,F7] at h
   simp only[cL,g,tn,S,Option.isSome_some,and_true]
   exact h
  .exact old rfl h
 .rename_i x g;simp only[sI,SX.di] at h;simp only[cL,g];exact h
 .rename_i t x f g
  split at h
  .rename_i off s ft I
   split at h
   .exact old rfl h
   .rename_i N
    simp only[sI,SX.di,CO] at h
    simp only[cL,g,nr,I,N,if_false]
    exact h
  .exact old rfl h
 .rename_i t x f g
  split at h
  .rename_i off s ft I
   split at h
   .rename_i k hk
    simp only[sI,SX.di] at h
    simp only[cL,g,yU,I]
    split at h
    .rename_i cs U;simp only[U,zQ hk];exact h
    .simp at h
   .exact old rfl h
  .exact old rfl h
 .rename_i t x i g
  split at h
  .rename_i sz b z hk
   obtain⟨e,ti,h1,J,w,D,K,O,L,rfl,rfl⟩:=lA hk
   simp only[sI,SX.di,Hw] at h
   simp only[cL,g,nk,J,w]
   exact h
  .exact old rfl h
 .rename_i t x lo hi g
  split at h
  .rename_i sz b z hk
   obtain⟨e,ti,h1,J,w,D,K,O,L,rfl,rfl⟩:=lA hk
   simp only[sI,SX.di,Yk] at h
   simp only[cL,g]
   have q:vK P t (ev T x) (lo.map (ev T)) (hi.map (ev T)) none=some (v,eff,rd):=by
    simp only[vK,h1,w]
    unfold c6 at h
    split at h
    .rename_i p;rw[p];exact h
    .rename_i p;rw[p];exact h
    .rename_i p;rw[p];exact h
    .simp at h
   unfold c6 at h
   split at h
   .rename_i p;rw[p] at q ⊢;exact q
   .rename_i p;rw[p] at q ⊢;exact q
   .rename_i p;rw[p] at q ⊢;exact q
   .simp at h
  .exact old rfl h
 .rename_i t l c g
  split at h
  .rename_i sz b z hk
   obtain⟨e,ti,h1,J,w,D,K,O,L,rfl,rfl⟩:=lA hk
   simp only[sI,SX.di,Ft] at h
   simp only[cL,g,nz,h1,w]
   split at h
   .rename_i l' c' hl G
    simp only[hl,G,L,if_false,D,K,O,and_self,if_true]
    exact h
   .simp at h
  .exact old rfl h
 .rename_i t g;simp only[sI] at h;simp only[cL,g];exact h
 .rename_i f first cap g;simp only[sI,Gu] at h;simp only[cL,g];exact h
 .rename_i t i g;simp only[sI,SX.di] at h;simp only[cL,g];exact h
 .rename_i t parts g
  split at h
  .rename_i fs z h1 J
   split at h
   .rename_i w
    split at h
    .rename_i ps D
     simp only[cL,g,yL,h1,J,w,if_true]
     have:=Jn (T:=T) parts.toList ps z D
     rw[this]
     exact h
    .exact old rfl h
   .exact old rfl h
  .exact old rfl h
 .rename_i t len parts g
  split at h
  .rename_i sz b z hk
   obtain⟨e,ti,h1,J,w,D,K,O,L,rfl,rfl⟩:=lA hk
   split at h
   .rename_i G
    obtain⟨rfl,G⟩:=G
    simp only[cL,g,jg,h1,w]
    rw[List.isEmpty_iff] at G
    rw[aa9 (by omega),abb trivial,G]
    exact h
   split at h
   .rename_i G
    simp only[sI,XD,CR] at h
    simp only[cL,g,jg,h1,w]
    rw[aa9 (by omega),aa9 G.2,aa9 L]
    simp only[D,K,O,and_self,if_true]
    exact h
   .exact old rfl h
  .exact old rfl h
 .rename_i b args ab g
  split at h
  .rename_i x j
   split at h
   .rename_i E
    simp only[cL,g,j,E,if_true,x7]
    split at h
    .rename_i e hu
     simp only[sI,SX.di] at h
     simp only[hu];exact h
    .rename_i hu
     simp only[sI,SX.di] at h
     simp only[hu]
     exact h
    .have:=old rfl h
     simpa only [cL,g,j,E,if_true,x7] using this
   .exact old rfl h
  .rename_i s x j
   split at h
   .rename_i E
    split at h
    .rename_i sz b z hk
     obtain⟨e,ti,h1,J,w,D,K,O,L,rfl,rfl⟩:=lA hk
     simp only[sI,SX.di] at h
     simp only[cL,g,j]
     rw[abb E]
     unfold My at h
     split at h
     .rename_i xs ae W
      simp only[pJ,h1,W,w]
      have R:(zeroCells P e).map List.length=some ti.size:=by rw[D];simp[K]
      split at h
      .rename_i A;rw[abb A];exact h
      .rename_i A
       rw[aa9 A]
       split at h
       .simp at h
       .rename_i Q
        rw[aa9 (by
         rintro (p | p | p)
         .exact L p
         .exact p R
         .exact Q p)]
        exact h
     .simp at h
    .exact old rfl h
   .exact old rfl h
  .rename_i x y j
   simp only[sI,SX.di] at h
   simp only[cL,g]
   split at h
   .rename_i k a X b B F
    have:=Ko (P:=P) (T:=T) g j B F (.inr ⟨rfl,rfl⟩)
    rw[this];exact h
   .simp at h
  .rename_i x y j
   simp only[sI,SX.di] at h
   simp only[cL,g]
   split at h
   .rename_i k a X b B F
    have:=Ko (P:=P) (T:=T) g j B F (.inl ⟨rfl,rfl⟩)
    rw[this];exact h
   .simp at h
  .exact old rfl h
 .rename_i s d x g
  split at h
  .rename_i k0 k N Z
   simp only[sI,SX.di] at h
   simp only[cL,g]
   split at h
   .rename_i X a B
    have M:¬ (mD P s d=true):=by simp[mD,N,Z]
    rw[aa9 M,Qt g N Z B];exact h
   .simp at h
  .exact old rfl h
 .rename_i op t x y u g
  split at h
  .rename_i k hk
   have C:(kG P t).isSome=true:=by rw[hk];rfl
   split at h
   .simp only[sI,SX.di] at h
    simp only[cL,g]
    rw[abb C,Oc hk]
    split at h
    .rename_i b M;rw[M];simpa using h
    .simp at h
   .simp only[sI,SX.di] at h
    simp only[cL,g]
    rw[abb C,Oc hk]
    split at h
    .rename_i b M;rw[M];simpa using h
    .simp at h
   .exact old rfl h
  .rename_i hk
   have m:¬ ((kG P t).isSome=true):=by rw[hk];simp
   split at h
   .split at h
    .rename_i l N
     simp only[sI,SX.di] at h
     simp only[cL,g]
     rw[aa9 m]
     exact Vd g N h
    .simp only[sI,SX.di,CE] at h
     simp only[cL,g]
     split at h
     .rename_i k a X b B F
      split at h
      .rename_i Y
       subst Y
       simp only[abj] at h
       obtain⟨r,hr,h⟩:=h
       rw[aa9 m,MT g B F hr];exact ach some h
      .simp at h
     .simp at h
   .simp only[sI,SX.di] at h
    simp only[cL,g]
    rw[aa9 m]
    exact Sm g h
   .rename_i hu
    split at h
    .simp only[sI,SX.di] at h
     simp only[cL,g]
     split at h
     .rename_i a b B F
      rw[aa9 m,JA g hu B F (.inl ⟨rfl,rfl⟩)];simpa using h
     .simp at h
    .simp only[sI,SX.di] at h
     simp only[cL,g]
     split at h
     .rename_i a b B F
      rw[aa9 m,JA g hu B F (.inr ⟨rfl,rfl⟩)];simpa using h
     .simp at h
    .exact old rfl h
   .exact old rfl h
 .rename_i t x g
  simp only[sI,SX.di] at h
  simp only[cL,g]
  split at h
  .rename_i b M;rw[RN g M];exact h
  .simp at h
 .rename_i t x i g
  split at h
  .rename_i hu
   simp only[sI,SX.di] at h
   simp only[cL,g]
   exact Qp g hu h
  .exact old rfl h
 .exact old rfl h
theorem VO {P:Program} {sz:Option Nat} {a:SX} {T:Env} {H:View} {n:Nat} {v:V} {eff:bq} {rd:List Nat} (h:sI P (.De sz a) T H n=some (v,eff,rd)):sI P (.load sz a) T H n=some (v,eff,rd):=by
 simp only[sI] at h
 simp only[sI,zU]
 split at h
 .rename_i e j b;rw[b];exact h
 .simp at h
def toStr (P:Program) (s d:TypeId):Bool:=match P.underlying s,P.underlying d with
 | some (.slice e),some .string=>(match P.underlying e with | some (.int .u8)=>true | _=>false)
 | _,_=>false
def yA (P:Program) (s d:TypeId):Bool:=match P.underlying s,P.underlying d with
 | some .string,some (.slice e)=>(match P.underlying e with | some (.int .u8)=>true | _=>false)
 | _,_=>false
theorem RW {P:Program} {s d:TypeId} (h:toStr P s d=true):∃e,P.underlying s=some (.slice e)/\P.underlying d=some .string/\P.underlying e=some (.int .u8):=by
 unfold toStr at h
 split at h
 .rename_i e h1 a
  split at h
  .rename_i b;exact⟨e,h1,a,b⟩
  .simp at h
 .simp at h
theorem DD {P:Program} {s d:TypeId} (h:yA P s d=true):∃e,P.underlying s=some .string/\P.underlying d=some (.slice e)/\P.underlying e=some (.int .u8):=by
 unfold yA at h
 split at h
 .rename_i e h1 a
  split at h
  .rename_i b;exact⟨e,h1,a,b⟩
  .simp at h
 .simp at h
theorem XX {P:Program} {s d ty:TypeId} {x:Operand} {T:Env} {H:View} {n:Nat} {v:V} {eff:bq} {rd:List Nat} (a:toStr P s d=true) (h:sI P (.Hk (SX.of x)) T H n=some (v,eff,rd)):sI P (.old (.convert s d x) ty) T H n=some (v,eff,rd):=by
 obtain⟨e,h1,b,c⟩:=RW a
 simp only[sI,SX.di] at h
 simp only[sI,cL,oper,mD,h1,if_true,oZ,b,c]
 split at h
 .rename_i es f
  rw[f]
  exact h
 .simp at h
inductive SB where
 | op (s:SI)
 | call (f:SX) (args:List SX)
 | qb (f:SX) (args:List SX)
 deriving Inhabited
structure SO where
 dst:Option Nat
 guard:Option (Nat × Bool)
 b:SB
 deriving Inhabited
structure SG where
 guard:Option (Nat × Bool)
 ops:List (Option Nat × SB)
 deriving Inhabited
inductive SC where
 | skip
 | region (quiet:Bool) (gs:List SG)
 | vq (aps:List (Nat × Nat)) (gs:List SG)
 | yj (tol:Nat × Nat × Nat) (aps:List (Nat × Nat)) (gs:List SG)
 | seq (x y:SC)
 | cond (c:SX) (x y:SC)
 | block (id:Nat) (c:SC)
 | loop (c:SC)
 | exit (id:Nat)
 | ret
 | scope (l:Nat) (c r:SC)
 | label (l:Nat)
 | goto (l:Nat)
 deriving Inhabited
def qm:SC->Nat->Option SC
 | .seq a b,l=>match qm a l with
  | some r=>some (.seq r b)
  | none=>qm b l
 | .label l',l=>if l'==l then some .skip else none
 | _,_=>none
def Ls:SC->Option Nat
 | .seq a b=>match Ls a with
  | some l=>some l
  | none=>Ls b
 | .label l=>some l
 | _=>none
def C5 (l:Nat):Exit->Prop->Prop->Prop
 | .goto l',a,_=>l'=l/\a
 | _,_,b=>b
inductive SR where
 | tmp (t:Nat)
 | cell (t:Nat) (sz:Option Nat)
 deriving Inhabited
def CP (P:Program) (op:Op):Nat:=match op with
 | .convert s d _=>if mD P s d=true then 2 else 0
 | .call { callee:=.builtin b,.. }=>match b with
  | .min | .max | .complex | .real | .imag=>0
  | .len=>1
  | _=>2
 | .lookup ..=>1
 | .binOp .. | .unOp .. | .index ..=>0
 | _=>2
def wK (P:Program):SI->Nat
 | .eW _ | .pick .. | .kN _ | .Er _ | .addr .. | .field .. | .idx .. | .slice .. | .uh .. | .ext .. | .len _ | .rV _ | .arith .. | .sh .. | .AO .. | .js .. | .not _ | .nil .. | .build .. | .De .. | .beq .. | .mm .. | .conv .. | .Hk _ | .ia _=>0
 | .load .. | .box _ | .alloc _ | .bH .. | .make .. | .ra=>1
 | .store .. | .app ..=>2
 | .old op _=>CP P op
def j0 (P:Program) (quiet:Bool):SB->Nat
 | .op s=>wK P s
 | .call ..=>if quiet then 1 else 2
 | .qb ..=>1
structure Fz where
 l:List Nat
 fr:Bool
def BS (P:Program) (fr:Bool):SI->SI
 | .load k a=>if fr then .De k a else .load k a
 | .old (.convert s d x) ty=>if fr&&toStr P s d then .Hk (SX.of x) else .old (.convert s d x) ty
 | s=>s
def oL (P:Program) (fz:Fz) (o:Oper):SB:=match o.op with
 | .call { callee:=.value f,args,.. }=>if (match o.dst with | some d=>fz.l.contains (200000+d) | none=>false) then .qb (SX.of f) (args.toList.map SX.of) else .call (SX.of f) (args.toList.map SX.of)
 | .box _ x=>if (match o.dst with | some d=>fz.l.contains d | none=>false) then .op (.kN (SX.of x)) else .op (.box (SX.of x))
 | .convert s d x=>if (match o.dst with | some t=>fz.l.contains t | none=>false)&&yA P s d then .op (.ia (SX.of x)) else .op (BS P fz.fr (comp P o))
 | _=>.op (BS P fz.fr (comp P o))
def y4 (n:Nat) (all:List Oper) (o:Oper):Option (Option (Nat × Bool)):=match o.guard with
 | none=>some none
 | some (j,want)=>match (all[j]?).bind (·.dst) with
  | some d=>if d<n then some (some (d,want)) else none
  | none=>none
def J8 (P:Program) (n:Nat) (all:List Oper) (fz:Fz) (o:Oper):Option SO:=
 if uP n o then (y4 n all o).map λg=>⟨o.dst,g,oL P fz o⟩ else none
def eo (P:Program) (n:Nat) (all:List Oper) (fz:Fz):List Oper->Option (List SO)
 | []=>some []
 | o::r=>match J8 P n all fz o,eo P n all fz r with
  | some s,some l=>some (s::l)
  | _,_=>none
def SG.flat (g:SG):List SO:=g.ops.map λ(d,b)=>⟨d,g.guard,b⟩
def oE (gs:List SG):List SO:=(gs.map SG.flat).flatten
def QH (g:Option (Nat × Bool)) (s:SO):Bool:=match g,s.guard with
 | none,none=>true
 | some (d,w),some (d',w')=>d==d'&&w==w'&&s.dst != some d
 | _,_=>false
def group:List SO->List SG
 | []=>[]
 | s::r=>match group r with
  | g::gs=>if QH g.guard s then ⟨g.guard,(s.dst,s.b)::g.ops⟩::gs else ⟨s.guard,[(s.dst,s.b)]⟩::g::gs
  | []=>[⟨s.guard,[(s.dst,s.b)]⟩]
theorem Ve {g:Option (Nat × Bool)} {s:SO} (h:QH g s=true):s.guard=g:=by
 unfold QH at h
 grind
theorem iv:∀l:List SO,oE (group l)=l
 | []=>rfl
 | s::r=>by
  have a:=iv r
  simp only[group]
  split
  .rename_i g gs c
   rw[c] at a
   split
   .rename_i e
    have:=Ve e
    rw[<-a]
    cases s with
    | mk d f b=>grind [oE,SG.flat]
   .rw[<-a];simp[oE,SG.flat]
  .rename_i c
   rw[c] at a
   rw[<-a];simp[oE,SG.flat]
def Hd (o:Oper):Bool:=match o.op with
 | .load ..=>true
 | _=>false
def Ed (o:Oper):Bool:=match o.op with
 | .alloc _=>true
 | _=>false
def mz (o:Oper):Option Nat:=match o.op,o.guard with
 | .store _ (.tmp t) _,none=>some t
 | _,_=>none
def Zj (all:List Oper) (j k t:Nat):Bool:=match all[j]? with
 | some o=>o.dst==some t&&o.guard.isNone&&Ed o&&((all.drop (j+1)).take (k-(j+1))).all λo'=>o'.dst != some t
 | none=>false
def C7 (all:List Oper) (i k:Nat):Bool:=match all[i]?,all[k]? with
 | some a,some b=>Hd a&&(match mz b with
  | some t=>(List.range k).any λj=>decide (i<j)&&Zj all j k t
  | none=>false)
 | _,_=>false
def J1 (all:List Oper) (ls:List Nat):Bool:=
 let b:=gT all []
 ls.zipIdx.all λ(x,i)=>ls.zipIdx.all λ(y,k)=>!decide (i<k)||ordered b i k||x==0||y==0||(decide (x<=1)&&decide (y<=1))||C7 all i k
def vh (o:Oper):Option Nat:=match o.op with
 | .load _ (.tmp t)=>some t
 | _=>none
def stays (all:List Oper) (i t:Nat):Bool:=(all.drop i).all λo=>o.dst != some t
def GX (all:List Oper) (i k:Nat):Option (Nat × Nat):=match all[i]?,all[k]? with
 | some a,some b=>match vh a,mz b with
  | some s,some t=>if stays all i s&&stays all k t then some (s,t) else none
  | _,_=>match mz a,vh b with
   | some t,some s=>if stays all i t&&stays all k s then some (s,t) else none
   | _,_=>none
 | _,_=>none
def Cl (all:List Oper) (x i y k:Nat):Bool:=!decide (i<k)||ordered (gT all []) i k||x==0||y==0||(decide (x<=1)&&decide (y<=1))||C7 all i k
def mP (all:List Oper) (ls:List Nat):List (Nat × Nat):=ls.zipIdx.flatMap λ(x,i)=>ls.zipIdx.filterMap λ(y,k)=>if Cl all x i y k then none else some (i,k)
def E5 (all:List Oper):List (Nat × Nat)->Option (List (Nat × Nat))
 | []=>some []
 | (i,k)::r=>match GX all i k,E5 all r with
  | some p,some l=>some (p::l)
  | _,_=>none
def Uf (o:Oper):Option Nat:=match o.op,o.guard with
 | .call { callee:=.builtin .append,args,.. },none=>match args.toList with
  | [.tmp t,_]=>some t
  | _=>none
 | _,_=>none
def rW (o:Oper):Option Nat:=match mz o with
 | some t=>some t
 | none=>Uf o
def KM (o:Oper):Bool:=match o.op with
 | .buildSlice ..=>true
 | .alloc _=>true
 | _=>false
def newAt (all:List Oper) (k:Nat):Bool:=match all[k]? with
 | some b=>KM b
 | none=>false
def Hq (all:List Oper) (i k:Nat):Option (Nat × Nat):=match all[i]?,all[k]? with
 | some a,some b=>match vh a,rW b with
  | some s,some t=>if stays all i s&&stays all k t then some (s,t) else none
  | _,_=>match rW a,vh b with
   | some t,some s=>if stays all i t&&stays all k s then some (s,t) else none
   | _,_=>none
 | _,_=>none
def J3 (all:List Oper) (ls:List Nat) (i k:Nat):Option (Nat × Nat × Nat):=match all[i]?,all[k]? with
 | some a,some b=>match a.op,b.op,a.guard,b.guard with
  | .lookup t (.tmp m) (.tmp q) false,.mapEntry t' (.tmp m') (.tmp q'),none,none =>
   if t==t'&&m==m'&&q==q'&&stays all i m&&stays all i q&&stays all k m&&stays all k q&&decide (i<k)&&(List.range k).all λj=>decide (ls.getD j 2<=1) then some (t,m,q) else none
  | _,_,_,_=>none
 | _,_=>none
def J4 (all:List Oper) (ls:List Nat) (tp:Option (Nat × Nat)):List (Nat × Nat):=(mP all ls).filter λp=>!newAt all p.2&&tp != some p
def C6 (o:Oper):Option (Nat × Nat × Nat):=match o.op,o.guard,o.dst with
 | .call { callee:=.builtin .append,args,.. },none,some d=>match args.toList with
  | [.tmp t,.tmp y]=>some (t,y,d)
  | _=>none
 | _,_,_=>none
def G5 (all:List Oper) (i k:Nat):Option (List (Nat × Nat)):=match all[i]?,all[k]? with
 | some a,some b=>match C6 a,C6 b with
  | some (t,y,d),some (t',y',_)=>if stays all i t&&stays all i y&&stays all (i+1) d&&stays all k t'&&stays all k y' then some [(t,t'),(t,y'),(t',y),(d,t')] else none
  | _,_=>none
 | _,_=>none
def C4 (all:List Oper) (i k:Nat):Option (List (Nat × Nat)):=match Hq all i k with
 | some p=>some [p]
 | none=>G5 all i k
def yV (all:List Oper):List (Nat × Nat)->Option (List (Nat × Nat))
 | []=>some []
 | (i,k)::r=>match C4 all i k,yV all r with
  | some p,some l=>some (p++l)
  | _,_=>none
def wH (g:SG):Bool:=match g.guard with
 | none=>true
 | some (d,_)=>g.ops.all λx=>x.1 != some d
def uR (P:Program) (n:Nat) (fz:Fz) (ops:List Oper) (draw quiet:Bool):Option SC:=match eo P n ops fz ops with
 | none=>none
 | some l=>if !(group l).all wH then none else
  if draw then (if oB ops&&J1 ops (l.map λs=>j0 P quiet s.b) then some (.region quiet (group l)) else none)
  else some (.region quiet (group l))
def E0 (P:Program) (n:Nat) (fz:Fz) (ops:List Oper):Option SC:=match eo P n ops fz ops with
 | none=>none
 | some l=>if !(group l).all wH then none else
  if oB ops then (E5 ops (mP ops (l.map λs=>j0 P false s.b))).map λaps=>.vq aps (group l) else none
def Yi (all:List Oper) (ls:List Nat):Option (Nat × Nat):=(mP all ls).find? λp=>(J3 all ls p.1 p.2).isSome
def GS (P:Program) (n:Nat) (fz:Fz) (ops:List Oper):Option SC:=match eo P n ops fz ops with
 | none=>none
 | some l=>if !(group l).all wH then none else
  if oB ops then
   (match Yi ops (l.map λs=>j0 P false s.b) with
   | none=>(yV ops (J4 ops (l.map λs=>j0 P false s.b) none)).map λaps=>.vq aps (group l)
   | some p=>match J3 ops (l.map λs=>j0 P false s.b) p.1 p.2 with
    | some tol=>(yV ops (J4 ops (l.map λs=>j0 P false s.b) (some p))).map λaps=>.yj tol aps (group l)
    | none=>none)
  else none
def ZN:Nat:=100000
def Zs:Nat:=100001
def orElse':Option SC->Option SC->Option SC
 | some x,_=>some x
 | none,y=>y
def Kb (P:Program) (n:Nat) (fz:List Nat) (ops:List Oper) (draw:Bool):Option SC:=
 orElse' (uR P n ⟨fz,false⟩ ops draw false) (if draw then orElse' (if fz.contains ZN then GS P n ⟨fz,false⟩ ops else none)<|orElse' (if fz.contains Zs then uR P n ⟨fz,true⟩ ops true false else none)<|orElse' (E0 P n ⟨fz,false⟩ ops) (orElse' (uR P n ⟨fz,false⟩ ops true true) (orElse' (uR P n ⟨fz,true⟩ ops true false) (uR P n ⟨fz,true⟩ ops true true))) else none)
def dR (P:Program) (n:Nat) (fz:List Nat):Code->Option SC
 | .skip=>some .skip
 | .region _ ops draw=>Kb P n fz ops.toList draw
 | .seq x y=>match dR P n fz x,dR P n fz y with
  | some a,some b=>some (.seq a b)
  | _,_=>none
 | .cond c x y=>match dR P n fz x,dR P n fz y with
  | some a,some b=>some (.cond (SX.of c) a b)
  | _,_=>none
 | .block id c=>(dR P n fz c).map (.block id)
 | .loop c=>(dR P n fz c).map .loop
 | .exit id=>some (.exit id)
 | .ret=>some .ret
 | .scope c=>match dR P n fz c with
  | some sc=>match Ls sc with
   | some l=>(qm sc l).map λr=>.scope l sc r
   | none=>none
  | none=>none
 | .label l=>some (.label l)
 | .goto l=>some (.goto l)
 | _=>none
def km (h h':Heap):Prop:=∀id,id<h.length->h.view id=.dead->h'.view id=.dead
theorem km.refl (h:Heap):km h h:=λ_ _ e=>e
theorem km.trans {a b c:Heap} (h:km a b) (k:km b c) (f:a.length<=b.length):km a c:=λid d e=>k id (abK d f) (h id d e)
def az (P:Program) (f:FuncId) (vs:List V) (H:View) (K:V->View->Prop):Prop:=
 eh P f=true/\∀h:Heap,h.view=H->∃r h',b6 P f vs h r h'/\km h h'/\K r h'.view
def Gz (P:Program) (f:FuncId) (vs:List V) (H:View) (K:V->View->Prop):Prop:=
 eh P f=true/\∀h:Heap,h.view=H->∃r h',b6 P f vs h r h'/\(∀id,id<h.length->h'.view id=h.view id)/\K r h'.view
def lj (sz:Option Nat) (e:List V) (j:Nat) (K:V->Prop):Prop:=match sz with
 | some n=>j+n<=e.length/\K (.agg ((e.drop j).take n))
 | none=>j<e.length/\K (e.getD j .any)
def wI (P:Program) (s:SI) (T:Env) (H:View) (K:V->View->Prop):Prop:=match s with
 | .eW x=>K (x.at T) H
 | .pick c a b=>match c.at T with
  | .val (.bool t)=>K (if t then a.at T else b.at T) H
  | _=>False
 | .box x=>(x.at T).cells.all aK=true/\∀n,H n=.dead->K (.ptr n 0 0) (H.set n (.arr (x.at T).cells.length [(x.at T).cells]))
 | .kN x=>(x.at T).cells.all aK=true/\K (.aR (x.at T).cells 0) H
 | .alloc z=>z.all aK=true/\∀n,H n=.dead->K (.ptr n 0 0) (H.set n (.arr z.length [z]))
 | .load sz a=>match a.at T with
  | .ptr id i j=>match H id with
   | .arr _ es=>i<es.length/\lj sz (es.getD i []) j λv=>K v H
   | _=>False
  | .aR e j=>lj sz e j λv=>K v H
  | _=>False
 | .De sz a=>match a.at T with
  | .aR e j=>lj sz e j λv=>K v H
  | _=>False
 | .store sz a x=>match a.at T with
  | .ptr id i j=>match H id with
   | .arr esz es=>(i<es.length/\(x.at T).cells.length=sz/\j+(x.at T).cells.length<=esz/\(x.at T).cells.all aK=true) /\
     K .any (H.set id (.arr esz (es.set i (gm (es.getD i []) j (x.at T).cells))))
   | _=>False
  | _=>False
 | .Er x=>match x.at T with
  | .ptr id i j=>K (.ptr id i j) H
  | .aR e j=>K (.aR e j) H
  | .fn f a b=>K (.fn f a b) H
  | _=>False
 | .addr off x=>match x.at T with
  | .ptr id i j=>K (.ptr id i (j+off)) H
  | .aR e j=>K (.aR e (j+off)) H
  | _=>False
 | .field off sz x=>match x.at T with
  | .agg cs=>lj sz cs off λv=>K v H
  | _=>False
 | .idx sz x i=>match asNat (i.at T) with
  | none=>False
  | some q=>match x.at T with
   | .sl id off len esz=>(q<len/\esz=sz)/\K (.ptr id (off+q) 0) H
   | .aY es=>∃e,es[q]?=some e/\e.length=sz/\K (.aR e 0) H
   | _=>False
 | .uh f first cap=>K (.fn f (first.map (SX.at T)) (cap.map (SX.at T))) H
 | .ra=>∀n,H n=.dead->K (.mp n) (H.set n (.map [] 0))
 | .ext i x=>match x.at T with
  | .bc vs=>i<vs.length/\K (vs.getD i .any) H
  | _=>False
 | .len x=>match cE (x.at T) with
  | some n=>K (cP n) H
  | none=>False
 | .rV x=>match x.at T with
  | .val (.string s)=>K (cP s.size) H
  | _=>False
 | .arith op x y=>match x.at T,y.at T with
  | .val (.int k a),.val (.int k' b)=>k=k'/\(match jc op k a b with | some v=>K (.val v) H | none=>False)
  | _,_=>False
 | .AO op x y=>match x.at T,y.at T with
  | .val (.string a),.val (.string b)=>(match op with
   | .eql=>K (.val (.bool (jM a b))) H
   | .neq=>K (.val (.bool (!jM a b))) H
   | _=>False)
  | _,_=>False
 | .js x i=>match x.at T,asNat (i.at T) with
  | .val (.string s),some q=>∃b,s.data.toList[q]?=some b/\K (.val (.int .u8 b.toNat)) H
  | _,_=>False
 | .not x=>match x.at T with
  | .val (.bool t)=>K (.val (.bool (!t))) H
  | _=>False
 | .nil eq k x y=>match EH (fR k (x.at T)) (fR k (y.at T)) with
  | some b=>K (.val (.bool (if eq then b else !b))) H
  | none=>False
 | .beq eq x y=>match x.at T,y.at T with
  | .val (.bool a),.val (.bool b)=>K (.val (.bool (if eq then a==b else a != b))) H
  | _,_=>False
 | .mm mx x y=>match x.at T,y.at T with
  | .val (.int k a),.val (.int _ b)=>K (.val (.int k (if mx then (if b>a then b else a) else (if b<a then b else a)))) H
  | _,_=>False
 | .conv k x=>match x.at T with
  | .val (.int _ a)=>K (.val (.int k (k.wrap a))) H
  | _=>False
 | .sh l x y=>match x.at T,y.at T with
  | .val (.int k a),.val (.int _ b)=>0<=b/\K (.val (.int k (Ql l k a b))) H
  | _,_=>False
 | .build z parts=>match oh z (parts.map λ(a,b,x)=>(a,b,x.at T)) with
  | some cs=>K (.agg cs) H
  | none=>False
 | .bH len sz z parts=>match mV sz (List.replicate len z) (parts.map λ(i,x)=>(i,x.at T)) with
  | some es=>∀n,H n=.dead->K (.sl n 0 len sz) (H.set n (.arr sz es))
  | none=>False
 | .slice sz x lo hi=>match c6 sz (x.at T) (lo.map (SX.at T)) (hi.map (SX.at T)) with
  | some (v,.none,_)=>K v H
  | _=>False
 | .make sz bytes z l c=>match asNat (l.at T),asNat (c.at T) with
  | some l,some c=>(l<=c/\c<aE/\bytes*c<aE)/\(c=0->K (.emp 2) H)/\(c≠0->∀n,H n=.dead->K (.sl n 0 l sz) (H.set n (.arr sz (List.replicate l z))))
  | _,_=>False
 | .app sz bytes x y=>match bQ H (y.at T) with
  | some (xs,_)=>if xs.isEmpty=true then (match x.at T with
    | .emp k=>K (.emp k) H
    | .eD=>K .eD H
    | .aY es=>K (.aY es) H
    | .sl a b c d=>K (.sl a b c d) H
    | _=>False)
   else (xs.all λe=>e.length==sz&&e.all aK)=true/\(match x.at T with
    | .emp _=>(xs.length*bytes<aE/\xs.length<aE)/\∀n,H n=.dead->K (.sl n 0 xs.length sz) (H.set n (.arr sz xs))
    | .sl id off len esz=>match H id with
     | .arr _ es=>(off+len<=es.length/\esz=sz/\(len+xs.length)*bytes<aE/\len+xs.length<aE) /\
      ∀n,H n=.dead->K (.sl n 0 (len+xs.length) esz) ((H.set id .dead).set n (.arr esz ((es.drop off).take len++xs)))
     | _=>False
    | _=>False)
  | none=>False
 | .Hk x=>match x.at T with
  | .aY es=>(match mJ es with
   | some l=>K (.val (.string ⟨l.toArray⟩)) H
   | none=>False)
  | _=>False
 | .ia x=>match x.at T with
  | .val (.string s)=>K (.aY (iF s)) H
  | _=>False
 | s=>∀n,H n=.dead->∃v eff rd,sI P s T H n=some (v,eff,rd)/\K v (eff.view H n)
def wB (P:Program) (quiet:Bool) (b:SB) (T:Env) (H:View) (K:V->View->Prop):Prop:=match b with
 | .op s=>wI P s T H K
 | .call f args=>match f.at T with
  | .fn g first cap=>if quiet then Gz P g (first++args.map (SX.at T)++cap) H K else az P g (first++args.map (SX.at T)++cap) H K
  | _=>False
 | .qb f args=>match f.at T with
  | .fn g first cap=>Gz P g (first++args.map (SX.at T)++cap) H K
  | _=>False
def DT (P:Program) (quiet:Bool):List (Option Nat × SB)->Env->View->(Env->View->Prop)->Prop
 | [],T,H,K=>K T H
 | (d,b)::r,T,H,K=>wB P quiet b T H λv H'=>DT P quiet r (T.put d v) H' K
def jK:List (Option Nat × SB)->Env->Env
 | [],T=>T
 | (d,_)::r,T=>jK r (T.put d (.bc []))
def wG (P:Program) (quiet:Bool) (g:SG) (T:Env) (H:View) (K:Env->View->Prop):Prop:=match g.guard with
 | none=>DT P quiet g.ops T H K
 | some (d,want)=>match T d with
  | .val (.bool b)=>(b=want->DT P quiet g.ops (T.put (some d) (.val (.bool want))) H K)/\(b = !want->K (jK g.ops (T.put (some d) (.val (.bool (!want))))) H)
  | .bc []=>K (jK g.ops T) H
  | _=>False
def A9 (P:Program) (quiet:Bool):List SG->Env->View->(Env->View->Prop)->Prop
 | [],T,H,K=>K T H
 | g::r,T,H,K=>wG P quiet g T H λT' H'=>A9 P quiet r T' H' K
def xn (c:SX) (b:Bool) (T:Env):Env:=match c with
 | .tmp t=>T.put (some t) (.val (.bool b))
 | _=>T
def DJ:Exit->Prop->Prop->Prop
 | .normal,a,_=>a
 | _,_,b=>b
def jE (a b:V):Prop:=match a,b with
 | .ptr i _ _,.ptr j _ _=>i≠j
 | .ptr i _ _,.sl j _ _ _=>i≠j
 | .ptr _ _ _,.emp _=>True
 | .ptr _ _ _,.eD=>True
 | .ptr _ _ _,.aY _=>True
 | .aR _ _,_=>True
 | .sl i _ _ _,.sl j _ _ _=>i≠j
 | .sl _ _ _ _,.emp _=>True
 | .sl _ _ _ _,.eD=>True
 | .sl _ _ _ _,.aY _=>True
 | .emp _,_=>True
 | .eD,_=>True
 | .aY _,_=>True
 | _,_=>False
def LH (P:Program) (t:TypeId) (m q:V) (H:View):Prop:=match m with
 | .mp id=>(∃es c,H id=.map es c)/\∀v obj rd,fk P t (.mp id) q H=some (v,.fP id obj,rd)->fV P t (.mp id) q false (H.set id obj)=fV P t (.mp id) q false H
 | _=>False
def B0:List (Nat × Nat)->Env->Prop->Prop
 | [],_,K=>K
 | p::l,T,K=>jE (T p.1) (T p.2)/\B0 l T K
def wS (P:Program):SC->Env->View->(Exit->Env->View->Prop)->Prop
 | .skip,T,H,Q=>Q .normal T H
 | .region quiet gs,T,H,Q=>A9 P quiet gs T H (Q .normal)
 | .vq aps gs,T,H,Q=>A9 P false gs T H λT' H'=>B0 aps T' (Q .normal T' H')
 | .yj tol aps gs,T,H,Q=>A9 P false gs T H λT' H'=>LH P tol.1 (T' tol.2.1) (T' tol.2.2) H/\B0 aps T' (Q .normal T' H')
 | .seq x y,T,H,Q=>wS P x T H λe T' H'=>DJ e (wS P y T' H' Q) (Q e T' H')
 | .cond c x y,T,H,Q=>match c.at T with
  | .val (.bool b)=>(b=true->wS P x (xn c true T) H Q)/\(b=false->wS P y (xn c false T) H Q)
  | _=>False
 | .block id c,T,H,Q=>wS P c T H λe=>Q (sy id e)
 | .loop c,T,H,Q=>∃I:Nat->Env->View->Prop,(∃k,I k T H)/\∀k T H,I k T H->wS P c T H λe T' H'=>DJ e (∃k',k'<k/\I k' T' H') (Q e T' H')
 | .exit id,T,H,Q=>Q (.exit id) T H
 | .ret,T,H,Q=>Q .ret T H
 | .scope l c r,T,H,Q=>∃(I:Nat->Env->View->Prop) (K:Nat),wS P c T H (λe T' H'=>C5 l e (∃k,k<K/\I k T' H') (Q e T' H'))/\∀k T H,I k T H->wS P r T H λe T' H'=>C5 l e (∃k',k'<k/\I k' T' H') (Q e T' H')
 | .label _,T,H,Q=>Q .normal T H
 | .goto l,T,H,Q=>Q (.goto l) T H
def wR (T:Env) (H:View) (r:SR) (K:V->Prop):Prop:=match r with
 | .tmp t=>K (T t)
 | .cell t sz=>match T t with
  | .ptr id i j=>match H id with
   | .arr _ es=>i<es.length/\lj sz (es.getD i []) j K
   | _=>False
  | .aR e j=>lj sz e j K
  | _=>False
def IK (T:Env) (H:View):List SR->List V->(List V->Prop)->Prop
 | [],acc,K=>K acc
 | r::l,acc,K=>wR T H r λv=>IK T H l (acc++[v]) K
def zt:List V->V
 | [v]=>v
 | vs=>.bc vs
def gL (P:Program):List ResultVar->Option (List SR)
 | []=>some []
 | .tmp t::r=>(gL P r).map (.tmp t :: ·)
 | .cell a t::r=>match Ge P t,gL P r with
  | some k,some l=>some (.cell a k::l)
  | _,_=>none
structure SF where
 code:SC
 res:List SR
 n:Nat
def ai:List SC->SC
 | []=>.skip
 | [a]=>a
 | a::b::l=>.seq a (ai (b::l))
abbrev cz (k a b:Nat):Option Nat × SB:=(none,.op (.store k (.tmp a) (.tmp b)))
abbrev bL (a k:Nat):Option Nat × SB:=(some a,.op (.eW (.val (.emp k))))
abbrev eZ (d s b x y:Nat):Option Nat × SB:=(some d,.op (.app s b (.tmp x) (.tmp y)))
abbrev aX (a:Nat) (x:SC):SC:=.cond (.tmp a) x .skip
abbrev bO (a:Nat) (x:SC):SC:=.cond (.tmp a) .skip x
abbrev bR (a:Nat) (x:SC):SC:=.block a (.loop x)
abbrev af (a b:Nat):Option Nat × SB:=(some a,.op (.eW (.tmp b)))
abbrev aT (a:Nat) (n:Int):Option Nat × SB:=(some a,.op (.eW (.val (.val (.int .i64 n)))))
abbrev bb (a:Nat) (n:Bool):Option Nat × SB:=(some a,.op (.eW (.val (.val (.bool n)))))
abbrev au (a b:Nat):Option Nat × SB:=(some a,.op (.load none (.tmp b)))
abbrev aV (a k b:Nat):Option Nat × SB:=(some a,.op (.load (some k) (.tmp b)))
abbrev aw (a k b:Nat):Option Nat × SB:=(some a,.op (.addr k (.tmp b)))
abbrev aL (a k b c:Nat):Option Nat × SB:=(some a,.op (.idx k (.tmp b) (.tmp c)))
abbrev cJ (a b c:Nat):Option Nat × SB:=(some a,.op (.pick (.tmp b) (.val (.val (.bool true))) (.tmp c)))
abbrev dA (a b c:Nat):Option Nat × SB:=(some a,.op (.pick (.tmp b) (.tmp c) (.val (.val (.bool false)))))
abbrev aS (a:Nat) (o:BinOp) (b c:Nat):Option Nat × SB:=(some a,.op (.arith o (.tmp b) (.tmp c)))
abbrev aI (a:Nat) (o:BinOp) (b:Nat) (n:Int):Option Nat × SB:=(some a,.op (.arith o (.tmp b) (.val (.val (.int .i64 n)))))
abbrev aM (a b:Nat):Option Nat × SB:=(some a,.op (.len (.tmp b)))
abbrev c7 (a k b:Nat):Option Nat × SB:=(some a,.op (.ext k (.tmp b)))
abbrev cO (a b:Nat):Option Nat × SB:=(some a,.op (.not (.tmp b)))
abbrev bZ (a b:Nat):Option Nat × SB:=(some a,.op (.kN (.tmp b)))
abbrev fU (a b:Nat):Option Nat × SB:=(some a,.op (.Er (.tmp b)))
abbrev lG (a f:Nat) (l:List SX):Option Nat × SB:=(some a,.call (.val (.fn f [] [])) l)
abbrev aU (a f:Nat) (l:List Nat):Option Nat × SB:=(some a,.call (.val (.fn f [] [])) (l.map .tmp))
abbrev ag (l:List (Option Nat × SB)):SC:=.region false [⟨none,l⟩]
def aJ (P:Program) (f:FuncId) (fz:List Nat):Option SF:=match P.funcs[f]? with
 | some fn=>match fn.body with
  | some c=>match dR P fn.ntmps fz c,gL P fn.results.toList,eh P f with
   | some sc,some rs,true=>some ⟨sc,rs,fn.ntmps⟩
   | _,_,_=>none
  | none=>none
 | none=>none
theorem sw {sz:Option Nat} {e:List V} {j:Nat} {K:V->Prop} (h:lj sz e j K):∃v,oJ sz e j=some v/\K v:=by
 cases sz with
 | none=>exact⟨_,by simp only[oJ];rw[abb h.1],h.2⟩
 | some n=>exact⟨_,by simp only[oJ];rw[abb h.1],h.2⟩
theorem ZM {P:Program} {s:SI} {T:Env} {H:View} {K:V->View->Prop} (h:wI P s T H K) {n:Nat} (r:H n=.dead):
  ∃v eff rd,sI P s T H n=some (v,eff,rd)/\K v (eff.view H n):=by
 unfold wI at h
 split at h
 .exact⟨_,_,_,rfl,h⟩
 .split at h
  .rename_i t D;exact⟨_,_,_,by simp only[sI,D];rfl,h⟩
  .exact h.elim
 .exact⟨_,_,_,by simp only[sI,nL];rw[abb h.1],h.2 n r⟩
 .exact⟨_,_,_,by simp only[sI];rw[abb h.1],h.2⟩
 .exact⟨_,_,_,by simp only[sI,nL];rw[abb h.1],h.2 n r⟩
 .split at h
  .rename_i id i j u
   split at h
   .rename_i es hH
    obtain⟨h1,f⟩:=h
    obtain⟨v,o,hk⟩:=sw f
    exact⟨_,_,_,by simp only[sI,zU,u,hH];rw[abb h1,o];rfl,hk⟩
   .exact h.elim
  .rename_i e j u
   obtain⟨v,o,hk⟩:=sw h
   exact⟨_,_,_,by simp only[sI,zU,u];rw[o];rfl,hk⟩
  .exact h.elim
 .split at h
  .rename_i e j u
   obtain⟨v,o,hk⟩:=sw h
   exact⟨_,_,_,by simp only[sI,u];rw[o];rfl,hk⟩
  .exact h.elim
 .split at h
  .rename_i id i j u
   split at h
   .rename_i esz es hH
    exact⟨_,_,_,by simp only[sI,F7,u,hH];rw[abb h.1],h.2⟩
   .exact h.elim
  .exact h.elim
 .split at h
  .rename_i d;exact⟨_,_,_,by simp only[sI,d];rfl,h⟩
  .rename_i d;exact⟨_,_,_,by simp only[sI,d];rfl,h⟩
  .rename_i d;exact⟨_,_,_,by simp only[sI,d];rfl,h⟩
  .exact h.elim
 .split at h
  .rename_i d;exact⟨_,_,_,by simp only[sI,CO,d];rfl,h⟩
  .rename_i d;exact⟨_,_,_,by simp only[sI,CO,d];rfl,h⟩
  .exact h.elim
 .split at h
  .rename_i cs d
   obtain⟨v,o,hk⟩:=sw h
   exact⟨_,_,_,by simp only[sI,d,o];rfl,hk⟩
  .exact h.elim
 .split at h
  .exact h.elim
  .rename_i q y
   split at h
   .rename_i d;exact⟨_,_,_,by simp only[sI,Hw,y,d];rw[abb h.1],h.2⟩
   .rename_i es d
    obtain⟨e,he,x,hk⟩:=h
    have A:q<es.length:=(abf.1 he).1
    have B:es.getD q []=e:=by simp[he]
    exact⟨_,_,_,by simp only[sI,Hw,y,d];rw[B,abb ⟨A,x⟩],hk⟩
   .exact h.elim
 .exact⟨_,_,_,rfl,h⟩
 .exact⟨_,_,_,rfl,h n r⟩
 .split at h
  .rename_i vs d;exact⟨_,_,_,by simp only[sI,d];rw[abb h.1],h.2⟩
  .exact h.elim
 .split at h
  .rename_i m d;exact⟨_,_,_,by simp only[sI,d];rfl,h⟩
  .exact h.elim
 .split at h
  .rename_i s d;exact⟨_,_,_,by simp only[sI,d];rfl,h⟩
  .exact h.elim
 .split at h
  .rename_i k a F b d g
   obtain⟨rfl,h⟩:=h
   split at h
   .rename_i v o;exact⟨_,_,_,by simp only[sI,CE,d,g,if_true,o];rfl,h⟩
   .exact h.elim
  .exact h.elim
 .split at h
  .rename_i a b d g
   split at h
   .exact⟨_,_,_,by simp only[sI,EA,d,g];rfl,h⟩
   .exact⟨_,_,_,by simp only[sI,EA,d,g];rfl,h⟩
   .exact h.elim
  .exact h.elim
 .split at h
  .rename_i s q d y
   obtain⟨b,p,hk⟩:=h
   exact⟨_,_,_,by simp only[sI,GZ,d,y,p];rfl,hk⟩
  .exact h.elim
 .split at h
  .rename_i t d;exact⟨_,_,_,by simp only[sI,d];rfl,h⟩
  .exact h.elim
 .split at h
  .rename_i b p;exact⟨_,_,_,by simp only[sI,p];rfl,h⟩
  .exact h.elim
 .split at h
  .rename_i d g;exact⟨_,_,_,by simp only[sI,d,g];rfl,h⟩
  .exact h.elim
 .split at h
  .rename_i d g;exact⟨_,_,_,by simp only[sI,d,g];rfl,h⟩
  .exact h.elim
 .split at h
  .rename_i d;exact⟨_,_,_,by simp only[sI,d];rfl,h⟩
  .exact h.elim
 .split at h
  .rename_i d g;exact⟨_,_,_,by simp only[sI,UQ,d,g];rw[aa9 (by omega)],h.2⟩
  .exact h.elim
 .split at h
  .rename_i cs p;exact⟨_,_,_,by simp only[sI,p];rfl,h⟩
  .exact h.elim
 .split at h
  .rename_i es p;exact⟨_,_,_,by simp only[sI,CR,p];rfl,h n r⟩
  .exact h.elim
 .split at h
  .rename_i v rd p;exact⟨_,_,_,by simp only[sI,p];rfl,h⟩
  .exact h.elim
 .split at h
  .rename_i l c x C
   obtain⟨h1,f,E⟩:=h
   by_cases e:c=0
   .exact⟨.emp 2,.none,[],by simp only[sI,Ft,x,C];rw[abb h1,abb e],f e⟩
   .exact⟨_,_,_,by simp only[sI,Ft,x,C];rw[abb h1,aa9 e],E e n r⟩
  .exact h.elim
 .split at h
  .rename_i xs rd w
   split at h
   .rename_i he
    split at h
    all_goals first
     | (rename_i d;exact⟨_,_,_,by simp only[sI,My,w];rw[abb he,d],h⟩)
     | exact h.elim
   .rename_i he
    obtain⟨h1,f⟩:=h
    split at f
    .rename_i d
     exact⟨_,_,_,by simp only[sI,My,w];rw[aa9 he,aa9 (by rw[h1];simp),d];simp only;rw[abb f.1],f.2 n r⟩
    .rename_i id off len esz d
     split at f
     .rename_i z es hH
      exact⟨_,_,_,by simp only[sI,My,w];rw[aa9 he,aa9 (by rw[h1];simp),d];simp only[hH];rw[abb f.1],f.2 n r⟩
     .exact f.elim
    .exact f.elim
  .exact h.elim
 .split at h
  .rename_i d
   split at h
   .rename_i l x;exact⟨_,_,_,by simp only[sI,d,x];rfl,h⟩
   .exact h.elim
  .exact h.elim
 .split at h
  .rename_i d;exact⟨_,_,_,by simp only[sI,d];rfl,h⟩
  .exact h.elim
 .exact h n r
def mG (k:Nat) (rd wr:List Nat) (call:Bool) (n n':Nat):Prop:=
 (k=0->rd=[]/\wr=[]/\call=false/\n'=n)/\(k<=1->wr=[])
theorem Xl {k:Nat} (h:k=2) {rd wr:List Nat} {call:Bool} {n a:Nat} : mG k rd wr call n a:=⟨λb=>by omega,λb=>by omega⟩
theorem tQ {P:Program} {o:Oper} {T:Env} {v:V} {eff:bq} {rd:List Nat} (h:eE P o T=some (v,eff,rd)):eff=.none/\rd=[]:=by
 unfold eE at h
 split at h
 .split at h
  .split at h
   .simp at h;exact⟨h.2.1.symm,h.2.2⟩
   .simp at h
  .simp at h
 .simp at h
theorem Vu {P:Program} {o:Oper} {T:Env} {H:View} {n:Nat} {v:V} {eff:bq} {rd:List Nat} (h:cL P o T H n=some (v,eff,rd)):
  (CP P o.op=0->eff=.none/\rd=[])/\(CP P o.op=1->eff.wr=[]):=by
 unfold CP
 split
 .rename_i s d x a
  simp only[cL,a] at h
  split
  .exact⟨λh=>by simp at h,λh=>by simp at h⟩
  .rename_i f
   rw[aa9 f] at h
   exact⟨λ_=>tQ h,λh=>by simp at h⟩
 .rename_i b args g a
  simp only[cL,a] at h
  split
  any_goals exact⟨λ_=>tQ h,λh=>by simp at h⟩
  .refine⟨λh=>by simp at h,λ_=>?_⟩
   split at h
   .split at h
    .simp only[x7] at h
     have c:∀ {v':V} {r:List Nat},some (v',bq.none,r)=some (v,eff,rd)->eff.wr=[]:=λe=>by
      simp only[abd,abz] at e;rw[<-e.2.1];rfl
     split at h
     .simp only[abj] at h
      obtain⟨_,_,h⟩:=h
      exact c (ach some h)
     .split at h
      .split at h
       .exact c h
       .simp at h
      .exact c h
      .simp at h
     .split at h
      .exact c h
      .simp at h
     .exact c h
     .simp at h
    .simp at h
   all_goals contradiction
  .exact⟨λh=>by simp at h,λh=>by simp at h⟩
 .rename_i t m k ok a
  refine⟨λh=>by simp at h,λ_=>?_⟩
  simp only[cL,a,fV] at h
  have c:∀ {v':V} {r:List Nat},some (v',bq.none,r)=some (v,eff,rd)->eff.wr=[]:=λe=>by
   simp only[abd,abz] at e;rw[<-e.2.1];rfl
  split at h
  .simp at h
  .split at h
   .simp at h
   .split at h
    .split at h
     .split at h
      .split at h
       .exact c h
       .simp at h
      .exact c h
      .simp at h
     .simp at h
    .simp at h
 .rename_i op t x y u a
  refine⟨λ_=>?_,λh=>by simp at h⟩
  simp only[cL,a] at h
  split at h
  .split at h
   .simp at h;exact⟨h.2.1.symm,h.2.2⟩
   .simp at h;exact⟨h.2.1.symm,h.2.2⟩
   .simp at h
  .exact tQ h
 .rename_i op t x a
  exact⟨λ_=>tQ (by simpa only [cL,a] using h),λh=>by simp at h⟩
 .rename_i t x i a
  exact⟨λ_=>tQ (by simpa only [cL,a] using h),λh=>by simp at h⟩
 .exact⟨λh=>by simp at h,λh=>by simp at h⟩
theorem vm {P:Program} {s:SI} {T:Env} {H:View} {n:Nat} {v:V} {eff:bq} {rd:List Nat} (h:sI P s T H n=some (v,eff,rd)):
  (wK P s=0->eff=.none/\rd=[])/\(wK P s=1->eff.wr=[]):=by
 have nn:∀ {v':V},some (v',bq.none,([]:List Nat))=some (v,eff,rd)->eff=.none/\rd=[]:=λe=>by
  simp only[abd,abz] at e;exact⟨e.2.1.symm,e.2.2.symm⟩
 have mp:∀ {α:Type} {x:Option α} {f:α->V},(x.map λa=>(f a,bq.none,([]:List Nat)))=some (v,eff,rd)->eff=.none/\rd=[]:=by
  intro α x f h
  simp only[abj] at h
  obtain⟨a,_,h⟩:=h
  simp only[abz] at h;exact⟨h.2.1.symm,h.2.2.symm⟩
 have nw:∀ {v':V} {o:ct} {r:List Nat},some (v',bq.new o,r)=some (v,eff,rd)->eff.wr=[]:=λe=>by
  simp only[abd,abz] at e;rw[<-e.2.1];rfl
 have n1:∀ {v':V} {r:List Nat},some (v',bq.none,r)=some (v,eff,rd)->eff.wr=[]:=λe=>by
  simp only[abd,abz] at e;rw[<-e.2.1];rfl
 unfold wK
 cases s<;>simp only[sI] at h
 case old op ty=>exact Vu (o:=oper op ty) h
 all_goals
  constructor<;>intro hk<;>first
   | (exfalso;revert hk;simp;done)
   | skip
 all_goals try simp only[zU,nL,CO,Hw,c6,Ft,CR,CE,UQ,EA,GZ] at h
 all_goals first
  | exact nn h
  | exact mp h
  | exact nw h
  | exact n1 h
  | skip
 all_goals repeat' (split at h)
 all_goals first
  | exact nn h
  | exact mp h
  | exact nw h
  | exact n1 h
  | (simp at h;done)
  | (simp only[abj,abz] at h;obtain⟨_,_,_,rfl,_⟩:=h;rfl)
end Gv
