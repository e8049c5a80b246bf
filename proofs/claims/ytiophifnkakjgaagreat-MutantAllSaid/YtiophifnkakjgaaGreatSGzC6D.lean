/-
  Part 4 of the proof: what the machine does and what the functions answer.
  Conditions: those that each lemma names.
-/
import Derived.Test.YtiophifnkakjgaaGreatSGzC6C
set_option linter.unusedSimpArgs false
set_option linter.unusedVariables false
set_option maxRecDepth 100000
set_option maxHeartbeats 20000000
namespace Gv
open Go
inductive SX where
 | tmp (t:Nat)
 | val (v:V)
 deriving Inhabited
def SX.of:Operand->SX
 | .tmp t=>.tmp t
 | .const v=>.val (gz v)
 | .global _=>.val .any
 | .func f=>.val (.fn f [] [])
def SX.at (T:Env):SX->V
 | .tmp t=>T t
 | .val v=>v
theorem SX.di (T:Env) (x:Operand):(SX.of x).at T=ev T x:=by cases x<;>rfl
inductive SI where
 | eT (x:SX)
 | pick (c a b:SX)
 | box (x:SX)
 | kO (x:SX)
 | alloc (z:List V)
 | build (z:List V) (parts:List (Nat × Nat × SX))
 | bN (len sz:Nat) (z:List V) (parts:List (Nat × SX))
 | load (sz:Option Nat) (a:SX)
 | CY (sz:Option Nat) (a:SX)
 | store (sz:Nat) (a x:SX)
 | Ex (x:SX)
 | addr (off:Nat) (x:SX)
 | field (off:Nat) (sz:Option Nat) (x:SX)
 | idx (sz:Nat) (x i:SX)
 | slice (sz:Nat) (x:SX) (lo hi:Option SX)
 | make (sz bytes:Nat) (z:List V) (l c:SX)
 | qS
 | tU (f:FuncId) (first cap:List SX)
 | ext (i:Nat) (x:SX)
 | len (x:SX)
 | sd (x:SX)
 | app (sz bytes:Nat) (x y:SX)
 | arith (op:BinOp) (x y:SX)
 | sh (left:Bool) (x y:SX)
 | Ay (op:BinOp) (x y:SX)
 | jv (x i:SX)
 | not (x:SX)
 | nil (eq:Bool) (k:Nat) (x y:SX)
 | beq (eq:Bool) (x y:SX)
 | mm (mx:Bool) (x y:SX)
 | conv (k:IntKind) (x:SX)
 | HC (x:SX)
 | ic (x:SX)
 | old (op:Op) (ty:TypeId)
 deriving Inhabited
def oJ:Option Nat->List V->Nat->Option V
 | some n,cs,off=>if off+n<=cs.length then some (.agg ((cs.drop off).take n)) else none
 | none,cs,off=>if off<cs.length then some (cs.getD off .any) else none
def zO (sz:Option Nat) (a:V) (H:View):Out:=match a with
 | .ptr id i j=>match H id with
  | .arr _ es=>if i<es.length then (oJ sz (es.getD i []) j).map λv=>(v,.none,[id]) else none
  | _=>none
 | .aR e j=>(oJ sz e j).map λv=>(v,.none,[])
 | _=>none
def FJ (sz:Nat) (a v:V) (H:View):Out:=match a with
 | .ptr id i j=>match H id with
  | .arr esz es =>
   if i<es.length/\v.cells.length=sz/\j+v.cells.length<=esz/\v.cells.all aK=true
   then some (.any,.fR id (.arr esz (es.set i (gv (es.getD i []) j v.cells))),[id]) else none
  | _=>none
 | _=>none
def oh (z:List V) (parts:List (Nat × Nat × V)):Option (List V):=match parts with
 | []=>some z
 | (off,size,x)::r=>if x.cells.length=size/\off+size<=z.length/\x.cells.all aK=true then oh (gv z off x.cells) r else none
def CD (len sz:Nat) (z:List V) (parts:List (Nat × V)) (n:Nat):Out:=
 match nB sz (List.replicate len z) parts with
 | some es=>some (.sl n 0 len sz,.new (.arr sz es),[])
 | none=>none
def CZ (off:Nat) (x:V):Out:=match x with
 | .ptr id i j=>some (.ptr id i (j+off),.none,[])
 | .aR e j=>some (.aR e (j+off),.none,[])
 | _=>none
def HL (sz:Nat) (x i:V):Out:=match asNat i with
 | none=>none
 | some q=>match x with
  | .sl id off len esz=>if q<len/\esz=sz then some (.ptr id (off+q) 0,.none,[]) else none
  | .aZ es=>if q<es.length/\(es.getD q []).length=sz then some (.aR (es.getD q []) 0,.none,[]) else none
  | _=>none
def cZ (sz:Nat) (x:V) (lo hi:Option V):Out:=match x with
 | .sl id off len esz=>match bound 0 lo,bound len hi with
  | some l,some h=>if l<=h/\h<=len/\esz=sz then some (.sl id (off+l) (h-l) esz,.none,[]) else none
  | _,_=>none
 | .aZ es=>match bound 0 lo,bound es.length hi with
  | some l,some h=>if l<=h/\h<=es.length/\(es.all λe=>e.length==sz)=true then some (.aZ ((es.drop l).take (h-l)),.none,[]) else none
  | _,_=>none
 | .emp k=>match bound 0 lo,bound 0 hi with
  | some 0,some 0=>some (.emp k,.none,[])
  | _,_=>none
 | _=>none
def F2 (sz bytes:Nat) (z:List V) (len cap:V) (n:Nat):Out:=match asNat len,asNat cap with
 | some l,some c =>
  if l<=c/\c<aF/\bytes*c<aF then
   (if c=0 then some (.emp 2,.none,[]) else some (.sl n 0 l sz,.new (.arr sz (List.replicate l z)),[]))
  else none
 | _,_=>none
def Mr (sz bytes:Nat) (s x:V) (H:View) (n:Nat):Out:=match bM H x with
 | some (xs,rd) =>
  if xs.isEmpty then (match s with
   | .emp _ | .eD | .aZ _ | .sl _ _ _ _=>some (s,.none,[])
   | _=>none)
  else if ¬ ((xs.all λe=>e.length==sz&&e.all aK)=true) then none
  else match s with
   | .emp _=>if xs.length*bytes<aF/\xs.length<aF then some (.sl n 0 xs.length sz,.new (.arr sz xs),rd) else none
   | .sl id off len esz=>match H id with
    | .arr _ es =>
     if off+len<=es.length/\esz=sz/\(len+xs.length)*bytes<aF/\len+xs.length<aF
     then some (.sl n 0 (len+xs.length) esz,.eT id (.arr esz ((es.drop off).take len++xs)),id::rd) else none
    | _=>none
   | _=>none
 | none=>none
def ja (op:BinOp) (k:IntKind) (a b:Int):Option Value:=match op with
 | .add=>some (.int k (k.wrap (a+b)))
 | .sub=>some (.int k (k.wrap (a-b)))
 | .mul=>some (.int k (k.wrap (a*b)))
 | .quo=>if b=0 then none else some (.int k (k.wrap (a.tdiv b)))
 | .rem=>if b=0 then none else some (.int k (a.tmod b))
 | .eql=>some (.bool (a==b))
 | .neq=>some (.bool (a != b))
 | .lss=>some (.bool (a<b))
 | .leq=>some (.bool (a<=b))
 | .gtr=>some (.bool (a>b))
 | .geq=>some (.bool (a≥b))
 | .or=>some (.int k (k.wrap (BitVec.ofInt k.bits a ||| BitVec.ofInt k.bits b).toNat))
 | .and=>some (.int k (k.wrap (BitVec.ofInt k.bits a &&& BitVec.ofInt k.bits b).toNat))
 | .xor=>some (.int k (k.wrap (BitVec.ofInt k.bits a ^^^ BitVec.ofInt k.bits b).toNat))
 | .andNot=>some (.int k (k.wrap (BitVec.ofInt k.bits a &&& ~~~(BitVec.ofInt k.bits b)).toNat))
 | _=>none
def B7 (op:BinOp) (x y:V):Out:=match x,y with
 | .val (.int k a),.val (.int k' b)=>if k=k' then (ja op k a b).map λv=>(.val v,.none,[]) else none
 | _,_=>none
def Px (left:Bool) (k:IntKind) (a b:Int):Int:=if left then k.wrap (a*2 ^ (min b.toNat k.bits)) else a.fdiv (2 ^ (min b.toNat k.bits))
def R6 (left:Bool) (x y:V):Out:=match x,y with
 | .val (.int k a),.val (.int _ b)=>if b<0 then none else some (.val (.int k (Px left k a b)),.none,[])
 | _,_=>none
def Vl:BinOp->Option Bool
 | .shl=>some true
 | .shr=>some false
 | _=>none
def jX (a b:ByteArray):Bool:=a.data.toList==b.data.toList
def DO (op:BinOp) (x y:V):Out:=match x,y with
 | .val (.string a),.val (.string b)=>match op with
  | .eql=>some (.val (.bool (jX a b)),.none,[])
  | .neq=>some (.val (.bool (!jX a b)),.none,[])
  | _=>none
 | _,_=>none
def Fc (x i:V):Out:=match x,asNat i with
 | .val (.string s),some q=>match s.data.toList[q]? with
  | some b=>some (.val (.int .u8 b.toNat),.none,[])
  | none=>none
 | _,_=>none
def DR:Option Bool->Option Bool->Option Bool
 | some true,some b=>some b
 | some b,some true=>some b
 | _,_=>none
theorem NM {P:Program} {t:TypeId} {k:Nat} (h:kH P t=some k) (x y:V):GX P t x y=DR (fV k x) (fV k y):=by
 simp only[GX,h]
 unfold DR
 split<;>simp_all
def oper (op:Op) (ty:TypeId):Oper:=⟨none,op,ty,"",#[],none⟩
theorem UT (P:Program) (o:Oper) (T:Env) (H:View) (n:Nat):cK P (oper o.op o.type) T H n=cK P o T H n:=by
 cases o;rfl
def sI (P:Program) (s:SI) (T:Env) (H:View) (n:Nat):Out:=match s with
 | .eT x=>some (x.at T,.none,[])
 | .pick c a b=>match c.at T with
  | .val (.bool t)=>some (if t then a.at T else b.at T,.none,[])
  | _=>none
 | .box x=>nP (x.at T).cells n
 | .kO x=>if (x.at T).cells.all aK=true then some (.aR (x.at T).cells 0,.none,[]) else none
 | .alloc z=>nP z n
 | .build z parts=>(oh z (parts.map λ(a,b,x)=>(a,b,x.at T))).map λcs=>(.agg cs,.none,[])
 | .bN len sz z parts=>CD len sz z (parts.map λ(i,x)=>(i,x.at T)) n
 | .load sz a=>zO sz (a.at T) H
 | .CY sz a=>match a.at T with
  | .aR e j=>(oJ sz e j).map λv=>(v,.none,[])
  | _=>none
 | .store sz a x=>FJ sz (a.at T) (x.at T) H
 | .Ex x=>match x.at T with
  | .ptr id i j=>some (.ptr id i j,.none,[])
  | .aR e j=>some (.aR e j,.none,[])
  | .fn f a b=>some (.fn f a b,.none,[])
  | _=>none
 | .addr off x=>CZ off (x.at T)
 | .field off sz x=>match x.at T with
  | .agg cs=>(oJ sz cs off).map λv=>(v,.none,[])
  | _=>none
 | .idx sz x i=>HL sz (x.at T) (i.at T)
 | .slice sz x lo hi=>cZ sz (x.at T) (lo.map (SX.at T)) (hi.map (SX.at T))
 | .make sz bytes z l c=>F2 sz bytes z (l.at T) (c.at T) n
 | .qS=>some (.mp n,.new (.map [] 0),[])
 | .tU f first cap=>some (.fn f (first.map (SX.at T)) (cap.map (SX.at T)),.none,[])
 | .ext i x=>match x.at T with
  | .bb vs=>if i<vs.length then some (vs.getD i .any,.none,[]) else none
  | _=>none
 | .len x=>(cJ (x.at T)).map λn=>(cO n,.none,[])
 | .sd x=>match x.at T with
  | .val (.string s)=>some (cO s.size,.none,[])
  | _=>none
 | .app sz bytes x y=>Mr sz bytes (x.at T) (y.at T) H n
 | .arith op x y=>B7 op (x.at T) (y.at T)
 | .sh l x y=>R6 l (x.at T) (y.at T)
 | .Ay op x y=>DO op (x.at T) (y.at T)
 | .jv x i=>Fc (x.at T) (i.at T)
 | .not x=>match x.at T with
  | .val (.bool t)=>some (.val (.bool (!t)),.none,[])
  | _=>none
 | .nil eq k x y=>match DR (fV k (x.at T)) (fV k (y.at T)) with
  | some b=>some (.val (.bool (if eq then b else !b)),.none,[])
  | none=>none
 | .beq eq x y=>match x.at T,y.at T with
  | .val (.bool a),.val (.bool b)=>some (.val (.bool (if eq then a==b else a != b)),.none,[])
  | _,_=>none
 | .mm mx x y=>match x.at T,y.at T with
  | .val (.int k a),.val (.int _ b)=>some (.val (.int k (if mx then (if b>a then b else a) else (if b<a then b else a))),.none,[])
  | _,_=>none
 | .conv k x=>match x.at T with
  | .val (.int _ a)=>some (.val (.int k (k.wrap a)),.none,[])
  | _=>none
 | .HC x=>match x.at T with
  | .aZ es=>(mz es).map λl=>(.val (.string ⟨l.toArray⟩),.none,[])
  | _=>none
 | .ic x=>match x.at T with
  | .val (.string s)=>some (.aZ (iA s),.none,[])
  | _=>none
 | .old op ty=>cK P (oper op ty) T H n
def Gd (P:Program) (t:TypeId):Option (Option Nat):=match P.info? t,uW P t with
 | some i,some true=>some (some i.size)
 | some _,some false=>some none
 | _,_=>none
theorem zd {P:Program} {t:TypeId} {k:Option Nat} (h:Gd P t=some k) (cs:List V) (j:Nat):so P t cs j=oJ k cs j:=by
 unfold Gd at h
 split at h
 .rename_i i h1 a
  simp at h;subst h;simp[so,h1,a,oJ]
 .rename_i i h1 a
  simp at h;subst h;simp[so,h1,a,oJ]
 .simp at h
def qR (P:Program) (t:TypeId):Option (Nat × Nat × List V):=match df P t with
 | some e=>match P.info? e,zeroCells P e with
  | some ti,some z=>if z.length=ti.size/\z.all aK=true/\ti.size≠0 then some (ti.size,ti.bytes,z) else none
  | _,_=>none
 | none=>none
theorem lh {P:Program} {t:TypeId} {sz a:Nat} {z:List V} (h:qR P t=some (sz,a,z)):
  ∃e ti,df P t=some e/\P.underlying t=some (.slice e)/\P.info? e=some ti/\zeroCells P e=some z/\z.length=ti.size/\z.all aK=true/\ti.size≠0/\sz=ti.size/\a=ti.bytes:=by
 unfold qR at h
 split at h
 .rename_i e he
  split at h
  .rename_i ti f h1 c
   split at h
   .rename_i b
    obtain⟨rfl,rfl,rfl⟩:=h
    have hu:P.underlying t=some (.slice e):=by
     unfold df at he;split at he
     .rename_i d;simp at he;subst he;exact d
     .simp at he
    exact⟨e,ti,he,hu,h1,c,b.1,b.2.1,b.2.2,rfl,rfl⟩
   .simp at h
  .simp at h
 .simp at h
def yL (P:Program) (t:TypeId):List (Nat × Operand)->Option (List (Nat × Nat × SX))
 | []=>some []
 | (i,x)::r=>match placeOf P t i,yL P t r with
  | some (a,b),some l=>some ((a,b,SX.of x)::l)
  | _,_=>none
def comp (P:Program) (o:Oper):SI:=match o.op with
 | .move x | .assign x=>.eT (SX.of x)
 | .pick c a b=>.pick (SX.of c) (SX.of a) (SX.of b)
 | .alloc e=>match zeroCells P e with
  | some z=>.alloc z
  | none=>.old o.op o.type
 | .box _ x=>.box (SX.of x)
 | .load t a=>match Gd P t with
  | some k=>.load k (SX.of a)
  | none=>.old o.op o.type
 | .store t a v=>match P.info? t with
  | some _=>.store (P.cellsOf t) (SX.of a) (SX.of v)
  | none=>.old o.op o.type
 | .nilCheck x=>.Ex (SX.of x)
 | .fieldAddr t x f=>match rS P t f with
  | some (off,s,_)=>if s=0 then .old o.op o.type else .addr off (SX.of x)
  | none=>.old o.op o.type
 | .field t x f=>match rS P t f with
  | some (off,_,ft)=>match Gd P ft with
   | some k=>.field off k (SX.of x)
   | none=>.old o.op o.type
  | none=>.old o.op o.type
 | .indexAddr t x i=>match qR P t with
  | some (sz,_,_)=>.idx sz (SX.of x) (SX.of i)
  | none=>.old o.op o.type
 | .slice t x lo hi none=>match qR P t with
  | some (sz,_,_)=>.slice sz (SX.of x) (lo.map SX.of) (hi.map SX.of)
  | none=>.old o.op o.type
 | .makeSlice t l c=>match qR P t with
  | some (sz,b,z)=>.make sz b z (SX.of l) (SX.of c)
  | none=>.old o.op o.type
 | .makeMap _ none=>.qS
 | .makeFunc (.func f) first cap=>.tU f (first.toList.map SX.of) (cap.toList.map SX.of)
 | .extract t i=>.ext i (SX.of t)
 | .build t parts=>match P.underlying t,zeroV P t with
  | some (.struct _),some (.agg z)=>if oe P t=true then
    (match yL P t parts.toList with
    | some ps=>.build z ps
    | none=>.old o.op o.type) else .old o.op o.type
  | _,_=>.old o.op o.type
 | .buildSlice t len parts=>match qR P t with
  | some (sz,_,z)=>if len=0/\parts.toList.isEmpty=true then .eT (.val (.emp 2)) else if len*sz<=2 ^ 24/\len≠0 then .bN len sz z (parts.toList.map λ(i,x)=>(i,SX.of x)) else .old o.op o.type
  | none=>.old o.op o.type
 | .call { callee:=.builtin b,args,argTypes }=>match b,args.toList with
  | .len,[x]=>if 1<=argTypes.size then (match P.underlying (argTypes.getD 0 0) with
   | some (.slice _)=>.len (SX.of x)
   | some .string=>.sd (SX.of x)
   | _=>.old o.op o.type) else .old o.op o.type
  | .append,[s,x]=>if 2<=argTypes.size/\qk P (argTypes.getD 1 0)=true then (match qR P (argTypes.getD 0 0) with
   | some (sz,b,_)=>.app sz b (SX.of s) (SX.of x)
   | none=>.old o.op o.type) else .old o.op o.type
  | .min,[x,y]=>.mm false (SX.of x) (SX.of y)
  | .max,[x,y]=>.mm true (SX.of x) (SX.of y)
  | _,_=>.old o.op o.type
 | .convert s d x=>match P.underlying s,P.underlying d with
  | some (.int _),some (.int k)=>.conv k (SX.of x)
  | _,_=>.old o.op o.type
 | .binOp op t x y _=>match kH P t with
  | some k=>match op with
   | .eql=>.nil true k (SX.of x) (SX.of y)
   | .neq=>.nil false k (SX.of x) (SX.of y)
   | _=>.old o.op o.type
  | none=>match P.underlying t with
   | some (.int _)=>match Vl op with
    | some l=>.sh l (SX.of x) (SX.of y)
    | none=>.arith op (SX.of x) (SX.of y)
   | some .string=>.Ay op (SX.of x) (SX.of y)
   | some .bool=>match op with
    | .eql=>.beq true (SX.of x) (SX.of y)
    | .neq=>.beq false (SX.of x) (SX.of y)
    | _=>.old o.op o.type
   | _=>.old o.op o.type
 | .unOp .not _ x=>.not (SX.of x)
 | .index t x i=>match P.underlying t with
  | some .string=>.jv (SX.of x) (SX.of i)
  | _=>.old o.op o.type
 | _=>.old o.op o.type
theorem IJ {P:Program} {t:TypeId} {T:Env}:∀(parts:List (Nat × Operand)) (c:List (Nat × Nat × SX)) (z:List V),yL P t parts=some c ->
  Ao (placeOf P t) z (parts.map λ(i,x)=>(i,ev T x))=oh z (c.map λ(a,b,x)=>(a,b,x.at T))
 | [],c,z,h=>by simp[yL] at h;subst h;rfl
 | (i,x)::r,c,z,h=>by
  simp only[yL] at h
  split at h
  .rename_i a b l h1 d
   simp at h;subst h
   simp only[abl,Ao,h1,oh,SX.di]
   split
   .exact IJ r l _ d
   .rfl
  .simp at h
theorem MV {P:Program} {o:Oper} {T:Env} {op:BinOp} {t u:TypeId} {x y:Operand} {k:IntKind} {a b:Int} {r:Value} (c:o.op=.binOp op t x y u) (d:ev T x=.val (.int k a)) (e:ev T y=.val (.int k b)) (h:ja op k a b=some r):
  eA P o T=some (.val r,.none,[]):=by
 unfold eA
 simp only[c,Op.operands]
 simp only[d,e,dC]
 cases op<;>simp only[ja,aaV,reduceCtorEq] at h
 all_goals first
  | (
   split at h
   .simp at h
   .rename_i f
    simp at h;subst h
    simp[execOp,c,d,e,dC,eqGuard,binOp,Op.intDiv,f,plain]
    try rfl)
  | (subst h;simp[execOp,c,d,e,dC,eqGuard,binOp,Op.intArith,Op.intCmp,Op.intBits,plain];try rfl)
theorem Vt {P:Program} {o:Oper} {T:Env} {op:BinOp} {t u:TypeId} {x y:Operand} {l:Bool} {v:V} {eff:bp} {rd:List Nat} (c:o.op=.binOp op t x y u) (d:Vl op=some l) (h:R6 l (ev T x) (ev T y)=some (v,eff,rd)):
  eA P o T=some (v,eff,rd):=by
 unfold R6 at h
 split at h
 .rename_i k a i b e f
  split at h
  .simp at h
  .rename_i g
   obtain⟨rfl,rfl,rfl⟩:=h
   unfold eA
   simp only[c,Op.operands]
   cases op<;>simp only[Vl,aaV,reduceCtorEq] at d
   all_goals
    subst d
    simp[execOp,c,e,f,dC,eqGuard,binOp,Op.shift,g,plain,Px]
    try rfl
 .simp at h
theorem Ss {P:Program} {o:Oper} {T:Env} {op:BinOp} {t u:TypeId} {x y:Operand} {v:V} {eff:bp} {rd:List Nat} (c:o.op=.binOp op t x y u) (h:DO op (ev T x) (ev T y)=some (v,eff,rd)):
  eA P o T=some (v,eff,rd):=by
 unfold DO at h
 split at h
 .rename_i a b d e
  unfold eA
  simp only[c,Op.operands,d,e,dC]
  have he:(a.toList==b.toList)=jX a b:=by simp[jX,ByteArray.toList_eq]
  split at h
  .simp at h;obtain⟨rfl,rfl,rfl⟩:=h
   simp[execOp,c,d,e,dC,eqGuard,binOp,Op.stringOp,plain,<-he];rfl
  .simp at h;obtain⟨rfl,rfl,rfl⟩:=h
   simp[execOp,c,d,e,dC,eqGuard,binOp,Op.stringOp,plain,<-he];rfl
  .simp at h
 .simp at h
theorem Qr {P:Program} {o:Oper} {T:Env} {t:TypeId} {x i:Operand} {v:V} {eff:bp} {rd:List Nat} (e:o.op=.index t x i) (hu:P.underlying t=some .string) (h:Fc (ev T x) (ev T i)=some (v,eff,rd)):
  eA P o T=some (v,eff,rd):=by
 unfold Fc at h
 split at h
 .rename_i s q f a
  split at h
  .rename_i b m
   simp at h;obtain⟨rfl,rfl,rfl⟩:=h
   unfold asNat at a
   split at a
   .rename_i k z g
    split at a
    .rename_i j
     simp at a;subst a
     have l:s[z.toNat]?=some b:=by
      obtain⟨c,rfl⟩:=aaX.1 m
      have d:z.toNat<s.size:=by rw[bsize] at c;exact c
      rw[getElem?_pos s z.toNat d]
      rfl
     unfold eA
     simp only[e,Op.operands,f,g,dC]
     simp[execOp,e,f,g,dC,Instr.index,asIntOf,underlying,program,hu,j,l,plain]
     simp[bk,hu,j,l,plain,bind,Sem.bind,pure]
     rfl
    .simp at a
   .simp at a
  .simp at h
 .simp at h
theorem S9 {P:Program} {o:Oper} {T:Env} {t:TypeId} {x:Operand} {b:Bool} (a:o.op=.unOp .not t x) (c:ev T x=.val (.bool b)):
  eA P o T=some (.val (.bool (!b)),.none,[]):=by
 unfold eA
 simp only[a,Op.operands,c,dC]
 simp[execOp,a,c,dC,Op.unary,plain]
 rfl
theorem kn {α β:Type} (P:Program) (s:Sem α) (f:α->β):bk P (Functor.map f s)=(bk P s).map f:=by
 show bk P (s >>= λa=>pure (f a))=_
 rw[aY]
 cases bk P s<;>rfl
theorem dA {P:Program} {t:TypeId} {d:TypeDesc} (h:P.underlying t=some d):bk P (underlying t)=some d:=by
 simp only[underlying,program,aY]
 simp[bk,h]
 rfl
theorem AO {P:Program} {t:TypeId} {a b:Bool} (hu:P.underlying t=some .bool):bk P (Op.equal t (.bool a) (.bool b))=some (a==b):=by
 rw[lf]
 generalize 9999=d
 simp only[Op.equalIn,aY,dA hu,abk]
 rfl
theorem IT {P:Program} {o:Oper} {T:Env} {op:BinOp} {t u:TypeId} {x y:Operand} {a b:Bool} {r:Bool} (c:o.op=.binOp op t x y u) (hu:P.underlying t=some .bool) (d:ev T x=.val (.bool a)) (e:ev T y=.val (.bool b))
  (hr:(op=.eql/\r=(a==b))∨(op=.neq/\r=(a != b))):
  eA P o T=some (.val (.bool r),.none,[]):=by
 unfold eA
 simp only[c,Op.operands,d,e,dC]
 rcases hr with ⟨rfl,rfl⟩ | ⟨rfl,rfl⟩
 .simp[execOp,c,d,e,dC,eqGuard,binOp,kn,aY,AO hu,plain]
  try simp[bk,pure,plain]
 .simp[execOp,c,d,e,dC,eqGuard,binOp,kn,aY,AO hu,plain]
  try simp[bk,pure,plain,bne]
theorem PV {P:Program} {o:Oper} {T:Env} {s d:TypeId} {x:Operand} {f k b:IntKind} {a:Int} (c:o.op=.convert s d x) (g:P.underlying s=some (.int f)) (h:P.underlying d=some (.int k)) (e:ev T x=.val (.int b a)):
  eA P o T=some (.val (.int k (k.wrap a)),.none,[]):=by
 unfold eA
 simp only[c,Op.operands,e,dC]
 have:bk P (convert s d (.int b a))=some (.int k (k.wrap a)):=by
  simp only[convert,aY,dA g,dA h,abk]
  rfl
 simp[execOp,c,e,dC,kn,this,plain]
theorem Kq {P:Program} {o:Oper} {T:Env} {bi:Builtin} {x y:Operand} {k d:IntKind} {a b:Int} {args:Array Operand} {c:Array TypeId} {r:Int} (e:o.op=.call { callee:=.builtin bi,args:=args,argTypes:=c }) (h:args.toList=[x,y])
  (f:ev T x=.val (.int k a)) (g:ev T y=.val (.int d b)) (hr:(bi=.max/\r=if b>a then b else a)∨(bi=.min/\r=if b<a then b else a)):
  eA P o T=some (.val (.int k r),.none,[]):=by
 obtain rfl:args = #[x,y]:=by rw[<-Array.toArray_toList (xs:=args),h]
 unfold eA
 rcases hr with ⟨rfl,rfl⟩ | ⟨rfl,rfl⟩
 .have:bk P (Builtin.max_ c o.type #[.int k a,.int d b])=some (.int k (if b>a then b else a)):=rfl
  simp[e,Op.operands,Call.operands,f,g,dC,execOp,resolve,invoke,builtin,kn,this,plain]
 .have:bk P (Builtin.min_ c o.type #[.int k a,.int d b])=some (.int k (if b<a then b else a)):=rfl
  simp[e,Op.operands,Call.operands,f,g,dC,execOp,resolve,invoke,builtin,kn,this,plain]
theorem FP (l:List Operand) (T:Env):(l.map SX.of).map (SX.at T)=l.map (ev T):=by
 rw[List.map_map];congr 1;funext x;exact SX.di T x
theorem XE (l:Option Operand) (T:Env):(l.map SX.of).map (SX.at T)=l.map (ev T):=by
 cases l<;>simp[SX.di]
theorem Xi (l:List (Nat × Operand)) (T:Env):(l.map λ(i,x)=>(i,SX.of x)).map (λ(i,x)=>(i,SX.at T x))=l.map λ(i,x)=>(i,ev T x):=by
 rw[List.map_map];congr 1;funext x;simp[SX.di]
theorem Nk {P:Program} {o:Oper} {T:Env} {H:View} {n:Nat} {v:V} {eff:bp} {rd:List Nat} (h:sI P (comp P o) T H n=some (v,eff,rd)):
  cK P o T H n=some (v,eff,rd):=by
 have old:∀ {s:SI},s=.old o.op o.type->sI P s T H n=some (v,eff,rd)->cK P o T H n=some (v,eff,rd):=λe h=>by rw[e] at h;simp only[sI,UT] at h;exact h
 unfold comp at h
 split at h
 .rename_i x g;simp only[sI,SX.di] at h;simp only[cK,g];exact h
 .rename_i x g;simp only[sI,SX.di] at h;simp only[cK,g];exact h
 .rename_i c a b g;simp only[sI,SX.di] at h;simp only[cK,g];exact h
 .rename_i e g
  split at h
  .rename_i z R;simp only[sI] at h;simp only[cK,g,R];exact h
  .exact old rfl h
 .rename_i t x g;simp only[sI,SX.di] at h;simp only[cK,g];exact h
 .rename_i t a g
  split at h
  .rename_i k hk
   simp only[sI,SX.di,zO] at h
   simp only[cK,g,oM,zd hk]
   exact h
  .exact old rfl h
 .rename_i t a x g
  split at h
  .rename_i ti S
   simp only[sI,SX.di,FJ] at h
   simp only[cK,g,s8,S,Option.isSome_some,and_true]
   exact h
  .exact old rfl h
 .rename_i x g;simp only[sI,SX.di] at h;simp only[cK,g];exact h
 .rename_i t x f g
  split at h
  .rename_i off s ft I
   split at h
   .exact old rfl h
   .rename_i N
    simp only[sI,SX.di,CZ] at h
    simp only[cK,g,mX,I,N,if_false]
    exact h
  .exact old rfl h
 .rename_i t x f g
  split at h
  .rename_i off s ft I
   split at h
   .rename_i k hk
    simp only[sI,SX.di] at h
    simp only[cK,g,yg,I]
    split at h
    .rename_i cs U;simp only[U,zd hk];exact h
    .simp at h
   .exact old rfl h
  .exact old rfl h
 .rename_i t x i g
  split at h
  .rename_i sz b z hk
   obtain⟨e,ti,h1,J,w,D,K,O,L,rfl,rfl⟩:=lh hk
   simp only[sI,SX.di,HL] at h
   simp only[cK,g,nk,J,w]
   exact h
  .exact old rfl h
 .rename_i t x lo hi g
  split at h
  .rename_i sz b z hk
   obtain⟨e,ti,h1,J,w,D,K,O,L,rfl,rfl⟩:=lh hk
   simp only[sI,SX.di,XE] at h
   simp only[cK,g]
   have q:vt P t (ev T x) (lo.map (ev T)) (hi.map (ev T)) none=some (v,eff,rd):=by
    simp only[vt,h1,w]
    unfold cZ at h
    split at h
    .rename_i p;rw[p];exact h
    .rename_i p;rw[p];exact h
    .rename_i p;rw[p];exact h
    .simp at h
   unfold cZ at h
   split at h
   .rename_i p;rw[p] at q ⊢;exact q
   .rename_i p;rw[p] at q ⊢;exact q
   .rename_i p;rw[p] at q ⊢;exact q
   .simp at h
  .exact old rfl h
 .rename_i t l c g
  split at h
  .rename_i sz b z hk
   obtain⟨e,ti,h1,J,w,D,K,O,L,rfl,rfl⟩:=lh hk
   simp only[sI,SX.di,F2] at h
   simp only[cK,g,nA,h1,w]
   split at h
   .rename_i l' c' hl G
    simp only[hl,G,L,if_false,D,K,O,and_self,if_true]
    exact h
   .simp at h
  .exact old rfl h
 .rename_i t g;simp only[sI] at h;simp only[cK,g];exact h
 .rename_i f first cap g;simp only[sI,FP] at h;simp only[cK,g];exact h
 .rename_i t i g;simp only[sI,SX.di] at h;simp only[cK,g];exact h
 .rename_i t parts g
  split at h
  .rename_i fs z h1 J
   split at h
   .rename_i w
    split at h
    .rename_i ps D
     simp only[cK,g,ye,h1,J,w,if_true]
     have:=IJ (T:=T) parts.toList ps z D
     rw[this]
     exact h
    .exact old rfl h
   .exact old rfl h
  .exact old rfl h
 .rename_i t len parts g
  split at h
  .rename_i sz b z hk
   obtain⟨e,ti,h1,J,w,D,K,O,L,rfl,rfl⟩:=lh hk
   split at h
   .rename_i G
    obtain⟨rfl,G⟩:=G
    simp only[cK,g,jk,h1,w]
    rw[List.isEmpty_iff] at G
    rw[aaR (by omega),aaT trivial,G]
    exact h
   split at h
   .rename_i G
    simp only[sI,Xi,CD] at h
    simp only[cK,g,jk,h1,w]
    rw[aaR (by omega),aaR G.2,aaR L]
    simp only[D,K,O,and_self,if_true]
    exact h
   .exact old rfl h
  .exact old rfl h
 .rename_i b args ab g
  split at h
  .rename_i x j
   split at h
   .rename_i E
    simp only[cK,g,j,E,if_true,xp]
    split at h
    .rename_i e hu
     simp only[sI,SX.di] at h
     simp only[hu];exact h
    .rename_i hu
     simp only[sI,SX.di] at h
     simp only[hu]
     exact h
    .have:=old rfl h
     simpa only [cK,g,j,E,if_true,xp] using this
   .exact old rfl h
  .rename_i s x j
   split at h
   .rename_i E
    split at h
    .rename_i sz b z hk
     obtain⟨e,ti,h1,J,w,D,K,O,L,rfl,rfl⟩:=lh hk
     simp only[sI,SX.di] at h
     simp only[cK,g,j]
     rw[aaT E]
     unfold Mr at h
     split at h
     .rename_i xs ae W
      simp only[pG,h1,W,w]
      have R:(zeroCells P e).map List.length=some ti.size:=by rw[D];simp[K]
      split at h
      .rename_i A;rw[aaT A];exact h
      .rename_i A
       rw[aaR A]
       split at h
       .simp at h
       .rename_i Q
        rw[aaR (by
         rintro (p | p | p)
         .exact L p
         .exact p R
         .exact Q p)]
        exact h
     .simp at h
    .exact old rfl h
   .exact old rfl h
  .rename_i x y j
   simp only[sI,SX.di] at h
   simp only[cK,g]
   split at h
   .rename_i k a X b B F
    have:=Kq (P:=P) (T:=T) g j B F (.inr ⟨rfl,rfl⟩)
    rw[this];exact h
   .simp at h
  .rename_i x y j
   simp only[sI,SX.di] at h
   simp only[cK,g]
   split at h
   .rename_i k a X b B F
    have:=Kq (P:=P) (T:=T) g j B F (.inl ⟨rfl,rfl⟩)
    rw[this];exact h
   .simp at h
  .exact old rfl h
 .rename_i s d x g
  split at h
  .rename_i k0 k N Z
   simp only[sI,SX.di] at h
   simp only[cK,g]
   split at h
   .rename_i X a B
    have M:¬ (mw P s d=true):=by simp[mw,N,Z]
    rw[aaR M,PV g N Z B];exact h
   .simp at h
  .exact old rfl h
 .rename_i op t x y u g
  split at h
  .rename_i k hk
   have C:(kH P t).isSome=true:=by rw[hk];rfl
   split at h
   .simp only[sI,SX.di] at h
    simp only[cK,g]
    rw[aaT C,NM hk]
    split at h
    .rename_i b M;rw[M];simpa using h
    .simp at h
   .simp only[sI,SX.di] at h
    simp only[cK,g]
    rw[aaT C,NM hk]
    split at h
    .rename_i b M;rw[M];simpa using h
    .simp at h
   .exact old rfl h
  .rename_i hk
   have m:¬ ((kH P t).isSome=true):=by rw[hk];simp
   split at h
   .split at h
    .rename_i l N
     simp only[sI,SX.di] at h
     simp only[cK,g]
     rw[aaR m]
     exact Vt g N h
    .simp only[sI,SX.di,B7] at h
     simp only[cK,g]
     split at h
     .rename_i k a X b B F
      split at h
      .rename_i Y
       subst Y
       simp only[aa0] at h
       obtain⟨r,hr,h⟩:=h
       rw[aaR m,MV g B F hr];exact abY some h
      .simp at h
     .simp at h
   .simp only[sI,SX.di] at h
    simp only[cK,g]
    rw[aaR m]
    exact Ss g h
   .rename_i hu
    split at h
    .simp only[sI,SX.di] at h
     simp only[cK,g]
     split at h
     .rename_i a b B F
      rw[aaR m,IT g hu B F (.inl ⟨rfl,rfl⟩)];simpa using h
     .simp at h
    .simp only[sI,SX.di] at h
     simp only[cK,g]
     split at h
     .rename_i a b B F
      rw[aaR m,IT g hu B F (.inr ⟨rfl,rfl⟩)];simpa using h
     .simp at h
    .exact old rfl h
   .exact old rfl h
 .rename_i t x g
  simp only[sI,SX.di] at h
  simp only[cK,g]
  split at h
  .rename_i b M;rw[S9 g M];exact h
  .simp at h
 .rename_i t x i g
  split at h
  .rename_i hu
   simp only[sI,SX.di] at h
   simp only[cK,g]
   exact Qr g hu h
  .exact old rfl h
 .exact old rfl h
theorem Ws {P:Program} {sz:Option Nat} {a:SX} {T:Env} {H:View} {n:Nat} {v:V} {eff:bp} {rd:List Nat} (h:sI P (.CY sz a) T H n=some (v,eff,rd)):sI P (.load sz a) T H n=some (v,eff,rd):=by
 simp only[sI] at h
 simp only[sI,zO]
 split at h
 .rename_i e j b;rw[b];exact h
 .simp at h
def toStr (P:Program) (s d:TypeId):Bool:=match P.underlying s,P.underlying d with
 | some (.slice e),some .string=>(match P.underlying e with | some (.int .u8)=>true | _=>false)
 | _,_=>false
def yG (P:Program) (s d:TypeId):Bool:=match P.underlying s,P.underlying d with
 | some .string,some (.slice e)=>(match P.underlying e with | some (.int .u8)=>true | _=>false)
 | _,_=>false
theorem QZ {P:Program} {s d:TypeId} (h:toStr P s d=true):∃e,P.underlying s=some (.slice e)/\P.underlying d=some .string/\P.underlying e=some (.int .u8):=by
 unfold toStr at h
 split at h
 .rename_i e h1 a
  split at h
  .rename_i b;exact⟨e,h1,a,b⟩
  .simp at h
 .simp at h
theorem DL {P:Program} {s d:TypeId} (h:yG P s d=true):∃e,P.underlying s=some .string/\P.underlying d=some (.slice e)/\P.underlying e=some (.int .u8):=by
 unfold yG at h
 split at h
 .rename_i e h1 a
  split at h
  .rename_i b;exact⟨e,h1,a,b⟩
  .simp at h
 .simp at h
theorem XC {P:Program} {s d ty:TypeId} {x:Operand} {T:Env} {H:View} {n:Nat} {v:V} {eff:bp} {rd:List Nat} (a:toStr P s d=true) (h:sI P (.HC (SX.of x)) T H n=some (v,eff,rd)):sI P (.old (.convert s d x) ty) T H n=some (v,eff,rd):=by
 obtain⟨e,h1,b,c⟩:=QZ a
 simp only[sI,SX.di] at h
 simp only[sI,cK,oper,mw,h1,if_true,oS,b,c]
 split at h
 .rename_i es f
  rw[f]
  exact h
 .simp at h
inductive SB where
 | op (s:SI)
 | call (f:SX) (args:List SX)
 | oQ (f:SX) (args:List SX)
 deriving Inhabited
structure SO where
 dst:Option Nat
 guard:Option (Nat × Bool)
 b:SB
 deriving Inhabited
structure SG where
 guard:Option (Nat × Bool)
 ops:List (Option Nat × SB)
 deriving Inhabited
inductive SC where
 | skip
 | region (quiet:Bool) (gs:List SG)
 | sn (aps:List (Nat × Nat)) (gs:List SG)
 | yM (tol:Nat × Nat × Nat) (aps:List (Nat × Nat)) (gs:List SG)
 | seq (x y:SC)
 | cond (c:SX) (x y:SC)
 | block (id:Nat) (c:SC)
 | loop (c:SC)
 | exit (id:Nat)
 | ret
 | scope (l:Nat) (c r:SC)
 | label (l:Nat)
 | goto (l:Nat)
 deriving Inhabited
def pU:SC->Nat->Option SC
 | .seq a b,l=>match pU a l with
  | some r=>some (.seq r b)
  | none=>pU b l
 | .label l',l=>if l'==l then some .skip else none
 | _,_=>none
def L5:SC->Option Nat
 | .seq a b=>match L5 a with
  | some l=>some l
  | none=>L5 b
 | .label l=>some l
 | _=>none
def CQ (l:Nat):Exit->Prop->Prop->Prop
 | .goto l',a,_=>l'=l/\a
 | _,_,b=>b
inductive SR where
 | tmp (t:Nat)
 | cell (t:Nat) (sz:Option Nat)
 deriving Inhabited
def CT (P:Program) (op:Op):Nat:=match op with
 | .convert s d _=>if mw P s d=true then 2 else 0
 | .call { callee:=.builtin b,.. }=>match b with
  | .min | .max | .complex | .real | .imag=>0
  | .len=>1
  | _=>2
 | .lookup ..=>1
 | .binOp .. | .unOp .. | .index ..=>0
 | _=>2
def xn (P:Program):SI->Nat
 | .eT _ | .pick .. | .kO _ | .Ex _ | .addr .. | .field .. | .idx .. | .slice .. | .tU .. | .ext .. | .len _ | .sd _ | .arith .. | .sh .. | .Ay .. | .jv .. | .not _ | .nil .. | .build .. | .CY .. | .beq .. | .mm .. | .conv .. | .HC _ | .ic _=>0
 | .load .. | .box _ | .alloc _ | .bN .. | .make .. | .qS=>1
 | .store .. | .app ..=>2
 | .old op _=>CT P op
def jY (P:Program) (quiet:Bool):SB->Nat
 | .op s=>xn P s
 | .call ..=>if quiet then 1 else 2
 | .oQ ..=>1
structure Fz where
 l:List Nat
 fr:Bool
def B4 (P:Program) (fr:Bool):SI->SI
 | .load k a=>if fr then .CY k a else .load k a
 | .old (.convert s d x) ty=>if fr&&toStr P s d then .HC (SX.of x) else .old (.convert s d x) ty
 | s=>s
def oL (P:Program) (fz:Fz) (o:Oper):SB:=match o.op with
 | .call { callee:=.value f,args,.. }=>if (match o.dst with | some d=>fz.l.contains (200000+d) | none=>false) then .oQ (SX.of f) (args.toList.map SX.of) else .call (SX.of f) (args.toList.map SX.of)
 | .box _ x=>if (match o.dst with | some d=>fz.l.contains d | none=>false) then .op (.kO (SX.of x)) else .op (.box (SX.of x))
 | .convert s d x=>if (match o.dst with | some t=>fz.l.contains t | none=>false)&&yG P s d then .op (.ic (SX.of x)) else .op (B4 P fz.fr (comp P o))
 | _=>.op (B4 P fz.fr (comp P o))
def ym (n:Nat) (all:List Oper) (o:Oper):Option (Option (Nat × Bool)):=match o.guard with
 | none=>some none
 | some (j,want)=>match (all[j]?).bind (·.dst) with
  | some d=>if d<n then some (some (d,want)) else none
  | none=>none
def JQ (P:Program) (n:Nat) (all:List Oper) (fz:Fz) (o:Oper):Option SO:=
 if uz n o then (ym n all o).map λg=>⟨o.dst,g,oL P fz o⟩ else none
def en (P:Program) (n:Nat) (all:List Oper) (fz:Fz):List Oper->Option (List SO)
 | []=>some []
 | o::r=>match JQ P n all fz o,en P n all fz r with
  | some s,some l=>some (s::l)
  | _,_=>none
def SG.flat (g:SG):List SO:=g.ops.map λ(d,b)=>⟨d,g.guard,b⟩
def oN (gs:List SG):List SO:=(gs.map SG.flat).flatten
def Qv (g:Option (Nat × Bool)) (s:SO):Bool:=match g,s.guard with
 | none,none=>true
 | some (d,w),some (d',w')=>d==d'&&w==w'&&s.dst != some d
 | _,_=>false
def group:List SO->List SG
 | []=>[]
 | s::r=>match group r with
  | g::gs=>if Qv g.guard s then ⟨g.guard,(s.dst,s.b)::g.ops⟩::gs else ⟨s.guard,[(s.dst,s.b)]⟩::g::gs
  | []=>[⟨s.guard,[(s.dst,s.b)]⟩]
theorem V6 {g:Option (Nat × Bool)} {s:SO} (h:Qv g s=true):s.guard=g:=by
 unfold Qv at h
 grind
theorem iw:∀l:List SO,oN (group l)=l
 | []=>rfl
 | s::r=>by
  have a:=iw r
  simp only[group]
  split
  .rename_i g gs c
   rw[c] at a
   split
   .rename_i e
    have:=V6 e
    rw[<-a]
    cases s with
    | mk d f b=>grind [oN,SG.flat]
   .rw[<-a];simp[oN,SG.flat]
  .rename_i c
   rw[c] at a
   rw[<-a];simp[oN,SG.flat]
def HA (o:Oper):Bool:=match o.op with
 | .load ..=>true
 | _=>false
def DP (o:Oper):Bool:=match o.op with
 | .alloc _=>true
 | _=>false
def mj (o:Oper):Option Nat:=match o.op,o.guard with
 | .store _ (.tmp t) _,none=>some t
 | _,_=>none
def YZ (all:List Oper) (j k t:Nat):Bool:=match all[j]? with
 | some o=>o.dst==some t&&o.guard.isNone&&DP o&&((all.drop (j+1)).take (k-(j+1))).all λo'=>o'.dst != some t
 | none=>false
def CS (all:List Oper) (i k:Nat):Bool:=match all[i]?,all[k]? with
 | some a,some b=>HA a&&(match mj b with
  | some t=>(List.range k).any λj=>decide (i<j)&&YZ all j k t
  | none=>false)
 | _,_=>false
def JK (all:List Oper) (ls:List Nat):Bool:=
 let b:=gW all []
 ls.zipIdx.all λ(x,i)=>ls.zipIdx.all λ(y,k)=>!decide (i<k)||ordered b i k||x==0||y==0||(decide (x<=1)&&decide (y<=1))||CS all i k
def uU (o:Oper):Option Nat:=match o.op with
 | .load _ (.tmp t)=>some t
 | _=>none
def stays (all:List Oper) (i t:Nat):Bool:=(all.drop i).all λo=>o.dst != some t
def Fh (all:List Oper) (i k:Nat):Option (Nat × Nat):=match all[i]?,all[k]? with
 | some a,some b=>match uU a,mj b with
  | some s,some t=>if stays all i s&&stays all k t then some (s,t) else none
  | _,_=>match mj a,uU b with
   | some t,some s=>if stays all i t&&stays all k s then some (s,t) else none
   | _,_=>none
 | _,_=>none
def Ck (all:List Oper) (x i y k:Nat):Bool:=!decide (i<k)||ordered (gW all []) i k||x==0||y==0||(decide (x<=1)&&decide (y<=1))||CS all i k
def mO (all:List Oper) (ls:List Nat):List (Nat × Nat):=ls.zipIdx.flatMap λ(x,i)=>ls.zipIdx.filterMap λ(y,k)=>if Ck all x i y k then none else some (i,k)
def EO (all:List Oper):List (Nat × Nat)->Option (List (Nat × Nat))
 | []=>some []
 | (i,k)::r=>match Fh all i k,EO all r with
  | some p,some l=>some (p::l)
  | _,_=>none
def RE (o:Oper):Option Nat:=match o.op,o.guard with
 | .call { callee:=.builtin .append,args,.. },none=>match args.toList with
  | [.tmp t,_]=>some t
  | _=>none
 | _,_=>none
def rT (o:Oper):Option Nat:=match mj o with
 | some t=>some t
 | none=>RE o
def Ks (o:Oper):Bool:=match o.op with
 | .buildSlice ..=>true
 | .alloc _=>true
 | _=>false
def newAt (all:List Oper) (k:Nat):Bool:=match all[k]? with
 | some b=>Ks b
 | none=>false
def Ht (all:List Oper) (i k:Nat):Option (Nat × Nat):=match all[i]?,all[k]? with
 | some a,some b=>match uU a,rT b with
  | some s,some t=>if stays all i s&&stays all k t then some (s,t) else none
  | _,_=>match rT a,uU b with
   | some t,some s=>if stays all i t&&stays all k s then some (s,t) else none
   | _,_=>none
 | _,_=>none
def JH (all:List Oper) (ls:List Nat) (i k:Nat):Option (Nat × Nat × Nat):=match all[i]?,all[k]? with
 | some a,some b=>match a.op,b.op,a.guard,b.guard with
  | .lookup t (.tmp m) (.tmp q) false,.mapEntry t' (.tmp m') (.tmp q'),none,none =>
   if t==t'&&m==m'&&q==q'&&stays all i m&&stays all i q&&stays all k m&&stays all k q&&decide (i<k)&&(List.range k).all λj=>decide (ls.getD j 2<=1) then some (t,m,q) else none
  | _,_,_,_=>none
 | _,_=>none
def JB (all:List Oper) (ls:List Nat) (tp:Option (Nat × Nat)):List (Nat × Nat):=(mO all ls).filter λp=>!newAt all p.2&&tp != some p
def CJ (o:Oper):Option (Nat × Nat × Nat):=match o.op,o.guard,o.dst with
 | .call { callee:=.builtin .append,args,.. },none,some d=>match args.toList with
  | [.tmp t,.tmp y]=>some (t,y,d)
  | _=>none
 | _,_,_=>none
def Ha (all:List Oper) (i k:Nat):Option (List (Nat × Nat)):=match all[i]?,all[k]? with
 | some a,some b=>match CJ a,CJ b with
  | some (t,y,d),some (t',y',_)=>if stays all i t&&stays all i y&&stays all (i+1) d&&stays all k t'&&stays all k y' then some [(t,t'),(t,y'),(t',y),(d,t')] else none
  | _,_=>none
 | _,_=>none
def CR (all:List Oper) (i k:Nat):Option (List (Nat × Nat)):=match Ht all i k with
 | some p=>some [p]
 | none=>Ha all i k
def yT (all:List Oper):List (Nat × Nat)->Option (List (Nat × Nat))
 | []=>some []
 | (i,k)::r=>match CR all i k,yT all r with
  | some p,some l=>some (p++l)
  | _,_=>none
def wX (g:SG):Bool:=match g.guard with
 | none=>true
 | some (d,_)=>g.ops.all λx=>x.1 != some d
def uA (P:Program) (n:Nat) (fz:Fz) (ops:List Oper) (draw quiet:Bool):Option SC:=match en P n ops fz ops with
 | none=>none
 | some l=>if !(group l).all wX then none else
  if draw then (if ox ops&&JK ops (l.map λs=>jY P quiet s.b) then some (.region quiet (group l)) else none)
  else some (.region quiet (group l))
def Fe (P:Program) (n:Nat) (fz:Fz) (ops:List Oper):Option SC:=match en P n ops fz ops with
 | none=>none
 | some l=>if !(group l).all wX then none else
  if ox ops then (EO ops (mO ops (l.map λs=>jY P false s.b))).map λaps=>.sn aps (group l) else none
def XL (all:List Oper) (ls:List Nat):Option (Nat × Nat):=(mO all ls).find? λp=>(JH all ls p.1 p.2).isSome
def FI (P:Program) (n:Nat) (fz:Fz) (ops:List Oper):Option SC:=match en P n ops fz ops with
 | none=>none
 | some l=>if !(group l).all wX then none else
  if ox ops then
   (match XL ops (l.map λs=>jY P false s.b) with
   | none=>(yT ops (JB ops (l.map λs=>jY P false s.b) none)).map λaps=>.sn aps (group l)
   | some p=>match JH ops (l.map λs=>jY P false s.b) p.1 p.2 with
    | some tol=>(yT ops (JB ops (l.map λs=>jY P false s.b) (some p))).map λaps=>.yM tol aps (group l)
    | none=>none)
  else none
def Zp:Nat:=100000
def Zv:Nat:=100001
def orElse':Option SC->Option SC->Option SC
 | some x,_=>some x
 | none,y=>y
def JE (P:Program) (n:Nat) (fz:List Nat) (ops:List Oper) (draw:Bool):Option SC:=
 orElse' (uA P n ⟨fz,false⟩ ops draw false) (if draw then orElse' (if fz.contains Zp then FI P n ⟨fz,false⟩ ops else none)<|orElse' (if fz.contains Zv then uA P n ⟨fz,true⟩ ops true false else none)<|orElse' (Fe P n ⟨fz,false⟩ ops) (orElse' (uA P n ⟨fz,false⟩ ops true true) (orElse' (uA P n ⟨fz,true⟩ ops true false) (uA P n ⟨fz,true⟩ ops true true))) else none)
def dN (P:Program) (n:Nat) (fz:List Nat):Code->Option SC
 | .skip=>some .skip
 | .region _ ops draw=>JE P n fz ops.toList draw
 | .seq x y=>match dN P n fz x,dN P n fz y with
  | some a,some b=>some (.seq a b)
  | _,_=>none
 | .cond c x y=>match dN P n fz x,dN P n fz y with
  | some a,some b=>some (.cond (SX.of c) a b)
  | _,_=>none
 | .block id c=>(dN P n fz c).map (.block id)
 | .loop c=>(dN P n fz c).map .loop
 | .exit id=>some (.exit id)
 | .ret=>some .ret
 | .scope c=>match dN P n fz c with
  | some sc=>match L5 sc with
   | some l=>(pU sc l).map λr=>.scope l sc r
   | none=>none
  | none=>none
 | .label l=>some (.label l)
 | .goto l=>some (.goto l)
 | _=>none
def kh (h h':Heap):Prop:=∀id,id<h.length->h.view id=.dead->h'.view id=.dead
theorem kh.refl (h:Heap):kh h h:=λ_ _ e=>e
theorem kh.trans {a b c:Heap} (h:kh a b) (k:kh b c) (f:a.length<=b.length):kh a c:=λid d e=>k id (abq d f) (h id d e)
def ay (P:Program) (f:FuncId) (vs:List V) (H:View) (K:V->View->Prop):Prop:=
 ec P f=true/\∀h:Heap,h.view=H->∃r h',bY P f vs h r h'/\kh h h'/\K r h'.view
def GF (P:Program) (f:FuncId) (vs:List V) (H:View) (K:V->View->Prop):Prop:=
 ec P f=true/\∀h:Heap,h.view=H->∃r h',bY P f vs h r h'/\(∀id,id<h.length->h'.view id=h.view id)/\K r h'.view
def k7 (sz:Option Nat) (e:List V) (j:Nat) (K:V->Prop):Prop:=match sz with
 | some n=>j+n<=e.length/\K (.agg ((e.drop j).take n))
 | none=>j<e.length/\K (e.getD j .any)
def wI (P:Program) (s:SI) (T:Env) (H:View) (K:V->View->Prop):Prop:=match s with
 | .eT x=>K (x.at T) H
 | .pick c a b=>match c.at T with
  | .val (.bool t)=>K (if t then a.at T else b.at T) H
  | _=>False
 | .box x=>(x.at T).cells.all aK=true/\∀n,H n=.dead->K (.ptr n 0 0) (H.set n (.arr (x.at T).cells.length [(x.at T).cells]))
 | .kO x=>(x.at T).cells.all aK=true/\K (.aR (x.at T).cells 0) H
 | .alloc z=>z.all aK=true/\∀n,H n=.dead->K (.ptr n 0 0) (H.set n (.arr z.length [z]))
 | .load sz a=>match a.at T with
  | .ptr id i j=>match H id with
   | .arr _ es=>i<es.length/\k7 sz (es.getD i []) j λv=>K v H
   | _=>False
  | .aR e j=>k7 sz e j λv=>K v H
  | _=>False
 | .CY sz a=>match a.at T with
  | .aR e j=>k7 sz e j λv=>K v H
  | _=>False
 | .store sz a x=>match a.at T with
  | .ptr id i j=>match H id with
   | .arr esz es=>(i<es.length/\(x.at T).cells.length=sz/\j+(x.at T).cells.length<=esz/\(x.at T).cells.all aK=true) /\
     K .any (H.set id (.arr esz (es.set i (gv (es.getD i []) j (x.at T).cells))))
   | _=>False
  | _=>False
 | .Ex x=>match x.at T with
  | .ptr id i j=>K (.ptr id i j) H
  | .aR e j=>K (.aR e j) H
  | .fn f a b=>K (.fn f a b) H
  | _=>False
 | .addr off x=>match x.at T with
  | .ptr id i j=>K (.ptr id i (j+off)) H
  | .aR e j=>K (.aR e (j+off)) H
  | _=>False
 | .field off sz x=>match x.at T with
  | .agg cs=>k7 sz cs off λv=>K v H
  | _=>False
 | .idx sz x i=>match asNat (i.at T) with
  | none=>False
  | some q=>match x.at T with
   | .sl id off len esz=>(q<len/\esz=sz)/\K (.ptr id (off+q) 0) H
   | .aZ es=>∃e,es[q]?=some e/\e.length=sz/\K (.aR e 0) H
   | _=>False
 | .tU f first cap=>K (.fn f (first.map (SX.at T)) (cap.map (SX.at T))) H
 | .qS=>∀n,H n=.dead->K (.mp n) (H.set n (.map [] 0))
 | .ext i x=>match x.at T with
  | .bb vs=>i<vs.length/\K (vs.getD i .any) H
  | _=>False
 | .len x=>match cJ (x.at T) with
  | some n=>K (cO n) H
  | none=>False
 | .sd x=>match x.at T with
  | .val (.string s)=>K (cO s.size) H
  | _=>False
 | .arith op x y=>match x.at T,y.at T with
  | .val (.int k a),.val (.int k' b)=>k=k'/\(match ja op k a b with | some v=>K (.val v) H | none=>False)
  | _,_=>False
 | .Ay op x y=>match x.at T,y.at T with
  | .val (.string a),.val (.string b)=>(match op with
   | .eql=>K (.val (.bool (jX a b))) H
   | .neq=>K (.val (.bool (!jX a b))) H
   | _=>False)
  | _,_=>False
 | .jv x i=>match x.at T,asNat (i.at T) with
  | .val (.string s),some q=>∃b,s.data.toList[q]?=some b/\K (.val (.int .u8 b.toNat)) H
  | _,_=>False
 | .not x=>match x.at T with
  | .val (.bool t)=>K (.val (.bool (!t))) H
  | _=>False
 | .nil eq k x y=>match DR (fV k (x.at T)) (fV k (y.at T)) with
  | some b=>K (.val (.bool (if eq then b else !b))) H
  | none=>False
 | .beq eq x y=>match x.at T,y.at T with
  | .val (.bool a),.val (.bool b)=>K (.val (.bool (if eq then a==b else a != b))) H
  | _,_=>False
 | .mm mx x y=>match x.at T,y.at T with
  | .val (.int k a),.val (.int _ b)=>K (.val (.int k (if mx then (if b>a then b else a) else (if b<a then b else a)))) H
  | _,_=>False
 | .conv k x=>match x.at T with
  | .val (.int _ a)=>K (.val (.int k (k.wrap a))) H
  | _=>False
 | .sh l x y=>match x.at T,y.at T with
  | .val (.int k a),.val (.int _ b)=>0<=b/\K (.val (.int k (Px l k a b))) H
  | _,_=>False
 | .build z parts=>match oh z (parts.map λ(a,b,x)=>(a,b,x.at T)) with
  | some cs=>K (.agg cs) H
  | none=>False
 | .bN len sz z parts=>match nB sz (List.replicate len z) (parts.map λ(i,x)=>(i,x.at T)) with
  | some es=>∀n,H n=.dead->K (.sl n 0 len sz) (H.set n (.arr sz es))
  | none=>False
 | .slice sz x lo hi=>match cZ sz (x.at T) (lo.map (SX.at T)) (hi.map (SX.at T)) with
  | some (v,.none,_)=>K v H
  | _=>False
 | .make sz bytes z l c=>match asNat (l.at T),asNat (c.at T) with
  | some l,some c=>(l<=c/\c<aF/\bytes*c<aF)/\(c=0->K (.emp 2) H)/\(c≠0->∀n,H n=.dead->K (.sl n 0 l sz) (H.set n (.arr sz (List.replicate l z))))
  | _,_=>False
 | .app sz bytes x y=>match bM H (y.at T) with
  | some (xs,_)=>if xs.isEmpty=true then (match x.at T with
    | .emp k=>K (.emp k) H
    | .eD=>K .eD H
    | .aZ es=>K (.aZ es) H
    | .sl a b c d=>K (.sl a b c d) H
    | _=>False)
   else (xs.all λe=>e.length==sz&&e.all aK)=true/\(match x.at T with
    | .emp _=>(xs.length*bytes<aF/\xs.length<aF)/\∀n,H n=.dead->K (.sl n 0 xs.length sz) (H.set n (.arr sz xs))
    | .sl id off len esz=>match H id with
     | .arr _ es=>(off+len<=es.length/\esz=sz/\(len+xs.length)*bytes<aF/\len+xs.length<aF) /\
      ∀n,H n=.dead->K (.sl n 0 (len+xs.length) esz) ((H.set id .dead).set n (.arr esz ((es.drop off).take len++xs)))
     | _=>False
    | _=>False)
  | none=>False
 | .HC x=>match x.at T with
  | .aZ es=>(match mz es with
   | some l=>K (.val (.string ⟨l.toArray⟩)) H
   | none=>False)
  | _=>False
 | .ic x=>match x.at T with
  | .val (.string s)=>K (.aZ (iA s)) H
  | _=>False
 | s=>∀n,H n=.dead->∃v eff rd,sI P s T H n=some (v,eff,rd)/\K v (eff.view H n)
def wB (P:Program) (quiet:Bool) (b:SB) (T:Env) (H:View) (K:V->View->Prop):Prop:=match b with
 | .op s=>wI P s T H K
 | .call f args=>match f.at T with
  | .fn g first cap=>if quiet then GF P g (first++args.map (SX.at T)++cap) H K else ay P g (first++args.map (SX.at T)++cap) H K
  | _=>False
 | .oQ f args=>match f.at T with
  | .fn g first cap=>GF P g (first++args.map (SX.at T)++cap) H K
  | _=>False
def Dq (P:Program) (quiet:Bool):List (Option Nat × SB)->Env->View->(Env->View->Prop)->Prop
 | [],T,H,K=>K T H
 | (d,b)::r,T,H,K=>wB P quiet b T H λv H'=>Dq P quiet r (T.put d v) H' K
def jK:List (Option Nat × SB)->Env->Env
 | [],T=>T
 | (d,_)::r,T=>jK r (T.put d (.bb []))
def wG (P:Program) (quiet:Bool) (g:SG) (T:Env) (H:View) (K:Env->View->Prop):Prop:=match g.guard with
 | none=>Dq P quiet g.ops T H K
 | some (d,want)=>match T d with
  | .val (.bool b)=>(b=want->Dq P quiet g.ops (T.put (some d) (.val (.bool want))) H K)/\(b = !want->K (jK g.ops (T.put (some d) (.val (.bool (!want))))) H)
  | .bb []=>K (jK g.ops T) H
  | _=>False
def AM (P:Program) (quiet:Bool):List SG->Env->View->(Env->View->Prop)->Prop
 | [],T,H,K=>K T H
 | g::r,T,H,K=>wG P quiet g T H λT' H'=>AM P quiet r T' H' K
def xg (c:SX) (b:Bool) (T:Env):Env:=match c with
 | .tmp t=>T.put (some t) (.val (.bool b))
 | _=>T
def DE:Exit->Prop->Prop->Prop
 | .normal,a,_=>a
 | _,_,b=>b
def iT (a b:V):Prop:=match a,b with
 | .ptr i _ _,.ptr j _ _=>i≠j
 | .ptr i _ _,.sl j _ _ _=>i≠j
 | .ptr _ _ _,.emp _=>True
 | .ptr _ _ _,.eD=>True
 | .ptr _ _ _,.aZ _=>True
 | .aR _ _,_=>True
 | .sl i _ _ _,.sl j _ _ _=>i≠j
 | .sl _ _ _ _,.emp _=>True
 | .sl _ _ _ _,.eD=>True
 | .sl _ _ _ _,.aZ _=>True
 | .emp _,_=>True
 | .eD,_=>True
 | .aZ _,_=>True
 | _,_=>False
def Me (P:Program) (t:TypeId) (m q:V) (H:View):Prop:=match m with
 | .mp id=>(∃es c,H id=.map es c)/\∀v obj rd,fh P t (.mp id) q H=some (v,.fR id obj,rd)->fX P t (.mp id) q false (H.set id obj)=fX P t (.mp id) q false H
 | _=>False
def BJ:List (Nat × Nat)->Env->Prop->Prop
 | [],_,K=>K
 | p::l,T,K=>iT (T p.1) (T p.2)/\BJ l T K
def wS (P:Program):SC->Env->View->(Exit->Env->View->Prop)->Prop
 | .skip,T,H,Q=>Q .normal T H
 | .region quiet gs,T,H,Q=>AM P quiet gs T H (Q .normal)
 | .sn aps gs,T,H,Q=>AM P false gs T H λT' H'=>BJ aps T' (Q .normal T' H')
 | .yM tol aps gs,T,H,Q=>AM P false gs T H λT' H'=>Me P tol.1 (T' tol.2.1) (T' tol.2.2) H/\BJ aps T' (Q .normal T' H')
 | .seq x y,T,H,Q=>wS P x T H λe T' H'=>DE e (wS P y T' H' Q) (Q e T' H')
 | .cond c x y,T,H,Q=>match c.at T with
  | .val (.bool b)=>(b=true->wS P x (xg c true T) H Q)/\(b=false->wS P y (xg c false T) H Q)
  | _=>False
 | .block id c,T,H,Q=>wS P c T H λe=>Q (sw id e)
 | .loop c,T,H,Q=>∃I:Nat->Env->View->Prop,(∃k,I k T H)/\∀k T H,I k T H->wS P c T H λe T' H'=>DE e (∃k',k'<k/\I k' T' H') (Q e T' H')
 | .exit id,T,H,Q=>Q (.exit id) T H
 | .ret,T,H,Q=>Q .ret T H
 | .scope l c r,T,H,Q=>∃(I:Nat->Env->View->Prop) (K:Nat),wS P c T H (λe T' H'=>CQ l e (∃k,k<K/\I k T' H') (Q e T' H'))/\∀k T H,I k T H->wS P r T H λe T' H'=>CQ l e (∃k',k'<k/\I k' T' H') (Q e T' H')
 | .label _,T,H,Q=>Q .normal T H
 | .goto l,T,H,Q=>Q (.goto l) T H
def wR (T:Env) (H:View) (r:SR) (K:V->Prop):Prop:=match r with
 | .tmp t=>K (T t)
 | .cell t sz=>match T t with
  | .ptr id i j=>match H id with
   | .arr _ es=>i<es.length/\k7 sz (es.getD i []) j K
   | _=>False
  | .aR e j=>k7 sz e j K
  | _=>False
def IU (T:Env) (H:View):List SR->List V->(List V->Prop)->Prop
 | [],acc,K=>K acc
 | r::l,acc,K=>wR T H r λv=>IU T H l (acc++[v]) K
def zw:List V->V
 | [v]=>v
 | vs=>.bb vs
def gN (P:Program):List ResultVar->Option (List SR)
 | []=>some []
 | .tmp t::r=>(gN P r).map (.tmp t :: ·)
 | .cell a t::r=>match Gd P t,gN P r with
  | some k,some l=>some (.cell a k::l)
  | _,_=>none
structure SF where
 code:SC
 res:List SR
 n:Nat
def ai:List SC->SC
 | []=>.skip
 | [a]=>a
 | a::b::l=>.seq a (ai (b::l))
abbrev cz (k a b:Nat):Option Nat × SB:=(none,.op (.store k (.tmp a) (.tmp b)))
abbrev bT (a k:Nat):Option Nat × SB:=(some a,.op (.eT (.val (.emp k))))
abbrev fL (d s b x y:Nat):Option Nat × SB:=(some d,.op (.app s b (.tmp x) (.tmp y)))
abbrev aX (a:Nat) (x:SC):SC:=.cond (.tmp a) x .skip
abbrev bP (a:Nat) (x:SC):SC:=.cond (.tmp a) .skip x
abbrev bQ (a:Nat) (x:SC):SC:=.block a (.loop x)
abbrev af (a b:Nat):Option Nat × SB:=(some a,.op (.eT (.tmp b)))
abbrev aT (a:Nat) (n:Int):Option Nat × SB:=(some a,.op (.eT (.val (.val (.int .i64 n)))))
abbrev bh (a:Nat) (n:Bool):Option Nat × SB:=(some a,.op (.eT (.val (.val (.bool n)))))
abbrev au (a b:Nat):Option Nat × SB:=(some a,.op (.load none (.tmp b)))
abbrev aU (a k b:Nat):Option Nat × SB:=(some a,.op (.load (some k) (.tmp b)))
abbrev aw (a k b:Nat):Option Nat × SB:=(some a,.op (.addr k (.tmp b)))
abbrev aL (a k b c:Nat):Option Nat × SB:=(some a,.op (.idx k (.tmp b) (.tmp c)))
abbrev cE (a b c:Nat):Option Nat × SB:=(some a,.op (.pick (.tmp b) (.val (.val (.bool true))) (.tmp c)))
abbrev dO (a b c:Nat):Option Nat × SB:=(some a,.op (.pick (.tmp b) (.tmp c) (.val (.val (.bool false)))))
abbrev aS (a:Nat) (o:BinOp) (b c:Nat):Option Nat × SB:=(some a,.op (.arith o (.tmp b) (.tmp c)))
abbrev aH (a:Nat) (o:BinOp) (b:Nat) (n:Int):Option Nat × SB:=(some a,.op (.arith o (.tmp b) (.val (.val (.int .i64 n)))))
abbrev aN (a b:Nat):Option Nat × SB:=(some a,.op (.len (.tmp b)))
abbrev c7 (a k b:Nat):Option Nat × SB:=(some a,.op (.ext k (.tmp b)))
abbrev cR (a b:Nat):Option Nat × SB:=(some a,.op (.not (.tmp b)))
abbrev cm (a b:Nat):Option Nat × SB:=(some a,.op (.kO (.tmp b)))
abbrev fT (a b:Nat):Option Nat × SB:=(some a,.op (.Ex (.tmp b)))
abbrev oz (a f:Nat) (l:List SX):Option Nat × SB:=(some a,.call (.val (.fn f [] [])) l)
abbrev aV (a f:Nat) (l:List Nat):Option Nat × SB:=(some a,.call (.val (.fn f [] [])) (l.map .tmp))
abbrev ag (l:List (Option Nat × SB)):SC:=.region false [⟨none,l⟩]
def aJ (P:Program) (f:FuncId) (fz:List Nat):Option SF:=match P.funcs[f]? with
 | some fn=>match fn.body with
  | some c=>match dN P fn.ntmps fz c,gN P fn.results.toList,ec P f with
   | some sc,some rs,true=>some ⟨sc,rs,fn.ntmps⟩
   | _,_,_=>none
  | none=>none
 | none=>none
theorem r6 {sz:Option Nat} {e:List V} {j:Nat} {K:V->Prop} (h:k7 sz e j K):∃v,oJ sz e j=some v/\K v:=by
 cases sz with
 | none=>exact⟨_,by simp only[oJ];rw[aaT h.1],h.2⟩
 | some n=>exact⟨_,by simp only[oJ];rw[aaT h.1],h.2⟩
theorem Y8 {P:Program} {s:SI} {T:Env} {H:View} {K:V->View->Prop} (h:wI P s T H K) {n:Nat} (r:H n=.dead):
  ∃v eff rd,sI P s T H n=some (v,eff,rd)/\K v (eff.view H n):=by
 unfold wI at h
 split at h
 .exact⟨_,_,_,rfl,h⟩
 .split at h
  .rename_i t D;exact⟨_,_,_,by simp only[sI,D];rfl,h⟩
  .exact h.elim
 .exact⟨_,_,_,by simp only[sI,nP];rw[aaT h.1],h.2 n r⟩
 .exact⟨_,_,_,by simp only[sI];rw[aaT h.1],h.2⟩
 .exact⟨_,_,_,by simp only[sI,nP];rw[aaT h.1],h.2 n r⟩
 .split at h
  .rename_i id i j u
   split at h
   .rename_i es hH
    obtain⟨h1,f⟩:=h
    obtain⟨v,o,hk⟩:=r6 f
    exact⟨_,_,_,by simp only[sI,zO,u,hH];rw[aaT h1,o];rfl,hk⟩
   .exact h.elim
  .rename_i e j u
   obtain⟨v,o,hk⟩:=r6 h
   exact⟨_,_,_,by simp only[sI,zO,u];rw[o];rfl,hk⟩
  .exact h.elim
 .split at h
  .rename_i e j u
   obtain⟨v,o,hk⟩:=r6 h
   exact⟨_,_,_,by simp only[sI,u];rw[o];rfl,hk⟩
  .exact h.elim
 .split at h
  .rename_i id i j u
   split at h
   .rename_i esz es hH
    exact⟨_,_,_,by simp only[sI,FJ,u,hH];rw[aaT h.1],h.2⟩
   .exact h.elim
  .exact h.elim
 .split at h
  .rename_i d;exact⟨_,_,_,by simp only[sI,d];rfl,h⟩
  .rename_i d;exact⟨_,_,_,by simp only[sI,d];rfl,h⟩
  .rename_i d;exact⟨_,_,_,by simp only[sI,d];rfl,h⟩
  .exact h.elim
 .split at h
  .rename_i d;exact⟨_,_,_,by simp only[sI,CZ,d];rfl,h⟩
  .rename_i d;exact⟨_,_,_,by simp only[sI,CZ,d];rfl,h⟩
  .exact h.elim
 .split at h
  .rename_i cs d
   obtain⟨v,o,hk⟩:=r6 h
   exact⟨_,_,_,by simp only[sI,d,o];rfl,hk⟩
  .exact h.elim
 .split at h
  .exact h.elim
  .rename_i q y
   split at h
   .rename_i d;exact⟨_,_,_,by simp only[sI,HL,y,d];rw[aaT h.1],h.2⟩
   .rename_i es d
    obtain⟨e,he,x,hk⟩:=h
    have A:q<es.length:=(aaX.1 he).1
    have B:es.getD q []=e:=by simp[aaP,he]
    exact⟨_,_,_,by simp only[sI,HL,y,d];rw[B,aaT ⟨A,x⟩],hk⟩
   .exact h.elim
 .exact⟨_,_,_,rfl,h⟩
 .exact⟨_,_,_,rfl,h n r⟩
 .split at h
  .rename_i vs d;exact⟨_,_,_,by simp only[sI,d];rw[aaT h.1],h.2⟩
  .exact h.elim
 .split at h
  .rename_i m d;exact⟨_,_,_,by simp only[sI,d];rfl,h⟩
  .exact h.elim
 .split at h
  .rename_i s d;exact⟨_,_,_,by simp only[sI,d];rfl,h⟩
  .exact h.elim
 .split at h
  .rename_i k a F b d g
   obtain⟨rfl,h⟩:=h
   split at h
   .rename_i v o;exact⟨_,_,_,by simp only[sI,B7,d,g,if_true,o];rfl,h⟩
   .exact h.elim
  .exact h.elim
 .split at h
  .rename_i a b d g
   split at h
   .exact⟨_,_,_,by simp only[sI,DO,d,g];rfl,h⟩
   .exact⟨_,_,_,by simp only[sI,DO,d,g];rfl,h⟩
   .exact h.elim
  .exact h.elim
 .split at h
  .rename_i s q d y
   obtain⟨b,p,hk⟩:=h
   exact⟨_,_,_,by simp only[sI,Fc,d,y,p];rfl,hk⟩
  .exact h.elim
 .split at h
  .rename_i t d;exact⟨_,_,_,by simp only[sI,d];rfl,h⟩
  .exact h.elim
 .split at h
  .rename_i b p;exact⟨_,_,_,by simp only[sI,p];rfl,h⟩
  .exact h.elim
 .split at h
  .rename_i d g;exact⟨_,_,_,by simp only[sI,d,g];rfl,h⟩
  .exact h.elim
 .split at h
  .rename_i d g;exact⟨_,_,_,by simp only[sI,d,g];rfl,h⟩
  .exact h.elim
 .split at h
  .rename_i d;exact⟨_,_,_,by simp only[sI,d];rfl,h⟩
  .exact h.elim
 .split at h
  .rename_i d g;exact⟨_,_,_,by simp only[sI,R6,d,g];rw[aaR (by omega)],h.2⟩
  .exact h.elim
 .split at h
  .rename_i cs p;exact⟨_,_,_,by simp only[sI,p];rfl,h⟩
  .exact h.elim
 .split at h
  .rename_i es p;exact⟨_,_,_,by simp only[sI,CD,p];rfl,h n r⟩
  .exact h.elim
 .split at h
  .rename_i v rd p;exact⟨_,_,_,by simp only[sI,p];rfl,h⟩
  .exact h.elim
 .split at h
  .rename_i l c x C
   obtain⟨h1,f,E⟩:=h
   by_cases e:c=0
   .exact⟨.emp 2,.none,[],by simp only[sI,F2,x,C];rw[aaT h1,aaT e],f e⟩
   .exact⟨_,_,_,by simp only[sI,F2,x,C];rw[aaT h1,aaR e],E e n r⟩
  .exact h.elim
 .split at h
  .rename_i xs rd w
   split at h
   .rename_i he
    split at h
    all_goals first
     | (rename_i d;exact⟨_,_,_,by simp only[sI,Mr,w];rw[aaT he,d],h⟩)
     | exact h.elim
   .rename_i he
    obtain⟨h1,f⟩:=h
    split at f
    .rename_i d
     exact⟨_,_,_,by simp only[sI,Mr,w];rw[aaR he,aaR (by rw[h1];simp),d];simp only;rw[aaT f.1],f.2 n r⟩
    .rename_i id off len esz d
     split at f
     .rename_i z es hH
      exact⟨_,_,_,by simp only[sI,Mr,w];rw[aaR he,aaR (by rw[h1];simp),d];simp only[hH];rw[aaT f.1],f.2 n r⟩
     .exact f.elim
    .exact f.elim
  .exact h.elim
 .split at h
  .rename_i d
   split at h
   .rename_i l x;exact⟨_,_,_,by simp only[sI,d,x];rfl,h⟩
   .exact h.elim
  .exact h.elim
 .split at h
  .rename_i d;exact⟨_,_,_,by simp only[sI,d];rfl,h⟩
  .exact h.elim
 .exact h n r
def mL (k:Nat) (rd wr:List Nat) (call:Bool) (n n':Nat):Prop:=
 (k=0->rd=[]/\wr=[]/\call=false/\n'=n)/\(k<=1->wr=[])
theorem WY {k:Nat} (h:k=2) {rd wr:List Nat} {call:Bool} {n a:Nat} : mL k rd wr call n a:=⟨λb=>by omega,λb=>by omega⟩
theorem sU {P:Program} {o:Oper} {T:Env} {v:V} {eff:bp} {rd:List Nat} (h:eA P o T=some (v,eff,rd)):eff=.none/\rd=[]:=by
 unfold eA at h
 split at h
 .split at h
  .split at h
   .simp at h;exact⟨h.2.1.symm,h.2.2⟩
   .simp at h
  .simp at h
 .simp at h
theorem Wb {P:Program} {o:Oper} {T:Env} {H:View} {n:Nat} {v:V} {eff:bp} {rd:List Nat} (h:cK P o T H n=some (v,eff,rd)):
  (CT P o.op=0->eff=.none/\rd=[])/\(CT P o.op=1->eff.wr=[]):=by
 unfold CT
 split
 .rename_i s d x a
  simp only[cK,a] at h
  split
  .exact⟨λh=>by simp at h,λh=>by simp at h⟩
  .rename_i f
   rw[aaR f] at h
   exact⟨λ_=>sU h,λh=>by simp at h⟩
 .rename_i b args g a
  simp only[cK,a] at h
  split
  any_goals exact⟨λ_=>sU h,λh=>by simp at h⟩
  .refine⟨λh=>by simp at h,λ_=>?_⟩
   split at h
   .split at h
    .simp only[xp] at h
     have c:∀ {v':V} {r:List Nat},some (v',bp.none,r)=some (v,eff,rd)->eff.wr=[]:=λe=>by
      simp only[aaV,abf] at e;rw[<-e.2.1];rfl
     split at h
     .simp only[aa0] at h
      obtain⟨_,_,h⟩:=h
      exact c (abY some h)
     .split at h
      .split at h
       .exact c h
       .simp at h
      .exact c h
      .simp at h
     .split at h
      .exact c h
      .simp at h
     .exact c h
     .simp at h
    .simp at h
   all_goals contradiction
  .exact⟨λh=>by simp at h,λh=>by simp at h⟩
 .rename_i t m k ok a
  refine⟨λh=>by simp at h,λ_=>?_⟩
  simp only[cK,a,fX] at h
  have c:∀ {v':V} {r:List Nat},some (v',bp.none,r)=some (v,eff,rd)->eff.wr=[]:=λe=>by
   simp only[aaV,abf] at e;rw[<-e.2.1];rfl
  split at h
  .simp at h
  .split at h
   .simp at h
   .split at h
    .split at h
     .split at h
      .split at h
       .exact c h
       .simp at h
      .exact c h
      .simp at h
     .simp at h
    .simp at h
 .rename_i op t x y u a
  refine⟨λ_=>?_,λh=>by simp at h⟩
  simp only[cK,a] at h
  split at h
  .split at h
   .simp at h;exact⟨h.2.1.symm,h.2.2⟩
   .simp at h;exact⟨h.2.1.symm,h.2.2⟩
   .simp at h
  .exact sU h
 .rename_i op t x a
  exact⟨λ_=>sU (by simpa only [cK,a] using h),λh=>by simp at h⟩
 .rename_i t x i a
  exact⟨λ_=>sU (by simpa only [cK,a] using h),λh=>by simp at h⟩
 .exact⟨λh=>by simp at h,λh=>by simp at h⟩
theorem uT {P:Program} {s:SI} {T:Env} {H:View} {n:Nat} {v:V} {eff:bp} {rd:List Nat} (h:sI P s T H n=some (v,eff,rd)):
  (xn P s=0->eff=.none/\rd=[])/\(xn P s=1->eff.wr=[]):=by
 have nn:∀ {v':V},some (v',bp.none,([]:List Nat))=some (v,eff,rd)->eff=.none/\rd=[]:=λe=>by
  simp only[aaV,abf] at e;exact⟨e.2.1.symm,e.2.2.symm⟩
 have mp:∀ {α:Type} {x:Option α} {f:α->V},(x.map λa=>(f a,bp.none,([]:List Nat)))=some (v,eff,rd)->eff=.none/\rd=[]:=by
  intro α x f h
  simp only[aa0] at h
  obtain⟨a,_,h⟩:=h
  simp only[abf] at h;exact⟨h.2.1.symm,h.2.2.symm⟩
 have nw:∀ {v':V} {o:cr} {r:List Nat},some (v',bp.new o,r)=some (v,eff,rd)->eff.wr=[]:=λe=>by
  simp only[aaV,abf] at e;rw[<-e.2.1];rfl
 have n1:∀ {v':V} {r:List Nat},some (v',bp.none,r)=some (v,eff,rd)->eff.wr=[]:=λe=>by
  simp only[aaV,abf] at e;rw[<-e.2.1];rfl
 unfold xn
 cases s<;>simp only[sI] at h
 case old op ty=>exact Wb (o:=oper op ty) h
 all_goals
  constructor<;>intro hk<;>first
   | (exfalso;revert hk;simp;done)
   | skip
 all_goals try simp only[zO,nP,CZ,HL,cZ,F2,CD,B7,R6,DO,Fc] at h
 all_goals first
  | exact nn h
  | exact mp h
  | exact nw h
  | exact n1 h
  | skip
 all_goals repeat' (split at h)
 all_goals first
  | exact nn h
  | exact mp h
  | exact nw h
  | exact n1 h
  | (simp at h;done)
  | (simp only[aa0,abf] at h;obtain⟨_,_,_,rfl,_⟩:=h;rfl)
end Gv
