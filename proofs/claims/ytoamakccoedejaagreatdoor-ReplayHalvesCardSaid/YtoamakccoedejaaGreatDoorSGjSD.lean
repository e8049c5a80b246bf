/-
  Part 4 of the proof: what the machine does and what the functions answer.
  Conditions: those that each lemma names.
-/
import Derived.Test.YtoamakccoedejaaGreatDoorSGjSC
set_option linter.unusedSimpArgs false
set_option linter.unusedVariables false
set_option maxRecDepth 100000
set_option maxHeartbeats 20000000
namespace Gv
open Go
inductive SX where
 | tmp (t:Nat)
 | val (v:V)
 deriving Inhabited
def SX.of:Operand->SX
 | .tmp t=>.tmp t
 | .const v=>.val (cK v)
 | .global g=>.val (gV g)
 | .func f=>.val (.fn f [] [])
def SX.at (T:Env):SX->V
 | .tmp t=>T t
 | .val v=>v
theorem SX.aU (T:Env) (x:Operand):(SX.of x).at T=ev T x:=by cases x<;>rfl
inductive SI where
 | cU (x:SX)
 | pick (c a b:SX)
 | box (x:SX)
 | eN (x:SX)
 | alloc (z:List V)
 | build (z:List V) (parts:List (Nat × Nat × SX))
 | en (len sz:Nat) (z:List V) (parts:List (Nat × SX))
 | load (sz:Option Nat) (a:SX)
 | oM (sz:Option Nat) (a:SX)
 | store (sz:Nat) (a x:SX)
 | pQ (x:SX)
 | addr (off:Nat) (x:SX)
 | field (off:Nat) (sz:Option Nat) (x:SX)
 | idx (sz:Nat) (x i:SX)
 | slice (sz:Nat) (x:SX) (lo hi:Option SX)
 | make (sz bytes:Nat) (z:List V) (l c:SX)
 | mz
 | nu (f:FuncId) (first cap:List SX)
 | ext (i:Nat) (x:SX)
 | len (x:SX)
 | oh (x:SX)
 | app (sz bytes:Nat) (x y:SX)
 | arith (op:BinOp) (x y:SX)
 | sh (left:Bool) (x y:SX)
 | qF (op:BinOp) (x y:SX)
 | mW (x i:SX)
 | not (x:SX)
 | nil (eq:Bool) (k:Nat) (x y:SX)
 | beq (eq:Bool) (x y:SX)
 | mm (mx:Bool) (x y:SX)
 | conv (k:IntKind) (x:SX)
 | ri (x:SX)
 | df (x:SX)
 | old (op:Op) (ty:TypeId)
 deriving Inhabited
def gE:Option Nat->List V->Nat->Option V
 | some n,cs,off=>if off+n<=cs.length then some (.agg ((cs.drop off).take n)) else none
 | none,cs,off=>if off<cs.length then some (cs.getD off .any) else none
def l8 (sz:Option Nat) (a:V) (H:View):Out:=match a with
 | .ptr id i j=>match H id with
  | .arr _ es=>if i<es.length then (gE sz (es.getD i []) j).map λv=>(v,.none,[id]) else none
  | _=>none
 | .aC e j=>(gE sz e j).map λv=>(v,.none,[])
 | _=>none
def qp (sz:Nat) (a v:V) (H:View):Out:=match a with
 | .ptr id i j=>match H id with
  | .arr esz es =>
   if i<es.length/\v.cells.length=sz/\j+v.cells.length<=esz/\v.cells.all au=true
   then some (.any,.dp id (.arr esz (es.set i (cI (es.getD i []) j v.cells))),[id]) else none
  | _=>none
 | _=>none
def gu (z:List V) (parts:List (Nat × Nat × V)):Option (List V):=match parts with
 | []=>some z
 | (off,size,x)::r=>if x.cells.length=size/\off+size<=z.length/\x.cells.all au=true then gu (cI z off x.cells) r else none
def oI (len sz:Nat) (z:List V) (parts:List (Nat × V)) (n:Nat):Out:=
 match fQ sz (List.replicate len z) parts with
 | some es=>some (.sl n 0 len sz,.new (.arr sz es),[])
 | none=>none
def oq (off:Nat) (x:V):Out:=match x with
 | .ptr id i j=>some (.ptr id i (j+off),.none,[])
 | .aC e j=>some (.aC e (j+off),.none,[])
 | _=>none
def rR (sz:Nat) (x i:V):Out:=match asNat i with
 | none=>none
 | some q=>match x with
  | .sl id off len esz=>if q<len/\esz=sz then some (.ptr id (off+q) 0,.none,[]) else none
  | .al es=>if q<es.length/\(es.getD q []).length=sz then some (.aC (es.getD q []) 0,.none,[]) else none
  | _=>none
def jm (sz:Nat) (x:V) (lo hi:Option V):Out:=match x with
 | .sl id off len esz=>match bound 0 lo,bound len hi with
  | some l,some h=>if l<=h/\h<=len/\esz=sz then some (.sl id (off+l) (h-l) esz,.none,[]) else none
  | _,_=>none
 | .al es=>match bound 0 lo,bound es.length hi with
  | some l,some h=>if l<=h/\h<=es.length/\(es.all λe=>e.length==sz)=true then some (.al ((es.drop l).take (h-l)),.none,[]) else none
  | _,_=>none
 | .emp k=>match bound 0 lo,bound 0 hi with
  | some 0,some 0=>some (.emp k,.none,[])
  | _,_=>none
 | _=>none
def qG (sz bytes:Nat) (z:List V) (len cap:V) (n:Nat):Out:=match asNat len,asNat cap with
 | some l,some c =>
  if l<=c/\c<aD/\bytes*c<aD then
   (if c=0 then some (.emp 2,.none,[]) else some (.sl n 0 l sz,.new (.arr sz (List.replicate l z)),[]))
  else none
 | _,_=>none
def uF (sz bytes:Nat) (s x:V) (H:View) (n:Nat):Out:=match bc H x with
 | some (xs,rd) =>
  if xs.isEmpty then (match s with
   | .emp _ | .bS | .al _ | .sl _ _ _ _=>some (s,.none,[])
   | _=>none)
  else if ¬ ((xs.all λe=>e.length==sz&&e.all au)=true) then none
  else match s with
   | .emp _=>if xs.length*bytes<aD/\xs.length<aD then some (.sl n 0 xs.length sz,.new (.arr sz xs),rd) else none
   | .sl id off len esz=>match H id with
    | .arr _ es =>
     if off+len<=es.length/\esz=sz/\(len+xs.length)*bytes<aD/\len+xs.length<aD
     then some (.sl n 0 (len+xs.length) esz,.cU id (.arr esz ((es.drop off).take len++xs)),id::rd) else none
    | _=>none
   | _=>none
 | none=>none
def dG (op:BinOp) (k:IntKind) (a b:Int):Option Value:=match op with
 | .add=>some (.int k (k.wrap (a+b)))
 | .sub=>some (.int k (k.wrap (a-b)))
 | .mul=>some (.int k (k.wrap (a*b)))
 | .quo=>if b=0 then none else some (.int k (k.wrap (a.tdiv b)))
 | .rem=>if b=0 then none else some (.int k (a.tmod b))
 | .eql=>some (.bool (a==b))
 | .neq=>some (.bool (a != b))
 | .lss=>some (.bool (a<b))
 | .leq=>some (.bool (a<=b))
 | .gtr=>some (.bool (a>b))
 | .geq=>some (.bool (a≥b))
 | .or=>some (.int k (k.wrap (BitVec.ofInt k.bits a ||| BitVec.ofInt k.bits b).toNat))
 | .and=>some (.int k (k.wrap (BitVec.ofInt k.bits a &&& BitVec.ofInt k.bits b).toNat))
 | .xor=>some (.int k (k.wrap (BitVec.ofInt k.bits a ^^^ BitVec.ofInt k.bits b).toNat))
 | .andNot=>some (.int k (k.wrap (BitVec.ofInt k.bits a &&& ~~~(BitVec.ofInt k.bits b)).toNat))
 | _=>none
def nZ (op:BinOp) (x y:V):Out:=match x,y with
 | .val (.int k a),.val (.int k' b)=>if k=k' then (dG op k a b).map λv=>(.val v,.none,[]) else none
 | _,_=>none
def j8 (left:Bool) (k:IntKind) (a b:Int):Int:=if left then k.wrap (a*2 ^ (min b.toNat k.bits)) else a.fdiv (2 ^ (min b.toNat k.bits))
def B0 (left:Bool) (x y:V):Out:=match x,y with
 | .val (.int k a),.val (.int _ b)=>if b<0 then none else some (.val (.int k (j8 left k a b)),.none,[])
 | _,_=>none
def CG:BinOp->Option Bool
 | .shl=>some true
 | .shr=>some false
 | _=>none
def ej (a b:ByteArray):Bool:=a.data.toList==b.data.toList
def pe (op:BinOp) (x y:V):Out:=match x,y with
 | .val (.string a),.val (.string b)=>match op with
  | .eql=>some (.val (.bool (ej a b)),.none,[])
  | .neq=>some (.val (.bool (!ej a b)),.none,[])
  | _=>none
 | _,_=>none
def ra (x i:V):Out:=match x,asNat i with
 | .val (.string s),some q=>match s.data.toList[q]? with
  | some b=>some (.val (.int .u8 b.toNat),.none,[])
  | none=>none
 | _,_=>none
def pg:Option Bool->Option Bool->Option Bool
 | some true,some b=>some b
 | some b,some true=>some b
 | _,_=>none
theorem xf {P:Program} {t:TypeId} {k:Nat} (h:eL P t=some k) (x y:V):rS P t x y=pg (ct k x) (ct k y):=by
 simp only[rS,h]
 unfold pg
 split<;>simp_all
def oper (op:Op) (ty:TypeId):Oper:=⟨none,op,ty,"",#[],none⟩
theorem Cr (P:Program) (o:Oper) (T:Env) (H:View) (n:Nat):aP P (oper o.op o.type) T H n=aP P o T H n:=by
 cases o;rfl
def sI (P:Program) (s:SI) (T:Env) (H:View) (n:Nat):Out:=match s with
 | .cU x=>some (x.at T,.none,[])
 | .pick c a b=>match c.at T with
  | .val (.bool t)=>some (if t then a.at T else b.at T,.none,[])
  | _=>none
 | .box x=>fZ (x.at T).cells n
 | .eN x=>if (x.at T).cells.all au=true then some (.aC (x.at T).cells 0,.none,[]) else none
 | .alloc z=>fZ z n
 | .build z parts=>(gu z (parts.map λ(a,b,x)=>(a,b,x.at T))).map λcs=>(.agg cs,.none,[])
 | .en len sz z parts=>oI len sz z (parts.map λ(i,x)=>(i,x.at T)) n
 | .load sz a=>l8 sz (a.at T) H
 | .oM sz a=>match a.at T with
  | .aC e j=>(gE sz e j).map λv=>(v,.none,[])
  | _=>none
 | .store sz a x=>qp sz (a.at T) (x.at T) H
 | .pQ x=>match x.at T with
  | .ptr id i j=>some (.ptr id i j,.none,[])
  | .aC e j=>some (.aC e j,.none,[])
  | .fn f a b=>some (.fn f a b,.none,[])
  | _=>none
 | .addr off x=>oq off (x.at T)
 | .field off sz x=>match x.at T with
  | .agg cs=>(gE sz cs off).map λv=>(v,.none,[])
  | _=>none
 | .idx sz x i=>rR sz (x.at T) (i.at T)
 | .slice sz x lo hi=>jm sz (x.at T) (lo.map (SX.at T)) (hi.map (SX.at T))
 | .make sz bytes z l c=>qG sz bytes z (l.at T) (c.at T) n
 | .mz=>some (.mp n,.new (.map [] 0),[])
 | .nu f first cap=>some (.fn f (first.map (SX.at T)) (cap.map (SX.at T)),.none,[])
 | .ext i x=>match x.at T with
  | .aA vs=>if i<vs.length then some (vs.getD i .any,.none,[]) else none
  | _=>none
 | .len x=>(dd (x.at T)).map λn=>(gq n,.none,[])
 | .oh x=>match x.at T with
  | .val (.string s)=>some (gq s.size,.none,[])
  | _=>none
 | .app sz bytes x y=>uF sz bytes (x.at T) (y.at T) H n
 | .arith op x y=>nZ op (x.at T) (y.at T)
 | .sh l x y=>B0 l (x.at T) (y.at T)
 | .qF op x y=>pe op (x.at T) (y.at T)
 | .mW x i=>ra (x.at T) (i.at T)
 | .not x=>match x.at T with
  | .val (.bool t)=>some (.val (.bool (!t)),.none,[])
  | _=>none
 | .nil eq k x y=>match pg (ct k (x.at T)) (ct k (y.at T)) with
  | some b=>some (.val (.bool (if eq then b else !b)),.none,[])
  | none=>none
 | .beq eq x y=>match x.at T,y.at T with
  | .val (.bool a),.val (.bool b)=>some (.val (.bool (if eq then a==b else a != b)),.none,[])
  | _,_=>none
 | .mm mx x y=>match x.at T,y.at T with
  | .val (.int k a),.val (.int _ b)=>some (.val (.int k (if mx then (if b>a then b else a) else (if b<a then b else a))),.none,[])
  | _,_=>none
 | .conv k x=>match x.at T with
  | .val (.int _ a)=>some (.val (.int k (k.wrap a)),.none,[])
  | _=>none
 | .ri x=>match x.at T with
  | .al es=>(ji es).map λl=>(.val (.string ⟨l.toArray⟩),.none,[])
  | _=>none
 | .df x=>match x.at T with
  | .val (.string s)=>some (.al (dt s),.none,[])
  | _=>none
 | .old op ty=>aP P (oper op ty) T H n
def q8 (P:Program) (t:TypeId):Option (Option Nat):=match P.info? t,jU P t with
 | some i,some true=>some (some i.size)
 | some _,some false=>some none
 | _,_=>none
theorem mh {P:Program} {t:TypeId} {k:Option Nat} (h:q8 P t=some k) (cs:List V) (j:Nat):iW P t cs j=gE k cs j:=by
 unfold q8 at h
 split at h
 .rename_i i a b
  simp at h;subst h;simp[iW,a,b,gE]
 .rename_i i a b
  simp at h;subst h;simp[iW,a,b,gE]
 .simp at h
def lU (P:Program) (t:TypeId):Option (Nat × Nat × List V):=match aY P t with
 | some e=>match P.info? e,zeroCells P e with
  | some ti,some z=>if z.length=ti.size/\z.all au=true/\ti.size≠0 then some (ti.size,ti.bytes,z) else none
  | _,_=>none
 | none=>none
theorem j0 {P:Program} {t:TypeId} {sz a:Nat} {z:List V} (h:lU P t=some (sz,a,z)):
  ∃e ti,aY P t=some e/\P.underlying t=some (.slice e)/\P.info? e=some ti/\zeroCells P e=some z/\z.length=ti.size/\z.all au=true/\ti.size≠0/\sz=ti.size/\a=ti.bytes:=by
 unfold lU at h
 split at h
 .rename_i e he
  split at h
  .rename_i ti g c d
   split at h
   .rename_i b
    obtain⟨rfl,rfl,rfl⟩:=h
    have hu:P.underlying t=some (.slice e):=by
     unfold aY at he;split at he
     .rename_i f;simp at he;subst he;exact f
     .simp at he
    exact⟨e,ti,he,hu,c,d,b.1,b.2.1,b.2.2,rfl,rfl⟩
   .simp at h
  .simp at h
 .simp at h
def lz (P:Program) (t:TypeId):List (Nat × Operand)->Option (List (Nat × Nat × SX))
 | []=>some []
 | (i,x)::r=>match placeOf P t i,lz P t r with
  | some (a,b),some l=>some ((a,b,SX.of x)::l)
  | _,_=>none
def comp (P:Program) (o:Oper):SI:=match o.op with
 | .move x | .assign x=>.cU (SX.of x)
 | .pick c a b=>.pick (SX.of c) (SX.of a) (SX.of b)
 | .alloc e=>match zeroCells P e with
  | some z=>.alloc z
  | none=>.old o.op o.type
 | .box _ x=>.box (SX.of x)
 | .load t a=>match q8 P t with
  | some k=>.load k (SX.of a)
  | none=>.old o.op o.type
 | .store t a v=>match P.info? t with
  | some _=>.store (P.cellsOf t) (SX.of a) (SX.of v)
  | none=>.old o.op o.type
 | .nilCheck x=>.pQ (SX.of x)
 | .fieldAddr t x f=>match iE P t f with
  | some (off,s,_)=>if s=0 then .old o.op o.type else .addr off (SX.of x)
  | none=>.old o.op o.type
 | .field t x f=>match iE P t f with
  | some (off,_,ft)=>match q8 P ft with
   | some k=>.field off k (SX.of x)
   | none=>.old o.op o.type
  | none=>.old o.op o.type
 | .indexAddr t x i=>match lU P t with
  | some (sz,_,_)=>.idx sz (SX.of x) (SX.of i)
  | none=>.old o.op o.type
 | .slice t x lo hi none=>match lU P t with
  | some (sz,_,_)=>.slice sz (SX.of x) (lo.map SX.of) (hi.map SX.of)
  | none=>.old o.op o.type
 | .makeSlice t l c=>match lU P t with
  | some (sz,b,z)=>.make sz b z (SX.of l) (SX.of c)
  | none=>.old o.op o.type
 | .makeMap _ none=>.mz
 | .makeFunc (.func f) first cap=>.nu f (first.toList.map SX.of) (cap.toList.map SX.of)
 | .extract t i=>.ext i (SX.of t)
 | .build t parts=>match P.underlying t,zeroV P t with
  | some (.struct _),some (.agg z)=>if gz P t=true then
    (match lz P t parts.toList with
    | some ps=>.build z ps
    | none=>.old o.op o.type) else .old o.op o.type
  | _,_=>.old o.op o.type
 | .buildSlice t len parts=>match lU P t with
  | some (sz,_,z)=>if len=0/\parts.toList.isEmpty=true then .cU (.val (.emp 2)) else if len*sz<=2 ^ 24/\len≠0 then .en len sz z (parts.toList.map λ(i,x)=>(i,SX.of x)) else .old o.op o.type
  | none=>.old o.op o.type
 | .call { callee:=.builtin b,args,argTypes }=>match b,args.toList with
  | .len,[x]=>if 1<=argTypes.size then (match P.underlying (argTypes.getD 0 0) with
   | some (.slice _)=>.len (SX.of x)
   | some .string=>.oh (SX.of x)
   | _=>.old o.op o.type) else .old o.op o.type
  | .append,[s,x]=>if 2<=argTypes.size/\iV P (argTypes.getD 1 0)=true then (match lU P (argTypes.getD 0 0) with
   | some (sz,b,_)=>.app sz b (SX.of s) (SX.of x)
   | none=>.old o.op o.type) else .old o.op o.type
  | .min,[x,y]=>.mm false (SX.of x) (SX.of y)
  | .max,[x,y]=>.mm true (SX.of x) (SX.of y)
  | _,_=>.old o.op o.type
 | .convert s d x=>match P.underlying s,P.underlying d with
  | some (.int _),some (.int k)=>.conv k (SX.of x)
  | _,_=>.old o.op o.type
 | .binOp op t x y _=>match eL P t with
  | some k=>match op with
   | .eql=>.nil true k (SX.of x) (SX.of y)
   | .neq=>.nil false k (SX.of x) (SX.of y)
   | _=>.old o.op o.type
  | none=>match P.underlying t with
   | some (.int _)=>match CG op with
    | some l=>.sh l (SX.of x) (SX.of y)
    | none=>.arith op (SX.of x) (SX.of y)
   | some .string=>.qF op (SX.of x) (SX.of y)
   | some .bool=>match op with
    | .eql=>.beq true (SX.of x) (SX.of y)
    | .neq=>.beq false (SX.of x) (SX.of y)
    | _=>.old o.op o.type
   | _=>.old o.op o.type
 | .unOp .not _ x=>.not (SX.of x)
 | .index t x i=>match P.underlying t with
  | some .string=>.mW (SX.of x) (SX.of i)
  | _=>.old o.op o.type
 | _=>.old o.op o.type
theorem s7 {P:Program} {t:TypeId} {T:Env}:∀(parts:List (Nat × Operand)) (c:List (Nat × Nat × SX)) (z:List V),lz P t parts=some c ->
  kQ (placeOf P t) z (parts.map λ(i,x)=>(i,ev T x))=gu z (c.map λ(a,b,x)=>(a,b,x.at T))
 | [],c,z,h=>by simp[lz] at h;subst h;rfl
 | (i,x)::r,c,z,h=>by
  simp only[lz] at h
  split at h
  .rename_i a b l d e
   simp at h;subst h
   simp only[H9,kQ,d,gu,SX.aU]
   split
   .exact s7 r l _ e
   .rfl
  .simp at h
theorem wb {P:Program} {o:Oper} {T:Env} {op:BinOp} {t u:TypeId} {x y:Operand} {k:IntKind} {a b:Int} {r:Value} (c:o.op=.binOp op t x y u) (d:ev T x=.val (.int k a)) (e:ev T y=.val (.int k b)) (h:dG op k a b=some r):
  bJ P o T=some (.val r,.none,[]):=by
 unfold bJ
 simp only[c,Op.operands]
 simp only[d,e,bz]
 cases op<;>simp only[dG,GS,reduceCtorEq] at h
 all_goals first
  | (
   split at h
   .simp at h
   .rename_i f
    simp at h;subst h
    simp[execOp,c,d,e,bz,eqGuard,binOp,Op.intDiv,f,plain]
    try rfl)
  | (subst h;simp[execOp,c,d,e,bz,eqGuard,binOp,Op.intArith,Op.intCmp,Op.intBits,plain];try rfl)
theorem Cl {P:Program} {o:Oper} {T:Env} {op:BinOp} {t u:TypeId} {x y:Operand} {l:Bool} {v:V} {ag:az} {rd:List Nat} (c:o.op=.binOp op t x y u) (d:CG op=some l) (h:B0 l (ev T x) (ev T y)=some (v,ag,rd)):
  bJ P o T=some (v,ag,rd):=by
 unfold B0 at h
 split at h
 .rename_i k a i b e f
  split at h
  .simp at h
  .rename_i g
   obtain⟨rfl,rfl,rfl⟩:=h
   unfold bJ
   simp only[c,Op.operands]
   cases op<;>simp only[CG,GS,reduceCtorEq] at d
   all_goals
    subst d
    simp[execOp,c,e,f,bz,eqGuard,binOp,Op.shift,g,plain,j8]
    try rfl
 .simp at h
theorem Cd {P:Program} {o:Oper} {T:Env} {op:BinOp} {t u:TypeId} {x y:Operand} {v:V} {ag:az} {rd:List Nat} (c:o.op=.binOp op t x y u) (h:pe op (ev T x) (ev T y)=some (v,ag,rd)):
  bJ P o T=some (v,ag,rd):=by
 unfold pe at h
 split at h
 .rename_i a b d e
  unfold bJ
  simp only[c,Op.operands,d,e,bz]
  have he:(a.toList==b.toList)=ej a b:=by simp[ej,ByteArray.toList_eq]
  split at h
  .simp at h;obtain⟨rfl,rfl,rfl⟩:=h
   simp[execOp,c,d,e,bz,eqGuard,binOp,Op.stringOp,plain,<-he];rfl
  .simp at h;obtain⟨rfl,rfl,rfl⟩:=h
   simp[execOp,c,d,e,bz,eqGuard,binOp,Op.stringOp,plain,<-he];rfl
  .simp at h
 .simp at h
theorem zF {P:Program} {o:Oper} {T:Env} {t:TypeId} {x i:Operand} {v:V} {ag:az} {rd:List Nat} (e:o.op=.index t x i) (hu:P.underlying t=some .string) (h:ra (ev T x) (ev T i)=some (v,ag,rd)):
  bJ P o T=some (v,ag,rd):=by
 unfold ra at h
 split at h
 .rename_i s q f a
  split at h
  .rename_i b m
   simp at h;obtain⟨rfl,rfl,rfl⟩:=h
   unfold asNat at a
   split at a
   .rename_i k z g
    split at a
    .rename_i j
     simp at a;subst a
     have l:s[z.toNat]?=some b:=by
      obtain⟨c,rfl⟩:=Ha.1 m
      have d:z.toNat<s.size:=by rw[bsize] at c;exact c
      rw[getElem?_pos s z.toNat d]
      rfl
     unfold bJ
     simp only[e,Op.operands,f,g,bz]
     simp[execOp,e,f,g,bz,Instr.index,asIntOf,underlying,program,hu,j,l,plain]
     simp[aH,hu,j,l,plain,bind,Sem.bind,pure]
     rfl
    .simp at a
   .simp at a
  .simp at h
 .simp at h
theorem Bd {P:Program} {o:Oper} {T:Env} {t:TypeId} {x:Operand} {b:Bool} (a:o.op=.unOp .not t x) (c:ev T x=.val (.bool b)):
  bJ P o T=some (.val (.bool (!b)),.none,[]):=by
 unfold bJ
 simp only[a,Op.operands,c,bz]
 simp[execOp,a,c,bz,Op.unary,plain]
 rfl
theorem eA {α β:Type} (P:Program) (s:Sem α) (f:α->β):aH P (Functor.map f s)=(aH P s).map f:=by
 show aH P (s >>= λa=>pure (f a))=_
 rw[aE]
 cases aH P s<;>rfl
theorem cD {P:Program} {t:TypeId} {d:TypeDesc} (h:P.underlying t=some d):aH P (underlying t)=some d:=by
 simp only[underlying,program,aE]
 simp[aH,h]
 rfl
theorem mL {P:Program} {t:TypeId} {a b:Bool} (hu:P.underlying t=some .bool):aH P (Op.equal t (.bool a) (.bool b))=some (a==b):=by
 rw[fV]
 generalize 9999=d
 simp only[Op.equalIn,aE,cD hu,Hj]
 rfl
theorem sA {P:Program} {o:Oper} {T:Env} {op:BinOp} {t u:TypeId} {x y:Operand} {a b:Bool} {r:Bool} (c:o.op=.binOp op t x y u) (hu:P.underlying t=some .bool) (d:ev T x=.val (.bool a)) (e:ev T y=.val (.bool b))
  (hr:(op=.eql/\r=(a==b))∨(op=.neq/\r=(a != b))):
  bJ P o T=some (.val (.bool r),.none,[]):=by
 unfold bJ
 simp only[c,Op.operands,d,e,bz]
 rcases hr with ⟨rfl,rfl⟩ | ⟨rfl,rfl⟩
 .simp[execOp,c,d,e,bz,eqGuard,binOp,eA,aE,mL hu,plain]
  try simp[aH,pure,plain]
 .simp[execOp,c,d,e,bz,eqGuard,binOp,eA,aE,mL hu,plain]
  try simp[aH,pure,plain,bne]
theorem zo {P:Program} {o:Oper} {T:Env} {s d:TypeId} {x:Operand} {f k b:IntKind} {a:Int} (c:o.op=.convert s d x) (g:P.underlying s=some (.int f)) (h:P.underlying d=some (.int k)) (e:ev T x=.val (.int b a)):
  bJ P o T=some (.val (.int k (k.wrap a)),.none,[]):=by
 unfold bJ
 simp only[c,Op.operands,e,bz]
 have:aH P (convert s d (.int b a))=some (.int k (k.wrap a)):=by
  simp only[convert,aE,cD g,cD h,Hj]
  rfl
 simp[execOp,c,e,bz,eA,this,plain]
theorem vr {P:Program} {o:Oper} {T:Env} {bi:Builtin} {x y:Operand} {k d:IntKind} {a b:Int} {args:Array Operand} {c:Array TypeId} {r:Int} (e:o.op=.call { callee:=.builtin bi,args:=args,argTypes:=c }) (h:args.toList=[x,y])
  (f:ev T x=.val (.int k a)) (g:ev T y=.val (.int d b)) (hr:(bi=.max/\r=if b>a then b else a)∨(bi=.min/\r=if b<a then b else a)):
  bJ P o T=some (.val (.int k r),.none,[]):=by
 obtain rfl:args = #[x,y]:=by rw[<-Array.toArray_toList (xs:=args),h]
 unfold bJ
 rcases hr with ⟨rfl,rfl⟩ | ⟨rfl,rfl⟩
 .have:aH P (Builtin.max_ c o.type #[.int k a,.int d b])=some (.int k (if b>a then b else a)):=rfl
  simp[e,Op.operands,Call.operands,f,g,bz,execOp,resolve,invoke,builtin,eA,this,plain]
 .have:aH P (Builtin.min_ c o.type #[.int k a,.int d b])=some (.int k (if b<a then b else a)):=rfl
  simp[e,Op.operands,Call.operands,f,g,bz,execOp,resolve,invoke,builtin,eA,this,plain]
theorem pT (l:List Operand) (T:Env):(l.map SX.of).map (SX.at T)=l.map (ev T):=by
 rw[List.map_map];congr 1;funext x;exact SX.aU T x
theorem D3 (l:Option Operand) (T:Env):(l.map SX.of).map (SX.at T)=l.map (ev T):=by
 cases l<;>simp[SX.aU]
theorem DJ (l:List (Nat × Operand)) (T:Env):(l.map λ(i,x)=>(i,SX.of x)).map (λ(i,x)=>(i,SX.at T x))=l.map λ(i,x)=>(i,ev T x):=by
 rw[List.map_map];congr 1;funext x;simp[SX.aU]
theorem xI {P:Program} {o:Oper} {T:Env} {H:View} {n:Nat} {v:V} {ag:az} {rd:List Nat} (h:sI P (comp P o) T H n=some (v,ag,rd)):
  aP P o T H n=some (v,ag,rd):=by
 have old:∀ {s:SI},s=.old o.op o.type->sI P s T H n=some (v,ag,rd)->aP P o T H n=some (v,ag,rd):=λe h=>by rw[e] at h;simp only[sI,Cr] at h;exact h
 unfold comp at h
 split at h
 .rename_i x g;simp only[sI,SX.aU] at h;simp only[aP,g];exact h
 .rename_i x g;simp only[sI,SX.aU] at h;simp only[aP,g];exact h
 .rename_i c a b g;simp only[sI,SX.aU] at h;simp only[aP,g];exact h
 .rename_i e g
  split at h
  .rename_i z U;simp only[sI] at h;simp only[aP,g,U];exact h
  .exact old rfl h
 .rename_i t x g;simp only[sI,SX.aU] at h;simp only[aP,g];exact h
 .rename_i t a g
  split at h
  .rename_i k p
   simp only[sI,SX.aU,l8] at h
   simp only[aP,g,gD,mh p]
   exact h
  .exact old rfl h
 .rename_i t a x g
  split at h
  .rename_i ti W
   simp only[sI,SX.aU,qp] at h
   simp only[aP,g,jc,W,Option.isSome_some,and_true]
   exact h
  .exact old rfl h
 .rename_i x g;simp only[sI,SX.aU] at h;simp only[aP,g];exact h
 .rename_i t x f g
  split at h
  .rename_i off s ft K
   split at h
   .exact old rfl h
   .rename_i Q
    simp only[sI,SX.aU,oq] at h
    simp only[aP,g,fW,K,Q,if_false]
    exact h
  .exact old rfl h
 .rename_i t x f g
  split at h
  .rename_i off s ft K
   split at h
   .rename_i k p
    simp only[sI,SX.aU] at h
    simp only[aP,g,lP,K]
    split at h
    .rename_i cs X;simp only[X,mh p];exact h
    .simp at h
   .exact old rfl h
  .exact old rfl h
 .rename_i t x i g
  split at h
  .rename_i sz b z p
   obtain⟨e,ti,B,L,A,F,M,R,N,rfl,rfl⟩:=j0 p
   simp only[sI,SX.aU,rR] at h
   simp only[aP,g,fT,L,A]
   exact h
  .exact old rfl h
 .rename_i t x lo hi g
  split at h
  .rename_i sz b z p
   obtain⟨e,ti,B,L,A,F,M,R,N,rfl,rfl⟩:=j0 p
   simp only[sI,SX.aU,D3] at h
   simp only[aP,g]
   have w:kb P t (ev T x) (lo.map (ev T)) (hi.map (ev T)) none=some (v,ag,rd):=by
    simp only[kb,B,A]
    unfold jm at h
    split at h
    .rename_i q;rw[q];exact h
    .rename_i q;rw[q];exact h
    .rename_i q;rw[q];exact h
    .simp at h
   unfold jm at h
   split at h
   .rename_i q;rw[q] at w ⊢;exact w
   .rename_i q;rw[q] at w ⊢;exact w
   .rename_i q;rw[q] at w ⊢;exact w
   .simp at h
  .exact old rfl h
 .rename_i t l c g
  split at h
  .rename_i sz b z p
   obtain⟨e,ti,B,L,A,F,M,R,N,rfl,rfl⟩:=j0 p
   simp only[sI,SX.aU,qG] at h
   simp only[aP,g,fS,B,A]
   split at h
   .rename_i l' c' hl J
    simp only[hl,J,N,if_false,F,M,R,and_self,if_true]
    exact h
   .simp at h
  .exact old rfl h
 .rename_i t g;simp only[sI] at h;simp only[aP,g];exact h
 .rename_i f first cap g;simp only[sI,pT] at h;simp only[aP,g];exact h
 .rename_i t i g;simp only[sI,SX.aU] at h;simp only[aP,g];exact h
 .rename_i t parts g
  split at h
  .rename_i fs z B L
   split at h
   .rename_i A
    split at h
    .rename_i ps F
     simp only[aP,g,lQ,B,L,A,if_true]
     have:=s7 (T:=T) parts.toList ps z F
     rw[this]
     exact h
    .exact old rfl h
   .exact old rfl h
  .exact old rfl h
 .rename_i t len parts g
  split at h
  .rename_i sz b z p
   obtain⟨e,ti,B,L,A,F,M,R,N,rfl,rfl⟩:=j0 p
   split at h
   .rename_i J
    obtain⟨rfl,J⟩:=J
    simp only[aP,g,dI,B,A]
    rw[List.isEmpty_iff] at J
    rw[GV (by omega),GZ trivial,J]
    exact h
   split at h
   .rename_i J
    simp only[sI,DJ,oI] at h
    simp only[aP,g,dI,B,A]
    rw[GV (by omega),GV J.2,GV N]
    simp only[F,M,R,and_self,if_true]
    exact h
   .exact old rfl h
  .exact old rfl h
 .rename_i b args a1 g
  split at h
  .rename_i x j
   split at h
   .rename_i G
    simp only[aP,g,j,G,if_true,lj]
    split at h
    .rename_i e hu
     simp only[sI,SX.aU] at h
     simp only[hu];exact h
    .rename_i hu
     simp only[sI,SX.aU] at h
     simp only[hu]
     exact h
    .have:=old rfl h
     simpa only [aP,g,j,G,if_true,lj] using this
   .exact old rfl h
  .rename_i s x j
   split at h
   .rename_i G
    split at h
    .rename_i sz b z p
     obtain⟨e,ti,B,L,A,F,M,R,N,rfl,rfl⟩:=j0 p
     simp only[sI,SX.aU] at h
     simp only[aP,g,j]
     rw[GZ G]
     unfold uF at h
     split at h
     .rename_i xs a6 Y
      simp only[gW,B,Y,A]
      have U:(zeroCells P e).map List.length=some ti.size:=by rw[F];simp[M]
      split at h
      .rename_i C;rw[GZ C];exact h
      .rename_i C
       rw[GV C]
       split at h
       .simp at h
       .rename_i S
        rw[GV (by
         rintro (q | q | q)
         .exact N q
         .exact q U
         .exact S q)]
        exact h
     .simp at h
    .exact old rfl h
   .exact old rfl h
  .rename_i x y j
   simp only[sI,SX.aU] at h
   simp only[aP,g]
   split at h
   .rename_i k a Z b D I
    have:=vr (P:=P) (T:=T) g j D I (.inr ⟨rfl,rfl⟩)
    rw[this];exact h
   .simp at h
  .rename_i x y j
   simp only[sI,SX.aU] at h
   simp only[aP,g]
   split at h
   .rename_i k a Z b D I
    have:=vr (P:=P) (T:=T) g j D I (.inl ⟨rfl,rfl⟩)
    rw[this];exact h
   .simp at h
  .exact old rfl h
 .rename_i s d x g
  split at h
  .rename_i k0 k Q hd
   simp only[sI,SX.aU] at h
   simp only[aP,g]
   split at h
   .rename_i Z a D
    have O:¬ (iZ P s d=true):=by simp[iZ,Q,hd]
    rw[GV O,zo g Q hd D];exact h
   .simp at h
  .exact old rfl h
 .rename_i op t x y u g
  split at h
  .rename_i k p
   have E:(eL P t).isSome=true:=by rw[p];rfl
   split at h
   .simp only[sI,SX.aU] at h
    simp only[aP,g]
    rw[GZ E,xf p]
    split at h
    .rename_i b O;rw[O];simpa using h
    .simp at h
   .simp only[sI,SX.aU] at h
    simp only[aP,g]
    rw[GZ E,xf p]
    split at h
    .rename_i b O;rw[O];simpa using h
    .simp at h
   .exact old rfl h
  .rename_i p
   have m:¬ ((eL P t).isSome=true):=by rw[p];simp
   split at h
   .split at h
    .rename_i l Q
     simp only[sI,SX.aU] at h
     simp only[aP,g]
     rw[GV m]
     exact Cl g Q h
    .simp only[sI,SX.aU,nZ] at h
     simp only[aP,g]
     split at h
     .rename_i k a Z b D I
      split at h
      .rename_i ao
       subst ao
       simp only[GU] at h
       obtain⟨r,hr,h⟩:=h
       rw[GV m,wb g D I hr];exact congrArg some h
      .simp at h
     .simp at h
   .simp only[sI,SX.aU] at h
    simp only[aP,g]
    rw[GV m]
    exact Cd g h
   .rename_i hu
    split at h
    .simp only[sI,SX.aU] at h
     simp only[aP,g]
     split at h
     .rename_i a b D I
      rw[GV m,sA g hu D I (.inl ⟨rfl,rfl⟩)];simpa using h
     .simp at h
    .simp only[sI,SX.aU] at h
     simp only[aP,g]
     split at h
     .rename_i a b D I
      rw[GV m,sA g hu D I (.inr ⟨rfl,rfl⟩)];simpa using h
     .simp at h
    .exact old rfl h
   .exact old rfl h
 .rename_i t x g
  simp only[sI,SX.aU] at h
  simp only[aP,g]
  split at h
  .rename_i b O;rw[Bd g O];exact h
  .simp at h
 .rename_i t x i g
  split at h
  .rename_i hu
   simp only[sI,SX.aU] at h
   simp only[aP,g]
   exact zF g hu h
  .exact old rfl h
 .exact old rfl h
theorem Dd {P:Program} {sz:Option Nat} {a:SX} {T:Env} {H:View} {n:Nat} {v:V} {ag:az} {rd:List Nat} (h:sI P (.oM sz a) T H n=some (v,ag,rd)):sI P (.load sz a) T H n=some (v,ag,rd):=by
 simp only[sI] at h
 simp only[sI,l8]
 split at h
 .rename_i e j b;rw[b];exact h
 .simp at h
def toStr (P:Program) (s d:TypeId):Bool:=match P.underlying s,P.underlying d with
 | some (.slice e),some .string=>(match P.underlying e with | some (.int .u8)=>true | _=>false)
 | _,_=>false
def lH (P:Program) (s d:TypeId):Bool:=match P.underlying s,P.underlying d with
 | some .string,some (.slice e)=>(match P.underlying e with | some (.int .u8)=>true | _=>false)
 | _,_=>false
theorem Bk {P:Program} {s d:TypeId} (h:toStr P s d=true):∃e,P.underlying s=some (.slice e)/\P.underlying d=some .string/\P.underlying e=some (.int .u8):=by
 unfold toStr at h
 split at h
 .rename_i e a b
  split at h
  .rename_i c;exact⟨e,a,b,c⟩
  .simp at h
 .simp at h
theorem o8 {P:Program} {s d:TypeId} (h:lH P s d=true):∃e,P.underlying s=some .string/\P.underlying d=some (.slice e)/\P.underlying e=some (.int .u8):=by
 unfold lH at h
 split at h
 .rename_i e a b
  split at h
  .rename_i c;exact⟨e,a,b,c⟩
  .simp at h
 .simp at h
theorem DN {P:Program} {s d ty:TypeId} {x:Operand} {T:Env} {H:View} {n:Nat} {v:V} {ag:az} {rd:List Nat} (a:toStr P s d=true) (h:sI P (.ri (SX.of x)) T H n=some (v,ag,rd)):sI P (.old (.convert s d x) ty) T H n=some (v,ag,rd):=by
 obtain⟨e,b,c,f⟩:=Bk a
 simp only[sI,SX.aU] at h
 simp only[sI,aP,oper,iZ,b,if_true,iJ,c,f]
 split at h
 .rename_i es g
  rw[g]
  exact h
 .simp at h
inductive SB where
 | op (s:SI)
 | call (f:SX) (args:List SX)
 | oD (f:SX) (args:List SX)
 deriving Inhabited
structure SO where
 dst:Option Nat
 guard:Option (Nat × Bool)
 b:SB
 deriving Inhabited
structure SG where
 guard:Option (Nat × Bool)
 ops:List (Option Nat × SB)
 deriving Inhabited
inductive SC where
 | skip
 | region (quiet:Bool) (gs:List SG)
 | ot (aps:List (Nat × Nat)) (gs:List SG)
 | iK (tol:Nat × Nat × Nat) (aps:List (Nat × Nat)) (gs:List SG)
 | seq (x y:SC)
 | cond (c:SX) (x y:SC)
 | block (id:Nat) (c:SC)
 | loop (c:SC)
 | exit (id:Nat)
 | ret
 | scope (l:Nat) (c r:SC)
 | label (l:Nat)
 | goto (l:Nat)
 deriving Inhabited
def hC:SC->Nat->Option SC
 | .seq a b,l=>match hC a l with
  | some r=>some (.seq r b)
  | none=>hC b l
 | .label l',l=>if l'==l then some .skip else none
 | _,_=>none
def vP:SC->Option Nat
 | .seq a b=>match vP a with
  | some l=>some l
  | none=>vP b
 | .label l=>some l
 | _=>none
def ou (l:Nat):Exit->Prop->Prop->Prop
 | .goto l',a,_=>l'=l/\a
 | _,_,b=>b
inductive SR where
 | tmp (t:Nat)
 | cell (t:Nat) (sz:Option Nat)
 deriving Inhabited
def oy (P:Program) (op:Op):Nat:=match op with
 | .convert s d _=>if iZ P s d=true then 2 else 0
 | .call { callee:=.builtin b,.. }=>match b with
  | .min | .max | .complex | .real | .imag=>0
  | .len=>1
  | _=>2
 | .lookup ..=>1
 | .binOp .. | .unOp .. | .index ..=>0
 | _=>2
def kK (P:Program):SI->Nat
 | .cU _ | .pick .. | .eN _ | .pQ _ | .addr .. | .field .. | .idx .. | .slice .. | .nu .. | .ext .. | .len _ | .oh _ | .arith .. | .sh .. | .qF .. | .mW .. | .not _ | .nil .. | .build .. | .oM .. | .beq .. | .mm .. | .conv .. | .ri _ | .df _=>0
 | .load .. | .box _ | .alloc _ | .en .. | .make .. | .mz=>1
 | .store .. | .app ..=>2
 | .old op _=>oy P op
def cX (P:Program) (quiet:Bool):SB->Nat
 | .op s=>kK P s
 | .call ..=>if quiet then 1 else 2
 | .oD ..=>1
structure Fz where
 l:List Nat
 fr:Bool
def nr (P:Program) (fr:Bool):SI->SI
 | .load k a=>if fr then .oM k a else .load k a
 | .old (.convert s d x) ty=>if fr&&toStr P s d then .ri (SX.of x) else .old (.convert s d x) ty
 | s=>s
def gG (P:Program) (fz:Fz) (o:Oper):SB:=match o.op with
 | .call { callee:=.value f,args,.. }=>if (match o.dst with | some d=>fz.l.contains (200000+d) | none=>false) then .oD (SX.of f) (args.toList.map SX.of) else .call (SX.of f) (args.toList.map SX.of)
 | .box _ x=>if (match o.dst with | some d=>fz.l.contains d | none=>false) then .op (.eN (SX.of x)) else .op (.box (SX.of x))
 | .convert s d x=>if (match o.dst with | some t=>fz.l.contains t | none=>false)&&lH P s d then .op (.df (SX.of x)) else .op (nr P fz.fr (comp P o))
 | _=>.op (nr P fz.fr (comp P o))
def lL (n:Nat) (all:List Oper) (o:Oper):Option (Option (Nat × Bool)):=match o.guard with
 | none=>some none
 | some (j,want)=>match (all[j]?).bind (·.dst) with
  | some d=>if d<n then some (some (d,want)) else none
  | none=>none
def tN (P:Program) (n:Nat) (all:List Oper) (fz:Fz) (o:Oper):Option SO:=
 if jO n o then (lL n all o).map λg=>⟨o.dst,g,gG P fz o⟩ else none
def bF (P:Program) (n:Nat) (all:List Oper) (fz:Fz):List Oper->Option (List SO)
 | []=>some []
 | o::r=>match tN P n all fz o,bF P n all fz r with
  | some s,some l=>some (s::l)
  | _,_=>none
def SG.flat (g:SG):List SO:=g.ops.map λ(d,b)=>⟨d,g.guard,b⟩
def gA (gs:List SG):List SO:=(gs.map SG.flat).flatten
def zq (g:Option (Nat × Bool)) (s:SO):Bool:=match g,s.guard with
 | none,none=>true
 | some (d,w),some (d',w')=>d==d'&&w==w'&&s.dst != some d
 | _,_=>false
def group:List SO->List SG
 | []=>[]
 | s::r=>match group r with
  | g::gs=>if zq g.guard s then ⟨g.guard,(s.dst,s.b)::g.ops⟩::gs else ⟨s.guard,[(s.dst,s.b)]⟩::g::gs
  | []=>[⟨s.guard,[(s.dst,s.b)]⟩]
theorem CX {g:Option (Nat × Bool)} {s:SO} (h:zq g s=true):s.guard=g:=by
 unfold zq at h
 grind
theorem cW:∀l:List SO,gA (group l)=l
 | []=>rfl
 | s::r=>by
  have a:=cW r
  simp only[group]
  split
  .rename_i g gs c
   rw[c] at a
   split
   .rename_i e
    have:=CX e
    rw[<-a]
    cases s with
    | mk d f b=>grind [gA,SG.flat]
   .rw[<-a];simp[gA,SG.flat]
  .rename_i c
   rw[c] at a
   rw[<-a];simp[gA,SG.flat]
def rl (o:Oper):Bool:=match o.op with
 | .load ..=>true
 | _=>false
def pJ (o:Oper):Bool:=match o.op with
 | .alloc _=>true
 | _=>false
def fH (o:Oper):Option Nat:=match o.op,o.guard with
 | .store _ (.tmp t) _,none=>some t
 | _,_=>none
def E7 (all:List Oper) (j k t:Nat):Bool:=match all[j]? with
 | some o=>o.dst==some t&&o.guard.isNone&&pJ o&&((all.drop (j+1)).take (k-(j+1))).all λo'=>o'.dst != some t
 | none=>false
def ov (all:List Oper) (i k:Nat):Bool:=match all[i]?,all[k]? with
 | some a,some b=>rl a&&(match fH b with
  | some t=>(List.range k).any λj=>decide (i<j)&&E7 all j k t
  | none=>false)
 | _,_=>false
def tJ (all:List Oper) (ls:List Nat):Bool:=
 let b:=cP all []
 ls.zipIdx.all λ(x,i)=>ls.zipIdx.all λ(y,k)=>!decide (i<k)||ordered b i k||x==0||y==0||(decide (x<=1)&&decide (y<=1))||ov all i k
def jZ (o:Oper):Option Nat:=match o.op with
 | .load _ (.tmp t)=>some t
 | _=>none
def stays (all:List Oper) (i t:Nat):Bool:=(all.drop i).all λo=>o.dst != some t
def rh (all:List Oper) (i k:Nat):Option (Nat × Nat):=match all[i]?,all[k]? with
 | some a,some b=>match jZ a,fH b with
  | some s,some t=>if stays all i s&&stays all k t then some (s,t) else none
  | _,_=>match fH a,jZ b with
   | some t,some s=>if stays all i t&&stays all k s then some (s,t) else none
   | _,_=>none
 | _,_=>none
def mX (all:List Oper) (x i y k:Nat):Bool:=!decide (i<k)||ordered (cP all []) i k||x==0||y==0||(decide (x<=1)&&decide (y<=1))||ov all i k
def fy (all:List Oper) (ls:List Nat):List (Nat × Nat):=ls.zipIdx.flatMap λ(x,i)=>ls.zipIdx.filterMap λ(y,k)=>if mX all x i y k then none else some (i,k)
def qC (all:List Oper):List (Nat × Nat)->Option (List (Nat × Nat))
 | []=>some []
 | (i,k)::r=>match rh all i k,qC all r with
  | some p,some l=>some (p::l)
  | _,_=>none
def zS (o:Oper):Option Nat:=match o.op,o.guard with
 | .call { callee:=.builtin .append,args,.. },none=>match args.toList with
  | [.tmp t,_]=>some t
  | _=>none
 | _,_=>none
def iB (o:Oper):Option Nat:=match fH o with
 | some t=>some t
 | none=>zS o
def uO (o:Oper):Bool:=match o.op with
 | .buildSlice ..=>true
 | .alloc _=>true
 | _=>false
def newAt (all:List Oper) (k:Nat):Bool:=match all[k]? with
 | some b=>uO b
 | none=>false
def rq (all:List Oper) (i k:Nat):Option (Nat × Nat):=match all[i]?,all[k]? with
 | some a,some b=>match jZ a,iB b with
  | some s,some t=>if stays all i s&&stays all k t then some (s,t) else none
  | _,_=>match iB a,jZ b with
   | some t,some s=>if stays all i t&&stays all k s then some (s,t) else none
   | _,_=>none
 | _,_=>none
def l7 (all:List Oper) (ls:List Nat) (i k:Nat):Option (Nat × Nat × Nat):=match all[i]?,all[k]? with
 | some a,some b=>match a.op,b.op,a.guard,b.guard with
  | .lookup t (.tmp m) (.tmp q) false,.mapEntry t' (.tmp m') (.tmp q'),none,none =>
   if t==t'&&m==m'&&q==q'&&stays all i m&&stays all i q&&stays all k m&&stays all k q&&decide (i<k)&&(List.range k).all λj=>decide (ls.getD j 2<=1) then some (t,m,q) else none
  | _,_,_,_=>none
 | _,_=>none
def tH (all:List Oper) (ls:List Nat) (tp:Option (Nat × Nat)):List (Nat × Nat):=(fy all ls).filter λp=>!newAt all p.2&&tp != some p
def oN (o:Oper):Option (Nat × Nat × Nat):=match o.op,o.guard,o.dst with
 | .call { callee:=.builtin .append,args,.. },none,some d=>match args.toList with
  | [.tmp t,.tmp y]=>some (t,y,d)
  | _=>none
 | _,_,_=>none
def rK (all:List Oper) (i k:Nat):Option (List (Nat × Nat)):=match all[i]?,all[k]? with
 | some a,some b=>match oN a,oN b with
  | some (t,y,d),some (t',y',_)=>if stays all i t&&stays all i y&&stays all (i+1) d&&stays all k t'&&stays all k y' then some [(t,t'),(t,y'),(t',y),(d,t')] else none
  | _,_=>none
 | _,_=>none
def ow (all:List Oper) (i k:Nat):Option (List (Nat × Nat)):=match rq all i k with
 | some p=>some [p]
 | none=>rK all i k
def lp (all:List Oper):List (Nat × Nat)->Option (List (Nat × Nat))
 | []=>some []
 | (i,k)::r=>match ow all i k,lp all r with
  | some p,some l=>some (p++l)
  | _,_=>none
def kL (g:SG):Bool:=match g.guard with
 | none=>true
 | some (d,_)=>g.ops.all λx=>x.1 != some d
def jQ (P:Program) (n:Nat) (fz:Fz) (ops:List Oper) (draw quiet:Bool):Option SC:=match bF P n ops fz ops with
 | none=>none
 | some l=>if !(group l).all kL then none else
  if draw then (if fC ops&&tJ ops (l.map λs=>cX P quiet s.b) then some (.region quiet (group l)) else none)
  else some (.region quiet (group l))
def qy (P:Program) (n:Nat) (fz:Fz) (ops:List Oper):Option SC:=match bF P n ops fz ops with
 | none=>none
 | some l=>if !(group l).all kL then none else
  if fC ops then (qC ops (fy ops (l.map λs=>cX P false s.b))).map λaps=>.ot aps (group l) else none
def yj (all:List Oper) (ls:List Nat):Option (Nat × Nat):=(fy all ls).find? λp=>(l7 all ls p.1 p.2).isSome
def pX (P:Program) (n:Nat) (fz:Fz) (ops:List Oper):Option SC:=match bF P n ops fz ops with
 | none=>none
 | some l=>if !(group l).all kL then none else
  if fC ops then
   (match yj ops (l.map λs=>cX P false s.b) with
   | none=>(lp ops (tH ops (l.map λs=>cX P false s.b) none)).map λaps=>.ot aps (group l)
   | some p=>match l7 ops (l.map λs=>cX P false s.b) p.1 p.2 with
    | some tol=>(lp ops (tH ops (l.map λs=>cX P false s.b) (some p))).map λaps=>.iK tol aps (group l)
    | none=>none)
  else none
def Dv:Nat:=100000
def Fq:Nat:=100001
def orElse':Option SC->Option SC->Option SC
 | some x,_=>some x
 | none,y=>y
def tF (P:Program) (n:Nat) (fz:List Nat) (ops:List Oper) (draw:Bool):Option SC:=
 orElse' (jQ P n ⟨fz,false⟩ ops draw false) (if draw then orElse' (if fz.contains Dv then pX P n ⟨fz,false⟩ ops else none)<|orElse' (if fz.contains Fq then jQ P n ⟨fz,true⟩ ops true false else none)<|orElse' (qy P n ⟨fz,false⟩ ops) (orElse' (jQ P n ⟨fz,false⟩ ops true true) (orElse' (jQ P n ⟨fz,true⟩ ops true false) (jQ P n ⟨fz,true⟩ ops true true))) else none)
def bj (P:Program) (n:Nat) (fz:List Nat):Code->Option SC
 | .skip=>some .skip
 | .region _ ops draw=>tF P n fz ops.toList draw
 | .seq x y=>match bj P n fz x,bj P n fz y with
  | some a,some b=>some (.seq a b)
  | _,_=>none
 | .cond c x y=>match bj P n fz x,bj P n fz y with
  | some a,some b=>some (.cond (SX.of c) a b)
  | _,_=>none
 | .block id c=>(bj P n fz c).map (.block id)
 | .loop c=>(bj P n fz c).map .loop
 | .exit id=>some (.exit id)
 | .ret=>some .ret
 | .scope c=>match bj P n fz c with
  | some sc=>match vP sc with
   | some l=>(hC sc l).map λr=>.scope l sc r
   | none=>none
  | none=>none
 | .label l=>some (.label l)
 | .goto l=>some (.goto l)
 | _=>none
def ey (h h':ah):Prop:=∀id,id<h.length->h.view id=.dead->h'.view id=.dead
theorem ey.refl (h:ah):ey h h:=λ_ _ e=>e
theorem ey.trans {a b c:ah} (h:ey a b) (k:ey b c) (f:a.length<=b.length):ey a c:=λid d e=>k id (G2 d f) (h id d e)
def ar (P:Program) (f:FuncId) (vs:List V) (H:View) (K:V->View->Prop):Prop:=
 ba P f=true/\∀h:ah,h.view=H->∃r h',aN P f vs h r h'/\ey h h'/\K r h'.view
def qq (P:Program) (f:FuncId) (vs:List V) (H:View) (K:V->View->Prop):Prop:=
 ba P f=true/\∀h:ah,h.view=H->∃r h',aN P f vs h r h'/\(∀id,id<h.length->h'.view id=h.view id)/\K r h'.view
def eT (sz:Option Nat) (e:List V) (j:Nat) (K:V->Prop):Prop:=match sz with
 | some n=>j+n<=e.length/\K (.agg ((e.drop j).take n))
 | none=>j<e.length/\K (e.getD j .any)
def wI (P:Program) (s:SI) (T:Env) (H:View) (K:V->View->Prop):Prop:=match s with
 | .cU x=>K (x.at T) H
 | .pick c a b=>match c.at T with
  | .val (.bool t)=>K (if t then a.at T else b.at T) H
  | _=>False
 | .box x=>(x.at T).cells.all au=true/\∀n,H n=.dead->K (.ptr n 0 0) (H.set n (.arr (x.at T).cells.length [(x.at T).cells]))
 | .eN x=>(x.at T).cells.all au=true/\K (.aC (x.at T).cells 0) H
 | .alloc z=>z.all au=true/\∀n,H n=.dead->K (.ptr n 0 0) (H.set n (.arr z.length [z]))
 | .load sz a=>match a.at T with
  | .ptr id i j=>match H id with
   | .arr _ es=>i<es.length/\eT sz (es.getD i []) j λv=>K v H
   | _=>False
  | .aC e j=>eT sz e j λv=>K v H
  | _=>False
 | .oM sz a=>match a.at T with
  | .aC e j=>eT sz e j λv=>K v H
  | _=>False
 | .store sz a x=>match a.at T with
  | .ptr id i j=>match H id with
   | .arr esz es=>(i<es.length/\(x.at T).cells.length=sz/\j+(x.at T).cells.length<=esz/\(x.at T).cells.all au=true) /\
     K .any (H.set id (.arr esz (es.set i (cI (es.getD i []) j (x.at T).cells))))
   | _=>False
  | _=>False
 | .pQ x=>match x.at T with
  | .ptr id i j=>K (.ptr id i j) H
  | .aC e j=>K (.aC e j) H
  | .fn f a b=>K (.fn f a b) H
  | _=>False
 | .addr off x=>match x.at T with
  | .ptr id i j=>K (.ptr id i (j+off)) H
  | .aC e j=>K (.aC e (j+off)) H
  | _=>False
 | .field off sz x=>match x.at T with
  | .agg cs=>eT sz cs off λv=>K v H
  | _=>False
 | .idx sz x i=>match asNat (i.at T) with
  | none=>False
  | some q=>match x.at T with
   | .sl id off len esz=>(q<len/\esz=sz)/\K (.ptr id (off+q) 0) H
   | .al es=>∃e,es[q]?=some e/\e.length=sz/\K (.aC e 0) H
   | _=>False
 | .nu f first cap=>K (.fn f (first.map (SX.at T)) (cap.map (SX.at T))) H
 | .mz=>∀n,H n=.dead->K (.mp n) (H.set n (.map [] 0))
 | .ext i x=>match x.at T with
  | .aA vs=>i<vs.length/\K (vs.getD i .any) H
  | _=>False
 | .len x=>match dd (x.at T) with
  | some n=>K (gq n) H
  | none=>False
 | .oh x=>match x.at T with
  | .val (.string s)=>K (gq s.size) H
  | _=>False
 | .arith op x y=>match x.at T,y.at T with
  | .val (.int k a),.val (.int k' b)=>k=k'/\(match dG op k a b with | some v=>K (.val v) H | none=>False)
  | _,_=>False
 | .qF op x y=>match x.at T,y.at T with
  | .val (.string a),.val (.string b)=>(match op with
   | .eql=>K (.val (.bool (ej a b))) H
   | .neq=>K (.val (.bool (!ej a b))) H
   | _=>False)
  | _,_=>False
 | .mW x i=>match x.at T,asNat (i.at T) with
  | .val (.string s),some q=>∃b,s.data.toList[q]?=some b/\K (.val (.int .u8 b.toNat)) H
  | _,_=>False
 | .not x=>match x.at T with
  | .val (.bool t)=>K (.val (.bool (!t))) H
  | _=>False
 | .nil eq k x y=>match pg (ct k (x.at T)) (ct k (y.at T)) with
  | some b=>K (.val (.bool (if eq then b else !b))) H
  | none=>False
 | .beq eq x y=>match x.at T,y.at T with
  | .val (.bool a),.val (.bool b)=>K (.val (.bool (if eq then a==b else a != b))) H
  | _,_=>False
 | .mm mx x y=>match x.at T,y.at T with
  | .val (.int k a),.val (.int _ b)=>K (.val (.int k (if mx then (if b>a then b else a) else (if b<a then b else a)))) H
  | _,_=>False
 | .conv k x=>match x.at T with
  | .val (.int _ a)=>K (.val (.int k (k.wrap a))) H
  | _=>False
 | .sh l x y=>match x.at T,y.at T with
  | .val (.int k a),.val (.int _ b)=>0<=b/\K (.val (.int k (j8 l k a b))) H
  | _,_=>False
 | .build z parts=>match gu z (parts.map λ(a,b,x)=>(a,b,x.at T)) with
  | some cs=>K (.agg cs) H
  | none=>False
 | .en len sz z parts=>match fQ sz (List.replicate len z) (parts.map λ(i,x)=>(i,x.at T)) with
  | some es=>∀n,H n=.dead->K (.sl n 0 len sz) (H.set n (.arr sz es))
  | none=>False
 | .slice sz x lo hi=>match jm sz (x.at T) (lo.map (SX.at T)) (hi.map (SX.at T)) with
  | some (v,.none,_)=>K v H
  | _=>False
 | .make sz bytes z l c=>match asNat (l.at T),asNat (c.at T) with
  | some l,some c=>(l<=c/\c<aD/\bytes*c<aD)/\(c=0->K (.emp 2) H)/\(c≠0->∀n,H n=.dead->K (.sl n 0 l sz) (H.set n (.arr sz (List.replicate l z))))
  | _,_=>False
 | .app sz bytes x y=>match bc H (y.at T) with
  | some (xs,_)=>if xs.isEmpty=true then (match x.at T with
    | .emp k=>K (.emp k) H
    | .bS=>K .bS H
    | .al es=>K (.al es) H
    | .sl a b c d=>K (.sl a b c d) H
    | _=>False)
   else (xs.all λe=>e.length==sz&&e.all au)=true/\(match x.at T with
    | .emp _=>(xs.length*bytes<aD/\xs.length<aD)/\∀n,H n=.dead->K (.sl n 0 xs.length sz) (H.set n (.arr sz xs))
    | .sl id off len esz=>match H id with
     | .arr _ es=>(off+len<=es.length/\esz=sz/\(len+xs.length)*bytes<aD/\len+xs.length<aD) /\
      ∀n,H n=.dead->K (.sl n 0 (len+xs.length) esz) ((H.set id .dead).set n (.arr esz ((es.drop off).take len++xs)))
     | _=>False
    | _=>False)
  | none=>False
 | .ri x=>match x.at T with
  | .al es=>(match ji es with
   | some l=>K (.val (.string ⟨l.toArray⟩)) H
   | none=>False)
  | _=>False
 | .df x=>match x.at T with
  | .val (.string s)=>K (.al (dt s)) H
  | _=>False
 | s=>∀n,H n=.dead->∃v ag rd,sI P s T H n=some (v,ag,rd)/\K v (ag.view H n)
def wB (P:Program) (quiet:Bool) (b:SB) (T:Env) (H:View) (K:V->View->Prop):Prop:=match b with
 | .op s=>wI P s T H K
 | .call f args=>match f.at T with
  | .fn g first cap=>if quiet then qq P g (first++args.map (SX.at T)++cap) H K else ar P g (first++args.map (SX.at T)++cap) H K
  | _=>False
 | .oD f args=>match f.at T with
  | .fn g first cap=>qq P g (first++args.map (SX.at T)++cap) H K
  | _=>False
def o5 (P:Program) (quiet:Bool):List (Option Nat × SB)->Env->View->(Env->View->Prop)->Prop
 | [],T,H,K=>K T H
 | (d,b)::r,T,H,K=>wB P quiet b T H λv H'=>o5 P quiet r (T.put d v) H' K
def ef:List (Option Nat × SB)->Env->Env
 | [],T=>T
 | (d,_)::r,T=>ef r (T.put d (.aA []))
def wG (P:Program) (quiet:Bool) (g:SG) (T:Env) (H:View) (K:Env->View->Prop):Prop:=match g.guard with
 | none=>o5 P quiet g.ops T H K
 | some (d,want)=>match T d with
  | .val (.bool b)=>(b=want->o5 P quiet g.ops (T.put (some d) (.val (.bool want))) H K)/\(b = !want->K (ef g.ops (T.put (some d) (.val (.bool (!want))))) H)
  | .aA []=>K (ef g.ops T) H
  | _=>False
def mO (P:Program) (quiet:Bool):List SG->Env->View->(Env->View->Prop)->Prop
 | [],T,H,K=>K T H
 | g::r,T,H,K=>wG P quiet g T H λT' H'=>mO P quiet r T' H' K
def kU (c:SX) (b:Bool) (T:Env):Env:=match c with
 | .tmp t=>T.put (some t) (.val (.bool b))
 | _=>T
def oO:Exit->Prop->Prop->Prop
 | .normal,a,_=>a
 | _,_,b=>b
def eh (a b:V):Prop:=match a,b with
 | .ptr i _ _,.ptr j _ _=>i≠j
 | .ptr i _ _,.sl j _ _ _=>i≠j
 | .ptr _ _ _,.emp _=>True
 | .ptr _ _ _,.bS=>True
 | .ptr _ _ _,.al _=>True
 | .aC _ _,_=>True
 | .sl i _ _ _,.sl j _ _ _=>i≠j
 | .sl _ _ _ _,.emp _=>True
 | .sl _ _ _ _,.bS=>True
 | .sl _ _ _ _,.al _=>True
 | .emp _,_=>True
 | .bS,_=>True
 | .al _,_=>True
 | _,_=>False
def rv (P:Program) (t:TypeId) (m q:V) (H:View):Prop:=match m with
 | .mp id=>(∃es c,H id=.map es c)/\∀v obj rd,cx P t (.mp id) q H=some (v,.dp id obj,rd)->cH P t (.mp id) q false (H.set id obj)=cH P t (.mp id) q false H
 | _=>False
def nI:List (Nat × Nat)->Env->Prop->Prop
 | [],_,K=>K
 | p::l,T,K=>eh (T p.1) (T p.2)/\nI l T K
def wS (P:Program):SC->Env->View->(Exit->Env->View->Prop)->Prop
 | .skip,T,H,Q=>Q .normal T H
 | .region quiet gs,T,H,Q=>mO P quiet gs T H (Q .normal)
 | .ot aps gs,T,H,Q=>mO P false gs T H λT' H'=>nI aps T' (Q .normal T' H')
 | .iK tol aps gs,T,H,Q=>mO P false gs T H λT' H'=>rv P tol.1 (T' tol.2.1) (T' tol.2.2) H/\nI aps T' (Q .normal T' H')
 | .seq x y,T,H,Q=>wS P x T H λe T' H'=>oO e (wS P y T' H' Q) (Q e T' H')
 | .cond c x y,T,H,Q=>match c.at T with
  | .val (.bool b)=>(b=true->wS P x (kU c true T) H Q)/\(b=false->wS P y (kU c false T) H Q)
  | _=>False
 | .block id c,T,H,Q=>wS P c T H λe=>Q (iP id e)
 | .loop c,T,H,Q=>∃I:Nat->Env->View->Prop,(∃k,I k T H)/\∀k T H,I k T H->wS P c T H λe T' H'=>oO e (∃k',k'<k/\I k' T' H') (Q e T' H')
 | .exit id,T,H,Q=>Q (.exit id) T H
 | .ret,T,H,Q=>Q .ret T H
 | .scope l c r,T,H,Q=>∃(I:Nat->Env->View->Prop) (K:Nat),wS P c T H (λe T' H'=>ou l e (∃k,k<K/\I k T' H') (Q e T' H'))/\∀k T H,I k T H->wS P r T H λe T' H'=>ou l e (∃k',k'<k/\I k' T' H') (Q e T' H')
 | .label _,T,H,Q=>Q .normal T H
 | .goto l,T,H,Q=>Q (.goto l) T H
def wR (T:Env) (H:View) (r:SR) (K:V->Prop):Prop:=match r with
 | .tmp t=>K (T t)
 | .cell t sz=>match T t with
  | .ptr id i j=>match H id with
   | .arr _ es=>i<es.length/\eT sz (es.getD i []) j K
   | _=>False
  | .aC e j=>eT sz e j K
  | _=>False
def sT (T:Env) (H:View):List SR->List V->(List V->Prop)->Prop
 | [],acc,K=>K acc
 | r::l,acc,K=>wR T H r λv=>sT T H l (acc++[v]) K
def ml:List V->V
 | [v]=>v
 | vs=>.aA vs
def cY (P:Program):List ResultVar->Option (List SR)
 | []=>some []
 | .tmp t::r=>(cY P r).map (.tmp t :: ·)
 | .cell a t::r=>match q8 P t,cY P r with
  | some k,some l=>some (.cell a k::l)
  | _,_=>none
structure SF where
 code:SC
 res:List SR
 n:Nat
def ai:List SC->SC
 | []=>.skip
 | [a]=>a
 | a::b::l=>.seq a (ai (b::l))
abbrev gp (k a b:Nat):Option Nat × SB:=(none,.op (.store k (.tmp a) (.tmp b)))
abbrev dU (a k:Nat):Option Nat × SB:=(some a,.op (.cU (.val (.emp k))))
abbrev o9 (d s b x y:Nat):Option Nat × SB:=(some d,.op (.app s b (.tmp x) (.tmp y)))
abbrev bV (a:Nat) (x:SC):SC:=.cond (.tmp a) x .skip
abbrev eY (a:Nat) (x:SC):SC:=.cond (.tmp a) .skip x
abbrev fk (a:Nat) (x:SC):SC:=.block a (.loop x)
abbrev ab (a b:Nat):Option Nat × SB:=(some a,.op (.cU (.tmp b)))
abbrev bR (a:Nat) (n:Int):Option Nat × SB:=(some a,.op (.cU (.val (.val (.int .i64 n)))))
abbrev bq (a:Nat) (n:Bool):Option Nat × SB:=(some a,.op (.cU (.val (.val (.bool n)))))
abbrev aG (a b:Nat):Option Nat × SB:=(some a,.op (.load none (.tmp b)))
abbrev c6 (a k b:Nat):Option Nat × SB:=(some a,.op (.load (some k) (.tmp b)))
abbrev aO (a k b:Nat):Option Nat × SB:=(some a,.op (.addr k (.tmp b)))
abbrev b4 (a k b c:Nat):Option Nat × SB:=(some a,.op (.idx k (.tmp b) (.tmp c)))
abbrev fY (a b c:Nat):Option Nat × SB:=(some a,.op (.pick (.tmp b) (.val (.val (.bool true))) (.tmp c)))
abbrev jg (a b c:Nat):Option Nat × SB:=(some a,.op (.pick (.tmp b) (.tmp c) (.val (.val (.bool false)))))
abbrev cm (a:Nat) (o:BinOp) (b c:Nat):Option Nat × SB:=(some a,.op (.arith o (.tmp b) (.tmp c)))
abbrev aZ (a:Nat) (o:BinOp) (b:Nat) (n:Int):Option Nat × SB:=(some a,.op (.arith o (.tmp b) (.val (.val (.int .i64 n)))))
abbrev bg (a b:Nat):Option Nat × SB:=(some a,.op (.len (.tmp b)))
abbrev vi (a k b:Nat):Option Nat × SB:=(some a,.op (.ext k (.tmp b)))
abbrev db (a b:Nat):Option Nat × SB:=(some a,.op (.not (.tmp b)))
abbrev gU (a b:Nat):Option Nat × SB:=(some a,.op (.eN (.tmp b)))
abbrev GO (a b:Nat):Option Nat × SB:=(some a,.op (.pQ (.tmp b)))
abbrev mM (a f:Nat) (l:List SX):Option Nat × SB:=(some a,.call (.val (.fn f [] [])) l)
abbrev bX (a f:Nat) (l:List Nat):Option Nat × SB:=(some a,.call (.val (.fn f [] [])) (l.map .tmp))
abbrev af (l:List (Option Nat × SB)):SC:=.region false [⟨none,l⟩]
def aM (P:Program) (f:FuncId) (fz:List Nat):Option SF:=match P.funcs[f]? with
 | some fn=>match fn.body with
  | some c=>match bj P fn.ntmps fz c,cY P fn.results.toList,ba P f with
   | some sc,some rs,true=>some ⟨sc,rs,fn.ntmps⟩
   | _,_,_=>none
  | none=>none
 | none=>none
theorem iD {sz:Option Nat} {e:List V} {j:Nat} {K:V->Prop} (h:eT sz e j K):∃v,gE sz e j=some v/\K v:=by
 cases sz with
 | none=>exact⟨_,by simp only[gE];rw[GZ h.1],h.2⟩
 | some n=>exact⟨_,by simp only[gE];rw[GZ h.1],h.2⟩
theorem FH {P:Program} {s:SI} {T:Env} {H:View} {K:V->View->Prop} (h:wI P s T H K) {n:Nat} (u:H n=.dead):
  ∃v ag rd,sI P s T H n=some (v,ag,rd)/\K v (ag.view H n):=by
 unfold wI at h
 split at h
 .exact⟨_,_,_,rfl,h⟩
 .split at h
  .rename_i t G;exact⟨_,_,_,by simp only[sI,G];rfl,h⟩
  .exact h.elim
 .exact⟨_,_,_,by simp only[sI,fZ];rw[GZ h.1],h.2 n u⟩
 .exact⟨_,_,_,by simp only[sI];rw[GZ h.1],h.2⟩
 .exact⟨_,_,_,by simp only[sI,fZ];rw[GZ h.1],h.2 n u⟩
 .split at h
  .rename_i id i j w
   split at h
   .rename_i es B
    obtain⟨x,f⟩:=h
    obtain⟨v,p,g⟩:=iD f
    exact⟨_,_,_,by simp only[sI,l8,w,B];rw[GZ x,p];rfl,g⟩
   .exact h.elim
  .rename_i e j w
   obtain⟨v,p,g⟩:=iD h
   exact⟨_,_,_,by simp only[sI,l8,w];rw[p];rfl,g⟩
  .exact h.elim
 .split at h
  .rename_i e j w
   obtain⟨v,p,g⟩:=iD h
   exact⟨_,_,_,by simp only[sI,w];rw[p];rfl,g⟩
  .exact h.elim
 .split at h
  .rename_i id i j w
   split at h
   .rename_i esz es B
    exact⟨_,_,_,by simp only[sI,qp,w,B];rw[GZ h.1],h.2⟩
   .exact h.elim
  .exact h.elim
 .split at h
  .rename_i d;exact⟨_,_,_,by simp only[sI,d];rfl,h⟩
  .rename_i d;exact⟨_,_,_,by simp only[sI,d];rfl,h⟩
  .rename_i d;exact⟨_,_,_,by simp only[sI,d];rfl,h⟩
  .exact h.elim
 .split at h
  .rename_i d;exact⟨_,_,_,by simp only[sI,oq,d];rfl,h⟩
  .rename_i d;exact⟨_,_,_,by simp only[sI,oq,d];rfl,h⟩
  .exact h.elim
 .split at h
  .rename_i cs d
   obtain⟨v,p,g⟩:=iD h
   exact⟨_,_,_,by simp only[sI,d,p];rfl,g⟩
  .exact h.elim
 .split at h
  .exact h.elim
  .rename_i q C
   split at h
   .rename_i d;exact⟨_,_,_,by simp only[sI,rR,C,d];rw[GZ h.1],h.2⟩
   .rename_i es d
    obtain⟨e,he,A,g⟩:=h
    have D:q<es.length:=(Ha.1 he).1
    have E:es.getD q []=e:=by simp[GQ,he]
    exact⟨_,_,_,by simp only[sI,rR,C,d];rw[E,GZ ⟨D,A⟩],g⟩
   .exact h.elim
 .exact⟨_,_,_,rfl,h⟩
 .exact⟨_,_,_,rfl,h n u⟩
 .split at h
  .rename_i vs d;exact⟨_,_,_,by simp only[sI,d];rw[GZ h.1],h.2⟩
  .exact h.elim
 .split at h
  .rename_i m d;exact⟨_,_,_,by simp only[sI,d];rfl,h⟩
  .exact h.elim
 .split at h
  .rename_i s d;exact⟨_,_,_,by simp only[sI,d];rfl,h⟩
  .exact h.elim
 .split at h
  .rename_i k a J b d o
   obtain⟨rfl,h⟩:=h
   split at h
   .rename_i v p;exact⟨_,_,_,by simp only[sI,nZ,d,o,if_true,p];rfl,h⟩
   .exact h.elim
  .exact h.elim
 .split at h
  .rename_i a b d o
   split at h
   .exact⟨_,_,_,by simp only[sI,pe,d,o];rfl,h⟩
   .exact⟨_,_,_,by simp only[sI,pe,d,o];rfl,h⟩
   .exact h.elim
  .exact h.elim
 .split at h
  .rename_i s q d C
   obtain⟨b,r,g⟩:=h
   exact⟨_,_,_,by simp only[sI,ra,d,C,r];rfl,g⟩
  .exact h.elim
 .split at h
  .rename_i t d;exact⟨_,_,_,by simp only[sI,d];rfl,h⟩
  .exact h.elim
 .split at h
  .rename_i b r;exact⟨_,_,_,by simp only[sI,r];rfl,h⟩
  .exact h.elim
 .split at h
  .rename_i d o;exact⟨_,_,_,by simp only[sI,d,o];rfl,h⟩
  .exact h.elim
 .split at h
  .rename_i d o;exact⟨_,_,_,by simp only[sI,d,o];rfl,h⟩
  .exact h.elim
 .split at h
  .rename_i d;exact⟨_,_,_,by simp only[sI,d];rfl,h⟩
  .exact h.elim
 .split at h
  .rename_i d o;exact⟨_,_,_,by simp only[sI,B0,d,o];rw[GV (by omega)],h.2⟩
  .exact h.elim
 .split at h
  .rename_i cs r;exact⟨_,_,_,by simp only[sI,r];rfl,h⟩
  .exact h.elim
 .split at h
  .rename_i es r;exact⟨_,_,_,by simp only[sI,oI,r];rfl,h n u⟩
  .exact h.elim
 .split at h
  .rename_i v rd r;exact⟨_,_,_,by simp only[sI,r];rfl,h⟩
  .exact h.elim
 .split at h
  .rename_i l c A F
   obtain⟨x,f,I⟩:=h
   by_cases e:c=0
   .exact⟨.emp 2,.none,[],by simp only[sI,qG,A,F];rw[GZ x,GZ e],f e⟩
   .exact⟨_,_,_,by simp only[sI,qG,A,F];rw[GZ x,GV e],I e n u⟩
  .exact h.elim
 .split at h
  .rename_i xs rd y
   split at h
   .rename_i he
    split at h
    all_goals first
     | (rename_i d;exact⟨_,_,_,by simp only[sI,uF,y];rw[GZ he,d],h⟩)
     | exact h.elim
   .rename_i he
    obtain⟨x,f⟩:=h
    split at f
    .rename_i d
     exact⟨_,_,_,by simp only[sI,uF,y];rw[GV he,GV (by rw[x];simp),d];simp only;rw[GZ f.1],f.2 n u⟩
    .rename_i id off len esz d
     split at f
     .rename_i z es B
      exact⟨_,_,_,by simp only[sI,uF,y];rw[GV he,GV (by rw[x];simp),d];simp only[B];rw[GZ f.1],f.2 n u⟩
     .exact f.elim
    .exact f.elim
  .exact h.elim
 .split at h
  .rename_i d
   split at h
   .rename_i l A;exact⟨_,_,_,by simp only[sI,d,A];rfl,h⟩
   .exact h.elim
  .exact h.elim
 .split at h
  .rename_i d;exact⟨_,_,_,by simp only[sI,d];rfl,h⟩
  .exact h.elim
 .exact h n u
def eo (k:Nat) (rd wr:List Nat) (call:Bool) (n n':Nat):Prop:=
 (k=0->rd=[]/\wr=[]/\call=false/\n'=n)/\(k<=1->wr=[])
theorem Dp {k:Nat} (h:k=2) {rd wr:List Nat} {call:Bool} {n a:Nat} : eo k rd wr call n a:=⟨λb=>by omega,λb=>by omega⟩
theorem jq {P:Program} {o:Oper} {T:Env} {v:V} {ag:az} {rd:List Nat} (h:bJ P o T=some (v,ag,rd)):ag=.none/\rd=[]:=by
 unfold bJ at h
 split at h
 .split at h
  .split at h
   .simp at h;exact⟨h.2.1.symm,h.2.2⟩
   .simp at h
  .simp at h
 .simp at h
theorem Ci {P:Program} {o:Oper} {T:Env} {H:View} {n:Nat} {v:V} {ag:az} {rd:List Nat} (h:aP P o T H n=some (v,ag,rd)):
  (oy P o.op=0->ag=.none/\rd=[])/\(oy P o.op=1->ag.wr=[]):=by
 unfold oy
 split
 .rename_i s d x a
  simp only[aP,a] at h
  split
  .exact⟨λh=>by simp at h,λh=>by simp at h⟩
  .rename_i g
   rw[GV g] at h
   exact⟨λ_=>jq h,λh=>by simp at h⟩
 .rename_i b args j a
  simp only[aP,a] at h
  split
  any_goals exact⟨λ_=>jq h,λh=>by simp at h⟩
  .refine⟨λh=>by simp at h,λ_=>?_⟩
   split at h
   .split at h
    .simp only[lj] at h
     have c:∀ {f:V} {r:List Nat},some (f,az.none,r)=some (v,ag,rd)->ag.wr=[]:=λe=>by
      simp only[GS,G6] at e;rw[<-e.2.1];rfl
     split at h
     .simp only[GU] at h
      obtain⟨_,_,h⟩:=h
      exact c (congrArg some h)
     .split at h
      .split at h
       .exact c h
       .simp at h
      .exact c h
      .simp at h
     .split at h
      .exact c h
      .simp at h
     .exact c h
     .simp at h
    .simp at h
   all_goals contradiction
  .exact⟨λh=>by simp at h,λh=>by simp at h⟩
 .rename_i t m k ok a
  refine⟨λh=>by simp at h,λ_=>?_⟩
  simp only[aP,a,cH] at h
  have c:∀ {f:V} {r:List Nat},some (f,az.none,r)=some (v,ag,rd)->ag.wr=[]:=λe=>by
   simp only[GS,G6] at e;rw[<-e.2.1];rfl
  split at h
  .simp at h
  .split at h
   .simp at h
   .split at h
    .split at h
     .split at h
      .split at h
       .exact c h
       .simp at h
      .exact c h
      .simp at h
     .simp at h
    .simp at h
 .rename_i op t x y u a
  refine⟨λ_=>?_,λh=>by simp at h⟩
  simp only[aP,a] at h
  split at h
  .split at h
   .simp at h;exact⟨h.2.1.symm,h.2.2⟩
   .simp at h;exact⟨h.2.1.symm,h.2.2⟩
   .simp at h
  .exact jq h
 .rename_i op t x a
  exact⟨λ_=>jq (by simpa only [aP,a] using h),λh=>by simp at h⟩
 .rename_i t x i a
  exact⟨λ_=>jq (by simpa only [aP,a] using h),λh=>by simp at h⟩
 .exact⟨λh=>by simp at h,λh=>by simp at h⟩
theorem jY {P:Program} {s:SI} {T:Env} {H:View} {n:Nat} {v:V} {ag:az} {rd:List Nat} (h:sI P s T H n=some (v,ag,rd)):
  (kK P s=0->ag=.none/\rd=[])/\(kK P s=1->ag.wr=[]):=by
 have nn:∀ {v':V},some (v',az.none,([]:List Nat))=some (v,ag,rd)->ag=.none/\rd=[]:=λe=>by
  simp only[GS,G6] at e;exact⟨e.2.1.symm,e.2.2.symm⟩
 have mp:∀ {α:Type} {x:Option α} {f:α->V},(x.map λa=>(f a,az.none,([]:List Nat)))=some (v,ag,rd)->ag=.none/\rd=[]:=by
  intro α x f h
  simp only[GU] at h
  obtain⟨a,_,h⟩:=h
  simp only[G6] at h;exact⟨h.2.1.symm,h.2.2.symm⟩
 have nw:∀ {v':V} {o:cQ} {r:List Nat},some (v',az.new o,r)=some (v,ag,rd)->ag.wr=[]:=λe=>by
  simp only[GS,G6] at e;rw[<-e.2.1];rfl
 have n1:∀ {v':V} {r:List Nat},some (v',az.none,r)=some (v,ag,rd)->ag.wr=[]:=λe=>by
  simp only[GS,G6] at e;rw[<-e.2.1];rfl
 unfold kK
 cases s<;>simp only[sI] at h
 case old op ty=>exact Ci (o:=oper op ty) h
 all_goals
  constructor<;>intro hk<;>first
   | (exfalso;revert hk;simp;done)
   | skip
 all_goals try simp only[l8,fZ,oq,rR,jm,qG,oI,nZ,B0,pe,ra] at h
 all_goals first
  | exact nn h
  | exact mp h
  | exact nw h
  | exact n1 h
  | skip
 all_goals repeat' (split at h)
 all_goals first
  | exact nn h
  | exact mp h
  | exact nw h
  | exact n1 h
  | (simp at h;done)
  | (simp only[GU,G6] at h;obtain⟨_,_,_,rfl,_⟩:=h;rfl)
end Gv
