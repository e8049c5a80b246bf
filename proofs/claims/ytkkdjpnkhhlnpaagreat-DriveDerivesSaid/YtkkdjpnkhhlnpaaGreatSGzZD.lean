/-
  Part 4 of the proof: what the machine does and what the functions answer.
  Conditions: those that each lemma names.
-/
import Derived.Test.YtkkdjpnkhhlnpaaGreatSGzZC
set_option linter.unusedSimpArgs false
set_option linter.unusedVariables false
set_option maxRecDepth 100000
namespace Gv
open Go
inductive SX where
  | tmp (t:Nat)
  | val (v:V)
  deriving Inhabited
def SX.of:Operand→SX
  | .tmp t=>.tmp t
  | .const v=>.val (ofVal v)
  | .global _=>.val .any
  | .func f=>.val (.fn f [] [])
def SX.at (T:Env):SX→V
  | .tmp t=>T t
  | .val v=>v
theorem SX.of_at (T:Env) (x:Operand):(SX.of x).at T=ev T x:=by cases x <;> rfl
inductive SI where
  | mov (x:SX)
  | pick (c a b:SX)
  | box (x:SX)
  | frz (x:SX)
  | alloc (z:List V)
  | build (z:List V) (parts:List (Nat × Nat × SX))
  | bslice (len sz:Nat) (z:List V) (parts:List (Nat × SX))
  | load (sz:Option Nat) (a:SX)
  | loadF (sz:Option Nat) (a:SX)
  | store (sz:Nat) (a x:SX)
  | nilc (x:SX)
  | addr (off:Nat) (x:SX)
  | field (off:Nat) (sz:Option Nat) (x:SX)
  | idx (sz:Nat) (x i:SX)
  | slice (sz:Nat) (x:SX) (lo hi:Option SX)
  | make (sz bytes:Nat) (z:List V) (l c:SX)
  | mkmap
  | mkfn (f:FuncId) (first cap:List SX)
  | ext (i:Nat) (x:SX)
  | len (x:SX)
  | lenS (x:SX)
  | app (sz bytes:Nat) (x y:SX)
  | arith (op:BinOp) (x y:SX)
  | sh (left:Bool) (x y:SX)
  | sop (op:BinOp) (x y:SX)
  | sidx (x i:SX)
  | not (x:SX)
  | nil (eq:Bool) (k:Nat) (x y:SX)
  | beq (eq:Bool) (x y:SX)
  | mm (mx:Bool) (x y:SX)
  | conv (k:IntKind) (x:SX)
  | strF (x:SX)
  | frzB (x:SX)
  | old (op:Op) (ty:TypeId)
  deriving Inhabited
def partS:Option Nat→List V→Nat→Option V
  | some n,cs,off=>if off+n≤cs.length then some (.agg ((cs.drop off).take n)) else none
  | none,cs,off=>if off < cs.length then some (cs.getD off .any) else none
def sLoad (sz:Option Nat) (a:V) (H:View):Out:=match a with
  | .ptr id i j=>match H id with
    | .arr _ es=>if i < es.length then (partS sz (es.getD i []) j).map fun v=>(v,.none,[id]) else none
    | _=>none
  | .fptr e j=>(partS sz e j).map fun v=>(v,.none,[])
  | _=>none
def sStore (sz:Nat) (a v:V) (H:View):Out:=match a with
  | .ptr id i j=>match H id with
    | .arr esz es =>
      if i < es.length∧v.cells.length=sz∧j+v.cells.length≤esz∧v.cells.all cellOk=true
      then some (.any,.upd id (.arr esz (es.set i (splice (es.getD i []) j v.cells))),[id]) else none
    | _=>none
  | _=>none
def sBuild (z:List V) (parts:List (Nat × Nat × V)):Option (List V):=match parts with
  | []=>some z
  | (off,size,x) :: r=>if x.cells.length=size∧off+size≤z.length∧x.cells.all cellOk=true then sBuild (splice z off x.cells) r else none
def sBslice (len sz:Nat) (z:List V) (parts:List (Nat × V)) (n:Nat):Out :=
  match fillE sz (List.replicate len z) parts with
  | some es=>some (.sl n 0 len sz,.new (.arr sz es),[])
  | none=>none
def sAddr (off:Nat) (x:V):Out:=match x with
  | .ptr id i j=>some (.ptr id i (j+off),.none,[])
  | .fptr e j=>some (.fptr e (j+off),.none,[])
  | _=>none
def sIdx (sz:Nat) (x i:V):Out:=match asNat i with
  | none=>none
  | some q=>match x with
    | .sl id off len esz=>if q < len∧esz=sz then some (.ptr id (off+q) 0,.none,[]) else none
    | .fro es=>if q < es.length∧(es.getD q []).length=sz then some (.fptr (es.getD q []) 0,.none,[]) else none
    | _=>none
def sSlice (sz:Nat) (x:V) (lo hi:Option V):Out:=match x with
  | .sl id off len esz=>match bound 0 lo,bound len hi with
    | some l,some h=>if l≤h∧h≤len∧esz=sz then some (.sl id (off+l) (h - l) esz,.none,[]) else none
    | _,_=>none
  | .fro es=>match bound 0 lo,bound es.length hi with
    | some l,some h=>if l≤h∧h≤es.length∧(es.all fun e=>e.length == sz)=true then some (.fro ((es.drop l).take (h - l)),.none,[]) else none
    | _,_=>none
  | .emp k=>match bound 0 lo,bound 0 hi with
    | some 0,some 0=>some (.emp k,.none,[])
    | _,_=>none
  | _=>none
def sMake (sz bytes:Nat) (z:List V) (len cap:V) (n:Nat):Out:=match asNat len,asNat cap with
  | some l,some c =>
    if l≤c∧c < limit∧bytes * c < limit then
      (if c=0 then some (.emp 2,.none,[]) else some (.sl n 0 l sz,.new (.arr sz (List.replicate l z)),[]))
    else none
  | _,_=>none
def sApp (sz bytes:Nat) (s x:V) (H:View) (n:Nat):Out:=match elemsOf H x with
  | some (xs,rd) =>
      if xs.isEmpty then (match s with
        | .emp _ | .nem | .fro _ | .sl _ _ _ _=>some (s,.none,[])
        | _=>none)
      else if ¬ ((xs.all fun e=>e.length == sz && e.all cellOk)=true) then none
      else match s with
        | .emp _=>if xs.length * bytes < limit∧xs.length < limit then some (.sl n 0 xs.length sz,.new (.arr sz xs),rd) else none
        | .sl id off len esz=>match H id with
          | .arr _ es =>
            if off+len≤es.length∧esz=sz∧(len+xs.length) * bytes < limit∧len+xs.length < limit
            then some (.sl n 0 (len+xs.length) esz,.mov id (.arr esz ((es.drop off).take len ++ xs)),id :: rd) else none
          | _=>none
        | _=>none
  | none=>none
def intOp (op:BinOp) (k:IntKind) (a b:Int):Option Value:=match op with
  | .add=>some (.int k (k.wrap (a+b)))
  | .sub=>some (.int k (k.wrap (a - b)))
  | .mul=>some (.int k (k.wrap (a * b)))
  | .quo=>if b=0 then none else some (.int k (k.wrap (a.tdiv b)))
  | .rem=>if b=0 then none else some (.int k (a.tmod b))
  | .eql=>some (.bool (a == b))
  | .neq=>some (.bool (a != b))
  | .lss=>some (.bool (a < b))
  | .leq=>some (.bool (a≤b))
  | .gtr=>some (.bool (a > b))
  | .geq=>some (.bool (a≥b))
  | .or=>some (.int k (k.wrap (BitVec.ofInt k.bits a ||| BitVec.ofInt k.bits b).toNat))
  | .and=>some (.int k (k.wrap (BitVec.ofInt k.bits a &&& BitVec.ofInt k.bits b).toNat))
  | .xor=>some (.int k (k.wrap (BitVec.ofInt k.bits a ^^^ BitVec.ofInt k.bits b).toNat))
  | .andNot=>some (.int k (k.wrap (BitVec.ofInt k.bits a &&& ~~~(BitVec.ofInt k.bits b)).toNat))
  | _=>none
def sArith (op:BinOp) (x y:V):Out:=match x,y with
  | .val (.int k a),.val (.int k' b)=>if k=k' then (intOp op k a b).map fun v=>(.val v,.none,[]) else none
  | _,_=>none
def shOp (left:Bool) (k:IntKind) (a b:Int):Int:=if left then k.wrap (a * 2 ^ (min b.toNat k.bits)) else a.fdiv (2 ^ (min b.toNat k.bits))
def sSh (left:Bool) (x y:V):Out:=match x,y with
  | .val (.int k a),.val (.int _ b)=>if b < 0 then none else some (.val (.int k (shOp left k a b)),.none,[])
  | _,_=>none
def shOf:BinOp→Option Bool
  | .shl=>some true
  | .shr=>some false
  | _=>none
def strEq (a b:ByteArray):Bool:=a.data.toList == b.data.toList
def sSop (op:BinOp) (x y:V):Out:=match x,y with
  | .val (.string a),.val (.string b)=>match op with
    | .eql=>some (.val (.bool (strEq a b)),.none,[])
    | .neq=>some (.val (.bool (!strEq a b)),.none,[])
    | _=>none
  | _,_=>none
def sSidx (x i:V):Out:=match x,asNat i with
  | .val (.string s),some q=>match s.data.toList[q]? with
    | some b=>some (.val (.int .u8 b.toNat),.none,[])
    | none=>none
  | _,_=>none
def nilB:Option Bool→Option Bool→Option Bool
  | some true,some b=>some b
  | some b,some true=>some b
  | _,_=>none
theorem aNil_eq {P:Program} {t:TypeId} {k:Nat} (h:nilKind P t=some k) (x y:V):aNil P t x y=nilB (isNil k x) (isNil k y):=by
  simp only[aNil,h]
  unfold nilB
  split <;> simp_all
def oper (op:Op) (ty:TypeId):Oper:=⟨none,op,ty,"",#[],none⟩
theorem aop_oper (P:Program) (o:Oper) (T:Env) (H:View) (n:Nat):aop P (oper o.op o.type) T H n=aop P o T H n:=by
  cases o; rfl
def sI (P:Program) (s:SI) (T:Env) (H:View) (n:Nat):Out:=match s with
  | .mov x=>some (x.at T,.none,[])
  | .pick c a b=>match c.at T with
    | .val (.bool t)=>some (if t then a.at T else b.at T,.none,[])
    | _=>none
  | .box x=>aBox (x.at T).cells n
  | .frz x=>if (x.at T).cells.all cellOk=true then some (.fptr (x.at T).cells 0,.none,[]) else none
  | .alloc z=>aBox z n
  | .build z parts=>(sBuild z (parts.map fun (a,b,x)=>(a,b,x.at T))).map fun cs=>(.agg cs,.none,[])
  | .bslice len sz z parts=>sBslice len sz z (parts.map fun (i,x)=>(i,x.at T)) n
  | .load sz a=>sLoad sz (a.at T) H
  | .loadF sz a=>match a.at T with
    | .fptr e j=>(partS sz e j).map fun v=>(v,.none,[])
    | _=>none
  | .store sz a x=>sStore sz (a.at T) (x.at T) H
  | .nilc x=>match x.at T with
    | .ptr id i j=>some (.ptr id i j,.none,[])
    | .fptr e j=>some (.fptr e j,.none,[])
    | .fn f a b=>some (.fn f a b,.none,[])
    | _=>none
  | .addr off x=>sAddr off (x.at T)
  | .field off sz x=>match x.at T with
    | .agg cs=>(partS sz cs off).map fun v=>(v,.none,[])
    | _=>none
  | .idx sz x i=>sIdx sz (x.at T) (i.at T)
  | .slice sz x lo hi=>sSlice sz (x.at T) (lo.map (SX.at T)) (hi.map (SX.at T))
  | .make sz bytes z l c=>sMake sz bytes z (l.at T) (c.at T) n
  | .mkmap=>some (.mp n,.new (.map [] 0),[])
  | .mkfn f first cap=>some (.fn f (first.map (SX.at T)) (cap.map (SX.at T)),.none,[])
  | .ext i x=>match x.at T with
    | .tup vs=>if i < vs.length then some (vs.getD i .any,.none,[]) else none
    | _=>none
  | .len x=>(lenV (x.at T)).map fun n=>(goI n,.none,[])
  | .lenS x=>match x.at T with
    | .val (.string s)=>some (goI s.size,.none,[])
    | _=>none
  | .app sz bytes x y=>sApp sz bytes (x.at T) (y.at T) H n
  | .arith op x y=>sArith op (x.at T) (y.at T)
  | .sh l x y=>sSh l (x.at T) (y.at T)
  | .sop op x y=>sSop op (x.at T) (y.at T)
  | .sidx x i=>sSidx (x.at T) (i.at T)
  | .not x=>match x.at T with
    | .val (.bool t)=>some (.val (.bool (!t)),.none,[])
    | _=>none
  | .nil eq k x y=>match nilB (isNil k (x.at T)) (isNil k (y.at T)) with
    | some b=>some (.val (.bool (if eq then b else !b)),.none,[])
    | none=>none
  | .beq eq x y=>match x.at T,y.at T with
    | .val (.bool a),.val (.bool b)=>some (.val (.bool (if eq then a == b else a != b)),.none,[])
    | _,_=>none
  | .mm mx x y=>match x.at T,y.at T with
    | .val (.int k a),.val (.int _ b)=>some (.val (.int k (if mx then (if b > a then b else a) else (if b < a then b else a))),.none,[])
    | _,_=>none
  | .conv k x=>match x.at T with
    | .val (.int _ a)=>some (.val (.int k (k.wrap a)),.none,[])
    | _=>none
  | .strF x=>match x.at T with
    | .fro es=>(textOf es).map fun l=>(.val (.string ⟨l.toArray⟩),.none,[])
    | _=>none
  | .frzB x=>match x.at T with
    | .val (.string s)=>some (.fro (bytesE s),.none,[])
    | _=>none
  | .old op ty=>aop P (oper op ty) T H n
def partK (P:Program) (t:TypeId):Option (Option Nat):=match P.info? t,aggKind P t with
  | some i,some true=>some (some i.size)
  | some _,some false=>some none
  | _,_=>none
theorem partK_ok {P:Program} {t:TypeId} {k:Option Nat} (h:partK P t=some k) (cs:List V) (j:Nat):partV P t cs j=partS k cs j:=by
  unfold partK at h
  split at h
  · rename_i i h1 h2
    simp at h; subst h; simp[partV,h1,h2,partS]
  · rename_i i h1 h2
    simp at h; subst h; simp[partV,h1,h2,partS]
  · simp at h
def elemK (P:Program) (t:TypeId):Option (Nat × Nat × List V):=match sliceElem P t with
  | some e=>match P.info? e,zeroCells P e with
    | some ti,some z=>if z.length=ti.size∧z.all cellOk=true∧ti.size≠0 then some (ti.size,ti.bytes,z) else none
    | _,_=>none
  | none=>none
theorem elemK_ok {P:Program} {t:TypeId} {sz by':Nat} {z:List V} (h:elemK P t=some (sz,by',z)) :
    ∃ e ti,sliceElem P t=some e∧P.underlying t=some (.slice e)∧P.info? e=some ti∧zeroCells P e=some z∧z.length=ti.size∧z.all cellOk=true∧ti.size≠0∧sz=ti.size∧by'=ti.bytes:=by
  unfold elemK at h
  split at h
  · rename_i e he
    split at h
    · rename_i ti z' h1 h2
      split at h
      · rename_i hc
        simp at h
        obtain ⟨rfl,rfl,rfl⟩:=h
        have hu:P.underlying t=some (.slice e):=by
          unfold sliceElem at he; split at he
          · rename_i h3; simp at he; subst he; exact h3
          · simp at he
        exact ⟨e,ti,he,hu,h1,h2,hc.1,hc.2.1,hc.2.2,rfl,rfl⟩
      · simp at h
    · simp at h
  · simp at h
def placesS (P:Program) (t:TypeId):List (Nat × Operand)→Option (List (Nat × Nat × SX))
  | []=>some []
  | (i,x) :: r=>match placeOf P t i,placesS P t r with
    | some (a,b),some l=>some ((a,b,SX.of x) :: l)
    | _,_=>none
def comp (P:Program) (o:Oper):SI:=match o.op with
  | .move x | .assign x=>.mov (SX.of x)
  | .pick c a b=>.pick (SX.of c) (SX.of a) (SX.of b)
  | .alloc e=>match zeroCells P e with
    | some z=>.alloc z
    | none=>.old o.op o.type
  | .box _ x=>.box (SX.of x)
  | .load t a=>match partK P t with
    | some k=>.load k (SX.of a)
    | none=>.old o.op o.type
  | .store t a v=>match P.info? t with
    | some _=>.store (P.cellsOf t) (SX.of a) (SX.of v)
    | none=>.old o.op o.type
  | .nilCheck x=>.nilc (SX.of x)
  | .fieldAddr t x f=>match fieldPl P t f with
    | some (off,s,_)=>if s=0 then .old o.op o.type else .addr off (SX.of x)
    | none=>.old o.op o.type
  | .field t x f=>match fieldPl P t f with
    | some (off,_,ft)=>match partK P ft with
      | some k=>.field off k (SX.of x)
      | none=>.old o.op o.type
    | none=>.old o.op o.type
  | .indexAddr t x i=>match elemK P t with
    | some (sz,_,_)=>.idx sz (SX.of x) (SX.of i)
    | none=>.old o.op o.type
  | .slice t x lo hi none=>match elemK P t with
    | some (sz,_,_)=>.slice sz (SX.of x) (lo.map SX.of) (hi.map SX.of)
    | none=>.old o.op o.type
  | .makeSlice t l c=>match elemK P t with
    | some (sz,b,z)=>.make sz b z (SX.of l) (SX.of c)
    | none=>.old o.op o.type
  | .makeMap _ none=>.mkmap
  | .makeFunc (.func f) first cap=>.mkfn f (first.toList.map SX.of) (cap.toList.map SX.of)
  | .extract t i=>.ext i (SX.of t)
  | .build t parts=>match P.underlying t,zeroV P t with
    | some (.struct _),some (.agg z)=>if fieldsKnown P t=true then
        (match placesS P t parts.toList with
        | some ps=>.build z ps
        | none=>.old o.op o.type) else .old o.op o.type
    | _,_=>.old o.op o.type
  | .buildSlice t len parts=>match elemK P t with
    | some (sz,_,z)=>if len=0∧parts.toList.isEmpty=true then .mov (.val (.emp 2)) else if len * sz≤2 ^ 24∧len≠0 then .bslice len sz z (parts.toList.map fun (i,x)=>(i,SX.of x)) else .old o.op o.type
    | none=>.old o.op o.type
  | .call { callee:=.builtin b,args,argTypes }=>match b,args.toList with
    | .len,[x]=>if 1≤argTypes.size then (match P.underlying (argTypes.getD 0 0) with
      | some (.slice _)=>.len (SX.of x)
      | some .string=>.lenS (SX.of x)
      | _=>.old o.op o.type) else .old o.op o.type
    | .append,[s,x]=>if 2≤argTypes.size∧noInt P (argTypes.getD 1 0)=true then (match elemK P (argTypes.getD 0 0) with
      | some (sz,b,_)=>.app sz b (SX.of s) (SX.of x)
      | none=>.old o.op o.type) else .old o.op o.type
    | .min,[x,y]=>.mm false (SX.of x) (SX.of y)
    | .max,[x,y]=>.mm true (SX.of x) (SX.of y)
    | _,_=>.old o.op o.type
  | .convert s d x=>match P.underlying s,P.underlying d with
    | some (.int _),some (.int k)=>.conv k (SX.of x)
    | _,_=>.old o.op o.type
  | .binOp op t x y _=>match nilKind P t with
    | some k=>match op with
      | .eql=>.nil true k (SX.of x) (SX.of y)
      | .neq=>.nil false k (SX.of x) (SX.of y)
      | _=>.old o.op o.type
    | none=>match P.underlying t with
      | some (.int _)=>match shOf op with
        | some l=>.sh l (SX.of x) (SX.of y)
        | none=>.arith op (SX.of x) (SX.of y)
      | some .string=>.sop op (SX.of x) (SX.of y)
      | some .bool=>match op with
        | .eql=>.beq true (SX.of x) (SX.of y)
        | .neq=>.beq false (SX.of x) (SX.of y)
        | _=>.old o.op o.type
      | _=>.old o.op o.type
  | .unOp .not _ x=>.not (SX.of x)
  | .index t x i=>match P.underlying t with
    | some .string=>.sidx (SX.of x) (SX.of i)
    | _=>.old o.op o.type
  | _=>.old o.op o.type
theorem sBuild_ok {P:Program} {t:TypeId} {T:Env} : ∀ (parts:List (Nat × Operand)) (ps:List (Nat × Nat × SX)) (z:List V),placesS P t parts=some ps →
    fillC (placeOf P t) z (parts.map fun (i,x)=>(i,ev T x))=sBuild z (ps.map fun (a,b,x)=>(a,b,x.at T))
  | [],ps,z,h=>by simp[placesS] at h; subst h; rfl
  | (i,x) :: r,ps,z,h=>by
    simp only[placesS] at h
    split at h
    · rename_i a b l h1 h2
      simp at h; subst h
      simp only[List.map_cons,fillC,h1,sBuild,SX.of_at]
      split
      · exact sBuild_ok r l _ h2
      · rfl
    · simp at h
theorem aPure_arith {P:Program} {o:Oper} {T:Env} {op:BinOp} {t u:TypeId} {x y:Operand} {k:IntKind} {a b:Int} {r:Value} (ho:o.op=.binOp op t x y u) (hx:ev T x=.val (.int k a)) (hy:ev T y=.val (.int k b)) (h:intOp op k a b=some r) :
    aPure P o T=some (.val r,.none,[]):=by
  unfold aPure
  simp only[ho,Op.operands]
  simp only[toVal]
  cases op <;> simp only[intOp,Option.some.injEq,reduceCtorEq] at h
  all_goals first
    | (
       split at h
       · simp at h
       · rename_i hb
         simp at h; subst h
         simp[execOp,ho,hx,hy,eqGuard,binOp,Op.intDiv,hb,plain]
         try rfl)
    | (subst h; simp[execOp,ho,hx,hy,eqGuard,binOp,Op.intArith,Op.intCmp,Op.intBits,plain]; try rfl)
theorem aPure_sh {P:Program} {o:Oper} {T:Env} {op:BinOp} {t u:TypeId} {x y:Operand} {l:Bool} {v:V} {eff:Eff} {rd:List Nat} (ho:o.op=.binOp op t x y u) (hs:shOf op=some l) (h:sSh l (ev T x) (ev T y)=some (v,eff,rd)) :
    aPure P o T=some (v,eff,rd):=by
  unfold sSh at h
  split at h
  · rename_i k a k' b hx hy
    split at h
    · simp at h
    · rename_i hb
      simp only[Option.some.injEq,Prod.mk.injEq] at h
      obtain ⟨rfl,rfl,rfl⟩:=h
      unfold aPure
      simp only[ho,Op.operands]
      simp only[toVal]
      cases op <;> simp only[shOf,Option.some.injEq,reduceCtorEq] at hs
      all_goals
        subst hs
        simp[execOp,ho,hx,hy,eqGuard,binOp,Op.shift,hb,plain,shOp]
        try rfl
  · simp at h
theorem aPure_sop {P:Program} {o:Oper} {T:Env} {op:BinOp} {t u:TypeId} {x y:Operand} {v:V} {eff:Eff} {rd:List Nat} (ho:o.op=.binOp op t x y u) (h:sSop op (ev T x) (ev T y)=some (v,eff,rd)) :
    aPure P o T=some (v,eff,rd):=by
  unfold sSop at h
  split at h
  · rename_i a b hx hy
    unfold aPure
    simp only[ho,Op.operands,toVal]
    have he:(a.toList == b.toList)=strEq a b:=by simp[strEq,ByteArray.toList_eq]
    split at h
    · simp at h; obtain ⟨rfl,rfl,rfl⟩:=h
      simp[execOp,ho,hx,hy,eqGuard,binOp,Op.stringOp,plain,← he]; rfl
    · simp at h; obtain ⟨rfl,rfl,rfl⟩:=h
      simp[execOp,ho,hx,hy,eqGuard,binOp,Op.stringOp,plain,← he]; rfl
    · simp at h
  · simp at h
theorem aPure_sidx {P:Program} {o:Oper} {T:Env} {t:TypeId} {x i:Operand} {v:V} {eff:Eff} {rd:List Nat} (ho:o.op=.index t x i) (hu:P.underlying t=some .string) (h:sSidx (ev T x) (ev T i)=some (v,eff,rd)) :
    aPure P o T=some (v,eff,rd):=by
  unfold sSidx at h
  split at h
  · rename_i s q hx hq
    split at h
    · rename_i b hb
      simp at h; obtain ⟨rfl,rfl,rfl⟩:=h
      unfold asNat at hq
      split at hq
      · rename_i k z hz
        split at hq
        · rename_i h0
          simp at hq; subst hq
          have hs:s[z.toNat]?=some b:=by
            obtain ⟨hlt,rfl⟩:=List.getElem?_eq_some_iff.1 hb
            have hlt':z.toNat < s.size:=by rw[bsize] at hlt; exact hlt
            rw[getElem?_pos s z.toNat hlt']
            rfl
          unfold aPure
          simp only[ho,Op.operands,toVal]
          simp[execOp,ho,hx,hz,Instr.index,asIntOf,underlying,program,h0,plain]
          simp[pureRun,hu,hs,bind,Sem.bind,pure]
          rfl
        · simp at hq
      · simp at hq
    · simp at h
  · simp at h
theorem aPure_not {P:Program} {o:Oper} {T:Env} {t:TypeId} {x:Operand} {b:Bool} (ho:o.op=.unOp .not t x) (hx:ev T x=.val (.bool b)) :
    aPure P o T=some (.val (.bool (!b)),.none,[]):=by
  unfold aPure
  simp only[ho,Op.operands,toVal]
  simp[execOp,ho,hx,Op.unary,plain]
  rfl
theorem pureRun_map {α β:Type} (P:Program) (s:Sem α) (f:α→β):pureRun P (Functor.map f s)=(pureRun P s).map f:=by
  show pureRun P (s >>= fun a=>pure (f a))=_
  rw[pureRun_bind]
  cases pureRun P s <;> rfl
theorem pureRun_under {P:Program} {t:TypeId} {d:TypeDesc} (h:P.underlying t=some d):pureRun P (underlying t)=some d:=by
  simp only[underlying,program,pureRun_bind]
  simp[pureRun,h]
  rfl
theorem pureRun_equal {P:Program} {t:TypeId} {a b:Bool} (hu:P.underlying t=some .bool):pureRun P (Op.equal t (.bool a) (.bool b))=some (a == b):=by
  rw[equal_succ]
  generalize 9999=d
  simp only[Op.equalIn,pureRun_bind,pureRun_under hu,Option.bind_some]
  rfl
theorem aPure_beq {P:Program} {o:Oper} {T:Env} {op:BinOp} {t u:TypeId} {x y:Operand} {a b:Bool} {r:Bool} (ho:o.op=.binOp op t x y u) (hu:P.underlying t=some .bool) (hx:ev T x=.val (.bool a)) (hy:ev T y=.val (.bool b))
    (hr:(op=.eql∧r=(a == b))∨(op=.neq∧r=(a != b))) :
    aPure P o T=some (.val (.bool r),.none,[]):=by
  unfold aPure
  simp only[ho,Op.operands,toVal]
  rcases hr with ⟨rfl,rfl⟩ | ⟨rfl,rfl⟩
  · simp[execOp,ho,hx,hy,eqGuard,binOp,pureRun_map,pureRun_equal hu,plain]
    try simp[pureRun,pure,plain]
  · simp[execOp,ho,hx,hy,eqGuard,binOp,pureRun_map,pureRun_equal hu,plain]
    try simp[bne]
theorem aPure_conv {P:Program} {o:Oper} {T:Env} {s d:TypeId} {x:Operand} {k0 k k':IntKind} {a:Int} (ho:o.op=.convert s d x) (hs:P.underlying s=some (.int k0)) (hd:P.underlying d=some (.int k)) (hx:ev T x=.val (.int k' a)) :
    aPure P o T=some (.val (.int k (k.wrap a)),.none,[]):=by
  unfold aPure
  simp only[ho,Op.operands,toVal]
  have:pureRun P (convert s d (.int k' a))=some (.int k (k.wrap a)):=by
    simp only[convert,pureRun_bind,pureRun_under hs,pureRun_under hd,Option.bind_some]
    rfl
  simp[execOp,ho,hx,pureRun_map,this,plain]
theorem aPure_mm {P:Program} {o:Oper} {T:Env} {bi:Builtin} {x y:Operand} {k k':IntKind} {a b:Int} {args:Array Operand} {ats:Array TypeId} {r:Int} (ho:o.op=.call { callee:=.builtin bi,args:=args,argTypes:=ats }) (ha:args.toList=[x,y])
    (hx:ev T x=.val (.int k a)) (hy:ev T y=.val (.int k' b)) (hr:(bi=.max∧r=if b > a then b else a)∨(bi=.min∧r=if b < a then b else a)) :
    aPure P o T=some (.val (.int k r),.none,[]):=by
  obtain rfl:args = #[x,y]:=by rw[← Array.toArray_toList (xs:=args),ha]
  unfold aPure
  rcases hr with ⟨rfl,rfl⟩ | ⟨rfl,rfl⟩
  · have:pureRun P (Builtin.max_ ats o.type #[.int k a,.int k' b])=some (.int k (if b > a then b else a)):=rfl
    simp[ho,Op.operands,Call.operands,hx,hy,toVal,execOp,resolve,invoke,builtin,pureRun_map,this,plain]
  · have:pureRun P (Builtin.min_ ats o.type #[.int k a,.int k' b])=some (.int k (if b < a then b else a)):=rfl
    simp[ho,Op.operands,Call.operands,hx,hy,toVal,execOp,resolve,invoke,builtin,pureRun_map,this,plain]
theorem map_of (l:List Operand) (T:Env):(l.map SX.of).map (SX.at T)=l.map (ev T):=by
  rw[List.map_map]; congr 1; funext x; exact SX.of_at T x
theorem omap_of (l:Option Operand) (T:Env):(l.map SX.of).map (SX.at T)=l.map (ev T):=by
  cases l <;> simp[SX.of_at]
theorem pmap_of (l:List (Nat × Operand)) (T:Env):(l.map fun (i,x)=>(i,SX.of x)).map (fun (i,x)=>(i,SX.at T x))=l.map fun (i,x)=>(i,ev T x):=by
  rw[List.map_map]; congr 1; funext x; simp[SX.of_at]
theorem comp_ok {P:Program} {o:Oper} {T:Env} {H:View} {n:Nat} {v:V} {eff:Eff} {rd:List Nat} (h:sI P (comp P o) T H n=some (v,eff,rd)) :
    aop P o T H n=some (v,eff,rd):=by
  have old:∀ {s:SI},s=.old o.op o.type→sI P s T H n=some (v,eff,rd)→aop P o T H n=some (v,eff,rd):=fun e h=>by rw[e] at h; simp only[sI,aop_oper] at h; exact h
  unfold comp at h
  split at h
  · rename_i x ho; simp only[sI,SX.of_at] at h; simp only[aop,ho]; exact h
  · rename_i x ho; simp only[sI,SX.of_at] at h; simp only[aop,ho]; exact h
  · rename_i c a b ho; simp only[sI,SX.of_at] at h; simp only[aop,ho]; exact h
  · rename_i e ho
    split at h
    · rename_i z hz; simp only[sI] at h; simp only[aop,ho,hz]; exact h
    · exact old rfl h
  · rename_i t x ho; simp only[sI,SX.of_at] at h; simp only[aop,ho]; exact h
  · rename_i t a ho
    split at h
    · rename_i k hk
      simp only[sI,SX.of_at,sLoad] at h
      simp only[aop,ho,aLoad,partK_ok hk]
      exact h
    · exact old rfl h
  · rename_i t a x ho
    split at h
    · rename_i ti hti
      simp only[sI,SX.of_at,sStore] at h
      simp only[aop,ho,aStore,hti,Option.isSome_some,and_true]
      exact h
    · exact old rfl h
  · rename_i x ho; simp only[sI,SX.of_at] at h; simp only[aop,ho]; exact h
  · rename_i t x f ho
    split at h
    · rename_i off s ft hpl
      split at h
      · exact old rfl h
      · rename_i hs
        simp only[sI,SX.of_at,sAddr] at h
        simp only[aop,ho,aFieldAddr,hpl,hs,if_false]
        exact h
    · exact old rfl h
  · rename_i t x f ho
    split at h
    · rename_i off s ft hpl
      split at h
      · rename_i k hk
        simp only[sI,SX.of_at] at h
        simp only[aop,ho,aField,hpl]
        split at h
        · rename_i cs hcs; simp only[hcs,partK_ok hk]; exact h
        · simp at h
      · exact old rfl h
    · exact old rfl h
  · rename_i t x i ho
    split at h
    · rename_i sz b z hk
      obtain ⟨e,ti,h1,h2,h3,h4,h5,h6,h7,rfl,rfl⟩:=elemK_ok hk
      simp only[sI,SX.of_at,sIdx] at h
      simp only[aop,ho,aIndexAddr,h2,h3]
      exact h
    · exact old rfl h
  · rename_i t x lo hi ho
    split at h
    · rename_i sz b z hk
      obtain ⟨e,ti,h1,h2,h3,h4,h5,h6,h7,rfl,rfl⟩:=elemK_ok hk
      simp only[sI,SX.of_at,omap_of] at h
      simp only[aop,ho]
      have hsl:aSlice P t (ev T x) (lo.map (ev T)) (hi.map (ev T)) none=some (v,eff,rd):=by
        simp only[aSlice,h1,h3]
        unfold sSlice at h
        split at h
        · rename_i h9; rw[h9]; exact h
        · rename_i h9; rw[h9]; exact h
        · rename_i h9; rw[h9]; exact h
        · simp at h
      unfold sSlice at h
      split at h
      · rename_i h9; rw[h9] at hsl ⊢; exact hsl
      · rename_i h9; rw[h9] at hsl ⊢; exact hsl
      · rename_i h9; rw[h9] at hsl ⊢; exact hsl
      · simp at h
    · exact old rfl h
  · rename_i t l c ho
    split at h
    · rename_i sz b z hk
      obtain ⟨e,ti,h1,h2,h3,h4,h5,h6,h7,rfl,rfl⟩:=elemK_ok hk
      simp only[sI,SX.of_at,sMake] at h
      simp only[aop,ho,aMakeSlice,h1,h3]
      split at h
      · rename_i l' c' hl hc
        simp only[hl,hc,h7,if_false,h4,h5,h6,and_self,if_true]
        exact h
      · simp at h
    · exact old rfl h
  · rename_i t ho; simp only[sI] at h; simp only[aop,ho]; exact h
  · rename_i f first cap ho; simp only[sI,map_of] at h; simp only[aop,ho]; exact h
  · rename_i t i ho; simp only[sI,SX.of_at] at h; simp only[aop,ho]; exact h
  · rename_i t parts ho
    split at h
    · rename_i fs z h1 h2
      split at h
      · rename_i h3
        split at h
        · rename_i ps h4
          simp only[sI] at h
          simp only[aop,ho,aBuild,h1,h2,h3,if_true]
          have:=sBuild_ok (T:=T) parts.toList ps z h4
          rw[this]
          exact h
        · exact old rfl h
      · exact old rfl h
    · exact old rfl h
  · rename_i t len parts ho
    split at h
    · rename_i sz b z hk
      obtain ⟨e,ti,h1,h2,h3,h4,h5,h6,h7,rfl,rfl⟩:=elemK_ok hk
      split at h
      · rename_i hc
        obtain ⟨rfl,hc⟩:=hc
        simp only[sI,SX.at] at h
        simp only[aop,ho,aBuildSlice,h1,h3]
        rw[List.isEmpty_iff] at hc
        rw[if_neg (by omega),if_pos trivial,hc]
        exact h
      split at h
      · rename_i hc
        simp only[sI,pmap_of,sBslice] at h
        simp only[aop,ho,aBuildSlice,h1,h3]
        rw[if_neg (by omega),if_neg hc.2,if_neg h7]
        simp only[h4,h5,h6,and_self,if_true]
        exact h
      · exact old rfl h
    · exact old rfl h
  · rename_i b args ats ho
    split at h
    · rename_i x hargs
      split at h
      · rename_i hsz
        simp only[aop,ho,hargs,hsz,if_true,aLen]
        split at h
        · rename_i e hu
          simp only[sI,SX.of_at] at h
          simp only[hu]; exact h
        · rename_i hu
          simp only[sI,SX.of_at] at h
          simp only[hu]
          exact h
        · have:=old rfl h
          simpa only [aop,ho,hargs,hsz,if_true,aLen] using this
      · exact old rfl h
    · rename_i s x hargs
      split at h
      · rename_i hsz
        split at h
        · rename_i sz b z hk
          obtain ⟨e,ti,h1,h2,h3,h4,h5,h6,h7,rfl,rfl⟩:=elemK_ok hk
          simp only[sI,SX.of_at] at h
          simp only[aop,ho,hargs]
          rw[if_pos hsz]
          unfold sApp at h
          split at h
          · rename_i xs rd' hel
            simp only[aAppend,h1,hel,h3]
            have hz:(zeroCells P e).map List.length=some ti.size:=by rw[h4]; simp[h5]
            split at h
            · rename_i hemp; rw[if_pos hemp]; exact h
            · rename_i hemp
              rw[if_neg hemp]
              split at h
              · simp at h
              · rename_i hall
                rw[if_neg (by
                  rintro (h9 | h9 | h9)
                  · exact h7 h9
                  · exact h9 hz
                  · exact hall h9)]
                exact h
          · simp at h
        · exact old rfl h
      · exact old rfl h
    · rename_i x y hargs
      simp only[sI,SX.of_at] at h
      simp only[aop,ho]
      split at h
      · rename_i k a k' b hx hy
        have:=aPure_mm (P:=P) (T:=T) ho hargs hx hy (.inr ⟨rfl,rfl⟩)
        rw[this]; exact h
      · simp at h
    · rename_i x y hargs
      simp only[sI,SX.of_at] at h
      simp only[aop,ho]
      split at h
      · rename_i k a k' b hx hy
        have:=aPure_mm (P:=P) (T:=T) ho hargs hx hy (.inl ⟨rfl,rfl⟩)
        rw[this]; exact h
      · simp at h
    · exact old rfl h
  · rename_i s d x ho
    split at h
    · rename_i k0 k hs hd
      simp only[sI,SX.of_at] at h
      simp only[aop,ho]
      split at h
      · rename_i k' a hx
        have hb:¬ (bytesConv P s d=true):=by simp[bytesConv,hs,hd]
        rw[if_neg hb,aPure_conv ho hs hd hx]; exact h
      · simp at h
    · exact old rfl h
  · rename_i op t x y u ho
    split at h
    · rename_i k hk
      have hsome:(nilKind P t).isSome=true:=by rw[hk]; rfl
      split at h
      · simp only[sI,SX.of_at] at h
        simp only[aop,ho]
        rw[if_pos hsome,aNil_eq hk]
        split at h
        · rename_i b hb; rw[hb]; simpa using h
        · simp at h
      · simp only[sI,SX.of_at] at h
        simp only[aop,ho]
        rw[if_pos hsome,aNil_eq hk]
        split at h
        · rename_i b hb; rw[hb]; simpa using h
        · simp at h
      · exact old rfl h
    · rename_i hk
      have hnone:¬ ((nilKind P t).isSome=true):=by rw[hk]; simp
      split at h
      · split at h
        · rename_i l hs
          simp only[sI,SX.of_at] at h
          simp only[aop,ho]
          rw[if_neg hnone]
          exact aPure_sh ho hs h
        · simp only[sI,SX.of_at,sArith] at h
          simp only[aop,ho]
          split at h
          · rename_i k a k' b hx hy
            split at h
            · rename_i hkk
              subst hkk
              simp only[Option.map_eq_some_iff] at h
              obtain ⟨r,hr,h⟩:=h
              rw[if_neg hnone,aPure_arith ho hx hy hr]; exact congrArg some h
            · simp at h
          · simp at h
      · simp only[sI,SX.of_at] at h
        simp only[aop,ho]
        rw[if_neg hnone]
        exact aPure_sop ho h
      · rename_i hu
        split at h
        · simp only[sI,SX.of_at] at h
          simp only[aop,ho]
          split at h
          · rename_i a b hx hy
            rw[if_neg hnone,aPure_beq ho hu hx hy (.inl ⟨rfl,rfl⟩)]; simpa using h
          · simp at h
        · simp only[sI,SX.of_at] at h
          simp only[aop,ho]
          split at h
          · rename_i a b hx hy
            rw[if_neg hnone,aPure_beq ho hu hx hy (.inr ⟨rfl,rfl⟩)]; simpa using h
          · simp at h
        · exact old rfl h
      · exact old rfl h
  · rename_i t x ho
    simp only[sI,SX.of_at] at h
    simp only[aop,ho]
    split at h
    · rename_i b hb; rw[aPure_not ho hb]; exact h
    · simp at h
  · rename_i t x i ho
    split at h
    · rename_i hu
      simp only[sI,SX.of_at] at h
      simp only[aop,ho]
      exact aPure_sidx ho hu h
    · exact old rfl h
  · exact old rfl h
theorem loadF_ok {P:Program} {sz:Option Nat} {a:SX} {T:Env} {H:View} {n:Nat} {v:V} {eff:Eff} {rd:List Nat} (h:sI P (.loadF sz a) T H n=some (v,eff,rd)):sI P (.load sz a) T H n=some (v,eff,rd):=by
  simp only[sI] at h
  simp only[sI,sLoad]
  split at h
  · rename_i e j ha; rw[ha]; exact h
  · simp at h
def toStr (P:Program) (s d:TypeId):Bool:=match P.underlying s,P.underlying d with
  | some (.slice e),some .string=>(match P.underlying e with | some (.int .u8)=>true | _=>false)
  | _,_=>false
def toBytes (P:Program) (s d:TypeId):Bool:=match P.underlying s,P.underlying d with
  | some .string,some (.slice e)=>(match P.underlying e with | some (.int .u8)=>true | _=>false)
  | _,_=>false
theorem toStr_inv {P:Program} {s d:TypeId} (h:toStr P s d=true):∃ e,P.underlying s=some (.slice e)∧P.underlying d=some .string∧P.underlying e=some (.int .u8):=by
  unfold toStr at h
  split at h
  · rename_i e h1 h2
    split at h
    · rename_i h3; exact ⟨e,h1,h2,h3⟩
    · simp at h
  · simp at h
theorem toBytes_inv {P:Program} {s d:TypeId} (h:toBytes P s d=true):∃ e,P.underlying s=some .string∧P.underlying d=some (.slice e)∧P.underlying e=some (.int .u8):=by
  unfold toBytes at h
  split at h
  · rename_i e h1 h2
    split at h
    · rename_i h3; exact ⟨e,h1,h2,h3⟩
    · simp at h
  · simp at h
theorem strF_ok {P:Program} {s d ty:TypeId} {x:Operand} {T:Env} {H:View} {n:Nat} {v:V} {eff:Eff} {rd:List Nat} (hc:toStr P s d=true) (h:sI P (.strF (SX.of x)) T H n=some (v,eff,rd)):sI P (.old (.convert s d x) ty) T H n=some (v,eff,rd):=by
  obtain ⟨e,h1,h2,h3⟩:=toStr_inv hc
  simp only[sI,SX.of_at] at h
  simp only[sI,aop,oper,bytesConv,h1,if_true,aConvert,h2,h3]
  split at h
  · rename_i es hx
    rw[hx]
    simp only[elemsOf,lenV]
    exact h
  · simp at h
inductive SB where
  | op (s:SI)
  | call (f:SX) (args:List SX)
  deriving Inhabited
structure SO where
  dst:Option Nat
  guard:Option (Nat × Bool)
  b:SB
  deriving Inhabited
structure SG where
  guard:Option (Nat × Bool)
  ops:List (Option Nat × SB)
  deriving Inhabited
inductive SC where
  | skip
  | region (quiet:Bool) (gs:List SG)
  | regionA (aps:List (Nat × Nat)) (gs:List SG)
  | regionM (tol:Nat × Nat × Nat) (aps:List (Nat × Nat)) (gs:List SG)
  | seq (x y:SC)
  | cond (c:SX) (x y:SC)
  | block (id:Nat) (c:SC)
  | loop (c:SC)
  | exit (id:Nat)
  | ret
  | scope (l:Nat) (c r:SC)
  | label (l:Nat)
  | goto (l:Nat)
  deriving Inhabited
def findS:SC→Nat→Option SC
  | .seq a b,l=>match findS a l with
    | some r=>some (.seq r b)
    | none=>findS b l
  | .label l',l=>if l' == l then some .skip else none
  | _,_=>none
def firstL:SC→Option Nat
  | .seq a b=>match firstL a with
    | some l=>some l
    | none=>firstL b
  | .label l=>some l
  | _=>none
def gotoN (l:Nat):Exit→Prop→Prop→Prop
  | .goto l',a,_=>l'=l∧a
  | _,_,b=>b
inductive SR where
  | tmp (t:Nat)
  | cell (t:Nat) (sz:Option Nat)
  deriving Inhabited
def loudOld (P:Program) (op:Op):Nat:=match op with
  | .convert s d _=>if bytesConv P s d=true then 2 else 0
  | .call { callee:=.builtin b,.. }=>match b with
    | .min | .max | .complex | .real | .imag=>0
    | .len=>1
    | _=>2
  | .lookup ..=>1
  | .binOp .. | .unOp .. | .index ..=>0
  | _=>2
def loudI (P:Program):SI→Nat
  | .mov _ | .pick .. | .frz _ | .nilc _ | .addr .. | .field .. | .idx .. | .slice .. | .mkfn .. | .ext .. | .len _ | .lenS _ | .arith .. | .sh .. | .sop .. | .sidx .. | .not _ | .nil .. | .build .. | .loadF .. | .beq .. | .mm .. | .conv .. | .strF _ | .frzB _=>0
  | .load .. | .box _ | .alloc _ | .bslice .. | .make .. | .mkmap=>1
  | .store .. | .app ..=>2
  | .old op _=>loudOld P op
def loudB (P:Program) (quiet:Bool):SB→Nat
  | .op s=>loudI P s
  | .call ..=>if quiet then 1 else 2
structure Fz where
  l:List Nat
  fr:Bool
def froz (P:Program) (fr:Bool):SI→SI
  | .load k a=>if fr then .loadF k a else .load k a
  | .old (.convert s d x) ty=>if fr && toStr P s d then .strF (SX.of x) else .old (.convert s d x) ty
  | s=>s
def compB (P:Program) (fz:Fz) (o:Oper):SB:=match o.op with
  | .call { callee:=.value f,args,.. }=>.call (SX.of f) (args.toList.map SX.of)
  | .box _ x=>if (match o.dst with | some d=>fz.l.contains d | none=>false) then .op (.frz (SX.of x)) else .op (.box (SX.of x))
  | .convert s d x=>if (match o.dst with | some t=>fz.l.contains t | none=>false) && toBytes P s d then .op (.frzB (SX.of x)) else .op (froz P fz.fr (comp P o))
  | _=>.op (froz P fz.fr (comp P o))
def guardS (n:Nat) (all:List Oper) (o:Oper):Option (Option (Nat × Bool)):=match o.guard with
  | none=>some none
  | some (j,want)=>match (all[j]?).bind (·.dst) with
    | some d=>if d < n then some (some (d,want)) else none
    | none=>none
def compO (P:Program) (n:Nat) (all:List Oper) (fz:Fz) (o:Oper):Option SO :=
  if dstOk n o then (guardS n all o).map fun g=>⟨o.dst,g,compB P fz o⟩ else none
def compOs (P:Program) (n:Nat) (all:List Oper) (fz:Fz):List Oper→Option (List SO)
  | []=>some []
  | o :: r=>match compO P n all fz o,compOs P n all fz r with
    | some s,some l=>some (s :: l)
    | _,_=>none
def SG.flat (g:SG):List SO:=g.ops.map fun (d,b)=>⟨d,g.guard,b⟩
def flatG (gs:List SG):List SO:=(gs.map SG.flat).flatten
def joins (g:Option (Nat × Bool)) (s:SO):Bool:=match g,s.guard with
  | none,none=>true
  | some (d,w),some (d',w')=>d == d' && w == w' && s.dst != some d
  | _,_=>false
def group:List SO→List SG
  | []=>[]
  | s :: r=>match group r with
    | g :: gs=>if joins g.guard s then ⟨g.guard,(s.dst,s.b) :: g.ops⟩ :: gs else ⟨s.guard,[(s.dst,s.b)]⟩ :: g :: gs
    | []=>[⟨s.guard,[(s.dst,s.b)]⟩]
theorem joins_ok {g:Option (Nat × Bool)} {s:SO} (h:joins g s=true):s.guard=g:=by
  unfold joins at h
  split at h
  · rename_i h1; exact h1
  · rename_i d w d' w' h1
    simp at h; rw[h1,h.1.1,h.1.2]
  · simp at h
theorem group_flat:∀ l:List SO,flatG (group l)=l
  | []=>rfl
  | s :: r=>by
    have ih:=group_flat r
    simp only[group]
    split
    · rename_i g gs hg
      rw[hg] at ih
      split
      · rename_i hj
        have:=joins_ok hj
        rw[← ih]
        cases s with
        | mk d gd b=>simp only at this; subst this; simp[flatG,SG.flat]
      · rw[← ih]; simp[flatG,SG.flat]
    · rename_i hg
      rw[hg] at ih
      rw[← ih]; simp[flatG,SG.flat]
def isLoadO (o:Oper):Bool:=match o.op with
  | .load ..=>true
  | _=>false
def isAllocO (o:Oper):Bool:=match o.op with
  | .alloc _=>true
  | _=>false
def storeTmp (o:Oper):Option Nat:=match o.op,o.guard with
  | .store _ (.tmp t) _,none=>some t
  | _,_=>none
def ownB (all:List Oper) (j k t:Nat):Bool:=match all[j]? with
  | some o=>o.dst == some t && o.guard.isNone && isAllocO o && ((all.drop (j+1)).take (k - (j+1))).all fun o'=>o'.dst != some t
  | none=>false
def newPair (all:List Oper) (i k:Nat):Bool:=match all[i]?,all[k]? with
  | some a,some b=>isLoadO a && (match storeTmp b with
    | some t=>(List.range k).any fun j=>decide (i < j) && ownB all j k t
    | none=>false)
  | _,_=>false
def confS (all:List Oper) (ls:List Nat):Bool :=
  let b:=befs all []
  ls.zipIdx.all fun (x,i)=>ls.zipIdx.all fun (y,k)=>!decide (i < k) || ordered b i k || x == 0 || y == 0 || (decide (x≤1) && decide (y≤1)) || newPair all i k
def loadTmp (o:Oper):Option Nat:=match o.op with
  | .load _ (.tmp t)=>some t
  | _=>none
def stays (all:List Oper) (i t:Nat):Bool:=(all.drop i).all fun o=>o.dst != some t
def apPair (all:List Oper) (i k:Nat):Option (Nat × Nat):=match all[i]?,all[k]? with
  | some a,some b=>match loadTmp a,storeTmp b with
    | some s,some t=>if stays all i s && stays all k t then some (s,t) else none
    | _,_=>match storeTmp a,loadTmp b with
      | some t,some s=>if stays all i t && stays all k s then some (s,t) else none
      | _,_=>none
  | _,_=>none
def pairOk (all:List Oper) (x i y k:Nat):Bool:=!decide (i < k) || ordered (befs all []) i k || x == 0 || y == 0 || (decide (x≤1) && decide (y≤1)) || newPair all i k
def badPairs (all:List Oper) (ls:List Nat):List (Nat × Nat):=ls.zipIdx.flatMap fun (x,i)=>ls.zipIdx.filterMap fun (y,k)=>if pairOk all x i y k then none else some (i,k)
def apAll (all:List Oper):List (Nat × Nat)→Option (List (Nat × Nat))
  | []=>some []
  | (i,k) :: r=>match apPair all i k,apAll all r with
    | some p,some l=>some (p :: l)
    | _,_=>none
def appTmp (o:Oper):Option Nat:=match o.op,o.guard with
  | .call { callee:=.builtin .append,args,.. },none=>match args.toList with
    | [.tmp t,_]=>some t
    | _=>none
  | _,_=>none
def writeTmp (o:Oper):Option Nat:=match storeTmp o with
  | some t=>some t
  | none=>appTmp o
def isNewO (o:Oper):Bool:=match o.op with
  | .buildSlice ..=>true
  | .alloc _=>true
  | _=>false
def newAt (all:List Oper) (k:Nat):Bool:=match all[k]? with
  | some b=>isNewO b
  | none=>false
def apPairM (all:List Oper) (i k:Nat):Option (Nat × Nat):=match all[i]?,all[k]? with
  | some a,some b=>match loadTmp a,writeTmp b with
    | some s,some t=>if stays all i s && stays all k t then some (s,t) else none
    | _,_=>match writeTmp a,loadTmp b with
      | some t,some s=>if stays all i t && stays all k s then some (s,t) else none
      | _,_=>none
  | _,_=>none
def tolOf (all:List Oper) (ls:List Nat) (i k:Nat):Option (Nat × Nat × Nat):=match all[i]?,all[k]? with
  | some a,some b=>match a.op,b.op,a.guard,b.guard with
    | .lookup t (.tmp m) (.tmp q) false,.mapEntry t' (.tmp m') (.tmp q'),none,none =>
      if t == t' && m == m' && q == q' && stays all i m && stays all i q && stays all k m && stays all k q && decide (i < k) && (List.range k).all fun j=>decide (ls.getD j 2≤1) then some (t,m,q) else none
    | _,_,_,_=>none
  | _,_=>none
def restM (all:List Oper) (ls:List Nat) (tp:Option (Nat × Nat)):List (Nat × Nat):=(badPairs all ls).filter fun p=>!newAt all p.2 && tp != some p
def appTmps (o:Oper):Option (Nat × Nat × Nat):=match o.op,o.guard,o.dst with
  | .call { callee:=.builtin .append,args,.. },none,some d=>match args.toList with
    | [.tmp t,.tmp y]=>some (t,y,d)
    | _=>none
  | _,_,_=>none
def appPair (all:List Oper) (i k:Nat):Option (List (Nat × Nat)):=match all[i]?,all[k]? with
  | some a,some b=>match appTmps a,appTmps b with
    | some (t,y,d),some (t',y',_)=>if stays all i t && stays all i y && stays all (i+1) d && stays all k t' && stays all k y' then some [(t,t'),(t,y'),(t',y),(d,t')] else none
    | _,_=>none
  | _,_=>none
def apPairs (all:List Oper) (i k:Nat):Option (List (Nat × Nat)):=match apPairM all i k with
  | some p=>some [p]
  | none=>appPair all i k
def apAllM (all:List Oper):List (Nat × Nat)→Option (List (Nat × Nat))
  | []=>some []
  | (i,k) :: r=>match apPairs all i k,apAllM all r with
    | some p,some l=>some (p ++ l)
    | _,_=>none
def okG (g:SG):Bool:=match g.guard with
  | none=>true
  | some (d,_)=>g.ops.all fun x=>x.1 != some d
def compT (P:Program) (n:Nat) (fz:Fz) (ops:List Oper) (draw quiet:Bool):Option SC:=match compOs P n ops fz ops with
  | none=>none
  | some l=>if !(group l).all okG then none else
    if draw then (if tmpsOk ops && confS ops (l.map fun s=>loudB P quiet s.b) then some (.region quiet (group l)) else none)
    else some (.region quiet (group l))
def compA (P:Program) (n:Nat) (fz:Fz) (ops:List Oper):Option SC:=match compOs P n ops fz ops with
  | none=>none
  | some l=>if !(group l).all okG then none else
    if tmpsOk ops then (apAll ops (badPairs ops (l.map fun s=>loudB P false s.b))).map fun aps=>.regionA aps (group l) else none
def tolPair (all:List Oper) (ls:List Nat):Option (Nat × Nat):=(badPairs all ls).find? fun p=>(tolOf all ls p.1 p.2).isSome
def compM (P:Program) (n:Nat) (fz:Fz) (ops:List Oper):Option SC:=match compOs P n ops fz ops with
  | none=>none
  | some l=>if !(group l).all okG then none else
    if tmpsOk ops then
      (match tolPair ops (l.map fun s=>loudB P false s.b) with
      | none=>(apAllM ops (restM ops (l.map fun s=>loudB P false s.b) none)).map fun aps=>.regionA aps (group l)
      | some p=>match tolOf ops (l.map fun s=>loudB P false s.b) p.1 p.2 with
        | some tol=>(apAllM ops (restM ops (l.map fun s=>loudB P false s.b) (some p))).map fun aps=>.regionM tol aps (group l)
        | none=>none)
    else none
def markM:Nat:=100000
def orElse':Option SC→Option SC→Option SC
  | some x,_=>some x
  | none,y=>y
def compR (P:Program) (n:Nat) (fz:List Nat) (ops:List Oper) (draw:Bool):Option SC :=
  orElse' (compT P n ⟨fz,false⟩ ops draw false) (if draw then orElse' (if fz.contains markM then compM P n ⟨fz,false⟩ ops else none) <| orElse' (compA P n ⟨fz,false⟩ ops) (orElse' (compT P n ⟨fz,false⟩ ops true true) (orElse' (compT P n ⟨fz,true⟩ ops true false) (compT P n ⟨fz,true⟩ ops true true))) else none)
def compC (P:Program) (n:Nat) (fz:List Nat):Code→Option SC
  | .skip=>some .skip
  | .region _ ops draw=>compR P n fz ops.toList draw
  | .seq x y=>match compC P n fz x,compC P n fz y with
    | some a,some b=>some (.seq a b)
    | _,_=>none
  | .cond c x y=>match compC P n fz x,compC P n fz y with
    | some a,some b=>some (.cond (SX.of c) a b)
    | _,_=>none
  | .block id c=>(compC P n fz c).map (.block id)
  | .loop c=>(compC P n fz c).map .loop
  | .exit id=>some (.exit id)
  | .ret=>some .ret
  | .scope c=>match compC P n fz c with
    | some sc=>match firstL sc with
      | some l=>(findS sc l).map fun r=>.scope l sc r
      | none=>none
    | none=>none
  | .label l=>some (.label l)
  | .goto l=>some (.goto l)
  | _=>none
def Stay (h h':Heap):Prop:=∀ id,id < h.length→h.view id=.dead→h'.view id=.dead
theorem Stay.refl (h:Heap):Stay h h:=fun _ _ e=>e
theorem Stay.trans {a b c:Heap} (h:Stay a b) (k:Stay b c) (hl:a.length≤b.length):Stay a c:=fun id hid e=>k id (Nat.lt_of_lt_of_le hid hl) (h id hid e)
def MCall (P:Program) (f:FuncId) (vs:List V) (H:View) (K:V→View→Prop):Prop :=
  calleeOk P f=true∧∀ h:Heap,h.view=H→∃ r h',ACall P f vs h r h'∧Stay h h'∧K r h'.view
def QCall (P:Program) (f:FuncId) (vs:List V) (H:View) (K:V→View→Prop):Prop :=
  calleeOk P f=true∧∀ h:Heap,h.view=H→∃ r h',ACall P f vs h r h'∧(∀ id,id < h.length→h'.view id=h.view id)∧K r h'.view
def wPart (sz:Option Nat) (e:List V) (j:Nat) (K:V→Prop):Prop:=match sz with
  | some n=>j+n≤e.length∧K (.agg ((e.drop j).take n))
  | none=>j < e.length∧K (e.getD j .any)
def wI (P:Program) (s:SI) (T:Env) (H:View) (K:V→View→Prop):Prop:=match s with
  | .mov x=>K (x.at T) H
  | .pick c a b=>match c.at T with
    | .val (.bool t)=>K (if t then a.at T else b.at T) H
    | _=>False
  | .box x=>(x.at T).cells.all cellOk=true∧∀ n,H n=.dead→K (.ptr n 0 0) (H.set n (.arr (x.at T).cells.length [(x.at T).cells]))
  | .frz x=>(x.at T).cells.all cellOk=true∧K (.fptr (x.at T).cells 0) H
  | .alloc z=>z.all cellOk=true∧∀ n,H n=.dead→K (.ptr n 0 0) (H.set n (.arr z.length [z]))
  | .load sz a=>match a.at T with
    | .ptr id i j=>match H id with
      | .arr _ es=>i < es.length∧wPart sz (es.getD i []) j fun v=>K v H
      | _=>False
    | .fptr e j=>wPart sz e j fun v=>K v H
    | _=>False
  | .loadF sz a=>match a.at T with
    | .fptr e j=>wPart sz e j fun v=>K v H
    | _=>False
  | .store sz a x=>match a.at T with
    | .ptr id i j=>match H id with
      | .arr esz es=>(i < es.length∧(x.at T).cells.length=sz∧j+(x.at T).cells.length≤esz∧(x.at T).cells.all cellOk=true) ∧
          K .any (H.set id (.arr esz (es.set i (splice (es.getD i []) j (x.at T).cells))))
      | _=>False
    | _=>False
  | .nilc x=>match x.at T with
    | .ptr id i j=>K (.ptr id i j) H
    | .fptr e j=>K (.fptr e j) H
    | .fn f a b=>K (.fn f a b) H
    | _=>False
  | .addr off x=>match x.at T with
    | .ptr id i j=>K (.ptr id i (j+off)) H
    | .fptr e j=>K (.fptr e (j+off)) H
    | _=>False
  | .field off sz x=>match x.at T with
    | .agg cs=>wPart sz cs off fun v=>K v H
    | _=>False
  | .idx sz x i=>match asNat (i.at T) with
    | none=>False
    | some q=>match x.at T with
      | .sl id off len esz=>(q < len∧esz=sz)∧K (.ptr id (off+q) 0) H
      | .fro es=>∃ e,es[q]?=some e∧e.length=sz∧K (.fptr e 0) H
      | _=>False
  | .mkfn f first cap=>K (.fn f (first.map (SX.at T)) (cap.map (SX.at T))) H
  | .mkmap=>∀ n,H n=.dead→K (.mp n) (H.set n (.map [] 0))
  | .ext i x=>match x.at T with
    | .tup vs=>i < vs.length∧K (vs.getD i .any) H
    | _=>False
  | .len x=>match lenV (x.at T) with
    | some n=>K (goI n) H
    | none=>False
  | .lenS x=>match x.at T with
    | .val (.string s)=>K (goI s.size) H
    | _=>False
  | .arith op x y=>match x.at T,y.at T with
    | .val (.int k a),.val (.int k' b)=>k=k'∧(match intOp op k a b with | some v=>K (.val v) H | none=>False)
    | _,_=>False
  | .sop op x y=>match x.at T,y.at T with
    | .val (.string a),.val (.string b)=>(match op with
      | .eql=>K (.val (.bool (strEq a b))) H
      | .neq=>K (.val (.bool (!strEq a b))) H
      | _=>False)
    | _,_=>False
  | .sidx x i=>match x.at T,asNat (i.at T) with
    | .val (.string s),some q=>∃ b,s.data.toList[q]?=some b∧K (.val (.int .u8 b.toNat)) H
    | _,_=>False
  | .not x=>match x.at T with
    | .val (.bool t)=>K (.val (.bool (!t))) H
    | _=>False
  | .nil eq k x y=>match nilB (isNil k (x.at T)) (isNil k (y.at T)) with
    | some b=>K (.val (.bool (if eq then b else !b))) H
    | none=>False
  | .beq eq x y=>match x.at T,y.at T with
    | .val (.bool a),.val (.bool b)=>K (.val (.bool (if eq then a == b else a != b))) H
    | _,_=>False
  | .mm mx x y=>match x.at T,y.at T with
    | .val (.int k a),.val (.int _ b)=>K (.val (.int k (if mx then (if b > a then b else a) else (if b < a then b else a)))) H
    | _,_=>False
  | .conv k x=>match x.at T with
    | .val (.int _ a)=>K (.val (.int k (k.wrap a))) H
    | _=>False
  | .sh l x y=>match x.at T,y.at T with
    | .val (.int k a),.val (.int _ b)=>0≤b∧K (.val (.int k (shOp l k a b))) H
    | _,_=>False
  | .build z parts=>match sBuild z (parts.map fun (a,b,x)=>(a,b,x.at T)) with
    | some cs=>K (.agg cs) H
    | none=>False
  | .bslice len sz z parts=>match fillE sz (List.replicate len z) (parts.map fun (i,x)=>(i,x.at T)) with
    | some es=>∀ n,H n=.dead→K (.sl n 0 len sz) (H.set n (.arr sz es))
    | none=>False
  | .slice sz x lo hi=>match sSlice sz (x.at T) (lo.map (SX.at T)) (hi.map (SX.at T)) with
    | some (v,.none,_)=>K v H
    | _=>False
  | .make sz bytes z l c=>match asNat (l.at T),asNat (c.at T) with
    | some l,some c=>(l≤c∧c < limit∧bytes * c < limit)∧(c=0→K (.emp 2) H)∧(c≠0→∀ n,H n=.dead→K (.sl n 0 l sz) (H.set n (.arr sz (List.replicate l z))))
    | _,_=>False
  | .app sz bytes x y=>match elemsOf H (y.at T) with
    | some (xs,_)=>if xs.isEmpty=true then (match x.at T with
        | .emp k=>K (.emp k) H
        | .nem=>K .nem H
        | .fro es=>K (.fro es) H
        | .sl a b c d=>K (.sl a b c d) H
        | _=>False)
      else (xs.all fun e=>e.length == sz && e.all cellOk)=true∧(match x.at T with
        | .emp _=>(xs.length * bytes < limit∧xs.length < limit)∧∀ n,H n=.dead→K (.sl n 0 xs.length sz) (H.set n (.arr sz xs))
        | .sl id off len esz=>match H id with
          | .arr _ es=>(off+len≤es.length∧esz=sz∧(len+xs.length) * bytes < limit∧len+xs.length < limit) ∧
              ∀ n,H n=.dead→K (.sl n 0 (len+xs.length) esz) ((H.set id .dead).set n (.arr esz ((es.drop off).take len ++ xs)))
          | _=>False
        | _=>False)
    | none=>False
  | .strF x=>match x.at T with
    | .fro es=>(match textOf es with
      | some l=>K (.val (.string ⟨l.toArray⟩)) H
      | none=>False)
    | _=>False
  | .frzB x=>match x.at T with
    | .val (.string s)=>K (.fro (bytesE s)) H
    | _=>False
  | s=>∀ n,H n=.dead→∃ v eff rd,sI P s T H n=some (v,eff,rd)∧K v (eff.view H n)
def wB (P:Program) (quiet:Bool) (b:SB) (T:Env) (H:View) (K:V→View→Prop):Prop:=match b with
  | .op s=>wI P s T H K
  | .call f args=>match f.at T with
    | .fn g first cap=>if quiet then QCall P g (first ++ args.map (SX.at T) ++ cap) H K else MCall P g (first ++ args.map (SX.at T) ++ cap) H K
    | _=>False
def wBs (P:Program) (quiet:Bool):List (Option Nat × SB)→Env→View→(Env→View→Prop)→Prop
  | [],T,H,K=>K T H
  | (d,b) :: r,T,H,K=>wB P quiet b T H fun v H'=>wBs P quiet r (T.put d v) H' K
def skipAll:List (Option Nat × SB)→Env→Env
  | [],T=>T
  | (d,_) :: r,T=>skipAll r (T.put d (.tup []))
def wG (P:Program) (quiet:Bool) (g:SG) (T:Env) (H:View) (K:Env→View→Prop):Prop:=match g.guard with
  | none=>wBs P quiet g.ops T H K
  | some (d,want)=>match T d with
    | .val (.bool b)=>(b=want→wBs P quiet g.ops (T.put (some d) (.val (.bool want))) H K)∧(b = !want→K (skipAll g.ops (T.put (some d) (.val (.bool (!want))))) H)
    | .tup []=>K (skipAll g.ops T) H
    | _=>False
def wGs (P:Program) (quiet:Bool):List SG→Env→View→(Env→View→Prop)→Prop
  | [],T,H,K=>K T H
  | g :: r,T,H,K=>wG P quiet g T H fun T' H'=>wGs P quiet r T' H' K
def condT (c:SX) (b:Bool) (T:Env):Env:=match c with
  | .tmp t=>T.put (some t) (.val (.bool b))
  | _=>T
def ifN:Exit→Prop→Prop→Prop
  | .normal,a,_=>a
  | _,_,b=>b
def ApV (a b:V):Prop:=match a,b with
  | .ptr i _ _,.ptr j _ _=>i≠j
  | .ptr i _ _,.sl j _ _ _=>i≠j
  | .ptr _ _ _,.emp _=>True
  | .ptr _ _ _,.nem=>True
  | .ptr _ _ _,.fro _=>True
  | .fptr _ _,_=>True
  | .sl i _ _ _,.sl j _ _ _=>i≠j
  | .sl _ _ _ _,.emp _=>True
  | .sl _ _ _ _,.nem=>True
  | .sl _ _ _ _,.fro _=>True
  | .emp _,_=>True
  | .nem,_=>True
  | .fro _,_=>True
  | _,_=>False
def TolV (P:Program) (t:TypeId) (m q:V) (H:View):Prop:=match m with
  | .mp id=>(∃ es c,H id=.map es c)∧∀ v obj rd,aMapEntry P t (.mp id) q H=some (v,.upd id obj,rd)→aLookup P t (.mp id) q false (H.set id obj)=aLookup P t (.mp id) q false H
  | _=>False
def Aps:List (Nat × Nat)→Env→Prop→Prop
  | [],_,K=>K
  | p :: l,T,K=>ApV (T p.1) (T p.2)∧Aps l T K
def wS (P:Program):SC→Env→View→(Exit→Env→View→Prop)→Prop
  | .skip,T,H,Q=>Q .normal T H
  | .region quiet gs,T,H,Q=>wGs P quiet gs T H (Q .normal)
  | .regionA aps gs,T,H,Q=>wGs P false gs T H fun T' H'=>Aps aps T' (Q .normal T' H')
  | .regionM tol aps gs,T,H,Q=>wGs P false gs T H fun T' H'=>TolV P tol.1 (T' tol.2.1) (T' tol.2.2) H∧Aps aps T' (Q .normal T' H')
  | .seq x y,T,H,Q=>wS P x T H fun e T' H'=>ifN e (wS P y T' H' Q) (Q e T' H')
  | .cond c x y,T,H,Q=>match c.at T with
    | .val (.bool b)=>(b=true→wS P x (condT c true T) H Q)∧(b=false→wS P y (condT c false T) H Q)
    | _=>False
  | .block id c,T,H,Q=>wS P c T H fun e=>Q (outOf id e)
  | .loop c,T,H,Q=>∃ I:Nat→Env→View→Prop,(∃ k,I k T H)∧∀ k T H,I k T H→wS P c T H fun e T' H'=>ifN e (∃ k',k' < k∧I k' T' H') (Q e T' H')
  | .exit id,T,H,Q=>Q (.exit id) T H
  | .ret,T,H,Q=>Q .ret T H
  | .scope l c r,T,H,Q=>∃ (I:Nat→Env→View→Prop) (K:Nat),wS P c T H (fun e T' H'=>gotoN l e (∃ k,k < K∧I k T' H') (Q e T' H'))∧∀ k T H,I k T H→wS P r T H fun e T' H'=>gotoN l e (∃ k',k' < k∧I k' T' H') (Q e T' H')
  | .label _,T,H,Q=>Q .normal T H
  | .goto l,T,H,Q=>Q (.goto l) T H
def wR (T:Env) (H:View) (r:SR) (K:V→Prop):Prop:=match r with
  | .tmp t=>K (T t)
  | .cell t sz=>match T t with
    | .ptr id i j=>match H id with
      | .arr _ es=>i < es.length∧wPart sz (es.getD i []) j K
      | _=>False
    | .fptr e j=>wPart sz e j K
    | _=>False
def wRs (T:Env) (H:View):List SR→List V→(List V→Prop)→Prop
  | [],acc,K=>K acc
  | r :: l,acc,K=>wR T H r fun v=>wRs T H l (acc ++ [v]) K
def oneV:List V→V
  | [v]=>v
  | vs=>.tup vs
def compRes (P:Program):List ResultVar→Option (List SR)
  | []=>some []
  | .tmp t :: r=>(compRes P r).map (.tmp t :: ·)
  | .cell a t :: r=>match partK P t,compRes P r with
    | some k,some l=>some (.cell a k :: l)
    | _,_=>none
structure SF where
  code:SC
  res:List SR
  n:Nat
abbrev aa (a b:Nat):Option Nat × SB:=(some a,.op (.mov (.tmp b)))
abbrev ai (a:Nat) (n:Int):Option Nat × SB:=(some a,.op (.mov (.val (.val (.int .i64 n)))))
abbrev aw (a:Nat) (n:Bool):Option Nat × SB:=(some a,.op (.mov (.val (.val (.bool n)))))
abbrev ae (a b:Nat):Option Nat × SB:=(some a,.op (.load none (.tmp b)))
abbrev au (a k b:Nat):Option Nat × SB:=(some a,.op (.load (some k) (.tmp b)))
abbrev af (a k b:Nat):Option Nat × SB:=(some a,.op (.addr k (.tmp b)))
abbrev av (a k b c:Nat):Option Nat × SB:=(some a,.op (.idx k (.tmp b) (.tmp c)))
abbrev ay (a b c:Nat):Option Nat × SB:=(some a,.op (.pick (.tmp b) (.val (.val (.bool true))) (.tmp c)))
abbrev az (a b c:Nat):Option Nat × SB:=(some a,.op (.pick (.tmp b) (.tmp c) (.val (.val (.bool false)))))
abbrev ak (a:Nat) (o:BinOp) (b c:Nat):Option Nat × SB:=(some a,.op (.arith o (.tmp b) (.tmp c)))
abbrev ah (a:Nat) (o:BinOp) (b:Nat) (n:Int):Option Nat × SB:=(some a,.op (.arith o (.tmp b) (.val (.val (.int .i64 n)))))
abbrev aj (a b:Nat):Option Nat × SB:=(some a,.op (.len (.tmp b)))
abbrev aA (a k b:Nat):Option Nat × SB:=(some a,.op (.ext k (.tmp b)))
abbrev aB (a b:Nat):Option Nat × SB:=(some a,.op (.not (.tmp b)))
abbrev aC (a b:Nat):Option Nat × SB:=(some a,.op (.frz (.tmp b)))
abbrev ax (a b:Nat):Option Nat × SB:=(some a,.op (.nilc (.tmp b)))
abbrev aD (a f:Nat) (l:List SX):Option Nat × SB:=(some a,.call (.val (.fn f [] [])) l)
abbrev ao (a f:Nat) (l:List Nat):Option Nat × SB:=(some a,.call (.val (.fn f [] [])) (l.map .tmp))
abbrev ab (l:List (Option Nat × SB)):SC:=.region false [⟨none,l⟩]
def compF (P:Program) (f:FuncId) (fz:List Nat):Option SF:=match P.funcs[f]? with
  | some fn=>match fn.body with
    | some c=>match compC P fn.ntmps fz c,compRes P fn.results.toList,calleeOk P f with
      | some sc,some rs,true=>some ⟨sc,rs,fn.ntmps⟩
      | _,_,_=>none
    | none=>none
  | none=>none
theorem wPart_ok {sz:Option Nat} {e:List V} {j:Nat} {K:V→Prop} (h:wPart sz e j K):∃ v,partS sz e j=some v∧K v:=by
  cases sz with
  | none=>exact ⟨_,by simp only[partS]; rw[if_pos h.1],h.2⟩
  | some n=>exact ⟨_,by simp only[partS]; rw[if_pos h.1],h.2⟩
theorem wI_ok {P:Program} {s:SI} {T:Env} {H:View} {K:V→View→Prop} (h:wI P s T H K) {n:Nat} (hn:H n=.dead) :
    ∃ v eff rd,sI P s T H n=some (v,eff,rd)∧K v (eff.view H n):=by
  unfold wI at h
  split at h
  · exact ⟨_,_,_,rfl,h⟩
  · split at h
    · rename_i t ht; exact ⟨_,_,_,by simp only[sI,ht]; rfl,h⟩
    · exact h.elim
  · exact ⟨_,_,_,by simp only[sI,aBox]; rw[if_pos h.1],h.2 n hn⟩
  · exact ⟨_,_,_,by simp only[sI]; rw[if_pos h.1],h.2⟩
  · exact ⟨_,_,_,by simp only[sI,aBox]; rw[if_pos h.1],h.2 n hn⟩
  · split at h
    · rename_i id i j ha
      split at h
      · rename_i es hH
        obtain ⟨h1,h2⟩:=h
        obtain ⟨v,hv,hk⟩:=wPart_ok h2
        exact ⟨_,_,_,by simp only[sI,sLoad,ha,hH]; rw[if_pos h1,hv]; rfl,hk⟩
      · exact h.elim
    · rename_i e j ha
      obtain ⟨v,hv,hk⟩:=wPart_ok h
      exact ⟨_,_,_,by simp only[sI,sLoad,ha]; rw[hv]; rfl,hk⟩
    · exact h.elim
  · split at h
    · rename_i e j ha
      obtain ⟨v,hv,hk⟩:=wPart_ok h
      exact ⟨_,_,_,by simp only[sI,ha]; rw[hv]; rfl,hk⟩
    · exact h.elim
  · split at h
    · rename_i id i j ha
      split at h
      · rename_i esz es hH
        exact ⟨_,_,_,by simp only[sI,sStore,ha,hH]; rw[if_pos h.1],h.2⟩
      · exact h.elim
    · exact h.elim
  · split at h
    · rename_i hx; exact ⟨_,_,_,by simp only[sI,hx]; rfl,h⟩
    · rename_i hx; exact ⟨_,_,_,by simp only[sI,hx]; rfl,h⟩
    · rename_i hx; exact ⟨_,_,_,by simp only[sI,hx]; rfl,h⟩
    · exact h.elim
  · split at h
    · rename_i hx; exact ⟨_,_,_,by simp only[sI,sAddr,hx]; rfl,h⟩
    · rename_i hx; exact ⟨_,_,_,by simp only[sI,sAddr,hx]; rfl,h⟩
    · exact h.elim
  · split at h
    · rename_i cs hx
      obtain ⟨v,hv,hk⟩:=wPart_ok h
      exact ⟨_,_,_,by simp only[sI,hx,hv]; rfl,hk⟩
    · exact h.elim
  · split at h
    · exact h.elim
    · rename_i q hq
      split at h
      · rename_i hx; exact ⟨_,_,_,by simp only[sI,sIdx,hq,hx]; rw[if_pos h.1],h.2⟩
      · rename_i es hx
        obtain ⟨e,he,hl,hk⟩:=h
        have hlt:q < es.length:=(List.getElem?_eq_some_iff.1 he).1
        have hge:es.getD q []=e:=by simp[List.getD_eq_getElem?_getD,he]
        exact ⟨_,_,_,by simp only[sI,sIdx,hq,hx]; rw[hge,if_pos ⟨hlt,hl⟩],hk⟩
      · exact h.elim
  · exact ⟨_,_,_,rfl,h⟩
  · exact ⟨_,_,_,rfl,h n hn⟩
  · split at h
    · rename_i vs hx; exact ⟨_,_,_,by simp only[sI,hx]; rw[if_pos h.1],h.2⟩
    · exact h.elim
  · split at h
    · rename_i m hx; exact ⟨_,_,_,by simp only[sI,hx]; rfl,h⟩
    · exact h.elim
  · split at h
    · rename_i s hx; exact ⟨_,_,_,by simp only[sI,hx]; rfl,h⟩
    · exact h.elim
  · split at h
    · rename_i k a k' b hx hy
      obtain ⟨rfl,h⟩:=h
      split at h
      · rename_i v hv; exact ⟨_,_,_,by simp only[sI,sArith,hx,hy,if_true,hv]; rfl,h⟩
      · exact h.elim
    · exact h.elim
  · split at h
    · rename_i a b hx hy
      split at h
      · exact ⟨_,_,_,by simp only[sI,sSop,hx,hy]; rfl,h⟩
      · exact ⟨_,_,_,by simp only[sI,sSop,hx,hy]; rfl,h⟩
      · exact h.elim
    · exact h.elim
  · split at h
    · rename_i s q hx hq
      obtain ⟨b,hb,hk⟩:=h
      exact ⟨_,_,_,by simp only[sI,sSidx,hx,hq,hb]; rfl,hk⟩
    · exact h.elim
  · split at h
    · rename_i t hx; exact ⟨_,_,_,by simp only[sI,hx]; rfl,h⟩
    · exact h.elim
  · split at h
    · rename_i b hb; exact ⟨_,_,_,by simp only[sI,hb]; rfl,h⟩
    · exact h.elim
  · split at h
    · rename_i hx hy; exact ⟨_,_,_,by simp only[sI,hx,hy]; rfl,h⟩
    · exact h.elim
  · split at h
    · rename_i hx hy; exact ⟨_,_,_,by simp only[sI,hx,hy]; rfl,h⟩
    · exact h.elim
  · split at h
    · rename_i hx; exact ⟨_,_,_,by simp only[sI,hx]; rfl,h⟩
    · exact h.elim
  · split at h
    · rename_i hx hy; exact ⟨_,_,_,by simp only[sI,sSh,hx,hy]; rw[if_neg (by omega)],h.2⟩
    · exact h.elim
  · split at h
    · rename_i cs hb; exact ⟨_,_,_,by simp only[sI,hb]; rfl,h⟩
    · exact h.elim
  · split at h
    · rename_i es hb; exact ⟨_,_,_,by simp only[sI,sBslice,hb]; rfl,h n hn⟩
    · exact h.elim
  · split at h
    · rename_i v rd hb; exact ⟨_,_,_,by simp only[sI,hb]; rfl,h⟩
    · exact h.elim
  · split at h
    · rename_i l c hl hc
      obtain ⟨h1,h2,h3⟩:=h
      by_cases e:c=0
      · exact ⟨.emp 2,.none,[],by simp only[sI,sMake,hl,hc]; rw[if_pos h1,if_pos e],h2 e⟩
      · exact ⟨_,_,_,by simp only[sI,sMake,hl,hc]; rw[if_pos h1,if_neg e],h3 e n hn⟩
    · exact h.elim
  · split at h
    · rename_i xs rd hel
      split at h
      · rename_i he
        split at h
        all_goals first
          | (rename_i hx; exact ⟨_,_,_,by simp only[sI,sApp,hel]; rw[if_pos he,hx],h⟩)
          | exact h.elim
      · rename_i he
        obtain ⟨h1,h2⟩:=h
        split at h2
        · rename_i hx
          exact ⟨_,_,_,by simp only[sI,sApp,hel]; rw[if_neg he,if_neg (by rw[h1]; simp),hx]; simp only; rw[if_pos h2.1],h2.2 n hn⟩
        · rename_i id off len esz hx
          split at h2
          · rename_i z es hH
            exact ⟨_,_,_,by simp only[sI,sApp,hel]; rw[if_neg he,if_neg (by rw[h1]; simp),hx]; simp only[hH]; rw[if_pos h2.1],h2.2 n hn⟩
          · exact h2.elim
        · exact h2.elim
    · exact h.elim
  · split at h
    · rename_i hx
      split at h
      · rename_i l hl; exact ⟨_,_,_,by simp only[sI,hx,hl]; rfl,h⟩
      · exact h.elim
    · exact h.elim
  · split at h
    · rename_i hx; exact ⟨_,_,_,by simp only[sI,hx]; rfl,h⟩
    · exact h.elim
  · exact h n hn
def LoudOk (k:Nat) (rd wr:List Nat) (call:Bool) (n n':Nat):Prop :=
  (k=0→rd=[]∧wr=[]∧call=false∧n'=n)∧(k≤1→wr=[])
theorem loud2 {k:Nat} (h:k=2) {rd wr:List Nat} {call:Bool} {n n':Nat} : LoudOk k rd wr call n n':=⟨fun h'=>by omega,fun h'=>by omega⟩
theorem aPure_eff {P:Program} {o:Oper} {T:Env} {v:V} {eff:Eff} {rd:List Nat} (h:aPure P o T=some (v,eff,rd)):eff=.none∧rd=[]:=by
  unfold aPure at h
  split at h
  · split at h
    · split at h
      · simp at h; exact ⟨h.2.1.symm,h.2.2⟩
      · simp at h
    · simp at h
  · simp at h
theorem old_loud {P:Program} {o:Oper} {T:Env} {H:View} {n:Nat} {v:V} {eff:Eff} {rd:List Nat} (h:aop P o T H n=some (v,eff,rd)) :
    (loudOld P o.op=0→eff=.none∧rd=[])∧(loudOld P o.op=1→eff.wr=[]):=by
  unfold loudOld
  split
  · rename_i s d x ho
    simp only[aop,ho] at h
    split
    · exact ⟨fun h=>by simp at h,fun h=>by simp at h⟩
    · rename_i hb
      rw[if_neg hb] at h
      exact ⟨fun _=>aPure_eff h,fun h=>by simp at h⟩
  · rename_i b args ats ho
    simp only[aop,ho] at h
    split
    any_goals exact ⟨fun _=>aPure_eff h,fun h=>by simp at h⟩
    · refine ⟨fun h=>by simp at h,fun _=>?_⟩
      split at h
      · rename_i hargs
        split at h
        · simp only[aLen] at h
          have nn:∀ {v':V} {r:List Nat},some (v',Eff.none,r)=some (v,eff,rd)→eff.wr=[]:=fun e=>by
            simp only[Option.some.injEq,Prod.mk.injEq] at e; rw[← e.2.1]; rfl
          split at h
          · simp only[Option.map_eq_some_iff] at h
            obtain ⟨_,_,h⟩:=h
            exact nn (congrArg some h)
          · split at h
            · split at h
              · exact nn h
              · simp at h
            · exact nn h
            · simp at h
          · split at h
            · exact nn h
            · simp at h
          · exact nn h
          · simp at h
        · simp at h
      any_goals simp at h
      all_goals contradiction
    · exact ⟨fun h=>by simp at h,fun h=>by simp at h⟩
  · rename_i t m k ok ho
    refine ⟨fun h=>by simp at h,fun _=>?_⟩
    simp only[aop,ho,aLookup] at h
    have nn:∀ {v':V} {r:List Nat},some (v',Eff.none,r)=some (v,eff,rd)→eff.wr=[]:=fun e=>by
      simp only[Option.some.injEq,Prod.mk.injEq] at e; rw[← e.2.1]; rfl
    split at h
    · simp at h
    · split at h
      · simp at h
      · split at h
        · split at h
          · split at h
            · split at h
              · exact nn h
              · simp at h
            · exact nn h
            · simp at h
          · simp at h
        · simp at h
  · rename_i op t x y u ho
    refine ⟨fun _=>?_,fun h=>by simp at h⟩
    simp only[aop,ho] at h
    split at h
    · split at h
      · simp at h; exact ⟨h.2.1.symm,h.2.2⟩
      · simp at h; exact ⟨h.2.1.symm,h.2.2⟩
      · simp at h
    · exact aPure_eff h
  · rename_i op t x ho
    exact ⟨fun _=>aPure_eff (by simpa only [aop,ho] using h),fun h=>by simp at h⟩
  · rename_i t x i ho
    exact ⟨fun _=>aPure_eff (by simpa only [aop,ho] using h),fun h=>by simp at h⟩
  · exact ⟨fun h=>by simp at h,fun h=>by simp at h⟩
theorem sI_loud {P:Program} {s:SI} {T:Env} {H:View} {n:Nat} {v:V} {eff:Eff} {rd:List Nat} (h:sI P s T H n=some (v,eff,rd)) :
    (loudI P s=0→eff=.none∧rd=[])∧(loudI P s=1→eff.wr=[]):=by
  have nn:∀ {v':V},some (v',Eff.none,([]:List Nat))=some (v,eff,rd)→eff=.none∧rd=[]:=fun e=>by
    simp only[Option.some.injEq,Prod.mk.injEq] at e; exact ⟨e.2.1.symm,e.2.2.symm⟩
  have mp:∀ {α:Type} {x:Option α} {f:α→V},(x.map fun a=>(f a,Eff.none,([]:List Nat)))=some (v,eff,rd)→eff=.none∧rd=[]:=by
    intro α x f h
    simp only[Option.map_eq_some_iff] at h
    obtain ⟨a,_,h⟩:=h
    simp only[Prod.mk.injEq] at h; exact ⟨h.2.1.symm,h.2.2.symm⟩
  have nw:∀ {v':V} {o:AObj} {r:List Nat},some (v',Eff.new o,r)=some (v,eff,rd)→eff.wr=[]:=fun e=>by
    simp only[Option.some.injEq,Prod.mk.injEq] at e; rw[← e.2.1]; rfl
  have n1:∀ {v':V} {r:List Nat},some (v',Eff.none,r)=some (v,eff,rd)→eff.wr=[]:=fun e=>by
    simp only[Option.some.injEq,Prod.mk.injEq] at e; rw[← e.2.1]; rfl
  unfold loudI
  cases s <;> simp only[sI] at h
  case old op ty=>exact old_loud (o:=oper op ty) h
  all_goals
    constructor <;> intro hk <;> first
      | (exfalso; revert hk; simp; done)
      | skip
  all_goals try simp only[sLoad,aBox,sAddr,sIdx,sSlice,sMake,sBslice,sArith,sSh,sSop,sSidx] at h
  all_goals first
    | exact nn h
    | exact mp h
    | exact nw h
    | exact n1 h
    | skip
  all_goals repeat' (split at h)
  all_goals first
    | exact nn h
    | exact mp h
    | exact nw h
    | exact n1 h
    | (simp at h; done)
    | (simp only[Option.map_eq_some_iff,Prod.mk.injEq] at h; obtain ⟨_,_,_,rfl,_⟩:=h; rfl)
end Gv
