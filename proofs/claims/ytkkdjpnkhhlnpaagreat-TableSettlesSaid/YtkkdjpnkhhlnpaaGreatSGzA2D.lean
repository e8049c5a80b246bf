/-
  Part 4 of the proof: what the machine does and what the functions answer.
  Conditions: those that each lemma names.
-/
import Derived.Test.YtkkdjpnkhhlnpaaGreatSGzA2C
set_option linter.unusedSimpArgs false
set_option linter.unusedVariables false
set_option maxRecDepth 100000
namespace Gv
open Go
inductive SX where
  | tmp (t:Nat)
  | val (v:V)
  deriving Inhabited
def SX.of:Operand→SX
  | .tmp t=>.tmp t
  | .const v=>.val (dD v)
  | .global _=>.val .any
  | .func f=>.val (.fn f [] [])
def SX.at (T:Env):SX→V
  | .tmp t=>T t
  | .val v=>v
theorem SX.bt (T:Env) (x:Operand):(SX.of x).at T=ev T x:=by cases x <;> rfl
inductive SI where
  | aV (x:SX)
  | pick (c a b:SX)
  | box (x:SX)
  | eW (x:SX)
  | alloc (z:List V)
  | build (z:List V) (parts:List (Nat × Nat × SX))
  | ba (len sz:Nat) (z:List V) (parts:List (Nat × SX))
  | load (sz:Option Nat) (a:SX)
  | sf (sz:Option Nat) (a:SX)
  | store (sz:Nat) (a x:SX)
  | tQ (x:SX)
  | addr (off:Nat) (x:SX)
  | field (off:Nat) (sz:Option Nat) (x:SX)
  | idx (sz:Nat) (x i:SX)
  | slice (sz:Nat) (x:SX) (lo hi:Option SX)
  | make (sz bytes:Nat) (z:List V) (l c:SX)
  | iP
  | ka (f:FuncId) (first cap:List SX)
  | ext (i:Nat) (x:SX)
  | len (x:SX)
  | eA (x:SX)
  | app (sz bytes:Nat) (x y:SX)
  | arith (op:BinOp) (x y:SX)
  | sh (left:Bool) (x y:SX)
  | fT (op:BinOp) (x y:SX)
  | bZ (x i:SX)
  | not (x:SX)
  | nil (eq:Bool) (k:Nat) (x y:SX)
  | beq (eq:Bool) (x y:SX)
  | mm (mx:Bool) (x y:SX)
  | conv (k:IntKind) (x:SX)
  | vy (x:SX)
  | dc (x:SX)
  | old (op:Op) (ty:TypeId)
  deriving Inhabited
def ib:Option Nat→List V→Nat→Option V
  | some n,cs,off=>if off+n≤cs.length then some (.agg ((cs.drop off).take n)) else none
  | none,cs,off=>if off < cs.length then some (cs.getD off .any) else none
def pV (sz:Option Nat) (a:V) (H:View):Out:=match a with
  | .ptr id i j=>match H id with
    | .arr _ es=>if i < es.length then (ib sz (es.getD i []) j).map fun v=>(v,.none,[id]) else none
    | _=>none
  | .aQ e j=>(ib sz e j).map fun v=>(v,.none,[])
  | _=>none
def tY (sz:Nat) (a v:V) (H:View):Out:=match a with
  | .ptr id i j=>match H id with
    | .arr esz es =>
      if i < es.length∧v.cells.length=sz∧j+v.cells.length≤esz∧v.cells.all aP=true
      then some (.any,.dH id (.arr esz (es.set i (ab (es.getD i []) j v.cells))),[id]) else none
    | _=>none
  | _=>none
def ae (z:List V) (parts:List (Nat × Nat × V)):Option (List V):=match parts with
  | []=>some z
  | (off,size,x) :: r=>if x.cells.length=size∧off+size≤z.length∧x.cells.all aP=true then ae (ab z off x.cells) r else none
def sy (len sz:Nat) (z:List V) (parts:List (Nat × V)) (n:Nat):Out :=
  match ag sz (List.replicate len z) parts with
  | some es=>some (.sl n 0 len sz,.new (.arr sz es),[])
  | none=>none
def sr (off:Nat) (x:V):Out:=match x with
  | .ptr id i j=>some (.ptr id i (j+off),.none,[])
  | .aQ e j=>some (.aQ e (j+off),.none,[])
  | _=>none
def vW (sz:Nat) (x i:V):Out:=match asNat i with
  | none=>none
  | some q=>match x with
    | .sl id off len esz=>if q < len∧esz=sz then some (.ptr id (off+q) 0,.none,[]) else none
    | .aS es=>if q < es.length∧(es.getD q []).length=sz then some (.aQ (es.getD q []) 0,.none,[]) else none
    | _=>none
def oy (sz:Nat) (x:V) (lo hi:Option V):Out:=match x with
  | .sl id off len esz=>match bound 0 lo,bound len hi with
    | some l,some h=>if l≤h∧h≤len∧esz=sz then some (.sl id (off+l) (h - l) esz,.none,[]) else none
    | _,_=>none
  | .aS es=>match bound 0 lo,bound es.length hi with
    | some l,some h=>if l≤h∧h≤es.length∧(es.all fun e=>e.length == sz)=true then some (.aS ((es.drop l).take (h - l)),.none,[]) else none
    | _,_=>none
  | .emp k=>match bound 0 lo,bound 0 hi with
    | some 0,some 0=>some (.emp k,.none,[])
    | _,_=>none
  | _=>none
def um (sz bytes:Nat) (z:List V) (len cap:V) (n:Nat):Out:=match asNat len,asNat cap with
  | some l,some c =>
    if l≤c∧c < aW∧bytes * c < aW then
      (if c=0 then some (.emp 2,.none,[]) else some (.sl n 0 l sz,.new (.arr sz (List.replicate l z)),[]))
    else none
  | _,_=>none
def yj (sz bytes:Nat) (s x:V) (H:View) (n:Nat):Out:=match bF H x with
  | some (xs,rd) =>
      if xs.isEmpty then (match s with
        | .emp _ | .cn | .aS _ | .sl _ _ _ _=>some (s,.none,[])
        | _=>none)
      else if ¬ ((xs.all fun e=>e.length == sz && e.all aP)=true) then none
      else match s with
        | .emp _=>if xs.length * bytes < aW∧xs.length < aW then some (.sl n 0 xs.length sz,.new (.arr sz xs),rd) else none
        | .sl id off len esz=>match H id with
          | .arr _ es =>
            if off+len≤es.length∧esz=sz∧(len+xs.length) * bytes < aW∧len+xs.length < aW
            then some (.sl n 0 (len+xs.length) esz,.aV id (.arr esz ((es.drop off).take len ++ xs)),id :: rd) else none
          | _=>none
        | _=>none
  | none=>none
def ah (op:BinOp) (k:IntKind) (a b:Int):Option Value:=match op with
  | .add=>some (.int k (k.wrap (a+b)))
  | .sub=>some (.int k (k.wrap (a - b)))
  | .mul=>some (.int k (k.wrap (a * b)))
  | .quo=>if b=0 then none else some (.int k (k.wrap (a.tdiv b)))
  | .rem=>if b=0 then none else some (.int k (a.tmod b))
  | .eql=>some (.bool (a == b))
  | .neq=>some (.bool (a != b))
  | .lss=>some (.bool (a < b))
  | .leq=>some (.bool (a≤b))
  | .gtr=>some (.bool (a > b))
  | .geq=>some (.bool (a≥b))
  | .or=>some (.int k (k.wrap (BitVec.ofInt k.bits a ||| BitVec.ofInt k.bits b).toNat))
  | .and=>some (.int k (k.wrap (BitVec.ofInt k.bits a &&& BitVec.ofInt k.bits b).toNat))
  | .xor=>some (.int k (k.wrap (BitVec.ofInt k.bits a ^^^ BitVec.ofInt k.bits b).toNat))
  | .andNot=>some (.int k (k.wrap (BitVec.ofInt k.bits a &&& ~~~(BitVec.ofInt k.bits b)).toNat))
  | _=>none
def r9 (op:BinOp) (x y:V):Out:=match x,y with
  | .val (.int k a),.val (.int k' b)=>if k=k' then (ah op k a b).map fun v=>(.val v,.none,[]) else none
  | _,_=>none
def CG (left:Bool) (k:IntKind) (a b:Int):Int:=if left then k.wrap (a * 2 ^ (min b.toNat k.bits)) else a.fdiv (2 ^ (min b.toNat k.bits))
def DS (left:Bool) (x y:V):Out:=match x,y with
  | .val (.int k a),.val (.int _ b)=>if b < 0 then none else some (.val (.int k (CG left k a b)),.none,[])
  | _,_=>none
def FD:BinOp→Option Bool
  | .shl=>some true
  | .shr=>some false
  | _=>none
def ey (a b:ByteArray):Bool:=a.data.toList == b.data.toList
def tN (op:BinOp) (x y:V):Out:=match x,y with
  | .val (.string a),.val (.string b)=>match op with
    | .eql=>some (.val (.bool (ey a b)),.none,[])
    | .neq=>some (.val (.bool (!ey a b)),.none,[])
    | _=>none
  | _,_=>none
def u5 (x i:V):Out:=match x,asNat i with
  | .val (.string s),some q=>match s.data.toList[q]? with
    | some b=>some (.val (.int .u8 b.toNat),.none,[])
    | none=>none
  | _,_=>none
def aj:Option Bool→Option Bool→Option Bool
  | some true,some b=>some b
  | some b,some true=>some b
  | _,_=>none
theorem Ba {P:Program} {t:TypeId} {k:Nat} (h:eS P t=some k) (x y:V):v8 P t x y=aj (isNil k x) (isNil k y):=by
  simp only[v8,h]
  unfold aj
  split <;> simp_all
def oper (op:Op) (ty:TypeId):Oper:=⟨none,op,ty,"",#[],none⟩
theorem Fo (P:Program) (o:Oper) (T:Env) (H:View) (n:Nat):bm P (oper o.op o.type) T H n=bm P o T H n:=by
  cases o; rfl
def sI (P:Program) (s:SI) (T:Env) (H:View) (n:Nat):Out:=match s with
  | .aV x=>some (x.at T,.none,[])
  | .pick c a b=>match c.at T with
    | .val (.bool t)=>some (if t then a.at T else b.at T,.none,[])
    | _=>none
  | .box x=>gV (x.at T).cells n
  | .eW x=>if (x.at T).cells.all aP=true then some (.aQ (x.at T).cells 0,.none,[]) else none
  | .alloc z=>gV z n
  | .build z parts=>(ae z (parts.map fun (a,b,x)=>(a,b,x.at T))).map fun cs=>(.agg cs,.none,[])
  | .ba len sz z parts=>sy len sz z (parts.map fun (i,x)=>(i,x.at T)) n
  | .load sz a=>pV sz (a.at T) H
  | .sf sz a=>match a.at T with
    | .aQ e j=>(ib sz e j).map fun v=>(v,.none,[])
    | _=>none
  | .store sz a x=>tY sz (a.at T) (x.at T) H
  | .tQ x=>match x.at T with
    | .ptr id i j=>some (.ptr id i j,.none,[])
    | .aQ e j=>some (.aQ e j,.none,[])
    | .fn f a b=>some (.fn f a b,.none,[])
    | _=>none
  | .addr off x=>sr off (x.at T)
  | .field off sz x=>match x.at T with
    | .agg cs=>(ib sz cs off).map fun v=>(v,.none,[])
    | _=>none
  | .idx sz x i=>vW sz (x.at T) (i.at T)
  | .slice sz x lo hi=>oy sz (x.at T) (lo.map (SX.at T)) (hi.map (SX.at T))
  | .make sz bytes z l c=>um sz bytes z (l.at T) (c.at T) n
  | .iP=>some (.mp n,.new (.map [] 0),[])
  | .ka f first cap=>some (.fn f (first.map (SX.at T)) (cap.map (SX.at T)),.none,[])
  | .ext i x=>match x.at T with
    | .bc vs=>if i < vs.length then some (vs.getD i .any,.none,[]) else none
    | _=>none
  | .len x=>(dF (x.at T)).map fun n=>(an n,.none,[])
  | .eA x=>match x.at T with
    | .val (.string s)=>some (an s.size,.none,[])
    | _=>none
  | .app sz bytes x y=>yj sz bytes (x.at T) (y.at T) H n
  | .arith op x y=>r9 op (x.at T) (y.at T)
  | .sh l x y=>DS l (x.at T) (y.at T)
  | .fT op x y=>tN op (x.at T) (y.at T)
  | .bZ x i=>u5 (x.at T) (i.at T)
  | .not x=>match x.at T with
    | .val (.bool t)=>some (.val (.bool (!t)),.none,[])
    | _=>none
  | .nil eq k x y=>match aj (isNil k (x.at T)) (isNil k (y.at T)) with
    | some b=>some (.val (.bool (if eq then b else !b)),.none,[])
    | none=>none
  | .beq eq x y=>match x.at T,y.at T with
    | .val (.bool a),.val (.bool b)=>some (.val (.bool (if eq then a == b else a != b)),.none,[])
    | _,_=>none
  | .mm mx x y=>match x.at T,y.at T with
    | .val (.int k a),.val (.int _ b)=>some (.val (.int k (if mx then (if b > a then b else a) else (if b < a then b else a))),.none,[])
    | _,_=>none
  | .conv k x=>match x.at T with
    | .val (.int _ a)=>some (.val (.int k (k.wrap a)),.none,[])
    | _=>none
  | .vy x=>match x.at T with
    | .aS es=>(kO es).map fun l=>(.val (.string ⟨l.toArray⟩),.none,[])
    | _=>none
  | .dc x=>match x.at T with
    | .val (.string s)=>some (.aS (dq s),.none,[])
    | _=>none
  | .old op ty=>bm P (oper op ty) T H n
def vp (P:Program) (t:TypeId):Option (Option Nat):=match P.info? t,l7 P t with
  | some i,some true=>some (some i.size)
  | some _,some false=>some none
  | _,_=>none
theorem pK {P:Program} {t:TypeId} {k:Option Nat} (h:vp P t=some k) (cs:List V) (j:Nat):kA P t cs j=ib k cs j:=by
  unfold vp at h
  split at h
  · rename_i i h1 h2
    simp at h; subst h; simp[kA,h1,h2,ib]
  · rename_i i h1 h2
    simp at h; subst h; simp[kA,h1,h2,ib]
  · simp at h
def pc (P:Program) (t:TypeId):Option (Nat × Nat × List V):=match bE P t with
  | some e=>match P.info? e,zeroCells P e with
    | some ti,some z=>if z.length=ti.size∧z.all aP=true∧ti.size≠0 then some (ti.size,ti.bytes,z) else none
    | _,_=>none
  | none=>none
theorem mG {P:Program} {t:TypeId} {sz by':Nat} {z:List V} (h:pc P t=some (sz,by',z)) :
    ∃ e ti,bE P t=some e∧P.underlying t=some (.slice e)∧P.info? e=some ti∧zeroCells P e=some z∧z.length=ti.size∧z.all aP=true∧ti.size≠0∧sz=ti.size∧by'=ti.bytes:=by
  unfold pc at h
  split at h
  · rename_i e he
    split at h
    · rename_i ti z' h1 h2
      split at h
      · rename_i hc
        simp at h
        obtain ⟨rfl,rfl,rfl⟩:=h
        have hu:P.underlying t=some (.slice e):=by
          unfold bE at he; split at he
          · rename_i h3; simp at he; subst he; exact h3
          · simp at he
        exact ⟨e,ti,he,hu,h1,h2,hc.1,hc.2.1,hc.2.2,rfl,rfl⟩
      · simp at h
    · simp at h
  · simp at h
def oz (P:Program) (t:TypeId):List (Nat × Operand)→Option (List (Nat × Nat × SX))
  | []=>some []
  | (i,x) :: r=>match placeOf P t i,oz P t r with
    | some (a,b),some l=>some ((a,b,SX.of x) :: l)
    | _,_=>none
def comp (P:Program) (o:Oper):SI:=match o.op with
  | .move x | .assign x=>.aV (SX.of x)
  | .pick c a b=>.pick (SX.of c) (SX.of a) (SX.of b)
  | .alloc e=>match zeroCells P e with
    | some z=>.alloc z
    | none=>.old o.op o.type
  | .box _ x=>.box (SX.of x)
  | .load t a=>match vp P t with
    | some k=>.load k (SX.of a)
    | none=>.old o.op o.type
  | .store t a v=>match P.info? t with
    | some _=>.store (P.cellsOf t) (SX.of a) (SX.of v)
    | none=>.old o.op o.type
  | .nilCheck x=>.tQ (SX.of x)
  | .fieldAddr t x f=>match ke P t f with
    | some (off,s,_)=>if s=0 then .old o.op o.type else .addr off (SX.of x)
    | none=>.old o.op o.type
  | .field t x f=>match ke P t f with
    | some (off,_,ft)=>match vp P ft with
      | some k=>.field off k (SX.of x)
      | none=>.old o.op o.type
    | none=>.old o.op o.type
  | .indexAddr t x i=>match pc P t with
    | some (sz,_,_)=>.idx sz (SX.of x) (SX.of i)
    | none=>.old o.op o.type
  | .slice t x lo hi none=>match pc P t with
    | some (sz,_,_)=>.slice sz (SX.of x) (lo.map SX.of) (hi.map SX.of)
    | none=>.old o.op o.type
  | .makeSlice t l c=>match pc P t with
    | some (sz,b,z)=>.make sz b z (SX.of l) (SX.of c)
    | none=>.old o.op o.type
  | .makeMap _ none=>.iP
  | .makeFunc (.func f) first cap=>.ka f (first.toList.map SX.of) (cap.toList.map SX.of)
  | .extract t i=>.ext i (SX.of t)
  | .build t parts=>match P.underlying t,zeroV P t with
    | some (.struct _),some (.agg z)=>if hQ P t=true then
        (match oz P t parts.toList with
        | some ps=>.build z ps
        | none=>.old o.op o.type) else .old o.op o.type
    | _,_=>.old o.op o.type
  | .buildSlice t len parts=>match pc P t with
    | some (sz,_,z)=>if len=0∧parts.toList.isEmpty=true then .aV (.val (.emp 2)) else if len * sz≤2 ^ 24∧len≠0 then .ba len sz z (parts.toList.map fun (i,x)=>(i,SX.of x)) else .old o.op o.type
    | none=>.old o.op o.type
  | .call { callee:=.builtin b,args,argTypes }=>match b,args.toList with
    | .len,[x]=>if 1≤argTypes.size then (match P.underlying (argTypes.getD 0 0) with
      | some (.slice _)=>.len (SX.of x)
      | some .string=>.eA (SX.of x)
      | _=>.old o.op o.type) else .old o.op o.type
    | .append,[s,x]=>if 2≤argTypes.size∧kq P (argTypes.getD 1 0)=true then (match pc P (argTypes.getD 0 0) with
      | some (sz,b,_)=>.app sz b (SX.of s) (SX.of x)
      | none=>.old o.op o.type) else .old o.op o.type
    | .min,[x,y]=>.mm false (SX.of x) (SX.of y)
    | .max,[x,y]=>.mm true (SX.of x) (SX.of y)
    | _,_=>.old o.op o.type
  | .convert s d x=>match P.underlying s,P.underlying d with
    | some (.int _),some (.int k)=>.conv k (SX.of x)
    | _,_=>.old o.op o.type
  | .binOp op t x y _=>match eS P t with
    | some k=>match op with
      | .eql=>.nil true k (SX.of x) (SX.of y)
      | .neq=>.nil false k (SX.of x) (SX.of y)
      | _=>.old o.op o.type
    | none=>match P.underlying t with
      | some (.int _)=>match FD op with
        | some l=>.sh l (SX.of x) (SX.of y)
        | none=>.arith op (SX.of x) (SX.of y)
      | some .string=>.fT op (SX.of x) (SX.of y)
      | some .bool=>match op with
        | .eql=>.beq true (SX.of x) (SX.of y)
        | .neq=>.beq false (SX.of x) (SX.of y)
        | _=>.old o.op o.type
      | _=>.old o.op o.type
  | .unOp .not _ x=>.not (SX.of x)
  | .index t x i=>match P.underlying t with
    | some .string=>.bZ (SX.of x) (SX.of i)
    | _=>.old o.op o.type
  | _=>.old o.op o.type
theorem wT {P:Program} {t:TypeId} {T:Env} : ∀ (parts:List (Nat × Operand)) (ps:List (Nat × Nat × SX)) (z:List V),oz P t parts=some ps →
    pZ (placeOf P t) z (parts.map fun (i,x)=>(i,ev T x))=ae z (ps.map fun (a,b,x)=>(a,b,x.at T))
  | [],ps,z,h=>by simp[oz] at h; subst h; rfl
  | (i,x) :: r,ps,z,h=>by
    simp only[oz] at h
    split at h
    · rename_i a b l h1 h2
      simp at h; subst h
      simp only[List.map_cons,pZ,h1,ae,SX.bt]
      split
      · exact wT r l _ h2
      · rfl
    · simp at h
theorem z2 {P:Program} {o:Oper} {T:Env} {op:BinOp} {t u:TypeId} {x y:Operand} {k:IntKind} {a b:Int} {r:Value} (ho:o.op=.binOp op t x y u) (hx:ev T x=.val (.int k a)) (hy:ev T y=.val (.int k b)) (h:ah op k a b=some r) :
    bY P o T=some (.val r,.none,[]):=by
  unfold bY
  simp only[ho,Op.operands]
  simp only[hx,hy,bH]
  cases op <;> simp only[ah,Option.some.injEq,reduceCtorEq] at h
  all_goals first
    | (
       split at h
       · simp at h
       · rename_i hb
         simp at h; subst h
         simp[execOp,ho,hx,hy,bH,eqGuard,binOp,Op.intDiv,hb,plain]
         try rfl)
    | (subst h; simp[execOp,ho,hx,hy,bH,eqGuard,binOp,Op.intArith,Op.intCmp,Op.intBits,plain]; try rfl)
theorem E1 {P:Program} {o:Oper} {T:Env} {op:BinOp} {t u:TypeId} {x y:Operand} {l:Bool} {v:V} {av:aN} {rd:List Nat} (ho:o.op=.binOp op t x y u) (hs:FD op=some l) (h:DS l (ev T x) (ev T y)=some (v,av,rd)) :
    bY P o T=some (v,av,rd):=by
  unfold DS at h
  split at h
  · rename_i k a k' b hx hy
    split at h
    · simp at h
    · rename_i hb
      simp only[Option.some.injEq,Prod.mk.injEq] at h
      obtain ⟨rfl,rfl,rfl⟩:=h
      unfold bY
      simp only[ho,Op.operands]
      simp only[hx,hy,bH]
      cases op <;> simp only[FD,Option.some.injEq,reduceCtorEq] at hs
      all_goals
        subst hs
        simp[execOp,ho,hx,hy,bH,eqGuard,binOp,Op.shift,hb,plain,CG]
        try rfl
  · simp at h
theorem C6 {P:Program} {o:Oper} {T:Env} {op:BinOp} {t u:TypeId} {x y:Operand} {v:V} {av:aN} {rd:List Nat} (ho:o.op=.binOp op t x y u) (h:tN op (ev T x) (ev T y)=some (v,av,rd)) :
    bY P o T=some (v,av,rd):=by
  unfold tN at h
  split at h
  · rename_i a b hx hy
    unfold bY
    simp only[ho,Op.operands,hx,hy,bH]
    have he:(a.toList == b.toList)=ey a b:=by simp[ey,ByteArray.toList_eq]
    split at h
    · simp at h; obtain ⟨rfl,rfl,rfl⟩:=h
      simp[execOp,ho,hx,hy,bH,eqGuard,binOp,Op.stringOp,plain,← he]; rfl
    · simp at h; obtain ⟨rfl,rfl,rfl⟩:=h
      simp[execOp,ho,hx,hy,bH,eqGuard,binOp,Op.stringOp,plain,← he]; rfl
    · simp at h
  · simp at h
theorem Cw {P:Program} {o:Oper} {T:Env} {t:TypeId} {x i:Operand} {v:V} {av:aN} {rd:List Nat} (ho:o.op=.index t x i) (hu:P.underlying t=some .string) (h:u5 (ev T x) (ev T i)=some (v,av,rd)) :
    bY P o T=some (v,av,rd):=by
  unfold u5 at h
  split at h
  · rename_i s q hx hq
    split at h
    · rename_i b hb
      simp at h; obtain ⟨rfl,rfl,rfl⟩:=h
      unfold asNat at hq
      split at hq
      · rename_i k z hz
        split at hq
        · rename_i h0
          simp at hq; subst hq
          have hs:s[z.toNat]?=some b:=by
            obtain ⟨hlt,rfl⟩:=List.getElem?_eq_some_iff.1 hb
            have hlt':z.toNat < s.size:=by rw[bsize] at hlt; exact hlt
            rw[getElem?_pos s z.toNat hlt']
            rfl
          unfold bY
          simp only[ho,Op.operands,hx,hz,bH]
          simp[execOp,ho,hx,hz,bH,Instr.index,asIntOf,underlying,program,hu,h0,hs,plain]
          simp[aX,hu,h0,hs,plain,bind,Sem.bind,pure]
          rfl
        · simp at hq
      · simp at hq
    · simp at h
  · simp at h
theorem DD {P:Program} {o:Oper} {T:Env} {t:TypeId} {x:Operand} {b:Bool} (ho:o.op=.unOp .not t x) (hx:ev T x=.val (.bool b)) :
    bY P o T=some (.val (.bool (!b)),.none,[]):=by
  unfold bY
  simp only[ho,Op.operands,hx,bH]
  simp[execOp,ho,hx,bH,Op.unary,plain]
  rfl
theorem ez {α β:Type} (P:Program) (s:Sem α) (f:α→β):aX P (Functor.map f s)=(aX P s).map f:=by
  show aX P (s >>= fun a=>pure (f a))=_
  rw[aU]
  cases aX P s <;> rfl
theorem cG {P:Program} {t:TypeId} {d:TypeDesc} (h:P.underlying t=some d):aX P (underlying t)=some d:=by
  simp only[underlying,program,aU]
  simp[aX,h]
  rfl
theorem qi {P:Program} {t:TypeId} {a b:Bool} (hu:P.underlying t=some .bool):aX P (Op.equal t (.bool a) (.bool b))=some (a == b):=by
  rw[gR]
  generalize 9999=d
  simp only[Op.equalIn,aU,cG hu,Option.bind_some]
  rfl
theorem xB {P:Program} {o:Oper} {T:Env} {op:BinOp} {t u:TypeId} {x y:Operand} {a b:Bool} {r:Bool} (ho:o.op=.binOp op t x y u) (hu:P.underlying t=some .bool) (hx:ev T x=.val (.bool a)) (hy:ev T y=.val (.bool b))
    (hr:(op=.eql∧r=(a == b))∨(op=.neq∧r=(a != b))) :
    bY P o T=some (.val (.bool r),.none,[]):=by
  unfold bY
  simp only[ho,Op.operands,hx,hy,bH]
  rcases hr with ⟨rfl,rfl⟩ | ⟨rfl,rfl⟩
  · simp[execOp,ho,hx,hy,bH,eqGuard,binOp,ez,aU,qi hu,plain]
    try simp[aX,pure,plain]
  · simp[execOp,ho,hx,hy,bH,eqGuard,binOp,ez,aU,qi hu,plain]
    try simp[aX,pure,plain,bne]
theorem B2 {P:Program} {o:Oper} {T:Env} {s d:TypeId} {x:Operand} {k0 k k':IntKind} {a:Int} (ho:o.op=.convert s d x) (hs:P.underlying s=some (.int k0)) (hd:P.underlying d=some (.int k)) (hx:ev T x=.val (.int k' a)) :
    bY P o T=some (.val (.int k (k.wrap a)),.none,[]):=by
  unfold bY
  simp only[ho,Op.operands,hx,bH]
  have:aX P (convert s d (.int k' a))=some (.int k (k.wrap a)):=by
    simp only[convert,aU,cG hs,cG hd,Option.bind_some]
    rfl
  simp[execOp,ho,hx,bH,ez,this,plain]
theorem zP {P:Program} {o:Oper} {T:Env} {bi:Builtin} {x y:Operand} {k k':IntKind} {a b:Int} {args:Array Operand} {ats:Array TypeId} {r:Int} (ho:o.op=.call { callee:=.builtin bi,args:=args,argTypes:=ats }) (ha:args.toList=[x,y])
    (hx:ev T x=.val (.int k a)) (hy:ev T y=.val (.int k' b)) (hr:(bi=.max∧r=if b > a then b else a)∨(bi=.min∧r=if b < a then b else a)) :
    bY P o T=some (.val (.int k r),.none,[]):=by
  obtain rfl:args = #[x,y]:=by rw[← Array.toArray_toList (xs:=args),ha]
  unfold bY
  rcases hr with ⟨rfl,rfl⟩ | ⟨rfl,rfl⟩
  · have:aX P (Builtin.max_ ats o.type #[.int k a,.int k' b])=some (.int k (if b > a then b else a)):=rfl
    simp[ho,Op.operands,Call.operands,hx,hy,bH,execOp,resolve,invoke,builtin,ez,this,plain]
  · have:aX P (Builtin.min_ ats o.type #[.int k a,.int k' b])=some (.int k (if b < a then b else a)):=rfl
    simp[ho,Op.operands,Call.operands,hx,hy,bH,execOp,resolve,invoke,builtin,ez,this,plain]
theorem yP (l:List Operand) (T:Env):(l.map SX.of).map (SX.at T)=l.map (ev T):=by
  rw[List.map_map]; congr 1; funext x; exact SX.bt T x
theorem Gb (l:Option Operand) (T:Env):(l.map SX.of).map (SX.at T)=l.map (ev T):=by
  cases l <;> simp[SX.bt]
theorem Gd (l:List (Nat × Operand)) (T:Env):(l.map fun (i,x)=>(i,SX.of x)).map (fun (i,x)=>(i,SX.at T x))=l.map fun (i,x)=>(i,ev T x):=by
  rw[List.map_map]; congr 1; funext x; simp[SX.bt]
theorem Bm {P:Program} {o:Oper} {T:Env} {H:View} {n:Nat} {v:V} {av:aN} {rd:List Nat} (h:sI P (comp P o) T H n=some (v,av,rd)) :
    bm P o T H n=some (v,av,rd):=by
  have old:∀ {s:SI},s=.old o.op o.type→sI P s T H n=some (v,av,rd)→bm P o T H n=some (v,av,rd):=fun e h=>by rw[e] at h; simp only[sI,Fo] at h; exact h
  unfold comp at h
  split at h
  · rename_i x ho; simp only[sI,SX.bt] at h; simp only[bm,ho]; exact h
  · rename_i x ho; simp only[sI,SX.bt] at h; simp only[bm,ho]; exact h
  · rename_i c a b ho; simp only[sI,SX.bt] at h; simp only[bm,ho]; exact h
  · rename_i e ho
    split at h
    · rename_i z hz; simp only[sI] at h; simp only[bm,ho,hz]; exact h
    · exact old rfl h
  · rename_i t x ho; simp only[sI,SX.bt] at h; simp only[bm,ho]; exact h
  · rename_i t a ho
    split at h
    · rename_i k hk
      simp only[sI,SX.bt,pV] at h
      simp only[bm,ho,hX,pK hk]
      exact h
    · exact old rfl h
  · rename_i t a x ho
    split at h
    · rename_i ti hti
      simp only[sI,SX.bt,tY] at h
      simp only[bm,ho,kK,hti,Option.isSome_some,and_true]
      exact h
    · exact old rfl h
  · rename_i x ho; simp only[sI,SX.bt] at h; simp only[bm,ho]; exact h
  · rename_i t x f ho
    split at h
    · rename_i off s ft hpl
      split at h
      · exact old rfl h
      · rename_i hs
        simp only[sI,SX.bt,sr] at h
        simp only[bm,ho,gA,hpl,hs,if_false]
        exact h
    · exact old rfl h
  · rename_i t x f ho
    split at h
    · rename_i off s ft hpl
      split at h
      · rename_i k hk
        simp only[sI,SX.bt] at h
        simp only[bm,ho,oJ,hpl]
        split at h
        · rename_i cs hcs; simp only[hcs,pK hk]; exact h
        · simp at h
      · exact old rfl h
    · exact old rfl h
  · rename_i t x i ho
    split at h
    · rename_i sz b z hk
      obtain ⟨e,ti,h1,h2,h3,h4,h5,h6,h7,rfl,rfl⟩:=mG hk
      simp only[sI,SX.bt,vW] at h
      simp only[bm,ho,gL,h2,h3]
      exact h
    · exact old rfl h
  · rename_i t x lo hi ho
    split at h
    · rename_i sz b z hk
      obtain ⟨e,ti,h1,h2,h3,h4,h5,h6,h7,rfl,rfl⟩:=mG hk
      simp only[sI,SX.bt,Gb] at h
      simp only[bm,ho]
      have hsl:mn P t (ev T x) (lo.map (ev T)) (hi.map (ev T)) none=some (v,av,rd):=by
        simp only[mn,h1,h3]
        unfold oy at h
        split at h
        · rename_i h9; rw[h9]; exact h
        · rename_i h9; rw[h9]; exact h
        · rename_i h9; rw[h9]; exact h
        · simp at h
      unfold oy at h
      split at h
      · rename_i h9; rw[h9] at hsl ⊢; exact hsl
      · rename_i h9; rw[h9] at hsl ⊢; exact hsl
      · rename_i h9; rw[h9] at hsl ⊢; exact hsl
      · simp at h
    · exact old rfl h
  · rename_i t l c ho
    split at h
    · rename_i sz b z hk
      obtain ⟨e,ti,h1,h2,h3,h4,h5,h6,h7,rfl,rfl⟩:=mG hk
      simp only[sI,SX.bt,um] at h
      simp only[bm,ho,gB,h1,h3]
      split at h
      · rename_i l' c' hl hc
        simp only[hl,hc,h7,if_false,h4,h5,h6,and_self,if_true]
        exact h
      · simp at h
    · exact old rfl h
  · rename_i t ho; simp only[sI] at h; simp only[bm,ho]; exact h
  · rename_i f first cap ho; simp only[sI,yP] at h; simp only[bm,ho]; exact h
  · rename_i t i ho; simp only[sI,SX.bt] at h; simp only[bm,ho]; exact h
  · rename_i t parts ho
    split at h
    · rename_i fs z h1 h2
      split at h
      · rename_i h3
        split at h
        · rename_i ps h4
          simp only[sI] at h
          simp only[bm,ho,oS,h1,h2,h3,if_true]
          have:=wT (T:=T) parts.toList ps z h4
          rw[this]
          exact h
        · exact old rfl h
      · exact old rfl h
    · exact old rfl h
  · rename_i t len parts ho
    split at h
    · rename_i sz b z hk
      obtain ⟨e,ti,h1,h2,h3,h4,h5,h6,h7,rfl,rfl⟩:=mG hk
      split at h
      · rename_i hc
        obtain ⟨rfl,hc⟩:=hc
        simp only[sI,SX.at] at h
        simp only[bm,ho,dM,h1,h3]
        rw[List.isEmpty_iff] at hc
        rw[if_neg (by omega),if_pos trivial,hc]
        exact h
      split at h
      · rename_i hc
        simp only[sI,Gd,sy] at h
        simp only[bm,ho,dM,h1,h3]
        rw[if_neg (by omega),if_neg hc.2,if_neg h7]
        simp only[h4,h5,h6,and_self,if_true]
        exact h
      · exact old rfl h
    · exact old rfl h
  · rename_i b args ats ho
    split at h
    · rename_i x hargs
      split at h
      · rename_i hsz
        simp only[bm,ho,hargs,hsz,if_true,nO]
        split at h
        · rename_i e hu
          simp only[sI,SX.bt] at h
          simp only[hu]; exact h
        · rename_i hu
          simp only[sI,SX.bt] at h
          simp only[hu]
          exact h
        · have:=old rfl h
          simpa only [bm,ho,hargs,hsz,if_true,nO] using this
      · exact old rfl h
    · rename_i s x hargs
      split at h
      · rename_i hsz
        split at h
        · rename_i sz b z hk
          obtain ⟨e,ti,h1,h2,h3,h4,h5,h6,h7,rfl,rfl⟩:=mG hk
          simp only[sI,SX.bt] at h
          simp only[bm,ho,hargs]
          rw[if_pos hsz]
          unfold yj at h
          split at h
          · rename_i xs rd' hel
            simp only[iI,h1,hel,h3]
            have hz:(zeroCells P e).map List.length=some ti.size:=by rw[h4]; simp[h5]
            split at h
            · rename_i hemp; rw[if_pos hemp]; exact h
            · rename_i hemp
              rw[if_neg hemp]
              split at h
              · simp at h
              · rename_i hall
                rw[if_neg (by
                  rintro (h9 | h9 | h9)
                  · exact h7 h9
                  · exact h9 hz
                  · exact hall h9)]
                exact h
          · simp at h
        · exact old rfl h
      · exact old rfl h
    · rename_i x y hargs
      simp only[sI,SX.bt] at h
      simp only[bm,ho]
      split at h
      · rename_i k a k' b hx hy
        have:=zP (P:=P) (T:=T) ho hargs hx hy (.inr ⟨rfl,rfl⟩)
        rw[this]; exact h
      · simp at h
    · rename_i x y hargs
      simp only[sI,SX.bt] at h
      simp only[bm,ho]
      split at h
      · rename_i k a k' b hx hy
        have:=zP (P:=P) (T:=T) ho hargs hx hy (.inl ⟨rfl,rfl⟩)
        rw[this]; exact h
      · simp at h
    · exact old rfl h
  · rename_i s d x ho
    split at h
    · rename_i k0 k hs hd
      simp only[sI,SX.bt] at h
      simp only[bm,ho]
      split at h
      · rename_i k' a hx
        have hb:¬ (kC P s d=true):=by simp[kC,hs,hd]
        rw[if_neg hb,B2 ho hs hd hx]; exact h
      · simp at h
    · exact old rfl h
  · rename_i op t x y u ho
    split at h
    · rename_i k hk
      have hsome:(eS P t).isSome=true:=by rw[hk]; rfl
      split at h
      · simp only[sI,SX.bt] at h
        simp only[bm,ho]
        rw[if_pos hsome,Ba hk]
        split at h
        · rename_i b hb; rw[hb]; simpa using h
        · simp at h
      · simp only[sI,SX.bt] at h
        simp only[bm,ho]
        rw[if_pos hsome,Ba hk]
        split at h
        · rename_i b hb; rw[hb]; simpa using h
        · simp at h
      · exact old rfl h
    · rename_i hk
      have hnone:¬ ((eS P t).isSome=true):=by rw[hk]; simp
      split at h
      · split at h
        · rename_i l hs
          simp only[sI,SX.bt] at h
          simp only[bm,ho]
          rw[if_neg hnone]
          exact E1 ho hs h
        · simp only[sI,SX.bt,r9] at h
          simp only[bm,ho]
          split at h
          · rename_i k a k' b hx hy
            split at h
            · rename_i hkk
              subst hkk
              simp only[Option.map_eq_some_iff] at h
              obtain ⟨r,hr,h⟩:=h
              rw[if_neg hnone,z2 ho hx hy hr]; exact congrArg some h
            · simp at h
          · simp at h
      · simp only[sI,SX.bt] at h
        simp only[bm,ho]
        rw[if_neg hnone]
        exact C6 ho h
      · rename_i hu
        split at h
        · simp only[sI,SX.bt] at h
          simp only[bm,ho]
          split at h
          · rename_i a b hx hy
            rw[if_neg hnone,xB ho hu hx hy (.inl ⟨rfl,rfl⟩)]; simpa using h
          · simp at h
        · simp only[sI,SX.bt] at h
          simp only[bm,ho]
          split at h
          · rename_i a b hx hy
            rw[if_neg hnone,xB ho hu hx hy (.inr ⟨rfl,rfl⟩)]; simpa using h
          · simp at h
        · exact old rfl h
      · exact old rfl h
  · rename_i t x ho
    simp only[sI,SX.bt] at h
    simp only[bm,ho]
    split at h
    · rename_i b hb; rw[DD ho hb]; exact h
    · simp at h
  · rename_i t x i ho
    split at h
    · rename_i hu
      simp only[sI,SX.bt] at h
      simp only[bm,ho]
      exact Cw ho hu h
    · exact old rfl h
  · exact old rfl h
theorem EP {P:Program} {sz:Option Nat} {a:SX} {T:Env} {H:View} {n:Nat} {v:V} {av:aN} {rd:List Nat} (h:sI P (.sf sz a) T H n=some (v,av,rd)):sI P (.load sz a) T H n=some (v,av,rd):=by
  simp only[sI] at h
  simp only[sI,pV]
  split at h
  · rename_i e j ha; rw[ha]; exact h
  · simp at h
def toStr (P:Program) (s d:TypeId):Bool:=match P.underlying s,P.underlying d with
  | some (.slice e),some .string=>(match P.underlying e with | some (.int .u8)=>true | _=>false)
  | _,_=>false
def oC (P:Program) (s d:TypeId):Bool:=match P.underlying s,P.underlying d with
  | some .string,some (.slice e)=>(match P.underlying e with | some (.int .u8)=>true | _=>false)
  | _,_=>false
theorem Dj {P:Program} {s d:TypeId} (h:toStr P s d=true):∃ e,P.underlying s=some (.slice e)∧P.underlying d=some .string∧P.underlying e=some (.int .u8):=by
  unfold toStr at h
  split at h
  · rename_i e h1 h2
    split at h
    · rename_i h3; exact ⟨e,h1,h2,h3⟩
    · simp at h
  · simp at h
theorem sT {P:Program} {s d:TypeId} (h:oC P s d=true):∃ e,P.underlying s=some .string∧P.underlying d=some (.slice e)∧P.underlying e=some (.int .u8):=by
  unfold oC at h
  split at h
  · rename_i e h1 h2
    split at h
    · rename_i h3; exact ⟨e,h1,h2,h3⟩
    · simp at h
  · simp at h
theorem Gp {P:Program} {s d ty:TypeId} {x:Operand} {T:Env} {H:View} {n:Nat} {v:V} {av:aN} {rd:List Nat} (hc:toStr P s d=true) (h:sI P (.vy (SX.of x)) T H n=some (v,av,rd)):sI P (.old (.convert s d x) ty) T H n=some (v,av,rd):=by
  obtain ⟨e,h1,h2,h3⟩:=Dj hc
  simp only[sI,SX.bt] at h
  simp only[sI,bm,oper,kC,h1,if_true,j9,h2,h3]
  split at h
  · rename_i es hx
    rw[hx]
    simp only[bF,dF]
    exact h
  · simp at h
inductive SB where
  | op (s:SI)
  | call (f:SX) (args:List SX)
  deriving Inhabited
structure SO where
  dst:Option Nat
  guard:Option (Nat × Bool)
  b:SB
  deriving Inhabited
structure SG where
  guard:Option (Nat × Bool)
  ops:List (Option Nat × SB)
  deriving Inhabited
inductive SC where
  | skip
  | region (quiet:Bool) (gs:List SG)
  | sC (aps:List (Nat × Nat)) (gs:List SG)
  | vF (tol:Nat × Nat × Nat) (aps:List (Nat × Nat)) (gs:List SG)
  | seq (x y:SC)
  | cond (c:SX) (x y:SC)
  | block (id:Nat) (c:SC)
  | loop (c:SC)
  | exit (id:Nat)
  | ret
  | scope (l:Nat) (c r:SC)
  | label (l:Nat)
  | goto (l:Nat)
  deriving Inhabited
def jb:SC→Nat→Option SC
  | .seq a b,l=>match jb a l with
    | some r=>some (.seq r b)
    | none=>jb b l
  | .label l',l=>if l' == l then some .skip else none
  | _,_=>none
def yA:SC→Option Nat
  | .seq a b=>match yA a with
    | some l=>some l
    | none=>yA b
  | .label l=>some l
  | _=>none
def sk (l:Nat):Exit→Prop→Prop→Prop
  | .goto l',a,_=>l'=l∧a
  | _,_,b=>b
inductive SR where
  | tmp (t:Nat)
  | cell (t:Nat) (sz:Option Nat)
  deriving Inhabited
def sA (P:Program) (op:Op):Nat:=match op with
  | .convert s d _=>if kC P s d=true then 2 else 0
  | .call { callee:=.builtin b,.. }=>match b with
    | .min | .max | .complex | .real | .imag=>0
    | .len=>1
    | _=>2
  | .lookup ..=>1
  | .binOp .. | .unOp .. | .index ..=>0
  | _=>2
def nA (P:Program):SI→Nat
  | .aV _ | .pick .. | .eW _ | .tQ _ | .addr .. | .field .. | .idx .. | .slice .. | .ka .. | .ext .. | .len _ | .eA _ | .arith .. | .sh .. | .fT .. | .bZ .. | .not _ | .nil .. | .build .. | .sf .. | .beq .. | .mm .. | .conv .. | .vy _ | .dc _=>0
  | .load .. | .box _ | .alloc _ | .ba .. | .make .. | .iP=>1
  | .store .. | .app ..=>2
  | .old op _=>sA P op
def eK (P:Program) (quiet:Bool):SB→Nat
  | .op s=>nA P s
  | .call ..=>if quiet then 1 else 2
structure Fz where
  l:List Nat
  fr:Bool
def ry (P:Program) (fr:Bool):SI→SI
  | .load k a=>if fr then .sf k a else .load k a
  | .old (.convert s d x) ty=>if fr && toStr P s d then .vy (SX.of x) else .old (.convert s d x) ty
  | s=>s
def jj (P:Program) (fz:Fz) (o:Oper):SB:=match o.op with
  | .call { callee:=.value f,args,.. }=>.call (SX.of f) (args.toList.map SX.of)
  | .box _ x=>if (match o.dst with | some d=>fz.l.contains d | none=>false) then .op (.eW (SX.of x)) else .op (.box (SX.of x))
  | .convert s d x=>if (match o.dst with | some t=>fz.l.contains t | none=>false) && oC P s d then .op (.dc (SX.of x)) else .op (ry P fz.fr (comp P o))
  | _=>.op (ry P fz.fr (comp P o))
def oH (n:Nat) (all:List Oper) (o:Oper):Option (Option (Nat × Bool)):=match o.guard with
  | none=>some none
  | some (j,want)=>match (all[j]?).bind (·.dst) with
    | some d=>if d < n then some (some (d,want)) else none
    | none=>none
def xZ (P:Program) (n:Nat) (all:List Oper) (fz:Fz) (o:Oper):Option SO :=
  if lO n o then (oH n all o).map fun g=>⟨o.dst,g,jj P fz o⟩ else none
def bR (P:Program) (n:Nat) (all:List Oper) (fz:Fz):List Oper→Option (List SO)
  | []=>some []
  | o :: r=>match xZ P n all fz o,bR P n all fz r with
    | some s,some l=>some (s :: l)
    | _,_=>none
def SG.flat (g:SG):List SO:=g.ops.map fun (d,b)=>⟨d,g.guard,b⟩
def fP (gs:List SG):List SO:=(gs.map SG.flat).flatten
def Ch (g:Option (Nat × Bool)) (s:SO):Bool:=match g,s.guard with
  | none,none=>true
  | some (d,w),some (d',w')=>d == d' && w == w' && s.dst != some d
  | _,_=>false
def group:List SO→List SG
  | []=>[]
  | s :: r=>match group r with
    | g :: gs=>if Ch g.guard s then ⟨g.guard,(s.dst,s.b) :: g.ops⟩ :: gs else ⟨s.guard,[(s.dst,s.b)]⟩ :: g :: gs
    | []=>[⟨s.guard,[(s.dst,s.b)]⟩]
theorem Fe {g:Option (Nat × Bool)} {s:SO} (h:Ch g s=true):s.guard=g:=by
  unfold Ch at h
  split at h
  · rename_i h1; exact h1
  · rename_i d w d' w' h1
    simp at h; rw[h1,h.1.1,h.1.2]
  · simp at h
theorem dk:∀ l:List SO,fP (group l)=l
  | []=>rfl
  | s :: r=>by
    have ih:=dk r
    simp only[group]
    split
    · rename_i g gs hg
      rw[hg] at ih
      split
      · rename_i hj
        have:=Fe hj
        rw[← ih]
        cases s with
        | mk d gd b=>simp only at this; subst this; simp[fP,SG.flat]
      · rw[← ih]; simp[fP,SG.flat]
    · rename_i hg
      rw[hg] at ih
      rw[← ih]; simp[fP,SG.flat]
def vS (o:Oper):Bool:=match o.op with
  | .load ..=>true
  | _=>false
def tM (o:Oper):Bool:=match o.op with
  | .alloc _=>true
  | _=>false
def gv (o:Oper):Option Nat:=match o.op,o.guard with
  | .store _ (.tmp t) _,none=>some t
  | _,_=>none
def G4 (all:List Oper) (j k t:Nat):Bool:=match all[j]? with
  | some o=>o.dst == some t && o.guard.isNone && tM o && ((all.drop (j+1)).take (k - (j+1))).all fun o'=>o'.dst != some t
  | none=>false
def sq (all:List Oper) (i k:Nat):Bool:=match all[i]?,all[k]? with
  | some a,some b=>vS a && (match gv b with
    | some t=>(List.range k).any fun j=>decide (i < j) && G4 all j k t
    | none=>false)
  | _,_=>false
def x5 (all:List Oper) (ls:List Nat):Bool :=
  let b:=cT all []
  ls.zipIdx.all fun (x,i)=>ls.zipIdx.all fun (y,k)=>!decide (i < k) || ordered b i k || x == 0 || y == 0 || (decide (x≤1) && decide (y≤1)) || sq all i k
def l6 (o:Oper):Option Nat:=match o.op with
  | .load _ (.tmp t)=>some t
  | _=>none
def stays (all:List Oper) (i t:Nat):Bool:=(all.drop i).all fun o=>o.dst != some t
def uv (all:List Oper) (i k:Nat):Option (Nat × Nat):=match all[i]?,all[k]? with
  | some a,some b=>match l6 a,gv b with
    | some s,some t=>if stays all i s && stays all k t then some (s,t) else none
    | _,_=>match gv a,l6 b with
      | some t,some s=>if stays all i t && stays all k s then some (s,t) else none
      | _,_=>none
  | _,_=>none
def rW (all:List Oper) (x i y k:Nat):Bool:=!decide (i < k) || ordered (cT all []) i k || x == 0 || y == 0 || (decide (x≤1) && decide (y≤1)) || sq all i k
def gg (all:List Oper) (ls:List Nat):List (Nat × Nat):=ls.zipIdx.flatMap fun (x,i)=>ls.zipIdx.filterMap fun (y,k)=>if rW all x i y k then none else some (i,k)
def uN (all:List Oper):List (Nat × Nat)→Option (List (Nat × Nat))
  | []=>some []
  | (i,k) :: r=>match uv all i k,uN all r with
    | some p,some l=>some (p :: l)
    | _,_=>none
def Ej (o:Oper):Option Nat:=match o.op,o.guard with
  | .call { callee:=.builtin .append,args,.. },none=>match args.toList with
    | [.tmp t,_]=>some t
    | _=>none
  | _,_=>none
def kg (o:Oper):Option Nat:=match gv o with
  | some t=>some t
  | none=>Ej o
def yu (o:Oper):Bool:=match o.op with
  | .buildSlice ..=>true
  | .alloc _=>true
  | _=>false
def newAt (all:List Oper) (k:Nat):Bool:=match all[k]? with
  | some b=>yu b
  | none=>false
def vX (all:List Oper) (i k:Nat):Option (Nat × Nat):=match all[i]?,all[k]? with
  | some a,some b=>match l6 a,kg b with
    | some s,some t=>if stays all i s && stays all k t then some (s,t) else none
    | _,_=>match kg a,l6 b with
      | some t,some s=>if stays all i t && stays all k s then some (s,t) else none
      | _,_=>none
  | _,_=>none
def xX (all:List Oper) (ls:List Nat) (i k:Nat):Option (Nat × Nat × Nat):=match all[i]?,all[k]? with
  | some a,some b=>match a.op,b.op,a.guard,b.guard with
    | .lookup t (.tmp m) (.tmp q) false,.mapEntry t' (.tmp m') (.tmp q'),none,none =>
      if t == t' && m == m' && q == q' && stays all i m && stays all i q && stays all k m && stays all k q && decide (i < k) && (List.range k).all fun j=>decide (ls.getD j 2≤1) then some (t,m,q) else none
    | _,_,_,_=>none
  | _,_=>none
def xT (all:List Oper) (ls:List Nat) (tp:Option (Nat × Nat)):List (Nat × Nat):=(gg all ls).filter fun p=>!newAt all p.2 && tp != some p
def sn (o:Oper):Option (Nat × Nat × Nat):=match o.op,o.guard,o.dst with
  | .call { callee:=.builtin .append,args,.. },none,some d=>match args.toList with
    | [.tmp t,.tmp y]=>some (t,y,d)
    | _=>none
  | _,_,_=>none
def wg (all:List Oper) (i k:Nat):Option (List (Nat × Nat)):=match all[i]?,all[k]? with
  | some a,some b=>match sn a,sn b with
    | some (t,y,d),some (t',y',_)=>if stays all i t && stays all i y && stays all (i+1) d && stays all k t' && stays all k y' then some [(t,t'),(t,y'),(t',y),(d,t')] else none
    | _,_=>none
  | _,_=>none
def sB (all:List Oper) (i k:Nat):Option (List (Nat × Nat)):=match vX all i k with
  | some p=>some [p]
  | none=>wg all i k
def oE (all:List Oper):List (Nat × Nat)→Option (List (Nat × Nat))
  | []=>some []
  | (i,k) :: r=>match sB all i k,oE all r with
    | some p,some l=>some (p ++ l)
    | _,_=>none
def m8 (g:SG):Bool:=match g.guard with
  | none=>true
  | some (d,_)=>g.ops.all fun x=>x.1 != some d
def m4 (P:Program) (n:Nat) (fz:Fz) (ops:List Oper) (draw quiet:Bool):Option SC:=match bR P n ops fz ops with
  | none=>none
  | some l=>if !(group l).all m8 then none else
    if draw then (if hG ops && x5 ops (l.map fun s=>eK P quiet s.b) then some (.region quiet (group l)) else none)
    else some (.region quiet (group l))
def uR (P:Program) (n:Nat) (fz:Fz) (ops:List Oper):Option SC:=match bR P n ops fz ops with
  | none=>none
  | some l=>if !(group l).all m8 then none else
    if hG ops then (uN ops (gg ops (l.map fun s=>eK P false s.b))).map fun aps=>.sC aps (group l) else none
def Gw (all:List Oper) (ls:List Nat):Option (Nat × Nat):=(gg all ls).find? fun p=>(xX all ls p.1 p.2).isSome
def ur (P:Program) (n:Nat) (fz:Fz) (ops:List Oper):Option SC:=match bR P n ops fz ops with
  | none=>none
  | some l=>if !(group l).all m8 then none else
    if hG ops then
      (match Gw ops (l.map fun s=>eK P false s.b) with
      | none=>(oE ops (xT ops (l.map fun s=>eK P false s.b) none)).map fun aps=>.sC aps (group l)
      | some p=>match xX ops (l.map fun s=>eK P false s.b) p.1 p.2 with
        | some tol=>(oE ops (xT ops (l.map fun s=>eK P false s.b) (some p))).map fun aps=>.vF tol aps (group l)
        | none=>none)
    else none
def HB:Nat:=100000
def orElse':Option SC→Option SC→Option SC
  | some x,_=>some x
  | none,y=>y
def ui (P:Program) (n:Nat) (fz:List Nat) (ops:List Oper) (draw:Bool):Option SC :=
  orElse' (m4 P n ⟨fz,false⟩ ops draw false) (if draw then orElse' (if fz.contains HB then ur P n ⟨fz,false⟩ ops else none) <| orElse' (uR P n ⟨fz,false⟩ ops) (orElse' (m4 P n ⟨fz,false⟩ ops true true) (orElse' (m4 P n ⟨fz,true⟩ ops true false) (m4 P n ⟨fz,true⟩ ops true true))) else none)
def bC (P:Program) (n:Nat) (fz:List Nat):Code→Option SC
  | .skip=>some .skip
  | .region _ ops draw=>ui P n fz ops.toList draw
  | .seq x y=>match bC P n fz x,bC P n fz y with
    | some a,some b=>some (.seq a b)
    | _,_=>none
  | .cond c x y=>match bC P n fz x,bC P n fz y with
    | some a,some b=>some (.cond (SX.of c) a b)
    | _,_=>none
  | .block id c=>(bC P n fz c).map (.block id)
  | .loop c=>(bC P n fz c).map .loop
  | .exit id=>some (.exit id)
  | .ret=>some .ret
  | .scope c=>match bC P n fz c with
    | some sc=>match yA sc with
      | some l=>(jb sc l).map fun r=>.scope l sc r
      | none=>none
    | none=>none
  | .label l=>some (.label l)
  | .goto l=>some (.goto l)
  | _=>none
def eE (h h':ay):Prop:=∀ id,id < h.length→h.view id=.dead→h'.view id=.dead
theorem eE.refl (h:ay):eE h h:=fun _ _ e=>e
theorem eE.trans {a b c:ay} (h:eE a b) (k:eE b c) (hl:a.length≤b.length):eE a c:=fun id hid e=>k id (Nat.lt_of_lt_of_le hid hl) (h id hid e)
def aD (P:Program) (f:FuncId) (vs:List V) (H:View) (K:V→View→Prop):Prop :=
  bO P f=true∧∀ h:ay,h.view=H→∃ r h',bk P f vs h r h'∧eE h h'∧K r h'.view
def xY (P:Program) (f:FuncId) (vs:List V) (H:View) (K:V→View→Prop):Prop :=
  bO P f=true∧∀ h:ay,h.view=H→∃ r h',bk P f vs h r h'∧(∀ id,id < h.length→h'.view id=h.view id)∧K r h'.view
def fk (sz:Option Nat) (e:List V) (j:Nat) (K:V→Prop):Prop:=match sz with
  | some n=>j+n≤e.length∧K (.agg ((e.drop j).take n))
  | none=>j < e.length∧K (e.getD j .any)
def wI (P:Program) (s:SI) (T:Env) (H:View) (K:V→View→Prop):Prop:=match s with
  | .aV x=>K (x.at T) H
  | .pick c a b=>match c.at T with
    | .val (.bool t)=>K (if t then a.at T else b.at T) H
    | _=>False
  | .box x=>(x.at T).cells.all aP=true∧∀ n,H n=.dead→K (.ptr n 0 0) (H.set n (.arr (x.at T).cells.length [(x.at T).cells]))
  | .eW x=>(x.at T).cells.all aP=true∧K (.aQ (x.at T).cells 0) H
  | .alloc z=>z.all aP=true∧∀ n,H n=.dead→K (.ptr n 0 0) (H.set n (.arr z.length [z]))
  | .load sz a=>match a.at T with
    | .ptr id i j=>match H id with
      | .arr _ es=>i < es.length∧fk sz (es.getD i []) j fun v=>K v H
      | _=>False
    | .aQ e j=>fk sz e j fun v=>K v H
    | _=>False
  | .sf sz a=>match a.at T with
    | .aQ e j=>fk sz e j fun v=>K v H
    | _=>False
  | .store sz a x=>match a.at T with
    | .ptr id i j=>match H id with
      | .arr esz es=>(i < es.length∧(x.at T).cells.length=sz∧j+(x.at T).cells.length≤esz∧(x.at T).cells.all aP=true) ∧
          K .any (H.set id (.arr esz (es.set i (ab (es.getD i []) j (x.at T).cells))))
      | _=>False
    | _=>False
  | .tQ x=>match x.at T with
    | .ptr id i j=>K (.ptr id i j) H
    | .aQ e j=>K (.aQ e j) H
    | .fn f a b=>K (.fn f a b) H
    | _=>False
  | .addr off x=>match x.at T with
    | .ptr id i j=>K (.ptr id i (j+off)) H
    | .aQ e j=>K (.aQ e (j+off)) H
    | _=>False
  | .field off sz x=>match x.at T with
    | .agg cs=>fk sz cs off fun v=>K v H
    | _=>False
  | .idx sz x i=>match asNat (i.at T) with
    | none=>False
    | some q=>match x.at T with
      | .sl id off len esz=>(q < len∧esz=sz)∧K (.ptr id (off+q) 0) H
      | .aS es=>∃ e,es[q]?=some e∧e.length=sz∧K (.aQ e 0) H
      | _=>False
  | .ka f first cap=>K (.fn f (first.map (SX.at T)) (cap.map (SX.at T))) H
  | .iP=>∀ n,H n=.dead→K (.mp n) (H.set n (.map [] 0))
  | .ext i x=>match x.at T with
    | .bc vs=>i < vs.length∧K (vs.getD i .any) H
    | _=>False
  | .len x=>match dF (x.at T) with
    | some n=>K (an n) H
    | none=>False
  | .eA x=>match x.at T with
    | .val (.string s)=>K (an s.size) H
    | _=>False
  | .arith op x y=>match x.at T,y.at T with
    | .val (.int k a),.val (.int k' b)=>k=k'∧(match ah op k a b with | some v=>K (.val v) H | none=>False)
    | _,_=>False
  | .fT op x y=>match x.at T,y.at T with
    | .val (.string a),.val (.string b)=>(match op with
      | .eql=>K (.val (.bool (ey a b))) H
      | .neq=>K (.val (.bool (!ey a b))) H
      | _=>False)
    | _,_=>False
  | .bZ x i=>match x.at T,asNat (i.at T) with
    | .val (.string s),some q=>∃ b,s.data.toList[q]?=some b∧K (.val (.int .u8 b.toNat)) H
    | _,_=>False
  | .not x=>match x.at T with
    | .val (.bool t)=>K (.val (.bool (!t))) H
    | _=>False
  | .nil eq k x y=>match aj (isNil k (x.at T)) (isNil k (y.at T)) with
    | some b=>K (.val (.bool (if eq then b else !b))) H
    | none=>False
  | .beq eq x y=>match x.at T,y.at T with
    | .val (.bool a),.val (.bool b)=>K (.val (.bool (if eq then a == b else a != b))) H
    | _,_=>False
  | .mm mx x y=>match x.at T,y.at T with
    | .val (.int k a),.val (.int _ b)=>K (.val (.int k (if mx then (if b > a then b else a) else (if b < a then b else a)))) H
    | _,_=>False
  | .conv k x=>match x.at T with
    | .val (.int _ a)=>K (.val (.int k (k.wrap a))) H
    | _=>False
  | .sh l x y=>match x.at T,y.at T with
    | .val (.int k a),.val (.int _ b)=>0≤b∧K (.val (.int k (CG l k a b))) H
    | _,_=>False
  | .build z parts=>match ae z (parts.map fun (a,b,x)=>(a,b,x.at T)) with
    | some cs=>K (.agg cs) H
    | none=>False
  | .ba len sz z parts=>match ag sz (List.replicate len z) (parts.map fun (i,x)=>(i,x.at T)) with
    | some es=>∀ n,H n=.dead→K (.sl n 0 len sz) (H.set n (.arr sz es))
    | none=>False
  | .slice sz x lo hi=>match oy sz (x.at T) (lo.map (SX.at T)) (hi.map (SX.at T)) with
    | some (v,.none,_)=>K v H
    | _=>False
  | .make sz bytes z l c=>match asNat (l.at T),asNat (c.at T) with
    | some l,some c=>(l≤c∧c < aW∧bytes * c < aW)∧(c=0→K (.emp 2) H)∧(c≠0→∀ n,H n=.dead→K (.sl n 0 l sz) (H.set n (.arr sz (List.replicate l z))))
    | _,_=>False
  | .app sz bytes x y=>match bF H (y.at T) with
    | some (xs,_)=>if xs.isEmpty=true then (match x.at T with
        | .emp k=>K (.emp k) H
        | .cn=>K .cn H
        | .aS es=>K (.aS es) H
        | .sl a b c d=>K (.sl a b c d) H
        | _=>False)
      else (xs.all fun e=>e.length == sz && e.all aP)=true∧(match x.at T with
        | .emp _=>(xs.length * bytes < aW∧xs.length < aW)∧∀ n,H n=.dead→K (.sl n 0 xs.length sz) (H.set n (.arr sz xs))
        | .sl id off len esz=>match H id with
          | .arr _ es=>(off+len≤es.length∧esz=sz∧(len+xs.length) * bytes < aW∧len+xs.length < aW) ∧
              ∀ n,H n=.dead→K (.sl n 0 (len+xs.length) esz) ((H.set id .dead).set n (.arr esz ((es.drop off).take len ++ xs)))
          | _=>False
        | _=>False)
    | none=>False
  | .vy x=>match x.at T with
    | .aS es=>(match kO es with
      | some l=>K (.val (.string ⟨l.toArray⟩)) H
      | none=>False)
    | _=>False
  | .dc x=>match x.at T with
    | .val (.string s)=>K (.aS (dq s)) H
    | _=>False
  | s=>∀ n,H n=.dead→∃ v av rd,sI P s T H n=some (v,av,rd)∧K v (av.view H n)
def wB (P:Program) (quiet:Bool) (b:SB) (T:Env) (H:View) (K:V→View→Prop):Prop:=match b with
  | .op s=>wI P s T H K
  | .call f args=>match f.at T with
    | .fn g first cap=>if quiet then xY P g (first ++ args.map (SX.at T) ++ cap) H K else aD P g (first ++ args.map (SX.at T) ++ cap) H K
    | _=>False
def rm (P:Program) (quiet:Bool):List (Option Nat × SB)→Env→View→(Env→View→Prop)→Prop
  | [],T,H,K=>K T H
  | (d,b) :: r,T,H,K=>wB P quiet b T H fun v H'=>rm P quiet r (T.put d v) H' K
def ej:List (Option Nat × SB)→Env→Env
  | [],T=>T
  | (d,_) :: r,T=>ej r (T.put d (.bc []))
def wG (P:Program) (quiet:Bool) (g:SG) (T:Env) (H:View) (K:Env→View→Prop):Prop:=match g.guard with
  | none=>rm P quiet g.ops T H K
  | some (d,want)=>match T d with
    | .val (.bool b)=>(b=want→rm P quiet g.ops (T.put (some d) (.val (.bool want))) H K)∧(b = !want→K (ej g.ops (T.put (some d) (.val (.bool (!want))))) H)
    | .bc []=>K (ej g.ops T) H
    | _=>False
def qu (P:Program) (quiet:Bool):List SG→Env→View→(Env→View→Prop)→Prop
  | [],T,H,K=>K T H
  | g :: r,T,H,K=>wG P quiet g T H fun T' H'=>qu P quiet r T' H' K
def nu (c:SX) (b:Bool) (T:Env):Env:=match c with
  | .tmp t=>T.put (some t) (.val (.bool b))
  | _=>T
def sU:Exit→Prop→Prop→Prop
  | .normal,a,_=>a
  | _,_,b=>b
def ep (a b:V):Prop:=match a,b with
  | .ptr i _ _,.ptr j _ _=>i≠j
  | .ptr i _ _,.sl j _ _ _=>i≠j
  | .ptr _ _ _,.emp _=>True
  | .ptr _ _ _,.cn=>True
  | .ptr _ _ _,.aS _=>True
  | .aQ _ _,_=>True
  | .sl i _ _ _,.sl j _ _ _=>i≠j
  | .sl _ _ _ _,.emp _=>True
  | .sl _ _ _ _,.cn=>True
  | .sl _ _ _ _,.aS _=>True
  | .emp _,_=>True
  | .cn,_=>True
  | .aS _,_=>True
  | _,_=>False
def BR (P:Program) (t:TypeId) (m q:V) (H:View):Prop:=match m with
  | .mp id=>(∃ es c,H id=.map es c)∧∀ v obj rd,cK P t (.mp id) q H=some (v,.dH id obj,rd)→de P t (.mp id) q false (H.set id obj)=de P t (.mp id) q false H
  | _=>False
def rH:List (Nat × Nat)→Env→Prop→Prop
  | [],_,K=>K
  | p :: l,T,K=>ep (T p.1) (T p.2)∧rH l T K
def wS (P:Program):SC→Env→View→(Exit→Env→View→Prop)→Prop
  | .skip,T,H,Q=>Q .normal T H
  | .region quiet gs,T,H,Q=>qu P quiet gs T H (Q .normal)
  | .sC aps gs,T,H,Q=>qu P false gs T H fun T' H'=>rH aps T' (Q .normal T' H')
  | .vF tol aps gs,T,H,Q=>qu P false gs T H fun T' H'=>BR P tol.1 (T' tol.2.1) (T' tol.2.2) H∧rH aps T' (Q .normal T' H')
  | .seq x y,T,H,Q=>wS P x T H fun e T' H'=>sU e (wS P y T' H' Q) (Q e T' H')
  | .cond c x y,T,H,Q=>match c.at T with
    | .val (.bool b)=>(b=true→wS P x (nu c true T) H Q)∧(b=false→wS P y (nu c false T) H Q)
    | _=>False
  | .block id c,T,H,Q=>wS P c T H fun e=>Q (kn id e)
  | .loop c,T,H,Q=>∃ I:Nat→Env→View→Prop,(∃ k,I k T H)∧∀ k T H,I k T H→wS P c T H fun e T' H'=>sU e (∃ k',k' < k∧I k' T' H') (Q e T' H')
  | .exit id,T,H,Q=>Q (.exit id) T H
  | .ret,T,H,Q=>Q .ret T H
  | .scope l c r,T,H,Q=>∃ (I:Nat→Env→View→Prop) (K:Nat),wS P c T H (fun e T' H'=>sk l e (∃ k,k < K∧I k T' H') (Q e T' H'))∧∀ k T H,I k T H→wS P r T H fun e T' H'=>sk l e (∃ k',k' < k∧I k' T' H') (Q e T' H')
  | .label _,T,H,Q=>Q .normal T H
  | .goto l,T,H,Q=>Q (.goto l) T H
def wR (T:Env) (H:View) (r:SR) (K:V→Prop):Prop:=match r with
  | .tmp t=>K (T t)
  | .cell t sz=>match T t with
    | .ptr id i j=>match H id with
      | .arr _ es=>i < es.length∧fk sz (es.getD i []) j K
      | _=>False
    | .aQ e j=>fk sz e j K
    | _=>False
def uD (T:Env) (H:View):List SR→List V→(List V→Prop)→Prop
  | [],acc,K=>K acc
  | r :: l,acc,K=>wR T H r fun v=>uD T H l (acc ++ [v]) K
def ai:List V→V
  | [v]=>v
  | vs=>.bc vs
def cX (P:Program):List ResultVar→Option (List SR)
  | []=>some []
  | .tmp t :: r=>(cX P r).map (.tmp t :: ·)
  | .cell a t :: r=>match vp P t,cX P r with
    | some k,some l=>some (.cell a k :: l)
    | _,_=>none
structure SF where
  code:SC
  res:List SR
  n:Nat
abbrev aa (a b:Nat):Option Nat × SB:=(some a,.op (.aV (.tmp b)))
abbrev ax (a:Nat) (n:Int):Option Nat × SB:=(some a,.op (.aV (.val (.val (.int .i64 n)))))
abbrev aM (a:Nat) (n:Bool):Option Nat × SB:=(some a,.op (.aV (.val (.val (.bool n)))))
abbrev ak (a b:Nat):Option Nat × SB:=(some a,.op (.load none (.tmp b)))
abbrev aG (a k b:Nat):Option Nat × SB:=(some a,.op (.load (some k) (.tmp b)))
abbrev al (a k b:Nat):Option Nat × SB:=(some a,.op (.addr k (.tmp b)))
abbrev aI (a k b c:Nat):Option Nat × SB:=(some a,.op (.idx k (.tmp b) (.tmp c)))
abbrev aT (a b c:Nat):Option Nat × SB:=(some a,.op (.pick (.tmp b) (.val (.val (.bool true))) (.tmp c)))
abbrev bf (a b c:Nat):Option Nat × SB:=(some a,.op (.pick (.tmp b) (.tmp c) (.val (.val (.bool false)))))
abbrev aF (a:Nat) (o:BinOp) (b c:Nat):Option Nat × SB:=(some a,.op (.arith o (.tmp b) (.tmp c)))
abbrev aq (a:Nat) (o:BinOp) (b:Nat) (n:Int):Option Nat × SB:=(some a,.op (.arith o (.tmp b) (.val (.val (.int .i64 n)))))
abbrev aH (a b:Nat):Option Nat × SB:=(some a,.op (.len (.tmp b)))
abbrev bA (a k b:Nat):Option Nat × SB:=(some a,.op (.ext k (.tmp b)))
abbrev bB (a b:Nat):Option Nat × SB:=(some a,.op (.not (.tmp b)))
abbrev bu (a b:Nat):Option Nat × SB:=(some a,.op (.eW (.tmp b)))
abbrev aO (a b:Nat):Option Nat × SB:=(some a,.op (.tQ (.tmp b)))
abbrev bS (a f:Nat) (l:List SX):Option Nat × SB:=(some a,.call (.val (.fn f [] [])) l)
abbrev aB (a f:Nat) (l:List Nat):Option Nat × SB:=(some a,.call (.val (.fn f [] [])) (l.map .tmp))
abbrev ao (l:List (Option Nat × SB)):SC:=.region false [⟨none,l⟩]
def bb (P:Program) (f:FuncId) (fz:List Nat):Option SF:=match P.funcs[f]? with
  | some fn=>match fn.body with
    | some c=>match bC P fn.ntmps fz c,cX P fn.results.toList,bO P f with
      | some sc,some rs,true=>some ⟨sc,rs,fn.ntmps⟩
      | _,_,_=>none
    | none=>none
  | none=>none
theorem kc {sz:Option Nat} {e:List V} {j:Nat} {K:V→Prop} (h:fk sz e j K):∃ v,ib sz e j=some v∧K v:=by
  cases sz with
  | none=>exact ⟨_,by simp only[ib]; rw[if_pos h.1],h.2⟩
  | some n=>exact ⟨_,by simp only[ib]; rw[if_pos h.1],h.2⟩
theorem Hz {P:Program} {s:SI} {T:Env} {H:View} {K:V→View→Prop} (h:wI P s T H K) {n:Nat} (hn:H n=.dead) :
    ∃ v av rd,sI P s T H n=some (v,av,rd)∧K v (av.view H n):=by
  unfold wI at h
  split at h
  · exact ⟨_,_,_,rfl,h⟩
  · split at h
    · rename_i t ht; exact ⟨_,_,_,by simp only[sI,ht]; rfl,h⟩
    · exact h.elim
  · exact ⟨_,_,_,by simp only[sI,gV]; rw[if_pos h.1],h.2 n hn⟩
  · exact ⟨_,_,_,by simp only[sI]; rw[if_pos h.1],h.2⟩
  · exact ⟨_,_,_,by simp only[sI,gV]; rw[if_pos h.1],h.2 n hn⟩
  · split at h
    · rename_i id i j ha
      split at h
      · rename_i es hH
        obtain ⟨h1,h2⟩:=h
        obtain ⟨v,hv,hk⟩:=kc h2
        exact ⟨_,_,_,by simp only[sI,pV,ha,hH]; rw[if_pos h1,hv]; rfl,hk⟩
      · exact h.elim
    · rename_i e j ha
      obtain ⟨v,hv,hk⟩:=kc h
      exact ⟨_,_,_,by simp only[sI,pV,ha]; rw[hv]; rfl,hk⟩
    · exact h.elim
  · split at h
    · rename_i e j ha
      obtain ⟨v,hv,hk⟩:=kc h
      exact ⟨_,_,_,by simp only[sI,ha]; rw[hv]; rfl,hk⟩
    · exact h.elim
  · split at h
    · rename_i id i j ha
      split at h
      · rename_i esz es hH
        exact ⟨_,_,_,by simp only[sI,tY,ha,hH]; rw[if_pos h.1],h.2⟩
      · exact h.elim
    · exact h.elim
  · split at h
    · rename_i hx; exact ⟨_,_,_,by simp only[sI,hx]; rfl,h⟩
    · rename_i hx; exact ⟨_,_,_,by simp only[sI,hx]; rfl,h⟩
    · rename_i hx; exact ⟨_,_,_,by simp only[sI,hx]; rfl,h⟩
    · exact h.elim
  · split at h
    · rename_i hx; exact ⟨_,_,_,by simp only[sI,sr,hx]; rfl,h⟩
    · rename_i hx; exact ⟨_,_,_,by simp only[sI,sr,hx]; rfl,h⟩
    · exact h.elim
  · split at h
    · rename_i cs hx
      obtain ⟨v,hv,hk⟩:=kc h
      exact ⟨_,_,_,by simp only[sI,hx,hv]; rfl,hk⟩
    · exact h.elim
  · split at h
    · exact h.elim
    · rename_i q hq
      split at h
      · rename_i hx; exact ⟨_,_,_,by simp only[sI,vW,hq,hx]; rw[if_pos h.1],h.2⟩
      · rename_i es hx
        obtain ⟨e,he,hl,hk⟩:=h
        have hlt:q < es.length:=(List.getElem?_eq_some_iff.1 he).1
        have hge:es.getD q []=e:=by simp[List.getD_eq_getElem?_getD,he]
        exact ⟨_,_,_,by simp only[sI,vW,hq,hx]; rw[hge,if_pos ⟨hlt,hl⟩],hk⟩
      · exact h.elim
  · exact ⟨_,_,_,rfl,h⟩
  · exact ⟨_,_,_,rfl,h n hn⟩
  · split at h
    · rename_i vs hx; exact ⟨_,_,_,by simp only[sI,hx]; rw[if_pos h.1],h.2⟩
    · exact h.elim
  · split at h
    · rename_i m hx; exact ⟨_,_,_,by simp only[sI,hx]; rfl,h⟩
    · exact h.elim
  · split at h
    · rename_i s hx; exact ⟨_,_,_,by simp only[sI,hx]; rfl,h⟩
    · exact h.elim
  · split at h
    · rename_i k a k' b hx hy
      obtain ⟨rfl,h⟩:=h
      split at h
      · rename_i v hv; exact ⟨_,_,_,by simp only[sI,r9,hx,hy,if_true,hv]; rfl,h⟩
      · exact h.elim
    · exact h.elim
  · split at h
    · rename_i a b hx hy
      split at h
      · exact ⟨_,_,_,by simp only[sI,tN,hx,hy]; rfl,h⟩
      · exact ⟨_,_,_,by simp only[sI,tN,hx,hy]; rfl,h⟩
      · exact h.elim
    · exact h.elim
  · split at h
    · rename_i s q hx hq
      obtain ⟨b,hb,hk⟩:=h
      exact ⟨_,_,_,by simp only[sI,u5,hx,hq,hb]; rfl,hk⟩
    · exact h.elim
  · split at h
    · rename_i t hx; exact ⟨_,_,_,by simp only[sI,hx]; rfl,h⟩
    · exact h.elim
  · split at h
    · rename_i b hb; exact ⟨_,_,_,by simp only[sI,hb]; rfl,h⟩
    · exact h.elim
  · split at h
    · rename_i hx hy; exact ⟨_,_,_,by simp only[sI,hx,hy]; rfl,h⟩
    · exact h.elim
  · split at h
    · rename_i hx hy; exact ⟨_,_,_,by simp only[sI,hx,hy]; rfl,h⟩
    · exact h.elim
  · split at h
    · rename_i hx; exact ⟨_,_,_,by simp only[sI,hx]; rfl,h⟩
    · exact h.elim
  · split at h
    · rename_i hx hy; exact ⟨_,_,_,by simp only[sI,DS,hx,hy]; rw[if_neg (by omega)],h.2⟩
    · exact h.elim
  · split at h
    · rename_i cs hb; exact ⟨_,_,_,by simp only[sI,hb]; rfl,h⟩
    · exact h.elim
  · split at h
    · rename_i es hb; exact ⟨_,_,_,by simp only[sI,sy,hb]; rfl,h n hn⟩
    · exact h.elim
  · split at h
    · rename_i v rd hb; exact ⟨_,_,_,by simp only[sI,hb]; rfl,h⟩
    · exact h.elim
  · split at h
    · rename_i l c hl hc
      obtain ⟨h1,h2,h3⟩:=h
      by_cases e:c=0
      · exact ⟨.emp 2,.none,[],by simp only[sI,um,hl,hc]; rw[if_pos h1,if_pos e],h2 e⟩
      · exact ⟨_,_,_,by simp only[sI,um,hl,hc]; rw[if_pos h1,if_neg e],h3 e n hn⟩
    · exact h.elim
  · split at h
    · rename_i xs rd hel
      split at h
      · rename_i he
        split at h
        all_goals first
          | (rename_i hx; exact ⟨_,_,_,by simp only[sI,yj,hel]; rw[if_pos he,hx],h⟩)
          | exact h.elim
      · rename_i he
        obtain ⟨h1,h2⟩:=h
        split at h2
        · rename_i hx
          exact ⟨_,_,_,by simp only[sI,yj,hel]; rw[if_neg he,if_neg (by rw[h1]; simp),hx]; simp only; rw[if_pos h2.1],h2.2 n hn⟩
        · rename_i id off len esz hx
          split at h2
          · rename_i z es hH
            exact ⟨_,_,_,by simp only[sI,yj,hel]; rw[if_neg he,if_neg (by rw[h1]; simp),hx]; simp only[hH]; rw[if_pos h2.1],h2.2 n hn⟩
          · exact h2.elim
        · exact h2.elim
    · exact h.elim
  · split at h
    · rename_i hx
      split at h
      · rename_i l hl; exact ⟨_,_,_,by simp only[sI,hx,hl]; rfl,h⟩
      · exact h.elim
    · exact h.elim
  · split at h
    · rename_i hx; exact ⟨_,_,_,by simp only[sI,hx]; rfl,h⟩
    · exact h.elim
  · exact h n hn
def gx (k:Nat) (rd wr:List Nat) (call:Bool) (n n':Nat):Prop :=
  (k=0→rd=[]∧wr=[]∧call=false∧n'=n)∧(k≤1→wr=[])
theorem FT {k:Nat} (h:k=2) {rd wr:List Nat} {call:Bool} {n n':Nat} : gx k rd wr call n n':=⟨fun h'=>by omega,fun h'=>by omega⟩
theorem kM {P:Program} {o:Oper} {T:Env} {v:V} {av:aN} {rd:List Nat} (h:bY P o T=some (v,av,rd)):av=.none∧rd=[]:=by
  unfold bY at h
  split at h
  · split at h
    · split at h
      · simp at h; exact ⟨h.2.1.symm,h.2.2⟩
      · simp at h
    · simp at h
  · simp at h
theorem EX {P:Program} {o:Oper} {T:Env} {H:View} {n:Nat} {v:V} {av:aN} {rd:List Nat} (h:bm P o T H n=some (v,av,rd)) :
    (sA P o.op=0→av=.none∧rd=[])∧(sA P o.op=1→av.wr=[]):=by
  unfold sA
  split
  · rename_i s d x ho
    simp only[bm,ho] at h
    split
    · exact ⟨fun h=>by simp at h,fun h=>by simp at h⟩
    · rename_i hb
      rw[if_neg hb] at h
      exact ⟨fun _=>kM h,fun h=>by simp at h⟩
  · rename_i b args ats ho
    simp only[bm,ho] at h
    split
    any_goals exact ⟨fun _=>kM h,fun h=>by simp at h⟩
    · refine ⟨fun h=>by simp at h,fun _=>?_⟩
      split at h
      · rename_i hargs
        split at h
        · simp only[nO] at h
          have nn:∀ {v':V} {r:List Nat},some (v',aN.none,r)=some (v,av,rd)→av.wr=[]:=fun e=>by
            simp only[Option.some.injEq,Prod.mk.injEq] at e; rw[← e.2.1]; rfl
          split at h
          · simp only[Option.map_eq_some_iff] at h
            obtain ⟨_,_,h⟩:=h
            exact nn (congrArg some h)
          · split at h
            · split at h
              · exact nn h
              · simp at h
            · exact nn h
            · simp at h
          · split at h
            · exact nn h
            · simp at h
          · exact nn h
          · simp at h
        · simp at h
      any_goals simp at h
      all_goals contradiction
    · exact ⟨fun h=>by simp at h,fun h=>by simp at h⟩
  · rename_i t m k ok ho
    refine ⟨fun h=>by simp at h,fun _=>?_⟩
    simp only[bm,ho,de] at h
    have nn:∀ {v':V} {r:List Nat},some (v',aN.none,r)=some (v,av,rd)→av.wr=[]:=fun e=>by
      simp only[Option.some.injEq,Prod.mk.injEq] at e; rw[← e.2.1]; rfl
    split at h
    · simp at h
    · split at h
      · simp at h
      · split at h
        · split at h
          · split at h
            · split at h
              · exact nn h
              · simp at h
            · exact nn h
            · simp at h
          · simp at h
        · simp at h
  · rename_i op t x y u ho
    refine ⟨fun _=>?_,fun h=>by simp at h⟩
    simp only[bm,ho] at h
    split at h
    · split at h
      · simp at h; exact ⟨h.2.1.symm,h.2.2⟩
      · simp at h; exact ⟨h.2.1.symm,h.2.2⟩
      · simp at h
    · exact kM h
  · rename_i op t x ho
    exact ⟨fun _=>kM (by simpa only [bm,ho] using h),fun h=>by simp at h⟩
  · rename_i t x i ho
    exact ⟨fun _=>kM (by simpa only [bm,ho] using h),fun h=>by simp at h⟩
  · exact ⟨fun h=>by simp at h,fun h=>by simp at h⟩
theorem ma {P:Program} {s:SI} {T:Env} {H:View} {n:Nat} {v:V} {av:aN} {rd:List Nat} (h:sI P s T H n=some (v,av,rd)) :
    (nA P s=0→av=.none∧rd=[])∧(nA P s=1→av.wr=[]):=by
  have nn:∀ {v':V},some (v',aN.none,([]:List Nat))=some (v,av,rd)→av=.none∧rd=[]:=fun e=>by
    simp only[Option.some.injEq,Prod.mk.injEq] at e; exact ⟨e.2.1.symm,e.2.2.symm⟩
  have mp:∀ {α:Type} {x:Option α} {f:α→V},(x.map fun a=>(f a,aN.none,([]:List Nat)))=some (v,av,rd)→av=.none∧rd=[]:=by
    intro α x f h
    simp only[Option.map_eq_some_iff] at h
    obtain ⟨a,_,h⟩:=h
    simp only[Prod.mk.injEq] at h; exact ⟨h.2.1.symm,h.2.2.symm⟩
  have nw:∀ {v':V} {o:cR} {r:List Nat},some (v',aN.new o,r)=some (v,av,rd)→av.wr=[]:=fun e=>by
    simp only[Option.some.injEq,Prod.mk.injEq] at e; rw[← e.2.1]; rfl
  have n1:∀ {v':V} {r:List Nat},some (v',aN.none,r)=some (v,av,rd)→av.wr=[]:=fun e=>by
    simp only[Option.some.injEq,Prod.mk.injEq] at e; rw[← e.2.1]; rfl
  unfold nA
  cases s <;> simp only[sI] at h
  case old op ty=>exact EX (o:=oper op ty) h
  all_goals
    constructor <;> intro hk <;> first
      | (exfalso; revert hk; simp; done)
      | skip
  all_goals try simp only[pV,gV,sr,vW,oy,um,sy,r9,DS,tN,u5] at h
  all_goals first
    | exact nn h
    | exact mp h
    | exact nw h
    | exact n1 h
    | skip
  all_goals repeat' (split at h)
  all_goals first
    | exact nn h
    | exact mp h
    | exact nw h
    | exact n1 h
    | (simp at h; done)
    | (simp only[Option.map_eq_some_iff,Prod.mk.injEq] at h; obtain ⟨_,_,_,rfl,_⟩:=h; rfl)
end Gv
