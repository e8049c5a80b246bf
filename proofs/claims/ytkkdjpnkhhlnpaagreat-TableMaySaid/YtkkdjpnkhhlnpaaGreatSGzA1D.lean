/-
  Part 4 of the proof: what the machine does and what the functions answer.
  Conditions: those that each lemma names.
-/
import Derived.Test.YtkkdjpnkhhlnpaaGreatSGzA1C
set_option linter.unusedSimpArgs false
set_option linter.unusedVariables false
set_option maxRecDepth 100000
namespace Gv
open Go
inductive SX where
  | tmp (t:Nat)
  | val (v:V)
  deriving Inhabited
def SX.of:Operand→SX
  | .tmp t=>.tmp t
  | .const v=>.val (dO v)
  | .global _=>.val .any
  | .func f=>.val (.fn f [] [])
def SX.at (T:Env):SX→V
  | .tmp t=>T t
  | .val v=>v
theorem SX.bz (T:Env) (x:Operand):(SX.of x).at T=ev T x:=by cases x <;> rfl
inductive SI where
  | aW (x:SX)
  | pick (c a b:SX)
  | box (x:SX)
  | eX (x:SX)
  | alloc (z:List V)
  | build (z:List V) (parts:List (Nat × Nat × SX))
  | bf (len sz:Nat) (z:List V) (parts:List (Nat × SX))
  | load (sz:Option Nat) (a:SX)
  | sM (sz:Option Nat) (a:SX)
  | store (sz:Nat) (a x:SX)
  | ux (x:SX)
  | addr (off:Nat) (x:SX)
  | field (off:Nat) (sz:Option Nat) (x:SX)
  | idx (sz:Nat) (x i:SX)
  | slice (sz:Nat) (x:SX) (lo hi:Option SX)
  | make (sz bytes:Nat) (z:List V) (l c:SX)
  | ju
  | iA (f:FuncId) (first cap:List SX)
  | ext (i:Nat) (x:SX)
  | len (x:SX)
  | eL (x:SX)
  | app (sz bytes:Nat) (x y:SX)
  | arith (op:BinOp) (x y:SX)
  | sh (left:Bool) (x y:SX)
  | fX (op:BinOp) (x y:SX)
  | b4 (x i:SX)
  | not (x:SX)
  | nil (eq:Bool) (k:Nat) (x y:SX)
  | beq (eq:Bool) (x y:SX)
  | mm (mx:Bool) (x y:SX)
  | conv (k:IntKind) (x:SX)
  | wm (x:SX)
  | dn (x:SX)
  | old (op:Op) (ty:TypeId)
  deriving Inhabited
def im:Option Nat→List V→Nat→Option V
  | some n,cs,off=>if off+n≤cs.length then some (.agg ((cs.drop off).take n)) else none
  | none,cs,off=>if off < cs.length then some (cs.getD off .any) else none
def pG (sz:Option Nat) (a:V) (H:View):Out:=match a with
  | .ptr id i j=>match H id with
    | .arr _ es=>if i < es.length then (im sz (es.getD i []) j).map fun v=>(v,.none,[id]) else none
    | _=>none
  | .aN e j=>(im sz e j).map fun v=>(v,.none,[])
  | _=>none
def uQ (sz:Nat) (a v:V) (H:View):Out:=match a with
  | .ptr id i j=>match H id with
    | .arr esz es =>
      if i < es.length∧v.cells.length=sz∧j+v.cells.length≤esz∧v.cells.all aS=true
      then some (.any,.dQ id (.arr esz (es.set i (ab (es.getD i []) j v.cells))),[id]) else none
    | _=>none
  | _=>none
def ae (z:List V) (parts:List (Nat × Nat × V)):Option (List V):=match parts with
  | []=>some z
  | (off,size,x) :: r=>if x.cells.length=size∧off+size≤z.length∧x.cells.all aS=true then ae (ab z off x.cells) r else none
def sP (len sz:Nat) (z:List V) (parts:List (Nat × V)) (n:Nat):Out :=
  match ag sz (List.replicate len z) parts with
  | some es=>some (.sl n 0 len sz,.new (.arr sz es),[])
  | none=>none
def sS (off:Nat) (x:V):Out:=match x with
  | .ptr id i j=>some (.ptr id i (j+off),.none,[])
  | .aN e j=>some (.aN e (j+off),.none,[])
  | _=>none
def wc (sz:Nat) (x i:V):Out:=match asNat i with
  | none=>none
  | some q=>match x with
    | .sl id off len esz=>if q < len∧esz=sz then some (.ptr id (off+q) 0,.none,[]) else none
    | .aP es=>if q < es.length∧(es.getD q []).length=sz then some (.aN (es.getD q []) 0,.none,[]) else none
    | _=>none
def oO (sz:Nat) (x:V) (lo hi:Option V):Out:=match x with
  | .sl id off len esz=>match bound 0 lo,bound len hi with
    | some l,some h=>if l≤h∧h≤len∧esz=sz then some (.sl id (off+l) (h - l) esz,.none,[]) else none
    | _,_=>none
  | .aP es=>match bound 0 lo,bound es.length hi with
    | some l,some h=>if l≤h∧h≤es.length∧(es.all fun e=>e.length == sz)=true then some (.aP ((es.drop l).take (h - l)),.none,[]) else none
    | _,_=>none
  | .emp k=>match bound 0 lo,bound 0 hi with
    | some 0,some 0=>some (.emp k,.none,[])
    | _,_=>none
  | _=>none
def uX (sz bytes:Nat) (z:List V) (len cap:V) (n:Nat):Out:=match asNat len,asNat cap with
  | some l,some c =>
    if l≤c∧c < aZ∧bytes * c < aZ then
      (if c=0 then some (.emp 2,.none,[]) else some (.sl n 0 l sz,.new (.arr sz (List.replicate l z)),[]))
    else none
  | _,_=>none
def y7 (sz bytes:Nat) (s x:V) (H:View) (n:Nat):Out:=match bH H x with
  | some (xs,rd) =>
      if xs.isEmpty then (match s with
        | .emp _ | .cp | .aP _ | .sl _ _ _ _=>some (s,.none,[])
        | _=>none)
      else if ¬ ((xs.all fun e=>e.length == sz && e.all aS)=true) then none
      else match s with
        | .emp _=>if xs.length * bytes < aZ∧xs.length < aZ then some (.sl n 0 xs.length sz,.new (.arr sz xs),rd) else none
        | .sl id off len esz=>match H id with
          | .arr _ es =>
            if off+len≤es.length∧esz=sz∧(len+xs.length) * bytes < aZ∧len+xs.length < aZ
            then some (.sl n 0 (len+xs.length) esz,.aW id (.arr esz ((es.drop off).take len ++ xs)),id :: rd) else none
          | _=>none
        | _=>none
  | none=>none
def ah (op:BinOp) (k:IntKind) (a b:Int):Option Value:=match op with
  | .add=>some (.int k (k.wrap (a+b)))
  | .sub=>some (.int k (k.wrap (a - b)))
  | .mul=>some (.int k (k.wrap (a * b)))
  | .quo=>if b=0 then none else some (.int k (k.wrap (a.tdiv b)))
  | .rem=>if b=0 then none else some (.int k (a.tmod b))
  | .eql=>some (.bool (a == b))
  | .neq=>some (.bool (a != b))
  | .lss=>some (.bool (a < b))
  | .leq=>some (.bool (a≤b))
  | .gtr=>some (.bool (a > b))
  | .geq=>some (.bool (a≥b))
  | .or=>some (.int k (k.wrap (BitVec.ofInt k.bits a ||| BitVec.ofInt k.bits b).toNat))
  | .and=>some (.int k (k.wrap (BitVec.ofInt k.bits a &&& BitVec.ofInt k.bits b).toNat))
  | .xor=>some (.int k (k.wrap (BitVec.ofInt k.bits a ^^^ BitVec.ofInt k.bits b).toNat))
  | .andNot=>some (.int k (k.wrap (BitVec.ofInt k.bits a &&& ~~~(BitVec.ofInt k.bits b)).toNat))
  | _=>none
def rA (op:BinOp) (x y:V):Out:=match x,y with
  | .val (.int k a),.val (.int k' b)=>if k=k' then (ah op k a b).map fun v=>(.val v,.none,[]) else none
  | _,_=>none
def C7 (left:Bool) (k:IntKind) (a b:Int):Int:=if left then k.wrap (a * 2 ^ (min b.toNat k.bits)) else a.fdiv (2 ^ (min b.toNat k.bits))
def DV (left:Bool) (x y:V):Out:=match x,y with
  | .val (.int k a),.val (.int _ b)=>if b < 0 then none else some (.val (.int k (C7 left k a b)),.none,[])
  | _,_=>none
def Fv:BinOp→Option Bool
  | .shl=>some true
  | .shr=>some false
  | _=>none
def eH (a b:ByteArray):Bool:=a.data.toList == b.data.toList
def tO (op:BinOp) (x y:V):Out:=match x,y with
  | .val (.string a),.val (.string b)=>match op with
    | .eql=>some (.val (.bool (eH a b)),.none,[])
    | .neq=>some (.val (.bool (!eH a b)),.none,[])
    | _=>none
  | _,_=>none
def uW (x i:V):Out:=match x,asNat i with
  | .val (.string s),some q=>match s.data.toList[q]? with
    | some b=>some (.val (.int .u8 b.toNat),.none,[])
    | none=>none
  | _,_=>none
def aj:Option Bool→Option Bool→Option Bool
  | some true,some b=>some b
  | some b,some true=>some b
  | _,_=>none
theorem BF {P:Program} {t:TypeId} {k:Nat} (h:fh P t=some k) (x y:V):wM P t x y=aj (isNil k x) (isNil k y):=by
  simp only[wM,h]
  unfold aj
  split <;> simp_all
def oper (op:Op) (ty:TypeId):Oper:=⟨none,op,ty,"",#[],none⟩
theorem FR (P:Program) (o:Oper) (T:Env) (H:View) (n:Nat):bp P (oper o.op o.type) T H n=bp P o T H n:=by
  cases o; rfl
def sI (P:Program) (s:SI) (T:Env) (H:View) (n:Nat):Out:=match s with
  | .aW x=>some (x.at T,.none,[])
  | .pick c a b=>match c.at T with
    | .val (.bool t)=>some (if t then a.at T else b.at T,.none,[])
    | _=>none
  | .box x=>hD (x.at T).cells n
  | .eX x=>if (x.at T).cells.all aS=true then some (.aN (x.at T).cells 0,.none,[]) else none
  | .alloc z=>hD z n
  | .build z parts=>(ae z (parts.map fun (a,b,x)=>(a,b,x.at T))).map fun cs=>(.agg cs,.none,[])
  | .bf len sz z parts=>sP len sz z (parts.map fun (i,x)=>(i,x.at T)) n
  | .load sz a=>pG sz (a.at T) H
  | .sM sz a=>match a.at T with
    | .aN e j=>(im sz e j).map fun v=>(v,.none,[])
    | _=>none
  | .store sz a x=>uQ sz (a.at T) (x.at T) H
  | .ux x=>match x.at T with
    | .ptr id i j=>some (.ptr id i j,.none,[])
    | .aN e j=>some (.aN e j,.none,[])
    | .fn f a b=>some (.fn f a b,.none,[])
    | _=>none
  | .addr off x=>sS off (x.at T)
  | .field off sz x=>match x.at T with
    | .agg cs=>(im sz cs off).map fun v=>(v,.none,[])
    | _=>none
  | .idx sz x i=>wc sz (x.at T) (i.at T)
  | .slice sz x lo hi=>oO sz (x.at T) (lo.map (SX.at T)) (hi.map (SX.at T))
  | .make sz bytes z l c=>uX sz bytes z (l.at T) (c.at T) n
  | .ju=>some (.mp n,.new (.map [] 0),[])
  | .iA f first cap=>some (.fn f (first.map (SX.at T)) (cap.map (SX.at T)),.none,[])
  | .ext i x=>match x.at T with
    | .bg vs=>if i < vs.length then some (vs.getD i .any,.none,[]) else none
    | _=>none
  | .len x=>(dP (x.at T)).map fun n=>(an n,.none,[])
  | .eL x=>match x.at T with
    | .val (.string s)=>some (an s.size,.none,[])
    | _=>none
  | .app sz bytes x y=>y7 sz bytes (x.at T) (y.at T) H n
  | .arith op x y=>rA op (x.at T) (y.at T)
  | .sh l x y=>DV l (x.at T) (y.at T)
  | .fX op x y=>tO op (x.at T) (y.at T)
  | .b4 x i=>uW (x.at T) (i.at T)
  | .not x=>match x.at T with
    | .val (.bool t)=>some (.val (.bool (!t)),.none,[])
    | _=>none
  | .nil eq k x y=>match aj (isNil k (x.at T)) (isNil k (y.at T)) with
    | some b=>some (.val (.bool (if eq then b else !b)),.none,[])
    | none=>none
  | .beq eq x y=>match x.at T,y.at T with
    | .val (.bool a),.val (.bool b)=>some (.val (.bool (if eq then a == b else a != b)),.none,[])
    | _,_=>none
  | .mm mx x y=>match x.at T,y.at T with
    | .val (.int k a),.val (.int _ b)=>some (.val (.int k (if mx then (if b > a then b else a) else (if b < a then b else a))),.none,[])
    | _,_=>none
  | .conv k x=>match x.at T with
    | .val (.int _ a)=>some (.val (.int k (k.wrap a)),.none,[])
    | _=>none
  | .wm x=>match x.at T with
    | .aP es=>(kV es).map fun l=>(.val (.string ⟨l.toArray⟩),.none,[])
    | _=>none
  | .dn x=>match x.at T with
    | .val (.string s)=>some (.aP (dF s),.none,[])
    | _=>none
  | .old op ty=>bp P (oper op ty) T H n
def vL (P:Program) (t:TypeId):Option (Option Nat):=match P.info? t,mq P t with
  | some i,some true=>some (some i.size)
  | some _,some false=>some none
  | _,_=>none
theorem qq {P:Program} {t:TypeId} {k:Option Nat} (h:vL P t=some k) (cs:List V) (j:Nat):kK P t cs j=im k cs j:=by
  unfold vL at h
  split at h
  · rename_i i h1 h2
    simp at h; subst h; simp[kK,h1,h2,im]
  · rename_i i h1 h2
    simp at h; subst h; simp[kK,h1,h2,im]
  · simp at h
def qo (P:Program) (t:TypeId):Option (Nat × Nat × List V):=match bI P t with
  | some e=>match P.info? e,zeroCells P e with
    | some ti,some z=>if z.length=ti.size∧z.all aS=true∧ti.size≠0 then some (ti.size,ti.bytes,z) else none
    | _,_=>none
  | none=>none
theorem mZ {P:Program} {t:TypeId} {sz by':Nat} {z:List V} (h:qo P t=some (sz,by',z)) :
    ∃ e ti,bI P t=some e∧P.underlying t=some (.slice e)∧P.info? e=some ti∧zeroCells P e=some z∧z.length=ti.size∧z.all aS=true∧ti.size≠0∧sz=ti.size∧by'=ti.bytes:=by
  unfold qo at h
  split at h
  · rename_i e he
    split at h
    · rename_i ti z' h1 h2
      split at h
      · rename_i hc
        simp at h
        obtain ⟨rfl,rfl,rfl⟩:=h
        have hu:P.underlying t=some (.slice e):=by
          unfold bI at he; split at he
          · rename_i h3; simp at he; subst he; exact h3
          · simp at he
        exact ⟨e,ti,he,hu,h1,h2,hc.1,hc.2.1,hc.2.2,rfl,rfl⟩
      · simp at h
    · simp at h
  · simp at h
def oM (P:Program) (t:TypeId):List (Nat × Operand)→Option (List (Nat × Nat × SX))
  | []=>some []
  | (i,x) :: r=>match placeOf P t i,oM P t r with
    | some (a,b),some l=>some ((a,b,SX.of x) :: l)
    | _,_=>none
def comp (P:Program) (o:Oper):SI:=match o.op with
  | .move x | .assign x=>.aW (SX.of x)
  | .pick c a b=>.pick (SX.of c) (SX.of a) (SX.of b)
  | .alloc e=>match zeroCells P e with
    | some z=>.alloc z
    | none=>.old o.op o.type
  | .box _ x=>.box (SX.of x)
  | .load t a=>match vL P t with
    | some k=>.load k (SX.of a)
    | none=>.old o.op o.type
  | .store t a v=>match P.info? t with
    | some _=>.store (P.cellsOf t) (SX.of a) (SX.of v)
    | none=>.old o.op o.type
  | .nilCheck x=>.ux (SX.of x)
  | .fieldAddr t x f=>match ki P t f with
    | some (off,s,_)=>if s=0 then .old o.op o.type else .addr off (SX.of x)
    | none=>.old o.op o.type
  | .field t x f=>match ki P t f with
    | some (off,_,ft)=>match vL P ft with
      | some k=>.field off k (SX.of x)
      | none=>.old o.op o.type
    | none=>.old o.op o.type
  | .indexAddr t x i=>match qo P t with
    | some (sz,_,_)=>.idx sz (SX.of x) (SX.of i)
    | none=>.old o.op o.type
  | .slice t x lo hi none=>match qo P t with
    | some (sz,_,_)=>.slice sz (SX.of x) (lo.map SX.of) (hi.map SX.of)
    | none=>.old o.op o.type
  | .makeSlice t l c=>match qo P t with
    | some (sz,b,z)=>.make sz b z (SX.of l) (SX.of c)
    | none=>.old o.op o.type
  | .makeMap _ none=>.ju
  | .makeFunc (.func f) first cap=>.iA f (first.toList.map SX.of) (cap.toList.map SX.of)
  | .extract t i=>.ext i (SX.of t)
  | .build t parts=>match P.underlying t,zeroV P t with
    | some (.struct _),some (.agg z)=>if hU P t=true then
        (match oM P t parts.toList with
        | some ps=>.build z ps
        | none=>.old o.op o.type) else .old o.op o.type
    | _,_=>.old o.op o.type
  | .buildSlice t len parts=>match qo P t with
    | some (sz,_,z)=>if len=0∧parts.toList.isEmpty=true then .aW (.val (.emp 2)) else if len * sz≤2 ^ 24∧len≠0 then .bf len sz z (parts.toList.map fun (i,x)=>(i,SX.of x)) else .old o.op o.type
    | none=>.old o.op o.type
  | .call { callee:=.builtin b,args,argTypes }=>match b,args.toList with
    | .len,[x]=>if 1≤argTypes.size then (match P.underlying (argTypes.getD 0 0) with
      | some (.slice _)=>.len (SX.of x)
      | some .string=>.eL (SX.of x)
      | _=>.old o.op o.type) else .old o.op o.type
    | .append,[s,x]=>if 2≤argTypes.size∧kQ P (argTypes.getD 1 0)=true then (match qo P (argTypes.getD 0 0) with
      | some (sz,b,_)=>.app sz b (SX.of s) (SX.of x)
      | none=>.old o.op o.type) else .old o.op o.type
    | .min,[x,y]=>.mm false (SX.of x) (SX.of y)
    | .max,[x,y]=>.mm true (SX.of x) (SX.of y)
    | _,_=>.old o.op o.type
  | .convert s d x=>match P.underlying s,P.underlying d with
    | some (.int _),some (.int k)=>.conv k (SX.of x)
    | _,_=>.old o.op o.type
  | .binOp op t x y _=>match fh P t with
    | some k=>match op with
      | .eql=>.nil true k (SX.of x) (SX.of y)
      | .neq=>.nil false k (SX.of x) (SX.of y)
      | _=>.old o.op o.type
    | none=>match P.underlying t with
      | some (.int _)=>match Fv op with
        | some l=>.sh l (SX.of x) (SX.of y)
        | none=>.arith op (SX.of x) (SX.of y)
      | some .string=>.fX op (SX.of x) (SX.of y)
      | some .bool=>match op with
        | .eql=>.beq true (SX.of x) (SX.of y)
        | .neq=>.beq false (SX.of x) (SX.of y)
        | _=>.old o.op o.type
      | _=>.old o.op o.type
  | .unOp .not _ x=>.not (SX.of x)
  | .index t x i=>match P.underlying t with
    | some .string=>.b4 (SX.of x) (SX.of i)
    | _=>.old o.op o.type
  | _=>.old o.op o.type
theorem xO {P:Program} {t:TypeId} {T:Env} : ∀ (parts:List (Nat × Operand)) (ps:List (Nat × Nat × SX)) (z:List V),oM P t parts=some ps →
    qw (placeOf P t) z (parts.map fun (i,x)=>(i,ev T x))=ae z (ps.map fun (a,b,x)=>(a,b,x.at T))
  | [],ps,z,h=>by simp[oM] at h; subst h; rfl
  | (i,x) :: r,ps,z,h=>by
    simp only[oM] at h
    split at h
    · rename_i a b l h1 h2
      simp at h; subst h
      simp only[List.map_cons,qw,h1,ae,SX.bz]
      split
      · exact xO r l _ h2
      · rfl
    · simp at h
theorem AU {P:Program} {o:Oper} {T:Env} {op:BinOp} {t u:TypeId} {x y:Operand} {k:IntKind} {a b:Int} {r:Value} (ho:o.op=.binOp op t x y u) (hx:ev T x=.val (.int k a)) (hy:ev T y=.val (.int k b)) (h:ah op k a b=some r) :
    bZ P o T=some (.val r,.none,[]):=by
  unfold bZ
  simp only[ho,Op.operands]
  simp only[hx,hy,bK]
  cases op <;> simp only[ah,Option.some.injEq,reduceCtorEq] at h
  all_goals first
    | (
       split at h
       · simp at h
       · rename_i hb
         simp at h; subst h
         simp[execOp,ho,hx,hy,bK,eqGuard,binOp,Op.intDiv,hb,plain]
         try rfl)
    | (subst h; simp[execOp,ho,hx,hy,bK,eqGuard,binOp,Op.intArith,Op.intCmp,Op.intBits,plain]; try rfl)
theorem FN {P:Program} {o:Oper} {T:Env} {op:BinOp} {t u:TypeId} {x y:Operand} {l:Bool} {v:V} {av:aQ} {rd:List Nat} (ho:o.op=.binOp op t x y u) (hs:Fv op=some l) (h:DV l (ev T x) (ev T y)=some (v,av,rd)) :
    bZ P o T=some (v,av,rd):=by
  unfold DV at h
  split at h
  · rename_i k a k' b hx hy
    split at h
    · simp at h
    · rename_i hb
      simp only[Option.some.injEq,Prod.mk.injEq] at h
      obtain ⟨rfl,rfl,rfl⟩:=h
      unfold bZ
      simp only[ho,Op.operands]
      simp only[hx,hy,bK]
      cases op <;> simp only[Fv,Option.some.injEq,reduceCtorEq] at hs
      all_goals
        subst hs
        simp[execOp,ho,hx,hy,bK,eqGuard,binOp,Op.shift,hb,plain,C7]
        try rfl
  · simp at h
theorem Dn {P:Program} {o:Oper} {T:Env} {op:BinOp} {t u:TypeId} {x y:Operand} {v:V} {av:aQ} {rd:List Nat} (ho:o.op=.binOp op t x y u) (h:tO op (ev T x) (ev T y)=some (v,av,rd)) :
    bZ P o T=some (v,av,rd):=by
  unfold tO at h
  split at h
  · rename_i a b hx hy
    unfold bZ
    simp only[ho,Op.operands,hx,hy,bK]
    have he:(a.toList == b.toList)=eH a b:=by simp[eH,ByteArray.toList_eq]
    split at h
    · simp at h; obtain ⟨rfl,rfl,rfl⟩:=h
      simp[execOp,ho,hx,hy,bK,eqGuard,binOp,Op.stringOp,plain,← he]; rfl
    · simp at h; obtain ⟨rfl,rfl,rfl⟩:=h
      simp[execOp,ho,hx,hy,bK,eqGuard,binOp,Op.stringOp,plain,← he]; rfl
    · simp at h
  · simp at h
theorem Ce {P:Program} {o:Oper} {T:Env} {t:TypeId} {x i:Operand} {v:V} {av:aQ} {rd:List Nat} (ho:o.op=.index t x i) (hu:P.underlying t=some .string) (h:uW (ev T x) (ev T i)=some (v,av,rd)) :
    bZ P o T=some (v,av,rd):=by
  unfold uW at h
  split at h
  · rename_i s q hx hq
    split at h
    · rename_i b hb
      simp at h; obtain ⟨rfl,rfl,rfl⟩:=h
      unfold asNat at hq
      split at hq
      · rename_i k z hz
        split at hq
        · rename_i h0
          simp at hq; subst hq
          have hs:s[z.toNat]?=some b:=by
            obtain ⟨hlt,rfl⟩:=List.getElem?_eq_some_iff.1 hb
            have hlt':z.toNat < s.size:=by rw[bsize] at hlt; exact hlt
            rw[getElem?_pos s z.toNat hlt']
            rfl
          unfold bZ
          simp only[ho,Op.operands,hx,hz,bK]
          simp[execOp,ho,hx,hz,bK,Instr.index,asIntOf,underlying,program,hu,h0,hs,plain]
          simp[ba,hu,h0,hs,plain,bind,Sem.bind,pure]
          rfl
        · simp at hq
      · simp at hq
    · simp at h
  · simp at h
theorem Eg {P:Program} {o:Oper} {T:Env} {t:TypeId} {x:Operand} {b:Bool} (ho:o.op=.unOp .not t x) (hx:ev T x=.val (.bool b)) :
    bZ P o T=some (.val (.bool (!b)),.none,[]):=by
  unfold bZ
  simp only[ho,Op.operands,hx,bK]
  simp[execOp,ho,hx,bK,Op.unary,plain]
  rfl
theorem eN {α β:Type} (P:Program) (s:Sem α) (f:α→β):ba P (Functor.map f s)=(ba P s).map f:=by
  show ba P (s >>= fun a=>pure (f a))=_
  rw[aV]
  cases ba P s <;> rfl
theorem cK {P:Program} {t:TypeId} {d:TypeDesc} (h:P.underlying t=some d):ba P (underlying t)=some d:=by
  simp only[underlying,program,aV]
  simp[ba,h]
  rfl
theorem qK {P:Program} {t:TypeId} {a b:Bool} (hu:P.underlying t=some .bool):ba P (Op.equal t (.bool a) (.bool b))=some (a == b):=by
  rw[gV]
  generalize 9999=d
  simp only[Op.equalIn,aV,cK hu,Option.bind_some]
  rfl
theorem xc {P:Program} {o:Oper} {T:Env} {op:BinOp} {t u:TypeId} {x y:Operand} {a b:Bool} {r:Bool} (ho:o.op=.binOp op t x y u) (hu:P.underlying t=some .bool) (hx:ev T x=.val (.bool a)) (hy:ev T y=.val (.bool b))
    (hr:(op=.eql∧r=(a == b))∨(op=.neq∧r=(a != b))) :
    bZ P o T=some (.val (.bool r),.none,[]):=by
  unfold bZ
  simp only[ho,Op.operands,hx,hy,bK]
  rcases hr with ⟨rfl,rfl⟩ | ⟨rfl,rfl⟩
  · simp[execOp,ho,hx,hy,bK,eqGuard,binOp,eN,aV,qK hu,plain]
    try simp[ba,pure,plain]
  · simp[execOp,ho,hx,hy,bK,eqGuard,binOp,eN,aV,qK hu,plain]
    try simp[ba,pure,plain,bne]
theorem CB {P:Program} {o:Oper} {T:Env} {s d:TypeId} {x:Operand} {k0 k k':IntKind} {a:Int} (ho:o.op=.convert s d x) (hs:P.underlying s=some (.int k0)) (hd:P.underlying d=some (.int k)) (hx:ev T x=.val (.int k' a)) :
    bZ P o T=some (.val (.int k (k.wrap a)),.none,[]):=by
  unfold bZ
  simp only[ho,Op.operands,hx,bK]
  have:ba P (convert s d (.int k' a))=some (.int k (k.wrap a)):=by
    simp only[convert,aV,cK hs,cK hd,Option.bind_some]
    rfl
  simp[execOp,ho,hx,bK,eN,this,plain]
theorem yL {P:Program} {o:Oper} {T:Env} {bi:Builtin} {x y:Operand} {k k':IntKind} {a b:Int} {args:Array Operand} {ats:Array TypeId} {r:Int} (ho:o.op=.call { callee:=.builtin bi,args:=args,argTypes:=ats }) (ha:args.toList=[x,y])
    (hx:ev T x=.val (.int k a)) (hy:ev T y=.val (.int k' b)) (hr:(bi=.max∧r=if b > a then b else a)∨(bi=.min∧r=if b < a then b else a)) :
    bZ P o T=some (.val (.int k r),.none,[]):=by
  obtain rfl:args = #[x,y]:=by rw[← Array.toArray_toList (xs:=args),ha]
  unfold bZ
  rcases hr with ⟨rfl,rfl⟩ | ⟨rfl,rfl⟩
  · have:ba P (Builtin.max_ ats o.type #[.int k a,.int k' b])=some (.int k (if b > a then b else a)):=rfl
    simp[ho,Op.operands,Call.operands,hx,hy,bK,execOp,resolve,invoke,builtin,eN,this,plain]
  · have:ba P (Builtin.min_ ats o.type #[.int k a,.int k' b])=some (.int k (if b < a then b else a)):=rfl
    simp[ho,Op.operands,Call.operands,hx,hy,bK,execOp,resolve,invoke,builtin,eN,this,plain]
theorem z1 (l:List Operand) (T:Env):(l.map SX.of).map (SX.at T)=l.map (ev T):=by
  rw[List.map_map]; congr 1; funext x; exact SX.bz T x
theorem GR (l:Option Operand) (T:Env):(l.map SX.of).map (SX.at T)=l.map (ev T):=by
  cases l <;> simp[SX.bz]
theorem Hl (l:List (Nat × Operand)) (T:Env):(l.map fun (i,x)=>(i,SX.of x)).map (fun (i,x)=>(i,SX.at T x))=l.map fun (i,x)=>(i,ev T x):=by
  rw[List.map_map]; congr 1; funext x; simp[SX.bz]
theorem B8 {P:Program} {o:Oper} {T:Env} {H:View} {n:Nat} {v:V} {av:aQ} {rd:List Nat} (h:sI P (comp P o) T H n=some (v,av,rd)) :
    bp P o T H n=some (v,av,rd):=by
  have old:∀ {s:SI},s=.old o.op o.type→sI P s T H n=some (v,av,rd)→bp P o T H n=some (v,av,rd):=fun e h=>by rw[e] at h; simp only[sI,FR] at h; exact h
  unfold comp at h
  split at h
  · rename_i x ho; simp only[sI,SX.bz] at h; simp only[bp,ho]; exact h
  · rename_i x ho; simp only[sI,SX.bz] at h; simp only[bp,ho]; exact h
  · rename_i c a b ho; simp only[sI,SX.bz] at h; simp only[bp,ho]; exact h
  · rename_i e ho
    split at h
    · rename_i z hz; simp only[sI] at h; simp only[bp,ho,hz]; exact h
    · exact old rfl h
  · rename_i t x ho; simp only[sI,SX.bz] at h; simp only[bp,ho]; exact h
  · rename_i t a ho
    split at h
    · rename_i k hk
      simp only[sI,SX.bz,pG] at h
      simp only[bp,ho,iq,qq hk]
      exact h
    · exact old rfl h
  · rename_i t a x ho
    split at h
    · rename_i ti hti
      simp only[sI,SX.bz,uQ] at h
      simp only[bp,ho,lp,hti,Option.isSome_some,and_true]
      exact h
    · exact old rfl h
  · rename_i x ho; simp only[sI,SX.bz] at h; simp only[bp,ho]; exact h
  · rename_i t x f ho
    split at h
    · rename_i off s ft hpl
      split at h
      · exact old rfl h
      · rename_i hs
        simp only[sI,SX.bz,sS] at h
        simp only[bp,ho,gO,hpl,hs,if_false]
        exact h
    · exact old rfl h
  · rename_i t x f ho
    split at h
    · rename_i off s ft hpl
      split at h
      · rename_i k hk
        simp only[sI,SX.bz] at h
        simp only[bp,ho,pt,hpl]
        split at h
        · rename_i cs hcs; simp only[hcs,qq hk]; exact h
        · simp at h
      · exact old rfl h
    · exact old rfl h
  · rename_i t x i ho
    split at h
    · rename_i sz b z hk
      obtain ⟨e,ti,h1,h2,h3,h4,h5,h6,h7,rfl,rfl⟩:=mZ hk
      simp only[sI,SX.bz,wc] at h
      simp only[bp,ho,gT,h2,h3]
      exact h
    · exact old rfl h
  · rename_i t x lo hi ho
    split at h
    · rename_i sz b z hk
      obtain ⟨e,ti,h1,h2,h3,h4,h5,h6,h7,rfl,rfl⟩:=mZ hk
      simp only[sI,SX.bz,GR] at h
      simp only[bp,ho]
      have hsl:mP P t (ev T x) (lo.map (ev T)) (hi.map (ev T)) none=some (v,av,rd):=by
        simp only[mP,h1,h3]
        unfold oO at h
        split at h
        · rename_i h9; rw[h9]; exact h
        · rename_i h9; rw[h9]; exact h
        · rename_i h9; rw[h9]; exact h
        · simp at h
      unfold oO at h
      split at h
      · rename_i h9; rw[h9] at hsl ⊢; exact hsl
      · rename_i h9; rw[h9] at hsl ⊢; exact hsl
      · rename_i h9; rw[h9] at hsl ⊢; exact hsl
      · simp at h
    · exact old rfl h
  · rename_i t l c ho
    split at h
    · rename_i sz b z hk
      obtain ⟨e,ti,h1,h2,h3,h4,h5,h6,h7,rfl,rfl⟩:=mZ hk
      simp only[sI,SX.bz,uX] at h
      simp only[bp,ho,gR,h1,h3]
      split at h
      · rename_i l' c' hl hc
        simp only[hl,hc,h7,if_false,h4,h5,h6,and_self,if_true]
        exact h
      · simp at h
    · exact old rfl h
  · rename_i t ho; simp only[sI] at h; simp only[bp,ho]; exact h
  · rename_i f first cap ho; simp only[sI,z1] at h; simp only[bp,ho]; exact h
  · rename_i t i ho; simp only[sI,SX.bz] at h; simp only[bp,ho]; exact h
  · rename_i t parts ho
    split at h
    · rename_i fs z h1 h2
      split at h
      · rename_i h3
        split at h
        · rename_i ps h4
          simp only[sI] at h
          simp only[bp,ho,py,h1,h2,h3,if_true]
          have:=xO (T:=T) parts.toList ps z h4
          rw[this]
          exact h
        · exact old rfl h
      · exact old rfl h
    · exact old rfl h
  · rename_i t len parts ho
    split at h
    · rename_i sz b z hk
      obtain ⟨e,ti,h1,h2,h3,h4,h5,h6,h7,rfl,rfl⟩:=mZ hk
      split at h
      · rename_i hc
        obtain ⟨rfl,hc⟩:=hc
        simp only[sI,SX.at] at h
        simp only[bp,ho,dX,h1,h3]
        rw[List.isEmpty_iff] at hc
        rw[if_neg (by omega),if_pos trivial,hc]
        exact h
      split at h
      · rename_i hc
        simp only[sI,Hl,sP] at h
        simp only[bp,ho,dX,h1,h3]
        rw[if_neg (by omega),if_neg hc.2,if_neg h7]
        simp only[h4,h5,h6,and_self,if_true]
        exact h
      · exact old rfl h
    · exact old rfl h
  · rename_i b args ats ho
    split at h
    · rename_i x hargs
      split at h
      · rename_i hsz
        simp only[bp,ho,hargs,hsz,if_true,oC]
        split at h
        · rename_i e hu
          simp only[sI,SX.bz] at h
          simp only[hu]; exact h
        · rename_i hu
          simp only[sI,SX.bz] at h
          simp only[hu]
          exact h
        · have:=old rfl h
          simpa only [bp,ho,hargs,hsz,if_true,oC] using this
      · exact old rfl h
    · rename_i s x hargs
      split at h
      · rename_i hsz
        split at h
        · rename_i sz b z hk
          obtain ⟨e,ti,h1,h2,h3,h4,h5,h6,h7,rfl,rfl⟩:=mZ hk
          simp only[sI,SX.bz] at h
          simp only[bp,ho,hargs]
          rw[if_pos hsz]
          unfold y7 at h
          split at h
          · rename_i xs rd' hel
            simp only[iN,h1,hel,h3]
            have hz:(zeroCells P e).map List.length=some ti.size:=by rw[h4]; simp[h5]
            split at h
            · rename_i hemp; rw[if_pos hemp]; exact h
            · rename_i hemp
              rw[if_neg hemp]
              split at h
              · simp at h
              · rename_i hall
                rw[if_neg (by
                  rintro (h9 | h9 | h9)
                  · exact h7 h9
                  · exact h9 hz
                  · exact hall h9)]
                exact h
          · simp at h
        · exact old rfl h
      · exact old rfl h
    · rename_i x y hargs
      simp only[sI,SX.bz] at h
      simp only[bp,ho]
      split at h
      · rename_i k a k' b hx hy
        have:=yL (P:=P) (T:=T) ho hargs hx hy (.inr ⟨rfl,rfl⟩)
        rw[this]; exact h
      · simp at h
    · rename_i x y hargs
      simp only[sI,SX.bz] at h
      simp only[bp,ho]
      split at h
      · rename_i k a k' b hx hy
        have:=yL (P:=P) (T:=T) ho hargs hx hy (.inl ⟨rfl,rfl⟩)
        rw[this]; exact h
      · simp at h
    · exact old rfl h
  · rename_i s d x ho
    split at h
    · rename_i k0 k hs hd
      simp only[sI,SX.bz] at h
      simp only[bp,ho]
      split at h
      · rename_i k' a hx
        have hb:¬ (lk P s d=true):=by simp[lk,hs,hd]
        rw[if_neg hb,CB ho hs hd hx]; exact h
      · simp at h
    · exact old rfl h
  · rename_i op t x y u ho
    split at h
    · rename_i k hk
      have hsome:(fh P t).isSome=true:=by rw[hk]; rfl
      split at h
      · simp only[sI,SX.bz] at h
        simp only[bp,ho]
        rw[if_pos hsome,BF hk]
        split at h
        · rename_i b hb; rw[hb]; simpa using h
        · simp at h
      · simp only[sI,SX.bz] at h
        simp only[bp,ho]
        rw[if_pos hsome,BF hk]
        split at h
        · rename_i b hb; rw[hb]; simpa using h
        · simp at h
      · exact old rfl h
    · rename_i hk
      have hnone:¬ ((fh P t).isSome=true):=by rw[hk]; simp
      split at h
      · split at h
        · rename_i l hs
          simp only[sI,SX.bz] at h
          simp only[bp,ho]
          rw[if_neg hnone]
          exact FN ho hs h
        · simp only[sI,SX.bz,rA] at h
          simp only[bp,ho]
          split at h
          · rename_i k a k' b hx hy
            split at h
            · rename_i hkk
              subst hkk
              simp only[Option.map_eq_some_iff] at h
              obtain ⟨r,hr,h⟩:=h
              rw[if_neg hnone,AU ho hx hy hr]; exact congrArg some h
            · simp at h
          · simp at h
      · simp only[sI,SX.bz] at h
        simp only[bp,ho]
        rw[if_neg hnone]
        exact Dn ho h
      · rename_i hu
        split at h
        · simp only[sI,SX.bz] at h
          simp only[bp,ho]
          split at h
          · rename_i a b hx hy
            rw[if_neg hnone,xc ho hu hx hy (.inl ⟨rfl,rfl⟩)]; simpa using h
          · simp at h
        · simp only[sI,SX.bz] at h
          simp only[bp,ho]
          split at h
          · rename_i a b hx hy
            rw[if_neg hnone,xc ho hu hx hy (.inr ⟨rfl,rfl⟩)]; simpa using h
          · simp at h
        · exact old rfl h
      · exact old rfl h
  · rename_i t x ho
    simp only[sI,SX.bz] at h
    simp only[bp,ho]
    split at h
    · rename_i b hb; rw[Eg ho hb]; exact h
    · simp at h
  · rename_i t x i ho
    split at h
    · rename_i hu
      simp only[sI,SX.bz] at h
      simp only[bp,ho]
      exact Ce ho hu h
    · exact old rfl h
  · exact old rfl h
theorem Fo {P:Program} {sz:Option Nat} {a:SX} {T:Env} {H:View} {n:Nat} {v:V} {av:aQ} {rd:List Nat} (h:sI P (.sM sz a) T H n=some (v,av,rd)):sI P (.load sz a) T H n=some (v,av,rd):=by
  simp only[sI] at h
  simp only[sI,pG]
  split at h
  · rename_i e j ha; rw[ha]; exact h
  · simp at h
def toStr (P:Program) (s d:TypeId):Bool:=match P.underlying s,P.underlying d with
  | some (.slice e),some .string=>(match P.underlying e with | some (.int .u8)=>true | _=>false)
  | _,_=>false
def oS (P:Program) (s d:TypeId):Bool:=match P.underlying s,P.underlying d with
  | some .string,some (.slice e)=>(match P.underlying e with | some (.int .u8)=>true | _=>false)
  | _,_=>false
theorem Ex {P:Program} {s d:TypeId} (h:toStr P s d=true):∃ e,P.underlying s=some (.slice e)∧P.underlying d=some .string∧P.underlying e=some (.int .u8):=by
  unfold toStr at h
  split at h
  · rename_i e h1 h2
    split at h
    · rename_i h3; exact ⟨e,h1,h2,h3⟩
    · simp at h
  · simp at h
theorem tq {P:Program} {s d:TypeId} (h:oS P s d=true):∃ e,P.underlying s=some .string∧P.underlying d=some (.slice e)∧P.underlying e=some (.int .u8):=by
  unfold oS at h
  split at h
  · rename_i e h1 h2
    split at h
    · rename_i h3; exact ⟨e,h1,h2,h3⟩
    · simp at h
  · simp at h
theorem GL {P:Program} {s d ty:TypeId} {x:Operand} {T:Env} {H:View} {n:Nat} {v:V} {av:aQ} {rd:List Nat} (hc:toStr P s d=true) (h:sI P (.wm (SX.of x)) T H n=some (v,av,rd)):sI P (.old (.convert s d x) ty) T H n=some (v,av,rd):=by
  obtain ⟨e,h1,h2,h3⟩:=Ex hc
  simp only[sI,SX.bz] at h
  simp only[sI,bp,oper,lk,h1,if_true,kA,h2,h3]
  split at h
  · rename_i es hx
    rw[hx]
    simp only[bH,dP]
    exact h
  · simp at h
inductive SB where
  | op (s:SI)
  | call (f:SX) (args:List SX)
  deriving Inhabited
structure SO where
  dst:Option Nat
  guard:Option (Nat × Bool)
  b:SB
  deriving Inhabited
structure SG where
  guard:Option (Nat × Bool)
  ops:List (Option Nat × SB)
  deriving Inhabited
inductive SC where
  | skip
  | region (quiet:Bool) (gs:List SG)
  | sT (aps:List (Nat × Nat)) (gs:List SG)
  | v7 (tol:Nat × Nat × Nat) (aps:List (Nat × Nat)) (gs:List SG)
  | seq (x y:SC)
  | cond (c:SX) (x y:SC)
  | block (id:Nat) (c:SC)
  | loop (c:SC)
  | exit (id:Nat)
  | ret
  | scope (l:Nat) (c r:SC)
  | label (l:Nat)
  | goto (l:Nat)
  deriving Inhabited
def js:SC→Nat→Option SC
  | .seq a b,l=>match js a l with
    | some r=>some (.seq r b)
    | none=>js b l
  | .label l',l=>if l' == l then some .skip else none
  | _,_=>none
def yU:SC→Option Nat
  | .seq a b=>match yU a with
    | some l=>some l
    | none=>yU b
  | .label l=>some l
  | _=>none
def sY (l:Nat):Exit→Prop→Prop→Prop
  | .goto l',a,_=>l'=l∧a
  | _,_,b=>b
inductive SR where
  | tmp (t:Nat)
  | cell (t:Nat) (sz:Option Nat)
  deriving Inhabited
def sV (P:Program) (op:Op):Nat:=match op with
  | .convert s d _=>if lk P s d=true then 2 else 0
  | .call { callee:=.builtin b,.. }=>match b with
    | .min | .max | .complex | .real | .imag=>0
    | .len=>1
    | _=>2
  | .lookup ..=>1
  | .binOp .. | .unOp .. | .index ..=>0
  | _=>2
def nX (P:Program):SI→Nat
  | .aW _ | .pick .. | .eX _ | .ux _ | .addr .. | .field .. | .idx .. | .slice .. | .iA .. | .ext .. | .len _ | .eL _ | .arith .. | .sh .. | .fX .. | .b4 .. | .not _ | .nil .. | .build .. | .sM .. | .beq .. | .mm .. | .conv .. | .wm _ | .dn _=>0
  | .load .. | .box _ | .alloc _ | .bf .. | .make .. | .ju=>1
  | .store .. | .app ..=>2
  | .old op _=>sV P op
def eT (P:Program) (quiet:Bool):SB→Nat
  | .op s=>nX P s
  | .call ..=>if quiet then 1 else 2
structure Fz where
  l:List Nat
  fr:Bool
def rp (P:Program) (fr:Bool):SI→SI
  | .load k a=>if fr then .sM k a else .load k a
  | .old (.convert s d x) ty=>if fr && toStr P s d then .wm (SX.of x) else .old (.convert s d x) ty
  | s=>s
def jJ (P:Program) (fz:Fz) (o:Oper):SB:=match o.op with
  | .call { callee:=.value f,args,.. }=>.call (SX.of f) (args.toList.map SX.of)
  | .box _ x=>if (match o.dst with | some d=>fz.l.contains d | none=>false) then .op (.eX (SX.of x)) else .op (.box (SX.of x))
  | .convert s d x=>if (match o.dst with | some t=>fz.l.contains t | none=>false) && oS P s d then .op (.dn (SX.of x)) else .op (rp P fz.fr (comp P o))
  | _=>.op (rp P fz.fr (comp P o))
def pw (n:Nat) (all:List Oper) (o:Oper):Option (Option (Nat × Bool)):=match o.guard with
  | none=>some none
  | some (j,want)=>match (all[j]?).bind (·.dst) with
    | some d=>if d < n then some (some (d,want)) else none
    | none=>none
def yx (P:Program) (n:Nat) (all:List Oper) (fz:Fz) (o:Oper):Option SO :=
  if me n o then (pw n all o).map fun g=>⟨o.dst,g,jJ P fz o⟩ else none
def bU (P:Program) (n:Nat) (all:List Oper) (fz:Fz):List Oper→Option (List SO)
  | []=>some []
  | o :: r=>match yx P n all fz o,bU P n all fz r with
    | some s,some l=>some (s :: l)
    | _,_=>none
def SG.flat (g:SG):List SO:=g.ops.map fun (d,b)=>⟨d,g.guard,b⟩
def fW (gs:List SG):List SO:=(gs.map SG.flat).flatten
def Cm (g:Option (Nat × Bool)) (s:SO):Bool:=match g,s.guard with
  | none,none=>true
  | some (d,w),some (d',w')=>d == d' && w == w' && s.dst != some d
  | _,_=>false
def group:List SO→List SG
  | []=>[]
  | s :: r=>match group r with
    | g :: gs=>if Cm g.guard s then ⟨g.guard,(s.dst,s.b) :: g.ops⟩ :: gs else ⟨s.guard,[(s.dst,s.b)]⟩ :: g :: gs
    | []=>[⟨s.guard,[(s.dst,s.b)]⟩]
theorem FG {g:Option (Nat × Bool)} {s:SO} (h:Cm g s=true):s.guard=g:=by
  unfold Cm at h
  split at h
  · rename_i h1; exact h1
  · rename_i d w d' w' h1
    simp at h; rw[h1,h.1.1,h.1.2]
  · simp at h
theorem dw:∀ l:List SO,fW (group l)=l
  | []=>rfl
  | s :: r=>by
    have ih:=dw r
    simp only[group]
    split
    · rename_i g gs hg
      rw[hg] at ih
      split
      · rename_i hj
        have:=FG hj
        rw[← ih]
        cases s with
        | mk d gd b=>simp only at this; subst this; simp[fW,SG.flat]
      · rw[← ih]; simp[fW,SG.flat]
    · rename_i hg
      rw[hg] at ih
      rw[← ih]; simp[fW,SG.flat]
def wk (o:Oper):Bool:=match o.op with
  | .load ..=>true
  | _=>false
def uh (o:Oper):Bool:=match o.op with
  | .alloc _=>true
  | _=>false
def gF (o:Oper):Option Nat:=match o.op,o.guard with
  | .store _ (.tmp t) _,none=>some t
  | _,_=>none
def HV (all:List Oper) (j k t:Nat):Bool:=match all[j]? with
  | some o=>o.dst == some t && o.guard.isNone && uh o && ((all.drop (j+1)).take (k - (j+1))).all fun o'=>o'.dst != some t
  | none=>false
def sN (all:List Oper) (i k:Nat):Bool:=match all[i]?,all[k]? with
  | some a,some b=>wk a && (match gF b with
    | some t=>(List.range k).any fun j=>decide (i < j) && HV all j k t
    | none=>false)
  | _,_=>false
def yu (all:List Oper) (ls:List Nat):Bool :=
  let b:=cY all []
  ls.zipIdx.all fun (x,i)=>ls.zipIdx.all fun (y,k)=>!decide (i < k) || ordered b i k || x == 0 || y == 0 || (decide (x≤1) && decide (y≤1)) || sN all i k
def mz (o:Oper):Option Nat:=match o.op with
  | .load _ (.tmp t)=>some t
  | _=>none
def stays (all:List Oper) (i t:Nat):Bool:=(all.drop i).all fun o=>o.dst != some t
def vn (all:List Oper) (i k:Nat):Option (Nat × Nat):=match all[i]?,all[k]? with
  | some a,some b=>match mz a,gF b with
    | some s,some t=>if stays all i s && stays all k t then some (s,t) else none
    | _,_=>match gF a,mz b with
      | some t,some s=>if stays all i t && stays all k s then some (s,t) else none
      | _,_=>none
  | _,_=>none
def rR (all:List Oper) (x i y k:Nat):Bool:=!decide (i < k) || ordered (cY all []) i k || x == 0 || y == 0 || (decide (x≤1) && decide (y≤1)) || sN all i k
def gG (all:List Oper) (ls:List Nat):List (Nat × Nat):=ls.zipIdx.flatMap fun (x,i)=>ls.zipIdx.filterMap fun (y,k)=>if rR all x i y k then none else some (i,k)
def uT (all:List Oper):List (Nat × Nat)→Option (List (Nat × Nat))
  | []=>some []
  | (i,k) :: r=>match vn all i k,uT all r with
    | some p,some l=>some (p :: l)
    | _,_=>none
def DM (o:Oper):Option Nat:=match o.op,o.guard with
  | .call { callee:=.builtin .append,args,.. },none=>match args.toList with
    | [.tmp t,_]=>some t
    | _=>none
  | _,_=>none
def ke (o:Oper):Option Nat:=match gF o with
  | some t=>some t
  | none=>DM o
def zI (o:Oper):Bool:=match o.op with
  | .buildSlice ..=>true
  | .alloc _=>true
  | _=>false
def newAt (all:List Oper) (k:Nat):Bool:=match all[k]? with
  | some b=>zI b
  | none=>false
def v8 (all:List Oper) (i k:Nat):Option (Nat × Nat):=match all[i]?,all[k]? with
  | some a,some b=>match mz a,ke b with
    | some s,some t=>if stays all i s && stays all k t then some (s,t) else none
    | _,_=>match ke a,mz b with
      | some t,some s=>if stays all i t && stays all k s then some (s,t) else none
      | _,_=>none
  | _,_=>none
def yy (all:List Oper) (ls:List Nat) (i k:Nat):Option (Nat × Nat × Nat):=match all[i]?,all[k]? with
  | some a,some b=>match a.op,b.op,a.guard,b.guard with
    | .lookup t (.tmp m) (.tmp q) false,.mapEntry t' (.tmp m') (.tmp q'),none,none =>
      if t == t' && m == m' && q == q' && stays all i m && stays all i q && stays all k m && stays all k q && decide (i < k) && (List.range k).all fun j=>decide (ls.getD j 2≤1) then some (t,m,q) else none
    | _,_,_,_=>none
  | _,_=>none
def yA (all:List Oper) (ls:List Nat) (tp:Option (Nat × Nat)):List (Nat × Nat):=(gG all ls).filter fun p=>!newAt all p.2 && tp != some p
def sW (o:Oper):Option (Nat × Nat × Nat):=match o.op,o.guard,o.dst with
  | .call { callee:=.builtin .append,args,.. },none,some d=>match args.toList with
    | [.tmp t,.tmp y]=>some (t,y,d)
    | _=>none
  | _,_,_=>none
def wj (all:List Oper) (i k:Nat):Option (List (Nat × Nat)):=match all[i]?,all[k]? with
  | some a,some b=>match sW a,sW b with
    | some (t,y,d),some (t',y',_)=>if stays all i t && stays all i y && stays all (i+1) d && stays all k t' && stays all k y' then some [(t,t'),(t,y'),(t',y),(d,t')] else none
    | _,_=>none
  | _,_=>none
def sL (all:List Oper) (i k:Nat):Option (List (Nat × Nat)):=match v8 all i k with
  | some p=>some [p]
  | none=>wj all i k
def oQ (all:List Oper):List (Nat × Nat)→Option (List (Nat × Nat))
  | []=>some []
  | (i,k) :: r=>match sL all i k,oQ all r with
    | some p,some l=>some (p ++ l)
    | _,_=>none
def nD (g:SG):Bool:=match g.guard with
  | none=>true
  | some (d,_)=>g.ops.all fun x=>x.1 != some d
def nh (P:Program) (n:Nat) (fz:Fz) (ops:List Oper) (draw quiet:Bool):Option SC:=match bU P n ops fz ops with
  | none=>none
  | some l=>if !(group l).all nD then none else
    if draw then (if ic ops && yu ops (l.map fun s=>eT P quiet s.b) then some (.region quiet (group l)) else none)
    else some (.region quiet (group l))
def u9 (P:Program) (n:Nat) (fz:Fz) (ops:List Oper):Option SC:=match bU P n ops fz ops with
  | none=>none
  | some l=>if !(group l).all nD then none else
    if ic ops then (uT ops (gG ops (l.map fun s=>eT P false s.b))).map fun aps=>.sT aps (group l) else none
def GS (all:List Oper) (ls:List Nat):Option (Nat × Nat):=(gG all ls).find? fun p=>(yy all ls p.1 p.2).isSome
def vO (P:Program) (n:Nat) (fz:Fz) (ops:List Oper):Option SC:=match bU P n ops fz ops with
  | none=>none
  | some l=>if !(group l).all nD then none else
    if ic ops then
      (match GS ops (l.map fun s=>eT P false s.b) with
      | none=>(oQ ops (yA ops (l.map fun s=>eT P false s.b) none)).map fun aps=>.sT aps (group l)
      | some p=>match yy ops (l.map fun s=>eT P false s.b) p.1 p.2 with
        | some tol=>(oQ ops (yA ops (l.map fun s=>eT P false s.b) (some p))).map fun aps=>.v7 tol aps (group l)
        | none=>none)
    else none
def Ii:Nat:=100000
def orElse':Option SC→Option SC→Option SC
  | some x,_=>some x
  | none,y=>y
def u5 (P:Program) (n:Nat) (fz:List Nat) (ops:List Oper) (draw:Bool):Option SC :=
  orElse' (nh P n ⟨fz,false⟩ ops draw false) (if draw then orElse' (if fz.contains Ii then vO P n ⟨fz,false⟩ ops else none) <| orElse' (u9 P n ⟨fz,false⟩ ops) (orElse' (nh P n ⟨fz,false⟩ ops true true) (orElse' (nh P n ⟨fz,true⟩ ops true false) (nh P n ⟨fz,true⟩ ops true true))) else none)
def bG (P:Program) (n:Nat) (fz:List Nat):Code→Option SC
  | .skip=>some .skip
  | .region _ ops draw=>u5 P n fz ops.toList draw
  | .seq x y=>match bG P n fz x,bG P n fz y with
    | some a,some b=>some (.seq a b)
    | _,_=>none
  | .cond c x y=>match bG P n fz x,bG P n fz y with
    | some a,some b=>some (.cond (SX.of c) a b)
    | _,_=>none
  | .block id c=>(bG P n fz c).map (.block id)
  | .loop c=>(bG P n fz c).map .loop
  | .exit id=>some (.exit id)
  | .ret=>some .ret
  | .scope c=>match bG P n fz c with
    | some sc=>match yU sc with
      | some l=>(js sc l).map fun r=>.scope l sc r
      | none=>none
    | none=>none
  | .label l=>some (.label l)
  | .goto l=>some (.goto l)
  | _=>none
def eO (h h':ax):Prop:=∀ id,id < h.length→h.view id=.dead→h'.view id=.dead
theorem eO.refl (h:ax):eO h h:=fun _ _ e=>e
theorem eO.trans {a b c:ax} (h:eO a b) (k:eO b c) (hl:a.length≤b.length):eO a c:=fun id hid e=>k id (Nat.lt_of_lt_of_le hid hl) (h id hid e)
def aA (P:Program) (f:FuncId) (vs:List V) (H:View) (K:V→View→Prop):Prop :=
  bQ P f=true∧∀ h:ax,h.view=H→∃ r h',bm P f vs h r h'∧eO h h'∧K r h'.view
def yD (P:Program) (f:FuncId) (vs:List V) (H:View) (K:V→View→Prop):Prop :=
  bQ P f=true∧∀ h:ax,h.view=H→∃ r h',bm P f vs h r h'∧(∀ id,id < h.length→h'.view id=h.view id)∧K r h'.view
def fB (sz:Option Nat) (e:List V) (j:Nat) (K:V→Prop):Prop:=match sz with
  | some n=>j+n≤e.length∧K (.agg ((e.drop j).take n))
  | none=>j < e.length∧K (e.getD j .any)
def wI (P:Program) (s:SI) (T:Env) (H:View) (K:V→View→Prop):Prop:=match s with
  | .aW x=>K (x.at T) H
  | .pick c a b=>match c.at T with
    | .val (.bool t)=>K (if t then a.at T else b.at T) H
    | _=>False
  | .box x=>(x.at T).cells.all aS=true∧∀ n,H n=.dead→K (.ptr n 0 0) (H.set n (.arr (x.at T).cells.length [(x.at T).cells]))
  | .eX x=>(x.at T).cells.all aS=true∧K (.aN (x.at T).cells 0) H
  | .alloc z=>z.all aS=true∧∀ n,H n=.dead→K (.ptr n 0 0) (H.set n (.arr z.length [z]))
  | .load sz a=>match a.at T with
    | .ptr id i j=>match H id with
      | .arr _ es=>i < es.length∧fB sz (es.getD i []) j fun v=>K v H
      | _=>False
    | .aN e j=>fB sz e j fun v=>K v H
    | _=>False
  | .sM sz a=>match a.at T with
    | .aN e j=>fB sz e j fun v=>K v H
    | _=>False
  | .store sz a x=>match a.at T with
    | .ptr id i j=>match H id with
      | .arr esz es=>(i < es.length∧(x.at T).cells.length=sz∧j+(x.at T).cells.length≤esz∧(x.at T).cells.all aS=true) ∧
          K .any (H.set id (.arr esz (es.set i (ab (es.getD i []) j (x.at T).cells))))
      | _=>False
    | _=>False
  | .ux x=>match x.at T with
    | .ptr id i j=>K (.ptr id i j) H
    | .aN e j=>K (.aN e j) H
    | .fn f a b=>K (.fn f a b) H
    | _=>False
  | .addr off x=>match x.at T with
    | .ptr id i j=>K (.ptr id i (j+off)) H
    | .aN e j=>K (.aN e (j+off)) H
    | _=>False
  | .field off sz x=>match x.at T with
    | .agg cs=>fB sz cs off fun v=>K v H
    | _=>False
  | .idx sz x i=>match asNat (i.at T) with
    | none=>False
    | some q=>match x.at T with
      | .sl id off len esz=>(q < len∧esz=sz)∧K (.ptr id (off+q) 0) H
      | .aP es=>∃ e,es[q]?=some e∧e.length=sz∧K (.aN e 0) H
      | _=>False
  | .iA f first cap=>K (.fn f (first.map (SX.at T)) (cap.map (SX.at T))) H
  | .ju=>∀ n,H n=.dead→K (.mp n) (H.set n (.map [] 0))
  | .ext i x=>match x.at T with
    | .bg vs=>i < vs.length∧K (vs.getD i .any) H
    | _=>False
  | .len x=>match dP (x.at T) with
    | some n=>K (an n) H
    | none=>False
  | .eL x=>match x.at T with
    | .val (.string s)=>K (an s.size) H
    | _=>False
  | .arith op x y=>match x.at T,y.at T with
    | .val (.int k a),.val (.int k' b)=>k=k'∧(match ah op k a b with | some v=>K (.val v) H | none=>False)
    | _,_=>False
  | .fX op x y=>match x.at T,y.at T with
    | .val (.string a),.val (.string b)=>(match op with
      | .eql=>K (.val (.bool (eH a b))) H
      | .neq=>K (.val (.bool (!eH a b))) H
      | _=>False)
    | _,_=>False
  | .b4 x i=>match x.at T,asNat (i.at T) with
    | .val (.string s),some q=>∃ b,s.data.toList[q]?=some b∧K (.val (.int .u8 b.toNat)) H
    | _,_=>False
  | .not x=>match x.at T with
    | .val (.bool t)=>K (.val (.bool (!t))) H
    | _=>False
  | .nil eq k x y=>match aj (isNil k (x.at T)) (isNil k (y.at T)) with
    | some b=>K (.val (.bool (if eq then b else !b))) H
    | none=>False
  | .beq eq x y=>match x.at T,y.at T with
    | .val (.bool a),.val (.bool b)=>K (.val (.bool (if eq then a == b else a != b))) H
    | _,_=>False
  | .mm mx x y=>match x.at T,y.at T with
    | .val (.int k a),.val (.int _ b)=>K (.val (.int k (if mx then (if b > a then b else a) else (if b < a then b else a)))) H
    | _,_=>False
  | .conv k x=>match x.at T with
    | .val (.int _ a)=>K (.val (.int k (k.wrap a))) H
    | _=>False
  | .sh l x y=>match x.at T,y.at T with
    | .val (.int k a),.val (.int _ b)=>0≤b∧K (.val (.int k (C7 l k a b))) H
    | _,_=>False
  | .build z parts=>match ae z (parts.map fun (a,b,x)=>(a,b,x.at T)) with
    | some cs=>K (.agg cs) H
    | none=>False
  | .bf len sz z parts=>match ag sz (List.replicate len z) (parts.map fun (i,x)=>(i,x.at T)) with
    | some es=>∀ n,H n=.dead→K (.sl n 0 len sz) (H.set n (.arr sz es))
    | none=>False
  | .slice sz x lo hi=>match oO sz (x.at T) (lo.map (SX.at T)) (hi.map (SX.at T)) with
    | some (v,.none,_)=>K v H
    | _=>False
  | .make sz bytes z l c=>match asNat (l.at T),asNat (c.at T) with
    | some l,some c=>(l≤c∧c < aZ∧bytes * c < aZ)∧(c=0→K (.emp 2) H)∧(c≠0→∀ n,H n=.dead→K (.sl n 0 l sz) (H.set n (.arr sz (List.replicate l z))))
    | _,_=>False
  | .app sz bytes x y=>match bH H (y.at T) with
    | some (xs,_)=>if xs.isEmpty=true then (match x.at T with
        | .emp k=>K (.emp k) H
        | .cp=>K .cp H
        | .aP es=>K (.aP es) H
        | .sl a b c d=>K (.sl a b c d) H
        | _=>False)
      else (xs.all fun e=>e.length == sz && e.all aS)=true∧(match x.at T with
        | .emp _=>(xs.length * bytes < aZ∧xs.length < aZ)∧∀ n,H n=.dead→K (.sl n 0 xs.length sz) (H.set n (.arr sz xs))
        | .sl id off len esz=>match H id with
          | .arr _ es=>(off+len≤es.length∧esz=sz∧(len+xs.length) * bytes < aZ∧len+xs.length < aZ) ∧
              ∀ n,H n=.dead→K (.sl n 0 (len+xs.length) esz) ((H.set id .dead).set n (.arr esz ((es.drop off).take len ++ xs)))
          | _=>False
        | _=>False)
    | none=>False
  | .wm x=>match x.at T with
    | .aP es=>(match kV es with
      | some l=>K (.val (.string ⟨l.toArray⟩)) H
      | none=>False)
    | _=>False
  | .dn x=>match x.at T with
    | .val (.string s)=>K (.aP (dF s)) H
    | _=>False
  | s=>∀ n,H n=.dead→∃ v av rd,sI P s T H n=some (v,av,rd)∧K v (av.view H n)
def wB (P:Program) (quiet:Bool) (b:SB) (T:Env) (H:View) (K:V→View→Prop):Prop:=match b with
  | .op s=>wI P s T H K
  | .call f args=>match f.at T with
    | .fn g first cap=>if quiet then yD P g (first ++ args.map (SX.at T) ++ cap) H K else aA P g (first ++ args.map (SX.at T) ++ cap) H K
    | _=>False
def sg (P:Program) (quiet:Bool):List (Option Nat × SB)→Env→View→(Env→View→Prop)→Prop
  | [],T,H,K=>K T H
  | (d,b) :: r,T,H,K=>wB P quiet b T H fun v H'=>sg P quiet r (T.put d v) H' K
def ey:List (Option Nat × SB)→Env→Env
  | [],T=>T
  | (d,_) :: r,T=>ey r (T.put d (.bg []))
def wG (P:Program) (quiet:Bool) (g:SG) (T:Env) (H:View) (K:Env→View→Prop):Prop:=match g.guard with
  | none=>sg P quiet g.ops T H K
  | some (d,want)=>match T d with
    | .val (.bool b)=>(b=want→sg P quiet g.ops (T.put (some d) (.val (.bool want))) H K)∧(b = !want→K (ey g.ops (T.put (some d) (.val (.bool (!want))))) H)
    | .bg []=>K (ey g.ops T) H
    | _=>False
def qH (P:Program) (quiet:Bool):List SG→Env→View→(Env→View→Prop)→Prop
  | [],T,H,K=>K T H
  | g :: r,T,H,K=>wG P quiet g T H fun T' H'=>qH P quiet r T' H' K
def nK (c:SX) (b:Bool) (T:Env):Env:=match c with
  | .tmp t=>T.put (some t) (.val (.bool b))
  | _=>T
def tl:Exit→Prop→Prop→Prop
  | .normal,a,_=>a
  | _,_,b=>b
def eF (a b:V):Prop:=match a,b with
  | .ptr i _ _,.ptr j _ _=>i≠j
  | .ptr i _ _,.sl j _ _ _=>i≠j
  | .ptr _ _ _,.emp _=>True
  | .ptr _ _ _,.cp=>True
  | .ptr _ _ _,.aP _=>True
  | .aN _ _,_=>True
  | .sl i _ _ _,.sl j _ _ _=>i≠j
  | .sl _ _ _ _,.emp _=>True
  | .sl _ _ _ _,.cp=>True
  | .sl _ _ _ _,.aP _=>True
  | .emp _,_=>True
  | .cp,_=>True
  | .aP _,_=>True
  | _,_=>False
def Cl (P:Program) (t:TypeId) (m q:V) (H:View):Prop:=match m with
  | .mp id=>(∃ es c,H id=.map es c)∧∀ v obj rd,cO P t (.mp id) q H=some (v,.dQ id obj,rd)→dq P t (.mp id) q false (H.set id obj)=dq P t (.mp id) q false H
  | _=>False
def rz:List (Nat × Nat)→Env→Prop→Prop
  | [],_,K=>K
  | p :: l,T,K=>eF (T p.1) (T p.2)∧rz l T K
def wS (P:Program):SC→Env→View→(Exit→Env→View→Prop)→Prop
  | .skip,T,H,Q=>Q .normal T H
  | .region quiet gs,T,H,Q=>qH P quiet gs T H (Q .normal)
  | .sT aps gs,T,H,Q=>qH P false gs T H fun T' H'=>rz aps T' (Q .normal T' H')
  | .v7 tol aps gs,T,H,Q=>qH P false gs T H fun T' H'=>Cl P tol.1 (T' tol.2.1) (T' tol.2.2) H∧rz aps T' (Q .normal T' H')
  | .seq x y,T,H,Q=>wS P x T H fun e T' H'=>tl e (wS P y T' H' Q) (Q e T' H')
  | .cond c x y,T,H,Q=>match c.at T with
    | .val (.bool b)=>(b=true→wS P x (nK c true T) H Q)∧(b=false→wS P y (nK c false T) H Q)
    | _=>False
  | .block id c,T,H,Q=>wS P c T H fun e=>Q (kP id e)
  | .loop c,T,H,Q=>∃ I:Nat→Env→View→Prop,(∃ k,I k T H)∧∀ k T H,I k T H→wS P c T H fun e T' H'=>tl e (∃ k',k' < k∧I k' T' H') (Q e T' H')
  | .exit id,T,H,Q=>Q (.exit id) T H
  | .ret,T,H,Q=>Q .ret T H
  | .scope l c r,T,H,Q=>∃ (I:Nat→Env→View→Prop) (K:Nat),wS P c T H (fun e T' H'=>sY l e (∃ k,k < K∧I k T' H') (Q e T' H'))∧∀ k T H,I k T H→wS P r T H fun e T' H'=>sY l e (∃ k',k' < k∧I k' T' H') (Q e T' H')
  | .label _,T,H,Q=>Q .normal T H
  | .goto l,T,H,Q=>Q (.goto l) T H
def wR (T:Env) (H:View) (r:SR) (K:V→Prop):Prop:=match r with
  | .tmp t=>K (T t)
  | .cell t sz=>match T t with
    | .ptr id i j=>match H id with
      | .arr _ es=>i < es.length∧fB sz (es.getD i []) j K
      | _=>False
    | .aN e j=>fB sz e j K
    | _=>False
def uG (T:Env) (H:View):List SR→List V→(List V→Prop)→Prop
  | [],acc,K=>K acc
  | r :: l,acc,K=>wR T H r fun v=>uG T H l (acc ++ [v]) K
def ai:List V→V
  | [v]=>v
  | vs=>.bg vs
def c6 (P:Program):List ResultVar→Option (List SR)
  | []=>some []
  | .tmp t :: r=>(c6 P r).map (.tmp t :: ·)
  | .cell a t :: r=>match vL P t,c6 P r with
    | some k,some l=>some (.cell a k :: l)
    | _,_=>none
structure SF where
  code:SC
  res:List SR
  n:Nat
abbrev aa (a b:Nat):Option Nat × SB:=(some a,.op (.aW (.tmp b)))
abbrev ay (a:Nat) (n:Int):Option Nat × SB:=(some a,.op (.aW (.val (.val (.int .i64 n)))))
abbrev aL (a:Nat) (n:Bool):Option Nat × SB:=(some a,.op (.aW (.val (.val (.bool n)))))
abbrev ak (a b:Nat):Option Nat × SB:=(some a,.op (.load none (.tmp b)))
abbrev aG (a k b:Nat):Option Nat × SB:=(some a,.op (.load (some k) (.tmp b)))
abbrev al (a k b:Nat):Option Nat × SB:=(some a,.op (.addr k (.tmp b)))
abbrev aJ (a k b c:Nat):Option Nat × SB:=(some a,.op (.idx k (.tmp b) (.tmp c)))
abbrev aX (a b c:Nat):Option Nat × SB:=(some a,.op (.pick (.tmp b) (.val (.val (.bool true))) (.tmp c)))
abbrev bh (a b c:Nat):Option Nat × SB:=(some a,.op (.pick (.tmp b) (.tmp c) (.val (.val (.bool false)))))
abbrev aF (a:Nat) (o:BinOp) (b c:Nat):Option Nat × SB:=(some a,.op (.arith o (.tmp b) (.tmp c)))
abbrev aq (a:Nat) (o:BinOp) (b:Nat) (n:Int):Option Nat × SB:=(some a,.op (.arith o (.tmp b) (.val (.val (.int .i64 n)))))
abbrev aC (a b:Nat):Option Nat × SB:=(some a,.op (.len (.tmp b)))
abbrev bE (a k b:Nat):Option Nat × SB:=(some a,.op (.ext k (.tmp b)))
abbrev bC (a b:Nat):Option Nat × SB:=(some a,.op (.not (.tmp b)))
abbrev bo (a b:Nat):Option Nat × SB:=(some a,.op (.eX (.tmp b)))
abbrev aR (a b:Nat):Option Nat × SB:=(some a,.op (.ux (.tmp b)))
abbrev bT (a f:Nat) (l:List SX):Option Nat × SB:=(some a,.call (.val (.fn f [] [])) l)
abbrev aB (a f:Nat) (l:List Nat):Option Nat × SB:=(some a,.call (.val (.fn f [] [])) (l.map .tmp))
abbrev ao (l:List (Option Nat × SB)):SC:=.region false [⟨none,l⟩]
def aY (P:Program) (f:FuncId) (fz:List Nat):Option SF:=match P.funcs[f]? with
  | some fn=>match fn.body with
    | some c=>match bG P fn.ntmps fz c,c6 P fn.results.toList,bQ P f with
      | some sc,some rs,true=>some ⟨sc,rs,fn.ntmps⟩
      | _,_,_=>none
    | none=>none
  | none=>none
theorem kB {sz:Option Nat} {e:List V} {j:Nat} {K:V→Prop} (h:fB sz e j K):∃ v,im sz e j=some v∧K v:=by
  cases sz with
  | none=>exact ⟨_,by simp only[im]; rw[if_pos h.1],h.2⟩
  | some n=>exact ⟨_,by simp only[im]; rw[if_pos h.1],h.2⟩
theorem Ik {P:Program} {s:SI} {T:Env} {H:View} {K:V→View→Prop} (h:wI P s T H K) {n:Nat} (hn:H n=.dead) :
    ∃ v av rd,sI P s T H n=some (v,av,rd)∧K v (av.view H n):=by
  unfold wI at h
  split at h
  · exact ⟨_,_,_,rfl,h⟩
  · split at h
    · rename_i t ht; exact ⟨_,_,_,by simp only[sI,ht]; rfl,h⟩
    · exact h.elim
  · exact ⟨_,_,_,by simp only[sI,hD]; rw[if_pos h.1],h.2 n hn⟩
  · exact ⟨_,_,_,by simp only[sI]; rw[if_pos h.1],h.2⟩
  · exact ⟨_,_,_,by simp only[sI,hD]; rw[if_pos h.1],h.2 n hn⟩
  · split at h
    · rename_i id i j ha
      split at h
      · rename_i es hH
        obtain ⟨h1,h2⟩:=h
        obtain ⟨v,hv,hk⟩:=kB h2
        exact ⟨_,_,_,by simp only[sI,pG,ha,hH]; rw[if_pos h1,hv]; rfl,hk⟩
      · exact h.elim
    · rename_i e j ha
      obtain ⟨v,hv,hk⟩:=kB h
      exact ⟨_,_,_,by simp only[sI,pG,ha]; rw[hv]; rfl,hk⟩
    · exact h.elim
  · split at h
    · rename_i e j ha
      obtain ⟨v,hv,hk⟩:=kB h
      exact ⟨_,_,_,by simp only[sI,ha]; rw[hv]; rfl,hk⟩
    · exact h.elim
  · split at h
    · rename_i id i j ha
      split at h
      · rename_i esz es hH
        exact ⟨_,_,_,by simp only[sI,uQ,ha,hH]; rw[if_pos h.1],h.2⟩
      · exact h.elim
    · exact h.elim
  · split at h
    · rename_i hx; exact ⟨_,_,_,by simp only[sI,hx]; rfl,h⟩
    · rename_i hx; exact ⟨_,_,_,by simp only[sI,hx]; rfl,h⟩
    · rename_i hx; exact ⟨_,_,_,by simp only[sI,hx]; rfl,h⟩
    · exact h.elim
  · split at h
    · rename_i hx; exact ⟨_,_,_,by simp only[sI,sS,hx]; rfl,h⟩
    · rename_i hx; exact ⟨_,_,_,by simp only[sI,sS,hx]; rfl,h⟩
    · exact h.elim
  · split at h
    · rename_i cs hx
      obtain ⟨v,hv,hk⟩:=kB h
      exact ⟨_,_,_,by simp only[sI,hx,hv]; rfl,hk⟩
    · exact h.elim
  · split at h
    · exact h.elim
    · rename_i q hq
      split at h
      · rename_i hx; exact ⟨_,_,_,by simp only[sI,wc,hq,hx]; rw[if_pos h.1],h.2⟩
      · rename_i es hx
        obtain ⟨e,he,hl,hk⟩:=h
        have hlt:q < es.length:=(List.getElem?_eq_some_iff.1 he).1
        have hge:es.getD q []=e:=by simp[List.getD_eq_getElem?_getD,he]
        exact ⟨_,_,_,by simp only[sI,wc,hq,hx]; rw[hge,if_pos ⟨hlt,hl⟩],hk⟩
      · exact h.elim
  · exact ⟨_,_,_,rfl,h⟩
  · exact ⟨_,_,_,rfl,h n hn⟩
  · split at h
    · rename_i vs hx; exact ⟨_,_,_,by simp only[sI,hx]; rw[if_pos h.1],h.2⟩
    · exact h.elim
  · split at h
    · rename_i m hx; exact ⟨_,_,_,by simp only[sI,hx]; rfl,h⟩
    · exact h.elim
  · split at h
    · rename_i s hx; exact ⟨_,_,_,by simp only[sI,hx]; rfl,h⟩
    · exact h.elim
  · split at h
    · rename_i k a k' b hx hy
      obtain ⟨rfl,h⟩:=h
      split at h
      · rename_i v hv; exact ⟨_,_,_,by simp only[sI,rA,hx,hy,if_true,hv]; rfl,h⟩
      · exact h.elim
    · exact h.elim
  · split at h
    · rename_i a b hx hy
      split at h
      · exact ⟨_,_,_,by simp only[sI,tO,hx,hy]; rfl,h⟩
      · exact ⟨_,_,_,by simp only[sI,tO,hx,hy]; rfl,h⟩
      · exact h.elim
    · exact h.elim
  · split at h
    · rename_i s q hx hq
      obtain ⟨b,hb,hk⟩:=h
      exact ⟨_,_,_,by simp only[sI,uW,hx,hq,hb]; rfl,hk⟩
    · exact h.elim
  · split at h
    · rename_i t hx; exact ⟨_,_,_,by simp only[sI,hx]; rfl,h⟩
    · exact h.elim
  · split at h
    · rename_i b hb; exact ⟨_,_,_,by simp only[sI,hb]; rfl,h⟩
    · exact h.elim
  · split at h
    · rename_i hx hy; exact ⟨_,_,_,by simp only[sI,hx,hy]; rfl,h⟩
    · exact h.elim
  · split at h
    · rename_i hx hy; exact ⟨_,_,_,by simp only[sI,hx,hy]; rfl,h⟩
    · exact h.elim
  · split at h
    · rename_i hx; exact ⟨_,_,_,by simp only[sI,hx]; rfl,h⟩
    · exact h.elim
  · split at h
    · rename_i hx hy; exact ⟨_,_,_,by simp only[sI,DV,hx,hy]; rw[if_neg (by omega)],h.2⟩
    · exact h.elim
  · split at h
    · rename_i cs hb; exact ⟨_,_,_,by simp only[sI,hb]; rfl,h⟩
    · exact h.elim
  · split at h
    · rename_i es hb; exact ⟨_,_,_,by simp only[sI,sP,hb]; rfl,h n hn⟩
    · exact h.elim
  · split at h
    · rename_i v rd hb; exact ⟨_,_,_,by simp only[sI,hb]; rfl,h⟩
    · exact h.elim
  · split at h
    · rename_i l c hl hc
      obtain ⟨h1,h2,h3⟩:=h
      by_cases e:c=0
      · exact ⟨.emp 2,.none,[],by simp only[sI,uX,hl,hc]; rw[if_pos h1,if_pos e],h2 e⟩
      · exact ⟨_,_,_,by simp only[sI,uX,hl,hc]; rw[if_pos h1,if_neg e],h3 e n hn⟩
    · exact h.elim
  · split at h
    · rename_i xs rd hel
      split at h
      · rename_i he
        split at h
        all_goals first
          | (rename_i hx; exact ⟨_,_,_,by simp only[sI,y7,hel]; rw[if_pos he,hx],h⟩)
          | exact h.elim
      · rename_i he
        obtain ⟨h1,h2⟩:=h
        split at h2
        · rename_i hx
          exact ⟨_,_,_,by simp only[sI,y7,hel]; rw[if_neg he,if_neg (by rw[h1]; simp),hx]; simp only; rw[if_pos h2.1],h2.2 n hn⟩
        · rename_i id off len esz hx
          split at h2
          · rename_i z es hH
            exact ⟨_,_,_,by simp only[sI,y7,hel]; rw[if_neg he,if_neg (by rw[h1]; simp),hx]; simp only[hH]; rw[if_pos h2.1],h2.2 n hn⟩
          · exact h2.elim
        · exact h2.elim
    · exact h.elim
  · split at h
    · rename_i hx
      split at h
      · rename_i l hl; exact ⟨_,_,_,by simp only[sI,hx,hl]; rfl,h⟩
      · exact h.elim
    · exact h.elim
  · split at h
    · rename_i hx; exact ⟨_,_,_,by simp only[sI,hx]; rfl,h⟩
    · exact h.elim
  · exact h n hn
def gD (k:Nat) (rd wr:List Nat) (call:Bool) (n n':Nat):Prop :=
  (k=0→rd=[]∧wr=[]∧call=false∧n'=n)∧(k≤1→wr=[])
theorem GK {k:Nat} (h:k=2) {rd wr:List Nat} {call:Bool} {n n':Nat} : gD k rd wr call n n':=⟨fun h'=>by omega,fun h'=>by omega⟩
theorem kS {P:Program} {o:Oper} {T:Env} {v:V} {av:aQ} {rd:List Nat} (h:bZ P o T=some (v,av,rd)):av=.none∧rd=[]:=by
  unfold bZ at h
  split at h
  · split at h
    · split at h
      · simp at h; exact ⟨h.2.1.symm,h.2.2⟩
      · simp at h
    · simp at h
  · simp at h
theorem Fl {P:Program} {o:Oper} {T:Env} {H:View} {n:Nat} {v:V} {av:aQ} {rd:List Nat} (h:bp P o T H n=some (v,av,rd)) :
    (sV P o.op=0→av=.none∧rd=[])∧(sV P o.op=1→av.wr=[]):=by
  unfold sV
  split
  · rename_i s d x ho
    simp only[bp,ho] at h
    split
    · exact ⟨fun h=>by simp at h,fun h=>by simp at h⟩
    · rename_i hb
      rw[if_neg hb] at h
      exact ⟨fun _=>kS h,fun h=>by simp at h⟩
  · rename_i b args ats ho
    simp only[bp,ho] at h
    split
    any_goals exact ⟨fun _=>kS h,fun h=>by simp at h⟩
    · refine ⟨fun h=>by simp at h,fun _=>?_⟩
      split at h
      · rename_i hargs
        split at h
        · simp only[oC] at h
          have nn:∀ {v':V} {r:List Nat},some (v',aQ.none,r)=some (v,av,rd)→av.wr=[]:=fun e=>by
            simp only[Option.some.injEq,Prod.mk.injEq] at e; rw[← e.2.1]; rfl
          split at h
          · simp only[Option.map_eq_some_iff] at h
            obtain ⟨_,_,h⟩:=h
            exact nn (congrArg some h)
          · split at h
            · split at h
              · exact nn h
              · simp at h
            · exact nn h
            · simp at h
          · split at h
            · exact nn h
            · simp at h
          · exact nn h
          · simp at h
        · simp at h
      any_goals simp at h
      all_goals contradiction
    · exact ⟨fun h=>by simp at h,fun h=>by simp at h⟩
  · rename_i t m k ok ho
    refine ⟨fun h=>by simp at h,fun _=>?_⟩
    simp only[bp,ho,dq] at h
    have nn:∀ {v':V} {r:List Nat},some (v',aQ.none,r)=some (v,av,rd)→av.wr=[]:=fun e=>by
      simp only[Option.some.injEq,Prod.mk.injEq] at e; rw[← e.2.1]; rfl
    split at h
    · simp at h
    · split at h
      · simp at h
      · split at h
        · split at h
          · split at h
            · split at h
              · exact nn h
              · simp at h
            · exact nn h
            · simp at h
          · simp at h
        · simp at h
  · rename_i op t x y u ho
    refine ⟨fun _=>?_,fun h=>by simp at h⟩
    simp only[bp,ho] at h
    split at h
    · split at h
      · simp at h; exact ⟨h.2.1.symm,h.2.2⟩
      · simp at h; exact ⟨h.2.1.symm,h.2.2⟩
      · simp at h
    · exact kS h
  · rename_i op t x ho
    exact ⟨fun _=>kS (by simpa only [bp,ho] using h),fun h=>by simp at h⟩
  · rename_i t x i ho
    exact ⟨fun _=>kS (by simpa only [bp,ho] using h),fun h=>by simp at h⟩
  · exact ⟨fun h=>by simp at h,fun h=>by simp at h⟩
theorem my {P:Program} {s:SI} {T:Env} {H:View} {n:Nat} {v:V} {av:aQ} {rd:List Nat} (h:sI P s T H n=some (v,av,rd)) :
    (nX P s=0→av=.none∧rd=[])∧(nX P s=1→av.wr=[]):=by
  have nn:∀ {v':V},some (v',aQ.none,([]:List Nat))=some (v,av,rd)→av=.none∧rd=[]:=fun e=>by
    simp only[Option.some.injEq,Prod.mk.injEq] at e; exact ⟨e.2.1.symm,e.2.2.symm⟩
  have mp:∀ {α:Type} {x:Option α} {f:α→V},(x.map fun a=>(f a,aQ.none,([]:List Nat)))=some (v,av,rd)→av=.none∧rd=[]:=by
    intro α x f h
    simp only[Option.map_eq_some_iff] at h
    obtain ⟨a,_,h⟩:=h
    simp only[Prod.mk.injEq] at h; exact ⟨h.2.1.symm,h.2.2.symm⟩
  have nw:∀ {v':V} {o:cZ} {r:List Nat},some (v',aQ.new o,r)=some (v,av,rd)→av.wr=[]:=fun e=>by
    simp only[Option.some.injEq,Prod.mk.injEq] at e; rw[← e.2.1]; rfl
  have n1:∀ {v':V} {r:List Nat},some (v',aQ.none,r)=some (v,av,rd)→av.wr=[]:=fun e=>by
    simp only[Option.some.injEq,Prod.mk.injEq] at e; rw[← e.2.1]; rfl
  unfold nX
  cases s <;> simp only[sI] at h
  case old op ty=>exact Fl (o:=oper op ty) h
  all_goals
    constructor <;> intro hk <;> first
      | (exfalso; revert hk; simp; done)
      | skip
  all_goals try simp only[pG,hD,sS,wc,oO,uX,sP,rA,DV,tO,uW] at h
  all_goals first
    | exact nn h
    | exact mp h
    | exact nw h
    | exact n1 h
    | skip
  all_goals repeat' (split at h)
  all_goals first
    | exact nn h
    | exact mp h
    | exact nw h
    | exact n1 h
    | (simp at h; done)
    | (simp only[Option.map_eq_some_iff,Prod.mk.injEq] at h; obtain ⟨_,_,_,rfl,_⟩:=h; rfl)
end Gv
