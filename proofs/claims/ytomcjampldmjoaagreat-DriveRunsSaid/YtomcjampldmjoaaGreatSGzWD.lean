/-
  Part 4 of the proof: what the machine does and what the functions answer.
  Conditions: those that each lemma names.
-/
import Derived.Test.YtomcjampldmjoaaGreatSGzWC
set_option linter.unusedSimpArgs false
set_option linter.unusedVariables false
set_option maxRecDepth 100000
namespace Gv
open Go
inductive SX where
  | tmp (t:Nat)
  | val (v:V)
  deriving Inhabited
def SX.of:Operand→SX
  | .tmp t=>.tmp t
  | .const v=>.val (er v)
  | .global _=>.val .any
  | .func f=>.val (.fn f [] [])
def SX.at (T:Env):SX→V
  | .tmp t=>T t
  | .val v=>v
theorem SX.bO (T:Env) (x:Operand):(SX.of x).at T=ev T x:=by cases x <;> rfl
inductive SI where
  | aW (x:SX)
  | pick (c a b:SX)
  | box (x:SX)
  | fL (x:SX)
  | alloc (z:List V)
  | build (z:List V) (parts:List (Nat × Nat × SX))
  | aS (len sz:Nat) (z:List V) (parts:List (Nat × SX))
  | load (sz:Option Nat) (a:SX)
  | xi (sz:Option Nat) (a:SX)
  | store (sz:Nat) (a x:SX)
  | xS (x:SX)
  | addr (off:Nat) (x:SX)
  | field (off:Nat) (sz:Option Nat) (x:SX)
  | idx (sz:Nat) (x i:SX)
  | slice (sz:Nat) (x:SX) (lo hi:Option SX)
  | make (sz bytes:Nat) (z:List V) (l c:SX)
  | xf
  | q8 (f:FuncId) (first cap:List SX)
  | ext (i:Nat) (x:SX)
  | len (x:SX)
  | fp (x:SX)
  | app (sz bytes:Nat) (x y:SX)
  | arith (op:BinOp) (x y:SX)
  | sh (left:Bool) (x y:SX)
  | gD (op:BinOp) (x y:SX)
  | cF (x i:SX)
  | not (x:SX)
  | nil (eq:Bool) (k:Nat) (x y:SX)
  | beq (eq:Bool) (x y:SX)
  | mm (mx:Bool) (x y:SX)
  | conv (k:IntKind) (x:SX)
  | Ax (x:SX)
  | dV (x:SX)
  | old (op:Op) (ty:TypeId)
  deriving Inhabited
def je:Option Nat→List V→Nat→Option V
  | some n,cs,off=>if off+n≤cs.length then some (.agg ((cs.drop off).take n)) else none
  | none,cs,off=>if off < cs.length then some (cs.getD off .any) else none
def uf (sz:Option Nat) (a:V) (H:View):Out:=match a with
  | .ptr id i j=>match H id with
    | .arr _ es=>if i < es.length then (je sz (es.getD i []) j).map fun v=>(v,.none,[id]) else none
    | _=>none
  | .aQ e j=>(je sz e j).map fun v=>(v,.none,[])
  | _=>none
def yF (sz:Nat) (a v:V) (H:View):Out:=match a with
  | .ptr id i j=>match H id with
    | .arr esz es =>
      if i < es.length∧v.cells.length=sz∧j+v.cells.length≤esz∧v.cells.all aU=true
      then some (.any,.eJ id (.arr esz (es.set i (ab (es.getD i []) j v.cells))),[id]) else none
    | _=>none
  | _=>none
def ae (z:List V) (parts:List (Nat × Nat × V)):Option (List V):=match parts with
  | []=>some z
  | (off,size,x) :: r=>if x.cells.length=size∧off+size≤z.length∧x.cells.all aU=true then ae (ab z off x.cells) r else none
def xh (len sz:Nat) (z:List V) (parts:List (Nat × V)) (n:Nat):Out :=
  match af sz (List.replicate len z) parts with
  | some es=>some (.sl n 0 len sz,.new (.arr sz es),[])
  | none=>none
def w7 (off:Nat) (x:V):Out:=match x with
  | .ptr id i j=>some (.ptr id i (j+off),.none,[])
  | .aQ e j=>some (.aQ e (j+off),.none,[])
  | _=>none
def Ah (sz:Nat) (x i:V):Out:=match asNat i with
  | none=>none
  | some q=>match x with
    | .sl id off len esz=>if q < len∧esz=sz then some (.ptr id (off+q) 0,.none,[]) else none
    | .aM es=>if q < es.length∧(es.getD q []).length=sz then some (.aQ (es.getD q []) 0,.none,[]) else none
    | _=>none
def gR (sz:Nat) (x:V) (lo hi:Option V):Out:=match x with
  | .sl id off len esz=>match bound 0 lo,bound len hi with
    | some l,some h=>if l≤h∧h≤len∧esz=sz then some (.sl id (off+l) (h - l) esz,.none,[]) else none
    | _,_=>none
  | .aM es=>match bound 0 lo,bound es.length hi with
    | some l,some h=>if l≤h∧h≤es.length∧(es.all fun e=>e.length == sz)=true then some (.aM ((es.drop l).take (h - l)),.none,[]) else none
    | _,_=>none
  | .emp k=>match bound 0 lo,bound 0 hi with
    | some 0,some 0=>some (.emp k,.none,[])
    | _,_=>none
  | _=>none
def yP (sz bytes:Nat) (z:List V) (len cap:V) (n:Nat):Out:=match asNat len,asNat cap with
  | some l,some c =>
    if l≤c∧c < aR∧bytes * c < aR then
      (if c=0 then some (.emp 2,.none,[]) else some (.sl n 0 l sz,.new (.arr sz (List.replicate l z)),[]))
    else none
  | _,_=>none
def Db (sz bytes:Nat) (s x:V) (H:View) (n:Nat):Out:=match bJ H x with
  | some (xs,rd) =>
      if xs.isEmpty then (match s with
        | .emp _ | .df | .aM _ | .sl _ _ _ _=>some (s,.none,[])
        | _=>none)
      else if ¬ ((xs.all fun e=>e.length == sz && e.all aU)=true) then none
      else match s with
        | .emp _=>if xs.length * bytes < aR∧xs.length < aR then some (.sl n 0 xs.length sz,.new (.arr sz xs),rd) else none
        | .sl id off len esz=>match H id with
          | .arr _ es =>
            if off+len≤es.length∧esz=sz∧(len+xs.length) * bytes < aR∧len+xs.length < aR
            then some (.sl n 0 (len+xs.length) esz,.aW id (.arr esz ((es.drop off).take len ++ xs)),id :: rd) else none
          | _=>none
        | _=>none
  | none=>none
def ag (op:BinOp) (k:IntKind) (a b:Int):Option Value:=match op with
  | .add=>some (.int k (k.wrap (a+b)))
  | .sub=>some (.int k (k.wrap (a - b)))
  | .mul=>some (.int k (k.wrap (a * b)))
  | .quo=>if b=0 then none else some (.int k (k.wrap (a.tdiv b)))
  | .rem=>if b=0 then none else some (.int k (a.tmod b))
  | .eql=>some (.bool (a == b))
  | .neq=>some (.bool (a != b))
  | .lss=>some (.bool (a < b))
  | .leq=>some (.bool (a≤b))
  | .gtr=>some (.bool (a > b))
  | .geq=>some (.bool (a≥b))
  | .or=>some (.int k (k.wrap (BitVec.ofInt k.bits a ||| BitVec.ofInt k.bits b).toNat))
  | .and=>some (.int k (k.wrap (BitVec.ofInt k.bits a &&& BitVec.ofInt k.bits b).toNat))
  | .xor=>some (.int k (k.wrap (BitVec.ofInt k.bits a ^^^ BitVec.ofInt k.bits b).toNat))
  | .andNot=>some (.int k (k.wrap (BitVec.ofInt k.bits a &&& ~~~(BitVec.ofInt k.bits b)).toNat))
  | _=>none
def vO (op:BinOp) (x y:V):Out:=match x,y with
  | .val (.int k a),.val (.int k' b)=>if k=k' then (ag op k a b).map fun v=>(.val v,.none,[]) else none
  | _,_=>none
def GA (left:Bool) (k:IntKind) (a b:Int):Int:=if left then k.wrap (a * 2 ^ (min b.toNat k.bits)) else a.fdiv (2 ^ (min b.toNat k.bits))
def Jh (left:Bool) (x y:V):Out:=match x,y with
  | .val (.int k a),.val (.int _ b)=>if b < 0 then none else some (.val (.int k (GA left k a b)),.none,[])
  | _,_=>none
def Kz:BinOp→Option Bool
  | .shl=>some true
  | .shr=>some false
  | _=>none
def fi (a b:ByteArray):Bool:=a.data.toList == b.data.toList
def yx (op:BinOp) (x y:V):Out:=match x,y with
  | .val (.string a),.val (.string b)=>match op with
    | .eql=>some (.val (.bool (fi a b)),.none,[])
    | .neq=>some (.val (.bool (!fi a b)),.none,[])
    | _=>none
  | _,_=>none
def zh (x i:V):Out:=match x,asNat i with
  | .val (.string s),some q=>match s.data.toList[q]? with
    | some b=>some (.val (.int .u8 b.toNat),.none,[])
    | none=>none
  | _,_=>none
def aj:Option Bool→Option Bool→Option Bool
  | some true,some b=>some b
  | some b,some true=>some b
  | _,_=>none
theorem Fg {P:Program} {t:TypeId} {k:Nat} (h:fN P t=some k) (x y:V):zY P t x y=aj (isNil k x) (isNil k y):=by
  simp only[zY,h]
  unfold aj
  split <;> simp_all
def oper (op:Op) (ty:TypeId):Oper:=⟨none,op,ty,"",#[],none⟩
theorem Kh (P:Program) (o:Oper) (T:Env) (H:View) (n:Nat):bF P (oper o.op o.type) T H n=bF P o T H n:=by
  cases o; rfl
def sI (P:Program) (s:SI) (T:Env) (H:View) (n:Nat):Out:=match s with
  | .aW x=>some (x.at T,.none,[])
  | .pick c a b=>match c.at T with
    | .val (.bool t)=>some (if t then a.at T else b.at T,.none,[])
    | _=>none
  | .box x=>iO (x.at T).cells n
  | .fL x=>if (x.at T).cells.all aU=true then some (.aQ (x.at T).cells 0,.none,[]) else none
  | .alloc z=>iO z n
  | .build z parts=>(ae z (parts.map fun (a,b,x)=>(a,b,x.at T))).map fun cs=>(.agg cs,.none,[])
  | .aS len sz z parts=>xh len sz z (parts.map fun (i,x)=>(i,x.at T)) n
  | .load sz a=>uf sz (a.at T) H
  | .xi sz a=>match a.at T with
    | .aQ e j=>(je sz e j).map fun v=>(v,.none,[])
    | _=>none
  | .store sz a x=>yF sz (a.at T) (x.at T) H
  | .xS x=>match x.at T with
    | .ptr id i j=>some (.ptr id i j,.none,[])
    | .aQ e j=>some (.aQ e j,.none,[])
    | .fn f a b=>some (.fn f a b,.none,[])
    | _=>none
  | .addr off x=>w7 off (x.at T)
  | .field off sz x=>match x.at T with
    | .agg cs=>(je sz cs off).map fun v=>(v,.none,[])
    | _=>none
  | .idx sz x i=>Ah sz (x.at T) (i.at T)
  | .slice sz x lo hi=>gR sz (x.at T) (lo.map (SX.at T)) (hi.map (SX.at T))
  | .make sz bytes z l c=>yP sz bytes z (l.at T) (c.at T) n
  | .xf=>some (.mp n,.new (.map [] 0),[])
  | .q8 f first cap=>some (.fn f (first.map (SX.at T)) (cap.map (SX.at T)),.none,[])
  | .ext i x=>match x.at T with
    | .bh vs=>if i < vs.length then some (vs.getD i .any,.none,[]) else none
    | _=>none
  | .len x=>(dq (x.at T)).map fun n=>(ao n,.none,[])
  | .fp x=>match x.at T with
    | .val (.string s)=>some (ao s.size,.none,[])
    | _=>none
  | .app sz bytes x y=>Db sz bytes (x.at T) (y.at T) H n
  | .arith op x y=>vO op (x.at T) (y.at T)
  | .sh l x y=>Jh l (x.at T) (y.at T)
  | .gD op x y=>yx op (x.at T) (y.at T)
  | .cF x i=>zh (x.at T) (i.at T)
  | .not x=>match x.at T with
    | .val (.bool t)=>some (.val (.bool (!t)),.none,[])
    | _=>none
  | .nil eq k x y=>match aj (isNil k (x.at T)) (isNil k (y.at T)) with
    | some b=>some (.val (.bool (if eq then b else !b)),.none,[])
    | none=>none
  | .beq eq x y=>match x.at T,y.at T with
    | .val (.bool a),.val (.bool b)=>some (.val (.bool (if eq then a == b else a != b)),.none,[])
    | _,_=>none
  | .mm mx x y=>match x.at T,y.at T with
    | .val (.int k a),.val (.int _ b)=>some (.val (.int k (if mx then (if b > a then b else a) else (if b < a then b else a))),.none,[])
    | _,_=>none
  | .conv k x=>match x.at T with
    | .val (.int _ a)=>some (.val (.int k (k.wrap a)),.none,[])
    | _=>none
  | .Ax x=>match x.at T with
    | .aM es=>(m9 es).map fun l=>(.val (.string ⟨l.toArray⟩),.none,[])
    | _=>none
  | .dV x=>match x.at T with
    | .val (.string s)=>some (.aM (eo s),.none,[])
    | _=>none
  | .old op ty=>bF P (oper op ty) T H n
def zP (P:Program) (t:TypeId):Option (Option Nat):=match P.info? t,oG P t with
  | some i,some true=>some (some i.size)
  | some _,some false=>some none
  | _,_=>none
theorem tK {P:Program} {t:TypeId} {k:Option Nat} (h:zP P t=some k) (cs:List V) (j:Nat):ma P t cs j=je k cs j:=by
  unfold zP at h
  split at h
  · rename_i i h1 h2
    simp at h; subst h; simp[ma,h1,h2,je]
  · rename_i i h1 h2
    simp at h; subst h; simp[ma,h1,h2,je]
  · simp at h
def qh (P:Program) (t:TypeId):Option (Nat × Nat × List V):=match bT P t with
  | some e=>match P.info? e,zeroCells P e with
    | some ti,some z=>if z.length=ti.size∧z.all aU=true∧ti.size≠0 then some (ti.size,ti.bytes,z) else none
    | _,_=>none
  | none=>none
theorem lS {P:Program} {t:TypeId} {sz by':Nat} {z:List V} (h:qh P t=some (sz,by',z)) :
    ∃ e ti,bT P t=some e∧P.underlying t=some (.slice e)∧P.info? e=some ti∧zeroCells P e=some z∧z.length=ti.size∧z.all aU=true∧ti.size≠0∧sz=ti.size∧by'=ti.bytes:=by
  unfold qh at h
  split at h
  · rename_i e he
    split at h
    · rename_i ti z' h1 h2
      split at h
      · rename_i hc
        simp at h
        obtain ⟨rfl,rfl,rfl⟩:=h
        have hu:P.underlying t=some (.slice e):=by
          unfold bT at he; split at he
          · rename_i h3; simp at he; subst he; exact h3
          · simp at he
        exact ⟨e,ti,he,hu,h1,h2,hc.1,hc.2.1,hc.2.2,rfl,rfl⟩
      · simp at h
    · simp at h
  · simp at h
def r8 (P:Program) (t:TypeId):List (Nat × Operand)→Option (List (Nat × Nat × SX))
  | []=>some []
  | (i,x) :: r=>match placeOf P t i,r8 P t r with
    | some (a,b),some l=>some ((a,b,SX.of x) :: l)
    | _,_=>none
def comp (P:Program) (o:Oper):SI:=match o.op with
  | .move x | .assign x=>.aW (SX.of x)
  | .pick c a b=>.pick (SX.of c) (SX.of a) (SX.of b)
  | .alloc e=>match zeroCells P e with
    | some z=>.alloc z
    | none=>.old o.op o.type
  | .box _ x=>.box (SX.of x)
  | .load t a=>match zP P t with
    | some k=>.load k (SX.of a)
    | none=>.old o.op o.type
  | .store t a v=>match P.info? t with
    | some _=>.store (P.cellsOf t) (SX.of a) (SX.of v)
    | none=>.old o.op o.type
  | .nilCheck x=>.xS (SX.of x)
  | .fieldAddr t x f=>match lJ P t f with
    | some (off,s,_)=>if s=0 then .old o.op o.type else .addr off (SX.of x)
    | none=>.old o.op o.type
  | .field t x f=>match lJ P t f with
    | some (off,_,ft)=>match zP P ft with
      | some k=>.field off k (SX.of x)
      | none=>.old o.op o.type
    | none=>.old o.op o.type
  | .indexAddr t x i=>match qh P t with
    | some (sz,_,_)=>.idx sz (SX.of x) (SX.of i)
    | none=>.old o.op o.type
  | .slice t x lo hi none=>match qh P t with
    | some (sz,_,_)=>.slice sz (SX.of x) (lo.map SX.of) (hi.map SX.of)
    | none=>.old o.op o.type
  | .makeSlice t l c=>match qh P t with
    | some (sz,b,z)=>.make sz b z (SX.of l) (SX.of c)
    | none=>.old o.op o.type
  | .makeMap _ none=>.xf
  | .makeFunc (.func f) first cap=>.q8 f (first.toList.map SX.of) (cap.toList.map SX.of)
  | .extract t i=>.ext i (SX.of t)
  | .build t parts=>match P.underlying t,zeroV P t with
    | some (.struct _),some (.agg z)=>if iV P t=true then
        (match r8 P t parts.toList with
        | some ps=>.build z ps
        | none=>.old o.op o.type) else .old o.op o.type
    | _,_=>.old o.op o.type
  | .buildSlice t len parts=>match qh P t with
    | some (sz,_,z)=>if len=0∧parts.toList.isEmpty=true then .aW (.val (.emp 2)) else if len * sz≤2 ^ 24∧len≠0 then .aS len sz z (parts.toList.map fun (i,x)=>(i,SX.of x)) else .old o.op o.type
    | none=>.old o.op o.type
  | .call { callee:=.builtin b,args,argTypes }=>match b,args.toList with
    | .len,[x]=>if 1≤argTypes.size then (match P.underlying (argTypes.getD 0 0) with
      | some (.slice _)=>.len (SX.of x)
      | some .string=>.fp (SX.of x)
      | _=>.old o.op o.type) else .old o.op o.type
    | .append,[s,x]=>if 2≤argTypes.size∧kS P (argTypes.getD 1 0)=true then (match qh P (argTypes.getD 0 0) with
      | some (sz,b,_)=>.app sz b (SX.of s) (SX.of x)
      | none=>.old o.op o.type) else .old o.op o.type
    | .min,[x,y]=>.mm false (SX.of x) (SX.of y)
    | .max,[x,y]=>.mm true (SX.of x) (SX.of y)
    | _,_=>.old o.op o.type
  | .convert s d x=>match P.underlying s,P.underlying d with
    | some (.int _),some (.int k)=>.conv k (SX.of x)
    | _,_=>.old o.op o.type
  | .binOp op t x y _=>match fN P t with
    | some k=>match op with
      | .eql=>.nil true k (SX.of x) (SX.of y)
      | .neq=>.nil false k (SX.of x) (SX.of y)
      | _=>.old o.op o.type
    | none=>match P.underlying t with
      | some (.int _)=>match Kz op with
        | some l=>.sh l (SX.of x) (SX.of y)
        | none=>.arith op (SX.of x) (SX.of y)
      | some .string=>.gD op (SX.of x) (SX.of y)
      | some .bool=>match op with
        | .eql=>.beq true (SX.of x) (SX.of y)
        | .neq=>.beq false (SX.of x) (SX.of y)
        | _=>.old o.op o.type
      | _=>.old o.op o.type
  | .unOp .not _ x=>.not (SX.of x)
  | .index t x i=>match P.underlying t with
    | some .string=>.cF (SX.of x) (SX.of i)
    | _=>.old o.op o.type
  | _=>.old o.op o.type
theorem Bf {P:Program} {t:TypeId} {T:Env} : ∀ (parts:List (Nat × Operand)) (ps:List (Nat × Nat × SX)) (z:List V),r8 P t parts=some ps →
    tB (placeOf P t) z (parts.map fun (i,x)=>(i,ev T x))=ae z (ps.map fun (a,b,x)=>(a,b,x.at T))
  | [],ps,z,h=>by simp[r8] at h; subst h; rfl
  | (i,x) :: r,ps,z,h=>by
    simp only[r8] at h
    split at h
    · rename_i a b l h1 h2
      simp at h; subst h
      simp only[List.map_cons,tB,h1,ae,SX.bO]
      split
      · exact Bf r l _ h2
      · rfl
    · simp at h
theorem Eg {P:Program} {o:Oper} {T:Env} {op:BinOp} {t u:TypeId} {x y:Operand} {k:IntKind} {a b:Int} {r:Value} (ho:o.op=.binOp op t x y u) (hx:ev T x=.val (.int k a)) (hy:ev T y=.val (.int k b)) (h:ag op k a b=some r) :
    cz P o T=some (.val r,.none,[]):=by
  unfold cz
  simp only[ho,Op.operands]
  simp only[bZ]
  cases op <;> simp only[ag,Option.some.injEq,reduceCtorEq] at h
  all_goals first
    | (
       split at h
       · simp at h
       · rename_i hb
         simp at h; subst h
         simp[execOp,ho,hx,hy,eqGuard,binOp,Op.intDiv,hb,plain]
         try rfl)
    | (subst h; simp[execOp,ho,hx,hy,eqGuard,binOp,Op.intArith,Op.intCmp,Op.intBits,plain]; try rfl)
theorem JO {P:Program} {o:Oper} {T:Env} {op:BinOp} {t u:TypeId} {x y:Operand} {l:Bool} {v:V} {aB:aZ} {rd:List Nat} (ho:o.op=.binOp op t x y u) (hs:Kz op=some l) (h:Jh l (ev T x) (ev T y)=some (v,aB,rd)) :
    cz P o T=some (v,aB,rd):=by
  unfold Jh at h
  split at h
  · rename_i k a k' b hx hy
    split at h
    · simp at h
    · rename_i hb
      simp only[Option.some.injEq,Prod.mk.injEq] at h
      obtain ⟨rfl,rfl,rfl⟩:=h
      unfold cz
      simp only[ho,Op.operands]
      simp only[bZ]
      cases op <;> simp only[Kz,Option.some.injEq,reduceCtorEq] at hs
      all_goals
        subst hs
        simp[execOp,ho,hx,hy,eqGuard,binOp,Op.shift,hb,plain,GA]
        try rfl
  · simp at h
theorem Hm {P:Program} {o:Oper} {T:Env} {op:BinOp} {t u:TypeId} {x y:Operand} {v:V} {aB:aZ} {rd:List Nat} (ho:o.op=.binOp op t x y u) (h:yx op (ev T x) (ev T y)=some (v,aB,rd)) :
    cz P o T=some (v,aB,rd):=by
  unfold yx at h
  split at h
  · rename_i a b hx hy
    unfold cz
    simp only[ho,Op.operands,bZ]
    have he:(a.toList == b.toList)=fi a b:=by simp[fi,ByteArray.toList_eq]
    split at h
    · simp at h; obtain ⟨rfl,rfl,rfl⟩:=h
      simp[execOp,ho,hx,hy,eqGuard,binOp,Op.stringOp,plain,← he]; rfl
    · simp at h; obtain ⟨rfl,rfl,rfl⟩:=h
      simp[execOp,ho,hx,hy,eqGuard,binOp,Op.stringOp,plain,← he]; rfl
    · simp at h
  · simp at h
theorem FV {P:Program} {o:Oper} {T:Env} {t:TypeId} {x i:Operand} {v:V} {aB:aZ} {rd:List Nat} (ho:o.op=.index t x i) (hu:P.underlying t=some .string) (h:zh (ev T x) (ev T i)=some (v,aB,rd)) :
    cz P o T=some (v,aB,rd):=by
  unfold zh at h
  split at h
  · rename_i s q hx hq
    split at h
    · rename_i b hb
      simp at h; obtain ⟨rfl,rfl,rfl⟩:=h
      unfold asNat at hq
      split at hq
      · rename_i k z hz
        split at hq
        · rename_i h0
          simp at hq; subst hq
          have hs:s[z.toNat]?=some b:=by
            obtain ⟨hlt,rfl⟩:=List.getElem?_eq_some_iff.1 hb
            have hlt':z.toNat < s.size:=by rw[bsize] at hlt; exact hlt
            rw[getElem?_pos s z.toNat hlt']
            rfl
          unfold cz
          simp only[ho,Op.operands,bZ]
          simp[execOp,ho,hx,hz,Instr.index,asIntOf,underlying,program,h0,plain]
          simp[bm,hu,hs,bind,Sem.bind,pure]
          rfl
        · simp at hq
      · simp at hq
    · simp at h
  · simp at h
theorem HR {P:Program} {o:Oper} {T:Env} {t:TypeId} {x:Operand} {b:Bool} (ho:o.op=.unOp .not t x) (hx:ev T x=.val (.bool b)) :
    cz P o T=some (.val (.bool (!b)),.none,[]):=by
  unfold cz
  simp only[ho,Op.operands,bZ]
  simp[execOp,ho,hx,Op.unary,plain]
  rfl
theorem fw {α β:Type} (P:Program) (s:Sem α) (f:α→β):bm P (Functor.map f s)=(bm P s).map f:=by
  show bm P (s >>= fun a=>pure (f a))=_
  rw[bg]
  cases bm P s <;> rfl
theorem di {P:Program} {t:TypeId} {d:TypeDesc} (h:P.underlying t=some d):bm P (underlying t)=some d:=by
  simp only[underlying,program,bg]
  simp[bm,h]
  rfl
theorem uC {P:Program} {t:TypeId} {a b:Bool} (hu:P.underlying t=some .bool):bm P (Op.equal t (.bool a) (.bool b))=some (a == b):=by
  rw[iy]
  generalize 9999=d
  simp only[Op.equalIn,bg,di hu,Option.bind_some]
  rfl
theorem AR {P:Program} {o:Oper} {T:Env} {op:BinOp} {t u:TypeId} {x y:Operand} {a b:Bool} {r:Bool} (ho:o.op=.binOp op t x y u) (hu:P.underlying t=some .bool) (hx:ev T x=.val (.bool a)) (hy:ev T y=.val (.bool b))
    (hr:(op=.eql∧r=(a == b))∨(op=.neq∧r=(a != b))) :
    cz P o T=some (.val (.bool r),.none,[]):=by
  unfold cz
  simp only[ho,Op.operands,bZ]
  rcases hr with ⟨rfl,rfl⟩ | ⟨rfl,rfl⟩
  · simp[execOp,ho,hx,hy,eqGuard,binOp,fw,uC hu,plain]
    try simp[bm,pure,plain]
  · simp[execOp,ho,hx,hy,eqGuard,binOp,fw,uC hu,plain]
    try simp[bne]
theorem FY {P:Program} {o:Oper} {T:Env} {s d:TypeId} {x:Operand} {k0 k k':IntKind} {a:Int} (ho:o.op=.convert s d x) (hs:P.underlying s=some (.int k0)) (hd:P.underlying d=some (.int k)) (hx:ev T x=.val (.int k' a)) :
    cz P o T=some (.val (.int k (k.wrap a)),.none,[]):=by
  unfold cz
  simp only[ho,Op.operands,bZ]
  have:bm P (convert s d (.int k' a))=some (.int k (k.wrap a)):=by
    simp only[convert,bg,di hs,di hd,Option.bind_some]
    rfl
  simp[execOp,ho,hx,fw,this,plain]
theorem B9 {P:Program} {o:Oper} {T:Env} {bi:Builtin} {x y:Operand} {k k':IntKind} {a b:Int} {args:Array Operand} {ats:Array TypeId} {r:Int} (ho:o.op=.call { callee:=.builtin bi,args:=args,argTypes:=ats }) (ha:args.toList=[x,y])
    (hx:ev T x=.val (.int k a)) (hy:ev T y=.val (.int k' b)) (hr:(bi=.max∧r=if b > a then b else a)∨(bi=.min∧r=if b < a then b else a)) :
    cz P o T=some (.val (.int k r),.none,[]):=by
  obtain rfl:args = #[x,y]:=by rw[← Array.toArray_toList (xs:=args),ha]
  unfold cz
  rcases hr with ⟨rfl,rfl⟩ | ⟨rfl,rfl⟩
  · have:bm P (Builtin.max_ ats o.type #[.int k a,.int k' b])=some (.int k (if b > a then b else a)):=rfl
    simp[ho,Op.operands,Call.operands,hx,hy,bZ,execOp,resolve,invoke,builtin,fw,this,plain]
  · have:bm P (Builtin.min_ ats o.type #[.int k a,.int k' b])=some (.int k (if b < a then b else a)):=rfl
    simp[ho,Op.operands,Call.operands,hx,hy,bZ,execOp,resolve,invoke,builtin,fw,this,plain]
theorem DQ (l:List Operand) (T:Env):(l.map SX.of).map (SX.at T)=l.map (ev T):=by
  rw[List.map_map]; congr 1; funext x; exact SX.bO T x
theorem Lw (l:Option Operand) (T:Env):(l.map SX.of).map (SX.at T)=l.map (ev T):=by
  cases l <;> simp[SX.bO]
theorem L1 (l:List (Nat × Operand)) (T:Env):(l.map fun (i,x)=>(i,SX.of x)).map (fun (i,x)=>(i,SX.at T x))=l.map fun (i,x)=>(i,ev T x):=by
  rw[List.map_map]; congr 1; funext x; simp[SX.bO]
theorem EM {P:Program} {o:Oper} {T:Env} {H:View} {n:Nat} {v:V} {aB:aZ} {rd:List Nat} (h:sI P (comp P o) T H n=some (v,aB,rd)) :
    bF P o T H n=some (v,aB,rd):=by
  have old:∀ {s:SI},s=.old o.op o.type→sI P s T H n=some (v,aB,rd)→bF P o T H n=some (v,aB,rd):=fun e h=>by rw[e] at h; simp only[sI,Kh] at h; exact h
  unfold comp at h
  split at h
  · rename_i x ho; simp only[sI,SX.bO] at h; simp only[bF,ho]; exact h
  · rename_i x ho; simp only[sI,SX.bO] at h; simp only[bF,ho]; exact h
  · rename_i c a b ho; simp only[sI,SX.bO] at h; simp only[bF,ho]; exact h
  · rename_i e ho
    split at h
    · rename_i z hz; simp only[sI] at h; simp only[bF,ho,hz]; exact h
    · exact old rfl h
  · rename_i t x ho; simp only[sI,SX.bO] at h; simp only[bF,ho]; exact h
  · rename_i t a ho
    split at h
    · rename_i k hk
      simp only[sI,SX.bO,uf] at h
      simp only[bF,ho,jf,tK hk]
      exact h
    · exact old rfl h
  · rename_i t a x ho
    split at h
    · rename_i ti hti
      simp only[sI,SX.bO,yF] at h
      simp only[bF,ho,my,hti,Option.isSome_some,and_true]
      exact h
    · exact old rfl h
  · rename_i x ho; simp only[sI,SX.bO] at h; simp only[bF,ho]; exact h
  · rename_i t x f ho
    split at h
    · rename_i off s ft hpl
      split at h
      · exact old rfl h
      · rename_i hs
        simp only[sI,SX.bO,w7] at h
        simp only[bF,ho,iq,hpl,hs,if_false]
        exact h
    · exact old rfl h
  · rename_i t x f ho
    split at h
    · rename_i off s ft hpl
      split at h
      · rename_i k hk
        simp only[sI,SX.bO] at h
        simp only[bF,ho,sn,hpl]
        split at h
        · rename_i cs hcs; simp only[hcs,tK hk]; exact h
        · simp at h
      · exact old rfl h
    · exact old rfl h
  · rename_i t x i ho
    split at h
    · rename_i sz b z hk
      obtain ⟨e,ti,h1,h2,h3,h4,h5,h6,h7,rfl,rfl⟩:=lS hk
      simp only[sI,SX.bO,Ah] at h
      simp only[bF,ho,ir,h2,h3]
      exact h
    · exact old rfl h
  · rename_i t x lo hi ho
    split at h
    · rename_i sz b z hk
      obtain ⟨e,ti,h1,h2,h3,h4,h5,h6,h7,rfl,rfl⟩:=lS hk
      simp only[sI,SX.bO,Lw] at h
      simp only[bF,ho]
      have hsl:oV P t (ev T x) (lo.map (ev T)) (hi.map (ev T)) none=some (v,aB,rd):=by
        simp only[oV,h1,h3]
        unfold gR at h
        split at h
        · rename_i h9; rw[h9]; exact h
        · rename_i h9; rw[h9]; exact h
        · rename_i h9; rw[h9]; exact h
        · simp at h
      unfold gR at h
      split at h
      · rename_i h9; rw[h9] at hsl ⊢; exact hsl
      · rename_i h9; rw[h9] at hsl ⊢; exact hsl
      · rename_i h9; rw[h9] at hsl ⊢; exact hsl
      · simp at h
    · exact old rfl h
  · rename_i t l c ho
    split at h
    · rename_i sz b z hk
      obtain ⟨e,ti,h1,h2,h3,h4,h5,h6,h7,rfl,rfl⟩:=lS hk
      simp only[sI,SX.bO,yP] at h
      simp only[bF,ho,iA,h1,h3]
      split at h
      · rename_i l' c' hl hc
        simp only[hl,hc,h7,if_false,h4,h5,h6,and_self,if_true]
        exact h
      · simp at h
    · exact old rfl h
  · rename_i t ho; simp only[sI] at h; simp only[bF,ho]; exact h
  · rename_i f first cap ho; simp only[sI,DQ] at h; simp only[bF,ho]; exact h
  · rename_i t i ho; simp only[sI,SX.bO] at h; simp only[bF,ho]; exact h
  · rename_i t parts ho
    split at h
    · rename_i fs z h1 h2
      split at h
      · rename_i h3
        split at h
        · rename_i ps h4
          simp only[sI] at h
          simp only[bF,ho,r6,h1,h2,h3,if_true]
          have:=Bf (T:=T) parts.toList ps z h4
          rw[this]
          exact h
        · exact old rfl h
      · exact old rfl h
    · exact old rfl h
  · rename_i t len parts ho
    split at h
    · rename_i sz b z hk
      obtain ⟨e,ti,h1,h2,h3,h4,h5,h6,h7,rfl,rfl⟩:=lS hk
      split at h
      · rename_i hc
        obtain ⟨rfl,hc⟩:=hc
        simp only[sI,SX.at] at h
        simp only[bF,ho,eN,h1,h3]
        rw[List.isEmpty_iff] at hc
        rw[if_neg (by omega),if_pos trivial,hc]
        exact h
      split at h
      · rename_i hc
        simp only[sI,L1,xh] at h
        simp only[bF,ho,eN,h1,h3]
        rw[if_neg (by omega),if_neg hc.2,if_neg h7]
        simp only[h4,h5,h6,and_self,if_true]
        exact h
      · exact old rfl h
    · exact old rfl h
  · rename_i b args ats ho
    split at h
    · rename_i x hargs
      split at h
      · rename_i hsz
        simp only[bF,ho,hargs,hsz,if_true,qv]
        split at h
        · rename_i e hu
          simp only[sI,SX.bO] at h
          simp only[hu]; exact h
        · rename_i hu
          simp only[sI,SX.bO] at h
          simp only[hu]
          exact h
        · have:=old rfl h
          simpa only [bF,ho,hargs,hsz,if_true,qv] using this
      · exact old rfl h
    · rename_i s x hargs
      split at h
      · rename_i hsz
        split at h
        · rename_i sz b z hk
          obtain ⟨e,ti,h1,h2,h3,h4,h5,h6,h7,rfl,rfl⟩:=lS hk
          simp only[sI,SX.bO] at h
          simp only[bF,ho,hargs]
          rw[if_pos hsz]
          unfold Db at h
          split at h
          · rename_i xs rd' hel
            simp only[jR,h1,hel,h3]
            have hz:(zeroCells P e).map List.length=some ti.size:=by rw[h4]; simp[h5]
            split at h
            · rename_i hemp; rw[if_pos hemp]; exact h
            · rename_i hemp
              rw[if_neg hemp]
              split at h
              · simp at h
              · rename_i hall
                rw[if_neg (by
                  rintro (h9 | h9 | h9)
                  · exact h7 h9
                  · exact h9 hz
                  · exact hall h9)]
                exact h
          · simp at h
        · exact old rfl h
      · exact old rfl h
    · rename_i x y hargs
      simp only[sI,SX.bO] at h
      simp only[bF,ho]
      split at h
      · rename_i k a k' b hx hy
        have:=B9 (P:=P) (T:=T) ho hargs hx hy (.inr ⟨rfl,rfl⟩)
        rw[this]; exact h
      · simp at h
    · rename_i x y hargs
      simp only[sI,SX.bO] at h
      simp only[bF,ho]
      split at h
      · rename_i k a k' b hx hy
        have:=B9 (P:=P) (T:=T) ho hargs hx hy (.inl ⟨rfl,rfl⟩)
        rw[this]; exact h
      · simp at h
    · exact old rfl h
  · rename_i s d x ho
    split at h
    · rename_i k0 k hs hd
      simp only[sI,SX.bO] at h
      simp only[bF,ho]
      split at h
      · rename_i k' a hx
        have hb:¬ (nf P s d=true):=by simp[nf,hs,hd]
        rw[if_neg hb,FY ho hs hd hx]; exact h
      · simp at h
    · exact old rfl h
  · rename_i op t x y u ho
    split at h
    · rename_i k hk
      have hsome:(fN P t).isSome=true:=by rw[hk]; rfl
      split at h
      · simp only[sI,SX.bO] at h
        simp only[bF,ho]
        rw[if_pos hsome,Fg hk]
        split at h
        · rename_i b hb; rw[hb]; simpa using h
        · simp at h
      · simp only[sI,SX.bO] at h
        simp only[bF,ho]
        rw[if_pos hsome,Fg hk]
        split at h
        · rename_i b hb; rw[hb]; simpa using h
        · simp at h
      · exact old rfl h
    · rename_i hk
      have hnone:¬ ((fN P t).isSome=true):=by rw[hk]; simp
      split at h
      · split at h
        · rename_i l hs
          simp only[sI,SX.bO] at h
          simp only[bF,ho]
          rw[if_neg hnone]
          exact JO ho hs h
        · simp only[sI,SX.bO,vO] at h
          simp only[bF,ho]
          split at h
          · rename_i k a k' b hx hy
            split at h
            · rename_i hkk
              subst hkk
              simp only[Option.map_eq_some_iff] at h
              obtain ⟨r,hr,h⟩:=h
              rw[if_neg hnone,Eg ho hx hy hr]; exact congrArg some h
            · simp at h
          · simp at h
      · simp only[sI,SX.bO] at h
        simp only[bF,ho]
        rw[if_neg hnone]
        exact Hm ho h
      · rename_i hu
        split at h
        · simp only[sI,SX.bO] at h
          simp only[bF,ho]
          split at h
          · rename_i a b hx hy
            rw[if_neg hnone,AR ho hu hx hy (.inl ⟨rfl,rfl⟩)]; simpa using h
          · simp at h
        · simp only[sI,SX.bO] at h
          simp only[bF,ho]
          split at h
          · rename_i a b hx hy
            rw[if_neg hnone,AR ho hu hx hy (.inr ⟨rfl,rfl⟩)]; simpa using h
          · simp at h
        · exact old rfl h
      · exact old rfl h
  · rename_i t x ho
    simp only[sI,SX.bO] at h
    simp only[bF,ho]
    split at h
    · rename_i b hb; rw[HR ho hb]; exact h
    · simp at h
  · rename_i t x i ho
    split at h
    · rename_i hu
      simp only[sI,SX.bO] at h
      simp only[bF,ho]
      exact FV ho hu h
    · exact old rfl h
  · exact old rfl h
theorem KA {P:Program} {sz:Option Nat} {a:SX} {T:Env} {H:View} {n:Nat} {v:V} {aB:aZ} {rd:List Nat} (h:sI P (.xi sz a) T H n=some (v,aB,rd)):sI P (.load sz a) T H n=some (v,aB,rd):=by
  simp only[sI] at h
  simp only[sI,uf]
  split at h
  · rename_i e j ha; rw[ha]; exact h
  · simp at h
def toStr (P:Program) (s d:TypeId):Bool:=match P.underlying s,P.underlying d with
  | some (.slice e),some .string=>(match P.underlying e with | some (.int .u8)=>true | _=>false)
  | _,_=>false
def rC (P:Program) (s d:TypeId):Bool:=match P.underlying s,P.underlying d with
  | some .string,some (.slice e)=>(match P.underlying e with | some (.int .u8)=>true | _=>false)
  | _,_=>false
theorem IF {P:Program} {s d:TypeId} (h:toStr P s d=true):∃ e,P.underlying s=some (.slice e)∧P.underlying d=some .string∧P.underlying e=some (.int .u8):=by
  unfold toStr at h
  split at h
  · rename_i e h1 h2
    split at h
    · rename_i h3; exact ⟨e,h1,h2,h3⟩
    · simp at h
  · simp at h
theorem xI {P:Program} {s d:TypeId} (h:rC P s d=true):∃ e,P.underlying s=some .string∧P.underlying d=some (.slice e)∧P.underlying e=some (.int .u8):=by
  unfold rC at h
  split at h
  · rename_i e h1 h2
    split at h
    · rename_i h3; exact ⟨e,h1,h2,h3⟩
    · simp at h
  · simp at h
theorem L9 {P:Program} {s d ty:TypeId} {x:Operand} {T:Env} {H:View} {n:Nat} {v:V} {aB:aZ} {rd:List Nat} (hc:toStr P s d=true) (h:sI P (.Ax (SX.of x)) T H n=some (v,aB,rd)):sI P (.old (.convert s d x) ty) T H n=some (v,aB,rd):=by
  obtain ⟨e,h1,h2,h3⟩:=IF hc
  simp only[sI,SX.bO] at h
  simp only[sI,bF,oper,nf,h1,if_true,lL,h2,h3]
  split at h
  · rename_i es hx
    rw[hx]
    simp only[bJ,dq]
    exact h
  · simp at h
inductive SB where
  | op (s:SI)
  | call (f:SX) (args:List SX)
  deriving Inhabited
structure SO where
  dst:Option Nat
  guard:Option (Nat × Bool)
  b:SB
  deriving Inhabited
structure SG where
  guard:Option (Nat × Bool)
  ops:List (Option Nat × SB)
  deriving Inhabited
inductive SC where
  | skip
  | region (quiet:Bool) (gs:List SG)
  | rZ (aps:List (Nat × Nat)) (gs:List SG)
  | Aq (tol:Nat × Nat × Nat) (aps:List (Nat × Nat)) (gs:List SG)
  | seq (x y:SC)
  | cond (c:SX) (x y:SC)
  | block (id:Nat) (c:SC)
  | loop (c:SC)
  | exit (id:Nat)
  | ret
  | scope (l:Nat) (c r:SC)
  | label (l:Nat)
  | goto (l:Nat)
  deriving Inhabited
def kn:SC→Nat→Option SC
  | .seq a b,l=>match kn a l with
    | some r=>some (.seq r b)
    | none=>kn b l
  | .label l',l=>if l' == l then some .skip else none
  | _,_=>none
def CR:SC→Option Nat
  | .seq a b=>match CR a with
    | some l=>some l
    | none=>CR b
  | .label l=>some l
  | _=>none
def ou (l:Nat):Exit→Prop→Prop→Prop
  | .goto l',a,_=>l'=l∧a
  | _,_,b=>b
inductive SR where
  | tmp (t:Nat)
  | cell (t:Nat) (sz:Option Nat)
  deriving Inhabited
def xg (P:Program) (op:Op):Nat:=match op with
  | .convert s d _=>if nf P s d=true then 2 else 0
  | .call { callee:=.builtin b,.. }=>match b with
    | .min | .max | .complex | .real | .imag=>0
    | .len=>1
    | _=>2
  | .lookup ..=>1
  | .binOp .. | .unOp .. | .index ..=>0
  | _=>2
def pZ (P:Program):SI→Nat
  | .aW _ | .pick .. | .fL _ | .xS _ | .addr .. | .field .. | .idx .. | .slice .. | .q8 .. | .ext .. | .len _ | .fp _ | .arith .. | .sh .. | .gD .. | .cF .. | .not _ | .nil .. | .build .. | .xi .. | .beq .. | .mm .. | .conv .. | .Ax _ | .dV _=>0
  | .load .. | .box _ | .alloc _ | .aS .. | .make .. | .xf=>1
  | .store .. | .app ..=>2
  | .old op _=>xg P op
def fE (P:Program) (quiet:Bool):SB→Nat
  | .op s=>pZ P s
  | .call ..=>if quiet then 1 else 2
structure Fz where
  l:List Nat
  fr:Bool
def wJ (P:Program) (fr:Bool):SI→SI
  | .load k a=>if fr then .xi k a else .load k a
  | .old (.convert s d x) ty=>if fr && toStr P s d then .Ax (SX.of x) else .old (.convert s d x) ty
  | s=>s
def kk (P:Program) (fz:Fz) (o:Oper):SB:=match o.op with
  | .call { callee:=.value f,args,.. }=>.call (SX.of f) (args.toList.map SX.of)
  | .box _ x=>if (match o.dst with | some d=>fz.l.contains d | none=>false) then .op (.fL (SX.of x)) else .op (.box (SX.of x))
  | .convert s d x=>if (match o.dst with | some t=>fz.l.contains t | none=>false) && rC P s d then .op (.dV (SX.of x)) else .op (wJ P fz.fr (comp P o))
  | _=>.op (wJ P fz.fr (comp P o))
def rz (n:Nat) (all:List Oper) (o:Oper):Option (Option (Nat × Bool)):=match o.guard with
  | none=>some none
  | some (j,want)=>match (all[j]?).bind (·.dst) with
    | some d=>if d < n then some (some (d,want)) else none
    | none=>none
def BW (P:Program) (n:Nat) (all:List Oper) (fz:Fz) (o:Oper):Option SO :=
  if og n o then (rz n all o).map fun g=>⟨o.dst,g,kk P fz o⟩ else none
def ct (P:Program) (n:Nat) (all:List Oper) (fz:Fz):List Oper→Option (List SO)
  | []=>some []
  | o :: r=>match BW P n all fz o,ct P n all fz r with
    | some s,some l=>some (s :: l)
    | _,_=>none
def SG.flat (g:SG):List SO:=g.ops.map fun (d,b)=>⟨d,g.guard,b⟩
def gz (gs:List SG):List SO:=(gs.map SG.flat).flatten
def Gc (g:Option (Nat × Bool)) (s:SO):Bool:=match g,s.guard with
  | none,none=>true
  | some (d,w),some (d',w')=>d == d' && w == w' && s.dst != some d
  | _,_=>false
def group:List SO→List SG
  | []=>[]
  | s :: r=>match group r with
    | g :: gs=>if Gc g.guard s then ⟨g.guard,(s.dst,s.b) :: g.ops⟩ :: gs else ⟨s.guard,[(s.dst,s.b)]⟩ :: g :: gs
    | []=>[⟨s.guard,[(s.dst,s.b)]⟩]
theorem Ku {g:Option (Nat × Bool)} {s:SO} (h:Gc g s=true):s.guard=g:=by
  unfold Gc at h
  split at h
  · rename_i h1; exact h1
  · rename_i d w d' w' h1
    simp at h; rw[h1,h.1.1,h.1.2]
  · simp at h
theorem dX:∀ l:List SO,gz (group l)=l
  | []=>rfl
  | s :: r=>by
    have ih:=dX r
    simp only[group]
    split
    · rename_i g gs hg
      rw[hg] at ih
      split
      · rename_i hj
        have:=Ku hj
        rw[← ih]
        cases s with
        | mk d gd b=>simp only at this; subst this; simp[gz,SG.flat]
      · rw[← ih]; simp[gz,SG.flat]
    · rename_i hg
      rw[hg] at ih
      rw[← ih]; simp[gz,SG.flat]
def Au (o:Oper):Bool:=match o.op with
  | .load ..=>true
  | _=>false
def yj (o:Oper):Bool:=match o.op with
  | .alloc _=>true
  | _=>false
def gS (o:Oper):Option Nat:=match o.op,o.guard with
  | .store _ (.tmp t) _,none=>some t
  | _,_=>none
def M6 (all:List Oper) (j k t:Nat):Bool:=match all[j]? with
  | some o=>o.dst == some t && o.guard.isNone && yj o && ((all.drop (j+1)).take (k - (j+1))).all fun o'=>o'.dst != some t
  | none=>false
def w8 (all:List Oper) (i k:Nat):Bool:=match all[i]?,all[k]? with
  | some a,some b=>Au a && (match gS b with
    | some t=>(List.range k).any fun j=>decide (i < j) && M6 all j k t
    | none=>false)
  | _,_=>false
def BT (all:List Oper) (ls:List Nat):Bool :=
  let b:=dI all []
  ls.zipIdx.all fun (x,i)=>ls.zipIdx.all fun (y,k)=>!decide (i < k) || ordered b i k || x == 0 || y == 0 || (decide (x≤1) && decide (y≤1)) || w8 all i k
def oN (o:Oper):Option Nat:=match o.op with
  | .load _ (.tmp t)=>some t
  | _=>none
def stays (all:List Oper) (i t:Nat):Bool:=(all.drop i).all fun o=>o.dst != some t
def yW (all:List Oper) (i k:Nat):Option (Nat × Nat):=match all[i]?,all[k]? with
  | some a,some b=>match oN a,gS b with
    | some s,some t=>if stays all i s && stays all k t then some (s,t) else none
    | _,_=>match gS a,oN b with
      | some t,some s=>if stays all i t && stays all k s then some (s,t) else none
      | _,_=>none
  | _,_=>none
def vz (all:List Oper) (x i y k:Nat):Bool:=!decide (i < k) || ordered (dI all []) i k || x == 0 || y == 0 || (decide (x≤1) && decide (y≤1)) || w8 all i k
def hE (all:List Oper) (ls:List Nat):List (Nat × Nat):=ls.zipIdx.flatMap fun (x,i)=>ls.zipIdx.filterMap fun (y,k)=>if vz all x i y k then none else some (i,k)
def zy (all:List Oper):List (Nat × Nat)→Option (List (Nat × Nat))
  | []=>some []
  | (i,k) :: r=>match yW all i k,zy all r with
    | some p,some l=>some (p :: l)
    | _,_=>none
def Ho (o:Oper):Option Nat:=match o.op,o.guard with
  | .call { callee:=.builtin .append,args,.. },none=>match args.toList with
    | [.tmp t,_]=>some t
    | _=>none
  | _,_=>none
def lY (o:Oper):Option Nat:=match gS o with
  | some t=>some t
  | none=>Ho o
def DE (o:Oper):Bool:=match o.op with
  | .buildSlice ..=>true
  | .alloc _=>true
  | _=>false
def newAt (all:List Oper) (k:Nat):Bool:=match all[k]? with
  | some b=>DE b
  | none=>false
def z8 (all:List Oper) (i k:Nat):Option (Nat × Nat):=match all[i]?,all[k]? with
  | some a,some b=>match oN a,lY b with
    | some s,some t=>if stays all i s && stays all k t then some (s,t) else none
    | _,_=>match lY a,oN b with
      | some t,some s=>if stays all i t && stays all k s then some (s,t) else none
      | _,_=>none
  | _,_=>none
def BX (all:List Oper) (ls:List Nat) (i k:Nat):Option (Nat × Nat × Nat):=match all[i]?,all[k]? with
  | some a,some b=>match a.op,b.op,a.guard,b.guard with
    | .lookup t (.tmp m) (.tmp q) false,.mapEntry t' (.tmp m') (.tmp q'),none,none =>
      if t == t' && m == m' && q == q' && stays all i m && stays all i q && stays all k m && stays all k q && decide (i < k) && (List.range k).all fun j=>decide (ls.getD j 2≤1) then some (t,m,q) else none
    | _,_,_,_=>none
  | _,_=>none
def BZ (all:List Oper) (ls:List Nat) (tp:Option (Nat × Nat)):List (Nat × Nat):=(hE all ls).filter fun p=>!newAt all p.2 && tp != some p
def xd (o:Oper):Option (Nat × Nat × Nat):=match o.op,o.guard,o.dst with
  | .call { callee:=.builtin .append,args,.. },none,some d=>match args.toList with
    | [.tmp t,.tmp y]=>some (t,y,d)
    | _=>none
  | _,_,_=>none
def Ae (all:List Oper) (i k:Nat):Option (List (Nat × Nat)):=match all[i]?,all[k]? with
  | some a,some b=>match xd a,xd b with
    | some (t,y,d),some (t',y',_)=>if stays all i t && stays all i y && stays all (i+1) d && stays all k t' && stays all k y' then some [(t,t'),(t,y'),(t',y),(d,t')] else none
    | _,_=>none
  | _,_=>none
def w5 (all:List Oper) (i k:Nat):Option (List (Nat × Nat)):=match z8 all i k with
  | some p=>some [p]
  | none=>Ae all i k
def rW (all:List Oper):List (Nat × Nat)→Option (List (Nat × Nat))
  | []=>some []
  | (i,k) :: r=>match w5 all i k,rW all r with
    | some p,some l=>some (p ++ l)
    | _,_=>none
def pS (g:SG):Bool:=match g.guard with
  | none=>true
  | some (d,_)=>g.ops.all fun x=>x.1 != some d
def qa (P:Program) (n:Nat) (fz:Fz) (ops:List Oper) (draw quiet:Bool):Option SC:=match ct P n ops fz ops with
  | none=>none
  | some l=>if !(group l).all pS then none else
    if draw then (if ja ops && BT ops (l.map fun s=>fE P quiet s.b) then some (.region quiet (group l)) else none)
    else some (.region quiet (group l))
def yL (P:Program) (n:Nat) (fz:Fz) (ops:List Oper):Option SC:=match ct P n ops fz ops with
  | none=>none
  | some l=>if !(group l).all pS then none else
    if ja ops then (zy ops (hE ops (l.map fun s=>fE P false s.b))).map fun aps=>.rZ aps (group l) else none
def LY (all:List Oper) (ls:List Nat):Option (Nat × Nat):=(hE all ls).find? fun p=>(BX all ls p.1 p.2).isSome
def zi (P:Program) (n:Nat) (fz:Fz) (ops:List Oper):Option SC:=match ct P n ops fz ops with
  | none=>none
  | some l=>if !(group l).all pS then none else
    if ja ops then
      (match LY ops (l.map fun s=>fE P false s.b) with
      | none=>(rW ops (BZ ops (l.map fun s=>fE P false s.b) none)).map fun aps=>.rZ aps (group l)
      | some p=>match BX ops (l.map fun s=>fE P false s.b) p.1 p.2 with
        | some tol=>(rW ops (BZ ops (l.map fun s=>fE P false s.b) (some p))).map fun aps=>.Aq tol aps (group l)
        | none=>none)
    else none
def No:Nat:=100000
def orElse':Option SC→Option SC→Option SC
  | some x,_=>some x
  | none,y=>y
def yT (P:Program) (n:Nat) (fz:List Nat) (ops:List Oper) (draw:Bool):Option SC :=
  orElse' (qa P n ⟨fz,false⟩ ops draw false) (if draw then orElse' (if fz.contains No then zi P n ⟨fz,false⟩ ops else none) <| orElse' (yL P n ⟨fz,false⟩ ops) (orElse' (qa P n ⟨fz,false⟩ ops true true) (orElse' (qa P n ⟨fz,true⟩ ops true false) (qa P n ⟨fz,true⟩ ops true true))) else none)
def bV (P:Program) (n:Nat) (fz:List Nat):Code→Option SC
  | .skip=>some .skip
  | .region _ ops draw=>yT P n fz ops.toList draw
  | .seq x y=>match bV P n fz x,bV P n fz y with
    | some a,some b=>some (.seq a b)
    | _,_=>none
  | .cond c x y=>match bV P n fz x,bV P n fz y with
    | some a,some b=>some (.cond (SX.of c) a b)
    | _,_=>none
  | .block id c=>(bV P n fz c).map (.block id)
  | .loop c=>(bV P n fz c).map .loop
  | .exit id=>some (.exit id)
  | .ret=>some .ret
  | .scope c=>match bV P n fz c with
    | some sc=>match CR sc with
      | some l=>(kn sc l).map fun r=>.scope l sc r
      | none=>none
    | none=>none
  | .label l=>some (.label l)
  | .goto l=>some (.goto l)
  | _=>none
def fA (h h':aE):Prop:=∀ id,id < h.length→h.view id=.dead→h'.view id=.dead
theorem fA.refl (h:aE):fA h h:=fun _ _ e=>e
theorem fA.trans {a b c:aE} (h:fA a b) (k:fA b c) (hl:a.length≤b.length):fA a c:=fun id hid e=>k id (Nat.lt_of_lt_of_le hid hl) (h id hid e)
def aL (P:Program) (f:FuncId) (vs:List V) (H:View) (K:V→View→Prop):Prop :=
  ca P f=true∧∀ h:aE,h.view=H→∃ r h',bS P f vs h r h'∧fA h h'∧K r h'.view
def B3 (P:Program) (f:FuncId) (vs:List V) (H:View) (K:V→View→Prop):Prop :=
  ca P f=true∧∀ h:aE,h.view=H→∃ r h',bS P f vs h r h'∧(∀ id,id < h.length→h'.view id=h.view id)∧K r h'.view
def fY (sz:Option Nat) (e:List V) (j:Nat) (K:V→Prop):Prop:=match sz with
  | some n=>j+n≤e.length∧K (.agg ((e.drop j).take n))
  | none=>j < e.length∧K (e.getD j .any)
def wI (P:Program) (s:SI) (T:Env) (H:View) (K:V→View→Prop):Prop:=match s with
  | .aW x=>K (x.at T) H
  | .pick c a b=>match c.at T with
    | .val (.bool t)=>K (if t then a.at T else b.at T) H
    | _=>False
  | .box x=>(x.at T).cells.all aU=true∧∀ n,H n=.dead→K (.ptr n 0 0) (H.set n (.arr (x.at T).cells.length [(x.at T).cells]))
  | .fL x=>(x.at T).cells.all aU=true∧K (.aQ (x.at T).cells 0) H
  | .alloc z=>z.all aU=true∧∀ n,H n=.dead→K (.ptr n 0 0) (H.set n (.arr z.length [z]))
  | .load sz a=>match a.at T with
    | .ptr id i j=>match H id with
      | .arr _ es=>i < es.length∧fY sz (es.getD i []) j fun v=>K v H
      | _=>False
    | .aQ e j=>fY sz e j fun v=>K v H
    | _=>False
  | .xi sz a=>match a.at T with
    | .aQ e j=>fY sz e j fun v=>K v H
    | _=>False
  | .store sz a x=>match a.at T with
    | .ptr id i j=>match H id with
      | .arr esz es=>(i < es.length∧(x.at T).cells.length=sz∧j+(x.at T).cells.length≤esz∧(x.at T).cells.all aU=true) ∧
          K .any (H.set id (.arr esz (es.set i (ab (es.getD i []) j (x.at T).cells))))
      | _=>False
    | _=>False
  | .xS x=>match x.at T with
    | .ptr id i j=>K (.ptr id i j) H
    | .aQ e j=>K (.aQ e j) H
    | .fn f a b=>K (.fn f a b) H
    | _=>False
  | .addr off x=>match x.at T with
    | .ptr id i j=>K (.ptr id i (j+off)) H
    | .aQ e j=>K (.aQ e (j+off)) H
    | _=>False
  | .field off sz x=>match x.at T with
    | .agg cs=>fY sz cs off fun v=>K v H
    | _=>False
  | .idx sz x i=>match asNat (i.at T) with
    | none=>False
    | some q=>match x.at T with
      | .sl id off len esz=>(q < len∧esz=sz)∧K (.ptr id (off+q) 0) H
      | .aM es=>∃ e,es[q]?=some e∧e.length=sz∧K (.aQ e 0) H
      | _=>False
  | .q8 f first cap=>K (.fn f (first.map (SX.at T)) (cap.map (SX.at T))) H
  | .xf=>∀ n,H n=.dead→K (.mp n) (H.set n (.map [] 0))
  | .ext i x=>match x.at T with
    | .bh vs=>i < vs.length∧K (vs.getD i .any) H
    | _=>False
  | .len x=>match dq (x.at T) with
    | some n=>K (ao n) H
    | none=>False
  | .fp x=>match x.at T with
    | .val (.string s)=>K (ao s.size) H
    | _=>False
  | .arith op x y=>match x.at T,y.at T with
    | .val (.int k a),.val (.int k' b)=>k=k'∧(match ag op k a b with | some v=>K (.val v) H | none=>False)
    | _,_=>False
  | .gD op x y=>match x.at T,y.at T with
    | .val (.string a),.val (.string b)=>(match op with
      | .eql=>K (.val (.bool (fi a b))) H
      | .neq=>K (.val (.bool (!fi a b))) H
      | _=>False)
    | _,_=>False
  | .cF x i=>match x.at T,asNat (i.at T) with
    | .val (.string s),some q=>∃ b,s.data.toList[q]?=some b∧K (.val (.int .u8 b.toNat)) H
    | _,_=>False
  | .not x=>match x.at T with
    | .val (.bool t)=>K (.val (.bool (!t))) H
    | _=>False
  | .nil eq k x y=>match aj (isNil k (x.at T)) (isNil k (y.at T)) with
    | some b=>K (.val (.bool (if eq then b else !b))) H
    | none=>False
  | .beq eq x y=>match x.at T,y.at T with
    | .val (.bool a),.val (.bool b)=>K (.val (.bool (if eq then a == b else a != b))) H
    | _,_=>False
  | .mm mx x y=>match x.at T,y.at T with
    | .val (.int k a),.val (.int _ b)=>K (.val (.int k (if mx then (if b > a then b else a) else (if b < a then b else a)))) H
    | _,_=>False
  | .conv k x=>match x.at T with
    | .val (.int _ a)=>K (.val (.int k (k.wrap a))) H
    | _=>False
  | .sh l x y=>match x.at T,y.at T with
    | .val (.int k a),.val (.int _ b)=>0≤b∧K (.val (.int k (GA l k a b))) H
    | _,_=>False
  | .build z parts=>match ae z (parts.map fun (a,b,x)=>(a,b,x.at T)) with
    | some cs=>K (.agg cs) H
    | none=>False
  | .aS len sz z parts=>match af sz (List.replicate len z) (parts.map fun (i,x)=>(i,x.at T)) with
    | some es=>∀ n,H n=.dead→K (.sl n 0 len sz) (H.set n (.arr sz es))
    | none=>False
  | .slice sz x lo hi=>match gR sz (x.at T) (lo.map (SX.at T)) (hi.map (SX.at T)) with
    | some (v,.none,_)=>K v H
    | _=>False
  | .make sz bytes z l c=>match asNat (l.at T),asNat (c.at T) with
    | some l,some c=>(l≤c∧c < aR∧bytes * c < aR)∧(c=0→K (.emp 2) H)∧(c≠0→∀ n,H n=.dead→K (.sl n 0 l sz) (H.set n (.arr sz (List.replicate l z))))
    | _,_=>False
  | .app sz bytes x y=>match bJ H (y.at T) with
    | some (xs,_)=>if xs.isEmpty=true then (match x.at T with
        | .emp k=>K (.emp k) H
        | .df=>K .df H
        | .aM es=>K (.aM es) H
        | .sl a b c d=>K (.sl a b c d) H
        | _=>False)
      else (xs.all fun e=>e.length == sz && e.all aU)=true∧(match x.at T with
        | .emp _=>(xs.length * bytes < aR∧xs.length < aR)∧∀ n,H n=.dead→K (.sl n 0 xs.length sz) (H.set n (.arr sz xs))
        | .sl id off len esz=>match H id with
          | .arr _ es=>(off+len≤es.length∧esz=sz∧(len+xs.length) * bytes < aR∧len+xs.length < aR) ∧
              ∀ n,H n=.dead→K (.sl n 0 (len+xs.length) esz) ((H.set id .dead).set n (.arr esz ((es.drop off).take len ++ xs)))
          | _=>False
        | _=>False)
    | none=>False
  | .Ax x=>match x.at T with
    | .aM es=>(match m9 es with
      | some l=>K (.val (.string ⟨l.toArray⟩)) H
      | none=>False)
    | _=>False
  | .dV x=>match x.at T with
    | .val (.string s)=>K (.aM (eo s)) H
    | _=>False
  | s=>∀ n,H n=.dead→∃ v aB rd,sI P s T H n=some (v,aB,rd)∧K v (aB.view H n)
def wB (P:Program) (quiet:Bool) (b:SB) (T:Env) (H:View) (K:V→View→Prop):Prop:=match b with
  | .op s=>wI P s T H K
  | .call f args=>match f.at T with
    | .fn g first cap=>if quiet then B3 P g (first ++ args.map (SX.at T) ++ cap) H K else aL P g (first ++ args.map (SX.at T) ++ cap) H K
    | _=>False
def vM (P:Program) (quiet:Bool):List (Option Nat × SB)→Env→View→(Env→View→Prop)→Prop
  | [],T,H,K=>K T H
  | (d,b) :: r,T,H,K=>wB P quiet b T H fun v H'=>vM P quiet r (T.put d v) H' K
def e9:List (Option Nat × SB)→Env→Env
  | [],T=>T
  | (d,_) :: r,T=>e9 r (T.put d (.bh []))
def wG (P:Program) (quiet:Bool) (g:SG) (T:Env) (H:View) (K:Env→View→Prop):Prop:=match g.guard with
  | none=>vM P quiet g.ops T H K
  | some (d,want)=>match T d with
    | .val (.bool b)=>(b=want→vM P quiet g.ops (T.put (some d) (.val (.bool want))) H K)∧(b = !want→K (e9 g.ops (T.put (some d) (.val (.bool (!want))))) H)
    | .bh []=>K (e9 g.ops T) H
    | _=>False
def uF (P:Program) (quiet:Bool):List SG→Env→View→(Env→View→Prop)→Prop
  | [],T,H,K=>K T H
  | g :: r,T,H,K=>wG P quiet g T H fun T' H'=>uF P quiet r T' H' K
def pY (c:SX) (b:Bool) (T:Env):Env:=match c with
  | .tmp t=>T.put (some t) (.val (.bool b))
  | _=>T
def xC:Exit→Prop→Prop→Prop
  | .normal,a,_=>a
  | _,_,b=>b
def eE (a b:V):Prop:=match a,b with
  | .ptr i _ _,.ptr j _ _=>i≠j
  | .ptr i _ _,.sl j _ _ _=>i≠j
  | .ptr _ _ _,.emp _=>True
  | .ptr _ _ _,.df=>True
  | .ptr _ _ _,.aM _=>True
  | .aQ _ _,_=>True
  | .sl i _ _ _,.sl j _ _ _=>i≠j
  | .sl _ _ _ _,.emp _=>True
  | .sl _ _ _ _,.df=>True
  | .sl _ _ _ _,.aM _=>True
  | .emp _,_=>True
  | .df,_=>True
  | .aM _,_=>True
  | _,_=>False
def GN (P:Program) (t:TypeId) (m q:V) (H:View):Prop:=match m with
  | .mp id=>(∃ es c,H id=.map es c)∧∀ v obj rd,dy P t (.mp id) q H=some (v,.eJ id obj,rd)→eu P t (.mp id) q false (H.set id obj)=eu P t (.mp id) q false H
  | _=>False
def vm:List (Nat × Nat)→Env→Prop→Prop
  | [],_,K=>K
  | p :: l,T,K=>eE (T p.1) (T p.2)∧vm l T K
def wS (P:Program):SC→Env→View→(Exit→Env→View→Prop)→Prop
  | .skip,T,H,Q=>Q .normal T H
  | .region quiet gs,T,H,Q=>uF P quiet gs T H (Q .normal)
  | .rZ aps gs,T,H,Q=>uF P false gs T H fun T' H'=>vm aps T' (Q .normal T' H')
  | .Aq tol aps gs,T,H,Q=>uF P false gs T H fun T' H'=>GN P tol.1 (T' tol.2.1) (T' tol.2.2) H∧vm aps T' (Q .normal T' H')
  | .seq x y,T,H,Q=>wS P x T H fun e T' H'=>xC e (wS P y T' H' Q) (Q e T' H')
  | .cond c x y,T,H,Q=>match c.at T with
    | .val (.bool b)=>(b=true→wS P x (pY c true T) H Q)∧(b=false→wS P y (pY c false T) H Q)
    | _=>False
  | .block id c,T,H,Q=>wS P c T H fun e=>Q (l8 id e)
  | .loop c,T,H,Q=>∃ I:Nat→Env→View→Prop,(∃ k,I k T H)∧∀ k T H,I k T H→wS P c T H fun e T' H'=>xC e (∃ k',k' < k∧I k' T' H') (Q e T' H')
  | .exit id,T,H,Q=>Q (.exit id) T H
  | .ret,T,H,Q=>Q .ret T H
  | .scope l c r,T,H,Q=>∃ (I:Nat→Env→View→Prop) (K:Nat),wS P c T H (fun e T' H'=>ou l e (∃ k,k < K∧I k T' H') (Q e T' H'))∧∀ k T H,I k T H→wS P r T H fun e T' H'=>ou l e (∃ k',k' < k∧I k' T' H') (Q e T' H')
  | .label _,T,H,Q=>Q .normal T H
  | .goto l,T,H,Q=>Q (.goto l) T H
def wR (T:Env) (H:View) (r:SR) (K:V→Prop):Prop:=match r with
  | .tmp t=>K (T t)
  | .cell t sz=>match T t with
    | .ptr id i j=>match H id with
      | .arr _ es=>i < es.length∧fY sz (es.getD i []) j K
      | _=>False
    | .aQ e j=>fY sz e j K
    | _=>False
def y4 (T:Env) (H:View):List SR→List V→(List V→Prop)→Prop
  | [],acc,K=>K acc
  | r :: l,acc,K=>wR T H r fun v=>y4 T H l (acc ++ [v]) K
def ai:List V→V
  | [v]=>v
  | vs=>.bh vs
def dK (P:Program):List ResultVar→Option (List SR)
  | []=>some []
  | .tmp t :: r=>(dK P r).map (.tmp t :: ·)
  | .cell a t :: r=>match zP P t,dK P r with
    | some k,some l=>some (.cell a k :: l)
    | _,_=>none
structure SF where
  code:SC
  res:List SR
  n:Nat
abbrev aa (a b:Nat):Option Nat × SB:=(some a,.op (.aW (.tmp b)))
abbrev aA (a:Nat) (n:Int):Option Nat × SB:=(some a,.op (.aW (.val (.val (.int .i64 n)))))
abbrev aN (a:Nat) (n:Bool):Option Nat × SB:=(some a,.op (.aW (.val (.val (.bool n)))))
abbrev ak (a b:Nat):Option Nat × SB:=(some a,.op (.load none (.tmp b)))
abbrev aH (a k b:Nat):Option Nat × SB:=(some a,.op (.load (some k) (.tmp b)))
abbrev an (a k b:Nat):Option Nat × SB:=(some a,.op (.addr k (.tmp b)))
abbrev aG (a k b c:Nat):Option Nat × SB:=(some a,.op (.idx k (.tmp b) (.tmp c)))
abbrev aX (a b c:Nat):Option Nat × SB:=(some a,.op (.pick (.tmp b) (.val (.val (.bool true))) (.tmp c)))
abbrev bj (a b c:Nat):Option Nat × SB:=(some a,.op (.pick (.tmp b) (.tmp c) (.val (.val (.bool false)))))
abbrev aF (a:Nat) (o:BinOp) (b c:Nat):Option Nat × SB:=(some a,.op (.arith o (.tmp b) (.tmp c)))
abbrev au (a:Nat) (o:BinOp) (b:Nat) (n:Int):Option Nat × SB:=(some a,.op (.arith o (.tmp b) (.val (.val (.int .i64 n)))))
abbrev aC (a b:Nat):Option Nat × SB:=(some a,.op (.len (.tmp b)))
abbrev bq (a k b:Nat):Option Nat × SB:=(some a,.op (.ext k (.tmp b)))
abbrev bB (a b:Nat):Option Nat × SB:=(some a,.op (.not (.tmp b)))
abbrev bA (a b:Nat):Option Nat × SB:=(some a,.op (.fL (.tmp b)))
abbrev bb (a b:Nat):Option Nat × SB:=(some a,.op (.xS (.tmp b)))
abbrev cp (a f:Nat) (l:List SX):Option Nat × SB:=(some a,.call (.val (.fn f [] [])) l)
abbrev aI (a f:Nat) (l:List Nat):Option Nat × SB:=(some a,.call (.val (.fn f [] [])) (l.map .tmp))
abbrev aq (l:List (Option Nat × SB)):SC:=.region false [⟨none,l⟩]
def bo (P:Program) (f:FuncId) (fz:List Nat):Option SF:=match P.funcs[f]? with
  | some fn=>match fn.body with
    | some c=>match bV P fn.ntmps fz c,dK P fn.results.toList,ca P f with
      | some sc,some rs,true=>some ⟨sc,rs,fn.ntmps⟩
      | _,_,_=>none
    | none=>none
  | none=>none
theorem l0 {sz:Option Nat} {e:List V} {j:Nat} {K:V→Prop} (h:fY sz e j K):∃ v,je sz e j=some v∧K v:=by
  cases sz with
  | none=>exact ⟨_,by simp only[je]; rw[if_pos h.1],h.2⟩
  | some n=>exact ⟨_,by simp only[je]; rw[if_pos h.1],h.2⟩
theorem Np {P:Program} {s:SI} {T:Env} {H:View} {K:V→View→Prop} (h:wI P s T H K) {n:Nat} (hn:H n=.dead) :
    ∃ v aB rd,sI P s T H n=some (v,aB,rd)∧K v (aB.view H n):=by
  unfold wI at h
  split at h
  · exact ⟨_,_,_,rfl,h⟩
  · split at h
    · rename_i t ht; exact ⟨_,_,_,by simp only[sI,ht]; rfl,h⟩
    · exact h.elim
  · exact ⟨_,_,_,by simp only[sI,iO]; rw[if_pos h.1],h.2 n hn⟩
  · exact ⟨_,_,_,by simp only[sI]; rw[if_pos h.1],h.2⟩
  · exact ⟨_,_,_,by simp only[sI,iO]; rw[if_pos h.1],h.2 n hn⟩
  · split at h
    · rename_i id i j ha
      split at h
      · rename_i es hH
        obtain ⟨h1,h2⟩:=h
        obtain ⟨v,hv,hk⟩:=l0 h2
        exact ⟨_,_,_,by simp only[sI,uf,ha,hH]; rw[if_pos h1,hv]; rfl,hk⟩
      · exact h.elim
    · rename_i e j ha
      obtain ⟨v,hv,hk⟩:=l0 h
      exact ⟨_,_,_,by simp only[sI,uf,ha]; rw[hv]; rfl,hk⟩
    · exact h.elim
  · split at h
    · rename_i e j ha
      obtain ⟨v,hv,hk⟩:=l0 h
      exact ⟨_,_,_,by simp only[sI,ha]; rw[hv]; rfl,hk⟩
    · exact h.elim
  · split at h
    · rename_i id i j ha
      split at h
      · rename_i esz es hH
        exact ⟨_,_,_,by simp only[sI,yF,ha,hH]; rw[if_pos h.1],h.2⟩
      · exact h.elim
    · exact h.elim
  · split at h
    · rename_i hx; exact ⟨_,_,_,by simp only[sI,hx]; rfl,h⟩
    · rename_i hx; exact ⟨_,_,_,by simp only[sI,hx]; rfl,h⟩
    · rename_i hx; exact ⟨_,_,_,by simp only[sI,hx]; rfl,h⟩
    · exact h.elim
  · split at h
    · rename_i hx; exact ⟨_,_,_,by simp only[sI,w7,hx]; rfl,h⟩
    · rename_i hx; exact ⟨_,_,_,by simp only[sI,w7,hx]; rfl,h⟩
    · exact h.elim
  · split at h
    · rename_i cs hx
      obtain ⟨v,hv,hk⟩:=l0 h
      exact ⟨_,_,_,by simp only[sI,hx,hv]; rfl,hk⟩
    · exact h.elim
  · split at h
    · exact h.elim
    · rename_i q hq
      split at h
      · rename_i hx; exact ⟨_,_,_,by simp only[sI,Ah,hq,hx]; rw[if_pos h.1],h.2⟩
      · rename_i es hx
        obtain ⟨e,he,hl,hk⟩:=h
        have hlt:q < es.length:=(List.getElem?_eq_some_iff.1 he).1
        have hge:es.getD q []=e:=by simp[List.getD_eq_getElem?_getD,he]
        exact ⟨_,_,_,by simp only[sI,Ah,hq,hx]; rw[hge,if_pos ⟨hlt,hl⟩],hk⟩
      · exact h.elim
  · exact ⟨_,_,_,rfl,h⟩
  · exact ⟨_,_,_,rfl,h n hn⟩
  · split at h
    · rename_i vs hx; exact ⟨_,_,_,by simp only[sI,hx]; rw[if_pos h.1],h.2⟩
    · exact h.elim
  · split at h
    · rename_i m hx; exact ⟨_,_,_,by simp only[sI,hx]; rfl,h⟩
    · exact h.elim
  · split at h
    · rename_i s hx; exact ⟨_,_,_,by simp only[sI,hx]; rfl,h⟩
    · exact h.elim
  · split at h
    · rename_i k a k' b hx hy
      obtain ⟨rfl,h⟩:=h
      split at h
      · rename_i v hv; exact ⟨_,_,_,by simp only[sI,vO,hx,hy,if_true,hv]; rfl,h⟩
      · exact h.elim
    · exact h.elim
  · split at h
    · rename_i a b hx hy
      split at h
      · exact ⟨_,_,_,by simp only[sI,yx,hx,hy]; rfl,h⟩
      · exact ⟨_,_,_,by simp only[sI,yx,hx,hy]; rfl,h⟩
      · exact h.elim
    · exact h.elim
  · split at h
    · rename_i s q hx hq
      obtain ⟨b,hb,hk⟩:=h
      exact ⟨_,_,_,by simp only[sI,zh,hx,hq,hb]; rfl,hk⟩
    · exact h.elim
  · split at h
    · rename_i t hx; exact ⟨_,_,_,by simp only[sI,hx]; rfl,h⟩
    · exact h.elim
  · split at h
    · rename_i b hb; exact ⟨_,_,_,by simp only[sI,hb]; rfl,h⟩
    · exact h.elim
  · split at h
    · rename_i hx hy; exact ⟨_,_,_,by simp only[sI,hx,hy]; rfl,h⟩
    · exact h.elim
  · split at h
    · rename_i hx hy; exact ⟨_,_,_,by simp only[sI,hx,hy]; rfl,h⟩
    · exact h.elim
  · split at h
    · rename_i hx; exact ⟨_,_,_,by simp only[sI,hx]; rfl,h⟩
    · exact h.elim
  · split at h
    · rename_i hx hy; exact ⟨_,_,_,by simp only[sI,Jh,hx,hy]; rw[if_neg (by omega)],h.2⟩
    · exact h.elim
  · split at h
    · rename_i cs hb; exact ⟨_,_,_,by simp only[sI,hb]; rfl,h⟩
    · exact h.elim
  · split at h
    · rename_i es hb; exact ⟨_,_,_,by simp only[sI,xh,hb]; rfl,h n hn⟩
    · exact h.elim
  · split at h
    · rename_i v rd hb; exact ⟨_,_,_,by simp only[sI,hb]; rfl,h⟩
    · exact h.elim
  · split at h
    · rename_i l c hl hc
      obtain ⟨h1,h2,h3⟩:=h
      by_cases e:c=0
      · exact ⟨.emp 2,.none,[],by simp only[sI,yP,hl,hc]; rw[if_pos h1,if_pos e],h2 e⟩
      · exact ⟨_,_,_,by simp only[sI,yP,hl,hc]; rw[if_pos h1,if_neg e],h3 e n hn⟩
    · exact h.elim
  · split at h
    · rename_i xs rd hel
      split at h
      · rename_i he
        split at h
        all_goals first
          | (rename_i hx; exact ⟨_,_,_,by simp only[sI,Db,hel]; rw[if_pos he,hx],h⟩)
          | exact h.elim
      · rename_i he
        obtain ⟨h1,h2⟩:=h
        split at h2
        · rename_i hx
          exact ⟨_,_,_,by simp only[sI,Db,hel]; rw[if_neg he,if_neg (by rw[h1]; simp),hx]; simp only; rw[if_pos h2.1],h2.2 n hn⟩
        · rename_i id off len esz hx
          split at h2
          · rename_i z es hH
            exact ⟨_,_,_,by simp only[sI,Db,hel]; rw[if_neg he,if_neg (by rw[h1]; simp),hx]; simp only[hH]; rw[if_pos h2.1],h2.2 n hn⟩
          · exact h2.elim
        · exact h2.elim
    · exact h.elim
  · split at h
    · rename_i hx
      split at h
      · rename_i l hl; exact ⟨_,_,_,by simp only[sI,hx,hl]; rfl,h⟩
      · exact h.elim
    · exact h.elim
  · split at h
    · rename_i hx; exact ⟨_,_,_,by simp only[sI,hx]; rfl,h⟩
    · exact h.elim
  · exact h n hn
def gU (k:Nat) (rd wr:List Nat) (call:Bool) (n n':Nat):Prop :=
  (k=0→rd=[]∧wr=[]∧call=false∧n'=n)∧(k≤1→wr=[])
theorem KQ {k:Nat} (h:k=2) {rd wr:List Nat} {call:Bool} {n n':Nat} : gU k rd wr call n n':=⟨fun h'=>by omega,fun h'=>by omega⟩
theorem mJ {P:Program} {o:Oper} {T:Env} {v:V} {aB:aZ} {rd:List Nat} (h:cz P o T=some (v,aB,rd)):aB=.none∧rd=[]:=by
  unfold cz at h
  split at h
  · split at h
    · split at h
      · simp at h; exact ⟨h.2.1.symm,h.2.2⟩
      · simp at h
    · simp at h
  · simp at h
theorem Kt {P:Program} {o:Oper} {T:Env} {H:View} {n:Nat} {v:V} {aB:aZ} {rd:List Nat} (h:bF P o T H n=some (v,aB,rd)) :
    (xg P o.op=0→aB=.none∧rd=[])∧(xg P o.op=1→aB.wr=[]):=by
  unfold xg
  split
  · rename_i s d x ho
    simp only[bF,ho] at h
    split
    · exact ⟨fun h=>by simp at h,fun h=>by simp at h⟩
    · rename_i hb
      rw[if_neg hb] at h
      exact ⟨fun _=>mJ h,fun h=>by simp at h⟩
  · rename_i b args ats ho
    simp only[bF,ho] at h
    split
    any_goals exact ⟨fun _=>mJ h,fun h=>by simp at h⟩
    · refine ⟨fun h=>by simp at h,fun _=>?_⟩
      split at h
      · rename_i hargs
        split at h
        · simp only[qv] at h
          have nn:∀ {v':V} {r:List Nat},some (v',aZ.none,r)=some (v,aB,rd)→aB.wr=[]:=fun e=>by
            simp only[Option.some.injEq,Prod.mk.injEq] at e; rw[← e.2.1]; rfl
          split at h
          · simp only[Option.map_eq_some_iff] at h
            obtain ⟨_,_,h⟩:=h
            exact nn (congrArg some h)
          · split at h
            · split at h
              · exact nn h
              · simp at h
            · exact nn h
            · simp at h
          · split at h
            · exact nn h
            · simp at h
          · exact nn h
          · simp at h
        · simp at h
      any_goals simp at h
      all_goals contradiction
    · exact ⟨fun h=>by simp at h,fun h=>by simp at h⟩
  · rename_i t m k ok ho
    refine ⟨fun h=>by simp at h,fun _=>?_⟩
    simp only[bF,ho,eu] at h
    have nn:∀ {v':V} {r:List Nat},some (v',aZ.none,r)=some (v,aB,rd)→aB.wr=[]:=fun e=>by
      simp only[Option.some.injEq,Prod.mk.injEq] at e; rw[← e.2.1]; rfl
    split at h
    · simp at h
    · split at h
      · simp at h
      · split at h
        · split at h
          · split at h
            · split at h
              · exact nn h
              · simp at h
            · exact nn h
            · simp at h
          · simp at h
        · simp at h
  · rename_i op t x y u ho
    refine ⟨fun _=>?_,fun h=>by simp at h⟩
    simp only[bF,ho] at h
    split at h
    · split at h
      · simp at h; exact ⟨h.2.1.symm,h.2.2⟩
      · simp at h; exact ⟨h.2.1.symm,h.2.2⟩
      · simp at h
    · exact mJ h
  · rename_i op t x ho
    exact ⟨fun _=>mJ (by simpa only [bF,ho] using h),fun h=>by simp at h⟩
  · rename_i t x i ho
    exact ⟨fun _=>mJ (by simpa only [bF,ho] using h),fun h=>by simp at h⟩
  · exact ⟨fun h=>by simp at h,fun h=>by simp at h⟩
theorem oI {P:Program} {s:SI} {T:Env} {H:View} {n:Nat} {v:V} {aB:aZ} {rd:List Nat} (h:sI P s T H n=some (v,aB,rd)) :
    (pZ P s=0→aB=.none∧rd=[])∧(pZ P s=1→aB.wr=[]):=by
  have nn:∀ {v':V},some (v',aZ.none,([]:List Nat))=some (v,aB,rd)→aB=.none∧rd=[]:=fun e=>by
    simp only[Option.some.injEq,Prod.mk.injEq] at e; exact ⟨e.2.1.symm,e.2.2.symm⟩
  have mp:∀ {α:Type} {x:Option α} {f:α→V},(x.map fun a=>(f a,aZ.none,([]:List Nat)))=some (v,aB,rd)→aB=.none∧rd=[]:=by
    intro α x f h
    simp only[Option.map_eq_some_iff] at h
    obtain ⟨a,_,h⟩:=h
    simp only[Prod.mk.injEq] at h; exact ⟨h.2.1.symm,h.2.2.symm⟩
  have nw:∀ {v':V} {o:bK} {r:List Nat},some (v',aZ.new o,r)=some (v,aB,rd)→aB.wr=[]:=fun e=>by
    simp only[Option.some.injEq,Prod.mk.injEq] at e; rw[← e.2.1]; rfl
  have n1:∀ {v':V} {r:List Nat},some (v',aZ.none,r)=some (v,aB,rd)→aB.wr=[]:=fun e=>by
    simp only[Option.some.injEq,Prod.mk.injEq] at e; rw[← e.2.1]; rfl
  unfold pZ
  cases s <;> simp only[sI] at h
  case old op ty=>exact Kt (o:=oper op ty) h
  all_goals
    constructor <;> intro hk <;> first
      | (exfalso; revert hk; simp; done)
      | skip
  all_goals try simp only[uf,iO,w7,Ah,gR,yP,xh,vO,Jh,yx,zh] at h
  all_goals first
    | exact nn h
    | exact mp h
    | exact nw h
    | exact n1 h
    | skip
  all_goals repeat' (split at h)
  all_goals first
    | exact nn h
    | exact mp h
    | exact nw h
    | exact n1 h
    | (simp at h; done)
    | (simp only[Option.map_eq_some_iff,Prod.mk.injEq] at h; obtain ⟨_,_,_,rfl,_⟩:=h; rfl)
end Gv
