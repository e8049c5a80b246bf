/-
  Part 1 of the proof: what the machine does and what the functions answer.
  Conditions: those that each lemma names.
-/
import Derived.WalkKit
set_option linter.unusedSimpArgs false
set_option linter.unusedVariables false
set_option maxRecDepth 100000
namespace Gv
open Go
inductive V where
  | any
  | val (v:Value)
  | emp (k:Nat)
  | c8
  | aK (es:List (List V))
  | sl (id off len esz:Nat)
  | ptr (id i j:Nat)
  | aU (e:List V) (j:Nat)
  | mp (id:Nat)
  | fn (f:FuncId) (first cap:List V)
  | agg (cs:List V)
  | bc (vs:List V)
  deriving Inhabited
inductive bI where
  | dead
  | arr (esz:Nat) (es:List (List V))
  | map (es:List (V × V × Nat)) (clock:Nat)
  | td (s:ByteArray) (pos:Nat)
  deriving Inhabited
abbrev aB:=List bI
abbrev View:=Nat→bI
def aB.view (h:aB):View:=fun id=>h.getD id .dead
inductive aY where
  | none
  | new (o:bI)
  | eC (id:Nat) (o:bI)
  | bj (id:Nat) (o:bI)
def aY.fresh (free:Prop):aY→Prop
  | .new _ | .bj _ _=>free
  | _=>True
def aY.apply (h:aB):aY→aB
  | .none=>h
  | .new o=>h ++ [o]
  | .eC id o=>h.set id o
  | .bj id o=>h.set id .dead ++ [o]
def plain:Value→Bool
  | .bool _ | .int _ _ | .float _ _ | .complex _ _ _ | .string _ | .pointer none | .map none | .nilFunc | .nilIface=>true
  | _=>false
def k9:Value→V
  | .slice none 0 0=>.emp 1
  | .slice _ _ _=>.any
  | v=>if plain v then .val v else .any
def dZ:Value→V
  | .agg cs=>.agg (cs.toList.map k9)
  | .func (.func f) a b=>if a.size=0∧b.size=0 then .fn f [] [] else .any
  | v=>k9 v
def toCell:V→Option Value
  | .val v=>some v
  | _=>none
def rr:List V→Option (List Value)
  | []=>some []
  | v :: r=>match toCell v,rr r with
    | some x,some y=>some (x :: y)
    | _,_=>none
def cG:V→Option Value
  | .val v=>some v
  | .agg cs=>(rr cs).map fun l=>.agg l.toArray
  | _=>none
def V.cells:V→List V
  | .agg cs=>cs
  | v=>[v]
def aR:V→Bool
  | .any | .agg _ | .bc _=>false
  | _=>true
def bq {α:Type} (P:Program):Sem α→Option α
  | .pure a=>some a
  | .program k=>bq P (k P)
  | _=>none
abbrev Env:=Nat→V
def Env.put (T:Env) (d:Option Nat) (v:V):Env:=match d with
  | some d=>fun t=>if t=d then v else T t
  | none=>T
def ev (T:Env):Operand→V
  | .tmp t=>T t
  | .const v=>dZ v
  | .global _=>.any
  | .func f=>.fn f [] []
def cd (P:Program) (t:TypeId):Option TypeId:=match P.underlying t with
  | some (.slice e)=>some e
  | _=>none
def zeroCells (P:Program) (t:TypeId):Option (List V):=match P.info? t with
  | some i=>match i.zero with
    | some v=>some (dZ v).cells
    | none=>none
  | none=>none
def mK (P:Program) (t:TypeId) (f:Nat):Option (Nat × Nat × TypeId):=match P.underlying t with
  | some (.struct fs)=>match fs[f]? with
    | some x=>match P.info? x.type with
      | some i=>some (x.offset,i.size,x.type)
      | none=>none
    | none=>none
  | _=>none
def asNat:V→Option Nat
  | .val (.int _ q)=>if 0≤q then some q.toNat else none
  | _=>none
def o8 (P:Program) (t:TypeId):Option Bool:=match P.underlying t with
  | some (.struct _) | some (.array _ _)=>some true
  | some _=>some false
  | none=>none
def mP (P:Program) (t:TypeId) (cs:List V) (off:Nat):Option V:=match P.info? t,o8 P t with
  | some i,some true=>if off+i.size≤cs.length then some (.agg ((cs.drop off).take i.size)) else none
  | some _,some false=>if off < cs.length then some (cs.getD off .any) else none
  | _,_=>none
def ab (e:List V) (j:Nat) (cs:List V):List V:=e.take j ++ cs ++ e.drop (j+cs.length)
def aj (n:Nat):V:=.val (.int .i64 n)
def bG (H:View):V→Option (List (List V) × List Nat)
  | .emp _ | .c8=>some ([],[])
  | .aK es=>some (es,[])
  | .sl _ _ 0 _=>some ([],[])
  | .sl id off len _=>match H id with
    | .arr _ es=>if off+len≤es.length then some ((es.drop off).take len,[id]) else none
    | _=>none
  | .val (.string s)=>some (s.data.toList.map fun b=>[.val (.int .u8 b.toNat)],[])
  | _=>none
def aW:Nat:=2 ^ 46
def jl:List (List V)→Option (List UInt8)
  | []=>some []
  | [.val (.int .u8 n)] :: r=>(jl r).map (UInt8.ofNat n.toNat :: ·)
  | _=>none
def ik:List (V × V × Nat)→Option (List MapEntry)
  | []=>some []
  | (k,_,b) :: r=>match cG k,ik r with
    | some x,some y=>some ({ key:=x,val:=.nilFunc,born:=b } :: y)
    | _,_=>none
def lI (P:Program) (kt:TypeId) (k:V) (empty:Bool) (es:List (V × V × Nat)):Option (Option Nat):=match cG k,ik es with
  | some x,some l=>match bq P (Instr.checkKey empty 10000 kt x >>= fun _=>Instr.findKey kt x l) with
    | some (some (i,_))=>some (some i)
    | some none=>some none
    | none=>none
  | _,_=>none
def eR (P:Program) (t:TypeId):Option (TypeId × TypeId):=match P.underlying t with
  | some (.map k e)=>some (k,e)
  | _=>none
def zeroV (P:Program) (t:TypeId):Option V:=match P.info? t with
  | some i=>match i.zero with
    | some v=>some (dZ v)
    | none=>none
  | none=>none
abbrev Out:=Option (V × aY × List Nat)
def kh (P:Program) (t:TypeId) (a:V) (H:View):Out:=match a with
  | .ptr id i j=>match H id with
    | .arr _ es=>if i < es.length then (mP P t (es.getD i []) j).map fun v=>(v,.none,[id]) else none
    | _=>none
  | .aU e j=>(mP P t e j).map fun v=>(v,.none,[])
  | _=>none
def nq (P:Program) (t:TypeId) (a v:V) (H:View):Out:=match a with
  | .ptr id i j=>match H id with
    | .arr esz es =>
      if i < es.length∧v.cells.length=P.cellsOf t∧j+v.cells.length≤esz∧v.cells.all aR=true∧(P.info? t).isSome=true
      then some (.any,.eC id (.arr esz (es.set i (ab (es.getD i []) j v.cells))),[id]) else none
    | _=>none
  | _=>none
def j0 (cs:List V) (n:Nat):Out :=
  if cs.all aR=true then some (.ptr n 0 0,.new (.arr cs.length [cs]),[]) else none
def af (size:Nat):List (List V)→List (Nat × V)→Option (List (List V))
  | es,[]=>some es
  | es,(i,x) :: r=>if x.cells.length=size∧i < es.length∧x.cells.all aR=true then af size (es.set i x.cells) r else none
def fN (P:Program) (t:TypeId) (len:Nat) (parts:List (Nat × V)) (n:Nat):Out:=match cd P t with
  | none=>none
  | some e=>match P.info? e with
    | none=>none
    | some i =>
      if len * i.size > 2 ^ 24 then none
      else if len=0 then (if parts.isEmpty then some (.emp 2,.none,[]) else none)
      else if i.size=0 then none
      else match zeroCells P e with
        | none=>none
        | some z=>if z.length=i.size∧z.all aR=true then
            match af i.size (List.replicate len z) parts with
            | some es=>some (.sl n 0 len i.size,.new (.arr i.size es),[])
            | none=>none
          else none
def sE (place:Nat→Option (Nat × Nat)):List V→List (Nat × V)→Option (List V)
  | cs,[]=>some cs
  | cs,(i,x) :: r=>match place i with
    | none=>none
    | some (off,size)=>if x.cells.length=size∧off+size≤cs.length∧x.cells.all aR=true then sE place (ab cs off x.cells) r else none
def placeOf (P:Program) (t:TypeId) (i:Nat):Option (Nat × Nat):=(mK P t i).map fun (a,b,_)=>(a,b)
def j1 (P:Program) (t:TypeId):Bool:=match P.underlying t with
  | some (.struct fs)=>fs.toList.all fun f=>(P.info? f.type).isSome
  | _=>false
def rl (P:Program) (t:TypeId) (parts:List (Nat × V)):Out:=match P.underlying t,zeroV P t with
  | some (.struct _),some (.agg z)=>if j1 P t=true then (sE (placeOf P t) z parts).map fun cs=>(.agg cs,.none,[]) else none
  | _,_=>none
def jK (P:Program) (t:TypeId) (x:V) (f:Nat):Out:=match mK P t f with
  | some (off,s,_)=>if s=0 then none else match x with
    | .ptr id i j=>some (.ptr id i (j+off),.none,[])
    | .aU e j=>some (.aU e (j+off),.none,[])
    | _=>none
  | none=>none
def rW (P:Program) (t:TypeId) (x:V) (f:Nat):Out:=match mK P t f,x with
  | some (off,_,ft),.agg cs=>(mP P ft cs off).map fun v=>(v,.none,[])
  | _,_=>none
def jH (P:Program) (t:TypeId) (x i:V):Out:=match asNat i with
  | none=>none
  | some q=>match P.underlying t with
    | some (.slice e)=>match P.info? e with
      | none=>none
      | some ti=>match x with
        | .sl id off len esz=>if q < len∧esz=ti.size then some (.ptr id (off+q) 0,.none,[]) else none
        | .aK es=>if q < es.length∧(es.getD q []).length=ti.size then some (.aU (es.getD q []) 0,.none,[]) else none
        | _=>none
    | some (.array len e)=>match P.info? e with
      | none=>none
      | some ti=>if q < len then match x with
        | .ptr id i j=>some (.ptr id i (j+q * ti.size),.none,[])
        | .aU e j=>some (.aU e (j+q * ti.size),.none,[])
        | _=>none
        else none
    | _=>none
def bound (d:Nat):Option V→Option Nat
  | none=>some d
  | some v=>asNat v
def pK (P:Program) (t:TypeId) (x:V) (lo hi mx:Option V):Out:=match cd P t with
  | none=>none
  | some e=>match P.info? e with
    | none=>none
    | some ti=>match mx with
      | some m=>match bound 0 lo,bound 0 hi,asNat m with
        | some 0,some 0,some 0=>if hi.isNone then none else match x with
          | .sl _ _ _ _ | .aK _ | .emp _ | .c8=>some (.emp 0,.none,[])
          | _=>none
        | _,_,_=>none
      | none=>match x with
        | .sl id off len esz=>match bound 0 lo,bound len hi with
          | some l,some h=>if l≤h∧h≤len∧esz=ti.size then some (.sl id (off+l) (h - l) esz,.none,[]) else none
          | _,_=>none
        | .aK es=>match bound 0 lo,bound es.length hi with
          | some l,some h=>if l≤h∧h≤es.length∧(es.all fun e=>e.length == ti.size)=true then some (.aK ((es.drop l).take (h - l)),.none,[]) else none
          | _,_=>none
        | .emp k=>match bound 0 lo,bound 0 hi with
          | some 0,some 0=>some (.emp k,.none,[])
          | _,_=>none
        | _=>none
def jB (P:Program) (t:TypeId) (len cap:V) (n:Nat):Out:=match cd P t with
  | none=>none
  | some e=>match P.info? e with
    | none=>none
    | some ti=>match asNat len,asNat cap with
      | some l,some c =>
        if l≤c∧c < aW∧ti.bytes * c < aW then
          (
           if c=0 then some (.emp 2,.none,[])
           else if ti.size=0 then none
           else match zeroCells P e with
            | none=>none
            | some z=>if z.length=ti.size∧z.all aR=true then some (.sl n 0 l ti.size,.new (.arr ti.size (List.replicate l z)),[]) else none)
        else none
      | _,_=>none
def kH (P:Program) (at0:TypeId) (s x:V) (H:View) (n:Nat):Out:=match cd P at0,bG H x with
  | some e,some (xs,rd)=>match P.info? e with
    | none=>none
    | some ti =>
      if xs.isEmpty then (match s with
        | .emp _ | .c8 | .aK _ | .sl _ _ _ _=>some (s,.none,[])
        | _=>none)
      else if ti.size=0∨¬ ((zeroCells P e).map List.length=some ti.size)∨¬ ((xs.all fun e=>e.length == ti.size && e.all aR)=true) then none
      else match s with
        | .emp _=>if xs.length * ti.bytes < aW∧xs.length < aW then some (.sl n 0 xs.length ti.size,.new (.arr ti.size xs),rd) else none
        | .sl id off len esz=>match H id with
          | .arr _ es =>
            if off+len≤es.length∧esz=ti.size∧(len+xs.length) * ti.bytes < aW∧len+xs.length < aW
            then some (.sl n 0 (len+xs.length) esz,.bj id (.arr esz ((es.drop off).take len ++ xs)),id :: rd) else none
          | _=>none
        | _=>none
  | _,_=>none
def DU (P:Program) (at0:TypeId) (x:V):Out:=match cd P at0,x with
  | some _,.emp _=>some (aj 0,.none,[])
  | _,_=>none
def sQ (P:Program) (at0:TypeId) (s x:V) (n:Nat):Out:=match cd P at0,asNat x,s with
  | some e,some l,.emp k=>match P.info? e,zeroCells P e with
    | some ti,some z=>if l=0 then some (.emp k,.none,[]) else if z.length=ti.size∧z.all aR=true∧ti.size≠0∧l * ti.bytes < aW∧l < aW then some (.sl n 0 l ti.size,.new (.arr ti.size (List.replicate l z)),[]) else none
    | _,_=>none
  | _,_,_=>none
def en:List (List V)→Nat→List (List V)→List (List V)
  | es,_,[]=>es
  | es,i,x :: r=>en (es.set i x) (i+1) r
def cH:V→Option Nat
  | .emp _ | .c8=>some 0
  | .aK es=>some es.length
  | .sl _ _ len _=>some len
  | _=>none
def zN (P:Program) (at0:TypeId) (d x:V) (H:View):Out:=match cd P at0,bG H x,cH d with
  | some e,some (xs,rd),some dl=>match P.info? e with
    | none=>none
    | some ti =>
      if (xs.take dl).isEmpty then some (aj 0,.none,[])
      else match d with
        | .sl id off len esz=>match H id with
          | .arr _ es =>
            if off+len≤es.length∧esz=ti.size∧ti.size≠0∧((xs.all fun e=>e.length == ti.size && e.all aR)=true)
            then some (aj (xs.take dl).length,.eC id (.arr esz (en es off (xs.take dl))),id :: rd) else none
          | _=>none
        | _=>none
  | _,_,_=>none
def sg (P:Program) (at0:TypeId) (d:V) (H:View):Out:=match cd P at0,cH d with
  | some e,some dl=>if dl=0 then some (.bc [],.none,[]) else match d,P.info? e,zeroCells P e with
    | .sl id off len esz,some ti,some z=>match H id with
      | .arr _ es=>if off+len≤es.length∧esz=ti.size∧ti.size≠0∧z.length=ti.size∧z.all aR=true then some (.bc [],.eC id (.arr esz (en es off (List.replicate len z))),[id]) else none
      | _=>none
    | _,_,_=>none
  | _,_=>none
def eQ (P:Program) (t:TypeId) (m k:V) (ok:Bool) (H:View):Out:=match eR P t with
  | none=>none
  | some (kt,et)=>match zeroV P et with
    | none=>none
    | some z =>
      let fin (v:V) (b:Bool) (rd:List Nat):Out:=some (if ok then .bc [v,.val (.bool b)] else v,.none,rd)
      match m with
      | .mp id=>match H id with
        | .map es _=>match lI P kt k es.isEmpty es with
          | some (some i)=>match es[i]? with
            | some (_,v,_)=>fin v true [id]
            | none=>none
          | some none=>fin z false [id]
          | none=>none
        | _=>none
      | _=>none
def sameKey (old new:V):Bool:=match cG old,cG new with
  | some a,some b=>Instr.sameBits 10000 a b
  | _,_=>false
def fa (P:Program) (t:TypeId) (m k v:V) (H:View):Out:=match eR P t,m with
  | some (kt,_),.mp id=>match H id with
    | .map es c=>match lI P kt k false es with
      | some (some i)=>match es[i]? with
        | some (k0,_,b)=>if sameKey k0 k=true then some (.any,.eC id (.map (es.set i (k,v,b)) c),[id]) else none
        | none=>none
      | some none=>some (.any,.eC id (.map (es ++ [(k,v,c)]) (c+1)),[id])
      | none=>none
    | _=>none
  | _,_=>none
def dY (P:Program) (t:TypeId) (m k:V) (H:View):Out:=match eR P t,m with
  | some (kt,et),.mp id=>match H id with
    | .map es c=>match lI P kt k false es with
      | some (some i)=>match es[i]? with
        | some (k0,v,b)=>if sameKey k0 k=true then some (.bc [v,aj b],.eC id (.map (es.set i (k,v,b)) c),[id]) else none
        | none=>none
      | some none=>match zeroV P et with
        | some z=>some (.bc [z,aj c],.eC id (.map (es ++ [(k,z,c)]) (c+1)),[id])
        | none=>none
      | none=>none
    | _=>none
  | _,_=>none
def j4 (m s v:V) (H:View):Out:=match m,asNat s with
  | .mp id,some q=>match H id with
    | .map es c=>match es.findIdx? (fun e=>e.2.2 == q) with
      | some i=>match es[i]? with
        | some (k,_,b)=>some (.any,.eC id (.map (es.set i (k,v,b)) c),[id])
        | none=>none
      | none=>none
    | _=>none
  | _,_=>none
def sk (P:Program) (t:TypeId) (m k:V) (H:View):Out:=match eR P t,m with
  | some (kt,_),.mp id=>match H id with
    | .map es c=>match lI P kt k es.isEmpty es with
      | some (some i)=>some (.any,.eC id (.map (es.eraseIdx i) c),[id])
      | some none=>some (.any,.none,[id])
      | none=>none
    | _=>none
  | _,_=>none
def qV (P:Program) (t:TypeId) (x:V) (H:View):Out:=match P.underlying t with
  | some (.slice _)=>(cH x).map fun n=>(aj n,.none,[])
  | some (.map _ _)=>match x with
    | .mp id=>match H id with
      | .map es _=>some (aj es.length,.none,[id])
      | _=>none
    | .val (.map none)=>some (aj 0,.none,[])
    | _=>none
  | some .string=>match x with
    | .val (.string s)=>some (aj s.size,.none,[])
    | _=>none
  | some (.array n _)=>some (aj n,.none,[])
  | _=>none
def yZ (x:V) (H:View):Out:=match x with
  | .ptr id 0 0=>match H id with
    | .td s pos =>
      if pos < s.size then
        some (.bc [.val (.bool true),aj pos,.val (.int .i32 (Utf8.decode s pos).1)],.eC id (.td s (pos+(Utf8.decode s pos).2)),[id])
      else some (.bc [.val (.bool false)],.none,[id])
    | _=>none
  | _=>none
def fi (s:ByteArray):List (List V):=s.data.toList.map fun b=>[.val (.int .u8 b.toNat)]
def jd (P:Program) (s d:TypeId):Bool:=match P.underlying s,P.underlying d with
  | some (.slice _),_=>true
  | _,some (.slice _)=>true
  | _,_=>false
def ko (P:Program) (s d:TypeId) (x:V) (H:View) (n:Nat):Out:=match P.underlying s,P.underlying d,x with
  | some (.slice e),some .string,x=>match P.underlying e with
    | some (.int .u8)=>match bG H x,cH x with
      | some (xs,rd),some _=>(jl xs).map fun l=>(.val (.string ⟨l.toArray⟩),.none,rd)
      | _,_=>none
    | _=>none
  | some .string,some (.slice e),.val (.string s)=>match P.underlying e with
    | some (.int .u8)=>some (.sl n 0 s.size 1,.new (.arr 1 (fi s)),[])
    | _=>none
  | some (.slice _),some (.slice e),.sl id off len esz=>if s=d∧len≠0 then (match P.underlying e with
    | some (.int .u8)=>match H id with
      | .arr z es=>some (.sl id off len esz,.eC id (.arr z es),[id])
      | _=>none
    | _=>none) else none
  | _,_,_=>none
def isNil:Nat→V→Option Bool
  | 0,.emp 1=>some true
  | 0,.emp 2 | 0,.c8=>some false
  | 0,.sl _ _ (_+1) _=>some false
  | 0,.aK (_ :: _)=>some false
  | 1,.ptr _ _ _ | 1,.aU _ _ | 2,.mp _ | 3,.fn _ _ _=>some false
  | 1,.val (.pointer none) | 2,.val (.map none) | 3,.val .nilFunc=>some true
  | _,_=>none
def g8 (P:Program) (t:TypeId):Option Nat:=match P.underlying t with
  | some (.slice _)=>some 0
  | some (.pointer _)=>some 1
  | some (.map _ _)=>some 2
  | some (.func _ _ _)=>some 3
  | _=>none
def AS (P:Program) (t:TypeId) (x y:V):Option Bool:=match g8 P t with
  | some k=>match isNil k x,isNil k y with
    | some true,some b=>some b
    | some b,some true=>some b
    | _,_=>none
  | none=>none
def c4 (P:Program) (o:Oper) (T:Env):Out :=
  if o.op.operands.all (fun x=>(cG (ev T x)).isSome)=true then
    match bq P (execOp (fun x=>(cG (ev T x)).getD undef) o) with
    | some (.value v)=>if plain v then some (.val v,.none,[]) else none
    | _=>none
  else none
def isStr (P:Program) (o:Op):Bool:=match o with
  | .range t _=>(match P.underlying t with | some .string=>true | _=>false)
  | _=>false
def mZ (P:Program) (t:TypeId):Bool:=match P.underlying t with
  | some (.int _)=>false
  | some _=>true
  | none=>false
def isInt (P:Program) (t:TypeId):Bool:=match P.underlying t with
  | some (.int _)=>true
  | _=>false
def bT (P:Program) (o:Oper) (T:Env) (H:View) (n:Nat):Out:=match o.op with
  | .move x | .assign x=>some (ev T x,.none,[])
  | .pick c a b=>match ev T c with
    | .val (.bool t)=>some (if t then ev T a else ev T b,.none,[])
    | _=>none
  | .alloc e=>match zeroCells P e with
    | some z=>j0 z n
    | none=>none
  | .box _ x=>j0 (ev T x).cells n
  | .build t parts=>rl P t (parts.toList.map fun (i,x)=>(i,ev T x))
  | .buildSlice t len parts=>fN P t len (parts.toList.map fun (i,x)=>(i,ev T x)) n
  | .load t a=>kh P t (ev T a) H
  | .store t a v=>nq P t (ev T a) (ev T v) H
  | .nilCheck x=>match ev T x with
    | .ptr id i j=>some (.ptr id i j,.none,[])
    | .aU e j=>some (.aU e j,.none,[])
    | .fn f a b=>some (.fn f a b,.none,[])
    | _=>none
  | .fieldAddr t x f=>jK P t (ev T x) f
  | .field t x f=>rW P t (ev T x) f
  | .indexAddr t x i=>jH P t (ev T x) (ev T i)
  | .slice t x lo hi mx=>match ev T x with
    | .val _=>c4 P o T
    | y=>pK P t y (lo.map (ev T)) (hi.map (ev T)) (mx.map (ev T))
  | .makeSlice t l c=>jB P t (ev T l) (ev T c) n
  | .makeMap _ r=>match r with
    | none=>some (.mp n,.new (.map [] 0),[])
    | some _=>none
  | .makeFunc (.func f) first cap=>some (.fn f (first.toList.map (ev T)) (cap.toList.map (ev T)),.none,[])
  | .lookup t m k ok=>eQ P t (ev T m) (ev T k) ok H
  | .mapUpdate t m k v=>fa P t (ev T m) (ev T k) (ev T v) H
  | .insert t m k v=>fa P t (ev T m) (ev T k) (ev T v) H
  | .mapEntry t m k=>dY P t (ev T m) (ev T k) H
  | .entryStore _ m s v=>j4 (ev T m) (ev T s) (ev T v) H
  | .extract t i=>match ev T t with
    | .bc vs=>if i < vs.length then some (vs.getD i .any,.none,[]) else none
    | _=>none
  | .range _ x=>match ev T x with
    | .val (.string s)=>if isStr P o.op=true then some (.ptr n 0 0,.new (.td s 0),[]) else none
    | _=>none
  | .next it true=>yZ (ev T it) H
  | .convert s d x=>if jd P s d=true then ko P s d (ev T x) H n else c4 P o T
  | .call { callee:=.builtin b,args,argTypes }=>match b,args.toList with
    | .len,[x]=>if 1≤argTypes.size then qV P (argTypes.getD 0 0) (ev T x) H else none
    | .append,[s,x]=>if 2≤argTypes.size∧mZ P (argTypes.getD 1 0)=true then kH P (argTypes.getD 0 0) (ev T s) (ev T x) H n else if 2≤argTypes.size∧isInt P (argTypes.getD 1 0)=true then sQ P (argTypes.getD 0 0) (ev T s) (ev T x) n else none
    | .cap,[x]=>if 1≤argTypes.size then DU P (argTypes.getD 0 0) (ev T x) else none
    | .copy,[d,x]=>if 1≤argTypes.size then zN P (argTypes.getD 0 0) (ev T d) (ev T x) H else none
    | .delete,[m,k]=>if 1≤argTypes.size then sk P (argTypes.getD 0 0) (ev T m) (ev T k) H else none
    | .clear,[d]=>if 1≤argTypes.size then sg P (argTypes.getD 0 0) (ev T d) H else none
    | .min,_ | .max,_ | .complex,_ | .real,_ | .imag,_=>c4 P o T
    | _,_=>none
  | .binOp op t x y _=>if (g8 P t).isSome=true then (match op,AS P t (ev T x) (ev T y) with
      | .eql,some b=>some (.val (.bool b),.none,[])
      | .neq,some b=>some (.val (.bool (!b)),.none,[])
      | _,_=>none)
    else c4 P o T
  | .unOp .. | .index ..=>c4 P o T
  | _=>none
abbrev Mu:=Nat→Option (Nat × Nat × Nat)
def cellAt (hp:Array Obj) (b k:Nat):Option Value:=match hp[b]? with
  | some (.cells c _ _)=>c[k]?
  | _=>none
theorem kL (w:World) (b k:Nat):w.cell? ⟨b,k,none⟩=cellAt w.heap b k:=by
  simp only[World.cell?,cellAt]
  cases w.heap[b]? with
  | none=>rfl
  | some o=>cases o <;> simp
inductive ay (Z:Nat→Prop) (μ:Mu) (hp:Array Obj):V→Value→Prop
  | any (x:Value):ay Z μ hp .any x
  | val (v:Value):plain v=true→ay Z μ hp (.val v) v
  | emp (k:Nat) (a:Option Addr):(k=1→a=none)→(k=2→a≠none)→ay Z μ hp (.emp k) (.slice a 0 0)
  | c8 (a:Addr) (cap:Nat):ay Z μ hp .c8 (.slice (some a) 0 cap)
  | fY (a:Option Addr) (cap:Nat):(a=none→cap=0)→ay Z μ hp (.aK []) (.slice a 0 cap)
  | aK (es:List (List V)) (b off esz cap:Nat) (c:Nat→Nat→Value):Z b→es.length≤cap →
      (∀ i,i < es.length→(es.getD i []).length=esz) →
      (∀ i j,i < es.length→j < esz→cellAt hp b (off+i * esz+j)=some (c i j)) →
      (∀ i j,i < es.length→j < esz→ay Z μ hp ((es.getD i []).getD j .any) (c i j)) →
      ay Z μ hp (.aK es) (.slice (some ⟨b,off,none⟩) es.length cap)
  | lS (id off esz:Nat) (a:Option Addr):ay Z μ hp (.sl id off 0 esz) (.slice a 0 0)
  | sl (id off len esz b o0 cap:Nat) (c:Array Value) (e:TypeId) (f:Nat × Nat):μ id=some (b,o0,esz)→len≤cap →
      hp[b]?=some (.cells c e f)→o0+(off+cap) * esz≤c.size →
      ay Z μ hp (.sl id off len esz) (.slice (some ⟨b,o0+off * esz,none⟩) len cap)
  | ptr (id i j b o0 esz:Nat):μ id=some (b,o0,esz)→ay Z μ hp (.ptr id i j) (.pointer (some ⟨b,o0+i * esz+j,none⟩))
  | aU (e:List V) (j b off:Nat) (c:Nat→Value):Z b→(∀ k,k < e.length→cellAt hp b (off+k)=some (c k)) →
      (∀ k,k < e.length→ay Z μ hp (e.getD k .any) (c k))→ay Z μ hp (.aU e j) (.pointer (some ⟨b,off+j,none⟩))
  | mp (id b o0 esz:Nat):μ id=some (b,o0,esz)→ay Z μ hp (.mp id) (.map (some b))
  | fn (f:FuncId) (xs ys:List V) (aas bs:Array Value):xs.length=aas.size→ys.length=bs.size →
      (∀ i,i < xs.length→ay Z μ hp (xs.getD i .any) (aas.getD i undef))→(∀ i,i < ys.length→ay Z μ hp (ys.getD i .any) (bs.getD i undef)) →
      ay Z μ hp (.fn f xs ys) (.func (.func f) aas bs)
  | agg (cs:List V) (aas:Array Value):cs.length=aas.size→(∀ i,i < cs.length→ay Z μ hp (cs.getD i .any) (aas.getD i undef))→ay Z μ hp (.agg cs) (.agg aas)
  | bc (cs:List V) (aas:Array Value):cs.length=aas.size→(∀ i,i < cs.length→ay Z μ hp (cs.getD i .any) (aas.getD i undef))→ay Z μ hp (.bc cs) (.tuple aas)
def dR (Z:Nat→Prop) (μ:Mu) (hp:Array Obj) (vs:List V) (xs:List Value):Prop :=
  vs.length=xs.length∧∀ i,i < vs.length→ay Z μ hp (vs.getD i .any) (xs.getD i undef)
def ej (hp hp':Array Obj):Prop:=∀ (b:Nat) (c:Array Value) (e:TypeId) (f:Nat × Nat),hp[b]?=some (.cells c e f)→∃ (c':Array Value) (f':Nat × Nat),hp'[b]?=some (.cells c' e f')∧c'.size=c.size
theorem ej.refl (hp:Array Obj):ej hp hp:=fun _ c _ f h=>⟨c,f,h,rfl⟩
theorem ej.trans {a b c:Array Obj} (h:ej a b) (k:ej b c):ej a c:=fun i x e f hx =>
  let ⟨c1,f1,h1,s1⟩:=h i x e f hx
  let ⟨c2,f2,h2,s2⟩:=k i c1 e f1 h1
  ⟨c2,f2,h2,s2.trans s1⟩
structure fj (Z Z':Nat→Prop) (μ μ':Mu) (hp hp':Array Obj):Prop where
  z:∀ b,Z b→Z' b
  zz:∀ b,Z b→hp'[b]?=hp[b]?
  mu:∀ id x,μ id=some x→μ' id=some x
  shape:ej hp hp'
theorem fj.refl (Z:Nat→Prop) (μ:Mu) (hp:Array Obj):fj Z Z μ μ hp hp:=⟨fun _ h=>h,fun _ _=>rfl,fun _ _ h=>h,ej.refl _⟩
theorem fj.trans {Z Z' Z'':Nat→Prop} {μ μ' μ'':Mu} {a b c:Array Obj} (h:fj Z Z' μ μ' a b) (k:fj Z' Z'' μ' μ'' b c):fj Z Z'' μ μ'' a c :=
  ⟨fun i hi=>k.z i (h.z i hi),fun i hi=>(k.zz i (h.z i hi)).trans (h.zz i hi),fun i x hx=>k.mu i x (h.mu i x hx),h.shape.trans k.shape⟩
theorem uS {hp hp':Array Obj} {b:Nat} (h:hp'[b]?=hp[b]?) (k:Nat):cellAt hp' b k=cellAt hp b k:=by simp[cellAt,h]
theorem ay.mono {Z Z':Nat→Prop} {μ μ':Mu} {hp hp':Array Obj} (m:fj Z Z' μ μ' hp hp') {v:V} {x:Value} (h:ay Z μ hp v x):ay Z' μ' hp' v x:=by
  induction h with
  | any x=>exact .any x
  | val v hv=>exact .val v hv
  | emp k a h1 h2=>exact .emp k a h1 h2
  | c8 a cap=>exact .c8 a cap
  | fY a cap h1=>exact .fY a cap h1
  | aK es b off esz cap c hz hle hes hc _ ih=>exact .aK es b off esz cap c (m.z _ hz) hle hes (fun i j hi hj=>by rw[uS (m.zz _ hz)]; exact hc i j hi hj) ih
  | lS id off esz a=>exact .lS id off esz a
  | sl id off len esz b o0 cap c e f hm hle hb hs =>
    obtain ⟨c',f',hc',hsz⟩:=m.shape b c e f hb
    exact .sl id off len esz b o0 cap c' e f' (m.mu _ _ hm) hle hc' (by omega)
  | ptr id i j b o0 esz hm=>exact .ptr id i j b o0 esz (m.mu _ _ hm)
  | aU e j b off c hz hc _ ih=>exact .aU e j b off c (m.z _ hz) (fun k hk=>by rw[uS (m.zz _ hz)]; exact hc k hk) ih
  | mp id b o0 esz hm=>exact .mp id b o0 esz (m.mu _ _ hm)
  | fn f xs ys aas bs h1 h2 _ _ ih1 ih2=>exact .fn f xs ys aas bs h1 h2 ih1 ih2
  | agg cs aas h1 _ ih=>exact .agg cs aas h1 ih
  | bc cs aas h1 _ ih=>exact .bc cs aas h1 ih
def du (Z:Nat→Prop) (μ:Mu) (hp:Array Obj) (id:Nat):bI→Prop
  | .dead=>True
  | .arr esz es=>∀ b o0 s,μ id=some (b,o0,s)→s=esz ∧
      (∃ (c:Array Value) (e:TypeId) (f:Nat × Nat),hp[b]?=some (.cells c e f)∧(f.1=f.2∨c.size≤f.1)∧o0+es.length * esz≤c.size) ∧
      (∀ i,i < es.length→(es.getD i []).length=esz) ∧
      (∀ i j,i < es.length→j < esz→∃ x,cellAt hp b (o0+i * esz+j)=some x∧ay Z μ hp ((es.getD i []).getD j .any) x)
  | .map es clock=>∀ b o0 s,μ id=some (b,o0,s)→∃ a:Array MapEntry,hp[b]?=some (.map a clock)∧a.size=es.length ∧
      ∀ i,i < es.length→∃ y,a[i]?=some y∧ay Z μ hp (es.getD i default).1 y.key∧ay Z μ hp (es.getD i default).2.1 y.val∧y.born=(es.getD i default).2.2
  | .td s pos=>∀ b o0 t,μ id=some (b,o0,t)→o0=0∧hp[b]?=some (.stringIter s pos)
theorem du.mono {Z Z':Nat→Prop} {μ μ':Mu} {hp hp':Array Obj} (m:fj Z Z' μ μ' hp hp') {id:Nat} {o:bI} (h:du Z μ hp id o)
    (hid:μ' id=μ id) (hb:∀ b o0 s,μ id=some (b,o0,s)→hp'[b]?=hp[b]?):du Z' μ' hp' id o:=by
  cases o with
  | dead=>trivial
  | arr esz es =>
    intro b o0 s hμ
    rw[hid] at hμ
    obtain ⟨h1,⟨c,e,f,hc,hf,hs⟩,h3,h4⟩:=h b o0 s hμ
    refine ⟨h1,⟨c,e,f,by rw[hb b o0 s hμ]; exact hc,hf,hs⟩,h3,fun i j hi hj=>?_⟩
    obtain ⟨x,hx,hv⟩:=h4 i j hi hj
    exact ⟨x,by rw[uS (hb b o0 s hμ)]; exact hx,hv.mono m⟩
  | map es clock =>
    intro b o0 s hμ
    rw[hid] at hμ
    obtain ⟨a,ha,hs,h3⟩:=h b o0 s hμ
    refine ⟨a,by rw[hb b o0 s hμ]; exact ha,hs,fun i hi=>?_⟩
    obtain ⟨y,hy,k1,k2,k3⟩:=h3 i hi
    exact ⟨y,hy,k1.mono m,k2.mono m,k3⟩
  | td s pos =>
    intro b o0 t hμ
    rw[hid] at hμ
    obtain ⟨h1,h2⟩:=h b o0 t hμ
    exact ⟨h1,by rw[hb b o0 t hμ]; exact h2⟩
structure fL (Z:Nat→Prop) (μ:Mu) (hp:Array Obj) (H:View):Prop where
  obj:∀ id,du Z μ hp id (H id)
  inj:∀ i j b o s o' s',i≠j→μ i=some (b,o,s)→μ j=some (b,o',s')→H i=.dead∨H j=.dead
  lt:∀ id b o s,μ id=some (b,o,s)→b < hp.size
  bZ:∀ b,Z b→b < hp.size
  fq:∀ id b o s,μ id=some (b,o,s)→¬ Z b
def Mu.set (μ:Mu) (n:Nat) (x:Nat × Nat × Nat):Mu:=fun id=>if id=n then some x else μ id
def View.set (H:View) (n:Nat) (o:bI):View:=fun id=>if id=n then o else H id
def aY.view (H:View) (n:Nat):aY→View
  | .none=>H
  | .new o=>H.set n o
  | .eC id o=>H.set id o
  | .bj id o=>(H.set id .dead).set n o
structure dC (w w':World):Prop where
  os:w'.os=w.os
  tape:w'.tape=w.tape
  output:w'.output=w.output
  size:w.heap.size≤w'.heap.size
theorem dC.refl (w:World):dC w w:=⟨rfl,rfl,rfl,Nat.le_refl _⟩
theorem dC.trans {a b c:World} (h:dC a b) (k:dC b c):dC a c:=⟨k.os.trans h.os,k.tape.trans h.tape,k.output.trans h.output,Nat.le_trans h.size k.size⟩
def eO (hp hp':Array Obj) (p:Nat→Prop):Prop:=∀ b,b < hp.size→¬ p b→hp'[b]?=hp[b]?
def kb (Z:Nat→Prop) (μ μ':Mu) (hp hp':Array Obj) (n:Nat):aY→Prop
  | .none=>μ'=μ∧eO hp hp' (fun _=>False)
  | .new o=>∃ b o0 s,hp.size≤b∧b < hp'.size∧μ'=μ.set n (b,o0,s)∧eO hp hp' (fun _=>False)∧du Z μ' hp' n o
  | .eC id o=>∃ b o0 s,μ id=some (b,o0,s)∧μ'=μ∧eO hp hp' (· = b)∧ej hp hp'∧du Z μ' hp' id o
  | .bj id o=>∃ b o0 s,μ'=μ.set n (b,o0,s)∧du Z μ' hp' n o ∧
      ((hp.size≤b∧b < hp'.size∧eO hp hp' (fun _=>False))∨((∃ o1 s1,μ id=some (b,o1,s1))∧eO hp hp' (· = b)∧ej hp hp'))
theorem eO.nL {hp hp':Array Obj} (h:eO hp hp' (fun _=>False)):ej hp hp':=by
  intro b c e f hb
  have hlt:b < hp.size:=by
    rcases Nat.lt_or_ge b hp.size with h | h
    · exact h
    · simp[Array.getElem?_eq_none h] at hb
  exact ⟨c,f,by rw[h b hlt (fun x=>x)]; exact hb,rfl⟩
theorem kb.mono {Z:Nat→Prop} {μ μ':Mu} {hp hp':Array Obj} {n:Nat} {eff:aY} (h:kb Z μ μ' hp hp' n eff) (hn:eff.fresh (μ n=none))
    (bZ:∀ b,Z b→b < hp.size) (fq:∀ id b o s,μ id=some (b,o,s)→¬ Z b):fj Z Z μ μ' hp hp':=by
  have hset:μ n=none→∀ x:Nat × Nat × Nat,∀ id y,μ id=some y→(μ.set n x) id=some y:=by
    intro hn x id y hy
    by_cases hid:id=n
    · subst hid; simp[hn] at hy
    · simp[Mu.set,hid,hy]
  cases eff with
  | none =>
    obtain ⟨rfl,ho⟩:=h
    exact ⟨fun _ h=>h,fun b hb=>ho b (bZ b hb) (fun x=>x),fun _ _ h=>h,ho.nL⟩
  | new o =>
    obtain ⟨b,o0,s,_,_,rfl,ho,_⟩:=h
    exact ⟨fun _ h=>h,fun b hb=>ho b (bZ b hb) (fun x=>x),hset hn _,ho.nL⟩
  | eC id o =>
    obtain ⟨b,o0,s,hμ,rfl,ho,hs,_⟩:=h
    exact ⟨fun _ h=>h,fun b' hb'=>ho b' (bZ b' hb') (fun e=>fq _ _ _ _ hμ (e ▸ hb')),fun _ _ h=>h,hs⟩
  | bj id o =>
    obtain ⟨b,o0,s,rfl,_,h | ⟨⟨o1,s1,hμ⟩,ho,hs⟩⟩:=h
    · exact ⟨fun _ h=>h,fun b' hb'=>h.2.2 b' (bZ b' hb') (fun x=>x),hset hn _,h.2.2.nL⟩
    · exact ⟨fun _ h=>h,fun b' hb'=>ho b' (bZ b' hb') (fun e=>fq _ _ _ _ hμ (e ▸ hb')),hset hn _,hs⟩
theorem kb.size {Z:Nat→Prop} {μ μ':Mu} {hp hp':Array Obj} {n:Nat} {eff:aY} (h:kb Z μ μ' hp hp' n eff) (lt:∀ id b o s,μ id=some (b,o,s)→b < hp.size) (hs:hp.size≤hp'.size) :
    ∀ id b o s,μ' id=some (b,o,s)→b < hp'.size:=by
  have hold:∀ id b o s,μ id=some (b,o,s)→b < hp'.size:=fun id b o s hx=>Nat.lt_of_lt_of_le (lt id b o s hx) hs
  cases eff with
  | none=>obtain ⟨rfl,_⟩:=h; exact hold
  | new o =>
    obtain ⟨b,o0,s,_,hb,rfl,_,_⟩:=h
    intro id b' o' s' hx
    by_cases hid:id=n
    · simp[Mu.set,hid] at hx; omega
    · simp[Mu.set,hid] at hx; exact hold _ _ _ _ hx
  | eC id o=>obtain ⟨b,o0,s,hμ,rfl,_⟩:=h; exact hold
  | bj id o =>
    obtain ⟨b,o0,s,rfl,_,h | ⟨⟨o1,s1,hμ⟩,_,_⟩⟩:=h
    all_goals
      intro id b' o' s' hx
      by_cases hid:id=n
      · simp[Mu.set,hid] at hx
        first | omega | (obtain ⟨rfl,_,_⟩:=hx; exact hold _ _ _ _ hμ)
      · simp[Mu.set,hid] at hx; exact hold _ _ _ _ hx
theorem fL.eff {Z:Nat→Prop} {μ μ':Mu} {hp hp':Array Obj} {H:View} {n:Nat} {eff:aY} (h:fL Z μ hp H) (hn:eff.fresh (μ n=none)) (hs:hp.size≤hp'.size)
    (he:kb Z μ μ' hp hp' n eff) (hid:∀ id o,eff=.eC id o→H id≠.dead) (hid':∀ id o,eff=.bj id o→H id≠.dead):fL Z μ' hp' (eff.view H n):=by
  have hm:=he.mono hn h.bZ h.fq
  have hlt':=he.size h.lt hs
  have hz':∀ b,Z b→b < hp'.size:=fun b hb=>Nat.lt_of_lt_of_le (h.bZ b hb) hs
  cases eff with
  | none =>
    obtain ⟨rfl,ho⟩:=he
    exact ⟨fun id=>(h.obj id).mono hm rfl (fun b o s hx=>ho b (h.lt _ _ _ _ hx) (fun x=>x)),h.inj,hlt',hz',h.fq⟩
  | new o =>
    obtain ⟨b,o0,s,hb1,hb2,rfl,ho,hor⟩:=he
    refine ⟨fun id=>?_,?_,hlt',hz',?_⟩
    · by_cases hin:id=n
      · subst hin; simpa [aY.view,View.set] using hor
      · have:=(h.obj id).mono hm (by simp[Mu.set,hin]) (fun b o s hx=>ho b (h.lt _ _ _ _ hx) (fun x=>x))
        simpa [aY.view,View.set,hin] using this
    · intro i j b' o' s' o'' s'' hij hi hj
      by_cases h1:i=n
      · by_cases h2:j=n
        · omega
        · simp[Mu.set,h1] at hi; simp[Mu.set,h2] at hj
          have:=h.lt _ _ _ _ hj; omega
      · by_cases h2:j=n
        · simp[Mu.set,h2] at hj; simp[Mu.set,h1] at hi
          have:=h.lt _ _ _ _ hi; omega
        · simp[Mu.set,h1] at hi; simp[Mu.set,h2] at hj
          simpa [aY.view,View.set,h1,h2] using h.inj i j b' o' s' o'' s'' hij hi hj
    · intro id b' o' s' hx hz
      by_cases h1:id=n
      · simp[Mu.set,h1] at hx; have:=h.bZ _ hz; omega
      · simp[Mu.set,h1] at hx; exact h.fq _ _ _ _ hx hz
  | eC k o =>
    obtain ⟨b,o0,s,hμ,rfl,ho,hsh,hor⟩:=he
    have hk:=hid k o rfl
    refine ⟨fun id=>?_,?_,hlt',hz',h.fq⟩
    · by_cases hin:id=k
      · subst hin; simpa [aY.view,View.set] using hor
      · simp only[aY.view,View.set,hin,if_false]
        by_cases hd:H id=.dead
        · rw[hd]; trivial
        · refine (h.obj id).mono hm rfl (fun b' o' s' hx=>ho b' (h.lt _ _ _ _ hx) ?_)
          intro e
          subst e
          rcases h.inj id k _ _ _ _ _ hin hx hμ with h1 | h1
          · exact hd h1
          · exact hk h1
    · intro i j b' o' s' o'' s'' hij hi hj
      rcases h.inj i j _ _ _ _ _ hij hi hj with h1 | h1
      · by_cases e:i=k
        · exact absurd (e ▸ h1) hk
        · left; simpa [aY.view,View.set,e] using h1
      · by_cases e:j=k
        · exact absurd (e ▸ h1) hk
        · right; simpa [aY.view,View.set,e] using h1
  | bj k o =>
    obtain ⟨b,o0,s,rfl,hor,hcase⟩:=he
    have hk:=hid' k o rfl
    have hnew:(μ.set n (b,o0,s)) n=some (b,o0,s):=by simp[Mu.set]
    refine ⟨fun id=>?_,?_,hlt',hz',?_⟩
    · by_cases hin:id=n
      · subst hin; simpa [aY.view,View.set] using hor
      · by_cases hik:id=k
        · simp only[aY.view,View.set,hin,if_false,hik,if_true]
          split <;> first | trivial | (rename_i e; exact absurd (hik.trans e) hin)
        · simp only[aY.view,View.set,hin,if_false,hik]
          by_cases hd:H id=.dead
          · rw[hd]; trivial
          · refine (h.obj id).mono hm (by simp[Mu.set,hin]) (fun b' o' s' hx=>?_)
            rcases hcase with h1 | ⟨⟨o1,s1,hμ⟩,ho,_⟩
            · exact h1.2.2 b' (h.lt _ _ _ _ hx) (fun x=>x)
            · refine ho b' (h.lt _ _ _ _ hx) ?_
              intro e
              subst e
              rcases h.inj id k _ _ _ _ _ hik hx hμ with h1 | h1
              · exact hd h1
              · exact hk h1
    · intro i j b' o' s' o'' s'' hij hi hj
      have key:∀ i b' o' s',i≠n→(μ.set n (b,o0,s)) i=some (b',o',s')→b'=b→(aY.view H n (.bj k o)) i=.dead:=by
        intro p b1 q1 t1 hpn hx e
        subst e
        simp only[Mu.set,if_neg hpn] at hx
        simp only[aY.view,View.set,if_neg hpn]
        by_cases hik:p=k
        · simp[hik]
        · simp only[if_neg hik]
          rcases hcase with h1 | ⟨⟨o1,s1,hμ⟩,_,_⟩
          · have:=h.lt _ _ _ _ hx; omega
          · rcases h.inj p k _ _ _ _ _ hik hx hμ with h1 | h1
            · exact h1
            · exact absurd h1 hk
      by_cases h1:i=n
      · have h2:j≠n:=by omega
        right
        have hb':b'=b:=by
          rw[h1,hnew] at hi; simp at hi; exact hi.1.symm
        exact key j b' o'' s'' h2 hj hb'
      · by_cases h2:j=n
        · left
          have hb':b'=b:=by
            rw[h2,hnew] at hj; simp at hj; exact hj.1.symm
          exact key i b' o' s' h1 hi hb'
        · simp only[Mu.set,h1,if_false] at hi
          simp only[Mu.set,h2,if_false] at hj
          simp only[aY.view,View.set,h1,h2,if_false]
          by_cases e1:i=k
          · left; simp[e1]
          · by_cases e2:j=k
            · right; simp[e2]
            · simp only[e1,e2,if_false]
              exact h.inj i j _ _ _ _ _ hij hi hj
    · intro id b' o' s' hx hz
      by_cases h1:id=n
      · rw[h1,hnew] at hx
        simp at hx
        obtain ⟨rfl,_,_⟩:=hx
        rcases hcase with h2 | ⟨⟨o1,s1,hμ⟩,_,_⟩
        · have:=h.bZ _ hz; omega
        · exact h.fq _ _ _ _ hμ hz
      · simp only[Mu.set,h1,if_false] at hx
        exact h.fq _ _ _ _ hx hz
theorem dR.mono {Z Z':Nat→Prop} {μ μ':Mu} {hp hp':Array Obj} (m:fj Z Z' μ μ' hp hp') {vs:List V} {xs:List Value} (h:dR Z μ hp vs xs):dR Z' μ' hp' vs xs :=
  ⟨h.1,fun i hi=>(h.2 i hi).mono m⟩
theorem rY {Z:Nat→Prop} {μ:Mu} {hp:Array Obj} {v:V} {x:Value} (h:ay Z μ hp v x) (hv:aR v=true):x.oneCell'=true:=by
  cases h with
  | val _ hp'=>cases x <;> first | rfl | (simp[plain] at hp')
  | any x=>simp[aR] at hv
  | agg cs aas h1 h2=>simp[aR] at hv
  | bc cs aas h1 h2=>simp[aR] at hv
  | _=>rfl
theorem fg {Z:Nat→Prop} {μ:Mu} {hp:Array Obj} {v:V} {x:Value} (h:ay Z μ hp v x) (hv:v.cells.all aR=true):dR Z μ hp v.cells x.cells.toList:=by
  have one:∀ v x,ay Z μ hp v x→x.cells = #[x]→dR Z μ hp [v] x.cells.toList:=by
    intro v x h hc
    rw[hc]
    exact ⟨rfl,fun i hi=>by
      simp at hi; subst hi; simpa using h⟩
  cases h with
  | agg cs aas h1 h2 =>
    refine ⟨by simpa [V.cells,Value.cells] using h1,fun i hi=>?_⟩
    have:=h2 i (by simpa [V.cells] using hi)
    simpa [V.cells,Value.cells,List.getD,Array.getD_eq_getD_getElem?] using this
  | any x=>simp[V.cells,aR] at hv
  | bc cs aas h1 h2=>simp[V.cells,aR] at hv
  | val _ hp' =>
    refine one _ _ (.val x hp') ?_
    cases x <;> first | rfl | (simp[plain] at hp')
  | emp k a h1 h2=>exact one _ _ (.emp k a h1 h2) rfl
  | c8 a cap=>exact one _ _ (.c8 a cap) rfl
  | fY a cap h1=>exact one _ _ (.fY a cap h1) rfl
  | aK es b off esz cap c h1 h2 h3 h4 h5=>exact one _ _ (.aK es b off esz cap c h1 h2 h3 h4 h5) rfl
  | lS id off esz a=>exact one _ _ (.lS id off esz a) rfl
  | sl id off len esz b o0 cap c e f h1 h2 h3 h4=>exact one _ _ (.sl id off len esz b o0 cap c e f h1 h2 h3 h4) rfl
  | ptr id i j b o0 esz h1=>exact one _ _ (.ptr id i j b o0 esz h1) rfl
  | aU e j b off c h1 h2 h3=>exact one _ _ (.aU e j b off c h1 h2 h3) rfl
  | mp id b o0 esz h1=>exact one _ _ (.mp id b o0 esz h1) rfl
  | fn f xs ys aas bs h1 h2 h3 h4=>exact one _ _ (.fn f xs ys aas bs h1 h2 h3 h4) rfl
theorem mw {P:Program} {t:TypeId} {i:TypeInfo} (h:P.info? t=some i) (w:World):(typeInfo t).run P w=.ok i w:=by
  simp[typeInfo,h]
theorem cQ {P:Program} {t:TypeId} {i:TypeInfo} (h:P.info? t=some i) (w:World):(Go.sizeOf t).run P w=.ok i.size w:=by
  simp[Go.sizeOf,mw h]
theorem aX {P:Program} {t:TypeId} {d:TypeDesc} (h:P.underlying t=some d) (w:World):(underlying t).run P w=.ok d w:=by
  simp[underlying,h]
theorem iq {P:Program} {t:TypeId} {i:TypeInfo} {v:Value} (h:P.info? t=some i) (hv:i.zero=some v) (w:World):(zeroValue t).run P w=.ok v w:=by
  simp[zeroValue,mw h,hv]
theorem qa {P:Program} {t:TypeId} {b:Bool} (h:o8 P t=some b) (w:World):(isAgg t).run P w=.ok b w:=by
  unfold o8 at h
  cases hu:P.underlying t with
  | none=>simp[hu] at h
  | some d =>
    simp only[hu] at h
    simp only[isAgg,Sem.run_bind,aX hu,Result.andThen_ok]
    cases d <;> simp_all
def CE (Z:Nat→Prop) (μ:Mu) (hp:Array Obj) (b off:Nat) (cs:List V):Prop :=
  ∀ k,k < cs.length→∃ x,cellAt hp b (off+k)=some x∧ay Z μ hp (cs.getD k .any) x
theorem mY {α:Type} {P:Program} : ∀ (s:Sem α) {a:α},bq P s=some a→∀ w,s.run P w=.ok a w:=by
  intro s
  induction s with
  | pure a=>intro a' h w; simp[bq] at h; subst h; rfl
  | program k ih=>intro a h w; simp only[bq] at h; simp only[Sem.run]; exact ih P h w
  | _=>intro a h; simp[bq] at h
theorem lh {n:Nat} {p:Nat→Value→Prop} (h:∀ k,k < n→∃ x,p k x):∃ f:Nat→Value,∀ k,k < n→p k (f k):=by
  refine ⟨fun k=>if hk:k < n then Classical.choose (h k hk) else undef,fun k hk=>?_⟩
  simp only[hk,dif_pos]
  exact Classical.choose_spec (h k hk)
theorem gT (b o n:Nat):Addr.add ⟨b,o,none⟩ n=⟨b,o+n,none⟩:=by
  unfold Addr.add; split
  · rename_i h; subst h; rfl
  · rfl
theorem qi {Z:Nat→Prop} {μ:Mu} {w:World} {P:Program} {b off j:Nat} {t:TypeId} {cs:List V} {v:V} (h:CE Z μ w.heap b off cs) (hp:mP P t cs j=some v) :
    ∃ x,(loadVar t ⟨b,off+j,none⟩).run P w=.ok x w∧ay Z μ w.heap v x:=by
  unfold mP at hp
  cases hi:P.info? t with
  | none=>simp[hi] at hp
  | some i =>
    cases ha:o8 P t with
    | none=>simp[hi,ha] at hp
    | some g =>
      simp only[hi,ha] at hp
      cases g with
      | true =>
        simp only at hp
        split at hp
        · rename_i hle
          simp at hp; subst hp
          have hx:∀ k,k < i.size→∃ x,cellAt w.heap b (off+(j+k))=some x∧ay Z μ w.heap (cs.getD (j+k) .any) x:=fun k hk=>h (j+k) (by omega)
          obtain ⟨f,hf⟩:=lh hx
          refine ⟨.agg ((List.range i.size).map f).toArray,?_,?_⟩
          · simp only[loadVar,Sem.run_bind,qa ha,Result.andThen_ok,if_true,cQ hi]
            rw[run_loadCells w ⟨b,off+j,none⟩ i.size f (fun k hk=>by rw[gT,kL,Nat.add_assoc]; exact (hf k hk).1)]
            rfl
          · refine .agg _ _ (by simp; omega) (fun k hk=>?_)
            have hk':k < i.size:=by simp at hk; omega
            have:=(hf k hk').2
            simpa [List.getD,hk',List.getElem?_take,List.getElem?_drop,Array.getD_eq_getD_getElem?] using this
        · simp at hp
      | false =>
        simp only at hp
        split at hp
        · rename_i hle
          simp at hp; subst hp
          obtain ⟨x,hx,hv⟩:=h j hle
          refine ⟨x,?_,by simpa [List.getD] using hv⟩
          simp only[loadVar,Sem.run_bind,qa ha,Result.andThen_ok,Bool.false_eq_true,if_false,run_load,kL,hx]
        · simp at hp
theorem uN {w:World} {b k:Nat} {v:Value} {c:Array Value} {e:TypeId} {f:Nat × Nat} (h:w.heap[b]?=some (.cells c e f)) :
    w.setCell ⟨b,k,none⟩ v = { w with heap:=w.heap.setIfInBounds b (.cells (c.setIfInBounds k v) e f) }:=by
  unfold World.setCell
  congr 1
  apply Array.ext_getElem?
  intro i
  simp only[Array.getElem?_modify,Array.getElem?_setIfInBounds]
  by_cases hi:b=i
  · subst hi
    have hlt:b < w.heap.size:=by
      rcases Nat.lt_or_ge b w.heap.size with h' | h'
      · exact h'
      · simp[Array.getElem?_eq_none h'] at h
    have hb:w.heap[b]=.cells c e f:=by simpa [Array.getElem?_eq_getElem hlt] using h
    simp[hb,hlt]
  · simp[hi]
theorem JQ {w:World} {b k:Nat} {c:Array Value} {e:TypeId} {f:Nat × Nat} (h:w.heap[b]?=some (.cells c e f)) (hf:¬ (f.1≤k∧k < f.2)):w.frozen? ⟨b,k,none⟩=false:=by
  simp only[World.frozen?,h]
  simp only[Bool.and_eq_false_iff,decide_eq_false_iff_not]
  omega
theorem mQ {c:Array Value} {f:Nat × Nat} (h:f.1=f.2∨c.size≤f.1):∀ k,k < c.size→¬ (f.1≤k∧k < f.2):=by
  intro k hk; omega
theorem jr {P:Program} {b off:Nat} {e:TypeId} {f:Nat × Nat} : ∀ (xs:List Value) (i:Nat) (c:Array Value) (w:World),
    w.heap[b]?=some (.cells c e f)→(∀ k,k < c.size→¬ (f.1≤k∧k < f.2))→off+i+xs.length≤c.size→(∀ x∈xs,x.oneCell'=true) →
    ∃ c',(storeCells ⟨b,off,none⟩ xs i).run P w=.ok () { w with heap:=w.heap.setIfInBounds b (.cells c' e f) }∧c'.size=c.size ∧
      ∀ k,c'[k]?=if off+i≤k∧k < off+i+xs.length then xs[k - (off+i)]? else c[k]?
  | [],i,c,w,h,_,_,_=>by
    refine ⟨c,?_,rfl,fun k=>?_⟩
    · simp only[storeCells,Sem.run_pure]
      congr 1
      have:w.heap.setIfInBounds b (.cells c e f)=w.heap:=by
        apply Array.ext_getElem?
        intro k
        simp only[Array.getElem?_setIfInBounds]
        split
        · rename_i hk
          subst hk
          split
          · exact h.symm
          · rename_i hn; simp[Array.getElem?_eq_none (Nat.le_of_not_lt hn)]
        · rfl
      rw[this]
    · rw[if_neg (by simp only[List.length_nil]; omega)]
  | x :: xs,i,c,w,h,hf,hs,hx=>by
    simp only[List.length_cons] at hs
    have hlt:b < w.heap.size:=by
      rcases Nat.lt_or_ge b w.heap.size with h' | h'
      · exact h'
      · simp[Array.getElem?_eq_none h'] at h
    have hcell:w.cell? ⟨b,off+i,none⟩=some c[off+i]:=by
      rw[kL,cellAt,h]; simp[show off+i < c.size from by omega]
    have hw:(w.setCell ⟨b,off+i,none⟩ x).heap[b]?=some (.cells (c.setIfInBounds (off+i) x) e f):=by
      rw[uN h]; simp[hlt]
    obtain ⟨c',hr,hsz,hc'⟩:=jr (P:=P) (off:=off) (f:=f) xs (i+1) (c.setIfInBounds (off+i) x) (w.setCell ⟨b,off+i,none⟩ x) hw (fun k hk=>hf k (by simpa using hk)) (by simp; omega) (fun y hy=>hx y (List.mem_cons_of_mem _ hy))
    refine ⟨c',?_,by simpa using hsz,fun k=>?_⟩
    · simp only[storeCells,Sem.run_bind,gT]
      rw[run_store P w _ x _ (hx x List.mem_cons_self),hcell]
      simp only[JQ h (hf (off+i) (by omega)),Bool.false_eq_true,if_false,Result.andThen_ok]
      rw[hr]
      congr 1
      rw[uN h]
      simp[Array.setIfInBounds_setIfInBounds]
    · rw[hc']
      simp only[List.length_cons]
      by_cases h1:off+i=k
      · subst h1
        rw[if_neg (by omega),if_pos (by omega)]
        simp[show off+i < c.size from by omega]
      · by_cases h2:off+(i+1)≤k∧k < off+(i+1)+xs.length
        · rw[if_pos h2,if_pos (by omega)]
          rw[show k - (off+i)=(k - (off+(i+1)))+1 from by omega]
          simp
        · rw[if_neg h2,if_neg (by omega)]
          simp[h1]
theorem cx (hp:Array Obj) (b:Nat) (o:Obj):eO hp (hp.setIfInBounds b o) (· = b):=by
  intro k _ hk
  simp only[Array.getElem?_setIfInBounds]
  rw[if_neg (fun e=>hk e.symm)]
theorem gz {hp:Array Obj} {b:Nat} {c c':Array Value} {e:TypeId} {f:Nat × Nat} (h:hp[b]?=some (.cells c e f)) (hs:c'.size=c.size):ej hp (hp.setIfInBounds b (.cells c' e f)):=by
  intro k x e' f' hk
  simp only[Array.getElem?_setIfInBounds]
  by_cases hb:b=k
  · subst hb
    rw[h] at hk
    simp only[Option.some.injEq,Obj.cells.injEq] at hk
    obtain ⟨rfl,rfl,rfl⟩:=hk
    have hlt:b < hp.size:=by
      rcases Nat.lt_or_ge b hp.size with h' | h'
      · exact h'
      · simp[Array.getElem?_eq_none h'] at h
    exact ⟨c',f,by simp[hlt],hs⟩
  · exact ⟨x,f',by simp[hb,hk],rfl⟩
theorem dm {hp:Array Obj} {b:Nat} {o:Obj} (h:b < hp.size):(hp.setIfInBounds b o)[b]?=some o:=by simp[h]
theorem dJ {hp:Array Obj} {b:Nat} {o:Obj} (h:hp[b]?=some o):b < hp.size:=by
  rcases Nat.lt_or_ge b hp.size with h' | h'
  · exact h'
  · simp[Array.getElem?_eq_none h'] at h
theorem tS (l cs:List V) (j:Nat) (hj:j+cs.length≤l.length):(ab l j cs).length=l.length:=by
  simp only[ab,List.length_append,List.length_take,List.length_drop]; omega
theorem AY (l cs:List V) (j k:Nat) (hj:j+cs.length≤l.length) (h:j≤k∧k < j+cs.length):(ab l j cs).getD k .any=cs.getD (k - j) .any:=by
  simp only[ab,List.getD_eq_getElem?_getD,List.append_assoc]
  rw[List.getElem?_append_right (by simp; omega),List.getElem?_append_left (by simp; omega)]
  congr 2; simp; omega
theorem yf (l cs:List V) (j k:Nat) (hj:j+cs.length≤l.length) (h:¬ (j≤k∧k < j+cs.length)):(ab l j cs).getD k .any=l.getD k .any:=by
  simp only[ab,List.getD_eq_getElem?_getD,List.append_assoc]
  by_cases h1:k < j
  · rw[List.getElem?_append_left (by simp; omega)]; simp[h1]
  · rw[List.getElem?_append_right (by simp; omega),List.getElem?_append_right (by simp; omega)]
    simp only[List.getElem?_drop,List.length_take]
    congr 2; omega
theorem du.store {Z:Nat→Prop} {μ:Mu} {w:World} {P:Program} {id b o0 s esz i j:Nat} {es:List (List V)} {cs:List V} {xs:List Value}
    (hor:du Z μ w.heap id (.arr esz es)) (hμ:μ id=some (b,o0,s)) (hz:¬ Z b) (bZ:∀ b,Z b→b < w.heap.size) (hi:i < es.length) (hj:j+cs.length≤esz) (hr:dR Z μ w.heap cs xs) (hone:∀ x∈xs,x.oneCell'=true) :
    ∃ w',(storeCells ⟨b,o0+i * esz+j,none⟩ xs).run P w=.ok () w'∧dC w w'∧eO w.heap w'.heap (· = b)∧ej w.heap w'.heap ∧
      du Z μ w'.heap id (.arr esz (es.set i (ab (es.getD i []) j cs))):=by
  obtain ⟨rfl,⟨c,e,f,hc,hf,hs⟩,hlen,hcells⟩:=hor b o0 s hμ
  have hmul:(i+1) * s≤es.length * s:=Nat.mul_le_mul_right _ hi
  have hmul':(i+1) * s=i * s+s:=by rw[Nat.add_mul]; omega
  have hb:=dJ hc
  obtain ⟨c',hrun,hsz,hc'⟩:=jr (P:=P) (b:=b) (off:=o0+i * s+j) (e:=e) (f:=f) xs 0 c w hc (mQ hf) (by rw[← hr.1]; omega) hone
  have hm:fj Z Z μ μ w.heap (w.heap.setIfInBounds b (.cells c' e f)) :=
    ⟨fun _ h=>h,fun k hk=>cx w.heap b _ k (bZ k hk) (fun e=>hz (e ▸ hk)),fun _ _ h=>h,gz hc hsz⟩
  refine ⟨_,hrun,⟨rfl,rfl,rfl,by simp⟩,cx _ _ _,gz hc hsz,?_⟩
  intro b' o' s' hx
  rw[hμ] at hx
  simp only[Option.some.injEq,Prod.mk.injEq] at hx
  obtain ⟨rfl,rfl,rfl⟩:=hx
  have hl:(ab (es.getD i []) j cs).length=s:=by
    have:=hlen i hi
    rw[tS _ _ _ (by omega),this]
  have hset:∀ i',(es.set i (ab (es.getD i []) j cs)).getD i' []=if i'=i then ab (es.getD i []) j cs else es.getD i' []:=by
    intro i'
    simp only[List.getD_eq_getElem?_getD,List.getElem?_set]
    by_cases h1:i=i'
    · subst h1; simp[hi]
    · rw[if_neg h1,if_neg (fun e=>h1 e.symm)]
  refine ⟨rfl,⟨c',e,f,by simp[hb],by rw[hsz]; exact hf,by simpa [hsz] using hs⟩,?_,?_⟩
  · intro i' hi'
    rw[hset]
    split
    · exact hl
    · exact hlen i' (by simpa using hi')
  · intro i' j' hi' hj'
    have hi'':i' < es.length:=by simpa using hi'
    have hmul2:(i'+1) * s≤es.length * s:=Nat.mul_le_mul_right _ hi''
    have hmul2':(i'+1) * s=i' * s+s:=by rw[Nat.add_mul]; omega
    have hcell:cellAt (w.heap.setIfInBounds b (.cells c' e f)) b (o0+i' * s+j')=c'[o0+i' * s+j']?:=by simp[cellAt,hb]
    have hcellold:cellAt w.heap b (o0+i' * s+j')=c[o0+i' * s+j']?:=by simp[cellAt,hc]
    show ∃ x,cellAt (w.heap.setIfInBounds b (.cells c' e f)) b (o0+i' * s+j')=some x∧_
    rw[hcell,hc',hset]
    by_cases hii:i'=i
    · subst hii
      rw[if_pos rfl]
      by_cases hin:j≤j'∧j' < j+cs.length
      · have hk:j' - j < cs.length:=by omega
        have hk':j' - j < xs.length:=hr.1 ▸ hk
        rw[if_pos (by rw[← hr.1]; omega),show o0+i' * s+j' - (o0+i' * s+j+0)=j' - j from by omega]
        refine ⟨xs[j' - j],by simp[hk'],?_⟩
        have:=(hr.2 (j' - j) hk).mono hm
        simp only[List.getD_eq_getElem?_getD,List.getElem?_eq_getElem hk',List.getElem?_eq_getElem hk,Option.getD_some] at this
        have hl1:=hlen i' hi''
        rw[AY _ _ _ _ (by omega) hin]
        simpa [List.getD_eq_getElem?_getD,hk] using this
      · rw[if_neg (by rw[← hr.1]; omega)]
        obtain ⟨x,hx,hv⟩:=hcells i' j' hi'' hj'
        rw[hcellold] at hx
        refine ⟨x,hx,?_⟩
        have hl1:=hlen i' hi''
        rw[yf _ _ _ _ (by omega) hin]
        exact hv.mono hm
    · rw[if_neg hii]
      have:¬ (o0+i * s+j+0≤o0+i' * s+j'∧o0+i' * s+j' < o0+i * s+j+0+xs.length):=by
        rw[← hr.1]
        rcases Nat.lt_or_gt_of_ne hii with h1 | h1
        · have:(i'+1) * s≤i * s:=Nat.mul_le_mul_right _ h1
          omega
        · have:(i+1) * s≤i' * s:=Nat.mul_le_mul_right _ h1
          omega
      rw[if_neg this]
      obtain ⟨x,hx,hv⟩:=hcells i' j' hi'' hj'
      rw[hcellold] at hx
      exact ⟨x,hx,hv.mono hm⟩
theorem du.newRow {Z:Nat→Prop} {μ:Mu} {hp:Array Obj} {n esz:Nat} {es:List (List V)} {c:Array Value} {e:TypeId}
    (hn:μ n=none) (bZ:∀ b,Z b→b < hp.size) (hs:es.length * esz≤c.size) (hlen:∀ i,i < es.length→(es.getD i []).length=esz)
    (h:∀ i j,i < es.length→j < esz→∃ x,c[i * esz+j]?=some x∧ay Z μ hp ((es.getD i []).getD j .any) x) :
    du Z (μ.set n (hp.size,0,esz)) (hp.push (.cells c e (0,0))) n (.arr esz es):=by
  intro b o0 s hx
  simp only[Mu.set,if_true,Option.some.injEq,Prod.mk.injEq] at hx
  obtain ⟨rfl,rfl,rfl⟩:=hx
  have hm:fj Z Z μ (μ.set n (hp.size,0,esz)) hp (hp.push (.cells c e (0,0))):=by
    refine ⟨fun _ h=>h,fun b hb=>?_,fun id x hx=>?_,?_⟩
    · have:=bZ b hb
      rw[Array.getElem?_push,if_neg (by omega)]
    · by_cases hid:id=n
      · subst hid; simp[hn] at hx
      · simp[Mu.set,hid,hx]
    · intro b c' e' f' hb
      have:=dJ hb
      exact ⟨c',_,by rw[Array.getElem?_push,if_neg (by omega)]; exact hb,rfl⟩
  refine ⟨rfl,⟨c,e,(0,0),by simp,.inl rfl,by simpa using hs⟩,hlen,fun i j hi hj=>?_⟩
  obtain ⟨x,hx,hv⟩:=h i j hi hj
  exact ⟨x,by simp[cellAt,hx],hv.mono hm⟩
theorem dF (hp:Array Obj) (o:Obj):eO hp (hp.push o) (fun _=>False):=by
  intro k hk _
  rw[Array.getElem?_push,if_neg (by omega)]
structure Ctx (Z:Nat→Prop) (μ:Mu) (hp:Array Obj) (H:View) (rd:List Nat) (n:Nat) (eff:aY):Prop where
  new:eff.fresh (μ n=none)
  obj:∀ id,id∈rd→du Z μ hp id (H id)
  lt:∀ id b o s,μ id=some (b,o,s)→b < hp.size
  bZ:∀ b,Z b→b < hp.size
  fq:∀ id b o s,μ id=some (b,o,s)→¬ Z b
def aQ (Z:Nat→Prop) (μ:Mu) (w:World) (n:Nat) (v:V) (eff:aY) (r:Result Next):Prop :=
  ∃ nx w' μ',r=.ok nx w'∧((∃ x,nx=.value x∧ay Z μ' w'.heap v x)∨(nx=.skip∧v=.any))∧dC w w'∧kb Z μ μ' w.heap w'.heap n eff
section
variable {Z:Nat→Prop} {μ μ':Mu} {w w':World} {P:Program} {H:View} {n:Nat} {v:V} {eff:aY} {rd:List Nat}
theorem gn:kb Z μ μ w.heap w.heap n .none:=⟨rfl,fun _ _ _=>rfl⟩
theorem aQ.value {s:Sem Value} {x:Value} (hr:s.run P w=.ok x w') (hv:ay Z μ' w'.heap v x) (hs:dC w w') (he:kb Z μ μ' w.heap w'.heap n eff) :
    aQ Z μ w n v eff ((do pure (Next.value (← s)):Sem Next).run P w) :=
  ⟨.value x,w',μ',by simp[hr],.inl ⟨x,rfl,hv⟩,hs,he⟩
theorem aQ.here {s:Sem Value} {x:Value} (hr:s.run P w=.ok x w) (hv:ay Z μ w.heap v x):aQ Z μ w n v .none ((do pure (Next.value (← s)):Sem Next).run P w) :=
  aQ.value hr hv (dC.refl w) gn
theorem aQ.skip {s:Sem Unit} (hr:s.run P w=.ok () w') (hs:dC w w') (he:kb Z μ μ' w.heap w'.heap n eff) :
    aQ Z μ w n .any eff ((do s; pure Next.skip:Sem Next).run P w) :=
  ⟨.skip,w',μ',by simp[hr],.inr ⟨rfl,rfl⟩,hs,he⟩
theorem sR (x:Value):ay Z μ w.heap (k9 x) x:=by
  cases x with
  | slice a len cap =>
    cases a with
    | none =>
      cases len with
      | zero=>cases cap with
        | zero=>exact .emp 1 none (fun _=>rfl) (fun h=>by simp at h)
        | succ c=>exact .any _
      | succ l=>exact .any _
    | some a=>exact .any _
  | _ =>
    simp only[k9]
    split
    · rename_i h; exact .val _ h
    · exact .any _
theorem fe (x:Value):ay Z μ w.heap (dZ x) x:=by
  cases x with
  | agg cs =>
    refine .agg _ _ (by simp) (fun i hi=>?_)
    have hi':i < cs.size:=by simpa using hi
    simp only[List.getD_eq_getElem?_getD,Array.getD_eq_getD_getElem?]
    simpa [hi'] using sR cs[i]
  | func fn a b =>
    cases fn with
    | func f =>
      simp only[dZ]
      split
      · rename_i h
        exact .fn _ _ _ _ _ h.1.symm h.2.symm (fun i hi=>by simp at hi) (fun i hi=>by simp at hi)
      · exact .any _
    | _=>simp only[dZ]; exact sR _
  | _=>simp only[dZ]; exact sR _
theorem heap_alloc (w:World) (o:Obj):(w.alloc o).heap=w.heap.push o:=rfl
theorem gv (w:World) (o:Obj):dC w (w.alloc o):=⟨rfl,rfl,rfl,by rw[heap_alloc]; simp⟩
theorem na {v:V} {x y:Value} (h:ay Z μ w.heap v x) (hv:cG v=some y):y=x:=by
  have hcells:∀ (cs:List V) (l:List Value),rr cs=some l→∀ (xs:List Value),cs.length=xs.length→(∀ i,i < cs.length→ay Z μ w.heap (cs.getD i .any) (xs.getD i undef))→l=xs:=by
    intro cs
    induction cs with
    | nil=>intro l hl xs hx _; simp[rr] at hl; subst hl; cases xs <;> simp_all
    | cons c r ih =>
      intro l hl xs hx hr
      cases xs with
      | nil=>simp at hx
      | cons x xs =>
        simp only[rr] at hl
        split at hl
        · rename_i a b ha hb
          simp at hl; subst hl
          have h0:=hr 0 (by simp)
          have:=ih b hb xs (by simpa using hx) (fun i hi=>by simpa using hr (i+1) (by simpa using hi))
          subst this
          simp only[List.getD_cons_zero] at h0
          cases c <;> simp[toCell] at ha
          subst ha
          cases h0; rfl
        · simp at hl
  cases v with
  | val a=>simp[cG] at hv; subst hv; cases h; rfl
  | agg cs =>
    simp only[cG,Option.map_eq_some_iff] at hv
    obtain ⟨l,hl,rfl⟩:=hv
    cases h with
    | agg _ aas h1 h2 =>
      have:=hcells cs l hl aas.toList (by simpa using h1) (fun i hi=>by simpa [List.getD_eq_getElem?_getD,Array.getD_eq_getD_getElem?] using h2 i hi)
      subst this; simp
  | _=>simp[cG] at hv
theorem kT {id i j:Nat} {x:Value} (h:ay Z μ w.heap (.ptr id i j) x):∃ b o0 esz,μ id=some (b,o0,esz)∧x=.pointer (some ⟨b,o0+i * esz+j,none⟩):=by
  cases h with | ptr _ _ _ b o0 esz hm=>exact ⟨b,o0,esz,hm,rfl⟩
theorem pC {e:List V} {j:Nat} {x:Value} (h:ay Z μ w.heap (.aU e j) x):∃ b off,Z b∧CE Z μ w.heap b off e∧x=.pointer (some ⟨b,off+j,none⟩):=by
  cases h with | aU _ _ b off c hz h1 h2=>exact ⟨b,off,hz,fun k hk=>⟨c k,h1 k hk,h2 k hk⟩,rfl⟩
theorem wg {e:List V} {j b off:Nat} (hz:Z b) (h:CE Z μ w.heap b off e):ay Z μ w.heap (.aU e j) (.pointer (some ⟨b,off+j,none⟩)):=by
  obtain ⟨f,hf⟩:=lh h
  exact .aU e j b off f hz (fun k hk=>(hf k hk).1) (fun k hk=>(hf k hk).2)
theorem rowOf {id i b o0 s esz:Nat} {es:List (List V)} (hor:du Z μ w.heap id (.arr esz es)) (hμ:μ id=some (b,o0,s)) (hi:i < es.length) :
    s=esz∧CE Z μ w.heap b (o0+i * s) (es.getD i []):=by
  obtain ⟨rfl,_,h3,h4⟩:=hor b o0 s hμ
  refine ⟨rfl,fun k hk=>?_⟩
  rw[h3 i hi] at hk
  exact h4 i k hi hk
theorem Lt {t:TypeId} {a:V} {x:Value} (h:kh P t a H=some (v,eff,rd)) (hx:ay Z μ w.heap a x) (c:Ctx Z μ w.heap H rd n eff) :
    aQ Z μ w n v eff ((do pure (Next.value (← Instr.loadAt t x)):Sem Next).run P w):=by
  unfold kh at h
  split at h
  · rename_i id i j
    obtain ⟨b,o0,esz,hm,rfl⟩:=kT hx
    split at h
    · rename_i e es hH
      split at h
      · rename_i hi
        simp only[Option.map_eq_some_iff] at h
        obtain ⟨v',hv',h⟩:=h
        simp only[Prod.mk.injEq] at h
        obtain ⟨rfl,rfl,rfl⟩:=h
        have hor:=c.obj id (by simp)
        rw[hH] at hor
        obtain ⟨y,hy,hv⟩:=qi (P:=P) (rowOf hor hm hi).2 hv'
        exact aQ.here (by simp[Instr.loadAt,Instr.sureAddr,hy]) hv
      · simp at h
    · simp at h
  · obtain ⟨b,off,hz,hrow,rfl⟩:=pC hx
    simp only[Option.map_eq_some_iff] at h
    obtain ⟨v',hv',h⟩:=h
    simp only[Prod.mk.injEq] at h
    obtain ⟨rfl,rfl,rfl⟩:=h
    obtain ⟨y,hy,hv⟩:=qi (P:=P) hrow hv'
    exact aQ.here (by simp[Instr.loadAt,Instr.sureAddr,hy]) hv
  · simp at h
theorem tC {t:TypeId} {i:TypeInfo} (h:P.info? t=some i):P.cellsOf t=i.size:=by simp[Program.cellsOf,h]
theorem MY {cs:List V} {xs:List Value} (h:dR Z μ w.heap cs xs) (hc:cs.all aR=true):∀ x∈xs,x.oneCell'=true:=by
  intro x hx
  obtain ⟨i,hi,rfl⟩:=List.getElem_of_mem hx
  have hi':i < cs.length:=h.1 ▸ hi
  have:=h.2 i hi'
  simp only[List.getD_eq_getElem?_getD,List.getElem?_eq_getElem hi,List.getElem?_eq_getElem hi',Option.getD_some] at this
  exact rY this (List.all_eq_true.1 hc _ (List.getElem_mem _))
theorem Kc {t:TypeId} {a b:V} {x y:Value} (h:nq P t a b H=some (v,eff,rd)) (hx:ay Z μ w.heap a x) (hy:ay Z μ w.heap b y) (c:Ctx Z μ w.heap H rd n eff) :
    aQ Z μ w n v eff ((do Instr.storeAt t x y; pure Next.skip:Sem Next).run P w):=by
  unfold nq at h
  split at h
  · rename_i id i j
    obtain ⟨bl,o0,s,hm,rfl⟩:=kT hx
    split at h
    · rename_i esz es hH
      split at h
      · rename_i hc
        obtain ⟨hi,hlen,hj,hok,hinfo⟩:=hc
        simp only[Option.some.injEq,Prod.mk.injEq] at h
        obtain ⟨rfl,rfl,rfl⟩:=h
        have hor:=c.obj id (by simp)
        rw[hH] at hor
        have hs:=(hor bl o0 s hm).1
        subst hs
        have hr:=fg hy hok
        obtain ⟨w',h1,h2,h3,h4,h5⟩:=hor.store (P:=P) hm (c.fq _ _ _ _ hm) c.bZ hi hj hr (MY hr hok)
        obtain ⟨ti,hti⟩:=Option.isSome_iff_exists.1 hinfo
        refine aQ.skip ?_ h2 ⟨bl,o0,s,hm,rfl,h3,h4,h5⟩
        have:y.cells.size=ti.size:=by rw[← tC hti,← hlen,hr.1]; simp
        simp[Instr.storeAt,Instr.sureAddr,storeVar,cQ hti,this,h1]
      · simp at h
    · simp at h
  · simp at h
theorem Ga {cs:List V} {x:Value} {t:TypeId} (h:j0 cs n=some (v,eff,rd)) (hr:cs.all aR=true→dR Z μ w.heap cs x.cells.toList) (c:Ctx Z μ w.heap H rd n eff) :
    aQ Z μ w n v eff ((do pure (Next.value (.pointer (some (← newVar t x)))):Sem Next).run P w):=by
  unfold j0 at h
  split at h
  · rename_i hok
    simp only[Option.some.injEq,Prod.mk.injEq] at h
    obtain ⟨rfl,rfl,rfl⟩:=h
    have hr:=hr hok
    refine ⟨.value (.pointer (some ⟨w.heap.size,0,none⟩)),w.alloc (.cells x.cells t),μ.set n (w.heap.size,0,cs.length),by simp[newVar,newRow],.inl ⟨_,rfl,?_⟩,gv _ _,?_⟩
    · have:=ay.ptr (Z:=Z) (μ:=μ.set n (w.heap.size,0,cs.length)) (hp:=(w.alloc (.cells x.cells t)).heap) n 0 0 w.heap.size 0 cs.length (by simp[Mu.set])
      simpa using this
    · refine ⟨w.heap.size,0,cs.length,Nat.le_refl _,by rw[heap_alloc]; simp,rfl,dF _ _,?_⟩
      refine du.newRow c.new c.bZ (by rw[hr.1]; simp) (fun i hi=>by simp at hi; subst hi; simp) (fun i j hi hj=>?_)
      simp at hi; subst hi
      have hj':j < x.cells.size:=by have:=hr.1; simp at this; omega
      refine ⟨x.cells[j],by simp[hj'],?_⟩
      have:=hr.2 j hj
      simpa [List.getD_eq_getElem?_getD,hj'] using this
  · simp at h
theorem qF {t:TypeId} {f off s:Nat} {ft:TypeId} (h:mK P t f=some (off,s,ft)) :
    ∃ fs x i,P.underlying t=some (.struct fs)∧fs[f]?=some x∧P.info? x.type=some i∧off=x.offset∧s=i.size∧ft=x.type:=by
  unfold mK at h
  split at h
  · rename_i fs hu
    split at h
    · rename_i x hx
      split at h
      · rename_i i hi
        simp only[Option.some.injEq,Prod.mk.injEq] at h
        exact ⟨fs,x,i,hu,hx,hi,h.1.symm,h.2.1.symm,h.2.2.symm⟩
      · simp at h
    · simp at h
  · simp at h
theorem Cf {t:TypeId} {a:V} {x:Value} {f:Nat} (h:jK P t a f=some (v,eff,rd)) (hx:ay Z μ w.heap a x) :
    aQ Z μ w n v eff ((do pure (Next.value (← Instr.fieldAt t x f)):Sem Next).run P w):=by
  unfold jK at h
  split at h
  · rename_i off s ft hpl
    obtain ⟨fs,fd,i,hu,hfd,hi,rfl,rfl,rfl⟩:=qF hpl
    split at h
    · simp at h
    · rename_i hs
      have hrun:∀ b o,(Instr.fieldAt t (.pointer (some ⟨b,o,none⟩)) f).run P w=.ok (.pointer (some ⟨b,o+fd.offset,none⟩)) w:=by
        intro b o
        simp[Instr.fieldAt,aX hu,hfd,Instr.sureAddr,fieldPlace,cQ hi,hs,gT]
      split at h
      · rename_i id i' j
        obtain ⟨b,o0,esz,hm,rfl⟩:=kT hx
        simp only[Option.some.injEq,Prod.mk.injEq] at h
        obtain ⟨rfl,rfl,rfl⟩:=h
        refine aQ.here (hrun _ _) ?_
        have:=ay.ptr (Z:=Z) (μ:=μ) (hp:=w.heap) id i' (j+fd.offset) b o0 esz hm
        simpa [Nat.add_assoc] using this
      · rename_i e j
        obtain ⟨b,off,hz,hrow,rfl⟩:=pC hx
        simp only[Option.some.injEq,Prod.mk.injEq] at h
        obtain ⟨rfl,rfl,rfl⟩:=h
        refine aQ.here (hrun _ _) ?_
        have:=wg (w:=w) (j:=j+fd.offset) hz hrow
        simpa [Nat.add_assoc] using this
      · simp at h
  · simp at h
theorem ML {t:TypeId} {cs:List V} {aas:Array Value} {off:Nat} (h:mP P t cs off=some v) (h1:cs.length=aas.size) (h2:∀ i,i < cs.length→ay Z μ w.heap (cs.getD i .any) (aas.getD i undef)) :
    ∃ x,(part t aas off).run P w=.ok x w∧ay Z μ w.heap v x:=by
  unfold mP at h
  cases hi:P.info? t with
  | none=>simp[hi] at h
  | some i =>
    cases ha:o8 P t with
    | none=>simp[hi,ha] at h
    | some g =>
      simp only[hi,ha] at h
      cases g with
      | true =>
        simp only at h
        split at h
        · rename_i hle
          simp at h; subst h
          refine ⟨.agg (aas.extract off (off+i.size)),by simp[part,qa ha,cQ hi],?_⟩
          refine .agg _ _ (by simp; omega) (fun k hk=>?_)
          have hk':k < i.size:=by simp at hk; omega
          have:=h2 (off+k) (by omega)
          simp only[List.getD_eq_getElem?_getD,Array.getD_eq_getD_getElem?,List.getElem?_take,List.getElem?_drop,hk',if_true,Array.getElem?_extract] at this ⊢
          rw[if_pos (by omega)]
          exact this
        · simp at h
      | false =>
        simp only at h
        split at h
        · rename_i hle
          simp at h; subst h
          have:=h2 off hle
          have hlt:off < aas.size:=h1 ▸ hle
          refine ⟨aas[off],by simp[part,qa ha,hlt],?_⟩
          simpa [List.getD_eq_getElem?_getD,Array.getD_eq_getD_getElem?,hlt] using this
        · simp at h
theorem Il {t:TypeId} {a:V} {x:Value} {f:Nat} (h:rW P t a f=some (v,eff,rd)) (hx:ay Z μ w.heap a x) :
    aQ Z μ w n v eff ((do pure (Next.value (← Instr.field t x f)):Sem Next).run P w):=by
  unfold rW at h
  split at h
  · rename_i off s ft cs hpl
    obtain ⟨fs,fd,i,hu,hfd,hi,rfl,rfl,rfl⟩:=qF hpl
    simp only[Option.map_eq_some_iff] at h
    obtain ⟨v',hv',h⟩:=h
    simp only[Prod.mk.injEq] at h
    obtain ⟨rfl,rfl,rfl⟩:=h
    cases hx with
    | agg _ aas h1 h2 =>
      obtain ⟨y,hy,hv⟩:=ML (P:=P) hv' h1 h2
      exact aQ.here (by simp[Instr.field,aX hu,hfd,asAgg,hy]) hv
  · simp at h
theorem je {a:V} {q:Nat} (h:asNat a=some q):∃ k,a=.val (.int k q):=by
  unfold asNat at h
  split at h
  · rename_i k z
    split at h
    · simp at h
      exact ⟨k,by rw[← h]; congr 2; omega⟩
    · simp at h
  · simp at h
theorem dM {y x:Value} (h:ay Z μ w.heap (.val y) x):x=y:=by cases h; rfl
theorem Cn {t:TypeId} {a i:V} {x y:Value} (h:jH P t a i=some (v,eff,rd)) (hx:ay Z μ w.heap a x) (hy:ay Z μ w.heap i y) :
    aQ Z μ w n v eff ((do pure (Next.value (← Instr.indexAt t x y)):Sem Next).run P w):=by
  unfold jH at h
  split at h
  · simp at h
  · rename_i q hq
    obtain ⟨k,rfl⟩:=je hq
    have hy:=dM hy
    subst hy
    split at h
    · rename_i e hu
      split at h
      · simp at h
      · rename_i ti hti
        split at h
        · rename_i id off len esz
          split at h
          · rename_i hc
            obtain ⟨hlt,rfl⟩:=hc
            simp only[Option.some.injEq,Prod.mk.injEq] at h
            obtain ⟨rfl,rfl,rfl⟩:=h
            cases hx with
            | lS=>omega
            | sl _ _ _ _ b o0 cap c e' f hm hle hb hs =>
              refine aQ.here (x:=.pointer (some ⟨b,o0+off * ti.size+q * ti.size,none⟩)) ?_ ?_
              · simp[Instr.indexAt,asIntOf,aX hu,cQ hti,gT,hlt]
              · have:=ay.ptr (Z:=Z) (μ:=μ) (hp:=w.heap) id (off+q) 0 b o0 ti.size hm
                simpa [Nat.add_mul,Nat.add_assoc] using this
          · simp at h
        · rename_i es
          split at h
          · rename_i hc
            obtain ⟨hlt,hsz⟩:=hc
            simp only[Option.some.injEq,Prod.mk.injEq] at h
            obtain ⟨rfl,rfl,rfl⟩:=h
            cases hx with
            | fY=>simp at hlt
            | aK _ b off esz cap c hz hle hes hc hv =>
              have hesz:esz=ti.size:=(hes q hlt).symm.trans hsz
              subst hesz
              refine aQ.here (x:=.pointer (some ⟨b,off+q * ti.size+0,none⟩)) ?_ ?_
              · simp[Instr.indexAt,asIntOf,aX hu,cQ hti,gT,hlt]
              · exact wg hz (fun k hk=>⟨c q k,hc q k hlt (by rw[hes q hlt] at hk; exact hk),hv q k hlt (by rw[hes q hlt] at hk; exact hk)⟩)
          · simp at h
        · simp at h
    · rename_i len e hu
      split at h
      · simp at h
      · rename_i ti hti
        split at h
        · rename_i hlt
          split at h
          · rename_i id i' j
            obtain ⟨b,o0,esz,hm,rfl⟩:=kT hx
            simp only[Option.some.injEq,Prod.mk.injEq] at h
            obtain ⟨rfl,rfl,rfl⟩:=h
            refine aQ.here (x:=.pointer (some ⟨b,o0+i' * esz+j+q * ti.size,none⟩)) ?_ ?_
            · simp[Instr.indexAt,Instr.sureAddr,asIntOf,aX hu,cQ hti,gT,hlt]
            · have:=ay.ptr (Z:=Z) (μ:=μ) (hp:=w.heap) id i' (j+q * ti.size) b o0 esz hm
              simpa [Nat.add_assoc] using this
          · rename_i e' j
            obtain ⟨b,off,hz,hrow,rfl⟩:=pC hx
            simp only[Option.some.injEq,Prod.mk.injEq] at h
            obtain ⟨rfl,rfl,rfl⟩:=h
            refine aQ.here (x:=.pointer (some ⟨b,off+j+q * ti.size,none⟩)) ?_ ?_
            · simp[Instr.indexAt,Instr.sureAddr,asIntOf,aX hu,cQ hti,gT,hlt]
            · have:=wg (w:=w) (j:=j+q * ti.size) hz hrow
              simpa [Nat.add_assoc] using this
          · simp at h
        · simp at h
    · simp at h
end
section
variable {Z:Nat→Prop} {μ μ':Mu} {w w':World} {P:Program} {H:View} {n:Nat} {v:V} {eff:aY} {rd:List Nat}
def vH (Z:Nat→Prop) (μ:Mu) (hp:Array Obj):Option V→Option Value→Prop
  | none,none=>True
  | some v,some x=>ay Z μ hp v x
  | _,_=>False
theorem eF {o:Option V} {o':Option Value} {d q:Nat} (h:bound d o=some q) (ho:vH Z μ w.heap o o'):(o'=none∧q=d)∨∃ k,o'=some (.int k q):=by
  cases o with
  | none=>cases o' with
    | none=>simp[bound] at h; exact .inl ⟨rfl,h.symm⟩
    | some x=>exact ho.elim
  | some v=>cases o' with
    | none=>exact ho.elim
    | some x =>
      obtain ⟨k,rfl⟩:=je h
      exact .inr ⟨k,by rw[dM ho]⟩
theorem c9 {a:V} {x:Value} {m:Nat} (h:ay Z μ w.heap a x) (hm:cH a=some m):∃ ad cap,x=.slice ad m cap∧m≤cap:=by
  cases h with
  | emp k a=>simp[cH] at hm; subst hm; exact ⟨_,_,rfl,Nat.le_refl _⟩
  | c8 a cap=>simp[cH] at hm; subst hm; exact ⟨_,_,rfl,Nat.zero_le _⟩
  | fY a cap=>simp[cH] at hm; subst hm; exact ⟨_,_,rfl,Nat.zero_le _⟩
  | aK es b off esz cap c hz hle hes hc hv=>simp[cH] at hm; subst hm; exact ⟨_,_,rfl,hle⟩
  | lS id off esz a=>simp[cH] at hm; subst hm; exact ⟨_,_,rfl,Nat.le_refl _⟩
  | sl id off len esz b o0 cap c e f hm' hle hb hs=>simp[cH] at hm; subst hm; exact ⟨_,_,rfl,hle⟩
  | _=>simp[cH] at hm
theorem lx {len cap l h:Nat} {lo hi:Option Value} (hl:(lo=none∧l=0)∨∃ k,lo=some (.int k l)) (hh:(hi=none∧h=len)∨∃ k,hi=some (.int k h)) (h1:l≤h) (h2:h≤cap) :
    (Instr.sliceBounds true len cap lo hi none).run P w=.ok (l,h,cap) w:=by
  rcases hl with ⟨rfl,rfl⟩ | ⟨k,rfl⟩ <;> rcases hh with ⟨rfl,rfl⟩ | ⟨k',rfl⟩ <;> simp[Instr.sliceBounds,Instr.sliceBound,asIntOf,h1,h2]
theorem Ku {t:TypeId} {a:V} {x:Value} {lo hi mx:Option V} {lo' hi' mx':Option Value} (h:pK P t a lo hi mx=some (v,eff,rd)) (hx:ay Z μ w.heap a x)
    (hlo:vH Z μ w.heap lo lo') (hhi:vH Z μ w.heap hi hi') (hmx:vH Z μ w.heap mx mx') :
    aQ Z μ w n v eff ((do pure (Next.value (← Instr.sliceAt t x lo' hi' mx')):Sem Next).run P w):=by
  unfold pK at h
  cases hu:cd P t with
  | none=>simp[hu] at h
  | some e =>
    have hund:P.underlying t=some (.slice e):=by
      unfold cd at hu; split at hu <;> simp_all
    cases hti:P.info? e with
    | none=>simp[hu,hti] at h
    | some ti =>
      simp only[hu,hti] at h
      have hrun:∀ ad len cap l hh m,(Instr.sliceBounds true len cap lo' hi' mx').run P w=.ok (l,hh,m) w →
          (Instr.sliceAt t (.slice ad len cap) lo' hi' mx').run P w=.ok (.slice (if m=l then ad else ad.map (·.add (l * ti.size))) (hh - l) (m - l)) w:=by
        intro ad len cap l hh m hb
        simp[Instr.sliceAt,Instr.slice,aX hund,hb,cQ hti]
      cases mx with
      | some m =>
        cases mx' with
        | none=>exact hmx.elim
        | some m' =>
          simp only at h
          split at h
          · rename_i hb1 hb2 hb3
            split at h
            · simp at h
            · rename_i hhn
              obtain ⟨k3,rfl⟩:=je hb3
              have hm':=dM hmx
              subst hm'
              have hbnd:∀ len cap,(Instr.sliceBounds true len cap lo' hi' (some (.int k3 ((0:Nat):Int)))).run P w=.ok (0,0,0) w:=by
                intro len cap
                rcases eF hb1 hlo with ⟨rfl,_⟩ | ⟨k,rfl⟩ <;> rcases eF hb2 hhi with ⟨rfl,_⟩ | ⟨k',rfl⟩
                · cases hi with
                  | none=>simp at hhn
                  | some _=>exact hhi.elim
                · simp[Instr.sliceBounds,Instr.sliceBound,asIntOf]
                · cases hi with
                  | none=>simp at hhn
                  | some _=>exact hhi.elim
                · simp[Instr.sliceBounds,Instr.sliceBound,asIntOf]
              have fin:∀ ad len cap,ay Z μ w.heap a (.slice ad len cap)→x=.slice ad len cap→aQ Z μ w n (.emp 0) .none ((do pure (Next.value (← Instr.sliceAt t x lo' hi' (some (.int k3 ((0:Nat):Int))))):Sem Next).run P w):=by
                intro ad len cap _ hxe
                subst hxe
                refine aQ.here (hrun ad len cap 0 0 0 (hbnd len cap)) ?_
                simpa using ay.emp (Z:=Z) (μ:=μ) (hp:=w.heap) 0 ad (by simp) (by simp)
              split at h
              · simp only[Option.some.injEq,Prod.mk.injEq] at h
                obtain ⟨rfl,rfl,rfl⟩:=h
                obtain ⟨ad,cap,hxe,_⟩:=c9 hx rfl
                exact fin _ _ _ (hxe ▸ hx) hxe
              · simp only[Option.some.injEq,Prod.mk.injEq] at h
                obtain ⟨rfl,rfl,rfl⟩:=h
                obtain ⟨ad,cap,hxe,_⟩:=c9 hx rfl
                exact fin _ _ _ (hxe ▸ hx) hxe
              · simp only[Option.some.injEq,Prod.mk.injEq] at h
                obtain ⟨rfl,rfl,rfl⟩:=h
                obtain ⟨ad,cap,hxe,_⟩:=c9 hx rfl
                exact fin _ _ _ (hxe ▸ hx) hxe
              · simp only[Option.some.injEq,Prod.mk.injEq] at h
                obtain ⟨rfl,rfl,rfl⟩:=h
                obtain ⟨ad,cap,hxe,_⟩:=c9 hx rfl
                exact fin _ _ _ (hxe ▸ hx) hxe
              · simp at h
          · simp at h
      | none =>
        cases mx' with
        | some _=>exact hmx.elim
        | none =>
          simp only at h
          split at h
          · rename_i id off len esz
            split at h
            · rename_i l hh hb1 hb2
              split at h
              · rename_i hc
                obtain ⟨h1,h2,rfl⟩:=hc
                simp only[Option.some.injEq,Prod.mk.injEq] at h
                obtain ⟨rfl,rfl,rfl⟩:=h
                cases hx with
                | lS _ _ _ ad =>
                  obtain rfl:l=0:=by omega
                  obtain rfl:hh=0:=by omega
                  refine aQ.here (hrun ad 0 0 0 0 0 (lx (eF hb1 hlo) (eF hb2 hhi) (by omega) (by omega))) ?_
                  simpa using ay.lS (Z:=Z) (μ:=μ) (hp:=w.heap) id (off+0) ti.size ad
                | sl _ _ _ _ b o0 cap c e' f hm hle hb hs =>
                  refine aQ.here (hrun _ len cap l hh cap (lx (eF hb1 hlo) (eF hb2 hhi) h1 (by omega))) ?_
                  by_cases hcl:cap=l
                  · have e1:hh - l=0:=by omega
                    have e2:cap - l=0:=by omega
                    rw[if_pos hcl,e1,e2]
                    exact ay.lS _ _ _ _
                  · rw[if_neg hcl]
                    simp only[Option.map_some,gT]
                    have:=ay.sl (Z:=Z) (μ:=μ) (hp:=w.heap) id (off+l) (hh - l) ti.size b o0 (cap - l) c e' f hm (by omega) hb (by rw[show off+l+(cap - l)=off+cap from by omega]; exact hs)
                    simpa [Nat.add_mul,Nat.add_assoc] using this
              · simp at h
            · simp at h
          · rename_i es
            split at h
            · rename_i l hh hb1 hb2
              split at h
              · rename_i hc
                obtain ⟨h1,h2,hall⟩:=hc
                simp only[Option.some.injEq,Prod.mk.injEq] at h
                obtain ⟨rfl,rfl,rfl⟩:=h
                cases hx with
                | fY ad cap hcn =>
                  simp at h2
                  obtain rfl:hh=0:=by omega
                  obtain rfl:l=0:=by omega
                  refine aQ.here (hrun ad 0 cap 0 0 cap (lx (eF hb1 hlo) (eF hb2 hhi) (by omega) (by omega))) ?_
                  refine ay.fY _ _ (fun hn=>?_)
                  by_cases hc0:cap=0
                  · omega
                  · rw[if_neg hc0] at hn
                    cases ad with
                    | none=>exact absurd (hcn rfl) hc0
                    | some a=>simp at hn
                | aK _ b off esz cap c hz hle hes hcc hv =>
                  refine aQ.here (hrun _ es.length cap l hh cap (lx (eF hb1 hlo) (eF hb2 hhi) h1 (by omega))) ?_
                  by_cases hlh:l=hh
                  · subst hlh
                    simpa using ay.fY (Z:=Z) (μ:=μ) (hp:=w.heap) (if cap=l then some ⟨b,off,none⟩ else some (Addr.add ⟨b,off,none⟩ (l * ti.size))) (cap - l) (by split <;> simp)
                  · have hne:0 < es.length:=by omega
                    have hesz:esz=ti.size:=by
                      have h0:=hes 0 hne
                      have:=List.all_eq_true.1 hall (es[0]) (List.getElem_mem _)
                      simp at this
                      simp[List.getD_eq_getElem?_getD,hne] at h0
                      omega
                    subst hesz
                    rw[if_neg (by omega)]
                    simp only[Option.map_some,gT]
                    have hlen:((es.drop l).take (hh - l)).length=hh - l:=by simp; omega
                    have hget:∀ i,i < hh - l→((es.drop l).take (hh - l)).getD i []=es.getD (l+i) []:=by
                      intro i hi
                      simp[List.getD_eq_getElem?_getD,List.getElem?_take,hi]
                    have:=ay.aK (Z:=Z) (μ:=μ) (hp:=w.heap) ((es.drop l).take (hh - l)) b (off+l * ti.size) ti.size (cap - l) (fun i j=>c (l+i) j) hz (by omega)
                      (fun i hi=>by rw[hlen] at hi; rw[hget i hi]; exact hes _ (by omega))
                      (fun i j hi hj=>by
                        rw[hlen] at hi
                        have:=hcc (l+i) j (by omega) hj
                        rw[Nat.add_mul] at this
                        rw[← this]; congr 1; omega)
                      (fun i j hi hj=>by rw[hlen] at hi; rw[hget i hi]; exact hv _ _ (by omega) hj)
                    rw[hlen] at this
                    exact this
              · simp at h
            · simp at h
          · split at h
            · rename_i hb1 hb2
              simp only[Option.some.injEq,Prod.mk.injEq] at h
              obtain ⟨rfl,rfl,rfl⟩:=h
              cases hx with
              | emp _ ad h1 h2 =>
                refine aQ.here (hrun ad 0 0 0 0 0 (lx (eF hb1 hlo) (eF hb2 hhi) (by omega) (by omega))) ?_
                simpa using ay.emp (Z:=Z) (μ:=μ) (hp:=w.heap) _ ad h1 h2
            · simp at h
          · simp at h
theorem wrap_small {q:Nat} (h:q < aW):IntKind.i64.wrap (q:Int)=q:=by
  unfold aW at h
  exact IntWalk.i64_in _ (by omega)
theorem gj {t:TypeId} {i:TypeInfo} {z:List V} (hi:P.info? t=some i) (h:zeroCells P t=some z):∃ zv,i.zero=some zv∧z=(dZ zv).cells:=by
  unfold zeroCells at h
  simp only[hi] at h
  cases hz:i.zero with
  | none=>simp[hz] at h
  | some zv=>simp[hz] at h; exact ⟨zv,rfl,h.symm⟩
theorem ey {i j s l:Nat} (hi:i < l) (hj:j < s):i * s+j < l * s:=by
  have:(i+1) * s≤l * s:=Nat.mul_le_mul_right _ hi
  rw[Nat.add_mul] at this; omega
theorem Cl {t:TypeId} {a b:V} {x y:Value} (h:jB P t a b n=some (v,eff,rd)) (hx:ay Z μ w.heap a x) (hy:ay Z μ w.heap b y) (c:Ctx Z μ w.heap H rd n eff) :
    aQ Z μ w n v eff ((do pure (Next.value (← Instr.makeSlice t x y)):Sem Next).run P w):=by
  unfold jB at h
  cases hu:cd P t with
  | none=>simp[hu] at h
  | some e =>
    have hund:P.underlying t=some (.slice e):=by
      unfold cd at hu; split at hu <;> simp_all
    cases hti:P.info? e with
    | none=>simp[hu,hti] at h
    | some ti =>
      simp only[hu,hti] at h
      split at h
      · rename_i l cc hl hc
        obtain ⟨k1,rfl⟩:=je hl
        obtain ⟨k2,rfl⟩:=je hc
        have hx:=dM hx
        have hy:=dM hy
        subst hx hy
        split at h
        · rename_i hcond
          obtain ⟨h1,h2,h3⟩:=hcond
          have e1:IntKind.i64.wrap (l:Int)=l:=wrap_small (by omega)
          have e2:IntKind.i64.wrap (cc:Int)=cc:=wrap_small h2
          have g1:¬ (((ti.bytes:Int) * (cc:Int)) > 2 ^ 48):=by
            have:((ti.bytes * cc:Nat):Int) < 2 ^ 48:=by unfold aW at h3; omega
            push_cast at this; omega
          have hrun:∀ zc:Array Value,(cc * ti.size=0∧zc = #[])∨(cc * ti.size≠0∧∃ zv,(zeroValue e).run P w=.ok zv w∧zc=zv.cells) →
              (Instr.makeSlice t (.int k1 (l:Int)) (.int k2 (cc:Int))).run P w=.ok (.slice (some ⟨w.heap.size,0,none⟩) l cc) (w.alloc (.cells ((Array.range (cc * ti.size)).map (zc[· % zc.size]!)) e)):=by
            intro zc hz
            have g2:¬ ((cc:Int) < 0):=by omega
            have g3:¬ ((l:Int) < 0):=by omega
            have g4:¬ ((l:Int) > (cc:Int)):=by omega
            simp only[Instr.makeSlice,Sem.run_bind,aX hund,Result.andThen_ok,asInt,asIntOf,Sem.run_pure,mw hti,e1,e2]
            simp only[g1,g2,g3,g4,decide_false,Bool.or_false,Bool.false_or,Bool.false_eq_true,if_false,Sem.run_bind,run_askRoom,Result.andThen_ok,cQ hti,Int.toNat_natCast]
            rcases hz with ⟨h0,rfl⟩ | ⟨h0,zv,hzv,rfl⟩
            · simp[h0,newRow,cQ hti]
            · simp[h0,newRow,cQ hti,hzv]
          split at h
          · rename_i hc0
            subst hc0
            simp only[Option.some.injEq,Prod.mk.injEq] at h
            obtain ⟨rfl,rfl,rfl⟩:=h
            obtain rfl:l=0:=by omega
            exact aQ.value (hrun #[] (.inl ⟨by simp,rfl⟩)) (.emp 2 _ (by simp) (by simp)) (gv _ _) ⟨rfl,dF _ _⟩
          · split at h
            · simp at h
            · rename_i hcne hsz
              split at h
              · simp at h
              · rename_i z hz
                split at h
                · rename_i hzz
                  obtain ⟨hzl,hzok⟩:=hzz
                  simp only[Option.some.injEq,Prod.mk.injEq] at h
                  obtain ⟨rfl,rfl,rfl⟩:=h
                  obtain ⟨zv,hzv,rfl⟩:=gj hti hz
                  have hr:=fg (fe (Z:=Z) (μ:=μ) (w:=w) zv) hzok
                  have hzs:zv.cells.size=ti.size:=by rw[← hzl,hr.1]; simp
                  have hmem:(Array.range (cc * ti.size)).size=cc * ti.size:=by simp
                  have hpos:cc * ti.size≠0:=by
                    intro h0; rcases Nat.mul_eq_zero.1 h0 with h0 | h0 <;> contradiction
                  refine aQ.value (μ':=μ.set n (w.heap.size,0,ti.size)) (hrun zv.cells (.inr ⟨hpos,zv,iq hti hzv w,rfl⟩)) ?_ (gv _ _) ?_
                  · have:=ay.sl (Z:=Z) (μ:=μ.set n (w.heap.size,0,ti.size)) (hp:=(w.alloc (.cells ((Array.range (cc * ti.size)).map (zv.cells[· % zv.cells.size]!)) e)).heap) n 0 l ti.size w.heap.size 0 cc _ e (0,0) (by simp[Mu.set]) h1 (by rw[heap_alloc]; simp; rfl) (by simp)
                    simpa using this
                  · refine ⟨w.heap.size,0,ti.size,Nat.le_refl _,by rw[heap_alloc]; simp,rfl,dF _ _,?_⟩
                    refine du.newRow c.new c.bZ ?_ ?_ ?_
                    · simp; exact Nat.mul_le_mul_right _ h1
                    · intro i hi; simp at hi; simp[List.getD_eq_getElem?_getD,hi,hzl]
                    · intro i j hi hj
                      simp at hi
                      have hlt:i * ti.size+j < cc * ti.size:=ey (by omega) hj
                      have hmod:(i * ti.size+j) % ti.size=j:=by
                        rw[Nat.mul_comm,Nat.mul_add_mod]; exact Nat.mod_eq_of_lt hj
                      refine ⟨zv.cells[j]'(by omega),?_,?_⟩
                      · simp[hlt,hzs,hmod,getElem!_pos zv.cells j (by omega)]
                      · have:=hr.2 j (by rw[hzl]; exact hj)
                        simpa [List.getD_eq_getElem?_getD,hi,show j < zv.cells.size from by omega] using this
                · simp at h
        · simp at h
      · simp at h
end
section
variable {Z:Nat→Prop} {μ μ':Mu} {w w':World} {P:Program} {H:View} {n:Nat} {v:V} {eff:aY} {rd:List Nat}
structure Flat (Z:Nat→Prop) (μ:Mu) (hp:Array Obj) (size:Nat) (xs:List (List V)) (fl:Array Value):Prop where
  len:fl.size=xs.length * size
  rel:∀ i j,i < xs.length→j < size→ay Z μ hp ((xs.getD i []).getD j .any) (fl.getD (i * size+j) undef)
theorem rI {b off size N:Nat} {c:Nat→Nat→Value} (h:∀ i j,i < N→j < size→cellAt w.heap b (off+i * size+j)=some (c i j)) {m:Nat} (hm:m≤N) :
    (loadCells ⟨b,off,none⟩ (m * size)).run P w=.ok ((((List.range (N * size)).map fun k=>c (k / size) (k % size)).toArray).extract 0 (m * size)) w:=by
  have hle:m * size≤N * size:=Nat.mul_le_mul_right _ hm
  rw[run_loadCells w ⟨b,off,none⟩ (m * size) (fun k=>c (k / size) (k % size)) (fun k hk=>?_)]
  · congr 1
    apply Array.ext_getElem?
    intro k
    simp only[List.getElem?_toArray,Array.getElem?_extract,List.getElem?_map,List.getElem?_range']
    by_cases hk:k < m * size
    · simp[hk,show k < N * size from by omega,Nat.min_eq_left hm]
    · simp[hk,Nat.min_eq_left hm]
  · have hs:0 < size:=by
      rcases Nat.eq_zero_or_pos size with h0 | h0
      · subst h0; simp at hk
      · exact h0
    have h1:k / size < m:=(Nat.div_lt_iff_lt_mul hs).2 hk
    have h2:k % size < size:=Nat.mod_lt _ hs
    rw[gT,kL,← h (k / size) (k % size) (by omega) h2]
    congr 1
    have:=Nat.div_add_mod k size
    rw[Nat.mul_comm] at this
    omega
theorem BP {size N:Nat} {c:Nat→Nat→Value} {xs:List (List V)} (hN:xs.length=N) (h:∀ i j,i < N→j < size→ay Z μ w.heap ((xs.getD i []).getD j .any) (c i j)) :
    Flat Z μ w.heap size xs ((List.range (N * size)).map fun k=>c (k / size) (k % size)).toArray:=by
  refine ⟨by simp[hN],fun i j hi hj=>?_⟩
  have hlt:i * size+j < N * size:=ey (by omega) hj
  have h1:(i * size+j) / size=i:=by
    rw[Nat.mul_comm,Nat.mul_add_div (by omega),Nat.div_eq_of_lt hj]; simp
  have h2:(i * size+j) % size=j:=by
    rw[Nat.mul_comm,Nat.mul_add_mod]; exact Nat.mod_eq_of_lt hj
  simpa [Array.getD_eq_getD_getElem?,hlt,h1,h2] using h i j (by omega) hj
theorem oN {ad:Option Addr} {cap size m:Nat} (hm:m≤0):(Builtin.firstCells size m (.slice ad 0 cap)).run P w=.ok ((#[]:Array Value).extract 0 (m * size)) w:=by
  obtain rfl:m=0:=by omega
  cases ad with
  | none=>simp[Builtin.firstCells]
  | some a=>simp[Builtin.firstCells,loadCells,loadCellsFrom]
theorem bsize (s:ByteArray):s.data.toList.length=s.size:=by rw[Array.length_toList]; rfl
theorem mB {x:V} {xv:Value} {xs:List (List V)} {size:Nat} (h:bG H x=some (xs,rd)) (hx:ay Z μ w.heap x xv) (hobj:∀ id,id∈rd→du Z μ w.heap id (H id))
    (hsz:∀ e∈xs,e.length=size) :
    ∃ fl,Flat Z μ w.heap size xs fl∧(Builtin.lenOf xv).run P w=.ok xs.length w∧∀ m,m≤xs.length→(Builtin.firstCells size m xv).run P w=.ok (fl.extract 0 (m * size)) w:=by
  have nil:∀ (ad:Option Addr) cap,∃ fl,Flat Z μ w.heap size [] fl∧(Builtin.lenOf (.slice ad 0 cap)).run P w=.ok ([]:List (List V)).length w ∧
      ∀ m,m≤([]:List (List V)).length→(Builtin.firstCells size m (.slice ad 0 cap)).run P w=.ok (fl.extract 0 (m * size)) w :=
    fun ad cap=>⟨#[],⟨by simp,fun i j hi=>by simp at hi⟩,by simp[Builtin.lenOf],fun m hm=>oN (by simpa using hm)⟩
  unfold bG at h
  split at h
  · simp only[Option.some.injEq,Prod.mk.injEq] at h
    obtain ⟨rfl,rfl⟩:=h
    obtain ⟨ad,cap,rfl,_⟩:=c9 hx rfl
    exact nil ad cap
  · simp only[Option.some.injEq,Prod.mk.injEq] at h
    obtain ⟨rfl,rfl⟩:=h
    obtain ⟨ad,cap,rfl,_⟩:=c9 hx rfl
    exact nil ad cap
  · rename_i es
    simp only[Option.some.injEq,Prod.mk.injEq] at h
    obtain ⟨rfl,rfl⟩:=h
    cases hx with
    | fY a cap=>exact nil a cap
    | aK _ b off esz cap c hz hle hes hc hv =>
      by_cases hne:es=[]
      · subst hne; exact nil _ cap
      · have h0:0 < es.length:=List.length_pos_iff.2 hne
        have:esz=size:=by
          have h1:=hes 0 h0
          have h2:=hsz es[0] (List.getElem_mem _)
          simp[List.getD_eq_getElem?_getD,h0] at h1
          omega
        subst this
        exact ⟨_,BP rfl hv,by simp[Builtin.lenOf],fun m hm=>rI hc hm⟩
  · simp only[Option.some.injEq,Prod.mk.injEq] at h
    obtain ⟨rfl,rfl⟩:=h
    obtain ⟨ad,cap,rfl,_⟩:=c9 hx rfl
    exact nil ad cap
  · rename_i id off len esz hlen
    split at h
    · rename_i esz' es hH
      split at h
      · rename_i hle
        simp only[Option.some.injEq,Prod.mk.injEq] at h
        obtain ⟨rfl,rfl⟩:=h
        cases hx with
        | lS=>exact (hlen rfl).elim
        | sl _ _ _ _ b o0 cap c e' f hm hlec hb hs =>
          have hor:=hobj id (by simp)
          rw[hH] at hor
          obtain ⟨rfl,_,h3,h4⟩:=hor b o0 esz hm
          have hlen':((es.drop off).take len).length=len:=by simp; omega
          have hget:∀ i,i < len→((es.drop off).take len).getD i []=es.getD (off+i) []:=by
            intro i hi; simp[List.getD_eq_getElem?_getD,List.getElem?_take,hi]
          have hpos:0 < len:=by
            rcases Nat.eq_zero_or_pos len with h0 | h0
            · exact (hlen h0).elim
            · exact h0
          have:esz=size:=by
            have h1:=h3 off (by omega)
            have h2:=hsz (((es.drop off).take len)[0]'(by omega)) (List.getElem_mem _)
            have h5:=hget 0 hpos
            simp only[List.getD_eq_getElem?_getD,List.getElem?_eq_getElem (show 0 < ((es.drop off).take len).length by omega),Option.getD_some] at h5
            rw[h5] at h2
            simp only[List.getD_eq_getElem?_getD,Nat.add_zero] at h1 h2
            omega
          subst this
          have hx:∀ i,∃ ci:Nat→Value,∀ j,j < esz→i < len→cellAt w.heap b (o0+off * esz+i * esz+j)=some (ci j)∧ay Z μ w.heap ((((es.drop off).take len).getD i []).getD j .any) (ci j):=by
            intro i
            by_cases hi:i < len
            · obtain ⟨ci,hci⟩:=lh (n:=esz) (p:=fun j x=>cellAt w.heap b (o0+off * esz+i * esz+j)=some x∧ay Z μ w.heap ((((es.drop off).take len).getD i []).getD j .any) x) (fun j hj=>by
                obtain ⟨x,hx,hv⟩:=h4 (off+i) j (by omega) hj
                rw[Nat.add_mul,← Nat.add_assoc] at hx
                exact ⟨x,hx,by rw[hget i hi]; exact hv⟩)
              exact ⟨ci,fun j hj _=>hci j hj⟩
            · exact ⟨fun _=>undef,fun j _ h=>absurd h hi⟩
          obtain ⟨cf,hcf⟩:=Classical.axiomOfChoice hx
          refine ⟨_,BP (c:=cf) hlen' (fun i j hi hj=>(hcf i j hj hi).2),by simp[Builtin.lenOf]; omega,fun m hm=>?_⟩
          rw[hlen'] at hm
          exact rI (fun i j hi hj=>(hcf i j hj hi).1) hm
      · simp at h
    · simp at h
  · rename_i s
    simp only[Option.some.injEq,Prod.mk.injEq] at h
    obtain ⟨rfl,rfl⟩:=h
    have hv:=dM hx
    subst hv
    have hl:(s.data.toList.map fun b=>([V.val (Value.int .u8 b.toNat)]:List V)).length=s.size:=by rw[List.length_map,bsize]
    have hlen:(Builtin.lenOf (.string s)).run P w=.ok s.size w:=rfl
    by_cases hs0:s.size=0
    · refine ⟨#[],⟨by rw[hl,hs0]; simp,fun i j hi=>by rw[hl] at hi; omega⟩,by rw[hl]; exact hlen,fun m hm=>?_⟩
      rw[hl] at hm
      obtain rfl:m=0:=by omega
      have:(s.extract 0 0).data = #[]:=by rw[ByteArray.data_extract]; simp
      simp[Builtin.firstCells,this]
    · have:size=1:=by
        have hne:0 < s.data.toList.length:=by rw[bsize]; omega
        have:=hsz [V.val (Value.int .u8 (s.data.toList[0]).toNat)] (List.mem_map.2 ⟨_,List.getElem_mem hne,rfl⟩)
        simpa using this.symm
      subst this
      refine ⟨s.data.map fun b=>.int .u8 b.toNat,⟨by rw[hl,Array.size_map,Nat.mul_one]; rfl,fun i j hi hj=>?_⟩,by rw[hl]; exact hlen,fun m hm=>?_⟩
      · obtain rfl:j=0:=by omega
        have hi':i < s.data.size:=by rw[hl] at hi; exact hi
        simp only[List.getD_eq_getElem?_getD,Array.getD_eq_getD_getElem?,List.getElem?_map,Array.getElem?_toList,Array.getElem?_map,Nat.mul_one,Nat.add_zero,Array.getElem?_eq_getElem hi',Option.map_some,Option.getD_some,List.getElem?_cons_zero]
        exact ay.val _ rfl
      · rw[hl] at hm
        simp only[Builtin.firstCells,Sem.run_pure,Nat.mul_one]
        congr 1
        rw[ByteArray.data_extract,Array.map_extract]
  · simp at h
theorem Kf {size:Nat} {xs:List (List V)} {fl:Array Value} (h:Flat Z μ w.heap size xs fl) (m:Nat) (hm:m≤xs.length):Flat Z μ w.heap size (xs.take m) (fl.extract 0 (m * size)):=by
  have hle:m * size≤xs.length * size:=Nat.mul_le_mul_right _ hm
  have hs:(fl.extract 0 (m * size)).size=m * size:=by rw[Array.size_extract,h.len]; omega
  refine ⟨by rw[hs,List.length_take,Nat.min_eq_left hm],fun i j hi hj=>?_⟩
  have hi':i < m:=by simp at hi; omega
  have:=h.rel i j (by omega) hj
  have hlt:i * size+j < m * size:=ey hi' hj
  have hlt2:i * size+j < fl.size:=by rw[h.len]; omega
  simp only[List.getD_eq_getElem?_getD,Array.getD_eq_getD_getElem?,List.getElem?_take,hi',if_true,Array.getElem?_extract] at this ⊢
  rw[if_pos (by omega),Nat.zero_add]
  exact this
theorem xX {size:Nat} {xs:List (List V)} {fl:Array Value} (h:Flat Z μ w.heap size xs fl) (hs:∀ e∈xs,e.length=size) (hok:∀ e∈xs,e.all aR=true):∀ x∈fl.toList,x.oneCell'=true:=by
  intro x hx
  obtain ⟨k,hk,rfl⟩:=List.getElem_of_mem hx
  have hk':k < xs.length * size:=by rw[← h.len]; simpa using hk
  have hpos:0 < size:=by
    rcases Nat.eq_zero_or_pos size with h0 | h0
    · subst h0; simp at hk'
    · exact h0
  have h1:k / size < xs.length:=(Nat.div_lt_iff_lt_mul hpos).2 hk'
  have h2:k % size < size:=Nat.mod_lt _ hpos
  have:=h.rel (k / size) (k % size) h1 h2
  have e:k / size * size+k % size=k:=by rw[Nat.mul_comm]; exact Nat.div_add_mod k size
  rw[e] at this
  have hkk:k < fl.size:=by simpa using hk
  simp only[Array.getD_eq_getD_getElem?,Array.getElem?_eq_getElem hkk,Option.getD_some] at this
  have hmem:xs[k / size]∈xs:=List.getElem_mem _
  have hlen:=hs _ hmem
  simp only[List.getD_eq_getElem?_getD,List.getElem?_eq_getElem h1,Option.getD_some,List.getElem?_eq_getElem (show k % size < (xs[k / size]).length by omega)] at this
  have:=rY this (List.all_eq_true.1 (hok _ hmem) _ (List.getElem_mem _))
  simpa using this
theorem qW {b off:Nat} {c:Array Value} {e:TypeId} {f:Nat × Nat} (hb:w.heap[b]?=some (.cells c e f)) (hf:∀ k,k < c.size→¬ (f.1≤k∧k < f.2)) (xs:List Value)
    (hs:off+xs.length≤c.size) (hx:∀ x∈xs,x.oneCell'=true) :
    ∃ c',(storeCells ⟨b,off,none⟩ xs).run P w=.ok () { w with heap:=w.heap.setIfInBounds b (.cells c' e f) }∧c'.size=c.size ∧
      ∀ k,cellAt (w.heap.setIfInBounds b (.cells c' e f)) b k=if off≤k∧k < off+xs.length then xs[k - off]? else cellAt w.heap b k:=by
  obtain ⟨c',h1,h2,h3⟩:=jr (P:=P) (b:=b) (off:=off) (e:=e) (f:=f) xs 0 c w hb hf (by omega) hx
  refine ⟨c',h1,h2,fun k=>?_⟩
  have:=h3 k
  simp only[Nat.add_zero] at this
  simp only[cellAt,dm (dJ hb),hb]
  exact this
theorem By:aW=70368744177664:=by decide
theorem EX {t0 t1 e:TypeId} {ti:TypeInfo} {ats:Array TypeId} {ty:TypeId} {base:Option Addr} {sLen sCap m:Nat} {xv:Value} {old new zc:Array Value}
    (ha0:ats[0]?=some t0) (ha1:ats[1]?=some t1) (hno:mZ P t1=true) (hund:P.underlying t0=some (.slice e)) (hti:P.info? e=some ti)
    (hl:(Builtin.lenOf xv).run P w=.ok m w) (hgt:sCap < sLen+m) (hb1:(sLen+m) * ti.bytes < aW) (hb2:sLen+m < aW)
    (hz:∀ w',∃ zv,(zeroValue e).run P w'=.ok zv w'∧zv.cells=zc)
    (ho:(Builtin.firstCells ti.size sLen (.slice base sLen sCap)).run P w.drew=.ok old w.drew) (hn:(Builtin.firstCells ti.size m xv).run P w.drew=.ok new w.drew) :
    ∃ cap,sLen+m≤cap∧(Builtin.append_ ats ty #[.slice base sLen sCap,xv]).run P w =
      .ok (.slice (some ⟨w.heap.size,0,none⟩) (sLen+m) cap) (w.drew.alloc (.cells (old ++ new ++ Builtin.zeroCells zc (cap - (sLen+m))) e)):=by
  have hint:∃ d,P.underlying t1=some d∧∀ k,d≠.int k:=by
    unfold mZ at hno
    cases hu:P.underlying t1 with
    | none=>simp[hu] at hno
    | some d=>refine ⟨d,rfl,fun k e=>?_⟩; subst e; simp[hu] at hno
  obtain ⟨d,hd,hdi⟩:=hint
  have hlim:=By
  have hfit:=growslice_fits hgt (show (sLen+m) * ti.bytes≤140737488355328 by omega)
  have hmax:¬ (((sLen+m:Nat):Int) > IntKind.i64.max):=by
    have:IntKind.i64.max=9223372036854775807:=by decide
    rw[this]; omega
  have hbig:¬ (Builtin.nextslicecap (sLen+m) sCap * ti.bytes > 2 ^ 48):=by
    have:(2:Nat) ^ 48=281474976710656:=by decide
    rw[this]; exact Nat.not_lt.2 hfit
  obtain ⟨zv,hzv,hzc⟩:=hz w.drew
  refine ⟨Question.cut (.appendCap (sLen+m) sCap e) (w.tape w.drawn (.appendCap (sLen+m) sCap e)),Nat.le_add_right _ _,?_⟩
  have hcut:Question.forced (.appendCap (sLen+m) sCap e)=false:=rfl
  subst hzc
  cases d with
  | int k=>exact absurd rfl (hdi k)
  | _ =>
  simp only[Builtin.append_,List.getElem?_toArray,List.getElem?_cons_zero,List.getElem?_cons_succ,ha0,ha1,Sem.run_bind,aX hund,Result.andThen_ok,cQ hti,aX hd,Sem.run_pure,Bool.false_eq_true,if_false,hl,Bool.not_false,if_true]
  rw[if_neg (by omega)]
  simp only[hmax,false_and,if_false,Sem.run_bind,mw hti,Result.andThen_ok,Sem.run_ite,Sem.run_pure,hbig,run_choose,hcut,Bool.false_eq_true,World.drew_eq,run_askRoom,ho,hn,hzv,newRow,run_newObj,World.alloc_eq]
  rfl
end
end Gv
