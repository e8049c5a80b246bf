/-
  Part 1 of the proof: what the machine does and what the functions answer.
  Conditions: those that each lemma names.
-/
import Derived.WalkKit
set_option linter.unusedSimpArgs false
set_option linter.unusedVariables false
set_option maxRecDepth 100000
set_option maxHeartbeats 20000000
namespace Gv
open Go
theorem Wo:type_of% @List.getD_eq_getElem?_getD:=@List.getD_eq_getElem?_getD
theorem Wp:type_of% @List.getElem?_eq_getElem:=@List.getElem?_eq_getElem
theorem Ws:type_of% @if_neg:=@if_neg
theorem Wu:type_of% @Option.some.injEq:=@Option.some.injEq
theorem Wv:type_of% @if_pos:=@if_pos
theorem Ww:type_of% @List.getElem?_map:=@List.getElem?_map
theorem Wx:type_of% @Prod.mk.injEq:=@Prod.mk.injEq
theorem Wy:type_of% @List.getElem?_eq_some_iff:=@List.getElem?_eq_some_iff
theorem Wz:type_of% @Nat.le_refl:=@Nat.le_refl
theorem WA:type_of% @List.getElem_mem:=@List.getElem_mem
theorem WB:type_of% @Option.map_eq_some_iff:=@Option.map_eq_some_iff
theorem WC:type_of% @Bool.and_eq_true:=@Bool.and_eq_true
theorem WD:type_of% @List.length_cons:=@List.length_cons
theorem WE:type_of% @Array.getD_eq_getD_getElem?:=@Array.getD_eq_getD_getElem?
theorem WG:type_of% @List.length_map:=@List.length_map
theorem WH:type_of% @decide_eq_true_eq:=@decide_eq_true_eq
theorem WI:type_of% @List.mem_of_getElem?:=@List.mem_of_getElem?
theorem WJ:type_of% @Option.getD_some:=@Option.getD_some
theorem WK:type_of% @List.mem_cons:=@List.mem_cons
theorem WL:type_of% @Option.map_some:=@Option.map_some
theorem WM:type_of% @Array.getElem?_eq_getElem:=@Array.getElem?_eq_getElem
theorem WN:type_of% @List.mem_append:=@List.mem_append
theorem WO:type_of% @List.length_append:=@List.length_append
theorem WQ:type_of% @List.mem_map:=@List.mem_map
theorem WR:type_of% @Bool.false_eq_true:=@Bool.false_eq_true
theorem WS:type_of% @List.getElem?_append_left:=@List.getElem?_append_left
theorem WT:type_of% @List.take_of_length_le:=@List.take_of_length_le
theorem WU:type_of% @List.all_eq_true:=@List.all_eq_true
theorem WV:type_of% @Option.bind_some:=@Option.bind_some
theorem WW:type_of% @List.length_nil:=@List.length_nil
theorem WX:type_of% @List.getElem?_cons_zero:=@List.getElem?_cons_zero
theorem WY:type_of% @List.take_add_one:=@List.take_add_one
theorem WZ:type_of% @List.map_cons:=@List.map_cons
theorem W4:type_of% @Nat.lt_of_lt_of_le:=@Nat.lt_of_lt_of_le
theorem W5:type_of% @Nat.lt_or_ge:=@Nat.lt_or_ge
theorem W6:type_of% @List.map_append:=@List.map_append
theorem W7:type_of% @Nat.add_assoc:=@Nat.add_assoc
theorem W8:type_of% @Int.toNat_natCast:=@Int.toNat_natCast
theorem W9:type_of% @List.mem_cons_of_mem:=@List.mem_cons_of_mem
theorem Xa:type_of% @List.getElem?_eq_none:=@List.getElem?_eq_none
theorem Xb:type_of% @List.drop_eq_nil_of_le:=@List.drop_eq_nil_of_le
theorem Xc:type_of% @decide_eq_true:=@decide_eq_true
theorem Xd:type_of% @Nat.mul_le_mul_right:=@Nat.mul_le_mul_right
theorem Xe:type_of% @List.append_nil:=@List.append_nil
theorem Xf:type_of% @Nat.add_mul:=@Nat.add_mul
theorem Xg:type_of% @List.getElem?_toArray:=@List.getElem?_toArray
theorem Xh:type_of% @List.cons_append:=@List.cons_append
theorem Xi:type_of% @List.getElem?_append_right:=@List.getElem?_append_right
theorem Xj:type_of% @Bool.true_and:=@Bool.true_and
theorem Xk:type_of% @Nat.zero_add:=@Nat.zero_add
theorem Xl:type_of% @List.getElem?_cons_succ:=@List.getElem?_cons_succ
theorem Xm:type_of% @Bool.eq_iff_iff:=@Bool.eq_iff_iff
theorem Xn:type_of% @Array.getElem?_setIfInBounds:=@Array.getElem?_setIfInBounds
theorem Xo:type_of% @Nat.le_trans:=@Nat.le_trans
theorem Xp:type_of% @List.append_assoc:=@List.append_assoc
theorem Xq:type_of% @List.nodup_cons:=@List.nodup_cons
theorem Xr:type_of% @Array.getElem?_append_left:=@Array.getElem?_append_left
theorem Xs:type_of% @List.getElem?_set:=@List.getElem?_set
theorem Xt:type_of% @List.nil_append:=@List.nil_append
theorem Xu:type_of% @List.getElem?_replicate:=@List.getElem?_replicate
theorem Xv:type_of% @List.mem_zipIdx_iff_getElem?:=@List.mem_zipIdx_iff_getElem?
theorem Xw:type_of% @beq_iff_eq:=@beq_iff_eq
theorem Xx:type_of% @List.getD_cons_zero:=@List.getD_cons_zero
theorem Xy:type_of% @List.map_congr_left:=@List.map_congr_left
theorem Xz:type_of% @List.foldl_cons:=@List.foldl_cons
theorem XA:type_of% @List.mem_range:=@List.mem_range
theorem XB:type_of% @List.mem_singleton:=@List.mem_singleton
theorem XC:type_of% @decide_eq_false_iff_not:=@decide_eq_false_iff_not
theorem XD:type_of% @List.length_take:=@List.length_take
theorem XE:type_of% @List.mem_cons_self:=@List.mem_cons_self
theorem XF:type_of% @List.mem_filter:=@List.mem_filter
theorem XG:type_of% @congrArg:=@congrArg
theorem XH:type_of% @List.drop_eq_getElem_cons:=@List.drop_eq_getElem_cons
theorem XI:type_of% @List.getElem?_take:=@List.getElem?_take
theorem XJ:type_of% @List.getElem?_drop:=@List.getElem?_drop
theorem XK:type_of% @List.all_cons:=@List.all_cons
theorem XL:type_of% @List.ext_getElem:=@List.ext_getElem
theorem XM:type_of% @List.filterMap_cons:=@List.filterMap_cons
theorem XN:type_of% @List.size_toArray:=@List.size_toArray
theorem XO:type_of% @List.eraseIdx_cons_succ:=@List.eraseIdx_cons_succ
theorem XP:type_of% @List.eraseIdx_cons_zero:=@List.eraseIdx_cons_zero
theorem XQ:type_of% @Bool.false_and:=@Bool.false_and
theorem XR:type_of% @List.mem_filterMap:=@List.mem_filterMap
theorem XS:type_of% @Array.getElem?_eq_none:=@Array.getElem?_eq_none
theorem XT:type_of% @Nat.zero_le:=@Nat.zero_le
theorem XU:type_of% @List.getElem?_range:=@List.getElem?_range
theorem XV:type_of% @List.nodup_append:=@List.nodup_append
theorem XW:type_of% @Nat.add_zero:=@Nat.add_zero
theorem XX:type_of% @List.pairwise_cons:=@List.pairwise_cons
theorem XY:type_of% @List.length_eq_zero_iff:=@List.length_eq_zero_iff
theorem XZ:type_of% @List.any_eq_true:=@List.any_eq_true
theorem X0:type_of% @List.take_length:=@List.take_length
theorem X1:type_of% @List.drop_zero:=@List.drop_zero
theorem X2:type_of% @List.foldl_append:=@List.foldl_append
theorem X3:type_of% @Array.getElem?_push:=@Array.getElem?_push
theorem X4:type_of% @List.range_succ:=@List.range_succ
theorem X5:type_of% @Decidable.byContradiction:=@Decidable.byContradiction
theorem X6:type_of% @List.length_set:=@List.length_set
theorem X7:type_of% @Array.getElem?_modify:=@Array.getElem?_modify
theorem X8:type_of% @Bool.and_false:=@Bool.and_false
theorem X9:type_of% @Array.replicate_succ:=@Array.replicate_succ
theorem Ya:type_of% @Array.replicate_zero:=@Array.replicate_zero
theorem Yb:type_of% @of_decide_eq_true:=@of_decide_eq_true
theorem Yc:type_of% @Bool.or_eq_true:=@Bool.or_eq_true
theorem Yd:type_of% @List.getElem_of_mem:=@List.getElem_of_mem
theorem Ye:type_of% @List.getD_cons_succ:=@List.getD_cons_succ
theorem Yf:type_of% @List.append_toArray:=@List.append_toArray
theorem Yg:type_of% @List.all_map:=@List.all_map
theorem Yh:type_of% @List.getElem?_set_self:=@List.getElem?_set_self
theorem Yi:type_of% @List.isEmpty_nil:=@List.isEmpty_nil
theorem Yj:type_of% @Bool.and_eq_false_iff:=@Bool.and_eq_false_iff
theorem Yk:type_of% @Array.getElem?_toList:=@Array.getElem?_toList
theorem Yl:type_of% @List.length_replicate:=@List.length_replicate
theorem Ym:type_of% @Nat.eq_of_beq_eq_true:=@Nat.eq_of_beq_eq_true
theorem Yn:type_of% @List.filter_append:=@List.filter_append
theorem Yo:type_of% @List.take_append_drop:=@List.take_append_drop
theorem Yp:type_of% @Classical.byContradiction:=@Classical.byContradiction
theorem Yq:type_of% @List.mem_of_mem_take:=@List.mem_of_mem_take
theorem Yr:type_of% @List.map_set:=@List.map_set
theorem Ys:type_of% @List.mem_iff_getElem:=@List.mem_iff_getElem
theorem Yt:type_of% @Bool.not_eq_true':=@Bool.not_eq_true'
theorem Yu:type_of% @Decidable.not_not:=@Decidable.not_not
theorem Yv:type_of% @List.push_toArray:=@List.push_toArray
theorem Yw:type_of% @Bool.not_true:=@Bool.not_true
theorem Yx:type_of% @List.length_pos_iff:=@List.length_pos_iff
theorem Yy:type_of% @List.map_nil:=@List.map_nil
theorem Yz:type_of% @Option.some.inj:=@Option.some.inj
theorem YA:type_of% @Bool.false_or:=@Bool.false_or
theorem YB:type_of% @Nat.mul_one:=@Nat.mul_one
inductive V where
 | any
 | val (v:Value)
 | emp (k:Nat)
 | dM
 | aL (es:List (List V))
 | sl (id off len esz:Nat)
 | ptr (id i j:Nat)
 | aN (e:List V) (j:Nat)
 | mp (id:Nat)
 | fn (f:FuncId) (first cap:List V)
 | agg (cs:List V)
 | aO (vs:List V)
 deriving Inhabited
inductive bN where
 | dead
 | arr (esz:Nat) (es:List (List V))
 | map (es:List (V × V × Nat)) (clock:Nat)
 | wa (s:ByteArray) (pos:Nat)
 deriving Inhabited
abbrev Heap:=List bN
abbrev View:=Nat->bN
def Heap.view (h:Heap):View:=λid=>h.getD id .dead
inductive aS where
 | none
 | new (o:bN)
 | eP (id:Nat) (o:bN)
 | dX (id:Nat) (o:bN)
def aS.fresh (free:Prop):aS->Prop
 | .new _ | .dX _ _=>free
 | _=>True
def aS.apply (h:Heap):aS->Heap
 | .none=>h
 | .new o=>h ++ [o]
 | .eP id o=>h.set id o
 | .dX id o=>h.set id .dead ++ [o]
def plain:Value->Bool
 | .bool _ | .int _ _ | .float _ _ | .complex _ _ _ | .string _ | .pointer none | .map none | .nilFunc | .nilIface=>true
 | _=>false
def nO:Value->V
 | .slice none 0 0=>.emp 1
 | .slice _ _ _=>.any
 | v=>if plain v then .val v else .any
def fA:Value->V
 | .agg cs=>.agg (cs.toList.map nO)
 | .func (.func f) a b=>if a.size=0/\b.size=0 then .fn f [] [] else .any
 | v=>nO v
def toCell:V->Option Value
 | .val v=>some v
 | _=>none
def vl:List V->Option (List Value)
 | []=>some []
 | v :: r=>match toCell v,vl r with
  | some x,some y=>some (x :: y)
  | _,_=>none
def cO:V->Option Value
 | .val v=>some v
 | .agg cs=>(vl cs).map λl=>.agg l.toArray
 | _=>none
def V.cells:V->List V
 | .agg cs=>cs
 | v=>[v]
def aE:V->Bool
 | .any | .agg _ | .aO _=>false
 | _=>true
def aP {α:Type} (P:Program):Sem α->Option α
 | .pure a=>some a
 | .program k=>aP P (k P)
 | _=>none
abbrev Env:=Nat->V
def Env.put (T:Env) (d:Option Nat) (v:V):Env:=match d with
 | some d=>λt=>if t=d then v else T t
 | none=>T
def ev (T:Env):Operand->V
 | .tmp t=>T t
 | .const v=>fA v
 | .global _=>.any
 | .func f=>.fn f [] []
def cr (P:Program) (t:TypeId):Option TypeId:=match P.underlying t with
 | some (.slice e)=>some e
 | _=>none
def zeroCells (P:Program) (t:TypeId):Option (List V):=match P.info? t with
 | some i=>match i.zero with
  | some v=>some (fA v).cells
  | none=>none
 | none=>none
def pA (P:Program) (t:TypeId) (f:Nat):Option (Nat × Nat × TypeId):=match P.underlying t with
 | some (.struct fs)=>match fs[f]? with
  | some x=>match P.info? x.type with
   | some i=>some (x.offset,i.size,x.type)
   | none=>none
  | none=>none
 | _=>none
def asNat:V->Option Nat
 | .val (.int _ q)=>if 0<=q then some q.toNat else none
 | _=>none
def rC (P:Program) (t:TypeId):Option Bool:=match P.underlying t with
 | some (.struct _) | some (.array _ _)=>some true
 | some _=>some false
 | none=>none
def pJ (P:Program) (t:TypeId) (cs:List V) (off:Nat):Option V:=match P.info? t,rC P t with
 | some i,some true=>if off+i.size<=cs.length then some (.agg ((cs.drop off).take i.size)) else none
 | some _,some false=>if off < cs.length then some (cs.getD off .any) else none
 | _,_=>none
def fp (e:List V) (j:Nat) (cs:List V):List V:=e.take j ++ cs ++ e.drop (j+cs.length)
def bU (n:Nat):V:=.val (.int .i64 n)
def bD (H:View):V->Option (List (List V) × List Nat)
 | .emp _ | .dM=>some ([],[])
 | .aL es=>some (es,[])
 | .sl _ _ 0 _=>some ([],[])
 | .sl id off len _=>match H id with
  | .arr _ es=>if off+len<=es.length then some ((es.drop off).take len,[id]) else none
  | _=>none
 | .val (.string s)=>some (s.data.toList.map λb=>[.val (.int .u8 b.toNat)],[])
 | _=>none
def aD:Nat:=2 ^ 46
def ll:List (List V)->Option (List UInt8)
 | []=>some []
 | [.val (.int .u8 n)] :: r=>(ll r).map (UInt8.ofNat n.toNat :: ·)
 | _=>none
def fN:List (V × V × Nat)->Option (List MapEntry)
 | []=>some []
 | (k,_,b) :: r=>match cO k,fN r with
  | some x,some y=>some ({ key:=x,val:=.nilFunc,born:=b } :: y)
  | _,_=>none
def lG (P:Program) (kt:TypeId) (k:V) (empty:Bool) (es:List (V × V × Nat)):Option (Option Nat):=match cO k,fN es with
 | some x,some l=>match aP P (Instr.checkKey empty 10000 kt x >>= λ_=>Instr.findKey kt x l) with
  | some (some (i,_))=>some (some i)
  | some none=>some none
  | none=>none
 | _,_=>none
def dR (P:Program) (t:TypeId):Option (TypeId × TypeId):=match P.underlying t with
 | some (.map k e)=>some (k,e)
 | _=>none
def zeroV (P:Program) (t:TypeId):Option V:=match P.info? t with
 | some i=>match i.zero with
  | some v=>some (fA v)
  | none=>none
 | none=>none
abbrev Out:=Option (V × aS × List Nat)
def mC (P:Program) (t:TypeId) (a:V) (H:View):Out:=match a with
 | .ptr id i j=>match H id with
  | .arr _ es=>if i < es.length then (pJ P t (es.getD i []) j).map λv=>(v,.none,[id]) else none
  | _=>none
 | .aN e j=>(pJ P t e j).map λv=>(v,.none,[])
 | _=>none
def qv (P:Program) (t:TypeId) (a v:V) (H:View):Out:=match a with
 | .ptr id i j=>match H id with
  | .arr esz es =>
   if i < es.length/\v.cells.length=P.cellsOf t/\j+v.cells.length<=esz/\v.cells.all aE=true/\(P.info? t).isSome=true
   then some (.any,.eP id (.arr esz (es.set i (fp (es.getD i []) j v.cells))),[id]) else none
  | _=>none
 | _=>none
def lU (cs:List V) (n:Nat):Out :=
 if cs.all aE=true then some (.ptr n 0 0,.new (.arr cs.length [cs]),[]) else none
def lK (size:Nat):List (List V)->List (Nat × V)->Option (List (List V))
 | es,[]=>some es
 | es,(i,x) :: r=>if x.cells.length=size/\i < es.length/\x.cells.all aE=true then lK size (es.set i x.cells) r else none
def ix (P:Program) (t:TypeId) (len:Nat) (parts:List (Nat × V)) (n:Nat):Out:=match cr P t with
 | none=>none
 | some e=>match P.info? e with
  | none=>none
  | some i =>
   if len * i.size > 2 ^ 24 then none
   else if len=0 then (if parts.isEmpty then some (.emp 2,.none,[]) else none)
   else if i.size=0 then none
   else match zeroCells P e with
    | none=>none
    | some z=>if z.length=i.size/\z.all aE=true then
      match lK i.size (List.replicate len z) parts with
      | some es=>some (.sl n 0 len i.size,.new (.arr i.size es),[])
      | none=>none
     else none
def vq (place:Nat->Option (Nat × Nat)):List V->List (Nat × V)->Option (List V)
 | cs,[]=>some cs
 | cs,(i,x) :: r=>match place i with
  | none=>none
  | some (off,size)=>if x.cells.length=size/\off+size<=cs.length/\x.cells.all aE=true then vq place (fp cs off x.cells) r else none
def placeOf (P:Program) (t:TypeId) (i:Nat):Option (Nat × Nat):=(pA P t i).map λ(a,b,_)=>(a,b)
def ml (P:Program) (t:TypeId):Bool:=match P.underlying t with
 | some (.struct fs)=>fs.toList.all λf=>(P.info? f.type).isSome
 | _=>false
def uY (P:Program) (t:TypeId) (parts:List (Nat × V)):Out:=match P.underlying t,zeroV P t with
 | some (.struct _),some (.agg z)=>if ml P t=true then (vq (placeOf P t) z parts).map λcs=>(.agg cs,.none,[]) else none
 | _,_=>none
def lC (P:Program) (t:TypeId) (x:V) (f:Nat):Out:=match pA P t f with
 | some (off,s,_)=>if s=0 then none else match x with
  | .ptr id i j=>some (.ptr id i (j+off),.none,[])
  | .aN e j=>some (.aN e (j+off),.none,[])
  | _=>none
 | none=>none
def ui (P:Program) (t:TypeId) (x:V) (f:Nat):Out:=match pA P t f,x with
 | some (off,_,ft),.agg cs=>(pJ P ft cs off).map λv=>(v,.none,[])
 | _,_=>none
def lx (P:Program) (t:TypeId) (x i:V):Out:=match asNat i with
 | none=>none
 | some q=>match P.underlying t with
  | some (.slice e)=>match P.info? e with
   | none=>none
   | some ti=>match x with
    | .sl id off len esz=>if q < len/\esz=ti.size then some (.ptr id (off+q) 0,.none,[]) else none
    | .aL es=>if q < es.length/\(es.getD q []).length=ti.size then some (.aN (es.getD q []) 0,.none,[]) else none
    | _=>none
  | some (.array len e)=>match P.info? e with
   | none=>none
   | some ti=>if q < len then match x with
    | .ptr id i j=>some (.ptr id i (j+q * ti.size),.none,[])
    | .aN e j=>some (.aN e (j+q * ti.size),.none,[])
    | _=>none
    else none
  | _=>none
def bound (d:Nat):Option V->Option Nat
 | none=>some d
 | some v=>asNat v
def r5 (P:Program) (t:TypeId) (x:V) (lo hi mx:Option V):Out:=match cr P t with
 | none=>none
 | some e=>match P.info? e with
  | none=>none
  | some ti=>match mx with
   | some m=>match bound 0 lo,bound 0 hi,asNat m with
    | some 0,some 0,some 0=>if hi.isNone then none else match x with
     | .sl _ _ _ _ | .aL _ | .emp _ | .dM=>some (.emp 0,.none,[])
     | _=>none
    | _,_,_=>none
   | none=>match x with
    | .sl id off len esz=>match bound 0 lo,bound len hi with
     | some l,some h=>if l<=h/\h<=len/\esz=ti.size then some (.sl id (off+l) (h - l) esz,.none,[]) else none
     | _,_=>none
    | .aL es=>match bound 0 lo,bound es.length hi with
     | some l,some h=>if l<=h/\h<=es.length/\(es.all λe=>e.length == ti.size)=true then some (.aL ((es.drop l).take (h - l)),.none,[]) else none
     | _,_=>none
    | .emp k=>match bound 0 lo,bound 0 hi with
     | some 0,some 0=>some (.emp k,.none,[])
     | _,_=>none
    | _=>none
def lP (P:Program) (t:TypeId) (len cap:V) (n:Nat):Out:=match cr P t with
 | none=>none
 | some e=>match P.info? e with
  | none=>none
  | some ti=>match asNat len,asNat cap with
   | some l,some c =>
    if l<=c/\c < aD/\ti.bytes * c < aD then
     (
      if c=0 then some (.emp 2,.none,[])
      else if ti.size=0 then none
      else match zeroCells P e with
       | none=>none
       | some z=>if z.length=ti.size/\z.all aE=true then some (.sl n 0 l ti.size,.new (.arr ti.size (List.replicate l z)),[]) else none)
    else none
   | _,_=>none
def nA (P:Program) (at0:TypeId) (s x:V) (H:View) (n:Nat):Out:=match cr P at0,bD H x with
 | some e,some (xs,rd)=>match P.info? e with
  | none=>none
  | some ti =>
   if xs.isEmpty then (match s with
    | .emp _ | .dM | .aL _ | .sl _ _ _ _=>some (s,.none,[])
    | _=>none)
   else if ti.size=0∨¬ ((zeroCells P e).map List.length=some ti.size)∨¬ ((xs.all λe=>e.length == ti.size && e.all aE)=true) then none
   else match s with
    | .emp _=>if xs.length * ti.bytes < aD/\xs.length < aD then some (.sl n 0 xs.length ti.size,.new (.arr ti.size xs),rd) else none
    | .sl id off len esz=>match H id with
     | .arr _ es =>
      if off+len<=es.length/\esz=ti.size/\(len+xs.length) * ti.bytes < aD/\len+xs.length < aD
      then some (.sl n 0 (len+xs.length) esz,.dX id (.arr esz ((es.drop off).take len ++ xs)),id :: rd) else none
     | _=>none
    | _=>none
 | _,_=>none
def Dz (P:Program) (at0:TypeId) (x:V):Out:=match cr P at0,x with
 | some _,.emp _=>some (bU 0,.none,[])
 | _,_=>none
def qU (P:Program) (at0:TypeId) (s x:V) (n:Nat):Out:=match cr P at0,asNat x,s with
 | some e,some l,.emp k=>match P.info? e,zeroCells P e with
  | some ti,some z=>if l=0 then some (.emp k,.none,[]) else if z.length=ti.size/\z.all aE=true/\ti.size≠0/\l * ti.bytes < aD/\l < aD then some (.sl n 0 l ti.size,.new (.arr ti.size (List.replicate l z)),[]) else none
  | _,_=>none
 | _,_,_=>none
def dV:List (List V)->Nat->List (List V)->List (List V)
 | es,_,[]=>es
 | es,i,x :: r=>dV (es.set i x) (i+1) r
def cT:V->Option Nat
 | .emp _ | .dM=>some 0
 | .aL es=>some es.length
 | .sl _ _ len _=>some len
 | _=>none
def vW (P:Program) (at0:TypeId) (d x:V) (H:View):Out:=match cr P at0,bD H x,cT d with
 | some e,some (xs,rd),some dl=>match P.info? e with
  | none=>none
  | some ti =>
   if (xs.take dl).isEmpty then some (bU 0,.none,[])
   else match d with
    | .sl id off len esz=>match H id with
     | .arr _ es =>
      if off+len<=es.length/\esz=ti.size/\ti.size≠0/\((xs.all λe=>e.length == ti.size && e.all aE)=true)
      then some (bU (xs.take dl).length,.eP id (.arr esz (dV es off (xs.take dl))),id :: rd) else none
     | _=>none
    | _=>none
 | _,_,_=>none
def uB (P:Program) (at0:TypeId) (d:V) (H:View):Out:=match cr P at0,cT d with
 | some e,some dl=>if dl=0 then some (.aO [],.none,[]) else match d,P.info? e,zeroCells P e with
  | .sl id off len esz,some ti,some z=>match H id with
   | .arr _ es=>if off+len<=es.length/\esz=ti.size/\ti.size≠0/\z.length=ti.size/\z.all aE=true then some (.aO [],.eP id (.arr esz (dV es off (List.replicate len z))),[id]) else none
   | _=>none
  | _,_,_=>none
 | _,_=>none
def fc (P:Program) (t:TypeId) (m k:V) (ok:Bool) (H:View):Out:=match dR P t with
 | none=>none
 | some (kt,et)=>match zeroV P et with
  | none=>none
  | some z =>
   let fin (v:V) (b:Bool) (rd:List Nat):Out:=some (if ok then .aO [v,.val (.bool b)] else v,.none,rd)
   match m with
   | .mp id=>match H id with
    | .map es _=>match lG P kt k es.isEmpty es with
     | some (some i)=>match es[i]? with
      | some (_,v,_)=>fin v true [id]
      | none=>none
     | some none=>fin z false [id]
     | none=>none
    | _=>none
   | _=>none
def sameKey (old new:V):Bool:=match cO old,cO new with
 | some a,some b=>Instr.sameBits 10000 a b
 | _,_=>false
def gC (P:Program) (t:TypeId) (m k v:V) (H:View):Out:=match dR P t,m with
 | some (kt,_),.mp id=>match H id with
  | .map es c=>match lG P kt k false es with
   | some (some i)=>match es[i]? with
    | some (k0,_,b)=>if sameKey k0 k=true then some (.any,.eP id (.map (es.set i (k,v,b)) c),[id]) else none
    | none=>none
   | some none=>some (.any,.eP id (.map (es ++ [(k,v,c)]) (c+1)),[id])
   | none=>none
  | _=>none
 | _,_=>none
def ew (P:Program) (t:TypeId) (m k:V) (H:View):Out:=match dR P t,m with
 | some (kt,et),.mp id=>match H id with
  | .map es c=>match lG P kt k false es with
   | some (some i)=>match es[i]? with
    | some (k0,v,b)=>if sameKey k0 k=true then some (.aO [v,bU b],.eP id (.map (es.set i (k,v,b)) c),[id]) else none
    | none=>none
   | some none=>match zeroV P et with
    | some z=>some (.aO [z,bU c],.eP id (.map (es ++ [(k,z,c)]) (c+1)),[id])
    | none=>none
   | none=>none
  | _=>none
 | _,_=>none
def ko (m s v:V) (H:View):Out:=match m,asNat s with
 | .mp id,some q=>match H id with
  | .map es c=>match es.findIdx? (λe=>e.2.2 == q) with
   | some i=>match es[i]? with
    | some (k,_,b)=>some (.any,.eP id (.map (es.set i (k,v,b)) c),[id])
    | none=>none
   | none=>none
  | _=>none
 | _,_=>none
def u7 (P:Program) (t:TypeId) (m k:V) (H:View):Out:=match dR P t,m with
 | some (kt,_),.mp id=>match H id with
  | .map es c=>match lG P kt k es.isEmpty es with
   | some (some i)=>some (.any,.eP id (.map (es.eraseIdx i) c),[id])
   | some none=>some (.any,.none,[id])
   | none=>none
  | _=>none
 | _,_=>none
def ue (P:Program) (t:TypeId) (x:V) (H:View):Out:=match P.underlying t with
 | some (.slice _)=>(cT x).map λn=>(bU n,.none,[])
 | some (.map _ _)=>match x with
  | .mp id=>match H id with
   | .map es _=>some (bU es.length,.none,[id])
   | _=>none
  | .val (.map none)=>some (bU 0,.none,[])
  | _=>none
 | some .string=>match x with
  | .val (.string s)=>some (bU s.size,.none,[])
  | _=>none
 | some (.array n _)=>some (bU n,.none,[])
 | _=>none
def BX (x:V) (H:View):Out:=match x with
 | .ptr id 0 0=>match H id with
  | .wa s pos =>
   if pos < s.size then
    some (.aO [.val (.bool true),bU pos,.val (.int .i32 (Utf8.decode s pos).1)],.eP id (.wa s (pos+(Utf8.decode s pos).2)),[id])
   else some (.aO [.val (.bool false)],.none,[id])
  | _=>none
 | _=>none
def gN (s:ByteArray):List (List V):=s.data.toList.map λb=>[.val (.int .u8 b.toNat)]
def lf (P:Program) (s d:TypeId):Bool:=match P.underlying s,P.underlying d with
 | some (.slice _),_=>true
 | _,some (.slice _)=>true
 | _,_=>false
def mT (P:Program) (s d:TypeId) (x:V) (H:View) (n:Nat):Out:=match P.underlying s,P.underlying d,x with
 | some (.slice e),some .string,x=>match P.underlying e with
  | some (.int .u8)=>match bD H x,cT x with
   | some (xs,rd),some _=>(ll xs).map λl=>(.val (.string ⟨l.toArray⟩),.none,rd)
   | _,_=>none
  | _=>none
 | some .string,some (.slice e),.val (.string s)=>match P.underlying e with
  | some (.int .u8)=>some (.sl n 0 s.size 1,.new (.arr 1 (gN s)),[])
  | _=>none
 | some (.slice _),some (.slice e),.sl id off len esz=>if s=d/\len≠0 then (match P.underlying e with
  | some (.int .u8)=>match H id with
   | .arr z es=>some (.sl id off len esz,.eP id (.arr z es),[id])
   | _=>none
  | _=>none) else none
 | _,_,_=>none
def eX:Nat->V->Option Bool
 | 0,.emp 1=>some true
 | 0,.emp 2 | 0,.dM=>some false
 | 0,.sl _ _ (_+1) _=>some false
 | 0,.aL (_ :: _)=>some false
 | 1,.ptr _ _ _ | 1,.aN _ _ | 2,.mp _ | 3,.fn _ _ _=>some false
 | 1,.val (.pointer none) | 2,.val (.map none) | 3,.val .nilFunc=>some true
 | _,_=>none
def jK (P:Program) (t:TypeId):Option Nat:=match P.underlying t with
 | some (.slice _)=>some 0
 | some (.pointer _)=>some 1
 | some (.map _ _)=>some 2
 | some (.func _ _ _)=>some 3
 | _=>none
def Dm (P:Program) (t:TypeId) (x y:V):Option Bool:=match jK P t with
 | some k=>match eX k x,eX k y with
  | some true,some b=>some b
  | some b,some true=>some b
  | _,_=>none
 | none=>none
def dI (P:Program) (o:Oper) (T:Env):Out :=
 if o.op.operands.all (λx=>(cO (ev T x)).isSome)=true then
  match aP P (execOp (λx=>(cO (ev T x)).getD undef) o) with
  | some (.value v)=>if plain v then some (.val v,.none,[]) else none
  | _=>none
 else none
def isStr (P:Program) (o:Op):Bool:=match o with
 | .range t _=>(match P.underlying t with | some .string=>true | _=>false)
 | _=>false
def oe (P:Program) (t:TypeId):Bool:=match P.underlying t with
 | some (.int _)=>false
 | some _=>true
 | none=>false
def isInt (P:Program) (t:TypeId):Bool:=match P.underlying t with
 | some (.int _)=>true
 | _=>false
def bR (P:Program) (o:Oper) (T:Env) (H:View) (n:Nat):Out:=match o.op with
 | .move x | .assign x=>some (ev T x,.none,[])
 | .pick c a b=>match ev T c with
  | .val (.bool t)=>some (if t then ev T a else ev T b,.none,[])
  | _=>none
 | .alloc e=>match zeroCells P e with
  | some z=>lU z n
  | none=>none
 | .box _ x=>lU (ev T x).cells n
 | .build t parts=>uY P t (parts.toList.map λ(i,x)=>(i,ev T x))
 | .buildSlice t len parts=>ix P t len (parts.toList.map λ(i,x)=>(i,ev T x)) n
 | .load t a=>mC P t (ev T a) H
 | .store t a v=>qv P t (ev T a) (ev T v) H
 | .nilCheck x=>match ev T x with
  | .ptr id i j=>some (.ptr id i j,.none,[])
  | .aN e j=>some (.aN e j,.none,[])
  | .fn f a b=>some (.fn f a b,.none,[])
  | _=>none
 | .fieldAddr t x f=>lC P t (ev T x) f
 | .field t x f=>ui P t (ev T x) f
 | .indexAddr t x i=>lx P t (ev T x) (ev T i)
 | .slice t x lo hi mx=>match ev T x with
  | .val _=>dI P o T
  | y=>r5 P t y (lo.map (ev T)) (hi.map (ev T)) (mx.map (ev T))
 | .makeSlice t l c=>lP P t (ev T l) (ev T c) n
 | .makeMap _ r=>match r with
  | none=>some (.mp n,.new (.map [] 0),[])
  | some _=>none
 | .makeFunc (.func f) first cap=>some (.fn f (first.toList.map (ev T)) (cap.toList.map (ev T)),.none,[])
 | .lookup t m k ok=>fc P t (ev T m) (ev T k) ok H
 | .mapUpdate t m k v=>gC P t (ev T m) (ev T k) (ev T v) H
 | .insert t m k v=>gC P t (ev T m) (ev T k) (ev T v) H
 | .mapEntry t m k=>ew P t (ev T m) (ev T k) H
 | .entryStore _ m s v=>ko (ev T m) (ev T s) (ev T v) H
 | .extract t i=>match ev T t with
  | .aO vs=>if i < vs.length then some (vs.getD i .any,.none,[]) else none
  | _=>none
 | .range _ x=>match ev T x with
  | .val (.string s)=>if isStr P o.op=true then some (.ptr n 0 0,.new (.wa s 0),[]) else none
  | _=>none
 | .next it true=>BX (ev T it) H
 | .convert s d x=>if lf P s d=true then mT P s d (ev T x) H n else dI P o T
 | .call { callee:=.builtin b,args,argTypes }=>match b,args.toList with
  | .len,[x]=>if 1<=argTypes.size then ue P (argTypes.getD 0 0) (ev T x) H else none
  | .append,[s,x]=>if 2<=argTypes.size/\oe P (argTypes.getD 1 0)=true then nA P (argTypes.getD 0 0) (ev T s) (ev T x) H n else if 2<=argTypes.size/\isInt P (argTypes.getD 1 0)=true then qU P (argTypes.getD 0 0) (ev T s) (ev T x) n else none
  | .cap,[x]=>if 1<=argTypes.size then Dz P (argTypes.getD 0 0) (ev T x) else none
  | .copy,[d,x]=>if 1<=argTypes.size then vW P (argTypes.getD 0 0) (ev T d) (ev T x) H else none
  | .delete,[m,k]=>if 1<=argTypes.size then u7 P (argTypes.getD 0 0) (ev T m) (ev T k) H else none
  | .clear,[d]=>if 1<=argTypes.size then uB P (argTypes.getD 0 0) (ev T d) H else none
  | .min,_ | .max,_ | .complex,_ | .real,_ | .imag,_=>dI P o T
  | _,_=>none
 | .binOp op t x y _=>if (jK P t).isSome=true then (match op,Dm P t (ev T x) (ev T y) with
   | .eql,some b=>some (.val (.bool b),.none,[])
   | .neq,some b=>some (.val (.bool (!b)),.none,[])
   | _,_=>none)
  else dI P o T
 | .unOp .. | .index ..=>dI P o T
 | _=>none
abbrev Mu:=Nat->Option (Nat × Nat × Nat)
def cellAt (hp:Array Obj) (b k:Nat):Option Value:=match hp[b]? with
 | some (.cells c _ _)=>c[k]?
 | _=>none
theorem iz (w:World) (b k:Nat):w.cell? ⟨b,k,none⟩=cellAt w.heap b k:=by
 simp only[World.cell?,cellAt]
 cases w.heap[b]? with
 | none=>rfl
 | some o=>cases o <;> simp
inductive aw (Z:Nat->Prop) (μ:Mu) (hp:Array Obj):V->Value->Prop
 | any (x:Value):aw Z μ hp .any x
 | val (v:Value):plain v=true->aw Z μ hp (.val v) v
 | emp (k:Nat) (a:Option Addr):(k=1->a=none)->(k=2->a≠none)->aw Z μ hp (.emp k) (.slice a 0 0)
 | dM (a:Addr) (cap:Nat):aw Z μ hp .dM (.slice (some a) 0 cap)
 | iC (a:Option Addr) (cap:Nat):(a=none->cap=0)->aw Z μ hp (.aL []) (.slice a 0 cap)
 | aL (es:List (List V)) (b off esz cap:Nat) (c:Nat->Nat->Value):Z b->es.length<=cap ->
  (∀ i,i < es.length->(es.getD i []).length=esz) ->
  (∀ i j,i < es.length->j < esz->cellAt hp b (off+i * esz+j)=some (c i j)) ->
  (∀ i j,i < es.length->j < esz->aw Z μ hp ((es.getD i []).getD j .any) (c i j)) ->
  aw Z μ hp (.aL es) (.slice (some ⟨b,off,none⟩) es.length cap)
 | oB (id off esz:Nat) (a:Option Addr):aw Z μ hp (.sl id off 0 esz) (.slice a 0 0)
 | sl (id off len esz b o0 cap:Nat) (c:Array Value) (e:TypeId) (f:Nat × Nat):μ id=some (b,o0,esz)->len<=cap ->
  hp[b]?=some (.cells c e f)->o0+(off+cap) * esz<=c.size ->
  aw Z μ hp (.sl id off len esz) (.slice (some ⟨b,o0+off * esz,none⟩) len cap)
 | ptr (id i j b o0 esz:Nat):μ id=some (b,o0,esz)->aw Z μ hp (.ptr id i j) (.pointer (some ⟨b,o0+i * esz+j,none⟩))
 | aN (e:List V) (j b off:Nat) (c:Nat->Value):Z b->(∀ k,k < e.length->cellAt hp b (off+k)=some (c k)) ->
  (∀ k,k < e.length->aw Z μ hp (e.getD k .any) (c k))->aw Z μ hp (.aN e j) (.pointer (some ⟨b,off+j,none⟩))
 | mp (id b o0 esz:Nat):μ id=some (b,o0,esz)->aw Z μ hp (.mp id) (.map (some b))
 | fn (f:FuncId) (xs ys:List V) (aas bs:Array Value):xs.length=aas.size->ys.length=bs.size ->
  (∀ i,i < xs.length->aw Z μ hp (xs.getD i .any) (aas.getD i undef))->(∀ i,i < ys.length->aw Z μ hp (ys.getD i .any) (bs.getD i undef)) ->
  aw Z μ hp (.fn f xs ys) (.func (.func f) aas bs)
 | agg (cs:List V) (aas:Array Value):cs.length=aas.size->(∀ i,i < cs.length->aw Z μ hp (cs.getD i .any) (aas.getD i undef))->aw Z μ hp (.agg cs) (.agg aas)
 | aO (cs:List V) (aas:Array Value):cs.length=aas.size->(∀ i,i < cs.length->aw Z μ hp (cs.getD i .any) (aas.getD i undef))->aw Z μ hp (.aO cs) (.tuple aas)
def fO (Z:Nat->Prop) (μ:Mu) (hp:Array Obj) (vs:List V) (xs:List Value):Prop :=
 vs.length=xs.length/\∀ i,i < vs.length->aw Z μ hp (vs.getD i .any) (xs.getD i undef)
def fu (hp hp':Array Obj):Prop:=∀ (b:Nat) (c:Array Value) (e:TypeId) (f:Nat × Nat),hp[b]?=some (.cells c e f)->∃ (c':Array Value) (f':Nat × Nat),hp'[b]?=some (.cells c' e f')/\c'.size=c.size
theorem fu.refl (hp:Array Obj):fu hp hp:=λ_ c _ f h=>⟨c,f,h,rfl⟩
theorem fu.trans {a b c:Array Obj} (h:fu a b) (k:fu b c):fu a c:=λi x e f d =>
 let ⟨c1,f1,h1,s1⟩:=h i x e f d
 let ⟨c2,f2,g,s2⟩:=k i c1 e f1 h1
 ⟨c2,f2,g,s2.trans s1⟩
structure ia (Z Z':Nat->Prop) (μ μ':Mu) (hp hp':Array Obj):Prop where
 z:∀ b,Z b->Z' b
 zz:∀ b,Z b->hp'[b]?=hp[b]?
 mu:∀ id x,μ id=some x->μ' id=some x
 shape:fu hp hp'
theorem ia.refl (Z:Nat->Prop) (μ:Mu) (hp:Array Obj):ia Z Z μ μ hp hp:=⟨λ_ h=>h,λ_ _=>rfl,λ_ _ h=>h,fu.refl _⟩
theorem ia.trans {Z f e:Nat->Prop} {μ μ' d:Mu} {a b c:Array Obj} (h:ia Z f μ μ' a b) (k:ia f e μ' d b c):ia Z e μ d a c :=
 ⟨λi hi=>k.z i (h.z i hi),λi hi=>(k.zz i (h.z i hi)).trans (h.zz i hi),λi x g=>k.mu i x (h.mu i x g),h.shape.trans k.shape⟩
theorem xW {hp a:Array Obj} {b:Nat} (h:a[b]?=hp[b]?) (k:Nat):cellAt a b k=cellAt hp b k:=by simp[cellAt,h]
theorem aw.mono {Z u:Nat->Prop} {μ μ':Mu} {hp l:Array Obj} (m:ia Z u μ μ' hp l) {v:V} {x:Value} (h:aw Z μ hp v x):aw u μ' l v x:=by
 induction h with
 | any x=>exact .any x
 | val v w=>exact .val v w
 | emp k a h1 o=>exact .emp k a h1 o
 | dM a cap=>exact .dM a cap
 | iC a cap h1=>exact .iC a cap h1
 | aL es b off esz cap c n hle p q _ g=>exact .aL es b off esz cap c (m.z _ n) hle p (λi j hi y=>by rw[xW (m.zz _ n)];exact q i j hi y) g
 | oB id off esz a=>exact .oB id off esz a
 | sl id off len esz b o0 cap c e f hm hle A F =>
  obtain⟨B,C,r,D⟩:=m.shape b c e f A
  exact .sl id off len esz b o0 cap B e C (m.mu _ _ hm) hle r (by omega)
 | ptr id i j b o0 esz hm=>exact .ptr id i j b o0 esz (m.mu _ _ hm)
 | aN e j b off c n q _ g=>exact .aN e j b off c (m.z _ n) (λk hk=>by rw[xW (m.zz _ n)];exact q k hk) g
 | mp id b o0 esz hm=>exact .mp id b o0 esz (m.mu _ _ hm)
 | fn f xs ys d E h1 o _ _ s t=>exact .fn f xs ys d E h1 o s t
 | agg cs d h1 _ g=>exact .agg cs d h1 g
 | aO cs d h1 _ g=>exact .aO cs d h1 g
def dS (Z:Nat->Prop) (μ:Mu) (hp:Array Obj) (id:Nat):bN->Prop
 | .dead=>True
 | .arr esz es=>∀ b o0 s,μ id=some (b,o0,s)->s=esz /\
  (∃ (c:Array Value) (e:TypeId) (f:Nat × Nat),hp[b]?=some (.cells c e f)/\(f.1=f.2∨c.size<=f.1)/\o0+es.length * esz<=c.size) /\
  (∀ i,i < es.length->(es.getD i []).length=esz) /\
  (∀ i j,i < es.length->j < esz->∃ x,cellAt hp b (o0+i * esz+j)=some x/\aw Z μ hp ((es.getD i []).getD j .any) x)
 | .map es clock=>∀ b o0 s,μ id=some (b,o0,s)->∃ a:Array MapEntry,hp[b]?=some (.map a clock)/\a.size=es.length /\
  ∀ i,i < es.length->∃ y,a[i]?=some y/\aw Z μ hp (es.getD i default).1 y.key/\aw Z μ hp (es.getD i default).2.1 y.val/\y.born=(es.getD i default).2.2
 | .wa s pos=>∀ b o0 t,μ id=some (b,o0,t)->o0=0/\hp[b]?=some (.stringIter s pos)
theorem dS.mono {Z q:Nat->Prop} {μ μ':Mu} {hp g:Array Obj} (m:ia Z q μ μ' hp g) {id:Nat} {o:bN} (h:dS Z μ hp id o)
  (k:μ' id=μ id) (l:∀ b o0 s,μ id=some (b,o0,s)->g[b]?=hp[b]?):dS q μ' g id o:=by
 cases o with
 | dead=>trivial
 | arr esz es =>
  intro b o0 s d
  rw[k] at d
  obtain⟨h1,⟨c,e,f,r,u,n⟩,p,v⟩:=h b o0 s d
  refine⟨h1,⟨c,e,f,by rw[l b o0 s d];exact r,u,n⟩,p,λi j hi w=>?_⟩
  obtain⟨x,z,A⟩:=v i j hi w
  exact⟨x,by rw[xW (l b o0 s d)];exact z,A.mono m⟩
 | map es clock =>
  intro b o0 s d
  rw[k] at d
  obtain⟨a,B,n,p⟩:=h b o0 s d
  refine⟨a,by rw[l b o0 s d];exact B,n,λi hi=>?_⟩
  obtain⟨y,C,D,k2,E⟩:=p i hi
  exact⟨y,C,D.mono m,k2.mono m,E⟩
 | wa s pos =>
  intro b o0 t d
  rw[k] at d
  obtain⟨h1,F⟩:=h b o0 t d
  exact⟨h1,by rw[l b o0 t d];exact F⟩
structure dT (Z:Nat->Prop) (μ:Mu) (hp:Array Obj) (H:View):Prop where
 obj:∀ id,dS Z μ hp id (H id)
 inj:∀ i j b o s o' s',i≠j->μ i=some (b,o,s)->μ j=some (b,o',s')->H i=.dead∨H j=.dead
 lt:∀ id b o s,μ id=some (b,o,s)->b < hp.size
 cw:∀ b,Z b->b < hp.size
 gR:∀ id b o s,μ id=some (b,o,s)->¬ Z b
def Mu.set (μ:Mu) (n:Nat) (x:Nat × Nat × Nat):Mu:=λid=>if id=n then some x else μ id
def View.set (H:View) (n:Nat) (o:bN):View:=λid=>if id=n then o else H id
def aS.view (H:View) (n:Nat):aS->View
 | .none=>H
 | .new o=>H.set n o
 | .eP id o=>H.set id o
 | .dX id o=>(H.set id .dead).set n o
structure ep (w w':World):Prop where
 os:w'.os=w.os
 tape:w'.tape=w.tape
 output:w'.output=w.output
 size:w.heap.size<=w'.heap.size
theorem ep.refl (w:World):ep w w:=⟨rfl,rfl,rfl,Wz _⟩
theorem ep.trans {a b c:World} (h:ep a b) (k:ep b c):ep a c:=⟨k.os.trans h.os,k.tape.trans h.tape,k.output.trans h.output,Xo h.size k.size⟩
def gh (hp hp':Array Obj) (p:Nat->Prop):Prop:=∀ b,b < hp.size->¬ p b->hp'[b]?=hp[b]?
def lL (Z:Nat->Prop) (μ μ':Mu) (hp hp':Array Obj) (n:Nat):aS->Prop
 | .none=>μ'=μ/\gh hp hp' (λ_=>False)
 | .new o=>∃ b o0 s,hp.size<=b/\b < hp'.size/\μ'=μ.set n (b,o0,s)/\gh hp hp' (λ_=>False)/\dS Z μ' hp' n o
 | .eP id o=>∃ b o0 s,μ id=some (b,o0,s)/\μ'=μ/\gh hp hp' (· = b)/\fu hp hp'/\dS Z μ' hp' id o
 | .dX id o=>∃ b o0 s,μ'=μ.set n (b,o0,s)/\dS Z μ' hp' n o /\
  ((hp.size<=b/\b < hp'.size/\gh hp hp' (λ_=>False))∨((∃ o1 s1,μ id=some (b,o1,s1))/\gh hp hp' (· = b)/\fu hp hp'))
theorem gh.kU {hp a:Array Obj} (h:gh hp a (λ_=>False)):fu hp a:=by
 intro b c e f g
 have d:b < hp.size:=by
  rcases W5 b hp.size with h | h
  .exact h
  .simp[XS h] at g
 exact⟨c,f,by rw[h b d (λx=>x)];exact g,rfl⟩
theorem lL.mono {Z:Nat->Prop} {μ μ':Mu} {hp i:Array Obj} {n:Nat} {eff:aS} (h:lL Z μ μ' hp i n eff) (j:eff.fresh (μ n=none))
  (cw:∀ b,Z b->b < hp.size) (gR:∀ id b o s,μ id=some (b,o,s)->¬ Z b):ia Z Z μ μ' hp i:=by
 have c:μ n=none->∀ x:Nat × Nat × Nat,∀ id y,μ id=some y->(μ.set n x) id=some y:=by
  intro j x id y p
  by_cases k:id=n
  .subst k;simp[j] at p
  .simp[Mu.set,k,p]
 cases eff with
 | none =>
  obtain⟨rfl,d⟩:=h
  exact⟨λ_ h=>h,λb l=>d b (cw b l) (λx=>x),λ_ _ h=>h,d.kU⟩
 | new o =>
  obtain⟨b,o0,s,_,_,rfl,d,_⟩:=h
  exact⟨λ_ h=>h,λb l=>d b (cw b l) (λx=>x),c j _,d.kU⟩
 | eP id o =>
  obtain⟨b,o0,s,g,rfl,d,m,_⟩:=h
  exact⟨λ_ h=>h,λf a=>d f (cw f a) (λe=>gR _ _ _ _ g (e ▸ a)),λ_ _ h=>h,m⟩
 | dX id o =>
  obtain⟨b,o0,s,rfl,_,h | ⟨⟨q,s1,g⟩,d,m⟩⟩:=h
  .exact⟨λ_ h=>h,λf a=>h.2.2 f (cw f a) (λx=>x),c j _,h.2.2.kU⟩
  .exact⟨λ_ h=>h,λf a=>d f (cw f a) (λe=>gR _ _ _ _ g (e ▸ a)),c j _,m⟩
theorem lL.size {Z:Nat->Prop} {μ μ':Mu} {hp d:Array Obj} {n:Nat} {eff:aS} (h:lL Z μ μ' hp d n eff) (lt:∀ id b o s,μ id=some (b,o,s)->b < hp.size) (f:hp.size<=d.size) :
  ∀ id b o s,μ' id=some (b,o,s)->b < d.size:=by
 have hold:∀ id b o s,μ id=some (b,o,s)->b < d.size:=λid b o s c=>W4 (lt id b o s c) f
 cases eff with
 | none=>obtain⟨rfl,_⟩:=h;exact hold
 | new o =>
  obtain⟨b,o0,s,_,k,rfl,_,_⟩:=h
  intro id g i j c
  by_cases a:id=n
  .simp[Mu.set,a] at c;omega
  .simp[Mu.set,a] at c;exact hold _ _ _ _ c
 | eP id o=>obtain⟨b,o0,s,e,rfl,_⟩:=h;exact hold
 | dX id o =>
  obtain⟨b,o0,s,rfl,_,h | ⟨⟨l,s1,e⟩,_,_⟩⟩:=h
  all_goals
   intro id g i j c
   by_cases a:id=n
   .simp[Mu.set,a] at c
    first | omega | (obtain⟨rfl,_,_⟩:=c;exact hold _ _ _ _ e)
   .simp[Mu.set,a] at c;exact hold _ _ _ _ c
theorem dT.eff {Z:Nat->Prop} {μ μ':Mu} {hp z:Array Obj} {H:View} {n:Nat} {eff:aS} (h:dT Z μ hp H) (P:eff.fresh (μ n=none)) (L:hp.size<=z.size)
  (he:lL Z μ μ' hp z n eff) (K:∀ id o,eff=.eP id o->H id≠.dead) (G:∀ id o,eff=.dX id o->H id≠.dead):dT Z μ' z (eff.view H n):=by
 have hm:=he.mono P h.cw h.gR
 have m:=he.size h.lt L
 have A:∀ b,Z b->b < z.size:=λb Q=>W4 (h.cw b Q) L
 cases eff with
 | none =>
  obtain⟨rfl,D⟩:=he
  exact⟨λid=>(h.obj id).mono hm rfl (λb o s c=>D b (h.lt _ _ _ _ c) (λx=>x)),h.inj,m,A,h.gR⟩
 | new o =>
  obtain⟨b,o0,s,R,S,rfl,D,t⟩:=he
  refine⟨λid=>?_,?_,m,A,?_⟩
  .by_cases a:id=n
   .subst a;simpa [aS.view,View.set] using t
   .have:=(h.obj id).mono hm (by simp[Mu.set,a]) (λb o s c=>D b (h.lt _ _ _ _ c) (λx=>x))
    simpa [aS.view,View.set,a] using this
  .intro i j d w y B C u hi q
   by_cases h1:i=n
   .by_cases r:j=n
    .omega
    .simp[Mu.set,h1] at hi;simp[Mu.set,r] at q
     have:=h.lt _ _ _ _ q;omega
   .by_cases r:j=n
    .simp[Mu.set,r] at q;simp[Mu.set,h1] at hi
     have:=h.lt _ _ _ _ hi;omega
    .simp[Mu.set,h1] at hi;simp[Mu.set,r] at q
     simpa [aS.view,View.set,h1,r] using h.inj i j d w y B C u hi q
  .intro id d w y c F
   by_cases h1:id=n
   .simp[Mu.set,h1] at c;have:=h.cw _ F;omega
   .simp[Mu.set,h1] at c;exact h.gR _ _ _ _ c F
 | eP k o =>
  obtain⟨b,o0,s,g,rfl,D,T,t⟩:=he
  have hk:=K k o rfl
  refine⟨λid=>?_,?_,m,A,h.gR⟩
  .by_cases a:id=k
   .subst a;simpa [aS.view,View.set] using t
   .simp only[aS.view,View.set,a,if_false]
    by_cases I:H id=.dead
    .rw[I];trivial
    .refine(h.obj id).mono hm rfl (λd w y c=>D d (h.lt _ _ _ _ c) ?_)
     intro e
     subst e
     rcases h.inj id k _ _ _ _ _ a c g with h1 | h1
     .exact I h1
     .exact hk h1
  .intro i j d w y B C u hi q
   rcases h.inj i j _ _ _ _ _ u hi q with h1 | h1
   .by_cases e:i=k
    .exact absurd (e ▸ h1) hk
    .left;simpa [aS.view,View.set,e] using h1
   .by_cases e:j=k
    .exact absurd (e ▸ h1) hk
    .right;simpa [aS.view,View.set,e] using h1
 | dX k o =>
  obtain⟨b,o0,s,rfl,t,l⟩:=he
  have hk:=G k o rfl
  have v:(μ.set n (b,o0,s)) n=some (b,o0,s):=by simp[Mu.set]
  refine⟨λid=>?_,?_,m,A,?_⟩
  .by_cases a:id=n
   .subst a;simpa [aS.view,View.set] using t
   .by_cases f:id=k
    .simp only[aS.view,View.set,a,if_false,f,if_true]
     split <;> first | trivial | (rename_i e;exact absurd (f.trans e) a)
    .simp only[aS.view,View.set,a,if_false,f]
     by_cases I:H id=.dead
     .rw[I];trivial
     .refine(h.obj id).mono hm (by simp[Mu.set,a]) (λd w y c=>?_)
      rcases l with h1 | ⟨⟨M,s1,g⟩,D,_⟩
      .exact h1.2.2 d (h.lt _ _ _ _ c) (λx=>x)
      .refine D d (h.lt _ _ _ _ c) ?_
       intro e
       subst e
       rcases h.inj id k _ _ _ _ _ f c g with h1 | h1
       .exact I h1
       .exact hk h1
  .intro i j d w y B C u hi q
   have key:∀ i d w y,i≠n->(μ.set n (b,o0,s)) i=some (d,w,y)->d=b->(aS.view H n (.dX k o)) i=.dead:=by
    intro p U V t1 J c e
    subst e
    simp only[Mu.set,Ws J] at c
    simp only[aS.view,View.set,Ws J]
    by_cases f:p=k
    .simp[f]
    .simp only[Ws f]
     rcases l with h1 | ⟨⟨M,s1,g⟩,_,_⟩
     .have:=h.lt _ _ _ _ c;omega
     .rcases h.inj p k _ _ _ _ _ f c g with h1 | h1
      .exact h1
      .exact absurd h1 hk
   by_cases h1:i=n
   .have r:j≠n:=by omega
    right
    have E:d=b:=by
     rw[h1,v] at hi;simp at hi;exact hi.1.symm
    exact key j d B C r q E
   .by_cases r:j=n
    .left
     have E:d=b:=by
      rw[r,v] at q;simp at q;exact q.1.symm
     exact key i d w y h1 hi E
    .simp only[Mu.set,h1,if_false] at hi
     simp only[Mu.set,r,if_false] at q
     simp only[aS.view,View.set,h1,r,if_false]
     by_cases N:i=k
     .left;simp[N]
     .by_cases O:j=k
      .right;simp[O]
      .simp only[N,O,if_false]
       exact h.inj i j _ _ _ _ _ u hi q
  .intro id d w y c F
   by_cases h1:id=n
   .rw[h1,v] at c
    simp at c
    obtain⟨rfl,_,_⟩:=c
    rcases l with r | ⟨⟨M,s1,g⟩,_,_⟩
    .have:=h.cw _ F;omega
    .exact h.gR _ _ _ _ g F
   .simp only[Mu.set,h1,if_false] at c
    exact h.gR _ _ _ _ c F
theorem uQ {Z:Nat->Prop} {μ:Mu} {hp:Array Obj} {v:V} {x:Value} (h:aw Z μ hp v x) (a:aE v=true):x.oneCell'=true:=by
 cases h with
 | val _ b=>cases x <;> first | rfl | (simp[plain] at b)
 | any x=>simp[aE] at a
 | agg cs c h1 d=>simp[aE] at a
 | aO cs c h1 d=>simp[aE] at a
 | _=>rfl
theorem gH {Z:Nat->Prop} {μ:Mu} {hp:Array Obj} {v:V} {x:Value} (h:aw Z μ hp v x) (o:v.cells.all aE=true):fO Z μ hp v.cells x.cells.toList:=by
 have one:∀ v x,aw Z μ hp v x->x.cells = #[x]->fO Z μ hp [v] x.cells.toList:=by
  intro v x h p
  rw[p]
  exact⟨rfl,λi hi=>by
   simp at hi;subst hi;simpa using h⟩
 cases h with
 | agg cs g h1 d =>
  refine⟨by simpa [V.cells,Value.cells] using h1,λi hi=>?_⟩
  have:=d i (by simpa [V.cells] using hi)
  simpa [V.cells,Value.cells,List.getD,WE] using this
 | any x=>simp[V.cells,aE] at o
 | aO cs g h1 d=>simp[V.cells,aE] at o
 | val _ m =>
  refine one _ _ (.val x m) ?_
  cases x <;> first | rfl | (simp[plain] at m)
 | emp k a h1 d=>exact one _ _ (.emp k a h1 d) rfl
 | dM a cap=>exact one _ _ (.dM a cap) rfl
 | iC a cap h1=>exact one _ _ (.iC a cap h1) rfl
 | aL es b off esz cap c h1 d l n q=>exact one _ _ (.aL es b off esz cap c h1 d l n q) rfl
 | oB id off esz a=>exact one _ _ (.oB id off esz a) rfl
 | sl id off len esz b o0 cap c e f h1 d l n=>exact one _ _ (.sl id off len esz b o0 cap c e f h1 d l n) rfl
 | ptr id i j b o0 esz h1=>exact one _ _ (.ptr id i j b o0 esz h1) rfl
 | aN e j b off c h1 d l=>exact one _ _ (.aN e j b off c h1 d l) rfl
 | mp id b o0 esz h1=>exact one _ _ (.mp id b o0 esz h1) rfl
 | fn f xs ys g r h1 d l n=>exact one _ _ (.fn f xs ys g r h1 d l n) rfl
theorem pw {P:Program} {t:TypeId} {i:TypeInfo} (h:P.info? t=some i) (w:World):(typeInfo t).run P w=.ok i w:=by
 simp[typeInfo,h]
theorem dx {P:Program} {t:TypeId} {i:TypeInfo} (h:P.info? t=some i) (w:World):(Go.sizeOf t).run P w=.ok i.size w:=by
 simp[Go.sizeOf,pw h]
theorem bh {P:Program} {t:TypeId} {d:TypeDesc} (h:P.underlying t=some d) (w:World):(underlying t).run P w=.ok d w:=by
 simp[underlying,h]
theorem kb {P:Program} {t:TypeId} {i:TypeInfo} {v:Value} (h:P.info? t=some i) (a:i.zero=some v) (w:World):(zeroValue t).run P w=.ok v w:=by
 simp[zeroValue,pw h,a]
theorem sK {P:Program} {t:TypeId} {b:Bool} (h:rC P t=some b) (w:World):(isAgg t).run P w=.ok b w:=by
 unfold rC at h
 cases hu:P.underlying t with
 | none=>simp[hu] at h
 | some d =>
  simp only[hu] at h
  simp only[isAgg,Sem.run_bind,bh hu,Result.andThen_ok]
  cases d <;> simp_all
def F5 (Z:Nat->Prop) (μ:Mu) (hp:Array Obj) (b off:Nat) (cs:List V):Prop :=
 ∀ k,k < cs.length->∃ x,cellAt hp b (off+k)=some x/\aw Z μ hp (cs.getD k .any) x
theorem pQ {α:Type} {P:Program} : ∀ (s:Sem α) {a:α},aP P s=some a->∀ w,s.run P w=.ok a w:=by
 intro s
 induction s with
 | pure a=>intro c h w;simp[aP] at h;subst h;rfl
 | program k b=>intro a h w;simp only[aP] at h;simp only[Sem.run];exact b P h w
 | _=>intro a h;simp[aP] at h
theorem nG {n:Nat} {p:Nat->Value->Prop} (h:∀ k,k < n->∃ x,p k x):∃ f:Nat->Value,∀ k,k < n->p k (f k):=by
 refine⟨λk=>if hk:k < n then Classical.choose (h k hk) else undef,λk hk=>?_⟩
 simp only[hk,dif_pos]
 exact Classical.choose_spec (h k hk)
theorem jI (b o n:Nat):Addr.add ⟨b,o,none⟩ n=⟨b,o+n,none⟩:=by
 unfold Addr.add;split
 .rename_i h;subst h;rfl
 .rfl
theorem sP {Z:Nat->Prop} {μ:Mu} {w:World} {P:Program} {b off j:Nat} {t:TypeId} {cs:List V} {v:V} (h:F5 Z μ w.heap b off cs) (hp:pJ P t cs j=some v) :
  ∃ x,(loadVar t ⟨b,off+j,none⟩).run P w=.ok x w/\aw Z μ w.heap v x:=by
 unfold pJ at hp
 cases hi:P.info? t with
 | none=>simp[hi] at hp
 | some i =>
  cases c:rC P t with
  | none=>simp[hi,c] at hp
  | some g =>
   simp only[hi,c] at hp
   cases g with
   | true =>
    simp only at hp
    split at hp
    .rename_i hle
     simp at hp;subst hp
     have d:∀ k,k < i.size->∃ x,cellAt w.heap b (off+(j+k))=some x/\aw Z μ w.heap (cs.getD (j+k) .any) x:=λk hk=>h (j+k) (by omega)
     obtain⟨f,e⟩:=nG d
     refine⟨.agg ((List.range i.size).map f).toArray,?_,?_⟩
     .simp only[loadVar,Sem.run_bind,sK c,Result.andThen_ok,if_true,dx hi]
      rw[run_loadCells w ⟨b,off+j,none⟩ i.size f (λk hk=>by rw[jI,iz,W7];exact(e k hk).1)]
      rfl
     .refine .agg _ _ (by simp;omega) (λk hk=>?_)
      have a:k < i.size:=by simp at hk;omega
      have:=(e k a).2
      simpa [List.getD,a,XI,XJ,WE] using this
    .simp at hp
   | false =>
    simp only at hp
    split at hp
    .rename_i hle
     simp at hp;subst hp
     obtain⟨x,d,l⟩:=h j hle
     refine⟨x,?_,by simpa [List.getD] using l⟩
     simp only[loadVar,Sem.run_bind,sK c,Result.andThen_ok,WR,if_false,run_load,iz,d]
    .simp at hp
theorem yQ {w:World} {b k:Nat} {v:Value} {c:Array Value} {e:TypeId} {f:Nat × Nat} (h:w.heap[b]?=some (.cells c e f)) :
  w.setCell ⟨b,k,none⟩ v = { w with heap:=w.heap.setIfInBounds b (.cells (c.setIfInBounds k v) e f) }:=by
 unfold World.setCell
 congr 1
 apply Array.ext_getElem?
 intro i
 simp only[X7,Xn]
 by_cases hi:b=i
 .subst hi
  have a:b < w.heap.size:=by
   rcases W5 b w.heap.size with d | d
   .exact d
   .simp[XS d] at h
  have g:w.heap[b]=.cells c e f:=by simpa [WM a] using h
  simp[g,a]
 .simp[hi]
theorem N2 {w:World} {b k:Nat} {c:Array Value} {e:TypeId} {f:Nat × Nat} (h:w.heap[b]?=some (.cells c e f)) (a:¬ (f.1<=k/\k < f.2)):w.frozen? ⟨b,k,none⟩=false:=by
 simp only[World.frozen?,h]
 simp only[Yj,XC]
 omega
theorem pL {c:Array Value} {f:Nat × Nat} (h:f.1=f.2∨c.size<=f.1):∀ k,k < c.size->¬ (f.1<=k/\k < f.2):=by
 intro k hk;omega
theorem kR {P:Program} {b off:Nat} {e:TypeId} {f:Nat × Nat} : ∀ (xs:List Value) (i:Nat) (c:Array Value) (w:World),
  w.heap[b]?=some (.cells c e f)->(∀ k,k < c.size->¬ (f.1<=k/\k < f.2))->off+i+xs.length<=c.size->(∀ x∈xs,x.oneCell'=true) ->
  ∃ d,(storeCells ⟨b,off,none⟩ xs i).run P w=.ok () { w with heap:=w.heap.setIfInBounds b (.cells d e f) }/\d.size=c.size /\
   ∀ k,d[k]?=if off+i<=k/\k < off+i+xs.length then xs[k - (off+i)]? else c[k]?
 | [],i,c,w,h,_,_,_=>by
  refine⟨c,?_,rfl,λk=>?_⟩
  .simp only[storeCells,Sem.run_pure]
   congr 1
   have:w.heap.setIfInBounds b (.cells c e f)=w.heap:=by
    apply Array.ext_getElem?
    intro k
    simp only[Xn]
    split
    .rename_i hk
     subst hk
     split
     .exact h.symm
     .rename_i q;simp[XS (Nat.le_of_not_lt q)]
    .rfl
   rw[this]
  .rw[Ws (by simp only[WW];omega)]
 | x :: xs,i,c,w,h,n,r,o=>by
  simp only[WD] at r
  have g:b < w.heap.size:=by
   rcases W5 b w.heap.size with j | j
   .exact j
   .simp[XS j] at h
  have a:w.cell? ⟨b,off+i,none⟩=some c[off+i]:=by
   rw[iz,cellAt,h];simp[show off+i < c.size from by omega]
  have hw:(w.setCell ⟨b,off+i,none⟩ x).heap[b]?=some (.cells (c.setIfInBounds (off+i) x) e f):=by
   rw[yQ h];simp[g]
  obtain⟨d,hr,l,m⟩:=kR (P:=P) (off:=off) (f:=f) xs (i+1) (c.setIfInBounds (off+i) x) (w.setCell ⟨b,off+i,none⟩ x) hw (λk hk=>n k (by simpa using hk)) (by simp;omega) (λy s=>o y (W9 _ s))
  refine⟨d,?_,by simpa using l,λk=>?_⟩
  .simp only[storeCells,Sem.run_bind,jI]
   rw[run_store P w _ x _ (o x XE),a]
   simp only[N2 h (n (off+i) (by omega)),WR,if_false,Result.andThen_ok]
   rw[hr]
   congr 1
   rw[yQ h]
   simp[Array.setIfInBounds_setIfInBounds]
  .rw[m]
   simp only[WD]
   by_cases h1:off+i=k
   .subst h1
    rw[Ws (by omega),Wv (by omega)]
    simp[show off+i < c.size from by omega]
   .by_cases p:off+(i+1)<=k/\k < off+(i+1)+xs.length
    .rw[Wv p,Wv (by omega)]
     rw[show k - (off+i)=(k - (off+(i+1)))+1 from by omega]
     simp
    .rw[Ws p,Ws (by omega)]
     simp[h1]
theorem db (hp:Array Obj) (b:Nat) (o:Obj):gh hp (hp.setIfInBounds b o) (· = b):=by
 intro k _ hk
 simp only[Xn]
 rw[Ws (λe=>hk e.symm)]
theorem jf {hp:Array Obj} {b:Nat} {c a:Array Value} {e:TypeId} {f:Nat × Nat} (h:hp[b]?=some (.cells c e f)) (j:a.size=c.size):fu hp (hp.setIfInBounds b (.cells a e f)):=by
 intro k x e' l hk
 simp only[Xn]
 by_cases i:b=k
 .subst i
  rw[h] at hk
  simp only[Wu,Obj.cells.injEq] at hk
  obtain⟨rfl,rfl,rfl⟩:=hk
  have d:b < hp.size:=by
   rcases W5 b hp.size with g | g
   .exact g
   .simp[XS g] at h
  exact⟨a,f,by simp[d],j⟩
 .exact⟨x,l,by simp[i,hk],rfl⟩
theorem ec {hp:Array Obj} {b:Nat} {o:Obj} (h:b < hp.size):(hp.setIfInBounds b o)[b]?=some o:=by simp[h]
theorem eM {hp:Array Obj} {b:Nat} {o:Obj} (h:hp[b]?=some o):b < hp.size:=by
 rcases W5 b hp.size with a | a
 .exact a
 .simp[XS a] at h
theorem xc (l cs:List V) (j:Nat) (a:j+cs.length<=l.length):(fp l j cs).length=l.length:=by
 simp only[fp,WO,XD,List.length_drop];omega
theorem E5 (l cs:List V) (j k:Nat) (a:j+cs.length<=l.length) (h:j<=k/\k < j+cs.length):(fp l j cs).getD k .any=cs.getD (k - j) .any:=by
 simp only[fp,Wo,Xp]
 rw[Xi (by simp;omega),WS (by simp;omega)]
 congr 2;simp;omega
theorem BR (l cs:List V) (j k:Nat) (a:j+cs.length<=l.length) (h:¬ (j<=k/\k < j+cs.length)):(fp l j cs).getD k .any=l.getD k .any:=by
 simp only[fp,Wo,Xp]
 by_cases h1:k < j
 .rw[WS (by simp;omega)];simp[h1]
 .rw[Xi (by simp;omega),Xi (by simp;omega)]
  simp only[XJ,XD]
  congr 2;omega
theorem dS.store {Z:Nat->Prop} {μ:Mu} {w:World} {P:Program} {id b o0 s esz i j:Nat} {es:List (List V)} {cs:List V} {xs:List Value}
  (F:dS Z μ w.heap id (.arr esz es)) (u:μ id=some (b,o0,s)) (N:¬ Z b) (cw:∀ b,Z b->b < w.heap.size) (hi:i < es.length) (R:j+cs.length<=esz) (hr:fO Z μ w.heap cs xs) (v:∀ x∈xs,x.oneCell'=true) :
  ∃ w',(storeCells ⟨b,o0+i * esz+j,none⟩ xs).run P w=.ok () w'/\ep w w'/\gh w.heap w'.heap (· = b)/\fu w.heap w'.heap /\
   dS Z μ w'.heap id (.arr esz (es.set i (fp (es.getD i []) j cs))):=by
 obtain⟨rfl,⟨c,e,f,y,L,O⟩,hlen,m⟩:=F b o0 s u
 have hmul:(i+1) * s<=es.length * s:=Xd _ hi
 have G:(i+1) * s=i * s+s:=by rw[Xf];omega
 have M:=eM y
 obtain⟨z,A,n,H⟩:=kR (P:=P) (b:=b) (off:=o0+i * s+j) (e:=e) (f:=f) xs 0 c w y (pL L) (by rw[<-hr.1];omega) v
 have hm:ia Z Z μ μ w.heap (w.heap.setIfInBounds b (.cells z e f)) :=
  ⟨λ_ h=>h,λk hk=>db w.heap b _ k (cw k hk) (λe=>N (e ▸ hk)),λ_ _ h=>h,jf y n⟩
 refine⟨_,A,⟨rfl,rfl,rfl,by simp⟩,db _ _ _,jf y n,?_⟩
 intro S T U o
 rw[u] at o
 simp only[Wu,Wx] at o
 obtain⟨rfl,rfl,rfl⟩:=o
 have Q:(fp (es.getD i []) j cs).length=s:=by
  have:=hlen i hi
  rw[xc _ _ _ (by omega),this]
 have p:∀ a,(es.set i (fp (es.getD i []) j cs)).getD a []=if a=i then fp (es.getD i []) j cs else es.getD a []:=by
  intro a
  simp only[Wo,Xs]
  by_cases h1:i=a
  .subst h1;simp[hi]
  .rw[Ws h1,Ws (λe=>h1 e.symm)]
 refine⟨rfl,⟨z,e,f,by simp[M],by rw[n];exact L,by simpa [n] using O⟩,?_,?_⟩
 .intro a q
  rw[p]
  split
  .exact Q
  .exact hlen a (by simpa using q)
 .intro a g q B
  have l:a < es.length:=by simpa using q
  have I:(a+1) * s<=es.length * s:=Xd _ l
  have E:(a+1) * s=a * s+s:=by rw[Xf];omega
  have r:cellAt (w.heap.setIfInBounds b (.cells z e f)) b (o0+a * s+g)=z[o0+a * s+g]?:=by simp[cellAt,M]
  have d:cellAt w.heap b (o0+a * s+g)=c[o0+a * s+g]?:=by simp[cellAt,y]
  show ∃ x,cellAt (w.heap.setIfInBounds b (.cells z e f)) b (o0+a * s+g)=some x/\_
  rw[r,H,p]
  by_cases t:a=i
  .subst t
   rw[Wv rfl]
   by_cases C:j<=g/\g < j+cs.length
   .have hk:g - j < cs.length:=by omega
    have D:g - j < xs.length:=hr.1 ▸ hk
    rw[Wv (by rw[<-hr.1];omega),show o0+a * s+g - (o0+a * s+j+0)=g - j from by omega]
    refine⟨xs[g - j],by simp[D],?_⟩
    have:=(hr.2 (g - j) hk).mono hm
    simp only[Wo,Wp D,Wp hk,WJ] at this
    have J:=hlen a l
    rw[E5 _ _ _ _ (by omega) C]
    simpa [Wo,hk] using this
   .rw[Ws (by rw[<-hr.1];omega)]
    obtain⟨x,o,K⟩:=m a g l B
    rw[d] at o
    refine⟨x,o,?_⟩
    have J:=hlen a l
    rw[BR _ _ _ _ (by omega) C]
    exact K.mono hm
  .rw[Ws t]
   have:¬ (o0+i * s+j+0<=o0+a * s+g/\o0+a * s+g < o0+i * s+j+0+xs.length):=by
    rw[<-hr.1]
    rcases Nat.lt_or_gt_of_ne t with h1 | h1
    .have:(a+1) * s<=i * s:=Xd _ h1
     omega
    .have:(i+1) * s<=a * s:=Xd _ h1
     omega
   rw[Ws this]
   obtain⟨x,o,K⟩:=m a g l B
   rw[d] at o
   exact⟨x,o,K.mono hm⟩
theorem dS.newRow {Z:Nat->Prop} {μ:Mu} {hp:Array Obj} {n esz:Nat} {es:List (List V)} {c:Array Value} {e:TypeId}
  (g:μ n=none) (cw:∀ b,Z b->b < hp.size) (k:es.length * esz<=c.size) (hlen:∀ i,i < es.length->(es.getD i []).length=esz)
  (h:∀ i j,i < es.length->j < esz->∃ x,c[i * esz+j]?=some x/\aw Z μ hp ((es.getD i []).getD j .any) x) :
  dS Z (μ.set n (hp.size,0,esz)) (hp.push (.cells c e (0,0))) n (.arr esz es):=by
 intro b o0 s a
 simp only[Mu.set,if_true,Wu,Wx] at a
 obtain⟨rfl,rfl,rfl⟩:=a
 have hm:ia Z Z μ (μ.set n (hp.size,0,esz)) hp (hp.push (.cells c e (0,0))):=by
  refine⟨λ_ h=>h,λb f=>?_,λid x a=>?_,?_⟩
  .have:=cw b f
   rw[X3,Ws (by omega)]
  .by_cases d:id=n
   .subst d;simp[g] at a
   .simp[Mu.set,d,a]
  .intro b l e' p f
   have:=eM f
   exact⟨l,_,by rw[X3,Ws (by omega)];exact f,rfl⟩
 refine⟨rfl,⟨c,e,(0,0),by simp,.inl rfl,by simpa using k⟩,hlen,λi j hi m=>?_⟩
 obtain⟨x,a,o⟩:=h i j hi m
 exact⟨x,by simp[cellAt,a],o.mono hm⟩
theorem eN (hp:Array Obj) (o:Obj):gh hp (hp.push o) (λ_=>False):=by
 intro k hk _
 rw[X3,Ws (by omega)]
structure Ctx (Z:Nat->Prop) (μ:Mu) (hp:Array Obj) (H:View) (rd:List Nat) (n:Nat) (eff:aS):Prop where
 new:eff.fresh (μ n=none)
 obj:∀ id,id∈rd->dS Z μ hp id (H id)
 lt:∀ id b o s,μ id=some (b,o,s)->b < hp.size
 cw:∀ b,Z b->b < hp.size
 gR:∀ id b o s,μ id=some (b,o,s)->¬ Z b
def aV (Z:Nat->Prop) (μ:Mu) (w:World) (n:Nat) (v:V) (eff:aS) (r:Result Next):Prop :=
 ∃ nx w' μ',r=.ok nx w'/\((∃ x,nx=.value x/\aw Z μ' w'.heap v x)∨(nx=.skip/\v=.any))/\ep w w'/\lL Z μ μ' w.heap w'.heap n eff
section
variable {Z:Nat->Prop} {μ μ':Mu} {w w':World} {P:Program} {H:View} {n:Nat} {v:V} {eff:aS} {rd:List Nat}
theorem iU:lL Z μ μ w.heap w.heap n .none:=⟨rfl,λ_ _ _=>rfl⟩
theorem aV.value {s:Sem Value} {x:Value} (hr:s.run P w=.ok x w') (a:aw Z μ' w'.heap v x) (b:ep w w') (he:lL Z μ μ' w.heap w'.heap n eff) :
  aV Z μ w n v eff ((do pure (Next.value (<-s)):Sem Next).run P w) :=
 ⟨.value x,w',μ',by simp[hr],.inl ⟨x,rfl,a⟩,b,he⟩
theorem aV.here {s:Sem Value} {x:Value} (hr:s.run P w=.ok x w) (a:aw Z μ w.heap v x):aV Z μ w n v .none ((do pure (Next.value (<-s)):Sem Next).run P w) :=
 aV.value hr a (ep.refl w) iU
theorem aV.skip {s:Sem Unit} (hr:s.run P w=.ok () w') (a:ep w w') (he:lL Z μ μ' w.heap w'.heap n eff) :
  aV Z μ w n .any eff ((do s;pure Next.skip:Sem Next).run P w) :=
 ⟨.skip,w',μ',by simp[hr],.inr ⟨rfl,rfl⟩,a,he⟩
theorem wu (x:Value):aw Z μ w.heap (nO x) x:=by
 cases x with
 | slice a len cap =>
  cases a with
  | none =>
   cases len with
   | zero=>cases cap with
    | zero=>exact .emp 1 none (λ_=>rfl) (λh=>by simp at h)
    | succ c=>exact .any _
   | succ l=>exact .any _
  | some a=>exact .any _
 | _ =>
  simp only[nO]
  split
  .rename_i h;exact .val _ h
  .exact .any _
theorem gK (x:Value):aw Z μ w.heap (fA x) x:=by
 cases x with
 | agg cs =>
  refine .agg _ _ (by simp) (λi hi=>?_)
  have c:i < cs.size:=by simpa using hi
  simp only[Wo,WE]
  simpa [c] using wu cs[i]
 | func fn a b =>
  cases fn with
  | func f =>
   simp only[fA]
   split
   .rename_i h
    exact .fn _ _ _ _ _ h.1.symm h.2.symm (λi hi=>by simp at hi) (λi hi=>by simp at hi)
   .exact .any _
  | _=>simp only[fA];exact wu _
 | _=>simp only[fA];exact wu _
theorem heap_alloc (w:World) (o:Obj):(w.alloc o).heap=w.heap.push o:=rfl
theorem ir (w:World) (o:Obj):ep w (w.alloc o):=⟨rfl,rfl,rfl,by rw[heap_alloc];simp⟩
theorem qt {v:V} {x y:Value} (h:aw Z μ w.heap v x) (f:cO v=some y):y=x:=by
 have e:∀ (cs:List V) (l:List Value),vl cs=some l->∀ (xs:List Value),cs.length=xs.length->(∀ i,i < cs.length->aw Z μ w.heap (cs.getD i .any) (xs.getD i undef))->l=xs:=by
  intro cs
  induction cs with
  | nil=>intro l d xs g _;simp[vl] at d;subst d;cases xs <;> simp_all
  | cons c r n =>
   intro l d xs g hr
   cases xs with
   | nil=>simp at g
   | cons x xs =>
    simp only[vl] at d
    split at d
    .rename_i a b k o
     simp at d;subst d
     have m:=hr 0 (by simp)
     have:=n b o xs (by simpa using g) (λi hi=>by simpa using hr (i+1) (by simpa using hi))
     subst this
     simp only[Xx] at m
     cases c <;> simp[toCell] at k
     subst k
     cases m;rfl
    .simp at d
 cases v with
 | val a=>simp[cO] at f;subst f;cases h;rfl
 | agg cs =>
  simp only[cO,WB] at f
  obtain⟨l,d,rfl⟩:=f
  cases h with
  | agg _ j h1 p =>
   have:=e cs l d j.toList (by simpa using h1) (λi hi=>by simpa [Wo,WE] using p i hi)
   subst this;simp
 | _=>simp[cO] at f
theorem mY {id i j:Nat} {x:Value} (h:aw Z μ w.heap (.ptr id i j) x):∃ b o0 esz,μ id=some (b,o0,esz)/\x=.pointer (some ⟨b,o0+i * esz+j,none⟩):=by
 cases h with | ptr _ _ _ b o0 esz hm=>exact⟨b,o0,esz,hm,rfl⟩
theorem rV {e:List V} {j:Nat} {x:Value} (h:aw Z μ w.heap (.aN e j) x):∃ b off,Z b/\F5 Z μ w.heap b off e/\x=.pointer (some ⟨b,off+j,none⟩):=by
 cases h with | aN _ _ b off c a h1 d=>exact⟨b,off,a,λk hk=>⟨c k,h1 k hk,d k hk⟩,rfl⟩
theorem zH {e:List V} {j b off:Nat} (c:Z b) (h:F5 Z μ w.heap b off e):aw Z μ w.heap (.aN e j) (.pointer (some ⟨b,off+j,none⟩)):=by
 obtain⟨f,a⟩:=nG h
 exact .aN e j b off f c (λk hk=>(a k hk).1) (λk hk=>(a k hk).2)
theorem rowOf {id i b o0 s esz:Nat} {es:List (List V)} (a:dS Z μ w.heap id (.arr esz es)) (c:μ id=some (b,o0,s)) (hi:i < es.length) :
  s=esz/\F5 Z μ w.heap b (o0+i * s) (es.getD i []):=by
 obtain⟨rfl,_,d,e⟩:=a b o0 s c
 refine⟨rfl,λk hk=>?_⟩
 rw[d i hi] at hk
 exact e i k hi hk
theorem Rk {t:TypeId} {a:V} {x:Value} (h:mC P t a H=some (v,eff,rd)) (m:aw Z μ w.heap a x) (c:Ctx Z μ w.heap H rd n eff) :
  aV Z μ w n v eff ((do pure (Next.value (<-Instr.loadAt t x)):Sem Next).run P w):=by
 unfold mC at h
 split at h
 .rename_i id i j
  obtain⟨b,o0,esz,hm,rfl⟩:=mY m
  split at h
  .rename_i e es hH
   split at h
   .rename_i hi
    simp only[WB] at h
    obtain⟨v',d,h⟩:=h
    simp only[Wx] at h
    obtain⟨rfl,rfl,rfl⟩:=h
    have f:=c.obj id (by simp)
    rw[hH] at f
    obtain⟨y,k,l⟩:=sP (P:=P) (rowOf f hm hi).2 d
    exact aV.here (by simp[Instr.loadAt,Instr.sureAddr,k]) l
   .simp at h
  .simp at h
 .obtain⟨b,off,o,g,rfl⟩:=rV m
  simp only[WB] at h
  obtain⟨v',d,h⟩:=h
  simp only[Wx] at h
  obtain⟨rfl,rfl,rfl⟩:=h
  obtain⟨y,k,l⟩:=sP (P:=P) g d
  exact aV.here (by simp[Instr.loadAt,Instr.sureAddr,k]) l
 .simp at h
theorem vG {t:TypeId} {i:TypeInfo} (h:P.info? t=some i):P.cellsOf t=i.size:=by simp[Program.cellsOf,h]
theorem Tx {cs:List V} {xs:List Value} (h:fO Z μ w.heap cs xs) (b:cs.all aE=true):∀ x∈xs,x.oneCell'=true:=by
 intro x c
 obtain⟨i,hi,rfl⟩:=Yd c
 have a:i < cs.length:=h.1 ▸ hi
 have:=h.2 i a
 simp only[Wo,Wp hi,Wp a,WJ] at this
 exact uQ this (WU.1 b _ (WA _))
theorem P0 {t:TypeId} {a b:V} {x y:Value} (h:qv P t a b H=some (v,eff,rd)) (l:aw Z μ w.heap a x) (m:aw Z μ w.heap b y) (c:Ctx Z μ w.heap H rd n eff) :
  aV Z μ w n v eff ((do Instr.storeAt t x y;pure Next.skip:Sem Next).run P w):=by
 unfold qv at h
 split at h
 .rename_i id i j
  obtain⟨k,o0,s,hm,rfl⟩:=mY l
  split at h
  .rename_i esz es hH
   split at h
   .rename_i o
    obtain⟨hi,hlen,p,f,d⟩:=o
    simp only[Wu,Wx] at h
    obtain⟨rfl,rfl,rfl⟩:=h
    have e:=c.obj id (by simp)
    rw[hH] at e
    have q:=(e k o0 s hm).1
    subst q
    have hr:=gH m f
    obtain⟨w',h1,r,u,z,A⟩:=e.store (P:=P) hm (c.gR _ _ _ _ hm) c.cw hi p hr (Tx hr f)
    obtain⟨ti,g⟩:=Option.isSome_iff_exists.1 d
    refine aV.skip ?_ r ⟨k,o0,s,hm,rfl,u,z,A⟩
    have:y.cells.size=ti.size:=by rw[<-vG g,<-hlen,hr.1];simp
    simp[Instr.storeAt,Instr.sureAddr,storeVar,dx g,this,h1]
   .simp at h
  .simp at h
 .simp at h
theorem JN {cs:List V} {x:Value} {t:TypeId} (h:lU cs n=some (v,eff,rd)) (hr:cs.all aE=true->fO Z μ w.heap cs x.cells.toList) (c:Ctx Z μ w.heap H rd n eff) :
  aV Z μ w n v eff ((do pure (Next.value (.pointer (some (<-newVar t x)))):Sem Next).run P w):=by
 unfold lU at h
 split at h
 .rename_i b
  simp only[Wu,Wx] at h
  obtain⟨rfl,rfl,rfl⟩:=h
  have hr:=hr b
  refine⟨.value (.pointer (some ⟨w.heap.size,0,none⟩)),w.alloc (.cells x.cells t),μ.set n (w.heap.size,0,cs.length),by simp[newVar,newRow],.inl ⟨_,rfl,?_⟩,ir _ _,?_⟩
  .have:=aw.ptr (Z:=Z) (μ:=μ.set n (w.heap.size,0,cs.length)) (hp:=(w.alloc (.cells x.cells t)).heap) n 0 0 w.heap.size 0 cs.length (by simp[Mu.set])
   simpa using this
  .refine⟨w.heap.size,0,cs.length,Wz _,by rw[heap_alloc];simp,rfl,eN _ _,?_⟩
   refine dS.newRow c.new c.cw (by rw[hr.1];simp) (λi hi=>by simp at hi;subst hi;simp) (λi j hi d=>?_)
   simp at hi;subst hi
   have a:j < x.cells.size:=by have:=hr.1;simp at this;omega
   refine⟨x.cells[j],by simp[a],?_⟩
   have:=hr.2 j d
   simpa [Wo,a] using this
 .simp at h
theorem uh {t:TypeId} {f off s:Nat} {b:TypeId} (h:pA P t f=some (off,s,b)) :
  ∃ a x i,P.underlying t=some (.struct a)/\a[f]?=some x/\P.info? x.type=some i/\off=x.offset/\s=i.size/\b=x.type:=by
 unfold pA at h
 split at h
 .rename_i a hu
  split at h
  .rename_i x c
   split at h
   .rename_i i hi
    simp only[Wu,Wx] at h
    exact⟨a,x,i,hu,c,hi,h.1.symm,h.2.1.symm,h.2.2.symm⟩
   .simp at h
  .simp at h
 .simp at h
theorem FE {t:TypeId} {a:V} {x:Value} {f:Nat} (h:lC P t a f=some (v,eff,rd)) (l:aw Z μ w.heap a x) :
  aV Z μ w n v eff ((do pure (Next.value (<-Instr.fieldAt t x f)):Sem Next).run P w):=by
 unfold lC at h
 split at h
 .rename_i off s r g
  obtain⟨u,fd,i,hu,k,hi,rfl,rfl,rfl⟩:=uh g
  split at h
  .simp at h
  .rename_i m
   have c:∀ b o,(Instr.fieldAt t (.pointer (some ⟨b,o,none⟩)) f).run P w=.ok (.pointer (some ⟨b,o+fd.offset,none⟩)) w:=by
    intro b o
    simp[Instr.fieldAt,bh hu,k,Instr.sureAddr,fieldPlace,dx hi,m,jI]
   split at h
   .rename_i id p j
    obtain⟨b,o0,esz,hm,rfl⟩:=mY l
    simp only[Wu,Wx] at h
    obtain⟨rfl,rfl,rfl⟩:=h
    refine aV.here (c _ _) ?_
    have:=aw.ptr (Z:=Z) (μ:=μ) (hp:=w.heap) id p (j+fd.offset) b o0 esz hm
    simpa [W7] using this
   .rename_i e j
    obtain⟨b,off,q,d,rfl⟩:=rV l
    simp only[Wu,Wx] at h
    obtain⟨rfl,rfl,rfl⟩:=h
    refine aV.here (c _ _) ?_
    have:=zH (w:=w) (j:=j+fd.offset) q d
    simpa [W7] using this
   .simp at h
 .simp at h
theorem Sz {t:TypeId} {cs:List V} {a:Array Value} {off:Nat} (h:pJ P t cs off=some v) (h1:cs.length=a.size) (e:∀ i,i < cs.length->aw Z μ w.heap (cs.getD i .any) (a.getD i undef)) :
  ∃ x,(part t a off).run P w=.ok x w/\aw Z μ w.heap v x:=by
 unfold pJ at h
 cases hi:P.info? t with
 | none=>simp[hi] at h
 | some i =>
  cases c:rC P t with
  | none=>simp[hi,c] at h
  | some g =>
   simp only[hi,c] at h
   cases g with
   | true =>
    simp only at h
    split at h
    .rename_i hle
     simp at h;subst h
     refine⟨.agg (a.extract off (off+i.size)),by simp[part,sK c,dx hi],?_⟩
     refine .agg _ _ (by simp;omega) (λk hk=>?_)
     have d:k < i.size:=by simp at hk;omega
     have:=e (off+k) (by omega)
     simp only[Wo,WE,XI,XJ,d,if_true,Array.getElem?_extract] at this ⊢
     rw[Wv (by omega)]
     exact this
    .simp at h
   | false =>
    simp only at h
    split at h
    .rename_i hle
     simp at h;subst h
     have:=e off hle
     have b:off < a.size:=h1 ▸ hle
     refine⟨a[off],by simp[part,sK c,b],?_⟩
     simpa [Wo,WE,b] using this
    .simp at h
theorem N4 {t:TypeId} {a:V} {x:Value} {f:Nat} (h:ui P t a f=some (v,eff,rd)) (e:aw Z μ w.heap a x) :
  aV Z μ w n v eff ((do pure (Next.value (<-Instr.field t x f)):Sem Next).run P w):=by
 unfold ui at h
 split at h
 .rename_i off s m cs b
  obtain⟨o,fd,i,hu,c,hi,rfl,rfl,rfl⟩:=uh b
  simp only[WB] at h
  obtain⟨v',d,h⟩:=h
  simp only[Wx] at h
  obtain⟨rfl,rfl,rfl⟩:=h
  cases e with
  | agg _ g h1 j =>
   obtain⟨y,k,l⟩:=Sz (P:=P) d h1 j
   exact aV.here (by simp[Instr.field,bh hu,c,asAgg,k]) l
 .simp at h
theorem ln {a:V} {q:Nat} (h:asNat a=some q):∃ k,a=.val (.int k q):=by
 unfold asNat at h
 split at h
 .rename_i k z
  split at h
  .simp at h
   exact⟨k,by rw[<-h];congr 2;omega⟩
  .simp at h
 .simp at h
theorem er {y x:Value} (h:aw Z μ w.heap (.val y) x):x=y:=by cases h;rfl
theorem FL {t:TypeId} {a i:V} {x y:Value} (h:lx P t a i=some (v,eff,rd)) (r:aw Z μ w.heap a x) (s:aw Z μ w.heap i y) :
  aV Z μ w n v eff ((do pure (Next.value (<-Instr.indexAt t x y)):Sem Next).run P w):=by
 unfold lx at h
 split at h
 .simp at h
 .rename_i q B
  obtain⟨k,rfl⟩:=ln B
  have s:=er s
  subst s
  split at h
  .rename_i e hu
   split at h
   .simp at h
   .rename_i ti g
    split at h
    .rename_i id off len esz
     split at h
     .rename_i m
      obtain⟨d,rfl⟩:=m
      simp only[Wu,Wx] at h
      obtain⟨rfl,rfl,rfl⟩:=h
      cases r with
      | oB=>omega
      | sl _ _ _ _ b o0 cap c e' f hm hle D E =>
       refine aV.here (x:=.pointer (some ⟨b,o0+off * ti.size+q * ti.size,none⟩)) ?_ ?_
       .simp[Instr.indexAt,asIntOf,bh hu,dx g,jI,d]
       .have:=aw.ptr (Z:=Z) (μ:=μ) (hp:=w.heap) id (off+q) 0 b o0 ti.size hm
        simpa [Xf,W7] using this
     .simp at h
    .rename_i es
     split at h
     .rename_i m
      obtain⟨d,u⟩:=m
      simp only[Wu,Wx] at h
      obtain⟨rfl,rfl,rfl⟩:=h
      cases r with
      | iC=>simp at d
      | aL _ b off esz cap c z hle l m C =>
       have o:esz=ti.size:=(l q d).symm.trans u
       subst o
       refine aV.here (x:=.pointer (some ⟨b,off+q * ti.size+0,none⟩)) ?_ ?_
       .simp[Instr.indexAt,asIntOf,bh hu,dx g,jI,d]
       .exact zH z (λk hk=>⟨c q k,m q k d (by rw[l q d] at hk;exact hk),C q k d (by rw[l q d] at hk;exact hk)⟩)
     .simp at h
    .simp at h
  .rename_i len e hu
   split at h
   .simp at h
   .rename_i ti g
    split at h
    .rename_i d
     split at h
     .rename_i id A j
      obtain⟨b,o0,esz,hm,rfl⟩:=mY r
      simp only[Wu,Wx] at h
      obtain⟨rfl,rfl,rfl⟩:=h
      refine aV.here (x:=.pointer (some ⟨b,o0+A * esz+j+q * ti.size,none⟩)) ?_ ?_
      .simp[Instr.indexAt,Instr.sureAddr,asIntOf,bh hu,dx g,jI,d]
      .have:=aw.ptr (Z:=Z) (μ:=μ) (hp:=w.heap) id A (j+q * ti.size) b o0 esz hm
       simpa [W7] using this
     .rename_i e' j
      obtain⟨b,off,z,p,rfl⟩:=rV r
      simp only[Wu,Wx] at h
      obtain⟨rfl,rfl,rfl⟩:=h
      refine aV.here (x:=.pointer (some ⟨b,off+j+q * ti.size,none⟩)) ?_ ?_
      .simp[Instr.indexAt,Instr.sureAddr,asIntOf,bh hu,dx g,jI,d]
      .have:=zH (w:=w) (j:=j+q * ti.size) z p
       simpa [W7] using this
     .simp at h
    .simp at h
  .simp at h
end
section
variable {Z:Nat->Prop} {μ μ':Mu} {w w':World} {P:Program} {H:View} {n:Nat} {v:V} {eff:aS} {rd:List Nat}
def yS (Z:Nat->Prop) (μ:Mu) (hp:Array Obj):Option V->Option Value->Prop
 | none,none=>True
 | some v,some x=>aw Z μ hp v x
 | _,_=>False
theorem fX {o:Option V} {a:Option Value} {d q:Nat} (h:bound d o=some q) (b:yS Z μ w.heap o a):(a=none/\q=d)∨∃ k,a=some (.int k q):=by
 cases o with
 | none=>cases a with
  | none=>simp[bound] at h;exact .inl ⟨rfl,h.symm⟩
  | some x=>exact b.elim
 | some v=>cases a with
  | none=>exact b.elim
  | some x =>
   obtain⟨k,rfl⟩:=ln h
   exact .inr ⟨k,by rw[er b]⟩
theorem dP {a:V} {x:Value} {m:Nat} (h:aw Z μ w.heap a x) (hm:cT a=some m):∃ ad cap,x=.slice ad m cap/\m<=cap:=by
 cases h with
 | emp k a=>simp[cT] at hm;subst hm;exact⟨_,_,rfl,Wz _⟩
 | dM a cap=>simp[cT] at hm;subst hm;exact⟨_,_,rfl,XT _⟩
 | iC a cap=>simp[cT] at hm;subst hm;exact⟨_,_,rfl,XT _⟩
 | aL es b off esz cap c i hle d j l=>simp[cT] at hm;subst hm;exact⟨_,_,rfl,hle⟩
 | oB id off esz a=>simp[cT] at hm;subst hm;exact⟨_,_,rfl,Wz _⟩
 | sl id off len esz b o0 cap c e f g hle n o=>simp[cT] at hm;subst hm;exact⟨_,_,rfl,hle⟩
 | _=>simp[cT] at hm
theorem oA {len cap l h:Nat} {lo hi:Option Value} (a:(lo=none/\l=0)∨∃ k,lo=some (.int k l)) (b:(hi=none/\h=len)∨∃ k,hi=some (.int k h)) (h1:l<=h) (c:h<=cap) :
  (Instr.sliceBounds true len cap lo hi none).run P w=.ok (l,h,cap) w:=by
 rcases a with ⟨rfl,rfl⟩ | ⟨k,rfl⟩ <;> rcases b with ⟨rfl,rfl⟩ | ⟨d,rfl⟩ <;> simp[Instr.sliceBounds,Instr.sliceBound,asIntOf,h1,c]
theorem P7 {t:TypeId} {a:V} {x:Value} {lo hi O:Option V} {s u y:Option Value} (h:r5 P t a lo hi O=some (v,eff,rd)) (A:aw Z μ w.heap a x)
  (z:yS Z μ w.heap lo s) (q:yS Z μ w.heap hi u) (C:yS Z μ w.heap O y) :
  aV Z μ w n v eff ((do pure (Next.value (<-Instr.sliceAt t x s u y)):Sem Next).run P w):=by
 unfold r5 at h
 cases hu:cr P t with
 | none=>simp[hu] at h
 | some e =>
  have E:P.underlying t=some (.slice e):=by
   unfold cr at hu;split at hu <;> simp_all
  cases D:P.info? e with
  | none=>simp[hu,D] at h
  | some ti =>
   simp only[hu,D] at h
   have g:∀ ad len cap l r m,(Instr.sliceBounds true len cap s u y).run P w=.ok (l,r,m) w ->
     (Instr.sliceAt t (.slice ad len cap) s u y).run P w=.ok (.slice (if m=l then ad else ad.map (·.add (l * ti.size))) (r - l) (m - l)) w:=by
    intro ad len cap l r m Q
    simp[Instr.sliceAt,Instr.slice,bh E,Q,dx D]
   cases O with
   | some m =>
    cases y with
    | none=>exact C.elim
    | some m' =>
     simp only at h
     split at h
     .rename_i o p R
      split at h
      .simp at h
      .rename_i F
       obtain⟨k3,rfl⟩:=ln R
       have S:=er C
       subst S
       have G:∀ len cap,(Instr.sliceBounds true len cap s u (some (.int k3 ((0:Nat):Int)))).run P w=.ok (0,0,0) w:=by
        intro len cap
        rcases fX o z with ⟨rfl,_⟩ | ⟨k,rfl⟩ <;> rcases fX p q with ⟨rfl,_⟩ | ⟨k',rfl⟩
        .cases hi with
         | none=>simp at F
         | some _=>exact q.elim
        .simp[Instr.sliceBounds,Instr.sliceBound,asIntOf]
        .cases hi with
         | none=>simp at F
         | some _=>exact q.elim
        .simp[Instr.sliceBounds,Instr.sliceBound,asIntOf]
       have fin:∀ ad len cap,aw Z μ w.heap a (.slice ad len cap)->x=.slice ad len cap->aV Z μ w n (.emp 0) .none ((do pure (Next.value (<-Instr.sliceAt t x s u (some (.int k3 ((0:Nat):Int))))):Sem Next).run P w):=by
        intro ad len cap _ d
        subst d
        refine aV.here (g ad len cap 0 0 0 (G len cap)) ?_
        simpa using aw.emp (Z:=Z) (μ:=μ) (hp:=w.heap) 0 ad (by simp) (by simp)
       split at h
       .simp only[Wu,Wx] at h
        obtain⟨rfl,rfl,rfl⟩:=h
        obtain⟨ad,cap,d,_⟩:=dP A rfl
        exact fin _ _ _ (d ▸ A) d
       .simp only[Wu,Wx] at h
        obtain⟨rfl,rfl,rfl⟩:=h
        obtain⟨ad,cap,d,_⟩:=dP A rfl
        exact fin _ _ _ (d ▸ A) d
       .simp only[Wu,Wx] at h
        obtain⟨rfl,rfl,rfl⟩:=h
        obtain⟨ad,cap,d,_⟩:=dP A rfl
        exact fin _ _ _ (d ▸ A) d
       .simp only[Wu,Wx] at h
        obtain⟨rfl,rfl,rfl⟩:=h
        obtain⟨ad,cap,d,_⟩:=dP A rfl
        exact fin _ _ _ (d ▸ A) d
       .simp at h
     .simp at h
   | none =>
    cases y with
    | some _=>exact C.elim
    | none =>
     simp only at h
     split at h
     .rename_i id off len esz
      split at h
      .rename_i l r o p
       split at h
       .rename_i T
        obtain⟨h1,N,rfl⟩:=T
        simp only[Wu,Wx] at h
        obtain⟨rfl,rfl,rfl⟩:=h
        cases A with
        | oB _ _ _ ad =>
         obtain rfl:l=0:=by omega
         obtain rfl:r=0:=by omega
         refine aV.here (g ad 0 0 0 0 0 (oA (fX o z) (fX p q) (by omega) (by omega))) ?_
         simpa using aw.oB (Z:=Z) (μ:=μ) (hp:=w.heap) id (off+0) ti.size ad
        | sl _ _ _ _ b o0 cap c e' f hm hle Q hs =>
         refine aV.here (g _ len cap l r cap (oA (fX o z) (fX p q) h1 (by omega))) ?_
         by_cases H:cap=l
         .have e1:r - l=0:=by omega
          have e2:cap - l=0:=by omega
          rw[Wv H,e1,e2]
          exact aw.oB _ _ _ _
         .rw[Ws H]
          simp only[WL,jI]
          have:=aw.sl (Z:=Z) (μ:=μ) (hp:=w.heap) id (off+l) (r - l) ti.size b o0 (cap - l) c e' f hm (by omega) Q (by rw[show off+l+(cap - l)=off+cap from by omega];exact hs)
          simpa [Xf,W7] using this
       .simp at h
      .simp at h
     .rename_i es
      split at h
      .rename_i l r o p
       split at h
       .rename_i T
        obtain⟨h1,N,I⟩:=T
        simp only[Wu,Wx] at h
        obtain⟨rfl,rfl,rfl⟩:=h
        cases A with
        | iC ad cap U =>
         simp at N
         obtain rfl:r=0:=by omega
         obtain rfl:l=0:=by omega
         refine aV.here (g ad 0 cap 0 0 cap (oA (fX o z) (fX p q) (by omega) (by omega))) ?_
         refine aw.iC _ _ (λhn=>?_)
         by_cases J:cap=0
         .omega
         .rw[Ws J] at hn
          cases ad with
          | none=>exact absurd (U rfl) J
          | some a=>simp at hn
        | aL _ b off esz cap c hz hle K W hv =>
         refine aV.here (g _ es.length cap l r cap (oA (fX o z) (fX p q) h1 (by omega))) ?_
         by_cases X:l=r
         .subst X
          simpa using aw.iC (Z:=Z) (μ:=μ) (hp:=w.heap) (if cap=l then some ⟨b,off,none⟩ else some (Addr.add ⟨b,off,none⟩ (l * ti.size))) (cap - l) (by split <;> simp)
         .have L:0 < es.length:=by omega
          have M:esz=ti.size:=by
           have h0:=K 0 L
           have:=WU.1 I (es[0]) (WA _)
           simp at this
           simp[Wo,L] at h0
           omega
          subst M
          rw[Ws (by omega)]
          simp only[WL,jI]
          have hlen:((es.drop l).take (r - l)).length=r - l:=by simp;omega
          have B:∀ i,i < r - l->((es.drop l).take (r - l)).getD i []=es.getD (l+i) []:=by
           intro i hi
           simp[Wo,XI,hi]
          have:=aw.aL (Z:=Z) (μ:=μ) (hp:=w.heap) ((es.drop l).take (r - l)) b (off+l * ti.size) ti.size (cap - l) (λi j=>c (l+i) j) hz (by omega)
           (λi hi=>by rw[hlen] at hi;rw[B i hi];exact K _ (by omega))
           (λi j hi Y=>by
            rw[hlen] at hi
            have:=W (l+i) j (by omega) Y
            rw[Xf] at this
            rw[<-this];congr 1;omega)
           (λi j hi Y=>by rw[hlen] at hi;rw[B i hi];exact hv _ _ (by omega) Y)
          rw[hlen] at this
          exact this
       .simp at h
      .simp at h
     .split at h
      .rename_i o p
       simp only[Wu,Wx] at h
       obtain⟨rfl,rfl,rfl⟩:=h
       cases A with
       | emp _ ad h1 N =>
        refine aV.here (g ad 0 0 0 0 0 (oA (fX o z) (fX p q) (by omega) (by omega))) ?_
        simpa using aw.emp (Z:=Z) (μ:=μ) (hp:=w.heap) _ ad h1 N
      .simp at h
     .simp at h
theorem wrap_small {q:Nat} (h:q < aD):IntKind.i64.wrap (q:Int)=q:=by
 unfold aD at h
 exact IntWalk.i64_in _ (by omega)
theorem iV {t:TypeId} {i:TypeInfo} {z:List V} (hi:P.info? t=some i) (h:zeroCells P t=some z):∃ a,i.zero=some a/\z=(fA a).cells:=by
 unfold zeroCells at h
 simp only[hi] at h
 cases b:i.zero with
 | none=>simp[b] at h
 | some a=>simp[b] at h;exact⟨a,rfl,h.symm⟩
theorem fU {i j s l:Nat} (hi:i < l) (a:j < s):i * s+j < l * s:=by
 have:(i+1) * s<=l * s:=Xd _ hi
 rw[Xf] at this;omega
theorem FM {t:TypeId} {a b:V} {x y:Value} (h:lP P t a b n=some (v,eff,rd)) (C:aw Z μ w.heap a x) (D:aw Z μ w.heap b y) (c:Ctx Z μ w.heap H rd n eff) :
  aV Z μ w n v eff ((do pure (Next.value (<-Instr.makeSlice t x y)):Sem Next).run P w):=by
 unfold lP at h
 cases hu:cr P t with
 | none=>simp[hu] at h
 | some e =>
  have r:P.underlying t=some (.slice e):=by
   unfold cr at hu;split at hu <;> simp_all
  cases d:P.info? e with
  | none=>simp[hu,d] at h
  | some ti =>
   simp only[hu,d] at h
   split at h
   .rename_i l f N O
    obtain⟨Q,rfl⟩:=ln N
    obtain⟨k2,rfl⟩:=ln O
    have C:=er C
    have D:=er D
    subst C D
    split at h
    .rename_i m
     obtain⟨h1,R,S⟩:=m
     have T:IntKind.i64.wrap (l:Int)=l:=wrap_small (by omega)
     have U:IntKind.i64.wrap (f:Int)=f:=wrap_small R
     have g1:¬ (((ti.bytes:Int) * (f:Int)) > 2 ^ 48):=by
      have:((ti.bytes * f:Nat):Int) < 2 ^ 48:=by unfold aD at S;omega
      push_cast at this;omega
     have k:∀ s:Array Value,(f * ti.size=0/\s = #[])∨(f * ti.size≠0/\∃ g,(zeroValue e).run P w=.ok g w/\s=g.cells) ->
       (Instr.makeSlice t (.int Q (l:Int)) (.int k2 (f:Int))).run P w=.ok (.slice (some ⟨w.heap.size,0,none⟩) l f) (w.alloc (.cells ((Array.range (f * ti.size)).map (s[· % s.size]!)) e)):=by
      intro s E
      have g2:¬ ((f:Int) < 0):=by omega
      have g3:¬ ((l:Int) < 0):=by omega
      have g4:¬ ((l:Int) > (f:Int)):=by omega
      simp only[Instr.makeSlice,Sem.run_bind,bh r,Result.andThen_ok,asInt,asIntOf,Sem.run_pure,pw d,T,U]
      simp only[g1,g2,g3,g4,decide_false,Bool.or_false,YA,WR,if_false,Sem.run_bind,run_askRoom,Result.andThen_ok,dx d,W8]
      rcases E with ⟨o,rfl⟩ | ⟨o,g,p,rfl⟩
      .simp[o,newRow,dx d]
      .simp[o,newRow,dx d,p]
     split at h
     .rename_i F
      subst F
      simp only[Wu,Wx] at h
      obtain⟨rfl,rfl,rfl⟩:=h
      obtain rfl:l=0:=by omega
      exact aV.value (k #[] (.inl ⟨by simp,rfl⟩)) (.emp 2 _ (by simp) (by simp)) (ir _ _) ⟨rfl,eN _ _⟩
     .split at h
      .simp at h
      .rename_i L W
       split at h
       .simp at h
       .rename_i z E
        split at h
        .rename_i G
         obtain⟨q,u⟩:=G
         simp only[Wu,Wx] at h
         obtain⟨rfl,rfl,rfl⟩:=h
         obtain⟨g,p,rfl⟩:=iV d E
         have hr:=gH (gK (Z:=Z) (μ:=μ) (w:=w) g) u
         have I:g.cells.size=ti.size:=by rw[<-q,hr.1];simp
         have M:(Array.range (f * ti.size)).size=f * ti.size:=by simp
         have A:f * ti.size≠0:=by
          intro o;rcases Nat.mul_eq_zero.1 o with o | o <;> contradiction
         refine aV.value (μ':=μ.set n (w.heap.size,0,ti.size)) (k g.cells (.inr ⟨A,g,kb d p w,rfl⟩)) ?_ (ir _ _) ?_
         .have:=aw.sl (Z:=Z) (μ:=μ.set n (w.heap.size,0,ti.size)) (hp:=(w.alloc (.cells ((Array.range (f * ti.size)).map (g.cells[· % g.cells.size]!)) e)).heap) n 0 l ti.size w.heap.size 0 f _ e (0,0) (by simp[Mu.set]) h1 (by rw[heap_alloc];simp;rfl) (by simp)
          simpa using this
         .refine⟨w.heap.size,0,ti.size,Wz _,by rw[heap_alloc];simp,rfl,eN _ _,?_⟩
          refine dS.newRow c.new c.cw ?_ ?_ ?_
          .simp;exact Xd _ h1
          .intro i hi;simp at hi;simp[Wo,hi,q]
          .intro i j hi J
           simp at hi
           have K:i * ti.size+j < f * ti.size:=fU (by omega) J
           have B:(i * ti.size+j) % ti.size=j:=by
            rw[Nat.mul_comm,Nat.mul_add_mod];exact Nat.mod_eq_of_lt J
           refine⟨g.cells[j]'(by omega),?_,?_⟩
           .simp[K,I,B,getElem!_pos g.cells j (by omega)]
           .have:=hr.2 j (by rw[q];exact J)
            simpa [Wo,hi,show j < g.cells.size from by omega] using this
        .simp at h
    .simp at h
   .simp at h
end
section
variable {Z:Nat->Prop} {μ μ':Mu} {w w':World} {P:Program} {H:View} {n:Nat} {v:V} {eff:aS} {rd:List Nat}
structure Flat (Z:Nat->Prop) (μ:Mu) (hp:Array Obj) (size:Nat) (xs:List (List V)) (fl:Array Value):Prop where
 len:fl.size=xs.length * size
 rel:∀ i j,i < xs.length->j < size->aw Z μ hp ((xs.getD i []).getD j .any) (fl.getD (i * size+j) undef)
theorem uK {b off size N:Nat} {c:Nat->Nat->Value} (h:∀ i j,i < N->j < size->cellAt w.heap b (off+i * size+j)=some (c i j)) {m:Nat} (hm:m<=N) :
  (loadCells ⟨b,off,none⟩ (m * size)).run P w=.ok ((((List.range (N * size)).map λk=>c (k / size) (k % size)).toArray).extract 0 (m * size)) w:=by
 have hle:m * size<=N * size:=Xd _ hm
 rw[run_loadCells w ⟨b,off,none⟩ (m * size) (λk=>c (k / size) (k % size)) (λk hk=>?_)]
 .congr 1
  apply Array.ext_getElem?
  intro k
  simp only[Xg,Array.getElem?_extract,Ww,List.getElem?_range']
  by_cases hk:k < m * size
  .simp[hk,show k < N * size from by omega,Nat.min_eq_left hm]
  .simp[hk,Nat.min_eq_left hm]
 .have d:0 < size:=by
   rcases Nat.eq_zero_or_pos size with a | a
   .subst a;simp at hk
   .exact a
  have h1:k / size < m:=(Nat.div_lt_iff_lt_mul d).2 hk
  have e:k % size < size:=Nat.mod_lt _ d
  rw[jI,iz,<-h (k / size) (k % size) (by omega) e]
  congr 1
  have:=Nat.div_add_mod k size
  rw[Nat.mul_comm] at this
  omega
theorem EE {size N:Nat} {c:Nat->Nat->Value} {xs:List (List V)} (d:xs.length=N) (h:∀ i j,i < N->j < size->aw Z μ w.heap ((xs.getD i []).getD j .any) (c i j)) :
  Flat Z μ w.heap size xs ((List.range (N * size)).map λk=>c (k / size) (k % size)).toArray:=by
 refine⟨by simp[d],λi j hi a=>?_⟩
 have b:i * size+j < N * size:=fU (by omega) a
 have h1:(i * size+j) / size=i:=by
  rw[Nat.mul_comm,Nat.mul_add_div (by omega),Nat.div_eq_of_lt a];simp
 have e:(i * size+j) % size=j:=by
  rw[Nat.mul_comm,Nat.mul_add_mod];exact Nat.mod_eq_of_lt a
 simpa [WE,b,h1,e] using h i j (by omega) a
theorem rn {ad:Option Addr} {cap size m:Nat} (hm:m<=0):(Builtin.firstCells size m (.slice ad 0 cap)).run P w=.ok ((#[]:Array Value).extract 0 (m * size)) w:=by
 obtain rfl:m=0:=by omega
 cases ad with
 | none=>simp[Builtin.firstCells]
 | some a=>simp[Builtin.firstCells,loadCells,loadCellsFrom]
theorem bsize (s:ByteArray):s.data.toList.length=s.size:=by rw[Array.length_toList];rfl
theorem pj {x:V} {C:Value} {xs:List (List V)} {size:Nat} (h:bD H x=some (xs,rd)) (d:aw Z μ w.heap x C) (u:∀ id,id∈rd->dS Z μ w.heap id (H id))
  (r:∀ e∈xs,e.length=size) :
  ∃ v,Flat Z μ w.heap size xs v/\(Builtin.lenOf C).run P w=.ok xs.length w/\∀ m,m<=xs.length->(Builtin.firstCells size m C).run P w=.ok (v.extract 0 (m * size)) w:=by
 have nil:∀ (ad:Option Addr) cap,∃ v,Flat Z μ w.heap size [] v/\(Builtin.lenOf (.slice ad 0 cap)).run P w=.ok ([]:List (List V)).length w /\
   ∀ m,m<=([]:List (List V)).length->(Builtin.firstCells size m (.slice ad 0 cap)).run P w=.ok (v.extract 0 (m * size)) w :=
  λad cap=>⟨#[],⟨by simp,λi j hi=>by simp at hi⟩,by simp[Builtin.lenOf],λm hm=>rn (by simpa using hm)⟩
 unfold bD at h
 split at h
 .simp only[Wu,Wx] at h
  obtain⟨rfl,rfl⟩:=h
  obtain⟨ad,cap,rfl,_⟩:=dP d rfl
  exact nil ad cap
 .simp only[Wu,Wx] at h
  obtain⟨rfl,rfl⟩:=h
  obtain⟨ad,cap,rfl,_⟩:=dP d rfl
  exact nil ad cap
 .rename_i es
  simp only[Wu,Wx] at h
  obtain⟨rfl,rfl⟩:=h
  cases d with
  | iC a cap=>exact nil a cap
  | aL _ b off esz cap c R hle D M y =>
   by_cases k:es=[]
   .subst k;exact nil _ cap
   .have t:0 < es.length:=Yx.2 k
    have:esz=size:=by
     have h1:=D 0 t
     have E:=r es[0] (WA _)
     simp[Wo,t] at h1
     omega
    subst this
    exact⟨_,EE rfl y,by simp[Builtin.lenOf],λm hm=>uK M hm⟩
 .simp only[Wu,Wx] at h
  obtain⟨rfl,rfl⟩:=h
  obtain⟨ad,cap,rfl,_⟩:=dP d rfl
  exact nil ad cap
 .rename_i id off len esz hlen
  split at h
  .rename_i J es hH
   split at h
   .rename_i hle
    simp only[Wu,Wx] at h
    obtain⟨rfl,rfl⟩:=h
    cases d with
    | oB=>exact(hlen rfl).elim
    | sl _ _ _ _ b o0 cap c e' f hm K S T =>
     have z:=u id (by simp)
     rw[hH] at z
     obtain⟨rfl,_,N,O⟩:=z b o0 esz hm
     have g:((es.drop off).take len).length=len:=by simp;omega
     have l:∀ i,i < len->((es.drop off).take len).getD i []=es.getD (off+i) []:=by
      intro i hi;simp[Wo,XI,hi]
     have A:0 < len:=by
      rcases Nat.eq_zero_or_pos len with t | t
      .exact(hlen t).elim
      .exact t
     have:esz=size:=by
      have h1:=N off (by omega)
      have E:=r (((es.drop off).take len)[0]'(by omega)) (WA _)
      have L:=l 0 A
      simp only[Wo,Wp (show 0 < ((es.drop off).take len).length by omega),WJ] at L
      rw[L] at E
      simp only[Wo,XW] at h1 E
      omega
     subst this
     have d:∀ i,∃ ci:Nat->Value,∀ j,j < esz->i < len->cellAt w.heap b (o0+off * esz+i * esz+j)=some (ci j)/\aw Z μ w.heap ((((es.drop off).take len).getD i []).getD j .any) (ci j):=by
      intro i
      by_cases hi:i < len
      .obtain⟨ci,F⟩:=nG (n:=esz) (p:=λj x=>cellAt w.heap b (o0+off * esz+i * esz+j)=some x/\aw Z μ w.heap ((((es.drop off).take len).getD i []).getD j .any) x) (λj o=>by
        obtain⟨x,d,y⟩:=O (off+i) j (by omega) o
        rw[Xf,<-W7] at d
        exact⟨x,d,by rw[l i hi];exact y⟩)
       exact⟨ci,λj o _=>F j o⟩
      .exact⟨λ_=>undef,λj _ h=>absurd h hi⟩
     obtain⟨Q,B⟩:=Classical.axiomOfChoice d
     refine⟨_,EE (c:=Q) g (λi j hi o=>(B i j o hi).2),by simp[Builtin.lenOf];omega,λm hm=>?_⟩
     rw[g] at hm
     exact uK (λi j hi o=>(B i j o hi).1) hm
   .simp at h
  .simp at h
 .rename_i s
  simp only[Wu,Wx] at h
  obtain⟨rfl,rfl⟩:=h
  have y:=er d
  subst y
  have q:(s.data.toList.map λb=>([V.val (Value.int .u8 b.toNat)]:List V)).length=s.size:=by rw[WG,bsize]
  have hlen:(Builtin.lenOf (.string s)).run P w=.ok s.size w:=rfl
  by_cases G:s.size=0
  .refine⟨#[],⟨by rw[q,G];simp,λi j hi=>by rw[q] at hi;omega⟩,by rw[q];exact hlen,λm hm=>?_⟩
   rw[q] at hm
   obtain rfl:m=0:=by omega
   have:(s.extract 0 0).data = #[]:=by rw[ByteArray.data_extract];simp
   simp[Builtin.firstCells,this]
  .have:size=1:=by
    have k:0 < s.data.toList.length:=by rw[bsize];omega
    have:=r [V.val (Value.int .u8 (s.data.toList[0]).toNat)] (WQ.2 ⟨_,WA k,rfl⟩)
    simpa using this.symm
   subst this
   refine⟨s.data.map λb=>.int .u8 b.toNat,⟨by rw[q,Array.size_map,YB];rfl,λi j hi o=>?_⟩,by rw[q];exact hlen,λm hm=>?_⟩
   .obtain rfl:j=0:=by omega
    have I:i < s.data.size:=by rw[q] at hi;exact hi
    simp only[Wo,WE,Ww,Yk,Array.getElem?_map,YB,XW,WM I,WL,WJ,WX]
    exact aw.val _ rfl
   .rw[q] at hm
    simp only[Builtin.firstCells,Sem.run_pure,YB]
    congr 1
    rw[ByteArray.data_extract,Array.map_extract]
 .simp at h
theorem O1 {size:Nat} {xs:List (List V)} {b:Array Value} (h:Flat Z μ w.heap size xs b) (m:Nat) (hm:m<=xs.length):Flat Z μ w.heap size (xs.take m) (b.extract 0 (m * size)):=by
 have hle:m * size<=xs.length * size:=Xd _ hm
 have e:(b.extract 0 (m * size)).size=m * size:=by rw[Array.size_extract,h.len];omega
 refine⟨by rw[e,XD,Nat.min_eq_left hm],λi j hi c=>?_⟩
 have a:i < m:=by simp at hi;omega
 have:=h.rel i j (by omega) c
 have f:i * size+j < m * size:=fU a c
 have d:i * size+j < b.size:=by rw[h.len];omega
 simp only[Wo,WE,XI,a,if_true,Array.getElem?_extract] at this ⊢
 rw[Wv (by omega),Xk]
 exact this
theorem A8 {size:Nat} {xs:List (List V)} {d:Array Value} (h:Flat Z μ w.heap size xs d) (j:∀ e∈xs,e.length=size) (f:∀ e∈xs,e.all aE=true):∀ x∈d.toList,x.oneCell'=true:=by
 intro x l
 obtain⟨k,hk,rfl⟩:=Yd l
 have c:k < xs.length * size:=by rw[<-h.len];simpa using hk
 have a:0 < size:=by
  rcases Nat.eq_zero_or_pos size with g | g
  .subst g;simp at c
  .exact g
 have h1:k / size < xs.length:=(Nat.div_lt_iff_lt_mul a).2 c
 have m:k % size < size:=Nat.mod_lt _ a
 have:=h.rel (k / size) (k % size) h1 m
 have e:k / size * size+k % size=k:=by rw[Nat.mul_comm];exact Nat.div_add_mod k size
 rw[e] at this
 have i:k < d.size:=by simpa using hk
 simp only[WE,WM i,WJ] at this
 have b:xs[k / size]∈xs:=WA _
 have hlen:=j _ b
 simp only[Wo,Wp h1,WJ,Wp (show k % size < (xs[k / size]).length by omega)] at this
 have:=uQ this (WU.1 (f _ b) _ (WA _))
 simpa using this
theorem uc {b off:Nat} {c:Array Value} {e:TypeId} {f:Nat × Nat} (d:w.heap[b]?=some (.cells c e f)) (g:∀ k,k < c.size->¬ (f.1<=k/\k < f.2)) (xs:List Value)
  (l:off+xs.length<=c.size) (h:∀ x∈xs,x.oneCell'=true) :
  ∃ a,(storeCells ⟨b,off,none⟩ xs).run P w=.ok () { w with heap:=w.heap.setIfInBounds b (.cells a e f) }/\a.size=c.size /\
   ∀ k,cellAt (w.heap.setIfInBounds b (.cells a e f)) b k=if off<=k/\k < off+xs.length then xs[k - off]? else cellAt w.heap b k:=by
 obtain⟨a,h1,i,j⟩:=kR (P:=P) (b:=b) (off:=off) (e:=e) (f:=f) xs 0 c w d g (by omega) h
 refine⟨a,h1,i,λk=>?_⟩
 have:=j k
 simp only[XW] at this
 simp only[cellAt,ec (eM d),d]
 exact this
theorem Fh:aD=70368744177664:=by decide
theorem Ja {t0 t1 e:TypeId} {ti:TypeInfo} {a:Array TypeId} {ty:TypeId} {base:Option Addr} {sLen sCap m:Nat} {l:Value} {old new u:Array Value}
  (n:a[0]?=some t0) (o:a[1]?=some t1) (b:oe P t1=true) (c:P.underlying t0=some (.slice e)) (f:P.info? e=some ti)
  (x:(Builtin.lenOf l).run P w=.ok m w) (p:sCap < sLen+m) (y:(sLen+m) * ti.bytes < aD) (z:sLen+m < aD)
  (A:∀ w',∃ q,(zeroValue e).run P w'=.ok q w'/\q.cells=u)
  (B:(Builtin.firstCells ti.size sLen (.slice base sLen sCap)).run P w.drew=.ok old w.drew) (C:(Builtin.firstCells ti.size m l).run P w.drew=.ok new w.drew) :
  ∃ cap,sLen+m<=cap/\(Builtin.append_ a ty #[.slice base sLen sCap,l]).run P w =
   .ok (.slice (some ⟨w.heap.size,0,none⟩) (sLen+m) cap) (w.drew.alloc (.cells (old ++ new ++ Builtin.zeroCells u (cap - (sLen+m))) e)):=by
 have hint:∃ d,P.underlying t1=some d/\∀ k,d≠.int k:=by
  unfold oe at b
  cases hu:P.underlying t1 with
  | none=>simp[hu] at b
  | some d=>refine⟨d,rfl,λk e=>?_⟩;subst e;simp[hu] at b
 obtain⟨d,D,r⟩:=hint
 have v:=Fh
 have g:=growslice_fits p (show (sLen+m) * ti.bytes<=140737488355328 by omega)
 have h:¬ (((sLen+m:Nat):Int) > IntKind.i64.max):=by
  have:IntKind.i64.max=9223372036854775807:=by decide
  rw[this];omega
 have i:¬ (Builtin.nextslicecap (sLen+m) sCap * ti.bytes > 2 ^ 48):=by
  have:(2:Nat) ^ 48=281474976710656:=by decide
  rw[this];exact Nat.not_lt.2 g
 obtain⟨q,s,t⟩:=A w.drew
 refine⟨Question.cut (.appendCap (sLen+m) sCap e) (w.tape w.drawn (.appendCap (sLen+m) sCap e)),Nat.le_add_right _ _,?_⟩
 have j:Question.forced (.appendCap (sLen+m) sCap e)=false:=rfl
 subst t
 cases d with
 | int k=>exact absurd rfl (r k)
 | _ =>
 simp only[Builtin.append_,Xg,WX,Xl,n,o,Sem.run_bind,bh c,Result.andThen_ok,dx f,bh D,Sem.run_pure,WR,if_false,x,Bool.not_false,if_true]
 rw[Ws (by omega)]
 simp only[h,false_and,if_false,Sem.run_bind,pw f,Result.andThen_ok,Sem.run_ite,Sem.run_pure,i,run_choose,j,WR,World.drew_eq,run_askRoom,B,C,s,newRow,run_newObj,World.alloc_eq]
 rfl
end
end Gv
