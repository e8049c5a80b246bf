/-
  Part 1 of the proof: what the machine does and what the functions answer.
  Conditions: those that each lemma names.
-/
import Derived.WalkKit
set_option linter.unusedSimpArgs false
set_option linter.unusedVariables false
set_option maxRecDepth 100000
set_option maxHeartbeats 20000000
namespace Gv
open Go
theorem U5:type_of% @List.getD_eq_getElem?_getD:=@List.getD_eq_getElem?_getD
theorem U6:type_of% @List.getElem?_eq_getElem:=@List.getElem?_eq_getElem
theorem U7:type_of% @Option.some.injEq:=@Option.some.injEq
theorem U8:type_of% @if_neg:=@if_neg
theorem U9:type_of% @List.getElem?_map:=@List.getElem?_map
theorem Va:type_of% @if_pos:=@if_pos
theorem Vb:type_of% @Prod.mk.injEq:=@Prod.mk.injEq
theorem Vc:type_of% @List.mem_of_getElem?:=@List.mem_of_getElem?
theorem Vd:type_of% @Bool.and_eq_true:=@Bool.and_eq_true
theorem Ve:type_of% @Option.map_some:=@Option.map_some
theorem Vf:type_of% @List.getElem?_eq_some_iff:=@List.getElem?_eq_some_iff
theorem Vg:type_of% @List.getElem_mem:=@List.getElem_mem
theorem Vh:type_of% @Nat.le_refl:=@Nat.le_refl
theorem Vi:type_of% @Array.getD_eq_getD_getElem?:=@Array.getD_eq_getD_getElem?
theorem Vj:type_of% @decide_eq_true_eq:=@decide_eq_true_eq
theorem Vk:type_of% @Option.map_eq_some_iff:=@Option.map_eq_some_iff
theorem Vl:type_of% @List.length_map:=@List.length_map
theorem Vm:type_of% @List.length_cons:=@List.length_cons
theorem Vn:type_of% @List.take_of_length_le:=@List.take_of_length_le
theorem Vo:type_of% @Option.getD_some:=@Option.getD_some
theorem Vp:type_of% @Array.getElem?_eq_getElem:=@Array.getElem?_eq_getElem
theorem Vq:type_of% @List.mem_cons:=@List.mem_cons
theorem Vr:type_of% @List.all_eq_true:=@List.all_eq_true
theorem Vs:type_of% @List.take_add_one:=@List.take_add_one
theorem Vt:type_of% @List.mem_cons_of_mem:=@List.mem_cons_of_mem
theorem Vu:type_of% @List.getElem?_cons_zero:=@List.getElem?_cons_zero
theorem Vv:type_of% @List.mem_map:=@List.mem_map
theorem Vw:type_of% @Nat.lt_or_ge:=@Nat.lt_or_ge
theorem Vx:type_of% @List.getElem?_eq_none:=@List.getElem?_eq_none
theorem Vy:type_of% @List.length_nil:=@List.length_nil
theorem Vz:type_of% @List.map_append:=@List.map_append
theorem VA:type_of% @List.drop_eq_nil_of_le:=@List.drop_eq_nil_of_le
theorem VB:type_of% @Nat.lt_of_lt_of_le:=@Nat.lt_of_lt_of_le
theorem VC:type_of% @List.foldl_cons:=@List.foldl_cons
theorem VD:type_of% @Int.toNat_natCast:=@Int.toNat_natCast
theorem VE:type_of% @Bool.false_eq_true:=@Bool.false_eq_true
theorem VF:type_of% @List.map_cons:=@List.map_cons
theorem VG:type_of% @List.getElem?_append_left:=@List.getElem?_append_left
theorem VH:type_of% @Nat.mul_le_mul_right:=@Nat.mul_le_mul_right
theorem VI:type_of% @Option.bind_some:=@Option.bind_some
theorem VJ:type_of% @List.getElem_cons_zero:=@List.getElem_cons_zero
theorem VK:type_of% @List.mem_append:=@List.mem_append
theorem VL:type_of% @List.drop_eq_getElem_cons:=@List.drop_eq_getElem_cons
theorem VM:type_of% @BitVec.getLsbD_or:=@BitVec.getLsbD_or
theorem VN:type_of% @List.getElem_cons_succ:=@List.getElem_cons_succ
theorem VO:type_of% @Nat.add_mul:=@Nat.add_mul
theorem VP:type_of% @Bool.or_eq_true:=@Bool.or_eq_true
theorem VQ:type_of% @List.getElem?_append_right:=@List.getElem?_append_right
theorem VR:type_of% @List.append_assoc:=@List.append_assoc
theorem VS:type_of% @List.length_take:=@List.length_take
theorem VT:type_of% @congrArg:=@congrArg
theorem VU:type_of% @Nat.le_trans:=@Nat.le_trans
theorem VV:type_of% @List.mem_filter:=@List.mem_filter
theorem VW:type_of% @List.getElem?_cons_succ:=@List.getElem?_cons_succ
theorem VX:type_of% @List.getElem?_toArray:=@List.getElem?_toArray
theorem VY:type_of% @List.length_filter_le:=@List.length_filter_le
theorem VZ:type_of% @List.cons_append:=@List.cons_append
theorem V0:type_of% @Array.getElem?_setIfInBounds:=@Array.getElem?_setIfInBounds
theorem V1:type_of% @Bool.eq_iff_iff:=@Bool.eq_iff_iff
theorem V2:type_of% @Nat.zero_add:=@Nat.zero_add
theorem V3:type_of% @Bool.true_and:=@Bool.true_and
theorem V4:type_of% @List.mem_iff_getElem:=@List.mem_iff_getElem
theorem V5:type_of% @List.eraseIdx_cons_succ:=@List.eraseIdx_cons_succ
theorem V6:type_of% @List.eraseIdx_cons_zero:=@List.eraseIdx_cons_zero
theorem V7:type_of% @List.mem_zipIdx_iff_getElem?:=@List.mem_zipIdx_iff_getElem?
theorem V8:type_of% @beq_iff_eq:=@beq_iff_eq
theorem V9:type_of% @List.nodup_cons:=@List.nodup_cons
theorem Wa:type_of% @List.mem_range:=@List.mem_range
theorem Wb:type_of% @List.all_cons:=@List.all_cons
theorem Wc:type_of% @List.getD_cons_zero:=@List.getD_cons_zero
theorem Wd:type_of% @List.range_succ:=@List.range_succ
theorem We:type_of% @Nat.zero_le:=@Nat.zero_le
theorem Wf:type_of% @List.length_append:=@List.length_append
theorem Wg:type_of% @List.map_nil:=@List.map_nil
theorem Wh:type_of% @List.mem_singleton:=@List.mem_singleton
theorem Wi:type_of% @List.getElem_of_mem:=@List.getElem_of_mem
theorem Wj:type_of% @BitVec.getLsbD_twoPow:=@BitVec.getLsbD_twoPow
theorem Wk:type_of% @List.getElem?_set:=@List.getElem?_set
theorem Wl:type_of% @List.foldl_append:=@List.foldl_append
theorem Wm:type_of% @List.drop_zero:=@List.drop_zero
theorem Wn:type_of% @decide_eq_true:=@decide_eq_true
theorem Wo:type_of% @List.getElem?_take:=@List.getElem?_take
theorem Wp:type_of% @List.nil_append:=@List.nil_append
theorem Ws:type_of% @List.pairwise_cons:=@List.pairwise_cons
theorem Wu:type_of% @Classical.byContradiction:=@Classical.byContradiction
theorem Wv:type_of% @Decidable.byContradiction:=@Decidable.byContradiction
theorem Ww:type_of% @List.filterMap_cons:=@List.filterMap_cons
theorem Wx:type_of% @List.size_toArray:=@List.size_toArray
theorem Wy:type_of% @List.mem_cons_self:=@List.mem_cons_self
theorem Wz:type_of% @List.mem_filterMap:=@List.mem_filterMap
theorem WA:type_of% @decide_eq_false_iff_not:=@decide_eq_false_iff_not
theorem WB:type_of% @List.length_eq_zero_iff:=@List.length_eq_zero_iff
theorem WC:type_of% @List.any_eq_true:=@List.any_eq_true
theorem WD:type_of% @List.perm_middle:=@List.perm_middle
theorem WE:type_of% @Array.getElem?_append_left:=@Array.getElem?_append_left
theorem WG:type_of% @Array.getElem?_eq_none:=@Array.getElem?_eq_none
theorem WH:type_of% @List.append_nil:=@List.append_nil
theorem WI:type_of% @List.take_append_of_le_length:=@List.take_append_of_le_length
theorem WJ:type_of% @List.take_length:=@List.take_length
theorem WK:type_of% @Bool.false_and:=@Bool.false_and
theorem WL:type_of% @List.foldl_nil:=@List.foldl_nil
theorem WM:type_of% @Array.replicate_succ:=@Array.replicate_succ
theorem WN:type_of% @Array.replicate_zero:=@Array.replicate_zero
theorem WO:type_of% @of_decide_eq_true:=@of_decide_eq_true
theorem WQ:type_of% @Array.getElem?_push:=@Array.getElem?_push
theorem WR:type_of% @List.length_pos_iff:=@List.length_pos_iff
theorem WS:type_of% @List.getElem?_range:=@List.getElem?_range
theorem WT:type_of% @List.append_toArray:=@List.append_toArray
theorem WU:type_of% @List.getElem?_set_self:=@List.getElem?_set_self
theorem WV:type_of% @Nat.add_assoc:=@Nat.add_assoc
theorem WW:type_of% @List.nodup_iff_pairwise_ne:=@List.nodup_iff_pairwise_ne
theorem WX:type_of% @List.perm_append_singleton:=@List.perm_append_singleton
theorem WY:type_of% @List.getElem?_drop:=@List.getElem?_drop
theorem WZ:type_of% @Nat.add_zero:=@Nat.add_zero
theorem W4:type_of% @List.mem_of_mem_take:=@List.mem_of_mem_take
theorem W5:type_of% @List.push_toArray:=@List.push_toArray
theorem W6:type_of% @List.getD_cons_succ:=@List.getD_cons_succ
theorem W7:type_of% @Bool.and_false:=@Bool.and_false
theorem W8:type_of% @Nat.min_eq_left:=@Nat.min_eq_left
theorem W9:type_of% @Option.some.inj:=@Option.some.inj
theorem Xa:type_of% @Bool.false_or:=@Bool.false_or
theorem Xb:type_of% @Bool.not_true:=@Bool.not_true
theorem Xc:type_of% @Bool.not_eq_true':=@Bool.not_eq_true'
theorem Xd:type_of% @List.pairwise_map:=@List.pairwise_map
theorem Xe:type_of% @bne_iff_ne:=@bne_iff_ne
inductive V where
 | any
 | val (v:Value)
 | emp (k:Nat)
 | er
 | aS (es:List (List V))
 | sl (id off len esz:Nat)
 | ptr (id i j:Nat)
 | aF (e:List V) (j:Nat)
 | mp (id:Nat)
 | fn (f:FuncId) (first cap:List V)
 | agg (cs:List V)
 | bm (vs:List V)
 deriving Inhabited
inductive bT where
 | dead
 | arr (esz:Nat) (es:List (List V))
 | map (es:List (V × V × Nat)) (clock:Nat)
 | wm (s:ByteArray) (pos:Nat)
 deriving Inhabited
abbrev aB:=List bT
abbrev View:=Nat->bT
def aB.view (h:aB):View:=λid=>h.getD id .dead
inductive bk where
 | none
 | new (o:bT)
 | fj (id:Nat) (o:bT)
 | ee (id:Nat) (o:bT)
def bk.fresh (free:Prop):bk->Prop
 | .new _ | .ee _ _=>free
 | _=>True
def bk.apply (h:aB):bk->aB
 | .none=>h
 | .new o=>h ++ [o]
 | .fj id o=>h.set id o
 | .ee id o=>h.set id .dead ++ [o]
def plain:Value->Bool
 | .bool _ | .int _ _ | .float _ _ | .complex _ _ _ | .string _ | .pointer none | .map none | .nilFunc | .nilIface=>true
 | _=>false
def nT:Value->V
 | .slice none 0 0=>.emp 1
 | .slice _ _ _=>.any
 | v=>if plain v then .val v else .any
def fe:Value->V
 | .agg cs=>.agg (cs.toList.map nT)
 | .func (.func f) a b=>if a.size=0/\b.size=0 then .fn f [] [] else .any
 | v=>nT v
def toCell:V->Option Value
 | .val v=>some v
 | _=>none
def uU:List V->Option (List Value)
 | []=>some []
 | v :: r=>match toCell v,uU r with
  | some x,some y=>some (x :: y)
  | _,_=>none
def c7:V->Option Value
 | .val v=>some v
 | .agg cs=>(uU cs).map λl=>.agg l.toArray
 | _=>none
def V.cells:V->List V
 | .agg cs=>cs
 | v=>[v]
def aJ:V->Bool
 | .any | .agg _ | .bm _=>false
 | _=>true
def bq {α:Type} (P:Program):Sem α->Option α
 | .pure a=>some a
 | .program k=>bq P (k P)
 | _=>none
abbrev Env:=Nat->V
def Env.put (T:Env) (d:Option Nat) (v:V):Env:=match d with
 | some d=>λt=>if t=d then v else T t
 | none=>T
def ev (T:Env):Operand->V
 | .tmp t=>T t
 | .const v=>fe v
 | .global _=>.any
 | .func f=>.fn f [] []
def cR (P:Program) (t:TypeId):Option TypeId:=match P.underlying t with
 | some (.slice e)=>some e
 | _=>none
def zeroCells (P:Program) (t:TypeId):Option (List V):=match P.info? t with
 | some i=>match i.zero with
  | some v=>some (fe v).cells
  | none=>none
 | none=>none
def pg (P:Program) (t:TypeId) (f:Nat):Option (Nat × Nat × TypeId):=match P.underlying t with
 | some (.struct fs)=>match fs[f]? with
  | some x=>match P.info? x.type with
   | some i=>some (x.offset,i.size,x.type)
   | none=>none
  | none=>none
 | _=>none
def asNat:V->Option Nat
 | .val (.int _ q)=>if 0<=q then some q.toNat else none
 | _=>none
def rB (P:Program) (t:TypeId):Option Bool:=match P.underlying t with
 | some (.struct _) | some (.array _ _)=>some true
 | some _=>some false
 | none=>none
def pJ (P:Program) (t:TypeId) (cs:List V) (off:Nat):Option V:=match P.info? t,rB P t with
 | some i,some true=>if off+i.size<=cs.length then some (.agg ((cs.drop off).take i.size)) else none
 | some _,some false=>if off < cs.length then some (cs.getD off .any) else none
 | _,_=>none
def eZ (e:List V) (j:Nat) (cs:List V):List V:=e.take j ++ cs ++ e.drop (j+cs.length)
def cF (n:Nat):V:=.val (.int .i64 n)
def cm (H:View):V->Option (List (List V) × List Nat)
 | .emp _ | .er=>some ([],[])
 | .aS es=>some (es,[])
 | .sl _ _ 0 _=>some ([],[])
 | .sl id off len _=>match H id with
  | .arr _ es=>if off+len<=es.length then some ((es.drop off).take len,[id]) else none
  | _=>none
 | .val (.string s)=>some (s.data.toList.map λb=>[.val (.int .u8 b.toNat)],[])
 | _=>none
def aD:Nat:=2 ^ 46
def qq:List (List V)->Option (List UInt8)
 | []=>some []
 | [.val (.int .u8 n)] :: r=>(qq r).map (UInt8.ofNat n.toNat :: ·)
 | _=>none
def gM:List (V × V × Nat)->Option (List MapEntry)
 | []=>some []
 | (k,_,b) :: r=>match c7 k,gM r with
  | some x,some y=>some ({ key:=x,val:=.nilFunc,born:=b } :: y)
  | _,_=>none
def lW (P:Program) (kt:TypeId) (k:V) (empty:Bool) (es:List (V × V × Nat)):Option (Option Nat):=match c7 k,gM es with
 | some x,some l=>match bq P (Instr.checkKey empty 10000 kt x >>= λ_=>Instr.findKey kt x l) with
  | some (some (i,_))=>some (some i)
  | some none=>some none
  | none=>none
 | _,_=>none
def dS (P:Program) (t:TypeId):Option (TypeId × TypeId):=match P.underlying t with
 | some (.map k e)=>some (k,e)
 | _=>none
def zeroV (P:Program) (t:TypeId):Option V:=match P.info? t with
 | some i=>match i.zero with
  | some v=>some (fe v)
  | none=>none
 | none=>none
abbrev Out:=Option (V × bk × List Nat)
def l0 (P:Program) (t:TypeId) (a:V) (H:View):Out:=match a with
 | .ptr id i j=>match H id with
  | .arr _ es=>if i < es.length then (pJ P t (es.getD i []) j).map λv=>(v,.none,[id]) else none
  | _=>none
 | .aF e j=>(pJ P t e j).map λv=>(v,.none,[])
 | _=>none
def qo (P:Program) (t:TypeId) (a v:V) (H:View):Out:=match a with
 | .ptr id i j=>match H id with
  | .arr esz es =>
   if i < es.length/\v.cells.length=P.cellsOf t/\j+v.cells.length<=esz/\v.cells.all aJ=true/\(P.info? t).isSome=true
   then some (.any,.fj id (.arr esz (es.set i (eZ (es.getD i []) j v.cells))),[id]) else none
  | _=>none
 | _=>none
def lp (cs:List V) (n:Nat):Out :=
 if cs.all aJ=true then some (.ptr n 0 0,.new (.arr cs.length [cs]),[]) else none
def kN (size:Nat):List (List V)->List (Nat × V)->Option (List (List V))
 | es,[]=>some es
 | es,(i,x) :: r=>if x.cells.length=size/\i < es.length/\x.cells.all aJ=true then kN size (es.set i x.cells) r else none
def gR (P:Program) (t:TypeId) (len:Nat) (parts:List (Nat × V)) (n:Nat):Out:=match cR P t with
 | none=>none
 | some e=>match P.info? e with
  | none=>none
  | some i =>
   if len * i.size > 2 ^ 24 then none
   else if len=0 then (if parts.isEmpty then some (.emp 2,.none,[]) else none)
   else if i.size=0 then none
   else match zeroCells P e with
    | none=>none
    | some z=>if z.length=i.size/\z.all aJ=true then
      match kN i.size (List.replicate len z) parts with
      | some es=>some (.sl n 0 len i.size,.new (.arr i.size es),[])
      | none=>none
     else none
def vX (place:Nat->Option (Nat × Nat)):List V->List (Nat × V)->Option (List V)
 | cs,[]=>some cs
 | cs,(i,x) :: r=>match place i with
  | none=>none
  | some (off,size)=>if x.cells.length=size/\off+size<=cs.length/\x.cells.all aJ=true then vX place (eZ cs off x.cells) r else none
def placeOf (P:Program) (t:TypeId) (i:Nat):Option (Nat × Nat):=(pg P t i).map λ(a,b,_)=>(a,b)
def lB (P:Program) (t:TypeId):Bool:=match P.underlying t with
 | some (.struct fs)=>fs.toList.all λf=>(P.info? f.type).isSome
 | _=>false
def uy (P:Program) (t:TypeId) (parts:List (Nat × V)):Out:=match P.underlying t,zeroV P t with
 | some (.struct _),some (.agg z)=>if lB P t=true then (vX (placeOf P t) z parts).map λcs=>(.agg cs,.none,[]) else none
 | _,_=>none
def kH (P:Program) (t:TypeId) (x:V) (f:Nat):Out:=match pg P t f with
 | some (off,s,_)=>if s=0 then none else match x with
  | .ptr id i j=>some (.ptr id i (j+off),.none,[])
  | .aF e j=>some (.aF e (j+off),.none,[])
  | _=>none
 | none=>none
def uH (P:Program) (t:TypeId) (x:V) (f:Nat):Out:=match pg P t f,x with
 | some (off,_,ft),.agg cs=>(pJ P ft cs off).map λv=>(v,.none,[])
 | _,_=>none
def kX (P:Program) (t:TypeId) (x i:V):Out:=match asNat i with
 | none=>none
 | some q=>match P.underlying t with
  | some (.slice e)=>match P.info? e with
   | none=>none
   | some ti=>match x with
    | .sl id off len esz=>if q < len/\esz=ti.size then some (.ptr id (off+q) 0,.none,[]) else none
    | .aS es=>if q < es.length/\(es.getD q []).length=ti.size then some (.aF (es.getD q []) 0,.none,[]) else none
    | _=>none
  | some (.array len e)=>match P.info? e with
   | none=>none
   | some ti=>if q < len then match x with
    | .ptr id i j=>some (.ptr id i (j+q * ti.size),.none,[])
    | .aF e j=>some (.aF e (j+q * ti.size),.none,[])
    | _=>none
    else none
  | _=>none
def bound (d:Nat):Option V->Option Nat
 | none=>some d
 | some v=>asNat v
def rR (P:Program) (t:TypeId) (x:V) (lo hi mx:Option V):Out:=match cR P t with
 | none=>none
 | some e=>match P.info? e with
  | none=>none
  | some ti=>match mx with
   | some m=>match bound 0 lo,bound 0 hi,asNat m with
    | some 0,some 0,some 0=>if hi.isNone then none else match x with
     | .sl _ _ _ _ | .aS _ | .emp _ | .er=>some (.emp 0,.none,[])
     | _=>none
    | _,_,_=>none
   | none=>match x with
    | .sl id off len esz=>match bound 0 lo,bound len hi with
     | some l,some h=>if l<=h/\h<=len/\esz=ti.size then some (.sl id (off+l) (h - l) esz,.none,[]) else none
     | _,_=>none
    | .aS es=>match bound 0 lo,bound es.length hi with
     | some l,some h=>if l<=h/\h<=es.length/\(es.all λe=>e.length == ti.size)=true then some (.aS ((es.drop l).take (h - l)),.none,[]) else none
     | _,_=>none
    | .emp k=>match bound 0 lo,bound 0 hi with
     | some 0,some 0=>some (.emp k,.none,[])
     | _,_=>none
    | _=>none
def kG (P:Program) (t:TypeId) (len cap:V) (n:Nat):Out:=match cR P t with
 | none=>none
 | some e=>match P.info? e with
  | none=>none
  | some ti=>match asNat len,asNat cap with
   | some l,some c =>
    if l<=c/\c < aD/\ti.bytes * c < aD then
     (
      if c=0 then some (.emp 2,.none,[])
      else if ti.size=0 then none
      else match zeroCells P e with
       | none=>none
       | some z=>if z.length=ti.size/\z.all aJ=true then some (.sl n 0 l ti.size,.new (.arr ti.size (List.replicate l z)),[]) else none)
    else none
   | _,_=>none
def mP (P:Program) (at0:TypeId) (s x:V) (H:View) (n:Nat):Out:=match cR P at0,cm H x with
 | some e,some (xs,rd)=>match P.info? e with
  | none=>none
  | some ti =>
   if xs.isEmpty then (match s with
    | .emp _ | .er | .aS _ | .sl _ _ _ _=>some (s,.none,[])
    | _=>none)
   else if ti.size=0∨¬ ((zeroCells P e).map List.length=some ti.size)∨¬ ((xs.all λe=>e.length == ti.size && e.all aJ)=true) then none
   else match s with
    | .emp _=>if xs.length * ti.bytes < aD/\xs.length < aD then some (.sl n 0 xs.length ti.size,.new (.arr ti.size xs),rd) else none
    | .sl id off len esz=>match H id with
     | .arr _ es =>
      if off+len<=es.length/\esz=ti.size/\(len+xs.length) * ti.bytes < aD/\len+xs.length < aD
      then some (.sl n 0 (len+xs.length) esz,.ee id (.arr esz ((es.drop off).take len ++ xs)),id :: rd) else none
     | _=>none
    | _=>none
 | _,_=>none
def FA (P:Program) (at0:TypeId) (x:V):Out:=match cR P at0,x with
 | some _,.emp _=>some (cF 0,.none,[])
 | _,_=>none
def wH (P:Program) (at0:TypeId) (s x:V) (n:Nat):Out:=match cR P at0,asNat x,s with
 | some e,some l,.emp k=>match P.info? e,zeroCells P e with
  | some ti,some z=>if l=0 then some (.emp k,.none,[]) else if z.length=ti.size/\z.all aJ=true/\ti.size≠0/\l * ti.bytes < aD/\l < aD then some (.sl n 0 l ti.size,.new (.arr ti.size (List.replicate l z)),[]) else none
  | _,_=>none
 | _,_,_=>none
def mg:List (List V)->Nat->List (List V)->List (List V)
 | es,_,[]=>es
 | es,i,x :: r=>mg (es.set i x) (i+1) r
def dH:V->Option Nat
 | .emp _ | .er=>some 0
 | .aS es=>some es.length
 | .sl _ _ len _=>some len
 | _=>none
def Cw (P:Program) (at0:TypeId) (d x:V) (H:View):Out:=match cR P at0,cm H x,dH d with
 | some e,some (xs,rd),some dl=>match P.info? e with
  | none=>none
  | some ti =>
   if (xs.take dl).isEmpty then some (cF 0,.none,[])
   else match d with
    | .sl id off len esz=>match H id with
     | .arr _ es =>
      if off+len<=es.length/\esz=ti.size/\ti.size≠0/\((xs.all λe=>e.length == ti.size && e.all aJ)=true)
      then some (cF (xs.take dl).length,.fj id (.arr esz (mg es off (xs.take dl))),id :: rd) else none
     | _=>none
    | _=>none
 | _,_,_=>none
def yH (P:Program) (at0:TypeId) (d:V) (H:View):Out:=match cR P at0,dH d with
 | some e,some dl=>if dl=0 then some (.bm [],.none,[]) else match d,P.info? e,zeroCells P e with
  | .sl id off len esz,some ti,some z=>match H id with
   | .arr _ es=>if off+len<=es.length/\esz=ti.size/\ti.size≠0/\z.length=ti.size/\z.all aJ=true then some (.bm [],.fj id (.arr esz (mg es off (List.replicate len z))),[id]) else none
   | _=>none
  | _,_,_=>none
 | _,_=>none
def eN (P:Program) (t:TypeId) (m k:V) (ok:Bool) (H:View):Out:=match dS P t with
 | none=>none
 | some (kt,et)=>match zeroV P et with
  | none=>none
  | some z =>
   let fin (v:V) (b:Bool) (rd:List Nat):Out:=some (if ok then .bm [v,.val (.bool b)] else v,.none,rd)
   match m with
   | .mp id=>match H id with
    | .map es _=>match lW P kt k es.isEmpty es with
     | some (some i)=>match es[i]? with
      | some (_,v,_)=>fin v true [id]
      | none=>none
     | some none=>fin z false [id]
     | none=>none
    | _=>none
   | _=>none
def sameKey (old new:V):Bool:=match c7 old,c7 new with
 | some a,some b=>Instr.sameBits 10000 a b
 | _,_=>false
def fN (P:Program) (t:TypeId) (m k v:V) (H:View):Out:=match dS P t,m with
 | some (kt,_),.mp id=>match H id with
  | .map es c=>match lW P kt k false es with
   | some (some i)=>match es[i]? with
    | some (k0,_,b)=>if sameKey k0 k=true then some (.any,.fj id (.map (es.set i (k,v,b)) c),[id]) else none
    | none=>none
   | some none=>some (.any,.fj id (.map (es ++ [(k,v,c)]) (c+1)),[id])
   | none=>none
  | _=>none
 | _,_=>none
def dP (P:Program) (t:TypeId) (m k:V) (H:View):Out:=match dS P t,m with
 | some (kt,et),.mp id=>match H id with
  | .map es c=>match lW P kt k false es with
   | some (some i)=>match es[i]? with
    | some (k0,v,b)=>if sameKey k0 k=true then some (.bm [v,cF b],.fj id (.map (es.set i (k,v,b)) c),[id]) else none
    | none=>none
   | some none=>match zeroV P et with
    | some z=>some (.bm [z,cF c],.fj id (.map (es ++ [(k,z,c)]) (c+1)),[id])
    | none=>none
   | none=>none
  | _=>none
 | _,_=>none
def jG (m s v:V) (H:View):Out:=match m,asNat s with
 | .mp id,some q=>match H id with
  | .map es c=>match es.findIdx? (λe=>e.2.2 == q) with
   | some i=>match es[i]? with
    | some (k,_,b)=>some (.any,.fj id (.map (es.set i (k,v,b)) c),[id])
    | none=>none
   | none=>none
  | _=>none
 | _,_=>none
def vd (P:Program) (t:TypeId) (m k:V) (H:View):Out:=match dS P t,m with
 | some (kt,_),.mp id=>match H id with
  | .map es c=>match lW P kt k es.isEmpty es with
   | some (some i)=>some (.any,.fj id (.map (es.eraseIdx i) c),[id])
   | some none=>some (.any,.none,[id])
   | none=>none
  | _=>none
 | _,_=>none
def tY (P:Program) (t:TypeId) (x:V) (H:View):Out:=match P.underlying t with
 | some (.slice _)=>(dH x).map λn=>(cF n,.none,[])
 | some (.map _ _)=>match x with
  | .mp id=>match H id with
   | .map es _=>some (cF es.length,.none,[id])
   | _=>none
  | .val (.map none)=>some (cF 0,.none,[])
  | _=>none
 | some .string=>match x with
  | .val (.string s)=>some (cF s.size,.none,[])
  | _=>none
 | some (.array n _)=>some (cF n,.none,[])
 | _=>none
def Bm (x:V) (H:View):Out:=match x with
 | .ptr id 0 0=>match H id with
  | .wm s pos =>
   if pos < s.size then
    some (.bm [.val (.bool true),cF pos,.val (.int .i32 (Utf8.decode s pos).1)],.fj id (.wm s (pos+(Utf8.decode s pos).2)),[id])
   else some (.bm [.val (.bool false)],.none,[id])
  | _=>none
 | _=>none
def fV (s:ByteArray):List (List V):=s.data.toList.map λb=>[.val (.int .u8 b.toNat)]
def j6 (P:Program) (s d:TypeId):Bool:=match P.underlying s,P.underlying d with
 | some (.slice _),_=>true
 | _,some (.slice _)=>true
 | _,_=>false
def ma (P:Program) (s d:TypeId) (x:V) (H:View) (n:Nat):Out:=match P.underlying s,P.underlying d,x with
 | some (.slice e),some .string,x=>match P.underlying e with
  | some (.int .u8)=>match cm H x,dH x with
   | some (xs,rd),some _=>(qq xs).map λl=>(.val (.string ⟨l.toArray⟩),.none,rd)
   | _,_=>none
  | _=>none
 | some .string,some (.slice e),.val (.string s)=>match P.underlying e with
  | some (.int .u8)=>some (.sl n 0 s.size 1,.new (.arr 1 (fV s)),[])
  | _=>none
 | some (.slice _),some (.slice e),.sl id off len esz=>if s=d/\len≠0 then (match P.underlying e with
  | some (.int .u8)=>match H id with
   | .arr z es=>some (.sl id off len esz,.fj id (.arr z es),[id])
   | _=>none
  | _=>none) else none
 | _,_,_=>none
def eK:Nat->V->Option Bool
 | 0,.emp 1=>some true
 | 0,.emp 2 | 0,.er=>some false
 | 0,.sl _ _ (_+1) _=>some false
 | 0,.aS (_ :: _)=>some false
 | 1,.ptr _ _ _ | 1,.aF _ _ | 2,.mp _ | 3,.fn _ _ _=>some false
 | 1,.val (.pointer none) | 2,.val (.map none) | 3,.val .nilFunc=>some true
 | _,_=>none
def jb (P:Program) (t:TypeId):Option Nat:=match P.underlying t with
 | some (.slice _)=>some 0
 | some (.pointer _)=>some 1
 | some (.map _ _)=>some 2
 | some (.func _ _ _)=>some 3
 | _=>none
def Dk (P:Program) (t:TypeId) (x y:V):Option Bool:=match jb P t with
 | some k=>match eK k x,eK k y with
  | some true,some b=>some b
  | some b,some true=>some b
  | _,_=>none
 | none=>none
def dy (P:Program) (o:Oper) (T:Env):Out :=
 if o.op.operands.all (λx=>(c7 (ev T x)).isSome)=true then
  match bq P (execOp (λx=>(c7 (ev T x)).getD undef) o) with
  | some (.value v)=>if plain v then some (.val v,.none,[]) else none
  | _=>none
 else none
def isStr (P:Program) (o:Op):Bool:=match o with
 | .range t _=>(match P.underlying t with | some .string=>true | _=>false)
 | _=>false
def pG (P:Program) (t:TypeId):Bool:=match P.underlying t with
 | some (.int _)=>false
 | some _=>true
 | none=>false
def isInt (P:Program) (t:TypeId):Bool:=match P.underlying t with
 | some (.int _)=>true
 | _=>false
def bZ (P:Program) (o:Oper) (T:Env) (H:View) (n:Nat):Out:=match o.op with
 | .move x | .assign x=>some (ev T x,.none,[])
 | .pick c a b=>match ev T c with
  | .val (.bool t)=>some (if t then ev T a else ev T b,.none,[])
  | _=>none
 | .alloc e=>match zeroCells P e with
  | some z=>lp z n
  | none=>none
 | .box _ x=>lp (ev T x).cells n
 | .build t parts=>uy P t (parts.toList.map λ(i,x)=>(i,ev T x))
 | .buildSlice t len parts=>gR P t len (parts.toList.map λ(i,x)=>(i,ev T x)) n
 | .load t a=>l0 P t (ev T a) H
 | .store t a v=>qo P t (ev T a) (ev T v) H
 | .nilCheck x=>match ev T x with
  | .ptr id i j=>some (.ptr id i j,.none,[])
  | .aF e j=>some (.aF e j,.none,[])
  | .fn f a b=>some (.fn f a b,.none,[])
  | _=>none
 | .fieldAddr t x f=>kH P t (ev T x) f
 | .field t x f=>uH P t (ev T x) f
 | .indexAddr t x i=>kX P t (ev T x) (ev T i)
 | .slice t x lo hi mx=>match ev T x with
  | .val _=>dy P o T
  | y=>rR P t y (lo.map (ev T)) (hi.map (ev T)) (mx.map (ev T))
 | .makeSlice t l c=>kG P t (ev T l) (ev T c) n
 | .makeMap _ r=>match r with
  | none=>some (.mp n,.new (.map [] 0),[])
  | some _=>none
 | .makeFunc (.func f) first cap=>some (.fn f (first.toList.map (ev T)) (cap.toList.map (ev T)),.none,[])
 | .lookup t m k ok=>eN P t (ev T m) (ev T k) ok H
 | .mapUpdate t m k v=>fN P t (ev T m) (ev T k) (ev T v) H
 | .insert t m k v=>fN P t (ev T m) (ev T k) (ev T v) H
 | .mapEntry t m k=>dP P t (ev T m) (ev T k) H
 | .entryStore _ m s v=>jG (ev T m) (ev T s) (ev T v) H
 | .extract t i=>match ev T t with
  | .bm vs=>if i < vs.length then some (vs.getD i .any,.none,[]) else none
  | _=>none
 | .range _ x=>match ev T x with
  | .val (.string s)=>if isStr P o.op=true then some (.ptr n 0 0,.new (.wm s 0),[]) else none
  | _=>none
 | .next it true=>Bm (ev T it) H
 | .convert s d x=>if j6 P s d=true then ma P s d (ev T x) H n else dy P o T
 | .call { callee:=.builtin b,args,argTypes }=>match b,args.toList with
  | .len,[x]=>if 1<=argTypes.size then tY P (argTypes.getD 0 0) (ev T x) H else none
  | .append,[s,x]=>if 2<=argTypes.size/\pG P (argTypes.getD 1 0)=true then mP P (argTypes.getD 0 0) (ev T s) (ev T x) H n else if 2<=argTypes.size/\isInt P (argTypes.getD 1 0)=true then wH P (argTypes.getD 0 0) (ev T s) (ev T x) n else none
  | .cap,[x]=>if 1<=argTypes.size then FA P (argTypes.getD 0 0) (ev T x) else none
  | .copy,[d,x]=>if 1<=argTypes.size then Cw P (argTypes.getD 0 0) (ev T d) (ev T x) H else none
  | .delete,[m,k]=>if 1<=argTypes.size then vd P (argTypes.getD 0 0) (ev T m) (ev T k) H else none
  | .clear,[d]=>if 1<=argTypes.size then yH P (argTypes.getD 0 0) (ev T d) H else none
  | .min,_ | .max,_ | .complex,_ | .real,_ | .imag,_=>dy P o T
  | _,_=>none
 | .binOp op t x y _=>if (jb P t).isSome=true then (match op,Dk P t (ev T x) (ev T y) with
   | .eql,some b=>some (.val (.bool b),.none,[])
   | .neq,some b=>some (.val (.bool (!b)),.none,[])
   | _,_=>none)
  else dy P o T
 | .unOp .. | .index ..=>dy P o T
 | _=>none
abbrev Mu:=Nat->Option (Nat × Nat × Nat)
def cellAt (hp:Array Obj) (b k:Nat):Option Value:=match hp[b]? with
 | some (.cells c _ _)=>c[k]?
 | _=>none
theorem ry (w:World) (b k:Nat):w.cell? ⟨b,k,none⟩=cellAt w.heap b k:=by
 simp only[World.cell?,cellAt]
 cases w.heap[b]? with
 | none=>rfl
 | some o=>cases o <;> simp
inductive ax (Z:Nat->Prop) (μ:Mu) (hp:Array Obj):V->Value->Prop
 | any (x:Value):ax Z μ hp .any x
 | val (v:Value):plain v=true->ax Z μ hp (.val v) v
 | emp (k:Nat) (a:Option Addr):(k=1->a=none)->(k=2->a≠none)->ax Z μ hp (.emp k) (.slice a 0 0)
 | er (a:Addr) (cap:Nat):ax Z μ hp .er (.slice (some a) 0 cap)
 | hU (a:Option Addr) (cap:Nat):(a=none->cap=0)->ax Z μ hp (.aS []) (.slice a 0 cap)
 | aS (es:List (List V)) (b off esz cap:Nat) (c:Nat->Nat->Value):Z b->es.length<=cap ->
  (∀ i,i < es.length->(es.getD i []).length=esz) ->
  (∀ i j,i < es.length->j < esz->cellAt hp b (off+i * esz+j)=some (c i j)) ->
  (∀ i j,i < es.length->j < esz->ax Z μ hp ((es.getD i []).getD j .any) (c i j)) ->
  ax Z μ hp (.aS es) (.slice (some ⟨b,off,none⟩) es.length cap)
 | qB (id off esz:Nat) (a:Option Addr):ax Z μ hp (.sl id off 0 esz) (.slice a 0 0)
 | sl (id off len esz b o0 cap:Nat) (c:Array Value) (e:TypeId) (f:Nat × Nat):μ id=some (b,o0,esz)->len<=cap ->
  hp[b]?=some (.cells c e f)->o0+(off+cap) * esz<=c.size ->
  ax Z μ hp (.sl id off len esz) (.slice (some ⟨b,o0+off * esz,none⟩) len cap)
 | ptr (id i j b o0 esz:Nat):μ id=some (b,o0,esz)->ax Z μ hp (.ptr id i j) (.pointer (some ⟨b,o0+i * esz+j,none⟩))
 | aF (e:List V) (j b off:Nat) (c:Nat->Value):Z b->(∀ k,k < e.length->cellAt hp b (off+k)=some (c k)) ->
  (∀ k,k < e.length->ax Z μ hp (e.getD k .any) (c k))->ax Z μ hp (.aF e j) (.pointer (some ⟨b,off+j,none⟩))
 | mp (id b o0 esz:Nat):μ id=some (b,o0,esz)->ax Z μ hp (.mp id) (.map (some b))
 | fn (f:FuncId) (xs ys:List V) (aas bs:Array Value):xs.length=aas.size->ys.length=bs.size ->
  (∀ i,i < xs.length->ax Z μ hp (xs.getD i .any) (aas.getD i undef))->(∀ i,i < ys.length->ax Z μ hp (ys.getD i .any) (bs.getD i undef)) ->
  ax Z μ hp (.fn f xs ys) (.func (.func f) aas bs)
 | agg (cs:List V) (aas:Array Value):cs.length=aas.size->(∀ i,i < cs.length->ax Z μ hp (cs.getD i .any) (aas.getD i undef))->ax Z μ hp (.agg cs) (.agg aas)
 | bm (cs:List V) (aas:Array Value):cs.length=aas.size->(∀ i,i < cs.length->ax Z μ hp (cs.getD i .any) (aas.getD i undef))->ax Z μ hp (.bm cs) (.tuple aas)
def gu (Z:Nat->Prop) (μ:Mu) (hp:Array Obj) (vs:List V) (xs:List Value):Prop :=
 vs.length=xs.length/\∀ i,i < vs.length->ax Z μ hp (vs.getD i .any) (xs.getD i undef)
def fk (hp hp':Array Obj):Prop:=∀ (b:Nat) (c:Array Value) (e:TypeId) (f:Nat × Nat),hp[b]?=some (.cells c e f)->∃ (c':Array Value) (f':Nat × Nat),hp'[b]?=some (.cells c' e f')/\c'.size=c.size
theorem fk.refl (hp:Array Obj):fk hp hp:=λ_ c _ f h=>⟨c,f,h,rfl⟩
theorem fk.trans {a b c:Array Obj} (h:fk a b) (k:fk b c):fk a c:=λi x e f d =>
 let ⟨c1,f1,h1,s1⟩:=h i x e f d
 let ⟨c2,f2,g,s2⟩:=k i c1 e f1 h1
 ⟨c2,f2,g,s2.trans s1⟩
structure gz (Z Z':Nat->Prop) (μ μ':Mu) (hp hp':Array Obj):Prop where
 z:∀ b,Z b->Z' b
 zz:∀ b,Z b->hp'[b]?=hp[b]?
 mu:∀ id x,μ id=some x->μ' id=some x
 shape:fk hp hp'
theorem gz.refl (Z:Nat->Prop) (μ:Mu) (hp:Array Obj):gz Z Z μ μ hp hp:=⟨λ_ h=>h,λ_ _=>rfl,λ_ _ h=>h,fk.refl _⟩
theorem gz.trans {Z f e:Nat->Prop} {μ μ' d:Mu} {a b c:Array Obj} (h:gz Z f μ μ' a b) (k:gz f e μ' d b c):gz Z e μ d a c :=
 ⟨λi hi=>k.z i (h.z i hi),λi hi=>(k.zz i (h.z i hi)).trans (h.zz i hi),λi x g=>k.mu i x (h.mu i x g),h.shape.trans k.shape⟩
theorem yA {hp a:Array Obj} {b:Nat} (h:a[b]?=hp[b]?) (k:Nat):cellAt a b k=cellAt hp b k:=by simp[cellAt,h]
theorem ax.mono {Z u:Nat->Prop} {μ μ':Mu} {hp l:Array Obj} (m:gz Z u μ μ' hp l) {v:V} {x:Value} (h:ax Z μ hp v x):ax u μ' l v x:=by
 induction h with
 | any x=>exact .any x
 | val v w=>exact .val v w
 | emp k a h1 o=>exact .emp k a h1 o
 | er a cap=>exact .er a cap
 | hU a cap h1=>exact .hU a cap h1
 | aS es b off esz cap c n hle p q _ g=>exact .aS es b off esz cap c (m.z _ n) hle p (λi j hi y=>by rw[yA (m.zz _ n)];exact q i j hi y) g
 | qB id off esz a=>exact .qB id off esz a
 | sl id off len esz b o0 cap c e f hm hle A F =>
  obtain⟨B,C,r,D⟩:=m.shape b c e f A
  exact .sl id off len esz b o0 cap B e C (m.mu _ _ hm) hle r (by omega)
 | ptr id i j b o0 esz hm=>exact .ptr id i j b o0 esz (m.mu _ _ hm)
 | aF e j b off c n q _ g=>exact .aF e j b off c (m.z _ n) (λk hk=>by rw[yA (m.zz _ n)];exact q k hk) g
 | mp id b o0 esz hm=>exact .mp id b o0 esz (m.mu _ _ hm)
 | fn f xs ys d E h1 o _ _ s t=>exact .fn f xs ys d E h1 o s t
 | agg cs d h1 _ g=>exact .agg cs d h1 g
 | bm cs d h1 _ g=>exact .bm cs d h1 g
def dR (Z:Nat->Prop) (μ:Mu) (hp:Array Obj) (id:Nat):bT->Prop
 | .dead=>True
 | .arr esz es=>∀ b o0 s,μ id=some (b,o0,s)->s=esz /\
  (∃ (c:Array Value) (e:TypeId) (f:Nat × Nat),hp[b]?=some (.cells c e f)/\(f.1=f.2∨c.size<=f.1)/\o0+es.length * esz<=c.size) /\
  (∀ i,i < es.length->(es.getD i []).length=esz) /\
  (∀ i j,i < es.length->j < esz->∃ x,cellAt hp b (o0+i * esz+j)=some x/\ax Z μ hp ((es.getD i []).getD j .any) x)
 | .map es clock=>∀ b o0 s,μ id=some (b,o0,s)->∃ a:Array MapEntry,hp[b]?=some (.map a clock)/\a.size=es.length /\
  ∀ i,i < es.length->∃ y,a[i]?=some y/\ax Z μ hp (es.getD i default).1 y.key/\ax Z μ hp (es.getD i default).2.1 y.val/\y.born=(es.getD i default).2.2
 | .wm s pos=>∀ b o0 t,μ id=some (b,o0,t)->o0=0/\hp[b]?=some (.stringIter s pos)
theorem dR.mono {Z q:Nat->Prop} {μ μ':Mu} {hp g:Array Obj} (m:gz Z q μ μ' hp g) {id:Nat} {o:bT} (h:dR Z μ hp id o)
  (k:μ' id=μ id) (l:∀ b o0 s,μ id=some (b,o0,s)->g[b]?=hp[b]?):dR q μ' g id o:=by
 cases o with
 | dead=>trivial
 | arr esz es =>
  intro b o0 s d
  rw[k] at d
  obtain⟨h1,⟨c,e,f,r,u,n⟩,p,v⟩:=h b o0 s d
  refine⟨h1,⟨c,e,f,by rw[l b o0 s d];exact r,u,n⟩,p,λi j hi w=>?_⟩
  obtain⟨x,z,A⟩:=v i j hi w
  exact⟨x,by rw[yA (l b o0 s d)];exact z,A.mono m⟩
 | map es clock =>
  intro b o0 s d
  rw[k] at d
  obtain⟨a,B,n,p⟩:=h b o0 s d
  refine⟨a,by rw[l b o0 s d];exact B,n,λi hi=>?_⟩
  obtain⟨y,C,D,k2,E⟩:=p i hi
  exact⟨y,C,D.mono m,k2.mono m,E⟩
 | wm s pos =>
  intro b o0 t d
  rw[k] at d
  obtain⟨h1,F⟩:=h b o0 t d
  exact⟨h1,by rw[l b o0 t d];exact F⟩
structure im (Z:Nat->Prop) (μ:Mu) (hp:Array Obj) (H:View):Prop where
 obj:∀ id,dR Z μ hp id (H id)
 inj:∀ i j b o s o' s',i≠j->μ i=some (b,o,s)->μ j=some (b,o',s')->H i=.dead∨H j=.dead
 lt:∀ id b o s,μ id=some (b,o,s)->b < hp.size
 cQ:∀ b,Z b->b < hp.size
 gO:∀ id b o s,μ id=some (b,o,s)->¬ Z b
def Mu.set (μ:Mu) (n:Nat) (x:Nat × Nat × Nat):Mu:=λid=>if id=n then some x else μ id
def View.set (H:View) (n:Nat) (o:bT):View:=λid=>if id=n then o else H id
def bk.view (H:View) (n:Nat):bk->View
 | .none=>H
 | .new o=>H.set n o
 | .fj id o=>H.set id o
 | .ee id o=>(H.set id .dead).set n o
structure ey (w w':World):Prop where
 os:w'.os=w.os
 tape:w'.tape=w.tape
 output:w'.output=w.output
 size:w.heap.size<=w'.heap.size
theorem ey.refl (w:World):ey w w:=⟨rfl,rfl,rfl,Vh _⟩
theorem ey.trans {a b c:World} (h:ey a b) (k:ey b c):ey a c:=⟨k.os.trans h.os,k.tape.trans h.tape,k.output.trans h.output,VU h.size k.size⟩
def fG (hp hp':Array Obj) (p:Nat->Prop):Prop:=∀ b,b < hp.size->¬ p b->hp'[b]?=hp[b]?
def nK (Z:Nat->Prop) (μ μ':Mu) (hp hp':Array Obj) (n:Nat):bk->Prop
 | .none=>μ'=μ/\fG hp hp' (λ_=>False)
 | .new o=>∃ b o0 s,hp.size<=b/\b < hp'.size/\μ'=μ.set n (b,o0,s)/\fG hp hp' (λ_=>False)/\dR Z μ' hp' n o
 | .fj id o=>∃ b o0 s,μ id=some (b,o0,s)/\μ'=μ/\fG hp hp' (· = b)/\fk hp hp'/\dR Z μ' hp' id o
 | .ee id o=>∃ b o0 s,μ'=μ.set n (b,o0,s)/\dR Z μ' hp' n o /\
  ((hp.size<=b/\b < hp'.size/\fG hp hp' (λ_=>False))∨((∃ o1 s1,μ id=some (b,o1,s1))/\fG hp hp' (· = b)/\fk hp hp'))
theorem fG.qw {hp a:Array Obj} (h:fG hp a (λ_=>False)):fk hp a:=by
 intro b c e f g
 have d:b < hp.size:=by
  rcases Vw b hp.size with h | h
  .exact h
  .simp[WG h] at g
 exact⟨c,f,by rw[h b d (λx=>x)];exact g,rfl⟩
theorem nK.mono {Z:Nat->Prop} {μ μ':Mu} {hp i:Array Obj} {n:Nat} {aA:bk} (h:nK Z μ μ' hp i n aA) (j:aA.fresh (μ n=none))
  (cQ:∀ b,Z b->b < hp.size) (gO:∀ id b o s,μ id=some (b,o,s)->¬ Z b):gz Z Z μ μ' hp i:=by
 have c:μ n=none->∀ x:Nat × Nat × Nat,∀ id y,μ id=some y->(μ.set n x) id=some y:=by
  intro j x id y p
  by_cases k:id=n
  .subst k;simp[j] at p
  .simp[Mu.set,k,p]
 cases aA with
 | none =>
  obtain⟨rfl,d⟩:=h
  exact⟨λ_ h=>h,λb l=>d b (cQ b l) (λx=>x),λ_ _ h=>h,d.qw⟩
 | new o =>
  obtain⟨b,o0,s,_,_,rfl,d,_⟩:=h
  exact⟨λ_ h=>h,λb l=>d b (cQ b l) (λx=>x),c j _,d.qw⟩
 | fj id o =>
  obtain⟨b,o0,s,g,rfl,d,m,_⟩:=h
  exact⟨λ_ h=>h,λf a=>d f (cQ f a) (λe=>gO _ _ _ _ g (e ▸ a)),λ_ _ h=>h,m⟩
 | ee id o =>
  obtain⟨b,o0,s,rfl,_,h | ⟨⟨q,s1,g⟩,d,m⟩⟩:=h
  .exact⟨λ_ h=>h,λf a=>h.2.2 f (cQ f a) (λx=>x),c j _,h.2.2.qw⟩
  .exact⟨λ_ h=>h,λf a=>d f (cQ f a) (λe=>gO _ _ _ _ g (e ▸ a)),c j _,m⟩
theorem nK.size {Z:Nat->Prop} {μ μ':Mu} {hp d:Array Obj} {n:Nat} {aA:bk} (h:nK Z μ μ' hp d n aA) (lt:∀ id b o s,μ id=some (b,o,s)->b < hp.size) (f:hp.size<=d.size) :
  ∀ id b o s,μ' id=some (b,o,s)->b < d.size:=by
 have hold:∀ id b o s,μ id=some (b,o,s)->b < d.size:=λid b o s c=>VB (lt id b o s c) f
 cases aA with
 | none=>obtain⟨rfl,_⟩:=h;exact hold
 | new o =>
  obtain⟨b,o0,s,_,k,rfl,_,_⟩:=h
  intro id g i j c
  by_cases a:id=n
  .simp[Mu.set,a] at c;omega
  .simp[Mu.set,a] at c;exact hold _ _ _ _ c
 | fj id o=>obtain⟨b,o0,s,e,rfl,_⟩:=h;exact hold
 | ee id o =>
  obtain⟨b,o0,s,rfl,_,h | ⟨⟨l,s1,e⟩,_,_⟩⟩:=h
  all_goals
   intro id g i j c
   by_cases a:id=n
   .simp[Mu.set,a] at c
    first | omega | (obtain⟨rfl,_,_⟩:=c;exact hold _ _ _ _ e)
   .simp[Mu.set,a] at c;exact hold _ _ _ _ c
theorem im.aA {Z:Nat->Prop} {μ μ':Mu} {hp z:Array Obj} {H:View} {n:Nat} {aA:bk} (h:im Z μ hp H) (P:aA.fresh (μ n=none)) (L:hp.size<=z.size)
  (he:nK Z μ μ' hp z n aA) (K:∀ id o,aA=.fj id o->H id≠.dead) (G:∀ id o,aA=.ee id o->H id≠.dead):im Z μ' z (aA.view H n):=by
 have hm:=he.mono P h.cQ h.gO
 have m:=he.size h.lt L
 have A:∀ b,Z b->b < z.size:=λb Q=>VB (h.cQ b Q) L
 cases aA with
 | none =>
  obtain⟨rfl,D⟩:=he
  exact⟨λid=>(h.obj id).mono hm rfl (λb o s c=>D b (h.lt _ _ _ _ c) (λx=>x)),h.inj,m,A,h.gO⟩
 | new o =>
  obtain⟨b,o0,s,R,S,rfl,D,t⟩:=he
  refine⟨λid=>?_,?_,m,A,?_⟩
  .by_cases a:id=n
   .subst a;simpa [bk.view,View.set] using t
   .have:=(h.obj id).mono hm (by simp[Mu.set,a]) (λb o s c=>D b (h.lt _ _ _ _ c) (λx=>x))
    simpa [bk.view,View.set,a] using this
  .intro i j d w y B C u hi q
   by_cases h1:i=n
   .by_cases r:j=n
    .omega
    .simp[Mu.set,h1] at hi;simp[Mu.set,r] at q
     have:=h.lt _ _ _ _ q;omega
   .by_cases r:j=n
    .simp[Mu.set,r] at q;simp[Mu.set,h1] at hi
     have:=h.lt _ _ _ _ hi;omega
    .simp[Mu.set,h1] at hi;simp[Mu.set,r] at q
     simpa [bk.view,View.set,h1,r] using h.inj i j d w y B C u hi q
  .intro id d w y c F
   by_cases h1:id=n
   .simp[Mu.set,h1] at c;have:=h.cQ _ F;omega
   .simp[Mu.set,h1] at c;exact h.gO _ _ _ _ c F
 | fj k o =>
  obtain⟨b,o0,s,g,rfl,D,T,t⟩:=he
  have hk:=K k o rfl
  refine⟨λid=>?_,?_,m,A,h.gO⟩
  .by_cases a:id=k
   .subst a;simpa [bk.view,View.set] using t
   .simp only[bk.view,View.set,a,if_false]
    by_cases I:H id=.dead
    .rw[I];trivial
    .refine(h.obj id).mono hm rfl (λd w y c=>D d (h.lt _ _ _ _ c) ?_)
     intro e
     subst e
     rcases h.inj id k _ _ _ _ _ a c g with h1 | h1
     .exact I h1
     .exact hk h1
  .intro i j d w y B C u hi q
   rcases h.inj i j _ _ _ _ _ u hi q with h1 | h1
   .by_cases e:i=k
    .exact absurd (e ▸ h1) hk
    .left;simpa [bk.view,View.set,e] using h1
   .by_cases e:j=k
    .exact absurd (e ▸ h1) hk
    .right;simpa [bk.view,View.set,e] using h1
 | ee k o =>
  obtain⟨b,o0,s,rfl,t,l⟩:=he
  have hk:=G k o rfl
  have v:(μ.set n (b,o0,s)) n=some (b,o0,s):=by simp[Mu.set]
  refine⟨λid=>?_,?_,m,A,?_⟩
  .by_cases a:id=n
   .subst a;simpa [bk.view,View.set] using t
   .by_cases f:id=k
    .simp only[bk.view,View.set,a,if_false,f,if_true]
     split <;> first | trivial | (rename_i e;exact absurd (f.trans e) a)
    .simp only[bk.view,View.set,a,if_false,f]
     by_cases I:H id=.dead
     .rw[I];trivial
     .refine(h.obj id).mono hm (by simp[Mu.set,a]) (λd w y c=>?_)
      rcases l with h1 | ⟨⟨M,s1,g⟩,D,_⟩
      .exact h1.2.2 d (h.lt _ _ _ _ c) (λx=>x)
      .refine D d (h.lt _ _ _ _ c) ?_
       intro e
       subst e
       rcases h.inj id k _ _ _ _ _ f c g with h1 | h1
       .exact I h1
       .exact hk h1
  .intro i j d w y B C u hi q
   have key:∀ i d w y,i≠n->(μ.set n (b,o0,s)) i=some (d,w,y)->d=b->(bk.view H n (.ee k o)) i=.dead:=by
    intro p U V t1 J c e
    subst e
    simp only[Mu.set,U8 J] at c
    simp only[bk.view,View.set,U8 J]
    by_cases f:p=k
    .simp[f]
    .simp only[U8 f]
     rcases l with h1 | ⟨⟨M,s1,g⟩,_,_⟩
     .have:=h.lt _ _ _ _ c;omega
     .rcases h.inj p k _ _ _ _ _ f c g with h1 | h1
      .exact h1
      .exact absurd h1 hk
   by_cases h1:i=n
   .have r:j≠n:=by omega
    right
    have E:d=b:=by
     rw[h1,v] at hi;simp at hi;exact hi.1.symm
    exact key j d B C r q E
   .by_cases r:j=n
    .left
     have E:d=b:=by
      rw[r,v] at q;simp at q;exact q.1.symm
     exact key i d w y h1 hi E
    .simp only[Mu.set,h1,if_false] at hi
     simp only[Mu.set,r,if_false] at q
     simp only[bk.view,View.set,h1,r,if_false]
     by_cases N:i=k
     .left;simp[N]
     .by_cases O:j=k
      .right;simp[O]
      .simp only[N,O,if_false]
       exact h.inj i j _ _ _ _ _ u hi q
  .intro id d w y c F
   by_cases h1:id=n
   .rw[h1,v] at c
    simp at c
    obtain⟨rfl,_,_⟩:=c
    rcases l with r | ⟨⟨M,s1,g⟩,_,_⟩
    .have:=h.cQ _ F;omega
    .exact h.gO _ _ _ _ g F
   .simp only[Mu.set,h1,if_false] at c
    exact h.gO _ _ _ _ c F
theorem uL {Z:Nat->Prop} {μ:Mu} {hp:Array Obj} {v:V} {x:Value} (h:ax Z μ hp v x) (a:aJ v=true):x.oneCell'=true:=by
 cases h with
 | val _ b=>cases x <;> first | rfl | (simp[plain] at b)
 | any x=>simp[aJ] at a
 | agg cs c h1 d=>simp[aJ] at a
 | bm cs c h1 d=>simp[aJ] at a
 | _=>rfl
theorem fW {Z:Nat->Prop} {μ:Mu} {hp:Array Obj} {v:V} {x:Value} (h:ax Z μ hp v x) (o:v.cells.all aJ=true):gu Z μ hp v.cells x.cells.toList:=by
 have one:∀ v x,ax Z μ hp v x->x.cells = #[x]->gu Z μ hp [v] x.cells.toList:=by
  intro v x h p
  rw[p]
  exact⟨rfl,λi hi=>by
   simp at hi;subst hi;simpa using h⟩
 cases h with
 | agg cs g h1 d =>
  refine⟨by simpa [V.cells,Value.cells] using h1,λi hi=>?_⟩
  have:=d i (by simpa [V.cells] using hi)
  simpa [V.cells,Value.cells,List.getD,Vi] using this
 | any x=>simp[V.cells,aJ] at o
 | bm cs g h1 d=>simp[V.cells,aJ] at o
 | val _ m =>
  refine one _ _ (.val x m) ?_
  cases x <;> first | rfl | (simp[plain] at m)
 | emp k a h1 d=>exact one _ _ (.emp k a h1 d) rfl
 | er a cap=>exact one _ _ (.er a cap) rfl
 | hU a cap h1=>exact one _ _ (.hU a cap h1) rfl
 | aS es b off esz cap c h1 d l n q=>exact one _ _ (.aS es b off esz cap c h1 d l n q) rfl
 | qB id off esz a=>exact one _ _ (.qB id off esz a) rfl
 | sl id off len esz b o0 cap c e f h1 d l n=>exact one _ _ (.sl id off len esz b o0 cap c e f h1 d l n) rfl
 | ptr id i j b o0 esz h1=>exact one _ _ (.ptr id i j b o0 esz h1) rfl
 | aF e j b off c h1 d l=>exact one _ _ (.aF e j b off c h1 d l) rfl
 | mp id b o0 esz h1=>exact one _ _ (.mp id b o0 esz h1) rfl
 | fn f xs ys g r h1 d l n=>exact one _ _ (.fn f xs ys g r h1 d l n) rfl
theorem pj {P:Program} {t:TypeId} {i:TypeInfo} (h:P.info? t=some i) (w:World):(typeInfo t).run P w=.ok i w:=by
 simp[typeInfo,h]
theorem dn {P:Program} {t:TypeId} {i:TypeInfo} (h:P.info? t=some i) (w:World):(Go.sizeOf t).run P w=.ok i.size w:=by
 simp[Go.sizeOf,pj h]
theorem bj {P:Program} {t:TypeId} {d:TypeDesc} (h:P.underlying t=some d) (w:World):(underlying t).run P w=.ok d w:=by
 simp[underlying,h]
theorem jo {P:Program} {t:TypeId} {i:TypeInfo} {v:Value} (h:P.info? t=some i) (a:i.zero=some v) (w:World):(zeroValue t).run P w=.ok v w:=by
 simp[zeroValue,pj h,a]
theorem tv {P:Program} {t:TypeId} {b:Bool} (h:rB P t=some b) (w:World):(isAgg t).run P w=.ok b w:=by
 unfold rB at h
 cases hu:P.underlying t with
 | none=>simp[hu] at h
 | some d =>
  simp only[hu] at h
  simp only[isAgg,Sem.run_bind,bj hu,Result.andThen_ok]
  cases d <;> simp_all
def E7 (Z:Nat->Prop) (μ:Mu) (hp:Array Obj) (b off:Nat) (cs:List V):Prop :=
 ∀ k,k < cs.length->∃ x,cellAt hp b (off+k)=some x/\ax Z μ hp (cs.getD k .any) x
theorem pI {α:Type} {P:Program} : ∀ (s:Sem α) {a:α},bq P s=some a->∀ w,s.run P w=.ok a w:=by
 intro s
 induction s with
 | pure a=>intro c h w;simp[bq] at h;subst h;rfl
 | program k b=>intro a h w;simp only[bq] at h;simp only[Sem.run];exact b P h w
 | _=>intro a h;simp[bq] at h
theorem nI {n:Nat} {p:Nat->Value->Prop} (h:∀ k,k < n->∃ x,p k x):∃ f:Nat->Value,∀ k,k < n->p k (f k):=by
 refine⟨λk=>if hk:k < n then Classical.choose (h k hk) else undef,λk hk=>?_⟩
 simp only[hk,dif_pos]
 exact Classical.choose_spec (h k hk)
theorem iW (b o n:Nat):Addr.add ⟨b,o,none⟩ n=⟨b,o+n,none⟩:=by
 unfold Addr.add;split
 .rename_i h;subst h;rfl
 .rfl
theorem tq {Z:Nat->Prop} {μ:Mu} {w:World} {P:Program} {b off j:Nat} {t:TypeId} {cs:List V} {v:V} (h:E7 Z μ w.heap b off cs) (hp:pJ P t cs j=some v) :
  ∃ x,(loadVar t ⟨b,off+j,none⟩).run P w=.ok x w/\ax Z μ w.heap v x:=by
 unfold pJ at hp
 cases hi:P.info? t with
 | none=>simp[hi] at hp
 | some i =>
  cases c:rB P t with
  | none=>simp[hi,c] at hp
  | some g =>
   simp only[hi,c] at hp
   cases g with
   | true =>
    simp only at hp
    split at hp
    .rename_i hle
     simp at hp;subst hp
     have d:∀ k,k < i.size->∃ x,cellAt w.heap b (off+(j+k))=some x/\ax Z μ w.heap (cs.getD (j+k) .any) x:=λk hk=>h (j+k) (by omega)
     obtain⟨f,e⟩:=nI d
     refine⟨.agg ((List.range i.size).map f).toArray,?_,?_⟩
     .simp only[loadVar,Sem.run_bind,tv c,Result.andThen_ok,if_true,dn hi]
      rw[run_loadCells w ⟨b,off+j,none⟩ i.size f (λk hk=>by rw[iW,ry,WV];exact(e k hk).1)]
      rfl
     .refine .agg _ _ (by simp;omega) (λk hk=>?_)
      have a:k < i.size:=by simp at hk;omega
      have:=(e k a).2
      simpa [List.getD,a,Wo,WY,Vi] using this
    .simp at hp
   | false =>
    simp only at hp
    split at hp
    .rename_i hle
     simp at hp;subst hp
     obtain⟨x,d,l⟩:=h j hle
     refine⟨x,?_,by simpa [List.getD] using l⟩
     simp only[loadVar,Sem.run_bind,tv c,Result.andThen_ok,VE,if_false,run_load,ry,d]
    .simp at hp
theorem xO {w:World} {b k:Nat} {v:Value} {c:Array Value} {e:TypeId} {f:Nat × Nat} (h:w.heap[b]?=some (.cells c e f)) :
  w.setCell ⟨b,k,none⟩ v = { w with heap:=w.heap.setIfInBounds b (.cells (c.setIfInBounds k v) e f) }:=by
 unfold World.setCell
 congr 1
 apply Array.ext_getElem?
 intro i
 simp only[Array.getElem?_modify,V0]
 by_cases hi:b=i
 .subst hi
  have a:b < w.heap.size:=by
   rcases Vw b w.heap.size with d | d
   .exact d
   .simp[WG d] at h
  have g:w.heap[b]=.cells c e f:=by simpa [Vp a] using h
  simp[g,a]
 .simp[hi]
theorem Mx {w:World} {b k:Nat} {c:Array Value} {e:TypeId} {f:Nat × Nat} (h:w.heap[b]?=some (.cells c e f)) (a:¬ (f.1<=k/\k < f.2)):w.frozen? ⟨b,k,none⟩=false:=by
 simp only[World.frozen?,h]
 simp only[Bool.and_eq_false_iff,WA]
 omega
theorem pM {c:Array Value} {f:Nat × Nat} (h:f.1=f.2∨c.size<=f.1):∀ k,k < c.size->¬ (f.1<=k/\k < f.2):=by
 intro k hk;omega
theorem ks {P:Program} {b off:Nat} {e:TypeId} {f:Nat × Nat} : ∀ (xs:List Value) (i:Nat) (c:Array Value) (w:World),
  w.heap[b]?=some (.cells c e f)->(∀ k,k < c.size->¬ (f.1<=k/\k < f.2))->off+i+xs.length<=c.size->(∀ x∈xs,x.oneCell'=true) ->
  ∃ d,(storeCells ⟨b,off,none⟩ xs i).run P w=.ok () { w with heap:=w.heap.setIfInBounds b (.cells d e f) }/\d.size=c.size /\
   ∀ k,d[k]?=if off+i<=k/\k < off+i+xs.length then xs[k - (off+i)]? else c[k]?
 | [],i,c,w,h,_,_,_=>by
  refine⟨c,?_,rfl,λk=>?_⟩
  .simp only[storeCells,Sem.run_pure]
   congr 1
   have:w.heap.setIfInBounds b (.cells c e f)=w.heap:=by
    apply Array.ext_getElem?
    intro k
    simp only[V0]
    split
    .rename_i hk
     subst hk
     split
     .exact h.symm
     .rename_i q;simp[WG (Nat.le_of_not_lt q)]
    .rfl
   rw[this]
  .rw[U8 (by simp only[Vy];omega)]
 | x :: xs,i,c,w,h,n,r,o=>by
  simp only[Vm] at r
  have g:b < w.heap.size:=by
   rcases Vw b w.heap.size with j | j
   .exact j
   .simp[WG j] at h
  have a:w.cell? ⟨b,off+i,none⟩=some c[off+i]:=by
   rw[ry,cellAt,h];simp[show off+i < c.size from by omega]
  have hw:(w.setCell ⟨b,off+i,none⟩ x).heap[b]?=some (.cells (c.setIfInBounds (off+i) x) e f):=by
   rw[xO h];simp[g]
  obtain⟨d,hr,l,m⟩:=ks (P:=P) (off:=off) (f:=f) xs (i+1) (c.setIfInBounds (off+i) x) (w.setCell ⟨b,off+i,none⟩ x) hw (λk hk=>n k (by simpa using hk)) (by simp;omega) (λy s=>o y (Vt _ s))
  refine⟨d,?_,by simpa using l,λk=>?_⟩
  .simp only[storeCells,Sem.run_bind,iW]
   rw[run_store P w _ x _ (o x Wy),a]
   simp only[Mx h (n (off+i) (by omega)),VE,if_false,Result.andThen_ok]
   rw[hr]
   congr 1
   rw[xO h]
   simp[Array.setIfInBounds_setIfInBounds]
  .rw[m]
   simp only[Vm]
   by_cases h1:off+i=k
   .subst h1
    rw[U8 (by omega),Va (by omega)]
    simp[show off+i < c.size from by omega]
   .by_cases p:off+(i+1)<=k/\k < off+(i+1)+xs.length
    .rw[Va p,Va (by omega)]
     rw[show k - (off+i)=(k - (off+(i+1)))+1 from by omega]
     simp
    .rw[U8 p,U8 (by omega)]
     simp[h1]
theorem c6 (hp:Array Obj) (b:Nat) (o:Obj):fG hp (hp.setIfInBounds b o) (· = b):=by
 intro k _ hk
 simp only[V0]
 rw[U8 (λe=>hk e.symm)]
theorem iD {hp:Array Obj} {b:Nat} {c a:Array Value} {e:TypeId} {f:Nat × Nat} (h:hp[b]?=some (.cells c e f)) (j:a.size=c.size):fk hp (hp.setIfInBounds b (.cells a e f)):=by
 intro k x e' l hk
 simp only[V0]
 by_cases i:b=k
 .subst i
  rw[h] at hk
  simp only[U7,Obj.cells.injEq] at hk
  obtain⟨rfl,rfl,rfl⟩:=hk
  have d:b < hp.size:=by
   rcases Vw b hp.size with g | g
   .exact g
   .simp[WG g] at h
  exact⟨a,f,by simp[d],j⟩
 .exact⟨x,l,by simp[i,hk],rfl⟩
theorem dL {hp:Array Obj} {b:Nat} {o:Obj} (h:b < hp.size):(hp.setIfInBounds b o)[b]?=some o:=by simp[h]
theorem eE {hp:Array Obj} {b:Nat} {o:Obj} (h:hp[b]?=some o):b < hp.size:=by
 rcases Vw b hp.size with a | a
 .exact a
 .simp[WG a] at h
theorem xf (l cs:List V) (j:Nat) (a:j+cs.length<=l.length):(eZ l j cs).length=l.length:=by
 simp only[eZ,Wf,VS,List.length_drop];omega
theorem Dx (l cs:List V) (j k:Nat) (a:j+cs.length<=l.length) (h:j<=k/\k < j+cs.length):(eZ l j cs).getD k .any=cs.getD (k - j) .any:=by
 simp only[eZ,U5,VR]
 rw[VQ (by simp;omega),VG (by simp;omega)]
 congr 2;simp;omega
theorem Ba (l cs:List V) (j k:Nat) (a:j+cs.length<=l.length) (h:¬ (j<=k/\k < j+cs.length)):(eZ l j cs).getD k .any=l.getD k .any:=by
 simp only[eZ,U5,VR]
 by_cases h1:k < j
 .rw[VG (by simp;omega)];simp[h1]
 .rw[VQ (by simp;omega),VQ (by simp;omega)]
  simp only[WY,VS]
  congr 2;omega
theorem dR.store {Z:Nat->Prop} {μ:Mu} {w:World} {P:Program} {id b o0 s esz i j:Nat} {es:List (List V)} {cs:List V} {xs:List Value}
  (F:dR Z μ w.heap id (.arr esz es)) (u:μ id=some (b,o0,s)) (N:¬ Z b) (cQ:∀ b,Z b->b < w.heap.size) (hi:i < es.length) (R:j+cs.length<=esz) (hr:gu Z μ w.heap cs xs) (v:∀ x∈xs,x.oneCell'=true) :
  ∃ w',(storeCells ⟨b,o0+i * esz+j,none⟩ xs).run P w=.ok () w'/\ey w w'/\fG w.heap w'.heap (· = b)/\fk w.heap w'.heap /\
   dR Z μ w'.heap id (.arr esz (es.set i (eZ (es.getD i []) j cs))):=by
 obtain⟨rfl,⟨c,e,f,y,L,O⟩,hlen,m⟩:=F b o0 s u
 have hmul:(i+1) * s<=es.length * s:=VH _ hi
 have G:(i+1) * s=i * s+s:=by rw[VO];omega
 have M:=eE y
 obtain⟨z,A,n,H⟩:=ks (P:=P) (b:=b) (off:=o0+i * s+j) (e:=e) (f:=f) xs 0 c w y (pM L) (by rw[<-hr.1];omega) v
 have hm:gz Z Z μ μ w.heap (w.heap.setIfInBounds b (.cells z e f)) :=
  ⟨λ_ h=>h,λk hk=>c6 w.heap b _ k (cQ k hk) (λe=>N (e ▸ hk)),λ_ _ h=>h,iD y n⟩
 refine⟨_,A,⟨rfl,rfl,rfl,by simp⟩,c6 _ _ _,iD y n,?_⟩
 intro S T U o
 rw[u] at o
 simp only[U7,Vb] at o
 obtain⟨rfl,rfl,rfl⟩:=o
 have Q:(eZ (es.getD i []) j cs).length=s:=by
  have:=hlen i hi
  rw[xf _ _ _ (by omega),this]
 have p:∀ a,(es.set i (eZ (es.getD i []) j cs)).getD a []=if a=i then eZ (es.getD i []) j cs else es.getD a []:=by
  intro a
  simp only[U5,Wk]
  by_cases h1:i=a
  .subst h1;simp[hi]
  .rw[U8 h1,U8 (λe=>h1 e.symm)]
 refine⟨rfl,⟨z,e,f,by simp[M],by rw[n];exact L,by simpa [n] using O⟩,?_,?_⟩
 .intro a q
  rw[p]
  split
  .exact Q
  .exact hlen a (by simpa using q)
 .intro a g q B
  have l:a < es.length:=by simpa using q
  have I:(a+1) * s<=es.length * s:=VH _ l
  have E:(a+1) * s=a * s+s:=by rw[VO];omega
  have r:cellAt (w.heap.setIfInBounds b (.cells z e f)) b (o0+a * s+g)=z[o0+a * s+g]?:=by simp[cellAt,M]
  have d:cellAt w.heap b (o0+a * s+g)=c[o0+a * s+g]?:=by simp[cellAt,y]
  show ∃ x,cellAt (w.heap.setIfInBounds b (.cells z e f)) b (o0+a * s+g)=some x/\_
  rw[r,H,p]
  by_cases t:a=i
  .subst t
   rw[Va rfl]
   by_cases C:j<=g/\g < j+cs.length
   .have hk:g - j < cs.length:=by omega
    have D:g - j < xs.length:=hr.1 ▸ hk
    rw[Va (by rw[<-hr.1];omega),show o0+a * s+g - (o0+a * s+j+0)=g - j from by omega]
    refine⟨xs[g - j],by simp[D],?_⟩
    have:=(hr.2 (g - j) hk).mono hm
    simp only[U5,U6 D,U6 hk,Vo] at this
    have J:=hlen a l
    rw[Dx _ _ _ _ (by omega) C]
    simpa [U5,hk] using this
   .rw[U8 (by rw[<-hr.1];omega)]
    obtain⟨x,o,K⟩:=m a g l B
    rw[d] at o
    refine⟨x,o,?_⟩
    have J:=hlen a l
    rw[Ba _ _ _ _ (by omega) C]
    exact K.mono hm
  .rw[U8 t]
   have:¬ (o0+i * s+j+0<=o0+a * s+g/\o0+a * s+g < o0+i * s+j+0+xs.length):=by
    rw[<-hr.1]
    rcases Nat.lt_or_gt_of_ne t with h1 | h1
    .have:(a+1) * s<=i * s:=VH _ h1
     omega
    .have:(i+1) * s<=a * s:=VH _ h1
     omega
   rw[U8 this]
   obtain⟨x,o,K⟩:=m a g l B
   rw[d] at o
   exact⟨x,o,K.mono hm⟩
theorem dR.newRow {Z:Nat->Prop} {μ:Mu} {hp:Array Obj} {n esz:Nat} {es:List (List V)} {c:Array Value} {e:TypeId}
  (g:μ n=none) (cQ:∀ b,Z b->b < hp.size) (k:es.length * esz<=c.size) (hlen:∀ i,i < es.length->(es.getD i []).length=esz)
  (h:∀ i j,i < es.length->j < esz->∃ x,c[i * esz+j]?=some x/\ax Z μ hp ((es.getD i []).getD j .any) x) :
  dR Z (μ.set n (hp.size,0,esz)) (hp.push (.cells c e (0,0))) n (.arr esz es):=by
 intro b o0 s a
 simp only[Mu.set,if_true,U7,Vb] at a
 obtain⟨rfl,rfl,rfl⟩:=a
 have hm:gz Z Z μ (μ.set n (hp.size,0,esz)) hp (hp.push (.cells c e (0,0))):=by
  refine⟨λ_ h=>h,λb f=>?_,λid x a=>?_,?_⟩
  .have:=cQ b f
   rw[WQ,U8 (by omega)]
  .by_cases d:id=n
   .subst d;simp[g] at a
   .simp[Mu.set,d,a]
  .intro b l e' p f
   have:=eE f
   exact⟨l,_,by rw[WQ,U8 (by omega)];exact f,rfl⟩
 refine⟨rfl,⟨c,e,(0,0),by simp,.inl rfl,by simpa using k⟩,hlen,λi j hi m=>?_⟩
 obtain⟨x,a,o⟩:=h i j hi m
 exact⟨x,by simp[cellAt,a],o.mono hm⟩
theorem en (hp:Array Obj) (o:Obj):fG hp (hp.push o) (λ_=>False):=by
 intro k hk _
 rw[WQ,U8 (by omega)]
structure Ctx (Z:Nat->Prop) (μ:Mu) (hp:Array Obj) (H:View) (rd:List Nat) (n:Nat) (aA:bk):Prop where
 new:aA.fresh (μ n=none)
 obj:∀ id,id∈rd->dR Z μ hp id (H id)
 lt:∀ id b o s,μ id=some (b,o,s)->b < hp.size
 cQ:∀ b,Z b->b < hp.size
 gO:∀ id b o s,μ id=some (b,o,s)->¬ Z b
def bb (Z:Nat->Prop) (μ:Mu) (w:World) (n:Nat) (v:V) (aA:bk) (r:Result Next):Prop :=
 ∃ nx w' μ',r=.ok nx w'/\((∃ x,nx=.value x/\ax Z μ' w'.heap v x)∨(nx=.skip/\v=.any))/\ey w w'/\nK Z μ μ' w.heap w'.heap n aA
section
variable {Z:Nat->Prop} {μ μ':Mu} {w w':World} {P:Program} {H:View} {n:Nat} {v:V} {aA:bk} {rd:List Nat}
theorem iy:nK Z μ μ w.heap w.heap n .none:=⟨rfl,λ_ _ _=>rfl⟩
theorem bb.value {s:Sem Value} {x:Value} (hr:s.run P w=.ok x w') (a:ax Z μ' w'.heap v x) (b:ey w w') (he:nK Z μ μ' w.heap w'.heap n aA) :
  bb Z μ w n v aA ((do pure (Next.value (<-s)):Sem Next).run P w) :=
 ⟨.value x,w',μ',by simp[hr],.inl ⟨x,rfl,a⟩,b,he⟩
theorem bb.here {s:Sem Value} {x:Value} (hr:s.run P w=.ok x w) (a:ax Z μ w.heap v x):bb Z μ w n v .none ((do pure (Next.value (<-s)):Sem Next).run P w) :=
 bb.value hr a (ey.refl w) iy
theorem bb.skip {s:Sem Unit} (hr:s.run P w=.ok () w') (a:ey w w') (he:nK Z μ μ' w.heap w'.heap n aA) :
  bb Z μ w n .any aA ((do s;pure Next.skip:Sem Next).run P w) :=
 ⟨.skip,w',μ',by simp[hr],.inr ⟨rfl,rfl⟩,a,he⟩
theorem vA (x:Value):ax Z μ w.heap (nT x) x:=by
 cases x with
 | slice a len cap =>
  cases a with
  | none =>
   cases len with
   | zero=>cases cap with
    | zero=>exact .emp 1 none (λ_=>rfl) (λh=>by simp at h)
    | succ c=>exact .any _
   | succ l=>exact .any _
  | some a=>exact .any _
 | _ =>
  simp only[nT]
  split
  .rename_i h;exact .val _ h
  .exact .any _
theorem ga (x:Value):ax Z μ w.heap (fe x) x:=by
 cases x with
 | agg cs =>
  refine .agg _ _ (by simp) (λi hi=>?_)
  have c:i < cs.size:=by simpa using hi
  simp only[U5,Vi]
  simpa [c] using vA cs[i]
 | func fn a b =>
  cases fn with
  | func f =>
   simp only[fe]
   split
   .rename_i h
    exact .fn _ _ _ _ _ h.1.symm h.2.symm (λi hi=>by simp at hi) (λi hi=>by simp at hi)
   .exact .any _
  | _=>simp only[fe];exact vA _
 | _=>simp only[fe];exact vA _
theorem heap_alloc (w:World) (o:Obj):(w.alloc o).heap=w.heap.push o:=rfl
theorem iC (w:World) (o:Obj):ey w (w.alloc o):=⟨rfl,rfl,rfl,by rw[heap_alloc];simp⟩
theorem qv {v:V} {x y:Value} (h:ax Z μ w.heap v x) (f:c7 v=some y):y=x:=by
 have e:∀ (cs:List V) (l:List Value),uU cs=some l->∀ (xs:List Value),cs.length=xs.length->(∀ i,i < cs.length->ax Z μ w.heap (cs.getD i .any) (xs.getD i undef))->l=xs:=by
  intro cs
  induction cs with
  | nil=>intro l d xs g _;simp[uU] at d;subst d;cases xs <;> simp_all
  | cons c r n =>
   intro l d xs g hr
   cases xs with
   | nil=>simp at g
   | cons x xs =>
    simp only[uU] at d
    split at d
    .rename_i a b k o
     simp at d;subst d
     have m:=hr 0 (by simp)
     have:=n b o xs (by simpa using g) (λi hi=>by simpa using hr (i+1) (by simpa using hi))
     subst this
     simp only[Wc] at m
     cases c <;> simp[toCell] at k
     subst k
     cases m;rfl
    .simp at d
 cases v with
 | val a=>simp[c7] at f;subst f;cases h;rfl
 | agg cs =>
  simp only[c7,Vk] at f
  obtain⟨l,d,rfl⟩:=f
  cases h with
  | agg _ j h1 p =>
   have:=e cs l d j.toList (by simpa using h1) (λi hi=>by simpa [U5,Vi] using p i hi)
   subst this;simp
 | _=>simp[c7] at f
theorem mM {id i j:Nat} {x:Value} (h:ax Z μ w.heap (.ptr id i j) x):∃ b o0 esz,μ id=some (b,o0,esz)/\x=.pointer (some ⟨b,o0+i * esz+j,none⟩):=by
 cases h with | ptr _ _ _ b o0 esz hm=>exact⟨b,o0,esz,hm,rfl⟩
theorem si {e:List V} {j:Nat} {x:Value} (h:ax Z μ w.heap (.aF e j) x):∃ b off,Z b/\E7 Z μ w.heap b off e/\x=.pointer (some ⟨b,off+j,none⟩):=by
 cases h with | aF _ _ b off c a h1 d=>exact⟨b,off,a,λk hk=>⟨c k,h1 k hk,d k hk⟩,rfl⟩
theorem zi {e:List V} {j b off:Nat} (c:Z b) (h:E7 Z μ w.heap b off e):ax Z μ w.heap (.aF e j) (.pointer (some ⟨b,off+j,none⟩)):=by
 obtain⟨f,a⟩:=nI h
 exact .aF e j b off f c (λk hk=>(a k hk).1) (λk hk=>(a k hk).2)
theorem rowOf {id i b o0 s esz:Nat} {es:List (List V)} (a:dR Z μ w.heap id (.arr esz es)) (c:μ id=some (b,o0,s)) (hi:i < es.length) :
  s=esz/\E7 Z μ w.heap b (o0+i * s) (es.getD i []):=by
 obtain⟨rfl,_,d,e⟩:=a b o0 s c
 refine⟨rfl,λk hk=>?_⟩
 rw[d i hi] at hk
 exact e i k hi hk
theorem Pm {t:TypeId} {a:V} {x:Value} (h:l0 P t a H=some (v,aA,rd)) (m:ax Z μ w.heap a x) (c:Ctx Z μ w.heap H rd n aA) :
  bb Z μ w n v aA ((do pure (Next.value (<-Instr.loadAt t x)):Sem Next).run P w):=by
 unfold l0 at h
 split at h
 .rename_i id i j
  obtain⟨b,o0,esz,hm,rfl⟩:=mM m
  split at h
  .rename_i e es hH
   split at h
   .rename_i hi
    simp only[Vk] at h
    obtain⟨o,d,h⟩:=h
    simp only[Vb] at h
    obtain⟨rfl,rfl,rfl⟩:=h
    have f:=c.obj id (by simp)
    rw[hH] at f
    obtain⟨y,k,l⟩:=tq (P:=P) (rowOf f hm hi).2 d
    exact bb.here (by simp[Instr.loadAt,Instr.sureAddr,k]) l
   .simp at h
  .simp at h
 .obtain⟨b,off,p,g,rfl⟩:=si m
  simp only[Vk] at h
  obtain⟨o,d,h⟩:=h
  simp only[Vb] at h
  obtain⟨rfl,rfl,rfl⟩:=h
  obtain⟨y,k,l⟩:=tq (P:=P) g d
  exact bb.here (by simp[Instr.loadAt,Instr.sureAddr,k]) l
 .simp at h
theorem wj {t:TypeId} {i:TypeInfo} (h:P.info? t=some i):P.cellsOf t=i.size:=by simp[Program.cellsOf,h]
theorem Rj {cs:List V} {xs:List Value} (h:gu Z μ w.heap cs xs) (b:cs.all aJ=true):∀ x∈xs,x.oneCell'=true:=by
 intro x c
 obtain⟨i,hi,rfl⟩:=Wi c
 have a:i < cs.length:=h.1 ▸ hi
 have:=h.2 i a
 simp only[U5,U6 hi,U6 a,Vo] at this
 exact uL this (Vr.1 b _ (Vg _))
theorem OC {t:TypeId} {a b:V} {x y:Value} (h:qo P t a b H=some (v,aA,rd)) (l:ax Z μ w.heap a x) (m:ax Z μ w.heap b y) (c:Ctx Z μ w.heap H rd n aA) :
  bb Z μ w n v aA ((do Instr.storeAt t x y;pure Next.skip:Sem Next).run P w):=by
 unfold qo at h
 split at h
 .rename_i id i j
  obtain⟨k,o0,s,hm,rfl⟩:=mM l
  split at h
  .rename_i esz es hH
   split at h
   .rename_i o
    obtain⟨hi,hlen,p,f,d⟩:=o
    simp only[U7,Vb] at h
    obtain⟨rfl,rfl,rfl⟩:=h
    have e:=c.obj id (by simp)
    rw[hH] at e
    have q:=(e k o0 s hm).1
    subst q
    have hr:=fW m f
    obtain⟨w',h1,r,u,z,A⟩:=e.store (P:=P) hm (c.gO _ _ _ _ hm) c.cQ hi p hr (Rj hr f)
    obtain⟨ti,g⟩:=Option.isSome_iff_exists.1 d
    refine bb.skip ?_ r ⟨k,o0,s,hm,rfl,u,z,A⟩
    have:y.cells.size=ti.size:=by rw[<-wj g,<-hlen,hr.1];simp
    simp[Instr.storeAt,Instr.sureAddr,storeVar,dn g,this,h1]
   .simp at h
  .simp at h
 .simp at h
theorem JG {cs:List V} {x:Value} {t:TypeId} (h:lp cs n=some (v,aA,rd)) (hr:cs.all aJ=true->gu Z μ w.heap cs x.cells.toList) (c:Ctx Z μ w.heap H rd n aA) :
  bb Z μ w n v aA ((do pure (Next.value (.pointer (some (<-newVar t x)))):Sem Next).run P w):=by
 unfold lp at h
 split at h
 .rename_i b
  simp only[U7,Vb] at h
  obtain⟨rfl,rfl,rfl⟩:=h
  have hr:=hr b
  refine⟨.value (.pointer (some ⟨w.heap.size,0,none⟩)),w.alloc (.cells x.cells t),μ.set n (w.heap.size,0,cs.length),by simp[newVar,newRow],.inl ⟨_,rfl,?_⟩,iC _ _,?_⟩
  .have:=ax.ptr (Z:=Z) (μ:=μ.set n (w.heap.size,0,cs.length)) (hp:=(w.alloc (.cells x.cells t)).heap) n 0 0 w.heap.size 0 cs.length (by simp[Mu.set])
   simpa using this
  .refine⟨w.heap.size,0,cs.length,Vh _,by rw[heap_alloc];simp,rfl,en _ _,?_⟩
   refine dR.newRow c.new c.cQ (by rw[hr.1];simp) (λi hi=>by simp at hi;subst hi;simp) (λi j hi d=>?_)
   simp at hi;subst hi
   have a:j < x.cells.size:=by have:=hr.1;simp at this;omega
   refine⟨x.cells[j],by simp[a],?_⟩
   have:=hr.2 j d
   simpa [U5,a] using this
 .simp at h
theorem tR {t:TypeId} {f off s:Nat} {b:TypeId} (h:pg P t f=some (off,s,b)) :
  ∃ a x i,P.underlying t=some (.struct a)/\a[f]?=some x/\P.info? x.type=some i/\off=x.offset/\s=i.size/\b=x.type:=by
 unfold pg at h
 split at h
 .rename_i a hu
  split at h
  .rename_i x c
   split at h
   .rename_i i hi
    simp only[U7,Vb] at h
    exact⟨a,x,i,hu,c,hi,h.1.symm,h.2.1.symm,h.2.2.symm⟩
   .simp at h
  .simp at h
 .simp at h
theorem EY {t:TypeId} {a:V} {x:Value} {f:Nat} (h:kH P t a f=some (v,aA,rd)) (l:ax Z μ w.heap a x) :
  bb Z μ w n v aA ((do pure (Next.value (<-Instr.fieldAt t x f)):Sem Next).run P w):=by
 unfold kH at h
 split at h
 .rename_i off s r g
  obtain⟨u,fd,i,hu,k,hi,rfl,rfl,rfl⟩:=tR g
  split at h
  .simp at h
  .rename_i m
   have c:∀ b o,(Instr.fieldAt t (.pointer (some ⟨b,o,none⟩)) f).run P w=.ok (.pointer (some ⟨b,o+fd.offset,none⟩)) w:=by
    intro b o
    simp[Instr.fieldAt,bj hu,k,Instr.sureAddr,fieldPlace,dn hi,m,iW]
   split at h
   .rename_i id p j
    obtain⟨b,o0,esz,hm,rfl⟩:=mM l
    simp only[U7,Vb] at h
    obtain⟨rfl,rfl,rfl⟩:=h
    refine bb.here (c _ _) ?_
    have:=ax.ptr (Z:=Z) (μ:=μ) (hp:=w.heap) id p (j+fd.offset) b o0 esz hm
    simpa [WV] using this
   .rename_i e j
    obtain⟨b,off,q,d,rfl⟩:=si l
    simp only[U7,Vb] at h
    obtain⟨rfl,rfl,rfl⟩:=h
    refine bb.here (c _ _) ?_
    have:=zi (w:=w) (j:=j+fd.offset) q d
    simpa [WV] using this
   .simp at h
 .simp at h
theorem Rq {t:TypeId} {cs:List V} {a:Array Value} {off:Nat} (h:pJ P t cs off=some v) (h1:cs.length=a.size) (e:∀ i,i < cs.length->ax Z μ w.heap (cs.getD i .any) (a.getD i undef)) :
  ∃ x,(part t a off).run P w=.ok x w/\ax Z μ w.heap v x:=by
 unfold pJ at h
 cases hi:P.info? t with
 | none=>simp[hi] at h
 | some i =>
  cases c:rB P t with
  | none=>simp[hi,c] at h
  | some g =>
   simp only[hi,c] at h
   cases g with
   | true =>
    simp only at h
    split at h
    .rename_i hle
     simp at h;subst h
     refine⟨.agg (a.extract off (off+i.size)),by simp[part,tv c,dn hi],?_⟩
     refine .agg _ _ (by simp;omega) (λk hk=>?_)
     have d:k < i.size:=by simp at hk;omega
     have:=e (off+k) (by omega)
     simp only[U5,Vi,Wo,WY,d,if_true,Array.getElem?_extract] at this ⊢
     rw[Va (by omega)]
     exact this
    .simp at h
   | false =>
    simp only at h
    split at h
    .rename_i hle
     simp at h;subst h
     have:=e off hle
     have b:off < a.size:=h1 ▸ hle
     refine⟨a[off],by simp[part,tv c,b],?_⟩
     simpa [U5,Vi,b] using this
    .simp at h
theorem NC {t:TypeId} {a:V} {x:Value} {f:Nat} (h:uH P t a f=some (v,aA,rd)) (e:ax Z μ w.heap a x) :
  bb Z μ w n v aA ((do pure (Next.value (<-Instr.field t x f)):Sem Next).run P w):=by
 unfold uH at h
 split at h
 .rename_i off s m cs b
  obtain⟨o,fd,i,hu,c,hi,rfl,rfl,rfl⟩:=tR b
  simp only[Vk] at h
  obtain⟨p,d,h⟩:=h
  simp only[Vb] at h
  obtain⟨rfl,rfl,rfl⟩:=h
  cases e with
  | agg _ g h1 j =>
   obtain⟨y,k,l⟩:=Rq (P:=P) d h1 j
   exact bb.here (by simp[Instr.field,bj hu,c,asAgg,k]) l
 .simp at h
theorem ki {a:V} {q:Nat} (h:asNat a=some q):∃ k,a=.val (.int k q):=by
 unfold asNat at h
 split at h
 .rename_i k z
  split at h
  .simp at h
   exact⟨k,by rw[<-h];congr 2;omega⟩
  .simp at h
 .simp at h
theorem eO {y x:Value} (h:ax Z μ w.heap (.val y) x):x=y:=by cases h;rfl
theorem EW {t:TypeId} {a i:V} {x y:Value} (h:kX P t a i=some (v,aA,rd)) (r:ax Z μ w.heap a x) (s:ax Z μ w.heap i y) :
  bb Z μ w n v aA ((do pure (Next.value (<-Instr.indexAt t x y)):Sem Next).run P w):=by
 unfold kX at h
 split at h
 .simp at h
 .rename_i q B
  obtain⟨k,rfl⟩:=ki B
  have s:=eO s
  subst s
  split at h
  .rename_i e hu
   split at h
   .simp at h
   .rename_i ti g
    split at h
    .rename_i id off len esz
     split at h
     .rename_i m
      obtain⟨d,rfl⟩:=m
      simp only[U7,Vb] at h
      obtain⟨rfl,rfl,rfl⟩:=h
      cases r with
      | qB=>omega
      | sl _ _ _ _ b o0 cap c e' f hm hle D E =>
       refine bb.here (x:=.pointer (some ⟨b,o0+off * ti.size+q * ti.size,none⟩)) ?_ ?_
       .simp[Instr.indexAt,asIntOf,bj hu,dn g,iW,d]
       .have:=ax.ptr (Z:=Z) (μ:=μ) (hp:=w.heap) id (off+q) 0 b o0 ti.size hm
        simpa [VO,WV] using this
     .simp at h
    .rename_i es
     split at h
     .rename_i m
      obtain⟨d,u⟩:=m
      simp only[U7,Vb] at h
      obtain⟨rfl,rfl,rfl⟩:=h
      cases r with
      | hU=>simp at d
      | aS _ b off esz cap c z hle l m C =>
       have o:esz=ti.size:=(l q d).symm.trans u
       subst o
       refine bb.here (x:=.pointer (some ⟨b,off+q * ti.size+0,none⟩)) ?_ ?_
       .simp[Instr.indexAt,asIntOf,bj hu,dn g,iW,d]
       .exact zi z (λk hk=>⟨c q k,m q k d (by rw[l q d] at hk;exact hk),C q k d (by rw[l q d] at hk;exact hk)⟩)
     .simp at h
    .simp at h
  .rename_i len e hu
   split at h
   .simp at h
   .rename_i ti g
    split at h
    .rename_i d
     split at h
     .rename_i id A j
      obtain⟨b,o0,esz,hm,rfl⟩:=mM r
      simp only[U7,Vb] at h
      obtain⟨rfl,rfl,rfl⟩:=h
      refine bb.here (x:=.pointer (some ⟨b,o0+A * esz+j+q * ti.size,none⟩)) ?_ ?_
      .simp[Instr.indexAt,Instr.sureAddr,asIntOf,bj hu,dn g,iW,d]
      .have:=ax.ptr (Z:=Z) (μ:=μ) (hp:=w.heap) id A (j+q * ti.size) b o0 esz hm
       simpa [WV] using this
     .rename_i e' j
      obtain⟨b,off,z,p,rfl⟩:=si r
      simp only[U7,Vb] at h
      obtain⟨rfl,rfl,rfl⟩:=h
      refine bb.here (x:=.pointer (some ⟨b,off+j+q * ti.size,none⟩)) ?_ ?_
      .simp[Instr.indexAt,Instr.sureAddr,asIntOf,bj hu,dn g,iW,d]
      .have:=zi (w:=w) (j:=j+q * ti.size) z p
       simpa [WV] using this
     .simp at h
    .simp at h
  .simp at h
end
section
variable {Z:Nat->Prop} {μ μ':Mu} {w w':World} {P:Program} {H:View} {n:Nat} {v:V} {aA:bk} {rd:List Nat}
def xu (Z:Nat->Prop) (μ:Mu) (hp:Array Obj):Option V->Option Value->Prop
 | none,none=>True
 | some v,some x=>ax Z μ hp v x
 | _,_=>False
theorem fw {o:Option V} {a:Option Value} {d q:Nat} (h:bound d o=some q) (b:xu Z μ w.heap o a):(a=none/\q=d)∨∃ k,a=some (.int k q):=by
 cases o with
 | none=>cases a with
  | none=>simp[bound] at h;exact .inl ⟨rfl,h.symm⟩
  | some x=>exact b.elim
 | some v=>cases a with
  | none=>exact b.elim
  | some x =>
   obtain⟨k,rfl⟩:=ki h
   exact .inr ⟨k,by rw[eO b]⟩
theorem dB {a:V} {x:Value} {m:Nat} (h:ax Z μ w.heap a x) (hm:dH a=some m):∃ ad cap,x=.slice ad m cap/\m<=cap:=by
 cases h with
 | emp k a=>simp[dH] at hm;subst hm;exact⟨_,_,rfl,Vh _⟩
 | er a cap=>simp[dH] at hm;subst hm;exact⟨_,_,rfl,We _⟩
 | hU a cap=>simp[dH] at hm;subst hm;exact⟨_,_,rfl,We _⟩
 | aS es b off esz cap c i hle d j l=>simp[dH] at hm;subst hm;exact⟨_,_,rfl,hle⟩
 | qB id off esz a=>simp[dH] at hm;subst hm;exact⟨_,_,rfl,Vh _⟩
 | sl id off len esz b o0 cap c e f g hle n o=>simp[dH] at hm;subst hm;exact⟨_,_,rfl,hle⟩
 | _=>simp[dH] at hm
theorem nY {len cap l h:Nat} {lo hi:Option Value} (a:(lo=none/\l=0)∨∃ k,lo=some (.int k l)) (b:(hi=none/\h=len)∨∃ k,hi=some (.int k h)) (h1:l<=h) (c:h<=cap) :
  (Instr.sliceBounds true len cap lo hi none).run P w=.ok (l,h,cap) w:=by
 rcases a with ⟨rfl,rfl⟩ | ⟨k,rfl⟩ <;> rcases b with ⟨rfl,rfl⟩ | ⟨d,rfl⟩ <;> simp[Instr.sliceBounds,Instr.sliceBound,asIntOf,h1,c]
theorem OU {t:TypeId} {a:V} {x:Value} {lo hi O:Option V} {s u y:Option Value} (h:rR P t a lo hi O=some (v,aA,rd)) (A:ax Z μ w.heap a x)
  (z:xu Z μ w.heap lo s) (q:xu Z μ w.heap hi u) (C:xu Z μ w.heap O y) :
  bb Z μ w n v aA ((do pure (Next.value (<-Instr.sliceAt t x s u y)):Sem Next).run P w):=by
 unfold rR at h
 cases hu:cR P t with
 | none=>simp[hu] at h
 | some e =>
  have E:P.underlying t=some (.slice e):=by
   unfold cR at hu;split at hu <;> simp_all
  cases D:P.info? e with
  | none=>simp[hu,D] at h
  | some ti =>
   simp only[hu,D] at h
   have g:∀ ad len cap l r m,(Instr.sliceBounds true len cap s u y).run P w=.ok (l,r,m) w ->
     (Instr.sliceAt t (.slice ad len cap) s u y).run P w=.ok (.slice (if m=l then ad else ad.map (·.add (l * ti.size))) (r - l) (m - l)) w:=by
    intro ad len cap l r m Q
    simp[Instr.sliceAt,Instr.slice,bj E,Q,dn D]
   cases O with
   | some m =>
    cases y with
    | none=>exact C.elim
    | some m' =>
     simp only at h
     split at h
     .rename_i o p R
      split at h
      .simp at h
      .rename_i F
       obtain⟨k3,rfl⟩:=ki R
       have S:=eO C
       subst S
       have G:∀ len cap,(Instr.sliceBounds true len cap s u (some (.int k3 ((0:Nat):Int)))).run P w=.ok (0,0,0) w:=by
        intro len cap
        rcases fw o z with ⟨rfl,_⟩ | ⟨k,rfl⟩ <;> rcases fw p q with ⟨rfl,_⟩ | ⟨k',rfl⟩
        .cases hi with
         | none=>simp at F
         | some _=>exact q.elim
        .simp[Instr.sliceBounds,Instr.sliceBound,asIntOf]
        .cases hi with
         | none=>simp at F
         | some _=>exact q.elim
        .simp[Instr.sliceBounds,Instr.sliceBound,asIntOf]
       have fin:∀ ad len cap,ax Z μ w.heap a (.slice ad len cap)->x=.slice ad len cap->bb Z μ w n (.emp 0) .none ((do pure (Next.value (<-Instr.sliceAt t x s u (some (.int k3 ((0:Nat):Int))))):Sem Next).run P w):=by
        intro ad len cap _ d
        subst d
        refine bb.here (g ad len cap 0 0 0 (G len cap)) ?_
        simpa using ax.emp (Z:=Z) (μ:=μ) (hp:=w.heap) 0 ad (by simp) (by simp)
       split at h
       .simp only[U7,Vb] at h
        obtain⟨rfl,rfl,rfl⟩:=h
        obtain⟨ad,cap,d,_⟩:=dB A rfl
        exact fin _ _ _ (d ▸ A) d
       .simp only[U7,Vb] at h
        obtain⟨rfl,rfl,rfl⟩:=h
        obtain⟨ad,cap,d,_⟩:=dB A rfl
        exact fin _ _ _ (d ▸ A) d
       .simp only[U7,Vb] at h
        obtain⟨rfl,rfl,rfl⟩:=h
        obtain⟨ad,cap,d,_⟩:=dB A rfl
        exact fin _ _ _ (d ▸ A) d
       .simp only[U7,Vb] at h
        obtain⟨rfl,rfl,rfl⟩:=h
        obtain⟨ad,cap,d,_⟩:=dB A rfl
        exact fin _ _ _ (d ▸ A) d
       .simp at h
     .simp at h
   | none =>
    cases y with
    | some _=>exact C.elim
    | none =>
     simp only at h
     split at h
     .rename_i id off len esz
      split at h
      .rename_i l r o p
       split at h
       .rename_i T
        obtain⟨h1,N,rfl⟩:=T
        simp only[U7,Vb] at h
        obtain⟨rfl,rfl,rfl⟩:=h
        cases A with
        | qB _ _ _ ad =>
         obtain rfl:l=0:=by omega
         obtain rfl:r=0:=by omega
         refine bb.here (g ad 0 0 0 0 0 (nY (fw o z) (fw p q) (by omega) (by omega))) ?_
         simpa using ax.qB (Z:=Z) (μ:=μ) (hp:=w.heap) id (off+0) ti.size ad
        | sl _ _ _ _ b o0 cap c e' f hm hle Q hs =>
         refine bb.here (g _ len cap l r cap (nY (fw o z) (fw p q) h1 (by omega))) ?_
         by_cases H:cap=l
         .have e1:r - l=0:=by omega
          have e2:cap - l=0:=by omega
          rw[Va H,e1,e2]
          exact ax.qB _ _ _ _
         .rw[U8 H]
          simp only[Ve,iW]
          have:=ax.sl (Z:=Z) (μ:=μ) (hp:=w.heap) id (off+l) (r - l) ti.size b o0 (cap - l) c e' f hm (by omega) Q (by rw[show off+l+(cap - l)=off+cap from by omega];exact hs)
          simpa [VO,WV] using this
       .simp at h
      .simp at h
     .rename_i es
      split at h
      .rename_i l r o p
       split at h
       .rename_i T
        obtain⟨h1,N,I⟩:=T
        simp only[U7,Vb] at h
        obtain⟨rfl,rfl,rfl⟩:=h
        cases A with
        | hU ad cap U =>
         simp at N
         obtain rfl:r=0:=by omega
         obtain rfl:l=0:=by omega
         refine bb.here (g ad 0 cap 0 0 cap (nY (fw o z) (fw p q) (by omega) (by omega))) ?_
         refine ax.hU _ _ (λhn=>?_)
         by_cases J:cap=0
         .omega
         .rw[U8 J] at hn
          cases ad with
          | none=>exact absurd (U rfl) J
          | some a=>simp at hn
        | aS _ b off esz cap c hz hle K W hv =>
         refine bb.here (g _ es.length cap l r cap (nY (fw o z) (fw p q) h1 (by omega))) ?_
         by_cases X:l=r
         .subst X
          simpa using ax.hU (Z:=Z) (μ:=μ) (hp:=w.heap) (if cap=l then some ⟨b,off,none⟩ else some (Addr.add ⟨b,off,none⟩ (l * ti.size))) (cap - l) (by split <;> simp)
         .have L:0 < es.length:=by omega
          have M:esz=ti.size:=by
           have h0:=K 0 L
           have:=Vr.1 I (es[0]) (Vg _)
           simp at this
           simp[U5,L] at h0
           omega
          subst M
          rw[U8 (by omega)]
          simp only[Ve,iW]
          have hlen:((es.drop l).take (r - l)).length=r - l:=by simp;omega
          have B:∀ i,i < r - l->((es.drop l).take (r - l)).getD i []=es.getD (l+i) []:=by
           intro i hi
           simp[U5,Wo,hi]
          have:=ax.aS (Z:=Z) (μ:=μ) (hp:=w.heap) ((es.drop l).take (r - l)) b (off+l * ti.size) ti.size (cap - l) (λi j=>c (l+i) j) hz (by omega)
           (λi hi=>by rw[hlen] at hi;rw[B i hi];exact K _ (by omega))
           (λi j hi Y=>by
            rw[hlen] at hi
            have:=W (l+i) j (by omega) Y
            rw[VO] at this
            rw[<-this];congr 1;omega)
           (λi j hi Y=>by rw[hlen] at hi;rw[B i hi];exact hv _ _ (by omega) Y)
          rw[hlen] at this
          exact this
       .simp at h
      .simp at h
     .split at h
      .rename_i o p
       simp only[U7,Vb] at h
       obtain⟨rfl,rfl,rfl⟩:=h
       cases A with
       | emp _ ad h1 N =>
        refine bb.here (g ad 0 0 0 0 0 (nY (fw o z) (fw p q) (by omega) (by omega))) ?_
        simpa using ax.emp (Z:=Z) (μ:=μ) (hp:=w.heap) _ ad h1 N
      .simp at h
     .simp at h
theorem wrap_small {q:Nat} (h:q < aD):IntKind.i64.wrap (q:Int)=q:=by
 unfold aD at h
 exact IntWalk.i64_in _ (by omega)
theorem iv {t:TypeId} {i:TypeInfo} {z:List V} (hi:P.info? t=some i) (h:zeroCells P t=some z):∃ a,i.zero=some a/\z=(fe a).cells:=by
 unfold zeroCells at h
 simp only[hi] at h
 cases b:i.zero with
 | none=>simp[b] at h
 | some a=>simp[b] at h;exact⟨a,rfl,h.symm⟩
theorem fv {i j s l:Nat} (hi:i < l) (a:j < s):i * s+j < l * s:=by
 have:(i+1) * s<=l * s:=VH _ hi
 rw[VO] at this;omega
theorem EO {t:TypeId} {a b:V} {x y:Value} (h:kG P t a b n=some (v,aA,rd)) (C:ax Z μ w.heap a x) (D:ax Z μ w.heap b y) (c:Ctx Z μ w.heap H rd n aA) :
  bb Z μ w n v aA ((do pure (Next.value (<-Instr.makeSlice t x y)):Sem Next).run P w):=by
 unfold kG at h
 cases hu:cR P t with
 | none=>simp[hu] at h
 | some e =>
  have r:P.underlying t=some (.slice e):=by
   unfold cR at hu;split at hu <;> simp_all
  cases d:P.info? e with
  | none=>simp[hu,d] at h
  | some ti =>
   simp only[hu,d] at h
   split at h
   .rename_i l f N O
    obtain⟨Q,rfl⟩:=ki N
    obtain⟨k2,rfl⟩:=ki O
    have C:=eO C
    have D:=eO D
    subst C D
    split at h
    .rename_i m
     obtain⟨h1,R,S⟩:=m
     have T:IntKind.i64.wrap (l:Int)=l:=wrap_small (by omega)
     have U:IntKind.i64.wrap (f:Int)=f:=wrap_small R
     have g1:¬ (((ti.bytes:Int) * (f:Int)) > 2 ^ 48):=by
      have:((ti.bytes * f:Nat):Int) < 2 ^ 48:=by unfold aD at S;omega
      push_cast at this;omega
     have k:∀ s:Array Value,(f * ti.size=0/\s = #[])∨(f * ti.size≠0/\∃ g,(zeroValue e).run P w=.ok g w/\s=g.cells) ->
       (Instr.makeSlice t (.int Q (l:Int)) (.int k2 (f:Int))).run P w=.ok (.slice (some ⟨w.heap.size,0,none⟩) l f) (w.alloc (.cells ((Array.range (f * ti.size)).map (s[· % s.size]!)) e)):=by
      intro s E
      have g2:¬ ((f:Int) < 0):=by omega
      have g3:¬ ((l:Int) < 0):=by omega
      have g4:¬ ((l:Int) > (f:Int)):=by omega
      simp only[Instr.makeSlice,Sem.run_bind,bj r,Result.andThen_ok,asInt,asIntOf,Sem.run_pure,pj d,T,U]
      simp only[g1,g2,g3,g4,decide_false,Bool.or_false,Xa,VE,if_false,Sem.run_bind,run_askRoom,Result.andThen_ok,dn d,VD]
      rcases E with ⟨o,rfl⟩ | ⟨o,g,p,rfl⟩
      .simp[o,newRow,dn d]
      .simp[o,newRow,dn d,p]
     split at h
     .rename_i F
      subst F
      simp only[U7,Vb] at h
      obtain⟨rfl,rfl,rfl⟩:=h
      obtain rfl:l=0:=by omega
      exact bb.value (k #[] (.inl ⟨by simp,rfl⟩)) (.emp 2 _ (by simp) (by simp)) (iC _ _) ⟨rfl,en _ _⟩
     .split at h
      .simp at h
      .rename_i L W
       split at h
       .simp at h
       .rename_i z E
        split at h
        .rename_i G
         obtain⟨q,u⟩:=G
         simp only[U7,Vb] at h
         obtain⟨rfl,rfl,rfl⟩:=h
         obtain⟨g,p,rfl⟩:=iv d E
         have hr:=fW (ga (Z:=Z) (μ:=μ) (w:=w) g) u
         have I:g.cells.size=ti.size:=by rw[<-q,hr.1];simp
         have M:(Array.range (f * ti.size)).size=f * ti.size:=by simp
         have A:f * ti.size≠0:=by
          intro o;rcases Nat.mul_eq_zero.1 o with o | o <;> contradiction
         refine bb.value (μ':=μ.set n (w.heap.size,0,ti.size)) (k g.cells (.inr ⟨A,g,jo d p w,rfl⟩)) ?_ (iC _ _) ?_
         .have:=ax.sl (Z:=Z) (μ:=μ.set n (w.heap.size,0,ti.size)) (hp:=(w.alloc (.cells ((Array.range (f * ti.size)).map (g.cells[· % g.cells.size]!)) e)).heap) n 0 l ti.size w.heap.size 0 f _ e (0,0) (by simp[Mu.set]) h1 (by rw[heap_alloc];simp;rfl) (by simp)
          simpa using this
         .refine⟨w.heap.size,0,ti.size,Vh _,by rw[heap_alloc];simp,rfl,en _ _,?_⟩
          refine dR.newRow c.new c.cQ ?_ ?_ ?_
          .simp;exact VH _ h1
          .intro i hi;simp at hi;simp[U5,hi,q]
          .intro i j hi J
           simp at hi
           have K:i * ti.size+j < f * ti.size:=fv (by omega) J
           have B:(i * ti.size+j) % ti.size=j:=by
            rw[Nat.mul_comm,Nat.mul_add_mod];exact Nat.mod_eq_of_lt J
           refine⟨g.cells[j]'(by omega),?_,?_⟩
           .simp[K,I,B,getElem!_pos g.cells j (by omega)]
           .have:=hr.2 j (by rw[q];exact J)
            simpa [U5,hi,show j < g.cells.size from by omega] using this
        .simp at h
    .simp at h
   .simp at h
end
section
variable {Z:Nat->Prop} {μ μ':Mu} {w w':World} {P:Program} {H:View} {n:Nat} {v:V} {aA:bk} {rd:List Nat}
structure Flat (Z:Nat->Prop) (μ:Mu) (hp:Array Obj) (size:Nat) (xs:List (List V)) (fl:Array Value):Prop where
 len:fl.size=xs.length * size
 rel:∀ i j,i < xs.length->j < size->ax Z μ hp ((xs.getD i []).getD j .any) (fl.getD (i * size+j) undef)
theorem uJ {b off size N:Nat} {c:Nat->Nat->Value} (h:∀ i j,i < N->j < size->cellAt w.heap b (off+i * size+j)=some (c i j)) {m:Nat} (hm:m<=N) :
  (loadCells ⟨b,off,none⟩ (m * size)).run P w=.ok ((((List.range (N * size)).map λk=>c (k / size) (k % size)).toArray).extract 0 (m * size)) w:=by
 have hle:m * size<=N * size:=VH _ hm
 rw[run_loadCells w ⟨b,off,none⟩ (m * size) (λk=>c (k / size) (k % size)) (λk hk=>?_)]
 .congr 1
  apply Array.ext_getElem?
  intro k
  simp only[VX,Array.getElem?_extract,U9,List.getElem?_range']
  by_cases hk:k < m * size
  .simp[hk,show k < N * size from by omega,W8 hm]
  .simp[hk,W8 hm]
 .have d:0 < size:=by
   rcases Nat.eq_zero_or_pos size with a | a
   .subst a;simp at hk
   .exact a
  have h1:k / size < m:=(Nat.div_lt_iff_lt_mul d).2 hk
  have e:k % size < size:=Nat.mod_lt _ d
  rw[iW,ry,<-h (k / size) (k % size) (by omega) e]
  congr 1
  have:=Nat.div_add_mod k size
  rw[Nat.mul_comm] at this
  omega
theorem EC {size N:Nat} {c:Nat->Nat->Value} {xs:List (List V)} (d:xs.length=N) (h:∀ i j,i < N->j < size->ax Z μ w.heap ((xs.getD i []).getD j .any) (c i j)) :
  Flat Z μ w.heap size xs ((List.range (N * size)).map λk=>c (k / size) (k % size)).toArray:=by
 refine⟨by simp[d],λi j hi a=>?_⟩
 have b:i * size+j < N * size:=fv (by omega) a
 have h1:(i * size+j) / size=i:=by
  rw[Nat.mul_comm,Nat.mul_add_div (by omega),Nat.div_eq_of_lt a];simp
 have e:(i * size+j) % size=j:=by
  rw[Nat.mul_comm,Nat.mul_add_mod];exact Nat.mod_eq_of_lt a
 simpa [Vi,b,h1,e] using h i j (by omega) a
theorem qZ {ad:Option Addr} {cap size m:Nat} (hm:m<=0):(Builtin.firstCells size m (.slice ad 0 cap)).run P w=.ok ((#[]:Array Value).extract 0 (m * size)) w:=by
 obtain rfl:m=0:=by omega
 cases ad with
 | none=>simp[Builtin.firstCells]
 | some a=>simp[Builtin.firstCells,loadCells,loadCellsFrom]
theorem bsize (s:ByteArray):s.data.toList.length=s.size:=by rw[Array.length_toList];rfl
theorem pr {x:V} {C:Value} {xs:List (List V)} {size:Nat} (h:cm H x=some (xs,rd)) (d:ax Z μ w.heap x C) (u:∀ id,id∈rd->dR Z μ w.heap id (H id))
  (r:∀ e∈xs,e.length=size) :
  ∃ v,Flat Z μ w.heap size xs v/\(Builtin.lenOf C).run P w=.ok xs.length w/\∀ m,m<=xs.length->(Builtin.firstCells size m C).run P w=.ok (v.extract 0 (m * size)) w:=by
 have nil:∀ (ad:Option Addr) cap,∃ v,Flat Z μ w.heap size [] v/\(Builtin.lenOf (.slice ad 0 cap)).run P w=.ok ([]:List (List V)).length w /\
   ∀ m,m<=([]:List (List V)).length->(Builtin.firstCells size m (.slice ad 0 cap)).run P w=.ok (v.extract 0 (m * size)) w :=
  λad cap=>⟨#[],⟨by simp,λi j hi=>by simp at hi⟩,by simp[Builtin.lenOf],λm hm=>qZ (by simpa using hm)⟩
 unfold cm at h
 split at h
 .simp only[U7,Vb] at h
  obtain⟨rfl,rfl⟩:=h
  obtain⟨ad,cap,rfl,_⟩:=dB d rfl
  exact nil ad cap
 .simp only[U7,Vb] at h
  obtain⟨rfl,rfl⟩:=h
  obtain⟨ad,cap,rfl,_⟩:=dB d rfl
  exact nil ad cap
 .rename_i es
  simp only[U7,Vb] at h
  obtain⟨rfl,rfl⟩:=h
  cases d with
  | hU a cap=>exact nil a cap
  | aS _ b off esz cap c R hle D M y =>
   by_cases k:es=[]
   .subst k;exact nil _ cap
   .have t:0 < es.length:=WR.2 k
    have:esz=size:=by
     have h1:=D 0 t
     have E:=r es[0] (Vg _)
     simp[U5,t] at h1
     omega
    subst this
    exact⟨_,EC rfl y,by simp[Builtin.lenOf],λm hm=>uJ M hm⟩
 .simp only[U7,Vb] at h
  obtain⟨rfl,rfl⟩:=h
  obtain⟨ad,cap,rfl,_⟩:=dB d rfl
  exact nil ad cap
 .rename_i id off len esz hlen
  split at h
  .rename_i J es hH
   split at h
   .rename_i hle
    simp only[U7,Vb] at h
    obtain⟨rfl,rfl⟩:=h
    cases d with
    | qB=>exact(hlen rfl).elim
    | sl _ _ _ _ b o0 cap c e' f hm K S T =>
     have z:=u id (by simp)
     rw[hH] at z
     obtain⟨rfl,_,N,O⟩:=z b o0 esz hm
     have g:((es.drop off).take len).length=len:=by simp;omega
     have l:∀ i,i < len->((es.drop off).take len).getD i []=es.getD (off+i) []:=by
      intro i hi;simp[U5,Wo,hi]
     have A:0 < len:=by
      rcases Nat.eq_zero_or_pos len with t | t
      .exact(hlen t).elim
      .exact t
     have:esz=size:=by
      have h1:=N off (by omega)
      have E:=r (((es.drop off).take len)[0]'(by omega)) (Vg _)
      have L:=l 0 A
      simp only[U5,U6 (show 0 < ((es.drop off).take len).length by omega),Vo] at L
      rw[L] at E
      simp only[U5,WZ] at h1 E
      omega
     subst this
     have d:∀ i,∃ ci:Nat->Value,∀ j,j < esz->i < len->cellAt w.heap b (o0+off * esz+i * esz+j)=some (ci j)/\ax Z μ w.heap ((((es.drop off).take len).getD i []).getD j .any) (ci j):=by
      intro i
      by_cases hi:i < len
      .obtain⟨ci,F⟩:=nI (n:=esz) (p:=λj x=>cellAt w.heap b (o0+off * esz+i * esz+j)=some x/\ax Z μ w.heap ((((es.drop off).take len).getD i []).getD j .any) x) (λj o=>by
        obtain⟨x,d,y⟩:=O (off+i) j (by omega) o
        rw[VO,<-WV] at d
        exact⟨x,d,by rw[l i hi];exact y⟩)
       exact⟨ci,λj o _=>F j o⟩
      .exact⟨λ_=>undef,λj _ h=>absurd h hi⟩
     obtain⟨Q,B⟩:=Classical.axiomOfChoice d
     refine⟨_,EC (c:=Q) g (λi j hi o=>(B i j o hi).2),by simp[Builtin.lenOf];omega,λm hm=>?_⟩
     rw[g] at hm
     exact uJ (λi j hi o=>(B i j o hi).1) hm
   .simp at h
  .simp at h
 .rename_i s
  simp only[U7,Vb] at h
  obtain⟨rfl,rfl⟩:=h
  have y:=eO d
  subst y
  have q:(s.data.toList.map λb=>([V.val (Value.int .u8 b.toNat)]:List V)).length=s.size:=by rw[Vl,bsize]
  have hlen:(Builtin.lenOf (.string s)).run P w=.ok s.size w:=rfl
  by_cases G:s.size=0
  .refine⟨#[],⟨by rw[q,G];simp,λi j hi=>by rw[q] at hi;omega⟩,by rw[q];exact hlen,λm hm=>?_⟩
   rw[q] at hm
   obtain rfl:m=0:=by omega
   have:(s.extract 0 0).data = #[]:=by rw[ByteArray.data_extract];simp
   simp[Builtin.firstCells,this]
  .have:size=1:=by
    have k:0 < s.data.toList.length:=by rw[bsize];omega
    have:=r [V.val (Value.int .u8 (s.data.toList[0]).toNat)] (Vv.2 ⟨_,Vg k,rfl⟩)
    simpa using this.symm
   subst this
   refine⟨s.data.map λb=>.int .u8 b.toNat,⟨by rw[q,Array.size_map,Nat.mul_one];rfl,λi j hi o=>?_⟩,by rw[q];exact hlen,λm hm=>?_⟩
   .obtain rfl:j=0:=by omega
    have I:i < s.data.size:=by rw[q] at hi;exact hi
    simp only[U5,Vi,U9,Array.getElem?_toList,Array.getElem?_map,Nat.mul_one,WZ,Vp I,Ve,Vo,Vu]
    exact ax.val _ rfl
   .rw[q] at hm
    simp only[Builtin.firstCells,Sem.run_pure,Nat.mul_one]
    congr 1
    rw[ByteArray.data_extract,Array.map_extract]
 .simp at h
theorem OT {size:Nat} {xs:List (List V)} {b:Array Value} (h:Flat Z μ w.heap size xs b) (m:Nat) (hm:m<=xs.length):Flat Z μ w.heap size (xs.take m) (b.extract 0 (m * size)):=by
 have hle:m * size<=xs.length * size:=VH _ hm
 have e:(b.extract 0 (m * size)).size=m * size:=by rw[Array.size_extract,h.len];omega
 refine⟨by rw[e,VS,W8 hm],λi j hi c=>?_⟩
 have a:i < m:=by simp at hi;omega
 have:=h.rel i j (by omega) c
 have f:i * size+j < m * size:=fv a c
 have d:i * size+j < b.size:=by rw[h.len];omega
 simp only[U5,Vi,Wo,a,if_true,Array.getElem?_extract] at this ⊢
 rw[Va (by omega),V2]
 exact this
theorem Ac {size:Nat} {xs:List (List V)} {d:Array Value} (h:Flat Z μ w.heap size xs d) (j:∀ e∈xs,e.length=size) (f:∀ e∈xs,e.all aJ=true):∀ x∈d.toList,x.oneCell'=true:=by
 intro x l
 obtain⟨k,hk,rfl⟩:=Wi l
 have c:k < xs.length * size:=by rw[<-h.len];simpa using hk
 have a:0 < size:=by
  rcases Nat.eq_zero_or_pos size with g | g
  .subst g;simp at c
  .exact g
 have h1:k / size < xs.length:=(Nat.div_lt_iff_lt_mul a).2 c
 have m:k % size < size:=Nat.mod_lt _ a
 have:=h.rel (k / size) (k % size) h1 m
 have e:k / size * size+k % size=k:=by rw[Nat.mul_comm];exact Nat.div_add_mod k size
 rw[e] at this
 have i:k < d.size:=by simpa using hk
 simp only[Vi,Vp i,Vo] at this
 have b:xs[k / size]∈xs:=Vg _
 have hlen:=j _ b
 simp only[U5,U6 h1,Vo,U6 (show k % size < (xs[k / size]).length by omega)] at this
 have:=uL this (Vr.1 (f _ b) _ (Vg _))
 simpa using this
theorem tZ {b off:Nat} {c:Array Value} {e:TypeId} {f:Nat × Nat} (d:w.heap[b]?=some (.cells c e f)) (g:∀ k,k < c.size->¬ (f.1<=k/\k < f.2)) (xs:List Value)
  (l:off+xs.length<=c.size) (h:∀ x∈xs,x.oneCell'=true) :
  ∃ a,(storeCells ⟨b,off,none⟩ xs).run P w=.ok () { w with heap:=w.heap.setIfInBounds b (.cells a e f) }/\a.size=c.size /\
   ∀ k,cellAt (w.heap.setIfInBounds b (.cells a e f)) b k=if off<=k/\k < off+xs.length then xs[k - off]? else cellAt w.heap b k:=by
 obtain⟨a,h1,i,j⟩:=ks (P:=P) (b:=b) (off:=off) (e:=e) (f:=f) xs 0 c w d g (by omega) h
 refine⟨a,h1,i,λk=>?_⟩
 have:=j k
 simp only[WZ] at this
 simp only[cellAt,dL (eE d),d]
 exact this
theorem DT:aD=70368744177664:=by decide
theorem Ic {t0 t1 e:TypeId} {ti:TypeInfo} {a:Array TypeId} {ty:TypeId} {base:Option Addr} {sLen sCap m:Nat} {l:Value} {old new u:Array Value}
  (n:a[0]?=some t0) (o:a[1]?=some t1) (b:pG P t1=true) (c:P.underlying t0=some (.slice e)) (f:P.info? e=some ti)
  (x:(Builtin.lenOf l).run P w=.ok m w) (p:sCap < sLen+m) (y:(sLen+m) * ti.bytes < aD) (z:sLen+m < aD)
  (A:∀ w',∃ q,(zeroValue e).run P w'=.ok q w'/\q.cells=u)
  (B:(Builtin.firstCells ti.size sLen (.slice base sLen sCap)).run P w.drew=.ok old w.drew) (C:(Builtin.firstCells ti.size m l).run P w.drew=.ok new w.drew) :
  ∃ cap,sLen+m<=cap/\(Builtin.append_ a ty #[.slice base sLen sCap,l]).run P w =
   .ok (.slice (some ⟨w.heap.size,0,none⟩) (sLen+m) cap) (w.drew.alloc (.cells (old ++ new ++ Builtin.zeroCells u (cap - (sLen+m))) e)):=by
 have hint:∃ d,P.underlying t1=some d/\∀ k,d≠.int k:=by
  unfold pG at b
  cases hu:P.underlying t1 with
  | none=>simp[hu] at b
  | some d=>refine⟨d,rfl,λk e=>?_⟩;subst e;simp[hu] at b
 obtain⟨d,D,r⟩:=hint
 have v:=DT
 have g:=growslice_fits p (show (sLen+m) * ti.bytes<=140737488355328 by omega)
 have h:¬ (((sLen+m:Nat):Int) > IntKind.i64.max):=by
  have:IntKind.i64.max=9223372036854775807:=by decide
  rw[this];omega
 have i:¬ (Builtin.nextslicecap (sLen+m) sCap * ti.bytes > 2 ^ 48):=by
  have:(2:Nat) ^ 48=281474976710656:=by decide
  rw[this];exact Nat.not_lt.2 g
 obtain⟨q,s,t⟩:=A w.drew
 refine⟨Question.cut (.appendCap (sLen+m) sCap e) (w.tape w.drawn (.appendCap (sLen+m) sCap e)),Nat.le_add_right _ _,?_⟩
 have j:Question.forced (.appendCap (sLen+m) sCap e)=false:=rfl
 subst t
 cases d with
 | int k=>exact absurd rfl (r k)
 | _ =>
 simp only[Builtin.append_,VX,Vu,VW,n,o,Sem.run_bind,bj c,Result.andThen_ok,dn f,bj D,Sem.run_pure,VE,if_false,x,Bool.not_false,if_true]
 rw[U8 (by omega)]
 simp only[h,false_and,if_false,Sem.run_bind,pj f,Result.andThen_ok,Sem.run_ite,Sem.run_pure,i,run_choose,j,VE,World.drew_eq,run_askRoom,B,C,s,newRow,run_newObj,World.alloc_eq]
 rfl
end
end Gv
