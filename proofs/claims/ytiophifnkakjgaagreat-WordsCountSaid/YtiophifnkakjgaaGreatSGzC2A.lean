/-
  Part 1 of the proof: what the machine does and what the functions answer.
  Conditions: those that each lemma names.
-/
import Derived.WalkKit
set_option linter.unusedSimpArgs false
set_option linter.unusedVariables false
set_option maxRecDepth 100000
set_option maxHeartbeats 20000000
namespace Gv
open Go
theorem OH:type_of% @List.getD_eq_getElem?_getD:=@List.getD_eq_getElem?_getD
theorem OI:type_of% @List.getElem?_eq_getElem:=@List.getElem?_eq_getElem
theorem OJ:type_of% @Option.some.injEq:=@Option.some.injEq
theorem OK:type_of% @if_neg:=@if_neg
theorem OL:type_of% @Prod.mk.injEq:=@Prod.mk.injEq
theorem OM:type_of% @if_pos:=@if_pos
theorem ON:type_of% @List.getElem?_map:=@List.getElem?_map
theorem OO:type_of% @Bool.and_eq_true:=@Bool.and_eq_true
theorem OP:type_of% @Array.getD_eq_getD_getElem?:=@Array.getD_eq_getD_getElem?
theorem OQ:type_of% @Option.map_eq_some_iff:=@Option.map_eq_some_iff
theorem OR:type_of% @Nat.le_refl:=@Nat.le_refl
theorem OS:type_of% @Option.getD_some:=@Option.getD_some
theorem OT:type_of% @decide_eq_true_eq:=@decide_eq_true_eq
theorem OU:type_of% @Option.map_some:=@Option.map_some
theorem OV:type_of% @List.getElem?_eq_some_iff:=@List.getElem?_eq_some_iff
theorem OW:type_of% @List.getElem_mem:=@List.getElem_mem
theorem OX:type_of% @List.length_map:=@List.length_map
theorem OY:type_of% @List.length_cons:=@List.length_cons
theorem OZ:type_of% @Array.getElem?_eq_getElem:=@Array.getElem?_eq_getElem
theorem O0:type_of% @Nat.lt_of_lt_of_le:=@Nat.lt_of_lt_of_le
theorem O1:type_of% @List.mem_cons:=@List.mem_cons
theorem O2:type_of% @List.mem_of_getElem?:=@List.mem_of_getElem?
theorem O3:type_of% @List.foldl_cons:=@List.foldl_cons
theorem O4:type_of% @List.getElem?_cons_zero:=@List.getElem?_cons_zero
theorem O5:type_of% @List.getElem?_eq_none:=@List.getElem?_eq_none
theorem O6:type_of% @List.getElem?_append_left:=@List.getElem?_append_left
theorem O7:type_of% @List.all_eq_true:=@List.all_eq_true
theorem O8:type_of% @List.take_of_length_le:=@List.take_of_length_le
theorem O9:type_of% @List.mem_map:=@List.mem_map
theorem Pa:type_of% @List.map_cons:=@List.map_cons
theorem Pb:type_of% @Bool.false_eq_true:=@Bool.false_eq_true
theorem Pc:type_of% @List.length_nil:=@List.length_nil
theorem Pd:type_of% @Classical.byContradiction:=@Classical.byContradiction
theorem Pe:type_of% @List.take_add_one:=@List.take_add_one
theorem Pf:type_of% @Nat.mul_le_mul_right:=@Nat.mul_le_mul_right
theorem Pg:type_of% @List.mem_append:=@List.mem_append
theorem Ph:type_of% @List.getElem?_append_right:=@List.getElem?_append_right
theorem Pj:type_of% @Option.bind_some:=@Option.bind_some
theorem Pk:type_of% @Nat.add_mul:=@Nat.add_mul
theorem Pl:type_of% @List.getElem?_set_self:=@List.getElem?_set_self
theorem Pm:type_of% @List.mem_range:=@List.mem_range
theorem Pn:type_of% @Nat.lt_or_ge:=@Nat.lt_or_ge
theorem Po:type_of% @List.drop_eq_nil_of_le:=@List.drop_eq_nil_of_le
theorem Pp:type_of% @Nat.le_trans:=@Nat.le_trans
theorem Pq:type_of% @List.getElem?_cons_succ:=@List.getElem?_cons_succ
theorem Pr:type_of% @List.getElem?_toArray:=@List.getElem?_toArray
theorem Ps:type_of% @List.nodup_cons:=@List.nodup_cons
theorem Pt:type_of% @Array.getElem?_setIfInBounds:=@Array.getElem?_setIfInBounds
theorem Pu:type_of% @List.mem_cons_of_mem:=@List.mem_cons_of_mem
theorem Pv:type_of% @Nat.min_eq_left:=@Nat.min_eq_left
theorem Pw:type_of% @List.getElem?_replicate:=@List.getElem?_replicate
theorem Px:type_of% @Nat.mul_comm:=@Nat.mul_comm
theorem Py:type_of% @List.mem_zipIdx_iff_getElem?:=@List.mem_zipIdx_iff_getElem?
theorem Pz:type_of% @Bool.true_and:=@Bool.true_and
theorem PA:type_of% @Nat.zero_add:=@Nat.zero_add
theorem PB:type_of% @beq_iff_eq:=@beq_iff_eq
theorem PC:type_of% @List.mem_filter:=@List.mem_filter
theorem PD:type_of% @List.cons_append:=@List.cons_append
theorem PE:type_of% @List.getElem?_set_ne:=@List.getElem?_set_ne
theorem PF:type_of% @Nat.pow_le_pow_right:=@Nat.pow_le_pow_right
theorem PG:type_of% @List.length_append:=@List.length_append
theorem PH:type_of% @List.all_cons:=@List.all_cons
theorem PI:type_of% @Bool.eq_iff_iff:=@Bool.eq_iff_iff
theorem PJ:type_of% @Int.toNat_natCast:=@Int.toNat_natCast
theorem PK:type_of% @List.nil_append:=@List.nil_append
theorem PL:type_of% @Nat.zero_le:=@Nat.zero_le
theorem PM:type_of% @List.length_take:=@List.length_take
theorem PN:type_of% @List.foldl_append:=@List.foldl_append
theorem PO:type_of% @decide_eq_true:=@decide_eq_true
theorem PQ:type_of% @List.map_nil:=@List.map_nil
theorem PR:type_of% @List.append_assoc:=@List.append_assoc
theorem PS:type_of% @List.length_eq_zero_iff:=@List.length_eq_zero_iff
theorem PT:type_of% @List.getElem?_take:=@List.getElem?_take
theorem PU:type_of% @List.mem_singleton:=@List.mem_singleton
theorem PV:type_of% @Nat.pow_succ:=@Nat.pow_succ
theorem PW:type_of% @List.map_append:=@List.map_append
theorem PX:type_of% @Nat.mod_eq_of_lt:=@Nat.mod_eq_of_lt
theorem PY:type_of% @List.getD_cons_zero:=@List.getD_cons_zero
theorem PZ:type_of% @List.size_toArray:=@List.size_toArray
theorem P0:type_of% @BitVec.getLsbD_or:=@BitVec.getLsbD_or
theorem P1:type_of% @Nat.add_assoc:=@Nat.add_assoc
theorem P2:type_of% @Bool.false_and:=@Bool.false_and
theorem P3:type_of% @List.mem_cons_self:=@List.mem_cons_self
theorem P4:type_of% @Array.getElem?_append_left:=@Array.getElem?_append_left
theorem P5:type_of% @List.nodup_iff_pairwise_ne:=@List.nodup_iff_pairwise_ne
theorem P6:type_of% @Array.getElem?_eq_none:=@Array.getElem?_eq_none
theorem P7:type_of% @of_decide_eq_true:=@of_decide_eq_true
theorem P8:type_of% @List.getD_cons_succ:=@List.getD_cons_succ
theorem P9:type_of% @List.filterMap_cons:=@List.filterMap_cons
theorem Qa:type_of% @List.drop_eq_getElem_cons:=@List.drop_eq_getElem_cons
theorem Qb:type_of% @Nat.div_lt_iff_lt_mul:=@Nat.div_lt_iff_lt_mul
theorem Qc:type_of% @List.getElem?_drop:=@List.getElem?_drop
theorem Qd:type_of% @Nat.add_zero:=@Nat.add_zero
theorem Qe:type_of% @Nat.mul_assoc:=@Nat.mul_assoc
theorem Qf:type_of% @Array.replicate_succ:=@Array.replicate_succ
theorem Qg:type_of% @Array.replicate_zero:=@Array.replicate_zero
theorem Qh:type_of% @List.getElem?_set:=@List.getElem?_set
theorem Qi:type_of% @Bool.or_eq_true:=@Bool.or_eq_true
theorem Qj:type_of% @List.range_succ:=@List.range_succ
theorem Qk:type_of% @Array.getElem?_push:=@Array.getElem?_push
theorem Ql:type_of% @List.getElem_of_mem:=@List.getElem_of_mem
theorem Qm:type_of% @List.append_toArray:=@List.append_toArray
theorem Qn:type_of% @Bool.false_or:=@Bool.false_or
theorem Qo:type_of% @congrArg:=@congrArg
theorem Qp:type_of% @List.mem_filterMap:=@List.mem_filterMap
theorem Qq:type_of% @List.mem_of_mem_take:=@List.mem_of_mem_take
theorem Qr:type_of% @Option.some.inj:=@Option.some.inj
theorem Qs:type_of% @List.push_toArray:=@List.push_toArray
theorem Qt:type_of% @decide_eq_false_iff_not:=@decide_eq_false_iff_not
theorem Qu:type_of% @List.map_congr_left:=@List.map_congr_left
theorem Qv:type_of% @List.not_mem_nil:=@List.not_mem_nil
theorem Qw:type_of% @List.take_length:=@List.take_length
theorem Qx:type_of% @List.length_set:=@List.length_set
theorem Qy:type_of% @Bool.not_true:=@Bool.not_true
theorem Qz:type_of% @Bool.not_eq_true':=@Bool.not_eq_true'
theorem QA:type_of% @List.all_eq_false:=@List.all_eq_false
theorem QB:type_of% @List.pairwise_map:=@List.pairwise_map
theorem QC:type_of% @Nat.mod_lt:=@Nat.mod_lt
theorem QD:type_of% @bne_iff_ne:=@bne_iff_ne
inductive V where
 | any
 | val (v:Value)
 | emp (k:Nat)
 | dn
 | aX (es:List (List V))
 | sl (id off len esz:Nat)
 | ptr (id i j:Nat)
 | aC (e:List V) (j:Nat)
 | mp (id:Nat)
 | fn (f:FuncId) (first cap:List V)
 | agg (cs:List V)
 | aU (vs:List V)
 deriving Inhabited
inductive bp where
 | dead
 | arr (esz:Nat) (es:List (List V))
 | map (es:List (V × V × Nat)) (clock:Nat)
 | sG (s:ByteArray) (pos:Nat)
 deriving Inhabited
abbrev aw:=List bp
abbrev View:=Nat->bp
def aw.view (h:aw):View:=λid=>h.getD id .dead
inductive aM where
 | none
 | new (o:bp)
 | dP (id:Nat) (o:bp)
 | cF (id:Nat) (o:bp)
def aM.fresh (free:Prop):aM->Prop
 | .new _ | .cF _ _=>free
 | _=>True
def aM.apply (h:aw):aM->aw
 | .none=>h
 | .new o=>h ++ [o]
 | .dP id o=>h.set id o
 | .cF id o=>h.set id .dead ++ [o]
def plain:Value->Bool
 | .bool _ | .int _ _ | .float _ _ | .complex _ _ _ | .string _ | .pointer none | .map none | .nilFunc | .nilIface=>true
 | _=>false
def kV:Value->V
 | .slice none 0 0=>.emp 1
 | .slice _ _ _=>.any
 | v=>if plain v then .val v else .any
def dJ:Value->V
 | .agg cs=>.agg (cs.toList.map kV)
 | .func (.func f) a b=>if a.size=0/\b.size=0 then .fn f [] [] else .any
 | v=>kV v
def toCell:V->Option Value
 | .val v=>some v
 | _=>none
def rT:List V->Option (List Value)
 | []=>some []
 | v :: r=>match toCell v,rT r with
  | some x,some y=>some (x :: y)
  | _,_=>none
def bO:V->Option Value
 | .val v=>some v
 | .agg cs=>(rT cs).map λl=>.agg l.toArray
 | _=>none
def V.cells:V->List V
 | .agg cs=>cs
 | v=>[v]
def aD:V->Bool
 | .any | .agg _ | .aU _=>false
 | _=>true
def aT {α:Type} (P:Program):Sem α->Option α
 | .pure a=>some a
 | .program k=>aT P (k P)
 | _=>none
abbrev Env:=Nat->V
def Env.put (T:Env) (d:Option Nat) (v:V):Env:=match d with
 | some d=>λt=>if t=d then v else T t
 | none=>T
def ev (T:Env):Operand->V
 | .tmp t=>T t
 | .const v=>dJ v
 | .global _=>.any
 | .func f=>.fn f [] []
def bG (P:Program) (t:TypeId):Option TypeId:=match P.underlying t with
 | some (.slice e)=>some e
 | _=>none
def zeroCells (P:Program) (t:TypeId):Option (List V):=match P.info? t with
 | some i=>match i.zero with
  | some v=>some (dJ v).cells
  | none=>none
 | none=>none
def l0 (P:Program) (t:TypeId) (f:Nat):Option (Nat × Nat × TypeId):=match P.underlying t with
 | some (.struct fs)=>match fs[f]? with
  | some x=>match P.info? x.type with
   | some i=>some (x.offset,i.size,x.type)
   | none=>none
  | none=>none
 | _=>none
def asNat:V->Option Nat
 | .val (.int _ q)=>if 0<=q then some q.toNat else none
 | _=>none
def oX (P:Program) (t:TypeId):Option Bool:=match P.underlying t with
 | some (.struct _) | some (.array _ _)=>some true
 | some _=>some false
 | none=>none
def mG (P:Program) (t:TypeId) (cs:List V) (off:Nat):Option V:=match P.info? t,oX P t with
 | some i,some true=>if off+i.size<=cs.length then some (.agg ((cs.drop off).take i.size)) else none
 | some _,some false=>if off < cs.length then some (cs.getD off .any) else none
 | _,_=>none
def dE (e:List V) (j:Nat) (cs:List V):List V:=e.take j ++ cs ++ e.drop (j+cs.length)
def bz (n:Nat):V:=.val (.int .i64 n)
def bD (H:View):V->Option (List (List V) × List Nat)
 | .emp _ | .dn=>some ([],[])
 | .aX es=>some (es,[])
 | .sl _ _ 0 _=>some ([],[])
 | .sl id off len _=>match H id with
  | .arr _ es=>if off+len<=es.length then some ((es.drop off).take len,[id]) else none
  | _=>none
 | .val (.string s)=>some (s.data.toList.map λb=>[.val (.int .u8 b.toNat)],[])
 | _=>none
def aB:Nat:=2 ^ 46
def nj:List (List V)->Option (List UInt8)
 | []=>some []
 | [.val (.int .u8 n)] :: r=>(nj r).map (UInt8.ofNat n.toNat :: ·)
 | _=>none
def eX:List (V × V × Nat)->Option (List MapEntry)
 | []=>some []
 | (k,_,b) :: r=>match bO k,eX r with
  | some x,some y=>some ({ key:=x,val:=.nilFunc,born:=b } :: y)
  | _,_=>none
def jJ (P:Program) (kt:TypeId) (k:V) (empty:Bool) (es:List (V × V × Nat)):Option (Option Nat):=match bO k,eX es with
 | some x,some l=>match aT P (Instr.checkKey empty 10000 kt x >>= λ_=>Instr.findKey kt x l) with
  | some (some (i,_))=>some (some i)
  | some none=>some none
  | none=>none
 | _,_=>none
def cU (P:Program) (t:TypeId):Option (TypeId × TypeId):=match P.underlying t with
 | some (.map k e)=>some (k,e)
 | _=>none
def zeroV (P:Program) (t:TypeId):Option V:=match P.info? t with
 | some i=>match i.zero with
  | some v=>some (dJ v)
  | none=>none
 | none=>none
abbrev Out:=Option (V × aM × List Nat)
def jM (P:Program) (t:TypeId) (a:V) (H:View):Out:=match a with
 | .ptr id i j=>match H id with
  | .arr _ es=>if i < es.length then (mG P t (es.getD i []) j).map λv=>(v,.none,[id]) else none
  | _=>none
 | .aC e j=>(mG P t e j).map λv=>(v,.none,[])
 | _=>none
def nz (P:Program) (t:TypeId) (a v:V) (H:View):Out:=match a with
 | .ptr id i j=>match H id with
  | .arr esz es =>
   if i < es.length/\v.cells.length=P.cellsOf t/\j+v.cells.length<=esz/\v.cells.all aD=true/\(P.info? t).isSome=true
   then some (.any,.dP id (.arr esz (es.set i (dE (es.getD i []) j v.cells))),[id]) else none
  | _=>none
 | _=>none
def iY (cs:List V) (n:Nat):Out :=
 if cs.all aD=true then some (.ptr n 0 0,.new (.arr cs.length [cs]),[]) else none
def iR (size:Nat):List (List V)->List (Nat × V)->Option (List (List V))
 | es,[]=>some es
 | es,(i,x) :: r=>if x.cells.length=size/\i < es.length/\x.cells.all aD=true then iR size (es.set i x.cells) r else none
def e9 (P:Program) (t:TypeId) (len:Nat) (parts:List (Nat × V)) (n:Nat):Out:=match bG P t with
 | none=>none
 | some e=>match P.info? e with
  | none=>none
  | some i =>
   if len * i.size > 2 ^ 24 then none
   else if len=0 then (if parts.isEmpty then some (.emp 2,.none,[]) else none)
   else if i.size=0 then none
   else match zeroCells P e with
    | none=>none
    | some z=>if z.length=i.size/\z.all aD=true then
      match iR i.size (List.replicate len z) parts with
      | some es=>some (.sl n 0 len i.size,.new (.arr i.size es),[])
      | none=>none
     else none
def sK (place:Nat->Option (Nat × Nat)):List V->List (Nat × V)->Option (List V)
 | cs,[]=>some cs
 | cs,(i,x) :: r=>match place i with
  | none=>none
  | some (off,size)=>if x.cells.length=size/\off+size<=cs.length/\x.cells.all aD=true then sK place (dE cs off x.cells) r else none
def placeOf (P:Program) (t:TypeId) (i:Nat):Option (Nat × Nat):=(l0 P t i).map λ(a,b,_)=>(a,b)
def jh (P:Program) (t:TypeId):Bool:=match P.underlying t with
 | some (.struct fs)=>fs.toList.all λf=>(P.info? f.type).isSome
 | _=>false
def qY (P:Program) (t:TypeId) (parts:List (Nat × V)):Out:=match P.underlying t,zeroV P t with
 | some (.struct _),some (.agg z)=>if jh P t=true then (sK (placeOf P t) z parts).map λcs=>(.agg cs,.none,[]) else none
 | _,_=>none
def iH (P:Program) (t:TypeId) (x:V) (f:Nat):Out:=match l0 P t f with
 | some (off,s,_)=>if s=0 then none else match x with
  | .ptr id i j=>some (.ptr id i (j+off),.none,[])
  | .aC e j=>some (.aC e (j+off),.none,[])
  | _=>none
 | none=>none
def rA (P:Program) (t:TypeId) (x:V) (f:Nat):Out:=match l0 P t f,x with
 | some (off,_,ft),.agg cs=>(mG P ft cs off).map λv=>(v,.none,[])
 | _,_=>none
def iP (P:Program) (t:TypeId) (x i:V):Out:=match asNat i with
 | none=>none
 | some q=>match P.underlying t with
  | some (.slice e)=>match P.info? e with
   | none=>none
   | some ti=>match x with
    | .sl id off len esz=>if q < len/\esz=ti.size then some (.ptr id (off+q) 0,.none,[]) else none
    | .aX es=>if q < es.length/\(es.getD q []).length=ti.size then some (.aC (es.getD q []) 0,.none,[]) else none
    | _=>none
  | some (.array len e)=>match P.info? e with
   | none=>none
   | some ti=>if q < len then match x with
    | .ptr id i j=>some (.ptr id i (j+q * ti.size),.none,[])
    | .aC e j=>some (.aC e (j+q * ti.size),.none,[])
    | _=>none
    else none
  | _=>none
def bound (d:Nat):Option V->Option Nat
 | none=>some d
 | some v=>asNat v
def pf (P:Program) (t:TypeId) (x:V) (lo hi mx:Option V):Out:=match bG P t with
 | none=>none
 | some e=>match P.info? e with
  | none=>none
  | some ti=>match mx with
   | some m=>match bound 0 lo,bound 0 hi,asNat m with
    | some 0,some 0,some 0=>if hi.isNone then none else match x with
     | .sl _ _ _ _ | .aX _ | .emp _ | .dn=>some (.emp 0,.none,[])
     | _=>none
    | _,_,_=>none
   | none=>match x with
    | .sl id off len esz=>match bound 0 lo,bound len hi with
     | some l,some h=>if l<=h/\h<=len/\esz=ti.size then some (.sl id (off+l) (h - l) esz,.none,[]) else none
     | _,_=>none
    | .aX es=>match bound 0 lo,bound es.length hi with
     | some l,some h=>if l<=h/\h<=es.length/\(es.all λe=>e.length == ti.size)=true then some (.aX ((es.drop l).take (h - l)),.none,[]) else none
     | _,_=>none
    | .emp k=>match bound 0 lo,bound 0 hi with
     | some 0,some 0=>some (.emp k,.none,[])
     | _,_=>none
    | _=>none
def iE (P:Program) (t:TypeId) (len cap:V) (n:Nat):Out:=match bG P t with
 | none=>none
 | some e=>match P.info? e with
  | none=>none
  | some ti=>match asNat len,asNat cap with
   | some l,some c =>
    if l<=c/\c < aB/\ti.bytes * c < aB then
     (
      if c=0 then some (.emp 2,.none,[])
      else if ti.size=0 then none
      else match zeroCells P e with
       | none=>none
       | some z=>if z.length=ti.size/\z.all aD=true then some (.sl n 0 l ti.size,.new (.arr ti.size (List.replicate l z)),[]) else none)
    else none
   | _,_=>none
def kG (P:Program) (at0:TypeId) (s x:V) (H:View) (n:Nat):Out:=match bG P at0,bD H x with
 | some e,some (xs,rd)=>match P.info? e with
  | none=>none
  | some ti =>
   if xs.isEmpty then (match s with
    | .emp _ | .dn | .aX _ | .sl _ _ _ _=>some (s,.none,[])
    | _=>none)
   else if ti.size=0∨¬ ((zeroCells P e).map List.length=some ti.size)∨¬ ((xs.all λe=>e.length == ti.size && e.all aD)=true) then none
   else match s with
    | .emp _=>if xs.length * ti.bytes < aB/\xs.length < aB then some (.sl n 0 xs.length ti.size,.new (.arr ti.size xs),rd) else none
    | .sl id off len esz=>match H id with
     | .arr _ es =>
      if off+len<=es.length/\esz=ti.size/\(len+xs.length) * ti.bytes < aB/\len+xs.length < aB
      then some (.sl n 0 (len+xs.length) esz,.cF id (.arr esz ((es.drop off).take len ++ xs)),id :: rd) else none
     | _=>none
    | _=>none
 | _,_=>none
def C4 (P:Program) (at0:TypeId) (x:V):Out:=match bG P at0,x with
 | some _,.emp _=>some (bz 0,.none,[])
 | _,_=>none
def sO (P:Program) (at0:TypeId) (s x:V) (n:Nat):Out:=match bG P at0,asNat x,s with
 | some e,some l,.emp k=>match P.info? e,zeroCells P e with
  | some ti,some z=>if l=0 then some (.emp k,.none,[]) else if z.length=ti.size/\z.all aD=true/\ti.size≠0/\l * ti.bytes < aB/\l < aB then some (.sl n 0 l ti.size,.new (.arr ti.size (List.replicate l z)),[]) else none
  | _,_=>none
 | _,_,_=>none
def jW:List (List V)->Nat->List (List V)->List (List V)
 | es,_,[]=>es
 | es,i,x :: r=>jW (es.set i x) (i+1) r
def dh:V->Option Nat
 | .emp _ | .dn=>some 0
 | .aX es=>some es.length
 | .sl _ _ len _=>some len
 | _=>none
def xl (P:Program) (at0:TypeId) (d x:V) (H:View):Out:=match bG P at0,bD H x,dh d with
 | some e,some (xs,rd),some dl=>match P.info? e with
  | none=>none
  | some ti =>
   if (xs.take dl).isEmpty then some (bz 0,.none,[])
   else match d with
    | .sl id off len esz=>match H id with
     | .arr _ es =>
      if off+len<=es.length/\esz=ti.size/\ti.size≠0/\((xs.all λe=>e.length == ti.size && e.all aD)=true)
      then some (bz (xs.take dl).length,.dP id (.arr esz (jW es off (xs.take dl))),id :: rd) else none
     | _=>none
    | _=>none
 | _,_,_=>none
def uA (P:Program) (at0:TypeId) (d:V) (H:View):Out:=match bG P at0,dh d with
 | some e,some dl=>if dl=0 then some (.aU [],.none,[]) else match d,P.info? e,zeroCells P e with
  | .sl id off len esz,some ti,some z=>match H id with
   | .arr _ es=>if off+len<=es.length/\esz=ti.size/\ti.size≠0/\z.length=ti.size/\z.all aD=true then some (.aU [],.dP id (.arr esz (jW es off (List.replicate len z))),[id]) else none
   | _=>none
  | _,_,_=>none
 | _,_=>none
def dG (P:Program) (t:TypeId) (m k:V) (ok:Bool) (H:View):Out:=match cU P t with
 | none=>none
 | some (kt,et)=>match zeroV P et with
  | none=>none
  | some z =>
   let fin (v:V) (b:Bool) (rd:List Nat):Out:=some (if ok then .aU [v,.val (.bool b)] else v,.none,rd)
   match m with
   | .mp id=>match H id with
    | .map es _=>match jJ P kt k es.isEmpty es with
     | some (some i)=>match es[i]? with
      | some (_,v,_)=>fin v true [id]
      | none=>none
     | some none=>fin z false [id]
     | none=>none
    | _=>none
   | _=>none
def sameKey (old new:V):Bool:=match bO old,bO new with
 | some a,some b=>Instr.sameBits 10000 a b
 | _,_=>false
def ep (P:Program) (t:TypeId) (m k v:V) (H:View):Out:=match cU P t,m with
 | some (kt,_),.mp id=>match H id with
  | .map es c=>match jJ P kt k false es with
   | some (some i)=>match es[i]? with
    | some (k0,_,b)=>if sameKey k0 k=true then some (.any,.dP id (.map (es.set i (k,v,b)) c),[id]) else none
    | none=>none
   | some none=>some (.any,.dP id (.map (es ++ [(k,v,c)]) (c+1)),[id])
   | none=>none
  | _=>none
 | _,_=>none
def cM (P:Program) (t:TypeId) (m k:V) (H:View):Out:=match cU P t,m with
 | some (kt,et),.mp id=>match H id with
  | .map es c=>match jJ P kt k false es with
   | some (some i)=>match es[i]? with
    | some (k0,v,b)=>if sameKey k0 k=true then some (.aU [v,bz b],.dP id (.map (es.set i (k,v,b)) c),[id]) else none
    | none=>none
   | some none=>match zeroV P et with
    | some z=>some (.aU [z,bz c],.dP id (.map (es ++ [(k,z,c)]) (c+1)),[id])
    | none=>none
   | none=>none
  | _=>none
 | _,_=>none
def gP (m s v:V) (H:View):Out:=match m,asNat s with
 | .mp id,some q=>match H id with
  | .map es c=>match es.findIdx? (λe=>e.2.2 == q) with
   | some i=>match es[i]? with
    | some (k,_,b)=>some (.any,.dP id (.map (es.set i (k,v,b)) c),[id])
    | none=>none
   | none=>none
  | _=>none
 | _,_=>none
def rP (P:Program) (t:TypeId) (m k:V) (H:View):Out:=match cU P t,m with
 | some (kt,_),.mp id=>match H id with
  | .map es c=>match jJ P kt k es.isEmpty es with
   | some (some i)=>some (.any,.dP id (.map (es.eraseIdx i) c),[id])
   | some none=>some (.any,.none,[id])
   | none=>none
  | _=>none
 | _,_=>none
def qN (P:Program) (t:TypeId) (x:V) (H:View):Out:=match P.underlying t with
 | some (.slice _)=>(dh x).map λn=>(bz n,.none,[])
 | some (.map _ _)=>match x with
  | .mp id=>match H id with
   | .map es _=>some (bz es.length,.none,[id])
   | _=>none
  | .val (.map none)=>some (bz 0,.none,[])
  | _=>none
 | some .string=>match x with
  | .val (.string s)=>some (bz s.size,.none,[])
  | _=>none
 | some (.array n _)=>some (bz n,.none,[])
 | _=>none
def xD (x:V) (H:View):Out:=match x with
 | .ptr id 0 0=>match H id with
  | .sG s pos =>
   if pos < s.size then
    some (.aU [.val (.bool true),bz pos,.val (.int .i32 (Utf8.decode s pos).1)],.dP id (.sG s (pos+(Utf8.decode s pos).2)),[id])
   else some (.aU [.val (.bool false)],.none,[id])
  | _=>none
 | _=>none
def eC (s:ByteArray):List (List V):=s.data.toList.map λb=>[.val (.int .u8 b.toNat)]
def ik (P:Program) (s d:TypeId):Bool:=match P.underlying s,P.underlying d with
 | some (.slice _),_=>true
 | _,some (.slice _)=>true
 | _,_=>false
def jT (P:Program) (s d:TypeId) (x:V) (H:View) (n:Nat):Out:=match P.underlying s,P.underlying d,x with
 | some (.slice e),some .string,x=>match P.underlying e with
  | some (.int .u8)=>match bD H x,dh x with
   | some (xs,rd),some _=>(nj xs).map λl=>(.val (.string ⟨l.toArray⟩),.none,rd)
   | _,_=>none
  | _=>none
 | some .string,some (.slice e),.val (.string s)=>match P.underlying e with
  | some (.int .u8)=>some (.sl n 0 s.size 1,.new (.arr 1 (eC s)),[])
  | _=>none
 | some (.slice _),some (.slice e),.sl id off len esz=>if s=d/\len≠0 then (match P.underlying e with
  | some (.int .u8)=>match H id with
   | .arr z es=>some (.sl id off len esz,.dP id (.arr z es),[id])
   | _=>none
  | _=>none) else none
 | _,_,_=>none
def dq:Nat->V->Option Bool
 | 0,.emp 1=>some true
 | 0,.emp 2 | 0,.dn=>some false
 | 0,.sl _ _ (_+1) _=>some false
 | 0,.aX (_ :: _)=>some false
 | 1,.ptr _ _ _ | 1,.aC _ _ | 2,.mp _ | 3,.fn _ _ _=>some false
 | 1,.val (.pointer none) | 2,.val (.map none) | 3,.val .nilFunc=>some true
 | _,_=>none
def gn (P:Program) (t:TypeId):Option Nat:=match P.underlying t with
 | some (.slice _)=>some 0
 | some (.pointer _)=>some 1
 | some (.map _ _)=>some 2
 | some (.func _ _ _)=>some 3
 | _=>none
def yK (P:Program) (t:TypeId) (x y:V):Option Bool:=match gn P t with
 | some k=>match dq k x,dq k y with
  | some true,some b=>some b
  | some b,some true=>some b
  | _,_=>none
 | none=>none
def cw (P:Program) (o:Oper) (T:Env):Out :=
 if o.op.operands.all (λx=>(bO (ev T x)).isSome)=true then
  match aT P (execOp (λx=>(bO (ev T x)).getD undef) o) with
  | some (.value v)=>if plain v then some (.val v,.none,[]) else none
  | _=>none
 else none
def isStr (P:Program) (o:Op):Bool:=match o with
 | .range t _=>(match P.underlying t with | some .string=>true | _=>false)
 | _=>false
def mH (P:Program) (t:TypeId):Bool:=match P.underlying t with
 | some (.int _)=>false
 | some _=>true
 | none=>false
def isInt (P:Program) (t:TypeId):Bool:=match P.underlying t with
 | some (.int _)=>true
 | _=>false
def bo (P:Program) (o:Oper) (T:Env) (H:View) (n:Nat):Out:=match o.op with
 | .move x | .assign x=>some (ev T x,.none,[])
 | .pick c a b=>match ev T c with
  | .val (.bool t)=>some (if t then ev T a else ev T b,.none,[])
  | _=>none
 | .alloc e=>match zeroCells P e with
  | some z=>iY z n
  | none=>none
 | .box _ x=>iY (ev T x).cells n
 | .build t parts=>qY P t (parts.toList.map λ(i,x)=>(i,ev T x))
 | .buildSlice t len parts=>e9 P t len (parts.toList.map λ(i,x)=>(i,ev T x)) n
 | .load t a=>jM P t (ev T a) H
 | .store t a v=>nz P t (ev T a) (ev T v) H
 | .nilCheck x=>match ev T x with
  | .ptr id i j=>some (.ptr id i j,.none,[])
  | .aC e j=>some (.aC e j,.none,[])
  | .fn f a b=>some (.fn f a b,.none,[])
  | _=>none
 | .fieldAddr t x f=>iH P t (ev T x) f
 | .field t x f=>rA P t (ev T x) f
 | .indexAddr t x i=>iP P t (ev T x) (ev T i)
 | .slice t x lo hi mx=>match ev T x with
  | .val _=>cw P o T
  | y=>pf P t y (lo.map (ev T)) (hi.map (ev T)) (mx.map (ev T))
 | .makeSlice t l c=>iE P t (ev T l) (ev T c) n
 | .makeMap _ r=>match r with
  | none=>some (.mp n,.new (.map [] 0),[])
  | some _=>none
 | .makeFunc (.func f) first cap=>some (.fn f (first.toList.map (ev T)) (cap.toList.map (ev T)),.none,[])
 | .lookup t m k ok=>dG P t (ev T m) (ev T k) ok H
 | .mapUpdate t m k v=>ep P t (ev T m) (ev T k) (ev T v) H
 | .insert t m k v=>ep P t (ev T m) (ev T k) (ev T v) H
 | .mapEntry t m k=>cM P t (ev T m) (ev T k) H
 | .entryStore _ m s v=>gP (ev T m) (ev T s) (ev T v) H
 | .extract t i=>match ev T t with
  | .aU vs=>if i < vs.length then some (vs.getD i .any,.none,[]) else none
  | _=>none
 | .range _ x=>match ev T x with
  | .val (.string s)=>if isStr P o.op=true then some (.ptr n 0 0,.new (.sG s 0),[]) else none
  | _=>none
 | .next it true=>xD (ev T it) H
 | .convert s d x=>if ik P s d=true then jT P s d (ev T x) H n else cw P o T
 | .call { callee:=.builtin b,args,argTypes }=>match b,args.toList with
  | .len,[x]=>if 1<=argTypes.size then qN P (argTypes.getD 0 0) (ev T x) H else none
  | .append,[s,x]=>if 2<=argTypes.size/\mH P (argTypes.getD 1 0)=true then kG P (argTypes.getD 0 0) (ev T s) (ev T x) H n else if 2<=argTypes.size/\isInt P (argTypes.getD 1 0)=true then sO P (argTypes.getD 0 0) (ev T s) (ev T x) n else none
  | .cap,[x]=>if 1<=argTypes.size then C4 P (argTypes.getD 0 0) (ev T x) else none
  | .copy,[d,x]=>if 1<=argTypes.size then xl P (argTypes.getD 0 0) (ev T d) (ev T x) H else none
  | .delete,[m,k]=>if 1<=argTypes.size then rP P (argTypes.getD 0 0) (ev T m) (ev T k) H else none
  | .clear,[d]=>if 1<=argTypes.size then uA P (argTypes.getD 0 0) (ev T d) H else none
  | .min,_ | .max,_ | .complex,_ | .real,_ | .imag,_=>cw P o T
  | _,_=>none
 | .binOp op t x y _=>if (gn P t).isSome=true then (match op,yK P t (ev T x) (ev T y) with
   | .eql,some b=>some (.val (.bool b),.none,[])
   | .neq,some b=>some (.val (.bool (!b)),.none,[])
   | _,_=>none)
  else cw P o T
 | .unOp .. | .index ..=>cw P o T
 | _=>none
abbrev Mu:=Nat->Option (Nat × Nat × Nat)
def cellAt (hp:Array Obj) (b k:Nat):Option Value:=match hp[b]? with
 | some (.cells c _ _)=>c[k]?
 | _=>none
theorem oZ (w:World) (b k:Nat):w.cell? ⟨b,k,none⟩=cellAt w.heap b k:=by
 simp only[World.cell?,cellAt]
 cases w.heap[b]? with
 | none=>rfl
 | some o=>cases o <;> simp
inductive aq (Z:Nat->Prop) (μ:Mu) (hp:Array Obj):V->Value->Prop
 | any (x:Value):aq Z μ hp .any x
 | val (v:Value):plain v=true->aq Z μ hp (.val v) v
 | emp (k:Nat) (a:Option Addr):(k=1->a=none)->(k=2->a≠none)->aq Z μ hp (.emp k) (.slice a 0 0)
 | dn (a:Addr) (cap:Nat):aq Z μ hp .dn (.slice (some a) 0 cap)
 | fy (a:Option Addr) (cap:Nat):(a=none->cap=0)->aq Z μ hp (.aX []) (.slice a 0 cap)
 | aX (es:List (List V)) (b off esz cap:Nat) (c:Nat->Nat->Value):Z b->es.length<=cap ->
  (∀ i,i < es.length->(es.getD i []).length=esz) ->
  (∀ i j,i < es.length->j < esz->cellAt hp b (off+i * esz+j)=some (c i j)) ->
  (∀ i j,i < es.length->j < esz->aq Z μ hp ((es.getD i []).getD j .any) (c i j)) ->
  aq Z μ hp (.aX es) (.slice (some ⟨b,off,none⟩) es.length cap)
 | nq (id off esz:Nat) (a:Option Addr):aq Z μ hp (.sl id off 0 esz) (.slice a 0 0)
 | sl (id off len esz b o0 cap:Nat) (c:Array Value) (e:TypeId) (f:Nat × Nat):μ id=some (b,o0,esz)->len<=cap ->
  hp[b]?=some (.cells c e f)->o0+(off+cap) * esz<=c.size ->
  aq Z μ hp (.sl id off len esz) (.slice (some ⟨b,o0+off * esz,none⟩) len cap)
 | ptr (id i j b o0 esz:Nat):μ id=some (b,o0,esz)->aq Z μ hp (.ptr id i j) (.pointer (some ⟨b,o0+i * esz+j,none⟩))
 | aC (e:List V) (j b off:Nat) (c:Nat->Value):Z b->(∀ k,k < e.length->cellAt hp b (off+k)=some (c k)) ->
  (∀ k,k < e.length->aq Z μ hp (e.getD k .any) (c k))->aq Z μ hp (.aC e j) (.pointer (some ⟨b,off+j,none⟩))
 | mp (id b o0 esz:Nat):μ id=some (b,o0,esz)->aq Z μ hp (.mp id) (.map (some b))
 | fn (f:FuncId) (xs ys:List V) (aas bs:Array Value):xs.length=aas.size->ys.length=bs.size ->
  (∀ i,i < xs.length->aq Z μ hp (xs.getD i .any) (aas.getD i undef))->(∀ i,i < ys.length->aq Z μ hp (ys.getD i .any) (bs.getD i undef)) ->
  aq Z μ hp (.fn f xs ys) (.func (.func f) aas bs)
 | agg (cs:List V) (aas:Array Value):cs.length=aas.size->(∀ i,i < cs.length->aq Z μ hp (cs.getD i .any) (aas.getD i undef))->aq Z μ hp (.agg cs) (.agg aas)
 | aU (cs:List V) (aas:Array Value):cs.length=aas.size->(∀ i,i < cs.length->aq Z μ hp (cs.getD i .any) (aas.getD i undef))->aq Z μ hp (.aU cs) (.tuple aas)
def er (Z:Nat->Prop) (μ:Mu) (hp:Array Obj) (vs:List V) (xs:List Value):Prop :=
 vs.length=xs.length/\∀ i,i < vs.length->aq Z μ hp (vs.getD i .any) (xs.getD i undef)
def dQ (hp hp':Array Obj):Prop:=∀ (b:Nat) (c:Array Value) (e:TypeId) (f:Nat × Nat),hp[b]?=some (.cells c e f)->∃ (c':Array Value) (f':Nat × Nat),hp'[b]?=some (.cells c' e f')/\c'.size=c.size
theorem dQ.refl (hp:Array Obj):dQ hp hp:=λ_ c _ f h=>⟨c,f,h,rfl⟩
theorem dQ.trans {a b c:Array Obj} (h:dQ a b) (k:dQ b c):dQ a c:=λi x e f d =>
 let ⟨c1,f1,h1,s1⟩:=h i x e f d
 let ⟨c2,f2,g,s2⟩:=k i c1 e f1 h1
 ⟨c2,f2,g,s2.trans s1⟩
structure eL (Z Z':Nat->Prop) (μ μ':Mu) (hp hp':Array Obj):Prop where
 z:∀ b,Z b->Z' b
 zz:∀ b,Z b->hp'[b]?=hp[b]?
 mu:∀ id x,μ id=some x->μ' id=some x
 shape:dQ hp hp'
theorem eL.refl (Z:Nat->Prop) (μ:Mu) (hp:Array Obj):eL Z Z μ μ hp hp:=⟨λ_ h=>h,λ_ _=>rfl,λ_ _ h=>h,dQ.refl _⟩
theorem eL.trans {Z f e:Nat->Prop} {μ μ' d:Mu} {a b c:Array Obj} (h:eL Z f μ μ' a b) (k:eL f e μ' d b c):eL Z e μ d a c :=
 ⟨λi hi=>k.z i (h.z i hi),λi hi=>(k.zz i (h.z i hi)).trans (h.zz i hi),λi x g=>k.mu i x (h.mu i x g),h.shape.trans k.shape⟩
theorem tU {hp a:Array Obj} {b:Nat} (h:a[b]?=hp[b]?) (k:Nat):cellAt a b k=cellAt hp b k:=by simp[cellAt,h]
theorem aq.mono {Z u:Nat->Prop} {μ μ':Mu} {hp l:Array Obj} (m:eL Z u μ μ' hp l) {v:V} {x:Value} (h:aq Z μ hp v x):aq u μ' l v x:=by
 induction h with
 | any x=>exact .any x
 | val v w=>exact .val v w
 | emp k a h1 o=>exact .emp k a h1 o
 | dn a cap=>exact .dn a cap
 | fy a cap h1=>exact .fy a cap h1
 | aX es b off esz cap c n hle p q _ g=>exact .aX es b off esz cap c (m.z _ n) hle p (λi j hi y=>by rw[tU (m.zz _ n)];exact q i j hi y) g
 | nq id off esz a=>exact .nq id off esz a
 | sl id off len esz b o0 cap c e f hm hle A F =>
  obtain⟨B,C,r,D⟩:=m.shape b c e f A
  exact .sl id off len esz b o0 cap B e C (m.mu _ _ hm) hle r (by omega)
 | ptr id i j b o0 esz hm=>exact .ptr id i j b o0 esz (m.mu _ _ hm)
 | aC e j b off c n q _ g=>exact .aC e j b off c (m.z _ n) (λk hk=>by rw[tU (m.zz _ n)];exact q k hk) g
 | mp id b o0 esz hm=>exact .mp id b o0 esz (m.mu _ _ hm)
 | fn f xs ys d E h1 o _ _ s t=>exact .fn f xs ys d E h1 o s t
 | agg cs d h1 _ g=>exact .agg cs d h1 g
 | aU cs d h1 _ g=>exact .aU cs d h1 g
def cO (Z:Nat->Prop) (μ:Mu) (hp:Array Obj) (id:Nat):bp->Prop
 | .dead=>True
 | .arr esz es=>∀ b o0 s,μ id=some (b,o0,s)->s=esz /\
  (∃ (c:Array Value) (e:TypeId) (f:Nat × Nat),hp[b]?=some (.cells c e f)/\(f.1=f.2∨c.size<=f.1)/\o0+es.length * esz<=c.size) /\
  (∀ i,i < es.length->(es.getD i []).length=esz) /\
  (∀ i j,i < es.length->j < esz->∃ x,cellAt hp b (o0+i * esz+j)=some x/\aq Z μ hp ((es.getD i []).getD j .any) x)
 | .map es clock=>∀ b o0 s,μ id=some (b,o0,s)->∃ a:Array MapEntry,hp[b]?=some (.map a clock)/\a.size=es.length /\
  ∀ i,i < es.length->∃ y,a[i]?=some y/\aq Z μ hp (es.getD i default).1 y.key/\aq Z μ hp (es.getD i default).2.1 y.val/\y.born=(es.getD i default).2.2
 | .sG s pos=>∀ b o0 t,μ id=some (b,o0,t)->o0=0/\hp[b]?=some (.stringIter s pos)
theorem cO.mono {Z q:Nat->Prop} {μ μ':Mu} {hp g:Array Obj} (m:eL Z q μ μ' hp g) {id:Nat} {o:bp} (h:cO Z μ hp id o)
  (k:μ' id=μ id) (l:∀ b o0 s,μ id=some (b,o0,s)->g[b]?=hp[b]?):cO q μ' g id o:=by
 cases o with
 | dead=>trivial
 | arr esz es =>
  intro b o0 s d
  rw[k] at d
  obtain⟨h1,⟨c,e,f,r,u,n⟩,p,v⟩:=h b o0 s d
  refine⟨h1,⟨c,e,f,by rw[l b o0 s d];exact r,u,n⟩,p,λi j hi w=>?_⟩
  obtain⟨x,z,A⟩:=v i j hi w
  exact⟨x,by rw[tU (l b o0 s d)];exact z,A.mono m⟩
 | map es clock =>
  intro b o0 s d
  rw[k] at d
  obtain⟨a,B,n,p⟩:=h b o0 s d
  refine⟨a,by rw[l b o0 s d];exact B,n,λi hi=>?_⟩
  obtain⟨y,C,D,k2,E⟩:=p i hi
  exact⟨y,C,D.mono m,k2.mono m,E⟩
 | sG s pos =>
  intro b o0 t d
  rw[k] at d
  obtain⟨h1,F⟩:=h b o0 t d
  exact⟨h1,by rw[l b o0 t d];exact F⟩
structure fc (Z:Nat->Prop) (μ:Mu) (hp:Array Obj) (H:View):Prop where
 obj:∀ id,cO Z μ hp id (H id)
 inj:∀ i j b o s o' s',i≠j->μ i=some (b,o,s)->μ j=some (b,o',s')->H i=.dead∨H j=.dead
 lt:∀ id b o s,μ id=some (b,o,s)->b < hp.size
 bE:∀ b,Z b->b < hp.size
 eU:∀ id b o s,μ id=some (b,o,s)->¬ Z b
def Mu.set (μ:Mu) (n:Nat) (x:Nat × Nat × Nat):Mu:=λid=>if id=n then some x else μ id
def View.set (H:View) (n:Nat) (o:bp):View:=λid=>if id=n then o else H id
def aM.view (H:View) (n:Nat):aM->View
 | .none=>H
 | .new o=>H.set n o
 | .dP id o=>H.set id o
 | .cF id o=>(H.set id .dead).set n o
structure c8 (w w':World):Prop where
 os:w'.os=w.os
 tape:w'.tape=w.tape
 output:w'.output=w.output
 size:w.heap.size<=w'.heap.size
theorem c8.refl (w:World):c8 w w:=⟨rfl,rfl,rfl,OR _⟩
theorem c8.trans {a b c:World} (h:c8 a b) (k:c8 b c):c8 a c:=⟨k.os.trans h.os,k.tape.trans h.tape,k.output.trans h.output,Pp h.size k.size⟩
def ee (hp hp':Array Obj) (p:Nat->Prop):Prop:=∀ b,b < hp.size->¬ p b->hp'[b]?=hp[b]?
def kX (Z:Nat->Prop) (μ μ':Mu) (hp hp':Array Obj) (n:Nat):aM->Prop
 | .none=>μ'=μ/\ee hp hp' (λ_=>False)
 | .new o=>∃ b o0 s,hp.size<=b/\b < hp'.size/\μ'=μ.set n (b,o0,s)/\ee hp hp' (λ_=>False)/\cO Z μ' hp' n o
 | .dP id o=>∃ b o0 s,μ id=some (b,o0,s)/\μ'=μ/\ee hp hp' (· = b)/\dQ hp hp'/\cO Z μ' hp' id o
 | .cF id o=>∃ b o0 s,μ'=μ.set n (b,o0,s)/\cO Z μ' hp' n o /\
  ((hp.size<=b/\b < hp'.size/\ee hp hp' (λ_=>False))∨((∃ o1 s1,μ id=some (b,o1,s1))/\ee hp hp' (· = b)/\dQ hp hp'))
theorem ee.mP {hp a:Array Obj} (h:ee hp a (λ_=>False)):dQ hp a:=by
 intro b c e f g
 have d:b < hp.size:=by
  rcases Pn b hp.size with h | h
  .exact h
  .simp[P6 h] at g
 exact⟨c,f,by rw[h b d (λx=>x)];exact g,rfl⟩
theorem kX.mono {Z:Nat->Prop} {μ μ':Mu} {hp i:Array Obj} {n:Nat} {au:aM} (h:kX Z μ μ' hp i n au) (j:au.fresh (μ n=none))
  (bE:∀ b,Z b->b < hp.size) (eU:∀ id b o s,μ id=some (b,o,s)->¬ Z b):eL Z Z μ μ' hp i:=by
 have c:μ n=none->∀ x:Nat × Nat × Nat,∀ id y,μ id=some y->(μ.set n x) id=some y:=by
  intro j x id y p
  by_cases k:id=n
  .subst k;simp[j] at p
  .simp[Mu.set,k,p]
 cases au with
 | none =>
  obtain⟨rfl,d⟩:=h
  exact⟨λ_ h=>h,λb l=>d b (bE b l) (λx=>x),λ_ _ h=>h,d.mP⟩
 | new o =>
  obtain⟨b,o0,s,_,_,rfl,d,_⟩:=h
  exact⟨λ_ h=>h,λb l=>d b (bE b l) (λx=>x),c j _,d.mP⟩
 | dP id o =>
  obtain⟨b,o0,s,g,rfl,d,m,_⟩:=h
  exact⟨λ_ h=>h,λf a=>d f (bE f a) (λe=>eU _ _ _ _ g (e ▸ a)),λ_ _ h=>h,m⟩
 | cF id o =>
  obtain⟨b,o0,s,rfl,_,h | ⟨⟨q,s1,g⟩,d,m⟩⟩:=h
  .exact⟨λ_ h=>h,λf a=>h.2.2 f (bE f a) (λx=>x),c j _,h.2.2.mP⟩
  .exact⟨λ_ h=>h,λf a=>d f (bE f a) (λe=>eU _ _ _ _ g (e ▸ a)),c j _,m⟩
theorem kX.size {Z:Nat->Prop} {μ μ':Mu} {hp d:Array Obj} {n:Nat} {au:aM} (h:kX Z μ μ' hp d n au) (lt:∀ id b o s,μ id=some (b,o,s)->b < hp.size) (f:hp.size<=d.size) :
  ∀ id b o s,μ' id=some (b,o,s)->b < d.size:=by
 have hold:∀ id b o s,μ id=some (b,o,s)->b < d.size:=λid b o s c=>O0 (lt id b o s c) f
 cases au with
 | none=>obtain⟨rfl,_⟩:=h;exact hold
 | new o =>
  obtain⟨b,o0,s,_,k,rfl,_,_⟩:=h
  intro id g i j c
  by_cases a:id=n
  .simp[Mu.set,a] at c;omega
  .simp[Mu.set,a] at c;exact hold _ _ _ _ c
 | dP id o=>obtain⟨b,o0,s,e,rfl,_⟩:=h;exact hold
 | cF id o =>
  obtain⟨b,o0,s,rfl,_,h | ⟨⟨l,s1,e⟩,_,_⟩⟩:=h
  all_goals
   intro id g i j c
   by_cases a:id=n
   .simp[Mu.set,a] at c
    first | omega | (obtain⟨rfl,_,_⟩:=c;exact hold _ _ _ _ e)
   .simp[Mu.set,a] at c;exact hold _ _ _ _ c
theorem fc.au {Z:Nat->Prop} {μ μ':Mu} {hp z:Array Obj} {H:View} {n:Nat} {au:aM} (h:fc Z μ hp H) (P:au.fresh (μ n=none)) (L:hp.size<=z.size)
  (he:kX Z μ μ' hp z n au) (K:∀ id o,au=.dP id o->H id≠.dead) (G:∀ id o,au=.cF id o->H id≠.dead):fc Z μ' z (au.view H n):=by
 have hm:=he.mono P h.bE h.eU
 have m:=he.size h.lt L
 have A:∀ b,Z b->b < z.size:=λb Q=>O0 (h.bE b Q) L
 cases au with
 | none =>
  obtain⟨rfl,D⟩:=he
  exact⟨λid=>(h.obj id).mono hm rfl (λb o s c=>D b (h.lt _ _ _ _ c) (λx=>x)),h.inj,m,A,h.eU⟩
 | new o =>
  obtain⟨b,o0,s,R,S,rfl,D,t⟩:=he
  refine⟨λid=>?_,?_,m,A,?_⟩
  .by_cases a:id=n
   .subst a;simpa [aM.view,View.set] using t
   .have:=(h.obj id).mono hm (by simp[Mu.set,a]) (λb o s c=>D b (h.lt _ _ _ _ c) (λx=>x))
    simpa [aM.view,View.set,a] using this
  .intro i j d w y B C u hi q
   by_cases h1:i=n
   .by_cases r:j=n
    .omega
    .simp[Mu.set,h1] at hi;simp[Mu.set,r] at q
     have:=h.lt _ _ _ _ q;omega
   .by_cases r:j=n
    .simp[Mu.set,r] at q;simp[Mu.set,h1] at hi
     have:=h.lt _ _ _ _ hi;omega
    .simp[Mu.set,h1] at hi;simp[Mu.set,r] at q
     simpa [aM.view,View.set,h1,r] using h.inj i j d w y B C u hi q
  .intro id d w y c F
   by_cases h1:id=n
   .simp[Mu.set,h1] at c;have:=h.bE _ F;omega
   .simp[Mu.set,h1] at c;exact h.eU _ _ _ _ c F
 | dP k o =>
  obtain⟨b,o0,s,g,rfl,D,T,t⟩:=he
  have hk:=K k o rfl
  refine⟨λid=>?_,?_,m,A,h.eU⟩
  .by_cases a:id=k
   .subst a;simpa [aM.view,View.set] using t
   .simp only[aM.view,View.set,a,if_false]
    by_cases I:H id=.dead
    .rw[I];trivial
    .refine(h.obj id).mono hm rfl (λd w y c=>D d (h.lt _ _ _ _ c) ?_)
     intro e
     subst e
     rcases h.inj id k _ _ _ _ _ a c g with h1 | h1
     .exact I h1
     .exact hk h1
  .intro i j d w y B C u hi q
   rcases h.inj i j _ _ _ _ _ u hi q with h1 | h1
   .by_cases e:i=k
    .exact absurd (e ▸ h1) hk
    .left;simpa [aM.view,View.set,e] using h1
   .by_cases e:j=k
    .exact absurd (e ▸ h1) hk
    .right;simpa [aM.view,View.set,e] using h1
 | cF k o =>
  obtain⟨b,o0,s,rfl,t,l⟩:=he
  have hk:=G k o rfl
  have v:(μ.set n (b,o0,s)) n=some (b,o0,s):=by simp[Mu.set]
  refine⟨λid=>?_,?_,m,A,?_⟩
  .by_cases a:id=n
   .subst a;simpa [aM.view,View.set] using t
   .by_cases f:id=k
    .simp only[aM.view,View.set,a,if_false,f,if_true]
     split <;> first | trivial | (rename_i e;exact absurd (f.trans e) a)
    .simp only[aM.view,View.set,a,if_false,f]
     by_cases I:H id=.dead
     .rw[I];trivial
     .refine(h.obj id).mono hm (by simp[Mu.set,a]) (λd w y c=>?_)
      rcases l with h1 | ⟨⟨M,s1,g⟩,D,_⟩
      .exact h1.2.2 d (h.lt _ _ _ _ c) (λx=>x)
      .refine D d (h.lt _ _ _ _ c) ?_
       intro e
       subst e
       rcases h.inj id k _ _ _ _ _ f c g with h1 | h1
       .exact I h1
       .exact hk h1
  .intro i j d w y B C u hi q
   have key:∀ i d w y,i≠n->(μ.set n (b,o0,s)) i=some (d,w,y)->d=b->(aM.view H n (.cF k o)) i=.dead:=by
    intro p U V t1 J c e
    subst e
    simp only[Mu.set,OK J] at c
    simp only[aM.view,View.set,OK J]
    by_cases f:p=k
    .simp[f]
    .simp only[OK f]
     rcases l with h1 | ⟨⟨M,s1,g⟩,_,_⟩
     .have:=h.lt _ _ _ _ c;omega
     .rcases h.inj p k _ _ _ _ _ f c g with h1 | h1
      .exact h1
      .exact absurd h1 hk
   by_cases h1:i=n
   .have r:j≠n:=by omega
    right
    have E:d=b:=by
     rw[h1,v] at hi;simp at hi;exact hi.1.symm
    exact key j d B C r q E
   .by_cases r:j=n
    .left
     have E:d=b:=by
      rw[r,v] at q;simp at q;exact q.1.symm
     exact key i d w y h1 hi E
    .simp only[Mu.set,h1,if_false] at hi
     simp only[Mu.set,r,if_false] at q
     simp only[aM.view,View.set,h1,r,if_false]
     by_cases N:i=k
     .left;simp[N]
     .by_cases O:j=k
      .right;simp[O]
      .simp only[N,O,if_false]
       exact h.inj i j _ _ _ _ _ u hi q
  .intro id d w y c F
   by_cases h1:id=n
   .rw[h1,v] at c
    simp at c
    obtain⟨rfl,_,_⟩:=c
    rcases l with r | ⟨⟨M,s1,g⟩,_,_⟩
    .have:=h.bE _ F;omega
    .exact h.eU _ _ _ _ g F
   .simp only[Mu.set,h1,if_false] at c
    exact h.eU _ _ _ _ c F
theorem rN {Z:Nat->Prop} {μ:Mu} {hp:Array Obj} {v:V} {x:Value} (h:aq Z μ hp v x) (a:aD v=true):x.oneCell'=true:=by
 cases h with
 | val _ b=>cases x <;> first | rfl | (simp[plain] at b)
 | any x=>simp[aD] at a
 | agg cs c h1 d=>simp[aD] at a
 | aU cs c h1 d=>simp[aD] at a
 | _=>rfl
theorem eH {Z:Nat->Prop} {μ:Mu} {hp:Array Obj} {v:V} {x:Value} (h:aq Z μ hp v x) (o:v.cells.all aD=true):er Z μ hp v.cells x.cells.toList:=by
 have one:∀ v x,aq Z μ hp v x->x.cells = #[x]->er Z μ hp [v] x.cells.toList:=by
  intro v x h p
  rw[p]
  exact⟨rfl,λi hi=>by
   simp at hi;subst hi;simpa using h⟩
 cases h with
 | agg cs g h1 d =>
  refine⟨by simpa [V.cells,Value.cells] using h1,λi hi=>?_⟩
  have:=d i (by simpa [V.cells] using hi)
  simpa [V.cells,Value.cells,List.getD,OP] using this
 | any x=>simp[V.cells,aD] at o
 | aU cs g h1 d=>simp[V.cells,aD] at o
 | val _ m =>
  refine one _ _ (.val x m) ?_
  cases x <;> first | rfl | (simp[plain] at m)
 | emp k a h1 d=>exact one _ _ (.emp k a h1 d) rfl
 | dn a cap=>exact one _ _ (.dn a cap) rfl
 | fy a cap h1=>exact one _ _ (.fy a cap h1) rfl
 | aX es b off esz cap c h1 d l n q=>exact one _ _ (.aX es b off esz cap c h1 d l n q) rfl
 | nq id off esz a=>exact one _ _ (.nq id off esz a) rfl
 | sl id off len esz b o0 cap c e f h1 d l n=>exact one _ _ (.sl id off len esz b o0 cap c e f h1 d l n) rfl
 | ptr id i j b o0 esz h1=>exact one _ _ (.ptr id i j b o0 esz h1) rfl
 | aC e j b off c h1 d l=>exact one _ _ (.aC e j b off c h1 d l) rfl
 | mp id b o0 esz h1=>exact one _ _ (.mp id b o0 esz h1) rfl
 | fn f xs ys g r h1 d l n=>exact one _ _ (.fn f xs ys g r h1 d l n) rfl
theorem me {P:Program} {t:TypeId} {i:TypeInfo} (h:P.info? t=some i) (w:World):(typeInfo t).run P w=.ok i w:=by
 simp[typeInfo,h]
theorem bW {P:Program} {t:TypeId} {i:TypeInfo} (h:P.info? t=some i) (w:World):(Go.sizeOf t).run P w=.ok i.size w:=by
 simp[Go.sizeOf,me h]
theorem aK {P:Program} {t:TypeId} {d:TypeDesc} (h:P.underlying t=some d) (w:World):(underlying t).run P w=.ok d w:=by
 simp[underlying,h]
theorem gA {P:Program} {t:TypeId} {i:TypeInfo} {v:Value} (h:P.info? t=some i) (a:i.zero=some v) (w:World):(zeroValue t).run P w=.ok v w:=by
 simp[zeroValue,me h,a]
theorem qi {P:Program} {t:TypeId} {b:Bool} (h:oX P t=some b) (w:World):(isAgg t).run P w=.ok b w:=by
 unfold oX at h
 cases hu:P.underlying t with
 | none=>simp[hu] at h
 | some d =>
  simp only[hu] at h
  simp only[isAgg,Sem.run_bind,aK hu,Result.andThen_ok]
  cases d <;> simp_all
def AZ (Z:Nat->Prop) (μ:Mu) (hp:Array Obj) (b off:Nat) (cs:List V):Prop :=
 ∀ k,k < cs.length->∃ x,cellAt hp b (off+k)=some x/\aq Z μ hp (cs.getD k .any) x
theorem mM {α:Type} {P:Program} : ∀ (s:Sem α) {a:α},aT P s=some a->∀ w,s.run P w=.ok a w:=by
 intro s
 induction s with
 | pure a=>intro c h w;simp[aT] at h;subst h;rfl
 | program k b=>intro a h w;simp only[aT] at h;simp only[Sem.run];exact b P h w
 | _=>intro a h;simp[aT] at h
theorem kS {n:Nat} {p:Nat->Value->Prop} (h:∀ k,k < n->∃ x,p k x):∃ f:Nat->Value,∀ k,k < n->p k (f k):=by
 refine⟨λk=>if hk:k < n then Classical.choose (h k hk) else undef,λk hk=>?_⟩
 simp only[hk,dif_pos]
 exact Classical.choose_spec (h k hk)
theorem gm (b o n:Nat):Addr.add ⟨b,o,none⟩ n=⟨b,o+n,none⟩:=by
 unfold Addr.add;split
 .rename_i h;subst h;rfl
 .rfl
theorem qn {Z:Nat->Prop} {μ:Mu} {w:World} {P:Program} {b off j:Nat} {t:TypeId} {cs:List V} {v:V} (h:AZ Z μ w.heap b off cs) (hp:mG P t cs j=some v) :
  ∃ x,(loadVar t ⟨b,off+j,none⟩).run P w=.ok x w/\aq Z μ w.heap v x:=by
 unfold mG at hp
 cases hi:P.info? t with
 | none=>simp[hi] at hp
 | some i =>
  cases c:oX P t with
  | none=>simp[hi,c] at hp
  | some g =>
   simp only[hi,c] at hp
   cases g with
   | true =>
    simp only at hp
    split at hp
    .rename_i hle
     simp at hp;subst hp
     have d:∀ k,k < i.size->∃ x,cellAt w.heap b (off+(j+k))=some x/\aq Z μ w.heap (cs.getD (j+k) .any) x:=λk hk=>h (j+k) (by omega)
     obtain⟨f,e⟩:=kS d
     refine⟨.agg ((List.range i.size).map f).toArray,?_,?_⟩
     .simp only[loadVar,Sem.run_bind,qi c,Result.andThen_ok,if_true,bW hi]
      rw[run_loadCells w ⟨b,off+j,none⟩ i.size f (λk hk=>by rw[gm,oZ,P1];exact(e k hk).1)]
      rfl
     .refine .agg _ _ (by simp;omega) (λk hk=>?_)
      have a:k < i.size:=by simp at hk;omega
      have:=(e k a).2
      simpa [List.getD,a,PT,Qc,OP] using this
    .simp at hp
   | false =>
    simp only at hp
    split at hp
    .rename_i hle
     simp at hp;subst hp
     obtain⟨x,d,l⟩:=h j hle
     refine⟨x,?_,by simpa [List.getD] using l⟩
     simp only[loadVar,Sem.run_bind,qi c,Result.andThen_ok,Pb,if_false,run_load,oZ,d]
    .simp at hp
theorem uf {w:World} {b k:Nat} {v:Value} {c:Array Value} {e:TypeId} {f:Nat × Nat} (h:w.heap[b]?=some (.cells c e f)) :
  w.setCell ⟨b,k,none⟩ v = { w with heap:=w.heap.setIfInBounds b (.cells (c.setIfInBounds k v) e f) }:=by
 unfold World.setCell
 congr 1
 apply Array.ext_getElem?
 intro i
 simp only[Array.getElem?_modify,Pt]
 by_cases hi:b=i
 .subst hi
  have a:b < w.heap.size:=by
   rcases Pn b w.heap.size with d | d
   .exact d
   .simp[P6 d] at h
  have g:w.heap[b]=.cells c e f:=by simpa [OZ a] using h
  simp[g,a]
 .simp[hi]
theorem GQ {w:World} {b k:Nat} {c:Array Value} {e:TypeId} {f:Nat × Nat} (h:w.heap[b]?=some (.cells c e f)) (a:¬ (f.1<=k/\k < f.2)):w.frozen? ⟨b,k,none⟩=false:=by
 simp only[World.frozen?,h]
 simp only[Bool.and_eq_false_iff,Qt]
 omega
theorem mB {c:Array Value} {f:Nat × Nat} (h:f.1=f.2∨c.size<=f.1):∀ k,k < c.size->¬ (f.1<=k/\k < f.2):=by
 intro k hk;omega
theorem ib {P:Program} {b off:Nat} {e:TypeId} {f:Nat × Nat} : ∀ (xs:List Value) (i:Nat) (c:Array Value) (w:World),
  w.heap[b]?=some (.cells c e f)->(∀ k,k < c.size->¬ (f.1<=k/\k < f.2))->off+i+xs.length<=c.size->(∀ x∈xs,x.oneCell'=true) ->
  ∃ d,(storeCells ⟨b,off,none⟩ xs i).run P w=.ok () { w with heap:=w.heap.setIfInBounds b (.cells d e f) }/\d.size=c.size /\
   ∀ k,d[k]?=if off+i<=k/\k < off+i+xs.length then xs[k - (off+i)]? else c[k]?
 | [],i,c,w,h,_,_,_=>by
  refine⟨c,?_,rfl,λk=>?_⟩
  .simp only[storeCells,Sem.run_pure]
   congr 1
   have:w.heap.setIfInBounds b (.cells c e f)=w.heap:=by
    apply Array.ext_getElem?
    intro k
    simp only[Pt]
    split
    .rename_i hk
     subst hk
     split
     .exact h.symm
     .rename_i q;simp[P6 (Nat.le_of_not_lt q)]
    .rfl
   rw[this]
  .rw[OK (by simp only[Pc];omega)]
 | x :: xs,i,c,w,h,n,r,o=>by
  simp only[OY] at r
  have g:b < w.heap.size:=by
   rcases Pn b w.heap.size with j | j
   .exact j
   .simp[P6 j] at h
  have a:w.cell? ⟨b,off+i,none⟩=some c[off+i]:=by
   rw[oZ,cellAt,h];simp[show off+i < c.size from by omega]
  have hw:(w.setCell ⟨b,off+i,none⟩ x).heap[b]?=some (.cells (c.setIfInBounds (off+i) x) e f):=by
   rw[uf h];simp[g]
  obtain⟨d,hr,l,m⟩:=ib (P:=P) (off:=off) (f:=f) xs (i+1) (c.setIfInBounds (off+i) x) (w.setCell ⟨b,off+i,none⟩ x) hw (λk hk=>n k (by simpa using hk)) (by simp;omega) (λy s=>o y (Pu _ s))
  refine⟨d,?_,by simpa using l,λk=>?_⟩
  .simp only[storeCells,Sem.run_bind,gm]
   rw[run_store P w _ x _ (o x P3),a]
   simp only[GQ h (n (off+i) (by omega)),Pb,if_false,Result.andThen_ok]
   rw[hr]
   congr 1
   rw[uf h]
   simp[Array.setIfInBounds_setIfInBounds]
  .rw[m]
   simp only[OY]
   by_cases h1:off+i=k
   .subst h1
    rw[OK (by omega),OM (by omega)]
    simp[show off+i < c.size from by omega]
   .by_cases p:off+(i+1)<=k/\k < off+(i+1)+xs.length
    .rw[OM p,OM (by omega)]
     rw[show k - (off+i)=(k - (off+(i+1)))+1 from by omega]
     simp
    .rw[OK p,OK (by omega)]
     simp[h1]
theorem bQ (hp:Array Obj) (b:Nat) (o:Obj):ee hp (hp.setIfInBounds b o) (· = b):=by
 intro k _ hk
 simp only[Pt]
 rw[OK (λe=>hk e.symm)]
theorem fL {hp:Array Obj} {b:Nat} {c a:Array Value} {e:TypeId} {f:Nat × Nat} (h:hp[b]?=some (.cells c e f)) (j:a.size=c.size):dQ hp (hp.setIfInBounds b (.cells a e f)):=by
 intro k x e' l hk
 simp only[Pt]
 by_cases i:b=k
 .subst i
  rw[h] at hk
  simp only[OJ,Obj.cells.injEq] at hk
  obtain⟨rfl,rfl,rfl⟩:=hk
  have d:b < hp.size:=by
   rcases Pn b hp.size with g | g
   .exact g
   .simp[P6 g] at h
  exact⟨a,f,by simp[d],j⟩
 .exact⟨x,l,by simp[i,hk],rfl⟩
theorem cH {hp:Array Obj} {b:Nat} {o:Obj} (h:b < hp.size):(hp.setIfInBounds b o)[b]?=some o:=by simp[h]
theorem di {hp:Array Obj} {b:Nat} {o:Obj} (h:hp[b]?=some o):b < hp.size:=by
 rcases Pn b hp.size with a | a
 .exact a
 .simp[P6 a] at h
theorem tE (l cs:List V) (j:Nat) (a:j+cs.length<=l.length):(dE l j cs).length=l.length:=by
 simp only[dE,PG,PM,List.length_drop];omega
theorem Aj (l cs:List V) (j k:Nat) (a:j+cs.length<=l.length) (h:j<=k/\k < j+cs.length):(dE l j cs).getD k .any=cs.getD (k - j) .any:=by
 simp only[dE,OH,PR]
 rw[Ph (by simp;omega),O6 (by simp;omega)]
 congr 2;simp;omega
theorem xK (l cs:List V) (j k:Nat) (a:j+cs.length<=l.length) (h:¬ (j<=k/\k < j+cs.length)):(dE l j cs).getD k .any=l.getD k .any:=by
 simp only[dE,OH,PR]
 by_cases h1:k < j
 .rw[O6 (by simp;omega)];simp[h1]
 .rw[Ph (by simp;omega),Ph (by simp;omega)]
  simp only[Qc,PM]
  congr 2;omega
theorem cO.store {Z:Nat->Prop} {μ:Mu} {w:World} {P:Program} {id b o0 s esz i j:Nat} {es:List (List V)} {cs:List V} {xs:List Value}
  (F:cO Z μ w.heap id (.arr esz es)) (u:μ id=some (b,o0,s)) (N:¬ Z b) (bE:∀ b,Z b->b < w.heap.size) (hi:i < es.length) (R:j+cs.length<=esz) (hr:er Z μ w.heap cs xs) (v:∀ x∈xs,x.oneCell'=true) :
  ∃ w',(storeCells ⟨b,o0+i * esz+j,none⟩ xs).run P w=.ok () w'/\c8 w w'/\ee w.heap w'.heap (· = b)/\dQ w.heap w'.heap /\
   cO Z μ w'.heap id (.arr esz (es.set i (dE (es.getD i []) j cs))):=by
 obtain⟨rfl,⟨c,e,f,y,L,O⟩,hlen,m⟩:=F b o0 s u
 have hmul:(i+1) * s<=es.length * s:=Pf _ hi
 have G:(i+1) * s=i * s+s:=by rw[Pk];omega
 have M:=di y
 obtain⟨z,A,n,H⟩:=ib (P:=P) (b:=b) (off:=o0+i * s+j) (e:=e) (f:=f) xs 0 c w y (mB L) (by rw[<-hr.1];omega) v
 have hm:eL Z Z μ μ w.heap (w.heap.setIfInBounds b (.cells z e f)) :=
  ⟨λ_ h=>h,λk hk=>bQ w.heap b _ k (bE k hk) (λe=>N (e ▸ hk)),λ_ _ h=>h,fL y n⟩
 refine⟨_,A,⟨rfl,rfl,rfl,by simp⟩,bQ _ _ _,fL y n,?_⟩
 intro S T U o
 rw[u] at o
 simp only[OJ,OL] at o
 obtain⟨rfl,rfl,rfl⟩:=o
 have Q:(dE (es.getD i []) j cs).length=s:=by
  have:=hlen i hi
  rw[tE _ _ _ (by omega),this]
 have p:∀ a,(es.set i (dE (es.getD i []) j cs)).getD a []=if a=i then dE (es.getD i []) j cs else es.getD a []:=by
  intro a
  simp only[OH,Qh]
  by_cases h1:i=a
  .subst h1;simp[hi]
  .rw[OK h1,OK (λe=>h1 e.symm)]
 refine⟨rfl,⟨z,e,f,by simp[M],by rw[n];exact L,by simpa [n] using O⟩,?_,?_⟩
 .intro a q
  rw[p]
  split
  .exact Q
  .exact hlen a (by simpa using q)
 .intro a g q B
  have l:a < es.length:=by simpa using q
  have I:(a+1) * s<=es.length * s:=Pf _ l
  have E:(a+1) * s=a * s+s:=by rw[Pk];omega
  have r:cellAt (w.heap.setIfInBounds b (.cells z e f)) b (o0+a * s+g)=z[o0+a * s+g]?:=by simp[cellAt,M]
  have d:cellAt w.heap b (o0+a * s+g)=c[o0+a * s+g]?:=by simp[cellAt,y]
  show ∃ x,cellAt (w.heap.setIfInBounds b (.cells z e f)) b (o0+a * s+g)=some x/\_
  rw[r,H,p]
  by_cases t:a=i
  .subst t
   rw[OM rfl]
   by_cases C:j<=g/\g < j+cs.length
   .have hk:g - j < cs.length:=by omega
    have D:g - j < xs.length:=hr.1 ▸ hk
    rw[OM (by rw[<-hr.1];omega),show o0+a * s+g - (o0+a * s+j+0)=g - j from by omega]
    refine⟨xs[g - j],by simp[D],?_⟩
    have:=(hr.2 (g - j) hk).mono hm
    simp only[OH,OI D,OI hk,OS] at this
    have J:=hlen a l
    rw[Aj _ _ _ _ (by omega) C]
    simpa [OH,hk] using this
   .rw[OK (by rw[<-hr.1];omega)]
    obtain⟨x,o,K⟩:=m a g l B
    rw[d] at o
    refine⟨x,o,?_⟩
    have J:=hlen a l
    rw[xK _ _ _ _ (by omega) C]
    exact K.mono hm
  .rw[OK t]
   have:¬ (o0+i * s+j+0<=o0+a * s+g/\o0+a * s+g < o0+i * s+j+0+xs.length):=by
    rw[<-hr.1]
    rcases Nat.lt_or_gt_of_ne t with h1 | h1
    .have:(a+1) * s<=i * s:=Pf _ h1
     omega
    .have:(i+1) * s<=a * s:=Pf _ h1
     omega
   rw[OK this]
   obtain⟨x,o,K⟩:=m a g l B
   rw[d] at o
   exact⟨x,o,K.mono hm⟩
theorem cO.newRow {Z:Nat->Prop} {μ:Mu} {hp:Array Obj} {n esz:Nat} {es:List (List V)} {c:Array Value} {e:TypeId}
  (g:μ n=none) (bE:∀ b,Z b->b < hp.size) (k:es.length * esz<=c.size) (hlen:∀ i,i < es.length->(es.getD i []).length=esz)
  (h:∀ i j,i < es.length->j < esz->∃ x,c[i * esz+j]?=some x/\aq Z μ hp ((es.getD i []).getD j .any) x) :
  cO Z (μ.set n (hp.size,0,esz)) (hp.push (.cells c e (0,0))) n (.arr esz es):=by
 intro b o0 s a
 simp only[Mu.set,if_true,OJ,OL] at a
 obtain⟨rfl,rfl,rfl⟩:=a
 have hm:eL Z Z μ (μ.set n (hp.size,0,esz)) hp (hp.push (.cells c e (0,0))):=by
  refine⟨λ_ h=>h,λb f=>?_,λid x a=>?_,?_⟩
  .have:=bE b f
   rw[Qk,OK (by omega)]
  .by_cases d:id=n
   .subst d;simp[g] at a
   .simp[Mu.set,d,a]
  .intro b l e' p f
   have:=di f
   exact⟨l,_,by rw[Qk,OK (by omega)];exact f,rfl⟩
 refine⟨rfl,⟨c,e,(0,0),by simp,.inl rfl,by simpa using k⟩,hlen,λi j hi m=>?_⟩
 obtain⟨x,a,o⟩:=h i j hi m
 exact⟨x,by simp[cellAt,a],o.mono hm⟩
theorem cZ (hp:Array Obj) (o:Obj):ee hp (hp.push o) (λ_=>False):=by
 intro k hk _
 rw[Qk,OK (by omega)]
structure Ctx (Z:Nat->Prop) (μ:Mu) (hp:Array Obj) (H:View) (rd:List Nat) (n:Nat) (au:aM):Prop where
 new:au.fresh (μ n=none)
 obj:∀ id,id∈rd->cO Z μ hp id (H id)
 lt:∀ id b o s,μ id=some (b,o,s)->b < hp.size
 bE:∀ b,Z b->b < hp.size
 eU:∀ id b o s,μ id=some (b,o,s)->¬ Z b
def aH (Z:Nat->Prop) (μ:Mu) (w:World) (n:Nat) (v:V) (au:aM) (r:Result Next):Prop :=
 ∃ nx w' μ',r=.ok nx w'/\((∃ x,nx=.value x/\aq Z μ' w'.heap v x)∨(nx=.skip/\v=.any))/\c8 w w'/\kX Z μ μ' w.heap w'.heap n au
section
variable {Z:Nat->Prop} {μ μ':Mu} {w w':World} {P:Program} {H:View} {n:Nat} {v:V} {au:aM} {rd:List Nat}
theorem fD:kX Z μ μ w.heap w.heap n .none:=⟨rfl,λ_ _ _=>rfl⟩
theorem aH.value {s:Sem Value} {x:Value} (hr:s.run P w=.ok x w') (a:aq Z μ' w'.heap v x) (b:c8 w w') (he:kX Z μ μ' w.heap w'.heap n au) :
  aH Z μ w n v au ((do pure (Next.value (<-s)):Sem Next).run P w) :=
 ⟨.value x,w',μ',by simp[hr],.inl ⟨x,rfl,a⟩,b,he⟩
theorem aH.here {s:Sem Value} {x:Value} (hr:s.run P w=.ok x w) (a:aq Z μ w.heap v x):aH Z μ w n v .none ((do pure (Next.value (<-s)):Sem Next).run P w) :=
 aH.value hr a (c8.refl w) fD
theorem aH.skip {s:Sem Unit} (hr:s.run P w=.ok () w') (a:c8 w w') (he:kX Z μ μ' w.heap w'.heap n au) :
  aH Z μ w n .any au ((do s;pure Next.skip:Sem Next).run P w) :=
 ⟨.skip,w',μ',by simp[hr],.inr ⟨rfl,rfl⟩,a,he⟩
theorem sW (x:Value):aq Z μ w.heap (kV x) x:=by
 cases x with
 | slice a len cap =>
  cases a with
  | none =>
   cases len with
   | zero=>cases cap with
    | zero=>exact .emp 1 none (λ_=>rfl) (λh=>by simp at h)
    | succ c=>exact .any _
   | succ l=>exact .any _
  | some a=>exact .any _
 | _ =>
  simp only[kV]
  split
  .rename_i h;exact .val _ h
  .exact .any _
theorem eF (x:Value):aq Z μ w.heap (dJ x) x:=by
 cases x with
 | agg cs =>
  refine .agg _ _ (by simp) (λi hi=>?_)
  have c:i < cs.size:=by simpa using hi
  simp only[OH,OP]
  simpa [c] using sW cs[i]
 | func fn a b =>
  cases fn with
  | func f =>
   simp only[dJ]
   split
   .rename_i h
    exact .fn _ _ _ _ _ h.1.symm h.2.symm (λi hi=>by simp at hi) (λi hi=>by simp at hi)
   .exact .any _
  | _=>simp only[dJ];exact sW _
 | _=>simp only[dJ];exact sW _
theorem heap_alloc (w:World) (o:Obj):(w.alloc o).heap=w.heap.push o:=rfl
theorem fH (w:World) (o:Obj):c8 w (w.alloc o):=⟨rfl,rfl,rfl,by rw[heap_alloc];simp⟩
theorem ng {v:V} {x y:Value} (h:aq Z μ w.heap v x) (f:bO v=some y):y=x:=by
 have e:∀ (cs:List V) (l:List Value),rT cs=some l->∀ (xs:List Value),cs.length=xs.length->(∀ i,i < cs.length->aq Z μ w.heap (cs.getD i .any) (xs.getD i undef))->l=xs:=by
  intro cs
  induction cs with
  | nil=>intro l d xs g _;simp[rT] at d;subst d;cases xs <;> simp_all
  | cons c r n =>
   intro l d xs g hr
   cases xs with
   | nil=>simp at g
   | cons x xs =>
    simp only[rT] at d
    split at d
    .rename_i a b k o
     simp at d;subst d
     have m:=hr 0 (by simp)
     have:=n b o xs (by simpa using g) (λi hi=>by simpa using hr (i+1) (by simpa using hi))
     subst this
     simp only[PY] at m
     cases c <;> simp[toCell] at k
     subst k
     cases m;rfl
    .simp at d
 cases v with
 | val a=>simp[bO] at f;subst f;cases h;rfl
 | agg cs =>
  simp only[bO,OQ] at f
  obtain⟨l,d,rfl⟩:=f
  cases h with
  | agg _ j h1 p =>
   have:=e cs l d j.toList (by simpa using h1) (λi hi=>by simpa [OH,OP] using p i hi)
   subst this;simp
 | _=>simp[bO] at f
theorem kE {id i j:Nat} {x:Value} (h:aq Z μ w.heap (.ptr id i j) x):∃ b o0 esz,μ id=some (b,o0,esz)/\x=.pointer (some ⟨b,o0+i * esz+j,none⟩):=by
 cases h with | ptr _ _ _ b o0 esz hm=>exact⟨b,o0,esz,hm,rfl⟩
theorem pv {e:List V} {j:Nat} {x:Value} (h:aq Z μ w.heap (.aC e j) x):∃ b off,Z b/\AZ Z μ w.heap b off e/\x=.pointer (some ⟨b,off+j,none⟩):=by
 cases h with | aC _ _ b off c a h1 d=>exact⟨b,off,a,λk hk=>⟨c k,h1 k hk,d k hk⟩,rfl⟩
theorem vq {e:List V} {j b off:Nat} (c:Z b) (h:AZ Z μ w.heap b off e):aq Z μ w.heap (.aC e j) (.pointer (some ⟨b,off+j,none⟩)):=by
 obtain⟨f,a⟩:=kS h
 exact .aC e j b off f c (λk hk=>(a k hk).1) (λk hk=>(a k hk).2)
theorem rowOf {id i b o0 s esz:Nat} {es:List (List V)} (a:cO Z μ w.heap id (.arr esz es)) (c:μ id=some (b,o0,s)) (hi:i < es.length) :
  s=esz/\AZ Z μ w.heap b (o0+i * s) (es.getD i []):=by
 obtain⟨rfl,_,d,e⟩:=a b o0 s c
 refine⟨rfl,λk hk=>?_⟩
 rw[d i hi] at hk
 exact e i k hi hk
theorem Kp {t:TypeId} {a:V} {x:Value} (h:jM P t a H=some (v,au,rd)) (m:aq Z μ w.heap a x) (c:Ctx Z μ w.heap H rd n au) :
  aH Z μ w n v au ((do pure (Next.value (<-Instr.loadAt t x)):Sem Next).run P w):=by
 unfold jM at h
 split at h
 .rename_i id i j
  obtain⟨b,o0,esz,hm,rfl⟩:=kE m
  split at h
  .rename_i e es hH
   split at h
   .rename_i hi
    simp only[OQ] at h
    obtain⟨o,d,h⟩:=h
    simp only[OL] at h
    obtain⟨rfl,rfl,rfl⟩:=h
    have f:=c.obj id (by simp)
    rw[hH] at f
    obtain⟨y,k,l⟩:=qn (P:=P) (rowOf f hm hi).2 d
    exact aH.here (by simp[Instr.loadAt,Instr.sureAddr,k]) l
   .simp at h
  .simp at h
 .obtain⟨b,off,p,g,rfl⟩:=pv m
  simp only[OQ] at h
  obtain⟨o,d,h⟩:=h
  simp only[OL] at h
  obtain⟨rfl,rfl,rfl⟩:=h
  obtain⟨y,k,l⟩:=qn (P:=P) g d
  exact aH.here (by simp[Instr.loadAt,Instr.sureAddr,k]) l
 .simp at h
theorem s7 {t:TypeId} {i:TypeInfo} (h:P.info? t=some i):P.cellsOf t=i.size:=by simp[Program.cellsOf,h]
theorem LS {cs:List V} {xs:List Value} (h:er Z μ w.heap cs xs) (b:cs.all aD=true):∀ x∈xs,x.oneCell'=true:=by
 intro x c
 obtain⟨i,hi,rfl⟩:=Ql c
 have a:i < cs.length:=h.1 ▸ hi
 have:=h.2 i a
 simp only[OH,OI hi,OI a,OS] at this
 exact rN this (O7.1 b _ (OW _))
theorem Jo {t:TypeId} {a b:V} {x y:Value} (h:nz P t a b H=some (v,au,rd)) (l:aq Z μ w.heap a x) (m:aq Z μ w.heap b y) (c:Ctx Z μ w.heap H rd n au) :
  aH Z μ w n v au ((do Instr.storeAt t x y;pure Next.skip:Sem Next).run P w):=by
 unfold nz at h
 split at h
 .rename_i id i j
  obtain⟨k,o0,s,hm,rfl⟩:=kE l
  split at h
  .rename_i esz es hH
   split at h
   .rename_i o
    obtain⟨hi,hlen,p,f,d⟩:=o
    simp only[OJ,OL] at h
    obtain⟨rfl,rfl,rfl⟩:=h
    have e:=c.obj id (by simp)
    rw[hH] at e
    have q:=(e k o0 s hm).1
    subst q
    have hr:=eH m f
    obtain⟨w',h1,r,u,z,A⟩:=e.store (P:=P) hm (c.eU _ _ _ _ hm) c.bE hi p hr (LS hr f)
    obtain⟨ti,g⟩:=Option.isSome_iff_exists.1 d
    refine aH.skip ?_ r ⟨k,o0,s,hm,rfl,u,z,A⟩
    have:y.cells.size=ti.size:=by rw[<-s7 g,<-hlen,hr.1];simp
    simp[Instr.storeAt,Instr.sureAddr,storeVar,bW g,this,h1]
   .simp at h
  .simp at h
 .simp at h
theorem Fk {cs:List V} {x:Value} {t:TypeId} (h:iY cs n=some (v,au,rd)) (hr:cs.all aD=true->er Z μ w.heap cs x.cells.toList) (c:Ctx Z μ w.heap H rd n au) :
  aH Z μ w n v au ((do pure (Next.value (.pointer (some (<-newVar t x)))):Sem Next).run P w):=by
 unfold iY at h
 split at h
 .rename_i b
  simp only[OJ,OL] at h
  obtain⟨rfl,rfl,rfl⟩:=h
  have hr:=hr b
  refine⟨.value (.pointer (some ⟨w.heap.size,0,none⟩)),w.alloc (.cells x.cells t),μ.set n (w.heap.size,0,cs.length),by simp[newVar,newRow],.inl ⟨_,rfl,?_⟩,fH _ _,?_⟩
  .have:=aq.ptr (Z:=Z) (μ:=μ.set n (w.heap.size,0,cs.length)) (hp:=(w.alloc (.cells x.cells t)).heap) n 0 0 w.heap.size 0 cs.length (by simp[Mu.set])
   simpa using this
  .refine⟨w.heap.size,0,cs.length,OR _,by rw[heap_alloc];simp,rfl,cZ _ _,?_⟩
   refine cO.newRow c.new c.bE (by rw[hr.1];simp) (λi hi=>by simp at hi;subst hi;simp) (λi j hi d=>?_)
   simp at hi;subst hi
   have a:j < x.cells.size:=by have:=hr.1;simp at this;omega
   refine⟨x.cells[j],by simp[a],?_⟩
   have:=hr.2 j d
   simpa [OH,a] using this
 .simp at h
theorem qy {t:TypeId} {f off s:Nat} {b:TypeId} (h:l0 P t f=some (off,s,b)) :
  ∃ a x i,P.underlying t=some (.struct a)/\a[f]?=some x/\P.info? x.type=some i/\off=x.offset/\s=i.size/\b=x.type:=by
 unfold l0 at h
 split at h
 .rename_i a hu
  split at h
  .rename_i x c
   split at h
   .rename_i i hi
    simp only[OJ,OL] at h
    exact⟨a,x,i,hu,c,hi,h.1.symm,h.2.1.symm,h.2.2.symm⟩
   .simp at h
  .simp at h
 .simp at h
theorem AQ {t:TypeId} {a:V} {x:Value} {f:Nat} (h:iH P t a f=some (v,au,rd)) (l:aq Z μ w.heap a x) :
  aH Z μ w n v au ((do pure (Next.value (<-Instr.fieldAt t x f)):Sem Next).run P w):=by
 unfold iH at h
 split at h
 .rename_i off s r g
  obtain⟨u,fd,i,hu,k,hi,rfl,rfl,rfl⟩:=qy g
  split at h
  .simp at h
  .rename_i m
   have c:∀ b o,(Instr.fieldAt t (.pointer (some ⟨b,o,none⟩)) f).run P w=.ok (.pointer (some ⟨b,o+fd.offset,none⟩)) w:=by
    intro b o
    simp[Instr.fieldAt,aK hu,k,Instr.sureAddr,fieldPlace,bW hi,m,gm]
   split at h
   .rename_i id p j
    obtain⟨b,o0,esz,hm,rfl⟩:=kE l
    simp only[OJ,OL] at h
    obtain⟨rfl,rfl,rfl⟩:=h
    refine aH.here (c _ _) ?_
    have:=aq.ptr (Z:=Z) (μ:=μ) (hp:=w.heap) id p (j+fd.offset) b o0 esz hm
    simpa [P1] using this
   .rename_i e j
    obtain⟨b,off,q,d,rfl⟩:=pv l
    simp only[OJ,OL] at h
    obtain⟨rfl,rfl,rfl⟩:=h
    refine aH.here (c _ _) ?_
    have:=vq (w:=w) (j:=j+fd.offset) q d
    simpa [P1] using this
   .simp at h
 .simp at h
theorem Lr {t:TypeId} {cs:List V} {a:Array Value} {off:Nat} (h:mG P t cs off=some v) (h1:cs.length=a.size) (e:∀ i,i < cs.length->aq Z μ w.heap (cs.getD i .any) (a.getD i undef)) :
  ∃ x,(part t a off).run P w=.ok x w/\aq Z μ w.heap v x:=by
 unfold mG at h
 cases hi:P.info? t with
 | none=>simp[hi] at h
 | some i =>
  cases c:oX P t with
  | none=>simp[hi,c] at h
  | some g =>
   simp only[hi,c] at h
   cases g with
   | true =>
    simp only at h
    split at h
    .rename_i hle
     simp at h;subst h
     refine⟨.agg (a.extract off (off+i.size)),by simp[part,qi c,bW hi],?_⟩
     refine .agg _ _ (by simp;omega) (λk hk=>?_)
     have d:k < i.size:=by simp at hk;omega
     have:=e (off+k) (by omega)
     simp only[OH,OP,PT,Qc,d,if_true,Array.getElem?_extract] at this ⊢
     rw[OM (by omega)]
     exact this
    .simp at h
   | false =>
    simp only at h
    split at h
    .rename_i hle
     simp at h;subst h
     have:=e off hle
     have b:off < a.size:=h1 ▸ hle
     refine⟨a[off],by simp[part,qi c,b],?_⟩
     simpa [OH,OP,b] using this
    .simp at h
theorem Jd {t:TypeId} {a:V} {x:Value} {f:Nat} (h:rA P t a f=some (v,au,rd)) (e:aq Z μ w.heap a x) :
  aH Z μ w n v au ((do pure (Next.value (<-Instr.field t x f)):Sem Next).run P w):=by
 unfold rA at h
 split at h
 .rename_i off s m cs b
  obtain⟨o,fd,i,hu,c,hi,rfl,rfl,rfl⟩:=qy b
  simp only[OQ] at h
  obtain⟨p,d,h⟩:=h
  simp only[OL] at h
  obtain⟨rfl,rfl,rfl⟩:=h
  cases e with
  | agg _ g h1 j =>
   obtain⟨y,k,l⟩:=Lr (P:=P) d h1 j
   exact aH.here (by simp[Instr.field,aK hu,c,asAgg,k]) l
 .simp at h
theorem iy {a:V} {q:Nat} (h:asNat a=some q):∃ k,a=.val (.int k q):=by
 unfold asNat at h
 split at h
 .rename_i k z
  split at h
  .simp at h
   exact⟨k,by rw[<-h];congr 2;omega⟩
  .simp at h
 .simp at h
theorem dr {y x:Value} (h:aq Z μ w.heap (.val y) x):x=y:=by cases h;rfl
theorem AU {t:TypeId} {a i:V} {x y:Value} (h:iP P t a i=some (v,au,rd)) (r:aq Z μ w.heap a x) (s:aq Z μ w.heap i y) :
  aH Z μ w n v au ((do pure (Next.value (<-Instr.indexAt t x y)):Sem Next).run P w):=by
 unfold iP at h
 split at h
 .simp at h
 .rename_i q B
  obtain⟨k,rfl⟩:=iy B
  have s:=dr s
  subst s
  split at h
  .rename_i e hu
   split at h
   .simp at h
   .rename_i ti g
    split at h
    .rename_i id off len esz
     split at h
     .rename_i m
      obtain⟨d,rfl⟩:=m
      simp only[OJ,OL] at h
      obtain⟨rfl,rfl,rfl⟩:=h
      cases r with
      | nq=>omega
      | sl _ _ _ _ b o0 cap c e' f hm hle D E =>
       refine aH.here (x:=.pointer (some ⟨b,o0+off * ti.size+q * ti.size,none⟩)) ?_ ?_
       .simp[Instr.indexAt,asIntOf,aK hu,bW g,gm,d]
       .have:=aq.ptr (Z:=Z) (μ:=μ) (hp:=w.heap) id (off+q) 0 b o0 ti.size hm
        simpa [Pk,P1] using this
     .simp at h
    .rename_i es
     split at h
     .rename_i m
      obtain⟨d,u⟩:=m
      simp only[OJ,OL] at h
      obtain⟨rfl,rfl,rfl⟩:=h
      cases r with
      | fy=>simp at d
      | aX _ b off esz cap c z hle l m C =>
       have o:esz=ti.size:=(l q d).symm.trans u
       subst o
       refine aH.here (x:=.pointer (some ⟨b,off+q * ti.size+0,none⟩)) ?_ ?_
       .simp[Instr.indexAt,asIntOf,aK hu,bW g,gm,d]
       .exact vq z (λk hk=>⟨c q k,m q k d (by rw[l q d] at hk;exact hk),C q k d (by rw[l q d] at hk;exact hk)⟩)
     .simp at h
    .simp at h
  .rename_i len e hu
   split at h
   .simp at h
   .rename_i ti g
    split at h
    .rename_i d
     split at h
     .rename_i id A j
      obtain⟨b,o0,esz,hm,rfl⟩:=kE r
      simp only[OJ,OL] at h
      obtain⟨rfl,rfl,rfl⟩:=h
      refine aH.here (x:=.pointer (some ⟨b,o0+A * esz+j+q * ti.size,none⟩)) ?_ ?_
      .simp[Instr.indexAt,Instr.sureAddr,asIntOf,aK hu,bW g,gm,d]
      .have:=aq.ptr (Z:=Z) (μ:=μ) (hp:=w.heap) id A (j+q * ti.size) b o0 esz hm
       simpa [P1] using this
     .rename_i e' j
      obtain⟨b,off,z,p,rfl⟩:=pv r
      simp only[OJ,OL] at h
      obtain⟨rfl,rfl,rfl⟩:=h
      refine aH.here (x:=.pointer (some ⟨b,off+j+q * ti.size,none⟩)) ?_ ?_
      .simp[Instr.indexAt,Instr.sureAddr,asIntOf,aK hu,bW g,gm,d]
      .have:=vq (w:=w) (j:=j+q * ti.size) z p
       simpa [P1] using this
     .simp at h
    .simp at h
  .simp at h
end
section
variable {Z:Nat->Prop} {μ μ':Mu} {w w':World} {P:Program} {H:View} {n:Nat} {v:V} {au:aM} {rd:List Nat}
def uX (Z:Nat->Prop) (μ:Mu) (hp:Array Obj):Option V->Option Value->Prop
 | none,none=>True
 | some v,some x=>aq Z μ hp v x
 | _,_=>False
theorem dV {o:Option V} {a:Option Value} {d q:Nat} (h:bound d o=some q) (b:uX Z μ w.heap o a):(a=none/\q=d)∨∃ k,a=some (.int k q):=by
 cases o with
 | none=>cases a with
  | none=>simp[bound] at h;exact .inl ⟨rfl,h.symm⟩
  | some x=>exact b.elim
 | some v=>cases a with
  | none=>exact b.elim
  | some x =>
   obtain⟨k,rfl⟩:=iy h
   exact .inr ⟨k,by rw[dr b]⟩
theorem cz {a:V} {x:Value} {m:Nat} (h:aq Z μ w.heap a x) (hm:dh a=some m):∃ ad cap,x=.slice ad m cap/\m<=cap:=by
 cases h with
 | emp k a=>simp[dh] at hm;subst hm;exact⟨_,_,rfl,OR _⟩
 | dn a cap=>simp[dh] at hm;subst hm;exact⟨_,_,rfl,PL _⟩
 | fy a cap=>simp[dh] at hm;subst hm;exact⟨_,_,rfl,PL _⟩
 | aX es b off esz cap c i hle d j l=>simp[dh] at hm;subst hm;exact⟨_,_,rfl,hle⟩
 | nq id off esz a=>simp[dh] at hm;subst hm;exact⟨_,_,rfl,OR _⟩
 | sl id off len esz b o0 cap c e f g hle n o=>simp[dh] at hm;subst hm;exact⟨_,_,rfl,hle⟩
 | _=>simp[dh] at hm
theorem ln {len cap l h:Nat} {lo hi:Option Value} (a:(lo=none/\l=0)∨∃ k,lo=some (.int k l)) (b:(hi=none/\h=len)∨∃ k,hi=some (.int k h)) (h1:l<=h) (c:h<=cap) :
  (Instr.sliceBounds true len cap lo hi none).run P w=.ok (l,h,cap) w:=by
 rcases a with ⟨rfl,rfl⟩ | ⟨k,rfl⟩ <;> rcases b with ⟨rfl,rfl⟩ | ⟨d,rfl⟩ <;> simp[Instr.sliceBounds,Instr.sliceBound,asIntOf,h1,c]
theorem Ho {t:TypeId} {a:V} {x:Value} {lo hi O:Option V} {s u y:Option Value} (h:pf P t a lo hi O=some (v,au,rd)) (A:aq Z μ w.heap a x)
  (z:uX Z μ w.heap lo s) (q:uX Z μ w.heap hi u) (C:uX Z μ w.heap O y) :
  aH Z μ w n v au ((do pure (Next.value (<-Instr.sliceAt t x s u y)):Sem Next).run P w):=by
 unfold pf at h
 cases hu:bG P t with
 | none=>simp[hu] at h
 | some e =>
  have E:P.underlying t=some (.slice e):=by
   unfold bG at hu;split at hu <;> simp_all
  cases D:P.info? e with
  | none=>simp[hu,D] at h
  | some ti =>
   simp only[hu,D] at h
   have g:∀ ad len cap l r m,(Instr.sliceBounds true len cap s u y).run P w=.ok (l,r,m) w ->
     (Instr.sliceAt t (.slice ad len cap) s u y).run P w=.ok (.slice (if m=l then ad else ad.map (·.add (l * ti.size))) (r - l) (m - l)) w:=by
    intro ad len cap l r m Q
    simp[Instr.sliceAt,Instr.slice,aK E,Q,bW D]
   cases O with
   | some m =>
    cases y with
    | none=>exact C.elim
    | some m' =>
     simp only at h
     split at h
     .rename_i o p R
      split at h
      .simp at h
      .rename_i F
       obtain⟨k3,rfl⟩:=iy R
       have S:=dr C
       subst S
       have G:∀ len cap,(Instr.sliceBounds true len cap s u (some (.int k3 ((0:Nat):Int)))).run P w=.ok (0,0,0) w:=by
        intro len cap
        rcases dV o z with ⟨rfl,_⟩ | ⟨k,rfl⟩ <;> rcases dV p q with ⟨rfl,_⟩ | ⟨k',rfl⟩
        .cases hi with
         | none=>simp at F
         | some _=>exact q.elim
        .simp[Instr.sliceBounds,Instr.sliceBound,asIntOf]
        .cases hi with
         | none=>simp at F
         | some _=>exact q.elim
        .simp[Instr.sliceBounds,Instr.sliceBound,asIntOf]
       have fin:∀ ad len cap,aq Z μ w.heap a (.slice ad len cap)->x=.slice ad len cap->aH Z μ w n (.emp 0) .none ((do pure (Next.value (<-Instr.sliceAt t x s u (some (.int k3 ((0:Nat):Int))))):Sem Next).run P w):=by
        intro ad len cap _ d
        subst d
        refine aH.here (g ad len cap 0 0 0 (G len cap)) ?_
        simpa using aq.emp (Z:=Z) (μ:=μ) (hp:=w.heap) 0 ad (by simp) (by simp)
       split at h
       .simp only[OJ,OL] at h
        obtain⟨rfl,rfl,rfl⟩:=h
        obtain⟨ad,cap,d,_⟩:=cz A rfl
        exact fin _ _ _ (d ▸ A) d
       .simp only[OJ,OL] at h
        obtain⟨rfl,rfl,rfl⟩:=h
        obtain⟨ad,cap,d,_⟩:=cz A rfl
        exact fin _ _ _ (d ▸ A) d
       .simp only[OJ,OL] at h
        obtain⟨rfl,rfl,rfl⟩:=h
        obtain⟨ad,cap,d,_⟩:=cz A rfl
        exact fin _ _ _ (d ▸ A) d
       .simp only[OJ,OL] at h
        obtain⟨rfl,rfl,rfl⟩:=h
        obtain⟨ad,cap,d,_⟩:=cz A rfl
        exact fin _ _ _ (d ▸ A) d
       .simp at h
     .simp at h
   | none =>
    cases y with
    | some _=>exact C.elim
    | none =>
     simp only at h
     split at h
     .rename_i id off len esz
      split at h
      .rename_i l r o p
       split at h
       .rename_i T
        obtain⟨h1,N,rfl⟩:=T
        simp only[OJ,OL] at h
        obtain⟨rfl,rfl,rfl⟩:=h
        cases A with
        | nq _ _ _ ad =>
         obtain rfl:l=0:=by omega
         obtain rfl:r=0:=by omega
         refine aH.here (g ad 0 0 0 0 0 (ln (dV o z) (dV p q) (by omega) (by omega))) ?_
         simpa using aq.nq (Z:=Z) (μ:=μ) (hp:=w.heap) id (off+0) ti.size ad
        | sl _ _ _ _ b o0 cap c e' f hm hle Q hs =>
         refine aH.here (g _ len cap l r cap (ln (dV o z) (dV p q) h1 (by omega))) ?_
         by_cases H:cap=l
         .have e1:r - l=0:=by omega
          have e2:cap - l=0:=by omega
          rw[OM H,e1,e2]
          exact aq.nq _ _ _ _
         .rw[OK H]
          simp only[OU,gm]
          have:=aq.sl (Z:=Z) (μ:=μ) (hp:=w.heap) id (off+l) (r - l) ti.size b o0 (cap - l) c e' f hm (by omega) Q (by rw[show off+l+(cap - l)=off+cap from by omega];exact hs)
          simpa [Pk,P1] using this
       .simp at h
      .simp at h
     .rename_i es
      split at h
      .rename_i l r o p
       split at h
       .rename_i T
        obtain⟨h1,N,I⟩:=T
        simp only[OJ,OL] at h
        obtain⟨rfl,rfl,rfl⟩:=h
        cases A with
        | fy ad cap U =>
         simp at N
         obtain rfl:r=0:=by omega
         obtain rfl:l=0:=by omega
         refine aH.here (g ad 0 cap 0 0 cap (ln (dV o z) (dV p q) (by omega) (by omega))) ?_
         refine aq.fy _ _ (λhn=>?_)
         by_cases J:cap=0
         .omega
         .rw[OK J] at hn
          cases ad with
          | none=>exact absurd (U rfl) J
          | some a=>simp at hn
        | aX _ b off esz cap c hz hle K W hv =>
         refine aH.here (g _ es.length cap l r cap (ln (dV o z) (dV p q) h1 (by omega))) ?_
         by_cases X:l=r
         .subst X
          simpa using aq.fy (Z:=Z) (μ:=μ) (hp:=w.heap) (if cap=l then some ⟨b,off,none⟩ else some (Addr.add ⟨b,off,none⟩ (l * ti.size))) (cap - l) (by split <;> simp)
         .have L:0 < es.length:=by omega
          have M:esz=ti.size:=by
           have h0:=K 0 L
           have:=O7.1 I (es[0]) (OW _)
           simp at this
           simp[OH,L] at h0
           omega
          subst M
          rw[OK (by omega)]
          simp only[OU,gm]
          have hlen:((es.drop l).take (r - l)).length=r - l:=by simp;omega
          have B:∀ i,i < r - l->((es.drop l).take (r - l)).getD i []=es.getD (l+i) []:=by
           intro i hi
           simp[OH,PT,hi]
          have:=aq.aX (Z:=Z) (μ:=μ) (hp:=w.heap) ((es.drop l).take (r - l)) b (off+l * ti.size) ti.size (cap - l) (λi j=>c (l+i) j) hz (by omega)
           (λi hi=>by rw[hlen] at hi;rw[B i hi];exact K _ (by omega))
           (λi j hi Y=>by
            rw[hlen] at hi
            have:=W (l+i) j (by omega) Y
            rw[Pk] at this
            rw[<-this];congr 1;omega)
           (λi j hi Y=>by rw[hlen] at hi;rw[B i hi];exact hv _ _ (by omega) Y)
          rw[hlen] at this
          exact this
       .simp at h
      .simp at h
     .split at h
      .rename_i o p
       simp only[OJ,OL] at h
       obtain⟨rfl,rfl,rfl⟩:=h
       cases A with
       | emp _ ad h1 N =>
        refine aH.here (g ad 0 0 0 0 0 (ln (dV o z) (dV p q) (by omega) (by omega))) ?_
        simpa using aq.emp (Z:=Z) (μ:=μ) (hp:=w.heap) _ ad h1 N
      .simp at h
     .simp at h
theorem wrap_small {q:Nat} (h:q < aB):IntKind.i64.wrap (q:Int)=q:=by
 unfold aB at h
 exact IntWalk.i64_in _ (by omega)
theorem fA {t:TypeId} {i:TypeInfo} {z:List V} (hi:P.info? t=some i) (h:zeroCells P t=some z):∃ a,i.zero=some a/\z=(dJ a).cells:=by
 unfold zeroCells at h
 simp only[hi] at h
 cases b:i.zero with
 | none=>simp[b] at h
 | some a=>simp[b] at h;exact⟨a,rfl,h.symm⟩
theorem dT {i j s l:Nat} (hi:i < l) (a:j < s):i * s+j < l * s:=by
 have:(i+1) * s<=l * s:=Pf _ hi
 rw[Pk] at this;omega
theorem AL {t:TypeId} {a b:V} {x y:Value} (h:iE P t a b n=some (v,au,rd)) (C:aq Z μ w.heap a x) (D:aq Z μ w.heap b y) (c:Ctx Z μ w.heap H rd n au) :
  aH Z μ w n v au ((do pure (Next.value (<-Instr.makeSlice t x y)):Sem Next).run P w):=by
 unfold iE at h
 cases hu:bG P t with
 | none=>simp[hu] at h
 | some e =>
  have r:P.underlying t=some (.slice e):=by
   unfold bG at hu;split at hu <;> simp_all
  cases d:P.info? e with
  | none=>simp[hu,d] at h
  | some ti =>
   simp only[hu,d] at h
   split at h
   .rename_i l f N O
    obtain⟨Q,rfl⟩:=iy N
    obtain⟨k2,rfl⟩:=iy O
    have C:=dr C
    have D:=dr D
    subst C D
    split at h
    .rename_i m
     obtain⟨h1,R,S⟩:=m
     have T:IntKind.i64.wrap (l:Int)=l:=wrap_small (by omega)
     have U:IntKind.i64.wrap (f:Int)=f:=wrap_small R
     have g1:¬ (((ti.bytes:Int) * (f:Int)) > 2 ^ 48):=by
      have:((ti.bytes * f:Nat):Int) < 2 ^ 48:=by unfold aB at S;omega
      push_cast at this;omega
     have k:∀ s:Array Value,(f * ti.size=0/\s = #[])∨(f * ti.size≠0/\∃ g,(zeroValue e).run P w=.ok g w/\s=g.cells) ->
       (Instr.makeSlice t (.int Q (l:Int)) (.int k2 (f:Int))).run P w=.ok (.slice (some ⟨w.heap.size,0,none⟩) l f) (w.alloc (.cells ((Array.range (f * ti.size)).map (s[· % s.size]!)) e)):=by
      intro s E
      have g2:¬ ((f:Int) < 0):=by omega
      have g3:¬ ((l:Int) < 0):=by omega
      have g4:¬ ((l:Int) > (f:Int)):=by omega
      simp only[Instr.makeSlice,Sem.run_bind,aK r,Result.andThen_ok,asInt,asIntOf,Sem.run_pure,me d,T,U]
      simp only[g1,g2,g3,g4,decide_false,Bool.or_false,Qn,Pb,if_false,Sem.run_bind,run_askRoom,Result.andThen_ok,bW d,PJ]
      rcases E with ⟨o,rfl⟩ | ⟨o,g,p,rfl⟩
      .simp[o,newRow,bW d]
      .simp[o,newRow,bW d,p]
     split at h
     .rename_i F
      subst F
      simp only[OJ,OL] at h
      obtain⟨rfl,rfl,rfl⟩:=h
      obtain rfl:l=0:=by omega
      exact aH.value (k #[] (.inl ⟨by simp,rfl⟩)) (.emp 2 _ (by simp) (by simp)) (fH _ _) ⟨rfl,cZ _ _⟩
     .split at h
      .simp at h
      .rename_i L W
       split at h
       .simp at h
       .rename_i z E
        split at h
        .rename_i G
         obtain⟨q,u⟩:=G
         simp only[OJ,OL] at h
         obtain⟨rfl,rfl,rfl⟩:=h
         obtain⟨g,p,rfl⟩:=fA d E
         have hr:=eH (eF (Z:=Z) (μ:=μ) (w:=w) g) u
         have I:g.cells.size=ti.size:=by rw[<-q,hr.1];simp
         have M:(Array.range (f * ti.size)).size=f * ti.size:=by simp
         have A:f * ti.size≠0:=by
          intro o;rcases Nat.mul_eq_zero.1 o with o | o <;> contradiction
         refine aH.value (μ':=μ.set n (w.heap.size,0,ti.size)) (k g.cells (.inr ⟨A,g,gA d p w,rfl⟩)) ?_ (fH _ _) ?_
         .have:=aq.sl (Z:=Z) (μ:=μ.set n (w.heap.size,0,ti.size)) (hp:=(w.alloc (.cells ((Array.range (f * ti.size)).map (g.cells[· % g.cells.size]!)) e)).heap) n 0 l ti.size w.heap.size 0 f _ e (0,0) (by simp[Mu.set]) h1 (by rw[heap_alloc];simp;rfl) (by simp)
          simpa using this
         .refine⟨w.heap.size,0,ti.size,OR _,by rw[heap_alloc];simp,rfl,cZ _ _,?_⟩
          refine cO.newRow c.new c.bE ?_ ?_ ?_
          .simp;exact Pf _ h1
          .intro i hi;simp at hi;simp[OH,hi,q]
          .intro i j hi J
           simp at hi
           have K:i * ti.size+j < f * ti.size:=dT (by omega) J
           have B:(i * ti.size+j) % ti.size=j:=by
            rw[Px,Nat.mul_add_mod];exact PX J
           refine⟨g.cells[j]'(by omega),?_,?_⟩
           .simp[K,I,B,getElem!_pos g.cells j (by omega)]
           .have:=hr.2 j (by rw[q];exact J)
            simpa [OH,hi,show j < g.cells.size from by omega] using this
        .simp at h
    .simp at h
   .simp at h
end
section
variable {Z:Nat->Prop} {μ μ':Mu} {w w':World} {P:Program} {H:View} {n:Nat} {v:V} {au:aM} {rd:List Nat}
structure Flat (Z:Nat->Prop) (μ:Mu) (hp:Array Obj) (size:Nat) (xs:List (List V)) (fl:Array Value):Prop where
 len:fl.size=xs.length * size
 rel:∀ i j,i < xs.length->j < size->aq Z μ hp ((xs.getD i []).getD j .any) (fl.getD (i * size+j) undef)
theorem rJ {b off size N:Nat} {c:Nat->Nat->Value} (h:∀ i j,i < N->j < size->cellAt w.heap b (off+i * size+j)=some (c i j)) {m:Nat} (hm:m<=N) :
  (loadCells ⟨b,off,none⟩ (m * size)).run P w=.ok ((((List.range (N * size)).map λk=>c (k / size) (k % size)).toArray).extract 0 (m * size)) w:=by
 have hle:m * size<=N * size:=Pf _ hm
 rw[run_loadCells w ⟨b,off,none⟩ (m * size) (λk=>c (k / size) (k % size)) (λk hk=>?_)]
 .congr 1
  apply Array.ext_getElem?
  intro k
  simp only[Pr,Array.getElem?_extract,ON,List.getElem?_range']
  by_cases hk:k < m * size
  .simp[hk,show k < N * size from by omega,Pv hm]
  .simp[hk,Pv hm]
 .have d:0 < size:=by
   rcases Nat.eq_zero_or_pos size with a | a
   .subst a;simp at hk
   .exact a
  have h1:k / size < m:=(Qb d).2 hk
  have e:k % size < size:=QC _ d
  rw[gm,oZ,<-h (k / size) (k % size) (by omega) e]
  congr 1
  have:=Nat.div_add_mod k size
  rw[Px] at this
  omega
theorem zN {size N:Nat} {c:Nat->Nat->Value} {xs:List (List V)} (d:xs.length=N) (h:∀ i j,i < N->j < size->aq Z μ w.heap ((xs.getD i []).getD j .any) (c i j)) :
  Flat Z μ w.heap size xs ((List.range (N * size)).map λk=>c (k / size) (k % size)).toArray:=by
 refine⟨by simp[d],λi j hi a=>?_⟩
 have b:i * size+j < N * size:=dT (by omega) a
 have h1:(i * size+j) / size=i:=by
  rw[Px,Nat.mul_add_div (by omega),Nat.div_eq_of_lt a];simp
 have e:(i * size+j) % size=j:=by
  rw[Px,Nat.mul_add_mod];exact PX a
 simpa [OP,b,h1,e] using h i j (by omega) a
theorem oG {ad:Option Addr} {cap size m:Nat} (hm:m<=0):(Builtin.firstCells size m (.slice ad 0 cap)).run P w=.ok ((#[]:Array Value).extract 0 (m * size)) w:=by
 obtain rfl:m=0:=by omega
 cases ad with
 | none=>simp[Builtin.firstCells]
 | some a=>simp[Builtin.firstCells,loadCells,loadCellsFrom]
theorem bsize (s:ByteArray):s.data.toList.length=s.size:=by rw[Array.length_toList];rfl
theorem mw {x:V} {C:Value} {xs:List (List V)} {size:Nat} (h:bD H x=some (xs,rd)) (d:aq Z μ w.heap x C) (u:∀ id,id∈rd->cO Z μ w.heap id (H id))
  (r:∀ e∈xs,e.length=size) :
  ∃ v,Flat Z μ w.heap size xs v/\(Builtin.lenOf C).run P w=.ok xs.length w/\∀ m,m<=xs.length->(Builtin.firstCells size m C).run P w=.ok (v.extract 0 (m * size)) w:=by
 have nil:∀ (ad:Option Addr) cap,∃ v,Flat Z μ w.heap size [] v/\(Builtin.lenOf (.slice ad 0 cap)).run P w=.ok ([]:List (List V)).length w /\
   ∀ m,m<=([]:List (List V)).length->(Builtin.firstCells size m (.slice ad 0 cap)).run P w=.ok (v.extract 0 (m * size)) w :=
  λad cap=>⟨#[],⟨by simp,λi j hi=>by simp at hi⟩,by simp[Builtin.lenOf],λm hm=>oG (by simpa using hm)⟩
 unfold bD at h
 split at h
 .simp only[OJ,OL] at h
  obtain⟨rfl,rfl⟩:=h
  obtain⟨ad,cap,rfl,_⟩:=cz d rfl
  exact nil ad cap
 .simp only[OJ,OL] at h
  obtain⟨rfl,rfl⟩:=h
  obtain⟨ad,cap,rfl,_⟩:=cz d rfl
  exact nil ad cap
 .rename_i es
  simp only[OJ,OL] at h
  obtain⟨rfl,rfl⟩:=h
  cases d with
  | fy a cap=>exact nil a cap
  | aX _ b off esz cap c R hle D M y =>
   by_cases k:es=[]
   .subst k;exact nil _ cap
   .have t:0 < es.length:=List.length_pos_iff.2 k
    have:esz=size:=by
     have h1:=D 0 t
     have E:=r es[0] (OW _)
     simp[OH,t] at h1
     omega
    subst this
    exact⟨_,zN rfl y,by simp[Builtin.lenOf],λm hm=>rJ M hm⟩
 .simp only[OJ,OL] at h
  obtain⟨rfl,rfl⟩:=h
  obtain⟨ad,cap,rfl,_⟩:=cz d rfl
  exact nil ad cap
 .rename_i id off len esz hlen
  split at h
  .rename_i J es hH
   split at h
   .rename_i hle
    simp only[OJ,OL] at h
    obtain⟨rfl,rfl⟩:=h
    cases d with
    | nq=>exact(hlen rfl).elim
    | sl _ _ _ _ b o0 cap c e' f hm K S T =>
     have z:=u id (by simp)
     rw[hH] at z
     obtain⟨rfl,_,N,O⟩:=z b o0 esz hm
     have g:((es.drop off).take len).length=len:=by simp;omega
     have l:∀ i,i < len->((es.drop off).take len).getD i []=es.getD (off+i) []:=by
      intro i hi;simp[OH,PT,hi]
     have A:0 < len:=by
      rcases Nat.eq_zero_or_pos len with t | t
      .exact(hlen t).elim
      .exact t
     have:esz=size:=by
      have h1:=N off (by omega)
      have E:=r (((es.drop off).take len)[0]'(by omega)) (OW _)
      have L:=l 0 A
      simp only[OH,OI (show 0 < ((es.drop off).take len).length by omega),OS] at L
      rw[L] at E
      simp only[OH,Qd] at h1 E
      omega
     subst this
     have d:∀ i,∃ ci:Nat->Value,∀ j,j < esz->i < len->cellAt w.heap b (o0+off * esz+i * esz+j)=some (ci j)/\aq Z μ w.heap ((((es.drop off).take len).getD i []).getD j .any) (ci j):=by
      intro i
      by_cases hi:i < len
      .obtain⟨ci,F⟩:=kS (n:=esz) (p:=λj x=>cellAt w.heap b (o0+off * esz+i * esz+j)=some x/\aq Z μ w.heap ((((es.drop off).take len).getD i []).getD j .any) x) (λj o=>by
        obtain⟨x,d,y⟩:=O (off+i) j (by omega) o
        rw[Pk,<-P1] at d
        exact⟨x,d,by rw[l i hi];exact y⟩)
       exact⟨ci,λj o _=>F j o⟩
      .exact⟨λ_=>undef,λj _ h=>absurd h hi⟩
     obtain⟨Q,B⟩:=Classical.axiomOfChoice d
     refine⟨_,zN (c:=Q) g (λi j hi o=>(B i j o hi).2),by simp[Builtin.lenOf];omega,λm hm=>?_⟩
     rw[g] at hm
     exact rJ (λi j hi o=>(B i j o hi).1) hm
   .simp at h
  .simp at h
 .rename_i s
  simp only[OJ,OL] at h
  obtain⟨rfl,rfl⟩:=h
  have y:=dr d
  subst y
  have q:(s.data.toList.map λb=>([V.val (Value.int .u8 b.toNat)]:List V)).length=s.size:=by rw[OX,bsize]
  have hlen:(Builtin.lenOf (.string s)).run P w=.ok s.size w:=rfl
  by_cases G:s.size=0
  .refine⟨#[],⟨by rw[q,G];simp,λi j hi=>by rw[q] at hi;omega⟩,by rw[q];exact hlen,λm hm=>?_⟩
   rw[q] at hm
   obtain rfl:m=0:=by omega
   have:(s.extract 0 0).data = #[]:=by rw[ByteArray.data_extract];simp
   simp[Builtin.firstCells,this]
  .have:size=1:=by
    have k:0 < s.data.toList.length:=by rw[bsize];omega
    have:=r [V.val (Value.int .u8 (s.data.toList[0]).toNat)] (O9.2 ⟨_,OW k,rfl⟩)
    simpa using this.symm
   subst this
   refine⟨s.data.map λb=>.int .u8 b.toNat,⟨by rw[q,Array.size_map,Nat.mul_one];rfl,λi j hi o=>?_⟩,by rw[q];exact hlen,λm hm=>?_⟩
   .obtain rfl:j=0:=by omega
    have I:i < s.data.size:=by rw[q] at hi;exact hi
    simp only[OH,OP,ON,Array.getElem?_toList,Array.getElem?_map,Nat.mul_one,Qd,OZ I,OU,OS,O4]
    exact aq.val _ rfl
   .rw[q] at hm
    simp only[Builtin.firstCells,Sem.run_pure,Nat.mul_one]
    congr 1
    rw[ByteArray.data_extract,Array.map_extract]
 .simp at h
theorem Jr {size:Nat} {xs:List (List V)} {b:Array Value} (h:Flat Z μ w.heap size xs b) (m:Nat) (hm:m<=xs.length):Flat Z μ w.heap size (xs.take m) (b.extract 0 (m * size)):=by
 have hle:m * size<=xs.length * size:=Pf _ hm
 have e:(b.extract 0 (m * size)).size=m * size:=by rw[Array.size_extract,h.len];omega
 refine⟨by rw[e,PM,Pv hm],λi j hi c=>?_⟩
 have a:i < m:=by simp at hi;omega
 have:=h.rel i j (by omega) c
 have f:i * size+j < m * size:=dT a c
 have d:i * size+j < b.size:=by rw[h.len];omega
 simp only[OH,OP,PT,a,if_true,Array.getElem?_extract] at this ⊢
 rw[OM (by omega),PA]
 exact this
theorem wT {size:Nat} {xs:List (List V)} {d:Array Value} (h:Flat Z μ w.heap size xs d) (j:∀ e∈xs,e.length=size) (f:∀ e∈xs,e.all aD=true):∀ x∈d.toList,x.oneCell'=true:=by
 intro x l
 obtain⟨k,hk,rfl⟩:=Ql l
 have c:k < xs.length * size:=by rw[<-h.len];simpa using hk
 have a:0 < size:=by
  rcases Nat.eq_zero_or_pos size with g | g
  .subst g;simp at c
  .exact g
 have h1:k / size < xs.length:=(Qb a).2 c
 have m:k % size < size:=QC _ a
 have:=h.rel (k / size) (k % size) h1 m
 have e:k / size * size+k % size=k:=by rw[Px];exact Nat.div_add_mod k size
 rw[e] at this
 have i:k < d.size:=by simpa using hk
 simp only[OP,OZ i,OS] at this
 have b:xs[k / size]∈xs:=OW _
 have hlen:=j _ b
 simp only[OH,OI h1,OS,OI (show k % size < (xs[k / size]).length by omega)] at this
 have:=rN this (O7.1 (f _ b) _ (OW _))
 simpa using this
theorem qv {b off:Nat} {c:Array Value} {e:TypeId} {f:Nat × Nat} (d:w.heap[b]?=some (.cells c e f)) (g:∀ k,k < c.size->¬ (f.1<=k/\k < f.2)) (xs:List Value)
  (l:off+xs.length<=c.size) (h:∀ x∈xs,x.oneCell'=true) :
  ∃ a,(storeCells ⟨b,off,none⟩ xs).run P w=.ok () { w with heap:=w.heap.setIfInBounds b (.cells a e f) }/\a.size=c.size /\
   ∀ k,cellAt (w.heap.setIfInBounds b (.cells a e f)) b k=if off<=k/\k < off+xs.length then xs[k - off]? else cellAt w.heap b k:=by
 obtain⟨a,h1,i,j⟩:=ib (P:=P) (b:=b) (off:=off) (e:=e) (f:=f) xs 0 c w d g (by omega) h
 refine⟨a,h1,i,λk=>?_⟩
 have:=j k
 simp only[Qd] at this
 simp only[cellAt,cH (di d),d]
 exact this
theorem Al:aB=70368744177664:=by decide
theorem Df {t0 t1 e:TypeId} {ti:TypeInfo} {a:Array TypeId} {ty:TypeId} {base:Option Addr} {sLen sCap m:Nat} {l:Value} {old new u:Array Value}
  (n:a[0]?=some t0) (o:a[1]?=some t1) (b:mH P t1=true) (c:P.underlying t0=some (.slice e)) (f:P.info? e=some ti)
  (x:(Builtin.lenOf l).run P w=.ok m w) (p:sCap < sLen+m) (y:(sLen+m) * ti.bytes < aB) (z:sLen+m < aB)
  (A:∀ w',∃ q,(zeroValue e).run P w'=.ok q w'/\q.cells=u)
  (B:(Builtin.firstCells ti.size sLen (.slice base sLen sCap)).run P w.drew=.ok old w.drew) (C:(Builtin.firstCells ti.size m l).run P w.drew=.ok new w.drew) :
  ∃ cap,sLen+m<=cap/\(Builtin.append_ a ty #[.slice base sLen sCap,l]).run P w =
   .ok (.slice (some ⟨w.heap.size,0,none⟩) (sLen+m) cap) (w.drew.alloc (.cells (old ++ new ++ Builtin.zeroCells u (cap - (sLen+m))) e)):=by
 have hint:∃ d,P.underlying t1=some d/\∀ k,d≠.int k:=by
  unfold mH at b
  cases hu:P.underlying t1 with
  | none=>simp[hu] at b
  | some d=>refine⟨d,rfl,λk e=>?_⟩;subst e;simp[hu] at b
 obtain⟨d,D,r⟩:=hint
 have v:=Al
 have g:=growslice_fits p (show (sLen+m) * ti.bytes<=140737488355328 by omega)
 have h:¬ (((sLen+m:Nat):Int) > IntKind.i64.max):=by
  have:IntKind.i64.max=9223372036854775807:=by decide
  rw[this];omega
 have i:¬ (Builtin.nextslicecap (sLen+m) sCap * ti.bytes > 2 ^ 48):=by
  have:(2:Nat) ^ 48=281474976710656:=by decide
  rw[this];exact Nat.not_lt.2 g
 obtain⟨q,s,t⟩:=A w.drew
 refine⟨Question.cut (.appendCap (sLen+m) sCap e) (w.tape w.drawn (.appendCap (sLen+m) sCap e)),Nat.le_add_right _ _,?_⟩
 have j:Question.forced (.appendCap (sLen+m) sCap e)=false:=rfl
 subst t
 cases d with
 | int k=>exact absurd rfl (r k)
 | _ =>
 simp only[Builtin.append_,Pr,O4,Pq,n,o,Sem.run_bind,aK c,Result.andThen_ok,bW f,aK D,Sem.run_pure,Pb,if_false,x,Bool.not_false,if_true]
 rw[OK (by omega)]
 simp only[h,false_and,if_false,Sem.run_bind,me f,Result.andThen_ok,Sem.run_ite,Sem.run_pure,i,run_choose,j,Pb,World.drew_eq,run_askRoom,B,C,s,newRow,run_newObj,World.alloc_eq]
 rfl
end
end Gv
