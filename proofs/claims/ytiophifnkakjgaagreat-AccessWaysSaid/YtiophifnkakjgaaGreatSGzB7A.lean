/-
  Part 1 of the proof: what the machine does and what the functions answer.
  Conditions: those that each lemma names.
-/
import Derived.WalkKit
set_option linter.unusedSimpArgs false
set_option linter.unusedVariables false
set_option maxRecDepth 100000
set_option maxHeartbeats 20000000
namespace Gv
open Go
theorem Sm:type_of% @List.getD_eq_getElem?_getD:=@List.getD_eq_getElem?_getD
theorem Sn:type_of% @List.getElem?_eq_getElem:=@List.getElem?_eq_getElem
theorem Sq:type_of% @Option.some.injEq:=@Option.some.injEq
theorem Sr:type_of% @if_neg:=@if_neg
theorem Ss:type_of% @List.getElem?_map:=@List.getElem?_map
theorem St:type_of% @if_pos:=@if_pos
theorem Su:type_of% @Prod.mk.injEq:=@Prod.mk.injEq
theorem Sv:type_of% @List.length_map:=@List.length_map
theorem Sw:type_of% @Option.map_eq_some_iff:=@Option.map_eq_some_iff
theorem Sx:type_of% @List.getElem_mem:=@List.getElem_mem
theorem Sy:type_of% @Nat.le_refl:=@Nat.le_refl
theorem Sz:type_of% @Array.getD_eq_getD_getElem?:=@Array.getD_eq_getD_getElem?
theorem SA:type_of% @List.length_cons:=@List.length_cons
theorem SD:type_of% @Option.map_some:=@Option.map_some
theorem SE:type_of% @Bool.and_eq_true:=@Bool.and_eq_true
theorem SH:type_of% @List.getElem?_eq_some_iff:=@List.getElem?_eq_some_iff
theorem SJ:type_of% @Option.getD_some:=@Option.getD_some
theorem SK:type_of% @List.mem_of_getElem?:=@List.mem_of_getElem?
theorem SL:type_of% @List.take_of_length_le:=@List.take_of_length_le
theorem SM:type_of% @List.mem_cons:=@List.mem_cons
theorem SN:type_of% @decide_eq_true_eq:=@decide_eq_true_eq
theorem SP:type_of% @Array.getElem?_eq_getElem:=@Array.getElem?_eq_getElem
theorem SQ:type_of% @List.mem_cons_of_mem:=@List.mem_cons_of_mem
theorem SS:type_of% @List.mem_append:=@List.mem_append
theorem SU:type_of% @Bool.false_eq_true:=@Bool.false_eq_true
theorem SV:type_of% @List.length_append:=@List.length_append
theorem SY:type_of% @Nat.lt_or_ge:=@Nat.lt_or_ge
theorem SZ:type_of% @List.length_nil:=@List.length_nil
theorem S0:type_of% @List.map_append:=@List.map_append
theorem S3:type_of% @List.getElem?_cons_zero:=@List.getElem?_cons_zero
theorem S4:type_of% @List.drop_eq_nil_of_le:=@List.drop_eq_nil_of_le
theorem S5:type_of% @List.mem_map:=@List.mem_map
theorem S6:type_of% @List.take_add_one:=@List.take_add_one
theorem S7:type_of% @List.map_cons:=@List.map_cons
theorem S8:type_of% @Nat.lt_of_lt_of_le:=@Nat.lt_of_lt_of_le
theorem S9:type_of% @List.getElem?_append_left:=@List.getElem?_append_left
theorem Tc:type_of% @List.all_eq_true:=@List.all_eq_true
theorem Td:type_of% @Option.bind_some:=@Option.bind_some
theorem Te:type_of% @List.getElem?_eq_none:=@List.getElem?_eq_none
theorem Tf:type_of% @Int.toNat_natCast:=@Int.toNat_natCast
theorem Tg:type_of% @Nat.mul_le_mul_right:=@Nat.mul_le_mul_right
theorem Th:type_of% @List.cons_append:=@List.cons_append
theorem Ti:type_of% @Nat.add_mul:=@Nat.add_mul
theorem Tl:type_of% @List.getElem?_cons_succ:=@List.getElem?_cons_succ
theorem Tm:type_of% @List.getElem?_toArray:=@List.getElem?_toArray
theorem Tn:type_of% @Array.getElem?_setIfInBounds:=@Array.getElem?_setIfInBounds
theorem To:type_of% @List.drop_eq_getElem_cons:=@List.drop_eq_getElem_cons
theorem Tp:type_of% @List.foldl_cons:=@List.foldl_cons
theorem Tq:type_of% @Nat.le_trans:=@Nat.le_trans
theorem Tt:type_of% @Nat.zero_add:=@Nat.zero_add
theorem Tu:type_of% @List.getElem?_append_right:=@List.getElem?_append_right
theorem Tv:type_of% @List.length_take:=@List.length_take
theorem Tw:type_of% @List.mem_zipIdx_iff_getElem?:=@List.mem_zipIdx_iff_getElem?
theorem Tx:type_of% @List.nodup_cons:=@List.nodup_cons
theorem Ty:type_of% @List.nil_append:=@List.nil_append
theorem Tz:type_of% @List.mem_singleton:=@List.mem_singleton
theorem TA:type_of% @beq_iff_eq:=@beq_iff_eq
theorem TB:type_of% @List.append_assoc:=@List.append_assoc
theorem TC:type_of% @Bool.true_and:=@Bool.true_and
theorem TD:type_of% @List.mem_filter:=@List.mem_filter
theorem TE:type_of% @Bool.eq_iff_iff:=@Bool.eq_iff_iff
theorem TF:type_of% @List.getD_cons_zero:=@List.getD_cons_zero
theorem TG:type_of% @List.filterMap_cons:=@List.filterMap_cons
theorem TH:type_of% @List.eraseIdx_cons_succ:=@List.eraseIdx_cons_succ
theorem TI:type_of% @List.eraseIdx_cons_zero:=@List.eraseIdx_cons_zero
theorem TJ:type_of% @decide_eq_false_iff_not:=@decide_eq_false_iff_not
theorem TK:type_of% @Array.getElem?_append_left:=@Array.getElem?_append_left
theorem TL:type_of% @List.mem_range:=@List.mem_range
theorem TM:type_of% @List.mem_filterMap:=@List.mem_filterMap
theorem TN:type_of% @List.pairwise_cons:=@List.pairwise_cons
theorem TO:type_of% @Array.getElem?_eq_none:=@Array.getElem?_eq_none
theorem TP:type_of% @Nat.zero_le:=@Nat.zero_le
theorem TQ:type_of% @Classical.byContradiction:=@Classical.byContradiction
theorem TR:type_of% @List.getElem?_range:=@List.getElem?_range
theorem TS:type_of% @List.size_toArray:=@List.size_toArray
theorem TT:type_of% @List.nodup_append:=@List.nodup_append
theorem TU:type_of% @List.all_cons:=@List.all_cons
theorem TV:type_of% @Bool.false_and:=@Bool.false_and
theorem TW:type_of% @List.getElem?_take:=@List.getElem?_take
theorem TX:type_of% @List.mem_iff_getElem:=@List.mem_iff_getElem
theorem TY:type_of% @Nat.add_assoc:=@Nat.add_assoc
theorem TZ:type_of% @List.drop_zero:=@List.drop_zero
theorem T0:type_of% @List.getElem?_set:=@List.getElem?_set
theorem T4:type_of% @List.foldl_append:=@List.foldl_append
theorem T6:type_of% @List.length_filter_le:=@List.length_filter_le
theorem T7:type_of% @List.map_nil:=@List.map_nil
theorem T8:type_of% @List.all_map:=@List.all_map
theorem T9:type_of% @Array.replicate_succ:=@Array.replicate_succ
theorem Ua:type_of% @Array.replicate_zero:=@Array.replicate_zero
theorem Ub:type_of% @List.length_eq_zero_iff:=@List.length_eq_zero_iff
theorem Uc:type_of% @List.getElem?_replicate:=@List.getElem?_replicate
theorem Ud:type_of% @of_decide_eq_true:=@of_decide_eq_true
theorem Ue:type_of% @List.append_nil:=@List.append_nil
theorem Uf:type_of% @Array.getElem?_push:=@Array.getElem?_push
theorem Ug:type_of% @List.getD_cons_succ:=@List.getD_cons_succ
theorem Uh:type_of% @List.append_toArray:=@List.append_toArray
theorem Ui:type_of% @Nat.add_zero:=@Nat.add_zero
theorem Uj:type_of% @List.any_eq_true:=@List.any_eq_true
theorem Uk:type_of% @List.isEmpty_nil:=@List.isEmpty_nil
theorem Ul:type_of% @List.mem_cons_self:=@List.mem_cons_self
theorem Um:type_of% @List.length_replicate:=@List.length_replicate
theorem Un:type_of% @Nat.eq_of_beq_eq_true:=@Nat.eq_of_beq_eq_true
theorem Uo:type_of% @List.filter_append:=@List.filter_append
theorem Up:type_of% @Bool.or_eq_true:=@Bool.or_eq_true
theorem Uq:type_of% @List.range_succ:=@List.range_succ
theorem Ur:type_of% @Bool.not_eq_true':=@Bool.not_eq_true'
theorem Us:type_of% @List.push_toArray:=@List.push_toArray
theorem Ut:type_of% @Bool.not_true:=@Bool.not_true
theorem Uu:type_of% @List.length_pos_iff:=@List.length_pos_iff
theorem Uv:type_of% @beq_self_eq_true:=@beq_self_eq_true
theorem Uw:type_of% @List.perm_middle:=@List.perm_middle
theorem Ux:type_of% @List.getElem?_drop:=@List.getElem?_drop
theorem Uy:type_of% @Option.some.inj:=@Option.some.inj
theorem Uz:type_of% @List.find?_cons:=@List.find?_cons
inductive V where
 | any
 | val (v:Value)
 | emp (k:Nat)
 | dK
 | aT (es:List (List V))
 | sl (id off len esz:Nat)
 | ptr (id i j:Nat)
 | aG (e:List V) (j:Nat)
 | mp (id:Nat)
 | fn (f:FuncId) (first cap:List V)
 | agg (cs:List V)
 | aS (vs:List V)
 deriving Inhabited
inductive dF where
 | dead
 | arr (esz:Nat) (es:List (List V))
 | map (es:List (V × V × Nat)) (clock:Nat)
 | uQ (s:ByteArray) (pos:Nat)
 deriving Inhabited
abbrev az:=List dF
abbrev View:=Nat->dF
def az.view (h:az):View:=λid=>h.getD id .dead
inductive bh where
 | none
 | new (o:dF)
 | eS (id:Nat) (o:dF)
 | eJ (id:Nat) (o:dF)
def bh.fresh (free:Prop):bh->Prop
 | .new _ | .eJ _ _=>free
 | _=>True
def bh.apply (h:az):bh->az
 | .none=>h
 | .new o=>h ++ [o]
 | .eS id o=>h.set id o
 | .eJ id o=>h.set id .dead ++ [o]
def plain:Value->Bool
 | .bool _ | .int _ _ | .float _ _ | .complex _ _ _ | .string _ | .pointer none | .map none | .nilFunc | .nilIface=>true
 | _=>false
def na:Value->V
 | .slice none 0 0=>.emp 1
 | .slice _ _ _=>.any
 | v=>if plain v then .val v else .any
def fg:Value->V
 | .agg cs=>.agg (cs.toList.map na)
 | .func (.func f) a b=>if a.size=0/\b.size=0 then .fn f [] [] else .any
 | v=>na v
def toCell:V->Option Value
 | .val v=>some v
 | _=>none
def tT:List V->Option (List Value)
 | []=>some []
 | v :: r=>match toCell v,tT r with
  | some x,some y=>some (x :: y)
  | _,_=>none
def c5:V->Option Value
 | .val v=>some v
 | .agg cs=>(tT cs).map λl=>.agg l.toArray
 | _=>none
def V.cells:V->List V
 | .agg cs=>cs
 | v=>[v]
def aE:V->Bool
 | .any | .agg _ | .aS _=>false
 | _=>true
def aW {α:Type} (P:Program):Sem α->Option α
 | .pure a=>some a
 | .program k=>aW P (k P)
 | _=>none
abbrev Env:=Nat->V
def Env.put (T:Env) (d:Option Nat) (v:V):Env:=match d with
 | some d=>λt=>if t=d then v else T t
 | none=>T
def ev (T:Env):Operand->V
 | .tmp t=>T t
 | .const v=>fg v
 | .global _=>.any
 | .func f=>.fn f [] []
def cB (P:Program) (t:TypeId):Option TypeId:=match P.underlying t with
 | some (.slice e)=>some e
 | _=>none
def zeroCells (P:Program) (t:TypeId):Option (List V):=match P.info? t with
 | some i=>match i.zero with
  | some v=>some (fg v).cells
  | none=>none
 | none=>none
def oN (P:Program) (t:TypeId) (f:Nat):Option (Nat × Nat × TypeId):=match P.underlying t with
 | some (.struct fs)=>match fs[f]? with
  | some x=>match P.info? x.type with
   | some i=>some (x.offset,i.size,x.type)
   | none=>none
  | none=>none
 | _=>none
def asNat:V->Option Nat
 | .val (.int _ q)=>if 0<=q then some q.toNat else none
 | _=>none
def qL (P:Program) (t:TypeId):Option Bool:=match P.underlying t with
 | some (.struct _) | some (.array _ _)=>some true
 | some _=>some false
 | none=>none
def pe (P:Program) (t:TypeId) (cs:List V) (off:Nat):Option V:=match P.info? t,qL P t with
 | some i,some true=>if off+i.size<=cs.length then some (.agg ((cs.drop off).take i.size)) else none
 | some _,some false=>if off < cs.length then some (cs.getD off .any) else none
 | _,_=>none
def fe (e:List V) (j:Nat) (cs:List V):List V:=e.take j ++ cs ++ e.drop (j+cs.length)
def fA (n:Nat):V:=.val (.int .i64 n)
def bA (H:View):V->Option (List (List V) × List Nat)
 | .emp _ | .dK=>some ([],[])
 | .aT es=>some (es,[])
 | .sl _ _ 0 _=>some ([],[])
 | .sl id off len _=>match H id with
  | .arr _ es=>if off+len<=es.length then some ((es.drop off).take len,[id]) else none
  | _=>none
 | .val (.string s)=>some (s.data.toList.map λb=>[.val (.int .u8 b.toNat)],[])
 | _=>none
def aC:Nat:=2 ^ 46
def jY:List (List V)->Option (List UInt8)
 | []=>some []
 | [.val (.int .u8 n)] :: r=>(jY r).map (UInt8.ofNat n.toNat :: ·)
 | _=>none
def gO:List (V × V × Nat)->Option (List MapEntry)
 | []=>some []
 | (k,_,b) :: r=>match c5 k,gO r with
  | some x,some y=>some ({ key:=x,val:=.nilFunc,born:=b } :: y)
  | _,_=>none
def lE (P:Program) (kt:TypeId) (k:V) (empty:Bool) (es:List (V × V × Nat)):Option (Option Nat):=match c5 k,gO es with
 | some x,some l=>match aW P (Instr.checkKey empty 10000 kt x >>= λ_=>Instr.findKey kt x l) with
  | some (some (i,_))=>some (some i)
  | some none=>some none
  | none=>none
 | _,_=>none
def ef (P:Program) (t:TypeId):Option (TypeId × TypeId):=match P.underlying t with
 | some (.map k e)=>some (k,e)
 | _=>none
def zeroV (P:Program) (t:TypeId):Option V:=match P.info? t with
 | some i=>match i.zero with
  | some v=>some (fg v)
  | none=>none
 | none=>none
abbrev Out:=Option (V × bh × List Nat)
def lH (P:Program) (t:TypeId) (a:V) (H:View):Out:=match a with
 | .ptr id i j=>match H id with
  | .arr _ es=>if i < es.length then (pe P t (es.getD i []) j).map λv=>(v,.none,[id]) else none
  | _=>none
 | .aG e j=>(pe P t e j).map λv=>(v,.none,[])
 | _=>none
def pq (P:Program) (t:TypeId) (a v:V) (H:View):Out:=match a with
 | .ptr id i j=>match H id with
  | .arr esz es =>
   if i < es.length/\v.cells.length=P.cellsOf t/\j+v.cells.length<=esz/\v.cells.all aE=true/\(P.info? t).isSome=true
   then some (.any,.eS id (.arr esz (es.set i (fe (es.getD i []) j v.cells))),[id]) else none
  | _=>none
 | _=>none
def kY (cs:List V) (n:Nat):Out :=
 if cs.all aE=true then some (.ptr n 0 0,.new (.arr cs.length [cs]),[]) else none
def kG (size:Nat):List (List V)->List (Nat × V)->Option (List (List V))
 | es,[]=>some es
 | es,(i,x) :: r=>if x.cells.length=size/\i < es.length/\x.cells.all aE=true then kG size (es.set i x.cells) r else none
def gQ (P:Program) (t:TypeId) (len:Nat) (parts:List (Nat × V)) (n:Nat):Out:=match cB P t with
 | none=>none
 | some e=>match P.info? e with
  | none=>none
  | some i =>
   if len * i.size > 2 ^ 24 then none
   else if len=0 then (if parts.isEmpty then some (.emp 2,.none,[]) else none)
   else if i.size=0 then none
   else match zeroCells P e with
    | none=>none
    | some z=>if z.length=i.size/\z.all aE=true then
      match kG i.size (List.replicate len z) parts with
      | some es=>some (.sl n 0 len i.size,.new (.arr i.size es),[])
      | none=>none
     else none
def u6 (place:Nat->Option (Nat × Nat)):List V->List (Nat × V)->Option (List V)
 | cs,[]=>some cs
 | cs,(i,x) :: r=>match place i with
  | none=>none
  | some (off,size)=>if x.cells.length=size/\off+size<=cs.length/\x.cells.all aE=true then u6 place (fe cs off x.cells) r else none
def placeOf (P:Program) (t:TypeId) (i:Nat):Option (Nat × Nat):=(oN P t i).map λ(a,b,_)=>(a,b)
def lg (P:Program) (t:TypeId):Bool:=match P.underlying t with
 | some (.struct fs)=>fs.toList.all λf=>(P.info? f.type).isSome
 | _=>false
def s8 (P:Program) (t:TypeId) (parts:List (Nat × V)):Out:=match P.underlying t,zeroV P t with
 | some (.struct _),some (.agg z)=>if lg P t=true then (u6 (placeOf P t) z parts).map λcs=>(.agg cs,.none,[]) else none
 | _,_=>none
def kM (P:Program) (t:TypeId) (x:V) (f:Nat):Out:=match oN P t f with
 | some (off,s,_)=>if s=0 then none else match x with
  | .ptr id i j=>some (.ptr id i (j+off),.none,[])
  | .aG e j=>some (.aG e (j+off),.none,[])
  | _=>none
 | none=>none
def tw (P:Program) (t:TypeId) (x:V) (f:Nat):Out:=match oN P t f,x with
 | some (off,_,ft),.agg cs=>(pe P ft cs off).map λv=>(v,.none,[])
 | _,_=>none
def kD (P:Program) (t:TypeId) (x i:V):Out:=match asNat i with
 | none=>none
 | some q=>match P.underlying t with
  | some (.slice e)=>match P.info? e with
   | none=>none
   | some ti=>match x with
    | .sl id off len esz=>if q < len/\esz=ti.size then some (.ptr id (off+q) 0,.none,[]) else none
    | .aT es=>if q < es.length/\(es.getD q []).length=ti.size then some (.aG (es.getD q []) 0,.none,[]) else none
    | _=>none
  | some (.array len e)=>match P.info? e with
   | none=>none
   | some ti=>if q < len then match x with
    | .ptr id i j=>some (.ptr id i (j+q * ti.size),.none,[])
    | .aG e j=>some (.aG e (j+q * ti.size),.none,[])
    | _=>none
    else none
  | _=>none
def bound (d:Nat):Option V->Option Nat
 | none=>some d
 | some v=>asNat v
def rl (P:Program) (t:TypeId) (x:V) (lo hi mx:Option V):Out:=match cB P t with
 | none=>none
 | some e=>match P.info? e with
  | none=>none
  | some ti=>match mx with
   | some m=>match bound 0 lo,bound 0 hi,asNat m with
    | some 0,some 0,some 0=>if hi.isNone then none else match x with
     | .sl _ _ _ _ | .aT _ | .emp _ | .dK=>some (.emp 0,.none,[])
     | _=>none
    | _,_,_=>none
   | none=>match x with
    | .sl id off len esz=>match bound 0 lo,bound len hi with
     | some l,some h=>if l<=h/\h<=len/\esz=ti.size then some (.sl id (off+l) (h - l) esz,.none,[]) else none
     | _,_=>none
    | .aT es=>match bound 0 lo,bound es.length hi with
     | some l,some h=>if l<=h/\h<=es.length/\(es.all λe=>e.length == ti.size)=true then some (.aT ((es.drop l).take (h - l)),.none,[]) else none
     | _,_=>none
    | .emp k=>match bound 0 lo,bound 0 hi with
     | some 0,some 0=>some (.emp k,.none,[])
     | _,_=>none
    | _=>none
def kK (P:Program) (t:TypeId) (len cap:V) (n:Nat):Out:=match cB P t with
 | none=>none
 | some e=>match P.info? e with
  | none=>none
  | some ti=>match asNat len,asNat cap with
   | some l,some c =>
    if l<=c/\c < aC/\ti.bytes * c < aC then
     (
      if c=0 then some (.emp 2,.none,[])
      else if ti.size=0 then none
      else match zeroCells P e with
       | none=>none
       | some z=>if z.length=ti.size/\z.all aE=true then some (.sl n 0 l ti.size,.new (.arr ti.size (List.replicate l z)),[]) else none)
    else none
   | _,_=>none
def mw (P:Program) (at0:TypeId) (s x:V) (H:View) (n:Nat):Out:=match cB P at0,bA H x with
 | some e,some (xs,rd)=>match P.info? e with
  | none=>none
  | some ti =>
   if xs.isEmpty then (match s with
    | .emp _ | .dK | .aT _ | .sl _ _ _ _=>some (s,.none,[])
    | _=>none)
   else if ti.size=0∨¬ ((zeroCells P e).map List.length=some ti.size)∨¬ ((xs.all λe=>e.length == ti.size && e.all aE)=true) then none
   else match s with
    | .emp _=>if xs.length * ti.bytes < aC/\xs.length < aC then some (.sl n 0 xs.length ti.size,.new (.arr ti.size xs),rd) else none
    | .sl id off len esz=>match H id with
     | .arr _ es =>
      if off+len<=es.length/\esz=ti.size/\(len+xs.length) * ti.bytes < aC/\len+xs.length < aC
      then some (.sl n 0 (len+xs.length) esz,.eJ id (.arr esz ((es.drop off).take len ++ xs)),id :: rd) else none
     | _=>none
    | _=>none
 | _,_=>none
def BN (P:Program) (at0:TypeId) (x:V):Out:=match cB P at0,x with
 | some _,.emp _=>some (fA 0,.none,[])
 | _,_=>none
def qv (P:Program) (at0:TypeId) (s x:V) (n:Nat):Out:=match cB P at0,asNat x,s with
 | some e,some l,.emp k=>match P.info? e,zeroCells P e with
  | some ti,some z=>if l=0 then some (.emp k,.none,[]) else if z.length=ti.size/\z.all aE=true/\ti.size≠0/\l * ti.bytes < aC/\l < aC then some (.sl n 0 l ti.size,.new (.arr ti.size (List.replicate l z)),[]) else none
  | _,_=>none
 | _,_,_=>none
def dR:List (List V)->Nat->List (List V)->List (List V)
 | es,_,[]=>es
 | es,i,x :: r=>dR (es.set i x) (i+1) r
def bZ:V->Option Nat
 | .emp _ | .dK=>some 0
 | .aT es=>some es.length
 | .sl _ _ len _=>some len
 | _=>none
def vh (P:Program) (at0:TypeId) (d x:V) (H:View):Out:=match cB P at0,bA H x,bZ d with
 | some e,some (xs,rd),some dl=>match P.info? e with
  | none=>none
  | some ti =>
   if (xs.take dl).isEmpty then some (fA 0,.none,[])
   else match d with
    | .sl id off len esz=>match H id with
     | .arr _ es =>
      if off+len<=es.length/\esz=ti.size/\ti.size≠0/\((xs.all λe=>e.length == ti.size && e.all aE)=true)
      then some (fA (xs.take dl).length,.eS id (.arr esz (dR es off (xs.take dl))),id :: rd) else none
     | _=>none
    | _=>none
 | _,_,_=>none
def tW (P:Program) (at0:TypeId) (d:V) (H:View):Out:=match cB P at0,bZ d with
 | some e,some dl=>if dl=0 then some (.aS [],.none,[]) else match d,P.info? e,zeroCells P e with
  | .sl id off len esz,some ti,some z=>match H id with
   | .arr _ es=>if off+len<=es.length/\esz=ti.size/\ti.size≠0/\z.length=ti.size/\z.all aE=true then some (.aS [],.eS id (.arr esz (dR es off (List.replicate len z))),[id]) else none
   | _=>none
  | _,_,_=>none
 | _,_=>none
def eQ (P:Program) (t:TypeId) (m k:V) (ok:Bool) (H:View):Out:=match ef P t with
 | none=>none
 | some (kt,et)=>match zeroV P et with
  | none=>none
  | some z =>
   let fin (v:V) (b:Bool) (rd:List Nat):Out:=some (if ok then .aS [v,.val (.bool b)] else v,.none,rd)
   match m with
   | .mp id=>match H id with
    | .map es _=>match lE P kt k es.isEmpty es with
     | some (some i)=>match es[i]? with
      | some (_,v,_)=>fin v true [id]
      | none=>none
     | some none=>fin z false [id]
     | none=>none
    | _=>none
   | _=>none
def sameKey (old new:V):Bool:=match c5 old,c5 new with
 | some a,some b=>Instr.sameBits 10000 a b
 | _,_=>false
def fV (P:Program) (t:TypeId) (m k v:V) (H:View):Out:=match ef P t,m with
 | some (kt,_),.mp id=>match H id with
  | .map es c=>match lE P kt k false es with
   | some (some i)=>match es[i]? with
    | some (k0,_,b)=>if sameKey k0 k=true then some (.any,.eS id (.map (es.set i (k,v,b)) c),[id]) else none
    | none=>none
   | some none=>some (.any,.eS id (.map (es ++ [(k,v,c)]) (c+1)),[id])
   | none=>none
  | _=>none
 | _,_=>none
def ec (P:Program) (t:TypeId) (m k:V) (H:View):Out:=match ef P t,m with
 | some (kt,et),.mp id=>match H id with
  | .map es c=>match lE P kt k false es with
   | some (some i)=>match es[i]? with
    | some (k0,v,b)=>if sameKey k0 k=true then some (.aS [v,fA b],.eS id (.map (es.set i (k,v,b)) c),[id]) else none
    | none=>none
   | some none=>match zeroV P et with
    | some z=>some (.aS [z,fA c],.eS id (.map (es ++ [(k,z,c)]) (c+1)),[id])
    | none=>none
   | none=>none
  | _=>none
 | _,_=>none
def jE (m s v:V) (H:View):Out:=match m,asNat s with
 | .mp id,some q=>match H id with
  | .map es c=>match es.findIdx? (λe=>e.2.2 == q) with
   | some i=>match es[i]? with
    | some (k,_,b)=>some (.any,.eS id (.map (es.set i (k,v,b)) c),[id])
    | none=>none
   | none=>none
  | _=>none
 | _,_=>none
def tf (P:Program) (t:TypeId) (m k:V) (H:View):Out:=match ef P t,m with
 | some (kt,_),.mp id=>match H id with
  | .map es c=>match lE P kt k es.isEmpty es with
   | some (some i)=>some (.any,.eS id (.map (es.eraseIdx i) c),[id])
   | some none=>some (.any,.none,[id])
   | none=>none
  | _=>none
 | _,_=>none
def sA (P:Program) (t:TypeId) (x:V) (H:View):Out:=match P.underlying t with
 | some (.slice _)=>(bZ x).map λn=>(fA n,.none,[])
 | some (.map _ _)=>match x with
  | .mp id=>match H id with
   | .map es _=>some (fA es.length,.none,[id])
   | _=>none
  | .val (.map none)=>some (fA 0,.none,[])
  | _=>none
 | some .string=>match x with
  | .val (.string s)=>some (fA s.size,.none,[])
  | _=>none
 | some (.array n _)=>some (fA n,.none,[])
 | _=>none
def Bb (x:V) (H:View):Out:=match x with
 | .ptr id 0 0=>match H id with
  | .uQ s pos =>
   if pos < s.size then
    some (.aS [.val (.bool true),fA pos,.val (.int .i32 (Utf8.decode s pos).1)],.eS id (.uQ s (pos+(Utf8.decode s pos).2)),[id])
   else some (.aS [.val (.bool false)],.none,[id])
  | _=>none
 | _=>none
def gp (s:ByteArray):List (List V):=s.data.toList.map λb=>[.val (.int .u8 b.toNat)]
def jW (P:Program) (s d:TypeId):Bool:=match P.underlying s,P.underlying d with
 | some (.slice _),_=>true
 | _,some (.slice _)=>true
 | _,_=>false
def lT (P:Program) (s d:TypeId) (x:V) (H:View) (n:Nat):Out:=match P.underlying s,P.underlying d,x with
 | some (.slice e),some .string,x=>match P.underlying e with
  | some (.int .u8)=>match bA H x,bZ x with
   | some (xs,rd),some _=>(jY xs).map λl=>(.val (.string ⟨l.toArray⟩),.none,rd)
   | _,_=>none
  | _=>none
 | some .string,some (.slice e),.val (.string s)=>match P.underlying e with
  | some (.int .u8)=>some (.sl n 0 s.size 1,.new (.arr 1 (gp s)),[])
  | _=>none
 | some (.slice _),some (.slice e),.sl id off len esz=>if s=d/\len≠0 then (match P.underlying e with
  | some (.int .u8)=>match H id with
   | .arr z es=>some (.sl id off len esz,.eS id (.arr z es),[id])
   | _=>none
  | _=>none) else none
 | _,_,_=>none
def eK:Nat->V->Option Bool
 | 0,.emp 1=>some true
 | 0,.emp 2 | 0,.dK=>some false
 | 0,.sl _ _ (_+1) _=>some false
 | 0,.aT (_ :: _)=>some false
 | 1,.ptr _ _ _ | 1,.aG _ _ | 2,.mp _ | 3,.fn _ _ _=>some false
 | 1,.val (.pointer none) | 2,.val (.map none) | 3,.val .nilFunc=>some true
 | _,_=>none
def je (P:Program) (t:TypeId):Option Nat:=match P.underlying t with
 | some (.slice _)=>some 0
 | some (.pointer _)=>some 1
 | some (.map _ _)=>some 2
 | some (.func _ _ _)=>some 3
 | _=>none
def Bt (P:Program) (t:TypeId) (x y:V):Option Bool:=match je P t with
 | some k=>match eK k x,eK k y with
  | some true,some b=>some b
  | some b,some true=>some b
  | _,_=>none
 | none=>none
def dM (P:Program) (o:Oper) (T:Env):Out :=
 if o.op.operands.all (λx=>(c5 (ev T x)).isSome)=true then
  match aW P (execOp (λx=>(c5 (ev T x)).getD undef) o) with
  | some (.value v)=>if plain v then some (.val v,.none,[]) else none
  | _=>none
 else none
def isStr (P:Program) (o:Op):Bool:=match o with
 | .range t _=>(match P.underlying t with | some .string=>true | _=>false)
 | _=>false
def nK (P:Program) (t:TypeId):Bool:=match P.underlying t with
 | some (.int _)=>false
 | some _=>true
 | none=>false
def isInt (P:Program) (t:TypeId):Bool:=match P.underlying t with
 | some (.int _)=>true
 | _=>false
def bY (P:Program) (o:Oper) (T:Env) (H:View) (n:Nat):Out:=match o.op with
 | .move x | .assign x=>some (ev T x,.none,[])
 | .pick c a b=>match ev T c with
  | .val (.bool t)=>some (if t then ev T a else ev T b,.none,[])
  | _=>none
 | .alloc e=>match zeroCells P e with
  | some z=>kY z n
  | none=>none
 | .box _ x=>kY (ev T x).cells n
 | .build t parts=>s8 P t (parts.toList.map λ(i,x)=>(i,ev T x))
 | .buildSlice t len parts=>gQ P t len (parts.toList.map λ(i,x)=>(i,ev T x)) n
 | .load t a=>lH P t (ev T a) H
 | .store t a v=>pq P t (ev T a) (ev T v) H
 | .nilCheck x=>match ev T x with
  | .ptr id i j=>some (.ptr id i j,.none,[])
  | .aG e j=>some (.aG e j,.none,[])
  | .fn f a b=>some (.fn f a b,.none,[])
  | _=>none
 | .fieldAddr t x f=>kM P t (ev T x) f
 | .field t x f=>tw P t (ev T x) f
 | .indexAddr t x i=>kD P t (ev T x) (ev T i)
 | .slice t x lo hi mx=>match ev T x with
  | .val _=>dM P o T
  | y=>rl P t y (lo.map (ev T)) (hi.map (ev T)) (mx.map (ev T))
 | .makeSlice t l c=>kK P t (ev T l) (ev T c) n
 | .makeMap _ r=>match r with
  | none=>some (.mp n,.new (.map [] 0),[])
  | some _=>none
 | .makeFunc (.func f) first cap=>some (.fn f (first.toList.map (ev T)) (cap.toList.map (ev T)),.none,[])
 | .lookup t m k ok=>eQ P t (ev T m) (ev T k) ok H
 | .mapUpdate t m k v=>fV P t (ev T m) (ev T k) (ev T v) H
 | .insert t m k v=>fV P t (ev T m) (ev T k) (ev T v) H
 | .mapEntry t m k=>ec P t (ev T m) (ev T k) H
 | .entryStore _ m s v=>jE (ev T m) (ev T s) (ev T v) H
 | .extract t i=>match ev T t with
  | .aS vs=>if i < vs.length then some (vs.getD i .any,.none,[]) else none
  | _=>none
 | .range _ x=>match ev T x with
  | .val (.string s)=>if isStr P o.op=true then some (.ptr n 0 0,.new (.uQ s 0),[]) else none
  | _=>none
 | .next it true=>Bb (ev T it) H
 | .convert s d x=>if jW P s d=true then lT P s d (ev T x) H n else dM P o T
 | .call { callee:=.builtin b,args,argTypes }=>match b,args.toList with
  | .len,[x]=>if 1<=argTypes.size then sA P (argTypes.getD 0 0) (ev T x) H else none
  | .append,[s,x]=>if 2<=argTypes.size/\nK P (argTypes.getD 1 0)=true then mw P (argTypes.getD 0 0) (ev T s) (ev T x) H n else if 2<=argTypes.size/\isInt P (argTypes.getD 1 0)=true then qv P (argTypes.getD 0 0) (ev T s) (ev T x) n else none
  | .cap,[x]=>if 1<=argTypes.size then BN P (argTypes.getD 0 0) (ev T x) else none
  | .copy,[d,x]=>if 1<=argTypes.size then vh P (argTypes.getD 0 0) (ev T d) (ev T x) H else none
  | .delete,[m,k]=>if 1<=argTypes.size then tf P (argTypes.getD 0 0) (ev T m) (ev T k) H else none
  | .clear,[d]=>if 1<=argTypes.size then tW P (argTypes.getD 0 0) (ev T d) H else none
  | .min,_ | .max,_ | .complex,_ | .real,_ | .imag,_=>dM P o T
  | _,_=>none
 | .binOp op t x y _=>if (je P t).isSome=true then (match op,Bt P t (ev T x) (ev T y) with
   | .eql,some b=>some (.val (.bool b),.none,[])
   | .neq,some b=>some (.val (.bool (!b)),.none,[])
   | _,_=>none)
  else dM P o T
 | .unOp .. | .index ..=>dM P o T
 | _=>none
abbrev Mu:=Nat->Option (Nat × Nat × Nat)
def cellAt (hp:Array Obj) (b k:Nat):Option Value:=match hp[b]? with
 | some (.cells c _ _)=>c[k]?
 | _=>none
theorem mn (w:World) (b k:Nat):w.cell? ⟨b,k,none⟩=cellAt w.heap b k:=by
 simp only[World.cell?,cellAt]
 cases w.heap[b]? with
 | none=>rfl
 | some o=>cases o <;> simp
inductive ax (Z:Nat->Prop) (μ:Mu) (hp:Array Obj):V->Value->Prop
 | any (x:Value):ax Z μ hp .any x
 | val (v:Value):plain v=true->ax Z μ hp (.val v) v
 | emp (k:Nat) (a:Option Addr):(k=1->a=none)->(k=2->a≠none)->ax Z μ hp (.emp k) (.slice a 0 0)
 | dK (a:Addr) (cap:Nat):ax Z μ hp .dK (.slice (some a) 0 cap)
 | gY (a:Option Addr) (cap:Nat):(a=none->cap=0)->ax Z μ hp (.aT []) (.slice a 0 cap)
 | aT (es:List (List V)) (b off esz cap:Nat) (c:Nat->Nat->Value):Z b->es.length<=cap ->
  (∀ i,i < es.length->(es.getD i []).length=esz) ->
  (∀ i j,i < es.length->j < esz->cellAt hp b (off+i * esz+j)=some (c i j)) ->
  (∀ i j,i < es.length->j < esz->ax Z μ hp ((es.getD i []).getD j .any) (c i j)) ->
  ax Z μ hp (.aT es) (.slice (some ⟨b,off,none⟩) es.length cap)
 | nT (id off esz:Nat) (a:Option Addr):ax Z μ hp (.sl id off 0 esz) (.slice a 0 0)
 | sl (id off len esz b o0 cap:Nat) (c:Array Value) (e:TypeId) (f:Nat × Nat):μ id=some (b,o0,esz)->len<=cap ->
  hp[b]?=some (.cells c e f)->o0+(off+cap) * esz<=c.size ->
  ax Z μ hp (.sl id off len esz) (.slice (some ⟨b,o0+off * esz,none⟩) len cap)
 | ptr (id i j b o0 esz:Nat):μ id=some (b,o0,esz)->ax Z μ hp (.ptr id i j) (.pointer (some ⟨b,o0+i * esz+j,none⟩))
 | aG (e:List V) (j b off:Nat) (c:Nat->Value):Z b->(∀ k,k < e.length->cellAt hp b (off+k)=some (c k)) ->
  (∀ k,k < e.length->ax Z μ hp (e.getD k .any) (c k))->ax Z μ hp (.aG e j) (.pointer (some ⟨b,off+j,none⟩))
 | mp (id b o0 esz:Nat):μ id=some (b,o0,esz)->ax Z μ hp (.mp id) (.map (some b))
 | fn (f:FuncId) (xs ys:List V) (aas bs:Array Value):xs.length=aas.size->ys.length=bs.size ->
  (∀ i,i < xs.length->ax Z μ hp (xs.getD i .any) (aas.getD i undef))->(∀ i,i < ys.length->ax Z μ hp (ys.getD i .any) (bs.getD i undef)) ->
  ax Z μ hp (.fn f xs ys) (.func (.func f) aas bs)
 | agg (cs:List V) (aas:Array Value):cs.length=aas.size->(∀ i,i < cs.length->ax Z μ hp (cs.getD i .any) (aas.getD i undef))->ax Z μ hp (.agg cs) (.agg aas)
 | aS (cs:List V) (aas:Array Value):cs.length=aas.size->(∀ i,i < cs.length->ax Z μ hp (cs.getD i .any) (aas.getD i undef))->ax Z μ hp (.aS cs) (.tuple aas)
def fH (Z:Nat->Prop) (μ:Mu) (hp:Array Obj) (vs:List V) (xs:List Value):Prop :=
 vs.length=xs.length/\∀ i,i < vs.length->ax Z μ hp (vs.getD i .any) (xs.getD i undef)
def fp (hp hp':Array Obj):Prop:=∀ (b:Nat) (c:Array Value) (e:TypeId) (f:Nat × Nat),hp[b]?=some (.cells c e f)->∃ (c':Array Value) (f':Nat × Nat),hp'[b]?=some (.cells c' e f')/\c'.size=c.size
theorem fp.refl (hp:Array Obj):fp hp hp:=λ_ c _ f h=>⟨c,f,h,rfl⟩
theorem fp.trans {a b c:Array Obj} (h:fp a b) (k:fp b c):fp a c:=λi x e f d =>
 let ⟨c1,f1,h1,s1⟩:=h i x e f d
 let ⟨c2,f2,g,s2⟩:=k i c1 e f1 h1
 ⟨c2,f2,g,s2.trans s1⟩
structure gz (Z Z':Nat->Prop) (μ μ':Mu) (hp hp':Array Obj):Prop where
 z:∀ b,Z b->Z' b
 zz:∀ b,Z b->hp'[b]?=hp[b]?
 mu:∀ id x,μ id=some x->μ' id=some x
 shape:fp hp hp'
theorem gz.refl (Z:Nat->Prop) (μ:Mu) (hp:Array Obj):gz Z Z μ μ hp hp:=⟨λ_ h=>h,λ_ _=>rfl,λ_ _ h=>h,fp.refl _⟩
theorem gz.trans {Z f e:Nat->Prop} {μ μ' d:Mu} {a b c:Array Obj} (h:gz Z f μ μ' a b) (k:gz f e μ' d b c):gz Z e μ d a c :=
 ⟨λi hi=>k.z i (h.z i hi),λi hi=>(k.zz i (h.z i hi)).trans (h.zz i hi),λi x g=>k.mu i x (h.mu i x g),h.shape.trans k.shape⟩
theorem xo {hp a:Array Obj} {b:Nat} (h:a[b]?=hp[b]?) (k:Nat):cellAt a b k=cellAt hp b k:=by simp[cellAt,h]
theorem ax.mono {Z u:Nat->Prop} {μ μ':Mu} {hp l:Array Obj} (m:gz Z u μ μ' hp l) {v:V} {x:Value} (h:ax Z μ hp v x):ax u μ' l v x:=by
 induction h with
 | any x=>exact .any x
 | val v w=>exact .val v w
 | emp k a h1 o=>exact .emp k a h1 o
 | dK a cap=>exact .dK a cap
 | gY a cap h1=>exact .gY a cap h1
 | aT es b off esz cap c n hle p q _ g=>exact .aT es b off esz cap c (m.z _ n) hle p (λi j hi y=>by rw[xo (m.zz _ n)];exact q i j hi y) g
 | nT id off esz a=>exact .nT id off esz a
 | sl id off len esz b o0 cap c e f hm hle A F =>
  obtain⟨B,C,r,D⟩:=m.shape b c e f A
  exact .sl id off len esz b o0 cap B e C (m.mu _ _ hm) hle r (by omega)
 | ptr id i j b o0 esz hm=>exact .ptr id i j b o0 esz (m.mu _ _ hm)
 | aG e j b off c n q _ g=>exact .aG e j b off c (m.z _ n) (λk hk=>by rw[xo (m.zz _ n)];exact q k hk) g
 | mp id b o0 esz hm=>exact .mp id b o0 esz (m.mu _ _ hm)
 | fn f xs ys d E h1 o _ _ s t=>exact .fn f xs ys d E h1 o s t
 | agg cs d h1 _ g=>exact .agg cs d h1 g
 | aS cs d h1 _ g=>exact .aS cs d h1 g
def eh (Z:Nat->Prop) (μ:Mu) (hp:Array Obj) (id:Nat):dF->Prop
 | .dead=>True
 | .arr esz es=>∀ b o0 s,μ id=some (b,o0,s)->s=esz /\
  (∃ (c:Array Value) (e:TypeId) (f:Nat × Nat),hp[b]?=some (.cells c e f)/\(f.1=f.2∨c.size<=f.1)/\o0+es.length * esz<=c.size) /\
  (∀ i,i < es.length->(es.getD i []).length=esz) /\
  (∀ i j,i < es.length->j < esz->∃ x,cellAt hp b (o0+i * esz+j)=some x/\ax Z μ hp ((es.getD i []).getD j .any) x)
 | .map es clock=>∀ b o0 s,μ id=some (b,o0,s)->∃ a:Array MapEntry,hp[b]?=some (.map a clock)/\a.size=es.length /\
  ∀ i,i < es.length->∃ y,a[i]?=some y/\ax Z μ hp (es.getD i default).1 y.key/\ax Z μ hp (es.getD i default).2.1 y.val/\y.born=(es.getD i default).2.2
 | .uQ s pos=>∀ b o0 t,μ id=some (b,o0,t)->o0=0/\hp[b]?=some (.stringIter s pos)
theorem eh.mono {Z q:Nat->Prop} {μ μ':Mu} {hp g:Array Obj} (m:gz Z q μ μ' hp g) {id:Nat} {o:dF} (h:eh Z μ hp id o)
  (k:μ' id=μ id) (l:∀ b o0 s,μ id=some (b,o0,s)->g[b]?=hp[b]?):eh q μ' g id o:=by
 cases o with
 | dead=>trivial
 | arr esz es =>
  intro b o0 s d
  rw[k] at d
  obtain⟨h1,⟨c,e,f,r,u,n⟩,p,v⟩:=h b o0 s d
  refine⟨h1,⟨c,e,f,by rw[l b o0 s d];exact r,u,n⟩,p,λi j hi w=>?_⟩
  obtain⟨x,z,A⟩:=v i j hi w
  exact⟨x,by rw[xo (l b o0 s d)];exact z,A.mono m⟩
 | map es clock =>
  intro b o0 s d
  rw[k] at d
  obtain⟨a,B,n,p⟩:=h b o0 s d
  refine⟨a,by rw[l b o0 s d];exact B,n,λi hi=>?_⟩
  obtain⟨y,C,D,k2,E⟩:=p i hi
  exact⟨y,C,D.mono m,k2.mono m,E⟩
 | uQ s pos =>
  intro b o0 t d
  rw[k] at d
  obtain⟨h1,F⟩:=h b o0 t d
  exact⟨h1,by rw[l b o0 t d];exact F⟩
structure gN (Z:Nat->Prop) (μ:Mu) (hp:Array Obj) (H:View):Prop where
 obj:∀ id,eh Z μ hp id (H id)
 inj:∀ i j b o s o' s',i≠j->μ i=some (b,o,s)->μ j=some (b,o',s')->H i=.dead∨H j=.dead
 lt:∀ id b o s,μ id=some (b,o,s)->b < hp.size
 cH:∀ b,Z b->b < hp.size
 gw:∀ id b o s,μ id=some (b,o,s)->¬ Z b
def Mu.set (μ:Mu) (n:Nat) (x:Nat × Nat × Nat):Mu:=λid=>if id=n then some x else μ id
def View.set (H:View) (n:Nat) (o:dF):View:=λid=>if id=n then o else H id
def bh.view (H:View) (n:Nat):bh->View
 | .none=>H
 | .new o=>H.set n o
 | .eS id o=>H.set id o
 | .eJ id o=>(H.set id .dead).set n o
structure ew (w w':World):Prop where
 os:w'.os=w.os
 tape:w'.tape=w.tape
 output:w'.output=w.output
 size:w.heap.size<=w'.heap.size
theorem ew.refl (w:World):ew w w:=⟨rfl,rfl,rfl,Sy _⟩
theorem ew.trans {a b c:World} (h:ew a b) (k:ew b c):ew a c:=⟨k.os.trans h.os,k.tape.trans h.tape,k.output.trans h.output,Tq h.size k.size⟩
def fJ (hp hp':Array Obj) (p:Nat->Prop):Prop:=∀ b,b < hp.size->¬ p b->hp'[b]?=hp[b]?
def lB (Z:Nat->Prop) (μ μ':Mu) (hp hp':Array Obj) (n:Nat):bh->Prop
 | .none=>μ'=μ/\fJ hp hp' (λ_=>False)
 | .new o=>∃ b o0 s,hp.size<=b/\b < hp'.size/\μ'=μ.set n (b,o0,s)/\fJ hp hp' (λ_=>False)/\eh Z μ' hp' n o
 | .eS id o=>∃ b o0 s,μ id=some (b,o0,s)/\μ'=μ/\fJ hp hp' (· = b)/\fp hp hp'/\eh Z μ' hp' id o
 | .eJ id o=>∃ b o0 s,μ'=μ.set n (b,o0,s)/\eh Z μ' hp' n o /\
  ((hp.size<=b/\b < hp'.size/\fJ hp hp' (λ_=>False))∨((∃ o1 s1,μ id=some (b,o1,s1))/\fJ hp hp' (· = b)/\fp hp hp'))
theorem fJ.pN {hp a:Array Obj} (h:fJ hp a (λ_=>False)):fp hp a:=by
 intro b c e f g
 have d:b < hp.size:=by
  rcases SY b hp.size with h | h
  .exact h
  .simp[TO h] at g
 exact⟨c,f,by rw[h b d (λx=>x)];exact g,rfl⟩
theorem lB.mono {Z:Nat->Prop} {μ μ':Mu} {hp i:Array Obj} {n:Nat} {eff:bh} (h:lB Z μ μ' hp i n eff) (j:eff.fresh (μ n=none))
  (cH:∀ b,Z b->b < hp.size) (gw:∀ id b o s,μ id=some (b,o,s)->¬ Z b):gz Z Z μ μ' hp i:=by
 have c:μ n=none->∀ x:Nat × Nat × Nat,∀ id y,μ id=some y->(μ.set n x) id=some y:=by
  intro j x id y p
  by_cases k:id=n
  .subst k;simp[j] at p
  .simp[Mu.set,k,p]
 cases eff with
 | none =>
  obtain⟨rfl,d⟩:=h
  exact⟨λ_ h=>h,λb l=>d b (cH b l) (λx=>x),λ_ _ h=>h,d.pN⟩
 | new o =>
  obtain⟨b,o0,s,_,_,rfl,d,_⟩:=h
  exact⟨λ_ h=>h,λb l=>d b (cH b l) (λx=>x),c j _,d.pN⟩
 | eS id o =>
  obtain⟨b,o0,s,g,rfl,d,m,_⟩:=h
  exact⟨λ_ h=>h,λf a=>d f (cH f a) (λe=>gw _ _ _ _ g (e ▸ a)),λ_ _ h=>h,m⟩
 | eJ id o =>
  obtain⟨b,o0,s,rfl,_,h | ⟨⟨q,s1,g⟩,d,m⟩⟩:=h
  .exact⟨λ_ h=>h,λf a=>h.2.2 f (cH f a) (λx=>x),c j _,h.2.2.pN⟩
  .exact⟨λ_ h=>h,λf a=>d f (cH f a) (λe=>gw _ _ _ _ g (e ▸ a)),c j _,m⟩
theorem lB.size {Z:Nat->Prop} {μ μ':Mu} {hp d:Array Obj} {n:Nat} {eff:bh} (h:lB Z μ μ' hp d n eff) (lt:∀ id b o s,μ id=some (b,o,s)->b < hp.size) (f:hp.size<=d.size) :
  ∀ id b o s,μ' id=some (b,o,s)->b < d.size:=by
 have hold:∀ id b o s,μ id=some (b,o,s)->b < d.size:=λid b o s c=>S8 (lt id b o s c) f
 cases eff with
 | none=>obtain⟨rfl,_⟩:=h;exact hold
 | new o =>
  obtain⟨b,o0,s,_,k,rfl,_,_⟩:=h
  intro id g i j c
  by_cases a:id=n
  .simp[Mu.set,a] at c;omega
  .simp[Mu.set,a] at c;exact hold _ _ _ _ c
 | eS id o=>obtain⟨b,o0,s,e,rfl,_⟩:=h;exact hold
 | eJ id o =>
  obtain⟨b,o0,s,rfl,_,h | ⟨⟨l,s1,e⟩,_,_⟩⟩:=h
  all_goals
   intro id g i j c
   by_cases a:id=n
   .simp[Mu.set,a] at c
    first | omega | (obtain⟨rfl,_,_⟩:=c;exact hold _ _ _ _ e)
   .simp[Mu.set,a] at c;exact hold _ _ _ _ c
theorem gN.eff {Z:Nat->Prop} {μ μ':Mu} {hp z:Array Obj} {H:View} {n:Nat} {eff:bh} (h:gN Z μ hp H) (P:eff.fresh (μ n=none)) (L:hp.size<=z.size)
  (he:lB Z μ μ' hp z n eff) (K:∀ id o,eff=.eS id o->H id≠.dead) (G:∀ id o,eff=.eJ id o->H id≠.dead):gN Z μ' z (eff.view H n):=by
 have hm:=he.mono P h.cH h.gw
 have m:=he.size h.lt L
 have A:∀ b,Z b->b < z.size:=λb Q=>S8 (h.cH b Q) L
 cases eff with
 | none =>
  obtain⟨rfl,D⟩:=he
  exact⟨λid=>(h.obj id).mono hm rfl (λb o s c=>D b (h.lt _ _ _ _ c) (λx=>x)),h.inj,m,A,h.gw⟩
 | new o =>
  obtain⟨b,o0,s,R,S,rfl,D,t⟩:=he
  refine⟨λid=>?_,?_,m,A,?_⟩
  .by_cases a:id=n
   .subst a;simpa [bh.view,View.set] using t
   .have:=(h.obj id).mono hm (by simp[Mu.set,a]) (λb o s c=>D b (h.lt _ _ _ _ c) (λx=>x))
    simpa [bh.view,View.set,a] using this
  .intro i j d w y B C u hi q
   by_cases h1:i=n
   .by_cases r:j=n
    .omega
    .simp[Mu.set,h1] at hi;simp[Mu.set,r] at q
     have:=h.lt _ _ _ _ q;omega
   .by_cases r:j=n
    .simp[Mu.set,r] at q;simp[Mu.set,h1] at hi
     have:=h.lt _ _ _ _ hi;omega
    .simp[Mu.set,h1] at hi;simp[Mu.set,r] at q
     simpa [bh.view,View.set,h1,r] using h.inj i j d w y B C u hi q
  .intro id d w y c F
   by_cases h1:id=n
   .simp[Mu.set,h1] at c;have:=h.cH _ F;omega
   .simp[Mu.set,h1] at c;exact h.gw _ _ _ _ c F
 | eS k o =>
  obtain⟨b,o0,s,g,rfl,D,T,t⟩:=he
  have hk:=K k o rfl
  refine⟨λid=>?_,?_,m,A,h.gw⟩
  .by_cases a:id=k
   .subst a;simpa [bh.view,View.set] using t
   .simp only[bh.view,View.set,a,if_false]
    by_cases I:H id=.dead
    .rw[I];trivial
    .refine(h.obj id).mono hm rfl (λd w y c=>D d (h.lt _ _ _ _ c) ?_)
     intro e
     subst e
     rcases h.inj id k _ _ _ _ _ a c g with h1 | h1
     .exact I h1
     .exact hk h1
  .intro i j d w y B C u hi q
   rcases h.inj i j _ _ _ _ _ u hi q with h1 | h1
   .by_cases e:i=k
    .exact absurd (e ▸ h1) hk
    .left;simpa [bh.view,View.set,e] using h1
   .by_cases e:j=k
    .exact absurd (e ▸ h1) hk
    .right;simpa [bh.view,View.set,e] using h1
 | eJ k o =>
  obtain⟨b,o0,s,rfl,t,l⟩:=he
  have hk:=G k o rfl
  have v:(μ.set n (b,o0,s)) n=some (b,o0,s):=by simp[Mu.set]
  refine⟨λid=>?_,?_,m,A,?_⟩
  .by_cases a:id=n
   .subst a;simpa [bh.view,View.set] using t
   .by_cases f:id=k
    .simp only[bh.view,View.set,a,if_false,f,if_true]
     split <;> first | trivial | (rename_i e;exact absurd (f.trans e) a)
    .simp only[bh.view,View.set,a,if_false,f]
     by_cases I:H id=.dead
     .rw[I];trivial
     .refine(h.obj id).mono hm (by simp[Mu.set,a]) (λd w y c=>?_)
      rcases l with h1 | ⟨⟨M,s1,g⟩,D,_⟩
      .exact h1.2.2 d (h.lt _ _ _ _ c) (λx=>x)
      .refine D d (h.lt _ _ _ _ c) ?_
       intro e
       subst e
       rcases h.inj id k _ _ _ _ _ f c g with h1 | h1
       .exact I h1
       .exact hk h1
  .intro i j d w y B C u hi q
   have key:∀ i d w y,i≠n->(μ.set n (b,o0,s)) i=some (d,w,y)->d=b->(bh.view H n (.eJ k o)) i=.dead:=by
    intro p U V t1 J c e
    subst e
    simp only[Mu.set,Sr J] at c
    simp only[bh.view,View.set,Sr J]
    by_cases f:p=k
    .simp[f]
    .simp only[Sr f]
     rcases l with h1 | ⟨⟨M,s1,g⟩,_,_⟩
     .have:=h.lt _ _ _ _ c;omega
     .rcases h.inj p k _ _ _ _ _ f c g with h1 | h1
      .exact h1
      .exact absurd h1 hk
   by_cases h1:i=n
   .have r:j≠n:=by omega
    right
    have E:d=b:=by
     rw[h1,v] at hi;simp at hi;exact hi.1.symm
    exact key j d B C r q E
   .by_cases r:j=n
    .left
     have E:d=b:=by
      rw[r,v] at q;simp at q;exact q.1.symm
     exact key i d w y h1 hi E
    .simp only[Mu.set,h1,if_false] at hi
     simp only[Mu.set,r,if_false] at q
     simp only[bh.view,View.set,h1,r,if_false]
     by_cases N:i=k
     .left;simp[N]
     .by_cases O:j=k
      .right;simp[O]
      .simp only[N,O,if_false]
       exact h.inj i j _ _ _ _ _ u hi q
  .intro id d w y c F
   by_cases h1:id=n
   .rw[h1,v] at c
    simp at c
    obtain⟨rfl,_,_⟩:=c
    rcases l with r | ⟨⟨M,s1,g⟩,_,_⟩
    .have:=h.cH _ F;omega
    .exact h.gw _ _ _ _ g F
   .simp only[Mu.set,h1,if_false] at c
    exact h.gw _ _ _ _ c F
theorem tU {Z:Nat->Prop} {μ:Mu} {hp:Array Obj} {v:V} {x:Value} (h:ax Z μ hp v x) (a:aE v=true):x.oneCell'=true:=by
 cases h with
 | val _ b=>cases x <;> first | rfl | (simp[plain] at b)
 | any x=>simp[aE] at a
 | agg cs c h1 d=>simp[aE] at a
 | aS cs c h1 d=>simp[aE] at a
 | _=>rfl
theorem gh {Z:Nat->Prop} {μ:Mu} {hp:Array Obj} {v:V} {x:Value} (h:ax Z μ hp v x) (o:v.cells.all aE=true):fH Z μ hp v.cells x.cells.toList:=by
 have one:∀ v x,ax Z μ hp v x->x.cells = #[x]->fH Z μ hp [v] x.cells.toList:=by
  intro v x h p
  rw[p]
  exact⟨rfl,λi hi=>by
   simp at hi;subst hi;simpa using h⟩
 cases h with
 | agg cs g h1 d =>
  refine⟨by simpa [V.cells,Value.cells] using h1,λi hi=>?_⟩
  have:=d i (by simpa [V.cells] using hi)
  simpa [V.cells,Value.cells,List.getD,Sz] using this
 | any x=>simp[V.cells,aE] at o
 | aS cs g h1 d=>simp[V.cells,aE] at o
 | val _ m =>
  refine one _ _ (.val x m) ?_
  cases x <;> first | rfl | (simp[plain] at m)
 | emp k a h1 d=>exact one _ _ (.emp k a h1 d) rfl
 | dK a cap=>exact one _ _ (.dK a cap) rfl
 | gY a cap h1=>exact one _ _ (.gY a cap h1) rfl
 | aT es b off esz cap c h1 d l n q=>exact one _ _ (.aT es b off esz cap c h1 d l n q) rfl
 | nT id off esz a=>exact one _ _ (.nT id off esz a) rfl
 | sl id off len esz b o0 cap c e f h1 d l n=>exact one _ _ (.sl id off len esz b o0 cap c e f h1 d l n) rfl
 | ptr id i j b o0 esz h1=>exact one _ _ (.ptr id i j b o0 esz h1) rfl
 | aG e j b off c h1 d l=>exact one _ _ (.aG e j b off c h1 d l) rfl
 | mp id b o0 esz h1=>exact one _ _ (.mp id b o0 esz h1) rfl
 | fn f xs ys g r h1 d l n=>exact one _ _ (.fn f xs ys g r h1 d l n) rfl
theorem oG {P:Program} {t:TypeId} {i:TypeInfo} (h:P.info? t=some i) (w:World):(typeInfo t).run P w=.ok i w:=by
 simp[typeInfo,h]
theorem dx {P:Program} {t:TypeId} {i:TypeInfo} (h:P.info? t=some i) (w:World):(Go.sizeOf t).run P w=.ok i.size w:=by
 simp[Go.sizeOf,oG h]
theorem bj {P:Program} {t:TypeId} {d:TypeDesc} (h:P.underlying t=some d) (w:World):(underlying t).run P w=.ok d w:=by
 simp[underlying,h]
theorem jv {P:Program} {t:TypeId} {i:TypeInfo} {v:Value} (h:P.info? t=some i) (a:i.zero=some v) (w:World):(zeroValue t).run P w=.ok v w:=by
 simp[zeroValue,oG h,a]
theorem sn {P:Program} {t:TypeId} {b:Bool} (h:qL P t=some b) (w:World):(isAgg t).run P w=.ok b w:=by
 unfold qL at h
 cases hu:P.underlying t with
 | none=>simp[hu] at h
 | some d =>
  simp only[hu] at h
  simp only[isAgg,Sem.run_bind,bj hu,Result.andThen_ok]
  cases d <;> simp_all
def DE (Z:Nat->Prop) (μ:Mu) (hp:Array Obj) (b off:Nat) (cs:List V):Prop :=
 ∀ k,k < cs.length->∃ x,cellAt hp b (off+k)=some x/\ax Z μ hp (cs.getD k .any) x
theorem oU {α:Type} {P:Program} : ∀ (s:Sem α) {a:α},aW P s=some a->∀ w,s.run P w=.ok a w:=by
 intro s
 induction s with
 | pure a=>intro c h w;simp[aW] at h;subst h;rfl
 | program k b=>intro a h w;simp only[aW] at h;simp only[Sem.run];exact b P h w
 | _=>intro a h;simp[aW] at h
theorem nu {n:Nat} {p:Nat->Value->Prop} (h:∀ k,k < n->∃ x,p k x):∃ f:Nat->Value,∀ k,k < n->p k (f k):=by
 refine⟨λk=>if hk:k < n then Classical.choose (h k hk) else undef,λk hk=>?_⟩
 simp only[hk,dif_pos]
 exact Classical.choose_spec (h k hk)
theorem iZ (b o n:Nat):Addr.add ⟨b,o,none⟩ n=⟨b,o+n,none⟩:=by
 unfold Addr.add;split
 .rename_i h;subst h;rfl
 .rfl
theorem rS {Z:Nat->Prop} {μ:Mu} {w:World} {P:Program} {b off j:Nat} {t:TypeId} {cs:List V} {v:V} (h:DE Z μ w.heap b off cs) (hp:pe P t cs j=some v) :
  ∃ x,(loadVar t ⟨b,off+j,none⟩).run P w=.ok x w/\ax Z μ w.heap v x:=by
 unfold pe at hp
 cases hi:P.info? t with
 | none=>simp[hi] at hp
 | some i =>
  cases c:qL P t with
  | none=>simp[hi,c] at hp
  | some g =>
   simp only[hi,c] at hp
   cases g with
   | true =>
    simp only at hp
    split at hp
    .rename_i hle
     simp at hp;subst hp
     have d:∀ k,k < i.size->∃ x,cellAt w.heap b (off+(j+k))=some x/\ax Z μ w.heap (cs.getD (j+k) .any) x:=λk hk=>h (j+k) (by omega)
     obtain⟨f,e⟩:=nu d
     refine⟨.agg ((List.range i.size).map f).toArray,?_,?_⟩
     .simp only[loadVar,Sem.run_bind,sn c,Result.andThen_ok,if_true,dx hi]
      rw[run_loadCells w ⟨b,off+j,none⟩ i.size f (λk hk=>by rw[iZ,mn,TY];exact(e k hk).1)]
      rfl
     .refine .agg _ _ (by simp;omega) (λk hk=>?_)
      have a:k < i.size:=by simp at hk;omega
      have:=(e k a).2
      simpa [List.getD,a,TW,Ux,Sz] using this
    .simp at hp
   | false =>
    simp only at hp
    split at hp
    .rename_i hle
     simp at hp;subst hp
     obtain⟨x,d,l⟩:=h j hle
     refine⟨x,?_,by simpa [List.getD] using l⟩
     simp only[loadVar,Sem.run_bind,sn c,Result.andThen_ok,SU,if_false,run_load,mn,d]
    .simp at hp
theorem wm {w:World} {b k:Nat} {v:Value} {c:Array Value} {e:TypeId} {f:Nat × Nat} (h:w.heap[b]?=some (.cells c e f)) :
  w.setCell ⟨b,k,none⟩ v = { w with heap:=w.heap.setIfInBounds b (.cells (c.setIfInBounds k v) e f) }:=by
 unfold World.setCell
 congr 1
 apply Array.ext_getElem?
 intro i
 simp only[Array.getElem?_modify,Tn]
 by_cases hi:b=i
 .subst hi
  have a:b < w.heap.size:=by
   rcases SY b w.heap.size with d | d
   .exact d
   .simp[TO d] at h
  have g:w.heap[b]=.cells c e f:=by simpa [SP a] using h
  simp[g,a]
 .simp[hi]
theorem M3 {w:World} {b k:Nat} {c:Array Value} {e:TypeId} {f:Nat × Nat} (h:w.heap[b]?=some (.cells c e f)) (a:¬ (f.1<=k/\k < f.2)):w.frozen? ⟨b,k,none⟩=false:=by
 simp only[World.frozen?,h]
 simp only[Bool.and_eq_false_iff,TJ]
 omega
theorem oZ {c:Array Value} {f:Nat × Nat} (h:f.1=f.2∨c.size<=f.1):∀ k,k < c.size->¬ (f.1<=k/\k < f.2):=by
 intro k hk;omega
theorem ke {P:Program} {b off:Nat} {e:TypeId} {f:Nat × Nat} : ∀ (xs:List Value) (i:Nat) (c:Array Value) (w:World),
  w.heap[b]?=some (.cells c e f)->(∀ k,k < c.size->¬ (f.1<=k/\k < f.2))->off+i+xs.length<=c.size->(∀ x∈xs,x.oneCell'=true) ->
  ∃ d,(storeCells ⟨b,off,none⟩ xs i).run P w=.ok () { w with heap:=w.heap.setIfInBounds b (.cells d e f) }/\d.size=c.size /\
   ∀ k,d[k]?=if off+i<=k/\k < off+i+xs.length then xs[k - (off+i)]? else c[k]?
 | [],i,c,w,h,_,_,_=>by
  refine⟨c,?_,rfl,λk=>?_⟩
  .simp only[storeCells,Sem.run_pure]
   congr 1
   have:w.heap.setIfInBounds b (.cells c e f)=w.heap:=by
    apply Array.ext_getElem?
    intro k
    simp only[Tn]
    split
    .rename_i hk
     subst hk
     split
     .exact h.symm
     .rename_i q;simp[TO (Nat.le_of_not_lt q)]
    .rfl
   rw[this]
  .rw[Sr (by simp only[SZ];omega)]
 | x :: xs,i,c,w,h,n,r,o=>by
  simp only[SA] at r
  have g:b < w.heap.size:=by
   rcases SY b w.heap.size with j | j
   .exact j
   .simp[TO j] at h
  have a:w.cell? ⟨b,off+i,none⟩=some c[off+i]:=by
   rw[mn,cellAt,h];simp[show off+i < c.size from by omega]
  have hw:(w.setCell ⟨b,off+i,none⟩ x).heap[b]?=some (.cells (c.setIfInBounds (off+i) x) e f):=by
   rw[wm h];simp[g]
  obtain⟨d,hr,l,m⟩:=ke (P:=P) (off:=off) (f:=f) xs (i+1) (c.setIfInBounds (off+i) x) (w.setCell ⟨b,off+i,none⟩ x) hw (λk hk=>n k (by simpa using hk)) (by simp;omega) (λy s=>o y (SQ _ s))
  refine⟨d,?_,by simpa using l,λk=>?_⟩
  .simp only[storeCells,Sem.run_bind,iZ]
   rw[run_store P w _ x _ (o x Ul),a]
   simp only[M3 h (n (off+i) (by omega)),SU,if_false,Result.andThen_ok]
   rw[hr]
   congr 1
   rw[wm h]
   simp[Array.setIfInBounds_setIfInBounds]
  .rw[m]
   simp only[SA]
   by_cases h1:off+i=k
   .subst h1
    rw[Sr (by omega),St (by omega)]
    simp[show off+i < c.size from by omega]
   .by_cases p:off+(i+1)<=k/\k < off+(i+1)+xs.length
    .rw[St p,St (by omega)]
     rw[show k - (off+i)=(k - (off+(i+1)))+1 from by omega]
     simp
    .rw[Sr p,Sr (by omega)]
     simp[h1]
theorem c7 (hp:Array Obj) (b:Nat) (o:Obj):fJ hp (hp.setIfInBounds b o) (· = b):=by
 intro k _ hk
 simp only[Tn]
 rw[Sr (λe=>hk e.symm)]
theorem iy {hp:Array Obj} {b:Nat} {c a:Array Value} {e:TypeId} {f:Nat × Nat} (h:hp[b]?=some (.cells c e f)) (j:a.size=c.size):fp hp (hp.setIfInBounds b (.cells a e f)):=by
 intro k x e' l hk
 simp only[Tn]
 by_cases i:b=k
 .subst i
  rw[h] at hk
  simp only[Sq,Obj.cells.injEq] at hk
  obtain⟨rfl,rfl,rfl⟩:=hk
  have d:b < hp.size:=by
   rcases SY b hp.size with g | g
   .exact g
   .simp[TO g] at h
  exact⟨a,f,by simp[d],j⟩
 .exact⟨x,l,by simp[i,hk],rfl⟩
theorem dU {hp:Array Obj} {b:Nat} {o:Obj} (h:b < hp.size):(hp.setIfInBounds b o)[b]?=some o:=by simp[h]
theorem eO {hp:Array Obj} {b:Nat} {o:Obj} (h:hp[b]?=some o):b < hp.size:=by
 rcases SY b hp.size with a | a
 .exact a
 .simp[TO a] at h
theorem vK (l cs:List V) (j:Nat) (a:j+cs.length<=l.length):(fe l j cs).length=l.length:=by
 simp only[fe,SV,Tv,List.length_drop];omega
theorem Cd (l cs:List V) (j k:Nat) (a:j+cs.length<=l.length) (h:j<=k/\k < j+cs.length):(fe l j cs).getD k .any=cs.getD (k - j) .any:=by
 simp only[fe,Sm,TB]
 rw[Tu (by simp;omega),S9 (by simp;omega)]
 congr 2;simp;omega
theorem AD (l cs:List V) (j k:Nat) (a:j+cs.length<=l.length) (h:¬ (j<=k/\k < j+cs.length)):(fe l j cs).getD k .any=l.getD k .any:=by
 simp only[fe,Sm,TB]
 by_cases h1:k < j
 .rw[S9 (by simp;omega)];simp[h1]
 .rw[Tu (by simp;omega),Tu (by simp;omega)]
  simp only[Ux,Tv]
  congr 2;omega
theorem eh.store {Z:Nat->Prop} {μ:Mu} {w:World} {P:Program} {id b o0 s esz i j:Nat} {es:List (List V)} {cs:List V} {xs:List Value}
  (F:eh Z μ w.heap id (.arr esz es)) (u:μ id=some (b,o0,s)) (N:¬ Z b) (cH:∀ b,Z b->b < w.heap.size) (hi:i < es.length) (R:j+cs.length<=esz) (hr:fH Z μ w.heap cs xs) (v:∀ x∈xs,x.oneCell'=true) :
  ∃ w',(storeCells ⟨b,o0+i * esz+j,none⟩ xs).run P w=.ok () w'/\ew w w'/\fJ w.heap w'.heap (· = b)/\fp w.heap w'.heap /\
   eh Z μ w'.heap id (.arr esz (es.set i (fe (es.getD i []) j cs))):=by
 obtain⟨rfl,⟨c,e,f,y,L,O⟩,hlen,m⟩:=F b o0 s u
 have hmul:(i+1) * s<=es.length * s:=Tg _ hi
 have G:(i+1) * s=i * s+s:=by rw[Ti];omega
 have M:=eO y
 obtain⟨z,A,n,H⟩:=ke (P:=P) (b:=b) (off:=o0+i * s+j) (e:=e) (f:=f) xs 0 c w y (oZ L) (by rw[<-hr.1];omega) v
 have hm:gz Z Z μ μ w.heap (w.heap.setIfInBounds b (.cells z e f)) :=
  ⟨λ_ h=>h,λk hk=>c7 w.heap b _ k (cH k hk) (λe=>N (e ▸ hk)),λ_ _ h=>h,iy y n⟩
 refine⟨_,A,⟨rfl,rfl,rfl,by simp⟩,c7 _ _ _,iy y n,?_⟩
 intro S T U o
 rw[u] at o
 simp only[Sq,Su] at o
 obtain⟨rfl,rfl,rfl⟩:=o
 have Q:(fe (es.getD i []) j cs).length=s:=by
  have:=hlen i hi
  rw[vK _ _ _ (by omega),this]
 have p:∀ a,(es.set i (fe (es.getD i []) j cs)).getD a []=if a=i then fe (es.getD i []) j cs else es.getD a []:=by
  intro a
  simp only[Sm,T0]
  by_cases h1:i=a
  .subst h1;simp[hi]
  .rw[Sr h1,Sr (λe=>h1 e.symm)]
 refine⟨rfl,⟨z,e,f,by simp[M],by rw[n];exact L,by simpa [n] using O⟩,?_,?_⟩
 .intro a q
  rw[p]
  split
  .exact Q
  .exact hlen a (by simpa using q)
 .intro a g q B
  have l:a < es.length:=by simpa using q
  have I:(a+1) * s<=es.length * s:=Tg _ l
  have E:(a+1) * s=a * s+s:=by rw[Ti];omega
  have r:cellAt (w.heap.setIfInBounds b (.cells z e f)) b (o0+a * s+g)=z[o0+a * s+g]?:=by simp[cellAt,M]
  have d:cellAt w.heap b (o0+a * s+g)=c[o0+a * s+g]?:=by simp[cellAt,y]
  show ∃ x,cellAt (w.heap.setIfInBounds b (.cells z e f)) b (o0+a * s+g)=some x/\_
  rw[r,H,p]
  by_cases t:a=i
  .subst t
   rw[St rfl]
   by_cases C:j<=g/\g < j+cs.length
   .have hk:g - j < cs.length:=by omega
    have D:g - j < xs.length:=hr.1 ▸ hk
    rw[St (by rw[<-hr.1];omega),show o0+a * s+g - (o0+a * s+j+0)=g - j from by omega]
    refine⟨xs[g - j],by simp[D],?_⟩
    have:=(hr.2 (g - j) hk).mono hm
    simp only[Sm,Sn D,Sn hk,SJ] at this
    have J:=hlen a l
    rw[Cd _ _ _ _ (by omega) C]
    simpa [Sm,hk] using this
   .rw[Sr (by rw[<-hr.1];omega)]
    obtain⟨x,o,K⟩:=m a g l B
    rw[d] at o
    refine⟨x,o,?_⟩
    have J:=hlen a l
    rw[AD _ _ _ _ (by omega) C]
    exact K.mono hm
  .rw[Sr t]
   have:¬ (o0+i * s+j+0<=o0+a * s+g/\o0+a * s+g < o0+i * s+j+0+xs.length):=by
    rw[<-hr.1]
    rcases Nat.lt_or_gt_of_ne t with h1 | h1
    .have:(a+1) * s<=i * s:=Tg _ h1
     omega
    .have:(i+1) * s<=a * s:=Tg _ h1
     omega
   rw[Sr this]
   obtain⟨x,o,K⟩:=m a g l B
   rw[d] at o
   exact⟨x,o,K.mono hm⟩
theorem eh.newRow {Z:Nat->Prop} {μ:Mu} {hp:Array Obj} {n esz:Nat} {es:List (List V)} {c:Array Value} {e:TypeId}
  (g:μ n=none) (cH:∀ b,Z b->b < hp.size) (k:es.length * esz<=c.size) (hlen:∀ i,i < es.length->(es.getD i []).length=esz)
  (h:∀ i j,i < es.length->j < esz->∃ x,c[i * esz+j]?=some x/\ax Z μ hp ((es.getD i []).getD j .any) x) :
  eh Z (μ.set n (hp.size,0,esz)) (hp.push (.cells c e (0,0))) n (.arr esz es):=by
 intro b o0 s a
 simp only[Mu.set,if_true,Sq,Su] at a
 obtain⟨rfl,rfl,rfl⟩:=a
 have hm:gz Z Z μ (μ.set n (hp.size,0,esz)) hp (hp.push (.cells c e (0,0))):=by
  refine⟨λ_ h=>h,λb f=>?_,λid x a=>?_,?_⟩
  .have:=cH b f
   rw[Uf,Sr (by omega)]
  .by_cases d:id=n
   .subst d;simp[g] at a
   .simp[Mu.set,d,a]
  .intro b l e' p f
   have:=eO f
   exact⟨l,_,by rw[Uf,Sr (by omega)];exact f,rfl⟩
 refine⟨rfl,⟨c,e,(0,0),by simp,.inl rfl,by simpa using k⟩,hlen,λi j hi m=>?_⟩
 obtain⟨x,a,o⟩:=h i j hi m
 exact⟨x,by simp[cellAt,a],o.mono hm⟩
theorem ey (hp:Array Obj) (o:Obj):fJ hp (hp.push o) (λ_=>False):=by
 intro k hk _
 rw[Uf,Sr (by omega)]
structure Ctx (Z:Nat->Prop) (μ:Mu) (hp:Array Obj) (H:View) (rd:List Nat) (n:Nat) (eff:bh):Prop where
 new:eff.fresh (μ n=none)
 obj:∀ id,id∈rd->eh Z μ hp id (H id)
 lt:∀ id b o s,μ id=some (b,o,s)->b < hp.size
 cH:∀ b,Z b->b < hp.size
 gw:∀ id b o s,μ id=some (b,o,s)->¬ Z b
def aV (Z:Nat->Prop) (μ:Mu) (w:World) (n:Nat) (v:V) (eff:bh) (r:Result Next):Prop :=
 ∃ nx w' μ',r=.ok nx w'/\((∃ x,nx=.value x/\ax Z μ' w'.heap v x)∨(nx=.skip/\v=.any))/\ew w w'/\lB Z μ μ' w.heap w'.heap n eff
section
variable {Z:Nat->Prop} {μ μ':Mu} {w w':World} {P:Program} {H:View} {n:Nat} {v:V} {eff:bh} {rd:List Nat}
theorem ig:lB Z μ μ w.heap w.heap n .none:=⟨rfl,λ_ _ _=>rfl⟩
theorem aV.value {s:Sem Value} {x:Value} (hr:s.run P w=.ok x w') (a:ax Z μ' w'.heap v x) (b:ew w w') (he:lB Z μ μ' w.heap w'.heap n eff) :
  aV Z μ w n v eff ((do pure (Next.value (<-s)):Sem Next).run P w) :=
 ⟨.value x,w',μ',by simp[hr],.inl ⟨x,rfl,a⟩,b,he⟩
theorem aV.here {s:Sem Value} {x:Value} (hr:s.run P w=.ok x w) (a:ax Z μ w.heap v x):aV Z μ w n v .none ((do pure (Next.value (<-s)):Sem Next).run P w) :=
 aV.value hr a (ew.refl w) ig
theorem aV.skip {s:Sem Unit} (hr:s.run P w=.ok () w') (a:ew w w') (he:lB Z μ μ' w.heap w'.heap n eff) :
  aV Z μ w n .any eff ((do s;pure Next.skip:Sem Next).run P w) :=
 ⟨.skip,w',μ',by simp[hr],.inr ⟨rfl,rfl⟩,a,he⟩
theorem uC (x:Value):ax Z μ w.heap (na x) x:=by
 cases x with
 | slice a len cap =>
  cases a with
  | none =>
   cases len with
   | zero=>cases cap with
    | zero=>exact .emp 1 none (λ_=>rfl) (λh=>by simp at h)
    | succ c=>exact .any _
   | succ l=>exact .any _
  | some a=>exact .any _
 | _ =>
  simp only[na]
  split
  .rename_i h;exact .val _ h
  .exact .any _
theorem gg (x:Value):ax Z μ w.heap (fg x) x:=by
 cases x with
 | agg cs =>
  refine .agg _ _ (by simp) (λi hi=>?_)
  have c:i < cs.size:=by simpa using hi
  simp only[Sm,Sz]
  simpa [c] using uC cs[i]
 | func fn a b =>
  cases fn with
  | func f =>
   simp only[fg]
   split
   .rename_i h
    exact .fn _ _ _ _ _ h.1.symm h.2.symm (λi hi=>by simp at hi) (λi hi=>by simp at hi)
   .exact .any _
  | _=>simp only[fg];exact uC _
 | _=>simp only[fg];exact uC _
theorem heap_alloc (w:World) (o:Obj):(w.alloc o).heap=w.heap.push o:=rfl
theorem ir (w:World) (o:Obj):ew w (w.alloc o):=⟨rfl,rfl,rfl,by rw[heap_alloc];simp⟩
theorem pz {v:V} {x y:Value} (h:ax Z μ w.heap v x) (f:c5 v=some y):y=x:=by
 have e:∀ (cs:List V) (l:List Value),tT cs=some l->∀ (xs:List Value),cs.length=xs.length->(∀ i,i < cs.length->ax Z μ w.heap (cs.getD i .any) (xs.getD i undef))->l=xs:=by
  intro cs
  induction cs with
  | nil=>intro l d xs g _;simp[tT] at d;subst d;cases xs <;> simp_all
  | cons c r n =>
   intro l d xs g hr
   cases xs with
   | nil=>simp at g
   | cons x xs =>
    simp only[tT] at d
    split at d
    .rename_i a b k o
     simp at d;subst d
     have m:=hr 0 (by simp)
     have:=n b o xs (by simpa using g) (λi hi=>by simpa using hr (i+1) (by simpa using hi))
     subst this
     simp only[TF] at m
     cases c <;> simp[toCell] at k
     subst k
     cases m;rfl
    .simp at d
 cases v with
 | val a=>simp[c5] at f;subst f;cases h;rfl
 | agg cs =>
  simp only[c5,Sw] at f
  obtain⟨l,d,rfl⟩:=f
  cases h with
  | agg _ j h1 p =>
   have:=e cs l d j.toList (by simpa using h1) (λi hi=>by simpa [Sm,Sz] using p i hi)
   subst this;simp
 | _=>simp[c5] at f
theorem mf {id i j:Nat} {x:Value} (h:ax Z μ w.heap (.ptr id i j) x):∃ b o0 esz,μ id=some (b,o0,esz)/\x=.pointer (some ⟨b,o0+i * esz+j,none⟩):=by
 cases h with | ptr _ _ _ b o0 esz hm=>exact⟨b,o0,esz,hm,rfl⟩
theorem rp {e:List V} {j:Nat} {x:Value} (h:ax Z μ w.heap (.aG e j) x):∃ b off,Z b/\DE Z μ w.heap b off e/\x=.pointer (some ⟨b,off+j,none⟩):=by
 cases h with | aG _ _ b off c a h1 d=>exact⟨b,off,a,λk hk=>⟨c k,h1 k hk,d k hk⟩,rfl⟩
theorem xM {e:List V} {j b off:Nat} (c:Z b) (h:DE Z μ w.heap b off e):ax Z μ w.heap (.aG e j) (.pointer (some ⟨b,off+j,none⟩)):=by
 obtain⟨f,a⟩:=nu h
 exact .aG e j b off f c (λk hk=>(a k hk).1) (λk hk=>(a k hk).2)
theorem rowOf {id i b o0 s esz:Nat} {es:List (List V)} (a:eh Z μ w.heap id (.arr esz es)) (c:μ id=some (b,o0,s)) (hi:i < es.length) :
  s=esz/\DE Z μ w.heap b (o0+i * s) (es.getD i []):=by
 obtain⟨rfl,_,d,e⟩:=a b o0 s c
 refine⟨rfl,λk hk=>?_⟩
 rw[d i hi] at hk
 exact e i k hi hk
theorem Nn {t:TypeId} {a:V} {x:Value} (h:lH P t a H=some (v,eff,rd)) (m:ax Z μ w.heap a x) (c:Ctx Z μ w.heap H rd n eff) :
  aV Z μ w n v eff ((do pure (Next.value (<-Instr.loadAt t x)):Sem Next).run P w):=by
 unfold lH at h
 split at h
 .rename_i id i j
  obtain⟨b,o0,esz,hm,rfl⟩:=mf m
  split at h
  .rename_i e es hH
   split at h
   .rename_i hi
    simp only[Sw] at h
    obtain⟨v',d,h⟩:=h
    simp only[Su] at h
    obtain⟨rfl,rfl,rfl⟩:=h
    have f:=c.obj id (by simp)
    rw[hH] at f
    obtain⟨y,k,l⟩:=rS (P:=P) (rowOf f hm hi).2 d
    exact aV.here (by simp[Instr.loadAt,Instr.sureAddr,k]) l
   .simp at h
  .simp at h
 .obtain⟨b,off,o,g,rfl⟩:=rp m
  simp only[Sw] at h
  obtain⟨v',d,h⟩:=h
  simp only[Su] at h
  obtain⟨rfl,rfl,rfl⟩:=h
  obtain⟨y,k,l⟩:=rS (P:=P) g d
  exact aV.here (by simp[Instr.loadAt,Instr.sureAddr,k]) l
 .simp at h
theorem uv {t:TypeId} {i:TypeInfo} (h:P.info? t=some i):P.cellsOf t=i.size:=by simp[Program.cellsOf,h]
theorem PU {cs:List V} {xs:List Value} (h:fH Z μ w.heap cs xs) (b:cs.all aE=true):∀ x∈xs,x.oneCell'=true:=by
 intro x c
 obtain⟨i,hi,rfl⟩:=List.getElem_of_mem c
 have a:i < cs.length:=h.1 ▸ hi
 have:=h.2 i a
 simp only[Sm,Sn hi,Sn a,SJ] at this
 exact tU this (Tc.1 b _ (Sx _))
theorem MX {t:TypeId} {a b:V} {x y:Value} (h:pq P t a b H=some (v,eff,rd)) (l:ax Z μ w.heap a x) (m:ax Z μ w.heap b y) (c:Ctx Z μ w.heap H rd n eff) :
  aV Z μ w n v eff ((do Instr.storeAt t x y;pure Next.skip:Sem Next).run P w):=by
 unfold pq at h
 split at h
 .rename_i id i j
  obtain⟨k,o0,s,hm,rfl⟩:=mf l
  split at h
  .rename_i esz es hH
   split at h
   .rename_i o
    obtain⟨hi,hlen,p,f,d⟩:=o
    simp only[Sq,Su] at h
    obtain⟨rfl,rfl,rfl⟩:=h
    have e:=c.obj id (by simp)
    rw[hH] at e
    have q:=(e k o0 s hm).1
    subst q
    have hr:=gh m f
    obtain⟨w',h1,r,u,z,A⟩:=e.store (P:=P) hm (c.gw _ _ _ _ hm) c.cH hi p hr (PU hr f)
    obtain⟨ti,g⟩:=Option.isSome_iff_exists.1 d
    refine aV.skip ?_ r ⟨k,o0,s,hm,rfl,u,z,A⟩
    have:y.cells.size=ti.size:=by rw[<-uv g,<-hlen,hr.1];simp
    simp[Instr.storeAt,Instr.sureAddr,storeVar,dx g,this,h1]
   .simp at h
  .simp at h
 .simp at h
theorem ID {cs:List V} {x:Value} {t:TypeId} (h:kY cs n=some (v,eff,rd)) (hr:cs.all aE=true->fH Z μ w.heap cs x.cells.toList) (c:Ctx Z μ w.heap H rd n eff) :
  aV Z μ w n v eff ((do pure (Next.value (.pointer (some (<-newVar t x)))):Sem Next).run P w):=by
 unfold kY at h
 split at h
 .rename_i b
  simp only[Sq,Su] at h
  obtain⟨rfl,rfl,rfl⟩:=h
  have hr:=hr b
  refine⟨.value (.pointer (some ⟨w.heap.size,0,none⟩)),w.alloc (.cells x.cells t),μ.set n (w.heap.size,0,cs.length),by simp[newVar,newRow],.inl ⟨_,rfl,?_⟩,ir _ _,?_⟩
  .have:=ax.ptr (Z:=Z) (μ:=μ.set n (w.heap.size,0,cs.length)) (hp:=(w.alloc (.cells x.cells t)).heap) n 0 0 w.heap.size 0 cs.length (by simp[Mu.set])
   simpa using this
  .refine⟨w.heap.size,0,cs.length,Sy _,by rw[heap_alloc];simp,rfl,ey _ _,?_⟩
   refine eh.newRow c.new c.cH (by rw[hr.1];simp) (λi hi=>by simp at hi;subst hi;simp) (λi j hi d=>?_)
   simp at hi;subst hi
   have a:j < x.cells.size:=by have:=hr.1;simp at this;omega
   refine⟨x.cells[j],by simp[a],?_⟩
   have:=hr.2 j d
   simpa [Sm,a] using this
 .simp at h
theorem sU {t:TypeId} {f off s:Nat} {b:TypeId} (h:oN P t f=some (off,s,b)) :
  ∃ a x i,P.underlying t=some (.struct a)/\a[f]?=some x/\P.info? x.type=some i/\off=x.offset/\s=i.size/\b=x.type:=by
 unfold oN at h
 split at h
 .rename_i a hu
  split at h
  .rename_i x c
   split at h
   .rename_i i hi
    simp only[Sq,Su] at h
    exact⟨a,x,i,hu,c,hi,h.1.symm,h.2.1.symm,h.2.2.symm⟩
   .simp at h
  .simp at h
 .simp at h
theorem Dz {t:TypeId} {a:V} {x:Value} {f:Nat} (h:kM P t a f=some (v,eff,rd)) (l:ax Z μ w.heap a x) :
  aV Z μ w n v eff ((do pure (Next.value (<-Instr.fieldAt t x f)):Sem Next).run P w):=by
 unfold kM at h
 split at h
 .rename_i off s r g
  obtain⟨u,fd,i,hu,k,hi,rfl,rfl,rfl⟩:=sU g
  split at h
  .simp at h
  .rename_i m
   have c:∀ b o,(Instr.fieldAt t (.pointer (some ⟨b,o,none⟩)) f).run P w=.ok (.pointer (some ⟨b,o+fd.offset,none⟩)) w:=by
    intro b o
    simp[Instr.fieldAt,bj hu,k,Instr.sureAddr,fieldPlace,dx hi,m,iZ]
   split at h
   .rename_i id p j
    obtain⟨b,o0,esz,hm,rfl⟩:=mf l
    simp only[Sq,Su] at h
    obtain⟨rfl,rfl,rfl⟩:=h
    refine aV.here (c _ _) ?_
    have:=ax.ptr (Z:=Z) (μ:=μ) (hp:=w.heap) id p (j+fd.offset) b o0 esz hm
    simpa [TY] using this
   .rename_i e j
    obtain⟨b,off,q,d,rfl⟩:=rp l
    simp only[Sq,Su] at h
    obtain⟨rfl,rfl,rfl⟩:=h
    refine aV.here (c _ _) ?_
    have:=xM (w:=w) (j:=j+fd.offset) q d
    simpa [TY] using this
   .simp at h
 .simp at h
theorem PE {t:TypeId} {cs:List V} {a:Array Value} {off:Nat} (h:pe P t cs off=some v) (h1:cs.length=a.size) (e:∀ i,i < cs.length->ax Z μ w.heap (cs.getD i .any) (a.getD i undef)) :
  ∃ x,(part t a off).run P w=.ok x w/\ax Z μ w.heap v x:=by
 unfold pe at h
 cases hi:P.info? t with
 | none=>simp[hi] at h
 | some i =>
  cases c:qL P t with
  | none=>simp[hi,c] at h
  | some g =>
   simp only[hi,c] at h
   cases g with
   | true =>
    simp only at h
    split at h
    .rename_i hle
     simp at h;subst h
     refine⟨.agg (a.extract off (off+i.size)),by simp[part,sn c,dx hi],?_⟩
     refine .agg _ _ (by simp;omega) (λk hk=>?_)
     have d:k < i.size:=by simp at hk;omega
     have:=e (off+k) (by omega)
     simp only[Sm,Sz,TW,Ux,d,if_true,Array.getElem?_extract] at this ⊢
     rw[St (by omega)]
     exact this
    .simp at h
   | false =>
    simp only at h
    split at h
    .rename_i hle
     simp at h;subst h
     have:=e off hle
     have b:off < a.size:=h1 ▸ hle
     refine⟨a[off],by simp[part,sn c,b],?_⟩
     simpa [Sm,Sz,b] using this
    .simp at h
theorem KK {t:TypeId} {a:V} {x:Value} {f:Nat} (h:tw P t a f=some (v,eff,rd)) (e:ax Z μ w.heap a x) :
  aV Z μ w n v eff ((do pure (Next.value (<-Instr.field t x f)):Sem Next).run P w):=by
 unfold tw at h
 split at h
 .rename_i off s m cs b
  obtain⟨o,fd,i,hu,c,hi,rfl,rfl,rfl⟩:=sU b
  simp only[Sw] at h
  obtain⟨v',d,h⟩:=h
  simp only[Su] at h
  obtain⟨rfl,rfl,rfl⟩:=h
  cases e with
  | agg _ g h1 j =>
   obtain⟨y,k,l⟩:=PE (P:=P) d h1 j
   exact aV.here (by simp[Instr.field,bj hu,c,asAgg,k]) l
 .simp at h
theorem kc {a:V} {q:Nat} (h:asNat a=some q):∃ k,a=.val (.int k q):=by
 unfold asNat at h
 split at h
 .rename_i k z
  split at h
  .simp at h
   exact⟨k,by rw[<-h];congr 2;omega⟩
  .simp at h
 .simp at h
theorem eP {y x:Value} (h:ax Z μ w.heap (.val y) x):x=y:=by cases h;rfl
theorem Ds {t:TypeId} {a i:V} {x y:Value} (h:kD P t a i=some (v,eff,rd)) (r:ax Z μ w.heap a x) (s:ax Z μ w.heap i y) :
  aV Z μ w n v eff ((do pure (Next.value (<-Instr.indexAt t x y)):Sem Next).run P w):=by
 unfold kD at h
 split at h
 .simp at h
 .rename_i q B
  obtain⟨k,rfl⟩:=kc B
  have s:=eP s
  subst s
  split at h
  .rename_i e hu
   split at h
   .simp at h
   .rename_i ti g
    split at h
    .rename_i id off len esz
     split at h
     .rename_i m
      obtain⟨d,rfl⟩:=m
      simp only[Sq,Su] at h
      obtain⟨rfl,rfl,rfl⟩:=h
      cases r with
      | nT=>omega
      | sl _ _ _ _ b o0 cap c e' f hm hle D E =>
       refine aV.here (x:=.pointer (some ⟨b,o0+off * ti.size+q * ti.size,none⟩)) ?_ ?_
       .simp[Instr.indexAt,asIntOf,bj hu,dx g,iZ,d]
       .have:=ax.ptr (Z:=Z) (μ:=μ) (hp:=w.heap) id (off+q) 0 b o0 ti.size hm
        simpa [Ti,TY] using this
     .simp at h
    .rename_i es
     split at h
     .rename_i m
      obtain⟨d,u⟩:=m
      simp only[Sq,Su] at h
      obtain⟨rfl,rfl,rfl⟩:=h
      cases r with
      | gY=>simp at d
      | aT _ b off esz cap c z hle l m C =>
       have o:esz=ti.size:=(l q d).symm.trans u
       subst o
       refine aV.here (x:=.pointer (some ⟨b,off+q * ti.size+0,none⟩)) ?_ ?_
       .simp[Instr.indexAt,asIntOf,bj hu,dx g,iZ,d]
       .exact xM z (λk hk=>⟨c q k,m q k d (by rw[l q d] at hk;exact hk),C q k d (by rw[l q d] at hk;exact hk)⟩)
     .simp at h
    .simp at h
  .rename_i len e hu
   split at h
   .simp at h
   .rename_i ti g
    split at h
    .rename_i d
     split at h
     .rename_i id A j
      obtain⟨b,o0,esz,hm,rfl⟩:=mf r
      simp only[Sq,Su] at h
      obtain⟨rfl,rfl,rfl⟩:=h
      refine aV.here (x:=.pointer (some ⟨b,o0+A * esz+j+q * ti.size,none⟩)) ?_ ?_
      .simp[Instr.indexAt,Instr.sureAddr,asIntOf,bj hu,dx g,iZ,d]
      .have:=ax.ptr (Z:=Z) (μ:=μ) (hp:=w.heap) id A (j+q * ti.size) b o0 esz hm
       simpa [TY] using this
     .rename_i e' j
      obtain⟨b,off,z,p,rfl⟩:=rp r
      simp only[Sq,Su] at h
      obtain⟨rfl,rfl,rfl⟩:=h
      refine aV.here (x:=.pointer (some ⟨b,off+j+q * ti.size,none⟩)) ?_ ?_
      .simp[Instr.indexAt,Instr.sureAddr,asIntOf,bj hu,dx g,iZ,d]
      .have:=xM (w:=w) (j:=j+q * ti.size) z p
       simpa [TY] using this
     .simp at h
    .simp at h
  .simp at h
end
section
variable {Z:Nat->Prop} {μ μ':Mu} {w w':World} {P:Program} {H:View} {n:Nat} {v:V} {eff:bh} {rd:List Nat}
def wc (Z:Nat->Prop) (μ:Mu) (hp:Array Obj):Option V->Option Value->Prop
 | none,none=>True
 | some v,some x=>ax Z μ hp v x
 | _,_=>False
theorem fy {o:Option V} {a:Option Value} {d q:Nat} (h:bound d o=some q) (b:wc Z μ w.heap o a):(a=none/\q=d)∨∃ k,a=some (.int k q):=by
 cases o with
 | none=>cases a with
  | none=>simp[bound] at h;exact .inl ⟨rfl,h.symm⟩
  | some x=>exact b.elim
 | some v=>cases a with
  | none=>exact b.elim
  | some x =>
   obtain⟨k,rfl⟩:=kc h
   exact .inr ⟨k,by rw[eP b]⟩
theorem dP {a:V} {x:Value} {m:Nat} (h:ax Z μ w.heap a x) (hm:bZ a=some m):∃ ad cap,x=.slice ad m cap/\m<=cap:=by
 cases h with
 | emp k a=>simp[bZ] at hm;subst hm;exact⟨_,_,rfl,Sy _⟩
 | dK a cap=>simp[bZ] at hm;subst hm;exact⟨_,_,rfl,TP _⟩
 | gY a cap=>simp[bZ] at hm;subst hm;exact⟨_,_,rfl,TP _⟩
 | aT es b off esz cap c i hle d j l=>simp[bZ] at hm;subst hm;exact⟨_,_,rfl,hle⟩
 | nT id off esz a=>simp[bZ] at hm;subst hm;exact⟨_,_,rfl,Sy _⟩
 | sl id off len esz b o0 cap c e f g hle n o=>simp[bZ] at hm;subst hm;exact⟨_,_,rfl,hle⟩
 | _=>simp[bZ] at hm
theorem nk {len cap l h:Nat} {lo hi:Option Value} (a:(lo=none/\l=0)∨∃ k,lo=some (.int k l)) (b:(hi=none/\h=len)∨∃ k,hi=some (.int k h)) (h1:l<=h) (c:h<=cap) :
  (Instr.sliceBounds true len cap lo hi none).run P w=.ok (l,h,cap) w:=by
 rcases a with ⟨rfl,rfl⟩ | ⟨k,rfl⟩ <;> rcases b with ⟨rfl,rfl⟩ | ⟨d,rfl⟩ <;> simp[Instr.sliceBounds,Instr.sliceBound,asIntOf,h1,c]
theorem KJ {t:TypeId} {a:V} {x:Value} {lo hi O:Option V} {s u y:Option Value} (h:rl P t a lo hi O=some (v,eff,rd)) (A:ax Z μ w.heap a x)
  (z:wc Z μ w.heap lo s) (q:wc Z μ w.heap hi u) (C:wc Z μ w.heap O y) :
  aV Z μ w n v eff ((do pure (Next.value (<-Instr.sliceAt t x s u y)):Sem Next).run P w):=by
 unfold rl at h
 cases hu:cB P t with
 | none=>simp[hu] at h
 | some e =>
  have E:P.underlying t=some (.slice e):=by
   unfold cB at hu;split at hu <;> simp_all
  cases D:P.info? e with
  | none=>simp[hu,D] at h
  | some ti =>
   simp only[hu,D] at h
   have g:∀ ad len cap l r m,(Instr.sliceBounds true len cap s u y).run P w=.ok (l,r,m) w ->
     (Instr.sliceAt t (.slice ad len cap) s u y).run P w=.ok (.slice (if m=l then ad else ad.map (·.add (l * ti.size))) (r - l) (m - l)) w:=by
    intro ad len cap l r m Q
    simp[Instr.sliceAt,Instr.slice,bj E,Q,dx D]
   cases O with
   | some m =>
    cases y with
    | none=>exact C.elim
    | some m' =>
     simp only at h
     split at h
     .rename_i o p R
      split at h
      .simp at h
      .rename_i F
       obtain⟨k3,rfl⟩:=kc R
       have S:=eP C
       subst S
       have G:∀ len cap,(Instr.sliceBounds true len cap s u (some (.int k3 ((0:Nat):Int)))).run P w=.ok (0,0,0) w:=by
        intro len cap
        rcases fy o z with ⟨rfl,_⟩ | ⟨k,rfl⟩ <;> rcases fy p q with ⟨rfl,_⟩ | ⟨k',rfl⟩
        .cases hi with
         | none=>simp at F
         | some _=>exact q.elim
        .simp[Instr.sliceBounds,Instr.sliceBound,asIntOf]
        .cases hi with
         | none=>simp at F
         | some _=>exact q.elim
        .simp[Instr.sliceBounds,Instr.sliceBound,asIntOf]
       have fin:∀ ad len cap,ax Z μ w.heap a (.slice ad len cap)->x=.slice ad len cap->aV Z μ w n (.emp 0) .none ((do pure (Next.value (<-Instr.sliceAt t x s u (some (.int k3 ((0:Nat):Int))))):Sem Next).run P w):=by
        intro ad len cap _ d
        subst d
        refine aV.here (g ad len cap 0 0 0 (G len cap)) ?_
        simpa using ax.emp (Z:=Z) (μ:=μ) (hp:=w.heap) 0 ad (by simp) (by simp)
       split at h
       .simp only[Sq,Su] at h
        obtain⟨rfl,rfl,rfl⟩:=h
        obtain⟨ad,cap,d,_⟩:=dP A rfl
        exact fin _ _ _ (d ▸ A) d
       .simp only[Sq,Su] at h
        obtain⟨rfl,rfl,rfl⟩:=h
        obtain⟨ad,cap,d,_⟩:=dP A rfl
        exact fin _ _ _ (d ▸ A) d
       .simp only[Sq,Su] at h
        obtain⟨rfl,rfl,rfl⟩:=h
        obtain⟨ad,cap,d,_⟩:=dP A rfl
        exact fin _ _ _ (d ▸ A) d
       .simp only[Sq,Su] at h
        obtain⟨rfl,rfl,rfl⟩:=h
        obtain⟨ad,cap,d,_⟩:=dP A rfl
        exact fin _ _ _ (d ▸ A) d
       .simp at h
     .simp at h
   | none =>
    cases y with
    | some _=>exact C.elim
    | none =>
     simp only at h
     split at h
     .rename_i id off len esz
      split at h
      .rename_i l r o p
       split at h
       .rename_i T
        obtain⟨h1,N,rfl⟩:=T
        simp only[Sq,Su] at h
        obtain⟨rfl,rfl,rfl⟩:=h
        cases A with
        | nT _ _ _ ad =>
         obtain rfl:l=0:=by omega
         obtain rfl:r=0:=by omega
         refine aV.here (g ad 0 0 0 0 0 (nk (fy o z) (fy p q) (by omega) (by omega))) ?_
         simpa using ax.nT (Z:=Z) (μ:=μ) (hp:=w.heap) id (off+0) ti.size ad
        | sl _ _ _ _ b o0 cap c e' f hm hle Q hs =>
         refine aV.here (g _ len cap l r cap (nk (fy o z) (fy p q) h1 (by omega))) ?_
         by_cases H:cap=l
         .have e1:r - l=0:=by omega
          have e2:cap - l=0:=by omega
          rw[St H,e1,e2]
          exact ax.nT _ _ _ _
         .rw[Sr H]
          simp only[SD,iZ]
          have:=ax.sl (Z:=Z) (μ:=μ) (hp:=w.heap) id (off+l) (r - l) ti.size b o0 (cap - l) c e' f hm (by omega) Q (by rw[show off+l+(cap - l)=off+cap from by omega];exact hs)
          simpa [Ti,TY] using this
       .simp at h
      .simp at h
     .rename_i es
      split at h
      .rename_i l r o p
       split at h
       .rename_i T
        obtain⟨h1,N,I⟩:=T
        simp only[Sq,Su] at h
        obtain⟨rfl,rfl,rfl⟩:=h
        cases A with
        | gY ad cap U =>
         simp at N
         obtain rfl:r=0:=by omega
         obtain rfl:l=0:=by omega
         refine aV.here (g ad 0 cap 0 0 cap (nk (fy o z) (fy p q) (by omega) (by omega))) ?_
         refine ax.gY _ _ (λhn=>?_)
         by_cases J:cap=0
         .omega
         .rw[Sr J] at hn
          cases ad with
          | none=>exact absurd (U rfl) J
          | some a=>simp at hn
        | aT _ b off esz cap c hz hle K W hv =>
         refine aV.here (g _ es.length cap l r cap (nk (fy o z) (fy p q) h1 (by omega))) ?_
         by_cases X:l=r
         .subst X
          simpa using ax.gY (Z:=Z) (μ:=μ) (hp:=w.heap) (if cap=l then some ⟨b,off,none⟩ else some (Addr.add ⟨b,off,none⟩ (l * ti.size))) (cap - l) (by split <;> simp)
         .have L:0 < es.length:=by omega
          have M:esz=ti.size:=by
           have h0:=K 0 L
           have:=Tc.1 I (es[0]) (Sx _)
           simp at this
           simp[Sm,L] at h0
           omega
          subst M
          rw[Sr (by omega)]
          simp only[SD,iZ]
          have hlen:((es.drop l).take (r - l)).length=r - l:=by simp;omega
          have B:∀ i,i < r - l->((es.drop l).take (r - l)).getD i []=es.getD (l+i) []:=by
           intro i hi
           simp[Sm,TW,hi]
          have:=ax.aT (Z:=Z) (μ:=μ) (hp:=w.heap) ((es.drop l).take (r - l)) b (off+l * ti.size) ti.size (cap - l) (λi j=>c (l+i) j) hz (by omega)
           (λi hi=>by rw[hlen] at hi;rw[B i hi];exact K _ (by omega))
           (λi j hi Y=>by
            rw[hlen] at hi
            have:=W (l+i) j (by omega) Y
            rw[Ti] at this
            rw[<-this];congr 1;omega)
           (λi j hi Y=>by rw[hlen] at hi;rw[B i hi];exact hv _ _ (by omega) Y)
          rw[hlen] at this
          exact this
       .simp at h
      .simp at h
     .split at h
      .rename_i o p
       simp only[Sq,Su] at h
       obtain⟨rfl,rfl,rfl⟩:=h
       cases A with
       | emp _ ad h1 N =>
        refine aV.here (g ad 0 0 0 0 0 (nk (fy o z) (fy p q) (by omega) (by omega))) ?_
        simpa using ax.emp (Z:=Z) (μ:=μ) (hp:=w.heap) _ ad h1 N
      .simp at h
     .simp at h
theorem wrap_small {q:Nat} (h:q < aC):IntKind.i64.wrap (q:Int)=q:=by
 unfold aC at h
 exact IntWalk.i64_in _ (by omega)
theorem ij {t:TypeId} {i:TypeInfo} {z:List V} (hi:P.info? t=some i) (h:zeroCells P t=some z):∃ a,i.zero=some a/\z=(fg a).cells:=by
 unfold zeroCells at h
 simp only[hi] at h
 cases b:i.zero with
 | none=>simp[b] at h
 | some a=>simp[b] at h;exact⟨a,rfl,h.symm⟩
theorem fB {i j s l:Nat} (hi:i < l) (a:j < s):i * s+j < l * s:=by
 have:(i+1) * s<=l * s:=Tg _ hi
 rw[Ti] at this;omega
theorem Dx {t:TypeId} {a b:V} {x y:Value} (h:kK P t a b n=some (v,eff,rd)) (C:ax Z μ w.heap a x) (D:ax Z μ w.heap b y) (c:Ctx Z μ w.heap H rd n eff) :
  aV Z μ w n v eff ((do pure (Next.value (<-Instr.makeSlice t x y)):Sem Next).run P w):=by
 unfold kK at h
 cases hu:cB P t with
 | none=>simp[hu] at h
 | some e =>
  have r:P.underlying t=some (.slice e):=by
   unfold cB at hu;split at hu <;> simp_all
  cases d:P.info? e with
  | none=>simp[hu,d] at h
  | some ti =>
   simp only[hu,d] at h
   split at h
   .rename_i l f N O
    obtain⟨Q,rfl⟩:=kc N
    obtain⟨k2,rfl⟩:=kc O
    have C:=eP C
    have D:=eP D
    subst C D
    split at h
    .rename_i m
     obtain⟨h1,R,S⟩:=m
     have T:IntKind.i64.wrap (l:Int)=l:=wrap_small (by omega)
     have U:IntKind.i64.wrap (f:Int)=f:=wrap_small R
     have g1:¬ (((ti.bytes:Int) * (f:Int)) > 2 ^ 48):=by
      have:((ti.bytes * f:Nat):Int) < 2 ^ 48:=by unfold aC at S;omega
      push_cast at this;omega
     have k:∀ s:Array Value,(f * ti.size=0/\s = #[])∨(f * ti.size≠0/\∃ g,(zeroValue e).run P w=.ok g w/\s=g.cells) ->
       (Instr.makeSlice t (.int Q (l:Int)) (.int k2 (f:Int))).run P w=.ok (.slice (some ⟨w.heap.size,0,none⟩) l f) (w.alloc (.cells ((Array.range (f * ti.size)).map (s[· % s.size]!)) e)):=by
      intro s E
      have g2:¬ ((f:Int) < 0):=by omega
      have g3:¬ ((l:Int) < 0):=by omega
      have g4:¬ ((l:Int) > (f:Int)):=by omega
      simp only[Instr.makeSlice,Sem.run_bind,bj r,Result.andThen_ok,asInt,asIntOf,Sem.run_pure,oG d,T,U]
      simp only[g1,g2,g3,g4,decide_false,Bool.or_false,Bool.false_or,SU,if_false,Sem.run_bind,run_askRoom,Result.andThen_ok,dx d,Tf]
      rcases E with ⟨o,rfl⟩ | ⟨o,g,p,rfl⟩
      .simp[o,newRow,dx d]
      .simp[o,newRow,dx d,p]
     split at h
     .rename_i F
      subst F
      simp only[Sq,Su] at h
      obtain⟨rfl,rfl,rfl⟩:=h
      obtain rfl:l=0:=by omega
      exact aV.value (k #[] (.inl ⟨by simp,rfl⟩)) (.emp 2 _ (by simp) (by simp)) (ir _ _) ⟨rfl,ey _ _⟩
     .split at h
      .simp at h
      .rename_i L W
       split at h
       .simp at h
       .rename_i z E
        split at h
        .rename_i G
         obtain⟨q,u⟩:=G
         simp only[Sq,Su] at h
         obtain⟨rfl,rfl,rfl⟩:=h
         obtain⟨g,p,rfl⟩:=ij d E
         have hr:=gh (gg (Z:=Z) (μ:=μ) (w:=w) g) u
         have I:g.cells.size=ti.size:=by rw[<-q,hr.1];simp
         have M:(Array.range (f * ti.size)).size=f * ti.size:=by simp
         have A:f * ti.size≠0:=by
          intro o;rcases Nat.mul_eq_zero.1 o with o | o <;> contradiction
         refine aV.value (μ':=μ.set n (w.heap.size,0,ti.size)) (k g.cells (.inr ⟨A,g,jv d p w,rfl⟩)) ?_ (ir _ _) ?_
         .have:=ax.sl (Z:=Z) (μ:=μ.set n (w.heap.size,0,ti.size)) (hp:=(w.alloc (.cells ((Array.range (f * ti.size)).map (g.cells[· % g.cells.size]!)) e)).heap) n 0 l ti.size w.heap.size 0 f _ e (0,0) (by simp[Mu.set]) h1 (by rw[heap_alloc];simp;rfl) (by simp)
          simpa using this
         .refine⟨w.heap.size,0,ti.size,Sy _,by rw[heap_alloc];simp,rfl,ey _ _,?_⟩
          refine eh.newRow c.new c.cH ?_ ?_ ?_
          .simp;exact Tg _ h1
          .intro i hi;simp at hi;simp[Sm,hi,q]
          .intro i j hi J
           simp at hi
           have K:i * ti.size+j < f * ti.size:=fB (by omega) J
           have B:(i * ti.size+j) % ti.size=j:=by
            rw[Nat.mul_comm,Nat.mul_add_mod];exact Nat.mod_eq_of_lt J
           refine⟨g.cells[j]'(by omega),?_,?_⟩
           .simp[K,I,B,getElem!_pos g.cells j (by omega)]
           .have:=hr.2 j (by rw[q];exact J)
            simpa [Sm,hi,show j < g.cells.size from by omega] using this
        .simp at h
    .simp at h
   .simp at h
end
section
variable {Z:Nat->Prop} {μ μ':Mu} {w w':World} {P:Program} {H:View} {n:Nat} {v:V} {eff:bh} {rd:List Nat}
structure Flat (Z:Nat->Prop) (μ:Mu) (hp:Array Obj) (size:Nat) (xs:List (List V)) (fl:Array Value):Prop where
 len:fl.size=xs.length * size
 rel:∀ i j,i < xs.length->j < size->ax Z μ hp ((xs.getD i []).getD j .any) (fl.getD (i * size+j) undef)
theorem tj {b off size N:Nat} {c:Nat->Nat->Value} (h:∀ i j,i < N->j < size->cellAt w.heap b (off+i * size+j)=some (c i j)) {m:Nat} (hm:m<=N) :
  (loadCells ⟨b,off,none⟩ (m * size)).run P w=.ok ((((List.range (N * size)).map λk=>c (k / size) (k % size)).toArray).extract 0 (m * size)) w:=by
 have hle:m * size<=N * size:=Tg _ hm
 rw[run_loadCells w ⟨b,off,none⟩ (m * size) (λk=>c (k / size) (k % size)) (λk hk=>?_)]
 .congr 1
  apply Array.ext_getElem?
  intro k
  simp only[Tm,Array.getElem?_extract,Ss,List.getElem?_range']
  by_cases hk:k < m * size
  .simp[hk,show k < N * size from by omega,Nat.min_eq_left hm]
  .simp[hk,Nat.min_eq_left hm]
 .have d:0 < size:=by
   rcases Nat.eq_zero_or_pos size with a | a
   .subst a;simp at hk
   .exact a
  have h1:k / size < m:=(Nat.div_lt_iff_lt_mul d).2 hk
  have e:k % size < size:=Nat.mod_lt _ d
  rw[iZ,mn,<-h (k / size) (k % size) (by omega) e]
  congr 1
  have:=Nat.div_add_mod k size
  rw[Nat.mul_comm] at this
  omega
theorem Cv {size N:Nat} {c:Nat->Nat->Value} {xs:List (List V)} (d:xs.length=N) (h:∀ i j,i < N->j < size->ax Z μ w.heap ((xs.getD i []).getD j .any) (c i j)) :
  Flat Z μ w.heap size xs ((List.range (N * size)).map λk=>c (k / size) (k % size)).toArray:=by
 refine⟨by simp[d],λi j hi a=>?_⟩
 have b:i * size+j < N * size:=fB (by omega) a
 have h1:(i * size+j) / size=i:=by
  rw[Nat.mul_comm,Nat.mul_add_div (by omega),Nat.div_eq_of_lt a];simp
 have e:(i * size+j) % size=j:=by
  rw[Nat.mul_comm,Nat.mul_add_mod];exact Nat.mod_eq_of_lt a
 simpa [Sz,b,h1,e] using h i j (by omega) a
theorem qp {ad:Option Addr} {cap size m:Nat} (hm:m<=0):(Builtin.firstCells size m (.slice ad 0 cap)).run P w=.ok ((#[]:Array Value).extract 0 (m * size)) w:=by
 obtain rfl:m=0:=by omega
 cases ad with
 | none=>simp[Builtin.firstCells]
 | some a=>simp[Builtin.firstCells,loadCells,loadCellsFrom]
theorem bsize (s:ByteArray):s.data.toList.length=s.size:=by rw[Array.length_toList];rfl
theorem oE {x:V} {C:Value} {xs:List (List V)} {size:Nat} (h:bA H x=some (xs,rd)) (d:ax Z μ w.heap x C) (u:∀ id,id∈rd->eh Z μ w.heap id (H id))
  (r:∀ e∈xs,e.length=size) :
  ∃ v,Flat Z μ w.heap size xs v/\(Builtin.lenOf C).run P w=.ok xs.length w/\∀ m,m<=xs.length->(Builtin.firstCells size m C).run P w=.ok (v.extract 0 (m * size)) w:=by
 have nil:∀ (ad:Option Addr) cap,∃ v,Flat Z μ w.heap size [] v/\(Builtin.lenOf (.slice ad 0 cap)).run P w=.ok ([]:List (List V)).length w /\
   ∀ m,m<=([]:List (List V)).length->(Builtin.firstCells size m (.slice ad 0 cap)).run P w=.ok (v.extract 0 (m * size)) w :=
  λad cap=>⟨#[],⟨by simp,λi j hi=>by simp at hi⟩,by simp[Builtin.lenOf],λm hm=>qp (by simpa using hm)⟩
 unfold bA at h
 split at h
 .simp only[Sq,Su] at h
  obtain⟨rfl,rfl⟩:=h
  obtain⟨ad,cap,rfl,_⟩:=dP d rfl
  exact nil ad cap
 .simp only[Sq,Su] at h
  obtain⟨rfl,rfl⟩:=h
  obtain⟨ad,cap,rfl,_⟩:=dP d rfl
  exact nil ad cap
 .rename_i es
  simp only[Sq,Su] at h
  obtain⟨rfl,rfl⟩:=h
  cases d with
  | gY a cap=>exact nil a cap
  | aT _ b off esz cap c R hle D M y =>
   by_cases k:es=[]
   .subst k;exact nil _ cap
   .have t:0 < es.length:=Uu.2 k
    have:esz=size:=by
     have h1:=D 0 t
     have E:=r es[0] (Sx _)
     simp[Sm,t] at h1
     omega
    subst this
    exact⟨_,Cv rfl y,by simp[Builtin.lenOf],λm hm=>tj M hm⟩
 .simp only[Sq,Su] at h
  obtain⟨rfl,rfl⟩:=h
  obtain⟨ad,cap,rfl,_⟩:=dP d rfl
  exact nil ad cap
 .rename_i id off len esz hlen
  split at h
  .rename_i J es hH
   split at h
   .rename_i hle
    simp only[Sq,Su] at h
    obtain⟨rfl,rfl⟩:=h
    cases d with
    | nT=>exact(hlen rfl).elim
    | sl _ _ _ _ b o0 cap c e' f hm K S T =>
     have z:=u id (by simp)
     rw[hH] at z
     obtain⟨rfl,_,N,O⟩:=z b o0 esz hm
     have g:((es.drop off).take len).length=len:=by simp;omega
     have l:∀ i,i < len->((es.drop off).take len).getD i []=es.getD (off+i) []:=by
      intro i hi;simp[Sm,TW,hi]
     have A:0 < len:=by
      rcases Nat.eq_zero_or_pos len with t | t
      .exact(hlen t).elim
      .exact t
     have:esz=size:=by
      have h1:=N off (by omega)
      have E:=r (((es.drop off).take len)[0]'(by omega)) (Sx _)
      have L:=l 0 A
      simp only[Sm,Sn (show 0 < ((es.drop off).take len).length by omega),SJ] at L
      rw[L] at E
      simp only[Sm,Ui] at h1 E
      omega
     subst this
     have d:∀ i,∃ ci:Nat->Value,∀ j,j < esz->i < len->cellAt w.heap b (o0+off * esz+i * esz+j)=some (ci j)/\ax Z μ w.heap ((((es.drop off).take len).getD i []).getD j .any) (ci j):=by
      intro i
      by_cases hi:i < len
      .obtain⟨ci,F⟩:=nu (n:=esz) (p:=λj x=>cellAt w.heap b (o0+off * esz+i * esz+j)=some x/\ax Z μ w.heap ((((es.drop off).take len).getD i []).getD j .any) x) (λj o=>by
        obtain⟨x,d,y⟩:=O (off+i) j (by omega) o
        rw[Ti,<-TY] at d
        exact⟨x,d,by rw[l i hi];exact y⟩)
       exact⟨ci,λj o _=>F j o⟩
      .exact⟨λ_=>undef,λj _ h=>absurd h hi⟩
     obtain⟨Q,B⟩:=Classical.axiomOfChoice d
     refine⟨_,Cv (c:=Q) g (λi j hi o=>(B i j o hi).2),by simp[Builtin.lenOf];omega,λm hm=>?_⟩
     rw[g] at hm
     exact tj (λi j hi o=>(B i j o hi).1) hm
   .simp at h
  .simp at h
 .rename_i s
  simp only[Sq,Su] at h
  obtain⟨rfl,rfl⟩:=h
  have y:=eP d
  subst y
  have q:(s.data.toList.map λb=>([V.val (Value.int .u8 b.toNat)]:List V)).length=s.size:=by rw[Sv,bsize]
  have hlen:(Builtin.lenOf (.string s)).run P w=.ok s.size w:=rfl
  by_cases G:s.size=0
  .refine⟨#[],⟨by rw[q,G];simp,λi j hi=>by rw[q] at hi;omega⟩,by rw[q];exact hlen,λm hm=>?_⟩
   rw[q] at hm
   obtain rfl:m=0:=by omega
   have:(s.extract 0 0).data = #[]:=by rw[ByteArray.data_extract];simp
   simp[Builtin.firstCells,this]
  .have:size=1:=by
    have k:0 < s.data.toList.length:=by rw[bsize];omega
    have:=r [V.val (Value.int .u8 (s.data.toList[0]).toNat)] (S5.2 ⟨_,Sx k,rfl⟩)
    simpa using this.symm
   subst this
   refine⟨s.data.map λb=>.int .u8 b.toNat,⟨by rw[q,Array.size_map,Nat.mul_one];rfl,λi j hi o=>?_⟩,by rw[q];exact hlen,λm hm=>?_⟩
   .obtain rfl:j=0:=by omega
    have I:i < s.data.size:=by rw[q] at hi;exact hi
    simp only[Sm,Sz,Ss,Array.getElem?_toList,Array.getElem?_map,Nat.mul_one,Ui,SP I,SD,SJ,S3]
    exact ax.val _ rfl
   .rw[q] at hm
    simp only[Builtin.firstCells,Sem.run_pure,Nat.mul_one]
    congr 1
    rw[ByteArray.data_extract,Array.map_extract]
 .simp at h
theorem KT {size:Nat} {xs:List (List V)} {b:Array Value} (h:Flat Z μ w.heap size xs b) (m:Nat) (hm:m<=xs.length):Flat Z μ w.heap size (xs.take m) (b.extract 0 (m * size)):=by
 have hle:m * size<=xs.length * size:=Tg _ hm
 have e:(b.extract 0 (m * size)).size=m * size:=by rw[Array.size_extract,h.len];omega
 refine⟨by rw[e,Tv,Nat.min_eq_left hm],λi j hi c=>?_⟩
 have a:i < m:=by simp at hi;omega
 have:=h.rel i j (by omega) c
 have f:i * size+j < m * size:=fB a c
 have d:i * size+j < b.size:=by rw[h.len];omega
 simp only[Sm,Sz,TW,a,if_true,Array.getElem?_extract] at this ⊢
 rw[St (by omega),Tt]
 exact this
theorem yU {size:Nat} {xs:List (List V)} {d:Array Value} (h:Flat Z μ w.heap size xs d) (j:∀ e∈xs,e.length=size) (f:∀ e∈xs,e.all aE=true):∀ x∈d.toList,x.oneCell'=true:=by
 intro x l
 obtain⟨k,hk,rfl⟩:=List.getElem_of_mem l
 have c:k < xs.length * size:=by rw[<-h.len];simpa using hk
 have a:0 < size:=by
  rcases Nat.eq_zero_or_pos size with g | g
  .subst g;simp at c
  .exact g
 have h1:k / size < xs.length:=(Nat.div_lt_iff_lt_mul a).2 c
 have m:k % size < size:=Nat.mod_lt _ a
 have:=h.rel (k / size) (k % size) h1 m
 have e:k / size * size+k % size=k:=by rw[Nat.mul_comm];exact Nat.div_add_mod k size
 rw[e] at this
 have i:k < d.size:=by simpa using hk
 simp only[Sz,SP i,SJ] at this
 have b:xs[k / size]∈xs:=Sx _
 have hlen:=j _ b
 simp only[Sm,Sn h1,SJ,Sn (show k % size < (xs[k / size]).length by omega)] at this
 have:=tU this (Tc.1 (f _ b) _ (Sx _))
 simpa using this
theorem sN {b off:Nat} {c:Array Value} {e:TypeId} {f:Nat × Nat} (d:w.heap[b]?=some (.cells c e f)) (g:∀ k,k < c.size->¬ (f.1<=k/\k < f.2)) (xs:List Value)
  (l:off+xs.length<=c.size) (h:∀ x∈xs,x.oneCell'=true) :
  ∃ a,(storeCells ⟨b,off,none⟩ xs).run P w=.ok () { w with heap:=w.heap.setIfInBounds b (.cells a e f) }/\a.size=c.size /\
   ∀ k,cellAt (w.heap.setIfInBounds b (.cells a e f)) b k=if off<=k/\k < off+xs.length then xs[k - off]? else cellAt w.heap b k:=by
 obtain⟨a,h1,i,j⟩:=ke (P:=P) (b:=b) (off:=off) (e:=e) (f:=f) xs 0 c w d g (by omega) h
 refine⟨a,h1,i,λk=>?_⟩
 have:=j k
 simp only[Ui] at this
 simp only[cellAt,dU (eO d),d]
 exact this
theorem Ck:aC=70368744177664:=by decide
theorem Gy {t0 t1 e:TypeId} {ti:TypeInfo} {a:Array TypeId} {ty:TypeId} {base:Option Addr} {sLen sCap m:Nat} {l:Value} {old new u:Array Value}
  (n:a[0]?=some t0) (o:a[1]?=some t1) (b:nK P t1=true) (c:P.underlying t0=some (.slice e)) (f:P.info? e=some ti)
  (x:(Builtin.lenOf l).run P w=.ok m w) (p:sCap < sLen+m) (y:(sLen+m) * ti.bytes < aC) (z:sLen+m < aC)
  (A:∀ w',∃ q,(zeroValue e).run P w'=.ok q w'/\q.cells=u)
  (B:(Builtin.firstCells ti.size sLen (.slice base sLen sCap)).run P w.drew=.ok old w.drew) (C:(Builtin.firstCells ti.size m l).run P w.drew=.ok new w.drew) :
  ∃ cap,sLen+m<=cap/\(Builtin.append_ a ty #[.slice base sLen sCap,l]).run P w =
   .ok (.slice (some ⟨w.heap.size,0,none⟩) (sLen+m) cap) (w.drew.alloc (.cells (old ++ new ++ Builtin.zeroCells u (cap - (sLen+m))) e)):=by
 have hint:∃ d,P.underlying t1=some d/\∀ k,d≠.int k:=by
  unfold nK at b
  cases hu:P.underlying t1 with
  | none=>simp[hu] at b
  | some d=>refine⟨d,rfl,λk e=>?_⟩;subst e;simp[hu] at b
 obtain⟨d,D,r⟩:=hint
 have v:=Ck
 have g:=growslice_fits p (show (sLen+m) * ti.bytes<=140737488355328 by omega)
 have h:¬ (((sLen+m:Nat):Int) > IntKind.i64.max):=by
  have:IntKind.i64.max=9223372036854775807:=by decide
  rw[this];omega
 have i:¬ (Builtin.nextslicecap (sLen+m) sCap * ti.bytes > 2 ^ 48):=by
  have:(2:Nat) ^ 48=281474976710656:=by decide
  rw[this];exact Nat.not_lt.2 g
 obtain⟨q,s,t⟩:=A w.drew
 refine⟨Question.cut (.appendCap (sLen+m) sCap e) (w.tape w.drawn (.appendCap (sLen+m) sCap e)),Nat.le_add_right _ _,?_⟩
 have j:Question.forced (.appendCap (sLen+m) sCap e)=false:=rfl
 subst t
 cases d with
 | int k=>exact absurd rfl (r k)
 | _ =>
 simp only[Builtin.append_,Tm,S3,Tl,n,o,Sem.run_bind,bj c,Result.andThen_ok,dx f,bj D,Sem.run_pure,SU,if_false,x,Bool.not_false,if_true]
 rw[Sr (by omega)]
 simp only[h,false_and,if_false,Sem.run_bind,oG f,Result.andThen_ok,Sem.run_ite,Sem.run_pure,i,run_choose,j,SU,World.drew_eq,run_askRoom,B,C,s,newRow,run_newObj,World.alloc_eq]
 rfl
end
end Gv
