/-
  Part 1 of the proof: what the machine does and what the functions answer.
  Conditions: those that each lemma names.
-/
import Derived.WalkKit
set_option linter.unusedSimpArgs false
set_option linter.unusedVariables false
set_option maxRecDepth 100000
set_option maxHeartbeats 20000000
namespace Gv
open Go
theorem aa7:type_of% @List.getD_eq_getElem?_getD:=@List.getD_eq_getElem?_getD
theorem aa8:type_of% @List.getElem?_eq_getElem:=@List.getElem?_eq_getElem
theorem aa9:type_of% @if_neg:=@if_neg
theorem aba:type_of% @List.getElem?_map:=@List.getElem?_map
theorem abb:type_of% @if_pos:=@if_pos
theorem abc:type_of% @List.length_map:=@List.length_map
theorem abd:type_of% @Option.some.injEq:=@Option.some.injEq
theorem abe:type_of% @List.getElem_mem:=@List.getElem_mem
theorem abf:type_of% @List.getElem?_eq_some_iff:=@List.getElem?_eq_some_iff
theorem abg:type_of% @Nat.le_refl:=@Nat.le_refl
theorem abh:type_of% @Bool.and_eq_true:=@Bool.and_eq_true
theorem abi:type_of% @List.mem_of_getElem?:=@List.mem_of_getElem?
theorem abj:type_of% @Option.map_eq_some_iff:=@Option.map_eq_some_iff
theorem abk:type_of% @Option.map_some:=@Option.map_some
theorem abl:type_of% @List.length_cons:=@List.length_cons
theorem abm:type_of% @Array.getD_eq_getD_getElem?:=@Array.getD_eq_getD_getElem?
theorem abn:type_of% @decide_eq_true_eq:=@decide_eq_true_eq
theorem abo:type_of% @List.take_of_length_le:=@List.take_of_length_le
theorem abp:type_of% @Option.getD_some:=@Option.getD_some
theorem abq:type_of% @List.mem_append:=@List.mem_append
theorem abr:type_of% @List.take_add_one:=@List.take_add_one
theorem abt:type_of% @List.mem_map:=@List.mem_map
theorem abu:type_of% @Array.getElem?_eq_getElem:=@Array.getElem?_eq_getElem
theorem abv:type_of% @List.length_append:=@List.length_append
theorem abw:type_of% @List.mem_cons:=@List.mem_cons
theorem abx:type_of% @List.mem_cons_of_mem:=@List.mem_cons_of_mem
theorem aby:type_of% @List.drop_eq_nil_of_le:=@List.drop_eq_nil_of_le
theorem abz:type_of% @Prod.mk.injEq:=@Prod.mk.injEq
theorem abA:type_of% @List.map_append:=@List.map_append
theorem abB:type_of% @List.getElem?_cons_zero:=@List.getElem?_cons_zero
theorem abC:type_of% @List.all_eq_true:=@List.all_eq_true
theorem abD:type_of% @Option.bind_some:=@Option.bind_some
theorem abE:type_of% @List.map_cons:=@List.map_cons
theorem abF:type_of% @List.getElem?_append_left:=@List.getElem?_append_left
theorem abG:type_of% @List.length_nil:=@List.length_nil
theorem abH:type_of% @Nat.lt_or_ge:=@Nat.lt_or_ge
theorem abI:type_of% @Bool.false_eq_true:=@Bool.false_eq_true
theorem abJ:type_of% @decide_eq_true:=@decide_eq_true
theorem abK:type_of% @Nat.lt_of_lt_of_le:=@Nat.lt_of_lt_of_le
theorem abL:type_of% @List.getElem?_eq_none:=@List.getElem?_eq_none
theorem abM:type_of% @Int.toNat_natCast:=@Int.toNat_natCast
theorem abN:type_of% @List.cons_append:=@List.cons_append
theorem abO:type_of% @Nat.mul_le_mul_right:=@Nat.mul_le_mul_right
theorem abP:type_of% @Nat.add_assoc:=@Nat.add_assoc
theorem abQ:type_of% @Bool.true_and:=@Bool.true_and
theorem abR:type_of% @Nat.add_mul:=@Nat.add_mul
theorem abS:type_of% @List.drop_eq_getElem_cons:=@List.drop_eq_getElem_cons
theorem abT:type_of% @List.getElem?_cons_succ:=@List.getElem?_cons_succ
theorem abU:type_of% @List.getElem?_toArray:=@List.getElem?_toArray
theorem abV:type_of% @List.append_nil:=@List.append_nil
theorem abW:type_of% @Bool.eq_iff_iff:=@Bool.eq_iff_iff
theorem abX:type_of% @Nat.zero_add:=@Nat.zero_add
theorem abY:type_of% @List.foldl_cons:=@List.foldl_cons
theorem abZ:type_of% @Nat.le_trans:=@Nat.le_trans
theorem ab0:type_of% @List.getElem?_replicate:=@List.getElem?_replicate
theorem ab1:type_of% @List.getElem?_set:=@List.getElem?_set
theorem ab2:type_of% @List.ext_getElem:=@List.ext_getElem
theorem ab3:type_of% @List.nil_append:=@List.nil_append
theorem ab4:type_of% @Array.getElem?_append_left:=@Array.getElem?_append_left
theorem ab5:type_of% @List.mem_singleton:=@List.mem_singleton
theorem ab6:type_of% @List.mem_zipIdx_iff_getElem?:=@List.mem_zipIdx_iff_getElem?
theorem ab7:type_of% @List.mem_range:=@List.mem_range
theorem ab8:type_of% @List.drop_zero:=@List.drop_zero
theorem ab9:type_of% @beq_iff_eq:=@beq_iff_eq
theorem aca:type_of% @List.map_congr_left:=@List.map_congr_left
theorem acb:type_of% @List.length_take:=@List.length_take
theorem acd:type_of% @List.nodup_cons:=@List.nodup_cons
theorem ace:type_of% @List.append_assoc:=@List.append_assoc
theorem acf:type_of% @List.getElem?_append_right:=@List.getElem?_append_right
theorem acg:type_of% @List.mem_cons_self:=@List.mem_cons_self
theorem ach:type_of% @congrArg:=@congrArg
theorem aci:type_of% @List.filterMap_cons:=@List.filterMap_cons
theorem acj:type_of% @List.all_cons:=@List.all_cons
theorem ack:type_of% @List.eraseIdx_cons_succ:=@List.eraseIdx_cons_succ
theorem acm:type_of% @List.eraseIdx_cons_zero:=@List.eraseIdx_cons_zero
theorem acn:type_of% @List.getElem?_take:=@List.getElem?_take
theorem aco:type_of% @Nat.zero_le:=@Nat.zero_le
theorem acp:type_of% @Array.getElem?_setIfInBounds:=@Array.getElem?_setIfInBounds
theorem acq:type_of% @Bool.false_and:=@Bool.false_and
theorem acr:type_of% @List.mem_filter:=@List.mem_filter
theorem acs:type_of% @List.all_map:=@List.all_map
theorem acu:type_of% @List.take_length:=@List.take_length
theorem acv:type_of% @List.getD_cons_zero:=@List.getD_cons_zero
theorem acw:type_of% @List.size_toArray:=@List.size_toArray
theorem acx:type_of% @List.length_eq_zero_iff:=@List.length_eq_zero_iff
theorem acy:type_of% @decide_eq_false_iff_not:=@decide_eq_false_iff_not
theorem acz:type_of% @List.getElem?_drop:=@List.getElem?_drop
theorem acA:type_of% @List.mem_of_mem_take:=@List.mem_of_mem_take
theorem acB:type_of% @List.mem_filterMap:=@List.mem_filterMap
theorem acC:type_of% @List.pairwise_cons:=@List.pairwise_cons
theorem acD:type_of% @List.range_succ:=@List.range_succ
theorem acE:type_of% @List.any_eq_true:=@List.any_eq_true
theorem acF:type_of% @Classical.byContradiction:=@Classical.byContradiction
theorem acG:type_of% @List.getElem?_range:=@List.getElem?_range
theorem acH:type_of% @List.nodup_append:=@List.nodup_append
theorem acI:type_of% @Nat.add_zero:=@Nat.add_zero
theorem acJ:type_of% @List.map_nil:=@List.map_nil
theorem acK:type_of% @Bool.and_false:=@Bool.and_false
theorem acL:type_of% @List.mem_iff_getElem:=@List.mem_iff_getElem
theorem acM:type_of% @List.foldl_append:=@List.foldl_append
theorem acN:type_of% @Decidable.byContradiction:=@Decidable.byContradiction
theorem acO:type_of% @List.length_set:=@List.length_set
theorem acP:type_of% @Array.getElem?_modify:=@Array.getElem?_modify
theorem acQ:type_of% @List.length_filter_le:=@List.length_filter_le
theorem acR:type_of% @List.map_set:=@List.map_set
theorem acS:type_of% @Array.replicate_succ:=@Array.replicate_succ
theorem acT:type_of% @Array.replicate_zero:=@Array.replicate_zero
theorem acU:type_of% @Decidable.not_not:=@Decidable.not_not
theorem acV:type_of% @of_decide_eq_true:=@of_decide_eq_true
theorem acW:type_of% @Bool.or_eq_true:=@Bool.or_eq_true
theorem acX:type_of% @Array.getElem?_push:=@Array.getElem?_push
theorem acY:type_of% @List.getElem_of_mem:=@List.getElem_of_mem
theorem acZ:type_of% @List.getD_cons_succ:=@List.getD_cons_succ
theorem ac0:type_of% @List.append_toArray:=@List.append_toArray
theorem ac1:type_of% @List.getElem?_set_self:=@List.getElem?_set_self
theorem ac2:type_of% @List.mem_flatMap:=@List.mem_flatMap
theorem ac3:type_of% @List.isEmpty_nil:=@List.isEmpty_nil
theorem ac4:type_of% @List.getElem_map:=@List.getElem_map
theorem ac5:type_of% @Array.getElem?_toList:=@Array.getElem?_toList
theorem ac6:type_of% @List.length_replicate:=@List.length_replicate
theorem ac7:type_of% @Nat.eq_of_beq_eq_true:=@Nat.eq_of_beq_eq_true
theorem ac8:type_of% @List.take_append_drop:=@List.take_append_drop
theorem ac9:type_of% @List.all_eq_false:=@List.all_eq_false
theorem ada:type_of% @List.push_toArray:=@List.push_toArray
theorem adb:type_of% @Bool.false_or:=@Bool.false_or
theorem ade:type_of% @Bool.not_true:=@Bool.not_true
theorem adf:type_of% @List.length_pos_iff:=@List.length_pos_iff
theorem adg:type_of% @List.take_succ_cons:=@List.take_succ_cons
theorem adh:type_of% @List.drop_succ_cons:=@List.drop_succ_cons
theorem adi:type_of% @List.foldl_nil:=@List.foldl_nil
theorem adj:type_of% @List.perm_middle:=@List.perm_middle
theorem adk:type_of% @List.filter_append:=@List.filter_append
theorem adl:type_of% @List.getElem_range:=@List.getElem_range
theorem adm:type_of% @Option.some.inj:=@Option.some.inj
theorem adn:type_of% @List.all_append:=@List.all_append
theorem ado:type_of% @List.find?_cons:=@List.find?_cons
theorem adp:type_of% @Bool.not_eq_true':=@Bool.not_eq_true'
theorem adq:type_of% @List.pairwise_map:=@List.pairwise_map
theorem adr:type_of% @Nat.mul_one:=@Nat.mul_one
inductive V where
 | any
 | val (v:Value)
 | emp (k:Nat)
 | eD
 | aY (es:List (List V))
 | sl (id off len esz:Nat)
 | ptr (id i j:Nat)
 | aR (e:List V) (j:Nat)
 | mp (id:Nat)
 | fn (f:FuncId) (first cap:List V)
 | agg (cs:List V)
 | bc (vs:List V)
 deriving Inhabited
inductive ct where
 | dead
 | arr (esz:Nat) (es:List (List V))
 | map (es:List (V × V × Nat)) (clock:Nat)
 | Ac (s:ByteArray) (pos:Nat)
 deriving Inhabited
abbrev Heap:=List ct
abbrev View:=Nat->ct
def Heap.view (h:Heap):View:=λid=>h.getD id .dead
inductive bq where
 | none
 | new (o:ct)
 | fP (id:Nat) (o:ct)
 | eW (id:Nat) (o:ct)
def bq.fresh (free:Prop):bq->Prop
 | .new _ | .eW _ _=>free
 | _=>True
def bq.apply (h:Heap):bq->Heap
 | .none=>h
 | .new o=>h++[o]
 | .fP id o=>h.set id o
 | .eW id o=>h.set id .dead++[o]
def plain:Value->Bool
 | .bool _ | .int _ _ | .float _ _ | .complex _ _ _ | .string _ | .pointer none | .map none | .nilFunc | .nilIface=>true
 | _=>false
def pX:Value->V
 | .slice none 0 0=>.emp 1
 | .slice _ _ _=>.any
 | v=>if plain v then .val v else .any
def gz:Value->V
 | .agg cs=>.agg (cs.toList.map pX)
 | .func (.func f) a b=>if a.size=0/\b.size=0 then .fn f [] [] else .any
 | v=>pX v
def toCell:V->Option Value
 | .val v=>some v
 | _=>none
def yI:List V->Option (List Value)
 | []=>some []
 | v::r=>match toCell v,yI r with
  | some x,some y=>some (x::y)
  | _,_=>none
def dI:V->Option Value
 | .val v=>some v
 | .agg cs=>(yI cs).map λl=>.agg l.toArray
 | _=>none
def V.cells:V->List V
 | .agg cs=>cs
 | v=>[v]
def aK:V->Bool
 | .any | .agg _ | .bc _=>false
 | _=>true
def bo {α:Type} (P:Program):Sem α->Option α
 | .pure a=>some a
 | .program k=>bo P (k P)
 | _=>none
abbrev Env:=Nat->V
def Env.put (T:Env) (d:Option Nat) (v:V):Env:=match d with
 | some d=>λt=>if t=d then v else T t
 | none=>T
def ev (T:Env):Operand->V
 | .tmp t=>T t
 | .const v=>gz v
 | .global _=>.any
 | .func f=>.fn f [] []
def dg (P:Program) (t:TypeId):Option TypeId:=match P.underlying t with
 | some (.slice e)=>some e
 | _=>none
def zeroCells (P:Program) (t:TypeId):Option (List V):=match P.info? t with
 | some i=>match i.zero with
  | some v=>some (gz v).cells
  | none=>none
 | none=>none
def sk (P:Program) (t:TypeId) (f:Nat):Option (Nat × Nat × TypeId):=match P.underlying t with
 | some (.struct fs)=>match fs[f]? with
  | some x=>match P.info? x.type with
   | some i=>some (x.offset,i.size,x.type)
   | none=>none
  | none=>none
 | _=>none
def asNat:V->Option Nat
 | .val (.int _ q)=>if 0<=q then some q.toNat else none
 | _=>none
def vp (P:Program) (t:TypeId):Option Bool:=match P.underlying t with
 | some (.struct _) | some (.array _ _)=>some true
 | some _=>some false
 | none=>none
def sM (P:Program) (t:TypeId) (cs:List V) (off:Nat):Option V:=match P.info? t,vp P t with
 | some i,some true=>if off+i.size<=cs.length then some (.agg ((cs.drop off).take i.size)) else none
 | some _,some false=>if off<cs.length then some (cs.getD off .any) else none
 | _,_=>none
def gm (e:List V) (j:Nat) (cs:List V):List V:=e.take j++cs++e.drop (j+cs.length)
def cP (n:Nat):V:=.val (.int .i64 n)
def bQ (H:View):V->Option (List (List V) × List Nat)
 | .emp _ | .eD=>some ([],[])
 | .aY es=>some (es,[])
 | .sl _ _ 0 _=>some ([],[])
 | .sl id off len _=>match H id with
  | .arr _ es=>if off+len<=es.length then some ((es.drop off).take len,[id]) else none
  | _=>none
 | .val (.string s)=>some (s.data.toList.map λb=>[.val (.int .u8 b.toNat)],[])
 | _=>none
def aE:Nat:=2 ^ 46
def mJ:List (List V)->Option (List UInt8)
 | []=>some []
 | [.val (.int .u8 n)]::r=>(mJ r).map (UInt8.ofNat n.toNat :: ·)
 | _=>none
def gJ:List (V × V × Nat)->Option (List MapEntry)
 | []=>some []
 | (k,_,b)::r=>match dI k,gJ r with
  | some x,some y=>some ({ key:=x,val:=.nilFunc,born:=b }::y)
  | _,_=>none
def mR (P:Program) (kt:TypeId) (k:V) (empty:Bool) (es:List (V × V × Nat)):Option (Option Nat):=match dI k,gJ es with
 | some x,some l=>match bo P (Instr.checkKey empty 10000 kt x >>= λ_=>Instr.findKey kt x l) with
  | some (some (i,_))=>some (some i)
  | some none=>some none
  | none=>none
 | _,_=>none
def eR (P:Program) (t:TypeId):Option (TypeId × TypeId):=match P.underlying t with
 | some (.map k e)=>some (k,e)
 | _=>none
def zeroV (P:Program) (t:TypeId):Option V:=match P.info? t with
 | some i=>match i.zero with
  | some v=>some (gz v)
  | none=>none
 | none=>none
abbrev Out:=Option (V × bq × List Nat)
def oM (P:Program) (t:TypeId) (a:V) (H:View):Out:=match a with
 | .ptr id i j=>match H id with
  | .arr _ es=>if i<es.length then (sM P t (es.getD i []) j).map λv=>(v,.none,[id]) else none
  | _=>none
 | .aR e j=>(sM P t e j).map λv=>(v,.none,[])
 | _=>none
def tn (P:Program) (t:TypeId) (a v:V) (H:View):Out:=match a with
 | .ptr id i j=>match H id with
  | .arr esz es =>
   if i<es.length/\v.cells.length=P.cellsOf t/\j+v.cells.length<=esz/\v.cells.all aK=true/\(P.info? t).isSome=true
   then some (.any,.fP id (.arr esz (es.set i (gm (es.getD i []) j v.cells))),[id]) else none
  | _=>none
 | _=>none
def nL (cs:List V) (n:Nat):Out:=
 if cs.all aK=true then some (.ptr n 0 0,.new (.arr cs.length [cs]),[]) else none
def mV (size:Nat):List (List V)->List (Nat × V)->Option (List (List V))
 | es,[]=>some es
 | es,(i,x)::r=>if x.cells.length=size/\i<es.length/\x.cells.all aK=true then mV size (es.set i x.cells) r else none
def jg (P:Program) (t:TypeId) (len:Nat) (parts:List (Nat × V)) (n:Nat):Out:=match dg P t with
 | none=>none
 | some e=>match P.info? e with
  | none=>none
  | some i =>
   if len*i.size>2 ^ 24 then none
   else if len=0 then (if parts.isEmpty then some (.emp 2,.none,[]) else none)
   else if i.size=0 then none
   else match zeroCells P e with
    | none=>none
    | some z=>if z.length=i.size/\z.all aK=true then
      match mV i.size (List.replicate len z) parts with
      | some es=>some (.sl n 0 len i.size,.new (.arr i.size es),[])
      | none=>none
     else none
def Al (place:Nat->Option (Nat × Nat)):List V->List (Nat × V)->Option (List V)
 | cs,[]=>some cs
 | cs,(i,x)::r=>match place i with
  | none=>none
  | some (off,size)=>if x.cells.length=size/\off+size<=cs.length/\x.cells.all aK=true then Al place (gm cs off x.cells) r else none
def placeOf (P:Program) (t:TypeId) (i:Nat):Option (Nat × Nat):=(sk P t i).map λ(a,b,_)=>(a,b)
def nU (P:Program) (t:TypeId):Bool:=match P.underlying t with
 | some (.struct fs)=>fs.toList.all λf=>(P.info? f.type).isSome
 | _=>false
def yL (P:Program) (t:TypeId) (parts:List (Nat × V)):Out:=match P.underlying t,zeroV P t with
 | some (.struct _),some (.agg z)=>if nU P t=true then (Al (placeOf P t) z parts).map λcs=>(.agg cs,.none,[]) else none
 | _,_=>none
def nr (P:Program) (t:TypeId) (x:V) (f:Nat):Out:=match sk P t f with
 | some (off,s,_)=>if s=0 then none else match x with
  | .ptr id i j=>some (.ptr id i (j+off),.none,[])
  | .aR e j=>some (.aR e (j+off),.none,[])
  | _=>none
 | none=>none
def yU (P:Program) (t:TypeId) (x:V) (f:Nat):Out:=match sk P t f,x with
 | some (off,_,ft),.agg cs=>(sM P ft cs off).map λv=>(v,.none,[])
 | _,_=>none
def nk (P:Program) (t:TypeId) (x i:V):Out:=match asNat i with
 | none=>none
 | some q=>match P.underlying t with
  | some (.slice e)=>match P.info? e with
   | none=>none
   | some ti=>match x with
    | .sl id off len esz=>if q<len/\esz=ti.size then some (.ptr id (off+q) 0,.none,[]) else none
    | .aY es=>if q<es.length/\(es.getD q []).length=ti.size then some (.aR (es.getD q []) 0,.none,[]) else none
    | _=>none
  | some (.array len e)=>match P.info? e with
   | none=>none
   | some ti=>if q<len then match x with
    | .ptr id i j=>some (.ptr id i (j+q*ti.size),.none,[])
    | .aR e j=>some (.aR e (j+q*ti.size),.none,[])
    | _=>none
    else none
  | _=>none
def bound (d:Nat):Option V->Option Nat
 | none=>some d
 | some v=>asNat v
def vK (P:Program) (t:TypeId) (x:V) (lo hi mx:Option V):Out:=match dg P t with
 | none=>none
 | some e=>match P.info? e with
  | none=>none
  | some ti=>match mx with
   | some m=>match bound 0 lo,bound 0 hi,asNat m with
    | some 0,some 0,some 0=>if hi.isNone then none else match x with
     | .sl _ _ _ _ | .aY _ | .emp _ | .eD=>some (.emp 0,.none,[])
     | _=>none
    | _,_,_=>none
   | none=>match x with
    | .sl id off len esz=>match bound 0 lo,bound len hi with
     | some l,some h=>if l<=h/\h<=len/\esz=ti.size then some (.sl id (off+l) (h-l) esz,.none,[]) else none
     | _,_=>none
    | .aY es=>match bound 0 lo,bound es.length hi with
     | some l,some h=>if l<=h/\h<=es.length/\(es.all λe=>e.length==ti.size)=true then some (.aY ((es.drop l).take (h-l)),.none,[]) else none
     | _,_=>none
    | .emp k=>match bound 0 lo,bound 0 hi with
     | some 0,some 0=>some (.emp k,.none,[])
     | _,_=>none
    | _=>none
def nz (P:Program) (t:TypeId) (len cap:V) (n:Nat):Out:=match dg P t with
 | none=>none
 | some e=>match P.info? e with
  | none=>none
  | some ti=>match asNat len,asNat cap with
   | some l,some c =>
    if l<=c/\c<aE/\ti.bytes*c<aE then
     (
      if c=0 then some (.emp 2,.none,[])
      else if ti.size=0 then none
      else match zeroCells P e with
       | none=>none
       | some z=>if z.length=ti.size/\z.all aK=true then some (.sl n 0 l ti.size,.new (.arr ti.size (List.replicate l z)),[]) else none)
    else none
   | _,_=>none
def pJ (P:Program) (at0:TypeId) (s x:V) (H:View) (n:Nat):Out:=match dg P at0,bQ H x with
 | some e,some (xs,rd)=>match P.info? e with
  | none=>none
  | some ti =>
   if xs.isEmpty then (match s with
    | .emp _ | .eD | .aY _ | .sl _ _ _ _=>some (s,.none,[])
    | _=>none)
   else if ti.size=0∨¬ ((zeroCells P e).map List.length=some ti.size)∨¬ ((xs.all λe=>e.length==ti.size&&e.all aK)=true) then none
   else match s with
    | .emp _=>if xs.length*ti.bytes<aE/\xs.length<aE then some (.sl n 0 xs.length ti.size,.new (.arr ti.size xs),rd) else none
    | .sl id off len esz=>match H id with
     | .arr _ es =>
      if off+len<=es.length/\esz=ti.size/\(len+xs.length)*ti.bytes<aE/\len+xs.length<aE
      then some (.sl n 0 (len+xs.length) esz,.eW id (.arr esz ((es.drop off).take len++xs)),id::rd) else none
     | _=>none
    | _=>none
 | _,_=>none
def HL (P:Program) (at0:TypeId) (x:V):Out:=match dg P at0,x with
 | some _,.emp _=>some (cP 0,.none,[])
 | _,_=>none
def uK (P:Program) (at0:TypeId) (s x:V) (n:Nat):Out:=match dg P at0,asNat x,s with
 | some e,some l,.emp k=>match P.info? e,zeroCells P e with
  | some ti,some z=>if l=0 then some (.emp k,.none,[]) else if z.length=ti.size/\z.all aK=true/\ti.size≠0/\l*ti.bytes<aE/\l<aE then some (.sl n 0 l ti.size,.new (.arr ti.size (List.replicate l z)),[]) else none
  | _,_=>none
 | _,_,_=>none
def eS:List (List V)->Nat->List (List V)->List (List V)
 | es,_,[]=>es
 | es,i,x::r=>eS (es.set i x) (i+1) r
def cE:V->Option Nat
 | .emp _ | .eD=>some 0
 | .aY es=>some es.length
 | .sl _ _ len _=>some len
 | _=>none
def zP (P:Program) (at0:TypeId) (d x:V) (H:View):Out:=match dg P at0,bQ H x,cE d with
 | some e,some (xs,rd),some dl=>match P.info? e with
  | none=>none
  | some ti =>
   if (xs.take dl).isEmpty then some (cP 0,.none,[])
   else match d with
    | .sl id off len esz=>match H id with
     | .arr _ es =>
      if off+len<=es.length/\esz=ti.size/\ti.size≠0/\((xs.all λe=>e.length==ti.size&&e.all aK)=true)
      then some (cP (xs.take dl).length,.fP id (.arr esz (eS es off (xs.take dl))),id::rd) else none
     | _=>none
    | _=>none
 | _,_,_=>none
def yW (P:Program) (at0:TypeId) (d:V) (H:View):Out:=match dg P at0,cE d with
 | some e,some dl=>if dl=0 then some (.bc [],.none,[]) else match d,P.info? e,zeroCells P e with
  | .sl id off len esz,some ti,some z=>match H id with
   | .arr _ es=>if off+len<=es.length/\esz=ti.size/\ti.size≠0/\z.length=ti.size/\z.all aK=true then some (.bc [],.fP id (.arr esz (eS es off (List.replicate len z))),[id]) else none
   | _=>none
  | _,_,_=>none
 | _,_=>none
def fV (P:Program) (t:TypeId) (m k:V) (ok:Bool) (H:View):Out:=match eR P t with
 | none=>none
 | some (kt,et)=>match zeroV P et with
  | none=>none
  | some z =>
   let fin (v:V) (b:Bool) (rd:List Nat):Out:=some (if ok then .bc [v,.val (.bool b)] else v,.none,rd)
   match m with
   | .mp id=>match H id with
    | .map es _=>match mR P kt k es.isEmpty es with
     | some (some i)=>match es[i]? with
      | some (_,v,_)=>fin v true [id]
      | none=>none
     | some none=>fin z false [id]
     | none=>none
    | _=>none
   | _=>none
def sameKey (old new:V):Bool:=match dI old,dI new with
 | some a,some b=>Instr.sameBits 10000 a b
 | _,_=>false
def iq (P:Program) (t:TypeId) (m k v:V) (H:View):Out:=match eR P t,m with
 | some (kt,_),.mp id=>match H id with
  | .map es c=>match mR P kt k false es with
   | some (some i)=>match es[i]? with
    | some (k0,_,b)=>if sameKey k0 k=true then some (.any,.fP id (.map (es.set i (k,v,b)) c),[id]) else none
    | none=>none
   | some none=>some (.any,.fP id (.map (es++[(k,v,c)]) (c+1)),[id])
   | none=>none
  | _=>none
 | _,_=>none
def fk (P:Program) (t:TypeId) (m k:V) (H:View):Out:=match eR P t,m with
 | some (kt,et),.mp id=>match H id with
  | .map es c=>match mR P kt k false es with
   | some (some i)=>match es[i]? with
    | some (k0,v,b)=>if sameKey k0 k=true then some (.bc [v,cP b],.fP id (.map (es.set i (k,v,b)) c),[id]) else none
    | none=>none
   | some none=>match zeroV P et with
    | some z=>some (.bc [z,cP c],.fP id (.map (es++[(k,z,c)]) (c+1)),[id])
    | none=>none
   | none=>none
  | _=>none
 | _,_=>none
def lN (m s v:V) (H:View):Out:=match m,asNat s with
 | .mp id,some q=>match H id with
  | .map es c=>match es.findIdx? (λe=>e.2.2==q) with
   | some i=>match es[i]? with
    | some (k,_,b)=>some (.any,.fP id (.map (es.set i (k,v,b)) c),[id])
    | none=>none
   | none=>none
  | _=>none
 | _,_=>none
def zd (P:Program) (t:TypeId) (m k:V) (H:View):Out:=match eR P t,m with
 | some (kt,_),.mp id=>match H id with
  | .map es c=>match mR P kt k es.isEmpty es with
   | some (some i)=>some (.any,.fP id (.map (es.eraseIdx i) c),[id])
   | some none=>some (.any,.none,[id])
   | none=>none
  | _=>none
 | _,_=>none
def x7 (P:Program) (t:TypeId) (x:V) (H:View):Out:=match P.underlying t with
 | some (.slice _)=>(cE x).map λn=>(cP n,.none,[])
 | some (.map _ _)=>match x with
  | .mp id=>match H id with
   | .map es _=>some (cP es.length,.none,[id])
   | _=>none
  | .val (.map none)=>some (cP 0,.none,[])
  | _=>none
 | some .string=>match x with
  | .val (.string s)=>some (cP s.size,.none,[])
  | _=>none
 | some (.array n _)=>some (cP n,.none,[])
 | _=>none
def GD (x:V) (H:View):Out:=match x with
 | .ptr id 0 0=>match H id with
  | .Ac s pos =>
   if pos<s.size then
    some (.bc [.val (.bool true),cP pos,.val (.int .i32 (Utf8.decode s pos).1)],.fP id (.Ac s (pos+(Utf8.decode s pos).2)),[id])
   else some (.bc [.val (.bool false)],.none,[id])
  | _=>none
 | _=>none
def iF (s:ByteArray):List (List V):=s.data.toList.map λb=>[.val (.int .u8 b.toNat)]
def mD (P:Program) (s d:TypeId):Bool:=match P.underlying s,P.underlying d with
 | some (.slice _),_=>true
 | _,some (.slice _)=>true
 | _,_=>false
def oZ (P:Program) (s d:TypeId) (x:V) (H:View) (n:Nat):Out:=match P.underlying s,P.underlying d,x with
 | some (.slice e),some .string,x=>match P.underlying e with
  | some (.int .u8)=>match bQ H x,cE x with
   | some (xs,rd),some _=>(mJ xs).map λl=>(.val (.string ⟨l.toArray⟩),.none,rd)
   | _,_=>none
  | _=>none
 | some .string,some (.slice e),.val (.string s)=>match P.underlying e with
  | some (.int .u8)=>some (.sl n 0 s.size 1,.new (.arr 1 (iF s)),[])
  | _=>none
 | some (.slice _),some (.slice e),.sl id off len esz=>if s=d/\len≠0 then (match P.underlying e with
  | some (.int .u8)=>match H id with
   | .arr z es=>some (.sl id off len esz,.fP id (.arr z es),[id])
   | _=>none
  | _=>none) else none
 | _,_,_=>none
def fR:Nat->V->Option Bool
 | 0,.emp 1=>some true
 | 0,.emp 2 | 0,.eD=>some false
 | 0,.sl _ _ (_+1) _=>some false
 | 0,.aY (_::_)=>some false
 | 1,.ptr _ _ _ | 1,.aR _ _ | 2,.mp _ | 3,.fn _ _ _=>some false
 | 1,.val (.pointer none) | 2,.val (.map none) | 3,.val .nilFunc=>some true
 | _,_=>none
def kG (P:Program) (t:TypeId):Option Nat:=match P.underlying t with
 | some (.slice _)=>some 0
 | some (.pointer _)=>some 1
 | some (.map _ _)=>some 2
 | some (.func _ _ _)=>some 3
 | _=>none
def HJ (P:Program) (t:TypeId) (x y:V):Option Bool:=match kG P t with
 | some k=>match fR k x,fR k y with
  | some true,some b=>some b
  | some b,some true=>some b
  | _,_=>none
 | none=>none
def eE (P:Program) (o:Oper) (T:Env):Out:=
 if o.op.operands.all (λx=>(dI (ev T x)).isSome)=true then
  match bo P (execOp (λx=>(dI (ev T x)).getD undef) o) with
  | some (.value v)=>if plain v then some (.val v,.none,[]) else none
  | _=>none
 else none
def isStr (P:Program) (o:Op):Bool:=match o with
 | .range t _=>(match P.underlying t with | some .string=>true | _=>false)
 | _=>false
def pY (P:Program) (t:TypeId):Bool:=match P.underlying t with
 | some (.int _)=>false
 | some _=>true
 | none=>false
def isInt (P:Program) (t:TypeId):Bool:=match P.underlying t with
 | some (.int _)=>true
 | _=>false
def cL (P:Program) (o:Oper) (T:Env) (H:View) (n:Nat):Out:=match o.op with
 | .move x | .assign x=>some (ev T x,.none,[])
 | .pick c a b=>match ev T c with
  | .val (.bool t)=>some (if t then ev T a else ev T b,.none,[])
  | _=>none
 | .alloc e=>match zeroCells P e with
  | some z=>nL z n
  | none=>none
 | .box _ x=>nL (ev T x).cells n
 | .build t parts=>yL P t (parts.toList.map λ(i,x)=>(i,ev T x))
 | .buildSlice t len parts=>jg P t len (parts.toList.map λ(i,x)=>(i,ev T x)) n
 | .load t a=>oM P t (ev T a) H
 | .store t a v=>tn P t (ev T a) (ev T v) H
 | .nilCheck x=>match ev T x with
  | .ptr id i j=>some (.ptr id i j,.none,[])
  | .aR e j=>some (.aR e j,.none,[])
  | .fn f a b=>some (.fn f a b,.none,[])
  | _=>none
 | .fieldAddr t x f=>nr P t (ev T x) f
 | .field t x f=>yU P t (ev T x) f
 | .indexAddr t x i=>nk P t (ev T x) (ev T i)
 | .slice t x lo hi mx=>match ev T x with
  | .val _=>eE P o T
  | y=>vK P t y (lo.map (ev T)) (hi.map (ev T)) (mx.map (ev T))
 | .makeSlice t l c=>nz P t (ev T l) (ev T c) n
 | .makeMap _ r=>match r with
  | none=>some (.mp n,.new (.map [] 0),[])
  | some _=>none
 | .makeFunc (.func f) first cap=>some (.fn f (first.toList.map (ev T)) (cap.toList.map (ev T)),.none,[])
 | .lookup t m k ok=>fV P t (ev T m) (ev T k) ok H
 | .mapUpdate t m k v=>iq P t (ev T m) (ev T k) (ev T v) H
 | .insert t m k v=>iq P t (ev T m) (ev T k) (ev T v) H
 | .mapEntry t m k=>fk P t (ev T m) (ev T k) H
 | .entryStore _ m s v=>lN (ev T m) (ev T s) (ev T v) H
 | .extract t i=>match ev T t with
  | .bc vs=>if i<vs.length then some (vs.getD i .any,.none,[]) else none
  | _=>none
 | .range _ x=>match ev T x with
  | .val (.string s)=>if isStr P o.op=true then some (.ptr n 0 0,.new (.Ac s 0),[]) else none
  | _=>none
 | .next it true=>GD (ev T it) H
 | .convert s d x=>if mD P s d=true then oZ P s d (ev T x) H n else eE P o T
 | .call { callee:=.builtin b,args,argTypes }=>match b,args.toList with
  | .len,[x]=>if 1<=argTypes.size then x7 P (argTypes.getD 0 0) (ev T x) H else none
  | .append,[s,x]=>if 2<=argTypes.size/\pY P (argTypes.getD 1 0)=true then pJ P (argTypes.getD 0 0) (ev T s) (ev T x) H n else if 2<=argTypes.size/\isInt P (argTypes.getD 1 0)=true then uK P (argTypes.getD 0 0) (ev T s) (ev T x) n else none
  | .cap,[x]=>if 1<=argTypes.size then HL P (argTypes.getD 0 0) (ev T x) else none
  | .copy,[d,x]=>if 1<=argTypes.size then zP P (argTypes.getD 0 0) (ev T d) (ev T x) H else none
  | .delete,[m,k]=>if 1<=argTypes.size then zd P (argTypes.getD 0 0) (ev T m) (ev T k) H else none
  | .clear,[d]=>if 1<=argTypes.size then yW P (argTypes.getD 0 0) (ev T d) H else none
  | .min,_ | .max,_ | .complex,_ | .real,_ | .imag,_=>eE P o T
  | _,_=>none
 | .binOp op t x y _=>if (kG P t).isSome=true then (match op,HJ P t (ev T x) (ev T y) with
   | .eql,some b=>some (.val (.bool b),.none,[])
   | .neq,some b=>some (.val (.bool (!b)),.none,[])
   | _,_=>none)
  else eE P o T
 | .unOp .. | .index ..=>eE P o T
 | _=>none
abbrev Mu:=Nat->Option (Nat × Nat × Nat)
def cellAt (hp:Array Obj) (b k:Nat):Option Value:=match hp[b]? with
 | some (.cells c _ _)=>c[k]?
 | _=>none
theorem jo (w:World) (b k:Nat):w.cell? ⟨b,k,none⟩=cellAt w.heap b k:=by
 simp only[World.cell?,cellAt]
 cases w.heap[b]? with
 | none=>rfl
 | some o=>cases o<;>simp
inductive aD (Z:Nat->Prop) (μ:Mu) (hp:Array Obj):V->Value->Prop
 | any (x:Value):aD Z μ hp .any x
 | val (v:Value):plain v=true->aD Z μ hp (.val v) v
 | emp (k:Nat) (a:Option Addr):(k=1->a=none)->(k=2->a≠none)->aD Z μ hp (.emp k) (.slice a 0 0)
 | eD (a:Addr) (cap:Nat):aD Z μ hp .eD (.slice (some a) 0 cap)
 | jz (a:Option Addr) (cap:Nat):(a=none->cap=0)->aD Z μ hp (.aY []) (.slice a 0 cap)
 | aY (es:List (List V)) (b off esz cap:Nat) (c:Nat->Nat->Value):Z b->es.length<=cap ->
  (∀i,i<es.length->(es.getD i []).length=esz) ->
  (∀i j,i<es.length->j<esz->cellAt hp b (off+i*esz+j)=some (c i j)) ->
  (∀i j,i<es.length->j<esz->aD Z μ hp ((es.getD i []).getD j .any) (c i j)) ->
  aD Z μ hp (.aY es) (.slice (some ⟨b,off,none⟩) es.length cap)
 | rI (id off esz:Nat) (a:Option Addr):aD Z μ hp (.sl id off 0 esz) (.slice a 0 0)
 | sl (id off len esz b o0 cap:Nat) (c:Array Value) (e:TypeId) (f:Nat × Nat):μ id=some (b,o0,esz)->len<=cap ->
  hp[b]?=some (.cells c e f)->o0+(off+cap)*esz<=c.size ->
  aD Z μ hp (.sl id off len esz) (.slice (some ⟨b,o0+off*esz,none⟩) len cap)
 | ptr (id i j b o0 esz:Nat):μ id=some (b,o0,esz)->aD Z μ hp (.ptr id i j) (.pointer (some ⟨b,o0+i*esz+j,none⟩))
 | aR (e:List V) (j b off:Nat) (c:Nat->Value):Z b->(∀k,k<e.length->cellAt hp b (off+k)=some (c k)) ->
  (∀k,k<e.length->aD Z μ hp (e.getD k .any) (c k))->aD Z μ hp (.aR e j) (.pointer (some ⟨b,off+j,none⟩))
 | mp (id b o0 esz:Nat):μ id=some (b,o0,esz)->aD Z μ hp (.mp id) (.map (some b))
 | fn (f:FuncId) (xs ys:List V) (aas bs:Array Value):xs.length=aas.size->ys.length=bs.size ->
  (∀i,i<xs.length->aD Z μ hp (xs.getD i .any) (aas.getD i undef))->(∀i,i<ys.length->aD Z μ hp (ys.getD i .any) (bs.getD i undef)) ->
  aD Z μ hp (.fn f xs ys) (.func (.func f) aas bs)
 | agg (cs:List V) (aas:Array Value):cs.length=aas.size->(∀i,i<cs.length->aD Z μ hp (cs.getD i .any) (aas.getD i undef))->aD Z μ hp (.agg cs) (.agg aas)
 | bc (cs:List V) (aas:Array Value):cs.length=aas.size->(∀i,i<cs.length->aD Z μ hp (cs.getD i .any) (aas.getD i undef))->aD Z μ hp (.bc cs) (.tuple aas)
def gI (Z:Nat->Prop) (μ:Mu) (hp:Array Obj) (vs:List V) (xs:List Value):Prop:=
 vs.length=xs.length/\∀i,i<vs.length->aD Z μ hp (vs.getD i .any) (xs.getD i undef)
def gu (hp hp':Array Obj):Prop:=∀(b:Nat) (c:Array Value) (e:TypeId) (f:Nat × Nat),hp[b]?=some (.cells c e f)->∃(c':Array Value) (f':Nat × Nat),hp'[b]?=some (.cells c' e f')/\c'.size=c.size
theorem gu.refl (hp:Array Obj):gu hp hp:=λ_ c _ f h=>⟨c,f,h,rfl⟩
theorem gu.trans {a b c:Array Obj} (h:gu a b) (k:gu b c):gu a c:=λi x e f d =>
 let ⟨c1,f1,h1,s1⟩:=h i x e f d
 let ⟨c2,f2,g,s2⟩:=k i c1 e f1 h1
 ⟨c2,f2,g,s2.trans s1⟩
structure iQ (Z Z':Nat->Prop) (μ μ':Mu) (hp hp':Array Obj):Prop where
 z:∀b,Z b->Z' b
 zz:∀b,Z b->hp'[b]?=hp[b]?
 mu:∀id x,μ id=some x->μ' id=some x
 shape:gu hp hp'
theorem iQ.refl (Z:Nat->Prop) (μ:Mu) (hp:Array Obj):iQ Z Z μ μ hp hp:=⟨λ_ h=>h,λ_ _=>rfl,λ_ _ h=>h,gu.refl _⟩
theorem iQ.trans {Z f e:Nat->Prop} {μ μ' d:Mu} {a b c:Array Obj} (h:iQ Z f μ μ' a b) (k:iQ f e μ' d b c):iQ Z e μ d a c:=
 ⟨λi hi=>k.z i (h.z i hi),λi hi=>(k.zz i (h.z i hi)).trans (h.zz i hi),λi x g=>k.mu i x (h.mu i x g),h.shape.trans k.shape⟩
theorem BG {hp a:Array Obj} {b:Nat} (h:a[b]?=hp[b]?) (k:Nat):cellAt a b k=cellAt hp b k:=by simp[cellAt,h]
theorem aD.mono {Z u:Nat->Prop} {μ μ':Mu} {hp l:Array Obj} (m:iQ Z u μ μ' hp l) {v:V} {x:Value} (h:aD Z μ hp v x):aD u μ' l v x:=by
 induction h with
 | any x=>exact .any x
 | val v w=>exact .val v w
 | emp k a h1 o=>exact .emp k a h1 o
 | eD a cap=>exact .eD a cap
 | jz a cap h1=>exact .jz a cap h1
 | aY es b off esz cap c n hle p q _ g=>exact .aY es b off esz cap c (m.z _ n) hle p (λi j hi y=>by rw[BG (m.zz _ n)];exact q i j hi y) g
 | rI id off esz a=>exact .rI id off esz a
 | sl id off len esz b o0 cap c e f hm hle A F =>
  obtain⟨B,C,r,D⟩:=m.shape b c e f A
  exact .sl id off len esz b o0 cap B e C (m.mu _ _ hm) hle r (by omega)
 | ptr id i j b o0 esz hm=>exact .ptr id i j b o0 esz (m.mu _ _ hm)
 | aR e j b off c n q _ g=>exact .aR e j b off c (m.z _ n) (λk hk=>by rw[BG (m.zz _ n)];exact q k hk) g
 | mp id b o0 esz hm=>exact .mp id b o0 esz (m.mu _ _ hm)
 | fn f xs ys d E h1 o _ _ s t=>exact .fn f xs ys d E h1 o s t
 | agg cs d h1 _ g=>exact .agg cs d h1 g
 | bc cs d h1 _ g=>exact .bc cs d h1 g
def eT (Z:Nat->Prop) (μ:Mu) (hp:Array Obj) (id:Nat):ct->Prop
 | .dead=>True
 | .arr esz es=>∀b o0 s,μ id=some (b,o0,s)->s=esz /\
  (∃(c:Array Value) (e:TypeId) (f:Nat × Nat),hp[b]?=some (.cells c e f)/\(f.1=f.2∨c.size<=f.1)/\o0+es.length*esz<=c.size) /\
  (∀i,i<es.length->(es.getD i []).length=esz) /\
  (∀i j,i<es.length->j<esz->∃x,cellAt hp b (o0+i*esz+j)=some x/\aD Z μ hp ((es.getD i []).getD j .any) x)
 | .map es clock=>∀b o0 s,μ id=some (b,o0,s)->∃a:Array MapEntry,hp[b]?=some (.map a clock)/\a.size=es.length /\
  ∀i,i<es.length->∃y,a[i]?=some y/\aD Z μ hp (es.getD i default).1 y.key/\aD Z μ hp (es.getD i default).2.1 y.val/\y.born=(es.getD i default).2.2
 | .Ac s pos=>∀b o0 t,μ id=some (b,o0,t)->o0=0/\hp[b]?=some (.stringIter s pos)
theorem eT.mono {Z q:Nat->Prop} {μ μ':Mu} {hp g:Array Obj} (m:iQ Z q μ μ' hp g) {id:Nat} {o:ct} (h:eT Z μ hp id o)
  (k:μ' id=μ id) (l:∀b o0 s,μ id=some (b,o0,s)->g[b]?=hp[b]?):eT q μ' g id o:=by
 cases o with
 | dead=>trivial
 | arr esz es =>
  intro b o0 s d
  rw[k] at d
  obtain⟨h1,⟨c,e,f,r,u,n⟩,p,v⟩:=h b o0 s d
  refine⟨h1,⟨c,e,f,by rw[l b o0 s d];exact r,u,n⟩,p,λi j hi w=>?_⟩
  obtain⟨x,z,A⟩:=v i j hi w
  exact⟨x,by rw[BG (l b o0 s d)];exact z,A.mono m⟩
 | map es clock =>
  intro b o0 s d
  rw[k] at d
  obtain⟨a,B,n,p⟩:=h b o0 s d
  refine⟨a,by rw[l b o0 s d];exact B,n,λi hi=>?_⟩
  obtain⟨y,C,D,k2,E⟩:=p i hi
  exact⟨y,C,D.mono m,k2.mono m,E⟩
 | Ac s pos =>
  intro b o0 t d
  rw[k] at d
  obtain⟨h1,F⟩:=h b o0 t d
  exact⟨h1,by rw[l b o0 t d];exact F⟩
structure eQ (Z:Nat->Prop) (μ:Mu) (hp:Array Obj) (H:View):Prop where
 obj:∀id,eT Z μ hp id (H id)
 inj:∀i j b o s o' s',i≠j->μ i=some (b,o,s)->μ j=some (b,o',s')->H i=.dead∨H j=.dead
 lt:∀id b o s,μ id=some (b,o,s)->b<hp.size
 de:∀b,Z b->b<hp.size
 iK:∀id b o s,μ id=some (b,o,s)->¬ Z b
def Mu.set (μ:Mu) (n:Nat) (x:Nat × Nat × Nat):Mu:=λid=>if id=n then some x else μ id
def View.set (H:View) (n:Nat) (o:ct):View:=λid=>if id=n then o else H id
def bq.view (H:View) (n:Nat):bq->View
 | .none=>H
 | .new o=>H.set n o
 | .fP id o=>H.set id o
 | .eW id o=>(H.set id .dead).set n o
structure fa (w w':World):Prop where
 os:w'.os=w.os
 tape:w'.tape=w.tape
 output:w'.output=w.output
 size:w.heap.size<=w'.heap.size
theorem fa.refl (w:World):fa w w:=⟨rfl,rfl,rfl,abg _⟩
theorem fa.trans {a b c:World} (h:fa a b) (k:fa b c):fa a c:=⟨k.os.trans h.os,k.tape.trans h.tape,k.output.trans h.output,abZ h.size k.size⟩
def hU (hp hp':Array Obj) (p:Nat->Prop):Prop:=∀b,b<hp.size->¬ p b->hp'[b]?=hp[b]?
def nB (Z:Nat->Prop) (μ μ':Mu) (hp hp':Array Obj) (n:Nat):bq->Prop
 | .none=>μ'=μ/\hU hp hp' (λ_=>False)
 | .new o=>∃b o0 s,hp.size<=b/\b<hp'.size/\μ'=μ.set n (b,o0,s)/\hU hp hp' (λ_=>False)/\eT Z μ' hp' n o
 | .fP id o=>∃b o0 s,μ id=some (b,o0,s)/\μ'=μ/\hU hp hp' (· = b)/\gu hp hp'/\eT Z μ' hp' id o
 | .eW id o=>∃b o0 s,μ'=μ.set n (b,o0,s)/\eT Z μ' hp' n o /\
  ((hp.size<=b/\b<hp'.size/\hU hp hp' (λ_=>False))∨((∃o1 s1,μ id=some (b,o1,s1))/\hU hp hp' (· = b)/\gu hp hp'))
theorem hU.mE {hp a:Array Obj} (h:hU hp a (λ_=>False)):gu hp a:=by
 intro b c e f g
 have d:b<hp.size:=by
  rcases abH b hp.size with h | h
  .exact h
  .simp[Array.getElem?_eq_none h] at g
 exact⟨c,f,by rw[h b d (λx=>x)];exact g,rfl⟩
theorem nB.mono {Z:Nat->Prop} {μ μ':Mu} {hp i:Array Obj} {n:Nat} {eff:bq} (h:nB Z μ μ' hp i n eff) (j:eff.fresh (μ n=none))
  (de:∀b,Z b->b<hp.size) (iK:∀id b o s,μ id=some (b,o,s)->¬ Z b):iQ Z Z μ μ' hp i:=by
 have c:μ n=none->∀x:Nat × Nat × Nat,∀id y,μ id=some y->(μ.set n x) id=some y:=by
  intro j x id y p
  by_cases k:id=n
  .subst k;simp[j] at p
  .simp[Mu.set,k,p]
 cases eff with
 | none =>
  obtain⟨rfl,d⟩:=h
  exact⟨λ_ h=>h,λb l=>d b (de b l) (λx=>x),λ_ _ h=>h,d.mE⟩
 | new o =>
  obtain⟨b,o0,s,_,_,rfl,d,_⟩:=h
  exact⟨λ_ h=>h,λb l=>d b (de b l) (λx=>x),c j _,d.mE⟩
 | fP id o =>
  obtain⟨b,o0,s,g,rfl,d,m,_⟩:=h
  exact⟨λ_ h=>h,λf a=>d f (de f a) (λe=>iK _ _ _ _ g (e▸a)),λ_ _ h=>h,m⟩
 | eW id o =>
  obtain⟨b,o0,s,rfl,_,h | ⟨⟨q,s1,g⟩,d,m⟩⟩:=h
  .exact⟨λ_ h=>h,λf a=>h.2.2 f (de f a) (λx=>x),c j _,h.2.2.mE⟩
  .exact⟨λ_ h=>h,λf a=>d f (de f a) (λe=>iK _ _ _ _ g (e▸a)),c j _,m⟩
theorem nB.size {Z:Nat->Prop} {μ μ':Mu} {hp d:Array Obj} {n:Nat} {eff:bq} (h:nB Z μ μ' hp d n eff) (lt:∀id b o s,μ id=some (b,o,s)->b<hp.size) (f:hp.size<=d.size):
  ∀id b o s,μ' id=some (b,o,s)->b<d.size:=by
 have hold:∀id b o s,μ id=some (b,o,s)->b<d.size:=λid b o s c=>abK (lt id b o s c) f
 cases eff with
 | none=>obtain⟨rfl,_⟩:=h;exact hold
 | new o =>
  obtain⟨b,o0,s,_,k,rfl,_,_⟩:=h
  intro id g i j c
  by_cases a:id=n
  .simp[Mu.set,a] at c;omega
  .simp[Mu.set,a] at c;exact hold _ _ _ _ c
 | fP id o=>obtain⟨b,o0,s,e,rfl,_⟩:=h;exact hold
 | eW id o =>
  obtain⟨b,o0,s,rfl,_,h | ⟨⟨l,s1,e⟩,_,_⟩⟩:=h
  all_goals
   intro id g i j c
   by_cases a:id=n
   .simp[Mu.set,a] at c
    first | omega | (obtain⟨rfl,_,_⟩:=c;exact hold _ _ _ _ e)
   .simp[Mu.set,a] at c;exact hold _ _ _ _ c
theorem eQ.eff {Z:Nat->Prop} {μ μ':Mu} {hp z:Array Obj} {H:View} {n:Nat} {eff:bq} (h:eQ Z μ hp H) (P:eff.fresh (μ n=none)) (L:hp.size<=z.size)
  (he:nB Z μ μ' hp z n eff) (K:∀id o,eff=.fP id o->H id≠.dead) (G:∀id o,eff=.eW id o->H id≠.dead):eQ Z μ' z (eff.view H n):=by
 have hm:=he.mono P h.de h.iK
 have m:=he.size h.lt L
 have A:∀b,Z b->b<z.size:=λb Q=>abK (h.de b Q) L
 cases eff with
 | none =>
  obtain⟨rfl,D⟩:=he
  exact⟨λid=>(h.obj id).mono hm rfl (λb o s c=>D b (h.lt _ _ _ _ c) (λx=>x)),h.inj,m,A,h.iK⟩
 | new o =>
  obtain⟨b,o0,s,R,S,rfl,D,t⟩:=he
  refine⟨λid=>?_,?_,m,A,?_⟩
  .by_cases a:id=n
   .subst a;simpa [bq.view,View.set] using t
   .have:=(h.obj id).mono hm (by simp[Mu.set,a]) (λb o s c=>D b (h.lt _ _ _ _ c) (λx=>x))
    simpa [bq.view,View.set,a] using this
  .intro i j d w y B C u hi q
   by_cases h1:i=n
   .by_cases r:j=n
    .omega
    .simp[Mu.set,h1] at hi;simp[Mu.set,r] at q
     have:=h.lt _ _ _ _ q;omega
   .by_cases r:j=n
    .simp[Mu.set,r] at q;simp[Mu.set,h1] at hi
     have:=h.lt _ _ _ _ hi;omega
    .simp[Mu.set,h1] at hi;simp[Mu.set,r] at q
     simpa [bq.view,View.set,h1,r] using h.inj i j d w y B C u hi q
  .intro id d w y c F
   by_cases h1:id=n
   .simp[Mu.set,h1] at c;have:=h.de _ F;omega
   .simp[Mu.set,h1] at c;exact h.iK _ _ _ _ c F
 | fP k o =>
  obtain⟨b,o0,s,g,rfl,D,T,t⟩:=he
  have hk:=K k o rfl
  refine⟨λid=>?_,?_,m,A,h.iK⟩
  .by_cases a:id=k
   .subst a;simpa [bq.view,View.set] using t
   .simp only[bq.view,View.set,a,if_false]
    by_cases I:H id=.dead
    .rw[I];trivial
    .refine(h.obj id).mono hm rfl (λd w y c=>D d (h.lt _ _ _ _ c) ?_)
     intro e
     subst e
     rcases h.inj id k _ _ _ _ _ a c g with h1 | h1
     .exact I h1
     .exact hk h1
  .intro i j d w y B C u hi q
   rcases h.inj i j _ _ _ _ _ u hi q with h1 | h1
   .by_cases e:i=k
    .exact absurd (e▸h1) hk
    .left;simpa [bq.view,View.set,e] using h1
   .by_cases e:j=k
    .exact absurd (e▸h1) hk
    .right;simpa [bq.view,View.set,e] using h1
 | eW k o =>
  obtain⟨b,o0,s,rfl,t,l⟩:=he
  have hk:=G k o rfl
  have v:(μ.set n (b,o0,s)) n=some (b,o0,s):=by simp[Mu.set]
  refine⟨λid=>?_,?_,m,A,?_⟩
  .by_cases a:id=n
   .subst a;simpa [bq.view,View.set] using t
   .by_cases f:id=k
    .simp only[bq.view,View.set,f,if_true]
     split<;>first | trivial | (rename_i e;exact absurd (f.trans e) a)
    .simp only[bq.view,View.set,a,if_false,f]
     by_cases I:H id=.dead
     .rw[I];trivial
     .refine(h.obj id).mono hm (by simp[Mu.set,a]) (λd w y c=>?_)
      rcases l with h1 | ⟨⟨M,s1,g⟩,D,_⟩
      .exact h1.2.2 d (h.lt _ _ _ _ c) (λx=>x)
      .refine D d (h.lt _ _ _ _ c) ?_
       intro e
       subst e
       rcases h.inj id k _ _ _ _ _ f c g with h1 | h1
       .exact I h1
       .exact hk h1
  .intro i j d w y B C u hi q
   have key:∀i d w y,i≠n->(μ.set n (b,o0,s)) i=some (d,w,y)->d=b->(bq.view H n (.eW k o)) i=.dead:=by
    intro p U V t1 J c e
    subst e
    simp only[Mu.set,aa9 J] at c
    simp only[bq.view,View.set,aa9 J]
    by_cases f:p=k
    .simp[f]
    .simp only[aa9 f]
     rcases l with h1 | ⟨⟨M,s1,g⟩,_,_⟩
     .have:=h.lt _ _ _ _ c;omega
     .rcases h.inj p k _ _ _ _ _ f c g with h1 | h1
      .exact h1
      .exact absurd h1 hk
   by_cases h1:i=n
   .have r:j≠n:=by omega
    right
    have E:d=b:=by
     rw[h1,v] at hi;simp at hi;exact hi.1.symm
    exact key j d B C r q E
   .by_cases r:j=n
    .left
     have E:d=b:=by
      rw[r,v] at q;simp at q;exact q.1.symm
     exact key i d w y h1 hi E
    .simp only[Mu.set,h1,if_false] at hi
     simp only[Mu.set,r,if_false] at q
     simp only[bq.view,View.set,h1,r,if_false]
     by_cases N:i=k
     .left;simp[N]
     .by_cases O:j=k
      .right;simp[O]
      .simp only[N,O,if_false]
       exact h.inj i j _ _ _ _ _ u hi q
  .intro id d w y c F
   by_cases h1:id=n
   .rw[h1,v] at c
    obtain⟨rfl,_,_⟩:=c
    rcases l with r | ⟨⟨M,s1,g⟩,_,_⟩
    .have:=h.de _ F;omega
    .exact h.iK _ _ _ _ g F
   .simp only[Mu.set,h1,if_false] at c
    exact h.iK _ _ _ _ c F
theorem yY {Z:Nat->Prop} {μ:Mu} {hp:Array Obj} {v:V} {x:Value} (h:aD Z μ hp v x) (a:aK v=true):x.oneCell'=true:=by
 cases h with
 | val _ b=>cases x<;>first | rfl | (simp[plain] at b)
 | any x=>simp[aK] at a
 | agg cs c h1 d=>simp[aK] at a
 | bc cs c h1 d=>simp[aK] at a
 | _=>rfl
theorem iC {Z:Nat->Prop} {μ:Mu} {hp:Array Obj} {v:V} {x:Value} (h:aD Z μ hp v x) (o:v.cells.all aK=true):gI Z μ hp v.cells x.cells.toList:=by
 have one:∀v x,aD Z μ hp v x->x.cells = #[x]->gI Z μ hp [v] x.cells.toList:=by
  intro v x h p
  rw[p]
  exact⟨rfl,λi hi=>by
   simp at hi;subst hi;simpa using h⟩
 cases h with
 | agg cs g h1 d =>
  refine⟨by simpa [V.cells,Value.cells] using h1,λi hi=>?_⟩
  have:=d i (by simpa [V.cells] using hi)
  simpa [V.cells,Value.cells,List.getD,abm] using this
 | any x=>simp[V.cells,aK] at o
 | bc cs g h1 d=>simp[V.cells,aK] at o
 | val _ m =>
  refine one _ _ (.val x m) ?_
  cases x<;>first | rfl | (simp[plain] at m)
 | emp k a h1 d=>exact one _ _ (.emp k a h1 d) rfl
 | eD a cap=>exact one _ _ (.eD a cap) rfl
 | jz a cap h1=>exact one _ _ (.jz a cap h1) rfl
 | aY es b off esz cap c h1 d l n q=>exact one _ _ (.aY es b off esz cap c h1 d l n q) rfl
 | rI id off esz a=>exact one _ _ (.rI id off esz a) rfl
 | sl id off len esz b o0 cap c e f h1 d l n=>exact one _ _ (.sl id off len esz b o0 cap c e f h1 d l n) rfl
 | ptr id i j b o0 esz h1=>exact one _ _ (.ptr id i j b o0 esz h1) rfl
 | aR e j b off c h1 d l=>exact one _ _ (.aR e j b off c h1 d l) rfl
 | mp id b o0 esz h1=>exact one _ _ (.mp id b o0 esz h1) rfl
 | fn f xs ys g r h1 d l n=>exact one _ _ (.fn f xs ys g r h1 d l n) rfl
theorem sn {P:Program} {t:TypeId} {i:TypeInfo} (h:P.info? t=some i) (w:World):(typeInfo t).run P w=.ok i w:=by
 simp[typeInfo,h]
theorem ec {P:Program} {t:TypeId} {i:TypeInfo} (h:P.info? t=some i) (w:World):(Go.sizeOf t).run P w=.ok i.size w:=by
 simp[Go.sizeOf,sn h]
theorem bE {P:Program} {t:TypeId} {d:TypeDesc} (h:P.underlying t=some d) (w:World):(underlying t).run P w=.ok d w:=by
 simp[underlying,h]
theorem lq {P:Program} {t:TypeId} {i:TypeInfo} {v:Value} (h:P.info? t=some i) (a:i.zero=some v) (w:World):(zeroValue t).run P w=.ok v w:=by
 simp[zeroValue,sn h,a]
theorem xm {P:Program} {t:TypeId} {b:Bool} (h:vp P t=some b) (w:World):(isAgg t).run P w=.ok b w:=by
 unfold vp at h
 cases hu:P.underlying t with
 | none=>grind
 | some d =>
  simp only[isAgg,Sem.run_bind,bE hu,Result.andThen_ok]
  cases d<;>simp_all
def J5 (Z:Nat->Prop) (μ:Mu) (hp:Array Obj) (b off:Nat) (cs:List V):Prop:=
 ∀k,k<cs.length->∃x,cellAt hp b (off+k)=some x/\aD Z μ hp (cs.getD k .any) x
theorem sL {α:Type} {P:Program}:∀(s:Sem α) {a:α},bo P s=some a->∀w,s.run P w=.ok a w:=by
 intro s
 induction s with
 | pure a=>intro c h w;simp[bo] at h;subst h;rfl
 | program k b=>intro a h w;simp only[bo] at h;simp only[Sem.run];exact b P h w
 | _=>grind [bo]
theorem qx {n:Nat} {p:Nat->Value->Prop} (h:∀k,k<n->∃x,p k x):∃f:Nat->Value,∀k,k<n->p k (f k):=by
 refine⟨λk=>if hk:k<n then Classical.choose (h k hk) else undef,λk hk=>?_⟩
 grind
theorem kO (b o n:Nat):Addr.add ⟨b,o,none⟩ n=⟨b,o+n,none⟩:=by
 unfold Addr.add;split
 all_goals grind
theorem xx {Z:Nat->Prop} {μ:Mu} {w:World} {P:Program} {b off j:Nat} {t:TypeId} {cs:List V} {v:V} (h:J5 Z μ w.heap b off cs) (hp:sM P t cs j=some v):
  ∃x,(loadVar t ⟨b,off+j,none⟩).run P w=.ok x w/\aD Z μ w.heap v x:=by
 unfold sM at hp
 cases hi:P.info? t with
 | none=>grind
 | some i =>
  cases c:vp P t with
  | none=>grind
  | some g =>
   simp only[hi,c] at hp
   cases g with
   | true =>
    simp only at hp
    split at hp
    .simp at hp;subst hp
     have d:∀k,k<i.size->∃x,cellAt w.heap b (off+(j+k))=some x/\aD Z μ w.heap (cs.getD (j+k) .any) x:=λk hk=>h (j+k) (by omega)
     obtain⟨f,e⟩:=qx d
     refine⟨.agg ((List.range i.size).map f).toArray,?_,?_⟩
     .simp only[loadVar,Sem.run_bind,xm c,Result.andThen_ok,if_true,ec hi]
      rw[run_loadCells w ⟨b,off+j,none⟩ i.size f (λk hk=>by rw[kO,jo,abP];exact(e k hk).1)]
      rfl
     .refine .agg _ _ (by simp;omega) (λk hk=>?_)
      have a:k<i.size:=by grind
      have:=(e k a).2
      simpa [List.getD,a,acn,acz,abm] using this
    .simp at hp
   | false =>
    simp only at hp
    split at hp
    .rename_i hle
     simp at hp;subst hp
     obtain⟨x,d,l⟩:=h j hle
     refine⟨x,?_,by simpa [List.getD] using l⟩
     simp only[loadVar,Sem.run_bind,xm c,Result.andThen_ok,abI,if_false,run_load,jo,d]
    .simp at hp
theorem CC {w:World} {b k:Nat} {v:Value} {c:Array Value} {e:TypeId} {f:Nat × Nat} (h:w.heap[b]?=some (.cells c e f)):
  w.setCell ⟨b,k,none⟩ v = { w with heap:=w.heap.setIfInBounds b (.cells (c.setIfInBounds k v) e f) }:=by
 unfold World.setCell
 congr 1
 apply Array.ext_getElem?
 intro i
 simp only[acP,acp]
 by_cases hi:b=i
 .grind
 .simp[hi]
theorem SP {w:World} {b k:Nat} {c:Array Value} {e:TypeId} {f:Nat × Nat} (h:w.heap[b]?=some (.cells c e f)) (a:¬ (f.1<=k/\k<f.2)):w.frozen? ⟨b,k,none⟩=false:=by
 simp only[World.frozen?,h]
 grind
theorem sB {c:Array Value} {f:Nat × Nat} (h:f.1=f.2∨c.size<=f.1):∀k,k<c.size->¬ (f.1<=k/\k<f.2):=by
 grind
theorem mo {P:Program} {b off:Nat} {e:TypeId} {f:Nat × Nat}:∀(xs:List Value) (i:Nat) (c:Array Value) (w:World),
  w.heap[b]?=some (.cells c e f)->(∀k,k<c.size->¬ (f.1<=k/\k<f.2))->off+i+xs.length<=c.size->(∀x∈xs,x.oneCell'=true) ->
  ∃d,(storeCells ⟨b,off,none⟩ xs i).run P w=.ok () { w with heap:=w.heap.setIfInBounds b (.cells d e f) }/\d.size=c.size /\
   ∀k,d[k]?=if off+i<=k/\k<off+i+xs.length then xs[k-(off+i)]? else c[k]?
 | [],i,c,w,h,_,_,_=>by
  refine⟨c,?_,rfl,λk=>?_⟩
  .simp only[storeCells,Sem.run_pure]
   congr 1
   have:w.heap.setIfInBounds b (.cells c e f)=w.heap:=by
    grind
   rw[this]
  .grind
 | x::xs,i,c,w,h,j,m,l=>by
  simp only[abl] at m
  have n:b<w.heap.size:=by
   grind
  have a:w.cell? ⟨b,off+i,none⟩=some c[off+i]:=by
   grind [jo,cellAt]
  have hw:(w.setCell ⟨b,off+i,none⟩ x).heap[b]?=some (.cells (c.setIfInBounds (off+i) x) e f):=by
   grind [CC]
  obtain⟨d,hr,g,o⟩:=mo (P:=P) (off:=off) (f:=f) xs (i+1) (c.setIfInBounds (off+i) x) (w.setCell ⟨b,off+i,none⟩ x) hw (λk hk=>j k (by simpa using hk)) (by simp;omega) (λy p=>l y (abx _ p))
  refine⟨d,?_,by simpa using g,λk=>?_⟩
  .simp only[storeCells,Sem.run_bind,kO]
   rw[run_store P w _ x _ (l x acg),a]
   simp only[SP h (j (off+i) (by omega)),abI,if_false,Result.andThen_ok]
   rw[hr]
   congr 1
   rw[CC h]
   simp[Array.setIfInBounds_setIfInBounds]
  .grind
theorem dO (hp:Array Obj) (b:Nat) (o:Obj):hU hp (hp.setIfInBounds b o) (· = b):=by
 intro k _ hk
 grind
theorem jW {hp:Array Obj} {b:Nat} {c a:Array Value} {e:TypeId} {f:Nat × Nat} (h:hp[b]?=some (.cells c e f)) (d:a.size=c.size):gu hp (hp.setIfInBounds b (.cells a e f)):=by
 intro k x e' g hk
 grind
theorem fg {hp:Array Obj} {b:Nat} {o:Obj} (h:b<hp.size):(hp.setIfInBounds b o)[b]?=some o:=by simp[h]
theorem fG {hp:Array Obj} {b:Nat} {o:Obj} (h:hp[b]?=some o):b<hp.size:=by
 grind
theorem AQ (l cs:List V) (j:Nat) (a:j+cs.length<=l.length):(gm l j cs).length=l.length:=by
 grind [gm]
theorem I6 (l cs:List V) (j k:Nat) (a:j+cs.length<=l.length) (h:j<=k/\k<j+cs.length):(gm l j cs).getD k .any=cs.getD (k-j) .any:=by
 grind [gm]
theorem Fu (l cs:List V) (j k:Nat) (a:j+cs.length<=l.length) (h:¬ (j<=k/\k<j+cs.length)):(gm l j cs).getD k .any=l.getD k .any:=by
 simp only[gm,aa7,ace]
 grind
theorem eT.store {Z:Nat->Prop} {μ:Mu} {w:World} {P:Program} {id b o0 s esz i j:Nat} {es:List (List V)} {cs:List V} {xs:List Value}
  (D:eT Z μ w.heap id (.arr esz es)) (u:μ id=some (b,o0,s)) (L:¬ Z b) (de:∀b,Z b->b<w.heap.size) (hi:i<es.length) (Q:j+cs.length<=esz) (hr:gI Z μ w.heap cs xs) (v:∀x∈xs,x.oneCell'=true):
  ∃w',(storeCells ⟨b,o0+i*esz+j,none⟩ xs).run P w=.ok () w'/\fa w w'/\hU w.heap w'.heap (· = b)/\gu w.heap w'.heap /\
   eT Z μ w'.heap id (.arr esz (es.set i (gm (es.getD i []) j cs))):=by
 obtain⟨rfl,⟨c,e,f,y,J,M⟩,hlen,l⟩:=D b o0 s u
 have hmul:(i+1)*s<=es.length*s:=abO _ hi
 have E:(i+1)*s=i*s+s:=by rw[abR];omega
 have K:=fG y
 obtain⟨B,z,n,F⟩:=mo (P:=P) (b:=b) (off:=o0+i*s+j) (e:=e) (f:=f) xs 0 c w y (sB J) (by rw[<-hr.1];omega) v
 have hm:iQ Z Z μ μ w.heap (w.heap.setIfInBounds b (.cells B e f)):=
  ⟨λ_ h=>h,λk hk=>dO w.heap b _ k (de k hk) (λe=>L (e▸hk)),λ_ _ h=>h,jW y n⟩
 refine⟨_,z,⟨rfl,rfl,rfl,by simp⟩,dO _ _ _,jW y n,?_⟩
 intro R S T o
 rw[u] at o
 simp only[abd,abz] at o
 obtain⟨rfl,rfl,rfl⟩:=o
 have N:(gm (es.getD i []) j cs).length=s:=by
  grind [AQ]
 have p:∀a,(es.set i (gm (es.getD i []) j cs)).getD a []=if a=i then gm (es.getD i []) j cs else es.getD a []:=by
  intro a
  simp only[aa7,ab1]
  by_cases h1:i=a
  .subst h1;simp[hi]
  .rw[aa9 h1,aa9 (λe=>h1 e.symm)]
 refine⟨rfl,⟨B,e,f,by simp[K],by rw[n];exact J,by simpa [n] using M⟩,?_,?_⟩
 .intro a q
  rw[p]
  split
  .exact N
  .exact hlen a (by simpa using q)
 .intro a g q A
  have m:a<es.length:=by simpa using q
  have C:(a+1)*s=a*s+s:=by rw[abR];omega
  have r:cellAt (w.heap.setIfInBounds b (.cells B e f)) b (o0+a*s+g)=B[o0+a*s+g]?:=by simp[cellAt,K]
  have d:cellAt w.heap b (o0+a*s+g)=c[o0+a*s+g]?:=by simp[cellAt,y]
  rw[r,F,p]
  by_cases t:a=i
  .subst t
   rw[abb rfl]
   by_cases G:j<=g/\g<j+cs.length
   .have hk:g-j<cs.length:=by omega
    have H:g-j<xs.length:=hr.1▸hk
    rw[abb (by rw[<-hr.1];omega),show o0+a*s+g-(o0+a*s+j+0)=g-j from by omega]
    refine⟨xs[g-j],by simp[H],?_⟩
    have:=(hr.2 (g-j) hk).mono hm
    grind [I6]
   .rw[aa9 (by rw[<-hr.1];omega)]
    obtain⟨x,o,I⟩:=l a g m A
    rw[d] at o
    refine⟨x,o,?_⟩
    have O:=hlen a m
    rw[Fu _ _ _ _ (by omega) G]
    exact I.mono hm
  .rw[aa9 t]
   have:¬ (o0+i*s+j+0<=o0+a*s+g/\o0+a*s+g<o0+i*s+j+0+xs.length):=by
    rw[<-hr.1]
    rcases Nat.lt_or_gt_of_ne t with h1 | h1
    .have:(a+1)*s<=i*s:=abO _ h1
     omega
    .have:(i+1)*s<=a*s:=abO _ h1
     omega
   rw[aa9 this]
   obtain⟨x,o,I⟩:=l a g m A
   rw[d] at o
   exact⟨x,o,I.mono hm⟩
theorem eT.newRow {Z:Nat->Prop} {μ:Mu} {hp:Array Obj} {n esz:Nat} {es:List (List V)} {c:Array Value} {e:TypeId}
  (l:μ n=none) (de:∀b,Z b->b<hp.size) (f:es.length*esz<=c.size) (hlen:∀i,i<es.length->(es.getD i []).length=esz)
  (h:∀i j,i<es.length->j<esz->∃x,c[i*esz+j]?=some x/\aD Z μ hp ((es.getD i []).getD j .any) x):
  eT Z (μ.set n (hp.size,0,esz)) (hp.push (.cells c e (0,0))) n (.arr esz es):=by
 intro b o0 s a
 simp only[Mu.set,if_true,abd,abz] at a
 obtain⟨rfl,rfl,rfl⟩:=a
 have hm:iQ Z Z μ (μ.set n (hp.size,0,esz)) hp (hp.push (.cells c e (0,0))):=by
  refine⟨λ_ h=>h,λb d=>?_,λid x a=>?_,?_⟩
  .have:=de b d
   rw[acX,aa9 (by omega)]
  .grind [Mu.set]
  .intro b m e' o d
   grind [fG]
 refine⟨rfl,⟨c,e,(0,0),by simp,.inl rfl,by simpa using f⟩,hlen,λi j hi g=>?_⟩
 obtain⟨x,a,k⟩:=h i j hi g
 exact⟨x,by simp[cellAt,a],k.mono hm⟩
theorem fK (hp:Array Obj) (o:Obj):hU hp (hp.push o) (λ_=>False):=by
 intro k hk _
 rw[acX,aa9 (by omega)]
structure Ctx (Z:Nat->Prop) (μ:Mu) (hp:Array Obj) (H:View) (rd:List Nat) (n:Nat) (eff:bq):Prop where
 new:eff.fresh (μ n=none)
 obj:∀id,id∈rd->eT Z μ hp id (H id)
 lt:∀id b o s,μ id=some (b,o,s)->b<hp.size
 de:∀b,Z b->b<hp.size
 iK:∀id b o s,μ id=some (b,o,s)->¬ Z b
def bt (Z:Nat->Prop) (μ:Mu) (w:World) (n:Nat) (v:V) (eff:bq) (r:Result Next):Prop:=
 ∃nx w' μ',r=.ok nx w'/\((∃x,nx=.value x/\aD Z μ' w'.heap v x)∨(nx=.skip/\v=.any))/\fa w w'/\nB Z μ μ' w.heap w'.heap n eff
section
variable {Z:Nat->Prop} {μ μ':Mu} {w w':World} {P:Program} {H:View} {n:Nat} {v:V} {eff:bq} {rd:List Nat}
theorem jL:nB Z μ μ w.heap w.heap n .none:=⟨rfl,λ_ _ _=>rfl⟩
theorem bt.value {s:Sem Value} {x:Value} (hr:s.run P w=.ok x w') (a:aD Z μ' w'.heap v x) (b:fa w w') (he:nB Z μ μ' w.heap w'.heap n eff):
  bt Z μ w n v eff ((do pure (Next.value (<-s)):Sem Next).run P w):=
 ⟨.value x,w',μ',by simp[hr],.inl ⟨x,rfl,a⟩,b,he⟩
theorem bt.here {s:Sem Value} {x:Value} (hr:s.run P w=.ok x w) (a:aD Z μ w.heap v x):bt Z μ w n v .none ((do pure (Next.value (<-s)):Sem Next).run P w):=
 bt.value hr a (fa.refl w) jL
theorem bt.skip {s:Sem Unit} (hr:s.run P w=.ok () w') (a:fa w w') (he:nB Z μ μ' w.heap w'.heap n eff):
  bt Z μ w n .any eff ((do s;pure Next.skip:Sem Next).run P w):=
 ⟨.skip,w',μ',by simp[hr],.inr ⟨rfl,rfl⟩,a,he⟩
theorem Ae (x:Value):aD Z μ w.heap (pX x) x:=by
 cases x with
 | slice a len cap =>
  cases a with
  | none =>
   cases len with
   | zero=>cases cap with
    | zero=>exact .emp 1 none (λ_=>rfl) (λh=>by simp at h)
    | succ c=>exact .any _
   | succ l=>exact .any _
  | some a=>exact .any _
 | _ =>
  simp only[pX]
  split
  .rename_i h;exact .val _ h
  .exact .any _
theorem iD (x:Value):aD Z μ w.heap (gz x) x:=by
 cases x with
 | agg cs =>
  refine .agg _ _ (by simp) (λi hi=>?_)
  have c:i<cs.size:=by grind
  simpa [c] using Ae cs[i]
 | func fn a b =>
  cases fn with
  | func f =>
   simp only[gz]
   split
   .rename_i h
    exact .fn _ _ _ _ _ h.1.symm h.2.symm (λi hi=>by simp at hi) (λi hi=>by simp at hi)
   .exact .any _
  | _=>grind [gz,Ae]
 | _=>grind [gz,Ae]
theorem heap_alloc (w:World) (o:Obj):(w.alloc o).heap=w.heap.push o:=rfl
theorem ja (w:World) (o:Obj):fa w (w.alloc o):=⟨rfl,rfl,rfl,by rw[heap_alloc];simp⟩
theorem tc {v:V} {x y:Value} (h:aD Z μ w.heap v x) (f:dI v=some y):y=x:=by
 have d:∀(cs:List V) (l:List Value),yI cs=some l->∀(xs:List Value),cs.length=xs.length->(∀i,i<cs.length->aD Z μ w.heap (cs.getD i .any) (xs.getD i undef))->l=xs:=by
  intro cs
  induction cs with
  | nil=>grind [yI]
  | cons c r m =>
   intro l e xs j hr
   cases xs with
   | nil=>simp at j
   | cons x xs =>
    simp only[yI] at e
    split at e
    .rename_i a b k n
     simp at e;subst e
     have o:=hr 0 (by simp)
     have:=m b n xs (by simpa using j) (λi hi=>by simpa using hr (i+1) (by simpa using hi))
     subst this
     cases c<;>simp[toCell] at k
     subst k
     cases o;rfl
    .simp at e
 cases v with
 | val a=>simp[dI] at f;subst f;cases h;rfl
 | agg cs =>
  simp only[dI,abj] at f
  obtain⟨l,e,rfl⟩:=f
  cases h with
  | agg _ g h1 p =>
   have:=d cs l e g.toList (by simpa using h1) (λi hi=>by simpa [aa7,abm] using p i hi)
   subst this;simp
 | _=>simp[dI] at f
theorem pj {id i j:Nat} {x:Value} (h:aD Z μ w.heap (.ptr id i j) x):∃b o0 esz,μ id=some (b,o0,esz)/\x=.pointer (some ⟨b,o0+i*esz+j,none⟩):=by
 cases h with | ptr _ _ _ b o0 esz hm=>exact⟨b,o0,esz,hm,rfl⟩
theorem vC {e:List V} {j:Nat} {x:Value} (h:aD Z μ w.heap (.aR e j) x):∃b off,Z b/\J5 Z μ w.heap b off e/\x=.pointer (some ⟨b,off+j,none⟩):=by
 cases h with | aR _ _ b off c a h1 d=>exact⟨b,off,a,λk hk=>⟨c k,h1 k hk,d k hk⟩,rfl⟩
theorem C8 {e:List V} {j b off:Nat} (c:Z b) (h:J5 Z μ w.heap b off e):aD Z μ w.heap (.aR e j) (.pointer (some ⟨b,off+j,none⟩)):=by
 obtain⟨f,a⟩:=qx h
 exact .aR e j b off f c (λk hk=>(a k hk).1) (λk hk=>(a k hk).2)
theorem rowOf {id i b o0 s esz:Nat} {es:List (List V)} (a:eT Z μ w.heap id (.arr esz es)) (c:μ id=some (b,o0,s)) (hi:i<es.length):
  s=esz/\J5 Z μ w.heap b (o0+i*s) (es.getD i []):=by
 obtain⟨rfl,_,d,e⟩:=a b o0 s c
 refine⟨rfl,λk hk=>?_⟩
 rw[d i hi] at hk
 exact e i k hi hk
theorem Wu {t:TypeId} {a:V} {x:Value} (h:oM P t a H=some (v,eff,rd)) (m:aD Z μ w.heap a x) (c:Ctx Z μ w.heap H rd n eff):
  bt Z μ w n v eff ((do pure (Next.value (<-Instr.loadAt t x)):Sem Next).run P w):=by
 unfold oM at h
 split at h
 .rename_i id i j
  obtain⟨b,o0,esz,hm,rfl⟩:=pj m
  split at h
  .rename_i e es hH
   split at h
   .rename_i hi
    simp only[abj] at h
    obtain⟨v',d,h⟩:=h
    obtain⟨rfl,rfl,rfl⟩:=h
    have f:=c.obj id (by simp)
    rw[hH] at f
    obtain⟨y,k,l⟩:=xx (P:=P) (rowOf f hm hi).2 d
    exact bt.here (by simp[Instr.loadAt,Instr.sureAddr,k]) l
   .simp at h
  .simp at h
 .obtain⟨b,off,o,g,rfl⟩:=vC m
  simp only[abj] at h
  obtain⟨v',d,h⟩:=h
  obtain⟨rfl,rfl,rfl⟩:=h
  obtain⟨y,k,l⟩:=xx (P:=P) g d
  exact bt.here (by simp[Instr.loadAt,Instr.sureAddr,k]) l
 .simp at h
theorem Ak {t:TypeId} {i:TypeInfo} (h:P.info? t=some i):P.cellsOf t=i.size:=by simp[Program.cellsOf,h]
theorem Yu {cs:List V} {xs:List Value} (h:gI Z μ w.heap cs xs) (c:cs.all aK=true):∀x∈xs,x.oneCell'=true:=by
 intro x b
 obtain⟨i,hi,rfl⟩:=acY b
 have a:i<cs.length:=h.1▸hi
 have:=h.2 i a
 simp only[aa7,aa8 hi,aa8 a,abp] at this
 grind [yY]
theorem Tn {t:TypeId} {a b:V} {x y:Value} (h:tn P t a b H=some (v,eff,rd)) (l:aD Z μ w.heap a x) (m:aD Z μ w.heap b y) (c:Ctx Z μ w.heap H rd n eff):
  bt Z μ w n v eff ((do Instr.storeAt t x y;pure Next.skip:Sem Next).run P w):=by
 unfold tn at h
 split at h
 .rename_i id i j
  obtain⟨k,o0,s,hm,rfl⟩:=pj l
  split at h
  .rename_i esz es hH
   split at h
   .rename_i o
    obtain⟨hi,hlen,p,f,d⟩:=o
    obtain⟨rfl,rfl,rfl⟩:=h
    have e:=c.obj id (by simp)
    rw[hH] at e
    have q:=(e k o0 s hm).1
    subst q
    have hr:=iC m f
    obtain⟨w',h1,r,u,z,A⟩:=e.store (P:=P) hm (c.iK _ _ _ _ hm) c.de hi p hr (Yu hr f)
    obtain⟨ti,g⟩:=Option.isSome_iff_exists.1 d
    refine bt.skip ?_ r ⟨k,o0,s,hm,rfl,u,z,A⟩
    have:y.cells.size=ti.size:=by rw[<-Ak g,<-hlen,hr.1];simp
    simp[Instr.storeAt,Instr.sureAddr,storeVar,ec g,this,h1]
   .simp at h
  .simp at h
 .simp at h
theorem O9 {cs:List V} {x:Value} {t:TypeId} (h:nL cs n=some (v,eff,rd)) (hr:cs.all aK=true->gI Z μ w.heap cs x.cells.toList) (c:Ctx Z μ w.heap H rd n eff):
  bt Z μ w n v eff ((do pure (Next.value (.pointer (some (<-newVar t x)))):Sem Next).run P w):=by
 unfold nL at h
 split at h
 .rename_i a
  obtain⟨rfl,rfl,rfl⟩:=h
  have hr:=hr a
  refine⟨.value (.pointer (some ⟨w.heap.size,0,none⟩)),w.alloc (.cells x.cells t),μ.set n (w.heap.size,0,cs.length),by simp[newVar,newRow],.inl ⟨_,rfl,?_⟩,ja _ _,?_⟩
  .have:=aD.ptr (Z:=Z) (μ:=μ.set n (w.heap.size,0,cs.length)) (hp:=(w.alloc (.cells x.cells t)).heap) n 0 0 w.heap.size 0 cs.length (by simp[Mu.set])
   grind
  .refine⟨w.heap.size,0,cs.length,abg _,by rw[heap_alloc];simp,rfl,fK _ _,?_⟩
   refine eT.newRow c.new c.de (by rw[hr.1];simp) (λi hi=>by simp at hi;subst hi;simp) (λi j hi b=>?_)
   simp at hi;subst hi
   have d:j<x.cells.size:=by have:=hr.1;simp at this;omega
   have:=hr.2 j b
   grind
 .simp at h
theorem xU {t:TypeId} {f off s:Nat} {a:TypeId} (h:sk P t f=some (off,s,a)):
  ∃b x i,P.underlying t=some (.struct b)/\b[f]?=some x/\P.info? x.type=some i/\off=x.offset/\s=i.size/\a=x.type:=by
 unfold sk at h
 split at h
 .grind
 .simp at h
theorem JV {t:TypeId} {a:V} {x:Value} {f:Nat} (h:nr P t a f=some (v,eff,rd)) (g:aD Z μ w.heap a x):
  bt Z μ w n v eff ((do pure (Next.value (<-Instr.fieldAt t x f)):Sem Next).run P w):=by
 unfold nr at h
 split at h
 .rename_i off s p d
  obtain⟨q,fd,i,hu,e,hi,rfl,rfl,rfl⟩:=xU d
  split at h
  .simp at h
  .rename_i l
   have c:∀b o,(Instr.fieldAt t (.pointer (some ⟨b,o,none⟩)) f).run P w=.ok (.pointer (some ⟨b,o+fd.offset,none⟩)) w:=by
    simp[Instr.fieldAt,bE hu,e,Instr.sureAddr,fieldPlace,ec hi,l,kO]
   split at h
   .rename_i id m j
    obtain⟨b,o0,esz,hm,rfl⟩:=pj g
    obtain⟨rfl,rfl,rfl⟩:=h
    refine bt.here (c _ _) ?_
    have:=aD.ptr (Z:=Z) (μ:=μ) (hp:=w.heap) id m (j+fd.offset) b o0 esz hm
    grind
   .obtain⟨b,off,r,k,rfl⟩:=vC g
    grind [bt.here,C8]
   .simp at h
 .simp at h
theorem Xz {t:TypeId} {cs:List V} {a:Array Value} {off:Nat} (h:sM P t cs off=some v) (h1:cs.length=a.size) (e:∀i,i<cs.length->aD Z μ w.heap (cs.getD i .any) (a.getD i undef)):
  ∃x,(part t a off).run P w=.ok x w/\aD Z μ w.heap v x:=by
 unfold sM at h
 cases hi:P.info? t with
 | none=>grind
 | some i =>
  cases c:vp P t with
  | none=>grind
  | some g =>
   simp only[hi,c] at h
   cases g with
   | true =>
    simp only at h
    split at h
    .simp at h;subst h
     refine⟨.agg (a.extract off (off+i.size)),by simp[part,xm c,ec hi],?_⟩
     refine .agg _ _ (by simp;omega) (λk hk=>?_)
     have d:k<i.size:=by grind
     have:=e (off+k) (by omega)
     simp only[aa7,abm,acn,acz,d,if_true,Array.getElem?_extract] at this ⊢
     grind
    .simp at h
   | false =>
    simp only at h
    split at h
    .rename_i hle
     simp at h;subst h
     have:=e off hle
     have b:off<a.size:=h1▸hle
     refine⟨a[off],by simp[part,xm c,b],?_⟩
     simpa [aa7,abm,b] using this
    .simp at h
theorem Rm {t:TypeId} {a:V} {x:Value} {f:Nat} (h:yU P t a f=some (v,eff,rd)) (e:aD Z μ w.heap a x):
  bt Z μ w n v eff ((do pure (Next.value (<-Instr.field t x f)):Sem Next).run P w):=by
 unfold yU at h
 split at h
 .rename_i off s m cs b
  obtain⟨o,fd,i,hu,c,hi,rfl,rfl,rfl⟩:=xU b
  simp only[abj] at h
  obtain⟨v',d,h⟩:=h
  obtain⟨rfl,rfl,rfl⟩:=h
  cases e with
  | agg _ g h1 j =>
   obtain⟨y,k,l⟩:=Xz (P:=P) d h1 j
   exact bt.here (by simp[Instr.field,bE hu,c,asAgg,k]) l
 .simp at h
theorem mn {a:V} {q:Nat} (h:asNat a=some q):∃k,a=.val (.int k q):=by
 unfold asNat at h
 grind
theorem fi {y x:Value} (h:aD Z μ w.heap (.val y) x):x=y:=by cases h;rfl
theorem JL {t:TypeId} {a i:V} {x y:Value} (h:nk P t a i=some (v,eff,rd)) (r:aD Z μ w.heap a x) (s:aD Z μ w.heap i y):
  bt Z μ w n v eff ((do pure (Next.value (<-Instr.indexAt t x y)):Sem Next).run P w):=by
 unfold nk at h
 split at h
 .simp at h
 .rename_i q B
  obtain⟨k,rfl⟩:=mn B
  have s:=fi s
  subst s
  split at h
  .rename_i e hu
   split at h
   .simp at h
   .rename_i ti g
    split at h
    .rename_i id off len esz
     split at h
     .rename_i m
      obtain⟨d,rfl⟩:=m
      obtain⟨rfl,rfl,rfl⟩:=h
      cases r with
      | rI=>omega
      | sl _ _ _ _ b o0 cap c e' f hm hle D E =>
       refine bt.here (x:=.pointer (some ⟨b,o0+off*ti.size+q*ti.size,none⟩)) ?_ ?_
       .simp[Instr.indexAt,asIntOf,bE hu,ec g,kO,d]
       .have:=aD.ptr (Z:=Z) (μ:=μ) (hp:=w.heap) id (off+q) 0 b o0 ti.size hm
        grind
     .simp at h
    .split at h
     .rename_i m
      obtain⟨d,u⟩:=m
      obtain⟨rfl,rfl,rfl⟩:=h
      cases r with
      | jz=>simp at d
      | aY _ b off esz cap c z hle l m C =>
       have o:esz=ti.size:=(l q d).symm.trans u
       subst o
       refine bt.here (x:=.pointer (some ⟨b,off+q*ti.size+0,none⟩)) ?_ ?_
       .simp[Instr.indexAt,asIntOf,bE hu,ec g,kO,d]
       .exact C8 z (λk hk=>⟨c q k,m q k d (by rw[l q d] at hk;exact hk),C q k d (by rw[l q d] at hk;exact hk)⟩)
     .simp at h
    .simp at h
  .rename_i len e hu
   split at h
   .simp at h
   .rename_i ti g
    split at h
    .rename_i d
     split at h
     .rename_i id A j
      obtain⟨b,o0,esz,hm,rfl⟩:=pj r
      obtain⟨rfl,rfl,rfl⟩:=h
      refine bt.here (x:=.pointer (some ⟨b,o0+A*esz+j+q*ti.size,none⟩)) ?_ ?_
      .simp[Instr.indexAt,Instr.sureAddr,asIntOf,bE hu,ec g,kO,d]
      .have:=aD.ptr (Z:=Z) (μ:=μ) (hp:=w.heap) id A (j+q*ti.size) b o0 esz hm
       grind
     .rename_i e' j
      obtain⟨b,off,z,p,rfl⟩:=vC r
      obtain⟨rfl,rfl,rfl⟩:=h
      refine bt.here (x:=.pointer (some ⟨b,off+j+q*ti.size,none⟩)) ?_ ?_
      .simp[Instr.indexAt,Instr.sureAddr,asIntOf,bE hu,ec g,kO,d]
      .have:=C8 (w:=w) (j:=j+q*ti.size) z p
       grind
     .simp at h
    .simp at h
  .simp at h
end
section
variable {Z:Nat->Prop} {μ μ':Mu} {w w':World} {P:Program} {H:View} {n:Nat} {v:V} {eff:bq} {rd:List Nat}
def CG (Z:Nat->Prop) (μ:Mu) (hp:Array Obj):Option V->Option Value->Prop
 | none,none=>True
 | some v,some x=>aD Z μ hp v x
 | _,_=>False
theorem gS {o:Option V} {a:Option Value} {d q:Nat} (h:bound d o=some q) (b:CG Z μ w.heap o a):(a=none/\q=d)∨∃k,a=some (.int k q):=by
 cases o with
 | none=>cases a with
  | none=>simp[bound] at h;exact .inl ⟨rfl,h.symm⟩
  | some x=>exact b.elim
 | some v=>cases a with
  | none=>exact b.elim
  | some x =>
   obtain⟨k,rfl⟩:=mn h
   exact .inr ⟨k,by rw[fi b]⟩
theorem eM {a:V} {x:Value} {m:Nat} (h:aD Z μ w.heap a x) (hm:cE a=some m):∃ad cap,x=.slice ad m cap/\m<=cap:=by
 cases h with
 | emp k a=>simp[cE] at hm;subst hm;exact⟨_,_,rfl,abg _⟩
 | eD a cap=>simp[cE] at hm;subst hm;exact⟨_,_,rfl,aco _⟩
 | jz a cap=>simp[cE] at hm;subst hm;exact⟨_,_,rfl,aco _⟩
 | aY es b off esz cap c i hle d j l=>simp[cE] at hm;subst hm;exact⟨_,_,rfl,hle⟩
 | rI id off esz a=>simp[cE] at hm;subst hm;exact⟨_,_,rfl,abg _⟩
 | sl id off len esz b o0 cap c e f g hle n o=>simp[cE] at hm;subst hm;exact⟨_,_,rfl,hle⟩
 | _=>simp[cE] at hm
theorem qV {len cap l h:Nat} {lo hi:Option Value} (a:(lo=none/\l=0)∨∃k,lo=some (.int k l)) (b:(hi=none/\h=len)∨∃k,hi=some (.int k h)) (h1:l<=h) (c:h<=cap):
  (Instr.sliceBounds true len cap lo hi none).run P w=.ok (l,h,cap) w:=by
 rcases a with ⟨rfl,rfl⟩ | ⟨k,rfl⟩<;>rcases b with ⟨rfl,rfl⟩ | ⟨d,rfl⟩<;>simp[Instr.sliceBounds,Instr.sliceBound,asIntOf,h1,c]
theorem Sv {t:TypeId} {a:V} {x:Value} {lo hi O:Option V} {s u y:Option Value} (h:vK P t a lo hi O=some (v,eff,rd)) (A:aD Z μ w.heap a x)
  (z:CG Z μ w.heap lo s) (q:CG Z μ w.heap hi u) (C:CG Z μ w.heap O y):
  bt Z μ w n v eff ((do pure (Next.value (<-Instr.sliceAt t x s u y)):Sem Next).run P w):=by
 unfold vK at h
 cases hu:dg P t with
 | none=>simp[hu] at h
 | some e =>
  have E:P.underlying t=some (.slice e):=by
   unfold dg at hu;split at hu<;>simp_all
  cases D:P.info? e with
  | none=>simp[hu,D] at h
  | some ti =>
   simp only[hu,D] at h
   have g:∀ad len cap l r m,(Instr.sliceBounds true len cap s u y).run P w=.ok (l,r,m) w ->
     (Instr.sliceAt t (.slice ad len cap) s u y).run P w=.ok (.slice (if m=l then ad else ad.map (·.add (l*ti.size))) (r-l) (m-l)) w:=by
    intro ad len cap l r m Q
    simp[Instr.sliceAt,Instr.slice,bE E,Q,ec D]
   cases O with
   | some m =>
    cases y with
    | none=>exact C.elim
    | some m' =>
     simp only at h
     split at h
     .rename_i o p R
      split at h
      .simp at h
      .rename_i F
       obtain⟨k3,rfl⟩:=mn R
       have S:=fi C
       subst S
       have G:∀len cap,(Instr.sliceBounds true len cap s u (some (.int k3 ((0:Nat):Int)))).run P w=.ok (0,0,0) w:=by
        rcases gS o z with ⟨rfl,_⟩ | ⟨k,rfl⟩<;>rcases gS p q with ⟨rfl,_⟩ | ⟨k',rfl⟩
        .cases hi with
         | none=>simp at F
         | some _=>exact q.elim
        .simp[Instr.sliceBounds,Instr.sliceBound,asIntOf]
        .cases hi with
         | none=>simp at F
         | some _=>exact q.elim
        .simp[Instr.sliceBounds,Instr.sliceBound,asIntOf]
       have fin:∀ad len cap,aD Z μ w.heap a (.slice ad len cap)->x=.slice ad len cap->bt Z μ w n (.emp 0) .none ((do pure (Next.value (<-Instr.sliceAt t x s u (some (.int k3 ((0:Nat):Int))))):Sem Next).run P w):=by
        intro ad len cap _ d
        subst d
        refine bt.here (g ad len cap 0 0 0 (G len cap)) ?_
        simpa using aD.emp (Z:=Z) (μ:=μ) (hp:=w.heap) 0 ad (by simp) (by simp)
       split at h
       .obtain⟨rfl,rfl,rfl⟩:=h
        obtain⟨ad,cap,d,_⟩:=eM A rfl
        exact fin _ _ _ (d▸A) d
       .obtain⟨rfl,rfl,rfl⟩:=h
        obtain⟨ad,cap,d,_⟩:=eM A rfl
        exact fin _ _ _ (d▸A) d
       .obtain⟨rfl,rfl,rfl⟩:=h
        obtain⟨ad,cap,d,_⟩:=eM A rfl
        exact fin _ _ _ (d▸A) d
       .obtain⟨rfl,rfl,rfl⟩:=h
        obtain⟨ad,cap,d,_⟩:=eM A rfl
        exact fin _ _ _ (d▸A) d
       .simp at h
     .simp at h
   | none =>
    cases y with
    | some _=>exact C.elim
    | none =>
     simp only at h
     split at h
     .rename_i id off len esz
      split at h
      .rename_i l r o p
       split at h
       .rename_i T
        obtain⟨h1,N,rfl⟩:=T
        obtain⟨rfl,rfl,rfl⟩:=h
        cases A with
        | rI _ _ _ ad =>
         obtain rfl:l=0:=by omega
         obtain rfl:r=0:=by omega
         refine bt.here (g ad 0 0 0 0 0 (qV (gS o z) (gS p q) (by omega) (by omega))) ?_
         simpa using aD.rI (Z:=Z) (μ:=μ) (hp:=w.heap) id (off+0) ti.size ad
        | sl _ _ _ _ b o0 cap c e' f hm hle Q hs =>
         refine bt.here (g _ len cap l r cap (qV (gS o z) (gS p q) h1 (by omega))) ?_
         by_cases H:cap=l
         .have e1:r-l=0:=by omega
          have e2:cap-l=0:=by omega
          rw[abb H,e1,e2]
          exact aD.rI _ _ _ _
         .rw[aa9 H]
          simp only[abk,kO]
          have:=aD.sl (Z:=Z) (μ:=μ) (hp:=w.heap) id (off+l) (r-l) ti.size b o0 (cap-l) c e' f hm (by omega) Q (by rw[show off+l+(cap-l)=off+cap from by omega];exact hs)
          simpa [abR,abP] using this
       .simp at h
      .simp at h
     .rename_i es
      split at h
      .rename_i l r o p
       split at h
       .rename_i T
        obtain⟨h1,N,I⟩:=T
        obtain⟨rfl,rfl,rfl⟩:=h
        cases A with
        | jz ad cap U =>
         simp at N
         obtain rfl:r=0:=by omega
         obtain rfl:l=0:=by omega
         refine bt.here (g ad 0 cap 0 0 cap (qV (gS o z) (gS p q) (by omega) (by omega))) ?_
         refine aD.jz _ _ (λhn=>?_)
         by_cases J:cap=0
         .omega
         .rw[aa9 J] at hn
          cases ad with
          | none=>exact absurd (U rfl) J
          | some a=>simp at hn
        | aY _ b off esz cap c hz hle K W hv =>
         refine bt.here (g _ es.length cap l r cap (qV (gS o z) (gS p q) h1 (by omega))) ?_
         by_cases X:l=r
         .subst X
          simpa using aD.jz (Z:=Z) (μ:=μ) (hp:=w.heap) (if cap=l then some ⟨b,off,none⟩ else some (Addr.add ⟨b,off,none⟩ (l*ti.size))) (cap-l) (by split<;>simp)
         .have L:0<es.length:=by omega
          have M:esz=ti.size:=by
           have h0:=K 0 L
           have:=abC.1 I (es[0]) (abe _)
           simp at this
           simp[L] at h0
           omega
          subst M
          rw[aa9 (by omega)]
          simp only[abk,kO]
          have hlen:((es.drop l).take (r-l)).length=r-l:=by simp;omega
          have B:∀i,i<r-l->((es.drop l).take (r-l)).getD i []=es.getD (l+i) []:=by
           intro i hi
           simp[hi]
          have:=aD.aY (Z:=Z) (μ:=μ) (hp:=w.heap) ((es.drop l).take (r-l)) b (off+l*ti.size) ti.size (cap-l) (λi j=>c (l+i) j) hz (by omega)
           (λi hi=>by rw[hlen] at hi;rw[B i hi];exact K _ (by omega))
           (λi j hi Y=>by
            have:=W (l+i) j (by omega) Y
            rw[abR] at this
            rw[<-this];congr 1;omega)
           (λi j hi Y=>by rw[hlen] at hi;rw[B i hi];exact hv _ _ (by omega) Y)
          rw[hlen] at this
          exact this
       .simp at h
      .simp at h
     .split at h
      .rename_i o p
       obtain⟨rfl,rfl,rfl⟩:=h
       cases A with
       | emp _ ad h1 N =>
        refine bt.here (g ad 0 0 0 0 0 (qV (gS o z) (gS p q) (by omega) (by omega))) ?_
        simpa using aD.emp (Z:=Z) (μ:=μ) (hp:=w.heap) _ ad h1 N
      .simp at h
     .simp at h
theorem wrap_small {q:Nat} (h:q<aE):IntKind.i64.wrap (q:Int)=q:=by
 unfold aE at h
 exact IntWalk.i64_in _ (by omega)
theorem jJ {t:TypeId} {i:TypeInfo} {z:List V} (hi:P.info? t=some i) (h:zeroCells P t=some z):∃a,i.zero=some a/\z=(gz a).cells:=by
 unfold zeroCells at h
 simp only[hi] at h
 cases b:i.zero with
 | none=>simp[b] at h
 | some a=>simp[b] at h;exact⟨a,rfl,h.symm⟩
theorem gO {i j s l:Nat} (hi:i<l) (a:j<s):i*s+j<l*s:=by
 have:(i+1)*s<=l*s:=abO _ hi
 rw[abR] at this;omega
theorem JS {t:TypeId} {a b:V} {x y:Value} (h:nz P t a b n=some (v,eff,rd)) (C:aD Z μ w.heap a x) (D:aD Z μ w.heap b y) (c:Ctx Z μ w.heap H rd n eff):
  bt Z μ w n v eff ((do pure (Next.value (<-Instr.makeSlice t x y)):Sem Next).run P w):=by
 unfold nz at h
 cases hu:dg P t with
 | none=>simp[hu] at h
 | some e =>
  have r:P.underlying t=some (.slice e):=by
   unfold dg at hu;split at hu<;>simp_all
  cases d:P.info? e with
  | none=>simp[hu,d] at h
  | some ti =>
   simp only[hu,d] at h
   split at h
   .rename_i l f L M
    obtain⟨N,rfl⟩:=mn L
    obtain⟨k2,rfl⟩:=mn M
    have C:=fi C
    have D:=fi D
    subst C D
    split at h
    .rename_i m
     obtain⟨h1,O,Q⟩:=m
     have R:IntKind.i64.wrap (l:Int)=l:=wrap_small (by omega)
     have S:IntKind.i64.wrap (f:Int)=f:=wrap_small O
     have g1:¬ (((ti.bytes:Int)*(f:Int))>2 ^ 48):=by
      have:((ti.bytes*f:Nat):Int)<2 ^ 48:=by unfold aE at Q;omega
      push_cast at this;omega
     have k:∀s:Array Value,(f*ti.size=0/\s = #[])∨(f*ti.size≠0/\∃g,(zeroValue e).run P w=.ok g w/\s=g.cells) ->
       (Instr.makeSlice t (.int N (l:Int)) (.int k2 (f:Int))).run P w=.ok (.slice (some ⟨w.heap.size,0,none⟩) l f) (w.alloc (.cells ((Array.range (f*ti.size)).map (s[· % s.size]!)) e)):=by
      intro s E
      have g2:¬ ((f:Int)<0):=by omega
      have g3:¬ ((l:Int)<0):=by omega
      have g4:¬ ((l:Int)>(f:Int)):=by omega
      simp only[Instr.makeSlice,Sem.run_bind,bE r,Result.andThen_ok,asInt,asIntOf,Sem.run_pure,sn d,R,S]
      simp only[g1,g2,g3,g4,decide_false,Bool.or_false,adb,abI,if_false,Sem.run_bind,run_askRoom,Result.andThen_ok,ec d,abM]
      rcases E with ⟨o,rfl⟩ | ⟨o,g,p,rfl⟩
      .simp[o,newRow]
      .simp[o,newRow,p]
     split at h
     .rename_i F
      subst F
      obtain⟨rfl,rfl,rfl⟩:=h
      obtain rfl:l=0:=by omega
      exact bt.value (k #[] (.inl ⟨by simp,rfl⟩)) (.emp 2 _ (by simp) (by simp)) (ja _ _) ⟨rfl,fK _ _⟩
     .split at h
      .simp at h
      .split at h
       .simp at h
       .rename_i z E
        split at h
        .rename_i G
         obtain⟨q,u⟩:=G
         obtain⟨rfl,rfl,rfl⟩:=h
         obtain⟨g,p,rfl⟩:=jJ d E
         have hr:=iC (iD (Z:=Z) (μ:=μ) (w:=w) g) u
         have I:g.cells.size=ti.size:=by rw[<-q,hr.1];simp
         have A:f*ti.size≠0:=by
          intro o;rcases Nat.mul_eq_zero.1 o with o | o<;>contradiction
         refine bt.value (μ':=μ.set n (w.heap.size,0,ti.size)) (k g.cells (.inr ⟨A,g,lq d p w,rfl⟩)) ?_ (ja _ _) ?_
         .have:=aD.sl (Z:=Z) (μ:=μ.set n (w.heap.size,0,ti.size)) (hp:=(w.alloc (.cells ((Array.range (f*ti.size)).map (g.cells[· % g.cells.size]!)) e)).heap) n 0 l ti.size w.heap.size 0 f _ e (0,0) (by simp[Mu.set]) h1 (by rw[heap_alloc];simp;rfl) (by simp)
          simpa using this
         .refine⟨w.heap.size,0,ti.size,abg _,by rw[heap_alloc];simp,rfl,fK _ _,?_⟩
          refine eT.newRow c.new c.de ?_ ?_ ?_
          .simp;exact abO _ h1
          .intro i hi;simp at hi;simp[hi,q]
          .intro i j hi J
           simp at hi
           have K:i*ti.size+j<f*ti.size:=gO (by omega) J
           have B:(i*ti.size+j) % ti.size=j:=by
            rw[Nat.mul_comm,Nat.mul_add_mod];exact Nat.mod_eq_of_lt J
           refine⟨g.cells[j]'(by omega),?_,?_⟩
           .simp[K,I,B,getElem!_pos g.cells j (by omega)]
           .have:=hr.2 j (by rw[q];exact J)
            simpa [aa7,hi,show j<g.cells.size from by omega] using this
        .simp at h
    .simp at h
   .simp at h
end
section
variable {Z:Nat->Prop} {μ μ':Mu} {w w':World} {P:Program} {H:View} {n:Nat} {v:V} {eff:bq} {rd:List Nat}
structure Flat (Z:Nat->Prop) (μ:Mu) (hp:Array Obj) (size:Nat) (xs:List (List V)) (fl:Array Value):Prop where
 len:fl.size=xs.length*size
 rel:∀i j,i<xs.length->j<size->aD Z μ hp ((xs.getD i []).getD j .any) (fl.getD (i*size+j) undef)
theorem zk {b off size N:Nat} {c:Nat->Nat->Value} (h:∀i j,i<N->j<size->cellAt w.heap b (off+i*size+j)=some (c i j)) {m:Nat} (hm:m<=N):
  (loadCells ⟨b,off,none⟩ (m*size)).run P w=.ok ((((List.range (N*size)).map λk=>c (k / size) (k % size)).toArray).extract 0 (m*size)) w:=by
 have hle:m*size<=N*size:=abO _ hm
 rw[run_loadCells w ⟨b,off,none⟩ (m*size) (λk=>c (k / size) (k % size)) (λk hk=>?_)]
 .congr 1
  apply Array.ext_getElem?
  intro k
  by_cases hk:k<m*size
  .simp[hk,Nat.min_eq_left hm]
  .simp[hk,Nat.min_eq_left hm]
 .have d:0<size:=by
   rcases Nat.eq_zero_or_pos size with a | a
   .subst a;simp at hk
   .exact a
  have h1:k / size<m:=(Nat.div_lt_iff_lt_mul d).2 hk
  have e:k % size<size:=Nat.mod_lt _ d
  rw[kO,jo,<-h (k / size) (k % size) (by omega) e]
  congr 1
  have:=Nat.div_add_mod k size
  rw[Nat.mul_comm] at this
  omega
theorem IF {size N:Nat} {c:Nat->Nat->Value} {xs:List (List V)} (d:xs.length=N) (h:∀i j,i<N->j<size->aD Z μ w.heap ((xs.getD i []).getD j .any) (c i j)):
  Flat Z μ w.heap size xs ((List.range (N*size)).map λk=>c (k / size) (k % size)).toArray:=by
 refine⟨by simp[d],λi j hi a=>?_⟩
 have b:i*size+j<N*size:=gO (by omega) a
 have h1:(i*size+j) / size=i:=by
  rw[Nat.mul_comm,Nat.mul_add_div (by omega),Nat.div_eq_of_lt a];simp
 have e:(i*size+j) % size=j:=by
  rw[Nat.mul_comm,Nat.mul_add_mod];exact Nat.mod_eq_of_lt a
 simpa [abm,b,h1,e] using h i j (by omega) a
theorem ve {ad:Option Addr} {cap size m:Nat} (hm:m<=0):(Builtin.firstCells size m (.slice ad 0 cap)).run P w=.ok ((#[]:Array Value).extract 0 (m*size)) w:=by
 obtain rfl:m=0:=by omega
 cases ad with
 | none=>simp[Builtin.firstCells]
 | some a=>simp[Builtin.firstCells,loadCells,loadCellsFrom]
theorem bsize (s:ByteArray):s.data.toList.length=s.size:=by rw[Array.length_toList];rfl
theorem rZ {x:V} {C:Value} {xs:List (List V)} {size:Nat} (h:bQ H x=some (xs,rd)) (d:aD Z μ w.heap x C) (u:∀id,id∈rd->eT Z μ w.heap id (H id))
  (q:∀e∈xs,e.length=size):
  ∃v,Flat Z μ w.heap size xs v/\(Builtin.lenOf C).run P w=.ok xs.length w/\∀m,m<=xs.length->(Builtin.firstCells size m C).run P w=.ok (v.extract 0 (m*size)) w:=by
 have nil:∀(ad:Option Addr) cap,∃v,Flat Z μ w.heap size [] v/\(Builtin.lenOf (.slice ad 0 cap)).run P w=.ok ([]:List (List V)).length w /\
   ∀m,m<=([]:List (List V)).length->(Builtin.firstCells size m (.slice ad 0 cap)).run P w=.ok (v.extract 0 (m*size)) w:=
  λad cap=>⟨#[],⟨by simp,λi j hi=>by simp at hi⟩,by simp[Builtin.lenOf],λm hm=>ve (by simpa using hm)⟩
 unfold bQ at h
 split at h
 .obtain⟨rfl,rfl⟩:=h
  obtain⟨ad,cap,rfl,_⟩:=eM d rfl
  exact nil ad cap
 .obtain⟨rfl,rfl⟩:=h
  obtain⟨ad,cap,rfl,_⟩:=eM d rfl
  exact nil ad cap
 .rename_i es
  simp only[abd,abz] at h
  obtain⟨rfl,rfl⟩:=h
  cases d with
  | jz a cap=>exact nil a cap
  | aY _ b off esz cap c R hle D M y =>
   by_cases k:es=[]
   .subst k;exact nil _ cap
   .have r:0<es.length:=adf.2 k
    have:esz=size:=by
     have h1:=D 0 r
     have E:=q es[0] (abe _)
     simp[r] at h1
     omega
    subst this
    exact⟨_,IF rfl y,by simp[Builtin.lenOf],λm hm=>zk M hm⟩
 .obtain⟨rfl,rfl⟩:=h
  obtain⟨ad,cap,rfl,_⟩:=eM d rfl
  exact nil ad cap
 .rename_i id off len esz hlen
  split at h
  .rename_i J es hH
   split at h
   .rename_i hle
    obtain⟨rfl,rfl⟩:=h
    cases d with
    | rI=>exact(hlen rfl).elim
    | sl _ _ _ _ b o0 cap c e' f hm K S T =>
     have z:=u id (by simp)
     rw[hH] at z
     obtain⟨rfl,_,N,O⟩:=z b o0 esz hm
     have g:((es.drop off).take len).length=len:=by simp;omega
     have l:∀i,i<len->((es.drop off).take len).getD i []=es.getD (off+i) []:=by
      intro i hi;simp[hi]
     have A:0<len:=by
      rcases Nat.eq_zero_or_pos len with r | r
      .exact(hlen r).elim
      .exact r
     have:esz=size:=by
      have h1:=N off (by omega)
      have E:=q (((es.drop off).take len)[0]'(by omega)) (abe _)
      have L:=l 0 A
      simp only[aa7,aa8 (show 0<((es.drop off).take len).length by omega),abp] at L
      rw[L] at E
      simp only[aa7,acI] at h1 E
      omega
     subst this
     have d:∀i,∃ci:Nat->Value,∀j,j<esz->i<len->cellAt w.heap b (o0+off*esz+i*esz+j)=some (ci j)/\aD Z μ w.heap ((((es.drop off).take len).getD i []).getD j .any) (ci j):=by
      intro i
      by_cases hi:i<len
      .obtain⟨ci,F⟩:=qx (n:=esz) (p:=λj x=>cellAt w.heap b (o0+off*esz+i*esz+j)=some x/\aD Z μ w.heap ((((es.drop off).take len).getD i []).getD j .any) x) (λj o=>by
        obtain⟨x,d,y⟩:=O (off+i) j (by omega) o
        rw[abR,<-abP] at d
        exact⟨x,d,by rw[l i hi];exact y⟩)
       exact⟨ci,λj o _=>F j o⟩
      .exact⟨λ_=>undef,λj _ h=>absurd h hi⟩
     obtain⟨Q,B⟩:=Classical.axiomOfChoice d
     refine⟨_,IF (c:=Q) g (λi j hi o=>(B i j o hi).2),by simp[Builtin.lenOf];omega,λm hm=>?_⟩
     rw[g] at hm
     exact zk (λi j hi o=>(B i j o hi).1) hm
   .simp at h
  .simp at h
 .rename_i s
  obtain⟨rfl,rfl⟩:=h
  have y:=fi d
  subst y
  have t:(s.data.toList.map λb=>([V.val (Value.int .u8 b.toNat)]:List V)).length=s.size:=by rw[abc,bsize]
  have hlen:(Builtin.lenOf (.string s)).run P w=.ok s.size w:=rfl
  by_cases G:s.size=0
  .refine⟨#[],⟨by rw[t,G];simp,λi j hi=>by rw[t] at hi;omega⟩,by rw[t];exact hlen,λm hm=>?_⟩
   obtain rfl:m=0:=by omega
   have:(s.extract 0 0).data = #[]:=by rw[ByteArray.data_extract];simp
   simp[Builtin.firstCells]
  .have:size=1:=by
    have k:0<s.data.toList.length:=by rw[bsize];omega
    have:=q [V.val (Value.int .u8 (s.data.toList[0]).toNat)] (abt.2 ⟨_,abe k,rfl⟩)
    simpa using this.symm
   subst this
   refine⟨s.data.map λb=>.int .u8 b.toNat,⟨by rw[t,Array.size_map,adr];rfl,λi j hi o=>?_⟩,by rw[t];exact hlen,λm hm=>?_⟩
   .obtain rfl:j=0:=by omega
    have I:i<s.data.size:=by rw[t] at hi;exact hi
    simp only[aa7,abm,aba,ac5,Array.getElem?_map,adr,acI,abu I,abk,abp,abB]
    exact aD.val _ rfl
   .simp only[Builtin.firstCells,Sem.run_pure,adr]
    congr 1
    rw[ByteArray.data_extract,Array.map_extract]
 .simp at h
theorem US {size:Nat} {xs:List (List V)} {b:Array Value} (h:Flat Z μ w.heap size xs b) (m:Nat) (hm:m<=xs.length):Flat Z μ w.heap size (xs.take m) (b.extract 0 (m*size)):=by
 have hle:m*size<=xs.length*size:=abO _ hm
 have e:(b.extract 0 (m*size)).size=m*size:=by rw[Array.size_extract,h.len];omega
 refine⟨by rw[e,acb,Nat.min_eq_left hm],λi j hi c=>?_⟩
 have a:i<m:=by simp at hi;omega
 have:=h.rel i j (by omega) c
 have f:i*size+j<m*size:=gO a c
 have d:i*size+j<b.size:=by rw[h.len];omega
 simp only[aa7,abm,acn,a,if_true,Array.getElem?_extract] at this ⊢
 rw[abb (by omega),abX]
 exact this
theorem EI {size:Nat} {xs:List (List V)} {d:Array Value} (h:Flat Z μ w.heap size xs d) (j:∀e∈xs,e.length=size) (f:∀e∈xs,e.all aK=true):∀x∈d.toList,x.oneCell'=true:=by
 intro x l
 obtain⟨k,hk,rfl⟩:=acY l
 have c:k<xs.length*size:=by rw[<-h.len];simpa using hk
 have a:0<size:=by
  rcases Nat.eq_zero_or_pos size with g | g
  .subst g;simp at c
  .exact g
 have h1:k / size<xs.length:=(Nat.div_lt_iff_lt_mul a).2 c
 have m:k % size<size:=Nat.mod_lt _ a
 have:=h.rel (k / size) (k % size) h1 m
 have e:k / size*size+k % size=k:=by rw[Nat.mul_comm];exact Nat.div_add_mod k size
 rw[e] at this
 have i:k<d.size:=by simpa using hk
 simp only[abm,abu i,abp] at this
 have b:xs[k / size]∈xs:=abe _
 have hlen:=j _ b
 simp only[aa7,aa8 h1,abp,aa8 (show k % size<(xs[k / size]).length by omega)] at this
 have:=yY this (abC.1 (f _ b) _ (abe _))
 simpa using this
theorem yf {b off:Nat} {c:Array Value} {e:TypeId} {f:Nat × Nat} (d:w.heap[b]?=some (.cells c e f)) (g:∀k,k<c.size->¬ (f.1<=k/\k<f.2)) (xs:List Value)
  (l:off+xs.length<=c.size) (h:∀x∈xs,x.oneCell'=true):
  ∃a,(storeCells ⟨b,off,none⟩ xs).run P w=.ok () { w with heap:=w.heap.setIfInBounds b (.cells a e f) }/\a.size=c.size /\
   ∀k,cellAt (w.heap.setIfInBounds b (.cells a e f)) b k=if off<=k/\k<off+xs.length then xs[k-off]? else cellAt w.heap b k:=by
 obtain⟨a,h1,i,j⟩:=mo (P:=P) (b:=b) (off:=off) (e:=e) (f:=f) xs 0 c w d g (by omega) h
 refine⟨a,h1,i,λk=>?_⟩
 have:=j k
 simp only[acI] at this
 simp only[cellAt,fg (fG d),d]
 exact this
theorem I4:aE=70368744177664:=by decide
theorem Nc {t0 t1 e:TypeId} {ti:TypeInfo} {a:Array TypeId} {ty:TypeId} {base:Option Addr} {sLen sCap m:Nat} {l:Value} {old new u:Array Value}
  (n:a[0]?=some t0) (o:a[1]?=some t1) (b:pY P t1=true) (c:P.underlying t0=some (.slice e)) (f:P.info? e=some ti)
  (x:(Builtin.lenOf l).run P w=.ok m w) (p:sCap<sLen+m) (y:(sLen+m)*ti.bytes<aE) (z:sLen+m<aE)
  (A:∀w',∃q,(zeroValue e).run P w'=.ok q w'/\q.cells=u)
  (B:(Builtin.firstCells ti.size sLen (.slice base sLen sCap)).run P w.drew=.ok old w.drew) (C:(Builtin.firstCells ti.size m l).run P w.drew=.ok new w.drew):
  ∃cap,sLen+m<=cap/\(Builtin.append_ a ty #[.slice base sLen sCap,l]).run P w =
   .ok (.slice (some ⟨w.heap.size,0,none⟩) (sLen+m) cap) (w.drew.alloc (.cells (old++new++Builtin.zeroCells u (cap-(sLen+m))) e)):=by
 have hint:∃d,P.underlying t1=some d/\∀k,d≠.int k:=by
  unfold pY at b
  cases hu:P.underlying t1 with
  | none=>simp[hu] at b
  | some d=>refine⟨d,rfl,λk e=>?_⟩;subst e;simp[hu] at b
 obtain⟨d,D,r⟩:=hint
 have v:=I4
 have g:=growslice_fits p (show (sLen+m)*ti.bytes<=140737488355328 by omega)
 have h:¬ (((sLen+m:Nat):Int)>IntKind.i64.max):=by
  have:IntKind.i64.max=9223372036854775807:=by decide
  rw[this];omega
 have i:¬ (Builtin.nextslicecap (sLen+m) sCap*ti.bytes>2 ^ 48):=by
  have:(2:Nat) ^ 48=281474976710656:=by decide
  rw[this];exact Nat.not_lt.2 g
 obtain⟨q,s,t⟩:=A w.drew
 refine⟨Question.cut (.appendCap (sLen+m) sCap e) (w.tape w.drawn (.appendCap (sLen+m) sCap e)),Nat.le_add_right _ _,?_⟩
 have j:Question.forced (.appendCap (sLen+m) sCap e)=false:=rfl
 subst t
 cases d with
 | int k=>exact absurd rfl (r k)
 | _ =>
 simp only[Builtin.append_,abU,abB,abT,n,o,Sem.run_bind,bE c,Result.andThen_ok,ec f,bE D,Sem.run_pure,abI,if_false,x,Bool.not_false,if_true]
 rw[aa9 (by omega)]
 simp only[h,false_and,if_false,Sem.run_bind,sn f,Result.andThen_ok,Sem.run_ite,Sem.run_pure,i,run_choose,j,abI,World.drew_eq,run_askRoom,B,C,s,newRow,run_newObj,World.alloc_eq]
 rfl
end
end Gv
