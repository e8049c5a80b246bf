/-
  Part 1 of the proof: what the machine does and what the functions answer.
  Conditions: those that each lemma names.
-/
import Derived.WalkKit
set_option linter.unusedSimpArgs false
set_option linter.unusedVariables false
set_option maxRecDepth 100000
set_option maxHeartbeats 20000000
namespace Gv
open Go
theorem aaG:type_of% @List.getD_eq_getElem?_getD:=@List.getD_eq_getElem?_getD
theorem aaH:type_of% @List.getElem?_eq_getElem:=@List.getElem?_eq_getElem
theorem aaI:type_of% @if_neg:=@if_neg
theorem aaJ:type_of% @List.getElem?_map:=@List.getElem?_map
theorem aaK:type_of% @Option.some.injEq:=@Option.some.injEq
theorem aaL:type_of% @if_pos:=@if_pos
theorem aaM:type_of% @List.length_map:=@List.length_map
theorem aaN:type_of% @Prod.mk.injEq:=@Prod.mk.injEq
theorem aaO:type_of% @List.getElem?_eq_some_iff:=@List.getElem?_eq_some_iff
theorem aaP:type_of% @List.getElem_mem:=@List.getElem_mem
theorem aaQ:type_of% @Nat.le_refl:=@Nat.le_refl
theorem aaR:type_of% @Bool.and_eq_true:=@Bool.and_eq_true
theorem aaS:type_of% @List.length_cons:=@List.length_cons
theorem aaT:type_of% @Option.map_eq_some_iff:=@Option.map_eq_some_iff
theorem aaU:type_of% @Option.map_some:=@Option.map_some
theorem aaV:type_of% @List.mem_of_getElem?:=@List.mem_of_getElem?
theorem aaW:type_of% @Array.getD_eq_getD_getElem?:=@Array.getD_eq_getD_getElem?
theorem aaX:type_of% @decide_eq_true_eq:=@decide_eq_true_eq
theorem aaY:type_of% @List.take_of_length_le:=@List.take_of_length_le
theorem aaZ:type_of% @Option.getD_some:=@Option.getD_some
theorem aa0:type_of% @List.mem_append:=@List.mem_append
theorem aa1:type_of% @List.mem_cons:=@List.mem_cons
theorem aa2:type_of% @List.take_add_one:=@List.take_add_one
theorem aa3:type_of% @Array.getElem?_eq_getElem:=@Array.getElem?_eq_getElem
theorem aa4:type_of% @List.mem_map:=@List.mem_map
theorem aa5:type_of% @List.length_append:=@List.length_append
theorem aa6:type_of% @List.mem_cons_of_mem:=@List.mem_cons_of_mem
theorem aa7:type_of% @List.drop_eq_nil_of_le:=@List.drop_eq_nil_of_le
theorem aa8:type_of% @List.map_append:=@List.map_append
theorem aa9:type_of% @Bool.false_eq_true:=@Bool.false_eq_true
theorem aba:type_of% @List.map_cons:=@List.map_cons
theorem abb:type_of% @List.getElem?_cons_zero:=@List.getElem?_cons_zero
theorem abc:type_of% @List.all_eq_true:=@List.all_eq_true
theorem abd:type_of% @Option.bind_some:=@Option.bind_some
theorem abe:type_of% @List.length_nil:=@List.length_nil
theorem abf:type_of% @List.getElem?_append_left:=@List.getElem?_append_left
theorem abg:type_of% @Nat.lt_or_ge:=@Nat.lt_or_ge
theorem abh:type_of% @Nat.lt_of_lt_of_le:=@Nat.lt_of_lt_of_le
theorem abi:type_of% @List.getElem?_eq_none:=@List.getElem?_eq_none
theorem abj:type_of% @decide_eq_true:=@decide_eq_true
theorem abk:type_of% @Int.toNat_natCast:=@Int.toNat_natCast
theorem abl:type_of% @List.cons_append:=@List.cons_append
theorem abm:type_of% @Nat.mul_le_mul_right:=@Nat.mul_le_mul_right
theorem abn:type_of% @Nat.add_assoc:=@Nat.add_assoc
theorem abo:type_of% @List.append_nil:=@List.append_nil
theorem abp:type_of% @List.getElem?_toArray:=@List.getElem?_toArray
theorem abq:type_of% @Nat.add_mul:=@Nat.add_mul
theorem abr:type_of% @List.foldl_cons:=@List.foldl_cons
theorem abt:type_of% @List.drop_eq_getElem_cons:=@List.drop_eq_getElem_cons
theorem abu:type_of% @Bool.true_and:=@Bool.true_and
theorem abv:type_of% @List.getElem?_cons_succ:=@List.getElem?_cons_succ
theorem abw:type_of% @List.getElem?_set:=@List.getElem?_set
theorem abx:type_of% @Nat.zero_add:=@Nat.zero_add
theorem aby:type_of% @Bool.eq_iff_iff:=@Bool.eq_iff_iff
theorem abz:type_of% @Nat.le_trans:=@Nat.le_trans
theorem abA:type_of% @List.getElem?_replicate:=@List.getElem?_replicate
theorem abB:type_of% @List.ext_getElem:=@List.ext_getElem
theorem abC:type_of% @List.nodup_cons:=@List.nodup_cons
theorem abD:type_of% @List.nil_append:=@List.nil_append
theorem abE:type_of% @Array.getElem?_append_left:=@Array.getElem?_append_left
theorem abF:type_of% @List.mem_singleton:=@List.mem_singleton
theorem abG:type_of% @List.mem_zipIdx_iff_getElem?:=@List.mem_zipIdx_iff_getElem?
theorem abH:type_of% @List.mem_range:=@List.mem_range
theorem abI:type_of% @List.drop_zero:=@List.drop_zero
theorem abJ:type_of% @beq_iff_eq:=@beq_iff_eq
theorem abK:type_of% @List.map_congr_left:=@List.map_congr_left
theorem abL:type_of% @List.length_take:=@List.length_take
theorem abM:type_of% @List.append_assoc:=@List.append_assoc
theorem abN:type_of% @List.getElem?_append_right:=@List.getElem?_append_right
theorem abO:type_of% @List.getD_cons_zero:=@List.getD_cons_zero
theorem abP:type_of% @List.mem_cons_self:=@List.mem_cons_self
theorem abQ:type_of% @congrArg:=@congrArg
theorem abR:type_of% @List.mem_filter:=@List.mem_filter
theorem abS:type_of% @List.filterMap_cons:=@List.filterMap_cons
theorem abT:type_of% @List.all_cons:=@List.all_cons
theorem abU:type_of% @List.any_eq_true:=@List.any_eq_true
theorem abV:type_of% @List.eraseIdx_cons_succ:=@List.eraseIdx_cons_succ
theorem abW:type_of% @List.eraseIdx_cons_zero:=@List.eraseIdx_cons_zero
theorem abX:type_of% @List.getElem?_take:=@List.getElem?_take
theorem abY:type_of% @Nat.zero_le:=@Nat.zero_le
theorem abZ:type_of% @Array.getElem?_setIfInBounds:=@Array.getElem?_setIfInBounds
theorem ab0:type_of% @Bool.false_and:=@Bool.false_and
theorem ab1:type_of% @List.size_toArray:=@List.size_toArray
theorem ab2:type_of% @List.nodup_append:=@List.nodup_append
theorem ab3:type_of% @List.length_eq_zero_iff:=@List.length_eq_zero_iff
theorem ab4:type_of% @decide_eq_false_iff_not:=@decide_eq_false_iff_not
theorem ab5:type_of% @List.getElem?_drop:=@List.getElem?_drop
theorem ab6:type_of% @List.mem_filterMap:=@List.mem_filterMap
theorem ab7:type_of% @List.pairwise_cons:=@List.pairwise_cons
theorem ab8:type_of% @List.all_map:=@List.all_map
theorem ab9:type_of% @List.range_succ:=@List.range_succ
theorem aca:type_of% @List.take_length:=@List.take_length
theorem acb:type_of% @Classical.byContradiction:=@Classical.byContradiction
theorem acd:type_of% @List.getElem?_range:=@List.getElem?_range
theorem ace:type_of% @List.foldl_append:=@List.foldl_append
theorem acf:type_of% @Nat.add_zero:=@Nat.add_zero
theorem acg:type_of% @List.map_nil:=@List.map_nil
theorem ach:type_of% @Bool.and_false:=@Bool.and_false
theorem aci:type_of% @List.mem_of_mem_take:=@List.mem_of_mem_take
theorem acj:type_of% @List.mem_iff_getElem:=@List.mem_iff_getElem
theorem ack:type_of% @Decidable.byContradiction:=@Decidable.byContradiction
theorem acm:type_of% @List.length_set:=@List.length_set
theorem acn:type_of% @Array.getElem?_modify:=@Array.getElem?_modify
theorem aco:type_of% @List.length_filter_le:=@List.length_filter_le
theorem acp:type_of% @List.map_set:=@List.map_set
theorem acq:type_of% @Array.replicate_succ:=@Array.replicate_succ
theorem acr:type_of% @Array.replicate_zero:=@Array.replicate_zero
theorem acs:type_of% @Decidable.not_not:=@Decidable.not_not
theorem acu:type_of% @of_decide_eq_true:=@of_decide_eq_true
theorem acv:type_of% @Bool.or_eq_true:=@Bool.or_eq_true
theorem acw:type_of% @Array.getElem?_push:=@Array.getElem?_push
theorem acx:type_of% @List.getElem_of_mem:=@List.getElem_of_mem
theorem acy:type_of% @List.getD_cons_succ:=@List.getD_cons_succ
theorem acz:type_of% @List.append_toArray:=@List.append_toArray
theorem acA:type_of% @List.getElem?_set_self:=@List.getElem?_set_self
theorem acB:type_of% @List.mem_flatMap:=@List.mem_flatMap
theorem acC:type_of% @List.isEmpty_nil:=@List.isEmpty_nil
theorem acD:type_of% @List.getElem_map:=@List.getElem_map
theorem acE:type_of% @Array.getElem?_toList:=@Array.getElem?_toList
theorem acF:type_of% @List.length_replicate:=@List.length_replicate
theorem acG:type_of% @Nat.eq_of_beq_eq_true:=@Nat.eq_of_beq_eq_true
theorem acH:type_of% @List.foldl_nil:=@List.foldl_nil
theorem acI:type_of% @List.filter_append:=@List.filter_append
theorem acJ:type_of% @List.take_append_drop:=@List.take_append_drop
theorem acK:type_of% @List.all_eq_false:=@List.all_eq_false
theorem acL:type_of% @List.push_toArray:=@List.push_toArray
theorem acM:type_of% @Bool.false_or:=@Bool.false_or
theorem acN:type_of% @Bool.not_true:=@Bool.not_true
theorem acO:type_of% @List.length_pos_iff:=@List.length_pos_iff
theorem acP:type_of% @List.take_succ_cons:=@List.take_succ_cons
theorem acQ:type_of% @List.drop_succ_cons:=@List.drop_succ_cons
theorem acR:type_of% @List.perm_middle:=@List.perm_middle
theorem acS:type_of% @List.getElem_range:=@List.getElem_range
theorem acT:type_of% @Option.some.inj:=@Option.some.inj
theorem acU:type_of% @List.all_append:=@List.all_append
theorem acV:type_of% @List.find?_cons:=@List.find?_cons
theorem acW:type_of% @Bool.not_eq_true':=@Bool.not_eq_true'
theorem acX:type_of% @List.pairwise_map:=@List.pairwise_map
theorem acY:type_of% @Nat.mul_one:=@Nat.mul_one
inductive V where
 | any
 | val (v:Value)
 | emp (k:Nat)
 | ez
 | aZ (es:List (List V))
 | sl (id off len esz:Nat)
 | ptr (id i j:Nat)
 | aP (e:List V) (j:Nat)
 | mp (id:Nat)
 | fn (f:FuncId) (first cap:List V)
 | agg (cs:List V)
 | bb (vs:List V)
 deriving Inhabited
inductive cr where
 | dead
 | arr (esz:Nat) (es:List (List V))
 | map (es:List (V × V × Nat)) (clock:Nat)
 | zq (s:ByteArray) (pos:Nat)
 deriving Inhabited
abbrev Heap:=List cr
abbrev View:=Nat->cr
def Heap.view (h:Heap):View:=λid=>h.getD id .dead
inductive bo where
 | none
 | new (o:cr)
 | fJ (id:Nat) (o:cr)
 | eR (id:Nat) (o:cr)
def bo.fresh (free:Prop):bo->Prop
 | .new _ | .eR _ _=>free
 | _=>True
def bo.apply (h:Heap):bo->Heap
 | .none=>h
 | .new o=>h++[o]
 | .fJ id o=>h.set id o
 | .eR id o=>h.set id .dead++[o]
def plain:Value->Bool
 | .bool _ | .int _ _ | .float _ _ | .complex _ _ _ | .string _ | .pointer none | .map none | .nilFunc | .nilIface=>true
 | _=>false
def qe:Value->V
 | .slice none 0 0=>.emp 1
 | .slice _ _ _=>.any
 | v=>if plain v then .val v else .any
def gv:Value->V
 | .agg cs=>.agg (cs.toList.map qe)
 | .func (.func f) a b=>if a.size=0/\b.size=0 then .fn f [] [] else .any
 | v=>qe v
def toCell:V->Option Value
 | .val v=>some v
 | _=>none
def y0:List V->Option (List Value)
 | []=>some []
 | v::r=>match toCell v,y0 r with
  | some x,some y=>some (x::y)
  | _,_=>none
def dz:V->Option Value
 | .val v=>some v
 | .agg cs=>(y0 cs).map λl=>.agg l.toArray
 | _=>none
def V.cells:V->List V
 | .agg cs=>cs
 | v=>[v]
def aL:V->Bool
 | .any | .agg _ | .bb _=>false
 | _=>true
def bk {α:Type} (P:Program):Sem α->Option α
 | .pure a=>some a
 | .program k=>bk P (k P)
 | _=>none
abbrev Env:=Nat->V
def Env.put (T:Env) (d:Option Nat) (v:V):Env:=match d with
 | some d=>λt=>if t=d then v else T t
 | none=>T
def ev (T:Env):Operand->V
 | .tmp t=>T t
 | .const v=>gv v
 | .global _=>.any
 | .func f=>.fn f [] []
def de (P:Program) (t:TypeId):Option TypeId:=match P.underlying t with
 | some (.slice e)=>some e
 | _=>none
def zeroCells (P:Program) (t:TypeId):Option (List V):=match P.info? t with
 | some i=>match i.zero with
  | some v=>some (gv v).cells
  | none=>none
 | none=>none
def r6 (P:Program) (t:TypeId) (f:Nat):Option (Nat × Nat × TypeId):=match P.underlying t with
 | some (.struct fs)=>match fs[f]? with
  | some x=>match P.info? x.type with
   | some i=>some (x.offset,i.size,x.type)
   | none=>none
  | none=>none
 | _=>none
def asNat:V->Option Nat
 | .val (.int _ q)=>if 0<=q then some q.toNat else none
 | _=>none
def uW (P:Program) (t:TypeId):Option Bool:=match P.underlying t with
 | some (.struct _) | some (.array _ _)=>some true
 | some _=>some false
 | none=>none
def sr (P:Program) (t:TypeId) (cs:List V) (off:Nat):Option V:=match P.info? t,uW P t with
 | some i,some true=>if off+i.size<=cs.length then some (.agg ((cs.drop off).take i.size)) else none
 | some _,some false=>if off<cs.length then some (cs.getD off .any) else none
 | _,_=>none
def gm (e:List V) (j:Nat) (cs:List V):List V:=e.take j++cs++e.drop (j+cs.length)
def cM (n:Nat):V:=.val (.int .i64 n)
def bM (H:View):V->Option (List (List V) × List Nat)
 | .emp _ | .ez=>some ([],[])
 | .aZ es=>some (es,[])
 | .sl _ _ 0 _=>some ([],[])
 | .sl id off len _=>match H id with
  | .arr _ es=>if off+len<=es.length then some ((es.drop off).take len,[id]) else none
  | _=>none
 | .val (.string s)=>some (s.data.toList.map λb=>[.val (.int .u8 b.toNat)],[])
 | _=>none
def aF:Nat:=2 ^ 46
def mC:List (List V)->Option (List UInt8)
 | []=>some []
 | [.val (.int .u8 n)]::r=>(mC r).map (UInt8.ofNat n.toNat :: ·)
 | _=>none
def gF:List (V × V × Nat)->Option (List MapEntry)
 | []=>some []
 | (k,_,b)::r=>match dz k,gF r with
  | some x,some y=>some ({ key:=x,val:=.nilFunc,born:=b }::y)
  | _,_=>none
def nt (P:Program) (kt:TypeId) (k:V) (empty:Bool) (es:List (V × V × Nat)):Option (Option Nat):=match dz k,gF es with
 | some x,some l=>match bk P (Instr.checkKey empty 10000 kt x >>= λ_=>Instr.findKey kt x l) with
  | some (some (i,_))=>some (some i)
  | some none=>some none
  | none=>none
 | _,_=>none
def eN (P:Program) (t:TypeId):Option (TypeId × TypeId):=match P.underlying t with
 | some (.map k e)=>some (k,e)
 | _=>none
def zeroV (P:Program) (t:TypeId):Option V:=match P.info? t with
 | some i=>match i.zero with
  | some v=>some (gv v)
  | none=>none
 | none=>none
abbrev Out:=Option (V × bo × List Nat)
def oG (P:Program) (t:TypeId) (a:V) (H:View):Out:=match a with
 | .ptr id i j=>match H id with
  | .arr _ es=>if i<es.length then (sr P t (es.getD i []) j).map λv=>(v,.none,[id]) else none
  | _=>none
 | .aP e j=>(sr P t e j).map λv=>(v,.none,[])
 | _=>none
def s8 (P:Program) (t:TypeId) (a v:V) (H:View):Out:=match a with
 | .ptr id i j=>match H id with
  | .arr esz es =>
   if i<es.length/\v.cells.length=P.cellsOf t/\j+v.cells.length<=esz/\v.cells.all aL=true/\(P.info? t).isSome=true
   then some (.any,.fJ id (.arr esz (es.set i (gm (es.getD i []) j v.cells))),[id]) else none
  | _=>none
 | _=>none
def nP (cs:List V) (n:Nat):Out:=
 if cs.all aL=true then some (.ptr n 0 0,.new (.arr cs.length [cs]),[]) else none
def mZ (size:Nat):List (List V)->List (Nat × V)->Option (List (List V))
 | es,[]=>some es
 | es,(i,x)::r=>if x.cells.length=size/\i<es.length/\x.cells.all aL=true then mZ size (es.set i x.cells) r else none
def jh (P:Program) (t:TypeId) (len:Nat) (parts:List (Nat × V)) (n:Nat):Out:=match de P t with
 | none=>none
 | some e=>match P.info? e with
  | none=>none
  | some i =>
   if len*i.size>2 ^ 24 then none
   else if len=0 then (if parts.isEmpty then some (.emp 2,.none,[]) else none)
   else if i.size=0 then none
   else match zeroCells P e with
    | none=>none
    | some z=>if z.length=i.size/\z.all aL=true then
      match mZ i.size (List.replicate len z) parts with
      | some es=>some (.sl n 0 len i.size,.new (.arr i.size es),[])
      | none=>none
     else none
def zj (place:Nat->Option (Nat × Nat)):List V->List (Nat × V)->Option (List V)
 | cs,[]=>some cs
 | cs,(i,x)::r=>match place i with
  | none=>none
  | some (off,size)=>if x.cells.length=size/\off+size<=cs.length/\x.cells.all aL=true then zj place (gm cs off x.cells) r else none
def placeOf (P:Program) (t:TypeId) (i:Nat):Option (Nat × Nat):=(r6 P t i).map λ(a,b,_)=>(a,b)
def oC (P:Program) (t:TypeId):Bool:=match P.underlying t with
 | some (.struct fs)=>fs.toList.all λf=>(P.info? f.type).isSome
 | _=>false
def x6 (P:Program) (t:TypeId) (parts:List (Nat × V)):Out:=match P.underlying t,zeroV P t with
 | some (.struct _),some (.agg z)=>if oC P t=true then (zj (placeOf P t) z parts).map λcs=>(.agg cs,.none,[]) else none
 | _,_=>none
def mT (P:Program) (t:TypeId) (x:V) (f:Nat):Out:=match r6 P t f with
 | some (off,s,_)=>if s=0 then none else match x with
  | .ptr id i j=>some (.ptr id i (j+off),.none,[])
  | .aP e j=>some (.aP e (j+off),.none,[])
  | _=>none
 | none=>none
def yw (P:Program) (t:TypeId) (x:V) (f:Nat):Out:=match r6 P t f,x with
 | some (off,_,ft),.agg cs=>(sr P ft cs off).map λv=>(v,.none,[])
 | _,_=>none
def nz (P:Program) (t:TypeId) (x i:V):Out:=match asNat i with
 | none=>none
 | some q=>match P.underlying t with
  | some (.slice e)=>match P.info? e with
   | none=>none
   | some ti=>match x with
    | .sl id off len esz=>if q<len/\esz=ti.size then some (.ptr id (off+q) 0,.none,[]) else none
    | .aZ es=>if q<es.length/\(es.getD q []).length=ti.size then some (.aP (es.getD q []) 0,.none,[]) else none
    | _=>none
  | some (.array len e)=>match P.info? e with
   | none=>none
   | some ti=>if q<len then match x with
    | .ptr id i j=>some (.ptr id i (j+q*ti.size),.none,[])
    | .aP e j=>some (.aP e (j+q*ti.size),.none,[])
    | _=>none
    else none
  | _=>none
def bound (d:Nat):Option V->Option Nat
 | none=>some d
 | some v=>asNat v
def vA (P:Program) (t:TypeId) (x:V) (lo hi mx:Option V):Out:=match de P t with
 | none=>none
 | some e=>match P.info? e with
  | none=>none
  | some ti=>match mx with
   | some m=>match bound 0 lo,bound 0 hi,asNat m with
    | some 0,some 0,some 0=>if hi.isNone then none else match x with
     | .sl _ _ _ _ | .aZ _ | .emp _ | .ez=>some (.emp 0,.none,[])
     | _=>none
    | _,_,_=>none
   | none=>match x with
    | .sl id off len esz=>match bound 0 lo,bound len hi with
     | some l,some h=>if l<=h/\h<=len/\esz=ti.size then some (.sl id (off+l) (h-l) esz,.none,[]) else none
     | _,_=>none
    | .aZ es=>match bound 0 lo,bound es.length hi with
     | some l,some h=>if l<=h/\h<=es.length/\(es.all λe=>e.length==ti.size)=true then some (.aZ ((es.drop l).take (h-l)),.none,[]) else none
     | _,_=>none
    | .emp k=>match bound 0 lo,bound 0 hi with
     | some 0,some 0=>some (.emp k,.none,[])
     | _,_=>none
    | _=>none
def mX (P:Program) (t:TypeId) (len cap:V) (n:Nat):Out:=match de P t with
 | none=>none
 | some e=>match P.info? e with
  | none=>none
  | some ti=>match asNat len,asNat cap with
   | some l,some c =>
    if l<=c/\c<aF/\ti.bytes*c<aF then
     (
      if c=0 then some (.emp 2,.none,[])
      else if ti.size=0 then none
      else match zeroCells P e with
       | none=>none
       | some z=>if z.length=ti.size/\z.all aL=true then some (.sl n 0 l ti.size,.new (.arr ti.size (List.replicate l z)),[]) else none)
    else none
   | _,_=>none
def pC (P:Program) (at0:TypeId) (s x:V) (H:View) (n:Nat):Out:=match de P at0,bM H x with
 | some e,some (xs,rd)=>match P.info? e with
  | none=>none
  | some ti =>
   if xs.isEmpty then (match s with
    | .emp _ | .ez | .aZ _ | .sl _ _ _ _=>some (s,.none,[])
    | _=>none)
   else if ti.size=0∨¬ ((zeroCells P e).map List.length=some ti.size)∨¬ ((xs.all λe=>e.length==ti.size&&e.all aL)=true) then none
   else match s with
    | .emp _=>if xs.length*ti.bytes<aF/\xs.length<aF then some (.sl n 0 xs.length ti.size,.new (.arr ti.size xs),rd) else none
    | .sl id off len esz=>match H id with
     | .arr _ es =>
      if off+len<=es.length/\esz=ti.size/\(len+xs.length)*ti.bytes<aF/\len+xs.length<aF
      then some (.sl n 0 (len+xs.length) esz,.eR id (.arr esz ((es.drop off).take len++xs)),id::rd) else none
     | _=>none
    | _=>none
 | _,_=>none
def He (P:Program) (at0:TypeId) (x:V):Out:=match de P at0,x with
 | some _,.emp _=>some (cM 0,.none,[])
 | _,_=>none
def uD (P:Program) (at0:TypeId) (s x:V) (n:Nat):Out:=match de P at0,asNat x,s with
 | some e,some l,.emp k=>match P.info? e,zeroCells P e with
  | some ti,some z=>if l=0 then some (.emp k,.none,[]) else if z.length=ti.size/\z.all aL=true/\ti.size≠0/\l*ti.bytes<aF/\l<aF then some (.sl n 0 l ti.size,.new (.arr ti.size (List.replicate l z)),[]) else none
  | _,_=>none
 | _,_,_=>none
def eQ:List (List V)->Nat->List (List V)->List (List V)
 | es,_,[]=>es
 | es,i,x::r=>eQ (es.set i x) (i+1) r
def cE:V->Option Nat
 | .emp _ | .ez=>some 0
 | .aZ es=>some es.length
 | .sl _ _ len _=>some len
 | _=>none
def zt (P:Program) (at0:TypeId) (d x:V) (H:View):Out:=match de P at0,bM H x,cE d with
 | some e,some (xs,rd),some dl=>match P.info? e with
  | none=>none
  | some ti =>
   if (xs.take dl).isEmpty then some (cM 0,.none,[])
   else match d with
    | .sl id off len esz=>match H id with
     | .arr _ es =>
      if off+len<=es.length/\esz=ti.size/\ti.size≠0/\((xs.all λe=>e.length==ti.size&&e.all aL)=true)
      then some (cM (xs.take dl).length,.fJ id (.arr esz (eQ es off (xs.take dl))),id::rd) else none
     | _=>none
    | _=>none
 | _,_,_=>none
def yR (P:Program) (at0:TypeId) (d:V) (H:View):Out:=match de P at0,cE d with
 | some e,some dl=>if dl=0 then some (.bb [],.none,[]) else match d,P.info? e,zeroCells P e with
  | .sl id off len esz,some ti,some z=>match H id with
   | .arr _ es=>if off+len<=es.length/\esz=ti.size/\ti.size≠0/\z.length=ti.size/\z.all aL=true then some (.bb [],.fJ id (.arr esz (eQ es off (List.replicate len z))),[id]) else none
   | _=>none
  | _,_,_=>none
 | _,_=>none
def fU (P:Program) (t:TypeId) (m k:V) (ok:Bool) (H:View):Out:=match eN P t with
 | none=>none
 | some (kt,et)=>match zeroV P et with
  | none=>none
  | some z =>
   let fin (v:V) (b:Bool) (rd:List Nat):Out:=some (if ok then .bb [v,.val (.bool b)] else v,.none,rd)
   match m with
   | .mp id=>match H id with
    | .map es _=>match nt P kt k es.isEmpty es with
     | some (some i)=>match es[i]? with
      | some (_,v,_)=>fin v true [id]
      | none=>none
     | some none=>fin z false [id]
     | none=>none
    | _=>none
   | _=>none
def sameKey (old new:V):Bool:=match dz old,dz new with
 | some a,some b=>Instr.sameBits 10000 a b
 | _,_=>false
def ik (P:Program) (t:TypeId) (m k v:V) (H:View):Out:=match eN P t,m with
 | some (kt,_),.mp id=>match H id with
  | .map es c=>match nt P kt k false es with
   | some (some i)=>match es[i]? with
    | some (k0,_,b)=>if sameKey k0 k=true then some (.any,.fJ id (.map (es.set i (k,v,b)) c),[id]) else none
    | none=>none
   | some none=>some (.any,.fJ id (.map (es++[(k,v,c)]) (c+1)),[id])
   | none=>none
  | _=>none
 | _,_=>none
def fe (P:Program) (t:TypeId) (m k:V) (H:View):Out:=match eN P t,m with
 | some (kt,et),.mp id=>match H id with
  | .map es c=>match nt P kt k false es with
   | some (some i)=>match es[i]? with
    | some (k0,v,b)=>if sameKey k0 k=true then some (.bb [v,cM b],.fJ id (.map (es.set i (k,v,b)) c),[id]) else none
    | none=>none
   | some none=>match zeroV P et with
    | some z=>some (.bb [z,cM c],.fJ id (.map (es++[(k,z,c)]) (c+1)),[id])
    | none=>none
   | none=>none
  | _=>none
 | _,_=>none
def lN (m s v:V) (H:View):Out:=match m,asNat s with
 | .mp id,some q=>match H id with
  | .map es c=>match es.findIdx? (λe=>e.2.2==q) with
   | some i=>match es[i]? with
    | some (k,_,b)=>some (.any,.fJ id (.map (es.set i (k,v,b)) c),[id])
    | none=>none
   | none=>none
  | _=>none
 | _,_=>none
def yM (P:Program) (t:TypeId) (m k:V) (H:View):Out:=match eN P t,m with
 | some (kt,_),.mp id=>match H id with
  | .map es c=>match nt P kt k es.isEmpty es with
   | some (some i)=>some (.any,.fJ id (.map (es.eraseIdx i) c),[id])
   | some none=>some (.any,.none,[id])
   | none=>none
  | _=>none
 | _,_=>none
def xI (P:Program) (t:TypeId) (x:V) (H:View):Out:=match P.underlying t with
 | some (.slice _)=>(cE x).map λn=>(cM n,.none,[])
 | some (.map _ _)=>match x with
  | .mp id=>match H id with
   | .map es _=>some (cM es.length,.none,[id])
   | _=>none
  | .val (.map none)=>some (cM 0,.none,[])
  | _=>none
 | some .string=>match x with
  | .val (.string s)=>some (cM s.size,.none,[])
  | _=>none
 | some (.array n _)=>some (cM n,.none,[])
 | _=>none
def Ge (x:V) (H:View):Out:=match x with
 | .ptr id 0 0=>match H id with
  | .zq s pos =>
   if pos<s.size then
    some (.bb [.val (.bool true),cM pos,.val (.int .i32 (Utf8.decode s pos).1)],.fJ id (.zq s (pos+(Utf8.decode s pos).2)),[id])
   else some (.bb [.val (.bool false)],.none,[id])
  | _=>none
 | _=>none
def iy (s:ByteArray):List (List V):=s.data.toList.map λb=>[.val (.int .u8 b.toNat)]
def mw (P:Program) (s d:TypeId):Bool:=match P.underlying s,P.underlying d with
 | some (.slice _),_=>true
 | _,some (.slice _)=>true
 | _,_=>false
def oW (P:Program) (s d:TypeId) (x:V) (H:View) (n:Nat):Out:=match P.underlying s,P.underlying d,x with
 | some (.slice e),some .string,x=>match P.underlying e with
  | some (.int .u8)=>match bM H x,cE x with
   | some (xs,rd),some _=>(mC xs).map λl=>(.val (.string ⟨l.toArray⟩),.none,rd)
   | _,_=>none
  | _=>none
 | some .string,some (.slice e),.val (.string s)=>match P.underlying e with
  | some (.int .u8)=>some (.sl n 0 s.size 1,.new (.arr 1 (iy s)),[])
  | _=>none
 | some (.slice _),some (.slice e),.sl id off len esz=>if s=d/\len≠0 then (match P.underlying e with
  | some (.int .u8)=>match H id with
   | .arr z es=>some (.sl id off len esz,.fJ id (.arr z es),[id])
   | _=>none
  | _=>none) else none
 | _,_,_=>none
def fN:Nat->V->Option Bool
 | 0,.emp 1=>some true
 | 0,.emp 2 | 0,.ez=>some false
 | 0,.sl _ _ (_+1) _=>some false
 | 0,.aZ (_::_)=>some false
 | 1,.ptr _ _ _ | 1,.aP _ _ | 2,.mp _ | 3,.fn _ _ _=>some false
 | 1,.val (.pointer none) | 2,.val (.map none) | 3,.val .nilFunc=>some true
 | _,_=>none
def kG (P:Program) (t:TypeId):Option Nat:=match P.underlying t with
 | some (.slice _)=>some 0
 | some (.pointer _)=>some 1
 | some (.map _ _)=>some 2
 | some (.func _ _ _)=>some 3
 | _=>none
def HE (P:Program) (t:TypeId) (x y:V):Option Bool:=match kG P t with
 | some k=>match fN k x,fN k y with
  | some true,some b=>some b
  | some b,some true=>some b
  | _,_=>none
 | none=>none
def eA (P:Program) (o:Oper) (T:Env):Out:=
 if o.op.operands.all (λx=>(dz (ev T x)).isSome)=true then
  match bk P (execOp (λx=>(dz (ev T x)).getD undef) o) with
  | some (.value v)=>if plain v then some (.val v,.none,[]) else none
  | _=>none
 else none
def isStr (P:Program) (o:Op):Bool:=match o with
 | .range t _=>(match P.underlying t with | some .string=>true | _=>false)
 | _=>false
def qQ (P:Program) (t:TypeId):Bool:=match P.underlying t with
 | some (.int _)=>false
 | some _=>true
 | none=>false
def isInt (P:Program) (t:TypeId):Bool:=match P.underlying t with
 | some (.int _)=>true
 | _=>false
def cL (P:Program) (o:Oper) (T:Env) (H:View) (n:Nat):Out:=match o.op with
 | .move x | .assign x=>some (ev T x,.none,[])
 | .pick c a b=>match ev T c with
  | .val (.bool t)=>some (if t then ev T a else ev T b,.none,[])
  | _=>none
 | .alloc e=>match zeroCells P e with
  | some z=>nP z n
  | none=>none
 | .box _ x=>nP (ev T x).cells n
 | .build t parts=>x6 P t (parts.toList.map λ(i,x)=>(i,ev T x))
 | .buildSlice t len parts=>jh P t len (parts.toList.map λ(i,x)=>(i,ev T x)) n
 | .load t a=>oG P t (ev T a) H
 | .store t a v=>s8 P t (ev T a) (ev T v) H
 | .nilCheck x=>match ev T x with
  | .ptr id i j=>some (.ptr id i j,.none,[])
  | .aP e j=>some (.aP e j,.none,[])
  | .fn f a b=>some (.fn f a b,.none,[])
  | _=>none
 | .fieldAddr t x f=>mT P t (ev T x) f
 | .field t x f=>yw P t (ev T x) f
 | .indexAddr t x i=>nz P t (ev T x) (ev T i)
 | .slice t x lo hi mx=>match ev T x with
  | .val _=>eA P o T
  | y=>vA P t y (lo.map (ev T)) (hi.map (ev T)) (mx.map (ev T))
 | .makeSlice t l c=>mX P t (ev T l) (ev T c) n
 | .makeMap _ r=>match r with
  | none=>some (.mp n,.new (.map [] 0),[])
  | some _=>none
 | .makeFunc (.func f) first cap=>some (.fn f (first.toList.map (ev T)) (cap.toList.map (ev T)),.none,[])
 | .lookup t m k ok=>fU P t (ev T m) (ev T k) ok H
 | .mapUpdate t m k v=>ik P t (ev T m) (ev T k) (ev T v) H
 | .insert t m k v=>ik P t (ev T m) (ev T k) (ev T v) H
 | .mapEntry t m k=>fe P t (ev T m) (ev T k) H
 | .entryStore _ m s v=>lN (ev T m) (ev T s) (ev T v) H
 | .extract t i=>match ev T t with
  | .bb vs=>if i<vs.length then some (vs.getD i .any,.none,[]) else none
  | _=>none
 | .range _ x=>match ev T x with
  | .val (.string s)=>if isStr P o.op=true then some (.ptr n 0 0,.new (.zq s 0),[]) else none
  | _=>none
 | .next it true=>Ge (ev T it) H
 | .convert s d x=>if mw P s d=true then oW P s d (ev T x) H n else eA P o T
 | .call { callee:=.builtin b,args,argTypes }=>match b,args.toList with
  | .len,[x]=>if 1<=argTypes.size then xI P (argTypes.getD 0 0) (ev T x) H else none
  | .append,[s,x]=>if 2<=argTypes.size/\qQ P (argTypes.getD 1 0)=true then pC P (argTypes.getD 0 0) (ev T s) (ev T x) H n else if 2<=argTypes.size/\isInt P (argTypes.getD 1 0)=true then uD P (argTypes.getD 0 0) (ev T s) (ev T x) n else none
  | .cap,[x]=>if 1<=argTypes.size then He P (argTypes.getD 0 0) (ev T x) else none
  | .copy,[d,x]=>if 1<=argTypes.size then zt P (argTypes.getD 0 0) (ev T d) (ev T x) H else none
  | .delete,[m,k]=>if 1<=argTypes.size then yM P (argTypes.getD 0 0) (ev T m) (ev T k) H else none
  | .clear,[d]=>if 1<=argTypes.size then yR P (argTypes.getD 0 0) (ev T d) H else none
  | .min,_ | .max,_ | .complex,_ | .real,_ | .imag,_=>eA P o T
  | _,_=>none
 | .binOp op t x y _=>if (kG P t).isSome=true then (match op,HE P t (ev T x) (ev T y) with
   | .eql,some b=>some (.val (.bool b),.none,[])
   | .neq,some b=>some (.val (.bool (!b)),.none,[])
   | _,_=>none)
  else eA P o T
 | .unOp .. | .index ..=>eA P o T
 | _=>none
abbrev Mu:=Nat->Option (Nat × Nat × Nat)
def cellAt (hp:Array Obj) (b k:Nat):Option Value:=match hp[b]? with
 | some (.cells c _ _)=>c[k]?
 | _=>none
theorem jk (w:World) (b k:Nat):w.cell? ⟨b,k,none⟩=cellAt w.heap b k:=by
 simp only[World.cell?,cellAt]
 cases w.heap[b]? with
 | none=>rfl
 | some o=>cases o<;>simp
inductive aD (Z:Nat->Prop) (μ:Mu) (hp:Array Obj):V->Value->Prop
 | any (x:Value):aD Z μ hp .any x
 | val (v:Value):plain v=true->aD Z μ hp (.val v) v
 | emp (k:Nat) (a:Option Addr):(k=1->a=none)->(k=2->a≠none)->aD Z μ hp (.emp k) (.slice a 0 0)
 | ez (a:Addr) (cap:Nat):aD Z μ hp .ez (.slice (some a) 0 cap)
 | jo (a:Option Addr) (cap:Nat):(a=none->cap=0)->aD Z μ hp (.aZ []) (.slice a 0 cap)
 | aZ (es:List (List V)) (b off esz cap:Nat) (c:Nat->Nat->Value):Z b->es.length<=cap ->
  (∀i,i<es.length->(es.getD i []).length=esz) ->
  (∀i j,i<es.length->j<esz->cellAt hp b (off+i*esz+j)=some (c i j)) ->
  (∀i j,i<es.length->j<esz->aD Z μ hp ((es.getD i []).getD j .any) (c i j)) ->
  aD Z μ hp (.aZ es) (.slice (some ⟨b,off,none⟩) es.length cap)
 | qq (id off esz:Nat) (a:Option Addr):aD Z μ hp (.sl id off 0 esz) (.slice a 0 0)
 | sl (id off len esz b o0 cap:Nat) (c:Array Value) (e:TypeId) (f:Nat × Nat):μ id=some (b,o0,esz)->len<=cap ->
  hp[b]?=some (.cells c e f)->o0+(off+cap)*esz<=c.size ->
  aD Z μ hp (.sl id off len esz) (.slice (some ⟨b,o0+off*esz,none⟩) len cap)
 | ptr (id i j b o0 esz:Nat):μ id=some (b,o0,esz)->aD Z μ hp (.ptr id i j) (.pointer (some ⟨b,o0+i*esz+j,none⟩))
 | aP (e:List V) (j b off:Nat) (c:Nat->Value):Z b->(∀k,k<e.length->cellAt hp b (off+k)=some (c k)) ->
  (∀k,k<e.length->aD Z μ hp (e.getD k .any) (c k))->aD Z μ hp (.aP e j) (.pointer (some ⟨b,off+j,none⟩))
 | mp (id b o0 esz:Nat):μ id=some (b,o0,esz)->aD Z μ hp (.mp id) (.map (some b))
 | fn (f:FuncId) (xs ys:List V) (aas bs:Array Value):xs.length=aas.size->ys.length=bs.size ->
  (∀i,i<xs.length->aD Z μ hp (xs.getD i .any) (aas.getD i undef))->(∀i,i<ys.length->aD Z μ hp (ys.getD i .any) (bs.getD i undef)) ->
  aD Z μ hp (.fn f xs ys) (.func (.func f) aas bs)
 | agg (cs:List V) (aas:Array Value):cs.length=aas.size->(∀i,i<cs.length->aD Z μ hp (cs.getD i .any) (aas.getD i undef))->aD Z μ hp (.agg cs) (.agg aas)
 | bb (cs:List V) (aas:Array Value):cs.length=aas.size->(∀i,i<cs.length->aD Z μ hp (cs.getD i .any) (aas.getD i undef))->aD Z μ hp (.bb cs) (.tuple aas)
def gG (Z:Nat->Prop) (μ:Mu) (hp:Array Obj) (vs:List V) (xs:List Value):Prop:=
 vs.length=xs.length/\∀i,i<vs.length->aD Z μ hp (vs.getD i .any) (xs.getD i undef)
def gn (hp hp':Array Obj):Prop:=∀(b:Nat) (c:Array Value) (e:TypeId) (f:Nat × Nat),hp[b]?=some (.cells c e f)->∃(c':Array Value) (f':Nat × Nat),hp'[b]?=some (.cells c' e f')/\c'.size=c.size
theorem gn.refl (hp:Array Obj):gn hp hp:=λ_ c _ f h=>⟨c,f,h,rfl⟩
theorem gn.trans {a b c:Array Obj} (h:gn a b) (k:gn b c):gn a c:=λi x e f d =>
 let ⟨c1,f1,h1,s1⟩:=h i x e f d
 let ⟨c2,f2,g,s2⟩:=k i c1 e f1 h1
 ⟨c2,f2,g,s2.trans s1⟩
structure iP (Z Z':Nat->Prop) (μ μ':Mu) (hp hp':Array Obj):Prop where
 z:∀b,Z b->Z' b
 zz:∀b,Z b->hp'[b]?=hp[b]?
 mu:∀id x,μ id=some x->μ' id=some x
 shape:gn hp hp'
theorem iP.refl (Z:Nat->Prop) (μ:Mu) (hp:Array Obj):iP Z Z μ μ hp hp:=⟨λ_ h=>h,λ_ _=>rfl,λ_ _ h=>h,gn.refl _⟩
theorem iP.trans {Z f e:Nat->Prop} {μ μ' d:Mu} {a b c:Array Obj} (h:iP Z f μ μ' a b) (k:iP f e μ' d b c):iP Z e μ d a c:=
 ⟨λi hi=>k.z i (h.z i hi),λi hi=>(k.zz i (h.z i hi)).trans (h.zz i hi),λi x g=>k.mu i x (h.mu i x g),h.shape.trans k.shape⟩
theorem A6 {hp a:Array Obj} {b:Nat} (h:a[b]?=hp[b]?) (k:Nat):cellAt a b k=cellAt hp b k:=by simp[cellAt,h]
theorem aD.mono {Z u:Nat->Prop} {μ μ':Mu} {hp l:Array Obj} (m:iP Z u μ μ' hp l) {v:V} {x:Value} (h:aD Z μ hp v x):aD u μ' l v x:=by
 induction h with
 | any x=>exact .any x
 | val v w=>exact .val v w
 | emp k a h1 o=>exact .emp k a h1 o
 | ez a cap=>exact .ez a cap
 | jo a cap h1=>exact .jo a cap h1
 | aZ es b off esz cap c n hle p q _ g=>exact .aZ es b off esz cap c (m.z _ n) hle p (λi j hi y=>by rw[A6 (m.zz _ n)];exact q i j hi y) g
 | qq id off esz a=>exact .qq id off esz a
 | sl id off len esz b o0 cap c e f hm hle A F =>
  obtain⟨B,C,r,D⟩:=m.shape b c e f A
  exact .sl id off len esz b o0 cap B e C (m.mu _ _ hm) hle r (by omega)
 | ptr id i j b o0 esz hm=>exact .ptr id i j b o0 esz (m.mu _ _ hm)
 | aP e j b off c n q _ g=>exact .aP e j b off c (m.z _ n) (λk hk=>by rw[A6 (m.zz _ n)];exact q k hk) g
 | mp id b o0 esz hm=>exact .mp id b o0 esz (m.mu _ _ hm)
 | fn f xs ys d E h1 o _ _ s t=>exact .fn f xs ys d E h1 o s t
 | agg cs d h1 _ g=>exact .agg cs d h1 g
 | bb cs d h1 _ g=>exact .bb cs d h1 g
def eP (Z:Nat->Prop) (μ:Mu) (hp:Array Obj) (id:Nat):cr->Prop
 | .dead=>True
 | .arr esz es=>∀b o0 s,μ id=some (b,o0,s)->s=esz /\
  (∃(c:Array Value) (e:TypeId) (f:Nat × Nat),hp[b]?=some (.cells c e f)/\(f.1=f.2∨c.size<=f.1)/\o0+es.length*esz<=c.size) /\
  (∀i,i<es.length->(es.getD i []).length=esz) /\
  (∀i j,i<es.length->j<esz->∃x,cellAt hp b (o0+i*esz+j)=some x/\aD Z μ hp ((es.getD i []).getD j .any) x)
 | .map es clock=>∀b o0 s,μ id=some (b,o0,s)->∃a:Array MapEntry,hp[b]?=some (.map a clock)/\a.size=es.length /\
  ∀i,i<es.length->∃y,a[i]?=some y/\aD Z μ hp (es.getD i default).1 y.key/\aD Z μ hp (es.getD i default).2.1 y.val/\y.born=(es.getD i default).2.2
 | .zq s pos=>∀b o0 t,μ id=some (b,o0,t)->o0=0/\hp[b]?=some (.stringIter s pos)
theorem eP.mono {Z q:Nat->Prop} {μ μ':Mu} {hp g:Array Obj} (m:iP Z q μ μ' hp g) {id:Nat} {o:cr} (h:eP Z μ hp id o)
  (k:μ' id=μ id) (l:∀b o0 s,μ id=some (b,o0,s)->g[b]?=hp[b]?):eP q μ' g id o:=by
 cases o with
 | dead=>trivial
 | arr esz es =>
  intro b o0 s d
  rw[k] at d
  obtain⟨h1,⟨c,e,f,r,u,n⟩,p,v⟩:=h b o0 s d
  refine⟨h1,⟨c,e,f,by rw[l b o0 s d];exact r,u,n⟩,p,λi j hi w=>?_⟩
  obtain⟨x,z,A⟩:=v i j hi w
  exact⟨x,by rw[A6 (l b o0 s d)];exact z,A.mono m⟩
 | map es clock =>
  intro b o0 s d
  rw[k] at d
  obtain⟨a,B,n,p⟩:=h b o0 s d
  refine⟨a,by rw[l b o0 s d];exact B,n,λi hi=>?_⟩
  obtain⟨y,C,D,k2,E⟩:=p i hi
  exact⟨y,C,D.mono m,k2.mono m,E⟩
 | zq s pos =>
  intro b o0 t d
  rw[k] at d
  obtain⟨h1,F⟩:=h b o0 t d
  exact⟨h1,by rw[l b o0 t d];exact F⟩
structure eO (Z:Nat->Prop) (μ:Mu) (hp:Array Obj) (H:View):Prop where
 obj:∀id,eP Z μ hp id (H id)
 inj:∀i j b o s o' s',i≠j->μ i=some (b,o,s)->μ j=some (b,o',s')->H i=.dead∨H j=.dead
 lt:∀id b o s,μ id=some (b,o,s)->b<hp.size
 df:∀b,Z b->b<hp.size
 ix:∀id b o s,μ id=some (b,o,s)->¬ Z b
def Mu.set (μ:Mu) (n:Nat) (x:Nat × Nat × Nat):Mu:=λid=>if id=n then some x else μ id
def View.set (H:View) (n:Nat) (o:cr):View:=λid=>if id=n then o else H id
def bo.view (H:View) (n:Nat):bo->View
 | .none=>H
 | .new o=>H.set n o
 | .fJ id o=>H.set id o
 | .eR id o=>(H.set id .dead).set n o
structure eX (w w':World):Prop where
 os:w'.os=w.os
 tape:w'.tape=w.tape
 output:w'.output=w.output
 size:w.heap.size<=w'.heap.size
theorem eX.refl (w:World):eX w w:=⟨rfl,rfl,rfl,aaQ _⟩
theorem eX.trans {a b c:World} (h:eX a b) (k:eX b c):eX a c:=⟨k.os.trans h.os,k.tape.trans h.tape,k.output.trans h.output,abz h.size k.size⟩
def gU (hp hp':Array Obj) (p:Nat->Prop):Prop:=∀b,b<hp.size->¬ p b->hp'[b]?=hp[b]?
def nj (Z:Nat->Prop) (μ μ':Mu) (hp hp':Array Obj) (n:Nat):bo->Prop
 | .none=>μ'=μ/\gU hp hp' (λ_=>False)
 | .new o=>∃b o0 s,hp.size<=b/\b<hp'.size/\μ'=μ.set n (b,o0,s)/\gU hp hp' (λ_=>False)/\eP Z μ' hp' n o
 | .fJ id o=>∃b o0 s,μ id=some (b,o0,s)/\μ'=μ/\gU hp hp' (· = b)/\gn hp hp'/\eP Z μ' hp' id o
 | .eR id o=>∃b o0 s,μ'=μ.set n (b,o0,s)/\eP Z μ' hp' n o /\
  ((hp.size<=b/\b<hp'.size/\gU hp hp' (λ_=>False))∨((∃o1 s1,μ id=some (b,o1,s1))/\gU hp hp' (· = b)/\gn hp hp'))
theorem gU.mn {hp a:Array Obj} (h:gU hp a (λ_=>False)):gn hp a:=by
 intro b c e f g
 have d:b<hp.size:=by
  rcases abg b hp.size with h | h
  .exact h
  .simp[Array.getElem?_eq_none h] at g
 exact⟨c,f,by rw[h b d (λx=>x)];exact g,rfl⟩
theorem nj.mono {Z:Nat->Prop} {μ μ':Mu} {hp i:Array Obj} {n:Nat} {eff:bo} (h:nj Z μ μ' hp i n eff) (j:eff.fresh (μ n=none))
  (df:∀b,Z b->b<hp.size) (ix:∀id b o s,μ id=some (b,o,s)->¬ Z b):iP Z Z μ μ' hp i:=by
 have c:μ n=none->∀x:Nat × Nat × Nat,∀id y,μ id=some y->(μ.set n x) id=some y:=by
  intro j x id y p
  by_cases k:id=n
  .subst k;simp[j] at p
  .simp[Mu.set,k,p]
 cases eff with
 | none =>
  obtain⟨rfl,d⟩:=h
  exact⟨λ_ h=>h,λb l=>d b (df b l) (λx=>x),λ_ _ h=>h,d.mn⟩
 | new o =>
  obtain⟨b,o0,s,_,_,rfl,d,_⟩:=h
  exact⟨λ_ h=>h,λb l=>d b (df b l) (λx=>x),c j _,d.mn⟩
 | fJ id o =>
  obtain⟨b,o0,s,g,rfl,d,m,_⟩:=h
  exact⟨λ_ h=>h,λf a=>d f (df f a) (λe=>ix _ _ _ _ g (e▸a)),λ_ _ h=>h,m⟩
 | eR id o =>
  obtain⟨b,o0,s,rfl,_,h | ⟨⟨q,s1,g⟩,d,m⟩⟩:=h
  .exact⟨λ_ h=>h,λf a=>h.2.2 f (df f a) (λx=>x),c j _,h.2.2.mn⟩
  .exact⟨λ_ h=>h,λf a=>d f (df f a) (λe=>ix _ _ _ _ g (e▸a)),c j _,m⟩
theorem nj.size {Z:Nat->Prop} {μ μ':Mu} {hp d:Array Obj} {n:Nat} {eff:bo} (h:nj Z μ μ' hp d n eff) (lt:∀id b o s,μ id=some (b,o,s)->b<hp.size) (f:hp.size<=d.size):
  ∀id b o s,μ' id=some (b,o,s)->b<d.size:=by
 have hold:∀id b o s,μ id=some (b,o,s)->b<d.size:=λid b o s c=>abh (lt id b o s c) f
 cases eff with
 | none=>obtain⟨rfl,_⟩:=h;exact hold
 | new o =>
  obtain⟨b,o0,s,_,k,rfl,_,_⟩:=h
  intro id g i j c
  by_cases a:id=n
  .simp[Mu.set,a] at c;omega
  .simp[Mu.set,a] at c;exact hold _ _ _ _ c
 | fJ id o=>obtain⟨b,o0,s,e,rfl,_⟩:=h;exact hold
 | eR id o =>
  obtain⟨b,o0,s,rfl,_,h | ⟨⟨l,s1,e⟩,_,_⟩⟩:=h
  all_goals
   intro id g i j c
   by_cases a:id=n
   .simp[Mu.set,a] at c
    first | omega | (obtain⟨rfl,_,_⟩:=c;exact hold _ _ _ _ e)
   .simp[Mu.set,a] at c;exact hold _ _ _ _ c
theorem eO.eff {Z:Nat->Prop} {μ μ':Mu} {hp z:Array Obj} {H:View} {n:Nat} {eff:bo} (h:eO Z μ hp H) (P:eff.fresh (μ n=none)) (L:hp.size<=z.size)
  (he:nj Z μ μ' hp z n eff) (K:∀id o,eff=.fJ id o->H id≠.dead) (G:∀id o,eff=.eR id o->H id≠.dead):eO Z μ' z (eff.view H n):=by
 have hm:=he.mono P h.df h.ix
 have m:=he.size h.lt L
 have A:∀b,Z b->b<z.size:=λb Q=>abh (h.df b Q) L
 cases eff with
 | none =>
  obtain⟨rfl,D⟩:=he
  exact⟨λid=>(h.obj id).mono hm rfl (λb o s c=>D b (h.lt _ _ _ _ c) (λx=>x)),h.inj,m,A,h.ix⟩
 | new o =>
  obtain⟨b,o0,s,R,S,rfl,D,t⟩:=he
  refine⟨λid=>?_,?_,m,A,?_⟩
  .by_cases a:id=n
   .subst a;simpa [bo.view,View.set] using t
   .have:=(h.obj id).mono hm (by simp[Mu.set,a]) (λb o s c=>D b (h.lt _ _ _ _ c) (λx=>x))
    simpa [bo.view,View.set,a] using this
  .intro i j d w y B C u hi q
   by_cases h1:i=n
   .by_cases r:j=n
    .omega
    .simp[Mu.set,h1] at hi;simp[Mu.set,r] at q
     have:=h.lt _ _ _ _ q;omega
   .by_cases r:j=n
    .simp[Mu.set,r] at q;simp[Mu.set,h1] at hi
     have:=h.lt _ _ _ _ hi;omega
    .simp[Mu.set,h1] at hi;simp[Mu.set,r] at q
     simpa [bo.view,View.set,h1,r] using h.inj i j d w y B C u hi q
  .intro id d w y c F
   by_cases h1:id=n
   .simp[Mu.set,h1] at c;have:=h.df _ F;omega
   .simp[Mu.set,h1] at c;exact h.ix _ _ _ _ c F
 | fJ k o =>
  obtain⟨b,o0,s,g,rfl,D,T,t⟩:=he
  have hk:=K k o rfl
  refine⟨λid=>?_,?_,m,A,h.ix⟩
  .by_cases a:id=k
   .subst a;simpa [bo.view,View.set] using t
   .simp only[bo.view,View.set,a,if_false]
    by_cases I:H id=.dead
    .rw[I];trivial
    .refine(h.obj id).mono hm rfl (λd w y c=>D d (h.lt _ _ _ _ c) ?_)
     intro e
     subst e
     rcases h.inj id k _ _ _ _ _ a c g with h1 | h1
     .exact I h1
     .exact hk h1
  .intro i j d w y B C u hi q
   rcases h.inj i j _ _ _ _ _ u hi q with h1 | h1
   .by_cases e:i=k
    .exact absurd (e▸h1) hk
    .left;simpa [bo.view,View.set,e] using h1
   .by_cases e:j=k
    .exact absurd (e▸h1) hk
    .right;simpa [bo.view,View.set,e] using h1
 | eR k o =>
  obtain⟨b,o0,s,rfl,t,l⟩:=he
  have hk:=G k o rfl
  have v:(μ.set n (b,o0,s)) n=some (b,o0,s):=by simp[Mu.set]
  refine⟨λid=>?_,?_,m,A,?_⟩
  .by_cases a:id=n
   .subst a;simpa [bo.view,View.set] using t
   .by_cases f:id=k
    .simp only[bo.view,View.set,f,if_true]
     split<;>first | trivial | (rename_i e;exact absurd (f.trans e) a)
    .simp only[bo.view,View.set,a,if_false,f]
     by_cases I:H id=.dead
     .rw[I];trivial
     .refine(h.obj id).mono hm (by simp[Mu.set,a]) (λd w y c=>?_)
      rcases l with h1 | ⟨⟨M,s1,g⟩,D,_⟩
      .exact h1.2.2 d (h.lt _ _ _ _ c) (λx=>x)
      .refine D d (h.lt _ _ _ _ c) ?_
       intro e
       subst e
       rcases h.inj id k _ _ _ _ _ f c g with h1 | h1
       .exact I h1
       .exact hk h1
  .intro i j d w y B C u hi q
   have key:∀i d w y,i≠n->(μ.set n (b,o0,s)) i=some (d,w,y)->d=b->(bo.view H n (.eR k o)) i=.dead:=by
    intro p U V t1 J c e
    subst e
    simp only[Mu.set,aaI J] at c
    simp only[bo.view,View.set,aaI J]
    by_cases f:p=k
    .simp[f]
    .simp only[aaI f]
     rcases l with h1 | ⟨⟨M,s1,g⟩,_,_⟩
     .have:=h.lt _ _ _ _ c;omega
     .rcases h.inj p k _ _ _ _ _ f c g with h1 | h1
      .exact h1
      .exact absurd h1 hk
   by_cases h1:i=n
   .have r:j≠n:=by omega
    right
    have E:d=b:=by
     rw[h1,v] at hi;simp at hi;exact hi.1.symm
    exact key j d B C r q E
   .by_cases r:j=n
    .left
     have E:d=b:=by
      rw[r,v] at q;simp at q;exact q.1.symm
     exact key i d w y h1 hi E
    .simp only[Mu.set,h1,if_false] at hi
     simp only[Mu.set,r,if_false] at q
     simp only[bo.view,View.set,h1,r,if_false]
     by_cases N:i=k
     .left;simp[N]
     .by_cases O:j=k
      .right;simp[O]
      .simp only[N,O,if_false]
       exact h.inj i j _ _ _ _ _ u hi q
  .intro id d w y c F
   by_cases h1:id=n
   .rw[h1,v] at c
    simp at c
    obtain⟨rfl,_,_⟩:=c
    rcases l with r | ⟨⟨M,s1,g⟩,_,_⟩
    .have:=h.df _ F;omega
    .exact h.ix _ _ _ _ g F
   .simp only[Mu.set,h1,if_false] at c
    exact h.ix _ _ _ _ c F
theorem yk {Z:Nat->Prop} {μ:Mu} {hp:Array Obj} {v:V} {x:Value} (h:aD Z μ hp v x) (a:aL v=true):x.oneCell'=true:=by
 cases h with
 | val _ b=>cases x<;>first | rfl | (simp[plain] at b)
 | any x=>simp[aL] at a
 | agg cs c h1 d=>simp[aL] at a
 | bb cs c h1 d=>simp[aL] at a
 | _=>rfl
theorem iC {Z:Nat->Prop} {μ:Mu} {hp:Array Obj} {v:V} {x:Value} (h:aD Z μ hp v x) (o:v.cells.all aL=true):gG Z μ hp v.cells x.cells.toList:=by
 have one:∀v x,aD Z μ hp v x->x.cells = #[x]->gG Z μ hp [v] x.cells.toList:=by
  intro v x h p
  rw[p]
  exact⟨rfl,λi hi=>by
   simp at hi;subst hi;simpa using h⟩
 cases h with
 | agg cs g h1 d =>
  refine⟨by simpa [V.cells,Value.cells] using h1,λi hi=>?_⟩
  have:=d i (by simpa [V.cells] using hi)
  simpa [V.cells,Value.cells,List.getD,aaW] using this
 | any x=>simp[V.cells,aL] at o
 | bb cs g h1 d=>simp[V.cells,aL] at o
 | val _ m =>
  refine one _ _ (.val x m) ?_
  cases x<;>first | rfl | (simp[plain] at m)
 | emp k a h1 d=>exact one _ _ (.emp k a h1 d) rfl
 | ez a cap=>exact one _ _ (.ez a cap) rfl
 | jo a cap h1=>exact one _ _ (.jo a cap h1) rfl
 | aZ es b off esz cap c h1 d l n q=>exact one _ _ (.aZ es b off esz cap c h1 d l n q) rfl
 | qq id off esz a=>exact one _ _ (.qq id off esz a) rfl
 | sl id off len esz b o0 cap c e f h1 d l n=>exact one _ _ (.sl id off len esz b o0 cap c e f h1 d l n) rfl
 | ptr id i j b o0 esz h1=>exact one _ _ (.ptr id i j b o0 esz h1) rfl
 | aP e j b off c h1 d l=>exact one _ _ (.aP e j b off c h1 d l) rfl
 | mp id b o0 esz h1=>exact one _ _ (.mp id b o0 esz h1) rfl
 | fn f xs ys g r h1 d l n=>exact one _ _ (.fn f xs ys g r h1 d l n) rfl
theorem r5 {P:Program} {t:TypeId} {i:TypeInfo} (h:P.info? t=some i) (w:World):(typeInfo t).run P w=.ok i w:=by
 simp[typeInfo,h]
theorem ec {P:Program} {t:TypeId} {i:TypeInfo} (h:P.info? t=some i) (w:World):(Go.sizeOf t).run P w=.ok i.size w:=by
 simp[Go.sizeOf,r5 h]
theorem bD {P:Program} {t:TypeId} {d:TypeDesc} (h:P.underlying t=some d) (w:World):(underlying t).run P w=.ok d w:=by
 simp[underlying,h]
theorem kZ {P:Program} {t:TypeId} {i:TypeInfo} {v:Value} (h:P.info? t=some i) (a:i.zero=some v) (w:World):(zeroValue t).run P w=.ok v w:=by
 simp[zeroValue,r5 h,a]
theorem xh {P:Program} {t:TypeId} {b:Bool} (h:uW P t=some b) (w:World):(isAgg t).run P w=.ok b w:=by
 unfold uW at h
 cases hu:P.underlying t with
 | none=>grind
 | some d =>
  simp only[isAgg,Sem.run_bind,bD hu,Result.andThen_ok]
  cases d<;>simp_all
def JA (Z:Nat->Prop) (μ:Mu) (hp:Array Obj) (b off:Nat) (cs:List V):Prop:=
 ∀k,k<cs.length->∃x,cellAt hp b (off+k)=some x/\aD Z μ hp (cs.getD k .any) x
theorem sm {α:Type} {P:Program}:∀(s:Sem α) {a:α},bk P s=some a->∀w,s.run P w=.ok a w:=by
 intro s
 induction s with
 | pure a=>intro c h w;simp[bk] at h;subst h;rfl
 | program k b=>intro a h w;simp only[bk] at h;simp only[Sem.run];exact b P h w
 | _=>grind [bk]
theorem p7 {n:Nat} {p:Nat->Value->Prop} (h:∀k,k<n->∃x,p k x):∃f:Nat->Value,∀k,k<n->p k (f k):=by
 refine⟨λk=>if hk:k<n then Classical.choose (h k hk) else undef,λk hk=>?_⟩
 grind
theorem kE (b o n:Nat):Addr.add ⟨b,o,none⟩ n=⟨b,o+n,none⟩:=by
 unfold Addr.add;split
 all_goals grind
theorem wg {Z:Nat->Prop} {μ:Mu} {w:World} {P:Program} {b off j:Nat} {t:TypeId} {cs:List V} {v:V} (h:JA Z μ w.heap b off cs) (hp:sr P t cs j=some v):
  ∃x,(loadVar t ⟨b,off+j,none⟩).run P w=.ok x w/\aD Z μ w.heap v x:=by
 unfold sr at hp
 cases hi:P.info? t with
 | none=>grind
 | some i =>
  cases c:uW P t with
  | none=>grind
  | some g =>
   simp only[hi,c] at hp
   cases g with
   | true =>
    simp only at hp
    split at hp
    .simp at hp;subst hp
     have d:∀k,k<i.size->∃x,cellAt w.heap b (off+(j+k))=some x/\aD Z μ w.heap (cs.getD (j+k) .any) x:=λk hk=>h (j+k) (by omega)
     obtain⟨f,e⟩:=p7 d
     refine⟨.agg ((List.range i.size).map f).toArray,?_,?_⟩
     .simp only[loadVar,Sem.run_bind,xh c,Result.andThen_ok,if_true,ec hi]
      rw[run_loadCells w ⟨b,off+j,none⟩ i.size f (λk hk=>by rw[kE,jk,abn];exact(e k hk).1)]
      rfl
     .refine .agg _ _ (by simp;omega) (λk hk=>?_)
      have a:k<i.size:=by grind
      have:=(e k a).2
      simpa [List.getD,a,abX,ab5,aaW] using this
    .simp at hp
   | false =>
    simp only at hp
    split at hp
    .rename_i hle
     simp at hp;subst hp
     obtain⟨x,d,l⟩:=h j hle
     refine⟨x,?_,by simpa [List.getD] using l⟩
     simp only[loadVar,Sem.run_bind,xh c,Result.andThen_ok,aa9,if_false,run_load,jk,d]
    .simp at hp
theorem A9 {w:World} {b k:Nat} {v:Value} {c:Array Value} {e:TypeId} {f:Nat × Nat} (h:w.heap[b]?=some (.cells c e f)):
  w.setCell ⟨b,k,none⟩ v = { w with heap:=w.heap.setIfInBounds b (.cells (c.setIfInBounds k v) e f) }:=by
 unfold World.setCell
 congr 1
 apply Array.ext_getElem?
 intro i
 simp only[acn,abZ]
 by_cases hi:b=i
 .grind
 .simp[hi]
theorem SJ {w:World} {b k:Nat} {c:Array Value} {e:TypeId} {f:Nat × Nat} (h:w.heap[b]?=some (.cells c e f)) (a:¬ (f.1<=k/\k<f.2)):w.frozen? ⟨b,k,none⟩=false:=by
 simp only[World.frozen?,h]
 grind
theorem sF {c:Array Value} {f:Nat × Nat} (h:f.1=f.2∨c.size<=f.1):∀k,k<c.size->¬ (f.1<=k/\k<f.2):=by
 grind
theorem mf {P:Program} {b off:Nat} {e:TypeId} {f:Nat × Nat}:∀(xs:List Value) (i:Nat) (c:Array Value) (w:World),
  w.heap[b]?=some (.cells c e f)->(∀k,k<c.size->¬ (f.1<=k/\k<f.2))->off+i+xs.length<=c.size->(∀x∈xs,x.oneCell'=true) ->
  ∃d,(storeCells ⟨b,off,none⟩ xs i).run P w=.ok () { w with heap:=w.heap.setIfInBounds b (.cells d e f) }/\d.size=c.size /\
   ∀k,d[k]?=if off+i<=k/\k<off+i+xs.length then xs[k-(off+i)]? else c[k]?
 | [],i,c,w,h,_,_,_=>by
  refine⟨c,?_,rfl,λk=>?_⟩
  .simp only[storeCells,Sem.run_pure]
   congr 1
   have:w.heap.setIfInBounds b (.cells c e f)=w.heap:=by
    grind
   rw[this]
  .grind
 | x::xs,i,c,w,h,j,m,l=>by
  simp only[aaS] at m
  have n:b<w.heap.size:=by
   grind
  have a:w.cell? ⟨b,off+i,none⟩=some c[off+i]:=by
   grind [jk,cellAt]
  have hw:(w.setCell ⟨b,off+i,none⟩ x).heap[b]?=some (.cells (c.setIfInBounds (off+i) x) e f):=by
   grind [A9]
  obtain⟨d,hr,g,o⟩:=mf (P:=P) (off:=off) (f:=f) xs (i+1) (c.setIfInBounds (off+i) x) (w.setCell ⟨b,off+i,none⟩ x) hw (λk hk=>j k (by simpa using hk)) (by simp;omega) (λy p=>l y (aa6 _ p))
  refine⟨d,?_,by simpa using g,λk=>?_⟩
  .simp only[storeCells,Sem.run_bind,kE]
   rw[run_store P w _ x _ (l x abP),a]
   simp only[SJ h (j (off+i) (by omega)),aa9,if_false,Result.andThen_ok]
   rw[hr]
   congr 1
   rw[A9 h]
   simp[Array.setIfInBounds_setIfInBounds]
  .grind
theorem dM (hp:Array Obj) (b:Nat) (o:Obj):gU hp (hp.setIfInBounds b o) (· = b):=by
 intro k _ hk
 grind
theorem jY {hp:Array Obj} {b:Nat} {c a:Array Value} {e:TypeId} {f:Nat × Nat} (h:hp[b]?=some (.cells c e f)) (d:a.size=c.size):gn hp (hp.setIfInBounds b (.cells a e f)):=by
 intro k x e' g hk
 grind
theorem eW {hp:Array Obj} {b:Nat} {o:Obj} (h:b<hp.size):(hp.setIfInBounds b o)[b]?=some o:=by simp[h]
theorem fC {hp:Array Obj} {b:Nat} {o:Obj} (h:hp[b]?=some o):b<hp.size:=by
 grind
theorem AM (l cs:List V) (j:Nat) (a:j+cs.length<=l.length):(gm l j cs).length=l.length:=by
 grind [gm]
theorem IM (l cs:List V) (j k:Nat) (a:j+cs.length<=l.length) (h:j<=k/\k<j+cs.length):(gm l j cs).getD k .any=cs.getD (k-j) .any:=by
 grind [gm]
theorem Fs (l cs:List V) (j k:Nat) (a:j+cs.length<=l.length) (h:¬ (j<=k/\k<j+cs.length)):(gm l j cs).getD k .any=l.getD k .any:=by
 simp only[gm,aaG,abM]
 grind
theorem eP.store {Z:Nat->Prop} {μ:Mu} {w:World} {P:Program} {id b o0 s esz i j:Nat} {es:List (List V)} {cs:List V} {xs:List Value}
  (D:eP Z μ w.heap id (.arr esz es)) (u:μ id=some (b,o0,s)) (L:¬ Z b) (df:∀b,Z b->b<w.heap.size) (hi:i<es.length) (Q:j+cs.length<=esz) (hr:gG Z μ w.heap cs xs) (v:∀x∈xs,x.oneCell'=true):
  ∃w',(storeCells ⟨b,o0+i*esz+j,none⟩ xs).run P w=.ok () w'/\eX w w'/\gU w.heap w'.heap (· = b)/\gn w.heap w'.heap /\
   eP Z μ w'.heap id (.arr esz (es.set i (gm (es.getD i []) j cs))):=by
 obtain⟨rfl,⟨c,e,f,y,J,M⟩,hlen,l⟩:=D b o0 s u
 have hmul:(i+1)*s<=es.length*s:=abm _ hi
 have E:(i+1)*s=i*s+s:=by rw[abq];omega
 have K:=fC y
 obtain⟨B,z,n,F⟩:=mf (P:=P) (b:=b) (off:=o0+i*s+j) (e:=e) (f:=f) xs 0 c w y (sF J) (by rw[<-hr.1];omega) v
 have hm:iP Z Z μ μ w.heap (w.heap.setIfInBounds b (.cells B e f)):=
  ⟨λ_ h=>h,λk hk=>dM w.heap b _ k (df k hk) (λe=>L (e▸hk)),λ_ _ h=>h,jY y n⟩
 refine⟨_,z,⟨rfl,rfl,rfl,by simp⟩,dM _ _ _,jY y n,?_⟩
 intro R S T o
 rw[u] at o
 simp only[aaK,aaN] at o
 obtain⟨rfl,rfl,rfl⟩:=o
 have N:(gm (es.getD i []) j cs).length=s:=by
  grind [AM]
 have p:∀a,(es.set i (gm (es.getD i []) j cs)).getD a []=if a=i then gm (es.getD i []) j cs else es.getD a []:=by
  intro a
  simp only[aaG,abw]
  by_cases h1:i=a
  .subst h1;simp[hi]
  .rw[aaI h1,aaI (λe=>h1 e.symm)]
 refine⟨rfl,⟨B,e,f,by simp[K],by rw[n];exact J,by simpa [n] using M⟩,?_,?_⟩
 .intro a q
  rw[p]
  split
  .exact N
  .exact hlen a (by simpa using q)
 .intro a g q A
  have m:a<es.length:=by simpa using q
  have C:(a+1)*s=a*s+s:=by rw[abq];omega
  have r:cellAt (w.heap.setIfInBounds b (.cells B e f)) b (o0+a*s+g)=B[o0+a*s+g]?:=by simp[cellAt,K]
  have d:cellAt w.heap b (o0+a*s+g)=c[o0+a*s+g]?:=by simp[cellAt,y]
  rw[r,F,p]
  by_cases t:a=i
  .subst t
   rw[aaL rfl]
   by_cases G:j<=g/\g<j+cs.length
   .have hk:g-j<cs.length:=by omega
    have H:g-j<xs.length:=hr.1▸hk
    rw[aaL (by rw[<-hr.1];omega),show o0+a*s+g-(o0+a*s+j+0)=g-j from by omega]
    refine⟨xs[g-j],by simp[H],?_⟩
    have:=(hr.2 (g-j) hk).mono hm
    grind [IM]
   .rw[aaI (by rw[<-hr.1];omega)]
    obtain⟨x,o,I⟩:=l a g m A
    rw[d] at o
    refine⟨x,o,?_⟩
    have O:=hlen a m
    rw[Fs _ _ _ _ (by omega) G]
    exact I.mono hm
  .rw[aaI t]
   have:¬ (o0+i*s+j+0<=o0+a*s+g/\o0+a*s+g<o0+i*s+j+0+xs.length):=by
    rw[<-hr.1]
    rcases Nat.lt_or_gt_of_ne t with h1 | h1
    .have:(a+1)*s<=i*s:=abm _ h1
     omega
    .have:(i+1)*s<=a*s:=abm _ h1
     omega
   rw[aaI this]
   obtain⟨x,o,I⟩:=l a g m A
   rw[d] at o
   exact⟨x,o,I.mono hm⟩
theorem eP.newRow {Z:Nat->Prop} {μ:Mu} {hp:Array Obj} {n esz:Nat} {es:List (List V)} {c:Array Value} {e:TypeId}
  (l:μ n=none) (df:∀b,Z b->b<hp.size) (f:es.length*esz<=c.size) (hlen:∀i,i<es.length->(es.getD i []).length=esz)
  (h:∀i j,i<es.length->j<esz->∃x,c[i*esz+j]?=some x/\aD Z μ hp ((es.getD i []).getD j .any) x):
  eP Z (μ.set n (hp.size,0,esz)) (hp.push (.cells c e (0,0))) n (.arr esz es):=by
 intro b o0 s a
 simp only[Mu.set,if_true,aaK,aaN] at a
 obtain⟨rfl,rfl,rfl⟩:=a
 have hm:iP Z Z μ (μ.set n (hp.size,0,esz)) hp (hp.push (.cells c e (0,0))):=by
  refine⟨λ_ h=>h,λb d=>?_,λid x a=>?_,?_⟩
  .have:=df b d
   rw[acw,aaI (by omega)]
  .grind [Mu.set]
  .intro b m e' o d
   grind [fC]
 refine⟨rfl,⟨c,e,(0,0),by simp,.inl rfl,by simpa using f⟩,hlen,λi j hi g=>?_⟩
 obtain⟨x,a,k⟩:=h i j hi g
 exact⟨x,by simp[cellAt,a],k.mono hm⟩
theorem fH (hp:Array Obj) (o:Obj):gU hp (hp.push o) (λ_=>False):=by
 intro k hk _
 rw[acw,aaI (by omega)]
structure Ctx (Z:Nat->Prop) (μ:Mu) (hp:Array Obj) (H:View) (rd:List Nat) (n:Nat) (eff:bo):Prop where
 new:eff.fresh (μ n=none)
 obj:∀id,id∈rd->eP Z μ hp id (H id)
 lt:∀id b o s,μ id=some (b,o,s)->b<hp.size
 df:∀b,Z b->b<hp.size
 ix:∀id b o s,μ id=some (b,o,s)->¬ Z b
def bq (Z:Nat->Prop) (μ:Mu) (w:World) (n:Nat) (v:V) (eff:bo) (r:Result Next):Prop:=
 ∃nx w' μ',r=.ok nx w'/\((∃x,nx=.value x/\aD Z μ' w'.heap v x)∨(nx=.skip/\v=.any))/\eX w w'/\nj Z μ μ' w.heap w'.heap n eff
section
variable {Z:Nat->Prop} {μ μ':Mu} {w w':World} {P:Program} {H:View} {n:Nat} {v:V} {eff:bo} {rd:List Nat}
theorem jI:nj Z μ μ w.heap w.heap n .none:=⟨rfl,λ_ _ _=>rfl⟩
theorem bq.value {s:Sem Value} {x:Value} (hr:s.run P w=.ok x w') (a:aD Z μ' w'.heap v x) (b:eX w w') (he:nj Z μ μ' w.heap w'.heap n eff):
  bq Z μ w n v eff ((do pure (Next.value (<-s)):Sem Next).run P w):=
 ⟨.value x,w',μ',by simp[hr],.inl ⟨x,rfl,a⟩,b,he⟩
theorem bq.here {s:Sem Value} {x:Value} (hr:s.run P w=.ok x w) (a:aD Z μ w.heap v x):bq Z μ w n v .none ((do pure (Next.value (<-s)):Sem Next).run P w):=
 bq.value hr a (eX.refl w) jI
theorem bq.skip {s:Sem Unit} (hr:s.run P w=.ok () w') (a:eX w w') (he:nj Z μ μ' w.heap w'.heap n eff):
  bq Z μ w n .any eff ((do s;pure Next.skip:Sem Next).run P w):=
 ⟨.skip,w',μ',by simp[hr],.inr ⟨rfl,rfl⟩,a,he⟩
theorem ze (x:Value):aD Z μ w.heap (qe x) x:=by
 cases x with
 | slice a len cap =>
  cases a with
  | none =>
   cases len with
   | zero=>cases cap with
    | zero=>exact .emp 1 none (λ_=>rfl) (λh=>by simp at h)
    | succ c=>exact .any _
   | succ l=>exact .any _
  | some a=>exact .any _
 | _ =>
  simp only[qe]
  split
  .rename_i h;exact .val _ h
  .exact .any _
theorem iB (x:Value):aD Z μ w.heap (gv x) x:=by
 cases x with
 | agg cs =>
  refine .agg _ _ (by simp) (λi hi=>?_)
  have c:i<cs.size:=by grind
  simpa [c] using ze cs[i]
 | func fn a b =>
  cases fn with
  | func f =>
   simp only[gv]
   split
   .rename_i h
    exact .fn _ _ _ _ _ h.1.symm h.2.symm (λi hi=>by simp at hi) (λi hi=>by simp at hi)
   .exact .any _
  | _=>grind [gv,ze]
 | _=>grind [gv,ze]
theorem heap_alloc (w:World) (o:Obj):(w.alloc o).heap=w.heap.push o:=rfl
theorem jd (w:World) (o:Obj):eX w (w.alloc o):=⟨rfl,rfl,rfl,by rw[heap_alloc];simp⟩
theorem s9 {v:V} {x y:Value} (h:aD Z μ w.heap v x) (f:dz v=some y):y=x:=by
 have d:∀(cs:List V) (l:List Value),y0 cs=some l->∀(xs:List Value),cs.length=xs.length->(∀i,i<cs.length->aD Z μ w.heap (cs.getD i .any) (xs.getD i undef))->l=xs:=by
  intro cs
  induction cs with
  | nil=>grind [y0]
  | cons c r m =>
   intro l e xs j hr
   cases xs with
   | nil=>simp at j
   | cons x xs =>
    simp only[y0] at e
    split at e
    .rename_i a b k n
     simp at e;subst e
     have o:=hr 0 (by simp)
     have:=m b n xs (by simpa using j) (λi hi=>by simpa using hr (i+1) (by simpa using hi))
     subst this
     cases c<;>simp[toCell] at k
     subst k
     cases o;rfl
    .simp at e
 cases v with
 | val a=>simp[dz] at f;subst f;cases h;rfl
 | agg cs =>
  simp only[dz,aaT] at f
  obtain⟨l,e,rfl⟩:=f
  cases h with
  | agg _ g h1 p =>
   have:=d cs l e g.toList (by simpa using h1) (λi hi=>by simpa [aaG,aaW] using p i hi)
   subst this;simp
 | _=>simp[dz] at f
theorem pr {id i j:Nat} {x:Value} (h:aD Z μ w.heap (.ptr id i j) x):∃b o0 esz,μ id=some (b,o0,esz)/\x=.pointer (some ⟨b,o0+i*esz+j,none⟩):=by
 cases h with | ptr _ _ _ b o0 esz hm=>exact⟨b,o0,esz,hm,rfl⟩
theorem vh {e:List V} {j:Nat} {x:Value} (h:aD Z μ w.heap (.aP e j) x):∃b off,Z b/\JA Z μ w.heap b off e/\x=.pointer (some ⟨b,off+j,none⟩):=by
 cases h with | aP _ _ b off c a h1 d=>exact⟨b,off,a,λk hk=>⟨c k,h1 k hk,d k hk⟩,rfl⟩
theorem CJ {e:List V} {j b off:Nat} (c:Z b) (h:JA Z μ w.heap b off e):aD Z μ w.heap (.aP e j) (.pointer (some ⟨b,off+j,none⟩)):=by
 obtain⟨f,a⟩:=p7 h
 exact .aP e j b off f c (λk hk=>(a k hk).1) (λk hk=>(a k hk).2)
theorem rowOf {id i b o0 s esz:Nat} {es:List (List V)} (a:eP Z μ w.heap id (.arr esz es)) (c:μ id=some (b,o0,s)) (hi:i<es.length):
  s=esz/\JA Z μ w.heap b (o0+i*s) (es.getD i []):=by
 obtain⟨rfl,_,d,e⟩:=a b o0 s c
 refine⟨rfl,λk hk=>?_⟩
 rw[d i hi] at hk
 exact e i k hi hk
theorem Vm {t:TypeId} {a:V} {x:Value} (h:oG P t a H=some (v,eff,rd)) (m:aD Z μ w.heap a x) (c:Ctx Z μ w.heap H rd n eff):
  bq Z μ w n v eff ((do pure (Next.value (<-Instr.loadAt t x)):Sem Next).run P w):=by
 unfold oG at h
 split at h
 .rename_i id i j
  obtain⟨b,o0,esz,hm,rfl⟩:=pr m
  split at h
  .rename_i e es hH
   split at h
   .rename_i hi
    simp only[aaT] at h
    obtain⟨v',d,h⟩:=h
    obtain⟨rfl,rfl,rfl⟩:=h
    have f:=c.obj id (by simp)
    rw[hH] at f
    obtain⟨y,k,l⟩:=wg (P:=P) (rowOf f hm hi).2 d
    exact bq.here (by simp[Instr.loadAt,Instr.sureAddr,k]) l
   .simp at h
  .simp at h
 .obtain⟨b,off,o,g,rfl⟩:=vh m
  simp only[aaT] at h
  obtain⟨v',d,h⟩:=h
  obtain⟨rfl,rfl,rfl⟩:=h
  obtain⟨y,k,l⟩:=wg (P:=P) g d
  exact bq.here (by simp[Instr.loadAt,Instr.sureAddr,k]) l
 .simp at h
theorem zP {t:TypeId} {i:TypeInfo} (h:P.info? t=some i):P.cellsOf t=i.size:=by simp[Program.cellsOf,h]
theorem Xz {cs:List V} {xs:List Value} (h:gG Z μ w.heap cs xs) (c:cs.all aL=true):∀x∈xs,x.oneCell'=true:=by
 intro x b
 obtain⟨i,hi,rfl⟩:=acx b
 have a:i<cs.length:=h.1▸hi
 have:=h.2 i a
 simp only[aaG,aaH hi,aaH a,aaZ] at this
 grind [yk]
theorem TE {t:TypeId} {a b:V} {x y:Value} (h:s8 P t a b H=some (v,eff,rd)) (l:aD Z μ w.heap a x) (m:aD Z μ w.heap b y) (c:Ctx Z μ w.heap H rd n eff):
  bq Z μ w n v eff ((do Instr.storeAt t x y;pure Next.skip:Sem Next).run P w):=by
 unfold s8 at h
 split at h
 .rename_i id i j
  obtain⟨k,o0,s,hm,rfl⟩:=pr l
  split at h
  .rename_i esz es hH
   split at h
   .rename_i o
    obtain⟨hi,hlen,p,f,d⟩:=o
    obtain⟨rfl,rfl,rfl⟩:=h
    have e:=c.obj id (by simp)
    rw[hH] at e
    have q:=(e k o0 s hm).1
    subst q
    have hr:=iC m f
    obtain⟨w',h1,r,u,z,A⟩:=e.store (P:=P) hm (c.ix _ _ _ _ hm) c.df hi p hr (Xz hr f)
    obtain⟨ti,g⟩:=Option.isSome_iff_exists.1 d
    refine bq.skip ?_ r ⟨k,o0,s,hm,rfl,u,z,A⟩
    have:y.cells.size=ti.size:=by rw[<-zP g,<-hlen,hr.1];simp
    simp[Instr.storeAt,Instr.sureAddr,storeVar,ec g,this,h1]
   .simp at h
  .simp at h
 .simp at h
theorem Nw {cs:List V} {x:Value} {t:TypeId} (h:nP cs n=some (v,eff,rd)) (hr:cs.all aL=true->gG Z μ w.heap cs x.cells.toList) (c:Ctx Z μ w.heap H rd n eff):
  bq Z μ w n v eff ((do pure (Next.value (.pointer (some (<-newVar t x)))):Sem Next).run P w):=by
 unfold nP at h
 split at h
 .rename_i a
  obtain⟨rfl,rfl,rfl⟩:=h
  have hr:=hr a
  refine⟨.value (.pointer (some ⟨w.heap.size,0,none⟩)),w.alloc (.cells x.cells t),μ.set n (w.heap.size,0,cs.length),by simp[newVar,newRow],.inl ⟨_,rfl,?_⟩,jd _ _,?_⟩
  .have:=aD.ptr (Z:=Z) (μ:=μ.set n (w.heap.size,0,cs.length)) (hp:=(w.alloc (.cells x.cells t)).heap) n 0 0 w.heap.size 0 cs.length (by simp[Mu.set])
   grind
  .refine⟨w.heap.size,0,cs.length,aaQ _,by rw[heap_alloc];simp,rfl,fH _ _,?_⟩
   refine eP.newRow c.new c.df (by rw[hr.1];simp) (λi hi=>by simp at hi;subst hi;simp) (λi j hi b=>?_)
   simp at hi;subst hi
   have d:j<x.cells.size:=by have:=hr.1;simp at this;omega
   have:=hr.2 j b
   grind
 .simp at h
theorem xW {t:TypeId} {f off s:Nat} {a:TypeId} (h:r6 P t f=some (off,s,a)):
  ∃b x i,P.underlying t=some (.struct b)/\b[f]?=some x/\P.info? x.type=some i/\off=x.offset/\s=i.size/\a=x.type:=by
 unfold r6 at h
 split at h
 .grind
 .simp at h
theorem Jm {t:TypeId} {a:V} {x:Value} {f:Nat} (h:mT P t a f=some (v,eff,rd)) (g:aD Z μ w.heap a x):
  bq Z μ w n v eff ((do pure (Next.value (<-Instr.fieldAt t x f)):Sem Next).run P w):=by
 unfold mT at h
 split at h
 .rename_i off s p d
  obtain⟨q,fd,i,hu,e,hi,rfl,rfl,rfl⟩:=xW d
  split at h
  .simp at h
  .rename_i l
   have c:∀b o,(Instr.fieldAt t (.pointer (some ⟨b,o,none⟩)) f).run P w=.ok (.pointer (some ⟨b,o+fd.offset,none⟩)) w:=by
    simp[Instr.fieldAt,bD hu,e,Instr.sureAddr,fieldPlace,ec hi,l,kE]
   split at h
   .rename_i id m j
    obtain⟨b,o0,esz,hm,rfl⟩:=pr g
    obtain⟨rfl,rfl,rfl⟩:=h
    refine bq.here (c _ _) ?_
    have:=aD.ptr (Z:=Z) (μ:=μ) (hp:=w.heap) id m (j+fd.offset) b o0 esz hm
    grind
   .obtain⟨b,off,r,k,rfl⟩:=vh g
    grind [bq.here,CJ]
   .simp at h
 .simp at h
theorem Xr {t:TypeId} {cs:List V} {a:Array Value} {off:Nat} (h:sr P t cs off=some v) (h1:cs.length=a.size) (e:∀i,i<cs.length->aD Z μ w.heap (cs.getD i .any) (a.getD i undef)):
  ∃x,(part t a off).run P w=.ok x w/\aD Z μ w.heap v x:=by
 unfold sr at h
 cases hi:P.info? t with
 | none=>grind
 | some i =>
  cases c:uW P t with
  | none=>grind
  | some g =>
   simp only[hi,c] at h
   cases g with
   | true =>
    simp only at h
    split at h
    .simp at h;subst h
     refine⟨.agg (a.extract off (off+i.size)),by simp[part,xh c,ec hi],?_⟩
     refine .agg _ _ (by simp;omega) (λk hk=>?_)
     have d:k<i.size:=by grind
     have:=e (off+k) (by omega)
     simp only[aaG,aaW,abX,ab5,d,if_true,Array.getElem?_extract] at this ⊢
     grind
    .simp at h
   | false =>
    simp only at h
    split at h
    .rename_i hle
     simp at h;subst h
     have:=e off hle
     have b:off<a.size:=h1▸hle
     refine⟨a[off],by simp[part,xh c,b],?_⟩
     simpa [aaG,aaW,b] using this
    .simp at h
theorem SK {t:TypeId} {a:V} {x:Value} {f:Nat} (h:yw P t a f=some (v,eff,rd)) (e:aD Z μ w.heap a x):
  bq Z μ w n v eff ((do pure (Next.value (<-Instr.field t x f)):Sem Next).run P w):=by
 unfold yw at h
 split at h
 .rename_i off s m cs b
  obtain⟨o,fd,i,hu,c,hi,rfl,rfl,rfl⟩:=xW b
  simp only[aaT] at h
  obtain⟨v',d,h⟩:=h
  obtain⟨rfl,rfl,rfl⟩:=h
  cases e with
  | agg _ g h1 j =>
   obtain⟨y,k,l⟩:=Xr (P:=P) d h1 j
   exact bq.here (by simp[Instr.field,bD hu,c,asAgg,k]) l
 .simp at h
theorem mD {a:V} {q:Nat} (h:asNat a=some q):∃k,a=.val (.int k q):=by
 unfold asNat at h
 grind
theorem fc {y x:Value} (h:aD Z μ w.heap (.val y) x):x=y:=by cases h;rfl
theorem Jn {t:TypeId} {a i:V} {x y:Value} (h:nz P t a i=some (v,eff,rd)) (r:aD Z μ w.heap a x) (s:aD Z μ w.heap i y):
  bq Z μ w n v eff ((do pure (Next.value (<-Instr.indexAt t x y)):Sem Next).run P w):=by
 unfold nz at h
 split at h
 .simp at h
 .rename_i q B
  obtain⟨k,rfl⟩:=mD B
  have s:=fc s
  subst s
  split at h
  .rename_i e hu
   split at h
   .simp at h
   .rename_i ti g
    split at h
    .rename_i id off len esz
     split at h
     .rename_i m
      obtain⟨d,rfl⟩:=m
      obtain⟨rfl,rfl,rfl⟩:=h
      cases r with
      | qq=>omega
      | sl _ _ _ _ b o0 cap c e' f hm hle D E =>
       refine bq.here (x:=.pointer (some ⟨b,o0+off*ti.size+q*ti.size,none⟩)) ?_ ?_
       .simp[Instr.indexAt,asIntOf,bD hu,ec g,kE,d]
       .have:=aD.ptr (Z:=Z) (μ:=μ) (hp:=w.heap) id (off+q) 0 b o0 ti.size hm
        grind
     .simp at h
    .split at h
     .rename_i m
      obtain⟨d,u⟩:=m
      obtain⟨rfl,rfl,rfl⟩:=h
      cases r with
      | jo=>simp at d
      | aZ _ b off esz cap c z hle l m C =>
       have o:esz=ti.size:=(l q d).symm.trans u
       subst o
       refine bq.here (x:=.pointer (some ⟨b,off+q*ti.size+0,none⟩)) ?_ ?_
       .simp[Instr.indexAt,asIntOf,bD hu,ec g,kE,d]
       .exact CJ z (λk hk=>⟨c q k,m q k d (by rw[l q d] at hk;exact hk),C q k d (by rw[l q d] at hk;exact hk)⟩)
     .simp at h
    .simp at h
  .rename_i len e hu
   split at h
   .simp at h
   .rename_i ti g
    split at h
    .rename_i d
     split at h
     .rename_i id A j
      obtain⟨b,o0,esz,hm,rfl⟩:=pr r
      obtain⟨rfl,rfl,rfl⟩:=h
      refine bq.here (x:=.pointer (some ⟨b,o0+A*esz+j+q*ti.size,none⟩)) ?_ ?_
      .simp[Instr.indexAt,Instr.sureAddr,asIntOf,bD hu,ec g,kE,d]
      .have:=aD.ptr (Z:=Z) (μ:=μ) (hp:=w.heap) id A (j+q*ti.size) b o0 esz hm
       grind
     .rename_i e' j
      obtain⟨b,off,z,p,rfl⟩:=vh r
      obtain⟨rfl,rfl,rfl⟩:=h
      refine bq.here (x:=.pointer (some ⟨b,off+j+q*ti.size,none⟩)) ?_ ?_
      .simp[Instr.indexAt,Instr.sureAddr,asIntOf,bD hu,ec g,kE,d]
      .have:=CJ (w:=w) (j:=j+q*ti.size) z p
       grind
     .simp at h
    .simp at h
  .simp at h
end
section
variable {Z:Nat->Prop} {μ μ':Mu} {w w':World} {P:Program} {H:View} {n:Nat} {v:V} {eff:bo} {rd:List Nat}
def Bh (Z:Nat->Prop) (μ:Mu) (hp:Array Obj):Option V->Option Value->Prop
 | none,none=>True
 | some v,some x=>aD Z μ hp v x
 | _,_=>False
theorem gQ {o:Option V} {a:Option Value} {d q:Nat} (h:bound d o=some q) (b:Bh Z μ w.heap o a):(a=none/\q=d)∨∃k,a=some (.int k q):=by
 cases o with
 | none=>cases a with
  | none=>simp[bound] at h;exact .inl ⟨rfl,h.symm⟩
  | some x=>exact b.elim
 | some v=>cases a with
  | none=>exact b.elim
  | some x =>
   obtain⟨k,rfl⟩:=mD h
   exact .inr ⟨k,by rw[fc b]⟩
theorem eF {a:V} {x:Value} {m:Nat} (h:aD Z μ w.heap a x) (hm:cE a=some m):∃ad cap,x=.slice ad m cap/\m<=cap:=by
 cases h with
 | emp k a=>simp[cE] at hm;subst hm;exact⟨_,_,rfl,aaQ _⟩
 | ez a cap=>simp[cE] at hm;subst hm;exact⟨_,_,rfl,abY _⟩
 | jo a cap=>simp[cE] at hm;subst hm;exact⟨_,_,rfl,abY _⟩
 | aZ es b off esz cap c i hle d j l=>simp[cE] at hm;subst hm;exact⟨_,_,rfl,hle⟩
 | qq id off esz a=>simp[cE] at hm;subst hm;exact⟨_,_,rfl,aaQ _⟩
 | sl id off len esz b o0 cap c e f g hle n o=>simp[cE] at hm;subst hm;exact⟨_,_,rfl,hle⟩
 | _=>simp[cE] at hm
theorem qD {len cap l h:Nat} {lo hi:Option Value} (a:(lo=none/\l=0)∨∃k,lo=some (.int k l)) (b:(hi=none/\h=len)∨∃k,hi=some (.int k h)) (h1:l<=h) (c:h<=cap):
  (Instr.sliceBounds true len cap lo hi none).run P w=.ok (l,h,cap) w:=by
 rcases a with ⟨rfl,rfl⟩ | ⟨k,rfl⟩<;>rcases b with ⟨rfl,rfl⟩ | ⟨d,rfl⟩<;>simp[Instr.sliceBounds,Instr.sliceBound,asIntOf,h1,c]
theorem Tf {t:TypeId} {a:V} {x:Value} {lo hi O:Option V} {s u y:Option Value} (h:vA P t a lo hi O=some (v,eff,rd)) (A:aD Z μ w.heap a x)
  (z:Bh Z μ w.heap lo s) (q:Bh Z μ w.heap hi u) (C:Bh Z μ w.heap O y):
  bq Z μ w n v eff ((do pure (Next.value (<-Instr.sliceAt t x s u y)):Sem Next).run P w):=by
 unfold vA at h
 cases hu:de P t with
 | none=>simp[hu] at h
 | some e =>
  have E:P.underlying t=some (.slice e):=by
   unfold de at hu;split at hu<;>simp_all
  cases D:P.info? e with
  | none=>simp[hu,D] at h
  | some ti =>
   simp only[hu,D] at h
   have g:∀ad len cap l r m,(Instr.sliceBounds true len cap s u y).run P w=.ok (l,r,m) w ->
     (Instr.sliceAt t (.slice ad len cap) s u y).run P w=.ok (.slice (if m=l then ad else ad.map (·.add (l*ti.size))) (r-l) (m-l)) w:=by
    intro ad len cap l r m Q
    simp[Instr.sliceAt,Instr.slice,bD E,Q,ec D]
   cases O with
   | some m =>
    cases y with
    | none=>exact C.elim
    | some m' =>
     simp only at h
     split at h
     .rename_i o p R
      split at h
      .simp at h
      .rename_i F
       obtain⟨k3,rfl⟩:=mD R
       have S:=fc C
       subst S
       have G:∀len cap,(Instr.sliceBounds true len cap s u (some (.int k3 ((0:Nat):Int)))).run P w=.ok (0,0,0) w:=by
        intro len cap
        rcases gQ o z with ⟨rfl,_⟩ | ⟨k,rfl⟩<;>rcases gQ p q with ⟨rfl,_⟩ | ⟨k',rfl⟩
        .cases hi with
         | none=>simp at F
         | some _=>exact q.elim
        .simp[Instr.sliceBounds,Instr.sliceBound,asIntOf]
        .cases hi with
         | none=>simp at F
         | some _=>exact q.elim
        .simp[Instr.sliceBounds,Instr.sliceBound,asIntOf]
       have fin:∀ad len cap,aD Z μ w.heap a (.slice ad len cap)->x=.slice ad len cap->bq Z μ w n (.emp 0) .none ((do pure (Next.value (<-Instr.sliceAt t x s u (some (.int k3 ((0:Nat):Int))))):Sem Next).run P w):=by
        intro ad len cap _ d
        subst d
        refine bq.here (g ad len cap 0 0 0 (G len cap)) ?_
        simpa using aD.emp (Z:=Z) (μ:=μ) (hp:=w.heap) 0 ad (by simp) (by simp)
       split at h
       .simp only[aaK,aaN] at h
        obtain⟨rfl,rfl,rfl⟩:=h
        obtain⟨ad,cap,d,_⟩:=eF A rfl
        exact fin _ _ _ (d▸A) d
       .simp only[aaK,aaN] at h
        obtain⟨rfl,rfl,rfl⟩:=h
        obtain⟨ad,cap,d,_⟩:=eF A rfl
        exact fin _ _ _ (d▸A) d
       .simp only[aaK,aaN] at h
        obtain⟨rfl,rfl,rfl⟩:=h
        obtain⟨ad,cap,d,_⟩:=eF A rfl
        exact fin _ _ _ (d▸A) d
       .simp only[aaK,aaN] at h
        obtain⟨rfl,rfl,rfl⟩:=h
        obtain⟨ad,cap,d,_⟩:=eF A rfl
        exact fin _ _ _ (d▸A) d
       .simp at h
     .simp at h
   | none =>
    cases y with
    | some _=>exact C.elim
    | none =>
     simp only at h
     split at h
     .rename_i id off len esz
      split at h
      .rename_i l r o p
       split at h
       .rename_i T
        obtain⟨h1,N,rfl⟩:=T
        simp only[aaK,aaN] at h
        obtain⟨rfl,rfl,rfl⟩:=h
        cases A with
        | qq _ _ _ ad =>
         obtain rfl:l=0:=by omega
         obtain rfl:r=0:=by omega
         refine bq.here (g ad 0 0 0 0 0 (qD (gQ o z) (gQ p q) (by omega) (by omega))) ?_
         simpa using aD.qq (Z:=Z) (μ:=μ) (hp:=w.heap) id (off+0) ti.size ad
        | sl _ _ _ _ b o0 cap c e' f hm hle Q hs =>
         refine bq.here (g _ len cap l r cap (qD (gQ o z) (gQ p q) h1 (by omega))) ?_
         by_cases H:cap=l
         .have e1:r-l=0:=by omega
          have e2:cap-l=0:=by omega
          rw[aaL H,e1,e2]
          exact aD.qq _ _ _ _
         .rw[aaI H]
          simp only[aaU,kE]
          have:=aD.sl (Z:=Z) (μ:=μ) (hp:=w.heap) id (off+l) (r-l) ti.size b o0 (cap-l) c e' f hm (by omega) Q (by rw[show off+l+(cap-l)=off+cap from by omega];exact hs)
          simpa [abq,abn] using this
       .simp at h
      .simp at h
     .rename_i es
      split at h
      .rename_i l r o p
       split at h
       .rename_i T
        obtain⟨h1,N,I⟩:=T
        simp only[aaK,aaN] at h
        obtain⟨rfl,rfl,rfl⟩:=h
        cases A with
        | jo ad cap U =>
         simp at N
         obtain rfl:r=0:=by omega
         obtain rfl:l=0:=by omega
         refine bq.here (g ad 0 cap 0 0 cap (qD (gQ o z) (gQ p q) (by omega) (by omega))) ?_
         refine aD.jo _ _ (λhn=>?_)
         by_cases J:cap=0
         .omega
         .rw[aaI J] at hn
          cases ad with
          | none=>exact absurd (U rfl) J
          | some a=>simp at hn
        | aZ _ b off esz cap c hz hle K W hv =>
         refine bq.here (g _ es.length cap l r cap (qD (gQ o z) (gQ p q) h1 (by omega))) ?_
         by_cases X:l=r
         .subst X
          simpa using aD.jo (Z:=Z) (μ:=μ) (hp:=w.heap) (if cap=l then some ⟨b,off,none⟩ else some (Addr.add ⟨b,off,none⟩ (l*ti.size))) (cap-l) (by split<;>simp)
         .have L:0<es.length:=by omega
          have M:esz=ti.size:=by
           have h0:=K 0 L
           have:=abc.1 I (es[0]) (aaP _)
           simp at this
           simp[L] at h0
           omega
          subst M
          rw[aaI (by omega)]
          simp only[aaU,kE]
          have hlen:((es.drop l).take (r-l)).length=r-l:=by simp;omega
          have B:∀i,i<r-l->((es.drop l).take (r-l)).getD i []=es.getD (l+i) []:=by
           intro i hi
           simp[hi]
          have:=aD.aZ (Z:=Z) (μ:=μ) (hp:=w.heap) ((es.drop l).take (r-l)) b (off+l*ti.size) ti.size (cap-l) (λi j=>c (l+i) j) hz (by omega)
           (λi hi=>by rw[hlen] at hi;rw[B i hi];exact K _ (by omega))
           (λi j hi Y=>by
            rw[hlen] at hi
            have:=W (l+i) j (by omega) Y
            rw[abq] at this
            rw[<-this];congr 1;omega)
           (λi j hi Y=>by rw[hlen] at hi;rw[B i hi];exact hv _ _ (by omega) Y)
          rw[hlen] at this
          exact this
       .simp at h
      .simp at h
     .split at h
      .rename_i o p
       simp only[aaK,aaN] at h
       obtain⟨rfl,rfl,rfl⟩:=h
       cases A with
       | emp _ ad h1 N =>
        refine bq.here (g ad 0 0 0 0 0 (qD (gQ o z) (gQ p q) (by omega) (by omega))) ?_
        simpa using aD.emp (Z:=Z) (μ:=μ) (hp:=w.heap) _ ad h1 N
      .simp at h
     .simp at h
theorem wrap_small {q:Nat} (h:q<aF):IntKind.i64.wrap (q:Int)=q:=by
 unfold aF at h
 exact IntWalk.i64_in _ (by omega)
theorem jJ {t:TypeId} {i:TypeInfo} {z:List V} (hi:P.info? t=some i) (h:zeroCells P t=some z):∃a,i.zero=some a/\z=(gv a).cells:=by
 unfold zeroCells at h
 simp only[hi] at h
 cases b:i.zero with
 | none=>simp[b] at h
 | some a=>simp[b] at h;exact⟨a,rfl,h.symm⟩
theorem gN {i j s l:Nat} (hi:i<l) (a:j<s):i*s+j<l*s:=by
 have:(i+1)*s<=l*s:=abm _ hi
 rw[abq] at this;omega
theorem Jt {t:TypeId} {a b:V} {x y:Value} (h:mX P t a b n=some (v,eff,rd)) (C:aD Z μ w.heap a x) (D:aD Z μ w.heap b y) (c:Ctx Z μ w.heap H rd n eff):
  bq Z μ w n v eff ((do pure (Next.value (<-Instr.makeSlice t x y)):Sem Next).run P w):=by
 unfold mX at h
 cases hu:de P t with
 | none=>simp[hu] at h
 | some e =>
  have r:P.underlying t=some (.slice e):=by
   unfold de at hu;split at hu<;>simp_all
  cases d:P.info? e with
  | none=>simp[hu,d] at h
  | some ti =>
   simp only[hu,d] at h
   split at h
   .rename_i l f N O
    obtain⟨Q,rfl⟩:=mD N
    obtain⟨k2,rfl⟩:=mD O
    have C:=fc C
    have D:=fc D
    subst C D
    split at h
    .rename_i m
     obtain⟨h1,R,S⟩:=m
     have T:IntKind.i64.wrap (l:Int)=l:=wrap_small (by omega)
     have U:IntKind.i64.wrap (f:Int)=f:=wrap_small R
     have g1:¬ (((ti.bytes:Int)*(f:Int))>2 ^ 48):=by
      have:((ti.bytes*f:Nat):Int)<2 ^ 48:=by unfold aF at S;omega
      push_cast at this;omega
     have k:∀s:Array Value,(f*ti.size=0/\s = #[])∨(f*ti.size≠0/\∃g,(zeroValue e).run P w=.ok g w/\s=g.cells) ->
       (Instr.makeSlice t (.int Q (l:Int)) (.int k2 (f:Int))).run P w=.ok (.slice (some ⟨w.heap.size,0,none⟩) l f) (w.alloc (.cells ((Array.range (f*ti.size)).map (s[· % s.size]!)) e)):=by
      intro s E
      have g2:¬ ((f:Int)<0):=by omega
      have g3:¬ ((l:Int)<0):=by omega
      have g4:¬ ((l:Int)>(f:Int)):=by omega
      simp only[Instr.makeSlice,Sem.run_bind,bD r,Result.andThen_ok,asInt,asIntOf,Sem.run_pure,r5 d,T,U]
      simp only[g1,g2,g3,g4,decide_false,Bool.or_false,acM,aa9,if_false,Sem.run_bind,run_askRoom,Result.andThen_ok,ec d,abk]
      rcases E with ⟨o,rfl⟩ | ⟨o,g,p,rfl⟩
      .simp[o,newRow]
      .simp[o,newRow,p]
     split at h
     .rename_i F
      subst F
      simp only[aaK,aaN] at h
      obtain⟨rfl,rfl,rfl⟩:=h
      obtain rfl:l=0:=by omega
      exact bq.value (k #[] (.inl ⟨by simp,rfl⟩)) (.emp 2 _ (by simp) (by simp)) (jd _ _) ⟨rfl,fH _ _⟩
     .split at h
      .simp at h
      .rename_i L W
       split at h
       .simp at h
       .rename_i z E
        split at h
        .rename_i G
         obtain⟨q,u⟩:=G
         simp only[aaK,aaN] at h
         obtain⟨rfl,rfl,rfl⟩:=h
         obtain⟨g,p,rfl⟩:=jJ d E
         have hr:=iC (iB (Z:=Z) (μ:=μ) (w:=w) g) u
         have I:g.cells.size=ti.size:=by rw[<-q,hr.1];simp
         have M:(Array.range (f*ti.size)).size=f*ti.size:=by simp
         have A:f*ti.size≠0:=by
          intro o;rcases Nat.mul_eq_zero.1 o with o | o<;>contradiction
         refine bq.value (μ':=μ.set n (w.heap.size,0,ti.size)) (k g.cells (.inr ⟨A,g,kZ d p w,rfl⟩)) ?_ (jd _ _) ?_
         .have:=aD.sl (Z:=Z) (μ:=μ.set n (w.heap.size,0,ti.size)) (hp:=(w.alloc (.cells ((Array.range (f*ti.size)).map (g.cells[· % g.cells.size]!)) e)).heap) n 0 l ti.size w.heap.size 0 f _ e (0,0) (by simp[Mu.set]) h1 (by rw[heap_alloc];simp;rfl) (by simp)
          simpa using this
         .refine⟨w.heap.size,0,ti.size,aaQ _,by rw[heap_alloc];simp,rfl,fH _ _,?_⟩
          refine eP.newRow c.new c.df ?_ ?_ ?_
          .simp;exact abm _ h1
          .intro i hi;simp at hi;simp[hi,q]
          .intro i j hi J
           simp at hi
           have K:i*ti.size+j<f*ti.size:=gN (by omega) J
           have B:(i*ti.size+j) % ti.size=j:=by
            rw[Nat.mul_comm,Nat.mul_add_mod];exact Nat.mod_eq_of_lt J
           refine⟨g.cells[j]'(by omega),?_,?_⟩
           .simp[K,I,B,getElem!_pos g.cells j (by omega)]
           .have:=hr.2 j (by rw[q];exact J)
            simpa [aaG,hi,show j<g.cells.size from by omega] using this
        .simp at h
    .simp at h
   .simp at h
end
section
variable {Z:Nat->Prop} {μ μ':Mu} {w w':World} {P:Program} {H:View} {n:Nat} {v:V} {eff:bo} {rd:List Nat}
structure Flat (Z:Nat->Prop) (μ:Mu) (hp:Array Obj) (size:Nat) (xs:List (List V)) (fl:Array Value):Prop where
 len:fl.size=xs.length*size
 rel:∀i j,i<xs.length->j<size->aD Z μ hp ((xs.getD i []).getD j .any) (fl.getD (i*size+j) undef)
theorem yy {b off size N:Nat} {c:Nat->Nat->Value} (h:∀i j,i<N->j<size->cellAt w.heap b (off+i*size+j)=some (c i j)) {m:Nat} (hm:m<=N):
  (loadCells ⟨b,off,none⟩ (m*size)).run P w=.ok ((((List.range (N*size)).map λk=>c (k / size) (k % size)).toArray).extract 0 (m*size)) w:=by
 have hle:m*size<=N*size:=abm _ hm
 rw[run_loadCells w ⟨b,off,none⟩ (m*size) (λk=>c (k / size) (k % size)) (λk hk=>?_)]
 .congr 1
  apply Array.ext_getElem?
  intro k
  simp only[abp,Array.getElem?_extract,aaJ]
  by_cases hk:k<m*size
  .simp[hk,show k<N*size from by omega,Nat.min_eq_left hm]
  .simp[hk,Nat.min_eq_left hm]
 .have d:0<size:=by
   rcases Nat.eq_zero_or_pos size with a | a
   .subst a;simp at hk
   .exact a
  have h1:k / size<m:=(Nat.div_lt_iff_lt_mul d).2 hk
  have e:k % size<size:=Nat.mod_lt _ d
  rw[kE,jk,<-h (k / size) (k % size) (by omega) e]
  congr 1
  have:=Nat.div_add_mod k size
  rw[Nat.mul_comm] at this
  omega
theorem Iw {size N:Nat} {c:Nat->Nat->Value} {xs:List (List V)} (d:xs.length=N) (h:∀i j,i<N->j<size->aD Z μ w.heap ((xs.getD i []).getD j .any) (c i j)):
  Flat Z μ w.heap size xs ((List.range (N*size)).map λk=>c (k / size) (k % size)).toArray:=by
 refine⟨by simp[d],λi j hi a=>?_⟩
 have b:i*size+j<N*size:=gN (by omega) a
 have h1:(i*size+j) / size=i:=by
  rw[Nat.mul_comm,Nat.mul_add_div (by omega),Nat.div_eq_of_lt a];simp
 have e:(i*size+j) % size=j:=by
  rw[Nat.mul_comm,Nat.mul_add_mod];exact Nat.mod_eq_of_lt a
 simpa [aaW,b,h1,e] using h i j (by omega) a
theorem uL {ad:Option Addr} {cap size m:Nat} (hm:m<=0):(Builtin.firstCells size m (.slice ad 0 cap)).run P w=.ok ((#[]:Array Value).extract 0 (m*size)) w:=by
 obtain rfl:m=0:=by omega
 cases ad with
 | none=>simp[Builtin.firstCells]
 | some a=>simp[Builtin.firstCells,loadCells,loadCellsFrom]
theorem bsize (s:ByteArray):s.data.toList.length=s.size:=by rw[Array.length_toList];rfl
theorem sg {x:V} {C:Value} {xs:List (List V)} {size:Nat} (h:bM H x=some (xs,rd)) (d:aD Z μ w.heap x C) (u:∀id,id∈rd->eP Z μ w.heap id (H id))
  (r:∀e∈xs,e.length=size):
  ∃v,Flat Z μ w.heap size xs v/\(Builtin.lenOf C).run P w=.ok xs.length w/\∀m,m<=xs.length->(Builtin.firstCells size m C).run P w=.ok (v.extract 0 (m*size)) w:=by
 have nil:∀(ad:Option Addr) cap,∃v,Flat Z μ w.heap size [] v/\(Builtin.lenOf (.slice ad 0 cap)).run P w=.ok ([]:List (List V)).length w /\
   ∀m,m<=([]:List (List V)).length->(Builtin.firstCells size m (.slice ad 0 cap)).run P w=.ok (v.extract 0 (m*size)) w:=
  λad cap=>⟨#[],⟨by simp,λi j hi=>by simp at hi⟩,by simp[Builtin.lenOf],λm hm=>uL (by simpa using hm)⟩
 unfold bM at h
 split at h
 .simp only[aaK,aaN] at h
  obtain⟨rfl,rfl⟩:=h
  obtain⟨ad,cap,rfl,_⟩:=eF d rfl
  exact nil ad cap
 .simp only[aaK,aaN] at h
  obtain⟨rfl,rfl⟩:=h
  obtain⟨ad,cap,rfl,_⟩:=eF d rfl
  exact nil ad cap
 .rename_i es
  simp only[aaK,aaN] at h
  obtain⟨rfl,rfl⟩:=h
  cases d with
  | jo a cap=>exact nil a cap
  | aZ _ b off esz cap c R hle D M y =>
   by_cases k:es=[]
   .subst k;exact nil _ cap
   .have t:0<es.length:=acO.2 k
    have:esz=size:=by
     have h1:=D 0 t
     have E:=r es[0] (aaP _)
     simp[t] at h1
     omega
    subst this
    exact⟨_,Iw rfl y,by simp[Builtin.lenOf],λm hm=>yy M hm⟩
 .simp only[aaK,aaN] at h
  obtain⟨rfl,rfl⟩:=h
  obtain⟨ad,cap,rfl,_⟩:=eF d rfl
  exact nil ad cap
 .rename_i id off len esz hlen
  split at h
  .rename_i J es hH
   split at h
   .rename_i hle
    simp only[aaK,aaN] at h
    obtain⟨rfl,rfl⟩:=h
    cases d with
    | qq=>exact(hlen rfl).elim
    | sl _ _ _ _ b o0 cap c e' f hm K S T =>
     have z:=u id (by simp)
     rw[hH] at z
     obtain⟨rfl,_,N,O⟩:=z b o0 esz hm
     have g:((es.drop off).take len).length=len:=by simp;omega
     have l:∀i,i<len->((es.drop off).take len).getD i []=es.getD (off+i) []:=by
      intro i hi;simp[hi]
     have A:0<len:=by
      rcases Nat.eq_zero_or_pos len with t | t
      .exact(hlen t).elim
      .exact t
     have:esz=size:=by
      have h1:=N off (by omega)
      have E:=r (((es.drop off).take len)[0]'(by omega)) (aaP _)
      have L:=l 0 A
      simp only[aaG,aaH (show 0<((es.drop off).take len).length by omega),aaZ] at L
      rw[L] at E
      simp only[aaG,acf] at h1 E
      omega
     subst this
     have d:∀i,∃ci:Nat->Value,∀j,j<esz->i<len->cellAt w.heap b (o0+off*esz+i*esz+j)=some (ci j)/\aD Z μ w.heap ((((es.drop off).take len).getD i []).getD j .any) (ci j):=by
      intro i
      by_cases hi:i<len
      .obtain⟨ci,F⟩:=p7 (n:=esz) (p:=λj x=>cellAt w.heap b (o0+off*esz+i*esz+j)=some x/\aD Z μ w.heap ((((es.drop off).take len).getD i []).getD j .any) x) (λj o=>by
        obtain⟨x,d,y⟩:=O (off+i) j (by omega) o
        rw[abq,<-abn] at d
        exact⟨x,d,by rw[l i hi];exact y⟩)
       exact⟨ci,λj o _=>F j o⟩
      .exact⟨λ_=>undef,λj _ h=>absurd h hi⟩
     obtain⟨Q,B⟩:=Classical.axiomOfChoice d
     refine⟨_,Iw (c:=Q) g (λi j hi o=>(B i j o hi).2),by simp[Builtin.lenOf];omega,λm hm=>?_⟩
     rw[g] at hm
     exact yy (λi j hi o=>(B i j o hi).1) hm
   .simp at h
  .simp at h
 .rename_i s
  simp only[aaK,aaN] at h
  obtain⟨rfl,rfl⟩:=h
  have y:=fc d
  subst y
  have q:(s.data.toList.map λb=>([V.val (Value.int .u8 b.toNat)]:List V)).length=s.size:=by rw[aaM,bsize]
  have hlen:(Builtin.lenOf (.string s)).run P w=.ok s.size w:=rfl
  by_cases G:s.size=0
  .refine⟨#[],⟨by rw[q,G];simp,λi j hi=>by rw[q] at hi;omega⟩,by rw[q];exact hlen,λm hm=>?_⟩
   rw[q] at hm
   obtain rfl:m=0:=by omega
   have:(s.extract 0 0).data = #[]:=by rw[ByteArray.data_extract];simp
   simp[Builtin.firstCells]
  .have:size=1:=by
    have k:0<s.data.toList.length:=by rw[bsize];omega
    have:=r [V.val (Value.int .u8 (s.data.toList[0]).toNat)] (aa4.2 ⟨_,aaP k,rfl⟩)
    simpa using this.symm
   subst this
   refine⟨s.data.map λb=>.int .u8 b.toNat,⟨by rw[q,Array.size_map,acY];rfl,λi j hi o=>?_⟩,by rw[q];exact hlen,λm hm=>?_⟩
   .obtain rfl:j=0:=by omega
    have I:i<s.data.size:=by rw[q] at hi;exact hi
    simp only[aaG,aaW,aaJ,acE,Array.getElem?_map,acY,acf,aa3 I,aaU,aaZ,abb]
    exact aD.val _ rfl
   .rw[q] at hm
    simp only[Builtin.firstCells,Sem.run_pure,acY]
    congr 1
    rw[ByteArray.data_extract,Array.map_extract]
 .simp at h
theorem Rh {size:Nat} {xs:List (List V)} {b:Array Value} (h:Flat Z μ w.heap size xs b) (m:Nat) (hm:m<=xs.length):Flat Z μ w.heap size (xs.take m) (b.extract 0 (m*size)):=by
 have hle:m*size<=xs.length*size:=abm _ hm
 have e:(b.extract 0 (m*size)).size=m*size:=by rw[Array.size_extract,h.len];omega
 refine⟨by rw[e,abL,Nat.min_eq_left hm],λi j hi c=>?_⟩
 have a:i<m:=by simp at hi;omega
 have:=h.rel i j (by omega) c
 have f:i*size+j<m*size:=gN a c
 have d:i*size+j<b.size:=by rw[h.len];omega
 simp only[aaG,aaW,abX,a,if_true,Array.getElem?_extract] at this ⊢
 rw[aaL (by omega),abx]
 exact this
theorem Er {size:Nat} {xs:List (List V)} {d:Array Value} (h:Flat Z μ w.heap size xs d) (j:∀e∈xs,e.length=size) (f:∀e∈xs,e.all aL=true):∀x∈d.toList,x.oneCell'=true:=by
 intro x l
 obtain⟨k,hk,rfl⟩:=acx l
 have c:k<xs.length*size:=by rw[<-h.len];simpa using hk
 have a:0<size:=by
  rcases Nat.eq_zero_or_pos size with g | g
  .subst g;simp at c
  .exact g
 have h1:k / size<xs.length:=(Nat.div_lt_iff_lt_mul a).2 c
 have m:k % size<size:=Nat.mod_lt _ a
 have:=h.rel (k / size) (k % size) h1 m
 have e:k / size*size+k % size=k:=by rw[Nat.mul_comm];exact Nat.div_add_mod k size
 rw[e] at this
 have i:k<d.size:=by simpa using hk
 simp only[aaW,aa3 i,aaZ] at this
 have b:xs[k / size]∈xs:=aaP _
 have hlen:=j _ b
 simp only[aaG,aaH h1,aaZ,aaH (show k % size<(xs[k / size]).length by omega)] at this
 have:=yk this (abc.1 (f _ b) _ (aaP _))
 simpa using this
theorem xH {b off:Nat} {c:Array Value} {e:TypeId} {f:Nat × Nat} (d:w.heap[b]?=some (.cells c e f)) (g:∀k,k<c.size->¬ (f.1<=k/\k<f.2)) (xs:List Value)
  (l:off+xs.length<=c.size) (h:∀x∈xs,x.oneCell'=true):
  ∃a,(storeCells ⟨b,off,none⟩ xs).run P w=.ok () { w with heap:=w.heap.setIfInBounds b (.cells a e f) }/\a.size=c.size /\
   ∀k,cellAt (w.heap.setIfInBounds b (.cells a e f)) b k=if off<=k/\k<off+xs.length then xs[k-off]? else cellAt w.heap b k:=by
 obtain⟨a,h1,i,j⟩:=mf (P:=P) (b:=b) (off:=off) (e:=e) (f:=f) xs 0 c w d g (by omega) h
 refine⟨a,h1,i,λk=>?_⟩
 have:=j k
 simp only[acf] at this
 simp only[cellAt,eW (fC d),d]
 exact this
theorem IB:aF=70368744177664:=by decide
theorem MU {t0 t1 e:TypeId} {ti:TypeInfo} {a:Array TypeId} {ty:TypeId} {base:Option Addr} {sLen sCap m:Nat} {l:Value} {old new u:Array Value}
  (n:a[0]?=some t0) (o:a[1]?=some t1) (b:qQ P t1=true) (c:P.underlying t0=some (.slice e)) (f:P.info? e=some ti)
  (x:(Builtin.lenOf l).run P w=.ok m w) (p:sCap<sLen+m) (y:(sLen+m)*ti.bytes<aF) (z:sLen+m<aF)
  (A:∀w',∃q,(zeroValue e).run P w'=.ok q w'/\q.cells=u)
  (B:(Builtin.firstCells ti.size sLen (.slice base sLen sCap)).run P w.drew=.ok old w.drew) (C:(Builtin.firstCells ti.size m l).run P w.drew=.ok new w.drew):
  ∃cap,sLen+m<=cap/\(Builtin.append_ a ty #[.slice base sLen sCap,l]).run P w =
   .ok (.slice (some ⟨w.heap.size,0,none⟩) (sLen+m) cap) (w.drew.alloc (.cells (old++new++Builtin.zeroCells u (cap-(sLen+m))) e)):=by
 have hint:∃d,P.underlying t1=some d/\∀k,d≠.int k:=by
  unfold qQ at b
  cases hu:P.underlying t1 with
  | none=>simp[hu] at b
  | some d=>refine⟨d,rfl,λk e=>?_⟩;subst e;simp[hu] at b
 obtain⟨d,D,r⟩:=hint
 have v:=IB
 have g:=growslice_fits p (show (sLen+m)*ti.bytes<=140737488355328 by omega)
 have h:¬ (((sLen+m:Nat):Int)>IntKind.i64.max):=by
  have:IntKind.i64.max=9223372036854775807:=by decide
  rw[this];omega
 have i:¬ (Builtin.nextslicecap (sLen+m) sCap*ti.bytes>2 ^ 48):=by
  have:(2:Nat) ^ 48=281474976710656:=by decide
  rw[this];exact Nat.not_lt.2 g
 obtain⟨q,s,t⟩:=A w.drew
 refine⟨Question.cut (.appendCap (sLen+m) sCap e) (w.tape w.drawn (.appendCap (sLen+m) sCap e)),Nat.le_add_right _ _,?_⟩
 have j:Question.forced (.appendCap (sLen+m) sCap e)=false:=rfl
 subst t
 cases d with
 | int k=>exact absurd rfl (r k)
 | _ =>
 simp only[Builtin.append_,abp,abb,abv,n,o,Sem.run_bind,bD c,Result.andThen_ok,ec f,bD D,Sem.run_pure,aa9,if_false,x,Bool.not_false,if_true]
 rw[aaI (by omega)]
 simp only[h,false_and,if_false,Sem.run_bind,r5 f,Result.andThen_ok,Sem.run_ite,Sem.run_pure,i,run_choose,j,aa9,World.drew_eq,run_askRoom,B,C,s,newRow,run_newObj,World.alloc_eq]
 rfl
end
end Gv
