/-
  Part 1 of the proof: what the machine does and what the functions answer.
  Conditions: those that each lemma names.
-/
import Derived.WalkKit
set_option linter.unusedSimpArgs false
set_option linter.unusedVariables false
set_option maxRecDepth 100000
set_option maxHeartbeats 20000000
namespace Gv
open Go
theorem GQ:type_of% @List.getD_eq_getElem?_getD:=@List.getD_eq_getElem?_getD
theorem GR:type_of% @List.getElem?_eq_getElem:=@List.getElem?_eq_getElem
theorem GS:type_of% @Option.some.injEq:=@Option.some.injEq
theorem GU:type_of% @Option.map_eq_some_iff:=@Option.map_eq_some_iff
theorem GV:type_of% @if_neg:=@if_neg
theorem GW:type_of% @Array.getD_eq_getD_getElem?:=@Array.getD_eq_getD_getElem?
theorem GX:type_of% @Nat.le_refl:=@Nat.le_refl
theorem GY:type_of% @List.getElem?_map:=@List.getElem?_map
theorem GZ:type_of% @if_pos:=@if_pos
theorem G0:type_of% @Bool.and_eq_true:=@Bool.and_eq_true
theorem G1:type_of% @Option.getD_some:=@Option.getD_some
theorem G2:type_of% @Nat.lt_of_lt_of_le:=@Nat.lt_of_lt_of_le
theorem G3:type_of% @Array.getElem?_eq_getElem:=@Array.getElem?_eq_getElem
theorem G4:type_of% @List.getElem_mem:=@List.getElem_mem
theorem G5:type_of% @List.length_cons:=@List.length_cons
theorem G6:type_of% @Prod.mk.injEq:=@Prod.mk.injEq
theorem G7:type_of% @decide_eq_true_eq:=@decide_eq_true_eq
theorem G8:type_of% @List.length_map:=@List.length_map
theorem G9:type_of% @List.take_of_length_le:=@List.take_of_length_le
theorem Ha:type_of% @List.getElem?_eq_some_iff:=@List.getElem?_eq_some_iff
theorem Hb:type_of% @Option.map_some:=@Option.map_some
theorem Hc:type_of% @Bool.false_eq_true:=@Bool.false_eq_true
theorem Hd:type_of% @List.getElem?_cons_zero:=@List.getElem?_cons_zero
theorem Hf:type_of% @Nat.mul_le_mul_right:=@Nat.mul_le_mul_right
theorem Hg:type_of% @List.all_eq_true:=@List.all_eq_true
theorem Hh:type_of% @List.length_nil:=@List.length_nil
theorem Hi:type_of% @List.mem_cons:=@List.mem_cons
theorem Hj:type_of% @Option.bind_some:=@Option.bind_some
theorem Hk:type_of% @Nat.le_trans:=@Nat.le_trans
theorem Hl:type_of% @Nat.add_mul:=@Nat.add_mul
theorem Hn:type_of% @List.take_add_one:=@List.take_add_one
theorem Ho:type_of% @Nat.lt_or_ge:=@Nat.lt_or_ge
theorem Hp:type_of% @List.getElem?_toArray:=@List.getElem?_toArray
theorem Hs:type_of% @List.getElem?_eq_none:=@List.getElem?_eq_none
theorem Hu:type_of% @List.mem_zipIdx_iff_getElem?:=@List.mem_zipIdx_iff_getElem?
theorem Hw:type_of% @List.mem_cons_of_mem:=@List.mem_cons_of_mem
theorem Hx:type_of% @List.getElem?_cons_succ:=@List.getElem?_cons_succ
theorem Hy:type_of% @Nat.zero_add:=@Nat.zero_add
theorem Hz:type_of% @List.getElem?_append_left:=@List.getElem?_append_left
theorem HA:type_of% @List.getElem?_take:=@List.getElem?_take
theorem HC:type_of% @beq_iff_eq:=@beq_iff_eq
theorem HD:type_of% @List.mem_of_getElem?:=@List.mem_of_getElem?
theorem HE:type_of% @Array.getElem?_setIfInBounds:=@Array.getElem?_setIfInBounds
theorem HF:type_of% @List.cons_append:=@List.cons_append
theorem HG:type_of% @Nat.zero_le:=@Nat.zero_le
theorem HH:type_of% @List.mem_singleton:=@List.mem_singleton
theorem HI:type_of% @List.filterMap_cons:=@List.filterMap_cons
theorem HJ:type_of% @List.size_toArray:=@List.size_toArray
theorem HL:type_of% @List.mem_map:=@List.mem_map
theorem HM:type_of% @List.length_eq_zero_iff:=@List.length_eq_zero_iff
theorem HN:type_of% @List.getElem?_append_right:=@List.getElem?_append_right
theorem HO:type_of% @Array.getElem?_append_left:=@Array.getElem?_append_left
theorem HQ:type_of% @List.getD_cons_zero:=@List.getD_cons_zero
theorem HR:type_of% @List.nodup_cons:=@List.nodup_cons
theorem HT:type_of% @Bool.eq_iff_iff:=@Bool.eq_iff_iff
theorem HU:type_of% @Array.getElem?_modify:=@Array.getElem?_modify
theorem HV:type_of% @Nat.eq_of_beq_eq_true:=@Nat.eq_of_beq_eq_true
theorem HW:type_of% @List.length_take:=@List.length_take
theorem HX:type_of% @List.mem_filterMap:=@List.mem_filterMap
theorem HY:type_of% @Array.replicate_succ:=@Array.replicate_succ
theorem HZ:type_of% @Array.replicate_zero:=@Array.replicate_zero
theorem H0:type_of% @List.foldl_cons:=@List.foldl_cons
theorem H6:type_of% @Option.some.inj:=@Option.some.inj
theorem H7:type_of% @List.append_toArray:=@List.append_toArray
theorem H8:type_of% @List.drop_eq_nil_of_le:=@List.drop_eq_nil_of_le
theorem H9:type_of% @List.map_cons:=@List.map_cons
theorem Ia:type_of% @List.all_cons:=@List.all_cons
theorem Ib:type_of% @Array.getElem?_toList:=@Array.getElem?_toList
theorem Ic:type_of% @Nat.add_zero:=@Nat.add_zero
theorem Ie:type_of% @Bool.or_eq_true:=@Bool.or_eq_true
theorem Ig:type_of% @List.mem_filter:=@List.mem_filter
theorem Ih:type_of% @List.nil_append:=@List.nil_append
theorem Ii:type_of% @List.append_assoc:=@List.append_assoc
theorem Ij:type_of% @List.push_toArray:=@List.push_toArray
theorem Ik:type_of% @Array.getElem?_push:=@Array.getElem?_push
theorem Il:type_of% @List.getD_cons_succ:=@List.getD_cons_succ
theorem Im:type_of% @List.length_append:=@List.length_append
theorem Io:type_of% @List.mem_append:=@List.mem_append
theorem Ip:type_of% @List.map_append:=@List.map_append
theorem Iq:type_of% @Bool.not_true:=@Bool.not_true
theorem Ir:type_of% @List.getElem?_set:=@List.getElem?_set
theorem Is:type_of% @bne_iff_ne:=@bne_iff_ne
inductive V where
 | any
 | val (v:Value)
 | emp (k:Nat)
 | bS
 | al (es:List (List V))
 | sl (id off len esz:Nat)
 | ptr (id i j:Nat)
 | aC (e:List V) (j:Nat)
 | mp (id:Nat)
 | fn (f:FuncId) (first cap:List V)
 | agg (cs:List V)
 | aA (vs:List V)
 deriving Inhabited
inductive cQ where
 | dead
 | arr (esz:Nat) (es:List (List V))
 | map (es:List (V × V × Nat)) (clock:Nat)
 | mg (s:ByteArray) (pos:Nat)
 deriving Inhabited
abbrev ah:=List cQ
abbrev View:=Nat->cQ
def ah.view (h:ah):View:=λid=>h.getD id .dead
inductive az where
 | none
 | new (o:cQ)
 | dp (id:Nat) (o:cQ)
 | cU (id:Nat) (o:cQ)
def az.fresh (free:Prop):az->Prop
 | .new _ | .cU _ _=>free
 | _=>True
def az.apply (h:ah):az->ah
 | .none=>h
 | .new o=>h++[o]
 | .dp id o=>h.set id o
 | .cU id o=>h.set id .dead++[o]
def plain:Value->Bool
 | .bool _ | .int _ _ | .float _ _ | .complex _ _ _ | .string _ | .pointer none | .map none | .nilFunc | .nilIface=>true
 | _=>false
def ij:Value->V
 | .slice none 0 0=>.emp 1
 | .slice _ _ _=>.any
 | v=>if plain v then .val v else .any
def cK:Value->V
 | .agg cs=>.agg (cs.toList.map ij)
 | .func (.func f) a b=>if a.size=0/\b.size=0 then .fn f [] [] else .any
 | v=>ij v
def toCell:V->Option Value
 | .val v=>some v
 | _=>none
def lJ:List V->Option (List Value)
 | []=>some []
 | v::r=>match toCell v,lJ r with
  | some x,some y=>some (x::y)
  | _,_=>none
def bz:V->Option Value
 | .val v=>some v
 | .agg cs=>(lJ cs).map λl=>.agg l.toArray
 | _=>none
def V.cells:V->List V
 | .agg cs=>cs
 | v=>[v]
def au:V->Bool
 | .any | .agg _ | .aA _=>false
 | _=>true
def aH {α:Type} (P:Program):Sem α->Option α
 | .pure a=>some a
 | .program k=>aH P (k P)
 | _=>none
abbrev Env:=Nat->V
def Env.put (T:Env) (d:Option Nat) (v:V):Env:=match d with
 | some d=>λt=>if t=d then v else T t
 | none=>T
def yW:List (Nat × List Value):=[(0,[0,1,28,2,29,14,24,3,30,22,20,15,25,17,4,8,31,27,13,23,21,19,16,7,26,12,18,6,11,5,10,9].map (.int .u8))]
def gV (g:Nat):V:=match yW.find? λp=>p.1==g with
 | some p=>.aC (p.2.map .val) 0
 | none=>.any
def ev (T:Env):Operand->V
 | .tmp t=>T t
 | .const v=>cK v
 | .global g=>gV g
 | .func f=>.fn f [] []
def aY (P:Program) (t:TypeId):Option TypeId:=match P.underlying t with
 | some (.slice e)=>some e
 | _=>none
def zeroCells (P:Program) (t:TypeId):Option (List V):=match P.info? t with
 | some i=>match i.zero with
  | some v=>some (cK v).cells
  | none=>none
 | none=>none
def iE (P:Program) (t:TypeId) (f:Nat):Option (Nat × Nat × TypeId):=match P.underlying t with
 | some (.struct fs)=>match fs[f]? with
  | some x=>match P.info? x.type with
   | some i=>some (x.offset,i.size,x.type)
   | none=>none
  | none=>none
 | _=>none
def asNat:V->Option Nat
 | .val (.int _ q)=>if 0<=q then some q.toNat else none
 | _=>none
def jU (P:Program) (t:TypeId):Option Bool:=match P.underlying t with
 | some (.struct _) | some (.array _ _)=>some true
 | some _=>some false
 | none=>none
def iW (P:Program) (t:TypeId) (cs:List V) (off:Nat):Option V:=match P.info? t,jU P t with
 | some i,some true=>if off+i.size<=cs.length then some (.agg ((cs.drop off).take i.size)) else none
 | some _,some false=>if off<cs.length then some (cs.getD off .any) else none
 | _,_=>none
def cI (e:List V) (j:Nat) (cs:List V):List V:=e.take j++cs++e.drop (j+cs.length)
def gq (n:Nat):V:=.val (.int .i64 n)
def bc (H:View):V->Option (List (List V) × List Nat)
 | .emp _ | .bS=>some ([],[])
 | .al es=>some (es,[])
 | .sl _ _ 0 _=>some ([],[])
 | .sl id off len _=>match H id with
  | .arr _ es=>if off+len<=es.length then some ((es.drop off).take len,[id]) else none
  | _=>none
 | .val (.string s)=>some (s.data.toList.map λb=>[.val (.int .u8 b.toNat)],[])
 | _=>none
def aD:Nat:=2 ^ 46
def ji:List (List V)->Option (List UInt8)
 | []=>some []
 | [.val (.int .u8 n)]::r=>(ji r).map (UInt8.ofNat n.toNat :: ·)
 | _=>none
def eS:List (V × V × Nat)->Option (List MapEntry)
 | []=>some []
 | (k,_,b)::r=>match bz k,eS r with
  | some x,some y=>some ({ key:=x,val:=.nilFunc,born:=b }::y)
  | _,_=>none
def iT (P:Program) (kt:TypeId) (k:V) (empty:Bool) (es:List (V × V × Nat)):Option (Option Nat):=match bz k,eS es with
 | some x,some l=>match aH P (Instr.checkKey empty 10000 kt x >>= λ_=>Instr.findKey kt x l) with
  | some (some (i,_))=>some (some i)
  | some none=>some none
  | none=>none
 | _,_=>none
def de (P:Program) (t:TypeId):Option (TypeId × TypeId):=match P.underlying t with
 | some (.map k e)=>some (k,e)
 | _=>none
def zeroV (P:Program) (t:TypeId):Option V:=match P.info? t with
 | some i=>match i.zero with
  | some v=>some (cK v)
  | none=>none
 | none=>none
abbrev Out:=Option (V × az × List Nat)
def gD (P:Program) (t:TypeId) (a:V) (H:View):Out:=match a with
 | .ptr id i j=>match H id with
  | .arr _ es=>if i<es.length then (iW P t (es.getD i []) j).map λv=>(v,.none,[id]) else none
  | _=>none
 | .aC e j=>(iW P t e j).map λv=>(v,.none,[])
 | _=>none
def jc (P:Program) (t:TypeId) (a v:V) (H:View):Out:=match a with
 | .ptr id i j=>match H id with
  | .arr esz es =>
   if i<es.length/\v.cells.length=P.cellsOf t/\j+v.cells.length<=esz/\v.cells.all au=true/\(P.info? t).isSome=true
   then some (.any,.dp id (.arr esz (es.set i (cI (es.getD i []) j v.cells))),[id]) else none
  | _=>none
 | _=>none
def fZ (cs:List V) (n:Nat):Out:=
 if cs.all au=true then some (.ptr n 0 0,.new (.arr cs.length [cs]),[]) else none
def fQ (size:Nat):List (List V)->List (Nat × V)->Option (List (List V))
 | es,[]=>some es
 | es,(i,x)::r=>if x.cells.length=size/\i<es.length/\x.cells.all au=true then fQ size (es.set i x.cells) r else none
def dI (P:Program) (t:TypeId) (len:Nat) (parts:List (Nat × V)) (n:Nat):Out:=match aY P t with
 | none=>none
 | some e=>match P.info? e with
  | none=>none
  | some i =>
   if len*i.size>2 ^ 24 then none
   else if len=0 then (if parts.isEmpty then some (.emp 2,.none,[]) else none)
   else if i.size=0 then none
   else match zeroCells P e with
    | none=>none
    | some z=>if z.length=i.size/\z.all au=true then
      match fQ i.size (List.replicate len z) parts with
      | some es=>some (.sl n 0 len i.size,.new (.arr i.size es),[])
      | none=>none
     else none
def kQ (place:Nat->Option (Nat × Nat)):List V->List (Nat × V)->Option (List V)
 | cs,[]=>some cs
 | cs,(i,x)::r=>match place i with
  | none=>none
  | some (off,size)=>if x.cells.length=size/\off+size<=cs.length/\x.cells.all au=true then kQ place (cI cs off x.cells) r else none
def placeOf (P:Program) (t:TypeId) (i:Nat):Option (Nat × Nat):=(iE P t i).map λ(a,b,_)=>(a,b)
def gz (P:Program) (t:TypeId):Bool:=match P.underlying t with
 | some (.struct fs)=>fs.toList.all λf=>(P.info? f.type).isSome
 | _=>false
def lQ (P:Program) (t:TypeId) (parts:List (Nat × V)):Out:=match P.underlying t,zeroV P t with
 | some (.struct _),some (.agg z)=>if gz P t=true then (kQ (placeOf P t) z parts).map λcs=>(.agg cs,.none,[]) else none
 | some (.array _ e),some (.agg z)=>match P.info? e with
  | some i=>(kQ (λk=>some (k*i.size,i.size)) z parts).map λcs=>(.agg cs,.none,[])
  | none=>none
 | _,_=>none
def fW (P:Program) (t:TypeId) (x:V) (f:Nat):Out:=match iE P t f with
 | some (off,s,_)=>if s=0 then none else match x with
  | .ptr id i j=>some (.ptr id i (j+off),.none,[])
  | .aC e j=>some (.aC e (j+off),.none,[])
  | _=>none
 | none=>none
def lP (P:Program) (t:TypeId) (x:V) (f:Nat):Out:=match iE P t f,x with
 | some (off,_,ft),.agg cs=>(iW P ft cs off).map λv=>(v,.none,[])
 | _,_=>none
def fT (P:Program) (t:TypeId) (x i:V):Out:=match asNat i with
 | none=>none
 | some q=>match P.underlying t with
  | some (.slice e)=>match P.info? e with
   | none=>none
   | some ti=>match x with
    | .sl id off len esz=>if q<len/\esz=ti.size then some (.ptr id (off+q) 0,.none,[]) else none
    | .al es=>if q<es.length/\(es.getD q []).length=ti.size then some (.aC (es.getD q []) 0,.none,[]) else none
    | _=>none
  | some (.array len e)=>match P.info? e with
   | none=>none
   | some ti=>if q<len then match x with
    | .ptr id i j=>some (.ptr id i (j+q*ti.size),.none,[])
    | .aC e j=>some (.aC e (j+q*ti.size),.none,[])
    | _=>none
    else none
  | _=>none
def bound (d:Nat):Option V->Option Nat
 | none=>some d
 | some v=>asNat v
def kb (P:Program) (t:TypeId) (x:V) (lo hi mx:Option V):Out:=match aY P t with
 | none=>none
 | some e=>match P.info? e with
  | none=>none
  | some ti=>match mx with
   | some m=>match bound 0 lo,bound 0 hi,asNat m with
    | some 0,some 0,some 0=>if hi.isNone then none else match x with
     | .sl _ _ _ _ | .al _ | .emp _ | .bS=>some (.emp 0,.none,[])
     | _=>none
    | some 0,some h,some c=>match x with
     | .sl id off len esz=>if h=c/\c<=len/\esz=ti.size/\hi.isSome=true then some (.sl id off h esz,.none,[]) else none
     | _=>none
    | _,_,_=>none
   | none=>match x with
    | .sl id off len esz=>match bound 0 lo,bound len hi with
     | some l,some h=>if l<=h/\h<=len/\esz=ti.size then some (.sl id (off+l) (h-l) esz,.none,[]) else none
     | _,_=>none
    | .al es=>match bound 0 lo,bound es.length hi with
     | some l,some h=>if l<=h/\h<=es.length/\(es.all λe=>e.length==ti.size)=true then some (.al ((es.drop l).take (h-l)),.none,[]) else none
     | _,_=>none
    | .emp k=>match bound 0 lo,bound 0 hi with
     | some 0,some 0=>some (.emp k,.none,[])
     | _,_=>none
    | _=>none
def fS (P:Program) (t:TypeId) (len cap:V) (n:Nat):Out:=match aY P t with
 | none=>none
 | some e=>match P.info? e with
  | none=>none
  | some ti=>match asNat len,asNat cap with
   | some l,some c =>
    if l<=c/\c<aD/\ti.bytes*c<aD then
     (
      if c=0 then some (.emp 2,.none,[])
      else if ti.size=0 then none
      else match zeroCells P e with
       | none=>none
       | some z=>if z.length=ti.size/\z.all au=true then some (.sl n 0 l ti.size,.new (.arr ti.size (List.replicate l z)),[]) else none)
    else none
   | _,_=>none
def gW (P:Program) (at0:TypeId) (s x:V) (H:View) (n:Nat):Out:=match aY P at0,bc H x with
 | some e,some (xs,rd)=>match P.info? e with
  | none=>none
  | some ti =>
   if xs.isEmpty then (match s with
    | .emp _ | .bS | .al _ | .sl _ _ _ _=>some (s,.none,[])
    | _=>none)
   else if ti.size=0∨¬ ((zeroCells P e).map List.length=some ti.size)∨¬ ((xs.all λe=>e.length==ti.size&&e.all au)=true) then none
   else match s with
    | .emp _=>if xs.length*ti.bytes<aD/\xs.length<aD then some (.sl n 0 xs.length ti.size,.new (.arr ti.size xs),rd) else none
    | .sl id off len esz=>match H id with
     | .arr _ es =>
      if off+len<=es.length/\esz=ti.size/\(len+xs.length)*ti.bytes<aD/\len+xs.length<aD
      then some (.sl n 0 (len+xs.length) esz,.cU id (.arr esz ((es.drop off).take len++xs)),id::rd) else none
     | _=>none
    | _=>none
 | _,_=>none
def vu (P:Program) (at0:TypeId) (x:V):Out:=match aY P at0,x with
 | some _,.emp _=>some (gq 0,.none,[])
 | _,_=>none
def l5 (P:Program) (at0:TypeId) (s x:V) (n:Nat):Out:=match aY P at0,asNat x,s with
 | some e,some l,.emp k=>match P.info? e,zeroCells P e with
  | some ti,some z=>if l=0 then some (.emp k,.none,[]) else if z.length=ti.size/\z.all au=true/\ti.size≠0/\l*ti.bytes<aD/\l<aD then some (.sl n 0 l ti.size,.new (.arr ti.size (List.replicate l z)),[]) else none
  | _,_=>none
 | _,_,_=>none
def gM:List (List V)->Nat->List (List V)->List (List V)
 | es,_,[]=>es
 | es,i,x::r=>gM (es.set i x) (i+1) r
def dd:V->Option Nat
 | .emp _ | .bS=>some 0
 | .al es=>some es.length
 | .sl _ _ len _=>some len
 | _=>none
def qu (P:Program) (at0:TypeId) (d x:V) (H:View):Out:=match aY P at0,bc H x,dd d with
 | some e,some (xs,rd),some dl=>match P.info? e with
  | none=>none
  | some ti =>
   if (xs.take dl).isEmpty then some (gq 0,.none,[])
   else match d with
    | .sl id off len esz=>match H id with
     | .arr _ es =>
      if off+len<=es.length/\esz=ti.size/\ti.size≠0/\((xs.all λe=>e.length==ti.size&&e.all au)=true)
      then some (gq (xs.take dl).length,.dp id (.arr esz (gM es off (xs.take dl))),id::rd) else none
     | _=>none
    | _=>none
 | _,_,_=>none
def od (P:Program) (at0:TypeId) (d:V) (H:View):Out:=match aY P at0,dd d with
 | some e,some dl=>if dl=0 then some (.aA [],.none,[]) else match d,P.info? e,zeroCells P e with
  | .sl id off len esz,some ti,some z=>match H id with
   | .arr _ es=>if off+len<=es.length/\esz=ti.size/\ti.size≠0/\z.length=ti.size/\z.all au=true then some (.aA [],.dp id (.arr esz (gM es off (List.replicate len z))),[id]) else none
   | _=>none
  | _,_,_=>none
 | _,_=>none
def cH (P:Program) (t:TypeId) (m k:V) (ok:Bool) (H:View):Out:=match de P t with
 | none=>none
 | some (kt,et)=>match zeroV P et with
  | none=>none
  | some z =>
   let fin (v:V) (b:Bool) (rd:List Nat):Out:=some (if ok then .aA [v,.val (.bool b)] else v,.none,rd)
   match m with
   | .mp id=>match H id with
    | .map es _=>match iT P kt k es.isEmpty es with
     | some (some i)=>match es[i]? with
      | some (_,v,_)=>fin v true [id]
      | none=>none
     | some none=>fin z false [id]
     | none=>none
    | _=>none
   | _=>none
def sameKey (old new:V):Bool:=match bz old,bz new with
 | some a,some b=>Instr.sameBits 10000 a b
 | _,_=>false
def di (P:Program) (t:TypeId) (m k v:V) (H:View):Out:=match de P t,m with
 | some (kt,_),.mp id=>match H id with
  | .map es c=>match iT P kt k false es with
   | some (some i)=>match es[i]? with
    | some (k0,_,b)=>if sameKey k0 k=true then some (.any,.dp id (.map (es.set i (k,v,b)) c),[id]) else none
    | none=>none
   | some none=>some (.any,.dp id (.map (es++[(k,v,c)]) (c+1)),[id])
   | none=>none
  | _=>none
 | _,_=>none
def cx (P:Program) (t:TypeId) (m k:V) (H:View):Out:=match de P t,m with
 | some (kt,et),.mp id=>match H id with
  | .map es c=>match iT P kt k false es with
   | some (some i)=>match es[i]? with
    | some (k0,v,b)=>if sameKey k0 k=true then some (.aA [v,gq b],.dp id (.map (es.set i (k,v,b)) c),[id]) else none
    | none=>none
   | some none=>match zeroV P et with
    | some z=>some (.aA [z,gq c],.dp id (.map (es++[(k,z,c)]) (c+1)),[id])
    | none=>none
   | none=>none
  | _=>none
 | _,_=>none
def gn (m s v:V) (H:View):Out:=match m,asNat s with
 | .mp id,some q=>match H id with
  | .map es c=>match es.findIdx? (λe=>e.2.2==q) with
   | some i=>match es[i]? with
    | some (k,_,b)=>some (.any,.dp id (.map (es.set i (k,v,b)) c),[id])
    | none=>none
   | none=>none
  | _=>none
 | _,_=>none
def lE (P:Program) (t:TypeId) (m k:V) (H:View):Out:=match de P t,m with
 | some (kt,_),.mp id=>match H id with
  | .map es c=>match iT P kt k es.isEmpty es with
   | some (some i)=>some (.any,.dp id (.map (es.eraseIdx i) c),[id])
   | some none=>some (.any,.none,[id])
   | none=>none
  | _=>none
 | _,_=>none
def lj (P:Program) (t:TypeId) (x:V) (H:View):Out:=match P.underlying t with
 | some (.slice _)=>(dd x).map λn=>(gq n,.none,[])
 | some (.map _ _)=>match x with
  | .mp id=>match H id with
   | .map es _=>some (gq es.length,.none,[id])
   | _=>none
  | .val (.map none)=>some (gq 0,.none,[])
  | _=>none
 | some .string=>match x with
  | .val (.string s)=>some (gq s.size,.none,[])
  | _=>none
 | some (.array n _)=>some (gq n,.none,[])
 | _=>none
def qE (x:V) (H:View):Out:=match x with
 | .ptr id 0 0=>match H id with
  | .mg s pos =>
   if pos<s.size then
    some (.aA [.val (.bool true),gq pos,.val (.int .i32 (Utf8.decode s pos).1)],.dp id (.mg s (pos+(Utf8.decode s pos).2)),[id])
   else some (.aA [.val (.bool false)],.none,[id])
  | _=>none
 | _=>none
def dt (s:ByteArray):List (List V):=s.data.toList.map λb=>[.val (.int .u8 b.toNat)]
def iZ (P:Program) (s d:TypeId):Bool:=match P.underlying s,P.underlying d with
 | some (.slice _),_=>true
 | _,some (.slice _)=>true
 | _,_=>false
def iJ (P:Program) (s d:TypeId) (x:V) (H:View) (n:Nat):Out:=match P.underlying s,P.underlying d,x with
 | some (.slice e),some .string,x=>match P.underlying e with
  | some (.int .u8)=>match bc H x,dd x with
   | some (xs,rd),some _=>(ji xs).map λl=>(.val (.string ⟨l.toArray⟩),.none,rd)
   | _,_=>none
  | _=>none
 | some .string,some (.slice e),.val (.string s)=>match P.underlying e with
  | some (.int .u8)=>some (.sl n 0 s.size 1,.new (.arr 1 (dt s)),[])
  | _=>none
 | some (.slice _),some (.slice e),.sl id off len esz=>if s=d/\len≠0 then (match P.underlying e with
  | some (.int .u8)=>match H id with
   | .arr z es=>some (.sl id off len esz,.dp id (.arr z es),[id])
   | _=>none
  | _=>none) else none
 | _,_,_=>none
def ct:Nat->V->Option Bool
 | 0,.emp 1=>some true
 | 0,.emp 2 | 0,.bS=>some false
 | 0,.sl _ _ (_+1) _=>some false
 | 0,.al (_::_)=>some false
 | 1,.ptr _ _ _ | 1,.aC _ _ | 2,.mp _ | 3,.fn _ _ _=>some false
 | 1,.val (.pointer none) | 2,.val (.map none) | 3,.val .nilFunc=>some true
 | _,_=>none
def eL (P:Program) (t:TypeId):Option Nat:=match P.underlying t with
 | some (.slice _)=>some 0
 | some (.pointer _)=>some 1
 | some (.map _ _)=>some 2
 | some (.func _ _ _)=>some 3
 | _=>none
def rS (P:Program) (t:TypeId) (x y:V):Option Bool:=match eL P t with
 | some k=>match ct k x,ct k y with
  | some true,some b=>some b
  | some b,some true=>some b
  | _,_=>none
 | none=>none
def bJ (P:Program) (o:Oper) (T:Env):Out:=
 if o.op.operands.all (λx=>(bz (ev T x)).isSome)=true then
  match aH P (execOp (λx=>(bz (ev T x)).getD undef) o) with
  | some (.value v)=>if plain v then some (.val v,.none,[]) else none
  | _=>none
 else none
def isStr (P:Program) (o:Op):Bool:=match o with
 | .range t _=>(match P.underlying t with | some .string=>true | _=>false)
 | _=>false
def iV (P:Program) (t:TypeId):Bool:=match P.underlying t with
 | some (.int _)=>false
 | some _=>true
 | none=>false
def isInt (P:Program) (t:TypeId):Bool:=match P.underlying t with
 | some (.int _)=>true
 | _=>false
def aP (P:Program) (o:Oper) (T:Env) (H:View) (n:Nat):Out:=match o.op with
 | .move x | .assign x=>some (ev T x,.none,[])
 | .pick c a b=>match ev T c with
  | .val (.bool t)=>some (if t then ev T a else ev T b,.none,[])
  | _=>none
 | .alloc e=>match zeroCells P e with
  | some z=>fZ z n
  | none=>none
 | .box _ x=>fZ (ev T x).cells n
 | .build t parts=>lQ P t (parts.toList.map λ(i,x)=>(i,ev T x))
 | .buildSlice t len parts=>dI P t len (parts.toList.map λ(i,x)=>(i,ev T x)) n
 | .load t a=>gD P t (ev T a) H
 | .store t a v=>jc P t (ev T a) (ev T v) H
 | .nilCheck x=>match ev T x with
  | .ptr id i j=>some (.ptr id i j,.none,[])
  | .aC e j=>some (.aC e j,.none,[])
  | .fn f a b=>some (.fn f a b,.none,[])
  | _=>none
 | .fieldAddr t x f=>fW P t (ev T x) f
 | .field t x f=>lP P t (ev T x) f
 | .indexAddr t x i=>fT P t (ev T x) (ev T i)
 | .slice t x lo hi mx=>match ev T x with
  | .val _=>bJ P o T
  | y=>kb P t y (lo.map (ev T)) (hi.map (ev T)) (mx.map (ev T))
 | .makeSlice t l c=>fS P t (ev T l) (ev T c) n
 | .makeMap _ r=>match r with
  | none=>some (.mp n,.new (.map [] 0),[])
  | some _=>none
 | .makeFunc (.func f) first cap=>some (.fn f (first.toList.map (ev T)) (cap.toList.map (ev T)),.none,[])
 | .lookup t m k ok=>cH P t (ev T m) (ev T k) ok H
 | .mapUpdate t m k v=>di P t (ev T m) (ev T k) (ev T v) H
 | .insert t m k v=>di P t (ev T m) (ev T k) (ev T v) H
 | .mapEntry t m k=>cx P t (ev T m) (ev T k) H
 | .entryStore _ m s v=>gn (ev T m) (ev T s) (ev T v) H
 | .extract t i=>match ev T t with
  | .aA vs=>if i<vs.length then some (vs.getD i .any,.none,[]) else none
  | _=>none
 | .range _ x=>match ev T x with
  | .val (.string s)=>if isStr P o.op=true then some (.ptr n 0 0,.new (.mg s 0),[]) else none
  | _=>none
 | .next it true=>qE (ev T it) H
 | .convert s d x=>if iZ P s d=true then iJ P s d (ev T x) H n else bJ P o T
 | .call { callee:=.builtin b,args,argTypes }=>match b,args.toList with
  | .len,[x]=>if 1<=argTypes.size then lj P (argTypes.getD 0 0) (ev T x) H else none
  | .append,[s,x]=>if 2<=argTypes.size/\iV P (argTypes.getD 1 0)=true then gW P (argTypes.getD 0 0) (ev T s) (ev T x) H n else if 2<=argTypes.size/\isInt P (argTypes.getD 1 0)=true then l5 P (argTypes.getD 0 0) (ev T s) (ev T x) n else none
  | .cap,[x]=>if 1<=argTypes.size then vu P (argTypes.getD 0 0) (ev T x) else none
  | .copy,[d,x]=>if 1<=argTypes.size then qu P (argTypes.getD 0 0) (ev T d) (ev T x) H else none
  | .delete,[m,k]=>if 1<=argTypes.size then lE P (argTypes.getD 0 0) (ev T m) (ev T k) H else none
  | .clear,[d]=>if 1<=argTypes.size then od P (argTypes.getD 0 0) (ev T d) H else none
  | .min,_ | .max,_ | .complex,_ | .real,_ | .imag,_=>bJ P o T
  | _,_=>none
 | .binOp op t x y _=>if (eL P t).isSome=true then (match op,rS P t (ev T x) (ev T y) with
   | .eql,some b=>some (.val (.bool b),.none,[])
   | .neq,some b=>some (.val (.bool (!b)),.none,[])
   | _,_=>none)
  else bJ P o T
 | .unOp .. | .index ..=>bJ P o T
 | _=>none
abbrev Mu:=Nat->Option (Nat × Nat × Nat)
def cellAt (hp:Array Obj) (b k:Nat):Option Value:=match hp[b]? with
 | some (.cells c _ _)=>c[k]?
 | _=>none
theorem dw (w:World) (b k:Nat):w.cell? ⟨b,k,none⟩=cellAt w.heap b k:=by
 simp only[World.cell?,cellAt]
 cases w.heap[b]? with
 | none=>rfl
 | some o=>cases o<;>simp
inductive ae (Z:Nat->Prop) (μ:Mu) (hp:Array Obj):V->Value->Prop
 | any (x:Value):ae Z μ hp .any x
 | val (v:Value):plain v=true->ae Z μ hp (.val v) v
 | emp (k:Nat) (a:Option Addr):(k=1->a=none)->(k=2->a≠none)->ae Z μ hp (.emp k) (.slice a 0 0)
 | bS (a:Addr) (cap:Nat):ae Z μ hp .bS (.slice (some a) 0 cap)
 | dA (a:Option Addr) (cap:Nat):(a=none->cap=0)->ae Z μ hp (.al []) (.slice a 0 cap)
 | al (es:List (List V)) (b off esz cap:Nat) (c:Nat->Nat->Value):Z b->es.length<=cap ->
  (∀i,i<es.length->(es.getD i []).length=esz) ->
  (∀i j,i<es.length->j<esz->cellAt hp b (off+i*esz+j)=some (c i j)) ->
  (∀i j,i<es.length->j<esz->ae Z μ hp ((es.getD i []).getD j .any) (c i j)) ->
  ae Z μ hp (.al es) (.slice (some ⟨b,off,none⟩) es.length cap)
 | fj (id off esz:Nat) (a:Option Addr):ae Z μ hp (.sl id off 0 esz) (.slice a 0 0)
 | sl (id off len esz b o0 cap:Nat) (c:Array Value) (e:TypeId) (f:Nat × Nat):μ id=some (b,o0,esz)->len<=cap ->
  hp[b]?=some (.cells c e f)->o0+(off+cap)*esz<=c.size ->
  ae Z μ hp (.sl id off len esz) (.slice (some ⟨b,o0+off*esz,none⟩) len cap)
 | ptr (id i j b o0 esz:Nat):μ id=some (b,o0,esz)->ae Z μ hp (.ptr id i j) (.pointer (some ⟨b,o0+i*esz+j,none⟩))
 | aC (e:List V) (j b off:Nat) (c:Nat->Value):Z b->(∀k,k<e.length->cellAt hp b (off+k)=some (c k)) ->
  (∀k,k<e.length->ae Z μ hp (e.getD k .any) (c k))->ae Z μ hp (.aC e j) (.pointer (some ⟨b,off+j,none⟩))
 | mp (id b o0 esz:Nat):μ id=some (b,o0,esz)->ae Z μ hp (.mp id) (.map (some b))
 | fn (f:FuncId) (xs ys:List V) (aas bs:Array Value):xs.length=aas.size->ys.length=bs.size ->
  (∀i,i<xs.length->ae Z μ hp (xs.getD i .any) (aas.getD i undef))->(∀i,i<ys.length->ae Z μ hp (ys.getD i .any) (bs.getD i undef)) ->
  ae Z μ hp (.fn f xs ys) (.func (.func f) aas bs)
 | agg (cs:List V) (aas:Array Value):cs.length=aas.size->(∀i,i<cs.length->ae Z μ hp (cs.getD i .any) (aas.getD i undef))->ae Z μ hp (.agg cs) (.agg aas)
 | aA (cs:List V) (aas:Array Value):cs.length=aas.size->(∀i,i<cs.length->ae Z μ hp (cs.getD i .any) (aas.getD i undef))->ae Z μ hp (.aA cs) (.tuple aas)
def cL (Z:Nat->Prop) (μ:Mu) (hp:Array Obj) (vs:List V) (xs:List Value):Prop:=
 vs.length=xs.length/\∀i,i<vs.length->ae Z μ hp (vs.getD i .any) (xs.getD i undef)
def cR (hp hp':Array Obj):Prop:=∀(b:Nat) (c:Array Value) (e:TypeId) (f:Nat × Nat),hp[b]?=some (.cells c e f)->∃(c':Array Value) (f':Nat × Nat),hp'[b]?=some (.cells c' e f')/\c'.size=c.size
theorem cR.refl (hp:Array Obj):cR hp hp:=λ_ c _ f h=>⟨c,f,h,rfl⟩
theorem cR.trans {a b c:Array Obj} (h:cR a b) (k:cR b c):cR a c:=λi x e f d =>
 let ⟨g,f1,j,s1⟩:=h i x e f d
 let ⟨l,f2,m,s2⟩:=k i g e f1 j
 ⟨l,f2,m,s2.trans s1⟩
structure dC (Z Z':Nat->Prop) (μ μ':Mu) (hp hp':Array Obj):Prop where
 z:∀b,Z b->Z' b
 zz:∀b,Z b->hp'[b]?=hp[b]?
 mu:∀id x,μ id=some x->μ' id=some x
 shape:cR hp hp'
theorem dC.refl (Z:Nat->Prop) (μ:Mu) (hp:Array Obj):dC Z Z μ μ hp hp:=⟨λ_ h=>h,λ_ _=>rfl,λ_ _ h=>h,cR.refl _⟩
theorem dC.trans {Z Z' e:Nat->Prop} {μ μ' d:Mu} {a b c:Array Obj} (h:dC Z Z' μ μ' a b) (k:dC Z' e μ' d b c):dC Z e μ d a c:=
 ⟨λi hi=>k.z i (h.z i hi),λi hi=>(k.zz i (h.z i hi)).trans (h.zz i hi),λi x f=>k.mu i x (h.mu i x f),h.shape.trans k.shape⟩
theorem fw {hp a:Array Obj} {b:Nat} (h:a[b]?=hp[b]?) (k:Nat):cellAt a b k=cellAt hp b k:=by simp[cellAt,h]
theorem ae.mono {Z Z':Nat->Prop} {μ μ':Mu} {hp n:Array Obj} (m:dC Z Z' μ μ' hp n) {v:V} {x:Value} (h:ae Z μ hp v x):ae Z' μ' n v x:=by
 induction h with
 | any x=>exact .any x
 | val v w=>exact .val v w
 | emp k a g p=>exact .emp k a g p
 | bS a cap=>exact .bS a cap
 | dA a cap g=>exact .dA a cap g
 | al es b off esz cap c o hle q r _ l=>exact .al es b off esz cap c (m.z _ o) hle q (λi j hi y=>by rw[fw (m.zz _ o)];exact r i j hi y) l
 | fj id off esz a=>exact .fj id off esz a
 | sl id off len esz b o0 cap c e f hm hle A G =>
  obtain⟨B,C,s,D⟩:=m.shape b c e f A
  exact .sl id off len esz b o0 cap B e C (m.mu _ _ hm) hle s (by omega)
 | ptr id i j b o0 esz hm=>exact .ptr id i j b o0 esz (m.mu _ _ hm)
 | aC e j b off c o r _ l=>exact .aC e j b off c (m.z _ o) (λk E=>by rw[fw (m.zz _ o)];exact r k E) l
 | mp id b o0 esz hm=>exact .mp id b o0 esz (m.mu _ _ hm)
 | fn f xs ys d F g p _ _ t u=>exact .fn f xs ys d F g p t u
 | agg cs d g _ l=>exact .agg cs d g l
 | aA cs d g _ l=>exact .aA cs d g l
def bT (Z:Nat->Prop) (μ:Mu) (hp:Array Obj) (id:Nat):cQ->Prop
 | .dead=>True
 | .arr esz es=>∀b o0 s,μ id=some (b,o0,s)->s=esz /\
  (∃(c:Array Value) (e:TypeId) (f:Nat × Nat),hp[b]?=some (.cells c e f)/\(f.1=f.2∨c.size<=f.1)/\o0+es.length*esz<=c.size) /\
  (∀i,i<es.length->(es.getD i []).length=esz) /\
  (∀i j,i<es.length->j<esz->∃x,cellAt hp b (o0+i*esz+j)=some x/\ae Z μ hp ((es.getD i []).getD j .any) x)
 | .map es clock=>∀b o0 s,μ id=some (b,o0,s)->∃a:Array MapEntry,hp[b]?=some (.map a clock)/\a.size=es.length /\
  ∀i,i<es.length->∃y,a[i]?=some y/\ae Z μ hp (es.getD i default).1 y.key/\ae Z μ hp (es.getD i default).2.1 y.val/\y.born=(es.getD i default).2.2
 | .mg s pos=>∀b o0 t,μ id=some (b,o0,t)->o0=0/\hp[b]?=some (.stringIter s pos)
theorem bT.mono {Z Z':Nat->Prop} {μ μ':Mu} {hp g:Array Obj} (m:dC Z Z' μ μ' hp g) {id:Nat} {o:cQ} (h:bT Z μ hp id o)
  (k:μ' id=μ id) (l:∀b o0 s,μ id=some (b,o0,s)->g[b]?=hp[b]?):bT Z' μ' g id o:=by
 cases o with
 | dead=>trivial
 | arr esz es =>
  intro b o0 s d
  rw[k] at d
  obtain⟨n,⟨c,e,f,r,u,p⟩,q,v⟩:=h b o0 s d
  refine⟨n,⟨c,e,f,by rw[l b o0 s d];exact r,u,p⟩,q,λi j hi w=>?_⟩
  obtain⟨x,z,A⟩:=v i j hi w
  exact⟨x,by rw[fw (l b o0 s d)];exact z,A.mono m⟩
 | map es clock =>
  intro b o0 s d
  rw[k] at d
  obtain⟨a,B,p,q⟩:=h b o0 s d
  refine⟨a,by rw[l b o0 s d];exact B,p,λi hi=>?_⟩
  obtain⟨y,C,D,k2,E⟩:=q i hi
  exact⟨y,C,D.mono m,k2.mono m,E⟩
 | mg s pos =>
  intro b o0 t d
  rw[k] at d
  obtain⟨n,F⟩:=h b o0 t d
  exact⟨n,by rw[l b o0 t d];exact F⟩
def Gl (Z:Nat->Prop) (hp:Array Obj):Prop:=∀p∈yW,Z p.1/\∀k v,p.2[k]?=some v->cellAt hp p.1 k=some v/\plain v=true
theorem Gl.mono {Z Z':Nat->Prop} {hp c:Array Obj} (h:Gl Z hp) (d:∀b,Z b->Z' b) (e:∀b,Z b->c[b]?=hp[b]?):Gl Z' c:=λp a =>
 ⟨d _ (h p a).1,λk v f=>by rw[fw (e _ (h p a).1)];exact(h p a).2 k v f⟩
theorem Bi {Z:Nat->Prop} {μ:Mu} {hp:Array Obj} (h:Gl Z hp) (g:Nat):ae Z μ hp (gV g) (.pointer (some ⟨g,0,none⟩)):=by
 unfold gV
 split
 .rename_i p c
  have b:=h p (List.mem_of_find?_eq_some c)
  have d:=List.find?_some c
  simp only[HC] at d
  subst d
  have e:=ae.aC (μ:=μ) (hp:=hp) (p.2.map V.val) 0 p.1 0 (λk=>p.2.getD k undef) b.1 (λk a=>?_) (λk a=>?_)
  .exact e
  .have a:k<p.2.length:=by simpa using a
   simp only[Hy]
   rw[(b.2 k p.2[k] (GR a)).1]
   simp[GQ,a]
  .have a:k<p.2.length:=by simpa using a
   have:=(b.2 k p.2[k] (GR a)).2
   simp only[GQ,GY,GR a,Hb,G1]
   exact .val _ this
 .exact .any _
structure dO (Z:Nat->Prop) (μ:Mu) (hp:Array Obj) (H:View):Prop where
 obj:∀id,bT Z μ hp id (H id)
 inj:∀i j b o s o' s',i≠j->μ i=some (b,o,s)->μ j=some (b,o',s')->H i=.dead∨H j=.dead
 lt:∀id b o s,μ id=some (b,o,s)->b<hp.size
 aX:∀b,Z b->b<hp.size
 dQ:∀id b o s,μ id=some (b,o,s)->¬ Z b
 gl:Gl Z hp
def Mu.set (μ:Mu) (n:Nat) (x:Nat × Nat × Nat):Mu:=λid=>if id=n then some x else μ id
def View.set (H:View) (n:Nat) (o:cQ):View:=λid=>if id=n then o else H id
def az.view (H:View) (n:Nat):az->View
 | .none=>H
 | .new o=>H.set n o
 | .dp id o=>H.set id o
 | .cU id o=>(H.set id .dead).set n o
structure bZ (w w':World):Prop where
 os:w'.os=w.os
 tape:w'.tape=w.tape
 output:w'.output=w.output
 size:w.heap.size<=w'.heap.size
theorem bZ.refl (w:World):bZ w w:=⟨rfl,rfl,rfl,GX _⟩
theorem bZ.trans {a b c:World} (h:bZ a b) (k:bZ b c):bZ a c:=⟨k.os.trans h.os,k.tape.trans h.tape,k.output.trans h.output,Hk h.size k.size⟩
def cT (hp hp':Array Obj) (p:Nat->Prop):Prop:=∀b,b<hp.size->¬ p b->hp'[b]?=hp[b]?
def gZ (Z:Nat->Prop) (μ μ':Mu) (hp hp':Array Obj) (n:Nat):az->Prop
 | .none=>μ'=μ/\cT hp hp' (λ_=>False)
 | .new o=>∃b o0 s,hp.size<=b/\b<hp'.size/\μ'=μ.set n (b,o0,s)/\cT hp hp' (λ_=>False)/\bT Z μ' hp' n o
 | .dp id o=>∃b o0 s,μ id=some (b,o0,s)/\μ'=μ/\cT hp hp' (· = b)/\cR hp hp'/\bT Z μ' hp' id o
 | .cU id o=>∃b o0 s,μ'=μ.set n (b,o0,s)/\bT Z μ' hp' n o /\
  ((hp.size<=b/\b<hp'.size/\cT hp hp' (λ_=>False))∨((∃o1 s1,μ id=some (b,o1,s1))/\cT hp hp' (· = b)/\cR hp hp'))
theorem cT.jo {hp a:Array Obj} (h:cT hp a (λ_=>False)):cR hp a:=by
 intro b c e f g
 have d:b<hp.size:=by
  rcases Ho b hp.size with h | h
  .exact h
  .simp[Array.getElem?_eq_none h] at g
 exact⟨c,f,by rw[h b d (λx=>x)];exact g,rfl⟩
theorem gZ.mono {Z:Nat->Prop} {μ μ':Mu} {hp i:Array Obj} {n:Nat} {ag:az} (h:gZ Z μ μ' hp i n ag) (j:ag.fresh (μ n=none))
  (aX:∀b,Z b->b<hp.size) (dQ:∀id b o s,μ id=some (b,o,s)->¬ Z b):dC Z Z μ μ' hp i:=by
 have c:μ n=none->∀x:Nat × Nat × Nat,∀id y,μ id=some y->(μ.set n x) id=some y:=by
  intro j x id y p
  by_cases k:id=n
  .subst k;simp[j] at p
  .simp[Mu.set,k,p]
 cases ag with
 | none =>
  obtain⟨rfl,d⟩:=h
  exact⟨λ_ h=>h,λb l=>d b (aX b l) (λx=>x),λ_ _ h=>h,d.jo⟩
 | new o =>
  obtain⟨b,o0,s,_,_,rfl,d,_⟩:=h
  exact⟨λ_ h=>h,λb l=>d b (aX b l) (λx=>x),c j _,d.jo⟩
 | dp id o =>
  obtain⟨b,o0,s,g,rfl,d,m,_⟩:=h
  exact⟨λ_ h=>h,λf a=>d f (aX f a) (λe=>dQ _ _ _ _ g (e▸a)),λ_ _ h=>h,m⟩
 | cU id o =>
  obtain⟨b,o0,s,rfl,_,h | ⟨⟨q,s1,g⟩,d,m⟩⟩:=h
  .exact⟨λ_ h=>h,λf a=>h.2.2 f (aX f a) (λx=>x),c j _,h.2.2.jo⟩
  .exact⟨λ_ h=>h,λf a=>d f (aX f a) (λe=>dQ _ _ _ _ g (e▸a)),c j _,m⟩
theorem gZ.size {Z:Nat->Prop} {μ μ':Mu} {hp d:Array Obj} {n:Nat} {ag:az} (h:gZ Z μ μ' hp d n ag) (lt:∀id b o s,μ id=some (b,o,s)->b<hp.size) (f:hp.size<=d.size):
  ∀id b o s,μ' id=some (b,o,s)->b<d.size:=by
 have hold:∀id b o s,μ id=some (b,o,s)->b<d.size:=λid b o s c=>G2 (lt id b o s c) f
 cases ag with
 | none=>obtain⟨rfl,_⟩:=h;exact hold
 | new o =>
  obtain⟨b,o0,s,_,k,rfl,_,_⟩:=h
  intro id g i j c
  by_cases a:id=n
  .simp[Mu.set,a] at c;omega
  .simp[Mu.set,a] at c;exact hold _ _ _ _ c
 | dp id o=>obtain⟨b,o0,s,e,rfl,_⟩:=h;exact hold
 | cU id o =>
  obtain⟨b,o0,s,rfl,_,h | ⟨⟨l,s1,e⟩,_,_⟩⟩:=h
  all_goals
   intro id g i j c
   by_cases a:id=n
   .simp[Mu.set,a] at c
    first | omega | (obtain⟨rfl,_,_⟩:=c;exact hold _ _ _ _ e)
   .simp[Mu.set,a] at c;exact hold _ _ _ _ c
theorem dO.ag {Z:Nat->Prop} {μ μ':Mu} {hp B:Array Obj} {H:View} {n:Nat} {ag:az} (h:dO Z μ hp H) (S:ag.fresh (μ n=none)) (O:hp.size<=B.size)
  (he:gZ Z μ μ' hp B n ag) (N:∀id o,ag=.dp id o->H id≠.dead) (K:∀id o,ag=.cU id o->H id≠.dead):dO Z μ' B (ag.view H n):=by
 have hm:=he.mono S h.aX h.dQ
 have q:=he.size h.lt O
 have C:∀b,Z b->b<B.size:=λb T=>G2 (h.aX b T) O
 cases ag with
 | none =>
  obtain⟨rfl,F⟩:=he
  exact⟨λid=>(h.obj id).mono hm rfl (λb o s d=>F b (h.lt _ _ _ _ d) (λx=>x)),h.inj,q,C,h.dQ,h.gl.mono hm.z hm.zz⟩
 | new o =>
  obtain⟨b,o0,s,U,V,rfl,F,u⟩:=he
  refine⟨λid=>?_,?_,q,C,?_,h.gl.mono hm.z hm.zz⟩
  .by_cases c:id=n
   .subst c;simpa [az.view,View.set] using u
   .have:=(h.obj id).mono hm (by simp[Mu.set,c]) (λb o s d=>F b (h.lt _ _ _ _ d) (λx=>x))
    simpa [az.view,View.set,c] using this
  .intro i j f y A D E v hi r
   by_cases a:i=n
   .by_cases t:j=n
    .omega
    .simp[Mu.set,a] at hi;simp[Mu.set,t] at r
     have:=h.lt _ _ _ _ r;omega
   .by_cases t:j=n
    .simp[Mu.set,t] at r;simp[Mu.set,a] at hi
     have:=h.lt _ _ _ _ hi;omega
    .simp[Mu.set,a] at hi;simp[Mu.set,t] at r
     simpa [az.view,View.set,a,t] using h.inj i j f y A D E v hi r
  .intro id f y A d I
   by_cases a:id=n
   .simp[Mu.set,a] at d;have:=h.aX _ I;omega
   .simp[Mu.set,a] at d;exact h.dQ _ _ _ _ d I
 | dp k o =>
  obtain⟨b,o0,s,l,rfl,F,W,u⟩:=he
  have J:=N k o rfl
  refine⟨λid=>?_,?_,q,C,h.dQ,h.gl.mono hm.z hm.zz⟩
  .by_cases c:id=k
   .subst c;simpa [az.view,View.set] using u
   .simp only[az.view,View.set,c,if_false]
    by_cases L:H id=.dead
    .rw[L];trivial
    .refine(h.obj id).mono hm rfl (λf y A d=>F f (h.lt _ _ _ _ d) ?_)
     intro e
     subst e
     rcases h.inj id k _ _ _ _ _ c d l with a | a
     .exact L a
     .exact J a
  .intro i j f y A D E v hi r
   rcases h.inj i j _ _ _ _ _ v hi r with a | a
   .by_cases e:i=k
    .exact absurd (e▸a) J
    .left;simpa [az.view,View.set,e] using a
   .by_cases e:j=k
    .exact absurd (e▸a) J
    .right;simpa [az.view,View.set,e] using a
 | cU k o =>
  obtain⟨b,o0,s,rfl,u,m⟩:=he
  have J:=K k o rfl
  have w:(μ.set n (b,o0,s)) n=some (b,o0,s):=by simp[Mu.set]
  refine⟨λid=>?_,?_,q,C,?_,h.gl.mono hm.z hm.zz⟩
  .by_cases c:id=n
   .subst c;simpa [az.view,View.set] using u
   .by_cases g:id=k
    .simp only[az.view,View.set,c,if_false,g,if_true]
     split<;>first | trivial | (rename_i e;exact absurd (g.trans e) c)
    .simp only[az.view,View.set,c,if_false,g]
     by_cases L:H id=.dead
     .rw[L];trivial
     .refine(h.obj id).mono hm (by simp[Mu.set,c]) (λf y A d=>?_)
      rcases m with a | ⟨⟨P,s1,l⟩,F,_⟩
      .exact a.2.2 f (h.lt _ _ _ _ d) (λx=>x)
      .refine F f (h.lt _ _ _ _ d) ?_
       intro e
       subst e
       rcases h.inj id k _ _ _ _ _ g d l with a | a
       .exact L a
       .exact J a
  .intro i j f y A D E v hi r
   have key:∀i f y A,i≠n->(μ.set n (b,o0,s)) i=some (f,y,A)->f=b->(az.view H n (.cU k o)) i=.dead:=by
    intro p X Y t1 M d e
    subst e
    simp only[Mu.set,GV M] at d
    simp only[az.view,View.set,GV M]
    by_cases g:p=k
    .simp[g]
    .simp only[GV g]
     rcases m with a | ⟨⟨P,s1,l⟩,_,_⟩
     .have:=h.lt _ _ _ _ d;omega
     .rcases h.inj p k _ _ _ _ _ g d l with a | a
      .exact a
      .exact absurd a J
   by_cases a:i=n
   .have t:j≠n:=by omega
    right
    have G:f=b:=by
     rw[a,w] at hi;simp at hi;exact hi.1.symm
    exact key j f D E t r G
   .by_cases t:j=n
    .left
     have G:f=b:=by
      rw[t,w] at r;simp at r;exact r.1.symm
     exact key i f y A a hi G
    .simp only[Mu.set,a,if_false] at hi
     simp only[Mu.set,t,if_false] at r
     simp only[az.view,View.set,a,t,if_false]
     by_cases Q:i=k
     .left;simp[Q]
     .by_cases R:j=k
      .right;simp[R]
      .simp only[Q,R,if_false]
       exact h.inj i j _ _ _ _ _ v hi r
  .intro id f y A d I
   by_cases a:id=n
   .rw[a,w] at d
    obtain⟨rfl,_,_⟩:=d
    rcases m with t | ⟨⟨P,s1,l⟩,_,_⟩
    .have:=h.aX _ I;omega
    .exact h.dQ _ _ _ _ l I
   .simp only[Mu.set,a,if_false] at d
    exact h.dQ _ _ _ _ d I
theorem ly {Z:Nat->Prop} {μ:Mu} {hp:Array Obj} {v:V} {x:Value} (h:ae Z μ hp v x) (a:au v=true):x.oneCell'=true:=by
 cases h with
 | val _ b=>cases x<;>first | rfl | (simp[plain] at b)
 | any x=>simp[au] at a
 | agg cs c d e=>simp[au] at a
 | aA cs c d e=>simp[au] at a
 | _=>rfl
theorem dq {Z:Nat->Prop} {μ:Mu} {hp:Array Obj} {v:V} {x:Value} (h:ae Z μ hp v x) (p:v.cells.all au=true):cL Z μ hp v.cells x.cells.toList:=by
 have one:∀v x,ae Z μ hp v x->x.cells = #[x]->cL Z μ hp [v] x.cells.toList:=by
  intro v x h q
  rw[q]
  exact⟨rfl,λi hi=>by
   simp at hi;subst hi;simpa using h⟩
 cases h with
 | agg cs l d g =>
  refine⟨by simpa [V.cells,Value.cells] using d,λi hi=>?_⟩
  have:=g i (by simpa [V.cells] using hi)
  simpa [V.cells,Value.cells,List.getD,GW] using this
 | any x=>simp[V.cells,au] at p
 | aA cs l d g=>simp[V.cells,au] at p
 | val _ n =>
  refine one _ _ (.val x n) ?_
  cases x<;>first | rfl | (simp[plain] at n)
 | emp k a d g=>exact one _ _ (.emp k a d g) rfl
 | bS a cap=>exact one _ _ (.bS a cap) rfl
 | dA a cap d=>exact one _ _ (.dA a cap d) rfl
 | al es b off esz cap c d g m o r=>exact one _ _ (.al es b off esz cap c d g m o r) rfl
 | fj id off esz a=>exact one _ _ (.fj id off esz a) rfl
 | sl id off len esz b o0 cap c e f d g m o=>exact one _ _ (.sl id off len esz b o0 cap c e f d g m o) rfl
 | ptr id i j b o0 esz d=>exact one _ _ (.ptr id i j b o0 esz d) rfl
 | aC e j b off c d g m=>exact one _ _ (.aC e j b off c d g m) rfl
 | mp id b o0 esz d=>exact one _ _ (.mp id b o0 esz d) rfl
 | fn f xs ys l s d g m o=>exact one _ _ (.fn f xs ys l s d g m o) rfl
theorem iH {P:Program} {t:TypeId} {i:TypeInfo} (h:P.info? t=some i) (w:World):(typeInfo t).run P w=.ok i w:=by
 simp[typeInfo,h]
theorem bt {P:Program} {t:TypeId} {i:TypeInfo} (h:P.info? t=some i) (w:World):(Go.sizeOf t).run P w=.ok i.size w:=by
 simp[Go.sizeOf,iH h]
theorem aw {P:Program} {t:TypeId} {d:TypeDesc} (h:P.underlying t=some d) (w:World):(underlying t).run P w=.ok d w:=by
 simp[underlying,h]
theorem ew {P:Program} {t:TypeId} {i:TypeInfo} {v:Value} (h:P.info? t=some i) (a:i.zero=some v) (w:World):(zeroValue t).run P w=.ok v w:=by
 simp[zeroValue,iH h,a]
theorem kC {P:Program} {t:TypeId} {b:Bool} (h:jU P t=some b) (w:World):(isAgg t).run P w=.ok b w:=by
 unfold jU at h
 cases hu:P.underlying t with
 | none=>grind
 | some d =>
  simp only[isAgg,Sem.run_bind,aw hu,Result.andThen_ok]
  cases d<;>simp_all
def tD (Z:Nat->Prop) (μ:Mu) (hp:Array Obj) (b off:Nat) (cs:List V):Prop:=
 ∀k,k<cs.length->∃x,cellAt hp b (off+k)=some x/\ae Z μ hp (cs.getD k .any) x
theorem iR {α:Type} {P:Program}:∀(s:Sem α) {a:α},aH P s=some a->∀w,s.run P w=.ok a w:=by
 intro s
 induction s with
 | pure a=>intro c h w;simp[aH] at h;subst h;rfl
 | program k b=>intro a h w;simp only[aH] at h;simp only[Sem.run];exact b P h w
 | _=>grind [aH]
theorem iv {n:Nat} {p:Nat->Value->Prop} (h:∀k,k<n->∃x,p k x):∃f:Nat->Value,∀k,k<n->p k (f k):=by
 refine⟨λk=>if a:k<n then Classical.choose (h k a) else undef,λk a=>?_⟩
 grind
theorem ec (b o n:Nat):Addr.add ⟨b,o,none⟩ n=⟨b,o+n,none⟩:=by
 unfold Addr.add;split
 all_goals grind
theorem kT {Z:Nat->Prop} {μ:Mu} {w:World} {P:Program} {b off j:Nat} {t:TypeId} {cs:List V} {v:V} (h:tD Z μ w.heap b off cs) (hp:iW P t cs j=some v):
  ∃x,(loadVar t ⟨b,off+j,none⟩).run P w=.ok x w/\ae Z μ w.heap v x:=by
 unfold iW at hp
 cases hi:P.info? t with
 | none=>grind
 | some i =>
  cases c:jU P t with
  | none=>grind
  | some g =>
   simp only[hi,c] at hp
   cases g with
   | true =>
    simp only at hp
    split at hp
    .simp at hp;subst hp
     have d:∀k,k<i.size->∃x,cellAt w.heap b (off+(j+k))=some x/\ae Z μ w.heap (cs.getD (j+k) .any) x:=λk e=>h (j+k) (by omega)
     obtain⟨f,l⟩:=iv d
     refine⟨.agg ((List.range i.size).map f).toArray,?_,?_⟩
     .simp only[loadVar,Sem.run_bind,kC c,Result.andThen_ok,if_true,bt hi]
      rw[run_loadCells w ⟨b,off+j,none⟩ i.size f (λk e=>by rw[ec,dw,Nat.add_assoc];exact(l k e).1)]
      rfl
     .refine .agg _ _ (by simp;omega) (λk e=>?_)
      have a:k<i.size:=by grind
      have:=(l k a).2
      simpa [List.getD,a,HA,List.getElem?_drop,GW] using this
    .simp at hp
   | false =>
    simp only at hp
    split at hp
    .rename_i hle
     simp at hp;subst hp
     obtain⟨x,d,m⟩:=h j hle
     refine⟨x,?_,by simpa [List.getD] using m⟩
     simp only[loadVar,Sem.run_bind,kC c,Result.andThen_ok,Hc,if_false,run_load,dw,d]
    .simp at hp
theorem nJ {w:World} {b k:Nat} {v:Value} {c:Array Value} {e:TypeId} {f:Nat × Nat} (h:w.heap[b]?=some (.cells c e f)):
  w.setCell ⟨b,k,none⟩ v = { w with heap:=w.heap.setIfInBounds b (.cells (c.setIfInBounds k v) e f) }:=by
 unfold World.setCell
 congr 1
 apply Array.ext_getElem?
 intro i
 simp only[HU,HE]
 by_cases hi:b=i
 .grind
 .simp[hi]
theorem zV {w:World} {b k:Nat} {c:Array Value} {e:TypeId} {f:Nat × Nat} (h:w.heap[b]?=some (.cells c e f)) (a:¬ (f.1<=k/\k<f.2)):w.frozen? ⟨b,k,none⟩=false:=by
 simp only[World.frozen?,h]
 grind
theorem iU {c:Array Value} {f:Nat × Nat} (h:f.1=f.2∨c.size<=f.1):∀k,k<c.size->¬ (f.1<=k/\k<f.2):=by
 grind
theorem fB {P:Program} {b off:Nat} {e:TypeId} {f:Nat × Nat}:∀(xs:List Value) (i:Nat) (c:Array Value) (w:World),
  w.heap[b]?=some (.cells c e f)->(∀k,k<c.size->¬ (f.1<=k/\k<f.2))->off+i+xs.length<=c.size->(∀x∈xs,x.oneCell'=true) ->
  ∃d,(storeCells ⟨b,off,none⟩ xs i).run P w=.ok () { w with heap:=w.heap.setIfInBounds b (.cells d e f) }/\d.size=c.size /\
   ∀k,d[k]?=if off+i<=k/\k<off+i+xs.length then xs[k-(off+i)]? else c[k]?
 | [],i,c,w,h,_,_,_=>by
  refine⟨c,?_,rfl,λk=>?_⟩
  .simp only[storeCells,Sem.run_pure]
   congr 1
   have:w.heap.setIfInBounds b (.cells c e f)=w.heap:=by
    grind
   rw[this]
  .grind
 | x::xs,i,c,w,h,j,m,l=>by
  simp only[G5] at m
  have n:b<w.heap.size:=by
   grind
  have a:w.cell? ⟨b,off+i,none⟩=some c[off+i]:=by
   grind [dw,cellAt]
  have hw:(w.setCell ⟨b,off+i,none⟩ x).heap[b]?=some (.cells (c.setIfInBounds (off+i) x) e f):=by
   grind [nJ]
  obtain⟨d,hr,g,o⟩:=fB (P:=P) (off:=off) (f:=f) xs (i+1) (c.setIfInBounds (off+i) x) (w.setCell ⟨b,off+i,none⟩ x) hw (λk p=>j k (by simpa using p)) (by simp;omega) (λy q=>l y (Hw _ q))
  refine⟨d,?_,by simpa using g,λk=>?_⟩
  .simp only[storeCells,Sem.run_bind,ec]
   rw[run_store P w _ x _ (l x List.mem_cons_self),a]
   simp only[zV h (j (off+i) (by omega)),Hc,if_false,Result.andThen_ok]
   rw[hr]
   congr 1
   rw[nJ h]
   simp[Array.setIfInBounds_setIfInBounds]
  .grind
theorem bo (hp:Array Obj) (b:Nat) (o:Obj):cT hp (hp.setIfInBounds b o) (· = b):=by
 intro k _ a
 grind
theorem er {hp:Array Obj} {b:Nat} {c a:Array Value} {e:TypeId} {f:Nat × Nat} (h:hp[b]?=some (.cells c e f)) (d:a.size=c.size):cR hp (hp.setIfInBounds b (.cells a e f)):=by
 intro k x e' g i
 grind
theorem bN {hp:Array Obj} {b:Nat} {o:Obj} (h:b<hp.size):(hp.setIfInBounds b o)[b]?=some o:=by simp[h]
theorem cr {hp:Array Obj} {b:Nat} {o:Obj} (h:hp[b]?=some o):b<hp.size:=by
 grind
theorem mS (l cs:List V) (j:Nat) (a:j+cs.length<=l.length):(cI l j cs).length=l.length:=by
 grind [cI]
theorem sE (l cs:List V) (j k:Nat) (a:j+cs.length<=l.length) (h:j<=k/\k<j+cs.length):(cI l j cs).getD k .any=cs.getD (k-j) .any:=by
 grind [cI]
theorem qa (l cs:List V) (j k:Nat) (a:j+cs.length<=l.length) (h:¬ (j<=k/\k<j+cs.length)):(cI l j cs).getD k .any=l.getD k .any:=by
 simp only[cI,GQ,Ii]
 grind
theorem bT.store {Z:Nat->Prop} {μ:Mu} {w:World} {P:Program} {id b o0 s esz i j:Nat} {es:List (List V)} {cs:List V} {xs:List Value}
  (F:bT Z μ w.heap id (.arr esz es)) (v:μ id=some (b,o0,s)) (N:¬ Z b) (aX:∀b,Z b->b<w.heap.size) (hi:i<es.length) (S:j+cs.length<=esz) (hr:cL Z μ w.heap cs xs) (y:∀x∈xs,x.oneCell'=true):
  ∃w',(storeCells ⟨b,o0+i*esz+j,none⟩ xs).run P w=.ok () w'/\bZ w w'/\cT w.heap w'.heap (· = b)/\cR w.heap w'.heap /\
   bT Z μ w'.heap id (.arr esz (es.set i (cI (es.getD i []) j cs))):=by
 obtain⟨rfl,⟨c,e,f,z,L,O⟩,hlen,l⟩:=F b o0 s v
 have hmul:(i+1)*s<=es.length*s:=Hf _ hi
 have G:(i+1)*s=i*s+s:=by rw[Hl];omega
 have M:=cr z
 obtain⟨D,A,n,H⟩:=fB (P:=P) (b:=b) (off:=o0+i*s+j) (e:=e) (f:=f) xs 0 c w z (iU L) (by rw[<-hr.1];omega) y
 have hm:dC Z Z μ μ w.heap (w.heap.setIfInBounds b (.cells D e f)):=
  ⟨λ_ h=>h,λk B=>bo w.heap b _ k (aX k B) (λe=>N (e▸B)),λ_ _ h=>h,er z n⟩
 refine⟨_,A,⟨rfl,rfl,rfl,by simp⟩,bo _ _ _,er z n,?_⟩
 intro T U W o
 rw[v] at o
 simp only[GS,G6] at o
 obtain⟨rfl,rfl,rfl⟩:=o
 have Q:(cI (es.getD i []) j cs).length=s:=by
  grind [mS]
 have p:∀a,(es.set i (cI (es.getD i []) j cs)).getD a []=if a=i then cI (es.getD i []) j cs else es.getD a []:=by
  intro a
  simp only[GQ,Ir]
  by_cases q:i=a
  .subst q;simp[hi]
  .rw[GV q,GV (λe=>q e.symm)]
 refine⟨rfl,⟨D,e,f,by simp[M],by rw[n];exact L,by simpa [n] using O⟩,?_,?_⟩
 .intro a r
  rw[p]
  split
  .exact Q
  .exact hlen a (by simpa using r)
 .intro a g r C
  have m:a<es.length:=by simpa using r
  have E:(a+1)*s=a*s+s:=by rw[Hl];omega
  have t:cellAt (w.heap.setIfInBounds b (.cells D e f)) b (o0+a*s+g)=D[o0+a*s+g]?:=by simp[cellAt,M]
  have d:cellAt w.heap b (o0+a*s+g)=c[o0+a*s+g]?:=by simp[cellAt,z]
  rw[t,H,p]
  by_cases u:a=i
  .subst u
   rw[GZ rfl]
   by_cases I:j<=g/\g<j+cs.length
   .have B:g-j<cs.length:=by omega
    have J:g-j<xs.length:=hr.1▸B
    rw[GZ (by rw[<-hr.1];omega),show o0+a*s+g-(o0+a*s+j+0)=g-j from by omega]
    refine⟨xs[g-j],by simp[J],?_⟩
    have:=(hr.2 (g-j) B).mono hm
    grind [sE]
   .rw[GV (by rw[<-hr.1];omega)]
    obtain⟨x,o,K⟩:=l a g m C
    rw[d] at o
    refine⟨x,o,?_⟩
    have R:=hlen a m
    rw[qa _ _ _ _ (by omega) I]
    exact K.mono hm
  .rw[GV u]
   have:¬ (o0+i*s+j+0<=o0+a*s+g/\o0+a*s+g<o0+i*s+j+0+xs.length):=by
    rw[<-hr.1]
    rcases Nat.lt_or_gt_of_ne u with q | q
    .have:(a+1)*s<=i*s:=Hf _ q
     omega
    .have:(i+1)*s<=a*s:=Hf _ q
     omega
   rw[GV this]
   obtain⟨x,o,K⟩:=l a g m C
   rw[d] at o
   exact⟨x,o,K.mono hm⟩
theorem bT.newRow {Z:Nat->Prop} {μ:Mu} {hp:Array Obj} {n esz:Nat} {es:List (List V)} {c:Array Value} {e:TypeId}
  (l:μ n=none) (aX:∀b,Z b->b<hp.size) (f:es.length*esz<=c.size) (hlen:∀i,i<es.length->(es.getD i []).length=esz)
  (h:∀i j,i<es.length->j<esz->∃x,c[i*esz+j]?=some x/\ae Z μ hp ((es.getD i []).getD j .any) x):
  bT Z (μ.set n (hp.size,0,esz)) (hp.push (.cells c e (0,0))) n (.arr esz es):=by
 intro b o0 s a
 simp only[Mu.set,if_true,GS,G6] at a
 obtain⟨rfl,rfl,rfl⟩:=a
 have hm:dC Z Z μ (μ.set n (hp.size,0,esz)) hp (hp.push (.cells c e (0,0))):=by
  refine⟨λ_ h=>h,λb d=>?_,λid x a=>?_,?_⟩
  .have:=aX b d
   rw[Ik,GV (by omega)]
  .grind [Mu.set]
  .intro b m e' o d
   grind [cr]
 refine⟨rfl,⟨c,e,(0,0),by simp,.inl rfl,by simpa using f⟩,hlen,λi j hi g=>?_⟩
 obtain⟨x,a,k⟩:=h i j hi g
 exact⟨x,by simp[cellAt,a],k.mono hm⟩
theorem b6 (hp:Array Obj) (o:Obj):cT hp (hp.push o) (λ_=>False):=by
 intro k a _
 rw[Ik,GV (by omega)]
structure Ctx (Z:Nat->Prop) (μ:Mu) (hp:Array Obj) (H:View) (rd:List Nat) (n:Nat) (ag:az):Prop where
 new:ag.fresh (μ n=none)
 obj:∀id,id∈rd->bT Z μ hp id (H id)
 lt:∀id b o s,μ id=some (b,o,s)->b<hp.size
 aX:∀b,Z b->b<hp.size
 dQ:∀id b o s,μ id=some (b,o,s)->¬ Z b
def aq (Z:Nat->Prop) (μ:Mu) (w:World) (n:Nat) (v:V) (ag:az) (r:Result Next):Prop:=
 ∃nx w' μ',r=.ok nx w'/\((∃x,nx=.value x/\ae Z μ' w'.heap v x)∨(nx=.skip/\v=.any))/\bZ w w'/\gZ Z μ μ' w.heap w'.heap n ag
section
variable {Z:Nat->Prop} {μ μ':Mu} {w w':World} {P:Program} {H:View} {n:Nat} {v:V} {ag:az} {rd:List Nat}
theorem dZ:gZ Z μ μ w.heap w.heap n .none:=⟨rfl,λ_ _ _=>rfl⟩
theorem aq.value {s:Sem Value} {x:Value} (hr:s.run P w=.ok x w') (a:ae Z μ' w'.heap v x) (b:bZ w w') (he:gZ Z μ μ' w.heap w'.heap n ag):
  aq Z μ w n v ag ((do pure (Next.value (<-s)):Sem Next).run P w):=
 ⟨.value x,w',μ',by simp[hr],.inl ⟨x,rfl,a⟩,b,he⟩
theorem aq.here {s:Sem Value} {x:Value} (hr:s.run P w=.ok x w) (a:ae Z μ w.heap v x):aq Z μ w n v .none ((do pure (Next.value (<-s)):Sem Next).run P w):=
 aq.value hr a (bZ.refl w) dZ
theorem aq.skip {s:Sem Unit} (hr:s.run P w=.ok () w') (a:bZ w w') (he:gZ Z μ μ' w.heap w'.heap n ag):
  aq Z μ w n .any ag ((do s;pure Next.skip:Sem Next).run P w):=
 ⟨.skip,w',μ',by simp[hr],.inr ⟨rfl,rfl⟩,a,he⟩
theorem mB (x:Value):ae Z μ w.heap (ij x) x:=by
 cases x with
 | slice a len cap =>
  cases a with
  | none =>
   cases len with
   | zero=>cases cap with
    | zero=>exact .emp 1 none (λ_=>rfl) (λh=>by simp at h)
    | succ c=>exact .any _
   | succ l=>exact .any _
  | some a=>exact .any _
 | _ =>
  simp only[ij]
  split
  .rename_i h;exact .val _ h
  .exact .any _
theorem cZ (x:Value):ae Z μ w.heap (cK x) x:=by
 cases x with
 | agg cs =>
  refine .agg _ _ (by simp) (λi hi=>?_)
  have c:i<cs.size:=by grind
  simpa [c] using mB cs[i]
 | func fn a b =>
  cases fn with
  | func f =>
   simp only[cK]
   split
   .rename_i h
    exact .fn _ _ _ _ _ h.1.symm h.2.symm (λi hi=>by simp at hi) (λi hi=>by simp at hi)
   .exact .any _
  | _=>grind [cK,mB]
 | _=>grind [cK,mB]
theorem heap_alloc (w:World) (o:Obj):(w.alloc o).heap=w.heap.push o:=rfl
theorem eu (w:World) (o:Obj):bZ w (w.alloc o):=⟨rfl,rfl,rfl,by rw[heap_alloc];simp⟩
theorem jb {v:V} {x y:Value} (h:ae Z μ w.heap v x) (f:bz v=some y):y=x:=by
 have d:∀(cs:List V) (l:List Value),lJ cs=some l->∀(xs:List Value),cs.length=xs.length->(∀i,i<cs.length->ae Z μ w.heap (cs.getD i .any) (xs.getD i undef))->l=xs:=by
  intro cs
  induction cs with
  | nil=>grind [lJ]
  | cons c r m =>
   intro l e xs j hr
   cases xs with
   | nil=>simp at j
   | cons x xs =>
    simp only[lJ] at e
    split at e
    .rename_i a b k n
     simp at e;subst e
     have o:=hr 0 (by simp)
     have:=m b n xs (by simpa using j) (λi hi=>by simpa using hr (i+1) (by simpa using hi))
     subst this
     cases c<;>simp[toCell] at k
     subst k
     cases o;rfl
    .simp at e
 cases v with
 | val a=>simp[bz] at f;subst f;cases h;rfl
 | agg cs =>
  simp only[bz,GU] at f
  obtain⟨l,e,rfl⟩:=f
  cases h with
  | agg _ g p q =>
   have:=d cs l e g.toList (by simpa using p) (λi hi=>by simpa [GQ,GW] using q i hi)
   subst this;simp
 | _=>simp[bz] at f
theorem gR {id i j:Nat} {x:Value} (h:ae Z μ w.heap (.ptr id i j) x):∃b o0 esz,μ id=some (b,o0,esz)/\x=.pointer (some ⟨b,o0+i*esz+j,none⟩):=by
 cases h with | ptr _ _ _ b o0 esz hm=>exact⟨b,o0,esz,hm,rfl⟩
theorem kj {e:List V} {j:Nat} {x:Value} (h:ae Z μ w.heap (.aC e j) x):∃b off,Z b/\tD Z μ w.heap b off e/\x=.pointer (some ⟨b,off+j,none⟩):=by
 cases h with | aC _ _ b off c d f g=>exact⟨b,off,d,λk a=>⟨c k,f k a,g k a⟩,rfl⟩
theorem oG {e:List V} {j b off:Nat} (d:Z b) (h:tD Z μ w.heap b off e):ae Z μ w.heap (.aC e j) (.pointer (some ⟨b,off+j,none⟩)):=by
 obtain⟨f,c⟩:=iv h
 exact .aC e j b off f d (λk a=>(c k a).1) (λk a=>(c k a).2)
theorem rowOf {id i b o0 s esz:Nat} {es:List (List V)} (a:bT Z μ w.heap id (.arr esz es)) (c:μ id=some (b,o0,s)) (hi:i<es.length):
  s=esz/\tD Z μ w.heap b (o0+i*s) (es.getD i []):=by
 obtain⟨rfl,_,e,f⟩:=a b o0 s c
 refine⟨rfl,λk d=>?_⟩
 rw[e i hi] at d
 exact f i k hi d
theorem CJ {t:TypeId} {a:V} {x:Value} (h:gD P t a H=some (v,ag,rd)) (m:ae Z μ w.heap a x) (c:Ctx Z μ w.heap H rd n ag):
  aq Z μ w n v ag ((do pure (Next.value (<-Instr.loadAt t x)):Sem Next).run P w):=by
 unfold gD at h
 split at h
 .rename_i id i j
  obtain⟨b,o0,esz,hm,rfl⟩:=gR m
  split at h
  .rename_i e es o
   split at h
   .rename_i hi
    simp only[GU] at h
    obtain⟨p,d,h⟩:=h
    obtain⟨rfl,rfl,rfl⟩:=h
    have f:=c.obj id (by simp)
    rw[o] at f
    obtain⟨y,k,l⟩:=kT (P:=P) (rowOf f hm hi).2 d
    exact aq.here (by simp[Instr.loadAt,Instr.sureAddr,k]) l
   .simp at h
  .simp at h
 .obtain⟨b,off,q,g,rfl⟩:=kj m
  simp only[GU] at h
  obtain⟨p,d,h⟩:=h
  obtain⟨rfl,rfl,rfl⟩:=h
  obtain⟨y,k,l⟩:=kT (P:=P) g d
  exact aq.here (by simp[Instr.loadAt,Instr.sureAddr,k]) l
 .simp at h
theorem mj {t:TypeId} {i:TypeInfo} (h:P.info? t=some i):P.cellsOf t=i.size:=by simp[Program.cellsOf,h]
theorem D2 {cs:List V} {xs:List Value} (h:cL Z μ w.heap cs xs) (c:cs.all au=true):∀x∈xs,x.oneCell'=true:=by
 intro x b
 obtain⟨i,hi,rfl⟩:=List.getElem_of_mem b
 have a:i<cs.length:=h.1▸hi
 have:=h.2 i a
 simp only[GQ,GR hi,GR a,G1] at this
 grind [ly]
theorem AR {t:TypeId} {a b:V} {x y:Value} (h:jc P t a b H=some (v,ag,rd)) (l:ae Z μ w.heap a x) (m:ae Z μ w.heap b y) (c:Ctx Z μ w.heap H rd n ag):
  aq Z μ w n v ag ((do Instr.storeAt t x y;pure Next.skip:Sem Next).run P w):=by
 unfold jc at h
 split at h
 .rename_i id i j
  obtain⟨k,o0,s,hm,rfl⟩:=gR l
  split at h
  .rename_i esz es o
   split at h
   .rename_i p
    obtain⟨hi,hlen,q,f,d⟩:=p
    obtain⟨rfl,rfl,rfl⟩:=h
    have e:=c.obj id (by simp)
    rw[o] at e
    have r:=(e k o0 s hm).1
    subst r
    have hr:=dq m f
    obtain⟨w',u,z,A,B,C⟩:=e.store (P:=P) hm (c.dQ _ _ _ _ hm) c.aX hi q hr (D2 hr f)
    obtain⟨ti,g⟩:=Option.isSome_iff_exists.1 d
    refine aq.skip ?_ z ⟨k,o0,s,hm,rfl,A,B,C⟩
    have:y.cells.size=ti.size:=by rw[<-mj g,<-hlen,hr.1];simp
    simp[Instr.storeAt,Instr.sureAddr,storeVar,bt g,this,u]
   .simp at h
  .simp at h
 .simp at h
theorem xU {cs:List V} {x:Value} {t:TypeId} (h:fZ cs n=some (v,ag,rd)) (hr:cs.all au=true->cL Z μ w.heap cs x.cells.toList) (c:Ctx Z μ w.heap H rd n ag):
  aq Z μ w n v ag ((do pure (Next.value (.pointer (some (<-newVar t x)))):Sem Next).run P w):=by
 unfold fZ at h
 split at h
 .rename_i a
  obtain⟨rfl,rfl,rfl⟩:=h
  have hr:=hr a
  refine⟨.value (.pointer (some ⟨w.heap.size,0,none⟩)),w.alloc (.cells x.cells t),μ.set n (w.heap.size,0,cs.length),by simp[newVar,newRow],.inl ⟨_,rfl,?_⟩,eu _ _,?_⟩
  .have:=ae.ptr (Z:=Z) (μ:=μ.set n (w.heap.size,0,cs.length)) (hp:=(w.alloc (.cells x.cells t)).heap) n 0 0 w.heap.size 0 cs.length (by simp[Mu.set])
   grind
  .refine⟨w.heap.size,0,cs.length,GX _,by rw[heap_alloc];simp,rfl,b6 _ _,?_⟩
   refine bT.newRow c.new c.aX (by rw[hr.1];simp) (λi hi=>by simp at hi;subst hi;simp) (λi j hi b=>?_)
   simp at hi;subst hi
   have d:j<x.cells.size:=by have:=hr.1;simp at this;omega
   have:=hr.2 j b
   grind
 .simp at h
theorem lf {t:TypeId} {f off s:Nat} {a:TypeId} (h:iE P t f=some (off,s,a)):
  ∃b x i,P.underlying t=some (.struct b)/\b[f]?=some x/\P.info? x.type=some i/\off=x.offset/\s=i.size/\a=x.type:=by
 unfold iE at h
 split at h
 .grind
 .simp at h
theorem tC {t:TypeId} {a:V} {x:Value} {f:Nat} (h:fW P t a f=some (v,ag,rd)) (g:ae Z μ w.heap a x):
  aq Z μ w n v ag ((do pure (Next.value (<-Instr.fieldAt t x f)):Sem Next).run P w):=by
 unfold fW at h
 split at h
 .rename_i off s p d
  obtain⟨q,fd,i,hu,e,hi,rfl,rfl,rfl⟩:=lf d
  split at h
  .simp at h
  .rename_i l
   have c:∀b o,(Instr.fieldAt t (.pointer (some ⟨b,o,none⟩)) f).run P w=.ok (.pointer (some ⟨b,o+fd.offset,none⟩)) w:=by
    simp[Instr.fieldAt,aw hu,e,Instr.sureAddr,fieldPlace,bt hi,l,ec]
   split at h
   .rename_i id m j
    obtain⟨b,o0,esz,hm,rfl⟩:=gR g
    obtain⟨rfl,rfl,rfl⟩:=h
    refine aq.here (c _ _) ?_
    have:=ae.ptr (Z:=Z) (μ:=μ) (hp:=w.heap) id m (j+fd.offset) b o0 esz hm
    grind
   .obtain⟨b,off,r,k,rfl⟩:=kj g
    grind [aq.here,oG]
   .simp at h
 .simp at h
theorem DX {t:TypeId} {cs:List V} {a:Array Value} {off:Nat} (h:iW P t cs off=some v) (f:cs.length=a.size) (e:∀i,i<cs.length->ae Z μ w.heap (cs.getD i .any) (a.getD i undef)):
  ∃x,(part t a off).run P w=.ok x w/\ae Z μ w.heap v x:=by
 unfold iW at h
 cases hi:P.info? t with
 | none=>grind
 | some i =>
  cases c:jU P t with
  | none=>grind
  | some g =>
   simp only[hi,c] at h
   cases g with
   | true =>
    simp only at h
    split at h
    .simp at h;subst h
     refine⟨.agg (a.extract off (off+i.size)),by simp[part,kC c,bt hi],?_⟩
     refine .agg _ _ (by simp;omega) (λk j=>?_)
     have d:k<i.size:=by grind
     have:=e (off+k) (by omega)
     simp only[GQ,GW,HA,List.getElem?_drop,d,if_true,Array.getElem?_extract] at this ⊢
     grind
    .simp at h
   | false =>
    simp only at h
    split at h
    .rename_i hle
     simp at h;subst h
     have:=e off hle
     have b:off<a.size:=f▸hle
     refine⟨a[off],by simp[part,kC c,b],?_⟩
     simpa [GQ,GW,b] using this
    .simp at h
theorem A1 {t:TypeId} {a:V} {x:Value} {f:Nat} (h:lP P t a f=some (v,ag,rd)) (e:ae Z μ w.heap a x):
  aq Z μ w n v ag ((do pure (Next.value (<-Instr.field t x f)):Sem Next).run P w):=by
 unfold lP at h
 split at h
 .rename_i off s o cs b
  obtain⟨p,fd,i,hu,c,hi,rfl,rfl,rfl⟩:=lf b
  simp only[GU] at h
  obtain⟨q,d,h⟩:=h
  obtain⟨rfl,rfl,rfl⟩:=h
  cases e with
  | agg _ g j k =>
   obtain⟨y,l,m⟩:=DX (P:=P) d j k
   exact aq.here (by simp[Instr.field,aw hu,c,asAgg,l]) m
 .simp at h
theorem eR {a:V} {q:Nat} (h:asNat a=some q):∃k,a=.val (.int k q):=by
 unfold asNat at h
 grind
theorem bd {y x:Value} (h:ae Z μ w.heap (.val y) x):x=y:=by cases h;rfl
theorem tz {t:TypeId} {a i:V} {x y:Value} (h:fT P t a i=some (v,ag,rd)) (r:ae Z μ w.heap a x) (u:ae Z μ w.heap i y):
  aq Z μ w n v ag ((do pure (Next.value (<-Instr.indexAt t x y)):Sem Next).run P w):=by
 unfold fT at h
 split at h
 .simp at h
 .rename_i q C
  obtain⟨k,rfl⟩:=eR C
  have u:=bd u
  subst u
  split at h
  .rename_i e hu
   split at h
   .simp at h
   .rename_i ti g
    split at h
    .rename_i id off len esz
     split at h
     .rename_i m
      obtain⟨d,rfl⟩:=m
      obtain⟨rfl,rfl,rfl⟩:=h
      cases r with
      | fj=>omega
      | sl _ _ _ _ b o0 cap c e' f hm hle E F =>
       refine aq.here (x:=.pointer (some ⟨b,o0+off*ti.size+q*ti.size,none⟩)) ?_ ?_
       .simp[Instr.indexAt,asIntOf,aw hu,bt g,ec,d]
       .have:=ae.ptr (Z:=Z) (μ:=μ) (hp:=w.heap) id (off+q) 0 b o0 ti.size hm
        grind
     .simp at h
    .split at h
     .rename_i m
      obtain⟨d,z⟩:=m
      obtain⟨rfl,rfl,rfl⟩:=h
      cases r with
      | dA=>simp at d
      | al _ b off esz cap c A hle l m D =>
       have o:esz=ti.size:=(l q d).symm.trans z
       subst o
       refine aq.here (x:=.pointer (some ⟨b,off+q*ti.size+0,none⟩)) ?_ ?_
       .simp[Instr.indexAt,asIntOf,aw hu,bt g,ec,d]
       .exact oG A (λk s=>⟨c q k,m q k d (by rw[l q d] at s;exact s),D q k d (by rw[l q d] at s;exact s)⟩)
     .simp at h
    .simp at h
  .rename_i len e hu
   split at h
   .simp at h
   .rename_i ti g
    split at h
    .rename_i d
     split at h
     .rename_i id B j
      obtain⟨b,o0,esz,hm,rfl⟩:=gR r
      obtain⟨rfl,rfl,rfl⟩:=h
      refine aq.here (x:=.pointer (some ⟨b,o0+B*esz+j+q*ti.size,none⟩)) ?_ ?_
      .simp[Instr.indexAt,Instr.sureAddr,asIntOf,aw hu,bt g,ec,d]
      .have:=ae.ptr (Z:=Z) (μ:=μ) (hp:=w.heap) id B (j+q*ti.size) b o0 esz hm
       grind
     .rename_i e' j
      obtain⟨b,off,A,p,rfl⟩:=kj r
      obtain⟨rfl,rfl,rfl⟩:=h
      refine aq.here (x:=.pointer (some ⟨b,off+j+q*ti.size,none⟩)) ?_ ?_
      .simp[Instr.indexAt,Instr.sureAddr,asIntOf,aw hu,bt g,ec,d]
      .have:=oG (w:=w) (j:=j+q*ti.size) A p
       grind
     .simp at h
    .simp at h
  .simp at h
end
section
variable {Z:Nat->Prop} {μ μ':Mu} {w w':World} {P:Program} {H:View} {n:Nat} {v:V} {ag:az} {rd:List Nat}
def m8 (Z:Nat->Prop) (μ:Mu) (hp:Array Obj):Option V->Option Value->Prop
 | none,none=>True
 | some v,some x=>ae Z μ hp v x
 | _,_=>False
theorem cw {o:Option V} {a:Option Value} {d q:Nat} (h:bound d o=some q) (b:m8 Z μ w.heap o a):(a=none/\q=d)∨∃k,a=some (.int k q):=by
 cases o with
 | none=>cases a with
  | none=>simp[bound] at h;exact .inl ⟨rfl,h.symm⟩
  | some x=>exact b.elim
 | some v=>cases a with
  | none=>exact b.elim
  | some x =>
   obtain⟨k,rfl⟩:=eR h
   exact .inr ⟨k,by rw[bd b]⟩
theorem bL {a:V} {x:Value} {m:Nat} (h:ae Z μ w.heap a x) (hm:dd a=some m):∃ad cap,x=.slice ad m cap/\m<=cap:=by
 cases h with
 | emp k a=>simp[dd] at hm;subst hm;exact⟨_,_,rfl,GX _⟩
 | bS a cap=>simp[dd] at hm;subst hm;exact⟨_,_,rfl,HG _⟩
 | dA a cap=>simp[dd] at hm;subst hm;exact⟨_,_,rfl,HG _⟩
 | al es b off esz cap c i hle d j l=>simp[dd] at hm;subst hm;exact⟨_,_,rfl,hle⟩
 | fj id off esz a=>simp[dd] at hm;subst hm;exact⟨_,_,rfl,GX _⟩
 | sl id off len esz b o0 cap c e f g hle n o=>simp[dd] at hm;subst hm;exact⟨_,_,rfl,hle⟩
 | _=>simp[dd] at hm
theorem hU {len cap l h:Nat} {lo hi:Option Value} (a:(lo=none/\l=0)∨∃k,lo=some (.int k l)) (b:(hi=none/\h=len)∨∃k,hi=some (.int k h)) (c:l<=h) (d:h<=cap):
  (Instr.sliceBounds true len cap lo hi none).run P w=.ok (l,h,cap) w:=by
 rcases a with ⟨rfl,rfl⟩ | ⟨k,rfl⟩<;>rcases b with ⟨rfl,rfl⟩ | ⟨e,rfl⟩<;>simp[Instr.sliceBounds,Instr.sliceBound,asIntOf,c,d]
theorem B8 {t:TypeId} {a:V} {x:Value} {lo hi Y:Option V} {s u A:Option Value} (h:kb P t a lo hi Y=some (v,ag,rd)) (B:ae Z μ w.heap a x)
  (y:m8 Z μ w.heap lo s) (p:m8 Z μ w.heap hi u) (C:m8 Z μ w.heap Y A):
  aq Z μ w n v ag ((do pure (Next.value (<-Instr.sliceAt t x s u A)):Sem Next).run P w):=by
 unfold kb at h
 cases hu:aY P t with
 | none=>simp[hu] at h
 | some e =>
  have J:P.underlying t=some (.slice e):=by
   unfold aY at hu;split at hu<;>simp_all
  cases F:P.info? e with
  | none=>simp[hu,F] at h
  | some ti =>
   simp only[hu,F] at h
   have o:∀ad len cap l d m,(Instr.sliceBounds true len cap s u A).run P w=.ok (l,d,m) w ->
     (Instr.sliceAt t (.slice ad len cap) s u A).run P w=.ok (.slice (if m=l then ad else ad.map (·.add (l*ti.size))) (d-l) (m-l)) w:=by
    intro ad len cap l d m K
    simp[Instr.sliceAt,Instr.slice,aw J,K,bt F]
   cases Y with
   | some m =>
    cases A with
    | none=>exact C.elim
    | some m' =>
     simp only at h
     split at h
     .rename_i q r G
      split at h
      .simp at h
      .rename_i L
       obtain⟨W,rfl⟩:=eR G
       have H:=bd C
       subst H
       have z:∀len cap,(Instr.sliceBounds true len cap s u (some (.int W ((0:Nat):Int)))).run P w=.ok (0,0,0) w:=by
        rcases cw q y with ⟨rfl,_⟩ | ⟨k,rfl⟩<;>rcases cw r p with ⟨rfl,_⟩ | ⟨k',rfl⟩
        .cases hi with
         | none=>simp at L
         | some _=>exact p.elim
        .simp[Instr.sliceBounds,Instr.sliceBound,asIntOf]
        .cases hi with
         | none=>simp at L
         | some _=>exact p.elim
        .simp[Instr.sliceBounds,Instr.sliceBound,asIntOf]
       have fin:∀ad len cap,ae Z μ w.heap a (.slice ad len cap)->x=.slice ad len cap->aq Z μ w n (.emp 0) .none ((do pure (Next.value (<-Instr.sliceAt t x s u (some (.int W ((0:Nat):Int))))):Sem Next).run P w):=by
        intro ad len cap _ g
        subst g
        refine aq.here (o ad len cap 0 0 0 (z len cap)) ?_
        simpa using ae.emp (Z:=Z) (μ:=μ) (hp:=w.heap) 0 ad (by simp) (by simp)
       split at h
       .obtain⟨rfl,rfl,rfl⟩:=h
        obtain⟨ad,cap,g,_⟩:=bL B rfl
        exact fin _ _ _ (g▸B) g
       .obtain⟨rfl,rfl,rfl⟩:=h
        obtain⟨ad,cap,g,_⟩:=bL B rfl
        exact fin _ _ _ (g▸B) g
       .obtain⟨rfl,rfl,rfl⟩:=h
        obtain⟨ad,cap,g,_⟩:=bL B rfl
        exact fin _ _ _ (g▸B) g
       .obtain⟨rfl,rfl,rfl⟩:=h
        obtain⟨ad,cap,g,_⟩:=bL B rfl
        exact fin _ _ _ (g▸B) g
       .simp at h
     .rename_i d cc _ q r G
      split at h
      .rename_i id off len esz
       split at h
       .rename_i M
        obtain⟨rfl,I,rfl,N⟩:=M
        obtain⟨rfl,rfl,rfl⟩:=h
        obtain⟨W,rfl⟩:=eR G
        have H:=bd C
        subst H
        have z:∀D cap,d<=cap->(Instr.sliceBounds true D cap s u (some (.int W (d:Int)))).run P w=.ok (0,d,d) w:=by
         intro D cap hle
         rcases cw q y with ⟨rfl,_⟩ | ⟨k,rfl⟩<;>rcases cw r p with ⟨rfl,_⟩ | ⟨k',rfl⟩
         .cases hi with
          | none=>simp at N
          | some _=>exact p.elim
         .simp[Instr.sliceBounds,Instr.sliceBound,asIntOf,hle]
         .cases hi with
          | none=>simp at N
          | some _=>exact p.elim
         .simp[Instr.sliceBounds,Instr.sliceBound,asIntOf,hle]
        cases B with
        | fj _ _ _ ad =>
         obtain rfl:d=0:=by omega
         refine aq.here (o ad 0 0 0 0 0 (z 0 0 (GX _))) ?_
         simpa using ae.fj (Z:=Z) (μ:=μ) (hp:=w.heap) id off ti.size ad
        | sl _ _ _ _ b o0 cap c e' f hm hle K hs =>
         refine aq.here (o _ len cap 0 d d (z len cap (by omega))) ?_
         have ao:o0+(off+d)*ti.size<=c.size:=by
          have:(off+d)*ti.size<=(off+cap)*ti.size:=Hf _ (by omega)
          omega
         have:=ae.sl (Z:=Z) (μ:=μ) (hp:=w.heap) id off d ti.size b o0 d c e' f hm (GX _) K ao
         split<;>simpa [ec] using this
       .simp at h
      .simp at h
     .simp at h
   | none =>
    cases A with
    | some _=>exact C.elim
    | none =>
     simp only at h
     split at h
     .rename_i id off len esz
      split at h
      .rename_i l d q r
       split at h
       .rename_i M
        obtain⟨O,X,rfl⟩:=M
        obtain⟨rfl,rfl,rfl⟩:=h
        cases B with
        | fj _ _ _ ad =>
         obtain rfl:l=0:=by omega
         obtain rfl:d=0:=by omega
         refine aq.here (o ad 0 0 0 0 0 (hU (cw q y) (cw r p) (by omega) (by omega))) ?_
         simpa using ae.fj (Z:=Z) (μ:=μ) (hp:=w.heap) id (off+0) ti.size ad
        | sl _ _ _ _ b o0 cap c e' f hm hle K hs =>
         refine aq.here (o _ len cap l d cap (hU (cw q y) (cw r p) O (by omega))) ?_
         by_cases I:cap=l
         .have e1:d-l=0:=by omega
          have e2:cap-l=0:=by omega
          rw[GZ I,e1,e2]
          exact ae.fj _ _ _ _
         .rw[GV I]
          simp only[Hb,ec]
          have:=ae.sl (Z:=Z) (μ:=μ) (hp:=w.heap) id (off+l) (d-l) ti.size b o0 (cap-l) c e' f hm (by omega) K (by rw[show off+l+(cap-l)=off+cap from by omega];exact hs)
          simpa [Hl,Nat.add_assoc] using this
       .simp at h
      .simp at h
     .rename_i es
      split at h
      .rename_i l d q r
       split at h
       .rename_i M
        obtain⟨O,X,Q⟩:=M
        obtain⟨rfl,rfl,rfl⟩:=h
        cases B with
        | dA ad cap a1 =>
         simp at X
         obtain rfl:d=0:=by omega
         obtain rfl:l=0:=by omega
         refine aq.here (o ad 0 cap 0 0 cap (hU (cw q y) (cw r p) (by omega) (by omega))) ?_
         refine ae.dA _ _ (λhn=>?_)
         by_cases R:cap=0
         .omega
         .rw[GV R] at hn
          cases ad with
          | none=>exact absurd (a1 rfl) R
          | some a=>simp at hn
        | al _ b off esz cap c hz hle S a6 hv =>
         refine aq.here (o _ es.length cap l d cap (hU (cw q y) (cw r p) O (by omega))) ?_
         by_cases a7:l=d
         .subst a7
          simpa using ae.dA (Z:=Z) (μ:=μ) (hp:=w.heap) (if cap=l then some ⟨b,off,none⟩ else some (Addr.add ⟨b,off,none⟩ (l*ti.size))) (cap-l) (by split<;>simp)
         .have T:0<es.length:=by omega
          have U:esz=ti.size:=by
           have h0:=S 0 T
           have:=Hg.1 Q (es[0]) (G4 _)
           simp at this
           simp[GQ,T] at h0
           omega
          subst U
          rw[GV (by omega)]
          simp only[Hb,ec]
          have hlen:((es.drop l).take (d-l)).length=d-l:=by simp;omega
          have E:∀i,i<d-l->((es.drop l).take (d-l)).getD i []=es.getD (l+i) []:=by
           intro i hi
           simp[GQ,HA,hi]
          have:=ae.al (Z:=Z) (μ:=μ) (hp:=w.heap) ((es.drop l).take (d-l)) b (off+l*ti.size) ti.size (cap-l) (λi j=>c (l+i) j) hz (by omega)
           (λi hi=>by rw[hlen] at hi;rw[E i hi];exact S _ (by omega))
           (λi j hi hj=>by
            have:=a6 (l+i) j (by omega) hj
            rw[Hl] at this
            rw[<-this];congr 1;omega)
           (λi j hi hj=>by rw[hlen] at hi;rw[E i hi];exact hv _ _ (by omega) hj)
          rw[hlen] at this
          exact this
       .simp at h
      .simp at h
     .split at h
      .rename_i q r
       obtain⟨rfl,rfl,rfl⟩:=h
       cases B with
       | emp _ ad O X =>
        refine aq.here (o ad 0 0 0 0 0 (hU (cw q y) (cw r p) (by omega) (by omega))) ?_
        simpa using ae.emp (Z:=Z) (μ:=μ) (hp:=w.heap) _ ad O X
      .simp at h
     .simp at h
theorem wrap_small {q:Nat} (h:q<aD):IntKind.i64.wrap (q:Int)=q:=by
 unfold aD at h
 exact IntWalk.i64_in _ (by omega)
theorem ee {t:TypeId} {i:TypeInfo} {z:List V} (hi:P.info? t=some i) (h:zeroCells P t=some z):∃a,i.zero=some a/\z=(cK a).cells:=by
 unfold zeroCells at h
 simp only[hi] at h
 cases b:i.zero with
 | none=>simp[b] at h
 | some a=>simp[b] at h;exact⟨a,rfl,h.symm⟩
theorem c4 {i j s l:Nat} (hi:i<l) (a:j<s):i*s+j<l*s:=by
 have:(i+1)*s<=l*s:=Hf _ hi
 rw[Hl] at this;omega
theorem tq {t:TypeId} {a b:V} {x y:Value} (h:fS P t a b n=some (v,ag,rd)) (C:ae Z μ w.heap a x) (D:ae Z μ w.heap b y) (c:Ctx Z μ w.heap H rd n ag):
  aq Z μ w n v ag ((do pure (Next.value (<-Instr.makeSlice t x y)):Sem Next).run P w):=by
 unfold fS at h
 cases hu:aY P t with
 | none=>simp[hu] at h
 | some e =>
  have r:P.underlying t=some (.slice e):=by
   unfold aY at hu;split at hu<;>simp_all
  cases d:P.info? e with
  | none=>simp[hu,d] at h
  | some ti =>
   simp only[hu,d] at h
   split at h
   .rename_i l f M N
    obtain⟨O,rfl⟩:=eR M
    obtain⟨k2,rfl⟩:=eR N
    have C:=bd C
    have D:=bd D
    subst C D
    split at h
    .rename_i m
     obtain⟨L,Q,R⟩:=m
     have S:IntKind.i64.wrap (l:Int)=l:=wrap_small (by omega)
     have T:IntKind.i64.wrap (f:Int)=f:=wrap_small Q
     have g1:¬ (((ti.bytes:Int)*(f:Int))>2 ^ 48):=by
      have:((ti.bytes*f:Nat):Int)<2 ^ 48:=by unfold aD at R;omega
      push_cast at this;omega
     have k:∀s:Array Value,(f*ti.size=0/\s = #[])∨(f*ti.size≠0/\∃g,(zeroValue e).run P w=.ok g w/\s=g.cells) ->
       (Instr.makeSlice t (.int O (l:Int)) (.int k2 (f:Int))).run P w=.ok (.slice (some ⟨w.heap.size,0,none⟩) l f) (w.alloc (.cells ((Array.range (f*ti.size)).map (s[· % s.size]!)) e)):=by
      intro s E
      have g2:¬ ((f:Int)<0):=by omega
      have g3:¬ ((l:Int)<0):=by omega
      have g4:¬ ((l:Int)>(f:Int)):=by omega
      simp only[Instr.makeSlice,Sem.run_bind,aw r,Result.andThen_ok,asInt,asIntOf,Sem.run_pure,iH d,S,T]
      simp only[g1,g2,g3,g4,decide_false,Bool.or_false,Bool.false_or,Hc,if_false,Sem.run_bind,run_askRoom,Result.andThen_ok,bt d,Int.toNat_natCast]
      rcases E with ⟨o,rfl⟩ | ⟨o,g,p,rfl⟩
      .simp[o,newRow,bt d]
      .simp[o,newRow,bt d,p]
     split at h
     .rename_i F
      subst F
      obtain⟨rfl,rfl,rfl⟩:=h
      obtain rfl:l=0:=by omega
      exact aq.value (k #[] (.inl ⟨by simp,rfl⟩)) (.emp 2 _ (by simp) (by simp)) (eu _ _) ⟨rfl,b6 _ _⟩
     .split at h
      .simp at h
      .split at h
       .simp at h
       .rename_i z E
        split at h
        .rename_i G
         obtain⟨q,u⟩:=G
         obtain⟨rfl,rfl,rfl⟩:=h
         obtain⟨g,p,rfl⟩:=ee d E
         have hr:=dq (cZ (Z:=Z) (μ:=μ) (w:=w) g) u
         have I:g.cells.size=ti.size:=by rw[<-q,hr.1];simp
         have A:f*ti.size≠0:=by
          intro o;rcases Nat.mul_eq_zero.1 o with o | o<;>contradiction
         refine aq.value (μ':=μ.set n (w.heap.size,0,ti.size)) (k g.cells (.inr ⟨A,g,ew d p w,rfl⟩)) ?_ (eu _ _) ?_
         .have:=ae.sl (Z:=Z) (μ:=μ.set n (w.heap.size,0,ti.size)) (hp:=(w.alloc (.cells ((Array.range (f*ti.size)).map (g.cells[· % g.cells.size]!)) e)).heap) n 0 l ti.size w.heap.size 0 f _ e (0,0) (by simp[Mu.set]) L (by rw[heap_alloc];simp;rfl) (by simp)
          simpa using this
         .refine⟨w.heap.size,0,ti.size,GX _,by rw[heap_alloc];simp,rfl,b6 _ _,?_⟩
          refine bT.newRow c.new c.aX ?_ ?_ ?_
          .simp;exact Hf _ L
          .intro i hi;simp at hi;simp[GQ,hi,q]
          .intro i j hi J
           simp at hi
           have K:i*ti.size+j<f*ti.size:=c4 (by omega) J
           have B:(i*ti.size+j) % ti.size=j:=by
            rw[Nat.mul_comm,Nat.mul_add_mod];exact Nat.mod_eq_of_lt J
           refine⟨g.cells[j]'(by omega),?_,?_⟩
           .simp[K,I,B,getElem!_pos g.cells j (by omega)]
           .have:=hr.2 j (by rw[q];exact J)
            simpa [GQ,hi,show j<g.cells.size from by omega] using this
        .simp at h
    .simp at h
   .simp at h
end
section
variable {Z:Nat->Prop} {μ μ':Mu} {w w':World} {P:Program} {H:View} {n:Nat} {v:V} {ag:az} {rd:List Nat}
structure Flat (Z:Nat->Prop) (μ:Mu) (hp:Array Obj) (size:Nat) (xs:List (List V)) (fl:Array Value):Prop where
 len:fl.size=xs.length*size
 rel:∀i j,i<xs.length->j<size->ae Z μ hp ((xs.getD i []).getD j .any) (fl.getD (i*size+j) undef)
theorem lD {b off size N:Nat} {c:Nat->Nat->Value} (h:∀i j,i<N->j<size->cellAt w.heap b (off+i*size+j)=some (c i j)) {m:Nat} (hm:m<=N):
  (loadCells ⟨b,off,none⟩ (m*size)).run P w=.ok ((((List.range (N*size)).map λk=>c (k / size) (k % size)).toArray).extract 0 (m*size)) w:=by
 have hle:m*size<=N*size:=Hf _ hm
 rw[run_loadCells w ⟨b,off,none⟩ (m*size) (λk=>c (k / size) (k % size)) (λk a=>?_)]
 .congr 1
  apply Array.ext_getElem?
  intro k
  by_cases a:k<m*size
  .simp[a,show k<N*size from by omega,Nat.min_eq_left hm]
  .simp[a,Nat.min_eq_left hm]
 .have e:0<size:=by
   rcases Nat.eq_zero_or_pos size with d | d
   .subst d;simp at a
   .exact d
  have g:k / size<m:=(Nat.div_lt_iff_lt_mul e).2 a
  have f:k % size<size:=Nat.mod_lt _ e
  rw[ec,dw,<-h (k / size) (k % size) (by omega) f]
  congr 1
  have:=Nat.div_add_mod k size
  rw[Nat.mul_comm] at this
  omega
theorem th {size N:Nat} {c:Nat->Nat->Value} {xs:List (List V)} (d:xs.length=N) (h:∀i j,i<N->j<size->ae Z μ w.heap ((xs.getD i []).getD j .any) (c i j)):
  Flat Z μ w.heap size xs ((List.range (N*size)).map λk=>c (k / size) (k % size)).toArray:=by
 refine⟨by simp[d],λi j hi a=>?_⟩
 have b:i*size+j<N*size:=c4 (by omega) a
 have e:(i*size+j) / size=i:=by
  rw[Nat.mul_comm,Nat.mul_add_div (by omega),Nat.div_eq_of_lt a];simp
 have f:(i*size+j) % size=j:=by
  rw[Nat.mul_comm,Nat.mul_add_mod];exact Nat.mod_eq_of_lt a
 simpa [GW,b,e,f] using h i j (by omega) a
theorem jG {ad:Option Addr} {cap size m:Nat} (hm:m<=0):(Builtin.firstCells size m (.slice ad 0 cap)).run P w=.ok ((#[]:Array Value).extract 0 (m*size)) w:=by
 obtain rfl:m=0:=by omega
 cases ad with
 | none=>simp[Builtin.firstCells]
 | some a=>simp[Builtin.firstCells,loadCells,loadCellsFrom]
theorem bsize (s:ByteArray):s.data.toList.length=s.size:=by rw[Array.length_toList];rfl
theorem iG {x:V} {C:Value} {xs:List (List V)} {size:Nat} (h:bc H x=some (xs,rd)) (d:ae Z μ w.heap x C) (u:∀id,id∈rd->bT Z μ w.heap id (H id))
  (q:∀e∈xs,e.length=size):
  ∃v,Flat Z μ w.heap size xs v/\(Builtin.lenOf C).run P w=.ok xs.length w/\∀m,m<=xs.length->(Builtin.firstCells size m C).run P w=.ok (v.extract 0 (m*size)) w:=by
 have nil:∀(ad:Option Addr) cap,∃v,Flat Z μ w.heap size [] v/\(Builtin.lenOf (.slice ad 0 cap)).run P w=.ok ([]:List (List V)).length w /\
   ∀m,m<=([]:List (List V)).length->(Builtin.firstCells size m (.slice ad 0 cap)).run P w=.ok (v.extract 0 (m*size)) w:=
  λad cap=>⟨#[],⟨by simp,λi j hi=>by simp at hi⟩,by simp[Builtin.lenOf],λm hm=>jG (by simpa using hm)⟩
 unfold bc at h
 split at h
 .obtain⟨rfl,rfl⟩:=h
  obtain⟨ad,cap,rfl,_⟩:=bL d rfl
  exact nil ad cap
 .obtain⟨rfl,rfl⟩:=h
  obtain⟨ad,cap,rfl,_⟩:=bL d rfl
  exact nil ad cap
 .rename_i es
  simp only[GS,G6] at h
  obtain⟨rfl,rfl⟩:=h
  cases d with
  | dA a cap=>exact nil a cap
  | al _ b off esz cap c T hle D N y =>
   by_cases k:es=[]
   .subst k;exact nil _ cap
   .have r:0<es.length:=List.length_pos_iff.2 k
    have:esz=size:=by
     have E:=D 0 r
     have F:=q es[0] (G4 _)
     simp[GQ,r] at E
     omega
    subst this
    exact⟨_,th rfl y,by simp[Builtin.lenOf],λm hm=>lD N hm⟩
 .obtain⟨rfl,rfl⟩:=h
  obtain⟨ad,cap,rfl,_⟩:=bL d rfl
  exact nil ad cap
 .rename_i id off len esz hlen
  split at h
  .rename_i K es O
   split at h
   .rename_i hle
    obtain⟨rfl,rfl⟩:=h
    cases d with
    | fj=>exact(hlen rfl).elim
    | sl _ _ _ _ b o0 cap c e' f hm L U W =>
     have z:=u id (by simp)
     rw[O] at z
     obtain⟨rfl,_,Q,R⟩:=z b o0 esz hm
     have g:((es.drop off).take len).length=len:=by simp;omega
     have l:∀i,i<len->((es.drop off).take len).getD i []=es.getD (off+i) []:=by
      intro i hi;simp[GQ,HA,hi]
     have A:0<len:=by
      rcases Nat.eq_zero_or_pos len with r | r
      .exact(hlen r).elim
      .exact r
     have:esz=size:=by
      have E:=Q off (by omega)
      have F:=q (((es.drop off).take len)[0]'(by omega)) (G4 _)
      have M:=l 0 A
      simp only[GQ,GR (show 0<((es.drop off).take len).length by omega),G1] at M
      rw[M] at F
      simp only[GQ,Ic] at E F
      omega
     subst this
     have d:∀i,∃ci:Nat->Value,∀j,j<esz->i<len->cellAt w.heap b (o0+off*esz+i*esz+j)=some (ci j)/\ae Z μ w.heap ((((es.drop off).take len).getD i []).getD j .any) (ci j):=by
      intro i
      by_cases hi:i<len
      .obtain⟨ci,G⟩:=iv (n:=esz) (p:=λj x=>cellAt w.heap b (o0+off*esz+i*esz+j)=some x/\ae Z μ w.heap ((((es.drop off).take len).getD i []).getD j .any) x) (λj o=>by
        obtain⟨x,d,y⟩:=R (off+i) j (by omega) o
        rw[Hl,<-Nat.add_assoc] at d
        exact⟨x,d,by rw[l i hi];exact y⟩)
       exact⟨ci,λj o _=>G j o⟩
      .exact⟨λ_=>undef,λj _ h=>absurd h hi⟩
     obtain⟨S,B⟩:=Classical.axiomOfChoice d
     refine⟨_,th (c:=S) g (λi j hi o=>(B i j o hi).2),by simp[Builtin.lenOf];omega,λm hm=>?_⟩
     rw[g] at hm
     exact lD (λi j hi o=>(B i j o hi).1) hm
   .simp at h
  .simp at h
 .rename_i s
  obtain⟨rfl,rfl⟩:=h
  have y:=bd d
  subst y
  have t:(s.data.toList.map λb=>([V.val (Value.int .u8 b.toNat)]:List V)).length=s.size:=by rw[G8,bsize]
  have hlen:(Builtin.lenOf (.string s)).run P w=.ok s.size w:=rfl
  by_cases I:s.size=0
  .refine⟨#[],⟨by rw[t,I];simp,λi j hi=>by rw[t] at hi;omega⟩,by rw[t];exact hlen,λm hm=>?_⟩
   obtain rfl:m=0:=by omega
   have:(s.extract 0 0).data = #[]:=by rw[ByteArray.data_extract];simp
   simp[Builtin.firstCells,this]
  .have:size=1:=by
    have k:0<s.data.toList.length:=by rw[bsize];omega
    have:=q [V.val (Value.int .u8 (s.data.toList[0]).toNat)] (HL.2 ⟨_,G4 k,rfl⟩)
    simpa using this.symm
   subst this
   refine⟨s.data.map λb=>.int .u8 b.toNat,⟨by rw[t,Array.size_map,Nat.mul_one];rfl,λi j hi o=>?_⟩,by rw[t];exact hlen,λm hm=>?_⟩
   .obtain rfl:j=0:=by omega
    have J:i<s.data.size:=by rw[t] at hi;exact hi
    simp only[GQ,GW,GY,Ib,Array.getElem?_map,Nat.mul_one,Ic,G3 J,Hb,G1,Hd]
    exact ae.val _ rfl
   .simp only[Builtin.firstCells,Sem.run_pure,Nat.mul_one]
    congr 1
    rw[ByteArray.data_extract,Array.map_extract]
 .simp at h
theorem Am {size:Nat} {xs:List (List V)} {b:Array Value} (h:Flat Z μ w.heap size xs b) (m:Nat) (hm:m<=xs.length):Flat Z μ w.heap size (xs.take m) (b.extract 0 (m*size)):=by
 have hle:m*size<=xs.length*size:=Hf _ hm
 have e:(b.extract 0 (m*size)).size=m*size:=by rw[Array.size_extract,h.len];omega
 refine⟨by rw[e,HW,Nat.min_eq_left hm],λi j hi c=>?_⟩
 have a:i<m:=by simp at hi;omega
 have:=h.rel i j (by omega) c
 have f:i*size+j<m*size:=c4 a c
 have d:i*size+j<b.size:=by rw[h.len];omega
 simp only[GQ,GW,HA,a,if_true,Array.getElem?_extract] at this ⊢
 rw[GZ (by omega),Hy]
 exact this
theorem pj {size:Nat} {xs:List (List V)} {d:Array Value} (h:Flat Z μ w.heap size xs d) (m:∀e∈xs,e.length=size) (f:∀e∈xs,e.all au=true):∀x∈d.toList,x.oneCell'=true:=by
 intro x n
 obtain⟨k,j,rfl⟩:=List.getElem_of_mem n
 have c:k<xs.length*size:=by rw[<-h.len];simpa using j
 have a:0<size:=by
  rcases Nat.eq_zero_or_pos size with g | g
  .subst g;simp at c
  .exact g
 have l:k / size<xs.length:=(Nat.div_lt_iff_lt_mul a).2 c
 have o:k % size<size:=Nat.mod_lt _ a
 have:=h.rel (k / size) (k % size) l o
 have e:k / size*size+k % size=k:=by rw[Nat.mul_comm];exact Nat.div_add_mod k size
 rw[e] at this
 have i:k<d.size:=by simpa using j
 simp only[GW,G3 i,G1] at this
 have b:xs[k / size]∈xs:=G4 _
 have hlen:=m _ b
 simp only[GQ,GR l,G1,GR (show k % size<(xs[k / size]).length by omega)] at this
 have:=ly this (Hg.1 (f _ b) _ (G4 _))
 simpa using this
theorem k8 {b off:Nat} {c:Array Value} {e:TypeId} {f:Nat × Nat} (d:w.heap[b]?=some (.cells c e f)) (g:∀k,k<c.size->¬ (f.1<=k/\k<f.2)) (xs:List Value)
  (m:off+xs.length<=c.size) (h:∀x∈xs,x.oneCell'=true):
  ∃a,(storeCells ⟨b,off,none⟩ xs).run P w=.ok () { w with heap:=w.heap.setIfInBounds b (.cells a e f) }/\a.size=c.size /\
   ∀k,cellAt (w.heap.setIfInBounds b (.cells a e f)) b k=if off<=k/\k<off+xs.length then xs[k-off]? else cellAt w.heap b k:=by
 obtain⟨a,i,j,l⟩:=fB (P:=P) (b:=b) (off:=off) (e:=e) (f:=f) xs 0 c w d g (by omega) h
 refine⟨a,i,j,λk=>?_⟩
 have:=l k
 simp only[Ic] at this
 simp only[cellAt,bN (cr d),d]
 exact this
theorem r8:aD=70368744177664:=by decide
theorem wC {t0 t1 e:TypeId} {ti:TypeInfo} {a:Array TypeId} {ty:TypeId} {base:Option Addr} {sLen sCap m:Nat} {l:Value} {old new u:Array Value}
  (n:a[0]?=some t0) (o:a[1]?=some t1) (b:iV P t1=true) (c:P.underlying t0=some (.slice e)) (f:P.info? e=some ti)
  (x:(Builtin.lenOf l).run P w=.ok m w) (p:sCap<sLen+m) (y:(sLen+m)*ti.bytes<aD) (z:sLen+m<aD)
  (A:∀w',∃q,(zeroValue e).run P w'=.ok q w'/\q.cells=u)
  (B:(Builtin.firstCells ti.size sLen (.slice base sLen sCap)).run P w.drew=.ok old w.drew) (C:(Builtin.firstCells ti.size m l).run P w.drew=.ok new w.drew):
  ∃cap,sLen+m<=cap/\(Builtin.append_ a ty #[.slice base sLen sCap,l]).run P w =
   .ok (.slice (some ⟨w.heap.size,0,none⟩) (sLen+m) cap) (w.drew.alloc (.cells (old++new++Builtin.zeroCells u (cap-(sLen+m))) e)):=by
 have hint:∃d,P.underlying t1=some d/\∀k,d≠.int k:=by
  unfold iV at b
  cases hu:P.underlying t1 with
  | none=>simp[hu] at b
  | some d=>refine⟨d,rfl,λk e=>?_⟩;subst e;simp[hu] at b
 obtain⟨d,D,r⟩:=hint
 have v:=r8
 have g:=growslice_fits p (show (sLen+m)*ti.bytes<=140737488355328 by omega)
 have h:¬ (((sLen+m:Nat):Int)>IntKind.i64.max):=by
  have:IntKind.i64.max=9223372036854775807:=by decide
  rw[this];omega
 have i:¬ (Builtin.nextslicecap (sLen+m) sCap*ti.bytes>2 ^ 48):=by
  have:(2:Nat) ^ 48=281474976710656:=by decide
  rw[this];exact Nat.not_lt.2 g
 obtain⟨q,s,t⟩:=A w.drew
 refine⟨Question.cut (.appendCap (sLen+m) sCap e) (w.tape w.drawn (.appendCap (sLen+m) sCap e)),Nat.le_add_right _ _,?_⟩
 have j:Question.forced (.appendCap (sLen+m) sCap e)=false:=rfl
 subst t
 cases d with
 | int k=>exact absurd rfl (r k)
 | _ =>
 simp only[Builtin.append_,Hp,Hd,Hx,n,o,Sem.run_bind,aw c,Result.andThen_ok,bt f,aw D,Sem.run_pure,Hc,if_false,x,Bool.not_false,if_true]
 rw[GV (by omega)]
 simp only[h,false_and,if_false,Sem.run_bind,iH f,Result.andThen_ok,Sem.run_ite,Sem.run_pure,i,run_choose,j,Hc,World.drew_eq,run_askRoom,B,C,s,newRow,run_newObj,World.alloc_eq]
 rfl
end
end Gv
