/-
  Part 1 of the proof: what the machine does and what the functions answer.
  Conditions: those that each lemma names.
-/
import Derived.WalkKit
set_option linter.unusedSimpArgs false
set_option linter.unusedVariables false
set_option maxRecDepth 100000
namespace Gv
open Go
theorem T0:type_of% @List.getD_eq_getElem?_getD:=@List.getD_eq_getElem?_getD
theorem T4:type_of% @List.getElem?_eq_getElem:=@List.getElem?_eq_getElem
theorem T6:type_of% @if_neg:=@if_neg
theorem T7:type_of% @Option.some.injEq:=@Option.some.injEq
theorem T8:type_of% @List.getElem?_map:=@List.getElem?_map
theorem T9:type_of% @if_pos:=@if_pos
theorem Ua:type_of% @Prod.mk.injEq:=@Prod.mk.injEq
theorem Ub:type_of% @List.mem_of_getElem?:=@List.mem_of_getElem?
theorem Uc:type_of% @List.length_map:=@List.length_map
theorem Ud:type_of% @List.getElem_mem:=@List.getElem_mem
theorem Ue:type_of% @Option.map_some:=@Option.map_some
theorem Uf:type_of% @Option.map_eq_some_iff:=@Option.map_eq_some_iff
theorem Ug:type_of% @Nat.le_refl:=@Nat.le_refl
theorem Uh:type_of% @Bool.and_eq_true:=@Bool.and_eq_true
theorem Ui:type_of% @Array.getD_eq_getD_getElem?:=@Array.getD_eq_getD_getElem?
theorem Uj:type_of% @List.getElem?_eq_some_iff:=@List.getElem?_eq_some_iff
theorem Uk:type_of% @List.mem_cons:=@List.mem_cons
theorem Ul:type_of% @decide_eq_true_eq:=@decide_eq_true_eq
theorem Um:type_of% @List.length_cons:=@List.length_cons
theorem Un:type_of% @Option.getD_some:=@Option.getD_some
theorem Uo:type_of% @List.take_of_length_le:=@List.take_of_length_le
theorem Up:type_of% @Array.getElem?_eq_getElem:=@Array.getElem?_eq_getElem
theorem Uq:type_of% @Int.toNat_natCast:=@Int.toNat_natCast
theorem Ur:type_of% @List.mem_map:=@List.mem_map
theorem Us:type_of% @List.getElem?_append_left:=@List.getElem?_append_left
theorem Ut:type_of% @Bool.false_eq_true:=@Bool.false_eq_true
theorem Uu:type_of% @List.foldl_cons:=@List.foldl_cons
theorem Uv:type_of% @Nat.lt_or_ge:=@Nat.lt_or_ge
theorem Uw:type_of% @List.take_add_one:=@List.take_add_one
theorem Ux:type_of% @List.mem_cons_of_mem:=@List.mem_cons_of_mem
theorem Uy:type_of% @List.mem_append:=@List.mem_append
theorem Uz:type_of% @List.map_cons:=@List.map_cons
theorem UA:type_of% @List.map_append:=@List.map_append
theorem UB:type_of% @List.drop_eq_nil_of_le:=@List.drop_eq_nil_of_le
theorem UC:type_of% @List.getElem?_cons_zero:=@List.getElem?_cons_zero
theorem UD:type_of% @Nat.lt_of_lt_of_le:=@Nat.lt_of_lt_of_le
theorem UE:type_of% @List.all_eq_true:=@List.all_eq_true
theorem UF:type_of% @List.getElem?_eq_none:=@List.getElem?_eq_none
theorem UG:type_of% @List.length_nil:=@List.length_nil
theorem UH:type_of% @List.getElem?_append_right:=@List.getElem?_append_right
theorem UI:type_of% @List.cons_append:=@List.cons_append
theorem UJ:type_of% @Nat.mul_le_mul_right:=@Nat.mul_le_mul_right
theorem UK:type_of% @Option.bind_some:=@Option.bind_some
theorem UL:type_of% @List.append_assoc:=@List.append_assoc
theorem UM:type_of% @List.foldl_append:=@List.foldl_append
theorem UN:type_of% @List.length_take:=@List.length_take
theorem UO:type_of% @List.drop_eq_getElem_cons:=@List.drop_eq_getElem_cons
theorem UP:type_of% @List.getElem?_cons_succ:=@List.getElem?_cons_succ
theorem UQ:type_of% @List.mem_filter:=@List.mem_filter
theorem UR:type_of% @List.mem_range:=@List.mem_range
theorem US:type_of% @Nat.add_mul:=@Nat.add_mul
theorem UT:type_of% @List.mem_singleton:=@List.mem_singleton
theorem UU:type_of% @BitVec.getLsbD_or:=@BitVec.getLsbD_or
theorem UW:type_of% @List.length_filter_le:=@List.length_filter_le
theorem UX:type_of% @List.length_append:=@List.length_append
theorem UY:type_of% @List.nodup_append:=@List.nodup_append
theorem UZ:type_of% @List.perm_middle:=@List.perm_middle
theorem U0:type_of% @Nat.le_trans:=@Nat.le_trans
theorem U1:type_of% @List.nodup_cons:=@List.nodup_cons
theorem U2:type_of% @List.getElem?_toArray:=@List.getElem?_toArray
theorem U3:type_of% @Nat.zero_add:=@Nat.zero_add
theorem U4:type_of% @List.range_succ:=@List.range_succ
theorem U5:type_of% @Array.getElem?_setIfInBounds:=@Array.getElem?_setIfInBounds
theorem U6:type_of% @List.mem_iff_getElem:=@List.mem_iff_getElem
theorem U7:type_of% @Decidable.byContradiction:=@Decidable.byContradiction
theorem U8:type_of% @Bool.or_eq_true:=@Bool.or_eq_true
theorem U9:type_of% @List.mem_zipIdx_iff_getElem?:=@List.mem_zipIdx_iff_getElem?
theorem Va:type_of% @beq_iff_eq:=@beq_iff_eq
theorem Vb:type_of% @List.nil_append:=@List.nil_append
theorem Vc:type_of% @Bool.eq_iff_iff:=@Bool.eq_iff_iff
theorem Vd:type_of% @List.mem_filterMap:=@List.mem_filterMap
theorem Ve:type_of% @List.getD_cons_zero:=@List.getD_cons_zero
theorem Vf:type_of% @List.filterMap_cons:=@List.filterMap_cons
theorem Vg:type_of% @List.all_cons:=@List.all_cons
theorem Vh:type_of% @Bool.true_and:=@Bool.true_and
theorem Vi:type_of% @List.pairwise_cons:=@List.pairwise_cons
theorem Vj:type_of% @List.drop_zero:=@List.drop_zero
theorem Vk:type_of% @List.foldl_nil:=@List.foldl_nil
theorem Vl:type_of% @congrArg:=@congrArg
theorem Vm:type_of% @List.getElem?_set:=@List.getElem?_set
theorem Vn:type_of% @List.length_eq_zero_iff:=@List.length_eq_zero_iff
theorem Vo:type_of% @Array.getElem?_append_left:=@Array.getElem?_append_left
theorem Vp:type_of% @List.map_set:=@List.map_set
theorem Vq:type_of% @List.filter_append:=@List.filter_append
theorem Vr:type_of% @Array.getElem?_eq_none:=@Array.getElem?_eq_none
theorem Vs:type_of% @Classical.byContradiction:=@Classical.byContradiction
theorem Vt:type_of% @List.size_toArray:=@List.size_toArray
theorem Vu:type_of% @Nat.zero_le:=@Nat.zero_le
theorem Vv:type_of% @List.getElem?_take:=@List.getElem?_take
theorem Vw:type_of% @decide_eq_false_iff_not:=@decide_eq_false_iff_not
theorem Vx:type_of% @List.getElem?_replicate:=@List.getElem?_replicate
theorem Vy:type_of% @beq_self_eq_true:=@beq_self_eq_true
theorem Vz:type_of% @List.mem_append_left:=@List.mem_append_left
theorem VA:type_of% @Bool.false_and:=@Bool.false_and
theorem VB:type_of% @List.append_nil:=@List.append_nil
theorem VC:type_of% @List.mem_append_right:=@List.mem_append_right
theorem VD:type_of% @List.map_nil:=@List.map_nil
theorem VE:type_of% @Array.replicate_succ:=@Array.replicate_succ
theorem VF:type_of% @Array.replicate_zero:=@Array.replicate_zero
theorem VG:type_of% @of_decide_eq_true:=@of_decide_eq_true
theorem VH:type_of% @List.find?_cons:=@List.find?_cons
theorem VI:type_of% @Array.getElem?_push:=@Array.getElem?_push
theorem VJ:type_of% @List.take_succ_cons:=@List.take_succ_cons
theorem VK:type_of% @List.getD_cons_succ:=@List.getD_cons_succ
theorem VL:type_of% @List.append_toArray:=@List.append_toArray
theorem VM:type_of% @Nat.add_zero:=@Nat.add_zero
theorem VN:type_of% @List.getElem?_set_self:=@List.getElem?_set_self
theorem VO:type_of% @Nat.add_assoc:=@Nat.add_assoc
theorem VP:type_of% @List.nodup_iff_pairwise_ne:=@List.nodup_iff_pairwise_ne
theorem VQ:type_of% @List.mem_flatMap:=@List.mem_flatMap
theorem VR:type_of% @List.isEmpty_nil:=@List.isEmpty_nil
theorem VS:type_of% @List.filter_cons:=@List.filter_cons
theorem VT:type_of% @List.length_replicate:=@List.length_replicate
theorem VU:type_of% @Nat.eq_of_beq_eq_true:=@Nat.eq_of_beq_eq_true
theorem VV:type_of% @BitVec.getLsbD_twoPow:=@BitVec.getLsbD_twoPow
theorem VW:type_of% @List.push_toArray:=@List.push_toArray
theorem VX:type_of% @List.pairwise_map:=@List.pairwise_map
theorem VY:type_of% @List.length_pos_iff:=@List.length_pos_iff
theorem VZ:type_of% @List.map_congr_left:=@List.map_congr_left
theorem V0:type_of% @List.getElem?_drop:=@List.getElem?_drop
theorem V1:type_of% @List.mem_cons_self:=@List.mem_cons_self
theorem V2:type_of% @Nat.min_eq_left:=@Nat.min_eq_left
theorem V3:type_of% @List.cons.injEq:=@List.cons.injEq
theorem V4:type_of% @Option.some.inj:=@Option.some.inj
theorem V5:type_of% @Bool.not_true:=@Bool.not_true
theorem V6:type_of% @Bool.not_eq_true':=@Bool.not_eq_true'
inductive V where
 | any
 | val (v:Value)
 | emp (k:Nat)
 | dP
 | aL (es:List (List V))
 | sl (id off len esz:Nat)
 | ptr (id i j:Nat)
 | aO (e:List V) (j:Nat)
 | mp (id:Nat)
 | fn (f:FuncId) (first cap:List V)
 | agg (cs:List V)
 | bE (vs:List V)
 deriving Inhabited
inductive dy where
 | dead
 | arr (esz:Nat) (es:List (List V))
 | map (es:List (V × V × Nat)) (clock:Nat)
 | vU (s:ByteArray) (pos:Nat)
 deriving Inhabited
abbrev aJ:=List dy
abbrev View:=Nat→dy
def aJ.view (h:aJ):View:=fun id=>h.getD id .dead
inductive bC where
 | none
 | new (o:dy)
 | eW (id:Nat) (o:dy)
 | bP (id:Nat) (o:dy)
def bC.fresh (free:Prop):bC→Prop
 | .new _ | .bP _ _=>free
 | _=>True
def bC.apply (h:aJ):bC→aJ
 | .none=>h
 | .new o=>h ++ [o]
 | .eW id o=>h.set id o
 | .bP id o=>h.set id .dead ++ [o]
def plain:Value→Bool
 | .bool _ | .int _ _ | .float _ _ | .complex _ _ _ | .string _ | .pointer none | .map none | .nilFunc | .nilIface=>true
 | _=>false
def om:Value→V
 | .slice none 0 0=>.emp 1
 | .slice _ _ _=>.any
 | v=>if plain v then .val v else .any
def fi:Value→V
 | .agg cs=>.agg (cs.toList.map om)
 | .func (.func f) a b=>if a.size=0∧b.size=0 then .fn f [] [] else .any
 | v=>om v
def toCell:V→Option Value
 | .val v=>some v
 | _=>none
def uT:List V→Option (List Value)
 | []=>some []
 | v :: r=>match toCell v,uT r with
  | some x,some y=>some (x :: y)
  | _,_=>none
def dh:V→Option Value
 | .val v=>some v
 | .agg cs=>(uT cs).map fun l=>.agg l.toArray
 | _=>none
def V.cells:V→List V
 | .agg cs=>cs
 | v=>[v]
def aX:V→Bool
 | .any | .agg _ | .bE _=>false
 | _=>true
def bG {α:Type} (P:Program):Sem α→Option α
 | .pure a=>some a
 | .program k=>bG P (k P)
 | _=>none
abbrev Env:=Nat→V
def Env.put (T:Env) (d:Option Nat) (v:V):Env:=match d with
 | some d=>fun t=>if t=d then v else T t
 | none=>T
def ev (T:Env):Operand→V
 | .tmp t=>T t
 | .const v=>fi v
 | .global _=>.any
 | .func f=>.fn f [] []
def cW (P:Program) (t:TypeId):Option TypeId:=match P.underlying t with
 | some (.slice e)=>some e
 | _=>none
def zeroCells (P:Program) (t:TypeId):Option (List V):=match P.info? t with
 | some i=>match i.zero with
  | some v=>some (fi v).cells
  | none=>none
 | none=>none
def po (P:Program) (t:TypeId) (f:Nat):Option (Nat × Nat × TypeId):=match P.underlying t with
 | some (.struct fs)=>match fs[f]? with
  | some x=>match P.info? x.type with
   | some i=>some (x.offset,i.size,x.type)
   | none=>none
  | none=>none
 | _=>none
def asNat:V→Option Nat
 | .val (.int _ q)=>if 0≤q then some q.toNat else none
 | _=>none
def rJ (P:Program) (t:TypeId):Option Bool:=match P.underlying t with
 | some (.struct _) | some (.array _ _)=>some true
 | some _=>some false
 | none=>none
def pT (P:Program) (t:TypeId) (cs:List V) (off:Nat):Option V:=match P.info? t,rJ P t with
 | some i,some true=>if off+i.size≤cs.length then some (.agg ((cs.drop off).take i.size)) else none
 | some _,some false=>if off < cs.length then some (cs.getD off .any) else none
 | _,_=>none
def aa (e:List V) (j:Nat) (cs:List V):List V:=e.take j ++ cs ++ e.drop (j+cs.length)
def ak (n:Nat):V:=.val (.int .i64 n)
def bX (H:View):V→Option (List (List V) × List Nat)
 | .emp _ | .dP=>some ([],[])
 | .aL es=>some (es,[])
 | .sl _ _ 0 _=>some ([],[])
 | .sl id off len _=>match H id with
  | .arr _ es=>if off+len≤es.length then some ((es.drop off).take len,[id]) else none
  | _=>none
 | .val (.string s)=>some (s.data.toList.map fun b=>[.val (.int .u8 b.toNat)],[])
 | _=>none
def aK:Nat:=2 ^ 46
def kH:List (List V)→Option (List UInt8)
 | []=>some []
 | [.val (.int .u8 n)] :: r=>(kH r).map (UInt8.ofNat n.toNat :: ·)
 | _=>none
def hX:List (V × V × Nat)→Option (List MapEntry)
 | []=>some []
 | (k,_,b) :: r=>match dh k,hX r with
  | some x,some y=>some ({ key:=x,val:=.nilFunc,born:=b } :: y)
  | _,_=>none
def mb (P:Program) (kt:TypeId) (k:V) (empty:Bool) (es:List (V × V × Nat)):Option (Option Nat):=match dh k,hX es with
 | some x,some l=>match bG P (Instr.checkKey empty 10000 kt x >>= fun _=>Instr.findKey kt x l) with
  | some (some (i,_))=>some (some i)
  | some none=>some none
  | none=>none
 | _,_=>none
def dz (P:Program) (t:TypeId):Option (TypeId × TypeId):=match P.underlying t with
 | some (.map k e)=>some (k,e)
 | _=>none
def zeroV (P:Program) (t:TypeId):Option V:=match P.info? t with
 | some i=>match i.zero with
  | some v=>some (fi v)
  | none=>none
 | none=>none
abbrev Out:=Option (V × bC × List Nat)
def mg (P:Program) (t:TypeId) (a:V) (H:View):Out:=match a with
 | .ptr id i j=>match H id with
  | .arr _ es=>if i < es.length then (pT P t (es.getD i []) j).map fun v=>(v,.none,[id]) else none
  | _=>none
 | .aO e j=>(pT P t e j).map fun v=>(v,.none,[])
 | _=>none
def qq (P:Program) (t:TypeId) (a v:V) (H:View):Out:=match a with
 | .ptr id i j=>match H id with
  | .arr esz es =>
   if i < es.length∧v.cells.length=P.cellsOf t∧j+v.cells.length≤esz∧v.cells.all aX=true∧(P.info? t).isSome=true
   then some (.any,.eW id (.arr esz (es.set i (aa (es.getD i []) j v.cells))),[id]) else none
  | _=>none
 | _=>none
def lG (cs:List V) (n:Nat):Out :=
 if cs.all aX=true then some (.ptr n 0 0,.new (.arr cs.length [cs]),[]) else none
def af (size:Nat):List (List V)→List (Nat × V)→Option (List (List V))
 | es,[]=>some es
 | es,(i,x) :: r=>if x.cells.length=size∧i < es.length∧x.cells.all aX=true then af size (es.set i x.cells) r else none
def ic (P:Program) (t:TypeId) (len:Nat) (parts:List (Nat × V)) (n:Nat):Out:=match cW P t with
 | none=>none
 | some e=>match P.info? e with
  | none=>none
  | some i =>
   if len * i.size > 2 ^ 24 then none
   else if len=0 then (if parts.isEmpty then some (.emp 2,.none,[]) else none)
   else if i.size=0 then none
   else match zeroCells P e with
    | none=>none
    | some z=>if z.length=i.size∧z.all aX=true then
      match af i.size (List.replicate len z) parts with
      | some es=>some (.sl n 0 len i.size,.new (.arr i.size es),[])
      | none=>none
     else none
def vz (place:Nat→Option (Nat × Nat)):List V→List (Nat × V)→Option (List V)
 | cs,[]=>some cs
 | cs,(i,x) :: r=>match place i with
  | none=>none
  | some (off,size)=>if x.cells.length=size∧off+size≤cs.length∧x.cells.all aX=true then vz place (aa cs off x.cells) r else none
def placeOf (P:Program) (t:TypeId) (i:Nat):Option (Nat × Nat):=(po P t i).map fun (a,b,_)=>(a,b)
def lL (P:Program) (t:TypeId):Bool:=match P.underlying t with
 | some (.struct fs)=>fs.toList.all fun f=>(P.info? f.type).isSome
 | _=>false
def uG (P:Program) (t:TypeId) (parts:List (Nat × V)):Out:=match P.underlying t,zeroV P t with
 | some (.struct _),some (.agg z)=>if lL P t=true then (vz (placeOf P t) z parts).map fun cs=>(.agg cs,.none,[]) else none
 | _,_=>none
def kV (P:Program) (t:TypeId) (x:V) (f:Nat):Out:=match po P t f with
 | some (off,s,_)=>if s=0 then none else match x with
  | .ptr id i j=>some (.ptr id i (j+off),.none,[])
  | .aO e j=>some (.aO e (j+off),.none,[])
  | _=>none
 | none=>none
def vp (P:Program) (t:TypeId) (x:V) (f:Nat):Out:=match po P t f,x with
 | some (off,_,ft),.agg cs=>(pT P ft cs off).map fun v=>(v,.none,[])
 | _,_=>none
def kT (P:Program) (t:TypeId) (x i:V):Out:=match asNat i with
 | none=>none
 | some q=>match P.underlying t with
  | some (.slice e)=>match P.info? e with
   | none=>none
   | some ti=>match x with
    | .sl id off len esz=>if q < len∧esz=ti.size then some (.ptr id (off+q) 0,.none,[]) else none
    | .aL es=>if q < es.length∧(es.getD q []).length=ti.size then some (.aO (es.getD q []) 0,.none,[]) else none
    | _=>none
  | some (.array len e)=>match P.info? e with
   | none=>none
   | some ti=>if q < len then match x with
    | .ptr id i j=>some (.ptr id i (j+q * ti.size),.none,[])
    | .aO e j=>some (.aO e (j+q * ti.size),.none,[])
    | _=>none
    else none
  | _=>none
def bound (d:Nat):Option V→Option Nat
 | none=>some d
 | some v=>asNat v
def rY (P:Program) (t:TypeId) (x:V) (lo hi mx:Option V):Out:=match cW P t with
 | none=>none
 | some e=>match P.info? e with
  | none=>none
  | some ti=>match mx with
   | some m=>match bound 0 lo,bound 0 hi,asNat m with
    | some 0,some 0,some 0=>if hi.isNone then none else match x with
     | .sl _ _ _ _ | .aL _ | .emp _ | .dP=>some (.emp 0,.none,[])
     | _=>none
    | _,_,_=>none
   | none=>match x with
    | .sl id off len esz=>match bound 0 lo,bound len hi with
     | some l,some h=>if l≤h∧h≤len∧esz=ti.size then some (.sl id (off+l) (h - l) esz,.none,[]) else none
     | _,_=>none
    | .aL es=>match bound 0 lo,bound es.length hi with
     | some l,some h=>if l≤h∧h≤es.length∧(es.all fun e=>e.length == ti.size)=true then some (.aL ((es.drop l).take (h - l)),.none,[]) else none
     | _,_=>none
    | .emp k=>match bound 0 lo,bound 0 hi with
     | some 0,some 0=>some (.emp k,.none,[])
     | _,_=>none
    | _=>none
def kW (P:Program) (t:TypeId) (len cap:V) (n:Nat):Out:=match cW P t with
 | none=>none
 | some e=>match P.info? e with
  | none=>none
  | some ti=>match asNat len,asNat cap with
   | some l,some c =>
    if l≤c∧c < aK∧ti.bytes * c < aK then
     (
      if c=0 then some (.emp 2,.none,[])
      else if ti.size=0 then none
      else match zeroCells P e with
       | none=>none
       | some z=>if z.length=ti.size∧z.all aX=true then some (.sl n 0 l ti.size,.new (.arr ti.size (List.replicate l z)),[]) else none)
    else none
   | _,_=>none
def mN (P:Program) (at0:TypeId) (s x:V) (H:View) (n:Nat):Out:=match cW P at0,bX H x with
 | some e,some (xs,rd)=>match P.info? e with
  | none=>none
  | some ti =>
   if xs.isEmpty then (match s with
    | .emp _ | .dP | .aL _ | .sl _ _ _ _=>some (s,.none,[])
    | _=>none)
   else if ti.size=0∨¬ ((zeroCells P e).map List.length=some ti.size)∨¬ ((xs.all fun e=>e.length == ti.size && e.all aX)=true) then none
   else match s with
    | .emp _=>if xs.length * ti.bytes < aK∧xs.length < aK then some (.sl n 0 xs.length ti.size,.new (.arr ti.size xs),rd) else none
    | .sl id off len esz=>match H id with
     | .arr _ es =>
      if off+len≤es.length∧esz=ti.size∧(len+xs.length) * ti.bytes < aK∧len+xs.length < aK
      then some (.sl n 0 (len+xs.length) esz,.bP id (.arr esz ((es.drop off).take len ++ xs)),id :: rd) else none
     | _=>none
    | _=>none
 | _,_=>none
def F7 (P:Program) (at0:TypeId) (x:V):Out:=match cW P at0,x with
 | some _,.emp _=>some (ak 0,.none,[])
 | _,_=>none
def wo (P:Program) (at0:TypeId) (s x:V) (n:Nat):Out:=match cW P at0,asNat x,s with
 | some e,some l,.emp k=>match P.info? e,zeroCells P e with
  | some ti,some z=>if l=0 then some (.emp k,.none,[]) else if z.length=ti.size∧z.all aX=true∧ti.size≠0∧l * ti.bytes < aK∧l < aK then some (.sl n 0 l ti.size,.new (.arr ti.size (List.replicate l z)),[]) else none
  | _,_=>none
 | _,_,_=>none
def gj:List (List V)→Nat→List (List V)→List (List V)
 | es,_,[]=>es
 | es,i,x :: r=>gj (es.set i x) (i+1) r
def cG:V→Option Nat
 | .emp _ | .dP=>some 0
 | .aL es=>some es.length
 | .sl _ _ len _=>some len
 | _=>none
def A3 (P:Program) (at0:TypeId) (d x:V) (H:View):Out:=match cW P at0,bX H x,cG d with
 | some e,some (xs,rd),some dl=>match P.info? e with
  | none=>none
  | some ti =>
   if (xs.take dl).isEmpty then some (ak 0,.none,[])
   else match d with
    | .sl id off len esz=>match H id with
     | .arr _ es =>
      if off+len≤es.length∧esz=ti.size∧ti.size≠0∧((xs.all fun e=>e.length == ti.size && e.all aX)=true)
      then some (ak (xs.take dl).length,.eW id (.arr esz (gj es off (xs.take dl))),id :: rd) else none
     | _=>none
    | _=>none
 | _,_,_=>none
def uO (P:Program) (at0:TypeId) (d:V) (H:View):Out:=match cW P at0,cG d with
 | some e,some dl=>if dl=0 then some (.bE [],.none,[]) else match d,P.info? e,zeroCells P e with
  | .sl id off len esz,some ti,some z=>match H id with
   | .arr _ es=>if off+len≤es.length∧esz=ti.size∧ti.size≠0∧z.length=ti.size∧z.all aX=true then some (.bE [],.eW id (.arr esz (gj es off (List.replicate len z))),[id]) else none
   | _=>none
  | _,_,_=>none
 | _,_=>none
def fE (P:Program) (t:TypeId) (m k:V) (ok:Bool) (H:View):Out:=match dz P t with
 | none=>none
 | some (kt,et)=>match zeroV P et with
  | none=>none
  | some z =>
   let fin (v:V) (b:Bool) (rd:List Nat):Out:=some (if ok then .bE [v,.val (.bool b)] else v,.none,rd)
   match m with
   | .mp id=>match H id with
    | .map es _=>match mb P kt k es.isEmpty es with
     | some (some i)=>match es[i]? with
      | some (_,v,_)=>fin v true [id]
      | none=>none
     | some none=>fin z false [id]
     | none=>none
    | _=>none
   | _=>none
def sameKey (old new:V):Bool:=match dh old,dh new with
 | some a,some b=>Instr.sameBits 10000 a b
 | _,_=>false
def eZ (P:Program) (t:TypeId) (m k v:V) (H:View):Out:=match dz P t,m with
 | some (kt,_),.mp id=>match H id with
  | .map es c=>match mb P kt k false es with
   | some (some i)=>match es[i]? with
    | some (k0,_,b)=>if sameKey k0 k=true then some (.any,.eW id (.map (es.set i (k,v,b)) c),[id]) else none
    | none=>none
   | some none=>some (.any,.eW id (.map (es ++ [(k,v,c)]) (c+1)),[id])
   | none=>none
  | _=>none
 | _,_=>none
def eh (P:Program) (t:TypeId) (m k:V) (H:View):Out:=match dz P t,m with
 | some (kt,et),.mp id=>match H id with
  | .map es c=>match mb P kt k false es with
   | some (some i)=>match es[i]? with
    | some (k0,v,b)=>if sameKey k0 k=true then some (.bE [v,ak b],.eW id (.map (es.set i (k,v,b)) c),[id]) else none
    | none=>none
   | some none=>match zeroV P et with
    | some z=>some (.bE [z,ak c],.eW id (.map (es ++ [(k,z,c)]) (c+1)),[id])
    | none=>none
   | none=>none
  | _=>none
 | _,_=>none
def jM (m s v:V) (H:View):Out:=match m,asNat s with
 | .mp id,some q=>match H id with
  | .map es c=>match es.findIdx? (fun e=>e.2.2 == q) with
   | some i=>match es[i]? with
    | some (k,_,b)=>some (.any,.eW id (.map (es.set i (k,v,b)) c),[id])
    | none=>none
   | none=>none
  | _=>none
 | _,_=>none
def uX (P:Program) (t:TypeId) (m k:V) (H:View):Out:=match dz P t,m with
 | some (kt,_),.mp id=>match H id with
  | .map es c=>match mb P kt k es.isEmpty es with
   | some (some i)=>some (.any,.eW id (.map (es.eraseIdx i) c),[id])
   | some none=>some (.any,.none,[id])
   | none=>none
  | _=>none
 | _,_=>none
def tV (P:Program) (t:TypeId) (x:V) (H:View):Out:=match P.underlying t with
 | some (.slice _)=>(cG x).map fun n=>(ak n,.none,[])
 | some (.map _ _)=>match x with
  | .mp id=>match H id with
   | .map es _=>some (ak es.length,.none,[id])
   | _=>none
  | .val (.map none)=>some (ak 0,.none,[])
  | _=>none
 | some .string=>match x with
  | .val (.string s)=>some (ak s.size,.none,[])
  | _=>none
 | some (.array n _)=>some (ak n,.none,[])
 | _=>none
def A4 (x:V) (H:View):Out:=match x with
 | .ptr id 0 0=>match H id with
  | .vU s pos =>
   if pos < s.size then
    some (.bE [.val (.bool true),ak pos,.val (.int .i32 (Utf8.decode s pos).1)],.eW id (.vU s (pos+(Utf8.decode s pos).2)),[id])
   else some (.bE [.val (.bool false)],.none,[id])
  | _=>none
 | _=>none
def gC (s:ByteArray):List (List V):=s.data.toList.map fun b=>[.val (.int .u8 b.toNat)]
def kz (P:Program) (s d:TypeId):Bool:=match P.underlying s,P.underlying d with
 | some (.slice _),_=>true
 | _,some (.slice _)=>true
 | _,_=>false
def mH (P:Program) (s d:TypeId) (x:V) (H:View) (n:Nat):Out:=match P.underlying s,P.underlying d,x with
 | some (.slice e),some .string,x=>match P.underlying e with
  | some (.int .u8)=>match bX H x,cG x with
   | some (xs,rd),some _=>(kH xs).map fun l=>(.val (.string ⟨l.toArray⟩),.none,rd)
   | _,_=>none
  | _=>none
 | some .string,some (.slice e),.val (.string s)=>match P.underlying e with
  | some (.int .u8)=>some (.sl n 0 s.size 1,.new (.arr 1 (gC s)),[])
  | _=>none
 | some (.slice _),some (.slice e),.sl id off len esz=>if s=d∧len≠0 then (match P.underlying e with
  | some (.int .u8)=>match H id with
   | .arr z es=>some (.sl id off len esz,.eW id (.arr z es),[id])
   | _=>none
  | _=>none) else none
 | _,_,_=>none
def ae:Nat→V→Option Bool
 | 0,.emp 1=>some true
 | 0,.emp 2 | 0,.dP=>some false
 | 0,.sl _ _ (_+1) _=>some false
 | 0,.aL (_ :: _)=>some false
 | 1,.ptr _ _ _ | 1,.aO _ _ | 2,.mp _ | 3,.fn _ _ _=>some false
 | 1,.val (.pointer none) | 2,.val (.map none) | 3,.val .nilFunc=>some true
 | _,_=>none
def jm (P:Program) (t:TypeId):Option Nat:=match P.underlying t with
 | some (.slice _)=>some 0
 | some (.pointer _)=>some 1
 | some (.map _ _)=>some 2
 | some (.func _ _ _)=>some 3
 | _=>none
def C7 (P:Program) (t:TypeId) (x y:V):Option Bool:=match jm P t with
 | some k=>match ae k x,ae k y with
  | some true,some b=>some b
  | some b,some true=>some b
  | _,_=>none
 | none=>none
def dL (P:Program) (o:Oper) (T:Env):Out :=
 if o.op.operands.all (fun x=>(dh (ev T x)).isSome)=true then
  match bG P (execOp (fun x=>(dh (ev T x)).getD undef) o) with
  | some (.value v)=>if plain v then some (.val v,.none,[]) else none
  | _=>none
 else none
def isStr (P:Program) (o:Op):Bool:=match o with
 | .range t _=>(match P.underlying t with | some .string=>true | _=>false)
 | _=>false
def pR (P:Program) (t:TypeId):Bool:=match P.underlying t with
 | some (.int _)=>false
 | some _=>true
 | none=>false
def isInt (P:Program) (t:TypeId):Bool:=match P.underlying t with
 | some (.int _)=>true
 | _=>false
def cm (P:Program) (o:Oper) (T:Env) (H:View) (n:Nat):Out:=match o.op with
 | .move x | .assign x=>some (ev T x,.none,[])
 | .pick c a b=>match ev T c with
  | .val (.bool t)=>some (if t then ev T a else ev T b,.none,[])
  | _=>none
 | .alloc e=>match zeroCells P e with
  | some z=>lG z n
  | none=>none
 | .box _ x=>lG (ev T x).cells n
 | .build t parts=>uG P t (parts.toList.map fun (i,x)=>(i,ev T x))
 | .buildSlice t len parts=>ic P t len (parts.toList.map fun (i,x)=>(i,ev T x)) n
 | .load t a=>mg P t (ev T a) H
 | .store t a v=>qq P t (ev T a) (ev T v) H
 | .nilCheck x=>match ev T x with
  | .ptr id i j=>some (.ptr id i j,.none,[])
  | .aO e j=>some (.aO e j,.none,[])
  | .fn f a b=>some (.fn f a b,.none,[])
  | _=>none
 | .fieldAddr t x f=>kV P t (ev T x) f
 | .field t x f=>vp P t (ev T x) f
 | .indexAddr t x i=>kT P t (ev T x) (ev T i)
 | .slice t x lo hi mx=>match ev T x with
  | .val _=>dL P o T
  | y=>rY P t y (lo.map (ev T)) (hi.map (ev T)) (mx.map (ev T))
 | .makeSlice t l c=>kW P t (ev T l) (ev T c) n
 | .makeMap _ r=>match r with
  | none=>some (.mp n,.new (.map [] 0),[])
  | some _=>none
 | .makeFunc (.func f) first cap=>some (.fn f (first.toList.map (ev T)) (cap.toList.map (ev T)),.none,[])
 | .lookup t m k ok=>fE P t (ev T m) (ev T k) ok H
 | .mapUpdate t m k v=>eZ P t (ev T m) (ev T k) (ev T v) H
 | .insert t m k v=>eZ P t (ev T m) (ev T k) (ev T v) H
 | .mapEntry t m k=>eh P t (ev T m) (ev T k) H
 | .entryStore _ m s v=>jM (ev T m) (ev T s) (ev T v) H
 | .extract t i=>match ev T t with
  | .bE vs=>if i < vs.length then some (vs.getD i .any,.none,[]) else none
  | _=>none
 | .range _ x=>match ev T x with
  | .val (.string s)=>if isStr P o.op=true then some (.ptr n 0 0,.new (.vU s 0),[]) else none
  | _=>none
 | .next it true=>A4 (ev T it) H
 | .convert s d x=>if kz P s d=true then mH P s d (ev T x) H n else dL P o T
 | .call { callee:=.builtin b,args,argTypes }=>match b,args.toList with
  | .len,[x]=>if 1≤argTypes.size then tV P (argTypes.getD 0 0) (ev T x) H else none
  | .append,[s,x]=>if 2≤argTypes.size∧pR P (argTypes.getD 1 0)=true then mN P (argTypes.getD 0 0) (ev T s) (ev T x) H n else if 2≤argTypes.size∧isInt P (argTypes.getD 1 0)=true then wo P (argTypes.getD 0 0) (ev T s) (ev T x) n else none
  | .cap,[x]=>if 1≤argTypes.size then F7 P (argTypes.getD 0 0) (ev T x) else none
  | .copy,[d,x]=>if 1≤argTypes.size then A3 P (argTypes.getD 0 0) (ev T d) (ev T x) H else none
  | .delete,[m,k]=>if 1≤argTypes.size then uX P (argTypes.getD 0 0) (ev T m) (ev T k) H else none
  | .clear,[d]=>if 1≤argTypes.size then uO P (argTypes.getD 0 0) (ev T d) H else none
  | .min,_ | .max,_ | .complex,_ | .real,_ | .imag,_=>dL P o T
  | _,_=>none
 | .binOp op t x y _=>if (jm P t).isSome=true then (match op,C7 P t (ev T x) (ev T y) with
   | .eql,some b=>some (.val (.bool b),.none,[])
   | .neq,some b=>some (.val (.bool (!b)),.none,[])
   | _,_=>none)
  else dL P o T
 | .unOp .. | .index ..=>dL P o T
 | _=>none
abbrev Mu:=Nat→Option (Nat × Nat × Nat)
def cellAt (hp:Array Obj) (b k:Nat):Option Value:=match hp[b]? with
 | some (.cells c _ _)=>c[k]?
 | _=>none
theorem nq (w:World) (b k:Nat):w.cell? ⟨b,k,none⟩=cellAt w.heap b k:=by
 simp only[World.cell?,cellAt]
 cases w.heap[b]? with
 | none=>rfl
 | some o=>cases o <;> simp
inductive aF (Z:Nat→Prop) (μ:Mu) (hp:Array Obj):V→Value→Prop
 | any (x:Value):aF Z μ hp .any x
 | val (v:Value):plain v=true→aF Z μ hp (.val v) v
 | emp (k:Nat) (a:Option Addr):(k=1→a=none)→(k=2→a≠none)→aF Z μ hp (.emp k) (.slice a 0 0)
 | dP (a:Addr) (cap:Nat):aF Z μ hp .dP (.slice (some a) 0 cap)
 | im (a:Option Addr) (cap:Nat):(a=none→cap=0)→aF Z μ hp (.aL []) (.slice a 0 cap)
 | aL (es:List (List V)) (b off esz cap:Nat) (c:Nat→Nat→Value):Z b→es.length≤cap →
  (∀ i,i < es.length→(es.getD i []).length=esz) →
  (∀ i j,i < es.length→j < esz→cellAt hp b (off+i * esz+j)=some (c i j)) →
  (∀ i j,i < es.length→j < esz→aF Z μ hp ((es.getD i []).getD j .any) (c i j)) →
  aF Z μ hp (.aL es) (.slice (some ⟨b,off,none⟩) es.length cap)
 | oZ (id off esz:Nat) (a:Option Addr):aF Z μ hp (.sl id off 0 esz) (.slice a 0 0)
 | sl (id off len esz b o0 cap:Nat) (c:Array Value) (e:TypeId) (f:Nat × Nat):μ id=some (b,o0,esz)→len≤cap →
  hp[b]?=some (.cells c e f)→o0+(off+cap) * esz≤c.size →
  aF Z μ hp (.sl id off len esz) (.slice (some ⟨b,o0+off * esz,none⟩) len cap)
 | ptr (id i j b o0 esz:Nat):μ id=some (b,o0,esz)→aF Z μ hp (.ptr id i j) (.pointer (some ⟨b,o0+i * esz+j,none⟩))
 | aO (e:List V) (j b off:Nat) (c:Nat→Value):Z b→(∀ k,k < e.length→cellAt hp b (off+k)=some (c k)) →
  (∀ k,k < e.length→aF Z μ hp (e.getD k .any) (c k))→aF Z μ hp (.aO e j) (.pointer (some ⟨b,off+j,none⟩))
 | mp (id b o0 esz:Nat):μ id=some (b,o0,esz)→aF Z μ hp (.mp id) (.map (some b))
 | fn (f:FuncId) (xs ys:List V) (aas bs:Array Value):xs.length=aas.size→ys.length=bs.size →
  (∀ i,i < xs.length→aF Z μ hp (xs.getD i .any) (aas.getD i undef))→(∀ i,i < ys.length→aF Z μ hp (ys.getD i .any) (bs.getD i undef)) →
  aF Z μ hp (.fn f xs ys) (.func (.func f) aas bs)
 | agg (cs:List V) (aas:Array Value):cs.length=aas.size→(∀ i,i < cs.length→aF Z μ hp (cs.getD i .any) (aas.getD i undef))→aF Z μ hp (.agg cs) (.agg aas)
 | bE (cs:List V) (aas:Array Value):cs.length=aas.size→(∀ i,i < cs.length→aF Z μ hp (cs.getD i .any) (aas.getD i undef))→aF Z μ hp (.bE cs) (.tuple aas)
def fU (Z:Nat→Prop) (μ:Mu) (hp:Array Obj) (vs:List V) (xs:List Value):Prop :=
 vs.length=xs.length∧∀ i,i < vs.length→aF Z μ hp (vs.getD i .any) (xs.getD i undef)
def fC (hp hp':Array Obj):Prop:=∀ (b:Nat) (c:Array Value) (e:TypeId) (f:Nat × Nat),hp[b]?=some (.cells c e f)→∃ (c':Array Value) (f':Nat × Nat),hp'[b]?=some (.cells c' e f')∧c'.size=c.size
theorem fC.refl (hp:Array Obj):fC hp hp:=fun _ c _ f h=>⟨c,f,h,rfl⟩
theorem fC.trans {a b c:Array Obj} (h:fC a b) (k:fC b c):fC a c:=fun i x e f hx =>
 let ⟨c1,f1,h1,s1⟩:=h i x e f hx
 let ⟨c2,f2,h2,s2⟩:=k i c1 e f1 h1
 ⟨c2,f2,h2,s2.trans s1⟩
structure gR (Z Z':Nat→Prop) (μ μ':Mu) (hp hp':Array Obj):Prop where
 z:∀ b,Z b→Z' b
 zz:∀ b,Z b→hp'[b]?=hp[b]?
 mu:∀ id x,μ id=some x→μ' id=some x
 shape:fC hp hp'
theorem gR.refl (Z:Nat→Prop) (μ:Mu) (hp:Array Obj):gR Z Z μ μ hp hp:=⟨fun _ h=>h,fun _ _=>rfl,fun _ _ h=>h,fC.refl _⟩
theorem gR.trans {Z Z' Z'':Nat→Prop} {μ μ' μ'':Mu} {a b c:Array Obj} (h:gR Z Z' μ μ' a b) (k:gR Z' Z'' μ' μ'' b c):gR Z Z'' μ μ'' a c :=
 ⟨fun i hi=>k.z i (h.z i hi),fun i hi=>(k.zz i (h.z i hi)).trans (h.zz i hi),fun i x hx=>k.mu i x (h.mu i x hx),h.shape.trans k.shape⟩
theorem yG {hp hp':Array Obj} {b:Nat} (h:hp'[b]?=hp[b]?) (k:Nat):cellAt hp' b k=cellAt hp b k:=by simp[cellAt,h]
theorem aF.mono {Z Z':Nat→Prop} {μ μ':Mu} {hp hp':Array Obj} (m:gR Z Z' μ μ' hp hp') {v:V} {x:Value} (h:aF Z μ hp v x):aF Z' μ' hp' v x:=by
 induction h with
 | any x=>exact .any x
 | val v hv=>exact .val v hv
 | emp k a h1 h2=>exact .emp k a h1 h2
 | dP a cap=>exact .dP a cap
 | im a cap h1=>exact .im a cap h1
 | aL es b off esz cap c hz hle hes hc _ ih=>exact .aL es b off esz cap c (m.z _ hz) hle hes (fun i j hi hj=>by rw[yG (m.zz _ hz)]; exact hc i j hi hj) ih
 | oZ id off esz a=>exact .oZ id off esz a
 | sl id off len esz b o0 cap c e f hm hle hb hs =>
  obtain ⟨c',f',hc',hsz⟩:=m.shape b c e f hb
  exact .sl id off len esz b o0 cap c' e f' (m.mu _ _ hm) hle hc' (by omega)
 | ptr id i j b o0 esz hm=>exact .ptr id i j b o0 esz (m.mu _ _ hm)
 | aO e j b off c hz hc _ ih=>exact .aO e j b off c (m.z _ hz) (fun k hk=>by rw[yG (m.zz _ hz)]; exact hc k hk) ih
 | mp id b o0 esz hm=>exact .mp id b o0 esz (m.mu _ _ hm)
 | fn f xs ys aas bs h1 h2 _ _ ih1 ih2=>exact .fn f xs ys aas bs h1 h2 ih1 ih2
 | agg cs aas h1 _ ih=>exact .agg cs aas h1 ih
 | bE cs aas h1 _ ih=>exact .bE cs aas h1 ih
def en (Z:Nat→Prop) (μ:Mu) (hp:Array Obj) (id:Nat):dy→Prop
 | .dead=>True
 | .arr esz es=>∀ b o0 s,μ id=some (b,o0,s)→s=esz ∧
  (∃ (c:Array Value) (e:TypeId) (f:Nat × Nat),hp[b]?=some (.cells c e f)∧(f.1=f.2∨c.size≤f.1)∧o0+es.length * esz≤c.size) ∧
  (∀ i,i < es.length→(es.getD i []).length=esz) ∧
  (∀ i j,i < es.length→j < esz→∃ x,cellAt hp b (o0+i * esz+j)=some x∧aF Z μ hp ((es.getD i []).getD j .any) x)
 | .map es clock=>∀ b o0 s,μ id=some (b,o0,s)→∃ a:Array MapEntry,hp[b]?=some (.map a clock)∧a.size=es.length ∧
  ∀ i,i < es.length→∃ y,a[i]?=some y∧aF Z μ hp (es.getD i default).1 y.key∧aF Z μ hp (es.getD i default).2.1 y.val∧y.born=(es.getD i default).2.2
 | .vU s pos=>∀ b o0 t,μ id=some (b,o0,t)→o0=0∧hp[b]?=some (.stringIter s pos)
theorem en.mono {Z Z':Nat→Prop} {μ μ':Mu} {hp hp':Array Obj} (m:gR Z Z' μ μ' hp hp') {id:Nat} {o:dy} (h:en Z μ hp id o)
  (hid:μ' id=μ id) (hb:∀ b o0 s,μ id=some (b,o0,s)→hp'[b]?=hp[b]?):en Z' μ' hp' id o:=by
 cases o with
 | dead=>trivial
 | arr esz es =>
  intro b o0 s hμ
  rw[hid] at hμ
  obtain ⟨h1,⟨c,e,f,hc,hf,hs⟩,h3,h4⟩:=h b o0 s hμ
  refine ⟨h1,⟨c,e,f,by rw[hb b o0 s hμ]; exact hc,hf,hs⟩,h3,fun i j hi hj=>?_⟩
  obtain ⟨x,hx,hv⟩:=h4 i j hi hj
  exact ⟨x,by rw[yG (hb b o0 s hμ)]; exact hx,hv.mono m⟩
 | map es clock =>
  intro b o0 s hμ
  rw[hid] at hμ
  obtain ⟨a,ha,hs,h3⟩:=h b o0 s hμ
  refine ⟨a,by rw[hb b o0 s hμ]; exact ha,hs,fun i hi=>?_⟩
  obtain ⟨y,hy,k1,k2,k3⟩:=h3 i hi
  exact ⟨y,hy,k1.mono m,k2.mono m,k3⟩
 | vU s pos =>
  intro b o0 t hμ
  rw[hid] at hμ
  obtain ⟨h1,h2⟩:=h b o0 t hμ
  exact ⟨h1,by rw[hb b o0 t hμ]; exact h2⟩
structure gY (Z:Nat→Prop) (μ:Mu) (hp:Array Obj) (H:View):Prop where
 obj:∀ id,en Z μ hp id (H id)
 inj:∀ i j b o s o' s',i≠j→μ i=some (b,o,s)→μ j=some (b,o',s')→H i=.dead∨H j=.dead
 lt:∀ id b o s,μ id=some (b,o,s)→b < hp.size
 cL:∀ b,Z b→b < hp.size
 gM:∀ id b o s,μ id=some (b,o,s)→¬ Z b
def Mu.set (μ:Mu) (n:Nat) (x:Nat × Nat × Nat):Mu:=fun id=>if id=n then some x else μ id
def View.set (H:View) (n:Nat) (o:dy):View:=fun id=>if id=n then o else H id
def bC.view (H:View) (n:Nat):bC→View
 | .none=>H
 | .new o=>H.set n o
 | .eW id o=>H.set id o
 | .bP id o=>(H.set id .dead).set n o
structure eE (w w':World):Prop where
 os:w'.os=w.os
 tape:w'.tape=w.tape
 output:w'.output=w.output
 size:w.heap.size≤w'.heap.size
theorem eE.refl (w:World):eE w w:=⟨rfl,rfl,rfl,Ug _⟩
theorem eE.trans {a b c:World} (h:eE a b) (k:eE b c):eE a c:=⟨k.os.trans h.os,k.tape.trans h.tape,k.output.trans h.output,U0 h.size k.size⟩
def fV (hp hp':Array Obj) (p:Nat→Prop):Prop:=∀ b,b < hp.size→¬ p b→hp'[b]?=hp[b]?
def mh (Z:Nat→Prop) (μ μ':Mu) (hp hp':Array Obj) (n:Nat):bC→Prop
 | .none=>μ'=μ∧fV hp hp' (fun _=>False)
 | .new o=>∃ b o0 s,hp.size≤b∧b < hp'.size∧μ'=μ.set n (b,o0,s)∧fV hp hp' (fun _=>False)∧en Z μ' hp' n o
 | .eW id o=>∃ b o0 s,μ id=some (b,o0,s)∧μ'=μ∧fV hp hp' (· = b)∧fC hp hp'∧en Z μ' hp' id o
 | .bP id o=>∃ b o0 s,μ'=μ.set n (b,o0,s)∧en Z μ' hp' n o ∧
  ((hp.size≤b∧b < hp'.size∧fV hp hp' (fun _=>False))∨((∃ o1 s1,μ id=some (b,o1,s1))∧fV hp hp' (· = b)∧fC hp hp'))
theorem fV.qb {hp hp':Array Obj} (h:fV hp hp' (fun _=>False)):fC hp hp':=by
 intro b c e f hb
 have hlt:b < hp.size:=by
  rcases Uv b hp.size with h | h
  ·exact h
  ·simp[Vr h] at hb
 exact ⟨c,f,by rw[h b hlt (fun x=>x)]; exact hb,rfl⟩
theorem mh.mono {Z:Nat→Prop} {μ μ':Mu} {hp hp':Array Obj} {n:Nat} {eff:bC} (h:mh Z μ μ' hp hp' n eff) (hn:eff.fresh (μ n=none))
  (cL:∀ b,Z b→b < hp.size) (gM:∀ id b o s,μ id=some (b,o,s)→¬ Z b):gR Z Z μ μ' hp hp':=by
 have hset:μ n=none→∀ x:Nat × Nat × Nat,∀ id y,μ id=some y→(μ.set n x) id=some y:=by
  intro hn x id y hy
  by_cases hid:id=n
  ·subst hid; simp[hn] at hy
  ·simp[Mu.set,hid,hy]
 cases eff with
 | none =>
  obtain ⟨rfl,ho⟩:=h
  exact ⟨fun _ h=>h,fun b hb=>ho b (cL b hb) (fun x=>x),fun _ _ h=>h,ho.qb⟩
 | new o =>
  obtain ⟨b,o0,s,_,_,rfl,ho,_⟩:=h
  exact ⟨fun _ h=>h,fun b hb=>ho b (cL b hb) (fun x=>x),hset hn _,ho.qb⟩
 | eW id o =>
  obtain ⟨b,o0,s,hμ,rfl,ho,hs,_⟩:=h
  exact ⟨fun _ h=>h,fun b' hb'=>ho b' (cL b' hb') (fun e=>gM _ _ _ _ hμ (e ▸ hb')),fun _ _ h=>h,hs⟩
 | bP id o =>
  obtain ⟨b,o0,s,rfl,_,h | ⟨⟨o1,s1,hμ⟩,ho,hs⟩⟩:=h
  ·exact ⟨fun _ h=>h,fun b' hb'=>h.2.2 b' (cL b' hb') (fun x=>x),hset hn _,h.2.2.qb⟩
  ·exact ⟨fun _ h=>h,fun b' hb'=>ho b' (cL b' hb') (fun e=>gM _ _ _ _ hμ (e ▸ hb')),hset hn _,hs⟩
theorem mh.size {Z:Nat→Prop} {μ μ':Mu} {hp hp':Array Obj} {n:Nat} {eff:bC} (h:mh Z μ μ' hp hp' n eff) (lt:∀ id b o s,μ id=some (b,o,s)→b < hp.size) (hs:hp.size≤hp'.size) :
  ∀ id b o s,μ' id=some (b,o,s)→b < hp'.size:=by
 have hold:∀ id b o s,μ id=some (b,o,s)→b < hp'.size:=fun id b o s hx=>UD (lt id b o s hx) hs
 cases eff with
 | none=>obtain ⟨rfl,_⟩:=h; exact hold
 | new o =>
  obtain ⟨b,o0,s,_,hb,rfl,_,_⟩:=h
  intro id b' o' s' hx
  by_cases hid:id=n
  ·simp[Mu.set,hid] at hx; omega
  ·simp[Mu.set,hid] at hx; exact hold _ _ _ _ hx
 | eW id o=>obtain ⟨b,o0,s,hμ,rfl,_⟩:=h; exact hold
 | bP id o =>
  obtain ⟨b,o0,s,rfl,_,h | ⟨⟨o1,s1,hμ⟩,_,_⟩⟩:=h
  all_goals
   intro id b' o' s' hx
   by_cases hid:id=n
   ·simp[Mu.set,hid] at hx
    first | omega | (obtain ⟨rfl,_,_⟩:=hx; exact hold _ _ _ _ hμ)
   ·simp[Mu.set,hid] at hx; exact hold _ _ _ _ hx
theorem gY.eff {Z:Nat→Prop} {μ μ':Mu} {hp hp':Array Obj} {H:View} {n:Nat} {eff:bC} (h:gY Z μ hp H) (hn:eff.fresh (μ n=none)) (hs:hp.size≤hp'.size)
  (he:mh Z μ μ' hp hp' n eff) (hid:∀ id o,eff=.eW id o→H id≠.dead) (hid':∀ id o,eff=.bP id o→H id≠.dead):gY Z μ' hp' (eff.view H n):=by
 have hm:=he.mono hn h.cL h.gM
 have hlt':=he.size h.lt hs
 have hz':∀ b,Z b→b < hp'.size:=fun b hb=>UD (h.cL b hb) hs
 cases eff with
 | none =>
  obtain ⟨rfl,ho⟩:=he
  exact ⟨fun id=>(h.obj id).mono hm rfl (fun b o s hx=>ho b (h.lt _ _ _ _ hx) (fun x=>x)),h.inj,hlt',hz',h.gM⟩
 | new o =>
  obtain ⟨b,o0,s,hb1,hb2,rfl,ho,hor⟩:=he
  refine ⟨fun id=>?_,?_,hlt',hz',?_⟩
  ·by_cases hin:id=n
   ·subst hin; simpa [bC.view,View.set] using hor
   ·have:=(h.obj id).mono hm (by simp[Mu.set,hin]) (fun b o s hx=>ho b (h.lt _ _ _ _ hx) (fun x=>x))
    simpa [bC.view,View.set,hin] using this
  ·intro i j b' o' s' o'' s'' hij hi hj
   by_cases h1:i=n
   ·by_cases h2:j=n
    ·omega
    ·simp[Mu.set,h1] at hi; simp[Mu.set,h2] at hj
     have:=h.lt _ _ _ _ hj; omega
   ·by_cases h2:j=n
    ·simp[Mu.set,h2] at hj; simp[Mu.set,h1] at hi
     have:=h.lt _ _ _ _ hi; omega
    ·simp[Mu.set,h1] at hi; simp[Mu.set,h2] at hj
     simpa [bC.view,View.set,h1,h2] using h.inj i j b' o' s' o'' s'' hij hi hj
  ·intro id b' o' s' hx hz
   by_cases h1:id=n
   ·simp[Mu.set,h1] at hx; have:=h.cL _ hz; omega
   ·simp[Mu.set,h1] at hx; exact h.gM _ _ _ _ hx hz
 | eW k o =>
  obtain ⟨b,o0,s,hμ,rfl,ho,hsh,hor⟩:=he
  have hk:=hid k o rfl
  refine ⟨fun id=>?_,?_,hlt',hz',h.gM⟩
  ·by_cases hin:id=k
   ·subst hin; simpa [bC.view,View.set] using hor
   ·simp only[bC.view,View.set,hin,if_false]
    by_cases hd:H id=.dead
    ·rw[hd]; trivial
    ·refine (h.obj id).mono hm rfl (fun b' o' s' hx=>ho b' (h.lt _ _ _ _ hx) ?_)
     intro e
     subst e
     rcases h.inj id k _ _ _ _ _ hin hx hμ with h1 | h1
     ·exact hd h1
     ·exact hk h1
  ·intro i j b' o' s' o'' s'' hij hi hj
   rcases h.inj i j _ _ _ _ _ hij hi hj with h1 | h1
   ·by_cases e:i=k
    ·exact absurd (e ▸ h1) hk
    ·left; simpa [bC.view,View.set,e] using h1
   ·by_cases e:j=k
    ·exact absurd (e ▸ h1) hk
    ·right; simpa [bC.view,View.set,e] using h1
 | bP k o =>
  obtain ⟨b,o0,s,rfl,hor,hcase⟩:=he
  have hk:=hid' k o rfl
  have hnew:(μ.set n (b,o0,s)) n=some (b,o0,s):=by simp[Mu.set]
  refine ⟨fun id=>?_,?_,hlt',hz',?_⟩
  ·by_cases hin:id=n
   ·subst hin; simpa [bC.view,View.set] using hor
   ·by_cases hik:id=k
    ·simp only[bC.view,View.set,hin,if_false,hik,if_true]
     split <;> first | trivial | (rename_i e; exact absurd (hik.trans e) hin)
    ·simp only[bC.view,View.set,hin,if_false,hik]
     by_cases hd:H id=.dead
     ·rw[hd]; trivial
     ·refine (h.obj id).mono hm (by simp[Mu.set,hin]) (fun b' o' s' hx=>?_)
      rcases hcase with h1 | ⟨⟨o1,s1,hμ⟩,ho,_⟩
      ·exact h1.2.2 b' (h.lt _ _ _ _ hx) (fun x=>x)
      ·refine ho b' (h.lt _ _ _ _ hx) ?_
       intro e
       subst e
       rcases h.inj id k _ _ _ _ _ hik hx hμ with h1 | h1
       ·exact hd h1
       ·exact hk h1
  ·intro i j b' o' s' o'' s'' hij hi hj
   have key:∀ i b' o' s',i≠n→(μ.set n (b,o0,s)) i=some (b',o',s')→b'=b→(bC.view H n (.bP k o)) i=.dead:=by
    intro p b1 q1 t1 hpn hx e
    subst e
    simp only[Mu.set,T6 hpn] at hx
    simp only[bC.view,View.set,T6 hpn]
    by_cases hik:p=k
    ·simp[hik]
    ·simp only[T6 hik]
     rcases hcase with h1 | ⟨⟨o1,s1,hμ⟩,_,_⟩
     ·have:=h.lt _ _ _ _ hx; omega
     ·rcases h.inj p k _ _ _ _ _ hik hx hμ with h1 | h1
      ·exact h1
      ·exact absurd h1 hk
   by_cases h1:i=n
   ·have h2:j≠n:=by omega
    right
    have hb':b'=b:=by
     rw[h1,hnew] at hi; simp at hi; exact hi.1.symm
    exact key j b' o'' s'' h2 hj hb'
   ·by_cases h2:j=n
    ·left
     have hb':b'=b:=by
      rw[h2,hnew] at hj; simp at hj; exact hj.1.symm
     exact key i b' o' s' h1 hi hb'
    ·simp only[Mu.set,h1,if_false] at hi
     simp only[Mu.set,h2,if_false] at hj
     simp only[bC.view,View.set,h1,h2,if_false]
     by_cases e1:i=k
     ·left; simp[e1]
     ·by_cases e2:j=k
      ·right; simp[e2]
      ·simp only[e1,e2,if_false]
       exact h.inj i j _ _ _ _ _ hij hi hj
  ·intro id b' o' s' hx hz
   by_cases h1:id=n
   ·rw[h1,hnew] at hx
    simp at hx
    obtain ⟨rfl,_,_⟩:=hx
    rcases hcase with h2 | ⟨⟨o1,s1,hμ⟩,_,_⟩
    ·have:=h.cL _ hz; omega
    ·exact h.gM _ _ _ _ hμ hz
   ·simp only[Mu.set,h1,if_false] at hx
    exact h.gM _ _ _ _ hx hz
theorem uD {Z:Nat→Prop} {μ:Mu} {hp:Array Obj} {v:V} {x:Value} (h:aF Z μ hp v x) (hv:aX v=true):x.oneCell'=true:=by
 cases h with
 | val _ hp'=>cases x <;> first | rfl | (simp[plain] at hp')
 | any x=>simp[aX] at hv
 | agg cs aas h1 h2=>simp[aX] at hv
 | bE cs aas h1 h2=>simp[aX] at hv
 | _=>rfl
theorem gH {Z:Nat→Prop} {μ:Mu} {hp:Array Obj} {v:V} {x:Value} (h:aF Z μ hp v x) (hv:v.cells.all aX=true):fU Z μ hp v.cells x.cells.toList:=by
 have one:∀ v x,aF Z μ hp v x→x.cells = #[x]→fU Z μ hp [v] x.cells.toList:=by
  intro v x h hc
  rw[hc]
  exact ⟨rfl,fun i hi=>by
   simp at hi; subst hi; simpa using h⟩
 cases h with
 | agg cs aas h1 h2 =>
  refine ⟨by simpa [V.cells,Value.cells] using h1,fun i hi=>?_⟩
  have:=h2 i (by simpa [V.cells] using hi)
  simpa [V.cells,Value.cells,List.getD,Ui] using this
 | any x=>simp[V.cells,aX] at hv
 | bE cs aas h1 h2=>simp[V.cells,aX] at hv
 | val _ hp' =>
  refine one _ _ (.val x hp') ?_
  cases x <;> first | rfl | (simp[plain] at hp')
 | emp k a h1 h2=>exact one _ _ (.emp k a h1 h2) rfl
 | dP a cap=>exact one _ _ (.dP a cap) rfl
 | im a cap h1=>exact one _ _ (.im a cap h1) rfl
 | aL es b off esz cap c h1 h2 h3 h4 h5=>exact one _ _ (.aL es b off esz cap c h1 h2 h3 h4 h5) rfl
 | oZ id off esz a=>exact one _ _ (.oZ id off esz a) rfl
 | sl id off len esz b o0 cap c e f h1 h2 h3 h4=>exact one _ _ (.sl id off len esz b o0 cap c e f h1 h2 h3 h4) rfl
 | ptr id i j b o0 esz h1=>exact one _ _ (.ptr id i j b o0 esz h1) rfl
 | aO e j b off c h1 h2 h3=>exact one _ _ (.aO e j b off c h1 h2 h3) rfl
 | mp id b o0 esz h1=>exact one _ _ (.mp id b o0 esz h1) rfl
 | fn f xs ys aas bs h1 h2 h3 h4=>exact one _ _ (.fn f xs ys aas bs h1 h2 h3 h4) rfl
theorem pv {P:Program} {t:TypeId} {i:TypeInfo} (h:P.info? t=some i) (w:World):(typeInfo t).run P w=.ok i w:=by
 simp[typeInfo,h]
theorem dH {P:Program} {t:TypeId} {i:TypeInfo} (h:P.info? t=some i) (w:World):(Go.sizeOf t).run P w=.ok i.size w:=by
 simp[Go.sizeOf,pv h]
theorem bA {P:Program} {t:TypeId} {d:TypeDesc} (h:P.underlying t=some d) (w:World):(underlying t).run P w=.ok d w:=by
 simp[underlying,h]
theorem jA {P:Program} {t:TypeId} {i:TypeInfo} {v:Value} (h:P.info? t=some i) (hv:i.zero=some v) (w:World):(zeroValue t).run P w=.ok v w:=by
 simp[zeroValue,pv h,hv]
theorem s6 {P:Program} {t:TypeId} {b:Bool} (h:rJ P t=some b) (w:World):(isAgg t).run P w=.ok b w:=by
 unfold rJ at h
 cases hu:P.underlying t with
 | none=>simp[hu] at h
 | some d =>
  simp only[hu] at h
  simp only[isAgg,Sem.run_bind,bA hu,Result.andThen_ok]
  cases d <;> simp_all
def Fj (Z:Nat→Prop) (μ:Mu) (hp:Array Obj) (b off:Nat) (cs:List V):Prop :=
 ∀ k,k < cs.length→∃ x,cellAt hp b (off+k)=some x∧aF Z μ hp (cs.getD k .any) x
theorem pQ {α:Type} {P:Program} : ∀ (s:Sem α) {a:α},bG P s=some a→∀ w,s.run P w=.ok a w:=by
 intro s
 induction s with
 | pure a=>intro a' h w; simp[bG] at h; subst h; rfl
 | program k ih=>intro a h w; simp only[bG] at h; simp only[Sem.run]; exact ih P h w
 | _=>intro a h; simp[bG] at h
theorem nX {n:Nat} {p:Nat→Value→Prop} (h:∀ k,k < n→∃ x,p k x):∃ f:Nat→Value,∀ k,k < n→p k (f k):=by
 refine ⟨fun k=>if hk:k < n then Classical.choose (h k hk) else undef,fun k hk=>?_⟩
 simp only[hk,dif_pos]
 exact Classical.choose_spec (h k hk)
theorem jo (b o n:Nat):Addr.add ⟨b,o,none⟩ n=⟨b,o+n,none⟩:=by
 unfold Addr.add; split
 ·rename_i h; subst h; rfl
 ·rfl
theorem tL {Z:Nat→Prop} {μ:Mu} {w:World} {P:Program} {b off j:Nat} {t:TypeId} {cs:List V} {v:V} (h:Fj Z μ w.heap b off cs) (hp:pT P t cs j=some v) :
  ∃ x,(loadVar t ⟨b,off+j,none⟩).run P w=.ok x w∧aF Z μ w.heap v x:=by
 unfold pT at hp
 cases hi:P.info? t with
 | none=>simp[hi] at hp
 | some i =>
  cases ha:rJ P t with
  | none=>simp[hi,ha] at hp
  | some g =>
   simp only[hi,ha] at hp
   cases g with
   | true =>
    simp only at hp
    split at hp
    ·rename_i hle
     simp at hp; subst hp
     have hx:∀ k,k < i.size→∃ x,cellAt w.heap b (off+(j+k))=some x∧aF Z μ w.heap (cs.getD (j+k) .any) x:=fun k hk=>h (j+k) (by omega)
     obtain ⟨f,hf⟩:=nX hx
     refine ⟨.agg ((List.range i.size).map f).toArray,?_,?_⟩
     ·simp only[loadVar,Sem.run_bind,s6 ha,Result.andThen_ok,if_true,dH hi]
      rw[run_loadCells w ⟨b,off+j,none⟩ i.size f (fun k hk=>by rw[jo,nq,VO]; exact (hf k hk).1)]
      rfl
     ·refine .agg _ _ (by simp; omega) (fun k hk=>?_)
      have hk':k < i.size:=by simp at hk; omega
      have:=(hf k hk').2
      simpa [List.getD,hk',Vv,V0,Ui] using this
    ·simp at hp
   | false =>
    simp only at hp
    split at hp
    ·rename_i hle
     simp at hp; subst hp
     obtain ⟨x,hx,hv⟩:=h j hle
     refine ⟨x,?_,by simpa [List.getD] using hv⟩
     simp only[loadVar,Sem.run_bind,s6 ha,Result.andThen_ok,Ut,if_false,run_load,nq,hx]
    ·simp at hp
theorem yc {w:World} {b k:Nat} {v:Value} {c:Array Value} {e:TypeId} {f:Nat × Nat} (h:w.heap[b]?=some (.cells c e f)) :
  w.setCell ⟨b,k,none⟩ v = { w with heap:=w.heap.setIfInBounds b (.cells (c.setIfInBounds k v) e f) }:=by
 unfold World.setCell
 congr 1
 apply Array.ext_getElem?
 intro i
 simp only[Array.getElem?_modify,U5]
 by_cases hi:b=i
 ·subst hi
  have hlt:b < w.heap.size:=by
   rcases Uv b w.heap.size with h' | h'
   ·exact h'
   ·simp[Vr h'] at h
  have hb:w.heap[b]=.cells c e f:=by simpa [Up hlt] using h
  simp[hb,hlt]
 ·simp[hi]
theorem M4 {w:World} {b k:Nat} {c:Array Value} {e:TypeId} {f:Nat × Nat} (h:w.heap[b]?=some (.cells c e f)) (hf:¬ (f.1≤k∧k < f.2)):w.frozen? ⟨b,k,none⟩=false:=by
 simp only[World.frozen?,h]
 simp only[Bool.and_eq_false_iff,Vw]
 omega
theorem p9 {c:Array Value} {f:Nat × Nat} (h:f.1=f.2∨c.size≤f.1):∀ k,k < c.size→¬ (f.1≤k∧k < f.2):=by
 intro k hk; omega
theorem kp {P:Program} {b off:Nat} {e:TypeId} {f:Nat × Nat} : ∀ (xs:List Value) (i:Nat) (c:Array Value) (w:World),
  w.heap[b]?=some (.cells c e f)→(∀ k,k < c.size→¬ (f.1≤k∧k < f.2))→off+i+xs.length≤c.size→(∀ x∈xs,x.oneCell'=true) →
  ∃ c',(storeCells ⟨b,off,none⟩ xs i).run P w=.ok () { w with heap:=w.heap.setIfInBounds b (.cells c' e f) }∧c'.size=c.size ∧
   ∀ k,c'[k]?=if off+i≤k∧k < off+i+xs.length then xs[k - (off+i)]? else c[k]?
 | [],i,c,w,h,_,_,_=>by
  refine ⟨c,?_,rfl,fun k=>?_⟩
  ·simp only[storeCells,Sem.run_pure]
   congr 1
   have:w.heap.setIfInBounds b (.cells c e f)=w.heap:=by
    apply Array.ext_getElem?
    intro k
    simp only[U5]
    split
    ·rename_i hk
     subst hk
     split
     ·exact h.symm
     ·rename_i hn; simp[Vr (Nat.le_of_not_lt hn)]
    ·rfl
   rw[this]
  ·rw[T6 (by simp only[UG]; omega)]
 | x :: xs,i,c,w,h,hf,hs,hx=>by
  simp only[Um] at hs
  have hlt:b < w.heap.size:=by
   rcases Uv b w.heap.size with h' | h'
   ·exact h'
   ·simp[Vr h'] at h
  have hcell:w.cell? ⟨b,off+i,none⟩=some c[off+i]:=by
   rw[nq,cellAt,h]; simp[show off+i < c.size from by omega]
  have hw:(w.setCell ⟨b,off+i,none⟩ x).heap[b]?=some (.cells (c.setIfInBounds (off+i) x) e f):=by
   rw[yc h]; simp[hlt]
  obtain ⟨c',hr,hsz,hc'⟩:=kp (P:=P) (off:=off) (f:=f) xs (i+1) (c.setIfInBounds (off+i) x) (w.setCell ⟨b,off+i,none⟩ x) hw (fun k hk=>hf k (by simpa using hk)) (by simp; omega) (fun y hy=>hx y (Ux _ hy))
  refine ⟨c',?_,by simpa using hsz,fun k=>?_⟩
  ·simp only[storeCells,Sem.run_bind,jo]
   rw[run_store P w _ x _ (hx x V1),hcell]
   simp only[M4 h (hf (off+i) (by omega)),Ut,if_false,Result.andThen_ok]
   rw[hr]
   congr 1
   rw[yc h]
   simp[Array.setIfInBounds_setIfInBounds]
  ·rw[hc']
   simp only[Um]
   by_cases h1:off+i=k
   ·subst h1
    rw[T6 (by omega),T9 (by omega)]
    simp[show off+i < c.size from by omega]
   ·by_cases h2:off+(i+1)≤k∧k < off+(i+1)+xs.length
    ·rw[T9 h2,T9 (by omega)]
     rw[show k - (off+i)=(k - (off+(i+1)))+1 from by omega]
     simp
    ·rw[T6 h2,T6 (by omega)]
     simp[h1]
theorem de (hp:Array Obj) (b:Nat) (o:Obj):fV hp (hp.setIfInBounds b o) (· = b):=by
 intro k _ hk
 simp only[U5]
 rw[T6 (fun e=>hk e.symm)]
theorem iW {hp:Array Obj} {b:Nat} {c c':Array Value} {e:TypeId} {f:Nat × Nat} (h:hp[b]?=some (.cells c e f)) (hs:c'.size=c.size):fC hp (hp.setIfInBounds b (.cells c' e f)):=by
 intro k x e' f' hk
 simp only[U5]
 by_cases hb:b=k
 ·subst hb
  rw[h] at hk
  simp only[T7,Obj.cells.injEq] at hk
  obtain ⟨rfl,rfl,rfl⟩:=hk
  have hlt:b < hp.size:=by
   rcases Uv b hp.size with h' | h'
   ·exact h'
   ·simp[Vr h'] at h
  exact ⟨c',f,by simp[hlt],hs⟩
 ·exact ⟨x,f',by simp[hb,hk],rfl⟩
theorem dX {hp:Array Obj} {b:Nat} {o:Obj} (h:b < hp.size):(hp.setIfInBounds b o)[b]?=some o:=by simp[h]
theorem eQ {hp:Array Obj} {b:Nat} {o:Obj} (h:hp[b]?=some o):b < hp.size:=by
 rcases Uv b hp.size with h' | h'
 ·exact h'
 ·simp[Vr h'] at h
theorem xg (l cs:List V) (j:Nat) (hj:j+cs.length≤l.length):(aa l j cs).length=l.length:=by
 simp only[aa,UX,UN,List.length_drop]; omega
theorem D4 (l cs:List V) (j k:Nat) (hj:j+cs.length≤l.length) (h:j≤k∧k < j+cs.length):(aa l j cs).getD k .any=cs.getD (k - j) .any:=by
 simp only[aa,T0,UL]
 rw[UH (by simp; omega),Us (by simp; omega)]
 congr 2; simp; omega
theorem CG (l cs:List V) (j k:Nat) (hj:j+cs.length≤l.length) (h:¬ (j≤k∧k < j+cs.length)):(aa l j cs).getD k .any=l.getD k .any:=by
 simp only[aa,T0,UL]
 by_cases h1:k < j
 ·rw[Us (by simp; omega)]; simp[h1]
 ·rw[UH (by simp; omega),UH (by simp; omega)]
  simp only[V0,UN]
  congr 2; omega
theorem en.store {Z:Nat→Prop} {μ:Mu} {w:World} {P:Program} {id b o0 s esz i j:Nat} {es:List (List V)} {cs:List V} {xs:List Value}
  (hor:en Z μ w.heap id (.arr esz es)) (hμ:μ id=some (b,o0,s)) (hz:¬ Z b) (cL:∀ b,Z b→b < w.heap.size) (hi:i < es.length) (hj:j+cs.length≤esz) (hr:fU Z μ w.heap cs xs) (hone:∀ x∈xs,x.oneCell'=true) :
  ∃ w',(storeCells ⟨b,o0+i * esz+j,none⟩ xs).run P w=.ok () w'∧eE w w'∧fV w.heap w'.heap (· = b)∧fC w.heap w'.heap ∧
   en Z μ w'.heap id (.arr esz (es.set i (aa (es.getD i []) j cs))):=by
 obtain ⟨rfl,⟨c,e,f,hc,hf,hs⟩,hlen,hcells⟩:=hor b o0 s hμ
 have hmul:(i+1) * s≤es.length * s:=UJ _ hi
 have hmul':(i+1) * s=i * s+s:=by rw[US]; omega
 have hb:=eQ hc
 obtain ⟨c',hrun,hsz,hc'⟩:=kp (P:=P) (b:=b) (off:=o0+i * s+j) (e:=e) (f:=f) xs 0 c w hc (p9 hf) (by rw[← hr.1]; omega) hone
 have hm:gR Z Z μ μ w.heap (w.heap.setIfInBounds b (.cells c' e f)) :=
  ⟨fun _ h=>h,fun k hk=>de w.heap b _ k (cL k hk) (fun e=>hz (e ▸ hk)),fun _ _ h=>h,iW hc hsz⟩
 refine ⟨_,hrun,⟨rfl,rfl,rfl,by simp⟩,de _ _ _,iW hc hsz,?_⟩
 intro b' o' s' hx
 rw[hμ] at hx
 simp only[T7,Ua] at hx
 obtain ⟨rfl,rfl,rfl⟩:=hx
 have hl:(aa (es.getD i []) j cs).length=s:=by
  have:=hlen i hi
  rw[xg _ _ _ (by omega),this]
 have hset:∀ i',(es.set i (aa (es.getD i []) j cs)).getD i' []=if i'=i then aa (es.getD i []) j cs else es.getD i' []:=by
  intro i'
  simp only[T0,Vm]
  by_cases h1:i=i'
  ·subst h1; simp[hi]
  ·rw[T6 h1,T6 (fun e=>h1 e.symm)]
 refine ⟨rfl,⟨c',e,f,by simp[hb],by rw[hsz]; exact hf,by simpa [hsz] using hs⟩,?_,?_⟩
 ·intro i' hi'
  rw[hset]
  split
  ·exact hl
  ·exact hlen i' (by simpa using hi')
 ·intro i' j' hi' hj'
  have hi'':i' < es.length:=by simpa using hi'
  have hmul2:(i'+1) * s≤es.length * s:=UJ _ hi''
  have hmul2':(i'+1) * s=i' * s+s:=by rw[US]; omega
  have hcell:cellAt (w.heap.setIfInBounds b (.cells c' e f)) b (o0+i' * s+j')=c'[o0+i' * s+j']?:=by simp[cellAt,hb]
  have hcellold:cellAt w.heap b (o0+i' * s+j')=c[o0+i' * s+j']?:=by simp[cellAt,hc]
  show ∃ x,cellAt (w.heap.setIfInBounds b (.cells c' e f)) b (o0+i' * s+j')=some x∧_
  rw[hcell,hc',hset]
  by_cases hii:i'=i
  ·subst hii
   rw[T9 rfl]
   by_cases hin:j≤j'∧j' < j+cs.length
   ·have hk:j' - j < cs.length:=by omega
    have hk':j' - j < xs.length:=hr.1 ▸ hk
    rw[T9 (by rw[← hr.1]; omega),show o0+i' * s+j' - (o0+i' * s+j+0)=j' - j from by omega]
    refine ⟨xs[j' - j],by simp[hk'],?_⟩
    have:=(hr.2 (j' - j) hk).mono hm
    simp only[T0,T4 hk',T4 hk,Un] at this
    have hl1:=hlen i' hi''
    rw[D4 _ _ _ _ (by omega) hin]
    simpa [T0,hk] using this
   ·rw[T6 (by rw[← hr.1]; omega)]
    obtain ⟨x,hx,hv⟩:=hcells i' j' hi'' hj'
    rw[hcellold] at hx
    refine ⟨x,hx,?_⟩
    have hl1:=hlen i' hi''
    rw[CG _ _ _ _ (by omega) hin]
    exact hv.mono hm
  ·rw[T6 hii]
   have:¬ (o0+i * s+j+0≤o0+i' * s+j'∧o0+i' * s+j' < o0+i * s+j+0+xs.length):=by
    rw[← hr.1]
    rcases Nat.lt_or_gt_of_ne hii with h1 | h1
    ·have:(i'+1) * s≤i * s:=UJ _ h1
     omega
    ·have:(i+1) * s≤i' * s:=UJ _ h1
     omega
   rw[T6 this]
   obtain ⟨x,hx,hv⟩:=hcells i' j' hi'' hj'
   rw[hcellold] at hx
   exact ⟨x,hx,hv.mono hm⟩
theorem en.newRow {Z:Nat→Prop} {μ:Mu} {hp:Array Obj} {n esz:Nat} {es:List (List V)} {c:Array Value} {e:TypeId}
  (hn:μ n=none) (cL:∀ b,Z b→b < hp.size) (hs:es.length * esz≤c.size) (hlen:∀ i,i < es.length→(es.getD i []).length=esz)
  (h:∀ i j,i < es.length→j < esz→∃ x,c[i * esz+j]?=some x∧aF Z μ hp ((es.getD i []).getD j .any) x) :
  en Z (μ.set n (hp.size,0,esz)) (hp.push (.cells c e (0,0))) n (.arr esz es):=by
 intro b o0 s hx
 simp only[Mu.set,if_true,T7,Ua] at hx
 obtain ⟨rfl,rfl,rfl⟩:=hx
 have hm:gR Z Z μ (μ.set n (hp.size,0,esz)) hp (hp.push (.cells c e (0,0))):=by
  refine ⟨fun _ h=>h,fun b hb=>?_,fun id x hx=>?_,?_⟩
  ·have:=cL b hb
   rw[VI,T6 (by omega)]
  ·by_cases hid:id=n
   ·subst hid; simp[hn] at hx
   ·simp[Mu.set,hid,hx]
  ·intro b c' e' f' hb
   have:=eQ hb
   exact ⟨c',_,by rw[VI,T6 (by omega)]; exact hb,rfl⟩
 refine ⟨rfl,⟨c,e,(0,0),by simp,.inl rfl,by simpa using hs⟩,hlen,fun i j hi hj=>?_⟩
 obtain ⟨x,hx,hv⟩:=h i j hi hj
 exact ⟨x,by simp[cellAt,hx],hv.mono hm⟩
theorem eF (hp:Array Obj) (o:Obj):fV hp (hp.push o) (fun _=>False):=by
 intro k hk _
 rw[VI,T6 (by omega)]
structure Ctx (Z:Nat→Prop) (μ:Mu) (hp:Array Obj) (H:View) (rd:List Nat) (n:Nat) (eff:bC):Prop where
 new:eff.fresh (μ n=none)
 obj:∀ id,id∈rd→en Z μ hp id (H id)
 lt:∀ id b o s,μ id=some (b,o,s)→b < hp.size
 cL:∀ b,Z b→b < hp.size
 gM:∀ id b o s,μ id=some (b,o,s)→¬ Z b
def bk (Z:Nat→Prop) (μ:Mu) (w:World) (n:Nat) (v:V) (eff:bC) (r:Result Next):Prop :=
 ∃ nx w' μ',r=.ok nx w'∧((∃ x,nx=.value x∧aF Z μ' w'.heap v x)∨(nx=.skip∧v=.any))∧eE w w'∧mh Z μ μ' w.heap w'.heap n eff
section
variable {Z:Nat→Prop} {μ μ':Mu} {w w':World} {P:Program} {H:View} {n:Nat} {v:V} {eff:bC} {rd:List Nat}
theorem iJ:mh Z μ μ w.heap w.heap n .none:=⟨rfl,fun _ _ _=>rfl⟩
theorem bk.value {s:Sem Value} {x:Value} (hr:s.run P w=.ok x w') (hv:aF Z μ' w'.heap v x) (hs:eE w w') (he:mh Z μ μ' w.heap w'.heap n eff) :
  bk Z μ w n v eff ((do pure (Next.value (← s)):Sem Next).run P w) :=
 ⟨.value x,w',μ',by simp[hr],.inl ⟨x,rfl,hv⟩,hs,he⟩
theorem bk.here {s:Sem Value} {x:Value} (hr:s.run P w=.ok x w) (hv:aF Z μ w.heap v x):bk Z μ w n v .none ((do pure (Next.value (← s)):Sem Next).run P w) :=
 bk.value hr hv (eE.refl w) iJ
theorem bk.skip {s:Sem Unit} (hr:s.run P w=.ok () w') (hs:eE w w') (he:mh Z μ μ' w.heap w'.heap n eff) :
  bk Z μ w n .any eff ((do s; pure Next.skip:Sem Next).run P w) :=
 ⟨.skip,w',μ',by simp[hr],.inr ⟨rfl,rfl⟩,hs,he⟩
theorem vH (x:Value):aF Z μ w.heap (om x) x:=by
 cases x with
 | slice a len cap =>
  cases a with
  | none =>
   cases len with
   | zero=>cases cap with
    | zero=>exact .emp 1 none (fun _=>rfl) (fun h=>by simp at h)
    | succ c=>exact .any _
   | succ l=>exact .any _
  | some a=>exact .any _
 | _ =>
  simp only[om]
  split
  ·rename_i h; exact .val _ h
  ·exact .any _
theorem gE (x:Value):aF Z μ w.heap (fi x) x:=by
 cases x with
 | agg cs =>
  refine .agg _ _ (by simp) (fun i hi=>?_)
  have hi':i < cs.size:=by simpa using hi
  simp only[T0,Ui]
  simpa [hi'] using vH cs[i]
 | func fn a b =>
  cases fn with
  | func f =>
   simp only[fi]
   split
   ·rename_i h
    exact .fn _ _ _ _ _ h.1.symm h.2.symm (fun i hi=>by simp at hi) (fun i hi=>by simp at hi)
   ·exact .any _
  | _=>simp only[fi]; exact vH _
 | _=>simp only[fi]; exact vH _
theorem heap_alloc (w:World) (o:Obj):(w.alloc o).heap=w.heap.push o:=rfl
theorem iV (w:World) (o:Obj):eE w (w.alloc o):=⟨rfl,rfl,rfl,by rw[heap_alloc]; simp⟩
theorem qz {v:V} {x y:Value} (h:aF Z μ w.heap v x) (hv:dh v=some y):y=x:=by
 have hcells:∀ (cs:List V) (l:List Value),uT cs=some l→∀ (xs:List Value),cs.length=xs.length→(∀ i,i < cs.length→aF Z μ w.heap (cs.getD i .any) (xs.getD i undef))→l=xs:=by
  intro cs
  induction cs with
  | nil=>intro l hl xs hx _; simp[uT] at hl; subst hl; cases xs <;> simp_all
  | cons c r ih =>
   intro l hl xs hx hr
   cases xs with
   | nil=>simp at hx
   | cons x xs =>
    simp only[uT] at hl
    split at hl
    ·rename_i a b ha hb
     simp at hl; subst hl
     have h0:=hr 0 (by simp)
     have:=ih b hb xs (by simpa using hx) (fun i hi=>by simpa using hr (i+1) (by simpa using hi))
     subst this
     simp only[Ve] at h0
     cases c <;> simp[toCell] at ha
     subst ha
     cases h0; rfl
    ·simp at hl
 cases v with
 | val a=>simp[dh] at hv; subst hv; cases h; rfl
 | agg cs =>
  simp only[dh,Uf] at hv
  obtain ⟨l,hl,rfl⟩:=hv
  cases h with
  | agg _ aas h1 h2 =>
   have:=hcells cs l hl aas.toList (by simpa using h1) (fun i hi=>by simpa [T0,Ui] using h2 i hi)
   subst this; simp
 | _=>simp[dh] at hv
theorem nu {id i j:Nat} {x:Value} (h:aF Z μ w.heap (.ptr id i j) x):∃ b o0 esz,μ id=some (b,o0,esz)∧x=.pointer (some ⟨b,o0+i * esz+j,none⟩):=by
 cases h with | ptr _ _ _ b o0 esz hm=>exact ⟨b,o0,esz,hm,rfl⟩
theorem si {e:List V} {j:Nat} {x:Value} (h:aF Z μ w.heap (.aO e j) x):∃ b off,Z b∧Fj Z μ w.heap b off e∧x=.pointer (some ⟨b,off+j,none⟩):=by
 cases h with | aO _ _ b off c hz h1 h2=>exact ⟨b,off,hz,fun k hk=>⟨c k,h1 k hk,h2 k hk⟩,rfl⟩
theorem zp {e:List V} {j b off:Nat} (hz:Z b) (h:Fj Z μ w.heap b off e):aF Z μ w.heap (.aO e j) (.pointer (some ⟨b,off+j,none⟩)):=by
 obtain ⟨f,hf⟩:=nX h
 exact .aO e j b off f hz (fun k hk=>(hf k hk).1) (fun k hk=>(hf k hk).2)
theorem rowOf {id i b o0 s esz:Nat} {es:List (List V)} (hor:en Z μ w.heap id (.arr esz es)) (hμ:μ id=some (b,o0,s)) (hi:i < es.length) :
  s=esz∧Fj Z μ w.heap b (o0+i * s) (es.getD i []):=by
 obtain ⟨rfl,_,h3,h4⟩:=hor b o0 s hμ
 refine ⟨rfl,fun k hk=>?_⟩
 rw[h3 i hi] at hk
 exact h4 i k hi hk
theorem Ov {t:TypeId} {a:V} {x:Value} (h:mg P t a H=some (v,eff,rd)) (hx:aF Z μ w.heap a x) (c:Ctx Z μ w.heap H rd n eff) :
  bk Z μ w n v eff ((do pure (Next.value (← Instr.loadAt t x)):Sem Next).run P w):=by
 unfold mg at h
 split at h
 ·rename_i id i j
  obtain ⟨b,o0,esz,hm,rfl⟩:=nu hx
  split at h
  ·rename_i e es hH
   split at h
   ·rename_i hi
    simp only[Uf] at h
    obtain ⟨v',hv',h⟩:=h
    simp only[Ua] at h
    obtain ⟨rfl,rfl,rfl⟩:=h
    have hor:=c.obj id (by simp)
    rw[hH] at hor
    obtain ⟨y,hy,hv⟩:=tL (P:=P) (rowOf hor hm hi).2 hv'
    exact bk.here (by simp[Instr.loadAt,Instr.sureAddr,hy]) hv
   ·simp at h
  ·simp at h
 ·obtain ⟨b,off,hz,hrow,rfl⟩:=si hx
  simp only[Uf] at h
  obtain ⟨v',hv',h⟩:=h
  simp only[Ua] at h
  obtain ⟨rfl,rfl,rfl⟩:=h
  obtain ⟨y,hy,hv⟩:=tL (P:=P) hrow hv'
  exact bk.here (by simp[Instr.loadAt,Instr.sureAddr,hy]) hv
 ·simp at h
theorem wg {t:TypeId} {i:TypeInfo} (h:P.info? t=some i):P.cellsOf t=i.size:=by simp[Program.cellsOf,h]
theorem QH {cs:List V} {xs:List Value} (h:fU Z μ w.heap cs xs) (hc:cs.all aX=true):∀ x∈xs,x.oneCell'=true:=by
 intro x hx
 obtain ⟨i,hi,rfl⟩:=List.getElem_of_mem hx
 have hi':i < cs.length:=h.1 ▸ hi
 have:=h.2 i hi'
 simp only[T0,T4 hi,T4 hi',Un] at this
 exact uD this (UE.1 hc _ (Ud _))
theorem LX {t:TypeId} {a b:V} {x y:Value} (h:qq P t a b H=some (v,eff,rd)) (hx:aF Z μ w.heap a x) (hy:aF Z μ w.heap b y) (c:Ctx Z μ w.heap H rd n eff) :
  bk Z μ w n v eff ((do Instr.storeAt t x y; pure Next.skip:Sem Next).run P w):=by
 unfold qq at h
 split at h
 ·rename_i id i j
  obtain ⟨bl,o0,s,hm,rfl⟩:=nu hx
  split at h
  ·rename_i esz es hH
   split at h
   ·rename_i hc
    obtain ⟨hi,hlen,hj,hok,hinfo⟩:=hc
    simp only[T7,Ua] at h
    obtain ⟨rfl,rfl,rfl⟩:=h
    have hor:=c.obj id (by simp)
    rw[hH] at hor
    have hs:=(hor bl o0 s hm).1
    subst hs
    have hr:=gH hy hok
    obtain ⟨w',h1,h2,h3,h4,h5⟩:=hor.store (P:=P) hm (c.gM _ _ _ _ hm) c.cL hi hj hr (QH hr hok)
    obtain ⟨ti,hti⟩:=Option.isSome_iff_exists.1 hinfo
    refine bk.skip ?_ h2 ⟨bl,o0,s,hm,rfl,h3,h4,h5⟩
    have:y.cells.size=ti.size:=by rw[← wg hti,← hlen,hr.1]; simp
    simp[Instr.storeAt,Instr.sureAddr,storeVar,dH hti,this,h1]
   ·simp at h
  ·simp at h
 ·simp at h
theorem JM {cs:List V} {x:Value} {t:TypeId} (h:lG cs n=some (v,eff,rd)) (hr:cs.all aX=true→fU Z μ w.heap cs x.cells.toList) (c:Ctx Z μ w.heap H rd n eff) :
  bk Z μ w n v eff ((do pure (Next.value (.pointer (some (← newVar t x)))):Sem Next).run P w):=by
 unfold lG at h
 split at h
 ·rename_i hok
  simp only[T7,Ua] at h
  obtain ⟨rfl,rfl,rfl⟩:=h
  have hr:=hr hok
  refine ⟨.value (.pointer (some ⟨w.heap.size,0,none⟩)),w.alloc (.cells x.cells t),μ.set n (w.heap.size,0,cs.length),by simp[newVar,newRow],.inl ⟨_,rfl,?_⟩,iV _ _,?_⟩
  ·have:=aF.ptr (Z:=Z) (μ:=μ.set n (w.heap.size,0,cs.length)) (hp:=(w.alloc (.cells x.cells t)).heap) n 0 0 w.heap.size 0 cs.length (by simp[Mu.set])
   simpa using this
  ·refine ⟨w.heap.size,0,cs.length,Ug _,by rw[heap_alloc]; simp,rfl,eF _ _,?_⟩
   refine en.newRow c.new c.cL (by rw[hr.1]; simp) (fun i hi=>by simp at hi; subst hi; simp) (fun i j hi hj=>?_)
   simp at hi; subst hi
   have hj':j < x.cells.size:=by have:=hr.1; simp at this; omega
   refine ⟨x.cells[j],by simp[hj'],?_⟩
   have:=hr.2 j hj
   simpa [T0,hj'] using this
 ·simp at h
theorem uu {t:TypeId} {f off s:Nat} {ft:TypeId} (h:po P t f=some (off,s,ft)) :
  ∃ fs x i,P.underlying t=some (.struct fs)∧fs[f]?=some x∧P.info? x.type=some i∧off=x.offset∧s=i.size∧ft=x.type:=by
 unfold po at h
 split at h
 ·rename_i fs hu
  split at h
  ·rename_i x hx
   split at h
   ·rename_i i hi
    simp only[T7,Ua] at h
    exact ⟨fs,x,i,hu,hx,hi,h.1.symm,h.2.1.symm,h.2.2.symm⟩
   ·simp at h
  ·simp at h
 ·simp at h
theorem Fb {t:TypeId} {a:V} {x:Value} {f:Nat} (h:kV P t a f=some (v,eff,rd)) (hx:aF Z μ w.heap a x) :
  bk Z μ w n v eff ((do pure (Next.value (← Instr.fieldAt t x f)):Sem Next).run P w):=by
 unfold kV at h
 split at h
 ·rename_i off s ft hpl
  obtain ⟨fs,fd,i,hu,hfd,hi,rfl,rfl,rfl⟩:=uu hpl
  split at h
  ·simp at h
  ·rename_i hs
   have hrun:∀ b o,(Instr.fieldAt t (.pointer (some ⟨b,o,none⟩)) f).run P w=.ok (.pointer (some ⟨b,o+fd.offset,none⟩)) w:=by
    intro b o
    simp[Instr.fieldAt,bA hu,hfd,Instr.sureAddr,fieldPlace,dH hi,hs,jo]
   split at h
   ·rename_i id i' j
    obtain ⟨b,o0,esz,hm,rfl⟩:=nu hx
    simp only[T7,Ua] at h
    obtain ⟨rfl,rfl,rfl⟩:=h
    refine bk.here (hrun _ _) ?_
    have:=aF.ptr (Z:=Z) (μ:=μ) (hp:=w.heap) id i' (j+fd.offset) b o0 esz hm
    simpa [VO] using this
   ·rename_i e j
    obtain ⟨b,off,hz,hrow,rfl⟩:=si hx
    simp only[T7,Ua] at h
    obtain ⟨rfl,rfl,rfl⟩:=h
    refine bk.here (hrun _ _) ?_
    have:=zp (w:=w) (j:=j+fd.offset) hz hrow
    simpa [VO] using this
   ·simp at h
 ·simp at h
theorem Qw {t:TypeId} {cs:List V} {aas:Array Value} {off:Nat} (h:pT P t cs off=some v) (h1:cs.length=aas.size) (h2:∀ i,i < cs.length→aF Z μ w.heap (cs.getD i .any) (aas.getD i undef)) :
  ∃ x,(part t aas off).run P w=.ok x w∧aF Z μ w.heap v x:=by
 unfold pT at h
 cases hi:P.info? t with
 | none=>simp[hi] at h
 | some i =>
  cases ha:rJ P t with
  | none=>simp[hi,ha] at h
  | some g =>
   simp only[hi,ha] at h
   cases g with
   | true =>
    simp only at h
    split at h
    ·rename_i hle
     simp at h; subst h
     refine ⟨.agg (aas.extract off (off+i.size)),by simp[part,s6 ha,dH hi],?_⟩
     refine .agg _ _ (by simp; omega) (fun k hk=>?_)
     have hk':k < i.size:=by simp at hk; omega
     have:=h2 (off+k) (by omega)
     simp only[T0,Ui,Vv,V0,hk',if_true,Array.getElem?_extract] at this ⊢
     rw[T9 (by omega)]
     exact this
    ·simp at h
   | false =>
    simp only at h
    split at h
    ·rename_i hle
     simp at h; subst h
     have:=h2 off hle
     have hlt:off < aas.size:=h1 ▸ hle
     refine ⟨aas[off],by simp[part,s6 ha,hlt],?_⟩
     simpa [T0,Ui,hlt] using this
    ·simp at h
theorem LF {t:TypeId} {a:V} {x:Value} {f:Nat} (h:vp P t a f=some (v,eff,rd)) (hx:aF Z μ w.heap a x) :
  bk Z μ w n v eff ((do pure (Next.value (← Instr.field t x f)):Sem Next).run P w):=by
 unfold vp at h
 split at h
 ·rename_i off s ft cs hpl
  obtain ⟨fs,fd,i,hu,hfd,hi,rfl,rfl,rfl⟩:=uu hpl
  simp only[Uf] at h
  obtain ⟨v',hv',h⟩:=h
  simp only[Ua] at h
  obtain ⟨rfl,rfl,rfl⟩:=h
  cases hx with
  | agg _ aas h1 h2 =>
   obtain ⟨y,hy,hv⟩:=Qw (P:=P) hv' h1 h2
   exact bk.here (by simp[Instr.field,bA hu,hfd,asAgg,hy]) hv
 ·simp at h
theorem kr {a:V} {q:Nat} (h:asNat a=some q):∃ k,a=.val (.int k q):=by
 unfold asNat at h
 split at h
 ·rename_i k z
  split at h
  ·simp at h
   exact ⟨k,by rw[← h]; congr 2; omega⟩
  ·simp at h
 ·simp at h
theorem eT {y x:Value} (h:aF Z μ w.heap (.val y) x):x=y:=by cases h; rfl
theorem Fi {t:TypeId} {a i:V} {x y:Value} (h:kT P t a i=some (v,eff,rd)) (hx:aF Z μ w.heap a x) (hy:aF Z μ w.heap i y) :
  bk Z μ w n v eff ((do pure (Next.value (← Instr.indexAt t x y)):Sem Next).run P w):=by
 unfold kT at h
 split at h
 ·simp at h
 ·rename_i q hq
  obtain ⟨k,rfl⟩:=kr hq
  have hy:=eT hy
  subst hy
  split at h
  ·rename_i e hu
   split at h
   ·simp at h
   ·rename_i ti hti
    split at h
    ·rename_i id off len esz
     split at h
     ·rename_i hc
      obtain ⟨hlt,rfl⟩:=hc
      simp only[T7,Ua] at h
      obtain ⟨rfl,rfl,rfl⟩:=h
      cases hx with
      | oZ=>omega
      | sl _ _ _ _ b o0 cap c e' f hm hle hb hs =>
       refine bk.here (x:=.pointer (some ⟨b,o0+off * ti.size+q * ti.size,none⟩)) ?_ ?_
       ·simp[Instr.indexAt,asIntOf,bA hu,dH hti,jo,hlt]
       ·have:=aF.ptr (Z:=Z) (μ:=μ) (hp:=w.heap) id (off+q) 0 b o0 ti.size hm
        simpa [US,VO] using this
     ·simp at h
    ·rename_i es
     split at h
     ·rename_i hc
      obtain ⟨hlt,hsz⟩:=hc
      simp only[T7,Ua] at h
      obtain ⟨rfl,rfl,rfl⟩:=h
      cases hx with
      | im=>simp at hlt
      | aL _ b off esz cap c hz hle hes hc hv =>
       have hesz:esz=ti.size:=(hes q hlt).symm.trans hsz
       subst hesz
       refine bk.here (x:=.pointer (some ⟨b,off+q * ti.size+0,none⟩)) ?_ ?_
       ·simp[Instr.indexAt,asIntOf,bA hu,dH hti,jo,hlt]
       ·exact zp hz (fun k hk=>⟨c q k,hc q k hlt (by rw[hes q hlt] at hk; exact hk),hv q k hlt (by rw[hes q hlt] at hk; exact hk)⟩)
     ·simp at h
    ·simp at h
  ·rename_i len e hu
   split at h
   ·simp at h
   ·rename_i ti hti
    split at h
    ·rename_i hlt
     split at h
     ·rename_i id i' j
      obtain ⟨b,o0,esz,hm,rfl⟩:=nu hx
      simp only[T7,Ua] at h
      obtain ⟨rfl,rfl,rfl⟩:=h
      refine bk.here (x:=.pointer (some ⟨b,o0+i' * esz+j+q * ti.size,none⟩)) ?_ ?_
      ·simp[Instr.indexAt,Instr.sureAddr,asIntOf,bA hu,dH hti,jo,hlt]
      ·have:=aF.ptr (Z:=Z) (μ:=μ) (hp:=w.heap) id i' (j+q * ti.size) b o0 esz hm
       simpa [VO] using this
     ·rename_i e' j
      obtain ⟨b,off,hz,hrow,rfl⟩:=si hx
      simp only[T7,Ua] at h
      obtain ⟨rfl,rfl,rfl⟩:=h
      refine bk.here (x:=.pointer (some ⟨b,off+j+q * ti.size,none⟩)) ?_ ?_
      ·simp[Instr.indexAt,Instr.sureAddr,asIntOf,bA hu,dH hti,jo,hlt]
      ·have:=zp (w:=w) (j:=j+q * ti.size) hz hrow
       simpa [VO] using this
     ·simp at h
    ·simp at h
  ·simp at h
end
section
variable {Z:Nat→Prop} {μ μ':Mu} {w w':World} {P:Program} {H:View} {n:Nat} {v:V} {eff:bC} {rd:List Nat}
def yw (Z:Nat→Prop) (μ:Mu) (hp:Array Obj):Option V→Option Value→Prop
 | none,none=>True
 | some v,some x=>aF Z μ hp v x
 | _,_=>False
theorem fN {o:Option V} {o':Option Value} {d q:Nat} (h:bound d o=some q) (ho:yw Z μ w.heap o o'):(o'=none∧q=d)∨∃ k,o'=some (.int k q):=by
 cases o with
 | none=>cases o' with
  | none=>simp[bound] at h; exact .inl ⟨rfl,h.symm⟩
  | some x=>exact ho.elim
 | some v=>cases o' with
  | none=>exact ho.elim
  | some x =>
   obtain ⟨k,rfl⟩:=kr h
   exact .inr ⟨k,by rw[eT ho]⟩
theorem dS {a:V} {x:Value} {m:Nat} (h:aF Z μ w.heap a x) (hm:cG a=some m):∃ ad cap,x=.slice ad m cap∧m≤cap:=by
 cases h with
 | emp k a=>simp[cG] at hm; subst hm; exact ⟨_,_,rfl,Ug _⟩
 | dP a cap=>simp[cG] at hm; subst hm; exact ⟨_,_,rfl,Vu _⟩
 | im a cap=>simp[cG] at hm; subst hm; exact ⟨_,_,rfl,Vu _⟩
 | aL es b off esz cap c hz hle hes hc hv=>simp[cG] at hm; subst hm; exact ⟨_,_,rfl,hle⟩
 | oZ id off esz a=>simp[cG] at hm; subst hm; exact ⟨_,_,rfl,Ug _⟩
 | sl id off len esz b o0 cap c e f hm' hle hb hs=>simp[cG] at hm; subst hm; exact ⟨_,_,rfl,hle⟩
 | _=>simp[cG] at hm
theorem nC {len cap l h:Nat} {lo hi:Option Value} (hl:(lo=none∧l=0)∨∃ k,lo=some (.int k l)) (hh:(hi=none∧h=len)∨∃ k,hi=some (.int k h)) (h1:l≤h) (h2:h≤cap) :
  (Instr.sliceBounds true len cap lo hi none).run P w=.ok (l,h,cap) w:=by
 rcases hl with ⟨rfl,rfl⟩ | ⟨k,rfl⟩ <;> rcases hh with ⟨rfl,rfl⟩ | ⟨k',rfl⟩ <;> simp[Instr.sliceBounds,Instr.sliceBound,asIntOf,h1,h2]
theorem Oj {t:TypeId} {a:V} {x:Value} {lo hi mx:Option V} {lo' hi' mx':Option Value} (h:rY P t a lo hi mx=some (v,eff,rd)) (hx:aF Z μ w.heap a x)
  (hlo:yw Z μ w.heap lo lo') (hhi:yw Z μ w.heap hi hi') (hmx:yw Z μ w.heap mx mx') :
  bk Z μ w n v eff ((do pure (Next.value (← Instr.sliceAt t x lo' hi' mx')):Sem Next).run P w):=by
 unfold rY at h
 cases hu:cW P t with
 | none=>simp[hu] at h
 | some e =>
  have hund:P.underlying t=some (.slice e):=by
   unfold cW at hu; split at hu <;> simp_all
  cases hti:P.info? e with
  | none=>simp[hu,hti] at h
  | some ti =>
   simp only[hu,hti] at h
   have hrun:∀ ad len cap l hh m,(Instr.sliceBounds true len cap lo' hi' mx').run P w=.ok (l,hh,m) w →
     (Instr.sliceAt t (.slice ad len cap) lo' hi' mx').run P w=.ok (.slice (if m=l then ad else ad.map (·.add (l * ti.size))) (hh - l) (m - l)) w:=by
    intro ad len cap l hh m hb
    simp[Instr.sliceAt,Instr.slice,bA hund,hb,dH hti]
   cases mx with
   | some m =>
    cases mx' with
    | none=>exact hmx.elim
    | some m' =>
     simp only at h
     split at h
     ·rename_i hb1 hb2 hb3
      split at h
      ·simp at h
      ·rename_i hhn
       obtain ⟨k3,rfl⟩:=kr hb3
       have hm':=eT hmx
       subst hm'
       have hbnd:∀ len cap,(Instr.sliceBounds true len cap lo' hi' (some (.int k3 ((0:Nat):Int)))).run P w=.ok (0,0,0) w:=by
        intro len cap
        rcases fN hb1 hlo with ⟨rfl,_⟩ | ⟨k,rfl⟩ <;> rcases fN hb2 hhi with ⟨rfl,_⟩ | ⟨k',rfl⟩
        ·cases hi with
         | none=>simp at hhn
         | some _=>exact hhi.elim
        ·simp[Instr.sliceBounds,Instr.sliceBound,asIntOf]
        ·cases hi with
         | none=>simp at hhn
         | some _=>exact hhi.elim
        ·simp[Instr.sliceBounds,Instr.sliceBound,asIntOf]
       have fin:∀ ad len cap,aF Z μ w.heap a (.slice ad len cap)→x=.slice ad len cap→bk Z μ w n (.emp 0) .none ((do pure (Next.value (← Instr.sliceAt t x lo' hi' (some (.int k3 ((0:Nat):Int))))):Sem Next).run P w):=by
        intro ad len cap _ hxe
        subst hxe
        refine bk.here (hrun ad len cap 0 0 0 (hbnd len cap)) ?_
        simpa using aF.emp (Z:=Z) (μ:=μ) (hp:=w.heap) 0 ad (by simp) (by simp)
       split at h
       ·simp only[T7,Ua] at h
        obtain ⟨rfl,rfl,rfl⟩:=h
        obtain ⟨ad,cap,hxe,_⟩:=dS hx rfl
        exact fin _ _ _ (hxe ▸ hx) hxe
       ·simp only[T7,Ua] at h
        obtain ⟨rfl,rfl,rfl⟩:=h
        obtain ⟨ad,cap,hxe,_⟩:=dS hx rfl
        exact fin _ _ _ (hxe ▸ hx) hxe
       ·simp only[T7,Ua] at h
        obtain ⟨rfl,rfl,rfl⟩:=h
        obtain ⟨ad,cap,hxe,_⟩:=dS hx rfl
        exact fin _ _ _ (hxe ▸ hx) hxe
       ·simp only[T7,Ua] at h
        obtain ⟨rfl,rfl,rfl⟩:=h
        obtain ⟨ad,cap,hxe,_⟩:=dS hx rfl
        exact fin _ _ _ (hxe ▸ hx) hxe
       ·simp at h
     ·simp at h
   | none =>
    cases mx' with
    | some _=>exact hmx.elim
    | none =>
     simp only at h
     split at h
     ·rename_i id off len esz
      split at h
      ·rename_i l hh hb1 hb2
       split at h
       ·rename_i hc
        obtain ⟨h1,h2,rfl⟩:=hc
        simp only[T7,Ua] at h
        obtain ⟨rfl,rfl,rfl⟩:=h
        cases hx with
        | oZ _ _ _ ad =>
         obtain rfl:l=0:=by omega
         obtain rfl:hh=0:=by omega
         refine bk.here (hrun ad 0 0 0 0 0 (nC (fN hb1 hlo) (fN hb2 hhi) (by omega) (by omega))) ?_
         simpa using aF.oZ (Z:=Z) (μ:=μ) (hp:=w.heap) id (off+0) ti.size ad
        | sl _ _ _ _ b o0 cap c e' f hm hle hb hs =>
         refine bk.here (hrun _ len cap l hh cap (nC (fN hb1 hlo) (fN hb2 hhi) h1 (by omega))) ?_
         by_cases hcl:cap=l
         ·have e1:hh - l=0:=by omega
          have e2:cap - l=0:=by omega
          rw[T9 hcl,e1,e2]
          exact aF.oZ _ _ _ _
         ·rw[T6 hcl]
          simp only[Ue,jo]
          have:=aF.sl (Z:=Z) (μ:=μ) (hp:=w.heap) id (off+l) (hh - l) ti.size b o0 (cap - l) c e' f hm (by omega) hb (by rw[show off+l+(cap - l)=off+cap from by omega]; exact hs)
          simpa [US,VO] using this
       ·simp at h
      ·simp at h
     ·rename_i es
      split at h
      ·rename_i l hh hb1 hb2
       split at h
       ·rename_i hc
        obtain ⟨h1,h2,hall⟩:=hc
        simp only[T7,Ua] at h
        obtain ⟨rfl,rfl,rfl⟩:=h
        cases hx with
        | im ad cap hcn =>
         simp at h2
         obtain rfl:hh=0:=by omega
         obtain rfl:l=0:=by omega
         refine bk.here (hrun ad 0 cap 0 0 cap (nC (fN hb1 hlo) (fN hb2 hhi) (by omega) (by omega))) ?_
         refine aF.im _ _ (fun hn=>?_)
         by_cases hc0:cap=0
         ·omega
         ·rw[T6 hc0] at hn
          cases ad with
          | none=>exact absurd (hcn rfl) hc0
          | some a=>simp at hn
        | aL _ b off esz cap c hz hle hes hcc hv =>
         refine bk.here (hrun _ es.length cap l hh cap (nC (fN hb1 hlo) (fN hb2 hhi) h1 (by omega))) ?_
         by_cases hlh:l=hh
         ·subst hlh
          simpa using aF.im (Z:=Z) (μ:=μ) (hp:=w.heap) (if cap=l then some ⟨b,off,none⟩ else some (Addr.add ⟨b,off,none⟩ (l * ti.size))) (cap - l) (by split <;> simp)
         ·have hne:0 < es.length:=by omega
          have hesz:esz=ti.size:=by
           have h0:=hes 0 hne
           have:=UE.1 hall (es[0]) (Ud _)
           simp at this
           simp[T0,hne] at h0
           omega
          subst hesz
          rw[T6 (by omega)]
          simp only[Ue,jo]
          have hlen:((es.drop l).take (hh - l)).length=hh - l:=by simp; omega
          have hget:∀ i,i < hh - l→((es.drop l).take (hh - l)).getD i []=es.getD (l+i) []:=by
           intro i hi
           simp[T0,Vv,hi]
          have:=aF.aL (Z:=Z) (μ:=μ) (hp:=w.heap) ((es.drop l).take (hh - l)) b (off+l * ti.size) ti.size (cap - l) (fun i j=>c (l+i) j) hz (by omega)
           (fun i hi=>by rw[hlen] at hi; rw[hget i hi]; exact hes _ (by omega))
           (fun i j hi hj=>by
            rw[hlen] at hi
            have:=hcc (l+i) j (by omega) hj
            rw[US] at this
            rw[← this]; congr 1; omega)
           (fun i j hi hj=>by rw[hlen] at hi; rw[hget i hi]; exact hv _ _ (by omega) hj)
          rw[hlen] at this
          exact this
       ·simp at h
      ·simp at h
     ·split at h
      ·rename_i hb1 hb2
       simp only[T7,Ua] at h
       obtain ⟨rfl,rfl,rfl⟩:=h
       cases hx with
       | emp _ ad h1 h2 =>
        refine bk.here (hrun ad 0 0 0 0 0 (nC (fN hb1 hlo) (fN hb2 hhi) (by omega) (by omega))) ?_
        simpa using aF.emp (Z:=Z) (μ:=μ) (hp:=w.heap) _ ad h1 h2
      ·simp at h
     ·simp at h
theorem wrap_small {q:Nat} (h:q < aK):IntKind.i64.wrap (q:Int)=q:=by
 unfold aK at h
 exact IntWalk.i64_in _ (by omega)
theorem iH {t:TypeId} {i:TypeInfo} {z:List V} (hi:P.info? t=some i) (h:zeroCells P t=some z):∃ zv,i.zero=some zv∧z=(fi zv).cells:=by
 unfold zeroCells at h
 simp only[hi] at h
 cases hz:i.zero with
 | none=>simp[hz] at h
 | some zv=>simp[hz] at h; exact ⟨zv,rfl,h.symm⟩
theorem fK {i j s l:Nat} (hi:i < l) (hj:j < s):i * s+j < l * s:=by
 have:(i+1) * s≤l * s:=UJ _ hi
 rw[US] at this; omega
theorem E8 {t:TypeId} {a b:V} {x y:Value} (h:kW P t a b n=some (v,eff,rd)) (hx:aF Z μ w.heap a x) (hy:aF Z μ w.heap b y) (c:Ctx Z μ w.heap H rd n eff) :
  bk Z μ w n v eff ((do pure (Next.value (← Instr.makeSlice t x y)):Sem Next).run P w):=by
 unfold kW at h
 cases hu:cW P t with
 | none=>simp[hu] at h
 | some e =>
  have hund:P.underlying t=some (.slice e):=by
   unfold cW at hu; split at hu <;> simp_all
  cases hti:P.info? e with
  | none=>simp[hu,hti] at h
  | some ti =>
   simp only[hu,hti] at h
   split at h
   ·rename_i l cc hl hc
    obtain ⟨k1,rfl⟩:=kr hl
    obtain ⟨k2,rfl⟩:=kr hc
    have hx:=eT hx
    have hy:=eT hy
    subst hx hy
    split at h
    ·rename_i hcond
     obtain ⟨h1,h2,h3⟩:=hcond
     have e1:IntKind.i64.wrap (l:Int)=l:=wrap_small (by omega)
     have e2:IntKind.i64.wrap (cc:Int)=cc:=wrap_small h2
     have g1:¬ (((ti.bytes:Int) * (cc:Int)) > 2 ^ 48):=by
      have:((ti.bytes * cc:Nat):Int) < 2 ^ 48:=by unfold aK at h3; omega
      push_cast at this; omega
     have hrun:∀ zc:Array Value,(cc * ti.size=0∧zc = #[])∨(cc * ti.size≠0∧∃ zv,(zeroValue e).run P w=.ok zv w∧zc=zv.cells) →
       (Instr.makeSlice t (.int k1 (l:Int)) (.int k2 (cc:Int))).run P w=.ok (.slice (some ⟨w.heap.size,0,none⟩) l cc) (w.alloc (.cells ((Array.range (cc * ti.size)).map (zc[· % zc.size]!)) e)):=by
      intro zc hz
      have g2:¬ ((cc:Int) < 0):=by omega
      have g3:¬ ((l:Int) < 0):=by omega
      have g4:¬ ((l:Int) > (cc:Int)):=by omega
      simp only[Instr.makeSlice,Sem.run_bind,bA hund,Result.andThen_ok,asInt,asIntOf,Sem.run_pure,pv hti,e1,e2]
      simp only[g1,g2,g3,g4,decide_false,Bool.or_false,Bool.false_or,Ut,if_false,Sem.run_bind,run_askRoom,Result.andThen_ok,dH hti,Uq]
      rcases hz with ⟨h0,rfl⟩ | ⟨h0,zv,hzv,rfl⟩
      ·simp[h0,newRow,dH hti]
      ·simp[h0,newRow,dH hti,hzv]
     split at h
     ·rename_i hc0
      subst hc0
      simp only[T7,Ua] at h
      obtain ⟨rfl,rfl,rfl⟩:=h
      obtain rfl:l=0:=by omega
      exact bk.value (hrun #[] (.inl ⟨by simp,rfl⟩)) (.emp 2 _ (by simp) (by simp)) (iV _ _) ⟨rfl,eF _ _⟩
     ·split at h
      ·simp at h
      ·rename_i hcne hsz
       split at h
       ·simp at h
       ·rename_i z hz
        split at h
        ·rename_i hzz
         obtain ⟨hzl,hzok⟩:=hzz
         simp only[T7,Ua] at h
         obtain ⟨rfl,rfl,rfl⟩:=h
         obtain ⟨zv,hzv,rfl⟩:=iH hti hz
         have hr:=gH (gE (Z:=Z) (μ:=μ) (w:=w) zv) hzok
         have hzs:zv.cells.size=ti.size:=by rw[← hzl,hr.1]; simp
         have hmem:(Array.range (cc * ti.size)).size=cc * ti.size:=by simp
         have hpos:cc * ti.size≠0:=by
          intro h0; rcases Nat.mul_eq_zero.1 h0 with h0 | h0 <;> contradiction
         refine bk.value (μ':=μ.set n (w.heap.size,0,ti.size)) (hrun zv.cells (.inr ⟨hpos,zv,jA hti hzv w,rfl⟩)) ?_ (iV _ _) ?_
         ·have:=aF.sl (Z:=Z) (μ:=μ.set n (w.heap.size,0,ti.size)) (hp:=(w.alloc (.cells ((Array.range (cc * ti.size)).map (zv.cells[· % zv.cells.size]!)) e)).heap) n 0 l ti.size w.heap.size 0 cc _ e (0,0) (by simp[Mu.set]) h1 (by rw[heap_alloc]; simp; rfl) (by simp)
          simpa using this
         ·refine ⟨w.heap.size,0,ti.size,Ug _,by rw[heap_alloc]; simp,rfl,eF _ _,?_⟩
          refine en.newRow c.new c.cL ?_ ?_ ?_
          ·simp; exact UJ _ h1
          ·intro i hi; simp at hi; simp[T0,hi,hzl]
          ·intro i j hi hj
           simp at hi
           have hlt:i * ti.size+j < cc * ti.size:=fK (by omega) hj
           have hmod:(i * ti.size+j) % ti.size=j:=by
            rw[Nat.mul_comm,Nat.mul_add_mod]; exact Nat.mod_eq_of_lt hj
           refine ⟨zv.cells[j]'(by omega),?_,?_⟩
           ·simp[hlt,hzs,hmod,getElem!_pos zv.cells j (by omega)]
           ·have:=hr.2 j (by rw[hzl]; exact hj)
            simpa [T0,hi,show j < zv.cells.size from by omega] using this
        ·simp at h
    ·simp at h
   ·simp at h
end
section
variable {Z:Nat→Prop} {μ μ':Mu} {w w':World} {P:Program} {H:View} {n:Nat} {v:V} {eff:bC} {rd:List Nat}
structure Flat (Z:Nat→Prop) (μ:Mu) (hp:Array Obj) (size:Nat) (xs:List (List V)) (fl:Array Value):Prop where
 len:fl.size=xs.length * size
 rel:∀ i j,i < xs.length→j < size→aF Z μ hp ((xs.getD i []).getD j .any) (fl.getD (i * size+j) undef)
theorem uF {b off size N:Nat} {c:Nat→Nat→Value} (h:∀ i j,i < N→j < size→cellAt w.heap b (off+i * size+j)=some (c i j)) {m:Nat} (hm:m≤N) :
  (loadCells ⟨b,off,none⟩ (m * size)).run P w=.ok ((((List.range (N * size)).map fun k=>c (k / size) (k % size)).toArray).extract 0 (m * size)) w:=by
 have hle:m * size≤N * size:=UJ _ hm
 rw[run_loadCells w ⟨b,off,none⟩ (m * size) (fun k=>c (k / size) (k % size)) (fun k hk=>?_)]
 ·congr 1
  apply Array.ext_getElem?
  intro k
  simp only[U2,Array.getElem?_extract,T8,List.getElem?_range']
  by_cases hk:k < m * size
  ·simp[hk,show k < N * size from by omega,V2 hm]
  ·simp[hk,V2 hm]
 ·have hs:0 < size:=by
   rcases Nat.eq_zero_or_pos size with h0 | h0
   ·subst h0; simp at hk
   ·exact h0
  have h1:k / size < m:=(Nat.div_lt_iff_lt_mul hs).2 hk
  have h2:k % size < size:=Nat.mod_lt _ hs
  rw[jo,nq,← h (k / size) (k % size) (by omega) h2]
  congr 1
  have:=Nat.div_add_mod k size
  rw[Nat.mul_comm] at this
  omega
theorem Eb {size N:Nat} {c:Nat→Nat→Value} {xs:List (List V)} (hN:xs.length=N) (h:∀ i j,i < N→j < size→aF Z μ w.heap ((xs.getD i []).getD j .any) (c i j)) :
  Flat Z μ w.heap size xs ((List.range (N * size)).map fun k=>c (k / size) (k % size)).toArray:=by
 refine ⟨by simp[hN],fun i j hi hj=>?_⟩
 have hlt:i * size+j < N * size:=fK (by omega) hj
 have h1:(i * size+j) / size=i:=by
  rw[Nat.mul_comm,Nat.mul_add_div (by omega),Nat.div_eq_of_lt hj]; simp
 have h2:(i * size+j) % size=j:=by
  rw[Nat.mul_comm,Nat.mul_add_mod]; exact Nat.mod_eq_of_lt hj
 simpa [Ui,hlt,h1,h2] using h i j (by omega) hj
theorem rn {ad:Option Addr} {cap size m:Nat} (hm:m≤0):(Builtin.firstCells size m (.slice ad 0 cap)).run P w=.ok ((#[]:Array Value).extract 0 (m * size)) w:=by
 obtain rfl:m=0:=by omega
 cases ad with
 | none=>simp[Builtin.firstCells]
 | some a=>simp[Builtin.firstCells,loadCells,loadCellsFrom]
theorem bsize (s:ByteArray):s.data.toList.length=s.size:=by rw[Array.length_toList]; rfl
theorem py {x:V} {xv:Value} {xs:List (List V)} {size:Nat} (h:bX H x=some (xs,rd)) (hx:aF Z μ w.heap x xv) (hobj:∀ id,id∈rd→en Z μ w.heap id (H id))
  (hsz:∀ e∈xs,e.length=size) :
  ∃ fl,Flat Z μ w.heap size xs fl∧(Builtin.lenOf xv).run P w=.ok xs.length w∧∀ m,m≤xs.length→(Builtin.firstCells size m xv).run P w=.ok (fl.extract 0 (m * size)) w:=by
 have nil:∀ (ad:Option Addr) cap,∃ fl,Flat Z μ w.heap size [] fl∧(Builtin.lenOf (.slice ad 0 cap)).run P w=.ok ([]:List (List V)).length w ∧
   ∀ m,m≤([]:List (List V)).length→(Builtin.firstCells size m (.slice ad 0 cap)).run P w=.ok (fl.extract 0 (m * size)) w :=
  fun ad cap=>⟨#[],⟨by simp,fun i j hi=>by simp at hi⟩,by simp[Builtin.lenOf],fun m hm=>rn (by simpa using hm)⟩
 unfold bX at h
 split at h
 ·simp only[T7,Ua] at h
  obtain ⟨rfl,rfl⟩:=h
  obtain ⟨ad,cap,rfl,_⟩:=dS hx rfl
  exact nil ad cap
 ·simp only[T7,Ua] at h
  obtain ⟨rfl,rfl⟩:=h
  obtain ⟨ad,cap,rfl,_⟩:=dS hx rfl
  exact nil ad cap
 ·rename_i es
  simp only[T7,Ua] at h
  obtain ⟨rfl,rfl⟩:=h
  cases hx with
  | im a cap=>exact nil a cap
  | aL _ b off esz cap c hz hle hes hc hv =>
   by_cases hne:es=[]
   ·subst hne; exact nil _ cap
   ·have h0:0 < es.length:=VY.2 hne
    have:esz=size:=by
     have h1:=hes 0 h0
     have h2:=hsz es[0] (Ud _)
     simp[T0,h0] at h1
     omega
    subst this
    exact ⟨_,Eb rfl hv,by simp[Builtin.lenOf],fun m hm=>uF hc hm⟩
 ·simp only[T7,Ua] at h
  obtain ⟨rfl,rfl⟩:=h
  obtain ⟨ad,cap,rfl,_⟩:=dS hx rfl
  exact nil ad cap
 ·rename_i id off len esz hlen
  split at h
  ·rename_i esz' es hH
   split at h
   ·rename_i hle
    simp only[T7,Ua] at h
    obtain ⟨rfl,rfl⟩:=h
    cases hx with
    | oZ=>exact (hlen rfl).elim
    | sl _ _ _ _ b o0 cap c e' f hm hlec hb hs =>
     have hor:=hobj id (by simp)
     rw[hH] at hor
     obtain ⟨rfl,_,h3,h4⟩:=hor b o0 esz hm
     have hlen':((es.drop off).take len).length=len:=by simp; omega
     have hget:∀ i,i < len→((es.drop off).take len).getD i []=es.getD (off+i) []:=by
      intro i hi; simp[T0,Vv,hi]
     have hpos:0 < len:=by
      rcases Nat.eq_zero_or_pos len with h0 | h0
      ·exact (hlen h0).elim
      ·exact h0
     have:esz=size:=by
      have h1:=h3 off (by omega)
      have h2:=hsz (((es.drop off).take len)[0]'(by omega)) (Ud _)
      have h5:=hget 0 hpos
      simp only[T0,T4 (show 0 < ((es.drop off).take len).length by omega),Un] at h5
      rw[h5] at h2
      simp only[T0,VM] at h1 h2
      omega
     subst this
     have hx:∀ i,∃ ci:Nat→Value,∀ j,j < esz→i < len→cellAt w.heap b (o0+off * esz+i * esz+j)=some (ci j)∧aF Z μ w.heap ((((es.drop off).take len).getD i []).getD j .any) (ci j):=by
      intro i
      by_cases hi:i < len
      ·obtain ⟨ci,hci⟩:=nX (n:=esz) (p:=fun j x=>cellAt w.heap b (o0+off * esz+i * esz+j)=some x∧aF Z μ w.heap ((((es.drop off).take len).getD i []).getD j .any) x) (fun j hj=>by
        obtain ⟨x,hx,hv⟩:=h4 (off+i) j (by omega) hj
        rw[US,← VO] at hx
        exact ⟨x,hx,by rw[hget i hi]; exact hv⟩)
       exact ⟨ci,fun j hj _=>hci j hj⟩
      ·exact ⟨fun _=>undef,fun j _ h=>absurd h hi⟩
     obtain ⟨cf,hcf⟩:=Classical.axiomOfChoice hx
     refine ⟨_,Eb (c:=cf) hlen' (fun i j hi hj=>(hcf i j hj hi).2),by simp[Builtin.lenOf]; omega,fun m hm=>?_⟩
     rw[hlen'] at hm
     exact uF (fun i j hi hj=>(hcf i j hj hi).1) hm
   ·simp at h
  ·simp at h
 ·rename_i s
  simp only[T7,Ua] at h
  obtain ⟨rfl,rfl⟩:=h
  have hv:=eT hx
  subst hv
  have hl:(s.data.toList.map fun b=>([V.val (Value.int .u8 b.toNat)]:List V)).length=s.size:=by rw[Uc,bsize]
  have hlen:(Builtin.lenOf (.string s)).run P w=.ok s.size w:=rfl
  by_cases hs0:s.size=0
  ·refine ⟨#[],⟨by rw[hl,hs0]; simp,fun i j hi=>by rw[hl] at hi; omega⟩,by rw[hl]; exact hlen,fun m hm=>?_⟩
   rw[hl] at hm
   obtain rfl:m=0:=by omega
   have:(s.extract 0 0).data = #[]:=by rw[ByteArray.data_extract]; simp
   simp[Builtin.firstCells,this]
  ·have:size=1:=by
    have hne:0 < s.data.toList.length:=by rw[bsize]; omega
    have:=hsz [V.val (Value.int .u8 (s.data.toList[0]).toNat)] (Ur.2 ⟨_,Ud hne,rfl⟩)
    simpa using this.symm
   subst this
   refine ⟨s.data.map fun b=>.int .u8 b.toNat,⟨by rw[hl,Array.size_map,Nat.mul_one]; rfl,fun i j hi hj=>?_⟩,by rw[hl]; exact hlen,fun m hm=>?_⟩
   ·obtain rfl:j=0:=by omega
    have hi':i < s.data.size:=by rw[hl] at hi; exact hi
    simp only[T0,Ui,T8,Array.getElem?_toList,Array.getElem?_map,Nat.mul_one,VM,Up hi',Ue,Un,UC]
    exact aF.val _ rfl
   ·rw[hl] at hm
    simp only[Builtin.firstCells,Sem.run_pure,Nat.mul_one]
    congr 1
    rw[ByteArray.data_extract,Array.map_extract]
 ·simp at h
theorem LJ {size:Nat} {xs:List (List V)} {fl:Array Value} (h:Flat Z μ w.heap size xs fl) (m:Nat) (hm:m≤xs.length):Flat Z μ w.heap size (xs.take m) (fl.extract 0 (m * size)):=by
 have hle:m * size≤xs.length * size:=UJ _ hm
 have hs:(fl.extract 0 (m * size)).size=m * size:=by rw[Array.size_extract,h.len]; omega
 refine ⟨by rw[hs,UN,V2 hm],fun i j hi hj=>?_⟩
 have hi':i < m:=by simp at hi; omega
 have:=h.rel i j (by omega) hj
 have hlt:i * size+j < m * size:=fK hi' hj
 have hlt2:i * size+j < fl.size:=by rw[h.len]; omega
 simp only[T0,Ui,Vv,hi',if_true,Array.getElem?_extract] at this ⊢
 rw[T9 (by omega),U3]
 exact this
theorem AA {size:Nat} {xs:List (List V)} {fl:Array Value} (h:Flat Z μ w.heap size xs fl) (hs:∀ e∈xs,e.length=size) (hok:∀ e∈xs,e.all aX=true):∀ x∈fl.toList,x.oneCell'=true:=by
 intro x hx
 obtain ⟨k,hk,rfl⟩:=List.getElem_of_mem hx
 have hk':k < xs.length * size:=by rw[← h.len]; simpa using hk
 have hpos:0 < size:=by
  rcases Nat.eq_zero_or_pos size with h0 | h0
  ·subst h0; simp at hk'
  ·exact h0
 have h1:k / size < xs.length:=(Nat.div_lt_iff_lt_mul hpos).2 hk'
 have h2:k % size < size:=Nat.mod_lt _ hpos
 have:=h.rel (k / size) (k % size) h1 h2
 have e:k / size * size+k % size=k:=by rw[Nat.mul_comm]; exact Nat.div_add_mod k size
 rw[e] at this
 have hkk:k < fl.size:=by simpa using hk
 simp only[Ui,Up hkk,Un] at this
 have hmem:xs[k / size]∈xs:=Ud _
 have hlen:=hs _ hmem
 simp only[T0,T4 h1,Un,T4 (show k % size < (xs[k / size]).length by omega)] at this
 have:=uD this (UE.1 (hok _ hmem) _ (Ud _))
 simpa using this
theorem uj {b off:Nat} {c:Array Value} {e:TypeId} {f:Nat × Nat} (hb:w.heap[b]?=some (.cells c e f)) (hf:∀ k,k < c.size→¬ (f.1≤k∧k < f.2)) (xs:List Value)
  (hs:off+xs.length≤c.size) (hx:∀ x∈xs,x.oneCell'=true) :
  ∃ c',(storeCells ⟨b,off,none⟩ xs).run P w=.ok () { w with heap:=w.heap.setIfInBounds b (.cells c' e f) }∧c'.size=c.size ∧
   ∀ k,cellAt (w.heap.setIfInBounds b (.cells c' e f)) b k=if off≤k∧k < off+xs.length then xs[k - off]? else cellAt w.heap b k:=by
 obtain ⟨c',h1,h2,h3⟩:=kp (P:=P) (b:=b) (off:=off) (e:=e) (f:=f) xs 0 c w hb hf (by omega) hx
 refine ⟨c',h1,h2,fun k=>?_⟩
 have:=h3 k
 simp only[VM] at this
 simp only[cellAt,dX (eQ hb),hb]
 exact this
theorem DV:aK=70368744177664:=by decide
theorem Ik {t0 t1 e:TypeId} {ti:TypeInfo} {ats:Array TypeId} {ty:TypeId} {base:Option Addr} {sLen sCap m:Nat} {xv:Value} {old new zc:Array Value}
  (ha0:ats[0]?=some t0) (ha1:ats[1]?=some t1) (hno:pR P t1=true) (hund:P.underlying t0=some (.slice e)) (hti:P.info? e=some ti)
  (hl:(Builtin.lenOf xv).run P w=.ok m w) (hgt:sCap < sLen+m) (hb1:(sLen+m) * ti.bytes < aK) (hb2:sLen+m < aK)
  (hz:∀ w',∃ zv,(zeroValue e).run P w'=.ok zv w'∧zv.cells=zc)
  (ho:(Builtin.firstCells ti.size sLen (.slice base sLen sCap)).run P w.drew=.ok old w.drew) (hn:(Builtin.firstCells ti.size m xv).run P w.drew=.ok new w.drew) :
  ∃ cap,sLen+m≤cap∧(Builtin.append_ ats ty #[.slice base sLen sCap,xv]).run P w =
   .ok (.slice (some ⟨w.heap.size,0,none⟩) (sLen+m) cap) (w.drew.alloc (.cells (old ++ new ++ Builtin.zeroCells zc (cap - (sLen+m))) e)):=by
 have hint:∃ d,P.underlying t1=some d∧∀ k,d≠.int k:=by
  unfold pR at hno
  cases hu:P.underlying t1 with
  | none=>simp[hu] at hno
  | some d=>refine ⟨d,rfl,fun k e=>?_⟩; subst e; simp[hu] at hno
 obtain ⟨d,hd,hdi⟩:=hint
 have hlim:=DV
 have hfit:=growslice_fits hgt (show (sLen+m) * ti.bytes≤140737488355328 by omega)
 have hmax:¬ (((sLen+m:Nat):Int) > IntKind.i64.max):=by
  have:IntKind.i64.max=9223372036854775807:=by decide
  rw[this]; omega
 have hbig:¬ (Builtin.nextslicecap (sLen+m) sCap * ti.bytes > 2 ^ 48):=by
  have:(2:Nat) ^ 48=281474976710656:=by decide
  rw[this]; exact Nat.not_lt.2 hfit
 obtain ⟨zv,hzv,hzc⟩:=hz w.drew
 refine ⟨Question.cut (.appendCap (sLen+m) sCap e) (w.tape w.drawn (.appendCap (sLen+m) sCap e)),Nat.le_add_right _ _,?_⟩
 have hcut:Question.forced (.appendCap (sLen+m) sCap e)=false:=rfl
 subst hzc
 cases d with
 | int k=>exact absurd rfl (hdi k)
 | _ =>
 simp only[Builtin.append_,U2,UC,UP,ha0,ha1,Sem.run_bind,bA hund,Result.andThen_ok,dH hti,bA hd,Sem.run_pure,Ut,if_false,hl,Bool.not_false,if_true]
 rw[T6 (by omega)]
 simp only[hmax,false_and,if_false,Sem.run_bind,pv hti,Result.andThen_ok,Sem.run_ite,Sem.run_pure,hbig,run_choose,hcut,Ut,World.drew_eq,run_askRoom,ho,hn,hzv,newRow,run_newObj,World.alloc_eq]
 rfl
end
end Gv
