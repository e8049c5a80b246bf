/-
  Part 1 of the proof: what the machine does and what the functions answer.
  Conditions: those that each lemma names.
-/
import Derived.WalkKit
set_option linter.unusedSimpArgs false
set_option linter.unusedVariables false
set_option maxRecDepth 100000
set_option maxHeartbeats 20000000
namespace Gv
open Go
theorem Xb:type_of% @List.getD_eq_getElem?_getD:=@List.getD_eq_getElem?_getD
theorem Xc:type_of% @List.getElem?_eq_getElem:=@List.getElem?_eq_getElem
theorem Xd:type_of% @if_neg:=@if_neg
theorem Xe:type_of% @Option.some.injEq:=@Option.some.injEq
theorem Xf:type_of% @List.getElem?_map:=@List.getElem?_map
theorem Xg:type_of% @if_pos:=@if_pos
theorem Xh:type_of% @Prod.mk.injEq:=@Prod.mk.injEq
theorem Xi:type_of% @List.mem_of_getElem?:=@List.mem_of_getElem?
theorem Xj:type_of% @List.length_map:=@List.length_map
theorem Xk:type_of% @Option.map_some:=@Option.map_some
theorem Xl:type_of% @Bool.and_eq_true:=@Bool.and_eq_true
theorem Xm:type_of% @List.getElem_mem:=@List.getElem_mem
theorem Xn:type_of% @Option.map_eq_some_iff:=@Option.map_eq_some_iff
theorem Xo:type_of% @Nat.le_refl:=@Nat.le_refl
theorem Xp:type_of% @Array.getD_eq_getD_getElem?:=@Array.getD_eq_getD_getElem?
theorem Xq:type_of% @List.getElem?_eq_some_iff:=@List.getElem?_eq_some_iff
theorem Xr:type_of% @decide_eq_true_eq:=@decide_eq_true_eq
theorem Xs:type_of% @List.mem_cons:=@List.mem_cons
theorem Xt:type_of% @List.length_cons:=@List.length_cons
theorem Xu:type_of% @Option.getD_some:=@Option.getD_some
theorem Xv:type_of% @List.take_of_length_le:=@List.take_of_length_le
theorem Xw:type_of% @List.mem_map:=@List.mem_map
theorem Xx:type_of% @Array.getElem?_eq_getElem:=@Array.getElem?_eq_getElem
theorem Xy:type_of% @Int.toNat_natCast:=@Int.toNat_natCast
theorem Xz:type_of% @Bool.false_eq_true:=@Bool.false_eq_true
theorem XA:type_of% @List.getElem?_append_left:=@List.getElem?_append_left
theorem XB:type_of% @Nat.lt_or_ge:=@Nat.lt_or_ge
theorem XC:type_of% @List.foldl_cons:=@List.foldl_cons
theorem XD:type_of% @List.map_append:=@List.map_append
theorem XE:type_of% @List.mem_append:=@List.mem_append
theorem XF:type_of% @List.map_cons:=@List.map_cons
theorem XG:type_of% @List.getElem?_cons_zero:=@List.getElem?_cons_zero
theorem XH:type_of% @List.take_add_one:=@List.take_add_one
theorem XI:type_of% @List.all_eq_true:=@List.all_eq_true
theorem XJ:type_of% @List.mem_cons_of_mem:=@List.mem_cons_of_mem
theorem XK:type_of% @List.drop_eq_nil_of_le:=@List.drop_eq_nil_of_le
theorem XL:type_of% @List.getElem?_eq_none:=@List.getElem?_eq_none
theorem XM:type_of% @Nat.lt_of_lt_of_le:=@Nat.lt_of_lt_of_le
theorem XN:type_of% @List.length_nil:=@List.length_nil
theorem XO:type_of% @List.append_assoc:=@List.append_assoc
theorem XP:type_of% @List.getElem?_append_right:=@List.getElem?_append_right
theorem XQ:type_of% @List.cons_append:=@List.cons_append
theorem XR:type_of% @Nat.mul_le_mul_right:=@Nat.mul_le_mul_right
theorem XS:type_of% @Option.bind_some:=@Option.bind_some
theorem XT:type_of% @List.perm_middle:=@List.perm_middle
theorem XU:type_of% @List.mem_range:=@List.mem_range
theorem XV:type_of% @List.length_append:=@List.length_append
theorem XW:type_of% @List.drop_eq_getElem_cons:=@List.drop_eq_getElem_cons
theorem XX:type_of% @List.getElem?_cons_succ:=@List.getElem?_cons_succ
theorem XY:type_of% @List.mem_filter:=@List.mem_filter
theorem XZ:type_of% @List.foldl_append:=@List.foldl_append
theorem X0:type_of% @List.length_take:=@List.length_take
theorem X5:type_of% @Nat.add_mul:=@Nat.add_mul
theorem X6:type_of% @List.nodup_cons:=@List.nodup_cons
theorem X7:type_of% @Nat.le_trans:=@Nat.le_trans
theorem X8:type_of% @List.mem_singleton:=@List.mem_singleton
theorem X9:type_of% @List.length_filter_le:=@List.length_filter_le
theorem Ya:type_of% @List.range_succ:=@List.range_succ
theorem Yb:type_of% @List.getElem_cons_zero:=@List.getElem_cons_zero
theorem Yc:type_of% @List.nodup_append:=@List.nodup_append
theorem Yd:type_of% @List.getElem?_toArray:=@List.getElem?_toArray
theorem Ye:type_of% @BitVec.getLsbD_or:=@BitVec.getLsbD_or
theorem Yf:type_of% @List.getElem_cons_succ:=@List.getElem_cons_succ
theorem Yg:type_of% @Array.getElem?_setIfInBounds:=@Array.getElem?_setIfInBounds
theorem Yh:type_of% @List.mem_iff_getElem:=@List.mem_iff_getElem
theorem Yi:type_of% @Nat.zero_add:=@Nat.zero_add
theorem Yj:type_of% @Decidable.byContradiction:=@Decidable.byContradiction
theorem Yk:type_of% @List.getD_cons_zero:=@List.getD_cons_zero
theorem Yl:type_of% @Bool.eq_iff_iff:=@Bool.eq_iff_iff
theorem Ym:type_of% @List.length_replicate:=@List.length_replicate
theorem Yn:type_of% @List.mem_zipIdx_iff_getElem?:=@List.mem_zipIdx_iff_getElem?
theorem Yo:type_of% @beq_iff_eq:=@beq_iff_eq
theorem Yp:type_of% @Bool.or_eq_true:=@Bool.or_eq_true
theorem Yq:type_of% @List.nil_append:=@List.nil_append
theorem Yr:type_of% @List.mem_filterMap:=@List.mem_filterMap
theorem Ys:type_of% @Bool.true_and:=@Bool.true_and
theorem Yt:type_of% @List.drop_zero:=@List.drop_zero
theorem Yu:type_of% @List.getElem?_range:=@List.getElem?_range
theorem Yv:type_of% @List.all_cons:=@List.all_cons
theorem Yw:type_of% @List.eraseIdx_cons_succ:=@List.eraseIdx_cons_succ
theorem Yx:type_of% @List.eraseIdx_cons_zero:=@List.eraseIdx_cons_zero
theorem Yy:type_of% @List.pairwise_cons:=@List.pairwise_cons
theorem Yz:type_of% @List.append_nil:=@List.append_nil
theorem YA:type_of% @congrArg:=@congrArg
theorem YB:type_of% @List.filterMap_cons:=@List.filterMap_cons
theorem YC:type_of% @List.getElem?_set:=@List.getElem?_set
theorem YD:type_of% @List.length_eq_zero_iff:=@List.length_eq_zero_iff
theorem YE:type_of% @Array.getElem?_append_left:=@Array.getElem?_append_left
theorem YF:type_of% @List.foldl_nil:=@List.foldl_nil
theorem YG:type_of% @List.filter_append:=@List.filter_append
theorem YH:type_of% @Array.getElem?_eq_none:=@Array.getElem?_eq_none
theorem YI:type_of% @Classical.byContradiction:=@Classical.byContradiction
theorem YJ:type_of% @List.size_toArray:=@List.size_toArray
theorem YK:type_of% @List.map_nil:=@List.map_nil
theorem YL:type_of% @List.map_set:=@List.map_set
theorem YM:type_of% @Nat.zero_le:=@Nat.zero_le
theorem YN:type_of% @List.getElem?_take:=@List.getElem?_take
theorem YO:type_of% @decide_eq_false_iff_not:=@decide_eq_false_iff_not
theorem YP:type_of% @List.getElem?_replicate:=@List.getElem?_replicate
theorem YQ:type_of% @beq_self_eq_true:=@beq_self_eq_true
theorem YR:type_of% @List.mem_append_left:=@List.mem_append_left
theorem YS:type_of% @Bool.false_and:=@Bool.false_and
theorem YT:type_of% @List.mem_append_right:=@List.mem_append_right
theorem YU:type_of% @Array.replicate_succ:=@Array.replicate_succ
theorem YV:type_of% @Array.replicate_zero:=@Array.replicate_zero
theorem YW:type_of% @of_decide_eq_true:=@of_decide_eq_true
theorem YX:type_of% @List.find?_cons:=@List.find?_cons
theorem YY:type_of% @Array.getElem?_push:=@Array.getElem?_push
theorem YZ:type_of% @List.take_succ_cons:=@List.take_succ_cons
theorem Y0:type_of% @List.getD_cons_succ:=@List.getD_cons_succ
theorem Y1:type_of% @List.append_toArray:=@List.append_toArray
theorem Y2:type_of% @Nat.add_zero:=@Nat.add_zero
theorem Y3:type_of% @List.getElem?_set_self:=@List.getElem?_set_self
theorem Y4:type_of% @Nat.add_assoc:=@Nat.add_assoc
theorem Y5:type_of% @List.nodup_iff_pairwise_ne:=@List.nodup_iff_pairwise_ne
theorem Y6:type_of% @List.isEmpty_nil:=@List.isEmpty_nil
theorem Y7:type_of% @List.filter_cons:=@List.filter_cons
theorem Y8:type_of% @Nat.eq_of_beq_eq_true:=@Nat.eq_of_beq_eq_true
theorem Y9:type_of% @BitVec.getLsbD_twoPow:=@BitVec.getLsbD_twoPow
theorem Za:type_of% @List.push_toArray:=@List.push_toArray
theorem Zb:type_of% @List.pairwise_map:=@List.pairwise_map
theorem Zc:type_of% @List.length_pos_iff:=@List.length_pos_iff
theorem Zd:type_of% @List.map_congr_left:=@List.map_congr_left
theorem Ze:type_of% @List.getElem?_drop:=@List.getElem?_drop
theorem Zf:type_of% @List.mem_cons_self:=@List.mem_cons_self
theorem Zg:type_of% @List.cons.injEq:=@List.cons.injEq
theorem Zh:type_of% @Option.some.inj:=@Option.some.inj
theorem Zi:type_of% @Bool.not_true:=@Bool.not_true
theorem Zj:type_of% @Bool.not_eq_true':=@Bool.not_eq_true'
theorem Zk:type_of% @bne_iff_ne:=@bne_iff_ne
inductive V where
 | any
 | val (v:Value)
 | emp (k:Nat)
 | dS
 | aE (es:List (List V))
 | sl (id off len esz:Nat)
 | ptr (id i j:Nat)
 | aJ (e:List V) (j:Nat)
 | mp (id:Nat)
 | fn (f:FuncId) (first cap:List V)
 | agg (cs:List V)
 | bp (vs:List V)
 deriving Inhabited
inductive c6 where
 | dead
 | arr (esz:Nat) (es:List (List V))
 | map (es:List (V × V × Nat)) (clock:Nat)
 | xm (s:ByteArray) (pos:Nat)
 deriving Inhabited
abbrev aC:=List c6
abbrev View:=Nat→c6
def aC.view (h:aC):View:=fun id=>h.getD id .dead
inductive bA where
 | none
 | new (o:c6)
 | fk (id:Nat) (o:c6)
 | fa (id:Nat) (o:c6)
def bA.fresh (free:Prop):bA→Prop
 | .new _ | .fa _ _=>free
 | _=>True
def bA.apply (h:aC):bA→aC
 | .none=>h
 | .new o=>h ++ [o]
 | .fk id o=>h.set id o
 | .fa id o=>h.set id .dead ++ [o]
def plain:Value→Bool
 | .bool _ | .int _ _ | .float _ _ | .complex _ _ _ | .string _ | .pointer none | .map none | .nilFunc | .nilIface=>true
 | _=>false
def pw:Value→V
 | .slice none 0 0=>.emp 1
 | .slice _ _ _=>.any
 | v=>if plain v then .val v else .any
def fN:Value→V
 | .agg cs=>.agg (cs.toList.map pw)
 | .func (.func f) a b=>if a.size=0∧b.size=0 then .fn f [] [] else .any
 | v=>pw v
def toCell:V→Option Value
 | .val v=>some v
 | _=>none
def vw:List V→Option (List Value)
 | []=>some []
 | v :: r=>match toCell v,vw r with
  | some x,some y=>some (x :: y)
  | _,_=>none
def dq:V→Option Value
 | .val v=>some v
 | .agg cs=>(vw cs).map fun l=>.agg l.toArray
 | _=>none
def V.cells:V→List V
 | .agg cs=>cs
 | v=>[v]
def aO:V→Bool
 | .any | .agg _ | .bp _=>false
 | _=>true
def bD {α:Type} (P:Program):Sem α→Option α
 | .pure a=>some a
 | .program k=>bD P (k P)
 | _=>none
abbrev Env:=Nat→V
def Env.put (T:Env) (d:Option Nat) (v:V):Env:=match d with
 | some d=>fun t=>if t=d then v else T t
 | none=>T
def ev (T:Env):Operand→V
 | .tmp t=>T t
 | .const v=>fN v
 | .global _=>.any
 | .func f=>.fn f [] []
def cY (P:Program) (t:TypeId):Option TypeId:=match P.underlying t with
 | some (.slice e)=>some e
 | _=>none
def zeroCells (P:Program) (t:TypeId):Option (List V):=match P.info? t with
 | some i=>match i.zero with
  | some v=>some (fN v).cells
  | none=>none
 | none=>none
def qF (P:Program) (t:TypeId) (f:Nat):Option (Nat × Nat × TypeId):=match P.underlying t with
 | some (.struct fs)=>match fs[f]? with
  | some x=>match P.info? x.type with
   | some i=>some (x.offset,i.size,x.type)
   | none=>none
  | none=>none
 | _=>none
def asNat:V→Option Nat
 | .val (.int _ q)=>if 0≤q then some q.toNat else none
 | _=>none
def sM (P:Program) (t:TypeId):Option Bool:=match P.underlying t with
 | some (.struct _) | some (.array _ _)=>some true
 | some _=>some false
 | none=>none
def qM (P:Program) (t:TypeId) (cs:List V) (off:Nat):Option V:=match P.info? t,sM P t with
 | some i,some true=>if off+i.size≤cs.length then some (.agg ((cs.drop off).take i.size)) else none
 | some _,some false=>if off < cs.length then some (cs.getD off .any) else none
 | _,_=>none
def fJ (e:List V) (j:Nat) (cs:List V):List V:=e.take j ++ cs ++ e.drop (j+cs.length)
def iL (n:Nat):V:=.val (.int .i64 n)
def bI (H:View):V→Option (List (List V) × List Nat)
 | .emp _ | .dS=>some ([],[])
 | .aE es=>some (es,[])
 | .sl _ _ 0 _=>some ([],[])
 | .sl id off len _=>match H id with
  | .arr _ es=>if off+len≤es.length then some ((es.drop off).take len,[id]) else none
  | _=>none
 | .val (.string s)=>some (s.data.toList.map fun b=>[.val (.int .u8 b.toNat)],[])
 | _=>none
def aB:Nat:=2 ^ 46
def lI:List (List V)→Option (List UInt8)
 | []=>some []
 | [.val (.int .u8 n)] :: r=>(lI r).map (UInt8.ofNat n.toNat :: ·)
 | _=>none
def iC:List (V × V × Nat)→Option (List MapEntry)
 | []=>some []
 | (k,_,b) :: r=>match dq k,iC r with
  | some x,some y=>some ({ key:=x,val:=.nilFunc,born:=b } :: y)
  | _,_=>none
def mZ (P:Program) (kt:TypeId) (k:V) (empty:Bool) (es:List (V × V × Nat)):Option (Option Nat):=match dq k,iC es with
 | some x,some l=>match bD P (Instr.checkKey empty 10000 kt x >>= fun _=>Instr.findKey kt x l) with
  | some (some (i,_))=>some (some i)
  | some none=>some none
  | none=>none
 | _,_=>none
def dA (P:Program) (t:TypeId):Option (TypeId × TypeId):=match P.underlying t with
 | some (.map k e)=>some (k,e)
 | _=>none
def zeroV (P:Program) (t:TypeId):Option V:=match P.info? t with
 | some i=>match i.zero with
  | some v=>some (fN v)
  | none=>none
 | none=>none
abbrev Out:=Option (V × bA × List Nat)
def na (P:Program) (t:TypeId) (a:V) (H:View):Out:=match a with
 | .ptr id i j=>match H id with
  | .arr _ es=>if i < es.length then (qM P t (es.getD i []) j).map fun v=>(v,.none,[id]) else none
  | _=>none
 | .aJ e j=>(qM P t e j).map fun v=>(v,.none,[])
 | _=>none
def rG (P:Program) (t:TypeId) (a v:V) (H:View):Out:=match a with
 | .ptr id i j=>match H id with
  | .arr esz es =>
   if i < es.length∧v.cells.length=P.cellsOf t∧j+v.cells.length≤esz∧v.cells.all aO=true∧(P.info? t).isSome=true
   then some (.any,.fk id (.arr esz (es.set i (fJ (es.getD i []) j v.cells))),[id]) else none
  | _=>none
 | _=>none
def mG (cs:List V) (n:Nat):Out :=
 if cs.all aO=true then some (.ptr n 0 0,.new (.arr cs.length [cs]),[]) else none
def mb (size:Nat):List (List V)→List (Nat × V)→Option (List (List V))
 | es,[]=>some es
 | es,(i,x) :: r=>if x.cells.length=size∧i < es.length∧x.cells.all aO=true then mb size (es.set i x.cells) r else none
def iM (P:Program) (t:TypeId) (len:Nat) (parts:List (Nat × V)) (n:Nat):Out:=match cY P t with
 | none=>none
 | some e=>match P.info? e with
  | none=>none
  | some i =>
   if len * i.size > 2 ^ 24 then none
   else if len=0 then (if parts.isEmpty then some (.emp 2,.none,[]) else none)
   else if i.size=0 then none
   else match zeroCells P e with
    | none=>none
    | some z=>if z.length=i.size∧z.all aO=true then
      match mb i.size (List.replicate len z) parts with
      | some es=>some (.sl n 0 len i.size,.new (.arr i.size es),[])
      | none=>none
     else none
def xP (place:Nat→Option (Nat × Nat)):List V→List (Nat × V)→Option (List V)
 | cs,[]=>some cs
 | cs,(i,x) :: r=>match place i with
  | none=>none
  | some (off,size)=>if x.cells.length=size∧off+size≤cs.length∧x.cells.all aO=true then xP place (fJ cs off x.cells) r else none
def placeOf (P:Program) (t:TypeId) (i:Nat):Option (Nat × Nat):=(qF P t i).map fun (a,b,_)=>(a,b)
def mN (P:Program) (t:TypeId):Bool:=match P.underlying t with
 | some (.struct fs)=>fs.toList.all fun f=>(P.info? f.type).isSome
 | _=>false
def wD (P:Program) (t:TypeId) (parts:List (Nat × V)):Out:=match P.underlying t,zeroV P t with
 | some (.struct _),some (.agg z)=>if mN P t=true then (xP (placeOf P t) z parts).map fun cs=>(.agg cs,.none,[]) else none
 | _,_=>none
def mf (P:Program) (t:TypeId) (x:V) (f:Nat):Out:=match qF P t f with
 | some (off,s,_)=>if s=0 then none else match x with
  | .ptr id i j=>some (.ptr id i (j+off),.none,[])
  | .aJ e j=>some (.aJ e (j+off),.none,[])
  | _=>none
 | none=>none
def wH (P:Program) (t:TypeId) (x:V) (f:Nat):Out:=match qF P t f,x with
 | some (off,_,ft),.agg cs=>(qM P ft cs off).map fun v=>(v,.none,[])
 | _,_=>none
def ml (P:Program) (t:TypeId) (x i:V):Out:=match asNat i with
 | none=>none
 | some q=>match P.underlying t with
  | some (.slice e)=>match P.info? e with
   | none=>none
   | some ti=>match x with
    | .sl id off len esz=>if q < len∧esz=ti.size then some (.ptr id (off+q) 0,.none,[]) else none
    | .aE es=>if q < es.length∧(es.getD q []).length=ti.size then some (.aJ (es.getD q []) 0,.none,[]) else none
    | _=>none
  | some (.array len e)=>match P.info? e with
   | none=>none
   | some ti=>if q < len then match x with
    | .ptr id i j=>some (.ptr id i (j+q * ti.size),.none,[])
    | .aJ e j=>some (.aJ e (j+q * ti.size),.none,[])
    | _=>none
    else none
  | _=>none
def bound (d:Nat):Option V→Option Nat
 | none=>some d
 | some v=>asNat v
def tj (P:Program) (t:TypeId) (x:V) (lo hi mx:Option V):Out:=match cY P t with
 | none=>none
 | some e=>match P.info? e with
  | none=>none
  | some ti=>match mx with
   | some m=>match bound 0 lo,bound 0 hi,asNat m with
    | some 0,some 0,some 0=>if hi.isNone then none else match x with
     | .sl _ _ _ _ | .aE _ | .emp _ | .dS=>some (.emp 0,.none,[])
     | _=>none
    | _,_,_=>none
   | none=>match x with
    | .sl id off len esz=>match bound 0 lo,bound len hi with
     | some l,some h=>if l≤h∧h≤len∧esz=ti.size then some (.sl id (off+l) (h - l) esz,.none,[]) else none
     | _,_=>none
    | .aE es=>match bound 0 lo,bound es.length hi with
     | some l,some h=>if l≤h∧h≤es.length∧(es.all fun e=>e.length == ti.size)=true then some (.aE ((es.drop l).take (h - l)),.none,[]) else none
     | _,_=>none
    | .emp k=>match bound 0 lo,bound 0 hi with
     | some 0,some 0=>some (.emp k,.none,[])
     | _,_=>none
    | _=>none
def mc (P:Program) (t:TypeId) (len cap:V) (n:Nat):Out:=match cY P t with
 | none=>none
 | some e=>match P.info? e with
  | none=>none
  | some ti=>match asNat len,asNat cap with
   | some l,some c =>
    if l≤c∧c < aB∧ti.bytes * c < aB then
     (
      if c=0 then some (.emp 2,.none,[])
      else if ti.size=0 then none
      else match zeroCells P e with
       | none=>none
       | some z=>if z.length=ti.size∧z.all aO=true then some (.sl n 0 l ti.size,.new (.arr ti.size (List.replicate l z)),[]) else none)
    else none
   | _,_=>none
def nM (P:Program) (at0:TypeId) (s x:V) (H:View) (n:Nat):Out:=match cY P at0,bI H x with
 | some e,some (xs,rd)=>match P.info? e with
  | none=>none
  | some ti =>
   if xs.isEmpty then (match s with
    | .emp _ | .dS | .aE _ | .sl _ _ _ _=>some (s,.none,[])
    | _=>none)
   else if ti.size=0∨¬ ((zeroCells P e).map List.length=some ti.size)∨¬ ((xs.all fun e=>e.length == ti.size && e.all aO)=true) then none
   else match s with
    | .emp _=>if xs.length * ti.bytes < aB∧xs.length < aB then some (.sl n 0 xs.length ti.size,.new (.arr ti.size xs),rd) else none
    | .sl id off len esz=>match H id with
     | .arr _ es =>
      if off+len≤es.length∧esz=ti.size∧(len+xs.length) * ti.bytes < aB∧len+xs.length < aB
      then some (.sl n 0 (len+xs.length) esz,.fa id (.arr esz ((es.drop off).take len ++ xs)),id :: rd) else none
     | _=>none
    | _=>none
 | _,_=>none
def G2 (P:Program) (at0:TypeId) (x:V):Out:=match cY P at0,x with
 | some _,.emp _=>some (iL 0,.none,[])
 | _,_=>none
def wX (P:Program) (at0:TypeId) (s x:V) (n:Nat):Out:=match cY P at0,asNat x,s with
 | some e,some l,.emp k=>match P.info? e,zeroCells P e with
  | some ti,some z=>if l=0 then some (.emp k,.none,[]) else if z.length=ti.size∧z.all aO=true∧ti.size≠0∧l * ti.bytes < aB∧l < aB then some (.sl n 0 l ti.size,.new (.arr ti.size (List.replicate l z)),[]) else none
  | _,_=>none
 | _,_,_=>none
def dY:List (List V)→Nat→List (List V)→List (List V)
 | es,_,[]=>es
 | es,i,x :: r=>dY (es.set i x) (i+1) r
def cH:V→Option Nat
 | .emp _ | .dS=>some 0
 | .aE es=>some es.length
 | .sl _ _ len _=>some len
 | _=>none
def xH (P:Program) (at0:TypeId) (d x:V) (H:View):Out:=match cY P at0,bI H x,cH d with
 | some e,some (xs,rd),some dl=>match P.info? e with
  | none=>none
  | some ti =>
   if (xs.take dl).isEmpty then some (iL 0,.none,[])
   else match d with
    | .sl id off len esz=>match H id with
     | .arr _ es =>
      if off+len≤es.length∧esz=ti.size∧ti.size≠0∧((xs.all fun e=>e.length == ti.size && e.all aO)=true)
      then some (iL (xs.take dl).length,.fk id (.arr esz (dY es off (xs.take dl))),id :: rd) else none
     | _=>none
    | _=>none
 | _,_,_=>none
def vV (P:Program) (at0:TypeId) (d:V) (H:View):Out:=match cY P at0,cH d with
 | some e,some dl=>if dl=0 then some (.bp [],.none,[]) else match d,P.info? e,zeroCells P e with
  | .sl id off len esz,some ti,some z=>match H id with
   | .arr _ es=>if off+len≤es.length∧esz=ti.size∧ti.size≠0∧z.length=ti.size∧z.all aO=true then some (.bp [],.fk id (.arr esz (dY es off (List.replicate len z))),[id]) else none
   | _=>none
  | _,_,_=>none
 | _,_=>none
def gf (P:Program) (t:TypeId) (m k:V) (ok:Bool) (H:View):Out:=match dA P t with
 | none=>none
 | some (kt,et)=>match zeroV P et with
  | none=>none
  | some z =>
   let fin (v:V) (b:Bool) (rd:List Nat):Out:=some (if ok then .bp [v,.val (.bool b)] else v,.none,rd)
   match m with
   | .mp id=>match H id with
    | .map es _=>match mZ P kt k es.isEmpty es with
     | some (some i)=>match es[i]? with
      | some (_,v,_)=>fin v true [id]
      | none=>none
     | some none=>fin z false [id]
     | none=>none
    | _=>none
   | _=>none
def sameKey (old new:V):Bool:=match dq old,dq new with
 | some a,some b=>Instr.sameBits 10000 a b
 | _,_=>false
def fy (P:Program) (t:TypeId) (m k v:V) (H:View):Out:=match dA P t,m with
 | some (kt,_),.mp id=>match H id with
  | .map es c=>match mZ P kt k false es with
   | some (some i)=>match es[i]? with
    | some (k0,_,b)=>if sameKey k0 k=true then some (.any,.fk id (.map (es.set i (k,v,b)) c),[id]) else none
    | none=>none
   | some none=>some (.any,.fk id (.map (es ++ [(k,v,c)]) (c+1)),[id])
   | none=>none
  | _=>none
 | _,_=>none
def ey (P:Program) (t:TypeId) (m k:V) (H:View):Out:=match dA P t,m with
 | some (kt,et),.mp id=>match H id with
  | .map es c=>match mZ P kt k false es with
   | some (some i)=>match es[i]? with
    | some (k0,v,b)=>if sameKey k0 k=true then some (.bp [v,iL b],.fk id (.map (es.set i (k,v,b)) c),[id]) else none
    | none=>none
   | some none=>match zeroV P et with
    | some z=>some (.bp [z,iL c],.fk id (.map (es ++ [(k,z,c)]) (c+1)),[id])
    | none=>none
   | none=>none
  | _=>none
 | _,_=>none
def kG (m s v:V) (H:View):Out:=match m,asNat s with
 | .mp id,some q=>match H id with
  | .map es c=>match es.findIdx? (fun e=>e.2.2 == q) with
   | some i=>match es[i]? with
    | some (k,_,b)=>some (.any,.fk id (.map (es.set i (k,v,b)) c),[id])
    | none=>none
   | none=>none
  | _=>none
 | _,_=>none
def vJ (P:Program) (t:TypeId) (m k:V) (H:View):Out:=match dA P t,m with
 | some (kt,_),.mp id=>match H id with
  | .map es c=>match mZ P kt k es.isEmpty es with
   | some (some i)=>some (.any,.fk id (.map (es.eraseIdx i) c),[id])
   | some none=>some (.any,.none,[id])
   | none=>none
  | _=>none
 | _,_=>none
def uN (P:Program) (t:TypeId) (x:V) (H:View):Out:=match P.underlying t with
 | some (.slice _)=>(cH x).map fun n=>(iL n,.none,[])
 | some (.map _ _)=>match x with
  | .mp id=>match H id with
   | .map es _=>some (iL es.length,.none,[id])
   | _=>none
  | .val (.map none)=>some (iL 0,.none,[])
  | _=>none
 | some .string=>match x with
  | .val (.string s)=>some (iL s.size,.none,[])
  | _=>none
 | some (.array n _)=>some (iL n,.none,[])
 | _=>none
def C5 (x:V) (H:View):Out:=match x with
 | .ptr id 0 0=>match H id with
  | .xm s pos =>
   if pos < s.size then
    some (.bp [.val (.bool true),iL pos,.val (.int .i32 (Utf8.decode s pos).1)],.fk id (.xm s (pos+(Utf8.decode s pos).2)),[id])
   else some (.bp [.val (.bool false)],.none,[id])
  | _=>none
 | _=>none
def gX (s:ByteArray):List (List V):=s.data.toList.map fun b=>[.val (.int .u8 b.toNat)]
def ll (P:Program) (s d:TypeId):Bool:=match P.underlying s,P.underlying d with
 | some (.slice _),_=>true
 | _,some (.slice _)=>true
 | _,_=>false
def nA (P:Program) (s d:TypeId) (x:V) (H:View) (n:Nat):Out:=match P.underlying s,P.underlying d,x with
 | some (.slice e),some .string,x=>match P.underlying e with
  | some (.int .u8)=>match bI H x,cH x with
   | some (xs,rd),some _=>(lI xs).map fun l=>(.val (.string ⟨l.toArray⟩),.none,rd)
   | _,_=>none
  | _=>none
 | some .string,some (.slice e),.val (.string s)=>match P.underlying e with
  | some (.int .u8)=>some (.sl n 0 s.size 1,.new (.arr 1 (gX s)),[])
  | _=>none
 | some (.slice _),some (.slice e),.sl id off len esz=>if s=d∧len≠0 then (match P.underlying e with
  | some (.int .u8)=>match H id with
   | .arr z es=>some (.sl id off len esz,.fk id (.arr z es),[id])
   | _=>none
  | _=>none) else none
 | _,_,_=>none
def fh:Nat→V→Option Bool
 | 0,.emp 1=>some true
 | 0,.emp 2 | 0,.dS=>some false
 | 0,.sl _ _ (_+1) _=>some false
 | 0,.aE (_ :: _)=>some false
 | 1,.ptr _ _ _ | 1,.aJ _ _ | 2,.mp _ | 3,.fn _ _ _=>some false
 | 1,.val (.pointer none) | 2,.val (.map none) | 3,.val .nilFunc=>some true
 | _,_=>none
def jM (P:Program) (t:TypeId):Option Nat:=match P.underlying t with
 | some (.slice _)=>some 0
 | some (.pointer _)=>some 1
 | some (.map _ _)=>some 2
 | some (.func _ _ _)=>some 3
 | _=>none
def Ey (P:Program) (t:TypeId) (x y:V):Option Bool:=match jM P t with
 | some k=>match fh k x,fh k y with
  | some true,some b=>some b
  | some b,some true=>some b
  | _,_=>none
 | none=>none
def dQ (P:Program) (o:Oper) (T:Env):Out :=
 if o.op.operands.all (fun x=>(dq (ev T x)).isSome)=true then
  match bD P (execOp (fun x=>(dq (ev T x)).getD undef) o) with
  | some (.value v)=>if plain v then some (.val v,.none,[]) else none
  | _=>none
 else none
def isStr (P:Program) (o:Op):Bool:=match o with
 | .range t _=>(match P.underlying t with | some .string=>true | _=>false)
 | _=>false
def qK (P:Program) (t:TypeId):Bool:=match P.underlying t with
 | some (.int _)=>false
 | some _=>true
 | none=>false
def isInt (P:Program) (t:TypeId):Bool:=match P.underlying t with
 | some (.int _)=>true
 | _=>false
def cp (P:Program) (o:Oper) (T:Env) (H:View) (n:Nat):Out:=match o.op with
 | .move x | .assign x=>some (ev T x,.none,[])
 | .pick c a b=>match ev T c with
  | .val (.bool t)=>some (if t then ev T a else ev T b,.none,[])
  | _=>none
 | .alloc e=>match zeroCells P e with
  | some z=>mG z n
  | none=>none
 | .box _ x=>mG (ev T x).cells n
 | .build t parts=>wD P t (parts.toList.map fun (i,x)=>(i,ev T x))
 | .buildSlice t len parts=>iM P t len (parts.toList.map fun (i,x)=>(i,ev T x)) n
 | .load t a=>na P t (ev T a) H
 | .store t a v=>rG P t (ev T a) (ev T v) H
 | .nilCheck x=>match ev T x with
  | .ptr id i j=>some (.ptr id i j,.none,[])
  | .aJ e j=>some (.aJ e j,.none,[])
  | .fn f a b=>some (.fn f a b,.none,[])
  | _=>none
 | .fieldAddr t x f=>mf P t (ev T x) f
 | .field t x f=>wH P t (ev T x) f
 | .indexAddr t x i=>ml P t (ev T x) (ev T i)
 | .slice t x lo hi mx=>match ev T x with
  | .val _=>dQ P o T
  | y=>tj P t y (lo.map (ev T)) (hi.map (ev T)) (mx.map (ev T))
 | .makeSlice t l c=>mc P t (ev T l) (ev T c) n
 | .makeMap _ r=>match r with
  | none=>some (.mp n,.new (.map [] 0),[])
  | some _=>none
 | .makeFunc (.func f) first cap=>some (.fn f (first.toList.map (ev T)) (cap.toList.map (ev T)),.none,[])
 | .lookup t m k ok=>gf P t (ev T m) (ev T k) ok H
 | .mapUpdate t m k v=>fy P t (ev T m) (ev T k) (ev T v) H
 | .insert t m k v=>fy P t (ev T m) (ev T k) (ev T v) H
 | .mapEntry t m k=>ey P t (ev T m) (ev T k) H
 | .entryStore _ m s v=>kG (ev T m) (ev T s) (ev T v) H
 | .extract t i=>match ev T t with
  | .bp vs=>if i < vs.length then some (vs.getD i .any,.none,[]) else none
  | _=>none
 | .range _ x=>match ev T x with
  | .val (.string s)=>if isStr P o.op=true then some (.ptr n 0 0,.new (.xm s 0),[]) else none
  | _=>none
 | .next it true=>C5 (ev T it) H
 | .convert s d x=>if ll P s d=true then nA P s d (ev T x) H n else dQ P o T
 | .call { callee:=.builtin b,args,argTypes }=>match b,args.toList with
  | .len,[x]=>if 1≤argTypes.size then uN P (argTypes.getD 0 0) (ev T x) H else none
  | .append,[s,x]=>if 2≤argTypes.size∧qK P (argTypes.getD 1 0)=true then nM P (argTypes.getD 0 0) (ev T s) (ev T x) H n else if 2≤argTypes.size∧isInt P (argTypes.getD 1 0)=true then wX P (argTypes.getD 0 0) (ev T s) (ev T x) n else none
  | .cap,[x]=>if 1≤argTypes.size then G2 P (argTypes.getD 0 0) (ev T x) else none
  | .copy,[d,x]=>if 1≤argTypes.size then xH P (argTypes.getD 0 0) (ev T d) (ev T x) H else none
  | .delete,[m,k]=>if 1≤argTypes.size then vJ P (argTypes.getD 0 0) (ev T m) (ev T k) H else none
  | .clear,[d]=>if 1≤argTypes.size then vV P (argTypes.getD 0 0) (ev T d) H else none
  | .min,_ | .max,_ | .complex,_ | .real,_ | .imag,_=>dQ P o T
  | _,_=>none
 | .binOp op t x y _=>if (jM P t).isSome=true then (match op,Ey P t (ev T x) (ev T y) with
   | .eql,some b=>some (.val (.bool b),.none,[])
   | .neq,some b=>some (.val (.bool (!b)),.none,[])
   | _,_=>none)
  else dQ P o T
 | .unOp .. | .index ..=>dQ P o T
 | _=>none
abbrev Mu:=Nat→Option (Nat × Nat × Nat)
def cellAt (hp:Array Obj) (b k:Nat):Option Value:=match hp[b]? with
 | some (.cells c _ _)=>c[k]?
 | _=>none
theorem ox (w:World) (b k:Nat):w.cell? ⟨b,k,none⟩=cellAt w.heap b k:=by
 simp only[World.cell?,cellAt]
 cases w.heap[b]? with
 | none=>rfl
 | some o=>cases o <;> simp
inductive az (Z:Nat→Prop) (μ:Mu) (hp:Array Obj):V→Value→Prop
 | any (x:Value):az Z μ hp .any x
 | val (v:Value):plain v=true→az Z μ hp (.val v) v
 | emp (k:Nat) (a:Option Addr):(k=1→a=none)→(k=2→a≠none)→az Z μ hp (.emp k) (.slice a 0 0)
 | dS (a:Addr) (cap:Nat):az Z μ hp .dS (.slice (some a) 0 cap)
 | iX (a:Option Addr) (cap:Nat):(a=none→cap=0)→az Z μ hp (.aE []) (.slice a 0 cap)
 | aE (es:List (List V)) (b off esz cap:Nat) (c:Nat→Nat→Value):Z b→es.length≤cap →
  (∀ i,i < es.length→(es.getD i []).length=esz) →
  (∀ i j,i < es.length→j < esz→cellAt hp b (off+i * esz+j)=some (c i j)) →
  (∀ i j,i < es.length→j < esz→az Z μ hp ((es.getD i []).getD j .any) (c i j)) →
  az Z μ hp (.aE es) (.slice (some ⟨b,off,none⟩) es.length cap)
 | pO (id off esz:Nat) (a:Option Addr):az Z μ hp (.sl id off 0 esz) (.slice a 0 0)
 | sl (id off len esz b o0 cap:Nat) (c:Array Value) (e:TypeId) (f:Nat × Nat):μ id=some (b,o0,esz)→len≤cap →
  hp[b]?=some (.cells c e f)→o0+(off+cap) * esz≤c.size →
  az Z μ hp (.sl id off len esz) (.slice (some ⟨b,o0+off * esz,none⟩) len cap)
 | ptr (id i j b o0 esz:Nat):μ id=some (b,o0,esz)→az Z μ hp (.ptr id i j) (.pointer (some ⟨b,o0+i * esz+j,none⟩))
 | aJ (e:List V) (j b off:Nat) (c:Nat→Value):Z b→(∀ k,k < e.length→cellAt hp b (off+k)=some (c k)) →
  (∀ k,k < e.length→az Z μ hp (e.getD k .any) (c k))→az Z μ hp (.aJ e j) (.pointer (some ⟨b,off+j,none⟩))
 | mp (id b o0 esz:Nat):μ id=some (b,o0,esz)→az Z μ hp (.mp id) (.map (some b))
 | fn (f:FuncId) (xs ys:List V) (aas bs:Array Value):xs.length=aas.size→ys.length=bs.size →
  (∀ i,i < xs.length→az Z μ hp (xs.getD i .any) (aas.getD i undef))→(∀ i,i < ys.length→az Z μ hp (ys.getD i .any) (bs.getD i undef)) →
  az Z μ hp (.fn f xs ys) (.func (.func f) aas bs)
 | agg (cs:List V) (aas:Array Value):cs.length=aas.size→(∀ i,i < cs.length→az Z μ hp (cs.getD i .any) (aas.getD i undef))→az Z μ hp (.agg cs) (.agg aas)
 | bp (cs:List V) (aas:Array Value):cs.length=aas.size→(∀ i,i < cs.length→az Z μ hp (cs.getD i .any) (aas.getD i undef))→az Z μ hp (.bp cs) (.tuple aas)
def gA (Z:Nat→Prop) (μ:Mu) (hp:Array Obj) (vs:List V) (xs:List Value):Prop :=
 vs.length=xs.length∧∀ i,i < vs.length→az Z μ hp (vs.getD i .any) (xs.getD i undef)
def fV (hp hp':Array Obj):Prop:=∀ (b:Nat) (c:Array Value) (e:TypeId) (f:Nat × Nat),hp[b]?=some (.cells c e f)→∃ (c':Array Value) (f':Nat × Nat),hp'[b]?=some (.cells c' e f')∧c'.size=c.size
theorem fV.refl (hp:Array Obj):fV hp hp:=fun _ c _ f h=>⟨c,f,h,rfl⟩
theorem fV.trans {a b c:Array Obj} (h:fV a b) (k:fV b c):fV a c:=fun i x e f d =>
 let ⟨c1,f1,h1,s1⟩:=h i x e f d
 let ⟨c2,f2,g,s2⟩:=k i c1 e f1 h1
 ⟨c2,f2,g,s2.trans s1⟩
structure ix (Z Z':Nat→Prop) (μ μ':Mu) (hp hp':Array Obj):Prop where
 z:∀ b,Z b→Z' b
 zz:∀ b,Z b→hp'[b]?=hp[b]?
 mu:∀ id x,μ id=some x→μ' id=some x
 shape:fV hp hp'
theorem ix.refl (Z:Nat→Prop) (μ:Mu) (hp:Array Obj):ix Z Z μ μ hp hp:=⟨fun _ h=>h,fun _ _=>rfl,fun _ _ h=>h,fV.refl _⟩
theorem ix.trans {Z f e:Nat→Prop} {μ μ' d:Mu} {a b c:Array Obj} (h:ix Z f μ μ' a b) (k:ix f e μ' d b c):ix Z e μ d a c :=
 ⟨fun i hi=>k.z i (h.z i hi),fun i hi=>(k.zz i (h.z i hi)).trans (h.zz i hi),fun i x g=>k.mu i x (h.mu i x g),h.shape.trans k.shape⟩
theorem zV {hp a:Array Obj} {b:Nat} (h:a[b]?=hp[b]?) (k:Nat):cellAt a b k=cellAt hp b k:=by simp[cellAt,h]
theorem az.mono {Z u:Nat→Prop} {μ μ':Mu} {hp l:Array Obj} (m:ix Z u μ μ' hp l) {v:V} {x:Value} (h:az Z μ hp v x):az u μ' l v x:=by
 induction h with
 | any x=>exact .any x
 | val v w=>exact .val v w
 | emp k a h1 o=>exact .emp k a h1 o
 | dS a cap=>exact .dS a cap
 | iX a cap h1=>exact .iX a cap h1
 | aE es b off esz cap c n hle p q _ g=>exact .aE es b off esz cap c (m.z _ n) hle p (fun i j hi y=>by rw[zV (m.zz _ n)]; exact q i j hi y) g
 | pO id off esz a=>exact .pO id off esz a
 | sl id off len esz b o0 cap c e f hm hle A hs =>
  obtain ⟨B,C,r,D⟩:=m.shape b c e f A
  exact .sl id off len esz b o0 cap B e C (m.mu _ _ hm) hle r (by omega)
 | ptr id i j b o0 esz hm=>exact .ptr id i j b o0 esz (m.mu _ _ hm)
 | aJ e j b off c n q _ g=>exact .aJ e j b off c (m.z _ n) (fun k hk=>by rw[zV (m.zz _ n)]; exact q k hk) g
 | mp id b o0 esz hm=>exact .mp id b o0 esz (m.mu _ _ hm)
 | fn f xs ys d E h1 o _ _ s t=>exact .fn f xs ys d E h1 o s t
 | agg cs d h1 _ g=>exact .agg cs d h1 g
 | bp cs d h1 _ g=>exact .bp cs d h1 g
def ez (Z:Nat→Prop) (μ:Mu) (hp:Array Obj) (id:Nat):c6→Prop
 | .dead=>True
 | .arr esz es=>∀ b o0 s,μ id=some (b,o0,s)→s=esz ∧
  (∃ (c:Array Value) (e:TypeId) (f:Nat × Nat),hp[b]?=some (.cells c e f)∧(f.1=f.2∨c.size≤f.1)∧o0+es.length * esz≤c.size) ∧
  (∀ i,i < es.length→(es.getD i []).length=esz) ∧
  (∀ i j,i < es.length→j < esz→∃ x,cellAt hp b (o0+i * esz+j)=some x∧az Z μ hp ((es.getD i []).getD j .any) x)
 | .map es clock=>∀ b o0 s,μ id=some (b,o0,s)→∃ a:Array MapEntry,hp[b]?=some (.map a clock)∧a.size=es.length ∧
  ∀ i,i < es.length→∃ y,a[i]?=some y∧az Z μ hp (es.getD i default).1 y.key∧az Z μ hp (es.getD i default).2.1 y.val∧y.born=(es.getD i default).2.2
 | .xm s pos=>∀ b o0 t,μ id=some (b,o0,t)→o0=0∧hp[b]?=some (.stringIter s pos)
theorem ez.mono {Z p:Nat→Prop} {μ μ':Mu} {hp g:Array Obj} (m:ix Z p μ μ' hp g) {id:Nat} {o:c6} (h:ez Z μ hp id o)
  (k:μ' id=μ id) (l:∀ b o0 s,μ id=some (b,o0,s)→g[b]?=hp[b]?):ez p μ' g id o:=by
 cases o with
 | dead=>trivial
 | arr esz es =>
  intro b o0 s d
  rw[k] at d
  obtain ⟨h1,⟨c,e,f,q,r,hs⟩,n,u⟩:=h b o0 s d
  refine ⟨h1,⟨c,e,f,by rw[l b o0 s d]; exact q,r,hs⟩,n,fun i j hi v=>?_⟩
  obtain ⟨x,w,z⟩:=u i j hi v
  exact ⟨x,by rw[zV (l b o0 s d)]; exact w,z.mono m⟩
 | map es clock =>
  intro b o0 s d
  rw[k] at d
  obtain ⟨a,A,hs,n⟩:=h b o0 s d
  refine ⟨a,by rw[l b o0 s d]; exact A,hs,fun i hi=>?_⟩
  obtain ⟨y,B,C,k2,D⟩:=n i hi
  exact ⟨y,B,C.mono m,k2.mono m,D⟩
 | xm s pos =>
  intro b o0 t d
  rw[k] at d
  obtain ⟨h1,E⟩:=h b o0 t d
  exact ⟨h1,by rw[l b o0 t d]; exact E⟩
structure iH (Z:Nat→Prop) (μ:Mu) (hp:Array Obj) (H:View):Prop where
 obj:∀ id,ez Z μ hp id (H id)
 inj:∀ i j b o s o' s',i≠j→μ i=some (b,o,s)→μ j=some (b,o',s')→H i=.dead∨H j=.dead
 lt:∀ id b o s,μ id=some (b,o,s)→b < hp.size
 cQ:∀ b,Z b→b < hp.size
 ie:∀ id b o s,μ id=some (b,o,s)→¬ Z b
def Mu.set (μ:Mu) (n:Nat) (x:Nat × Nat × Nat):Mu:=fun id=>if id=n then some x else μ id
def View.set (H:View) (n:Nat) (o:c6):View:=fun id=>if id=n then o else H id
def bA.view (H:View) (n:Nat):bA→View
 | .none=>H
 | .new o=>H.set n o
 | .fk id o=>H.set id o
 | .fa id o=>(H.set id .dead).set n o
structure eM (w w':World):Prop where
 os:w'.os=w.os
 tape:w'.tape=w.tape
 output:w'.output=w.output
 size:w.heap.size≤w'.heap.size
theorem eM.refl (w:World):eM w w:=⟨rfl,rfl,rfl,Xo _⟩
theorem eM.trans {a b c:World} (h:eM a b) (k:eM b c):eM a c:=⟨k.os.trans h.os,k.tape.trans h.tape,k.output.trans h.output,X7 h.size k.size⟩
def gF (hp hp':Array Obj) (p:Nat→Prop):Prop:=∀ b,b < hp.size→¬ p b→hp'[b]?=hp[b]?
def nj (Z:Nat→Prop) (μ μ':Mu) (hp hp':Array Obj) (n:Nat):bA→Prop
 | .none=>μ'=μ∧gF hp hp' (fun _=>False)
 | .new o=>∃ b o0 s,hp.size≤b∧b < hp'.size∧μ'=μ.set n (b,o0,s)∧gF hp hp' (fun _=>False)∧ez Z μ' hp' n o
 | .fk id o=>∃ b o0 s,μ id=some (b,o0,s)∧μ'=μ∧gF hp hp' (· = b)∧fV hp hp'∧ez Z μ' hp' id o
 | .fa id o=>∃ b o0 s,μ'=μ.set n (b,o0,s)∧ez Z μ' hp' n o ∧
  ((hp.size≤b∧b < hp'.size∧gF hp hp' (fun _=>False))∨((∃ o1 s1,μ id=some (b,o1,s1))∧gF hp hp' (· = b)∧fV hp hp'))
theorem gF.rv {hp a:Array Obj} (h:gF hp a (fun _=>False)):fV hp a:=by
 intro b c e f g
 have d:b < hp.size:=by
  rcases XB b hp.size with h | h
  ·exact h
  ·simp[YH h] at g
 exact ⟨c,f,by rw[h b d (fun x=>x)]; exact g,rfl⟩
theorem nj.mono {Z:Nat→Prop} {μ μ':Mu} {hp i:Array Obj} {n:Nat} {eff:bA} (h:nj Z μ μ' hp i n eff) (j:eff.fresh (μ n=none))
  (cQ:∀ b,Z b→b < hp.size) (ie:∀ id b o s,μ id=some (b,o,s)→¬ Z b):ix Z Z μ μ' hp i:=by
 have c:μ n=none→∀ x:Nat × Nat × Nat,∀ id y,μ id=some y→(μ.set n x) id=some y:=by
  intro j x id y m
  by_cases k:id=n
  ·subst k; simp[j] at m
  ·simp[Mu.set,k,m]
 cases eff with
 | none =>
  obtain ⟨rfl,d⟩:=h
  exact ⟨fun _ h=>h,fun b l=>d b (cQ b l) (fun x=>x),fun _ _ h=>h,d.rv⟩
 | new o =>
  obtain ⟨b,o0,s,_,_,rfl,d,_⟩:=h
  exact ⟨fun _ h=>h,fun b l=>d b (cQ b l) (fun x=>x),c j _,d.rv⟩
 | fk id o =>
  obtain ⟨b,o0,s,g,rfl,d,hs,_⟩:=h
  exact ⟨fun _ h=>h,fun f a=>d f (cQ f a) (fun e=>ie _ _ _ _ g (e ▸ a)),fun _ _ h=>h,hs⟩
 | fa id o =>
  obtain ⟨b,o0,s,rfl,_,h | ⟨⟨p,s1,g⟩,d,hs⟩⟩:=h
  ·exact ⟨fun _ h=>h,fun f a=>h.2.2 f (cQ f a) (fun x=>x),c j _,h.2.2.rv⟩
  ·exact ⟨fun _ h=>h,fun f a=>d f (cQ f a) (fun e=>ie _ _ _ _ g (e ▸ a)),c j _,hs⟩
theorem nj.size {Z:Nat→Prop} {μ μ':Mu} {hp d:Array Obj} {n:Nat} {eff:bA} (h:nj Z μ μ' hp d n eff) (lt:∀ id b o s,μ id=some (b,o,s)→b < hp.size) (hs:hp.size≤d.size) :
  ∀ id b o s,μ' id=some (b,o,s)→b < d.size:=by
 have hold:∀ id b o s,μ id=some (b,o,s)→b < d.size:=fun id b o s c=>XM (lt id b o s c) hs
 cases eff with
 | none=>obtain ⟨rfl,_⟩:=h; exact hold
 | new o =>
  obtain ⟨b,o0,s,_,j,rfl,_,_⟩:=h
  intro id f g i c
  by_cases a:id=n
  ·simp[Mu.set,a] at c; omega
  ·simp[Mu.set,a] at c; exact hold _ _ _ _ c
 | fk id o=>obtain ⟨b,o0,s,e,rfl,_⟩:=h; exact hold
 | fa id o =>
  obtain ⟨b,o0,s,rfl,_,h | ⟨⟨k,s1,e⟩,_,_⟩⟩:=h
  all_goals
   intro id f g i c
   by_cases a:id=n
   ·simp[Mu.set,a] at c
    first | omega | (obtain ⟨rfl,_,_⟩:=c; exact hold _ _ _ _ e)
   ·simp[Mu.set,a] at c; exact hold _ _ _ _ c
theorem iH.eff {Z:Nat→Prop} {μ μ':Mu} {hp z:Array Obj} {H:View} {n:Nat} {eff:bA} (h:iH Z μ hp H) (N:eff.fresh (μ n=none)) (hs:hp.size≤z.size)
  (he:nj Z μ μ' hp z n eff) (J:∀ id o,eff=.fk id o→H id≠.dead) (G:∀ id o,eff=.fa id o→H id≠.dead):iH Z μ' z (eff.view H n):=by
 have hm:=he.mono N h.cQ h.ie
 have m:=he.size h.lt hs
 have A:∀ b,Z b→b < z.size:=fun b O=>XM (h.cQ b O) hs
 cases eff with
 | none =>
  obtain ⟨rfl,D⟩:=he
  exact ⟨fun id=>(h.obj id).mono hm rfl (fun b o s c=>D b (h.lt _ _ _ _ c) (fun x=>x)),h.inj,m,A,h.ie⟩
 | new o =>
  obtain ⟨b,o0,s,P,Q,rfl,D,t⟩:=he
  refine ⟨fun id=>?_,?_,m,A,?_⟩
  ·by_cases a:id=n
   ·subst a; simpa [bA.view,View.set] using t
   ·have:=(h.obj id).mono hm (by simp[Mu.set,a]) (fun b o s c=>D b (h.lt _ _ _ _ c) (fun x=>x))
    simpa [bA.view,View.set,a] using this
  ·intro i j d w y B C u hi q
   by_cases h1:i=n
   ·by_cases r:j=n
    ·omega
    ·simp[Mu.set,h1] at hi; simp[Mu.set,r] at q
     have:=h.lt _ _ _ _ q; omega
   ·by_cases r:j=n
    ·simp[Mu.set,r] at q; simp[Mu.set,h1] at hi
     have:=h.lt _ _ _ _ hi; omega
    ·simp[Mu.set,h1] at hi; simp[Mu.set,r] at q
     simpa [bA.view,View.set,h1,r] using h.inj i j d w y B C u hi q
  ·intro id d w y c F
   by_cases h1:id=n
   ·simp[Mu.set,h1] at c; have:=h.cQ _ F; omega
   ·simp[Mu.set,h1] at c; exact h.ie _ _ _ _ c F
 | fk k o =>
  obtain ⟨b,o0,s,g,rfl,D,R,t⟩:=he
  have hk:=J k o rfl
  refine ⟨fun id=>?_,?_,m,A,h.ie⟩
  ·by_cases a:id=k
   ·subst a; simpa [bA.view,View.set] using t
   ·simp only[bA.view,View.set,a,if_false]
    by_cases hd:H id=.dead
    ·rw[hd]; trivial
    ·refine (h.obj id).mono hm rfl (fun d w y c=>D d (h.lt _ _ _ _ c) ?_)
     intro e
     subst e
     rcases h.inj id k _ _ _ _ _ a c g with h1 | h1
     ·exact hd h1
     ·exact hk h1
  ·intro i j d w y B C u hi q
   rcases h.inj i j _ _ _ _ _ u hi q with h1 | h1
   ·by_cases e:i=k
    ·exact absurd (e ▸ h1) hk
    ·left; simpa [bA.view,View.set,e] using h1
   ·by_cases e:j=k
    ·exact absurd (e ▸ h1) hk
    ·right; simpa [bA.view,View.set,e] using h1
 | fa k o =>
  obtain ⟨b,o0,s,rfl,t,l⟩:=he
  have hk:=G k o rfl
  have v:(μ.set n (b,o0,s)) n=some (b,o0,s):=by simp[Mu.set]
  refine ⟨fun id=>?_,?_,m,A,?_⟩
  ·by_cases a:id=n
   ·subst a; simpa [bA.view,View.set] using t
   ·by_cases f:id=k
    ·simp only[bA.view,View.set,a,if_false,f,if_true]
     split <;> first | trivial | (rename_i e; exact absurd (f.trans e) a)
    ·simp only[bA.view,View.set,a,if_false,f]
     by_cases hd:H id=.dead
     ·rw[hd]; trivial
     ·refine (h.obj id).mono hm (by simp[Mu.set,a]) (fun d w y c=>?_)
      rcases l with h1 | ⟨⟨K,s1,g⟩,D,_⟩
      ·exact h1.2.2 d (h.lt _ _ _ _ c) (fun x=>x)
      ·refine D d (h.lt _ _ _ _ c) ?_
       intro e
       subst e
       rcases h.inj id k _ _ _ _ _ f c g with h1 | h1
       ·exact hd h1
       ·exact hk h1
  ·intro i j d w y B C u hi q
   have key:∀ i d w y,i≠n→(μ.set n (b,o0,s)) i=some (d,w,y)→d=b→(bA.view H n (.fa k o)) i=.dead:=by
    intro p S T t1 I c e
    subst e
    simp only[Mu.set,Xd I] at c
    simp only[bA.view,View.set,Xd I]
    by_cases f:p=k
    ·simp[f]
    ·simp only[Xd f]
     rcases l with h1 | ⟨⟨K,s1,g⟩,_,_⟩
     ·have:=h.lt _ _ _ _ c; omega
     ·rcases h.inj p k _ _ _ _ _ f c g with h1 | h1
      ·exact h1
      ·exact absurd h1 hk
   by_cases h1:i=n
   ·have r:j≠n:=by omega
    right
    have E:d=b:=by
     rw[h1,v] at hi; simp at hi; exact hi.1.symm
    exact key j d B C r q E
   ·by_cases r:j=n
    ·left
     have E:d=b:=by
      rw[r,v] at q; simp at q; exact q.1.symm
     exact key i d w y h1 hi E
    ·simp only[Mu.set,h1,if_false] at hi
     simp only[Mu.set,r,if_false] at q
     simp only[bA.view,View.set,h1,r,if_false]
     by_cases L:i=k
     ·left; simp[L]
     ·by_cases M:j=k
      ·right; simp[M]
      ·simp only[L,M,if_false]
       exact h.inj i j _ _ _ _ _ u hi q
  ·intro id d w y c F
   by_cases h1:id=n
   ·rw[h1,v] at c
    simp at c
    obtain ⟨rfl,_,_⟩:=c
    rcases l with r | ⟨⟨K,s1,g⟩,_,_⟩
    ·have:=h.cQ _ F; omega
    ·exact h.ie _ _ _ _ g F
   ·simp only[Mu.set,h1,if_false] at c
    exact h.ie _ _ _ _ c F
theorem wi {Z:Nat→Prop} {μ:Mu} {hp:Array Obj} {v:V} {x:Value} (h:az Z μ hp v x) (a:aO v=true):x.oneCell'=true:=by
 cases h with
 | val _ b=>cases x <;> first | rfl | (simp[plain] at b)
 | any x=>simp[aO] at a
 | agg cs c h1 d=>simp[aO] at a
 | bp cs c h1 d=>simp[aO] at a
 | _=>rfl
theorem hU {Z:Nat→Prop} {μ:Mu} {hp:Array Obj} {v:V} {x:Value} (h:az Z μ hp v x) (o:v.cells.all aO=true):gA Z μ hp v.cells x.cells.toList:=by
 have one:∀ v x,az Z μ hp v x→x.cells = #[x]→gA Z μ hp [v] x.cells.toList:=by
  intro v x h p
  rw[p]
  exact ⟨rfl,fun i hi=>by
   simp at hi; subst hi; simpa using h⟩
 cases h with
 | agg cs g h1 d =>
  refine ⟨by simpa [V.cells,Value.cells] using h1,fun i hi=>?_⟩
  have:=d i (by simpa [V.cells] using hi)
  simpa [V.cells,Value.cells,List.getD,Xp] using this
 | any x=>simp[V.cells,aO] at o
 | bp cs g h1 d=>simp[V.cells,aO] at o
 | val _ m =>
  refine one _ _ (.val x m) ?_
  cases x <;> first | rfl | (simp[plain] at m)
 | emp k a h1 d=>exact one _ _ (.emp k a h1 d) rfl
 | dS a cap=>exact one _ _ (.dS a cap) rfl
 | iX a cap h1=>exact one _ _ (.iX a cap h1) rfl
 | aE es b off esz cap c h1 d l n q=>exact one _ _ (.aE es b off esz cap c h1 d l n q) rfl
 | pO id off esz a=>exact one _ _ (.pO id off esz a) rfl
 | sl id off len esz b o0 cap c e f h1 d l n=>exact one _ _ (.sl id off len esz b o0 cap c e f h1 d l n) rfl
 | ptr id i j b o0 esz h1=>exact one _ _ (.ptr id i j b o0 esz h1) rfl
 | aJ e j b off c h1 d l=>exact one _ _ (.aJ e j b off c h1 d l) rfl
 | mp id b o0 esz h1=>exact one _ _ (.mp id b o0 esz h1) rfl
 | fn f xs ys g r h1 d l n=>exact one _ _ (.fn f xs ys g r h1 d l n) rfl
theorem qE {P:Program} {t:TypeId} {i:TypeInfo} (h:P.info? t=some i) (w:World):(typeInfo t).run P w=.ok i w:=by
 simp[typeInfo,h]
theorem dK {P:Program} {t:TypeId} {i:TypeInfo} (h:P.info? t=some i) (w:World):(Go.sizeOf t).run P w=.ok i.size w:=by
 simp[Go.sizeOf,qE h]
theorem bw {P:Program} {t:TypeId} {d:TypeDesc} (h:P.underlying t=some d) (w:World):(underlying t).run P w=.ok d w:=by
 simp[underlying,h]
theorem kr {P:Program} {t:TypeId} {i:TypeInfo} {v:Value} (h:P.info? t=some i) (a:i.zero=some v) (w:World):(zeroValue t).run P w=.ok v w:=by
 simp[zeroValue,qE h,a]
theorem ud {P:Program} {t:TypeId} {b:Bool} (h:sM P t=some b) (w:World):(isAgg t).run P w=.ok b w:=by
 unfold sM at h
 cases hu:P.underlying t with
 | none=>simp[hu] at h
 | some d =>
  simp only[hu] at h
  simp only[isAgg,Sem.run_bind,bw hu,Result.andThen_ok]
  cases d <;> simp_all
def GS (Z:Nat→Prop) (μ:Mu) (hp:Array Obj) (b off:Nat) (cs:List V):Prop :=
 ∀ k,k < cs.length→∃ x,cellAt hp b (off+k)=some x∧az Z μ hp (cs.getD k .any) x
theorem qI {α:Type} {P:Program} : ∀ (s:Sem α) {a:α},bD P s=some a→∀ w,s.run P w=.ok a w:=by
 intro s
 induction s with
 | pure a=>intro c h w; simp[bD] at h; subst h; rfl
 | program k b=>intro a h w; simp only[bD] at h; simp only[Sem.run]; exact b P h w
 | _=>intro a h; simp[bD] at h
theorem pg {n:Nat} {p:Nat→Value→Prop} (h:∀ k,k < n→∃ x,p k x):∃ f:Nat→Value,∀ k,k < n→p k (f k):=by
 refine ⟨fun k=>if hk:k < n then Classical.choose (h k hk) else undef,fun k hk=>?_⟩
 simp only[hk,dif_pos]
 exact Classical.choose_spec (h k hk)
theorem jY (b o n:Nat):Addr.add ⟨b,o,none⟩ n=⟨b,o+n,none⟩:=by
 unfold Addr.add; split
 ·rename_i h; subst h; rfl
 ·rfl
theorem um {Z:Nat→Prop} {μ:Mu} {w:World} {P:Program} {b off j:Nat} {t:TypeId} {cs:List V} {v:V} (h:GS Z μ w.heap b off cs) (hp:qM P t cs j=some v) :
  ∃ x,(loadVar t ⟨b,off+j,none⟩).run P w=.ok x w∧az Z μ w.heap v x:=by
 unfold qM at hp
 cases hi:P.info? t with
 | none=>simp[hi] at hp
 | some i =>
  cases c:sM P t with
  | none=>simp[hi,c] at hp
  | some g =>
   simp only[hi,c] at hp
   cases g with
   | true =>
    simp only at hp
    split at hp
    ·rename_i hle
     simp at hp; subst hp
     have d:∀ k,k < i.size→∃ x,cellAt w.heap b (off+(j+k))=some x∧az Z μ w.heap (cs.getD (j+k) .any) x:=fun k hk=>h (j+k) (by omega)
     obtain ⟨f,e⟩:=pg d
     refine ⟨.agg ((List.range i.size).map f).toArray,?_,?_⟩
     ·simp only[loadVar,Sem.run_bind,ud c,Result.andThen_ok,if_true,dK hi]
      rw[run_loadCells w ⟨b,off+j,none⟩ i.size f (fun k hk=>by rw[jY,ox,Y4]; exact (e k hk).1)]
      rfl
     ·refine .agg _ _ (by simp; omega) (fun k hk=>?_)
      have a:k < i.size:=by simp at hk; omega
      have:=(e k a).2
      simpa [List.getD,a,YN,Ze,Xp] using this
    ·simp at hp
   | false =>
    simp only at hp
    split at hp
    ·rename_i hle
     simp at hp; subst hp
     obtain ⟨x,d,l⟩:=h j hle
     refine ⟨x,?_,by simpa [List.getD] using l⟩
     simp only[loadVar,Sem.run_bind,ud c,Result.andThen_ok,Xz,if_false,run_load,ox,d]
    ·simp at hp
theorem y0 {w:World} {b k:Nat} {v:Value} {c:Array Value} {e:TypeId} {f:Nat × Nat} (h:w.heap[b]?=some (.cells c e f)) :
  w.setCell ⟨b,k,none⟩ v = { w with heap:=w.heap.setIfInBounds b (.cells (c.setIfInBounds k v) e f) }:=by
 unfold World.setCell
 congr 1
 apply Array.ext_getElem?
 intro i
 simp only[Array.getElem?_modify,Yg]
 by_cases hi:b=i
 ·subst hi
  have a:b < w.heap.size:=by
   rcases XB b w.heap.size with d | d
   ·exact d
   ·simp[YH d] at h
  have g:w.heap[b]=.cells c e f:=by simpa [Xx a] using h
  simp[g,a]
 ·simp[hi]
theorem QL {w:World} {b k:Nat} {c:Array Value} {e:TypeId} {f:Nat × Nat} (h:w.heap[b]?=some (.cells c e f)) (a:¬ (f.1≤k∧k < f.2)):w.frozen? ⟨b,k,none⟩=false:=by
 simp only[World.frozen?,h]
 simp only[Bool.and_eq_false_iff,YO]
 omega
theorem qT {c:Array Value} {f:Nat × Nat} (h:f.1=f.2∨c.size≤f.1):∀ k,k < c.size→¬ (f.1≤k∧k < f.2):=by
 intro k hk; omega
theorem lK {P:Program} {b off:Nat} {e:TypeId} {f:Nat × Nat} : ∀ (xs:List Value) (i:Nat) (c:Array Value) (w:World),
  w.heap[b]?=some (.cells c e f)→(∀ k,k < c.size→¬ (f.1≤k∧k < f.2))→off+i+xs.length≤c.size→(∀ x∈xs,x.oneCell'=true) →
  ∃ d,(storeCells ⟨b,off,none⟩ xs i).run P w=.ok () { w with heap:=w.heap.setIfInBounds b (.cells d e f) }∧d.size=c.size ∧
   ∀ k,d[k]?=if off+i≤k∧k < off+i+xs.length then xs[k - (off+i)]? else c[k]?
 | [],i,c,w,h,_,_,_=>by
  refine ⟨c,?_,rfl,fun k=>?_⟩
  ·simp only[storeCells,Sem.run_pure]
   congr 1
   have:w.heap.setIfInBounds b (.cells c e f)=w.heap:=by
    apply Array.ext_getElem?
    intro k
    simp only[Yg]
    split
    ·rename_i hk
     subst hk
     split
     ·exact h.symm
     ·rename_i q; simp[YH (Nat.le_of_not_lt q)]
    ·rfl
   rw[this]
  ·rw[Xd (by simp only[XN]; omega)]
 | x :: xs,i,c,w,h,n,hs,o=>by
  simp only[Xt] at hs
  have g:b < w.heap.size:=by
   rcases XB b w.heap.size with j | j
   ·exact j
   ·simp[YH j] at h
  have a:w.cell? ⟨b,off+i,none⟩=some c[off+i]:=by
   rw[ox,cellAt,h]; simp[show off+i < c.size from by omega]
  have hw:(w.setCell ⟨b,off+i,none⟩ x).heap[b]?=some (.cells (c.setIfInBounds (off+i) x) e f):=by
   rw[y0 h]; simp[g]
  obtain ⟨d,hr,l,m⟩:=lK (P:=P) (off:=off) (f:=f) xs (i+1) (c.setIfInBounds (off+i) x) (w.setCell ⟨b,off+i,none⟩ x) hw (fun k hk=>n k (by simpa using hk)) (by simp; omega) (fun y r=>o y (XJ _ r))
  refine ⟨d,?_,by simpa using l,fun k=>?_⟩
  ·simp only[storeCells,Sem.run_bind,jY]
   rw[run_store P w _ x _ (o x Zf),a]
   simp only[QL h (n (off+i) (by omega)),Xz,if_false,Result.andThen_ok]
   rw[hr]
   congr 1
   rw[y0 h]
   simp[Array.setIfInBounds_setIfInBounds]
  ·rw[m]
   simp only[Xt]
   by_cases h1:off+i=k
   ·subst h1
    rw[Xd (by omega),Xg (by omega)]
    simp[show off+i < c.size from by omega]
   ·by_cases p:off+(i+1)≤k∧k < off+(i+1)+xs.length
    ·rw[Xg p,Xg (by omega)]
     rw[show k - (off+i)=(k - (off+(i+1)))+1 from by omega]
     simp
    ·rw[Xd p,Xd (by omega)]
     simp[h1]
theorem di (hp:Array Obj) (b:Nat) (o:Obj):gF hp (hp.setIfInBounds b o) (· = b):=by
 intro k _ hk
 simp only[Yg]
 rw[Xd (fun e=>hk e.symm)]
theorem js {hp:Array Obj} {b:Nat} {c a:Array Value} {e:TypeId} {f:Nat × Nat} (h:hp[b]?=some (.cells c e f)) (hs:a.size=c.size):fV hp (hp.setIfInBounds b (.cells a e f)):=by
 intro k x e' j hk
 simp only[Yg]
 by_cases i:b=k
 ·subst i
  rw[h] at hk
  simp only[Xe,Obj.cells.injEq] at hk
  obtain ⟨rfl,rfl,rfl⟩:=hk
  have d:b < hp.size:=by
   rcases XB b hp.size with g | g
   ·exact g
   ·simp[YH g] at h
  exact ⟨a,f,by simp[d],hs⟩
 ·exact ⟨x,j,by simp[i,hk],rfl⟩
theorem ej {hp:Array Obj} {b:Nat} {o:Obj} (h:b < hp.size):(hp.setIfInBounds b o)[b]?=some o:=by simp[h]
theorem fi {hp:Array Obj} {b:Nat} {o:Obj} (h:hp[b]?=some o):b < hp.size:=by
 rcases XB b hp.size with a | a
 ·exact a
 ·simp[YH a] at h
theorem ym (l cs:List V) (j:Nat) (a:j+cs.length≤l.length):(fJ l j cs).length=l.length:=by
 simp only[fJ,XV,X0,List.length_drop]; omega
theorem Fj (l cs:List V) (j k:Nat) (a:j+cs.length≤l.length) (h:j≤k∧k < j+cs.length):(fJ l j cs).getD k .any=cs.getD (k - j) .any:=by
 simp only[fJ,Xb,XO]
 rw[XP (by simp; omega),XA (by simp; omega)]
 congr 2; simp; omega
theorem DY (l cs:List V) (j k:Nat) (a:j+cs.length≤l.length) (h:¬ (j≤k∧k < j+cs.length)):(fJ l j cs).getD k .any=l.getD k .any:=by
 simp only[fJ,Xb,XO]
 by_cases h1:k < j
 ·rw[XA (by simp; omega)]; simp[h1]
 ·rw[XP (by simp; omega),XP (by simp; omega)]
  simp only[Ze,X0]
  congr 2; omega
theorem ez.store {Z:Nat→Prop} {μ:Mu} {w:World} {P:Program} {id b o0 s esz i j:Nat} {es:List (List V)} {cs:List V} {xs:List Value}
  (F:ez Z μ w.heap id (.arr esz es)) (u:μ id=some (b,o0,s)) (N:¬ Z b) (cQ:∀ b,Z b→b < w.heap.size) (hi:i < es.length) (O:j+cs.length≤esz) (hr:gA Z μ w.heap cs xs) (v:∀ x∈xs,x.oneCell'=true) :
  ∃ w',(storeCells ⟨b,o0+i * esz+j,none⟩ xs).run P w=.ok () w'∧eM w w'∧gF w.heap w'.heap (· = b)∧fV w.heap w'.heap ∧
   ez Z μ w'.heap id (.arr esz (es.set i (fJ (es.getD i []) j cs))):=by
 obtain ⟨rfl,⟨c,e,f,y,L,hs⟩,hlen,m⟩:=F b o0 s u
 have hmul:(i+1) * s≤es.length * s:=XR _ hi
 have G:(i+1) * s=i * s+s:=by rw[X5]; omega
 have M:=fi y
 obtain ⟨z,A,n,H⟩:=lK (P:=P) (b:=b) (off:=o0+i * s+j) (e:=e) (f:=f) xs 0 c w y (qT L) (by rw[← hr.1]; omega) v
 have hm:ix Z Z μ μ w.heap (w.heap.setIfInBounds b (.cells z e f)) :=
  ⟨fun _ h=>h,fun k hk=>di w.heap b _ k (cQ k hk) (fun e=>N (e ▸ hk)),fun _ _ h=>h,js y n⟩
 refine ⟨_,A,⟨rfl,rfl,rfl,by simp⟩,di _ _ _,js y n,?_⟩
 intro Q R S o
 rw[u] at o
 simp only[Xe,Xh] at o
 obtain ⟨rfl,rfl,rfl⟩:=o
 have hl:(fJ (es.getD i []) j cs).length=s:=by
  have:=hlen i hi
  rw[ym _ _ _ (by omega),this]
 have p:∀ a,(es.set i (fJ (es.getD i []) j cs)).getD a []=if a=i then fJ (es.getD i []) j cs else es.getD a []:=by
  intro a
  simp only[Xb,YC]
  by_cases h1:i=a
  ·subst h1; simp[hi]
  ·rw[Xd h1,Xd (fun e=>h1 e.symm)]
 refine ⟨rfl,⟨z,e,f,by simp[M],by rw[n]; exact L,by simpa [n] using hs⟩,?_,?_⟩
 ·intro a q
  rw[p]
  split
  ·exact hl
  ·exact hlen a (by simpa using q)
 ·intro a g q B
  have l:a < es.length:=by simpa using q
  have I:(a+1) * s≤es.length * s:=XR _ l
  have E:(a+1) * s=a * s+s:=by rw[X5]; omega
  have r:cellAt (w.heap.setIfInBounds b (.cells z e f)) b (o0+a * s+g)=z[o0+a * s+g]?:=by simp[cellAt,M]
  have d:cellAt w.heap b (o0+a * s+g)=c[o0+a * s+g]?:=by simp[cellAt,y]
  show ∃ x,cellAt (w.heap.setIfInBounds b (.cells z e f)) b (o0+a * s+g)=some x∧_
  rw[r,H,p]
  by_cases t:a=i
  ·subst t
   rw[Xg rfl]
   by_cases C:j≤g∧g < j+cs.length
   ·have hk:g - j < cs.length:=by omega
    have D:g - j < xs.length:=hr.1 ▸ hk
    rw[Xg (by rw[← hr.1]; omega),show o0+a * s+g - (o0+a * s+j+0)=g - j from by omega]
    refine ⟨xs[g - j],by simp[D],?_⟩
    have:=(hr.2 (g - j) hk).mono hm
    simp only[Xb,Xc D,Xc hk,Xu] at this
    have J:=hlen a l
    rw[Fj _ _ _ _ (by omega) C]
    simpa [Xb,hk] using this
   ·rw[Xd (by rw[← hr.1]; omega)]
    obtain ⟨x,o,K⟩:=m a g l B
    rw[d] at o
    refine ⟨x,o,?_⟩
    have J:=hlen a l
    rw[DY _ _ _ _ (by omega) C]
    exact K.mono hm
  ·rw[Xd t]
   have:¬ (o0+i * s+j+0≤o0+a * s+g∧o0+a * s+g < o0+i * s+j+0+xs.length):=by
    rw[← hr.1]
    rcases Nat.lt_or_gt_of_ne t with h1 | h1
    ·have:(a+1) * s≤i * s:=XR _ h1
     omega
    ·have:(i+1) * s≤a * s:=XR _ h1
     omega
   rw[Xd this]
   obtain ⟨x,o,K⟩:=m a g l B
   rw[d] at o
   exact ⟨x,o,K.mono hm⟩
theorem ez.newRow {Z:Nat→Prop} {μ:Mu} {hp:Array Obj} {n esz:Nat} {es:List (List V)} {c:Array Value} {e:TypeId}
  (g:μ n=none) (cQ:∀ b,Z b→b < hp.size) (hs:es.length * esz≤c.size) (hlen:∀ i,i < es.length→(es.getD i []).length=esz)
  (h:∀ i j,i < es.length→j < esz→∃ x,c[i * esz+j]?=some x∧az Z μ hp ((es.getD i []).getD j .any) x) :
  ez Z (μ.set n (hp.size,0,esz)) (hp.push (.cells c e (0,0))) n (.arr esz es):=by
 intro b o0 s a
 simp only[Mu.set,if_true,Xe,Xh] at a
 obtain ⟨rfl,rfl,rfl⟩:=a
 have hm:ix Z Z μ (μ.set n (hp.size,0,esz)) hp (hp.push (.cells c e (0,0))):=by
  refine ⟨fun _ h=>h,fun b f=>?_,fun id x a=>?_,?_⟩
  ·have:=cQ b f
   rw[YY,Xd (by omega)]
  ·by_cases d:id=n
   ·subst d; simp[g] at a
   ·simp[Mu.set,d,a]
  ·intro b k e' o f
   have:=fi f
   exact ⟨k,_,by rw[YY,Xd (by omega)]; exact f,rfl⟩
 refine ⟨rfl,⟨c,e,(0,0),by simp,.inl rfl,by simpa using hs⟩,hlen,fun i j hi l=>?_⟩
 obtain ⟨x,a,m⟩:=h i j hi l
 exact ⟨x,by simp[cellAt,a],m.mono hm⟩
theorem eQ (hp:Array Obj) (o:Obj):gF hp (hp.push o) (fun _=>False):=by
 intro k hk _
 rw[YY,Xd (by omega)]
structure Ctx (Z:Nat→Prop) (μ:Mu) (hp:Array Obj) (H:View) (rd:List Nat) (n:Nat) (eff:bA):Prop where
 new:eff.fresh (μ n=none)
 obj:∀ id,id∈rd→ez Z μ hp id (H id)
 lt:∀ id b o s,μ id=some (b,o,s)→b < hp.size
 cQ:∀ b,Z b→b < hp.size
 ie:∀ id b o s,μ id=some (b,o,s)→¬ Z b
def bh (Z:Nat→Prop) (μ:Mu) (w:World) (n:Nat) (v:V) (eff:bA) (r:Result Next):Prop :=
 ∃ nx w' μ',r=.ok nx w'∧((∃ x,nx=.value x∧az Z μ' w'.heap v x)∨(nx=.skip∧v=.any))∧eM w w'∧nj Z μ μ' w.heap w'.heap n eff
section
variable {Z:Nat→Prop} {μ μ':Mu} {w w':World} {P:Program} {H:View} {n:Nat} {v:V} {eff:bA} {rd:List Nat}
theorem jj:nj Z μ μ w.heap w.heap n .none:=⟨rfl,fun _ _ _=>rfl⟩
theorem bh.value {s:Sem Value} {x:Value} (hr:s.run P w=.ok x w') (a:az Z μ' w'.heap v x) (hs:eM w w') (he:nj Z μ μ' w.heap w'.heap n eff) :
  bh Z μ w n v eff ((do pure (Next.value (← s)):Sem Next).run P w) :=
 ⟨.value x,w',μ',by simp[hr],.inl ⟨x,rfl,a⟩,hs,he⟩
theorem bh.here {s:Sem Value} {x:Value} (hr:s.run P w=.ok x w) (a:az Z μ w.heap v x):bh Z μ w n v .none ((do pure (Next.value (← s)):Sem Next).run P w) :=
 bh.value hr a (eM.refl w) jj
theorem bh.skip {s:Sem Unit} (hr:s.run P w=.ok () w') (hs:eM w w') (he:nj Z μ μ' w.heap w'.heap n eff) :
  bh Z μ w n .any eff ((do s; pure Next.skip:Sem Next).run P w) :=
 ⟨.skip,w',μ',by simp[hr],.inr ⟨rfl,rfl⟩,hs,he⟩
theorem xp (x:Value):az Z μ w.heap (pw x) x:=by
 cases x with
 | slice a len cap =>
  cases a with
  | none =>
   cases len with
   | zero=>cases cap with
    | zero=>exact .emp 1 none (fun _=>rfl) (fun h=>by simp at h)
    | succ c=>exact .any _
   | succ l=>exact .any _
  | some a=>exact .any _
 | _ =>
  simp only[pw]
  split
  ·rename_i h; exact .val _ h
  ·exact .any _
theorem gZ (x:Value):az Z μ w.heap (fN x) x:=by
 cases x with
 | agg cs =>
  refine .agg _ _ (by simp) (fun i hi=>?_)
  have c:i < cs.size:=by simpa using hi
  simp only[Xb,Xp]
  simpa [c] using xp cs[i]
 | func fn a b =>
  cases fn with
  | func f =>
   simp only[fN]
   split
   ·rename_i h
    exact .fn _ _ _ _ _ h.1.symm h.2.symm (fun i hi=>by simp at hi) (fun i hi=>by simp at hi)
   ·exact .any _
  | _=>simp only[fN]; exact xp _
 | _=>simp only[fN]; exact xp _
theorem heap_alloc (w:World) (o:Obj):(w.alloc o).heap=w.heap.push o:=rfl
theorem ju (w:World) (o:Obj):eM w (w.alloc o):=⟨rfl,rfl,rfl,by rw[heap_alloc]; simp⟩
theorem rr {v:V} {x y:Value} (h:az Z μ w.heap v x) (e:dq v=some y):y=x:=by
 have d:∀ (cs:List V) (l:List Value),vw cs=some l→∀ (xs:List Value),cs.length=xs.length→(∀ i,i < cs.length→az Z μ w.heap (cs.getD i .any) (xs.getD i undef))→l=xs:=by
  intro cs
  induction cs with
  | nil=>intro l hl xs f _; simp[vw] at hl; subst hl; cases xs <;> simp_all
  | cons c r m =>
   intro l hl xs f hr
   cases xs with
   | nil=>simp at f
   | cons x xs =>
    simp only[vw] at hl
    split at hl
    ·rename_i a b j n
     simp at hl; subst hl
     have k:=hr 0 (by simp)
     have:=m b n xs (by simpa using f) (fun i hi=>by simpa using hr (i+1) (by simpa using hi))
     subst this
     simp only[Yk] at k
     cases c <;> simp[toCell] at j
     subst j
     cases k; rfl
    ·simp at hl
 cases v with
 | val a=>simp[dq] at e; subst e; cases h; rfl
 | agg cs =>
  simp only[dq,Xn] at e
  obtain ⟨l,hl,rfl⟩:=e
  cases h with
  | agg _ g h1 o =>
   have:=d cs l hl g.toList (by simpa using h1) (fun i hi=>by simpa [Xb,Xp] using o i hi)
   subst this; simp
 | _=>simp[dq] at e
theorem oy {id i j:Nat} {x:Value} (h:az Z μ w.heap (.ptr id i j) x):∃ b o0 esz,μ id=some (b,o0,esz)∧x=.pointer (some ⟨b,o0+i * esz+j,none⟩):=by
 cases h with | ptr _ _ _ b o0 esz hm=>exact ⟨b,o0,esz,hm,rfl⟩
theorem sZ {e:List V} {j:Nat} {x:Value} (h:az Z μ w.heap (.aJ e j) x):∃ b off,Z b∧GS Z μ w.heap b off e∧x=.pointer (some ⟨b,off+j,none⟩):=by
 cases h with | aJ _ _ b off c a h1 d=>exact ⟨b,off,a,fun k hk=>⟨c k,h1 k hk,d k hk⟩,rfl⟩
theorem An {e:List V} {j b off:Nat} (c:Z b) (h:GS Z μ w.heap b off e):az Z μ w.heap (.aJ e j) (.pointer (some ⟨b,off+j,none⟩)):=by
 obtain ⟨f,a⟩:=pg h
 exact .aJ e j b off f c (fun k hk=>(a k hk).1) (fun k hk=>(a k hk).2)
theorem rowOf {id i b o0 s esz:Nat} {es:List (List V)} (a:ez Z μ w.heap id (.arr esz es)) (c:μ id=some (b,o0,s)) (hi:i < es.length) :
  s=esz∧GS Z μ w.heap b (o0+i * s) (es.getD i []):=by
 obtain ⟨rfl,_,d,e⟩:=a b o0 s c
 refine ⟨rfl,fun k hk=>?_⟩
 rw[d i hi] at hk
 exact e i k hi hk
theorem RF {t:TypeId} {a:V} {x:Value} (h:na P t a H=some (v,eff,rd)) (m:az Z μ w.heap a x) (c:Ctx Z μ w.heap H rd n eff) :
  bh Z μ w n v eff ((do pure (Next.value (← Instr.loadAt t x)):Sem Next).run P w):=by
 unfold na at h
 split at h
 ·rename_i id i j
  obtain ⟨b,o0,esz,hm,rfl⟩:=oy m
  split at h
  ·rename_i e es hH
   split at h
   ·rename_i hi
    simp only[Xn] at h
    obtain ⟨v',d,h⟩:=h
    simp only[Xh] at h
    obtain ⟨rfl,rfl,rfl⟩:=h
    have f:=c.obj id (by simp)
    rw[hH] at f
    obtain ⟨y,k,l⟩:=um (P:=P) (rowOf f hm hi).2 d
    exact bh.here (by simp[Instr.loadAt,Instr.sureAddr,k]) l
   ·simp at h
  ·simp at h
 ·obtain ⟨b,off,o,g,rfl⟩:=sZ m
  simp only[Xn] at h
  obtain ⟨v',d,h⟩:=h
  simp only[Xh] at h
  obtain ⟨rfl,rfl,rfl⟩:=h
  obtain ⟨y,k,l⟩:=um (P:=P) g d
  exact bh.here (by simp[Instr.loadAt,Instr.sureAddr,k]) l
 ·simp at h
theorem xA {t:TypeId} {i:TypeInfo} (h:P.info? t=some i):P.cellsOf t=i.size:=by simp[Program.cellsOf,h]
theorem Uc {cs:List V} {xs:List Value} (h:gA Z μ w.heap cs xs) (b:cs.all aO=true):∀ x∈xs,x.oneCell'=true:=by
 intro x c
 obtain ⟨i,hi,rfl⟩:=List.getElem_of_mem c
 have a:i < cs.length:=h.1 ▸ hi
 have:=h.2 i a
 simp only[Xb,Xc hi,Xc a,Xu] at this
 exact wi this (XI.1 b _ (Xm _))
theorem Od {t:TypeId} {a b:V} {x y:Value} (h:rG P t a b H=some (v,eff,rd)) (l:az Z μ w.heap a x) (m:az Z μ w.heap b y) (c:Ctx Z μ w.heap H rd n eff) :
  bh Z μ w n v eff ((do Instr.storeAt t x y; pure Next.skip:Sem Next).run P w):=by
 unfold rG at h
 split at h
 ·rename_i id i j
  obtain ⟨k,o0,s,hm,rfl⟩:=oy l
  split at h
  ·rename_i esz es hH
   split at h
   ·rename_i o
    obtain ⟨hi,hlen,p,f,d⟩:=o
    simp only[Xe,Xh] at h
    obtain ⟨rfl,rfl,rfl⟩:=h
    have e:=c.obj id (by simp)
    rw[hH] at e
    have hs:=(e k o0 s hm).1
    subst hs
    have hr:=hU m f
    obtain ⟨w',h1,q,r,u,z⟩:=e.store (P:=P) hm (c.ie _ _ _ _ hm) c.cQ hi p hr (Uc hr f)
    obtain ⟨ti,g⟩:=Option.isSome_iff_exists.1 d
    refine bh.skip ?_ q ⟨k,o0,s,hm,rfl,r,u,z⟩
    have:y.cells.size=ti.size:=by rw[← xA g,← hlen,hr.1]; simp
    simp[Instr.storeAt,Instr.sureAddr,storeVar,dK g,this,h1]
   ·simp at h
  ·simp at h
 ·simp at h
theorem LN {cs:List V} {x:Value} {t:TypeId} (h:mG cs n=some (v,eff,rd)) (hr:cs.all aO=true→gA Z μ w.heap cs x.cells.toList) (c:Ctx Z μ w.heap H rd n eff) :
  bh Z μ w n v eff ((do pure (Next.value (.pointer (some (← newVar t x)))):Sem Next).run P w):=by
 unfold mG at h
 split at h
 ·rename_i b
  simp only[Xe,Xh] at h
  obtain ⟨rfl,rfl,rfl⟩:=h
  have hr:=hr b
  refine ⟨.value (.pointer (some ⟨w.heap.size,0,none⟩)),w.alloc (.cells x.cells t),μ.set n (w.heap.size,0,cs.length),by simp[newVar,newRow],.inl ⟨_,rfl,?_⟩,ju _ _,?_⟩
  ·have:=az.ptr (Z:=Z) (μ:=μ.set n (w.heap.size,0,cs.length)) (hp:=(w.alloc (.cells x.cells t)).heap) n 0 0 w.heap.size 0 cs.length (by simp[Mu.set])
   simpa using this
  ·refine ⟨w.heap.size,0,cs.length,Xo _,by rw[heap_alloc]; simp,rfl,eQ _ _,?_⟩
   refine ez.newRow c.new c.cQ (by rw[hr.1]; simp) (fun i hi=>by simp at hi; subst hi; simp) (fun i j hi d=>?_)
   simp at hi; subst hi
   have a:j < x.cells.size:=by have:=hr.1; simp at this; omega
   refine ⟨x.cells[j],by simp[a],?_⟩
   have:=hr.2 j d
   simpa [Xb,a] using this
 ·simp at h
theorem vo {t:TypeId} {f off s:Nat} {b:TypeId} (h:qF P t f=some (off,s,b)) :
  ∃ a x i,P.underlying t=some (.struct a)∧a[f]?=some x∧P.info? x.type=some i∧off=x.offset∧s=i.size∧b=x.type:=by
 unfold qF at h
 split at h
 ·rename_i a hu
  split at h
  ·rename_i x c
   split at h
   ·rename_i i hi
    simp only[Xe,Xh] at h
    exact ⟨a,x,i,hu,c,hi,h.1.symm,h.2.1.symm,h.2.2.symm⟩
   ·simp at h
  ·simp at h
 ·simp at h
theorem GN {t:TypeId} {a:V} {x:Value} {f:Nat} (h:mf P t a f=some (v,eff,rd)) (l:az Z μ w.heap a x) :
  bh Z μ w n v eff ((do pure (Next.value (← Instr.fieldAt t x f)):Sem Next).run P w):=by
 unfold mf at h
 split at h
 ·rename_i off s q g
  obtain ⟨r,fd,i,hu,k,hi,rfl,rfl,rfl⟩:=vo g
  split at h
  ·simp at h
  ·rename_i hs
   have c:∀ b o,(Instr.fieldAt t (.pointer (some ⟨b,o,none⟩)) f).run P w=.ok (.pointer (some ⟨b,o+fd.offset,none⟩)) w:=by
    intro b o
    simp[Instr.fieldAt,bw hu,k,Instr.sureAddr,fieldPlace,dK hi,hs,jY]
   split at h
   ·rename_i id m j
    obtain ⟨b,o0,esz,hm,rfl⟩:=oy l
    simp only[Xe,Xh] at h
    obtain ⟨rfl,rfl,rfl⟩:=h
    refine bh.here (c _ _) ?_
    have:=az.ptr (Z:=Z) (μ:=μ) (hp:=w.heap) id m (j+fd.offset) b o0 esz hm
    simpa [Y4] using this
   ·rename_i e j
    obtain ⟨b,off,p,d,rfl⟩:=sZ l
    simp only[Xe,Xh] at h
    obtain ⟨rfl,rfl,rfl⟩:=h
    refine bh.here (c _ _) ?_
    have:=An (w:=w) (j:=j+fd.offset) p d
    simpa [Y4] using this
   ·simp at h
 ·simp at h
theorem Tx {t:TypeId} {cs:List V} {a:Array Value} {off:Nat} (h:qM P t cs off=some v) (h1:cs.length=a.size) (e:∀ i,i < cs.length→az Z μ w.heap (cs.getD i .any) (a.getD i undef)) :
  ∃ x,(part t a off).run P w=.ok x w∧az Z μ w.heap v x:=by
 unfold qM at h
 cases hi:P.info? t with
 | none=>simp[hi] at h
 | some i =>
  cases c:sM P t with
  | none=>simp[hi,c] at h
  | some g =>
   simp only[hi,c] at h
   cases g with
   | true =>
    simp only at h
    split at h
    ·rename_i hle
     simp at h; subst h
     refine ⟨.agg (a.extract off (off+i.size)),by simp[part,ud c,dK hi],?_⟩
     refine .agg _ _ (by simp; omega) (fun k hk=>?_)
     have d:k < i.size:=by simp at hk; omega
     have:=e (off+k) (by omega)
     simp only[Xb,Xp,YN,Ze,d,if_true,Array.getElem?_extract] at this ⊢
     rw[Xg (by omega)]
     exact this
    ·simp at h
   | false =>
    simp only at h
    split at h
    ·rename_i hle
     simp at h; subst h
     have:=e off hle
     have b:off < a.size:=h1 ▸ hle
     refine ⟨a[off],by simp[part,ud c,b],?_⟩
     simpa [Xb,Xp,b] using this
    ·simp at h
theorem OL {t:TypeId} {a:V} {x:Value} {f:Nat} (h:wH P t a f=some (v,eff,rd)) (e:az Z μ w.heap a x) :
  bh Z μ w n v eff ((do pure (Next.value (← Instr.field t x f)):Sem Next).run P w):=by
 unfold wH at h
 split at h
 ·rename_i off s m cs b
  obtain ⟨o,fd,i,hu,c,hi,rfl,rfl,rfl⟩:=vo b
  simp only[Xn] at h
  obtain ⟨v',d,h⟩:=h
  simp only[Xh] at h
  obtain ⟨rfl,rfl,rfl⟩:=h
  cases e with
  | agg _ g h1 j =>
   obtain ⟨y,k,l⟩:=Tx (P:=P) d h1 j
   exact bh.here (by simp[Instr.field,bw hu,c,asAgg,k]) l
 ·simp at h
theorem lB {a:V} {q:Nat} (h:asNat a=some q):∃ k,a=.val (.int k q):=by
 unfold asNat at h
 split at h
 ·rename_i k z
  split at h
  ·simp at h
   exact ⟨k,by rw[← h]; congr 2; omega⟩
  ·simp at h
 ·simp at h
theorem fq {y x:Value} (h:az Z μ w.heap (.val y) x):x=y:=by cases h; rfl
theorem GO {t:TypeId} {a i:V} {x y:Value} (h:ml P t a i=some (v,eff,rd)) (r:az Z μ w.heap a x) (s:az Z μ w.heap i y) :
  bh Z μ w n v eff ((do pure (Next.value (← Instr.indexAt t x y)):Sem Next).run P w):=by
 unfold ml at h
 split at h
 ·simp at h
 ·rename_i q hq
  obtain ⟨k,rfl⟩:=lB hq
  have s:=fq s
  subst s
  split at h
  ·rename_i e hu
   split at h
   ·simp at h
   ·rename_i ti g
    split at h
    ·rename_i id off len esz
     split at h
     ·rename_i m
      obtain ⟨d,rfl⟩:=m
      simp only[Xe,Xh] at h
      obtain ⟨rfl,rfl,rfl⟩:=h
      cases r with
      | pO=>omega
      | sl _ _ _ _ b o0 cap c e' f hm hle C hs =>
       refine bh.here (x:=.pointer (some ⟨b,o0+off * ti.size+q * ti.size,none⟩)) ?_ ?_
       ·simp[Instr.indexAt,asIntOf,bw hu,dK g,jY,d]
       ·have:=az.ptr (Z:=Z) (μ:=μ) (hp:=w.heap) id (off+q) 0 b o0 ti.size hm
        simpa [X5,Y4] using this
     ·simp at h
    ·rename_i es
     split at h
     ·rename_i m
      obtain ⟨d,u⟩:=m
      simp only[Xe,Xh] at h
      obtain ⟨rfl,rfl,rfl⟩:=h
      cases r with
      | iX=>simp at d
      | aE _ b off esz cap c z hle l m B =>
       have o:esz=ti.size:=(l q d).symm.trans u
       subst o
       refine bh.here (x:=.pointer (some ⟨b,off+q * ti.size+0,none⟩)) ?_ ?_
       ·simp[Instr.indexAt,asIntOf,bw hu,dK g,jY,d]
       ·exact An z (fun k hk=>⟨c q k,m q k d (by rw[l q d] at hk; exact hk),B q k d (by rw[l q d] at hk; exact hk)⟩)
     ·simp at h
    ·simp at h
  ·rename_i len e hu
   split at h
   ·simp at h
   ·rename_i ti g
    split at h
    ·rename_i d
     split at h
     ·rename_i id A j
      obtain ⟨b,o0,esz,hm,rfl⟩:=oy r
      simp only[Xe,Xh] at h
      obtain ⟨rfl,rfl,rfl⟩:=h
      refine bh.here (x:=.pointer (some ⟨b,o0+A * esz+j+q * ti.size,none⟩)) ?_ ?_
      ·simp[Instr.indexAt,Instr.sureAddr,asIntOf,bw hu,dK g,jY,d]
      ·have:=az.ptr (Z:=Z) (μ:=μ) (hp:=w.heap) id A (j+q * ti.size) b o0 esz hm
       simpa [Y4] using this
     ·rename_i e' j
      obtain ⟨b,off,z,p,rfl⟩:=sZ r
      simp only[Xe,Xh] at h
      obtain ⟨rfl,rfl,rfl⟩:=h
      refine bh.here (x:=.pointer (some ⟨b,off+j+q * ti.size,none⟩)) ?_ ?_
      ·simp[Instr.indexAt,Instr.sureAddr,asIntOf,bw hu,dK g,jY,d]
      ·have:=An (w:=w) (j:=j+q * ti.size) z p
       simpa [Y4] using this
     ·simp at h
    ·simp at h
  ·simp at h
end
section
variable {Z:Nat→Prop} {μ μ':Mu} {w w':World} {P:Program} {H:View} {n:Nat} {v:V} {eff:bA} {rd:List Nat}
def yS (Z:Nat→Prop) (μ:Mu) (hp:Array Obj):Option V→Option Value→Prop
 | none,none=>True
 | some v,some x=>az Z μ hp v x
 | _,_=>False
theorem gm {o:Option V} {a:Option Value} {d q:Nat} (h:bound d o=some q) (b:yS Z μ w.heap o a):(a=none∧q=d)∨∃ k,a=some (.int k q):=by
 cases o with
 | none=>cases a with
  | none=>simp[bound] at h; exact .inl ⟨rfl,h.symm⟩
  | some x=>exact b.elim
 | some v=>cases a with
  | none=>exact b.elim
  | some x =>
   obtain ⟨k,rfl⟩:=lB h
   exact .inr ⟨k,by rw[fq b]⟩
theorem dW {a:V} {x:Value} {m:Nat} (h:az Z μ w.heap a x) (hm:cH a=some m):∃ ad cap,x=.slice ad m cap∧m≤cap:=by
 cases h with
 | emp k a=>simp[cH] at hm; subst hm; exact ⟨_,_,rfl,Xo _⟩
 | dS a cap=>simp[cH] at hm; subst hm; exact ⟨_,_,rfl,YM _⟩
 | iX a cap=>simp[cH] at hm; subst hm; exact ⟨_,_,rfl,YM _⟩
 | aE es b off esz cap c i hle d j l=>simp[cH] at hm; subst hm; exact ⟨_,_,rfl,hle⟩
 | pO id off esz a=>simp[cH] at hm; subst hm; exact ⟨_,_,rfl,Xo _⟩
 | sl id off len esz b o0 cap c e f g hle n hs=>simp[cH] at hm; subst hm; exact ⟨_,_,rfl,hle⟩
 | _=>simp[cH] at hm
theorem po {len cap l h:Nat} {lo hi:Option Value} (hl:(lo=none∧l=0)∨∃ k,lo=some (.int k l)) (a:(hi=none∧h=len)∨∃ k,hi=some (.int k h)) (h1:l≤h) (b:h≤cap) :
  (Instr.sliceBounds true len cap lo hi none).run P w=.ok (l,h,cap) w:=by
 rcases hl with ⟨rfl,rfl⟩ | ⟨k,rfl⟩ <;> rcases a with ⟨rfl,rfl⟩ | ⟨c,rfl⟩ <;> simp[Instr.sliceBounds,Instr.sliceBound,asIntOf,h1,b]
theorem PC {t:TypeId} {a:V} {x:Value} {lo hi O:Option V} {s u y:Option Value} (h:tj P t a lo hi O=some (v,eff,rd)) (A:az Z μ w.heap a x)
  (z:yS Z μ w.heap lo s) (q:yS Z μ w.heap hi u) (C:yS Z μ w.heap O y) :
  bh Z μ w n v eff ((do pure (Next.value (← Instr.sliceAt t x s u y)):Sem Next).run P w):=by
 unfold tj at h
 cases hu:cY P t with
 | none=>simp[hu] at h
 | some e =>
  have E:P.underlying t=some (.slice e):=by
   unfold cY at hu; split at hu <;> simp_all
  cases D:P.info? e with
  | none=>simp[hu,D] at h
  | some ti =>
   simp only[hu,D] at h
   have g:∀ ad len cap l r m,(Instr.sliceBounds true len cap s u y).run P w=.ok (l,r,m) w →
     (Instr.sliceAt t (.slice ad len cap) s u y).run P w=.ok (.slice (if m=l then ad else ad.map (·.add (l * ti.size))) (r - l) (m - l)) w:=by
    intro ad len cap l r m Q
    simp[Instr.sliceAt,Instr.slice,bw E,Q,dK D]
   cases O with
   | some m =>
    cases y with
    | none=>exact C.elim
    | some m' =>
     simp only at h
     split at h
     ·rename_i o p R
      split at h
      ·simp at h
      ·rename_i F
       obtain ⟨k3,rfl⟩:=lB R
       have S:=fq C
       subst S
       have G:∀ len cap,(Instr.sliceBounds true len cap s u (some (.int k3 ((0:Nat):Int)))).run P w=.ok (0,0,0) w:=by
        intro len cap
        rcases gm o z with ⟨rfl,_⟩ | ⟨k,rfl⟩ <;> rcases gm p q with ⟨rfl,_⟩ | ⟨k',rfl⟩
        ·cases hi with
         | none=>simp at F
         | some _=>exact q.elim
        ·simp[Instr.sliceBounds,Instr.sliceBound,asIntOf]
        ·cases hi with
         | none=>simp at F
         | some _=>exact q.elim
        ·simp[Instr.sliceBounds,Instr.sliceBound,asIntOf]
       have fin:∀ ad len cap,az Z μ w.heap a (.slice ad len cap)→x=.slice ad len cap→bh Z μ w n (.emp 0) .none ((do pure (Next.value (← Instr.sliceAt t x s u (some (.int k3 ((0:Nat):Int))))):Sem Next).run P w):=by
        intro ad len cap _ d
        subst d
        refine bh.here (g ad len cap 0 0 0 (G len cap)) ?_
        simpa using az.emp (Z:=Z) (μ:=μ) (hp:=w.heap) 0 ad (by simp) (by simp)
       split at h
       ·simp only[Xe,Xh] at h
        obtain ⟨rfl,rfl,rfl⟩:=h
        obtain ⟨ad,cap,d,_⟩:=dW A rfl
        exact fin _ _ _ (d ▸ A) d
       ·simp only[Xe,Xh] at h
        obtain ⟨rfl,rfl,rfl⟩:=h
        obtain ⟨ad,cap,d,_⟩:=dW A rfl
        exact fin _ _ _ (d ▸ A) d
       ·simp only[Xe,Xh] at h
        obtain ⟨rfl,rfl,rfl⟩:=h
        obtain ⟨ad,cap,d,_⟩:=dW A rfl
        exact fin _ _ _ (d ▸ A) d
       ·simp only[Xe,Xh] at h
        obtain ⟨rfl,rfl,rfl⟩:=h
        obtain ⟨ad,cap,d,_⟩:=dW A rfl
        exact fin _ _ _ (d ▸ A) d
       ·simp at h
     ·simp at h
   | none =>
    cases y with
    | some _=>exact C.elim
    | none =>
     simp only at h
     split at h
     ·rename_i id off len esz
      split at h
      ·rename_i l r o p
       split at h
       ·rename_i T
        obtain ⟨h1,N,rfl⟩:=T
        simp only[Xe,Xh] at h
        obtain ⟨rfl,rfl,rfl⟩:=h
        cases A with
        | pO _ _ _ ad =>
         obtain rfl:l=0:=by omega
         obtain rfl:r=0:=by omega
         refine bh.here (g ad 0 0 0 0 0 (po (gm o z) (gm p q) (by omega) (by omega))) ?_
         simpa using az.pO (Z:=Z) (μ:=μ) (hp:=w.heap) id (off+0) ti.size ad
        | sl _ _ _ _ b o0 cap c e' f hm hle Q hs =>
         refine bh.here (g _ len cap l r cap (po (gm o z) (gm p q) h1 (by omega))) ?_
         by_cases H:cap=l
         ·have e1:r - l=0:=by omega
          have e2:cap - l=0:=by omega
          rw[Xg H,e1,e2]
          exact az.pO _ _ _ _
         ·rw[Xd H]
          simp only[Xk,jY]
          have:=az.sl (Z:=Z) (μ:=μ) (hp:=w.heap) id (off+l) (r - l) ti.size b o0 (cap - l) c e' f hm (by omega) Q (by rw[show off+l+(cap - l)=off+cap from by omega]; exact hs)
          simpa [X5,Y4] using this
       ·simp at h
      ·simp at h
     ·rename_i es
      split at h
      ·rename_i l r o p
       split at h
       ·rename_i T
        obtain ⟨h1,N,I⟩:=T
        simp only[Xe,Xh] at h
        obtain ⟨rfl,rfl,rfl⟩:=h
        cases A with
        | iX ad cap U =>
         simp at N
         obtain rfl:r=0:=by omega
         obtain rfl:l=0:=by omega
         refine bh.here (g ad 0 cap 0 0 cap (po (gm o z) (gm p q) (by omega) (by omega))) ?_
         refine az.iX _ _ (fun hn=>?_)
         by_cases J:cap=0
         ·omega
         ·rw[Xd J] at hn
          cases ad with
          | none=>exact absurd (U rfl) J
          | some a=>simp at hn
        | aE _ b off esz cap c hz hle K W hv =>
         refine bh.here (g _ es.length cap l r cap (po (gm o z) (gm p q) h1 (by omega))) ?_
         by_cases X:l=r
         ·subst X
          simpa using az.iX (Z:=Z) (μ:=μ) (hp:=w.heap) (if cap=l then some ⟨b,off,none⟩ else some (Addr.add ⟨b,off,none⟩ (l * ti.size))) (cap - l) (by split <;> simp)
         ·have L:0 < es.length:=by omega
          have M:esz=ti.size:=by
           have h0:=K 0 L
           have:=XI.1 I (es[0]) (Xm _)
           simp at this
           simp[Xb,L] at h0
           omega
          subst M
          rw[Xd (by omega)]
          simp only[Xk,jY]
          have hlen:((es.drop l).take (r - l)).length=r - l:=by simp; omega
          have B:∀ i,i < r - l→((es.drop l).take (r - l)).getD i []=es.getD (l+i) []:=by
           intro i hi
           simp[Xb,YN,hi]
          have:=az.aE (Z:=Z) (μ:=μ) (hp:=w.heap) ((es.drop l).take (r - l)) b (off+l * ti.size) ti.size (cap - l) (fun i j=>c (l+i) j) hz (by omega)
           (fun i hi=>by rw[hlen] at hi; rw[B i hi]; exact K _ (by omega))
           (fun i j hi Y=>by
            rw[hlen] at hi
            have:=W (l+i) j (by omega) Y
            rw[X5] at this
            rw[← this]; congr 1; omega)
           (fun i j hi Y=>by rw[hlen] at hi; rw[B i hi]; exact hv _ _ (by omega) Y)
          rw[hlen] at this
          exact this
       ·simp at h
      ·simp at h
     ·split at h
      ·rename_i o p
       simp only[Xe,Xh] at h
       obtain ⟨rfl,rfl,rfl⟩:=h
       cases A with
       | emp _ ad h1 N =>
        refine bh.here (g ad 0 0 0 0 0 (po (gm o z) (gm p q) (by omega) (by omega))) ?_
        simpa using az.emp (Z:=Z) (μ:=μ) (hp:=w.heap) _ ad h1 N
      ·simp at h
     ·simp at h
theorem wrap_small {q:Nat} (h:q < aB):IntKind.i64.wrap (q:Int)=q:=by
 unfold aB at h
 exact IntWalk.i64_in _ (by omega)
theorem jk {t:TypeId} {i:TypeInfo} {z:List V} (hi:P.info? t=some i) (h:zeroCells P t=some z):∃ a,i.zero=some a∧z=(fN a).cells:=by
 unfold zeroCells at h
 simp only[hi] at h
 cases b:i.zero with
 | none=>simp[b] at h
 | some a=>simp[b] at h; exact ⟨a,rfl,h.symm⟩
theorem gh {i j s l:Nat} (hi:i < l) (a:j < s):i * s+j < l * s:=by
 have:(i+1) * s≤l * s:=XR _ hi
 rw[X5] at this; omega
theorem GK {t:TypeId} {a b:V} {x y:Value} (h:mc P t a b n=some (v,eff,rd)) (C:az Z μ w.heap a x) (D:az Z μ w.heap b y) (c:Ctx Z μ w.heap H rd n eff) :
  bh Z μ w n v eff ((do pure (Next.value (← Instr.makeSlice t x y)):Sem Next).run P w):=by
 unfold mc at h
 cases hu:cY P t with
 | none=>simp[hu] at h
 | some e =>
  have r:P.underlying t=some (.slice e):=by
   unfold cY at hu; split at hu <;> simp_all
  cases d:P.info? e with
  | none=>simp[hu,d] at h
  | some ti =>
   simp only[hu,d] at h
   split at h
   ·rename_i l f hl N
    obtain ⟨O,rfl⟩:=lB hl
    obtain ⟨k2,rfl⟩:=lB N
    have C:=fq C
    have D:=fq D
    subst C D
    split at h
    ·rename_i m
     obtain ⟨h1,Q,R⟩:=m
     have S:IntKind.i64.wrap (l:Int)=l:=wrap_small (by omega)
     have T:IntKind.i64.wrap (f:Int)=f:=wrap_small Q
     have g1:¬ (((ti.bytes:Int) * (f:Int)) > 2 ^ 48):=by
      have:((ti.bytes * f:Nat):Int) < 2 ^ 48:=by unfold aB at R; omega
      push_cast at this; omega
     have k:∀ s:Array Value,(f * ti.size=0∧s = #[])∨(f * ti.size≠0∧∃ g,(zeroValue e).run P w=.ok g w∧s=g.cells) →
       (Instr.makeSlice t (.int O (l:Int)) (.int k2 (f:Int))).run P w=.ok (.slice (some ⟨w.heap.size,0,none⟩) l f) (w.alloc (.cells ((Array.range (f * ti.size)).map (s[· % s.size]!)) e)):=by
      intro s E
      have g2:¬ ((f:Int) < 0):=by omega
      have g3:¬ ((l:Int) < 0):=by omega
      have g4:¬ ((l:Int) > (f:Int)):=by omega
      simp only[Instr.makeSlice,Sem.run_bind,bw r,Result.andThen_ok,asInt,asIntOf,Sem.run_pure,qE d,S,T]
      simp only[g1,g2,g3,g4,decide_false,Bool.or_false,Bool.false_or,Xz,if_false,Sem.run_bind,run_askRoom,Result.andThen_ok,dK d,Xy]
      rcases E with ⟨o,rfl⟩ | ⟨o,g,p,rfl⟩
      ·simp[o,newRow,dK d]
      ·simp[o,newRow,dK d,p]
     split at h
     ·rename_i F
      subst F
      simp only[Xe,Xh] at h
      obtain ⟨rfl,rfl,rfl⟩:=h
      obtain rfl:l=0:=by omega
      exact bh.value (k #[] (.inl ⟨by simp,rfl⟩)) (.emp 2 _ (by simp) (by simp)) (ju _ _) ⟨rfl,eQ _ _⟩
     ·split at h
      ·simp at h
      ·rename_i L U
       split at h
       ·simp at h
       ·rename_i z E
        split at h
        ·rename_i G
         obtain ⟨q,u⟩:=G
         simp only[Xe,Xh] at h
         obtain ⟨rfl,rfl,rfl⟩:=h
         obtain ⟨g,p,rfl⟩:=jk d E
         have hr:=hU (gZ (Z:=Z) (μ:=μ) (w:=w) g) u
         have I:g.cells.size=ti.size:=by rw[← q,hr.1]; simp
         have M:(Array.range (f * ti.size)).size=f * ti.size:=by simp
         have A:f * ti.size≠0:=by
          intro o; rcases Nat.mul_eq_zero.1 o with o | o <;> contradiction
         refine bh.value (μ':=μ.set n (w.heap.size,0,ti.size)) (k g.cells (.inr ⟨A,g,kr d p w,rfl⟩)) ?_ (ju _ _) ?_
         ·have:=az.sl (Z:=Z) (μ:=μ.set n (w.heap.size,0,ti.size)) (hp:=(w.alloc (.cells ((Array.range (f * ti.size)).map (g.cells[· % g.cells.size]!)) e)).heap) n 0 l ti.size w.heap.size 0 f _ e (0,0) (by simp[Mu.set]) h1 (by rw[heap_alloc]; simp; rfl) (by simp)
          simpa using this
         ·refine ⟨w.heap.size,0,ti.size,Xo _,by rw[heap_alloc]; simp,rfl,eQ _ _,?_⟩
          refine ez.newRow c.new c.cQ ?_ ?_ ?_
          ·simp; exact XR _ h1
          ·intro i hi; simp at hi; simp[Xb,hi,q]
          ·intro i j hi J
           simp at hi
           have K:i * ti.size+j < f * ti.size:=gh (by omega) J
           have B:(i * ti.size+j) % ti.size=j:=by
            rw[Nat.mul_comm,Nat.mul_add_mod]; exact Nat.mod_eq_of_lt J
           refine ⟨g.cells[j]'(by omega),?_,?_⟩
           ·simp[K,I,B,getElem!_pos g.cells j (by omega)]
           ·have:=hr.2 j (by rw[q]; exact J)
            simpa [Xb,hi,show j < g.cells.size from by omega] using this
        ·simp at h
    ·simp at h
   ·simp at h
end
section
variable {Z:Nat→Prop} {μ μ':Mu} {w w':World} {P:Program} {H:View} {n:Nat} {v:V} {eff:bA} {rd:List Nat}
structure Flat (Z:Nat→Prop) (μ:Mu) (hp:Array Obj) (size:Nat) (xs:List (List V)) (fl:Array Value):Prop where
 len:fl.size=xs.length * size
 rel:∀ i j,i < xs.length→j < size→az Z μ hp ((xs.getD i []).getD j .any) (fl.getD (i * size+j) undef)
theorem vZ {b off size N:Nat} {c:Nat→Nat→Value} (h:∀ i j,i < N→j < size→cellAt w.heap b (off+i * size+j)=some (c i j)) {m:Nat} (hm:m≤N) :
  (loadCells ⟨b,off,none⟩ (m * size)).run P w=.ok ((((List.range (N * size)).map fun k=>c (k / size) (k % size)).toArray).extract 0 (m * size)) w:=by
 have hle:m * size≤N * size:=XR _ hm
 rw[run_loadCells w ⟨b,off,none⟩ (m * size) (fun k=>c (k / size) (k % size)) (fun k hk=>?_)]
 ·congr 1
  apply Array.ext_getElem?
  intro k
  simp only[Yd,Array.getElem?_extract,Xf,List.getElem?_range']
  by_cases hk:k < m * size
  ·simp[hk,show k < N * size from by omega,Nat.min_eq_left hm]
  ·simp[hk,Nat.min_eq_left hm]
 ·have hs:0 < size:=by
   rcases Nat.eq_zero_or_pos size with a | a
   ·subst a; simp at hk
   ·exact a
  have h1:k / size < m:=(Nat.div_lt_iff_lt_mul hs).2 hk
  have d:k % size < size:=Nat.mod_lt _ hs
  rw[jY,ox,← h (k / size) (k % size) (by omega) d]
  congr 1
  have:=Nat.div_add_mod k size
  rw[Nat.mul_comm] at this
  omega
theorem F0 {size N:Nat} {c:Nat→Nat→Value} {xs:List (List V)} (d:xs.length=N) (h:∀ i j,i < N→j < size→az Z μ w.heap ((xs.getD i []).getD j .any) (c i j)) :
  Flat Z μ w.heap size xs ((List.range (N * size)).map fun k=>c (k / size) (k % size)).toArray:=by
 refine ⟨by simp[d],fun i j hi a=>?_⟩
 have b:i * size+j < N * size:=gh (by omega) a
 have h1:(i * size+j) / size=i:=by
  rw[Nat.mul_comm,Nat.mul_add_div (by omega),Nat.div_eq_of_lt a]; simp
 have e:(i * size+j) % size=j:=by
  rw[Nat.mul_comm,Nat.mul_add_mod]; exact Nat.mod_eq_of_lt a
 simpa [Xp,b,h1,e] using h i j (by omega) a
theorem so {ad:Option Addr} {cap size m:Nat} (hm:m≤0):(Builtin.firstCells size m (.slice ad 0 cap)).run P w=.ok ((#[]:Array Value).extract 0 (m * size)) w:=by
 obtain rfl:m=0:=by omega
 cases ad with
 | none=>simp[Builtin.firstCells]
 | some a=>simp[Builtin.firstCells,loadCells,loadCellsFrom]
theorem bsize (s:ByteArray):s.data.toList.length=s.size:=by rw[Array.length_toList]; rfl
theorem qD {x:V} {B:Value} {xs:List (List V)} {size:Nat} (h:bI H x=some (xs,rd)) (d:az Z μ w.heap x B) (t:∀ id,id∈rd→ez Z μ w.heap id (H id))
  (q:∀ e∈xs,e.length=size) :
  ∃ u,Flat Z μ w.heap size xs u∧(Builtin.lenOf B).run P w=.ok xs.length w∧∀ m,m≤xs.length→(Builtin.firstCells size m B).run P w=.ok (u.extract 0 (m * size)) w:=by
 have nil:∀ (ad:Option Addr) cap,∃ u,Flat Z μ w.heap size [] u∧(Builtin.lenOf (.slice ad 0 cap)).run P w=.ok ([]:List (List V)).length w ∧
   ∀ m,m≤([]:List (List V)).length→(Builtin.firstCells size m (.slice ad 0 cap)).run P w=.ok (u.extract 0 (m * size)) w :=
  fun ad cap=>⟨#[],⟨by simp,fun i j hi=>by simp at hi⟩,by simp[Builtin.lenOf],fun m hm=>so (by simpa using hm)⟩
 unfold bI at h
 split at h
 ·simp only[Xe,Xh] at h
  obtain ⟨rfl,rfl⟩:=h
  obtain ⟨ad,cap,rfl,_⟩:=dW d rfl
  exact nil ad cap
 ·simp only[Xe,Xh] at h
  obtain ⟨rfl,rfl⟩:=h
  obtain ⟨ad,cap,rfl,_⟩:=dW d rfl
  exact nil ad cap
 ·rename_i es
  simp only[Xe,Xh] at h
  obtain ⟨rfl,rfl⟩:=h
  cases d with
  | iX a cap=>exact nil a cap
  | aE _ b off esz cap c Q hle C L v =>
   by_cases k:es=[]
   ·subst k; exact nil _ cap
   ·have r:0 < es.length:=Zc.2 k
    have:esz=size:=by
     have h1:=C 0 r
     have D:=q es[0] (Xm _)
     simp[Xb,r] at h1
     omega
    subst this
    exact ⟨_,F0 rfl v,by simp[Builtin.lenOf],fun m hm=>vZ L hm⟩
 ·simp only[Xe,Xh] at h
  obtain ⟨rfl,rfl⟩:=h
  obtain ⟨ad,cap,rfl,_⟩:=dW d rfl
  exact nil ad cap
 ·rename_i id off len esz hlen
  split at h
  ·rename_i I es hH
   split at h
   ·rename_i hle
    simp only[Xe,Xh] at h
    obtain ⟨rfl,rfl⟩:=h
    cases d with
    | pO=>exact (hlen rfl).elim
    | sl _ _ _ _ b o0 cap c e' f hm J R hs =>
     have y:=t id (by simp)
     rw[hH] at y
     obtain ⟨rfl,_,M,N⟩:=y b o0 esz hm
     have g:((es.drop off).take len).length=len:=by simp; omega
     have l:∀ i,i < len→((es.drop off).take len).getD i []=es.getD (off+i) []:=by
      intro i hi; simp[Xb,YN,hi]
     have z:0 < len:=by
      rcases Nat.eq_zero_or_pos len with r | r
      ·exact (hlen r).elim
      ·exact r
     have:esz=size:=by
      have h1:=M off (by omega)
      have D:=q (((es.drop off).take len)[0]'(by omega)) (Xm _)
      have K:=l 0 z
      simp only[Xb,Xc (show 0 < ((es.drop off).take len).length by omega),Xu] at K
      rw[K] at D
      simp only[Xb,Y2] at h1 D
      omega
     subst this
     have d:∀ i,∃ ci:Nat→Value,∀ j,j < esz→i < len→cellAt w.heap b (o0+off * esz+i * esz+j)=some (ci j)∧az Z μ w.heap ((((es.drop off).take len).getD i []).getD j .any) (ci j):=by
      intro i
      by_cases hi:i < len
      ·obtain ⟨ci,E⟩:=pg (n:=esz) (p:=fun j x=>cellAt w.heap b (o0+off * esz+i * esz+j)=some x∧az Z μ w.heap ((((es.drop off).take len).getD i []).getD j .any) x) (fun j o=>by
        obtain ⟨x,d,v⟩:=N (off+i) j (by omega) o
        rw[X5,← Y4] at d
        exact ⟨x,d,by rw[l i hi]; exact v⟩)
       exact ⟨ci,fun j o _=>E j o⟩
      ·exact ⟨fun _=>undef,fun j _ h=>absurd h hi⟩
     obtain ⟨O,A⟩:=Classical.axiomOfChoice d
     refine ⟨_,F0 (c:=O) g (fun i j hi o=>(A i j o hi).2),by simp[Builtin.lenOf]; omega,fun m hm=>?_⟩
     rw[g] at hm
     exact vZ (fun i j hi o=>(A i j o hi).1) hm
   ·simp at h
  ·simp at h
 ·rename_i s
  simp only[Xe,Xh] at h
  obtain ⟨rfl,rfl⟩:=h
  have v:=fq d
  subst v
  have hl:(s.data.toList.map fun b=>([V.val (Value.int .u8 b.toNat)]:List V)).length=s.size:=by rw[Xj,bsize]
  have hlen:(Builtin.lenOf (.string s)).run P w=.ok s.size w:=rfl
  by_cases F:s.size=0
  ·refine ⟨#[],⟨by rw[hl,F]; simp,fun i j hi=>by rw[hl] at hi; omega⟩,by rw[hl]; exact hlen,fun m hm=>?_⟩
   rw[hl] at hm
   obtain rfl:m=0:=by omega
   have:(s.extract 0 0).data = #[]:=by rw[ByteArray.data_extract]; simp
   simp[Builtin.firstCells,this]
  ·have:size=1:=by
    have k:0 < s.data.toList.length:=by rw[bsize]; omega
    have:=q [V.val (Value.int .u8 (s.data.toList[0]).toNat)] (Xw.2 ⟨_,Xm k,rfl⟩)
    simpa using this.symm
   subst this
   refine ⟨s.data.map fun b=>.int .u8 b.toNat,⟨by rw[hl,Array.size_map,Nat.mul_one]; rfl,fun i j hi o=>?_⟩,by rw[hl]; exact hlen,fun m hm=>?_⟩
   ·obtain rfl:j=0:=by omega
    have G:i < s.data.size:=by rw[hl] at hi; exact hi
    simp only[Xb,Xp,Xf,Array.getElem?_toList,Array.getElem?_map,Nat.mul_one,Y2,Xx G,Xk,Xu,XG]
    exact az.val _ rfl
   ·rw[hl] at hm
    simp only[Builtin.firstCells,Sem.run_pure,Nat.mul_one]
    congr 1
    rw[ByteArray.data_extract,Array.map_extract]
 ·simp at h
theorem OS {size:Nat} {xs:List (List V)} {b:Array Value} (h:Flat Z μ w.heap size xs b) (m:Nat) (hm:m≤xs.length):Flat Z μ w.heap size (xs.take m) (b.extract 0 (m * size)):=by
 have hle:m * size≤xs.length * size:=XR _ hm
 have hs:(b.extract 0 (m * size)).size=m * size:=by rw[Array.size_extract,h.len]; omega
 refine ⟨by rw[hs,X0,Nat.min_eq_left hm],fun i j hi c=>?_⟩
 have a:i < m:=by simp at hi; omega
 have:=h.rel i j (by omega) c
 have e:i * size+j < m * size:=gh a c
 have d:i * size+j < b.size:=by rw[h.len]; omega
 simp only[Xb,Xp,YN,a,if_true,Array.getElem?_extract] at this ⊢
 rw[Xg (by omega),Yi]
 exact this
theorem BF {size:Nat} {xs:List (List V)} {d:Array Value} (h:Flat Z μ w.heap size xs d) (hs:∀ e∈xs,e.length=size) (f:∀ e∈xs,e.all aO=true):∀ x∈d.toList,x.oneCell'=true:=by
 intro x j
 obtain ⟨k,hk,rfl⟩:=List.getElem_of_mem j
 have c:k < xs.length * size:=by rw[← h.len]; simpa using hk
 have a:0 < size:=by
  rcases Nat.eq_zero_or_pos size with g | g
  ·subst g; simp at c
  ·exact g
 have h1:k / size < xs.length:=(Nat.div_lt_iff_lt_mul a).2 c
 have l:k % size < size:=Nat.mod_lt _ a
 have:=h.rel (k / size) (k % size) h1 l
 have e:k / size * size+k % size=k:=by rw[Nat.mul_comm]; exact Nat.div_add_mod k size
 rw[e] at this
 have i:k < d.size:=by simpa using hk
 simp only[Xp,Xx i,Xu] at this
 have b:xs[k / size]∈xs:=Xm _
 have hlen:=hs _ b
 simp only[Xb,Xc h1,Xu,Xc (show k % size < (xs[k / size]).length by omega)] at this
 have:=wi this (XI.1 (f _ b) _ (Xm _))
 simpa using this
theorem vm {b off:Nat} {c:Array Value} {e:TypeId} {f:Nat × Nat} (d:w.heap[b]?=some (.cells c e f)) (g:∀ k,k < c.size→¬ (f.1≤k∧k < f.2)) (xs:List Value)
  (hs:off+xs.length≤c.size) (h:∀ x∈xs,x.oneCell'=true) :
  ∃ a,(storeCells ⟨b,off,none⟩ xs).run P w=.ok () { w with heap:=w.heap.setIfInBounds b (.cells a e f) }∧a.size=c.size ∧
   ∀ k,cellAt (w.heap.setIfInBounds b (.cells a e f)) b k=if off≤k∧k < off+xs.length then xs[k - off]? else cellAt w.heap b k:=by
 obtain ⟨a,h1,i,j⟩:=lK (P:=P) (b:=b) (off:=off) (e:=e) (f:=f) xs 0 c w d g (by omega) h
 refine ⟨a,h1,i,fun k=>?_⟩
 have:=j k
 simp only[Y2] at this
 simp only[cellAt,ej (fi d),d]
 exact this
theorem FR:aB=70368744177664:=by decide
theorem J5 {t0 t1 e:TypeId} {ti:TypeInfo} {a:Array TypeId} {ty:TypeId} {base:Option Addr} {sLen sCap m:Nat} {l:Value} {old new u:Array Value}
  (n:a[0]?=some t0) (o:a[1]?=some t1) (b:qK P t1=true) (c:P.underlying t0=some (.slice e)) (f:P.info? e=some ti)
  (hl:(Builtin.lenOf l).run P w=.ok m w) (p:sCap < sLen+m) (x:(sLen+m) * ti.bytes < aB) (y:sLen+m < aB)
  (z:∀ w',∃ q,(zeroValue e).run P w'=.ok q w'∧q.cells=u)
  (A:(Builtin.firstCells ti.size sLen (.slice base sLen sCap)).run P w.drew=.ok old w.drew) (B:(Builtin.firstCells ti.size m l).run P w.drew=.ok new w.drew) :
  ∃ cap,sLen+m≤cap∧(Builtin.append_ a ty #[.slice base sLen sCap,l]).run P w =
   .ok (.slice (some ⟨w.heap.size,0,none⟩) (sLen+m) cap) (w.drew.alloc (.cells (old ++ new ++ Builtin.zeroCells u (cap - (sLen+m))) e)):=by
 have hint:∃ d,P.underlying t1=some d∧∀ k,d≠.int k:=by
  unfold qK at b
  cases hu:P.underlying t1 with
  | none=>simp[hu] at b
  | some d=>refine ⟨d,rfl,fun k e=>?_⟩; subst e; simp[hu] at b
 obtain ⟨d,hd,r⟩:=hint
 have v:=FR
 have g:=growslice_fits p (show (sLen+m) * ti.bytes≤140737488355328 by omega)
 have h:¬ (((sLen+m:Nat):Int) > IntKind.i64.max):=by
  have:IntKind.i64.max=9223372036854775807:=by decide
  rw[this]; omega
 have i:¬ (Builtin.nextslicecap (sLen+m) sCap * ti.bytes > 2 ^ 48):=by
  have:(2:Nat) ^ 48=281474976710656:=by decide
  rw[this]; exact Nat.not_lt.2 g
 obtain ⟨q,s,t⟩:=z w.drew
 refine ⟨Question.cut (.appendCap (sLen+m) sCap e) (w.tape w.drawn (.appendCap (sLen+m) sCap e)),Nat.le_add_right _ _,?_⟩
 have j:Question.forced (.appendCap (sLen+m) sCap e)=false:=rfl
 subst t
 cases d with
 | int k=>exact absurd rfl (r k)
 | _ =>
 simp only[Builtin.append_,Yd,XG,XX,n,o,Sem.run_bind,bw c,Result.andThen_ok,dK f,bw hd,Sem.run_pure,Xz,if_false,hl,Bool.not_false,if_true]
 rw[Xd (by omega)]
 simp only[h,false_and,if_false,Sem.run_bind,qE f,Result.andThen_ok,Sem.run_ite,Sem.run_pure,i,run_choose,j,Xz,World.drew_eq,run_askRoom,A,B,s,newRow,run_newObj,World.alloc_eq]
 rfl
end
end Gv
