/-
  Part 4 of the proof: what the machine does and what the functions answer.
  Conditions: those that each lemma names.
-/
import Derived.Test.YtihmlbdfcmfbdaaGreatSGzA7C
set_option linter.unusedSimpArgs false
set_option linter.unusedVariables false
set_option maxRecDepth 100000
namespace Gv
open Go
inductive Tree:V→Prop
  | val (v:Value):Tree (.val v)
  | emp (k:Nat):Tree (.emp k)
  | dc:Tree .dc
  | aV (es:List (List V)):(∀ i j,i < es.length→j < (es.getD i []).length→Tree ((es.getD i []).getD j .any))→Tree (.aV es)
  | aO (e:List V) (j:Nat):(∀ k,k < e.length→Tree (e.getD k .any))→Tree (.aO e j)
  | fn (f:FuncId) (xs ys:List V):(∀ i,i < xs.length→Tree (xs.getD i .any))→(∀ i,i < ys.length→Tree (ys.getD i .any))→Tree (.fn f xs ys)
  | agg (cs:List V):(∀ i,i < cs.length→Tree (cs.getD i .any))→Tree (.agg cs)
  | bk (cs:List V):(∀ i,i < cs.length→Tree (cs.getD i .any))→Tree (.bk cs)
theorem tv {Z:Nat→Prop} {μ ν:Mu} {hp:Array Obj} {v:V} {x:Value} (h:az Z μ hp v x):Tree v→az Z ν hp v x:=by
  induction h with
  | any x=>intro t; exact .any x
  | val v hv=>intro _; exact .val v hv
  | emp k a h1 h2=>intro _; exact .emp k a h1 h2
  | dc a cap=>intro _; exact .dc a cap
  | gh a cap h1=>intro _; exact .gh a cap h1
  | aV es b off esz cap c hz hle hes hc _ ih =>
    intro t
    cases t with
    | aV _ ht=>exact .aV es b off esz cap c hz hle hes hc (fun i j hi hj=>ih i j hi hj (ht i j hi (by rw[hes i hi]; exact hj)))
  | mR id off esz a=>intro t; cases t
  | sl id off len esz b o0 cap c e f hm hle hb hs=>intro t; cases t
  | ptr id i j b o0 esz hm=>intro t; cases t
  | aO e j b off c hz hc _ ih =>
    intro t
    cases t with
    | aO _ _ ht=>exact .aO e j b off c hz hc (fun k hk=>ih k hk (ht k hk))
  | mp id b o0 esz hm=>intro t; cases t
  | fn f xs ys aas bs h1 h2 _ _ ih1 ih2 =>
    intro t
    cases t with
    | fn _ _ _ t1 t2=>exact .fn f xs ys aas bs h1 h2 (fun i hi=>ih1 i hi (t1 i hi)) (fun i hi=>ih2 i hi (t2 i hi))
  | agg cs aas h1 _ ih =>
    intro t
    cases t with
    | agg _ ht=>exact .agg cs aas h1 (fun i hi=>ih i hi (ht i hi))
  | bk cs aas h1 _ ih =>
    intro t
    cases t with
    | bk _ ht=>exact .bk cs aas h1 (fun i hi=>ih i hi (ht i hi))
inductive Fr (h:aB):V→V→Prop
  | tree (v:V):Tree v→Fr h v v
  | emp (k:Nat):Fr h (.emp k) (.aV [])
  | sl (id off len esz z:Nat) (es es':List (List V)):h.view id=.arr z es→off+len≤es.length→es'.length=len →
      (∀ i,i < len→(es'.getD i []).length=(es.getD (off+i) []).length) →
      (∀ i j,i < len→j < (es'.getD i []).length→Fr h ((es.getD (off+i) []).getD j .any) ((es'.getD i []).getD j .any))→Fr h (.sl id off len esz) (.aV es')
  | ptr (id i j z:Nat) (es:List (List V)) (e':List V):h.view id=.arr z es→i < es.length→e'.length=(es.getD i []).length →
      (∀ k,k < e'.length→Fr h ((es.getD i []).getD k .any) (e'.getD k .any))→Fr h (.ptr id i j) (.aO e' j)
  | agg (cs cs':List V):cs'.length=cs.length→(∀ i,i < cs.length→Fr h (cs.getD i .any) (cs'.getD i .any))→Fr h (.agg cs) (.agg cs')
  | bk (cs cs':List V):cs'.length=cs.length→(∀ i,i < cs.length→Fr h (cs.getD i .any) (cs'.getD i .any))→Fr h (.bk cs) (.bk cs')
theorem Aa {h:aB} {Z:Nat→Prop} {μ ν:Mu} {F:View} {hp:Array Obj} (hr:fS Z μ hp (cat h F)) {v t:V} (fr:Fr h v t):∀ {x:Value},az Z μ hp v x→az (fun b=>Z b∨gP μ b) ν hp t x:=by
  have hcat:∀ id,h.view id≠.dead→cat h F id=h.view id:=fun id hd=>by simp only[cat]; rw[if_pos (ga hd)]
  induction fr with
  | tree v ht =>
    intro x hx
    have h1:az Z ν hp v x:=tv hx ht
    exact h1.mono ⟨fun _ h=>.inl h,fun _ _=>rfl,fun _ _ h=>h,ey.refl _⟩
  | emp k=>intro x hx; cases hx with | emp _ a=>exact .gh a 0 (fun _=>rfl)
  | sl id off len esz z es es' hH hle hlen hl _ ih =>
    intro x hx
    cases hx with
    | mR _ _ _ a =>
      have:es'=[]:=List.length_eq_zero_iff.1 hlen
      subst this
      exact .gh a 0 (fun _=>rfl)
    | sl _ _ _ _ b o0 cap c e f hm hlec hb hs =>
      have hor:=hr.obj id
      rw[hcat id (by rw[hH]; simp),hH] at hor
      obtain ⟨rfl,_,h3,h4⟩:=hor b o0 esz hm
      have hx:∀ i,∃ ci:Nat→Value,∀ j,j < esz→i < len→cellAt hp b (o0+off * esz+i * esz+j)=some (ci j)∧az Z μ hp ((es.getD (off+i) []).getD j .any) (ci j):=by
        intro i
        by_cases hi:i < len
        · obtain ⟨ci,hci⟩:=lL (n:=esz) (p:=fun j x=>cellAt hp b (o0+off * esz+i * esz+j)=some x∧az Z μ hp ((es.getD (off+i) []).getD j .any) x) (fun j hj=>by
            obtain ⟨x,hx,hv⟩:=h4 (off+i) j (by omega) hj
            rw[Nat.add_mul,← Nat.add_assoc] at hx
            exact ⟨x,hx,hv⟩)
          exact ⟨ci,fun j hj _=>hci j hj⟩
        · exact ⟨fun _=>undef,fun j _ h=>absurd h hi⟩
      obtain ⟨cf,hcf⟩:=Classical.axiomOfChoice hx
      have hel:∀ i,i < es'.length→(es'.getD i []).length=esz:=fun i hi=>by rw[hl i (by omega)]; exact h3 _ (by omega)
      have:=az.aV (Z:=fun b=>Z b∨gP μ b) (μ:=ν) (hp:=hp) es' b (o0+off * esz) esz cap cf (.inr ⟨id,o0,esz,hm⟩) (by omega) hel
        (fun i j hi hj=>(hcf i j hj (by omega)).1) (fun i j hi hj=>ih i j (by omega) (by rw[hel i hi]; exact hj) (hcf i j hj (by omega)).2)
      rw[hlen] at this
      exact this
  | ptr id i j z es e' hH hi hlen _ ih =>
    intro x hx
    obtain ⟨b,o0,sz,hm,rfl⟩:=k8 (w:={ (default:World) with heap:=hp }) hx
    have hor:=hr.obj id
    rw[hcat id (by rw[hH]; simp),hH] at hor
    obtain ⟨rfl,hrow⟩:=rowOf (w:={ (default:World) with heap:=hp }) hor hm hi
    refine wQ (w:={ (default:World) with heap:=hp }) (.inr ⟨id,o0,sz,hm⟩) (fun k hk=>?_)
    obtain ⟨y,hy,hv⟩:=hrow k (by omega)
    exact ⟨y,hy,ih k hk hv⟩
  | agg cs cs' hlen _ ih =>
    intro x hx
    cases hx with
    | agg _ aas h1 h2=>exact .agg _ _ (by omega) (fun i hi=>ih i (by omega) (h2 i (by omega)))
  | bk cs cs' hlen _ ih =>
    intro x hx
    cases hx with
    | bk _ aas h1 h2=>exact .bk _ _ (by omega) (fun i hi=>ih i (by omega) (h2 i (by omega)))
def aC (P:Program) (f:FuncId) (vs:List V) (t:V):Prop :=
  ∀ Z μ (w:World) (xs:List Value),dT Z μ w.heap vs xs→(∀ b,Z b→b < w.heap.size) →
    Calls P f xs.toArray w fun e w'=>∃ x Z',e=.returned x∧(∀ ν,az Z' ν w'.heap t x)∧dG w w'∧(∀ b,Z b→Z' b)∧(∀ b,Z' b→Z b∨(w.heap.size≤b∧b < w'.heap.size))∧eS w.heap w'.heap (fun _=>False)
theorem AB (F:View):cat [] F=F:=by funext id; simp[cat]
theorem aC.uo {P:Program} {f:FuncId} {vs:List V} {r t:V} {h':aB} (ht:∀ v∈vs,Tree v) (hc:bA P f vs [] r h') (hf:Fr h' r t):aC P f vs t:=by
  intro Z μ w xs hrel hz
  have hrel0:dT Z (fun _=>none) w.heap vs xs:=⟨hrel.1,fun i hi=>tv (hrel.2 i hi) (by
    simp only[List.getD_eq_getElem?_getD,List.getElem?_eq_getElem hi,Option.getD_some]
    exact ht _ (List.getElem_mem _))⟩
  have hr0:fS Z (fun _=>none) w.heap (cat [] fun _=>.dead):=by
    rw[AB]
    exact ⟨fun _=>trivial,fun i j b o s o' s' _ h=>by simp at h,fun id b o s h=>by simp at h,hz,fun id b o s h=>by simp at h⟩
  refine (hc.2 Z _ _ w xs hrel0 hr0 (fun _ _ _=>rfl)).mono ?_
  rintro e w' ⟨x,Z',μ',rfl,hv,hh,hex,_⟩
  refine ⟨x,fun b=>Z' b∨gP μ' b,rfl,fun ν=>Aa hh hf hv,hex.same,fun b hb=>.inl (hex.mono.z b hb),?_,fun b hb _=>hex.frame b hb (by rintro ⟨_,_,_,h⟩; simp at h)⟩
  rintro b (hb | ⟨id,o,s,hb⟩)
  · rcases hex.LB b hb with h1 | h1
    · exact .inl h1
    · exact .inr ⟨h1,hh.ca b hb⟩
  · rcases hex.zk _ _ _ _ hb with h1 | ⟨_,h1 | ⟨_,_,_,h1⟩⟩
    · simp at h1
    · exact .inr ⟨h1,hh.lt _ _ _ _ hb⟩
    · simp at h1
theorem bA.eX {P:Program} {f:FuncId} {vs:List V} {t:V} (hc:aC P f vs t) (h:aB):bA P f vs h t h:=by
  refine ⟨Nat.le_refl _,fun Z μ F w xs hrel hr hfree=>(hc Z μ w xs hrel hr.ca).mono ?_⟩
  rintro e w' ⟨x,Z',rfl,hv,hs,hz,hz',ho⟩
  have hm:fw Z Z' μ μ w.heap w'.heap:=⟨hz,fun b hb=>ho b (hr.ca b hb) (fun x=>x),fun _ _ h=>h,ho.nK⟩
  refine ⟨x,Z',μ,rfl,hv μ,⟨fun id=>(hr.obj id).mono hm rfl (fun b o s hx=>ho b (hr.lt _ _ _ _ hx) (fun x=>x)),hr.inj,fun id b o s hx=>Nat.lt_of_lt_of_le (hr.lt _ _ _ _ hx) hs.size,fun b hb=>?_,fun id b o s hx hzb=>?_⟩,
    ⟨hs,hm,fun b hb _=>ho b hb (fun x=>x),fun b hb=>?_,fun _ _ _ _ h=>.inl h⟩,fun _ _=>rfl⟩
  · rcases hz' b hb with h1 | h1
    · exact Nat.lt_of_lt_of_le (hr.ca b h1) hs.size
    · exact h1.2
  · rcases hz' b hzb with h1 | h1
    · exact hr.fE _ _ _ _ hx h1
    · have:=hr.lt _ _ _ _ hx; omega
  · rcases hz' b hb with h1 | h1
    · exact .inl h1
    · exact .inr h1.1
structure St where
  L:List V
  h:aB
  wl:List Nat
inductive NH where
  | normal | exit (id:Nat) | goto (l:Nat) | ret
  deriving DecidableEq
def NH.to:NH→Exit
  | .normal=>.normal
  | .exit id=>.exit id
  | .goto l=>.goto l
  | .ret=>.ret
def AZ (l:List Nat) (x:Nat):Bool:=!l.contains x
def Aq (a b:Rec):Bool :=
  a.wr.all (AZ b.rd) && b.wr.all (AZ a.rd) && (!a.call || b.wr.isEmpty) && (!b.call || a.wr.isEmpty) && b.wr.all fun id=>!(decide (a.lo≤id) && decide (id < a.hi))
inductive Mode where
  | code
  | jump (c:Code)
section
variable {P:Program} {n:Nat}
def Told (s s':St):Prop:=s.h.length≤s'.h.length∧∀ id,id < s.h.length→¬ id∈s'.wl→s'.h.view id=s.h.view id∧¬ id∈s.wl
theorem Told.trans {a b c:St} (h:Told a b) (k:Told b c):Told a c :=
  ⟨Nat.le_trans h.1 k.1,fun id hid hw=>by
    obtain ⟨h1,h2⟩:=k.2 id (Nat.lt_of_lt_of_le hid h.1) hw
    obtain ⟨h3,h4⟩:=h.2 id hid h2
    exact ⟨h1.trans h3,h4⟩⟩
theorem Told.refl (s:St):Told s s:=⟨Nat.le_refl _,fun _ _ hw=>⟨rfl,hw⟩⟩
theorem KR {a b:Rec} (h:Aq a b=true):lC a b:=by
  unfold Aq at h
  simp only[Bool.and_eq_true,List.all_eq_true,AZ,Bool.not_eq_true',Bool.or_eq_true] at h
  obtain ⟨⟨⟨⟨h1,h2⟩,h3⟩,h4⟩,h5⟩:=h
  refine ⟨fun id hid hm=>?_,fun id hid hm=>?_,fun hcall=>?_,fun hcall=>?_,fun id hid hm=>?_⟩
  · have:=h1 id hid; simp at this; exact this hm
  · have:=h2 id hid; simp at this; exact this hm
  · rcases h3 with h3 | h3
    · rw[hcall] at h3; simp at h3
    · simpa using h3
  · rcases h4 with h4 | h4
    · rw[hcall] at h4; simp at h4
    · simpa using h4
  · have:=h5 id hid
    simp at this
    omega
end
inductive SX where
  | tmp (t:Nat)
  | val (v:V)
  deriving Inhabited
def SX.of:Operand→SX
  | .tmp t=>.tmp t
  | .const v=>.val (eh v)
  | .global _=>.val .any
  | .func f=>.val (.fn f [] [])
def SX.at (T:Env):SX→V
  | .tmp t=>T t
  | .val v=>v
theorem SX.cg (T:Env) (x:Operand):(SX.of x).at T=ev T x:=by cases x <;> rfl
inductive SI where
  | bg (x:SX)
  | pick (c a b:SX)
  | box (x:SX)
  | gU (x:SX)
  | alloc (z:List V)
  | build (z:List V) (parts:List (Nat × Nat × SX))
  | bD (len sz:Nat) (z:List V) (parts:List (Nat × SX))
  | load (sz:Option Nat) (a:SX)
  | w9 (sz:Option Nat) (a:SX)
  | store (sz:Nat) (a x:SX)
  | yG (x:SX)
  | addr (off:Nat) (x:SX)
  | field (off:Nat) (sz:Option Nat) (x:SX)
  | idx (sz:Nat) (x i:SX)
  | slice (sz:Nat) (x:SX) (lo hi:Option SX)
  | make (sz bytes:Nat) (z:List V) (l c:SX)
  | lS
  | rO (f:FuncId) (first cap:List SX)
  | ext (i:Nat) (x:SX)
  | len (x:SX)
  | gL (x:SX)
  | app (sz bytes:Nat) (x y:SX)
  | arith (op:BinOp) (x y:SX)
  | sh (left:Bool) (x y:SX)
  | iE (op:BinOp) (x y:SX)
  | c8 (x i:SX)
  | not (x:SX)
  | nil (eq:Bool) (k:Nat) (x y:SX)
  | beq (eq:Bool) (x y:SX)
  | mm (mx:Bool) (x y:SX)
  | conv (k:IntKind) (x:SX)
  | AJ (x:SX)
  | eZ (x:SX)
  | old (op:Op) (ty:TypeId)
  deriving Inhabited
def kz:Option Nat→List V→Nat→Option V
  | some n,cs,off=>if off+n≤cs.length then some (.agg ((cs.drop off).take n)) else none
  | none,cs,off=>if off < cs.length then some (cs.getD off .any) else none
def tV (sz:Option Nat) (a:V) (H:View):Out:=match a with
  | .ptr id i j=>match H id with
    | .arr _ es=>if i < es.length then (kz sz (es.getD i []) j).map fun v=>(v,.none,[id]) else none
    | _=>none
  | .aO e j=>(kz sz e j).map fun v=>(v,.none,[])
  | _=>none
def Ak (sz:Nat) (a v:V) (H:View):Out:=match a with
  | .ptr id i j=>match H id with
    | .arr esz es =>
      if i < es.length∧v.cells.length=sz∧j+v.cells.length≤esz∧v.cells.all aP=true
      then some (.any,.eH id (.arr esz (es.set i (ab (es.getD i []) j v.cells))),[id]) else none
    | _=>none
  | _=>none
def ae (z:List V) (parts:List (Nat × Nat × V)):Option (List V):=match parts with
  | []=>some z
  | (off,size,x) :: r=>if x.cells.length=size∧off+size≤z.length∧x.cells.all aP=true then ae (ab z off x.cells) r else none
def xi (len sz:Nat) (z:List V) (parts:List (Nat × V)) (n:Nat):Out :=
  match af sz (List.replicate len z) parts with
  | some es=>some (.sl n 0 len sz,.new (.arr sz es),[])
  | none=>none
def w7 (off:Nat) (x:V):Out:=match x with
  | .ptr id i j=>some (.ptr id i (j+off),.none,[])
  | .aO e j=>some (.aO e (j+off),.none,[])
  | _=>none
def Ay (sz:Nat) (x i:V):Out:=match asNat i with
  | none=>none
  | some q=>match x with
    | .sl id off len esz=>if q < len∧esz=sz then some (.ptr id (off+q) 0,.none,[]) else none
    | .aV es=>if q < es.length∧(es.getD q []).length=sz then some (.aO (es.getD q []) 0,.none,[]) else none
    | _=>none
def ke (sz:Nat) (x:V) (lo hi:Option V):Out:=match x with
  | .sl id off len esz=>match bound 0 lo,bound len hi with
    | some l,some h=>if l≤h∧h≤len∧esz=sz then some (.sl id (off+l) (h - l) esz,.none,[]) else none
    | _,_=>none
  | .aV es=>match bound 0 lo,bound es.length hi with
    | some l,some h=>if l≤h∧h≤es.length∧(es.all fun e=>e.length == sz)=true then some (.aV ((es.drop l).take (h - l)),.none,[]) else none
    | _,_=>none
  | .emp k=>match bound 0 lo,bound 0 hi with
    | some 0,some 0=>some (.emp k,.none,[])
    | _,_=>none
  | _=>none
def zB (sz bytes:Nat) (z:List V) (len cap:V) (n:Nat):Out:=match asNat len,asNat cap with
  | some l,some c =>
    if l≤c∧c < aN∧bytes * c < aN then
      (if c=0 then some (.emp 2,.none,[]) else some (.sl n 0 l sz,.new (.arr sz (List.replicate l z)),[]))
    else none
  | _,_=>none
def E3 (sz bytes:Nat) (s x:V) (H:View) (n:Nat):Out:=match bJ H x with
  | some (xs,rd) =>
      if xs.isEmpty then (match s with
        | .emp _ | .dc | .aV _ | .sl _ _ _ _=>some (s,.none,[])
        | _=>none)
      else if ¬ ((xs.all fun e=>e.length == sz && e.all aP)=true) then none
      else match s with
        | .emp _=>if xs.length * bytes < aN∧xs.length < aN then some (.sl n 0 xs.length sz,.new (.arr sz xs),rd) else none
        | .sl id off len esz=>match H id with
          | .arr _ es =>
            if off+len≤es.length∧esz=sz∧(len+xs.length) * bytes < aN∧len+xs.length < aN
            then some (.sl n 0 (len+xs.length) esz,.bg id (.arr esz ((es.drop off).take len ++ xs)),id :: rd) else none
          | _=>none
        | _=>none
  | none=>none
def ag (op:BinOp) (k:IntKind) (a b:Int):Option Value:=match op with
  | .add=>some (.int k (k.wrap (a+b)))
  | .sub=>some (.int k (k.wrap (a - b)))
  | .mul=>some (.int k (k.wrap (a * b)))
  | .quo=>if b=0 then none else some (.int k (k.wrap (a.tdiv b)))
  | .rem=>if b=0 then none else some (.int k (a.tmod b))
  | .eql=>some (.bool (a == b))
  | .neq=>some (.bool (a != b))
  | .lss=>some (.bool (a < b))
  | .leq=>some (.bool (a≤b))
  | .gtr=>some (.bool (a > b))
  | .geq=>some (.bool (a≥b))
  | .or=>some (.int k (k.wrap (BitVec.ofInt k.bits a ||| BitVec.ofInt k.bits b).toNat))
  | .and=>some (.int k (k.wrap (BitVec.ofInt k.bits a &&& BitVec.ofInt k.bits b).toNat))
  | .xor=>some (.int k (k.wrap (BitVec.ofInt k.bits a ^^^ BitVec.ofInt k.bits b).toNat))
  | .andNot=>some (.int k (k.wrap (BitVec.ofInt k.bits a &&& ~~~(BitVec.ofInt k.bits b)).toNat))
  | _=>none
def vy (op:BinOp) (x y:V):Out:=match x,y with
  | .val (.int k a),.val (.int k' b)=>if k=k' then (ag op k a b).map fun v=>(.val v,.none,[]) else none
  | _,_=>none
def H8 (left:Bool) (k:IntKind) (a b:Int):Int:=if left then k.wrap (a * 2 ^ (min b.toNat k.bits)) else a.fdiv (2 ^ (min b.toNat k.bits))
def IG (left:Bool) (x y:V):Out:=match x,y with
  | .val (.int k a),.val (.int _ b)=>if b < 0 then none else some (.val (.int k (H8 left k a b)),.none,[])
  | _,_=>none
def LO:BinOp→Option Bool
  | .shl=>some true
  | .shr=>some false
  | _=>none
def gH (a b:ByteArray):Bool:=a.data.toList == b.data.toList
def yI (op:BinOp) (x y:V):Out:=match x,y with
  | .val (.string a),.val (.string b)=>match op with
    | .eql=>some (.val (.bool (gH a b)),.none,[])
    | .neq=>some (.val (.bool (!gH a b)),.none,[])
    | _=>none
  | _,_=>none
def zJ (x i:V):Out:=match x,asNat i with
  | .val (.string s),some q=>match s.data.toList[q]? with
    | some b=>some (.val (.int .u8 b.toNat),.none,[])
    | none=>none
  | _,_=>none
def ai:Option Bool→Option Bool→Option Bool
  | some true,some b=>some b
  | some b,some true=>some b
  | _,_=>none
theorem GM {P:Program} {t:TypeId} {k:Nat} (h:g9 P t=some k) (x y:V):AY P t x y=ai (isNil k x) (isNil k y):=by
  simp only[AY,h]
  unfold ai
  split <;> simp_all
def oper (op:Op) (ty:TypeId):Oper:=⟨none,op,ty,"",#[],none⟩
theorem Lh (P:Program) (o:Oper) (T:Env) (H:View) (n:Nat):bU P (oper o.op o.type) T H n=bU P o T H n:=by
  cases o; rfl
def sI (P:Program) (s:SI) (T:Env) (H:View) (n:Nat):Out:=match s with
  | .bg x=>some (x.at T,.none,[])
  | .pick c a b=>match c.at T with
    | .val (.bool t)=>some (if t then a.at T else b.at T,.none,[])
    | _=>none
  | .box x=>ka (x.at T).cells n
  | .gU x=>if (x.at T).cells.all aP=true then some (.aO (x.at T).cells 0,.none,[]) else none
  | .alloc z=>ka z n
  | .build z parts=>(ae z (parts.map fun (a,b,x)=>(a,b,x.at T))).map fun cs=>(.agg cs,.none,[])
  | .bD len sz z parts=>xi len sz z (parts.map fun (i,x)=>(i,x.at T)) n
  | .load sz a=>tV sz (a.at T) H
  | .w9 sz a=>match a.at T with
    | .aO e j=>(kz sz e j).map fun v=>(v,.none,[])
    | _=>none
  | .store sz a x=>Ak sz (a.at T) (x.at T) H
  | .yG x=>match x.at T with
    | .ptr id i j=>some (.ptr id i j,.none,[])
    | .aO e j=>some (.aO e j,.none,[])
    | .fn f a b=>some (.fn f a b,.none,[])
    | _=>none
  | .addr off x=>w7 off (x.at T)
  | .field off sz x=>match x.at T with
    | .agg cs=>(kz sz cs off).map fun v=>(v,.none,[])
    | _=>none
  | .idx sz x i=>Ay sz (x.at T) (i.at T)
  | .slice sz x lo hi=>ke sz (x.at T) (lo.map (SX.at T)) (hi.map (SX.at T))
  | .make sz bytes z l c=>zB sz bytes z (l.at T) (c.at T) n
  | .lS=>some (.mp n,.new (.map [] 0),[])
  | .rO f first cap=>some (.fn f (first.map (SX.at T)) (cap.map (SX.at T)),.none,[])
  | .ext i x=>match x.at T with
    | .bk vs=>if i < vs.length then some (vs.getD i .any,.none,[]) else none
    | _=>none
  | .len x=>(cT (x.at T)).map fun n=>(aj n,.none,[])
  | .gL x=>match x.at T with
    | .val (.string s)=>some (aj s.size,.none,[])
    | _=>none
  | .app sz bytes x y=>E3 sz bytes (x.at T) (y.at T) H n
  | .arith op x y=>vy op (x.at T) (y.at T)
  | .sh l x y=>IG l (x.at T) (y.at T)
  | .iE op x y=>yI op (x.at T) (y.at T)
  | .c8 x i=>zJ (x.at T) (i.at T)
  | .not x=>match x.at T with
    | .val (.bool t)=>some (.val (.bool (!t)),.none,[])
    | _=>none
  | .nil eq k x y=>match ai (isNil k (x.at T)) (isNil k (y.at T)) with
    | some b=>some (.val (.bool (if eq then b else !b)),.none,[])
    | none=>none
  | .beq eq x y=>match x.at T,y.at T with
    | .val (.bool a),.val (.bool b)=>some (.val (.bool (if eq then a == b else a != b)),.none,[])
    | _,_=>none
  | .mm mx x y=>match x.at T,y.at T with
    | .val (.int k a),.val (.int _ b)=>some (.val (.int k (if mx then (if b > a then b else a) else (if b < a then b else a))),.none,[])
    | _,_=>none
  | .conv k x=>match x.at T with
    | .val (.int _ a)=>some (.val (.int k (k.wrap a)),.none,[])
    | _=>none
  | .AJ x=>match x.at T with
    | .aV es=>(jB es).map fun l=>(.val (.string ⟨l.toArray⟩),.none,[])
    | _=>none
  | .eZ x=>match x.at T with
    | .val (.string s)=>some (.aV (fv s),.none,[])
    | _=>none
  | .old op ty=>bU P (oper op ty) T H n
def Ai (P:Program) (t:TypeId):Option (Option Nat):=match P.info? t,pE P t with
  | some i,some true=>some (some i.size)
  | some _,some false=>some none
  | _,_=>none
theorem tc {P:Program} {t:TypeId} {k:Option Nat} (h:Ai P t=some k) (cs:List V) (j:Nat):nF P t cs j=kz k cs j:=by
  unfold Ai at h
  split at h
  · rename_i i h1 h2
    simp at h; subst h; simp[nF,h1,h2,kz]
  · rename_i i h1 h2
    simp at h; subst h; simp[nF,h1,h2,kz]
  · simp at h
def qK (P:Program) (t:TypeId):Option (Nat × Nat × List V):=match cn P t with
  | some e=>match P.info? e,zeroCells P e with
    | some ti,some z=>if z.length=ti.size∧z.all aP=true∧ti.size≠0 then some (ti.size,ti.bytes,z) else none
    | _,_=>none
  | none=>none
theorem nb {P:Program} {t:TypeId} {sz by':Nat} {z:List V} (h:qK P t=some (sz,by',z)) :
    ∃ e ti,cn P t=some e∧P.underlying t=some (.slice e)∧P.info? e=some ti∧zeroCells P e=some z∧z.length=ti.size∧z.all aP=true∧ti.size≠0∧sz=ti.size∧by'=ti.bytes:=by
  unfold qK at h
  split at h
  · rename_i e he
    split at h
    · rename_i ti z' h1 h2
      split at h
      · rename_i hc
        simp at h
        obtain ⟨rfl,rfl,rfl⟩:=h
        have hu:P.underlying t=some (.slice e):=by
          unfold cn at he; split at he
          · rename_i h3; simp at he; subst he; exact h3
          · simp at he
        exact ⟨e,ti,he,hu,h1,h2,hc.1,hc.2.1,hc.2.2,rfl,rfl⟩
      · simp at h
    · simp at h
  · simp at h
def sR (P:Program) (t:TypeId):List (Nat × Operand)→Option (List (Nat × Nat × SX))
  | []=>some []
  | (i,x) :: r=>match placeOf P t i,sR P t r with
    | some (a,b),some l=>some ((a,b,SX.of x) :: l)
    | _,_=>none
def comp (P:Program) (o:Oper):SI:=match o.op with
  | .move x | .assign x=>.bg (SX.of x)
  | .pick c a b=>.pick (SX.of c) (SX.of a) (SX.of b)
  | .alloc e=>match zeroCells P e with
    | some z=>.alloc z
    | none=>.old o.op o.type
  | .box _ x=>.box (SX.of x)
  | .load t a=>match Ai P t with
    | some k=>.load k (SX.of a)
    | none=>.old o.op o.type
  | .store t a v=>match P.info? t with
    | some _=>.store (P.cellsOf t) (SX.of a) (SX.of v)
    | none=>.old o.op o.type
  | .nilCheck x=>.yG (SX.of x)
  | .fieldAddr t x f=>match ng P t f with
    | some (off,s,_)=>if s=0 then .old o.op o.type else .addr off (SX.of x)
    | none=>.old o.op o.type
  | .field t x f=>match ng P t f with
    | some (off,_,ft)=>match Ai P ft with
      | some k=>.field off k (SX.of x)
      | none=>.old o.op o.type
    | none=>.old o.op o.type
  | .indexAddr t x i=>match qK P t with
    | some (sz,_,_)=>.idx sz (SX.of x) (SX.of i)
    | none=>.old o.op o.type
  | .slice t x lo hi none=>match qK P t with
    | some (sz,_,_)=>.slice sz (SX.of x) (lo.map SX.of) (hi.map SX.of)
    | none=>.old o.op o.type
  | .makeSlice t l c=>match qK P t with
    | some (sz,b,z)=>.make sz b z (SX.of l) (SX.of c)
    | none=>.old o.op o.type
  | .makeMap _ none=>.lS
  | .makeFunc (.func f) first cap=>.rO f (first.toList.map SX.of) (cap.toList.map SX.of)
  | .extract t i=>.ext i (SX.of t)
  | .build t parts=>match P.underlying t,zeroV P t with
    | some (.struct _),some (.agg z)=>if kh P t=true then
        (match sR P t parts.toList with
        | some ps=>.build z ps
        | none=>.old o.op o.type) else .old o.op o.type
    | _,_=>.old o.op o.type
  | .buildSlice t len parts=>match qK P t with
    | some (sz,_,z)=>if len=0∧parts.toList.isEmpty=true then .bg (.val (.emp 2)) else if len * sz≤2 ^ 24∧len≠0 then .bD len sz z (parts.toList.map fun (i,x)=>(i,SX.of x)) else .old o.op o.type
    | none=>.old o.op o.type
  | .call { callee:=.builtin b,args,argTypes }=>match b,args.toList with
    | .len,[x]=>if 1≤argTypes.size then (match P.underlying (argTypes.getD 0 0) with
      | some (.slice _)=>.len (SX.of x)
      | some .string=>.gL (SX.of x)
      | _=>.old o.op o.type) else .old o.op o.type
    | .append,[s,x]=>if 2≤argTypes.size∧nj P (argTypes.getD 1 0)=true then (match qK P (argTypes.getD 0 0) with
      | some (sz,b,_)=>.app sz b (SX.of s) (SX.of x)
      | none=>.old o.op o.type) else .old o.op o.type
    | .min,[x,y]=>.mm false (SX.of x) (SX.of y)
    | .max,[x,y]=>.mm true (SX.of x) (SX.of y)
    | _,_=>.old o.op o.type
  | .convert s d x=>match P.underlying s,P.underlying d with
    | some (.int _),some (.int k)=>.conv k (SX.of x)
    | _,_=>.old o.op o.type
  | .binOp op t x y _=>match g9 P t with
    | some k=>match op with
      | .eql=>.nil true k (SX.of x) (SX.of y)
      | .neq=>.nil false k (SX.of x) (SX.of y)
      | _=>.old o.op o.type
    | none=>match P.underlying t with
      | some (.int _)=>match LO op with
        | some l=>.sh l (SX.of x) (SX.of y)
        | none=>.arith op (SX.of x) (SX.of y)
      | some .string=>.iE op (SX.of x) (SX.of y)
      | some .bool=>match op with
        | .eql=>.beq true (SX.of x) (SX.of y)
        | .neq=>.beq false (SX.of x) (SX.of y)
        | _=>.old o.op o.type
      | _=>.old o.op o.type
  | .unOp .not _ x=>.not (SX.of x)
  | .index t x i=>match P.underlying t with
    | some .string=>.c8 (SX.of x) (SX.of i)
    | _=>.old o.op o.type
  | _=>.old o.op o.type
theorem BM {P:Program} {t:TypeId} {T:Env} : ∀ (parts:List (Nat × Operand)) (ps:List (Nat × Nat × SX)) (z:List V),sR P t parts=some ps →
    ua (placeOf P t) z (parts.map fun (i,x)=>(i,ev T x))=ae z (ps.map fun (a,b,x)=>(a,b,x.at T))
  | [],ps,z,h=>by simp[sR] at h; subst h; rfl
  | (i,x) :: r,ps,z,h=>by
    simp only[sR] at h
    split at h
    · rename_i a b l h1 h2
      simp at h; subst h
      simp only[List.map_cons,ua,h1,ae,SX.cg]
      split
      · exact BM r l _ h2
      · rfl
    · simp at h
theorem Fe {P:Program} {o:Oper} {T:Env} {op:BinOp} {t u:TypeId} {x y:Operand} {k:IntKind} {a b:Int} {r:Value} (ho:o.op=.binOp op t x y u) (hx:ev T x=.val (.int k a)) (hy:ev T y=.val (.int k b)) (h:ag op k a b=some r) :
    c7 P o T=some (.val r,.none,[]):=by
  unfold c7
  simp only[ho,Op.operands]
  simp only[hx,hy,cK]
  cases op <;> simp only[ag,Option.some.injEq,reduceCtorEq] at h
  all_goals first
    | (
       split at h
       · simp at h
       · rename_i hb
         simp at h; subst h
         simp[execOp,ho,hx,hy,cK,eqGuard,binOp,Op.intDiv,hb,plain]
         try rfl)
    | (subst h; simp[execOp,ho,hx,hy,cK,eqGuard,binOp,Op.intArith,Op.intCmp,Op.intBits,plain]; try rfl)
theorem LK {P:Program} {o:Oper} {T:Env} {op:BinOp} {t u:TypeId} {x y:Operand} {l:Bool} {v:V} {eff:aZ} {rd:List Nat} (ho:o.op=.binOp op t x y u) (hs:LO op=some l) (h:IG l (ev T x) (ev T y)=some (v,eff,rd)) :
    c7 P o T=some (v,eff,rd):=by
  unfold IG at h
  split at h
  · rename_i k a k' b hx hy
    split at h
    · simp at h
    · rename_i hb
      simp only[Option.some.injEq,Prod.mk.injEq] at h
      obtain ⟨rfl,rfl,rfl⟩:=h
      unfold c7
      simp only[ho,Op.operands]
      simp only[hx,hy,cK]
      cases op <;> simp only[LO,Option.some.injEq,reduceCtorEq] at hs
      all_goals
        subst hs
        simp[execOp,ho,hx,hy,cK,eqGuard,binOp,Op.shift,hb,plain,H8]
        try rfl
  · simp at h
theorem Jm {P:Program} {o:Oper} {T:Env} {op:BinOp} {t u:TypeId} {x y:Operand} {v:V} {eff:aZ} {rd:List Nat} (ho:o.op=.binOp op t x y u) (h:yI op (ev T x) (ev T y)=some (v,eff,rd)) :
    c7 P o T=some (v,eff,rd):=by
  unfold yI at h
  split at h
  · rename_i a b hx hy
    unfold c7
    simp only[ho,Op.operands,hx,hy,cK]
    have he:(a.toList == b.toList)=gH a b:=by simp[gH,ByteArray.toList_eq]
    split at h
    · simp at h; obtain ⟨rfl,rfl,rfl⟩:=h
      simp[execOp,ho,hx,hy,cK,eqGuard,binOp,Op.stringOp,plain,← he]; rfl
    · simp at h; obtain ⟨rfl,rfl,rfl⟩:=h
      simp[execOp,ho,hx,hy,cK,eqGuard,binOp,Op.stringOp,plain,← he]; rfl
    · simp at h
  · simp at h
theorem Hb {P:Program} {o:Oper} {T:Env} {t:TypeId} {x i:Operand} {v:V} {eff:aZ} {rd:List Nat} (ho:o.op=.index t x i) (hu:P.underlying t=some .string) (h:zJ (ev T x) (ev T i)=some (v,eff,rd)) :
    c7 P o T=some (v,eff,rd):=by
  unfold zJ at h
  split at h
  · rename_i s q hx hq
    split at h
    · rename_i b hb
      simp at h; obtain ⟨rfl,rfl,rfl⟩:=h
      unfold asNat at hq
      split at hq
      · rename_i k z hz
        split at hq
        · rename_i h0
          simp at hq; subst hq
          have hs:s[z.toNat]?=some b:=by
            obtain ⟨hlt,rfl⟩:=List.getElem?_eq_some_iff.1 hb
            have hlt':z.toNat < s.size:=by rw[bsize] at hlt; exact hlt
            rw[getElem?_pos s z.toNat hlt']
            rfl
          unfold c7
          simp only[ho,Op.operands,hx,hz,cK]
          simp[execOp,ho,hx,hz,cK,Instr.index,asIntOf,underlying,program,hu,h0,hs,plain]
          simp[bu,hu,h0,hs,plain,bind,Sem.bind,pure]
          rfl
        · simp at hq
      · simp at hq
    · simp at h
  · simp at h
theorem Kk {P:Program} {o:Oper} {T:Env} {t:TypeId} {x:Operand} {b:Bool} (ho:o.op=.unOp .not t x) (hx:ev T x=.val (.bool b)) :
    c7 P o T=some (.val (.bool (!b)),.none,[]):=by
  unfold c7
  simp only[ho,Op.operands,hx,cK]
  simp[execOp,ho,hx,cK,Op.unary,plain]
  rfl
theorem gM {α β:Type} (P:Program) (s:Sem α) (f:α→β):bu P (Functor.map f s)=(bu P s).map f:=by
  show bu P (s >>= fun a=>pure (f a))=_
  rw[bj]
  cases bu P s <;> rfl
theorem dW {P:Program} {t:TypeId} {d:TypeDesc} (h:P.underlying t=some d):bu P (underlying t)=some d:=by
  simp only[underlying,program,bj]
  simp[bu,h]
  rfl
theorem uv {P:Program} {t:TypeId} {a b:Bool} (hu:P.underlying t=some .bool):bu P (Op.equal t (.bool a) (.bool b))=some (a == b):=by
  rw[jT]
  generalize 9999=d
  simp only[Op.equalIn,bj,dW hu,Option.bind_some]
  rfl
theorem B4 {P:Program} {o:Oper} {T:Env} {op:BinOp} {t u:TypeId} {x y:Operand} {a b:Bool} {r:Bool} (ho:o.op=.binOp op t x y u) (hu:P.underlying t=some .bool) (hx:ev T x=.val (.bool a)) (hy:ev T y=.val (.bool b))
    (hr:(op=.eql∧r=(a == b))∨(op=.neq∧r=(a != b))) :
    c7 P o T=some (.val (.bool r),.none,[]):=by
  unfold c7
  simp only[ho,Op.operands,hx,hy,cK]
  rcases hr with ⟨rfl,rfl⟩ | ⟨rfl,rfl⟩
  · simp[execOp,ho,hx,hy,cK,eqGuard,binOp,gM,bj,uv hu,plain]
    try simp[bu,pure,plain]
  · simp[execOp,ho,hx,hy,cK,eqGuard,binOp,gM,bj,uv hu,plain]
    try simp[bu,pure,plain,bne]
theorem Im {P:Program} {o:Oper} {T:Env} {s d:TypeId} {x:Operand} {k0 k k':IntKind} {a:Int} (ho:o.op=.convert s d x) (hs:P.underlying s=some (.int k0)) (hd:P.underlying d=some (.int k)) (hx:ev T x=.val (.int k' a)) :
    c7 P o T=some (.val (.int k (k.wrap a)),.none,[]):=by
  unfold c7
  simp only[ho,Op.operands,hx,cK]
  have:bu P (convert s d (.int k' a))=some (.int k (k.wrap a)):=by
    simp only[convert,bj,dW hs,dW hd,Option.bind_some]
    rfl
  simp[execOp,ho,hx,cK,gM,this,plain]
theorem Dt {P:Program} {o:Oper} {T:Env} {bi:Builtin} {x y:Operand} {k k':IntKind} {a b:Int} {args:Array Operand} {ats:Array TypeId} {r:Int} (ho:o.op=.call { callee:=.builtin bi,args:=args,argTypes:=ats }) (ha:args.toList=[x,y])
    (hx:ev T x=.val (.int k a)) (hy:ev T y=.val (.int k' b)) (hr:(bi=.max∧r=if b > a then b else a)∨(bi=.min∧r=if b < a then b else a)) :
    c7 P o T=some (.val (.int k r),.none,[]):=by
  obtain rfl:args = #[x,y]:=by rw[← Array.toArray_toList (xs:=args),ha]
  unfold c7
  rcases hr with ⟨rfl,rfl⟩ | ⟨rfl,rfl⟩
  · have:bu P (Builtin.max_ ats o.type #[.int k a,.int k' b])=some (.int k (if b > a then b else a)):=rfl
    simp[ho,Op.operands,Call.operands,hx,hy,cK,execOp,resolve,invoke,builtin,gM,this,plain]
  · have:bu P (Builtin.min_ ats o.type #[.int k a,.int k' b])=some (.int k (if b < a then b else a)):=rfl
    simp[ho,Op.operands,Call.operands,hx,hy,cK,execOp,resolve,invoke,builtin,gM,this,plain]
theorem Du (l:List Operand) (T:Env):(l.map SX.of).map (SX.at T)=l.map (ev T):=by
  rw[List.map_map]; congr 1; funext x; exact SX.cg T x
theorem MY (l:Option Operand) (T:Env):(l.map SX.of).map (SX.at T)=l.map (ev T):=by
  cases l <;> simp[SX.cg]
theorem MV (l:List (Nat × Operand)) (T:Env):(l.map fun (i,x)=>(i,SX.of x)).map (fun (i,x)=>(i,SX.at T x))=l.map fun (i,x)=>(i,ev T x):=by
  rw[List.map_map]; congr 1; funext x; simp[SX.cg]
theorem G3 {P:Program} {o:Oper} {T:Env} {H:View} {n:Nat} {v:V} {eff:aZ} {rd:List Nat} (h:sI P (comp P o) T H n=some (v,eff,rd)) :
    bU P o T H n=some (v,eff,rd):=by
  have old:∀ {s:SI},s=.old o.op o.type→sI P s T H n=some (v,eff,rd)→bU P o T H n=some (v,eff,rd):=fun e h=>by rw[e] at h; simp only[sI,Lh] at h; exact h
  unfold comp at h
  split at h
  · rename_i x ho; simp only[sI,SX.cg] at h; simp only[bU,ho]; exact h
  · rename_i x ho; simp only[sI,SX.cg] at h; simp only[bU,ho]; exact h
  · rename_i c a b ho; simp only[sI,SX.cg] at h; simp only[bU,ho]; exact h
  · rename_i e ho
    split at h
    · rename_i z hz; simp only[sI] at h; simp only[bU,ho,hz]; exact h
    · exact old rfl h
  · rename_i t x ho; simp only[sI,SX.cg] at h; simp only[bU,ho]; exact h
  · rename_i t a ho
    split at h
    · rename_i k hk
      simp only[sI,SX.cg,tV] at h
      simp only[bU,ho,kE,tc hk]
      exact h
    · exact old rfl h
  · rename_i t a x ho
    split at h
    · rename_i ti hti
      simp only[sI,SX.cg,Ak] at h
      simp only[bU,ho,nT,hti,Option.isSome_some,and_true]
      exact h
    · exact old rfl h
  · rename_i x ho; simp only[sI,SX.cg] at h; simp only[bU,ho]; exact h
  · rename_i t x f ho
    split at h
    · rename_i off s ft hpl
      split at h
      · exact old rfl h
      · rename_i hs
        simp only[sI,SX.cg,w7] at h
        simp only[bU,ho,jM,hpl,hs,if_false]
        exact h
    · exact old rfl h
  · rename_i t x f ho
    split at h
    · rename_i off s ft hpl
      split at h
      · rename_i k hk
        simp only[sI,SX.cg] at h
        simp only[bU,ho,sP,hpl]
        split at h
        · rename_i cs hcs; simp only[hcs,tc hk]; exact h
        · simp at h
      · exact old rfl h
    · exact old rfl h
  · rename_i t x i ho
    split at h
    · rename_i sz b z hk
      obtain ⟨e,ti,h1,h2,h3,h4,h5,h6,h7,rfl,rfl⟩:=nb hk
      simp only[sI,SX.cg,Ay] at h
      simp only[bU,ho,jV,h2,h3]
      exact h
    · exact old rfl h
  · rename_i t x lo hi ho
    split at h
    · rename_i sz b z hk
      obtain ⟨e,ti,h1,h2,h3,h4,h5,h6,h7,rfl,rfl⟩:=nb hk
      simp only[sI,SX.cg,MY] at h
      simp only[bU,ho]
      have hsl:pU P t (ev T x) (lo.map (ev T)) (hi.map (ev T)) none=some (v,eff,rd):=by
        simp only[pU,h1,h3]
        unfold ke at h
        split at h
        · rename_i h9; rw[h9]; exact h
        · rename_i h9; rw[h9]; exact h
        · rename_i h9; rw[h9]; exact h
        · simp at h
      unfold ke at h
      split at h
      · rename_i h9; rw[h9] at hsl ⊢; exact hsl
      · rename_i h9; rw[h9] at hsl ⊢; exact hsl
      · rename_i h9; rw[h9] at hsl ⊢; exact hsl
      · simp at h
    · exact old rfl h
  · rename_i t l c ho
    split at h
    · rename_i sz b z hk
      obtain ⟨e,ti,h1,h2,h3,h4,h5,h6,h7,rfl,rfl⟩:=nb hk
      simp only[sI,SX.cg,zB] at h
      simp only[bU,ho,jY,h1,h3]
      split at h
      · rename_i l' c' hl hc
        simp only[hl,hc,h7,if_false,h4,h5,h6,and_self,if_true]
        exact h
      · simp at h
    · exact old rfl h
  · rename_i t ho; simp only[sI] at h; simp only[bU,ho]; exact h
  · rename_i f first cap ho; simp only[sI,Du] at h; simp only[bU,ho]; exact h
  · rename_i t i ho; simp only[sI,SX.cg] at h; simp only[bU,ho]; exact h
  · rename_i t parts ho
    split at h
    · rename_i fs z h1 h2
      split at h
      · rename_i h3
        split at h
        · rename_i ps h4
          simp only[sI] at h
          simp only[bU,ho,sF,h1,h2,h3,if_true]
          have:=BM (T:=T) parts.toList ps z h4
          rw[this]
          exact h
        · exact old rfl h
      · exact old rfl h
    · exact old rfl h
  · rename_i t len parts ho
    split at h
    · rename_i sz b z hk
      obtain ⟨e,ti,h1,h2,h3,h4,h5,h6,h7,rfl,rfl⟩:=nb hk
      split at h
      · rename_i hc
        obtain ⟨rfl,hc⟩:=hc
        simp only[sI,SX.at] at h
        simp only[bU,ho,fX,h1,h3]
        rw[List.isEmpty_iff] at hc
        rw[if_neg (by omega),if_pos trivial,hc]
        exact h
      split at h
      · rename_i hc
        simp only[sI,MV,xi] at h
        simp only[bU,ho,fX,h1,h3]
        rw[if_neg (by omega),if_neg hc.2,if_neg h7]
        simp only[h4,h5,h6,and_self,if_true]
        exact h
      · exact old rfl h
    · exact old rfl h
  · rename_i b args ats ho
    split at h
    · rename_i x hargs
      split at h
      · rename_i hsz
        simp only[bU,ho,hargs,hsz,if_true,rK]
        split at h
        · rename_i e hu
          simp only[sI,SX.cg] at h
          simp only[hu]; exact h
        · rename_i hu
          simp only[sI,SX.cg] at h
          simp only[hu]
          exact h
        · have:=old rfl h
          simpa only [bU,ho,hargs,hsz,if_true,rK] using this
      · exact old rfl h
    · rename_i s x hargs
      split at h
      · rename_i hsz
        split at h
        · rename_i sz b z hk
          obtain ⟨e,ti,h1,h2,h3,h4,h5,h6,h7,rfl,rfl⟩:=nb hk
          simp only[sI,SX.cg] at h
          simp only[bU,ho,hargs]
          rw[if_pos hsz]
          unfold E3 at h
          split at h
          · rename_i xs rd' hel
            simp only[kX,h1,hel,h3]
            have hz:(zeroCells P e).map List.length=some ti.size:=by rw[h4]; simp[h5]
            split at h
            · rename_i hemp; rw[if_pos hemp]; exact h
            · rename_i hemp
              rw[if_neg hemp]
              split at h
              · simp at h
              · rename_i hall
                rw[if_neg (by
                  rintro (h9 | h9 | h9)
                  · exact h7 h9
                  · exact h9 hz
                  · exact hall h9)]
                exact h
          · simp at h
        · exact old rfl h
      · exact old rfl h
    · rename_i x y hargs
      simp only[sI,SX.cg] at h
      simp only[bU,ho]
      split at h
      · rename_i k a k' b hx hy
        have:=Dt (P:=P) (T:=T) ho hargs hx hy (.inr ⟨rfl,rfl⟩)
        rw[this]; exact h
      · simp at h
    · rename_i x y hargs
      simp only[sI,SX.cg] at h
      simp only[bU,ho]
      split at h
      · rename_i k a k' b hx hy
        have:=Dt (P:=P) (T:=T) ho hargs hx hy (.inl ⟨rfl,rfl⟩)
        rw[this]; exact h
      · simp at h
    · exact old rfl h
  · rename_i s d x ho
    split at h
    · rename_i k0 k hs hd
      simp only[sI,SX.cg] at h
      simp only[bU,ho]
      split at h
      · rename_i k' a hx
        have hb:¬ (jt P s d=true):=by simp[jt,hs,hd]
        rw[if_neg hb,Im ho hs hd hx]; exact h
      · simp at h
    · exact old rfl h
  · rename_i op t x y u ho
    split at h
    · rename_i k hk
      have hsome:(g9 P t).isSome=true:=by rw[hk]; rfl
      split at h
      · simp only[sI,SX.cg] at h
        simp only[bU,ho]
        rw[if_pos hsome,GM hk]
        split at h
        · rename_i b hb; rw[hb]; simpa using h
        · simp at h
      · simp only[sI,SX.cg] at h
        simp only[bU,ho]
        rw[if_pos hsome,GM hk]
        split at h
        · rename_i b hb; rw[hb]; simpa using h
        · simp at h
      · exact old rfl h
    · rename_i hk
      have hnone:¬ ((g9 P t).isSome=true):=by rw[hk]; simp
      split at h
      · split at h
        · rename_i l hs
          simp only[sI,SX.cg] at h
          simp only[bU,ho]
          rw[if_neg hnone]
          exact LK ho hs h
        · simp only[sI,SX.cg,vy] at h
          simp only[bU,ho]
          split at h
          · rename_i k a k' b hx hy
            split at h
            · rename_i hkk
              subst hkk
              simp only[Option.map_eq_some_iff] at h
              obtain ⟨r,hr,h⟩:=h
              rw[if_neg hnone,Fe ho hx hy hr]; exact congrArg some h
            · simp at h
          · simp at h
      · simp only[sI,SX.cg] at h
        simp only[bU,ho]
        rw[if_neg hnone]
        exact Jm ho h
      · rename_i hu
        split at h
        · simp only[sI,SX.cg] at h
          simp only[bU,ho]
          split at h
          · rename_i a b hx hy
            rw[if_neg hnone,B4 ho hu hx hy (.inl ⟨rfl,rfl⟩)]; simpa using h
          · simp at h
        · simp only[sI,SX.cg] at h
          simp only[bU,ho]
          split at h
          · rename_i a b hx hy
            rw[if_neg hnone,B4 ho hu hx hy (.inr ⟨rfl,rfl⟩)]; simpa using h
          · simp at h
        · exact old rfl h
      · exact old rfl h
  · rename_i t x ho
    simp only[sI,SX.cg] at h
    simp only[bU,ho]
    split at h
    · rename_i b hb; rw[Kk ho hb]; exact h
    · simp at h
  · rename_i t x i ho
    split at h
    · rename_i hu
      simp only[sI,SX.cg] at h
      simp only[bU,ho]
      exact Hb ho hu h
    · exact old rfl h
  · exact old rfl h
theorem KZ {P:Program} {sz:Option Nat} {a:SX} {T:Env} {H:View} {n:Nat} {v:V} {eff:aZ} {rd:List Nat} (h:sI P (.w9 sz a) T H n=some (v,eff,rd)):sI P (.load sz a) T H n=some (v,eff,rd):=by
  simp only[sI] at h
  simp only[sI,tV]
  split at h
  · rename_i e j ha; rw[ha]; exact h
  · simp at h
def toStr (P:Program) (s d:TypeId):Bool:=match P.underlying s,P.underlying d with
  | some (.slice e),some .string=>(match P.underlying e with | some (.int .u8)=>true | _=>false)
  | _,_=>false
def si (P:Program) (s d:TypeId):Bool:=match P.underlying s,P.underlying d with
  | some .string,some (.slice e)=>(match P.underlying e with | some (.int .u8)=>true | _=>false)
  | _,_=>false
theorem IP {P:Program} {s d:TypeId} (h:toStr P s d=true):∃ e,P.underlying s=some (.slice e)∧P.underlying d=some .string∧P.underlying e=some (.int .u8):=by
  unfold toStr at h
  split at h
  · rename_i e h1 h2
    split at h
    · rename_i h3; exact ⟨e,h1,h2,h3⟩
    · simp at h
  · simp at h
theorem xE {P:Program} {s d:TypeId} (h:si P s d=true):∃ e,P.underlying s=some .string∧P.underlying d=some (.slice e)∧P.underlying e=some (.int .u8):=by
  unfold si at h
  split at h
  · rename_i e h1 h2
    split at h
    · rename_i h3; exact ⟨e,h1,h2,h3⟩
    · simp at h
  · simp at h
theorem No {P:Program} {s d ty:TypeId} {x:Operand} {T:Env} {H:View} {n:Nat} {v:V} {eff:aZ} {rd:List Nat} (hc:toStr P s d=true) (h:sI P (.AJ (SX.of x)) T H n=some (v,eff,rd)):sI P (.old (.convert s d x) ty) T H n=some (v,eff,rd):=by
  obtain ⟨e,h1,h2,h3⟩:=IP hc
  simp only[sI,SX.cg] at h
  simp only[sI,bU,oper,jt,h1,if_true,kJ,h2,h3]
  split at h
  · rename_i es hx
    rw[hx]
    simp only[bJ,cT]
    exact h
  · simp at h
inductive SB where
  | op (s:SI)
  | call (f:SX) (args:List SX)
  deriving Inhabited
structure SO where
  dst:Option Nat
  guard:Option (Nat × Bool)
  b:SB
  deriving Inhabited
structure SG where
  guard:Option (Nat × Bool)
  ops:List (Option Nat × SB)
  deriving Inhabited
inductive SC where
  | skip
  | region (quiet:Bool) (gs:List SG)
  | wW (aps:List (Nat × Nat)) (gs:List SG)
  | Ax (tol:Nat × Nat × Nat) (aps:List (Nat × Nat)) (gs:List SG)
  | seq (x y:SC)
  | cond (c:SX) (x y:SC)
  | block (id:Nat) (c:SC)
  | loop (c:SC)
  | exit (id:Nat)
  | ret
  | scope (l:Nat) (c r:SC)
  | label (l:Nat)
  | goto (l:Nat)
  deriving Inhabited
def lu:SC→Nat→Option SC
  | .seq a b,l=>match lu a l with
    | some r=>some (.seq r b)
    | none=>lu b l
  | .label l',l=>if l' == l then some .skip else none
  | _,_=>none
def EY:SC→Option Nat
  | .seq a b=>match EY a with
    | some l=>some l
    | none=>EY b
  | .label l=>some l
  | _=>none
def px (l:Nat):Exit→Prop→Prop→Prop
  | .goto l',a,_=>l'=l∧a
  | _,_,b=>b
inductive SR where
  | tmp (t:Nat)
  | cell (t:Nat) (sz:Option Nat)
  deriving Inhabited
def wX (P:Program) (op:Op):Nat:=match op with
  | .convert s d _=>if jt P s d=true then 2 else 0
  | .call { callee:=.builtin b,.. }=>match b with
    | .min | .max | .complex | .real | .imag=>0
    | .len=>1
    | _=>2
  | .lookup ..=>1
  | .binOp .. | .unOp .. | .index ..=>0
  | _=>2
def ra (P:Program):SI→Nat
  | .bg _ | .pick .. | .gU _ | .yG _ | .addr .. | .field .. | .idx .. | .slice .. | .rO .. | .ext .. | .len _ | .gL _ | .arith .. | .sh .. | .iE .. | .c8 .. | .not _ | .nil .. | .build .. | .w9 .. | .beq .. | .mm .. | .conv .. | .AJ _ | .eZ _=>0
  | .load .. | .box _ | .alloc _ | .bD .. | .make .. | .lS=>1
  | .store .. | .app ..=>2
  | .old op _=>wX P op
def gT (P:Program) (quiet:Bool):SB→Nat
  | .op s=>ra P s
  | .call ..=>if quiet then 1 else 2
structure Fz where
  l:List Nat
  fr:Bool
def wh (P:Program) (fr:Bool):SI→SI
  | .load k a=>if fr then .w9 k a else .load k a
  | .old (.convert s d x) ty=>if fr && toStr P s d then .AJ (SX.of x) else .old (.convert s d x) ty
  | s=>s
def lz (P:Program) (fz:Fz) (o:Oper):SB:=match o.op with
  | .call { callee:=.value f,args,.. }=>.call (SX.of f) (args.toList.map SX.of)
  | .box _ x=>if (match o.dst with | some d=>fz.l.contains d | none=>false) then .op (.gU (SX.of x)) else .op (.box (SX.of x))
  | .convert s d x=>if (match o.dst with | some t=>fz.l.contains t | none=>false) && si P s d then .op (.eZ (SX.of x)) else .op (wh P fz.fr (comp P o))
  | _=>.op (wh P fz.fr (comp P o))
def sg (n:Nat) (all:List Oper) (o:Oper):Option (Option (Nat × Bool)):=match o.guard with
  | none=>some none
  | some (j,want)=>match (all[j]?).bind (·.dst) with
    | some d=>if d < n then some (some (d,want)) else none
    | none=>none
def CU (P:Program) (n:Nat) (all:List Oper) (fz:Fz) (o:Oper):Option SO :=
  if pa n o then (sg n all o).map fun g=>⟨o.dst,g,lz P fz o⟩ else none
def cZ (P:Program) (n:Nat) (all:List Oper) (fz:Fz):List Oper→Option (List SO)
  | []=>some []
  | o :: r=>match CU P n all fz o,cZ P n all fz r with
    | some s,some l=>some (s :: l)
    | _,_=>none
def SG.flat (g:SG):List SO:=g.ops.map fun (d,b)=>⟨d,g.guard,b⟩
def iV (gs:List SG):List SO:=(gs.map SG.flat).flatten
def HV (g:Option (Nat × Bool)) (s:SO):Bool:=match g,s.guard with
  | none,none=>true
  | some (d,w),some (d',w')=>d == d' && w == w' && s.dst != some d
  | _,_=>false
def group:List SO→List SG
  | []=>[]
  | s :: r=>match group r with
    | g :: gs=>if HV g.guard s then ⟨g.guard,(s.dst,s.b) :: g.ops⟩ :: gs else ⟨s.guard,[(s.dst,s.b)]⟩ :: g :: gs
    | []=>[⟨s.guard,[(s.dst,s.b)]⟩]
theorem LN {g:Option (Nat × Bool)} {s:SO} (h:HV g s=true):s.guard=g:=by
  unfold HV at h
  split at h
  · rename_i h1; exact h1
  · rename_i d w d' w' h1
    simp at h; rw[h1,h.1.1,h.1.2]
  · simp at h
theorem fo:∀ l:List SO,iV (group l)=l
  | []=>rfl
  | s :: r=>by
    have ih:=fo r
    simp only[group]
    split
    · rename_i g gs hg
      rw[hg] at ih
      split
      · rename_i hj
        have:=LN hj
        rw[← ih]
        cases s with
        | mk d gd b=>simp only at this; subst this; simp[iV,SG.flat]
      · rw[← ih]; simp[iV,SG.flat]
    · rename_i hg
      rw[hg] at ih
      rw[← ih]; simp[iV,SG.flat]
def AX (o:Oper):Bool:=match o.op with
  | .load ..=>true
  | _=>false
def x8 (o:Oper):Bool:=match o.op with
  | .alloc _=>true
  | _=>false
def jj (o:Oper):Option Nat:=match o.op,o.guard with
  | .store _ (.tmp t) _,none=>some t
  | _,_=>none
def NI (all:List Oper) (j k t:Nat):Bool:=match all[j]? with
  | some o=>o.dst == some t && o.guard.isNone && x8 o && ((all.drop (j+1)).take (k - (j+1))).all fun o'=>o'.dst != some t
  | none=>false
def w6 (all:List Oper) (i k:Nat):Bool:=match all[i]?,all[k]? with
  | some a,some b=>AX a && (match jj b with
    | some t=>(List.range k).any fun j=>decide (i < j) && NI all j k t
    | none=>false)
  | _,_=>false
def CO (all:List Oper) (ls:List Nat):Bool :=
  let b:=eA all []
  ls.zipIdx.all fun (x,i)=>ls.zipIdx.all fun (y,k)=>!decide (i < k) || ordered b i k || x == 0 || y == 0 || (decide (x≤1) && decide (y≤1)) || w6 all i k
def pz (o:Oper):Option Nat:=match o.op with
  | .load _ (.tmp t)=>some t
  | _=>none
def stays (all:List Oper) (i t:Nat):Bool:=(all.drop i).all fun o=>o.dst != some t
def zd (all:List Oper) (i k:Nat):Option (Nat × Nat):=match all[i]?,all[k]? with
  | some a,some b=>match pz a,jj b with
    | some s,some t=>if stays all i s && stays all k t then some (s,t) else none
    | _,_=>match jj a,pz b with
      | some t,some s=>if stays all i t && stays all k s then some (s,t) else none
      | _,_=>none
  | _,_=>none
def wx (all:List Oper) (x i y k:Nat):Bool:=!decide (i < k) || ordered (eA all []) i k || x == 0 || y == 0 || (decide (x≤1) && decide (y≤1)) || w6 all i k
def je (all:List Oper) (ls:List Nat):List (Nat × Nat):=ls.zipIdx.flatMap fun (x,i)=>ls.zipIdx.filterMap fun (y,k)=>if wx all x i y k then none else some (i,k)
def zP (all:List Oper):List (Nat × Nat)→Option (List (Nat × Nat))
  | []=>some []
  | (i,k) :: r=>match zd all i k,zP all r with
    | some p,some l=>some (p :: l)
    | _,_=>none
def J9 (o:Oper):Option Nat:=match o.op,o.guard with
  | .call { callee:=.builtin .append,args,.. },none=>match args.toList with
    | [.tmp t,_]=>some t
    | _=>none
  | _,_=>none
def mU (o:Oper):Option Nat:=match jj o with
  | some t=>some t
  | none=>J9 o
def Eu (o:Oper):Bool:=match o.op with
  | .buildSlice ..=>true
  | .alloc _=>true
  | _=>false
def newAt (all:List Oper) (k:Nat):Bool:=match all[k]? with
  | some b=>Eu b
  | none=>false
def Av (all:List Oper) (i k:Nat):Option (Nat × Nat):=match all[i]?,all[k]? with
  | some a,some b=>match pz a,mU b with
    | some s,some t=>if stays all i s && stays all k t then some (s,t) else none
    | _,_=>match mU a,pz b with
      | some t,some s=>if stays all i t && stays all k s then some (s,t) else none
      | _,_=>none
  | _,_=>none
def CX (all:List Oper) (ls:List Nat) (i k:Nat):Option (Nat × Nat × Nat):=match all[i]?,all[k]? with
  | some a,some b=>match a.op,b.op,a.guard,b.guard with
    | .lookup t (.tmp m) (.tmp q) false,.mapEntry t' (.tmp m') (.tmp q'),none,none =>
      if t == t' && m == m' && q == q' && stays all i m && stays all i q && stays all k m && stays all k q && decide (i < k) && (List.range k).all fun j=>decide (ls.getD j 2≤1) then some (t,m,q) else none
    | _,_,_,_=>none
  | _,_=>none
def CM (all:List Oper) (ls:List Nat) (tp:Option (Nat × Nat)):List (Nat × Nat):=(je all ls).filter fun p=>!newAt all p.2 && tp != some p
def xe (o:Oper):Option (Nat × Nat × Nat):=match o.op,o.guard,o.dst with
  | .call { callee:=.builtin .append,args,.. },none,some d=>match args.toList with
    | [.tmp t,.tmp y]=>some (t,y,d)
    | _=>none
  | _,_,_=>none
def Ar (all:List Oper) (i k:Nat):Option (List (Nat × Nat)):=match all[i]?,all[k]? with
  | some a,some b=>match xe a,xe b with
    | some (t,y,d),some (t',y',_)=>if stays all i t && stays all i y && stays all (i+1) d && stays all k t' && stays all k y' then some [(t,t'),(t,y'),(t',y),(d,t')] else none
    | _,_=>none
  | _,_=>none
def wY (all:List Oper) (i k:Nat):Option (List (Nat × Nat)):=match Av all i k with
  | some p=>some [p]
  | none=>Ar all i k
def sq (all:List Oper):List (Nat × Nat)→Option (List (Nat × Nat))
  | []=>some []
  | (i,k) :: r=>match wY all i k,sq all r with
    | some p,some l=>some (p ++ l)
    | _,_=>none
def qY (g:SG):Bool:=match g.guard with
  | none=>true
  | some (d,_)=>g.ops.all fun x=>x.1 != some d
def pc (P:Program) (n:Nat) (fz:Fz) (ops:List Oper) (draw quiet:Bool):Option SC:=match cZ P n ops fz ops with
  | none=>none
  | some l=>if !(group l).all qY then none else
    if draw then (if ko ops && CO ops (l.map fun s=>gT P quiet s.b) then some (.region quiet (group l)) else none)
    else some (.region quiet (group l))
def Al (P:Program) (n:Nat) (fz:Fz) (ops:List Oper):Option SC:=match cZ P n ops fz ops with
  | none=>none
  | some l=>if !(group l).all qY then none else
    if ko ops then (zP ops (je ops (l.map fun s=>gT P false s.b))).map fun aps=>.wW aps (group l) else none
def M9 (all:List Oper) (ls:List Nat):Option (Nat × Nat):=(je all ls).find? fun p=>(CX all ls p.1 p.2).isSome
def zX (P:Program) (n:Nat) (fz:Fz) (ops:List Oper):Option SC:=match cZ P n ops fz ops with
  | none=>none
  | some l=>if !(group l).all qY then none else
    if ko ops then
      (match M9 ops (l.map fun s=>gT P false s.b) with
      | none=>(sq ops (CM ops (l.map fun s=>gT P false s.b) none)).map fun aps=>.wW aps (group l)
      | some p=>match CX ops (l.map fun s=>gT P false s.b) p.1 p.2 with
        | some tol=>(sq ops (CM ops (l.map fun s=>gT P false s.b) (some p))).map fun aps=>.Ax tol aps (group l)
        | none=>none)
    else none
def OE:Nat:=100000
def ON:Nat:=100001
def orElse':Option SC→Option SC→Option SC
  | some x,_=>some x
  | none,y=>y
def y0 (P:Program) (n:Nat) (fz:List Nat) (ops:List Oper) (draw:Bool):Option SC :=
  orElse' (pc P n ⟨fz,false⟩ ops draw false) (if draw then orElse' (if fz.contains OE then zX P n ⟨fz,false⟩ ops else none) <| orElse' (if fz.contains ON then pc P n ⟨fz,true⟩ ops true false else none) <| orElse' (Al P n ⟨fz,false⟩ ops) (orElse' (pc P n ⟨fz,false⟩ ops true true) (orElse' (pc P n ⟨fz,true⟩ ops true false) (pc P n ⟨fz,true⟩ ops true true))) else none)
def cE (P:Program) (n:Nat) (fz:List Nat):Code→Option SC
  | .skip=>some .skip
  | .region _ ops draw=>y0 P n fz ops.toList draw
  | .seq x y=>match cE P n fz x,cE P n fz y with
    | some a,some b=>some (.seq a b)
    | _,_=>none
  | .cond c x y=>match cE P n fz x,cE P n fz y with
    | some a,some b=>some (.cond (SX.of c) a b)
    | _,_=>none
  | .block id c=>(cE P n fz c).map (.block id)
  | .loop c=>(cE P n fz c).map .loop
  | .exit id=>some (.exit id)
  | .ret=>some .ret
  | .scope c=>match cE P n fz c with
    | some sc=>match EY sc with
      | some l=>(lu sc l).map fun r=>.scope l sc r
      | none=>none
    | none=>none
  | .label l=>some (.label l)
  | .goto l=>some (.goto l)
  | _=>none
def gK (h h':aB):Prop:=∀ id,id < h.length→h.view id=.dead→h'.view id=.dead
theorem gK.refl (h:aB):gK h h:=fun _ _ e=>e
theorem gK.trans {a b c:aB} (h:gK a b) (k:gK b c) (hl:a.length≤b.length):gK a c:=fun id hid e=>k id (Nat.lt_of_lt_of_le hid hl) (h id hid e)
def aA (P:Program) (f:FuncId) (vs:List V) (H:View) (K:V→View→Prop):Prop :=
  cX P f=true∧∀ h:aB,h.view=H→∃ r h',bA P f vs h r h'∧gK h h'∧K r h'.view
def CQ (P:Program) (f:FuncId) (vs:List V) (H:View) (K:V→View→Prop):Prop :=
  cX P f=true∧∀ h:aB,h.view=H→∃ r h',bA P f vs h r h'∧(∀ id,id < h.length→h'.view id=h.view id)∧K r h'.view
def im (sz:Option Nat) (e:List V) (j:Nat) (K:V→Prop):Prop:=match sz with
  | some n=>j+n≤e.length∧K (.agg ((e.drop j).take n))
  | none=>j < e.length∧K (e.getD j .any)
def wI (P:Program) (s:SI) (T:Env) (H:View) (K:V→View→Prop):Prop:=match s with
  | .bg x=>K (x.at T) H
  | .pick c a b=>match c.at T with
    | .val (.bool t)=>K (if t then a.at T else b.at T) H
    | _=>False
  | .box x=>(x.at T).cells.all aP=true∧∀ n,H n=.dead→K (.ptr n 0 0) (H.set n (.arr (x.at T).cells.length [(x.at T).cells]))
  | .gU x=>(x.at T).cells.all aP=true∧K (.aO (x.at T).cells 0) H
  | .alloc z=>z.all aP=true∧∀ n,H n=.dead→K (.ptr n 0 0) (H.set n (.arr z.length [z]))
  | .load sz a=>match a.at T with
    | .ptr id i j=>match H id with
      | .arr _ es=>i < es.length∧im sz (es.getD i []) j fun v=>K v H
      | _=>False
    | .aO e j=>im sz e j fun v=>K v H
    | _=>False
  | .w9 sz a=>match a.at T with
    | .aO e j=>im sz e j fun v=>K v H
    | _=>False
  | .store sz a x=>match a.at T with
    | .ptr id i j=>match H id with
      | .arr esz es=>(i < es.length∧(x.at T).cells.length=sz∧j+(x.at T).cells.length≤esz∧(x.at T).cells.all aP=true) ∧
          K .any (H.set id (.arr esz (es.set i (ab (es.getD i []) j (x.at T).cells))))
      | _=>False
    | _=>False
  | .yG x=>match x.at T with
    | .ptr id i j=>K (.ptr id i j) H
    | .aO e j=>K (.aO e j) H
    | .fn f a b=>K (.fn f a b) H
    | _=>False
  | .addr off x=>match x.at T with
    | .ptr id i j=>K (.ptr id i (j+off)) H
    | .aO e j=>K (.aO e (j+off)) H
    | _=>False
  | .field off sz x=>match x.at T with
    | .agg cs=>im sz cs off fun v=>K v H
    | _=>False
  | .idx sz x i=>match asNat (i.at T) with
    | none=>False
    | some q=>match x.at T with
      | .sl id off len esz=>(q < len∧esz=sz)∧K (.ptr id (off+q) 0) H
      | .aV es=>∃ e,es[q]?=some e∧e.length=sz∧K (.aO e 0) H
      | _=>False
  | .rO f first cap=>K (.fn f (first.map (SX.at T)) (cap.map (SX.at T))) H
  | .lS=>∀ n,H n=.dead→K (.mp n) (H.set n (.map [] 0))
  | .ext i x=>match x.at T with
    | .bk vs=>i < vs.length∧K (vs.getD i .any) H
    | _=>False
  | .len x=>match cT (x.at T) with
    | some n=>K (aj n) H
    | none=>False
  | .gL x=>match x.at T with
    | .val (.string s)=>K (aj s.size) H
    | _=>False
  | .arith op x y=>match x.at T,y.at T with
    | .val (.int k a),.val (.int k' b)=>k=k'∧(match ag op k a b with | some v=>K (.val v) H | none=>False)
    | _,_=>False
  | .iE op x y=>match x.at T,y.at T with
    | .val (.string a),.val (.string b)=>(match op with
      | .eql=>K (.val (.bool (gH a b))) H
      | .neq=>K (.val (.bool (!gH a b))) H
      | _=>False)
    | _,_=>False
  | .c8 x i=>match x.at T,asNat (i.at T) with
    | .val (.string s),some q=>∃ b,s.data.toList[q]?=some b∧K (.val (.int .u8 b.toNat)) H
    | _,_=>False
  | .not x=>match x.at T with
    | .val (.bool t)=>K (.val (.bool (!t))) H
    | _=>False
  | .nil eq k x y=>match ai (isNil k (x.at T)) (isNil k (y.at T)) with
    | some b=>K (.val (.bool (if eq then b else !b))) H
    | none=>False
  | .beq eq x y=>match x.at T,y.at T with
    | .val (.bool a),.val (.bool b)=>K (.val (.bool (if eq then a == b else a != b))) H
    | _,_=>False
  | .mm mx x y=>match x.at T,y.at T with
    | .val (.int k a),.val (.int _ b)=>K (.val (.int k (if mx then (if b > a then b else a) else (if b < a then b else a)))) H
    | _,_=>False
  | .conv k x=>match x.at T with
    | .val (.int _ a)=>K (.val (.int k (k.wrap a))) H
    | _=>False
  | .sh l x y=>match x.at T,y.at T with
    | .val (.int k a),.val (.int _ b)=>0≤b∧K (.val (.int k (H8 l k a b))) H
    | _,_=>False
  | .build z parts=>match ae z (parts.map fun (a,b,x)=>(a,b,x.at T)) with
    | some cs=>K (.agg cs) H
    | none=>False
  | .bD len sz z parts=>match af sz (List.replicate len z) (parts.map fun (i,x)=>(i,x.at T)) with
    | some es=>∀ n,H n=.dead→K (.sl n 0 len sz) (H.set n (.arr sz es))
    | none=>False
  | .slice sz x lo hi=>match ke sz (x.at T) (lo.map (SX.at T)) (hi.map (SX.at T)) with
    | some (v,.none,_)=>K v H
    | _=>False
  | .make sz bytes z l c=>match asNat (l.at T),asNat (c.at T) with
    | some l,some c=>(l≤c∧c < aN∧bytes * c < aN)∧(c=0→K (.emp 2) H)∧(c≠0→∀ n,H n=.dead→K (.sl n 0 l sz) (H.set n (.arr sz (List.replicate l z))))
    | _,_=>False
  | .app sz bytes x y=>match bJ H (y.at T) with
    | some (xs,_)=>if xs.isEmpty=true then (match x.at T with
        | .emp k=>K (.emp k) H
        | .dc=>K .dc H
        | .aV es=>K (.aV es) H
        | .sl a b c d=>K (.sl a b c d) H
        | _=>False)
      else (xs.all fun e=>e.length == sz && e.all aP)=true∧(match x.at T with
        | .emp _=>(xs.length * bytes < aN∧xs.length < aN)∧∀ n,H n=.dead→K (.sl n 0 xs.length sz) (H.set n (.arr sz xs))
        | .sl id off len esz=>match H id with
          | .arr _ es=>(off+len≤es.length∧esz=sz∧(len+xs.length) * bytes < aN∧len+xs.length < aN) ∧
              ∀ n,H n=.dead→K (.sl n 0 (len+xs.length) esz) ((H.set id .dead).set n (.arr esz ((es.drop off).take len ++ xs)))
          | _=>False
        | _=>False)
    | none=>False
  | .AJ x=>match x.at T with
    | .aV es=>(match jB es with
      | some l=>K (.val (.string ⟨l.toArray⟩)) H
      | none=>False)
    | _=>False
  | .eZ x=>match x.at T with
    | .val (.string s)=>K (.aV (fv s)) H
    | _=>False
  | s=>∀ n,H n=.dead→∃ v eff rd,sI P s T H n=some (v,eff,rd)∧K v (eff.view H n)
def wB (P:Program) (quiet:Bool) (b:SB) (T:Env) (H:View) (K:V→View→Prop):Prop:=match b with
  | .op s=>wI P s T H K
  | .call f args=>match f.at T with
    | .fn g first cap=>if quiet then CQ P g (first ++ args.map (SX.at T) ++ cap) H K else aA P g (first ++ args.map (SX.at T) ++ cap) H K
    | _=>False
def vR (P:Program) (quiet:Bool):List (Option Nat × SB)→Env→View→(Env→View→Prop)→Prop
  | [],T,H,K=>K T H
  | (d,b) :: r,T,H,K=>wB P quiet b T H fun v H'=>vR P quiet r (T.put d v) H' K
def gw:List (Option Nat × SB)→Env→Env
  | [],T=>T
  | (d,_) :: r,T=>gw r (T.put d (.bk []))
def wG (P:Program) (quiet:Bool) (g:SG) (T:Env) (H:View) (K:Env→View→Prop):Prop:=match g.guard with
  | none=>vR P quiet g.ops T H K
  | some (d,want)=>match T d with
    | .val (.bool b)=>(b=want→vR P quiet g.ops (T.put (some d) (.val (.bool want))) H K)∧(b = !want→K (gw g.ops (T.put (some d) (.val (.bool (!want))))) H)
    | .bk []=>K (gw g.ops T) H
    | _=>False
def uE (P:Program) (quiet:Bool):List SG→Env→View→(Env→View→Prop)→Prop
  | [],T,H,K=>K T H
  | g :: r,T,H,K=>wG P quiet g T H fun T' H'=>uE P quiet r T' H' K
def qz (c:SX) (b:Bool) (T:Env):Env:=match c with
  | .tmp t=>T.put (some t) (.val (.bool b))
  | _=>T
def xM:Exit→Prop→Prop→Prop
  | .normal,a,_=>a
  | _,_,b=>b
def gI (a b:V):Prop:=match a,b with
  | .ptr i _ _,.ptr j _ _=>i≠j
  | .ptr i _ _,.sl j _ _ _=>i≠j
  | .ptr _ _ _,.emp _=>True
  | .ptr _ _ _,.dc=>True
  | .ptr _ _ _,.aV _=>True
  | .aO _ _,_=>True
  | .sl i _ _ _,.sl j _ _ _=>i≠j
  | .sl _ _ _ _,.emp _=>True
  | .sl _ _ _ _,.dc=>True
  | .sl _ _ _ _,.aV _=>True
  | .emp _,_=>True
  | .dc,_=>True
  | .aV _,_=>True
  | _,_=>False
def HJ (P:Program) (t:TypeId) (m q:V) (H:View):Prop:=match m with
  | .mp id=>(∃ es c,H id=.map es c)∧∀ v obj rd,ed P t (.mp id) q H=some (v,.eH id obj,rd)→eY P t (.mp id) q false (H.set id obj)=eY P t (.mp id) q false H
  | _=>False
def v7:List (Nat × Nat)→Env→Prop→Prop
  | [],_,K=>K
  | p :: l,T,K=>gI (T p.1) (T p.2)∧v7 l T K
def wS (P:Program):SC→Env→View→(Exit→Env→View→Prop)→Prop
  | .skip,T,H,Q=>Q .normal T H
  | .region quiet gs,T,H,Q=>uE P quiet gs T H (Q .normal)
  | .wW aps gs,T,H,Q=>uE P false gs T H fun T' H'=>v7 aps T' (Q .normal T' H')
  | .Ax tol aps gs,T,H,Q=>uE P false gs T H fun T' H'=>HJ P tol.1 (T' tol.2.1) (T' tol.2.2) H∧v7 aps T' (Q .normal T' H')
  | .seq x y,T,H,Q=>wS P x T H fun e T' H'=>xM e (wS P y T' H' Q) (Q e T' H')
  | .cond c x y,T,H,Q=>match c.at T with
    | .val (.bool b)=>(b=true→wS P x (qz c true T) H Q)∧(b=false→wS P y (qz c false T) H Q)
    | _=>False
  | .block id c,T,H,Q=>wS P c T H fun e=>Q (np id e)
  | .loop c,T,H,Q=>∃ I:Nat→Env→View→Prop,(∃ k,I k T H)∧∀ k T H,I k T H→wS P c T H fun e T' H'=>xM e (∃ k',k' < k∧I k' T' H') (Q e T' H')
  | .exit id,T,H,Q=>Q (.exit id) T H
  | .ret,T,H,Q=>Q .ret T H
  | .scope l c r,T,H,Q=>∃ (I:Nat→Env→View→Prop) (K:Nat),wS P c T H (fun e T' H'=>px l e (∃ k,k < K∧I k T' H') (Q e T' H'))∧∀ k T H,I k T H→wS P r T H fun e T' H'=>px l e (∃ k',k' < k∧I k' T' H') (Q e T' H')
  | .label _,T,H,Q=>Q .normal T H
  | .goto l,T,H,Q=>Q (.goto l) T H
def wR (T:Env) (H:View) (r:SR) (K:V→Prop):Prop:=match r with
  | .tmp t=>K (T t)
  | .cell t sz=>match T t with
    | .ptr id i j=>match H id with
      | .arr _ es=>i < es.length∧im sz (es.getD i []) j K
      | _=>False
    | .aO e j=>im sz e j K
    | _=>False
def Af (T:Env) (H:View):List SR→List V→(List V→Prop)→Prop
  | [],acc,K=>K acc
  | r :: l,acc,K=>wR T H r fun v=>Af T H l (acc ++ [v]) K
def ah:List V→V
  | [v]=>v
  | vs=>.bk vs
def eC (P:Program):List ResultVar→Option (List SR)
  | []=>some []
  | .tmp t :: r=>(eC P r).map (.tmp t :: ·)
  | .cell a t :: r=>match Ai P t,eC P r with
    | some k,some l=>some (.cell a k :: l)
    | _,_=>none
structure SF where
  code:SC
  res:List SR
  n:Nat
abbrev aa (a b:Nat):Option Nat × SB:=(some a,.op (.bg (.tmp b)))
abbrev aD (a:Nat) (n:Int):Option Nat × SB:=(some a,.op (.bg (.val (.val (.int .i64 n)))))
abbrev aQ (a:Nat) (n:Bool):Option Nat × SB:=(some a,.op (.bg (.val (.val (.bool n)))))
abbrev ao (a b:Nat):Option Nat × SB:=(some a,.op (.load none (.tmp b)))
abbrev aJ (a k b:Nat):Option Nat × SB:=(some a,.op (.load (some k) (.tmp b)))
abbrev aq (a k b:Nat):Option Nat × SB:=(some a,.op (.addr k (.tmp b)))
abbrev aL (a k b c:Nat):Option Nat × SB:=(some a,.op (.idx k (.tmp b) (.tmp c)))
abbrev bF (a b c:Nat):Option Nat × SB:=(some a,.op (.pick (.tmp b) (.val (.val (.bool true))) (.tmp c)))
abbrev bG (a b c:Nat):Option Nat × SB:=(some a,.op (.pick (.tmp b) (.tmp c) (.val (.val (.bool false)))))
abbrev aK (a:Nat) (o:BinOp) (b c:Nat):Option Nat × SB:=(some a,.op (.arith o (.tmp b) (.tmp c)))
abbrev ay (a:Nat) (o:BinOp) (b:Nat) (n:Int):Option Nat × SB:=(some a,.op (.arith o (.tmp b) (.val (.val (.int .i64 n)))))
abbrev aI (a b:Nat):Option Nat × SB:=(some a,.op (.len (.tmp b)))
abbrev cM (a k b:Nat):Option Nat × SB:=(some a,.op (.ext k (.tmp b)))
abbrev bW (a b:Nat):Option Nat × SB:=(some a,.op (.not (.tmp b)))
abbrev cr (a b:Nat):Option Nat × SB:=(some a,.op (.gU (.tmp b)))
abbrev bT (a b:Nat):Option Nat × SB:=(some a,.op (.yG (.tmp b)))
abbrev cU (a f:Nat) (l:List SX):Option Nat × SB:=(some a,.call (.val (.fn f [] [])) l)
abbrev aF (a f:Nat) (l:List Nat):Option Nat × SB:=(some a,.call (.val (.fn f [] [])) (l.map .tmp))
abbrev ak (l:List (Option Nat × SB)):SC:=.region false [⟨none,l⟩]
def bh (P:Program) (f:FuncId) (fz:List Nat):Option SF:=match P.funcs[f]? with
  | some fn=>match fn.body with
    | some c=>match cE P fn.ntmps fz c,eC P fn.results.toList,cX P f with
      | some sc,some rs,true=>some ⟨sc,rs,fn.ntmps⟩
      | _,_,_=>none
    | none=>none
  | none=>none
theorem m5 {sz:Option Nat} {e:List V} {j:Nat} {K:V→Prop} (h:im sz e j K):∃ v,kz sz e j=some v∧K v:=by
  cases sz with
  | none=>exact ⟨_,by simp only[kz]; rw[if_pos h.1],h.2⟩
  | some n=>exact ⟨_,by simp only[kz]; rw[if_pos h.1],h.2⟩
theorem OJ {P:Program} {s:SI} {T:Env} {H:View} {K:V→View→Prop} (h:wI P s T H K) {n:Nat} (hn:H n=.dead) :
    ∃ v eff rd,sI P s T H n=some (v,eff,rd)∧K v (eff.view H n):=by
  unfold wI at h
  split at h
  · exact ⟨_,_,_,rfl,h⟩
  · split at h
    · rename_i t ht; exact ⟨_,_,_,by simp only[sI,ht]; rfl,h⟩
    · exact h.elim
  · exact ⟨_,_,_,by simp only[sI,ka]; rw[if_pos h.1],h.2 n hn⟩
  · exact ⟨_,_,_,by simp only[sI]; rw[if_pos h.1],h.2⟩
  · exact ⟨_,_,_,by simp only[sI,ka]; rw[if_pos h.1],h.2 n hn⟩
  · split at h
    · rename_i id i j ha
      split at h
      · rename_i es hH
        obtain ⟨h1,h2⟩:=h
        obtain ⟨v,hv,hk⟩:=m5 h2
        exact ⟨_,_,_,by simp only[sI,tV,ha,hH]; rw[if_pos h1,hv]; rfl,hk⟩
      · exact h.elim
    · rename_i e j ha
      obtain ⟨v,hv,hk⟩:=m5 h
      exact ⟨_,_,_,by simp only[sI,tV,ha]; rw[hv]; rfl,hk⟩
    · exact h.elim
  · split at h
    · rename_i e j ha
      obtain ⟨v,hv,hk⟩:=m5 h
      exact ⟨_,_,_,by simp only[sI,ha]; rw[hv]; rfl,hk⟩
    · exact h.elim
  · split at h
    · rename_i id i j ha
      split at h
      · rename_i esz es hH
        exact ⟨_,_,_,by simp only[sI,Ak,ha,hH]; rw[if_pos h.1],h.2⟩
      · exact h.elim
    · exact h.elim
  · split at h
    · rename_i hx; exact ⟨_,_,_,by simp only[sI,hx]; rfl,h⟩
    · rename_i hx; exact ⟨_,_,_,by simp only[sI,hx]; rfl,h⟩
    · rename_i hx; exact ⟨_,_,_,by simp only[sI,hx]; rfl,h⟩
    · exact h.elim
  · split at h
    · rename_i hx; exact ⟨_,_,_,by simp only[sI,w7,hx]; rfl,h⟩
    · rename_i hx; exact ⟨_,_,_,by simp only[sI,w7,hx]; rfl,h⟩
    · exact h.elim
  · split at h
    · rename_i cs hx
      obtain ⟨v,hv,hk⟩:=m5 h
      exact ⟨_,_,_,by simp only[sI,hx,hv]; rfl,hk⟩
    · exact h.elim
  · split at h
    · exact h.elim
    · rename_i q hq
      split at h
      · rename_i hx; exact ⟨_,_,_,by simp only[sI,Ay,hq,hx]; rw[if_pos h.1],h.2⟩
      · rename_i es hx
        obtain ⟨e,he,hl,hk⟩:=h
        have hlt:q < es.length:=(List.getElem?_eq_some_iff.1 he).1
        have hge:es.getD q []=e:=by simp[List.getD_eq_getElem?_getD,he]
        exact ⟨_,_,_,by simp only[sI,Ay,hq,hx]; rw[hge,if_pos ⟨hlt,hl⟩],hk⟩
      · exact h.elim
  · exact ⟨_,_,_,rfl,h⟩
  · exact ⟨_,_,_,rfl,h n hn⟩
  · split at h
    · rename_i vs hx; exact ⟨_,_,_,by simp only[sI,hx]; rw[if_pos h.1],h.2⟩
    · exact h.elim
  · split at h
    · rename_i m hx; exact ⟨_,_,_,by simp only[sI,hx]; rfl,h⟩
    · exact h.elim
  · split at h
    · rename_i s hx; exact ⟨_,_,_,by simp only[sI,hx]; rfl,h⟩
    · exact h.elim
  · split at h
    · rename_i k a k' b hx hy
      obtain ⟨rfl,h⟩:=h
      split at h
      · rename_i v hv; exact ⟨_,_,_,by simp only[sI,vy,hx,hy,if_true,hv]; rfl,h⟩
      · exact h.elim
    · exact h.elim
  · split at h
    · rename_i a b hx hy
      split at h
      · exact ⟨_,_,_,by simp only[sI,yI,hx,hy]; rfl,h⟩
      · exact ⟨_,_,_,by simp only[sI,yI,hx,hy]; rfl,h⟩
      · exact h.elim
    · exact h.elim
  · split at h
    · rename_i s q hx hq
      obtain ⟨b,hb,hk⟩:=h
      exact ⟨_,_,_,by simp only[sI,zJ,hx,hq,hb]; rfl,hk⟩
    · exact h.elim
  · split at h
    · rename_i t hx; exact ⟨_,_,_,by simp only[sI,hx]; rfl,h⟩
    · exact h.elim
  · split at h
    · rename_i b hb; exact ⟨_,_,_,by simp only[sI,hb]; rfl,h⟩
    · exact h.elim
  · split at h
    · rename_i hx hy; exact ⟨_,_,_,by simp only[sI,hx,hy]; rfl,h⟩
    · exact h.elim
  · split at h
    · rename_i hx hy; exact ⟨_,_,_,by simp only[sI,hx,hy]; rfl,h⟩
    · exact h.elim
  · split at h
    · rename_i hx; exact ⟨_,_,_,by simp only[sI,hx]; rfl,h⟩
    · exact h.elim
  · split at h
    · rename_i hx hy; exact ⟨_,_,_,by simp only[sI,IG,hx,hy]; rw[if_neg (by omega)],h.2⟩
    · exact h.elim
  · split at h
    · rename_i cs hb; exact ⟨_,_,_,by simp only[sI,hb]; rfl,h⟩
    · exact h.elim
  · split at h
    · rename_i es hb; exact ⟨_,_,_,by simp only[sI,xi,hb]; rfl,h n hn⟩
    · exact h.elim
  · split at h
    · rename_i v rd hb; exact ⟨_,_,_,by simp only[sI,hb]; rfl,h⟩
    · exact h.elim
  · split at h
    · rename_i l c hl hc
      obtain ⟨h1,h2,h3⟩:=h
      by_cases e:c=0
      · exact ⟨.emp 2,.none,[],by simp only[sI,zB,hl,hc]; rw[if_pos h1,if_pos e],h2 e⟩
      · exact ⟨_,_,_,by simp only[sI,zB,hl,hc]; rw[if_pos h1,if_neg e],h3 e n hn⟩
    · exact h.elim
  · split at h
    · rename_i xs rd hel
      split at h
      · rename_i he
        split at h
        all_goals first
          | (rename_i hx; exact ⟨_,_,_,by simp only[sI,E3,hel]; rw[if_pos he,hx],h⟩)
          | exact h.elim
      · rename_i he
        obtain ⟨h1,h2⟩:=h
        split at h2
        · rename_i hx
          exact ⟨_,_,_,by simp only[sI,E3,hel]; rw[if_neg he,if_neg (by rw[h1]; simp),hx]; simp only; rw[if_pos h2.1],h2.2 n hn⟩
        · rename_i id off len esz hx
          split at h2
          · rename_i z es hH
            exact ⟨_,_,_,by simp only[sI,E3,hel]; rw[if_neg he,if_neg (by rw[h1]; simp),hx]; simp only[hH]; rw[if_pos h2.1],h2.2 n hn⟩
          · exact h2.elim
        · exact h2.elim
    · exact h.elim
  · split at h
    · rename_i hx
      split at h
      · rename_i l hl; exact ⟨_,_,_,by simp only[sI,hx,hl]; rfl,h⟩
      · exact h.elim
    · exact h.elim
  · split at h
    · rename_i hx; exact ⟨_,_,_,by simp only[sI,hx]; rfl,h⟩
    · exact h.elim
  · exact h n hn
def jE (k:Nat) (rd wr:List Nat) (call:Bool) (n n':Nat):Prop :=
  (k=0→rd=[]∧wr=[]∧call=false∧n'=n)∧(k≤1→wr=[])
theorem MA {k:Nat} (h:k=2) {rd wr:List Nat} {call:Bool} {n n':Nat} : jE k rd wr call n n':=⟨fun h'=>by omega,fun h'=>by omega⟩
theorem nM {P:Program} {o:Oper} {T:Env} {v:V} {eff:aZ} {rd:List Nat} (h:c7 P o T=some (v,eff,rd)):eff=.none∧rd=[]:=by
  unfold c7 at h
  split at h
  · split at h
    · split at h
      · simp at h; exact ⟨h.2.1.symm,h.2.2⟩
      · simp at h
    · simp at h
  · simp at h
theorem Lj {P:Program} {o:Oper} {T:Env} {H:View} {n:Nat} {v:V} {eff:aZ} {rd:List Nat} (h:bU P o T H n=some (v,eff,rd)) :
    (wX P o.op=0→eff=.none∧rd=[])∧(wX P o.op=1→eff.wr=[]):=by
  unfold wX
  split
  · rename_i s d x ho
    simp only[bU,ho] at h
    split
    · exact ⟨fun h=>by simp at h,fun h=>by simp at h⟩
    · rename_i hb
      rw[if_neg hb] at h
      exact ⟨fun _=>nM h,fun h=>by simp at h⟩
  · rename_i b args ats ho
    simp only[bU,ho] at h
    split
    any_goals exact ⟨fun _=>nM h,fun h=>by simp at h⟩
    · refine ⟨fun h=>by simp at h,fun _=>?_⟩
      split at h
      · rename_i hargs
        split at h
        · simp only[rK] at h
          have nn:∀ {v':V} {r:List Nat},some (v',aZ.none,r)=some (v,eff,rd)→eff.wr=[]:=fun e=>by
            simp only[Option.some.injEq,Prod.mk.injEq] at e; rw[← e.2.1]; rfl
          split at h
          · simp only[Option.map_eq_some_iff] at h
            obtain ⟨_,_,h⟩:=h
            exact nn (congrArg some h)
          · split at h
            · split at h
              · exact nn h
              · simp at h
            · exact nn h
            · simp at h
          · split at h
            · exact nn h
            · simp at h
          · exact nn h
          · simp at h
        · simp at h
      any_goals simp at h
      all_goals contradiction
    · exact ⟨fun h=>by simp at h,fun h=>by simp at h⟩
  · rename_i t m k ok ho
    refine ⟨fun h=>by simp at h,fun _=>?_⟩
    simp only[bU,ho,eY] at h
    have nn:∀ {v':V} {r:List Nat},some (v',aZ.none,r)=some (v,eff,rd)→eff.wr=[]:=fun e=>by
      simp only[Option.some.injEq,Prod.mk.injEq] at e; rw[← e.2.1]; rfl
    split at h
    · simp at h
    · split at h
      · simp at h
      · split at h
        · split at h
          · split at h
            · split at h
              · exact nn h
              · simp at h
            · exact nn h
            · simp at h
          · simp at h
        · simp at h
  · rename_i op t x y u ho
    refine ⟨fun _=>?_,fun h=>by simp at h⟩
    simp only[bU,ho] at h
    split at h
    · split at h
      · simp at h; exact ⟨h.2.1.symm,h.2.2⟩
      · simp at h; exact ⟨h.2.1.symm,h.2.2⟩
      · simp at h
    · exact nM h
  · rename_i op t x ho
    exact ⟨fun _=>nM (by simpa only [bU,ho] using h),fun h=>by simp at h⟩
  · rename_i t x i ho
    exact ⟨fun _=>nM (by simpa only [bU,ho] using h),fun h=>by simp at h⟩
  · exact ⟨fun h=>by simp at h,fun h=>by simp at h⟩
theorem pC {P:Program} {s:SI} {T:Env} {H:View} {n:Nat} {v:V} {eff:aZ} {rd:List Nat} (h:sI P s T H n=some (v,eff,rd)) :
    (ra P s=0→eff=.none∧rd=[])∧(ra P s=1→eff.wr=[]):=by
  have nn:∀ {v':V},some (v',aZ.none,([]:List Nat))=some (v,eff,rd)→eff=.none∧rd=[]:=fun e=>by
    simp only[Option.some.injEq,Prod.mk.injEq] at e; exact ⟨e.2.1.symm,e.2.2.symm⟩
  have mp:∀ {α:Type} {x:Option α} {f:α→V},(x.map fun a=>(f a,aZ.none,([]:List Nat)))=some (v,eff,rd)→eff=.none∧rd=[]:=by
    intro α x f h
    simp only[Option.map_eq_some_iff] at h
    obtain ⟨a,_,h⟩:=h
    simp only[Prod.mk.injEq] at h; exact ⟨h.2.1.symm,h.2.2.symm⟩
  have nw:∀ {v':V} {o:bL} {r:List Nat},some (v',aZ.new o,r)=some (v,eff,rd)→eff.wr=[]:=fun e=>by
    simp only[Option.some.injEq,Prod.mk.injEq] at e; rw[← e.2.1]; rfl
  have n1:∀ {v':V} {r:List Nat},some (v',aZ.none,r)=some (v,eff,rd)→eff.wr=[]:=fun e=>by
    simp only[Option.some.injEq,Prod.mk.injEq] at e; rw[← e.2.1]; rfl
  unfold ra
  cases s <;> simp only[sI] at h
  case old op ty=>exact Lj (o:=oper op ty) h
  all_goals
    constructor <;> intro hk <;> first
      | (exfalso; revert hk; simp; done)
      | skip
  all_goals try simp only[tV,ka,w7,Ay,ke,zB,xi,vy,IG,yI,zJ] at h
  all_goals first
    | exact nn h
    | exact mp h
    | exact nw h
    | exact n1 h
    | skip
  all_goals repeat' (split at h)
  all_goals first
    | exact nn h
    | exact mp h
    | exact nw h
    | exact n1 h
    | (simp at h; done)
    | (simp only[Option.map_eq_some_iff,Prod.mk.injEq] at h; obtain ⟨_,_,_,rfl,_⟩:=h; rfl)
end Gv
