/-
  Part 4 of the proof: what the machine does and what the functions answer.
  Conditions: those that each lemma names.
-/
import Derived.Test.YtihmlbdfcmfbdaaGreatSGzA8C
set_option linter.unusedSimpArgs false
set_option linter.unusedVariables false
set_option maxRecDepth 100000
namespace Gv
open Go
inductive Tree:V→Prop
  | val (v:Value):Tree (.val v)
  | emp (k:Nat):Tree (.emp k)
  | c8:Tree .c8
  | aK (es:List (List V)):(∀ i j,i < es.length→j < (es.getD i []).length→Tree ((es.getD i []).getD j .any))→Tree (.aK es)
  | aU (e:List V) (j:Nat):(∀ k,k < e.length→Tree (e.getD k .any))→Tree (.aU e j)
  | fn (f:FuncId) (xs ys:List V):(∀ i,i < xs.length→Tree (xs.getD i .any))→(∀ i,i < ys.length→Tree (ys.getD i .any))→Tree (.fn f xs ys)
  | agg (cs:List V):(∀ i,i < cs.length→Tree (cs.getD i .any))→Tree (.agg cs)
  | bc (cs:List V):(∀ i,i < cs.length→Tree (cs.getD i .any))→Tree (.bc cs)
theorem s9 {Z:Nat→Prop} {μ ν:Mu} {hp:Array Obj} {v:V} {x:Value} (h:ay Z μ hp v x):Tree v→ay Z ν hp v x:=by
  induction h with
  | any x=>intro t; exact .any x
  | val v hv=>intro _; exact .val v hv
  | emp k a h1 h2=>intro _; exact .emp k a h1 h2
  | c8 a cap=>intro _; exact .c8 a cap
  | fY a cap h1=>intro _; exact .fY a cap h1
  | aK es b off esz cap c hz hle hes hc _ ih =>
    intro t
    cases t with
    | aK _ ht=>exact .aK es b off esz cap c hz hle hes hc (fun i j hi hj=>ih i j hi hj (ht i j hi (by rw[hes i hi]; exact hj)))
  | lS id off esz a=>intro t; cases t
  | sl id off len esz b o0 cap c e f hm hle hb hs=>intro t; cases t
  | ptr id i j b o0 esz hm=>intro t; cases t
  | aU e j b off c hz hc _ ih =>
    intro t
    cases t with
    | aU _ _ ht=>exact .aU e j b off c hz hc (fun k hk=>ih k hk (ht k hk))
  | mp id b o0 esz hm=>intro t; cases t
  | fn f xs ys aas bs h1 h2 _ _ ih1 ih2 =>
    intro t
    cases t with
    | fn _ _ _ t1 t2=>exact .fn f xs ys aas bs h1 h2 (fun i hi=>ih1 i hi (t1 i hi)) (fun i hi=>ih2 i hi (t2 i hi))
  | agg cs aas h1 _ ih =>
    intro t
    cases t with
    | agg _ ht=>exact .agg cs aas h1 (fun i hi=>ih i hi (ht i hi))
  | bc cs aas h1 _ ih =>
    intro t
    cases t with
    | bc _ ht=>exact .bc cs aas h1 (fun i hi=>ih i hi (ht i hi))
inductive Fr (h:aB):V→V→Prop
  | tree (v:V):Tree v→Fr h v v
  | emp (k:Nat):Fr h (.emp k) (.aK [])
  | sl (id off len esz z:Nat) (es es':List (List V)):h.view id=.arr z es→off+len≤es.length→es'.length=len →
      (∀ i,i < len→(es'.getD i []).length=(es.getD (off+i) []).length) →
      (∀ i j,i < len→j < (es'.getD i []).length→Fr h ((es.getD (off+i) []).getD j .any) ((es'.getD i []).getD j .any))→Fr h (.sl id off len esz) (.aK es')
  | ptr (id i j z:Nat) (es:List (List V)) (e':List V):h.view id=.arr z es→i < es.length→e'.length=(es.getD i []).length →
      (∀ k,k < e'.length→Fr h ((es.getD i []).getD k .any) (e'.getD k .any))→Fr h (.ptr id i j) (.aU e' j)
  | agg (cs cs':List V):cs'.length=cs.length→(∀ i,i < cs.length→Fr h (cs.getD i .any) (cs'.getD i .any))→Fr h (.agg cs) (.agg cs')
  | bc (cs cs':List V):cs'.length=cs.length→(∀ i,i < cs.length→Fr h (cs.getD i .any) (cs'.getD i .any))→Fr h (.bc cs) (.bc cs')
theorem zB {h:aB} {Z:Nat→Prop} {μ ν:Mu} {F:View} {hp:Array Obj} (hr:fL Z μ hp (cat h F)) {v t:V} (fr:Fr h v t):∀ {x:Value},ay Z μ hp v x→ay (fun b=>Z b∨gL μ b) ν hp t x:=by
  have hcat:∀ id,h.view id≠.dead→cat h F id=h.view id:=fun id hd=>by simp only[cat]; rw[if_pos (fU hd)]
  induction fr with
  | tree v ht =>
    intro x hx
    have h1:ay Z ν hp v x:=s9 hx ht
    exact h1.mono ⟨fun _ h=>.inl h,fun _ _=>rfl,fun _ _ h=>h,ej.refl _⟩
  | emp k=>intro x hx; cases hx with | emp _ a=>exact .fY a 0 (fun _=>rfl)
  | sl id off len esz z es es' hH hle hlen hl _ ih =>
    intro x hx
    cases hx with
    | lS _ _ _ a =>
      have:es'=[]:=List.length_eq_zero_iff.1 hlen
      subst this
      exact .fY a 0 (fun _=>rfl)
    | sl _ _ _ _ b o0 cap c e f hm hlec hb hs =>
      have hor:=hr.obj id
      rw[hcat id (by rw[hH]; simp),hH] at hor
      obtain ⟨rfl,_,h3,h4⟩:=hor b o0 esz hm
      have hx:∀ i,∃ ci:Nat→Value,∀ j,j < esz→i < len→cellAt hp b (o0+off * esz+i * esz+j)=some (ci j)∧ay Z μ hp ((es.getD (off+i) []).getD j .any) (ci j):=by
        intro i
        by_cases hi:i < len
        · obtain ⟨ci,hci⟩:=lh (n:=esz) (p:=fun j x=>cellAt hp b (o0+off * esz+i * esz+j)=some x∧ay Z μ hp ((es.getD (off+i) []).getD j .any) x) (fun j hj=>by
            obtain ⟨x,hx,hv⟩:=h4 (off+i) j (by omega) hj
            rw[Nat.add_mul,← Nat.add_assoc] at hx
            exact ⟨x,hx,hv⟩)
          exact ⟨ci,fun j hj _=>hci j hj⟩
        · exact ⟨fun _=>undef,fun j _ h=>absurd h hi⟩
      obtain ⟨cf,hcf⟩:=Classical.axiomOfChoice hx
      have hel:∀ i,i < es'.length→(es'.getD i []).length=esz:=fun i hi=>by rw[hl i (by omega)]; exact h3 _ (by omega)
      have:=ay.aK (Z:=fun b=>Z b∨gL μ b) (μ:=ν) (hp:=hp) es' b (o0+off * esz) esz cap cf (.inr ⟨id,o0,esz,hm⟩) (by omega) hel
        (fun i j hi hj=>(hcf i j hj (by omega)).1) (fun i j hi hj=>ih i j (by omega) (by rw[hel i hi]; exact hj) (hcf i j hj (by omega)).2)
      rw[hlen] at this
      exact this
  | ptr id i j z es e' hH hi hlen _ ih =>
    intro x hx
    obtain ⟨b,o0,sz,hm,rfl⟩:=kT (w:={ (default:World) with heap:=hp }) hx
    have hor:=hr.obj id
    rw[hcat id (by rw[hH]; simp),hH] at hor
    obtain ⟨rfl,hrow⟩:=rowOf (w:={ (default:World) with heap:=hp }) hor hm hi
    refine wg (w:={ (default:World) with heap:=hp }) (.inr ⟨id,o0,sz,hm⟩) (fun k hk=>?_)
    obtain ⟨y,hy,hv⟩:=hrow k (by omega)
    exact ⟨y,hy,ih k hk hv⟩
  | agg cs cs' hlen _ ih =>
    intro x hx
    cases hx with
    | agg _ aas h1 h2=>exact .agg _ _ (by omega) (fun i hi=>ih i (by omega) (h2 i (by omega)))
  | bc cs cs' hlen _ ih =>
    intro x hx
    cases hx with
    | bc _ aas h1 h2=>exact .bc _ _ (by omega) (fun i hi=>ih i (by omega) (h2 i (by omega)))
def aC (P:Program) (f:FuncId) (vs:List V) (t:V):Prop :=
  ∀ Z μ (w:World) (xs:List Value),dR Z μ w.heap vs xs→(∀ b,Z b→b < w.heap.size) →
    Calls P f xs.toArray w fun e w'=>∃ x Z',e=.returned x∧(∀ ν,ay Z' ν w'.heap t x)∧dC w w'∧(∀ b,Z b→Z' b)∧(∀ b,Z' b→Z b∨(w.heap.size≤b∧b < w'.heap.size))∧eO w.heap w'.heap (fun _=>False)
theorem AB (F:View):cat [] F=F:=by funext id; simp[cat]
theorem aC.sn {P:Program} {f:FuncId} {vs:List V} {r t:V} {h':aB} (ht:∀ v∈vs,Tree v) (hc:bw P f vs [] r h') (hf:Fr h' r t):aC P f vs t:=by
  intro Z μ w xs hrel hz
  have hrel0:dR Z (fun _=>none) w.heap vs xs:=⟨hrel.1,fun i hi=>s9 (hrel.2 i hi) (by
    simp only[List.getD_eq_getElem?_getD,List.getElem?_eq_getElem hi,Option.getD_some]
    exact ht _ (List.getElem_mem _))⟩
  have hr0:fL Z (fun _=>none) w.heap (cat [] fun _=>.dead):=by
    rw[AB]
    exact ⟨fun _=>trivial,fun i j b o s o' s' _ h=>by simp at h,fun id b o s h=>by simp at h,hz,fun id b o s h=>by simp at h⟩
  refine (hc.2 Z _ _ w xs hrel0 hr0 (fun _ _ _=>rfl)).mono ?_
  rintro e w' ⟨x,Z',μ',rfl,hv,hh,hex,_⟩
  refine ⟨x,fun b=>Z' b∨gL μ' b,rfl,fun ν=>zB hh hf hv,hex.same,fun b hb=>.inl (hex.mono.z b hb),?_,fun b hb _=>hex.frame b hb (by rintro ⟨_,_,_,h⟩; simp at h)⟩
  rintro b (hb | ⟨id,o,s,hb⟩)
  · rcases hex.K5 b hb with h1 | h1
    · exact .inl h1
    · exact .inr ⟨h1,hh.bZ b hb⟩
  · rcases hex.zd _ _ _ _ hb with h1 | ⟨_,h1 | ⟨_,_,_,h1⟩⟩
    · simp at h1
    · exact .inr ⟨h1,hh.lt _ _ _ _ hb⟩
    · simp at h1
theorem bw.eT {P:Program} {f:FuncId} {vs:List V} {t:V} (hc:aC P f vs t) (h:aB):bw P f vs h t h:=by
  refine ⟨Nat.le_refl _,fun Z μ F w xs hrel hr hfree=>(hc Z μ w xs hrel hr.bZ).mono ?_⟩
  rintro e w' ⟨x,Z',rfl,hv,hs,hz,hz',ho⟩
  have hm:fj Z Z' μ μ w.heap w'.heap:=⟨hz,fun b hb=>ho b (hr.bZ b hb) (fun x=>x),fun _ _ h=>h,ho.nL⟩
  refine ⟨x,Z',μ,rfl,hv μ,⟨fun id=>(hr.obj id).mono hm rfl (fun b o s hx=>ho b (hr.lt _ _ _ _ hx) (fun x=>x)),hr.inj,fun id b o s hx=>Nat.lt_of_lt_of_le (hr.lt _ _ _ _ hx) hs.size,fun b hb=>?_,fun id b o s hx hzb=>?_⟩,
    ⟨hs,hm,fun b hb _=>ho b hb (fun x=>x),fun b hb=>?_,fun _ _ _ _ h=>.inl h⟩,fun _ _=>rfl⟩
  · rcases hz' b hb with h1 | h1
    · exact Nat.lt_of_lt_of_le (hr.bZ b h1) hs.size
    · exact h1.2
  · rcases hz' b hzb with h1 | h1
    · exact hr.fq _ _ _ _ hx h1
    · have:=hr.lt _ _ _ _ hx; omega
  · rcases hz' b hb with h1 | h1
    · exact .inl h1
    · exact .inr h1.1
structure St where
  L:List V
  h:aB
  wl:List Nat
inductive Nc where
  | normal | exit (id:Nat) | goto (l:Nat) | ret
  deriving DecidableEq
def Nc.to:Nc→Exit
  | .normal=>.normal
  | .exit id=>.exit id
  | .goto l=>.goto l
  | .ret=>.ret
def Ax (l:List Nat) (x:Nat):Bool:=!l.contains x
def Ad (a b:Rec):Bool :=
  a.wr.all (Ax b.rd) && b.wr.all (Ax a.rd) && (!a.call || b.wr.isEmpty) && (!b.call || a.wr.isEmpty) && b.wr.all fun id=>!(decide (a.lo≤id) && decide (id < a.hi))
inductive Mode where
  | code
  | jump (c:Code)
section
variable {P:Program} {n:Nat}
def Told (s s':St):Prop:=s.h.length≤s'.h.length∧∀ id,id < s.h.length→¬ id∈s'.wl→s'.h.view id=s.h.view id∧¬ id∈s.wl
theorem Told.trans {a b c:St} (h:Told a b) (k:Told b c):Told a c :=
  ⟨Nat.le_trans h.1 k.1,fun id hid hw=>by
    obtain ⟨h1,h2⟩:=k.2 id (Nat.lt_of_lt_of_le hid h.1) hw
    obtain ⟨h3,h4⟩:=h.2 id hid h2
    exact ⟨h1.trans h3,h4⟩⟩
theorem Told.refl (s:St):Told s s:=⟨Nat.le_refl _,fun _ _ hw=>⟨rfl,hw⟩⟩
theorem JI {a b:Rec} (h:Ad a b=true):lE a b:=by
  unfold Ad at h
  simp only[Bool.and_eq_true,List.all_eq_true,Ax,Bool.not_eq_true',Bool.or_eq_true] at h
  obtain ⟨⟨⟨⟨h1,h2⟩,h3⟩,h4⟩,h5⟩:=h
  refine ⟨fun id hid hm=>?_,fun id hid hm=>?_,fun hcall=>?_,fun hcall=>?_,fun id hid hm=>?_⟩
  · have:=h1 id hid; simp at this; exact this hm
  · have:=h2 id hid; simp at this; exact this hm
  · rcases h3 with h3 | h3
    · rw[hcall] at h3; simp at h3
    · simpa using h3
  · rcases h4 with h4 | h4
    · rw[hcall] at h4; simp at h4
    · simpa using h4
  · have:=h5 id hid
    simp at this
    omega
end
inductive SX where
  | tmp (t:Nat)
  | val (v:V)
  deriving Inhabited
def SX.of:Operand→SX
  | .tmp t=>.tmp t
  | .const v=>.val (dZ v)
  | .global _=>.val .any
  | .func f=>.val (.fn f [] [])
def SX.at (T:Env):SX→V
  | .tmp t=>T t
  | .val v=>v
theorem SX.ca (T:Env) (x:Operand):(SX.of x).at T=ev T x:=by cases x <;> rfl
inductive SI where
  | bj (x:SX)
  | pick (c a b:SX)
  | box (x:SX)
  | gV (x:SX)
  | alloc (z:List V)
  | build (z:List V) (parts:List (Nat × Nat × SX))
  | bD (len sz:Nat) (z:List V) (parts:List (Nat × SX))
  | load (sz:Option Nat) (a:SX)
  | sy (sz:Option Nat) (a:SX)
  | store (sz:Nat) (a x:SX)
  | x4 (x:SX)
  | addr (off:Nat) (x:SX)
  | field (off:Nat) (sz:Option Nat) (x:SX)
  | idx (sz:Nat) (x i:SX)
  | slice (sz:Nat) (x:SX) (lo hi:Option SX)
  | make (sz bytes:Nat) (z:List V) (l c:SX)
  | kX
  | pL (f:FuncId) (first cap:List SX)
  | ext (i:Nat) (x:SX)
  | len (x:SX)
  | gG (x:SX)
  | app (sz bytes:Nat) (x y:SX)
  | arith (op:BinOp) (x y:SX)
  | sh (left:Bool) (x y:SX)
  | iO (op:BinOp) (x y:SX)
  | c7 (x i:SX)
  | not (x:SX)
  | nil (eq:Bool) (k:Nat) (x y:SX)
  | beq (eq:Bool) (x y:SX)
  | mm (mx:Bool) (x y:SX)
  | conv (k:IntKind) (x:SX)
  | AN (x:SX)
  | eS (x:SX)
  | old (op:Op) (ty:TypeId)
  deriving Inhabited
def kc:Option Nat→List V→Nat→Option V
  | some n,cs,off=>if off+n≤cs.length then some (.agg ((cs.drop off).take n)) else none
  | none,cs,off=>if off < cs.length then some (cs.getD off .any) else none
def tf (sz:Option Nat) (a:V) (H:View):Out:=match a with
  | .ptr id i j=>match H id with
    | .arr _ es=>if i < es.length then (kc sz (es.getD i []) j).map fun v=>(v,.none,[id]) else none
    | _=>none
  | .aU e j=>(kc sz e j).map fun v=>(v,.none,[])
  | _=>none
def ye (sz:Nat) (a v:V) (H:View):Out:=match a with
  | .ptr id i j=>match H id with
    | .arr esz es =>
      if i < es.length∧v.cells.length=sz∧j+v.cells.length≤esz∧v.cells.all aR=true
      then some (.any,.eC id (.arr esz (es.set i (ab (es.getD i []) j v.cells))),[id]) else none
    | _=>none
  | _=>none
def ae (z:List V) (parts:List (Nat × Nat × V)):Option (List V):=match parts with
  | []=>some z
  | (off,size,x) :: r=>if x.cells.length=size∧off+size≤z.length∧x.cells.all aR=true then ae (ab z off x.cells) r else none
def wk (len sz:Nat) (z:List V) (parts:List (Nat × V)) (n:Nat):Out :=
  match af sz (List.replicate len z) parts with
  | some es=>some (.sl n 0 len sz,.new (.arr sz es),[])
  | none=>none
def vR (off:Nat) (x:V):Out:=match x with
  | .ptr id i j=>some (.ptr id i (j+off),.none,[])
  | .aU e j=>some (.aU e (j+off),.none,[])
  | _=>none
def AR (sz:Nat) (x i:V):Out:=match asNat i with
  | none=>none
  | some q=>match x with
    | .sl id off len esz=>if q < len∧esz=sz then some (.ptr id (off+q) 0,.none,[]) else none
    | .aK es=>if q < es.length∧(es.getD q []).length=sz then some (.aU (es.getD q []) 0,.none,[]) else none
    | _=>none
def j6 (sz:Nat) (x:V) (lo hi:Option V):Out:=match x with
  | .sl id off len esz=>match bound 0 lo,bound len hi with
    | some l,some h=>if l≤h∧h≤len∧esz=sz then some (.sl id (off+l) (h - l) esz,.none,[]) else none
    | _,_=>none
  | .aK es=>match bound 0 lo,bound es.length hi with
    | some l,some h=>if l≤h∧h≤es.length∧(es.all fun e=>e.length == sz)=true then some (.aK ((es.drop l).take (h - l)),.none,[]) else none
    | _,_=>none
  | .emp k=>match bound 0 lo,bound 0 hi with
    | some 0,some 0=>some (.emp k,.none,[])
    | _,_=>none
  | _=>none
def y9 (sz bytes:Nat) (z:List V) (len cap:V) (n:Nat):Out:=match asNat len,asNat cap with
  | some l,some c =>
    if l≤c∧c < aW∧bytes * c < aW then
      (if c=0 then some (.emp 2,.none,[]) else some (.sl n 0 l sz,.new (.arr sz (List.replicate l z)),[]))
    else none
  | _,_=>none
def CM (sz bytes:Nat) (s x:V) (H:View) (n:Nat):Out:=match bG H x with
  | some (xs,rd) =>
      if xs.isEmpty then (match s with
        | .emp _ | .c8 | .aK _ | .sl _ _ _ _=>some (s,.none,[])
        | _=>none)
      else if ¬ ((xs.all fun e=>e.length == sz && e.all aR)=true) then none
      else match s with
        | .emp _=>if xs.length * bytes < aW∧xs.length < aW then some (.sl n 0 xs.length sz,.new (.arr sz xs),rd) else none
        | .sl id off len esz=>match H id with
          | .arr _ es =>
            if off+len≤es.length∧esz=sz∧(len+xs.length) * bytes < aW∧len+xs.length < aW
            then some (.sl n 0 (len+xs.length) esz,.bj id (.arr esz ((es.drop off).take len ++ xs)),id :: rd) else none
          | _=>none
        | _=>none
  | none=>none
def ag (op:BinOp) (k:IntKind) (a b:Int):Option Value:=match op with
  | .add=>some (.int k (k.wrap (a+b)))
  | .sub=>some (.int k (k.wrap (a - b)))
  | .mul=>some (.int k (k.wrap (a * b)))
  | .quo=>if b=0 then none else some (.int k (k.wrap (a.tdiv b)))
  | .rem=>if b=0 then none else some (.int k (a.tmod b))
  | .eql=>some (.bool (a == b))
  | .neq=>some (.bool (a != b))
  | .lss=>some (.bool (a < b))
  | .leq=>some (.bool (a≤b))
  | .gtr=>some (.bool (a > b))
  | .geq=>some (.bool (a≥b))
  | .or=>some (.int k (k.wrap (BitVec.ofInt k.bits a ||| BitVec.ofInt k.bits b).toNat))
  | .and=>some (.int k (k.wrap (BitVec.ofInt k.bits a &&& BitVec.ofInt k.bits b).toNat))
  | .xor=>some (.int k (k.wrap (BitVec.ofInt k.bits a ^^^ BitVec.ofInt k.bits b).toNat))
  | .andNot=>some (.int k (k.wrap (BitVec.ofInt k.bits a &&& ~~~(BitVec.ofInt k.bits b)).toNat))
  | _=>none
def u4 (op:BinOp) (x y:V):Out:=match x,y with
  | .val (.int k a),.val (.int k' b)=>if k=k' then (ag op k a b).map fun v=>(.val v,.none,[]) else none
  | _,_=>none
def GL (left:Bool) (k:IntKind) (a b:Int):Int:=if left then k.wrap (a * 2 ^ (min b.toNat k.bits)) else a.fdiv (2 ^ (min b.toNat k.bits))
def Kq (left:Bool) (x y:V):Out:=match x,y with
  | .val (.int k a),.val (.int _ b)=>if b < 0 then none else some (.val (.int k (GL left k a b)),.none,[])
  | _,_=>none
def Ly:BinOp→Option Bool
  | .shl=>some true
  | .shr=>some false
  | _=>none
def gB (a b:ByteArray):Bool:=a.data.toList == b.data.toList
def xH (op:BinOp) (x y:V):Out:=match x,y with
  | .val (.string a),.val (.string b)=>match op with
    | .eql=>some (.val (.bool (gB a b)),.none,[])
    | .neq=>some (.val (.bool (!gB a b)),.none,[])
    | _=>none
  | _,_=>none
def y4 (x i:V):Out:=match x,asNat i with
  | .val (.string s),some q=>match s.data.toList[q]? with
    | some b=>some (.val (.int .u8 b.toNat),.none,[])
    | none=>none
  | _,_=>none
def ai:Option Bool→Option Bool→Option Bool
  | some true,some b=>some b
  | some b,some true=>some b
  | _,_=>none
theorem F8 {P:Program} {t:TypeId} {k:Nat} (h:g8 P t=some k) (x y:V):AS P t x y=ai (isNil k x) (isNil k y):=by
  simp only[AS,h]
  unfold ai
  split <;> simp_all
def oper (op:Op) (ty:TypeId):Oper:=⟨none,op,ty,"",#[],none⟩
theorem LC (P:Program) (o:Oper) (T:Env) (H:View) (n:Nat):bT P (oper o.op o.type) T H n=bT P o T H n:=by
  cases o; rfl
def sI (P:Program) (s:SI) (T:Env) (H:View) (n:Nat):Out:=match s with
  | .bj x=>some (x.at T,.none,[])
  | .pick c a b=>match c.at T with
    | .val (.bool t)=>some (if t then a.at T else b.at T,.none,[])
    | _=>none
  | .box x=>j0 (x.at T).cells n
  | .gV x=>if (x.at T).cells.all aR=true then some (.aU (x.at T).cells 0,.none,[]) else none
  | .alloc z=>j0 z n
  | .build z parts=>(ae z (parts.map fun (a,b,x)=>(a,b,x.at T))).map fun cs=>(.agg cs,.none,[])
  | .bD len sz z parts=>wk len sz z (parts.map fun (i,x)=>(i,x.at T)) n
  | .load sz a=>tf sz (a.at T) H
  | .sy sz a=>match a.at T with
    | .aU e j=>(kc sz e j).map fun v=>(v,.none,[])
    | _=>none
  | .store sz a x=>ye sz (a.at T) (x.at T) H
  | .x4 x=>match x.at T with
    | .ptr id i j=>some (.ptr id i j,.none,[])
    | .aU e j=>some (.aU e j,.none,[])
    | .fn f a b=>some (.fn f a b,.none,[])
    | _=>none
  | .addr off x=>vR off (x.at T)
  | .field off sz x=>match x.at T with
    | .agg cs=>(kc sz cs off).map fun v=>(v,.none,[])
    | _=>none
  | .idx sz x i=>AR sz (x.at T) (i.at T)
  | .slice sz x lo hi=>j6 sz (x.at T) (lo.map (SX.at T)) (hi.map (SX.at T))
  | .make sz bytes z l c=>y9 sz bytes z (l.at T) (c.at T) n
  | .kX=>some (.mp n,.new (.map [] 0),[])
  | .pL f first cap=>some (.fn f (first.map (SX.at T)) (cap.map (SX.at T)),.none,[])
  | .ext i x=>match x.at T with
    | .bc vs=>if i < vs.length then some (vs.getD i .any,.none,[]) else none
    | _=>none
  | .len x=>(cH (x.at T)).map fun n=>(aj n,.none,[])
  | .gG x=>match x.at T with
    | .val (.string s)=>some (aj s.size,.none,[])
    | _=>none
  | .app sz bytes x y=>CM sz bytes (x.at T) (y.at T) H n
  | .arith op x y=>u4 op (x.at T) (y.at T)
  | .sh l x y=>Kq l (x.at T) (y.at T)
  | .iO op x y=>xH op (x.at T) (y.at T)
  | .c7 x i=>y4 (x.at T) (i.at T)
  | .not x=>match x.at T with
    | .val (.bool t)=>some (.val (.bool (!t)),.none,[])
    | _=>none
  | .nil eq k x y=>match ai (isNil k (x.at T)) (isNil k (y.at T)) with
    | some b=>some (.val (.bool (if eq then b else !b)),.none,[])
    | none=>none
  | .beq eq x y=>match x.at T,y.at T with
    | .val (.bool a),.val (.bool b)=>some (.val (.bool (if eq then a == b else a != b)),.none,[])
    | _,_=>none
  | .mm mx x y=>match x.at T,y.at T with
    | .val (.int k a),.val (.int _ b)=>some (.val (.int k (if mx then (if b > a then b else a) else (if b < a then b else a))),.none,[])
    | _,_=>none
  | .conv k x=>match x.at T with
    | .val (.int _ a)=>some (.val (.int k (k.wrap a)),.none,[])
    | _=>none
  | .AN x=>match x.at T with
    | .aK es=>(jl es).map fun l=>(.val (.string ⟨l.toArray⟩),.none,[])
    | _=>none
  | .eS x=>match x.at T with
    | .val (.string s)=>some (.aK (fi s),.none,[])
    | _=>none
  | .old op ty=>bT P (oper op ty) T H n
def yJ (P:Program) (t:TypeId):Option (Option Nat):=match P.info? t,o8 P t with
  | some i,some true=>some (some i.size)
  | some _,some false=>some none
  | _,_=>none
theorem te {P:Program} {t:TypeId} {k:Option Nat} (h:yJ P t=some k) (cs:List V) (j:Nat):mP P t cs j=kc k cs j:=by
  unfold yJ at h
  split at h
  · rename_i i h1 h2
    simp at h; subst h; simp[mP,h1,h2,kc]
  · rename_i i h1 h2
    simp at h; subst h; simp[mP,h1,h2,kc]
  · simp at h
def qg (P:Program) (t:TypeId):Option (Nat × Nat × List V):=match cd P t with
  | some e=>match P.info? e,zeroCells P e with
    | some ti,some z=>if z.length=ti.size∧z.all aR=true∧ti.size≠0 then some (ti.size,ti.bytes,z) else none
    | _,_=>none
  | none=>none
theorem mC {P:Program} {t:TypeId} {sz by':Nat} {z:List V} (h:qg P t=some (sz,by',z)) :
    ∃ e ti,cd P t=some e∧P.underlying t=some (.slice e)∧P.info? e=some ti∧zeroCells P e=some z∧z.length=ti.size∧z.all aR=true∧ti.size≠0∧sz=ti.size∧by'=ti.bytes:=by
  unfold qg at h
  split at h
  · rename_i e he
    split at h
    · rename_i ti z' h1 h2
      split at h
      · rename_i hc
        simp at h
        obtain ⟨rfl,rfl,rfl⟩:=h
        have hu:P.underlying t=some (.slice e):=by
          unfold cd at he; split at he
          · rename_i h3; simp at he; subst he; exact h3
          · simp at he
        exact ⟨e,ti,he,hu,h1,h2,hc.1,hc.2.1,hc.2.2,rfl,rfl⟩
      · simp at h
    · simp at h
  · simp at h
def rp (P:Program) (t:TypeId):List (Nat × Operand)→Option (List (Nat × Nat × SX))
  | []=>some []
  | (i,x) :: r=>match placeOf P t i,rp P t r with
    | some (a,b),some l=>some ((a,b,SX.of x) :: l)
    | _,_=>none
def comp (P:Program) (o:Oper):SI:=match o.op with
  | .move x | .assign x=>.bj (SX.of x)
  | .pick c a b=>.pick (SX.of c) (SX.of a) (SX.of b)
  | .alloc e=>match zeroCells P e with
    | some z=>.alloc z
    | none=>.old o.op o.type
  | .box _ x=>.box (SX.of x)
  | .load t a=>match yJ P t with
    | some k=>.load k (SX.of a)
    | none=>.old o.op o.type
  | .store t a v=>match P.info? t with
    | some _=>.store (P.cellsOf t) (SX.of a) (SX.of v)
    | none=>.old o.op o.type
  | .nilCheck x=>.x4 (SX.of x)
  | .fieldAddr t x f=>match mK P t f with
    | some (off,s,_)=>if s=0 then .old o.op o.type else .addr off (SX.of x)
    | none=>.old o.op o.type
  | .field t x f=>match mK P t f with
    | some (off,_,ft)=>match yJ P ft with
      | some k=>.field off k (SX.of x)
      | none=>.old o.op o.type
    | none=>.old o.op o.type
  | .indexAddr t x i=>match qg P t with
    | some (sz,_,_)=>.idx sz (SX.of x) (SX.of i)
    | none=>.old o.op o.type
  | .slice t x lo hi none=>match qg P t with
    | some (sz,_,_)=>.slice sz (SX.of x) (lo.map SX.of) (hi.map SX.of)
    | none=>.old o.op o.type
  | .makeSlice t l c=>match qg P t with
    | some (sz,b,z)=>.make sz b z (SX.of l) (SX.of c)
    | none=>.old o.op o.type
  | .makeMap _ none=>.kX
  | .makeFunc (.func f) first cap=>.pL f (first.toList.map SX.of) (cap.toList.map SX.of)
  | .extract t i=>.ext i (SX.of t)
  | .build t parts=>match P.underlying t,zeroV P t with
    | some (.struct _),some (.agg z)=>if j1 P t=true then
        (match rp P t parts.toList with
        | some ps=>.build z ps
        | none=>.old o.op o.type) else .old o.op o.type
    | _,_=>.old o.op o.type
  | .buildSlice t len parts=>match qg P t with
    | some (sz,_,z)=>if len=0∧parts.toList.isEmpty=true then .bj (.val (.emp 2)) else if len * sz≤2 ^ 24∧len≠0 then .bD len sz z (parts.toList.map fun (i,x)=>(i,SX.of x)) else .old o.op o.type
    | none=>.old o.op o.type
  | .call { callee:=.builtin b,args,argTypes }=>match b,args.toList with
    | .len,[x]=>if 1≤argTypes.size then (match P.underlying (argTypes.getD 0 0) with
      | some (.slice _)=>.len (SX.of x)
      | some .string=>.gG (SX.of x)
      | _=>.old o.op o.type) else .old o.op o.type
    | .append,[s,x]=>if 2≤argTypes.size∧mZ P (argTypes.getD 1 0)=true then (match qg P (argTypes.getD 0 0) with
      | some (sz,b,_)=>.app sz b (SX.of s) (SX.of x)
      | none=>.old o.op o.type) else .old o.op o.type
    | .min,[x,y]=>.mm false (SX.of x) (SX.of y)
    | .max,[x,y]=>.mm true (SX.of x) (SX.of y)
    | _,_=>.old o.op o.type
  | .convert s d x=>match P.underlying s,P.underlying d with
    | some (.int _),some (.int k)=>.conv k (SX.of x)
    | _,_=>.old o.op o.type
  | .binOp op t x y _=>match g8 P t with
    | some k=>match op with
      | .eql=>.nil true k (SX.of x) (SX.of y)
      | .neq=>.nil false k (SX.of x) (SX.of y)
      | _=>.old o.op o.type
    | none=>match P.underlying t with
      | some (.int _)=>match Ly op with
        | some l=>.sh l (SX.of x) (SX.of y)
        | none=>.arith op (SX.of x) (SX.of y)
      | some .string=>.iO op (SX.of x) (SX.of y)
      | some .bool=>match op with
        | .eql=>.beq true (SX.of x) (SX.of y)
        | .neq=>.beq false (SX.of x) (SX.of y)
        | _=>.old o.op o.type
      | _=>.old o.op o.type
  | .unOp .not _ x=>.not (SX.of x)
  | .index t x i=>match P.underlying t with
    | some .string=>.c7 (SX.of x) (SX.of i)
    | _=>.old o.op o.type
  | _=>.old o.op o.type
theorem AZ {P:Program} {t:TypeId} {T:Env} : ∀ (parts:List (Nat × Operand)) (ps:List (Nat × Nat × SX)) (z:List V),rp P t parts=some ps →
    sE (placeOf P t) z (parts.map fun (i,x)=>(i,ev T x))=ae z (ps.map fun (a,b,x)=>(a,b,x.at T))
  | [],ps,z,h=>by simp[rp] at h; subst h; rfl
  | (i,x) :: r,ps,z,h=>by
    simp only[rp] at h
    split at h
    · rename_i a b l h1 h2
      simp at h; subst h
      simp only[List.map_cons,sE,h1,ae,SX.ca]
      split
      · exact AZ r l _ h2
      · rfl
    · simp at h
theorem E4 {P:Program} {o:Oper} {T:Env} {op:BinOp} {t u:TypeId} {x y:Operand} {k:IntKind} {a b:Int} {r:Value} (ho:o.op=.binOp op t x y u) (hx:ev T x=.val (.int k a)) (hy:ev T y=.val (.int k b)) (h:ag op k a b=some r) :
    c4 P o T=some (.val r,.none,[]):=by
  unfold c4
  simp only[ho,Op.operands]
  simp only[hx,hy,cG]
  cases op <;> simp only[ag,Option.some.injEq,reduceCtorEq] at h
  all_goals first
    | (
       split at h
       · simp at h
       · rename_i hb
         simp at h; subst h
         simp[execOp,ho,hx,hy,cG,eqGuard,binOp,Op.intDiv,hb,plain]
         try rfl)
    | (subst h; simp[execOp,ho,hx,hy,cG,eqGuard,binOp,Op.intArith,Op.intCmp,Op.intBits,plain]; try rfl)
theorem Lm {P:Program} {o:Oper} {T:Env} {op:BinOp} {t u:TypeId} {x y:Operand} {l:Bool} {v:V} {eff:aY} {rd:List Nat} (ho:o.op=.binOp op t x y u) (hs:Ly op=some l) (h:Kq l (ev T x) (ev T y)=some (v,eff,rd)) :
    c4 P o T=some (v,eff,rd):=by
  unfold Kq at h
  split at h
  · rename_i k a k' b hx hy
    split at h
    · simp at h
    · rename_i hb
      simp only[Option.some.injEq,Prod.mk.injEq] at h
      obtain ⟨rfl,rfl,rfl⟩:=h
      unfold c4
      simp only[ho,Op.operands]
      simp only[hx,hy,cG]
      cases op <;> simp only[Ly,Option.some.injEq,reduceCtorEq] at hs
      all_goals
        subst hs
        simp[execOp,ho,hx,hy,cG,eqGuard,binOp,Op.shift,hb,plain,GL]
        try rfl
  · simp at h
theorem I8 {P:Program} {o:Oper} {T:Env} {op:BinOp} {t u:TypeId} {x y:Operand} {v:V} {eff:aY} {rd:List Nat} (ho:o.op=.binOp op t x y u) (h:xH op (ev T x) (ev T y)=some (v,eff,rd)) :
    c4 P o T=some (v,eff,rd):=by
  unfold xH at h
  split at h
  · rename_i a b hx hy
    unfold c4
    simp only[ho,Op.operands,hx,hy,cG]
    have he:(a.toList == b.toList)=gB a b:=by simp[gB,ByteArray.toList_eq]
    split at h
    · simp at h; obtain ⟨rfl,rfl,rfl⟩:=h
      simp[execOp,ho,hx,hy,cG,eqGuard,binOp,Op.stringOp,plain,← he]; rfl
    · simp at h; obtain ⟨rfl,rfl,rfl⟩:=h
      simp[execOp,ho,hx,hy,cG,eqGuard,binOp,Op.stringOp,plain,← he]; rfl
    · simp at h
  · simp at h
theorem G9 {P:Program} {o:Oper} {T:Env} {t:TypeId} {x i:Operand} {v:V} {eff:aY} {rd:List Nat} (ho:o.op=.index t x i) (hu:P.underlying t=some .string) (h:y4 (ev T x) (ev T i)=some (v,eff,rd)) :
    c4 P o T=some (v,eff,rd):=by
  unfold y4 at h
  split at h
  · rename_i s q hx hq
    split at h
    · rename_i b hb
      simp at h; obtain ⟨rfl,rfl,rfl⟩:=h
      unfold asNat at hq
      split at hq
      · rename_i k z hz
        split at hq
        · rename_i h0
          simp at hq; subst hq
          have hs:s[z.toNat]?=some b:=by
            obtain ⟨hlt,rfl⟩:=List.getElem?_eq_some_iff.1 hb
            have hlt':z.toNat < s.size:=by rw[bsize] at hlt; exact hlt
            rw[getElem?_pos s z.toNat hlt']
            rfl
          unfold c4
          simp only[ho,Op.operands,hx,hz,cG]
          simp[execOp,ho,hx,hz,cG,Instr.index,asIntOf,underlying,program,hu,h0,hs,plain]
          simp[bq,hu,h0,hs,plain,bind,Sem.bind,pure]
          rfl
        · simp at hq
      · simp at hq
    · simp at h
  · simp at h
theorem JX {P:Program} {o:Oper} {T:Env} {t:TypeId} {x:Operand} {b:Bool} (ho:o.op=.unOp .not t x) (hx:ev T x=.val (.bool b)) :
    c4 P o T=some (.val (.bool (!b)),.none,[]):=by
  unfold c4
  simp only[ho,Op.operands,hx,cG]
  simp[execOp,ho,hx,cG,Op.unary,plain]
  rfl
theorem gD {α β:Type} (P:Program) (s:Sem α) (f:α→β):bq P (Functor.map f s)=(bq P s).map f:=by
  show bq P (s >>= fun a=>pure (f a))=_
  rw[bg]
  cases bq P s <;> rfl
theorem dP {P:Program} {t:TypeId} {d:TypeDesc} (h:P.underlying t=some d):bq P (underlying t)=some d:=by
  simp only[underlying,program,bg]
  simp[bq,h]
  rfl
theorem tH {P:Program} {t:TypeId} {a b:Bool} (hu:P.underlying t=some .bool):bq P (Op.equal t (.bool a) (.bool b))=some (a == b):=by
  rw[jz]
  generalize 9999=d
  simp only[Op.equalIn,bg,dP hu,Option.bind_some]
  rfl
theorem Bz {P:Program} {o:Oper} {T:Env} {op:BinOp} {t u:TypeId} {x y:Operand} {a b:Bool} {r:Bool} (ho:o.op=.binOp op t x y u) (hu:P.underlying t=some .bool) (hx:ev T x=.val (.bool a)) (hy:ev T y=.val (.bool b))
    (hr:(op=.eql∧r=(a == b))∨(op=.neq∧r=(a != b))) :
    c4 P o T=some (.val (.bool r),.none,[]):=by
  unfold c4
  simp only[ho,Op.operands,hx,hy,cG]
  rcases hr with ⟨rfl,rfl⟩ | ⟨rfl,rfl⟩
  · simp[execOp,ho,hx,hy,cG,eqGuard,binOp,gD,bg,tH hu,plain]
    try simp[bq,pure,plain]
  · simp[execOp,ho,hx,hy,cG,eqGuard,binOp,gD,bg,tH hu,plain]
    try simp[bq,pure,plain,bne]
theorem HM {P:Program} {o:Oper} {T:Env} {s d:TypeId} {x:Operand} {k0 k k':IntKind} {a:Int} (ho:o.op=.convert s d x) (hs:P.underlying s=some (.int k0)) (hd:P.underlying d=some (.int k)) (hx:ev T x=.val (.int k' a)) :
    c4 P o T=some (.val (.int k (k.wrap a)),.none,[]):=by
  unfold c4
  simp only[ho,Op.operands,hx,cG]
  have:bq P (convert s d (.int k' a))=some (.int k (k.wrap a)):=by
    simp only[convert,bg,dP hs,dP hd,Option.bind_some]
    rfl
  simp[execOp,ho,hx,cG,gD,this,plain]
theorem EF {P:Program} {o:Oper} {T:Env} {bi:Builtin} {x y:Operand} {k k':IntKind} {a b:Int} {args:Array Operand} {ats:Array TypeId} {r:Int} (ho:o.op=.call { callee:=.builtin bi,args:=args,argTypes:=ats }) (ha:args.toList=[x,y])
    (hx:ev T x=.val (.int k a)) (hy:ev T y=.val (.int k' b)) (hr:(bi=.max∧r=if b > a then b else a)∨(bi=.min∧r=if b < a then b else a)) :
    c4 P o T=some (.val (.int k r),.none,[]):=by
  obtain rfl:args = #[x,y]:=by rw[← Array.toArray_toList (xs:=args),ha]
  unfold c4
  rcases hr with ⟨rfl,rfl⟩ | ⟨rfl,rfl⟩
  · have:bq P (Builtin.max_ ats o.type #[.int k a,.int k' b])=some (.int k (if b > a then b else a)):=rfl
    simp[ho,Op.operands,Call.operands,hx,hy,cG,execOp,resolve,invoke,builtin,gD,this,plain]
  · have:bq P (Builtin.min_ ats o.type #[.int k a,.int k' b])=some (.int k (if b < a then b else a)):=rfl
    simp[ho,Op.operands,Call.operands,hx,hy,cG,execOp,resolve,invoke,builtin,gD,this,plain]
theorem CN (l:List Operand) (T:Env):(l.map SX.of).map (SX.at T)=l.map (ev T):=by
  rw[List.map_map]; congr 1; funext x; exact SX.ca T x
theorem MH (l:Option Operand) (T:Env):(l.map SX.of).map (SX.at T)=l.map (ev T):=by
  cases l <;> simp[SX.ca]
theorem MS (l:List (Nat × Operand)) (T:Env):(l.map fun (i,x)=>(i,SX.of x)).map (fun (i,x)=>(i,SX.at T x))=l.map fun (i,x)=>(i,ev T x):=by
  rw[List.map_map]; congr 1; funext x; simp[SX.ca]
theorem Gk {P:Program} {o:Oper} {T:Env} {H:View} {n:Nat} {v:V} {eff:aY} {rd:List Nat} (h:sI P (comp P o) T H n=some (v,eff,rd)) :
    bT P o T H n=some (v,eff,rd):=by
  have old:∀ {s:SI},s=.old o.op o.type→sI P s T H n=some (v,eff,rd)→bT P o T H n=some (v,eff,rd):=fun e h=>by rw[e] at h; simp only[sI,LC] at h; exact h
  unfold comp at h
  split at h
  · rename_i x ho; simp only[sI,SX.ca] at h; simp only[bT,ho]; exact h
  · rename_i x ho; simp only[sI,SX.ca] at h; simp only[bT,ho]; exact h
  · rename_i c a b ho; simp only[sI,SX.ca] at h; simp only[bT,ho]; exact h
  · rename_i e ho
    split at h
    · rename_i z hz; simp only[sI] at h; simp only[bT,ho,hz]; exact h
    · exact old rfl h
  · rename_i t x ho; simp only[sI,SX.ca] at h; simp only[bT,ho]; exact h
  · rename_i t a ho
    split at h
    · rename_i k hk
      simp only[sI,SX.ca,tf] at h
      simp only[bT,ho,kh,te hk]
      exact h
    · exact old rfl h
  · rename_i t a x ho
    split at h
    · rename_i ti hti
      simp only[sI,SX.ca,ye] at h
      simp only[bT,ho,nq,hti,Option.isSome_some,and_true]
      exact h
    · exact old rfl h
  · rename_i x ho; simp only[sI,SX.ca] at h; simp only[bT,ho]; exact h
  · rename_i t x f ho
    split at h
    · rename_i off s ft hpl
      split at h
      · exact old rfl h
      · rename_i hs
        simp only[sI,SX.ca,vR] at h
        simp only[bT,ho,jK,hpl,hs,if_false]
        exact h
    · exact old rfl h
  · rename_i t x f ho
    split at h
    · rename_i off s ft hpl
      split at h
      · rename_i k hk
        simp only[sI,SX.ca] at h
        simp only[bT,ho,rW,hpl]
        split at h
        · rename_i cs hcs; simp only[hcs,te hk]; exact h
        · simp at h
      · exact old rfl h
    · exact old rfl h
  · rename_i t x i ho
    split at h
    · rename_i sz b z hk
      obtain ⟨e,ti,h1,h2,h3,h4,h5,h6,h7,rfl,rfl⟩:=mC hk
      simp only[sI,SX.ca,AR] at h
      simp only[bT,ho,jH,h2,h3]
      exact h
    · exact old rfl h
  · rename_i t x lo hi ho
    split at h
    · rename_i sz b z hk
      obtain ⟨e,ti,h1,h2,h3,h4,h5,h6,h7,rfl,rfl⟩:=mC hk
      simp only[sI,SX.ca,MH] at h
      simp only[bT,ho]
      have hsl:pK P t (ev T x) (lo.map (ev T)) (hi.map (ev T)) none=some (v,eff,rd):=by
        simp only[pK,h1,h3]
        unfold j6 at h
        split at h
        · rename_i h9; rw[h9]; exact h
        · rename_i h9; rw[h9]; exact h
        · rename_i h9; rw[h9]; exact h
        · simp at h
      unfold j6 at h
      split at h
      · rename_i h9; rw[h9] at hsl ⊢; exact hsl
      · rename_i h9; rw[h9] at hsl ⊢; exact hsl
      · rename_i h9; rw[h9] at hsl ⊢; exact hsl
      · simp at h
    · exact old rfl h
  · rename_i t l c ho
    split at h
    · rename_i sz b z hk
      obtain ⟨e,ti,h1,h2,h3,h4,h5,h6,h7,rfl,rfl⟩:=mC hk
      simp only[sI,SX.ca,y9] at h
      simp only[bT,ho,jB,h1,h3]
      split at h
      · rename_i l' c' hl hc
        simp only[hl,hc,h7,if_false,h4,h5,h6,and_self,if_true]
        exact h
      · simp at h
    · exact old rfl h
  · rename_i t ho; simp only[sI] at h; simp only[bT,ho]; exact h
  · rename_i f first cap ho; simp only[sI,CN] at h; simp only[bT,ho]; exact h
  · rename_i t i ho; simp only[sI,SX.ca] at h; simp only[bT,ho]; exact h
  · rename_i t parts ho
    split at h
    · rename_i fs z h1 h2
      split at h
      · rename_i h3
        split at h
        · rename_i ps h4
          simp only[sI] at h
          simp only[bT,ho,rl,h1,h2,h3,if_true]
          have:=AZ (T:=T) parts.toList ps z h4
          rw[this]
          exact h
        · exact old rfl h
      · exact old rfl h
    · exact old rfl h
  · rename_i t len parts ho
    split at h
    · rename_i sz b z hk
      obtain ⟨e,ti,h1,h2,h3,h4,h5,h6,h7,rfl,rfl⟩:=mC hk
      split at h
      · rename_i hc
        obtain ⟨rfl,hc⟩:=hc
        simp only[sI,SX.at] at h
        simp only[bT,ho,fN,h1,h3]
        rw[List.isEmpty_iff] at hc
        rw[if_neg (by omega),if_pos trivial,hc]
        exact h
      split at h
      · rename_i hc
        simp only[sI,MS,wk] at h
        simp only[bT,ho,fN,h1,h3]
        rw[if_neg (by omega),if_neg hc.2,if_neg h7]
        simp only[h4,h5,h6,and_self,if_true]
        exact h
      · exact old rfl h
    · exact old rfl h
  · rename_i b args ats ho
    split at h
    · rename_i x hargs
      split at h
      · rename_i hsz
        simp only[bT,ho,hargs,hsz,if_true,qV]
        split at h
        · rename_i e hu
          simp only[sI,SX.ca] at h
          simp only[hu]; exact h
        · rename_i hu
          simp only[sI,SX.ca] at h
          simp only[hu]
          exact h
        · have:=old rfl h
          simpa only [bT,ho,hargs,hsz,if_true,qV] using this
      · exact old rfl h
    · rename_i s x hargs
      split at h
      · rename_i hsz
        split at h
        · rename_i sz b z hk
          obtain ⟨e,ti,h1,h2,h3,h4,h5,h6,h7,rfl,rfl⟩:=mC hk
          simp only[sI,SX.ca] at h
          simp only[bT,ho,hargs]
          rw[if_pos hsz]
          unfold CM at h
          split at h
          · rename_i xs rd' hel
            simp only[kH,h1,hel,h3]
            have hz:(zeroCells P e).map List.length=some ti.size:=by rw[h4]; simp[h5]
            split at h
            · rename_i hemp; rw[if_pos hemp]; exact h
            · rename_i hemp
              rw[if_neg hemp]
              split at h
              · simp at h
              · rename_i hall
                rw[if_neg (by
                  rintro (h9 | h9 | h9)
                  · exact h7 h9
                  · exact h9 hz
                  · exact hall h9)]
                exact h
          · simp at h
        · exact old rfl h
      · exact old rfl h
    · rename_i x y hargs
      simp only[sI,SX.ca] at h
      simp only[bT,ho]
      split at h
      · rename_i k a k' b hx hy
        have:=EF (P:=P) (T:=T) ho hargs hx hy (.inr ⟨rfl,rfl⟩)
        rw[this]; exact h
      · simp at h
    · rename_i x y hargs
      simp only[sI,SX.ca] at h
      simp only[bT,ho]
      split at h
      · rename_i k a k' b hx hy
        have:=EF (P:=P) (T:=T) ho hargs hx hy (.inl ⟨rfl,rfl⟩)
        rw[this]; exact h
      · simp at h
    · exact old rfl h
  · rename_i s d x ho
    split at h
    · rename_i k0 k hs hd
      simp only[sI,SX.ca] at h
      simp only[bT,ho]
      split at h
      · rename_i k' a hx
        have hb:¬ (jd P s d=true):=by simp[jd,hs,hd]
        rw[if_neg hb,HM ho hs hd hx]; exact h
      · simp at h
    · exact old rfl h
  · rename_i op t x y u ho
    split at h
    · rename_i k hk
      have hsome:(g8 P t).isSome=true:=by rw[hk]; rfl
      split at h
      · simp only[sI,SX.ca] at h
        simp only[bT,ho]
        rw[if_pos hsome,F8 hk]
        split at h
        · rename_i b hb; rw[hb]; simpa using h
        · simp at h
      · simp only[sI,SX.ca] at h
        simp only[bT,ho]
        rw[if_pos hsome,F8 hk]
        split at h
        · rename_i b hb; rw[hb]; simpa using h
        · simp at h
      · exact old rfl h
    · rename_i hk
      have hnone:¬ ((g8 P t).isSome=true):=by rw[hk]; simp
      split at h
      · split at h
        · rename_i l hs
          simp only[sI,SX.ca] at h
          simp only[bT,ho]
          rw[if_neg hnone]
          exact Lm ho hs h
        · simp only[sI,SX.ca,u4] at h
          simp only[bT,ho]
          split at h
          · rename_i k a k' b hx hy
            split at h
            · rename_i hkk
              subst hkk
              simp only[Option.map_eq_some_iff] at h
              obtain ⟨r,hr,h⟩:=h
              rw[if_neg hnone,E4 ho hx hy hr]; exact congrArg some h
            · simp at h
          · simp at h
      · simp only[sI,SX.ca] at h
        simp only[bT,ho]
        rw[if_neg hnone]
        exact I8 ho h
      · rename_i hu
        split at h
        · simp only[sI,SX.ca] at h
          simp only[bT,ho]
          split at h
          · rename_i a b hx hy
            rw[if_neg hnone,Bz ho hu hx hy (.inl ⟨rfl,rfl⟩)]; simpa using h
          · simp at h
        · simp only[sI,SX.ca] at h
          simp only[bT,ho]
          split at h
          · rename_i a b hx hy
            rw[if_neg hnone,Bz ho hu hx hy (.inr ⟨rfl,rfl⟩)]; simpa using h
          · simp at h
        · exact old rfl h
      · exact old rfl h
  · rename_i t x ho
    simp only[sI,SX.ca] at h
    simp only[bT,ho]
    split at h
    · rename_i b hb; rw[JX ho hb]; exact h
    · simp at h
  · rename_i t x i ho
    split at h
    · rename_i hu
      simp only[sI,SX.ca] at h
      simp only[bT,ho]
      exact G9 ho hu h
    · exact old rfl h
  · exact old rfl h
theorem KU {P:Program} {sz:Option Nat} {a:SX} {T:Env} {H:View} {n:Nat} {v:V} {eff:aY} {rd:List Nat} (h:sI P (.sy sz a) T H n=some (v,eff,rd)):sI P (.load sz a) T H n=some (v,eff,rd):=by
  simp only[sI] at h
  simp only[sI,tf]
  split at h
  · rename_i e j ha; rw[ha]; exact h
  · simp at h
def toStr (P:Program) (s d:TypeId):Bool:=match P.underlying s,P.underlying d with
  | some (.slice e),some .string=>(match P.underlying e with | some (.int .u8)=>true | _=>false)
  | _,_=>false
def r8 (P:Program) (s d:TypeId):Bool:=match P.underlying s,P.underlying d with
  | some .string,some (.slice e)=>(match P.underlying e with | some (.int .u8)=>true | _=>false)
  | _,_=>false
theorem J3 {P:Program} {s d:TypeId} (h:toStr P s d=true):∃ e,P.underlying s=some (.slice e)∧P.underlying d=some .string∧P.underlying e=some (.int .u8):=by
  unfold toStr at h
  split at h
  · rename_i e h1 h2
    split at h
    · rename_i h3; exact ⟨e,h1,h2,h3⟩
    · simp at h
  · simp at h
theorem wW {P:Program} {s d:TypeId} (h:r8 P s d=true):∃ e,P.underlying s=some .string∧P.underlying d=some (.slice e)∧P.underlying e=some (.int .u8):=by
  unfold r8 at h
  split at h
  · rename_i e h1 h2
    split at h
    · rename_i h3; exact ⟨e,h1,h2,h3⟩
    · simp at h
  · simp at h
theorem MF {P:Program} {s d ty:TypeId} {x:Operand} {T:Env} {H:View} {n:Nat} {v:V} {eff:aY} {rd:List Nat} (hc:toStr P s d=true) (h:sI P (.AN (SX.of x)) T H n=some (v,eff,rd)):sI P (.old (.convert s d x) ty) T H n=some (v,eff,rd):=by
  obtain ⟨e,h1,h2,h3⟩:=J3 hc
  simp only[sI,SX.ca] at h
  simp only[sI,bT,oper,jd,h1,if_true,ko,h2,h3]
  split at h
  · rename_i es hx
    rw[hx]
    simp only[bG,cH]
    exact h
  · simp at h
inductive SB where
  | op (s:SI)
  | call (f:SX) (args:List SX)
  deriving Inhabited
structure SO where
  dst:Option Nat
  guard:Option (Nat × Bool)
  b:SB
  deriving Inhabited
structure SG where
  guard:Option (Nat × Bool)
  ops:List (Option Nat × SB)
  deriving Inhabited
inductive SC where
  | skip
  | region (quiet:Bool) (gs:List SG)
  | v8 (aps:List (Nat × Nat)) (gs:List SG)
  | AV (tol:Nat × Nat × Nat) (aps:List (Nat × Nat)) (gs:List SG)
  | seq (x y:SC)
  | cond (c:SX) (x y:SC)
  | block (id:Nat) (c:SC)
  | loop (c:SC)
  | exit (id:Nat)
  | ret
  | scope (l:Nat) (c r:SC)
  | label (l:Nat)
  | goto (l:Nat)
  deriving Inhabited
def lN:SC→Nat→Option SC
  | .seq a b,l=>match lN a l with
    | some r=>some (.seq r b)
    | none=>lN b l
  | .label l',l=>if l' == l then some .skip else none
  | _,_=>none
def CI:SC→Option Nat
  | .seq a b=>match CI a with
    | some l=>some l
    | none=>CI b
  | .label l=>some l
  | _=>none
def oT (l:Nat):Exit→Prop→Prop→Prop
  | .goto l',a,_=>l'=l∧a
  | _,_,b=>b
inductive SR where
  | tmp (t:Nat)
  | cell (t:Nat) (sz:Option Nat)
  deriving Inhabited
def vY (P:Program) (op:Op):Nat:=match op with
  | .convert s d _=>if jd P s d=true then 2 else 0
  | .call { callee:=.builtin b,.. }=>match b with
    | .min | .max | .complex | .real | .imag=>0
    | .len=>1
    | _=>2
  | .lookup ..=>1
  | .binOp .. | .unOp .. | .index ..=>0
  | _=>2
def qc (P:Program):SI→Nat
  | .bj _ | .pick .. | .gV _ | .x4 _ | .addr .. | .field .. | .idx .. | .slice .. | .pL .. | .ext .. | .len _ | .gG _ | .arith .. | .sh .. | .iO .. | .c7 .. | .not _ | .nil .. | .build .. | .sy .. | .beq .. | .mm .. | .conv .. | .AN _ | .eS _=>0
  | .load .. | .box _ | .alloc _ | .bD .. | .make .. | .kX=>1
  | .store .. | .app ..=>2
  | .old op _=>vY P op
def gK (P:Program) (quiet:Bool):SB→Nat
  | .op s=>qc P s
  | .call ..=>if quiet then 1 else 2
structure Fz where
  l:List Nat
  fr:Bool
def uv (P:Program) (fr:Bool):SI→SI
  | .load k a=>if fr then .sy k a else .load k a
  | .old (.convert s d x) ty=>if fr && toStr P s d then .AN (SX.of x) else .old (.convert s d x) ty
  | s=>s
def lO (P:Program) (fz:Fz) (o:Oper):SB:=match o.op with
  | .call { callee:=.value f,args,.. }=>.call (SX.of f) (args.toList.map SX.of)
  | .box _ x=>if (match o.dst with | some d=>fz.l.contains d | none=>false) then .op (.gV (SX.of x)) else .op (.box (SX.of x))
  | .convert s d x=>if (match o.dst with | some t=>fz.l.contains t | none=>false) && r8 P s d then .op (.eS (SX.of x)) else .op (uv P fz.fr (comp P o))
  | _=>.op (uv P fz.fr (comp P o))
def rH (n:Nat) (all:List Oper) (o:Oper):Option (Option (Nat × Bool)):=match o.guard with
  | none=>some none
  | some (j,want)=>match (all[j]?).bind (·.dst) with
    | some d=>if d < n then some (some (d,want)) else none
    | none=>none
def Cu (P:Program) (n:Nat) (all:List Oper) (fz:Fz) (o:Oper):Option SO :=
  if oQ n o then (rH n all o).map fun g=>⟨o.dst,g,lO P fz o⟩ else none
def cU (P:Program) (n:Nat) (all:List Oper) (fz:Fz):List Oper→Option (List SO)
  | []=>some []
  | o :: r=>match Cu P n all fz o,cU P n all fz r with
    | some s,some l=>some (s :: l)
    | _,_=>none
def SG.flat (g:SG):List SO:=g.ops.map fun (d,b)=>⟨d,g.guard,b⟩
def iN (gs:List SG):List SO:=(gs.map SG.flat).flatten
def Ia (g:Option (Nat × Bool)) (s:SO):Bool:=match g,s.guard with
  | none,none=>true
  | some (d,w),some (d',w')=>d == d' && w == w' && s.dst != some d
  | _,_=>false
def group:List SO→List SG
  | []=>[]
  | s :: r=>match group r with
    | g :: gs=>if Ia g.guard s then ⟨g.guard,(s.dst,s.b) :: g.ops⟩ :: gs else ⟨s.guard,[(s.dst,s.b)]⟩ :: g :: gs
    | []=>[⟨s.guard,[(s.dst,s.b)]⟩]
theorem LF {g:Option (Nat × Bool)} {s:SO} (h:Ia g s=true):s.guard=g:=by
  unfold Ia at h
  split at h
  · rename_i h1; exact h1
  · rename_i d w d' w' h1
    simp at h; rw[h1,h.1.1,h.1.2]
  · simp at h
theorem e9:∀ l:List SO,iN (group l)=l
  | []=>rfl
  | s :: r=>by
    have ih:=e9 r
    simp only[group]
    split
    · rename_i g gs hg
      rw[hg] at ih
      split
      · rename_i hj
        have:=LF hj
        rw[← ih]
        cases s with
        | mk d gd b=>simp only at this; subst this; simp[iN,SG.flat]
      · rw[← ih]; simp[iN,SG.flat]
    · rename_i hg
      rw[hg] at ih
      rw[← ih]; simp[iN,SG.flat]
def z6 (o:Oper):Bool:=match o.op with
  | .load ..=>true
  | _=>false
def xT (o:Oper):Bool:=match o.op with
  | .alloc _=>true
  | _=>false
def jj (o:Oper):Option Nat:=match o.op,o.guard with
  | .store _ (.tmp t) _,none=>some t
  | _,_=>none
def NH (all:List Oper) (j k t:Nat):Bool:=match all[j]? with
  | some o=>o.dst == some t && o.guard.isNone && xT o && ((all.drop (j+1)).take (k - (j+1))).all fun o'=>o'.dst != some t
  | none=>false
def vS (all:List Oper) (i k:Nat):Bool:=match all[i]?,all[k]? with
  | some a,some b=>z6 a && (match jj b with
    | some t=>(List.range k).any fun j=>decide (i < j) && NH all j k t
    | none=>false)
  | _,_=>false
def CB (all:List Oper) (ls:List Nat):Bool :=
  let b:=er all []
  ls.zipIdx.all fun (x,i)=>ls.zipIdx.all fun (y,k)=>!decide (i < k) || ordered b i k || x == 0 || y == 0 || (decide (x≤1) && decide (y≤1)) || vS all i k
def oX (o:Oper):Option Nat:=match o.op with
  | .load _ (.tmp t)=>some t
  | _=>none
def stays (all:List Oper) (i t:Nat):Bool:=(all.drop i).all fun o=>o.dst != some t
def y5 (all:List Oper) (i k:Nat):Option (Nat × Nat):=match all[i]?,all[k]? with
  | some a,some b=>match oX a,jj b with
    | some s,some t=>if stays all i s && stays all k t then some (s,t) else none
    | _,_=>match jj a,oX b with
      | some t,some s=>if stays all i t && stays all k s then some (s,t) else none
      | _,_=>none
  | _,_=>none
def u5 (all:List Oper) (x i y k:Nat):Bool:=!decide (i < k) || ordered (er all []) i k || x == 0 || y == 0 || (decide (x≤1) && decide (y≤1)) || vS all i k
def jk (all:List Oper) (ls:List Nat):List (Nat × Nat):=ls.zipIdx.flatMap fun (x,i)=>ls.zipIdx.filterMap fun (y,k)=>if u5 all x i y k then none else some (i,k)
def yj (all:List Oper):List (Nat × Nat)→Option (List (Nat × Nat))
  | []=>some []
  | (i,k) :: r=>match y5 all i k,yj all r with
    | some p,some l=>some (p :: l)
    | _,_=>none
def JB (o:Oper):Option Nat:=match o.op,o.guard with
  | .call { callee:=.builtin .append,args,.. },none=>match args.toList with
    | [.tmp t,_]=>some t
    | _=>none
  | _,_=>none
def mq (o:Oper):Option Nat:=match jj o with
  | some t=>some t
  | none=>JB o
def EU (o:Oper):Bool:=match o.op with
  | .buildSlice ..=>true
  | .alloc _=>true
  | _=>false
def newAt (all:List Oper) (k:Nat):Bool:=match all[k]? with
  | some b=>EU b
  | none=>false
def Ab (all:List Oper) (i k:Nat):Option (Nat × Nat):=match all[i]?,all[k]? with
  | some a,some b=>match oX a,mq b with
    | some s,some t=>if stays all i s && stays all k t then some (s,t) else none
    | _,_=>match mq a,oX b with
      | some t,some s=>if stays all i t && stays all k s then some (s,t) else none
      | _,_=>none
  | _,_=>none
def Cy (all:List Oper) (ls:List Nat) (i k:Nat):Option (Nat × Nat × Nat):=match all[i]?,all[k]? with
  | some a,some b=>match a.op,b.op,a.guard,b.guard with
    | .lookup t (.tmp m) (.tmp q) false,.mapEntry t' (.tmp m') (.tmp q'),none,none =>
      if t == t' && m == m' && q == q' && stays all i m && stays all i q && stays all k m && stays all k q && decide (i < k) && (List.range k).all fun j=>decide (ls.getD j 2≤1) then some (t,m,q) else none
    | _,_,_,_=>none
  | _,_=>none
def Cx (all:List Oper) (ls:List Nat) (tp:Option (Nat × Nat)):List (Nat × Nat):=(jk all ls).filter fun p=>!newAt all p.2 && tp != some p
def vV (o:Oper):Option (Nat × Nat × Nat):=match o.op,o.guard,o.dst with
  | .call { callee:=.builtin .append,args,.. },none,some d=>match args.toList with
    | [.tmp t,.tmp y]=>some (t,y,d)
    | _=>none
  | _,_,_=>none
def z7 (all:List Oper) (i k:Nat):Option (List (Nat × Nat)):=match all[i]?,all[k]? with
  | some a,some b=>match vV a,vV b with
    | some (t,y,d),some (t',y',_)=>if stays all i t && stays all i y && stays all (i+1) d && stays all k t' && stays all k y' then some [(t,t'),(t,y'),(t',y),(d,t')] else none
    | _,_=>none
  | _,_=>none
def wc (all:List Oper) (i k:Nat):Option (List (Nat × Nat)):=match Ab all i k with
  | some p=>some [p]
  | none=>z7 all i k
def sj (all:List Oper):List (Nat × Nat)→Option (List (Nat × Nat))
  | []=>some []
  | (i,k) :: r=>match wc all i k,sj all r with
    | some p,some l=>some (p ++ l)
    | _,_=>none
def qh (g:SG):Bool:=match g.guard with
  | none=>true
  | some (d,_)=>g.ops.all fun x=>x.1 != some d
def oU (P:Program) (n:Nat) (fz:Fz) (ops:List Oper) (draw quiet:Bool):Option SC:=match cU P n ops fz ops with
  | none=>none
  | some l=>if !(group l).all qh then none else
    if draw then (if j5 ops && CB ops (l.map fun s=>gK P quiet s.b) then some (.region quiet (group l)) else none)
    else some (.region quiet (group l))
def zG (P:Program) (n:Nat) (fz:Fz) (ops:List Oper):Option SC:=match cU P n ops fz ops with
  | none=>none
  | some l=>if !(group l).all qh then none else
    if j5 ops then (yj ops (jk ops (l.map fun s=>gK P false s.b))).map fun aps=>.v8 aps (group l) else none
def MN (all:List Oper) (ls:List Nat):Option (Nat × Nat):=(jk all ls).find? fun p=>(Cy all ls p.1 p.2).isSome
def yN (P:Program) (n:Nat) (fz:Fz) (ops:List Oper):Option SC:=match cU P n ops fz ops with
  | none=>none
  | some l=>if !(group l).all qh then none else
    if j5 ops then
      (match MN ops (l.map fun s=>gK P false s.b) with
      | none=>(sj ops (Cx ops (l.map fun s=>gK P false s.b) none)).map fun aps=>.v8 aps (group l)
      | some p=>match Cy ops (l.map fun s=>gK P false s.b) p.1 p.2 with
        | some tol=>(sj ops (Cx ops (l.map fun s=>gK P false s.b) (some p))).map fun aps=>.AV tol aps (group l)
        | none=>none)
    else none
def Ob:Nat:=100000
def N0:Nat:=100001
def orElse':Option SC→Option SC→Option SC
  | some x,_=>some x
  | none,y=>y
def zD (P:Program) (n:Nat) (fz:List Nat) (ops:List Oper) (draw:Bool):Option SC :=
  orElse' (oU P n ⟨fz,false⟩ ops draw false) (if draw then orElse' (if fz.contains Ob then yN P n ⟨fz,false⟩ ops else none) <| orElse' (if fz.contains N0 then oU P n ⟨fz,true⟩ ops true false else none) <| orElse' (zG P n ⟨fz,false⟩ ops) (orElse' (oU P n ⟨fz,false⟩ ops true true) (orElse' (oU P n ⟨fz,true⟩ ops true false) (oU P n ⟨fz,true⟩ ops true true))) else none)
def cw (P:Program) (n:Nat) (fz:List Nat):Code→Option SC
  | .skip=>some .skip
  | .region _ ops draw=>zD P n fz ops.toList draw
  | .seq x y=>match cw P n fz x,cw P n fz y with
    | some a,some b=>some (.seq a b)
    | _,_=>none
  | .cond c x y=>match cw P n fz x,cw P n fz y with
    | some a,some b=>some (.cond (SX.of c) a b)
    | _,_=>none
  | .block id c=>(cw P n fz c).map (.block id)
  | .loop c=>(cw P n fz c).map .loop
  | .exit id=>some (.exit id)
  | .ret=>some .ret
  | .scope c=>match cw P n fz c with
    | some sc=>match CI sc with
      | some l=>(lN sc l).map fun r=>.scope l sc r
      | none=>none
    | none=>none
  | .label l=>some (.label l)
  | .goto l=>some (.goto l)
  | _=>none
def gC (h h':aB):Prop:=∀ id,id < h.length→h.view id=.dead→h'.view id=.dead
theorem gC.refl (h:aB):gC h h:=fun _ _ e=>e
theorem gC.trans {a b c:aB} (h:gC a b) (k:gC b c) (hl:a.length≤b.length):gC a c:=fun id hid e=>k id (Nat.lt_of_lt_of_le hid hl) (h id hid e)
def aA (P:Program) (f:FuncId) (vs:List V) (H:View) (K:V→View→Prop):Prop :=
  cR P f=true∧∀ h:aB,h.view=H→∃ r h',bw P f vs h r h'∧gC h h'∧K r h'.view
def CG (P:Program) (f:FuncId) (vs:List V) (H:View) (K:V→View→Prop):Prop :=
  cR P f=true∧∀ h:aB,h.view=H→∃ r h',bw P f vs h r h'∧(∀ id,id < h.length→h'.view id=h.view id)∧K r h'.view
def ie (sz:Option Nat) (e:List V) (j:Nat) (K:V→Prop):Prop:=match sz with
  | some n=>j+n≤e.length∧K (.agg ((e.drop j).take n))
  | none=>j < e.length∧K (e.getD j .any)
def wI (P:Program) (s:SI) (T:Env) (H:View) (K:V→View→Prop):Prop:=match s with
  | .bj x=>K (x.at T) H
  | .pick c a b=>match c.at T with
    | .val (.bool t)=>K (if t then a.at T else b.at T) H
    | _=>False
  | .box x=>(x.at T).cells.all aR=true∧∀ n,H n=.dead→K (.ptr n 0 0) (H.set n (.arr (x.at T).cells.length [(x.at T).cells]))
  | .gV x=>(x.at T).cells.all aR=true∧K (.aU (x.at T).cells 0) H
  | .alloc z=>z.all aR=true∧∀ n,H n=.dead→K (.ptr n 0 0) (H.set n (.arr z.length [z]))
  | .load sz a=>match a.at T with
    | .ptr id i j=>match H id with
      | .arr _ es=>i < es.length∧ie sz (es.getD i []) j fun v=>K v H
      | _=>False
    | .aU e j=>ie sz e j fun v=>K v H
    | _=>False
  | .sy sz a=>match a.at T with
    | .aU e j=>ie sz e j fun v=>K v H
    | _=>False
  | .store sz a x=>match a.at T with
    | .ptr id i j=>match H id with
      | .arr esz es=>(i < es.length∧(x.at T).cells.length=sz∧j+(x.at T).cells.length≤esz∧(x.at T).cells.all aR=true) ∧
          K .any (H.set id (.arr esz (es.set i (ab (es.getD i []) j (x.at T).cells))))
      | _=>False
    | _=>False
  | .x4 x=>match x.at T with
    | .ptr id i j=>K (.ptr id i j) H
    | .aU e j=>K (.aU e j) H
    | .fn f a b=>K (.fn f a b) H
    | _=>False
  | .addr off x=>match x.at T with
    | .ptr id i j=>K (.ptr id i (j+off)) H
    | .aU e j=>K (.aU e (j+off)) H
    | _=>False
  | .field off sz x=>match x.at T with
    | .agg cs=>ie sz cs off fun v=>K v H
    | _=>False
  | .idx sz x i=>match asNat (i.at T) with
    | none=>False
    | some q=>match x.at T with
      | .sl id off len esz=>(q < len∧esz=sz)∧K (.ptr id (off+q) 0) H
      | .aK es=>∃ e,es[q]?=some e∧e.length=sz∧K (.aU e 0) H
      | _=>False
  | .pL f first cap=>K (.fn f (first.map (SX.at T)) (cap.map (SX.at T))) H
  | .kX=>∀ n,H n=.dead→K (.mp n) (H.set n (.map [] 0))
  | .ext i x=>match x.at T with
    | .bc vs=>i < vs.length∧K (vs.getD i .any) H
    | _=>False
  | .len x=>match cH (x.at T) with
    | some n=>K (aj n) H
    | none=>False
  | .gG x=>match x.at T with
    | .val (.string s)=>K (aj s.size) H
    | _=>False
  | .arith op x y=>match x.at T,y.at T with
    | .val (.int k a),.val (.int k' b)=>k=k'∧(match ag op k a b with | some v=>K (.val v) H | none=>False)
    | _,_=>False
  | .iO op x y=>match x.at T,y.at T with
    | .val (.string a),.val (.string b)=>(match op with
      | .eql=>K (.val (.bool (gB a b))) H
      | .neq=>K (.val (.bool (!gB a b))) H
      | _=>False)
    | _,_=>False
  | .c7 x i=>match x.at T,asNat (i.at T) with
    | .val (.string s),some q=>∃ b,s.data.toList[q]?=some b∧K (.val (.int .u8 b.toNat)) H
    | _,_=>False
  | .not x=>match x.at T with
    | .val (.bool t)=>K (.val (.bool (!t))) H
    | _=>False
  | .nil eq k x y=>match ai (isNil k (x.at T)) (isNil k (y.at T)) with
    | some b=>K (.val (.bool (if eq then b else !b))) H
    | none=>False
  | .beq eq x y=>match x.at T,y.at T with
    | .val (.bool a),.val (.bool b)=>K (.val (.bool (if eq then a == b else a != b))) H
    | _,_=>False
  | .mm mx x y=>match x.at T,y.at T with
    | .val (.int k a),.val (.int _ b)=>K (.val (.int k (if mx then (if b > a then b else a) else (if b < a then b else a)))) H
    | _,_=>False
  | .conv k x=>match x.at T with
    | .val (.int _ a)=>K (.val (.int k (k.wrap a))) H
    | _=>False
  | .sh l x y=>match x.at T,y.at T with
    | .val (.int k a),.val (.int _ b)=>0≤b∧K (.val (.int k (GL l k a b))) H
    | _,_=>False
  | .build z parts=>match ae z (parts.map fun (a,b,x)=>(a,b,x.at T)) with
    | some cs=>K (.agg cs) H
    | none=>False
  | .bD len sz z parts=>match af sz (List.replicate len z) (parts.map fun (i,x)=>(i,x.at T)) with
    | some es=>∀ n,H n=.dead→K (.sl n 0 len sz) (H.set n (.arr sz es))
    | none=>False
  | .slice sz x lo hi=>match j6 sz (x.at T) (lo.map (SX.at T)) (hi.map (SX.at T)) with
    | some (v,.none,_)=>K v H
    | _=>False
  | .make sz bytes z l c=>match asNat (l.at T),asNat (c.at T) with
    | some l,some c=>(l≤c∧c < aW∧bytes * c < aW)∧(c=0→K (.emp 2) H)∧(c≠0→∀ n,H n=.dead→K (.sl n 0 l sz) (H.set n (.arr sz (List.replicate l z))))
    | _,_=>False
  | .app sz bytes x y=>match bG H (y.at T) with
    | some (xs,_)=>if xs.isEmpty=true then (match x.at T with
        | .emp k=>K (.emp k) H
        | .c8=>K .c8 H
        | .aK es=>K (.aK es) H
        | .sl a b c d=>K (.sl a b c d) H
        | _=>False)
      else (xs.all fun e=>e.length == sz && e.all aR)=true∧(match x.at T with
        | .emp _=>(xs.length * bytes < aW∧xs.length < aW)∧∀ n,H n=.dead→K (.sl n 0 xs.length sz) (H.set n (.arr sz xs))
        | .sl id off len esz=>match H id with
          | .arr _ es=>(off+len≤es.length∧esz=sz∧(len+xs.length) * bytes < aW∧len+xs.length < aW) ∧
              ∀ n,H n=.dead→K (.sl n 0 (len+xs.length) esz) ((H.set id .dead).set n (.arr esz ((es.drop off).take len ++ xs)))
          | _=>False
        | _=>False)
    | none=>False
  | .AN x=>match x.at T with
    | .aK es=>(match jl es with
      | some l=>K (.val (.string ⟨l.toArray⟩)) H
      | none=>False)
    | _=>False
  | .eS x=>match x.at T with
    | .val (.string s)=>K (.aK (fi s)) H
    | _=>False
  | s=>∀ n,H n=.dead→∃ v eff rd,sI P s T H n=some (v,eff,rd)∧K v (eff.view H n)
def wB (P:Program) (quiet:Bool) (b:SB) (T:Env) (H:View) (K:V→View→Prop):Prop:=match b with
  | .op s=>wI P s T H K
  | .call f args=>match f.at T with
    | .fn g first cap=>if quiet then CG P g (first ++ args.map (SX.at T) ++ cap) H K else aA P g (first ++ args.map (SX.at T) ++ cap) H K
    | _=>False
def vg (P:Program) (quiet:Bool):List (Option Nat × SB)→Env→View→(Env→View→Prop)→Prop
  | [],T,H,K=>K T H
  | (d,b) :: r,T,H,K=>wB P quiet b T H fun v H'=>vg P quiet r (T.put d v) H' K
def gm:List (Option Nat × SB)→Env→Env
  | [],T=>T
  | (d,_) :: r,T=>gm r (T.put d (.bc []))
def wG (P:Program) (quiet:Bool) (g:SG) (T:Env) (H:View) (K:Env→View→Prop):Prop:=match g.guard with
  | none=>vg P quiet g.ops T H K
  | some (d,want)=>match T d with
    | .val (.bool b)=>(b=want→vg P quiet g.ops (T.put (some d) (.val (.bool want))) H K)∧(b = !want→K (gm g.ops (T.put (some d) (.val (.bool (!want))))) H)
    | .bc []=>K (gm g.ops T) H
    | _=>False
def tL (P:Program) (quiet:Bool):List SG→Env→View→(Env→View→Prop)→Prop
  | [],T,H,K=>K T H
  | g :: r,T,H,K=>wG P quiet g T H fun T' H'=>tL P quiet r T' H' K
def qb (c:SX) (b:Bool) (T:Env):Env:=match c with
  | .tmp t=>T.put (some t) (.val (.bool b))
  | _=>T
def wU:Exit→Prop→Prop→Prop
  | .normal,a,_=>a
  | _,_,b=>b
def gp (a b:V):Prop:=match a,b with
  | .ptr i _ _,.ptr j _ _=>i≠j
  | .ptr i _ _,.sl j _ _ _=>i≠j
  | .ptr _ _ _,.emp _=>True
  | .ptr _ _ _,.c8=>True
  | .ptr _ _ _,.aK _=>True
  | .aU _ _,_=>True
  | .sl i _ _ _,.sl j _ _ _=>i≠j
  | .sl _ _ _ _,.emp _=>True
  | .sl _ _ _ _,.c8=>True
  | .sl _ _ _ _,.aK _=>True
  | .emp _,_=>True
  | .c8,_=>True
  | .aK _,_=>True
  | _,_=>False
def HV (P:Program) (t:TypeId) (m q:V) (H:View):Prop:=match m with
  | .mp id=>(∃ es c,H id=.map es c)∧∀ v obj rd,dY P t (.mp id) q H=some (v,.eC id obj,rd)→eQ P t (.mp id) q false (H.set id obj)=eQ P t (.mp id) q false H
  | _=>False
def ve:List (Nat × Nat)→Env→Prop→Prop
  | [],_,K=>K
  | p :: l,T,K=>gp (T p.1) (T p.2)∧ve l T K
def wS (P:Program):SC→Env→View→(Exit→Env→View→Prop)→Prop
  | .skip,T,H,Q=>Q .normal T H
  | .region quiet gs,T,H,Q=>tL P quiet gs T H (Q .normal)
  | .v8 aps gs,T,H,Q=>tL P false gs T H fun T' H'=>ve aps T' (Q .normal T' H')
  | .AV tol aps gs,T,H,Q=>tL P false gs T H fun T' H'=>HV P tol.1 (T' tol.2.1) (T' tol.2.2) H∧ve aps T' (Q .normal T' H')
  | .seq x y,T,H,Q=>wS P x T H fun e T' H'=>wU e (wS P y T' H' Q) (Q e T' H')
  | .cond c x y,T,H,Q=>match c.at T with
    | .val (.bool b)=>(b=true→wS P x (qb c true T) H Q)∧(b=false→wS P y (qb c false T) H Q)
    | _=>False
  | .block id c,T,H,Q=>wS P c T H fun e=>Q (mR id e)
  | .loop c,T,H,Q=>∃ I:Nat→Env→View→Prop,(∃ k,I k T H)∧∀ k T H,I k T H→wS P c T H fun e T' H'=>wU e (∃ k',k' < k∧I k' T' H') (Q e T' H')
  | .exit id,T,H,Q=>Q (.exit id) T H
  | .ret,T,H,Q=>Q .ret T H
  | .scope l c r,T,H,Q=>∃ (I:Nat→Env→View→Prop) (K:Nat),wS P c T H (fun e T' H'=>oT l e (∃ k,k < K∧I k T' H') (Q e T' H'))∧∀ k T H,I k T H→wS P r T H fun e T' H'=>oT l e (∃ k',k' < k∧I k' T' H') (Q e T' H')
  | .label _,T,H,Q=>Q .normal T H
  | .goto l,T,H,Q=>Q (.goto l) T H
def wR (T:Env) (H:View) (r:SR) (K:V→Prop):Prop:=match r with
  | .tmp t=>K (T t)
  | .cell t sz=>match T t with
    | .ptr id i j=>match H id with
      | .arr _ es=>i < es.length∧ie sz (es.getD i []) j K
      | _=>False
    | .aU e j=>ie sz e j K
    | _=>False
def yx (T:Env) (H:View):List SR→List V→(List V→Prop)→Prop
  | [],acc,K=>K acc
  | r :: l,acc,K=>wR T H r fun v=>yx T H l (acc ++ [v]) K
def ah:List V→V
  | [v]=>v
  | vs=>.bc vs
def eu (P:Program):List ResultVar→Option (List SR)
  | []=>some []
  | .tmp t :: r=>(eu P r).map (.tmp t :: ·)
  | .cell a t :: r=>match yJ P t,eu P r with
    | some k,some l=>some (.cell a k :: l)
    | _,_=>none
structure SF where
  code:SC
  res:List SR
  n:Nat
abbrev aa (a b:Nat):Option Nat × SB:=(some a,.op (.bj (.tmp b)))
abbrev aF (a:Nat) (n:Int):Option Nat × SB:=(some a,.op (.bj (.val (.val (.int .i64 n)))))
abbrev aV (a:Nat) (n:Bool):Option Nat × SB:=(some a,.op (.bj (.val (.val (.bool n)))))
abbrev aq (a b:Nat):Option Nat × SB:=(some a,.op (.load none (.tmp b)))
abbrev aH (a k b:Nat):Option Nat × SB:=(some a,.op (.load (some k) (.tmp b)))
abbrev ao (a k b:Nat):Option Nat × SB:=(some a,.op (.addr k (.tmp b)))
abbrev aZ (a k b c:Nat):Option Nat × SB:=(some a,.op (.idx k (.tmp b) (.tmp c)))
abbrev bF (a b c:Nat):Option Nat × SB:=(some a,.op (.pick (.tmp b) (.val (.val (.bool true))) (.tmp c)))
abbrev bB (a b c:Nat):Option Nat × SB:=(some a,.op (.pick (.tmp b) (.tmp c) (.val (.val (.bool false)))))
abbrev aO (a:Nat) (o:BinOp) (b c:Nat):Option Nat × SB:=(some a,.op (.arith o (.tmp b) (.tmp c)))
abbrev ax (a:Nat) (o:BinOp) (b:Nat) (n:Int):Option Nat × SB:=(some a,.op (.arith o (.tmp b) (.val (.val (.int .i64 n)))))
abbrev aM (a b:Nat):Option Nat × SB:=(some a,.op (.len (.tmp b)))
abbrev ct (a k b:Nat):Option Nat × SB:=(some a,.op (.ext k (.tmp b)))
abbrev cb (a b:Nat):Option Nat × SB:=(some a,.op (.not (.tmp b)))
abbrev b6 (a b:Nat):Option Nat × SB:=(some a,.op (.gV (.tmp b)))
abbrev bS (a b:Nat):Option Nat × SB:=(some a,.op (.x4 (.tmp b)))
abbrev cZ (a f:Nat) (l:List SX):Option Nat × SB:=(some a,.call (.val (.fn f [] [])) l)
abbrev aG (a f:Nat) (l:List Nat):Option Nat × SB:=(some a,.call (.val (.fn f [] [])) (l.map .tmp))
abbrev al (l:List (Option Nat × SB)):SC:=.region false [⟨none,l⟩]
def bh (P:Program) (f:FuncId) (fz:List Nat):Option SF:=match P.funcs[f]? with
  | some fn=>match fn.body with
    | some c=>match cw P fn.ntmps fz c,eu P fn.results.toList,cR P f with
      | some sc,some rs,true=>some ⟨sc,rs,fn.ntmps⟩
      | _,_,_=>none
    | none=>none
  | none=>none
theorem mD {sz:Option Nat} {e:List V} {j:Nat} {K:V→Prop} (h:ie sz e j K):∃ v,kc sz e j=some v∧K v:=by
  cases sz with
  | none=>exact ⟨_,by simp only[kc]; rw[if_pos h.1],h.2⟩
  | some n=>exact ⟨_,by simp only[kc]; rw[if_pos h.1],h.2⟩
theorem On {P:Program} {s:SI} {T:Env} {H:View} {K:V→View→Prop} (h:wI P s T H K) {n:Nat} (hn:H n=.dead) :
    ∃ v eff rd,sI P s T H n=some (v,eff,rd)∧K v (eff.view H n):=by
  unfold wI at h
  split at h
  · exact ⟨_,_,_,rfl,h⟩
  · split at h
    · rename_i t ht; exact ⟨_,_,_,by simp only[sI,ht]; rfl,h⟩
    · exact h.elim
  · exact ⟨_,_,_,by simp only[sI,j0]; rw[if_pos h.1],h.2 n hn⟩
  · exact ⟨_,_,_,by simp only[sI]; rw[if_pos h.1],h.2⟩
  · exact ⟨_,_,_,by simp only[sI,j0]; rw[if_pos h.1],h.2 n hn⟩
  · split at h
    · rename_i id i j ha
      split at h
      · rename_i es hH
        obtain ⟨h1,h2⟩:=h
        obtain ⟨v,hv,hk⟩:=mD h2
        exact ⟨_,_,_,by simp only[sI,tf,ha,hH]; rw[if_pos h1,hv]; rfl,hk⟩
      · exact h.elim
    · rename_i e j ha
      obtain ⟨v,hv,hk⟩:=mD h
      exact ⟨_,_,_,by simp only[sI,tf,ha]; rw[hv]; rfl,hk⟩
    · exact h.elim
  · split at h
    · rename_i e j ha
      obtain ⟨v,hv,hk⟩:=mD h
      exact ⟨_,_,_,by simp only[sI,ha]; rw[hv]; rfl,hk⟩
    · exact h.elim
  · split at h
    · rename_i id i j ha
      split at h
      · rename_i esz es hH
        exact ⟨_,_,_,by simp only[sI,ye,ha,hH]; rw[if_pos h.1],h.2⟩
      · exact h.elim
    · exact h.elim
  · split at h
    · rename_i hx; exact ⟨_,_,_,by simp only[sI,hx]; rfl,h⟩
    · rename_i hx; exact ⟨_,_,_,by simp only[sI,hx]; rfl,h⟩
    · rename_i hx; exact ⟨_,_,_,by simp only[sI,hx]; rfl,h⟩
    · exact h.elim
  · split at h
    · rename_i hx; exact ⟨_,_,_,by simp only[sI,vR,hx]; rfl,h⟩
    · rename_i hx; exact ⟨_,_,_,by simp only[sI,vR,hx]; rfl,h⟩
    · exact h.elim
  · split at h
    · rename_i cs hx
      obtain ⟨v,hv,hk⟩:=mD h
      exact ⟨_,_,_,by simp only[sI,hx,hv]; rfl,hk⟩
    · exact h.elim
  · split at h
    · exact h.elim
    · rename_i q hq
      split at h
      · rename_i hx; exact ⟨_,_,_,by simp only[sI,AR,hq,hx]; rw[if_pos h.1],h.2⟩
      · rename_i es hx
        obtain ⟨e,he,hl,hk⟩:=h
        have hlt:q < es.length:=(List.getElem?_eq_some_iff.1 he).1
        have hge:es.getD q []=e:=by simp[List.getD_eq_getElem?_getD,he]
        exact ⟨_,_,_,by simp only[sI,AR,hq,hx]; rw[hge,if_pos ⟨hlt,hl⟩],hk⟩
      · exact h.elim
  · exact ⟨_,_,_,rfl,h⟩
  · exact ⟨_,_,_,rfl,h n hn⟩
  · split at h
    · rename_i vs hx; exact ⟨_,_,_,by simp only[sI,hx]; rw[if_pos h.1],h.2⟩
    · exact h.elim
  · split at h
    · rename_i m hx; exact ⟨_,_,_,by simp only[sI,hx]; rfl,h⟩
    · exact h.elim
  · split at h
    · rename_i s hx; exact ⟨_,_,_,by simp only[sI,hx]; rfl,h⟩
    · exact h.elim
  · split at h
    · rename_i k a k' b hx hy
      obtain ⟨rfl,h⟩:=h
      split at h
      · rename_i v hv; exact ⟨_,_,_,by simp only[sI,u4,hx,hy,if_true,hv]; rfl,h⟩
      · exact h.elim
    · exact h.elim
  · split at h
    · rename_i a b hx hy
      split at h
      · exact ⟨_,_,_,by simp only[sI,xH,hx,hy]; rfl,h⟩
      · exact ⟨_,_,_,by simp only[sI,xH,hx,hy]; rfl,h⟩
      · exact h.elim
    · exact h.elim
  · split at h
    · rename_i s q hx hq
      obtain ⟨b,hb,hk⟩:=h
      exact ⟨_,_,_,by simp only[sI,y4,hx,hq,hb]; rfl,hk⟩
    · exact h.elim
  · split at h
    · rename_i t hx; exact ⟨_,_,_,by simp only[sI,hx]; rfl,h⟩
    · exact h.elim
  · split at h
    · rename_i b hb; exact ⟨_,_,_,by simp only[sI,hb]; rfl,h⟩
    · exact h.elim
  · split at h
    · rename_i hx hy; exact ⟨_,_,_,by simp only[sI,hx,hy]; rfl,h⟩
    · exact h.elim
  · split at h
    · rename_i hx hy; exact ⟨_,_,_,by simp only[sI,hx,hy]; rfl,h⟩
    · exact h.elim
  · split at h
    · rename_i hx; exact ⟨_,_,_,by simp only[sI,hx]; rfl,h⟩
    · exact h.elim
  · split at h
    · rename_i hx hy; exact ⟨_,_,_,by simp only[sI,Kq,hx,hy]; rw[if_neg (by omega)],h.2⟩
    · exact h.elim
  · split at h
    · rename_i cs hb; exact ⟨_,_,_,by simp only[sI,hb]; rfl,h⟩
    · exact h.elim
  · split at h
    · rename_i es hb; exact ⟨_,_,_,by simp only[sI,wk,hb]; rfl,h n hn⟩
    · exact h.elim
  · split at h
    · rename_i v rd hb; exact ⟨_,_,_,by simp only[sI,hb]; rfl,h⟩
    · exact h.elim
  · split at h
    · rename_i l c hl hc
      obtain ⟨h1,h2,h3⟩:=h
      by_cases e:c=0
      · exact ⟨.emp 2,.none,[],by simp only[sI,y9,hl,hc]; rw[if_pos h1,if_pos e],h2 e⟩
      · exact ⟨_,_,_,by simp only[sI,y9,hl,hc]; rw[if_pos h1,if_neg e],h3 e n hn⟩
    · exact h.elim
  · split at h
    · rename_i xs rd hel
      split at h
      · rename_i he
        split at h
        all_goals first
          | (rename_i hx; exact ⟨_,_,_,by simp only[sI,CM,hel]; rw[if_pos he,hx],h⟩)
          | exact h.elim
      · rename_i he
        obtain ⟨h1,h2⟩:=h
        split at h2
        · rename_i hx
          exact ⟨_,_,_,by simp only[sI,CM,hel]; rw[if_neg he,if_neg (by rw[h1]; simp),hx]; simp only; rw[if_pos h2.1],h2.2 n hn⟩
        · rename_i id off len esz hx
          split at h2
          · rename_i z es hH
            exact ⟨_,_,_,by simp only[sI,CM,hel]; rw[if_neg he,if_neg (by rw[h1]; simp),hx]; simp only[hH]; rw[if_pos h2.1],h2.2 n hn⟩
          · exact h2.elim
        · exact h2.elim
    · exact h.elim
  · split at h
    · rename_i hx
      split at h
      · rename_i l hl; exact ⟨_,_,_,by simp only[sI,hx,hl]; rfl,h⟩
      · exact h.elim
    · exact h.elim
  · split at h
    · rename_i hx; exact ⟨_,_,_,by simp only[sI,hx]; rfl,h⟩
    · exact h.elim
  · exact h n hn
def jb (k:Nat) (rd wr:List Nat) (call:Bool) (n n':Nat):Prop :=
  (k=0→rd=[]∧wr=[]∧call=false∧n'=n)∧(k≤1→wr=[])
theorem L4 {k:Nat} (h:k=2) {rd wr:List Nat} {call:Bool} {n n':Nat} : jb k rd wr call n n':=⟨fun h'=>by omega,fun h'=>by omega⟩
theorem nH {P:Program} {o:Oper} {T:Env} {v:V} {eff:aY} {rd:List Nat} (h:c4 P o T=some (v,eff,rd)):eff=.none∧rd=[]:=by
  unfold c4 at h
  split at h
  · split at h
    · split at h
      · simp at h; exact ⟨h.2.1.symm,h.2.2⟩
      · simp at h
    · simp at h
  · simp at h
theorem LD {P:Program} {o:Oper} {T:Env} {H:View} {n:Nat} {v:V} {eff:aY} {rd:List Nat} (h:bT P o T H n=some (v,eff,rd)) :
    (vY P o.op=0→eff=.none∧rd=[])∧(vY P o.op=1→eff.wr=[]):=by
  unfold vY
  split
  · rename_i s d x ho
    simp only[bT,ho] at h
    split
    · exact ⟨fun h=>by simp at h,fun h=>by simp at h⟩
    · rename_i hb
      rw[if_neg hb] at h
      exact ⟨fun _=>nH h,fun h=>by simp at h⟩
  · rename_i b args ats ho
    simp only[bT,ho] at h
    split
    any_goals exact ⟨fun _=>nH h,fun h=>by simp at h⟩
    · refine ⟨fun h=>by simp at h,fun _=>?_⟩
      split at h
      · rename_i hargs
        split at h
        · simp only[qV] at h
          have nn:∀ {v':V} {r:List Nat},some (v',aY.none,r)=some (v,eff,rd)→eff.wr=[]:=fun e=>by
            simp only[Option.some.injEq,Prod.mk.injEq] at e; rw[← e.2.1]; rfl
          split at h
          · simp only[Option.map_eq_some_iff] at h
            obtain ⟨_,_,h⟩:=h
            exact nn (congrArg some h)
          · split at h
            · split at h
              · exact nn h
              · simp at h
            · exact nn h
            · simp at h
          · split at h
            · exact nn h
            · simp at h
          · exact nn h
          · simp at h
        · simp at h
      any_goals simp at h
      all_goals contradiction
    · exact ⟨fun h=>by simp at h,fun h=>by simp at h⟩
  · rename_i t m k ok ho
    refine ⟨fun h=>by simp at h,fun _=>?_⟩
    simp only[bT,ho,eQ] at h
    have nn:∀ {v':V} {r:List Nat},some (v',aY.none,r)=some (v,eff,rd)→eff.wr=[]:=fun e=>by
      simp only[Option.some.injEq,Prod.mk.injEq] at e; rw[← e.2.1]; rfl
    split at h
    · simp at h
    · split at h
      · simp at h
      · split at h
        · split at h
          · split at h
            · split at h
              · exact nn h
              · simp at h
            · exact nn h
            · simp at h
          · simp at h
        · simp at h
  · rename_i op t x y u ho
    refine ⟨fun _=>?_,fun h=>by simp at h⟩
    simp only[bT,ho] at h
    split at h
    · split at h
      · simp at h; exact ⟨h.2.1.symm,h.2.2⟩
      · simp at h; exact ⟨h.2.1.symm,h.2.2⟩
      · simp at h
    · exact nH h
  · rename_i op t x ho
    exact ⟨fun _=>nH (by simpa only [bT,ho] using h),fun h=>by simp at h⟩
  · rename_i t x i ho
    exact ⟨fun _=>nH (by simpa only [bT,ho] using h),fun h=>by simp at h⟩
  · exact ⟨fun h=>by simp at h,fun h=>by simp at h⟩
theorem oV {P:Program} {s:SI} {T:Env} {H:View} {n:Nat} {v:V} {eff:aY} {rd:List Nat} (h:sI P s T H n=some (v,eff,rd)) :
    (qc P s=0→eff=.none∧rd=[])∧(qc P s=1→eff.wr=[]):=by
  have nn:∀ {v':V},some (v',aY.none,([]:List Nat))=some (v,eff,rd)→eff=.none∧rd=[]:=fun e=>by
    simp only[Option.some.injEq,Prod.mk.injEq] at e; exact ⟨e.2.1.symm,e.2.2.symm⟩
  have mp:∀ {α:Type} {x:Option α} {f:α→V},(x.map fun a=>(f a,aY.none,([]:List Nat)))=some (v,eff,rd)→eff=.none∧rd=[]:=by
    intro α x f h
    simp only[Option.map_eq_some_iff] at h
    obtain ⟨a,_,h⟩:=h
    simp only[Prod.mk.injEq] at h; exact ⟨h.2.1.symm,h.2.2.symm⟩
  have nw:∀ {v':V} {o:bI} {r:List Nat},some (v',aY.new o,r)=some (v,eff,rd)→eff.wr=[]:=fun e=>by
    simp only[Option.some.injEq,Prod.mk.injEq] at e; rw[← e.2.1]; rfl
  have n1:∀ {v':V} {r:List Nat},some (v',aY.none,r)=some (v,eff,rd)→eff.wr=[]:=fun e=>by
    simp only[Option.some.injEq,Prod.mk.injEq] at e; rw[← e.2.1]; rfl
  unfold qc
  cases s <;> simp only[sI] at h
  case old op ty=>exact LD (o:=oper op ty) h
  all_goals
    constructor <;> intro hk <;> first
      | (exfalso; revert hk; simp; done)
      | skip
  all_goals try simp only[tf,j0,vR,AR,j6,y9,wk,u4,Kq,xH,y4] at h
  all_goals first
    | exact nn h
    | exact mp h
    | exact nw h
    | exact n1 h
    | skip
  all_goals repeat' (split at h)
  all_goals first
    | exact nn h
    | exact mp h
    | exact nw h
    | exact n1 h
    | (simp at h; done)
    | (simp only[Option.map_eq_some_iff,Prod.mk.injEq] at h; obtain ⟨_,_,_,rfl,_⟩:=h; rfl)
end Gv
