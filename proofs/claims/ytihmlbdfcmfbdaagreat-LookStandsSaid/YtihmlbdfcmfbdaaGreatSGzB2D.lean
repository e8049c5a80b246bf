/-
  Part 4 of the proof: what the machine does and what the functions answer.
  Conditions: those that each lemma names.
-/
import Derived.Test.YtihmlbdfcmfbdaaGreatSGzB2C
set_option linter.unusedSimpArgs false
set_option linter.unusedVariables false
set_option maxRecDepth 100000
namespace Gv
open Go
inductive Tree:V→Prop
 | val (v:Value):Tree (.val v)
 | emp (k:Nat):Tree (.emp k)
 | dP:Tree .dP
 | aL (es:List (List V)):(∀ i j,i < es.length→j < (es.getD i []).length→Tree ((es.getD i []).getD j .any))→Tree (.aL es)
 | aO (e:List V) (j:Nat):(∀ k,k < e.length→Tree (e.getD k .any))→Tree (.aO e j)
 | fn (f:FuncId) (xs ys:List V):(∀ i,i < xs.length→Tree (xs.getD i .any))→(∀ i,i < ys.length→Tree (ys.getD i .any))→Tree (.fn f xs ys)
 | agg (cs:List V):(∀ i,i < cs.length→Tree (cs.getD i .any))→Tree (.agg cs)
 | bE (cs:List V):(∀ i,i < cs.length→Tree (cs.getD i .any))→Tree (.bE cs)
theorem vP {Z:Nat→Prop} {μ ν:Mu} {hp:Array Obj} {v:V} {x:Value} (h:aF Z μ hp v x):Tree v→aF Z ν hp v x:=by
 induction h with
 | any x=>intro t; exact .any x
 | val v hv=>intro _; exact .val v hv
 | emp k a h1 h2=>intro _; exact .emp k a h1 h2
 | dP a cap=>intro _; exact .dP a cap
 | im a cap h1=>intro _; exact .im a cap h1
 | aL es b off esz cap c hz hle hes hc _ ih =>
  intro t
  cases t with
  | aL _ ht=>exact .aL es b off esz cap c hz hle hes hc (fun i j hi hj=>ih i j hi hj (ht i j hi (by rw[hes i hi]; exact hj)))
 | oZ id off esz a=>intro t; cases t
 | sl id off len esz b o0 cap c e f hm hle hb hs=>intro t; cases t
 | ptr id i j b o0 esz hm=>intro t; cases t
 | aO e j b off c hz hc _ ih =>
  intro t
  cases t with
  | aO _ _ ht=>exact .aO e j b off c hz hc (fun k hk=>ih k hk (ht k hk))
 | mp id b o0 esz hm=>intro t; cases t
 | fn f xs ys aas bs h1 h2 _ _ ih1 ih2 =>
  intro t
  cases t with
  | fn _ _ _ t1 t2=>exact .fn f xs ys aas bs h1 h2 (fun i hi=>ih1 i hi (t1 i hi)) (fun i hi=>ih2 i hi (t2 i hi))
 | agg cs aas h1 _ ih =>
  intro t
  cases t with
  | agg _ ht=>exact .agg cs aas h1 (fun i hi=>ih i hi (ht i hi))
 | bE cs aas h1 _ ih =>
  intro t
  cases t with
  | bE _ ht=>exact .bE cs aas h1 (fun i hi=>ih i hi (ht i hi))
inductive Fr (h:aJ):V→V→Prop
 | tree (v:V):Tree v→Fr h v v
 | emp (k:Nat):Fr h (.emp k) (.aL [])
 | sl (id off len esz z:Nat) (es es':List (List V)):h.view id=.arr z es→off+len≤es.length→es'.length=len →
  (∀ i,i < len→(es'.getD i []).length=(es.getD (off+i) []).length) →
  (∀ i j,i < len→j < (es'.getD i []).length→Fr h ((es.getD (off+i) []).getD j .any) ((es'.getD i []).getD j .any))→Fr h (.sl id off len esz) (.aL es')
 | ptr (id i j z:Nat) (es:List (List V)) (e':List V):h.view id=.arr z es→i < es.length→e'.length=(es.getD i []).length →
  (∀ k,k < e'.length→Fr h ((es.getD i []).getD k .any) (e'.getD k .any))→Fr h (.ptr id i j) (.aO e' j)
 | agg (cs cs':List V):cs'.length=cs.length→(∀ i,i < cs.length→Fr h (cs.getD i .any) (cs'.getD i .any))→Fr h (.agg cs) (.agg cs')
 | bE (cs cs':List V):cs'.length=cs.length→(∀ i,i < cs.length→Fr h (cs.getD i .any) (cs'.getD i .any))→Fr h (.bE cs) (.bE cs')
theorem A8 {h:aJ} {Z:Nat→Prop} {μ ν:Mu} {F:View} {hp:Array Obj} (hr:gY Z μ hp (cat h F)) {v t:V} (fr:Fr h v t):∀ {x:Value},aF Z μ hp v x→aF (fun b=>Z b∨jb μ b) ν hp t x:=by
 have hcat:∀ id,h.view id≠.dead→cat h F id=h.view id:=fun id hd=>by simp only[cat]; rw[T9 (ig hd)]
 induction fr with
 | tree v ht =>
  intro x hx
  have h1:aF Z ν hp v x:=vP hx ht
  exact h1.mono ⟨fun _ h=>.inl h,fun _ _=>rfl,fun _ _ h=>h,fC.refl _⟩
 | emp k=>intro x hx; cases hx with | emp _ a=>exact .im a 0 (fun _=>rfl)
 | sl id off len esz z es es' hH hle hlen hl _ ih =>
  intro x hx
  cases hx with
  | oZ _ _ _ a =>
   have:es'=[]:=Vn.1 hlen
   subst this
   exact .im a 0 (fun _=>rfl)
  | sl _ _ _ _ b o0 cap c e f hm hlec hb hs =>
   have hor:=hr.obj id
   rw[hcat id (by rw[hH]; simp),hH] at hor
   obtain ⟨rfl,_,h3,h4⟩:=hor b o0 esz hm
   have hx:∀ i,∃ ci:Nat→Value,∀ j,j < esz→i < len→cellAt hp b (o0+off * esz+i * esz+j)=some (ci j)∧aF Z μ hp ((es.getD (off+i) []).getD j .any) (ci j):=by
    intro i
    by_cases hi:i < len
    ·obtain ⟨ci,hci⟩:=nX (n:=esz) (p:=fun j x=>cellAt hp b (o0+off * esz+i * esz+j)=some x∧aF Z μ hp ((es.getD (off+i) []).getD j .any) x) (fun j hj=>by
      obtain ⟨x,hx,hv⟩:=h4 (off+i) j (by omega) hj
      rw[US,← VO] at hx
      exact ⟨x,hx,hv⟩)
     exact ⟨ci,fun j hj _=>hci j hj⟩
    ·exact ⟨fun _=>undef,fun j _ h=>absurd h hi⟩
   obtain ⟨cf,hcf⟩:=Classical.axiomOfChoice hx
   have hel:∀ i,i < es'.length→(es'.getD i []).length=esz:=fun i hi=>by rw[hl i (by omega)]; exact h3 _ (by omega)
   have:=aF.aL (Z:=fun b=>Z b∨jb μ b) (μ:=ν) (hp:=hp) es' b (o0+off * esz) esz cap cf (.inr ⟨id,o0,esz,hm⟩) (by omega) hel
    (fun i j hi hj=>(hcf i j hj (by omega)).1) (fun i j hi hj=>ih i j (by omega) (by rw[hel i hi]; exact hj) (hcf i j hj (by omega)).2)
   rw[hlen] at this
   exact this
 | ptr id i j z es e' hH hi hlen _ ih =>
  intro x hx
  obtain ⟨b,o0,sz,hm,rfl⟩:=nu (w:={ (default:World) with heap:=hp }) hx
  have hor:=hr.obj id
  rw[hcat id (by rw[hH]; simp),hH] at hor
  obtain ⟨rfl,hrow⟩:=rowOf (w:={ (default:World) with heap:=hp }) hor hm hi
  refine zp (w:={ (default:World) with heap:=hp }) (.inr ⟨id,o0,sz,hm⟩) (fun k hk=>?_)
  obtain ⟨y,hy,hv⟩:=hrow k (by omega)
  exact ⟨y,hy,ih k hk hv⟩
 | agg cs cs' hlen _ ih =>
  intro x hx
  cases hx with
  | agg _ aas h1 h2=>exact .agg _ _ (by omega) (fun i hi=>ih i (by omega) (h2 i (by omega)))
 | bE cs cs' hlen _ ih =>
  intro x hx
  cases hx with
  | bE _ aas h1 h2=>exact .bE _ _ (by omega) (fun i hi=>ih i (by omega) (h2 i (by omega)))
def aG (P:Program) (f:FuncId) (vs:List V) (t:V):Prop :=
 ∀ Z μ (w:World) (xs:List Value),fU Z μ w.heap vs xs→(∀ b,Z b→b < w.heap.size) →
  Calls P f xs.toArray w fun e w'=>∃ x Z',e=.returned x∧(∀ ν,aF Z' ν w'.heap t x)∧eE w w'∧(∀ b,Z b→Z' b)∧(∀ b,Z' b→Z b∨(w.heap.size≤b∧b < w'.heap.size))∧fV w.heap w'.heap (fun _=>False)
theorem CJ (F:View):cat [] F=F:=by funext id; simp[cat]
theorem aG.wh {P:Program} {f:FuncId} {vs:List V} {r t:V} {h':aJ} (ht:∀ v∈vs,Tree v) (hc:bW P f vs [] r h') (hf:Fr h' r t):aG P f vs t:=by
 intro Z μ w xs hrel hz
 have hrel0:fU Z (fun _=>none) w.heap vs xs:=⟨hrel.1,fun i hi=>vP (hrel.2 i hi) (by
  simp only[T0,T4 hi,Un]
  exact ht _ (Ud _))⟩
 have hr0:gY Z (fun _=>none) w.heap (cat [] fun _=>.dead):=by
  rw[CJ]
  exact ⟨fun _=>trivial,fun i j b o s o' s' _ h=>by simp at h,fun id b o s h=>by simp at h,hz,fun id b o s h=>by simp at h⟩
 refine (hc.2 Z _ _ w xs hrel0 hr0 (fun _ _ _=>rfl)).mono ?_
 rintro e w' ⟨x,Z',μ',rfl,hv,hh,hex,_⟩
 refine ⟨x,fun b=>Z' b∨jb μ' b,rfl,fun ν=>A8 hh hf hv,hex.same,fun b hb=>.inl (hex.mono.z b hb),?_,fun b hb _=>hex.frame b hb (by rintro ⟨_,_,_,h⟩; simp at h)⟩
 rintro b (hb | ⟨id,o,s,hb⟩)
 ·rcases hex.OJ b hb with h1 | h1
  ·exact .inl h1
  ·exact .inr ⟨h1,hh.cL b hb⟩
 ·rcases hex.Cf _ _ _ _ hb with h1 | ⟨_,h1 | ⟨_,_,_,h1⟩⟩
  ·simp at h1
  ·exact .inr ⟨h1,hh.lt _ _ _ _ hb⟩
  ·simp at h1
theorem bW.gg {P:Program} {f:FuncId} {vs:List V} {t:V} (hc:aG P f vs t) (h:aJ):bW P f vs h t h:=by
 refine ⟨Ug _,fun Z μ F w xs hrel hr hfree=>(hc Z μ w xs hrel hr.cL).mono ?_⟩
 rintro e w' ⟨x,Z',rfl,hv,hs,hz,hz',ho⟩
 have hm:gR Z Z' μ μ w.heap w'.heap:=⟨hz,fun b hb=>ho b (hr.cL b hb) (fun x=>x),fun _ _ h=>h,ho.qb⟩
 refine ⟨x,Z',μ,rfl,hv μ,⟨fun id=>(hr.obj id).mono hm rfl (fun b o s hx=>ho b (hr.lt _ _ _ _ hx) (fun x=>x)),hr.inj,fun id b o s hx=>UD (hr.lt _ _ _ _ hx) hs.size,fun b hb=>?_,fun id b o s hx hzb=>?_⟩,
  ⟨hs,hm,fun b hb _=>ho b hb (fun x=>x),fun b hb=>?_,fun _ _ _ _ h=>.inl h⟩,fun _ _=>rfl⟩
 ·rcases hz' b hb with h1 | h1
  ·exact UD (hr.cL b h1) hs.size
  ·exact h1.2
 ·rcases hz' b hzb with h1 | h1
  ·exact hr.gM _ _ _ _ hx h1
  ·have:=hr.lt _ _ _ _ hx; omega
 ·rcases hz' b hb with h1 | h1
  ·exact .inl h1
  ·exact .inr h1.1
structure St where
 L:List V
 h:aJ
 wl:List Nat
def C1 (l:List Nat) (x:Nat):Bool:=!l.contains x
def CT (a b:Rec):Bool :=
 a.wr.all (C1 b.rd) && b.wr.all (C1 a.rd) && (!a.call || b.wr.isEmpty) && (!b.call || a.wr.isEmpty) && b.wr.all fun id=>!(decide (a.lo≤id) && decide (id < a.hi))
section
variable {P:Program} {n:Nat}
theorem N3 {a b:Rec} (h:CT a b=true):oo a b:=by
 unfold CT at h
 simp only[Uh,UE,C1,V6,U8] at h
 obtain ⟨⟨⟨⟨h1,h2⟩,h3⟩,h4⟩,h5⟩:=h
 refine ⟨fun id hid hm=>?_,fun id hid hm=>?_,fun hcall=>?_,fun hcall=>?_,fun id hid hm=>?_⟩
 ·have:=h1 id hid; simp at this; exact this hm
 ·have:=h2 id hid; simp at this; exact this hm
 ·rcases h3 with h3 | h3
  ·rw[hcall] at h3; simp at h3
  ·simpa using h3
 ·rcases h4 with h4 | h4
  ·rw[hcall] at h4; simp at h4
  ·simpa using h4
 ·have:=h5 id hid
  simp at this
  omega
end
inductive SX where
 | tmp (t:Nat)
 | val (v:V)
 deriving Inhabited
def SX.of:Operand→SX
 | .tmp t=>.tmp t
 | .const v=>.val (fi v)
 | .global _=>.val .any
 | .func f=>.val (.fn f [] [])
def SX.at (T:Env):SX→V
 | .tmp t=>T t
 | .val v=>v
theorem SX.cK (T:Env) (x:Operand):(SX.of x).at T=ev T x:=by cases x <;> rfl
inductive SI where
 | bP (x:SX)
 | pick (c a b:SX)
 | box (x:SX)
 | jn (x:SX)
 | alloc (z:List V)
 | build (z:List V) (parts:List (Nat × Nat × SX))
 | cw (len sz:Nat) (z:List V) (parts:List (Nat × SX))
 | load (sz:Option Nat) (a:SX)
 | zb (sz:Option Nat) (a:SX)
 | store (sz:Nat) (a x:SX)
 | Ap (x:SX)
 | addr (off:Nat) (x:SX)
 | field (off:Nat) (sz:Option Nat) (x:SX)
 | idx (sz:Nat) (x i:SX)
 | slice (sz:Nat) (x:SX) (lo hi:Option SX)
 | make (sz bytes:Nat) (z:List V) (l c:SX)
 | nR
 | sL (f:FuncId) (first cap:List SX)
 | ext (i:Nat) (x:SX)
 | len (x:SX)
 | pH (x:SX)
 | app (sz bytes:Nat) (x y:SX)
 | arith (op:BinOp) (x y:SX)
 | sh (left:Bool) (x y:SX)
 | xk (op:BinOp) (x y:SX)
 | ix (x i:SX)
 | not (x:SX)
 | nil (eq:Bool) (k:Nat) (x y:SX)
 | beq (eq:Bool) (x y:SX)
 | mm (mx:Bool) (x y:SX)
 | conv (k:IntKind) (x:SX)
 | CR (x:SX)
 | gf (x:SX)
 | old (op:Op) (ty:TypeId)
 deriving Inhabited
def me:Option Nat→List V→Nat→Option V
 | some n,cs,off=>if off+n≤cs.length then some (.agg ((cs.drop off).take n)) else none
 | none,cs,off=>if off < cs.length then some (cs.getD off .any) else none
def wO (sz:Option Nat) (a:V) (H:View):Out:=match a with
 | .ptr id i j=>match H id with
  | .arr _ es=>if i < es.length then (me sz (es.getD i []) j).map fun v=>(v,.none,[id]) else none
  | _=>none
 | .aO e j=>(me sz e j).map fun v=>(v,.none,[])
 | _=>none
def Bh (sz:Nat) (a v:V) (H:View):Out:=match a with
 | .ptr id i j=>match H id with
  | .arr esz es =>
   if i < es.length∧v.cells.length=sz∧j+v.cells.length≤esz∧v.cells.all aX=true
   then some (.any,.eW id (.arr esz (es.set i (aa (es.getD i []) j v.cells))),[id]) else none
  | _=>none
 | _=>none
def ab (z:List V) (parts:List (Nat × Nat × V)):Option (List V):=match parts with
 | []=>some z
 | (off,size,x) :: r=>if x.cells.length=size∧off+size≤z.length∧x.cells.all aX=true then ab (aa z off x.cells) r else none
def zx (len sz:Nat) (z:List V) (parts:List (Nat × V)) (n:Nat):Out :=
 match af sz (List.replicate len z) parts with
 | some es=>some (.sl n 0 len sz,.new (.arr sz es),[])
 | none=>none
def zy (off:Nat) (x:V):Out:=match x with
 | .ptr id i j=>some (.ptr id i (j+off),.none,[])
 | .aO e j=>some (.aO e (j+off),.none,[])
 | _=>none
def Di (sz:Nat) (x i:V):Out:=match asNat i with
 | none=>none
 | some q=>match x with
  | .sl id off len esz=>if q < len∧esz=sz then some (.ptr id (off+q) 0,.none,[]) else none
  | .aL es=>if q < es.length∧(es.getD q []).length=sz then some (.aO (es.getD q []) 0,.none,[]) else none
  | _=>none
def dQ (sz:Nat) (x:V) (lo hi:Option V):Out:=match x with
 | .sl id off len esz=>match bound 0 lo,bound len hi with
  | some l,some h=>if l≤h∧h≤len∧esz=sz then some (.sl id (off+l) (h - l) esz,.none,[]) else none
  | _,_=>none
 | .aL es=>match bound 0 lo,bound es.length hi with
  | some l,some h=>if l≤h∧h≤es.length∧(es.all fun e=>e.length == sz)=true then some (.aL ((es.drop l).take (h - l)),.none,[]) else none
  | _,_=>none
 | .emp k=>match bound 0 lo,bound 0 hi with
  | some 0,some 0=>some (.emp k,.none,[])
  | _,_=>none
 | _=>none
def BC (sz bytes:Nat) (z:List V) (len cap:V) (n:Nat):Out:=match asNat len,asNat cap with
 | some l,some c =>
  if l≤c∧c < aK∧bytes * c < aK then
   (if c=0 then some (.emp 2,.none,[]) else some (.sl n 0 l sz,.new (.arr sz (List.replicate l z)),[]))
  else none
 | _,_=>none
def GP (sz bytes:Nat) (s x:V) (H:View) (n:Nat):Out:=match bX H x with
 | some (xs,rd) =>
  if xs.isEmpty then (match s with
   | .emp _ | .dP | .aL _ | .sl _ _ _ _=>some (s,.none,[])
   | _=>none)
  else if ¬ ((xs.all fun e=>e.length == sz && e.all aX)=true) then none
  else match s with
   | .emp _=>if xs.length * bytes < aK∧xs.length < aK then some (.sl n 0 xs.length sz,.new (.arr sz xs),rd) else none
   | .sl id off len esz=>match H id with
    | .arr _ es =>
     if off+len≤es.length∧esz=sz∧(len+xs.length) * bytes < aK∧len+xs.length < aK
     then some (.sl n 0 (len+xs.length) esz,.bP id (.arr esz ((es.drop off).take len ++ xs)),id :: rd) else none
    | _=>none
   | _=>none
 | none=>none
def ag (op:BinOp) (k:IntKind) (a b:Int):Option Value:=match op with
 | .add=>some (.int k (k.wrap (a+b)))
 | .sub=>some (.int k (k.wrap (a - b)))
 | .mul=>some (.int k (k.wrap (a * b)))
 | .quo=>if b=0 then none else some (.int k (k.wrap (a.tdiv b)))
 | .rem=>if b=0 then none else some (.int k (a.tmod b))
 | .eql=>some (.bool (a == b))
 | .neq=>some (.bool (a != b))
 | .lss=>some (.bool (a < b))
 | .leq=>some (.bool (a≤b))
 | .gtr=>some (.bool (a > b))
 | .geq=>some (.bool (a≥b))
 | .or=>some (.int k (k.wrap (BitVec.ofInt k.bits a ||| BitVec.ofInt k.bits b).toNat))
 | .and=>some (.int k (k.wrap (BitVec.ofInt k.bits a &&& BitVec.ofInt k.bits b).toNat))
 | .xor=>some (.int k (k.wrap (BitVec.ofInt k.bits a ^^^ BitVec.ofInt k.bits b).toNat))
 | .andNot=>some (.int k (k.wrap (BitVec.ofInt k.bits a &&& ~~~(BitVec.ofInt k.bits b)).toNat))
 | _=>none
def xW (op:BinOp) (x y:V):Out:=match x,y with
 | .val (.int k a),.val (.int k' b)=>if k=k' then (ag op k a b).map fun v=>(.val v,.none,[]) else none
 | _,_=>none
def Du (left:Bool) (k:IntKind) (a b:Int):Int:=if left then k.wrap (a * 2 ^ (min b.toNat k.bits)) else a.fdiv (2 ^ (min b.toNat k.bits))
def MK (left:Bool) (x y:V):Out:=match x,y with
 | .val (.int k a),.val (.int _ b)=>if b < 0 then none else some (.val (.int k (Du left k a b)),.none,[])
 | _,_=>none
def Pl:BinOp→Option Bool
 | .shl=>some true
 | .shr=>some false
 | _=>none
def iP (a b:ByteArray):Bool:=a.data.toList == b.data.toList
def AK (op:BinOp) (x y:V):Out:=match x,y with
 | .val (.string a),.val (.string b)=>match op with
  | .eql=>some (.val (.bool (iP a b)),.none,[])
  | .neq=>some (.val (.bool (!iP a b)),.none,[])
  | _=>none
 | _,_=>none
def B8 (x i:V):Out:=match x,asNat i with
 | .val (.string s),some q=>match s.data.toList[q]? with
  | some b=>some (.val (.int .u8 b.toNat),.none,[])
  | none=>none
 | _,_=>none
def ai:Option Bool→Option Bool→Option Bool
 | some true,some b=>some b
 | some b,some true=>some b
 | _,_=>none
theorem I4 {P:Program} {t:TypeId} {k:Nat} (h:jm P t=some k) (x y:V):C7 P t x y=ai (ae k x) (ae k y):=by
 simp only[C7,h]
 unfold ai
 split <;> simp_all
def oper (op:Op) (ty:TypeId):Oper:=⟨none,op,ty,"",#[],none⟩
theorem PX (P:Program) (o:Oper) (T:Env) (H:View) (n:Nat):cm P (oper o.op o.type) T H n=cm P o T H n:=by
 cases o; rfl
def sI (P:Program) (s:SI) (T:Env) (H:View) (n:Nat):Out:=match s with
 | .bP x=>some (x.at T,.none,[])
 | .pick c a b=>match c.at T with
  | .val (.bool t)=>some (if t then a.at T else b.at T,.none,[])
  | _=>none
 | .box x=>lG (x.at T).cells n
 | .jn x=>if (x.at T).cells.all aX=true then some (.aO (x.at T).cells 0,.none,[]) else none
 | .alloc z=>lG z n
 | .build z parts=>(ab z (parts.map fun (a,b,x)=>(a,b,x.at T))).map fun cs=>(.agg cs,.none,[])
 | .cw len sz z parts=>zx len sz z (parts.map fun (i,x)=>(i,x.at T)) n
 | .load sz a=>wO sz (a.at T) H
 | .zb sz a=>match a.at T with
  | .aO e j=>(me sz e j).map fun v=>(v,.none,[])
  | _=>none
 | .store sz a x=>Bh sz (a.at T) (x.at T) H
 | .Ap x=>match x.at T with
  | .ptr id i j=>some (.ptr id i j,.none,[])
  | .aO e j=>some (.aO e j,.none,[])
  | .fn f a b=>some (.fn f a b,.none,[])
  | _=>none
 | .addr off x=>zy off (x.at T)
 | .field off sz x=>match x.at T with
  | .agg cs=>(me sz cs off).map fun v=>(v,.none,[])
  | _=>none
 | .idx sz x i=>Di sz (x.at T) (i.at T)
 | .slice sz x lo hi=>dQ sz (x.at T) (lo.map (SX.at T)) (hi.map (SX.at T))
 | .make sz bytes z l c=>BC sz bytes z (l.at T) (c.at T) n
 | .nR=>some (.mp n,.new (.map [] 0),[])
 | .sL f first cap=>some (.fn f (first.map (SX.at T)) (cap.map (SX.at T)),.none,[])
 | .ext i x=>match x.at T with
  | .bE vs=>if i < vs.length then some (vs.getD i .any,.none,[]) else none
  | _=>none
 | .len x=>(cG (x.at T)).map fun n=>(ak n,.none,[])
 | .pH x=>match x.at T with
  | .val (.string s)=>some (ak s.size,.none,[])
  | _=>none
 | .app sz bytes x y=>GP sz bytes (x.at T) (y.at T) H n
 | .arith op x y=>xW op (x.at T) (y.at T)
 | .sh l x y=>MK l (x.at T) (y.at T)
 | .xk op x y=>AK op (x.at T) (y.at T)
 | .ix x i=>B8 (x.at T) (i.at T)
 | .not x=>match x.at T with
  | .val (.bool t)=>some (.val (.bool (!t)),.none,[])
  | _=>none
 | .nil eq k x y=>match ai (ae k (x.at T)) (ae k (y.at T)) with
  | some b=>some (.val (.bool (if eq then b else !b)),.none,[])
  | none=>none
 | .beq eq x y=>match x.at T,y.at T with
  | .val (.bool a),.val (.bool b)=>some (.val (.bool (if eq then a == b else a != b)),.none,[])
  | _,_=>none
 | .mm mx x y=>match x.at T,y.at T with
  | .val (.int k a),.val (.int _ b)=>some (.val (.int k (if mx then (if b > a then b else a) else (if b < a then b else a))),.none,[])
  | _,_=>none
 | .conv k x=>match x.at T with
  | .val (.int _ a)=>some (.val (.int k (k.wrap a)),.none,[])
  | _=>none
 | .CR x=>match x.at T with
  | .aL es=>(kH es).map fun l=>(.val (.string ⟨l.toArray⟩),.none,[])
  | _=>none
 | .gf x=>match x.at T with
  | .val (.string s)=>some (.aL (gC s),.none,[])
  | _=>none
 | .old op ty=>cm P (oper op ty) T H n
def Bp (P:Program) (t:TypeId):Option (Option Nat):=match P.info? t,rJ P t with
 | some i,some true=>some (some i.size)
 | some _,some false=>some none
 | _,_=>none
theorem wE {P:Program} {t:TypeId} {k:Option Nat} (h:Bp P t=some k) (cs:List V) (j:Nat):pT P t cs j=me k cs j:=by
 unfold Bp at h
 split at h
 ·rename_i i h1 h2
  simp at h; subst h; simp[pT,h1,h2,me]
 ·rename_i i h1 h2
  simp at h; subst h; simp[pT,h1,h2,me]
 ·simp at h
def te (P:Program) (t:TypeId):Option (Nat × Nat × List V):=match cW P t with
 | some e=>match P.info? e,zeroCells P e with
  | some ti,some z=>if z.length=ti.size∧z.all aX=true∧ti.size≠0 then some (ti.size,ti.bytes,z) else none
  | _,_=>none
 | none=>none
theorem pB {P:Program} {t:TypeId} {sz by':Nat} {z:List V} (h:te P t=some (sz,by',z)) :
  ∃ e ti,cW P t=some e∧P.underlying t=some (.slice e)∧P.info? e=some ti∧zeroCells P e=some z∧z.length=ti.size∧z.all aX=true∧ti.size≠0∧sz=ti.size∧by'=ti.bytes:=by
 unfold te at h
 split at h
 ·rename_i e he
  split at h
  ·rename_i ti z' h1 h2
   split at h
   ·rename_i hc
    simp at h
    obtain ⟨rfl,rfl,rfl⟩:=h
    have hu:P.underlying t=some (.slice e):=by
     unfold cW at he; split at he
     ·rename_i h3; simp at he; subst he; exact h3
     ·simp at he
    exact ⟨e,ti,he,hu,h1,h2,hc.1,hc.2.1,hc.2.2,rfl,rfl⟩
   ·simp at h
  ·simp at h
 ·simp at h
def vh (P:Program) (t:TypeId):List (Nat × Operand)→Option (List (Nat × Nat × SX))
 | []=>some []
 | (i,x) :: r=>match placeOf P t i,vh P t r with
  | some (a,b),some l=>some ((a,b,SX.of x) :: l)
  | _,_=>none
def comp (P:Program) (o:Oper):SI:=match o.op with
 | .move x | .assign x=>.bP (SX.of x)
 | .pick c a b=>.pick (SX.of c) (SX.of a) (SX.of b)
 | .alloc e=>match zeroCells P e with
  | some z=>.alloc z
  | none=>.old o.op o.type
 | .box _ x=>.box (SX.of x)
 | .load t a=>match Bp P t with
  | some k=>.load k (SX.of a)
  | none=>.old o.op o.type
 | .store t a v=>match P.info? t with
  | some _=>.store (P.cellsOf t) (SX.of a) (SX.of v)
  | none=>.old o.op o.type
 | .nilCheck x=>.Ap (SX.of x)
 | .fieldAddr t x f=>match po P t f with
  | some (off,s,_)=>if s=0 then .old o.op o.type else .addr off (SX.of x)
  | none=>.old o.op o.type
 | .field t x f=>match po P t f with
  | some (off,_,ft)=>match Bp P ft with
   | some k=>.field off k (SX.of x)
   | none=>.old o.op o.type
  | none=>.old o.op o.type
 | .indexAddr t x i=>match te P t with
  | some (sz,_,_)=>.idx sz (SX.of x) (SX.of i)
  | none=>.old o.op o.type
 | .slice t x lo hi none=>match te P t with
  | some (sz,_,_)=>.slice sz (SX.of x) (lo.map SX.of) (hi.map SX.of)
  | none=>.old o.op o.type
 | .makeSlice t l c=>match te P t with
  | some (sz,b,z)=>.make sz b z (SX.of l) (SX.of c)
  | none=>.old o.op o.type
 | .makeMap _ none=>.nR
 | .makeFunc (.func f) first cap=>.sL f (first.toList.map SX.of) (cap.toList.map SX.of)
 | .extract t i=>.ext i (SX.of t)
 | .build t parts=>match P.underlying t,zeroV P t with
  | some (.struct _),some (.agg z)=>if lL P t=true then
    (match vh P t parts.toList with
    | some ps=>.build z ps
    | none=>.old o.op o.type) else .old o.op o.type
  | _,_=>.old o.op o.type
 | .buildSlice t len parts=>match te P t with
  | some (sz,_,z)=>if len=0∧parts.toList.isEmpty=true then .bP (.val (.emp 2)) else if len * sz≤2 ^ 24∧len≠0 then .cw len sz z (parts.toList.map fun (i,x)=>(i,SX.of x)) else .old o.op o.type
  | none=>.old o.op o.type
 | .call { callee:=.builtin b,args,argTypes }=>match b,args.toList with
  | .len,[x]=>if 1≤argTypes.size then (match P.underlying (argTypes.getD 0 0) with
   | some (.slice _)=>.len (SX.of x)
   | some .string=>.pH (SX.of x)
   | _=>.old o.op o.type) else .old o.op o.type
  | .append,[s,x]=>if 2≤argTypes.size∧pR P (argTypes.getD 1 0)=true then (match te P (argTypes.getD 0 0) with
   | some (sz,b,_)=>.app sz b (SX.of s) (SX.of x)
   | none=>.old o.op o.type) else .old o.op o.type
  | .min,[x,y]=>.mm false (SX.of x) (SX.of y)
  | .max,[x,y]=>.mm true (SX.of x) (SX.of y)
  | _,_=>.old o.op o.type
 | .convert s d x=>match P.underlying s,P.underlying d with
  | some (.int _),some (.int k)=>.conv k (SX.of x)
  | _,_=>.old o.op o.type
 | .binOp op t x y _=>match jm P t with
  | some k=>match op with
   | .eql=>.nil true k (SX.of x) (SX.of y)
   | .neq=>.nil false k (SX.of x) (SX.of y)
   | _=>.old o.op o.type
  | none=>match P.underlying t with
   | some (.int _)=>match Pl op with
    | some l=>.sh l (SX.of x) (SX.of y)
    | none=>.arith op (SX.of x) (SX.of y)
   | some .string=>.xk op (SX.of x) (SX.of y)
   | some .bool=>match op with
    | .eql=>.beq true (SX.of x) (SX.of y)
    | .neq=>.beq false (SX.of x) (SX.of y)
    | _=>.old o.op o.type
   | _=>.old o.op o.type
 | .unOp .not _ x=>.not (SX.of x)
 | .index t x i=>match P.underlying t with
  | some .string=>.ix (SX.of x) (SX.of i)
  | _=>.old o.op o.type
 | _=>.old o.op o.type
theorem DT {P:Program} {t:TypeId} {T:Env} : ∀ (parts:List (Nat × Operand)) (ps:List (Nat × Nat × SX)) (z:List V),vh P t parts=some ps →
  vz (placeOf P t) z (parts.map fun (i,x)=>(i,ev T x))=ab z (ps.map fun (a,b,x)=>(a,b,x.at T))
 | [],ps,z,h=>by simp[vh] at h; subst h; rfl
 | (i,x) :: r,ps,z,h=>by
  simp only[vh] at h
  split at h
  ·rename_i a b l h1 h2
   simp at h; subst h
   simp only[Uz,vz,h1,ab,SX.cK]
   split
   ·exact DT r l _ h2
   ·rfl
  ·simp at h
theorem Iq {P:Program} {o:Oper} {T:Env} {op:BinOp} {t u:TypeId} {x y:Operand} {k:IntKind} {a b:Int} {r:Value} (ho:o.op=.binOp op t x y u) (hx:ev T x=.val (.int k a)) (hy:ev T y=.val (.int k b)) (h:ag op k a b=some r) :
  dL P o T=some (.val r,.none,[]):=by
 unfold dL
 simp only[ho,Op.operands]
 simp only[hx,hy,dh]
 cases op <;> simp only[ag,T7,reduceCtorEq] at h
 all_goals first
  | (
   split at h
   ·simp at h
   ·rename_i hb
    simp at h; subst h
    simp[execOp,ho,hx,hy,dh,eqGuard,binOp,Op.intDiv,hb,plain]
    try rfl)
  | (subst h; simp[execOp,ho,hx,hy,dh,eqGuard,binOp,Op.intArith,Op.intCmp,Op.intBits,plain]; try rfl)
theorem Pa {P:Program} {o:Oper} {T:Env} {op:BinOp} {t u:TypeId} {x y:Operand} {l:Bool} {v:V} {eff:bC} {rd:List Nat} (ho:o.op=.binOp op t x y u) (hs:Pl op=some l) (h:MK l (ev T x) (ev T y)=some (v,eff,rd)) :
  dL P o T=some (v,eff,rd):=by
 unfold MK at h
 split at h
 ·rename_i k a k' b hx hy
  split at h
  ·simp at h
  ·rename_i hb
   simp only[T7,Ua] at h
   obtain ⟨rfl,rfl,rfl⟩:=h
   unfold dL
   simp only[ho,Op.operands]
   simp only[hx,hy,dh]
   cases op <;> simp only[Pl,T7,reduceCtorEq] at hs
   all_goals
    subst hs
    simp[execOp,ho,hx,hy,dh,eqGuard,binOp,Op.shift,hb,plain,Du]
    try rfl
 ·simp at h
theorem N6 {P:Program} {o:Oper} {T:Env} {op:BinOp} {t u:TypeId} {x y:Operand} {v:V} {eff:bC} {rd:List Nat} (ho:o.op=.binOp op t x y u) (h:AK op (ev T x) (ev T y)=some (v,eff,rd)) :
  dL P o T=some (v,eff,rd):=by
 unfold AK at h
 split at h
 ·rename_i a b hx hy
  unfold dL
  simp only[ho,Op.operands,hx,hy,dh]
  have he:(a.toList == b.toList)=iP a b:=by simp[iP,ByteArray.toList_eq]
  split at h
  ·simp at h; obtain ⟨rfl,rfl,rfl⟩:=h
   simp[execOp,ho,hx,hy,dh,eqGuard,binOp,Op.stringOp,plain,← he]; rfl
  ·simp at h; obtain ⟨rfl,rfl,rfl⟩:=h
   simp[execOp,ho,hx,hy,dh,eqGuard,binOp,Op.stringOp,plain,← he]; rfl
  ·simp at h
 ·simp at h
theorem Ko {P:Program} {o:Oper} {T:Env} {t:TypeId} {x i:Operand} {v:V} {eff:bC} {rd:List Nat} (ho:o.op=.index t x i) (hu:P.underlying t=some .string) (h:B8 (ev T x) (ev T i)=some (v,eff,rd)) :
  dL P o T=some (v,eff,rd):=by
 unfold B8 at h
 split at h
 ·rename_i s q hx hq
  split at h
  ·rename_i b hb
   simp at h; obtain ⟨rfl,rfl,rfl⟩:=h
   unfold asNat at hq
   split at hq
   ·rename_i k z hz
    split at hq
    ·rename_i h0
     simp at hq; subst hq
     have hs:s[z.toNat]?=some b:=by
      obtain ⟨hlt,rfl⟩:=Uj.1 hb
      have hlt':z.toNat < s.size:=by rw[bsize] at hlt; exact hlt
      rw[getElem?_pos s z.toNat hlt']
      rfl
     unfold dL
     simp only[ho,Op.operands,hx,hz,dh]
     simp[execOp,ho,hx,hz,dh,Instr.index,asIntOf,underlying,program,hu,h0,hs,plain]
     simp[bG,hu,h0,hs,plain,bind,Sem.bind,pure]
     rfl
    ·simp at hq
   ·simp at hq
  ·simp at h
 ·simp at h
theorem ME {P:Program} {o:Oper} {T:Env} {t:TypeId} {x:Operand} {b:Bool} (ho:o.op=.unOp .not t x) (hx:ev T x=.val (.bool b)) :
  dL P o T=some (.val (.bool (!b)),.none,[]):=by
 unfold dL
 simp only[ho,Op.operands,hx,dh]
 simp[execOp,ho,hx,dh,Op.unary,plain]
 rfl
theorem iZ {α β:Type} (P:Program) (s:Sem α) (f:α→β):bG P (Functor.map f s)=(bG P s).map f:=by
 show bG P (s >>= fun a=>pure (f a))=_
 rw[bw]
 cases bG P s <;> rfl
theorem dZ {P:Program} {t:TypeId} {d:TypeDesc} (h:P.underlying t=some d):bG P (underlying t)=some d:=by
 simp only[underlying,program,bw]
 simp[bG,h]
 rfl
theorem xj {P:Program} {t:TypeId} {a b:Bool} (hu:P.underlying t=some .bool):bG P (Op.equal t (.bool a) (.bool b))=some (a == b):=by
 rw[kO]
 generalize 9999=d
 simp only[Op.equalIn,bw,dZ hu,UK]
 rfl
theorem DK {P:Program} {o:Oper} {T:Env} {op:BinOp} {t u:TypeId} {x y:Operand} {a b:Bool} {r:Bool} (ho:o.op=.binOp op t x y u) (hu:P.underlying t=some .bool) (hx:ev T x=.val (.bool a)) (hy:ev T y=.val (.bool b))
  (hr:(op=.eql∧r=(a == b))∨(op=.neq∧r=(a != b))) :
  dL P o T=some (.val (.bool r),.none,[]):=by
 unfold dL
 simp only[ho,Op.operands,hx,hy,dh]
 rcases hr with ⟨rfl,rfl⟩ | ⟨rfl,rfl⟩
 ·simp[execOp,ho,hx,hy,dh,eqGuard,binOp,iZ,bw,xj hu,plain]
  try simp[bG,pure,plain]
 ·simp[execOp,ho,hx,hy,dh,eqGuard,binOp,iZ,bw,xj hu,plain]
  try simp[bG,pure,plain,bne]
theorem KS {P:Program} {o:Oper} {T:Env} {s d:TypeId} {x:Operand} {k0 k k':IntKind} {a:Int} (ho:o.op=.convert s d x) (hs:P.underlying s=some (.int k0)) (hd:P.underlying d=some (.int k)) (hx:ev T x=.val (.int k' a)) :
  dL P o T=some (.val (.int k (k.wrap a)),.none,[]):=by
 unfold dL
 simp only[ho,Op.operands,hx,dh]
 have:bG P (convert s d (.int k' a))=some (.int k (k.wrap a)):=by
  simp only[convert,bw,dZ hs,dZ hd,UK]
  rfl
 simp[execOp,ho,hx,dh,iZ,this,plain]
theorem GI {P:Program} {o:Oper} {T:Env} {bi:Builtin} {x y:Operand} {k k':IntKind} {a b:Int} {args:Array Operand} {ats:Array TypeId} {r:Int} (ho:o.op=.call { callee:=.builtin bi,args:=args,argTypes:=ats }) (ha:args.toList=[x,y])
  (hx:ev T x=.val (.int k a)) (hy:ev T y=.val (.int k' b)) (hr:(bi=.max∧r=if b > a then b else a)∨(bi=.min∧r=if b < a then b else a)) :
  dL P o T=some (.val (.int k r),.none,[]):=by
 obtain rfl:args = #[x,y]:=by rw[← Array.toArray_toList (xs:=args),ha]
 unfold dL
 rcases hr with ⟨rfl,rfl⟩ | ⟨rfl,rfl⟩
 ·have:bG P (Builtin.max_ ats o.type #[.int k a,.int k' b])=some (.int k (if b > a then b else a)):=rfl
  simp[ho,Op.operands,Call.operands,hx,hy,dh,execOp,resolve,invoke,builtin,iZ,this,plain]
 ·have:bG P (Builtin.min_ ats o.type #[.int k a,.int k' b])=some (.int k (if b < a then b else a)):=rfl
  simp[ho,Op.operands,Call.operands,hx,hy,dh,execOp,resolve,invoke,builtin,iZ,this,plain]
theorem B3 (l:List Operand) (T:Env):(l.map SX.of).map (SX.at T)=l.map (ev T):=by
 rw[List.map_map]; congr 1; funext x; exact SX.cK T x
theorem QS (l:Option Operand) (T:Env):(l.map SX.of).map (SX.at T)=l.map (ev T):=by
 cases l <;> simp[SX.cK]
theorem QA (l:List (Nat × Operand)) (T:Env):(l.map fun (i,x)=>(i,SX.of x)).map (fun (i,x)=>(i,SX.at T x))=l.map fun (i,x)=>(i,ev T x):=by
 rw[List.map_map]; congr 1; funext x; simp[SX.cK]
theorem Js {P:Program} {o:Oper} {T:Env} {H:View} {n:Nat} {v:V} {eff:bC} {rd:List Nat} (h:sI P (comp P o) T H n=some (v,eff,rd)) :
  cm P o T H n=some (v,eff,rd):=by
 have old:∀ {s:SI},s=.old o.op o.type→sI P s T H n=some (v,eff,rd)→cm P o T H n=some (v,eff,rd):=fun e h=>by rw[e] at h; simp only[sI,PX] at h; exact h
 unfold comp at h
 split at h
 ·rename_i x ho; simp only[sI,SX.cK] at h; simp only[cm,ho]; exact h
 ·rename_i x ho; simp only[sI,SX.cK] at h; simp only[cm,ho]; exact h
 ·rename_i c a b ho; simp only[sI,SX.cK] at h; simp only[cm,ho]; exact h
 ·rename_i e ho
  split at h
  ·rename_i z hz; simp only[sI] at h; simp only[cm,ho,hz]; exact h
  ·exact old rfl h
 ·rename_i t x ho; simp only[sI,SX.cK] at h; simp only[cm,ho]; exact h
 ·rename_i t a ho
  split at h
  ·rename_i k hk
   simp only[sI,SX.cK,wO] at h
   simp only[cm,ho,mg,wE hk]
   exact h
  ·exact old rfl h
 ·rename_i t a x ho
  split at h
  ·rename_i ti hti
   simp only[sI,SX.cK,Bh] at h
   simp only[cm,ho,qq,hti,Option.isSome_some,and_true]
   exact h
  ·exact old rfl h
 ·rename_i x ho; simp only[sI,SX.cK] at h; simp only[cm,ho]; exact h
 ·rename_i t x f ho
  split at h
  ·rename_i off s ft hpl
   split at h
   ·exact old rfl h
   ·rename_i hs
    simp only[sI,SX.cK,zy] at h
    simp only[cm,ho,kV,hpl,hs,if_false]
    exact h
  ·exact old rfl h
 ·rename_i t x f ho
  split at h
  ·rename_i off s ft hpl
   split at h
   ·rename_i k hk
    simp only[sI,SX.cK] at h
    simp only[cm,ho,vp,hpl]
    split at h
    ·rename_i cs hcs; simp only[hcs,wE hk]; exact h
    ·simp at h
   ·exact old rfl h
  ·exact old rfl h
 ·rename_i t x i ho
  split at h
  ·rename_i sz b z hk
   obtain ⟨e,ti,h1,h2,h3,h4,h5,h6,h7,rfl,rfl⟩:=pB hk
   simp only[sI,SX.cK,Di] at h
   simp only[cm,ho,kT,h2,h3]
   exact h
  ·exact old rfl h
 ·rename_i t x lo hi ho
  split at h
  ·rename_i sz b z hk
   obtain ⟨e,ti,h1,h2,h3,h4,h5,h6,h7,rfl,rfl⟩:=pB hk
   simp only[sI,SX.cK,QS] at h
   simp only[cm,ho]
   have hsl:rY P t (ev T x) (lo.map (ev T)) (hi.map (ev T)) none=some (v,eff,rd):=by
    simp only[rY,h1,h3]
    unfold dQ at h
    split at h
    ·rename_i h9; rw[h9]; exact h
    ·rename_i h9; rw[h9]; exact h
    ·rename_i h9; rw[h9]; exact h
    ·simp at h
   unfold dQ at h
   split at h
   ·rename_i h9; rw[h9] at hsl ⊢; exact hsl
   ·rename_i h9; rw[h9] at hsl ⊢; exact hsl
   ·rename_i h9; rw[h9] at hsl ⊢; exact hsl
   ·simp at h
  ·exact old rfl h
 ·rename_i t l c ho
  split at h
  ·rename_i sz b z hk
   obtain ⟨e,ti,h1,h2,h3,h4,h5,h6,h7,rfl,rfl⟩:=pB hk
   simp only[sI,SX.cK,BC] at h
   simp only[cm,ho,kW,h1,h3]
   split at h
   ·rename_i l' c' hl hc
    simp only[hl,hc,h7,if_false,h4,h5,h6,and_self,if_true]
    exact h
   ·simp at h
  ·exact old rfl h
 ·rename_i t ho; simp only[sI] at h; simp only[cm,ho]; exact h
 ·rename_i f first cap ho; simp only[sI,B3] at h; simp only[cm,ho]; exact h
 ·rename_i t i ho; simp only[sI,SX.cK] at h; simp only[cm,ho]; exact h
 ·rename_i t parts ho
  split at h
  ·rename_i fs z h1 h2
   split at h
   ·rename_i h3
    split at h
    ·rename_i ps h4
     simp only[sI] at h
     simp only[cm,ho,uG,h1,h2,h3,if_true]
     have:=DT (T:=T) parts.toList ps z h4
     rw[this]
     exact h
    ·exact old rfl h
   ·exact old rfl h
  ·exact old rfl h
 ·rename_i t len parts ho
  split at h
  ·rename_i sz b z hk
   obtain ⟨e,ti,h1,h2,h3,h4,h5,h6,h7,rfl,rfl⟩:=pB hk
   split at h
   ·rename_i hc
    obtain ⟨rfl,hc⟩:=hc
    simp only[sI,SX.at] at h
    simp only[cm,ho,ic,h1,h3]
    rw[List.isEmpty_iff] at hc
    rw[T6 (by omega),T9 trivial,hc]
    exact h
   split at h
   ·rename_i hc
    simp only[sI,QA,zx] at h
    simp only[cm,ho,ic,h1,h3]
    rw[T6 (by omega),T6 hc.2,T6 h7]
    simp only[h4,h5,h6,and_self,if_true]
    exact h
   ·exact old rfl h
  ·exact old rfl h
 ·rename_i b args ats ho
  split at h
  ·rename_i x hargs
   split at h
   ·rename_i hsz
    simp only[cm,ho,hargs,hsz,if_true,tV]
    split at h
    ·rename_i e hu
     simp only[sI,SX.cK] at h
     simp only[hu]; exact h
    ·rename_i hu
     simp only[sI,SX.cK] at h
     simp only[hu]
     exact h
    ·have:=old rfl h
     simpa only [cm,ho,hargs,hsz,if_true,tV] using this
   ·exact old rfl h
  ·rename_i s x hargs
   split at h
   ·rename_i hsz
    split at h
    ·rename_i sz b z hk
     obtain ⟨e,ti,h1,h2,h3,h4,h5,h6,h7,rfl,rfl⟩:=pB hk
     simp only[sI,SX.cK] at h
     simp only[cm,ho,hargs]
     rw[T9 hsz]
     unfold GP at h
     split at h
     ·rename_i xs rd' hel
      simp only[mN,h1,hel,h3]
      have hz:(zeroCells P e).map List.length=some ti.size:=by rw[h4]; simp[h5]
      split at h
      ·rename_i hemp; rw[T9 hemp]; exact h
      ·rename_i hemp
       rw[T6 hemp]
       split at h
       ·simp at h
       ·rename_i hall
        rw[T6 (by
         rintro (h9 | h9 | h9)
         ·exact h7 h9
         ·exact h9 hz
         ·exact hall h9)]
        exact h
     ·simp at h
    ·exact old rfl h
   ·exact old rfl h
  ·rename_i x y hargs
   simp only[sI,SX.cK] at h
   simp only[cm,ho]
   split at h
   ·rename_i k a k' b hx hy
    have:=GI (P:=P) (T:=T) ho hargs hx hy (.inr ⟨rfl,rfl⟩)
    rw[this]; exact h
   ·simp at h
  ·rename_i x y hargs
   simp only[sI,SX.cK] at h
   simp only[cm,ho]
   split at h
   ·rename_i k a k' b hx hy
    have:=GI (P:=P) (T:=T) ho hargs hx hy (.inl ⟨rfl,rfl⟩)
    rw[this]; exact h
   ·simp at h
  ·exact old rfl h
 ·rename_i s d x ho
  split at h
  ·rename_i k0 k hs hd
   simp only[sI,SX.cK] at h
   simp only[cm,ho]
   split at h
   ·rename_i k' a hx
    have hb:¬ (kz P s d=true):=by simp[kz,hs,hd]
    rw[T6 hb,KS ho hs hd hx]; exact h
   ·simp at h
  ·exact old rfl h
 ·rename_i op t x y u ho
  split at h
  ·rename_i k hk
   have hsome:(jm P t).isSome=true:=by rw[hk]; rfl
   split at h
   ·simp only[sI,SX.cK] at h
    simp only[cm,ho]
    rw[T9 hsome,I4 hk]
    split at h
    ·rename_i b hb; rw[hb]; simpa using h
    ·simp at h
   ·simp only[sI,SX.cK] at h
    simp only[cm,ho]
    rw[T9 hsome,I4 hk]
    split at h
    ·rename_i b hb; rw[hb]; simpa using h
    ·simp at h
   ·exact old rfl h
  ·rename_i hk
   have hnone:¬ ((jm P t).isSome=true):=by rw[hk]; simp
   split at h
   ·split at h
    ·rename_i l hs
     simp only[sI,SX.cK] at h
     simp only[cm,ho]
     rw[T6 hnone]
     exact Pa ho hs h
    ·simp only[sI,SX.cK,xW] at h
     simp only[cm,ho]
     split at h
     ·rename_i k a k' b hx hy
      split at h
      ·rename_i hkk
       subst hkk
       simp only[Uf] at h
       obtain ⟨r,hr,h⟩:=h
       rw[T6 hnone,Iq ho hx hy hr]; exact Vl some h
      ·simp at h
     ·simp at h
   ·simp only[sI,SX.cK] at h
    simp only[cm,ho]
    rw[T6 hnone]
    exact N6 ho h
   ·rename_i hu
    split at h
    ·simp only[sI,SX.cK] at h
     simp only[cm,ho]
     split at h
     ·rename_i a b hx hy
      rw[T6 hnone,DK ho hu hx hy (.inl ⟨rfl,rfl⟩)]; simpa using h
     ·simp at h
    ·simp only[sI,SX.cK] at h
     simp only[cm,ho]
     split at h
     ·rename_i a b hx hy
      rw[T6 hnone,DK ho hu hx hy (.inr ⟨rfl,rfl⟩)]; simpa using h
     ·simp at h
    ·exact old rfl h
   ·exact old rfl h
 ·rename_i t x ho
  simp only[sI,SX.cK] at h
  simp only[cm,ho]
  split at h
  ·rename_i b hb; rw[ME ho hb]; exact h
  ·simp at h
 ·rename_i t x i ho
  split at h
  ·rename_i hu
   simp only[sI,SX.cK] at h
   simp only[cm,ho]
   exact Ko ho hu h
  ·exact old rfl h
 ·exact old rfl h
theorem Py {P:Program} {sz:Option Nat} {a:SX} {T:Env} {H:View} {n:Nat} {v:V} {eff:bC} {rd:List Nat} (h:sI P (.zb sz a) T H n=some (v,eff,rd)):sI P (.load sz a) T H n=some (v,eff,rd):=by
 simp only[sI] at h
 simp only[sI,wO]
 split at h
 ·rename_i e j ha; rw[ha]; exact h
 ·simp at h
def toStr (P:Program) (s d:TypeId):Bool:=match P.underlying s,P.underlying d with
 | some (.slice e),some .string=>(match P.underlying e with | some (.int .u8)=>true | _=>false)
 | _,_=>false
def uy (P:Program) (s d:TypeId):Bool:=match P.underlying s,P.underlying d with
 | some .string,some (.slice e)=>(match P.underlying e with | some (.int .u8)=>true | _=>false)
 | _,_=>false
theorem Mq {P:Program} {s d:TypeId} (h:toStr P s d=true):∃ e,P.underlying s=some (.slice e)∧P.underlying d=some .string∧P.underlying e=some (.int .u8):=by
 unfold toStr at h
 split at h
 ·rename_i e h1 h2
  split at h
  ·rename_i h3; exact ⟨e,h1,h2,h3⟩
  ·simp at h
 ·simp at h
theorem zH {P:Program} {s d:TypeId} (h:uy P s d=true):∃ e,P.underlying s=some .string∧P.underlying d=some (.slice e)∧P.underlying e=some (.int .u8):=by
 unfold uy at h
 split at h
 ·rename_i e h1 h2
  split at h
  ·rename_i h3; exact ⟨e,h1,h2,h3⟩
  ·simp at h
 ·simp at h
theorem Ra {P:Program} {s d ty:TypeId} {x:Operand} {T:Env} {H:View} {n:Nat} {v:V} {eff:bC} {rd:List Nat} (hc:toStr P s d=true) (h:sI P (.CR (SX.of x)) T H n=some (v,eff,rd)):sI P (.old (.convert s d x) ty) T H n=some (v,eff,rd):=by
 obtain ⟨e,h1,h2,h3⟩:=Mq hc
 simp only[sI,SX.cK] at h
 simp only[sI,cm,oper,kz,h1,if_true,mH,h2,h3]
 split at h
 ·rename_i es hx
  rw[hx]
  simp only[bX,cG]
  exact h
 ·simp at h
inductive SB where
 | op (s:SI)
 | call (f:SX) (args:List SX)
 | zm (f:SX) (args:List SX)
 deriving Inhabited
structure SO where
 dst:Option Nat
 guard:Option (Nat × Bool)
 b:SB
 deriving Inhabited
structure SG where
 guard:Option (Nat × Bool)
 ops:List (Option Nat × SB)
 deriving Inhabited
inductive SC where
 | skip
 | region (quiet:Bool) (gs:List SG)
 | rO (aps:List (Nat × Nat)) (gs:List SG)
 | CK (tol:Nat × Nat × Nat) (aps:List (Nat × Nat)) (gs:List SG)
 | seq (x y:SC)
 | cond (c:SX) (x y:SC)
 | block (id:Nat) (c:SC)
 | loop (c:SC)
 | exit (id:Nat)
 | ret
 | scope (l:Nat) (c r:SC)
 | label (l:Nat)
 | goto (l:Nat)
 deriving Inhabited
def nQ:SC→Nat→Option SC
 | .seq a b,l=>match nQ a l with
  | some r=>some (.seq r b)
  | none=>nQ b l
 | .label l',l=>if l' == l then some .skip else none
 | _,_=>none
def Hp:SC→Option Nat
 | .seq a b=>match Hp a with
  | some l=>some l
  | none=>Hp b
 | .label l=>some l
 | _=>none
def zh (l:Nat):Exit→Prop→Prop→Prop
 | .goto l',a,_=>l'=l∧a
 | _,_,b=>b
inductive SR where
 | tmp (t:Nat)
 | cell (t:Nat) (sz:Option Nat)
 deriving Inhabited
def zC (P:Program) (op:Op):Nat:=match op with
 | .convert s d _=>if kz P s d=true then 2 else 0
 | .call { callee:=.builtin b,.. }=>match b with
  | .min | .max | .complex | .real | .imag=>0
  | .len=>1
  | _=>2
 | .lookup ..=>1
 | .binOp .. | .unOp .. | .index ..=>0
 | _=>2
def tA (P:Program):SI→Nat
 | .bP _ | .pick .. | .jn _ | .Ap _ | .addr .. | .field .. | .idx .. | .slice .. | .sL .. | .ext .. | .len _ | .pH _ | .arith .. | .sh .. | .xk .. | .ix .. | .not _ | .nil .. | .build .. | .zb .. | .beq .. | .mm .. | .conv .. | .CR _ | .gf _=>0
 | .load .. | .box _ | .alloc _ | .cw .. | .make .. | .nR=>1
 | .store .. | .app ..=>2
 | .old op _=>zC P op
def iM (P:Program) (quiet:Bool):SB→Nat
 | .op s=>tA P s
 | .call ..=>if quiet then 1 else 2
 | .zm ..=>1
structure Fz where
 l:List Nat
 fr:Bool
def yU (P:Program) (fr:Bool):SI→SI
 | .load k a=>if fr then .zb k a else .load k a
 | .old (.convert s d x) ty=>if fr && toStr P s d then .CR (SX.of x) else .old (.convert s d x) ty
 | s=>s
def mj (P:Program) (fz:Fz) (o:Oper):SB:=match o.op with
 | .call { callee:=.value f,args,.. }=>if (match o.dst with | some d=>fz.l.contains (200000+d) | none=>false) then .zm (SX.of f) (args.toList.map SX.of) else .call (SX.of f) (args.toList.map SX.of)
 | .box _ x=>if (match o.dst with | some d=>fz.l.contains d | none=>false) then .op (.jn (SX.of x)) else .op (.box (SX.of x))
 | .convert s d x=>if (match o.dst with | some t=>fz.l.contains t | none=>false) && uy P s d then .op (.gf (SX.of x)) else .op (yU P fz.fr (comp P o))
 | _=>.op (yU P fz.fr (comp P o))
def uZ (n:Nat) (all:List Oper) (o:Oper):Option (Option (Nat × Bool)):=match o.guard with
 | none=>some none
 | some (j,want)=>match (all[j]?).bind (·.dst) with
  | some d=>if d < n then some (some (d,want)) else none
  | none=>none
def Fq (P:Program) (n:Nat) (all:List Oper) (fz:Fz) (o:Oper):Option SO :=
 if rE n o then (uZ n all o).map fun g=>⟨o.dst,g,mj P fz o⟩ else none
def dI (P:Program) (n:Nat) (all:List Oper) (fz:Fz):List Oper→Option (List SO)
 | []=>some []
 | o :: r=>match Fq P n all fz o,dI P n all fz r with
  | some s,some l=>some (s :: l)
  | _,_=>none
def SG.flat (g:SG):List SO:=g.ops.map fun (d,b)=>⟨d,g.guard,b⟩
def kh (gs:List SG):List SO:=(gs.map SG.flat).flatten
def KB (g:Option (Nat × Bool)) (s:SO):Bool:=match g,s.guard with
 | none,none=>true
 | some (d,w),some (d',w')=>d == d' && w == w' && s.dst != some d
 | _,_=>false
def group:List SO→List SG
 | []=>[]
 | s :: r=>match group r with
  | g :: gs=>if KB g.guard s then ⟨g.guard,(s.dst,s.b) :: g.ops⟩ :: gs else ⟨s.guard,[(s.dst,s.b)]⟩ :: g :: gs
  | []=>[⟨s.guard,[(s.dst,s.b)]⟩]
theorem O7 {g:Option (Nat × Bool)} {s:SO} (h:KB g s=true):s.guard=g:=by
 unfold KB at h
 split at h
 ·rename_i h1; exact h1
 ·rename_i d w d' w' h1
  simp at h; rw[h1,h.1.1,h.1.2]
 ·simp at h
theorem gz:∀ l:List SO,kh (group l)=l
 | []=>rfl
 | s :: r=>by
  have ih:=gz r
  simp only[group]
  split
  ·rename_i g gs hg
   rw[hg] at ih
   split
   ·rename_i hj
    have:=O7 hj
    rw[← ih]
    cases s with
    | mk d gd b=>simp only at this; subst this; simp[kh,SG.flat]
   ·rw[← ih]; simp[kh,SG.flat]
  ·rename_i hg
   rw[hg] at ih
   rw[← ih]; simp[kh,SG.flat]
def CZ (o:Oper):Bool:=match o.op with
 | .load ..=>true
 | _=>false
def AE (o:Oper):Bool:=match o.op with
 | .alloc _=>true
 | _=>false
def kF (o:Oper):Option Nat:=match o.op,o.guard with
 | .store _ (.tmp t) _,none=>some t
 | _,_=>none
def Rf (all:List Oper) (j k t:Nat):Bool:=match all[j]? with
 | some o=>o.dst == some t && o.guard.isNone && AE o && ((all.drop (j+1)).take (k - (j+1))).all fun o'=>o'.dst != some t
 | none=>false
def zn (all:List Oper) (i k:Nat):Bool:=match all[i]?,all[k]? with
 | some a,some b=>CZ a && (match kF b with
  | some t=>(List.range k).any fun j=>decide (i < j) && Rf all j k t
  | none=>false)
 | _,_=>false
def Fw (all:List Oper) (ls:List Nat):Bool :=
 let b:=fw all []
 ls.zipIdx.all fun (x,i)=>ls.zipIdx.all fun (y,k)=>!decide (i < k) || ordered b i k || x == 0 || y == 0 || (decide (x≤1) && decide (y≤1)) || zn all i k
def rL (o:Oper):Option Nat:=match o.op with
 | .load _ (.tmp t)=>some t
 | _=>none
def stays (all:List Oper) (i t:Nat):Bool:=(all.drop i).all fun o=>o.dst != some t
def Cu (all:List Oper) (i k:Nat):Option (Nat × Nat):=match all[i]?,all[k]? with
 | some a,some b=>match rL a,kF b with
  | some s,some t=>if stays all i s && stays all k t then some (s,t) else none
  | _,_=>match kF a,rL b with
   | some t,some s=>if stays all i t && stays all k s then some (s,t) else none
   | _,_=>none
 | _,_=>none
def yk (all:List Oper) (x i y k:Nat):Bool:=!decide (i < k) || ordered (fw all []) i k || x == 0 || y == 0 || (decide (x≤1) && decide (y≤1)) || zn all i k
def ky (all:List Oper) (ls:List Nat):List (Nat × Nat):=ls.zipIdx.flatMap fun (x,i)=>ls.zipIdx.filterMap fun (y,k)=>if yk all x i y k then none else some (i,k)
def Cv (all:List Oper):List (Nat × Nat)→Option (List (Nat × Nat))
 | []=>some []
 | (i,k) :: r=>match Cu all i k,Cv all r with
  | some p,some l=>some (p :: l)
  | _,_=>none
def L9 (o:Oper):Option Nat:=match o.op,o.guard with
 | .call { callee:=.builtin .append,args,.. },none=>match args.toList with
  | [.tmp t,_]=>some t
  | _=>none
 | _,_=>none
def pJ (o:Oper):Option Nat:=match kF o with
 | some t=>some t
 | none=>L9 o
def He (o:Oper):Bool:=match o.op with
 | .buildSlice ..=>true
 | .alloc _=>true
 | _=>false
def newAt (all:List Oper) (k:Nat):Bool:=match all[k]? with
 | some b=>He b
 | none=>false
def Dn (all:List Oper) (i k:Nat):Option (Nat × Nat):=match all[i]?,all[k]? with
 | some a,some b=>match rL a,pJ b with
  | some s,some t=>if stays all i s && stays all k t then some (s,t) else none
  | _,_=>match pJ a,rL b with
   | some t,some s=>if stays all i t && stays all k s then some (s,t) else none
   | _,_=>none
 | _,_=>none
def Fk (all:List Oper) (ls:List Nat) (i k:Nat):Option (Nat × Nat × Nat):=match all[i]?,all[k]? with
 | some a,some b=>match a.op,b.op,a.guard,b.guard with
  | .lookup t (.tmp m) (.tmp q) false,.mapEntry t' (.tmp m') (.tmp q'),none,none =>
   if t == t' && m == m' && q == q' && stays all i m && stays all i q && stays all k m && stays all k q && decide (i < k) && (List.range k).all fun j=>decide (ls.getD j 2≤1) then some (t,m,q) else none
  | _,_,_,_=>none
 | _,_=>none
def Ft (all:List Oper) (ls:List Nat) (tp:Option (Nat × Nat)):List (Nat × Nat):=(ky all ls).filter fun p=>!newAt all p.2 && tp != some p
def zw (o:Oper):Option (Nat × Nat × Nat):=match o.op,o.guard,o.dst with
 | .call { callee:=.builtin .append,args,.. },none,some d=>match args.toList with
  | [.tmp t,.tmp y]=>some (t,y,d)
  | _=>none
 | _,_,_=>none
def C8 (all:List Oper) (i k:Nat):Option (List (Nat × Nat)):=match all[i]?,all[k]? with
 | some a,some b=>match zw a,zw b with
  | some (t,y,d),some (t',y',_)=>if stays all i t && stays all i y && stays all (i+1) d && stays all k t' && stays all k y' then some [(t,t'),(t,y'),(t',y),(d,t')] else none
  | _,_=>none
 | _,_=>none
def zi (all:List Oper) (i k:Nat):Option (List (Nat × Nat)):=match Dn all i k with
 | some p=>some [p]
 | none=>C8 all i k
def u9 (all:List Oper):List (Nat × Nat)→Option (List (Nat × Nat))
 | []=>some []
 | (i,k) :: r=>match zi all i k,u9 all r with
  | some p,some l=>some (p ++ l)
  | _,_=>none
def tH (g:SG):Bool:=match g.guard with
 | none=>true
 | some (d,_)=>g.ops.all fun x=>x.1 != some d
def rp (P:Program) (n:Nat) (fz:Fz) (ops:List Oper) (draw quiet:Bool):Option SC:=match dI P n ops fz ops with
 | none=>none
 | some l=>if !(group l).all tH then none else
  if draw then (if lS ops && Fw ops (l.map fun s=>iM P quiet s.b) then some (.region quiet (group l)) else none)
  else some (.region quiet (group l))
def Cc (P:Program) (n:Nat) (fz:Fz) (ops:List Oper):Option SC:=match dI P n ops fz ops with
 | none=>none
 | some l=>if !(group l).all tH then none else
  if lS ops then (Cv ops (ky ops (l.map fun s=>iM P false s.b))).map fun aps=>.rO aps (group l) else none
def QO (all:List Oper) (ls:List Nat):Option (Nat × Nat):=(ky all ls).find? fun p=>(Fk all ls p.1 p.2).isSome
def Bk (P:Program) (n:Nat) (fz:Fz) (ops:List Oper):Option SC:=match dI P n ops fz ops with
 | none=>none
 | some l=>if !(group l).all tH then none else
  if lS ops then
   (match QO ops (l.map fun s=>iM P false s.b) with
   | none=>(u9 ops (Ft ops (l.map fun s=>iM P false s.b) none)).map fun aps=>.rO aps (group l)
   | some p=>match Fk ops (l.map fun s=>iM P false s.b) p.1 p.2 with
    | some tol=>(u9 ops (Ft ops (l.map fun s=>iM P false s.b) (some p))).map fun aps=>.CK tol aps (group l)
    | none=>none)
  else none
def Sn:Nat:=100000
def Sp:Nat:=100001
def orElse':Option SC→Option SC→Option SC
 | some x,_=>some x
 | none,y=>y
def A6 (P:Program) (n:Nat) (fz:List Nat) (ops:List Oper) (draw:Bool):Option SC :=
 orElse' (rp P n ⟨fz,false⟩ ops draw false) (if draw then orElse' (if fz.contains Sn then Bk P n ⟨fz,false⟩ ops else none) <| orElse' (if fz.contains Sp then rp P n ⟨fz,true⟩ ops true false else none) <| orElse' (Cc P n ⟨fz,false⟩ ops) (orElse' (rp P n ⟨fz,false⟩ ops true true) (orElse' (rp P n ⟨fz,true⟩ ops true false) (rp P n ⟨fz,true⟩ ops true true))) else none)
def dg (P:Program) (n:Nat) (fz:List Nat):Code→Option SC
 | .skip=>some .skip
 | .region _ ops draw=>A6 P n fz ops.toList draw
 | .seq x y=>match dg P n fz x,dg P n fz y with
  | some a,some b=>some (.seq a b)
  | _,_=>none
 | .cond c x y=>match dg P n fz x,dg P n fz y with
  | some a,some b=>some (.cond (SX.of c) a b)
  | _,_=>none
 | .block id c=>(dg P n fz c).map (.block id)
 | .loop c=>(dg P n fz c).map .loop
 | .exit id=>some (.exit id)
 | .ret=>some .ret
 | .scope c=>match dg P n fz c with
  | some sc=>match Hp sc with
   | some l=>(nQ sc l).map fun r=>.scope l sc r
   | none=>none
  | none=>none
 | .label l=>some (.label l)
 | .goto l=>some (.goto l)
 | _=>none
def iY (h h':aJ):Prop:=∀ id,id < h.length→h.view id=.dead→h'.view id=.dead
theorem iY.refl (h:aJ):iY h h:=fun _ _ e=>e
theorem iY.trans {a b c:aJ} (h:iY a b) (k:iY b c) (hl:a.length≤b.length):iY a c:=fun id hid e=>k id (UD hid hl) (h id hid e)
def aC (P:Program) (f:FuncId) (vs:List V) (H:View) (K:V→View→Prop):Prop :=
 dG P f=true∧∀ h:aJ,h.view=H→∃ r h',bW P f vs h r h'∧iY h h'∧K r h'.view
def Cm (P:Program) (f:FuncId) (vs:List V) (H:View) (K:V→View→Prop):Prop :=
 dG P f=true∧∀ h:aJ,h.view=H→∃ r h',bW P f vs h r h'∧(∀ id,id < h.length→h'.view id=h.view id)∧K r h'.view
def jE (sz:Option Nat) (e:List V) (j:Nat) (K:V→Prop):Prop:=match sz with
 | some n=>j+n≤e.length∧K (.agg ((e.drop j).take n))
 | none=>j < e.length∧K (e.getD j .any)
def wI (P:Program) (s:SI) (T:Env) (H:View) (K:V→View→Prop):Prop:=match s with
 | .bP x=>K (x.at T) H
 | .pick c a b=>match c.at T with
  | .val (.bool t)=>K (if t then a.at T else b.at T) H
  | _=>False
 | .box x=>(x.at T).cells.all aX=true∧∀ n,H n=.dead→K (.ptr n 0 0) (H.set n (.arr (x.at T).cells.length [(x.at T).cells]))
 | .jn x=>(x.at T).cells.all aX=true∧K (.aO (x.at T).cells 0) H
 | .alloc z=>z.all aX=true∧∀ n,H n=.dead→K (.ptr n 0 0) (H.set n (.arr z.length [z]))
 | .load sz a=>match a.at T with
  | .ptr id i j=>match H id with
   | .arr _ es=>i < es.length∧jE sz (es.getD i []) j fun v=>K v H
   | _=>False
  | .aO e j=>jE sz e j fun v=>K v H
  | _=>False
 | .zb sz a=>match a.at T with
  | .aO e j=>jE sz e j fun v=>K v H
  | _=>False
 | .store sz a x=>match a.at T with
  | .ptr id i j=>match H id with
   | .arr esz es=>(i < es.length∧(x.at T).cells.length=sz∧j+(x.at T).cells.length≤esz∧(x.at T).cells.all aX=true) ∧
     K .any (H.set id (.arr esz (es.set i (aa (es.getD i []) j (x.at T).cells))))
   | _=>False
  | _=>False
 | .Ap x=>match x.at T with
  | .ptr id i j=>K (.ptr id i j) H
  | .aO e j=>K (.aO e j) H
  | .fn f a b=>K (.fn f a b) H
  | _=>False
 | .addr off x=>match x.at T with
  | .ptr id i j=>K (.ptr id i (j+off)) H
  | .aO e j=>K (.aO e (j+off)) H
  | _=>False
 | .field off sz x=>match x.at T with
  | .agg cs=>jE sz cs off fun v=>K v H
  | _=>False
 | .idx sz x i=>match asNat (i.at T) with
  | none=>False
  | some q=>match x.at T with
   | .sl id off len esz=>(q < len∧esz=sz)∧K (.ptr id (off+q) 0) H
   | .aL es=>∃ e,es[q]?=some e∧e.length=sz∧K (.aO e 0) H
   | _=>False
 | .sL f first cap=>K (.fn f (first.map (SX.at T)) (cap.map (SX.at T))) H
 | .nR=>∀ n,H n=.dead→K (.mp n) (H.set n (.map [] 0))
 | .ext i x=>match x.at T with
  | .bE vs=>i < vs.length∧K (vs.getD i .any) H
  | _=>False
 | .len x=>match cG (x.at T) with
  | some n=>K (ak n) H
  | none=>False
 | .pH x=>match x.at T with
  | .val (.string s)=>K (ak s.size) H
  | _=>False
 | .arith op x y=>match x.at T,y.at T with
  | .val (.int k a),.val (.int k' b)=>k=k'∧(match ag op k a b with | some v=>K (.val v) H | none=>False)
  | _,_=>False
 | .xk op x y=>match x.at T,y.at T with
  | .val (.string a),.val (.string b)=>(match op with
   | .eql=>K (.val (.bool (iP a b))) H
   | .neq=>K (.val (.bool (!iP a b))) H
   | _=>False)
  | _,_=>False
 | .ix x i=>match x.at T,asNat (i.at T) with
  | .val (.string s),some q=>∃ b,s.data.toList[q]?=some b∧K (.val (.int .u8 b.toNat)) H
  | _,_=>False
 | .not x=>match x.at T with
  | .val (.bool t)=>K (.val (.bool (!t))) H
  | _=>False
 | .nil eq k x y=>match ai (ae k (x.at T)) (ae k (y.at T)) with
  | some b=>K (.val (.bool (if eq then b else !b))) H
  | none=>False
 | .beq eq x y=>match x.at T,y.at T with
  | .val (.bool a),.val (.bool b)=>K (.val (.bool (if eq then a == b else a != b))) H
  | _,_=>False
 | .mm mx x y=>match x.at T,y.at T with
  | .val (.int k a),.val (.int _ b)=>K (.val (.int k (if mx then (if b > a then b else a) else (if b < a then b else a)))) H
  | _,_=>False
 | .conv k x=>match x.at T with
  | .val (.int _ a)=>K (.val (.int k (k.wrap a))) H
  | _=>False
 | .sh l x y=>match x.at T,y.at T with
  | .val (.int k a),.val (.int _ b)=>0≤b∧K (.val (.int k (Du l k a b))) H
  | _,_=>False
 | .build z parts=>match ab z (parts.map fun (a,b,x)=>(a,b,x.at T)) with
  | some cs=>K (.agg cs) H
  | none=>False
 | .cw len sz z parts=>match af sz (List.replicate len z) (parts.map fun (i,x)=>(i,x.at T)) with
  | some es=>∀ n,H n=.dead→K (.sl n 0 len sz) (H.set n (.arr sz es))
  | none=>False
 | .slice sz x lo hi=>match dQ sz (x.at T) (lo.map (SX.at T)) (hi.map (SX.at T)) with
  | some (v,.none,_)=>K v H
  | _=>False
 | .make sz bytes z l c=>match asNat (l.at T),asNat (c.at T) with
  | some l,some c=>(l≤c∧c < aK∧bytes * c < aK)∧(c=0→K (.emp 2) H)∧(c≠0→∀ n,H n=.dead→K (.sl n 0 l sz) (H.set n (.arr sz (List.replicate l z))))
  | _,_=>False
 | .app sz bytes x y=>match bX H (y.at T) with
  | some (xs,_)=>if xs.isEmpty=true then (match x.at T with
    | .emp k=>K (.emp k) H
    | .dP=>K .dP H
    | .aL es=>K (.aL es) H
    | .sl a b c d=>K (.sl a b c d) H
    | _=>False)
   else (xs.all fun e=>e.length == sz && e.all aX)=true∧(match x.at T with
    | .emp _=>(xs.length * bytes < aK∧xs.length < aK)∧∀ n,H n=.dead→K (.sl n 0 xs.length sz) (H.set n (.arr sz xs))
    | .sl id off len esz=>match H id with
     | .arr _ es=>(off+len≤es.length∧esz=sz∧(len+xs.length) * bytes < aK∧len+xs.length < aK) ∧
      ∀ n,H n=.dead→K (.sl n 0 (len+xs.length) esz) ((H.set id .dead).set n (.arr esz ((es.drop off).take len ++ xs)))
     | _=>False
    | _=>False)
  | none=>False
 | .CR x=>match x.at T with
  | .aL es=>(match kH es with
   | some l=>K (.val (.string ⟨l.toArray⟩)) H
   | none=>False)
  | _=>False
 | .gf x=>match x.at T with
  | .val (.string s)=>K (.aL (gC s)) H
  | _=>False
 | s=>∀ n,H n=.dead→∃ v eff rd,sI P s T H n=some (v,eff,rd)∧K v (eff.view H n)
def wB (P:Program) (quiet:Bool) (b:SB) (T:Env) (H:View) (K:V→View→Prop):Prop:=match b with
 | .op s=>wI P s T H K
 | .call f args=>match f.at T with
  | .fn g first cap=>if quiet then Cm P g (first ++ args.map (SX.at T) ++ cap) H K else aC P g (first ++ args.map (SX.at T) ++ cap) H K
  | _=>False
 | .zm f args=>match f.at T with
  | .fn g first cap=>Cm P g (first ++ args.map (SX.at T) ++ cap) H K
  | _=>False
def yN (P:Program) (quiet:Bool):List (Option Nat × SB)→Env→View→(Env→View→Prop)→Prop
 | [],T,H,K=>K T H
 | (d,b) :: r,T,H,K=>wB P quiet b T H fun v H'=>yN P quiet r (T.put d v) H' K
def iK:List (Option Nat × SB)→Env→Env
 | [],T=>T
 | (d,_) :: r,T=>iK r (T.put d (.bE []))
def wG (P:Program) (quiet:Bool) (g:SG) (T:Env) (H:View) (K:Env→View→Prop):Prop:=match g.guard with
 | none=>yN P quiet g.ops T H K
 | some (d,want)=>match T d with
  | .val (.bool b)=>(b=want→yN P quiet g.ops (T.put (some d) (.val (.bool want))) H K)∧(b = !want→K (iK g.ops (T.put (some d) (.val (.bool (!want))))) H)
  | .bE []=>K (iK g.ops T) H
  | _=>False
def xo (P:Program) (quiet:Bool):List SG→Env→View→(Env→View→Prop)→Prop
 | [],T,H,K=>K T H
 | g :: r,T,H,K=>wG P quiet g T H fun T' H'=>xo P quiet r T' H' K
def pW (c:SX) (b:Bool) (T:Env):Env:=match c with
 | .tmp t=>T.put (some t) (.val (.bool b))
 | _=>T
def zL:Exit→Prop→Prop→Prop
 | .normal,a,_=>a
 | _,_,b=>b
def iS (a b:V):Prop:=match a,b with
 | .ptr i _ _,.ptr j _ _=>i≠j
 | .ptr i _ _,.sl j _ _ _=>i≠j
 | .ptr _ _ _,.emp _=>True
 | .ptr _ _ _,.dP=>True
 | .ptr _ _ _,.aL _=>True
 | .aO _ _,_=>True
 | .sl i _ _ _,.sl j _ _ _=>i≠j
 | .sl _ _ _ _,.emp _=>True
 | .sl _ _ _ _,.dP=>True
 | .sl _ _ _ _,.aL _=>True
 | .emp _,_=>True
 | .dP,_=>True
 | .aL _,_=>True
 | _,_=>False
def KM (P:Program) (t:TypeId) (m q:V) (H:View):Prop:=match m with
 | .mp id=>(∃ es c,H id=.map es c)∧∀ v obj rd,eh P t (.mp id) q H=some (v,.eW id obj,rd)→fE P t (.mp id) q false (H.set id obj)=fE P t (.mp id) q false H
 | _=>False
def xO:List (Nat × Nat)→Env→Prop→Prop
 | [],_,K=>K
 | p :: l,T,K=>iS (T p.1) (T p.2)∧xO l T K
def wS (P:Program):SC→Env→View→(Exit→Env→View→Prop)→Prop
 | .skip,T,H,Q=>Q .normal T H
 | .region quiet gs,T,H,Q=>xo P quiet gs T H (Q .normal)
 | .rO aps gs,T,H,Q=>xo P false gs T H fun T' H'=>xO aps T' (Q .normal T' H')
 | .CK tol aps gs,T,H,Q=>xo P false gs T H fun T' H'=>KM P tol.1 (T' tol.2.1) (T' tol.2.2) H∧xO aps T' (Q .normal T' H')
 | .seq x y,T,H,Q=>wS P x T H fun e T' H'=>zL e (wS P y T' H' Q) (Q e T' H')
 | .cond c x y,T,H,Q=>match c.at T with
  | .val (.bool b)=>(b=true→wS P x (pW c true T) H Q)∧(b=false→wS P y (pW c false T) H Q)
  | _=>False
 | .block id c,T,H,Q=>wS P c T H fun e=>Q (pZ id e)
 | .loop c,T,H,Q=>∃ I:Nat→Env→View→Prop,(∃ k,I k T H)∧∀ k T H,I k T H→wS P c T H fun e T' H'=>zL e (∃ k',k' < k∧I k' T' H') (Q e T' H')
 | .exit id,T,H,Q=>Q (.exit id) T H
 | .ret,T,H,Q=>Q .ret T H
 | .scope l c r,T,H,Q=>∃ (I:Nat→Env→View→Prop) (K:Nat),wS P c T H (fun e T' H'=>zh l e (∃ k,k < K∧I k T' H') (Q e T' H'))∧∀ k T H,I k T H→wS P r T H fun e T' H'=>zh l e (∃ k',k' < k∧I k' T' H') (Q e T' H')
 | .label _,T,H,Q=>Q .normal T H
 | .goto l,T,H,Q=>Q (.goto l) T H
def wR (T:Env) (H:View) (r:SR) (K:V→Prop):Prop:=match r with
 | .tmp t=>K (T t)
 | .cell t sz=>match T t with
  | .ptr id i j=>match H id with
   | .arr _ es=>i < es.length∧jE sz (es.getD i []) j K
   | _=>False
  | .aO e j=>jE sz e j K
  | _=>False
def Bj (T:Env) (H:View):List SR→List V→(List V→Prop)→Prop
 | [],acc,K=>K acc
 | r :: l,acc,K=>wR T H r fun v=>Bj T H l (acc ++ [v]) K
def ah:List V→V
 | [v]=>v
 | vs=>.bE vs
def fF (P:Program):List ResultVar→Option (List SR)
 | []=>some []
 | .tmp t :: r=>(fF P r).map (.tmp t :: ·)
 | .cell a t :: r=>match Bp P t,fF P r with
  | some k,some l=>some (.cell a k :: l)
  | _,_=>none
structure SF where
 code:SC
 res:List SR
 n:Nat
abbrev aj (a b:Nat):Option Nat × SB:=(some a,.op (.bP (.tmp b)))
abbrev bj (a:Nat) (n:Int):Option Nat × SB:=(some a,.op (.bP (.val (.val (.int .i64 n)))))
abbrev bH (a:Nat) (n:Bool):Option Nat × SB:=(some a,.op (.bP (.val (.val (.bool n)))))
abbrev ay (a b:Nat):Option Nat × SB:=(some a,.op (.load none (.tmp b)))
abbrev bp (a k b:Nat):Option Nat × SB:=(some a,.op (.load (some k) (.tmp b)))
abbrev aD (a k b:Nat):Option Nat × SB:=(some a,.op (.addr k (.tmp b)))
abbrev aR (a k b c:Nat):Option Nat × SB:=(some a,.op (.idx k (.tmp b) (.tmp c)))
abbrev cU (a b c:Nat):Option Nat × SB:=(some a,.op (.pick (.tmp b) (.val (.val (.bool true))) (.tmp c)))
abbrev eS (a b c:Nat):Option Nat × SB:=(some a,.op (.pick (.tmp b) (.tmp c) (.val (.val (.bool false)))))
abbrev bg (a:Nat) (o:BinOp) (b c:Nat):Option Nat × SB:=(some a,.op (.arith o (.tmp b) (.tmp c)))
abbrev aQ (a:Nat) (o:BinOp) (b:Nat) (n:Int):Option Nat × SB:=(some a,.op (.arith o (.tmp b) (.val (.val (.int .i64 n)))))
abbrev aV (a b:Nat):Option Nat × SB:=(some a,.op (.len (.tmp b)))
abbrev gP (a k b:Nat):Option Nat × SB:=(some a,.op (.ext k (.tmp b)))
abbrev dp (a b:Nat):Option Nat × SB:=(some a,.op (.not (.tmp b)))
abbrev cO (a b:Nat):Option Nat × SB:=(some a,.op (.jn (.tmp b)))
abbrev fZ (a b:Nat):Option Nat × SB:=(some a,.op (.Ap (.tmp b)))
abbrev pc (a f:Nat) (l:List SX):Option Nat × SB:=(some a,.call (.val (.fn f [] [])) l)
abbrev bD (a f:Nat) (l:List Nat):Option Nat × SB:=(some a,.call (.val (.fn f [] [])) (l.map .tmp))
abbrev ao (l:List (Option Nat × SB)):SC:=.region false [⟨none,l⟩]
def aU (P:Program) (f:FuncId) (fz:List Nat):Option SF:=match P.funcs[f]? with
 | some fn=>match fn.body with
  | some c=>match dg P fn.ntmps fz c,fF P fn.results.toList,dG P f with
   | some sc,some rs,true=>some ⟨sc,rs,fn.ntmps⟩
   | _,_,_=>none
  | none=>none
 | none=>none
theorem pG {sz:Option Nat} {e:List V} {j:Nat} {K:V→Prop} (h:jE sz e j K):∃ v,me sz e j=some v∧K v:=by
 cases sz with
 | none=>exact ⟨_,by simp only[me]; rw[T9 h.1],h.2⟩
 | some n=>exact ⟨_,by simp only[me]; rw[T9 h.1],h.2⟩
theorem Si {P:Program} {s:SI} {T:Env} {H:View} {K:V→View→Prop} (h:wI P s T H K) {n:Nat} (hn:H n=.dead) :
  ∃ v eff rd,sI P s T H n=some (v,eff,rd)∧K v (eff.view H n):=by
 unfold wI at h
 split at h
 ·exact ⟨_,_,_,rfl,h⟩
 ·split at h
  ·rename_i t ht; exact ⟨_,_,_,by simp only[sI,ht]; rfl,h⟩
  ·exact h.elim
 ·exact ⟨_,_,_,by simp only[sI,lG]; rw[T9 h.1],h.2 n hn⟩
 ·exact ⟨_,_,_,by simp only[sI]; rw[T9 h.1],h.2⟩
 ·exact ⟨_,_,_,by simp only[sI,lG]; rw[T9 h.1],h.2 n hn⟩
 ·split at h
  ·rename_i id i j ha
   split at h
   ·rename_i es hH
    obtain ⟨h1,h2⟩:=h
    obtain ⟨v,hv,hk⟩:=pG h2
    exact ⟨_,_,_,by simp only[sI,wO,ha,hH]; rw[T9 h1,hv]; rfl,hk⟩
   ·exact h.elim
  ·rename_i e j ha
   obtain ⟨v,hv,hk⟩:=pG h
   exact ⟨_,_,_,by simp only[sI,wO,ha]; rw[hv]; rfl,hk⟩
  ·exact h.elim
 ·split at h
  ·rename_i e j ha
   obtain ⟨v,hv,hk⟩:=pG h
   exact ⟨_,_,_,by simp only[sI,ha]; rw[hv]; rfl,hk⟩
  ·exact h.elim
 ·split at h
  ·rename_i id i j ha
   split at h
   ·rename_i esz es hH
    exact ⟨_,_,_,by simp only[sI,Bh,ha,hH]; rw[T9 h.1],h.2⟩
   ·exact h.elim
  ·exact h.elim
 ·split at h
  ·rename_i hx; exact ⟨_,_,_,by simp only[sI,hx]; rfl,h⟩
  ·rename_i hx; exact ⟨_,_,_,by simp only[sI,hx]; rfl,h⟩
  ·rename_i hx; exact ⟨_,_,_,by simp only[sI,hx]; rfl,h⟩
  ·exact h.elim
 ·split at h
  ·rename_i hx; exact ⟨_,_,_,by simp only[sI,zy,hx]; rfl,h⟩
  ·rename_i hx; exact ⟨_,_,_,by simp only[sI,zy,hx]; rfl,h⟩
  ·exact h.elim
 ·split at h
  ·rename_i cs hx
   obtain ⟨v,hv,hk⟩:=pG h
   exact ⟨_,_,_,by simp only[sI,hx,hv]; rfl,hk⟩
  ·exact h.elim
 ·split at h
  ·exact h.elim
  ·rename_i q hq
   split at h
   ·rename_i hx; exact ⟨_,_,_,by simp only[sI,Di,hq,hx]; rw[T9 h.1],h.2⟩
   ·rename_i es hx
    obtain ⟨e,he,hl,hk⟩:=h
    have hlt:q < es.length:=(Uj.1 he).1
    have hge:es.getD q []=e:=by simp[T0,he]
    exact ⟨_,_,_,by simp only[sI,Di,hq,hx]; rw[hge,T9 ⟨hlt,hl⟩],hk⟩
   ·exact h.elim
 ·exact ⟨_,_,_,rfl,h⟩
 ·exact ⟨_,_,_,rfl,h n hn⟩
 ·split at h
  ·rename_i vs hx; exact ⟨_,_,_,by simp only[sI,hx]; rw[T9 h.1],h.2⟩
  ·exact h.elim
 ·split at h
  ·rename_i m hx; exact ⟨_,_,_,by simp only[sI,hx]; rfl,h⟩
  ·exact h.elim
 ·split at h
  ·rename_i s hx; exact ⟨_,_,_,by simp only[sI,hx]; rfl,h⟩
  ·exact h.elim
 ·split at h
  ·rename_i k a k' b hx hy
   obtain ⟨rfl,h⟩:=h
   split at h
   ·rename_i v hv; exact ⟨_,_,_,by simp only[sI,xW,hx,hy,if_true,hv]; rfl,h⟩
   ·exact h.elim
  ·exact h.elim
 ·split at h
  ·rename_i a b hx hy
   split at h
   ·exact ⟨_,_,_,by simp only[sI,AK,hx,hy]; rfl,h⟩
   ·exact ⟨_,_,_,by simp only[sI,AK,hx,hy]; rfl,h⟩
   ·exact h.elim
  ·exact h.elim
 ·split at h
  ·rename_i s q hx hq
   obtain ⟨b,hb,hk⟩:=h
   exact ⟨_,_,_,by simp only[sI,B8,hx,hq,hb]; rfl,hk⟩
  ·exact h.elim
 ·split at h
  ·rename_i t hx; exact ⟨_,_,_,by simp only[sI,hx]; rfl,h⟩
  ·exact h.elim
 ·split at h
  ·rename_i b hb; exact ⟨_,_,_,by simp only[sI,hb]; rfl,h⟩
  ·exact h.elim
 ·split at h
  ·rename_i hx hy; exact ⟨_,_,_,by simp only[sI,hx,hy]; rfl,h⟩
  ·exact h.elim
 ·split at h
  ·rename_i hx hy; exact ⟨_,_,_,by simp only[sI,hx,hy]; rfl,h⟩
  ·exact h.elim
 ·split at h
  ·rename_i hx; exact ⟨_,_,_,by simp only[sI,hx]; rfl,h⟩
  ·exact h.elim
 ·split at h
  ·rename_i hx hy; exact ⟨_,_,_,by simp only[sI,MK,hx,hy]; rw[T6 (by omega)],h.2⟩
  ·exact h.elim
 ·split at h
  ·rename_i cs hb; exact ⟨_,_,_,by simp only[sI,hb]; rfl,h⟩
  ·exact h.elim
 ·split at h
  ·rename_i es hb; exact ⟨_,_,_,by simp only[sI,zx,hb]; rfl,h n hn⟩
  ·exact h.elim
 ·split at h
  ·rename_i v rd hb; exact ⟨_,_,_,by simp only[sI,hb]; rfl,h⟩
  ·exact h.elim
 ·split at h
  ·rename_i l c hl hc
   obtain ⟨h1,h2,h3⟩:=h
   by_cases e:c=0
   ·exact ⟨.emp 2,.none,[],by simp only[sI,BC,hl,hc]; rw[T9 h1,T9 e],h2 e⟩
   ·exact ⟨_,_,_,by simp only[sI,BC,hl,hc]; rw[T9 h1,T6 e],h3 e n hn⟩
  ·exact h.elim
 ·split at h
  ·rename_i xs rd hel
   split at h
   ·rename_i he
    split at h
    all_goals first
     | (rename_i hx; exact ⟨_,_,_,by simp only[sI,GP,hel]; rw[T9 he,hx],h⟩)
     | exact h.elim
   ·rename_i he
    obtain ⟨h1,h2⟩:=h
    split at h2
    ·rename_i hx
     exact ⟨_,_,_,by simp only[sI,GP,hel]; rw[T6 he,T6 (by rw[h1]; simp),hx]; simp only; rw[T9 h2.1],h2.2 n hn⟩
    ·rename_i id off len esz hx
     split at h2
     ·rename_i z es hH
      exact ⟨_,_,_,by simp only[sI,GP,hel]; rw[T6 he,T6 (by rw[h1]; simp),hx]; simp only[hH]; rw[T9 h2.1],h2.2 n hn⟩
     ·exact h2.elim
    ·exact h2.elim
  ·exact h.elim
 ·split at h
  ·rename_i hx
   split at h
   ·rename_i l hl; exact ⟨_,_,_,by simp only[sI,hx,hl]; rfl,h⟩
   ·exact h.elim
  ·exact h.elim
 ·split at h
  ·rename_i hx; exact ⟨_,_,_,by simp only[sI,hx]; rfl,h⟩
  ·exact h.elim
 ·exact h n hn
def km (k:Nat) (rd wr:List Nat) (call:Bool) (n n':Nat):Prop :=
 (k=0→rd=[]∧wr=[]∧call=false∧n'=n)∧(k≤1→wr=[])
theorem Qh {k:Nat} (h:k=2) {rd wr:List Nat} {call:Bool} {n n':Nat} : km k rd wr call n n':=⟨fun h'=>by omega,fun h'=>by omega⟩
theorem qD {P:Program} {o:Oper} {T:Env} {v:V} {eff:bC} {rd:List Nat} (h:dL P o T=some (v,eff,rd)):eff=.none∧rd=[]:=by
 unfold dL at h
 split at h
 ·split at h
  ·split at h
   ·simp at h; exact ⟨h.2.1.symm,h.2.2⟩
   ·simp at h
  ·simp at h
 ·simp at h
theorem PG {P:Program} {o:Oper} {T:Env} {H:View} {n:Nat} {v:V} {eff:bC} {rd:List Nat} (h:cm P o T H n=some (v,eff,rd)) :
  (zC P o.op=0→eff=.none∧rd=[])∧(zC P o.op=1→eff.wr=[]):=by
 unfold zC
 split
 ·rename_i s d x ho
  simp only[cm,ho] at h
  split
  ·exact ⟨fun h=>by simp at h,fun h=>by simp at h⟩
  ·rename_i hb
   rw[T6 hb] at h
   exact ⟨fun _=>qD h,fun h=>by simp at h⟩
 ·rename_i b args ats ho
  simp only[cm,ho] at h
  split
  any_goals exact ⟨fun _=>qD h,fun h=>by simp at h⟩
  ·refine ⟨fun h=>by simp at h,fun _=>?_⟩
   split at h
   ·rename_i hargs
    split at h
    ·simp only[tV] at h
     have nn:∀ {v':V} {r:List Nat},some (v',bC.none,r)=some (v,eff,rd)→eff.wr=[]:=fun e=>by
      simp only[T7,Ua] at e; rw[← e.2.1]; rfl
     split at h
     ·simp only[Uf] at h
      obtain ⟨_,_,h⟩:=h
      exact nn (Vl some h)
     ·split at h
      ·split at h
       ·exact nn h
       ·simp at h
      ·exact nn h
      ·simp at h
     ·split at h
      ·exact nn h
      ·simp at h
     ·exact nn h
     ·simp at h
    ·simp at h
   any_goals simp at h
   all_goals contradiction
  ·exact ⟨fun h=>by simp at h,fun h=>by simp at h⟩
 ·rename_i t m k ok ho
  refine ⟨fun h=>by simp at h,fun _=>?_⟩
  simp only[cm,ho,fE] at h
  have nn:∀ {v':V} {r:List Nat},some (v',bC.none,r)=some (v,eff,rd)→eff.wr=[]:=fun e=>by
   simp only[T7,Ua] at e; rw[← e.2.1]; rfl
  split at h
  ·simp at h
  ·split at h
   ·simp at h
   ·split at h
    ·split at h
     ·split at h
      ·split at h
       ·exact nn h
       ·simp at h
      ·exact nn h
      ·simp at h
     ·simp at h
    ·simp at h
 ·rename_i op t x y u ho
  refine ⟨fun _=>?_,fun h=>by simp at h⟩
  simp only[cm,ho] at h
  split at h
  ·split at h
   ·simp at h; exact ⟨h.2.1.symm,h.2.2⟩
   ·simp at h; exact ⟨h.2.1.symm,h.2.2⟩
   ·simp at h
  ·exact qD h
 ·rename_i op t x ho
  exact ⟨fun _=>qD (by simpa only [cm,ho] using h),fun h=>by simp at h⟩
 ·rename_i t x i ho
  exact ⟨fun _=>qD (by simpa only [cm,ho] using h),fun h=>by simp at h⟩
 ·exact ⟨fun h=>by simp at h,fun h=>by simp at h⟩
theorem rK {P:Program} {s:SI} {T:Env} {H:View} {n:Nat} {v:V} {eff:bC} {rd:List Nat} (h:sI P s T H n=some (v,eff,rd)) :
  (tA P s=0→eff=.none∧rd=[])∧(tA P s=1→eff.wr=[]):=by
 have nn:∀ {v':V},some (v',bC.none,([]:List Nat))=some (v,eff,rd)→eff=.none∧rd=[]:=fun e=>by
  simp only[T7,Ua] at e; exact ⟨e.2.1.symm,e.2.2.symm⟩
 have mp:∀ {α:Type} {x:Option α} {f:α→V},(x.map fun a=>(f a,bC.none,([]:List Nat)))=some (v,eff,rd)→eff=.none∧rd=[]:=by
  intro α x f h
  simp only[Uf] at h
  obtain ⟨a,_,h⟩:=h
  simp only[Ua] at h; exact ⟨h.2.1.symm,h.2.2.symm⟩
 have nw:∀ {v':V} {o:dy} {r:List Nat},some (v',bC.new o,r)=some (v,eff,rd)→eff.wr=[]:=fun e=>by
  simp only[T7,Ua] at e; rw[← e.2.1]; rfl
 have n1:∀ {v':V} {r:List Nat},some (v',bC.none,r)=some (v,eff,rd)→eff.wr=[]:=fun e=>by
  simp only[T7,Ua] at e; rw[← e.2.1]; rfl
 unfold tA
 cases s <;> simp only[sI] at h
 case old op ty=>exact PG (o:=oper op ty) h
 all_goals
  constructor <;> intro hk <;> first
   | (exfalso; revert hk; simp; done)
   | skip
 all_goals try simp only[wO,lG,zy,Di,dQ,BC,zx,xW,MK,AK,B8] at h
 all_goals first
  | exact nn h
  | exact mp h
  | exact nw h
  | exact n1 h
  | skip
 all_goals repeat' (split at h)
 all_goals first
  | exact nn h
  | exact mp h
  | exact nw h
  | exact n1 h
  | (simp at h; done)
  | (simp only[Uf,Ua] at h; obtain ⟨_,_,_,rfl,_⟩:=h; rfl)
end Gv
