/-
  Part 4 of the proof: what the machine does and what the functions answer.
  Conditions: those that each lemma names.
-/
import Derived.Test.YtihmlbdfcmfbdaaGreatSGzB1C
set_option linter.unusedSimpArgs false
set_option linter.unusedVariables false
set_option maxRecDepth 100000
namespace Gv
open Go
inductive Tree:V→Prop
 | val (v:Value):Tree (.val v)
 | emp (k:Nat):Tree (.emp k)
 | dt:Tree .dt
 | aH (es:List (List V)):(∀ i j,i < es.length→j < (es.getD i []).length→Tree ((es.getD i []).getD j .any))→Tree (.aH es)
 | aL (e:List V) (j:Nat):(∀ k,k < e.length→Tree (e.getD k .any))→Tree (.aL e j)
 | fn (f:FuncId) (xs ys:List V):(∀ i,i < xs.length→Tree (xs.getD i .any))→(∀ i,i < ys.length→Tree (ys.getD i .any))→Tree (.fn f xs ys)
 | agg (cs:List V):(∀ i,i < cs.length→Tree (cs.getD i .any))→Tree (.agg cs)
 | bt (cs:List V):(∀ i,i < cs.length→Tree (cs.getD i .any))→Tree (.bt cs)
theorem tt {Z:Nat→Prop} {μ ν:Mu} {hp:Array Obj} {v:V} {x:Value} (h:aA Z μ hp v x):Tree v→aA Z ν hp v x:=by
 induction h with
 | any x=>intro t; exact .any x
 | val v hv=>intro _; exact .val v hv
 | emp k a h1 h2=>intro _; exact .emp k a h1 h2
 | dt a cap=>intro _; exact .dt a cap
 | gM a cap h1=>intro _; exact .gM a cap h1
 | aH es b off esz cap c hz hle hes hc _ ih =>
  intro t
  cases t with
  | aH _ ht=>exact .aH es b off esz cap c hz hle hes hc (fun i j hi hj=>ih i j hi hj (ht i j hi (by rw[hes i hi]; exact hj)))
 | nh id off esz a=>intro t; cases t
 | sl id off len esz b o0 cap c e f hm hle hb hs=>intro t; cases t
 | ptr id i j b o0 esz hm=>intro t; cases t
 | aL e j b off c hz hc _ ih =>
  intro t
  cases t with
  | aL _ _ ht=>exact .aL e j b off c hz hc (fun k hk=>ih k hk (ht k hk))
 | mp id b o0 esz hm=>intro t; cases t
 | fn f xs ys aas bs h1 h2 _ _ ih1 ih2 =>
  intro t
  cases t with
  | fn _ _ _ t1 t2=>exact .fn f xs ys aas bs h1 h2 (fun i hi=>ih1 i hi (t1 i hi)) (fun i hi=>ih2 i hi (t2 i hi))
 | agg cs aas h1 _ ih =>
  intro t
  cases t with
  | agg _ ht=>exact .agg cs aas h1 (fun i hi=>ih i hi (ht i hi))
 | bt cs aas h1 _ ih =>
  intro t
  cases t with
  | bt _ ht=>exact .bt cs aas h1 (fun i hi=>ih i hi (ht i hi))
inductive Fr (h:aE):V→V→Prop
 | tree (v:V):Tree v→Fr h v v
 | emp (k:Nat):Fr h (.emp k) (.aH [])
 | sl (id off len esz z:Nat) (es es':List (List V)):h.view id=.arr z es→off+len≤es.length→es'.length=len →
  (∀ i,i < len→(es'.getD i []).length=(es.getD (off+i) []).length) →
  (∀ i j,i < len→j < (es'.getD i []).length→Fr h ((es.getD (off+i) []).getD j .any) ((es'.getD i []).getD j .any))→Fr h (.sl id off len esz) (.aH es')
 | ptr (id i j z:Nat) (es:List (List V)) (e':List V):h.view id=.arr z es→i < es.length→e'.length=(es.getD i []).length →
  (∀ k,k < e'.length→Fr h ((es.getD i []).getD k .any) (e'.getD k .any))→Fr h (.ptr id i j) (.aL e' j)
 | agg (cs cs':List V):cs'.length=cs.length→(∀ i,i < cs.length→Fr h (cs.getD i .any) (cs'.getD i .any))→Fr h (.agg cs) (.agg cs')
 | bt (cs cs':List V):cs'.length=cs.length→(∀ i,i < cs.length→Fr h (cs.getD i .any) (cs'.getD i .any))→Fr h (.bt cs) (.bt cs')
theorem zj {h:aE} {Z:Nat→Prop} {μ ν:Mu} {F:View} {hp:Array Obj} (hr:gu Z μ hp (cat h F)) {v t:V} (fr:Fr h v t):∀ {x:Value},aA Z μ hp v x→aA (fun b=>Z b∨iG μ b) ν hp t x:=by
 have hcat:∀ id,h.view id≠.dead→cat h F id=h.view id:=fun id hd=>by simp only[cat]; rw[Ra (gJ hd)]
 induction fr with
 | tree v ht =>
  intro x hx
  have h1:aA Z ν hp v x:=tt hx ht
  exact h1.mono ⟨fun _ h=>.inl h,fun _ _=>rfl,fun _ _ h=>h,eP.refl _⟩
 | emp k=>intro x hx; cases hx with | emp _ a=>exact .gM a 0 (fun _=>rfl)
 | sl id off len esz z es es' hH hle hlen hl _ ih =>
  intro x hx
  cases hx with
  | nh _ _ _ a =>
   have:es'=[]:=SV.1 hlen
   subst this
   exact .gM a 0 (fun _=>rfl)
  | sl _ _ _ _ b o0 cap c e f hm hlec hb hs =>
   have hor:=hr.obj id
   rw[hcat id (by rw[hH]; simp),hH] at hor
   obtain ⟨rfl,_,h3,h4⟩:=hor b o0 esz hm
   have hx:∀ i,∃ ci:Nat→Value,∀ j,j < esz→i < len→cellAt hp b (o0+off * esz+i * esz+j)=some (ci j)∧aA Z μ hp ((es.getD (off+i) []).getD j .any) (ci j):=by
    intro i
    by_cases hi:i < len
    ·obtain ⟨ci,hci⟩:=mb (n:=esz) (p:=fun j x=>cellAt hp b (o0+off * esz+i * esz+j)=some x∧aA Z μ hp ((es.getD (off+i) []).getD j .any) x) (fun j hj=>by
      obtain ⟨x,hx,hv⟩:=h4 (off+i) j (by omega) hj
      rw[RP,← S8] at hx
      exact ⟨x,hx,hv⟩)
     exact ⟨ci,fun j hj _=>hci j hj⟩
    ·exact ⟨fun _=>undef,fun j _ h=>absurd h hi⟩
   obtain ⟨cf,hcf⟩:=Classical.axiomOfChoice hx
   have hel:∀ i,i < es'.length→(es'.getD i []).length=esz:=fun i hi=>by rw[hl i (by omega)]; exact h3 _ (by omega)
   have:=aA.aH (Z:=fun b=>Z b∨iG μ b) (μ:=ν) (hp:=hp) es' b (o0+off * esz) esz cap cf (.inr ⟨id,o0,esz,hm⟩) (by omega) hel
    (fun i j hi hj=>(hcf i j hj (by omega)).1) (fun i j hi hj=>ih i j (by omega) (by rw[hel i hi]; exact hj) (hcf i j hj (by omega)).2)
   rw[hlen] at this
   exact this
 | ptr id i j z es e' hH hi hlen _ ih =>
  intro x hx
  obtain ⟨b,o0,sz,hm,rfl⟩:=lP (w:={ (default:World) with heap:=hp }) hx
  have hor:=hr.obj id
  rw[hcat id (by rw[hH]; simp),hH] at hor
  obtain ⟨rfl,hrow⟩:=rowOf (w:={ (default:World) with heap:=hp }) hor hm hi
  refine wT (w:={ (default:World) with heap:=hp }) (.inr ⟨id,o0,sz,hm⟩) (fun k hk=>?_)
  obtain ⟨y,hy,hv⟩:=hrow k (by omega)
  exact ⟨y,hy,ih k hk hv⟩
 | agg cs cs' hlen _ ih =>
  intro x hx
  cases hx with
  | agg _ aas h1 h2=>exact .agg _ _ (by omega) (fun i hi=>ih i (by omega) (h2 i (by omega)))
 | bt cs cs' hlen _ ih =>
  intro x hx
  cases hx with
  | bt _ aas h1 h2=>exact .bt _ _ (by omega) (fun i hi=>ih i (by omega) (h2 i (by omega)))
def aG (P:Program) (f:FuncId) (vs:List V) (t:V):Prop :=
 ∀ Z μ (w:World) (xs:List Value),fi Z μ w.heap vs xs→(∀ b,Z b→b < w.heap.size) →
  Calls P f xs.toArray w fun e w'=>∃ x Z',e=.returned x∧(∀ ν,aA Z' ν w'.heap t x)∧dT w w'∧(∀ b,Z b→Z' b)∧(∀ b,Z' b→Z b∨(w.heap.size≤b∧b < w'.heap.size))∧fq w.heap w'.heap (fun _=>False)
theorem AI (F:View):cat [] F=F:=by funext id; simp[cat]
theorem aG.tv {P:Program} {f:FuncId} {vs:List V} {r t:V} {h':aE} (ht:∀ v∈vs,Tree v) (hc:bH P f vs [] r h') (hf:Fr h' r t):aG P f vs t:=by
 intro Z μ w xs hrel hz
 have hrel0:fi Z (fun _=>none) w.heap vs xs:=⟨hrel.1,fun i hi=>tt (hrel.2 i hi) (by
  simp only[Q6,Q7 hi,Rq]
  exact ht _ (Rj _))⟩
 have hr0:gu Z (fun _=>none) w.heap (cat [] fun _=>.dead):=by
  rw[AI]
  exact ⟨fun _=>trivial,fun i j b o s o' s' _ h=>by simp at h,fun id b o s h=>by simp at h,hz,fun id b o s h=>by simp at h⟩
 refine (hc.2 Z _ _ w xs hrel0 hr0 (fun _ _ _=>rfl)).mono ?_
 rintro e w' ⟨x,Z',μ',rfl,hv,hh,hex,_⟩
 refine ⟨x,fun b=>Z' b∨iG μ' b,rfl,fun ν=>zj hh hf hv,hex.same,fun b hb=>.inl (hex.mono.z b hb),?_,fun b hb _=>hex.frame b hb (by rintro ⟨_,_,_,h⟩; simp at h)⟩
 rintro b (hb | ⟨id,o,s,hb⟩)
 ·rcases hex.MQ b hb with h1 | h1
  ·exact .inl h1
  ·exact .inr ⟨h1,hh.cg b hb⟩
 ·rcases hex.zT _ _ _ _ hb with h1 | ⟨_,h1 | ⟨_,_,_,h1⟩⟩
  ·simp at h1
  ·exact .inr ⟨h1,hh.lt _ _ _ _ hb⟩
  ·simp at h1
theorem bH.fy {P:Program} {f:FuncId} {vs:List V} {t:V} (hc:aG P f vs t) (h:aE):bH P f vs h t h:=by
 refine ⟨Ri _,fun Z μ F w xs hrel hr hfree=>(hc Z μ w xs hrel hr.cg).mono ?_⟩
 rintro e w' ⟨x,Z',rfl,hv,hs,hz,hz',ho⟩
 have hm:gj Z Z' μ μ w.heap w'.heap:=⟨hz,fun b hb=>ho b (hr.cg b hb) (fun x=>x),fun _ _ h=>h,ho.oB⟩
 refine ⟨x,Z',μ,rfl,hv μ,⟨fun id=>(hr.obj id).mono hm rfl (fun b o s hx=>ho b (hr.lt _ _ _ _ hx) (fun x=>x)),hr.inj,fun id b o s hx=>RC (hr.lt _ _ _ _ hx) hs.size,fun b hb=>?_,fun id b o s hx hzb=>?_⟩,
  ⟨hs,hm,fun b hb _=>ho b hb (fun x=>x),fun b hb=>?_,fun _ _ _ _ h=>.inl h⟩,fun _ _=>rfl⟩
 ·rcases hz' b hb with h1 | h1
  ·exact RC (hr.cg b h1) hs.size
  ·exact h1.2
 ·rcases hz' b hzb with h1 | h1
  ·exact hr.gf _ _ _ _ hx h1
  ·have:=hr.lt _ _ _ _ hx; omega
 ·rcases hz' b hb with h1 | h1
  ·exact .inl h1
  ·exact .inr h1.1
structure St where
 L:List V
 h:aE
 wl:List Nat
def AG (l:List Nat) (x:Nat):Bool:=!l.contains x
def A6 (a b:Rec):Bool :=
 a.wr.all (AG b.rd) && b.wr.all (AG a.rd) && (!a.call || b.wr.isEmpty) && (!b.call || a.wr.isEmpty) && b.wr.all fun id=>!(decide (a.lo≤id) && decide (id < a.hi))
section
variable {P:Program} {n:Nat}
theorem Lc {a b:Rec} (h:A6 a b=true):l0 a b:=by
 unfold A6 at h
 simp only[Rg,RD,AG,Tx,Se] at h
 obtain ⟨⟨⟨⟨h1,h2⟩,h3⟩,h4⟩,h5⟩:=h
 refine ⟨fun id hid hm=>?_,fun id hid hm=>?_,fun hcall=>?_,fun hcall=>?_,fun id hid hm=>?_⟩
 ·have:=h1 id hid; simp at this; exact this hm
 ·have:=h2 id hid; simp at this; exact this hm
 ·rcases h3 with h3 | h3
  ·rw[hcall] at h3; simp at h3
  ·simpa using h3
 ·rcases h4 with h4 | h4
  ·rw[hcall] at h4; simp at h4
  ·simpa using h4
 ·have:=h5 id hid
  simp at this
  omega
end
inductive SX where
 | tmp (t:Nat)
 | val (v:V)
 deriving Inhabited
def SX.of:Operand→SX
 | .tmp t=>.tmp t
 | .const v=>.val (eE v)
 | .global _=>.val .any
 | .func f=>.val (.fn f [] [])
def SX.at (T:Env):SX→V
 | .tmp t=>T t
 | .val v=>v
theorem SX.cd (T:Env) (x:Operand):(SX.of x).at T=ev T x:=by cases x <;> rfl
inductive SI where
 | bN (x:SX)
 | pick (c a b:SX)
 | box (x:SX)
 | iK (x:SX)
 | alloc (z:List V)
 | build (z:List V) (parts:List (Nat × Nat × SX))
 | c4 (len sz:Nat) (z:List V) (parts:List (Nat × SX))
 | load (sz:Option Nat) (a:SX)
 | xj (sz:Option Nat) (a:SX)
 | store (sz:Nat) (a x:SX)
 | yB (x:SX)
 | addr (off:Nat) (x:SX)
 | field (off:Nat) (sz:Option Nat) (x:SX)
 | idx (sz:Nat) (x i:SX)
 | slice (sz:Nat) (x:SX) (lo hi:Option SX)
 | make (sz bytes:Nat) (z:List V) (l c:SX)
 | mJ
 | qk (f:FuncId) (first cap:List SX)
 | ext (i:Nat) (x:SX)
 | len (x:SX)
 | nK (x:SX)
 | app (sz bytes:Nat) (x y:SX)
 | arith (op:BinOp) (x y:SX)
 | sh (left:Bool) (x y:SX)
 | uU (op:BinOp) (x y:SX)
 | gU (x i:SX)
 | not (x:SX)
 | nil (eq:Bool) (k:Nat) (x y:SX)
 | beq (eq:Bool) (x y:SX)
 | mm (mx:Bool) (x y:SX)
 | conv (k:IntKind) (x:SX)
 | AO (x:SX)
 | fv (x:SX)
 | old (op:Op) (ty:TypeId)
 deriving Inhabited
def kU:Option Nat→List V→Nat→Option V
 | some n,cs,off=>if off+n≤cs.length then some (.agg ((cs.drop off).take n)) else none
 | none,cs,off=>if off < cs.length then some (cs.getD off .any) else none
def tO (sz:Option Nat) (a:V) (H:View):Out:=match a with
 | .ptr id i j=>match H id with
  | .arr _ es=>if i < es.length then (kU sz (es.getD i []) j).map fun v=>(v,.none,[id]) else none
  | _=>none
 | .aL e j=>(kU sz e j).map fun v=>(v,.none,[])
 | _=>none
def Ap (sz:Nat) (a v:V) (H:View):Out:=match a with
 | .ptr id i j=>match H id with
  | .arr esz es =>
   if i < es.length∧v.cells.length=sz∧j+v.cells.length≤esz∧v.cells.all aS=true
   then some (.any,.ep id (.arr esz (es.set i (aa (es.getD i []) j v.cells))),[id]) else none
  | _=>none
 | _=>none
def ab (z:List V) (parts:List (Nat × Nat × V)):Option (List V):=match parts with
 | []=>some z
 | (off,size,x) :: r=>if x.cells.length=size∧off+size≤z.length∧x.cells.all aS=true then ab (aa z off x.cells) r else none
def xk (len sz:Nat) (z:List V) (parts:List (Nat × V)) (n:Nat):Out :=
 match af sz (List.replicate len z) parts with
 | some es=>some (.sl n 0 len sz,.new (.arr sz es),[])
 | none=>none
def xl (off:Nat) (x:V):Out:=match x with
 | .ptr id i j=>some (.ptr id i (j+off),.none,[])
 | .aL e j=>some (.aL e (j+off),.none,[])
 | _=>none
def Bf (sz:Nat) (x i:V):Out:=match asNat i with
 | none=>none
 | some q=>match x with
  | .sl id off len esz=>if q < len∧esz=sz then some (.ptr id (off+q) 0,.none,[]) else none
  | .aH es=>if q < es.length∧(es.getD q []).length=sz then some (.aL (es.getD q []) 0,.none,[]) else none
  | _=>none
def eQ (sz:Nat) (x:V) (lo hi:Option V):Out:=match x with
 | .sl id off len esz=>match bound 0 lo,bound len hi with
  | some l,some h=>if l≤h∧h≤len∧esz=sz then some (.sl id (off+l) (h - l) esz,.none,[]) else none
  | _,_=>none
 | .aH es=>match bound 0 lo,bound es.length hi with
  | some l,some h=>if l≤h∧h≤es.length∧(es.all fun e=>e.length == sz)=true then some (.aH ((es.drop l).take (h - l)),.none,[]) else none
  | _,_=>none
 | .emp k=>match bound 0 lo,bound 0 hi with
  | some 0,some 0=>some (.emp k,.none,[])
  | _,_=>none
 | _=>none
def yO (sz bytes:Nat) (z:List V) (len cap:V) (n:Nat):Out:=match asNat len,asNat cap with
 | some l,some c =>
  if l≤c∧c < aK∧bytes * c < aK then
   (if c=0 then some (.emp 2,.none,[]) else some (.sl n 0 l sz,.new (.arr sz (List.replicate l z)),[]))
  else none
 | _,_=>none
def Fc (sz bytes:Nat) (s x:V) (H:View) (n:Nat):Out:=match bR H x with
 | some (xs,rd) =>
  if xs.isEmpty then (match s with
   | .emp _ | .dt | .aH _ | .sl _ _ _ _=>some (s,.none,[])
   | _=>none)
  else if ¬ ((xs.all fun e=>e.length == sz && e.all aS)=true) then none
  else match s with
   | .emp _=>if xs.length * bytes < aK∧xs.length < aK then some (.sl n 0 xs.length sz,.new (.arr sz xs),rd) else none
   | .sl id off len esz=>match H id with
    | .arr _ es =>
     if off+len≤es.length∧esz=sz∧(len+xs.length) * bytes < aK∧len+xs.length < aK
     then some (.sl n 0 (len+xs.length) esz,.bN id (.arr esz ((es.drop off).take len ++ xs)),id :: rd) else none
    | _=>none
   | _=>none
 | none=>none
def ag (op:BinOp) (k:IntKind) (a b:Int):Option Value:=match op with
 | .add=>some (.int k (k.wrap (a+b)))
 | .sub=>some (.int k (k.wrap (a - b)))
 | .mul=>some (.int k (k.wrap (a * b)))
 | .quo=>if b=0 then none else some (.int k (k.wrap (a.tdiv b)))
 | .rem=>if b=0 then none else some (.int k (a.tmod b))
 | .eql=>some (.bool (a == b))
 | .neq=>some (.bool (a != b))
 | .lss=>some (.bool (a < b))
 | .leq=>some (.bool (a≤b))
 | .gtr=>some (.bool (a > b))
 | .geq=>some (.bool (a≥b))
 | .or=>some (.int k (k.wrap (BitVec.ofInt k.bits a ||| BitVec.ofInt k.bits b).toNat))
 | .and=>some (.int k (k.wrap (BitVec.ofInt k.bits a &&& BitVec.ofInt k.bits b).toNat))
 | .xor=>some (.int k (k.wrap (BitVec.ofInt k.bits a ^^^ BitVec.ofInt k.bits b).toNat))
 | .andNot=>some (.int k (k.wrap (BitVec.ofInt k.bits a &&& ~~~(BitVec.ofInt k.bits b)).toNat))
 | _=>none
def vX (op:BinOp) (x y:V):Out:=match x,y with
 | .val (.int k a),.val (.int k' b)=>if k=k' then (ag op k a b).map fun v=>(.val v,.none,[]) else none
 | _,_=>none
def AH (left:Bool) (k:IntKind) (a b:Int):Int:=if left then k.wrap (a * 2 ^ (min b.toNat k.bits)) else a.fdiv (2 ^ (min b.toNat k.bits))
def K9 (left:Bool) (x y:V):Out:=match x,y with
 | .val (.int k a),.val (.int _ b)=>if b < 0 then none else some (.val (.int k (AH left k a b)),.none,[])
 | _,_=>none
def Nv:BinOp→Option Bool
 | .shl=>some true
 | .shr=>some false
 | _=>none
def ir (a b:ByteArray):Bool:=a.data.toList == b.data.toList
def yG (op:BinOp) (x y:V):Out:=match x,y with
 | .val (.string a),.val (.string b)=>match op with
  | .eql=>some (.val (.bool (ir a b)),.none,[])
  | .neq=>some (.val (.bool (!ir a b)),.none,[])
  | _=>none
 | _,_=>none
def zi (x i:V):Out:=match x,asNat i with
 | .val (.string s),some q=>match s.data.toList[q]? with
  | some b=>some (.val (.int .u8 b.toNat),.none,[])
  | none=>none
 | _,_=>none
def ai:Option Bool→Option Bool→Option Bool
 | some true,some b=>some b
 | some b,some true=>some b
 | _,_=>none
theorem GZ {P:Program} {t:TypeId} {k:Nat} (h:iL P t=some k) (x y:V):Bc P t x y=ai (ae k x) (ae k y):=by
 simp only[Bc,h]
 unfold ai
 split <;> simp_all
def oper (op:Op) (ty:TypeId):Oper:=⟨none,op,ty,"",#[],none⟩
theorem ND (P:Program) (o:Oper) (T:Env) (H:View) (n:Nat):bV P (oper o.op o.type) T H n=bV P o T H n:=by
 cases o; rfl
def sI (P:Program) (s:SI) (T:Env) (H:View) (n:Nat):Out:=match s with
 | .bN x=>some (x.at T,.none,[])
 | .pick c a b=>match c.at T with
  | .val (.bool t)=>some (if t then a.at T else b.at T,.none,[])
  | _=>none
 | .box x=>kE (x.at T).cells n
 | .iK x=>if (x.at T).cells.all aS=true then some (.aL (x.at T).cells 0,.none,[]) else none
 | .alloc z=>kE z n
 | .build z parts=>(ab z (parts.map fun (a,b,x)=>(a,b,x.at T))).map fun cs=>(.agg cs,.none,[])
 | .c4 len sz z parts=>xk len sz z (parts.map fun (i,x)=>(i,x.at T)) n
 | .load sz a=>tO sz (a.at T) H
 | .xj sz a=>match a.at T with
  | .aL e j=>(kU sz e j).map fun v=>(v,.none,[])
  | _=>none
 | .store sz a x=>Ap sz (a.at T) (x.at T) H
 | .yB x=>match x.at T with
  | .ptr id i j=>some (.ptr id i j,.none,[])
  | .aL e j=>some (.aL e j,.none,[])
  | .fn f a b=>some (.fn f a b,.none,[])
  | _=>none
 | .addr off x=>xl off (x.at T)
 | .field off sz x=>match x.at T with
  | .agg cs=>(kU sz cs off).map fun v=>(v,.none,[])
  | _=>none
 | .idx sz x i=>Bf sz (x.at T) (i.at T)
 | .slice sz x lo hi=>eQ sz (x.at T) (lo.map (SX.at T)) (hi.map (SX.at T))
 | .make sz bytes z l c=>yO sz bytes z (l.at T) (c.at T) n
 | .mJ=>some (.mp n,.new (.map [] 0),[])
 | .qk f first cap=>some (.fn f (first.map (SX.at T)) (cap.map (SX.at T)),.none,[])
 | .ext i x=>match x.at T with
  | .bt vs=>if i < vs.length then some (vs.getD i .any,.none,[]) else none
  | _=>none
 | .len x=>(cY (x.at T)).map fun n=>(ak n,.none,[])
 | .nK x=>match x.at T with
  | .val (.string s)=>some (ak s.size,.none,[])
  | _=>none
 | .app sz bytes x y=>Fc sz bytes (x.at T) (y.at T) H n
 | .arith op x y=>vX op (x.at T) (y.at T)
 | .sh l x y=>K9 l (x.at T) (y.at T)
 | .uU op x y=>yG op (x.at T) (y.at T)
 | .gU x i=>zi (x.at T) (i.at T)
 | .not x=>match x.at T with
  | .val (.bool t)=>some (.val (.bool (!t)),.none,[])
  | _=>none
 | .nil eq k x y=>match ai (ae k (x.at T)) (ae k (y.at T)) with
  | some b=>some (.val (.bool (if eq then b else !b)),.none,[])
  | none=>none
 | .beq eq x y=>match x.at T,y.at T with
  | .val (.bool a),.val (.bool b)=>some (.val (.bool (if eq then a == b else a != b)),.none,[])
  | _,_=>none
 | .mm mx x y=>match x.at T,y.at T with
  | .val (.int k a),.val (.int _ b)=>some (.val (.int k (if mx then (if b > a then b else a) else (if b < a then b else a))),.none,[])
  | _,_=>none
 | .conv k x=>match x.at T with
  | .val (.int _ a)=>some (.val (.int k (k.wrap a)),.none,[])
  | _=>none
 | .AO x=>match x.at T with
  | .aH es=>(j9 es).map fun l=>(.val (.string ⟨l.toArray⟩),.none,[])
  | _=>none
 | .fv x=>match x.at T with
  | .val (.string s)=>some (.aH (fU s),.none,[])
  | _=>none
 | .old op ty=>bV P (oper op ty) T H n
def zb (P:Program) (t:TypeId):Option (Option Nat):=match P.info? t,pO P t with
 | some i,some true=>some (some i.size)
 | some _,some false=>some none
 | _,_=>none
theorem te {P:Program} {t:TypeId} {k:Option Nat} (h:zb P t=some k) (cs:List V) (j:Nat):oh P t cs j=kU k cs j:=by
 unfold zb at h
 split at h
 ·rename_i i h1 h2
  simp at h; subst h; simp[oh,h1,h2,kU]
 ·rename_i i h1 h2
  simp at h; subst h; simp[oh,h1,h2,kU]
 ·simp at h
def qL (P:Program) (t:TypeId):Option (Nat × Nat × List V):=match cx P t with
 | some e=>match P.info? e,zeroCells P e with
  | some ti,some z=>if z.length=ti.size∧z.all aS=true∧ti.size≠0 then some (ti.size,ti.bytes,z) else none
  | _,_=>none
 | none=>none
theorem nI {P:Program} {t:TypeId} {sz by':Nat} {z:List V} (h:qL P t=some (sz,by',z)) :
  ∃ e ti,cx P t=some e∧P.underlying t=some (.slice e)∧P.info? e=some ti∧zeroCells P e=some z∧z.length=ti.size∧z.all aS=true∧ti.size≠0∧sz=ti.size∧by'=ti.bytes:=by
 unfold qL at h
 split at h
 ·rename_i e he
  split at h
  ·rename_i ti z' h1 h2
   split at h
   ·rename_i hc
    simp at h
    obtain ⟨rfl,rfl,rfl⟩:=h
    have hu:P.underlying t=some (.slice e):=by
     unfold cx at he; split at he
     ·rename_i h3; simp at he; subst he; exact h3
     ·simp at he
    exact ⟨e,ti,he,hu,h1,h2,hc.1,hc.2.1,hc.2.2,rfl,rfl⟩
   ·simp at h
  ·simp at h
 ·simp at h
def sd (P:Program) (t:TypeId):List (Nat × Operand)→Option (List (Nat × Nat × SX))
 | []=>some []
 | (i,x) :: r=>match placeOf P t i,sd P t r with
  | some (a,b),some l=>some ((a,b,SX.of x) :: l)
  | _,_=>none
def comp (P:Program) (o:Oper):SI:=match o.op with
 | .move x | .assign x=>.bN (SX.of x)
 | .pick c a b=>.pick (SX.of c) (SX.of a) (SX.of b)
 | .alloc e=>match zeroCells P e with
  | some z=>.alloc z
  | none=>.old o.op o.type
 | .box _ x=>.box (SX.of x)
 | .load t a=>match zb P t with
  | some k=>.load k (SX.of a)
  | none=>.old o.op o.type
 | .store t a v=>match P.info? t with
  | some _=>.store (P.cellsOf t) (SX.of a) (SX.of v)
  | none=>.old o.op o.type
 | .nilCheck x=>.yB (SX.of x)
 | .fieldAddr t x f=>match nR P t f with
  | some (off,s,_)=>if s=0 then .old o.op o.type else .addr off (SX.of x)
  | none=>.old o.op o.type
 | .field t x f=>match nR P t f with
  | some (off,_,ft)=>match zb P ft with
   | some k=>.field off k (SX.of x)
   | none=>.old o.op o.type
  | none=>.old o.op o.type
 | .indexAddr t x i=>match qL P t with
  | some (sz,_,_)=>.idx sz (SX.of x) (SX.of i)
  | none=>.old o.op o.type
 | .slice t x lo hi none=>match qL P t with
  | some (sz,_,_)=>.slice sz (SX.of x) (lo.map SX.of) (hi.map SX.of)
  | none=>.old o.op o.type
 | .makeSlice t l c=>match qL P t with
  | some (sz,b,z)=>.make sz b z (SX.of l) (SX.of c)
  | none=>.old o.op o.type
 | .makeMap _ none=>.mJ
 | .makeFunc (.func f) first cap=>.qk f (first.toList.map SX.of) (cap.toList.map SX.of)
 | .extract t i=>.ext i (SX.of t)
 | .build t parts=>match P.underlying t,zeroV P t with
  | some (.struct _),some (.agg z)=>if kT P t=true then
    (match sd P t parts.toList with
    | some ps=>.build z ps
    | none=>.old o.op o.type) else .old o.op o.type
  | _,_=>.old o.op o.type
 | .buildSlice t len parts=>match qL P t with
  | some (sz,_,z)=>if len=0∧parts.toList.isEmpty=true then .bN (.val (.emp 2)) else if len * sz≤2 ^ 24∧len≠0 then .c4 len sz z (parts.toList.map fun (i,x)=>(i,SX.of x)) else .old o.op o.type
  | none=>.old o.op o.type
 | .call { callee:=.builtin b,args,argTypes }=>match b,args.toList with
  | .len,[x]=>if 1≤argTypes.size then (match P.underlying (argTypes.getD 0 0) with
   | some (.slice _)=>.len (SX.of x)
   | some .string=>.nK (SX.of x)
   | _=>.old o.op o.type) else .old o.op o.type
  | .append,[s,x]=>if 2≤argTypes.size∧om P (argTypes.getD 1 0)=true then (match qL P (argTypes.getD 0 0) with
   | some (sz,b,_)=>.app sz b (SX.of s) (SX.of x)
   | none=>.old o.op o.type) else .old o.op o.type
  | .min,[x,y]=>.mm false (SX.of x) (SX.of y)
  | .max,[x,y]=>.mm true (SX.of x) (SX.of y)
  | _,_=>.old o.op o.type
 | .convert s d x=>match P.underlying s,P.underlying d with
  | some (.int _),some (.int k)=>.conv k (SX.of x)
  | _,_=>.old o.op o.type
 | .binOp op t x y _=>match iL P t with
  | some k=>match op with
   | .eql=>.nil true k (SX.of x) (SX.of y)
   | .neq=>.nil false k (SX.of x) (SX.of y)
   | _=>.old o.op o.type
  | none=>match P.underlying t with
   | some (.int _)=>match Nv op with
    | some l=>.sh l (SX.of x) (SX.of y)
    | none=>.arith op (SX.of x) (SX.of y)
   | some .string=>.uU op (SX.of x) (SX.of y)
   | some .bool=>match op with
    | .eql=>.beq true (SX.of x) (SX.of y)
    | .neq=>.beq false (SX.of x) (SX.of y)
    | _=>.old o.op o.type
   | _=>.old o.op o.type
 | .unOp .not _ x=>.not (SX.of x)
 | .index t x i=>match P.underlying t with
  | some .string=>.gU (SX.of x) (SX.of i)
  | _=>.old o.op o.type
 | _=>.old o.op o.type
theorem CH {P:Program} {t:TypeId} {T:Env} : ∀ (parts:List (Nat × Operand)) (ps:List (Nat × Nat × SX)) (z:List V),sd P t parts=some ps →
  ua (placeOf P t) z (parts.map fun (i,x)=>(i,ev T x))=ab z (ps.map fun (a,b,x)=>(a,b,x.at T))
 | [],ps,z,h=>by simp[sd] at h; subst h; rfl
 | (i,x) :: r,ps,z,h=>by
  simp only[sd] at h
  split at h
  ·rename_i a b l h1 h2
   simp at h; subst h
   simp only[RE,ua,h1,ab,SX.cd]
   split
   ·exact CH r l _ h2
   ·rfl
  ·simp at h
theorem FO {P:Program} {o:Oper} {T:Env} {op:BinOp} {t u:TypeId} {x y:Operand} {k:IntKind} {a b:Int} {r:Value} (ho:o.op=.binOp op t x y u) (hx:ev T x=.val (.int k a)) (hy:ev T y=.val (.int k b)) (h:ag op k a b=some r) :
  dp P o T=some (.val r,.none,[]):=by
 unfold dp
 simp only[ho,Op.operands]
 simp only[hx,hy,cJ]
 cases op <;> simp only[ag,Q8,reduceCtorEq] at h
 all_goals first
  | (
   split at h
   ·simp at h
   ·rename_i hb
    simp at h; subst h
    simp[execOp,ho,hx,hy,cJ,eqGuard,binOp,Op.intDiv,hb,plain]
    try rfl)
  | (subst h; simp[execOp,ho,hx,hy,cJ,eqGuard,binOp,Op.intArith,Op.intCmp,Op.intBits,plain]; try rfl)
theorem LZ {P:Program} {o:Oper} {T:Env} {op:BinOp} {t u:TypeId} {x y:Operand} {l:Bool} {v:V} {eff:bf} {rd:List Nat} (ho:o.op=.binOp op t x y u) (hs:Nv op=some l) (h:K9 l (ev T x) (ev T y)=some (v,eff,rd)) :
  dp P o T=some (v,eff,rd):=by
 unfold K9 at h
 split at h
 ·rename_i k a k' b hx hy
  split at h
  ·simp at h
  ·rename_i hb
   simp only[Q8,Rb] at h
   obtain ⟨rfl,rfl,rfl⟩:=h
   unfold dp
   simp only[ho,Op.operands]
   simp only[hx,hy,cJ]
   cases op <;> simp only[Nv,Q8,reduceCtorEq] at hs
   all_goals
    subst hs
    simp[execOp,ho,hx,hy,cJ,eqGuard,binOp,Op.shift,hb,plain,AH]
    try rfl
 ·simp at h
theorem Jz {P:Program} {o:Oper} {T:Env} {op:BinOp} {t u:TypeId} {x y:Operand} {v:V} {eff:bf} {rd:List Nat} (ho:o.op=.binOp op t x y u) (h:yG op (ev T x) (ev T y)=some (v,eff,rd)) :
  dp P o T=some (v,eff,rd):=by
 unfold yG at h
 split at h
 ·rename_i a b hx hy
  unfold dp
  simp only[ho,Op.operands,hx,hy,cJ]
  have he:(a.toList == b.toList)=ir a b:=by simp[ir,ByteArray.toList_eq]
  split at h
  ·simp at h; obtain ⟨rfl,rfl,rfl⟩:=h
   simp[execOp,ho,hx,hy,cJ,eqGuard,binOp,Op.stringOp,plain,← he]; rfl
  ·simp at h; obtain ⟨rfl,rfl,rfl⟩:=h
   simp[execOp,ho,hx,hy,cJ,eqGuard,binOp,Op.stringOp,plain,← he]; rfl
  ·simp at h
 ·simp at h
theorem It {P:Program} {o:Oper} {T:Env} {t:TypeId} {x i:Operand} {v:V} {eff:bf} {rd:List Nat} (ho:o.op=.index t x i) (hu:P.underlying t=some .string) (h:zi (ev T x) (ev T i)=some (v,eff,rd)) :
  dp P o T=some (v,eff,rd):=by
 unfold zi at h
 split at h
 ·rename_i s q hx hq
  split at h
  ·rename_i b hb
   simp at h; obtain ⟨rfl,rfl,rfl⟩:=h
   unfold asNat at hq
   split at hq
   ·rename_i k z hz
    split at hq
    ·rename_i h0
     simp at hq; subst hq
     have hs:s[z.toNat]?=some b:=by
      obtain ⟨hlt,rfl⟩:=Rl.1 hb
      have hlt':z.toNat < s.size:=by rw[bsize] at hlt; exact hlt
      rw[getElem?_pos s z.toNat hlt']
      rfl
     unfold dp
     simp only[ho,Op.operands,hx,hz,cJ]
     simp[execOp,ho,hx,hz,cJ,Instr.index,asIntOf,underlying,program,hu,h0,hs,plain]
     simp[bp,hu,h0,hs,plain,bind,Sem.bind,pure]
     rfl
    ·simp at hq
   ·simp at hq
  ·simp at h
 ·simp at h
theorem KA {P:Program} {o:Oper} {T:Env} {t:TypeId} {x:Operand} {b:Bool} (ho:o.op=.unOp .not t x) (hx:ev T x=.val (.bool b)) :
  dp P o T=some (.val (.bool (!b)),.none,[]):=by
 unfold dp
 simp only[ho,Op.operands,hx,cJ]
 simp[execOp,ho,hx,cJ,Op.unary,plain]
 rfl
theorem iA {α β:Type} (P:Program) (s:Sem α) (f:α→β):bp P (Functor.map f s)=(bp P s).map f:=by
 show bp P (s >>= fun a=>pure (f a))=_
 rw[aW]
 cases bp P s <;> rfl
theorem dB {P:Program} {t:TypeId} {d:TypeDesc} (h:P.underlying t=some d):bp P (underlying t)=some d:=by
 simp only[underlying,program,aW]
 simp[bp,h]
 rfl
theorem uL {P:Program} {t:TypeId} {a b:Bool} (hu:P.underlying t=some .bool):bp P (Op.equal t (.bool a) (.bool b))=some (a == b):=by
 rw[kf]
 generalize 9999=d
 simp only[Op.equalIn,aW,dB hu,RK]
 rfl
theorem BO {P:Program} {o:Oper} {T:Env} {op:BinOp} {t u:TypeId} {x y:Operand} {a b:Bool} {r:Bool} (ho:o.op=.binOp op t x y u) (hu:P.underlying t=some .bool) (hx:ev T x=.val (.bool a)) (hy:ev T y=.val (.bool b))
  (hr:(op=.eql∧r=(a == b))∨(op=.neq∧r=(a != b))) :
  dp P o T=some (.val (.bool r),.none,[]):=by
 unfold dp
 simp only[ho,Op.operands,hx,hy,cJ]
 rcases hr with ⟨rfl,rfl⟩ | ⟨rfl,rfl⟩
 ·simp[execOp,ho,hx,hy,cJ,eqGuard,binOp,iA,aW,uL hu,plain]
  try simp[bp,pure,plain]
 ·simp[execOp,ho,hx,hy,cJ,eqGuard,binOp,iA,aW,uL hu,plain]
  try simp[bp,pure,plain,bne]
theorem HO {P:Program} {o:Oper} {T:Env} {s d:TypeId} {x:Operand} {k0 k k':IntKind} {a:Int} (ho:o.op=.convert s d x) (hs:P.underlying s=some (.int k0)) (hd:P.underlying d=some (.int k)) (hx:ev T x=.val (.int k' a)) :
  dp P o T=some (.val (.int k (k.wrap a)),.none,[]):=by
 unfold dp
 simp only[ho,Op.operands,hx,cJ]
 have:bp P (convert s d (.int k' a))=some (.int k (k.wrap a)):=by
  simp only[convert,aW,dB hs,dB hd,RK]
  rfl
 simp[execOp,ho,hx,cJ,iA,this,plain]
theorem Dq {P:Program} {o:Oper} {T:Env} {bi:Builtin} {x y:Operand} {k k':IntKind} {a b:Int} {args:Array Operand} {ats:Array TypeId} {r:Int} (ho:o.op=.call { callee:=.builtin bi,args:=args,argTypes:=ats }) (ha:args.toList=[x,y])
  (hx:ev T x=.val (.int k a)) (hy:ev T y=.val (.int k' b)) (hr:(bi=.max∧r=if b > a then b else a)∨(bi=.min∧r=if b < a then b else a)) :
  dp P o T=some (.val (.int k r),.none,[]):=by
 obtain rfl:args = #[x,y]:=by rw[← Array.toArray_toList (xs:=args),ha]
 unfold dp
 rcases hr with ⟨rfl,rfl⟩ | ⟨rfl,rfl⟩
 ·have:bp P (Builtin.max_ ats o.type #[.int k a,.int k' b])=some (.int k (if b > a then b else a)):=rfl
  simp[ho,Op.operands,Call.operands,hx,hy,cJ,execOp,resolve,invoke,builtin,iA,this,plain]
 ·have:bp P (Builtin.min_ ats o.type #[.int k a,.int k' b])=some (.int k (if b < a then b else a)):=rfl
  simp[ho,Op.operands,Call.operands,hx,hy,cJ,execOp,resolve,invoke,builtin,iA,this,plain]
theorem zV (l:List Operand) (T:Env):(l.map SX.of).map (SX.at T)=l.map (ev T):=by
 rw[List.map_map]; congr 1; funext x; exact SX.cd T x
theorem On (l:Option Operand) (T:Env):(l.map SX.of).map (SX.at T)=l.map (ev T):=by
 cases l <;> simp[SX.cd]
theorem OP (l:List (Nat × Operand)) (T:Env):(l.map fun (i,x)=>(i,SX.of x)).map (fun (i,x)=>(i,SX.at T x))=l.map fun (i,x)=>(i,ev T x):=by
 rw[List.map_map]; congr 1; funext x; simp[SX.cd]
theorem Ht {P:Program} {o:Oper} {T:Env} {H:View} {n:Nat} {v:V} {eff:bf} {rd:List Nat} (h:sI P (comp P o) T H n=some (v,eff,rd)) :
  bV P o T H n=some (v,eff,rd):=by
 have old:∀ {s:SI},s=.old o.op o.type→sI P s T H n=some (v,eff,rd)→bV P o T H n=some (v,eff,rd):=fun e h=>by rw[e] at h; simp only[sI,ND] at h; exact h
 unfold comp at h
 split at h
 ·rename_i x ho; simp only[sI,SX.cd] at h; simp only[bV,ho]; exact h
 ·rename_i x ho; simp only[sI,SX.cd] at h; simp only[bV,ho]; exact h
 ·rename_i c a b ho; simp only[sI,SX.cd] at h; simp only[bV,ho]; exact h
 ·rename_i e ho
  split at h
  ·rename_i z hz; simp only[sI] at h; simp only[bV,ho,hz]; exact h
  ·exact old rfl h
 ·rename_i t x ho; simp only[sI,SX.cd] at h; simp only[bV,ho]; exact h
 ·rename_i t a ho
  split at h
  ·rename_i k hk
   simp only[sI,SX.cd,tO] at h
   simp only[bV,ho,kW,te hk]
   exact h
  ·exact old rfl h
 ·rename_i t a x ho
  split at h
  ·rename_i ti hti
   simp only[sI,SX.cd,Ap] at h
   simp only[bV,ho,oR,hti,Option.isSome_some,and_true]
   exact h
  ·exact old rfl h
 ·rename_i x ho; simp only[sI,SX.cd] at h; simp only[bV,ho]; exact h
 ·rename_i t x f ho
  split at h
  ·rename_i off s ft hpl
   split at h
   ·exact old rfl h
   ·rename_i hs
    simp only[sI,SX.cd,xl] at h
    simp only[bV,ho,kd,hpl,hs,if_false]
    exact h
  ·exact old rfl h
 ·rename_i t x f ho
  split at h
  ·rename_i off s ft hpl
   split at h
   ·rename_i k hk
    simp only[sI,SX.cd] at h
    simp only[bV,ho,sK,hpl]
    split at h
    ·rename_i cs hcs; simp only[hcs,te hk]; exact h
    ·simp at h
   ·exact old rfl h
  ·exact old rfl h
 ·rename_i t x i ho
  split at h
  ·rename_i sz b z hk
   obtain ⟨e,ti,h1,h2,h3,h4,h5,h6,h7,rfl,rfl⟩:=nI hk
   simp only[sI,SX.cd,Bf] at h
   simp only[bV,ho,kj,h2,h3]
   exact h
  ·exact old rfl h
 ·rename_i t x lo hi ho
  split at h
  ·rename_i sz b z hk
   obtain ⟨e,ti,h1,h2,h3,h4,h5,h6,h7,rfl,rfl⟩:=nI hk
   simp only[sI,SX.cd,On] at h
   simp only[bV,ho]
   have hsl:qJ P t (ev T x) (lo.map (ev T)) (hi.map (ev T)) none=some (v,eff,rd):=by
    simp only[qJ,h1,h3]
    unfold eQ at h
    split at h
    ·rename_i h9; rw[h9]; exact h
    ·rename_i h9; rw[h9]; exact h
    ·rename_i h9; rw[h9]; exact h
    ·simp at h
   unfold eQ at h
   split at h
   ·rename_i h9; rw[h9] at hsl ⊢; exact hsl
   ·rename_i h9; rw[h9] at hsl ⊢; exact hsl
   ·rename_i h9; rw[h9] at hsl ⊢; exact hsl
   ·simp at h
  ·exact old rfl h
 ·rename_i t l c ho
  split at h
  ·rename_i sz b z hk
   obtain ⟨e,ti,h1,h2,h3,h4,h5,h6,h7,rfl,rfl⟩:=nI hk
   simp only[sI,SX.cd,yO] at h
   simp only[bV,ho,kg,h1,h3]
   split at h
   ·rename_i l' c' hl hc
    simp only[hl,hc,h7,if_false,h4,h5,h6,and_self,if_true]
    exact h
   ·simp at h
  ·exact old rfl h
 ·rename_i t ho; simp only[sI] at h; simp only[bV,ho]; exact h
 ·rename_i f first cap ho; simp only[sI,zV] at h; simp only[bV,ho]; exact h
 ·rename_i t i ho; simp only[sI,SX.cd] at h; simp only[bV,ho]; exact h
 ·rename_i t parts ho
  split at h
  ·rename_i fs z h1 h2
   split at h
   ·rename_i h3
    split at h
    ·rename_i ps h4
     simp only[sI] at h
     simp only[bV,ho,sj,h1,h2,h3,if_true]
     have:=CH (T:=T) parts.toList ps z h4
     rw[this]
     exact h
    ·exact old rfl h
   ·exact old rfl h
  ·exact old rfl h
 ·rename_i t len parts ho
  split at h
  ·rename_i sz b z hk
   obtain ⟨e,ti,h1,h2,h3,h4,h5,h6,h7,rfl,rfl⟩:=nI hk
   split at h
   ·rename_i hc
    obtain ⟨rfl,hc⟩:=hc
    simp only[sI,SX.at] at h
    simp only[bV,ho,gE,h1,h3]
    rw[List.isEmpty_iff] at hc
    rw[Q9 (by omega),Ra trivial,hc]
    exact h
   split at h
   ·rename_i hc
    simp only[sI,OP,xk] at h
    simp only[bV,ho,gE,h1,h3]
    rw[Q9 (by omega),Q9 hc.2,Q9 h7]
    simp only[h4,h5,h6,and_self,if_true]
    exact h
   ·exact old rfl h
  ·exact old rfl h
 ·rename_i b args ats ho
  split at h
  ·rename_i x hargs
   split at h
   ·rename_i hsz
    simp only[bV,ho,hargs,hsz,if_true,rX]
    split at h
    ·rename_i e hu
     simp only[sI,SX.cd] at h
     simp only[hu]; exact h
    ·rename_i hu
     simp only[sI,SX.cd] at h
     simp only[hu]
     exact h
    ·have:=old rfl h
     simpa only [bV,ho,hargs,hsz,if_true,rX] using this
   ·exact old rfl h
  ·rename_i s x hargs
   split at h
   ·rename_i hsz
    split at h
    ·rename_i sz b z hk
     obtain ⟨e,ti,h1,h2,h3,h4,h5,h6,h7,rfl,rfl⟩:=nI hk
     simp only[sI,SX.cd] at h
     simp only[bV,ho,hargs]
     rw[Ra hsz]
     unfold Fc at h
     split at h
     ·rename_i xs rd' hel
      simp only[lH,h1,hel,h3]
      have hz:(zeroCells P e).map List.length=some ti.size:=by rw[h4]; simp[h5]
      split at h
      ·rename_i hemp; rw[Ra hemp]; exact h
      ·rename_i hemp
       rw[Q9 hemp]
       split at h
       ·simp at h
       ·rename_i hall
        rw[Q9 (by
         rintro (h9 | h9 | h9)
         ·exact h7 h9
         ·exact h9 hz
         ·exact hall h9)]
        exact h
     ·simp at h
    ·exact old rfl h
   ·exact old rfl h
  ·rename_i x y hargs
   simp only[sI,SX.cd] at h
   simp only[bV,ho]
   split at h
   ·rename_i k a k' b hx hy
    have:=Dq (P:=P) (T:=T) ho hargs hx hy (.inr ⟨rfl,rfl⟩)
    rw[this]; exact h
   ·simp at h
  ·rename_i x y hargs
   simp only[sI,SX.cd] at h
   simp only[bV,ho]
   split at h
   ·rename_i k a k' b hx hy
    have:=Dq (P:=P) (T:=T) ho hargs hx hy (.inl ⟨rfl,rfl⟩)
    rw[this]; exact h
   ·simp at h
  ·exact old rfl h
 ·rename_i s d x ho
  split at h
  ·rename_i k0 k hs hd
   simp only[sI,SX.cd] at h
   simp only[bV,ho]
   split at h
   ·rename_i k' a hx
    have hb:¬ (jV P s d=true):=by simp[jV,hs,hd]
    rw[Q9 hb,HO ho hs hd hx]; exact h
   ·simp at h
  ·exact old rfl h
 ·rename_i op t x y u ho
  split at h
  ·rename_i k hk
   have hsome:(iL P t).isSome=true:=by rw[hk]; rfl
   split at h
   ·simp only[sI,SX.cd] at h
    simp only[bV,ho]
    rw[Ra hsome,GZ hk]
    split at h
    ·rename_i b hb; rw[hb]; simpa using h
    ·simp at h
   ·simp only[sI,SX.cd] at h
    simp only[bV,ho]
    rw[Ra hsome,GZ hk]
    split at h
    ·rename_i b hb; rw[hb]; simpa using h
    ·simp at h
   ·exact old rfl h
  ·rename_i hk
   have hnone:¬ ((iL P t).isSome=true):=by rw[hk]; simp
   split at h
   ·split at h
    ·rename_i l hs
     simp only[sI,SX.cd] at h
     simp only[bV,ho]
     rw[Q9 hnone]
     exact LZ ho hs h
    ·simp only[sI,SX.cd,vX] at h
     simp only[bV,ho]
     split at h
     ·rename_i k a k' b hx hy
      split at h
      ·rename_i hkk
       subst hkk
       simp only[Rf] at h
       obtain ⟨r,hr,h⟩:=h
       rw[Q9 hnone,FO ho hx hy hr]; exact Sp some h
      ·simp at h
     ·simp at h
   ·simp only[sI,SX.cd] at h
    simp only[bV,ho]
    rw[Q9 hnone]
    exact Jz ho h
   ·rename_i hu
    split at h
    ·simp only[sI,SX.cd] at h
     simp only[bV,ho]
     split at h
     ·rename_i a b hx hy
      rw[Q9 hnone,BO ho hu hx hy (.inl ⟨rfl,rfl⟩)]; simpa using h
     ·simp at h
    ·simp only[sI,SX.cd] at h
     simp only[bV,ho]
     split at h
     ·rename_i a b hx hy
      rw[Q9 hnone,BO ho hu hx hy (.inr ⟨rfl,rfl⟩)]; simpa using h
     ·simp at h
    ·exact old rfl h
   ·exact old rfl h
 ·rename_i t x ho
  simp only[sI,SX.cd] at h
  simp only[bV,ho]
  split at h
  ·rename_i b hb; rw[KA ho hb]; exact h
  ·simp at h
 ·rename_i t x i ho
  split at h
  ·rename_i hu
   simp only[sI,SX.cd] at h
   simp only[bV,ho]
   exact It ho hu h
  ·exact old rfl h
 ·exact old rfl h
theorem MG {P:Program} {sz:Option Nat} {a:SX} {T:Env} {H:View} {n:Nat} {v:V} {eff:bf} {rd:List Nat} (h:sI P (.xj sz a) T H n=some (v,eff,rd)):sI P (.load sz a) T H n=some (v,eff,rd):=by
 simp only[sI] at h
 simp only[sI,tO]
 split at h
 ·rename_i e j ha; rw[ha]; exact h
 ·simp at h
def toStr (P:Program) (s d:TypeId):Bool:=match P.underlying s,P.underlying d with
 | some (.slice e),some .string=>(match P.underlying e with | some (.int .u8)=>true | _=>false)
 | _,_=>false
def sS (P:Program) (s d:TypeId):Bool:=match P.underlying s,P.underlying d with
 | some .string,some (.slice e)=>(match P.underlying e with | some (.int .u8)=>true | _=>false)
 | _,_=>false
theorem KV {P:Program} {s d:TypeId} (h:toStr P s d=true):∃ e,P.underlying s=some (.slice e)∧P.underlying d=some .string∧P.underlying e=some (.int .u8):=by
 unfold toStr at h
 split at h
 ·rename_i e h1 h2
  split at h
  ·rename_i h3; exact ⟨e,h1,h2,h3⟩
  ·simp at h
 ·simp at h
theorem xG {P:Program} {s d:TypeId} (h:sS P s d=true):∃ e,P.underlying s=some .string∧P.underlying d=some (.slice e)∧P.underlying e=some (.int .u8):=by
 unfold sS at h
 split at h
 ·rename_i e h1 h2
  split at h
  ·rename_i h3; exact ⟨e,h1,h2,h3⟩
  ·simp at h
 ·simp at h
theorem Oh {P:Program} {s d ty:TypeId} {x:Operand} {T:Env} {H:View} {n:Nat} {v:V} {eff:bf} {rd:List Nat} (hc:toStr P s d=true) (h:sI P (.AO (SX.of x)) T H n=some (v,eff,rd)):sI P (.old (.convert s d x) ty) T H n=some (v,eff,rd):=by
 obtain ⟨e,h1,h2,h3⟩:=KV hc
 simp only[sI,SX.cd] at h
 simp only[sI,bV,oper,jV,h1,if_true,ll,h2,h3]
 split at h
 ·rename_i es hx
  rw[hx]
  simp only[bR,cY]
  exact h
 ·simp at h
inductive SB where
 | op (s:SI)
 | call (f:SX) (args:List SX)
 | w5 (f:SX) (args:List SX)
 deriving Inhabited
structure SO where
 dst:Option Nat
 guard:Option (Nat × Bool)
 b:SB
 deriving Inhabited
structure SG where
 guard:Option (Nat × Bool)
 ops:List (Option Nat × SB)
 deriving Inhabited
inductive SC where
 | skip
 | region (quiet:Bool) (gs:List SG)
 | pT (aps:List (Nat × Nat)) (gs:List SG)
 | Bq (tol:Nat × Nat × Nat) (aps:List (Nat × Nat)) (gs:List SG)
 | seq (x y:SC)
 | cond (c:SX) (x y:SC)
 | block (id:Nat) (c:SC)
 | loop (c:SC)
 | exit (id:Nat)
 | ret
 | scope (l:Nat) (c r:SC)
 | label (l:Nat)
 | goto (l:Nat)
 deriving Inhabited
def ml:SC→Nat→Option SC
 | .seq a b,l=>match ml a l with
  | some r=>some (.seq r b)
  | none=>ml b l
 | .label l',l=>if l' == l then some .skip else none
 | _,_=>none
def Fy:SC→Option Nat
 | .seq a b=>match Fy a with
  | some l=>some l
  | none=>Fy b
 | .label l=>some l
 | _=>none
def xb (l:Nat):Exit→Prop→Prop→Prop
 | .goto l',a,_=>l'=l∧a
 | _,_,b=>b
inductive SR where
 | tmp (t:Nat)
 | cell (t:Nat) (sz:Option Nat)
 deriving Inhabited
def w9 (P:Program) (op:Op):Nat:=match op with
 | .convert s d _=>if jV P s d=true then 2 else 0
 | .call { callee:=.builtin b,.. }=>match b with
  | .min | .max | .complex | .real | .imag=>0
  | .len=>1
  | _=>2
 | .lookup ..=>1
 | .binOp .. | .unOp .. | .index ..=>0
 | _=>2
def rj (P:Program):SI→Nat
 | .bN _ | .pick .. | .iK _ | .yB _ | .addr .. | .field .. | .idx .. | .slice .. | .qk .. | .ext .. | .len _ | .nK _ | .arith .. | .sh .. | .uU .. | .gU .. | .not _ | .nil .. | .build .. | .xj .. | .beq .. | .mm .. | .conv .. | .AO _ | .fv _=>0
 | .load .. | .box _ | .alloc _ | .c4 .. | .make .. | .mJ=>1
 | .store .. | .app ..=>2
 | .old op _=>w9 P op
def iq (P:Program) (quiet:Bool):SB→Nat
 | .op s=>rj P s
 | .call ..=>if quiet then 1 else 2
 | .w5 ..=>1
structure Fz where
 l:List Nat
 fr:Bool
def wJ (P:Program) (fr:Bool):SI→SI
 | .load k a=>if fr then .xj k a else .load k a
 | .old (.convert s d x) ty=>if fr && toStr P s d then .AO (SX.of x) else .old (.convert s d x) ty
 | s=>s
def lf (P:Program) (fz:Fz) (o:Oper):SB:=match o.op with
 | .call { callee:=.value f,args,.. }=>if (match o.dst with | some d=>fz.l.contains (200000+d) | none=>false) then .w5 (SX.of f) (args.toList.map SX.of) else .call (SX.of f) (args.toList.map SX.of)
 | .box _ x=>if (match o.dst with | some d=>fz.l.contains d | none=>false) then .op (.iK (SX.of x)) else .op (.box (SX.of x))
 | .convert s d x=>if (match o.dst with | some t=>fz.l.contains t | none=>false) && sS P s d then .op (.fv (SX.of x)) else .op (wJ P fz.fr (comp P o))
 | _=>.op (wJ P fz.fr (comp P o))
def sn (n:Nat) (all:List Oper) (o:Oper):Option (Option (Nat × Bool)):=match o.guard with
 | none=>some none
 | some (j,want)=>match (all[j]?).bind (·.dst) with
  | some d=>if d < n then some (some (d,want)) else none
  | none=>none
def C6 (P:Program) (n:Nat) (all:List Oper) (fz:Fz) (o:Oper):Option SO :=
 if pG n o then (sn n all o).map fun g=>⟨o.dst,g,lf P fz o⟩ else none
def dd (P:Program) (n:Nat) (all:List Oper) (fz:Fz):List Oper→Option (List SO)
 | []=>some []
 | o :: r=>match C6 P n all fz o,dd P n all fz r with
  | some s,some l=>some (s :: l)
  | _,_=>none
def SG.flat (g:SG):List SO:=g.ops.map fun (d,b)=>⟨d,g.guard,b⟩
def jL (gs:List SG):List SO:=(gs.map SG.flat).flatten
def Jh (g:Option (Nat × Bool)) (s:SO):Bool:=match g,s.guard with
 | none,none=>true
 | some (d,w),some (d',w')=>d == d' && w == w' && s.dst != some d
 | _,_=>false
def group:List SO→List SG
 | []=>[]
 | s :: r=>match group r with
  | g :: gs=>if Jh g.guard s then ⟨g.guard,(s.dst,s.b) :: g.ops⟩ :: gs else ⟨s.guard,[(s.dst,s.b)]⟩ :: g :: gs
  | []=>[⟨s.guard,[(s.dst,s.b)]⟩]
theorem M6 {g:Option (Nat × Bool)} {s:SO} (h:Jh g s=true):s.guard=g:=by
 unfold Jh at h
 split at h
 ·rename_i h1; exact h1
 ·rename_i d w d' w' h1
  simp at h; rw[h1,h.1.1,h.1.2]
 ·simp at h
theorem fF:∀ l:List SO,jL (group l)=l
 | []=>rfl
 | s :: r=>by
  have ih:=fF r
  simp only[group]
  split
  ·rename_i g gs hg
   rw[hg] at ih
   split
   ·rename_i hj
    have:=M6 hj
    rw[← ih]
    cases s with
    | mk d gd b=>simp only at this; subst this; simp[jL,SG.flat]
   ·rw[← ih]; simp[jL,SG.flat]
  ·rename_i hg
   rw[hg] at ih
   rw[← ih]; simp[jL,SG.flat]
def Ba (o:Oper):Bool:=match o.op with
 | .load ..=>true
 | _=>false
def yq (o:Oper):Bool:=match o.op with
 | .alloc _=>true
 | _=>false
def jR (o:Oper):Option Nat:=match o.op,o.guard with
 | .store _ (.tmp t) _,none=>some t
 | _,_=>none
def Pc (all:List Oper) (j k t:Nat):Bool:=match all[j]? with
 | some o=>o.dst == some t && o.guard.isNone && yq o && ((all.drop (j+1)).take (k - (j+1))).all fun o'=>o'.dst != some t
 | none=>false
def xc (all:List Oper) (i k:Nat):Bool:=match all[i]?,all[k]? with
 | some a,some b=>Ba a && (match jR b with
  | some t=>(List.range k).any fun j=>decide (i < j) && Pc all j k t
  | none=>false)
 | _,_=>false
def C8 (all:List Oper) (ls:List Nat):Bool :=
 let b:=eS all []
 ls.zipIdx.all fun (x,i)=>ls.zipIdx.all fun (y,k)=>!decide (i < k) || ordered b i k || x == 0 || y == 0 || (decide (x≤1) && decide (y≤1)) || xc all i k
def pQ (o:Oper):Option Nat:=match o.op with
 | .load _ (.tmp t)=>some t
 | _=>none
def stays (all:List Oper) (i t:Nat):Bool:=(all.drop i).all fun o=>o.dst != some t
def zS (all:List Oper) (i k:Nat):Option (Nat × Nat):=match all[i]?,all[k]? with
 | some a,some b=>match pQ a,jR b with
  | some s,some t=>if stays all i s && stays all k t then some (s,t) else none
  | _,_=>match jR a,pQ b with
   | some t,some s=>if stays all i t && stays all k s then some (s,t) else none
   | _,_=>none
 | _,_=>none
def wc (all:List Oper) (x i y k:Nat):Bool:=!decide (i < k) || ordered (eS all []) i k || x == 0 || y == 0 || (decide (x≤1) && decide (y≤1)) || xc all i k
def jU (all:List Oper) (ls:List Nat):List (Nat × Nat):=ls.zipIdx.flatMap fun (x,i)=>ls.zipIdx.filterMap fun (y,k)=>if wc all x i y k then none else some (i,k)
def zu (all:List Oper):List (Nat × Nat)→Option (List (Nat × Nat))
 | []=>some []
 | (i,k) :: r=>match zS all i k,zu all r with
  | some p,some l=>some (p :: l)
  | _,_=>none
def J6 (o:Oper):Option Nat:=match o.op,o.guard with
 | .call { callee:=.builtin .append,args,.. },none=>match args.toList with
  | [.tmp t,_]=>some t
  | _=>none
 | _,_=>none
def nL (o:Oper):Option Nat:=match jR o with
 | some t=>some t
 | none=>J6 o
def FG (o:Oper):Bool:=match o.op with
 | .buildSlice ..=>true
 | .alloc _=>true
 | _=>false
def newAt (all:List Oper) (k:Nat):Bool:=match all[k]? with
 | some b=>FG b
 | none=>false
def Be (all:List Oper) (i k:Nat):Option (Nat × Nat):=match all[i]?,all[k]? with
 | some a,some b=>match pQ a,nL b with
  | some s,some t=>if stays all i s && stays all k t then some (s,t) else none
  | _,_=>match nL a,pQ b with
   | some t,some s=>if stays all i t && stays all k s then some (s,t) else none
   | _,_=>none
 | _,_=>none
def C5 (all:List Oper) (ls:List Nat) (i k:Nat):Option (Nat × Nat × Nat):=match all[i]?,all[k]? with
 | some a,some b=>match a.op,b.op,a.guard,b.guard with
  | .lookup t (.tmp m) (.tmp q) false,.mapEntry t' (.tmp m') (.tmp q'),none,none =>
   if t == t' && m == m' && q == q' && stays all i m && stays all i q && stays all k m && stays all k q && decide (i < k) && (List.range k).all fun j=>decide (ls.getD j 2≤1) then some (t,m,q) else none
  | _,_,_,_=>none
 | _,_=>none
def Dh (all:List Oper) (ls:List Nat) (tp:Option (Nat × Nat)):List (Nat × Nat):=(jU all ls).filter fun p=>!newAt all p.2 && tp != some p
def xi (o:Oper):Option (Nat × Nat × Nat):=match o.op,o.guard,o.dst with
 | .call { callee:=.builtin .append,args,.. },none,some d=>match args.toList with
  | [.tmp t,.tmp y]=>some (t,y,d)
  | _=>none
 | _,_,_=>none
def Bu (all:List Oper) (i k:Nat):Option (List (Nat × Nat)):=match all[i]?,all[k]? with
 | some a,some b=>match xi a,xi b with
  | some (t,y,d),some (t',y',_)=>if stays all i t && stays all i y && stays all (i+1) d && stays all k t' && stays all k y' then some [(t,t'),(t,y'),(t',y),(d,t')] else none
  | _,_=>none
 | _,_=>none
def xm (all:List Oper) (i k:Nat):Option (List (Nat × Nat)):=match Be all i k with
 | some p=>some [p]
 | none=>Bu all i k
def sy (all:List Oper):List (Nat × Nat)→Option (List (Nat × Nat))
 | []=>some []
 | (i,k) :: r=>match xm all i k,sy all r with
  | some p,some l=>some (p ++ l)
  | _,_=>none
def qO (g:SG):Bool:=match g.guard with
 | none=>true
 | some (d,_)=>g.ops.all fun x=>x.1 != some d
def pF (P:Program) (n:Nat) (fz:Fz) (ops:List Oper) (draw quiet:Bool):Option SC:=match dd P n ops fz ops with
 | none=>none
 | some l=>if !(group l).all qO then none else
  if draw then (if kF ops && C8 ops (l.map fun s=>iq P quiet s.b) then some (.region quiet (group l)) else none)
  else some (.region quiet (group l))
def yY (P:Program) (n:Nat) (fz:Fz) (ops:List Oper):Option SC:=match dd P n ops fz ops with
 | none=>none
 | some l=>if !(group l).all qO then none else
  if kF ops then (zu ops (jU ops (l.map fun s=>iq P false s.b))).map fun aps=>.pT aps (group l) else none
def Oe (all:List Oper) (ls:List Nat):Option (Nat × Nat):=(jU all ls).find? fun p=>(C5 all ls p.1 p.2).isSome
def y8 (P:Program) (n:Nat) (fz:Fz) (ops:List Oper):Option SC:=match dd P n ops fz ops with
 | none=>none
 | some l=>if !(group l).all qO then none else
  if kF ops then
   (match Oe ops (l.map fun s=>iq P false s.b) with
   | none=>(sy ops (Dh ops (l.map fun s=>iq P false s.b) none)).map fun aps=>.pT aps (group l)
   | some p=>match C5 ops (l.map fun s=>iq P false s.b) p.1 p.2 with
    | some tol=>(sy ops (Dh ops (l.map fun s=>iq P false s.b) (some p))).map fun aps=>.Bq tol aps (group l)
    | none=>none)
  else none
def PO:Nat:=100000
def P1:Nat:=100001
def orElse':Option SC→Option SC→Option SC
 | some x,_=>some x
 | none,y=>y
def z7 (P:Program) (n:Nat) (fz:List Nat) (ops:List Oper) (draw:Bool):Option SC :=
 orElse' (pF P n ⟨fz,false⟩ ops draw false) (if draw then orElse' (if fz.contains PO then y8 P n ⟨fz,false⟩ ops else none) <| orElse' (if fz.contains P1 then pF P n ⟨fz,true⟩ ops true false else none) <| orElse' (yY P n ⟨fz,false⟩ ops) (orElse' (pF P n ⟨fz,false⟩ ops true true) (orElse' (pF P n ⟨fz,true⟩ ops true false) (pF P n ⟨fz,true⟩ ops true true))) else none)
def cH (P:Program) (n:Nat) (fz:List Nat):Code→Option SC
 | .skip=>some .skip
 | .region _ ops draw=>z7 P n fz ops.toList draw
 | .seq x y=>match cH P n fz x,cH P n fz y with
  | some a,some b=>some (.seq a b)
  | _,_=>none
 | .cond c x y=>match cH P n fz x,cH P n fz y with
  | some a,some b=>some (.cond (SX.of c) a b)
  | _,_=>none
 | .block id c=>(cH P n fz c).map (.block id)
 | .loop c=>(cH P n fz c).map .loop
 | .exit id=>some (.exit id)
 | .ret=>some .ret
 | .scope c=>match cH P n fz c with
  | some sc=>match Fy sc with
   | some l=>(ml sc l).map fun r=>.scope l sc r
   | none=>none
  | none=>none
 | .label l=>some (.label l)
 | .goto l=>some (.goto l)
 | _=>none
def iB (h h':aE):Prop:=∀ id,id < h.length→h.view id=.dead→h'.view id=.dead
theorem iB.refl (h:aE):iB h h:=fun _ _ e=>e
theorem iB.trans {a b c:aE} (h:iB a b) (k:iB b c) (hl:a.length≤b.length):iB a c:=fun id hid e=>k id (RC hid hl) (h id hid e)
def aB (P:Program) (f:FuncId) (vs:List V) (H:View) (K:V→View→Prop):Prop :=
 db P f=true∧∀ h:aE,h.view=H→∃ r h',bH P f vs h r h'∧iB h h'∧K r h'.view
def Ae (P:Program) (f:FuncId) (vs:List V) (H:View) (K:V→View→Prop):Prop :=
 db P f=true∧∀ h:aE,h.view=H→∃ r h',bH P f vs h r h'∧(∀ id,id < h.length→h'.view id=h.view id)∧K r h'.view
def jb (sz:Option Nat) (e:List V) (j:Nat) (K:V→Prop):Prop:=match sz with
 | some n=>j+n≤e.length∧K (.agg ((e.drop j).take n))
 | none=>j < e.length∧K (e.getD j .any)
def wI (P:Program) (s:SI) (T:Env) (H:View) (K:V→View→Prop):Prop:=match s with
 | .bN x=>K (x.at T) H
 | .pick c a b=>match c.at T with
  | .val (.bool t)=>K (if t then a.at T else b.at T) H
  | _=>False
 | .box x=>(x.at T).cells.all aS=true∧∀ n,H n=.dead→K (.ptr n 0 0) (H.set n (.arr (x.at T).cells.length [(x.at T).cells]))
 | .iK x=>(x.at T).cells.all aS=true∧K (.aL (x.at T).cells 0) H
 | .alloc z=>z.all aS=true∧∀ n,H n=.dead→K (.ptr n 0 0) (H.set n (.arr z.length [z]))
 | .load sz a=>match a.at T with
  | .ptr id i j=>match H id with
   | .arr _ es=>i < es.length∧jb sz (es.getD i []) j fun v=>K v H
   | _=>False
  | .aL e j=>jb sz e j fun v=>K v H
  | _=>False
 | .xj sz a=>match a.at T with
  | .aL e j=>jb sz e j fun v=>K v H
  | _=>False
 | .store sz a x=>match a.at T with
  | .ptr id i j=>match H id with
   | .arr esz es=>(i < es.length∧(x.at T).cells.length=sz∧j+(x.at T).cells.length≤esz∧(x.at T).cells.all aS=true) ∧
     K .any (H.set id (.arr esz (es.set i (aa (es.getD i []) j (x.at T).cells))))
   | _=>False
  | _=>False
 | .yB x=>match x.at T with
  | .ptr id i j=>K (.ptr id i j) H
  | .aL e j=>K (.aL e j) H
  | .fn f a b=>K (.fn f a b) H
  | _=>False
 | .addr off x=>match x.at T with
  | .ptr id i j=>K (.ptr id i (j+off)) H
  | .aL e j=>K (.aL e (j+off)) H
  | _=>False
 | .field off sz x=>match x.at T with
  | .agg cs=>jb sz cs off fun v=>K v H
  | _=>False
 | .idx sz x i=>match asNat (i.at T) with
  | none=>False
  | some q=>match x.at T with
   | .sl id off len esz=>(q < len∧esz=sz)∧K (.ptr id (off+q) 0) H
   | .aH es=>∃ e,es[q]?=some e∧e.length=sz∧K (.aL e 0) H
   | _=>False
 | .qk f first cap=>K (.fn f (first.map (SX.at T)) (cap.map (SX.at T))) H
 | .mJ=>∀ n,H n=.dead→K (.mp n) (H.set n (.map [] 0))
 | .ext i x=>match x.at T with
  | .bt vs=>i < vs.length∧K (vs.getD i .any) H
  | _=>False
 | .len x=>match cY (x.at T) with
  | some n=>K (ak n) H
  | none=>False
 | .nK x=>match x.at T with
  | .val (.string s)=>K (ak s.size) H
  | _=>False
 | .arith op x y=>match x.at T,y.at T with
  | .val (.int k a),.val (.int k' b)=>k=k'∧(match ag op k a b with | some v=>K (.val v) H | none=>False)
  | _,_=>False
 | .uU op x y=>match x.at T,y.at T with
  | .val (.string a),.val (.string b)=>(match op with
   | .eql=>K (.val (.bool (ir a b))) H
   | .neq=>K (.val (.bool (!ir a b))) H
   | _=>False)
  | _,_=>False
 | .gU x i=>match x.at T,asNat (i.at T) with
  | .val (.string s),some q=>∃ b,s.data.toList[q]?=some b∧K (.val (.int .u8 b.toNat)) H
  | _,_=>False
 | .not x=>match x.at T with
  | .val (.bool t)=>K (.val (.bool (!t))) H
  | _=>False
 | .nil eq k x y=>match ai (ae k (x.at T)) (ae k (y.at T)) with
  | some b=>K (.val (.bool (if eq then b else !b))) H
  | none=>False
 | .beq eq x y=>match x.at T,y.at T with
  | .val (.bool a),.val (.bool b)=>K (.val (.bool (if eq then a == b else a != b))) H
  | _,_=>False
 | .mm mx x y=>match x.at T,y.at T with
  | .val (.int k a),.val (.int _ b)=>K (.val (.int k (if mx then (if b > a then b else a) else (if b < a then b else a)))) H
  | _,_=>False
 | .conv k x=>match x.at T with
  | .val (.int _ a)=>K (.val (.int k (k.wrap a))) H
  | _=>False
 | .sh l x y=>match x.at T,y.at T with
  | .val (.int k a),.val (.int _ b)=>0≤b∧K (.val (.int k (AH l k a b))) H
  | _,_=>False
 | .build z parts=>match ab z (parts.map fun (a,b,x)=>(a,b,x.at T)) with
  | some cs=>K (.agg cs) H
  | none=>False
 | .c4 len sz z parts=>match af sz (List.replicate len z) (parts.map fun (i,x)=>(i,x.at T)) with
  | some es=>∀ n,H n=.dead→K (.sl n 0 len sz) (H.set n (.arr sz es))
  | none=>False
 | .slice sz x lo hi=>match eQ sz (x.at T) (lo.map (SX.at T)) (hi.map (SX.at T)) with
  | some (v,.none,_)=>K v H
  | _=>False
 | .make sz bytes z l c=>match asNat (l.at T),asNat (c.at T) with
  | some l,some c=>(l≤c∧c < aK∧bytes * c < aK)∧(c=0→K (.emp 2) H)∧(c≠0→∀ n,H n=.dead→K (.sl n 0 l sz) (H.set n (.arr sz (List.replicate l z))))
  | _,_=>False
 | .app sz bytes x y=>match bR H (y.at T) with
  | some (xs,_)=>if xs.isEmpty=true then (match x.at T with
    | .emp k=>K (.emp k) H
    | .dt=>K .dt H
    | .aH es=>K (.aH es) H
    | .sl a b c d=>K (.sl a b c d) H
    | _=>False)
   else (xs.all fun e=>e.length == sz && e.all aS)=true∧(match x.at T with
    | .emp _=>(xs.length * bytes < aK∧xs.length < aK)∧∀ n,H n=.dead→K (.sl n 0 xs.length sz) (H.set n (.arr sz xs))
    | .sl id off len esz=>match H id with
     | .arr _ es=>(off+len≤es.length∧esz=sz∧(len+xs.length) * bytes < aK∧len+xs.length < aK) ∧
      ∀ n,H n=.dead→K (.sl n 0 (len+xs.length) esz) ((H.set id .dead).set n (.arr esz ((es.drop off).take len ++ xs)))
     | _=>False
    | _=>False)
  | none=>False
 | .AO x=>match x.at T with
  | .aH es=>(match j9 es with
   | some l=>K (.val (.string ⟨l.toArray⟩)) H
   | none=>False)
  | _=>False
 | .fv x=>match x.at T with
  | .val (.string s)=>K (.aH (fU s)) H
  | _=>False
 | s=>∀ n,H n=.dead→∃ v eff rd,sI P s T H n=some (v,eff,rd)∧K v (eff.view H n)
def wB (P:Program) (quiet:Bool) (b:SB) (T:Env) (H:View) (K:V→View→Prop):Prop:=match b with
 | .op s=>wI P s T H K
 | .call f args=>match f.at T with
  | .fn g first cap=>if quiet then Ae P g (first ++ args.map (SX.at T) ++ cap) H K else aB P g (first ++ args.map (SX.at T) ++ cap) H K
  | _=>False
 | .w5 f args=>match f.at T with
  | .fn g first cap=>Ae P g (first ++ args.map (SX.at T) ++ cap) H K
  | _=>False
def vD (P:Program) (quiet:Bool):List (Option Nat × SB)→Env→View→(Env→View→Prop)→Prop
 | [],T,H,K=>K T H
 | (d,b) :: r,T,H,K=>wB P quiet b T H fun v H'=>vD P quiet r (T.put d v) H' K
def ic:List (Option Nat × SB)→Env→Env
 | [],T=>T
 | (d,_) :: r,T=>ic r (T.put d (.bt []))
def wG (P:Program) (quiet:Bool) (g:SG) (T:Env) (H:View) (K:Env→View→Prop):Prop:=match g.guard with
 | none=>vD P quiet g.ops T H K
 | some (d,want)=>match T d with
  | .val (.bool b)=>(b=want→vD P quiet g.ops (T.put (some d) (.val (.bool want))) H K)∧(b = !want→K (ic g.ops (T.put (some d) (.val (.bool (!want))))) H)
  | .bt []=>K (ic g.ops T) H
  | _=>False
def uG (P:Program) (quiet:Bool):List SG→Env→View→(Env→View→Prop)→Prop
 | [],T,H,K=>K T H
 | g :: r,T,H,K=>wG P quiet g T H fun T' H'=>uG P quiet r T' H' K
def oo (c:SX) (b:Bool) (T:Env):Env:=match c with
 | .tmp t=>T.put (some t) (.val (.bool b))
 | _=>T
def xQ:Exit→Prop→Prop→Prop
 | .normal,a,_=>a
 | _,_,b=>b
def ig (a b:V):Prop:=match a,b with
 | .ptr i _ _,.ptr j _ _=>i≠j
 | .ptr i _ _,.sl j _ _ _=>i≠j
 | .ptr _ _ _,.emp _=>True
 | .ptr _ _ _,.dt=>True
 | .ptr _ _ _,.aH _=>True
 | .aL _ _,_=>True
 | .sl i _ _ _,.sl j _ _ _=>i≠j
 | .sl _ _ _ _,.emp _=>True
 | .sl _ _ _ _,.dt=>True
 | .sl _ _ _ _,.aH _=>True
 | .emp _,_=>True
 | .dt,_=>True
 | .aH _,_=>True
 | _,_=>False
def IH (P:Program) (t:TypeId) (m q:V) (H:View):Prop:=match m with
 | .mp id=>(∃ es c,H id=.map es c)∧∀ v obj rd,dH P t (.mp id) q H=some (v,.ep id obj,rd)→eV P t (.mp id) q false (H.set id obj)=eV P t (.mp id) q false H
 | _=>False
def vt:List (Nat × Nat)→Env→Prop→Prop
 | [],_,K=>K
 | p :: l,T,K=>ig (T p.1) (T p.2)∧vt l T K
def wS (P:Program):SC→Env→View→(Exit→Env→View→Prop)→Prop
 | .skip,T,H,Q=>Q .normal T H
 | .region quiet gs,T,H,Q=>uG P quiet gs T H (Q .normal)
 | .pT aps gs,T,H,Q=>uG P false gs T H fun T' H'=>vt aps T' (Q .normal T' H')
 | .Bq tol aps gs,T,H,Q=>uG P false gs T H fun T' H'=>IH P tol.1 (T' tol.2.1) (T' tol.2.2) H∧vt aps T' (Q .normal T' H')
 | .seq x y,T,H,Q=>wS P x T H fun e T' H'=>xQ e (wS P y T' H' Q) (Q e T' H')
 | .cond c x y,T,H,Q=>match c.at T with
  | .val (.bool b)=>(b=true→wS P x (oo c true T) H Q)∧(b=false→wS P y (oo c false T) H Q)
  | _=>False
 | .block id c,T,H,Q=>wS P c T H fun e=>Q (ov id e)
 | .loop c,T,H,Q=>∃ I:Nat→Env→View→Prop,(∃ k,I k T H)∧∀ k T H,I k T H→wS P c T H fun e T' H'=>xQ e (∃ k',k' < k∧I k' T' H') (Q e T' H')
 | .exit id,T,H,Q=>Q (.exit id) T H
 | .ret,T,H,Q=>Q .ret T H
 | .scope l c r,T,H,Q=>∃ (I:Nat→Env→View→Prop) (K:Nat),wS P c T H (fun e T' H'=>xb l e (∃ k,k < K∧I k T' H') (Q e T' H'))∧∀ k T H,I k T H→wS P r T H fun e T' H'=>xb l e (∃ k',k' < k∧I k' T' H') (Q e T' H')
 | .label _,T,H,Q=>Q .normal T H
 | .goto l,T,H,Q=>Q (.goto l) T H
def wR (T:Env) (H:View) (r:SR) (K:V→Prop):Prop:=match r with
 | .tmp t=>K (T t)
 | .cell t sz=>match T t with
  | .ptr id i j=>match H id with
   | .arr _ es=>i < es.length∧jb sz (es.getD i []) j K
   | _=>False
  | .aL e j=>jb sz e j K
  | _=>False
def za (T:Env) (H:View):List SR→List V→(List V→Prop)→Prop
 | [],acc,K=>K acc
 | r :: l,acc,K=>wR T H r fun v=>za T H l (acc ++ [v]) K
def ah:List V→V
 | [v]=>v
 | vs=>.bt vs
def eW (P:Program):List ResultVar→Option (List SR)
 | []=>some []
 | .tmp t :: r=>(eW P r).map (.tmp t :: ·)
 | .cell a t :: r=>match zb P t,eW P r with
  | some k,some l=>some (.cell a k :: l)
  | _,_=>none
structure SF where
 code:SC
 res:List SR
 n:Nat
abbrev aj (a b:Nat):Option Nat × SB:=(some a,.op (.bN (.tmp b)))
abbrev bA (a:Nat) (n:Int):Option Nat × SB:=(some a,.op (.bN (.val (.val (.int .i64 n)))))
abbrev bK (a:Nat) (n:Bool):Option Nat × SB:=(some a,.op (.bN (.val (.val (.bool n)))))
abbrev ay (a b:Nat):Option Nat × SB:=(some a,.op (.load none (.tmp b)))
abbrev bM (a k b:Nat):Option Nat × SB:=(some a,.op (.load (some k) (.tmp b)))
abbrev aC (a k b:Nat):Option Nat × SB:=(some a,.op (.addr k (.tmp b)))
abbrev aY (a k b c:Nat):Option Nat × SB:=(some a,.op (.idx k (.tmp b) (.tmp c)))
abbrev cU (a b c:Nat):Option Nat × SB:=(some a,.op (.pick (.tmp b) (.val (.val (.bool true))) (.tmp c)))
abbrev gA (a b c:Nat):Option Nat × SB:=(some a,.op (.pick (.tmp b) (.tmp c) (.val (.val (.bool false)))))
abbrev bz (a:Nat) (o:BinOp) (b c:Nat):Option Nat × SB:=(some a,.op (.arith o (.tmp b) (.tmp c)))
abbrev aR (a:Nat) (o:BinOp) (b:Nat) (n:Int):Option Nat × SB:=(some a,.op (.arith o (.tmp b) (.val (.val (.int .i64 n)))))
abbrev bj (a b:Nat):Option Nat × SB:=(some a,.op (.len (.tmp b)))
abbrev kH (a k b:Nat):Option Nat × SB:=(some a,.op (.ext k (.tmp b)))
abbrev dm (a b:Nat):Option Nat × SB:=(some a,.op (.not (.tmp b)))
abbrev dN (a b:Nat):Option Nat × SB:=(some a,.op (.iK (.tmp b)))
abbrev fp (a b:Nat):Option Nat × SB:=(some a,.op (.yB (.tmp b)))
abbrev p7 (a f:Nat) (l:List SX):Option Nat × SB:=(some a,.call (.val (.fn f [] [])) l)
abbrev bJ (a f:Nat) (l:List Nat):Option Nat × SB:=(some a,.call (.val (.fn f [] [])) (l.map .tmp))
abbrev an (l:List (Option Nat × SB)):SC:=.region false [⟨none,l⟩]
def aU (P:Program) (f:FuncId) (fz:List Nat):Option SF:=match P.funcs[f]? with
 | some fn=>match fn.body with
  | some c=>match cH P fn.ntmps fz c,eW P fn.results.toList,db P f with
   | some sc,some rs,true=>some ⟨sc,rs,fn.ntmps⟩
   | _,_,_=>none
  | none=>none
 | none=>none
theorem nU {sz:Option Nat} {e:List V} {j:Nat} {K:V→Prop} (h:jb sz e j K):∃ v,kU sz e j=some v∧K v:=by
 cases sz with
 | none=>exact ⟨_,by simp only[kU]; rw[Ra h.1],h.2⟩
 | some n=>exact ⟨_,by simp only[kU]; rw[Ra h.1],h.2⟩
theorem P2 {P:Program} {s:SI} {T:Env} {H:View} {K:V→View→Prop} (h:wI P s T H K) {n:Nat} (hn:H n=.dead) :
  ∃ v eff rd,sI P s T H n=some (v,eff,rd)∧K v (eff.view H n):=by
 unfold wI at h
 split at h
 ·exact ⟨_,_,_,rfl,h⟩
 ·split at h
  ·rename_i t ht; exact ⟨_,_,_,by simp only[sI,ht]; rfl,h⟩
  ·exact h.elim
 ·exact ⟨_,_,_,by simp only[sI,kE]; rw[Ra h.1],h.2 n hn⟩
 ·exact ⟨_,_,_,by simp only[sI]; rw[Ra h.1],h.2⟩
 ·exact ⟨_,_,_,by simp only[sI,kE]; rw[Ra h.1],h.2 n hn⟩
 ·split at h
  ·rename_i id i j ha
   split at h
   ·rename_i es hH
    obtain ⟨h1,h2⟩:=h
    obtain ⟨v,hv,hk⟩:=nU h2
    exact ⟨_,_,_,by simp only[sI,tO,ha,hH]; rw[Ra h1,hv]; rfl,hk⟩
   ·exact h.elim
  ·rename_i e j ha
   obtain ⟨v,hv,hk⟩:=nU h
   exact ⟨_,_,_,by simp only[sI,tO,ha]; rw[hv]; rfl,hk⟩
  ·exact h.elim
 ·split at h
  ·rename_i e j ha
   obtain ⟨v,hv,hk⟩:=nU h
   exact ⟨_,_,_,by simp only[sI,ha]; rw[hv]; rfl,hk⟩
  ·exact h.elim
 ·split at h
  ·rename_i id i j ha
   split at h
   ·rename_i esz es hH
    exact ⟨_,_,_,by simp only[sI,Ap,ha,hH]; rw[Ra h.1],h.2⟩
   ·exact h.elim
  ·exact h.elim
 ·split at h
  ·rename_i hx; exact ⟨_,_,_,by simp only[sI,hx]; rfl,h⟩
  ·rename_i hx; exact ⟨_,_,_,by simp only[sI,hx]; rfl,h⟩
  ·rename_i hx; exact ⟨_,_,_,by simp only[sI,hx]; rfl,h⟩
  ·exact h.elim
 ·split at h
  ·rename_i hx; exact ⟨_,_,_,by simp only[sI,xl,hx]; rfl,h⟩
  ·rename_i hx; exact ⟨_,_,_,by simp only[sI,xl,hx]; rfl,h⟩
  ·exact h.elim
 ·split at h
  ·rename_i cs hx
   obtain ⟨v,hv,hk⟩:=nU h
   exact ⟨_,_,_,by simp only[sI,hx,hv]; rfl,hk⟩
  ·exact h.elim
 ·split at h
  ·exact h.elim
  ·rename_i q hq
   split at h
   ·rename_i hx; exact ⟨_,_,_,by simp only[sI,Bf,hq,hx]; rw[Ra h.1],h.2⟩
   ·rename_i es hx
    obtain ⟨e,he,hl,hk⟩:=h
    have hlt:q < es.length:=(Rl.1 he).1
    have hge:es.getD q []=e:=by simp[Q6,he]
    exact ⟨_,_,_,by simp only[sI,Bf,hq,hx]; rw[hge,Ra ⟨hlt,hl⟩],hk⟩
   ·exact h.elim
 ·exact ⟨_,_,_,rfl,h⟩
 ·exact ⟨_,_,_,rfl,h n hn⟩
 ·split at h
  ·rename_i vs hx; exact ⟨_,_,_,by simp only[sI,hx]; rw[Ra h.1],h.2⟩
  ·exact h.elim
 ·split at h
  ·rename_i m hx; exact ⟨_,_,_,by simp only[sI,hx]; rfl,h⟩
  ·exact h.elim
 ·split at h
  ·rename_i s hx; exact ⟨_,_,_,by simp only[sI,hx]; rfl,h⟩
  ·exact h.elim
 ·split at h
  ·rename_i k a k' b hx hy
   obtain ⟨rfl,h⟩:=h
   split at h
   ·rename_i v hv; exact ⟨_,_,_,by simp only[sI,vX,hx,hy,if_true,hv]; rfl,h⟩
   ·exact h.elim
  ·exact h.elim
 ·split at h
  ·rename_i a b hx hy
   split at h
   ·exact ⟨_,_,_,by simp only[sI,yG,hx,hy]; rfl,h⟩
   ·exact ⟨_,_,_,by simp only[sI,yG,hx,hy]; rfl,h⟩
   ·exact h.elim
  ·exact h.elim
 ·split at h
  ·rename_i s q hx hq
   obtain ⟨b,hb,hk⟩:=h
   exact ⟨_,_,_,by simp only[sI,zi,hx,hq,hb]; rfl,hk⟩
  ·exact h.elim
 ·split at h
  ·rename_i t hx; exact ⟨_,_,_,by simp only[sI,hx]; rfl,h⟩
  ·exact h.elim
 ·split at h
  ·rename_i b hb; exact ⟨_,_,_,by simp only[sI,hb]; rfl,h⟩
  ·exact h.elim
 ·split at h
  ·rename_i hx hy; exact ⟨_,_,_,by simp only[sI,hx,hy]; rfl,h⟩
  ·exact h.elim
 ·split at h
  ·rename_i hx hy; exact ⟨_,_,_,by simp only[sI,hx,hy]; rfl,h⟩
  ·exact h.elim
 ·split at h
  ·rename_i hx; exact ⟨_,_,_,by simp only[sI,hx]; rfl,h⟩
  ·exact h.elim
 ·split at h
  ·rename_i hx hy; exact ⟨_,_,_,by simp only[sI,K9,hx,hy]; rw[Q9 (by omega)],h.2⟩
  ·exact h.elim
 ·split at h
  ·rename_i cs hb; exact ⟨_,_,_,by simp only[sI,hb]; rfl,h⟩
  ·exact h.elim
 ·split at h
  ·rename_i es hb; exact ⟨_,_,_,by simp only[sI,xk,hb]; rfl,h n hn⟩
  ·exact h.elim
 ·split at h
  ·rename_i v rd hb; exact ⟨_,_,_,by simp only[sI,hb]; rfl,h⟩
  ·exact h.elim
 ·split at h
  ·rename_i l c hl hc
   obtain ⟨h1,h2,h3⟩:=h
   by_cases e:c=0
   ·exact ⟨.emp 2,.none,[],by simp only[sI,yO,hl,hc]; rw[Ra h1,Ra e],h2 e⟩
   ·exact ⟨_,_,_,by simp only[sI,yO,hl,hc]; rw[Ra h1,Q9 e],h3 e n hn⟩
  ·exact h.elim
 ·split at h
  ·rename_i xs rd hel
   split at h
   ·rename_i he
    split at h
    all_goals first
     | (rename_i hx; exact ⟨_,_,_,by simp only[sI,Fc,hel]; rw[Ra he,hx],h⟩)
     | exact h.elim
   ·rename_i he
    obtain ⟨h1,h2⟩:=h
    split at h2
    ·rename_i hx
     exact ⟨_,_,_,by simp only[sI,Fc,hel]; rw[Q9 he,Q9 (by rw[h1]; simp),hx]; simp only; rw[Ra h2.1],h2.2 n hn⟩
    ·rename_i id off len esz hx
     split at h2
     ·rename_i z es hH
      exact ⟨_,_,_,by simp only[sI,Fc,hel]; rw[Q9 he,Q9 (by rw[h1]; simp),hx]; simp only[hH]; rw[Ra h2.1],h2.2 n hn⟩
     ·exact h2.elim
    ·exact h2.elim
  ·exact h.elim
 ·split at h
  ·rename_i hx
   split at h
   ·rename_i l hl; exact ⟨_,_,_,by simp only[sI,hx,hl]; rfl,h⟩
   ·exact h.elim
  ·exact h.elim
 ·split at h
  ·rename_i hx; exact ⟨_,_,_,by simp only[sI,hx]; rfl,h⟩
  ·exact h.elim
 ·exact h n hn
def jW (k:Nat) (rd wr:List Nat) (call:Bool) (n n':Nat):Prop :=
 (k=0→rd=[]∧wr=[]∧call=false∧n'=n)∧(k≤1→wr=[])
theorem NS {k:Nat} (h:k=2) {rd wr:List Nat} {call:Bool} {n n':Nat} : jW k rd wr call n n':=⟨fun h'=>by omega,fun h'=>by omega⟩
theorem oS {P:Program} {o:Oper} {T:Env} {v:V} {eff:bf} {rd:List Nat} (h:dp P o T=some (v,eff,rd)):eff=.none∧rd=[]:=by
 unfold dp at h
 split at h
 ·split at h
  ·split at h
   ·simp at h; exact ⟨h.2.1.symm,h.2.2⟩
   ·simp at h
  ·simp at h
 ·simp at h
theorem MT {P:Program} {o:Oper} {T:Env} {H:View} {n:Nat} {v:V} {eff:bf} {rd:List Nat} (h:bV P o T H n=some (v,eff,rd)) :
  (w9 P o.op=0→eff=.none∧rd=[])∧(w9 P o.op=1→eff.wr=[]):=by
 unfold w9
 split
 ·rename_i s d x ho
  simp only[bV,ho] at h
  split
  ·exact ⟨fun h=>by simp at h,fun h=>by simp at h⟩
  ·rename_i hb
   rw[Q9 hb] at h
   exact ⟨fun _=>oS h,fun h=>by simp at h⟩
 ·rename_i b args ats ho
  simp only[bV,ho] at h
  split
  any_goals exact ⟨fun _=>oS h,fun h=>by simp at h⟩
  ·refine ⟨fun h=>by simp at h,fun _=>?_⟩
   split at h
   ·rename_i hargs
    split at h
    ·simp only[rX] at h
     have nn:∀ {v':V} {r:List Nat},some (v',bf.none,r)=some (v,eff,rd)→eff.wr=[]:=fun e=>by
      simp only[Q8,Rb] at e; rw[← e.2.1]; rfl
     split at h
     ·simp only[Rf] at h
      obtain ⟨_,_,h⟩:=h
      exact nn (Sp some h)
     ·split at h
      ·split at h
       ·exact nn h
       ·simp at h
      ·exact nn h
      ·simp at h
     ·split at h
      ·exact nn h
      ·simp at h
     ·exact nn h
     ·simp at h
    ·simp at h
   any_goals simp at h
   all_goals contradiction
  ·exact ⟨fun h=>by simp at h,fun h=>by simp at h⟩
 ·rename_i t m k ok ho
  refine ⟨fun h=>by simp at h,fun _=>?_⟩
  simp only[bV,ho,eV] at h
  have nn:∀ {v':V} {r:List Nat},some (v',bf.none,r)=some (v,eff,rd)→eff.wr=[]:=fun e=>by
   simp only[Q8,Rb] at e; rw[← e.2.1]; rfl
  split at h
  ·simp at h
  ·split at h
   ·simp at h
   ·split at h
    ·split at h
     ·split at h
      ·split at h
       ·exact nn h
       ·simp at h
      ·exact nn h
      ·simp at h
     ·simp at h
    ·simp at h
 ·rename_i op t x y u ho
  refine ⟨fun _=>?_,fun h=>by simp at h⟩
  simp only[bV,ho] at h
  split at h
  ·split at h
   ·simp at h; exact ⟨h.2.1.symm,h.2.2⟩
   ·simp at h; exact ⟨h.2.1.symm,h.2.2⟩
   ·simp at h
  ·exact oS h
 ·rename_i op t x ho
  exact ⟨fun _=>oS (by simpa only [bV,ho] using h),fun h=>by simp at h⟩
 ·rename_i t x i ho
  exact ⟨fun _=>oS (by simpa only [bV,ho] using h),fun h=>by simp at h⟩
 ·exact ⟨fun h=>by simp at h,fun h=>by simp at h⟩
theorem pU {P:Program} {s:SI} {T:Env} {H:View} {n:Nat} {v:V} {eff:bf} {rd:List Nat} (h:sI P s T H n=some (v,eff,rd)) :
  (rj P s=0→eff=.none∧rd=[])∧(rj P s=1→eff.wr=[]):=by
 have nn:∀ {v':V},some (v',bf.none,([]:List Nat))=some (v,eff,rd)→eff=.none∧rd=[]:=fun e=>by
  simp only[Q8,Rb] at e; exact ⟨e.2.1.symm,e.2.2.symm⟩
 have mp:∀ {α:Type} {x:Option α} {f:α→V},(x.map fun a=>(f a,bf.none,([]:List Nat)))=some (v,eff,rd)→eff=.none∧rd=[]:=by
  intro α x f h
  simp only[Rf] at h
  obtain ⟨a,_,h⟩:=h
  simp only[Rb] at h; exact ⟨h.2.1.symm,h.2.2.symm⟩
 have nw:∀ {v':V} {o:dh} {r:List Nat},some (v',bf.new o,r)=some (v,eff,rd)→eff.wr=[]:=fun e=>by
  simp only[Q8,Rb] at e; rw[← e.2.1]; rfl
 have n1:∀ {v':V} {r:List Nat},some (v',bf.none,r)=some (v,eff,rd)→eff.wr=[]:=fun e=>by
  simp only[Q8,Rb] at e; rw[← e.2.1]; rfl
 unfold rj
 cases s <;> simp only[sI] at h
 case old op ty=>exact MT (o:=oper op ty) h
 all_goals
  constructor <;> intro hk <;> first
   | (exfalso; revert hk; simp; done)
   | skip
 all_goals try simp only[tO,kE,xl,Bf,eQ,yO,xk,vX,K9,yG,zi] at h
 all_goals first
  | exact nn h
  | exact mp h
  | exact nw h
  | exact n1 h
  | skip
 all_goals repeat' (split at h)
 all_goals first
  | exact nn h
  | exact mp h
  | exact nw h
  | exact n1 h
  | (simp at h; done)
  | (simp only[Rf,Rb] at h; obtain ⟨_,_,_,rfl,_⟩:=h; rfl)
end Gv
