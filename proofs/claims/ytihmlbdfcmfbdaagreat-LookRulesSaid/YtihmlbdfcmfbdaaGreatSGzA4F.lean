/-
  Part 6 of the proof: what the machine does and what the functions answer.
  Conditions: those that each lemma names.
-/
import Derived.Test.YtihmlbdfcmfbdaaGreatSGzA4E
set_option linter.unusedSimpArgs false
set_option linter.unusedVariables false
set_option maxRecDepth 100000
namespace Gv
open Go Go.Proofs
def ox:List Int→Bool
  | [a,b,c]=>a == 39 && c == 39 && decide (32≤b) && decide (b≤126) && b != 39 && b != 92
  | [a,b,c,d]=>a == 39 && d == 39 && b == 92 && (c == 110 || c == 116 || c == 92 || c == 39)
  | _=>false
theorem sT (s:ByteArray):∀ v∈[gs s],Tree v:=by intro v hv; simp at hv; subst hv; exact .val _
def vB (l:List Int):Bool:=fZ l || ox l
def sg (s:ByteArray):List ByteArray→Int→Int
  | [],_=>-1
  | x :: l,i=>if eT x s=true then i else sg s l (i+1)
def m9 (g:ao) (s:ByteArray):Int:=sg s (g.az.map Term.name) 0
def AO (g:ao) (s:ByteArray):Int:=sg s g.ax 0
theorem mb {α:Type} {l:List α} {i:Nat} (h:i < l.length):l.drop i=l[i] :: l.drop (i+1):=List.drop_eq_getElem_cons h
theorem ma (g:ao):∀ v∈[V.agg (aR g)],Tree v:=by intro v hv; simp at hv; subst hv; exact eX _ (iS g)
theorem Hc (g:ao) (x:Int):∀ v∈[V.agg (aR g),gi x],Tree v:=by
  intro v hv; simp at hv
  rcases hv with rfl | rfl
  · exact eX _ (iS g)
  · exact .val _
theorem aC.val {P:Program} {f:FuncId} {vs:List V} {x:Value} (ht:∀ v∈vs,Tree v) (h:∀ H,aH P f vs H fun r _=>r=.val x):aC P f vs (.val x) :=
  aC.of ht ((h _).mono fun r H' e h' _=>by rw[e]; exact .tree _ (.val _))
def jB (n:Int):List Term→Int→Option Int
  | [],way=>some way
  | t :: r,way=>if t.level=n then (if way≠0∧way≠t.assoc then none else jB n r t.assoc) else jB n r way
def gH (l:List Term) (n:Int):Bool:=match jB n l 0 with
  | some w=>w != 0
  | none=>false
def vx (g:ao) (t:Term):Bool:=(List.range t.level.toNat).all fun k=>gH g.az ((k:Int)+1)
def m8 (g:ao) (i:Int) (t:Term):Bool :=
  vB (eR t.name) && (m9 g t.name == i) && decide (0≤t.level) && decide (t.level≤24) && decide (0≤t.assoc) && decide (t.assoc≤3) && ((t.level == 0) == (t.assoc == 0)) && vx g t
def kX (g:ao):List Term→Int→Bool
  | [],_=>true
  | t :: r,i=>m8 g i t && kX g r (i+1)
def tc (g:ao):Bool:=decide (g.az.length≤24) && kX g g.az 0
def nU (g:ao) (i:Int) (s:ByteArray):Bool:=fZ (eR s) && (AO g s == i) && decide (m9 g s < 0)
def vU (g:ao):List ByteArray→Int→Bool
  | [],_=>true
  | s :: r,i=>nU g i s && vU g r (i+1)
def ve (g:ao):Bool:=decide (1≤g.ax.length) && decide (g.ax.length≤16) && vU g g.ax 0
def uU (g:ao) (prec s:Int):Bool:=nN g s && !(decide (0≤s) && prec == -1)
def ks (g:ao) (r:aG):Bool:=decide (r.right.length≤6) && decide (-1≤r.prec) && decide (r.prec < g.az.length) && r.right.all (uU g r.prec)
theorem Hr (g:ao) (r:aG):∀ v∈[V.agg (aR g),V.agg (bf r)],Tree v:=by
  intro v hv; simp at hv
  rcases hv with rfl | rfl
  · exact eX _ (iS g)
  · exact eX _ (dN r)
def gv (g:ao):List aG→Int→Bool
  | [],top=>top == (g.ax.length:Int) - 1
  | r :: l,top=>decide (0≤r.left) && decide (r.left≤top+1) && ks g r && gv g l (if r.left > top then r.left else top)
def bz (g:ao):Bool :=
  tc g && ve g && decide (1≤g.rules.length) && decide (g.rules.length≤40) && decide (0≤g.start) && decide (g.start < g.ax.length) && gv g g.rules (-1)
inductive bB (α:Type) where
  | nil
  | node (v:α) (l r:bB α)
noncomputable def bB.get {α:Type} (z:α) (t:bB α):Nat→α :=
  bB.rec (motive:=fun _=>Nat→α) (fun _=>z) (fun v _ _ gl gr i=>Bool.rec (Bool.rec (gr (i / 2 - 1)) (gl (i / 2)) (Nat.beq (i % 2) 1)) v (Nat.beq i 0)) t
theorem bB.get_nil {α:Type} (z:α) (i:Nat):bB.get z .nil i=z:=rfl
theorem bB.Hm {α:Type} (z v:α) (l r:bB α) (i:Nat):bB.get z (.node v l r) i=match Nat.beq i 0 with
    | true=>v
    | false=>match Nat.beq (i % 2) 1 with
      | true=>bB.get z l (i / 2)
      | false=>bB.get z r (i / 2 - 1):=by
  change (Bool.rec (motive:=fun _=>α) _ _ _:α)=_
  cases Nat.beq i 0 with
  | true=>rfl
  | false=>cases Nat.beq (i % 2) 1 <;> rfl
def bB.val {α:Type} (z:α):bB α→α
  | .nil=>z
  | .node v _ _=>v
def bB.left {α:Type} : bB α→bB α
  | .nil=>.nil
  | .node _ l _=>l
def bB.right {α:Type} : bB α→bB α
  | .nil=>.nil
  | .node _ _ r=>r
noncomputable def bB.put {α:Type} (z:α) (x:α) (d:Nat):bB α→Nat→bB α :=
  Nat.rec (motive:=fun _=>bB α→Nat→bB α) (fun t _=>t) (fun _ pd t i =>
    Bool.rec (Bool.rec (.node (t.val z) t.left (pd t.right (i / 2 - 1))) (.node (t.val z) (pd t.left (i / 2)) t.right) (Nat.beq (i % 2) 1)) (.node x t.left t.right) (Nat.beq i 0)) d
theorem bB.HP {α:Type} (z x:α) (d:Nat) (t:bB α) (i:Nat):bB.put z x (d+1) t i=match Nat.beq i 0 with
    | true=>.node x t.left t.right
    | false=>match Nat.beq (i % 2) 1 with
      | true=>.node (t.val z) (bB.put z x d t.left (i / 2)) t.right
      | false=>.node (t.val z) t.left (bB.put z x d t.right (i / 2 - 1)):=by
  change (Bool.rec (motive:=fun _=>bB α) _ _ _:bB α)=_
  cases Nat.beq i 0 with
  | true=>rfl
  | false=>cases Nat.beq (i % 2) 1 <;> rfl
theorem bB.iM {α:Type} (z:α) (t:bB α) (j:Nat):t.get z j=if j=0 then t.val z else if j % 2=1 then t.left.get z (j / 2) else t.right.get z (j / 2 - 1):=by
  cases t with
  | nil=>simp[bB.get_nil,bB.val,bB.left,bB.right]
  | node v l r =>
    simp only[bB.Hm,bB.val,bB.left,bB.right]
    by_cases h:j=0
    · subst h; rfl
    · have:Nat.beq j 0=false:=by cases e:Nat.beq j 0 with | true=>exact absurd (Nat.eq_of_beq_eq_true e) h | false=>rfl
      rw[this,if_neg h]
      simp only
      by_cases h2:j % 2=1
      · have:Nat.beq (j % 2) 1=true:=by rw[h2]; rfl
        rw[this,if_pos h2]
      · have:Nat.beq (j % 2) 1=false:=by cases e:Nat.beq (j % 2) 1 with | true=>exact absurd (Nat.eq_of_beq_eq_true e) h2 | false=>rfl
        rw[this,if_neg h2]
theorem bB.iR {α:Type} (z x:α):∀ (d:Nat) (t:bB α) (i j:Nat),i+1 < 2 ^ d→(bB.put z x d t i).get z j=if j=i then x else t.get z j
  | 0,t,i,j,h=>by simp at h
  | d+1,t,i,j,h=>by
    rw[Nat.pow_succ] at h
    simp only[bB.HP]
    by_cases hi:i=0
    · subst hi
      have:Nat.beq 0 0=true:=rfl
      rw[this]
      simp only
      rw[bB.iM,bB.iM z t]
      simp only[bB.val,bB.left,bB.right]
      by_cases hj:j=0
      · rw[if_pos hj,if_pos hj]
      · rw[if_neg hj,if_neg hj,if_neg hj]
    · have:Nat.beq i 0=false:=by cases e:Nat.beq i 0 with | true=>exact absurd (Nat.eq_of_beq_eq_true e) hi | false=>rfl
      rw[this]
      simp only
      by_cases h2:i % 2=1
      · have:Nat.beq (i % 2) 1=true:=by rw[h2]; rfl
        rw[this]
        simp only
        rw[bB.iM,bB.iM z t]
        simp only[bB.val,bB.left,bB.right]
        by_cases hj:j=0
        · subst hj; rw[if_pos rfl,if_neg (fun e=>hi e.symm),if_pos rfl]
        · rw[if_neg hj,if_neg hj]
          by_cases hj2:j % 2=1
          · rw[if_pos hj2,if_pos hj2,bB.iR z x d _ _ _ (by omega)]
            by_cases e:j=i
            · subst e; simp
            · rw[if_neg e,if_neg (by omega)]
          · rw[if_neg hj2,if_neg hj2,if_neg (fun e=>hj2 (by rw[e]; exact h2))]
      · have:Nat.beq (i % 2) 1=false:=by cases e:Nat.beq (i % 2) 1 with | true=>exact absurd (Nat.eq_of_beq_eq_true e) h2 | false=>rfl
        rw[this]
        simp only
        rw[bB.iM,bB.iM z t]
        simp only[bB.val,bB.left,bB.right]
        by_cases hj:j=0
        · subst hj; rw[if_pos rfl,if_neg (fun e=>hi e.symm),if_pos rfl]
        · rw[if_neg hj,if_neg hj]
          by_cases hj2:j % 2=1
          · rw[if_pos hj2,if_pos hj2,if_neg (fun e=>h2 (by rw[← e]; exact hj2))]
          · rw[if_neg hj2,if_neg hj2,bB.iR z x d _ _ _ (by omega)]
            by_cases e:j=i
            · subst e; simp
            · rw[if_neg e,if_neg (by omega)]
abbrev deep:Nat:=13
structure ES where
  L:bB V
  H:bB br
  n:Nat
  w:List Nat
noncomputable def ES.T (s:ES):Env:=s.L.get .any
noncomputable def ES.V (s:ES):View:=s.H.get .dead
noncomputable def ES.put (s:ES) (d:Option Nat) (v:Gv.V):ES:=match d with
  | some t=>⟨s.L.put .any v deep t,s.H,s.n,s.w⟩
  | none=>s
theorem ES.Iv {s:ES} {d:Option Nat} {v:Gv.V} (h:∀ t,d=some t→t < 8000):(s.put d v).T=s.T.put d v:=by
  cases d with
  | none=>rfl
  | some t =>
    funext k
    have:=h t rfl
    simp only[ES.put,ES.T,Env.put]
    rw[bB.iR _ _ _ _ _ _ (by simp[deep]; omega)]
noncomputable def Bl (v:V) (au:aQ) (rd:List Nat) (s:ES):Option (V × ES × Rec):=match au with
  | .none=>some (v,s,⟨rd,[],false,s.n,s.n⟩)
  | .new o=>match Nat.ble s.n 8000 with
    | true=>some (v,⟨s.L,s.H.put .dead o deep s.n,s.n+1,s.w⟩,⟨rd,[],false,s.n,s.n+1⟩)
    | false=>none
  | .dW id o=>match Nat.ble id 8000 with
    | true=>some (v,⟨s.L,s.H.put .dead o deep id,s.n,id :: s.w⟩,⟨rd,[id],false,s.n,s.n⟩)
    | false=>none
  | .aX id o=>match Nat.ble s.n 8000,Nat.ble id 8000 with
    | true,true=>some (v,⟨s.L,(s.H.put .dead .dead deep id).put .dead o deep s.n,s.n+1,id :: s.w⟩,⟨rd,[id],false,s.n,s.n+1⟩)
    | _,_=>none
noncomputable def KX (x:SX) (_:Program) (T:Env) (_:View) (_:Nat):Out:=some (x.at T,.none,[])
noncomputable def Kb (c a b:SX) (_:Program) (T:Env) (_:View) (_:Nat):Out:=match c.at T with
  | .val (.bool t)=>some (if t then a.at T else b.at T,.none,[])
  | _=>none
noncomputable def Ki (sz:Option Nat) (a:SX) (_:Program) (T:Env) (H:View) (_:Nat):Out:=pH sz (a.at T) H
noncomputable def Js (sz:Nat) (a x:SX) (_:Program) (T:Env) (H:View) (_:Nat):Out:=vH sz (a.at T) (x.at T) H
noncomputable def Kh (off:Nat) (x:SX) (_:Program) (T:Env) (_:View) (_:Nat):Out:=sZ off (x.at T)
noncomputable def K2 (sz:Nat) (x i:SX) (_:Program) (T:Env) (_:View) (_:Nat):Out:=xD sz (x.at T) (i.at T)
noncomputable def KE (x:SX) (_:Program) (T:Env) (_:View) (_:Nat):Out:=(cT (x.at T)).map fun n=>(an n,.none,[])
noncomputable def JR (op:BinOp) (x y:SX) (_:Program) (T:Env) (_:View) (_:Nat):Out:=r6 op (x.at T) (y.at T)
noncomputable def K9 (op:BinOp) (x y:SX) (_:Program) (T:Env) (_:View) (_:Nat):Out:=uO op (x.at T) (y.at T)
noncomputable def KW (x:SX) (_:Program) (T:Env) (_:View) (_:Nat):Out:=match x.at T with
  | .val (.bool t)=>some (.val (.bool (!t)),.none,[])
  | _=>none
noncomputable def K4 (i:Nat) (x:SX) (_:Program) (T:Env) (_:View) (_:Nat):Out:=match x.at T with
  | .bc vs=>if i < vs.length then some (vs.getD i .any,.none,[]) else none
  | _=>none
noncomputable def Kd (x:SX) (_:Program) (T:Env) (_:View) (_:Nat):Out:=match x.at T with
  | .ptr id i j=>some (.ptr id i j,.none,[])
  | .aY e j=>some (.aY e j,.none,[])
  | .fn f a b=>some (.fn f a b,.none,[])
  | _=>none
noncomputable def eI (s:SI):Program→Env→View→Nat→Out:=match s with
  | .aX x=>KX x
  | .pick c a b=>Kb c a b
  | .load sz a=>Ki sz a
  | .store sz a x=>Js sz a x
  | .addr o x=>Kh o x
  | .idx sz x i=>K2 sz x i
  | .len x=>KE x
  | .arith op x y=>JR op x y
  | .hE op x y=>K9 op x y
  | .not x=>KW x
  | .ext i x=>K4 i x
  | .ud x=>Kd x
  | s=>fun P T H n=>sI P s T H n
theorem Dz (s:SI) (P:Program) (T:Env) (H:View) (n:Nat):eI s P T H n=sI P s T H n:=by
  cases s <;> rfl
abbrev eE:=FuncId→List V→ES→Option (V × ES)
noncomputable def FM (P:Program) (s:SI) (e:ES):Option (V × ES × Rec):=match eI s P e.T e.V e.n with
  | some (v,au,rd)=>Bl v au rd e
  | none=>none
noncomputable def F4 (call:eE) (f:SX) (args:List SX) (e:ES):Option (V × ES × Rec):=match f.at e.T with
  | .fn g first cap=>match call g (first ++ args.map (SX.at e.T) ++ cap) e with
    | some (v,e')=>some (v,⟨e.L,e'.H,e'.n,e'.w ++ e.w⟩,⟨[],e'.w,true,e.n,e'.n⟩)
    | none=>none
  | _=>none
noncomputable def eB (P:Program) (call:eE) (b:SB):ES→Option (V × ES × Rec):=match b with
  | .op s=>FM P s
  | .call f args=>F4 call f args
noncomputable def Cl (P:Program) (call:eE):List (Option Nat × SB)→List Rec→ES→Option (ES × List Rec)
  | [],a,e=>some (e,a)
  | (d,b) :: r,a,e=>match eB P call b e with
    | some (v,e',c)=>Cl P call r (a ++ [c]) (e'.put d v)
    | none=>none
noncomputable def Ip (e:ES):Rec:=⟨[],[],false,e.n,e.n⟩
noncomputable def pA:List (Option Nat × SB)→List Rec→ES→ES × List Rec
  | [],a,e=>(e,a)
  | (d,_) :: r,a,e=>pA r (a ++ [Ip e]) (e.put d (.bc []))
noncomputable def EH (P:Program) (call:eE) (ops:List (Option Nat × SB)) (want:Bool) (v:V) (a:List Rec) (e:ES):Option (ES × List Rec):=match v with
  | .val (.bool b)=>match xor b want with
    | true=>some (pA ops a e)
    | false=>Cl P call ops a e
  | .bc []=>some (pA ops a e)
  | _=>none
noncomputable def eG (P:Program) (call:eE) (g:SG) (a:List Rec) (e:ES):Option (ES × List Rec):=match g.guard with
  | none=>Cl P call g.ops a e
  | some (d,want)=>EH P call g.ops want (e.T d) a e
noncomputable def EU (P:Program) (call:eE):List SG→List Rec→ES→Option (ES × List Rec)
  | [],a,e=>some (e,a)
  | g :: r,a,e=>match eG P call g a e with
    | some (e',a')=>EU P call r a' e'
    | none=>none
inductive DC where
  | skip
  | region (ps:List (Nat × Nat)) (gs:List SG)
  | seq (x y:DC)
  | cond (c:SX) (x y:DC)
  | block (id:Nat) (c:DC)
  | loop (c:DC)
  | exit (id:Nat)
  | ret
  deriving Inhabited
def Fj (recs:List Rec) (ps:List (Nat × Nat)):Bool:=ps.all fun (i,k)=>match recs[i]?,recs[k]? with
  | some a,some b=>xu a b
  | _,_=>false
abbrev ER:=Option (Exit × ES)
abbrev qE:=DC→ES→ER
noncomputable def GM:ES→ER:=fun e=>some (.normal,e)
noncomputable def Dr (P:Program) (call:eE) (ps:List (Nat × Nat)) (gs:List SG) (e:ES):ER:=match EU P call gs [] e with
  | some (e',recs)=>match Fj recs ps with
    | true=>some (.normal,e')
    | false=>none
  | none=>none
noncomputable def JI (run:qE) (x y:DC) (e:ES):ER:=match run x e with
  | some (.normal,e')=>run y e'
  | r=>r
noncomputable def Ig (run:qE) (c:SX) (x y:DC) (e:ES):ER:=match c.at e.T with
  | .val (.bool true)=>run x e
  | .val (.bool false)=>run y e
  | _=>none
noncomputable def F0 (run:qE) (id:Nat) (c:DC) (e:ES):ER:=match run c e with
  | some (r,e')=>some (kj id r,e')
  | none=>none
noncomputable def Ib (run:qE) (c:DC) (e:ES):ER:=match run c e with
  | some (.normal,e')=>run (.loop c) e'
  | r=>r
noncomputable def iB (P:Program) (call:eE) (run:qE) (c:DC):ES→ER:=match c with
  | .skip=>GM
  | .region ps gs=>Dr P call ps gs
  | .seq x y=>JI run x y
  | .cond c x y=>Ig run c x y
  | .block id c=>F0 run id c
  | .loop c=>Ib run c
  | .exit id=>fun e=>some (.exit id,e)
  | .ret=>fun e=>some (.ret,e)
noncomputable def Hg (r:SR) (e:ES):Option V:=match r with
  | .tmp t=>some (e.T t)
  | .cell t sz=>match e.T t with
    | .ptr id i j=>match e.V id with
      | .arr _ es=>if i < es.length then iA sz (es.getD i []) j else none
      | _=>none
    | .aY e j=>iA sz e j
    | _=>none
noncomputable def pw:List SR→ES→Option (List V)
  | [],_=>some []
  | r :: l,e=>match Hg r e,pw l e with
    | some v,some vs=>some (v :: vs)
    | _,_=>none
noncomputable def iO:List V→Nat→bB V→bB V
  | [],_,t=>t
  | v :: vs,i,t=>iO vs (i+1) (t.put .any v deep i)
structure DF where
  code:DC
  res:List SR
  n:Nat
noncomputable def JM (l:List SR) (r:ER):Option (V × ES):=match r with
  | some (.ret,e)=>(pw l e).map fun vs=>(ai vs,e)
  | some (.normal,e)=>(pw l e).map fun vs=>(ai vs,e)
  | _=>none
noncomputable def Jk (m:Nat) (r:Option (V × ES)):Option (V × ES):=match r with
  | some (v,e)=>some (v,⟨e.L,e.H,e.n,e.w.filter fun id=>Nat.blt id m⟩)
  | none=>none
noncomputable def JP (run:qE) (F:DF) (vs:List V) (e:ES):Option (V × ES):=match Nat.ble vs.length F.n,Nat.ble F.n 8000 with
  | true,true=>Jk e.n (JM F.res (run F.code ⟨iO vs 0 .nil,e.H,e.n,[]⟩))
  | _,_=>none
abbrev sD:=FuncId→List V→View→Option V
noncomputable def zo (P:Program) (tab:List (FuncId × DF)) (ext:sD) (run:qE) (g:FuncId) (vs:List V) (e:ES):Option (V × ES):=match ext g vs e.V with
  | some t=>some (t,⟨e.L,e.H,e.n,[]⟩)
  | none=>match tab.find? (fun p=>Nat.beq p.1 g) with
    | some (_,F)=>JP run F vs e
    | none=>none
noncomputable def Bq (P:Program) (tab:List (FuncId × DF)) (ext:sD):Nat→qE
  | 0=>fun _ _=>none
  | k+1=>iB P (zo P tab ext (Bq P tab ext k)) (Bq P tab ext k)
def wm (all:List Oper) (ls:List Nat):List (Nat × Nat) :=
  let b:=dk all []
  (ls.zipIdx.map fun (x,i)=>(ls.zipIdx.filter fun (y,k)=>decide (i < k) && !(ordered b i k || x == 0 || y == 0 || (decide (x≤1) && decide (y≤1)))).map fun (_,k)=>(i,k)).flatten
def Bm (P:Program) (n:Nat) (fz:List Nat) (ops:List Oper) (draw:Bool):Option DC:=match b7 P n ops ⟨fz,false⟩ ops with
  | none=>none
  | some l=>if !(group l).all m3 then none else
    if draw then (if iu ops then some (.region (wm ops (l.map fun s=>fg P false s.b)) (group l)) else none) else some (.region [] (group l))
def fc (P:Program) (n:Nat) (fz:List Nat):Code→Option DC
  | .skip=>some .skip
  | .region _ ops draw=>Bm P n fz ops.toList draw
  | .seq x y=>match fc P n fz x,fc P n fz y with
    | some a,some b=>some (.seq a b)
    | _,_=>none
  | .cond c x y=>match fc P n fz x,fc P n fz y with
    | some a,some b=>some (.cond (SX.of c) a b)
    | _,_=>none
  | .block id c=>(fc P n fz c).map (.block id)
  | .loop c=>(fc P n fz c).map .loop
  | .exit id=>some (.exit id)
  | .ret=>some .ret
  | _=>none
abbrev ae (l:List (Option Nat × SB)):DC:=.region [] [⟨none,l⟩]
def aE (P:Program) (f:FuncId) (fz:List Nat):Option DF:=match P.funcs[f]? with
  | some fn=>match fn.body with
    | some c=>match fc P fn.ntmps fz c,dn P fn.results.toList,bZ P f with
      | some sc,some rs,true=>some ⟨sc,rs,fn.ntmps⟩
      | _,_,_=>none
    | none=>none
  | none=>none
section
variable {P:Program} {n:Nat} {all:List Oper}
def eV (h:aw) (e:ES):Prop:=e.V=h.view∧e.n=h.length
def Calm (e e':ES) (h h':aw):Prop:=h.length≤h'.length∧(∀ id,id < h.length→¬ id∈e'.w→h'.view id=h.view id∧¬ id∈e.w)
theorem Calm.trans {a b c:ES} {h1 h2 h3:aw} (x:Calm a b h1 h2) (y:Calm b c h2 h3):Calm a c h1 h3 :=
  ⟨Nat.le_trans x.1 y.1,fun id hid hw =>
    let ⟨e1,d1⟩:=y.2 id (Nat.lt_of_lt_of_le hid x.1) hw
    let ⟨e2,d2⟩:=x.2 id hid d1
    ⟨e1.trans e2,d2⟩⟩
theorem Calm.refl (e:ES) (h:aw):Calm e e h h:=⟨Nat.le_refl _,fun _ _ hw=>⟨rfl,hw⟩⟩
def gu (P:Program) (call:eE):Prop:=∀ g vs e v e' h,call g vs e=some (v,e')→eV h e →
  bZ P g=true∧∃ h',bu P g vs h v h'∧eV h' e'∧(∀ id,id < h.length→¬ id∈e'.w→h'.view id=h.view id)∧∀ id,id∈e'.w→id < h.length
def pG (P:Program) (run:qE):Prop:=∀ (n:Nat) (fz:List Nat) (c:Code) (sc:DC),fc P n fz c=some sc→n≤8000→∀ (e e':ES) (r:Exit) (h:aw),run sc e=some (r,e')→eV h e →
  ∃ h',bI P n c e.T h r e'.T h'∧eV h' e'∧Calm e e' h h'∧∀ c0,c=.loop c0→kp P n c0 e.T h r e'.T h'
theorem GJ {h:aw} {e:ES} {d:Option Nat} {v:V} (he:eV h e):eV h (e.put d v):=by cases d <;> exact he
theorem Io {e:ES} {d:Option Nat} {v:V} : (e.put d v).w=e.w:=by cases d <;> rfl
theorem GX {h:aw} {e e':ES} {h':aw} {d:Option Nat} {v:V} (x:Calm e e' h h'):Calm e (e'.put d v) h h':=⟨x.1,fun id hid hw=>x.2 id hid (by rw[Io] at hw; exact hw)⟩
theorem vF {a:Nat} (h:Nat.ble a 8000=true):a+1 < 2 ^ 13:=by
  have:=Nat.le_of_ble_eq_true h
  omega
theorem IY {h:aw} {e e':ES} {v v':V} {au:aQ} {rd:List Nat} {c:Rec} (he:eV h e) (hx:Bl v au rd e=some (v',e',c)) :
    v'=v∧e'.T=e.T∧e'.V=au.view h.view h.length∧e'.n=(au.apply h).length∧c=⟨rd,au.wr,false,h.length,(au.apply h).length⟩∧e'.w=au.wr ++ e.w:=by
  obtain ⟨h1,h2⟩:=he
  unfold Bl at hx
  cases au with
  | none =>
    simp only[Option.some.injEq,Prod.mk.injEq] at hx
    obtain ⟨rfl,rfl,rfl⟩:=hx
    exact ⟨rfl,rfl,h1,h2,by rw[h2]; rfl,rfl⟩
  | new o =>
    simp only at hx
    split at hx
    · rename_i hb
      simp only[Option.some.injEq,Prod.mk.injEq] at hx
      obtain ⟨rfl,rfl,rfl⟩:=hx
      refine ⟨rfl,rfl,?_,by simp[dQ,h2],by simp[dQ,h2,aQ.wr],rfl⟩
      funext k
      simp only[ES.V,aQ.view,View.set]
      rw[bB.iR _ _ _ _ _ _ (vF hb),h2]
      have:=congrFun h1 k
      simp only[ES.V] at this
      rw[this]
    · simp at hx
  | dW id o =>
    simp only at hx
    split at hx
    · rename_i hb
      simp only[Option.some.injEq,Prod.mk.injEq] at hx
      obtain ⟨rfl,rfl,rfl⟩:=hx
      refine ⟨rfl,rfl,?_,by simp[dQ,h2],by simp[dQ,h2,aQ.wr],rfl⟩
      funext k
      simp only[ES.V,aQ.view,View.set]
      rw[bB.iR _ _ _ _ _ _ (vF hb)]
      have:=congrFun h1 k
      simp only[ES.V] at this
      rw[this]
    · simp at hx
  | aX id o =>
    simp only at hx
    split at hx
    · rename_i hb1 hb2
      simp only[Option.some.injEq,Prod.mk.injEq] at hx
      obtain ⟨rfl,rfl,rfl⟩:=hx
      refine ⟨rfl,rfl,?_,by simp[dQ,h2],by simp[dQ,h2,aQ.wr],rfl⟩
      funext k
      simp only[ES.V,aQ.view,View.set]
      rw[bB.iR _ _ _ _ _ _ (vF hb1),bB.iR _ _ _ _ _ _ (vF hb2),h2]
      have:=congrFun h1 k
      simp only[ES.V] at this
      rw[this]
    · simp at hx
theorem JG {o:Oper} {e e':ES} {h:aw} {s:SI} {v:V} {c:Rec} (hg:bW n all e.T o=some true) (hc:∀ v au rd,sI P s e.T h.view h.length=some (v,au,rd)→bw P o e.T h.view h.length=some (v,au,rd))
    (he:eV h e) (hx:FM P s e=some (v,e',c)):∃ h',cn P n all o e.T h v h' c.rd c.wr c.call∧eV h' e'∧e'.T=e.T∧Calm e e' h h'∧gC (nz P s) c.rd c.wr c.call h.length h'.length∧c.lo=h.length∧c.hi=h'.length:=by
  unfold FM at hx
  rw[Dz,he.1,he.2] at hx
  split at hx
  · rename_i v0 au rd hs
    obtain ⟨rfl,g1,g2,g3,rfl,g5⟩:=IY he hx
    have ha:=hc _ _ _ hs
    have st:=cn.op (P:=P) (n:=n) (all:=all) hg ha
    refine ⟨au.apply h,st,⟨?_,g3⟩,g1,⟨nJ st,fun id hid hw=>?_⟩,⟨fun h0=>?_,fun h1=>?_⟩,rfl,rfl⟩
    · rw[gZ (fun id hid=>(iI ha id hid).1)]; exact g2
    · rw[g5] at hw
      simp only[List.mem_append,not_or] at hw
      exact ⟨lY st hid hw.1,hw.2⟩
    · obtain ⟨rfl,rfl⟩:=(l9 hs).1 h0
      exact ⟨rfl,rfl,rfl,rfl⟩
    · rcases Nat.lt_or_ge (nz P s) 1 with h2 | h2
      · obtain ⟨rfl,rfl⟩:=(l9 hs).1 (by omega); rfl
      · exact (l9 hs).2 (by omega)
  · simp at hx
theorem Kl {call:eE} (hcall:gu P call) {fz:Fz} {o:Oper} {e e':ES} {h:aw} {v:V} {c:Rec} (hg:bW n all e.T o=some true) (he:eV h e) (hx:eB P call (jj P fz o) e=some (v,e',c)) :
    ∃ h',cn P n all o e.T h v h' c.rd c.wr c.call∧eV h' e'∧e'.T=e.T∧Calm e e' h h'∧gC (fg P false (jj P fz o)) c.rd c.wr c.call h.length h'.length∧c.lo=h.length∧c.hi=h'.length:=by
  rcases tB P fz o with ⟨f,args,ats,ho,hc⟩ | ⟨t,x,ho,hc⟩ | ⟨s,d,x,ho,hcv,hc⟩ | hc
  · rw[hc] at hx ⊢
    simp only[eB,F4] at hx
    split at hx
    · rename_i g first cap hf
      rw[Bb] at hx
      rw[SX.bD] at hf
      split at hx
      · rename_i v0 e0 hv
        obtain ⟨hok,h',hr,hek,hd,hd2⟩:=hcall _ _ _ _ _ _ hv he
        simp only[Option.some.injEq,Prod.mk.injEq] at hx
        obtain ⟨rfl,rfl,rfl⟩:=hx
        exact ⟨h',.call hg ho hf hok hr hd hd2,hek,rfl,⟨hr.1,fun id hid hw=>by
          simp only[List.mem_append,not_or] at hw
          exact ⟨hd id hid hw.1,hw.2⟩⟩,Ir (by simp[fg]),he.2,hek.2⟩
      · simp at hx
    · simp at hx
  · rw[hc] at hx ⊢
    simp only[eB,FM,Dz,sI,SX.bD] at hx
    split at hx
    · rename_i v0 au rd hs
      split at hs
      · rename_i hok
        simp only[Option.some.injEq,Prod.mk.injEq] at hs
        obtain ⟨rfl,rfl,rfl⟩:=hs
        simp only[Bl,Option.some.injEq,Prod.mk.injEq] at hx
        obtain ⟨rfl,rfl,rfl⟩:=hx
        exact ⟨h,.fk hg ho hok,he,rfl,Calm.refl _ _,⟨fun _=>⟨rfl,rfl,rfl,rfl⟩,fun _=>rfl⟩,he.2,he.2⟩
      · simp at hs
    · simp at hx
  · rw[hc] at hx ⊢
    obtain ⟨ty,h1,h2,h3⟩:=tN hcv
    simp only[eB,FM,Dz,sI,SX.bD] at hx
    split at hx
    · rename_i v0 au rd hs
      split at hs
      · rename_i st hst
        simp only[Option.some.injEq,Prod.mk.injEq] at hs
        obtain ⟨rfl,rfl,rfl⟩:=hs
        simp only[Bl,Option.some.injEq,Prod.mk.injEq] at hx
        obtain ⟨rfl,rfl,rfl⟩:=hx
        exact ⟨h,.dE hg ho h1 h2 h3 hst,he,rfl,Calm.refl _ _,⟨fun _=>⟨rfl,rfl,rfl,rfl⟩,fun _=>rfl⟩,he.2,he.2⟩
      · simp at hs
    · simp at hx
  · rw[hc] at hx ⊢
    exact JG (s:=sw P fz.fr (comp P o)) hg (fun v au rd hs=>CT (Cw hs)) he hx
theorem JF {o:Oper} (hd:lQ n o=true) (hn:n≤8000):∀ t,o.dst=some t→t < 8000:=by
  intro t ht
  unfold lQ at hd
  rw[ht] at hd
  have:t < n:=by simpa using hd
  exact Nat.lt_of_lt_of_le this hn
theorem IT {c:Rec} {a b:Nat} (h1:c.lo=a) (h2:c.hi=b):c=⟨c.rd,c.wr,c.call,a,b⟩:=by cases c; subst h1; subst h2; rfl
theorem Bw {call:eE} (hcall:gu P call) (hn:n≤8000) {fz:Fz} (g:Option (Nat × Bool)):∀ (l:List (Option Nat × SB)) (os:List Oper) (e e':ES) (h:aw) (a a':List Rec),
    b7 P n all fz os=some (l.map fun (d,b)=>⟨d,g,b⟩)→(∀ d w,g=some (d,w)→e.T d=.val (.bool w)∧(l.all fun x=>x.1 != some d)=true)→eV h e→Cl P call l a e=some (e',a') →
    ∃ recs h',a'=a ++ recs∧Tr P n all os e.T h recs e'.T h'∧eV h' e'∧Calm e e' h h'∧dy P false (l.map fun (d,b)=>⟨d,g,b⟩) recs
  | [],os,e,e',h,a,a',hc,hg,he,hx=>by
    have:=g0 hc; subst this
    simp only[Cl,Option.some.injEq,Prod.mk.injEq] at hx; obtain ⟨rfl,rfl⟩:=hx
    exact ⟨[],h,by simp,.nil,he,Calm.refl _ _,.nil⟩
  | (d,b) :: l,os,e,e',h,a,a',hc,hg,he,hx=>by
    obtain ⟨o,r,rfl,h1,h2⟩:=ir hc
    obtain ⟨hd,hd1,hb1,hg1⟩:=nD h1
    simp only at hd1 hb1 hg1
    have hgv:bW n all e.T o=some true:=by
      cases g with
      | none=>exact vQ hg1
      | some p =>
        obtain ⟨d',w⟩:=p
        have:=(gM (T:=e.T) hg1).1 w (hg d' w rfl).1
        rw[this]; simp
    simp only[Cl] at hx
    rw[hb1] at hx
    split at hx
    · rename_i v e1 c hv
      obtain ⟨h1',st,he1,hT1,hcm,hl,hlo,hhi⟩:=Kl hcall hgv he hv
      have hput:(e1.put d v).T=e.T.put o.dst v:=by
        rw[ES.Iv (by rw[hd1]; exact JF hd hn),hT1,hd1]
      obtain ⟨recs,h'',ha,tr,he2,hcm2,hro⟩:=Bw hcall hn g l r (e1.put d v) e' h1' _ a' h2 (fun d' w eq=>by
        have:=hg d' w eq
        simp only[List.all_cons,Bool.and_eq_true,bne_iff_ne,ne_eq] at this
        refine ⟨?_,this.2.2⟩
        rw[← this.1,hput,← hd1]
        cases d with
        | none=>rfl
        | some t=>simp only[Env.put]; rw[if_neg]; intro e; subst e; exact this.2.1 rfl) (GJ he1) hx
      rw[hput] at tr
      refine ⟨_,h'',?_,.cons st hd tr,he2,(GX hcm).trans hcm2,hro.cons (by rw[hb1]; exact hl)⟩
      rw[ha,List.append_assoc,← IT hlo hhi]; rfl
    · simp at hx
theorem z1 {fz:Fz} (hn:n≤8000) (d:Nat) (w:Bool) (h:aw):∀ (l:List (Option Nat × SB)) (os:List Oper) (e e':ES) (a a':List Rec),
    b7 P n all fz os=some (l.map fun (d',b)=>⟨d',some (d,w),b⟩)→(e.T d=.val (.bool !w)∨e.T d=.bc [])→(l.all fun x=>x.1 != some d)=true→eV h e→pA l a e=(e',a') →
    ∃ recs,a'=a ++ recs∧Tr P n all os e.T h recs e'.T h∧eV h e'∧e'.w=e.w∧dy P false (l.map fun (d',b)=>⟨d',some (d,w),b⟩) recs
  | [],os,e,e',a,a',hc,hd,hl,he,hx=>by
    have:=g0 hc; subst this
    simp only[pA,Prod.mk.injEq] at hx; obtain ⟨rfl,rfl⟩:=hx
    exact ⟨[],by simp,.nil,he,rfl,.nil⟩
  | (d',b) :: l,os,e,e',a,a',hc,hd,hl,he,hx=>by
    obtain ⟨o,r,rfl,h1,h2⟩:=ir hc
    obtain ⟨hd0,hd1,hb1,hg1⟩:=nD h1
    simp only at hd1 hb1 hg1
    have hgv:bW n all e.T o=some false:=by
      rcases hd with hd | hd
      · rw[(gM (T:=e.T) hg1).1 _ hd]; cases w <;> rfl
      · exact (gM (T:=e.T) hg1).2 hd
    simp only[List.all_cons,Bool.and_eq_true,bne_iff_ne,ne_eq] at hl
    have hput:(e.put d' (.bc [])).T=e.T.put o.dst (.bc []):=by
      rw[ES.Iv (by rw[hd1]; exact JF hd0 hn),hd1]
    simp only[pA] at hx
    obtain ⟨recs,ha,tr,he2,hd2,hro⟩:=z1 hn d w h l r (e.put d' (.bc [])) e' _ a' h2 (by
      have:(e.put d' (.bc [])).T d=e.T d:=by
        rw[hput,← hd1]
        cases d' with
        | none=>rfl
        | some t=>simp only[Env.put]; rw[if_neg]; intro e; subst e; exact hl.1 rfl
      rw[this]; exact hd) hl.2 (GJ he) hx
    rw[hput] at tr
    refine ⟨_,?_,Tr.cons (.skip hgv) hd0 tr,he2,by rw[hd2,Io],hro.cons (r:=⟨[],[],false,h.length,h.length⟩) ⟨fun _=>⟨rfl,rfl,rfl,rfl⟩,fun _=>rfl⟩⟩
    rw[ha,List.append_assoc,Ip,he.2]; rfl
theorem yg {fz:Fz} (hn:n≤8000) {d:Nat} {w:Bool} {h:aw} {l:List (Option Nat × SB)} {os:List Oper} {e e':ES} {a a':List Rec}
    (hc:b7 P n all fz os=some (l.map fun (d',b)=>⟨d',some (d,w),b⟩)) (hd:e.T d=.val (.bool !w)∨e.T d=.bc []) (hl:(l.all fun x=>x.1 != some d)=true) (he:eV h e) (hx:pA l a e=(e',a')) :
    ∃ recs h',a'=a ++ recs∧Tr P n all os e.T h recs e'.T h'∧eV h' e'∧Calm e e' h h'∧dy P false (l.map fun (d',b)=>⟨d',some (d,w),b⟩) recs:=by
  obtain ⟨recs,h1,h2,h3,h4,h5⟩:=z1 hn d w h l os e e' a a' hc hd hl he hx
  exact ⟨recs,h,h1,h2,h3,⟨Nat.le_refl _,fun id _ hw=>⟨rfl,by rw[h4] at hw; exact hw⟩⟩,h5⟩
theorem J8 {call:eE} (hcall:gu P call) (hn:n≤8000) {fz:Fz} {g:SG} {os:List Oper} {e e':ES} {h:aw} {a a':List Rec} (hc:b7 P n all fz os=some g.flat) (hok:m3 g=true) (he:eV h e) (hx:eG P call g a e=some (e',a')) :
    ∃ recs h',a'=a ++ recs∧Tr P n all os e.T h recs e'.T h'∧eV h' e'∧Calm e e' h h'∧dy P false g.flat recs:=by
  unfold eG at hx
  unfold SG.flat at hc ⊢
  unfold m3 at hok
  split at hx
  · rename_i hg
    rw[hg] at hc ⊢
    exact Bw hcall hn none g.ops os e e' h a a' hc (fun d w e=>by simp at e) he hx
  · rename_i d want hg
    rw[hg] at hc hok ⊢
    simp only at hok
    unfold EH at hx
    split at hx
    · rename_i b hb
      split at hx
      · rename_i hxor
        simp only[Option.some.injEq] at hx
        have e':b = !want:=by cases b <;> cases want <;> simp_all
        subst e'
        exact yg hn hc (.inl hb) hok he hx
      · rename_i hxor
        have e':b=want:=by cases b <;> cases want <;> simp_all
        subst e'
        exact Bw hcall hn (some (d,b)) g.ops os e _ h a a' hc (fun d' w e=>by simp at e; obtain ⟨rfl,rfl⟩:=e; exact ⟨hb,hok⟩) he hx
    · rename_i hb
      simp only[Option.some.injEq] at hx
      exact yg hn hc (.inr hb) hok he hx
    · simp at hx
theorem Ga {call:eE} (hcall:gu P call) (hn:n≤8000) {fz:Fz} : ∀ (gs:List SG) (os:List Oper) (e e':ES) (h:aw) (a a':List Rec),b7 P n all fz os=some (gp gs)→gs.all m3=true→eV h e→EU P call gs a e=some (e',a') →
    ∃ recs h',a'=a ++ recs∧Tr P n all os e.T h recs e'.T h'∧eV h' e'∧Calm e e' h h'∧dy P false (gp gs) recs
  | [],os,e,e',h,a,a',hc,_,he,hx=>by
    have:=g0 hc; subst this
    simp only[EU,Option.some.injEq,Prod.mk.injEq] at hx; obtain ⟨rfl,rfl⟩:=hx
    exact ⟨[],h,by simp,.nil,he,Calm.refl _ _,.nil⟩
  | g :: gs,os,e,e',h,a,a',hc,hok,he,hx=>by
    simp only[gp,List.map_cons,List.flatten_cons] at hc ⊢
    simp only[List.all_cons,Bool.and_eq_true] at hok
    obtain ⟨o1,o2,rfl,h1,h2⟩:=lq hc
    simp only[EU] at hx
    split at hx
    · rename_i e1 a1 hx1
      obtain ⟨r1,h1',ha1,tr1,he1,hc1,ro1⟩:=J8 hcall hn h1 hok.1 he hx1
      obtain ⟨r2,h2',ha2,tr2,he2,hc2,ro2⟩:=Ga hcall hn gs o2 e1 e' h1' a1 a' h2 hok.2 he1 hx
      exact ⟨_,h2',by rw[ha2,ha1,List.append_assoc],tr1.append tr2,he2,hc1.trans hc2,ro1.append ro2⟩
    · simp at hx
theorem EM {ls:List Nat} {i k x y:Nat} (hik:i < k) (hx:ls[i]?=some x) (hy:ls[k]?=some y) (ho:ordered (dk all []) i k=false) (h:¬ (x=0∨y=0∨(x≤1∧y≤1))):(i,k)∈wm all ls:=by
  unfold wm
  simp only[List.mem_flatten,List.mem_map]
  refine ⟨_,⟨(x,i),by rw[List.mem_zipIdx_iff_getElem?]; exact hx,rfl⟩,?_⟩
  simp only[List.mem_map,List.mem_filter]
  refine ⟨(y,k),⟨by rw[List.mem_zipIdx_iff_getElem?]; exact hy,?_⟩,rfl⟩
  simp only[hik,decide_true,ho,Bool.false_or,Bool.true_and,Bool.not_eq_true',Bool.or_eq_false_iff,beq_eq_false_iff_ne,Bool.and_eq_false_iff,decide_eq_false_iff_not]
  omega
theorem Hs {ls:List Nat} {recs:List Rec} (h:Fj recs (wm all ls)=true) (hl:ls.length=recs.length) (hr:∀ (i x:Nat) (r:Rec),ls[i]?=some x→recs[i]?=some r→gC x r.rd r.wr r.call r.lo r.hi):nY all recs:=by
  intro i k a b hik ha hb ho
  have hi:i < recs.length:=(List.getElem?_eq_some_iff.1 ha).1
  have hk:k < recs.length:=(List.getElem?_eq_some_iff.1 hb).1
  have hx:ls[i]?=some (ls[i]'(by omega)):=List.getElem?_eq_getElem (by omega)
  have hy:ls[k]?=some (ls[k]'(by omega)):=List.getElem?_eq_getElem (by omega)
  generalize ls[i]'(by omega)=x at hx
  generalize ls[k]'(by omega)=y at hy
  have la:=hr i _ a hx ha
  have lb:=hr k _ b hy hb
  by_cases hc:x=0∨y=0∨(x≤1∧y≤1)
  · rcases hc with h1 | h1 | h1
    · obtain ⟨e1,e2,e3,e4⟩:=la.1 h1
      exact ⟨fun id hid=>by simp[e2] at hid,fun id _=>by simp[e1],fun hc=>by simp[e3] at hc,fun _=>e2,fun id _ hx=>by omega⟩
    · obtain ⟨e1,e2,e3,e4⟩:=lb.1 h1
      exact ⟨fun id _=>by simp[e1],fun id hid=>by simp[e2] at hid,fun _=>e2,fun hc=>by simp[e3] at hc,fun id hid=>by simp[e2] at hid⟩
    · have e1:=la.2 h1.1
      have e2:=lb.2 h1.2
      exact ⟨fun id hid=>by simp[e1] at hid,fun id hid=>by simp[e2] at hid,fun _=>e2,fun _=>e1,fun id hid=>by simp[e2] at hid⟩
  · have:=List.all_eq_true.1 h _ (EM hik hx hy ho hc)
    simp only[ha,hb] at this
    exact Gu this
theorem Jf (hm:P.follows .mixedOrders=true) {call:eE} (hcall:gu P call) (hn:n≤8000) {fz:List Nat} {id:Nat} {ops:Array Oper} {draw:Bool} {sc:DC} {run:qE} {e e':ES} {r:Exit} {h:aw}
    (hc:Bm P n fz ops.toList draw=some sc) (he:eV h e) (hx:iB P call run sc e=some (r,e')) :
    ∃ h',bI P n (.region id ops draw) e.T h r e'.T h'∧eV h' e'∧Calm e e' h h':=by
  unfold Bm at hc
  split at hc
  · simp at hc
  · rename_i l hl
    split at hc
    · simp at hc
    · rename_i hok
      have hok:(group l).all m3=true:=by simpa using hok
      have hl':b7 P n ops.toList ⟨fz,false⟩ ops.toList=some (gp (group l)):=by rw[dI]; exact hl
      have key:∀ ps,iB P call run (.region ps (group l)) e=some (r,e')→(draw=true→iu ops.toList=true∧ps=wm ops.toList (l.map fun s=>fg P false s.b)) →
          ∃ h',bI P n (.region id ops draw) e.T h r e'.T h'∧eV h' e'∧Calm e e' h h':=by
        intro ps hx hdr
        simp only[iB,Dr] at hx
        split at hx
        · rename_i e1 recs0 hx1
          split at hx
          · rename_i hchk
            simp only[Option.some.injEq,Prod.mk.injEq] at hx
            obtain ⟨rfl,rfl⟩:=hx
            obtain ⟨recs,h',ha,tr,hk,hcm,hro⟩:=Ga hcall hn (group l) ops.toList e e1 h [] recs0 hl' hok he hx1
            simp only[List.nil_append] at ha
            subst ha
            rw[dI] at hro
            refine ⟨h',?_,hk,hcm⟩
            cases hd:draw with
            | false=>simpa using Ag (id:=id) tr
            | true =>
              obtain ⟨h1,rfl⟩:=hdr hd
              have hcf:nY ops.toList recs0:=Hs hchk (by simpa using hro.1) (fun i x r hx hr=>by
                simp only[List.getElem?_map,Option.map_eq_some_iff] at hx
                obtain ⟨s,hs,rfl⟩:=hx
                exact hro.2 i s r hs hr)
              simpa using se hm (id:=id) tr h1 hcf
          · simp at hx
        · simp at hx
      split at hc
      · rename_i hd
        split at hc
        · rename_i ht
          simp at hc; subst hc
          exact key _ hx (fun _=>⟨ht,rfl⟩)
        · simp at hc
      · rename_i hd
        simp at hc; subst hc
        exact key _ hx (fun e=>absurd e hd)
theorem Hp (hm:P.follows .mixedOrders=true) {call:eE} (hcall:gu P call) {run:qE} (hrun:pG P run):pG P (iB P call run):=by
  intro n fz c sc hc hn e e' r h hx he
  cases c with
  | skip =>
    simp[fc] at hc; subst hc
    simp only[iB,GM,Option.some.injEq,Prod.mk.injEq] at hx
    obtain ⟨rfl,rfl⟩:=hx
    exact ⟨h,.skip,he,Calm.refl _ _,fun _ h=>by simp at h⟩
  | region id ops draw =>
    obtain ⟨h',a,b,d⟩:=Jf (id:=id) hm hcall hn hc he hx
    exact ⟨h',a,b,d,fun _ h=>by simp at h⟩
  | seq x y =>
    simp only[fc] at hc
    split at hc
    · rename_i a b h1 h2
      simp at hc; subst hc
      simp only[iB,JI] at hx
      split at hx
      · rename_i e1 hx1
        obtain ⟨h1',x1,he1,c1,l1⟩:=hrun n fz x a h1 hn e e1 .normal h hx1 he
        obtain ⟨h2',x2,he2,c2,l2⟩:=hrun n fz y b h2 hn e1 e' r h1' hx he1
        exact ⟨h2',x1.seq x2,he2,c1.trans c2,fun _ h=>by simp at h⟩
      · rename_i hne
        obtain ⟨h1',x1,he1,c1,l1⟩:=hrun n fz x a h1 hn e e' r h hx he
        refine ⟨h1',x1.Dn (fun e=>?_),he1,c1,fun _ h=>by simp at h⟩
        subst e
        exact absurd hx (hne e')
    · simp at hc
  | cond cc x y =>
    simp only[fc] at hc
    split at hc
    · rename_i a b h1 h2
      simp at hc; subst hc
      simp only[iB,Ig,SX.bD] at hx
      split at hx
      · rename_i ht
        obtain ⟨h1',x1,he1,c1,l1⟩:=hrun n fz x a h1 hn e e' r h hx he
        exact ⟨h1',.cond ht x1,he1,c1,fun _ h=>by simp at h⟩
      · rename_i ht
        obtain ⟨h1',x1,he1,c1,l1⟩:=hrun n fz y b h2 hn e e' r h hx he
        exact ⟨h1',.cond ht x1,he1,c1,fun _ h=>by simp at h⟩
      · simp at hx
    · simp at hc
  | block id c =>
    simp only[fc,Option.map_eq_some_iff] at hc
    obtain ⟨a,h1,rfl⟩:=hc
    simp only[iB,F0] at hx
    split at hx
    · rename_i r1 e1 hx1
      simp only[Option.some.injEq,Prod.mk.injEq] at hx
      obtain ⟨rfl,rfl⟩:=hx
      obtain ⟨h1',x1,he1,c1,l1⟩:=hrun n fz c a h1 hn e e1 r1 h hx1 he
      exact ⟨h1',x1.block,he1,c1,fun _ h=>by simp at h⟩
    · simp at hx
  | loop c =>
    have hc0:=hc
    simp only[fc,Option.map_eq_some_iff] at hc
    obtain ⟨a,h1,rfl⟩:=hc
    simp only[iB,Ib] at hx
    split at hx
    · rename_i e1 hx1
      obtain ⟨h1',x1,he1,c1,l1⟩:=hrun n fz c a h1 hn e e1 .normal h hx1 he
      obtain ⟨h2',x2,he2,c2,l2⟩:=hrun n fz (.loop c) (.loop a) hc0 hn e1 e' r h1' hx he1
      have hL:=kp.step x1 (l2 c rfl)
      exact ⟨h2',.loop hL,he2,c1.trans c2,fun c0 h0=>by simp only[Code.loop.injEq] at h0; subst h0; exact hL⟩
    · rename_i hne
      obtain ⟨h1',x1,he1,c1,l1⟩:=hrun n fz c a h1 hn e e' r h hx he
      have hL:=kp.out x1 (fun e=>by subst e; exact absurd hx (hne e'))
      exact ⟨h1',.loop hL,he1,c1,fun c0 h0=>by simp only[Code.loop.injEq] at h0; subst h0; exact hL⟩
  | exit id =>
    simp[fc] at hc; subst hc
    simp only[iB,Option.some.injEq,Prod.mk.injEq] at hx
    obtain ⟨rfl,rfl⟩:=hx
    exact ⟨h,.exit,he,Calm.refl _ _,fun _ h=>by simp at h⟩
  | ret =>
    simp[fc] at hc; subst hc
    simp only[iB,Option.some.injEq,Prod.mk.injEq] at hx
    obtain ⟨rfl,rfl⟩:=hx
    exact ⟨h,.ret,he,Calm.refl _ _,fun _ h=>by simp at h⟩
  | _=>simp[fc] at hc
theorem xX:∀ (vs:List V) (i:Nat) (t:bB V),i+vs.length≤8000→∀ k,(iO vs i t).get .any k=if i≤k∧k < i+vs.length then vs.getD (k - i) .any else t.get .any k
  | [],i,t,h,k=>by
    rw[iO,if_neg (by simp only[List.length_nil]; omega)]
  | v :: vs,i,t,h,k=>by
    simp only[List.length_cons] at h
    rw[iO,xX vs (i+1) _ (by omega),bB.iR _ _ _ _ _ _ (by simp only[deep]; omega)]
    simp only[List.length_cons]
    by_cases h1:k=i
    · subst h1; rw[if_neg (by omega),if_pos rfl,if_pos (by omega)]; simp
    · by_cases h2:i+1≤k∧k < i+1+vs.length
      · rw[if_pos h2,if_pos (by omega)]
        have:k - i=(k - (i+1))+1:=by omega
        rw[this]; rfl
      · rw[if_neg h2,if_neg h1,if_neg (by omega)]
theorem BI (vs:List V) (h:vs.length≤8000):(iO vs 0 .nil).get .any=gL vs:=by
  funext k
  rw[xX vs 0 .nil (by omega)]
  simp only[gL,Nat.zero_le,true_and,Nat.zero_add,Nat.sub_zero]
  split
  · rfl
  · rename_i hk
    rw[List.getD_eq_getElem?_getD,List.getElem?_eq_none (by omega)]; rfl
theorem IM {e:ES} {h:aw} {r:ResultVar} {rest:List ResultVar} {l:List SR} (he:eV h e) (hc:dn P (r :: rest)=some l):∃ s l',l=s :: l'∧dn P rest=some l'∧∀ v,Hg s e=some v→mg P e.T h r=some v:=by
  cases r with
  | tmp t =>
    simp only[dn,Option.map_eq_some_iff] at hc
    obtain ⟨l',h1,rfl⟩:=hc
    exact ⟨.tmp t,l',rfl,h1,fun v hv=>hv⟩
  | cell a t =>
    simp only[dn] at hc
    split at hc
    · rename_i k l' h1 h2
      simp at hc; subst hc
      refine ⟨.cell a k,l',rfl,h2,fun v hv=>?_⟩
      simp only[Hg] at hv
      simp only[mg,iz,py h1]
      rw[he.1] at hv
      split at hv
      · rename_i id i j ha
        split at hv
        · rename_i es hH
          split at hv
          · rename_i hlt
            rw[ha]; simp only[hH]; rw[if_pos hlt,hv]; rfl
          · simp at hv
        · simp at hv
      · rename_i e j ha
        rw[ha]; simp only; rw[hv]; rfl
      · simp at hv
    · simp at hc
theorem Bx {e:ES} {h:aw} (he:eV h e):∀ (rs:List ResultVar) (l:List SR) (vs:List V),dn P rs=some l→pw l e=some vs→iq P e.T h rs=some vs
  | [],l,vs,hc,hw=>by simp[dn] at hc; subst hc; simp[pw] at hw; subst hw; rfl
  | r :: rest,l,vs,hc,hw=>by
    obtain ⟨s,l',rfl,h1,h2⟩:=IM (e:=e) (h:=h) he hc
    simp only[pw] at hw
    split at hw
    · rename_i v vs' hv hvs
      simp at hw; subst hw
      simp[iq,h2 v hv,Bx he rest l' vs' h1 hvs]
    · simp at hw
def pV (P:Program) (tab:List (FuncId × DF)):Prop:=∀ p∈tab,∃ fz,aE P p.1 fz=some p.2
def mn (P:Program) (ext:sD):Prop:=∀ g vs H t,ext g vs H=some t→bZ P g=true∧∀ h:aw,h.view=H→bu P g vs h t h
theorem zD {tab:List (FuncId × DF)} {ext:sD} (ht:pV P tab) (hx:mn P ext) {run:qE} (hrun:pG P run):gu P (zo P tab ext run):=by
  intro g vs e v e' h hcall he
  unfold zo at hcall
  split at hcall
  · rename_i t hext
    simp only[Option.some.injEq,Prod.mk.injEq] at hcall
    obtain ⟨rfl,rfl⟩:=hcall
    obtain ⟨h1,h2⟩:=hx _ _ _ _ hext
    exact ⟨h1,h,h2 h he.1.symm,he,fun _ _ _=>rfl,fun _ hw=>by simp at hw⟩
  · split at hcall
    · rename_i g' F hf
      have hmem:=List.mem_of_find?_eq_some hf
      have hgg:g'=g:=by
        have:=List.find?_some hf
        exact Nat.eq_of_beq_eq_true this
      subst hgg
      obtain ⟨fz,hF⟩:=ht _ hmem
      simp only at hF
      unfold aE at hF
      split at hF
      · rename_i fn hfn
        split at hF
        · rename_i c hb
          split at hF
          · rename_i sc rs h1 h2 h3
            simp at hF; subst hF
            refine ⟨h3,?_⟩
            unfold JP at hcall
            split at hcall
            · rename_i hlen hn
              have hlen:=Nat.le_of_ble_eq_true hlen
              have hn:=Nat.le_of_ble_eq_true hn
              simp only at hlen hn
              unfold Jk at hcall
              split at hcall
              · rename_i v1 e1' hend
                simp only[Option.some.injEq,Prod.mk.injEq] at hcall
                obtain ⟨rfl,rfl⟩:=hcall
                unfold JM at hend
                have go:∀ (r:Exit) (e1:ES),(r=.ret∨r=.normal)→run sc ⟨iO vs 0 .nil,e.H,e.n,[]⟩=some (r,e1)→(pw rs e1).map (fun vs=>(ai vs,e1))=some (v1,e1') →
                    ∃ h',bu P g' vs h v1 h'∧eV h' e1'∧(∀ id,id < h.length→¬ id∈e1'.w→h'.view id=h.view id):=by
                  intro r e1 hr hrn hres
                  simp only[Option.map_eq_some_iff,Prod.mk.injEq] at hres
                  obtain ⟨vs',hvs,rfl,rfl⟩:=hres
                  obtain ⟨h',hx,he1,hc1,_⟩:=hrun fn.ntmps fz c sc h1 hn _ e1 r h hrn he
                  have hT:(ES.T ⟨iO vs 0 .nil,e.H,e.n,[]⟩)=gL vs:=BI vs (by omega)
                  rw[hT] at hx
                  refine ⟨h',bu.Dl hfn hb hlen hx (by rcases hr with rfl | rfl <;> simp) ?_,he1,fun id hid hw=>(hc1.2 id hid hw).1⟩
                  unfold Ea
                  rw[Bx he1 _ _ _ h2 hvs]
                  cases vs' with
                  | nil=>rfl
                  | cons a l=>cases l <;> rfl
                have done:(∃ h',bu P g' vs h v1 h'∧eV h' e1'∧(∀ id,id < h.length→¬ id∈e1'.w→h'.view id=h.view id)) →
                    ∃ h',bu P g' vs h v1 h'∧eV h' ⟨e1'.L,e1'.H,e1'.n,e1'.w.filter fun id=>Nat.blt id e.n⟩∧(∀ id,id < h.length→¬ id∈e1'.w.filter (fun id=>Nat.blt id e.n)→h'.view id=h.view id)∧∀ id,id∈e1'.w.filter (fun id=>Nat.blt id e.n)→id < h.length:=by
                  rintro ⟨h',k1,k2,k3⟩
                  refine ⟨h',k1,k2,fun id hid hw=>k3 id hid (fun hm=>hw ?_),fun id hw=>?_⟩
                  · rw[List.mem_filter]
                    exact ⟨hm,by rw[he.2]; exact Nat.ble_eq_true_of_le hid⟩
                  · rw[List.mem_filter] at hw
                    have:=Nat.le_of_ble_eq_true hw.2
                    rw[he.2] at this; exact this
                split at hend
                · rename_i e1 hrn; exact done (go _ _ (.inl rfl) hrn hend)
                · rename_i e1 hrn; exact done (go _ _ (.inr rfl) hrn hend)
                · simp at hend
              · simp at hcall
            · simp at hcall
          · simp at hF
        · simp at hF
      · simp at hF
    · simp at hcall
theorem Cm (hm:P.follows .mixedOrders=true) {tab:List (FuncId × DF)} {ext:sD} (ht:pV P tab) (hx:mn P ext):∀ k,pG P (Bq P tab ext k)
  | 0=>fun n fz c sc hc hn e e' r h hr he=>by simp[Bq] at hr
  | k+1=>by
    have ih:=Cm hm ht hx k
    have:=Hp hm (zD ht hx ih) ih
    exact this
end
inductive dh (h:aw):V→V→Prop
  | val (v:Value):dh h (.val v) (.val v)
  | emp (k:Nat):dh h (.emp k) (.aF [])
  | sl (id off len esz z:Nat) (es es':List (List V)):h.view id=.arr z es→off+len≤es.length→es'.length=len →
      (∀ i,i < len→(es'.getD i []).length=(es.getD (off+i) []).length) →
      (∀ i j,i < len→j < (es'.getD i []).length→dh h ((es.getD (off+i) []).getD j .any) ((es'.getD i []).getD j .any))→dh h (.sl id off len esz) (.aF es')
  | agg (cs cs':List V):cs'.length=cs.length→(∀ i,i < cs.length→dh h (cs.getD i .any) (cs'.getD i .any))→dh h (.agg cs) (.agg cs')
  | bc (cs cs':List V):cs'.length=cs.length→(∀ i,i < cs.length→dh h (cs.getD i .any) (cs'.getD i .any))→dh h (.bc cs) (.bc cs')
theorem IJ {h:aw} {Z:Nat→Prop} {μ ν:Mu} {F:View} {hp:Array Obj} (hr:ey Z μ hp (cat h F)) {v t:V} (fr:dh h v t):∀ {x:Value},aq Z μ hp v x→aq (fh μ) ν hp t x:=by
  have hcat:∀ id,h.view id≠.dead→cat h F id=h.view id:=fun id hd=>by simp only[cat]; rw[if_pos (fP hd)]
  induction fr with
  | val v=>intro x hx; cases hx with | val _ hv=>exact .val _ hv
  | emp k=>intro x hx; cases hx with | emp _ a=>exact .eF a 0 (fun _=>rfl)
  | sl id off len esz z es es' hH hle hlen hl _ ih =>
    intro x hx
    cases hx with
    | ie _ _ _ a =>
      have:es'=[]:=List.length_eq_zero_iff.1 hlen
      subst this
      exact .eF a 0 (fun _=>rfl)
    | sl _ _ _ _ b o0 cap c e f hm hlec hb hs =>
      have hor:=hr.obj id
      rw[hcat id (by rw[hH]; simp),hH] at hor
      obtain ⟨rfl,_,h3,h4⟩:=hor b o0 esz hm
      have hx:∀ i,∃ ci:Nat→Value,∀ j,j < esz→i < len→cellAt hp b (o0+off * esz+i * esz+j)=some (ci j)∧aq Z μ hp ((es.getD (off+i) []).getD j .any) (ci j):=by
        intro i
        by_cases hi:i < len
        · obtain ⟨ci,hci⟩:=jk (n:=esz) (p:=fun j x=>cellAt hp b (o0+off * esz+i * esz+j)=some x∧aq Z μ hp ((es.getD (off+i) []).getD j .any) x) (fun j hj=>by
            obtain ⟨x,hx,hv⟩:=h4 (off+i) j (by omega) hj
            rw[Nat.add_mul,← Nat.add_assoc] at hx
            exact ⟨x,hx,hv⟩)
          exact ⟨ci,fun j hj _=>hci j hj⟩
        · exact ⟨fun _=>undef,fun j _ h=>absurd h hi⟩
      obtain ⟨cf,hcf⟩:=Classical.axiomOfChoice hx
      have hel:∀ i,i < es'.length→(es'.getD i []).length=esz:=fun i hi=>by rw[hl i (by omega)]; exact h3 _ (by omega)
      have:=aq.aF (Z:=fh μ) (μ:=ν) (hp:=hp) es' b (o0+off * esz) esz cap cf ⟨id,o0,esz,hm⟩ (by omega) hel
        (fun i j hi hj=>(hcf i j hj (by omega)).1) (fun i j hi hj=>ih i j (by omega) (by rw[hel i hi]; exact hj) (hcf i j hj (by omega)).2)
      rw[hlen] at this
      exact this
  | agg cs cs' hlen _ ih =>
    intro x hx
    cases hx with
    | agg _ aas h1 h2=>exact .agg _ _ (by omega) (fun i hi=>ih i (by omega) (h2 i (by omega)))
  | bc cs cs' hlen _ ih =>
    intro x hx
    cases hx with
    | bc _ aas h1 h2=>exact .bc _ _ (by omega) (fun i hi=>ih i (by omega) (h2 i (by omega)))
def cJ (P:Program) (f:FuncId) (vs:List V) (t:V):Prop :=
  ∀ Z μ (w:World) (xs:List Value),dc Z μ w.heap vs xs→(∀ b,Z b→b < w.heap.size) →
    Calls P f xs.toArray w fun e w'=>∃ x Z',e=.returned x∧(∀ ν,aq Z' ν w'.heap t x)∧cQ w w'∧(∀ b,Z' b→w.heap.size≤b∧b < w'.heap.size)∧dB w.heap w'.heap (fun _=>False)
theorem cJ.pure {P:Program} {f:FuncId} {vs:List V} {t:V} (h:cJ P f vs t):aC P f vs t:=by
  intro Z μ w xs hrel hz
  refine (h Z μ w xs hrel hz).mono ?_
  rintro e w' ⟨x,Z',rfl,hv,hs,hz',ho⟩
  exact ⟨x,fun b=>Z b∨Z' b,rfl,fun ν=>(hv ν).mono ⟨fun _ h=>.inr h,fun _ _=>rfl,fun _ _ h=>h,dm.refl _⟩,hs,fun _ h=>.inl h,fun b hb=>hb.imp id (hz' b),ho⟩
theorem cJ.pU {P:Program} {f:FuncId} {vs:List V} {r t:V} {h':aw} (ht:∀ v∈vs,Tree v) (hc:bu P f vs [] r h') (hf:dh h' r t):cJ P f vs t:=by
  intro Z μ w xs hrel hz
  have hrel0:dc Z (fun _=>none) w.heap vs xs:=⟨hrel.1,fun i hi=>pC (hrel.2 i hi) (by
    simp only[List.getD_eq_getElem?_getD,List.getElem?_eq_getElem hi,Option.getD_some]
    exact ht _ (List.getElem_mem _))⟩
  have hr0:ey Z (fun _=>none) w.heap (cat [] fun _=>.dead):=by
    rw[wQ]
    exact ⟨fun _=>trivial,fun i j b o s o' s' _ h=>by simp at h,fun id b o s h=>by simp at h,hz,fun id b o s h=>by simp at h⟩
  refine (hc.2 Z _ _ w xs hrel0 hr0 (fun _ _ _=>rfl)).mono ?_
  rintro e w' ⟨x,Z',μ',rfl,hv,hh,hex,_⟩
  refine ⟨x,fh μ',rfl,fun ν=>IJ hh hf hv,hex.same,?_,fun b hb _=>hex.frame b hb (by rintro ⟨_,_,_,h⟩; simp at h)⟩
  rintro b ⟨id,o,s,hb⟩
  rcases hex.vE _ _ _ _ hb with h1 | ⟨_,h1 | ⟨_,_,_,h1⟩⟩
  · simp at h1
  · exact ⟨h1,hh.lt _ _ _ _ hb⟩
  · simp at h1
theorem cJ.of {P:Program} {f:FuncId} {vs:List V} {t:V} (ht:∀ v∈vs,Tree v) (h:aH P f vs (fun _=>.dead) fun r H'=>∀ h':aw,h'.view=H'→dh h' r t):cJ P f vs t:=by
  obtain ⟨r,h',ha,_,hf⟩:=h.2 [] x8
  exact cJ.pU ht ha (hf h' rfl)
theorem bu.oV {P:Program} {f:FuncId} {ts vs:List V} {t:V} {h:aw} (hc:cJ P f ts t) (hl:ts.length=vs.length)
    (hfr:∀ i,i < vs.length→Fr h (vs.getD i .any) (ts.getD i .any)):bu P f vs h t h:=by
  refine ⟨Nat.le_refl _,fun Z μ F w xs hrel hr hfree=>?_⟩
  have hts:dc (fun b=>Z b∨fh μ b) μ w.heap ts xs:=⟨by rw[hl,hrel.1],fun i hi=>uW hr (hfr i (by omega)) (hrel.2 i (by omega))⟩
  have hzl:∀ b,(Z b∨fh μ b)→b < w.heap.size:=by
    rintro b (hb | ⟨id,o,s,hb⟩)
    · exact hr.bG b hb
    · exact hr.lt _ _ _ _ hb
  refine (hc _ μ w xs hts hzl).mono ?_
  rintro e w' ⟨x,Z',rfl,hv,hs,hz',ho⟩
  have hm:dS Z (fun b=>Z b∨Z' b) μ μ w.heap w'.heap:=⟨fun _ h=>.inl h,fun b hb=>ho b (hr.bG b hb) (fun x=>x),fun _ _ h=>h,ho.k7⟩
  refine ⟨x,fun b=>Z b∨Z' b,μ,rfl,(hv μ).mono ⟨fun _ h=>.inr h,fun _ _=>rfl,fun _ _ h=>h,dm.refl _⟩,⟨fun id=>(hr.obj id).mono hm rfl (fun b o s hx=>ho b (hr.lt _ _ _ _ hx) (fun x=>x)),hr.inj,fun id b o s hx=>Nat.lt_of_lt_of_le (hr.lt _ _ _ _ hx) hs.size,fun b hb=>?_,fun id b o s hx hzb=>?_⟩,
    ⟨hs,hm,fun b hb _=>ho b hb (fun x=>x),fun b hb=>hb.imp id (fun h=>(hz' b h).1),fun _ _ _ _ h=>.inl h⟩,fun _ _=>rfl⟩
  · rcases hb with hb | hb
    · exact Nat.lt_of_lt_of_le (hr.bG b hb) hs.size
    · exact (hz' b hb).2
  · rcases hzb with hb | hb
    · exact hr.er _ _ _ _ hx hb
    · have:=hr.lt _ _ _ _ hx; have:=(hz' b hb).1; omega
theorem aJ.oV {P:Program} {q:Bool} {f:FuncId} {H:View} {vs ts:List V} {K:V→View→Prop} {v:bS (H,K)} {t:V} (hc:cJ P f ts t) (hok:bZ P f=true) (hl:ts.length=vs.length)
    (hfr:∀ i,i < vs.length→df H (vs.getD i .any) (ts.getD i .any)) (hk:K t H):aJ P q f vs H K v:=by
  unfold aJ
  cases q with
  | true=>exact ⟨hok,fun h e=>⟨t,h,bu.oV hc hl (fun i hi=>hfr i hi h e),fun _ _=>rfl,e ▸ hk⟩⟩
  | false =>
    refine ⟨hok,?_⟩
    rintro h rfl
    exact ⟨t,h,bu.oV hc hl (fun i hi=>hfr i hi h rfl),.refl _,hk⟩
noncomputable def jl (fz:V→Option V):List V→Option (List V)
  | []=>some []
  | v :: l=>match fz v,jl fz l with
    | some a,some b=>some (a :: b)
    | _,_=>none
noncomputable def xi (fz:V→Option V):List (List V)→Option (List (List V))
  | []=>some []
  | v :: l=>match jl fz v,xi fz l with
    | some a,some b=>some (a :: b)
    | _,_=>none
noncomputable def ri (H:View):Nat→V→Option V
  | 0,_=>none
  | k+1,v=>match v with
    | .val x=>some (.val x)
    | .emp _=>some (.aF [])
    | .sl id off len _=>match H id with
      | .arr _ es=>if off+len≤es.length then (xi (ri H k) ((es.drop off).take len)).map .aF else none
      | _=>none
    | .agg cs=>(jl (ri H k) cs).map .agg
    | .bc cs=>(jl (ri H k) cs).map .bc
    | _=>none
theorem ew {fz:V→Option V} : ∀ (l l':List V),jl fz l=some l'→l'.length=l.length∧∀ i,i < l.length→fz (l.getD i .any)=some (l'.getD i .any)
  | [],l',h=>by simp only[jl,Option.some.injEq] at h; subst h; exact ⟨rfl,fun i hi=>by simp at hi⟩
  | v :: l,l',h=>by
    simp only[jl] at h
    split at h
    · rename_i a b h1 h2
      simp only[Option.some.injEq] at h; subst h
      obtain ⟨g1,g2⟩:=ew l b h2
      refine ⟨by simp[g1],fun i hi=>?_⟩
      cases i with
      | zero=>exact h1
      | succ i=>exact g2 i (by simpa using hi)
    · simp at h
theorem xG {fz:V→Option V} : ∀ (l l':List (List V)),xi fz l=some l'→l'.length=l.length∧∀ i,i < l.length→jl fz (l.getD i [])=some (l'.getD i [])
  | [],l',h=>by simp only[xi,Option.some.injEq] at h; subst h; exact ⟨rfl,fun i hi=>by simp at hi⟩
  | v :: l,l',h=>by
    simp only[xi] at h
    split at h
    · rename_i a b h1 h2
      simp only[Option.some.injEq] at h; subst h
      obtain ⟨g1,g2⟩:=xG l b h2
      refine ⟨by simp[g1],fun i hi=>?_⟩
      cases i with
      | zero=>exact h1
      | succ i=>exact g2 i (by simpa using hi)
    · simp at h
theorem Dg (h:aw):∀ (k:Nat) (v t:V),ri h.view k v=some t→dh h v t
  | 0,v,t,hf=>by simp[ri] at hf
  | k+1,v,t,hf=>by
    have ih:=Dg h k
    simp only[ri] at hf
    split at hf
    · simp only[Option.some.injEq] at hf; subst hf; exact .val _
    · simp only[Option.some.injEq] at hf; subst hf; exact .emp _
    · rename_i id off len esz
      split at hf
      · rename_i z es hH
        split at hf
        · rename_i hle
          simp only[Option.map_eq_some_iff] at hf
          obtain ⟨es',he,rfl⟩:=hf
          obtain ⟨g1,g2⟩:=xG _ _ he
          have hlen:es'.length=len:=by rw[g1]; simp; omega
          have hg:∀ i,i < len→((es.drop off).take len).getD i []=es.getD (off+i) []:=fun i hi=>by
            simp[List.getD_eq_getElem?_getD,List.getElem?_take,hi]
          have g3:∀ i,i < len→jl (ri h.view k) (es.getD (off+i) [])=some (es'.getD i []):=fun i hi=>by
            rw[← hg i hi]; exact g2 i (by rw[← g1,hlen]; exact hi)
          exact .sl id off len esz z es es' hH hle hlen (fun i hi=>(ew _ _ (g3 i hi)).1) (fun i j hi hj=>ih _ _ ((ew _ _ (g3 i hi)).2 j (by rw[← (ew _ _ (g3 i hi)).1]; exact hj)))
        · simp at hf
      · simp at hf
    · simp only[Option.map_eq_some_iff] at hf
      obtain ⟨l,hl,rfl⟩:=hf
      obtain ⟨g1,g2⟩:=ew _ _ hl
      exact .agg _ _ g1 (fun i hi=>ih _ _ (g2 i hi))
    · simp only[Option.map_eq_some_iff] at hf
      obtain ⟨l,hl,rfl⟩:=hf
      obtain ⟨g1,g2⟩:=ew _ _ hl
      exact .bc _ _ g1 (fun i hi=>ih _ _ (g2 i hi))
    · simp at hf
noncomputable def Ie:Option (V × ES)→Option V
  | some (v,e)=>ri e.V 50 v
  | none=>none
noncomputable def sQ (P:Program) (tab:List (FuncId × DF)) (ext:sD) (f:FuncId) (vs:List V):Option V :=
  Ie (zo P tab ext (Bq P tab ext 100000) f vs ⟨.nil,.nil,0,[]⟩)
theorem qx {P:Program} (hm:P.follows .mixedOrders=true) {tab:List (FuncId × DF)} {ext:sD} (ht:pV P tab) (hx:mn P ext) {f:FuncId} {vs:List V} {t:V} (hvs:∀ v∈vs,Tree v) (h:sQ P tab ext f vs=some t) :
    cJ P f vs t:=by
  unfold sQ Ie at h
  split at h
  · rename_i v e hr
    obtain ⟨h1,h',h2,h3,_⟩:=zD ht hx (Cm hm ht hx 100000) f vs _ v e [] hr ⟨by funext k; rfl,rfl⟩
    rw[h3.1] at h
    exact cJ.pU hvs h2 (Dg h' 50 v t h)
  · simp at h
structure ao.rj (g:ao):Prop where
  az:g.az.length≤24
  zt:1≤g.ax.length
  ax:g.ax.length≤16
  Lr:1≤g.rules.length
  rules:g.rules.length≤40
  mM:0≤g.start
  start:g.start < g.ax.length
  left:∀ r∈g.rules,0≤r.left∧r.left < g.ax.length
  right:∀ r∈g.rules,r.right.length≤6
  sym:∀ r∈g.rules,∀ s∈r.right,nN g s=true
  prec:∀ r∈g.rules,-1≤r.prec∧r.prec < g.az.length
theorem rF {g:ao} : ∀ (l:List aG) (top:Int),gv g l top=true→top≤(g.ax.length:Int) - 1∧∀ r∈l,0≤r.left∧r.left < g.ax.length∧ks g r=true
  | [],top,h=>by simp[gv] at h; exact ⟨by omega,fun r hr=>by simp at hr⟩
  | r :: l,top,h=>by
    simp only[gv,Bool.and_eq_true,decide_eq_true_eq] at h
    obtain ⟨⟨⟨h1,h2⟩,h3⟩,h4⟩:=h
    obtain ⟨k1,k2⟩:=rF l _ h4
    have h5:r.left≤(if r.left > top then r.left else top):=by split <;> omega
    have h6:top≤(if r.left > top then r.left else top):=by split <;> omega
    refine ⟨by omega,fun r' hr=>?_⟩
    rcases List.mem_cons.1 hr with rfl | hr
    · exact ⟨h1,by omega,h3⟩
    · exact k2 r' hr
theorem bq {g:ao} (h:bz g=true):g.rj:=by
  simp only[bz,tc,ve,Bool.and_eq_true,decide_eq_true_eq] at h
  obtain ⟨⟨⟨⟨⟨⟨⟨h1,_⟩,⟨h2,h3⟩,_⟩,h4⟩,h5⟩,h6⟩,h7⟩,h8⟩:=h
  have k:=(rF _ _ h8).2
  have hb:∀ r∈g.rules,r.right.length≤6∧-1≤r.prec∧r.prec < g.az.length∧∀ s∈r.right,nN g s=true:=fun r hr=>by
    have:=(k r hr).2.2
    simp only[ks,Bool.and_eq_true,decide_eq_true_eq,List.all_eq_true,uU] at this
    exact ⟨this.1.1.1,this.1.1.2,this.1.2,fun s hs=>(this.2 s hs).1⟩
  exact ⟨h1,h2,h3,h4,h5,h6,h7,fun r hr=>⟨(k r hr).1,(k r hr).2.1⟩,fun r hr=>(hb r hr).1,fun r hr=>(hb r hr).2.2.2,fun r hr=>⟨(hb r hr).2.1,(hb r hr).2.2.1⟩⟩
theorem ao.rj.neg {g:ao} (h:g.rj) {r:aG} (hr:r∈g.rules) {s:Int} (hs:s∈r.right) (hn:s < 0) : -1 - s < g.ax.length:=by
  have:=h.sym r hr s hs
  simp only[nN] at this
  rw[if_neg (by omega)] at this
  simpa using this
abbrev du (is:List Bool):List (List V):=is.map fun x=>[gb x]
theorem sF {h:aw} {id:Nat} {is:List Bool} (hv:h.view id=.arr 1 (du is)):dh h (.sl id 0 is.length 1) (cg is):=by
  refine .sl id 0 is.length 1 1 (du is) _ hv (by simp) (by simp) (fun i hi=>by simp) (fun i j hi hj=>?_)
  rw[Nat.zero_add]
  have e:(du is).getD i []=[gb is[i]]:=by simp[List.getD_eq_getElem?_getD,hi]
  rw[e] at hj ⊢
  have:j=0:=by simp at hj; omega
  subst this
  exact .val _
theorem Dv {H:View} {id n:Nat} {is:List Bool} (hv:H id=.arr 1 (du is)) (hn:n=is.length):df H (.sl id 0 n 1) (cg is):=by
  have ht:∀ e∈du is,∀ v∈e,Tree v:=by
    intro e he v hv
    obtain ⟨a,_,rfl⟩:=List.mem_map.1 he
    rw[List.mem_singleton] at hv
    subst hv
    exact .val _
  have:=df.sl (off:=0) (len:=n) (esz:=1) hv (by simp[hn]) ht
  rwa [List.drop_zero,List.take_of_length_le (by simp[hn])] at this
theorem yq {is:List Bool} {i:Nat} (h:i < is.length):(du is).getD i []=[gb is[i]]:=by simp[List.getD_eq_getElem?_getD,h]
theorem sA (is:List Bool) (i:Nat) (b:Bool):(du is).set i [gb b]=du (is.set i b):=by simp[List.map_set]
theorem Gx (n:Nat) (b:Bool):List.replicate n [gb b]=du (List.replicate n b):=by simp
def iter {α:Type} (f:α→α):Nat→α→α
  | 0,x=>x
  | n+1,x=>iter f n (f x)
def di (t:Bool) (is:List Bool) (r:aG):List Bool:=if dg r.right is t=true then is.set r.left.toNat true else is
def j3 (g:ao) (t:Bool) (is:List Bool):List Bool:=g.rules.foldl (di t) is
def bK (g:ao):List Bool:=List.replicate g.ax.length false
def aB (g:ao) (t:Bool):List Bool:=if bz g=true then iter (j3 g t) g.ax.length (bK g) else []
theorem Er (t:Bool) (is:List Bool) (r:aG):(di t is r).length=is.length:=by unfold di; split <;> simp
def mark (is:List Bool) (s:Int):List Bool:=if s < 0 then is.set (-1 - s).toNat true else is
def gj (p is:List Bool) (r:aG):List Bool:=if (is.getD r.left.toNat false && dg r.right p true)=true then r.right.foldl mark is else is
def pa (g:ao) (p is:List Bool):List Bool:=g.rules.foldl (gj p) is
def bk (g:ao):List Bool:=if bz g=true then iter (pa g (aB g true)) g.ax.length ((bK g).set g.start.toNat true) else []
theorem G1 (is:List Bool) (s:Int):(mark is s).length=is.length:=by unfold mark; split <;> simp
theorem x7:∀ (l:List Int) (is:List Bool),(l.foldl mark is).length=is.length
  | [],_=>rfl
  | s :: l,is=>by rw[List.foldl_cons,x7 l,G1]
theorem E2 (p is:List Bool) (r:aG):(gj p is r).length=is.length:=by unfold gj; split <;> simp[x7]
theorem tW {f:List Bool→List Bool} (hf:∀ is,(f is).length=is.length):∀ (n:Nat) (is:List Bool),(iter f n is).length=is.length
  | 0,_=>rfl
  | n+1,is=>by rw[iter,tW hf n,hf]
theorem tY {α:Type} {f:List Bool→α→List Bool} (hf:∀ is x,(f is x).length=is.length):∀ (l:List α) (is:List Bool),(l.foldl f is).length=is.length
  | [],_=>rfl
  | x :: l,is=>by rw[List.foldl_cons,tY hf l,hf]
theorem ig {g:ao} (h:bz g=true) (t:Bool):(aB g t).length=g.ax.length:=by
  have hl:∀ is,(j3 g t is).length=is.length:=fun is=>tY (Er t) _ _
  rw[aB,if_pos h,tW hl]
  simp[bK]
def tD:DF:=⟨.seq (ae [bd 2 false]) <|
  .seq (.region [] [⟨none,[aa 3 0,aD 4 147 [3],aa 5 4]⟩,⟨(some (5,false)),[aa 6 0,((some 7),.op (.arith .eql (.tmp 6) (.val (.val (.int .u8 46)))))]⟩,⟨none,[bU 8 5 7,aa 9 8]⟩,⟨(some (9,false)),[aa 10 0,((some 11),.op (.arith .geq (.tmp 10) (.val (.val (.int .u8 48))))),aa 12 11]⟩,⟨(some (12,true)),[aa 13 0,((some 14),.op (.arith .leq (.tmp 13) (.val (.val (.int .u8 57)))))]⟩,⟨(some (9,false)),[bC 15 12 14]⟩,⟨none,[bU 16 9 15,aa 2 16]⟩]) <|
  .ret,
  [.tmp 2],17⟩
theorem xo:aE Tryz.prog 148 []=some tD:=by kernel_rfl
def rV:DF:=⟨.seq (ae [bd 2 false]) <|
  .seq (.region [] [⟨none,[aa 3 0,((some 4),.op (.arith .eql (.tmp 3) (.val (.val (.int .u8 95))))),aa 5 4]⟩,⟨(some (5,false)),[aa 6 0,((some 7),.op (.arith .or (.tmp 6) (.val (.val (.int .u8 32))))),((some 8),.op (.arith .geq (.tmp 7) (.val (.val (.int .u8 97))))),aa 9 8]⟩,⟨(some (9,true)),[aa 10 0,((some 11),.op (.arith .or (.tmp 10) (.val (.val (.int .u8 32))))),((some 12),.op (.arith .leq (.tmp 11) (.val (.val (.int .u8 122)))))]⟩,⟨(some (5,false)),[bC 13 9 12]⟩,⟨none,[bU 14 5 13,aa 2 14]⟩]) <|
  .ret,
  [.tmp 2],15⟩
theorem vh:aE Tryz.prog 147 []=some rV:=by kernel_rfl
def tE:DF:=⟨.seq (ae [bd 2 false]) <|
  .seq (.region [] [⟨none,[aa 3 0,((some 4),.op (.arith .geq (.tmp 3) (.val (.val (.int .u8 32))))),aa 5 4]⟩,⟨(some (5,true)),[aa 6 0,((some 7),.op (.arith .leq (.tmp 6) (.val (.val (.int .u8 126)))))]⟩,⟨none,[bC 8 5 7,aa 9 8]⟩,⟨(some (9,true)),[aa 10 0,((some 11),.op (.arith .neq (.tmp 10) (.val (.val (.int .u8 39)))))]⟩,⟨none,[bC 12 9 11,aa 13 12]⟩,⟨(some (13,true)),[aa 14 0,((some 15),.op (.arith .neq (.tmp 14) (.val (.val (.int .u8 92)))))]⟩,⟨none,[bC 16 13 15,aa 2 16]⟩]) <|
  .ret,
  [.tmp 2],17⟩
theorem xK:aE Tryz.prog 233 []=some tE:=by kernel_rfl
def qM:DF:=⟨.seq (ae [bd 2 false]) <|
  .seq (.region [] [⟨none,[aa 3 0,((some 4),.op (.arith .eql (.tmp 3) (.val (.val (.int .u8 110))))),aa 5 4]⟩,⟨(some (5,false)),[aa 6 0,((some 7),.op (.arith .eql (.tmp 6) (.val (.val (.int .u8 116)))))]⟩,⟨none,[bU 8 5 7,aa 9 8]⟩,⟨(some (9,false)),[aa 10 0,((some 11),.op (.arith .eql (.tmp 10) (.val (.val (.int .u8 92)))))]⟩,⟨none,[bU 12 9 11,aa 13 12]⟩,⟨(some (13,false)),[aa 14 0,((some 15),.op (.arith .eql (.tmp 14) (.val (.val (.int .u8 39)))))]⟩,⟨none,[bU 16 13 15,aa 2 16]⟩]) <|
  .ret,
  [.tmp 2],17⟩
theorem ur:aE Tryz.prog 234 []=some qM:=by kernel_rfl
def oH:List (FuncId × DF):=[(148,tD),(147,rV),(233,tE),(234,qM)]
theorem nr:pV Tryz.prog oH:=by
  intro p hp
  simp only[oH,List.mem_cons,List.not_mem_nil,or_false] at hp
  rcases hp with rfl | rfl | rfl | rfl
  · exact ⟨_,xo⟩
  · exact ⟨_,vh⟩
  · exact ⟨_,xK⟩
  · exact ⟨_,ur⟩
theorem Ij (P:Program):mn P (fun _ _ _=>none):=fun _ _ _ _ h=>by simp at h
def JA (o:Option V) (b:Bool):Bool:=match o with
  | some (.val (.bool c))=>c == b
  | _=>false
theorem Jw {o:Option V} {b:Bool} (h:JA o b=true):o=some (gb b):=by
  unfold JA at h
  split at h
  · rw[beq_iff_eq] at h; rw[h]
  · simp at h
noncomputable def rO (tab:List (FuncId × DF)) (f:FuncId) (p:Int→Bool):Bool:=(List.range 256).all fun c=>JA (sQ Tryz.prog tab (fun _ _ _=>none) f [gy (c:Int)]) (p (c:Int))
theorem qi {tab:List (FuncId × DF)} (ht:pV Tryz.prog tab) {f:FuncId} {p:Int→Bool} (h:rO tab f p=true) (c:Int) (h0:0≤c) (h1:c≤255):aC Tryz.prog f [gy c] (gb (p c)):=by
  have:=List.all_eq_true.1 h c.toNat (by simp; omega)
  rw[show ((c.toNat:Nat):Int)=c by omega] at this
  exact (qx mixed ht (Ij _) (by intro v hv; simp at hv; subst hv; exact .val _) (Jw this)).pure
def rT (c:Int):Bool:=decide (32≤c) && decide (c≤126) && c != 39 && c != 92
def xm (c:Int):Bool:=c == 110 || c == 116 || c == 92 || c == 39
theorem Du:rO oH 147 AV=true:=by kernel_rfl
theorem Fc:rO oH 148 wD=true:=by kernel_rfl
theorem Gz:rO oH 233 rT=true:=by kernel_rfl
theorem IW:rO oH 234 xm=true:=by kernel_rfl
theorem yX {s:ByteArray} {c:Int} (h:c∈eR s):0≤c∧c≤255:=by
  unfold eR at h
  obtain ⟨b,_,rfl⟩:=List.mem_map.1 h
  have:=b.toNat_lt
  omega
theorem GB (s:ByteArray):dP s=(eR s).map fun x=>[gy x]:=by simp[dP,eR]
end Gv
