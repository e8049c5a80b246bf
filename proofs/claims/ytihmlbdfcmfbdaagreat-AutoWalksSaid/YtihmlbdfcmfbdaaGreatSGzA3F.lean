/-
  Part 6 of the proof: what the machine does and what the functions answer.
  Conditions: those that each lemma names.
-/
import Derived.Test.YtihmlbdfcmfbdaaGreatSGzA3E
set_option linter.unusedSimpArgs false
set_option linter.unusedVariables false
set_option maxRecDepth 100000
namespace Gv
open Go Go.Proofs
inductive bC (α:Type) where
  | nil
  | node (v:α) (l r:bC α)
noncomputable def bC.get {α:Type} (z:α) (t:bC α):Nat→α :=
  bC.rec (motive:=fun _=>Nat→α) (fun _=>z) (fun v _ _ gl gr i=>Bool.rec (Bool.rec (gr (i / 2 - 1)) (gl (i / 2)) (Nat.beq (i % 2) 1)) v (Nat.beq i 0)) t
theorem bC.get_nil {α:Type} (z:α) (i:Nat):bC.get z .nil i=z:=rfl
theorem bC.GZ {α:Type} (z v:α) (l r:bC α) (i:Nat):bC.get z (.node v l r) i=match Nat.beq i 0 with
    | true=>v
    | false=>match Nat.beq (i % 2) 1 with
      | true=>bC.get z l (i / 2)
      | false=>bC.get z r (i / 2 - 1):=by
  change (Bool.rec (motive:=fun _=>α) _ _ _:α)=_
  cases Nat.beq i 0 with
  | true=>rfl
  | false=>cases Nat.beq (i % 2) 1 <;> rfl
def bC.val {α:Type} (z:α):bC α→α
  | .nil=>z
  | .node v _ _=>v
def bC.left {α:Type} : bC α→bC α
  | .nil=>.nil
  | .node _ l _=>l
def bC.right {α:Type} : bC α→bC α
  | .nil=>.nil
  | .node _ _ r=>r
noncomputable def bC.put {α:Type} (z:α) (x:α) (d:Nat):bC α→Nat→bC α :=
  Nat.rec (motive:=fun _=>bC α→Nat→bC α) (fun t _=>t) (fun _ pd t i =>
    Bool.rec (Bool.rec (.node (t.val z) t.left (pd t.right (i / 2 - 1))) (.node (t.val z) (pd t.left (i / 2)) t.right) (Nat.beq (i % 2) 1)) (.node x t.left t.right) (Nat.beq i 0)) d
theorem bC.FZ {α:Type} (z x:α) (d:Nat) (t:bC α) (i:Nat):bC.put z x (d+1) t i=match Nat.beq i 0 with
    | true=>.node x t.left t.right
    | false=>match Nat.beq (i % 2) 1 with
      | true=>.node (t.val z) (bC.put z x d t.left (i / 2)) t.right
      | false=>.node (t.val z) t.left (bC.put z x d t.right (i / 2 - 1)):=by
  change (Bool.rec (motive:=fun _=>bC α) _ _ _:bC α)=_
  cases Nat.beq i 0 with
  | true=>rfl
  | false=>cases Nat.beq (i % 2) 1 <;> rfl
theorem bC.iR {α:Type} (z:α) (t:bC α) (j:Nat):t.get z j=if j=0 then t.val z else if j % 2=1 then t.left.get z (j / 2) else t.right.get z (j / 2 - 1):=by
  cases t with
  | nil=>simp[bC.get_nil,bC.val,bC.left,bC.right]
  | node v l r =>
    simp only[bC.GZ,bC.val,bC.left,bC.right]
    by_cases h:j=0
    · subst h; rfl
    · have:Nat.beq j 0=false:=by cases e:Nat.beq j 0 with | true=>exact absurd (Nat.eq_of_beq_eq_true e) h | false=>rfl
      rw[this,if_neg h]
      simp only
      by_cases h2:j % 2=1
      · have:Nat.beq (j % 2) 1=true:=by rw[h2]; rfl
        rw[this,if_pos h2]
      · have:Nat.beq (j % 2) 1=false:=by cases e:Nat.beq (j % 2) 1 with | true=>exact absurd (Nat.eq_of_beq_eq_true e) h2 | false=>rfl
        rw[this,if_neg h2]
theorem bC.iZ {α:Type} (z x:α):∀ (d:Nat) (t:bC α) (i j:Nat),i+1 < 2 ^ d→(bC.put z x d t i).get z j=if j=i then x else t.get z j
  | 0,t,i,j,h=>by simp at h
  | d+1,t,i,j,h=>by
    rw[Nat.pow_succ] at h
    simp only[bC.FZ]
    by_cases hi:i=0
    · subst hi
      have:Nat.beq 0 0=true:=rfl
      rw[this]
      simp only
      rw[bC.iR,bC.iR z t]
      simp only[bC.val,bC.left,bC.right]
      by_cases hj:j=0
      · rw[if_pos hj,if_pos hj]
      · rw[if_neg hj,if_neg hj,if_neg hj]
    · have:Nat.beq i 0=false:=by cases e:Nat.beq i 0 with | true=>exact absurd (Nat.eq_of_beq_eq_true e) hi | false=>rfl
      rw[this]
      simp only
      by_cases h2:i % 2=1
      · have:Nat.beq (i % 2) 1=true:=by rw[h2]; rfl
        rw[this]
        simp only
        rw[bC.iR,bC.iR z t]
        simp only[bC.val,bC.left,bC.right]
        by_cases hj:j=0
        · subst hj; rw[if_pos rfl,if_neg (fun e=>hi e.symm),if_pos rfl]
        · rw[if_neg hj,if_neg hj]
          by_cases hj2:j % 2=1
          · rw[if_pos hj2,if_pos hj2,bC.iZ z x d _ _ _ (by omega)]
            by_cases e:j=i
            · subst e; simp
            · rw[if_neg e,if_neg (by omega)]
          · rw[if_neg hj2,if_neg hj2,if_neg (fun e=>hj2 (by rw[e]; exact h2))]
      · have:Nat.beq (i % 2) 1=false:=by cases e:Nat.beq (i % 2) 1 with | true=>exact absurd (Nat.eq_of_beq_eq_true e) h2 | false=>rfl
        rw[this]
        simp only
        rw[bC.iR,bC.iR z t]
        simp only[bC.val,bC.left,bC.right]
        by_cases hj:j=0
        · subst hj; rw[if_pos rfl,if_neg (fun e=>hi e.symm),if_pos rfl]
        · rw[if_neg hj,if_neg hj]
          by_cases hj2:j % 2=1
          · rw[if_pos hj2,if_pos hj2,if_neg (fun e=>h2 (by rw[← e]; exact hj2))]
          · rw[if_neg hj2,if_neg hj2,bC.iZ z x d _ _ _ (by omega)]
            by_cases e:j=i
            · subst e; simp
            · rw[if_neg e,if_neg (by omega)]
abbrev deep:Nat:=13
structure ES where
  L:bC V
  H:bC br
  n:Nat
  w:List Nat
noncomputable def ES.T (s:ES):Env:=s.L.get .any
noncomputable def ES.V (s:ES):View:=s.H.get .dead
noncomputable def ES.put (s:ES) (d:Option Nat) (v:Gv.V):ES:=match d with
  | some t=>⟨s.L.put .any v deep t,s.H,s.n,s.w⟩
  | none=>s
theorem ES.He {s:ES} {d:Option Nat} {v:Gv.V} (h:∀ t,d=some t→t < 8000):(s.put d v).T=s.T.put d v:=by
  cases d with
  | none=>rfl
  | some t =>
    funext k
    have:=h t rfl
    simp only[ES.put,ES.T,Env.put]
    rw[bC.iZ _ _ _ _ _ _ (by simp[deep]; omega)]
noncomputable def AB (v:V) (au:aM) (rd:List Nat) (s:ES):Option (V × ES × Rec):=match au with
  | .none=>some (v,s,⟨rd,[],false,s.n,s.n⟩)
  | .new o=>match Nat.ble s.n 8000 with
    | true=>some (v,⟨s.L,s.H.put .dead o deep s.n,s.n+1,s.w⟩,⟨rd,[],false,s.n,s.n+1⟩)
    | false=>none
  | .ec id o=>match Nat.ble id 8000 with
    | true=>some (v,⟨s.L,s.H.put .dead o deep id,s.n,id :: s.w⟩,⟨rd,[id],false,s.n,s.n⟩)
    | false=>none
  | .bc id o=>match Nat.ble s.n 8000,Nat.ble id 8000 with
    | true,true=>some (v,⟨s.L,(s.H.put .dead .dead deep id).put .dead o deep s.n,s.n+1,id :: s.w⟩,⟨rd,[id],false,s.n,s.n+1⟩)
    | _,_=>none
noncomputable def J2 (x:SX) (_:Program) (T:Env) (_:View) (_:Nat):Out:=some (x.at T,.none,[])
noncomputable def Je (c a b:SX) (_:Program) (T:Env) (_:View) (_:Nat):Out:=match c.at T with
  | .val (.bool t)=>some (if t then a.at T else b.at T,.none,[])
  | _=>none
noncomputable def I6 (sz:Option Nat) (a:SX) (_:Program) (T:Env) (H:View) (_:Nat):Out:=pN sz (a.at T) H
noncomputable def Il (sz:Nat) (a x:SX) (_:Program) (T:Env) (H:View) (_:Nat):Out:=uA sz (a.at T) (x.at T) H
noncomputable def Jg (off:Nat) (x:SX) (_:Program) (T:Env) (_:View) (_:Nat):Out:=sn off (x.at T)
noncomputable def JP (sz:Nat) (x i:SX) (_:Program) (T:Env) (_:View) (_:Nat):Out:=wW sz (x.at T) (i.at T)
noncomputable def J1 (x:SX) (_:Program) (T:Env) (_:View) (_:Nat):Out:=(cT (x.at T)).map fun n=>(ak n,.none,[])
noncomputable def IX (op:BinOp) (x y:SX) (_:Program) (T:Env) (_:View) (_:Nat):Out:=r6 op (x.at T) (y.at T)
noncomputable def JE (op:BinOp) (x y:SX) (_:Program) (T:Env) (_:View) (_:Nat):Out:=ud op (x.at T) (y.at T)
noncomputable def JW (x:SX) (_:Program) (T:Env) (_:View) (_:Nat):Out:=match x.at T with
  | .val (.bool t)=>some (.val (.bool (!t)),.none,[])
  | _=>none
noncomputable def Ju (i:Nat) (x:SX) (_:Program) (T:Env) (_:View) (_:Nat):Out:=match x.at T with
  | .aV vs=>if i < vs.length then some (vs.getD i .any,.none,[]) else none
  | _=>none
noncomputable def I5 (x:SX) (_:Program) (T:Env) (_:View) (_:Nat):Out:=match x.at T with
  | .ptr id i j=>some (.ptr id i j,.none,[])
  | .aS e j=>some (.aS e j,.none,[])
  | .fn f a b=>some (.fn f a b,.none,[])
  | _=>none
noncomputable def eI (s:SI):Program→Env→View→Nat→Out:=match s with
  | .bc x=>J2 x
  | .pick c a b=>Je c a b
  | .load sz a=>I6 sz a
  | .store sz a x=>Il sz a x
  | .addr o x=>Jg o x
  | .idx sz x i=>JP sz x i
  | .len x=>J1 x
  | .arith op x y=>IX op x y
  | .hZ op x y=>JE op x y
  | .not x=>JW x
  | .ext i x=>Ju i x
  | .tQ x=>I5 x
  | s=>fun P T H n=>sI P s T H n
theorem CK (s:SI) (P:Program) (T:Env) (H:View) (n:Nat):eI s P T H n=sI P s T H n:=by
  cases s <;> rfl
abbrev eH:=FuncId→List V→ES→Option (V × ES)
noncomputable def EU (P:Program) (s:SI) (e:ES):Option (V × ES × Rec):=match eI s P e.T e.V e.n with
  | some (v,au,rd)=>AB v au rd e
  | none=>none
noncomputable def EM (call:eH) (f:SX) (args:List SX) (e:ES):Option (V × ES × Rec):=match f.at e.T with
  | .fn g first cap=>match call g (first ++ args.map (SX.at e.T) ++ cap) e with
    | some (v,e')=>some (v,⟨e.L,e'.H,e'.n,e'.w ++ e.w⟩,⟨[],e'.w,true,e.n,e'.n⟩)
    | none=>none
  | _=>none
noncomputable def eB (P:Program) (call:eH) (b:SB):ES→Option (V × ES × Rec):=match b with
  | .op s=>EU P s
  | .call f args=>EM call f args
noncomputable def BX (P:Program) (call:eH):List (Option Nat × SB)→List Rec→ES→Option (ES × List Rec)
  | [],a,e=>some (e,a)
  | (d,b) :: r,a,e=>match eB P call b e with
    | some (v,e',c)=>BX P call r (a ++ [c]) (e'.put d v)
    | none=>none
noncomputable def Hk (e:ES):Rec:=⟨[],[],false,e.n,e.n⟩
noncomputable def pX:List (Option Nat × SB)→List Rec→ES→ES × List Rec
  | [],a,e=>(e,a)
  | (d,_) :: r,a,e=>pX r (a ++ [Hk e]) (e.put d (.aV []))
noncomputable def EL (P:Program) (call:eH) (ops:List (Option Nat × SB)) (want:Bool) (v:V) (a:List Rec) (e:ES):Option (ES × List Rec):=match v with
  | .val (.bool b)=>match xor b want with
    | true=>some (pX ops a e)
    | false=>BX P call ops a e
  | .aV []=>some (pX ops a e)
  | _=>none
noncomputable def eG (P:Program) (call:eH) (g:SG) (a:List Rec) (e:ES):Option (ES × List Rec):=match g.guard with
  | none=>BX P call g.ops a e
  | some (d,want)=>EL P call g.ops want (e.T d) a e
noncomputable def Ep (P:Program) (call:eH):List SG→List Rec→ES→Option (ES × List Rec)
  | [],a,e=>some (e,a)
  | g :: r,a,e=>match eG P call g a e with
    | some (e',a')=>Ep P call r a' e'
    | none=>none
inductive DC where
  | skip
  | region (ps:List (Nat × Nat)) (gs:List SG)
  | seq (x y:DC)
  | cond (c:SX) (x y:DC)
  | block (id:Nat) (c:DC)
  | loop (c:DC)
  | exit (id:Nat)
  | ret
  deriving Inhabited
def DK (recs:List Rec) (ps:List (Nat × Nat)):Bool:=ps.all fun (i,k)=>match recs[i]?,recs[k]? with
  | some a,some b=>vX a b
  | _,_=>false
abbrev ER:=Option (Exit × ES)
abbrev qz:=DC→ES→ER
noncomputable def FK:ES→ER:=fun e=>some (.normal,e)
noncomputable def BC (P:Program) (call:eH) (ps:List (Nat × Nat)) (gs:List SG) (e:ES):ER:=match Ep P call gs [] e with
  | some (e',recs)=>match DK recs ps with
    | true=>some (.normal,e')
    | false=>none
  | none=>none
noncomputable def Ir (run:qz) (x y:DC) (e:ES):ER:=match run x e with
  | some (.normal,e')=>run y e'
  | r=>r
noncomputable def Hb (run:qz) (c:SX) (x y:DC) (e:ES):ER:=match c.at e.T with
  | .val (.bool true)=>run x e
  | .val (.bool false)=>run y e
  | _=>none
noncomputable def EG (run:qz) (id:Nat) (c:DC) (e:ES):ER:=match run c e with
  | some (r,e')=>some (kp id r,e')
  | none=>none
noncomputable def Hd (run:qz) (c:DC) (e:ES):ER:=match run c e with
  | some (.normal,e')=>run (.loop c) e'
  | r=>r
noncomputable def iD (P:Program) (call:eH) (run:qz) (c:DC):ES→ER:=match c with
  | .skip=>FK
  | .region ps gs=>BC P call ps gs
  | .seq x y=>Ir run x y
  | .cond c x y=>Hb run c x y
  | .block id c=>EG run id c
  | .loop c=>Hd run c
  | .exit id=>fun e=>some (.exit id,e)
  | .ret=>fun e=>some (.ret,e)
noncomputable def Gm (r:SR) (e:ES):Option V:=match r with
  | .tmp t=>some (e.T t)
  | .cell t sz=>match e.T t with
    | .ptr id i j=>match e.V id with
      | .arr _ es=>if i < es.length then iJ sz (es.getD i []) j else none
      | _=>none
    | .aS e j=>iJ sz e j
    | _=>none
noncomputable def pn:List SR→ES→Option (List V)
  | [],_=>some []
  | r :: l,e=>match Gm r e,pn l e with
    | some v,some vs=>some (v :: vs)
    | _,_=>none
noncomputable def iV:List V→Nat→bC V→bC V
  | [],_,t=>t
  | v :: vs,i,t=>iV vs (i+1) (t.put .any v deep i)
structure DF where
  code:DC
  res:List SR
  n:Nat
noncomputable def IL (l:List SR) (r:ER):Option (V × ES):=match r with
  | some (.ret,e)=>(pn l e).map fun vs=>(ai vs,e)
  | some (.normal,e)=>(pn l e).map fun vs=>(ai vs,e)
  | _=>none
noncomputable def IT (m:Nat) (r:Option (V × ES)):Option (V × ES):=match r with
  | some (v,e)=>some (v,⟨e.L,e.H,e.n,e.w.filter fun id=>Nat.blt id m⟩)
  | none=>none
noncomputable def IP (run:qz) (F:DF) (vs:List V) (e:ES):Option (V × ES):=match Nat.ble vs.length F.n,Nat.ble F.n 8000 with
  | true,true=>IT e.n (IL F.res (run F.code ⟨iV vs 0 .nil,e.H,e.n,[]⟩))
  | _,_=>none
abbrev rB:=FuncId→List V→View→Option V
noncomputable def yB (P:Program) (tab:List (FuncId × DF)) (ext:rB) (run:qz) (g:FuncId) (vs:List V) (e:ES):Option (V × ES):=match ext g vs e.V with
  | some t=>some (t,⟨e.L,e.H,e.n,[]⟩)
  | none=>match tab.find? (fun p=>Nat.beq p.1 g) with
    | some (_,F)=>IP run F vs e
    | none=>none
noncomputable def Af (P:Program) (tab:List (FuncId × DF)) (ext:rB):Nat→qz
  | 0=>fun _ _=>none
  | k+1=>iD P (yB P tab ext (Af P tab ext k)) (Af P tab ext k)
def uF (all:List Oper) (ls:List Nat):List (Nat × Nat) :=
  let b:=dk all []
  (ls.zipIdx.map fun (x,i)=>(ls.zipIdx.filter fun (y,k)=>decide (i < k) && !(ordered b i k || x == 0 || y == 0 || (decide (x≤1) && decide (y≤1)))).map fun (_,k)=>(i,k)).flatten
def za (P:Program) (n:Nat) (fz:List Nat) (ops:List Oper) (draw:Bool):Option DC:=match ca P n ops ⟨fz,false⟩ ops with
  | none=>none
  | some l=>if !(group l).all nD then none else
    if draw then (if iA ops then some (.region (uF ops (l.map fun s=>ff P false s.b)) (group l)) else none) else some (.region [] (group l))
def fh (P:Program) (n:Nat) (fz:List Nat):Code→Option DC
  | .skip=>some .skip
  | .region _ ops draw=>za P n fz ops.toList draw
  | .seq x y=>match fh P n fz x,fh P n fz y with
    | some a,some b=>some (.seq a b)
    | _,_=>none
  | .cond c x y=>match fh P n fz x,fh P n fz y with
    | some a,some b=>some (.cond (SX.of c) a b)
    | _,_=>none
  | .block id c=>(fh P n fz c).map (.block id)
  | .loop c=>(fh P n fz c).map .loop
  | .exit id=>some (.exit id)
  | .ret=>some .ret
  | _=>none
abbrev ah (l:List (Option Nat × SB)):DC:=.region [] [⟨none,l⟩]
def aF (P:Program) (f:FuncId) (fz:List Nat):Option DF:=match P.funcs[f]? with
  | some fn=>match fn.body with
    | some c=>match fh P fn.ntmps fz c,dq P fn.results.toList,b7 P f with
      | some sc,some rs,true=>some ⟨sc,rs,fn.ntmps⟩
      | _,_,_=>none
    | none=>none
  | none=>none
section
variable {P:Program} {n:Nat} {all:List Oper}
def eY (h:av) (e:ES):Prop:=e.V=h.view∧e.n=h.length
def Calm (e e':ES) (h h':av):Prop:=h.length≤h'.length∧(∀ id,id < h.length→¬ id∈e'.w→h'.view id=h.view id∧¬ id∈e.w)
theorem Calm.trans {a b c:ES} {h1 h2 h3:av} (x:Calm a b h1 h2) (y:Calm b c h2 h3):Calm a c h1 h3 :=
  ⟨Nat.le_trans x.1 y.1,fun id hid hw =>
    let ⟨e1,d1⟩:=y.2 id (Nat.lt_of_lt_of_le hid x.1) hw
    let ⟨e2,d2⟩:=x.2 id hid d1
    ⟨e1.trans e2,d2⟩⟩
theorem Calm.refl (e:ES) (h:av):Calm e e h h:=⟨Nat.le_refl _,fun _ _ hw=>⟨rfl,hw⟩⟩
def gK (P:Program) (call:eH):Prop:=∀ g vs e v e' h,call g vs e=some (v,e')→eY h e →
  b7 P g=true∧∃ h',bo P g vs h v h'∧eY h' e'∧(∀ id,id < h.length→¬ id∈e'.w→h'.view id=h.view id)∧∀ id,id∈e'.w→id < h.length
def pY (P:Program) (run:qz):Prop:=∀ (n:Nat) (fz:List Nat) (c:Code) (sc:DC),fh P n fz c=some sc→n≤8000→∀ (e e':ES) (r:Exit) (h:av),run sc e=some (r,e')→eY h e →
  ∃ h',bK P n c e.T h r e'.T h'∧eY h' e'∧Calm e e' h h'∧∀ c0,c=.loop c0→kq P n c0 e.T h r e'.T h'
theorem E0 {h:av} {e:ES} {d:Option Nat} {v:V} (he:eY h e):eY h (e.put d v):=by cases d <;> exact he
theorem Hh {e:ES} {d:Option Nat} {v:V} : (e.put d v).w=e.w:=by cases d <;> rfl
theorem Gn {h:av} {e e':ES} {h':av} {d:Option Nat} {v:V} (x:Calm e e' h h'):Calm e (e'.put d v) h h':=⟨x.1,fun id hid hw=>x.2 id hid (by rw[Hh] at hw; exact hw)⟩
theorem uJ {a:Nat} (h:Nat.ble a 8000=true):a+1 < 2 ^ 13:=by
  have:=Nat.le_of_ble_eq_true h
  omega
theorem Hy {h:av} {e e':ES} {v v':V} {au:aM} {rd:List Nat} {c:Rec} (he:eY h e) (hx:AB v au rd e=some (v',e',c)) :
    v'=v∧e'.T=e.T∧e'.V=au.view h.view h.length∧e'.n=(au.apply h).length∧c=⟨rd,au.wr,false,h.length,(au.apply h).length⟩∧e'.w=au.wr ++ e.w:=by
  obtain ⟨h1,h2⟩:=he
  unfold AB at hx
  cases au with
  | none =>
    simp only[Option.some.injEq,Prod.mk.injEq] at hx
    obtain ⟨rfl,rfl,rfl⟩:=hx
    exact ⟨rfl,rfl,h1,h2,by rw[h2]; rfl,rfl⟩
  | new o =>
    simp only at hx
    split at hx
    · rename_i hb
      simp only[Option.some.injEq,Prod.mk.injEq] at hx
      obtain ⟨rfl,rfl,rfl⟩:=hx
      refine ⟨rfl,rfl,?_,by simp[dS,h2],by simp[dS,h2,aM.wr],rfl⟩
      funext k
      simp only[ES.V,aM.view,View.set]
      rw[bC.iZ _ _ _ _ _ _ (uJ hb),h2]
      have:=congrFun h1 k
      simp only[ES.V] at this
      rw[this]
    · simp at hx
  | ec id o =>
    simp only at hx
    split at hx
    · rename_i hb
      simp only[Option.some.injEq,Prod.mk.injEq] at hx
      obtain ⟨rfl,rfl,rfl⟩:=hx
      refine ⟨rfl,rfl,?_,by simp[dS,h2],by simp[dS,h2,aM.wr],rfl⟩
      funext k
      simp only[ES.V,aM.view,View.set]
      rw[bC.iZ _ _ _ _ _ _ (uJ hb)]
      have:=congrFun h1 k
      simp only[ES.V] at this
      rw[this]
    · simp at hx
  | bc id o =>
    simp only at hx
    split at hx
    · rename_i hb1 hb2
      simp only[Option.some.injEq,Prod.mk.injEq] at hx
      obtain ⟨rfl,rfl,rfl⟩:=hx
      refine ⟨rfl,rfl,?_,by simp[dS,h2],by simp[dS,h2,aM.wr],rfl⟩
      funext k
      simp only[ES.V,aM.view,View.set]
      rw[bC.iZ _ _ _ _ _ _ (uJ hb1),bC.iZ _ _ _ _ _ _ (uJ hb2),h2]
      have:=congrFun h1 k
      simp only[ES.V] at this
      rw[this]
    · simp at hx
theorem IV {o:Oper} {e e':ES} {h:av} {s:SI} {v:V} {c:Rec} (hg:bU n all e.T o=some true) (hc:∀ v au rd,sI P s e.T h.view h.length=some (v,au,rd)→bt P o e.T h.view h.length=some (v,au,rd))
    (he:eY h e) (hx:EU P s e=some (v,e',c)):∃ h',cg P n all o e.T h v h' c.rd c.wr c.call∧eY h' e'∧e'.T=e.T∧Calm e e' h h'∧gR (nE P s) c.rd c.wr c.call h.length h'.length∧c.lo=h.length∧c.hi=h'.length:=by
  unfold EU at hx
  rw[CK,he.1,he.2] at hx
  split at hx
  · rename_i v0 au rd hs
    obtain ⟨rfl,g1,g2,g3,rfl,g5⟩:=Hy he hx
    have ha:=hc _ _ _ hs
    have st:=cg.op (P:=P) (n:=n) (all:=all) hg ha
    refine ⟨au.apply h,st,⟨?_,g3⟩,g1,⟨nq st,fun id hid hw=>?_⟩,⟨fun h0=>?_,fun h1=>?_⟩,rfl,rfl⟩
    · rw[hU (fun id hid=>(iP ha id hid).1)]; exact g2
    · rw[g5] at hw
      simp only[List.mem_append,not_or] at hw
      exact ⟨lZ st hid hw.1,hw.2⟩
    · obtain ⟨rfl,rfl⟩:=(l5 hs).1 h0
      exact ⟨rfl,rfl,rfl,rfl⟩
    · rcases Nat.lt_or_ge (nE P s) 1 with h2 | h2
      · obtain ⟨rfl,rfl⟩:=(l5 hs).1 (by omega); rfl
      · exact (l5 hs).2 (by omega)
  · simp at hx
theorem I1 {call:eH} (hcall:gK P call) {fz:Fz} {o:Oper} {e e':ES} {h:av} {v:V} {c:Rec} (hg:bU n all e.T o=some true) (he:eY h e) (hx:eB P call (jw P fz o) e=some (v,e',c)) :
    ∃ h',cg P n all o e.T h v h' c.rd c.wr c.call∧eY h' e'∧e'.T=e.T∧Calm e e' h h'∧gR (ff P false (jw P fz o)) c.rd c.wr c.call h.length h'.length∧c.lo=h.length∧c.hi=h'.length:=by
  rcases sR P fz o with ⟨f,args,ats,ho,hc⟩ | ⟨t,x,ho,hc⟩ | ⟨s,d,x,ho,hcv,hc⟩ | hc
  · rw[hc] at hx ⊢
    simp only[eB,EM] at hx
    split at hx
    · rename_i g first cap hf
      rw[zV] at hx
      rw[SX.bE] at hf
      split at hx
      · rename_i v0 e0 hv
        obtain ⟨hok,h',hr,hek,hd,hd2⟩:=hcall _ _ _ _ _ _ hv he
        simp only[Option.some.injEq,Prod.mk.injEq] at hx
        obtain ⟨rfl,rfl,rfl⟩:=hx
        exact ⟨h',.call hg ho hf hok hr hd hd2,hek,rfl,⟨hr.1,fun id hid hw=>by
          simp only[List.mem_append,not_or] at hw
          exact ⟨hd id hid hw.1,hw.2⟩⟩,Hf (by simp[ff]),he.2,hek.2⟩
      · simp at hx
    · simp at hx
  · rw[hc] at hx ⊢
    simp only[eB,EU,CK,sI,SX.bE] at hx
    split at hx
    · rename_i v0 au rd hs
      split at hs
      · rename_i hok
        simp only[Option.some.injEq,Prod.mk.injEq] at hs
        obtain ⟨rfl,rfl,rfl⟩:=hs
        simp only[AB,Option.some.injEq,Prod.mk.injEq] at hx
        obtain ⟨rfl,rfl,rfl⟩:=hx
        exact ⟨h,.fq hg ho hok,he,rfl,Calm.refl _ _,⟨fun _=>⟨rfl,rfl,rfl,rfl⟩,fun _=>rfl⟩,he.2,he.2⟩
      · simp at hs
    · simp at hx
  · rw[hc] at hx ⊢
    obtain ⟨ty,h1,h2,h3⟩:=sZ hcv
    simp only[eB,EU,CK,sI,SX.bE] at hx
    split at hx
    · rename_i v0 au rd hs
      split at hs
      · rename_i st hst
        simp only[Option.some.injEq,Prod.mk.injEq] at hs
        obtain ⟨rfl,rfl,rfl⟩:=hs
        simp only[AB,Option.some.injEq,Prod.mk.injEq] at hx
        obtain ⟨rfl,rfl,rfl⟩:=hx
        exact ⟨h,.dG hg ho h1 h2 h3 hst,he,rfl,Calm.refl _ _,⟨fun _=>⟨rfl,rfl,rfl,rfl⟩,fun _=>rfl⟩,he.2,he.2⟩
      · simp at hs
    · simp at hx
  · rw[hc] at hx ⊢
    exact IV (s:=se P fz.fr (comp P o)) hg (fun v au rd hs=>Bt (Cf hs)) he hx
theorem IH {o:Oper} (hd:lV n o=true) (hn:n≤8000):∀ t,o.dst=some t→t < 8000:=by
  intro t ht
  unfold lV at hd
  rw[ht] at hd
  have:t < n:=by simpa using hd
  exact Nat.lt_of_lt_of_le this hn
theorem Ht {c:Rec} {a b:Nat} (h1:c.lo=a) (h2:c.hi=b):c=⟨c.rd,c.wr,c.call,a,b⟩:=by cases c; subst h1; subst h2; rfl
theorem zG {call:eH} (hcall:gK P call) (hn:n≤8000) {fz:Fz} (g:Option (Nat × Bool)):∀ (l:List (Option Nat × SB)) (os:List Oper) (e e':ES) (h:av) (a a':List Rec),
    ca P n all fz os=some (l.map fun (d,b)=>⟨d,g,b⟩)→(∀ d w,g=some (d,w)→e.T d=.val (.bool w)∧(l.all fun x=>x.1 != some d)=true)→eY h e→BX P call l a e=some (e',a') →
    ∃ recs h',a'=a ++ recs∧Tr P n all os e.T h recs e'.T h'∧eY h' e'∧Calm e e' h h'∧dC P false (l.map fun (d,b)=>⟨d,g,b⟩) recs
  | [],os,e,e',h,a,a',hc,hg,he,hx=>by
    have:=gX hc; subst this
    simp only[BX,Option.some.injEq,Prod.mk.injEq] at hx; obtain ⟨rfl,rfl⟩:=hx
    exact ⟨[],h,by simp,.nil,he,Calm.refl _ _,.nil⟩
  | (d,b) :: l,os,e,e',h,a,a',hc,hg,he,hx=>by
    obtain ⟨o,r,rfl,h1,h2⟩:=iB hc
    obtain ⟨hd,hd1,hb1,hg1⟩:=nF h1
    simp only at hd1 hb1 hg1
    have hgv:bU n all e.T o=some true:=by
      cases g with
      | none=>exact vN hg1
      | some p =>
        obtain ⟨d',w⟩:=p
        have:=(gS (T:=e.T) hg1).1 w (hg d' w rfl).1
        rw[this]; simp
    simp only[BX] at hx
    rw[hb1] at hx
    split at hx
    · rename_i v e1 c hv
      obtain ⟨h1',st,he1,hT1,hcm,hl,hlo,hhi⟩:=I1 hcall hgv he hv
      have hput:(e1.put d v).T=e.T.put o.dst v:=by
        rw[ES.He (by rw[hd1]; exact IH hd hn),hT1,hd1]
      obtain ⟨recs,h'',ha,tr,he2,hcm2,hro⟩:=zG hcall hn g l r (e1.put d v) e' h1' _ a' h2 (fun d' w eq=>by
        have:=hg d' w eq
        simp only[List.all_cons,Bool.and_eq_true,bne_iff_ne,ne_eq] at this
        refine ⟨?_,this.2.2⟩
        rw[← this.1,hput,← hd1]
        cases d with
        | none=>rfl
        | some t=>simp only[Env.put]; rw[if_neg]; intro e; subst e; exact this.2.1 rfl) (E0 he1) hx
      rw[hput] at tr
      refine ⟨_,h'',?_,.cons st hd tr,he2,(Gn hcm).trans hcm2,hro.cons (by rw[hb1]; exact hl)⟩
      rw[ha,List.append_assoc,← Ht hlo hhi]; rfl
    · simp at hx
theorem zB {fz:Fz} (hn:n≤8000) (d:Nat) (w:Bool) (h:av):∀ (l:List (Option Nat × SB)) (os:List Oper) (e e':ES) (a a':List Rec),
    ca P n all fz os=some (l.map fun (d',b)=>⟨d',some (d,w),b⟩)→(e.T d=.val (.bool !w)∨e.T d=.aV [])→(l.all fun x=>x.1 != some d)=true→eY h e→pX l a e=(e',a') →
    ∃ recs,a'=a ++ recs∧Tr P n all os e.T h recs e'.T h∧eY h e'∧e'.w=e.w∧dC P false (l.map fun (d',b)=>⟨d',some (d,w),b⟩) recs
  | [],os,e,e',a,a',hc,hd,hl,he,hx=>by
    have:=gX hc; subst this
    simp only[pX,Prod.mk.injEq] at hx; obtain ⟨rfl,rfl⟩:=hx
    exact ⟨[],by simp,.nil,he,rfl,.nil⟩
  | (d',b) :: l,os,e,e',a,a',hc,hd,hl,he,hx=>by
    obtain ⟨o,r,rfl,h1,h2⟩:=iB hc
    obtain ⟨hd0,hd1,hb1,hg1⟩:=nF h1
    simp only at hd1 hb1 hg1
    have hgv:bU n all e.T o=some false:=by
      rcases hd with hd | hd
      · rw[(gS (T:=e.T) hg1).1 _ hd]; cases w <;> rfl
      · exact (gS (T:=e.T) hg1).2 hd
    simp only[List.all_cons,Bool.and_eq_true,bne_iff_ne,ne_eq] at hl
    have hput:(e.put d' (.aV [])).T=e.T.put o.dst (.aV []):=by
      rw[ES.He (by rw[hd1]; exact IH hd0 hn),hd1]
    simp only[pX] at hx
    obtain ⟨recs,ha,tr,he2,hd2,hro⟩:=zB hn d w h l r (e.put d' (.aV [])) e' _ a' h2 (by
      have:(e.put d' (.aV [])).T d=e.T d:=by
        rw[hput,← hd1]
        cases d' with
        | none=>rfl
        | some t=>simp only[Env.put]; rw[if_neg]; intro e; subst e; exact hl.1 rfl
      rw[this]; exact hd) hl.2 (E0 he) hx
    rw[hput] at tr
    refine ⟨_,?_,Tr.cons (.skip hgv) hd0 tr,he2,by rw[hd2,Hh],hro.cons (r:=⟨[],[],false,h.length,h.length⟩) ⟨fun _=>⟨rfl,rfl,rfl,rfl⟩,fun _=>rfl⟩⟩
    rw[ha,List.append_assoc,Hk,he.2]; rfl
theorem xm {fz:Fz} (hn:n≤8000) {d:Nat} {w:Bool} {h:av} {l:List (Option Nat × SB)} {os:List Oper} {e e':ES} {a a':List Rec}
    (hc:ca P n all fz os=some (l.map fun (d',b)=>⟨d',some (d,w),b⟩)) (hd:e.T d=.val (.bool !w)∨e.T d=.aV []) (hl:(l.all fun x=>x.1 != some d)=true) (he:eY h e) (hx:pX l a e=(e',a')) :
    ∃ recs h',a'=a ++ recs∧Tr P n all os e.T h recs e'.T h'∧eY h' e'∧Calm e e' h h'∧dC P false (l.map fun (d',b)=>⟨d',some (d,w),b⟩) recs:=by
  obtain ⟨recs,h1,h2,h3,h4,h5⟩:=zB hn d w h l os e e' a a' hc hd hl he hx
  exact ⟨recs,h,h1,h2,h3,⟨Nat.le_refl _,fun id _ hw=>⟨rfl,by rw[h4] at hw; exact hw⟩⟩,h5⟩
theorem IY {call:eH} (hcall:gK P call) (hn:n≤8000) {fz:Fz} {g:SG} {os:List Oper} {e e':ES} {h:av} {a a':List Rec} (hc:ca P n all fz os=some g.flat) (hok:nD g=true) (he:eY h e) (hx:eG P call g a e=some (e',a')) :
    ∃ recs h',a'=a ++ recs∧Tr P n all os e.T h recs e'.T h'∧eY h' e'∧Calm e e' h h'∧dC P false g.flat recs:=by
  unfold eG at hx
  unfold SG.flat at hc ⊢
  unfold nD at hok
  split at hx
  · rename_i hg
    rw[hg] at hc ⊢
    exact zG hcall hn none g.ops os e e' h a a' hc (fun d w e=>by simp at e) he hx
  · rename_i d want hg
    rw[hg] at hc hok ⊢
    simp only at hok
    unfold EL at hx
    split at hx
    · rename_i b hb
      split at hx
      · rename_i hxor
        simp only[Option.some.injEq] at hx
        have e':b = !want:=by cases b <;> cases want <;> simp_all
        subst e'
        exact xm hn hc (.inl hb) hok he hx
      · rename_i hxor
        have e':b=want:=by cases b <;> cases want <;> simp_all
        subst e'
        exact zG hcall hn (some (d,b)) g.ops os e _ h a a' hc (fun d' w e=>by simp at e; obtain ⟨rfl,rfl⟩:=e; exact ⟨hb,hok⟩) he hx
    · rename_i hb
      simp only[Option.some.injEq] at hx
      exact xm hn hc (.inr hb) hok he hx
    · simp at hx
theorem Ez {call:eH} (hcall:gK P call) (hn:n≤8000) {fz:Fz} : ∀ (gs:List SG) (os:List Oper) (e e':ES) (h:av) (a a':List Rec),ca P n all fz os=some (gz gs)→gs.all nD=true→eY h e→Ep P call gs a e=some (e',a') →
    ∃ recs h',a'=a ++ recs∧Tr P n all os e.T h recs e'.T h'∧eY h' e'∧Calm e e' h h'∧dC P false (gz gs) recs
  | [],os,e,e',h,a,a',hc,_,he,hx=>by
    have:=gX hc; subst this
    simp only[Ep,Option.some.injEq,Prod.mk.injEq] at hx; obtain ⟨rfl,rfl⟩:=hx
    exact ⟨[],h,by simp,.nil,he,Calm.refl _ _,.nil⟩
  | g :: gs,os,e,e',h,a,a',hc,hok,he,hx=>by
    simp only[gz,List.map_cons,List.flatten_cons] at hc ⊢
    simp only[List.all_cons,Bool.and_eq_true] at hok
    obtain ⟨o1,o2,rfl,h1,h2⟩:=lA hc
    simp only[Ep] at hx
    split at hx
    · rename_i e1 a1 hx1
      obtain ⟨r1,h1',ha1,tr1,he1,hc1,ro1⟩:=IY hcall hn h1 hok.1 he hx1
      obtain ⟨r2,h2',ha2,tr2,he2,hc2,ro2⟩:=Ez hcall hn gs o2 e1 e' h1' a1 a' h2 hok.2 he1 hx
      exact ⟨_,h2',by rw[ha2,ha1,List.append_assoc],tr1.append tr2,he2,hc1.trans hc2,ro1.append ro2⟩
    · simp at hx
theorem D3 {ls:List Nat} {i k x y:Nat} (hik:i < k) (hx:ls[i]?=some x) (hy:ls[k]?=some y) (ho:ordered (dk all []) i k=false) (h:¬ (x=0∨y=0∨(x≤1∧y≤1))):(i,k)∈uF all ls:=by
  unfold uF
  simp only[List.mem_flatten,List.mem_map]
  refine ⟨_,⟨(x,i),by rw[List.mem_zipIdx_iff_getElem?]; exact hx,rfl⟩,?_⟩
  simp only[List.mem_map,List.mem_filter]
  refine ⟨(y,k),⟨by rw[List.mem_zipIdx_iff_getElem?]; exact hy,?_⟩,rfl⟩
  simp only[hik,decide_true,ho,Bool.false_or,Bool.true_and,Bool.not_eq_true',Bool.or_eq_false_iff,beq_eq_false_iff_ne,Bool.and_eq_false_iff,decide_eq_false_iff_not]
  omega
theorem GG {ls:List Nat} {recs:List Rec} (h:DK recs (uF all ls)=true) (hl:ls.length=recs.length) (hr:∀ (i x:Nat) (r:Rec),ls[i]?=some x→recs[i]?=some r→gR x r.rd r.wr r.call r.lo r.hi):nT all recs:=by
  intro i k a b hik ha hb ho
  have hi:i < recs.length:=(List.getElem?_eq_some_iff.1 ha).1
  have hk:k < recs.length:=(List.getElem?_eq_some_iff.1 hb).1
  have hx:ls[i]?=some (ls[i]'(by omega)):=List.getElem?_eq_getElem (by omega)
  have hy:ls[k]?=some (ls[k]'(by omega)):=List.getElem?_eq_getElem (by omega)
  generalize ls[i]'(by omega)=x at hx
  generalize ls[k]'(by omega)=y at hy
  have la:=hr i _ a hx ha
  have lb:=hr k _ b hy hb
  by_cases hc:x=0∨y=0∨(x≤1∧y≤1)
  · rcases hc with h1 | h1 | h1
    · obtain ⟨e1,e2,e3,e4⟩:=la.1 h1
      exact ⟨fun id hid=>by simp[e2] at hid,fun id _=>by simp[e1],fun hc=>by simp[e3] at hc,fun _=>e2,fun id _ hx=>by omega⟩
    · obtain ⟨e1,e2,e3,e4⟩:=lb.1 h1
      exact ⟨fun id _=>by simp[e1],fun id hid=>by simp[e2] at hid,fun _=>e2,fun hc=>by simp[e3] at hc,fun id hid=>by simp[e2] at hid⟩
    · have e1:=la.2 h1.1
      have e2:=lb.2 h1.2
      exact ⟨fun id hid=>by simp[e1] at hid,fun id hid=>by simp[e2] at hid,fun _=>e2,fun _=>e1,fun id hid=>by simp[e2] at hid⟩
  · have:=List.all_eq_true.1 h _ (D3 hik hx hy ho hc)
    simp only[ha,hb] at this
    exact EE this
theorem H8 (hm:P.follows .mixedOrders=true) {call:eH} (hcall:gK P call) (hn:n≤8000) {fz:List Nat} {id:Nat} {ops:Array Oper} {draw:Bool} {sc:DC} {run:qz} {e e':ES} {r:Exit} {h:av}
    (hc:za P n fz ops.toList draw=some sc) (he:eY h e) (hx:iD P call run sc e=some (r,e')) :
    ∃ h',bK P n (.region id ops draw) e.T h r e'.T h'∧eY h' e'∧Calm e e' h h':=by
  unfold za at hc
  split at hc
  · simp at hc
  · rename_i l hl
    split at hc
    · simp at hc
    · rename_i hok
      have hok:(group l).all nD=true:=by simpa using hok
      have hl':ca P n ops.toList ⟨fz,false⟩ ops.toList=some (gz (group l)):=by rw[dO]; exact hl
      have key:∀ ps,iD P call run (.region ps (group l)) e=some (r,e')→(draw=true→iA ops.toList=true∧ps=uF ops.toList (l.map fun s=>ff P false s.b)) →
          ∃ h',bK P n (.region id ops draw) e.T h r e'.T h'∧eY h' e'∧Calm e e' h h':=by
        intro ps hx hdr
        simp only[iD,BC] at hx
        split at hx
        · rename_i e1 recs0 hx1
          split at hx
          · rename_i hchk
            simp only[Option.some.injEq,Prod.mk.injEq] at hx
            obtain ⟨rfl,rfl⟩:=hx
            obtain ⟨recs,h',ha,tr,hk,hcm,hro⟩:=Ez hcall hn (group l) ops.toList e e1 h [] recs0 hl' hok he hx1
            simp only[List.nil_append] at ha
            subst ha
            rw[dO] at hro
            refine ⟨h',?_,hk,hcm⟩
            cases hd:draw with
            | false=>simpa using AD (id:=id) tr
            | true =>
              obtain ⟨h1,rfl⟩:=hdr hd
              have hcf:nT ops.toList recs0:=GG hchk (by simpa using hro.1) (fun i x r hx hr=>by
                simp only[List.getElem?_map,Option.map_eq_some_iff] at hx
                obtain ⟨s,hs,rfl⟩:=hx
                exact hro.2 i s r hs hr)
              simpa using rM hm (id:=id) tr h1 hcf
          · simp at hx
        · simp at hx
      split at hc
      · rename_i hd
        split at hc
        · rename_i ht
          simp at hc; subst hc
          exact key _ hx (fun _=>⟨ht,rfl⟩)
        · simp at hc
      · rename_i hd
        simp at hc; subst hc
        exact key _ hx (fun e=>absurd e hd)
theorem Gi (hm:P.follows .mixedOrders=true) {call:eH} (hcall:gK P call) {run:qz} (hrun:pY P run):pY P (iD P call run):=by
  intro n fz c sc hc hn e e' r h hx he
  cases c with
  | skip =>
    simp[fh] at hc; subst hc
    simp only[iD,FK,Option.some.injEq,Prod.mk.injEq] at hx
    obtain ⟨rfl,rfl⟩:=hx
    exact ⟨h,.skip,he,Calm.refl _ _,fun _ h=>by simp at h⟩
  | region id ops draw =>
    obtain ⟨h',a,b,d⟩:=H8 (id:=id) hm hcall hn hc he hx
    exact ⟨h',a,b,d,fun _ h=>by simp at h⟩
  | seq x y =>
    simp only[fh] at hc
    split at hc
    · rename_i a b h1 h2
      simp at hc; subst hc
      simp only[iD,Ir] at hx
      split at hx
      · rename_i e1 hx1
        obtain ⟨h1',x1,he1,c1,l1⟩:=hrun n fz x a h1 hn e e1 .normal h hx1 he
        obtain ⟨h2',x2,he2,c2,l2⟩:=hrun n fz y b h2 hn e1 e' r h1' hx he1
        exact ⟨h2',x1.seq x2,he2,c1.trans c2,fun _ h=>by simp at h⟩
      · rename_i hne
        obtain ⟨h1',x1,he1,c1,l1⟩:=hrun n fz x a h1 hn e e' r h hx he
        refine ⟨h1',x1.Ce (fun e=>?_),he1,c1,fun _ h=>by simp at h⟩
        subst e
        exact absurd hx (hne e')
    · simp at hc
  | cond cc x y =>
    simp only[fh] at hc
    split at hc
    · rename_i a b h1 h2
      simp at hc; subst hc
      simp only[iD,Hb,SX.bE] at hx
      split at hx
      · rename_i ht
        obtain ⟨h1',x1,he1,c1,l1⟩:=hrun n fz x a h1 hn e e' r h hx he
        exact ⟨h1',.cond ht x1,he1,c1,fun _ h=>by simp at h⟩
      · rename_i ht
        obtain ⟨h1',x1,he1,c1,l1⟩:=hrun n fz y b h2 hn e e' r h hx he
        exact ⟨h1',.cond ht x1,he1,c1,fun _ h=>by simp at h⟩
      · simp at hx
    · simp at hc
  | block id c =>
    simp only[fh,Option.map_eq_some_iff] at hc
    obtain ⟨a,h1,rfl⟩:=hc
    simp only[iD,EG] at hx
    split at hx
    · rename_i r1 e1 hx1
      simp only[Option.some.injEq,Prod.mk.injEq] at hx
      obtain ⟨rfl,rfl⟩:=hx
      obtain ⟨h1',x1,he1,c1,l1⟩:=hrun n fz c a h1 hn e e1 r1 h hx1 he
      exact ⟨h1',x1.block,he1,c1,fun _ h=>by simp at h⟩
    · simp at hx
  | loop c =>
    have hc0:=hc
    simp only[fh,Option.map_eq_some_iff] at hc
    obtain ⟨a,h1,rfl⟩:=hc
    simp only[iD,Hd] at hx
    split at hx
    · rename_i e1 hx1
      obtain ⟨h1',x1,he1,c1,l1⟩:=hrun n fz c a h1 hn e e1 .normal h hx1 he
      obtain ⟨h2',x2,he2,c2,l2⟩:=hrun n fz (.loop c) (.loop a) hc0 hn e1 e' r h1' hx he1
      have hL:=kq.step x1 (l2 c rfl)
      exact ⟨h2',.loop hL,he2,c1.trans c2,fun c0 h0=>by simp only[Code.loop.injEq] at h0; subst h0; exact hL⟩
    · rename_i hne
      obtain ⟨h1',x1,he1,c1,l1⟩:=hrun n fz c a h1 hn e e' r h hx he
      have hL:=kq.out x1 (fun e=>by subst e; exact absurd hx (hne e'))
      exact ⟨h1',.loop hL,he1,c1,fun c0 h0=>by simp only[Code.loop.injEq] at h0; subst h0; exact hL⟩
  | exit id =>
    simp[fh] at hc; subst hc
    simp only[iD,Option.some.injEq,Prod.mk.injEq] at hx
    obtain ⟨rfl,rfl⟩:=hx
    exact ⟨h,.exit,he,Calm.refl _ _,fun _ h=>by simp at h⟩
  | ret =>
    simp[fh] at hc; subst hc
    simp only[iD,Option.some.injEq,Prod.mk.injEq] at hx
    obtain ⟨rfl,rfl⟩:=hx
    exact ⟨h,.ret,he,Calm.refl _ _,fun _ h=>by simp at h⟩
  | _=>simp[fh] at hc
theorem yd:∀ (vs:List V) (i:Nat) (t:bC V),i+vs.length≤8000→∀ k,(iV vs i t).get .any k=if i≤k∧k < i+vs.length then vs.getD (k - i) .any else t.get .any k
  | [],i,t,h,k=>by
    rw[iV,if_neg (by simp only[List.length_nil]; omega)]
  | v :: vs,i,t,h,k=>by
    simp only[List.length_cons] at h
    rw[iV,yd vs (i+1) _ (by omega),bC.iZ _ _ _ _ _ _ (by simp only[deep]; omega)]
    simp only[List.length_cons]
    by_cases h1:k=i
    · subst h1; rw[if_neg (by omega),if_pos rfl,if_pos (by omega)]; simp
    · by_cases h2:i+1≤k∧k < i+1+vs.length
      · rw[if_pos h2,if_pos (by omega)]
        have:k - i=(k - (i+1))+1:=by omega
        rw[this]; rfl
      · rw[if_neg h2,if_neg h1,if_neg (by omega)]
theorem A6 (vs:List V) (h:vs.length≤8000):(iV vs 0 .nil).get .any=gY vs:=by
  funext k
  rw[yd vs 0 .nil (by omega)]
  simp only[gY,Nat.zero_le,true_and,Nat.zero_add,Nat.sub_zero]
  split
  · rfl
  · rename_i hk
    rw[List.getD_eq_getElem?_getD,List.getElem?_eq_none (by omega)]; rfl
theorem Hz {e:ES} {h:av} {r:ResultVar} {rest:List ResultVar} {l:List SR} (he:eY h e) (hc:dq P (r :: rest)=some l):∃ s l',l=s :: l'∧dq P rest=some l'∧∀ v,Gm s e=some v→mq P e.T h r=some v:=by
  cases r with
  | tmp t =>
    simp only[dq,Option.map_eq_some_iff] at hc
    obtain ⟨l',h1,rfl⟩:=hc
    exact ⟨.tmp t,l',rfl,h1,fun v hv=>hv⟩
  | cell a t =>
    simp only[dq] at hc
    split at hc
    · rename_i k l' h1 h2
      simp at hc; subst hc
      refine ⟨.cell a k,l',rfl,h2,fun v hv=>?_⟩
      simp only[Gm] at hv
      simp only[mq,iE,pT h1]
      rw[he.1] at hv
      split at hv
      · rename_i id i j ha
        split at hv
        · rename_i es hH
          split at hv
          · rename_i hlt
            rw[ha]; simp only[hH]; rw[if_pos hlt,hv]; rfl
          · simp at hv
        · simp at hv
      · rename_i e j ha
        rw[ha]; simp only; rw[hv]; rfl
      · simp at hv
    · simp at hc
theorem zr {e:ES} {h:av} (he:eY h e):∀ (rs:List ResultVar) (l:List SR) (vs:List V),dq P rs=some l→pn l e=some vs→iy P e.T h rs=some vs
  | [],l,vs,hc,hw=>by simp[dq] at hc; subst hc; simp[pn] at hw; subst hw; rfl
  | r :: rest,l,vs,hc,hw=>by
    obtain ⟨s,l',rfl,h1,h2⟩:=Hz (e:=e) (h:=h) he hc
    simp only[pn] at hw
    split at hw
    · rename_i v vs' hv hvs
      simp at hw; subst hw
      simp[iy,h2 v hv,zr he rest l' vs' h1 hvs]
    · simp at hw
def pg (P:Program) (tab:List (FuncId × DF)):Prop:=∀ p∈tab,∃ fz,aF P p.1 fz=some p.2
def mQ (P:Program) (ext:rB):Prop:=∀ g vs H t,ext g vs H=some t→b7 P g=true∧∀ h:av,h.view=H→bo P g vs h t h
theorem AS {tab:List (FuncId × DF)} {ext:rB} (ht:pg P tab) (hx:mQ P ext) {run:qz} (hrun:pY P run):gK P (yB P tab ext run):=by
  intro g vs e v e' h hcall he
  unfold yB at hcall
  split at hcall
  · rename_i t hext
    simp only[Option.some.injEq,Prod.mk.injEq] at hcall
    obtain ⟨rfl,rfl⟩:=hcall
    obtain ⟨h1,h2⟩:=hx _ _ _ _ hext
    exact ⟨h1,h,h2 h he.1.symm,he,fun _ _ _=>rfl,fun _ hw=>by simp at hw⟩
  · split at hcall
    · rename_i g' F hf
      have hmem:=List.mem_of_find?_eq_some hf
      have hgg:g'=g:=by
        have:=List.find?_some hf
        exact Nat.eq_of_beq_eq_true this
      subst hgg
      obtain ⟨fz,hF⟩:=ht _ hmem
      simp only at hF
      unfold aF at hF
      split at hF
      · rename_i fn hfn
        split at hF
        · rename_i c hb
          split at hF
          · rename_i sc rs h1 h2 h3
            simp at hF; subst hF
            refine ⟨h3,?_⟩
            unfold IP at hcall
            split at hcall
            · rename_i hlen hn
              have hlen:=Nat.le_of_ble_eq_true hlen
              have hn:=Nat.le_of_ble_eq_true hn
              simp only at hlen hn
              unfold IT at hcall
              split at hcall
              · rename_i v1 e1' hend
                simp only[Option.some.injEq,Prod.mk.injEq] at hcall
                obtain ⟨rfl,rfl⟩:=hcall
                unfold IL at hend
                have go:∀ (r:Exit) (e1:ES),(r=.ret∨r=.normal)→run sc ⟨iV vs 0 .nil,e.H,e.n,[]⟩=some (r,e1)→(pn rs e1).map (fun vs=>(ai vs,e1))=some (v1,e1') →
                    ∃ h',bo P g' vs h v1 h'∧eY h' e1'∧(∀ id,id < h.length→¬ id∈e1'.w→h'.view id=h.view id):=by
                  intro r e1 hr hrn hres
                  simp only[Option.map_eq_some_iff,Prod.mk.injEq] at hres
                  obtain ⟨vs',hvs,rfl,rfl⟩:=hres
                  obtain ⟨h',hx,he1,hc1,_⟩:=hrun fn.ntmps fz c sc h1 hn _ e1 r h hrn he
                  have hT:(ES.T ⟨iV vs 0 .nil,e.H,e.n,[]⟩)=gY vs:=A6 vs (by omega)
                  rw[hT] at hx
                  refine ⟨h',bo.Cg hfn hb hlen hx (by rcases hr with rfl | rfl <;> simp) ?_,he1,fun id hid hw=>(hc1.2 id hid hw).1⟩
                  unfold DD
                  rw[zr he1 _ _ _ h2 hvs]
                  cases vs' with
                  | nil=>rfl
                  | cons a l=>cases l <;> rfl
                have done:(∃ h',bo P g' vs h v1 h'∧eY h' e1'∧(∀ id,id < h.length→¬ id∈e1'.w→h'.view id=h.view id)) →
                    ∃ h',bo P g' vs h v1 h'∧eY h' ⟨e1'.L,e1'.H,e1'.n,e1'.w.filter fun id=>Nat.blt id e.n⟩∧(∀ id,id < h.length→¬ id∈e1'.w.filter (fun id=>Nat.blt id e.n)→h'.view id=h.view id)∧∀ id,id∈e1'.w.filter (fun id=>Nat.blt id e.n)→id < h.length:=by
                  rintro ⟨h',k1,k2,k3⟩
                  refine ⟨h',k1,k2,fun id hid hw=>k3 id hid (fun hm=>hw ?_),fun id hw=>?_⟩
                  · rw[List.mem_filter]
                    exact ⟨hm,by rw[he.2]; exact Nat.ble_eq_true_of_le hid⟩
                  · rw[List.mem_filter] at hw
                    have:=Nat.le_of_ble_eq_true hw.2
                    rw[he.2] at this; exact this
                split at hend
                · rename_i e1 hrn; exact done (go _ _ (.inl rfl) hrn hend)
                · rename_i e1 hrn; exact done (go _ _ (.inr rfl) hrn hend)
                · simp at hend
              · simp at hcall
            · simp at hcall
          · simp at hF
        · simp at hF
      · simp at hF
    · simp at hcall
theorem Bi (hm:P.follows .mixedOrders=true) {tab:List (FuncId × DF)} {ext:rB} (ht:pg P tab) (hx:mQ P ext):∀ k,pY P (Af P tab ext k)
  | 0=>fun n fz c sc hc hn e e' r h hr he=>by simp[Af] at hr
  | k+1=>by
    have ih:=Bi hm ht hx k
    have:=Gi hm (AS ht hx ih) ih
    exact this
end
inductive dp (h:av):V→V→Prop
  | val (v:Value):dp h (.val v) (.val v)
  | emp (k:Nat):dp h (.emp k) (.aI [])
  | sl (id off len esz z:Nat) (es es':List (List V)):h.view id=.arr z es→off+len≤es.length→es'.length=len →
      (∀ i,i < len→(es'.getD i []).length=(es.getD (off+i) []).length) →
      (∀ i j,i < len→j < (es'.getD i []).length→dp h ((es.getD (off+i) []).getD j .any) ((es'.getD i []).getD j .any))→dp h (.sl id off len esz) (.aI es')
  | agg (cs cs':List V):cs'.length=cs.length→(∀ i,i < cs.length→dp h (cs.getD i .any) (cs'.getD i .any))→dp h (.agg cs) (.agg cs')
  | aV (cs cs':List V):cs'.length=cs.length→(∀ i,i < cs.length→dp h (cs.getD i .any) (cs'.getD i .any))→dp h (.aV cs) (.aV cs')
theorem HC {h:av} {Z:Nat→Prop} {μ ν:Mu} {F:View} {hp:Array Obj} (hr:eF Z μ hp (cat h F)) {v t:V} (fr:dp h v t):∀ {x:Value},ao Z μ hp v x→ao (fj μ) ν hp t x:=by
  have hcat:∀ id,h.view id≠.dead→cat h F id=h.view id:=fun id hd=>by simp only[cat]; rw[if_pos (ga hd)]
  induction fr with
  | val v=>intro x hx; cases hx with | val _ hv=>exact .val _ hv
  | emp k=>intro x hx; cases hx with | emp _ a=>exact .eC a 0 (fun _=>rfl)
  | sl id off len esz z es es' hH hle hlen hl _ ih =>
    intro x hx
    cases hx with
    | ir _ _ _ a =>
      have:es'=[]:=List.length_eq_zero_iff.1 hlen
      subst this
      exact .eC a 0 (fun _=>rfl)
    | sl _ _ _ _ b o0 cap c e f hm hlec hb hs =>
      have hor:=hr.obj id
      rw[hcat id (by rw[hH]; simp),hH] at hor
      obtain ⟨rfl,_,h3,h4⟩:=hor b o0 esz hm
      have hx:∀ i,∃ ci:Nat→Value,∀ j,j < esz→i < len→cellAt hp b (o0+off * esz+i * esz+j)=some (ci j)∧ao Z μ hp ((es.getD (off+i) []).getD j .any) (ci j):=by
        intro i
        by_cases hi:i < len
        · obtain ⟨ci,hci⟩:=jq (n:=esz) (p:=fun j x=>cellAt hp b (o0+off * esz+i * esz+j)=some x∧ao Z μ hp ((es.getD (off+i) []).getD j .any) x) (fun j hj=>by
            obtain ⟨x,hx,hv⟩:=h4 (off+i) j (by omega) hj
            rw[Nat.add_mul,← Nat.add_assoc] at hx
            exact ⟨x,hx,hv⟩)
          exact ⟨ci,fun j hj _=>hci j hj⟩
        · exact ⟨fun _=>undef,fun j _ h=>absurd h hi⟩
      obtain ⟨cf,hcf⟩:=Classical.axiomOfChoice hx
      have hel:∀ i,i < es'.length→(es'.getD i []).length=esz:=fun i hi=>by rw[hl i (by omega)]; exact h3 _ (by omega)
      have:=ao.aI (Z:=fj μ) (μ:=ν) (hp:=hp) es' b (o0+off * esz) esz cap cf ⟨id,o0,esz,hm⟩ (by omega) hel
        (fun i j hi hj=>(hcf i j hj (by omega)).1) (fun i j hi hj=>ih i j (by omega) (by rw[hel i hi]; exact hj) (hcf i j hj (by omega)).2)
      rw[hlen] at this
      exact this
  | agg cs cs' hlen _ ih =>
    intro x hx
    cases hx with
    | agg _ aas h1 h2=>exact .agg _ _ (by omega) (fun i hi=>ih i (by omega) (h2 i (by omega)))
  | aV cs cs' hlen _ ih =>
    intro x hx
    cases hx with
    | aV _ aas h1 h2=>exact .aV _ _ (by omega) (fun i hi=>ih i (by omega) (h2 i (by omega)))
def dJ (P:Program) (f:FuncId) (vs:List V) (t:V):Prop :=
  ∀ Z μ (w:World) (xs:List Value),dd Z μ w.heap vs xs→(∀ b,Z b→b < w.heap.size) →
    Calls P f xs.toArray w fun e w'=>∃ x Z',e=.returned x∧(∀ ν,ao Z' ν w'.heap t x)∧cP w w'∧(∀ b,Z' b→w.heap.size≤b∧b < w'.heap.size)∧dE w.heap w'.heap (fun _=>False)
theorem dJ.pure {P:Program} {f:FuncId} {vs:List V} {t:V} (h:dJ P f vs t):aC P f vs t:=by
  intro Z μ w xs hrel hz
  refine (h Z μ w xs hrel hz).mono ?_
  rintro e w' ⟨x,Z',rfl,hv,hs,hz',ho⟩
  exact ⟨x,fun b=>Z b∨Z' b,rfl,fun ν=>(hv ν).mono ⟨fun _ h=>.inr h,fun _ _=>rfl,fun _ _ h=>h,dm.refl _⟩,hs,fun _ h=>.inl h,fun b hb=>hb.imp id (hz' b),ho⟩
theorem dJ.py {P:Program} {f:FuncId} {vs:List V} {r t:V} {h':av} (ht:∀ v∈vs,Tree v) (hc:bo P f vs [] r h') (hf:dp h' r t):dJ P f vs t:=by
  intro Z μ w xs hrel hz
  have hrel0:dd Z (fun _=>none) w.heap vs xs:=⟨hrel.1,fun i hi=>pI (hrel.2 i hi) (by
    simp only[List.getD_eq_getElem?_getD,List.getElem?_eq_getElem hi,Option.getD_some]
    exact ht _ (List.getElem_mem _))⟩
  have hr0:eF Z (fun _=>none) w.heap (cat [] fun _=>.dead):=by
    rw[wX]
    exact ⟨fun _=>trivial,fun i j b o s o' s' _ h=>by simp at h,fun id b o s h=>by simp at h,hz,fun id b o s h=>by simp at h⟩
  refine (hc.2 Z _ _ w xs hrel0 hr0 (fun _ _ _=>rfl)).mono ?_
  rintro e w' ⟨x,Z',μ',rfl,hv,hh,hex,_⟩
  refine ⟨x,fj μ',rfl,fun ν=>HC hh hf hv,hex.same,?_,fun b hb _=>hex.frame b hb (by rintro ⟨_,_,_,h⟩; simp at h)⟩
  rintro b ⟨id,o,s,hb⟩
  rcases hex.vO _ _ _ _ hb with h1 | ⟨_,h1 | ⟨_,_,_,h1⟩⟩
  · simp at h1
  · exact ⟨h1,hh.lt _ _ _ _ hb⟩
  · simp at h1
theorem dJ.of {P:Program} {f:FuncId} {vs:List V} {t:V} (ht:∀ v∈vs,Tree v) (h:aH P f vs (fun _=>.dead) fun r H'=>∀ h':av,h'.view=H'→dp h' r t):dJ P f vs t:=by
  obtain ⟨r,h',ha,_,hf⟩:=h.2 [] xD
  exact dJ.py ht ha (hf h' rfl)
theorem bo.oD {P:Program} {f:FuncId} {ts vs:List V} {t:V} {h:av} (hc:dJ P f ts t) (hl:ts.length=vs.length)
    (hfr:∀ i,i < vs.length→Fr h (vs.getD i .any) (ts.getD i .any)):bo P f vs h t h:=by
  refine ⟨Nat.le_refl _,fun Z μ F w xs hrel hr hfree=>?_⟩
  have hts:dd (fun b=>Z b∨fj μ b) μ w.heap ts xs:=⟨by rw[hl,hrel.1],fun i hi=>vl hr (hfr i (by omega)) (hrel.2 i (by omega))⟩
  have hzl:∀ b,(Z b∨fj μ b)→b < w.heap.size:=by
    rintro b (hb | ⟨id,o,s,hb⟩)
    · exact hr.bG b hb
    · exact hr.lt _ _ _ _ hb
  refine (hc _ μ w xs hts hzl).mono ?_
  rintro e w' ⟨x,Z',rfl,hv,hs,hz',ho⟩
  have hm:dU Z (fun b=>Z b∨Z' b) μ μ w.heap w'.heap:=⟨fun _ h=>.inl h,fun b hb=>ho b (hr.bG b hb) (fun x=>x),fun _ _ h=>h,ho.kI⟩
  refine ⟨x,fun b=>Z b∨Z' b,μ,rfl,(hv μ).mono ⟨fun _ h=>.inr h,fun _ _=>rfl,fun _ _ h=>h,dm.refl _⟩,⟨fun id=>(hr.obj id).mono hm rfl (fun b o s hx=>ho b (hr.lt _ _ _ _ hx) (fun x=>x)),hr.inj,fun id b o s hx=>Nat.lt_of_lt_of_le (hr.lt _ _ _ _ hx) hs.size,fun b hb=>?_,fun id b o s hx hzb=>?_⟩,
    ⟨hs,hm,fun b hb _=>ho b hb (fun x=>x),fun b hb=>hb.imp id (fun h=>(hz' b h).1),fun _ _ _ _ h=>.inl h⟩,fun _ _=>rfl⟩
  · rcases hb with hb | hb
    · exact Nat.lt_of_lt_of_le (hr.bG b hb) hs.size
    · exact (hz' b hb).2
  · rcases hzb with hb | hb
    · exact hr.er _ _ _ _ hx hb
    · have:=hr.lt _ _ _ _ hx; have:=(hz' b hb).1; omega
theorem aN.oD {P:Program} {q:Bool} {f:FuncId} {H:View} {vs ts:List V} {K:V→View→Prop} {v:bS (H,K)} {t:V} (hc:dJ P f ts t) (hok:b7 P f=true) (hl:ts.length=vs.length)
    (hfr:∀ i,i < vs.length→dz H (vs.getD i .any) (ts.getD i .any)) (hk:K t H):aN P q f vs H K v:=by
  unfold aN
  cases q with
  | true=>exact ⟨hok,fun h e=>⟨t,h,bo.oD hc hl (fun i hi=>hfr i hi h e),fun _ _=>rfl,e ▸ hk⟩⟩
  | false =>
    refine ⟨hok,?_⟩
    rintro h rfl
    exact ⟨t,h,bo.oD hc hl (fun i hi=>hfr i hi h rfl),.refl _,hk⟩
noncomputable def jh (fz:V→Option V):List V→Option (List V)
  | []=>some []
  | v :: l=>match fz v,jh fz l with
    | some a,some b=>some (a :: b)
    | _,_=>none
noncomputable def wE (fz:V→Option V):List (List V)→Option (List (List V))
  | []=>some []
  | v :: l=>match jh fz v,wE fz l with
    | some a,some b=>some (a :: b)
    | _,_=>none
noncomputable def rZ (H:View):Nat→V→Option V
  | 0,_=>none
  | k+1,v=>match v with
    | .val x=>some (.val x)
    | .emp _=>some (.aI [])
    | .sl id off len _=>match H id with
      | .arr _ es=>if off+len≤es.length then (wE (rZ H k) ((es.drop off).take len)).map .aI else none
      | _=>none
    | .agg cs=>(jh (rZ H k) cs).map .agg
    | .aV cs=>(jh (rZ H k) cs).map .aV
    | _=>none
theorem ez {fz:V→Option V} : ∀ (l l':List V),jh fz l=some l'→l'.length=l.length∧∀ i,i < l.length→fz (l.getD i .any)=some (l'.getD i .any)
  | [],l',h=>by simp only[jh,Option.some.injEq] at h; subst h; exact ⟨rfl,fun i hi=>by simp at hi⟩
  | v :: l,l',h=>by
    simp only[jh] at h
    split at h
    · rename_i a b h1 h2
      simp only[Option.some.injEq] at h; subst h
      obtain ⟨g1,g2⟩:=ez l b h2
      refine ⟨by simp[g1],fun i hi=>?_⟩
      cases i with
      | zero=>exact h1
      | succ i=>exact g2 i (by simpa using hi)
    · simp at h
theorem wz {fz:V→Option V} : ∀ (l l':List (List V)),wE fz l=some l'→l'.length=l.length∧∀ i,i < l.length→jh fz (l.getD i [])=some (l'.getD i [])
  | [],l',h=>by simp only[wE,Option.some.injEq] at h; subst h; exact ⟨rfl,fun i hi=>by simp at hi⟩
  | v :: l,l',h=>by
    simp only[wE] at h
    split at h
    · rename_i a b h1 h2
      simp only[Option.some.injEq] at h; subst h
      obtain ⟨g1,g2⟩:=wz l b h2
      refine ⟨by simp[g1],fun i hi=>?_⟩
      cases i with
      | zero=>exact h1
      | succ i=>exact g2 i (by simpa using hi)
    · simp at h
theorem Cx (h:av):∀ (k:Nat) (v t:V),rZ h.view k v=some t→dp h v t
  | 0,v,t,hf=>by simp[rZ] at hf
  | k+1,v,t,hf=>by
    have ih:=Cx h k
    simp only[rZ] at hf
    split at hf
    · simp only[Option.some.injEq] at hf; subst hf; exact .val _
    · simp only[Option.some.injEq] at hf; subst hf; exact .emp _
    · rename_i id off len esz
      split at hf
      · rename_i z es hH
        split at hf
        · rename_i hle
          simp only[Option.map_eq_some_iff] at hf
          obtain ⟨es',he,rfl⟩:=hf
          obtain ⟨g1,g2⟩:=wz _ _ he
          have hlen:es'.length=len:=by rw[g1]; simp; omega
          have hg:∀ i,i < len→((es.drop off).take len).getD i []=es.getD (off+i) []:=fun i hi=>by
            simp[List.getD_eq_getElem?_getD,List.getElem?_take,hi]
          have g3:∀ i,i < len→jh (rZ h.view k) (es.getD (off+i) [])=some (es'.getD i []):=fun i hi=>by
            rw[← hg i hi]; exact g2 i (by rw[← g1,hlen]; exact hi)
          exact .sl id off len esz z es es' hH hle hlen (fun i hi=>(ez _ _ (g3 i hi)).1) (fun i j hi hj=>ih _ _ ((ez _ _ (g3 i hi)).2 j (by rw[← (ez _ _ (g3 i hi)).1]; exact hj)))
        · simp at hf
      · simp at hf
    · simp only[Option.map_eq_some_iff] at hf
      obtain ⟨l,hl,rfl⟩:=hf
      obtain ⟨g1,g2⟩:=ez _ _ hl
      exact .agg _ _ g1 (fun i hi=>ih _ _ (g2 i hi))
    · simp only[Option.map_eq_some_iff] at hf
      obtain ⟨l,hl,rfl⟩:=hf
      obtain ⟨g1,g2⟩:=ez _ _ hl
      exact .aV _ _ g1 (fun i hi=>ih _ _ (g2 i hi))
    · simp at hf
noncomputable def Hg:Option (V × ES)→Option V
  | some (v,e)=>rZ e.V 50 v
  | none=>none
noncomputable def sF (P:Program) (tab:List (FuncId × DF)) (ext:rB) (f:FuncId) (vs:List V):Option V :=
  Hg (yB P tab ext (Af P tab ext 100000) f vs ⟨.nil,.nil,0,[]⟩)
theorem qb {P:Program} (hm:P.follows .mixedOrders=true) {tab:List (FuncId × DF)} {ext:rB} (ht:pg P tab) (hx:mQ P ext) {f:FuncId} {vs:List V} {t:V} (hvs:∀ v∈vs,Tree v) (h:sF P tab ext f vs=some t) :
    dJ P f vs t:=by
  unfold sF Hg at h
  split at h
  · rename_i v e hr
    obtain ⟨h1,h',h2,h3,_⟩:=AS ht hx (Bi hm ht hx 100000) f vs _ v e [] hr ⟨by funext k; rfl,rfl⟩
    rw[h3.1] at h
    exact dJ.py hvs h2 (Cx h' 50 v t h)
  · simp at h
structure al.sd (g:al):Prop where
  az:g.az.length≤24
  Dc:1≤g.ay.length
  ay:g.ay.length≤16
  J4:1≤g.rules.length
  rules:g.rules.length≤40
  mI:0≤g.start
  start:g.start < g.ay.length
  left:∀ r∈g.rules,0≤r.left∧r.left < g.ay.length
  right:∀ r∈g.rules,r.right.length≤6
  sym:∀ r∈g.rules,∀ s∈r.right,nR g s=true
  prec:∀ r∈g.rules,-1≤r.prec∧r.prec < g.az.length
theorem sf {g:al} : ∀ (l:List aE) (top:Int),gJ g l top=true→top≤(g.ay.length:Int) - 1∧∀ r∈l,0≤r.left∧r.left < g.ay.length∧kr g r=true
  | [],top,h=>by simp[gJ] at h; exact ⟨by omega,fun r hr=>by simp at hr⟩
  | r :: l,top,h=>by
    simp only[gJ,Bool.and_eq_true,decide_eq_true_eq] at h
    obtain ⟨⟨⟨h1,h2⟩,h3⟩,h4⟩:=h
    obtain ⟨k1,k2⟩:=sf l _ h4
    have h5:r.left≤(if r.left > top then r.left else top):=by split <;> omega
    have h6:top≤(if r.left > top then r.left else top):=by split <;> omega
    refine ⟨by omega,fun r' hr=>?_⟩
    rcases List.mem_cons.1 hr with rfl | hr
    · exact ⟨h1,by omega,h3⟩
    · exact k2 r' hr
theorem bA {g:al} (h:bu g=true):g.sd:=by
  simp only[bu,sC,vJ,Bool.and_eq_true,decide_eq_true_eq] at h
  obtain ⟨⟨⟨⟨⟨⟨⟨h1,_⟩,⟨h2,h3⟩,_⟩,h4⟩,h5⟩,h6⟩,h7⟩,h8⟩:=h
  have k:=(sf _ _ h8).2
  have hb:∀ r∈g.rules,r.right.length≤6∧-1≤r.prec∧r.prec < g.az.length∧∀ s∈r.right,nR g s=true:=fun r hr=>by
    have:=(k r hr).2.2
    simp only[kr,Bool.and_eq_true,decide_eq_true_eq,List.all_eq_true,tK] at this
    exact ⟨this.1.1.1,this.1.1.2,this.1.2,fun s hs=>(this.2 s hs).1⟩
  exact ⟨h1,h2,h3,h4,h5,h6,h7,fun r hr=>⟨(k r hr).1,(k r hr).2.1⟩,fun r hr=>(hb r hr).1,fun r hr=>(hb r hr).2.2.2,fun r hr=>⟨(hb r hr).2.1,(hb r hr).2.2.1⟩⟩
theorem al.sd.neg {g:al} (h:g.sd) {r:aE} (hr:r∈g.rules) {s:Int} (hs:s∈r.right) (hn:s < 0) : -1 - s < g.ay.length:=by
  have:=h.sym r hr s hs
  simp only[nR] at this
  rw[if_neg (by omega)] at this
  simpa using this
abbrev dA (is:List Bool):List (List V):=is.map fun x=>[gb x]
theorem qT {h:av} {id:Nat} {is:List Bool} (hv:h.view id=.arr 1 (dA is)):dp h (.sl id 0 is.length 1) (cB is):=by
  refine .sl id 0 is.length 1 1 (dA is) _ hv (by simp) (by simp) (fun i hi=>by simp) (fun i j hi hj=>?_)
  rw[Nat.zero_add]
  have e:(dA is).getD i []=[gb is[i]]:=by simp[List.getD_eq_getElem?_getD,hi]
  rw[e] at hj ⊢
  have:j=0:=by simp at hj; omega
  subst this
  exact .val _
theorem CV {H:View} {id n:Nat} {is:List Bool} (hv:H id=.arr 1 (dA is)) (hn:n=is.length):dz H (.sl id 0 n 1) (cB is):=by
  have ht:∀ e∈dA is,∀ v∈e,Tree v:=by
    intro e he v hv
    obtain ⟨a,_,rfl⟩:=List.mem_map.1 he
    rw[List.mem_singleton] at hv
    subst hv
    exact .val _
  have:=dz.sl (off:=0) (len:=n) (esz:=1) hv (by simp[hn]) ht
  rwa [List.drop_zero,List.take_of_length_le (by simp[hn])] at this
theorem yi {is:List Bool} {i:Nat} (h:i < is.length):(dA is).getD i []=[gb is[i]]:=by simp[List.getD_eq_getElem?_getD,h]
theorem r7 (is:List Bool) (i:Nat) (b:Bool):(dA is).set i [gb b]=dA (is.set i b):=by simp[List.map_set]
theorem Ea (n:Nat) (b:Bool):List.replicate n [gb b]=dA (List.replicate n b):=by simp
def iter {α:Type} (f:α→α):Nat→α→α
  | 0,x=>x
  | n+1,x=>iter f n (f x)
def dn (t:Bool) (is:List Bool) (r:aE):List Bool:=if eh r.right is t=true then is.set r.left.toNat true else is
def kn (g:al) (t:Bool) (is:List Bool):List Bool:=g.rules.foldl (dn t) is
def cb (g:al):List Bool:=List.replicate g.ay.length false
def aB (g:al) (t:Bool):List Bool:=if bu g=true then iter (kn g t) g.ay.length (cb g) else []
theorem Dd (t:Bool) (is:List Bool) (r:aE):(dn t is r).length=is.length:=by unfold dn; split <;> simp
def mark (is:List Bool) (s:Int):List Bool:=if s < 0 then is.set (-1 - s).toNat true else is
def gm (p is:List Bool) (r:aE):List Bool:=if (is.getD r.left.toNat false && eh r.right p true)=true then r.right.foldl mark is else is
def oH (g:al) (p is:List Bool):List Bool:=g.rules.foldl (gm p) is
def bh (g:al):List Bool:=if bu g=true then iter (oH g (aB g true)) g.ay.length ((cb g).set g.start.toNat true) else []
theorem FV (is:List Bool) (s:Int):(mark is s).length=is.length:=by unfold mark; split <;> simp
theorem xo:∀ (l:List Int) (is:List Bool),(l.foldl mark is).length=is.length
  | [],_=>rfl
  | s :: l,is=>by rw[List.foldl_cons,xo l,FV]
theorem Eh (p is:List Bool) (r:aE):(gm p is r).length=is.length:=by unfold gm; split <;> simp[xo]
theorem uc {f:List Bool→List Bool} (hf:∀ is,(f is).length=is.length):∀ (n:Nat) (is:List Bool),(iter f n is).length=is.length
  | 0,_=>rfl
  | n+1,is=>by rw[iter,uc hf n,hf]
theorem ua {α:Type} {f:List Bool→α→List Bool} (hf:∀ is x,(f is x).length=is.length):∀ (l:List α) (is:List Bool),(l.foldl f is).length=is.length
  | [],_=>rfl
  | x :: l,is=>by rw[List.foldl_cons,ua hf l,hf]
theorem kB {g:al} (h:bu g=true) (t:Bool):(aB g t).length=g.ay.length:=by
  have hl:∀ is,(kn g t is).length=is.length:=fun is=>ua (Dd t) _ _
  rw[aB,if_pos h,uc hl]
  simp[cb]
def sY:DF:=⟨.seq (ah [aY 2 false]) <|
  .seq (.region [] [⟨none,[aa 3 0,aD 4 147 [3],aa 5 4]⟩,⟨(some (5,false)),[aa 6 0,((some 7),.op (.arith .eql (.tmp 6) (.val (.val (.int .u8 46)))))]⟩,⟨none,[bV 8 5 7,aa 9 8]⟩,⟨(some (9,false)),[aa 10 0,((some 11),.op (.arith .geq (.tmp 10) (.val (.val (.int .u8 48))))),aa 12 11]⟩,⟨(some (12,true)),[aa 13 0,((some 14),.op (.arith .leq (.tmp 13) (.val (.val (.int .u8 57)))))]⟩,⟨(some (9,false)),[bq 15 12 14]⟩,⟨none,[bV 16 9 15,aa 2 16]⟩]) <|
  .ret,
  [.tmp 2],17⟩
theorem wj:aF Tryz.prog 148 []=some sY:=by kernel_rfl
def rU:DF:=⟨.seq (ah [aY 2 false]) <|
  .seq (.region [] [⟨none,[aa 3 0,((some 4),.op (.arith .eql (.tmp 3) (.val (.val (.int .u8 95))))),aa 5 4]⟩,⟨(some (5,false)),[aa 6 0,((some 7),.op (.arith .or (.tmp 6) (.val (.val (.int .u8 32))))),((some 8),.op (.arith .geq (.tmp 7) (.val (.val (.int .u8 97))))),aa 9 8]⟩,⟨(some (9,true)),[aa 10 0,((some 11),.op (.arith .or (.tmp 10) (.val (.val (.int .u8 32))))),((some 12),.op (.arith .leq (.tmp 11) (.val (.val (.int .u8 122)))))]⟩,⟨(some (5,false)),[bq 13 9 12]⟩,⟨none,[bV 14 5 13,aa 2 14]⟩]) <|
  .ret,
  [.tmp 2],15⟩
theorem vU:aF Tryz.prog 147 []=some rU:=by kernel_rfl
def s8:DF:=⟨.seq (ah [aY 2 false]) <|
  .seq (.region [] [⟨none,[aa 3 0,((some 4),.op (.arith .geq (.tmp 3) (.val (.val (.int .u8 32))))),aa 5 4]⟩,⟨(some (5,true)),[aa 6 0,((some 7),.op (.arith .leq (.tmp 6) (.val (.val (.int .u8 126)))))]⟩,⟨none,[bq 8 5 7,aa 9 8]⟩,⟨(some (9,true)),[aa 10 0,((some 11),.op (.arith .neq (.tmp 10) (.val (.val (.int .u8 39)))))]⟩,⟨none,[bq 12 9 11,aa 13 12]⟩,⟨(some (13,true)),[aa 14 0,((some 15),.op (.arith .neq (.tmp 14) (.val (.val (.int .u8 92)))))]⟩,⟨none,[bq 16 13 15,aa 2 16]⟩]) <|
  .ret,
  [.tmp 2],17⟩
theorem w5:aF Tryz.prog 233 []=some s8:=by kernel_rfl
def qt:DF:=⟨.seq (ah [aY 2 false]) <|
  .seq (.region [] [⟨none,[aa 3 0,((some 4),.op (.arith .eql (.tmp 3) (.val (.val (.int .u8 110))))),aa 5 4]⟩,⟨(some (5,false)),[aa 6 0,((some 7),.op (.arith .eql (.tmp 6) (.val (.val (.int .u8 116)))))]⟩,⟨none,[bV 8 5 7,aa 9 8]⟩,⟨(some (9,false)),[aa 10 0,((some 11),.op (.arith .eql (.tmp 10) (.val (.val (.int .u8 92)))))]⟩,⟨none,[bV 12 9 11,aa 13 12]⟩,⟨(some (13,false)),[aa 14 0,((some 15),.op (.arith .eql (.tmp 14) (.val (.val (.int .u8 39)))))]⟩,⟨none,[bV 16 13 15,aa 2 16]⟩]) <|
  .ret,
  [.tmp 2],17⟩
theorem tx:aF Tryz.prog 234 []=some qt:=by kernel_rfl
def oU:List (FuncId × DF):=[(148,sY),(147,rU),(233,s8),(234,qt)]
theorem ng:pg Tryz.prog oU:=by
  intro p hp
  simp only[oU,List.mem_cons,List.not_mem_nil,or_false] at hp
  rcases hp with rfl | rfl | rfl | rfl
  · exact ⟨_,wj⟩
  · exact ⟨_,vU⟩
  · exact ⟨_,w5⟩
  · exact ⟨_,tx⟩
theorem Hn (P:Program):mQ P (fun _ _ _=>none):=fun _ _ _ _ h=>by simp at h
def IM (o:Option V) (b:Bool):Bool:=match o with
  | some (.val (.bool c))=>c == b
  | _=>false
theorem IN {o:Option V} {b:Bool} (h:IM o b=true):o=some (gb b):=by
  unfold IM at h
  split at h
  · rw[beq_iff_eq] at h; rw[h]
  · simp at h
noncomputable def rD (tab:List (FuncId × DF)) (f:FuncId) (p:Int→Bool):Bool:=(List.range 256).all fun c=>IM (sF Tryz.prog tab (fun _ _ _=>none) f [gy (c:Int)]) (p (c:Int))
theorem pr {tab:List (FuncId × DF)} (ht:pg Tryz.prog tab) {f:FuncId} {p:Int→Bool} (h:rD tab f p=true) (c:Int) (h0:0≤c) (h1:c≤255):aC Tryz.prog f [gy c] (gb (p c)):=by
  have:=List.all_eq_true.1 h c.toNat (by simp; omega)
  rw[show ((c.toNat:Nat):Int)=c by omega] at this
  exact (qb mixed ht (Hn _) (by intro v hv; simp at hv; subst hv; exact .val _) (IN this)).pure
def rn (c:Int):Bool:=decide (32≤c) && decide (c≤126) && c != 39 && c != 92
def wH (c:Int):Bool:=c == 110 || c == 116 || c == 92 || c == 39
theorem CX:rD oU 147 zF=true:=by kernel_rfl
theorem Fy:rD oU 148 ve=true:=by kernel_rfl
theorem DM:rD oU 233 rn=true:=by kernel_rfl
theorem HO:rD oU 234 wH=true:=by kernel_rfl
theorem ye {s:ByteArray} {c:Int} (h:c∈eZ s):0≤c∧c≤255:=by
  unfold eZ at h
  obtain ⟨b,_,rfl⟩:=List.mem_map.1 h
  have:=b.toNat_lt
  omega
theorem FI (s:ByteArray):dW s=(eZ s).map fun x=>[gy x]:=by simp[dW,eZ]
end Gv
