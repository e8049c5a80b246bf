/-
  Part 6 of the proof: what the machine does and what the functions answer.
  Conditions: those that each lemma names.
-/
import Derived.Test.YtoamakccoedejaaGreatDoorSGjSE
set_option linter.unusedSimpArgs false
set_option linter.unusedVariables false
set_option maxRecDepth 100000
set_option maxHeartbeats 20000000
namespace Gv
noncomputable section
open Go Go.Proofs
inductive aQ (α:Type) where
 | nil
 | node (v:α) (l r:aQ α)
def aQ.get {α:Type} (z:α) (t:aQ α):Nat->α:=
 aQ.rec (motive:=λ_=>Nat->α) (λ_=>z) (λv _ _ gl gr i=>Bool.rec (Bool.rec (gr (i / 2-1)) (gl (i / 2)) (Nat.beq (i % 2) 1)) v (Nat.beq i 0)) t
theorem aQ.get_nil {α:Type} (z:α) (i:Nat):aQ.get z .nil i=z:=rfl
theorem aQ.Cq {α:Type} (z v:α) (l r:aQ α) (i:Nat):aQ.get z (.node v l r) i=match Nat.beq i 0 with
  | true=>v
  | false=>match Nat.beq (i % 2) 1 with
   | true=>aQ.get z l (i / 2)
   | false=>aQ.get z r (i / 2-1):=by
 change (Bool.rec (motive:=λ_=>α) _ _ _:α)=_
 cases Nat.beq i 0 with
 | true=>rfl
 | false=>cases Nat.beq (i % 2) 1<;>rfl
def aQ.val {α:Type} (z:α):aQ α->α
 | .nil=>z
 | .node v _ _=>v
def aQ.left {α:Type} : aQ α->aQ α
 | .nil=>.nil
 | .node _ l _=>l
def aQ.right {α:Type} : aQ α->aQ α
 | .nil=>.nil
 | .node _ _ r=>r
def aQ.put {α:Type} (z:α) (x:α) (d:Nat):aQ α->Nat->aQ α:=
 Nat.rec (motive:=λ_=>aQ α->Nat->aQ α) (λt _=>t) (λ_ pd t i =>
  Bool.rec (Bool.rec (.node (t.val z) t.left (pd t.right (i / 2-1))) (.node (t.val z) (pd t.left (i / 2)) t.right) (Nat.beq (i % 2) 1)) (.node x t.left t.right) (Nat.beq i 0)) d
theorem aQ.CA {α:Type} (z x:α) (d:Nat) (t:aQ α) (i:Nat):aQ.put z x (d+1) t i=match Nat.beq i 0 with
  | true=>.node x t.left t.right
  | false=>match Nat.beq (i % 2) 1 with
   | true=>.node (t.val z) (aQ.put z x d t.left (i / 2)) t.right
   | false=>.node (t.val z) t.left (aQ.put z x d t.right (i / 2-1)):=by
 change (Bool.rec (motive:=λ_=>aQ α) _ _ _:aQ α)=_
 cases Nat.beq i 0 with
 | true=>rfl
 | false=>cases Nat.beq (i % 2) 1<;>rfl
theorem aQ.gY {α:Type} (z:α) (t:aQ α) (j:Nat):t.get z j=if j=0 then t.val z else if j % 2=1 then t.left.get z (j / 2) else t.right.get z (j / 2-1):=by
 cases t with
 | nil=>simp[aQ.get_nil,aQ.val,aQ.left,aQ.right]
 | node v l r =>
  simp only[aQ.Cq,aQ.val,aQ.left,aQ.right]
  by_cases h:j=0
  .subst h;rfl
  .have:Nat.beq j 0=false:=by cases e:Nat.beq j 0 with | true=>exact absurd (HV e) h | false=>rfl
   rw[this,GV h]
   by_cases a:j % 2=1
   .have:Nat.beq (j % 2) 1=true:=by rw[a];rfl
    rw[this,GZ a]
   .have:Nat.beq (j % 2) 1=false:=by cases e:Nat.beq (j % 2) 1 with | true=>exact absurd (HV e) a | false=>rfl
    rw[this,GV a]
theorem aQ.gX {α:Type} (z x:α):∀(d:Nat) (t:aQ α) (i j:Nat),i+1<2 ^ d->(aQ.put z x d t i).get z j=if j=i then x else t.get z j
 | 0,t,i,j,h=>by simp at h
 | d+1,t,i,j,h=>by
  simp only[aQ.CA]
  by_cases hi:i=0
  .subst hi
   have:Nat.beq 0 0=true:=rfl
   simp only
   rw[aQ.gY,aQ.gY z t]
   simp only[aQ.val,aQ.left,aQ.right]
   by_cases b:j=0
   .rw[GZ b,GZ b]
   .rw[GV b,GV b,GV b]
  .have:Nat.beq i 0=false:=by cases e:Nat.beq i 0 with | true=>exact absurd (HV e) hi | false=>rfl
   rw[this]
   by_cases c:i % 2=1
   .have:Nat.beq (i % 2) 1=true:=by rw[c];rfl
    rw[this]
    rw[aQ.gY,aQ.gY z t]
    simp only[aQ.val,aQ.left,aQ.right]
    by_cases b:j=0
    .subst b;rw[GZ rfl,GV (λe=>hi e.symm),GZ rfl]
    .rw[GV b,GV b]
     by_cases a:j % 2=1
     .rw[GZ a,GZ a,aQ.gX z x d _ _ _ (by omega)]
      by_cases e:j=i
      .subst e;simp
      .rw[GV e,GV (by omega)]
     .rw[GV a,GV a,GV (λe=>a (by rw[e];exact c))]
   .have:Nat.beq (i % 2) 1=false:=by cases e:Nat.beq (i % 2) 1 with | true=>exact absurd (HV e) c | false=>rfl
    rw[this]
    rw[aQ.gY,aQ.gY z t]
    simp only[aQ.val,aQ.left,aQ.right]
    by_cases b:j=0
    .subst b;rw[GZ rfl,GV (λe=>hi e.symm),GZ rfl]
    .rw[GV b,GV b]
     by_cases a:j % 2=1
     .rw[GZ a,GZ a,GV (λe=>c (by rw[<-e];exact a))]
     .rw[GV a,GV a,aQ.gX z x d _ _ _ (by omega)]
      by_cases e:j=i
      .subst e;simp
      .rw[GV e,GV (by omega)]
abbrev deep:Nat:=13
structure ES where
 L:aQ V
 H:aQ cQ
 n:Nat
 w:List Nat
def ES.T (s:ES):Env:=s.L.get .any
def ES.V (s:ES):View:=s.H.get .dead
def ES.put (s:ES) (d:Option Nat) (v:Gv.V):ES:=match d with
 | some t=>⟨s.L.put .any v deep t,s.H,s.n,s.w⟩
 | none=>s
theorem ES.Dt {s:ES} {d:Option Nat} {v:Gv.V} (h:∀t,d=some t->t<8000):(s.put d v).T=s.T.put d v:=by
 cases d with
 | none=>rfl
 | some t =>
  funext k
  have:=h t rfl
  simp only[ES.put,ES.T,Env.put]
  rw[aQ.gX _ _ _ _ _ _ (by simp[deep];omega)]
def Da (v:V) (ag:az) (rd:List Nat) (s:ES):Option (V × ES × Rec):=match ag with
 | .none=>some (v,s,⟨rd,[],false,s.n,s.n⟩)
 | .new o=>match Nat.ble s.n 8000 with
  | true=>some (v,⟨s.L,s.H.put .dead o deep s.n,s.n+1,s.w⟩,⟨rd,[],false,s.n,s.n+1⟩)
  | false=>none
 | .dp id o=>match Nat.ble id 8000 with
  | true=>some (v,⟨s.L,s.H.put .dead o deep id,s.n,id::s.w⟩,⟨rd,[id],false,s.n,s.n⟩)
  | false=>none
 | .cU id o=>match Nat.ble s.n 8000,Nat.ble id 8000 with
  | true,true=>some (v,⟨s.L,(s.H.put .dead .dead deep id).put .dead o deep s.n,s.n+1,id::s.w⟩,⟨rd,[id],false,s.n,s.n+1⟩)
  | _,_=>none
def F6 (x:SX) (_:Program) (T:Env) (_:View) (_:Nat):Out:=some (x.at T,.none,[])
def FE (c a b:SX) (_:Program) (T:Env) (_:View) (_:Nat):Out:=match c.at T with
 | .val (.bool t)=>some (if t then a.at T else b.at T,.none,[])
 | _=>none
def Fm (sz:Option Nat) (a:SX) (_:Program) (T:Env) (H:View) (_:Nat):Out:=l8 sz (a.at T) H
def E1 (sz:Nat) (a x:SX) (_:Program) (T:Env) (H:View) (_:Nat):Out:=qp sz (a.at T) (x.at T) H
def FA (off:Nat) (x:SX) (_:Program) (T:Env) (_:View) (_:Nat):Out:=oq off (x.at T)
def Gf (sz:Nat) (x i:SX) (_:Program) (T:Env) (_:View) (_:Nat):Out:=rR sz (x.at T) (i.at T)
def Gk (x:SX) (_:Program) (T:Env) (_:View) (_:Nat):Out:=(dd (x.at T)).map λn=>(gq n,.none,[])
def EY (op:BinOp) (x y:SX) (_:Program) (T:Env) (_:View) (_:Nat):Out:=nZ op (x.at T) (y.at T)
def F0 (op:BinOp) (x y:SX) (_:Program) (T:Env) (_:View) (_:Nat):Out:=pe op (x.at T) (y.at T)
def FN (x:SX) (_:Program) (T:Env) (_:View) (_:Nat):Out:=match x.at T with
 | .val (.bool t)=>some (.val (.bool (!t)),.none,[])
 | _=>none
def FT (i:Nat) (x:SX) (_:Program) (T:Env) (_:View) (_:Nat):Out:=match x.at T with
 | .aA vs=>if i<vs.length then some (vs.getD i .any,.none,[]) else none
 | _=>none
def Fo (x:SX) (_:Program) (T:Env) (_:View) (_:Nat):Out:=match x.at T with
 | .ptr id i j=>some (.ptr id i j,.none,[])
 | .aC e j=>some (.aC e j,.none,[])
 | .fn f a b=>some (.fn f a b,.none,[])
 | _=>none
def eI (s:SI):Program->Env->View->Nat->Out:=match s with
 | .cU x=>F6 x
 | .pick c a b=>FE c a b
 | .load sz a=>Fm sz a
 | .store sz a x=>E1 sz a x
 | .addr o x=>FA o x
 | .idx sz x i=>Gf sz x i
 | .len x=>Gk x
 | .arith op x y=>EY op x y
 | .qF op x y=>F0 op x y
 | .not x=>FN x
 | .ext i x=>FT i x
 | .pQ x=>Fo x
 | s=>λP T H n=>sI P s T H n
theorem y4 (s:SI) (P:Program) (T:Env) (H:View) (n:Nat):eI s P T H n=sI P s T H n:=by
 cases s<;>rfl
abbrev dE:=FuncId->List V->ES->Option (V × ES)
def BU (P:Program) (s:SI) (e:ES):Option (V × ES × Rec):=match eI s P e.T e.V e.n with
 | some (v,ag,rd)=>Da v ag rd e
 | none=>none
def Ca (call:dE) (f:SX) (args:List SX) (e:ES):Option (V × ES × Rec):=match f.at e.T with
 | .fn g first cap=>match call g (first++args.map (SX.at e.T)++cap) e with
  | some (v,e')=>some (v,⟨e.L,e'.H,e'.n,e'.w++e.w⟩,⟨[],e'.w,true,e.n,e'.n⟩)
  | none=>none
 | _=>none
def eB (P:Program) (call:dE) (b:SB):ES->Option (V × ES × Rec):=match b with
 | .op s=>BU P s
 | .call f args=>Ca call f args
 | .oD ..=>λ_=>none
def xK (P:Program) (call:dE):List (Option Nat × SB)->List Rec->ES->Option (ES × List Rec)
 | [],a,e=>some (e,a)
 | (d,b)::r,a,e=>match eB P call b e with
  | some (v,e',c)=>xK P call r (a++[c]) (e'.put d v)
  | none=>none
def DG (e:ES):Rec:=⟨[],[],false,e.n,e.n⟩
def oC:List (Option Nat × SB)->List Rec->ES->ES × List Rec
 | [],a,e=>(e,a)
 | (d,_)::r,a,e=>oC r (a++[DG e]) (e.put d (.aA []))
def AJ (P:Program) (call:dE) (ops:List (Option Nat × SB)) (want:Bool) (v:V) (a:List Rec) (e:ES):Option (ES × List Rec):=match v with
 | .val (.bool b)=>match xor b want with
  | true=>some (oC ops a e)
  | false=>xK P call ops a e
 | .aA []=>some (oC ops a e)
 | _=>none
def eG (P:Program) (call:dE) (g:SG) (a:List Rec) (e:ES):Option (ES × List Rec):=match g.guard with
 | none=>xK P call g.ops a e
 | some (d,want)=>AJ P call g.ops want (e.T d) a e
def xG (P:Program) (call:dE):List SG->List Rec->ES->Option (ES × List Rec)
 | [],a,e=>some (e,a)
 | g::r,a,e=>match eG P call g a e with
  | some (e',a')=>xG P call r a' e'
  | none=>none
inductive DC where
 | skip
 | region (ps:List (Nat × Nat)) (gs:List SG)
 | iK (tol:Nat × Nat × Nat) (ps:List (Nat × Nat)) (gs:List SG)
 | seq (x y:DC)
 | cond (c:SX) (x y:DC)
 | block (id:Nat) (c:DC)
 | loop (c:DC)
 | exit (id:Nat)
 | ret
 | label (l:Nat)
 | goto (l:Nat)
 | scope (l:Nat) (c r:DC)
 deriving Inhabited
def findD:DC->Nat->Option DC
 | .seq a b,l=>match findD a l with
  | some r=>some (.seq r b)
  | none=>findD b l
 | .label l',l=>if l'==l then some .skip else none
 | _,_=>none
def uo:DC->Option Nat
 | .seq a b=>match uo a with
  | some l=>some l
  | none=>uo b
 | .label l=>some l
 | _=>none
def q9 (recs:List Rec) (ps:List (Nat × Nat)):Bool:=ps.all λ(i,k)=>match recs[i]?,recs[k]? with
 | some a,some b=>rV a b
 | _,_=>false
abbrev ER:=Option (Exit × ES)
abbrev kO:=DC->ES->ER
def BC:ES->ER:=λe=>some (.normal,e)
def yd (P:Program) (call:dE) (ps:List (Nat × Nat)) (gs:List SG) (e:ES):ER:=match xG P call gs [] e with
 | some (e',recs)=>match q9 recs ps with
  | true=>some (.normal,e')
  | false=>none
 | none=>none
def zi:V->V->Bool
 | .val (.int k a),.val (.int l b)=>decide (k=l)&&decide (a=b)
 | .val (.bool a),.val (.bool b)=>a==b
 | .val (.pointer none),.val (.pointer none)=>true
 | .emp a,.emp b=>a==b
 | .sl a b c d,.sl a' b' c' d'=>a==a'&&b==b'&&c==c'&&d==d'
 | .ptr a b c,.ptr a' b' c'=>a==a'&&b==b'&&c==c'
 | _,_=>false
def Df (P:Program) (t:TypeId) (m q:V) (H:View):Bool:=match m with
 | .mp id=>(match H id with
  | .map _ _=>(match cx P t (.mp id) q H with
   | some (_,.dp _ obj,_)=>(match cH P t (.mp id) q false (View.set H id obj),cH P t (.mp id) q false H with
    | some (v,.none,r),some (v',.none,r')=>zi v v'&&r==r'
    | _,_=>false)
   | _=>true)
  | _=>false)
 | _=>false
def uh (P:Program) (call:dE) (tol:Nat × Nat × Nat) (ps:List (Nat × Nat)) (gs:List SG) (e:ES):ER:=match xG P call gs [] e with
 | some (e',recs)=>match q9 recs ps&&Df P tol.1 (e'.T tol.2.1) (e'.T tol.2.2) e.V with
  | true=>some (.normal,e')
  | false=>none
 | none=>none
def EH (run:kO) (x y:DC) (e:ES):ER:=match run x e with
 | some (.normal,e')=>run y e'
 | r=>r
def Du (run:kO) (c:SX) (x y:DC) (e:ES):ER:=match c.at e.T with
 | .val (.bool true)=>run x e
 | .val (.bool false)=>run y e
 | _=>none
def Ai (run:kO) (id:Nat) (c:DC) (e:ES):ER:=match run c e with
 | some (r,e')=>some (iP id r,e')
 | none=>none
def Dj (run:kO) (c:DC) (e:ES):ER:=match run c e with
 | some (.normal,e')=>run (.loop c) e'
 | r=>r
def lu (run:kO) (l:Nat) (r:DC) (k:Nat):ER->ER:=
 Nat.rec (motive:=λ_=>ER->ER) (λ_=>none) (λ_ ih x=>match x with
  | some (.goto l',e)=>(match Nat.beq l' l with
   | true=>ih (run r e)
   | false=>none)
  | o=>o) k
def gF (P:Program) (call:dE) (run:kO) (c:DC):ES->ER:=match c with
 | .skip=>BC
 | .region ps gs=>yd P call ps gs
 | .iK tol ps gs=>uh P call tol ps gs
 | .seq x y=>EH run x y
 | .cond c x y=>Du run c x y
 | .block id c=>Ai run id c
 | .loop c=>Dj run c
 | .exit id=>λe=>some (.exit id,e)
 | .ret=>λe=>some (.ret,e)
 | .label _=>BC
 | .goto l=>λe=>some (.goto l,e)
 | .scope l c r=>λe=>lu run l r 5000 (run c e)
def C0 (r:SR) (e:ES):Option V:=match r with
 | .tmp t=>some (e.T t)
 | .cell t sz=>match e.T t with
  | .ptr id i j=>match e.V id with
   | .arr _ es=>if i<es.length then gE sz (es.getD i []) j else none
   | _=>none
  | .aC e j=>gE sz e j
  | _=>none
def l6:List SR->ES->Option (List V)
 | [],_=>some []
 | r::l,e=>match C0 r e,l6 l e with
  | some v,some vs=>some (v::vs)
  | _,_=>none
def gT:List V->Nat->aQ V->aQ V
 | [],_,t=>t
 | v::vs,i,t=>gT vs (i+1) (t.put .any v deep i)
structure DF where
 code:DC
 res:List SR
 n:Nat
def EU (l:List SR) (r:ER):Option (V × ES):=match r with
 | some (.ret,e)=>(l6 l e).map λvs=>(ml vs,e)
 | some (.normal,e)=>(l6 l e).map λvs=>(ml vs,e)
 | _=>none
def Fg (m:Nat) (r:Option (V × ES)):Option (V × ES):=match r with
 | some (v,e)=>some (v,⟨e.L,e.H,e.n,e.w.filter λid=>Nat.blt id m⟩)
 | none=>none
def EJ (run:kO) (F:DF) (vs:List V) (e:ES):Option (V × ES):=match Nat.ble vs.length F.n,Nat.ble F.n 8000 with
 | true,true=>Fg e.n (EU F.res (run F.code ⟨gT vs 0 .nil,e.H,e.n,[]⟩))
 | _,_=>none
abbrev nW:=FuncId->List V->View->Option V
def tK (P:Program) (tab:List (FuncId × DF)) (ext:nW) (run:kO) (g:FuncId) (vs:List V) (e:ES):Option (V × ES):=match ext g vs e.V with
 | some t=>some (t,⟨e.L,e.H,e.n,[]⟩)
 | none=>match tab.find? (λp=>Nat.beq p.1 g) with
  | some (_,F)=>EJ run F vs e
  | none=>none
def vq (P:Program) (tab:List (FuncId × DF)) (ext:nW):Nat->kO
 | 0=>λ_ _=>none
 | k+1=>gF P (tK P tab ext (vq P tab ext k)) (vq P tab ext k)
def kA (all:List Oper) (ls:List Nat):List (Nat × Nat):=
 let b:=cP all []
 (ls.zipIdx.map λ(x,i)=>(ls.zipIdx.filter λ(y,k)=>decide (i<k) && !(ordered b i k||x==0||y==0||(decide (x<=1)&&decide (y<=1)))).map λ(_,k)=>(i,k)).flatten
def nF (P:Program) (n:Nat) (fz:List Nat) (ops:List Oper) (draw:Bool):Option DC:=match bF P n ops ⟨fz,false⟩ ops with
 | none=>none
 | some l=>if !(group l).all kL then none else
  if draw then (if fC ops then (match (if fz.contains Dv then yj ops (l.map λs=>cX P false s.b) else none) with
   | some p=>(l7 ops (l.map λs=>cX P false s.b) p.1 p.2).map λtol=>.iK tol ((kA ops (l.map λs=>cX P false s.b)).filter λx=>x != p) (group l)
   | none=>some (.region (kA ops (l.map λs=>cX P false s.b)) (group l))) else none) else some (.region [] (group l))
def bm (P:Program) (n:Nat) (fz:List Nat):Code->Option DC
 | .skip=>some .skip
 | .region _ ops draw=>nF P n fz ops.toList draw
 | .seq x y=>match bm P n fz x,bm P n fz y with
  | some a,some b=>some (.seq a b)
  | _,_=>none
 | .cond c x y=>match bm P n fz x,bm P n fz y with
  | some a,some b=>some (.cond (SX.of c) a b)
  | _,_=>none
 | .block id c=>(bm P n fz c).map (.block id)
 | .loop c=>(bm P n fz c).map .loop
 | .exit id=>some (.exit id)
 | .ret=>some .ret
 | .label l=>some (.label l)
 | .goto l=>some (.goto l)
 | .scope c=>match bm P n fz c with
  | some d=>match uo d with
   | some l=>(findD d l).map λr=>.scope l d r
   | none=>none
  | none=>none
 | _=>none
abbrev GP (l:List (Option Nat × SB)):DC:=.region [] [⟨none,l⟩]
def uB (P:Program) (f:FuncId) (fz:List Nat):Option DF:=match P.funcs[f]? with
 | some fn=>match fn.body with
  | some c=>match bm P fn.ntmps fz c,cY P fn.results.toList,ba P f with
   | some sc,some rs,true=>some ⟨sc,rs,fn.ntmps⟩
   | _,_,_=>none
  | none=>none
 | none=>none
section
variable {P:Program} {n:Nat} {all:List Oper}
def dF (h:ah) (e:ES):Prop:=e.V=h.view/\e.n=h.length
def Calm (e e':ES) (h h':ah):Prop:=h.length<=h'.length/\(∀id,id<h.length->¬ id∈e'.w->h'.view id=h.view id/\¬ id∈e.w)
theorem Calm.trans {a b c:ES} {e f g:ah} (x:Calm a b e f) (y:Calm b c f g):Calm a c e g:=
 ⟨Hk x.1 y.1,λid d hw =>
  let ⟨h,d1⟩:=y.2 id (G2 d x.1) hw
  let ⟨i,d2⟩:=x.2 id d d1
  ⟨h.trans i,d2⟩⟩
theorem Calm.refl (e:ES) (h:ah):Calm e e h h:=⟨GX _,λ_ _ hw=>⟨rfl,hw⟩⟩
def fq (P:Program) (call:dE):Prop:=∀g vs e v e' h,call g vs e=some (v,e')->dF h e ->
 ba P g=true/\∃h',aN P g vs h v h'/\dF h' e'/\(∀id,id<h.length->¬ id∈e'.w->h'.view id=h.view id)/\∀id,id∈e'.w->id<h.length
def kg (P:Program) (run:kO):Prop:=∀(n:Nat) (fz:List Nat) (c:Code) (sc:DC),bm P n fz c=some sc->n<=8000->∀(e e':ES) (r:Exit) (h:ah),run sc e=some (r,e')->dF h e ->
 ∃h',aW P n c e.T h r e'.T h'/\dF h' e'/\Calm e e' h h'/\∀c0,c=.loop c0->iY P n c0 e.T h r e'.T h'
theorem Ak {h:ah} {e:ES} {d:Option Nat} {v:V} (he:dF h e):dF h (e.put d v):=by cases d<;>exact he
theorem Dk {e:ES} {d:Option Nat} {v:V} : (e.put d v).w=e.w:=by cases d<;>rfl
theorem CV {h:ah} {e e':ES} {b:ah} {d:Option Nat} {v:V} (x:Calm e e' h b):Calm e (e'.put d v) h b:=⟨x.1,λid a hw=>x.2 id a (by rw[Dk] at hw;exact hw)⟩
theorem p9 {a:Nat} (h:Nat.ble a 8000=true):a+1<2 ^ 13:=by
 have:=Nat.le_of_ble_eq_true h
 omega
theorem Ec {h:ah} {e e':ES} {v j:V} {ag:az} {rd:List Nat} {c:Rec} (he:dF h e) (a:Da v ag rd e=some (j,e',c)):
  j=v/\e'.T=e.T/\e'.V=ag.view h.view h.length/\e'.n=(ag.apply h).length/\c=⟨rd,ag.wr,false,h.length,(ag.apply h).length⟩/\e'.w=ag.wr++e.w:=by
 obtain⟨d,b⟩:=he
 unfold Da at a
 cases ag with
 | none =>
  obtain⟨rfl,rfl,rfl⟩:=a
  exact⟨rfl,rfl,d,b,by rw[b];rfl,rfl⟩
 | new o =>
  simp only at a
  split at a
  .rename_i f
   obtain⟨rfl,rfl,rfl⟩:=a
   refine⟨rfl,rfl,?_,by simp[dr,b],by simp[dr,b,az.wr],rfl⟩
   funext k
   simp only[ES.V,az.view,View.set]
   rw[aQ.gX _ _ _ _ _ _ (p9 f),b]
   have:=congrFun d k
   simp only[ES.V] at this
   rw[this]
  .simp at a
 | dp id o =>
  simp only at a
  split at a
  .rename_i f
   obtain⟨rfl,rfl,rfl⟩:=a
   refine⟨rfl,rfl,?_,by simp[dr,b],by simp[dr,b,az.wr],rfl⟩
   funext k
   simp only[ES.V,az.view,View.set]
   rw[aQ.gX _ _ _ _ _ _ (p9 f)]
   have:=congrFun d k
   simp only[ES.V] at this
   rw[this]
  .simp at a
 | cU id o =>
  simp only at a
  split at a
  .rename_i g i
   obtain⟨rfl,rfl,rfl⟩:=a
   refine⟨rfl,rfl,?_,by simp[dr,b],by simp[dr,b,az.wr],rfl⟩
   funext k
   simp only[ES.V,az.view,View.set]
   rw[aQ.gX _ _ _ _ _ _ (p9 g),aQ.gX _ _ _ _ _ _ (p9 i),b]
   have:=congrFun d k
   simp only[ES.V] at this
   rw[this]
  .simp at a
theorem EP {o:Oper} {e e':ES} {h:ah} {s:SI} {v:V} {c:Rec} (i:bw n all e.T o=some true) (j:∀v ag rd,sI P s e.T h.view h.length=some (v,ag,rd)->aP P o e.T h.view h.length=some (v,ag,rd))
  (he:dF h e) (b:BU P s e=some (v,e',c)):∃d,bK P n all o e.T h v d c.rd c.wr c.call/\dF d e'/\e'.T=e.T/\Calm e e' h d/\eo (kK P s) c.rd c.wr c.call h.length d.length/\c.lo=h.length/\c.hi=d.length:=by
 unfold BU at b
 rw[y4,he.1,he.2] at b
 split at b
 .rename_i v0 ag rd f
  obtain⟨rfl,g1,g2,g3,rfl,g5⟩:=Ec he b
  have g:=j _ _ _ f
  have st:=bK.op (P:=P) (n:=n) (all:=all) i g
  refine⟨ag.apply h,st,⟨?_,g3⟩,g1,⟨kG st,λid a hw=>?_⟩,⟨λk=>?_,λm=>?_⟩,rfl,rfl⟩
  .rw[fX (λid a=>(gJ g id a).1)];exact g2
  .rw[g5] at hw
   simp only[Io,not_or] at hw
   exact⟨jD st a hw.1,hw.2⟩
  .obtain⟨rfl,rfl⟩:=(jY f).1 k
   exact⟨rfl,rfl,rfl,rfl⟩
  .rcases Ho (kK P s) 1 with l | l
   .obtain⟨rfl,rfl⟩:=(jY f).1 (by omega);rfl
   .exact(jY f).2 (by omega)
 .simp at b
theorem FG {call:dE} (j:fq P call) {q:Fz} {o:Oper} {e e':ES} {h:ah} {v:V} {c:Rec} (r:bw n all e.T o=some true) (he:dF h e) (a:eB P call (gG P q o) e=some (v,e',c)):
  ∃k,bK P n all o e.T h v k c.rd c.wr c.call/\dF k e'/\e'.T=e.T/\Calm e e' h k/\eo (cX P false (gG P q o)) c.rd c.wr c.call h.length k.length/\c.lo=h.length/\c.hi=k.length:=by
 rcases oR P q o with ⟨f,args,C,m,i | i⟩ | ⟨t,x,m,i⟩ | ⟨s,d,x,m,u,i⟩ | i
 rotate_left
 .grind [eB]
 rotate_right
 .rw[i] at a ⊢
  simp only[eB,Ca] at a
  split at a
  .rename_i g first cap A
   rw[pT] at a
   rw[SX.aU] at A
   split at a
   .rename_i v0 H D
    obtain⟨l,k,hr,p,B,w⟩:=j _ _ _ _ _ _ D he
    obtain⟨rfl,rfl,rfl⟩:=a
    exact⟨k,.call r m A l hr B w,p,rfl,⟨hr.1,λid y hw=>by
     simp only[Io,not_or] at hw
     exact⟨B id y hw.1,hw.2⟩⟩,Dp (by simp[cX]),he.2,p.2⟩
   .simp at a
  .simp at a
 .rw[i] at a ⊢
  simp only[eB,BU,y4,sI,SX.aU] at a
  split at a
  .rename_i v0 ag rd b
   split at b
   .rename_i l
    obtain⟨rfl,rfl,rfl⟩:=b
    obtain⟨rfl,rfl,rfl⟩:=a
    exact⟨h,.eN r m l,he,rfl,Calm.refl _ _,⟨λ_=>⟨rfl,rfl,rfl,rfl⟩,λ_=>rfl⟩,he.2,he.2⟩
   .simp at b
  .simp at a
 .rw[i] at a ⊢
  obtain⟨ty,E,F,G⟩:=o8 u
  simp only[eB,BU,y4,sI,SX.aU] at a
  split at a
  .rename_i v0 ag rd b
   split at b
   .rename_i st z
    obtain⟨rfl,rfl,rfl⟩:=b
    obtain⟨rfl,rfl,rfl⟩:=a
    exact⟨h,.df r m E F G z,he,rfl,Calm.refl _ _,⟨λ_=>⟨rfl,rfl,rfl,rfl⟩,λ_=>rfl⟩,he.2,he.2⟩
   .simp at b
  .simp at a
 .rw[i] at a ⊢
  exact EP (s:=nr P q.fr (comp P o)) r (λv ag rd b=>xI (xH b)) he a
theorem EE {o:Oper} (a:jO n o=true) (b:n<=8000):∀t,o.dst=some t->t<8000:=by
 grind [jO]
theorem El {c:Rec} {a b:Nat} (d:c.lo=a) (e:c.hi=b):c=⟨c.rd,c.wr,c.call,a,b⟩:=by cases c;subst d;subst e;rfl
theorem vO {call:dE} (i:fq P call) (M:n<=8000) {N:Fz} (g:Option (Nat × Bool)):∀(l:List (Option Nat × SB)) (os:List Oper) (e e':ES) (h:ah) (a s:List Rec),
  bF P n all N os=some (l.map λ(d,b)=>⟨d,g,b⟩)->(∀d w,g=some (d,w)->e.T d=.val (.bool w)/\(l.all λx=>x.1 != some d)=true)->dF h e->xK P call l a e=some (e',s) ->
  ∃f z,s=a++f/\Tr P n all os e.T h f e'.T z/\dF z e'/\Calm e e' h z/\c8 P false (l.map λ(d,b)=>⟨d,g,b⟩) f
 | [],os,e,e',h,a,s,A,B,he,j=>by
  have:=fK A;subst this
  simp only[xK,GS,G6] at j;obtain⟨rfl,rfl⟩:=j
  exact⟨[],h,by simp,.nil,he,Calm.refl _ _,.nil⟩
 | (d,b)::l,os,e,e',h,a,s,A,B,he,j=>by
  obtain⟨o,r,rfl,O,Q⟩:=gw A
  obtain⟨R,u,m,q⟩:=kP O
  simp only at u m q
  have C:bw n all e.T o=some true:=by
   cases g with
   | none=>exact qT q
   | some p =>
    obtain⟨D,w⟩:=p
    have:=(fO (T:=e.T) q).1 w (B D w rfl).1
    grind
  simp only[xK] at j
  rw[m] at j
  split at j
  .rename_i v K c S
   obtain⟨E,st,F,U,G,V,W,X⟩:=FG i C he S
   have k:(K.put d v).T=e.T.put o.dst v:=by
    grind [ES.Dt,EE]
   obtain⟨f,H,Y,L,I,y,J⟩:=vO i M g l r (K.put d v) e' E _ s Q (λD w eq=>by
    have:=B D w eq
    simp only[Ia,G0,Is,ne_eq] at this
    refine⟨?_,this.2.2⟩
    rw[<-this.1,k,<-u]
    cases d with
    | none=>rfl
    | some t=>simp only[Env.put];rw[GV];intro e;subst e;exact this.2.1 rfl) (Ak F) j
   rw[k] at L
   refine⟨_,H,?_,.cons st R L,I,(CV G).trans y,J.cons (by rw[m];exact V)⟩
   grind [El]
  .simp at j
theorem uv {D:Fz} (E:n<=8000) (d:Nat) (w:Bool) (h:ah):∀(l:List (Option Nat × SB)) (os:List Oper) (e e':ES) (a k:List Rec),
  bF P n all D os=some (l.map λ(f,b)=>⟨f,some (d,w),b⟩)->(e.T d=.val (.bool !w)∨e.T d=.aA [])->(l.all λx=>x.1 != some d)=true->dF h e->oC l a e=(e',k) ->
  ∃c,k=a++c/\Tr P n all os e.T h c e'.T h/\dF h e'/\e'.w=e.w/\c8 P false (l.map λ(f,b)=>⟨f,some (d,w),b⟩) c
 | [],os,e,e',a,k,q,i,s,he,p=>by
  have:=fK q;subst this
  simp only[oC,G6] at p;obtain⟨rfl,rfl⟩:=p
  exact⟨[],by simp,.nil,he,rfl,.nil⟩
 | (f,b)::l,os,e,e',a,k,q,i,s,he,p=>by
  obtain⟨o,r,rfl,F,G⟩:=gw q
  obtain⟨u,m,v,j⟩:=kP F
  simp only at m v j
  have y:bw n all e.T o=some false:=by
   rcases i with i | i
   .rw[(fO (T:=e.T) j).1 _ i];cases w<;>rfl
   .exact(fO (T:=e.T) j).2 i
  simp only[Ia,G0,Is,ne_eq] at s
  have g:(e.put f (.aA [])).T=e.T.put o.dst (.aA []):=by
   grind [ES.Dt,EE]
  obtain⟨c,H,C,z,A,B⟩:=uv E d w h l r (e.put f (.aA [])) e' _ k G (by
   have:(e.put f (.aA [])).T d=e.T d:=by
    rw[g,<-m]
    cases f with
    | none=>rfl
    | some t=>grind [Env.put]
   rw[this];exact i) s.2 (Ak he) p
  rw[g] at C
  refine⟨_,?_,Tr.cons (.skip y) u C,z,by rw[A,Dk],B.cons (r:=⟨[],[],false,h.length,h.length⟩) ⟨λ_=>⟨rfl,rfl,rfl,rfl⟩,λ_=>rfl⟩⟩
  rw[H,Ii,DG,he.2];rfl
theorem sQ {j:Fz} (k:n<=8000) {d:Nat} {w:Bool} {h:ah} {l:List (Option Nat × SB)} {os:List Oper} {e e':ES} {a f:List Rec}
  (m:bF P n all j os=some (l.map λ(g,b)=>⟨g,some (d,w),b⟩)) (o:e.T d=.val (.bool !w)∨e.T d=.aA []) (p:(l.all λx=>x.1 != some d)=true) (he:dF h e) (q:oC l a e=(e',f)):
  ∃c i,f=a++c/\Tr P n all os e.T h c e'.T i/\dF i e'/\Calm e e' h i/\c8 P false (l.map λ(g,b)=>⟨g,some (d,w),b⟩) c:=by
 obtain⟨c,r,s,t,u,v⟩:=uv k d w h l os e e' a f m o p he q
 exact⟨c,h,r,s,t,⟨GX _,λid _ hw=>⟨rfl,by rw[u] at hw;exact hw⟩⟩,v⟩
theorem Fw {call:dE} (c:fq P call) (m:n<=8000) {r:Fz} {g:SG} {os:List Oper} {e e':ES} {h:ah} {a l:List Rec} (k:bF P n all r os=some g.flat) (j:kL g=true) (he:dF h e) (f:eG P call g a e=some (e',l)):
  ∃i o,l=a++i/\Tr P n all os e.T h i e'.T o/\dF o e'/\Calm e e' h o/\c8 P false g.flat i:=by
 unfold eG at f
 unfold SG.flat at k ⊢
 unfold kL at j
 split at f
 .rename_i p
  rw[p] at k ⊢
  exact vO c m none g.ops os e e' h a l k (λd w e=>by simp at e) he f
 .rename_i d want p
  rw[p] at k j ⊢
  unfold AJ at f
  split at f
  .rename_i b q
   split at f
   .simp only[GS] at f
    have e':b = !want:=by cases b<;>cases want<;>simp_all
    grind [sQ]
   .have e':b=want:=by grind
    subst e'
    exact vO c m (some (d,b)) g.ops os e _ h a l k (λs w e=>by simp at e;obtain⟨rfl,rfl⟩:=e;exact⟨q,j⟩) he f
  .rename_i q
   simp only[GS] at f
   exact sQ m k (.inr q) j he f
  .simp at f
theorem vd {call:dE} (b:fq P call) (z:n<=8000) {A:Fz}:∀(gs:List SG) (os:List Oper) (e e':ES) (h:ah) (a i:List Rec),bF P n all A os=some (gA gs)->gs.all kL=true->dF h e->xG P call gs a e=some (e',i) ->
  ∃c j,i=a++c/\Tr P n all os e.T h c e'.T j/\dF j e'/\Calm e e' h j/\c8 P false (gA gs) c
 | [],os,e,e',h,a,i,k,_,he,d=>by
  have:=fK k;subst this
  simp only[xG,GS,G6] at d;obtain⟨rfl,rfl⟩:=d
  exact⟨[],h,by simp,.nil,he,Calm.refl _ _,.nil⟩
 | g::gs,os,e,e',h,a,i,k,f,he,d=>by
  simp only[Ia,G0] at f
  obtain⟨G,B,rfl,C,D⟩:=jv k
  simp only[xG] at d
  split at d
  .rename_i E F l
   obtain⟨H,m,o,p,q,r,s⟩:=Fw b z C f.1 he l
   obtain⟨I,t,u,v,w,x,y⟩:=vd b z gs B E e' m F i D f.2 q d
   exact⟨_,t,by rw[u,o,Ii],p.append v,w,r.trans x,s.append y⟩
  .simp at d
theorem Ae {ls:List Nat} {i k x y:Nat} (a:i<k) (b:ls[i]?=some x) (c:ls[k]?=some y) (d:ordered (cP all []) i k=false) (h:¬ (x=0∨y=0∨(x<=1/\y<=1))):(i,k)∈kA all ls:=by
 unfold kA
 simp only[List.mem_flatten,HL]
 refine⟨_,⟨(x,i),by rw[Hu];exact b,rfl⟩,?_⟩
 simp only[HL,Ig]
 refine⟨(y,k),⟨by rw[Hu];exact c,?_⟩,rfl⟩
 grind
theorem qB {ls:List Nat} {d:List Rec} {q:List (Nat × Nat)} {tp:Option (Nat × Nat)} (h:q9 d q=true) (hp:∀x∈kA all ls,tp=some x∨x∈q) (A:ls.length=d.length) (hr:∀(i x:Nat) (r:Rec),ls[i]?=some x->d[i]?=some r->eo x r.rd r.wr r.call r.lo r.hi):∀i k a b,i<k->d[i]?=some a->d[k]?=some b->ordered (cP all []) i k=false->tp≠some (i,k)->fE a b:=by
 intro i k a b m v s w n
 have B:k<d.length:=(Ha.1 s).1
 have l:ls[i]?=some (ls[i]'(by omega)):=GR (by omega)
 have o:ls[k]?=some (ls[k]'(by omega)):=GR (by omega)
 generalize ls[i]'(by omega)=x at l
 generalize ls[k]'(by omega)=y at o
 have t:=hr i _ a l v
 have u:=hr k _ b o s
 by_cases f:x=0∨y=0∨(x<=1/\y<=1)
 .rcases f with g | g | g
  .obtain⟨j,e,p,z⟩:=t.1 g
   exact⟨λid c=>by simp[e] at c,λid _=>by simp[j],λf=>by simp[p] at f,λ_=>e,λid _ l=>by omega⟩
  .obtain⟨j,e,p,z⟩:=u.1 g
   exact⟨λid _=>by simp[j],λid c=>by simp[e] at c,λ_=>e,λf=>by simp[p] at f,λid c=>by simp[e] at c⟩
  .have j:=t.2 g.1
   have e:=u.2 g.2
   exact⟨λid c=>by simp[j] at c,λid c=>by simp[e] at c,λ_=>e,λ_=>j,λid c=>by simp[e] at c⟩
 .have:=Hg.1 h _ ((hp _ (Ae m l o w f)).resolve_left n)
  grind [AK]
theorem C2 {ls:List Nat} {c:List Rec} (h:q9 c (kA all ls)=true) (d:ls.length=c.length) (hr:∀(i x:Nat) (r:Rec),ls[i]?=some x->c[i]?=some r->eo x r.rd r.wr r.call r.lo r.hi):ld all c:=
 λi k a b e f g j=>qB (tp:=none) h (λ_ l=>.inr l) d hr i k a b e f g j (by simp)
theorem Cs (a b:V) (h:zi a b=true):a=b:=by
 unfold zi at h
 split at h<;>simp_all
theorem DW {t:TypeId} {m q:V} {H:View} (h:Df P t m q H=true):rv P t m q H:=by
 unfold Df at h
 split at h
 .rename_i id
  split at h
  .rename_i es c a
   refine⟨⟨es,c,a⟩,λv obj rd he=>?_⟩
   rw[he] at h
   simp only at h
   split at h
   .rename_i v1 e v2 f b d
    simp only[G0,HC] at h
    rw[b,d,Cs _ _ h.1,h.2]
   .simp at h
  .simp at h
 .simp at h
theorem DY (hm:P.follows .mixedOrders=true) {call:dE} (m:fq P call) (L:n<=8000) {M:List Nat} {id:Nat} {ops:Array Oper} {draw:Bool} {N:DC} {run:kO} {e e':ES} {r:Exit} {h:ah}
  (d:nF P n M ops.toList draw=some N) (he:dF h e) (a:gF P call run N e=some (r,e')):
  ∃j,aW P n (.region id ops draw) e.T h r e'.T j/\dF j e'/\Calm e e' h j:=by
 unfold nF at d
 split at d
 .simp at d
 .rename_i l S
  split at d
  .simp at d
  .have z:(group l).all kL=true:=by grind
   have A:bF P n ops.toList ⟨M,false⟩ ops.toList=some (gA (group l)):=by rw[cW];exact S
   have key:∀F,gF P call run (.region F (group l)) e=some (r,e')->(draw=true->fC ops.toList=true/\F=kA ops.toList (l.map λs=>cX P false s.b)) ->
     ∃j,aW P n (.region id ops draw) e.T h r e'.T j/\dF j e'/\Calm e e' h j:=by
    intro F a G
    simp only[gF,yd] at a
    split at a
    .rename_i D c t
     split at a
     .rename_i f
      simp only[GS,G6] at a
      obtain⟨rfl,rfl⟩:=a
      obtain⟨B,j,H,E,I,u,g⟩:=vd m L (group l) ops.toList e D h [] c A z he t
      subst H
      rw[cW] at g
      refine⟨j,?_,I,u⟩
      cases y:draw with
      | false=>simpa using vL (id:=id) E
      | true =>
       obtain⟨J,rfl⟩:=G y
       have v:ld ops.toList c:=C2 f (by simpa using g.1) (λi x r a hr=>by
        simp only[GY,GU] at a
        obtain⟨s,K,rfl⟩:=a
        exact g.2 i s r K hr)
       simpa using nK hm (id:=id) E J v
     .simp at a
    .simp at a
   have o:∀k p,draw=true->fC ops.toList=true->l7 ops.toList (l.map λs=>cX P false s.b) p.1 p.2=some k ->
     gF P call run (.iK k ((kA ops.toList (l.map λs=>cX P false s.b)).filter λx=>x != p) (group l)) e=some (r,e')->∃j,aW P n (.region id ops draw) e.T h r e'.T j/\dF j e'/\Calm e e' h j:=by
    intro k p y J w a
    simp only[gF,uh] at a
    split at a
    .rename_i D c t
     split at a
     .rename_i f
      simp only[G0] at f
      simp only[GS,G6] at a
      obtain⟨rfl,rfl⟩:=a
      obtain⟨B,j,H,E,I,u,g⟩:=vd m L (group l) ops.toList e D h [] c A z he t
      subst H
      rw[cW] at g
      refine⟨j,?_,I,u⟩
      subst y
      have C:∀(i x:Nat) (r:Rec),(l.map λs=>cX P false s.b)[i]?=some x->c[i]?=some r->eo x r.rd r.wr r.call r.lo r.hi:=λi x r a hr=>by
       simp only[GY,GU] at a
       obtain⟨s,K,rfl⟩:=a
       exact g.2 i s r K hr
      have v:=w9 (P:=P) (n:=n) (all:=ops.toList) (T:=e.T) (T':=D.T) (hp:=h) (tp:=some p) (by simpa using g.1) C (λq O=>by
       simp only[GS] at O;subst O
       have Q:=DW f.2
       rw[he.1] at Q
       exact⟨k,w,Q⟩) (qB f.1 (λx a=>by
        by_cases e:x=p
        .exact .inl (by rw[e])
        .exact .inr ((Ig (p:=λx=>x != p)).2 ⟨a,by simpa using e⟩)) (by simpa using g.1) C)
      simpa using jK hm (id:=id) E J v
     .simp at a
    .simp at a
   cases y:draw with
   | false =>
    rw[y] at d key
    simp at d
    obtain⟨_,rfl⟩:=d
    exact key [] a (by simp)
   | true =>
    rw[y] at d key o
    simp only[if_true] at d
    split at d
    .rename_i R
     split at d
     .rename_i p _
      simp only[GU] at d
      obtain⟨k,w,rfl⟩:=d
      exact o k p rfl R w a
     .simp only[GS] at d
      subst d
      exact key _ a λ_=>⟨R,rfl⟩
    .simp at d
theorem wj {b:List Nat} {ops:List Oper} {draw:Bool} {a:DC} (h:nF P n b ops draw=some a) (l:Nat):findD a l=none:=by
 unfold nF at h
 repeat' (split at h)
 all_goals first | (simp at h;done)|(simp only[GS] at h;subst h;rfl)|(simp only[GU] at h;obtain⟨_,_,rfl⟩:=h;rfl)
theorem yK {j:List Nat}:∀(c:Code) (f:DC),bm P n j c=some f->∀l,match findLabel c l with
  | some rest=>∃r,findD f l=some r/\bm P n j rest=some r
  | none=>findD f l=none:=by
 intro c
 induction c with
 | seq x y h i =>
  intro f d l
  simp only[bm] at d
  split at d
  .rename_i a b o k
   simp at d;subst d
   have g:=h a o l
   have p:=i b k l
   simp only[findLabel,findD]
   cases m:findLabel x l with
   | some rx =>
    rw[m] at g
    obtain⟨r,q,s⟩:=g
    exact⟨.seq r b,by rw[q],by simp only[bm,s,k]⟩
   | none =>
    rw[m] at g
    rw[g]
    exact p
  .simp at d
 | label l' =>
  intro f d l
  simp[bm] at d;subst d
  simp only[findLabel,findD]
  by_cases e:(l'==l)=true
  .rw[GZ e];exact⟨.skip,by rw[GZ e],by simp[bm]⟩
  .rw[GV e];simp only;rw[GV e]
 | region id ops draw=>intro f d l;simp only[bm] at d;simp only[findLabel];exact wj d l
 | cond x y z _ _ =>
  intro f d l
  simp only[bm] at d
  split at d
  .simp at d;subst d;rfl
  .simp at d
 | block id c _=>intro f d l;simp only[bm,GU] at d;obtain⟨_,_,rfl⟩:=d;rfl
 | loop c _=>intro f d l;simp only[bm,GU] at d;obtain⟨_,_,rfl⟩:=d;rfl
 | scope c _ =>
  intro f d l
  simp only[bm] at d
  split at d
  .split at d
   .simp only[GU] at d;obtain⟨_,_,rfl⟩:=d;rfl
   .simp at d
  .simp at d
 | skip=>intro f d l;simp[bm] at d;subst d;rfl
 | exit id=>intro f d l;simp[bm] at d;subst d;rfl
 | ret=>intro f d l;simp[bm] at d;subst d;rfl
 | goto l'=>intro f d l;simp[bm] at d;subst d;rfl
 | _=>intro f d;simp[bm] at d
theorem A3 {run:kO} (j:kg P run) {n:Nat} {u:List Nat} {c rc:Code} {r:DC} {l:Nat} (hr:bm P n u rc=some r) (z:n<=8000) (A:findLabel c l=some rc):
  ∀(k:Nat) (y:Code) (e a e':ES) (g o:Exit) (h f:ah),aW P n y e.T h g a.T f->dF f a->Calm e a h f->lu run l r k (some (g,a))=some (o,e')->∃d,gC P n c y e.T h o e'.T d/\dF d e'/\Calm e e' h d:=by
 intro k
 induction k with
 | zero=>intro y e a e' g o h f _ _ _ b;simp[lu] at b
 | succ k B =>
  intro y e a e' g o h f v he m b
  have fin:rQ c g=true->(some (g,a):ER)=some (o,e')->∃d,gC P n c y e.T h o e'.T d/\dF d e'/\Calm e e' h d:=by
   rintro C i
   simp only[GS,G6] at i
   obtain⟨rfl,rfl⟩:=i
   exact⟨f,.out v C,he,m⟩
  cases g with
  | goto l' =>
   change (match Nat.beq l' l with | true=>lu run l r k (run r a) | false=>none)=_ at b
   split at b
   .rename_i q
    have q:=HV q
    subst q
    cases i:run r a with
    | none=>rw[i] at b;cases k<;>simp[lu] at b
    | some p =>
     obtain⟨w,x⟩:=p
     rw[i] at b
     obtain⟨D,E,s,F,_⟩:=j n u rc r hr z a x w f i he
     obtain⟨d,G,t,H⟩:=B rc a x e' w o f D E s F b
     exact⟨d,gC.jump v A G,t,m.trans H⟩
   .simp at b
  | _=>exact fin rfl b
theorem C8 (hm:P.follows .mixedOrders=true) {call:dE} (A:fq P call) {run:kO} (f:kg P run):kg P (gF P call run):=by
 intro n v c V g q e e' r h k he
 cases c with
 | skip =>
  simp[bm] at g;subst g
  obtain⟨rfl,rfl⟩:=k
  exact⟨h,.skip,he,Calm.refl _ _,λ_ h=>by simp at h⟩
 | region id ops draw =>
  obtain⟨Q,a,b,d⟩:=DY (id:=id) hm A q g he k
  grind
 | seq x y =>
  simp only[bm] at g
  split at g
  .rename_i a b s G
   simp at g;subst g
   simp only[gF,EH] at k
   split at k
   .rename_i w t
    obtain⟨i,m,j,o,C⟩:=f n v x a s q e w .normal h t he
    obtain⟨B,H,u,D,R⟩:=f n v y b G q w e' r i k j
    exact⟨B,m.seq H,u,o.trans D,λ_ h=>by simp at h⟩
   .obtain⟨i,m,j,o,C⟩:=f n v x a s q e e' r h k he
    refine⟨i,m.yg (λe=>?_),j,o,λ_ h=>by simp at h⟩
    subst e
    grind
  .simp at g
 | cond W x y =>
  simp only[bm] at g
  split at g
  .rename_i a b s G
   simp at g;subst g
   simp only[gF,Du,SX.aU] at k
   split at k
   .rename_i I
    obtain⟨i,m,j,o,C⟩:=f n v x a s q e e' r h k he
    exact⟨i,.cond I m,j,o,λ_ h=>by simp at h⟩
   .rename_i I
    obtain⟨i,m,j,o,C⟩:=f n v y b G q e e' r h k he
    exact⟨i,.cond I m,j,o,λ_ h=>by simp at h⟩
   .simp at k
  .simp at g
 | block id c =>
  simp only[bm,GU] at g
  obtain⟨a,s,rfl⟩:=g
  simp only[gF,Ai] at k
  split at k
  .rename_i S w t
   simp only[GS,G6] at k
   obtain⟨rfl,rfl⟩:=k
   obtain⟨i,m,j,o,C⟩:=f n v c a s q e w S h t he
   exact⟨i,m.block,j,o,λ_ h=>by simp at h⟩
  .simp at k
 | loop c =>
  have J:=g
  simp only[bm,GU] at g
  obtain⟨a,s,rfl⟩:=g
  simp only[gF,Dj] at k
  split at k
  .rename_i w t
   obtain⟨i,m,j,o,C⟩:=f n v c a s q e w .normal h t he
   obtain⟨B,H,u,D,R⟩:=f n v (.loop c) (.loop a) J q w e' r i k j
   have E:=iY.step m (R c rfl)
   exact⟨B,.loop E,u,o.trans D,λU F=>by simp only[Code.loop.injEq] at F;subst F;exact E⟩
  .rename_i K
   obtain⟨i,m,j,o,C⟩:=f n v c a s q e e' r h k he
   have E:=iY.out m (λe=>by subst e;exact absurd k (K e'))
   exact⟨i,.loop E,j,o,λU F=>by simp only[Code.loop.injEq] at F;subst F;exact E⟩
 | exit id =>
  simp[bm] at g;subst g
  obtain⟨rfl,rfl⟩:=k
  exact⟨h,.exit,he,Calm.refl _ _,λ_ h=>by simp at h⟩
 | ret =>
  simp[bm] at g;subst g
  obtain⟨rfl,rfl⟩:=k
  exact⟨h,.ret,he,Calm.refl _ _,λ_ h=>by simp at h⟩
 | label l =>
  simp[bm] at g;subst g
  obtain⟨rfl,rfl⟩:=k
  exact⟨h,.label,he,Calm.refl _ _,λ_ h=>by simp at h⟩
 | goto l =>
  simp[bm] at g;subst g
  obtain⟨rfl,rfl⟩:=k
  exact⟨h,.goto,he,Calm.refl _ _,λ_ h=>by simp at h⟩
 | scope c =>
  simp only[bm] at g
  split at g
  .rename_i d s
   split at g
   .rename_i l G
    simp only[GU] at g
    obtain⟨X,L,rfl⟩:=g
    have z:=yK c d s l
    cases M:findLabel c l with
    | none=>rw[M] at z;rw[z] at L;simp at L
    | some rc =>
     rw[M] at z
     obtain⟨S,N,k2⟩:=z
     rw[L] at N
     simp only[GS] at N
     subst N
     simp only[gF] at k
     cases O:run d e with
     | none=>rw[O] at k;simp[lu] at k
     | some p =>
      obtain⟨T,w⟩:=p
      rw[O] at k
      obtain⟨i,m,j,o,_⟩:=f n v c d s q e w T h O he
      obtain⟨Q,H,u,D⟩:=A3 f k2 q M 5000 c e w e' T r h i m j o k
      exact⟨Q,.scope H,u,D,λ_ h=>by simp at h⟩
   .simp at g
  .simp at g
 | _=>simp[bm] at g
theorem sS:∀(vs:List V) (i:Nat) (t:aQ V),i+vs.length<=8000->∀k,(gT vs i t).get .any k=if i<=k/\k<i+vs.length then vs.getD (k-i) .any else t.get .any k
 | [],i,t,h,k=>by
  grind [gT]
 | v::vs,i,t,h,k=>by
  simp only[G5] at h
  rw[gT,sS vs (i+1) _ (by omega),aQ.gX _ _ _ _ _ _ (by simp only[deep];omega)]
  grind
theorem wK (vs:List V) (h:vs.length<=8000):(gT vs 0 .nil).get .any=fI vs:=by
 funext k
 rw[sS vs 0 .nil (by omega)]
 simp only[fI,HG,true_and,Hy,Nat.sub_zero]
 split
 .rfl
 .rw[GQ,Hs (by omega)];rfl
theorem D8 {e:ES} {h:ah} {r:ResultVar} {rest:List ResultVar} {l:List SR} (he:dF h e) (b:cY P (r::rest)=some l):∃s l',l=s::l'/\cY P rest=some l'/\∀v,C0 s e=some v->j3 P e.T h r=some v:=by
 cases r with
 | tmp t =>
  simp only[cY,GU] at b
  obtain⟨l',d,rfl⟩:=b
  exact⟨.tmp t,l',rfl,d,λv c=>c⟩
 | cell a t =>
  simp only[cY] at b
  split at b
  .rename_i k l' d f
   simp at b;subst b
   refine⟨.cell a k,l',rfl,f,λv c=>?_⟩
   simp only[C0] at c
   simp only[j3,gD,mh d]
   rw[he.1] at c
   grind
  .simp at b
theorem vK {e:ES} {h:ah} (he:dF h e):∀(rs:List ResultVar) (l:List SR) (vs:List V),cY P rs=some l->l6 l e=some vs->gm P e.T h rs=some vs
 | [],l,vs,a,hw=>by simp[cY] at a;subst a;simp[l6] at hw;subst hw;rfl
 | r::rest,l,vs,a,hw=>by
  obtain⟨s,l',rfl,d,f⟩:=D8 (e:=e) (h:=h) he a
  simp only[l6] at hw
  split at hw
  .rename_i v b g c
   simp at hw;subst hw
   simp[gm,f v g,vK he rest l' b d c]
  .simp at hw
def ei (P:Program) (tab:List (FuncId × DF)):Prop:=∀p∈tab,∃fz,uB P p.1 fz=some p.2
def j7 (P:Program) (ext:nW):Prop:=∀g vs H t,ext g vs H=some t->ba P g=true/\∀h:ah,h.view=H->aN P g vs h t h
theorem vR {m:List (FuncId × DF)} {ext:nW} (O:ei P m) (y:j7 P ext) {run:kO} (o:kg P run):fq P (tK P m ext run):=by
 intro g vs e v e' h b he
 unfold tK at b
 split at b
 .rename_i t p
  obtain⟨rfl,rfl⟩:=b
  obtain⟨A,B⟩:=y _ _ _ _ p
  exact⟨A,h,B h he.1.symm,he,λ_ _ _=>rfl,λ_ hw=>by simp at hw⟩
 .split at b
  .rename_i z F M
   have q:=List.mem_of_find?_eq_some M
   have C:z=g:=by
    have:=List.find?_some M
    exact HV this
   subst C
   obtain⟨Q,i⟩:=O _ q
   unfold uB at i
   split at i
   .rename_i fn D
    split at i
    .rename_i c R
     split at i
     .rename_i N rs A B W
      simp at i;subst i
      unfold EJ at b
      split at b
      .rename_i hlen E
       have hlen:=Nat.le_of_ble_eq_true hlen
       have E:=Nat.le_of_ble_eq_true E
       unfold Fg at b
       split at b
       .rename_i v1 d s
        simp only[GS,G6] at b
        unfold EU at s
        have go:∀(r:Exit) (u:ES),(r=.ret∨r=.normal)->run N ⟨gT vs 0 .nil,e.H,e.n,[]⟩=some (r,u)->(l6 rs u).map (λvs=>(ml vs,u))=some (v1,d) ->
          ∃f,aN P z vs h v1 f/\dF f d/\(∀id,id<h.length->¬ id∈d.w->f.view id=h.view id):=by
         intro r u hr G k
         simp only[GU,G6] at k
         obtain⟨I,J,rfl,rfl⟩:=k
         obtain⟨f,y,x,K,_⟩:=o fn.ntmps Q c N A E _ u r h G he
         have S:(ES.T ⟨gT vs 0 .nil,e.H,e.n,[]⟩)=fI vs:=wK vs (by omega)
         rw[S] at y
         refine⟨f,aN.xP D R hlen y (by rcases hr with rfl | rfl<;>simp) ?_,x,λid j hw=>(K.2 id j hw).1⟩
         unfold za
         rw[vK x _ _ _ B J]
         cases I with
         | nil=>rfl
         | cons a l=>cases l<;>rfl
        have done:(∃f,aN P z vs h v1 f/\dF f d/\(∀id,id<h.length->¬ id∈d.w->f.view id=h.view id)) ->
          ∃f,aN P z vs h v1 f/\dF f ⟨d.L,d.H,d.n,d.w.filter λid=>Nat.blt id e.n⟩/\(∀id,id<h.length->¬ id∈d.w.filter (λid=>Nat.blt id e.n)->f.view id=h.view id)/\∀id,id∈d.w.filter (λid=>Nat.blt id e.n)->id<h.length:=by
         rintro⟨f,U,k2,V⟩
         refine⟨f,U,k2,λid j hw=>V id j (λhm=>hw ?_),λid hw=>?_⟩
         .rw[Ig]
          exact⟨hm,by rw[he.2];exact Nat.ble_eq_true_of_le j⟩
         .rw[Ig] at hw
          have:=Nat.le_of_ble_eq_true hw.2
          rw[he.2] at this;exact this
        grind
       .grind
      .grind
     .simp at i
    .simp at i
   .simp at i
  .grind
theorem wX (hm:P.follows .mixedOrders=true) {a:List (FuncId × DF)} {ext:nW} (b:ei P a) (d:j7 P ext):∀k,kg P (vq P a ext k)
 | 0=>λn g c i j l e e' r h hr he=>by simp[vq] at hr
 | k+1=>by
  have f:=wX hm b d k
  have:=C8 hm (vR b d f) f
  exact this
end
inductive dz (h:ah):V->V->Prop
 | val (v:Value):dz h (.val v) (.val v)
 | emp (k:Nat):dz h (.emp k) (.al [])
 | sl (id off len esz z:Nat) (es es':List (List V)):h.view id=.arr z es->off+len<=es.length->es'.length=len ->
  (∀i,i<len->(es'.getD i []).length=(es.getD (off+i) []).length) ->
  (∀i j,i<len->j<(es'.getD i []).length->dz h ((es.getD (off+i) []).getD j .any) ((es'.getD i []).getD j .any))->dz h (.sl id off len esz) (.al es')
 | agg (cs cs':List V):cs'.length=cs.length->(∀i,i<cs.length->dz h (cs.getD i .any) (cs'.getD i .any))->dz h (.agg cs) (.agg cs')
 | aA (cs cs':List V):cs'.length=cs.length->(∀i,i<cs.length->dz h (cs.getD i .any) (cs'.getD i .any))->dz h (.aA cs) (.aA cs')
theorem Ew {h:ah} {Z:Nat->Prop} {μ ν:Mu} {F:View} {hp:Array Obj} (hr:dO Z μ hp (cat h F)) {v t:V} (fr:dz h v t):∀ {x:Value},ae Z μ hp v x->ae (eF μ) ν hp t x:=by
 have l:∀id,h.view id≠.dead->cat h F id=h.view id:=λid D=>by simp only[cat];rw[GZ (fb D)]
 induction fr with
 | val v=>intro x d;cases d with | val _ s=>exact .val _ s
 | emp k=>intro x d;cases d with | emp _ a=>exact .dA a 0 (λ_=>rfl)
 | sl id off len esz z es es' B hle hlen E _ m =>
  intro x d
  cases d with
  | fj _ _ _ a =>
   have:es'=[]:=HM.1 hlen
   subst this
   exact .dA a 0 (λ_=>rfl)
  | sl _ _ _ _ b o0 cap c e f hm C K L =>
   have o:=hr.obj id
   rw[l id (by rw[B];simp),B] at o
   obtain⟨rfl,_,G,H⟩:=o b o0 esz hm
   have d:∀i,∃ci:Nat->Value,∀j,j<esz->i<len->cellAt hp b (o0+off*esz+i*esz+j)=some (ci j)/\ae Z μ hp ((es.getD (off+i) []).getD j .any) (ci j):=by
    intro i
    by_cases hi:i<len
    .obtain⟨ci,u⟩:=iv (n:=esz) (p:=λj x=>cellAt hp b (o0+off*esz+i*esz+j)=some x/\ae Z μ hp ((es.getD (off+i) []).getD j .any) x) (λj g=>by
      obtain⟨x,d,s⟩:=H (off+i) j (by omega) g
      rw[Hl,<-Nat.add_assoc] at d
      exact⟨x,d,s⟩)
     exact⟨ci,λj g _=>u j g⟩
    .exact⟨λ_=>undef,λj _ h=>absurd h hi⟩
   obtain⟨I,q⟩:=Classical.axiomOfChoice d
   have r:∀i,i<es'.length->(es'.getD i []).length=esz:=λi hi=>by rw[E i (by omega)];exact G _ (by omega)
   have:=ae.al (Z:=eF μ) (μ:=ν) (hp:=hp) es' b (o0+off*esz) esz cap I ⟨id,o0,esz,hm⟩ (by omega) r
    (λi j hi g=>(q i j g (by omega)).1) (λi j hi g=>m i j (by omega) (by rw[r i hi];exact g) (q i j g (by omega)).2)
   rw[hlen] at this
   exact this
 | agg cs w hlen _ m =>
  intro x d
  cases d with
  | agg _ y J A=>exact .agg _ _ (by omega) (λi hi=>m i (by omega) (A i (by omega)))
 | aA cs w hlen _ m =>
  intro x d
  cases d with
  | aA _ y J A=>exact .aA _ _ (by omega) (λi hi=>m i (by omega) (A i (by omega)))
def aT (P:Program) (f:FuncId) (vs:List V) (t:V):Prop:=
 ∀Z μ (w:World) (xs:List Value),cL Z μ w.heap vs xs->(∀b,Z b->b<w.heap.size)->Gl Z w.heap ->
  Calls P f xs.toArray w λe w'=>∃x Z',e=.returned x/\(∀ν,ae Z' ν w'.heap t x)/\bZ w w'/\(∀b,Z' b->w.heap.size<=b/\b<w'.heap.size)/\cT w.heap w'.heap (λ_=>False)
theorem aT.pure {P:Program} {f:FuncId} {vs:List V} {t:V} (h:aT P f vs t):ak P f vs t:=by
 intro Z μ w xs a d g
 refine(h Z μ w xs a d g).mono ?_
 rintro e w' ⟨x,Z',rfl,i,j,c,k⟩
 exact⟨x,λb=>Z b∨Z' b,rfl,λν=>(i ν).mono ⟨λ_ h=>.inr h,λ_ _=>rfl,λ_ _ h=>h,cR.refl _⟩,j,λ_ h=>.inl h,λb l=>l.imp id (c b),k⟩
theorem aT.mr {P:Program} {f:FuncId} {vs:List V} {r t:V} {l:ah} (n:∀v∈vs,Tree v) (p:aN P f vs [] r l) (q:dz l r t):aT P f vs t:=by
 intro Z μ w xs a u y
 have c:cL Z (λ_=>none) w.heap vs xs:=⟨a.1,λi hi=>lT (a.2 i hi) (by
  simp only[GQ,GR hi,G1]
  exact n _ (G4 _))⟩
 have k:dO Z (λ_=>none) w.heap (cat [] λ_=>.dead):=by
  exact⟨λ_=>trivial,λi j b o s A B _ h=>by simp at h,λid b o s h=>by simp at h,u,λid b o s h=>by simp at h,y⟩
 refine(p.2 Z _ _ w xs c k (λ_ _ _=>rfl)).mono ?_
 rintro e w' ⟨x,Z',μ',rfl,z,m,hex,_⟩
 refine⟨x,eF μ',rfl,λν=>Ew m q z,hex.same,?_,λb g _=>hex.frame b g (by rintro⟨_,_,_,h⟩;simp at h)⟩
 rintro b ⟨id,o,s,g⟩
 rcases hex.qe _ _ _ _ g with d | ⟨_,d | ⟨_,_,_,d⟩⟩
 .simp at d
 .exact⟨d,m.lt _ _ _ _ g⟩
 .simp at d
theorem aT.of {P:Program} {f:FuncId} {vs:List V} {t:V} (b:∀v∈vs,Tree v) (h:ar P f vs (λ_=>.dead) λr H'=>∀a:ah,a.view=H'->dz a r t):aT P f vs t:=by
 obtain⟨r,a,c,_,d⟩:=h.2 [] sm
 exact aT.mr b c (d a rfl)
theorem aN.lq {P:Program} {f:FuncId} {j vs:List V} {t:V} {h:ah} (u:aT P f j t) (v:j.length=vs.length)
  (l:∀i,i<vs.length->Fr h (vs.getD i .any) (j.getD i .any)):aN P f vs h t h:=by
 refine⟨GX _,λZ μ F w xs c hr m=>?_⟩
 have n:cL (λb=>Z b∨eF μ b) μ w.heap j xs:=⟨by rw[v,c.1],λi hi=>pU hr (l i (by omega)) (c.2 i (by omega))⟩
 have p:∀b,(Z b∨eF μ b)->b<w.heap.size:=by
  rintro b (a | ⟨id,o,s,a⟩)
  .exact hr.aX b a
  .exact hr.lt _ _ _ _ a
 refine(u _ μ w xs n p (hr.gl.mono (λ_=>.inl) λ_ _=>rfl)).mono ?_
 rintro e w' ⟨x,Z',rfl,y,q,d,k⟩
 have hm:dC Z (λb=>Z b∨Z' b) μ μ w.heap w'.heap:=⟨λ_ h=>.inl h,λb a=>k b (hr.aX b a) (λx=>x),λ_ _ h=>h,k.jo⟩
 refine⟨x,λb=>Z b∨Z' b,μ,rfl,(y μ).mono ⟨λ_ h=>.inr h,λ_ _=>rfl,λ_ _ h=>h,cR.refl _⟩,⟨λid=>(hr.obj id).mono hm rfl (λb o s g=>k b (hr.lt _ _ _ _ g) (λx=>x)),hr.inj,λid b o s g=>G2 (hr.lt _ _ _ _ g) q.size,λb a=>?_,λid b o s g r=>?_,hr.gl.mono hm.z hm.zz⟩,
  ⟨q,hm,λb a _=>k b a (λx=>x),λb a=>a.imp id (λh=>(d b h).1),λ_ _ _ _ h=>.inl h⟩,λ_ _=>rfl⟩
 .rcases a with a | a
  .exact G2 (hr.aX b a) q.size
  .exact(d b a).2
 .rcases r with a | a
  .exact hr.dQ _ _ _ _ g a
  .have:=hr.lt _ _ _ _ g;have:=(d b a).1;omega
theorem av.lq {P:Program} {q:Bool} {f:FuncId} {H:View} {vs c:List V} {K:V->View->Prop} {v:bB (H,K)} {t:V} (d:aT P f c t) (a:ba P f=true) (g:c.length=vs.length)
  (b:∀i,i<vs.length->dY H (vs.getD i .any) (c.getD i .any)) (j:K t H):av P q f vs H K v:=by
 unfold av
 cases q with
 | true=>exact⟨a,λh e=>⟨t,h,aN.lq d g (λi hi=>b i hi h e),λ_ _=>rfl,e▸j⟩⟩
 | false =>
  refine⟨a,?_⟩
  rintro h rfl
  exact⟨t,h,aN.lq d g (λi hi=>b i hi h rfl),.refl _,j⟩
def hX (fz:V->Option V):List V->Option (List V)
 | []=>some []
 | v::l=>match fz v,hX fz l with
  | some a,some b=>some (a::b)
  | _,_=>none
def rp (fz:V->Option V):List (List V)->Option (List (List V))
 | []=>some []
 | v::l=>match hX fz v,rp fz l with
  | some a,some b=>some (a::b)
  | _,_=>none
def nQ (H:View):Nat->V->Option V
 | 0,_=>none
 | k+1,v=>match v with
  | .val x=>some (.val x)
  | .emp _=>some (.al [])
  | .sl id off len _=>match H id with
   | .arr _ es=>if off+len<=es.length then (rp (nQ H k) ((es.drop off).take len)).map .al else none
   | _=>none
  | .agg cs=>(hX (nQ H k) cs).map .agg
  | .aA cs=>(hX (nQ H k) cs).map .aA
  | _=>none
theorem dL {c:V->Option V}:∀(l l':List V),hX c l=some l'->l'.length=l.length/\∀i,i<l.length->c (l.getD i .any)=some (l'.getD i .any)
 | [],l',h=>by simp only[hX,GS] at h;subst h;exact⟨rfl,λi hi=>by simp at hi⟩
 | v::l,l',h=>by
  simp only[hX] at h
  split at h
  .rename_i a b d e
   simp only[GS] at h;subst h
   obtain⟨g1,g2⟩:=dL l b e
   refine⟨by simp[g1],λi hi=>?_⟩
   cases i with
   | zero=>exact d
   | succ i=>exact g2 i (by simpa using hi)
  .simp at h
theorem rB {c:V->Option V}:∀(l l':List (List V)),rp c l=some l'->l'.length=l.length/\∀i,i<l.length->hX c (l.getD i [])=some (l'.getD i [])
 | [],l',h=>by simp only[rp,GS] at h;subst h;exact⟨rfl,λi hi=>by simp at hi⟩
 | v::l,l',h=>by
  simp only[rp] at h
  split at h
  .rename_i a b d e
   simp only[GS] at h;subst h
   obtain⟨g1,g2⟩:=rB l b e
   refine⟨by simp[g1],λi hi=>?_⟩
   cases i with
   | zero=>exact d
   | succ i=>exact g2 i (by simpa using hi)
  .simp at h
theorem xY (h:ah):∀(k:Nat) (v t:V),nQ h.view k v=some t->dz h v t
 | 0,v,t,a=>by simp[nQ] at a
 | k+1,v,t,a=>by
  have b:=xY h k
  simp only[nQ] at a
  split at a
  .simp only[GS] at a;subst a;exact .val _
  .simp only[GS] at a;subst a;exact .emp _
  .rename_i id off len esz
   split at a
   .rename_i z es d
    split at a
    .rename_i hle
     simp only[GU] at a
     obtain⟨es',he,rfl⟩:=a
     obtain⟨g1,g2⟩:=rB _ _ he
     have hlen:es'.length=len:=by rw[g1];simp;omega
     have e:∀i,i<len->((es.drop off).take len).getD i []=es.getD (off+i) []:=λi hi=>by
      simp[GQ,HA,hi]
     have g3:∀i,i<len->hX (nQ h.view k) (es.getD (off+i) [])=some (es'.getD i []):=λi hi=>by
      rw[<-e i hi];exact g2 i (by rw[<-g1,hlen];exact hi)
     exact .sl id off len esz z es es' d hle hlen (λi hi=>(dL _ _ (g3 i hi)).1) (λi j hi f=>b _ _ ((dL _ _ (g3 i hi)).2 j (by rw[<-(dL _ _ (g3 i hi)).1];exact f)))
    .simp at a
   .simp at a
  .simp only[GU] at a
   obtain⟨l,c,rfl⟩:=a
   obtain⟨g1,g2⟩:=dL _ _ c
   exact .agg _ _ g1 (λi hi=>b _ _ (g2 i hi))
  .simp only[GU] at a
   obtain⟨l,c,rfl⟩:=a
   obtain⟨g1,g2⟩:=dL _ _ c
   exact .aA _ _ g1 (λi hi=>b _ _ (g2 i hi))
  .simp at a
def Dx:Option (V × ES)->Option V
 | some (v,e)=>nQ e.V 50 v
 | none=>none
def oF (P:Program) (tab:List (FuncId × DF)) (ext:nW) (f:FuncId) (vs:List V):Option V:=
 Dx (tK P tab ext (vq P tab ext 100000) f vs ⟨.nil,.nil,0,[]⟩)
theorem bb {P:Program} (hm:P.follows .mixedOrders=true) {a:List (FuncId × DF)} {ext:nW} (c:ei P a) (d:j7 P ext) {f:FuncId} {vs:List V} {t:V} (b:∀v∈vs,Tree v) (h:oF P a ext f vs=some t):
  aT P f vs t:=by
 unfold oF Dx at h
 split at h
 .rename_i v e hr
  obtain⟨l,g,i,j,_⟩:=vR c d (wX hm c d 100000) f vs _ v e [] hr ⟨by funext k;rfl,rfl⟩
  rw[j.1] at h
  exact aT.mr b i (xY g 50 v t h)
 .simp at h
def fM (P:Program) (fs:List (FuncId × List Nat)):List (FuncId × DF):=fs.filterMap λf=>(uB P f.1 f.2).map (f.1,·)
theorem dB (P:Program) (a:List (FuncId × List Nat)):ei P (fM P a):=by
 intro p hp
 obtain⟨f,_,h⟩:=HX.1 hp
 simp only[GU] at h
 obtain⟨d,b,rfl⟩:=h
 exact⟨f.2,b⟩
structure ay.uN (g:ay):Prop where
 an:g.an.length<=24
 tM:1<=g.aB.length
 aB:g.aB.length<=16
 GJ:1<=g.rules.length
 rules:g.rules.length<=40
 pW:0<=g.start
 start:g.start<g.aB.length
 left:∀r∈g.rules,0<=r.left/\r.left<g.aB.length
 right:∀r∈g.rules,r.right.length<=6
 sym:∀r∈g.rules,∀s∈r.right,pF g s=true
 prec:∀r∈g.rules,-1<=r.prec/\r.prec<g.an.length
theorem sq {g:ay}:∀(l:List aI) (top:Int),jl g l top=true->top<=(g.aB.length:Int)-1/\∀r∈l,0<=r.left/\r.left<g.aB.length/\kD g r=true
 | [],top,h=>by simp[jl] at h;exact⟨by omega,λr hr=>by simp at hr⟩
 | r::l,top,h=>by
  simp only[jl,G0,G7] at h
  obtain⟨⟨⟨a,e⟩,b⟩,c⟩:=h
  obtain⟨f,k2⟩:=sq l _ c
  have i:r.left<=(if r.left>top then r.left else top):=by split<;>omega
  have j:top<=(if r.left>top then r.left else top):=by split<;>omega
  refine⟨by omega,λd hr=>?_⟩
  rcases Hi.1 hr with rfl | hr
  .exact⟨a,by omega,b⟩
  .exact k2 d hr
theorem b3 {g:ay} (h:bQ g=true):g.uN:=by
 simp only[bQ,rJ,uD,G0,G7] at h
 obtain⟨⟨⟨⟨⟨⟨⟨b,_⟩,⟨c,d⟩,_⟩,e⟩,f⟩,i⟩,j⟩,l⟩:=h
 have k:=(sq _ _ l).2
 have a:∀r∈g.rules,r.right.length<=6/\-1<=r.prec/\r.prec<g.an.length/\∀s∈r.right,pF g s=true:=λr hr=>by
  have:=(k r hr).2.2
  simp only[kD,G0,G7,Hg,ui] at this
  exact⟨this.1.1.1,this.1.1.2,this.1.2,λs m=>(this.2 s m).1⟩
 exact⟨b,c,d,e,f,i,j,λr hr=>⟨(k r hr).1,(k r hr).2.1⟩,λr hr=>(a r hr).1,λr hr=>(a r hr).2.2.2,λr hr=>⟨(a r hr).2.1,(a r hr).2.2.1⟩⟩
theorem ay.uN.neg {g:ay} (h:g.uN) {r:aI} (hr:r∈g.rules) {s:Int} (a:s∈r.right) (b:s<0) : -1-s<g.aB.length:=by
 have:=h.sym r hr s a
 simp only[pF] at this
 rw[GV (by omega)] at this
 simpa using this
abbrev ep (is:List Bool):List (List V):=is.map λx=>[gb x]
theorem BA {h:ah} {id:Nat} {is:List Bool} (b:h.view id=.arr 1 (ep is)):dz h (.sl id 0 is.length 1) (cp is):=by
 refine .sl id 0 is.length 1 1 (ep is) _ b (by simp) (by simp) (λi hi=>by simp) (λi j hi a=>?_)
 rw[Hy]
 have e:(ep is).getD i []=[gb is[i]]:=by simp[GQ,hi]
 rw[e] at a ⊢
 have:j=0:=by simp at a;omega
 subst this
 exact .val _
theorem yS {H:View} {id n:Nat} {is:List Bool} (b:H id=.arr 1 (ep is)) (c:n=is.length):dY H (.sl id 0 n 1) (cp is):=by
 have d:∀e∈ep is,∀v∈e,Tree v:=by
  intro e he v b
  obtain⟨a,_,rfl⟩:=HL.1 he
  rw[HH] at b
  subst b
  exact .val _
 have:=dY.sl (off:=0) (len:=n) (esz:=1) b (by simp[c]) d
 rwa [List.drop_zero,G9 (by simp[c])] at this
theorem sX {is:List Bool} {i:Nat} (h:i<is.length):(ep is).getD i []=[gb is[i]]:=by simp[GQ,h]
theorem nk (is:List Bool) (i:Nat) (b:Bool):(ep is).set i [gb b]=ep (is.set i b):=by simp[List.map_set]
theorem Ao (n:Nat) (b:Bool):List.replicate n [gb b]=ep (List.replicate n b):=by simp
def iter {α:Type} (f:α->α):Nat->α->α
 | 0,x=>x
 | n+1,x=>iter f n (f x)
def ic (t:Bool) (is:List Bool) (r:aI):List Bool:=if eM r.right is t=true then is.set r.left.toNat true else is
def ln (g:ay) (t:Bool) (is:List Bool):List Bool:=g.rules.foldl (ic t) is
def bI (g:ay):List Bool:=List.replicate g.aB.length false
def aL (g:ay) (t:Bool):List Bool:=if bQ g=true then iter (ln g t) g.aB.length (bI g) else []
theorem yR (t:Bool) (is:List Bool) (r:aI):(ic t is r).length=is.length:=by unfold ic;split<;>simp
def mark (is:List Bool) (s:Int):List Bool:=if s<0 then is.set (-1-s).toNat true else is
def ib (p is:List Bool) (r:aI):List Bool:=if (is.getD r.left.toNat false&&eM r.right p true)=true then r.right.foldl mark is else is
def m9 (g:ay) (p is:List Bool):List Bool:=g.rules.foldl (ib p) is
def bE (g:ay):List Bool:=if bQ g=true then iter (m9 g (aL g true)) g.aB.length ((bI g).set g.start.toNat true) else []
theorem Ch (is:List Bool) (s:Int):(mark is s).length=is.length:=by unfold mark;split<;>simp
theorem sr:∀(l:List Int) (is:List Bool),(l.foldl mark is).length=is.length
 | [],_=>rfl
 | s::l,is=>by rw[H0,sr l,Ch]
theorem AD (p is:List Bool) (r:aI):(ib p is r).length=is.length:=by unfold ib;split<;>simp[sr]
theorem pw {f:List Bool->List Bool} (a:∀is,(f is).length=is.length):∀(n:Nat) (is:List Bool),(iter f n is).length=is.length
 | 0,_=>rfl
 | n+1,is=>by rw[iter,pw a n,a]
theorem pz {α:Type} {f:List Bool->α->List Bool} (a:∀is x,(f is x).length=is.length):∀(l:List α) (is:List Bool),(l.foldl f is).length=is.length
 | [],_=>rfl
 | x::l,is=>by rw[H0,pz a l,a]
theorem iN {g:ay} (h:bQ g=true) (t:Bool):(aL g t).length=g.aB.length:=by
 have a:∀is,(ln g t is).length=is.length:=λis=>pz (yR t) _ _
 rw[aL,GZ h,pw a]
 simp[bI]
def oe:List (FuncId × DF):=fM aa [(88,[]),(87,[]),(241,[]),(242,[])]
theorem kM:ei aa oe:=dB _ _
theorem Dm (P:Program):j7 P (λ_ _ _=>none):=λ_ _ _ _ h=>by simp at h
def E6 (o:Option V) (b:Bool):Bool:=match o with
 | some (.val (.bool c))=>c==b
 | _=>false
theorem EW {o:Option V} {b:Bool} (h:E6 o b=true):o=some (gb b):=by
 unfold E6 at h
 split at h
 .rw[HC] at h;rw[h]
 .simp at h
def nO (tab:List (FuncId × DF)) (f:FuncId) (p:Int->Bool):Bool:=(List.range 256).all λc=>E6 (oF aa tab (λ_ _ _=>none) f [gy (c:Int)]) (p (c:Int))
theorem lV {a:List (FuncId × DF)} (d:ei aa a) {f:FuncId} {p:Int->Bool} (h:nO a f p=true) (c:Int) (e:0<=c) (g:c<=255):ak aa f [gy c] (gb (p c)):=by
 have:=Hg.1 h c.toNat (by simp;omega)
 rw[show ((c.toNat:Nat):Int)=c by omega] at this
 exact(bb mixed d (Dm _) (by intro v b;simp at b;subst b;exact .val _) (EW this)).pure
def nt (c:Int):Bool:=decide (32<=c)&&decide (c<=126)&&c != 39&&c != 92
def ry (c:Int):Bool:=c==110||c==116||c==92||c==39
theorem yT:nO oe 87 tY=true:=by kernel_rfl
theorem Bp:nO oe 88 qw=true:=by kernel_rfl
theorem BJ:nO oe 241 nt=true:=by kernel_rfl
theorem Em:nO oe 242 ry=true:=by kernel_rfl
theorem sn {s:ByteArray} {c:Int} (h:c∈eD s):0<=c/\c<=255:=by
 unfold eD at h
 obtain⟨b,_,rfl⟩:=HL.1 h
 have:=b.toNat_lt
 omega
theorem Bg (s:ByteArray):dt s=(eD s).map λx=>[gy x]:=by simp[dt,eD]
def xp:List (FuncId × DF):=fM aa [(10,[]),(15,[]),(27,[]),(68,[]),(133,[]),(134,[]),(135,[]),(136,[]),(202,[]),(69,[]),(137,[]),(70,[]),(139,[]),(138,[]),(140,[]),(141,[]),(142,[]),(143,[]),(28,[]),(74,[]),(73,[]),(144,[]),(145,[]),(72,[]),(75,[]),(71,[]),(16,[1]),(31,[3]),(79,[]),(77,[]),(33,[4]),(80,[4]),(32,[2]),(78,[2]),(147,[3]),(29,[]),(76,[5]),(146,[]),(30,[])]
theorem zp:ei aa xp:=dB _ _
def uM (l:List Int):V:=.al (l.map λx=>[gy x])
theorem Bt (l:List Int):Tree (uM l):=dP _ _ λx _ v a=>by simp at a;subst a;exact .val _
def om (g:ay):V:=.aA [.agg (ax g),.val (.complex .f64 0 0),gi 0]
theorem D1 {l:List Int} {g:ay} (h:oF aa xp (λ_ _ _=>none) 10 [uM l]=some (om g)):aT aa 10 [uM l] (om g):=
 bb mixed zp (Dm _) (by intro v a;simp at a;subst a;exact Bt _) h
abbrev eJ (κ:Type):=List (κ × V × Nat)
def cO {κ:Type} (key:κ->Value) (m:eJ κ):List (V × V × Nat):=m.map λx=>(.val (key x.1),x.2.1,x.2.2)
def getM {κ:Type} [BEq κ] (m:eJ κ) (k:κ):Option V:=(m.find? λx=>k==x.1).map (·.2.1)
def ga {κ:Type} [BEq κ] (k:κ) (v:V) (c:Nat):eJ κ->eJ κ
 | []=>[(k,v,c)]
 | x::r=>if k==x.1 then (k,v,x.2.2)::r else x::ga k v c r
structure rZ {κ:Type} [BEq κ] (P:Program) (kt:TypeId) (key:κ->Value):Prop where
 ty:∃d,P.underlying kt=some d/\(∀a b,Instr.sameNow d (key a) (key b)=some (a==b))/\(∀a e,aH P (Instr.checkKey e 10000 kt (key a))=some ())
 bits:∀a b,(a==b)=true->Instr.sameBits 10000 (key b) (key a)=true
theorem lM {κ:Type} (key:κ->Value):∀m:eJ κ,eS (cO key m)=some (m.map λx=>{ key:=key x.1,val:=.nilFunc,born:=x.2.2 })
 | []=>rfl
 | x::r=>by
  have:=lM key r
  simp only[cO] at this
  simp[cO,eS,bz,this]
def jw {κ:Type} [BEq κ] (k:κ):eJ κ->Option Nat
 | []=>none
 | x::r=>if k==x.1 then some 0 else (jw k r).map (·+1)
theorem oU {κ:Type} [BEq κ] {key:κ->Value} {d:TypeDesc} (h:∀a b,Instr.sameNow d (key a) (key b)=some (a==b)) (k:κ):∀(m:eJ κ) (i:Nat),
  Instr.findNow d (key k) (m.map λx=>{ key:=key x.1,val:=.nilFunc,born:=x.2.2 }) i=some ((jw k m).map λj=>(i+j,.nilFunc))
 | [],i=>rfl
 | x::r,i=>by
  simp only[H9,Instr.findNow,h,jw]
  cases c:k==x.1 with
  | true=>simp
  | false =>
   simp only[oU h k r (i+1),Hc,if_false,Option.map_map]
   congr 2
   funext j
   simp only[Function.comp]
   congr 1
   omega
theorem m5 {κ:Type} [BEq κ] {P:Program} {kt:TypeId} {key:κ->Value} (h:rZ P kt key) (k:κ) (e:Bool) (m:eJ κ):iT P kt (.val (key k)) e (cO key m)=some (jw k m):=by
 obtain⟨d,a,b,c⟩:=h.ty
 have hu:aH P (underlying kt)=some d:=cD a
 simp only[iT,bz,lM,aE,c,Hj]
 have:aH P (Instr.findKey kt (key k) (m.map λx=>{ key:=key x.1,val:=.nilFunc,born:=x.2.2 }))=some ((jw k m).map λj=>(0+j,.nilFunc)):=by
  unfold Instr.findKey
  rw[aE,hu,Hj,oU b]
  rfl
 rw[this]
 cases jw k m with
 | none=>rfl
 | some j=>simp
theorem yO {P:Program} {kt:TypeId} {d:TypeDesc} (h:P.underlying kt=some d) (a:match d with | .int _ | .string | .bool=>True | _=>False) (e:Bool) (n:Nat) (v:Value):aH P (Instr.checkKey e (n+1) kt v)=some ():=by
 unfold Instr.checkKey
 rw[aE,cD h,Hj]
 cases d<;>first | exact a.elim | rfl
theorem js {P:Program} {kt:TypeId} (k:IntKind) (h:P.underlying kt=some (.int k)):rZ P kt (Value.int k) where
 ty:=⟨_,h,λa b=>by simp[Instr.sameNow],λa e=>yO h trivial e 9999 _⟩
 bits:=λa b c=>by
  have:a=b:=by simpa using c
  subst this
  simp[Instr.sameBits]
theorem my {κ:Type} [BEq κ] {key:κ->Value} (k:κ):∀m:eJ κ,match jw k m with
  | some i=>∃x,m[i]?=some x/\(k==x.1)=true/\getM m k=some x.2.1/\(cO key m)[i]?=some (.val (key x.1),x.2.1,x.2.2)/\∀v c,(cO key m).set i (.val (key k),v,x.2.2)=cO key (ga k v c m)/\(ga k v c m).length=m.length
  | none=>getM m k=none/\∀v c,cO key m++[(.val (key k),v,c)]=cO key (ga k v c m)/\(ga k v c m).length=m.length+1
 | []=>⟨rfl,λv c=>⟨rfl,rfl⟩⟩
 | x::r=>by
  have b:=my (key:=key) k r
  simp only[jw]
  cases a:k==x.1 with
  | true=>exact⟨x,rfl,a,by simp[getM,a],rfl,λv c=>by simp[ga,a,cO]⟩
  | false =>
   cases hi:jw k r with
   | some i =>
    rw[hi] at b
    obtain⟨y,d,e,f,g,h⟩:=b
    refine⟨y,by simpa using d,e,by simpa [getM,a] using f,by simpa [cO] using g,λv c=>?_⟩
    obtain⟨g1,g2⟩:=h v c
    exact⟨by simp only[cO] at g1 ⊢;simp[ga,a,g1],by simp[ga,a,g2]⟩
   | none =>
    rw[hi] at b
    refine⟨by simpa [getM,a] using b.1,λv c=>?_⟩
    obtain⟨g1,g2⟩:=b.2 v c
    exact⟨by simp only[cO] at g1 ⊢;simp[ga,a,g1],by simp[ga,a,g2]⟩
section
variable {P:Program} {T:Env} {H:View} {κ:Type} [BEq κ] {key:κ->Value} {kt et t ty:TypeId}
theorem tP {K:V->View->Prop} {w:bB (T,H,K)} {x i:Operand} {z:V} {id c:Nat} {m:eJ κ} {k:κ} (hm:de P t=some (kt,et)) (d:zeroV P et=some z) (e:rZ P kt key)
  (f:ev T x=.mp id) (hi:ev T i=.val (key k)) (g:H id=.map (cO key m) c) (h:K ((getM m k).getD z) H):oJ P (.lookup t x i false) ty T H K w:=by
 intro n _
 have l:=m5 e k (cO key m).isEmpty m
 have a:=my (key:=key) k m
 refine⟨(getM m k).getD z,.none,[id],?_,h⟩
 simp only[sI,aP,oper,cH,hm,d,f,hi,g,l]
 cases b:jw k m with
 | some j =>
  rw[b] at a
  obtain⟨y,q,r,o,p,_⟩:=a
  simp[p,o]
 | none =>
  rw[b] at a
  simp[a.1]
theorem Fi {K:V->View->Prop} {w:bB (T,H,K)} {x i:Operand} {z:V} {id c:Nat} {m:eJ κ} {k:κ} (hm:de P t=some (kt,et)) (d:zeroV P et=some z) (e:rZ P kt key)
  (f:ev T x=.mp id) (hi:ev T i=.val (key k)) (g:H id=.map (cO key m) c) (h:K (.aA [(getM m k).getD z,.val (.bool (getM m k).isSome)]) H):oJ P (.lookup t x i true) ty T H K w:=by
 intro n _
 have l:=m5 e k (cO key m).isEmpty m
 have a:=my (key:=key) k m
 refine⟨_,.none,[id],?_,h⟩
 simp only[sI,aP,oper,cH,hm,d,f,hi,g,l]
 cases b:jw k m with
 | some j =>
  rw[b] at a
  obtain⟨y,q,r,o,p,_⟩:=a
  simp[p,o]
 | none =>
  rw[b] at a
  simp[a.1]
theorem C3 (b:rZ P kt key) (k a:κ) (h:(k==a)=true):sameKey (.val (key a)) (.val (key k))=true:=by
 simp only[sameKey,bz];exact b.bits _ _ h
theorem uj {K:V->View->Prop} {w:bB (T,H,K)} {x i y:Operand} {id c:Nat} {m:eJ κ} {k:κ} {v:V} (hm:de P t=some (kt,et)) (d:rZ P kt key)
  (e:ev T x=.mp id) (hi:ev T i=.val (key k)) (f:ev T y=v) (g:H id=.map (cO key m) c)
  (h:∀o,K .any (H.set id (.map (cO key (ga k v c m)) o))):oJ P (.mapUpdate t x i y) ty T H K w:=by
 intro n _
 have a:=m5 d k false m
 have b:=my (key:=key) k m
 cases l:jw k m with
 | some j =>
  rw[l] at b a
  obtain⟨z,s,p,u,q,r⟩:=b
  refine⟨.any,.dp id (.map ((cO key m).set j (.val (key k),v,z.2.2)) c),[id],?_,?_⟩
  .simp only[sI,aP,oper,di,hm,e,hi,f,g,a,q,C3 d k z.1 p,if_true]
  .rw[(r v c).1];exact h c
 | none =>
  rw[l] at b a
  refine⟨.any,.dp id (.map (cO key m++[(.val (key k),v,c)]) (c+1)),[id],?_,?_⟩
  .simp only[sI,aP,oper,di,hm,e,hi,f,g,a]
  .rw[(b.2 v c).1];exact h (c+1)
omit [BEq κ] in
theorem E3 {K:V->View->Prop} {w:bB (T,H,K)} {x:Operand} {id c:Nat} {m:eJ κ} (hm:de P t=some (kt,et)) (d:ev T x=.mp id) (e:H id=.map (cO key m) c) (h:K (gq m.length) H):
  oJ P (.call { callee:=.builtin .len,args:=#[x],argTypes:=#[t] }) ty T H K w:=by
 intro n _
 have hu:∃a b,P.underlying t=some (.map a b):=by
  unfold de at hm
  split at hm
  .rename_i a b g;exact⟨a,b,g⟩
  .simp at hm
 obtain⟨a,b,hu⟩:=hu
 refine⟨gq m.length,.none,[id],?_,h⟩
 have f:(cO key m).length=m.length:=by simp[cO]
 simp only[sI,aP,oper,HJ,G5,Hh,lj,hu,d,e,f]
 simp[hu,d,e,f,lj]
end
def bU {κ β:Type} [BEq κ] (a:List (κ × β)) (k:κ):Option β:=(a.find? λx=>k==x.1).map (·.2)
def fG {κ β:Type} [BEq κ] (k:κ) (v:β):List (κ × β)->List (κ × β)
 | []=>[(k,v)]
 | x::r=>if k==x.1 then (k,v)::r else x::fG k v r
def iu {κ β:Type} (encV:β->V):List (κ × β)->eJ κ->Prop
 | [],[]=>True
 | x::a,y::m=>y.1=x.1/\y.2.1=encV x.2/\iu encV a m
 | _,_=>False
theorem iu.get {κ β:Type} [BEq κ] {encV:β->V} (k:κ):∀ {a:List (κ × β)} {m:eJ κ},iu encV a m->getM m k=(bU a k).map encV
 | [],[],_=>rfl
 | x::a,y::m,⟨c,d,e⟩=>by
  have b:=iu.get k e
  simp only[getM,bU,List.find?_cons,c] at b ⊢
  cases k==x.1 with
  | true=>simp[d]
  | false=>simpa using b
theorem iu.put {κ β:Type} [BEq κ] {encV:β->V} (k:κ) (v:β) (c:Nat):∀ {a:List (κ × β)} {m:eJ κ},iu encV a m->iu encV (fG k v a) (ga k (encV v) c m)
 | [],[],_=>⟨rfl,rfl,trivial⟩
 | x::a,y::m,⟨b,e,d⟩=>by
  have f:=iu.put k v c d
  simp only[fG,ga,b]
  cases k==x.1 with
  | true=>exact⟨rfl,rfl,d⟩
  | false=>exact⟨b,e,f⟩
theorem iu.len {κ β:Type} {encV:β->V}:∀ {a:List (κ × β)} {m:eJ κ},iu encV a m->m.length=a.length
 | [],[],_=>rfl
 | x::a,y::m,⟨_,_,b⟩=>by simp[iu.len b]
theorem u4 {κ β:Type} [BEq κ] [LawfulBEq κ] (k b:κ) (v:β):∀a:List (κ × β),bU (fG k v a) b=if b==k then some v else bU a b
 | []=>by
  by_cases h:b=k
  .subst h;simp[fG,bU]
  .simp[fG,bU,h]
 | x::r=>by
  have d:=u4 k b v r
  simp only[fG]
  by_cases c:k=x.1
  .by_cases h:b=k
   .subst h;simp[c,bU]
   .have:¬ b=x.1:=λe=>h (e.trans c.symm)
    simp[c,bU,this]
  .simp only[HC,c,if_false]
   by_cases h:b=x.1
   .have:¬ b=k:=λe=>c (e.symm.trans h)
    simp[bU,h]
    subst h
    simp[this]
   .simp only[bU,List.find?_cons,beq_eq_false_iff_ne.2 h] at d ⊢
    exact d
def xS (n k:Nat) (J:Nat->Env->View->Prop) (T:Env) (H:View):Prop:=∃i,i+k=n/\J i T H
theorem bH.up {P:Program} {T:Env} {H:View} {c:SC} {Q:Exit->Env->View->Prop} {v:bB (T,H,Q)} (n:Nat) (J:Nat->Env->View->Prop) (b:J 0 T H)
  (d:∀i k T H,i+k=n->J i T H->wS P c T H λe T' H'=>oO e (∃a,a<k/\xS n a J T' H') (Q e T' H')):bH P c T H Q v:=
 bH.intro (λk T H=>xS n k J T H) n ⟨0,by omega,b⟩ λk T H ⟨i,f,g⟩=>d i k T H f g
theorem bC {n i k:Nat} {J:Nat->Env->View->Prop} {T:Env} {H:View} (d:i+k=n) (b:i<n) (c:J (i+1) T H):∃a,a<k/\xS n a J T H:=⟨k-1,by omega,i+1,by omega,c⟩
def owner:V->Option Nat
 | .sl id _ _ _=>some id
 | _=>none
def aJ (H:View) (u:V) (sz:Nat) (es:List (List V)):Prop:=
 (es=[]/\∃k,u=.emp k)∨(∃n,u=.sl n 0 es.length sz/\H n=.arr sz es)
theorem aJ.nil {H:View} {sz k:Nat} : aJ H (.emp k) sz []:=.inl ⟨rfl,k,rfl⟩
theorem aJ.len {H:View} {u:V} {sz:Nat} {es:List (List V)} (h:aJ H u sz es):dd u=some es.length:=by
 rcases h with ⟨rfl,k,rfl⟩ | ⟨n,rfl,_⟩<;>rfl
theorem aJ.live {H:View} {u:V} {sz:Nat} {es:List (List V)} (h:aJ H u sz es) {id:Nat} (a:owner u=some id):H id=.arr sz es/\u=.sl id 0 es.length sz:=by
 rcases h with ⟨rfl,k,rfl⟩ | ⟨n,rfl,b⟩
 .simp[owner] at a
 .simp[owner] at a;subst a;exact⟨b,rfl⟩
theorem aJ.keep {H H':View} {u:V} {sz:Nat} {es:List (List V)} (h:aJ H u sz es) (a:∀id,owner u=some id->H' id=H id):aJ H' u sz es:=by
 rcases h with ⟨rfl,k,rfl⟩ | ⟨n,rfl,b⟩
 .exact .inl ⟨rfl,k,rfl⟩
 .exact .inr ⟨n,rfl,by rw[a n rfl];exact b⟩
theorem aJ.fresh {H:View} {u:V} {sz m:Nat} {es:List (List V)} {o:cQ} (h:aJ H u sz es) (hm:H m=.dead):aJ (H.set m o) u sz es:=
 h.keep λid a=>by
  have:=(h.live a).1
  have e:id≠m:=by rintro rfl;rw[hm] at this;simp at this
  simp[View.set,e]
theorem aJ.ne {H:View} {u:V} {sz m:Nat} {es:List (List V)} (h:aJ H u sz es) (hm:H m=.dead):owner u≠some m:=λe=>by
 have:=(h.live e).1;rw[hm] at this;simp at this
theorem aJ.other {H:View} {u:V} {sz m:Nat} {es:List (List V)} {o:cQ} (h:aJ H u sz es) (hm:owner u≠some m):aJ (H.set m o) u sz es:=
 h.keep λid a=>by
  have e:id≠m:=by rintro rfl;exact hm a
  simp[View.set,e]
theorem aJ.new {H:View} {n sz:Nat} {es:List (List V)} : aJ (H.set n (.arr sz es)) (.sl n 0 es.length sz) sz es:=.inr ⟨n,rfl,by simp[View.set]⟩
theorem gv {H:View} {m z sz:Nat} {e:List V} : bc (View.set H m (.arr z [e])) (.sl m 0 1 sz)=some ([e],[m]):=by
 simp[bc,View.set]
def Left (H H':View) (u u':V):Prop:=∀id,H id≠.dead->owner u≠some id->H' id=H id/\owner u'≠some id
theorem jd {sz bytes:Nat} {u:V} {es xs:List (List V)} {H:View} {K:V->View->Prop} {w:bB (H,K)} (d:aJ H u sz es) (i:xs≠[]) (b:(xs.all λe=>e.length==sz&&e.all au)=true)
  (g:(es.length+xs.length)*bytes<aD) (c:es.length+xs.length<aD) (h:∀f H',aJ H' f sz (es++xs)->Left H H' u f->K f H'):jB sz bytes u xs H K w:=by
 have he:xs.isEmpty=false:=by cases xs with | nil=>exact absurd rfl i | cons=>rfl
 rcases d with ⟨rfl,k,rfl⟩ | ⟨n,rfl,j⟩
 .rw[nP _ _ _ _ _ _ _ he]
  refine⟨b,⟨by simpa using g,by simpa using c⟩,λm hm=>h _ _ ?_ ?_⟩
  .exact .inr ⟨m,rfl,by simp[View.set]⟩
  .intro id a _
   have e:id≠m:=by rintro rfl;exact a hm
   exact⟨by simp[View.set,e],by simp[owner,Ne.symm e]⟩
 .rw[pA _ _ _ _ _ _ _ _ _ _ he,j]
  refine⟨b,⟨by simp,rfl,g,c⟩,λm hm=>h _ _ ?_ ?_⟩
  .refine .inr ⟨m,by simp,by simp[View.set]⟩
  .intro id a d
   have e:id≠m:=by rintro rfl;exact a hm
   have l:id≠n:=by rintro rfl;exact d rfl
   exact⟨by simp[View.set,e,l],by simp[owner,Ne.symm e]⟩
theorem Left.refl {H:View} {u:V} : Left H H u u:=λ_ _ h=>⟨rfl,h⟩
theorem AQ {sz bytes:Nat} {u:V} {es xs:List (List V)} {H:View} {K:V->View->Prop} {w:bB (H,K)} (a:aJ H u sz es) (b:(xs.all λe=>e.length==sz&&e.all au)=true)
  (g:(es.length+xs.length)*bytes<aD) (c:es.length+xs.length<aD) (f:∀d H',aJ H' d sz (es++xs)->Left H H' u d->K d H'):jB sz bytes u xs H K w:=by
 cases xs with
 | nil =>
  have:=f u H (by simpa using a) .refl
  rcases a with ⟨rfl,k,rfl⟩ | ⟨n,rfl,h⟩
  .exact this
  .exact this
 | cons x xs=>exact jd a (by simp) b g c f
theorem dY.own {H:View} {u:V} {sz:Nat} {es:List (List V)} (h:aJ H u sz es) (a:∀e∈es,∀v∈e,Tree v):dY H u (.al es):=by
 rcases h with ⟨rfl,k,rfl⟩ | ⟨n,rfl,b⟩
 .exact λh _=>.emp k
 .have:=dY.sl (off:=0) (len:=es.length) (esz:=sz) b (by simp) a
  rwa [List.drop_zero,G9 (by simp)] at this
theorem dz.own {h:ah} {u:V} {sz:Nat} {es:List (List V)} {es':List (List V)} (b:aJ h.view u sz es) (a:es'.length=es.length) (hi:∀i,i<es.length->(es'.getD i []).length=(es.getD i []).length)
  (c:∀i j,i<es.length->j<(es'.getD i []).length->dz h ((es.getD i []).getD j .any) ((es'.getD i []).getD j .any)):dz h u (.al es'):=by
 rcases b with ⟨rfl,k,rfl⟩ | ⟨n,rfl,d⟩
 .have:es'=[]:=HM.1 (by simpa using a)
  subst this
  exact .emp k
 .exact .sl n 0 es.length sz sz es es' d (by simp) a (λi h=>by rw[Hy];exact hi i h) (λi j e f=>by rw[Hy];exact c i j e f)
theorem dz.ud {h:ah} {α:Type} {u:V} {sz:Nat} {l:List α} {f:α->Value} (b:aJ h.view u sz (l.map λx=>[V.val (f x)])):dz h u (.al (l.map λx=>[V.val (f x)])):=by
 refine dz.own b rfl (λi _=>rfl) (λi j hi a=>?_)
 simp only[G8] at hi
 have e:(l.map λx=>[V.val (f x)]).getD i []=[V.val (f l[i])]:=by simp[GQ,hi]
 rw[e] at a ⊢
 have:j=0:=by simp at a;omega
 subst this
 exact .val _
def gB (H H':View) (r:V):Prop:=∀id,H id≠.dead->H' id=H id/\owner r≠some id
theorem gB.emp {H:View} {k:Nat} : gB H H (.emp k):=λ_ _=>⟨rfl,by simp[owner]⟩
theorem gB.new {H:View} {n a b c:Nat} {o:cQ} (f:H n=.dead):gB H (H.set n o) (.sl n a b c):=λid d=>by
 have e:id≠n:=by rintro rfl;exact d f
 exact⟨by simp[View.set,e],by simp[owner,Ne.symm e]⟩
theorem aJ.left {H H':View} {u b x:V} {sz:Nat} {es:List (List V)} (h:aJ H x sz es) (c:Left H H' u b) (d:∀id,owner x=some id->owner u≠some id):aJ H' x sz es:=
 h.keep λid a=>(c id (by rw[(h.live a).1];simp) (d id a)).1
theorem aJ.ED {H H':View} {x r:V} {sz:Nat} {es:List (List V)} (h:aJ H x sz es) (b:gB H H' r):aJ H' x sz es:=
 h.keep λid a=>(b id (by rw[(h.live a).1];simp)).1
theorem set_set {H:View} {n:Nat} {a b:cQ} : View.set (View.set H n a) n b=View.set H n b:=by
 funext id;simp only[View.set];split<;>rfl
theorem dK {m b:Nat} {o x:cQ} (h:(if m=b then o else x)=.dead) (a:o≠.dead):m≠b/\x=.dead:=by
 split at h
 .exact absurd h a
 .rename_i e;exact⟨e,h⟩
theorem dS {z:Nat} {es:List (List V)} : cQ.arr z es≠.dead:=by simp
def iO (H:View):List V->List V->Prop
 | [],[]=>True
 | v::vs,t::ts=>dY H v t/\iO H vs ts
 | _,_=>False
theorem iO.len {H:View}:∀ {vs a:List V},iO H vs a->a.length=vs.length
 | [],[],_=>rfl
 | _::_,_::_,h=>by simp[iO.len h.2]
theorem iO.get {H:View}:∀ {vs a:List V},iO H vs a->∀i,i<vs.length->dY H (vs.getD i .any) (a.getD i .any)
 | [],[],_,i,hi=>by simp at hi
 | _::_,_::_,h,0,_=>h.1
 | _::_,_::_,h,i+1,hi=>iO.get h.2 i (by simpa using hi)
theorem av.CC {P:Program} {q:Bool} {f:FuncId} {H:View} {vs b:List V} {K:V->View->Prop} {v:bB (H,K)} {t:V} (d:ak P f b t) (a:ba P f=true) (e:nM t) (c:iO H vs b) (g:K t H):av P q f vs H K v:=
 av.borrow d a e c.len c.get g
theorem av.Fk {P:Program} {q:Bool} {f:FuncId} {H:View} {vs b:List V} {K:V->View->Prop} {v:bB (H,K)} {t:V} (d:aT P f b t) (a:ba P f=true) (c:iO H vs b) (e:K t H):av P q f vs H K v:=
 av.lq d a c.len c.get e
theorem dY.box {H:View} {q z:Nat} {e:List V} (a:H q=.arr z [e]) (b:∀v∈e,Tree v):dY H (.ptr q 0 0) (.aC e 0):=by
 rintro h rfl
 refine .ptr q 0 0 z [e] e a (by simp) (by simp) (λk c=>?_)
 simp only[HQ]
 have d:e.getD k .any=e[k]:=by simp[GQ,c]
 rw[d]
 exact .tree _ (b _ (G4 _))
theorem aJ.sl {H:View} {u:V} {sz:Nat} {es:List (List V)} (h:aJ H u sz es) (a:0<es.length):∃n,u=.sl n 0 es.length sz/\H n=.arr sz es:=by
 rcases h with ⟨rfl,_⟩ | h
 .simp at a
 .exact h
abbrev eK:=V × Nat × List (List V)
def aR (H:View) (L:List eK):Prop:=(∀x∈L,aJ H x.1 x.2.1 x.2.2)/\(L.filterMap λx=>owner x.1).Nodup
theorem aR.nil {H:View} : aR H []:=⟨λx a=>by simp at a,by simp⟩
theorem aR.head {H:View} {x:eK} {L:List eK} (h:aR H (x::L)):aJ H x.1 x.2.1 x.2.2:=h.1 x (by simp)
theorem aR.tail {H:View} {x:eK} {L:List eK} (h:aR H (x::L)):aR H L:=by
 refine⟨λy a=>h.1 y (by simp[a]),?_⟩
 have:=h.2
 simp only[HI] at this
 split at this
 .exact this
 .exact(HR.1 this).2
theorem aR.perm {H:View} {L a:List eK} (h:aR H L) (p:L.Perm a):aR H a:=
 ⟨λx b=>h.1 x (p.mem_iff.2 b),(p.filterMap _).nodup_iff.1 h.2⟩
theorem oL {α:Type}:∀(L:List α) (k:Nat) (a:k<L.length),L.Perm (L[k]::L.eraseIdx k)
 | x::L,0,_=>.refl _
 | x::L,k+1,a=>by
  have:=oL L k (by simpa using a)
  exact(this.cons x).trans (.swap _ _ _)
theorem aR.at {H:View} {L:List eK} (h:aR H L) (k:Nat) (a:k<L.length):aR H (L[k]::L.eraseIdx k):=
 h.perm (oL L k a)
theorem aR.off {H:View} {x:eK} {L:List eK} (h:aR H (x::L)) {id:Nat} (a:owner x.1=some id):∀y∈L,owner y.1≠some id:=by
 intro y b e
 have:=h.2
 simp only[HI,a,HR,HX,not_exists,not_and] at this
 exact this.1 y b e
theorem aR.live {H:View} {x:eK} {L:List eK} (h:aR H L) (b:x∈L) {id:Nat} (a:owner x.1=some id):H id≠.dead:=by
 rw[((h.1 x b).live a).1];simp
theorem aR.new {H:View} {L:List eK} (h:aR H L) {n:Nat} (b:H n=.dead) (sz:Nat) (es:List (List V)):aR (H.set n (.arr sz es)) ((.sl n 0 es.length sz,sz,es)::L):=by
 refine⟨λx a=>?_,?_⟩
 .rcases Hi.1 a with rfl | a
  .exact .new
  .exact(h.1 x a).fresh b
 .simp only[HI,owner,HR,HX,not_exists,not_and]
  exact⟨λx a e=>h.live a e b,h.2⟩
theorem aR.EZ {H H':View} {L:List eK} (h:aR H L) {u:V} {sz:Nat} {es:List (List V)} (c:aJ H' u sz es) (b:gB H H' u):aR H' ((u,sz,es)::L):=by
 refine⟨λx a=>?_,?_⟩
 .rcases Hi.1 a with rfl | a
  .exact c
  .exact(h.1 x a).ED b
 .cases hu:owner u with
  | none=>simp only[HI,hu];exact h.2
  | some id =>
   simp only[HI,hu,HR,HX,not_exists,not_and]
   exact⟨λx a e=>(b id (h.live a e)).2 hu,h.2⟩
theorem aR.fresh {H:View} {L:List eK} (h:aR H L) {n:Nat} (a:H n=.dead) {o:cQ} : aR (H.set n o) L:=
 ⟨λx b=>(h.1 x b).fresh a,h.2⟩
theorem aR.put {H:View} {L:List eK} {n k sz:Nat} {es es':List (List V)} (h:aR H ((.sl n 0 k sz,sz,es)::L)) (b:es'.length=es.length) (c:k=es.length):aR (H.set n (.arr sz es')) ((.sl n 0 k sz,sz,es')::L):=by
 refine⟨λx a=>?_,by simpa [HI,owner] using h.2⟩
 rcases Hi.1 a with rfl | a
 .exact .inr ⟨n,by simp[b,c],by simp[View.set]⟩
 .exact(h.1 x (by simp[a])).other (h.off rfl x a)
theorem aR.left {H H':View} {L:List eK} {u c:V} {sz:Nat} {es es':List (List V)} (h:aR H ((u,sz,es)::L)) (j:aJ H' c sz es') (g:Left H H' u c):aR H' ((c,sz,es')::L):=by
 have b:∀x∈L,∀id,owner x.1=some id->owner u≠some id:=λx a id d hu=>h.off hu x a d
 refine⟨λx a=>?_,?_⟩
 .rcases Hi.1 a with rfl | a
  .exact j
  .exact(h.1 x (by simp[a])).left g (b x a)
 .have i:=h.tail.2
  cases hu:owner c with
  | none=>simp only[HI,hu];exact i
  | some id =>
   simp only[HI,hu,HR,HX,not_exists,not_and]
   refine⟨λx a e=>?_,i⟩
   have f:=h.tail.live a e
   exact(g id f (b x a id e)).2 hu
theorem mf {sz bytes:Nat} {u:V} {es xs:List (List V)} {L:List eK} {H:View} {K:V->View->Prop} {w:bB (H,K)} (d:aR H ((u,sz,es)::L)) (b:(xs.all λe=>e.length==sz&&e.all au)=true)
  (g:(es.length+xs.length)*bytes<aD) (c:es.length+xs.length<aD) (h:∀a H',aR H' ((a,sz,es++xs)::L)->Left H H' u a->K a H'):jB sz bytes u xs H K w:=
 AQ d.head b g c λa H' i f=>h a H' (d.left i f) f
theorem aR.emp {H:View} {L:List eK} (h:aR H L) {k sz:Nat} : aR H ((.emp k,sz,[])::L):=by
 refine⟨λx a=>?_,by simpa [HI,owner] using h.2⟩
 rcases Hi.1 a with rfl | a
 .exact .nil
 .exact h.1 x a
theorem aJ.cells {H:View} {u:V} {sz:Nat} {es:List (List V)} (h:aJ H u sz es):V.cells u=[u]:=by
 rcases h with ⟨rfl,k,rfl⟩ | ⟨n,rfl,_⟩<;>rfl
theorem aJ.uq {H:View} {u:V} {sz:Nat} {es:List (List V)} (h:aJ H u sz es):au u=true:=by
 rcases h with ⟨rfl,k,rfl⟩ | ⟨n,rfl,_⟩<;>rfl
theorem aR.GN {H:View} {L:List eK} (h:aR H L) (i j:Nat) {a f s1 b k2 s2 t1 t2:Nat} {g k:List (List V)} (hi:L[i]?=some (.sl a 0 f s1,t1,g)) (l:L[j]?=some (.sl b 0 k2 s2,t2,k)) (c:i≠j):a≠b:=by
 rintro rfl
 obtain⟨d,hi⟩:=Ha.1 hi
 have e:=h.at i d
 rw[hi] at e
 exact e.off (id:=a) rfl _ (List.mem_eraseIdx_iff_getElem?.2 ⟨j,c.symm,l⟩) rfl
theorem Gg {α:Type} {a b c:α} {l:List α} : (a::b::c::l).Perm (b::c::a::l):=(List.Perm.swap _ _ _).trans ((List.Perm.swap _ _ _).cons _)
theorem aR.own {H:View} {L:List eK} (h:aR H L) (i:Nat) {u:V} {sz:Nat} {es:List (List V)} (hi:L[i]?=some (u,sz,es)):aJ H u sz es:=h.1 _ (HD hi)
theorem aR.is {H:View} {L:List eK} (h:aR H L) (i:Nat) {n k sz:Nat} {es:List (List V)} (hi:L[i]?=some (.sl n 0 k sz,sz,es)) (a:0<es.length):H n=.arr sz es:=by
 obtain⟨m,e,hm⟩:=(h.own i hi).sl a
 simp only[V.sl.injEq] at e
 rw[e.1];exact hm
theorem aR.Dq {H:View} {L:List eK} (h:aR H L) {b c:Nat} {es:List (V × V × Nat)} (a:H b=.map es c):∀x∈L,owner x.1≠some b:=λx d e=>by
 have:=((h.1 x d).live e).1
 rw[a] at this;simp at this
theorem aR.Fa {H:View} {L:List eK} (h:aR H L) {b c:Nat} {es:List (V × V × Nat)} (d:H b=.map es c) {o:cQ} : aR (H.set b o) L:=
 ⟨λx a=>(h.1 x a).other (h.Dq d x a),h.2⟩
theorem Left.map {H H':View} {u d:V} {b c:Nat} {es:List (V × V × Nat)} {sz:Nat} {xs:List (List V)} (f:Left H H' u d) (g:aJ H u sz xs) (a:H b=.map es c):H' b=.map es c:=by
 rw[(f b (by rw[a];simp) (λe=>by have:=(g.live e).1;rw[a] at this;simp at this)).1,a]
theorem qR {H:View} {L:List eK} (h:aR H L) (i:Nat) {n k sz b c:Nat} {xs:List (List V)} {es:List (V × V × Nat)} (hi:L[i]?=some (.sl n 0 k sz,sz,xs)) (a:H b=.map es c):n≠b:=by
 rintro rfl
 exact h.Dq a _ (HD hi) rfl
theorem av.DL {P:Program} {f:FuncId} {vs:List V} {H:View} {K:V->View->Prop} {w:bB (H,K)} {sz:Nat} {es:List (List V)} (b:ar P f vs H λr H'=>aJ H' r sz es/\gB H H' r) (c:∀r H',aJ H' r sz es->gB H H' r->K r H'):av P true f vs H K w:=by
 unfold av
 exact(b.mono λr H' h=>⟨λid a=>(h.2 id a).1,c r H' h.1 h.2⟩).CI
def nb:SC:=
 ai [af [cm 20 .lss 19 18],eY 20 (.exit 0),.block 1 (ai [af [ab 21 19,ab 3 21],af [ab 22 0,ab 23 3,((some 24),.op (.mW (.tmp 22) (.tmp 23))),bX 25 88 [24],db 26 25],bV 26 (ai [af [bq 2 false],.ret])]),af [aZ 27 .add 19 1,ab 19 27]]
def q4:SF:=⟨ai [af [bq 2 false],ai [.region false [⟨none,[ab 4 0,((some 5),.op (.qF .eql (.tmp 4) (.val (.val (.string ⟨#[]⟩))))),ab 6 5]⟩,⟨(some (6,false)),[ab 7 0,((some 8),.op (.oh (.tmp 7))),aZ 9 .gtr 8 20]⟩,⟨none,[fY 10 6 9,ab 11 10]⟩,⟨(some (11,false)),[ab 12 0,((some 13),.op (.mW (.tmp 12) (.val (.val (.int .i64 0))))),bX 14 87 [13],db 15 14]⟩,⟨none,[fY 16 11 15]⟩],bV 16 (ai [af [bq 2 false],.ret])],ai [af [ab 17 0,((some 18),.op (.oh (.tmp 17))),bR 19 0],fk 0 nb],af [bq 2 true],.ret],
 [.tmp 2],28⟩
theorem tA:aM aa 40 []=some q4:=by kernel_rfl
def mQ:SF:=⟨ai [af [bR 2 0,bR 3 0],af [bR 4 2],.block 0 (ai [af [ab 6 0,bg 7 6,aZ 8 .lss 7 2,ab 5 8],.cond (.tmp 5) (ai [af [bR 2 0,bR 3 4],.ret]) (ai [af [ab 10 0,((some 11),.op (.idx 1 (.tmp 10) (.val (.val (.int .i64 1))))),aG 12 11,bX 13 241 [12],ab 9 13],eY 9 (ai [af [ab 15 0,((some 16),.op (.idx 1 (.tmp 15) (.val (.val (.int .i64 1))))),aG 17 16,((some 18),.op (.arith .neq (.tmp 17) (.val (.val (.int .u8 92))))),ab 14 18],.cond (.tmp 14) (ai [af [bR 2 0,bR 3 3],.ret]) (ai [af [ab 20 0,bg 21 20,aZ 22 .lss 21 3,ab 19 22],.cond (.tmp 19) (ai [af [bR 2 0,bR 3 4],.ret]) (ai [af [ab 24 0,((some 25),.op (.idx 1 (.tmp 24) (.val (.val (.int .i64 2))))),aG 26 25,bX 27 242 [26],db 28 27,ab 23 28],.cond (.tmp 23) (ai [af [bR 2 0,bR 3 3],.ret]) (af [bR 4 3])])])])])]),ai [af [ab 29 0,bg 30 29,ab 31 4,cm 32 .leq 30 31],bV 32 (ai [af [bR 2 0,bR 3 4],.ret])],ai [af [ab 33 0,ab 34 4,b4 35 1 33 34,aG 36 35,((some 37),.op (.arith .neq (.tmp 36) (.val (.val (.int .u8 39)))))],bV 37 (ai [af [bR 2 0,bR 3 3],.ret])],af [ab 38 4,aZ 39 .add 38 1,ab 2 39,bR 3 0],.ret],
 [.tmp 2,.tmp 3],40⟩
theorem po:aM aa 203 []=some mQ:=by kernel_rfl
def ju:SF:=⟨ai [af [bq 2 false],ai [.region false [⟨none,[ab 5 0,((some 6),.op (.qF .eql (.tmp 5) (.val (.val (.string ⟨#[]⟩))))),ab 7 6]⟩,⟨(some (7,false)),[ab 8 0,((some 9),.op (.mW (.tmp 8) (.val (.val (.int .i64 0))))),((some 10),.op (.arith .neq (.tmp 9) (.val (.val (.int .u8 39)))))]⟩,⟨none,[fY 11 7 10]⟩],bV 11 (ai [af [bq 2 false],.ret])],af [ab 13 0,((some 14),.op (.df (.tmp 13))),bX 15 203 [14],ab 12 15,vi 16 0 12,vi 17 1 12,ab 3 16,ab 4 17],.region false [⟨none,[ab 18 4,aZ 19 .eql 18 0,ab 20 19]⟩,⟨(some (20,true)),[ab 21 3,ab 22 0,((some 23),.op (.oh (.tmp 22))),cm 24 .eql 21 23]⟩,⟨none,[jg 25 20 24,ab 2 25]⟩],.ret],
 [.tmp 2],26⟩
theorem pK:aM aa 148 [14]=some ju:=by kernel_rfl
def oX:SF:=⟨ai [af [bq 2 false],.region false [⟨none,[ab 3 0,bX 4 40 [3],ab 5 4]⟩,⟨(some (5,false)),[ab 6 0,bX 7 148 [6]]⟩,⟨none,[fY 8 5 7,ab 2 8]⟩],.ret],
 [.tmp 2],9⟩
theorem rL:aM aa 81 []=some oX:=by kernel_rfl
def mK:SF:=⟨ai [af [bq 2 false],af [ab 3 0,bX 4 40 [3],db 5 4,ab 2 5],.ret],
 [.tmp 2],6⟩
theorem px:aM aa 39 []=some mK:=by kernel_rfl
theorem nR (s:ByteArray):ej s ⟨#[]⟩=decide ((eD s).length=0):=by
 unfold ej
 rw[<-e9]
 have:(s.data.toList==([]:List UInt8))=decide (s.data.toList.length=0):=by
  cases s.data.toList<;>rfl
 show (s.data.toList==([]:List UInt8))=_
 rw[this]
 rfl
theorem Cv (s:ByteArray) (H:View):ar aa 40 [gs s] H λr _=>r=gb (fR (eD s)):=by
 refine ar.of mixed tA ?_
 repeat' (first | ((first|apply aj.dec|apply aj.eq|apply aj.ne|apply aj.split)<;>intro)|(simp(disch:=omega)only[↓wr,seval,wq,q4,e9,nR]))
 .rename_i h
  congr 2;simp[fR,h]
 .rename_i p h
  congr 2;simp[fR,show ¬ (eD s).length<=20 by omega]
 .rename_i p q
  cases e:eD s with
  | nil=>simp[e] at p
  | cons c l =>
   have f:=λd (g:d∈c::l)=>sn (s:=s) (c:=d) (by rw[e];exact g)
   have j:=f c (by simp)
   repeat' (first | ((first|apply aj.dec|apply aj.eq|apply aj.ne|apply aj.split)<;>intro)|(simp(disch:=omega)only[↓wr,seval,wq,e,Hd,e9]))
   refine av.pure (lV kM yT c j.1 j.2) ?_
   repeat' (first | ((first|apply aj.dec|apply aj.eq|apply aj.ne|apply aj.split)<;>intro)|(simp(disch:=omega)only[↓wr,seval,wq,e,Hd,e9]))
   .rename_i t
    rw[e] at p q
    refine bH.intro (λk T H'=>∃i:Nat,i+k=(c::l).length/\((c::l).take i).all qw=true/\T 0=gs s/\T 18=gi (c::l).length/\T 19=gi i) (c::l).length ?_ ?_
    .exact⟨0,by omega,by simp,rfl,rfl,rfl⟩
    .rintro k T H' ⟨i,v,hi,n,a,b⟩
     simp(disch:=omega)only[↓wr,seval,wq,nb,n,a,b,e9,e]
     apply aj.dec<;>intro u
     .simp only[G5] at u v q
      have o:(c::l)[i]?=some ((c::l)[i]'(by simp;omega)):=GR (by simp;omega)
      have hm:(c::l)[i]'(by simp;omega)∈c::l:=G4 _
      generalize (c::l)[i]'(by simp;omega)=d at o hm
      have m:=f d hm
      simp(disch:=omega)only[↓wr,seval,wq,n,a,b,e9,e,o]
      refine av.pure (lV kM Bp d m.1 m.2) ?_
      repeat' (first | ((first|apply aj.dec|apply aj.eq|apply aj.ne|apply aj.split)<;>intro)|(simp(disch:=omega)only[↓wr,seval,wq,n,a,b,e9,e,o]))
      .rename_i g
       refine⟨k-1,by omega,i+1,by omega,?_,by first | rfl | exact⟨rfl,rfl⟩⟩
       rw[Hn,o]
       simp only[Option.toList_some,List.all_append,hi,Ia,g,List.all_nil,Bool.and_self]
      .rename_i g
       congr 2
       have:(c::l).all qw=false:=by
        rw[List.all_eq_false];exact⟨d,hm,by simp[g]⟩
       simp only[fR,this,Bool.and_false]
     .simp(disch:=omega)only[↓wr,seval,wq,n,a,b]
      simp only[G5] at u v q
      rw[G9 (by simp;omega)] at hi
      congr 2
      simp only[fR,hi,G5]
      simp[t];omega
   .rename_i t
    congr 2;simp[fR,t]
theorem uf (s:ByteArray):ak aa 40 [gs s] (gb (fR (eD s))):=ak.val (oA s) (Cv s)
def fo (l:List Int):Int × Int:=
 if nt (l.getD 1 0)=true then (2,0) else if l.getD 1 0≠92 then (0,3) else if l.length<3 then (0,4) else if ry (l.getD 2 0)=true then (3,0) else (0,3)
def gK (l:List Int):Int × Int:=
 if l.length<2 then (0,4) else if (fo l).2≠0 then (0,(fo l).2) else if (l.length:Int)<=(fo l).1 then (0,4) else if l.getD (fo l).1.toNat 0≠39 then (0,3) else ((fo l).1+1,0)
theorem AH {l:List Int} {n:Int} (a:fo l=(n,0)) (b:¬ l.length<2):gK l=if (l.length:Int)<=n then (0,4) else if l.getD n.toNat 0≠39 then (0,3) else (n+1,0):=by
 rw[gK,GV b,a];simp
theorem vt {l:List Int} {e:Int} (a:fo l=(0,e)) (he:e≠0) (b:¬ l.length<2):gK l=(0,e):=by
 rw[gK,GV b,a];simp[he]
theorem zd (l:List Int) (hr:∀c∈l,0<=c/\c<=255) (H:View):ar aa 203 [.al (l.map λx=>[gy x])] H λr _=>r=.aA [gi (gK l).1,gi (gK l).2]:=by
 refine ar.of mixed po ?_
 simp(disch:=omega)only[↓wr,seval,wq,mQ]
 apply aj.dec<;>intro h
 .simp(disch:=omega)only[↓wr,seval,wq]
  rw[gK,GZ (by omega)]
 .have k:l[1]?=some (l[1]'(by omega)):=GR (by omega)
  have g1:l.getD 1 0=l[1]'(by omega):=by simp[GQ,k]
  have p:l[1]'(by omega)∈l:=G4 _
  generalize l[1]'(by omega)=b at k g1 p
  have s:=hr b p
  simp(disch:=omega)only[↓wr,seval,wq,GY,k]
  refine av.pure (lV kM BJ b s.1 s.2) ?_
  simp(disch:=omega)only[↓wr,seval,wq]
  apply aj.split<;>intro hp
  .have u:fo l=(2,0):=by rw[fo,GZ (by rw[g1];exact hp)]
   simp(disch:=omega)only[↓wr,seval,wq]
   have a:=AH u (by omega)
   apply aj.dec<;>intro n
   .simp(disch:=omega)only[↓wr,seval,wq]
    rw[a,GZ (by omega)]
   .rw[GV (by omega)] at a
    have g:l[2]?=some (l[2]'(by omega)):=GR (by omega)
    have g2:l.getD (2:Int).toNat 0=l[2]'(by omega):=by simp[GQ,g]
    generalize l[2]'(by omega)=c at g g2
    rw[g2] at a
    simp(disch:=omega)only[↓wr,seval,wq,GY,g]
    apply aj.ne<;>intro i
    .simp(disch:=omega)only[↓wr,seval,wq]
     rw[a,GZ i]
    .simp(disch:=omega)only[↓wr,↓reduceIte,wq,Nat.reduceEqDiff,Nat.reduceAdd,Nat.reduceLT,Nat.reduceLeDiff,Int.reduceNeg,Int.reduceToNat,reduceCtorEq]
     rw[a,GV (λq=>q i)]
  .simp(disch:=omega)only[↓wr,seval,wq,GY,k]
   apply aj.ne<;>intro m
   .simp(disch:=omega)only[↓wr,seval,wq]
    rw[vt (e:=3) (by rw[fo,GV (by rw[g1,hp];simp),GZ (by rw[g1];exact m)]) (by simp) (by omega)]
   .simp(disch:=omega)only[↓wr,seval,wq]
    apply aj.dec<;>intro v
    .simp(disch:=omega)only[↓wr,seval,wq]
     rw[vt (e:=4) (by rw[fo,GV (by rw[g1,hp];simp),GV (by rw[g1];exact λq=>q m),GZ (by omega)]) (by simp) (by omega)]
    .have g:l[2]?=some (l[2]'(by omega)):=GR (by omega)
     have g2:l.getD 2 0=l[2]'(by omega):=by simp[GQ,g]
     have t:l[2]'(by omega)∈l:=G4 _
     generalize l[2]'(by omega)=c at g g2 t
     have j:=hr c t
     have f:fo l=if ry c=true then (3,0) else (0,3):=by rw[fo,GV (by rw[g1,hp];simp),GV (by rw[g1];exact λq=>q m),GV (by omega),g2]
     simp(disch:=omega)only[↓wr,seval,wq,GY,g]
     refine av.pure (lV kM Em c j.1 j.2) ?_
     simp(disch:=omega)only[↓wr,seval,wq]
     apply aj.split<;>intro he
     .rw[GZ he] at f
      have a:=AH f (by omega)
      simp(disch:=omega)only[↓wr,seval,wq]
      apply aj.dec<;>intro n
      .simp(disch:=omega)only[↓wr,seval,wq]
       rw[a,GZ (by omega)]
      .rw[GV (by omega)] at a
       have o:l[3]?=some (l[3]'(by omega)):=GR (by omega)
       have g3:l.getD (3:Int).toNat 0=l[3]'(by omega):=by simp[GQ,o]
       generalize l[3]'(by omega)=d at o g3
       rw[g3] at a
       simp(disch:=omega)only[↓wr,seval,wq,GY,o]
       apply aj.ne<;>intro i
       .simp(disch:=omega)only[↓wr,seval,wq]
        rw[a,GZ i]
       .simp(disch:=omega)only[↓wr,↓reduceIte,wq,Nat.reduceEqDiff,Nat.reduceAdd,Nat.reduceLT,Nat.reduceLeDiff,Int.reduceNeg,Int.reduceToNat,reduceCtorEq]
        rw[a,GV (λq=>q i)]
     .rw[GV (by rw[he];simp)] at f
      simp(disch:=omega)only[↓wr,seval,wq]
      rw[vt f (by simp) (by omega)]
end
end Gv
