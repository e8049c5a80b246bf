/-
  Part 7 of the proof: what the machine does and what the functions answer.
  Conditions: those that each lemma names.
-/
import Derived.Test.YtiophifnkakjgaaGreatSGzC3F
set_option linter.unusedSimpArgs false
set_option linter.unusedVariables false
set_option maxRecDepth 100000
set_option maxHeartbeats 20000000
namespace Gv
open Go Go.Proofs
inductive du (h:Heap):V->V->Prop
 | val (v:Value):du h (.val v) (.val v)
 | emp (k:Nat):du h (.emp k) (.aL [])
 | sl (id off len esz z:Nat) (es es':List (List V)):h.view id=.arr z es->off+len<=es.length->es'.length=len ->
  (∀ i,i < len->(es'.getD i []).length=(es.getD (off+i) []).length) ->
  (∀ i j,i < len->j < (es'.getD i []).length->du h ((es.getD (off+i) []).getD j .any) ((es'.getD i []).getD j .any))->du h (.sl id off len esz) (.aL es')
 | agg (cs cs':List V):cs'.length=cs.length->(∀ i,i < cs.length->du h (cs.getD i .any) (cs'.getD i .any))->du h (.agg cs) (.agg cs')
 | aO (cs cs':List V):cs'.length=cs.length->(∀ i,i < cs.length->du h (cs.getD i .any) (cs'.getD i .any))->du h (.aO cs) (.aO cs')
theorem TE {h:Heap} {Z:Nat->Prop} {μ B:Mu} {F:View} {hp:Array Obj} (hr:dT Z μ hp (cat h F)) {v t:V} (fr:du h v t):∀ {x:Value},aw Z μ hp v x->aw (jr μ) B hp t x:=by
 have l:∀ id,h.view id≠.dead->cat h F id=h.view id:=λid D=>by simp only[cat];rw[Wv (eu D)]
 induction fr with
 | val v=>intro x d;cases d with | val _ s=>exact .val _ s
 | emp k=>intro x d;cases d with | emp _ a=>exact .iC a 0 (λ_=>rfl)
 | sl id off len esz z es es' hH hle hlen E _ m =>
  intro x d
  cases d with
  | oB _ _ _ a =>
   have:es'=[]:=XY.1 hlen
   subst this
   exact .iC a 0 (λ_=>rfl)
  | sl _ _ _ _ b o0 cap c e f hm C J K =>
   have o:=hr.obj id
   rw[l id (by rw[hH];simp),hH] at o
   obtain⟨rfl,_,G,H⟩:=o b o0 esz hm
   have d:∀ i,∃ ci:Nat->Value,∀ j,j < esz->i < len->cellAt hp b (o0+off * esz+i * esz+j)=some (ci j)/\aw Z μ hp ((es.getD (off+i) []).getD j .any) (ci j):=by
    intro i
    by_cases hi:i < len
    .obtain⟨ci,u⟩:=nG (n:=esz) (p:=λj x=>cellAt hp b (o0+off * esz+i * esz+j)=some x/\aw Z μ hp ((es.getD (off+i) []).getD j .any) x) (λj g=>by
      obtain⟨x,d,s⟩:=H (off+i) j (by omega) g
      rw[Xf,<-W7] at d
      exact⟨x,d,s⟩)
     exact⟨ci,λj g _=>u j g⟩
    .exact⟨λ_=>undef,λj _ h=>absurd h hi⟩
   obtain⟨I,q⟩:=Classical.axiomOfChoice d
   have r:∀ i,i < es'.length->(es'.getD i []).length=esz:=λi hi=>by rw[E i (by omega)];exact G _ (by omega)
   have:=aw.aL (Z:=jr μ) (μ:=B) (hp:=hp) es' b (o0+off * esz) esz cap I ⟨id,o0,esz,hm⟩ (by omega) r
    (λi j hi g=>(q i j g (by omega)).1) (λi j hi g=>m i j (by omega) (by rw[r i hi];exact g) (q i j g (by omega)).2)
   rw[hlen] at this
   exact this
 | agg cs w hlen _ m =>
  intro x d
  cases d with
  | agg _ y h1 A=>exact .agg _ _ (by omega) (λi hi=>m i (by omega) (A i (by omega)))
 | aO cs w hlen _ m =>
  intro x d
  cases d with
  | aO _ y h1 A=>exact .aO _ _ (by omega) (λi hi=>m i (by omega) (A i (by omega)))
def cd (P:Program) (f:FuncId) (vs:List V) (t:V):Prop :=
 ∀ Z μ (w:World) (xs:List Value),fO Z μ w.heap vs xs->(∀ b,Z b->b < w.heap.size) ->
  Calls P f xs.toArray w λe w'=>∃ x Z',e=.returned x/\(∀ ν,aw Z' ν w'.heap t x)/\ep w w'/\(∀ b,Z' b->w.heap.size<=b/\b < w'.heap.size)/\gh w.heap w'.heap (λ_=>False)
theorem cd.pure {P:Program} {f:FuncId} {vs:List V} {t:V} (h:cd P f vs t):az P f vs t:=by
 intro Z μ w xs a d
 refine(h Z μ w xs a d).mono ?_
 rintro e w' ⟨x,g,rfl,i,j,c,k⟩
 exact⟨x,λb=>Z b∨g b,rfl,λl=>(i l).mono ⟨λ_ h=>.inr h,λ_ _=>rfl,λ_ _ h=>h,fu.refl _⟩,j,λ_ h=>.inl h,λb m=>m.imp id (c b),k⟩
theorem cd.vR {P:Program} {f:FuncId} {vs:List V} {r t:V} {k:Heap} (m:∀ v∈vs,Tree v) (n:bC P f vs [] r k) (p:du k r t):cd P f vs t:=by
 intro Z μ w xs a q
 have c:fO Z (λ_=>none) w.heap vs xs:=⟨a.1,λi hi=>vV (a.2 i hi) (by
  simp only[Wo,Wp hi,WJ]
  exact m _ (WA _))⟩
 have g:dT Z (λ_=>none) w.heap (cat [] λ_=>.dead):=by
  rw[C2]
  exact⟨λ_=>trivial,λi j b o s y z _ h=>by simp at h,λid b o s h=>by simp at h,q,λid b o s h=>by simp at h⟩
 refine(n.2 Z _ _ w xs c g (λ_ _ _=>rfl)).mono ?_
 rintro e w' ⟨x,A,μ',rfl,u,l,hex,_⟩
 refine⟨x,jr μ',rfl,λB=>TE l p u,hex.same,?_,λb d _=>hex.frame b d (by rintro⟨_,_,_,h⟩;simp at h)⟩
 rintro b ⟨id,o,s,d⟩
 rcases hex.Cm _ _ _ _ d with h1 | ⟨_,h1 | ⟨_,_,_,h1⟩⟩
 .simp at h1
 .exact⟨h1,l.lt _ _ _ _ d⟩
 .simp at h1
theorem cd.of {P:Program} {f:FuncId} {vs:List V} {t:V} (b:∀ v∈vs,Tree v) (h:ao P f vs (λ_=>.dead) λr H'=>∀ a:Heap,a.view=H'->du a r t):cd P f vs t:=by
 obtain⟨r,a,c,_,d⟩:=h.2 [] Fp
 exact cd.vR b c (d a rfl)
theorem bC.uq {P:Program} {f:FuncId} {j vs:List V} {t:V} {h:Heap} (v:cd P f j t) (y:j.length=vs.length)
  (l:∀ i,i < vs.length->Fr h (vs.getD i .any) (j.getD i .any)):bC P f vs h t h:=by
 refine⟨Wz _,λZ μ F w xs c hr m=>?_⟩
 have n:fO (λb=>Z b∨jr μ b) μ w.heap j xs:=⟨by rw[y,c.1],λi hi=>CQ hr (l i (by omega)) (c.2 i (by omega))⟩
 have p:∀ b,(Z b∨jr μ b)->b < w.heap.size:=by
  rintro b (a | ⟨id,o,s,a⟩)
  .exact hr.cw b a
  .exact hr.lt _ _ _ _ a
 refine(v _ μ w xs n p).mono ?_
 rintro e w' ⟨x,u,rfl,z,q,d,k⟩
 have hm:ia Z (λb=>Z b∨u b) μ μ w.heap w'.heap:=⟨λ_ h=>.inl h,λb a=>k b (hr.cw b a) (λx=>x),λ_ _ h=>h,k.kU⟩
 refine⟨x,λb=>Z b∨u b,μ,rfl,(z μ).mono ⟨λ_ h=>.inr h,λ_ _=>rfl,λ_ _ h=>h,fu.refl _⟩,⟨λid=>(hr.obj id).mono hm rfl (λb o s g=>k b (hr.lt _ _ _ _ g) (λx=>x)),hr.inj,λid b o s g=>W4 (hr.lt _ _ _ _ g) q.size,λb a=>?_,λid b o s g r=>?_⟩,
  ⟨q,hm,λb a _=>k b a (λx=>x),λb a=>a.imp id (λh=>(d b h).1),λ_ _ _ _ h=>.inl h⟩,λ_ _=>rfl⟩
 .rcases a with a | a
  .exact W4 (hr.cw b a) q.size
  .exact(d b a).2
 .rcases r with a | a
  .exact hr.gR _ _ _ _ g a
  .have:=hr.lt _ _ _ _ g;have:=(d b a).1;omega
theorem aq.uq {P:Program} {q:Bool} {f:FuncId} {H:View} {vs c:List V} {K:V->View->Prop} {v:ct (H,K)} {t:V} (d:cd P f c t) (a:dw P f=true) (g:c.length=vs.length)
  (b:∀ i,i < vs.length->cg H (vs.getD i .any) (c.getD i .any)) (hk:K t H):aq P q f vs H K v:=by
 unfold aq
 cases q with
 | true=>exact⟨a,λh e=>⟨t,h,bC.uq d g (λi hi=>b i hi h e),λ_ _=>rfl,e ▸ hk⟩⟩
 | false =>
  refine⟨a,?_⟩
  rintro h rfl
  exact⟨t,h,bC.uq d g (λi hi=>b i hi h rfl),.refl _,hk⟩
noncomputable def nI (fz:V->Option V):List V->Option (List V)
 | []=>some []
 | v :: l=>match fz v,nI fz l with
  | some a,some b=>some (a :: b)
  | _,_=>none
noncomputable def Dp (fz:V->Option V):List (List V)->Option (List (List V))
 | []=>some []
 | v :: l=>match nI fz v,Dp fz l with
  | some a,some b=>some (a :: b)
  | _,_=>none
noncomputable def yj (H:View):Nat->V->Option V
 | 0,_=>none
 | k+1,v=>match v with
  | .val x=>some (.val x)
  | .emp _=>some (.aL [])
  | .sl id off len _=>match H id with
   | .arr _ es=>if off+len<=es.length then (Dp (yj H k) ((es.drop off).take len)).map .aL else none
   | _=>none
  | .agg cs=>(nI (yj H k) cs).map .agg
  | .aO cs=>(nI (yj H k) cs).map .aO
  | _=>none
theorem iA {c:V->Option V} : ∀ (l l':List V),nI c l=some l'->l'.length=l.length/\∀ i,i < l.length->c (l.getD i .any)=some (l'.getD i .any)
 | [],l',h=>by simp only[nI,Wu] at h;subst h;exact⟨rfl,λi hi=>by simp at hi⟩
 | v :: l,l',h=>by
  simp only[nI] at h
  split at h
  .rename_i a b h1 d
   simp only[Wu] at h;subst h
   obtain⟨g1,g2⟩:=iA l b d
   refine⟨by simp[g1],λi hi=>?_⟩
   cases i with
   | zero=>exact h1
   | succ i=>exact g2 i (by simpa using hi)
  .simp at h
theorem Dk {c:V->Option V} : ∀ (l l':List (List V)),Dp c l=some l'->l'.length=l.length/\∀ i,i < l.length->nI c (l.getD i [])=some (l'.getD i [])
 | [],l',h=>by simp only[Dp,Wu] at h;subst h;exact⟨rfl,λi hi=>by simp at hi⟩
 | v :: l,l',h=>by
  simp only[Dp] at h
  split at h
  .rename_i a b h1 d
   simp only[Wu] at h;subst h
   obtain⟨g1,g2⟩:=Dk l b d
   refine⟨by simp[g1],λi hi=>?_⟩
   cases i with
   | zero=>exact h1
   | succ i=>exact g2 i (by simpa using hi)
  .simp at h
theorem JZ (h:Heap):∀ (k:Nat) (v t:V),yj h.view k v=some t->du h v t
 | 0,v,t,a=>by simp[yj] at a
 | k+1,v,t,a=>by
  have b:=JZ h k
  simp only[yj] at a
  split at a
  .simp only[Wu] at a;subst a;exact .val _
  .simp only[Wu] at a;subst a;exact .emp _
  .rename_i id off len esz
   split at a
   .rename_i z es hH
    split at a
    .rename_i hle
     simp only[WB] at a
     obtain⟨es',he,rfl⟩:=a
     obtain⟨g1,g2⟩:=Dk _ _ he
     have hlen:es'.length=len:=by rw[g1];simp;omega
     have d:∀ i,i < len->((es.drop off).take len).getD i []=es.getD (off+i) []:=λi hi=>by
      simp[Wo,XI,hi]
     have g3:∀ i,i < len->nI (yj h.view k) (es.getD (off+i) [])=some (es'.getD i []):=λi hi=>by
      rw[<-d i hi];exact g2 i (by rw[<-g1,hlen];exact hi)
     exact .sl id off len esz z es es' hH hle hlen (λi hi=>(iA _ _ (g3 i hi)).1) (λi j hi e=>b _ _ ((iA _ _ (g3 i hi)).2 j (by rw[<-(iA _ _ (g3 i hi)).1];exact e)))
    .simp at a
   .simp at a
  .simp only[WB] at a
   obtain⟨l,c,rfl⟩:=a
   obtain⟨g1,g2⟩:=iA _ _ c
   exact .agg _ _ g1 (λi hi=>b _ _ (g2 i hi))
  .simp only[WB] at a
   obtain⟨l,c,rfl⟩:=a
   obtain⟨g1,g2⟩:=iA _ _ c
   exact .aO _ _ g1 (λi hi=>b _ _ (g2 i hi))
  .simp at a
noncomputable def Sw:Option (V × ES)->Option V
 | some (v,e)=>yj e.V 50 v
 | none=>none
noncomputable def rF (P:Program) (tab:List (FuncId × DF)) (ext:xF) (f:FuncId) (vs:List V):Option V :=
 Sw (F2 P tab ext (HT P tab ext 100000) f vs ⟨.nil,.nil,0,[]⟩)
theorem nR {P:Program} (hm:P.follows .mixedOrders=true) {tab:List (FuncId × DF)} {ext:xF} (b:pN P tab) (c:sn P ext) {f:FuncId} {vs:List V} {t:V} (a:∀ v∈vs,Tree v) (h:rF P tab ext f vs=some t) :
  cd P f vs t:=by
 unfold rF Sw at h
 split at h
 .rename_i v e hr
  obtain⟨h1,d,g,i,_⟩:=G0 b c (Le hm b c 100000) f vs _ v e [] hr ⟨by funext k;rfl,rfl⟩
  rw[i.1] at h
  exact cd.vR a g (JZ d 50 v t h)
 .simp at h
def vH (P:Program) (fs:List (FuncId × List Nat)):List (FuncId × DF):=fs.filterMap λf=>(Ge P f.1 f.2).map (f.1,·)
theorem r6 (P:Program) (a:List (FuncId × List Nat)):pN P (vH P a):=by
 intro p hp
 unfold vH at hp
 obtain⟨f,_,h⟩:=XR.1 hp
 simp only[WB] at h
 obtain⟨d,h1,rfl⟩:=h
 exact⟨f.2,h1⟩
structure ag.cP (g:ag):Prop where
 an:g.an.length<=24
 th:1<=g.ax.length
 ax:g.ax.length<=16
 V9:1<=g.rules.length
 rules:g.rules.length<=40
 lX:0<=g.start
 start:g.start < g.ax.length
 left:∀ r∈g.rules,0<=r.left/\r.left < g.ax.length
 right:∀ r∈g.rules,r.right.length<=6
 sym:∀ r∈g.rules,∀ s∈r.right,dZ g s=true
 prec:∀ r∈g.rules,-1<=r.prec/\r.prec < g.an.length
theorem EG {g:ag} : ∀ (l:List aW) (top:Int),jE g l top=true->top<=(g.ax.length:Int) - 1/\∀ r∈l,0<=r.left/\r.left < g.ax.length/\ju g r=true
 | [],top,h=>by simp[jE] at h;exact⟨by omega,λr hr=>by simp at hr⟩
 | r :: l,top,h=>by
  simp only[jE,WC,WH] at h
  obtain⟨⟨⟨h1,d⟩,a⟩,b⟩:=h
  obtain⟨e,k2⟩:=EG l _ b
  have f:r.left<=(if r.left > top then r.left else top):=by split <;> omega
  have i:top<=(if r.left > top then r.left else top):=by split <;> omega
  refine⟨by omega,λc hr=>?_⟩
  rcases WK.1 hr with rfl | hr
  .exact⟨h1,by omega,a⟩
  .exact k2 c hr
theorem bK {g:ag} (h:bq g=true):g.cP:=by
 simp only[bq,ly,mr,WC,WH] at h
 obtain⟨⟨⟨⟨⟨⟨⟨h1,_⟩,⟨b,c⟩,_⟩,d⟩,e⟩,f⟩,i⟩,j⟩:=h
 have k:=(EG _ _ j).2
 have a:∀ r∈g.rules,r.right.length<=6/\-1<=r.prec/\r.prec < g.an.length/\∀ s∈r.right,dZ g s=true:=λr hr=>by
  have:=(k r hr).2.2
  simp only[ju,WC,WH,WU,pB] at this
  exact⟨this.1.1.1,this.1.1.2,this.1.2,λs l=>(this.2 s l).1⟩
 exact⟨h1,b,c,d,e,f,i,λr hr=>⟨(k r hr).1,(k r hr).2.1⟩,λr hr=>(a r hr).1,λr hr=>(a r hr).2.2.2,λr hr=>⟨(a r hr).2.1,(a r hr).2.2.1⟩⟩
theorem ag.cP.neg {g:ag} (h:g.cP) {r:aW} (hr:r∈g.rules) {s:Int} (a:s∈r.right) (b:s < 0) : -1 - s < g.ax.length:=by
 have:=h.sym r hr s a
 simp only[dZ] at this
 rw[Ws (by omega)] at this
 simpa using this
abbrev bH (is:List Bool):List (List V):=is.map λx=>[gb x]
theorem yH {h:Heap} {id:Nat} {is:List Bool} (b:h.view id=.arr 1 (bH is)):du h (.sl id 0 is.length 1) (cB is):=by
 refine .sl id 0 is.length 1 1 (bH is) _ b (by simp) (by simp) (λi hi=>by simp) (λi j hi a=>?_)
 rw[Xk]
 have e:(bH is).getD i []=[gb is[i]]:=by simp[Wo,hi]
 rw[e] at a ⊢
 have:j=0:=by simp at a;omega
 subst this
 exact .val _
theorem Lp {H:View} {id n:Nat} {is:List Bool} (b:H id=.arr 1 (bH is)) (c:n=is.length):cg H (.sl id 0 n 1) (cB is):=by
 have d:∀ e∈bH is,∀ v∈e,Tree v:=by
  intro e he v b
  obtain⟨a,_,rfl⟩:=WQ.1 he
  rw[XB] at b
  subst b
  exact .val _
 have:=cg.sl (off:=0) (len:=n) (esz:=1) b (by simp[c]) d
 rwa [X1,WT (by simp[c])] at this
theorem Ew {is:List Bool} {i:Nat} (h:i < is.length):(bH is).getD i []=[gb is[i]]:=by simp[Wo,h]
theorem lu (is:List Bool) (i:Nat) (b:Bool):(bH is).set i [gb b]=bH (is.set i b):=by simp[Yr]
theorem Nl (n:Nat) (b:Bool):List.replicate n [gb b]=bH (List.replicate n b):=by simp
def iter {α:Type} (f:α->α):Nat->α->α
 | 0,x=>x
 | n+1,x=>iter f n (f x)
def fI (t:Bool) (is:List Bool) (r:aW):List Bool:=if hX r.right is t=true then is.set r.left.toNat true else is
def pt (g:ag) (t:Bool) (is:List Bool):List Bool:=g.rules.foldl (fI t) is
def cZ (g:ag):List Bool:=List.replicate g.ax.length false
def bm (g:ag) (t:Bool):List Bool:=if bq g=true then iter (pt g t) g.ax.length (cZ g) else []
theorem LF (t:Bool) (is:List Bool) (r:aW):(fI t is r).length=is.length:=by unfold fI;split <;> simp
def mark (is:List Bool) (s:Int):List Bool:=if s < 0 then is.set (-1 - s).toNat true else is
def oM (p is:List Bool) (r:aW):List Bool:=if (is.getD r.left.toNat false && hX r.right p true)=true then r.right.foldl mark is else is
def y0 (g:ag) (p is:List Bool):List Bool:=g.rules.foldl (oM p) is
def dy (g:ag):List Bool:=if bq g=true then iter (y0 g (bm g true)) g.ax.length ((cZ g).set g.start.toNat true) else []
theorem QO (is:List Bool) (s:Int):(mark is s).length=is.length:=by unfold mark;split <;> simp
theorem EN:∀ (l:List Int) (is:List Bool),(l.foldl mark is).length=is.length
 | [],_=>rfl
 | s :: l,is=>by rw[Xz,EN l,QO]
theorem PY (p is:List Bool) (r:aW):(oM p is r).length=is.length:=by unfold oM;split <;> simp[EN]
theorem Au {f:List Bool->List Bool} (a:∀ is,(f is).length=is.length):∀ (n:Nat) (is:List Bool),(iter f n is).length=is.length
 | 0,_=>rfl
 | n+1,is=>by rw[iter,Au a n,a]
theorem AT {α:Type} {f:List Bool->α->List Bool} (a:∀ is x,(f is x).length=is.length):∀ (l:List α) (is:List Bool),(l.foldl f is).length=is.length
 | [],_=>rfl
 | x :: l,is=>by rw[Xz,AT a l,a]
theorem ky {g:ag} (h:bq g=true) (t:Bool):(bm g t).length=g.ax.length:=by
 have a:∀ is,(pt g t is).length=is.length:=λis=>AT (LF t) _ _
 rw[bm,Wv h,Au a]
 simp[cZ]
noncomputable def xB:List (FuncId × DF):=vH Tryz.prog [(224,[]),(223,[]),(296,[]),(297,[])]
theorem sF:pN Tryz.prog xB:=r6 _ _
theorem Lw (P:Program):sn P (λ_ _ _=>none):=λ_ _ _ _ h=>by simp at h
def Ub (o:Option V) (b:Bool):Bool:=match o with
 | some (.val (.bool c))=>c == b
 | _=>false
theorem Uo {o:Option V} {b:Bool} (h:Ub o b=true):o=some (gb b):=by
 unfold Ub at h
 split at h
 .rw[Xw] at h;rw[h]
 .simp at h
noncomputable def yi (tab:List (FuncId × DF)) (f:FuncId) (p:Int->Bool):Bool:=(List.range 256).all λc=>Ub (rF Tryz.prog tab (λ_ _ _=>none) f [gy (c:Int)]) (p (c:Int))
theorem v8 {tab:List (FuncId × DF)} (b:pN Tryz.prog tab) {f:FuncId} {p:Int->Bool} (h:yi tab f p=true) (c:Int) (d:0<=c) (h1:c<=255):az Tryz.prog f [gy c] (gb (p c)):=by
 have:=WU.1 h c.toNat (by simp;omega)
 rw[show ((c.toNat:Nat):Int)=c by omega] at this
 exact(nR mixed b (Lw _) (by intro v a;simp at a;subst a;exact .val _) (Uo this)).pure
def x9 (c:Int):Bool:=decide (32<=c) && decide (c<=126) && c != 39 && c != 92
def Dx (c:Int):Bool:=c == 110 || c == 116 || c == 92 || c == 39
theorem MN:yi xB 223 uv=true:=by kernel_rfl
theorem PZ:yi xB 224 ou=true:=by kernel_rfl
theorem Ox:yi xB 296 x9=true:=by kernel_rfl
theorem Tp:yi xB 297 Dx=true:=by kernel_rfl
theorem E3 {s:ByteArray} {c:Int} (h:c∈fP s):0<=c/\c<=255:=by
 unfold fP at h
 obtain⟨b,_,rfl⟩:=WQ.1 h
 have:=b.toNat_lt
 omega
theorem On (s:ByteArray):gN s=(fP s).map λx=>[gy x]:=by simp[gN,fP]
noncomputable def K5:List (FuncId × DF):=vH Tryz.prog [(44,[]),(87,[]),(145,[]),(207,[]),(255,[]),(256,[]),(257,[]),(258,[]),(286,[]),(208,[]),(259,[]),(209,[]),(234,[]),(233,[]),(232,[]),(260,[]),(261,[]),(262,[]),(146,[]),(213,[]),(212,[]),(263,[]),(264,[]),(211,[]),(214,[]),(210,[]),(88,[1]),(149,[3]),(169,[]),(172,[]),(151,[4]),(216,[4]),(150,[2]),(170,[2]),(266,[3]),(147,[]),(215,[5]),(265,[]),(148,[])]
theorem MA:pN Tryz.prog K5:=r6 _ _
def Bc (l:List Int):V:=.aL (l.map λx=>[gy x])
theorem P6 (l:List Int):Tree (Bc l):=eK _ _ λx _ v a=>by simp at a;subst a;exact .val _
def rG (g:ag):V:=.aO [.agg (ak g),.val (.complex .f64 0 0),gi 0]
theorem Kq {l:List Int} {g:ag} (h:rF Tryz.prog K5 (λ_ _ _=>none) 44 [Bc l]=some (rG g)):cd Tryz.prog 44 [Bc l] (rG g) :=
 nR mixed MA (Lw _) (by intro v a;simp at a;subst a;exact P6 _) h
abbrev bQ (κ:Type):=List (κ × V × Nat)
def bV {κ:Type} (key:κ->Value) (m:bQ κ):List (V × V × Nat):=m.map λx=>(.val (key x.1),x.2.1,x.2.2)
def getM {κ:Type} [BEq κ] (m:bQ κ) (k:κ):Option V:=(m.find? λx=>k == x.1).map (·.2.1)
def bz {κ:Type} [BEq κ] (k:κ) (v:V) (c:Nat):bQ κ->bQ κ
 | []=>[(k,v,c)]
 | x :: r=>if k == x.1 then (k,v,x.2.2) :: r else x :: bz k v c r
structure Bg {κ:Type} [BEq κ] (P:Program) (kt:TypeId) (key:κ->Value):Prop where
 ty:∃ d,P.underlying kt=some d/\(∀ a b,Instr.sameNow d (key a) (key b)=some (a == b))/\(∀ a e,aP P (Instr.checkKey e 10000 kt (key a))=some ())
 bits:∀ a b,(a == b)=true->Instr.sameBits 10000 (key b) (key a)=true
theorem uJ {κ:Type} (key:κ->Value):∀ m:bQ κ,fN (bV key m)=some (m.map λx=>{ key:=key x.1,val:=.nilFunc,born:=x.2.2 })
 | []=>rfl
 | x :: r=>by
  have:=uJ key r
  simp only[bV] at this
  simp[bV,fN,cO,this]
def fC {κ:Type} [BEq κ] (k:κ):bQ κ->Option Nat
 | []=>none
 | x :: r=>if k == x.1 then some 0 else (fC k r).map (·+1)
theorem Aj {κ:Type} [BEq κ] {key:κ->Value} {d:TypeDesc} (h:∀ a b,Instr.sameNow d (key a) (key b)=some (a == b)) (k:κ):∀ (m:bQ κ) (i:Nat),
  Instr.findNow d (key k) (m.map λx=>{ key:=key x.1,val:=.nilFunc,born:=x.2.2 }) i=some ((fC k m).map λj=>(i+j,.nilFunc))
 | [],i=>rfl
 | x :: r,i=>by
  simp only[WZ,Instr.findNow,h,fC]
  cases hk:k == x.1 with
  | true=>simp
  | false =>
   simp only[Aj h k r (i+1),WR,if_false,Option.map_map]
   congr 2
   funext j
   simp only[Function.comp]
   congr 1
   omega
theorem xI {κ:Type} [BEq κ] {P:Program} {kt:TypeId} {key:κ->Value} (h:Bg P kt key) (k:κ) (e:Bool) (m:bQ κ):lG P kt (.val (key k)) e (bV key m)=some (fC k m):=by
 obtain⟨d,a,b,c⟩:=h.ty
 have hu:aP P (underlying kt)=some d:=cU a
 simp only[lG,cO,uJ,aI,c,WV]
 have:aP P (Instr.findKey kt (key k) (m.map λx=>{ key:=key x.1,val:=.nilFunc,born:=x.2.2 }))=some ((fC k m).map λj=>(0+j,.nilFunc)):=by
  unfold Instr.findKey
  rw[aI,hu,WV,Aj b]
  rfl
 rw[this]
 cases fC k m with
 | none=>rfl
 | some j=>simp
theorem we {P:Program} {kt:TypeId} {d:TypeDesc} (h:P.underlying kt=some d) (a:match d with | .int _ | .string | .bool=>True | _=>False) (e:Bool) (n:Nat) (v:Value):aP P (Instr.checkKey e (n+1) kt v)=some ():=by
 unfold Instr.checkKey
 rw[aI,cU h,WV]
 cases d <;> first | exact a.elim | rfl
theorem k5 {P:Program} {kt:TypeId} (k:IntKind) (h:P.underlying kt=some (.int k)):Bg P kt (Value.int k) where
 ty:=⟨_,h,λa b=>by simp[Instr.sameNow],λa e=>we h trivial e 9999 _⟩
 bits:=λa b c=>by
  have:a=b:=by simpa using c
  subst this
  simp[Instr.sameBits]
theorem vU {κ:Type} [BEq κ] {key:κ->Value} (k:κ):∀ m:bQ κ,match fC k m with
  | some i=>∃ x,m[i]?=some x/\(k == x.1)=true/\getM m k=some x.2.1/\(bV key m)[i]?=some (.val (key x.1),x.2.1,x.2.2)/\∀ v c,(bV key m).set i (.val (key k),v,x.2.2)=bV key (bz k v c m)/\(bz k v c m).length=m.length
  | none=>getM m k=none/\∀ v c,bV key m ++ [(.val (key k),v,c)]=bV key (bz k v c m)/\(bz k v c m).length=m.length+1
 | []=>⟨rfl,λv c=>⟨rfl,rfl⟩⟩
 | x :: r=>by
  have a:=vU (key:=key) k r
  simp only[fC]
  cases hk:k == x.1 with
  | true=>exact⟨x,rfl,hk,by simp[getM,hk],rfl,λv c=>by simp[bz,hk,bV]⟩
  | false =>
   simp only[WR,if_false]
   cases hi:fC k r with
   | some i =>
    rw[hi] at a
    obtain⟨y,h1,b,d,e,f⟩:=a
    refine⟨y,by simpa using h1,b,by simpa [getM,hk] using d,by simpa [bV] using e,λv c=>?_⟩
    obtain⟨g1,g2⟩:=f v c
    exact⟨by simp only[bV] at g1 ⊢;simp[bz,hk,g1],by simp[bz,hk,g2]⟩
   | none =>
    rw[hi] at a
    refine⟨by simpa [getM,hk] using a.1,λv c=>?_⟩
    obtain⟨g1,g2⟩:=a.2 v c
    exact⟨by simp only[bV] at g1 ⊢;simp[bz,hk,g1],by simp[bz,hk,g2]⟩
section
variable {P:Program} {T:Env} {H:View} {κ:Type} [BEq κ] {key:κ->Value} {kt et t ty:TypeId}
theorem zm {K:V->View->Prop} {w:ct (T,H,K)} {x i:Operand} {z:V} {id c:Nat} {m:bQ κ} {k:κ} (hm:dR P t=some (kt,et)) (d:zeroV P et=some z) (hk:Bg P kt key)
  (e:ev T x=.mp id) (hi:ev T i=.val (key k)) (hH:H id=.map (bV key m) c) (h:K ((getM m k).getD z) H):iZ P (.lookup t x i false) ty T H K w:=by
 intro n _
 have f:=xI hk k (bV key m).isEmpty m
 have a:=vU (key:=key) k m
 refine⟨(getM m k).getD z,.none,[id],?_,h⟩
 simp only[sI,bR,oper,fc,hm,d,e,hi,hH,f]
 cases b:fC k m with
 | some j =>
  rw[b] at a
  obtain⟨y,h1,o,g,l,_⟩:=a
  simp[l,g]
 | none =>
  rw[b] at a
  simp[a.1]
theorem Sj {K:V->View->Prop} {w:ct (T,H,K)} {x i:Operand} {z:V} {id c:Nat} {m:bQ κ} {k:κ} (hm:dR P t=some (kt,et)) (d:zeroV P et=some z) (hk:Bg P kt key)
  (e:ev T x=.mp id) (hi:ev T i=.val (key k)) (hH:H id=.map (bV key m) c) (h:K (.aO [(getM m k).getD z,.val (.bool (getM m k).isSome)]) H):iZ P (.lookup t x i true) ty T H K w:=by
 intro n _
 have f:=xI hk k (bV key m).isEmpty m
 have a:=vU (key:=key) k m
 refine⟨_,.none,[id],?_,h⟩
 simp only[sI,bR,oper,fc,hm,d,e,hi,hH,f]
 cases b:fC k m with
 | some j =>
  rw[b] at a
  obtain⟨y,h1,o,g,l,_⟩:=a
  simp[l,g]
 | none =>
  rw[b] at a
  simp[a.1]
theorem RM (hk:Bg P kt key) (k a:κ) (h:(k == a)=true):sameKey (.val (key a)) (.val (key k))=true:=by
 simp only[sameKey,cO];exact hk.bits _ _ h
theorem uk {K:V->View->Prop} {w:ct (T,H,K)} {x i y:Operand} {id c:Nat} {m:bQ κ} {k:κ} {v:V} (hm:dR P t=some (kt,et)) (hk:Bg P kt key)
  (d:ev T x=.mp id) (hi:ev T i=.val (key k)) (e:ev T y=v) (hH:H id=.map (bV key m) c)
  (h:∀ g,K .any (H.set id (.map (bV key (bz k v c m)) g))):iZ P (.mapUpdate t x i y) ty T H K w:=by
 intro n _
 have a:=xI hk k false m
 have b:=vU (key:=key) k m
 cases f:fC k m with
 | some j =>
  rw[f] at b a
  obtain⟨z,h1,l,q,o,p⟩:=b
  refine⟨.any,.eP id (.map ((bV key m).set j (.val (key k),v,z.2.2)) c),[id],?_,?_⟩
  .simp only[sI,bR,oper,gC,hm,d,hi,e,hH,a,o,RM hk k z.1 l,if_true]
  .rw[(p v c).1];exact h c
 | none =>
  rw[f] at b a
  refine⟨.any,.eP id (.map (bV key m ++ [(.val (key k),v,c)]) (c+1)),[id],?_,?_⟩
  .simp only[sI,bR,oper,gC,hm,d,hi,e,hH,a]
  .rw[(b.2 v c).1];exact h (c+1)
theorem Uc {P:Program} {T:Env} {H:View} {t ty:TypeId} {x i y:Operand} {K:V->View->Prop} {w:ct (T,H,K)} : iZ P (.insert t x i y) ty T H K w=iZ P (.mapUpdate t x i y) ty T H K w:=propext Iff.rfl
omit [BEq κ] in
theorem UJ {K:V->View->Prop} {w:ct (T,H,K)} {x:Operand} {id c:Nat} {m:bQ κ} (hm:dR P t=some (kt,et)) (d:ev T x=.mp id) (hH:H id=.map (bV key m) c) (h:K (bU m.length) H) :
  iZ P (.call { callee:=.builtin .len,args:=#[x],argTypes:=#[t] }) ty T H K w:=by
 intro n _
 have hu:∃ a b,P.underlying t=some (.map a b):=by
  unfold dR at hm
  split at hm
  .rename_i a b h1;exact⟨a,b,h1⟩
  .simp at hm
 obtain⟨a,b,hu⟩:=hu
 refine⟨bU m.length,.none,[id],?_,h⟩
 have e:(bV key m).length=m.length:=by simp[bV]
 simp only[sI,bR,oper,XN,WD,WW,ue,hu,d,hH,e]
 simp[hu,d,hH,e,ue]
end
theorem kh {κ:Type} [BEq κ] [LawfulBEq κ] (k a:κ) (v:V) (c:Nat):∀ m:bQ κ,getM (bz k v c m) a=if a == k then some v else getM m a
 | []=>by
  by_cases h:a=k
  .subst h;simp[bz,getM]
  .simp[bz,getM,h]
 | x :: r=>by
  have b:=kh k a v c r
  simp only[bz]
  by_cases hk:k=x.1
  .by_cases h:a=k
   .subst h;simp[hk,getM]
   .have:¬ a=x.1:=λe=>h (e.trans hk.symm)
    simp[hk,getM,this]
  .simp only[Xw,hk,if_false]
   by_cases h:a=x.1
   .have:¬ a=k:=λe=>hk (e.symm.trans h)
    simp[getM,h]
    subst h
    simp[this]
   .simp only[getM,List.find?_cons,beq_eq_false_iff_ne.2 h] at b ⊢
    exact b
def eA {κ β:Type} [BEq κ] (a:List (κ × β)) (k:κ):Option β:=(a.find? λx=>k == x.1).map (·.2)
def kD {κ β:Type} [BEq κ] (k:κ) (v:β):List (κ × β)->List (κ × β)
 | []=>[(k,v)]
 | x :: r=>if k == x.1 then (k,v) :: r else x :: kD k v r
def nN {κ β:Type} (encV:β->V):List (κ × β)->bQ κ->Prop
 | [],[]=>True
 | x :: a,y :: m=>y.1=x.1/\y.2.1=encV x.2/\nN encV a m
 | _,_=>False
theorem nN.get {κ β:Type} [BEq κ] {encV:β->V} (k:κ):∀ {a:List (κ × β)} {m:bQ κ},nN encV a m->getM m k=(eA a k).map encV
 | [],[],_=>rfl
 | x :: a,y :: m,⟨h1,c,d⟩=>by
  have b:=nN.get k d
  simp only[getM,eA,List.find?_cons,h1] at b ⊢
  cases k == x.1 with
  | true=>simp[c]
  | false=>simpa using b
theorem nN.put {κ β:Type} [BEq κ] {encV:β->V} (k:κ) (v:β) (c:Nat):∀ {a:List (κ × β)} {m:bQ κ},nN encV a m->nN encV (kD k v a) (bz k (encV v) c m)
 | [],[],_=>⟨rfl,rfl,trivial⟩
 | x :: a,y :: m,⟨h1,d,b⟩=>by
  have e:=nN.put k v c b
  simp only[kD,bz,h1]
  cases k == x.1 with
  | true=>exact⟨rfl,rfl,b⟩
  | false=>exact⟨h1,d,e⟩
theorem nN.len {κ β:Type} {encV:β->V} : ∀ {a:List (κ × β)} {m:bQ κ},nN encV a m->m.length=a.length
 | [],[],_=>rfl
 | x :: a,y :: m,⟨_,_,b⟩=>by simp[nN.len b]
theorem G6 {κ β:Type} [BEq κ] [LawfulBEq κ] (k b:κ) (v:β):∀ a:List (κ × β),eA (kD k v a) b=if b == k then some v else eA a b
 | []=>by
  by_cases h:b=k
  .subst h;simp[kD,eA]
  .simp[kD,eA,h]
 | x :: r=>by
  have c:=G6 k b v r
  simp only[kD]
  by_cases hk:k=x.1
  .by_cases h:b=k
   .subst h;simp[hk,eA]
   .have:¬ b=x.1:=λe=>h (e.trans hk.symm)
    simp[hk,eA,this]
  .simp only[Xw,hk,if_false]
   by_cases h:b=x.1
   .have:¬ b=k:=λe=>hk (e.symm.trans h)
    simp[eA,h]
    subst h
    simp[this]
   .simp only[eA,List.find?_cons,beq_eq_false_iff_ne.2 h] at c ⊢
    exact c
def Is (n k:Nat) (J:Nat->Env->View->Prop) (T:Env) (H:View):Prop:=∃ i,i+k=n/\J i T H
theorem bk.up {P:Program} {T:Env} {H:View} {c:SC} {Q:Exit->Env->View->Prop} {v:ct (T,H,Q)} (n:Nat) (J:Nat->Env->View->Prop) (d:J 0 T H)
  (f:∀ i k T H,i+k=n->J i T H->wS P c T H λe a H'=>Ag e (∃ b,b < k/\Is n b J a H') (Q e a H')):bk P c T H Q v :=
 bk.intro (λk T H=>Is n k J T H) n ⟨0,by omega,d⟩ λk T H ⟨i,hk,g⟩=>f i k T H hk g
theorem aJ {n i k:Nat} {J:Nat->Env->View->Prop} {T:Env} {H:View} (hk:i+k=n) (b:i < n) (c:J (i+1) T H):∃ a,a < k/\Is n a J T H:=⟨k - 1,by omega,i+1,by omega,c⟩
def owner:V->Option Nat
 | .sl id _ _ _=>some id
 | _=>none
def aH (H:View) (u:V) (sz:Nat) (es:List (List V)):Prop :=
 (es=[]/\∃ k,u=.emp k)∨(∃ n,u=.sl n 0 es.length sz/\H n=.arr sz es)
theorem aH.nil {H:View} {sz k:Nat} : aH H (.emp k) sz []:=.inl ⟨rfl,k,rfl⟩
theorem aH.len {H:View} {u:V} {sz:Nat} {es:List (List V)} (h:aH H u sz es):cT u=some es.length:=by
 rcases h with ⟨rfl,k,rfl⟩ | ⟨n,rfl,_⟩ <;> rfl
theorem aH.live {H:View} {u:V} {sz:Nat} {es:List (List V)} (h:aH H u sz es) {id:Nat} (a:owner u=some id):H id=.arr sz es/\u=.sl id 0 es.length sz:=by
 rcases h with ⟨rfl,k,rfl⟩ | ⟨n,rfl,b⟩
 .simp[owner] at a
 .simp[owner] at a;subst a;exact⟨b,rfl⟩
theorem aH.keep {H H':View} {u:V} {sz:Nat} {es:List (List V)} (h:aH H u sz es) (hk:∀ id,owner u=some id->H' id=H id):aH H' u sz es:=by
 rcases h with ⟨rfl,k,rfl⟩ | ⟨n,rfl,a⟩
 .exact .inl ⟨rfl,k,rfl⟩
 .exact .inr ⟨n,rfl,by rw[hk n rfl];exact a⟩
theorem aH.fresh {H:View} {u:V} {sz m:Nat} {es:List (List V)} {o:bN} (h:aH H u sz es) (hm:H m=.dead):aH (H.set m o) u sz es :=
 h.keep λid a=>by
  have:=(h.live a).1
  have e:id≠m:=by rintro rfl;rw[hm] at this;simp at this
  simp[View.set,e]
theorem aH.ne {H:View} {u:V} {sz m:Nat} {es:List (List V)} (h:aH H u sz es) (hm:H m=.dead):owner u≠some m:=λe=>by
 have:=(h.live e).1;rw[hm] at this;simp at this
theorem aH.other {H:View} {u:V} {sz m:Nat} {es:List (List V)} {o:bN} (h:aH H u sz es) (hm:owner u≠some m):aH (H.set m o) u sz es :=
 h.keep λid a=>by
  have e:id≠m:=by rintro rfl;exact hm a
  simp[View.set,e]
theorem aH.new {H:View} {n sz:Nat} {es:List (List V)} : aH (H.set n (.arr sz es)) (.sl n 0 es.length sz) sz es:=.inr ⟨n,rfl,by simp[View.set]⟩
theorem bY {H:View} {m z sz:Nat} {e:List V} : bD (View.set H m (.arr z [e])) (.sl m 0 1 sz)=some ([e],[m]):=by
 simp[bD,View.set]
def Left (H H':View) (u u':V):Prop:=∀ id,H id≠.dead->owner u≠some id->H' id=H id/\owner u'≠some id
theorem kT {sz bytes:Nat} {u:V} {es xs:List (List V)} {H:View} {K:V->View->Prop} {w:ct (H,K)} (d:aH H u sz es) (g:xs≠[]) (b:(xs.all λe=>e.length == sz && e.all aE)=true)
  (f:(es.length+xs.length) * bytes < aD) (c:es.length+xs.length < aD) (hk:∀ u' H',aH H' u' sz (es ++ xs)->Left H H' u u'->K u' H'):nS sz bytes u xs H K w:=by
 have he:xs.isEmpty=false:=by cases xs with | nil=>exact absurd rfl g | cons=>rfl
 rcases d with ⟨rfl,k,rfl⟩ | ⟨n,rfl,h⟩
 .rw[yI _ _ _ _ _ _ _ he]
  refine⟨b,⟨by simpa using f,by simpa using c⟩,λm hm=>hk _ _ ?_ ?_⟩
  .exact .inr ⟨m,rfl,by simp[View.set]⟩
  .intro id a _
   have e:id≠m:=by rintro rfl;exact a hm
   exact⟨by simp[View.set,e],by simp[owner,Ne.symm e]⟩
 .rw[wg _ _ _ _ _ _ _ _ _ _ he,h]
  refine⟨b,⟨by simp,rfl,f,c⟩,λm hm=>hk _ _ ?_ ?_⟩
  .refine .inr ⟨m,by simp,by simp[View.set]⟩
  .intro id a d
   have e:id≠m:=by rintro rfl;exact a hm
   have i:id≠n:=by rintro rfl;exact d rfl
   exact⟨by simp[View.set,e,i],by simp[owner,Ne.symm e]⟩
theorem Left.refl {H:View} {u:V} : Left H H u u:=λ_ _ h=>⟨rfl,h⟩
theorem iv {sz bytes:Nat} {u:V} {es xs:List (List V)} {H:View} {K:V->View->Prop} {w:ct (H,K)} (a:aH H u sz es) (b:(xs.all λe=>e.length == sz && e.all aE)=true)
  (d:(es.length+xs.length) * bytes < aD) (c:es.length+xs.length < aD) (hk:∀ u' H',aH H' u' sz (es ++ xs)->Left H H' u u'->K u' H'):nS sz bytes u xs H K w:=by
 cases xs with
 | nil =>
  have:=hk u H (by simpa using a) .refl
  rcases a with ⟨rfl,k,rfl⟩ | ⟨n,rfl,f⟩
  .exact this
  .exact this
 | cons x xs=>exact kT a (by simp) b d c hk
theorem cg.own {H:View} {u:V} {sz:Nat} {es:List (List V)} (h:aH H u sz es) (a:∀ e∈es,∀ v∈e,Tree v):cg H u (.aL es):=by
 rcases h with ⟨rfl,k,rfl⟩ | ⟨n,rfl,b⟩
 .exact λh _=>.emp k
 .have:=cg.sl (off:=0) (len:=es.length) (esz:=sz) b (by simp) a
  rwa [X1,WT (by simp)] at this
theorem du.own {h:Heap} {u:V} {sz:Nat} {es:List (List V)} {es':List (List V)} (b:aH h.view u sz es) (a:es'.length=es.length) (hi:∀ i,i < es.length->(es'.getD i []).length=(es.getD i []).length)
  (c:∀ i j,i < es.length->j < (es'.getD i []).length->du h ((es.getD i []).getD j .any) ((es'.getD i []).getD j .any)):du h u (.aL es'):=by
 rcases b with ⟨rfl,k,rfl⟩ | ⟨n,rfl,d⟩
 .have:es'=[]:=XY.1 (by simpa using a)
  subst this
  exact .emp k
 .exact .sl n 0 es.length sz sz es es' d (by simp) a (λi h=>by rw[Xk];exact hi i h) (λi j h1 e=>by rw[Xk];exact c i j h1 e)
theorem du.DJ {h:Heap} {α:Type} {u:V} {sz:Nat} {l:List α} {f:α->Value} (b:aH h.view u sz (l.map λx=>[V.val (f x)])):du h u (.aL (l.map λx=>[V.val (f x)])):=by
 refine du.own b rfl (λi _=>rfl) (λi j hi a=>?_)
 simp only[WG] at hi
 have e:(l.map λx=>[V.val (f x)]).getD i []=[V.val (f l[i])]:=by simp[Wo,hi]
 rw[e] at a ⊢
 have:j=0:=by simp at a;omega
 subst this
 exact .val _
def cM (H H':View) (r:V):Prop:=∀ id,H id≠.dead->H' id=H id/\owner r≠some id
theorem cM.emp {H:View} {k:Nat} : cM H H (.emp k):=λ_ _=>⟨rfl,by simp[owner]⟩
theorem cM.new {H:View} {n a b c:Nat} {o:bN} (f:H n=.dead):cM H (H.set n o) (.sl n a b c):=λid d=>by
 have e:id≠n:=by rintro rfl;exact d f
 exact⟨by simp[View.set,e],by simp[owner,Ne.symm e]⟩
theorem aH.left {H H':View} {u u' x:V} {sz:Nat} {es:List (List V)} (h:aH H x sz es) (b:Left H H' u u') (c:∀ id,owner x=some id->owner u≠some id):aH H' x sz es :=
 h.keep λid a=>(b id (by rw[(h.live a).1];simp) (c id a)).1
theorem aH.Uz {H H':View} {x r:V} {sz:Nat} {es:List (List V)} (h:aH H x sz es) (b:cM H H' r):aH H' x sz es :=
 h.keep λid a=>(b id (by rw[(h.live a).1];simp)).1
theorem set_set {H:View} {n:Nat} {a b:bN} : View.set (View.set H n a) n b=View.set H n b:=by
 funext id;simp only[View.set];split <;> rfl
theorem dg {m b:Nat} {o x:bN} (h:(if m=b then o else x)=.dead) (a:o≠.dead):m≠b/\x=.dead:=by
 split at h
 .exact absurd h a
 .rename_i e;exact⟨e,h⟩
theorem dG {z:Nat} {es:List (List V)} : bN.arr z es≠.dead:=by simp
def pF (H:View):List V->List V->Prop
 | [],[]=>True
 | v :: vs,t :: ts=>cg H v t/\pF H vs ts
 | _,_=>False
theorem pF.len {H:View} : ∀ {vs a:List V},pF H vs a->a.length=vs.length
 | [],[],_=>rfl
 | _ :: _,_ :: _,h=>by simp[pF.len h.2]
theorem pF.get {H:View} : ∀ {vs a:List V},pF H vs a->∀ i,i < vs.length->cg H (vs.getD i .any) (a.getD i .any)
 | [],[],_,i,hi=>by simp at hi
 | _ :: _,_ :: _,h,0,_=>h.1
 | _ :: _,_ :: _,h,i+1,hi=>pF.get h.2 i (by simpa using hi)
theorem aq.tQ {P:Program} {q:Bool} {f:FuncId} {H:View} {vs b:List V} {K:V->View->Prop} {v:ct (H,K)} {t:V} (d:az P f b t) (a:dw P f=true) (e:x8 t) (c:pF H vs b) (hk:K t H):aq P q f vs H K v :=
 aq.borrow d a e c.len c.get hk
theorem aq.iM {P:Program} {q:Bool} {f:FuncId} {H:View} {vs b:List V} {K:V->View->Prop} {v:ct (H,K)} {t:V} (d:cd P f b t) (a:dw P f=true) (c:pF H vs b) (hk:K t H):aq P q f vs H K v :=
 aq.uq d a c.len c.get hk
theorem cg.box {H:View} {q z:Nat} {e:List V} (a:H q=.arr z [e]) (b:∀ v∈e,Tree v):cg H (.ptr q 0 0) (.aN e 0):=by
 rintro h rfl
 refine .ptr q 0 0 z [e] e a (by simp) (by simp) (λk hk=>?_)
 simp only[Xx]
 have c:e.getD k .any=e[k]:=by simp[Wo,hk]
 rw[c]
 exact .tree _ (b _ (WA _))
theorem aH.sl {H:View} {u:V} {sz:Nat} {es:List (List V)} (h:aH H u sz es) (a:0 < es.length):∃ n,u=.sl n 0 es.length sz/\H n=.arr sz es:=by
 rcases h with ⟨rfl,_⟩ | h
 .simp at a
 .exact h
abbrev ed:=V × Nat × List (List V)
def bu (H:View) (L:List ed):Prop:=(∀ x∈L,aH H x.1 x.2.1 x.2.2)/\(L.filterMap λx=>owner x.1).Nodup
theorem bu.nil {H:View} : bu H []:=⟨λx a=>by simp at a,by simp⟩
theorem bu.head {H:View} {x:ed} {L:List ed} (h:bu H (x :: L)):aH H x.1 x.2.1 x.2.2:=h.1 x (by simp)
theorem bu.tail {H:View} {x:ed} {L:List ed} (h:bu H (x :: L)):bu H L:=by
 refine⟨λy a=>h.1 y (by simp[a]),?_⟩
 have:=h.2
 simp only[XM] at this
 split at this
 .exact this
 .exact(Xq.1 this).2
theorem bu.perm {H:View} {L a:List ed} (h:bu H L) (p:L.Perm a):bu H a :=
 ⟨λx b=>h.1 x (p.mem_iff.2 b),(p.filterMap _).nodup_iff.1 h.2⟩
theorem zl {α:Type} : ∀ (L:List α) (k:Nat) (hk:k < L.length),L.Perm (L[k] :: L.eraseIdx k)
 | x :: L,0,_=>.refl _
 | x :: L,k+1,hk=>by
  have:=zl L k (by simpa using hk)
  exact(this.cons x).trans (.swap _ _ _)
theorem bu.at {H:View} {L:List ed} (h:bu H L) (k:Nat) (hk:k < L.length):bu H (L[k] :: L.eraseIdx k) :=
 h.perm (zl L k hk)
theorem bu.off {H:View} {x:ed} {L:List ed} (h:bu H (x :: L)) {id:Nat} (a:owner x.1=some id):∀ y∈L,owner y.1≠some id:=by
 intro y b e
 have:=h.2
 simp only[XM,a,Xq,XR,not_exists,not_and] at this
 exact this.1 y b e
theorem bu.live {H:View} {x:ed} {L:List ed} (h:bu H L) (b:x∈L) {id:Nat} (a:owner x.1=some id):H id≠.dead:=by
 rw[((h.1 x b).live a).1];simp
theorem bu.keep {H H':View} {L:List ed} (h:bu H L) (hk:∀ x∈L,∀ id,owner x.1=some id->H' id=H id):bu H' L :=
 ⟨λx a=>(h.1 x a).keep (hk x a),h.2⟩
theorem bu.new {H:View} {L:List ed} (h:bu H L) {n:Nat} (b:H n=.dead) (sz:Nat) (es:List (List V)):bu (H.set n (.arr sz es)) ((.sl n 0 es.length sz,sz,es) :: L):=by
 refine⟨λx a=>?_,?_⟩
 .rcases WK.1 a with rfl | a
  .exact .new
  .exact(h.1 x a).fresh b
 .simp only[XM,owner,Xq,XR,not_exists,not_and]
  exact⟨λx a e=>h.live a e b,h.2⟩
theorem bu.MQ {H H':View} {L:List ed} (h:bu H L) {u:V} {sz:Nat} {es:List (List V)} (c:aH H' u sz es) (b:cM H H' u):bu H' ((u,sz,es) :: L):=by
 refine⟨λx a=>?_,?_⟩
 .rcases WK.1 a with rfl | a
  .exact c
  .exact(h.1 x a).Uz b
 .cases hu:owner u with
  | none=>simp only[XM,hu];exact h.2
  | some id =>
   simp only[XM,hu,Xq,XR,not_exists,not_and]
   exact⟨λx a e=>(b id (h.live a e)).2 hu,h.2⟩
theorem bu.fresh {H:View} {L:List ed} (h:bu H L) {n:Nat} (a:H n=.dead) {o:bN} : bu (H.set n o) L :=
 ⟨λx b=>(h.1 x b).fresh a,h.2⟩
theorem bu.put {H:View} {L:List ed} {n k sz:Nat} {es es':List (List V)} (h:bu H ((.sl n 0 k sz,sz,es) :: L)) (b:es'.length=es.length) (hk:k=es.length):bu (H.set n (.arr sz es')) ((.sl n 0 k sz,sz,es') :: L):=by
 refine⟨λx a=>?_,by simpa [XM,owner] using h.2⟩
 rcases WK.1 a with rfl | a
 .exact .inr ⟨n,by simp[b,hk],by simp[View.set]⟩
 .exact(h.1 x (by simp[a])).other (h.off rfl x a)
theorem bu.left {H H':View} {L:List ed} {u u':V} {sz:Nat} {es es':List (List V)} (h:bu H ((u,sz,es) :: L)) (i:aH H' u' sz es') (f:Left H H' u u'):bu H' ((u',sz,es') :: L):=by
 have b:∀ x∈L,∀ id,owner x.1=some id->owner u≠some id:=λx a id c hu=>h.off hu x a c
 refine⟨λx a=>?_,?_⟩
 .rcases WK.1 a with rfl | a
  .exact i
  .exact(h.1 x (by simp[a])).left f (b x a)
 .have g:=h.tail.2
  cases hu:owner u' with
  | none=>simp only[XM,hu];exact g
  | some id =>
   simp only[XM,hu,Xq,XR,not_exists,not_and]
   refine⟨λx a e=>?_,g⟩
   have d:=h.tail.live a e
   exact(f id d (b x a id e)).2 hu
theorem gE {sz bytes:Nat} {u:V} {es xs:List (List V)} {L:List ed} {H:View} {K:V->View->Prop} {w:ct (H,K)} (c:bu H ((u,sz,es) :: L)) (a:(xs.all λe=>e.length == sz && e.all aE)=true)
  (f:(es.length+xs.length) * bytes < aD) (b:es.length+xs.length < aD) (hk:∀ u' H',bu H' ((u',sz,es ++ xs) :: L)->Left H H' u u'->K u' H'):nS sz bytes u xs H K w :=
 iv c.head a f b λu' H' h1 d=>hk u' H' (c.left h1 d) d
theorem bu.stay {H H':View} {L:List ed} (h:bu H L) (b:∀ id,H id≠.dead->H' id=H id):bu H' L :=
 h.keep λx c _ a=>b _ (h.live c a)
theorem bu.emp {H:View} {L:List ed} (h:bu H L) {k sz:Nat} : bu H ((.emp k,sz,[]) :: L):=by
 refine⟨λx a=>?_,by simpa [XM,owner] using h.2⟩
 rcases WK.1 a with rfl | a
 .exact .nil
 .exact h.1 x a
theorem aH.cells {H:View} {u:V} {sz:Nat} {es:List (List V)} (h:aH H u sz es):V.cells u=[u]:=by
 rcases h with ⟨rfl,k,rfl⟩ | ⟨n,rfl,_⟩ <;> rfl
theorem aH.fF {H:View} {u:V} {sz:Nat} {es:List (List V)} (h:aH H u sz es):aE u=true:=by
 rcases h with ⟨rfl,k,rfl⟩ | ⟨n,rfl,_⟩ <;> rfl
theorem bu.Vj {H:View} {L:List ed} (h:bu H L) (i j:Nat) {a e s1 b k2 s2 t1 t2:Nat} {f g:List (List V)} (hi:L[i]?=some (.sl a 0 e s1,t1,f)) (k:L[j]?=some (.sl b 0 k2 s2,t2,g)) (c:i≠j):a≠b:=by
 rintro rfl
 obtain⟨d,hi⟩:=Wy.1 hi
 have h1:=h.at i d
 rw[hi] at h1
 exact h1.off (id:=a) rfl _ (List.mem_eraseIdx_iff_getElem?.2 ⟨j,c.symm,k⟩) rfl
theorem Ug {α:Type} {a b c:α} {l:List α} : (a :: b :: c :: l).Perm (b :: c :: a :: l):=(List.Perm.swap _ _ _).trans ((List.Perm.swap _ _ _).cons _)
theorem bu.own {H:View} {L:List ed} (h:bu H L) (i:Nat) {u:V} {sz:Nat} {es:List (List V)} (hi:L[i]?=some (u,sz,es)):aH H u sz es:=h.1 _ (WI hi)
theorem bu.is {H:View} {L:List ed} (h:bu H L) (i:Nat) {n k sz:Nat} {es:List (List V)} (hi:L[i]?=some (.sl n 0 k sz,sz,es)) (a:0 < es.length):H n=.arr sz es:=by
 obtain⟨m,e,hm⟩:=(h.own i hi).sl a
 simp only[V.sl.injEq] at e
 rw[e.1];exact hm
theorem bu.FR {H:View} {L:List ed} (h:bu H L) {b c:Nat} {es:List (V × V × Nat)} (a:H b=.map es c):∀ x∈L,owner x.1≠some b:=λx d e=>by
 have:=((h.1 x d).live e).1
 rw[a] at this;simp at this
theorem bu.B4 {H:View} {L:List ed} (h:bu H L) {b c:Nat} {es:List (V × V × Nat)} (d:H b=.map es c) {o:bN} : bu (H.set b o) L :=
 ⟨λx a=>(h.1 x a).other (h.FR d x a),h.2⟩
theorem Left.map {H H':View} {u u':V} {b c:Nat} {es:List (V × V × Nat)} {sz:Nat} {xs:List (List V)} (d:Left H H' u u') (f:aH H u sz xs) (a:H b=.map es c):H' b=.map es c:=by
 rw[(d b (by rw[a];simp) (λe=>by have:=(f.live e).1;rw[a] at this;simp at this)).1,a]
theorem Ca {H:View} {L:List ed} (h:bu H L) (i:Nat) {n k sz b c:Nat} {xs:List (List V)} {es:List (V × V × Nat)} (hi:L[i]?=some (.sl n 0 k sz,sz,xs)) (a:H b=.map es c):n≠b:=by
 rintro rfl
 exact h.FR a _ (WI hi) rfl
theorem aq.D5 {P:Program} {f:FuncId} {vs:List V} {H:View} {K:V->View->Prop} {w:ct (H,K)} {sz:Nat} {es:List (List V)} (b:ao P f vs H λr H'=>aH H' r sz es/\cM H H' r) (hk:∀ r H',aH H' r sz es->cM H H' r->K r H'):aq P true f vs H K w:=by
 unfold aq
 simp only[if_true]
 exact(b.mono λr H' h=>⟨λid a=>(h.2 id a).1,hk r H' h.1 h.2⟩).MK
def xP:SC :=
 ai [af [aZ 20 .lss 19 18],cp 20 (.exit 0),.block 1 (ai [af [aa 21 19,aa 3 21],af [aa 22 0,aa 23 3,((some 24),.op (.iF (.tmp 22) (.tmp 23))),aT 25 224 [24],cW 26 25],bf 26 (ai [af [bc 2 false],.ret])]),af [aF 27 .add 19 1,aa 19 27]]
def CE:SF:=⟨ai [af [bc 2 false],ai [.region false [⟨none,[aa 4 0,((some 5),.op (.yo .eql (.tmp 4) (.val (.val (.string ⟨#[]⟩))))),aa 6 5]⟩,⟨(some (6,false)),[aa 7 0,((some 8),.op (.pr (.tmp 7))),aF 9 .gtr 8 20]⟩,⟨none,[b6 10 6 9,aa 11 10]⟩,⟨(some (11,false)),[aa 12 0,((some 13),.op (.iF (.tmp 12) (.val (.val (.int .i64 0))))),aT 14 223 [13],cW 15 14]⟩,⟨none,[b6 16 11 15]⟩],bf 16 (ai [af [bc 2 false],.ret])],ai [af [aa 17 0,((some 18),.op (.pr (.tmp 17))),bb 19 0],cz 0 xP],af [bc 2 true],.ret],
 [.tmp 2],28⟩
theorem FD:aG Tryz.prog 158 []=some CE:=by kernel_rfl
def wW:SF:=⟨ai [af [bb 2 0,bb 3 0],af [bb 4 2],.block 0 (ai [af [aa 6 0,aQ 7 6,aF 8 .lss 7 2,aa 5 8],.cond (.tmp 5) (ai [af [bb 2 0,bb 3 4],.ret]) (ai [af [aa 10 0,((some 11),.op (.idx 1 (.tmp 10) (.val (.val (.int .i64 1))))),au 12 11,aT 13 296 [12],aa 9 13],cp 9 (ai [af [aa 15 0,((some 16),.op (.idx 1 (.tmp 15) (.val (.val (.int .i64 1))))),au 17 16,((some 18),.op (.arith .neq (.tmp 17) (.val (.val (.int .u8 92))))),aa 14 18],.cond (.tmp 14) (ai [af [bb 2 0,bb 3 3],.ret]) (ai [af [aa 20 0,aQ 21 20,aF 22 .lss 21 3,aa 19 22],.cond (.tmp 19) (ai [af [bb 2 0,bb 3 4],.ret]) (ai [af [aa 24 0,((some 25),.op (.idx 1 (.tmp 24) (.val (.val (.int .i64 2))))),au 26 25,aT 27 297 [26],cW 28 27,aa 23 28],.cond (.tmp 23) (ai [af [bb 2 0,bb 3 3],.ret]) (af [bb 4 3])])])])])]),ai [af [aa 29 0,aQ 30 29,aa 31 4,aZ 32 .leq 30 31],bf 32 (ai [af [bb 2 0,bb 3 4],.ret])],ai [af [aa 33 0,aa 34 4,aY 35 1 33 34,au 36 35,((some 37),.op (.arith .neq (.tmp 36) (.val (.val (.int .u8 39)))))],bf 37 (ai [af [bb 2 0,bb 3 3],.ret])],af [aa 38 4,aF 39 .add 38 1,aa 2 39,bb 3 0],.ret],
 [.tmp 2,.tmp 3],40⟩
theorem AP:aG Tryz.prog 287 []=some wW:=by kernel_rfl
def qF:SF:=⟨ai [af [bc 2 false],ai [.region false [⟨none,[aa 5 0,((some 6),.op (.yo .eql (.tmp 5) (.val (.val (.string ⟨#[]⟩))))),aa 7 6]⟩,⟨(some (7,false)),[aa 8 0,((some 9),.op (.iF (.tmp 8) (.val (.val (.int .i64 0))))),((some 10),.op (.arith .neq (.tmp 9) (.val (.val (.int .u8 39)))))]⟩,⟨none,[b6 11 7 10]⟩],bf 11 (ai [af [bc 2 false],.ret])],af [aa 13 0,((some 14),.op (.gu (.tmp 13))),aT 15 287 [14],aa 12 15,dO 16 0 12,dO 17 1 12,aa 3 16,aa 4 17],.region false [⟨none,[aa 18 4,aF 19 .eql 18 0,aa 20 19]⟩,⟨(some (20,true)),[aa 21 3,aa 22 0,((some 23),.op (.pr (.tmp 22))),aZ 24 .eql 21 23]⟩,⟨none,[fe 25 20 24,aa 2 25]⟩],.ret],
 [.tmp 2],26⟩
theorem Bd:aG Tryz.prog 267 [14]=some qF:=by kernel_rfl
def zW:SF:=⟨ai [af [bc 2 false],.region false [⟨none,[aa 3 0,aT 4 158 [3],aa 5 4]⟩,⟨(some (5,false)),[aa 6 0,aT 7 267 [6]]⟩,⟨none,[b6 8 5 7,aa 2 8]⟩],.ret],
 [.tmp 2],9⟩
theorem D7:aG Tryz.prog 217 []=some zW:=by kernel_rfl
def wT:SF:=⟨ai [af [bc 2 false],af [aa 3 0,aT 4 158 [3],cW 5 4,aa 2 5],.ret],
 [.tmp 2],6⟩
theorem AD:aG Tryz.prog 157 []=some wT:=by kernel_rfl
theorem xN (s:ByteArray):iX s ⟨#[]⟩=decide ((fP s).length=0):=by
 unfold iX
 rw[<-eU]
 have:(s.data.toList == ([]:List UInt8))=decide (s.data.toList.length=0):=by
  cases s.data.toList <;> rfl
 show (s.data.toList == ([]:List UInt8))=_
 rw[this]
 rfl
theorem Ri (s:ByteArray) (H:View):ao Tryz.prog 158 [gs s] H λr _=>r=gb (gZ (fP s)):=by
 refine ao.of mixed FD ?_
 repeat' (first | ((first|apply aj.dec|apply aj.eq|apply aj.ne|apply aj.split)<;>intro)|(simp(disch:=omega)only[↓wr,seval,wq,CE,eU,xN]))
 .rename_i h
  congr 2;simp[gZ,h]
 .rename_i h1 h
  congr 2;simp[gZ,show ¬ (fP s).length<=20 by omega]
 .rename_i h1 p
  cases e:fP s with
  | nil=>simp[e] at h1
  | cons c l =>
   have f:=λd (g:d∈c :: l)=>E3 (s:=s) (c:=d) (by rw[e];exact g)
   have j:=f c (by simp)
   repeat' (first | ((first|apply aj.dec|apply aj.eq|apply aj.ne|apply aj.split)<;>intro)|(simp(disch:=omega)only[↓wr,seval,wq,e,WX,eU]))
   refine aq.pure (v8 sF MN c j.1 j.2) ?_
   repeat' (first | ((first|apply aj.dec|apply aj.eq|apply aj.ne|apply aj.split)<;>intro)|(simp(disch:=omega)only[↓wr,seval,wq,e,WX,eU]))
   .rename_i q
    rw[e] at h1 p
    refine bk.intro (λk T H'=>∃ i:Nat,i+k=(c :: l).length/\((c :: l).take i).all ou=true/\T 0=gs s/\T 18=gi (c :: l).length/\T 19=gi i) (c :: l).length ?_ ?_
    .exact⟨0,by omega,by simp,rfl,rfl,rfl⟩
    .rintro k T H' ⟨i,hk,hi,n,a,b⟩
     simp(disch:=omega)only[↓wr,seval,wq,xP,n,a,b,eU,e]
     apply aj.dec<;>intro t
     .simp only[WD] at t hk p
      have o:(c :: l)[i]?=some ((c :: l)[i]'(by simp;omega)):=Wp (by simp;omega)
      have hm:(c :: l)[i]'(by simp;omega)∈c :: l:=WA _
      generalize (c :: l)[i]'(by simp;omega)=d at o hm
      have m:=f d hm
      simp(disch:=omega)only[↓wr,seval,wq,n,a,b,eU,e,o]
      refine aq.pure (v8 sF PZ d m.1 m.2) ?_
      repeat' (first | ((first|apply aj.dec|apply aj.eq|apply aj.ne|apply aj.split)<;>intro)|(simp(disch:=omega)only[↓wr,seval,wq,n,a,b,eU,e,o]))
      .rename_i g
       refine⟨k - 1,by omega,i+1,by omega,?_,by first | rfl | exact⟨rfl,rfl⟩⟩
       rw[WY,o]
       simp only[Option.toList_some,List.all_append,hi,XK,g,List.all_nil,Bool.and_self]
      .rename_i g
       congr 2
       have:(c :: l).all ou=false:=by
        rw[List.all_eq_false];exact⟨d,hm,by simp[g]⟩
       simp only[gZ,this,X8]
     .simp(disch:=omega)only[↓wr,seval,wq,n,a,b]
      simp only[WD] at t hk p
      rw[WT (by simp;omega)] at hi
      congr 2
      simp only[gZ,hi,WD]
      simp[q];omega
   .rename_i q
    congr 2;simp[gZ,q]
theorem GY (s:ByteArray):az Tryz.prog 158 [gs s] (gb (gZ (fP s))):=az.val (pb s) (Ri s)
def kX (l:List Int):Int × Int :=
 if x9 (l.getD 1 0)=true then (2,0) else if l.getD 1 0≠92 then (0,3) else if l.length < 3 then (0,4) else if Dx (l.getD 2 0)=true then (3,0) else (0,3)
def mH (l:List Int):Int × Int :=
 if l.length < 2 then (0,4) else if (kX l).2≠0 then (0,(kX l).2) else if (l.length:Int)<=(kX l).1 then (0,4) else if l.getD (kX l).1.toNat 0≠39 then (0,3) else ((kX l).1+1,0)
theorem O9 {l:List Int} {n:Int} (a:kX l=(n,0)) (b:¬ l.length < 2):mH l=if (l.length:Int)<=n then (0,4) else if l.getD n.toNat 0≠39 then (0,3) else (n+1,0):=by
 rw[mH,Ws b,a];simp
theorem HG {l:List Int} {e:Int} (a:kX l=(0,e)) (he:e≠0) (b:¬ l.length < 2):mH l=(0,e):=by
 rw[mH,Ws b,a];simp[he]
theorem MB (l:List Int) (hr:∀ c∈l,0<=c/\c<=255) (H:View):ao Tryz.prog 287 [.aL (l.map λx=>[gy x])] H λr _=>r=.aO [gi (mH l).1,gi (mH l).2]:=by
 refine ao.of mixed AP ?_
 simp(disch:=omega)only[↓wr,seval,wq,wW]
 apply aj.dec<;>intro h
 .simp(disch:=omega)only[↓wr,seval,wq]
  rw[mH,Wv (by omega)]
 .have h1:l[1]?=some (l[1]'(by omega)):=Wp (by omega)
  have g1:l.getD 1 0=l[1]'(by omega):=by simp[Wo,h1]
  have m1:l[1]'(by omega)∈l:=WA _
  generalize l[1]'(by omega)=b at h1 g1 m1
  have o:=hr b m1
  simp(disch:=omega)only[↓wr,seval,wq,Ww,h1]
  refine aq.pure (v8 sF Ox b o.1 o.2) ?_
  simp(disch:=omega)only[↓wr,seval,wq]
  apply aj.split<;>intro hp
  .have p:kX l=(2,0):=by rw[kX,Wv (by rw[g1];exact hp)]
   simp(disch:=omega)only[↓wr,seval,wq]
   have a:=O9 p (by omega)
   apply aj.dec<;>intro m
   .simp(disch:=omega)only[↓wr,seval,wq]
    rw[a,Wv (by omega)]
   .rw[Ws (by omega)] at a
    have g:l[2]?=some (l[2]'(by omega)):=Wp (by omega)
    have g2:l.getD (2:Int).toNat 0=l[2]'(by omega):=by simp[Wo,g]
    generalize l[2]'(by omega)=c at g g2
    rw[g2] at a
    simp(disch:=omega)only[↓wr,seval,wq,Ww,g]
    apply aj.ne<;>intro i
    .simp(disch:=omega)only[↓wr,seval,wq]
     rw[a,Wv i]
    .simp(disch:=omega)only[↓wr,↓reduceIte,wq,Nat.reduceEqDiff,Nat.reduceAdd,Nat.reduceLT,Nat.reduceLeDiff,Int.reduceNeg,Int.reduceToNat,reduceCtorEq]
     rw[a,Ws (λq=>q i)]
  .simp(disch:=omega)only[↓wr,seval,wq,Ww,h1]
   apply aj.ne<;>intro k
   .simp(disch:=omega)only[↓wr,seval,wq]
    rw[HG (e:=3) (by rw[kX,Ws (by rw[g1,hp];simp),Wv (by rw[g1];exact k)]) (by simp) (by omega)]
   .simp(disch:=omega)only[↓wr,seval,wq]
    apply aj.dec<;>intro s
    .simp(disch:=omega)only[↓wr,seval,wq]
     rw[HG (e:=4) (by rw[kX,Ws (by rw[g1,hp];simp),Ws (by rw[g1];exact λq=>q k),Wv (by omega)]) (by simp) (by omega)]
    .have g:l[2]?=some (l[2]'(by omega)):=Wp (by omega)
     have g2:l.getD 2 0=l[2]'(by omega):=by simp[Wo,g]
     have m2:l[2]'(by omega)∈l:=WA _
     generalize l[2]'(by omega)=c at g g2 m2
     have j:=hr c m2
     have f:kX l=if Dx c=true then (3,0) else (0,3):=by rw[kX,Ws (by rw[g1,hp];simp),Ws (by rw[g1];exact λq=>q k),Ws (by omega),g2]
     simp(disch:=omega)only[↓wr,seval,wq,Ww,g]
     refine aq.pure (v8 sF Tp c j.1 j.2) ?_
     simp(disch:=omega)only[↓wr,seval,wq]
     apply aj.split<;>intro he
     .rw[Wv he] at f
      have a:=O9 f (by omega)
      simp(disch:=omega)only[↓wr,seval,wq]
      apply aj.dec<;>intro m
      .simp(disch:=omega)only[↓wr,seval,wq]
       rw[a,Wv (by omega)]
      .rw[Ws (by omega)] at a
       have n:l[3]?=some (l[3]'(by omega)):=Wp (by omega)
       have g3:l.getD (3:Int).toNat 0=l[3]'(by omega):=by simp[Wo,n]
       generalize l[3]'(by omega)=d at n g3
       rw[g3] at a
       simp(disch:=omega)only[↓wr,seval,wq,Ww,n]
       apply aj.ne<;>intro i
       .simp(disch:=omega)only[↓wr,seval,wq]
        rw[a,Wv i]
       .simp(disch:=omega)only[↓wr,↓reduceIte,wq,Nat.reduceEqDiff,Nat.reduceAdd,Nat.reduceLT,Nat.reduceLeDiff,Int.reduceNeg,Int.reduceToNat,reduceCtorEq]
        rw[a,Ws (λq=>q i)]
     .rw[Ws (by rw[he];simp)] at f
      simp(disch:=omega)only[↓wr,seval,wq]
      rw[HG f (by simp) (by omega)]
def gq {α:Type} (p:α->Bool):List α->Int->Int
 | [],_=>-1
 | x :: l,i=>if p x then i else gq p l (i+1)
theorem vA {α:Type} (p:α->Bool):∀ (l:List α) (i:Int),0<=i->decide (0<=gq p l i)=l.any p
 | [],_,_=>by simp[gq]
 | x :: l,i,h=>by
  have a:=vA p l (i+1) (by omega)
  rw[List.any_cons,gq]
  by_cases hp:p x=true
  .rw[Wv hp,hp];simp[h]
  .rw[Ws hp,a];simp[hp]
theorem D2 {f:FuncId} {xs cap:List V} (h:∀ v∈xs,Tree v) (b:∀ v∈cap,Tree v):Tree (.fn f xs cap):=by
 refine .fn _ _ _ (λi hi=>?_) (λi hi=>?_)
 .have a:xs.getD i .any=xs[i]:=by simp[Wo,hi]
  rw[a];exact h _ (WA _)
 .have a:cap.getD i .any=cap[i]:=by simp[Wo,hi]
  rw[a];exact b _ (WA _)
def iQ:SC :=
 ai [af [aZ 9 .lss 8 7],cp 9 (.exit 0),.block 1 (ai [af [aa 10 8,aa 5 10],af [aa 11 1,aa 12 0,aa 13 5,aY 14 1 12 13,au 15 14,((some 16),.call (.tmp 11) [(.tmp 15)])],bf 16 (ai [af [aa 17 5,aa 4 17],.ret])]),af [aF 18 .add 8 1,aa 8 18]]
def jq:SF:=⟨ai [af [bb 4 0],ai [af [aa 6 0,aQ 7 6,bb 8 0],cz 0 iQ],af [bb 4 (-1)],.ret],
 [.tmp 4],19⟩
theorem mR:aG Tryz.prog 160 []=some jq:=by kernel_rfl
def iE:SF:=⟨ai [af [bc 4 false],af [aa 5 0,aa 6 1,aT 7 160 [5,6],aF 8 .geq 7 0,aa 4 8],.ret],
 [.tmp 4],9⟩
theorem lJ:aG Tryz.prog 90 []=some iE:=by kernel_rfl
def gz:SC :=
 ai [af [aZ 9 .lss 8 7],cp 9 (.exit 0),.block 1 (ai [af [aa 10 8,aa 5 10],af [aa 11 1,aa 12 0,aa 13 5,aY 14 1 12 13,au 15 14,((some 16),.call (.tmp 11) [(.tmp 15)])],bf 16 (ai [af [aa 17 5,aa 4 17],.ret])]),af [aF 18 .add 8 1,aa 8 18]]
def gW:SF:=⟨ai [af [bb 4 0],ai [af [aa 6 0,aQ 7 6,bb 8 0],cz 0 gz],af [bb 4 (-1)],.ret],
 [.tmp 4],19⟩
theorem kz:aG Tryz.prog 222 []=some gW:=by kernel_rfl
def gf:SF:=⟨ai [af [bc 4 false],af [aa 5 0,aa 6 1,aT 7 222 [5,6],aF 8 .geq 7 0,aa 4 8],.ret],
 [.tmp 4],9⟩
theorem jT:aG Tryz.prog 156 []=some gf:=by kernel_rfl
theorem FC (l:List Int) (g:aC l) (f:FuncId) (cap:List V) (p:Int->Bool) (h:∀ x∈l,az Tryz.prog f (gi x :: cap) (gb (p x))) (d:dw Tryz.prog f=true) (H:View) :
  ao Tryz.prog 160 [encI l,.fn f [] cap] H λr _=>r=gi (gq p l 0):=by
 refine ao.of mixed mR ?_
 unfold aC at g
 simp(disch:=omega)only[↓wr,seval,wq,jq,encI]
 refine bk.up l.length (λi T _=>gq p (l.drop i) i=gq p l 0/\T 0=encI l/\T 1=.fn f [] cap/\T 7=gi l.length/\T 8=gi i) ⟨rfl,rfl,rfl,rfl,rfl⟩ ?_
 rintro i k T H hk ⟨hi,a,h1,b,c⟩
 simp(disch:=omega)only[↓wr,seval,wq,iQ,a,h1,b,c,encI]
 apply aj.dec<;>intro j
 .have e:l[i]?=some (l[i]'(by omega)):=Wp (by omega)
  have hm:l[i]'(by omega)∈l:=WA _
  rw[fS (show i < l.length by omega)] at hi
  generalize l[i]'(by omega)=x at e hm hi
  simp(disch:=omega)only[↓wr,seval,wq,a,h1,b,c,encI,Ww,e]
  refine aq.pure (h x hm) ?_ d
  simp only[gq] at hi
  repeat' (first | ((first|apply aj.dec|apply aj.eq|apply aj.ne|apply aj.split)<;>intro)|(simp(disch:=omega)only[↓wr,seval,wq,a,h1,b,c]))
  .rename_i hp
   rw[<-hi,Wv hp]
  .rename_i hp
   refine aJ hk (by omega) ⟨?_,a,h1,b,rfl⟩
   rw[Ws (by simp[hp])] at hi
   push_cast;exact hi
 .rw[Xb (by omega)] at hi
  simp(disch:=omega)only[↓wr,seval,wq,a,h1,b,c]
  rw[<-hi];rfl
theorem yO {l:List Int} {f:FuncId} {cap:List V} (a:∀ v∈cap,Tree v):∀ v∈[encI l,.fn f [] cap],Tree v:=by
 intro v b;simp at b
 rcases b with rfl | rfl
 .exact aX l
 .exact D2 (by simp) a
theorem iJ (l:List Int) (c:aC l) (f:FuncId) (cap:List V) (a:∀ v∈cap,Tree v) (p:Int->Bool) (d:∀ x∈l,az Tryz.prog f (gi x :: cap) (gb (p x))) (b:dw Tryz.prog f=true) :
  az Tryz.prog 90 [encI l,.fn f [] cap] (gb (l.any p)):=by
 refine az.val (yO a) λH=>?_
 refine ao.of mixed lJ ?_
 simp(disch:=omega)only[↓wr,seval,wq,iE]
 refine aq.pure (az.val (yO a) (FC l c f cap p d b)) ?_
 simp(disch:=omega)only[↓wr,seval,wq]
 rw[<-vA p l 0 (by omega)]
theorem FG (l:List ByteArray) (g:aC l) (f:FuncId) (cap:List V) (p:ByteArray->Bool) (h:∀ x∈l,az Tryz.prog f (gs x :: cap) (gb (p x))) (d:dw Tryz.prog f=true) (H:View) :
  ao Tryz.prog 222 [encS l,.fn f [] cap] H λr _=>r=gi (gq p l 0):=by
 refine ao.of mixed kz ?_
 unfold aC at g
 simp(disch:=omega)only[↓wr,seval,wq,gW,encS]
 refine bk.up l.length (λi T _=>gq p (l.drop i) i=gq p l 0/\T 0=encS l/\T 1=.fn f [] cap/\T 7=gi l.length/\T 8=gi i) ⟨rfl,rfl,rfl,rfl,rfl⟩ ?_
 rintro i k T H hk ⟨hi,a,h1,b,c⟩
 simp(disch:=omega)only[↓wr,seval,wq,gz,a,h1,b,c,encS]
 apply aj.dec<;>intro j
 .have e:l[i]?=some (l[i]'(by omega)):=Wp (by omega)
  have hm:l[i]'(by omega)∈l:=WA _
  rw[fS (show i < l.length by omega)] at hi
  generalize l[i]'(by omega)=x at e hm hi
  simp(disch:=omega)only[↓wr,seval,wq,a,h1,b,c,encS,Ww,e]
  refine aq.pure (h x hm) ?_ d
  simp only[gq] at hi
  repeat' (first | ((first|apply aj.dec|apply aj.eq|apply aj.ne|apply aj.split)<;>intro)|(simp(disch:=omega)only[↓wr,seval,wq,a,h1,b,c]))
  .rename_i hp
   rw[<-hi,Wv hp]
  .rename_i hp
   refine aJ hk (by omega) ⟨?_,a,h1,b,rfl⟩
   rw[Ws (by simp[hp])] at hi
   push_cast;exact hi
 .rw[Xb (by omega)] at hi
  simp(disch:=omega)only[↓wr,seval,wq,a,h1,b,c]
  rw[<-hi];rfl
theorem yB {l:List ByteArray} {f:FuncId} {cap:List V} (a:∀ v∈cap,Tree v):∀ v∈[encS l,.fn f [] cap],Tree v:=by
 intro v b;simp at b
 rcases b with rfl | rfl
 .exact xQ l
 .exact D2 (by simp) a
theorem AJ (l:List ByteArray) (c:aC l) (f:FuncId) (cap:List V) (a:∀ v∈cap,Tree v) (p:ByteArray->Bool) (d:∀ x∈l,az Tryz.prog f (gs x :: cap) (gb (p x))) (b:dw Tryz.prog f=true) :
  az Tryz.prog 156 [encS l,.fn f [] cap] (gb (l.any p)):=by
 refine az.val (yB a) λH=>?_
 refine ao.of mixed jT ?_
 simp(disch:=omega)only[↓wr,seval,wq,gf]
 refine aq.pure (az.val (yB a) (FG l c f cap p d b)) ?_
 simp(disch:=omega)only[↓wr,seval,wq]
 rw[<-vA p l 0 (by omega)]
theorem zh {l:List Value} : ∀ v∈l.map V.val,Tree v:=by
 intro v a;obtain⟨x,_,rfl⟩:=WQ.1 a;exact .val _
def yR:SF:=⟨ai [af [bc 6 false],.region false [⟨none,[aa 7 0,aa 8 1,aZ 9 .geq 7 8,aa 10 9]⟩,⟨(some (10,true)),[aa 11 0,aa 12 2,aZ 13 .leq 11 12]⟩,⟨none,[fe 14 10 13,aa 6 14]⟩],.ret],
 [.tmp 6],15⟩
theorem CR:aG Tryz.prog 154 []=some yR:=by kernel_rfl
def El:SF:=⟨ai [af [bb 2 0],af [aa 3 0,((some 4),.op (.arith .sub (.val (.val (.int .i64 (-1)))) (.tmp 3))),aa 2 4],.ret],
 [.tmp 2],5⟩
theorem Gz:aG Tryz.prog 194 []=some El:=by kernel_rfl
def Ey:SF:=⟨ai [af [cJ 2 0,bc 4 false],ai [af [aa 5 1,aF 6 .lss 5 0],bf 6 (ai [.region true [⟨none,[aa 7 1,aT 8 194 [7],ay 9 1 2,au 10 9,aQ 11 10,aZ 12 .lss 8 11,aa 4 12]⟩],.ret])],af [aa 13 1,ay 14 0 2,au 15 14,aQ 16 15,aZ 17 .lss 13 16,aa 4 17],.ret],
 [.tmp 4],18⟩
theorem HW:aG Tryz.prog 130 [2]=some Ey:=by kernel_rfl
def xC:SF:=⟨ai [af [bc 4 false],.region false [⟨none,[bj 5 4 1,aa 6 0,aT 7 130 [5,6],cW 8 7,aa 9 8]⟩,⟨(some (9,false)),[aa 10 0,aF 11 .geq 10 0,aa 12 11]⟩,⟨(some (12,true)),[ay 13 2 2,au 14 13,aF 15 .eql 14 (-1)]⟩,⟨(some (9,false)),[fe 16 12 15]⟩,⟨none,[b6 17 9 16,aa 4 17]⟩],.ret],
 [.tmp 4],18⟩
theorem CO:aG Tryz.prog 225 []=some xC:=by kernel_rfl
def Cu:SF:=⟨ai [af [cJ 2 0,cJ 3 1,bc 4 false],ai [.region false [⟨none,[ay 5 1 3,au 6 5,aQ 7 6,aF 8 .gtr 7 6,aa 9 8]⟩,⟨(some (9,false)),[ay 10 2 3,au 11 10,ay 12 0 2,au 13 12,aQ 14 13,aF 15 .sub 14 1,nr 16 154 [(.tmp 11),(.val (.val (.int .i64 (-1)))),(.tmp 15)],cW 17 16]⟩,⟨none,[b6 18 9 17]⟩],bf 18 (ai [af [bc 4 false],.ret])],af [ay 19 1 3,au 20 19,((some 21),.op (.qH 225 [] [(.tmp 2),(.tmp 3)])),aT 22 90 [20,21],cW 23 22,aa 4 23],.ret],
 [.tmp 4],24⟩
theorem FI:aG Tryz.prog 159 [2,3]=some Cu:=by kernel_rfl
theorem rh (a b c:Int):az Tryz.prog 154 [gi a,gi b,gi c] (gb (decide (b<=a) && decide (a<=c))):=by
 refine az.val (zh (l:=[.int .i64 a,.int .i64 b,.int .i64 c])) λH=>?_
 refine ao.of mixed CR ?_
 repeat' (first | ((first|apply aj.dec|apply aj.eq|apply aj.ne|apply aj.split)<;>intro)|(simp(disch:=omega)only[↓wr,seval,wq,yR]))
 all_goals simp[*]
theorem TA (s:Int) (a:ba s):az Tryz.prog 194 [gi s] (gi (-1 - s)):=by
 refine az.val (zh (l:=[.int .i64 s])) λH=>?_
 obtain⟨h1,b⟩:=a
 refine ao.of mixed Gz ?_
 repeat' (first | ((first|apply aj.dec|apply aj.eq|apply aj.ne|apply aj.split)<;>intro)|(simp(disch:=omega)only[↓wr,seval,wq,El]))
theorem Ks (g:ag) (s:Int) (a:ba s):az Tryz.prog 130 [.agg (ak g),gi s] (gb (dZ g s)):=by
 refine az.val (Hc g s) λH=>?_
 refine ao.of mixed HW ?_
 repeat' (first | ((first|apply aj.dec|apply aj.eq|apply aj.ne|apply aj.split)<;>intro)|(refine aq.pure (TA s a) ?_)|(simp(disch:=omega)only[↓wr,seval,wq,Ey,ak,encS]))
 .rename_i h;simp[dZ,show ¬ (0:Int)<=s by omega]
 .rename_i h;simp[dZ,show (0:Int)<=s by omega]
theorem gS {cs:List V} {j:Nat} (h:∀ v∈cs,Tree v):Tree (.aN cs j):=by
 refine .aN _ _ λi hi=>?_
 have a:cs.getD i .any=cs[i]:=by simp[Wo,hi]
 rw[a];exact h _ (WA _)
theorem OO (g:ag) (r:aW) (s:Int) (b:ba s):az Tryz.prog 225 [gi s,.aN (ak g) 0,.aN (aU r) 0] (gb (!pB g r.prec s)):=by
 refine az.val ?_ λH=>?_
 .intro v a;simp at a
  rcases a with rfl | rfl | rfl
  .exact .val _
  .exact gS (cQ g)
  .exact gS (gI r)
 refine ao.of mixed CO ?_
 simp(disch:=omega)only[↓wr,seval,wq,xC,ak]
 refine aq.pure (Ks g s b) ?_
 repeat' (first | ((first|apply aj.dec|apply aj.eq|apply aj.ne|apply aj.split)<;>intro)|(simp(disch:=omega)only[↓wr,seval,wq,aU]))
 all_goals simp[pB, *]
theorem Rx (g:ag) (r:aW) (e:g.Ok) (hr:aC r.right/\∀ x∈r.right,ba x):az Tryz.prog 159 [.agg (ak g),.agg (aU r)] (gb (ju g r)):=by
 refine az.val (HQ g r) λH=>?_
 have f:=e.an
 unfold aC at f
 refine ao.of mixed FI ?_
 repeat' (first | ((first|apply aj.dec|apply aj.eq|apply aj.ne|apply aj.split)<;>intro)|(refine aq.pure (rh _ _ _) ?_)|(simp(disch:=omega)only[↓wr,seval,wq,Cu,ak,aU,encI,encS]))
 .rename_i h;simp[ju,show ¬ r.right.length<=6 by omega]
 .rename_i h1 b
  have c:r.right.length<=6:=by omega
  have a : -1<=r.prec/\r.prec < g.an.length:=by simp at b;omega
  refine aq.pure (iJ r.right hr.1 225 [.aN (ak g) 0,.aN (aU r) 0] ?_ (λs=>!pB g r.prec s) (λx i=>OO g r x (hr.2 x i)) (by kernel_rfl)) ?_
  .intro v d;simp at d
   rcases d with rfl | rfl
   .exact gS (cQ g)
   .exact gS (gI r)
  simp(disch:=omega)only[↓wr,seval,wq]
  simp[ju,c,a.1,a.2]
  rw[Xm]
  simp
 .rename_i h1 b
  have c:¬ (-1<=r.prec/\r.prec < g.an.length):=by simp at b;omega
  have:(decide (-1<=r.prec) && decide (r.prec < (g.an.length:Int)))=false:=by
   rw[<-Bool.decide_and];simpa using c
  simp only[ju,Bool.and_assoc]
  rw[<-Bool.and_assoc (decide (-1<=r.prec)),this];simp
theorem Qt (l:List Int) (f:l.getD 0 0=39):((mH l).2 == 0 && (mH l).1 == (l.length:Int))=mO l:=by
 match l,f with
 | [],h=>simp at h
 | [a],_=>rfl
 | [a,b],_ =>
  simp only[mH,kX,mO,WD,WW,Ye,Xx]
  repeat' split
  all_goals simp_all
 | [a,b,c],f =>
  have g:a=39:=by simpa using f
  subst g
  simp only[mH,kX,mO,x9,Dx,WD,WW,Ye,Xx]
  repeat' split
  all_goals simp_all
  all_goals grind
 | [a,b,c,d],f =>
  have g:a=39:=by simpa using f
  subst g
  simp only[mH,kX,mO,x9,Dx,WD,WW,Ye,Xx]
  repeat' split
  all_goals simp_all
  all_goals grind
 | a :: b :: c :: d :: e :: r,f =>
  simp only[mH,kX,mO,x9,Dx,WD,Ye,Xx]
  repeat' split
  all_goals simp_all
  all_goals (try omega)
  all_goals grind
theorem MO {c:Int} {l:List Int} (h:¬ c=39):mO (c :: l)=false:=by
 match l with
 | []=>rfl
 | [_]=>rfl
 | [_,_]=>simp[mO,h]
 | [_,_,_]=>simp[mO,h]
 | _ :: _ :: _ :: _ :: _=>rfl
theorem Oy (s:ByteArray):az Tryz.prog 267 [gs s] (gb (mO (fP s))):=by
 refine az.val (pb s) λH=>?_
 refine ao.of mixed Bd ?_
 have f:=λd (k:d∈fP s)=>E3 (s:=s) (c:=d) k
 have j:az Tryz.prog 287 [.aL (gN s)] (.aO [gi (mH (fP s)).1,gi (mH (fP s)).2]):=by
  rw[On]
  refine az.of ?_ ((MB (fP s) f _).mono λr H' h m _=>by rw[h];exact .tree _ (.aO _ λi hi=>by
   match i,hi with
   | 0,_=>exact .val _
   | 1,_=>exact .val _))
  intro v a;simp at a;subst a
  exact eK _ _ λx _ v a=>by simp at a;subst a;exact .val _
 cases e:fP s with
 | nil =>
  repeat' (first | ((first|apply aj.dec|apply aj.eq|apply aj.ne|apply aj.split)<;>intro)|(simp(disch:=omega)only[↓wr,seval,wq,qF,eU,xN,e]))
  rfl
 | cons c l =>
  have b:=Qt (fP s)
  rw[e] at j b
  repeat' (first | ((first|apply aj.dec|apply aj.eq|apply aj.ne|apply aj.split)<;>intro)|(simp(disch:=omega)only[↓wr,seval,wq,qF,eU,xN,e,WX]))
  .rename_i h
   rw[MO h]
  .rename_i h
   refine aq.pure j ?_
   have b:=b (by simpa using h)
   repeat' (first | ((first|apply aj.dec|apply aj.eq|apply aj.ne|apply aj.split)<;>intro)|(simp(disch:=omega)only[↓wr,seval,wq,eU,e]))
   .rename_i g
    rw[<-b];simp[g]
   .rename_i g
    rw[<-b];simp[g]
theorem Pf (s:ByteArray):az Tryz.prog 217 [gs s] (gb (qq (fP s))):=by
 refine az.val (pb s) λH=>?_
 refine ao.of mixed D7 ?_
 repeat' (first | ((first|apply aj.dec|apply aj.eq|apply aj.ne|apply aj.split)<;>intro)|(refine aq.pure (GY s) ?_)|(refine aq.pure (Oy s) ?_)|(simp(disch:=omega)only[↓wr,seval,wq,zW]))
 all_goals simp[qq, *]
theorem L3 (s:ByteArray):az Tryz.prog 157 [gs s] (gb (!gZ (fP s))):=by
 refine az.val (pb s) λH=>?_
 refine ao.of mixed AD ?_
 repeat' (first | ((first|apply aj.dec|apply aj.eq|apply aj.ne|apply aj.split)<;>intro)|(refine aq.pure (GY s) ?_)|(simp(disch:=omega)only[↓wr,seval,wq,wT]))
def uX:SC :=
 ai [af [aZ 12 .lss 11 10],cp 12 (.exit 0),.block 1 (ai [.region false [⟨none,[aY 13 3 9 11,bj 14 3 13,((some 6),.op (.alloc [(.val (.string ⟨#[]⟩)),(.val (.int .i64 0)),(.val (.int .i64 0))])),df 3 6 14]⟩],ai [af [ay 15 1 6,au 16 15,aF 17 .eql 16 0],bf 17 (.exit 1)],ai [af [aa 18 3,ay 19 1 6,au 20 19,((some 21),.op (.old (.lookup 265 (.tmp 18) (.tmp 20) false) 3)),aa 7 21],.region false [⟨none,[aa 22 7,aF 23 .neq 22 0,aa 24 23]⟩,⟨(some (24,true)),[aa 25 7,ay 26 2 6,au 27 26,aZ 28 .neq 25 27]⟩,⟨none,[fe 29 24 28]⟩],bf 29 (ai [af [bc 2 false],.ret])],af [aa 30 3,ay 31 1 6,au 32 31,ay 33 2 6,au 34 33,(none,.op (.old (.mapUpdate 265 (.tmp 30) (.tmp 32) (.tmp 34)) 0))],af [aa 35 4,ay 36 1 6,au 37 36,((some 38),.op (.mm true (.tmp 35) (.tmp 37))),aa 4 38]]),af [aF 39 .add 11 1,aa 11 39]]
def yn:SF:=⟨ai [af [bc 2 false],af [((some 8),.op (.oo)),aa 3 8],af [bb 4 0],ai [af [aa 9 0,aQ 10 9,bb 11 0],cz 0 uX],af [aa 40 3,((some 41),.op (.old (.call { callee:=.builtin .len,args:=#[(.tmp 40)],argTypes:=#[265] }) 3)),aa 42 4,aZ 43 .eql 41 42,aa 2 43],.ret],
 [.tmp 2],44⟩
theorem CV:aG Tryz.prog 218 []=some yn:=by kernel_rfl
def xx:SC :=
 ai [af [aZ 8 .lss 7 6],cp 8 (.exit 0),.block 1 (ai [.region false [⟨none,[aY 9 3 5 7,bj 10 3 9,((some 4),.op (.alloc [(.val (.string ⟨#[]⟩)),(.val (.int .i64 0)),(.val (.int .i64 0))])),df 3 4 10]⟩],.region false [⟨none,[ay 11 0 4,au 12 11,aT 13 217 [12],cW 14 13,aa 15 14]⟩,⟨(some (15,false)),[ay 16 1 4,au 17 16,nr 18 154 [(.tmp 17),(.val (.val (.int .i64 0))),(.val (.val (.int .i64 24)))],cW 19 18]⟩,⟨none,[b6 20 15 19,aa 21 20]⟩,⟨(some (21,false)),[ay 22 2 4,au 23 22,nr 24 154 [(.tmp 23),(.val (.val (.int .i64 0))),(.val (.val (.int .i64 3)))],cW 25 24]⟩,⟨none,[b6 26 21 25,aa 27 26]⟩,⟨(some (27,false)),[ay 28 1 4,au 29 28,aF 30 .eql 29 0,ay 31 2 4,au 32 31,aF 33 .eql 32 0,((some 34),.op (.beq false (.tmp 30) (.tmp 33)))]⟩,⟨none,[b6 35 27 34]⟩],bf 35 (ai [af [bc 2 false],.ret])]),af [aF 36 .add 7 1,aa 7 36]]
def zX:SF:=⟨ai [af [bc 2 false],ai [af [aa 5 0,aQ 6 5,bb 7 0],cz 0 xx],.region false [⟨none,[aa 37 0,aQ 38 37,aF 39 .leq 38 24,aa 40 39]⟩,⟨(some (40,true)),[aa 41 0,aT 42 218 [41]]⟩,⟨none,[fe 43 40 42,aa 2 43]⟩],.ret],
 [.tmp 2],44⟩
theorem D1:aG Tryz.prog 153 []=some zX:=by kernel_rfl
def wU:SC :=
 ai [af [aZ 16 .lss 15 14],cp 16 (.exit 0),.block 1 (ai [.region false [⟨none,[aY 17 3 13 15,bj 18 3 17,((some 5),.op (.alloc [(.val (.string ⟨#[]⟩)),(.val (.int .i64 0)),(.val (.int .i64 0))])),df 3 5 18]⟩],.region false [⟨none,[aa 19 3,ay 20 0 5,au 21 20,((some 22),.op (.bS 1 1 [(.val (.string ⟨#[]⟩))] [(0,(.tmp 21))])),iR 23 1 16 19 22,aa 3 23]⟩]]),af [aF 24 .add 15 1,aa 15 24]]
def xt:SC :=
 ai [af [aZ 65 .lss 64 63],cp 65 (.exit 2),.block 3 (ai [af [aY 66 3 62 64,bj 67 3 66,((some 8),.op (.alloc [(.val (.int .i64 0)),(.emp 1),(.val (.int .i64 0))])),df 3 8 67],ai [.region false [⟨none,[ay 68 0 8,au 69 68,aa 70 6,nr 71 154 [(.tmp 69),(.val (.val (.int .i64 0))),(.tmp 70)],cW 72 71,aa 73 72]⟩,⟨(some (73,false)),[bj 74 4 1,bj 75 3 8,aT 76 159 [74,75],cW 77 76]⟩,⟨none,[b6 78 73 77]⟩],bf 78 (ai [af [bc 2 false],.ret])],af [aa 79 6,ay 80 0 8,au 81 80,aF 82 .add 81 1,((some 83),.op (.mm true (.tmp 79) (.tmp 82))),aa 6 83]]),af [aF 84 .add 64 1,aa 64 84]]
def Ai:SF:=⟨ai [af [cJ 1 0,bc 2 false],af [ay 9 1 1,au 10 9,aT 11 152 [10],aa 3 11],ai [af [ay 12 0 1,au 13 12,aQ 14 13,bb 15 0],cz 0 wU],ai [.region false [⟨none,[ay 25 0 1,au 26 25,aT 27 153 [26],cW 28 27,aa 29 28]⟩,⟨(some (29,false)),[ay 30 1 1,au 31 30,aQ 32 31,nr 33 154 [(.tmp 32),(.val (.val (.int .i64 1))),(.val (.val (.int .i64 16)))],cW 34 33]⟩,⟨none,[b6 35 29 34,aa 36 35]⟩,⟨(some (36,false)),[ay 37 2 1,au 38 37,aQ 39 38,nr 40 154 [(.tmp 39),(.val (.val (.int .i64 1))),(.val (.val (.int .i64 40)))],cW 41 40]⟩,⟨none,[b6 42 36 41,aa 43 42]⟩,⟨(some (43,false)),[aa 44 3,aT 45 155 [44],cW 46 45]⟩,⟨none,[b6 47 43 46,aa 48 47]⟩,⟨(some (48,false)),[ay 49 3 1,au 50 49,ay 51 1 1,au 52 51,aQ 53 52,aF 54 .sub 53 1,nr 55 154 [(.tmp 50),(.val (.val (.int .i64 0))),(.tmp 54)],cW 56 55]⟩,⟨none,[b6 57 48 56]⟩],bf 57 (ai [af [bc 2 false],.ret])],ai [af [ay 58 1 1,au 59 58,nr 60 156 [(.tmp 59),(.val (.fn 157 [] []))]],bf 60 (ai [af [bc 2 false],.ret])],af [bb 6 0],ai [af [ay 61 2 1,au 62 61,aQ 63 62,bb 64 0],cz 2 xt],af [aa 85 6,ay 86 1 1,au 87 86,aQ 88 87,aZ 89 .eql 85 88,aa 2 89],.ret],
 [.tmp 2],90⟩
theorem Dl:aG Tryz.prog 89 [1]=some Ai:=by kernel_rfl
def eH (l:List Term):V:=.aL (l.map dp)
theorem BE (l:List Term):∀ v∈[eH l],Tree v:=by intro v a;simp at a;subst a;exact eK _ _ λx _=>sZ x
def mP:List Term->List (Int × Int)->Int->Option (List (Int × Int) × Int)
 | [],a,top=>some (a,top)
 | t :: r,a,top=>if t.level=0 then mP r a top else
  if (eA a t.level).getD 0≠0/\(eA a t.level).getD 0≠t.assoc then none else mP r (kD t.level t.assoc a) (if t.level > top then t.level else top)
def rE (l:List Term):Bool:=match mP l [] 0 with
 | some (a,top)=>(a.length:Int) == top
 | none=>false
theorem Ls (l:List Term) (F:aC l):az Tryz.prog 218 [eH l] (gb (rE l)):=by
 refine az.val (BE l) λH=>?_
 refine ao.of mixed CV ?_
 unfold aC at F
 simp(disch:=omega)only[↓wr,seval,wq,yn,eH]
 intro q s
 try simp(disch:=omega)only[↓wr,seval,wq]
 refine bk.up l.length (λi T H=>(∃ a m c top,H q=.map (bV (Value.int .i64) m) c/\nN gi a m/\T 4=gi top/\mP (l.drop i) a top=mP l [] 0)/\T 0=eH l/\T 3=.mp q/\T 9=eH l/\T 10=gi l.length/\T 11=gi i) ?_ ?_
 .refine⟨⟨[],[],0,0,?_,trivial,rfl,rfl⟩,rfl,rfl,rfl,rfl,rfl⟩
  simp[View.set,bV]
 rintro i k T H hk ⟨⟨a,m,c,top,s,hm,o,hi⟩,j,f,n,d,g⟩
 simp(disch:=omega)only[↓wr,seval,wq,uX,j,f,o,n,d,g,eH]
 apply aj.dec<;>intro G
 .have C:l[i]?=some (l[i]'(by omega)):=Wp (by omega)
  rw[fS (show i < l.length by omega)] at hi
  generalize l[i]'(by omega)=t at C hi
  simp only[mP] at hi
  simp(disch:=omega)only[↓wr,seval,wq,j,f,o,n,d,g,eH,dp,Ww,C]
  intro b D
  have h:b≠q:=by rintro rfl;rw[s] at D;simp at D
  try simp(disch:=omega)only[↓wr,seval,wq]
  apply aj.eq<;>intro x
  .rw[Wv x] at hi
   simp(disch:=omega)only[↓wr,seval,wq,j,f,o,n,d,g]
   refine aJ hk (by omega) ⟨⟨a,m,c,top,?_,hm,o,hi⟩,j,f,n,d,rfl⟩
   simp[View.set,h.symm,s]
  .rw[Ws x] at hi
   simp(disch:=omega)only[↓wr,seval,wq,j,f,o,n,d,g]
   refine zm (kt:=3) (et:=3) (z:=gi 0) (by kernel_rfl) (by kernel_rfl) (k5 .i64 Tryz.underlying3) (id:=q) (c:=c) (m:=m) (k:=t.level) (by simp(disch:=omega)only[↓wr,seval,wq,f]) (by simp(disch:=omega)only[↓wr,seval,wq,f]) (by simp[View.set,h.symm,s]) ?_
   have y:(getM m t.level).getD (gi 0)=gi ((eA a t.level).getD 0):=by
    rw[hm.get];cases eA a t.level <;> rfl
   have p:∀ (A:View) (u:Nat) (r:Env),(¬ ((eA a t.level).getD 0≠0/\(eA a t.level).getD 0≠t.assoc)) ->
     A q=.map (bV (Value.int .i64) (bz t.level (gi t.assoc) c m)) u->r 0=eH l->r 3=.mp q->r 4=gi (if t.level > top then t.level else top)->r 9=eH l->r 10=gi l.length->r 11=gi ((i:Int)+1) ->
     ∃ E,E < k/\Is l.length E (λi T H=>(∃ a m c top,H q=.map (bV (Value.int .i64) m) c/\nN gi a m/\T 4=gi top/\mP (l.drop i) a top=mP l [] 0)/\T 0=eH l/\T 3=.mp q/\T 9=eH l/\T 10=gi l.length/\T 11=gi i) r A:=by
    intro A u r I g1 g2 g3 g4 g5 g6 g7
    rw[Ws I] at hi
    exact aJ hk (by omega) ⟨⟨_,_,u,_,g1,hm.put t.level t.assoc c,g4,hi⟩,g2,g3,g5,g6,by rw[g7];rfl⟩
   repeat' (first | ((first|apply aj.dec|apply aj.eq|apply aj.ne|apply aj.split)<;>intro)|(simp(disch:=omega)only[↓wr,seval,wq,j,f,o,n,d,g,y]))
   .rename_i w B
    rw[Wv ⟨w,B⟩] at hi
    simp only[rE,<-hi]
   .rename_i w B
    refine uk (kt:=3) (et:=3) (by kernel_rfl) (k5 .i64 Tryz.underlying3) (id:=q) (c:=c) (m:=m) (k:=t.level) (v:=gi t.assoc) (by simp(disch:=omega)only[↓wr,seval,wq,f]) (by simp(disch:=omega)only[↓wr,seval,wq,f]) (by simp(disch:=omega)only[↓wr,seval,wq,f]) (by simp[View.set,h.symm,s]) ?_
    intro u
    simp(disch:=omega)only[↓wr,seval,wq,j,f,o,n,d,g,h]
    exact p _ u _ (λe=>e.2 B) (by simp[View.set]) j f rfl n d rfl
   .rename_i w
    refine uk (kt:=3) (et:=3) (by kernel_rfl) (k5 .i64 Tryz.underlying3) (id:=q) (c:=c) (m:=m) (k:=t.level) (v:=gi t.assoc) (by simp(disch:=omega)only[↓wr,seval,wq,f]) (by simp(disch:=omega)only[↓wr,seval,wq,f]) (by simp(disch:=omega)only[↓wr,seval,wq,f]) (by simp[View.set,h.symm,s]) ?_
    intro u
    simp(disch:=omega)only[↓wr,seval,wq,j,f,o,n,d,g,h]
    exact p _ u _ (λe=>e.1 w) (by simp[View.set]) j f rfl n d rfl
 .rw[Xb (by omega)] at hi
  simp only[mP] at hi
  simp(disch:=omega)only[↓wr,seval,wq,j,f,o,n,d,g]
  refine UJ (kt:=3) (et:=3) (by kernel_rfl) (id:=q) (c:=c) (m:=m) (by simp(disch:=omega)only[↓wr,seval,wq,f]) s ?_
  simp(disch:=omega)only[↓wr,seval,wq,j,f,o,n,d,g,hm.len]
  simp only[rE,<-hi]
def lN (t:Term):Bool:=qq (fP t.name) && decide (0<=t.level) && decide (t.level<=24) && decide (0<=t.assoc) && decide (t.assoc<=3) && ((t.level == 0) == (t.assoc == 0))
def sm (l:List Term):Bool:=l.all lN && decide (l.length<=24) && rE l
theorem Pm (l:List Term) (p:aC l):az Tryz.prog 153 [eH l] (gb (sm l)):=by
 refine az.val (BE l) λH=>?_
 refine ao.of mixed D1 ?_
 have j:=p
 unfold aC at p
 simp(disch:=omega)only[↓wr,seval,wq,zX,eH]
 refine bk.up l.length (λi T H=>(l.drop i).all lN=l.all lN/\T 0=eH l/\T 5=eH l/\T 6=gi l.length/\T 7=gi i) ?_ ?_
 .exact⟨rfl,rfl,rfl,rfl,rfl⟩
 rintro i k T H hk ⟨hi,c,d,f,g⟩
 simp(disch:=omega)only[↓wr,seval,wq,xx,c,d,f,g,eH]
 apply aj.dec<;>intro r
 .have q:l[i]?=some (l[i]'(by omega)):=Wp (by omega)
  rw[fS (show i < l.length by omega)] at hi
  generalize l[i]'(by omega)=t at q hi
  rw[XK] at hi
  have a:lN t=false->gb false=gb (sm l):=λe=>by rw[e,XQ] at hi;simp[sm,<-hi]
  simp(disch:=omega)only[↓wr,seval,wq,c,d,f,g,eH,dp,Ww,q]
  intro b v
  repeat' (first | ((first|apply aj.dec|apply aj.eq|apply aj.ne|apply aj.split)<;>intro)|(refine aq.pure (Pf t.name) ?_)|(refine aq.pure (rh _ _ _) ?_)|(simp(disch:=omega)only[↓wr,seval,wq,c,d,f,g,eH]))
  all_goals first
   | (refine a ?_;simp[lN, *];done)
   | (refine a ?_;simp_all [lN];done)
   | skip
  rename_i s m n u
  refine aJ hk (by omega) ⟨?_,c,d,f,rfl⟩
  have:lN t=true:=by
   simp only[WC,WH] at m n
   have o:((t.level == 0) == (t.assoc == 0))=true:=by simpa [bne] using u
   simp[lN,s,m.1,m.2,n.1,n.2,o]
  rw[this,Xj] at hi
  exact hi
 .rw[Xb (by omega),List.all_nil] at hi
  simp(disch:=omega)only[↓wr,seval,wq,c,d,f,g,eH]
  repeat' (first | ((first|apply aj.dec|apply aj.eq|apply aj.ne|apply aj.split)<;>intro)|(refine aq.pure (Ls l j) ?_)|(simp(disch:=omega)only[↓wr,seval,wq,c,d,f,g,eH]))
  .rename_i h
   simp[sm,<-hi,show l.length<=24 by omega]
  .rename_i h
   simp[sm,<-hi,show ¬ l.length<=24 by omega]
end Gv
