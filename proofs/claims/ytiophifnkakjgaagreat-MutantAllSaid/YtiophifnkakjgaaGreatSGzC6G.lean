/-
  Part 7 of the proof: what the machine does and what the functions answer.
  Conditions: those that each lemma names.
-/
import Derived.Test.YtiophifnkakjgaaGreatSGzC6F
set_option linter.unusedSimpArgs false
set_option linter.unusedVariables false
set_option maxRecDepth 100000
set_option maxHeartbeats 20000000
namespace Gv
noncomputable section
open Go Go.Proofs
inductive dD (h:Heap):V->V->Prop
 | val (v:Value):dD h (.val v) (.val v)
 | emp (k:Nat):dD h (.emp k) (.aZ [])
 | sl (id off len esz z:Nat) (es es':List (List V)):h.view id=.arr z es->off+len<=es.length->es'.length=len ->
  (∀i,i<len->(es'.getD i []).length=(es.getD (off+i) []).length) ->
  (∀i j,i<len->j<(es'.getD i []).length->dD h ((es.getD (off+i) []).getD j .any) ((es'.getD i []).getD j .any))->dD h (.sl id off len esz) (.aZ es')
 | agg (cs cs':List V):cs'.length=cs.length->(∀i,i<cs.length->dD h (cs.getD i .any) (cs'.getD i .any))->dD h (.agg cs) (.agg cs')
 | bb (cs cs':List V):cs'.length=cs.length->(∀i,i<cs.length->dD h (cs.getD i .any) (cs'.getD i .any))->dD h (.bb cs) (.bb cs')
theorem W5 {h:Heap} {Z:Nat->Prop} {μ B:Mu} {F:View} {hp:Array Obj} (hr:eS Z μ hp (cat h F)) {v t:V} (fr:dD h v t):∀ {x:Value},aD Z μ hp v x->aD (kx μ) B hp t x:=by
 have l:∀id,h.view id≠.dead->cat h F id=h.view id:=λid D=>by simp only[cat];rw[aaT (fg D)]
 induction fr with
 | val v=>intro x d;cases d with | val _ s=>exact .val _ s
 | emp k=>intro x d;cases d with | emp _ a=>exact .jx a 0 (λ_=>rfl)
 | sl id off len esz z es es' hH hle hlen E _ m =>
  intro x d
  cases d with
  | rA _ _ _ a =>
   have:es'=[]:=ace.1 hlen
   subst this
   exact .jx a 0 (λ_=>rfl)
  | sl _ _ _ _ b o0 cap c e f hm C J K =>
   have o:=hr.obj id
   rw[l id (by rw[hH];simp),hH] at o
   obtain⟨rfl,_,G,H⟩:=o b o0 esz hm
   have d:∀i,∃ci:Nat->Value,∀j,j<esz->i<len->cellAt hp b (o0+off*esz+i*esz+j)=some (ci j)/\aD Z μ hp ((es.getD (off+i) []).getD j .any) (ci j):=by
    intro i
    by_cases hi:i<len
    .obtain⟨ci,u⟩:=qb (n:=esz) (p:=λj x=>cellAt hp b (o0+off*esz+i*esz+j)=some x/\aD Z μ hp ((es.getD (off+i) []).getD j .any) x) (λj g=>by
      obtain⟨x,d,s⟩:=H (off+i) j (by omega) g
      rw[abz,<-abx] at d
      exact⟨x,d,s⟩)
     exact⟨ci,λj g _=>u j g⟩
    .exact⟨λ_=>undef,λj _ h=>absurd h hi⟩
   obtain⟨I,q⟩:=Classical.axiomOfChoice d
   have r:∀i,i<es'.length->(es'.getD i []).length=esz:=λi hi=>by rw[E i (by omega)];exact G _ (by omega)
   have:=aD.aZ (Z:=kx μ) (μ:=B) (hp:=hp) es' b (o0+off*esz) esz cap I ⟨id,o0,esz,hm⟩ (by omega) r
    (λi j hi g=>(q i j g (by omega)).1) (λi j hi g=>m i j (by omega) (by rw[r i hi];exact g) (q i j g (by omega)).2)
   rw[hlen] at this
   exact this
 | agg cs w hlen _ m =>
  intro x d
  cases d with
  | agg _ y h1 A=>exact .agg _ _ (by omega) (λi hi=>m i (by omega) (A i (by omega)))
 | bb cs w hlen _ m =>
  intro x d
  cases d with
  | bb _ y h1 A=>exact .bb _ _ (by omega) (λi hi=>m i (by omega) (A i (by omega)))
def cg (P:Program) (f:FuncId) (vs:List V) (t:V):Prop:=
 ∀Z μ (w:World) (xs:List Value),gG Z μ w.heap vs xs->(∀b,Z b->b<w.heap.size) ->
  Calls P f xs.toArray w λe w'=>∃x Z',e=.returned x/\(∀ν,aD Z' ν w'.heap t x)/\fa w w'/\(∀b,Z' b->w.heap.size<=b/\b<w'.heap.size)/\gY w.heap w'.heap (λ_=>False)
theorem cg.pure {P:Program} {f:FuncId} {vs:List V} {t:V} (h:cg P f vs t):aC P f vs t:=by
 intro Z μ w xs a d
 refine(h Z μ w xs a d).mono ?_
 rintro e w' ⟨x,g,rfl,i,j,c,k⟩
 exact⟨x,λb=>Z b∨g b,rfl,λl=>(i l).mono ⟨λ_ h=>.inr h,λ_ _=>rfl,λ_ _ h=>h,gj.refl _⟩,j,λ_ h=>.inl h,λb m=>m.imp id (c b),k⟩
theorem cg.zG {P:Program} {f:FuncId} {vs:List V} {r t:V} {k:Heap} (m:∀v∈vs,Tree v) (n:bY P f vs [] r k) (p:dD k r t):cg P f vs t:=by
 intro Z μ w xs a q
 have c:gG Z (λ_=>none) w.heap vs xs:=⟨a.1,λi hi=>zH (a.2 i hi) (by
  simp only[aaP,aaQ hi,aa8]
  exact m _ (aaW _))⟩
 have g:eS Z (λ_=>none) w.heap (cat [] λ_=>.dead):=by
  exact⟨λ_=>trivial,λi j b o s y z _ h=>by simp at h,λid b o s h=>by simp at h,q,λid b o s h=>by simp at h⟩
 refine(n.2 Z _ _ w xs c g (λ_ _ _=>rfl)).mono ?_
 rintro e w' ⟨x,A,μ',rfl,u,l,hex,_⟩
 refine⟨x,kx μ',rfl,λB=>W5 l p u,hex.same,?_,λb d _=>hex.frame b d (by rintro⟨_,_,_,h⟩;simp at h)⟩
 rintro b ⟨id,o,s,d⟩
 rcases hex.GA _ _ _ _ d with h1 | ⟨_,h1 | ⟨_,_,_,h1⟩⟩
 .simp at h1
 .exact⟨h1,l.lt _ _ _ _ d⟩
 .simp at h1
theorem cg.of {P:Program} {f:FuncId} {vs:List V} {t:V} (b:∀v∈vs,Tree v) (h:ay P f vs (λ_=>.dead) λr H'=>∀a:Heap,a.view=H'->dD a r t):cg P f vs t:=by
 obtain⟨r,a,c,_,d⟩:=h.2 [] IV
 exact cg.zG b c (d a rfl)
theorem bY.yp {P:Program} {f:FuncId} {j vs:List V} {t:V} {h:Heap} (v:cg P f j t) (y:j.length=vs.length)
  (l:∀i,i<vs.length->Fr h (vs.getD i .any) (j.getD i .any)):bY P f vs h t h:=by
 refine⟨aaY _,λZ μ F w xs c hr m=>?_⟩
 have n:gG (λb=>Z b∨kx μ b) μ w.heap j xs:=⟨by rw[y,c.1],λi hi=>Ga hr (l i (by omega)) (c.2 i (by omega))⟩
 have p:∀b,(Z b∨kx μ b)->b<w.heap.size:=by
  rintro b (a | ⟨id,o,s,a⟩)
  .exact hr.de b a
  .exact hr.lt _ _ _ _ a
 refine(v _ μ w xs n p).mono ?_
 rintro e w' ⟨x,u,rfl,z,q,d,k⟩
 have hm:iS Z (λb=>Z b∨u b) μ μ w.heap w'.heap:=⟨λ_ h=>.inl h,λb a=>k b (hr.de b a) (λx=>x),λ_ _ h=>h,k.mn⟩
 refine⟨x,λb=>Z b∨u b,μ,rfl,(z μ).mono ⟨λ_ h=>.inr h,λ_ _=>rfl,λ_ _ h=>h,gj.refl _⟩,⟨λid=>(hr.obj id).mono hm rfl (λb o s g=>k b (hr.lt _ _ _ _ g) (λx=>x)),hr.inj,λid b o s g=>abq (hr.lt _ _ _ _ g) q.size,λb a=>?_,λid b o s g r=>?_⟩,
  ⟨q,hm,λb a _=>k b a (λx=>x),λb a=>a.imp id (λh=>(d b h).1),λ_ _ _ _ h=>.inl h⟩,λ_ _=>rfl⟩
 .rcases a with a | a
  .exact abq (hr.de b a) q.size
  .exact(d b a).2
 .rcases r with a | a
  .exact hr.iK _ _ _ _ g a
  .have:=hr.lt _ _ _ _ g;have:=(d b a).1;omega
theorem az.yp {P:Program} {q:Bool} {f:FuncId} {H:View} {vs c:List V} {K:V->View->Prop} {v:dd (H,K)} {t:V} (d:cg P f c t) (a:ec P f=true) (g:c.length=vs.length)
  (b:∀i,i<vs.length->ct H (vs.getD i .any) (c.getD i .any)) (hk:K t H):az P q f vs H K v:=by
 unfold az
 cases q with
 | true=>exact⟨a,λh e=>⟨t,h,bY.yp d g (λi hi=>b i hi h e),λ_ _=>rfl,e▸hk⟩⟩
 | false =>
  refine⟨a,?_⟩
  rintro h rfl
  exact⟨t,h,bY.yp d g (λi hi=>b i hi h rfl),.refl _,hk⟩
def qm (fz:V->Option V):List V->Option (List V)
 | []=>some []
 | v::l=>match fz v,qm fz l with
  | some a,some b=>some (a::b)
  | _,_=>none
def G7 (fz:V->Option V):List (List V)->Option (List (List V))
 | []=>some []
 | v::l=>match qm fz v,G7 fz l with
  | some a,some b=>some (a::b)
  | _,_=>none
def Cq (H:View):Nat->V->Option V
 | 0,_=>none
 | k+1,v=>match v with
  | .val x=>some (.val x)
  | .emp _=>some (.aZ [])
  | .sl id off len _=>match H id with
   | .arr _ es=>if off+len<=es.length then (G7 (Cq H k) ((es.drop off).take len)).map .aZ else none
   | _=>none
  | .agg cs=>(qm (Cq H k) cs).map .agg
  | .bb cs=>(qm (Cq H k) cs).map .bb
  | _=>none
theorem jo {c:V->Option V}:∀(l l':List V),qm c l=some l'->l'.length=l.length/\∀i,i<l.length->c (l.getD i .any)=some (l'.getD i .any)
 | [],l',h=>by simp only[qm,aaV] at h;subst h;exact⟨rfl,λi hi=>by simp at hi⟩
 | v::l,l',h=>by
  simp only[qm] at h
  split at h
  .rename_i a b h1 d
   simp only[aaV] at h;subst h
   obtain⟨g1,g2⟩:=jo l b d
   refine⟨by simp[g1],λi hi=>?_⟩
   cases i with
   | zero=>exact h1
   | succ i=>exact g2 i (by simpa using hi)
  .simp at h
theorem HF {c:V->Option V}:∀(l l':List (List V)),G7 c l=some l'->l'.length=l.length/\∀i,i<l.length->qm c (l.getD i [])=some (l'.getD i [])
 | [],l',h=>by simp only[G7,aaV] at h;subst h;exact⟨rfl,λi hi=>by simp at hi⟩
 | v::l,l',h=>by
  simp only[G7] at h
  split at h
  .rename_i a b h1 d
   simp only[aaV] at h;subst h
   obtain⟨g1,g2⟩:=HF l b d
   refine⟨by simp[g1],λi hi=>?_⟩
   cases i with
   | zero=>exact h1
   | succ i=>exact g2 i (by simpa using hi)
  .simp at h
theorem Nr (h:Heap):∀(k:Nat) (v t:V),Cq h.view k v=some t->dD h v t
 | 0,v,t,a=>by simp[Cq] at a
 | k+1,v,t,a=>by
  have b:=Nr h k
  simp only[Cq] at a
  split at a
  .simp only[aaV] at a;subst a;exact .val _
  .simp only[aaV] at a;subst a;exact .emp _
  .rename_i id off len esz
   split at a
   .rename_i z es hH
    split at a
    .rename_i hle
     simp only[aa0] at a
     obtain⟨es',he,rfl⟩:=a
     obtain⟨g1,g2⟩:=HF _ _ he
     have hlen:es'.length=len:=by rw[g1];simp;omega
     have d:∀i,i<len->((es.drop off).take len).getD i []=es.getD (off+i) []:=λi hi=>by
      simp[aaP,ab3,hi]
     have g3:∀i,i<len->qm (Cq h.view k) (es.getD (off+i) [])=some (es'.getD i []):=λi hi=>by
      rw[<-d i hi];exact g2 i (by rw[<-g1,hlen];exact hi)
     exact .sl id off len esz z es es' hH hle hlen (λi hi=>(jo _ _ (g3 i hi)).1) (λi j hi e=>b _ _ ((jo _ _ (g3 i hi)).2 j (by rw[<-(jo _ _ (g3 i hi)).1];exact e)))
    .simp at a
   .simp at a
  .simp only[aa0] at a
   obtain⟨l,c,rfl⟩:=a
   obtain⟨g1,g2⟩:=jo _ _ c
   exact .agg _ _ g1 (λi hi=>b _ _ (g2 i hi))
  .simp only[aa0] at a
   obtain⟨l,c,rfl⟩:=a
   obtain⟨g1,g2⟩:=jo _ _ c
   exact .bb _ _ g1 (λi hi=>b _ _ (g2 i hi))
  .simp at a
def WL:Option (V × ES)->Option V
 | some (v,e)=>Cq e.V 50 v
 | none=>none
def uY (P:Program) (tab:List (FuncId × DF)) (ext:BY) (f:FuncId) (vs:List V):Option V:=
 WL (JL P tab ext (Kc P tab ext 100000) f vs ⟨.nil,.nil,0,[]⟩)
theorem qM {P:Program} (hm:P.follows .mixedOrders=true) {tab:List (FuncId × DF)} {ext:BY} (b:sE P tab) (c:vD P ext) {f:FuncId} {vs:List V} {t:V} (a:∀v∈vs,Tree v) (h:uY P tab ext f vs=some t):
  cg P f vs t:=by
 unfold uY WL at h
 split at h
 .rename_i v e hr
  obtain⟨h1,d,g,i,_⟩:=Mv b c (Oh hm b c 100000) f vs _ v e [] hr ⟨by funext k;rfl,rfl⟩
  rw[i.1] at h
  exact cg.zG a g (Nr d 50 v t h)
 .simp at h
def CG (P:Program) (fs:List (FuncId × List Nat)):List (FuncId × DF):=fs.filterMap λf=>(Lb P f.1 f.2).map (f.1,·)
theorem vL (P:Program) (a:List (FuncId × List Nat)):sE P (CG P a):=by
 intro p hp
 obtain⟨f,_,h⟩:=ach.1 hp
 simp only[aa0] at h
 obtain⟨d,h1,rfl⟩:=h
 exact⟨f.2,h1⟩
structure aj.c6 (g:aj):Prop where
 ax:g.ax.length<=24
 lp:1<=g.av.length
 av:g.av.length<=16
 aaM:1<=g.rules.length
 rules:g.rules.length<=40
 lB:0<=g.start
 start:g.start<g.av.length
 left:∀r∈g.rules,0<=r.left/\r.left<g.av.length
 right:∀r∈g.rules,r.right.length<=6
 sym:∀r∈g.rules,∀s∈r.right,dP g s=true
 prec:∀r∈g.rules,-1<=r.prec/\r.prec<g.ax.length
theorem IP {g:aj}:∀(l:List bc) (top:Int),kP g l top=true->top<=(g.av.length:Int)-1/\∀r∈l,0<=r.left/\r.left<g.av.length/\kF g r=true
 | [],top,h=>by simp[kP] at h;exact⟨by omega,λr hr=>by simp at hr⟩
 | r::l,top,h=>by
  simp only[kP,aaZ,aa5] at h
  obtain⟨⟨⟨h1,d⟩,a⟩,b⟩:=h
  obtain⟨e,k2⟩:=IP l _ b
  have f:r.left<=(if r.left>top then r.left else top):=by split<;>omega
  have i:top<=(if r.left>top then r.left else top):=by split<;>omega
  refine⟨by omega,λc hr=>?_⟩
  rcases abd.1 hr with rfl | hr
  .exact⟨h1,by omega,a⟩
  .exact k2 c hr
theorem bE {g:aj} (h:bt g=true):g.c6:=by
 simp only[bt,na,nV,aaZ,aa5] at h
 obtain⟨⟨⟨⟨⟨⟨⟨h1,_⟩,⟨b,c⟩,_⟩,d⟩,e⟩,f⟩,i⟩,j⟩:=h
 have k:=(IP _ _ j).2
 have a:∀r∈g.rules,r.right.length<=6/\-1<=r.prec/\r.prec<g.ax.length/\∀s∈r.right,dP g s=true:=λr hr=>by
  have:=(k r hr).2.2
  simp only[kF,aaZ,aa5,abj,rQ] at this
  exact⟨this.1.1.1,this.1.1.2,this.1.2,λs l=>(this.2 s l).1⟩
 exact⟨h1,b,c,d,e,f,i,λr hr=>⟨(k r hr).1,(k r hr).2.1⟩,λr hr=>(a r hr).1,λr hr=>(a r hr).2.2.2,λr hr=>⟨(a r hr).2.1,(a r hr).2.2.1⟩⟩
theorem aj.c6.neg {g:aj} (h:g.c6) {r:bc} (hr:r∈g.rules) {s:Int} (a:s∈r.right) (b:s<0) : -1-s<g.av.length:=by
 have:=h.sym r hr s a
 simp only[dP] at this
 rw[aaR (by omega)] at this
 simpa using this
theorem LA (l:List Int) (is:List Bool) (t:Bool) (b:aI l) (c:∀s∈l,bm s/\(s<0->-1-s<is.length)):aC aa 95 [encI l,bX is,gb t] (gb (fA l is t)):=
 aC.val (by
  intro v a;simp at a
  rcases a with rfl | rfl | rfl
  .exact bC _
  .exact j9 _
  .exact .val _) (λH=>(Yt l is t b c H).mono λr H' h=>h.1)
abbrev bU (is:List Bool):List (List V):=is.map λx=>[gb x]
theorem sM {h:Heap} {id:Nat} {is:List Bool} (b:h.view id=.arr 1 (bU is)):dD h (.sl id 0 is.length 1) (bX is):=by
 refine .sl id 0 is.length 1 1 (bU is) _ b (by simp) (by simp) (λi hi=>by simp) (λi j hi a=>?_)
 rw[abE]
 have e:(bU is).getD i []=[gb is[i]]:=by simp[aaP,hi]
 rw[e] at a ⊢
 have:j=0:=by simp at a;omega
 subst this
 exact .val _
theorem Fk {H:View} {id n:Nat} {is:List Bool} (b:H id=.arr 1 (bU is)) (c:n=is.length):ct H (.sl id 0 n 1) (bX is):=by
 have d:∀e∈bU is,∀v∈e,Tree v:=by
  intro e he v b
  obtain⟨a,_,rfl⟩:=aba.1 he
  rw[abN] at b
  subst b
  exact .val _
 have:=ct.sl (off:=0) (len:=n) (esz:=1) b (by simp[c]) d
 rwa [abP,aa6 (by simp[c])] at this
theorem my {is:List Bool} {i:Nat} (h:i<is.length):(bU is).getD i []=[gb is[i]]:=by simp[aaP,h]
theorem iJ (is:List Bool) (i:Nat) (b:Bool):(bU is).set i [gb b]=bU (is.set i b):=by simp[acB]
theorem Bx (n:Nat) (b:Bool):List.replicate n [gb b]=bU (List.replicate n b):=by simp
def iter {α:Type} (f:α->α):Nat->α->α
 | 0,x=>x
 | n+1,x=>iter f n (f x)
def fq (t:Bool) (is:List Bool) (r:bc):List Bool:=if fA r.right is t=true then is.set r.left.toNat true else is
def lK (g:aj) (t:Bool) (is:List Bool):List Bool:=g.rules.foldl (fq t) is
def cM (g:aj):List Bool:=List.replicate g.av.length false
def bj (g:aj) (t:Bool):List Bool:=if bt g=true then iter (lK g t) g.av.length (cM g) else []
theorem QB (t:Bool) (is:List Bool) (r:bc):(fq t is r).length=is.length:=by unfold fq;split<;>simp
def pD:SC:=
 ai [ai [ag [af 22 7,aw 23 2 2,au 24 23,aN 25 24,aS 26 .lss 22 25],bP 26 (.exit 2)],.block 3 (ai [ag [aw 29 2 2,au 30 29,af 31 7,aL 32 3 30 31,aw 33 1 32,au 34 33,af 35 5,af 36 1,aV 37 95 [34,35,36]],aX 37 (ag [af 38 5,aw 39 2 2,au 40 39,af 41 7,aL 42 3 40 41,aw 43 0 42,au 44 43,aL 45 1 38 44,(none,.op (.store 1 (.tmp 45) (.val (.val (.bool true)))))])]),ag [af 27 7,aH 28 .add 27 1,af 7 28]]
def pN:SC:=
 ai [ai [ag [af 15 6,aw 16 1 2,au 17 16,aN 18 17,aS 19 .lss 15 18],bP 19 (.exit 0)],.block 1 (ai [ag [aT 7 0],bQ 2 pD]),ag [af 20 6,aH 21 .add 20 1,af 6 21]]
def ry:SF:=⟨ai [ag [cm 2 0,bT 4 1],ai [ag [aU 8 4 2,aV 9 50 [8],cR 10 9],aX 10 (ai [ag [bT 4 1],.ret])],ag [aw 11 1 2,au 12 11,aN 13 12,((some 14),.op (.make 1 1 [(.val (.bool false))] (.tmp 13) (.tmp 13))),af 5 14],ai [ag [aT 6 0],bQ 0 pN],ag [af 46 5,af 4 46],.ret],
 [.tmp 4],47⟩
theorem xZ:aJ aa 165 [2]=some ry:=by kernel_rfl
def mq:SF:=⟨ai [ag [cm 1 0,bT 2 1],ag [aU 3 4 1,oz 4 165 [(.tmp 3),(.val (.val (.bool true)))],af 2 4],.ret],
 [.tmp 2],5⟩
theorem s6:aJ aa 93 [1]=some mq:=by kernel_rfl
theorem UO (g:aj) (t:Bool):∀v∈[V.agg (ak g),gb t],Tree v:=by
 intro v a;simp at a
 rcases a with rfl | rfl
 .exact bW _ (cx g)
 .exact .val _
theorem Wo (g:aj) (C:g.Ok) (t:Bool) (H:View):ay aa 165 [.agg (ak g),gb t] H λr H'=>∀w:Heap,w.view=H'->dD w r (bX (bj g t)):=by
 refine ay.of mixed xZ ?_
 simp(disch:=omega)only[↓wr,seval,wq,ry,ak,encS]
 refine az.pure (j7 g C) ?_
 repeat' (first | ((first|apply ao.dec|apply ao.eq|apply ao.ne|apply ao.split)<;>intro)|(simp(disch:=omega)only[↓wr,seval,wq,ak,encS]))
 .rename_i hr
  have u:=bE hr
  obtain⟨E,F⟩:=And.intro u.lp u.av
  refine⟨⟨by omega,by unfold aF;omega,by unfold aF;omega⟩,λP=>by omega,λ_ m hm=>?_⟩
  try simp(disch:=omega)only[↓wr,seval,wq,ak,encS]
  refine aW.intro (λk T H'=>∃(i:Nat) (is:List Bool),i+k=g.av.length/\is.length=g.av.length/\iter (lK g t) k is=iter (lK g t) g.av.length (cM g)/\T 1=gb t/\T 2=.aR (ak g) 0/\T 5=.sl m 0 g.av.length 1/\H' m=.arr 1 (bU is)/\T 6=gi i) g.av.length ?_ ?_
  .refine⟨0,cM g,by omega,by simp[cM],rfl,?_⟩
   simp(disch:=omega)only[↓wr,↓reduceIte,wq,Nat.reduceEqDiff,Nat.reduceAdd,Nat.reduceLT,Nat.reduceLeDiff,Int.reduceNeg,Int.reduceToNat,reduceCtorEq,ak,encS]
   exact⟨by rw[Bx];rfl,rfl⟩
  .rintro k T H' ⟨i,is,hk,hlen,hi,f1,f2,f5,y,f6⟩
   simp(disch:=omega)only[↓wr,seval,wq,pN,f1,f2,f5,f6,ak,encS]
   apply ao.dec<;>intro G
   .simp(disch:=omega)only[↓wr,seval,wq,f1,f2,f5,f6,ak,encS]
    refine aW.intro (λx T H'=>∃(j:Nat) (a:List Bool),j+x=g.rules.length/\a.length=g.av.length/\(g.rules.drop j).foldl (fq t) a=lK g t is/\T 1=gb t/\T 2=.aR (ak g) 0/\T 5=.sl m 0 g.av.length 1/\H' m=.arr 1 (bU a)/\T 6=gi i/\T 7=gi j) g.rules.length ?_ ?_
    .refine⟨0,is,by omega,hlen,rfl,?_⟩
     simp(disch:=omega)only[↓wr,↓reduceIte,wq,Nat.reduceEqDiff,Nat.reduceAdd,Nat.reduceLT,Nat.reduceLeDiff,Int.reduceNeg,Int.reduceToNat,reduceCtorEq,f1,f2,f5,f6,y,ak,encS]
     rfl
    .rintro x Q I ⟨j,a,J,b,d,h,l,n,em,o,p⟩
     simp(disch:=omega)only[↓wr,seval,wq,pD,h,l,n,o,p,ak]
     apply ao.dec<;>intro K
     .have hle:=u.rules
      have e:g.rules[j]?=some (g.rules[j]'(by omega)):=aaQ (by omega)
      rw[eM (show j<g.rules.length by omega)] at d
      have c:g.rules[j]'(by omega)∈g.rules:=aaW _
      generalize g.rules[j]'(by omega)=r at e d c
      simp only[abF] at d
      obtain⟨L,M⟩:=u.left r c
      obtain⟨_,_,z,A⟩:=C.aB r c
      have v:=LA r.right a t z (λs D=>⟨A s D,λN=>by have:=u.neg c D N;omega⟩)
      simp(disch:=omega)only[↓wr,seval,wq,h,l,n,o,p,ak,encS,aQ,aaS,e,aa2]
      refine az.borrow v (by kernel_rfl) (.val _) rfl (λq O=>?_) ?_
      .match q,O with
       | 0,_=>exact ct.tree (bC _)
       | 1,_=>exact Fk em b.symm
       | 2,_=>exact ct.tree (.val _)
      .simp(disch:=omega)only[↓wr,seval,wq,h,l,n,o,p,ak,encS,aQ,aaS,e,aa2]
       apply ao.split<;>intro B
       .have f:fq t a r=a.set r.left.toNat true:=by rw[fq,aaT B]
        simp(disch:=omega)only[↓wr,seval,wq,h,l,n,o,p,em,ak,encS,aQ,aaS,e,aa2,my (show r.left.toNat<a.length by omega)]
        rw[f] at d
        exact⟨by omega,by omega,x-1,by omega,j+1,a.set r.left.toNat true,by omega,by simp[b],d,by rw[iJ],rfl⟩
       .have f:fq t a r=a:=by rw[fq,aaR (by rw[B];simp)]
        rw[f] at d
        simp(disch:=omega)only[↓wr,seval,wq,h,l,n,o,p]
        exact⟨x-1,by omega,j+1,a,by omega,b,d,by first | rfl | exact⟨rfl,rfl⟩ | exact⟨em,rfl⟩ | exact⟨rfl,em,rfl⟩⟩
     .rw[abg (by omega),acY] at d
      simp(disch:=omega)only[↓wr,seval,wq,h,l,n,o,p]
      obtain⟨q,rfl⟩:∃q,k=q+1:=⟨k-1,by omega⟩
      exact⟨q,by omega,i+1,a,by omega,b,by rw[d];exact hi,rfl,em,rfl⟩
   .simp(disch:=omega)only[↓wr,seval,wq,f1,f2,f5,f6,y]
    have:k=0:=by omega
    subst this
    rintro w rfl
    simp only[bj,aaT hr,<-hi,iter]
    rw[<-hlen]
    exact sM y
 .rename_i hr
  rintro w rfl
  simp only[bj,hr]
  exact .emp 1
theorem Vf (g:aj) (a:g.Ok) (t:Bool):cg aa 165 [.agg (ak g),gb t] (bX (bj g t)):=cg.of (UO g t) (Wo g a t _)
theorem EH (g:aj) (a:g.Ok) (H:View):ay aa 93 [.agg (ak g)] H λr H'=>r=bX (bj g true)/\H'=H:=by
 refine ay.of mixed s6 ?_
 simp(disch:=omega)only[↓wr,seval,wq,mq,ak,encS]
 refine az.pure (Vf g a true).pure ?_
 simp(disch:=omega)only[↓wr,seval,wq,ak,encS]
theorem wY (g:aj) (a:g.Ok):aC aa 93 [.agg (ak g)] (bX (bj g true)):=
 aC.of (dS g) ((EH g a _).mono λr H' h b _=>by rw[h.1];exact .tree _ (j9 _))
def mark (is:List Bool) (s:Int):List Bool:=if s<0 then is.set (-1-s).toNat true else is
def iZ (p is:List Bool) (r:bc):List Bool:=if (is.getD r.left.toNat false&&fA r.right p true)=true then r.right.foldl mark is else is
def tg (g:aj) (p is:List Bool):List Bool:=g.rules.foldl (iZ p) is
def cW (g:aj):List Bool:=if bt g=true then iter (tg g (bj g true)) g.av.length ((cM g).set g.start.toNat true) else []
theorem VD (is:List Bool) (s:Int):(mark is s).length=is.length:=by unfold mark;split<;>simp
theorem Im:∀(l:List Int) (is:List Bool),(l.foldl mark is).length=is.length
 | [],_=>rfl
 | s::l,is=>by rw[abF,Im l,VD]
theorem Ug (p is:List Bool) (r:bc):(iZ p is r).length=is.length:=by unfold iZ;split<;>simp[Im]
theorem Er {f:List Bool->List Bool} (a:∀is,(f is).length=is.length):∀(n:Nat) (is:List Bool),(iter f n is).length=is.length
 | 0,_=>rfl
 | n+1,is=>by rw[iter,Er a n,a]
theorem D2 {α:Type} {f:List Bool->α->List Bool} (a:∀is x,(f is x).length=is.length):∀(l:List α) (is:List Bool),(l.foldl f is).length=is.length
 | [],_=>rfl
 | x::l,is=>by rw[abF,D2 a l,a]
theorem jn {g:aj} (h:bt g=true) (t:Bool):(bj g t).length=g.av.length:=by
 have a:∀is,(lK g t is).length=is.length:=λis=>D2 (QB t) _ _
 rw[bj,aaT h,Er a]
 simp[cM]
def lS:SC:=
 ai [ai [.region false [⟨none,[af 41 8,aw 42 1 7,au 43 42,aN 44 43,aS 45 .lss 41 44,af 46 45]⟩,⟨(some (46,true)),[af 47 4,aw 48 0 7,au 49 48,aL 50 1 47 49,au 51 50]⟩,⟨none,[dO 52 46 51,af 53 52]⟩,⟨(some (53,true)),[aw 54 1 7,au 55 54,af 56 3,oz 57 95 [(.tmp 55),(.tmp 56),(.val (.val (.bool true)))]]⟩,⟨none,[dO 58 53 57]⟩],bP 58 (.exit 4)],.block 5 (ai [ag [aw 61 1 7,au 62 61,af 63 8,aL 64 1 62 63,au 65 64,aH 66 .lss 65 0],aX 66 (ag [af 67 4,aw 68 1 7,au 69 68,af 70 8,aL 71 1 69 70,au 72 71,((some 73),.op (.arith .sub (.val (.val (.int .i64 (-1)))) (.tmp 72))),aL 74 1 67 73,(none,.op (.store 1 (.tmp 74) (.val (.val (.bool true)))))])]),ag [af 59 8,aH 60 .add 59 1,af 8 60]]
def lV:SC:=
 ai [ai [ag [af 29 6,aw 30 2 1,au 31 30,aN 32 31,aS 33 .lss 29 32],bP 33 (.exit 2)],.block 3 (ai [ag [aw 36 2 1,au 37 36,af 38 6,aL 39 3 37 38,aU 40 3 39,((some 7),.op (.alloc [(.val (.int .i64 0)),(.emp 1),(.val (.int .i64 0))])),cz 3 7 40],ag [aT 8 0],bQ 4 lS]),ag [af 34 6,aH 35 .add 34 1,af 6 35]]
def lY:SC:=
 ai [ai [ag [af 22 5,aw 23 1 1,au 24 23,aN 25 24,aS 26 .lss 22 25],bP 26 (.exit 0)],.block 1 (ai [ag [aT 6 0],bQ 2 lV]),ag [af 27 5,aH 28 .add 27 1,af 5 28]]
def nI:SF:=⟨ai [ag [cm 1 0,bT 2 1],ai [ag [aU 9 4 1,aV 10 50 [9],cR 11 10],aX 11 (ai [ag [bT 2 1],.ret])],ag [aU 12 4 1,aV 13 93 [12],af 3 13],ag [aw 14 1 1,au 15 14,aN 16 15,((some 17),.op (.make 1 1 [(.val (.bool false))] (.tmp 16) (.tmp 16))),af 4 17],ag [af 18 4,aw 19 3 1,au 20 19,aL 21 1 18 20,(none,.op (.store 1 (.tmp 21) (.val (.val (.bool true)))))],ai [ag [aT 5 0],bQ 0 lY],ag [af 75 4,af 2 75],.ret],
 [.tmp 2],76⟩
theorem tQ:aJ aa 94 [1]=some nI:=by kernel_rfl
theorem Wj {l:List Bool} {i j:Nat} (h:l.getD j false=true):(l.set i true).getD j false=true:=by
 simp only[aaP,abI] at h ⊢
 by_cases e:i=j
 .subst e
  by_cases hi:i<l.length
  .simp[hi]
  .rw[abr (by omega)] at h;simp at h
 .rw[aaR e];exact h
theorem VK {H:View} {m n:Nat} {o:cr} (hm:H m=o) (a:H n=.dead) (b:o≠.dead):m≠n:=by rintro rfl;exact b (hm.symm.trans a)
theorem Hy (g:aj) (Y:g.Ok) (H:View):ay aa 94 [.agg (ak g)] H λr H'=>∀X:Heap,X.view=H'->dD X r (bX (cW g)):=by
 refine ay.of mixed tQ ?_
 simp(disch:=omega)only[↓wr,seval,wq,nI,ak,encS]
 refine az.pure (j7 g Y) ?_
 repeat' (first | ((first|apply ao.dec|apply ao.eq|apply ao.ne|apply ao.split)<;>intro)|(simp(disch:=omega)only[↓wr,seval,wq,ak,encS]))
 .rename_i hr
  have y:=bE hr
  obtain⟨a1,a6⟩:=And.intro y.lp y.av
  refine az.pure (wY g Y) ?_
  have Z:=jn hr true
  have n:cW g=iter (tg g (bj g true)) g.av.length ((cM g).set g.start.toNat true):=by rw[cW,aaT hr]
  generalize bj g true=p at Z n
  have o:=y.lB
  have aq:=y.start
  have I:List.replicate g.av.length [V.val (Value.bool false)]=bU (cM g):=Bx _ _
  have ab:(cM g).length=g.av.length:=by simp[cM]
  simp(disch:=omega)only[↓wr,seval,wq,ak,encS]
  refine⟨⟨by omega,by unfold aF;omega,by unfold aF;omega⟩,λhz=>by omega,λ_ m hm=>?_⟩
  rw[I]
  have ae:(bU (cM g)).getD g.start.toNat []=[gb ((cM g)[g.start.toNat]'(by omega))]:=my (by omega)
  simp(disch:=omega)only[↓wr,seval,wq,ak,encS,my (show g.start.toNat<(cM g).length by omega),iJ,aaU]
  refine⟨by omega,by omega,?_⟩
  refine aW.intro (λk T H'=>∃(i:Nat) (is:List Bool),i+k=g.av.length/\is.length=g.av.length/\iter (tg g p) k is=cW g/\T 1=.aR (ak g) 0/\T 3=bX p/\T 4=.sl m 0 g.av.length 1/\H' m=.arr 1 (bU is)/\T 5=gi i) g.av.length ?_ ?_
  .refine⟨0,(cM g).set g.start.toNat true,by omega,by simp[ab],n.symm,?_⟩
   simp(disch:=omega)only[↓wr,↓reduceIte,wq,Nat.reduceEqDiff,Nat.reduceAdd,Nat.reduceLT,Nat.reduceLeDiff,Int.reduceNeg,Int.reduceToNat,reduceCtorEq,ak,encS]
   rw[ae]
   exact⟨by rw[<-iJ];rfl,rfl⟩
  .rintro k T H' ⟨i,is,hk,hlen,hi,f1,f3,f4,fm,f5⟩
   simp(disch:=omega)only[↓wr,seval,wq,lY,f1,f3,f4,f5,ak,encS]
   apply ao.dec<;>intro hc
   .simp(disch:=omega)only[↓wr,seval,wq,f1,f3,f4,f5,ak,encS]
    refine aW.intro (λJ T H'=>∃(j:Nat) (d:List Bool),j+J=g.rules.length/\d.length=g.av.length/\(g.rules.drop j).foldl (iZ p) d=tg g p is/\T 1=.aR (ak g) 0/\T 3=bX p/\T 4=.sl m 0 g.av.length 1/\H' m=.arr 1 (bU d)/\T 5=gi i/\T 6=gi j) g.rules.length ?_ ?_
    .refine⟨0,is,by omega,hlen,rfl,?_⟩
     simp(disch:=omega)only[↓wr,seval,wq,f1,f3,f4,f5,fm,ak,encS]
     first | done | exact⟨rfl,rfl⟩ | rfl
    .rintro J T' a7 ⟨j,d,a8,t,C,K,L,M,em,N,O⟩
     simp(disch:=omega)only[↓wr,seval,wq,lV,K,L,M,N,O,ak]
     apply ao.dec<;>intro hd
     .have hle:=y.rules
      have P:g.rules[j]?=some (g.rules[j]'(by omega)):=aaQ (by omega)
      rw[eM (show j<g.rules.length by omega)] at C
      have f:g.rules[j]'(by omega)∈g.rules:=aaW _
      generalize g.rules[j]'(by omega)=r at P C f
      simp only[abF] at C
      obtain⟨bd,bl⟩:=y.left r f
      obtain⟨_,_,al,Q⟩:=Y.aB r f
      have bn:=y.right r f
      have R:=LA r.right p true al (λs hs=>⟨Q s hs,λhn=>by have:=y.neg f hs hn;omega⟩)
      simp(disch:=omega)only[↓wr,seval,wq,K,L,M,N,O,ak,encS,aQ,encI,aaS,P,aa2]
      intro b hb
      have S:m≠b:=VK em hb (by simp)
      try simp(disch:=omega)only[↓wr,seval,wq,K,L,M,N,O,ak,encS,aQ,encI]
      refine aW.intro (λq T H'=>∃(a:Nat) (c:List Bool),a+q=r.right.length/\c.length=g.av.length/\(r.right.drop a).foldl mark c=r.right.foldl mark d/\((a=0/\c=d)∨((d.getD r.left.toNat false&&fA r.right p true)=true/\c.getD r.left.toNat false=true)) /\
       T 1=.aR (ak g) 0/\T 3=bX p/\T 4=.sl m 0 g.av.length 1/\H' m=.arr 1 (bU c)/\T 5=gi i/\T 6=gi j/\T 7=.ptr b 0 0/\H' b=.arr 3 [aQ r]/\T 8=gi a) r.right.length ?_ ?_
      .refine⟨0,d,by omega,t,rfl,.inl ⟨rfl,rfl⟩,?_⟩
       simp(disch:=omega)only[↓wr,↓reduceIte,wq,Nat.reduceEqDiff,Nat.reduceAdd,Nat.reduceLT,Nat.reduceLeDiff,Int.reduceNeg,Int.reduceToNat,reduceCtorEq,K,L,M,N,O,em,S,ak,encS,aQ]
       exact⟨rfl,rfl⟩
      .rintro q T3 H3 ⟨a,c,hq,e,w,h,d1,d3,d4,z,d5,d6,d7,x,d8⟩
       simp(disch:=omega)only[↓wr,seval,wq,lS,d1,d3,d4,d5,d6,d7,d8,x,aQ,encI]
       have U:c[r.left.toNat]?=some (c[r.left.toNat]'(by omega)):=aaQ (by omega)
       have l:c.getD r.left.toNat false=c[r.left.toNat]'(by omega):=by simp[aaP,U]
       have A:=my (show r.left.toNat<c.length by omega)
       have W:(d.getD r.left.toNat false&&fA r.right p true)=false->iZ p d r=c:=λG=>by
        rcases h with ⟨_,rfl⟩ | ⟨h1,_⟩
        .rw[iZ,G];rfl
        .rw[G] at h1;simp at h1
       generalize c[r.left.toNat]'(by omega)=tl at U l A
       apply ao.dec<;>intro ht
       .have D:r.right[a]?=some (r.right[a]'(by omega)):=aaQ (by omega)
        rw[eM (show a<r.right.length by omega)] at w
        have E:r.right[a]'(by omega)∈r.right:=aaW _
        generalize r.right[a]'(by omega)=s at D w E
        simp only[abF] at w
        have an:=Q s E
        simp(disch:=omega)only[↓wr,seval,wq,d1,d3,d4,d5,d6,d7,d8,x,z,aQ,encI,A,aaU]
        refine⟨by omega,by omega,?_⟩
        apply ao.split<;>intro u
        .simp(disch:=omega)only[↓wr,seval,wq,d1,d3,d4,d5,d6,d7,d8,x,z,aQ,encI,A,aaU]
         refine az.pure R ?_
         simp(disch:=omega)only[↓wr,seval,wq,d1,d3,d4,d5,d6,d7,d8,x,z,aQ,encI]
         apply ao.split<;>intro F
         .simp(disch:=omega)only[↓wr,seval,wq,d1,d3,d4,d5,d6,d7,d8,x,z,aQ,encI,aaS,D,aa2]
          have G:(d.getD r.left.toNat false&&fA r.right p true)=true/\c.getD r.left.toNat false=true:=by
           rcases h with ⟨_,rfl⟩ | h1
           .exact⟨by rw[l,u,F];rfl,by rw[l,u]⟩
           .exact h1
          apply ao.dec<;>intro B
          .have br:=y.neg f E B
           have ar:=an.1
           have v:mark c s=c.set (-1-s).toNat true:=by rw[mark,aaT B]
           simp(disch:=omega)only[↓wr,seval,wq,d1,d3,d4,d5,d6,d7,d8,x,z,aQ,encI,aaS,D,aa2,my (show (-1-s).toNat<c.length by omega),aaU,S.symm]
           rw[v] at w
           exact⟨by omega,by omega,q-1,by omega,a+1,c.set (-1-s).toNat true,by omega,by simp[e],w,.inr ⟨G.1,Wj G.2⟩,by rw[iJ],by first | rfl | exact⟨rfl,rfl⟩⟩
          .have v:mark c s=c:=by rw[mark,aaR B]
           rw[v] at w
           simp(disch:=omega)only[↓wr,seval,wq,d1,d3,d4,d5,d6,d7,d8,x,z]
           exact⟨q-1,by omega,a+1,c,by omega,e,w,.inr G,by first | rfl | exact⟨rfl,rfl⟩ | exact⟨rfl,rfl,rfl⟩⟩
         .simp(disch:=omega)only[↓wr,seval,wq,d1,d3,d4,d5,d6,d7,d8,x,z,aQ,encI]
          have o:=W (by rw[F,acr])
          exact⟨J-1,by omega,j+1,c,by omega,e,by rw[<-o];exact C,rfl,rfl,rfl⟩
        .simp(disch:=omega)only[↓wr,seval,wq,d1,d3,d4,d5,d6,d7,d8,x,z,aQ,encI,A,aaU]
         have o:iZ p d r=c:=by
          rcases h with ⟨_,rfl⟩ | ⟨_,h1⟩
          .rw[iZ,l,u];rfl
          .rw[l,u] at h1;simp at h1
         exact⟨J-1,by omega,j+1,c,by omega,e,by rw[<-o];exact C,rfl,rfl,rfl⟩
       .simp(disch:=omega)only[↓wr,seval,wq,d1,d3,d4,d5,d6,d7,d8,x,z,aQ,encI]
        rw[abg (by omega),acY] at w
        have o:iZ p d r=c:=by
         rcases h with ⟨h0,rfl⟩ | ⟨h1,_⟩
         .unfold iZ
          split
          .exact w.symm
          .rfl
         .rw[iZ,aaT h1];exact w.symm
        exact⟨J-1,by omega,j+1,c,by omega,e,by rw[<-o];exact C,rfl,rfl,rfl⟩
     .rw[abg (by omega),acY] at C
      simp(disch:=omega)only[↓wr,seval,wq,K,L,M,N,O]
      obtain⟨q,rfl⟩:∃q,k=q+1:=⟨k-1,by omega⟩
      exact⟨q,by omega,i+1,d,by omega,t,by rw[C];exact hi,rfl,em,rfl⟩
   .simp(disch:=omega)only[↓wr,seval,wq,f1,f3,f4,f5,fm]
    have:k=0:=by omega
    subst this
    rintro X rfl
    simp only[<-hi,iter]
    rw[<-hlen]
    exact sM fm
 .rename_i hr
  rintro X rfl
  simp only[cW,hr]
  exact .emp 1
theorem HE (g:aj) (a:g.Ok):cg aa 94 [.agg (ak g)] (bX (cW g)):=cg.of (dS g) (Hy g a _)
def BD:List (FuncId × DF):=CG aa [(224,[]),(223,[]),(296,[]),(297,[])]
theorem wC:sE aa BD:=vL _ _
theorem QO (P:Program):vD P (λ_ _ _=>none):=λ_ _ _ _ h=>by simp at h
def Y2 (o:Option V) (b:Bool):Bool:=match o with
 | some (.val (.bool c))=>c==b
 | _=>false
theorem YF {o:Option V} {b:Bool} (h:Y2 o b=true):o=some (gb b):=by
 unfold Y2 at h
 split at h
 .rw[abQ] at h;rw[h]
 .simp at h
def BC (tab:List (FuncId × DF)) (f:FuncId) (p:Int->Bool):Bool:=(List.range 256).all λc=>Y2 (uY aa tab (λ_ _ _=>none) f [gy (c:Int)]) (p (c:Int))
theorem zk {tab:List (FuncId × DF)} (b:sE aa tab) {f:FuncId} {p:Int->Bool} (h:BC tab f p=true) (c:Int) (d:0<=c) (h1:c<=255):aC aa f [gy c] (gb (p c)):=by
 have:=abj.1 h c.toNat (by simp;omega)
 rw[show ((c.toNat:Nat):Int)=c by omega] at this
 exact(qM mixed b (QO _) (by intro v a;simp at a;subst a;exact .val _) (YF this)).pure
def Bk (c:Int):Bool:=decide (32<=c)&&decide (c<=126)&&c != 39&&c != 92
def HD (c:Int):Bool:=c==110||c==116||c==92||c==39
theorem Qi:BC BD 223 x9=true:=by kernel_rfl
theorem RR:BC BD 224 qn=true:=by kernel_rfl
theorem T6:BC BD 296 Bk=true:=by kernel_rfl
theorem Xb:BC BD 297 HD=true:=by kernel_rfl
theorem Jg {s:ByteArray} {c:Int} (h:c∈gK s):0<=c/\c<=255:=by
 unfold gK at h
 obtain⟨b,_,rfl⟩:=aba.1 h
 have:=b.toNat_lt
 omega
theorem TZ (s:ByteArray):iA s=(gK s).map λx=>[gy x]:=by simp[iA,gK]
def N9:List (FuncId × DF):=CG aa [(44,[]),(87,[]),(145,[]),(207,[]),(255,[]),(256,[]),(257,[]),(258,[]),(286,[]),(208,[]),(259,[]),(209,[]),(234,[]),(233,[]),(232,[]),(260,[]),(261,[]),(262,[]),(146,[]),(213,[]),(212,[]),(263,[]),(264,[]),(211,[]),(214,[]),(210,[]),(88,[1]),(149,[3]),(169,[]),(172,[]),(151,[4]),(216,[4]),(150,[2]),(170,[2]),(266,[3]),(147,[]),(215,[5]),(265,[]),(148,[])]
theorem Pe:sE aa N9:=vL _ _
def D7 (l:List Int):V:=.aZ (l.map λx=>[gy x])
theorem RS (l:List Int):Tree (D7 l):=fi _ _ λx _ v a=>by simp at a;subst a;exact .val _
def uX (g:aj):V:=.bb [.agg (ak g),.val (.complex .f64 0 0),gi 0]
theorem OK {l:List Int} {g:aj} (h:uY aa N9 (λ_ _ _=>none) 44 [D7 l]=some (uX g)):cg aa 44 [D7 l] (uX g):=
 qM mixed Pe (QO _) (by intro v a;simp at a;subst a;exact RS _) h
abbrev cH (κ:Type):=List (κ × V × Nat)
def cP {κ:Type} (key:κ->Value) (m:cH κ):List (V × V × Nat):=m.map λx=>(.val (key x.1),x.2.1,x.2.2)
def getM {κ:Type} [BEq κ] (m:cH κ) (k:κ):Option V:=(m.find? λx=>k==x.1).map (·.2.1)
def bO {κ:Type} [BEq κ] (k:κ) (v:V) (c:Nat):cH κ->cH κ
 | []=>[(k,v,c)]
 | x::r=>if k==x.1 then (k,v,x.2.2)::r else x::bO k v c r
structure EG {κ:Type} [BEq κ] (P:Program) (kt:TypeId) (key:κ->Value):Prop where
 ty:∃d,P.underlying kt=some d/\(∀a b,Instr.sameNow d (key a) (key b)=some (a==b))/\(∀a e,bk P (Instr.checkKey e 10000 kt (key a))=some ())
 bits:∀a b,(a==b)=true->Instr.sameBits 10000 (key b) (key a)=true
theorem yI {κ:Type} (key:κ->Value):∀m:cH κ,gI (cP key m)=some (m.map λx=>{ key:=key x.1,val:=.nilFunc,born:=x.2.2 })
 | []=>rfl
 | x::r=>by
  have:=yI key r
  simp only[cP] at this
  simp[cP,gI,dC,this]
def gC {κ:Type} [BEq κ] (k:κ):cH κ->Option Nat
 | []=>none
 | x::r=>if k==x.1 then some 0 else (gC k r).map (·+1)
theorem Df {κ:Type} [BEq κ] {key:κ->Value} {d:TypeDesc} (h:∀a b,Instr.sameNow d (key a) (key b)=some (a==b)) (k:κ):∀(m:cH κ) (i:Nat),
  Instr.findNow d (key k) (m.map λx=>{ key:=key x.1,val:=.nilFunc,born:=x.2.2 }) i=some ((gC k m).map λj=>(i+j,.nilFunc))
 | [],i=>rfl
 | x::r,i=>by
  simp only[abl,Instr.findNow,h,gC]
  cases hk:k==x.1 with
  | true=>simp
  | false =>
   simp only[Df h k r (i+1),abp,if_false,Option.map_map]
   congr 2
   funext j
   simp only[Function.comp]
   congr 1
   omega
theorem B1 {κ:Type} [BEq κ] {P:Program} {kt:TypeId} {key:κ->Value} (h:EG P kt key) (k:κ) (e:Bool) (m:cH κ):mU P kt (.val (key k)) e (cP key m)=some (gC k m):=by
 obtain⟨d,a,b,c⟩:=h.ty
 have hu:bk P (underlying kt)=some d:=dA a
 simp only[mU,dC,yI,aY,c,abk]
 have:bk P (Instr.findKey kt (key k) (m.map λx=>{ key:=key x.1,val:=.nilFunc,born:=x.2.2 }))=some ((gC k m).map λj=>(0+j,.nilFunc)):=by
  unfold Instr.findKey
  rw[aY,hu,abk,Df b]
  rfl
 rw[this]
 cases gC k m with
 | none=>rfl
 | some j=>simp
theorem zb {P:Program} {kt:TypeId} {d:TypeDesc} (h:P.underlying kt=some d) (a:match d with | .int _ | .string | .bool=>True | _=>False) (e:Bool) (n:Nat) (v:Value):bk P (Instr.checkKey e (n+1) kt v)=some ():=by
 unfold Instr.checkKey
 rw[aY,dA h,abk]
 cases d<;>first | exact a.elim | rfl
theorem mG {P:Program} {kt:TypeId} (k:IntKind) (h:P.underlying kt=some (.int k)):EG P kt (Value.int k) where
 ty:=⟨_,h,λa b=>by simp[Instr.sameNow],λa e=>zb h trivial e 9999 _⟩
 bits:=λa b c=>by
  have:a=b:=by simpa using c
  subst this
  simp[Instr.sameBits]
theorem zt {κ:Type} [BEq κ] {key:κ->Value} (k:κ):∀m:cH κ,match gC k m with
  | some i=>∃x,m[i]?=some x/\(k==x.1)=true/\getM m k=some x.2.1/\(cP key m)[i]?=some (.val (key x.1),x.2.1,x.2.2)/\∀v c,(cP key m).set i (.val (key k),v,x.2.2)=cP key (bO k v c m)/\(bO k v c m).length=m.length
  | none=>getM m k=none/\∀v c,cP key m++[(.val (key k),v,c)]=cP key (bO k v c m)/\(bO k v c m).length=m.length+1
 | []=>⟨rfl,λv c=>⟨rfl,rfl⟩⟩
 | x::r=>by
  have a:=zt (key:=key) k r
  simp only[gC]
  cases hk:k==x.1 with
  | true=>exact⟨x,rfl,hk,by simp[getM,hk],rfl,λv c=>by simp[bO,hk,cP]⟩
  | false =>
   cases hi:gC k r with
   | some i =>
    rw[hi] at a
    obtain⟨y,h1,b,d,e,f⟩:=a
    refine⟨y,by simpa using h1,b,by simpa [getM,hk] using d,by simpa [cP] using e,λv c=>?_⟩
    obtain⟨g1,g2⟩:=f v c
    exact⟨by simp only[cP] at g1 ⊢;simp[bO,hk,g1],by simp[bO,hk,g2]⟩
   | none =>
    rw[hi] at a
    refine⟨by simpa [getM,hk] using a.1,λv c=>?_⟩
    obtain⟨g1,g2⟩:=a.2 v c
    exact⟨by simp only[cP] at g1 ⊢;simp[bO,hk,g1],by simp[bO,hk,g2]⟩
section
variable {P:Program} {T:Env} {H:View} {κ:Type} [BEq κ] {key:κ->Value} {kt et t ty:TypeId}
theorem CW {K:V->View->Prop} {w:dd (T,H,K)} {x i:Operand} {z:V} {id c:Nat} {m:cH κ} {k:κ} (hm:eQ P t=some (kt,et)) (d:zeroV P et=some z) (hk:EG P kt key)
  (e:ev T x=.mp id) (hi:ev T i=.val (key k)) (hH:H id=.map (cP key m) c) (h:K ((getM m k).getD z) H):jQ P (.lookup t x i false) ty T H K w:=by
 intro n _
 have f:=B1 hk k (cP key m).isEmpty m
 have a:=zt (key:=key) k m
 refine⟨(getM m k).getD z,.none,[id],?_,h⟩
 simp only[sI,cK,oper,fX,hm,d,e,hi,hH,f]
 cases b:gC k m with
 | some j =>
  rw[b] at a
  obtain⟨y,h1,o,g,l,_⟩:=a
  simp[l,g]
 | none =>
  rw[b] at a
  simp[a.1]
theorem Wz {K:V->View->Prop} {w:dd (T,H,K)} {x i:Operand} {z:V} {id c:Nat} {m:cH κ} {k:κ} (hm:eQ P t=some (kt,et)) (d:zeroV P et=some z) (hk:EG P kt key)
  (e:ev T x=.mp id) (hi:ev T i=.val (key k)) (hH:H id=.map (cP key m) c) (h:K (.bb [(getM m k).getD z,.val (.bool (getM m k).isSome)]) H):jQ P (.lookup t x i true) ty T H K w:=by
 intro n _
 have f:=B1 hk k (cP key m).isEmpty m
 have a:=zt (key:=key) k m
 refine⟨_,.none,[id],?_,h⟩
 simp only[sI,cK,oper,fX,hm,d,e,hi,hH,f]
 cases b:gC k m with
 | some j =>
  rw[b] at a
  obtain⟨y,h1,o,g,l,_⟩:=a
  simp[l,g]
 | none =>
  rw[b] at a
  simp[a.1]
theorem Vr (hk:EG P kt key) (k a:κ) (h:(k==a)=true):sameKey (.val (key a)) (.val (key k))=true:=by
 simp only[sameKey,dC];exact hk.bits _ _ h
theorem yV {K:V->View->Prop} {w:dd (T,H,K)} {x i y:Operand} {id c:Nat} {m:cH κ} {k:κ} {v:V} (hm:eQ P t=some (kt,et)) (hk:EG P kt key)
  (d:ev T x=.mp id) (hi:ev T i=.val (key k)) (e:ev T y=v) (hH:H id=.map (cP key m) c)
  (h:∀g,K .any (H.set id (.map (cP key (bO k v c m)) g))):jQ P (.mapUpdate t x i y) ty T H K w:=by
 intro n _
 have a:=B1 hk k false m
 have b:=zt (key:=key) k m
 cases f:gC k m with
 | some j =>
  rw[f] at b a
  obtain⟨z,h1,l,q,o,p⟩:=b
  refine⟨.any,.fR id (.map ((cP key m).set j (.val (key k),v,z.2.2)) c),[id],?_,?_⟩
  .simp only[sI,cK,oper,iy,hm,d,hi,e,hH,a,o,Vr hk k z.1 l,if_true]
  .rw[(p v c).1];exact h c
 | none =>
  rw[f] at b a
  refine⟨.any,.fR id (.map (cP key m++[(.val (key k),v,c)]) (c+1)),[id],?_,?_⟩
  .simp only[sI,cK,oper,iy,hm,d,hi,e,hH,a]
  .rw[(b.2 v c).1];exact h (c+1)
theorem YO {P:Program} {T:Env} {H:View} {t ty:TypeId} {x i y:Operand} {K:V->View->Prop} {w:dd (T,H,K)} : jQ P (.insert t x i y) ty T H K w=jQ P (.mapUpdate t x i y) ty T H K w:=propext Iff.rfl
omit [BEq κ] in
theorem Yo {K:V->View->Prop} {w:dd (T,H,K)} {x:Operand} {id c:Nat} {m:cH κ} (hm:eQ P t=some (kt,et)) (d:ev T x=.mp id) (hH:H id=.map (cP key m) c) (h:K (cO m.length) H):
  jQ P (.call { callee:=.builtin .len,args:=#[x],argTypes:=#[t] }) ty T H K w:=by
 intro n _
 have hu:∃a b,P.underlying t=some (.map a b):=by
  unfold eQ at hm
  split at hm
  .rename_i a b h1;exact⟨a,b,h1⟩
  .simp at hm
 obtain⟨a,b,hu⟩:=hu
 refine⟨cO m.length,.none,[id],?_,h⟩
 have e:(cP key m).length=m.length:=by simp[cP]
 simp only[sI,cK,oper,acd,aa3,abn,xp,hu,d,hH,e]
 simp[hu,d,hH,e,xp]
end
theorem lq {κ:Type} [BEq κ] [LawfulBEq κ] (k a:κ) (v:V) (c:Nat):∀m:cH κ,getM (bO k v c m) a=if a==k then some v else getM m a
 | []=>by
  by_cases h:a=k
  .subst h;simp[bO,getM]
  .simp[bO,getM,h]
 | x::r=>by
  have b:=lq k a v c r
  simp only[bO]
  by_cases hk:k=x.1
  .by_cases h:a=k
   .subst h;simp[hk,getM]
   .have:¬ a=x.1:=λe=>h (e.trans hk.symm)
    simp[hk,getM,this]
  .simp only[abQ,hk,if_false]
   by_cases h:a=x.1
   .have:¬ a=k:=λe=>hk (e.symm.trans h)
    simp[getM,h]
    subst h
    simp[this]
   .simp only[getM,ac4,beq_eq_false_iff_ne.2 h] at b ⊢
    exact b
def fj {κ β:Type} [BEq κ] (a:List (κ × β)) (k:κ):Option β:=(a.find? λx=>k==x.1).map (·.2)
def mK {κ β:Type} [BEq κ] (k:κ) (v:β):List (κ × β)->List (κ × β)
 | []=>[(k,v)]
 | x::r=>if k==x.1 then (k,v)::r else x::mK k v r
def pZ {κ β:Type} (encV:β->V):List (κ × β)->cH κ->Prop
 | [],[]=>True
 | x::a,y::m=>y.1=x.1/\y.2.1=encV x.2/\pZ encV a m
 | _,_=>False
theorem pZ.get {κ β:Type} [BEq κ] {encV:β->V} (k:κ):∀ {a:List (κ × β)} {m:cH κ},pZ encV a m->getM m k=(fj a k).map encV
 | [],[],_=>rfl
 | x::a,y::m,⟨h1,c,d⟩=>by
  have b:=pZ.get k d
  simp only[getM,fj,ac4,h1] at b ⊢
  cases k==x.1 with
  | true=>simp[c]
  | false=>simpa using b
theorem pZ.put {κ β:Type} [BEq κ] {encV:β->V} (k:κ) (v:β) (c:Nat):∀ {a:List (κ × β)} {m:cH κ},pZ encV a m->pZ encV (mK k v a) (bO k (encV v) c m)
 | [],[],_=>⟨rfl,rfl,trivial⟩
 | x::a,y::m,⟨h1,d,b⟩=>by
  have e:=pZ.put k v c b
  simp only[mK,bO,h1]
  cases k==x.1 with
  | true=>exact⟨rfl,rfl,b⟩
  | false=>exact⟨h1,d,e⟩
theorem pZ.len {κ β:Type} {encV:β->V}:∀ {a:List (κ × β)} {m:cH κ},pZ encV a m->m.length=a.length
 | [],[],_=>rfl
 | x::a,y::m,⟨_,_,b⟩=>by simp[pZ.len b]
theorem Mb {κ β:Type} [BEq κ] [LawfulBEq κ] (k b:κ) (v:β):∀a:List (κ × β),fj (mK k v a) b=if b==k then some v else fj a b
 | []=>by
  by_cases h:b=k
  .subst h;simp[mK,fj]
  .simp[mK,fj,h]
 | x::r=>by
  have c:=Mb k b v r
  simp only[mK]
  by_cases hk:k=x.1
  .by_cases h:b=k
   .subst h;simp[hk,fj]
   .have:¬ b=x.1:=λe=>h (e.trans hk.symm)
    simp[hk,fj,this]
  .simp only[abQ,hk,if_false]
   by_cases h:b=x.1
   .have:¬ b=k:=λe=>hk (e.symm.trans h)
    simp[fj,h]
    subst h
    simp[this]
   .simp only[fj,ac4,beq_eq_false_iff_ne.2 h] at c ⊢
    exact c
def FQ (n k:Nat) (J:Nat->Env->View->Prop) (T:Env) (H:View):Prop:=∃i,i+k=n/\J i T H
theorem aW.up {P:Program} {T:Env} {H:View} {c:SC} {Q:Exit->Env->View->Prop} {v:dd (T,H,Q)} (n:Nat) (J:Nat->Env->View->Prop) (d:J 0 T H)
  (f:∀i k T H,i+k=n->J i T H->wS P c T H λe a H'=>DE e (∃b,b<k/\FQ n b J a H') (Q e a H')):aW P c T H Q v:=
 aW.intro (λk T H=>FQ n k J T H) n ⟨0,by omega,d⟩ λk T H ⟨i,hk,g⟩=>f i k T H hk g
theorem aE {n i k:Nat} {J:Nat->Env->View->Prop} {T:Env} {H:View} (hk:i+k=n) (b:i<n) (c:J (i+1) T H):∃a,a<k/\FQ n a J T H:=⟨k-1,by omega,i+1,by omega,c⟩
def owner:V->Option Nat
 | .sl id _ _ _=>some id
 | _=>none
def aP (H:View) (u:V) (sz:Nat) (es:List (List V)):Prop:=
 (es=[]/\∃k,u=.emp k)∨(∃n,u=.sl n 0 es.length sz/\H n=.arr sz es)
theorem aP.nil {H:View} {sz k:Nat} : aP H (.emp k) sz []:=.inl ⟨rfl,k,rfl⟩
theorem aP.len {H:View} {u:V} {sz:Nat} {es:List (List V)} (h:aP H u sz es):cJ u=some es.length:=by
 rcases h with ⟨rfl,k,rfl⟩ | ⟨n,rfl,_⟩<;>rfl
theorem aP.live {H:View} {u:V} {sz:Nat} {es:List (List V)} (h:aP H u sz es) {id:Nat} (a:owner u=some id):H id=.arr sz es/\u=.sl id 0 es.length sz:=by
 rcases h with ⟨rfl,k,rfl⟩ | ⟨n,rfl,b⟩
 .simp[owner] at a
 .simp[owner] at a;subst a;exact⟨b,rfl⟩
theorem aP.keep {H H':View} {u:V} {sz:Nat} {es:List (List V)} (h:aP H u sz es) (hk:∀id,owner u=some id->H' id=H id):aP H' u sz es:=by
 rcases h with ⟨rfl,k,rfl⟩ | ⟨n,rfl,a⟩
 .exact .inl ⟨rfl,k,rfl⟩
 .exact .inr ⟨n,rfl,by rw[hk n rfl];exact a⟩
theorem aP.fresh {H:View} {u:V} {sz m:Nat} {es:List (List V)} {o:cr} (h:aP H u sz es) (hm:H m=.dead):aP (H.set m o) u sz es:=
 h.keep λid a=>by
  have:=(h.live a).1
  have e:id≠m:=by rintro rfl;rw[hm] at this;simp at this
  simp[View.set,e]
theorem aP.ne {H:View} {u:V} {sz m:Nat} {es:List (List V)} (h:aP H u sz es) (hm:H m=.dead):owner u≠some m:=λe=>by
 have:=(h.live e).1;rw[hm] at this;simp at this
theorem aP.other {H:View} {u:V} {sz m:Nat} {es:List (List V)} {o:cr} (h:aP H u sz es) (hm:owner u≠some m):aP (H.set m o) u sz es:=
 h.keep λid a=>by
  have e:id≠m:=by rintro rfl;exact hm a
  simp[View.set,e]
theorem aP.new {H:View} {n sz:Nat} {es:List (List V)} : aP (H.set n (.arr sz es)) (.sl n 0 es.length sz) sz es:=.inr ⟨n,rfl,by simp[View.set]⟩
theorem bG {H:View} {m z sz:Nat} {e:List V} : bM (View.set H m (.arr z [e])) (.sl m 0 1 sz)=some ([e],[m]):=by
 simp[bM,View.set]
def Left (H H':View) (u u':V):Prop:=∀id,H id≠.dead->owner u≠some id->H' id=H id/\owner u'≠some id
theorem jU {sz bytes:Nat} {u:V} {es xs:List (List V)} {H:View} {K:V->View->Prop} {w:dd (H,K)} (d:aP H u sz es) (g:xs≠[]) (b:(xs.all λe=>e.length==sz&&e.all aK)=true)
  (f:(es.length+xs.length)*bytes<aF) (c:es.length+xs.length<aF) (hk:∀u' H',aP H' u' sz (es++xs)->Left H H' u u'->K u' H'):nq sz bytes u xs H K w:=by
 have he:xs.isEmpty=false:=by cases xs with | nil=>exact absurd rfl g | cons=>rfl
 rcases d with ⟨rfl,k,rfl⟩ | ⟨n,rfl,h⟩
 .rw[xb _ _ _ _ _ _ _ he]
  refine⟨b,⟨by simpa using f,by simpa using c⟩,λm hm=>hk _ _ ?_ ?_⟩
  .exact .inr ⟨m,rfl,by simp[View.set]⟩
  .intro id a _
   have e:id≠m:=by rintro rfl;exact a hm
   exact⟨by simp[View.set,e],by simp[owner,Ne.symm e]⟩
 .rw[vi _ _ _ _ _ _ _ _ _ _ he,h]
  refine⟨b,⟨by simp,rfl,f,c⟩,λm hm=>hk _ _ ?_ ?_⟩
  .refine .inr ⟨m,by simp,by simp[View.set]⟩
  .intro id a d
   have e:id≠m:=by rintro rfl;exact a hm
   have i:id≠n:=by rintro rfl;exact d rfl
   exact⟨by simp[View.set,e,i],by simp[owner,Ne.symm e]⟩
theorem Left.refl {H:View} {u:V} : Left H H u u:=λ_ _ h=>⟨rfl,h⟩
theorem eL {sz bytes:Nat} {u:V} {es xs:List (List V)} {H:View} {K:V->View->Prop} {w:dd (H,K)} (a:aP H u sz es) (b:(xs.all λe=>e.length==sz&&e.all aK)=true)
  (d:(es.length+xs.length)*bytes<aF) (c:es.length+xs.length<aF) (hk:∀u' H',aP H' u' sz (es++xs)->Left H H' u u'->K u' H'):nq sz bytes u xs H K w:=by
 cases xs with
 | nil =>
  have:=hk u H (by simpa using a) .refl
  rcases a with ⟨rfl,k,rfl⟩ | ⟨n,rfl,f⟩
  .exact this
  .exact this
 | cons x xs=>exact jU a (by simp) b d c hk
theorem ct.own {H:View} {u:V} {sz:Nat} {es:List (List V)} (h:aP H u sz es) (a:∀e∈es,∀v∈e,Tree v):ct H u (.aZ es):=by
 rcases h with ⟨rfl,k,rfl⟩ | ⟨n,rfl,b⟩
 .exact λh _=>.emp k
 .have:=ct.sl (off:=0) (len:=es.length) (esz:=sz) b (by simp) a
  rwa [abP,aa6 (by simp)] at this
theorem dD.own {h:Heap} {u:V} {sz:Nat} {es:List (List V)} {es':List (List V)} (b:aP h.view u sz es) (a:es'.length=es.length) (hi:∀i,i<es.length->(es'.getD i []).length=(es.getD i []).length)
  (c:∀i j,i<es.length->j<(es'.getD i []).length->dD h ((es.getD i []).getD j .any) ((es'.getD i []).getD j .any)):dD h u (.aZ es'):=by
 rcases b with ⟨rfl,k,rfl⟩ | ⟨n,rfl,d⟩
 .have:es'=[]:=ace.1 (by simpa using a)
  subst this
  exact .emp k
 .exact .sl n 0 es.length sz sz es es' d (by simp) a (λi h=>by rw[abE];exact hi i h) (λi j h1 e=>by rw[abE];exact c i j h1 e)
theorem dD.Lh {h:Heap} {α:Type} {u:V} {sz:Nat} {l:List α} {f:α->Value} (b:aP h.view u sz (l.map λx=>[V.val (f x)])):dD h u (.aZ (l.map λx=>[V.val (f x)])):=by
 refine dD.own b rfl (λi _=>rfl) (λi j hi a=>?_)
 simp only[aaU] at hi
 have e:(l.map λx=>[V.val (f x)]).getD i []=[V.val (f l[i])]:=by simp[aaP,hi]
 rw[e] at a ⊢
 have:j=0:=by simp at a;omega
 subst this
 exact .val _
def cn (H H':View) (r:V):Prop:=∀id,H id≠.dead->H' id=H id/\owner r≠some id
theorem cn.emp {H:View} {k:Nat} : cn H H (.emp k):=λ_ _=>⟨rfl,by simp[owner]⟩
theorem cn.new {H:View} {n a b c:Nat} {o:cr} (f:H n=.dead):cn H (H.set n o) (.sl n a b c):=λid d=>by
 have e:id≠n:=by rintro rfl;exact d f
 exact⟨by simp[View.set,e],by simp[owner,Ne.symm e]⟩
theorem aP.left {H H':View} {u u' x:V} {sz:Nat} {es:List (List V)} (h:aP H x sz es) (b:Left H H' u u') (c:∀id,owner x=some id->owner u≠some id):aP H' x sz es:=
 h.keep λid a=>(b id (by rw[(h.live a).1];simp) (c id a)).1
theorem aP.Uy {H H':View} {x r:V} {sz:Nat} {es:List (List V)} (h:aP H x sz es) (b:cn H H' r):aP H' x sz es:=
 h.keep λid a=>(b id (by rw[(h.live a).1];simp)).1
theorem set_set {H:View} {n:Nat} {a b:cr} : View.set (View.set H n a) n b=View.set H n b:=by
 funext id;simp only[View.set];split<;>rfl
theorem cp {m b:Nat} {o x:cr} (h:(if m=b then o else x)=.dead) (a:o≠.dead):m≠b/\x=.dead:=by
 split at h
 .exact absurd h a
 .rename_i e;exact⟨e,h⟩
theorem cy {z:Nat} {es:List (List V)} : cr.arr z es≠.dead:=by simp
def sF (H:View):List V->List V->Prop
 | [],[]=>True
 | v::vs,t::ts=>ct H v t/\sF H vs ts
 | _,_=>False
theorem sF.len {H:View}:∀ {vs a:List V},sF H vs a->a.length=vs.length
 | [],[],_=>rfl
 | _::_,_::_,h=>by simp[sF.len h.2]
theorem sF.get {H:View}:∀ {vs a:List V},sF H vs a->∀i,i<vs.length->ct H (vs.getD i .any) (a.getD i .any)
 | [],[],_,i,hi=>by simp at hi
 | _::_,_::_,h,0,_=>h.1
 | _::_,_::_,h,i+1,hi=>sF.get h.2 i (by simpa using hi)
theorem az.xE {P:Program} {q:Bool} {f:FuncId} {H:View} {vs b:List V} {K:V->View->Prop} {v:dd (H,K)} {t:V} (d:aC P f b t) (a:ec P f=true) (e:Aa t) (c:sF H vs b) (hk:K t H):az P q f vs H K v:=
 az.borrow d a e c.len c.get hk
theorem az.kC {P:Program} {q:Bool} {f:FuncId} {H:View} {vs b:List V} {K:V->View->Prop} {v:dd (H,K)} {t:V} (d:cg P f b t) (a:ec P f=true) (c:sF H vs b) (hk:K t H):az P q f vs H K v:=
 az.yp d a c.len c.get hk
theorem ct.box {H:View} {q z:Nat} {e:List V} (a:H q=.arr z [e]) (b:∀v∈e,Tree v):ct H (.ptr q 0 0) (.aR e 0):=by
 rintro h rfl
 refine .ptr q 0 0 z [e] e a (by simp) (by simp) (λk hk=>?_)
 simp only[acb]
 have c:e.getD k .any=e[k]:=by simp[aaP,hk]
 rw[c]
 exact .tree _ (b _ (aaW _))
theorem aP.sl {H:View} {u:V} {sz:Nat} {es:List (List V)} (h:aP H u sz es) (a:0<es.length):∃n,u=.sl n 0 es.length sz/\H n=.arr sz es:=by
 rcases h with ⟨rfl,_⟩ | h
 .simp at a
 .exact h
abbrev er:=V × Nat × List (List V)
def bw (H:View) (L:List er):Prop:=(∀x∈L,aP H x.1 x.2.1 x.2.2)/\(L.filterMap λx=>owner x.1).Nodup
theorem bw.nil {H:View} : bw H []:=⟨λx a=>by simp at a,by simp⟩
theorem bw.head {H:View} {x:er} {L:List er} (h:bw H (x::L)):aP H x.1 x.2.1 x.2.2:=h.1 x (by simp)
theorem bw.tail {H:View} {x:er} {L:List er} (h:bw H (x::L)):bw H L:=by
 refine⟨λy a=>h.1 y (by simp[a]),?_⟩
 have:=h.2
 simp only[abZ] at this
 split at this
 .exact this
 .exact(abT.1 this).2
theorem bw.perm {H:View} {L a:List er} (h:bw H L) (p:L.Perm a):bw H a:=
 ⟨λx b=>h.1 x (p.mem_iff.2 b),(p.filterMap _).nodup_iff.1 h.2⟩
theorem uV {α:Type}:∀(L:List α) (k:Nat) (hk:k<L.length),L.Perm (L[k]::L.eraseIdx k)
 | x::L,0,_=>.refl _
 | x::L,k+1,hk=>by
  have:=uV L k (by simpa using hk)
  exact(this.cons x).trans (.swap _ _ _)
theorem bw.at {H:View} {L:List er} (h:bw H L) (k:Nat) (hk:k<L.length):bw H (L[k]::L.eraseIdx k):=
 h.perm (uV L k hk)
theorem bw.obj {H:View} {n k sz:Nat} {es:List (List V)} {L:List er} (h:bw H ((.sl n 0 k sz,sz,es)::L)) (a:es≠[]):H n=.arr sz es/\k=es.length:=by
 rcases h.head with ⟨e,_⟩ | ⟨m,e,hm⟩
 .exact absurd e a
 .simp only[V.sl.injEq] at e
  obtain⟨rfl,_,rfl,_⟩:=e
  exact⟨hm,rfl⟩
theorem bw.off {H:View} {x:er} {L:List er} (h:bw H (x::L)) {id:Nat} (a:owner x.1=some id):∀y∈L,owner y.1≠some id:=by
 intro y b e
 have:=h.2
 simp only[abZ,a,abT,ach,not_exists,not_and] at this
 exact this.1 y b e
theorem bw.live {H:View} {x:er} {L:List er} (h:bw H L) (b:x∈L) {id:Nat} (a:owner x.1=some id):H id≠.dead:=by
 rw[((h.1 x b).live a).1];simp
theorem bw.keep {H H':View} {L:List er} (h:bw H L) (hk:∀x∈L,∀id,owner x.1=some id->H' id=H id):bw H' L:=
 ⟨λx a=>(h.1 x a).keep (hk x a),h.2⟩
theorem bw.new {H:View} {L:List er} (h:bw H L) {n:Nat} (b:H n=.dead) (sz:Nat) (es:List (List V)):bw (H.set n (.arr sz es)) ((.sl n 0 es.length sz,sz,es)::L):=by
 refine⟨λx a=>?_,?_⟩
 .rcases abd.1 a with rfl | a
  .exact .new
  .exact(h.1 x a).fresh b
 .simp only[abZ,owner,abT,ach,not_exists,not_and]
  exact⟨λx a e=>h.live a e b,h.2⟩
theorem bw.G4 {H H':View} {L:List er} (h:bw H L) {u:V} {sz:Nat} {es:List (List V)} (c:aP H' u sz es) (b:cn H H' u):bw H' ((u,sz,es)::L):=by
 refine⟨λx a=>?_,?_⟩
 .rcases abd.1 a with rfl | a
  .exact c
  .exact(h.1 x a).Uy b
 .cases hu:owner u with
  | none=>simp only[abZ,hu];exact h.2
  | some id =>
   simp only[abZ,hu,abT,ach,not_exists,not_and]
   exact⟨λx a e=>(b id (h.live a e)).2 hu,h.2⟩
theorem bw.fresh {H:View} {L:List er} (h:bw H L) {n:Nat} (a:H n=.dead) {o:cr} : bw (H.set n o) L:=
 ⟨λx b=>(h.1 x b).fresh a,h.2⟩
theorem bw.put {H:View} {L:List er} {n k sz:Nat} {es es':List (List V)} (h:bw H ((.sl n 0 k sz,sz,es)::L)) (b:es'.length=es.length) (hk:k=es.length):bw (H.set n (.arr sz es')) ((.sl n 0 k sz,sz,es')::L):=by
 refine⟨λx a=>?_,by simpa [abZ,owner] using h.2⟩
 rcases abd.1 a with rfl | a
 .exact .inr ⟨n,by simp[b,hk],by simp[View.set]⟩
 .exact(h.1 x (by simp[a])).other (h.off rfl x a)
theorem bw.left {H H':View} {L:List er} {u u':V} {sz:Nat} {es es':List (List V)} (h:bw H ((u,sz,es)::L)) (i:aP H' u' sz es') (f:Left H H' u u'):bw H' ((u',sz,es')::L):=by
 have b:∀x∈L,∀id,owner x.1=some id->owner u≠some id:=λx a id c hu=>h.off hu x a c
 refine⟨λx a=>?_,?_⟩
 .rcases abd.1 a with rfl | a
  .exact i
  .exact(h.1 x (by simp[a])).left f (b x a)
 .have g:=h.tail.2
  cases hu:owner u' with
  | none=>simp only[abZ,hu];exact g
  | some id =>
   simp only[abZ,hu,abT,ach,not_exists,not_and]
   refine⟨λx a e=>?_,g⟩
   have d:=h.tail.live a e
   exact(f id d (b x a id e)).2 hu
theorem dx {sz bytes:Nat} {u:V} {es xs:List (List V)} {L:List er} {H:View} {K:V->View->Prop} {w:dd (H,K)} (c:bw H ((u,sz,es)::L)) (a:(xs.all λe=>e.length==sz&&e.all aK)=true)
  (f:(es.length+xs.length)*bytes<aF) (b:es.length+xs.length<aF) (hk:∀u' H',bw H' ((u',sz,es++xs)::L)->Left H H' u u'->K u' H'):nq sz bytes u xs H K w:=
 eL c.head a f b λu' H' h1 d=>hk u' H' (c.left h1 d) d
theorem bw.stay {H H':View} {L:List er} (h:bw H L) (b:∀id,H id≠.dead->H' id=H id):bw H' L:=
 h.keep λx c _ a=>b _ (h.live c a)
theorem bw.emp {H:View} {L:List er} (h:bw H L) {k sz:Nat} : bw H ((.emp k,sz,[])::L):=by
 refine⟨λx a=>?_,by simpa [abZ,owner] using h.2⟩
 rcases abd.1 a with rfl | a
 .exact .nil
 .exact h.1 x a
theorem aP.cells {H:View} {u:V} {sz:Nat} {es:List (List V)} (h:aP H u sz es):V.cells u=[u]:=by
 rcases h with ⟨rfl,k,rfl⟩ | ⟨n,rfl,_⟩<;>rfl
theorem aP.ey {H:View} {u:V} {sz:Nat} {es:List (List V)} (h:aP H u sz es):aK u=true:=by
 rcases h with ⟨rfl,k,rfl⟩ | ⟨n,rfl,_⟩<;>rfl
theorem bw.Nq {H:View} {L:List er} (h:bw H L) (i j:Nat) {a e s1 b k2 s2 t1 t2:Nat} {f g:List (List V)} (hi:L[i]?=some (.sl a 0 e s1,t1,f)) (k:L[j]?=some (.sl b 0 k2 s2,t2,g)) (c:i≠j):a≠b:=by
 rintro rfl
 obtain⟨d,hi⟩:=aaX.1 hi
 have h1:=h.at i d
 rw[hi] at h1
 exact h1.off (id:=a) rfl _ (List.mem_eraseIdx_iff_getElem?.2 ⟨j,c.symm,k⟩) rfl
theorem Lu {α:Type} {a b c:α} {l:List α} : (a::b::c::l).Perm (b::c::a::l):=(List.Perm.swap _ _ _).trans ((List.Perm.swap _ _ _).cons _)
theorem bw.own {H:View} {L:List er} (h:bw H L) (i:Nat) {u:V} {sz:Nat} {es:List (List V)} (hi:L[i]?=some (u,sz,es)):aP H u sz es:=h.1 _ (aa1 hi)
theorem bw.is {H:View} {L:List er} (h:bw H L) (i:Nat) {n k sz:Nat} {es:List (List V)} (hi:L[i]?=some (.sl n 0 k sz,sz,es)) (a:0<es.length):H n=.arr sz es:=by
 obtain⟨m,e,hm⟩:=(h.own i hi).sl a
 simp only[V.sl.injEq] at e
 rw[e.1];exact hm
theorem bw.JP {H:View} {L:List er} (h:bw H L) {b c:Nat} {es:List (V × V × Nat)} (a:H b=.map es c):∀x∈L,owner x.1≠some b:=λx d e=>by
 have:=((h.1 x d).live e).1
 rw[a] at this;simp at this
theorem bw.Fa {H:View} {L:List er} (h:bw H L) {b c:Nat} {es:List (V × V × Nat)} (d:H b=.map es c) {o:cr} : bw (H.set b o) L:=
 ⟨λx a=>(h.1 x a).other (h.JP d x a),h.2⟩
theorem Left.map {H H':View} {u u':V} {b c:Nat} {es:List (V × V × Nat)} {sz:Nat} {xs:List (List V)} (d:Left H H' u u') (f:aP H u sz xs) (a:H b=.map es c):H' b=.map es c:=by
 rw[(d b (by rw[a];simp) (λe=>by have:=(f.live e).1;rw[a] at this;simp at this)).1,a]
theorem Gh {H:View} {L:List er} (h:bw H L) (i:Nat) {n k sz b c:Nat} {xs:List (List V)} {es:List (V × V × Nat)} (hi:L[i]?=some (.sl n 0 k sz,sz,xs)) (a:H b=.map es c):n≠b:=by
 rintro rfl
 exact h.JP a _ (aa1 hi) rfl
theorem az.Cy {P:Program} {f:FuncId} {vs:List V} {H:View} {K:V->View->Prop} {w:dd (H,K)} {sz:Nat} {es:List (List V)} (b:ay P f vs H λr H'=>aP H' r sz es/\cn H H' r) (hk:∀r H',aP H' r sz es->cn H H' r->K r H'):az P true f vs H K w:=by
 unfold az
 exact(b.mono λr H' h=>⟨λid a=>(h.2 id a).1,hk r H' h.1 h.2⟩).Pv
def A4:SC:=
 ai [ag [aS 20 .lss 19 18],bP 20 (.exit 0),.block 1 (ai [ag [af 21 19,af 3 21],ag [af 22 0,af 23 3,((some 24),.op (.jv (.tmp 22) (.tmp 23))),aV 25 224 [24],cR 26 25],aX 26 (ai [ag [bh 2 false],.ret])]),ag [aH 27 .add 19 1,af 19 27]]
def EL:SF:=⟨ai [ag [bh 2 false],ai [.region false [⟨none,[af 4 0,((some 5),.op (.Ay .eql (.tmp 4) (.val (.val (.string ⟨#[]⟩))))),af 6 5]⟩,⟨(some (6,false)),[af 7 0,((some 8),.op (.sd (.tmp 7))),aH 9 .gtr 8 20]⟩,⟨none,[cE 10 6 9,af 11 10]⟩,⟨(some (11,false)),[af 12 0,((some 13),.op (.jv (.tmp 12) (.val (.val (.int .i64 0))))),aV 14 223 [13],cR 15 14]⟩,⟨none,[cE 16 11 15]⟩],aX 16 (ai [ag [bh 2 false],.ret])],ai [ag [af 17 0,((some 18),.op (.sd (.tmp 17))),aT 19 0],bQ 0 A4],ag [bh 2 true],.ret],
 [.tmp 2],28⟩
theorem JA:aJ aa 158 []=some EL:=by kernel_rfl
def Av:SF:=⟨ai [ag [aT 2 0,aT 3 0],ag [aT 4 2],.block 0 (ai [ag [af 6 0,aN 7 6,aH 8 .lss 7 2,af 5 8],.cond (.tmp 5) (ai [ag [aT 2 0,aT 3 4],.ret]) (ai [ag [af 10 0,((some 11),.op (.idx 1 (.tmp 10) (.val (.val (.int .i64 1))))),au 12 11,aV 13 296 [12],af 9 13],bP 9 (ai [ag [af 15 0,((some 16),.op (.idx 1 (.tmp 15) (.val (.val (.int .i64 1))))),au 17 16,((some 18),.op (.arith .neq (.tmp 17) (.val (.val (.int .u8 92))))),af 14 18],.cond (.tmp 14) (ai [ag [aT 2 0,aT 3 3],.ret]) (ai [ag [af 20 0,aN 21 20,aH 22 .lss 21 3,af 19 22],.cond (.tmp 19) (ai [ag [aT 2 0,aT 3 4],.ret]) (ai [ag [af 24 0,((some 25),.op (.idx 1 (.tmp 24) (.val (.val (.int .i64 2))))),au 26 25,aV 27 297 [26],cR 28 27,af 23 28],.cond (.tmp 23) (ai [ag [aT 2 0,aT 3 3],.ret]) (ag [aT 4 3])])])])])]),ai [ag [af 29 0,aN 30 29,af 31 4,aS 32 .leq 30 31],aX 32 (ai [ag [aT 2 0,aT 3 4],.ret])],ai [ag [af 33 0,af 34 4,aL 35 1 33 34,au 36 35,((some 37),.op (.arith .neq (.tmp 36) (.val (.val (.int .u8 39)))))],aX 37 (ai [ag [aT 2 0,aT 3 3],.ret])],ag [af 38 4,aH 39 .add 38 1,af 2 39,aT 3 0],.ret],
 [.tmp 2,.tmp 3],40⟩
theorem Ei:aJ aa 287 []=some Av:=by kernel_rfl
def tX:SF:=⟨ai [ag [bh 2 false],ai [.region false [⟨none,[af 5 0,((some 6),.op (.Ay .eql (.tmp 5) (.val (.val (.string ⟨#[]⟩))))),af 7 6]⟩,⟨(some (7,false)),[af 8 0,((some 9),.op (.jv (.tmp 8) (.val (.val (.int .i64 0))))),((some 10),.op (.arith .neq (.tmp 9) (.val (.val (.int .u8 39)))))]⟩,⟨none,[cE 11 7 10]⟩],aX 11 (ai [ag [bh 2 false],.ret])],ag [af 13 0,((some 14),.op (.ic (.tmp 13))),aV 15 287 [14],af 12 15,c7 16 0 12,c7 17 1 12,af 3 16,af 4 17],.region false [⟨none,[af 18 4,aH 19 .eql 18 0,af 20 19]⟩,⟨(some (20,true)),[af 21 3,af 22 0,((some 23),.op (.sd (.tmp 22))),aS 24 .eql 21 23]⟩,⟨none,[dO 25 20 24,af 2 25]⟩],.ret],
 [.tmp 2],26⟩
theorem DT:aJ aa 267 [14]=some tX:=by kernel_rfl
def Di:SF:=⟨ai [ag [bh 2 false],.region false [⟨none,[af 3 0,aV 4 158 [3],af 5 4]⟩,⟨(some (5,false)),[af 6 0,aV 7 267 [6]]⟩,⟨none,[cE 8 5 7,af 2 8]⟩],.ret],
 [.tmp 2],9⟩
theorem HB:aJ aa 217 []=some Di:=by kernel_rfl
def Au:SF:=⟨ai [ag [bh 2 false],ag [af 3 0,aV 4 158 [3],cR 5 4,af 2 5],.ret],
 [.tmp 2],6⟩
theorem DQ:aJ aa 157 []=some Au:=by kernel_rfl
theorem Bj (s:ByteArray):jX s ⟨#[]⟩=decide ((gK s).length=0):=by
 unfold jX
 rw[<-fP]
 have:(s.data.toList==([]:List UInt8))=decide (s.data.toList.length=0):=by
  cases s.data.toList<;>rfl
 show (s.data.toList==([]:List UInt8))=_
 rw[this]
 rfl
theorem Wm (s:ByteArray) (H:View):ay aa 158 [gs s] H λr _=>r=gb (iM (gK s)):=by
 refine ay.of mixed JA ?_
 repeat' (first | ((first|apply ao.dec|apply ao.eq|apply ao.ne|apply ao.split)<;>intro)|(simp(disch:=omega)only[↓wr,seval,wq,EL,fP,Bj]))
 .rename_i h
  congr 2;simp[iM,h]
 .rename_i h1 h
  congr 2;simp[iM,show ¬ (gK s).length<=20 by omega]
 .rename_i h1 p
  cases e:gK s with
  | nil=>simp[e] at h1
  | cons c l =>
   have f:=λd (g:d∈c::l)=>Jg (s:=s) (c:=d) (by rw[e];exact g)
   have j:=f c (by simp)
   repeat' (first | ((first|apply ao.dec|apply ao.eq|apply ao.ne|apply ao.split)<;>intro)|(simp(disch:=omega)only[↓wr,seval,wq,e,abi,fP]))
   refine az.pure (zk wC Qi c j.1 j.2) ?_
   repeat' (first | ((first|apply ao.dec|apply ao.eq|apply ao.ne|apply ao.split)<;>intro)|(simp(disch:=omega)only[↓wr,seval,wq,e,abi,fP]))
   .rename_i q
    rw[e] at h1 p
    refine aW.intro (λk T H'=>∃i:Nat,i+k=(c::l).length/\((c::l).take i).all qn=true/\T 0=gs s/\T 18=gi (c::l).length/\T 19=gi i) (c::l).length ?_ ?_
    .exact⟨0,by omega,by simp,rfl,rfl,rfl⟩
    .rintro k T H' ⟨i,hk,hi,n,a,b⟩
     simp(disch:=omega)only[↓wr,seval,wq,A4,n,a,b,fP,e]
     apply ao.dec<;>intro t
     .simp only[aa3] at t hk p
      have o:(c::l)[i]?=some ((c::l)[i]'(by simp;omega)):=aaQ (by simp;omega)
      have hm:(c::l)[i]'(by simp;omega)∈c::l:=aaW _
      generalize (c::l)[i]'(by simp;omega)=d at o hm
      have m:=f d hm
      simp(disch:=omega)only[↓wr,seval,wq,n,a,b,fP,e,o]
      refine az.pure (zk wC RR d m.1 m.2) ?_
      repeat' (first | ((first|apply ao.dec|apply ao.eq|apply ao.ne|apply ao.split)<;>intro)|(simp(disch:=omega)only[↓wr,seval,wq,n,a,b,fP,e,o]))
      .rename_i g
       refine⟨k-1,by omega,i+1,by omega,?_,by first | rfl | exact⟨rfl,rfl⟩⟩
       rw[aa9,o]
       simp only[Option.toList_some,ac3,hi,ab0,g,List.all_nil,Bool.and_self]
      .rename_i g
       congr 2
       have:(c::l).all qn=false:=by
        rw[acS];exact⟨d,hm,by simp[g]⟩
       simp only[iM,this,acr]
     .simp(disch:=omega)only[↓wr,seval,wq,n,a,b]
      simp only[aa3] at t hk p
      rw[aa6 (by simp;omega)] at hi
      congr 2
      simp only[iM,hi,aa3]
      simp[q];omega
   .rename_i q
    congr 2;simp[iM,q]
theorem L6 (s:ByteArray):aC aa 158 [gs s] (gb (iM (gK s))):=aC.val (rW s) (Wm s)
def mC (l:List Int):Int × Int:=
 if Bk (l.getD 1 0)=true then (2,0) else if l.getD 1 0≠92 then (0,3) else if l.length<3 then (0,4) else if HD (l.getD 2 0)=true then (3,0) else (0,3)
def oW (l:List Int):Int × Int:=
 if l.length<2 then (0,4) else if (mC l).2≠0 then (0,(mC l).2) else if (l.length:Int)<=(mC l).1 then (0,4) else if l.getD (mC l).1.toNat 0≠39 then (0,3) else ((mC l).1+1,0)
theorem SQ {l:List Int} {n:Int} (a:mC l=(n,0)) (b:¬ l.length<2):oW l=if (l.length:Int)<=n then (0,4) else if l.getD n.toNat 0≠39 then (0,3) else (n+1,0):=by
 rw[oW,aaR b,a];simp
theorem Ki {l:List Int} {e:Int} (a:mC l=(0,e)) (he:e≠0) (b:¬ l.length<2):oW l=(0,e):=by
 rw[oW,aaR b,a];simp[he]
theorem PD (l:List Int) (hr:∀c∈l,0<=c/\c<=255) (H:View):ay aa 287 [.aZ (l.map λx=>[gy x])] H λr _=>r=.bb [gi (oW l).1,gi (oW l).2]:=by
 refine ay.of mixed Ei ?_
 simp(disch:=omega)only[↓wr,seval,wq,Av]
 apply ao.dec<;>intro h
 .simp(disch:=omega)only[↓wr,seval,wq]
  rw[oW,aaT (by omega)]
 .have h1:l[1]?=some (l[1]'(by omega)):=aaQ (by omega)
  have g1:l.getD 1 0=l[1]'(by omega):=by simp[aaP,h1]
  have m1:l[1]'(by omega)∈l:=aaW _
  generalize l[1]'(by omega)=b at h1 g1 m1
  have o:=hr b m1
  simp(disch:=omega)only[↓wr,seval,wq,aaS,h1]
  refine az.pure (zk wC T6 b o.1 o.2) ?_
  simp(disch:=omega)only[↓wr,seval,wq]
  apply ao.split<;>intro hp
  .have p:mC l=(2,0):=by rw[mC,aaT (by rw[g1];exact hp)]
   simp(disch:=omega)only[↓wr,seval,wq]
   have a:=SQ p (by omega)
   apply ao.dec<;>intro m
   .simp(disch:=omega)only[↓wr,seval,wq]
    rw[a,aaT (by omega)]
   .rw[aaR (by omega)] at a
    have g:l[2]?=some (l[2]'(by omega)):=aaQ (by omega)
    have g2:l.getD (2:Int).toNat 0=l[2]'(by omega):=by simp[aaP,g]
    generalize l[2]'(by omega)=c at g g2
    rw[g2] at a
    simp(disch:=omega)only[↓wr,seval,wq,aaS,g]
    apply ao.ne<;>intro i
    .simp(disch:=omega)only[↓wr,seval,wq]
     rw[a,aaT i]
    .simp(disch:=omega)only[↓wr,↓reduceIte,wq,Nat.reduceEqDiff,Nat.reduceAdd,Nat.reduceLT,Nat.reduceLeDiff,Int.reduceNeg,Int.reduceToNat,reduceCtorEq]
     rw[a,aaR (λq=>q i)]
  .simp(disch:=omega)only[↓wr,seval,wq,aaS,h1]
   apply ao.ne<;>intro k
   .simp(disch:=omega)only[↓wr,seval,wq]
    rw[Ki (e:=3) (by rw[mC,aaR (by rw[g1,hp];simp),aaT (by rw[g1];exact k)]) (by simp) (by omega)]
   .simp(disch:=omega)only[↓wr,seval,wq]
    apply ao.dec<;>intro s
    .simp(disch:=omega)only[↓wr,seval,wq]
     rw[Ki (e:=4) (by rw[mC,aaR (by rw[g1,hp];simp),aaR (by rw[g1];exact λq=>q k),aaT (by omega)]) (by simp) (by omega)]
    .have g:l[2]?=some (l[2]'(by omega)):=aaQ (by omega)
     have g2:l.getD 2 0=l[2]'(by omega):=by simp[aaP,g]
     have m2:l[2]'(by omega)∈l:=aaW _
     generalize l[2]'(by omega)=c at g g2 m2
     have j:=hr c m2
     have f:mC l=if HD c=true then (3,0) else (0,3):=by rw[mC,aaR (by rw[g1,hp];simp),aaR (by rw[g1];exact λq=>q k),aaR (by omega),g2]
     simp(disch:=omega)only[↓wr,seval,wq,aaS,g]
     refine az.pure (zk wC Xb c j.1 j.2) ?_
     simp(disch:=omega)only[↓wr,seval,wq]
     apply ao.split<;>intro he
     .rw[aaT he] at f
      have a:=SQ f (by omega)
      simp(disch:=omega)only[↓wr,seval,wq]
      apply ao.dec<;>intro m
      .simp(disch:=omega)only[↓wr,seval,wq]
       rw[a,aaT (by omega)]
      .rw[aaR (by omega)] at a
       have n:l[3]?=some (l[3]'(by omega)):=aaQ (by omega)
       have g3:l.getD (3:Int).toNat 0=l[3]'(by omega):=by simp[aaP,n]
       generalize l[3]'(by omega)=d at n g3
       rw[g3] at a
       simp(disch:=omega)only[↓wr,seval,wq,aaS,n]
       apply ao.ne<;>intro i
       .simp(disch:=omega)only[↓wr,seval,wq]
        rw[a,aaT i]
       .simp(disch:=omega)only[↓wr,↓reduceIte,wq,Nat.reduceEqDiff,Nat.reduceAdd,Nat.reduceLT,Nat.reduceLeDiff,Int.reduceNeg,Int.reduceToNat,reduceCtorEq]
        rw[a,aaR (λq=>q i)]
     .rw[aaR (by rw[he];simp)] at f
      simp(disch:=omega)only[↓wr,seval,wq]
      rw[Ki f (by simp) (by omega)]
def dU {α:Type} (p:α->Bool):List α->Int->Int
 | [],_=>-1
 | x::l,i=>if p x then i else dU p l (i+1)
theorem zB {α:Type} (p:α->Bool):∀(l:List α) (i:Int),0<=i->decide (0<=dU p l i)=l.any p
 | [],_,_=>by simp[dU]
 | x::l,i,h=>by
  have a:=zB p l (i+1) (by omega)
  rw[List.any_cons,dU]
  by_cases hp:p x=true
  .rw[aaT hp,hp];simp[h]
  .rw[aaR hp,a];simp[hp]
theorem Hd {f:FuncId} {xs cap:List V} (h:∀v∈xs,Tree v) (b:∀v∈cap,Tree v):Tree (.fn f xs cap):=by
 refine .fn _ _ _ (λi hi=>?_) (λi hi=>?_)
 .have a:xs.getD i .any=xs[i]:=by simp[aaP,hi]
  rw[a];exact h _ (aaW _)
 .have a:cap.getD i .any=cap[i]:=by simp[aaP,hi]
  rw[a];exact b _ (aaW _)
def jE:SC:=
 ai [ag [aS 9 .lss 8 7],bP 9 (.exit 0),.block 1 (ai [ag [af 10 8,af 5 10],ag [af 11 1,af 12 0,af 13 5,aL 14 1 12 13,au 15 14,((some 16),.call (.tmp 11) [(.tmp 15)])],aX 16 (ai [ag [af 17 5,af 4 17],.ret])]),ag [aH 18 .add 8 1,af 8 18]]
def kq:SF:=⟨ai [ag [aT 4 0],ai [ag [af 6 0,aN 7 6,aT 8 0],bQ 0 jE],ag [aT 4 (-1)],.ret],
 [.tmp 4],19⟩
theorem oV:aJ aa 160 []=some kq:=by kernel_rfl
def jz:SF:=⟨ai [ag [bh 4 false],ag [af 5 0,af 6 1,aV 7 160 [5,6],aH 8 .geq 7 0,af 4 8],.ret],
 [.tmp 4],9⟩
theorem mV:aJ aa 90 []=some jz:=by kernel_rfl
def im:SC:=
 ai [ag [aS 9 .lss 8 7],bP 9 (.exit 0),.block 1 (ai [ag [af 10 8,af 5 10],ag [af 11 1,af 12 0,af 13 5,aL 14 1 12 13,au 15 14,((some 16),.call (.tmp 11) [(.tmp 15)])],aX 16 (ai [ag [af 17 5,af 4 17],.ret])]),ag [aH 18 .add 8 1,af 8 18]]
def iN:SF:=⟨ai [ag [aT 4 0],ai [ag [af 6 0,aN 7 6,aT 8 0],bQ 0 im],ag [aT 4 (-1)],.ret],
 [.tmp 4],19⟩
theorem lR:aJ aa 222 []=some iN:=by kernel_rfl
def gZ:SF:=⟨ai [ag [bh 4 false],ag [af 5 0,af 6 1,aV 7 222 [5,6],aH 8 .geq 7 0,af 4 8],.ret],
 [.tmp 4],9⟩
theorem kV:aJ aa 156 []=some gZ:=by kernel_rfl
theorem Jw (l:List Int) (g:aI l) (f:FuncId) (cap:List V) (p:Int->Bool) (h:∀x∈l,aC aa f (gi x::cap) (gb (p x))) (d:ec aa f=true) (H:View):
  ay aa 160 [encI l,.fn f [] cap] H λr _=>r=gi (dU p l 0):=by
 refine ay.of mixed oV ?_
 unfold aI at g
 simp(disch:=omega)only[↓wr,seval,wq,kq,encI]
 refine aW.up l.length (λi T _=>dU p (l.drop i) i=dU p l 0/\T 0=encI l/\T 1=.fn f [] cap/\T 7=gi l.length/\T 8=gi i) ⟨rfl,rfl,rfl,rfl,rfl⟩ ?_
 rintro i k T H hk ⟨hi,a,h1,b,c⟩
 simp(disch:=omega)only[↓wr,seval,wq,jE,a,h1,b,c,encI]
 apply ao.dec<;>intro j
 .have e:l[i]?=some (l[i]'(by omega)):=aaQ (by omega)
  have hm:l[i]'(by omega)∈l:=aaW _
  rw[eM (show i<l.length by omega)] at hi
  generalize l[i]'(by omega)=x at e hm hi
  simp(disch:=omega)only[↓wr,seval,wq,a,h1,b,c,encI,aaS,e]
  refine az.pure (h x hm) ?_ d
  simp only[dU] at hi
  repeat' (first | ((first|apply ao.dec|apply ao.eq|apply ao.ne|apply ao.split)<;>intro)|(simp(disch:=omega)only[↓wr,seval,wq,a,h1,b,c]))
  .rename_i hp
   rw[<-hi,aaT hp]
  .rename_i hp
   refine aE hk (by omega) ⟨?_,a,h1,b,rfl⟩
   rw[aaR (by simp[hp])] at hi
   push_cast;exact hi
 .rw[abg (by omega)] at hi
  simp(disch:=omega)only[↓wr,seval,wq,a,h1,b,c]
  rw[<-hi];rfl
theorem BX {l:List Int} {f:FuncId} {cap:List V} (a:∀v∈cap,Tree v):∀v∈[encI l,.fn f [] cap],Tree v:=by
 intro v b;simp at b
 rcases b with rfl | rfl
 .exact bC l
 .exact Hd (by simp) a
theorem jr (l:List Int) (c:aI l) (f:FuncId) (cap:List V) (a:∀v∈cap,Tree v) (p:Int->Bool) (d:∀x∈l,aC aa f (gi x::cap) (gb (p x))) (b:ec aa f=true):
  aC aa 90 [encI l,.fn f [] cap] (gb (l.any p)):=by
 refine aC.val (BX a) λH=>?_
 refine ay.of mixed mV ?_
 simp(disch:=omega)only[↓wr,seval,wq,jz]
 refine az.pure (aC.val (BX a) (Jw l c f cap p d b)) ?_
 simp(disch:=omega)only[↓wr,seval,wq]
 rw[<-zB p l 0 (by omega)]
theorem Jt (l:List ByteArray) (g:aI l) (f:FuncId) (cap:List V) (p:ByteArray->Bool) (h:∀x∈l,aC aa f (gs x::cap) (gb (p x))) (d:ec aa f=true) (H:View):
  ay aa 222 [encS l,.fn f [] cap] H λr _=>r=gi (dU p l 0):=by
 refine ay.of mixed lR ?_
 unfold aI at g
 simp(disch:=omega)only[↓wr,seval,wq,iN,encS]
 refine aW.up l.length (λi T _=>dU p (l.drop i) i=dU p l 0/\T 0=encS l/\T 1=.fn f [] cap/\T 7=gi l.length/\T 8=gi i) ⟨rfl,rfl,rfl,rfl,rfl⟩ ?_
 rintro i k T H hk ⟨hi,a,h1,b,c⟩
 simp(disch:=omega)only[↓wr,seval,wq,im,a,h1,b,c,encS]
 apply ao.dec<;>intro j
 .have e:l[i]?=some (l[i]'(by omega)):=aaQ (by omega)
  have hm:l[i]'(by omega)∈l:=aaW _
  rw[eM (show i<l.length by omega)] at hi
  generalize l[i]'(by omega)=x at e hm hi
  simp(disch:=omega)only[↓wr,seval,wq,a,h1,b,c,encS,aaS,e]
  refine az.pure (h x hm) ?_ d
  simp only[dU] at hi
  repeat' (first | ((first|apply ao.dec|apply ao.eq|apply ao.ne|apply ao.split)<;>intro)|(simp(disch:=omega)only[↓wr,seval,wq,a,h1,b,c]))
  .rename_i hp
   rw[<-hi,aaT hp]
  .rename_i hp
   refine aE hk (by omega) ⟨?_,a,h1,b,rfl⟩
   rw[aaR (by simp[hp])] at hi
   push_cast;exact hi
 .rw[abg (by omega)] at hi
  simp(disch:=omega)only[↓wr,seval,wq,a,h1,b,c]
  rw[<-hi];rfl
theorem AY {l:List ByteArray} {f:FuncId} {cap:List V} (a:∀v∈cap,Tree v):∀v∈[encS l,.fn f [] cap],Tree v:=by
 intro v b;simp at b
 rcases b with rfl | rfl
 .exact By l
 .exact Hd (by simp) a
theorem Ez (l:List ByteArray) (c:aI l) (f:FuncId) (cap:List V) (a:∀v∈cap,Tree v) (p:ByteArray->Bool) (d:∀x∈l,aC aa f (gs x::cap) (gb (p x))) (b:ec aa f=true):
  aC aa 156 [encS l,.fn f [] cap] (gb (l.any p)):=by
 refine aC.val (AY a) λH=>?_
 refine ay.of mixed kV ?_
 simp(disch:=omega)only[↓wr,seval,wq,gZ]
 refine az.pure (aC.val (AY a) (Jt l c f cap p d b)) ?_
 simp(disch:=omega)only[↓wr,seval,wq]
 rw[<-zB p l 0 (by omega)]
theorem Cg {l:List Value}:∀v∈l.map V.val,Tree v:=by
 intro v a;obtain⟨x,_,rfl⟩:=aba.1 a;exact .val _
def BI:SF:=⟨ai [ag [bh 6 false],.region false [⟨none,[af 7 0,af 8 1,aS 9 .geq 7 8,af 10 9]⟩,⟨(some (10,true)),[af 11 0,af 12 2,aS 13 .leq 11 12]⟩,⟨none,[dO 14 10 13,af 6 14]⟩],.ret],
 [.tmp 6],15⟩
theorem F0:aJ aa 154 []=some BI:=by kernel_rfl
def Ja:SF:=⟨ai [ag [aT 2 0],ag [af 3 0,((some 4),.op (.arith .sub (.val (.val (.int .i64 (-1)))) (.tmp 3))),af 2 4],.ret],
 [.tmp 2],5⟩
theorem LS:aJ aa 194 []=some Ja:=by kernel_rfl
def Iw:SF:=⟨ai [ag [cm 2 0,bh 4 false],ai [ag [af 5 1,aH 6 .lss 5 0],aX 6 (ai [.region true [⟨none,[af 7 1,aV 8 194 [7],aw 9 1 2,au 10 9,aN 11 10,aS 12 .lss 8 11,af 4 12]⟩],.ret])],ag [af 13 1,aw 14 0 2,au 15 14,aN 16 15,aS 17 .lss 13 16,af 4 17],.ret],
 [.tmp 4],18⟩
theorem Kv:aJ aa 130 [2]=some Iw:=by kernel_rfl
def Bz:SF:=⟨ai [ag [bh 4 false],.region false [⟨none,[aU 5 4 1,af 6 0,aV 7 130 [5,6],cR 8 7,af 9 8]⟩,⟨(some (9,false)),[af 10 0,aH 11 .geq 10 0,af 12 11]⟩,⟨(some (12,true)),[aw 13 2 2,au 14 13,aH 15 .eql 14 (-1)]⟩,⟨(some (9,false)),[dO 16 12 15]⟩,⟨none,[cE 17 9 16,af 4 17]⟩],.ret],
 [.tmp 4],18⟩
theorem E4:aJ aa 225 []=some Bz:=by kernel_rfl
def F6:SF:=⟨ai [ag [cm 2 0,cm 3 1,bh 4 false],ai [.region false [⟨none,[aw 5 1 3,au 6 5,aN 7 6,aH 8 .gtr 7 6,af 9 8]⟩,⟨(some (9,false)),[aw 10 2 3,au 11 10,aw 12 0 2,au 13 12,aN 14 13,aH 15 .sub 14 1,oz 16 154 [(.tmp 11),(.val (.val (.int .i64 (-1)))),(.tmp 15)],cR 17 16]⟩,⟨none,[cE 18 9 17]⟩],aX 18 (ai [ag [bh 4 false],.ret])],ag [aw 19 1 3,au 20 19,((some 21),.op (.tU 225 [] [(.tmp 2),(.tmp 3)])),aV 22 90 [20,21],cR 23 22,af 4 23],.ret],
 [.tmp 4],24⟩
theorem Ju:aJ aa 159 [2,3]=some F6:=by kernel_rfl
theorem uH (a b c:Int):aC aa 154 [gi a,gi b,gi c] (gb (decide (b<=a)&&decide (a<=c))):=by
 refine aC.val (Cg (l:=[.int .i64 a,.int .i64 b,.int .i64 c])) λH=>?_
 refine ay.of mixed F0 ?_
 repeat' (first | ((first|apply ao.dec|apply ao.eq|apply ao.ne|apply ao.split)<;>intro)|(simp(disch:=omega)only[↓wr,seval,wq,BI]))
 all_goals simp[*]
theorem Xy (s:Int) (a:bm s):aC aa 194 [gi s] (gi (-1-s)):=by
 refine aC.val (Cg (l:=[.int .i64 s])) λH=>?_
 obtain⟨h1,b⟩:=a
 refine ay.of mixed LS ?_
 repeat' (first | ((first|apply ao.dec|apply ao.eq|apply ao.ne|apply ao.split)<;>intro)|(simp(disch:=omega)only[↓wr,seval,wq,Ja]))
theorem NJ (g:aj) (s:Int) (a:bm s):aC aa 130 [.agg (ak g),gi s] (gb (dP g s)):=by
 refine aC.val (KE g s) λH=>?_
 refine ay.of mixed Kv ?_
 repeat' (first | ((first|apply ao.dec|apply ao.eq|apply ao.ne|apply ao.split)<;>intro)|(refine az.pure (Xy s a) ?_)|(simp(disch:=omega)only[↓wr,seval,wq,Iw,ak,encS]))
 .rename_i h;simp[dP,show ¬ (0:Int)<=s by omega]
 .rename_i h;simp[dP,show (0:Int)<=s by omega]
theorem iD {cs:List V} {j:Nat} (h:∀v∈cs,Tree v):Tree (.aR cs j):=by
 refine .aR _ _ λi hi=>?_
 have a:cs.getD i .any=cs[i]:=by simp[aaP,hi]
 rw[a];exact h _ (aaW _)
theorem Uh (g:aj) (r:bc) (s:Int) (b:bm s):aC aa 225 [gi s,.aR (ak g) 0,.aR (aQ r) 0] (gb (!rQ g r.prec s)):=by
 refine aC.val ?_ λH=>?_
 .intro v a;simp at a
  rcases a with rfl | rfl | rfl
  .exact .val _
  .exact iD (cx g)
  .exact iD (gn r)
 refine ay.of mixed E4 ?_
 simp(disch:=omega)only[↓wr,seval,wq,Bz,ak]
 refine az.pure (NJ g s b) ?_
 repeat' (first | ((first|apply ao.dec|apply ao.eq|apply ao.ne|apply ao.split)<;>intro)|(simp(disch:=omega)only[↓wr,seval,wq,aQ]))
 all_goals simp[rQ, *]
theorem U4 (g:aj) (r:bc) (e:g.Ok) (hr:aI r.right/\∀x∈r.right,bm x):aC aa 159 [.agg (ak g),.agg (aQ r)] (gb (kF g r)):=by
 refine aC.val (KO g r) λH=>?_
 have f:=e.ax
 unfold aI at f
 refine ay.of mixed Ju ?_
 repeat' (first | ((first|apply ao.dec|apply ao.eq|apply ao.ne|apply ao.split)<;>intro)|(refine az.pure (uH _ _ _) ?_)|(simp(disch:=omega)only[↓wr,seval,wq,F6,ak,aQ,encI,encS]))
 .rename_i h;simp[kF,show ¬ r.right.length<=6 by omega]
 .rename_i h1 b
  have c:r.right.length<=6:=by omega
  have a : -1<=r.prec/\r.prec<g.ax.length:=by simp at b;omega
  refine az.pure (jr r.right hr.1 225 [.aR (ak g) 0,.aR (aQ r) 0] ?_ (λs=>!rQ g r.prec s) (λx i=>Uh g r x (hr.2 x i)) (by kernel_rfl)) ?_
  .intro v d;simp at d
   rcases d with rfl | rfl
   .exact iD (cx g)
   .exact iD (gn r)
  simp(disch:=omega)only[↓wr,seval,wq]
  simp[kF,c,a.1,a.2]
  rw[abD]
  simp
 .rename_i h1 b
  have c:¬ (-1<=r.prec/\r.prec<g.ax.length):=by simp at b;omega
  have:(decide (-1<=r.prec)&&decide (r.prec<(g.ax.length:Int)))=false:=by
   rw[<-Bool.decide_and];simpa using c
  simp only[kF,Bool.and_assoc]
  rw[<-Bool.and_assoc (decide (-1<=r.prec)),this];simp
theorem Vb (l:List Int) (f:l.getD 0 0=39):((oW l).2==0&&(oW l).1==(l.length:Int))=pe l:=by
 match l,f with
 | [],h=>simp at h
 | [a],_=>rfl
 | [a,b],_ =>
  simp only[oW,mC,pe,aa3,abn,acJ,acb]
  repeat' split
  all_goals simp_all
 | [a,b,c],f =>
  have g:a=39:=by simpa using f
  subst g
  simp only[oW,mC,pe,Bk,HD,aa3,abn,acJ,acb]
  repeat' split
  all_goals simp_all
  all_goals grind
 | [a,b,c,d],f =>
  have g:a=39:=by simpa using f
  subst g
  simp only[oW,mC,pe,Bk,HD,aa3,abn,acJ,acb]
  repeat' split
  all_goals simp_all
  all_goals grind
 | a::b::c::d::e::r,f =>
  simp only[oW,mC,pe,Bk,HD,aa3,acJ,acb]
  repeat' split
  all_goals simp_all
  all_goals (try omega)
  all_goals grind
theorem PR {c:Int} {l:List Int} (h:¬ c=39):pe (c::l)=false:=by
 match l with
 | []=>rfl
 | [_]=>rfl
 | [_,_]=>simp[pe,h]
 | [_,_,_]=>simp[pe,h]
 | _::_::_::_::_=>rfl
theorem TA (s:ByteArray):aC aa 267 [gs s] (gb (pe (gK s))):=by
 refine aC.val (rW s) λH=>?_
 refine ay.of mixed DT ?_
 have f:=λd (k:d∈gK s)=>Jg (s:=s) (c:=d) k
 have j:aC aa 287 [.aZ (iA s)] (.bb [gi (oW (gK s)).1,gi (oW (gK s)).2]):=by
  rw[TZ]
  refine aC.of ?_ ((PD (gK s) f _).mono λr H' h m _=>by rw[h];exact .tree _ (.bb _ λi hi=>by
   match i,hi with
   | 0,_=>exact .val _
   | 1,_=>exact .val _))
  intro v a;simp at a;subst a
  exact fi _ _ λx _ v a=>by simp at a;subst a;exact .val _
 cases e:gK s with
 | nil =>
  repeat' (first | ((first|apply ao.dec|apply ao.eq|apply ao.ne|apply ao.split)<;>intro)|(simp(disch:=omega)only[↓wr,seval,wq,tX,fP,Bj,e]))
  rfl
 | cons c l =>
  have b:=Vb (gK s)
  rw[e] at j b
  repeat' (first | ((first|apply ao.dec|apply ao.eq|apply ao.ne|apply ao.split)<;>intro)|(simp(disch:=omega)only[↓wr,seval,wq,tX,fP,Bj,e,abi]))
  .rename_i h
   rw[PR h]
  .rename_i h
   refine az.pure j ?_
   have b:=b (by simpa using h)
   repeat' (first | ((first|apply ao.dec|apply ao.eq|apply ao.ne|apply ao.split)<;>intro)|(simp(disch:=omega)only[↓wr,seval,wq,fP,e]))
   .rename_i g
    rw[<-b];simp[g]
   .rename_i g
    rw[<-b];simp[g]
end
end Gv
