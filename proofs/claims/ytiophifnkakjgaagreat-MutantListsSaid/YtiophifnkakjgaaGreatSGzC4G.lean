/-
  Part 7 of the proof: what the machine does and what the functions answer.
  Conditions: those that each lemma names.
-/
import Derived.Test.YtiophifnkakjgaaGreatSGzC4F
set_option linter.unusedSimpArgs false
set_option linter.unusedVariables false
set_option maxRecDepth 100000
set_option maxHeartbeats 20000000
namespace Gv
noncomputable section
open Go Go.Proofs
inductive dF (h:Heap):V->V->Prop
 | val (v:Value):dF h (.val v) (.val v)
 | emp (k:Nat):dF h (.emp k) (.aY [])
 | sl (id off len esz z:Nat) (es es':List (List V)):h.view id=.arr z es->off+len<=es.length->es'.length=len ->
  (∀i,i<len->(es'.getD i []).length=(es.getD (off+i) []).length) ->
  (∀i j,i<len->j<(es'.getD i []).length->dF h ((es.getD (off+i) []).getD j .any) ((es'.getD i []).getD j .any))->dF h (.sl id off len esz) (.aY es')
 | agg (cs cs':List V):cs'.length=cs.length->(∀i,i<cs.length->dF h (cs.getD i .any) (cs'.getD i .any))->dF h (.agg cs) (.agg cs')
 | bc (cs cs':List V):cs'.length=cs.length->(∀i,i<cs.length->dF h (cs.getD i .any) (cs'.getD i .any))->dF h (.bc cs) (.bc cs')
theorem X7 {h:Heap} {Z:Nat->Prop} {μ B:Mu} {F:View} {hp:Array Obj} (hr:eQ Z μ hp (cat h F)) {v t:V} (fr:dF h v t):∀ {x:Value},aD Z μ hp v x->aD (kE μ) B hp t x:=by
 have l:∀id,h.view id≠.dead->cat h F id=h.view id:=λid D=>by simp only[cat];rw[abb (fj D)]
 induction fr with
 | val v=>intro x d;cases d with | val _ s=>exact .val _ s
 | emp k=>intro x d;cases d with | emp _ a=>exact .jz a 0 (λ_=>rfl)
 | sl id off len esz z es es' hH hle hlen E _ m =>
  intro x d
  cases d with
  | rI _ _ _ a =>
   have:es'=[]:=acx.1 hlen
   subst this
   exact .jz a 0 (λ_=>rfl)
  | sl _ _ _ _ b o0 cap c e f hm C J K =>
   have o:=hr.obj id
   rw[l id (by rw[hH];simp),hH] at o
   obtain⟨rfl,_,G,H⟩:=o b o0 esz hm
   have d:∀i,∃ci:Nat->Value,∀j,j<esz->i<len->cellAt hp b (o0+off*esz+i*esz+j)=some (ci j)/\aD Z μ hp ((es.getD (off+i) []).getD j .any) (ci j):=by
    intro i
    by_cases hi:i<len
    .obtain⟨ci,u⟩:=qx (n:=esz) (p:=λj x=>cellAt hp b (o0+off*esz+i*esz+j)=some x/\aD Z μ hp ((es.getD (off+i) []).getD j .any) x) (λj g=>by
      obtain⟨x,d,s⟩:=H (off+i) j (by omega) g
      rw[abR,<-abP] at d
      exact⟨x,d,s⟩)
     exact⟨ci,λj g _=>u j g⟩
    .exact⟨λ_=>undef,λj _ h=>absurd h hi⟩
   obtain⟨I,q⟩:=Classical.axiomOfChoice d
   have r:∀i,i<es'.length->(es'.getD i []).length=esz:=λi hi=>by rw[E i (by omega)];exact G _ (by omega)
   have:=aD.aY (Z:=kE μ) (μ:=B) (hp:=hp) es' b (o0+off*esz) esz cap I ⟨id,o0,esz,hm⟩ (by omega) r
    (λi j hi g=>(q i j g (by omega)).1) (λi j hi g=>m i j (by omega) (by rw[r i hi];exact g) (q i j g (by omega)).2)
   rw[hlen] at this
   exact this
 | agg cs w hlen _ m =>
  intro x d
  cases d with
  | agg _ y h1 A=>exact .agg _ _ (by omega) (λi hi=>m i (by omega) (A i (by omega)))
 | bc cs w hlen _ m =>
  intro x d
  cases d with
  | bc _ y h1 A=>exact .bc _ _ (by omega) (λi hi=>m i (by omega) (A i (by omega)))
def bX (P:Program) (f:FuncId) (vs:List V) (t:V):Prop:=
 ∀Z μ (w:World) (xs:List Value),gI Z μ w.heap vs xs->(∀b,Z b->b<w.heap.size) ->
  Calls P f xs.toArray w λe w'=>∃x Z',e=.returned x/\(∀ν,aD Z' ν w'.heap t x)/\fa w w'/\(∀b,Z' b->w.heap.size<=b/\b<w'.heap.size)/\hU w.heap w'.heap (λ_=>False)
theorem bX.pure {P:Program} {f:FuncId} {vs:List V} {t:V} (h:bX P f vs t):aC P f vs t:=by
 intro Z μ w xs a d
 refine(h Z μ w xs a d).mono ?_
 rintro e w' ⟨x,g,rfl,i,j,c,k⟩
 exact⟨x,λb=>Z b∨g b,rfl,λl=>(i l).mono ⟨λ_ h=>.inr h,λ_ _=>rfl,λ_ _ h=>h,gu.refl _⟩,j,λ_ h=>.inl h,λb m=>m.imp id (c b),k⟩
theorem bX.Az {P:Program} {f:FuncId} {vs:List V} {r t:V} {k:Heap} (m:∀v∈vs,Tree v) (n:b6 P f vs [] r k) (p:dF k r t):bX P f vs t:=by
 intro Z μ w xs a q
 have c:gI Z (λ_=>none) w.heap vs xs:=⟨a.1,λi hi=>zA (a.2 i hi) (by
  simp only[aa7,aa8 hi,abp]
  exact m _ (abe _))⟩
 have g:eQ Z (λ_=>none) w.heap (cat [] λ_=>.dead):=by
  exact⟨λ_=>trivial,λi j b o s y z _ h=>by simp at h,λid b o s h=>by simp at h,q,λid b o s h=>by simp at h⟩
 refine(n.2 Z _ _ w xs c g (λ_ _ _=>rfl)).mono ?_
 rintro e w' ⟨x,A,μ',rfl,u,l,hex,_⟩
 refine⟨x,kE μ',rfl,λB=>X7 l p u,hex.same,?_,λb d _=>hex.frame b d (by rintro⟨_,_,_,h⟩;simp at h)⟩
 rintro b ⟨id,o,s,d⟩
 rcases hex.Gf _ _ _ _ d with h1 | ⟨_,h1 | ⟨_,_,_,h1⟩⟩
 .simp at h1
 .exact⟨h1,l.lt _ _ _ _ d⟩
 .simp at h1
theorem bX.of {P:Program} {f:FuncId} {vs:List V} {t:V} (b:∀v∈vs,Tree v) (h:az P f vs (λ_=>.dead) λr H'=>∀a:Heap,a.view=H'->dF a r t):bX P f vs t:=by
 obtain⟨r,a,c,_,d⟩:=h.2 [] Ja
 exact bX.Az b c (d a rfl)
theorem b6.yE {P:Program} {f:FuncId} {j vs:List V} {t:V} {h:Heap} (v:bX P f j t) (y:j.length=vs.length)
  (l:∀i,i<vs.length->Fr h (vs.getD i .any) (j.getD i .any)):b6 P f vs h t h:=by
 refine⟨abg _,λZ μ F w xs c hr m=>?_⟩
 have n:gI (λb=>Z b∨kE μ b) μ w.heap j xs:=⟨by rw[y,c.1],λi hi=>Gc hr (l i (by omega)) (c.2 i (by omega))⟩
 have p:∀b,(Z b∨kE μ b)->b<w.heap.size:=by
  rintro b (a | ⟨id,o,s,a⟩)
  .exact hr.de b a
  .exact hr.lt _ _ _ _ a
 refine(v _ μ w xs n p).mono ?_
 rintro e w' ⟨x,u,rfl,z,q,d,k⟩
 have hm:iQ Z (λb=>Z b∨u b) μ μ w.heap w'.heap:=⟨λ_ h=>.inl h,λb a=>k b (hr.de b a) (λx=>x),λ_ _ h=>h,k.mE⟩
 refine⟨x,λb=>Z b∨u b,μ,rfl,(z μ).mono ⟨λ_ h=>.inr h,λ_ _=>rfl,λ_ _ h=>h,gu.refl _⟩,⟨λid=>(hr.obj id).mono hm rfl (λb o s g=>k b (hr.lt _ _ _ _ g) (λx=>x)),hr.inj,λid b o s g=>abK (hr.lt _ _ _ _ g) q.size,λb a=>?_,λid b o s g r=>?_⟩,
  ⟨q,hm,λb a _=>k b a (λx=>x),λb a=>a.imp id (λh=>(d b h).1),λ_ _ _ _ h=>.inl h⟩,λ_ _=>rfl⟩
 .rcases a with a | a
  .exact abK (hr.de b a) q.size
  .exact(d b a).2
 .rcases r with a | a
  .exact hr.iK _ _ _ _ g a
  .have:=hr.lt _ _ _ _ g;have:=(d b a).1;omega
theorem ay.yE {P:Program} {q:Bool} {f:FuncId} {H:View} {vs c:List V} {K:V->View->Prop} {v:dd (H,K)} {t:V} (d:bX P f c t) (a:eh P f=true) (g:c.length=vs.length)
  (b:∀i,i<vs.length->cm H (vs.getD i .any) (c.getD i .any)) (hk:K t H):ay P q f vs H K v:=by
 unfold ay
 cases q with
 | true=>exact⟨a,λh e=>⟨t,h,b6.yE d g (λi hi=>b i hi h e),λ_ _=>rfl,e▸hk⟩⟩
 | false =>
  refine⟨a,?_⟩
  rintro h rfl
  exact⟨t,h,b6.yE d g (λi hi=>b i hi h rfl),.refl _,hk⟩
def qH (fz:V->Option V):List V->Option (List V)
 | []=>some []
 | v::l=>match fz v,qH fz l with
  | some a,some b=>some (a::b)
  | _,_=>none
def HA (fz:V->Option V):List (List V)->Option (List (List V))
 | []=>some []
 | v::l=>match qH fz v,HA fz l with
  | some a,some b=>some (a::b)
  | _,_=>none
def BK (H:View):Nat->V->Option V
 | 0,_=>none
 | k+1,v=>match v with
  | .val x=>some (.val x)
  | .emp _=>some (.aY [])
  | .sl id off len _=>match H id with
   | .arr _ es=>if off+len<=es.length then (HA (BK H k) ((es.drop off).take len)).map .aY else none
   | _=>none
  | .agg cs=>(qH (BK H k) cs).map .agg
  | .bc cs=>(qH (BK H k) cs).map .bc
  | _=>none
theorem jn {c:V->Option V}:∀(l l':List V),qH c l=some l'->l'.length=l.length/\∀i,i<l.length->c (l.getD i .any)=some (l'.getD i .any)
 | [],l',h=>by simp only[qH,abd] at h;subst h;exact⟨rfl,λi hi=>by simp at hi⟩
 | v::l,l',h=>by
  simp only[qH] at h
  split at h
  .rename_i a b h1 d
   simp only[abd] at h;subst h
   obtain⟨g1,g2⟩:=jn l b d
   refine⟨by simp[g1],λi hi=>?_⟩
   cases i with
   | zero=>exact h1
   | succ i=>exact g2 i (by simpa using hi)
  .simp at h
theorem G1 {c:V->Option V}:∀(l l':List (List V)),HA c l=some l'->l'.length=l.length/\∀i,i<l.length->qH c (l.getD i [])=some (l'.getD i [])
 | [],l',h=>by simp only[HA,abd] at h;subst h;exact⟨rfl,λi hi=>by simp at hi⟩
 | v::l,l',h=>by
  simp only[HA] at h
  split at h
  .rename_i a b h1 d
   simp only[abd] at h;subst h
   obtain⟨g1,g2⟩:=G1 l b d
   refine⟨by simp[g1],λi hi=>?_⟩
   cases i with
   | zero=>exact h1
   | succ i=>exact g2 i (by simpa using hi)
  .simp at h
theorem N7 (h:Heap):∀(k:Nat) (v t:V),BK h.view k v=some t->dF h v t
 | 0,v,t,a=>by simp[BK] at a
 | k+1,v,t,a=>by
  have b:=N7 h k
  simp only[BK] at a
  split at a
  .simp only[abd] at a;subst a;exact .val _
  .simp only[abd] at a;subst a;exact .emp _
  .rename_i id off len esz
   split at a
   .rename_i z es hH
    split at a
    .rename_i hle
     simp only[abj] at a
     obtain⟨es',he,rfl⟩:=a
     obtain⟨g1,g2⟩:=G1 _ _ he
     have hlen:es'.length=len:=by rw[g1];simp;omega
     have d:∀i,i<len->((es.drop off).take len).getD i []=es.getD (off+i) []:=λi hi=>by
      simp[hi]
     have g3:∀i,i<len->qH (BK h.view k) (es.getD (off+i) [])=some (es'.getD i []):=λi hi=>by
      rw[<-d i hi];exact g2 i (by rw[<-g1,hlen];exact hi)
     exact .sl id off len esz z es es' hH hle hlen (λi hi=>(jn _ _ (g3 i hi)).1) (λi j hi e=>b _ _ ((jn _ _ (g3 i hi)).2 j (by rw[<-(jn _ _ (g3 i hi)).1];exact e)))
    .simp at a
   .simp at a
  .simp only[abj] at a
   obtain⟨l,c,rfl⟩:=a
   obtain⟨g1,g2⟩:=jn _ _ c
   exact .agg _ _ g1 (λi hi=>b _ _ (g2 i hi))
  .simp only[abj] at a
   obtain⟨l,c,rfl⟩:=a
   obtain⟨g1,g2⟩:=jn _ _ c
   exact .bc _ _ g1 (λi hi=>b _ _ (g2 i hi))
  .simp at a
def Xf:Option (V × ES)->Option V
 | some (v,e)=>BK e.V 50 v
 | none=>none
def vl (P:Program) (tab:List (FuncId × DF)) (ext:B9) (f:FuncId) (vs:List V):Option V:=
 Xf (J9 P tab ext (MA P tab ext 100000) f vs ⟨.nil,.nil,0,[]⟩)
theorem qT {P:Program} (hm:P.follows .mixedOrders=true) {tab:List (FuncId × DF)} {ext:B9} (b:sG P tab) (c:vY P ext) {f:FuncId} {vs:List V} {t:V} (a:∀v∈vs,Tree v) (h:vl P tab ext f vs=some t):
  bX P f vs t:=by
 unfold vl Xf at h
 split at h
 .rename_i v e hr
  obtain⟨h1,d,g,i,_⟩:=LP b c (NI hm b c 100000) f vs _ v e [] hr ⟨by funext k;rfl,rfl⟩
  rw[i.1] at h
  exact bX.Az a g (N7 d 50 v t h)
 .simp at h
def C3 (P:Program) (fs:List (FuncId × List Nat)):List (FuncId × DF):=fs.filterMap λf=>(LF P f.1 f.2).map (f.1,·)
theorem vO (P:Program) (a:List (FuncId × List Nat)):sG P (C3 P a):=by
 intro p hp
 obtain⟨f,_,h⟩:=acB.1 hp
 simp only[abj] at h
 obtain⟨d,h1,rfl⟩:=h
 exact⟨f.2,h1⟩
structure ak.c5 (g:ak):Prop where
 ax:g.ax.length<=24
 ly:1<=g.av.length
 av:g.av.length<=16
 aaU:1<=g.rules.length
 rules:g.rules.length<=40
 lB:0<=g.start
 start:g.start<g.av.length
 left:∀r∈g.rules,0<=r.left/\r.left<g.av.length
 right:∀r∈g.rules,r.right.length<=6
 sym:∀r∈g.rules,∀s∈r.right,dS g s=true
 prec:∀r∈g.rules,-1<=r.prec/\r.prec<g.ax.length
theorem Jf {g:ak}:∀(l:List bf) (top:Int),kJ g l top=true->top<=(g.av.length:Int)-1/\∀r∈l,0<=r.left/\r.left<g.av.length/\kz g r=true
 | [],top,h=>by simp[kJ] at h;exact⟨by omega,λr hr=>by simp at hr⟩
 | r::l,top,h=>by
  simp only[kJ,abh,abn] at h
  obtain⟨⟨⟨h1,d⟩,a⟩,b⟩:=h
  obtain⟨e,k2⟩:=Jf l _ b
  have f:r.left<=(if r.left>top then r.left else top):=by split<;>omega
  have i:top<=(if r.left>top then r.left else top):=by split<;>omega
  refine⟨by omega,λc hr=>?_⟩
  rcases abw.1 hr with rfl | hr
  .exact⟨h1,by omega,a⟩
  .exact k2 c hr
theorem bF {g:ak} (h:bu g=true):g.c5:=by
 simp only[bu,mQ,oD,abh,abn] at h
 obtain⟨⟨⟨⟨⟨⟨⟨h1,_⟩,⟨b,c⟩,_⟩,d⟩,e⟩,f⟩,i⟩,j⟩:=h
 have k:=(Jf _ _ j).2
 have a:∀r∈g.rules,r.right.length<=6/\-1<=r.prec/\r.prec<g.ax.length/\∀s∈r.right,dS g s=true:=λr hr=>by
  have:=(k r hr).2.2
  simp only[kz,abh,abn,abC,r8] at this
  exact⟨this.1.1.1,this.1.1.2,this.1.2,λs l=>(this.2 s l).1⟩
 exact⟨h1,b,c,d,e,f,i,λr hr=>⟨(k r hr).1,(k r hr).2.1⟩,λr hr=>(a r hr).1,λr hr=>(a r hr).2.2.2,λr hr=>⟨(a r hr).2.1,(a r hr).2.2.1⟩⟩
theorem ak.c5.neg {g:ak} (h:g.c5) {r:bf} (hr:r∈g.rules) {s:Int} (a:s∈r.right) (b:s<0) : -1-s<g.av.length:=by
 have:=h.sym r hr s a
 simp only[dS] at this
 rw[aa9 (by omega)] at this
 simpa using this
theorem KP (l:List Int) (is:List Bool) (t:Bool) (b:aG l) (c:∀s∈l,bm s/\(s<0->-1-s<is.length)):aC aa 95 [encI l,bY is,gb t] (gb (fB l is t)):=
 aC.val (by
  intro v a;simp at a
  rcases a with rfl | rfl | rfl
  .exact bg _
  .exact jQ _
  .exact .val _) (λH=>(Y2 l is t b c H).mono λr H' h=>h.1)
abbrev bU (is:List Bool):List (List V):=is.map λx=>[gb x]
theorem tZ {h:Heap} {id:Nat} {is:List Bool} (b:h.view id=.arr 1 (bU is)):dF h (.sl id 0 is.length 1) (bY is):=by
 refine .sl id 0 is.length 1 1 (bU is) _ b (by simp) (by simp) (λi hi=>by simp) (λi j hi a=>?_)
 rw[abX]
 have e:(bU is).getD i []=[gb is[i]]:=by simp[hi]
 rw[e] at a ⊢
 have:j=0:=by simp at a;omega
 subst this
 exact .val _
theorem Gq {H:View} {id n:Nat} {is:List Bool} (b:H id=.arr 1 (bU is)) (c:n=is.length):cm H (.sl id 0 n 1) (bY is):=by
 have d:∀e∈bU is,∀v∈e,Tree v:=by
  intro e he v b
  obtain⟨a,_,rfl⟩:=abt.1 he
  rw[ab5] at b
  subst b
  exact .val _
 have:=cm.sl (off:=0) (len:=n) (esz:=1) b (by simp[c]) d
 rwa [ab8,abo (by simp[c])] at this
theorem mH {is:List Bool} {i:Nat} (h:i<is.length):(bU is).getD i []=[gb is[i]]:=by simp[h]
theorem iG (is:List Bool) (i:Nat) (b:Bool):(bU is).set i [gb b]=bU (is.set i b):=by simp
theorem BR (n:Nat) (b:Bool):List.replicate n [gb b]=bU (List.replicate n b):=by simp
def iter {α:Type} (f:α->α):Nat->α->α
 | 0,x=>x
 | n+1,x=>iter f n (f x)
def fu (t:Bool) (is:List Bool) (r:bf):List Bool:=if fB r.right is t=true then is.set r.left.toNat true else is
def lO (g:ak) (t:Bool) (is:List Bool):List Bool:=g.rules.foldl (fu t) is
def cK (g:ak):List Bool:=List.replicate g.av.length false
def bk (g:ak) (t:Bool):List Bool:=if bu g=true then iter (lO g t) g.av.length (cK g) else []
theorem Qa (t:Bool) (is:List Bool) (r:bf):(fu t is r).length=is.length:=by unfold fu;split<;>simp
def pz:SC:=
 ai [ai [ag [af 22 7,aw 23 2 2,au 24 23,aM 25 24,aS 26 .lss 22 25],bO 26 (.exit 2)],.block 3 (ai [ag [aw 29 2 2,au 30 29,af 31 7,aL 32 3 30 31,aw 33 1 32,au 34 33,af 35 5,af 36 1,aU 37 95 [34,35,36]],aX 37 (ag [af 38 5,aw 39 2 2,au 40 39,af 41 7,aL 42 3 40 41,aw 43 0 42,au 44 43,aL 45 1 38 44,(none,.op (.store 1 (.tmp 45) (.val (.val (.bool true)))))])]),ag [af 27 7,aI 28 .add 27 1,af 7 28]]
def pM:SC:=
 ai [ai [ag [af 15 6,aw 16 1 2,au 17 16,aM 18 17,aS 19 .lss 15 18],bO 19 (.exit 0)],.block 1 (ai [ag [aT 7 0],bR 2 pz]),ag [af 20 6,aI 21 .add 20 1,af 6 21]]
def rM:SF:=⟨ai [ag [bZ 2 0,bL 4 1],ai [ag [aV 8 4 2,aU 9 50 [8],cO 10 9],aX 10 (ai [ag [bL 4 1],.ret])],ag [aw 11 1 2,au 12 11,aM 13 12,((some 14),.op (.make 1 1 [(.val (.bool false))] (.tmp 13) (.tmp 13))),af 5 14],ai [ag [aT 6 0],bR 0 pM],ag [af 46 5,af 4 46],.ret],
 [.tmp 4],47⟩
theorem xX:aJ aa 165 [2]=some rM:=by kernel_rfl
def mr:SF:=⟨ai [ag [bZ 1 0,bL 2 1],ag [aV 3 4 1,lG 4 165 [(.tmp 3),(.val (.val (.bool true)))],af 2 4],.ret],
 [.tmp 2],5⟩
theorem tM:aJ aa 93 [1]=some mr:=by kernel_rfl
theorem Wm (g:ak) (t:Bool):∀v∈[V.agg (aj g),gb t],Tree v:=by
 intro v a;simp at a
 rcases a with rfl | rfl
 .exact bW _ (cy g)
 .exact .val _
theorem Wj (g:ak) (C:g.Ok) (t:Bool) (H:View):az aa 165 [.agg (aj g),gb t] H λr H'=>∀w:Heap,w.view=H'->dF w r (bY (bk g t)):=by
 refine az.of mixed xX ?_
 simp(disch:=omega)only[↓wr,seval,wq,rM,aj,encS]
 refine ay.pure (jV g C) ?_
 repeat' (first | ((first|apply ao.dec|apply ao.eq|apply ao.ne|apply ao.split)<;>intro)|(simp(disch:=omega)only[↓wr,seval,wq]))
 .rename_i hr
  have u:=bF hr
  obtain⟨E,F⟩:=And.intro u.ly u.av
  refine⟨⟨by omega,by unfold aE;omega,by unfold aE;omega⟩,λP=>by omega,λ_ m hm=>?_⟩
  try simp(disch:=omega)only[↓wr,seval,wq,aj,encS]
  refine aW.intro (λk T H'=>∃(i:Nat) (is:List Bool),i+k=g.av.length/\is.length=g.av.length/\iter (lO g t) k is=iter (lO g t) g.av.length (cK g)/\T 1=gb t/\T 2=.aR (aj g) 0/\T 5=.sl m 0 g.av.length 1/\H' m=.arr 1 (bU is)/\T 6=gi i) g.av.length ?_ ?_
  .refine⟨0,cK g,by omega,by simp[cK],rfl,?_⟩
   simp(disch:=omega)only[↓wr,↓reduceIte,wq,Nat.reduceEqDiff,aj,encS]
   exact⟨by rw[BR];rfl,rfl⟩
  .rintro k T H' ⟨i,is,hk,hlen,hi,f1,f2,f5,y,f6⟩
   simp(disch:=omega)only[↓wr,seval,wq,pM,f2,f6,aj,encS]
   apply ao.dec<;>intro G
   .simp(disch:=omega)only[↓wr,seval,wq]
    refine aW.intro (λx T H'=>∃(j:Nat) (a:List Bool),j+x=g.rules.length/\a.length=g.av.length/\(g.rules.drop j).foldl (fu t) a=lO g t is/\T 1=gb t/\T 2=.aR (aj g) 0/\T 5=.sl m 0 g.av.length 1/\H' m=.arr 1 (bU a)/\T 6=gi i/\T 7=gi j) g.rules.length ?_ ?_
    .refine⟨0,is,by omega,hlen,rfl,?_⟩
     simp(disch:=omega)only[↓wr,↓reduceIte,wq,Nat.reduceEqDiff,f1,f2,f5,f6,y,aj,encS]
     rfl
    .rintro x Q I ⟨j,a,J,b,d,h,l,n,em,o,p⟩
     simp(disch:=omega)only[↓wr,seval,wq,pz,l,p,aj]
     apply ao.dec<;>intro K
     .have hle:=u.rules
      have e:g.rules[j]?=some (g.rules[j]'(by omega)):=aa8 (by omega)
      rw[eO (show j<g.rules.length by omega)] at d
      have c:g.rules[j]'(by omega)∈g.rules:=abe _
      generalize g.rules[j]'(by omega)=r at e d c
      simp only[abY] at d
      obtain⟨L,M⟩:=u.left r c
      obtain⟨_,_,z,A⟩:=C.aB r c
      have v:=KP r.right a t z (λs D=>⟨A s D,λN=>by have:=u.neg c D N;omega⟩)
      simp(disch:=omega)only[↓wr,seval,wq,h,l,n,p,aj,encS,aQ,aba,e]
      refine ay.borrow v (by kernel_rfl) (.val _) rfl (λq O=>?_) ?_
      .match q,O with
       | 0,_=>exact cm.tree (bg _)
       | 1,_=>exact Gq em b.symm
       | 2,_=>exact cm.tree (.val _)
      .simp(disch:=omega)only[↓wr,seval,wq]
       apply ao.split<;>intro B
       .have f:fu t a r=a.set r.left.toNat true:=by rw[fu,abb B]
        simp(disch:=omega)only[↓wr,seval,wq,h,l,n,o,p,em,aj,encS,aQ,aba,e,mH (show r.left.toNat<a.length by omega)]
        rw[f] at d
        exact⟨by omega,by omega,x-1,by omega,j+1,a.set r.left.toNat true,by omega,by simp[b],d,by rw[iG],rfl⟩
       .have f:fu t a r=a:=by rw[fu,aa9 (by rw[B];simp)]
        rw[f] at d
        simp(disch:=omega)only[↓wr,seval,wq,h,l,n,o,p]
        exact⟨x-1,by omega,j+1,a,by omega,b,d,by first | rfl | exact⟨rfl,rfl⟩ | exact⟨em,rfl⟩ | exact⟨rfl,em,rfl⟩⟩
     .rw[aby (by omega),adi] at d
      simp(disch:=omega)only[↓wr,seval,wq,h,l,n,o]
      obtain⟨q,rfl⟩:∃q,k=q+1:=⟨k-1,by omega⟩
      exact⟨q,by omega,i+1,a,by omega,b,by rw[d];exact hi,rfl,em,rfl⟩
   .simp(disch:=omega)only[↓wr,seval,wq,f5]
    have:k=0:=by omega
    subst this
    rintro w rfl
    simp only[bk,abb hr,<-hi,iter]
    rw[<-hlen]
    exact tZ y
 .rename_i hr
  rintro w rfl
  simp only[bk,hr]
  exact .emp 1
theorem VI (g:ak) (a:g.Ok) (t:Bool):bX aa 165 [.agg (aj g),gb t] (bY (bk g t)):=bX.of (Wm g t) (Wj g a t _)
theorem EX (g:ak) (a:g.Ok) (H:View):az aa 93 [.agg (aj g)] H λr H'=>r=bY (bk g true)/\H'=H:=by
 refine az.of mixed tM ?_
 simp(disch:=omega)only[↓wr,seval,wq,mr,aj,encS]
 refine ay.pure (VI g a true).pure ?_
 simp(disch:=omega)only[↓wr,seval,wq]
theorem xf (g:ak) (a:g.Ok):aC aa 93 [.agg (aj g)] (bY (bk g true)):=
 aC.of (dy g) ((EX g a _).mono λr H' h b _=>by rw[h.1];exact .tree _ (jQ _))
def mark (is:List Bool) (s:Int):List Bool:=if s<0 then is.set (-1-s).toNat true else is
def jb (p is:List Bool) (r:bf):List Bool:=if (is.getD r.left.toNat false&&fB r.right p true)=true then r.right.foldl mark is else is
def tD (g:ak) (p is:List Bool):List Bool:=g.rules.foldl (jb p) is
def cU (g:ak):List Bool:=if bu g=true then iter (tD g (bk g true)) g.av.length ((cK g).set g.start.toNat true) else []
theorem Vs (is:List Bool) (s:Int):(mark is s).length=is.length:=by unfold mark;split<;>simp
theorem Ip:∀(l:List Int) (is:List Bool),(l.foldl mark is).length=is.length
 | [],_=>rfl
 | s::l,is=>by rw[abY,Ip l,Vs]
theorem UI (p is:List Bool) (r:bf):(jb p is r).length=is.length:=by unfold jb;split<;>simp[Ip]
theorem EL {f:List Bool->List Bool} (a:∀is,(f is).length=is.length):∀(n:Nat) (is:List Bool),(iter f n is).length=is.length
 | 0,_=>rfl
 | n+1,is=>by rw[iter,EL a n,a]
theorem EM {α:Type} {f:List Bool->α->List Bool} (a:∀is x,(f is x).length=is.length):∀(l:List α) (is:List Bool),(l.foldl f is).length=is.length
 | [],_=>rfl
 | x::l,is=>by rw[abY,EM a l,a]
theorem jj {g:ak} (h:bu g=true) (t:Bool):(bk g t).length=g.av.length:=by
 have a:∀is,(lO g t is).length=is.length:=λis=>EM (Qa t) _ _
 rw[bk,abb h,EL a]
 simp[cK]
def lZ:SC:=
 ai [ai [.region false [⟨none,[af 41 8,aw 42 1 7,au 43 42,aM 44 43,aS 45 .lss 41 44,af 46 45]⟩,⟨(some (46,true)),[af 47 4,aw 48 0 7,au 49 48,aL 50 1 47 49,au 51 50]⟩,⟨none,[dA 52 46 51,af 53 52]⟩,⟨(some (53,true)),[aw 54 1 7,au 55 54,af 56 3,lG 57 95 [(.tmp 55),(.tmp 56),(.val (.val (.bool true)))]]⟩,⟨none,[dA 58 53 57]⟩],bO 58 (.exit 4)],.block 5 (ai [ag [aw 61 1 7,au 62 61,af 63 8,aL 64 1 62 63,au 65 64,aI 66 .lss 65 0],aX 66 (ag [af 67 4,aw 68 1 7,au 69 68,af 70 8,aL 71 1 69 70,au 72 71,((some 73),.op (.arith .sub (.val (.val (.int .i64 (-1)))) (.tmp 72))),aL 74 1 67 73,(none,.op (.store 1 (.tmp 74) (.val (.val (.bool true)))))])]),ag [af 59 8,aI 60 .add 59 1,af 8 60]]
def l8:SC:=
 ai [ai [ag [af 29 6,aw 30 2 1,au 31 30,aM 32 31,aS 33 .lss 29 32],bO 33 (.exit 2)],.block 3 (ai [ag [aw 36 2 1,au 37 36,af 38 6,aL 39 3 37 38,aV 40 3 39,((some 7),.op (.alloc [(.val (.int .i64 0)),(.emp 1),(.val (.int .i64 0))])),cz 3 7 40],ag [aT 8 0],bR 4 lZ]),ag [af 34 6,aI 35 .add 34 1,af 6 35]]
def ma:SC:=
 ai [ai [ag [af 22 5,aw 23 1 1,au 24 23,aM 25 24,aS 26 .lss 22 25],bO 26 (.exit 0)],.block 1 (ai [ag [aT 6 0],bR 2 l8]),ag [af 27 5,aI 28 .add 27 1,af 5 28]]
def nI:SF:=⟨ai [ag [bZ 1 0,bL 2 1],ai [ag [aV 9 4 1,aU 10 50 [9],cO 11 10],aX 11 (ai [ag [bL 2 1],.ret])],ag [aV 12 4 1,aU 13 93 [12],af 3 13],ag [aw 14 1 1,au 15 14,aM 16 15,((some 17),.op (.make 1 1 [(.val (.bool false))] (.tmp 16) (.tmp 16))),af 4 17],ag [af 18 4,aw 19 3 1,au 20 19,aL 21 1 18 20,(none,.op (.store 1 (.tmp 21) (.val (.val (.bool true)))))],ai [ag [aT 5 0],bR 0 ma],ag [af 75 4,af 2 75],.ret],
 [.tmp 2],76⟩
theorem uk:aJ aa 94 [1]=some nI:=by kernel_rfl
theorem WM {l:List Bool} {i j:Nat} (h:l.getD j false=true):(l.set i true).getD j false=true:=by
 simp only[aa7,ab1] at h ⊢
 by_cases e:i=j
 .subst e
  by_cases hi:i<l.length
  .simp[hi]
  .rw[abL (by omega)] at h;simp at h
 .rw[aa9 e];exact h
theorem VR {H:View} {m n:Nat} {o:ct} (hm:H m=o) (a:H n=.dead) (b:o≠.dead):m≠n:=by rintro rfl;exact b (hm.symm.trans a)
theorem HR (g:ak) (Y:g.Ok) (H:View):az aa 94 [.agg (aj g)] H λr H'=>∀X:Heap,X.view=H'->dF X r (bY (cU g)):=by
 refine az.of mixed uk ?_
 simp(disch:=omega)only[↓wr,seval,wq,nI,aj,encS]
 refine ay.pure (jV g Y) ?_
 repeat' (first | ((first|apply ao.dec|apply ao.eq|apply ao.ne|apply ao.split)<;>intro)|(simp(disch:=omega)only[↓wr,seval,wq]))
 .rename_i hr
  have y:=bF hr
  obtain⟨a1,a6⟩:=And.intro y.ly y.av
  refine ay.pure (xf g Y) ?_
  have Z:=jj hr true
  have n:cU g=iter (tD g (bk g true)) g.av.length ((cK g).set g.start.toNat true):=by rw[cU,abb hr]
  generalize bk g true=p at Z n
  have o:=y.lB
  have aq:=y.start
  have I:List.replicate g.av.length [V.val (Value.bool false)]=bU (cK g):=BR _ _
  have ab:(cK g).length=g.av.length:=by simp[cK]
  simp(disch:=omega)only[↓wr,seval,wq]
  refine⟨⟨by omega,by unfold aE;omega,by unfold aE;omega⟩,λhz=>by omega,λ_ m hm=>?_⟩
  rw[I]
  have ae:(bU (cK g)).getD g.start.toNat []=[gb ((cK g)[g.start.toNat]'(by omega))]:=mH (by omega)
  simp(disch:=omega)only[seval,wq]
  refine⟨by omega,by omega,?_⟩
  refine aW.intro (λk T H'=>∃(i:Nat) (is:List Bool),i+k=g.av.length/\is.length=g.av.length/\iter (tD g p) k is=cU g/\T 1=.aR (aj g) 0/\T 3=bY p/\T 4=.sl m 0 g.av.length 1/\H' m=.arr 1 (bU is)/\T 5=gi i) g.av.length ?_ ?_
  .refine⟨0,(cK g).set g.start.toNat true,by omega,by simp[ab],n.symm,?_⟩
   simp(disch:=omega)only[↓wr,↓reduceIte,wq,Nat.reduceEqDiff,aj,encS]
   rw[ae]
   exact⟨by rw[<-iG];rfl,rfl⟩
  .rintro k T H' ⟨i,is,hk,hlen,hi,f1,f3,f4,fm,f5⟩
   simp(disch:=omega)only[↓wr,seval,wq,ma,f1,f5,aj,encS]
   apply ao.dec<;>intro hc
   .simp(disch:=omega)only[↓wr,seval,wq]
    refine aW.intro (λJ T H'=>∃(j:Nat) (d:List Bool),j+J=g.rules.length/\d.length=g.av.length/\(g.rules.drop j).foldl (jb p) d=tD g p is/\T 1=.aR (aj g) 0/\T 3=bY p/\T 4=.sl m 0 g.av.length 1/\H' m=.arr 1 (bU d)/\T 5=gi i/\T 6=gi j) g.rules.length ?_ ?_
    .refine⟨0,is,by omega,hlen,rfl,?_⟩
     simp(disch:=omega)only[↓wr,seval,wq,f1,f3,f4,f5,fm,aj,encS]
     first | done | exact⟨rfl,rfl⟩ | rfl
    .rintro J T' a7 ⟨j,d,a8,t,C,K,L,M,em,N,O⟩
     simp(disch:=omega)only[↓wr,seval,wq,l8,K,O,aj]
     apply ao.dec<;>intro hd
     .have hle:=y.rules
      have P:g.rules[j]?=some (g.rules[j]'(by omega)):=aa8 (by omega)
      rw[eO (show j<g.rules.length by omega)] at C
      have f:g.rules[j]'(by omega)∈g.rules:=abe _
      generalize g.rules[j]'(by omega)=r at P C f
      simp only[abY] at C
      obtain⟨bd,bl⟩:=y.left r f
      obtain⟨_,_,al,Q⟩:=Y.aB r f
      have bn:=y.right r f
      have R:=KP r.right p true al (λs hs=>⟨Q s hs,λhn=>by have:=y.neg f hs hn;omega⟩)
      simp(disch:=omega)only[↓wr,seval,wq,K,O,aj,encS,aQ,encI,aba,P]
      intro b hb
      have S:m≠b:=VR em hb (by simp)
      try simp(disch:=omega)only[↓wr,seval,wq,K,L,M,N,O,aj,encS,aQ,encI]
      refine aW.intro (λq T H'=>∃(a:Nat) (c:List Bool),a+q=r.right.length/\c.length=g.av.length/\(r.right.drop a).foldl mark c=r.right.foldl mark d/\((a=0/\c=d)∨((d.getD r.left.toNat false&&fB r.right p true)=true/\c.getD r.left.toNat false=true)) /\
       T 1=.aR (aj g) 0/\T 3=bY p/\T 4=.sl m 0 g.av.length 1/\H' m=.arr 1 (bU c)/\T 5=gi i/\T 6=gi j/\T 7=.ptr b 0 0/\H' b=.arr 3 [aQ r]/\T 8=gi a) r.right.length ?_ ?_
      .refine⟨0,d,by omega,t,rfl,.inl ⟨rfl,rfl⟩,?_⟩
       simp(disch:=omega)only[↓wr,↓reduceIte,wq,Nat.reduceEqDiff,Nat.reduceAdd,K,L,M,N,O,em,S,aj,encS,aQ]
       exact⟨rfl,rfl⟩
      .rintro q T3 H3 ⟨a,c,hq,e,w,h,d1,d3,d4,z,d5,d6,d7,x,d8⟩
       simp(disch:=omega)only[↓wr,seval,wq,lZ,d7,d8,x,aQ,encI]
       have U:c[r.left.toNat]?=some (c[r.left.toNat]'(by omega)):=aa8 (by omega)
       have l:c.getD r.left.toNat false=c[r.left.toNat]'(by omega):=by simp[U]
       have A:=mH (show r.left.toNat<c.length by omega)
       have W:(d.getD r.left.toNat false&&fB r.right p true)=false->jb p d r=c:=λG=>by
        rcases h with ⟨_,rfl⟩ | ⟨h1,_⟩
        .rw[jb,G];rfl
        .rw[G] at h1;simp at h1
       generalize c[r.left.toNat]'(by omega)=tl at U l A
       apply ao.dec<;>intro ht
       .have D:r.right[a]?=some (r.right[a]'(by omega)):=aa8 (by omega)
        rw[eO (show a<r.right.length by omega)] at w
        have E:r.right[a]'(by omega)∈r.right:=abe _
        generalize r.right[a]'(by omega)=s at D w E
        simp only[abY] at w
        have an:=Q s E
        simp(disch:=omega)only[↓wr,seval,wq,d4,d7,x,z,aQ,encI,A]
        refine⟨by omega,by omega,?_⟩
        apply ao.split<;>intro u
        .simp(disch:=omega)only[↓wr,seval,wq,d3,d7,x,aQ,encI]
         refine ay.pure R ?_
         simp(disch:=omega)only[↓wr,seval,wq]
         apply ao.split<;>intro F
         .simp(disch:=omega)only[↓wr,seval,wq,d7,d8,x,aQ,encI,aba,D]
          have G:(d.getD r.left.toNat false&&fB r.right p true)=true/\c.getD r.left.toNat false=true:=by
           rcases h with ⟨_,rfl⟩ | h1
           .exact⟨by rw[l,u,F];rfl,by rw[l,u]⟩
           .exact h1
          apply ao.dec<;>intro B
          .have br:=y.neg f E B
           have ar:=an.1
           have v:mark c s=c.set (-1-s).toNat true:=by rw[mark,abb B]
           simp(disch:=omega)only[↓wr,seval,wq,d1,d3,d4,d5,d6,d7,d8,x,z,aQ,encI,aba,D,mH (show (-1-s).toNat<c.length by omega),S.symm]
           rw[v] at w
           exact⟨by omega,by omega,q-1,by omega,a+1,c.set (-1-s).toNat true,by omega,by simp[e],w,.inr ⟨G.1,WM G.2⟩,by rw[iG],by first | rfl | exact⟨rfl,rfl⟩⟩
          .have v:mark c s=c:=by rw[mark,aa9 B]
           rw[v] at w
           simp(disch:=omega)only[↓wr,seval,wq,d1,d3,d4,d5,d6,d7,d8,x,z]
           exact⟨q-1,by omega,a+1,c,by omega,e,w,.inr G,by first | rfl | exact⟨rfl,rfl⟩ | exact⟨rfl,rfl,rfl⟩⟩
         .simp(disch:=omega)only[↓wr,seval,wq,d1,d3,d4,d5,d6,z]
          have o:=W (by rw[F,acK])
          exact⟨J-1,by omega,j+1,c,by omega,e,by rw[<-o];exact C,rfl,rfl,rfl⟩
        .simp(disch:=omega)only[↓wr,seval,wq,d1,d3,d4,d5,d6,z]
         have o:jb p d r=c:=by
          rcases h with ⟨_,rfl⟩ | ⟨_,h1⟩
          .rw[jb,l,u];rfl
          .rw[l,u] at h1;simp at h1
         exact⟨J-1,by omega,j+1,c,by omega,e,by rw[<-o];exact C,rfl,rfl,rfl⟩
       .simp(disch:=omega)only[↓wr,seval,wq,d1,d3,d4,d5,d6,z]
        rw[aby (by omega),adi] at w
        have o:jb p d r=c:=by
         rcases h with ⟨h0,rfl⟩ | ⟨h1,_⟩
         .unfold jb
          split
          .exact w.symm
          .rfl
         .rw[jb,abb h1];exact w.symm
        exact⟨J-1,by omega,j+1,c,by omega,e,by rw[<-o];exact C,rfl,rfl,rfl⟩
     .rw[aby (by omega),adi] at C
      simp(disch:=omega)only[↓wr,seval,wq,K,L,M,N]
      obtain⟨q,rfl⟩:∃q,k=q+1:=⟨k-1,by omega⟩
      exact⟨q,by omega,i+1,d,by omega,t,by rw[C];exact hi,rfl,em,rfl⟩
   .simp(disch:=omega)only[↓wr,seval,wq,f4]
    have:k=0:=by omega
    subst this
    rintro X rfl
    simp only[<-hi,iter]
    rw[<-hlen]
    exact tZ fm
 .rename_i hr
  rintro X rfl
  simp only[cU,hr]
  exact .emp 1
theorem HU (g:ak) (a:g.Ok):bX aa 94 [.agg (aj g)] (bY (cU g)):=bX.of (dy g) (HR g a _)
def Bm:List (FuncId × DF):=C3 aa [(224,[]),(223,[]),(296,[]),(297,[])]
theorem xy:sG aa Bm:=vO _ _
theorem PZ (P:Program):vY P (λ_ _ _=>none):=λ_ _ _ _ h=>by simp at h
def Zh (o:Option V) (b:Bool):Bool:=match o with
 | some (.val (.bool c))=>c==b
 | _=>false
theorem Zm {o:Option V} {b:Bool} (h:Zh o b=true):o=some (gb b):=by
 unfold Zh at h
 split at h
 .rw[ab9] at h;rw[h]
 .simp at h
def CJ (tab:List (FuncId × DF)) (f:FuncId) (p:Int->Bool):Bool:=(List.range 256).all λc=>Zh (vl aa tab (λ_ _ _=>none) f [gy (c:Int)]) (p (c:Int))
theorem zG {tab:List (FuncId × DF)} (b:sG aa tab) {f:FuncId} {p:Int->Bool} (h:CJ tab f p=true) (c:Int) (d:0<=c) (h1:c<=255):aC aa f [gy c] (gb (p c)):=by
 have:=abC.1 h c.toNat (by simp;omega)
 rw[show ((c.toNat:Nat):Int)=c by omega] at this
 exact(qT mixed b (PZ _) (by intro v a;simp at a;subst a;exact .val _) (Zm this)).pure
def BZ (c:Int):Bool:=decide (32<=c)&&decide (c<=126)&&c != 39&&c != 92
def G4 (c:Int):Bool:=c==110||c==116||c==92||c==39
theorem PS:CJ Bm 223 y7=true:=by kernel_rfl
theorem Tf:CJ Bm 224 pW=true:=by kernel_rfl
theorem TX:CJ Bm 296 BZ=true:=by kernel_rfl
theorem Yd:CJ Bm 297 G4=true:=by kernel_rfl
theorem IY {s:ByteArray} {c:Int} (h:c∈gG s):0<=c/\c<=255:=by
 unfold gG at h
 obtain⟨b,_,rfl⟩:=abt.1 h
 have:=b.toNat_lt
 omega
theorem Ro (s:ByteArray):iF s=(gG s).map λx=>[gy x]:=by simp[iF,gG]
def OM:List (FuncId × DF):=C3 aa [(44,[]),(87,[]),(145,[]),(207,[]),(255,[]),(256,[]),(257,[]),(258,[]),(286,[]),(208,[]),(259,[]),(209,[]),(234,[]),(233,[]),(232,[]),(260,[]),(261,[]),(262,[]),(146,[]),(213,[]),(212,[]),(263,[]),(264,[]),(211,[]),(214,[]),(210,[]),(88,[1]),(149,[3]),(169,[]),(172,[]),(151,[4]),(216,[4]),(150,[2]),(170,[2]),(266,[3]),(147,[]),(215,[5]),(265,[]),(148,[])]
theorem QV:sG aa OM:=vO _ _
def EN (l:List Int):V:=.aY (l.map λx=>[gy x])
theorem Uy (l:List Int):Tree (EN l):=eA _ _ λx _ v a=>by simp at a;subst a;exact .val _
def vr (g:ak):V:=.bc [.agg (aj g),.val (.complex .f64 0 0),gi 0]
theorem Pb {l:List Int} {g:ak} (h:vl aa OM (λ_ _ _=>none) 44 [EN l]=some (vr g)):bX aa 44 [EN l] (vr g):=
 qT mixed QV (PZ _) (by intro v a;simp at a;subst a;exact Uy _) h
abbrev cH (κ:Type):=List (κ × V × Nat)
def cQ {κ:Type} (key:κ->Value) (m:cH κ):List (V × V × Nat):=m.map λx=>(.val (key x.1),x.2.1,x.2.2)
def getM {κ:Type} [BEq κ] (m:cH κ) (k:κ):Option V:=(m.find? λx=>k==x.1).map (·.2.1)
def bP {κ:Type} [BEq κ] (k:κ) (v:V) (c:Nat):cH κ->cH κ
 | []=>[(k,v,c)]
 | x::r=>if k==x.1 then (k,v,x.2.2)::r else x::bP k v c r
structure Ek {κ:Type} [BEq κ] (P:Program) (kt:TypeId) (key:κ->Value):Prop where
 ty:∃d,P.underlying kt=some d/\(∀a b,Instr.sameNow d (key a) (key b)=some (a==b))/\(∀a e,bo P (Instr.checkKey e 10000 kt (key a))=some ())
 bits:∀a b,(a==b)=true->Instr.sameBits 10000 (key b) (key a)=true
theorem zm {κ:Type} (key:κ->Value):∀m:cH κ,gJ (cQ key m)=some (m.map λx=>{ key:=key x.1,val:=.nilFunc,born:=x.2.2 })
 | []=>rfl
 | x::r=>by
  have:=zm key r
  simp only[cQ] at this
  simp[cQ,gJ,dI,this]
def gB {κ:Type} [BEq κ] (k:κ):cH κ->Option Nat
 | []=>none
 | x::r=>if k==x.1 then some 0 else (gB k r).map (·+1)
theorem Dv {κ:Type} [BEq κ] {key:κ->Value} {d:TypeDesc} (h:∀a b,Instr.sameNow d (key a) (key b)=some (a==b)) (k:κ):∀(m:cH κ) (i:Nat),
  Instr.findNow d (key k) (m.map λx=>{ key:=key x.1,val:=.nilFunc,born:=x.2.2 }) i=some ((gB k m).map λj=>(i+j,.nilFunc))
 | [],i=>rfl
 | x::r,i=>by
  simp only[abE,Instr.findNow,h,gB]
  cases hk:k==x.1 with
  | true=>simp
  | false =>
   simp only[Dv h k r (i+1),abI,if_false,Option.map_map]
   congr 2
   funext j
   simp only[Function.comp]
   congr 1
   omega
theorem BL {κ:Type} [BEq κ] {P:Program} {kt:TypeId} {key:κ->Value} (h:Ek P kt key) (k:κ) (e:Bool) (m:cH κ):mR P kt (.val (key k)) e (cQ key m)=some (gB k m):=by
 obtain⟨d,a,b,c⟩:=h.ty
 have hu:bo P (underlying kt)=some d:=dH a
 simp only[mR,dI,zm,aZ,c,abD]
 have:bo P (Instr.findKey kt (key k) (m.map λx=>{ key:=key x.1,val:=.nilFunc,born:=x.2.2 }))=some ((gB k m).map λj=>(0+j,.nilFunc)):=by
  unfold Instr.findKey
  rw[aZ,hu,abD,Dv b]
  rfl
 rw[this]
 cases gB k m with
 | none=>rfl
 | some j=>simp
theorem zK {P:Program} {kt:TypeId} {d:TypeDesc} (h:P.underlying kt=some d) (a:match d with | .int _ | .string | .bool=>True | _=>False) (e:Bool) (n:Nat) (v:Value):bo P (Instr.checkKey e (n+1) kt v)=some ():=by
 unfold Instr.checkKey
 rw[aZ,dH h,abD]
 cases d<;>first | exact a.elim | rfl
theorem mg {P:Program} {kt:TypeId} (k:IntKind) (h:P.underlying kt=some (.int k)):Ek P kt (Value.int k) where
 ty:=⟨_,h,λa b=>by simp[Instr.sameNow],λa e=>zK h trivial e 9999 _⟩
 bits:=λa b c=>by
  have:a=b:=by simpa using c
  subst this
  simp[Instr.sameBits]
theorem AD {κ:Type} [BEq κ] {key:κ->Value} (k:κ):∀m:cH κ,match gB k m with
  | some i=>∃x,m[i]?=some x/\(k==x.1)=true/\getM m k=some x.2.1/\(cQ key m)[i]?=some (.val (key x.1),x.2.1,x.2.2)/\∀v c,(cQ key m).set i (.val (key k),v,x.2.2)=cQ key (bP k v c m)/\(bP k v c m).length=m.length
  | none=>getM m k=none/\∀v c,cQ key m++[(.val (key k),v,c)]=cQ key (bP k v c m)/\(bP k v c m).length=m.length+1
 | []=>⟨rfl,λv c=>⟨rfl,rfl⟩⟩
 | x::r=>by
  have a:=AD (key:=key) k r
  simp only[gB]
  cases hk:k==x.1 with
  | true=>exact⟨x,rfl,hk,by simp[getM,hk],rfl,λv c=>by simp[bP,hk,cQ]⟩
  | false =>
   cases hi:gB k r with
   | some i =>
    rw[hi] at a
    obtain⟨y,h1,b,d,e,f⟩:=a
    refine⟨y,by simpa using h1,b,by simpa [getM,hk] using d,by simpa [cQ] using e,λv c=>?_⟩
    obtain⟨g1,g2⟩:=f v c
    exact⟨by simp only[cQ] at g1 ⊢;simp[bP,hk,g1],by simp[bP,hk,g2]⟩
   | none =>
    rw[hi] at a
    refine⟨by simpa [getM,hk] using a.1,λv c=>?_⟩
    obtain⟨g1,g2⟩:=a.2 v c
    exact⟨by simp only[cQ] at g1 ⊢;simp[bP,hk,g1],by simp[bP,hk,g2]⟩
section
variable {P:Program} {T:Env} {H:View} {κ:Type} [BEq κ] {key:κ->Value} {kt et t ty:TypeId}
theorem CM {K:V->View->Prop} {w:dd (T,H,K)} {x i:Operand} {z:V} {id c:Nat} {m:cH κ} {k:κ} (hm:eR P t=some (kt,et)) (d:zeroV P et=some z) (hk:Ek P kt key)
  (e:ev T x=.mp id) (hi:ev T i=.val (key k)) (hH:H id=.map (cQ key m) c) (h:K ((getM m k).getD z) H):kb P (.lookup t x i false) ty T H K w:=by
 intro n _
 have f:=BL hk k (cQ key m).isEmpty m
 have a:=AD (key:=key) k m
 refine⟨(getM m k).getD z,.none,[id],?_,h⟩
 simp only[sI,cL,oper,fV,hm,d,e,hi,hH,f]
 cases b:gB k m with
 | some j =>
  rw[b] at a
  obtain⟨y,h1,o,g,l,_⟩:=a
  simp[l,g]
 | none =>
  rw[b] at a
  simp[a.1]
theorem Xm {K:V->View->Prop} {w:dd (T,H,K)} {x i:Operand} {z:V} {id c:Nat} {m:cH κ} {k:κ} (hm:eR P t=some (kt,et)) (d:zeroV P et=some z) (hk:Ek P kt key)
  (e:ev T x=.mp id) (hi:ev T i=.val (key k)) (hH:H id=.map (cQ key m) c) (h:K (.bc [(getM m k).getD z,.val (.bool (getM m k).isSome)]) H):kb P (.lookup t x i true) ty T H K w:=by
 intro n _
 have f:=BL hk k (cQ key m).isEmpty m
 have a:=AD (key:=key) k m
 refine⟨_,.none,[id],?_,h⟩
 simp only[sI,cL,oper,fV,hm,d,e,hi,hH,f]
 cases b:gB k m with
 | some j =>
  rw[b] at a
  obtain⟨y,h1,o,g,l,_⟩:=a
  simp[l,g]
 | none =>
  rw[b] at a
  simp[a.1]
theorem U4 (hk:Ek P kt key) (k a:κ) (h:(k==a)=true):sameKey (.val (key a)) (.val (key k))=true:=by
 simp only[sameKey,dI];exact hk.bits _ _ h
theorem yz {K:V->View->Prop} {w:dd (T,H,K)} {x i y:Operand} {id c:Nat} {m:cH κ} {k:κ} {v:V} (hm:eR P t=some (kt,et)) (hk:Ek P kt key)
  (d:ev T x=.mp id) (hi:ev T i=.val (key k)) (e:ev T y=v) (hH:H id=.map (cQ key m) c)
  (h:∀g,K .any (H.set id (.map (cQ key (bP k v c m)) g))):kb P (.mapUpdate t x i y) ty T H K w:=by
 intro n _
 have a:=BL hk k false m
 have b:=AD (key:=key) k m
 cases f:gB k m with
 | some j =>
  rw[f] at b a
  obtain⟨z,h1,l,q,o,p⟩:=b
  refine⟨.any,.fP id (.map ((cQ key m).set j (.val (key k),v,z.2.2)) c),[id],?_,?_⟩
  .simp only[sI,cL,oper,iq,hm,d,hi,e,hH,a,o,U4 hk k z.1 l,if_true]
  .rw[(p v c).1];exact h c
 | none =>
  rw[f] at b a
  refine⟨.any,.fP id (.map (cQ key m++[(.val (key k),v,c)]) (c+1)),[id],?_,?_⟩
  .simp only[sI,cL,oper,iq,hm,d,hi,e,hH,a]
  .rw[(b.2 v c).1];exact h (c+1)
theorem YN {P:Program} {T:Env} {H:View} {t ty:TypeId} {x i y:Operand} {K:V->View->Prop} {w:dd (T,H,K)} : kb P (.insert t x i y) ty T H K w=kb P (.mapUpdate t x i y) ty T H K w:=propext Iff.rfl
omit [BEq κ] in
theorem Yz {K:V->View->Prop} {w:dd (T,H,K)} {x:Operand} {id c:Nat} {m:cH κ} (hm:eR P t=some (kt,et)) (d:ev T x=.mp id) (hH:H id=.map (cQ key m) c) (h:K (cP m.length) H):
  kb P (.call { callee:=.builtin .len,args:=#[x],argTypes:=#[t] }) ty T H K w:=by
 intro n _
 have hu:∃a b,P.underlying t=some (.map a b):=by
  unfold eR at hm
  split at hm
  .rename_i a b h1;exact⟨a,b,h1⟩
  .simp at hm
 obtain⟨a,b,hu⟩:=hu
 refine⟨cP m.length,.none,[id],?_,h⟩
 have e:(cQ key m).length=m.length:=by simp[cQ]
 simp only[sI,cL,oper,acw,abl,abG,x7,d,hH,e]
 simp[hu]
end
theorem lz {κ:Type} [BEq κ] [LawfulBEq κ] (k a:κ) (v:V) (c:Nat):∀m:cH κ,getM (bP k v c m) a=if a==k then some v else getM m a
 | []=>by
  by_cases h:a=k
  .subst h;simp[bP,getM]
  .simp[bP,getM,h]
 | x::r=>by
  have b:=lz k a v c r
  simp only[bP]
  by_cases hk:k=x.1
  .by_cases h:a=k
   .subst h;simp[hk,getM]
   .have:¬ a=x.1:=λe=>h (e.trans hk.symm)
    simp[hk,getM,this]
  .simp only[ab9,hk,if_false]
   by_cases h:a=x.1
   .have:¬ a=k:=λe=>hk (e.symm.trans h)
    simp[getM,h]
    subst h
    simp[this]
   .simp only[getM,ado,beq_eq_false_iff_ne.2 h] at b ⊢
    exact b
def fp {κ β:Type} [BEq κ] (a:List (κ × β)) (k:κ):Option β:=(a.find? λx=>k==x.1).map (·.2)
def mf {κ β:Type} [BEq κ] (k:κ) (v:β):List (κ × β)->List (κ × β)
 | []=>[(k,v)]
 | x::r=>if k==x.1 then (k,v)::r else x::mf k v r
def qw {κ β:Type} (encV:β->V):List (κ × β)->cH κ->Prop
 | [],[]=>True
 | x::a,y::m=>y.1=x.1/\y.2.1=encV x.2/\qw encV a m
 | _,_=>False
theorem qw.get {κ β:Type} [BEq κ] {encV:β->V} (k:κ):∀ {a:List (κ × β)} {m:cH κ},qw encV a m->getM m k=(fp a k).map encV
 | [],[],_=>rfl
 | x::a,y::m,⟨h1,c,d⟩=>by
  have b:=qw.get k d
  simp only[getM,fp,ado,h1] at b ⊢
  cases k==x.1 with
  | true=>simp[c]
  | false=>simpa using b
theorem qw.put {κ β:Type} [BEq κ] {encV:β->V} (k:κ) (v:β) (c:Nat):∀ {a:List (κ × β)} {m:cH κ},qw encV a m->qw encV (mf k v a) (bP k (encV v) c m)
 | [],[],_=>⟨rfl,rfl,trivial⟩
 | x::a,y::m,⟨h1,d,b⟩=>by
  have e:=qw.put k v c b
  simp only[mf,bP,h1]
  cases k==x.1 with
  | true=>exact⟨rfl,rfl,b⟩
  | false=>exact⟨h1,d,e⟩
theorem qw.len {κ β:Type} {encV:β->V}:∀ {a:List (κ × β)} {m:cH κ},qw encV a m->m.length=a.length
 | [],[],_=>rfl
 | x::a,y::m,⟨_,_,b⟩=>by simp[qw.len b]
theorem Lr {κ β:Type} [BEq κ] [LawfulBEq κ] (k b:κ) (v:β):∀a:List (κ × β),fp (mf k v a) b=if b==k then some v else fp a b
 | []=>by
  by_cases h:b=k
  .subst h;simp[mf,fp]
  .simp[mf,fp,h]
 | x::r=>by
  have c:=Lr k b v r
  simp only[mf]
  by_cases hk:k=x.1
  .by_cases h:b=k
   .subst h;simp[hk,fp]
   .have:¬ b=x.1:=λe=>h (e.trans hk.symm)
    simp[hk,fp,this]
  .simp only[ab9,hk,if_false]
   by_cases h:b=x.1
   .have:¬ b=k:=λe=>hk (e.symm.trans h)
    simp[fp,h]
    subst h
    simp[this]
   .simp only[fp,ado,beq_eq_false_iff_ne.2 h] at c ⊢
    exact c
def FL (n k:Nat) (J:Nat->Env->View->Prop) (T:Env) (H:View):Prop:=∃i,i+k=n/\J i T H
theorem aW.up {P:Program} {T:Env} {H:View} {c:SC} {Q:Exit->Env->View->Prop} {v:dd (T,H,Q)} (n:Nat) (J:Nat->Env->View->Prop) (d:J 0 T H)
  (f:∀i k T H,i+k=n->J i T H->wS P c T H λe a H'=>DJ e (∃b,b<k/\FL n b J a H') (Q e a H')):aW P c T H Q v:=
 aW.intro (λk T H=>FL n k J T H) n ⟨0,by omega,d⟩ λk T H ⟨i,hk,g⟩=>f i k T H hk g
theorem aF {n i k:Nat} {J:Nat->Env->View->Prop} {T:Env} {H:View} (hk:i+k=n) (b:i<n) (c:J (i+1) T H):∃a,a<k/\FL n a J T H:=⟨k-1,by omega,i+1,by omega,c⟩
def owner:V->Option Nat
 | .sl id _ _ _=>some id
 | _=>none
def aN (H:View) (u:V) (sz:Nat) (es:List (List V)):Prop:=
 (es=[]/\∃k,u=.emp k)∨(∃n,u=.sl n 0 es.length sz/\H n=.arr sz es)
theorem aN.nil {H:View} {sz k:Nat} : aN H (.emp k) sz []:=.inl ⟨rfl,k,rfl⟩
theorem aN.len {H:View} {u:V} {sz:Nat} {es:List (List V)} (h:aN H u sz es):cE u=some es.length:=by
 rcases h with ⟨rfl,k,rfl⟩ | ⟨n,rfl,_⟩<;>rfl
theorem aN.live {H:View} {u:V} {sz:Nat} {es:List (List V)} (h:aN H u sz es) {id:Nat} (a:owner u=some id):H id=.arr sz es/\u=.sl id 0 es.length sz:=by
 rcases h with ⟨rfl,k,rfl⟩ | ⟨n,rfl,b⟩
 .simp[owner] at a
 .simp[owner] at a;subst a;exact⟨b,rfl⟩
theorem aN.keep {H H':View} {u:V} {sz:Nat} {es:List (List V)} (h:aN H u sz es) (hk:∀id,owner u=some id->H' id=H id):aN H' u sz es:=by
 rcases h with ⟨rfl,k,rfl⟩ | ⟨n,rfl,a⟩
 .exact .inl ⟨rfl,k,rfl⟩
 .exact .inr ⟨n,rfl,by rw[hk n rfl];exact a⟩
theorem aN.fresh {H:View} {u:V} {sz m:Nat} {es:List (List V)} {o:ct} (h:aN H u sz es) (hm:H m=.dead):aN (H.set m o) u sz es:=
 h.keep λid a=>by
  have:=(h.live a).1
  have e:id≠m:=by rintro rfl;rw[hm] at this;simp at this
  simp[View.set,e]
theorem aN.ne {H:View} {u:V} {sz m:Nat} {es:List (List V)} (h:aN H u sz es) (hm:H m=.dead):owner u≠some m:=λe=>by
 have:=(h.live e).1;rw[hm] at this;simp at this
theorem aN.other {H:View} {u:V} {sz m:Nat} {es:List (List V)} {o:ct} (h:aN H u sz es) (hm:owner u≠some m):aN (H.set m o) u sz es:=
 h.keep λid a=>by
  have e:id≠m:=by rintro rfl;exact hm a
  simp[View.set,e]
theorem aN.new {H:View} {n sz:Nat} {es:List (List V)} : aN (H.set n (.arr sz es)) (.sl n 0 es.length sz) sz es:=.inr ⟨n,rfl,by simp[View.set]⟩
theorem bD {H:View} {m z sz:Nat} {e:List V} : bQ (View.set H m (.arr z [e])) (.sl m 0 1 sz)=some ([e],[m]):=by
 simp[bQ,View.set]
def Left (H H':View) (u u':V):Prop:=∀id,H id≠.dead->owner u≠some id->H' id=H id/\owner u'≠some id
theorem kX {sz bytes:Nat} {u:V} {es xs:List (List V)} {H:View} {K:V->View->Prop} {w:dd (H,K)} (d:aN H u sz es) (g:xs≠[]) (b:(xs.all λe=>e.length==sz&&e.all aK)=true)
  (f:(es.length+xs.length)*bytes<aE) (c:es.length+xs.length<aE) (hk:∀u' H',aN H' u' sz (es++xs)->Left H H' u u'->K u' H'):nA sz bytes u xs H K w:=by
 have he:xs.isEmpty=false:=by cases xs with | nil=>exact absurd rfl g | cons=>rfl
 rcases d with ⟨rfl,k,rfl⟩ | ⟨n,rfl,h⟩
 .rw[wD _ _ _ _ _ _ _ he]
  refine⟨b,⟨by simpa using f,by simpa using c⟩,λm hm=>hk _ _ ?_ ?_⟩
  .exact .inr ⟨m,rfl,by simp[View.set]⟩
  .intro id a _
   have e:id≠m:=by rintro rfl;exact a hm
   exact⟨by simp[View.set,e],by simp[owner,Ne.symm e]⟩
 .rw[vH _ _ _ _ _ _ _ _ _ _ he,h]
  refine⟨b,⟨by simp,rfl,f,c⟩,λm hm=>hk _ _ ?_ ?_⟩
  .refine .inr ⟨m,by simp,by simp[View.set]⟩
  .intro id a d
   have e:id≠m:=by rintro rfl;exact a hm
   have i:id≠n:=by rintro rfl;exact d rfl
   exact⟨by simp[View.set,e,i],by simp[owner,Ne.symm e]⟩
theorem Left.refl {H:View} {u:V} : Left H H u u:=λ_ _ h=>⟨rfl,h⟩
theorem dw {sz bytes:Nat} {u:V} {es xs:List (List V)} {H:View} {K:V->View->Prop} {w:dd (H,K)} (a:aN H u sz es) (b:(xs.all λe=>e.length==sz&&e.all aK)=true)
  (d:(es.length+xs.length)*bytes<aE) (c:es.length+xs.length<aE) (hk:∀u' H',aN H' u' sz (es++xs)->Left H H' u u'->K u' H'):nA sz bytes u xs H K w:=by
 cases xs with
 | nil =>
  have:=hk u H (by simpa using a) .refl
  rcases a with ⟨rfl,k,rfl⟩ | ⟨n,rfl,f⟩
  .exact this
  .exact this
 | cons x xs=>exact kX a (by simp) b d c hk
theorem cm.own {H:View} {u:V} {sz:Nat} {es:List (List V)} (h:aN H u sz es) (a:∀e∈es,∀v∈e,Tree v):cm H u (.aY es):=by
 rcases h with ⟨rfl,k,rfl⟩ | ⟨n,rfl,b⟩
 .exact λh _=>.emp k
 .have:=cm.sl (off:=0) (len:=es.length) (esz:=sz) b (by simp) a
  rwa [ab8,abo (by simp)] at this
theorem dF.own {h:Heap} {u:V} {sz:Nat} {es:List (List V)} {es':List (List V)} (b:aN h.view u sz es) (a:es'.length=es.length) (hi:∀i,i<es.length->(es'.getD i []).length=(es.getD i []).length)
  (c:∀i j,i<es.length->j<(es'.getD i []).length->dF h ((es.getD i []).getD j .any) ((es'.getD i []).getD j .any)):dF h u (.aY es'):=by
 rcases b with ⟨rfl,k,rfl⟩ | ⟨n,rfl,d⟩
 .have:es'=[]:=acx.1 (by simpa using a)
  subst this
  exact .emp k
 .exact .sl n 0 es.length sz sz es es' d (by simp) a (λi h=>by rw[abX];exact hi i h) (λi j h1 e=>by rw[abX];exact c i j h1 e)
theorem dF.D3 {h:Heap} {α:Type} {u:V} {sz:Nat} {l:List α} {f:α->Value} (b:aN h.view u sz (l.map λx=>[V.val (f x)])):dF h u (.aY (l.map λx=>[V.val (f x)])):=by
 refine dF.own b rfl (λi _=>rfl) (λi j hi a=>?_)
 simp only[abc] at hi
 have e:(l.map λx=>[V.val (f x)]).getD i []=[V.val (f l[i])]:=by simp[hi]
 rw[e] at a ⊢
 have:j=0:=by simp at a;omega
 subst this
 exact .val _
def cn (H H':View) (r:V):Prop:=∀id,H id≠.dead->H' id=H id/\owner r≠some id
theorem cn.emp {H:View} {k:Nat} : cn H H (.emp k):=λ_ _=>⟨rfl,by simp[owner]⟩
theorem cn.new {H:View} {n a b c:Nat} {o:ct} (f:H n=.dead):cn H (H.set n o) (.sl n a b c):=λid d=>by
 have e:id≠n:=by rintro rfl;exact d f
 exact⟨by simp[View.set,e],by simp[owner,Ne.symm e]⟩
theorem aN.left {H H':View} {u u' x:V} {sz:Nat} {es:List (List V)} (h:aN H x sz es) (b:Left H H' u u') (c:∀id,owner x=some id->owner u≠some id):aN H' x sz es:=
 h.keep λid a=>(b id (by rw[(h.live a).1];simp) (c id a)).1
theorem aN.TM {H H':View} {x r:V} {sz:Nat} {es:List (List V)} (h:aN H x sz es) (b:cn H H' r):aN H' x sz es:=
 h.keep λid a=>(b id (by rw[(h.live a).1];simp)).1
theorem set_set {H:View} {n:Nat} {a b:ct} : View.set (View.set H n a) n b=View.set H n b:=by
 funext id;simp only[View.set];split<;>rfl
theorem cp {m b:Nat} {o x:ct} (h:(if m=b then o else x)=.dead) (a:o≠.dead):m≠b/\x=.dead:=by
 split at h
 .exact absurd h a
 .rename_i e;exact⟨e,h⟩
theorem cw {z:Nat} {es:List (List V)} : ct.arr z es≠.dead:=by simp
def sF (H:View):List V->List V->Prop
 | [],[]=>True
 | v::vs,t::ts=>cm H v t/\sF H vs ts
 | _,_=>False
theorem sF.len {H:View}:∀ {vs a:List V},sF H vs a->a.length=vs.length
 | [],[],_=>rfl
 | _::_,_::_,h=>by simp[sF.len h.2]
theorem sF.get {H:View}:∀ {vs a:List V},sF H vs a->∀i,i<vs.length->cm H (vs.getD i .any) (a.getD i .any)
 | [],[],_,i,hi=>by simp at hi
 | _::_,_::_,h,0,_=>h.1
 | _::_,_::_,h,i+1,hi=>sF.get h.2 i (by simpa using hi)
theorem ay.Av {P:Program} {q:Bool} {f:FuncId} {H:View} {vs b:List V} {K:V->View->Prop} {v:dd (H,K)} {t:V} (d:aC P f b t) (a:eh P f=true) (e:Ay t) (c:sF H vs b) (hk:K t H):ay P q f vs H K v:=
 ay.borrow d a e c.len c.get hk
theorem ay.gV {P:Program} {q:Bool} {f:FuncId} {H:View} {vs b:List V} {K:V->View->Prop} {v:dd (H,K)} {t:V} (d:bX P f b t) (a:eh P f=true) (c:sF H vs b) (hk:K t H):ay P q f vs H K v:=
 ay.yE d a c.len c.get hk
theorem cm.box {H:View} {q z:Nat} {e:List V} (a:H q=.arr z [e]) (b:∀v∈e,Tree v):cm H (.ptr q 0 0) (.aR e 0):=by
 rintro h rfl
 refine .ptr q 0 0 z [e] e a (by simp) (by simp) (λk hk=>?_)
 simp only[acv]
 have c:e.getD k .any=e[k]:=by simp[hk]
 rw[c]
 exact .tree _ (b _ (abe _))
theorem aN.sl {H:View} {u:V} {sz:Nat} {es:List (List V)} (h:aN H u sz es) (a:0<es.length):∃n,u=.sl n 0 es.length sz/\H n=.arr sz es:=by
 rcases h with ⟨rfl,_⟩ | h
 .simp at a
 .exact h
abbrev ez:=V × Nat × List (List V)
def bw (H:View) (L:List ez):Prop:=(∀x∈L,aN H x.1 x.2.1 x.2.2)/\(L.filterMap λx=>owner x.1).Nodup
theorem bw.nil {H:View} : bw H []:=⟨λx a=>by simp at a,by simp⟩
theorem bw.head {H:View} {x:ez} {L:List ez} (h:bw H (x::L)):aN H x.1 x.2.1 x.2.2:=h.1 x (by simp)
theorem bw.tail {H:View} {x:ez} {L:List ez} (h:bw H (x::L)):bw H L:=by
 refine⟨λy a=>h.1 y (by simp[a]),?_⟩
 have:=h.2
 simp only[aci] at this
 split at this
 .exact this
 .exact(acd.1 this).2
theorem bw.perm {H:View} {L a:List ez} (h:bw H L) (p:L.Perm a):bw H a:=
 ⟨λx b=>h.1 x (p.mem_iff.2 b),(p.filterMap _).nodup_iff.1 h.2⟩
theorem vi {α:Type}:∀(L:List α) (k:Nat) (hk:k<L.length),L.Perm (L[k]::L.eraseIdx k)
 | x::L,0,_=>.refl _
 | x::L,k+1,hk=>by
  have:=vi L k (by simpa using hk)
  exact(this.cons x).trans (.swap _ _ _)
theorem bw.at {H:View} {L:List ez} (h:bw H L) (k:Nat) (hk:k<L.length):bw H (L[k]::L.eraseIdx k):=
 h.perm (vi L k hk)
theorem bw.obj {H:View} {n k sz:Nat} {es:List (List V)} {L:List ez} (h:bw H ((.sl n 0 k sz,sz,es)::L)) (a:es≠[]):H n=.arr sz es/\k=es.length:=by
 rcases h.head with ⟨e,_⟩ | ⟨m,e,hm⟩
 .exact absurd e a
 .simp only[V.sl.injEq] at e
  obtain⟨rfl,_,rfl,_⟩:=e
  exact⟨hm,rfl⟩
theorem bw.off {H:View} {x:ez} {L:List ez} (h:bw H (x::L)) {id:Nat} (a:owner x.1=some id):∀y∈L,owner y.1≠some id:=by
 intro y b e
 have:=h.2
 simp only[aci,a,acd,acB,not_exists,not_and] at this
 exact this.1 y b e
theorem bw.live {H:View} {x:ez} {L:List ez} (h:bw H L) (b:x∈L) {id:Nat} (a:owner x.1=some id):H id≠.dead:=by
 rw[((h.1 x b).live a).1];simp
theorem bw.keep {H H':View} {L:List ez} (h:bw H L) (hk:∀x∈L,∀id,owner x.1=some id->H' id=H id):bw H' L:=
 ⟨λx a=>(h.1 x a).keep (hk x a),h.2⟩
theorem bw.new {H:View} {L:List ez} (h:bw H L) {n:Nat} (b:H n=.dead) (sz:Nat) (es:List (List V)):bw (H.set n (.arr sz es)) ((.sl n 0 es.length sz,sz,es)::L):=by
 refine⟨λx a=>?_,?_⟩
 .rcases abw.1 a with rfl | a
  .exact .new
  .exact(h.1 x a).fresh b
 .simp only[aci,owner,acd,acB,not_exists,not_and]
  exact⟨λx a e=>h.live a e b,h.2⟩
theorem bw.Hs {H H':View} {L:List ez} (h:bw H L) {u:V} {sz:Nat} {es:List (List V)} (c:aN H' u sz es) (b:cn H H' u):bw H' ((u,sz,es)::L):=by
 refine⟨λx a=>?_,?_⟩
 .rcases abw.1 a with rfl | a
  .exact c
  .exact(h.1 x a).TM b
 .cases hu:owner u with
  | none=>simp only[aci,hu];exact h.2
  | some id =>
   simp only[aci,hu,acd,acB,not_exists,not_and]
   exact⟨λx a e=>(b id (h.live a e)).2 hu,h.2⟩
theorem bw.fresh {H:View} {L:List ez} (h:bw H L) {n:Nat} (a:H n=.dead) {o:ct} : bw (H.set n o) L:=
 ⟨λx b=>(h.1 x b).fresh a,h.2⟩
theorem bw.put {H:View} {L:List ez} {n k sz:Nat} {es es':List (List V)} (h:bw H ((.sl n 0 k sz,sz,es)::L)) (b:es'.length=es.length) (hk:k=es.length):bw (H.set n (.arr sz es')) ((.sl n 0 k sz,sz,es')::L):=by
 refine⟨λx a=>?_,by simpa [aci,owner] using h.2⟩
 rcases abw.1 a with rfl | a
 .exact .inr ⟨n,by simp[b,hk],by simp[View.set]⟩
 .exact(h.1 x (by simp[a])).other (h.off rfl x a)
theorem bw.left {H H':View} {L:List ez} {u u':V} {sz:Nat} {es es':List (List V)} (h:bw H ((u,sz,es)::L)) (i:aN H' u' sz es') (f:Left H H' u u'):bw H' ((u',sz,es')::L):=by
 have b:∀x∈L,∀id,owner x.1=some id->owner u≠some id:=λx a id c hu=>h.off hu x a c
 refine⟨λx a=>?_,?_⟩
 .rcases abw.1 a with rfl | a
  .exact i
  .exact(h.1 x (by simp[a])).left f (b x a)
 .have g:=h.tail.2
  cases hu:owner u' with
  | none=>simp only[aci,hu];exact g
  | some id =>
   simp only[aci,hu,acd,acB,not_exists,not_and]
   refine⟨λx a e=>?_,g⟩
   have d:=h.tail.live a e
   exact(f id d (b x a id e)).2 hu
theorem dC {sz bytes:Nat} {u:V} {es xs:List (List V)} {L:List ez} {H:View} {K:V->View->Prop} {w:dd (H,K)} (c:bw H ((u,sz,es)::L)) (a:(xs.all λe=>e.length==sz&&e.all aK)=true)
  (f:(es.length+xs.length)*bytes<aE) (b:es.length+xs.length<aE) (hk:∀u' H',bw H' ((u',sz,es++xs)::L)->Left H H' u u'->K u' H'):nA sz bytes u xs H K w:=
 dw c.head a f b λu' H' h1 d=>hk u' H' (c.left h1 d) d
theorem bw.stay {H H':View} {L:List ez} (h:bw H L) (b:∀id,H id≠.dead->H' id=H id):bw H' L:=
 h.keep λx c _ a=>b _ (h.live c a)
theorem bw.emp {H:View} {L:List ez} (h:bw H L) {k sz:Nat} : bw H ((.emp k,sz,[])::L):=by
 refine⟨λx a=>?_,by simpa [aci,owner] using h.2⟩
 rcases abw.1 a with rfl | a
 .exact .nil
 .exact h.1 x a
theorem aN.cells {H:View} {u:V} {sz:Nat} {es:List (List V)} (h:aN H u sz es):V.cells u=[u]:=by
 rcases h with ⟨rfl,k,rfl⟩ | ⟨n,rfl,_⟩<;>rfl
theorem aN.eL {H:View} {u:V} {sz:Nat} {es:List (List V)} (h:aN H u sz es):aK u=true:=by
 rcases h with ⟨rfl,k,rfl⟩ | ⟨n,rfl,_⟩<;>rfl
theorem bw.OT {H:View} {L:List ez} (h:bw H L) (i j:Nat) {a e s1 b k2 s2 t1 t2:Nat} {f g:List (List V)} (hi:L[i]?=some (.sl a 0 e s1,t1,f)) (k:L[j]?=some (.sl b 0 k2 s2,t2,g)) (c:i≠j):a≠b:=by
 rintro rfl
 obtain⟨d,hi⟩:=abf.1 hi
 have h1:=h.at i d
 rw[hi] at h1
 exact h1.off (id:=a) rfl _ (List.mem_eraseIdx_iff_getElem?.2 ⟨j,c.symm,k⟩) rfl
theorem Kk {α:Type} {a b c:α} {l:List α} : (a::b::c::l).Perm (b::c::a::l):=(List.Perm.swap _ _ _).trans ((List.Perm.swap _ _ _).cons _)
theorem bw.own {H:View} {L:List ez} (h:bw H L) (i:Nat) {u:V} {sz:Nat} {es:List (List V)} (hi:L[i]?=some (u,sz,es)):aN H u sz es:=h.1 _ (abi hi)
theorem bw.is {H:View} {L:List ez} (h:bw H L) (i:Nat) {n k sz:Nat} {es:List (List V)} (hi:L[i]?=some (.sl n 0 k sz,sz,es)) (a:0<es.length):H n=.arr sz es:=by
 obtain⟨m,e,hm⟩:=(h.own i hi).sl a
 simp only[V.sl.injEq] at e
 rw[e.1];exact hm
theorem bw.JY {H:View} {L:List ez} (h:bw H L) {b c:Nat} {es:List (V × V × Nat)} (a:H b=.map es c):∀x∈L,owner x.1≠some b:=λx d e=>by
 have:=((h.1 x d).live e).1
 rw[a] at this;simp at this
theorem bw.F5 {H:View} {L:List ez} (h:bw H L) {b c:Nat} {es:List (V × V × Nat)} (d:H b=.map es c) {o:ct} : bw (H.set b o) L:=
 ⟨λx a=>(h.1 x a).other (h.JY d x a),h.2⟩
theorem Left.map {H H':View} {u u':V} {b c:Nat} {es:List (V × V × Nat)} {sz:Nat} {xs:List (List V)} (d:Left H H' u u') (f:aN H u sz xs) (a:H b=.map es c):H' b=.map es c:=by
 rw[(d b (by rw[a];simp) (λe=>by have:=(f.live e).1;rw[a] at this;simp at this)).1,a]
theorem F8 {H:View} {L:List ez} (h:bw H L) (i:Nat) {n k sz b c:Nat} {xs:List (List V)} {es:List (V × V × Nat)} (hi:L[i]?=some (.sl n 0 k sz,sz,xs)) (a:H b=.map es c):n≠b:=by
 rintro rfl
 exact h.JY a _ (abi hi) rfl
theorem ay.Hn {P:Program} {f:FuncId} {vs:List V} {H:View} {K:V->View->Prop} {w:dd (H,K)} {sz:Nat} {es:List (List V)} (b:az P f vs H λr H'=>aN H' r sz es/\cn H H' r) (hk:∀r H',aN H' r sz es->cn H H' r->K r H'):ay P true f vs H K w:=by
 unfold ay
 exact(b.mono λr H' h=>⟨λid a=>(h.2 id a).1,hk r H' h.1 h.2⟩).PO
def BC:SC:=
 ai [ag [aS 20 .lss 19 18],bO 20 (.exit 0),.block 1 (ai [ag [af 21 19,af 3 21],ag [af 22 0,af 23 3,((some 24),.op (.js (.tmp 22) (.tmp 23))),aU 25 224 [24],cO 26 25],aX 26 (ai [ag [bb 2 false],.ret])]),ag [aI 27 .add 19 1,af 19 27]]
def Fi:SF:=⟨ai [ag [bb 2 false],ai [.region false [⟨none,[af 4 0,((some 5),.op (.AO .eql (.tmp 4) (.val (.val (.string ⟨#[]⟩))))),af 6 5]⟩,⟨(some (6,false)),[af 7 0,((some 8),.op (.rV (.tmp 7))),aI 9 .gtr 8 20]⟩,⟨none,[cJ 10 6 9,af 11 10]⟩,⟨(some (11,false)),[af 12 0,((some 13),.op (.js (.tmp 12) (.val (.val (.int .i64 0))))),aU 14 223 [13],cO 15 14]⟩,⟨none,[cJ 16 11 15]⟩],aX 16 (ai [ag [bb 2 false],.ret])],ai [ag [af 17 0,((some 18),.op (.rV (.tmp 17))),aT 19 0],bR 0 BC],ag [bb 2 true],.ret],
 [.tmp 2],28⟩
theorem JP:aJ aa 158 []=some Fi:=by kernel_rfl
def AT:SF:=⟨ai [ag [aT 2 0,aT 3 0],ag [aT 4 2],.block 0 (ai [ag [af 6 0,aM 7 6,aI 8 .lss 7 2,af 5 8],.cond (.tmp 5) (ai [ag [aT 2 0,aT 3 4],.ret]) (ai [ag [af 10 0,((some 11),.op (.idx 1 (.tmp 10) (.val (.val (.int .i64 1))))),au 12 11,aU 13 296 [12],af 9 13],bO 9 (ai [ag [af 15 0,((some 16),.op (.idx 1 (.tmp 15) (.val (.val (.int .i64 1))))),au 17 16,((some 18),.op (.arith .neq (.tmp 17) (.val (.val (.int .u8 92))))),af 14 18],.cond (.tmp 14) (ai [ag [aT 2 0,aT 3 3],.ret]) (ai [ag [af 20 0,aM 21 20,aI 22 .lss 21 3,af 19 22],.cond (.tmp 19) (ai [ag [aT 2 0,aT 3 4],.ret]) (ai [ag [af 24 0,((some 25),.op (.idx 1 (.tmp 24) (.val (.val (.int .i64 2))))),au 26 25,aU 27 297 [26],cO 28 27,af 23 28],.cond (.tmp 23) (ai [ag [aT 2 0,aT 3 3],.ret]) (ag [aT 4 3])])])])])]),ai [ag [af 29 0,aM 30 29,af 31 4,aS 32 .leq 30 31],aX 32 (ai [ag [aT 2 0,aT 3 4],.ret])],ai [ag [af 33 0,af 34 4,aL 35 1 33 34,au 36 35,((some 37),.op (.arith .neq (.tmp 36) (.val (.val (.int .u8 39)))))],aX 37 (ai [ag [aT 2 0,aT 3 3],.ret])],ag [af 38 4,aI 39 .add 38 1,af 2 39,aT 3 0],.ret],
 [.tmp 2,.tmp 3],40⟩
theorem Ee:aJ aa 287 []=some AT:=by kernel_rfl
def ue:SF:=⟨ai [ag [bb 2 false],ai [.region false [⟨none,[af 5 0,((some 6),.op (.AO .eql (.tmp 5) (.val (.val (.string ⟨#[]⟩))))),af 7 6]⟩,⟨(some (7,false)),[af 8 0,((some 9),.op (.js (.tmp 8) (.val (.val (.int .i64 0))))),((some 10),.op (.arith .neq (.tmp 9) (.val (.val (.int .u8 39)))))]⟩,⟨none,[cJ 11 7 10]⟩],aX 11 (ai [ag [bb 2 false],.ret])],ag [af 13 0,((some 14),.op (.ia (.tmp 13))),aU 15 287 [14],af 12 15,c7 16 0 12,c7 17 1 12,af 3 16,af 4 17],.region false [⟨none,[af 18 4,aI 19 .eql 18 0,af 20 19]⟩,⟨(some (20,true)),[af 21 3,af 22 0,((some 23),.op (.rV (.tmp 22))),aS 24 .eql 21 23]⟩,⟨none,[dA 25 20 24,af 2 25]⟩],.ret],
 [.tmp 2],26⟩
theorem EG:aJ aa 267 [14]=some ue:=by kernel_rfl
def DE:SF:=⟨ai [ag [bb 2 false],.region false [⟨none,[af 3 0,aU 4 158 [3],af 5 4]⟩,⟨(some (5,false)),[af 6 0,aU 7 267 [6]]⟩,⟨none,[cJ 8 5 7,af 2 8]⟩],.ret],
 [.tmp 2],9⟩
theorem HI:aJ aa 217 []=some DE:=by kernel_rfl
def A4:SF:=⟨ai [ag [bb 2 false],ag [af 3 0,aU 4 158 [3],cO 5 4,af 2 5],.ret],
 [.tmp 2],6⟩
theorem Eh:aJ aa 157 []=some A4:=by kernel_rfl
theorem B8 (s:ByteArray):jM s ⟨#[]⟩=decide ((gG s).length=0):=by
 unfold jM
 rw[<-fO]
 have:(s.data.toList==([]:List UInt8))=decide (s.data.toList.length=0):=by
  cases s.data.toList<;>rfl
 show (s.data.toList==([]:List UInt8))=_
 rw[this]
 rfl
theorem Wk (s:ByteArray) (H:View):az aa 158 [gs s] H λr _=>r=gb (iN (gG s)):=by
 refine az.of mixed JP ?_
 repeat' (first | ((first|apply ao.dec|apply ao.eq|apply ao.ne|apply ao.split)<;>intro)|(simp(disch:=omega)only[↓wr,seval,wq,Fi,fO,B8]))
 .rename_i h
  congr 2;simp[iN,h]
 .rename_i h1 h
  congr 2;simp[iN,show ¬ (gG s).length<=20 by omega]
 .rename_i h1 p
  cases e:gG s with
  | nil=>simp[e] at h1
  | cons c l =>
   have f:=λd (g:d∈c::l)=>IY (s:=s) (c:=d) (by rw[e];exact g)
   have j:=f c (by simp)
   repeat' (first | ((first|apply ao.dec|apply ao.eq|apply ao.ne|apply ao.split)<;>intro)|(simp(disch:=omega)only[↓wr,seval,wq,abB]))
   refine ay.pure (zG xy PS c j.1 j.2) ?_
   repeat' (first | ((first|apply ao.dec|apply ao.eq|apply ao.ne|apply ao.split)<;>intro)|(simp(disch:=omega)only[↓wr,seval,wq,e,fO]))
   .rename_i q
    rw[e] at h1 p
    refine aW.intro (λk T H'=>∃i:Nat,i+k=(c::l).length/\((c::l).take i).all pW=true/\T 0=gs s/\T 18=gi (c::l).length/\T 19=gi i) (c::l).length ?_ ?_
    .exact⟨0,by omega,by simp,rfl,rfl,rfl⟩
    .rintro k T H' ⟨i,hk,hi,n,a,b⟩
     simp(disch:=omega)only[↓wr,seval,wq,BC,a,b]
     apply ao.dec<;>intro t
     .simp only[abl] at t hk p
      have o:(c::l)[i]?=some ((c::l)[i]'(by simp;omega)):=aa8 (by simp;omega)
      have hm:(c::l)[i]'(by simp;omega)∈c::l:=abe _
      generalize (c::l)[i]'(by simp;omega)=d at o hm
      have m:=f d hm
      simp(disch:=omega)only[↓wr,seval,wq,n,b,e,o]
      refine ay.pure (zG xy Tf d m.1 m.2) ?_
      repeat' (first | ((first|apply ao.dec|apply ao.eq|apply ao.ne|apply ao.split)<;>intro)|(simp(disch:=omega)only[↓wr,seval,wq,n,a,b]))
      .rename_i g
       refine⟨k-1,by omega,i+1,by omega,?_,by first | rfl | exact⟨rfl,rfl⟩⟩
       rw[abr,o]
       simp only[Option.toList_some,adn,hi,acj,g,List.all_nil,Bool.and_self]
      .rename_i g
       congr 2
       have:(c::l).all pW=false:=by
        rw[ac9];exact⟨d,hm,by simp[g]⟩
       simp only[iN,this,acK]
     .simp(disch:=omega)only[↓wr,seval,wq]
      simp only[abl] at t hk p
      rw[abo (by simp;omega)] at hi
      congr 2
      simp only[iN,hi,abl]
      simp[q];omega
   .rename_i q
    congr 2;simp[iN,q]
theorem KK (s:ByteArray):aC aa 158 [gs s] (gb (iN (gG s))):=aC.val (rT s) (Wk s)
def mw (l:List Int):Int × Int:=
 if BZ (l.getD 1 0)=true then (2,0) else if l.getD 1 0≠92 then (0,3) else if l.length<3 then (0,4) else if G4 (l.getD 2 0)=true then (3,0) else (0,3)
def oT (l:List Int):Int × Int:=
 if l.length<2 then (0,4) else if (mw l).2≠0 then (0,(mw l).2) else if (l.length:Int)<=(mw l).1 then (0,4) else if l.getD (mw l).1.toNat 0≠39 then (0,3) else ((mw l).1+1,0)
theorem R3 {l:List Int} {n:Int} (a:mw l=(n,0)) (b:¬ l.length<2):oT l=if (l.length:Int)<=n then (0,4) else if l.getD n.toNat 0≠39 then (0,3) else (n+1,0):=by
 rw[oT,aa9 b,a];simp
theorem Kl {l:List Int} {e:Int} (a:mw l=(0,e)) (he:e≠0) (b:¬ l.length<2):oT l=(0,e):=by
 rw[oT,aa9 b,a];simp[he]
theorem QL (l:List Int) (hr:∀c∈l,0<=c/\c<=255) (H:View):az aa 287 [.aY (l.map λx=>[gy x])] H λr _=>r=.bc [gi (oT l).1,gi (oT l).2]:=by
 refine az.of mixed Ee ?_
 simp(disch:=omega)only[↓wr,seval,wq,AT]
 apply ao.dec<;>intro h
 .simp(disch:=omega)only[↓wr,seval,wq]
  rw[oT,abb (by omega)]
 .have h1:l[1]?=some (l[1]'(by omega)):=aa8 (by omega)
  have g1:l.getD 1 0=l[1]'(by omega):=by simp[h1]
  have m1:l[1]'(by omega)∈l:=abe _
  generalize l[1]'(by omega)=b at h1 g1 m1
  have o:=hr b m1
  simp(disch:=omega)only[↓wr,seval,wq,aba,h1]
  refine ay.pure (zG xy TX b o.1 o.2) ?_
  simp(disch:=omega)only[↓wr,seval,wq]
  apply ao.split<;>intro hp
  .have p:mw l=(2,0):=by rw[mw,abb (by rw[g1];exact hp)]
   simp(disch:=omega)only[↓wr,seval,wq]
   have a:=R3 p (by omega)
   apply ao.dec<;>intro m
   .simp(disch:=omega)only[↓wr,seval,wq]
    rw[a,abb (by omega)]
   .rw[aa9 (by omega)] at a
    have g:l[2]?=some (l[2]'(by omega)):=aa8 (by omega)
    have g2:l.getD (2:Int).toNat 0=l[2]'(by omega):=by simp[g]
    generalize l[2]'(by omega)=c at g g2
    rw[g2] at a
    simp(disch:=omega)only[↓wr,seval,wq,aba,g]
    apply ao.ne<;>intro i
    .simp(disch:=omega)only[↓wr,seval,wq]
     rw[a,abb i]
    .simp(disch:=omega)only[↓wr,↓reduceIte,wq,Nat.reduceEqDiff,reduceCtorEq]
     rw[a,aa9 (λq=>q i)]
  .simp(disch:=omega)only[↓wr,seval,wq,aba,h1]
   apply ao.ne<;>intro k
   .simp(disch:=omega)only[↓wr,seval,wq]
    rw[Kl (e:=3) (by rw[mw,aa9 (by rw[g1,hp];simp),abb (by rw[g1];exact k)]) (by simp) (by omega)]
   .simp(disch:=omega)only[↓wr,seval,wq]
    apply ao.dec<;>intro s
    .simp(disch:=omega)only[↓wr,seval,wq]
     rw[Kl (e:=4) (by rw[mw,aa9 (by rw[g1,hp];simp),aa9 (by rw[g1];exact λq=>q k),abb (by omega)]) (by simp) (by omega)]
    .have g:l[2]?=some (l[2]'(by omega)):=aa8 (by omega)
     have g2:l.getD 2 0=l[2]'(by omega):=by simp[g]
     have m2:l[2]'(by omega)∈l:=abe _
     generalize l[2]'(by omega)=c at g g2 m2
     have j:=hr c m2
     have f:mw l=if G4 c=true then (3,0) else (0,3):=by rw[mw,aa9 (by rw[g1,hp];simp),aa9 (by rw[g1];exact λq=>q k),aa9 (by omega),g2]
     simp(disch:=omega)only[↓wr,seval,wq,aba,g]
     refine ay.pure (zG xy Yd c j.1 j.2) ?_
     simp(disch:=omega)only[↓wr,seval,wq]
     apply ao.split<;>intro he
     .rw[abb he] at f
      have a:=R3 f (by omega)
      simp(disch:=omega)only[↓wr,seval,wq]
      apply ao.dec<;>intro m
      .simp(disch:=omega)only[↓wr,seval,wq]
       rw[a,abb (by omega)]
      .rw[aa9 (by omega)] at a
       have n:l[3]?=some (l[3]'(by omega)):=aa8 (by omega)
       have g3:l.getD (3:Int).toNat 0=l[3]'(by omega):=by simp[n]
       generalize l[3]'(by omega)=d at n g3
       rw[g3] at a
       simp(disch:=omega)only[↓wr,seval,wq,aba,n]
       apply ao.ne<;>intro i
       .simp(disch:=omega)only[↓wr,seval,wq]
        rw[a,abb i]
       .simp(disch:=omega)only[↓wr,↓reduceIte,wq,Nat.reduceEqDiff,reduceCtorEq]
        rw[a,aa9 (λq=>q i)]
     .rw[aa9 (by rw[he];simp)] at f
      simp(disch:=omega)only[↓wr,seval,wq]
      rw[Kl f (by simp) (by omega)]
def dX {α:Type} (p:α->Bool):List α->Int->Int
 | [],_=>-1
 | x::l,i=>if p x then i else dX p l (i+1)
theorem AG {α:Type} (p:α->Bool):∀(l:List α) (i:Int),0<=i->decide (0<=dX p l i)=l.any p
 | [],_,_=>by simp[dX]
 | x::l,i,h=>by
  have a:=AG p l (i+1) (by omega)
  rw[List.any_cons,dX]
  by_cases hp:p x=true
  .rw[abb hp,hp];simp[h]
  .rw[aa9 hp,a];simp[hp]
theorem Hb {f:FuncId} {xs cap:List V} (h:∀v∈xs,Tree v) (b:∀v∈cap,Tree v):Tree (.fn f xs cap):=by
 refine .fn _ _ _ (λi hi=>?_) (λi hi=>?_)
 .have a:xs.getD i .any=xs[i]:=by simp[hi]
  rw[a];exact h _ (abe _)
 .have a:cap.getD i .any=cap[i]:=by simp[hi]
  rw[a];exact b _ (abe _)
def jB:SC:=
 ai [ag [aS 9 .lss 8 7],bO 9 (.exit 0),.block 1 (ai [ag [af 10 8,af 5 10],ag [af 11 1,af 12 0,af 13 5,aL 14 1 12 13,au 15 14,((some 16),.call (.tmp 11) [(.tmp 15)])],aX 16 (ai [ag [af 17 5,af 4 17],.ret])]),ag [aI 18 .add 8 1,af 8 18]]
def kp:SF:=⟨ai [ag [aT 4 0],ai [ag [af 6 0,aM 7 6,aT 8 0],bR 0 jB],ag [aT 4 (-1)],.ret],
 [.tmp 4],19⟩
theorem oV:aJ aa 160 []=some kp:=by kernel_rfl
def jv:SF:=⟨ai [ag [bb 4 false],ag [af 5 0,af 6 1,aU 7 160 [5,6],aI 8 .geq 7 0,af 4 8],.ret],
 [.tmp 4],9⟩
theorem mX:aJ aa 90 []=some jv:=by kernel_rfl
def ij:SC:=
 ai [ag [aS 9 .lss 8 7],bO 9 (.exit 0),.block 1 (ai [ag [af 10 8,af 5 10],ag [af 11 1,af 12 0,af 13 5,aL 14 1 12 13,au 15 14,((some 16),.call (.tmp 11) [(.tmp 15)])],aX 16 (ai [ag [af 17 5,af 4 17],.ret])]),ag [aI 18 .add 8 1,af 8 18]]
def iO:SF:=⟨ai [ag [aT 4 0],ai [ag [af 6 0,aM 7 6,aT 8 0],bR 0 ij],ag [aT 4 (-1)],.ret],
 [.tmp 4],19⟩
theorem lS:aJ aa 222 []=some iO:=by kernel_rfl
def gW:SF:=⟨ai [ag [bb 4 false],ag [af 5 0,af 6 1,aU 7 222 [5,6],aI 8 .geq 7 0,af 4 8],.ret],
 [.tmp 4],9⟩
theorem kT:aJ aa 156 []=some gW:=by kernel_rfl
theorem JQ (l:List Int) (g:aG l) (f:FuncId) (cap:List V) (p:Int->Bool) (h:∀x∈l,aC aa f (gi x::cap) (gb (p x))) (d:eh aa f=true) (H:View):
  az aa 160 [encI l,.fn f [] cap] H λr _=>r=gi (dX p l 0):=by
 refine az.of mixed oV ?_
 unfold aG at g
 simp(disch:=omega)only[↓wr,seval,wq,kp,encI]
 refine aW.up l.length (λi T _=>dX p (l.drop i) i=dX p l 0/\T 0=encI l/\T 1=.fn f [] cap/\T 7=gi l.length/\T 8=gi i) ⟨rfl,rfl,rfl,rfl,rfl⟩ ?_
 rintro i k T H hk ⟨hi,a,h1,b,c⟩
 simp(disch:=omega)only[↓wr,seval,wq,jB,b,c,encI]
 apply ao.dec<;>intro j
 .have e:l[i]?=some (l[i]'(by omega)):=aa8 (by omega)
  have hm:l[i]'(by omega)∈l:=abe _
  rw[eO (show i<l.length by omega)] at hi
  generalize l[i]'(by omega)=x at e hm hi
  simp(disch:=omega)only[↓wr,seval,wq,a,h1,c,encI,aba,e]
  refine ay.pure (h x hm) ?_ d
  simp only[dX] at hi
  repeat' (first | ((first|apply ao.dec|apply ao.eq|apply ao.ne|apply ao.split)<;>intro)|(simp(disch:=omega)only[↓wr,seval,wq,c]))
  .rename_i hp
   rw[<-hi,abb hp]
  .rename_i hp
   refine aF hk (by omega) ⟨?_,a,h1,b,rfl⟩
   rw[aa9 (by simp[hp])] at hi
   push_cast;exact hi
 .rw[aby (by omega)] at hi
  simp(disch:=omega)only[↓wr,seval,wq]
  rw[<-hi];rfl
theorem Ct {l:List Int} {f:FuncId} {cap:List V} (a:∀v∈cap,Tree v):∀v∈[encI l,.fn f [] cap],Tree v:=by
 intro v b;simp at b
 rcases b with rfl | rfl
 .exact bg l
 .exact Hb (by simp) a
theorem ju (l:List Int) (c:aG l) (f:FuncId) (cap:List V) (a:∀v∈cap,Tree v) (p:Int->Bool) (d:∀x∈l,aC aa f (gi x::cap) (gb (p x))) (b:eh aa f=true):
  aC aa 90 [encI l,.fn f [] cap] (gb (l.any p)):=by
 refine aC.val (Ct a) λH=>?_
 refine az.of mixed mX ?_
 simp(disch:=omega)only[↓wr,seval,wq,jv]
 refine ay.pure (aC.val (Ct a) (JQ l c f cap p d b)) ?_
 simp(disch:=omega)only[↓wr,seval,wq]
 rw[<-AG p l 0 (by omega)]
theorem JK (l:List ByteArray) (g:aG l) (f:FuncId) (cap:List V) (p:ByteArray->Bool) (h:∀x∈l,aC aa f (gs x::cap) (gb (p x))) (d:eh aa f=true) (H:View):
  az aa 222 [encS l,.fn f [] cap] H λr _=>r=gi (dX p l 0):=by
 refine az.of mixed lS ?_
 unfold aG at g
 simp(disch:=omega)only[↓wr,seval,wq,iO,encS]
 refine aW.up l.length (λi T _=>dX p (l.drop i) i=dX p l 0/\T 0=encS l/\T 1=.fn f [] cap/\T 7=gi l.length/\T 8=gi i) ⟨rfl,rfl,rfl,rfl,rfl⟩ ?_
 rintro i k T H hk ⟨hi,a,h1,b,c⟩
 simp(disch:=omega)only[↓wr,seval,wq,ij,b,c,encS]
 apply ao.dec<;>intro j
 .have e:l[i]?=some (l[i]'(by omega)):=aa8 (by omega)
  have hm:l[i]'(by omega)∈l:=abe _
  rw[eO (show i<l.length by omega)] at hi
  generalize l[i]'(by omega)=x at e hm hi
  simp(disch:=omega)only[↓wr,seval,wq,a,h1,c,encS,aba,e]
  refine ay.pure (h x hm) ?_ d
  simp only[dX] at hi
  repeat' (first | ((first|apply ao.dec|apply ao.eq|apply ao.ne|apply ao.split)<;>intro)|(simp(disch:=omega)only[↓wr,seval,wq,c]))
  .rename_i hp
   rw[<-hi,abb hp]
  .rename_i hp
   refine aF hk (by omega) ⟨?_,a,h1,b,rfl⟩
   rw[aa9 (by simp[hp])] at hi
   push_cast;exact hi
 .rw[aby (by omega)] at hi
  simp(disch:=omega)only[↓wr,seval,wq]
  rw[<-hi];rfl
theorem BW {l:List ByteArray} {f:FuncId} {cap:List V} (a:∀v∈cap,Tree v):∀v∈[encS l,.fn f [] cap],Tree v:=by
 intro v b;simp at b
 rcases b with rfl | rfl
 .exact CL l
 .exact Hb (by simp) a
theorem Ef (l:List ByteArray) (c:aG l) (f:FuncId) (cap:List V) (a:∀v∈cap,Tree v) (p:ByteArray->Bool) (d:∀x∈l,aC aa f (gs x::cap) (gb (p x))) (b:eh aa f=true):
  aC aa 156 [encS l,.fn f [] cap] (gb (l.any p)):=by
 refine aC.val (BW a) λH=>?_
 refine az.of mixed kT ?_
 simp(disch:=omega)only[↓wr,seval,wq,gW]
 refine ay.pure (aC.val (BW a) (JK l c f cap p d b)) ?_
 simp(disch:=omega)only[↓wr,seval,wq]
 rw[<-AG p l 0 (by omega)]
theorem Bn {l:List Value}:∀v∈l.map V.val,Tree v:=by
 intro v a;obtain⟨x,_,rfl⟩:=abt.1 a;exact .val _
def Bx:SF:=⟨ai [ag [bb 6 false],.region false [⟨none,[af 7 0,af 8 1,aS 9 .geq 7 8,af 10 9]⟩,⟨(some (10,true)),[af 11 0,af 12 2,aS 13 .leq 11 12]⟩,⟨none,[dA 14 10 13,af 6 14]⟩],.ret],
 [.tmp 6],15⟩
theorem Gw:aJ aa 154 []=some Bx:=by kernel_rfl
def IM:SF:=⟨ai [ag [aT 2 0],ag [af 3 0,((some 4),.op (.arith .sub (.val (.val (.int .i64 (-1)))) (.tmp 3))),af 2 4],.ret],
 [.tmp 2],5⟩
theorem Mf:aJ aa 194 []=some IM:=by kernel_rfl
def I5:SF:=⟨ai [ag [bZ 2 0,bb 4 false],ai [ag [af 5 1,aI 6 .lss 5 0],aX 6 (ai [.region true [⟨none,[af 7 1,aU 8 194 [7],aw 9 1 2,au 10 9,aM 11 10,aS 12 .lss 8 11,af 4 12]⟩],.ret])],ag [af 13 1,aw 14 0 2,au 15 14,aM 16 15,aS 17 .lss 13 16,af 4 17],.ret],
 [.tmp 4],18⟩
theorem KW:aJ aa 130 [2]=some I5:=by kernel_rfl
def BT:SF:=⟨ai [ag [bb 4 false],.region false [⟨none,[aV 5 4 1,af 6 0,aU 7 130 [5,6],cO 8 7,af 9 8]⟩,⟨(some (9,false)),[af 10 0,aI 11 .geq 10 0,af 12 11]⟩,⟨(some (12,true)),[aw 13 2 2,au 14 13,aI 15 .eql 14 (-1)]⟩,⟨(some (9,false)),[dA 16 12 15]⟩,⟨none,[cJ 17 9 16,af 4 17]⟩],.ret],
 [.tmp 4],18⟩
theorem FU:aJ aa 225 []=some BT:=by kernel_rfl
def E2:SF:=⟨ai [ag [bZ 2 0,bZ 3 1,bb 4 false],ai [.region false [⟨none,[aw 5 1 3,au 6 5,aM 7 6,aI 8 .gtr 7 6,af 9 8]⟩,⟨(some (9,false)),[aw 10 2 3,au 11 10,aw 12 0 2,au 13 12,aM 14 13,aI 15 .sub 14 1,lG 16 154 [(.tmp 11),(.val (.val (.int .i64 (-1)))),(.tmp 15)],cO 17 16]⟩,⟨none,[cJ 18 9 17]⟩],aX 18 (ai [ag [bb 4 false],.ret])],ag [aw 19 1 3,au 20 19,((some 21),.op (.uh 225 [] [(.tmp 2),(.tmp 3)])),aU 22 90 [20,21],cO 23 22,af 4 23],.ret],
 [.tmp 4],24⟩
theorem JN:aJ aa 159 [2,3]=some E2:=by kernel_rfl
theorem uQ (a b c:Int):aC aa 154 [gi a,gi b,gi c] (gb (decide (b<=a)&&decide (a<=c))):=by
 refine aC.val (Bn (l:=[.int .i64 a,.int .i64 b,.int .i64 c])) λH=>?_
 refine az.of mixed Gw ?_
 repeat' (first | ((first|apply ao.dec|apply ao.eq|apply ao.ne|apply ao.split)<;>intro)|(simp(disch:=omega)only[↓wr,seval,wq,Bx]))
 all_goals simp[*]
theorem Yg (s:Int) (a:bm s):aC aa 194 [gi s] (gi (-1-s)):=by
 refine aC.val (Bn (l:=[.int .i64 s])) λH=>?_
 obtain⟨h1,b⟩:=a
 refine az.of mixed Mf ?_
 repeat' (first | ((first|apply ao.dec|apply ao.eq|apply ao.ne|apply ao.split)<;>intro)|(simp(disch:=omega)only[↓wr,seval,wq,IM]))
theorem O5 (g:ak) (s:Int) (a:bm s):aC aa 130 [.agg (aj g),gi s] (gb (dS g s)):=by
 refine aC.val (KC g s) λH=>?_
 refine az.of mixed KW ?_
 repeat' (first | ((first|apply ao.dec|apply ao.eq|apply ao.ne|apply ao.split)<;>intro)|(refine ay.pure (Yg s a) ?_)|(simp(disch:=omega)only[↓wr,seval,wq,I5,aj,encS]))
 .rename_i h;simp[dS,show ¬ (0:Int)<=s by omega]
 .rename_i h;simp[dS,show (0:Int)<=s by omega]
theorem iJ {cs:List V} {j:Nat} (h:∀v∈cs,Tree v):Tree (.aR cs j):=by
 refine .aR _ _ λi hi=>?_
 have a:cs.getD i .any=cs[i]:=by simp[hi]
 rw[a];exact h _ (abe _)
theorem TT (g:ak) (r:bf) (s:Int) (b:bm s):aC aa 225 [gi s,.aR (aj g) 0,.aR (aQ r) 0] (gb (!r8 g r.prec s)):=by
 refine aC.val ?_ λH=>?_
 .intro v a;simp at a
  rcases a with rfl | rfl | rfl
  .exact .val _
  .exact iJ (cy g)
  .exact iJ (gh r)
 refine az.of mixed FU ?_
 simp(disch:=omega)only[↓wr,seval,wq,BT,aj]
 refine ay.pure (O5 g s b) ?_
 repeat' (first | ((first|apply ao.dec|apply ao.eq|apply ao.ne|apply ao.split)<;>intro)|(simp(disch:=omega)only[↓wr,seval,wq,aQ]))
 all_goals simp[r8, *]
theorem VM (g:ak) (r:bf) (e:g.Ok) (hr:aG r.right/\∀x∈r.right,bm x):aC aa 159 [.agg (aj g),.agg (aQ r)] (gb (kz g r)):=by
 refine aC.val (Ll g r) λH=>?_
 have f:=e.ax
 unfold aG at f
 refine az.of mixed JN ?_
 repeat' (first | ((first|apply ao.dec|apply ao.eq|apply ao.ne|apply ao.split)<;>intro)|(refine ay.pure (uQ _ _ _) ?_)|(simp(disch:=omega)only[↓wr,seval,wq,E2,aj,aQ,encI,encS]))
 .rename_i h;simp[kz,show ¬ r.right.length<=6 by omega]
 .rename_i h1 b
  have c:r.right.length<=6:=by omega
  have a : -1<=r.prec/\r.prec<g.ax.length:=by simp at b;omega
  refine ay.pure (ju r.right hr.1 225 [.aR (aj g) 0,.aR (aQ r) 0] ?_ (λs=>!r8 g r.prec s) (λx i=>TT g r x (hr.2 x i)) (by kernel_rfl)) ?_
  .intro v d;simp at d
   rcases d with rfl | rfl
   .exact iJ (cy g)
   .exact iJ (gh r)
  simp(disch:=omega)only[↓wr,seval,wq]
  simp[kz,c,a.1,a.2]
  rw[abW]
  simp
 .rename_i h1 b
  have c:¬ (-1<=r.prec/\r.prec<g.ax.length):=by simp at b;omega
  have:(decide (-1<=r.prec)&&decide (r.prec<(g.ax.length:Int)))=false:=by
   rw[<-Bool.decide_and];simpa using c
  simp only[kz,Bool.and_assoc]
  rw[<-Bool.and_assoc (decide (-1<=r.prec)),this];simp
theorem Vb (l:List Int) (f:l.getD 0 0=39):((oT l).2==0&&(oT l).1==(l.length:Int))=oW l:=by
 match l,f with
 | [],h=>simp at h
 | [a],_=>rfl
 | [a,b],_ =>
  simp only[oT,mw,oW,abl,abG,acZ,acv]
  repeat' split
  all_goals simp_all
 | [a,b,c],f =>
  have g:a=39:=by simpa using f
  subst g
  simp only[oT,mw,oW,BZ,G4,abl,abG,acZ,acv]
  repeat' split
  all_goals simp_all
  all_goals grind
 | [a,b,c,d],f =>
  have g:a=39:=by simpa using f
  subst g
  simp only[oT,mw,oW,BZ,G4,abl,abG,acZ,acv]
  repeat' split
  all_goals simp_all
  all_goals grind
 | a::b::c::d::e::r,f =>
  simp only[oT,mw,oW,BZ,G4,abl,acZ,acv]
  repeat' split
  all_goals simp_all
  all_goals (try omega)
  all_goals grind
theorem PB {c:Int} {l:List Int} (h:¬ c=39):oW (c::l)=false:=by
 match l with
 | []=>rfl
 | [_]=>rfl
 | [_,_]=>simp[oW,h]
 | [_,_,_]=>simp[oW,h]
 | _::_::_::_::_=>rfl
theorem Tg (s:ByteArray):aC aa 267 [gs s] (gb (oW (gG s))):=by
 refine aC.val (rT s) λH=>?_
 refine az.of mixed EG ?_
 have f:=λd (k:d∈gG s)=>IY (s:=s) (c:=d) k
 have j:aC aa 287 [.aY (iF s)] (.bc [gi (oT (gG s)).1,gi (oT (gG s)).2]):=by
  rw[Ro]
  refine aC.of ?_ ((QL (gG s) f _).mono λr H' h m _=>by rw[h];exact .tree _ (.bc _ λi hi=>by
   match i,hi with
   | 0,_=>exact .val _
   | 1,_=>exact .val _))
  intro v a;simp at a;subst a
  exact eA _ _ λx _ v a=>by simp at a;subst a;exact .val _
 cases e:gG s with
 | nil =>
  repeat' (first | ((first|apply ao.dec|apply ao.eq|apply ao.ne|apply ao.split)<;>intro)|(simp(disch:=omega)only[↓wr,seval,wq,ue,B8,e]))
  rfl
 | cons c l =>
  have b:=Vb (gG s)
  rw[e] at j b
  repeat' (first | ((first|apply ao.dec|apply ao.eq|apply ao.ne|apply ao.split)<;>intro)|(simp(disch:=omega)only[↓wr,seval,wq,ue,B8,e,abB]))
  .rename_i h
   rw[PB h]
  .rename_i h
   refine ay.pure j ?_
   have b:=b (by simpa using h)
   repeat' (first | ((first|apply ao.dec|apply ao.eq|apply ao.ne|apply ao.split)<;>intro)|(simp(disch:=omega)only[↓wr,seval,wq,fO,e]))
   .rename_i g
    rw[<-b];simp[g]
   .rename_i g
    rw[<-b];simp[g]
end
end Gv
