/-
  Part 13 of the proof: what the machine does and what the functions answer.
  Conditions: those that each lemma names.
-/
import Derived.Test.YtiophifnkakjgaaGreatSGzB9L
set_option linter.unusedSimpArgs false
set_option linter.unusedVariables false
set_option maxRecDepth 100000
set_option maxHeartbeats 20000000
namespace Gv
open Go Go.Proofs
def tx:SF:=⟨af [ae [cE 3 0,((some 6),.op (.eU (.val (.val (.pointer none))))),aP 7 0],.region true [⟨none,[bb 11 4 3,bb 12 4 3,bf 13 195 [12],((some 14),.op (.build [(.emp 1),(.emp 1),(.emp 1),(.val (.int .i64 0)),(.emp 1),(.emp 1),(.emp 1)] [(0,4,(.tmp 11)),(4,1,(.tmp 13))])),((some 15),.op (.box (.tmp 14))),aa 8 15]⟩],ae [aa 17 1,aa 18 8,kW 19 18,av 20 4 19,al 21 20,bf 22 196 [17,21],aa 16 22,dJ 23 0 16,dJ 24 1 16,((some 9),.op (.alloc [(.val (.int .i64 0)),(.val (.int .i64 0)),(.val (.int .i64 0)),(.val (.int .i64 0))])),cy 4 9 23,aa 10 24],.block 0 (af [ae [aa 26 10,c5 27 26,aa 25 27],.cond (.tmp 25) (af [ae [((some 6),.op (.eU (.val (.val (.pointer none))))),aP 7 9],.ret]) (af [.region false [⟨none,[av 29 2 9,al 30 29,aF 31 .gtr 30 300,aa 32 31]⟩,⟨(some (32,false)),[av 33 3 9,al 34 33,aa 35 2,aS 36 .gtr 34 35]⟩,⟨none,[cx 37 32 36,aa 28 37]⟩],aZ 28 (af [ae [((some 6),.op (.eU (.val (.val (.pointer none))))),aP 7 13],.ret])])]),ae [aa 38 8,aa 39 1,bf 40 197 [38,39]],ae [aa 41 8,aa 6 41,aP 7 0],.ret],
 [.tmp 6,.tmp 7],42⟩
theorem yB:aM Tryz.prog 131 [3]=some tx:=by kernel_rfl
def Db:V:=.val (.pointer none)
def S6 (g:ai) (l:List Int) (t:Int) (r:V) (H:View):Prop :=
 ((bD (ao g) l aX).2=false/\r=.aY [Db,gi 9]) ∨
 ((bD (ao g) l aX).2=true/\(300 < (bD (ao g) l aX).1.rules∨t < (bD (ao g) l aX).1.au)/\r=.aY [Db,gi 13]) ∨
 ((bD (ao g) l aX).2=true/\¬ (300 < (bD (ao g) l aX).1.rules∨t < (bD (ao g) l aX).1.au)/\∃ b,r=.aY [.ptr b 0 0,gi 0]/\FW g b (ey g (ao g) g.ak.length l) (dz g (ao g) g.ak.length l) H)
theorem Ly (g:ai) (A:g.Ok) (d:g.cU) (l:List Int) (L:l.length<=1000000) (z:∀ x∈l,bS x/\(x < 0->-1 - x < g.ak.length)) (t:Int) (u:V) (H:View) (hi:x8 H u l) :
  aw Tryz.prog 131 [.agg (ag g),u,gi t] H (S6 g l t):=by
 have e:aI l:=by unfold aI;omega
 have z2:=d.ak
 have z3:=d.rules
 refine aw.of mixed yB ?_
 simp(disch:=omega)only[↓wr,seval,wq,tx,ag,encS]
 refine ax.pure (Qz g A d).pure ?_
 simp(disch:=omega)only[↓wr,seval,wq]
 intro b B
 have f:x8 (H.set b (.arr 7 [jf g (.emp 1) (.emp 1)])) u l:=hi.keep λid a=>by
  have:id≠b:=by rintro rfl;exact a B
  simp[View.set,this]
 try simp(disch:=omega)only[↓wr,seval,wq]
 have C:∀ m,Ak (bk (ao g) m):=λm=>HY z3 z2 m
 refine ax.mK (On (ao g) C l e λx i=>⟨(z x i).1,λh=>by rw[fP];exact(z x i).2 h⟩) (by kernel_rfl) ⟨f.lY,cn.tree (sd _),trivial⟩ ?_
 have j:=λ(h:gK (ao g) l)=>And.intro (O1 h) (nF g g.ak.length l aX (qP h) gm)
 have p:=fZ (ao g) l aX
 have F:=EM d.right g.ak.length l
 have q:=mQ (λm=>(C m).1) l aX gm
 unfold S6
 generalize G:bD (ao g) l aX=sp at p q j ⊢
 unfold dW at q
 simp(disch:=omega)only[↓wr,seval,wq,bU]
 intro n r
 have s:=(cb r b6).1
 have w:=(cb r b6).2
 try simp(disch:=omega)only[↓wr,seval,wq,bU]
 apply aj.split<;>intro c
 .have y:=p.1 c
  simp(disch:=omega)only[↓wr,seval,wq,bU]
  apply aj.dec<;>intro D
  .simp(disch:=omega)only[↓wr,seval,wq]
   exact .inr (.inl ⟨c,.inl D,rfl⟩)
  .simp(disch:=omega)only[↓wr,seval,wq,bU]
   apply aj.dec<;>intro E
   .simp(disch:=omega)only[↓wr,seval,wq]
    exact .inr (.inl ⟨c,.inr E,rfl⟩)
   .simp(disch:=omega)only[↓wr,seval,wq,bU]
    have I:=(bo.nil (H:=H)).new B 7 [jf g (.emp 1) (.emp 1)]
    have J:=(j y).1 (by omega)
    have i:=FX g A d b g.ak.length l e z (qP y) [] [] (((H.set b (.arr 7 [jf g (.emp 1) (.emp 1)])).set n (.arr 4 [[gi 0,gi 0,gi 0,gi 0]])).set n (.arr 4 [bU sp.1]))
     (by simp only[Wi];omega) (by simp only[Wi];omega)
     ⟨.emp 1,.emp 1,by
      rw[set_set]
      have K:=I.fresh (n:=n) (o:=.arr 4 [bU sp.1]) (by simp[View.set,s,w])
      exact((K.emp (k:=1) (sz:=1)).emp (k:=1) (sz:=1)).perm (GS.trans (.swap _ _ _))⟩ u
     (f.keep λid a=>by
      have:id≠n:=by rintro rfl;simp[View.set,s,w] at a
      simp[View.set,this])
    simp only[Wi,jf,bU] at i
    refine ax.eA (i.mono ?_)
    intro v H1 hw
    simp(disch:=omega)only[↓wr,seval,wq]
    exact .inr (.inr ⟨c,by omega,b,rfl,hw⟩)
 .simp(disch:=omega)only[↓wr,seval,wq]
  exact .inl ⟨c,rfl⟩
def vC:SF:=⟨af [ae [bm 3 false],ae [bb 4 4 1,aa 5 0,bf 6 130 [4,5],c5 7 6,aa 3 7],.ret],
 [.tmp 3],8⟩
theorem zH:aM Tryz.prog 129 []=some vC:=by kernel_rfl
def yE:SF:=⟨af [ae [cE 2 0,bT 4 1,aP 5 0],af [.region false [⟨none,[bb 8 4 2,bf 9 89 [8],c5 10 9,aa 11 10]⟩,⟨(some (11,false)),[aa 12 1,((some 13),.op (.uq 129 [] [(.tmp 2)])),bf 14 90 [12,13]]⟩,⟨none,[cx 15 11 14]⟩],aZ 15 (af [ae [bT 4 1,aP 5 1],.ret])],ae [bb 17 4 2,aa 18 1,qN 19 131 [(.tmp 17),(.tmp 18),(.val (.val (.int .i64 60)))],aa 16 19,dJ 20 0 16,dJ 21 1 16,aa 6 20,aa 7 21],af [ae [aa 22 7,aF 23 .neq 22 0],aZ 23 (af [ae [aa 24 7,bT 4 1,aa 5 24],.ret])],ae [aa 25 6,kW 26 25,av 27 6 26,al 28 27,aa 4 28,aP 5 0],.ret],
 [.tmp 4,.tmp 5],29⟩
theorem Bv:aM Tryz.prog 67 [2]=some yE:=by kernel_rfl
theorem No (g:ai) (x:Int) (b:bS x):aB Tryz.prog 129 [gi x,.aJ (ag g) 0] (gb (!dw g x)):=by
 refine aB.val (by
  intro v a;simp at a
  rcases a with rfl | rfl
  .exact .val _
  .exact iT (cw g)) λH=>?_
 refine aw.of mixed zH ?_
 simp(disch:=omega)only[↓wr,seval,wq,vC,ag,encS]
 refine ax.pure (Jv g x b) ?_
 simp(disch:=omega)only[↓wr,seval,wq]
theorem Gf (g:ai) (s:g.Ok) (w:g.Small) (l:List Int) (y:l.length<=1000000) (t:∀ x∈l,bS x):ca Tryz.prog 67 [.agg (ag g),encI l] (AP (dc g l)):=by
 have o:aI l:=by unfold aI;omega
 refine ca.of (by
  intro v f;simp at f
  rcases f with rfl | rfl
  .exact bW _ (cw g)
  .exact bI l) ?_
 refine aw.of mixed Bv ?_
 simp(disch:=omega)only[↓wr,seval,wq,yE,ag,encS]
 refine ax.pure (tQ g s w.names) ?_
 have bad:∀ c:aD,(bM g && l.all (dw g))=false->dB c (.aY [.emp 1,gi 1]) (AP (dc g l)):=λc e=>by
  unfold dc;rw[Vs (by rw[e];simp)];exact j6 (x:=([],1)) (.emp _)
 have h:=mS l o 129 [.aJ (ag g) 0] (by intro v f;simp at f;subst f;exact iT (cw g)) (λx=>!dw g x) (λx n=>No g x (t x n)) (by kernel_rfl)
 simp only[ag,encS] at h
 simp(disch:=omega)only[↓wr,seval,wq,ag,encS]
 apply aj.split<;>intro hr
 .simp(disch:=omega)only[↓wr,seval,wq,ag,encS]
  refine ax.pure h ?_
  have i:l.any (λx=>!dw g x) = !l.all (dw g):=by rw[List.not_all_eq_any_not]
  rw[i]
  simp(disch:=omega)only[↓wr,seval,wq,ag,encS]
  apply aj.split<;>intro a
  .have z:=bX hr
   have d:dc g l=_:=Vu (by rw[hr,a];rfl)
   simp(disch:=omega)only[↓wr,seval,wq,ag,encS]
   have p:∀ x∈l,bS x/\(x < 0->-1 - x < g.ak.length):=λx n=>⟨t x n,λA=>by
    have:=VU.1 a x n
    unfold dw at this
    rw[Vs (by omega)] at this
    simpa using this⟩
   have hw:=Ly g s z l y p 60 (encI l) (λ_=>.dead) (.inl rfl)
   simp only[ag,encS] at hw
   refine ax.eA (hw.mono ?_)
   rintro r H1 (⟨j,rfl⟩ | ⟨j,q,rfl⟩ | ⟨j,q,b,rfl,C,D,u⟩)
   .simp(disch:=omega)only[↓wr,↓reduceIte,wq,Nat.reduceEqDiff,Nat.reduceAdd,Nat.reduceLT,Nat.reduceLeDiff,Int.reduceNeg,Int.reduceToNat,reduceCtorEq,Db]
    refine aj.ne (λ_=>?_) (λk=>absurd k (by decide))
    simp(disch:=omega)only[↓wr,seval,wq,Db]
    rw[Vu j] at d
    intro c _
    rw[d];exact j6 (x:=([],9)) (.emp _)
   .simp(disch:=omega)only[↓wr,↓reduceIte,wq,Nat.reduceEqDiff,Nat.reduceAdd,Nat.reduceLT,Nat.reduceLeDiff,Int.reduceNeg,Int.reduceToNat,reduceCtorEq,Db]
    refine aj.ne (λ_=>?_) (λk=>absurd k (by decide))
    simp(disch:=omega)only[↓wr,seval,wq,Db]
    rw[Vs (by rw[j];simp),Vu q] at d
    intro c _
    rw[d];exact j6 (x:=([],13)) (.emp _)
   .rw[Vs (by rw[j];simp),Vs q] at d
    have m:=u.is 0 rfl (by simp)
    simp(disch:=omega)only[↓wr,↓reduceIte,wq,Nat.reduceEqDiff,Nat.reduceAdd,Nat.reduceLT,Nat.reduceLeDiff,Int.reduceNeg,Int.reduceToNat,reduceCtorEq,m,jf]
    refine aj.ne (λk=>absurd rfl k) (λ_=>?_)
    simp(disch:=omega)only[↓wr,seval,wq,m,jf]
    intro c B
    rw[d];exact j6 (x:=(_,0)) (jd (by rw[B];exact u.own 2 rfl))
  .simp(disch:=omega)only[↓wr,seval,wq,ag,encS]
   intro c _
   exact bad c (by rw[a,WV])
 .simp(disch:=omega)only[↓wr,seval,wq,ag,encS]
  intro c _
  exact bad c (by rw[hr,WG])
abbrev Rg (l:List (List Int)):List (List V):=l.map λw=>[encI w]
theorem IF {id off k m:Nat} (hm:m<=k):cY 1 (.sl id off k 1) none (some (gi m))=some (.sl id off m 1,.none,[]):=by
 simp[cY,bound,asNat,hm]
def K9:Value->Value->Bool
 | .int k a,.int k' b=>decide (k=k') && decide (a=b)
 | .bool a,.bool b=>a == b
 | .string a,.string b=>jb a b
 | .pointer none,.pointer none=>true
 | _,_=>false
theorem Qy:∀ (a b:Value),K9 a b=true->a=b:=by
 intro a b h
 unfold K9 at h
 split at h
 .simp only[VD,VH] at h
  rw[h.1,h.2]
 .rename_i a b
  rw[show a=b by simpa using h]
 .rename_i a b
  obtain⟨a⟩:=a
  obtain⟨b⟩:=b
  simp only[jb,Wn] at h
  rw[show a=b from Array.toList_inj.1 h]
 .rfl
 .simp at h
def Ac (q:V->V->Bool):List V->List V->Bool
 | [],[]=>true
 | a :: l,b :: m=>q a b && Ac q l m
 | _,_=>false
def J8 (q:V->V->Bool):List (List V)->List (List V)->Bool
 | [],[]=>true
 | a :: l,b :: m=>Ac q a b && J8 q l m
 | _,_=>false
def D1:Nat->V->V->Bool
 | 0,_,_=>false
 | k+1,a,b=>match a,b with
  | .val x,.val y=>K9 x y
  | .aW x,.aW y=>J8 (D1 k) x y
  | .agg x,.agg y=>Ac (D1 k) x y
  | .aY x,.aY y=>Ac (D1 k) x y
  | _,_=>false
theorem uT {q:V->V->Bool} (c:∀ a b,q a b=true->a=b):∀ (l m:List V),Ac q l m=true->l=m
 | [],[],_=>rfl
 | a :: l,b :: m,h=>by
  simp only[Ac,VD] at h
  rw[c a b h.1,uT c l m h.2]
 | [],_ :: _,h=>by simp[Ac] at h
 | _ :: _,[],h=>by simp[Ac] at h
theorem Mq {q:V->V->Bool} (c:∀ a b,q a b=true->a=b):∀ (l m:List (List V)),J8 q l m=true->l=m
 | [],[],_=>rfl
 | a :: l,b :: m,h=>by
  simp only[J8,VD] at h
  rw[uT c a b h.1,Mq c l m h.2]
 | [],_ :: _,h=>by simp[J8] at h
 | _ :: _,[],h=>by simp[J8] at h
theorem Gx:∀ (k:Nat) (a b:V),D1 k a b=true->a=b
 | 0,_,_,h=>by simp[D1] at h
 | k+1,a,b,h=>by
  have c:=Gx k
  unfold D1 at h
  split at h
  .rw[Qy _ _ h]
  .rw[Mq c _ _ h]
  .rw[uT c _ _ h]
  .rw[uT c _ _ h]
  .simp at h
def tz:Nat->V->Bool
 | 0,_=>false
 | k+1,v=>match v with
  | .val _=>true
  | .emp _=>true
  | .dO=>true
  | .aW es=>es.all λe=>e.all (tz k)
  | .agg cs=>cs.all (tz k)
  | .aY cs=>cs.all (tz k)
  | _=>false
theorem wg {q:V->Bool} {l:List V} (h:l.all q=true) {i:Nat} (hi:i < l.length):q (l.getD i .any)=true:=by
 have e:l.getD i .any=l[i]:=by simp[Vp,hi]
 rw[e]
 exact VU.1 h _ (Vw _)
theorem AT:∀ (k:Nat) (v:V),tz k v=true->Tree v
 | 0,_,h=>by simp[tz] at h
 | k+1,v,h=>by
  have a:=AT k
  unfold tz at h
  split at h
  .exact .val _
  .exact .emp _
  .exact .dO
  .rename_i es
   refine .aW _ λi j hi b=>a _ ?_
   have e:es.getD i []=es[i]:=by simp[Vp,hi]
   have h1:=VU.1 h _ (Vw hi)
   rw[e] at b ⊢
   exact wg h1 b
  .exact .agg _ λi hi=>a _ (wg h hi)
  .exact .aY _ λi hi=>a _ (wg h hi)
  .simp at h
noncomputable def wH (H:View):Nat->V->Option V
 | 0,_=>none
 | k+1,v=>match v with
  | .val x=>some (.val x)
  | .emp _=>some (.aW [])
  | .aW es=>match tz 60 (.aW es) with
   | true=>some (.aW es)
   | false=>none
  | .sl id off len _=>match H id with
   | .arr _ es=>match Nat.ble (off+len) es.length with
    | true=>(C8 (wH H k) ((es.drop off).take len)).map .aW
    | false=>none
   | _=>none
  | .agg cs=>(pa (wH H k) cs).map .agg
  | .aY cs=>(pa (wH H k) cs).map .aY
  | _=>none
theorem DA (h:aD):∀ (k:Nat) (v t:V),wH h.view k v=some t->Fr h v t
 | 0,v,t,a=>by simp[wH] at a
 | k+1,v,t,a=>by
  have b:=DA h k
  simp only[wH] at a
  split at a
  .simp only[Vr] at a;subst a;exact .tree _ (.val _)
  .simp only[Vr] at a;subst a;exact .emp _
  .split at a
   .rename_i d
    simp only[Vr] at a;subst a;exact .tree _ (AT _ _ d)
   .simp at a
  .rename_i id off len esz
   split at a
   .rename_i z es hH
    split at a
    .rename_i hle
     have hle:=Nat.le_of_ble_eq_true hle
     simp only[Vy] at a
     obtain⟨es',he,rfl⟩:=a
     obtain⟨g1,g2⟩:=Di _ _ he
     have hlen:es'.length=len:=by rw[g1];simp;omega
     have e:∀ i,i < len->((es.drop off).take len).getD i []=es.getD (off+i) []:=λi hi=>by
      simp[Vp,WT,hi]
     have g3:∀ i,i < len->pa (wH h.view k) (es.getD (off+i) [])=some (es'.getD i []):=λi hi=>by
      rw[<-e i hi];exact g2 i (by rw[<-g1,hlen];exact hi)
     exact .sl id off len esz z es es' hH hle hlen (λi hi=>(ig _ _ (g3 i hi)).1) (λi j hi f=>b _ _ ((ig _ _ (g3 i hi)).2 j (by rw[<-(ig _ _ (g3 i hi)).1];exact f)))
    .simp at a
   .simp at a
  .simp only[Vy] at a
   obtain⟨l,c,rfl⟩:=a
   obtain⟨g1,g2⟩:=ig _ _ c
   exact .agg _ _ g1 (λi hi=>b _ _ (g2 i hi))
  .simp only[Vy] at a
   obtain⟨l,c,rfl⟩:=a
   obtain⟨g1,g2⟩:=ig _ _ c
   exact .aY _ _ g1 (λi hi=>b _ _ (g2 i hi))
  .simp at a
theorem aB.seen {P:Program} {f:FuncId} {vs g:List V} {t:V} (p:aB P f g t) (q:∀ i,i < vs.length->Tree (vs.getD i .any)) (r:g.length=vs.length) (k:∀ i,i < vs.length->Fr [] (vs.getD i .any) (g.getD i .any)):aB P f vs t:=by
 intro Z μ w xs a n
 have l:hX Z (λ_=>none) w.heap (cat [] λ_=>.dead):=by
  rw[Dm]
  exact⟨λ_=>trivial,λi j b o s B C _ h=>by simp at h,λid b o s h=>by simp at h,n,λid b o s h=>by simp at h⟩
 have c:∀ b,¬ jq (λ_=>none) b:=λb ⟨_,_,_,h⟩=>by simp at h
 have m:fU (λb=>Z b∨jq (λ_=>none) b) μ w.heap g xs:=⟨by rw[r,a.1],λi hi=>BJ l (k i (by omega)) (wQ (a.2 i (by omega)) (q i (by omega)))⟩
 refine(p _ μ w xs m (λb d=>d.elim (n b) (λh=>absurd h (c b)))).mono ?_
 rintro e w' ⟨x,u,rfl,v,y,h1,z,A⟩
 exact⟨x,u,rfl,v,y,λb d=>h1 b (.inl d),λb d=>(z b d).elim (λh=>h.elim .inl (λh=>absurd h (c b))) .inr,A⟩
abbrev Da:=FuncId × List V × V × Bool
def Da.Ok (P:Program) (x:Da):Prop:=dD P x.1=true/\if x.2.2.2=true then aB P x.1 x.2.1 x.2.2.1 else (ca P x.1 x.2.1 x.2.2.1∨(aB P x.1 x.2.1 x.2.2.1/\yO x.2.2.1))
noncomputable def Ri (g:FuncId) (vs:List V) (H:View) (x:Da):Bool:=Nat.beq x.1 g && (match x.2.2.2 with
 | true=>vs.all (tz 60) && (match pa (wH (λ_=>.dead) 60) vs with
  | some ts=>Ac (D1 60) ts x.2.1
  | none=>false)
 | false=>match pa (wH H 60) vs with
  | some ts=>Ac (D1 60) ts x.2.1
  | none=>false)
noncomputable def Li (l:List Da):yF:=λg vs H=>(l.find? (Ri g vs H)).map λx=>x.2.2.1
theorem GP {P:Program} {l:List Da} (o:∀ x∈l,x.Ok P):so P (Li l):=by
 intro g vs H t h
 unfold Li at h
 simp only[Vy] at h
 obtain⟨⟨f,q,r,b⟩,n,rfl⟩:=h
 obtain⟨h1,c⟩:=o _ (List.mem_of_find?_eq_some n)
 have a:=List.find?_some n
 simp only[Ri,VD] at a
 obtain⟨k,a⟩:=a
 have k:=Xj k
 simp only at k h1 c a
 subst k
 refine⟨h1,?_⟩
 rintro h rfl
 cases b with
 | true =>
  simp only[VD] at a
  obtain⟨m,d⟩:=a
  split at d
  .rename_i us e
   obtain⟨g1,g2⟩:=ig _ _ e
   have:=uT (Gx 60) _ _ d
   subst this
   simp only[if_true] at c
   exact bK.gh (c.seen (λi hi=>AT _ _ (wg m hi)) g1 λi hi=>DA [] 60 _ _ (g2 i hi)) h
  .simp at d
 | false =>
  simp only at a
  split at a
  .rename_i us e
   obtain⟨g1,g2⟩:=ig _ _ e
   have:=uT (Gx 60) _ _ a
   subst this
   have j:=λi hi=>DA h 60 _ _ (g2 i hi)
   simp only[VR,if_false] at c
   rcases c with c | ⟨c,p⟩
   .exact bK.uH c g1 j
   .exact bK.borrow c p g1 j
  .simp at a
def tn (x:Int):Bool:=decide (-9223372036854775808<=x) && decide (x<=9223372036854775807)
theorem pO {x:Int} (h:tn x=true):bS x:=by
 unfold tn at h
 simp only[VD,VH] at h
 exact h
def okB (g:ai):Bool:=decide (g.au.length<=900) && decide (g.ak.length<=100) && decide (g.rules.length<=900) && tn g.start && g.au.all (λt=>tn t.level && tn t.assoc) && g.rules.all λr=>tn r.left && tn r.prec && decide (r.right.length<=900) && r.right.all tn
theorem Ti {g:ai} (h:okB g=true):g.Ok/\g.Small:=by
 unfold okB at h
 simp only[VD,VH,VU] at h
 obtain⟨⟨⟨⟨⟨h1,f⟩,i⟩,c⟩,a⟩,d⟩:=h
 refine⟨⟨by unfold aI;omega,by unfold aI;omega,by unfold aI;omega,pO c,λt b=>⟨pO (a t b).1,pO (a t b).2⟩,λr hr=>?_⟩,⟨by omega⟩⟩
 have:=d r hr
 exact⟨pO this.1.1.1,pO this.1.1.2,by unfold aI;have:=this.1.2;omega,λx e=>pO (this.2 x e)⟩
theorem nH:iR.Ok/\iR.Small:=Ti (by kernel_rfl)
structure fi where
 sym:Int
 to:Int
 deriving DecidableEq
def kI (x:fi):List V:=[gi x.sym,gi x.to]
structure aG where
 az:Int
 dot:Int
 deriving DecidableEq
def bQ (x:aG):List V:=[gi x.az,gi x.dot]
def aT (l:List aG):List (List V):=l.map bQ
def cH (a b:aG):Bool:=decide (a.az < b.az) || (decide (a.az=b.az) && decide (a.dot < b.dot))
def ed:List aG->aG->List aG
 | [],x=>[x]
 | y :: l,x=>if cH y x=true then y :: ed l x else if y=x then y :: l else x :: y :: l
theorem RD (a b:aG):∀ v∈[V.agg (bQ a),.agg (bQ b)],Tree v:=by
 intro v c;simp at c
 rcases c with rfl | rfl <;> exact bW _ λv c=>by simp[bQ] at c;rcases c with rfl | rfl <;> exact .val _
def qA:SF:=⟨af [ae [cE 2 0,cE 3 1,bm 4 false],.region false [⟨none,[av 5 0 2,al 6 5,av 7 0 3,al 8 7,aS 9 .lss 6 8,aa 10 9]⟩,⟨(some (10,false)),[av 11 0 2,al 12 11,av 13 0 3,al 14 13,aS 15 .eql 12 14,aa 16 15]⟩,⟨(some (16,true)),[av 17 1 2,al 18 17,av 19 1 3,al 20 19,aS 21 .lss 18 20]⟩,⟨(some (10,false)),[eV 22 16 21]⟩,⟨none,[cx 23 10 22,aa 4 23]⟩],.ret],
 [.tmp 4],24⟩
theorem vz:aM Tryz.prog 198 [2,3]=some qA:=by kernel_rfl
def pA:SC :=
 af [af [.region false [⟨none,[aa 7 5,aa 8 0,aN 9 8,aS 10 .lss 7 9,aa 11 10]⟩,⟨(some (11,true)),[aa 12 0,aa 13 5,aL 14 2 12 13,bb 15 2 14,bb 16 2 3,bf 17 198 [15,16]]⟩,⟨none,[eV 18 11 17]⟩],bO 18 (.exit 0)],.block 1 (ae [aa 19 5,aF 20 .add 19 1,aa 5 20])]
def rM:SF:=⟨af [ae [cE 3 1,bT 4 1],ae [aP 5 0],bR 0 pA,af [.region false [⟨none,[aa 21 5,aa 22 0,aN 23 22,aS 24 .lss 21 23,aa 25 24]⟩,⟨(some (25,true)),[aa 26 0,aa 27 5,aL 28 2 26 27,bb 29 2 28,bb 30 2 3,((some 31),.op (.old (.binOp .eql 120 (.tmp 29) (.tmp 30) 120) 4))]⟩,⟨none,[eV 32 25 31]⟩],aZ 32 (af [ae [aa 33 0,aa 4 33],.ret])],ae [bT 34 2,aa 35 0,aa 36 5,((some 37),.op (.slice 2 (.tmp 35) (some (.tmp 36)) none)),gp 38 2 16 34 37,aa 6 38],ae [aa 39 0,aa 40 5,((some 41),.op (.slice 2 (.tmp 39) none (some (.tmp 40)))),bb 42 2 3,((some 43),.op (.cg 1 2 [(.val (.int .i64 0)),(.val (.int .i64 0))] [(0,(.tmp 42))])),gp 44 2 16 41 43,aa 45 6,gp 46 2 16 44 45,aa 4 46],.ret],
 [.tmp 4],47⟩
theorem wj:aM Tryz.prog 133 [3]=some rM:=by kernel_rfl
theorem Of (a b:aG):aB Tryz.prog 198 [.agg (bQ a),.agg (bQ b)] (gb (cH a b)):=by
 refine aB.val (RD a b) λH=>?_
 refine aw.of mixed vz ?_
 unfold cH
 simp(disch:=omega)only[↓wr,seval,wq,qA,bQ]
 apply aj.dec<;>intro h1
 .simp(disch:=omega)only[↓wr,seval,wq]
  rw[Wb h1];rfl
 simp(disch:=omega)only[↓wr,seval,wq,bQ]
 apply aj.eq<;>intro c
 .simp(disch:=omega)only[↓wr,seval,wq,bQ]
  rw[decide_eq_false h1,Wb c];rfl
 .simp(disch:=omega)only[↓wr,seval,wq]
  rw[decide_eq_false h1,decide_eq_false c];rfl
def dT:List aG->aG->Nat
 | [],_=>0
 | y :: l,x=>if cH y x=true then dT l x+1 else 0
theorem BP:∀ (l:List aG) (x:aG),dT l x<=l.length
 | [],_=>VA _
 | y :: l,x=>by
  rw[dT];split
  .have:=BP l x;simp;omega
  .simp
theorem CM:∀ (l:List aG) (x:aG) (i:Nat) (y:aG),l[i]?=some y->i < dT l x->cH y x=true
 | [],_,_,_,h,_=>by simp at h
 | z :: l,x,0,y,h,hi=>by
  rw[dT] at hi;split at hi
  .simp at h;subst h;assumption
  .omega
 | z :: l,x,i+1,y,h,hi=>by
  rw[dT] at hi;split at hi
  .exact CM l x i y (by simpa using h) (by omega)
  .omega
theorem BF:∀ (l:List aG) (x:aG) (y:aG),l[dT l x]?=some y->cH y x=false
 | [],_,_,h=>by simp at h
 | z :: l,x,y,h=>by
  rw[dT] at h;split at h
  .exact BF l x y (by simpa using h)
  .rename_i e;simp at h;subst h;simpa using e
theorem wm:∀ (l:List aG) (x:aG),ed l x=if l[dT l x]?=some x then l else l.take (dT l x) ++ [x] ++ l.drop (dT l x)
 | [],x=>by simp[ed,dT]
 | y :: l,x=>by
  rw[ed,dT]
  split
  .have:=wm l x
   simp only[V6,List.take_succ_cons,Xs,V4]
   rw[this];split <;> simp
  .simp only[VV,Vr,List.take_zero,Ww,Wi,V4]
theorem tE (x y:aG):gR Tryz.prog 9998 #[.int .i64 x.az,.int .i64 x.dot] #[.int .i64 y.az,.int .i64 y.dot]
  [{ name:= "Rule",type:=3,offset:=0,embedded:=false,tag:= "",pkgPath:= "",byteOffset:=0 },{ name:= "Dot",type:=3,offset:=1,embedded:=false,tag:= "",pkgPath:= "",byteOffset:=8 }] ((x.az == y.az) && ((x.dot == y.dot) && true)) :=
 .int _ _ _ .i64 _ _ (by decide) Tryz.underlying3 rfl rfl (.int _ _ _ .i64 _ _ (by decide) Tryz.underlying3 rfl rfl .nil)
theorem A5 (x y:aG):((x.az == y.az) && ((x.dot == y.dot) && true))=decide (x=y):=by
 cases x;cases y;rw[Wv];simp
theorem oC {sz id off k m:Nat} (hm:m<=k):cY sz (.sl id off k sz) (some (gi m)) none=some (.sl id (off+m) (k - m) sz,.none,[]):=by
 simp[cY,bound,asNat,hm]
theorem oB {sz id off k m:Nat} (hm:m<=k):cY sz (.sl id off k sz) none (some (gi m))=some (.sl id off m sz,.none,[]):=by
 simp[cY,bound,asNat,hm]
theorem MR (l:List aG):((aT l).all λe=>e.length == 2 && e.all aH)=true:=by
 simp[aT,WS,bQ,aH]
theorem O7 {H:View} {u:V} {sz:Nat} {es:List (List V)} (h:aO H u sz es):∃ rd,bC H u=some (es,rd):=by
 rcases h with ⟨rfl,k,rfl⟩ | ⟨n,rfl,a⟩
 .exact⟨_,ud _ k⟩
 .cases es with
  | nil=>exact⟨[],by simp[bC]⟩
  | cons e es =>
   exact⟨_,by rw[show (e :: es).length=es.length+1 from rfl,jZ _ n 0 es.length sz sz _ a (by simp),Ww,VG (by simp)]⟩
theorem qp {sz bytes:Nat} {u:V} {es:List (List V)} {H:View} {K:V->View->Prop} {w:cL (H,K)} (a:aO H u sz es) (h:K u H):mz sz bytes u [] H K w:=by
 unfold mz
 rcases a with ⟨_,k,rfl⟩ | ⟨n,rfl,_⟩ <;> simpa using h
theorem Left.behind {H H':View} {q:Nat} {o:c7} {u r:V} (d:H q=.dead) (h:Left (H.set q o) H' u r):Left H H' u r:=λa c b=>by
 have e:¬ a=q:=by rintro rfl;exact c d
 have:=h a (by simp[View.set,e];exact c) b
 simpa [View.set,e] using this
theorem Ay (u:V) (l:List aG) (hl:l.length<=100000) (x:aG) (H:View) (v:aO H u 2 (aT l)):aw Tryz.prog 133 [u,.agg (bQ x)] H λr H'=>aO H' r 2 (aT (ed l x))/\Left H H' u r:=by
 refine aw.of mixed wj ?_
 have hlen:ct u=some l.length:=by rw[v.len];simp[aT]
 have hle:=BP l x
 simp(disch:=omega)only[↓wr,seval,wq,rM,bQ]
 refine aR.up (dT l x) (λi T H'=>H'=H/\i<=dT l x/\T 0=u/\T 3=.aJ (bQ x) 0/\T 5=gi i) ⟨rfl,by omega,rfl,rfl,rfl⟩ ?_
 rintro i k T H' hk ⟨Z,hi,t0,t3,t5⟩
 subst Z
 simp(disch:=omega)only[↓wr,seval,wq,pA,t0,t3,t5,hlen]
 have stop:i=dT l x->True:=λ_=>trivial
 apply aj.dec<;>intro K
 .have w:l[i]?=some (l[i]'(by omega)):=Vq (by omega)
  generalize l[i]'(by omega)=y at w
  obtain⟨id,hu,b⟩:=v.sl (by simp[aT];omega)
  have n:(aT l).length=l.length:=by simp[aT]
  have L:(aT l).getD i []=bQ y:=by simp[aT,Vp,w]
  have A:=Of y x
  simp only[bQ] at A L
  simp(disch:=omega)only[↓wr,seval,wq,t0,t3,t5,hu,b,L,bQ]
  refine⟨by simp[aT];omega,by simp[aT];omega,?_⟩
  refine ax.pure A ?_
  simp(disch:=omega)only[↓wr,seval,wq,t0,t3,t5]
  apply aj.split<;>intro e
  .have B:i < dT l x:=by
    rcases VT i (dT l x) with h | h
    .exact h
    .have:=BF l x y (by rw[show dT l x=i by omega];exact w)
     rw[this] at e;exact absurd e (by simp)
   simp(disch:=omega)only[↓wr,seval,wq,t0,t3,t5]
   exact aE hk B ⟨rfl,B,t0,t3,rfl⟩
  have s:i=dT l x:=by
   rcases VT i (dT l x) with h | h
   .rw[CM l x i y w h] at e;exact absurd e (by simp)
   .omega
  simp(disch:=omega)only[↓wr,seval,wq,t0,t3,t5,hlen]
  refine aj.dec (λ_=>?_) (λh=>absurd K h)
  simp(disch:=omega)only[↓wr,seval,wq,t0,t3,t5,hu,b,L,bQ]
  refine⟨by simp[aT];omega,by simp[aT];omega,?_⟩
  refine kg (xs:=#[.int .i64 y.az,.int .i64 y.dot]) (ys:=#[.int .i64 x.az,.int .i64 x.dot]) Tryz.underlying120 (by kernel_rfl) (by kernel_rfl) ?_ ?_ (tE y x) (.inl ⟨rfl,rfl⟩) ?_
  .rfl
  .rfl
  rw[A5]
  simp(disch:=omega)only[↓wr,seval,wq,t0,t3,t5]
  apply aj.dec<;>intro M
  .subst M
   simp(disch:=omega)only[↓wr,seval,wq,t0]
   rw[wm,Vu (by rw[<-s];exact w)]
   exact⟨v,λid b v=>⟨rfl,v⟩⟩
  rw[n] at hu
  have N:bC H' (.sl id i (l.length - i) 2)=some (aT (l.drop i),[id]):=by
   obtain⟨q,d⟩:∃ q,l.length - i=q+1:=⟨l.length - i - 1,by omega⟩
   rw[d,jZ H' id i q 2 2 (aT l) b (by rw[n];omega)]
   rw[show (aT l).drop i=aT (l.drop i) from List.map_drop.symm,VG (by simp[aT];omega)]
  simp(disch:=omega)only[↓wr,seval,wq,t0,t3,t5,hu,oC (sz:=2) (id:=id) (off:=0) (k:=l.length) (m:=i) (by omega),N]
  refine eL aO.nil (MR _) (by unfold aC aT;simp;omega) (by unfold aC aT;simp;omega) ?_
  intro rest H1 O lr
  simp(disch:=omega)only[↓wr,seval,wq,t0,t3,t5,hu,oB (sz:=2) (id:=id) (off:=0) (k:=l.length) (m:=i) (by omega),bQ]
  intro q d
  have C:owner rest≠some id:=(lr id (by rw[b];simp) (by simp[owner])).2
  have f:H1 id=.arr 2 (aT l):=by rw[(lr id (by rw[b];simp) (by simp[owner])).1,b]
  have D:¬ id=q:=by rintro rfl;rw[f] at d;simp at d
  simp(disch:=omega)only[↓wr,seval,wq,bP]
  rw[sR _ _ _ _ _ _ _ _ _ _ (by rfl)]
  simp(disch:=omega)only[↓wr,seval,wq,D,f,n]
  refine⟨⟨by omega,by unfold aC;omega,by unfold aC;omega⟩,λj c=>?_⟩
  try rw[Ww]
  have E:¬ j=q:=by rintro rfl;simp at c
  rw[Vs E] at c
  have F:¬ j=id:=by rintro rfl;rw[f] at c;simp at c
  have g:=((O.fresh (o:=.arr 2 [[gi x.az,gi x.dot]]) d).other (o:=.dead) C).fresh (m:=j) (o:=.arr 2 (List.take i (aT l) ++ [[gi x.az,gi x.dot]])) (by simp[View.set,E,F,c])
  have G:aO (((H1.set q (.arr 2 [[gi x.az,gi x.dot]])).set id .dead).set j (.arr 2 (List.take i (aT l) ++ [[gi x.az,gi x.dot]]))) (.sl j 0 (i+1) 2) 2 (List.take i (aT l) ++ [[gi x.az,gi x.dot]]):=.inr ⟨j,by simp[n];omega,by simp[View.set]⟩
  have I:∀ a,H' a≠.dead->a≠id->(((H1.set q (.arr 2 [[gi x.az,gi x.dot]])).set id .dead).set j (.arr 2 (List.take i (aT l) ++ [[gi x.az,gi x.dot]]))) a=H' a/\a≠j:=λa z P=>by
   have h1:=(lr a z (by simp[owner])).1
   have aq:¬ a=q:=by rintro rfl;rw[d] at h1;exact z h1.symm
   have W:¬ a=j:=by rintro rfl;rw[c] at h1;exact z h1.symm
   exact⟨by simp[View.set,aq,W,P,h1],W⟩
  generalize ((H1.set q (.arr 2 [[gi x.az,gi x.dot]])).set id .dead).set j (.arr 2 (List.take i (aT l) ++ [[gi x.az,gi x.dot]]))=H3 at g G I ⊢
  rw[Wi] at g
  obtain⟨rd,he⟩:=O7 g
  simp(disch:=omega)only[↓wr,seval,wq,he]
  refine eL G (MR _) (by unfold aC aT;simp;omega) (by unfold aC aT;simp;omega) ?_
  intro r X t J
  simp(disch:=omega)only[↓wr,seval,wq]
  refine⟨?_,λa z Q=>?_⟩
  .rw[wm,Vs (by rw[<-s,w];simpa using M),<-s]
   simpa [aT,bQ,List.map_take,List.map_drop] using t
  .obtain⟨Y,k2⟩:=I a z (by rintro rfl;exact Q (by rw[hu];rfl))
   have:=J a (by rw[Y];exact z) (by simp[owner];exact λh=>k2 h.symm)
   exact⟨by rw[this.1,Y],this.2⟩
 .simp(disch:=omega)only[↓wr,seval,wq,t0,t3,t5,hlen]
  refine aj.dec (λh=>absurd h K) (λ_=>?_)
  have R:i=l.length:=by omega
  subst R
  have p:aT (ed l x)=aT l ++ [[gi x.az,gi x.dot]]:=by
   rw[wm,show dT l x=l.length by omega,V0 (VA _),Vs (by simp),List.take_length,List.drop_length]
   simp[aT,bQ]
  rcases v with ⟨e,k0,hu⟩ | ⟨id,hu,b⟩
  .have S:l=[]:=by simpa [aT] using e
   subst S
   simp(disch:=omega)only[↓wr,seval,wq,t0,t3,t5,hu,show ∀ k,cY 2 (.emp k) (some (gi 0)) none=some (.emp k,.none,[]) from λk=>rfl,show ∀ k,cY 2 (.emp k) none (some (gi 0))=some (.emp k,.none,[]) from λk=>rfl]
   refine qp aO.nil ?_
   simp(disch:=omega)only[↓wr,seval,wq,t0,t3,t5,hu,show ∀ k,cY 2 (.emp k) none (some (gi 0))=some (.emp k,.none,[]) from λk=>rfl,bQ]
   intro q d
   simp(disch:=omega)only[↓wr,seval,wq,bP]
   refine eL (sz:=2) (u:=.emp k0) aO.nil (by simp[aH]) (by unfold aC;simp) (by unfold aC;simp) ?_
   intro r X t J
   simp(disch:=omega)only[↓wr,seval,wq]
   refine qp t ?_
   simp(disch:=omega)only[↓wr,seval,wq]
   exact⟨by rw[p];exact t,hu ▸ Left.behind d J⟩
  .rw[show (aT l).length=l.length by simp[aT]] at hu
   simp(disch:=omega)only[↓wr,seval,wq,t0,t3,t5,hu,oC (sz:=2) (id:=id) (off:=0) (k:=l.length) (m:=l.length) (by omega),oB (sz:=2) (id:=id) (off:=0) (k:=l.length) (m:=l.length) (by omega)]
   rw[Nat.sub_self,show bC H' (.sl id l.length 0 2)=some ([],[]) from rfl]
   simp(disch:=omega)only[↓wr,seval,wq]
   refine qp aO.nil ?_
   simp(disch:=omega)only[↓wr,seval,wq,t0,t3,t5,hu,oB (sz:=2) (id:=id) (off:=0) (k:=l.length) (m:=l.length) (by omega),bQ]
   intro q d
   simp(disch:=omega)only[↓wr,seval,wq,bP]
   have U:aO H' (.sl id 0 l.length 2) 2 (aT l):=.inr ⟨id,by simp[aT],b⟩
   refine eL (sz:=2) (U.fresh d) (by simp[aH]) (by unfold aC aT;simp;omega) (by unfold aC aT;simp;omega) ?_
   intro r X t J
   simp(disch:=omega)only[↓wr,seval,wq]
   refine qp t ?_
   simp(disch:=omega)only[↓wr,seval,wq]
   exact⟨by rw[p];exact t,hu ▸ Left.behind d J⟩
def bV (g:ai) (r:Int):List Int:=if r = -1 then [-1 - g.start] else (bY g r).right
def bB (g:ai) (x:aG):Int × Bool:=if x.dot=(bV g x.az).length then (0,false) else ((bV g x.az).getD x.dot.toNat 0,true)
def pq:SF:=⟨af [ae [cE 2 0,bT 4 1],af [ae [aa 5 1,aF 6 .eql 5 (-1)],aZ 6 (af [ae [av 7 3 2,al 8 7,((some 9),.op (.arith .sub (.val (.val (.int .i64 (-1)))) (.tmp 8))),((some 10),.op (.cg 1 1 [(.val (.int .i64 0))] [(0,(.tmp 9))])),aa 4 10],.ret])],ae [av 11 2 2,al 12 11,aa 13 1,aL 14 3 12 13,av 15 1 14,al 16 15,aa 4 16],.ret],
 [.tmp 4],17⟩
theorem ux:aM Tryz.prog 199 [2]=some pq:=by kernel_rfl
def qB:SF:=⟨af [ae [cE 2 0,cE 3 1,aP 4 0,bm 5 false],ae [bb 7 4 2,av 8 0 3,al 9 8,bf 10 199 [7,9],aa 6 10],af [ae [av 11 1 3,al 12 11,aa 13 6,aN 14 13,aS 15 .eql 12 14],aZ 15 (af [ae [aP 4 0,bm 5 false],.ret])],ae [aa 16 6,av 17 1 3,al 18 17,aL 19 1 16 18,al 20 19,aa 4 20,bm 5 true],.ret],
 [.tmp 4,.tmp 5],21⟩
theorem vf:aM Tryz.prog 134 [2,3]=some qB:=by kernel_rfl
theorem LO (g:ai) (d : -100<=g.start/\g.start<=100) (r:Int) (hr : -1<=r/\r < (g.rules.length:Int)):aB Tryz.prog 199 [.agg (ag g),gi r] (encI (bV g r)):=by
 refine aB.of (by
  intro v a;simp at a
  rcases a with rfl | rfl
  .exact bW _ (cw g)
  .exact .val _) ?_
 refine aw.of mixed ux ?_
 unfold bV
 simp(disch:=omega)only[↓wr,seval,wq,pq,ag,encS]
 apply aj.eq<;>intro h1
 .simp(disch:=omega)only[↓wr,seval,wq,ag,encS]
  intro n
  rw[Vu h1]
  rintro c a
  refine dB.fr (jd (l:=[-1 - g.start]) (.inr ⟨n,rfl,?_⟩))
  rw[a];simp[View.set]
 .have b:g.rules[r.toNat]?=some (bY g r):=by unfold bY;exact getD_some (by omega)
  rw[Vs h1]
  generalize bY g r=R at b
  simp(disch:=omega)only[↓wr,seval,wq,ag,encS,Vt,b,VE,aK]
  intro c _
  exact .tree _ (bI R.right)
theorem ON (g:ai) (c : -100<=g.start/\g.start<=100) (x:aG) (d : -1<=x.az/\x.az < (g.rules.length:Int)) (e:0<=x.dot/\x.dot<=(bV g x.az).length) (f:(bV g x.az).length<=1000) :
  aB Tryz.prog 134 [.agg (ag g),.agg (bQ x)] (.aY [gi (bB g x).1,gb (bB g x).2]):=by
 have h1:=LO g c x.az d
 refine aB.tree (by
  intro v a;simp at a
  rcases a with rfl | rfl
  .exact bW _ (cw g)
  .exact bW _ λv a=>by simp[bQ] at a;rcases a with rfl | rfl <;> exact .val _) (.aY _ λi hi=>by
   match i,hi with
   | 0,_=>exact .val _
   | 1,_=>exact .val _) λH=>?_
 refine aw.of mixed vf ?_
 simp only[ag,encS,encI] at h1
 unfold bB
 simp(disch:=omega)only[↓wr,seval,wq,qB,ag,encS,bQ]
 refine ax.pure h1 ?_
 generalize bV g x.az=R at e f ⊢
 simp(disch:=omega)only[↓wr,seval,wq,bQ]
 apply aj.eq<;>intro b
 .simp(disch:=omega)only[↓wr,seval,wq]
  rw[Vu b]
 .have h:R[x.dot.toNat]?=some (R.getD x.dot.toNat 0):=getD_some (by omega)
  simp(disch:=omega)only[↓wr,seval,wq,bQ,Vt,h,VE]
  rw[Vs b]
theorem fF {a b:aG} : cH a b=true↔a.az < b.az∨a.az=b.az/\a.dot < b.dot:=by
 simp[cH]
theorem oY {a b c:aG} (h:cH a b=true) (k:cH b c=true):cH a c=true:=by
 rw[fF] at h k ⊢;omega
theorem ll {a:aG} : cH a a=false:=by
 cases h:cH a a with
 | false=>rfl
 | true=>rw[fF] at h;omega
theorem Ix {a b:aG} (h:cH a b=true):cH b a=false:=by
 cases k:cH b a with
 | false=>rfl
 | true=>have:=oY h k;rw[ll] at this;exact absurd this (by simp)
theorem wL {a b:aG} (h:cH a b=false) (c:¬ a=b):cH b a=true:=by
 rw[fF]
 have h1:¬ cH a b=true:=by simp[h]
 rw[fF] at h1
 obtain⟨d,ad⟩:=a
 obtain⟨e,f⟩:=b
 simp only[aG.mk.injEq] at c
 simp only at h1 ⊢
 omega
abbrev cm (l:List aG):Prop:=l.Pairwise λa b=>cH a b=true
theorem iS:∀ {l:List aG} {x y:aG},y∈ed l x↔y=x∨y∈l
 | [],x,y=>by simp[ed]
 | z :: l,x,y=>by
  rw[ed]
  split
  .simp only[VJ,iS (l:=l)]
   constructor
   .rintro (h | h | h) <;> simp[h]
   .rintro (h | h | h) <;> simp[h]
  .split
   .rename_i h;subst h;simp
   .simp
theorem oF:∀ {l:List aG} {x:aG},cm l->cm (ed l x)
 | [],x,_=>by simp[ed,cm]
 | z :: l,x,h=>by
  rw[cm,WI] at h
  rw[ed]
  split
  .rename_i c
   rw[cm,WI]
   refine⟨λy a=>?_,oF h.2⟩
   rcases iS.1 a with rfl | a
   .exact c
   .exact h.1 y a
  .rename_i c
   split
   .exact WI.2 h
   .rename_i d
    have b:=wL (by simpa using c) d
    rw[cm,WI]
    refine⟨λy a=>?_,WI.2 h⟩
    rcases VJ.1 a with rfl | a
    .exact b
    .exact oY b (h.1 y a)
theorem Ed:∀ (l:List aG) (x:aG),(ed l x).length=l.length∨(ed l x).length=l.length+1
 | [],x=>.inr rfl
 | z :: l,x=>by
  rw[ed]
  split
  .rcases Ed l x with h | h <;> simp[h]
  .split <;> simp
theorem BS:∀ {l:List aG} {x:aG},cm l->x∈l->ed l x=l
 | [],x,_,h=>by simp at h
 | z :: l,x,a,h=>by
  rw[cm,WI] at a
  rw[ed]
  rcases VJ.1 h with rfl | h
  .rw[Vs (by simp[ll]),Vu rfl]
  .rw[Vu (a.1 x h),BS a.2 h]
theorem CA:∀ {l:List aG} {x:aG},x ∉ l->(ed l x).length=l.length+1
 | [],x,_=>rfl
 | z :: l,x,h=>by
  simp only[VJ,not_or] at h
  rw[ed]
  split
  .simp[CA h.2]
  .rw[Vs (λe=>h.1 e.symm)];rfl
theorem Es:∀ {l:List aG} {x:aG},(∀ y∈l,cH y x=true)->ed l x=l ++ [x]
 | [],x,_=>rfl
 | z :: l,x,h=>by
  rw[ed,Vu (h z (by simp)),Es λy a=>h y (by simp[a])];rfl
theorem yM:∀ {a b:List aG},cm a->cm b->(∀ x,x∈a↔x∈b)->a=b
 | [],[],_,_,_=>rfl
 | [],y :: b,_,_,h=>by have:=(h y).2 (by simp);simp at this
 | x :: a,[],_,_,h=>by have:=(h x).1 (by simp);simp at this
 | x :: a,y :: b,d,e,h=>by
  rw[cm,WI] at d e
  have f:x=y:=by
   have h1:=(h x).1 (by simp)
   have c:=(h y).2 (by simp)
   rcases VJ.1 h1 with h1 | h1
   .exact h1
   .rcases VJ.1 c with c | c
    .exact c.symm
    .have:=oY (d.1 y c) (e.1 x h1)
     rw[ll] at this;exact absurd this (by simp)
  subst f
  congr 1
  refine yM d.2 e.2 λz=>?_
  have g:=h z
  simp only[VJ] at g
  constructor
  .intro hm
   rcases g.1 (.inr hm) with rfl | h
   .have:=d.1 z hm;rw[ll] at this;exact absurd this (by simp)
   .exact h
  .intro hm
   rcases g.2 (.inr hm) with rfl | h
   .have:=e.1 z hm;rw[ll] at this;exact absurd this (by simp)
   .exact h
theorem Hc:∀ (l:List Int) (a n:Int),l.Pairwise (· < ·)->(∀ x∈l,a<=x/\x < a+n)->0<=n->(l.length:Int)<=n
 | [],a,n,_,_,b=>by simpa using b
 | x :: l,a,n,hp,hm,b=>by
  rw[WI] at hp
  have h1:=hm x (by simp)
  have:=Hc l (x+1) (a+n - (x+1)) hp.2 (λy c=>by have:=hp.1 y c;have:=hm y (by simp[c]);omega) (by omega)
  simp only[Vz];omega
def cD (g:ai) (x:aG):Prop:=(-1<=x.az/\x.az < (g.rules.length:Int))/\0<=x.dot/\x.dot<=(bV g x.az).length
theorem eh {g:ai} (a:g.cU) {r:Int} (h : -1<=r/\r < (g.rules.length:Int)):(bV g r).length<=6:=by
 unfold bV
 split
 .simp
 .have b:g.rules[r.toNat]?=some (bY g r):=by unfold bY;exact getD_some (by omega)
  exact a.right _ (VF b)
theorem jQ {g:ai} (f:g.cU) {l:List aG} (i:cm l) (h:∀ x∈l,cD g x):l.length<=287:=by
 have d:∀ x∈l,0<=x.dot/\x.dot<=6:=λx c=>by
  have h1:=h x c
  have:=eh f h1.1
  exact⟨h1.2.1,by have:=h1.2.2;omega⟩
 have h1:(l.map λx=>(x.az+1) * 7+x.dot).Pairwise (· < ·):=by
  rw[List.pairwise_map]
  refine List.Pairwise.imp_of_mem ?_ i
  intro a b j k e
  rw[fF] at e
  have:=d a j;have:=d b k
  omega
 have:=Hc _ 0 287 h1 (λy m=>by
  obtain⟨x,c,rfl⟩:=VO.1 m
  have n:=(h x c).1
  have:=d x c;have:=f.rules
  omega) (by omega)
 simp at this
 omega
inductive mY (g:ai) (l:List aG):aG->Prop
 | base {x:aG} : x∈l->mY g l x
 | step {x:aG} {s:Int} {k:Nat} {R:ba} : mY g l x->bB g x=(s,true)->s < 0->g.rules[k]?=some R->R.left = -1 - s->mY g l ⟨k,0⟩
theorem mY.has {g:ai} {l:List aG} (a:∀ x∈l,cD g x) {x:aG} (h:mY g l x):cD g x:=by
 induction h with
 | base h=>exact a _ h
 | step _ _ _ hk _ _ =>
  have:=(VC.1 hk).1
  exact⟨⟨by simp only;omega,by simp only;omega⟩,by simp only;omega,by simp only;omega⟩
def HP (g:ai):List aG:=(List.range (g.rules.length+1)).flatMap λ(r:Nat)=>(List.range 7).map λ(d:Nat)=>(⟨(r:Int) - 1,(d:Int)⟩:aG)
theorem L1 {g:ai} (a:g.cU) {x:aG} (h:cD g x):x∈HP g:=by
 have:=eh a h.1
 obtain⟨⟨h1,b⟩,c,e⟩:=h
 simp only[HP,List.mem_flatMap,VO,Wy]
 refine⟨(x.az+1).toNat,by omega,x.dot.toNat,by omega,?_⟩
 obtain⟨r,d⟩:=x
 simp only at h1 b c e this
 simp only[aG.mk.injEq];omega
theorem sq:∀ (l a:List aG),cm a->cm (l.foldl ed a)/\∀ x,x∈l.foldl ed a↔x∈a∨x∈l
 | [],a,h=>⟨h,λx=>by simp⟩
 | y :: l,a,h=>by
  obtain⟨h1,b⟩:=sq l (ed a y) (oF h)
  refine⟨h1,λx=>?_⟩
  rw[V7,b,iS,VJ]
  constructor
  .rintro ((h | h) | h) <;> simp[h]
  .rintro (h | h | h) <;> simp[h]
open Classical in
noncomputable def cP (g:ai) (l:List aG):List aG:=((HP g).filter λx=>decide (mY g l x)).foldl ed []
theorem r8 (g:ai) (l:List aG):cm (cP g l):=(sq _ [] .nil).1
theorem fL {g:ai} (a:g.cU) {l:List aG} (b:∀ x∈l,cD g x) {x:aG} : x∈cP g l↔mY g l x:=by
 classical
 rw[cP,(sq _ [] .nil).2]
 simp only[List.not_mem_nil,false_or,Wx,VH]
 exact⟨λh=>h.2,λh=>⟨L1 a (h.has b),h⟩⟩
theorem AW {g:ai} (b:g.cU) {l o:List aG} (c:∀ x∈l,cD g x) (a:cm o) (h1:∀ x∈o,mY g l x) (d:∀ x∈l,x∈o)
  (e:∀ x∈o,∀ (s:Int) (k:Nat) (R:ba),bB g x=(s,true)->s < 0->g.rules[k]?=some R->R.left = -1 - s->(⟨k,0⟩:aG)∈o):cP g l=o:=by
 refine yM (r8 g l) a λx=>?_
 rw[fL b c]
 refine⟨λh=>?_,h1 x⟩
 induction h with
 | base h=>exact d _ h
 | step _ f a hk i j=>exact e _ j _ _ _ f a hk i
def bh (g:ai) (l:List aG) (s:Int):List aG:=(l.filter λx=>decide (bB g x=(s,true))).map λx=>⟨x.az,x.dot+1⟩
theorem qa {g:ai} {l:List aG} {s:Int} {y:aG} : y∈bh g l s↔∃ x∈l,bB g x=(s,true)/\y=⟨x.az,x.dot+1⟩:=by
 simp only[bh,VO,Wx,VH]
 constructor
 .rintro⟨x,⟨h1,a⟩,rfl⟩;exact⟨x,h1,a,rfl⟩
 .rintro⟨x,h1,a,rfl⟩;exact⟨x,⟨h1,a⟩,rfl⟩
theorem EV {g:ai} {l:List aG} (s:Int) (h:cm l):cm (bh g l s):=by
 rw[cm,bh,List.pairwise_map]
 refine(h.filter _).imp ?_
 intro a b c
 rw[fF] at c ⊢
 simp only;omega
theorem ug {g:ai} {x:aG} {s:Int} (h:bB g x=(s,true)):x.dot≠(bV g x.az).length/\(bV g x.az).getD x.dot.toNat 0=s:=by
 unfold bB at h
 split at h
 .simp at h
 .rename_i a;exact⟨a,by simpa using h⟩
theorem Hg {g:ai} {l:List aG} {s:Int} (a:∀ x∈l,cD g x):∀ y∈bh g l s,cD g y:=by
 intro y b
 obtain⟨x,c,d,rfl⟩:=qa.1 b
 have h1:=a x c
 have e:=(ug d).1
 exact⟨h1.1,by simp only;have:=h1.2;omega,by simp only;have:=h1.2;omega⟩
theorem Nk {g:ai} {l:List aG} (b:cm l) {i:Nat} {x:aG} (c:l[i]?=some x) (s:Int) :
  bh g (l.take (i+1)) s=if bB g x=(s,true) then ed (bh g (l.take i) s) ⟨x.az,x.dot+1⟩ else bh g (l.take i) s:=by
 have e:l.take (i+1)=l.take i ++ [x]:=by rw[VP,c];rfl
 rw[e]
 split
 .rename_i h
  rw[Es]
  .simp[bh,h]
  .intro y d
   obtain⟨z,f,_,rfl⟩:=qa.1 d
   have a:cm (l.take (i+1)):=b.sublist (List.take_sublist _ _)
   rw[e,cm,List.pairwise_append] at a
   have:=a.2.2 z f x (by simp)
   rw[fF] at this ⊢
   simp only;omega
 .rename_i h
  simp[bh,h]
theorem sT {g:ai} {l:List aG} {s:Int} : (bh g l s).length<=l.length:=by
 rw[bh,Vx];exact WY _ _
structure aQ where
 bj:List aG
 b3:List fi
 deriving DecidableEq
abbrev bJ:aQ:=⟨[],[]⟩
def aU (g:ai) (i:Nat):Int:=if i < g.au.length then i else -1 - ((i:Int) - g.au.length)
def findD:List aQ->List aG->Int
 | [],_=>-1
 | s :: l,k=>if s.bj=k then 0 else if findD l k < 0 then -1 else findD l k+1
theorem sK:∀ (l:List aQ) (k:List aG),-1<=findD l k
 | [],_=>by simp[findD]
 | s :: l,k=>by
  have:=sK l k
  rw[findD];split
  .omega
  .split <;> omega
theorem wD:∀ (l:List aQ) (k:List aG),findD l k < l.length
 | [],_=>by simp[findD]
 | s :: l,k=>by
  have:=wD l k
  rw[findD];simp only[Vz];split
  .omega
  .split <;> omega
theorem HC:∀ (l:List aQ) (k:List aG) (i:Nat),findD l k=i->∃ s,l[i]?=some s/\s.bj=k
 | [],_,i,h=>by simp[findD] at h
 | s :: l,k,i,h=>by
  rw[findD] at h
  split at h
  .rename_i e
   have:i=0:=by omega
   subst this
   exact⟨s,rfl,e⟩
  .split at h
   .omega
   .obtain⟨j,rfl⟩:∃ j,i=j+1:=⟨i - 1,by omega⟩
    obtain⟨t,h1,a⟩:=HC l k j (by omega)
    exact⟨t,by simpa using h1,a⟩
theorem G3:∀ (l:List aQ) (k:List aG),findD l k < 0->∀ s∈l,s.bj≠k
 | [],_,_,s,a=>by simp at a
 | t :: l,k,h,s,a=>by
  rw[findD] at h
  split at h
  .omega
  .rename_i b
   have c:findD l k < 0:=by
    split at h
    .assumption
    .omega
   rcases VJ.1 a with rfl | a
   .exact b
   .exact G3 l k c s a
theorem GW:∀ (l:List aQ) (k:List aG) (i:Nat) (s:aQ),l[i]?=some s->s.bj=k->(∀ j t,j < i->l[j]?=some t->t.bj≠k)->findD l k=i
 | [],_,_,_,h,_,_=>by simp at h
 | t :: l,k,0,s,h,hk,_=>by simp at h;subst h;simp[findD,hk]
 | t :: l,k,i+1,s,h,hk,a=>by
  have b:=a 0 t (by omega) rfl
  have:=GW l k i s (by simpa using h) hk λj u c hu=>a (j+1) u (by omega) (by simpa using hu)
  rw[findD,Vs b,this,Vs (by omega)];omega
theorem Bf:∀ (l:List aQ) (k:List aG),(∀ s∈l,s.bj≠k)->findD l k = -1
 | [],_,_=>rfl
 | t :: l,k,h=>by
  have:=Bf l k λs a=>h s (by simp[a])
  rw[findD,Vs (h t (by simp)),this];rfl
def cW (g:ai) (l:List aG) (at_:Nat) (out:List aQ) (i:Nat):List aQ :=
 if bh g l (aU g i)=[] then out else
 if findD out (bh g l (aU g i)) < 0 then (out ++ [(⟨bh g l (aU g i),[]⟩:aQ)]).modify at_ λs=>(⟨s.bj,s.b3 ++ [⟨aU g i,out.length⟩]⟩:aQ)
 else out.modify at_ λs=>(⟨s.bj,s.b3 ++ [⟨aU g i,findD out (bh g l (aU g i))⟩]⟩:aQ)
noncomputable def ua (g:ai) (at_:Nat) (out:List aQ) (n:Nat):List aQ:=(List.range n).foldl (cW g (cP g (out.getD at_ bJ).bj) at_) out
noncomputable def eW (g:ai):Nat->Nat->List aQ->List aQ × Int
 | 0,_,out=>(out,0)
 | f+1,at_,out=>if at_ < out.length then
   (if 300 < (ua g at_ out (g.au.length+g.ak.length)).length then ([],5) else eW g f (at_+1) (ua g at_ out (g.au.length+g.ak.length)))
  else (out,0)
def dN:List aQ:=[⟨[⟨-1,0⟩],[]⟩]
abbrev BV:=BitVec 32
def gx:List fi->Int->Int
 | [],_=>-1
 | e :: l,s=>if e.sym=s then e.to else gx l s
def gW (a:List aQ):Int->List Int->Int × Bool
 | at_,[]=>(at_,true)
 | at_,s :: l=>if 0<=gx (a.getD at_.toNat bJ).b3 s/\gx (a.getD at_.toNat bJ).b3 s < a.length then gW a (gx (a.getD at_.toNat bJ).b3 s) l else (0,false)
def jj (a:List aQ) (at_:Int) (l:List Int):Int × Bool:=if at_ < 0∨(a.length:Int)<=at_ then (0,false) else gW a at_ l
abbrev Sets:=List (List BV)
theorem D9 {α:Type} (l:List α) (i j:Nat) (x d:α):(l.set i x).getD j d=if i=j/\i < l.length then x else l.getD j d:=by
 simp only[Vp,V9]
 by_cases e:i=j
 .subst e
  by_cases h:i < l.length
  .simp[h]
  .simp[h]
 .simp[e]
def ju (g:ai) (x:aG):List Int:=if 0<=x.az then (bY g x.az).right.drop (x.dot+1).toNat else []
section
variable {g:ai} {null:List Bool} {a:List aQ} {ls:List (List aG)}
end
theorem pe {g:ai} (a:g.cU) : -100<=g.start/\g.start<=100:=by
 have:=a.kT;have:=a.start;have:=a.ak;omega
theorem Ig (g:ai) (b:g.cU) (x:aG) (a:cD g x):aB Tryz.prog 134 [.agg (ag g),.agg (bQ x)] (.aY [gi (bB g x).1,gb (bB g x).2]) :=
 ON g (pe b) x a.1 a.2 (by have:=eh b a.1;omega)
theorem ry {l:List aG} {i:Nat} {y:aG} (h:l[i]?=some y):(aT l).getD i []=[gi y.az,gi y.dot]:=by simp[aT,Vp,h,bQ]
theorem bE (l:List aG):(aT l).length=l.length:=by simp[aT]
theorem wY {g:ai} {x:aG} {s:Int} {b:Bool} (d:g.cU) (f:cD g x) (h:bB g x=(s,b)) : -1000<=s/\s<=1000:=by
 have a:∀ s∈bV g x.az,-1000<=s/\s<=1000:=by
  intro s c
  unfold bV at c
  split at c
  .simp at c;subst c;have:=pe d;omega
  .have i:g.rules[x.az.toNat]?=some (bY g x.az):=by unfold bY;exact getD_some (by have:=f.1;omega)
   have h1:=d.sym _ (VF i) s c
   have:=d.au;have:=d.ak
   unfold dw at h1
   split at h1 <;> simp at h1 <;> omega
 unfold bB at h
 split at h
 .simp at h;omega
 .rename_i j
  simp only[Vv] at h
  have e:x.dot.toNat < (bV g x.az).length:=by have:=f.2;omega
  rw[<-h.1]
  exact a _ (VF (getD_some e))
def lN:SC :=
 af [af [ae [aa 12 6,aa 13 1,aN 14 13,aS 15 .lss 12 14],bO 15 (.exit 0)],.block 1 (ae [aa 18 5,aa 19 1,aa 20 6,aL 21 2 19 20,bb 22 2 21,bf 23 133 [18,22],aa 5 23]),ae [aa 16 6,aF 17 .add 16 1,aa 6 17]]
def iz:SC :=
 af [af [.region false [⟨none,[aa 41 9,aa 42 41]⟩,⟨(some (42,true)),[aa 43 8,aF 44 .lss 43 0]⟩,⟨none,[eV 45 42 44,aa 46 45]⟩,⟨(some (46,true)),[aa 47 11,av 48 2 2,al 49 48,aN 50 49,aS 51 .lss 47 50]⟩,⟨none,[eV 52 46 51]⟩],bO 52 (.exit 4)],.block 5 (af [ae [av 55 2 2,al 56 55,aa 57 11,aL 58 3 56 57,av 59 0 58,al 60 59,aa 61 8,((some 62),.op (.arith .sub (.val (.val (.int .i64 (-1)))) (.tmp 61))),aS 63 .eql 60 62],aZ 63 (ae [aa 64 5,aa 65 11,((some 66),.op (.build [(.val (.int .i64 0)),(.val (.int .i64 0))] [(0,1,(.tmp 65))])),bf 67 133 [64,66],aa 5 67])]),ae [aa 53 11,aF 54 .add 53 1,aa 11 54]]
def lR:SC :=
 af [af [ae [aa 24 7,aa 25 5,aN 26 25,aS 27 .lss 24 26],bO 27 (.exit 2)],.block 3 (af [ae [bb 31 4 2,aa 32 5,aa 33 7,aL 34 2 32 33,bb 35 2 34,bf 36 134 [31,35],aa 30 36,dJ 37 0 30,dJ 38 1 30,aa 8 37,aa 9 38],ae [aa 39 5,aN 40 39,aa 10 40],af [ae [aP 11 0],bR 4 iz],ae [aa 68 5,aN 69 68,aa 70 10,aS 71 .gtr 69 70],aZ 71 (ae [aP 7 (-1)])]),ae [aa 28 7,aF 29 .add 28 1,aa 7 29]]
def na:SF:=⟨af [ae [cE 2 0,bT 4 1],ae [bT 5 1],af [ae [aP 6 0],bR 0 lN],af [ae [aP 7 0],bR 2 lR],ae [aa 72 5,aa 4 72],.ret],
 [.tmp 4],73⟩
theorem sM:aM Tryz.prog 69 [2]=some na:=by kernel_rfl
def nN:SC :=
 af [af [ae [aa 11 8,aa 12 1,aN 13 12,aS 14 .lss 11 13],bO 14 (.exit 0)],.block 1 (af [ae [bb 18 4 3,aa 19 1,aa 20 8,aL 21 2 19 20,bb 22 2 21,bf 23 134 [18,22],aa 17 23,dJ 24 0 17,dJ 25 1 17,aa 9 24,aa 10 25],.region false [⟨none,[aa 26 10,aa 27 26]⟩,⟨(some (27,true)),[aa 28 9,aa 29 2,aS 30 .eql 28 29]⟩,⟨none,[eV 31 27 30]⟩],aZ 31 (ae [aa 32 7,aa 33 1,aa 34 8,aL 35 2 33 34,av 36 0 35,al 37 36,aa 38 1,aa 39 8,aL 40 2 38 39,av 41 1 40,al 42 41,aF 43 .add 42 1,((some 44),.op (.build [(.val (.int .i64 0)),(.val (.int .i64 0))] [(0,1,(.tmp 37)),(1,1,(.tmp 43))])),bf 45 133 [32,44],aa 7 45])]),ae [aa 15 8,aF 16 .add 15 1,aa 8 16]]
def pk:SF:=⟨af [ae [cE 3 0,bT 6 1],ae [bT 7 1],af [ae [aP 8 0],bR 0 nN],ae [aa 46 7,aa 6 46],.ret],
 [.tmp 6],47⟩
theorem uA:aM Tryz.prog 71 [3]=some pk:=by kernel_rfl
def nL:SC :=
 af [af [ae [aa 11 5,aa 12 0,aN 13 12,aS 14 .lss 11 13],bO 14 (.exit 0)],.block 1 (af [ae [aa 17 0,aa 18 5,aL 19 2 17 18,bb 20 2 19,aa 21 1,aa 22 5,aL 23 2 21 22,bb 24 2 23,((some 25),.op (.old (.binOp .neq 120 (.tmp 20) (.tmp 24) 120) 4))],aZ 25 (af [ae [bm 4 false],.ret])]),ae [aa 15 5,aF 16 .add 15 1,aa 5 16]]
def pJ:SF:=⟨af [ae [bm 4 false],af [ae [aa 6 0,aN 7 6,aa 8 1,aN 9 8,aS 10 .neq 7 9],aZ 10 (af [ae [bm 4 false],.ret])],af [ae [aP 5 0],bR 0 nL],ae [bm 4 true],.ret],
 [.tmp 4],26⟩
theorem uG:aM Tryz.prog 135 []=some pJ:=by kernel_rfl
def oH:SF:=⟨af [ae [cE 2 0,aP 4 0],af [ae [aa 5 1,av 6 0 2,al 7 6,aN 8 7,aS 9 .lss 5 8],aZ 9 (af [ae [aa 10 1,aa 4 10],.ret])],ae [aa 11 1,av 12 0 2,al 13 12,aN 14 13,aS 15 .sub 11 14,((some 16),.op (.arith .sub (.val (.val (.int .i64 (-1)))) (.tmp 15))),aa 4 16],.ret],
 [.tmp 4],17⟩
theorem tc:aM Tryz.prog 70 [2]=some oH:=by kernel_rfl
def TV (g:ai) (out:List aG) (x:aG):Prop:=∀ (s:Int) (k:Nat) (R:ba),bB g x=(s,true)->s < 0->g.rules[k]?=some R->R.left = -1 - s->(⟨k,0⟩:aG)∈out
def PR (g:ai) (l:List aG) (H:View) (m:Nat) (T:Env) (H':View):Prop:=∃ (i:Nat) (r:V) (out:List aG),m=(300 - out.length) * 1000+(300 - i)/\i<=out.length/\aO H' r 2 (aT out)/\bZ H H' r/\cm out/\(∀ x∈out,mY g l x)/\(∀ x∈l,x∈out)/\(∀ j x,j < i->out[j]?=some x->TV g out x) /\
 T 2=.aJ (ag g) 0/\T 5=r/\T 7=gi i
theorem HZ (g:ai) (J:g.cU) (l:List aG) (hl:∀ x∈l,cD g x) (hn:l.length<=10000) (u:V) (H:View) (ho:aO H u 2 (aT l)):aw Tryz.prog 69 [.agg (ag g),u] H λr H'=>aO H' r 2 (aT (cP g l))/\bZ H H' r:=by
 refine aw.of mixed sM ?_
 have hlen:ct u=some l.length:=by rw[ho.len];simp[aT]
 have bn:=J.rules
 simp(disch:=omega)only[↓wr,seval,wq,na,ag,encS]
 refine aR.up l.length (λi T H'=>∃ (r:V) (out:List aG),aO H' r 2 (aT out)/\bZ H H' r/\cm out/\(∀ x,x∈out↔x∈l.take i)/\out.length<=287/\T 1=u/\T 2=.aJ (ag g) 0/\T 5=r/\T 6=gi i)
  ⟨.emp 1,[],.nil,.emp,.nil,by simp,by simp,rfl,rfl,rfl,rfl⟩ ?_
 rintro i k T H' hk ⟨r,out,D,fr,n,hm,hle,t1,t2,t5,t6⟩
 simp(disch:=omega)only[↓wr,seval,wq,lN,t1,t2,t5,t6,hlen]
 apply aj.dec<;>intro hc
 .have N:l[i]?=some (l[i]'(by omega)):=Vq (by omega)
  have W:l.take (i+1)=l.take i ++ [l[i]'(by omega)]:=by rw[VP,N];rfl
  generalize l[i]'(by omega)=y at N W
  obtain⟨id,hu,t⟩:=ho.sl (by simp[aT];omega)
  have X:H' id=.arr 2 (aT l):=by rw[(fr id (by rw[t];simp)).1,t]
  simp(disch:=omega)only[↓wr,seval,wq,t1,t2,t5,t6,hu,X,ry N]
  refine⟨by first | omega | (simp[aT];omega),by first | omega | (simp[aT];omega),?_⟩
  refine ax.eA ((Ay r out (by omega) y H' D).mono ?_)
  rintro p H2 ⟨O,l2⟩
  simp(disch:=omega)only[↓wr,seval,wq,t1,t2,t5,t6]
  have Y:∀ x,x∈ed out y↔x∈l.take (i+1):=λx=>by
   rw[iS,W,VM,hm,Wu,or_comm]
  have Z:=oF (x:=y) n
  exact aE hk (by omega) ⟨p,ed out y,O,fr.step l2,Z,Y,jQ J Z (λx b=>hl x (List.mem_of_mem_take ((Y x).1 b))),t1,t2,rfl,rfl⟩
 rw[VG (by omega)] at hm
 simp(disch:=omega)only[↓wr,seval,wq,t1,t2,t5,t6]
 refine aR.intro (PR g l H) ((300 - out.length) * 1000+300)
  ⟨0,r,out,by omega,WK _,D,fr,n,λx b=>.base ((hm x).1 b),λx b=>(hm x).2 b,λj x hj=>by omega,t2,t5,rfl⟩ ?_
 clear D fr n hm hle t1 t2 t5 t6 hc hk
 rintro m T1 H1 ⟨i,r,out,rfl,hi,D,fr,n,E,P,ab,t2,t5,t7⟩
 have K:∀ x∈out,cD g x:=λx b=>(E x b).has hl
 have hle:=jQ J n K
 have a6:ct r=some out.length:=by rw[D.len,bE]
 simp(disch:=omega)only[↓wr,seval,wq,lR,t2,t5,t7,a6]
 apply aj.dec<;>intro hc
 .have N:out[i]?=some (out[i]'(by omega)):=Vq (by omega)
  have Q:=K _ (Vw (show i < out.length by omega))
  have an:=E _ (Vw (show i < out.length by omega))
  generalize out[i]'(by omega)=y at N Q an
  have h1:=Ig g J y Q
  cases F:bB g y with
  | mk s G =>
  have br:=wY J Q F
  rw[F] at h1
  obtain⟨id,hu,t⟩:=D.sl (by simp[aT];omega)
  rw[bE] at hu
  simp only[ag,encS,bQ] at h1
  simp(disch:=omega)only[↓wr,seval,wq,t2,t5,t7,hu,t,ry N,ag,encS]
  refine⟨by first | omega | (simp[aT];omega),by first | omega | (simp[aT];omega),?_⟩
  refine ax.pure h1 ?_
  simp(disch:=omega)only[↓wr,seval,wq,t2,t5,t7,hu]
  refine aR.up g.rules.length (λk T H'=>∃ (p:V) (a:List aG),aO H' p 2 (aT a)/\bZ H H' p/\cm a/\(∀ x∈a,mY g l x)/\(∀ x∈out,x∈a)/\out.length<=a.length/\(a.length=out.length->a=out) /\
   (∀ (q:Nat) (R:ba),q < k->G=true->s < 0->g.rules[q]?=some R->R.left = -1 - s->(⟨q,0⟩:aG)∈a)/\T 2=.aJ (ag g) 0/\T 5=p/\T 7=gi i/\T 8=gi s/\T 9=gb G/\T 10=gi out.length/\T 11=gi k)
   ⟨r,out,D,fr,n,E,λx b=>b,VA _,λ_=>rfl,λq R hq=>by omega,t2,by rw[<-hu];exact t5,t7,rfl,rfl,rfl,rfl⟩ ?_
  clear D fr t2 t5 t7 t hu
  rintro k j T2 H2 hk ⟨p,a,O,I,c,d,v,S,o,w,t2,t5,t7,t8,t9,t10,t11⟩
  have U:∀ x∈a,cD g x:=λx b=>(d x b).has hl
  have bl:=jQ J c U
  have f:ct p=some a.length:=by rw[O.len,bE]
  have more:out.length < a.length->∀ z:Env,z 2=.aJ (ag g) 0->z 5=p->z 7=gi 0->∃ k',k' < (300 - out.length) * 1000+(300 - i)/\PR g l H k' z H2:=λh z e2 e5 e7 =>
   ⟨(300 - a.length) * 1000+300,by omega,0,p,a,by omega,WK _,O,I,c,d,λx b=>v x (P x b),λj x hj=>by omega,e2,e5,e7⟩
  have stay:(G=true->s < 0->g.rules.length<=k)->¬ out.length < a.length->∀ z:Env,z 2=.aJ (ag g) 0->z 5=p->z 7=gi ((i:Int)+1)->∃ k',k' < (300 - out.length) * 1000+(300 - i)/\PR g l H k' z H2:=λaq h z e2 e5 e7=>by
   have e:=o (by omega)
   subst e
   refine⟨(300 - a.length) * 1000+(300 - (i+1)),by omega,i+1,p,a,rfl,by omega,O,I,c,d,P,λj x hj b=>?_,e2,e5,e7⟩
   rcases VT j i with ar | ar
   .exact ab j x ar b
   .have:j=i:=by omega
    subst this
    rw[N] at b
    simp only[Vr] at b
    subst b
    intro s' q R h1 L A M
    rw[F] at h1
    simp only[Vv] at h1
    obtain⟨rfl,rfl⟩:=h1
    have:=(VC.1 A).1
    exact w q R (by have:=aq rfl L;omega) rfl L A M
  cases G with
  | false =>
   simp(disch:=omega)only[↓wr,seval,wq,iz,t2,t5,t7,t8,t9,t10,t11,f]
   apply aj.dec<;>intro hg
   .simp(disch:=omega)only[↓wr,seval,wq,t2,t5,t7]
    exact more (by omega) _ t2 t5 rfl
   .simp(disch:=omega)only[↓wr,seval,wq,t2,t5,t7]
    exact stay (λh=>by simp at h) (by omega) _ t2 t5 rfl
  | true =>
   simp(disch:=omega)only[↓wr,seval,wq,iz,t2,t5,t7,t8,t9,t10,t11,f,ag]
   apply aj.dec<;>intro B
   .simp(disch:=omega)only[↓wr,seval,wq,t2,t5,t7,t8,t9,t10,t11,f,ag]
    apply aj.dec<;>intro a7
    .have hR:g.rules[k]?=some (g.rules[k]'(by omega)):=Vq (by omega)
     have hL:=J.left _ (Vw (show k < g.rules.length by omega))
     generalize g.rules[k]'(by omega)=R at hR hL
     simp(disch:=omega)only[↓wr,seval,wq,t2,t5,t7,t8,t9,t10,t11,ag,aK,Vt,hR,VE]
     apply aj.eq<;>intro he
     .simp(disch:=omega)only[↓wr,seval,wq,t2,t5,t7,t8,t9,t10,t11]
      refine ax.eA ((Ay p a (by omega) ⟨k,0⟩ H2 O).mono ?_)
      rintro r3 H3 ⟨o3,l3⟩
      simp(disch:=omega)only[↓wr,seval,wq,t2,t5,t7,t8,t9,t10,t11]
      have a1:mY g l ⟨k,0⟩:=.step an F B hR he
      refine aE hk (by omega) ⟨r3,ed a ⟨k,0⟩,o3,I.step l3,oF c,λx b=>?_,λx b=>iS.2 (.inr (v x b)),by have:=Ed a ⟨k,0⟩;omega,λh=>?_,λq R' hq L A M=>?_,t2,rfl,t7,t8,t9,t10,rfl⟩
      .rcases iS.1 b with rfl | b
       .exact a1
       .exact d x b
      .have a8:(⟨k,0⟩:aG)∈a:=WL λbd=>by
        have:=CA bd;omega
       rw[BS c a8] at h ⊢
       exact o h
      .rcases VT q k with C | C
       .exact iS.2 (.inr (w q R' C rfl L A M))
       .have:q=k:=by omega
        subst this
        exact iS.2 (.inl rfl)
     .simp(disch:=omega)only[↓wr,seval,wq,t2,t5,t7,t8,t9,t10,t11]
      refine aE hk (by omega) ⟨p,a,O,I,c,d,v,S,o,λq R' hq L A M=>?_,t2,t5,t7,t8,t9,t10,rfl⟩
      rcases VT q k with C | C
      .exact w q R' C rfl L A M
      .have:q=k:=by omega
       subst this
       rw[hR] at A
       simp only[Vr] at A
       subst A
       exact absurd M he
    .simp(disch:=omega)only[↓wr,seval,wq,t2,t5,t7,t8,t9,t10,t11,f]
     apply aj.dec<;>intro hg
     .simp(disch:=omega)only[↓wr,seval,wq,t2,t5,t7]
      exact more (by omega) _ t2 t5 rfl
     .simp(disch:=omega)only[↓wr,seval,wq,t2,t5,t7]
      exact stay (λ_ _=>by omega) (by omega) _ t2 t5 rfl
   .simp(disch:=omega)only[↓wr,seval,wq,t2,t5,t7,t8,t9,t10,t11,f]
    apply aj.dec<;>intro hg
    .simp(disch:=omega)only[↓wr,seval,wq,t2,t5,t7]
     exact more (by omega) _ t2 t5 rfl
    .simp(disch:=omega)only[↓wr,seval,wq,t2,t5,t7]
     exact stay (λ_ h=>absurd h B) (by omega) _ t2 t5 rfl
 .simp(disch:=omega)only[↓wr,seval,wq,t2,t5,t7]
  have bs:i=out.length:=by omega
  rw[AW J hl n E P (λx b s k R h1 L A M=>by
   obtain⟨j,hj,e⟩:=WU.1 b
   exact ab j x (by omega) (by rw[Vq hj,e]) s k R h1 L A M)]
  exact⟨D,fr⟩
theorem Mg (g:ai) (m:g.cU) (l:List aG) (t:cm l) (v:∀ x∈l,cD g x) (s:Int) (u:V) (H:View) (w:aO H u 2 (aT l)):aw Tryz.prog 71 [.agg (ag g),u,gi s] H λr H'=>aO H' r 2 (aT (bh g l s))/\bZ H H' r:=by
 refine aw.of mixed uA ?_
 have hlen:ct u=some l.length:=by rw[w.len];simp[aT]
 have hle:=jQ m t v
 simp(disch:=omega)only[↓wr,seval,wq,pk,ag,encS]
 refine aR.up l.length (λi T H'=>∃ (r:V),aO H' r 2 (aT (bh g (l.take i) s))/\bZ H H' r/\T 1=u/\T 2=gi s/\T 3=.aJ (ag g) 0/\T 7=r/\T 8=gi i)
  ⟨.emp 1,.nil,.emp,rfl,rfl,rfl,rfl,rfl⟩ ?_
 rintro i k T H' hk ⟨r,h,fr,t1,t2,t3,t7,t8⟩
 simp(disch:=omega)only[↓wr,seval,wq,nN,t1,t2,t3,t7,t8,hlen]
 apply aj.dec<;>intro B
 .have j:l[i]?=some (l[i]'(by omega)):=Vq (by omega)
  have b:=v _ (Vw (show i < l.length by omega))
  have a:=Nk (g:=g) t (show l[i]?=some (l[i]'(by omega)) from j) s
  generalize l[i]'(by omega)=y at j b a
  have h1:=Ig g m y b
  cases c:bB g y with
  | mk q n =>
  rw[c] at h1
  obtain⟨id,hu,f⟩:=w.sl (by simp[aT];omega)
  have d:H' id=.arr 2 (aT l):=by rw[(fr id (by rw[f];simp)).1,f]
  rw[bE] at hu
  have z:=b.2
  have L:=eh m b.1
  have o:=sT (g:=g) (l:=l.take i) (s:=s)
  simp only[Wh] at o
  simp only[ag,encS,bQ] at h1
  simp(disch:=omega)only[↓wr,seval,wq,t1,t2,t3,t7,t8,hu,d,ry j,ag,encS]
  refine⟨by first | omega | (simp[aT];omega),by first | omega | (simp[aT];omega),?_⟩
  refine ax.pure h1 ?_
  have skip:¬ bB g y=(s,true)->∀ e:Env,e 1=u->e 2=gi s->e 3=.aJ (ag g) 0->e 7=r->e 8=gi ((i:Int)+1)->∃ A,A < k/\CO l.length A (λi T H'=>∃ (r:V),aO H' r 2 (aT (bh g (l.take i) s))/\bZ H H' r/\T 1=u/\T 2=gi s/\T 3=.aJ (ag g) 0/\T 7=r/\T 8=gi i) e H':=λp e C D E F G=>by
   rw[Vs p] at a
   exact aE hk (by omega) ⟨r,by rw[a];exact h,fr,C,D,E,F,G⟩
  cases n with
  | false =>
   simp(disch:=omega)only[↓wr,seval,wq,t1,t2,t3,t7,t8]
   exact skip (by rw[c];simp) _ t1 t2 t3 t7 rfl
  | true =>
   simp(disch:=omega)only[↓wr,seval,wq,t1,t2,t3,t7,t8]
   apply aj.eq<;>intro he
   .simp(disch:=omega)only[↓wr,seval,wq,t1,t2,t3,t7,t8,hu,d,ry j]
    refine⟨by first | omega | (simp[aT];omega),by first | omega | (simp[aT];omega),?_⟩
    refine⟨by first | omega | (simp[aT];omega),by first | omega | (simp[aT];omega),?_⟩
    refine ax.eA ((Ay r (bh g (l.take i) s) (by omega) ⟨y.az,y.dot+1⟩ H' h).mono ?_)
    rintro I M ⟨J,K⟩
    simp(disch:=omega)only[↓wr,seval,wq,t1,t2,t3,t7,t8]
    rw[Vu (by rw[c,he])] at a
    exact aE hk (by omega) ⟨I,by rw[a];exact J,fr.step K,t1,t2,t3,rfl,rfl⟩
   .simp(disch:=omega)only[↓wr,seval,wq,t1,t2,t3,t7,t8]
    exact skip (by rw[c];simp[he]) _ t1 t2 t3 t7 rfl
 .simp(disch:=omega)only[↓wr,seval,wq,t1,t2,t3,t7,t8]
  rw[VG (by omega)] at h
  exact⟨h,fr⟩
theorem Ct {g:ai} (a:g.cU) {i:Nat} (hi:i < g.au.length+g.ak.length) : -100<=aU g i/\aU g i<=100:=by
 have:=a.au;have:=a.ak
 unfold aU;split <;> omega
theorem IC (g:ai) (a:g.cU) (i:Nat) (hi:i < g.au.length+g.ak.length):aB Tryz.prog 70 [.agg (ag g),gi i] (gi (aU g i)):=by
 refine aB.val (by
  intro v b;simp at b
  rcases b with rfl | rfl
  .exact bW _ (cw g)
  .exact .val _) λH=>?_
 have:=a.au;have:=a.ak
 refine aw.of mixed tc ?_
 unfold aU
 simp(disch:=omega)only[↓wr,seval,wq,oH,ag,encS]
 apply aj.dec<;>intro h
 .simp(disch:=omega)only[↓wr,seval,wq]
  rw[Vu (by omega)]
 .simp(disch:=omega)only[↓wr,seval,wq,ag]
  rw[Vs (by omega)]
theorem Dt (l:List aG):Tree (.aW (aT l)):=ep _ _ λx _ v a=>by simp[bQ] at a;rcases a with rfl | rfl <;> exact .val _
theorem LF (a b:List aG) (g:aI a) (j:aI b):aB Tryz.prog 135 [.aW (aT a),.aW (aT b)] (gb (a == b)):=by
 unfold aI at g j
 refine aB.val (by
  intro v f;simp at f
  rcases f with rfl | rfl <;> exact Dt _) λH=>?_
 refine aw.of mixed uG ?_
 simp(disch:=omega)only[↓wr,seval,wq,pJ,aT]
 apply aj.ne<;>intro h
 .simp(disch:=omega)only[↓wr,seval,wq]
  have:(a == b)=false:=by simp;rintro rfl;exact h rfl
  rw[this]
 .simp(disch:=omega)only[↓wr,seval,wq]
  refine aR.up a.length (λi T H'=>a.take i=b.take i/\T 0=.aW (aT a)/\T 1=.aW (aT b)/\T 5=gi i) ⟨rfl,rfl,rfl,rfl⟩ ?_
  rintro i k T H' hk ⟨he,t0,t1,t5⟩
  simp(disch:=omega)only[↓wr,seval,wq,nL,t0,t1,t5,aT]
  apply aj.dec<;>intro l
  .have d:a[i]?=some (a[i]'(by omega)):=Vq (by omega)
   have c:b[i]?=some (b[i]'(by omega)):=Vq (by omega)
   generalize a[i]'(by omega)=x at d
   generalize b[i]'(by omega)=y at c
   simp(disch:=omega)only[↓wr,seval,wq,t0,t1,t5,aT,Vt,d,c,VE,bQ]
   refine kg (xs:=#[.int .i64 x.az,.int .i64 x.dot]) (ys:=#[.int .i64 y.az,.int .i64 y.dot]) Tryz.underlying120 (by kernel_rfl) (by kernel_rfl) ?_ ?_ (tE x y) (.inr ⟨rfl,rfl⟩) ?_
   .rfl
   .rfl
   rw[A5]
   simp(disch:=omega)only[↓wr,seval,wq,t0,t1,t5]
   apply aj.dec<;>intro e
   .simp(disch:=omega)only[↓wr,seval,wq,t0,t1,t5]
    exact aE hk (by omega) ⟨by rw[VP,VP,he,d,c,e],t0,t1,rfl⟩
   .simp(disch:=omega)only[↓wr,seval,wq]
    have:(a == b)=false:=by
     simp;rintro rfl
     rw[d] at c;simp at c;exact e c
    rw[this]
  .simp(disch:=omega)only[↓wr,seval,wq,t0,t1,t5]
   rw[VG (by omega),VG (by omega)] at he
   rw[he,beq_self_eq_true]
structure T4 where
 az:Int
 set:BV
 deriving DecidableEq
noncomputable def bA (g:ai):List aQ × Int:=if isRed g=true then eW g 302 0 dN else ([],1)
structure dG (g:ai) (at_ i:Nat) (out:List aQ):Prop where
 bj:∀ s∈out,cm s.bj/\s.bj≠[]/\∀ x∈s.bj,cD g x
 b3:∀ j s,out[j]?=some s->s.b3.length<=40/\(j=at_->s.b3.length<=i)/\(at_ < j->s.b3=[])
 to:∀ s∈out,∀ e∈s.b3,0<=e.to/\e.to < out.length
 sym:∀ s∈out,∀ e∈s.b3,-1000<=e.sym/\e.sym<=1000
theorem mem_modify {α:Type} {l:List α} {i:Nat} {f:α->α} {y:α} (h:y∈l.modify i f):y∈l∨∃ x,l[i]?=some x/\y=f x:=by
 obtain⟨j,a,e⟩:=WU.1 h
 simp only[List.length_modify] at a
 rw[List.getElem_modify] at e
 split at e
 .rename_i b
  subst b
  exact .inr ⟨l[i],Vq a,e.symm⟩
 .exact .inl (e ▸ Vw a)
theorem O6 (g:ai) (l:List aG) (at_:Nat) (out:List aQ) (i:Nat):out.length<=(cW g l at_ out i).length/\(cW g l at_ out i).length<=out.length+1:=by
 unfold cW
 split
 .omega
 .split
  .simp
  .simp
theorem dG.put {g:ai} {at_ i:Nat} {out:List aQ} (h:dG g at_ i out) (hi:i < 40) {s:Int} (c : -1000<=s/\s<=1000) {to:Int} (d:0<=to/\to < out.length):dG g at_ (i+1) (out.modify at_ λx=>(⟨x.bj,x.b3 ++ [⟨s,to⟩]⟩:aQ)):=by
 refine⟨λy a=>?_,λj y a=>?_,λy a e he=>?_,λy a e he=>?_⟩
 rotate_right
 .rcases mem_modify a with a | ⟨x,b,rfl⟩
  .exact h.sym y a e he
  .rcases VM.1 he with he | he
   .exact h.sym x (VF b) e he
   .simp at he;subst he;exact c
 .rcases mem_modify a with a | ⟨x,b,rfl⟩
  .exact h.bj y a
  .exact h.bj x (VF b)
 .rw[List.getElem?_modify] at a
  cases b:out[j]? with
  | none=>rw[b] at a;simp at a
  | some x =>
   rw[b] at a
   have h1:=h.b3 j x b
   by_cases e:at_=j
   .subst e
    simp at a
    subst a
    have:=h1.2.1 rfl
    refine⟨by simp;omega,λ_=>by simp;omega,λh=>by omega⟩
   .simp[e] at a
    subst a
    exact⟨h1.1,λh=>absurd h.symm e,h1.2.2⟩
 .rw[List.length_modify]
  rcases mem_modify a with a | ⟨x,b,rfl⟩
  .exact h.to y a e he
  .rcases VM.1 he with he | he
   .exact h.to x (VF b) e he
   .simp at he;subst he;exact d
theorem dG.up {g:ai} {at_ i:Nat} {out:List aQ} (h:dG g at_ i out):dG g at_ (i+1) out :=
 ⟨h.bj,λj s a=>by have:=h.b3 j s a;exact⟨this.1,λe=>by have:=this.2.1 e;omega,this.2.2⟩,h.to,h.sym⟩
theorem dG.add {g:ai} {at_ i:Nat} {out:List aQ} (h:dG g at_ i out) {k:List aG} (hk:cm k/\k≠[]/\∀ x∈k,cD g x):dG g at_ i (out ++ [⟨k,[]⟩]):=by
 refine⟨λy a=>?_,λj y a=>?_,λy a e he=>?_,λy a e he=>?_⟩
 rotate_right
 .rcases VM.1 a with a | a
  .exact h.sym y a e he
  .simp at a;subst a;simp at he
 .rcases VM.1 a with a | a
  .exact h.bj y a
  .simp at a;subst a;exact hk
 .rcases VT j out.length with b | b
  .rw[VZ b] at a;exact h.b3 j y a
  .rw[Wg b] at a
   cases c:j - out.length with
   | zero=>rw[c] at a;simp at a;subst a;exact⟨by simp,λ_=>by simp,λ_=>rfl⟩
   | succ q=>rw[c] at a;simp at a
 .rcases VM.1 a with a | a
  .have:=h.to y a e he;simp;omega
  .simp at a;subst a;simp at he
theorem dG.step {g:ai} {l:List aG} (c:cm l) (d:∀ x∈l,cD g x) {at_ i:Nat} {out:List aQ} (h:dG g at_ i out) (hi:i < 40):dG g at_ (i+1) (cW g l at_ out i):=by
 unfold cW
 split
 .exact h.up
 .rename_i a
  have b : -1000<=aU g i/\aU g i<=1000:=by unfold aU;split <;> omega
  split
  .exact(h.add ⟨EV _ c,a,Hg d⟩).put hi b (by simp;omega)
  .have:=wD out (bh g l (aU g i))
   exact h.put hi b ⟨by omega,this⟩
theorem dG.next {g:ai} {at_ i:Nat} {out:List aQ} (h:dG g at_ i out):dG g (at_+1) 0 out :=
 ⟨h.bj,λj s a=>by
  have:=h.b3 j s a
  exact⟨this.1,λe=>by have:=this.2.2 (by omega);simp[this],λe=>this.2.2 (by omega)⟩,h.to,h.sym⟩
theorem dG.row {g:ai} {l:List aG} (a:cm l) (b:∀ x∈l,cD g x) {at_:Nat} {out:List aQ} (h:dG g at_ 0 out):∀ n:Nat,n<=40->dG g at_ n ((List.range n).foldl (cW g l at_) out)/\out.length<=((List.range n).foldl (cW g l at_) out).length/\((List.range n).foldl (cW g l at_) out).length<=out.length+n
 | 0,_=>⟨h,VA _,VA _⟩
 | n+1,c=>by
  obtain⟨h1,d,e⟩:=dG.row a b h n (by omega)
  rw[WX,WQ]
  simp only[V7,Xk]
  have:=O6 g l at_ ((List.range n).foldl (cW g l at_) out) n
  exact⟨h1.step a b (by omega),by omega,by omega⟩
theorem kV {g:ai} : dG g 0 0 dN:=by
 refine⟨λs a=>?_,λj s a=>?_,λs a e he=>?_,λs a e he=>?_⟩
 rotate_right
 .simp[dN] at a;subst a;simp at he
 .simp[dN] at a;subst a
  refine⟨by simp[cm],by simp,λx b=>?_⟩
  simp at b;subst b
  exact⟨⟨by simp,by simp only;omega⟩,by simp,by simp[bV]⟩
 .have:=VF a
  simp[dN] at this;subst this;simp
 .simp[dN] at a;subst a;simp at he
theorem dG.lV {g:ai} (a:g.cU) {at_ i:Nat} {out:List aQ} (h:dG g at_ i out) {j:Nat} (b:j < out.length):cm (cP g (out.getD j bJ).bj)/\∀ x∈cP g (out.getD j bJ).bj,cD g x:=by
 have hm:=VF (getD_some (d:=bJ) b)
 exact⟨r8 _ _,λx c=>((fL a (h.bj _ hm).2.2).1 c).has (h.bj _ hm).2.2⟩
structure FI (g:ai) (a:List aQ):Prop where
 bj:∀ s∈a,cm s.bj/\s.bj≠[]/\∀ x∈s.bj,cD g x
 b3:∀ s∈a,s.b3.length<=40
 to:∀ s∈a,∀ e∈s.b3,0<=e.to/\e.to < a.length
 sym:∀ s∈a,∀ e∈s.b3,-1000<=e.sym/\e.sym<=1000
theorem dG.ok {g:ai} {at_ i:Nat} {out:List aQ} (h:dG g at_ i out):FI g out :=
 ⟨h.bj,λs a=>by obtain⟨j,b,e⟩:=WU.1 a;exact(h.b3 j s (by rw[Vq b,e])).1,h.to,h.sym⟩
theorem Hf {g:ai} (b:g.cU):∀ (f at_:Nat) (out:List aQ),dG g at_ 0 out->1<=out.length->out.length<=300->(eW g f at_ out).2=0->FI g (eW g f at_ out).1/\1<=(eW g f at_ out).1.length/\(eW g f at_ out).1.length<=300
 | 0,_,out,h,h1,c,_=>⟨h.ok,h1,c⟩
 | f+1,at_,out,h,h1,c,a=>by
  rw[eW] at a ⊢
  split
  .rename_i d
   rw[Vu d] at a
   have hr:=dG.row (h.lV b d).1 (h.lV b d).2 h (g.au.length+g.ak.length) (by have:=b.au;have:=b.ak;omega)
   rw[show (List.range (g.au.length+g.ak.length)).foldl (cW g (cP g (out.getD at_ bJ).bj) at_) out=ua g at_ out (g.au.length+g.ak.length) from rfl] at hr
   split
   .rename_i e;rw[Vu e] at a;simp at a
   .rename_i e
    rw[Vs e] at a
    exact Hf b f (at_+1) _ hr.1.next (by omega) (by omega) a
  .exact⟨h.ok,h1,c⟩
theorem P5 {g:ai} (a:g.cU) (h:(bA g).2=0):FI g (bA g).1/\1<=(bA g).1.length/\(bA g).1.length<=300:=by
 unfold bA at h ⊢
 split
 .rename_i hr
  rw[Vu hr] at h
  exact Hf a 302 0 dN kV (by simp[dN]) (by simp[dN]) h
 .rename_i hr
  rw[Vs hr] at h
  simp at h
end Gv
