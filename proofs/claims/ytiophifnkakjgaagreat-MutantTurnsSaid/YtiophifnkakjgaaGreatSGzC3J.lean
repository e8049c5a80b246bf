/-
  Part 10 of the proof: what the machine does and what the functions answer.
  Conditions: those that each lemma names.
-/
import Derived.Test.YtiophifnkakjgaaGreatSGzC3I
set_option linter.unusedSimpArgs false
set_option linter.unusedVariables false
set_option maxRecDepth 100000
set_option maxHeartbeats 20000000
namespace Gv
open Go Go.Proofs
structure R9 (H:View) (I N M k:Nat) (R:Nat->Nat) (C:Nat->Nat->Nat):Prop where
 top:H I=.arr 1 ((List.range N).map λn=>[if n < k then .sl (R n) 0 M 1 else .emp 1])
 row:∀ n,n < k->H (R n)=.arr 1 ((List.range M).map λi=>[.sl (C n i) 0 M 1])
 cell:∀ n i,n < k->i < M->H (C n i)=.arr 1 (List.replicate M [gb false])
 inj:∀ n i n' i',n < k->i < M->n' < k->i' < M->C n i=C n' i'->n=n'/\i=i'
 ne:∀ n,n < k->I≠R n
structure Db (H:View) (I N M k:Nat) (R:Nat->Nat) (C:Nat->Nat->Nat) (r i:Nat) (D:Nat->Nat):Prop where
 top:H I=.arr 1 ((List.range N).map λn=>[if n < k then .sl (R n) 0 M 1 else if n=k then .sl r 0 M 1 else .emp 1])
 row:∀ n,n < k->H (R n)=.arr 1 ((List.range M).map λi=>[.sl (C n i) 0 M 1])
 cell:∀ n i,n < k->i < M->H (C n i)=.arr 1 (List.replicate M [gb false])
 inj:∀ n i n' i',n < k->i < M->n' < k->i' < M->C n i=C n' i'->n=n'/\i=i'
 ne:∀ n,n < k->I≠R n
 RQ:H r=.arr 1 ((List.range M).map λj=>[if j < i then .sl (D j) 0 M 1 else .emp 1])
 FV:∀ j,j < i->H (D j)=.arr 1 (List.replicate M [gb false])
 Ur:∀ j j',j < i->j' < i->D j=D j'->j=j'
 Ev:I≠r/\(∀ n,n < k->R n≠r)/\∀ n q j,n < k->q < M->j < i->C n q≠D j
theorem C8 {M i:Nat} {F:Nat->List V} {v:List V} : ((List.range M).map F).set i v=(List.range M).map λj=>if j=i then v else F j:=by
 apply XL (by simp)
 intro j h1 a
 simp only[List.getElem_set,List.getElem_map,List.getElem_range]
 by_cases e:i=j
 .subst e;simp
 .rw[Ws e,Ws (Ne.symm e)]
theorem fJ {M i:Nat} {F:Nat->List V} (h:i < M):((List.range M).map F).getD i []=F i:=by simp[Wo,h]
theorem R9.done {H:View} {I N M:Nat} {R:Nat->Nat} {C:Nat->Nat->Nat} (h:R9 H I N M N R C):nZ H I N M R C (yX N M):=by
 refine⟨?_,h.row,λn i a hi=>?_,h.inj⟩
 .rw[h.top]
  congr 1
  apply Xy
  intro n a
  rw[Wv (by simpa using a)]
 .rw[h.cell n i a hi]
  simp[yX,Wo,a,hi]
theorem Db.VB {H:View} {I N M k:Nat} {R:Nat->Nat} {C:Nat->Nat->Nat} {r:Nat} {D:Nat->Nat} (h:Db H I N M k R C r M D):R9 H I N M (k+1) (λn=>if n=k then r else R n) (λn=>if n=k then D else C n):=by
 refine⟨?_,λn g=>?_,λn i g hi=>?_,λn i d f g hi j a e=>?_,λn g=>?_⟩
 .rw[h.top]
  congr 1
  apply Xy
  intro n _
  by_cases c:n < k
  .rw[Wv c,Wv (by omega),Ws (by omega)]
  .by_cases b:n=k
   .rw[Ws c,Wv b,Wv (by omega),Wv b]
   .rw[Ws c,Ws b,Ws (by omega)]
 .by_cases e:n=k
  .simp only[Wv e]
   rw[h.RQ]
   congr 1
   apply Xy
   intro i hi
   rw[Wv (by simpa using hi)]
  .simp only[Ws e];exact h.row n (by omega)
 .by_cases e:n=k
  .simp only[Wv e];exact h.FV i hi
  .simp only[Ws e];exact h.cell n i (by omega) hi
 .by_cases c:n=k
  .by_cases b:d=k
   .simp only[Wv c,Wv b] at e
    exact⟨by omega,h.Ur i f hi a e⟩
   .simp only[Wv c,Ws b] at e
    exact absurd e.symm (h.Ev.2.2 d f i (by omega) a hi)
  .by_cases b:d=k
   .simp only[Ws c,Wv b] at e
    exact absurd e (h.Ev.2.2 n i f (by omega) hi a)
   .simp only[Ws c,Ws b] at e
    exact h.inj n i d f (by omega) hi (by omega) a e
 .by_cases e:n=k
  .simp only[Wv e];exact h.Ev.1
  .simp only[Ws e];exact h.ne n (by omega)
theorem Db.next {H H':View} {I N M k:Nat} {R:Nat->Nat} {C:Nat->Nat->Nat} {r i d:Nat} {D:Nat->Nat} (h:Db H I N M k R C r i D) (x:0 < N) (u:0 < M) (v:H d=.dead)
  (o:H' r=.arr 1 (((List.range M).map λj=>[if j < i then V.sl (D j) 0 M 1 else .emp 1]).set i [.sl d 0 M 1])) (p:H' d=.arr 1 (List.replicate M [gb false])) (g:∀ id,H id≠.dead->id≠r->H' id=H id) :
  Db H' I N M k R C r (i+1) (λj=>if j=i then d else D j):=by
 have live:∀ id,H id≠.dead->id≠d:=λid a e=>by subst e;exact a v
 have b:∀ id,H id=.arr 1 (List.replicate M [gb false])->id≠r:=λid a e=>by
  rw[e,h.RQ] at a
  simp only[bN.arr.injEq,true_and] at a
  have:=XG (·[0]?) a
  simp[u] at this
  split at this <;> simp at this
 refine⟨?_,λn c=>?_,λn q c l=>?_,h.inj,h.ne,?_,λj t=>?_,λj m t w e=>?_,⟨h.Ev.1,h.Ev.2.1,λn q j c l t=>?_⟩⟩
 .rw[g I (by rw[h.top];simp) h.Ev.1];exact h.top
 .rw[g _ (by rw[h.row n c];simp) (h.Ev.2.1 n c)];exact h.row n c
 .have:=h.cell n q c l
  rw[g _ (by rw[this];simp) (b _ this)];exact this
 .rw[o,C8]
  congr 1
  apply Xy
  intro j _
  by_cases e:j=i
  .rw[Wv e,Wv (by omega),Wv e]
  .rw[Ws e]
   by_cases f:j < i
   .rw[Wv f,Wv (by omega),Ws e]
   .rw[Ws f,Ws (by omega)]
 .by_cases e:j=i
  .simp only[Wv e];exact p
  .simp only[Ws e]
   have:=h.FV j (by omega)
   rw[g _ (by rw[this];simp) (b _ this)];exact this
 .by_cases s:j=i
  .by_cases f:m=i
   .omega
   .simp only[Wv s,Ws f] at e
    exact absurd e.symm (live _ (by rw[h.FV m (by omega)];simp))
  .by_cases f:m=i
   .simp only[Ws s,Wv f] at e
    exact absurd e (live _ (by rw[h.FV j (by omega)];simp))
   .simp only[Ws s,Ws f] at e
    exact h.Ur j m (by omega) (by omega) e
 .by_cases e:j=i
  .simp only[Wv e];exact live _ (by rw[h.cell n q c l];simp)
  .simp only[Ws e];exact h.Ev.2.2 n q j c l (by omega)
theorem D6:∀ (l:List Nat) (i v:Nat) (h:i < l.length),(l.set i v).sum+l[i]=l.sum+v
 | x :: l,0,v,_=>by simp;omega
 | x :: l,i+1,v,h=>by
  have:=D6 l i v (by simpa using h)
  simp;omega
theorem Ia:∀ (l:List Nat) (b:Nat),(∀ x∈l,x<=b)->l.sum<=l.length * b
 | [],_,_=>by simp
 | x :: l,b,h=>by
  have h1:=Ia l b λy a=>h y (by simp[a])
  have c:=h x (by simp)
  simp only[List.sum_cons,WD,Xf];omega
theorem Ff:∀ (c:List Bool) (j:Nat),j < c.length->c.getD j false=false->cy (c.set j true)=cy c+1
 | x :: c,0,_,h=>by
  have:x=false:=by simpa using h
  subst this
  simp[cy]
 | x :: c,j+1,a,h=>by
  have:=Ff c j (by simpa using a) (by simpa using h)
  unfold cy at this ⊢
  simp only[List.set_cons_succ,List.countP_cons,this];omega
def AO (r:List (List Bool)):Nat:=(r.map cy).sum
def pz (T:Tb):Nat:=(T.map AO).sum
theorem IK {T:Tb} {N M:Nat} (h:jA T N M):pz T<=N * (M * M):=by
 have:=Ia (T.map AO) (M * M) (λx a=>by
  obtain⟨r,hr,rfl⟩:=WQ.1 a
  have:=Ia (r.map cy) M (λy b=>by
   obtain⟨c,d,rfl⟩:=WQ.1 b
   rw[<-(h.2 r hr).2 c d];exact rQ c)
  rw[WG,(h.2 r hr).1] at this
  exact this)
 rw[WG,h.1] at this
 exact this
theorem TF {T:Tb} {N M n i j:Nat} (h:jA T N M) (d:n < N) (hi:i < M) (t:j < M) (o:gJ T n i j=false):pz (oc T n i j)=pz T+1:=by
 obtain⟨r,c,hr,p,q,m⟩:=h.cell d hi
 obtain⟨u,a,s,b⟩:=h.row d
 rw[hr] at a;simp at a;subst a
 have e:r.getD i []=c:=by rw[<-b];exact m
 have f:n < T.length:=by rw[h.1];exact d
 have g:i < r.length:=by omega
 have k:T[n]=r:=(Wy.1 hr).2
 have l:r[i]=c:=(Wy.1 p).2
 have h1:cy (c.set j true)=cy c+1:=Ff c j (by omega) (by rw[<-m];exact o)
 have v:AO (r.set i (c.set j true))=AO r+1:=by
  have:=D6 (r.map cy) i (cy (c.set j true)) (by simpa using g)
  unfold AO
  rw[Yr]
  simp only[List.getElem_map,l] at this
  omega
 have:=D6 (T.map AO) n (AO (r.set i (c.set j true))) (by simpa using f)
 unfold pz oc
 rw[b,e,Yr]
 simp only[List.getElem_map,k] at this
 omega
def pR:SC :=
 ai [ai [af [aa 31 7,aa 32 1,aQ 33 32,aZ 34 .leq 31 33],cp 34 (.exit 2)],.block 3 (af [aa 37 5,aa 38 6,aY 39 1 37 38,au 40 39,aa 41 7,aa 42 1,aQ 43 42,aF 44 .add 43 1,((some 45),.op (.make 1 1 [(.val (.bool false))] (.tmp 44) (.tmp 44))),aY 46 1 40 41,df 1 46 45]),af [aa 35 7,aF 36 .add 35 1,aa 7 36]]
def qu:SC :=
 ai [ai [af [aa 18 6,aa 19 5,aQ 20 19,aZ 21 .lss 18 20],cp 21 (.exit 0)],.block 1 (ai [af [aa 24 5,aa 25 6,aa 26 1,aQ 27 26,aF 28 .add 27 1,((some 29),.op (.make 1 24 [(.emp 1)] (.tmp 28) (.tmp 28))),aY 30 1 24 25,df 1 30 29],af [bb 7 0],cz 2 pR]),af [aa 22 6,aF 23 .add 22 1,aa 6 23]]
def p7:SC :=
 ai [ai [af [aa 73 13,aa 74 1,aQ 75 74,aZ 76 .leq 73 75],cp 76 (.exit 10)],.block 11 (ai [.region false [⟨none,[aa 79 12,aa 80 13,aY 81 1 79 80,au 82 81,aa 83 82]⟩,⟨(some (83,true)),[aa 84 5,ay 85 0 10,au 86 85,aY 87 1 84 86,au 88 87,aa 89 11,aY 90 1 88 89,au 91 90,aa 92 13,aY 93 1 91 92,au 94 93,cW 95 94]⟩,⟨none,[fe 96 83 95]⟩],bf 96 (ai [af [aa 97 5,ay 98 0 10,au 99 98,aY 100 1 97 99,au 101 100,aa 102 11,aY 103 1 101 102,au 104 103,aa 105 13,aY 106 1 104 105,(none,.op (.store 1 (.tmp 106) (.val (.val (.bool true)))))],af [bc 8 true]])]),af [aa 77 13,aF 78 .add 77 1,aa 13 78]]
def pS:SC :=
 ai [ai [af [aa 60 11,aa 61 1,aQ 62 61,aZ 63 .leq 60 62],cp 63 (.exit 8)],.block 9 (ai [af [ay 66 1 10,au 67 66,aa 68 1,aa 69 5,aa 70 11,aT 71 200 [67,68,69,70],aa 12 71],af [aa 72 11,aa 13 72],cz 10 p7]),af [aa 64 11,aF 65 .add 64 1,aa 11 65]]
def qw:SC :=
 ai [ai [af [aa 48 9,ay 49 2 2,au 50 49,aQ 51 50,aZ 52 .lss 48 51],cp 52 (.exit 6)],.block 7 (ai [af [ay 55 2 2,au 56 55,aa 57 9,aY 58 3 56 57,bj 59 3 58,((some 10),.op (.alloc [(.val (.int .i64 0)),(.emp 1),(.val (.int .i64 0))])),df 3 10 59],af [bb 11 0],cz 8 pS]),af [aa 53 9,aF 54 .add 53 1,aa 9 54]]
def k6:SC :=
 ai [ai [af [aa 47 8],cp 47 (.exit 4)],.block 5 (ai [af [bc 8 false],af [bb 9 0],cz 6 qw])]
def sk:SF:=⟨ai [af [cJ 2 0,b7 4 1],af [ay 14 1 2,au 15 14,aQ 16 15,((some 17),.op (.make 1 24 [(.emp 1)] (.tmp 16) (.tmp 16))),aa 5 17],ai [af [bb 6 0],cz 0 qu],af [bc 8 true],cz 4 k6,af [aa 107 5,aa 4 107],.ret],
 [.tmp 4],108⟩
theorem xz:aG Tryz.prog 139 [2]=some sk:=by kernel_rfl
def Qh (g:ag) (p:List Int) (I:Nat) (R:Nat->Nat) (C:Nat->Nat->Nat) (T0:Tb) (D:Prop) (T:Env) (H:View):Prop :=
 ∃ T1,nZ H I g.ax.length (p.length+1) R C T1/\jA T1 g.ax.length (p.length+1)/\(∀ n i j,gJ T1 n i j=true->i<=j/\Sp g p [-1 - (n:Int)] i j) /\
  ((T 8=gb false/\T1=T0/\D)∨(T 8=gb true/\pz T0 < pz T1))/\T 1=encI p/\T 2=.aN (ak g) 0/\T 5=.sl I 0 g.ax.length 1
def kp (p:List Int) (T0:Tb) (r:aW) (f:Nat):Prop:=∀ j,f<=j->j<=p.length->(kJ p T0 r.right f).getD j false=true->gJ T0 r.left.toNat f j=true
theorem U5 (g:ag) (hg:g.Ok) (hf:g.cP) (p:List Int) (hp:p.length<=1000):cd Tryz.prog 139 [.agg (ak g),encI p] (mD (zP g p)):=by
 have z1:=hf.th
 have z2:=hf.ax
 have z3:=hf.rules
 refine cd.of (by
  intro v hv;simp at hv
  rcases hv with rfl | rfl
  .exact cX _ (cQ g)
  .exact aX p) ?_
 refine ao.of mixed xz ?_
 have hM:((p.length:Int)+1).toNat=p.length+1:=by omega
 simp(disch:=omega)only[↓wr,seval,wq,sk,ak,encS]
 refine⟨⟨by omega,by unfold aD;omega,by unfold aD;omega⟩,λh=>by omega,?_⟩
 intro _ I
 try simp(disch:=omega)only[↓wr,seval,wq,ak,encS]
 refine bk.up g.ax.length (λk t H'=>(∃ R C,R9 H' I g.ax.length (p.length+1) k R C)/\t 1=encI p/\t 2=.aN (ak g) 0/\t 5=.sl I 0 g.ax.length 1/\t 6=gi k) ?_ ?_
 .refine⟨⟨λ_=>0,λ_ _=>0,⟨?_,λn K=>by omega,λn i K=>by omega,λn i n' i' K=>by omega,λn K=>by omega⟩⟩,rfl,rfl,rfl,rfl⟩
  simp[View.set]
  apply XL (by simp)
  intro n h1 h2
  simp
 rintro k m t H hk ⟨⟨R,C,G⟩,t1,t2,t5,t6⟩
 simp(disch:=omega)only[↓wr,seval,wq,qu,t1,t2,t5,t6]
 apply aj.dec<;>intro hc
 .have P:=G.top
  simp(disch:=omega)only[↓wr,seval,wq,t1,t2,t5,t6,encI,P]
  refine⟨⟨by omega,by unfold aD;omega,by unfold aD;omega⟩,λh=>by omega,?_⟩
  intro _ r hr
  have Z:I≠r:=by rintro rfl;rw[P] at hr;simp at hr
  try simp(disch:=omega)only[↓wr,seval,wq,t1,t2,t5,t6,encI,P,hM,Z]
  refine⟨by omega,by simp;omega,?_⟩
  try simp(disch:=omega)only[↓wr,seval,wq,t1,t2,t5,t6,encI,P,hM,Z]
  refine bk.up (p.length+1) (λi t H'=>(∃ D,Db H' I g.ax.length (p.length+1) k R C r i D)/\t 1=encI p/\t 2=.aN (ak g) 0/\t 5=.sl I 0 g.ax.length 1/\t 6=gi k/\t 7=gi i) ?_ ?_
  .refine⟨⟨λ_=>0,?_⟩,t1,t2,t5,t6,rfl⟩
   have old:∀ id,H id≠.dead->id≠I->∀ o1 o2,((H.set r o1).set I o2) id=H id:=λid T hI o1 o2=>by
    have:id≠r:=by rintro rfl;exact T hr
    simp[View.set,hI,this]
   have cb:∀ n,n < k->R n≠r:=λn K e=>by have:=G.row n K;rw[e,hr] at this;simp at this
   have cI:∀ n i,n < k->i < p.length+1->C n i≠I:=λn i K hi e=>by
    have h1:=G.cell n i K hi
    rw[e,P] at h1
    simp only[bN.arr.injEq,true_and] at h1
    have:=XG (·[0]?) h1
    simp[show 0 < g.ax.length by omega] at this
    split at this <;> simp at this
   refine⟨?_,λn K=>?_,λn i K hi=>?_,G.inj,G.ne,?_,λj hj=>by omega,λj j' hj=>by omega,⟨Z,cb,λn q j _ _ hj=>by omega⟩⟩
   .simp only[View.set,if_true]
    rw[fJ (by omega)]
    simp only[List.drop_succ_cons,List.drop_nil,X1]
    rw[C8]
    congr 1
    apply Xy
    intro n _
    by_cases e1:n=k
    .rw[Wv e1,Ws (by omega),Wv e1]
    .rw[Ws e1]
     by_cases e2:n < k
     .rw[Wv e2,Wv e2]
     .rw[Ws e2,Ws e2,Ws e1]
   .rw[old _ (by rw[G.row n K];simp) (G.ne n K).symm];exact G.row n K
   .rw[old _ (by rw[G.cell n i K hi];simp) (cI n i K hi)];exact G.cell n i K hi
   .simp only[View.set,Ws Z.symm,if_true]
    congr 1
    apply XL (by simp)
    intro n h1 h2
    simp
  clear P hr G t1 t2 t5 t6
  rintro i q t H hq ⟨⟨D,G⟩,t1,t2,t5,t6,t7⟩
  simp(disch:=omega)only[↓wr,seval,wq,pR,t1,t2,t5,t6,t7,encI]
  apply aj.dec<;>intro bd
  .have P:=G.top
   have O:=fJ (F:=λn=>[if n < k then V.sl (R n) 0 (p.length+1) 1 else if n=k then .sl r 0 (p.length+1) 1 else .emp 1]) (show k < g.ax.length by omega)
   simp only[Ws (show ¬ k < k by omega),if_true] at O
   have b0:=G.RQ
   simp(disch:=omega)only[↓wr,seval,wq,t1,t2,t5,t6,t7,encI,P,O]
   refine⟨by omega,by simp;omega,⟨by omega,by unfold aD;omega,by unfold aD;omega⟩,λh=>by omega,?_⟩
   intro _ d hd
   have b1:r≠d:=by rintro rfl;rw[b0] at hd;simp at hd
   try simp(disch:=omega)only[↓wr,seval,wq,t1,t2,t5,t6,t7,hM,b0,b1]
   refine⟨by omega,by simp;omega,aJ hq (by omega) ⟨⟨_,G.next (d:=d) (by omega) (by omega) hd ?_ ?_ ?_⟩,t1,t2,t5,t6,rfl⟩⟩
   .simp only[View.set,if_true]
    rw[fJ (by omega)];rfl
   .simp only[View.set,Ws b1.symm,if_true];rfl
   .intro id T b2
    have:id≠d:=by rintro rfl;exact T hd
    simp[View.set,b2,this]
  .simp(disch:=omega)only[↓wr,seval,wq,t1,t2,t5,t6,t7]
   have cc:i=p.length+1:=by omega
   subst cc
   exact aJ hk (by omega) ⟨⟨_,_,G.VB⟩,t1,t2,t5,rfl⟩
 .simp(disch:=omega)only[↓wr,seval,wq,t1,t2,t5,t6]
  have cf:k=g.ax.length:=by omega
  subst cf
  have B:=G.done
  refine bk.intro (λk t H'=>∃ z,nZ H' I g.ax.length (p.length+1) R C z/\jA z g.ax.length (p.length+1)/\(∀ n i j,gJ z n i j=true->i<=j/\Sp g p [-1 - (n:Int)] i j) /\
   ((t 8=gb true/\k+pz z=g.ax.length * ((p.length+1) * (p.length+1))+1)∨(t 8=gb false/\∀ r∈g.rules,∀ f,f<=p.length->kp p z r f))/\t 1=encI p/\t 2=.aN (ak g) 0/\t 5=.sl I 0 g.ax.length 1) (g.ax.length * ((p.length+1) * (p.length+1))+1 - pz (yX g.ax.length (p.length+1))) ?_ ?_
  .have:=IK (Kt g.ax.length (p.length+1))
   exact⟨_,B,Kt _ _,λn i j h=>by rw[SY] at h;simp at h,.inl ⟨rfl,by omega⟩,t1,t2,t5⟩
  clear G B t1 t2 t5 t6
  rintro k t H ⟨z,B,U,ab,Q,t1,t2,t5⟩
  rcases Q with ⟨t8,c4⟩ | ⟨t8,b3⟩
  .simp(disch:=omega)only[↓wr,seval,wq,k6,t1,t2,t5,t8]
   refine bk.up g.rules.length (λi t H'=>Qh g p I R C z (∀ q r,q < i->g.rules[q]?=some r->∀ f,f<=p.length->kp p z r f) t H'/\t 9=gi i) ⟨⟨z,B,U,ab,.inl ⟨rfl,rfl,λq r hq=>by omega⟩,t1,t2,t5⟩,rfl⟩ ?_
   clear B t1 t2 t5 t8
   rintro i m t H hm ⟨⟨A,B,o,y,Q,t1,t2,t5⟩,t9⟩
   simp(disch:=omega)only[↓wr,seval,wq,qw,t1,t2,t5,t9,ak]
   apply aj.dec<;>intro bd
   .have bl:g.rules[i]?=some (g.rules[i]'(by omega)):=Wp (by omega)
    have L:g.rules[i]'(by omega)∈g.rules:=WA _
    generalize g.rules[i]'(by omega)=r at bl L
    simp(disch:=omega)only[↓wr,seval,wq,t1,t2,t5,t9,ak,aU,encI,Ww,bl]
    intro b M
    try simp(disch:=omega)only[↓wr,seval,wq,t1,t2,t5,t9]
    have hl:=hf.left r L
    have b4:=hg.av r L
    refine bk.up (p.length+1) (λf t H'=>Qh g p I R C z ((∀ q r,q < i->g.rules[q]?=some r->∀ f,f<=p.length->kp p z r f)/\∀ J,J < f->kp p z r J) t H'/\t 9=gi i/\t 10=.ptr b 0 0/\H' b=.arr 3 [aU r]/\t 11=gi f) ?_ ?_
    .refine⟨⟨A,B.keep λid T=>?_,o,y,?_,t1,t2,t5⟩,t9,rfl,by simp[View.set,aU,encI],rfl⟩
     .have:id≠b:=by rintro rfl;exact T M
      simp[View.set,this]
     .rcases Q with ⟨a,b,c⟩ | h
      .exact .inl ⟨a,b,c,λJ W=>by omega⟩
      .exact .inr h
    clear B Q t1 t2 t5 t9 M o y
    rintro f u t H hu ⟨⟨A,B,o,y,Q,t1,t2,t5⟩,t9,t10,M,t11⟩
    simp(disch:=omega)only[↓wr,seval,wq,pS,t1,t2,t5,t9,t10,t11,encI]
    apply aj.dec<;>intro ch
    .simp(disch:=omega)only[↓wr,seval,wq,t1,t2,t5,t9,t10,t11,M,aU,encI]
     have cj:=SQ r.right p A f g.ax.length b4.2.2.1 hp o (by omega) (λx hx=>⟨b4.2.2.2 x hx,λK=>hf.neg L hx K⟩)
     refine aq.iM cj (by kernel_rfl) ⟨cg.tree (aX r.right),cg.tree (aX p),B.mK o,cg.tree (.val _),trivial⟩ ?_
     have ck:=Fa p A r.right f
     have b5:∀ j,j<=p.length->(kJ p A r.right f).getD j false=true->f<=j/\Sp g p r.right f j:=λj hj he=>by
      have h1:=(GI (show f<=p.length by omega) hj).1 he
      exact⟨h1.le GH,Su (λn i j h=>(y n i j h.2).2) h1⟩
     have b8:A=z->kJ p A r.right f=kJ p z r.right f:=λe=>by rw[e]
     have bn:(t 8=gb false/\A=z/\((∀ q r,q < i->g.rules[q]?=some r->∀ f,f<=p.length->kp p z r f)/\∀ J,J < f->kp p z r J)/\kJ p A r.right f=kJ p z r.right f)∨(t 8=gb true/\pz z < pz A):=by
      rcases Q with ⟨a,b,c⟩ | h
      .exact .inl ⟨a,b,c,b8 b⟩
      .exact .inr h
     clear Q b8
     generalize kJ p A r.right f=E at ck b5 bn
     simp(disch:=omega)only[↓wr,seval,wq,t1,t2,t5,t9,t10,t11]
     refine bk.up (p.length+1 - f) (λs t H'=>Qh g p I R C z (((∀ q r,q < i->g.rules[q]?=some r->∀ f,f<=p.length->kp p z r f)/\∀ J,J < f->kp p z r J)/\E=kJ p z r.right f/\∀ j,f<=j->j < f+s->E.getD j false=true->gJ z r.left.toNat f j=true) t H'/\t 9=gi i/\t 10=.ptr b 0 0/\H' b=.arr 3 [aU r]/\t 11=gi f/\t 12=cB E/\t 13=gi ((f+s:Nat):Int)) ?_ ?_
     .refine⟨⟨A,B,o,y,?_,t1,t2,t5⟩,t9,t10,M,t11,rfl,rfl⟩
      rcases bn with ⟨a,b,c,d⟩ | h
      .exact .inl ⟨a,b,c,d,λj h1 h2=>by omega⟩
      .exact .inr h
     clear B bn t1 t2 t5 t9 t10 t11 M o y
     rintro s w t H hw ⟨⟨A,B,o,y,Q,t1,t2,t5⟩,t9,t10,M,t11,t12,t13⟩
     simp(disch:=omega)only[↓wr,seval,wq,p7,t1,t2,t5,t9,t10,t11,t12,t13,encI]
     apply aj.dec<;>intro cu
     .have cv:E[f+s]?=some (E.getD (f+s) false):=by simp[Wo,show f+s < E.length by omega]
      have a6:=b5 (f+s) (by omega)
      simp(disch:=omega)only[↓wr,seval,wq,t1,t2,t5,t9,t10,t11,t12,t13,cB,Ww,cv]
      generalize a7:E.getD (f+s) false=lv at a6
      have N:r.left.toNat < g.ax.length:=by omega
      have P:=B.top
      have O:=fJ (F:=λn=>[V.sl (R n) 0 (p.length+1) 1]) N
      have ae:=B.row r.left.toNat N
      have al:=fJ (F:=λi=>[V.sl (C r.left.toNat i) 0 (p.length+1) 1]) (show f < p.length+1 by omega)
      have S:=B.cell r.left.toNat f N (by omega)
      obtain⟨row,cell,c5,cA,b3,br⟩:=o.cell N (show f < p.length+1 by omega)
      rw[br] at S
      have ar:=q9 (l:=cell) (i:=f+s) (by omega)
      have b9:gJ A r.left.toNat f (f+s)=cell.getD (f+s) false:=by rw[gJ,br]
      have X:∀ (bs:Bool),(bs=true->gJ A r.left.toNat f (f+s)=true)->E.getD (f+s) false=bs->((t 8=gb false/\A=z/\((∀ q r,q < i->g.rules[q]?=some r->∀ f,f<=p.length->kp p z r f)/\∀ J,J < f->kp p z r J)/\E=kJ p z r.right f/\∀ j,f<=j->j < f+(s+1)->E.getD j false=true->gJ z r.left.toNat f j=true)∨(t 8=gb true/\pz z < pz A)):=λbs Y ca=>by
       rcases Q with ⟨a,b,c,d,e⟩ | h
       .refine .inl ⟨a,b,c,d,λj h1 h2 h3=>?_⟩
        by_cases ej:j=f+s
        .subst ej
         rw[ca] at h3
         rw[<-b];exact Y h3
        .exact e j h1 (by omega) h3
       .exact .inr h
      apply aj.split<;>intro Y
      .subst Y
       obtain⟨_,cC⟩:=a6 rfl
       simp(disch:=omega)only[↓wr,seval,wq,t1,t2,t5,t9,t10,t11,t12,t13,M,aU,P,O,ae,al,S,ar]
       refine⟨by omega,by simp;omega,?_⟩
       try simp(disch:=omega)only[↓wr,seval,wq,t1,t2,t5,t9,t10,t11,t12,t13,M,aU,P,O,ae,al,S,ar]
       refine⟨by omega,by simp;omega,by omega,by omega,?_⟩
       apply aj.split<;>intro bx
       .simp(disch:=omega)only[↓wr,seval,wq,t1,t2,t5,t9,t10,t11,t12,t13]
        exact aJ hw (by omega) ⟨⟨A,B,o,y,X true (λ_=>by rw[b9];exact bx) a7,t1,t2,t5⟩,t9,t10,M,t11,t12,rfl⟩
       .simp(disch:=omega)only[↓wr,seval,wq,t1,t2,t5,t9,t10,t11,t12,t13,M,aU,P,O,ae,al,S,ar]
        refine⟨by omega,by simp;omega,?_⟩
        try simp(disch:=omega)only[↓wr,seval,wq,t1,t2,t5,t9,t10,t11,t12,t13,M,aU,P,O,ae,al,S,ar]
        refine⟨by omega,by simp;omega,by omega,by omega,?_⟩
        have a8:=B.put o N (show f < p.length+1 by omega) (show f+s < p.length+1 by omega)
        have cN:=TF o N (show f < p.length+1 by omega) (show f+s < p.length+1 by omega) (by rw[b9];exact bx)
        rw[br,<-lu] at a8
        have cS:b≠C r.left.toNat f:=λe=>by rw[e,S] at M;simp at M
        refine aJ hw (by omega) ⟨⟨oc A r.left.toNat f (f+s),?_,Rh o N (by omega),λn i' j' h=>?_,.inr ⟨rfl,?_⟩,t1,t2,t5⟩,t9,t10,by simp[View.set,cS,M,aU],t11,t12,rfl⟩
        .exact a8
        .rw[Qq o N (by omega) (by omega)] at h
         split at h
         .rename_i e
          obtain⟨rfl,rfl,rfl⟩:=e
          refine⟨by omega,?_⟩
          exact .dQ _ _ r _ _ _ (by omega) L (by omega) cC (.nil _)
         .exact y n i' j' h
        .rcases Q with ⟨_,e,_⟩ | ⟨_,e⟩
         .rw[cN,e];omega
         .omega
      .subst Y
       simp(disch:=omega)only[↓wr,seval,wq,t1,t2,t5,t9,t10,t11,t12,t13]
       exact aJ hw (by omega) ⟨⟨A,B,o,y,X false (λh=>by simp at h) a7,t1,t2,t5⟩,t9,t10,M,t11,t12,rfl⟩
     .simp(disch:=omega)only[↓wr,seval,wq,t1,t2,t5,t9,t10,t11,t12,t13]
      refine aJ hu (by omega) ⟨⟨A,B,o,y,?_,t1,t2,t5⟩,t9,t10,M,rfl⟩
      rcases Q with ⟨a,b,c,d,e⟩ | h
      .refine .inl ⟨a,b,c.1,λJ W=>?_⟩
       by_cases ef:J=f
       .subst ef
        exact λj h1 h2 h3=>e j h1 (by omega) (by rw[d];exact h3)
       .exact c.2 J (by omega)
      .exact .inr h
    .simp(disch:=omega)only[↓wr,seval,wq,t1,t2,t5,t9,t10,t11]
     refine aJ hm (by omega) ⟨⟨A,B,o,y,?_,t1,t2,t5⟩,rfl⟩
     rcases Q with ⟨a,b,c,d⟩ | h
     .refine .inl ⟨a,b,λq r' hq a1 J W=>?_⟩
      by_cases eq:q=i
      .subst eq
       rw[bl] at a1;simp at a1;subst a1
       exact d J (by omega)
      .exact c q r' (by omega) a1 J W
     .exact .inr h
   .simp(disch:=omega)only[↓wr,seval,wq,t1,t2,t5,t9]
    rcases Q with ⟨a,b,c⟩ | ⟨a,b⟩
    .subst b
     refine⟨0,by have:=IK U;omega,A,B,U,ab,.inr ⟨a,λr hr f W=>?_⟩,rfl⟩
     obtain⟨q,hq,cV⟩:=Yd hr
     exact c q r (by omega) (by rw[Wp hq,cV]) f W
    .have:=IK o
     exact⟨g.ax.length * ((p.length+1) * (p.length+1))+1 - pz A,by omega,A,B,o,y,.inl ⟨a,by omega⟩,rfl⟩
  .simp(disch:=omega)only[↓wr,seval,wq,k6,t1,t2,t5,t8]
   intro h' hh
   have hT:z=zP g p:=TW (λr hr=>(hf.left r hr).1) (λr hr=>(hf.left r hr).2) U (λn i j h=>(ab n i j h.2).2) (λn i j h=>(ab n i j h).1) λr hr f j c3 hj he=>b3 r hr f (by omega) j c3 hj he
   rw[<-hT]
   exact nZ.Vi (by rw[hh];exact B) U
def yz (g:ag) (p:List Int):Bool:=p.all λx=>decide (-1<=x) && decide (x < g.an.length)
noncomputable def lV (g:ag) (p:List Int):Bool:=gJ (zP g p) g.start.toNat 0 p.length
noncomputable def BS (g:ag) (p:List Int):Bool × Int:=if (bq g && decide (p.length<=60) && yz g p)=true then (lV g p,0) else (false,1)
def y7 (x:Bool × Int):V:=.aO [gb x.1,gi x.2]
theorem xG (x:Bool × Int):Tree (y7 x):=yE (.val _) (.val _)
theorem AV {g:ag} (hr:bq g=true) (p:List Int):lV g p=true↔Sp g p [-1 - g.start] 0 p.length:=by
 have a:=bK hr
 have b:=a.lX
 have h1:=a.start
 rw[lV,NK (by omega) (by omega) (by omega)]
 rw[show ((g.start.toNat:Nat):Int)=g.start by omega]
def oN:SC :=
 ai [ai [af [aa 15 6,aa 16 1,aQ 17 16,aZ 18 .lss 15 17],cp 18 (.exit 0)],.block 1 (ai [.region false [⟨none,[aa 21 1,aa 22 6,aY 23 1 21 22,au 24 23,aF 25 .lss 24 (-1),aa 26 25]⟩,⟨(some (26,false)),[aa 27 1,aa 28 6,aY 29 1 27 28,au 30 29,ay 31 0 2,au 32 31,aQ 33 32,aZ 34 .geq 30 33]⟩,⟨none,[b6 35 26 34]⟩],bf 35 (ai [af [bc 4 false,bb 5 1],.ret])]),af [aa 19 6,aF 20 .add 19 1,aa 6 20]]
def qp:SF:=⟨ai [af [cJ 2 0,bc 4 false,bb 5 0],ai [.region false [⟨none,[bj 7 4 2,aT 8 50 [7],cW 9 8,aa 10 9]⟩,⟨(some (10,false)),[aa 11 1,aQ 12 11,aF 13 .gtr 12 60]⟩,⟨none,[b6 14 10 13]⟩],bf 14 (ai [af [bc 4 false,bb 5 1],.ret])],ai [af [bb 6 0],cz 0 oN],.region true [⟨none,[bj 36 4 2,aa 37 1,aT 38 139 [36,37],ay 39 3 2,au 40 39,aY 41 1 38 40,au 42 41,((some 43),.op (.idx 1 (.tmp 42) (.val (.val (.int .i64 0))))),au 44 43,aa 45 1,aQ 46 45,aY 47 1 44 46,au 48 47,aa 4 48,bb 5 0]⟩],.ret],
 [.tmp 4,.tmp 5],49⟩
theorem vi:aG Tryz.prog 78 [2]=some qp:=by kernel_rfl
theorem Pb (g:ag) (q:g.Ok) (p:List Int) (hp:aC p) (E:∀ x∈p,ba x):az Tryz.prog 78 [.agg (ak g),encI p] (y7 (BS g p)):=by
 refine az.tree (by
  intro v y;simp at y
  rcases y with rfl | rfl
  .exact cX _ (cQ g)
  .exact aX p) (xG _) λH=>?_
 refine ao.of mixed vi ?_
 unfold aC at hp
 have r:=q.an
 unfold aC at r
 have bad:(bq g && decide (p.length<=60) && yz g p)=false->y7 (BS g p)=.aO [gb false,gi 1]:=λe=>by
  unfold BS;rw[Ws (by rw[e];simp)];rfl
 simp(disch:=omega)only[↓wr,seval,wq,qp,ak,encS,encI]
 refine aq.pure (BU g q) ?_
 simp(disch:=omega)only[↓wr,seval,wq]
 apply aj.split<;>intro hr
 .have s:=bK hr
  simp(disch:=omega)only[↓wr,seval,wq,encI]
  apply aj.dec<;>intro z
  .simp(disch:=omega)only[↓wr,seval,wq]
   exact(bad (by rw[decide_eq_false (by omega)];simp)).symm
  .simp(disch:=omega)only[↓wr,seval,wq,encI]
   refine bk.up p.length (λi o H'=>yz g (p.take i)=true/\o 1=encI p/\o 2=.aN (ak g) 0/\o 6=gi i) ⟨rfl,rfl,rfl,rfl⟩ ?_
   rintro i k o H' hk ⟨a,t1,t2,t6⟩
   simp(disch:=omega)only[↓wr,seval,wq,oN,t1,t2,t6,encI]
   apply aj.dec<;>intro A
   .have b:p[i]?=some (p[i]'(by omega)):=Wp (by omega)
    have c:p[i]'(by omega)∈p:=WA _
    have h:p.take (i+1)=p.take i ++ [p[i]'(by omega)]:=by rw[WY,b];rfl
    generalize p[i]'(by omega)=x at b c h
    have t:yz g (p.take (i+1))=(decide (-1<=x) && decide (x < g.an.length)):=by
     unfold yz at a ⊢
     rw[h,List.all_append,a];simp
    have j:(decide (-1<=x) && decide (x < g.an.length))=false->yz g p=false:=λe=>by
     unfold yz
     rw[List.all_eq_false]
     exact⟨x,c,by rw[e];simp⟩
    simp(disch:=omega)only[↓wr,seval,wq,t1,t2,t6,encI,ak,encS,Ww,b]
    apply aj.dec<;>intro h1
    .simp(disch:=omega)only[↓wr,seval,wq,t1,t2,t6]
     exact(bad (by rw[j (by rw[decide_eq_false (by omega)];rfl),X8])).symm
    .simp(disch:=omega)only[↓wr,seval,wq,t1,t2,t6,encI,ak,encS,Ww,b]
     apply aj.dec<;>intro B
     .simp(disch:=omega)only[↓wr,seval,wq,t1,t2,t6]
      exact(bad (by rw[j (by rw[decide_eq_false (show ¬ x < (g.an.length:Int) by omega),X8]),X8])).symm
     .simp(disch:=omega)only[↓wr,seval,wq,t1,t2,t6]
      exact aJ hk (by omega) ⟨by rw[t,Xc (by omega),Xc (by omega)];rfl,t1,t2,rfl⟩
   .rw[WT (by omega)] at a
    simp(disch:=omega)only[↓wr,seval,wq,t1,t2,t6,ak,encS]
    have l:=U5 g q s p (by omega)
    simp only[ak,encS] at l
    refine aq.pure l.pure ?_
    have F:=s.lX
    have h1:=s.start
    obtain⟨row,cell,d,f,C,u⟩:=(Pt g p).cell (n:=g.start.toNat) (i:=0) (by omega) (by omega)
    have m:cell[p.length]?=some (lV g p):=by
     rw[lV,gJ,u];simp[Wo,show p.length < cell.length by omega]
    have D:BS g p=(lV g p,0):=Wv (by rw[hr,a,Xc (by omega)];rfl)
    generalize zP g p=S at d ⊢
    have w:cell[(p.length:Int).toNat]?=some (lV g p):=by rw[W8];exact m
    simp(disch:=omega)only[↓wr,seval,wq,t1,t2,t6,encI,ak,encS,mD,cB,Ww,d,f,m,w]
    rw[D];rfl
 .simp(disch:=omega)only[↓wr,seval,wq]
  exact(bad (by rw[hr];simp)).symm
def xH (g:ag) (w:List Int):Bool:=w.all λx=>decide (0<=x) && decide (x < g.an.length)
def gY (g:ag) (w:List Int):Bool:=bq g && decide (w.length<=60) && xH g w
theorem vQ (g:ag) (w:List Int):∀ v∈[V.agg (ak g),encI w],Tree v:=by
 intro v a;simp at a
 rcases a with rfl | rfl
 .exact cX _ (cQ g)
 .exact aX w
def nF:SC :=
 ai [ai [af [aa 14 5,aa 15 1,aQ 16 15,aZ 17 .lss 14 16],cp 17 (.exit 0)],.block 1 (ai [.region false [⟨none,[aa 20 1,aa 21 5,aY 22 1 20 21,au 23 22,aF 24 .lss 23 0,aa 25 24]⟩,⟨(some (25,false)),[aa 26 1,aa 27 5,aY 28 1 26 27,au 29 28,ay 30 0 2,au 31 30,aQ 32 31,aZ 33 .geq 29 32]⟩,⟨none,[b6 34 25 33]⟩],bf 34 (ai [af [bc 4 false],.ret])]),af [aa 18 5,aF 19 .add 18 1,aa 5 19]]
def qz:SF:=⟨ai [af [cJ 2 0,bc 4 false],ai [.region false [⟨none,[bj 6 4 2,aT 7 50 [6],cW 8 7,aa 9 8]⟩,⟨(some (9,false)),[aa 10 1,aQ 11 10,aF 12 .gtr 11 60]⟩,⟨none,[b6 13 9 12]⟩],bf 13 (ai [af [bc 4 false],.ret])],ai [af [bb 5 0],cz 0 nF],af [bc 4 true],.ret],
 [.tmp 4],35⟩
theorem u9:aG Tryz.prog 17 [2]=some qz:=by kernel_rfl
def qP:SF:=⟨ai [af [cJ 2 0,bc 4 false,bb 5 0],ai [af [bj 6 4 2,aa 7 1,aT 8 17 [6,7],cW 9 8],bf 9 (ai [af [bc 4 false,bb 5 1],.ret])],af [bj 10 4 2,aa 11 1,aT 12 78 [10,11],dO 13 0 12,dO 14 1 12,aa 4 13,aa 5 14],.ret],
 [.tmp 4,.tmp 5],15⟩
theorem wb:aG Tryz.prog 35 [2]=some qP:=by kernel_rfl
def vg:SF:=⟨ai [af [bc 3 false],.region false [⟨none,[aa 4 0,aF 5 .lss 4 0,aa 6 5]⟩,⟨(some (6,false)),[aa 7 0,ay 8 0 1,au 9 8,aQ 10 9,aZ 11 .geq 7 10]⟩,⟨none,[b6 12 6 11,aa 3 12]⟩],.ret],
 [.tmp 3],13⟩
theorem zI:aG Tryz.prog 108 []=some vg:=by kernel_rfl
def y8:SF:=⟨ai [af [cJ 2 0,bc 4 false],ai [.region false [⟨none,[bj 5 4 2,aT 6 89 [5],cW 7 6,aa 8 7]⟩,⟨(some (8,false)),[aa 9 1,aQ 10 9,aF 11 .gtr 10 60]⟩,⟨none,[b6 12 8 11]⟩],bf 12 (ai [af [bc 4 false],.ret])],af [aa 13 1,((some 14),.op (.qH 108 [] [(.tmp 2)])),aT 15 90 [13,14],cW 16 15,aa 4 16],.ret],
 [.tmp 4],17⟩
theorem Co:aG Tryz.prog 52 [2]=some y8:=by kernel_rfl
theorem E1 (g:ag) (m:g.Ok) (p:List Int) (hp:aC p) (r:∀ x∈p,ba x):az Tryz.prog 17 [.agg (ak g),encI p] (gb (gY g p)):=by
 refine az.val (vQ g p) λH=>?_
 refine ao.of mixed u9 ?_
 unfold aC at hp
 have j:=m.an
 unfold aC at j
 simp(disch:=omega)only[↓wr,seval,wq,qz,ak,encS,encI]
 refine aq.pure (BU g m) ?_
 simp(disch:=omega)only[↓wr,seval,wq]
 apply aj.split<;>intro hr
 .simp(disch:=omega)only[↓wr,seval,wq,encI]
  apply aj.dec<;>intro n
  .simp(disch:=omega)only[↓wr,seval,wq]
   rw[gY,decide_eq_false (show ¬ p.length<=60 by omega)];simp
  .simp(disch:=omega)only[↓wr,seval,wq,encI]
   refine bk.up p.length (λi h H'=>xH g (p.take i)=true/\h 1=encI p/\h 2=.aN (ak g) 0/\h 5=gi i) ⟨rfl,rfl,rfl,rfl⟩ ?_
   rintro i k h H' hk ⟨a,t1,t2,t6⟩
   simp(disch:=omega)only[↓wr,seval,wq,nF,t1,t2,t6,encI]
   apply aj.dec<;>intro o
   .have b:p[i]?=some (p[i]'(by omega)):=Wp (by omega)
    have c:p[i]'(by omega)∈p:=WA _
    have d:p.take (i+1)=p.take i ++ [p[i]'(by omega)]:=by rw[WY,b];rfl
    generalize p[i]'(by omega)=x at b c d
    have l:xH g (p.take (i+1))=(decide (0<=x) && decide (x < g.an.length)):=by
     unfold xH at a ⊢
     rw[d,List.all_append,a];simp
    have f:(decide (0<=x) && decide (x < g.an.length))=false->gY g p=false:=λe=>by
     have:xH g p=false:=by
      unfold xH
      rw[List.all_eq_false]
      exact⟨x,c,by rw[e];simp⟩
     rw[gY,this,X8]
    simp(disch:=omega)only[↓wr,seval,wq,t1,t2,t6,encI,ak,encS,Ww,b]
    apply aj.dec<;>intro h1
    .simp(disch:=omega)only[↓wr,seval,wq,t1,t2,t6]
     rw[f (by rw[decide_eq_false (by omega)];rfl)]
    .simp(disch:=omega)only[↓wr,seval,wq,t1,t2,t6,encI,ak,encS,Ww,b]
     apply aj.dec<;>intro q
     .simp(disch:=omega)only[↓wr,seval,wq,t1,t2,t6]
      rw[f (by rw[decide_eq_false (show ¬ x < (g.an.length:Int) by omega),X8])]
     .simp(disch:=omega)only[↓wr,seval,wq,t1,t2,t6]
      exact aJ hk (by omega) ⟨by rw[l,Xc (by omega),Xc (by omega)];rfl,t1,t2,rfl⟩
   .rw[WT (by omega)] at a
    simp(disch:=omega)only[↓wr,seval,wq,t1,t2,t6]
    rw[gY,hr,a,Xc (by omega)];rfl
 .simp(disch:=omega)only[↓wr,seval,wq]
  rw[gY,hr];rfl
noncomputable def j7 (g:ag) (w:List Int):Bool × Int:=if gY g w=true then (lV g w,0) else (false,1)
theorem RK {g:ag} {w:List Int} (h:gY g w=true):BS g w=(lV g w,0):=by
 unfold gY at h
 simp only[WC,WH] at h
 refine Wv ?_
 rw[h.1.1,Xc h.1.2]
 simp only[Xj,yz,WU,WC,WH]
 intro x a
 have:=WU.1 h.2 x a
 simp only[WC,WH] at this
 omega
theorem Q6 (g:ag) (b:g.Ok) (w:List Int) (hw:aC w) (c:∀ x∈w,ba x):az Tryz.prog 35 [.agg (ak g),encI w] (y7 (j7 g w)):=by
 refine az.tree (vQ g w) (xG _) λH=>?_
 refine ao.of mixed wb ?_
 simp(disch:=omega)only[↓wr,seval,wq,qP,ak,encS]
 have h1:=E1 g b w hw c
 have d:=Pb g b w hw c
 simp only[ak,encS] at h1 d
 refine aq.pure h1 ?_
 simp(disch:=omega)only[↓wr,seval,wq]
 apply aj.split<;>intro a
 .simp(disch:=omega)only[↓wr,seval,wq]
  refine aq.pure d ?_
  rw[RK a]
  simp(disch:=omega)only[↓wr,seval,wq,y7]
  rw[j7,Wv a]
 .simp(disch:=omega)only[↓wr,seval,wq]
  rw[j7,Ws (by rw[a];simp)];rfl
theorem Om (g:ag) (c:g.Ok) (x:Int) (d:ba x):az Tryz.prog 108 [gi x,.aN (ak g) 0] (gb (!(decide (0<=x) && decide (x < g.an.length)))):=by
 have a:=c.an
 unfold aC at a
 refine az.val (by
  intro v b;simp at b
  rcases b with rfl | rfl
  .exact .val _
  .exact gS (cQ g)) λH=>?_
 refine ao.of mixed zI ?_
 simp(disch:=omega)only[↓wr,seval,wq,vg,ak,encS]
 apply aj.dec<;>intro h1
 .simp(disch:=omega)only[↓wr,seval,wq]
  rw[decide_eq_false (show ¬ 0<=x by omega)];rfl
 .simp(disch:=omega)only[↓wr,seval,wq,ak,encS]
  rw[Xc (show 0<=x by omega)]
  rw[Xj,<-decide_not];congr 2;exact decide_eq_decide.2 ⟨λh=>Int.not_lt.2 h,λh=>Int.not_lt.1 h⟩
theorem IB (g:ag) (b:g.Ok) (d:g.Small) (w:List Int) (hw:aC w) (e:∀ x∈w,ba x):az Tryz.prog 52 [.agg (ak g),encI w] (gb (gY g w)):=by
 refine az.val (vQ g w) λH=>?_
 have a:=iJ w hw 108 [.aN (ak g) 0] (by intro v c;simp at c;subst c;exact gS (cQ g)) (λx=>!(decide (0<=x) && decide (x < g.an.length))) (λx f=>Om g b x (e x f)) (by kernel_rfl)
 refine ao.of mixed Co ?_
 unfold aC at hw
 simp(disch:=omega)only[↓wr,seval,wq,y8,ak,encS]
 refine aq.pure (ni g b d.names) ?_
 simp only[ak,encS] at a
 simp(disch:=omega)only[↓wr,seval,wq]
 apply aj.split<;>intro hr
 .simp(disch:=omega)only[↓wr,seval,wq,encI]
  apply aj.dec<;>intro h
  .simp(disch:=omega)only[↓wr,seval,wq]
   rw[gY,decide_eq_false (show ¬ w.length<=60 by omega)];simp
  .simp(disch:=omega)only[↓wr,seval,wq]
   refine aq.pure a ?_
   simp(disch:=omega)only[↓wr,seval,wq]
   rw[gY,hr,Xc (show w.length<=60 by omega),<-List.not_all_eq_any_not,Bool.not_not];rfl
 .simp(disch:=omega)only[↓wr,seval,wq]
  rw[gY,hr];rfl
structure bw where
 av:Int
 bO:Int
 rules:Int
 an:Int
def mc:bw:=⟨(-1),0,0,0⟩
def bo:bw:=⟨0,0,0,0⟩
def bE (P:List bw) (m:Nat):bw:=P.getD m mc
abbrev cH (x:Int):Nat:=(-1 - x).toNat
def bI (P:List bw):List Int->bw->bw × Bool
 | [],s=>(s,true)
 | x :: l,s=>if 0<=x then bI P l ⟨s.av,s.bO,s.rules,min 1048576 (s.an+1)⟩
  else if (bE P (cH x)).av < 0 then (s,false)
  else bI P l ⟨s.av,max s.bO (bE P (cH x)).bO,min 1048576 (s.rules+(bE P (cH x)).rules),min 1048576 (s.an+(bE P (cH x)).an)⟩
def bP (P:List bw) (m:Nat):Prop:=0<=(bE P m).av
def k8 (P:List bw) (l:List Int):Prop:=∀ x∈l,x < 0->bP P (cH x)
theorem jM (P:List bw):∀ (l:List Int) (s:bw),(bI P l s).2=true↔k8 P l
 | [],s=>by simp[bI,k8]
 | x :: l,s=>by
  simp only[bI,k8,WK]
  by_cases h:0<=x
  .rw[Wv h,jM P l]
   refine⟨λk y a b=>?_,λk y a=>k y (.inr a)⟩
   rcases a with rfl | a
   .omega
   .exact k y a b
  .rw[Ws h]
   by_cases c:(bE P (cH x)).av < 0
   .rw[Wv c]
    simp only[WR,false_iff]
    intro k
    have:=k x (.inl rfl) (by omega)
    unfold bP at this;omega
   .rw[Ws c,jM P l]
    refine⟨λk y a b=>?_,λk y a=>k y (.inr a)⟩
    rcases a with rfl | a
    .unfold bP;omega
    .exact k y a b
theorem jn (P:List bw) (k:Int):∀ (l:List Int) (s:bw),k8 P l->((bI P l s).1.bO<=k↔s.bO<=k/\∀ x∈l,x < 0->(bE P (cH x)).bO<=k)
 | [],s,_=>by simp[bI]
 | x :: l,s,h=>by
  have e:k8 P l:=λy c=>h y (by simp[c])
  simp only[bI,WK]
  by_cases f:0<=x
  .rw[Wv f,jn P k l _ e]
   refine⟨λ⟨a,b⟩=>⟨a,λy c d=>?_⟩,λ⟨a,b⟩=>⟨a,λy c=>b y (.inr c)⟩⟩
   rcases c with rfl | c
   .omega
   .exact b y c d
  .have:=h x (by simp) (by omega)
   unfold bP at this
   rw[Ws f,Ws (by omega),jn P k l _ e]
   refine⟨λ⟨a,b⟩=>⟨by simp only at a;omega,λy c d=>?_⟩,λ⟨a,b⟩=>⟨by have:=b x (.inl rfl) (by omega);simp only;omega,λy c=>b y (.inr c)⟩⟩
   rcases c with rfl | c
   .simp only at a;omega
   .exact b y c d
theorem BW {P P':List bw} : ∀ (l:List Int) (s:bw),(∀ x∈l,x < 0->bE P (cH x)=bE P' (cH x))->bI P l s=bI P' l s
 | [],s,_=>rfl
 | x :: l,s,h=>by
  have b:=λs=>BW (P:=P) (P':=P') l s λy c=>h y (by simp[c])
  simp only[bI]
  by_cases a:0<=x
  .rw[Wv a,Wv a,b]
  .rw[Ws a,Ws a,h x (by simp) (by omega),b]
theorem s8 (P:List bw):∀ (l:List Int) (s:bw),s.bO<=(bI P l s).1.bO
 | [],s=>Int.le_refl _
 | x :: l,s=>by
  simp only[bI]
  split
  .exact s8 P l _
  .split
   .exact Int.le_refl _
   .have:=s8 P l ⟨s.av,max s.bO (bE P (cH x)).bO,min 1048576 (s.rules+(bE P (cH x)).rules),min 1048576 (s.an+(bE P (cH x)).an)⟩
    simp only at this ⊢;omega
def ie (P:List bw) (i:Nat) (r:aW):bw:=⟨i,(bI P r.right bo).1.bO+1,min 1048576 ((bI P r.right bo).1.rules+1),(bI P r.right bo).1.an⟩
def pM (P:List bw) (i:Nat) (N:List bw) (r:aW):List bw :=
 if 0<=(bE N r.left.toNat).av then N else if (bI P r.right bo).2=true then N.set r.left.toNat (ie P i r) else N
def mF (P:List bw):Nat->List bw->List aW->List bw
 | _,N,[]=>N
 | i,N,r :: l=>mF P (i+1) (pM P i N r) l
def yG (rules:List aW) (P:List bw):List bw:=mF P 0 P rules
def mQ (P:List bw) (m:Nat):Nat->List aW->Option bw
 | _,[]=>none
 | i,r :: l=>if r.left.toNat=m/\(bI P r.right bo).2=true then some (ie P i r) else mQ P m (i+1) l
theorem zG {N:List bw} {i m:Nat} {p:bw} (hm:m < N.length):bE (N.set i p) m=if i=m then p else bE N m:=by
 simp only[bE,Wo,Xs]
 split
 .rename_i e;subst e;simp[hm]
 .rfl
theorem Ep (P:List bw) (i:Nat) (N:List bw) (r:aW):(pM P i N r).length=N.length:=by
 unfold pM;split; · rfl
 split <;> simp
theorem Fv (P:List bw):∀ (l:List aW) (i:Nat) (N:List bw),(mF P i N l).length=N.length
 | [],_,_=>rfl
 | r :: l,i,N=>by rw[mF,Fv P l,Ep]
theorem HR (P:List bw) (m:Nat):∀ (l:List aW) (i:Nat) (N:List bw),m < N.length->bE (mF P i N l) m=if 0<=(bE N m).av then bE N m else (mQ P m i l).getD (bE N m)
 | [],i,N,hm=>by simp[mF,mQ]
 | r :: l,i,N,hm=>by
  rw[mF,HR P m l (i+1) _ (by rw[Ep];exact hm),mQ]
  unfold pM
  by_cases h1:0<=(bE N r.left.toNat).av
  .rw[Wv h1]
   by_cases a:r.left.toNat=m
   .subst a
    rw[Wv h1,Wv h1]
   .rw[Ws (c:=r.left.toNat=m/\_) (λe=>a e.1)]
  .rw[Ws h1]
   by_cases b:(bI P r.right bo).2=true
   .rw[Wv b]
    by_cases a:r.left.toNat=m
    .subst a
     rw[zG hm,Wv rfl,Ws h1,Wv (show (0:Int)<=(ie P i r).av by simp only[ie];omega),Wv (c:=r.left.toNat=r.left.toNat/\_) (And.intro rfl b)]
     rfl
    .rw[zG hm,Ws a,Ws (c:=r.left.toNat=m/\_) (λe=>a e.1)]
   .rw[Ws b,Ws (c:=r.left.toNat=m/\_) (λe=>b e.2)]
theorem lq {P:List bw} {m:Nat} : ∀ {l:List aW} {i:Nat} {p:bw},mQ P m i l=some p->∃ (j:Nat) (r:aW),l[j]?=some r/\r.left.toNat=m/\k8 P r.right/\p=ie P (i+j) r/\∀ (f:Nat) (g:aW),f < j->l[f]?=some g->g.left.toNat=m->¬ k8 P g.right
 | [],i,p,h=>by simp[mQ] at h
 | r :: l,i,p,h=>by
  rw[mQ] at h
  by_cases k:r.left.toNat=m/\(bI P r.right bo).2=true
  .rw[Wv k] at h
   exact⟨0,r,rfl,k.1,(jM P _ _).1 k.2,by simpa using h.symm,λf g o=>by omega⟩
  .rw[Ws k] at h
   obtain⟨j,q,a,b,c,d,e⟩:=lq h
   refine⟨j+1,q,by simpa using a,b,c,by rw[d];congr 1;omega,λf g o hr n hk=>?_⟩
   cases f with
   | zero =>
    simp at hr;subst hr
    exact k ⟨n,(jM P _ _).2 hk⟩
   | succ f=>exact e f g (by omega) (by simpa using hr) n hk
theorem EU {P:List bw} {m:Nat} : ∀ {l:List aW} {i:Nat},mQ P m i l=none->∀ r∈l,r.left.toNat=m->¬ k8 P r.right
 | [],i,h,r,hr,_,_=>by simp at hr
 | r :: l,i,h,c,hr,b,hk=>by
  rw[mQ] at h
  by_cases a:r.left.toNat=m/\(bI P r.right bo).2=true
  .rw[Wv a] at h;simp at h
  .rw[Ws a] at h
   rcases WK.1 hr with rfl | hr
   .exact a ⟨b,(jM P _ _).2 hk⟩
   .exact EU h c hr b hk
def aB (g:ag) (k:Nat):List bw:=iter (yG g.rules) k (List.replicate g.ax.length mc)
theorem En {α:Type} (f:α->α):∀ (k:Nat) (x:α),iter f (k+1) x=f (iter f k x)
 | 0,x=>rfl
 | k+1,x=>by rw[iter,En f k,iter]
theorem oz (g:ag) (k:Nat):aB g (k+1)=yG g.rules (aB g k):=En _ _ _
theorem gL (g:ag):∀ k,(aB g k).length=g.ax.length
 | 0=>by simp[aB,iter]
 | k+1=>by rw[oz,yG,Fv,gL g k]
theorem D0 {P:List bw} {m:Nat} (h:P.length<=m):bE P m=mc:=by simp[bE,Wo,Xa h]
theorem Hb {P:List bw} {m:Nat} (h:bP P m):m < P.length:=by
 rcases W5 m P.length with h1 | h1
 .exact h1
 .unfold bP at h;rw[D0 h1] at h;simp[mc] at h
theorem si (g:ag) (k m:Nat):bE (aB g (k+1)) m=if 0<=(bE (aB g k) m).av then bE (aB g k) m else if m < g.ax.length then (mQ (aB g k) m 0 g.rules).getD (bE (aB g k) m) else bE (aB g k) m:=by
 by_cases hm:m < g.ax.length
 .rw[oz,yG,HR _ _ _ _ _ (by rw[gL];exact hm),Wv hm]
 .rw[Ws hm,D0 (by rw[gL];omega),D0 (by rw[gL];omega)]
  simp
theorem CL {g:ag} {k m:Nat} (h:bP (aB g k) m):bE (aB g (k+1)) m=bE (aB g k) m:=by
 rw[si];unfold bP at h;rw[Wv h]
theorem zO {g:ag} {k m:Nat} (h:bP (aB g k) m):∀ d,bE (aB g (k+d)) m=bE (aB g k) m
 | 0=>rfl
 | d+1=>by
  have a:=zO h d
  have:bP (aB g (k+d)) m:=by unfold bP at h ⊢;rw[a];exact h
  rw[<-a,<-CL this];rfl
theorem iq {g:ag} {k m j:Nat} (h:bP (aB g k) m) (a:k<=j):bE (aB g j) m=bE (aB g k) m/\bP (aB g j) m:=by
 obtain⟨d,rfl⟩:∃ d,j=k+d:=⟨j - k,by omega⟩
 have:=zO h d
 exact⟨this,by unfold bP at h ⊢;rw[this];exact h⟩
theorem x7 {g:ag} {k m:Nat} (a:¬ bP (aB g k) m) (h:bP (aB g (k+1)) m):mQ (aB g k) m 0 g.rules=some (bE (aB g (k+1)) m):=by
 unfold bP at h a
 rw[si,Ws a] at h
 rw[si,Ws a]
 split at h
 .rename_i hm
  rw[Wv hm]
  cases b:mQ (aB g k) m 0 g.rules with
  | none=>rw[b] at h;exact absurd h a
  | some p=>rfl
 .exact absurd h a
theorem pf {g:ag} {m:Nat} : ∀ {k:Nat},¬ bP (aB g k) m->bE (aB g k) m=mc
 | 0,_=>by
  simp only[aB,iter,bE,Wo,Xu]
  split <;> rfl
 | k+1,h=>by
  have a:¬ bP (aB g k) m:=λe=>h (iq e (by omega)).2
  unfold bP at h a
  rw[si,Ws a] at h ⊢
  split
  .rename_i hm
   rw[Wv hm] at h
   cases b:mQ (aB g k) m 0 g.rules with
   | none=>exact pf (k:=k) a
   | some p =>
    rw[b] at h
    obtain⟨j,r,_,_,_,rfl,_⟩:=lq b
    simp only[WJ,ie] at h;omega
  .exact pf (k:=k) a
theorem gP (g:ag):∀ k:Nat,∀ m,bP (aB g k) m->1<=(bE (aB g k) m).bO/\(bE (aB g k) m).bO<=k/\∀ j:Nat,j<=k->(bE (aB g k) m).bO<=j->bP (aB g j) m
 | 0,m,h=>by
  unfold bP at h
  have:bE (aB g 0) m=mc:=by
   simp only[aB,iter,bE,Wo,Xu]
   split <;> rfl
  rw[this] at h;simp[mc] at h
 | k+1,m,h=>by
  have q:=gP g k
  by_cases f:bP (aB g k) m
  .obtain⟨a,b,c⟩:=q m f
   rw[(iq f (Nat.le_succ k)).1]
   refine⟨a,by push_cast;omega,λj u t=>?_⟩
   rcases W5 k j with e | e
   .exact(iq f (by omega)).2
   .exact c j e t
  .have v:=x7 f h
   obtain⟨i,r,hr,w,hk,hp,_⟩:=lq v
   have t:(bE (aB g (k+1)) m).bO=(bI (aB g k) r.right bo).1.bO+1:=by rw[hp];rfl
   have h1:=s8 (aB g k) r.right bo
   have B:=(jn (aB g k) k r.right bo hk).2 ⟨by simp[bo],λx n o=>(q _ (hk x n o)).2.1⟩
   have C:¬ (bI (aB g k) r.right bo).1.bO<=(k:Int) - 1:=by
    intro hle
    have y:(0:Int)<=(bI (aB g k) r.right bo).1.bO:=h1
    obtain⟨d,rfl⟩:∃ d,k=d+1:=⟨k - 1,by omega⟩
    have z:=((jn (aB g (d+1)) _ r.right bo hk).1 hle).2
    have A:k8 (aB g d) r.right:=λx n o=>(q _ (hk x n o)).2.2 d (by omega) (by have:=z x n o;push_cast at this;omega)
    apply f
    by_cases s:bP (aB g d) m
    .exact(iq s (by omega)).2
    .unfold bP at s ⊢
     have hm:=Hb h
     rw[gL] at hm
     rw[si,Ws s,Wv hm]
     cases l:mQ (aB g d) m 0 g.rules with
     | none=>exact absurd A (EU l r (WI hr) w)
     | some p =>
      obtain⟨j,D,_,_,_,rfl,_⟩:=lq l
      simp only[WJ,ie];omega
   have y:(0:Int)<=(bI (aB g k) r.right bo).1.bO:=h1
   refine⟨by omega,by push_cast;omega,λj u hle=>?_⟩
   have:j=k+1:=by omega
   subst this;exact h
theorem wy {g:ag} {m:Nat} : ∀ {k:Nat},bP (aB g k) m->∃ j,j < k/\¬ bP (aB g j) m/\(bE (aB g k) m).bO=j+1/\mQ (aB g j) m 0 g.rules=some (bE (aB g k) m)
 | 0,h=>by
  have:=(gP g 0 m h)
  simp at this;omega
 | k+1,h=>by
  by_cases f:bP (aB g k) m
  .obtain⟨j,a,b,c,d⟩:=wy f
   rw[(iq f (Nat.le_succ k)).1]
   exact⟨j,by omega,b,c,d⟩
  .refine⟨k,by omega,f,?_,x7 f h⟩
   obtain⟨a,b,c⟩:=gP g (k+1) m h
   rcases Int.lt_or_le (k:Int) (bE (aB g (k+1)) m).bO with e | e
   .push_cast at b;omega
   .exact absurd (c k (by omega) e) f
def r8 (P:List bw):List Bool:=P.map λp=>decide (0<=p.av)
theorem Ci (P:List bw) (m:Nat):(r8 P).getD m false=true↔bP P m:=by
 simp only[r8,bP,bE,Wo,Ww]
 cases P[m]? with
 | none=>simp[mc]
 | some p=>simp
theorem TS (g:ag) (k:Nat):gT (r8 (aB g k)) (r8 (aB g (k+1))) :=
 ⟨by simp[r8,gL],λi h=>(Ci _ _).2 (iq ((Ci _ _).1 h) (by omega)).2⟩
theorem Ud {g:ag} {k:Nat} (h:r8 (aB g k)=r8 (aB g (k+1))):aB g (k+1)=aB g k:=by
 have hp:∀ m,bE (aB g (k+1)) m=bE (aB g k) m:=λm=>by
  by_cases a:bP (aB g k) m
  .exact CL a
  .have h1:¬ bP (aB g (k+1)) m:=λe=>a ((Ci _ _).1 (by rw[h];exact(Ci _ _).2 e))
   rw[pf a,pf h1]
 apply XL (by rw[gL,gL])
 intro m h1 b
 have:=hp m
 simpa [bE,Wo,h1,b] using this
theorem L1 {g:ag} {k:Nat} (hk:k<=cy (r8 (aB g k))):aB g (k+1)=aB g k∨k+1<=cy (r8 (aB g (k+1))):=by
 have:=(TS g k).cy
 by_cases e:cy (r8 (aB g k))=cy (r8 (aB g (k+1)))
 .exact .inl (Ud (this.2 e))
 .exact .inr (by omega)
theorem I7 (g:ag) (k:Nat):cy (r8 (aB g k))<=g.ax.length:=by
 have:=rQ (r8 (aB g k))
 simpa [r8,gL] using this
theorem CN {g:ag} {k:Nat} (h:aB g (k+1)=aB g k):∀ d,aB g (k+d)=aB g k
 | 0=>rfl
 | d+1=>by
  have a:=CN h d
  rw[<-W7,oz,a,<-oz,h]
def aA (g:ag):List bw:=aB g g.ax.length
theorem xZ (g:ag):(aA g).length=g.ax.length:=gL _ _
theorem RB {g:ag} {k:Nat} (hk:k<=g.ax.length) (h:aB g (k+1)=aB g k):aB g k=aA g:=by
 obtain⟨d,a⟩:∃ d,g.ax.length=k+d:=⟨g.ax.length - k,by omega⟩
 rw[aA,a,CN h d]
theorem tT {g:ag} {m:Nat} (h:bP (aA g) m):1<=(bE (aA g) m).bO/\(bE (aA g) m).bO<=g.ax.length:=⟨(gP g _ m h).1,(gP g _ m h).2.1⟩
theorem Aq {g:ag} {m:Nat} (h:bP (aA g) m):∃ (i:Nat) (r:aW),g.rules[i]?=some r/\r.left.toNat=m/\k8 (aA g) r.right/\bE (aA g) m=ie (aA g) i r /\
  ∀ (j:Nat) (a:aW),j < i->g.rules[j]?=some a->a.left.toNat=m->k8 (aA g) a.right->(bI (aA g) a.right bo).1.bO+1≠(bE (aA g) m).bO:=by
 obtain⟨k,hk,b,p,q⟩:=wy h
 obtain⟨i,r,hr,s,o,hp,e⟩:=lq q
 have c:∀ x∈r.right,x < 0->bE (aB g k) (cH x)=bE (aA g) (cH x):=λx d b=>((iq (o x d b) (by omega)).1).symm
 have t:bI (aB g k) r.right bo=bI (aA g) r.right bo:=BW _ _ c
 refine⟨i,r,hr,s,λx d b=>(iq (o x d b) (by omega)).2,?_,λj a u l n f he=>?_⟩
 .show bE (aB g g.ax.length) m=_
  rw[hp];unfold ie;rw[t,Xk]
 .have h1:(bE (aA g) m).bO=k+1:=p
  refine e j a u l n λx d b=>?_
  have v:=((jn (aA g) k a.right bo f).1 (by omega)).2 x d b
  exact(gP g _ _ (f x d b)).2.2 k (by omega) v
theorem E8 {P:List bw} {x:Int} {l:List Int} {s:bw} (h:0<=x):bI P (x :: l) s=bI P l ⟨s.av,s.bO,s.rules,min 1048576 (s.an+1)⟩:=by rw[bI,Wv h]
theorem HX {P:List bw} {x:Int} {l:List Int} {s:bw} (h:¬ 0<=x) (hk:¬ (bE P (cH x)).av < 0):bI P (x :: l) s=bI P l ⟨s.av,max s.bO (bE P (cH x)).bO,min 1048576 (s.rules+(bE P (cH x)).rules),min 1048576 (s.an+(bE P (cH x)).an)⟩:=by rw[bI,Ws h,Ws hk]
theorem P2 {P:List bw} {x:Int} {l:List Int} {s:bw} (h:¬ 0<=x) (hk:(bE P (cH x)).av < 0):bI P (x :: l) s=(s,false):=by rw[bI,Ws h,Wv hk]
def gm (p:bw):Prop:=(0<=p.rules/\p.rules<=1048576)/\(0<=p.an/\p.an<=1048576)
theorem rW {P:List bw} (a:∀ m,gm (bE P m)):∀ (l:List Int) (s:bw),gm s->gm (bI P l s).1
 | [],s,h=>h
 | x :: l,s,h=>by
  have b:=a (cH x)
  unfold gm at h b
  simp only[bI]
  split
  .exact rW a l _ (by unfold gm;simp only;omega)
  .split
   .exact h
   .exact rW a l _ (by unfold gm;simp only;omega)
theorem j8:gm bo:=by unfold gm;simp[bo]
theorem M5:gm mc:=by unfold gm;simp[mc]
theorem qb (g:ag):∀ k m,gm (bE (aB g k) m)
 | 0,m=>by
  have:bE (aB g 0) m=mc:=by
   simp only[aB,iter,bE,Wo,Xu]
   split <;> rfl
  rw[this];exact M5
 | k+1,m=>by
  by_cases h:bP (aB g (k+1)) m
  .by_cases a:bP (aB g k) m
   .rw[(iq a (Nat.le_succ k)).1];exact qb g k m
   .obtain⟨i,r,_,_,_,hp,_⟩:=lq (x7 a h)
    rw[hp]
    have:=rW (qb g k) r.right bo j8
    unfold gm at this ⊢
    simp only[ie];omega
  .rw[pf h];exact M5
def BA (g:ag) (i:Int):List Int:=(g.rules.getD i.toNat ⟨0,[],0⟩).right
def dJ (g:ag) (P:List bw):Nat->List Int->List Int
 | 0,l=>l.flatMap λx=>if 0<=x then [x] else []
 | f+1,l=>l.flatMap λx=>if 0<=x then [x] else dJ g P f (BA g (bE P (cH x)).av)
def eD (g:ag) (P:List bw):Nat->List Int->List Int
 | 0,_=>[]
 | f+1,l=>l.flatMap λx=>if 0<=x then [] else (bE P (cH x)).av :: eD g P f (BA g (bE P (cH x)).av)
def Bh (P:List bw) (f:Nat) (l:List Int):Prop:=∀ x∈l,x < 0->bP P (cH x)/\(bE P (cH x)).bO<=f
theorem ql (g:ag) (P:List bw) (f:Nat):dJ g P f []=[]:=by cases f <;> rfl
theorem tC (g:ag) (P:List bw) (f:Nat):eD g P f []=[]:=by cases f <;> rfl
theorem iw (g:ag) (P:List bw) (f:Nat) (a b:List Int):dJ g P f (a ++ b)=dJ g P f a ++ dJ g P f b:=by cases f <;> simp[dJ]
theorem jh (g:ag) (P:List bw) (f:Nat) (a b:List Int):eD g P f (a ++ b)=eD g P f a ++ eD g P f b:=by cases f <;> simp[eD]
theorem lE {g:ag} {P:List bw} {f:Nat} {x:Int} (h:0<=x):dJ g P f [x]=[x]:=by cases f <;> simp[dJ,h]
theorem od {g:ag} {P:List bw} {f:Nat} {x:Int} (h:0<=x):eD g P f [x]=[]:=by cases f <;> simp[eD,h]
theorem mZ {g:ag} {P:List bw} {f:Nat} {x:Int} (h:x < 0):dJ g P (f+1) [x]=dJ g P f (BA g (bE P (cH x)).av):=by
 simp[dJ,show ¬ 0<=x by omega]
theorem nt {g:ag} {P:List bw} {f:Nat} {x:Int} (h:x < 0):eD g P (f+1) [x]=(bE P (cH x)).av :: eD g P f (BA g (bE P (cH x)).av):=by
 simp[eD,show ¬ 0<=x by omega]
theorem DL {g:ag} {l:List Int} (h:Bh (aA g) 0 l):∀ x∈l,0<=x:=λx c=>by
 rcases Int.lt_or_le x 0 with h1 | h1
 .obtain⟨a,b⟩:=h x c h1
  have:=(tT a).1
  simp at b;omega
 .exact h1
theorem wH {g:ag} {f:Nat} {m:Nat} (h:bP (aA g) m) (d:(bE (aA g) m).bO<=(f:Int)+1):∃ (i:Nat) (r:aW),(bE (aA g) m).av=i/\g.rules[i]?=some r/\BA g (bE (aA g) m).av=r.right/\Bh (aA g) f r.right/\bE (aA g) m=ie (aA g) i r:=by
 obtain⟨i,r,hr,e,a,hp,_⟩:=Aq h
 have hi:(bE (aA g) m).av=i:=by rw[hp];rfl
 have j:(bE (aA g) m).bO=(bI (aA g) r.right bo).1.bO+1:=by rw[hp];rfl
 have h1:=((jn (aA g) f r.right bo a).1 (by omega)).2
 refine⟨i,r,hi,hr,?_,λx b c=>⟨a x b c,h1 x b c⟩,hp⟩
 rw[hi];simp[BA,Wo,hr]
theorem lF {g:ag} {f:Nat} (c:∀ x,x < 0->bP (aA g) (cH x)->(bE (aA g) (cH x)).bO<=f->(bE (aA g) (cH x)).rules=min 1048576 ((eD g (aA g) f [x]).length:Int)/\(bE (aA g) (cH x)).an=min 1048576 ((dJ g (aA g) f [x]).length:Int)) :
  ∀ (l:List Int) (s:bw),Bh (aA g) f l->gm s->(bI (aA g) l s).1.rules=min 1048576 (s.rules+(eD g (aA g) f l).length)/\(bI (aA g) l s).1.an=min 1048576 (s.an+(dJ g (aA g) f l).length)
 | [],s,_,d=>by
  unfold gm at d
  rw[ql,tC]
  simp only[bI,WW];omega
 | x :: l,s,hu,d=>by
  have a:Bh (aA g) f l:=λy i=>hu y (by simp[i])
  have e:=iw g (aA g) f [x] l
  have h:=jh g (aA g) f [x] l
  rw[List.singleton_append] at e h
  rw[e,h,WO,WO]
  have j:gm (bE (aA g) (cH x)):=qb g g.ax.length (cH x)
  unfold gm at d j
  by_cases b:0<=x
  .obtain⟨i1,i2⟩:=lF c l ⟨s.av,s.bO,s.rules,min 1048576 (s.an+1)⟩ a (by unfold gm;simp only;omega)
   rw[E8 b,i1,i2,lE b,od b]
   simp only[WD,WW]
   omega
  .obtain⟨hk,k⟩:=hu x (by simp) (by omega)
   obtain⟨m,k2⟩:=c x (by omega) hk k
   obtain⟨i1,i2⟩:=lF c l ⟨s.av,max s.bO (bE (aA g) (cH x)).bO,min 1048576 (s.rules+(bE (aA g) (cH x)).rules),min 1048576 (s.an+(bE (aA g) (cH x)).an)⟩ a (by unfold gm;simp only;omega)
   unfold bP at hk
   rw[HX b (by omega),i1,i2,m,k2]
   push_cast
   omega
theorem np (g:ag):∀ (f:Nat) (l:List Int) (s:bw),Bh (aA g) f l->gm s ->
  (bI (aA g) l s).1.rules=min 1048576 (s.rules+(eD g (aA g) f l).length)/\(bI (aA g) l s).1.an=min 1048576 (s.an+(dJ g (aA g) f l).length)
 | 0,l,s,hu,b=>lF (λx c hk a=>by have:=(tT hk).1;simp only[Int.natCast_zero] at a;omega) l s hu b
 | f+1,l,s,hu,b=>lF (λx c hk a=>by
   obtain⟨i,r,hi,hr,d,e,hp⟩:=wH (f:=f) hk (by push_cast at a;exact a)
   obtain⟨h,j⟩:=np g f r.right bo e j8
   have k:(bE (aA g) (cH x)).rules=min 1048576 ((bI (aA g) r.right bo).1.rules+1):=by rw[hp];rfl
   have k2:(bE (aA g) (cH x)).an=(bI (aA g) r.right bo).1.an:=by rw[hp];rfl
   rw[mZ c,nt c,d,k,k2,h,j]
   simp only[WD,bo]
   push_cast
   omega) l s hu b
theorem py {g:ag} {f:Nat} (a:∀ x,x < 0->(dJ g (aA g) f [x]).length<=6 * (eD g (aA g) f [x]).length):∀ (l:List Int),(dJ g (aA g) f l).length<=l.length+6 * (eD g (aA g) f l).length
 | []=>by rw[ql];simp
 | x :: l=>by
  have b:=iw g (aA g) f [x] l
  have c:=jh g (aA g) f [x] l
  rw[List.singleton_append] at b c
  rw[b,c,WO,WO]
  have e:=py a l
  by_cases d:0<=x
  .rw[lE d,od d]
   simp only[WD,WW];omega
  .have:=a x (by omega)
   simp only[WD];omega
theorem S3 {g:ag} (a:∀ r∈g.rules,r.right.length<=6) (i:Int):(BA g i).length<=6:=by
 simp only[BA,Wo]
 cases hr:g.rules[i.toNat]? with
 | none=>simp
 | some r=>simpa using a r (WI hr)
theorem E9 {g:ag} (b:∀ r∈g.rules,r.right.length<=6):∀ (f:Nat) (l:List Int),(dJ g (aA g) f l).length<=l.length+6 * (eD g (aA g) f l).length
 | 0,l=>py (λx a=>by simp[dJ,show ¬ 0<=x by omega]) l
 | f+1,l=>py (λx a=>by
  have i2:=E9 b f (BA g (bE (aA g) (cH x)).av)
  have:=S3 b (bE (aA g) (cH x)).av
  rw[mZ a,nt a]
  simp only[WD];omega) l
def dK (g:ag) (l:List Int):List Int × Int :=
 if (bq g && l.all (dZ g))=true then
  (if (bI (aA g) l bo).2=false then ([],9) else if 300 < (bI (aA g) l bo).1.rules∨60 < (bI (aA g) l bo).1.an then ([],13) else (dJ g (aA g) g.ax.length l,0))
 else ([],1)
inductive Ct (g:ag):List Int->List Int->List Int->Prop
 | nil:Ct g [] [] []
 | term (s:Int) (l t w:List Int):0<=s->Ct g l t w->Ct g (s :: l) t (s :: w)
 | dQ (s:Int) (l:List Int) (k:Nat) (R:aW) (t1 w1 t w:List Int):s < 0->g.rules[k]?=some R->R.left = -1 - s->Ct g R.right t1 w1->Ct g l t w->Ct g (s :: l) (((k:Int) :: t1) ++ t) (w1 ++ w)
theorem TX {g:ag} {l t w:List Int} (h:Ct g l t w):∀ (a b:List Int),Sp g (a ++ w ++ b) l a.length (a.length+w.length):=by
 induction h with
 | nil=>exact λa b=>.nil _
 | term s l t w c _ m =>
  intro a b
  refine .term s l a.length _ c ⟨s,by simp,.inl rfl⟩ ?_
  have:=m (a ++ [s]) b
  simp only[WO,WD,WW,Xk,Xp,Xh,Xt] at this ⊢
  rw[show a.length+(w.length+1)=a.length+1+w.length by omega]
  exact this
 | dQ s l k R t1 f t w c n o _ _ d e =>
  intro a b
  have i:=d a (w ++ b)
  have j:=e (a ++ f) b
  simp only[WO,Xp] at i j ⊢
  rw[<-W7]
  exact .dQ s l R a.length (a.length+f.length) _ c (WI n) o i j
theorem NM {g:ag} (a:∀ r∈g.rules,0<=r.left):∀ (f:Nat) (l:List Int),Bh (aA g) f l->Ct g l (eD g (aA g) f l) (dJ g (aA g) f l):=by
 intro f
 induction f with
 | zero =>
  intro l
  induction l with
  | nil=>intro _;rw[tC,ql];exact .nil
  | cons s l j =>
   intro h
   have b:=DL h s (by simp)
   have d:=jh g (aA g) 0 [s] l
   have e:=iw g (aA g) 0 [s] l
   rw[List.singleton_append] at d e
   rw[d,e,od b,lE b]
   exact .term s l _ _ b (j λx k=>h x (by simp[k]))
 | succ f m =>
  intro l
  induction l with
  | nil=>intro _;rw[tC,ql];exact .nil
  | cons s l j =>
   intro h
   have v:=j λx k=>h x (by simp[k])
   have d:=jh g (aA g) (f+1) [s] l
   have e:=iw g (aA g) (f+1) [s] l
   rw[List.singleton_append] at d e
   rw[d,e]
   by_cases b:0<=s
   .rw[od b,lE b]
    exact .term s l _ _ b v
   .obtain⟨hk,w⟩:=h s (by simp) (by omega)
    obtain⟨i,R,hi,n,o,p,z⟩:=wH (f:=f) hk (by push_cast at w;exact w)
    rw[nt (by omega),mZ (by omega),o,hi]
    have q:R.left = -1 - s:=by
     obtain⟨y,A,c,t,_,u,_⟩:=Aq hk
     have:(y:Int)=i:=by rw[<-hi,u];rfl
     have:y=i:=by omega
     subst this
     rw[n] at c
     simp at c;subst c
     have:=a R (WI n)
     unfold cH at t
     omega
    exact .dQ s l i R _ _ _ _ (by omega) n q (m R.right p) v
theorem OK {g:ag} (d:∀ r∈g.rules,∀ s∈r.right,dZ g s=true) {l t w:List Int} (h:Ct g l t w):(∀ s∈l,dZ g s=true)->∀ x∈w,0<=x/\x < g.an.length:=by
 induction h with
 | nil=>simp
 | term s l t w e _ m =>
  intro c x a
  rcases WK.1 a with rfl | a
  .have:=c x (by simp)
   unfold dZ at this
   rw[Wv e] at this
   exact⟨e,by simpa using this⟩
  .exact m (λs d=>c s (by simp[d])) x a
 | dQ s l k R t1 o t w e n c _ _ f i =>
  intro c x a
  rcases WN.1 a with a | a
  .exact f (λj b=>d R (WI n) j b) x a
  .exact i (λj b=>c j (by simp[b])) x a
theorem UC:tg.Ok:=by
 refine⟨by unfold aC;decide,by unfold aC;decide,by unfold aC;decide,by unfold ba;decide,?_,?_⟩
 .intro t a;simp[tg] at a
 .intro r hr;simp[tg] at hr
section
variable {g r:ag} {p q:List Bool} {o:List Int}
end
theorem bytes_beq (a b:ByteArray):(a == b)=decide (a=b):=by
 cases a with | mk a=>cases b with | mk b =>
 rw[Xm]
 show (ByteArray.beq ⟨a⟩ ⟨b⟩=true)↔_
 simp only[ByteArray.beq]
 simp
theorem NA (a b:ByteArray):iX a b=decide (a=b):=by
 cases a with | mk a=>cases b with | mk b =>
 rw[Xm]
 simp[iX]
theorem zA {α:Type} {a b:List α} {i:Nat} {x y:α} (c:a[i]?=some x) (d:b[i]?=some y) (h:a.take i=b.take i) (e:x=y):a.take (i+1)=b.take (i+1):=by
 rw[WY,WY,h,c,d,e]
theorem Bq {α:Type} {a b:List α} {i:Nat} (c:a.length<=i) (d:b.length<=i) (h:a.take i=b.take i):a=b:=by
 rwa [WT c,WT d] at h
theorem FX {α:Type} {a b:List α} {i:Nat} {x y:α} (d:a[i]?=some x) (c:b[i]?=some y) (e:x≠y):a≠b:=by
 rintro rfl;rw[d] at c;exact e (by simpa using c)
theorem Cl {α:Type} {a b:List α} (h:¬ a.length=b.length):a≠b:=λe=>h (by rw[e])
theorem I3 (x y:Term):gp Tryz.prog 9998 #[.string x.name,.int .i64 x.level,.int .i64 x.assoc] #[.string y.name,.int .i64 y.level,.int .i64 y.assoc]
  [{ name:= "Name",type:=9,offset:=0,embedded:=false,tag:= "",pkgPath:= "",byteOffset:=0 },{ name:= "Level",type:=3,offset:=1,embedded:=false,tag:= "",pkgPath:= "",byteOffset:=16 },
   { name:= "Assoc",type:=3,offset:=2,embedded:=false,tag:= "",pkgPath:= "",byteOffset:=24 }] (x.name == y.name && (x.level == y.level && (x.assoc == y.assoc && true))) :=
 .str _ _ _ _ _ (by decide) Tryz.underlying9 rfl rfl (.int _ _ _ _ _ _ (by decide) Tryz.underlying3 rfl rfl (.int _ _ _ _ _ _ (by decide) Tryz.underlying3 rfl rfl .nil))
theorem SK (x y:Term):(x.name == y.name && (x.level == y.level && (x.assoc == y.assoc && true)))=decide (x=y):=by
 rw[bytes_beq,Xm]
 cases x;cases y
 simp
theorem Tw (a b:Int):(a == b)=decide (a=b):=by rw[Xm];simp
theorem Ro (x y:aW):decide (x=y)=(decide (x.left=y.left) && (decide (x.prec=y.prec) && decide (x.right=y.right))):=by
 cases x;cases y
 rw[Xm]
 simp[and_comm]
theorem Ru (x y:ag):decide (x=y)=(decide (x.an=y.an) && (decide (x.ax=y.ax) && (decide (x.rules=y.rules) && decide (x.start=y.start)))):=by
 cases x;cases y
 rw[Xm]
 simp
theorem OY (g k:ag):∀ v∈[V.agg (ak g),V.agg (ak k)],Tree v:=by
 intro v a;simp at a
 rcases a with rfl | rfl <;> exact cX _ (cQ _)
def gw:SC :=
 ai [af [aZ 14 .lss 13 12],cp 14 (.exit 0),.block 1 (ai [af [aa 15 13,aa 5 15],af [aa 16 0,aa 17 5,aY 18 3 16 17,bj 19 3 18,aa 20 1,aa 21 5,aY 22 3 20 21,bj 23 3 22,((some 24),.op (.old (.binOp .neq 130 (.tmp 19) (.tmp 23) 130) 4))],bf 24 (ai [af [bc 4 false],.ret])]),af [aF 25 .add 13 1,aa 13 25]]
def hU:SF:=⟨ai [af [bc 4 false],ai [af [aa 6 0,aQ 7 6,aa 8 1,aQ 9 8,aZ 10 .neq 7 9],bf 10 (ai [af [bc 4 false],.ret])],ai [af [aa 11 0,aQ 12 11,bb 13 0],cz 0 gw],af [bc 4 true],.ret],
 [.tmp 4],26⟩
theorem kF:aG Tryz.prog 203 []=some hU:=by kernel_rfl
def iy:SC :=
 ai [af [aZ 14 .lss 13 12],cp 14 (.exit 0),.block 1 (ai [af [aa 15 13,aa 5 15],af [aa 16 0,aa 17 5,aY 18 1 16 17,au 19 18,aa 20 1,aa 21 5,aY 22 1 20 21,au 23 22,((some 24),.op (.yo .neq (.tmp 19) (.tmp 23)))],bf 24 (ai [af [bc 4 false],.ret])]),af [aF 25 .add 13 1,aa 13 25]]
def iP:SF:=⟨ai [af [bc 4 false],ai [af [aa 6 0,aQ 7 6,aa 8 1,aQ 9 8,aZ 10 .neq 7 9],bf 10 (ai [af [bc 4 false],.ret])],ai [af [aa 11 0,aQ 12 11,bb 13 0],cz 0 iy],af [bc 4 true],.ret],
 [.tmp 4],26⟩
theorem lW:aG Tryz.prog 204 []=some iP:=by kernel_rfl
def jU:SC :=
 ai [af [aZ 14 .lss 13 12],cp 14 (.exit 0),.block 1 (ai [af [aa 15 13,aa 5 15],af [aa 16 0,aa 17 5,aY 18 1 16 17,au 19 18,aa 20 1,aa 21 5,aY 22 1 20 21,au 23 22,aZ 24 .neq 19 23],bf 24 (ai [af [bc 4 false],.ret])]),af [aF 25 .add 13 1,aa 13 25]]
def kN:SF:=⟨ai [af [bc 4 false],ai [af [aa 6 0,aQ 7 6,aa 8 1,aQ 9 8,aZ 10 .neq 7 9],bf 10 (ai [af [bc 4 false],.ret])],ai [af [aa 11 0,aQ 12 11,bb 13 0],cz 0 jU],af [bc 4 true],.ret],
 [.tmp 4],26⟩
theorem pC:aG Tryz.prog 254 []=some kN:=by kernel_rfl
def zR:SF:=⟨ai [af [cJ 2 0,cJ 3 1,bc 4 false],.region false [⟨none,[ay 5 0 2,au 6 5,ay 7 0 3,au 8 7,aZ 9 .eql 6 8,aa 10 9]⟩,⟨(some (10,true)),[ay 11 2 2,au 12 11,ay 13 2 3,au 14 13,aZ 15 .eql 12 14]⟩,⟨none,[fe 16 10 15,aa 17 16]⟩,⟨(some (17,true)),[ay 18 1 2,au 19 18,ay 20 1 3,au 21 20,aT 22 254 [19,21]]⟩,⟨none,[fe 23 17 22,aa 4 23]⟩],.ret],
 [.tmp 4],24⟩
theorem DE:aG Tryz.prog 206 [2,3]=some zR:=by kernel_rfl
def dm:SC :=
 ai [af [aZ 18 .lss 17 16],cp 18 (.exit 0),.block 1 (ai [af [aa 19 17,aY 20 3 15 17,bj 21 3 20,((some 8),.op (.alloc [(.val (.int .i64 0)),(.emp 1),(.val (.int .i64 0))])),aa 7 19,df 3 8 21],af [aa 22 1,aa 23 7,aY 24 3 22 23,bj 25 3 24,((some 9),.op (.alloc [(.val (.int .i64 0)),(.emp 1),(.val (.int .i64 0))])),df 3 9 25],af [aa 26 2,bj 27 3 8,bj 28 3 9,((some 29),.call (.tmp 26) [(.tmp 27),(.tmp 28)]),cW 30 29],bf 30 (ai [af [bc 6 false],.ret])]),af [aF 31 .add 17 1,aa 17 31]]
def dt:SF:=⟨ai [af [bc 6 false],ai [af [aa 10 0,aQ 11 10,aa 12 1,aQ 13 12,aZ 14 .neq 11 13],bf 14 (ai [af [bc 6 false],.ret])],ai [af [aa 15 0,aQ 16 15,bb 17 0],cz 0 dm],af [bc 6 true],.ret],
 [.tmp 6],32⟩
theorem fB:aG Tryz.prog 205 []=some dt:=by kernel_rfl
def Ck:SF:=⟨ai [af [cJ 2 0,cJ 3 1,bc 4 false],.region false [⟨none,[ay 5 0 2,au 6 5,ay 7 0 3,au 8 7,aT 9 203 [6,8],aa 10 9]⟩,⟨(some (10,true)),[ay 11 1 2,au 12 11,ay 13 1 3,au 14 13,aT 15 204 [12,14]]⟩,⟨none,[fe 16 10 15,aa 17 16]⟩,⟨(some (17,true)),[ay 18 2 2,au 19 18,ay 20 2 3,au 21 20,nr 22 205 [(.tmp 19),(.tmp 21),(.val (.fn 206 [] []))]]⟩,⟨none,[fe 23 17 22,aa 24 23]⟩,⟨(some (24,true)),[ay 25 3 2,au 26 25,ay 27 3 3,au 28 27,aZ 29 .eql 26 28]⟩,⟨none,[fe 30 24 29,aa 4 30]⟩],.ret],
 [.tmp 4],31⟩
theorem FF:aG Tryz.prog 143 [2,3]=some Ck:=by kernel_rfl
theorem OE {α:Type} {f g:α->List V} {a b:List α} (d:∀ x,∀ v∈f x,Tree v) (e:∀ x,∀ v∈g x,Tree v):∀ v∈[V.aL (a.map f),V.aL (b.map g)],Tree v:=by
 intro v c;simp at c
 rcases c with rfl | rfl
 .exact eK _ _ λx _=>d x
 .exact eK _ _ λx _=>e x
theorem ON (a b:List Term) (l:aC a) (H:View):ao Tryz.prog 203 [.aL (a.map dp),.aL (b.map dp)] H λr _=>r=gb (decide (a=b)):=by
 refine ao.of mixed kF ?_
 unfold aC at l
 simp(disch:=omega)only[↓wr,seval,wq,hU]
 apply aj.ne<;>intro h
 .simp(disch:=omega)only[↓wr,seval,wq]
  rw[decide_eq_false (Cl (by omega))]
 .simp(disch:=omega)only[↓wr,seval,wq]
  refine bk.up a.length (λi T _=>a.take i=b.take i/\T 0=.aL (a.map dp)/\T 1=.aL (b.map dp)/\T 12=gi a.length/\T 13=gi i) ⟨by simp,rfl,rfl,rfl,rfl⟩ ?_
  rintro i k T H hk ⟨hi,c,h1,d,f⟩
  simp(disch:=omega)only[↓wr,seval,wq,gw,c,h1,d,f]
  apply aj.dec<;>intro m
  .have g:a[i]?=some (a[i]'(by omega)):=Wp (by omega)
   have j:b[i]?=some (b[i]'(by omega)):=Wp (by omega)
   generalize a[i]'(by omega)=x at g
   generalize b[i]'(by omega)=y at j
   simp(disch:=omega)only[↓wr,seval,wq,c,h1,d,f,Ww,g,j,dp]
   refine tZ (xs:=#[.string x.name,.int .i64 x.level,.int .i64 x.assoc]) (ys:=#[.string y.name,.int .i64 y.level,.int .i64 y.assoc]) Tryz.underlying130 (by kernel_rfl) (by kernel_rfl) ?_ ?_ (I3 x y) (.inr ⟨rfl,rfl⟩) ?_
   .rfl
   .rfl
   rw[SK]
   simp(disch:=omega)only[↓wr,seval,wq,c,h1,d,f]
   apply aj.split<;>intro e
   .simp(disch:=omega)only[↓wr,seval,wq,c,h1,d,f]
    exact aJ hk (by omega) ⟨zA g j hi (by simpa using e),c,h1,d,rfl⟩
   .simp(disch:=omega)only[↓wr,seval,wq,c,h1,d,f]
    rw[decide_eq_false (FX g j (by simpa using e))]
  .simp(disch:=omega)only[↓wr,seval,wq,c,h1,d,f]
   rw[Xc (Bq (by omega) (by omega) hi)]
theorem M1 (a b:List ByteArray) (l:aC a) (H:View):ao Tryz.prog 204 [encS a,encS b] H λr _=>r=gb (decide (a=b)):=by
 refine ao.of mixed lW ?_
 unfold aC at l
 simp(disch:=omega)only[↓wr,seval,wq,iP,encS]
 apply aj.ne<;>intro h
 .simp(disch:=omega)only[↓wr,seval,wq]
  rw[decide_eq_false (Cl (by omega))]
 .simp(disch:=omega)only[↓wr,seval,wq]
  refine bk.up a.length (λi T _=>a.take i=b.take i/\T 0=encS a/\T 1=encS b/\T 12=gi a.length/\T 13=gi i) ⟨by simp,rfl,rfl,rfl,rfl⟩ ?_
  rintro i k T H hk ⟨hi,c,h1,d,f⟩
  simp(disch:=omega)only[↓wr,seval,wq,iy,c,h1,d,f,encS]
  apply aj.dec<;>intro m
  .have g:a[i]?=some (a[i]'(by omega)):=Wp (by omega)
   have j:b[i]?=some (b[i]'(by omega)):=Wp (by omega)
   generalize a[i]'(by omega)=x at g
   generalize b[i]'(by omega)=y at j
   simp(disch:=omega)only[↓wr,seval,wq,c,h1,d,f,encS,Ww,g,j,NA]
   apply aj.split<;>intro e
   .simp(disch:=omega)only[↓wr,seval,wq,c,h1,d,f]
    exact aJ hk (by omega) ⟨zA g j hi (by simpa using e),c,h1,d,rfl⟩
   .simp(disch:=omega)only[↓wr,seval,wq,c,h1,d,f]
    rw[decide_eq_false (FX g j (by simpa using e))]
  .simp(disch:=omega)only[↓wr,seval,wq,c,h1,d,f]
   rw[Xc (Bq (by omega) (by omega) hi)]
theorem Nc (a b:List Int) (l:aC a) (H:View):ao Tryz.prog 254 [encI a,encI b] H λr _=>r=gb (decide (a=b)):=by
 refine ao.of mixed pC ?_
 unfold aC at l
 simp(disch:=omega)only[↓wr,seval,wq,kN,encI]
 apply aj.ne<;>intro h
 .simp(disch:=omega)only[↓wr,seval,wq]
  rw[decide_eq_false (Cl (by omega))]
 .simp(disch:=omega)only[↓wr,seval,wq]
  refine bk.up a.length (λi T _=>a.take i=b.take i/\T 0=encI a/\T 1=encI b/\T 12=gi a.length/\T 13=gi i) ⟨by simp,rfl,rfl,rfl,rfl⟩ ?_
  rintro i k T H hk ⟨hi,c,h1,d,f⟩
  simp(disch:=omega)only[↓wr,seval,wq,jU,c,h1,d,f,encI]
  apply aj.dec<;>intro m
  .have g:a[i]?=some (a[i]'(by omega)):=Wp (by omega)
   have j:b[i]?=some (b[i]'(by omega)):=Wp (by omega)
   generalize a[i]'(by omega)=x at g
   generalize b[i]'(by omega)=y at j
   simp(disch:=omega)only[↓wr,seval,wq,c,h1,d,f,encI,Ww,g,j]
   apply aj.ne<;>intro e
   .simp(disch:=omega)only[↓wr,seval,wq,c,h1,d,f]
    rw[decide_eq_false (FX g j e)]
   .simp(disch:=omega)only[↓wr,seval,wq,c,h1,d,f]
    exact aJ hk (by omega) ⟨zA g j hi e,c,h1,d,rfl⟩
  .simp(disch:=omega)only[↓wr,seval,wq,c,h1,d,f]
   rw[Xc (Bq (by omega) (by omega) hi)]
theorem Oh (a b:List Term) (c:aC a):az Tryz.prog 203 [.aL (a.map dp),.aL (b.map dp)] (gb (decide (a=b))):=az.val (OE sZ sZ) (ON a b c)
theorem OP (a b:List ByteArray) (d:aC a):az Tryz.prog 204 [encS a,encS b] (gb (decide (a=b))):=az.val (by
 intro v c;simp at c
 rcases c with rfl | rfl <;> exact xQ _) (M1 a b d)
theorem Py (a b:List Int) (d:aC a):az Tryz.prog 254 [encI a,encI b] (gb (decide (a=b))):=az.val (by
 intro v c;simp at c
 rcases c with rfl | rfl <;> exact aX _) (Nc a b d)
theorem Q9 (x y:aW) (b:aC x.right):az Tryz.prog 206 [.agg (aU x),.agg (aU y)] (gb (decide (x=y))):=by
 refine az.val (by
  intro v a;simp at a
  rcases a with rfl | rfl <;> exact cX _ (gI _)) λH=>?_
 rw[Ro]
 refine ao.of mixed DE ?_
 simp(disch:=omega)only[↓wr,seval,wq,zR,aU,encI]
 repeat' (first | ((first|apply aj.dec|apply aj.eq|apply aj.ne|apply aj.split)<;>intro)|(refine aq.pure (Py x.right y.right b) ?_)|(simp(disch:=omega)only[↓wr,seval,wq,aU]))
 all_goals simp[*]
theorem Gs (a b:List aW) (s:aC a) (hr:∀ r∈a,aC r.right) (H:View):ao Tryz.prog 205 [.aL (a.map aU),.aL (b.map aU),.fn 206 [] []] H λr _=>r=gb (decide (a=b)):=by
 refine ao.of mixed fB ?_
 unfold aC at s
 simp(disch:=omega)only[↓wr,seval,wq,dt]
 apply aj.ne<;>intro h
 .simp(disch:=omega)only[↓wr,seval,wq]
  rw[decide_eq_false (Cl (by omega))]
 .simp(disch:=omega)only[↓wr,seval,wq]
  refine bk.up a.length (λi T _=>a.take i=b.take i/\T 15=.aL (a.map aU)/\T 1=.aL (b.map aU)/\T 2=.fn 206 [] []/\T 16=gi a.length/\T 17=gi i) ⟨by simp,rfl,rfl,rfl,rfl,rfl⟩ ?_
  rintro i k T H hk ⟨hi,c,h1,d,f,g⟩
  simp(disch:=omega)only[↓wr,seval,wq,dm,c,h1,d,f,g]
  apply aj.dec<;>intro t
  .have j:a[i]?=some (a[i]'(by omega)):=Wp (by omega)
   have l:b[i]?=some (b[i]'(by omega)):=Wp (by omega)
   have hm:a[i]'(by omega)∈a:=WA _
   generalize a[i]'(by omega)=x at j hm
   generalize b[i]'(by omega)=y at l
   have p:=hr x hm
   simp(disch:=omega)only[↓wr,seval,wq,c,h1,d,f,g,Ww,j,l,aU,encI]
   intro n u
   try simp(disch:=omega)only[↓wr,seval,wq,c,h1,d,f,g,Ww,j,l,aU,encI]
   intro m q
   have o:=(dg q dG).1
   try simp(disch:=omega)only[↓wr,seval,wq,c,h1,d,f,g,Ww,j,l,aU,encI,o,o.symm]
   refine aq.pure (Q9 x y p) ?_
   simp(disch:=omega)only[↓wr,seval,wq,c,h1,d,f,g]
   apply aj.split<;>intro e
   .simp(disch:=omega)only[↓wr,seval,wq,c,h1,d,f,g]
    exact aJ hk (by omega) ⟨zA j l hi (by simpa using e),c,h1,d,f,rfl⟩
   .simp(disch:=omega)only[↓wr,seval,wq,c,h1,d,f,g]
    rw[decide_eq_false (FX j l (by simpa using e))]
  .simp(disch:=omega)only[↓wr,seval,wq,c,h1,d,f,g]
   rw[Xc (Bq (by omega) (by omega) hi)]
theorem G8 (a b:List aW) (d:aC a) (hr:∀ r∈a,aC r.right):az Tryz.prog 205 [.aL (a.map aU),.aL (b.map aU),.fn 206 [] []] (gb (decide (a=b))):=az.val (by
 intro v c;simp at c
 rcases c with rfl | rfl | rfl
 .exact eK _ _ λx _=>gI x
 .exact eK _ _ λx _=>gI x
 .exact D2 (by simp) (by simp)) (Gs a b d hr)
theorem RG (g k:ag) (a:g.Ok):az Tryz.prog 143 [.agg (ak g),.agg (ak k)] (gb (decide (g=k))):=by
 refine az.val (OY g k) λH=>?_
 rw[Ru]
 refine ao.of mixed FF ?_
 simp(disch:=omega)only[↓wr,seval,wq,Ck,ak,encS]
 repeat' (first | ((first|apply aj.dec|apply aj.eq|apply aj.ne|apply aj.split)<;>intro)|(refine aq.pure (Oh g.an k.an a.an) ?_)|(refine aq.pure (OP g.ax k.ax a.ax) ?_)|(refine aq.pure (G8 g.rules k.rules a.rules (λr hr=>(a.av r hr).2.2.1)) ?_)|(simp(disch:=omega)only[↓wr,seval,wq,ak,encS]))
 all_goals simp_all [Tw]
def EY:SF:=⟨ai [af [cJ 1 0,bc 2 false],af [bj 7 4 1,aT 8 92 [7],aa 6 8,dO 9 0 6,dO 10 1 6,dO 11 2 6,((some 3),.op (.alloc [(.emp 1),(.emp 1),(.emp 1),(.val (.int .i64 0))])),df 4 3 9,aa 4 10,aa 5 11],.region false [⟨none,[aa 12 5,aF 13 .eql 12 0,aa 14 13]⟩,⟨(some (14,true)),[bj 15 4 1,bj 16 4 3,aT 17 143 [15,16]]⟩,⟨none,[fe 18 14 17,aa 2 18]⟩],.ret],
 [.tmp 2],19⟩
theorem Iv:aG Tryz.prog 82 [1]=some EY:=by kernel_rfl
theorem NI (g:ag) (a:g.Ok) (b:g.Small):az Tryz.prog 82 [.agg (ak g)] (gb (isRed g)):=by
 refine az.val (eR g) λH=>?_
 refine ao.of mixed Iv ?_
 simp(disch:=omega)only[↓wr,seval,wq,EY,ak,encS]
 refine aq.pure (LN g a b).pure ?_
 unfold isRed
 generalize mJ g=x
 obtain⟨k,il,e⟩:=x
 simp(disch:=omega)only[↓wr,seval,wq,DP,ak,encS]
 intro n c
 apply aj.eq<;>intro h
 .simp(disch:=omega)only[↓wr,seval,wq,DP,ak,encS]
  refine aq.pure (RG g k a) ?_
  simp(disch:=omega)only[↓wr,seval,wq]
  simp[h]
 .simp(disch:=omega)only[↓wr,seval,wq]
  simp[h]
def UW:ag:=⟨[⟨⟨#[39,97,39]⟩,0,0⟩,⟨⟨#[39,98,39]⟩,0,0⟩,⟨⟨#[39,99,39]⟩,0,0⟩,⟨⟨#[39,100,39]⟩,0,0⟩],[⟨#[115]⟩,⟨#[117]⟩,⟨#[118]⟩],[⟨0,[0,(-2)],0⟩,⟨0,[1],1⟩,⟨0,[],(-1)⟩,⟨1,[(-2),2],2⟩,⟨2,[3,(-1)],3⟩],0⟩
def Uj:ag:=⟨UW.an,[⟨#[115]⟩],[⟨0,[1],1⟩,⟨0,[],(-1)⟩],0⟩
theorem o8:isRed Uj=true:=by kernel_rfl
def qm:SF:=⟨ai [af [b7 2 1],af [b7 3 2,aa 4 0,iR 5 1 8 3 4,aa 2 5],.ret],
 [.tmp 2],6⟩
theorem uj:aG Tryz.prog 37 []=some qm:=by kernel_rfl
theorem NC (l:List Int) (d:l.length<=100000) (H:View):ao Tryz.prog 37 [encI l] H λr H'=>aH H' r 1 (aM l)/\cM H H' r:=by
 refine ao.of mixed uj ?_
 simp(disch:=omega)only[↓wr,seval,wq,qm,encI]
 refine iv (H:=H) .nil (by simp[aE]) (by unfold aD;simp;omega) (by unfold aD;simp;omega) ?_
 intro u' H' c a
 simp(disch:=omega)only[↓wr,seval,wq]
 exact⟨c,λid b=>a id b (by simp[owner])⟩
theorem du.fr {h:Heap} {v t:V} (f:du h v t):Fr h v t:=by
 induction f with
 | val v=>exact .tree _ (.val _)
 | emp k=>exact .emp k
 | sl id off len esz z es es' h1 c d e _ b=>exact .sl id off len esz z es es' h1 c d e b
 | agg cs a h1 _ b=>exact .agg cs a h1 b
 | aO cs a h1 _ b=>exact .aO cs a h1 b
end Gv
