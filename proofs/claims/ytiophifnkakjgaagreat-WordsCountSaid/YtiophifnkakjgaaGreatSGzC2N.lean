/-
  Part 14 of the proof: what the machine does and what the functions answer.
  Conditions: those that each lemma names.
-/
import Derived.Test.YtiophifnkakjgaaGreatSGzC2M
set_option linter.unusedSimpArgs false
set_option linter.unusedVariables false
set_option maxRecDepth 100000
set_option maxHeartbeats 20000000
namespace Gv
open Go Go.Proofs
section
variable {g r:ai} {p q:List Bool} {o:List Int}
theorem EW {o l:List Int} {s:Int} {b:List Int} (e:l.map (λs=>if s < 0 then -1 - aL o (-1 - s) else s)=s :: b):∃ t a,l=t :: a/\(if t < 0 then -1 - aL o (-1 - t) else t)=s/\a.map (λs=>if s < 0 then -1 - aL o (-1 - s) else s)=b:=by
 cases l with
 | nil=>simp at e
 | cons t a=>rw[Pa] at e;exact⟨t,a,rfl,(List.cons.inj e).1,(List.cons.inj e).2⟩
theorem cx.L6 (h:cx g p q o r) {w m:List Int} {i j:Nat} (c:Sp r w m i j):∀ l:List Int,(∀ s∈l,s < 0->-1 - s∈o)->l.map (λs=>if s < 0 then -1 - aL o (-1 - s) else s)=m->Sp g w l i j:=by
 induction c with
 | nil =>
  intro l _ e
  have:l=[]:=List.map_eq_nil_iff.1 e
  subst this;exact .nil _
 | term s m i j B F _ G =>
  intro l d e
  obtain⟨t,f,rfl,b,u⟩:=EW e
  have n:0<=t:=by
   refine Pd λC=>?_
   rw[OM (by omega)] at b
   have:=(iN (d t (by simp) (by omega))).1
   omega
  rw[OK (by omega)] at b
  subst b
  exact .term t f i j B F (G f (λs c=>d s (by simp[c])) u)
 | cq s m H i k j B D hle _ _ v x =>
  intro l d e
  obtain⟨t,f,rfl,b,u⟩:=EW e
  have n:t < 0:=Pd λC=>by
   rw[OK C] at b;omega
  rw[OM n] at b
  have y:=d t (by simp) n
  rw[h.rules] at D
  obtain⟨R,z,rfl⟩:=O9.1 D
  have a:=PC.1 z
  have hk:=h.kept R a.1 a.2
  have E:aL o R.left = -1 - s:=hle
  have A:R.left = -1 - t:=h.inj _ hk.1 _ y (by omega)
  exact .cq t f R i k j n a.1 A (v R.right hk.2 rfl) (x f (λs c=>d s (by simp[c])) u)
theorem cx.Lv (h:cx g p q o r) {w:List Int} {i j:Nat} (a:Sp r w [-1 - r.start] i j):Sp g w [-1 - g.start] i j:=by
 have b:=az h.right
 have c:=b.fF
 refine h.L6 a [-1 - g.start] (λs a _=>?_) ?_
 .simp at a;subst a
  rw[show -1 - (-1 - g.start)=g.start by omega]
  exact h.start
 .rw[Pa,PQ,OM (by omega),show -1 - (-1 - g.start)=g.start by omega,<-h.um]
theorem cx.wd (h:cx g p q o r) {k:Nat} {w:List Int} : dg g [-1 - g.start] k w↔dg r [-1 - r.start] k w :=
 ⟨λ⟨h1,a,b⟩=>⟨h1,a,h.JH b⟩,λ⟨h1,a,b⟩=>⟨h1,a,h.Lv b⟩⟩
end
theorem KX {g:ai} (hr:aA g=true) {w l:List Int} {i j:Nat} (h:Sp g w l i j):(∀ x∈w,0<=x)->(∀ s∈l,eO g s=true)->∀ n,i<=n->n < j->w.getD n 0 < g.ao.length:=by
 have v:=az hr
 induction h with
 | nil=>intro _ _ n h1 d;omega
 | term s l i j t f _ y =>
  intro hw b n h1 d
  by_cases e:n=i
  .subst e
   obtain⟨c,u,a⟩:=f
   have hm:=hw c (O2 u)
   have m:=b s (by simp)
   unfold eO at m
   rw[OM t] at m
   simp only[OT] at m
   rw[OH,u,OS]
   rcases a with rfl | rfl <;> omega
  .exact y hw (λs a=>b s (by simp[a])) n (by omega) d
 | cq s l R i k j t z hle h1 d o p =>
  intro hw b n q r
  by_cases e:n < k
  .exact o hw (v.sym R z) n q e
  .exact p hw (λs a=>b s (by simp[a])) n (by omega) r
theorem zx:∀ a:List Int,pV a a=false
 | []=>rfl
 | a :: l=>by rw[pV,OM rfl];exact zx l
theorem Gf {fit:List Int->Bool} {T k:Nat} : (eN fit T k []).Nodup:=(vL k []).imp λ{a b} h e=>by
 subst e
 rw[zx] at h
 exact Bool.noConfusion h
theorem wg {g:ai} (hr:aA g=true) {k:Nat} (hk:k<=60) {w:List Int} : w∈eN (dC g) g.ao.length k []↔dg g [-1 - g.start] k w:=by
 have f:=az hr
 constructor
 .intro hw
  obtain⟨h1,s,e,a,b⟩:=jY _ _ _ hw
  rw[PK] at e
  subst e
  have h:=(mq hr w).1 h1
  rw[a] at h
  exact⟨a,λx c=>(b x c).1,h⟩
 .rintro⟨h1,a,b⟩
  have j:=KX hr b a (λs i=>by
   simp at i;subst i
   have:=f.fF;have:=f.start
   unfold eO
   rw[OK (by omega)]
   simp only[OT]
   omega)
  have d:vx g w=true:=by
   unfold vx KJ
   rw[hr,PO (by omega)]
   simp only[Pz,O7,OO,OT]
   intro x c
   obtain⟨n,l,e⟩:=Ql c
   have:=j n (PL _) (by omega)
   rw[OH,OI l,OS,e] at this
   exact⟨a x c,this⟩
  have:=(Gd d).1 ((mq hr w).2 (by rw[h1];exact b))
  rwa [h1] at this
theorem Gz {g:ai} (hr:aA g=true) {k:Nat} (hk:k<=60) (he:(cX g).2.2≠0):eN (dC g) g.ao.length k []=[]:=by
 have c:=az hr
 cases d:eN (dC g) g.ao.length k [] with
 | nil=>rfl
 | cons w L =>
  exfalso
  obtain⟨_,_,e⟩:=(wg hr hk).1 (show w∈eN (dC g) g.ao.length k [] by rw[d];simp)
  have a:=yR hr e
  rw[mr] at a
  have b:=a (-1 - g.start) (by simp) (by have:=c.fF;omega)
  rw[show (-1 - (-1 - g.start))=g.start by omega] at b
  rw[eD hr,OM b] at he
  exact he rfl
theorem Dd {g h:ai} {p q:List Bool} {o:List Int} (a:cx g p q o h) (l:gM h=0) {k:Nat} (hk:k<=60) {d:Nat} (f:bj (cd h (dZ h) (k+1)) [-1 - h.start] k=some d) :
  (eN (dC g) g.ao.length k []).length<=d/\(d≠0->eN (dC g) g.ao.length k []≠[]):=by
 have i:=B2 a.isRed l
 obtain⟨_,_,m,r⟩:=yL i (k+1)
 have s:xA h (cd h (dZ h) (k+1)) (k+1) λ_=>False:=λn A b=>by
  rcases b with b | b
  .by_cases t:A < h.af.length
   .exact r n A b t
   .refine .none λw hw=>?_
    obtain⟨R,c,v,_⟩:=(vl (by omega)).1 hw
    have:=i.left R c
    omega
  .exact absurd b.2 (λh=>h)
 have j:=qE s [-1 - h.start] k (.inl (by omega))
 rw[f] at j
 refine⟨j _ Gf λw hw=>a.wd.1 ((wg a.right hk).1 hw),λu e=>?_⟩
 obtain⟨w,hw⟩:=pb m [-1 - h.start] k (by rw[f];simpa using u)
 have:=(wg a.right hk).2 (a.wd.2 hw)
 rw[e] at this
 simp at this
theorem Hy {d n:Nat} (a:d < dO) (h1:n<=d) (j:d≠0->n≠0):1 < (cB d).length∨((cB d).length=0/\n=0)∨((cB d).length=1/\(cB d).getD 0 0=d/\n<=d/\n≠0):=by
 have g:d < LB ^ 70:=by rw[rl] at a;exact O0 a (PF (by decide) (by decide))
 have i:=mX a
 have b:=ka g 1
 have c:=pr g 0
 rcases Pn 1 (cB d).length with h | h
 .exact .inl h
 .by_cases e:(cB d).length=0
  .right;left
   have:=i.1 e
   omega
  .right;right
   have f:d≠0:=λh=>e (i.2 h)
   refine⟨by omega,?_,h1,j f⟩
   rw[c,Nat.pow_zero,Nat.div_one]
   have:=b.1 h
   rw[Nat.pow_one] at this
   exact PX this
def mU:SC :=
 ae [ae [ab [aa 25 8,aa 26 1,aR 27 26,aV 28 .lss 25 27],bH 28 (.exit 0)],.block 1 (ae [ab [ba 31 4 3,aa 32 1,aa 33 8,aW 34 1 32 33,ak 35 34,aJ 36 74 [31,35],bS 37 36],bc 37 (ae [ab [cp 6 1,aN 7 1],.ret])]),ab [aa 29 8,ax 30 .add 29 1,aa 8 30]]
def pE:SF:=⟨ae [ab [cE 3 0,cp 6 1,aN 7 0],ae [.region false [⟨none,[ba 9 4 3,aJ 10 15 [9],bS 11 10,aa 12 11]⟩,⟨(some (12,false)),[aa 13 1,aR 14 13,ax 15 .gtr 14 6]⟩,⟨none,[bq 16 12 15,aa 17 16]⟩,⟨(some (17,false)),[aa 18 2,ax 19 .lss 18 0]⟩,⟨none,[bq 20 17 19,aa 21 20]⟩,⟨(some (21,false)),[aa 22 2,ax 23 .gtr 22 10]⟩,⟨none,[bq 24 21 23]⟩],bc 24 (ae [ab [cp 6 1,aN 7 1],.ret])],ae [ab [aN 8 0],bJ 0 mU],ae [ab [ba 38 4 3,aJ 39 117 [38],((some 40),.op (.arith .neq (.tmp 39) (.val (.val (.int .u32 0)))))],bc 40 (ae [ab [cp 6 1,aN 7 10],.ret])],ab [ba 41 4 3,aa 42 2,aJ 43 120 [41,42],aa 44 1,aa 45 2,aJ 46 119 [43,44,45],aJ 47 118 [46],cP 48 0 47,cP 49 1 47,aa 6 48,aa 7 49],.ret],
 [.tmp 6,.tmp 7],50⟩
theorem tI:aE Tryz.prog 59 [3]=some pE:=by kernel_rfl
def lF:SF:=⟨ae [ab [cE 2 0,cp 4 1,aN 5 0],ae [.region false [⟨none,[ba 9 4 2,aJ 10 50 [9],bS 11 10,aa 12 11]⟩,⟨(some (12,false)),[aa 13 1,ax 14 .lss 13 0]⟩,⟨none,[bq 15 12 14,aa 16 15]⟩,⟨(some (16,false)),[aa 17 1,ax 18 .gtr 17 10]⟩,⟨none,[bq 19 16 18]⟩],bc 19 (ae [ab [cp 4 1,aN 5 1],.ret])],ab [ba 21 4 2,aJ 22 47 [21],aa 20 22,cP 23 0 20,cP 24 1 20,cP 25 2 20,((some 6),.op (.alloc [(.emp 1),(.emp 1),(.emp 1),(.val (.int .i64 0))])),cb 4 6 23,aa 7 24,aa 8 25],ae [ab [aa 26 8,ax 27 .neq 26 0],bc 27 (ae [ab [cp 4 1,aN 5 0],.ret])],ab [ba 28 4 6,av 29 3 6,ak 30 29,((some 31),.op (.arith .sub (.val (.val (.int .i64 (-1)))) (.tmp 30))),((some 32),.op (.bM 1 1 [(.val (.int .i64 0))] [(0,(.tmp 31))])),aa 33 1,aJ 34 59 [28,32,33],cP 35 0 34,cP 36 1 34,aa 4 35,aa 5 36],.ret],
 [.tmp 4,.tmp 5],37⟩
theorem qU:aE Tryz.prog 22 [2]=some lF:=by kernel_rfl
theorem zB (g:ai):∀ n,(pq g.af.length (fB g) (b9 g) n).1.length<=n
 | 0=>by simp[pq,iter]
 | n+1=>by
  rw[uc]
  have a:=zB g n
  unfold mj
  split
  .simp;exact a
  .exact Nat.le_succ_of_le a
noncomputable def KB (g:ai) (k:Nat):bF:=bj (cd g (dZ g) (k+1)) [-1 - g.start] k
noncomputable def p9 (g:ai) (k:Nat):List Nat × Int:=if gM g=0 then (jR (KB g k),if (KB g k).isNone then 2 else 0) else ([],10)
noncomputable def nL (g:ai) (k:Nat):List Nat × Int:=if aA g=true then (if (cX g).2.2=0 then p9 (cX g).1 k else ([],0)) else ([],1)
theorem LG {H:View} {q:Nat} (g:ai) (w:g.Ok) (hi:isRed g=true) (C:H q=.arr 1 [[gi (-1 - g.start)]]) {k:Nat} (hk:k<=10) :
  an Tryz.prog 59 [.agg (ah g),.sl q 0 1 1,gi k] H λr _=>∃ u,r=.aU [u,gi (p9 g k).2]/\(u=dW (p9 g k).1∨(p9 g k).1=[]/\u=.emp 1):=by
 have hr:=gO hi
 have v:=az hr
 have F:=v.fF;have G:=v.start;have P:=v.af;have I:=v.ox
 have h1:=ME g w
 rw[hi] at h1
 have y:=G5 g (-1 - g.start) (by unfold bm;omega)
 have f:eO g (-1 - g.start)=true:=by
  unfold eO
  rw[OK (by omega)]
  simp only[OT]
  omega
 rw[f] at y
 have D:=vK g w hr
 refine an.of mixed tI ?_
 simp only[ah,encS] at h1 y D
 simp(disch:=omega)only[↓wr,seval,wq,pE,ah,encS]
 refine aj.pure h1 ?_
 simp(disch:=omega)only[↓wr,seval,wq,ah,encS]
 refine ag.dec (λh=>absurd h (by omega)) (λ_=>?_)
 simp(disch:=omega)only[↓wr,seval,wq]
 refine ag.dec (λh=>absurd h (by omega)) (λ_=>?_)
 simp(disch:=omega)only[↓wr,seval,wq]
 refine aP.up 1 (λi T H'=>H'=H/\T 1=.sl q 0 1 1/\T 2=gi k/\T 3=.aC (ah g) 0/\T 8=gi i) ⟨rfl,rfl,rfl,rfl,rfl⟩ ?_
 rintro i Q T H1 z ⟨rfl,t1,t2,t3,t8⟩
 simp(disch:=omega)only[↓wr,seval,wq,mU,t1,t2,t3,t8,ah,encS]
 apply ag.dec<;>intro J
 .obtain rfl:i=0:=by omega
  simp(disch:=omega)only[↓wr,seval,wq,t1,t2,t3,t8,ah,encS,C]
  refine aj.pure y ?_
  simp(disch:=omega)only[↓wr,seval,wq,t1,t2,t3,t8]
  exact ay z (by omega) ⟨rfl,t1,t2,t3,rfl⟩
 simp(disch:=omega)only[↓wr,seval,wq,t1,t2,t3,t8,ah,encS]
 refine aj.pure D ?_
 simp(disch:=omega)only[↓wr,seval,wq,t1,t2,t3]
 unfold p9
 apply ag.ne<;>intro A
 .rw[OK (λe=>A (toNat_zero.2 e))]
  simp(disch:=omega)only[↓wr,seval,wq,t1,t2,t3]
  exact⟨.emp 1,rfl,.inr rfl⟩
 have c:=toNat_zero.1 A
 rw[OM c]
 have b:=B2 hi c
 have K:aO H1 (.sl q 0 1 1) 1 [[gi (-1 - g.start)]]:=.inr ⟨q,rfl,C⟩
 have m:=Jj (bf.lone K) g w hr c b.ins (by have:=zB g g.af.length;unfold dZ;omega) hk
 simp only[ah,encS] at m
 simp(disch:=omega)only[↓wr,seval,wq,t1,t2,t3,ah,encS]
 refine aj.dd (m.mono ?_)
 rintro r R ⟨L,M⟩
 have B:=M.is 0 rfl (by simp)
 simp(disch:=omega)only[↓wr,seval,wq,t1,t2,t3]
 have hlen:=mN (g:=g) (ord:=dZ g) (k+1)
 have o:=(yL b (k+1)).2.1
 have p:=CJ L (lG.make _) (l:=[-1 - g.start]) (n:=k) (by omega) hk (by unfold aG;simp) B (λs t=>by simp at t;subst t;unfold bm;omega) (λs t S j N=>by
  simp at t;subst t
  have hm:(cd g (dZ g) (k+1)).getD j []∈cd g (dZ g) (k+1):=by
   rw[OH,OI N,OS];exact OW _
  rw[o _ hm]
  omega)
 refine aj.dd (p.mono ?_)
 rintro U V ⟨_,x,rfl,E⟩
 have d:=IK E
 obtain⟨a,rfl,O,_⟩:=gp E
 simp(disch:=omega)only[↓wr,seval,wq,t1,t2,t3]
 refine aj.pure d ?_
 simp(disch:=omega)only[↓wr,seval,wq,t1,t2,t3]
 exact⟨_,rfl,.inl rfl⟩
theorem F5 (g:ai) (c:g.Ok) {k:Nat} (hk:k<=10):ar Tryz.prog 22 [.agg (ah g),gi k] (.aU [dW (nL g k).1,gi (nL g k).2]):=by
 refine ar.of (by
  intro v i;simp at i
  rcases i with rfl | rfl
  .exact dD g _ (by simp)
  .exact .val _) (an.of mixed qU ?_)
 have h1:=iJ g c
 have j:=(vH g c).pure
 unfold nL
 simp only[ah,encS] at h1 j
 simp(disch:=omega)only[↓wr,seval,wq,lF,ah,encS]
 refine aj.pure h1 ?_
 simp(disch:=omega)only[↓wr,seval,wq,ah,encS]
 apply ag.split<;>intro hr
 rotate_left
 .rw[OK (by rw[hr];simp)]
  simp(disch:=omega)only[↓wr,seval,wq]
  exact λl _=>pj (.emp 1)
 rw[OM hr]
 simp(disch:=omega)only[↓wr,seval,wq]
 refine ag.dec (λh=>absurd h (by omega)) (λ_=>?_)
 simp(disch:=omega)only[↓wr,seval,wq]
 refine ag.dec (λh=>absurd h (by omega)) (λ_=>?_)
 simp(disch:=omega)only[↓wr,seval,wq,ah,encS]
 refine aj.pure j ?_
 rcases ue g with ⟨e,he,d⟩ | ⟨p,q,o,h,f,d⟩
 .rw[d]
  simp only[wu]
  rw[OK he]
  simp(disch:=omega)only[↓wr,seval,wq,ah,encS]
  intro n
  refine ag.ne (λ_=>?_) (λh=>absurd h he)
  simp(disch:=omega)only[↓wr,seval,wq]
  exact λl _=>pj (.emp 1)
 .rw[d]
  simp only[wu]
  rw[OM rfl]
  have a:=az f.iv
  have s:=a.fF;have t:=a.start;have w:=a.af
  simp(disch:=omega)only[↓wr,seval,wq,ah,encS]
  intro n m hm
  have b:=LG (H:=((View.set (λ_=>bp.dead) n (.arr 4 [[.emp 1,.emp 1,.emp 1,.val (.int .i64 0)]])).set n (.arr 4 [ah h])).set m (.arr 1 [[gi (-1 - h.start)]])) (q:=m) h (f.ok c) f.isRed (by simp[View.set]) hk
  simp only[ah,encS] at b
  refine aj.dd (b.mono ?_)
  rintro r H1 ⟨u,rfl,hu⟩
  simp(disch:=omega)only[↓wr,seval,wq]
  intro l _
  rcases hu with rfl | ⟨e,rfl⟩
  .exact pj (.tree _ (fG _))
  .rw[e];exact pj (.emp 1)
def ie:SF:=⟨ae [ab [cE 3 0,bb 6 false],ae [ab [aJ 12 20 [],bS 13 12],bc 13 (ae [ab [bb 6 false],.ret])],ab [aa 14 1,((some 15),.op (.conv .i64 (.tmp 14))),ax 16 .rem 15 6,aa 7 16],ae [ab [ba 17 4 3,aJ 18 14 [17]],bc 18 (ae [ab [bb 6 true],.ret])],ab [ba 20 4 3,aa 21 7,aa 22 2,((some 23),.op (.conv .i64 (.tmp 22))),ax 24 .rem 23 41,aJ 25 21 [20,21,24],aa 19 25,cP 26 0 19,cP 27 1 19,aa 8 26,aa 9 27],ab [ba 29 4 3,aa 30 7,aJ 31 22 [29,30],aa 28 31,cP 32 0 28,cP 33 1 28,aa 10 32,aa 11 33],ae [.region false [⟨none,[aa 34 9,ax 35 .neq 34 0,aa 36 35]⟩,⟨(some (36,false)),[aa 37 11,ax 38 .neq 37 0]⟩,⟨none,[bq 39 36 38]⟩],bc 39 (ae [ab [bb 6 true],.ret])],.region false [⟨none,[aa 40 10,aR 41 40,ax 42 .gtr 41 1,aa 43 42]⟩,⟨(some (43,false)),[aa 44 10,aR 45 44,ax 46 .eql 45 0,aa 47 46]⟩,⟨(some (47,true)),[aa 48 8,aR 49 48,ax 50 .eql 49 0]⟩,⟨(some (43,false)),[bV 51 47 50]⟩,⟨none,[bq 52 43 51,aa 53 52]⟩,⟨(some (53,false)),[aa 54 10,aR 55 54,ax 56 .eql 55 1,aa 57 56]⟩,⟨(some (57,true)),[aa 58 10,((some 59),.op (.idx 1 (.tmp 58) (.val (.val (.int .i64 0))))),ak 60 59,((some 61),.op (.conv .u64 (.tmp 60))),aa 62 8,aR 63 62,((some 64),.op (.conv .u64 (.tmp 63))),aV 65 .geq 61 64]⟩,⟨(some (53,false)),[bV 66 57 65,aa 67 66]⟩,⟨(some (67,true)),[aa 68 8,aR 69 68,ax 70 .gtr 69 0]⟩,⟨(some (53,false)),[bV 71 67 70]⟩,⟨none,[bq 72 53 71,aa 6 72]⟩],.ret],
 [.tmp 6],73⟩
theorem nt:aE Tryz.prog 4 [3]=some ie:=by kernel_rfl
theorem Jl {g:ai} {k:Nat} (hk:k<=10) {b:Int} (h1:(cr g k b).2=0) (a:(nL g k).2=0) :
  1 < (nL g k).1.length∨((nL g k).1.length=0/\(cr g k b).1.length=0)∨((nL g k).1.length=1/\(cr g k b).1.length<=(nL g k).1.getD 0 0/\(cr g k b).1.length≠0):=by
 obtain⟨hm,l,_⟩:=C1 h1
 rw[PJ] at l
 rw[l]
 simp only[pz,OO] at hm
 have hr:=hm.1.1.1.1
 unfold nL at a ⊢
 rw[OM hr] at a ⊢
 rcases ue g with ⟨e,he,i⟩ | ⟨p,q,o,h,r,i⟩
 .rw[Gz hr (by omega) (by rw[i];exact he)]
  rw[i,OK he]
  exact .inr (.inl ⟨rfl,rfl⟩)
 .rw[i,OM rfl] at a ⊢
  unfold p9 at a ⊢
  split at a
  .rename_i m
   rw[OM m]
   unfold KB at a ⊢
   cases j:bj (cd h (dZ h) (k+1)) [-1 - h.start] k with
   | none =>
    simp only at a
    rw[j] at a
    simp at a
   | some d =>
    have f:=oB (c:=cd h (dZ h) (k+1)) [-1 - h.start] k
    rw[j] at f
    obtain⟨s,u⟩:=Dd r m (k:=k) (by omega) j
    have:=Hy (d:=d) (n:=(eN (dC g) g.ao.length k []).length) f s (λv e=>u v (PS.1 e))
    rcases this with t | t | ⟨t1,t2,t3,t4⟩
    .exact .inl t
    .exact .inr (.inl t)
    .exact .inr (.inr ⟨t1,by rw[<-t2] at t3;exact t3,t4⟩)
  .simp at a
theorem Iu (g:ai) (y z:Int):∀ v∈[V.agg (ah g),.val (.int .u8 y),.val (.int .u8 z)],Tree v:=by
 intro v a;simp at a
 rcases a with rfl | rfl | rfl
 .exact dD g _ (by simp)
 .exact .val _
 .exact .val _
theorem AS (g:ai) (u:g.Ok) (y:Int) (o:0<=y) (B:y<=255) (z:Int) (C:0<=z) (D:z<=255):ar Tryz.prog 4 [.agg (ah g),.val (.int .u8 y),.val (.int .u8 z)] (gb true):=by
 refine ar.val (Iu g y z) λH=>?_
 refine an.of mixed nt ?_
 simp(disch:=omega)only[↓wr,seval,wq,ie,ah,encS]
 refine aj.pure Ft ?_
 simp(disch:=omega)only[↓wr,seval,wq,ah,encS]
 refine aj.pure (KW g) ?_
 simp(disch:=omega)only[↓wr,seval,wq]
 apply ag.split<;>intro e
 .simp(disch:=omega)only[↓wr,seval,wq]
 have E:g.Small:=Dp e
 obtain⟨k,hk,F⟩:∃ k:Nat,y.tmod 6=(k:Int)/\k<=5:=by
  have h1:=Int.tmod_nonneg (6:Int) o
  have v:=Int.tmod_lt_of_pos y (show (0:Int) < 6 by omega)
  exact⟨(y.tmod 6).toNat,by omega,by omega⟩
 obtain⟨b,G⟩:∃ b:Int,z.tmod 41=b:=⟨_,rfl⟩
 have p:=pH g u E (k:Int) b
 have q:=F5 g u (k:=k) (by omega)
 have a:=@Jl g k (by omega) b
 have n:=@Bc g k b
 have m:=Dt g k b
 generalize cr g k b=x at p a n m
 have j:∀ x∈(nL g k).1,x < LB:=by
  have h1:∀ (g:ai) (x:Nat),x∈(p9 g k).1->x < LB:=λg x i=>by
    unfold p9 at i
    split at i
    .exact sQ _ x i
    .exact absurd i Qv
  unfold nL
  intro x i
  split at i
  · split at i
    .exact h1 _ x i
    .exact absurd i Qv
  · exact absurd i Qv
 generalize nL g k=c at q a j
 obtain⟨l,L⟩:=x
 obtain⟨cl,f⟩:=c
 simp only[ah,encS] at p q
 simp only at a n m j
 simp(disch:=omega)only[↓wr,seval,wq,ah,encS,hk,G]
 refine aj.pure p ?_
 simp(disch:=omega)only[↓wr,seval,wq,ah,encS,iQ,hk]
 refine aj.pure q ?_
 simp(disch:=omega)only[↓wr,seval,wq]
 apply ag.ne<;>intro he
 .simp(disch:=omega)only[↓wr,seval,wq]
 simp(disch:=omega)only[↓wr,seval,wq]
 apply ag.ne<;>intro w
 .simp(disch:=omega)only[↓wr,seval,wq]
 have M:=a he w
 obtain⟨r,_⟩:=m
 unfold aG at r
 simp(disch:=omega)only[↓wr,seval,wq,fu]
 apply ag.dec<;>intro h1
 .simp(disch:=omega)only[↓wr,seval,wq]
 simp(disch:=omega)only[↓wr,seval,wq,fu]
 apply ag.eq<;>intro v
 .simp(disch:=omega)only[↓wr,seval,wq,fu]
  refine ag.eq (λs=>?_) (λs=>absurd (show (l.length:Int)=0 by omega) s)
  simp(disch:=omega)only[↓wr,seval,wq]
 obtain⟨s,I,N⟩:cl.length=1/\l.length<=cl.getD 0 0/\l.length≠0:=by omega
 simp(disch:=omega)only[↓wr,seval,wq,fu]
 refine ag.eq (λA=>?_) (λA=>absurd (show (cl.length:Int)=1 by omega) A)
 have i:=getD_some (d:=0) (show 0 < cl.length by omega)
 have t:cl.getD 0 0 < 4294967296:=j _ (O2 i)
 generalize cl.getD 0 0=x at i t I
 have J:IntKind.wrap .u64 (x:Int)=x:=kQ (by omega) (by omega)
 have K:IntKind.wrap .u64 (l.length:Int)=l.length:=kQ (by omega) (by omega)
 simp(disch:=omega)only[↓wr,seval,wq,fu,ON,i,OU,J,K]
 refine ag.dec (λ_=>?_) (λh=>absurd (show (x:Int)≥l.length by omega) h)
 simp(disch:=omega)only[↓wr,seval,wq,fu]
 first
 | (rw[PO (show (l.length:Int) > 0 by omega)])
 | (
   refine ag.dec (λ_=>?_) (λh=>absurd (show (l.length:Int) > 0 by omega) h)
   simp(disch:=omega)only[↓wr,seval,wq])
end Gv
