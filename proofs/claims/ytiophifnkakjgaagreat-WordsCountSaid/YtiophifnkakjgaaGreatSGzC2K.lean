/-
  Part 11 of the proof: what the machine does and what the functions answer.
  Conditions: those that each lemma names.
-/
import Derived.Shelf.SlSortCmp.NoneTotal
import Derived.Shelf.SlicesG.Cmp
import Derived.StillTailTactics
import Derived.Test.YtiophifnkakjgaaGreatSGzC2J
set_option linter.unusedSimpArgs false
set_option linter.unusedVariables false
set_option maxRecDepth 100000
set_option maxHeartbeats 20000000
namespace Gv
open Go Go.Proofs
def Grow (a:Nat) (S S':Nat->List Item):Prop:=∀ b,S b <+: S' b/\(b < a->S' b=S b)
structure Good (g:ai) (p:List Int) (S:Nat->List Item):Prop where
 nodup:∀ a,(S a).Nodup
 sound:∀ a x,x∈S a->Sound g p a x
 top:∀ a x,x∈S a->FO g p x
 out:∀ a,p.length < a->S a=[]
theorem Grow.refl (a:Nat) (S:Nat->List Item):Grow a S S:=λ_=>⟨List.prefix_refl _,λ_=>rfl⟩
theorem Grow.trans {a:Nat} {S d c:Nat->List Item} (h:Grow a S d) (e:Grow a d c):Grow a S c:=λb=>⟨(h b).1.trans (e b).1,λf=>((e b).2 f).trans ((h b).2 f)⟩
theorem Grow.low {a c:Nat} {S d:Nat->List Item} (h:Grow a S d) (e:c<=a):Grow c S d:=λb=>⟨(h b).1,λf=>(h b).2 (by omega)⟩
theorem Grow.mem {a b:Nat} {S c:Nat->List Item} (h:Grow a S c) {x:Item} (d:x∈S b):x∈c b:=(h b).1.subset d
theorem mg {a b:Nat} (S:Nat->List Item) (x:Item) (h:a<=b):Grow a S (fY S b x):=by
 intro d
 unfold fY
 constructor
 .split
  .rename_i e
   subst e
   split
   .exact List.prefix_refl _
   .exact List.prefix_append _ _
  .exact List.prefix_refl _
 .intro c
  rw[OK (by omega)]
theorem vc (S:Nat->List Item) (a:Nat) (x:Item):x∈fY S a x a:=by
 unfold fY
 rw[OM rfl]
 split
 .assumption
 .simp
theorem Good.put {g:ai} {p:List Int} {S:Nat->List Item} (h:Good g p S) {a:Nat} {x:Item} (f:Sound g p a x) (i:FO g p x) (l:a<=p.length):Good g p (fY S a x):=by
 refine⟨λb=>?_,λb y c=>?_,λb y c=>?_,λb j=>?_⟩
 .unfold fY
  split
  .rename_i e
   subst e
   split
   .exact h.nodup _
   .rename_i k
    rw[List.nodup_append]
    refine⟨h.nodup _,by simp,λu hu v d=>?_⟩
    simp at d
    rintro rfl
    exact k (d ▸ hu)
  .exact h.nodup _
 .unfold fY at c
  split at c
  .rename_i e
   subst e
   split at c
   .exact h.sound _ _ c
   .rcases Pg.1 c with c | c
    .exact h.sound _ _ c
    .simp at c;subst c;exact f
  .exact h.sound _ _ c
 .unfold fY at c
  split at c
  .rename_i e
   subst e
   split at c
   .exact h.top _ _ c
   .rcases Pg.1 c with c | c
    .exact h.top _ _ c
    .simp at c;subst c;exact i
  .exact h.top _ _ c
 .unfold fY
  rw[OK (by omega)]
  exact h.out b j
theorem mL:∀ (N:Nat) (l:List Nat),l.Nodup->(∀ x∈l,x < N)->l.length<=N
 | 0,l,_,h=>by
  cases l with
  | nil=>simp
  | cons x l=>exact absurd (h x (by simp)) (by omega)
 | N+1,l,b,h=>by
  by_cases e:N∈l
  .have h1:=mL N (l.erase N) (b.erase N) λx a=>by
    have c:=(b.mem_erase_iff).1 a
    have:=h x c.2
    have:=c.1
    omega
   rw[List.length_erase_of_mem e] at h1
   omega
  .have:=mL N l b λx a=>by
    have:=h x a
    have:x≠N:=by rintro rfl;exact e a
    omega
   omega
theorem Ax {α:Type} {f:α->Nat} : ∀ {l:List α},l.Nodup->(∀ x∈l,∀ y∈l,f x=f y->x=y)->(l.map f).Nodup
 | [],_,_=>by simp
 | x :: l,c,h=>by
  rw[Ps] at c
  rw[Pa,Ps]
  refine⟨λhm=>?_,Ax c.2 λa g b i=>h a (by simp[g]) b (by simp[i])⟩
  obtain⟨y,d,e⟩:=O9.1 hm
  have:=h y (by simp[d]) x (by simp) e
  exact c.1 (this ▸ d)
theorem Sound.small {g:ai} (b:g.qz) {p:List Int} {a:Nat} {x:Item} (h:Sound g p a x):x.aZ < 40/\x.dot < 7/\x.ca<=a:=by
 obtain⟨R,c,e,d,_⟩:=h
 have h1:=(OV.1 c).1
 have f:=b.rules
 have i:=b.right R (O2 c)
 omega
theorem Good.len {g:ai} (d:g.qz) {p:List Int} (hp:p.length<=60) {S:Nat->List Item} (h:Good g p S) (a:Nat):(S a).length<=17080:=by
 by_cases f:p.length < a
 .rw[h.out a f];simp
 .have c:∀ x∈S a,x.aZ < 40/\x.dot < 7/\x.ca < 61:=λx b=>by
   have:=(h.sound a x b).small d
   omega
  have:=mL 17080 ((S a).map λx=>x.aZ * 427+x.dot * 61+x.ca) (Ax (h.nodup a) λx b y i e=>by
   have h1:=c x b
   have j:=c y i
   cases x;cases y
   simp only at e h1 j
   simp only[Item.mk.injEq]
   omega) (λv k=>by
   obtain⟨x,b,rfl⟩:=O9.1 k
   have:=c x b
   omega)
  simpa using this
theorem Ch.box {H:View} {c:Nat} {g:ai} {p:List Int} {d:V} {S:Nat->List Item} {B n:Nat} {K:List (Nat × bp)} (h:Ch H c g p d S B n K) :
  ∃ a b,H c=.arr 8 [[.aX (g.ao.map c7),encS g.af,.aX (g.rules.map aS),gi g.start,encI p,d,.sl a 0 n 1,.sl b 0 n 1]]:=by
 obtain⟨a,b,e,f,mm,cl,h⟩:=h
 exact⟨a,b,h.box⟩
theorem Ch.set {H:View} {c:Nat} {g:ai} {p:List Int} {f:V} {S:Nat->List Item} {B n:Nat} {K:List (Nat × bp)} (h:Ch H c g p f S B n K) {a:Nat} (i:a < n) :
  ∃ (b d:Nat) (e:Nat->V),H c=.arr 8 [[.aX (g.ao.map c7),encS g.af,.aX (g.rules.map aS),gi g.start,encI p,f,.sl b 0 n 1,.sl d 0 n 1]]/\H b=.arr 1 ((List.range n).map λj=>[e j])/\aO H (e a) 3 ((S a).map dx):=by
 obtain⟨b,d,e,k,mm,cl,h⟩:=h
 exact⟨b,d,e,h.box,h.fe,h.set a i⟩
def hU:SC :=
 ae [ab [aV 15 .lss 14 13],bH 15 (.exit 0),.block 1 (ae [ab [aa 16 14,aW 17 3 12 14,ba 18 3 17,((some 7),.op (.alloc [(.val (.int .i64 0)),(.emp 1),(.val (.int .i64 0))])),aa 6 16,cb 3 7 18],ab [av 19 0 7,ak 20 19,aa 21 2,aV 22 .eql 20 21],bc 22 (ab [aa 23 0,aa 24 1,aa 25 6,aa 26 1,((some 27),.op (.build [(.val (.int .i64 0)),(.val (.int .i64 0)),(.val (.int .i64 0))] [(0,1,(.tmp 25)),(1,1,(.val (.val (.int .i64 0)))),(2,1,(.tmp 26))])),aJ 28 176 [23,24,27]])]),ab [ax 29 .add 14 1,aa 14 29]]
def jD:SF:=⟨ae [ab [aa 8 0,fT 9 8,av 10 0 9,av 11 2 10,ak 12 11,aR 13 12,aN 14 0],bJ 0 hU],
 [],30⟩
theorem ot:aE Tryz.prog 110 []=some jD:=by kernel_rfl
def gT:SC :=
 ae [ae [ab [aa 11 8,aa 12 0,fT 13 12,av 14 6 13,ak 15 14,aa 16 3,aW 17 1 15 16,ak 18 17,aR 19 18,aV 20 .lss 11 19],bH 20 (.exit 0)],.block 1 (ae [ab [aa 23 0,fT 24 23,av 25 6 24,ak 26 25,aa 27 3,aW 28 1 26 27,ak 29 28,aa 30 8,aW 31 3 29 30,ba 32 3 31,((some 9),.op (.alloc [(.val (.int .i64 0)),(.val (.int .i64 0)),(.val (.int .i64 0))])),cb 3 9 32],ab [aa 33 0,fT 34 33,av 35 0 34,av 36 2 35,ak 37 36,av 38 0 9,ak 39 38,aW 40 3 37 39,av 41 1 40,ak 42 41,aa 10 42],.region false [⟨none,[av 43 1 9,ak 44 43,aa 45 10,aR 46 45,aV 47 .lss 44 46,aa 48 47]⟩,⟨(some (48,true)),[aa 49 10,av 50 1 9,ak 51 50,aW 52 1 49 51,ak 53 52,aa 54 2,((some 55),.op (.arith .sub (.val (.val (.int .i64 (-1)))) (.tmp 54))),aV 56 .eql 53 55]⟩,⟨none,[bV 57 48 56]⟩],bc 57 (ab [aa 58 0,aa 59 1,av 60 0 9,ak 61 60,av 62 1 9,ak 63 62,ax 64 .add 63 1,av 65 2 9,ak 66 65,((some 67),.op (.build [(.val (.int .i64 0)),(.val (.int .i64 0)),(.val (.int .i64 0))] [(0,1,(.tmp 61)),(1,1,(.tmp 64)),(2,1,(.tmp 66))])),aJ 68 176 [58,59,67]])]),ab [aa 21 8,ax 22 .add 21 1,aa 8 22]]
def iX:SF:=⟨ae [ab [aN 8 0],bJ 0 gT],
 [],69⟩
theorem nK:aE Tryz.prog 177 []=some iX:=by kernel_rfl
def lB:SF:=⟨ae [ab [cE 5 2],ab [aa 9 0,fT 10 9,av 11 0 10,av 12 2 11,ak 13 12,av 14 0 5,ak 15 14,aW 16 3 13 15,ba 17 3 16,((some 6),.op (.alloc [(.val (.int .i64 0)),(.emp 1),(.val (.int .i64 0))])),cb 3 6 17],ae [ab [av 18 1 5,ak 19 18,av 20 1 6,ak 21 20,aR 22 21,aV 23 .eql 19 22],bc 23 (ae [ab [aa 24 0,aa 25 1,av 26 0 6,ak 27 26,av 28 2 5,ak 29 28,aJ 30 177 [24,25,27,29]],.ret])],ab [av 31 0 5,ak 32 31,av 33 1 5,ak 34 33,ax 35 .add 34 1,av 36 2 5,ak 37 36,((some 38),.op (.build [(.val (.int .i64 0)),(.val (.int .i64 0)),(.val (.int .i64 0))] [(0,1,(.tmp 32)),(1,1,(.tmp 35)),(2,1,(.tmp 37))])),((some 7),.op (.alloc [(.val (.int .i64 0)),(.val (.int .i64 0)),(.val (.int .i64 0))])),cb 3 7 38],ab [av 39 1 6,ak 40 39,av 41 1 5,ak 42 41,aW 43 1 40 42,ak 44 43,aa 8 44],.block 0 (ae [ab [aa 46 8,ax 47 .geq 46 0,aa 45 47],.cond (.tmp 45) (ae [ae [.region false [⟨none,[aa 48 1,aa 49 0,fT 50 49,av 51 4 50,ak 52 51,aR 53 52,aV 54 .lss 48 53,aa 55 54]⟩,⟨(some (55,true)),[aa 56 0,fT 57 56,av 58 4 57,ak 59 58,aa 60 1,aW 61 1 59 60,ak 62 61,aa 63 8,aV 64 .eql 62 63,aa 65 64]⟩,⟨(some (65,false)),[aa 66 0,fT 67 66,av 68 4 67,ak 69 68,aa 70 1,aW 71 1 69 70,ak 72 71,ax 73 .eql 72 (-1)]⟩,⟨(some (55,true)),[bq 74 65 73]⟩,⟨none,[bV 75 55 74]⟩],bc 75 (ab [aa 76 0,aa 77 1,ax 78 .add 77 1,ba 79 3 7,aJ 80 176 [76,78,79]])],.ret]) (ae [ab [aa 82 0,fT 83 82,av 84 5 83,ak 85 84,aa 86 8,((some 87),.op (.arith .sub (.val (.val (.int .i64 (-1)))) (.tmp 86))),aW 88 1 85 87,ak 89 88,aa 81 89],bc 81 (ab [aa 90 0,aa 91 1,ba 92 3 7,aJ 93 176 [90,91,92]])])]),ab [aa 94 0,aa 95 1,aa 96 8,((some 97),.op (.arith .sub (.val (.val (.int .i64 (-1)))) (.tmp 96))),aJ 98 110 [94,95,97]]],
 [],99⟩
theorem qJ:aE Tryz.prog 111 [5]=some lB:=by kernel_rfl
theorem sj (c:Nat) (g:ai) (E:g.qz) (p:List Int) (hp:p.length<=60) (z:V) (S:Nat->List Item) (B a:Nat) (K:List (Nat × bp)) (H:View) (t:Ch H c g p z S B (p.length+1) K) (m:Good g p S) (J:a<=p.length) (U:B+40 < 1000000000000)
  (cq:Int) (L:Eu g p cq a):an Tryz.prog 110 [.ptr c 0 0,bz a,gi cq] H λ_ H'=>∃ h,Ch H' c g p z h (B+40) (p.length+1) K/\Good g p h/\Grow a S h/\∀ i R,g.rules[i]?=some R->R.left=cq->(⟨i,0,a⟩:Item)∈h a:=by
 have F:=E.rules
 refine an.of mixed ot ?_
 obtain⟨M,N,l⟩:=t.box
 simp(disch:=omega)only[↓wr,seval,wq,jD,l]
 refine aP.up g.rules.length (λi n H'=>(∃ h,Ch H' c g p z h (B+i) (p.length+1) K/\Good g p h/\Grow a S h/\∀ j R,j < i->g.rules[j]?=some R->R.left=cq->(⟨j,0,a⟩:Item)∈h a)/\n 0=.ptr c 0 0/\n 1=bz a/\n 2=gi cq/\n 12=.aX (g.rules.map aS)/\n 13=bz g.rules.length/\n 14=bz i) ?_ ?_
 .exact⟨⟨S,t,m,.refl _ _,λj R G=>by omega⟩,rfl,rfl,rfl,rfl,rfl,rfl⟩
 clear l t m
 rintro i k n H' hk ⟨⟨w,t,m,q,d⟩,t0,t1,t2,t12,t13,t14⟩
 simp(disch:=omega)only[↓wr,seval,wq,hU,t0,t1,t2,t12,t13,t14]
 apply ag.dec<;>intro O
 .have f:g.rules[i]?=some (g.rules[i]'(by omega)):=OI (by omega)
  have y:g.rules[i]'(by omega)∈g.rules:=OW _
  generalize g.rules[i]'(by omega)=R at f y
  simp(disch:=omega)only[↓wr,seval,wq,t0,t1,t2,t12,t13,t14,aS,encI,ON,f]
  intro b P
  rw[set_set]
  have s:=t.new P (o:=.arr 3 [[gi R.left,.aX (R.right.map λx=>[gi x]),gi R.prec]]) (by simp)
  generalize View.set H' b _=W at s ⊢
  have T:=m.len E hp a
  apply ag.eq<;>intro e
  .simp(disch:=omega)only[↓wr,seval,wq,t0,t1]
   refine aj.dd ((xI c g p z w (B+i) (p.length+1) a ⟨i,0,a⟩ _ _ s (by omega) (by omega) (by omega) (by omega) ⟨by simp;omega,by simp,by simp;omega⟩).mono ?_)
   intro r X A
   simp(disch:=omega)only[↓wr,seval,wq,t14]
   have C:Sound g p a ⟨i,0,a⟩:=⟨R,f,by simp,by simp,by simp;exact .nil _⟩
   refine ay hk (by omega) ⟨⟨_,A.drop,m.put C ⟨R,f,e ▸ L⟩ J,q.trans (mg w _ (OR _)),λj Q G u v=>?_⟩,t0,t1,t2,t12,t13,rfl⟩
   by_cases D:j=i
   .subst D;exact vc _ _ _
   .exact(mg w _ (OR a)).mem (d j Q (by omega) u v)
  .simp(disch:=omega)only[↓wr,seval,wq,t14]
   refine ay hk (by omega) ⟨⟨w,s.drop.more (by omega),m,q,λj Q G u v=>?_⟩,t0,t1,t2,t12,t13,rfl⟩
   by_cases D:j=i
   .subst D
    rw[f] at u;simp at u;subst u
    exact absurd v e
   .exact d j Q (by omega) u v
 .simp(disch:=omega)only[↓wr,seval,wq]
  exact⟨w,t.more (by omega),m,q,λi R I v=>d i R (by have:=(OV.1 I).1;omega) I v⟩
def Gb (g:ai) (cq:Int) (S:Nat->List Item) (at_:Nat) (x:Item):Prop:=∀ R,g.rules[x.aZ]?=some R->R.right[x.dot]?=some (-1 - cq)->(⟨x.aZ,x.dot+1,x.ca⟩:Item)∈S at_
theorem Sound.on {g:ai} {p:List Int} {f a:Nat} {x:Item} (h:Sound g p f x) {R:aF} (e:g.rules[x.aZ]?=some R) {s:Int} (i:R.right[x.dot]?=some s) (c:Sp g p [s] f a):Sound g p a ⟨x.aZ,x.dot+1,x.ca⟩:=by
 obtain⟨l,b,h1,j,k⟩:=h
 rw[e] at b;simp at b;subst b
 have d:=(OV.1 i).1
 refine⟨R,e,d,Pp j c.le,?_⟩
 have:R.right.take (x.dot+1)=R.right.take x.dot ++ [s]:=by rw[Pe,i];rfl
 rw[this]
 exact k.app c
theorem Du (c:Nat) (g:ai) (C:g.qz) (p:List Int) (hp:p.length<=60) (nu:V) (S:Nat->List Item) (B d fr:Nat) (K:List (Nat × bp)) (H:View) (J:Ch H c g p nu S B (p.length+1) K) (j:Good g p S) (ha:d<=p.length) (b1:fr<=d) (hB:B+17080 < 1000000000000)
  (cq:Int) (hn:0<=cq/\cq < 1000) (a6:Sp g p [-1 - cq] fr d):an Tryz.prog 177 [.ptr c 0 0,bz d,gi cq,bz fr] H λ_ H'=>∃ l,Ch H' c g p nu l (B+17080) (p.length+1) K/\Good g p l/\Grow d S l/\∀ x∈l fr,Gb g cq l d x:=by
 have bx:=C.rules
 refine an.of mixed nK ?_
 simp(disch:=omega)only[↓wr,seval,wq,iX]
 refine aP.up 17080 (λi L H'=>(∃ l,Ch H' c g p nu l (B+i) (p.length+1) K/\Good g p l/\Grow d S l/\i<=(l fr).length/\∀ x∈(l fr).take i,Gb g cq l d x)/\L 0=.ptr c 0 0/\L 1=bz d/\L 2=gi cq/\L 3=bz fr/\L 8=bz i) ?_ ?_
 .exact⟨⟨S,J,j,.refl _ _,PL _,λx hx=>by simp at hx⟩,rfl,rfl,rfl,rfl,rfl⟩
 clear J j
 rintro i k L H' hk ⟨⟨f,J,j,w,b2,n⟩,t0,t1,t2,t3,t8⟩
 obtain⟨b3,b4,sv,q,u,ho⟩:=J.set (a:=fr) (by omega)
 have D:fr < p.length+1:=by omega
 simp(disch:=omega)only[↓wr,seval,wq,gT,t0,t1,t2,t3,t8,q,u,gI D,ho.len]
 refine⟨by omega,by simp;omega,?_⟩
 apply ag.dec<;>intro hc
 .obtain⟨m,a7,hm⟩:=ho.sl (by simp;omega)
  have E:(f fr)[i]?=some ((f fr)[i]'(by omega)):=OI (by omega)
  have F:(f fr)[i]'(by omega)∈f fr:=OW _
  have O:(f fr).take (i+1)=(f fr).take i ++ [(f fr)[i]'(by omega)]:=by rw[Pe,E];rfl
  generalize (f fr)[i]'(by omega)=x at E F O
  have a8:((f fr).map dx).getD i []=[bz x.aZ,bz x.dot,bz x.ca]:=by simp[OH,E,dx]
  have G:=j.sound _ _ F
  have b5:=G.small C
  have P:=G
  obtain⟨R,Q,b7,b8,b0⟩:=G
  simp(disch:=omega)only[↓wr,seval,wq,t0,t1,t2,t3,t8,q,u,gI D,a7,hm,a8]
  refine⟨D,by simp;omega,by omega,by omega,λb hb=>?_⟩
  have bl:c≠b:=by rintro rfl;rw[q] at hb;simp at hb
  simp only[OK bl]
  rw[set_set]
  have v:=J.new hb (o:=.arr 3 [[.val (.int .i64 x.aZ),.val (.int .i64 x.dot),.val (.int .i64 x.ca)]]) (by simp)
  generalize View.set H' b _=H2 at v ⊢
  have z:=v.kept _ (P3 ..)
  simp only at z
  have T:=O2 Q
  have cc:=C.right R T
  simp(disch:=omega)only[↓wr,seval,wq,t0,t1,t2,t3,t8,z,aS,encI,ON,Q]
  have h:∀ M,Grow d f M->(∀ I,g.rules[x.aZ]?=some I->I.right[x.dot]?=some (-1 - cq)->(⟨x.aZ,x.dot+1,x.ca⟩:Item)∈M d)->i+1<=(M fr).length/\∀ y∈(M fr).take (i+1),Gb g cq M d y:=by
   intro M U bn
   obtain⟨t,ht⟩:=(U fr).1
   refine⟨by rw[<-ht];simp;omega,?_⟩
   rw[<-ht,List.take_append_of_le_length (by omega),O]
   intro y N
   rcases Pg.1 N with N | N
   .exact λI h1 A=>U.mem (n y N I h1 A)
   .simp at N;subst N;exact bn
  have cf:=j.len C hp fr
  have ch:=j.len C hp d
  apply ag.dec<;>intro h1
  .have hs:R.right[x.dot]?=some (R.right[x.dot]'(by omega)):=OI (by omega)
   generalize R.right[x.dot]'(by omega)=s at hs
   simp(disch:=omega)only[↓wr,seval,wq,t0,t1,t2,t3,t8,z,hs,ON]
   apply ag.eq<;>intro e
   .simp(disch:=omega)only[↓wr,seval,wq,t0,t1,t2,t3,t8,z]
    have W:Sound g p d ⟨x.aZ,x.dot+1,x.ca⟩:=P.on Q hs (e ▸ a6)
    have X:=W.small C
    simp only at X
    refine aj.dd ((xI c g p nu f (B+i) (p.length+1) d ⟨x.aZ,x.dot+1,x.ca⟩ _ _ v (by omega) (by omega) (by omega) (by omega) ⟨by simp;omega,by simp;omega,by simp;omega⟩).mono ?_)
    intro r H3 bs
    simp(disch:=omega)only[↓wr,seval,wq,t8]
    obtain⟨Y,k2⟩:=h _ (mg f _ (OR _)) (λI _ _=>vc _ _ _)
    exact ay hk (by omega) ⟨⟨_,bs.drop,j.put W (j.top _ x F) ha,w.trans (mg f _ (OR _)),Y,k2⟩,t0,t1,t2,t3,rfl⟩
   .simp(disch:=omega)only[↓wr,seval,wq,t8]
    obtain⟨Y,k2⟩:=h _ (.refl _ _) (λI A Z=>by
     rw[Q] at A;simp at A;subst A
     rw[hs] at Z;simp at Z
     exact absurd Z e)
    exact ay hk (by omega) ⟨⟨_,v.drop.more (by omega),j,w,Y,k2⟩,t0,t1,t2,t3,rfl⟩
  .simp(disch:=omega)only[↓wr,seval,wq,t8]
   obtain⟨Y,k2⟩:=h _ (.refl _ _) (λI A Z=>by
    rw[Q] at A;simp at A;subst A
    have:=(OV.1 Z).1
    omega)
   exact ay hk (by omega) ⟨⟨_,v.drop.more (by omega),j,w,Y,k2⟩,t0,t1,t2,t3,rfl⟩
 .simp(disch:=omega)only[↓wr,seval,wq]
  have a1:i=(f fr).length:=by omega
  rw[a1,Qw] at n
  exact⟨f,J.more (by have:=j.len C hp fr;omega),j,w,n⟩
structure sy (g:ai) (p:List Int) (S:Nat->List Item) (a:Nat) (x:Item):Prop where
 term:∀ R s,g.rules[x.aZ]?=some R->R.right[x.dot]?=some s->0<=s->jg p a s->(⟨x.aZ,x.dot+1,x.ca⟩:Item)∈S (a+1)
 pred:∀ R s i R',g.rules[x.aZ]?=some R->R.right[x.dot]?=some s->s < 0->g.rules[i]?=some R'->R'.left = -1 - s->(⟨i,0,a⟩:Item)∈S a
 null:∀ R s,g.rules[x.aZ]?=some R->R.right[x.dot]?=some s->s < 0->(al g false).getD (-1 - s).toNat false=true->(⟨x.aZ,x.dot+1,x.ca⟩:Item)∈S a
 comp:∀ R,g.rules[x.aZ]?=some R->x.dot=R.right.length->x.ca < a->∀ y∈S x.ca,Gb g R.left S a y
theorem sy.grow {g:ai} {p:List Int} {S k:Nat->List Item} {a:Nat} {x:Item} (h:sy g p S a x) (e:Grow a S k):sy g p k a x where
 term:=λR s h1 c b d=>e.mem (h.term R s h1 c b d)
 pred:=λR s i f h1 c b d j=>e.mem (h.pred R s i f h1 c b d j)
 null:=λR s h1 c b d=>e.mem (h.null R s h1 c b d)
 comp:=λR h1 c b y l f d j=>e.mem (h.comp R h1 c b y (by rw[(e x.ca).2 b] at l;exact l) f d j)
theorem Lz (c:Nat) (g:ai) (hr:aA g=true) (p:List Int) (hp:p.length<=60) (S:Nat->List Item) (B a:Nat) (x:Item) (K:List (Nat × bp)) (H:View) (hC:Ch H c g p (bh (al g false)) S B (p.length+1) K) (u:Good g p S) (ha:a<=p.length) (hB:B+17200 < 1000000000000)
  (Y:x∈S a):an Tryz.prog 111 [.ptr c 0 0,bz a,.agg (dx x)] H λ_ H'=>∃ D,Ch H' c g p (bh (al g false)) D (B+17200) (p.length+1) K/\Good g p D/\Grow a S D/\sy g p D a x:=by
 have w:=az hr
 have L:=u.sound _ _ Y
 have b8:=L.small w
 have m:=L
 obtain⟨R,n,cc,a8,G⟩:=L
 have q:=O2 n
 have cf:=w.right R q
 have ch:=w.left R q
 have cj:=w.af
 obtain⟨ck,cu,Z⟩:=hC.box
 refine an.of mixed qJ ?_
 simp(disch:=omega)only[↓wr,seval,wq,lB,dx,Z,aS,encI,ON,n]
 refine λb hb=>?_
 rw[set_set]
 have E:=hC.new hb (o:=.arr 3 [[gi R.left,.aX (R.right.map λx=>[gi x]),gi R.prec]]) (by simp)
 generalize View.set H b _=H2 at E ⊢
 have y:=E.kept _ (P3 ..)
 simp only at y
 apply ag.eq<;>intro e
 .have e2:x.dot=R.right.length:=by omega
  have bl:Sp g p [-1 - R.left] x.ca a:=by
   rw[e2,Qw] at G
   exact .cq _ _ R x.ca a a (by omega) q (by omega) G (.nil _)
  simp(disch:=omega)only[↓wr,seval,wq,y]
  refine aj.dd ((Du c g w p hp _ S B a x.ca _ _ E u ha a8 (by omega) R.left (by omega) bl).mono ?_)
  rintro r H3 ⟨M,d,bn,bs,hw⟩
  simp(disch:=omega)only[↓wr,seval,wq]
  refine⟨M,d.drop.more (by omega),bn,bs,⟨λz s h1 j I A=>?_,λz s i Q h1 j=>?_,λz s h1 j=>?_,λz h1 j I=>?_⟩⟩
  .rw[n] at h1;simp at h1;subst h1
   have:=(OV.1 j).1
   omega
  .rw[n] at h1;simp at h1;subst h1
   have:=(OV.1 j).1
   omega
  .rw[n] at h1;simp at h1;subst h1
   have:=(OV.1 j).1
   omega
  .rw[n] at h1;simp at h1;subst h1
   exact hw
 .have cv:x.dot < R.right.length:=by omega
  have C:R.right[x.dot]?=some (R.right[x.dot]'(by omega)):=OI (by omega)
  generalize R.right[x.dot]'(by omega)=s at C
  simp(disch:=omega)only[↓wr,seval,wq,y]
  refine λb3 N=>?_
  rw[set_set]
  have d:=E.new N (o:=.arr 3 [[.val (.int .i64 x.aZ),.val (.int .i64 (x.dot+1)),.val (.int .i64 x.ca)]]) (by simp)
  have bx:b≠b3:=by rintro rfl;rw[y] at N;simp at N
  simp only[OK bx]
  generalize View.set H2 b3 _=H3 at d ⊢
  have F:=d.kept _ (P3 ..)
  simp only at F
  obtain⟨b4,b5,k⟩:=d.box
  have b0:=d.kept (b,_) (Pu _ (P3 ..))
  simp only at b0
  have a1:=λhn:s < 0=>w.neg q (O2 C) hn
  have cC:=u.len w hp a
  simp(disch:=omega)only[↓wr,seval,wq,y,C,ON]
  have f:∀ M:Nat->List Item,(0<=s->jg p a s->(⟨x.aZ,x.dot+1,x.ca⟩:Item)∈M (a+1))->(s < 0->∀ i z,g.rules[i]?=some z->z.left = -1 - s->(⟨i,0,a⟩:Item)∈M a) ->
    (s < 0->(al g false).getD (-1 - s).toNat false=true->(⟨x.aZ,x.dot+1,x.ca⟩:Item)∈M a)->sy g p M a x:=by
   intro M k1 k2 k3
   refine⟨λz s' h1 j I A=>?_,λz s' i Q h1 j I A O=>?_,λz s' h1 j I A=>?_,λz h1 j I=>?_⟩
   .rw[n] at h1;simp at h1;subst h1
    rw[C] at j;simp at j;subst j
    exact k1 I A
   .rw[n] at h1;simp at h1;subst h1
    rw[C] at j;simp at j;subst j
    exact k2 I i Q A O
   .rw[n] at h1;simp at h1;subst h1
    rw[C] at j;simp at j;subst j
    exact k3 I A
   .rw[n] at h1;simp at h1;subst h1
    omega
  have b7:=u.len w hp (a+1)
  apply ag.dec<;>intro h0
  .have J:jg p a s->a < p.length->an Tryz.prog 176 [.ptr c 0 0,bz (a+1),.agg (dx ⟨x.aZ,x.dot+1,x.ca⟩)] H3 λ_ H'=>∃ D,Ch H' c g p (bh (al g false)) D (B+17200) (p.length+1) K/\Good g p D/\Grow a S D/\sy g p D a x:=by
    intro l cN
    have P:Sound g p (a+1) ⟨x.aZ,x.dot+1,x.ca⟩:=m.on n C (.term s [] a (a+1) h0 l (.nil _))
    refine(xI c g p _ S B (p.length+1) (a+1) ⟨x.aZ,x.dot+1,x.ca⟩ _ _ d (by omega) (by omega) (by omega) (by omega) ⟨by simp;omega,by simp;omega,by simp;omega⟩).mono λr H4 T=>?_
    exact⟨_,T.drop.drop.more (by omega),u.put P (u.top _ x Y) (by omega),mg S _ (by omega),f _ (λ_ _=>vc _ _ _) (λh=>by omega) (λh=>by omega)⟩
   simp(disch:=omega)only[↓wr,seval,wq,k,encI]
   apply ag.dec<;>intro h1
   .have v:p[a]?=some (p[a]'(by omega)):=OI (by omega)
    generalize p[a]'(by omega)=pc at v
    simp(disch:=omega)only[↓wr,seval,wq,k,encI,v,ON]
    apply ag.eq<;>intro e1
    .simp(disch:=omega)only[↓wr,seval,wq,F]
     refine aj.dd ((J ⟨pc,v,.inl e1⟩ (by omega)).mono λr H4 A=>?_)
     simp(disch:=omega)only[↓wr,seval,wq]
     exact A
    .simp(disch:=omega)only[↓wr,seval,wq,k,encI,v,ON]
     apply ag.eq<;>intro e2
     .simp(disch:=omega)only[↓wr,seval,wq,F]
      refine aj.dd ((J ⟨pc,v,.inr e2⟩ (by omega)).mono λr H4 A=>?_)
      simp(disch:=omega)only[↓wr,seval,wq]
      exact A
     .simp(disch:=omega)only[↓wr,seval,wq]
      refine⟨S,d.drop.drop.more (by omega),u,.refl _ _,f _ (λ_ l=>?_) (λh=>by omega) (λh=>by omega)⟩
      obtain⟨b1,O,h6⟩:=l
      rw[v] at O;simp at O;subst O
      omega
   .simp(disch:=omega)only[↓wr,seval,wq]
    refine⟨S,d.drop.drop.more (by omega),u,.refl _ _,f _ (λ_ l=>?_) (λh=>by omega) (λh=>by omega)⟩
    obtain⟨b1,O,h6⟩:=l
    have:=(OV.1 O).1
    omega
  .have hlen:=fb hr false
   have cS:=a1 (by omega)
   have a6:(al g false)[(-1 - s).toNat]?=some ((al g false).getD (-1 - s).toNat false):=by
    simp[OH,show (-1 - s).toNat < (al g false).length by omega]
   generalize a7:(al g false).getD (-1 - s).toNat false=nb at a6
   simp(disch:=omega)only[↓wr,seval,wq,k,bh,a6,ON]
   apply ag.split<;>intro U
   .have P:Sound g p a ⟨x.aZ,x.dot+1,x.ca⟩:=m.on n C (by
     obtain⟨Q,hQ,cV,b2⟩:=FH hr _ (a7.trans U)
     have:=(w.left Q hQ).1
     exact .cq s [] Q a a a (by omega) hQ (by omega) (b2 p a) (.nil _))
    simp(disch:=omega)only[↓wr,seval,wq,F]
    refine aj.dd ((xI c g p _ S B (p.length+1) a ⟨x.aZ,x.dot+1,x.ca⟩ _ _ d (by omega) (by omega) (by omega) (by omega) ⟨by simp;omega,by simp;omega,by simp;omega⟩).mono λr H4 T=>?_)
    simp(disch:=omega)only[↓wr,seval,wq]
    refine aj.dd ((sj c g w p hp _ _ _ a _ _ T (u.put P (u.top _ x Y) ha) ha (by omega) (-1 - s) ((u.top _ x Y).ask m n C)).mono ?_)
    rintro r2 H5 ⟨S2,V,W,t,X⟩
    simp(disch:=omega)only[↓wr,seval,wq]
    exact⟨S2,V.drop.drop.more (by omega),W,(mg S _ (OR _)).trans t,f _ (λh=>by omega) (λ_=>X) (λ_ _=>t.mem (vc _ _ _))⟩
   .simp(disch:=omega)only[↓wr,seval,wq]
    refine aj.dd ((sj c g w p hp _ _ _ a _ _ d u ha (by omega) (-1 - s) ((u.top _ x Y).ask m n C)).mono ?_)
    rintro r2 H5 ⟨S2,V,W,t,X⟩
    simp(disch:=omega)only[↓wr,seval,wq]
    exact⟨S2,V.drop.drop.more (by omega),W,t,f _ (λh=>by omega) (λ_=>X) (λ_ h=>by rw[a7,U] at h;simp at h)⟩
structure qP (H:View) (c sid:Nat) (u:V) (mi:Nat->Nat) (g:ai) (p:List Int) (nu:V) (n k:Nat):Prop where
 box:H c=.arr 8 [[.aX (g.ao.map c7),encS g.af,.aX (g.rules.map aS),gi g.start,encI p,nu,.sl sid 0 n 1,u]]
 fe:H sid=.arr 1 ((List.range n).map λ_=>[.emp 1])
 seen:aO H u 1 ((List.range k).map λj=>[.mp (mi j)])
 map:∀ j,j < k->H (mi j)=.map [] 0
 inj:∀ i j,i < k->j < k->mi i=mi j->i=j
theorem qP.M3 {H:View} {c a:Nat} {u:V} {d:Nat->Nat} {g:ai} {p:List Int} {f:V} {n k:Nat} (h:qP H c a u d g p f n k) (i:0 < n):owner u≠some a:=λe=>by
 have h1:=(h.seen.live e).1
 rw[h.fe] at h1
 simp only[bp.arr.injEq,true_and] at h1
 have b:=Qo (·[0]?) h1
 simp[i] at b
 by_cases hk:0 < k
 .simp[hk] at b
 .have:k=0:=by omega
  subst this
  simp at b
theorem qP.MS {H:View} {c a:Nat} {u:V} {b:Nat->Nat} {g:ai} {p:List Int} {d:V} {n k:Nat} (h:qP H c a u b g p d n k):owner u≠some c:=λe=>by
 have h1:=(h.seen.live e).1
 rw[h.box] at h1
 simp at h1
theorem qP.M8 {H:View} {c b:Nat} {u:V} {l:Nat->Nat} {g:ai} {p:List Int} {m:V} {n:Nat} (h:qP H c b u l g p m n n) (r:0 < n):Ch H c g p m (λ_=>[]) 0 n []:=by
 obtain⟨f,hu,hm⟩:=h.seen.sl (by simp;omega)
 have a:=h.M3 r
 refine⟨b,f,λ_=>.emp 1,l,λ_=>[],λ_=>0,?_,h.fe,hm,λj d=>aO.nil,λj d=>⟨h.map j d,?_,λx=>⟨λk=>by simp at k,λ_=>rfl⟩⟩,?_,λi j o _ _ h1=>by simp[owner] at h1,λi j hi d e=>h.inj i j hi d e,λq s=>by simp at s⟩
 .have:=h.box
  rw[hu] at this
  simpa using this
 .exact⟨by simp,λx k=>by simp at k⟩
 .rintro rfl
  rw[hu] at a
  exact a rfl
theorem qP.next {H o:View} {c a m:Nat} {u u':V} {b:Nat->Nat} {g:ai} {p:List Int} {q:V} {n k:Nat} (h:qP H c a u b g p q n k) (w:0 < n) (hm:H m=.dead) (x:aO o u' 1 (((List.range k).map λj=>[.mp (b j)]) ++ [[.mp m]])) (r:o m=.map [] 0)
  (s:∀ id,H id≠.dead->owner u≠some id->o id=H id/\owner u'≠some id) :
  qP (o.set c (.arr 8 [[.aX (g.ao.map c7),encS g.af,.aX (g.rules.map aS),gi g.start,encI p,q,.sl a 0 n 1,u']])) c a u' (λj=>if j=k then m else b j) g p q n (k+1):=by
 have y:=s c (by rw[h.box];simp) h.MS
 have z:=s a (by rw[h.fe];simp) (h.M3 w)
 have t:a≠c:=by rintro rfl;have:=h.box;rw[h.fe] at this;simp at this
 have f:∀ j,j < k->b j≠m:=λj l e=>by have:=h.map j l;rw[e,hm] at this;simp at this
 refine⟨by simp[View.set],?_,?_,λj l=>?_,λi j hi l e=>?_⟩
 .simp only[View.set,OK t]
  rw[z.1];exact h.fe
 .refine aO.other ?_ y.2
  have:(List.range (k+1)).map (λj=>[V.mp (if j=k then m else b j)])=(List.range k).map (λj=>[V.mp (b j)]) ++ [[.mp m]]:=by
   rw[Qj,PW,Pa,PQ,OM rfl]
   congr 1
   apply Qu
   intro j l
   rw[OK (by have:=Pm.1 l;omega)]
  rw[this];exact x
 .by_cases e:j=k
  .simp only[OM e]
   have:m≠c:=by rintro rfl;rw[h.box] at hm;simp at hm
   simp only[View.set,OK this]
   exact r
  .simp only[OK e]
   have h1:=h.map j (by omega)
   have:b j≠c:=by intro d;rw[d,h.box] at h1;simp at h1
   simp only[View.set,OK this]
   rw[(s (b j) (by rw[h1];simp) (λd=>by have:=(h.seen.live d).1;rw[h1] at this;simp at this)).1]
   exact h1
 .by_cases v:i=k
  .by_cases d:j=k
   .omega
   .simp only[OM v,OK d] at e
    exact absurd e.symm (f j (by omega))
  .by_cases d:j=k
   .simp only[OK v,OM d] at e
    exact absurd e (f i (by omega))
   .simp only[OK v,OK d] at e
    exact h.inj i j (by omega) (by omega) e
def qt:SC :=
 ae [ab [aV 22 .lss 21 20],bH 22 (.exit 0),.block 1 (ab [aa 23 6,aa 24 6,fT 25 24,av 26 7 25,ak 27 26,((some 28),.op (.sA)),((some 29),.op (.bM 1 1 [(.val (.map none))] [(0,(.tmp 28))])),pk 30 1 8 27 29,fT 31 23,av 32 7 31,cb 1 32 30]),ab [ax 33 .add 21 1,aa 21 33]]
def pQ:SC :=
 ae [ae [ab [aa 42 8,aa 43 6,fT 44 43,av 45 6 44,ak 46 45,aa 47 7,aW 48 1 46 47,ak 49 48,aR 50 49,aV 51 .lss 42 50],bH 51 (.exit 4)],.block 5 (ab [aa 54 6,aa 55 7,aa 56 6,fT 57 56,av 58 6 57,ak 59 58,aa 60 7,aW 61 1 59 60,ak 62 61,aa 63 8,aW 64 3 62 63,ba 65 3 64,aJ 66 111 [54,55,65]]),ab [aa 52 8,ax 53 .add 52 1,aa 8 53]]
def qd:SC :=
 ae [ab [aV 40 .lss 39 38],bH 40 (.exit 2),.block 3 (ae [ab [aa 41 39,aa 7 41],ab [aN 8 0],bJ 4 pQ]),ab [ax 67 .add 39 1,aa 39 67]]
def td:SF:=⟨ae [ab [cE 2 0,((some 4),.op (.cF (.val (.val (.pointer none)))))],ab [aa 9 1,aR 10 9,ax 11 .add 10 1,aa 5 11],.region true [⟨none,[ba 12 4 2,aa 13 1,ba 14 4 2,aJ 15 109 [14],aa 16 5,((some 17),.op (.make 1 24 [(.emp 1)] (.tmp 16) (.tmp 16))),((some 18),.op (.build [(.emp 1),(.emp 1),(.emp 1),(.val (.int .i64 0)),(.emp 1),(.emp 1),(.emp 1),(.emp 1)] [(0,4,(.tmp 12)),(4,1,(.tmp 13)),(5,1,(.tmp 15)),(6,1,(.tmp 17))])),((some 19),.op (.box (.tmp 18))),aa 6 19]⟩],ae [ab [aa 20 5,aN 21 0],bJ 0 qt],ab [aa 34 6,av 35 3 2,ak 36 35,jG 37 110 [(.tmp 34),(.val (.val (.int .i64 0))),(.tmp 36)]],ae [ab [aa 38 5,aN 39 0],bJ 2 qd],ab [aa 68 6,aa 4 68],.ret],
 [.tmp 4],69⟩
theorem w7:aE Tryz.prog 53 [2]=some td:=by kernel_rfl
theorem Ls (g:ai) (hg:g.Ok) (hr:aA g=true) (a8:g.Small) (p:List Int) (hp:p.length<=60) (H:View):an Tryz.prog 53 [.agg (ah g),encI p] H λr H'=>∃ c S B,r=.ptr c 0 0/\Ch H' c g p (bh (al g false)) S B (p.length+1) []/\Good g p S/\yx g p S:=by
 have hf:=az hr
 refine an.of mixed w7 ?_
 simp(disch:=omega)only[↓wr,seval,wq,td,ah,encI]
 have T:=(BM g hg a8).pure
 simp only[ah] at T
 refine⟨rfl,aj.pure T ?_⟩
 have hM:((p.length:Int)+1).toNat=p.length+1:=by omega
 have bl:aD (encS g.af)=true:=rfl
 simp(disch:=omega)only[↓wr,seval,wq,hM,bh,bl,Bool.and_self]
 refine⟨⟨OR _,by unfold aB;omega,by unfold aB;omega⟩,λU W=>?_⟩
 intro c hc
 obtain⟨J,bn⟩:=c9 hc (by simp)
 refine aP.up (p.length+1) (λk f H'=>(∃ u mi,qP H' c U u mi g p (bh (al g false)) (p.length+1) k)/\f 2=.aC (ah g) 0/\f 5=gi (p.length+1)/\f 6=.ptr c 0 0/\f 20=gi (p.length+1)/\f 21=gi k) ?_ ?_
 .refine⟨⟨.emp 1,λ_=>0,⟨by simp[View.set,bh,encI],?_,aO.nil,λj hj=>by omega,λi j hi=>by omega⟩⟩,rfl,rfl,rfl,rfl,rfl⟩
  simp[View.set,Ne.symm J]
  apply List.ext_getElem (by simp)
  intro n h1 v
  cases n <;> simp
 clear hc bn W
 rintro k m f H' hk ⟨⟨u,mi,D⟩,t2,t5,t6,t20,t21⟩
 simp(disch:=omega)only[↓wr,seval,wq,qt,t2,t5,t6,t20,t21]
 apply ag.dec<;>intro K
 .simp(disch:=omega)only[↓wr,seval,wq,t2,t5,t6,t20,t21,D.box]
  intro m1 E b1 F
  obtain⟨L,F⟩:=c9 F (by simp)
  rw[cL]
  have ho:=(D.seen.fresh (o:=.map [] 0) E).fresh (o:=.arr 1 [[.mp m1]]) (m:=b1) (by simp[View.set,L,F])
  simp(disch:=omega)only[↓wr,seval,wq]
  refine p7 ho (by simp) (by simp[V.cells,aD]) (by simp[aB];omega) (by simp[aB];omega) λu' H3 M X=>?_
  have Y:∀ id,H' id≠.dead->owner u≠some id->H3 id=H' id/\owner u'≠some id:=λid h1 v=>by
   have n1:id≠m1:=by rintro rfl;exact h1 E
   have n2:id≠b1:=by rintro rfl;exact h1 F
   have:=X id (by simp[View.set,n1,n2,h1]) v
   rw[this.1]
   exact⟨by simp[View.set,n1,n2],this.2⟩
  have Z:=(Y c (by rw[D.box];simp) D.MS).1
  rw[D.box] at Z
  have bs:H3 m1=.map [] 0:=by
   have n3:owner u≠some m1:=D.seen.ne E
   rw[(X m1 (by simp[View.set,Ne.symm L]) n3).1]
   simp[View.set,Ne.symm L]
  simp(disch:=omega)only[↓wr,seval,wq,Z,M.cells,M.tz,t21]
  exact ay hk (by omega) ⟨⟨u',_,D.next (by omega) E M bs Y⟩,t2,t5,t6,t20,rfl⟩
 .have bx:k=p.length+1:=by omega
  subst bx
  have w:=D.M8 (by omega)
  clear D t20 t21
  simp(disch:=omega)only[↓wr,seval,wq,t2,t5,t6,ah]
  have b0:Good g p (λ_=>[]):=⟨λ_=>by simp,λa x d=>by simp at d,λa x d=>by simp at d,λ_ _=>rfl⟩
  refine aj.dd ((sj c g hf p hp _ _ _ 0 _ _ w b0 (by omega) (by omega) g.start .start).mono ?_)
  rintro r0 H2 ⟨S0,w,z,b2,q⟩
  simp(disch:=omega)only[↓wr,seval,wq,t2,t5,t6]
  refine aP.up (p.length+1) (λa f H'=>(∃ S,Ch H' c g p (bh (al g false)) S (40+a * 293776000) (p.length+1) []/\Good g p S/\(∀ i R,g.rules[i]?=some R->R.left=g.start->(⟨i,0,0⟩:Item)∈S 0)/\∀ b,b < a->∀ x∈S b,sy g p S b x)/\f 5=gi (p.length+1)/\f 6=.ptr c 0 0/\f 38=gi (p.length+1)/\f 39=gi a) ?_ ?_
  .exact⟨⟨S0,w.more (by omega),z,q,λb hb=>by omega⟩,t5,t6,rfl,rfl⟩
  clear w z b2 q t2 t5 t6
  rintro a m f H hk ⟨⟨S,w,z,q,h⟩,t5,t6,t38,t39⟩
  simp(disch:=omega)only[↓wr,seval,wq,qd,t5,t6,t38,t39]
  apply ag.dec<;>intro K
  .simp(disch:=omega)only[↓wr,seval,wq,t5,t6,t38,t39]
   refine aP.up 17080 (λi f H'=>(∃ S,Ch H' c g p (bh (al g false)) S (40+a * 293776000+i * 17200) (p.length+1) []/\Good g p S/\(∀ i R,g.rules[i]?=some R->R.left=g.start->(⟨i,0,0⟩:Item)∈S 0)/\(∀ b,b < a->∀ x∈S b,sy g p S b x)/\i<=(S a).length/\∀ x∈(S a).take i,sy g p S a x)/\f 5=gi (p.length+1)/\f 6=.ptr c 0 0/\f 7=gi a/\f 8=gi i/\f 38=gi (p.length+1)/\f 39=gi a) ?_ ?_
   .exact⟨⟨S,w.more (by omega),z,q,h,PL _,λx d=>by simp at d⟩,t5,t6,rfl,rfl,t38,t39⟩
   clear w z q h t5 t6 t38 t39
   rintro i k f H hi ⟨⟨S,w,z,q,h,cf,N⟩,t5,t6,t7,t8,t38,t39⟩
   have A:a < p.length+1:=by omega
   obtain⟨U,ch,sv,G,C,ho⟩:=w.set (a:=a) A
   simp(disch:=omega)only[↓wr,seval,wq,pQ,t5,t6,t7,t8,t38,t39,G,C,gI A,ho.len]
   refine⟨A,by simp;omega,?_⟩
   have cj:=z.len hf hp a
   apply ag.dec<;>intro hc
   .obtain⟨m,b3,hm⟩:=ho.sl (by simp;omega)
    have O:(S a)[i]?=some ((S a)[i]'(by omega)):=OI (by omega)
    have a1:(S a)[i]'(by omega)∈S a:=OW _
    have a6:(S a).take (i+1)=(S a).take i ++ [(S a)[i]'(by omega)]:=by rw[Pe,O];rfl
    generalize (S a)[i]'(by omega)=x at O a1 a6
    have b4:((S a).map dx).getD i []=[bz x.aZ,bz x.dot,bz x.ca]:=by simp[OH,O,dx]
    simp(disch:=omega)only[↓wr,seval,wq,t5,t6,t7,t8,t38,t39,G,C,gI A,b3,hm,b4]
    refine⟨A,by simp;omega,by omega,by omega,?_⟩
    refine aj.dd ((Lz c g hr p hp S _ a x _ _ w z (by omega) (by omega) a1).mono ?_)
    rintro r1 H4 ⟨S',b5,b7,l,b8⟩
    simp(disch:=omega)only[↓wr,seval,wq,t8]
    refine ay hi (by omega) ⟨⟨S',b5.more (by omega),b7,λj R h1 v=>l.mem (q j R h1 v),λb hb x d=>(h b hb x (by rw[(l b).2 hb] at d;exact d)).grow (l.low (by omega)),?_,?_⟩,t5,t6,t7,rfl,t38,t39⟩
    .have:=(l a).1.length_le
     omega
    .obtain⟨t,ht⟩:=(l a).1
     rw[<-ht,List.take_append_of_le_length (by omega),a6]
     intro y I
     rcases Pg.1 I with I | I
     .exact(N y I).grow l
     .simp at I;subst I;exact b8
   .simp(disch:=omega)only[↓wr,seval,wq,t5,t6,t7,t8,t38,t39]
    have a7:i=(S a).length:=by omega
    rw[a7,Qw] at N
    refine ay hk (by omega) ⟨⟨S,w.more (by omega),z,q,λb hb x d=>?_⟩,t5,t6,t38,rfl⟩
    by_cases e:b=a
    .subst e;exact N x d
    .exact h b (by omega) x d
  .simp(disch:=omega)only[↓wr,seval,wq,t5,t6,t38,t39]
   have cc:∀ b x,x∈S b->b<=p.length:=λb x d=>by
    apply Decidable.byContradiction
    intro hn
    rw[z.out b (by omega)] at d
    simp at d
   have hd:=λb x (d:x∈S b)=>h b (by have:=cc b x d;omega) x d
   refine⟨c,S,_,rfl,w,z,⟨q,λa x R s d h1 v P Q=>(hd a x d).term R s h1 v P Q,λa x R s i R' d h1 v P Q h5 _=>(hd a x d).pred R s i R' h1 v P Q h5,λa x R s d h1 v P Q _=>(hd a x d).null R s h1 v P Q,λa y R' x R s I h1 v P d Q h5 h6 h7 _=>?_⟩⟩
   refine(hd a y I).comp R' h1 v P x d R Q ?_
   rw[h5,h7]
   congr 1
   omega
def jz (g:ai) (x:Item):Bool:=match g.rules[x.aZ]? with
 | some R=>decide (R.left=g.start) && decide (x.ca=0) && decide (x.dot=R.right.length)
 | none=>false
def Kept (H H':View):Prop:=∀ id,H id≠.dead->H' id=H id
theorem Kept.refl (H:View):Kept H H:=λ_ _=>rfl
theorem Kept.trans {H H' b:View} (h:Kept H H') (c:Kept H' b):Kept H b:=λid a=>by
 have h1:=h id a
 rw[<-h1] at a
 rw[c id a,h1]
theorem Kept.new {H:View} {b:Nat} {o:bp} (c:H b=.dead):Kept H (H.set b o):=λid a=>by
 have:id≠b:=by rintro rfl;exact a c
 simp[View.set,this]
def y7 (H:View) (c:Nat) (g:ai) (p:List Int):Prop:=∃ nu sid mid n,H c=.arr 8 [[.aX (g.ao.map c7),encS g.af,.aX (g.rules.map aS),gi g.start,encI p,nu,.sl sid 0 n 1,.sl mid 0 n 1]]
theorem y7.keep {H H':View} {c:Nat} {g:ai} {p:List Int} (h:y7 H c g p) (d:Kept H H'):y7 H' c g p:=by
 obtain⟨e,a,b,n,h⟩:=h
 exact⟨e,a,b,n,by rw[d c (by rw[h];simp)];exact h⟩
def jk:SF:=⟨ae [ab [cE 2 0,bb 3 false],ab [ak 5 1,fT 6 5,av 7 0 6,av 8 2 7,ak 9 8,av 10 0 2,ak 11 10,aW 12 3 9 11,ba 13 3 12,((some 4),.op (.alloc [(.val (.int .i64 0)),(.emp 1),(.val (.int .i64 0))])),cb 3 4 13],.region false [⟨none,[av 14 0 4,ak 15 14,ak 16 1,fT 17 16,av 18 0 17,av 19 3 18,ak 20 19,aV 21 .eql 15 20,aa 22 21]⟩,⟨(some (22,true)),[av 23 2 2,ak 24 23,ax 25 .eql 24 0]⟩,⟨none,[bV 26 22 25,aa 27 26]⟩,⟨(some (27,true)),[av 28 1 2,ak 29 28,av 30 1 4,ak 31 30,aR 32 31,aV 33 .eql 29 32]⟩,⟨none,[bV 34 27 33,aa 3 34]⟩],.ret],
 [.tmp 3],35⟩
theorem oL:aE Tryz.prog 113 [2]=some jk:=by kernel_rfl
def c5:SC :=
 ae [ab [aV 9 .lss 8 7],bH 9 (.exit 0),.block 1 (ae [ab [aa 10 8,aa 5 10],ab [aa 11 1,aa 12 0,aa 13 5,aW 14 3 12 13,ba 15 3 14,((some 16),.call (.tmp 11) [(.tmp 15)])],bc 16 (ae [ab [aa 17 5,aa 4 17],.ret])]),ab [ax 18 .add 8 1,aa 8 18]]
def dp:SF:=⟨ae [ab [aN 4 0],ae [ab [aa 6 0,aR 7 6,aN 8 0],bJ 0 c5],ab [aN 4 (-1)],.ret],
 [.tmp 4],19⟩
theorem fg:aE Tryz.prog 178 []=some dp:=by kernel_rfl
def cY:SF:=⟨ae [ab [bb 4 false],ab [aa 5 0,aa 6 1,aJ 7 178 [5,6],ax 8 .geq 7 0,aa 4 8],.ret],
 [.tmp 4],9⟩
theorem eP:aE Tryz.prog 112 []=some cY:=by kernel_rfl
def kN:SF:=⟨ae [ab [cE 1 0,bb 2 false],ab [ak 3 1,fT 4 3,av 5 6 4,ak 6 5,ak 7 1,fT 8 7,av 9 4 8,ak 10 9,aR 11 10,aW 12 1 6 11,ak 13 12,((some 14),.op (.sH 113 [] [(.tmp 1)])),aJ 15 112 [13,14],aa 2 15],.ret],
 [.tmp 2],16⟩
theorem pM:aE Tryz.prog 54 [1]=some kN:=by kernel_rfl
theorem Hi (c:Nat) (g:ai) (p:List Int) (x:Item) (H:View) (d:y7 H c g p) (f:x.aZ < g.rules.length):an Tryz.prog 113 [.agg (dx x),.aC [.ptr c 0 0] 0] H λr H'=>r=gb (jz g x)/\Kept H H':=by
 obtain⟨m,j,k,n,a⟩:=d
 have h:g.rules[x.aZ]?=some (g.rules[x.aZ]'f):=OI f
 generalize g.rules[x.aZ]'f=R at h
 have hw:jz g x=(decide (R.left=g.start) && decide (x.ca=0) && decide (x.dot=R.right.length)):=by unfold jz;rw[h]
 refine an.of mixed oL ?_
 simp(disch:=omega)only[↓wr,seval,wq,jk,dx,a,aS,encI,ON,h]
 intro b d
 have i:c≠b:=by rintro rfl;rw[a] at d;simp at d
 simp only[OK i]
 simp(disch:=omega)only[↓wr,seval,wq,a]
 apply ag.eq<;>intro e
 .simp(disch:=omega)only[↓wr,seval,wq]
  apply ag.eq<;>intro l
  .simp(disch:=omega)only[↓wr,seval,wq]
   refine⟨?_,?_⟩
   .rw[hw,PO e,PO (show x.ca=0 by omega),gb]
    congr 2
    rw[PI]
    simp
    omega
   .rw[set_set];exact Kept.new d
  .simp(disch:=omega)only[↓wr,seval,wq]
   refine⟨?_,?_⟩
   .rw[hw,PO e,decide_eq_false (show ¬ x.ca=0 by omega)];rfl
   .rw[set_set];exact Kept.new d
 .simp(disch:=omega)only[↓wr,seval,wq]
  refine⟨?_,?_⟩
  .rw[hw,decide_eq_false e];rfl
  .rw[set_set];exact Kept.new d
theorem IT (c:Nat) (g:ai) (p:List Int) (u:V) (l:List Item) (H:View) (A:y7 H c g p) (q:aO H u 3 (l.map dx)) (B:∀ x∈l,x.aZ < g.rules.length) (C:l.length < 1000000) :
  an Tryz.prog 178 [u,.fn 113 [] [.aC [.ptr c 0 0] 0]] H λr H'=>∃ k:Int,r=gi k/\-1<=k/\k < 1000000/\(0<=k↔l.any (jz g)=true)/\Kept H H':=by
 refine an.of mixed fg ?_
 simp(disch:=omega)only[↓wr,seval,wq,dp,q.len]
 refine aP.up l.length (λi j H'=>Kept H H'/\(l.take i).any (jz g)=false/\j 0=u/\j 1=.fn 113 [] [.aC [.ptr c 0 0] 0]/\j 7=bz l.length/\j 8=bz i) ?_ ?_
 .exact⟨.refl _,by simp,rfl,rfl,rfl,rfl⟩
 rintro i k j H' hk ⟨a,b,t0,t1,t7,t8⟩
 have s:=A.keep a
 have t:aO H' u 3 (l.map dx):=q.keep λid v=>a id (by rw[(q.live v).1];simp)
 simp(disch:=omega)only[↓wr,seval,wq,c5,t0,t1,t7,t8]
 apply ag.dec<;>intro D
 .obtain⟨m,w,hm⟩:=t.sl (by simp;omega)
  have d:l[i]?=some (l[i]'(by omega)):=OI (by omega)
  have f:l[i]'(by omega)∈l:=OW _
  have n:l.take (i+1)=l.take i ++ [l[i]'(by omega)]:=by rw[Pe,d];rfl
  generalize l[i]'(by omega)=x at d f n
  have y:(l.map dx).getD i []=[bz x.aZ,bz x.dot,bz x.ca]:=by simp[OH,d,dx]
  have z:=B x f
  simp(disch:=omega)only[↓wr,seval,wq,t0,t1,t7,t8,w,hm,y]
  refine⟨by omega,by omega,?_⟩
  refine aj.dd ((Hi c g p x H' s z).mono ?_)
  rintro r E ⟨rfl,o⟩
  simp(disch:=omega)only[↓wr,seval,wq]
  apply ag.split<;>intro e
  .simp(disch:=omega)only[↓wr,seval,wq,t8]
   refine⟨(i:Int),rfl,by omega,by omega,⟨λ_=>List.any_eq_true.2 ⟨x,f,e⟩,λ_=>by omega⟩,a.trans o⟩
  .simp(disch:=omega)only[↓wr,seval,wq,t8]
   exact ay hk (by omega) ⟨a.trans o,by rw[n,List.any_append,b];simp[e],t0.trans rfl,t1,t7,rfl⟩
 .simp(disch:=omega)only[↓wr,seval,wq]
  have:i=l.length:=by omega
  subst this
  rw[Qw] at b
  exact⟨-1,rfl,by omega,by omega,⟨λh=>by omega,λh=>by rw[b] at h;simp at h⟩,a⟩
theorem BB (c:Nat) (g:ai) (p:List Int) (u:V) (l:List Item) (H:View) (b:y7 H c g p) (d:aO H u 3 (l.map dx)) (e:∀ x∈l,x.aZ < g.rules.length) (a:l.length < 1000000) :
  an Tryz.prog 112 [u,.fn 113 [] [.aC [.ptr c 0 0] 0]] H λr H'=>r=gb (l.any (jz g))/\Kept H H':=by
 refine an.of mixed eP ?_
 simp(disch:=omega)only[↓wr,seval,wq,cY]
 refine aj.dd ((IT c g p u l H b d e a).mono ?_)
 rintro r i ⟨k,rfl,h1,j,f,h⟩
 simp(disch:=omega)only[↓wr,seval,wq]
 refine⟨?_,h⟩
 rw[gb]
 congr 2
 rw[PI,<-f]
 simp
theorem KN (c:Nat) (g:ai) (f:g.qz) (p:List Int) (hp:p.length<=60) (i:V) (S:Nat->List Item) (B:Nat) (K:List (Nat × bp)) (H:View) (j:Ch H c g p i S B (p.length+1) K) (h:Good g p S) :
  an Tryz.prog 54 [.ptr c 0 0] H λr _=>r=gb ((S p.length).any (jz g)):=by
 obtain⟨k,l,m,b,d,n⟩:=j.set (a:=p.length) (by omega)
 have e:p.length < p.length+1:=by omega
 have hr:=f.rules
 refine an.of mixed pM ?_
 simp(disch:=omega)only[↓wr,seval,wq,kN,b,encI,d,gI e]
 refine⟨by omega,by simp,?_⟩
 refine aj.dd ((BB c g p (m p.length) (S p.length) H ⟨_,_,_,_,b⟩ n (λx o=>?_) (by have:=h.len f hp p.length;omega)).mono ?_)
 .obtain⟨R,q,_⟩:=h.sound _ _ o
  exact(OV.1 q).1
 rintro r s ⟨rfl,_⟩
 simp(disch:=omega)only[↓wr,seval,wq]
theorem HW {g:ai} (hr:aA g=true) {p:List Int} {S:Nat->List Item} (c:Good g p S) (d:yx g p S):(S p.length).any (jz g)=dC g p:=by
 rw[PI,mq hr,<-IN hr d c.sound,List.any_eq_true]
 constructor
 .rintro⟨x,a,hw⟩
  refine⟨x,a,?_⟩
  unfold jz at hw
  split at hw
  .rename_i R b
   simp only[OO,OT] at hw
   exact⟨R,b,hw.1.1,hw.1.2,hw.2⟩
  .simp at hw
 .rintro⟨x,a,R,b,h1,e,f⟩
  refine⟨x,a,?_⟩
  unfold jz
  rw[b]
  simp only[OO,OT]
  exact⟨⟨h1,e⟩,f⟩
def tx:SF:=⟨ae [ab [cE 2 0,bb 4 false,aN 5 0],ae [.region false [⟨none,[ba 6 4 2,aJ 7 89 [6],bS 8 7,aa 9 8]⟩,⟨(some (9,false)),[aa 10 1,aR 11 10,ax 12 .gtr 11 60]⟩,⟨none,[bq 13 9 12,aa 14 13]⟩,⟨(some (14,false)),[aa 15 1,((some 16),.op (.sH 91 [] [(.tmp 2)])),aJ 17 90 [15,16]]⟩,⟨none,[bq 18 14 17]⟩],bc 18 (ae [ab [bb 4 false,aN 5 1],.ret])],ab [ba 19 4 2,aa 20 1,aJ 21 53 [19,20],aJ 22 54 [21],aa 4 22,aN 5 0],.ret],
 [.tmp 4,.tmp 5],23⟩
theorem wO:aE Tryz.prog 45 [2]=some tx:=by kernel_rfl
theorem KZ (g:ai) (h:g.Ok) (j:g.Small) (p:List Int) (hp:aG p) (m:∀ x∈p,bm x):ar Tryz.prog 45 [.agg (ah g),encI p] (CF (vo g p)):=by
 refine ar.tree (KI g p) (G7 _) λH=>?_
 have d:=gH p hp 91 [.aC (ah g) 0] (by intro v k;simp at k;subst k;exact gu (cy g)) (λx=>!(decide (-1<=x) && decide (x < g.ao.length))) (λx n=>Hu g h x (m x n)) (by kernel_rfl)
 refine an.of mixed wO ?_
 unfold aG at hp
 simp(disch:=omega)only[↓wr,seval,wq,tx,ah,encS]
 refine aj.pure (tS g h j.names) ?_
 simp only[ah,encS] at d
 have bad:(aA g && decide (p.length<=60) && uD g p)=false->CF (vo g p)=.aU [gb false,gi 1]:=λe=>by
  unfold vo;rw[OK (by rw[e];simp)];rfl
 simp(disch:=omega)only[↓wr,seval,wq]
 apply ag.split<;>intro hr
 .simp(disch:=omega)only[↓wr,seval,wq,encI]
  apply ag.dec<;>intro o
  .simp(disch:=omega)only[↓wr,seval,wq]
   exact(bad (by rw[decide_eq_false (show ¬ p.length<=60 by omega)];simp)).symm
  .simp(disch:=omega)only[↓wr,seval,wq]
   refine aj.pure d ?_
   simp(disch:=omega)only[↓wr,seval,wq]
   apply ag.split<;>intro a
   .simp(disch:=omega)only[↓wr,seval,wq]
    rw[<-List.not_all_eq_any_not] at a
    exact(bad (by rw[show uD g p=false by simpa [uD] using a];simp)).symm
   .rw[<-List.not_all_eq_any_not] at a
    have i:uD g p=true:=by simpa [uD] using a
    have b:p.length<=60:=by omega
    simp(disch:=omega)only[↓wr,seval,wq]
    have f:=Ls g h hr j p b H
    simp only[ah,encS] at f
    refine aj.dd (f.mono ?_)
    rintro r H1 ⟨c,S,B,rfl,q,l,a⟩
    simp(disch:=omega)only[↓wr,seval,wq]
    refine aj.dd ((KN c g (az hr) p b _ S B _ H1 q l).mono ?_)
    rintro r s rfl
    simp(disch:=omega)only[↓wr,seval,wq]
    rw[vo,OM (by rw[hr,i,PO b];rfl),HW hr l a];rfl
 .simp(disch:=omega)only[↓wr,seval,wq]
  exact(bad (by rw[hr];simp)).symm
section
variable {g:ai} {p:List Int} {T:Tb} {N:Nat}
end
theorem GS (x:Bool × Int):wJ (CF x):=.aU _ λi hi=>by
 match i,hi with
 | 0,_=>exact⟨_,rfl⟩
 | 1,_=>exact⟨_,rfl⟩
theorem ey.NM {H:View} {u:V} {l:List Int} (h:aO H u 1 (bd l)):ey H u (encI l):=ey.own h λe he v a=>by
 obtain⟨x,_,rfl⟩:=O9.1 he
 simp at a;subst a;exact .val _
def pad (h:List Int) (k:Nat):List Int:=h ++ List.replicate k (-1)
def eN (fit:List Int->Bool) (T:Nat):Nat->List Int->List (List Int)
 | 0,h=>if fit (pad h 0)=true then [h] else []
 | k+1,h=>if fit (pad h (k+1))=true then (List.range T).flatMap λ(t:Nat)=>eN fit T k (h ++ [(t:Int)]) else []
def bZ (fit:List Int->Bool) (T b:Nat):Nat->List Int->List (List Int)->List (List Int)
 | 0,h,out=>if b < out.length∨fit (pad h 0)=false then out else out ++ [h]
 | k+1,h,out=>if b < out.length∨fit (pad h (k+1))=false then out else (List.range T).foldl (λo (t:Nat)=>bZ fit T b k (h ++ [(t:Int)]) o) out
section
variable {fit:List Int->Bool} {T b:Nat}
theorem yA {k:Nat} {h:List Int} {out:List (List Int)} (a:b < out.length):bZ fit T b k h out=out:=by
 cases k <;> rw[bZ,OM (.inl a)]
theorem Aw {α:Type} {f:List (List Int)->α->List (List Int)} {a:α->List (List Int)} (d:∀ o x,∃ l,f o x=o ++ l/\((f o x).length<=b->l=a x)/\(b < (f o x).length->b < (o ++ a x).length)/\(o.length<=b+1->(f o x).length<=b+1)/\(b < o.length->f o x=o)):∀ (xs:List α) (o:List (List Int)),
  ∃ l,xs.foldl f o=o ++ l/\((xs.foldl f o).length<=b->l=xs.flatMap a)/\(b < (xs.foldl f o).length->b < (o ++ xs.flatMap a).length)/\(o.length<=b+1->(xs.foldl f o).length<=b+1)/\(b < o.length->xs.foldl f o=o)
 | [],o=>⟨[],by simp,λ_=>by simp,λh=>by simpa using h,id,λ_=>rfl⟩
 | x :: xs,o=>by
  obtain⟨k,e,h1,g1,m1,m⟩:=d o x
  obtain⟨n,g,p,g2,m2,i⟩:=Aw d xs (f o x)
  refine⟨k ++ n,by rw[O3,g,e,PR],λc=>?_,λc=>?_,λc=>by rw[O3];exact m2 (m1 c),λc=>by
   have:=m c
   rw[this] at i
   rw[O3,this];exact i c⟩
  .rw[O3] at c
   have hle:(f o x).length<=b:=by rw[g,PG] at c;omega
   rw[h1 hle,p c,List.flatMap_cons]
  .rw[O3] at c
   have j:=g2 c
   by_cases q:b < (f o x).length
   .have:=g1 q
    simp only[List.flatMap_cons,PG] at this ⊢
    omega
   .rw[e,h1 (by omega)] at j
    rw[List.flatMap_cons,<-PR];exact j
theorem sq:∀ (k:Nat) (h:List Int) (out:List (List Int)),∃ l,bZ fit T b k h out=out ++ l/\((bZ fit T b k h out).length<=b->l=eN fit T k h)/\(b < (bZ fit T b k h out).length->b < (out ++ eN fit T k h).length) /\
  (out.length<=b+1->(bZ fit T b k h out).length<=b+1)/\(b < out.length->bZ fit T b k h out=out)
 | 0,h,out=>by
  rw[bZ,eN]
  by_cases a:b < out.length
  .rw[OM (.inl a)]
   exact⟨[],by simp,λh=>by omega,λ_=>by rw[PG];omega,id,λ_=>rfl⟩
  .cases c:fit (pad h 0) with
   | false=>rw[OM (.inr rfl)];exact⟨[],by simp,λ_=>by simp,λh=>by simpa using h,id,λ_=>rfl⟩
   | true =>
    rw[OK (by simp;omega),OM rfl]
    exact⟨[h],rfl,λ_=>rfl,id,λ_=>by simp;omega,λh=>absurd h a⟩
 | k+1,h,out=>by
  rw[bZ,eN]
  by_cases a:b < out.length
  .rw[OM (.inl a)]
   exact⟨[],by simp,λh=>by omega,λ_=>by rw[PG];omega,id,λ_=>rfl⟩
  .cases c:fit (pad h (k+1)) with
   | false=>rw[OM (.inr rfl)];exact⟨[],by simp,λ_=>by simp,λh=>by simpa using h,id,λ_=>rfl⟩
   | true =>
    rw[OK (by simp;omega),OM rfl]
    exact Aw (λo (t:Nat)=>sq k (h ++ [(t:Int)]) o) _ _
theorem zw {k:Nat} {h:List Int} {out:List (List Int)} (a:out.length<=b+1):(bZ fit T b k h out).length<=b+1:=by
 obtain⟨l,_,_,_,c,_⟩:=sq (fit:=fit) (T:=T) (b:=b) k h out
 exact c a
theorem Ae {k:Nat} {h:List Int} : ∀ {l:List Nat} {out:List (List Int)},out.length<=b+1->(l.foldl (λo (t:Nat)=>bZ fit T b k (h ++ [(t:Int)]) o) out).length<=b+1
 | [],_,a=>a
 | _ :: _,_,a=>by rw[O3];exact Ae (zw a)
theorem jY:∀ (k:Nat) (h w:List Int),w∈eN fit T k h->fit w=true/\∃ s,w=h ++ s/\s.length=k/\∀ x∈s,0<=x/\x < (T:Int)
 | 0,h,w,hm=>by
  rw[eN] at hm
  split at hm
  .rename_i b
   simp at hm;subst hm
   exact⟨by simpa [pad] using b,[],by simp,rfl,by simp⟩
  .simp at hm
 | k+1,h,w,hm=>by
  rw[eN] at hm
  split at hm
  .rename_i b
   rw[List.mem_flatMap] at hm
   obtain⟨t,c,hm⟩:=hm
   obtain⟨h1,s,rfl,d,e⟩:=jY k _ w hm
   rw[Pm] at c
   refine⟨h1,(t:Int) :: s,by simp,by simp[d],λx a=>?_⟩
   rcases O1.1 a with rfl | a
   .omega
   .exact e x a
  .simp at hm
theorem Ce (hw:∀ (h s:List Int),fit (h ++ s)=true->fit (pad h s.length)=true):∀ (k:Nat) (h s:List Int),s.length=k->(∀ x∈s,0<=x/\x < (T:Int))->fit (h ++ s)=true->h ++ s∈eN fit T k h
 | 0,h,s,a,_,b=>by
  have:s=[]:=PS.1 a
  subst this
  have:=hw h [] b
  rw[eN,OM (by simpa using this)];simp
 | k+1,h,s,a,c,b=>by
  cases s with
  | nil=>simp at a
  | cons x s =>
   have hp:=hw h (x :: s) b
   rw[a] at hp
   rw[eN,OM hp,List.mem_flatMap]
   have f:=c x (by simp)
   refine⟨x.toNat,by rw[Pm];omega,?_⟩
   have e:((x.toNat:Nat):Int)=x:=by omega
   rw[e]
   have:=Ce hw k (h ++ [x]) s (by simpa using a) (λy d=>c y (by simp[d])) (by simpa using b)
   simpa using this
def pV:List Int->List Int->Bool
 | a :: l,b :: m=>if a=b then pV l m else decide (a < b)
 | [],_ :: _=>true
 | _,[]=>false
theorem HH (h:List Int) (a b:List Int):pV (h ++ a) (h ++ b)=pV a b:=by
 induction h with
 | nil=>rfl
 | cons x h c=>simp[pV,c]
def HB (l:List (List Int)):Prop:=l.Pairwise λa b=>pV a b=true
theorem vL:∀ (k:Nat) (h:List Int),HB (eN fit T k h)
 | 0,h=>by
  rw[eN]
  split
  .exact List.pairwise_singleton _ _
  .exact .nil
 | k+1,h=>by
  rw[eN]
  split
  .rw[HB,List.pairwise_flatMap]
   refine⟨λt _=>vL k _,?_⟩
   refine List.Pairwise.imp ?_ List.pairwise_lt_range
   intro a b c x d y e
   obtain⟨_,s,rfl,_⟩:=jY k _ x d
   obtain⟨_,f,rfl,_⟩:=jY k _ y e
   rw[PR,PR,HH]
   simp only[PD,PK,pV]
   rw[OK (by omega)]
   simp;exact c
  .exact .nil
end
theorem KY {h s:List Int} (i:Nat) (x:Int) (b:jg (h ++ s) i x):jg (pad h s.length) i x:=by
 obtain⟨c,a,d⟩:=b
 unfold jg pad
 by_cases hi:i < h.length
 .exact⟨c,by rw[O6 hi] at a ⊢;exact a,d⟩
 .have e:=(OV.1 a).1
  rw[PG] at e
  refine⟨-1,?_,.inr rfl⟩
  rw[Ph (by omega),Pw,OM (by omega)]
def fu (l:List (List Int)):V:=.aX (l.map λw=>[encI w])
theorem oS (l:List (List Int)):Tree (fu l):=iB _ _ λx _ v a=>by
 simp at a;subst a;exact dU x
abbrev Lo:=List (V × List Int)
def gB (b:Lo):List (List V):=b.map λx=>[x.1]
def eh (H:View) (u:V) (out:List (List Int)):Prop:=∃ b:Lo,b.map (·.2)=out/\aO H u 1 (gB b)/\∀ x∈b,aO H x.1 1 (bd x.2)
theorem eh.nil {H:View} {k:Nat} : eh H (.emp k) []:=⟨[],rfl,.nil,by simp⟩
theorem eh.len {H:View} {u:V} {out:List (List Int)} (h:eh H u out):dh u=some out.length:=by
 obtain⟨b,rfl,a,_⟩:=h
 rw[a.len];simp[gB]
theorem Ml {H:View} {u:V} {b:Lo} (h:aO H u 1 (gB b)) (f:∀ x∈b,aO H x.1 1 (bd x.2)) {x:V × List Int} (g:x∈b) {id:Nat} (a:owner x.1=some id):owner u≠some id:=by
 intro e
 have h1:=(h.live e).1
 have i:=((f x g).live a).1
 rw[i] at h1
 simp only[bp.arr.injEq,true_and] at h1
 cases b with
 | nil=>simp at g
 | cons y r =>
  have j:=f y (by simp)
  cases hw:x.2 with
  | nil=>rw[hw] at h1;simp[gB] at h1
  | cons c w =>
   rw[hw] at h1
   simp only[gB,Pa,List.cons.injEq] at h1
   rcases j with ⟨_,k,d⟩ | ⟨n,d,_⟩
   .rw[d] at h1;simp at h1
   .rw[d] at h1;simp at h1
theorem eh.keep {H H':View} {u:V} {out:List (List Int)} (h:eh H u out) (hk:∀ id,H id≠.dead->H' id=H id):eh H' u out:=by
 obtain⟨b,e,c,d⟩:=h
 exact⟨b,e,c.keep λid a=>hk id (by rw[(c.live a).1];simp),λx f=>(d x f).keep λid a=>hk id (by rw[((d x f).live a).1];simp)⟩
theorem eh.add {H H':View} {u u' v:V} {b:Lo} {w:List Int} (f:aO H u 1 (gB b)) (d:∀ x∈b,aO H x.1 1 (bd x.2)) (g:aO H v 1 (bd w)) (h:∀ id,owner v=some id->owner u≠some id)
  (h1:aO H' u' 1 (gB b ++ [[v]])) (e:Left H H' u u'):eh H' u' (b.map (·.2) ++ [w]):=by
 refine⟨b ++ [(v,w)],by simp,by simpa [gB] using h1,λx a=>?_⟩
 rcases Pg.1 a with a | a
 .exact(d x a).left e λid c=>Ml f d a c
 .simp at a;subst a
  exact g.left e h
theorem eh.Nw {h:aw} {u:V} {out:List (List Int)} (d:eh h.view u out):de h u (fu out):=by
 obtain⟨b,rfl,d,f⟩:=d
 have c:∀ i (hi:i < b.length),(gB b).getD i []=[(b[i]).1]/\(((b.map (·.2)).map λw=>[encI w]).getD i [])=[encI (b[i]).2]:=λi hi=>by
  simp[gB,OH,hi]
 refine de.own d (by simp[gB]) (λi hi=>?_) (λi j hi e=>?_)
 .have a:i < b.length:=by simpa [gB] using hi
  rw[(c i a).1,(c i a).2];rfl
 .have a:i < b.length:=by simpa [gB] using hi
  rw[(c i a).2] at e ⊢
  rw[(c i a).1]
  have:j=0:=by simp at e;omega
  subst this
  simp only[PY]
  exact de.yV (f _ (OW a))
def pa (H:View) (v:V) (p:List Int):Prop:=v=encI p∨(p≠[]/\∃ n,v=.sl n 0 p.length 1/\H n=.arr 1 (bd p))
theorem pa.Fs {H:View} {v:V} {p:List Int} (h:pa H v p):ey H v (encI p):=by
 rcases h with rfl | ⟨_,n,rfl,a⟩
 .exact .tree (dU p)
 .exact so a rfl
theorem pa.len {H:View} {v:V} {p:List Int} (h:pa H v p):dh v=some p.length:=by
 rcases h with rfl | ⟨_,n,rfl,a⟩
 .simp[encI,dh]
 .rfl
def jH (H H':View) (f:Nat) (u u':V):Prop:=∀ id,H id≠.dead->id≠f->owner u≠some id->H' id=H id/\owner u'≠some id
theorem jH.refl {H:View} {f:Nat} {u:V} : jH H H f u u:=λ_ _ _ h=>⟨rfl,h⟩
theorem jH.trans {H H1 e:View} {f:Nat} {u g h:V} (h1:jH H H1 f u g) (k:jH H1 e f g h):jH H e f u h:=λid i j hu=>by
 obtain⟨a,b⟩:=h1 id i j hu
 obtain⟨c,d⟩:=k id (by rw[a];exact i) j b
 exact⟨c.trans a,d⟩
theorem zA (l:List Int) (b:l.length<=100000) (v:V) (H:View) (c:pa H v l):an Tryz.prog 140 [v] H λr H'=>aO H' r 1 (bd l)/\jK H H' r:=by
 rcases c with rfl | ⟨a,n,rfl,d⟩
 .exact Jf l b H
 .cases l with
  | nil=>exact absurd rfl a
  | cons p r =>
   refine an.of mixed cn ?_
   simp only[OY] at b ⊢
   have he:bD H (.sl n 0 (r.length+1) 1)=some (bd (p :: r),[n]):=by
    rw[GD _ n 0 r.length 1 1 _ d (by simp),List.drop_zero,O8 (by simp)]
   simp(disch:=omega)only[↓wr,seval,wq,bY,he]
   refine⟨by simp[aD,List.all_map],by unfold aB;simp;omega,λm hm=>?_⟩
   simp(disch:=omega)only[↓wr,seval,wq]
   have:=aO.new (H:=H) (n:=m) (sz:=1) (es:=bd (p :: r))
   simp only[OX,OY] at this
   exact⟨by simpa using this,.new hm⟩
theorem jH.kept {H H':View} {f:Nat} {u:V} (h:∀ id,H id≠.dead->H' id=H id):jH H H' f u u:=λid a _ hu=>⟨h id a,hu⟩
theorem y8 {H:View} {u:V} {sz f z:Nat} {es:List (List V)} {e:List (List V)} (a:aO H u sz es) (b:H f=.arr z e) (c:sz≠z):owner u≠some f:=λd=>by
 have:=(a.live d).1
 rw[b] at this
 simp only[bp.arr.injEq] at this
 exact c this.1.symm
theorem eh.box {H:View} {u:V} {out:List (List Int)} {f:Nat} {e:List (List V)} {o:bp} (h:eh H u out) (a:H f=.arr 6 e):eh (H.set f o) u out:=by
 obtain⟨b,i,c,d⟩:=h
 exact⟨b,i,c.other (y8 c a (by decide)),λx g=>(d x g).other (y8 (d x g) a (by decide))⟩
theorem pa.Nk {H H':View} {v u u':V} {p:List Int} {out:List (List Int)} {f:Nat} {e:List (List V)} (h:pa H v p) (d:eh H u out) (i:H f=.arr 6 e) (hk:jH H H' f u u'):pa H' v p:=by
 rcases h with rfl | ⟨hp,n,rfl,a⟩
 .exact .inl rfl
 .refine .inr ⟨hp,n,rfl,?_⟩
  rw[(hk n (by rw[a];simp) (λe=>by rw[e,i] at a;simp at a) (λe=>?_)).1,a]
  obtain⟨b,_,d,j⟩:=d
  have h1:=(d.live e).1
  rw[a] at h1
  simp only[bp.arr.injEq,true_and] at h1
  cases p with
  | nil=>exact hp rfl
  | cons c w =>
   cases b with
   | nil=>simp[gB] at h1
   | cons y r =>
    simp only[gB,Pa,List.cons.injEq] at h1
    rcases j y (by simp) with ⟨_,k,g⟩ | ⟨n,g,_⟩
    .rw[g] at h1;simp at h1
    .rw[g] at h1;simp at h1
def ja (g:ai) (bud:Nat) (u:V):List V:=[.aX (g.ao.map c7),.aX (g.af.map λs=>[gs s]),.aX (g.rules.map aS),gi g.start,gi bud,u]
def lS:SF:=⟨ae [ab [bb 2 false],ab [aa 3 0,fT 4 3,av 5 5 4,ak 6 5,aR 7 6,aa 8 0,fT 9 8,av 10 4 9,ak 11 10,aV 12 .gtr 7 11,aa 2 12],.ret],
 [.tmp 2],13⟩
theorem qD:aE Tryz.prog 116 []=some lS:=by kernel_rfl
def lI:SF:=⟨ae [ab [bb 4 false],ab [aa 8 0,fT 9 8,av 10 0 9,ba 11 4 10,aa 12 1,aJ 13 45 [11,12],aa 7 13,cP 14 0 7,cP 15 1 7,aa 5 14,aa 6 15],.region false [⟨none,[aa 16 5,aa 17 16]⟩,⟨(some (17,true)),[aa 18 6,ax 19 .eql 18 0]⟩,⟨none,[bV 20 17 19,aa 4 20]⟩],.ret],
 [.tmp 4],21⟩
theorem qO:aE Tryz.prog 179 []=some lI:=by kernel_rfl
def kA:SC :=
 ae [ab [aV 38 .lss 37 36],bH 38 (.exit 0),.block 1 (ae [ab [aa 39 37,aa 6 39],ab [aa 40 1,aJ 41 140 [40],aa 7 41],ab [aa 42 7,aa 43 2,aa 44 6,aW 45 1 42 43,cb 1 45 44],ab [aa 46 0,aa 47 7,aa 48 2,ax 49 .add 48 1,aJ 50 114 [46,47,49]]]),ab [ax 51 .add 37 1,aa 37 51]]
def gQ:SF:=⟨ae [ae [.region false [⟨none,[aa 8 0,aJ 9 116 [8],aa 10 9]⟩,⟨(some (10,false)),[aa 11 0,aa 12 1,aJ 13 179 [11,12],bS 14 13]⟩,⟨none,[bq 15 10 14]⟩],bc 15 (.ret)],ae [ab [aa 16 2,aa 17 1,aR 18 17,aV 19 .eql 16 18],bc 19 (ae [.region true [⟨none,[aa 20 0,aa 21 0,fT 22 21,av 23 5 22,ak 24 23,aa 25 1,aJ 26 140 [25],((some 27),.op (.bM 1 1 [(.emp 1)] [(0,(.tmp 26))])),pk 28 1 24 24 27,fT 29 20,av 30 5 29,cb 1 30 28]⟩],.ret])],ab [aa 31 0,fT 32 31,av 33 0 32,av 34 0 33,ak 35 34,aR 36 35,aN 37 0],bJ 0 kA],
 [],52⟩
theorem jm:aE Tryz.prog 114 []=some gQ:=by kernel_rfl
theorem wL (g:ai) (a f:Nat) (u:V) (out:List (List Int)) (H:View) (b:H f=.arr 6 [ja g a u]) (c:eh H u out):an Tryz.prog 116 [.ptr f 0 0] H λr H'=>r=gb (decide (a < out.length))/\H'=H:=by
 refine an.of mixed qD ?_
 simp(disch:=omega)only[↓wr,seval,wq,lS,b,ja,c.len]
 simp
theorem L8 {g:ai} {h:List Int} {k:Nat} (b:∀ x∈h,0<=x/\x < (g.ao.length:Int)):uD g (pad h k)=true:=by
 unfold uD pad
 rw[O7]
 intro x a
 rcases Pg.1 a with a | a
 .have:=b x a;simp;omega
 .have:=(List.mem_replicate.1 a).2
  subst this;simp;omega
theorem HZ {g:ai} (hr:aA g=true) {h:List Int} {k:Nat} (a:∀ x∈h,0<=x/\x < (g.ao.length:Int)) (b:h.length+k<=60):vo g (pad h k)=(dC g (pad h k),0):=by
 rw[vo,OM]
 rw[hr,L8 a,PO (by simp[pad];omega)];rfl
theorem MX {g:ai} (c:g.Ok) {h:List Int} {k:Nat} (d:∀ x∈h,0<=x/\x < (g.ao.length:Int)):∀ x∈pad h k,bm x:=by
 intro x a
 have b:=c.ao
 unfold aG at b
 unfold pad at a
 unfold bm
 rcases Pg.1 a with a | a
 .have:=d x a;omega
 .have:=(List.mem_replicate.1 a).2;omega
theorem CG (g:ai) (c:g.Ok) (i:g.Small) (hr:aA g=true) (a f:Nat) (u v:V) (h:List Int) (k:Nat) (H:View) (j:H f=.arr 6 [ja g a u]) (l:pa H v (pad h k)) (d:∀ x∈h,0<=x/\x < (g.ao.length:Int)) (m:h.length+k<=60) :
  an Tryz.prog 179 [.ptr f 0 0,v] H λr H'=>r=gb (dC g (pad h k))/\H'=H:=by
 have b:=KZ g c i (pad h k) (by unfold aG pad;simp;omega) (MX c d)
 rw[HZ hr d m] at b
 simp only[ah,encS] at b
 refine an.of mixed qO ?_
 simp(disch:=omega)only[↓wr,seval,wq,lI,j,ja]
 refine aj.FL b (by kernel_rfl) (GS _) ⟨.tree (cW _ (cy g)),l.Fs,trivial⟩ ?_
 simp(disch:=omega)only[↓wr,seval,wq,CF]
 apply ag.split<;>intro e
 .simp(disch:=omega)only[↓wr,seval,wq]
  simp[e]
 .simp(disch:=omega)only[↓wr,seval,wq]
  simp[e]
theorem Mh (g:ai) (R:g.Ok) (hs:g.Small) (hr:aA g=true) (a:Nat) (b2:a<=500) (f:Nat):∀ (k:Nat) (h:List Int),(∀ x∈h,0<=x/\x < (g.ao.length:Int))->h.length+k<=60->∀ (v u:V) (out:List (List Int)) (H:View),
  H f=.arr 6 [ja g a u]->eh H u out->out.length<=a+1->pa H v (pad h k) ->
  an Tryz.prog 114 [.ptr f 0 0,v,gi h.length] H λ_ H'=>∃ u',H' f=.arr 6 [ja g a u']/\eh H' u' (bZ (dC g) g.ao.length a k h out)/\jH H H' f u u':=by
 intro k
 induction k with
 | zero =>
  intro h P S v u out U c w z A
  refine an.of mixed jm ?_
  simp(disch:=omega)only[↓wr,seval,wq,gQ]
  refine aj.dd ((wL g a f u out U c w).mono ?_)
  rintro r H1 ⟨rfl,rfl⟩
  simp(disch:=omega)only[↓wr,seval,wq]
  apply ag.dec<;>intro B
  .simp(disch:=omega)only[↓wr,seval,wq]
   exact⟨u,c,by rw[yA B];exact w,.refl⟩
  .simp(disch:=omega)only[↓wr,seval,wq]
   refine aj.dd ((CG g R hs hr a f u v h 0 H1 c A P S).mono ?_)
   rintro r Q ⟨rfl,rfl⟩
   simp(disch:=omega)only[↓wr,seval,wq]
   apply ag.split<;>intro hp
   .simp(disch:=omega)only[↓wr,seval,wq,A.len]
    refine ag.eq (λ_=>?_) (λe=>absurd (by simp[pad]) e)
    have W:pa Q v h:=by simpa [pad] using A
    simp(disch:=omega)only[↓wr,seval,wq,c,ja]
    refine aj.E1 (zA h (by omega) v Q W) λr C X n=>?_
    have c3:=X.cells
    have Y:=X.tz
    simp(disch:=omega)only[↓wr,seval,wq,c3,Y]
    intro m hm
    rw[cL]
    simp(disch:=omega)only[↓wr,seval,wq,c3,Y]
    obtain⟨b,rfl,E,Z⟩:=w
    have p:=E.Jp n
    have F:∀ x∈b,aO C x.1 1 (bd x.2):=λx y=>(Z x y).Jp n
    have l:C f=.arr 6 [ja g a u]:=by rw[(n f (by rw[c];simp)).1,c]
    have hd:∀ id,owner r=some id->owner u≠some id:=λid h1 h2=>(n id (by rw[(E.live h2).1];simp)).2 h1
    simp only[OX] at z
    refine uE (p.fresh hm) (by simp[Y]) (by unfold aB;simp[gB];omega) (by unfold aB;simp[gB];omega) ?_
    intro u' G I l4
    have a1:f≠m:=by rintro rfl;rw[l] at hm;simp at hm
    have J:G f=.arr 6 [ja g a u]:=by
     have D:(C.set m (.arr 1 [[r]])) f=.arr 6 [ja g a u]:=by simp only[View.set,OK a1];exact l
     rw[(l4 f (by rw[D];simp) (y8 (p.fresh hm) D (by decide))).1,D]
    have a6:eh G u' (b.map (·.2) ++ [h]):=eh.add (p.fresh hm) (λx y=>(F x y).fresh hm) (X.fresh hm) hd I l4
    have c4:=I.cells
    have k4:=I.tz
    simp(disch:=omega)only[↓wr,seval,wq,J,ja,c4,k4]
    refine⟨u',by simp[View.set],?_,λid q a7 a8=>?_⟩
    .rw[bZ,OK (by rw[hp];simp;simpa using B)]
     exact a6.box J
    .have h3:=n id q
     have K:id≠m:=by
      rintro rfl
      rw[h3.1] at hm
      exact q hm
     have L:=l4 id (by simp only[View.set,OK K];rw[h3.1];exact q) a8
     refine⟨?_,L.2⟩
     simp only[View.set,OK a7,L.1,OK K,h3.1]
   .simp(disch:=omega)only[↓wr,seval,wq]
    exact⟨u,c,by rw[bZ,OM (.inr hp)];exact w,.refl⟩
 | succ k ih =>
  intro h P S v u out U c w z A
  refine an.of mixed jm ?_
  simp(disch:=omega)only[↓wr,seval,wq,gQ]
  refine aj.dd ((wL g a f u out U c w).mono ?_)
  rintro r H1 ⟨rfl,rfl⟩
  simp(disch:=omega)only[↓wr,seval,wq]
  apply ag.dec<;>intro B
  .simp(disch:=omega)only[↓wr,seval,wq]
   exact⟨u,c,by rw[yA B];exact w,.refl⟩
  .simp(disch:=omega)only[↓wr,seval,wq]
   refine aj.dd ((CG g R hs hr a f u v h (k+1) H1 c A P S).mono ?_)
   rintro r Q ⟨rfl,rfl⟩
   simp(disch:=omega)only[↓wr,seval,wq]
   apply ag.split<;>intro hp
   .simp(disch:=omega)only[↓wr,seval,wq,A.len]
    refine ag.eq (λe=>absurd e (by simp[pad];omega)) (λ_=>?_)
    have bl:=R.ao
    unfold aG at bl
    simp(disch:=omega)only[↓wr,seval,wq,c,ja]
    refine aP.up g.ao.length (λi T H'=>∃ u',H' f=.arr 6 [ja g a u']/\eh H' u' ((List.range i).foldl (λo (t:Nat)=>bZ (dC g) g.ao.length a k (h ++ [(t:Int)]) o) out)/\jH Q H' f u u' /\
     T 0=.ptr f 0 0/\T 1=v/\T 2=gi h.length/\T 36=gi g.ao.length/\T 37=gi i) ⟨u,c,w,.refl,rfl,rfl,rfl,rfl,rfl⟩ ?_
    rintro i j T C hk ⟨u1,l,M,kp,t0,t1,t2,t36,t37⟩
    simp(disch:=omega)only[↓wr,seval,wq,kA,t0,t1,t2,t36,t37]
    apply ag.dec<;>intro hi
    .have bn:=A.Nk w c kp
     have N:(pad h (k+1)).length=h.length+(k+1):=by simp[pad]
     simp(disch:=omega)only[↓wr,seval,wq,t0,t1,t2,t36,t37]
     refine aj.dd ((zA (pad h (k+1)) (by omega) v C bn).mono ?_)
     rintro r G ⟨I,bs⟩
     obtain⟨m,rfl,hm⟩:=I.sl (by simp[pad];omega)
     rw[OX,N]
     simp(disch:=omega)only[↓wr,seval,wq,t0,t1,t2,t36,t37,hm]
     refine⟨by omega,by simp[N],?_⟩
     have O:(bd (pad h (k+1))).set h.length [gi i]=bd (pad (h ++ [(i:Int)]) k):=by
      rw[<-List.map_set]
      congr 1
      simp[pad,List.replicate_succ]
     rw[show List.drop 1 ((bd (pad h (k+1))).getD h.length [])=[] from by simp[pad,OH,List.replicate_succ],O]
     have d:∀ id,C id≠.dead->(G.set m (.arr 1 (bd (pad (h ++ [(i:Int)]) k)))) id=C id:=λid q=>by
      have L:=bs id q
      have:id≠m:=by rintro rfl;exact L.2 rfl
      simp only[View.set,OK this,L.1]
     have s:=ih (h ++ [(i:Int)]) (λx y=>by
      rcases Pg.1 y with y | y
      .exact P x y
      .simp at y;omega) (by simp;omega) (.sl m 0 (h.length+(k+1)) 1) u1 _ (G.set m (.arr 1 (bd (pad (h ++ [(i:Int)]) k)))) (by rw[d f (by rw[l];simp)];exact l) (M.keep d)
      (Ae z) (.inr ⟨by simp[pad],m,by simp[pad];try omega,by simp[View.set]⟩)
     rw[show (((h ++ [(i:Int)]).length:Nat):Int)=(h.length:Int)+1 by simp] at s
     refine aj.dd (s.mono ?_)
     rintro r H5 ⟨u5,bx,b0,b1⟩
     simp(disch:=omega)only[↓wr,seval,wq,t0,t1,t2,t36,t37]
     refine ay hk (by omega) ⟨u5,bx,?_,kp.trans ((jH.kept d).trans b1),t0,t1,t2,t36,rfl⟩
     rw[Qj,PN]
     exact b0
    .have e:i=g.ao.length:=by omega
     subst e
     simp(disch:=omega)only[↓wr,seval,wq,t0,t1,t2,t36,t37]
     refine⟨u1,l,?_,kp⟩
     rw[bZ,OK (by rw[hp];simp;simpa using B)]
     exact M
   .simp(disch:=omega)only[↓wr,seval,wq]
    exact⟨u,c,by rw[bZ,OM (.inr hp)];exact w,.refl⟩
section
variable {P:Program} {T:Env} {H:View} {K:V->View->Prop} {w:bL (T,H,K)} {t t1 e ty:TypeId}
end
theorem Dv {id off k m:Nat} (hm:m<=k):np 1 (.sl id off k 1) none (some (gi m))=some (.sl id off m 1,.none,[]):=by
 simp[np,bound,asNat,hm]
def kg:SC :=
 ae [ae [ab [aa 11 5,aa 12 0,aR 13 12,aV 14 .lss 11 13],bH 14 (.exit 0)],.block 1 (ae [ab [aa 17 0,aa 18 5,aW 19 1 17 18,ak 20 19,aa 21 1,aa 22 5,aW 23 1 21 22,ak 24 23,aJ 25 26 [20,24],bS 26 25],bc 26 (ae [ab [bb 4 false],.ret])]),ab [aa 15 5,ax 16 .add 15 1,aa 5 16]]
def lW:SF:=⟨ae [ab [bb 4 false],ae [ab [aa 6 0,aR 7 6,aa 8 1,aR 9 8,aV 10 .neq 7 9],bc 10 (ae [ab [bb 4 false],.ret])],ae [ab [aN 5 0],bJ 0 kg],ab [bb 4 true],.ret],
 [.tmp 4],27⟩
theorem qQ:aE Tryz.prog 56 []=some lW:=by kernel_rfl
theorem BW (a b:List (List Int)) (l:aG a) (m:∀ w∈a,aG w):ar Tryz.prog 56 [fu a,fu b] (gb (a == b)):=by
 refine ar.val (by intro v g;simp at g;rcases g with rfl | rfl <;> exact oS _) λH=>?_
 refine an.of mixed qQ ?_
 unfold aG at l
 simp(disch:=omega)only[↓wr,seval,wq,lW,fu]
 apply ag.ne<;>intro h
 .simp(disch:=omega)only[↓wr,seval,wq]
  rw[EO (by omega)]
 .simp(disch:=omega)only[↓wr,seval,wq]
  refine aP.up a.length (λi T H'=>a.take i=b.take i/\T 0=fu a/\T 1=fu b/\T 5=gi i) ⟨by simp,rfl,rfl,rfl⟩ ?_
  rintro i k T H' hk ⟨hi,c,h1,e⟩
  simp(disch:=omega)only[↓wr,seval,wq,kg,c,h1,e,fu]
  apply ag.dec<;>intro n
  .have f:a[i]?=some (a[i]'(by omega)):=OI (by omega)
   have j:b[i]?=some (b[i]'(by omega)):=OI (by omega)
   have hm:=O2 f
   have hp:=Fm (a[i]'(by omega)) (b[i]'(by omega)) (m _ hm)
   simp(disch:=omega)only[↓wr,seval,wq,c,h1,e,fu,ON,f,j,OU]
   refine aj.pure hp ?_
   simp(disch:=omega)only[↓wr,seval,wq]
   apply ag.split<;>intro d
   .simp(disch:=omega)only[↓wr,seval,wq,c,h1,e]
    refine ay hk (by omega) ⟨?_,c,h1,rfl⟩
    have d:=eq_of_beq d
    rw[Pe,Pe,hi,f,j,d]
   .simp(disch:=omega)only[↓wr,seval,wq]
    have:(a == b)=false:=by
     simp only[beq_eq_false_iff_ne]
     rintro rfl
     simp at d
    rw[this]
  .simp(disch:=omega)only[↓wr,seval,wq,c,h1,e]
   rw[O8 (by omega),O8 (by omega)] at hi
   rw[hi];simp
theorem ar.seen {P:Program} {f:FuncId} {vs g:List V} {t:V} (p:ar P f g t) (q:∀ i,i < vs.length->Tree (vs.getD i .any)) (r:g.length=vs.length) (k:∀ i,i < vs.length->Fr [] (vs.getD i .any) (g.getD i .any)):ar P f vs t:=by
 intro Z μ w xs a n
 have l:fc Z (λ_=>none) w.heap (cat [] λ_=>.dead):=by
  rw[y1]
  exact⟨λ_=>trivial,λi j b o s B C _ h=>by simp at h,λid b o s h=>by simp at h,n,λid b o s h=>by simp at h⟩
 have c:∀ b,¬ fW (λ_=>none) b:=λb ⟨_,_,_,h⟩=>by simp at h
 have m:er (λb=>Z b∨fW (λ_=>none) b) μ w.heap g xs:=⟨by rw[r,a.1],λi hi=>yd l (k i (by omega)) (rV (a.2 i (by omega)) (q i (by omega)))⟩
 refine(p _ μ w xs m (λb d=>d.elim (n b) (λh=>absurd h (c b)))).mono ?_
 rintro e w' ⟨x,u,rfl,v,y,h1,z,A⟩
 exact⟨x,u,rfl,v,y,λb d=>h1 b (.inl d),λb d=>(z b d).elim (λh=>h.elim .inl (λh=>absurd h (c b))) .inr,A⟩
structure Oa where
 sym:Int
 to:Int
 deriving DecidableEq
structure Jb where
 aZ:Int
 dot:Int
 deriving DecidableEq
def LO (g:ai) (r:Int):List Int:=if r = -1 then [-1 - g.start] else (Nn g r).right
def Lf (g:ai) (x:Jb):Prop:=(-1<=x.aZ/\x.aZ < (g.rules.length:Int))/\0<=x.dot/\x.dot<=(LO g x.aZ).length
structure K9 where
 OF:List Jb
 OG:List Oa
 deriving DecidableEq
abbrev BV:=BitVec 32
def gj (n:Int):BV:=if 0<=n/\n<=31 then BitVec.twoPow 32 n.toNat else 0
theorem IA {a b:BV} (h:∀ i,i < 32->a.getLsbD i=b.getLsbD i):a=b:=BitVec.eq_of_getLsbD_eq λi hi=>h i hi
def mc (a b:BV):Prop:=∀ i,a.getLsbD i=true->b.getLsbD i=true
theorem Dk {a b:BV} : (a &&& ~~~b)=0↔mc a b:=by
 constructor
 .intro h i hi
  have c:i < 32:=BitVec.lt_of_getLsbD hi
  have:=Qo (λx:BV=>x.getLsbD i) h
  simp only[BitVec.getLsbD_and,BitVec.getLsbD_not,hi] at this
  simpa [c] using this
 .intro h
  refine IA λi c=>?_
  simp only[BitVec.getLsbD_and,BitVec.getLsbD_not]
  cases d:a.getLsbD i with
  | false=>simp
  | true=>rw[h i d];simp
abbrev Sets:=List (List BV)
section
variable {g:ai} {null:List Bool} {a:List K9} {ls:List (List Jb)}
end
def hasB (s:BV) (n:Int):Bool:=decide (s &&& gj n≠0)
theorem y4 {h:aw} {u v:V} {e:Int} (h1:de h u v):de h (.aU [u,gi e]) (.aU [v,gi e]):=.aU _ _ rfl λi hi=>by
 match i,hi with
 | 0,_=>exact h1
 | 1,_=>exact .val _
theorem gO {g:ai} (h:isRed g=true):aA g=true:=by
 unfold isRed at h
 simp only[OO,PB,OT] at h
 refine Decidable.byContradiction λa=>?_
 have h1:=h.1
 unfold cX at h1
 simp[a] at h1
abbrev gw (s:BV):V:=.val (.int .u32 s.toNat)
abbrev df (l:List BV):List (List V):=l.map λx=>[gw x]
theorem F4 {x:Int} (h1:0<=x) (c:x < 4294967296):IntKind.wrap .u32 x=x:=by
 unfold IntKind.wrap
 have a:(2:Int) ^ IntKind.u32.bits=4294967296:=by rfl
 have b:IntKind.u32.signed=false:=by rfl
 simp only[a,b,P2,OT]
 simp
 omega
theorem Gg (s:BV):IntKind.wrap .u32 (s.toNat:Int)=s.toNat:=F4 (by omega) (by have:=s.isLt;omega)
theorem rG (s:BV):BitVec.ofInt IntKind.u32.bits (s.toNat:Int)=s:=by
 show BitVec.ofInt 32 (s.toNat:Int)=s
 rw[BitVec.ofInt_natCast,BitVec.ofNat_toNat,BitVec.setWidth_eq]
theorem Ca (s t:BV):IntKind.wrap .u32 ((BitVec.ofInt IntKind.u32.bits (s.toNat:Int) ||| BitVec.ofInt IntKind.u32.bits (t.toNat:Int)).toNat:Int)=((s ||| t).toNat:Int):=by
 rw[rG,rG];exact Gg (s ||| t)
theorem Lc (s t:BV):IntKind.wrap .u32 ((BitVec.ofInt IntKind.u32.bits (s.toNat:Int) &&& BitVec.ofInt IntKind.u32.bits (t.toNat:Int)).toNat:Int)=((s &&& t).toNat:Int):=by
 rw[rG,rG];exact Gg (s &&& t)
theorem JU (s t:BV):IntKind.wrap .u32 ((BitVec.ofInt IntKind.u32.bits (s.toNat:Int) &&& ~~~(BitVec.ofInt IntKind.u32.bits (t.toNat:Int))).toNat:Int)=((s &&& ~~~t).toNat:Int):=by
 rw[rG,rG];exact Gg (s &&& ~~~t)
theorem toNat_zero {s:BV} : ((s.toNat:Nat):Int)=0↔s=0:=by
 constructor
 .intro h;exact BitVec.eq_of_toNat_eq (by simpa using h)
 .rintro rfl;rfl
def lD:SC :=
 ae [ae [ab [aa 11 4,aa 12 0,aV 13 .lss 11 12],bH 13 (.exit 0)],.block 1 (ab [aa 16 3,((some 17),.op (.arith .mul (.tmp 16) (.val (.val (.int .u32 2))))),aa 3 17]),ab [aa 14 4,ax 15 .add 14 1,aa 4 15]]
def nT:SF:=⟨ae [ab [((some 2),.op (.cF (.val (.val (.int .u32 0)))))],ae [.region false [⟨none,[aa 5 0,ax 6 .lss 5 0,aa 7 6]⟩,⟨(some (7,false)),[aa 8 0,ax 9 .gtr 8 31]⟩,⟨none,[bq 10 7 9]⟩],bc 10 (ae [ab [((some 2),.op (.cF (.val (.val (.int .u32 0)))))],.ret])],ab [((some 3),.op (.cF (.val (.val (.int .u32 1)))))],ae [ab [aN 4 0],bJ 0 lD],ab [aa 18 3,aa 2 18],.ret],
 [.tmp 2],19⟩
theorem rU:aE Tryz.prog 98 []=some nT:=by kernel_rfl
def nU:SF:=⟨ae [ab [bb 4 false],ab [aa 5 0,aa 6 1,aJ 7 98 [6],aV 8 .and 5 7,((some 9),.op (.arith .neq (.tmp 8) (.val (.val (.int .u32 0))))),aa 4 9],.ret],
 [.tmp 4],10⟩
theorem sC:aE Tryz.prog 168 []=some nU:=by kernel_rfl
theorem Ks {n:Int} (h:0<=n/\n<=31):(gj n).toNat=2 ^ n.toNat:=by
 rw[gj,OM h,BitVec.toNat_twoPow]
 exact PX (Nat.pow_lt_pow_right (by omega) (by omega))
theorem pt (n:Int):ar Tryz.prog 98 [gi n] (gw (gj n)):=by
 refine ar.val (by intro v a;simp at a;subst a;exact .val _) λH=>?_
 refine an.of mixed rU ?_
 simp(disch:=omega)only[↓wr,seval,wq,nT]
 have bad:¬ (0<=n/\n<=31)->gj n=0:=λh=>by rw[gj,OK h]
 apply ag.dec<;>intro h1
 .simp(disch:=omega)only[↓wr,seval,wq]
  rw[bad (by omega)];rfl
 simp(disch:=omega)only[↓wr,seval,wq]
 apply ag.dec<;>intro b
 .simp(disch:=omega)only[↓wr,seval,wq]
  rw[bad (by omega)];rfl
 simp(disch:=omega)only[↓wr,seval,wq]
 refine aP.up n.toNat (λi T H'=>T 0=gi n/\T 3=.val (.int .u32 ((2 ^ i:Nat):Int))/\T 4=gi i) ⟨rfl,rfl,rfl⟩ ?_
 rintro i k T H' hk ⟨t0,t3,t4⟩
 simp(disch:=omega)only[↓wr,seval,wq,lD,t0,t3,t4]
 apply ag.dec<;>intro c
 .have d:2 ^ (i+1)<=2 ^ 31:=PF (by omega) (by omega)
  have e:2 ^ (i+1)=2 ^ i * 2:=PV _ _
  have hw:IntKind.wrap .u32 (((2 ^ i:Nat):Int) * 2)=((2 ^ (i+1):Nat):Int):=by
   rw[e,Int.natCast_mul]
   exact F4 (by omega) (by omega)
  simp(disch:=omega)only[↓wr,seval,wq,t0,t3,t4,hw]
  exact ay hk (by omega) ⟨t0,rfl,rfl⟩
 .simp(disch:=omega)only[↓wr,seval,wq,t0,t3,t4]
  rw[Ks (by omega),show i=n.toNat by omega]
theorem sY (s:BV) (n:Int):ar Tryz.prog 168 [gw s,gi n] (gb (hasB s n)):=by
 refine ar.val (by
  intro v a;simp at a
  rcases a with rfl | rfl <;> exact .val _) λH=>?_
 refine an.of mixed sC ?_
 simp(disch:=omega)only[↓wr,seval,wq,nU]
 refine aj.pure (pt n) ?_
 simp(disch:=omega)only[↓wr,seval,wq,Lc]
 congr 2
 unfold hasB
 rw[PI]
 simp only[QD,ne_eq,OT,toNat_zero]
instance (g:ai) (x:Jb):Decidable (Lf g x):=by unfold Lf;infer_instance
open Go Go.Proofs Go.Shelf Go.RowKit Go.Sort
theorem bu.cut {P:Program} {f:FuncId} {vs:List V} {h g:aw} {r:V} (n:bu P f vs h r g) {id sz:Nat} {es rest:List (List V)} (l:g.view id=.arr sz (es ++ rest)):bu P f vs h r (g.set id (.arr sz es)):=by
 have m:id < g.length:=fC (by rw[l];simp)
 refine⟨by simpa using n.1,λZ μ F w xs hr z p=>(n.2 Z μ F w xs hr z (by simpa using p)).mono ?_⟩
 rintro e w' ⟨x,A,μ',rfl,B,a,hex,q⟩
 refine⟨x,A,μ',rfl,B,?_,hex,by simpa using q⟩
 have t:∀ k,cat (g.set id (.arr sz es)) F k=if k=id then .arr sz es else cat g F k:=λk=>by
  simp only[cat,Qx]
  by_cases hk:k < g.length
  .rw[OM hk,OM hk,o9 m];rfl
  .rw[OK hk,OK hk,OK (by omega)]
 have u:cat g F id=.arr sz (es ++ rest):=by simp only[cat];rw[OM m,l]
 refine⟨λk=>?_,λi j b o s C D v h1 E=>?_,a.lt,a.bE,a.eU⟩
 .rw[t]
  split
  .rename_i hk
   subst hk
   have d:=a.obj k
   rw[u] at d
   intro b o0 s hm
   obtain⟨G,⟨c,e,f,n,p,H⟩,I,J⟩:=d b o0 s hm
   have y:∀ i,i < es.length->(es ++ rest).getD i []=es.getD i []:=λi hi=>by
    simp[OH,O6 hi]
   refine⟨G,⟨c,e,f,n,p,?_⟩,λi hi=>?_,λi j hi K=>?_⟩
   .rw[PG,Pk] at H;omega
   .rw[<-y i hi];exact I i (by rw[PG];omega)
   .rw[<-y i hi];exact J i j (by rw[PG];omega) K
  .exact a.obj k
 .have d:=a.inj i j b o s C D v h1 E
  rw[t,t]
  rcases d with d | d
  .left
   rw[OK (λe=>by rw[e,u] at d;simp at d)];exact d
  .right
   rw[OK (λe=>by rw[e,u] at d;simp at d)];exact d
theorem an.cut {P:Program} {f:FuncId} {vs:List V} {H:View} {K c:V->View->Prop} (h:an P f vs H K) (hk:∀ r H',K r H'->c r H'∨∃ id sz es rest,H' id=.arr sz (es ++ rest)/\c r (H'.set id (.arr sz es))):an P f vs H c:=by
 refine⟨h.1,λm n=>?_⟩
 obtain⟨r,d,j,l,o⟩:=h.2 m n
 rcases hk r _ o with h1 | ⟨id,sz,es,rest,a,h1⟩
 .exact⟨r,d,j,l,h1⟩
 .have b:id < d.length:=fC (by rw[a];simp)
  refine⟨r,d.set id (.arr sz es),j.cut a,λk g p=>?_,by rw[o9 b];exact h1⟩
  have i:=l k g p
  rw[o9 b]
  simp only[View.set]
  rw[OK (λe=>by rw[e,a] at i;simp at i)]
  exact i
instance:Inhabited Jb:=⟨⟨0,0⟩⟩
section
attribute [local go_sem] Oper.semAt_some
end
section
variable {g:ai} {a:List K9}
end
theorem Ah {g:ai} (h:isRed g=true):∀ i:Nat,i < g.af.length->(al g true).getD i false=true:=by
 have hr:=gO h
 unfold isRed at h
 simp only[OO,PB,OT] at h
 obtain⟨h1,b⟩:=h
 have hp:(al g true).getD g.start.toNat false=true:=by
  refine Decidable.byContradiction λc=>?_
  rw[eD hr,OK c] at h1
  simp at h1
 have a:=CA hr hp
 have e:(cX g).1=mz g (aL (bN (al g true) (aY g) g.rules)) (al g true) (aY g):=by rw[eD hr,OM hp]
 rw[<-e,<-b] at a
 intro i hi
 rw[a.len] at hi
 exact a.uR hi
section
variable {g:ai} {a:List K9}
end
end Gv
