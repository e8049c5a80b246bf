/-
  Part 13 of the proof: what the machine does and what the functions answer.
  Conditions: those that each lemma names.
-/
import Derived.Test.YtiophifnkakjgaaGreatSGzC4L
set_option linter.unusedSimpArgs false
set_option linter.unusedVariables false
set_option maxRecDepth 100000
set_option maxHeartbeats 20000000
namespace Gv
noncomputable section
open Go Go.Proofs
def Grow (a:Nat) (S S':Nat->List Item):Prop:=∀b,S b <+: S' b/\(b<a->S' b=S b)
structure Good (g:ak) (p:List Int) (S:Nat->List Item):Prop where
 nodup:∀a,(S a).Nodup
 sound:∀a x,x∈S a->Sound g p a x
 top:∀a x,x∈S a->PD g p x
 out:∀a,p.length<a->S a=[]
theorem Grow.refl (a:Nat) (S:Nat->List Item):Grow a S S:=λ_=>⟨List.prefix_refl _,λ_=>rfl⟩
theorem Grow.trans {a:Nat} {S d c:Nat->List Item} (h:Grow a S d) (e:Grow a d c):Grow a S c:=λb=>⟨(h b).1.trans (e b).1,λf=>((e b).2 f).trans ((h b).2 f)⟩
theorem Grow.low {a c:Nat} {S d:Nat->List Item} (h:Grow a S d) (e:c<=a):Grow c S d:=λb=>⟨(h b).1,λf=>(h b).2 (by omega)⟩
theorem Grow.mem {a b:Nat} {S c:Nat->List Item} (h:Grow a S c) {x:Item} (d:x∈S b):x∈c b:=(h b).1.subset d
theorem so {a b:Nat} (S:Nat->List Item) (x:Item) (h:a<=b):Grow a S (kK S b x):=by
 intro d
 unfold kK
 constructor
 .split
  .rename_i e
   subst e
   split
   .exact List.prefix_refl _
   .exact List.prefix_append _ _
  .exact List.prefix_refl _
 .intro c
  rw[aa9 (by omega)]
theorem Da (S:Nat->List Item) (a:Nat) (x:Item):x∈kK S a x a:=by
 unfold kK
 rw[abb rfl]
 split
 .assumption
 .simp
theorem Good.put {g:ak} {p:List Int} {S:Nat->List Item} (h:Good g p S) {a:Nat} {x:Item} (f:Sound g p a x) (i:PD g p x) (l:a<=p.length):Good g p (kK S a x):=by
 refine⟨λb=>?_,λb y c=>?_,λb y c=>?_,λb j=>?_⟩
 .unfold kK
  split
  .rename_i e
   subst e
   split
   .exact h.nodup _
   .rename_i k
    rw[acH]
    refine⟨h.nodup _,by simp,λu hu v d=>?_⟩
    simp at d
    rintro rfl
    exact k (d▸hu)
  .exact h.nodup _
 .unfold kK at c
  split at c
  .rename_i e
   subst e
   split at c
   .exact h.sound _ _ c
   .rcases abq.1 c with c | c
    .exact h.sound _ _ c
    .simp at c;subst c;exact f
  .exact h.sound _ _ c
 .unfold kK at c
  split at c
  .rename_i e
   subst e
   split at c
   .exact h.top _ _ c
   .rcases abq.1 c with c | c
    .exact h.top _ _ c
    .simp at c;subst c;exact i
  .exact h.top _ _ c
 .unfold kK
  rw[aa9 (by omega)]
  exact h.out b j
theorem sK:∀(N:Nat) (l:List Nat),l.Nodup->(∀x∈l,x<N)->l.length<=N
 | 0,l,_,h=>by
  cases l with
  | nil=>simp
  | cons x l=>exact absurd (h x (by simp)) (by omega)
 | N+1,l,b,h=>by
  by_cases e:N∈l
  .have h1:=sK N (l.erase N) (b.erase N) λx a=>by
    have c:=(b.mem_erase_iff).1 a
    have:=h x c.2
    have:=c.1
    omega
   rw[List.length_erase_of_mem e] at h1
   omega
  .have:=sK N l b λx a=>by
    have:=h x a
    have:x≠N:=by rintro rfl;exact e a
    omega
   omega
theorem Iu {α:Type} {f:α->Nat}:∀ {l:List α},l.Nodup->(∀x∈l,∀y∈l,f x=f y->x=y)->(l.map f).Nodup
 | [],_,_=>by simp
 | x::l,c,h=>by
  rw[acd] at c
  rw[abE,acd]
  refine⟨λhm=>?_,Iu c.2 λa g b i=>h a (by simp[g]) b (by simp[i])⟩
  obtain⟨y,d,e⟩:=abt.1 hm
  have:=h y (by simp[d]) x (by simp) e
  exact c.1 (this▸d)
theorem Sound.small {g:ak} (b:g.c5) {p:List Int} {a:Nat} {x:Item} (h:Sound g p a x):x.aB<40/\x.dot<7/\x.ep<=a:=by
 obtain⟨R,c,e,d,_⟩:=h
 have h1:=(abf.1 c).1
 have f:=b.rules
 have i:=b.right R (abi c)
 omega
theorem Good.len {g:ak} (d:g.c5) {p:List Int} (hp:p.length<=60) {S:Nat->List Item} (h:Good g p S) (a:Nat):(S a).length<=17080:=by
 by_cases f:p.length<a
 .rw[h.out a f];simp
 .have c:∀x∈S a,x.aB<40/\x.dot<7/\x.ep<61:=λx b=>by
   have:=(h.sound a x b).small d
   omega
  have:=sK 17080 ((S a).map λx=>x.aB*427+x.dot*61+x.ep) (Iu (h.nodup a) λx b y i e=>by
   have h1:=c x b
   have j:=c y i
   cases x;cases y
   simp only at e h1 j
   simp only[Item.mk.injEq]
   omega) (λv k=>by
   obtain⟨x,b,rfl⟩:=abt.1 k
   have:=c x b
   omega)
  simpa using this
theorem Ch.box {H:View} {c:Nat} {g:ak} {p:List Int} {d:V} {S:Nat->List Item} {B n:Nat} {K:List (Nat × ct)} (h:Ch H c g p d S B n K):
  ∃a b,H c=.arr 8 [[.aY (g.ax.map df),encS g.av,.aY (g.rules.map aQ),gi g.start,encI p,d,.sl a 0 n 1,.sl b 0 n 1]]:=by
 obtain⟨a,b,e,f,mm,cl,h⟩:=h
 exact⟨a,b,h.box⟩
theorem Ch.set {H:View} {c:Nat} {g:ak} {p:List Int} {f:V} {S:Nat->List Item} {B n:Nat} {K:List (Nat × ct)} (h:Ch H c g p f S B n K) {a:Nat} (i:a<n):
  ∃(b d:Nat) (e:Nat->V),H c=.arr 8 [[.aY (g.ax.map df),encS g.av,.aY (g.rules.map aQ),gi g.start,encI p,f,.sl b 0 n 1,.sl d 0 n 1]]/\H b=.arr 1 ((List.range n).map λj=>[e j])/\aN H (e a) 3 ((S a).map gf):=by
 obtain⟨b,d,e,k,mm,cl,h⟩:=h
 exact⟨b,d,e,h.box,h.jy,h.set a i⟩
def mj:SC:=
 ai [ag [aS 15 .lss 14 13],bO 15 (.exit 0),.block 1 (ai [ag [af 16 14,aL 17 3 12 14,aV 18 3 17,((some 7),.op (.alloc [(.val (.int .i64 0)),(.emp 1),(.val (.int .i64 0))])),af 6 16,cz 3 7 18],ag [aw 19 0 7,au 20 19,af 21 2,aS 22 .eql 20 21],aX 22 (ag [af 23 0,af 24 1,af 25 6,af 26 1,((some 27),.op (.build [(.val (.int .i64 0)),(.val (.int .i64 0)),(.val (.int .i64 0))] [(0,1,(.tmp 25)),(1,1,(.val (.val (.int .i64 0)))),(2,1,(.tmp 26))])),aU 28 176 [23,24,27]])]),ag [aI 29 .add 14 1,af 14 29]]
def ow:SF:=⟨ai [ag [af 8 0,fU 9 8,aw 10 0 9,aw 11 2 10,au 12 11,aM 13 12,aT 14 0],bR 0 mj],
 [],30⟩
theorem uO:aJ aa 110 []=some ow:=by kernel_rfl
def l9:SC:=
 ai [ai [ag [af 11 8,af 12 0,fU 13 12,aw 14 6 13,au 15 14,af 16 3,aL 17 1 15 16,au 18 17,aM 19 18,aS 20 .lss 11 19],bO 20 (.exit 0)],.block 1 (ai [ag [af 23 0,fU 24 23,aw 25 6 24,au 26 25,af 27 3,aL 28 1 26 27,au 29 28,af 30 8,aL 31 3 29 30,aV 32 3 31,((some 9),.op (.alloc [(.val (.int .i64 0)),(.val (.int .i64 0)),(.val (.int .i64 0))])),cz 3 9 32],ag [af 33 0,fU 34 33,aw 35 0 34,aw 36 2 35,au 37 36,aw 38 0 9,au 39 38,aL 40 3 37 39,aw 41 1 40,au 42 41,af 10 42],.region false [⟨none,[aw 43 1 9,au 44 43,af 45 10,aM 46 45,aS 47 .lss 44 46,af 48 47]⟩,⟨(some (48,true)),[af 49 10,aw 50 1 9,au 51 50,aL 52 1 49 51,au 53 52,af 54 2,((some 55),.op (.arith .sub (.val (.val (.int .i64 (-1)))) (.tmp 54))),aS 56 .eql 53 55]⟩,⟨none,[dA 57 48 56]⟩],aX 57 (ag [af 58 0,af 59 1,aw 60 0 9,au 61 60,aw 62 1 9,au 63 62,aI 64 .add 63 1,aw 65 2 9,au 66 65,((some 67),.op (.build [(.val (.int .i64 0)),(.val (.int .i64 0)),(.val (.int .i64 0))] [(0,1,(.tmp 61)),(1,1,(.tmp 64)),(2,1,(.tmp 66))])),aU 68 176 [58,59,67]])]),ag [af 21 8,aI 22 .add 21 1,af 8 22]]
def nJ:SF:=⟨ai [ag [aT 8 0],bR 0 l9],
 [],69⟩
theorem uj:aJ aa 177 []=some nJ:=by kernel_rfl
def rh:SF:=⟨ai [ag [bZ 5 2],ag [af 9 0,fU 10 9,aw 11 0 10,aw 12 2 11,au 13 12,aw 14 0 5,au 15 14,aL 16 3 13 15,aV 17 3 16,((some 6),.op (.alloc [(.val (.int .i64 0)),(.emp 1),(.val (.int .i64 0))])),cz 3 6 17],ai [ag [aw 18 1 5,au 19 18,aw 20 1 6,au 21 20,aM 22 21,aS 23 .eql 19 22],aX 23 (ai [ag [af 24 0,af 25 1,aw 26 0 6,au 27 26,aw 28 2 5,au 29 28,aU 30 177 [24,25,27,29]],.ret])],ag [aw 31 0 5,au 32 31,aw 33 1 5,au 34 33,aI 35 .add 34 1,aw 36 2 5,au 37 36,((some 38),.op (.build [(.val (.int .i64 0)),(.val (.int .i64 0)),(.val (.int .i64 0))] [(0,1,(.tmp 32)),(1,1,(.tmp 35)),(2,1,(.tmp 37))])),((some 7),.op (.alloc [(.val (.int .i64 0)),(.val (.int .i64 0)),(.val (.int .i64 0))])),cz 3 7 38],ag [aw 39 1 6,au 40 39,aw 41 1 5,au 42 41,aL 43 1 40 42,au 44 43,af 8 44],.block 0 (ai [ag [af 46 8,aI 47 .geq 46 0,af 45 47],.cond (.tmp 45) (ai [ai [.region false [⟨none,[af 48 1,af 49 0,fU 50 49,aw 51 4 50,au 52 51,aM 53 52,aS 54 .lss 48 53,af 55 54]⟩,⟨(some (55,true)),[af 56 0,fU 57 56,aw 58 4 57,au 59 58,af 60 1,aL 61 1 59 60,au 62 61,af 63 8,aS 64 .eql 62 63,af 65 64]⟩,⟨(some (65,false)),[af 66 0,fU 67 66,aw 68 4 67,au 69 68,af 70 1,aL 71 1 69 70,au 72 71,aI 73 .eql 72 (-1)]⟩,⟨(some (55,true)),[cJ 74 65 73]⟩,⟨none,[dA 75 55 74]⟩],aX 75 (ag [af 76 0,af 77 1,aI 78 .add 77 1,aV 79 3 7,aU 80 176 [76,78,79]])],.ret]) (ai [ag [af 82 0,fU 83 82,aw 84 5 83,au 85 84,af 86 8,((some 87),.op (.arith .sub (.val (.val (.int .i64 (-1)))) (.tmp 86))),aL 88 1 85 87,au 89 88,af 81 89],aX 81 (ag [af 90 0,af 91 1,aV 92 3 7,aU 93 176 [90,91,92]])])]),ag [af 94 0,af 95 1,af 96 8,((some 97),.op (.arith .sub (.val (.val (.int .i64 (-1)))) (.tmp 96))),aU 98 110 [94,95,97]]],
 [],99⟩
theorem xM:aJ aa 111 [5]=some rh:=by kernel_rfl
theorem AB (c:Nat) (g:ak) (E:g.c5) (p:List Int) (hp:p.length<=60) (z:V) (S:Nat->List Item) (B a:Nat) (K:List (Nat × ct)) (H:View) (t:Ch H c g p z S B (p.length+1) K) (m:Good g p S) (J:a<=p.length) (U:B+40<1000000000000)
  (eN:Int) (L:Pu g p eN a):az aa 110 [.ptr c 0 0,cP a,gi eN] H λ_ H'=>∃h,Ch H' c g p z h (B+40) (p.length+1) K/\Good g p h/\Grow a S h/\∀i R,g.rules[i]?=some R->R.left=eN->(⟨i,0,a⟩:Item)∈h a:=by
 have F:=E.rules
 refine az.of mixed uO ?_
 obtain⟨M,N,l⟩:=t.box
 simp(disch:=omega)only[↓wr,seval,wq,ow,l]
 refine aW.up g.rules.length (λi n H'=>(∃h,Ch H' c g p z h (B+i) (p.length+1) K/\Good g p h/\Grow a S h/\∀j R,j<i->g.rules[j]?=some R->R.left=eN->(⟨j,0,a⟩:Item)∈h a)/\n 0=.ptr c 0 0/\n 1=cP a/\n 2=gi eN/\n 12=.aY (g.rules.map aQ)/\n 13=cP g.rules.length/\n 14=cP i) ?_ ?_
 .exact⟨⟨S,t,m,.refl _ _,λj R G=>by omega⟩,rfl,rfl,rfl,rfl,rfl,rfl⟩
 clear l t m
 rintro i k n H' hk ⟨⟨w,t,m,q,d⟩,t0,t1,t2,t12,t13,t14⟩
 simp(disch:=omega)only[↓wr,seval,wq,mj,t13,t14]
 apply ao.dec<;>intro O
 .have f:g.rules[i]?=some (g.rules[i]'(by omega)):=aa8 (by omega)
  have y:g.rules[i]'(by omega)∈g.rules:=abe _
  generalize g.rules[i]'(by omega)=R at f y
  simp(disch:=omega)only[↓wr,seval,wq,t2,t12,t14,aQ,encI,aba,f]
  intro b P
  rw[set_set]
  have s:=t.new P (o:=.arr 3 [[gi R.left,.aY (R.right.map λx=>[gi x]),gi R.prec]]) (by simp)
  generalize View.set H' b _=W at s ⊢
  have T:=m.len E hp a
  apply ao.eq<;>intro e
  .simp(disch:=omega)only[↓wr,seval,wq,t0,t1]
   refine ay.cF ((FJ c g p z w (B+i) (p.length+1) a ⟨i,0,a⟩ _ _ s (by omega) (by omega) (by omega) (by omega) ⟨by simp;omega,by simp,by simp;omega⟩).mono ?_)
   intro r X A
   simp(disch:=omega)only[↓wr,seval,wq,t14]
   have C:Sound g p a ⟨i,0,a⟩:=⟨R,f,by simp,by simp,by simp;exact .nil _⟩
   refine aF hk (by omega) ⟨⟨_,A.drop,m.put C ⟨R,f,e▸L⟩ J,q.trans (so w _ (abg _)),λj Q G u v=>?_⟩,t0,t1,t2,t12,t13,rfl⟩
   by_cases D:j=i
   .subst D;exact Da _ _ _
   .exact(so w _ (abg a)).mem (d j Q (by omega) u v)
  .simp(disch:=omega)only[↓wr,seval,wq,t14]
   refine aF hk (by omega) ⟨⟨w,s.drop.more (by omega),m,q,λj Q G u v=>?_⟩,t0,t1,t2,t12,t13,rfl⟩
   by_cases D:j=i
   .subst D
    rw[f] at u;simp at u;subst u
    exact absurd v e
   .exact d j Q (by omega) u v
 .simp(disch:=omega)only[↓wr,seval,wq]
  exact⟨w,t.more (by omega),m,q,λi R I v=>d i R (by have:=(abf.1 I).1;omega) I v⟩
def QE (g:ak) (eN:Int) (S:Nat->List Item) (at_:Nat) (x:Item):Prop:=∀R,g.rules[x.aB]?=some R->R.right[x.dot]?=some (-1-eN)->(⟨x.aB,x.dot+1,x.ep⟩:Item)∈S at_
theorem Sound.on {g:ak} {p:List Int} {f a:Nat} {x:Item} (h:Sound g p f x) {R:bf} (e:g.rules[x.aB]?=some R) {s:Int} (i:R.right[x.dot]?=some s) (c:Sp g p [s] f a):Sound g p a ⟨x.aB,x.dot+1,x.ep⟩:=by
 obtain⟨l,b,h1,j,k⟩:=h
 rw[e] at b;simp at b;subst b
 have d:=(abf.1 i).1
 refine⟨R,e,d,abZ j c.le,?_⟩
 have:R.right.take (x.dot+1)=R.right.take x.dot++[s]:=by rw[abr,i];rfl
 rw[this]
 exact k.app c
theorem Ni (c:Nat) (g:ak) (C:g.c5) (p:List Int) (hp:p.length<=60) (nu:V) (S:Nat->List Item) (B d fr:Nat) (K:List (Nat × ct)) (H:View) (J:Ch H c g p nu S B (p.length+1) K) (j:Good g p S) (ha:d<=p.length) (a8:fr<=d) (hB:B+17080<1000000000000)
  (eN:Int) (hn:0<=eN/\eN<1000) (ae:Sp g p [-1-eN] fr d):az aa 177 [.ptr c 0 0,cP d,gi eN,cP fr] H λ_ H'=>∃l,Ch H' c g p nu l (B+17080) (p.length+1) K/\Good g p l/\Grow d S l/\∀x∈l fr,QE g eN l d x:=by
 have a6:=C.rules
 refine az.of mixed uj ?_
 simp(disch:=omega)only[↓wr,seval,wq,nJ]
 refine aW.up 17080 (λi L H'=>(∃l,Ch H' c g p nu l (B+i) (p.length+1) K/\Good g p l/\Grow d S l/\i<=(l fr).length/\∀x∈(l fr).take i,QE g eN l d x)/\L 0=.ptr c 0 0/\L 1=cP d/\L 2=gi eN/\L 3=cP fr/\L 8=cP i) ?_ ?_
 .exact⟨⟨S,J,j,.refl _ _,aco _,λx hx=>by simp at hx⟩,rfl,rfl,rfl,rfl,rfl⟩
 clear J j
 rintro i k L H' hk ⟨⟨f,J,j,w,bd,n⟩,t0,t1,t2,t3,t8⟩
 obtain⟨bl,bn,sv,q,u,ho⟩:=J.set (a:=fr) (by omega)
 have D:fr<p.length+1:=by omega
 simp(disch:=omega)only[↓wr,seval,wq,l9,t0,t3,t8,q,u,gK D,ho.len]
 refine⟨by omega,by simp;omega,?_⟩
 apply ao.dec<;>intro hc
 .obtain⟨m,al,hm⟩:=ho.sl (by simp;omega)
  have E:(f fr)[i]?=some ((f fr)[i]'(by omega)):=aa8 (by omega)
  have F:(f fr)[i]'(by omega)∈f fr:=abe _
  have O:(f fr).take (i+1)=(f fr).take i++[(f fr)[i]'(by omega)]:=by rw[abr,E];rfl
  generalize (f fr)[i]'(by omega)=x at E F O
  have an:((f fr).map gf).getD i []=[cP x.aB,cP x.dot,cP x.ep]:=by simp[E,gf]
  have G:=j.sound _ _ F
  have br:=G.small C
  have P:=G
  obtain⟨R,Q,bs,bx,a7⟩:=G
  simp(disch:=omega)only[↓wr,seval,wq,t0,t3,t8,q,u,gK D,al,hm,an]
  refine⟨D,by simp;omega,by omega,by omega,λb hb=>?_⟩
  have aq:c≠b:=by rintro rfl;rw[q] at hb;simp at hb
  simp only[aa9 aq]
  rw[set_set]
  have v:=J.new hb (o:=.arr 3 [[.val (.int .i64 x.aB),.val (.int .i64 x.dot),.val (.int .i64 x.ep)]]) (by simp)
  generalize View.set H' b _=H2 at v ⊢
  have z:=v.kept _ (acg ..)
  simp only at z
  have T:=abi Q
  have b0:=C.right R T
  simp(disch:=omega)only[↓wr,seval,wq,z,aQ,encI,aba,Q]
  have h:∀M,Grow d f M->(∀I,g.rules[x.aB]?=some I->I.right[x.dot]?=some (-1-eN)->(⟨x.aB,x.dot+1,x.ep⟩:Item)∈M d)->i+1<=(M fr).length/\∀y∈(M fr).take (i+1),QE g eN M d y:=by
   intro M U ar
   obtain⟨t,ht⟩:=(U fr).1
   refine⟨by rw[<-ht];simp;omega,?_⟩
   rw[<-ht,List.take_append_of_le_length (by omega),O]
   intro y N
   rcases abq.1 N with N | N
   .exact λI h1 A=>U.mem (n y N I h1 A)
   .simp at N;subst N;exact ar
  have b1:=j.len C hp fr
  have b2:=j.len C hp d
  apply ao.dec<;>intro h1
  .have hs:R.right[x.dot]?=some (R.right[x.dot]'(by omega)):=aa8 (by omega)
   generalize R.right[x.dot]'(by omega)=s at hs
   simp(disch:=omega)only[↓wr,seval,wq,t2,z,hs,aba]
   apply ao.eq<;>intro e
   .simp(disch:=omega)only[↓wr,seval,wq,t0,t1,z]
    have W:Sound g p d ⟨x.aB,x.dot+1,x.ep⟩:=P.on Q hs (e▸ae)
    have X:=W.small C
    simp only at X
    refine ay.cF ((FJ c g p nu f (B+i) (p.length+1) d ⟨x.aB,x.dot+1,x.ep⟩ _ _ v (by omega) (by omega) (by omega) (by omega) ⟨by simp;omega,by simp;omega,by simp;omega⟩).mono ?_)
    intro r H3 a1
    simp(disch:=omega)only[↓wr,seval,wq,t8]
    obtain⟨Y,k2⟩:=h _ (so f _ (abg _)) (λI _ _=>Da _ _ _)
    exact aF hk (by omega) ⟨⟨_,a1.drop,j.put W (j.top _ x F) ha,w.trans (so f _ (abg _)),Y,k2⟩,t0,t1,t2,t3,rfl⟩
   .simp(disch:=omega)only[↓wr,seval,wq,t8]
    obtain⟨Y,k2⟩:=h _ (.refl _ _) (λI A Z=>by
     rw[Q] at A;simp at A;subst A
     rw[hs] at Z;simp at Z
     exact absurd Z e)
    exact aF hk (by omega) ⟨⟨_,v.drop.more (by omega),j,w,Y,k2⟩,t0,t1,t2,t3,rfl⟩
  .simp(disch:=omega)only[↓wr,seval,wq,t8]
   obtain⟨Y,k2⟩:=h _ (.refl _ _) (λI A Z=>by
    rw[Q] at A;simp at A;subst A
    have:=(abf.1 Z).1
    omega)
   exact aF hk (by omega) ⟨⟨_,v.drop.more (by omega),j,w,Y,k2⟩,t0,t1,t2,t3,rfl⟩
 .simp(disch:=omega)only[↓wr,seval,wq]
  have ab:i=(f fr).length:=by omega
  rw[ab,acu] at n
  exact⟨f,J.more (by have:=j.len C hp fr;omega),j,w,n⟩
structure zZ (g:ak) (p:List Int) (S:Nat->List Item) (a:Nat) (x:Item):Prop where
 term:∀R s,g.rules[x.aB]?=some R->R.right[x.dot]?=some s->0<=s->vN p a s->(⟨x.aB,x.dot+1,x.ep⟩:Item)∈S (a+1)
 pred:∀R s i R',g.rules[x.aB]?=some R->R.right[x.dot]?=some s->s<0->g.rules[i]?=some R'->R'.left = -1-s->(⟨i,0,a⟩:Item)∈S a
 null:∀R s,g.rules[x.aB]?=some R->R.right[x.dot]?=some s->s<0->(bk g false).getD (-1-s).toNat false=true->(⟨x.aB,x.dot+1,x.ep⟩:Item)∈S a
 comp:∀R,g.rules[x.aB]?=some R->x.dot=R.right.length->x.ep<a->∀y∈S x.ep,QE g R.left S a y
theorem zZ.grow {g:ak} {p:List Int} {S k:Nat->List Item} {a:Nat} {x:Item} (h:zZ g p S a x) (e:Grow a S k):zZ g p k a x where
 term:=λR s h1 c b d=>e.mem (h.term R s h1 c b d)
 pred:=λR s i f h1 c b d j=>e.mem (h.pred R s i f h1 c b d j)
 null:=λR s h1 c b d=>e.mem (h.null R s h1 c b d)
 comp:=λR h1 c b y l f d j=>e.mem (h.comp R h1 c b y (by rw[(e x.ep).2 b] at l;exact l) f d j)
theorem XY (c:Nat) (g:ak) (hr:bu g=true) (p:List Int) (hp:p.length<=60) (S:Nat->List Item) (B a:Nat) (x:Item) (K:List (Nat × ct)) (H:View) (hC:Ch H c g p (bY (bk g false)) S B (p.length+1) K) (u:Good g p S) (ha:a<=p.length) (hB:B+17200<1000000000000)
  (Y:x∈S a):az aa 111 [.ptr c 0 0,cP a,.agg (gf x)] H λ_ H'=>∃D,Ch H' c g p (bY (bk g false)) D (B+17200) (p.length+1) K/\Good g p D/\Grow a S D/\zZ g p D a x:=by
 have w:=bF hr
 have L:=u.sound _ _ Y
 have bs:=L.small w
 have m:=L
 obtain⟨R,n,bx,an,G⟩:=L
 have q:=abi n
 have b0:=w.right R q
 have b1:=w.left R q
 have b2:=w.av
 obtain⟨b4,b5,Z⟩:=hC.box
 refine az.of mixed xM ?_
 simp(disch:=omega)only[↓wr,seval,wq,rh,gf,Z,aQ,encI,aba,n]
 refine λb hb=>?_
 rw[set_set]
 have E:=hC.new hb (o:=.arr 3 [[gi R.left,.aY (R.right.map λx=>[gi x]),gi R.prec]]) (by simp)
 generalize View.set H b _=H2 at E ⊢
 have y:=E.kept _ (acg ..)
 simp only at y
 apply ao.eq<;>intro e
 .have e2:x.dot=R.right.length:=by omega
  have aq:Sp g p [-1-R.left] x.ep a:=by
   rw[e2,acu] at G
   exact .eN _ _ R x.ep a a (by omega) q (by omega) G (.nil _)
  simp(disch:=omega)only[↓wr,seval,wq,y]
  refine ay.cF ((Ni c g w p hp _ S B a x.ep _ _ E u ha an (by omega) R.left (by omega) aq).mono ?_)
  rintro r H3 ⟨M,d,ar,a1,hw⟩
  simp(disch:=omega)only[↓wr,seval,wq]
  refine⟨M,d.drop.more (by omega),ar,a1,⟨λz s h1 j I A=>?_,λz s i Q h1 j=>?_,λz s h1 j=>?_,λz h1 j I=>?_⟩⟩
  .rw[n] at h1;simp at h1;subst h1
   have:=(abf.1 j).1
   omega
  .rw[n] at h1;simp at h1;subst h1
   have:=(abf.1 j).1
   omega
  .rw[n] at h1;simp at h1;subst h1
   have:=(abf.1 j).1
   omega
  .rw[n] at h1;simp at h1;subst h1
   exact hw
 .have b7:x.dot<R.right.length:=by omega
  have C:R.right[x.dot]?=some (R.right[x.dot]'(by omega)):=aa8 (by omega)
  generalize R.right[x.dot]'(by omega)=s at C
  simp(disch:=omega)only[↓wr,seval,wq,y]
  refine λb3 N=>?_
  rw[set_set]
  have d:=E.new N (o:=.arr 3 [[.val (.int .i64 x.aB),.val (.int .i64 (x.dot+1)),.val (.int .i64 x.ep)]]) (by simp)
  have a6:b≠b3:=by rintro rfl;rw[y] at N;simp at N
  simp only[aa9 a6]
  generalize View.set H2 b3 _=H3 at d ⊢
  have F:=d.kept _ (acg ..)
  simp only at F
  obtain⟨bl,bn,k⟩:=d.box
  have a7:=d.kept (b,_) (abx _ (acg ..))
  simp only at a7
  have ab:=λhn:s<0=>w.neg q (abi C) hn
  have b8:=u.len w hp a
  simp(disch:=omega)only[↓wr,seval,wq,C,aba]
  have f:∀M:Nat->List Item,(0<=s->vN p a s->(⟨x.aB,x.dot+1,x.ep⟩:Item)∈M (a+1))->(s<0->∀i z,g.rules[i]?=some z->z.left = -1-s->(⟨i,0,a⟩:Item)∈M a) ->
    (s<0->(bk g false).getD (-1-s).toNat false=true->(⟨x.aB,x.dot+1,x.ep⟩:Item)∈M a)->zZ g p M a x:=by
   intro M k1 k2 k3
   refine⟨λz s' h1 j I A=>?_,λz s' i Q h1 j I A O=>?_,λz s' h1 j I A=>?_,λz h1 j I=>?_⟩
   .rw[n] at h1;simp at h1;subst h1
    rw[C] at j;simp at j;subst j
    exact k1 I A
   .rw[n] at h1;simp at h1;subst h1
    rw[C] at j;simp at j;subst j
    exact k2 I i Q A O
   .rw[n] at h1;simp at h1;subst h1
    rw[C] at j;simp at j;subst j
    exact k3 I A
   .rw[n] at h1;simp at h1;subst h1
    omega
  have br:=u.len w hp (a+1)
  apply ao.dec<;>intro h0
  .have J:vN p a s->a<p.length->az aa 176 [.ptr c 0 0,cP (a+1),.agg (gf ⟨x.aB,x.dot+1,x.ep⟩)] H3 λ_ H'=>∃D,Ch H' c g p (bY (bk g false)) D (B+17200) (p.length+1) K/\Good g p D/\Grow a S D/\zZ g p D a x:=by
    intro l b9
    have P:Sound g p (a+1) ⟨x.aB,x.dot+1,x.ep⟩:=m.on n C (.term s [] a (a+1) h0 l (.nil _))
    refine(FJ c g p _ S B (p.length+1) (a+1) ⟨x.aB,x.dot+1,x.ep⟩ _ _ d (by omega) (by omega) (by omega) (by omega) ⟨by simp;omega,by simp;omega,by simp;omega⟩).mono λr H4 T=>?_
    exact⟨_,T.drop.drop.more (by omega),u.put P (u.top _ x Y) (by omega),so S _ (by omega),f _ (λ_ _=>Da _ _ _) (λh=>by omega) (λh=>by omega)⟩
   simp(disch:=omega)only[↓wr,seval,wq,k,encI]
   apply ao.dec<;>intro h1
   .have v:p[a]?=some (p[a]'(by omega)):=aa8 (by omega)
    generalize p[a]'(by omega)=pc at v
    simp(disch:=omega)only[↓wr,seval,wq,k,encI,v,aba]
    apply ao.eq<;>intro e1
    .simp(disch:=omega)only[↓wr,seval,wq,F]
     refine ay.cF ((J ⟨pc,v,.inl e1⟩ (by omega)).mono λr H4 A=>?_)
     simp(disch:=omega)only[↓wr,seval,wq]
     exact A
    .simp(disch:=omega)only[↓wr,seval,wq,k,encI,v,aba]
     apply ao.eq<;>intro e2
     .simp(disch:=omega)only[↓wr,seval,wq,F]
      refine ay.cF ((J ⟨pc,v,.inr e2⟩ (by omega)).mono λr H4 A=>?_)
      simp(disch:=omega)only[↓wr,seval,wq]
      exact A
     .simp(disch:=omega)only[↓wr,seval,wq]
      refine⟨S,d.drop.drop.more (by omega),u,.refl _ _,f _ (λ_ l=>?_) (λh=>by omega) (λh=>by omega)⟩
      obtain⟨a8,O,h6⟩:=l
      rw[v] at O;simp at O;subst O
      omega
   .simp(disch:=omega)only[↓wr,seval,wq]
    refine⟨S,d.drop.drop.more (by omega),u,.refl _ _,f _ (λ_ l=>?_) (λh=>by omega) (λh=>by omega)⟩
    obtain⟨a8,O,h6⟩:=l
    have:=(abf.1 O).1
    omega
  .have hlen:=jj hr false
   have ca:=ab (by omega)
   have ae:(bk g false)[(-1-s).toNat]?=some ((bk g false).getD (-1-s).toNat false):=by
    simp[show (-1-s).toNat<(bk g false).length by omega]
   generalize al:(bk g false).getD (-1-s).toNat false=nb at ae
   simp(disch:=omega)only[↓wr,seval,wq,k,bY,ae,aba]
   apply ao.split<;>intro U
   .have P:Sound g p a ⟨x.aB,x.dot+1,x.ep⟩:=m.on n C (by
     obtain⟨Q,hQ,cb,bd⟩:=PU hr _ (al.trans U)
     have:=(w.left Q hQ).1
     exact .eN s [] Q a a a (by omega) hQ (by omega) (bd p a) (.nil _))
    simp(disch:=omega)only[↓wr,seval,wq,F]
    refine ay.cF ((FJ c g p _ S B (p.length+1) a ⟨x.aB,x.dot+1,x.ep⟩ _ _ d (by omega) (by omega) (by omega) (by omega) ⟨by simp;omega,by simp;omega,by simp;omega⟩).mono λr H4 T=>?_)
    simp(disch:=omega)only[↓wr,seval,wq]
    refine ay.cF ((AB c g w p hp _ _ _ a _ _ T (u.put P (u.top _ x Y) ha) ha (by omega) (-1-s) ((u.top _ x Y).ask m n C)).mono ?_)
    rintro r2 H5 ⟨S2,V,W,t,X⟩
    simp(disch:=omega)only[↓wr,seval,wq]
    exact⟨S2,V.drop.drop.more (by omega),W,(so S _ (abg _)).trans t,f _ (λh=>by omega) (λ_=>X) (λ_ _=>t.mem (Da _ _ _))⟩
   .simp(disch:=omega)only[↓wr,seval,wq]
    refine ay.cF ((AB c g w p hp _ _ _ a _ _ d u ha (by omega) (-1-s) ((u.top _ x Y).ask m n C)).mono ?_)
    rintro r2 H5 ⟨S2,V,W,t,X⟩
    simp(disch:=omega)only[↓wr,seval,wq]
    exact⟨S2,V.drop.drop.more (by omega),W,t,f _ (λh=>by omega) (λ_=>X) (λ_ h=>by rw[al,U] at h;simp at h)⟩
structure xT (H:View) (c sid:Nat) (u:V) (mi:Nat->Nat) (g:ak) (p:List Int) (nu:V) (n k:Nat):Prop where
 box:H c=.arr 8 [[.aY (g.ax.map df),encS g.av,.aY (g.rules.map aQ),gi g.start,encI p,nu,.sl sid 0 n 1,u]]
 jy:H sid=.arr 1 ((List.range n).map λ_=>[.emp 1])
 seen:aN H u 1 ((List.range k).map λj=>[.mp (mi j)])
 map:∀j,j<k->H (mi j)=.map [] 0
 inj:∀i j,i<k->j<k->mi i=mi j->i=j
theorem xT.YZ {H:View} {c a:Nat} {u:V} {d:Nat->Nat} {g:ak} {p:List Int} {f:V} {n k:Nat} (h:xT H c a u d g p f n k) (i:0<n):owner u≠some a:=λe=>by
 have h1:=(h.seen.live e).1
 rw[h.jy] at h1
 simp only[ct.arr.injEq,true_and] at h1
 have b:=ach (·[0]?) h1
 simp[i] at b
 by_cases hk:0<k
 .simp[hk] at b
 .have:k=0:=by omega
  subst this
  simp at b
theorem xT.YV {H:View} {c a:Nat} {u:V} {b:Nat->Nat} {g:ak} {p:List Int} {d:V} {n k:Nat} (h:xT H c a u b g p d n k):owner u≠some c:=λe=>by
 have h1:=(h.seen.live e).1
 rw[h.box] at h1
 simp at h1
theorem xT.ZB {H:View} {c b:Nat} {u:V} {l:Nat->Nat} {g:ak} {p:List Int} {m:V} {n:Nat} (h:xT H c b u l g p m n n) (r:0<n):Ch H c g p m (λ_=>[]) 0 n []:=by
 obtain⟨f,hu,hm⟩:=h.seen.sl (by simp;omega)
 have a:=h.YZ r
 refine⟨b,f,λ_=>.emp 1,l,λ_=>[],λ_=>0,?_,h.jy,hm,λj d=>aN.nil,λj d=>⟨h.map j d,?_,λx=>⟨λk=>by simp at k,λ_=>rfl⟩⟩,?_,λi j o _ _ h1=>by simp[owner] at h1,λi j hi d e=>h.inj i j hi d e,λq s=>by simp at s⟩
 .have:=h.box
  rw[hu] at this
  simpa using this
 .exact⟨by simp,λx k=>by simp at k⟩
 .rintro rfl
  rw[hu] at a
  exact a rfl
theorem xT.next {H o:View} {c a m:Nat} {u u':V} {b:Nat->Nat} {g:ak} {p:List Int} {q:V} {n k:Nat} (h:xT H c a u b g p q n k) (w:0<n) (hm:H m=.dead) (x:aN o u' 1 (((List.range k).map λj=>[.mp (b j)])++[[.mp m]])) (r:o m=.map [] 0)
  (s:∀id,H id≠.dead->owner u≠some id->o id=H id/\owner u'≠some id):
  xT (o.set c (.arr 8 [[.aY (g.ax.map df),encS g.av,.aY (g.rules.map aQ),gi g.start,encI p,q,.sl a 0 n 1,u']])) c a u' (λj=>if j=k then m else b j) g p q n (k+1):=by
 have y:=s c (by rw[h.box];simp) h.YV
 have z:=s a (by rw[h.jy];simp) (h.YZ w)
 have t:a≠c:=by rintro rfl;have:=h.box;rw[h.jy] at this;simp at this
 have f:∀j,j<k->b j≠m:=λj l e=>by have:=h.map j l;rw[e,hm] at this;simp at this
 refine⟨by simp[View.set],?_,?_,λj l=>?_,λi j hi l e=>?_⟩
 .simp only[View.set,aa9 t]
  rw[z.1];exact h.jy
 .refine aN.other ?_ y.2
  have:(List.range (k+1)).map (λj=>[V.mp (if j=k then m else b j)])=(List.range k).map (λj=>[V.mp (b j)])++[[.mp m]]:=by
   rw[acD,abA,abE,acJ,abb rfl]
   congr 1
   apply aca
   intro j l
   rw[aa9 (by have:=ab7.1 l;omega)]
  rw[this];exact x
 .by_cases e:j=k
  .simp only[abb e]
   have:m≠c:=by rintro rfl;rw[h.box] at hm;simp at hm
   simp only[View.set,aa9 this]
   exact r
  .simp only[aa9 e]
   have h1:=h.map j (by omega)
   have:b j≠c:=by intro d;rw[d,h.box] at h1;simp at h1
   simp only[View.set,aa9 this]
   rw[(s (b j) (by rw[h1];simp) (λd=>by have:=(h.seen.live d).1;rw[h1] at this;simp at this)).1]
   exact h1
 .by_cases v:i=k
  .by_cases d:j=k
   .omega
   .simp only[abb v,aa9 d] at e
    exact absurd e.symm (f j (by omega))
  .by_cases d:j=k
   .simp only[aa9 v,abb d] at e
    exact absurd e (f i (by omega))
   .simp only[aa9 v,aa9 d] at e
    exact h.inj i j (by omega) (by omega) e
def xe:SC:=
 ai [ag [aS 22 .lss 21 20],bO 22 (.exit 0),.block 1 (ag [af 23 6,af 24 6,fU 25 24,aw 26 7 25,au 27 26,((some 28),.op (.ra)),((some 29),.op (.bH 1 1 [(.val (.map none))] [(0,(.tmp 28))])),eZ 30 1 8 27 29,fU 31 23,aw 32 7 31,cz 1 32 30]),ag [aI 33 .add 21 1,af 21 33]]
def wZ:SC:=
 ai [ai [ag [af 42 8,af 43 6,fU 44 43,aw 45 6 44,au 46 45,af 47 7,aL 48 1 46 47,au 49 48,aM 50 49,aS 51 .lss 42 50],bO 51 (.exit 4)],.block 5 (ag [af 54 6,af 55 7,af 56 6,fU 57 56,aw 58 6 57,au 59 58,af 60 7,aL 61 1 59 60,au 62 61,af 63 8,aL 64 3 62 63,aV 65 3 64,aU 66 111 [54,55,65]]),ag [af 52 8,aI 53 .add 52 1,af 8 53]]
def xB:SC:=
 ai [ag [aS 40 .lss 39 38],bO 40 (.exit 2),.block 3 (ai [ag [af 41 39,af 7 41],ag [aT 8 0],bR 4 wZ]),ag [aI 67 .add 39 1,af 39 67]]
def A7:SF:=⟨ai [ag [bZ 2 0,((some 4),.op (.eW (.val (.val (.pointer none)))))],ag [af 9 1,aM 10 9,aI 11 .add 10 1,af 5 11],.region true [⟨none,[aV 12 4 2,af 13 1,aV 14 4 2,aU 15 109 [14],af 16 5,((some 17),.op (.make 1 24 [(.emp 1)] (.tmp 16) (.tmp 16))),((some 18),.op (.build [(.emp 1),(.emp 1),(.emp 1),(.val (.int .i64 0)),(.emp 1),(.emp 1),(.emp 1),(.emp 1)] [(0,4,(.tmp 12)),(4,1,(.tmp 13)),(5,1,(.tmp 15)),(6,1,(.tmp 17))])),((some 19),.op (.box (.tmp 18))),af 6 19]⟩],ai [ag [af 20 5,aT 21 0],bR 0 xe],ag [af 34 6,aw 35 3 2,au 36 35,lG 37 110 [(.tmp 34),(.val (.val (.int .i64 0))),(.tmp 36)]],ai [ag [af 38 5,aT 39 0],bR 2 xB],ag [af 68 6,af 4 68],.ret],
 [.tmp 4],69⟩
theorem Ev:aJ aa 53 [2]=some A7:=by kernel_rfl
theorem XM (g:ak) (hg:g.Ok) (hr:bu g=true) (an:g.Small) (p:List Int) (hp:p.length<=60) (H:View):az aa 53 [.agg (aj g),encI p] H λr H'=>∃c S B,r=.ptr c 0 0/\Ch H' c g p (bY (bk g false)) S B (p.length+1) []/\Good g p S/\Fa g p S:=by
 have hf:=bF hr
 refine az.of mixed Ev ?_
 simp(disch:=omega)only[↓wr,seval,wq,A7,aj,encI]
 have T:=(LY g hg an).pure
 simp only[aj] at T
 refine⟨rfl,ay.pure T ?_⟩
 have hM:((p.length:Int)+1).toNat=p.length+1:=by omega
 have aq:aK (encS g.av)=true:=rfl
 simp(disch:=omega)only[↓wr,seval,wq,hM,bY,aq]
 refine⟨⟨abg _,by unfold aE;omega,by unfold aE;omega⟩,λU W=>?_⟩
 intro c hc
 obtain⟨J,ar⟩:=cp hc (by simp)
 refine aW.up (p.length+1) (λk f H'=>(∃u mi,xT H' c U u mi g p (bY (bk g false)) (p.length+1) k)/\f 2=.aR (aj g) 0/\f 5=gi (p.length+1)/\f 6=.ptr c 0 0/\f 20=gi (p.length+1)/\f 21=gi k) ?_ ?_
 .refine⟨⟨.emp 1,λ_=>0,⟨by simp[View.set,bY,encI],?_,aN.nil,λj hj=>by omega,λi j hi=>by omega⟩⟩,rfl,rfl,rfl,rfl,rfl⟩
  simp[View.set,Ne.symm J]
  apply ab2 (by simp)
  intro n h1 v
  cases n<;>simp
 clear hc ar W
 rintro k m f H' hk ⟨⟨u,mi,D⟩,t2,t5,t6,t20,t21⟩
 simp(disch:=omega)only[↓wr,seval,wq,xe,t20,t21]
 apply ao.dec<;>intro K
 .simp(disch:=omega)only[↓wr,seval,wq,t6,D.box]
  intro m1 E b1 F
  obtain⟨L,F⟩:=cp F (by simp)
  rw[bD]
  have ho:=(D.seen.fresh (o:=.map [] 0) E).fresh (o:=.arr 1 [[.mp m1]]) (m:=b1) (by simp[View.set,L,F])
  simp(disch:=omega)only[↓wr,seval,wq]
  refine kX ho (by simp) (by simp[aK]) (by simp[aE];omega) (by simp[aE];omega) λu' H3 M X=>?_
  have Y:∀id,H' id≠.dead->owner u≠some id->H3 id=H' id/\owner u'≠some id:=λid h1 v=>by
   have n1:id≠m1:=by rintro rfl;exact h1 E
   have n2:id≠b1:=by rintro rfl;exact h1 F
   have:=X id (by simp[View.set,n1,n2,h1]) v
   rw[this.1]
   exact⟨by simp[View.set,n1,n2],this.2⟩
  have Z:=(Y c (by rw[D.box];simp) D.YV).1
  rw[D.box] at Z
  have a1:H3 m1=.map [] 0:=by
   have n3:owner u≠some m1:=D.seen.ne E
   rw[(X m1 (by simp[View.set,Ne.symm L]) n3).1]
   simp[View.set,Ne.symm L]
  simp(disch:=omega)only[↓wr,seval,wq,Z,M.cells,M.eL,t21]
  exact aF hk (by omega) ⟨⟨u',_,D.next (by omega) E M a1 Y⟩,t2,t5,t6,t20,rfl⟩
 .have a6:k=p.length+1:=by omega
  subst a6
  have w:=D.ZB (by omega)
  clear D t20 t21
  simp(disch:=omega)only[↓wr,seval,wq,t2,t6,aj]
  have a7:Good g p (λ_=>[]):=⟨λ_=>by simp,λa x d=>by simp at d,λa x d=>by simp at d,λ_ _=>rfl⟩
  refine ay.cF ((AB c g hf p hp _ _ _ 0 _ _ w a7 (by omega) (by omega) g.start .start).mono ?_)
  rintro r0 H2 ⟨S0,w,z,a8,q⟩
  simp(disch:=omega)only[↓wr,seval,wq,t5]
  refine aW.up (p.length+1) (λa f H'=>(∃S,Ch H' c g p (bY (bk g false)) S (40+a*293776000) (p.length+1) []/\Good g p S/\(∀i R,g.rules[i]?=some R->R.left=g.start->(⟨i,0,0⟩:Item)∈S 0)/\∀b,b<a->∀x∈S b,zZ g p S b x)/\f 5=gi (p.length+1)/\f 6=.ptr c 0 0/\f 38=gi (p.length+1)/\f 39=gi a) ?_ ?_
  .exact⟨⟨S0,w.more (by omega),z,q,λb hb=>by omega⟩,t5,t6,rfl,rfl⟩
  clear w z a8 q t2 t5 t6
  rintro a m f H hk ⟨⟨S,w,z,q,h⟩,t5,t6,t38,t39⟩
  simp(disch:=omega)only[↓wr,seval,wq,xB,t38,t39]
  apply ao.dec<;>intro K
  .simp(disch:=omega)only[↓wr,seval,wq,t39]
   refine aW.up 17080 (λi f H'=>(∃S,Ch H' c g p (bY (bk g false)) S (40+a*293776000+i*17200) (p.length+1) []/\Good g p S/\(∀i R,g.rules[i]?=some R->R.left=g.start->(⟨i,0,0⟩:Item)∈S 0)/\(∀b,b<a->∀x∈S b,zZ g p S b x)/\i<=(S a).length/\∀x∈(S a).take i,zZ g p S a x)/\f 5=gi (p.length+1)/\f 6=.ptr c 0 0/\f 7=gi a/\f 8=gi i/\f 38=gi (p.length+1)/\f 39=gi a) ?_ ?_
   .exact⟨⟨S,w.more (by omega),z,q,h,aco _,λx d=>by simp at d⟩,t5,t6,rfl,rfl,t38,t39⟩
   clear w z q h t5 t6 t38 t39
   rintro i k f H hi ⟨⟨S,w,z,q,h,b0,N⟩,t5,t6,t7,t8,t38,t39⟩
   have A:a<p.length+1:=by omega
   obtain⟨U,b2,sv,G,C,ho⟩:=w.set (a:=a) A
   simp(disch:=omega)only[↓wr,seval,wq,wZ,t6,t7,t8,G,C,gK A,ho.len]
   refine⟨A,by simp;omega,?_⟩
   have b3:=z.len hf hp a
   apply ao.dec<;>intro hc
   .obtain⟨m,bd,hm⟩:=ho.sl (by simp;omega)
    have O:(S a)[i]?=some ((S a)[i]'(by omega)):=aa8 (by omega)
    have ab:(S a)[i]'(by omega)∈S a:=abe _
    have ae:(S a).take (i+1)=(S a).take i++[(S a)[i]'(by omega)]:=by rw[abr,O];rfl
    generalize (S a)[i]'(by omega)=x at O ab ae
    have bl:((S a).map gf).getD i []=[cP x.aB,cP x.dot,cP x.ep]:=by simp[O,gf]
    simp(disch:=omega)only[↓wr,seval,wq,t6,t7,t8,G,C,gK A,bd,hm,bl]
    refine⟨A,by simp;omega,by omega,by omega,?_⟩
    refine ay.cF ((XY c g hr p hp S _ a x _ _ w z (by omega) (by omega) ab).mono ?_)
    rintro r1 H4 ⟨S',bn,br,l,bs⟩
    simp(disch:=omega)only[↓wr,seval,wq,t8]
    refine aF hi (by omega) ⟨⟨S',bn.more (by omega),br,λj R h1 v=>l.mem (q j R h1 v),λb hb x d=>(h b hb x (by rw[(l b).2 hb] at d;exact d)).grow (l.low (by omega)),?_,?_⟩,t5,t6,t7,rfl,t38,t39⟩
    .have:=(l a).1.length_le
     omega
    .obtain⟨t,ht⟩:=(l a).1
     rw[<-ht,List.take_append_of_le_length (by omega),ae]
     intro y I
     rcases abq.1 I with I | I
     .exact(N y I).grow l
     .simp at I;subst I;exact bs
   .simp(disch:=omega)only[↓wr,seval,wq,t6,t39]
    have al:i=(S a).length:=by omega
    rw[al,acu] at N
    refine aF hk (by omega) ⟨⟨S,w.more (by omega),z,q,λb hb x d=>?_⟩,t5,t6,t38,rfl⟩
    by_cases e:b=a
    .subst e;exact N x d
    .exact h b (by omega) x d
  .simp(disch:=omega)only[↓wr,seval,wq,t6]
   have bx:∀b x,x∈S b->b<=p.length:=λb x d=>by
    apply acN
    intro hn
    rw[z.out b (by omega)] at d
    simp at d
   have hd:=λb x (d:x∈S b)=>h b (by have:=bx b x d;omega) x d
   refine⟨c,S,_,rfl,w,z,⟨q,λa x R s d h1 v P Q=>(hd a x d).term R s h1 v P Q,λa x R s i R' d h1 v P Q h5 _=>(hd a x d).pred R s i R' h1 v P Q h5,λa x R s d h1 v P Q _=>(hd a x d).null R s h1 v P Q,λa y R' x R s I h1 v P d Q h5 h6 h7 _=>?_⟩⟩
   refine(hd a y I).comp R' h1 v P x d R Q ?_
   rw[h5,h7]
   congr 1
   omega
def od (g:ak) (x:Item):Bool:=match g.rules[x.aB]? with
 | some R=>decide (R.left=g.start)&&decide (x.ep=0)&&decide (x.dot=R.right.length)
 | none=>false
def Kept (H H':View):Prop:=∀id,H id≠.dead->H' id=H id
theorem Kept.refl (H:View):Kept H H:=λ_ _=>rfl
theorem Kept.trans {H H' b:View} (h:Kept H H') (c:Kept H' b):Kept H b:=λid a=>by
 have h1:=h id a
 rw[<-h1] at a
 rw[c id a,h1]
theorem Kept.new {H:View} {b:Nat} {o:ct} (c:H b=.dead):Kept H (H.set b o):=λid a=>by
 have:id≠b:=by rintro rfl;exact a c
 simp[View.set,this]
def Hv (H:View) (c:Nat) (g:ak) (p:List Int):Prop:=∃nu sid mid n,H c=.arr 8 [[.aY (g.ax.map df),encS g.av,.aY (g.rules.map aQ),gi g.start,encI p,nu,.sl sid 0 n 1,.sl mid 0 n 1]]
theorem Hv.keep {H H':View} {c:Nat} {g:ak} {p:List Int} (h:Hv H c g p) (d:Kept H H'):Hv H' c g p:=by
 obtain⟨e,a,b,n,h⟩:=h
 exact⟨e,a,b,n,by rw[d c (by rw[h];simp)];exact h⟩
def oo:SF:=⟨ai [ag [bZ 2 0,bb 3 false],ag [au 5 1,fU 6 5,aw 7 0 6,aw 8 2 7,au 9 8,aw 10 0 2,au 11 10,aL 12 3 9 11,aV 13 3 12,((some 4),.op (.alloc [(.val (.int .i64 0)),(.emp 1),(.val (.int .i64 0))])),cz 3 4 13],.region false [⟨none,[aw 14 0 4,au 15 14,au 16 1,fU 17 16,aw 18 0 17,aw 19 3 18,au 20 19,aS 21 .eql 15 20,af 22 21]⟩,⟨(some (22,true)),[aw 23 2 2,au 24 23,aI 25 .eql 24 0]⟩,⟨none,[dA 26 22 25,af 27 26]⟩,⟨(some (27,true)),[aw 28 1 2,au 29 28,aw 30 1 4,au 31 30,aM 32 31,aS 33 .eql 29 32]⟩,⟨none,[dA 34 27 33,af 3 34]⟩],.ret],
 [.tmp 3],35⟩
theorem uH:aJ aa 113 [2]=some oo:=by kernel_rfl
def fL:SC:=
 ai [ag [aS 9 .lss 8 7],bO 9 (.exit 0),.block 1 (ai [ag [af 10 8,af 5 10],ag [af 11 1,af 12 0,af 13 5,aL 14 3 12 13,aV 15 3 14,((some 16),.call (.tmp 11) [(.tmp 15)])],aX 16 (ai [ag [af 17 5,af 4 17],.ret])]),ag [aI 18 .add 8 1,af 8 18]]
def fT:SF:=⟨ai [ag [aT 4 0],ai [ag [af 6 0,aM 7 6,aT 8 0],bR 0 fL],ag [aT 4 (-1)],.ret],
 [.tmp 4],19⟩
theorem jr:aJ aa 178 []=some fT:=by kernel_rfl
def fI:SF:=⟨ai [ag [bb 4 false],ag [af 5 0,af 6 1,aU 7 178 [5,6],aI 8 .geq 7 0,af 4 8],.ret],
 [.tmp 4],9⟩
theorem iT:aJ aa 112 []=some fI:=by kernel_rfl
def qZ:SF:=⟨ai [ag [bZ 1 0,bb 2 false],ag [au 3 1,fU 4 3,aw 5 6 4,au 6 5,au 7 1,fU 8 7,aw 9 4 8,au 10 9,aM 11 10,aL 12 1 6 11,au 13 12,((some 14),.op (.uh 113 [] [(.tmp 1)])),aU 15 112 [13,14],af 2 15],.ret],
 [.tmp 2],16⟩
theorem wj:aJ aa 54 [1]=some qZ:=by kernel_rfl
theorem S8 (c:Nat) (g:ak) (p:List Int) (x:Item) (H:View) (d:Hv H c g p) (f:x.aB<g.rules.length):az aa 113 [.agg (gf x),.aR [.ptr c 0 0] 0] H λr H'=>r=gb (od g x)/\Kept H H':=by
 obtain⟨m,j,k,n,a⟩:=d
 have h:g.rules[x.aB]?=some (g.rules[x.aB]'f):=aa8 f
 generalize g.rules[x.aB]'f=R at h
 have hw:od g x=(decide (R.left=g.start)&&decide (x.ep=0)&&decide (x.dot=R.right.length)):=by unfold od;rw[h]
 refine az.of mixed uH ?_
 simp(disch:=omega)only[↓wr,seval,wq,oo,gf,a,aQ,encI,aba,h]
 intro b d
 have i:c≠b:=by rintro rfl;rw[a] at d;simp at d
 simp only[aa9 i]
 simp(disch:=omega)only[↓wr,seval,wq]
 apply ao.eq<;>intro e
 .simp(disch:=omega)only[↓wr,seval,wq]
  apply ao.eq<;>intro l
  .simp(disch:=omega)only[↓wr,seval,wq]
   refine⟨?_,?_⟩
   .rw[hw,abJ e,abJ (show x.ep=0 by omega),gb]
    congr 2
    rw[abW]
    simp
    omega
   .rw[set_set];exact Kept.new d
  .simp(disch:=omega)only[↓wr,seval,wq]
   refine⟨?_,?_⟩
   .rw[hw,abJ e,decide_eq_false (show ¬ x.ep=0 by omega)];rfl
   .rw[set_set];exact Kept.new d
 .simp(disch:=omega)only[↓wr,seval,wq]
  refine⟨?_,?_⟩
  .rw[hw,decide_eq_false e];rfl
  .rw[set_set];exact Kept.new d
theorem UM (c:Nat) (g:ak) (p:List Int) (u:V) (l:List Item) (H:View) (A:Hv H c g p) (q:aN H u 3 (l.map gf)) (B:∀x∈l,x.aB<g.rules.length) (C:l.length<1000000):
  az aa 178 [u,.fn 113 [] [.aR [.ptr c 0 0] 0]] H λr H'=>∃k:Int,r=gi k/\-1<=k/\k<1000000/\(0<=k↔l.any (od g)=true)/\Kept H H':=by
 refine az.of mixed jr ?_
 simp(disch:=omega)only[↓wr,seval,wq,fT,q.len]
 refine aW.up l.length (λi j H'=>Kept H H'/\(l.take i).any (od g)=false/\j 0=u/\j 1=.fn 113 [] [.aR [.ptr c 0 0] 0]/\j 7=cP l.length/\j 8=cP i) ?_ ?_
 .exact⟨.refl _,by simp,rfl,rfl,rfl,rfl⟩
 rintro i k j H' hk ⟨a,b,t0,t1,t7,t8⟩
 have s:=A.keep a
 have t:aN H' u 3 (l.map gf):=q.keep λid v=>a id (by rw[(q.live v).1];simp)
 simp(disch:=omega)only[↓wr,seval,wq,fL,t7,t8]
 apply ao.dec<;>intro D
 .obtain⟨m,w,hm⟩:=t.sl (by simp;omega)
  have d:l[i]?=some (l[i]'(by omega)):=aa8 (by omega)
  have f:l[i]'(by omega)∈l:=abe _
  have n:l.take (i+1)=l.take i++[l[i]'(by omega)]:=by rw[abr,d];rfl
  generalize l[i]'(by omega)=x at d f n
  have y:(l.map gf).getD i []=[cP x.aB,cP x.dot,cP x.ep]:=by simp[d,gf]
  have z:=B x f
  simp(disch:=omega)only[↓wr,seval,wq,t0,t1,t8,w,hm,y]
  refine⟨by omega,by omega,?_⟩
  refine ay.cF ((S8 c g p x H' s z).mono ?_)
  rintro r E ⟨rfl,o⟩
  simp(disch:=omega)only[↓wr,seval,wq]
  apply ao.split<;>intro e
  .simp(disch:=omega)only[↓wr,seval,wq,t8]
   refine⟨(i:Int),rfl,by omega,by omega,⟨λ_=>acE.2 ⟨x,f,e⟩,λ_=>by omega⟩,a.trans o⟩
  .simp(disch:=omega)only[↓wr,seval,wq,t8]
   exact aF hk (by omega) ⟨a.trans o,by rw[n,List.any_append,b];simp[e],t0.trans rfl,t1,t7,rfl⟩
 .simp(disch:=omega)only[↓wr,seval,wq]
  have:i=l.length:=by omega
  subst this
  rw[acu] at b
  exact⟨-1,rfl,by omega,by omega,⟨λh=>by omega,λh=>by rw[b] at h;simp at h⟩,a⟩
theorem LX (c:Nat) (g:ak) (p:List Int) (u:V) (l:List Item) (H:View) (b:Hv H c g p) (d:aN H u 3 (l.map gf)) (e:∀x∈l,x.aB<g.rules.length) (a:l.length<1000000):
  az aa 112 [u,.fn 113 [] [.aR [.ptr c 0 0] 0]] H λr H'=>r=gb (l.any (od g))/\Kept H H':=by
 refine az.of mixed iT ?_
 simp(disch:=omega)only[↓wr,seval,wq,fI]
 refine ay.cF ((UM c g p u l H b d e a).mono ?_)
 rintro r i ⟨k,rfl,h1,j,f,h⟩
 simp(disch:=omega)only[↓wr,seval,wq]
 refine⟨?_,h⟩
 rw[gb]
 congr 2
 rw[abW,<-f]
 simp
theorem V3 (c:Nat) (g:ak) (f:g.c5) (p:List Int) (hp:p.length<=60) (i:V) (S:Nat->List Item) (B:Nat) (K:List (Nat × ct)) (H:View) (j:Ch H c g p i S B (p.length+1) K) (h:Good g p S):
  az aa 54 [.ptr c 0 0] H λr _=>r=gb ((S p.length).any (od g)):=by
 obtain⟨k,l,m,b,d,n⟩:=j.set (a:=p.length) (by omega)
 have e:p.length<p.length+1:=by omega
 have hr:=f.rules
 refine az.of mixed wj ?_
 simp(disch:=omega)only[↓wr,seval,wq,qZ,b,encI,d,gK e]
 refine⟨by omega,by simp,?_⟩
 refine ay.cF ((LX c g p (m p.length) (S p.length) H ⟨_,_,_,_,b⟩ n (λx o=>?_) (by have:=h.len f hp p.length;omega)).mono ?_)
 .obtain⟨R,q,_⟩:=h.sound _ _ o
  exact(abf.1 q).1
 rintro r s ⟨rfl,_⟩
 simp(disch:=omega)only[↓wr,seval,wq]
theorem Ud {g:ak} (hr:bu g=true) {p:List Int} {S:Nat->List Item} (c:Good g p S) (d:Fa g p S):(S p.length).any (od g)=nQ g p:=by
 rw[abW,D5 hr,<-Um hr d c.sound,acE]
 constructor
 .rintro⟨x,a,hw⟩
  refine⟨x,a,?_⟩
  unfold od at hw
  split at hw
  .rename_i R b
   simp only[abh,abn] at hw
   exact⟨R,b,hw.1.1,hw.1.2,hw.2⟩
  .simp at hw
 .rintro⟨x,a,R,b,h1,e,f⟩
  refine⟨x,a,?_⟩
  unfold od
  rw[b]
  simp only[abh,abn]
  exact⟨⟨h1,e⟩,f⟩
def Cs:SF:=⟨ai [ag [bZ 2 0,bb 4 false,aT 5 0],ai [ag [aV 6 4 2,af 7 1,aU 8 52 [6,7],cO 9 8],aX 9 (ai [ag [bb 4 false,aT 5 1],.ret])],ag [aV 10 4 2,af 11 1,aU 12 53 [10,11],aU 13 54 [12],af 4 13,aT 5 0],.ret],
 [.tmp 4,.tmp 5],14⟩
theorem Fg:aJ aa 19 [2]=some Cs:=by kernel_rfl
theorem Ym (g:ak) (e:g.Ok) (f:g.Small) (w:List Int) (hw:aG w) (j:∀x∈w,bm x):aC aa 19 [.agg (aj g),encI w] (Br (k6 g w)):=by
 refine aC.tree (zB g w) (Cj _) λH=>?_
 refine az.of mixed Fg ?_
 simp(disch:=omega)only[↓wr,seval,wq,Cs,aj,encS]
 have b:=K0 g e f w hw j
 simp only[aj,encS] at b
 refine ay.pure b ?_
 simp(disch:=omega)only[↓wr,seval,wq]
 apply ao.split<;>intro h
 .have a:=h
  simp only[iZ,abh,abn] at a
  simp(disch:=omega)only[↓wr,seval,wq]
  have d:=XM g e a.1.1 f w a.1.2 H
  simp only[aj,encS] at d
  refine ay.cF (d.mono ?_)
  rintro r H1 ⟨c,S,B,rfl,k,i,l⟩
  simp(disch:=omega)only[↓wr,seval,wq]
  refine ay.cF ((V3 c g (bF a.1.1) w a.1.2 _ S B _ H1 k i).mono ?_)
  rintro r m rfl
  simp(disch:=omega)only[↓wr,seval,wq]
  rw[k6,abb h,Ud a.1.1 i l];rfl
 .simp(disch:=omega)only[↓wr,seval,wq]
  rw[k6,h];rfl
def Xh:List Int:=[37,37,32,115,32,58,32,39,97,39,32,115,32,124,32,59]
def kD:ak:=⟨[⟨⟨#[39,97,39]⟩,0,0⟩],[⟨#[115]⟩],[⟨0,[0,(-1)],0⟩,⟨0,[],(-1)⟩],0⟩
theorem Zv:bX aa 44 [EN Xh] (vr kD):=Pb (by kernel_rfl)
section
variable {g:ak} {p:List Int} {T:Tb} {N:Nat}
end
theorem cm.xL {H:View} {u:V} {l:List Int} (h:aN H u 1 (aO l)):cm H u (encI l):=cm.own h λe he v a=>by
 obtain⟨x,_,rfl⟩:=abt.1 he
 simp at a;subst a;exact .val _
section
variable {g r:ak} {p q:List Bool} {o:List Int}
end
def pad (h:List Int) (k:Nat):List Int:=h++List.replicate k (-1)
def Mk (fit:List Int->Bool) (T:Nat):Nat->List Int->List (List Int)
 | 0,h=>if fit (pad h 0)=true then [h] else []
 | k+1,h=>if fit (pad h (k+1))=true then (List.range T).flatMap λ(t:Nat)=>Mk fit T k (h++[(t:Int)]) else []
section
variable {fit:List Int->Bool} {T b:Nat}
theorem MP:∀(k:Nat) (h w:List Int),w∈Mk fit T k h->fit w=true/\∃s,w=h++s/\s.length=k/\∀x∈s,0<=x/\x<(T:Int)
 | 0,h,w,hm=>by
  rw[Mk] at hm
  split at hm
  .rename_i b
   simp at hm;subst hm
   exact⟨by simpa [pad] using b,[],by simp,rfl,by simp⟩
  .simp at hm
 | k+1,h,w,hm=>by
  rw[Mk] at hm
  split at hm
  .rw[ac2] at hm
   obtain⟨t,c,hm⟩:=hm
   obtain⟨h1,s,rfl,d,e⟩:=MP k _ w hm
   rw[ab7] at c
   refine⟨h1,(t:Int)::s,by simp,by simp[d],λx a=>?_⟩
   rcases abw.1 a with rfl | a
   .omega
   .exact e x a
  .simp at hm
end
def Fv (l:List (List Int)):V:=.aY (l.map λw=>[encI w])
def aaL (H:View) (v:V) (p:List Int):Prop:=v=encI p∨(p≠[]/\∃n,v=.sl n 0 p.length 1/\H n=.arr 1 (aO p))
theorem Bu (l:List Int) (b:l.length<=100000) (v:V) (H:View) (c:aaL H v l):az aa 140 [v] H λr H'=>aN H' r 1 (aO l)/\cn H H' r:=by
 rcases c with rfl | ⟨a,n,rfl,d⟩
 .exact Iz l b H
 .cases l with
  | nil=>exact absurd rfl a
  | cons p r =>
   refine az.of mixed ew ?_
   simp only[abl] at b ⊢
   have he:bQ H (.sl n 0 (r.length+1) 1)=some (aO (p::r),[n]):=by
    rw[j6 _ n 0 r.length 1 1 _ d (by simp),ab8,abo (by simp)]
   simp(disch:=omega)only[↓wr,seval,wq,en,he]
   refine⟨by simp[aK],by unfold aE;simp;omega,λm hm=>?_⟩
   simp(disch:=omega)only[↓wr,seval,wq]
   have:=aN.new (H:=H) (n:=m) (sz:=1) (es:=aO (p::r))
   simp only[abc,abl] at this
   exact⟨by simpa using this,.new hm⟩
section
variable {P:Program} {T:Env} {H:View} {K:V->View->Prop} {w:dd (T,H,K)} {t t1 e ty:TypeId}
theorem R6 {x:Operand} {k:Nat} (he:dg P t=some e) (a:ev T x=.emp k) (hk:K (cP 0) H):kb P (.call { callee:=.builtin .cap,args:=#[x],argTypes:=#[t] }) ty T H K w:=by
 intro n _
 refine⟨cP 0,.none,[],?_,hk⟩
 simp[sI,cL,oper,HL,he,a]
theorem Xv {s x:Operand} {k l sz bytes:Nat} {z:List V} (he:pV P t=some (sz,bytes,z)) (g:pY P t1=false) (hi:isInt P t1=true) (h:ev T s=.emp k) (i:ev T x=cP l) (j:l≠0)
  (h1:l*bytes<aE) (m:l<aE) (hk:∀n,H n=.dead->K (.sl n 0 l sz) (H.set n (.arr sz (List.replicate l z)))):
  kb P (.call { callee:=.builtin .append,args:=#[s,x],argTypes:=#[t,t1] }) ty T H K w:=by
 obtain⟨e,ti,b,_,c,o,d,a,f,rfl,rfl⟩:=lA he
 intro n p
 refine⟨.sl n 0 l ti.size,.new (.arr ti.size (List.replicate l z)),[],?_,hk n p⟩
 have q:asNat (cP l)=some l:=by simp[asNat,cP]
 have key:uK P t (.emp k) (cP l) n=some (.sl n 0 l ti.size,.new (.arr ti.size (List.replicate l z)),[]):=by
  unfold uK
  rw[b,q]
  simp only[c,o,aa9 j]
  rw[abb ⟨d,a,f,h1,m⟩]
 simp[sI,cL,oper,g,hi,h,i,key]
end
def mK:SF:=⟨ai [ag [bL 4 1],ai [ag [af 5 1,aI 6 .lss 5 0],aX 6 (.region false [⟨none,[((some 7),.op (.old (.makeInterface 9 (.const (.string ⟨#[99,97,110,110,111,116,32,98,101,32,110,101,103,97,116,105,118,101]⟩))) 20)),(none,.op (.old (.panic (.tmp 7)) 0))]⟩])],ai [ag [af 8 1,af 9 0,((some 10),.op (.old (.call { callee:=.builtin .cap,args:=#[(.tmp 9)],argTypes:=#[27] }) 3)),af 11 0,aM 12 11,aS 13 .sub 10 12,aS 14 .sub 8 13,af 1 14],ag [af 15 1,aI 16 .gtr 15 0],aX 16 (ag [af 17 0,af 18 0,((some 19),.op (.old (.call { callee:=.builtin .cap,args:=#[(.tmp 18)],argTypes:=#[27] }) 3)),((some 20),.op (.slice 1 (.tmp 17) none (some (.tmp 19)))),af 21 1,((some 22),.op (.old (.call { callee:=.builtin .append,args:=#[(.tmp 20),(.tmp 21)],argTypes:=#[27,3] }) 27)),af 23 0,aM 24 23,((some 25),.op (.slice 1 (.tmp 22) none (some (.tmp 24)))),af 0 25])],ag [af 26 0,af 4 26],.ret],
 [.tmp 4],27⟩
theorem tW:aJ aa 132 []=some mK:=by kernel_rfl
def kQ:SC:=
 ai [ag [aS 12 .lss 11 10],bO 12 (.exit 0),.block 1 (ai [ag [aL 13 1 9 11,au 14 13,af 5 14],ag [af 15 3,af 16 5,aM 17 16,aS 18 .add 15 17,af 3 18],ag [af 19 3,aI 20 .lss 19 0],aX 20 (.region false [⟨none,[((some 21),.op (.old (.makeInterface 9 (.const (.string ⟨#[108,101,110,32,111,117,116,32,111,102,32,114,97,110,103,101]⟩))) 20)),(none,.op (.old (.panic (.tmp 21)) 0))]⟩])]),ag [aI 22 .add 11 1,af 11 22]]
def kM:SC:=
 ai [ag [aS 28 .lss 27 26],bO 28 (.exit 2),.block 3 (ai [ag [aL 29 1 25 27,au 30 29,af 8 30],ag [af 31 6,af 32 8,eZ 33 1 8 31 32,af 6 33]]),ag [aI 34 .add 27 1,af 27 34]]
def lE:SF:=⟨ai [ag [bL 2 1],ag [aT 3 0],ai [ag [af 9 0,aM 10 9,aT 11 0],bR 0 kQ],ag [af 23 3,lG 24 132 [(.val (.emp 1)),(.tmp 23)],af 6 24],ai [ag [af 25 0,aM 26 25,aT 27 0],bR 2 kM],ag [af 35 6,af 2 35],.ret],
 [.tmp 2],36⟩
theorem rf:aJ aa 68 []=some lE:=by kernel_rfl
theorem PQ (n:Nat) (a:n<=1000000) (H:View):az aa 132 [.emp 1,gi n] H λr H'=>(n=0/\r=.emp 1/\H'=H)∨(0<n/\∃m es,H m=.dead/\r=.sl m 0 0 1/\H'=H.set m (.arr 1 es)):=by
 refine az.of mixed tW ?_
 simp(disch:=omega)only[↓wr,seval,wq,mK]
 refine ao.dec (λh=>absurd h (by omega)) (λ_=>?_)
 simp(disch:=omega)only[↓wr,seval,wq]
 refine R6 (k:=1) (e:=3) (by kernel_rfl) (by simp(disch:=omega)only[↓wr,seval]) ?_
 simp(disch:=omega)only[↓wr,seval,wq]
 apply ao.dec<;>intro h
 .simp(disch:=omega)only[↓wr,seval,wq]
  refine R6 (k:=1) (e:=3) (by kernel_rfl) (by simp(disch:=omega)only[↓wr,seval]) ?_
  simp(disch:=omega)only[↓wr,seval,wq]
  first | rw[show c6 1 (.emp 1) none (some (.val (.int .i64 ((0:Nat):Int))))=some (.emp 1,.none,[]) from rfl] | rw[show c6 1 (.emp 1) none (some (.val (.int .i64 0)))=some (.emp 1,.none,[]) from rfl]
  simp(disch:=omega)only[↓wr,seval,wq]
  refine Xv (k:=1) (l:=n) (sz:=1) (bytes:=8) (z:=[gi 0]) (by kernel_rfl) (by kernel_rfl) (by kernel_rfl) (by simp(disch:=omega)only[↓wr,seval]) (by simp(disch:=omega)only[↓wr,seval,wq];simp) (by omega) (by unfold aE;omega) (by unfold aE;omega) ?_
  intro m hm
  simp(disch:=omega)only[↓wr,seval,wq]
  first | rw[show c6 1 (.sl m 0 n 1) none (some (.val (.int .i64 ((0:Nat):Int))))=some (.sl m 0 0 1,.none,[]) by simp[c6,bound,asNat]] | rw[show c6 1 (.sl m 0 n 1) none (some (.val (.int .i64 0)))=some (.sl m 0 0 1,.none,[]) by simp[c6,bound,asNat]]
  simp(disch:=omega)only[↓wr,seval,wq]
  exact .inr ⟨by omega,m,_,hm,rfl,rfl⟩
 .simp(disch:=omega)only[↓wr,seval,wq]
  exact .inl (by omega)
def JZ (H:View) (u:V) (l:List Int):Prop:=aN H u 1 (aO l)∨(l=[]/\∃m es,u=.sl m 0 0 1/\H m=.arr 1 es)
theorem Q4 {bytes:Nat} {u:V} {l xs:List Int} {H:View} {K:V->View->Prop} {w:dd (H,K)} (a:JZ H u l) (d:(l.length+xs.length)*bytes<aE) (b:l.length+xs.length<aE) (j:bytes=8)
  (hk:∀u' H',JZ H' u' (l++xs)->(aN H u 1 (aO l)->aN H' u' 1 (aO (l++xs)))->Left H H' u u'->K u' H'):nA 1 bytes u (aO xs) H K w:=by
 rcases a with a | ⟨rfl,m,es,rfl,hm⟩
 .exact dw a (by simp[aK]) (by simpa using d) (by simpa using b) λu' H' h1 f=>hk u' H' (.inl (by simpa using h1)) (λ_=>by simpa using h1) f
 .cases xs with
  | nil=>exact hk _ _ (.inr ⟨rfl,m,es,rfl,hm⟩) (λh=>by simpa using h) .refl
  | cons x xs =>
   rw[vH _ _ _ _ _ _ _ _ _ _ (by simp),hm]
   refine⟨by simp[aK],⟨by simp,rfl,by simpa using d,by simpa using b⟩,λn g=>hk _ _ (.inl (.inr ⟨n,by simp,by simp[View.set]⟩)) (λ_=>.inr ⟨n,by simp,by simp[View.set]⟩) λid c a=>?_⟩
   have e:id≠n:=by rintro rfl;exact c g
   have i:id≠m:=by rintro rfl;exact a rfl
   exact⟨by simp[View.set,e,i],by simp[owner,Ne.symm e]⟩
def ir:SC:=
 ai [ag [aS 10 .lss 9 8],bO 10 (.exit 0),.block 1 (ai [ag [aL 11 1 7 9,au 12 11,af 5 12],ai [ag [af 13 5,aI 14 .geq 13 0],aX 14 (ai [ag [af 15 0,af 16 0,fU 17 16,aw 18 6 17,au 19 18,af 20 5,((some 21),.op (.bH 1 1 [(.val (.int .i64 0))] [(0,(.tmp 20))])),eZ 22 1 8 19 21,fU 23 15,aw 24 6 23,cz 1 24 22],.exit 1])],ag [af 25 0,fU 26 25,aw 27 4 26,au 28 27,af 29 5,((some 30),.op (.arith .sub (.val (.val (.int .i64 (-1)))) (.tmp 29))),aL 31 4 28 30,aw 32 0 31,au 33 32,af 6 33],ag [af 34 0,af 35 0,fU 36 35,aw 37 5 36,au 38 37,af 39 6,((some 40),.op (.bH 1 1 [(.val (.int .i64 0))] [(0,(.tmp 39))])),eZ 41 1 8 38 40,fU 42 34,aw 43 5 42,cz 1 43 41],ag [af 44 0,af 45 0,fU 46 45,aw 47 0 46,aw 48 2 47,au 49 48,af 50 6,aL 51 3 49 50,aw 52 1 51,au 53 52,aU 54 197 [44,53]]]),ag [aI 55 .add 9 1,af 9 55]]
def ll:SF:=⟨ai [ag [af 7 1,aM 8 7,aT 9 0],bR 0 ir],
 [],56⟩
theorem nK:aJ aa 197 []=some ll:=by kernel_rfl
def kf (g:ak) (r w:V):List V:=[.aY (g.ax.map df),.aY (g.av.map λs=>[gs s]),.aY (g.rules.map aQ),gi g.start,jR (aA g),r,w]
def ML (g:ak) (b:Nat) (R W:List Int) (H:View):Prop:=∃ur uw,bw H [(.sl b 0 1 7,7,[kf g ur uw]),(ur,1,aO R),(uw,1,aO W)]
theorem Lu (g:ak) (hg:g.Ok) (hf:g.c5) (b:Nat):∀(f:Nat) (l:List Int),aG l->(∀x∈l,bm x/\(x<0->-1-x<g.av.length))->DR (aA g) f l->∀(R W:List Int) (H:View),(R++fw g (aA g) f l).length<=100000->(W++dV g (aA g) f l).length<=2000000 ->
  ML g b R W H->az aa 197 [.ptr b 0 0,encI l] H λ_ H'=>ML g b (R++fw g (aA g) f l) (W++dV g (aA g) f l) H':=by
 intro f
 induction f using Nat.strongRecOn with
 | _ f ih =>
  intro l hl E hu R W H0 F G I
  refine az.of mixed nK ?_
  unfold aG at hl
  simp(disch:=omega)only[↓wr,seval,wq,ll,encI]
  refine aW.up l.length (λi T H'=>ML g b (R++fw g (aA g) f (l.take i)) (W++dV g (aA g) f (l.take i)) H'/\T 0=.ptr b 0 0/\T 7=encI l/\T 8=gi l.length/\T 9=gi i) ⟨by rw[List.take_zero,wU,pA,abV,abV];exact I,rfl,rfl,rfl,rfl⟩ ?_
  rintro i k T H hk ⟨⟨J,K,u⟩,t0,t7,t8,t9⟩
  simp(disch:=omega)only[↓wr,seval,wq,ir,t8,t9,encI]
  apply ao.dec<;>intro hc
  .have q:l[i]?=some (l[i]'(by omega)):=aa8 (by omega)
   have a:l[i]'(by omega)∈l:=abe _
   have c:l.take (i+1)=l.take i++[l[i]'(by omega)]:=by rw[abr,q];rfl
   have j:=SM g f l (i+1)
   have d:=IC g f l (i+1)
   generalize l[i]'(by omega)=x at q a c
   obtain⟨⟨ab,ae⟩,L⟩:=E x a
   rw[c,jO] at j
   rw[c,gn] at d
   simp only[abv] at F G j d
   have M:=u.is 0 rfl (by simp)
   simp(disch:=omega)only[↓wr,seval,wq,t7,t9,encI,aba,q]
   apply ao.dec<;>intro D
   .rw[kd (show 0<=x from D)] at d
    simp only[abl,abG] at d
    simp(disch:=omega)only[↓wr,seval,wq,t0,M,kf]
    intro n s
    rw[bD]
    simp(disch:=omega)only[↓wr,seval,wq]
    refine dC ((u.at 2 (by simp)).fresh s) (by simp[aK]) (by unfold aE;simp;omega) (by unfold aE;simp;omega) ?_
    intro w H1 e _
    simp only[ack,acm] at e
    have t:=e.is 1 rfl (by simp)
    have c1:=e.head.cells
    have N:=e.head.eL
    simp(disch:=omega)only[↓wr,seval,wq,t9,t,kf,c1,N]
    have z:=(e.at 1 (by simp)).put (es':=[kf g J w]) rfl rfl
    simp only[ack,acm] at z
    refine aF hk (by omega) ⟨⟨J,w,?_⟩,t0,t7,t8,rfl⟩
    rw[c,jO,gn,pT (show 0<=x from D),kd (show 0<=x from D),abV]
    have O:=z.perm (.cons _ (.swap _ _ _))
    simpa [kf] using O
   .obtain⟨f,rfl⟩:∃f',f=f'+1:=by
     cases f with
     | zero=>have:=CV hu x a;omega
     | succ f=>exact⟨f,rfl⟩
    obtain⟨Q,Y⟩:=hu x a (by omega)
    obtain⟨Z,r,hi,hr,o,S,_⟩:=vw (f:=f) Q (by push_cast at Y;exact Y)
    have A:=BI (P:=aA g) (m:=cr x) (by rw[gP];have:=L (by omega);unfold cr;omega)
    have B:=abi hr
    have al:Z<g.rules.length:=(abf.1 hr).1
    have C:=hg.aB r B
    rw[pQ (by omega),o,hi] at j
    rw[kZ (by omega),o] at d
    simp only[abl] at j
    generalize U:bB (aA g) (cr x)=p at A hi o
    simp(disch:=omega)only[↓wr,seval,wq,t0,M,kf]
    simp(disch:=omega)only[↓wr,seval,wq,t0,M,kf,A,cx,hi]
    intro n s
    rw[bD]
    simp(disch:=omega)only[↓wr,seval,wq]
    refine dC ((u.at 1 (by simp)).fresh s) (by simp[aK]) (by unfold aE;simp;omega) (by unfold aE;simp;omega) ?_
    intro w H1 e _
    simp only[ack,acm] at e
    have t:=e.is 1 rfl (by simp)
    have c1:=e.head.cells
    have N:=e.head.eL
    simp(disch:=omega)only[↓wr,seval,wq,t0,t,kf,c1,N,aQ,aba,hr,encI]
    have z:=(e.at 1 (by simp)).put (es':=[kf g w K]) rfl rfl
    simp only[ack,acm] at z
    have h:=ih f (by omega) r.right C.2.2.1 (λy hy=>⟨C.2.2.2 y hy,λE=>hf.neg B hy E⟩) S (R++fw g (aA g) (f+1) (l.take i)++[(Z:Int)]) (W++dV g (aA g) (f+1) (l.take i)) _
     (by simp only[abv,abl,abG];omega) (by simp only[abv];omega) ⟨w,K,by simpa using z⟩
    simp only[kf,encI] at h
    refine ay.cF (h.mono ?_)
    rintro v H2 ⟨V,X,O⟩
    simp(disch:=omega)only[↓wr,seval,wq,t9]
    refine aF hk (by omega) ⟨⟨V,X,?_⟩,t0,t7,t8,rfl⟩
    rw[c,jO,gn,pQ (by omega),kZ (by omega),U,hi,<-hi,o,hi]
    simpa using O
  .rw[abo (by omega)] at u
   simp(disch:=omega)only[↓wr,seval,wq]
   exact⟨J,K,u⟩
def BB (H:View) (u:V) (l:List Int):Prop:=u=encI l∨∃(m:Nat) (x:Int),l=[x]/\x<0/\u=.sl m 0 1 1/\H m=.arr 1 [[gi x]]
theorem BB.kI {H:View} {u:V} {l:List Int} (h:BB H u l):cm H u (encI l):=by
 rcases h with rfl | ⟨m,x,rfl,_,rfl,hm⟩
 .exact cm.tree (bg l)
 .exact Gx (l:=[x]) hm rfl
theorem BB.keep {H H':View} {u:V} {l:List Int} (h:BB H u l) (hk:∀id,H id≠.dead->H' id=H id):BB H' u l:=by
 rcases h with rfl | ⟨m,x,rfl,a,rfl,hm⟩
 .exact .inl rfl
 .exact .inr ⟨m,x,rfl,a,rfl,by rw[hk m (by rw[hm];simp)];exact hm⟩
theorem LW (g:ak) (z:g.Ok) (A:g.c5) (b:Nat) (f:Nat) (l:List Int) (S:aG l) (t:∀x∈l,bm x/\(x<0->-1-x<g.av.length)) (hu:DR (aA g) f l) (R W:List Int) (H:View) (c:(R++fw g (aA g) f l).length<=100000) (d:(W++dV g (aA g) f l).length<=2000000)
  (hw:ML g b R W H) (u:V) (hi:BB H u l):az aa 197 [.ptr b 0 0,u] H λ_ H'=>ML g b (R++fw g (aA g) f l) (W++dV g (aA g) f l) H':=by
 rcases hi with rfl | ⟨m,x,rfl,U,rfl,hm⟩
 .exact Lu g z A b f l S t hu R W H c d hw
 .obtain⟨⟨X,Y⟩,B⟩:=t x (by simp)
  refine az.of mixed nK ?_
  simp(disch:=omega)only[↓wr,seval,wq,ll]
  refine aW.up 1 (λi T H'=>((i=0/\H'=H)∨(i=1/\ML g b (R++fw g (aA g) f [x]) (W++dV g (aA g) f [x]) H'))/\T 0=.ptr b 0 0/\T 7=.sl m 0 1 1/\T 8=gi 1/\T 9=gi i) ⟨.inl ⟨rfl,rfl⟩,rfl,rfl,rfl,rfl⟩ ?_
  rintro i k T H1 hk ⟨Z,t0,t7,t8,t9⟩
  rcases Z with ⟨rfl,rfl⟩ | ⟨rfl,w⟩
  .obtain⟨ur,J,w⟩:=hw
   have K:=w.is 0 rfl (by simp)
   simp(disch:=omega)only[↓wr,↓reduceIte,wq,Int.reduceNeg,ir,t8,t9]
   refine ao.dec (λ_=>?_) (λh=>absurd h (by decide))
   simp(disch:=omega)only[↓wr,seval,wq,t7,t9,hm]
   refine ao.dec (λh=>absurd h (by omega)) (λ_=>?_)
   obtain⟨f,rfl⟩:∃f',f=f'+1:=by
    cases f with
    | zero=>have:=CV hu x (by simp);omega
    | succ f=>exact⟨f,rfl⟩
   obtain⟨C,L⟩:=hu x (by simp) (by omega)
   obtain⟨M,r,hi,hr,e,D,_⟩:=vw (f:=f) C (by push_cast at L;exact L)
   have j:=BI (P:=aA g) (m:=cr x) (by rw[gP];have:=B (by omega);unfold cr;omega)
   have o:=abi hr
   have ab:M<g.rules.length:=(abf.1 hr).1
   have q:=z.aB r o
   rw[pQ (by omega),e,hi] at c ⊢
   rw[kZ (by omega),e] at d ⊢
   simp only[abv,abl] at c d
   generalize ae:bB (aA g) (cr x)=p at j hi e
   simp(disch:=omega)only[↓wr,seval,wq,t0,K,kf]
   simp(disch:=omega)only[↓wr,seval,wq,t0,K,kf,j,cx,hi]
   intro n E
   rw[bD]
   simp(disch:=omega)only[↓wr,seval,wq]
   refine dC ((w.at 1 (by simp)).fresh E) (by simp[aK]) (by unfold aE;simp;omega) (by unfold aE;simp;omega) ?_
   intro N H1 s _
   simp only[ack,acm] at s
   have F:=s.is 1 rfl (by simp)
   have c1:=s.head.cells
   have k1:=s.head.eL
   simp(disch:=omega)only[↓wr,seval,wq,t0,F,kf,c1,k1,aQ,aba,hr,encI]
   have O:=(s.at 1 (by simp)).put (es':=[kf g N J]) rfl rfl
   simp only[ack,acm] at O
   have a:=Lu g z A b f r.right q.2.2.1 (λy Q=>⟨q.2.2.2 y Q,λt=>A.neg o Q t⟩) D (R++[(M:Int)]) W _
    (by simp only[abv,abl,abG];omega) (by simp only[abv];omega) ⟨N,J,by simpa using O⟩
   simp only[kf,encI] at a
   refine ay.cF (a.mono ?_)
   rintro v H2 ⟨G,I,o3⟩
   simp(disch:=omega)only[↓wr,seval,wq,t9]
   exact⟨0,by omega,1,by omega,.inr ⟨rfl,G,I,by simpa using o3⟩,t0,t7,t8,rfl⟩
  .simp(disch:=omega)only[↓wr,↓reduceIte,wq,Int.reduceNeg,ir,t8,t9]
   refine ao.dec (λh=>absurd h (by decide)) (λ_=>?_)
   simp(disch:=omega)only[↓wr,seval,wq]
   exact w
def xg:SF:=⟨ai [ag [bZ 3 0,((some 6),.op (.eW (.val (.val (.pointer none))))),aT 7 0],.region true [⟨none,[aV 11 4 3,aV 12 4 3,aU 13 195 [12],((some 14),.op (.build [(.emp 1),(.emp 1),(.emp 1),(.val (.int .i64 0)),(.emp 1),(.emp 1),(.emp 1)] [(0,4,(.tmp 11)),(4,1,(.tmp 13))])),((some 15),.op (.box (.tmp 14))),af 8 15]⟩],ag [af 17 1,af 18 8,fU 19 18,aw 20 4 19,au 21 20,aU 22 196 [17,21],af 16 22,c7 23 0 16,c7 24 1 16,((some 9),.op (.alloc [(.val (.int .i64 0)),(.val (.int .i64 0)),(.val (.int .i64 0)),(.val (.int .i64 0))])),cz 4 9 23,af 10 24],.block 0 (ai [ag [af 26 10,cO 27 26,af 25 27],.cond (.tmp 25) (ai [ag [((some 6),.op (.eW (.val (.val (.pointer none))))),aT 7 9],.ret]) (ai [.region false [⟨none,[aw 29 2 9,au 30 29,aI 31 .gtr 30 300,af 32 31]⟩,⟨(some (32,false)),[aw 33 3 9,au 34 33,af 35 2,aS 36 .gtr 34 35]⟩,⟨none,[cJ 37 32 36,af 28 37]⟩],aX 28 (ai [ag [((some 6),.op (.eW (.val (.val (.pointer none))))),aT 7 13],.ret])])]),ag [af 38 8,af 39 1,aU 40 197 [38,39]],ag [af 41 8,af 6 41,aT 7 0],.ret],
 [.tmp 6,.tmp 7],42⟩
theorem Ca:aJ aa 131 [3]=some xg:=by kernel_rfl
def He:V:=.val (.pointer none)
def YR (g:ak) (l:List Int) (t:Int) (r:V) (H:View):Prop:=
 ((bS (aA g) l bp).2=false/\r=.bc [He,gi 9]) ∨
 ((bS (aA g) l bp).2=true/\(300<(bS (aA g) l bp).1.rules∨t<(bS (aA g) l bp).1.ax)/\r=.bc [He,gi 13]) ∨
 ((bS (aA g) l bp).2=true/\¬ (300<(bS (aA g) l bp).1.rules∨t<(bS (aA g) l bp).1.ax)/\∃b,r=.bc [.ptr b 0 0,gi 0]/\ML g b (fw g (aA g) g.av.length l) (dV g (aA g) g.av.length l) H)
theorem PM (g:ak) (A:g.Ok) (d:g.c5) (l:List Int) (L:l.length<=1000000) (z:∀x∈l,bm x/\(x<0->-1-x<g.av.length)) (t:Int) (u:V) (H:View) (hi:BB H u l):
  az aa 131 [.agg (aj g),u,gi t] H (YR g l t):=by
 have e:aG l:=by unfold aG;omega
 have z2:=d.av
 have z3:=d.rules
 refine az.of mixed Ca ?_
 simp(disch:=omega)only[↓wr,seval,wq,xg,aj,encS]
 refine ay.pure (VB g A d).pure ?_
 simp(disch:=omega)only[↓wr,seval,wq]
 intro b B
 have f:BB (H.set b (.arr 7 [kf g (.emp 1) (.emp 1)])) u l:=hi.keep λid a=>by
  have:id≠b:=by rintro rfl;exact a B
  simp[View.set,this]
 try simp(disch:=omega)only[↓wr,seval,wq]
 have C:∀m,DL (bB (aA g) m):=λm=>L7 z3 z2 m
 refine ay.gV (TN (aA g) C l e λx i=>⟨(z x i).1,λh=>by rw[gP];exact(z x i).2 h⟩) (by kernel_rfl) ⟨f.kI,cm.tree (vd _),trivial⟩ ?_
 have j:=λ(h:iH (aA g) l)=>And.intro (RH h) (px g g.av.length l bp (sT h) ie)
 have p:=hZ (aA g) l bp
 have F:=IU d.right g.av.length l
 have q:=oY (λm=>(C m).1) l bp ie
 unfold YR
 generalize G:bS (aA g) l bp=sp at p q j ⊢
 unfold eX at q
 simp(disch:=omega)only[↓wr,seval,wq,cx]
 intro n r
 have s:=(cp r cw).1
 have w:=(cp r cw).2
 try simp(disch:=omega)only[↓wr,seval,wq,cx]
 apply ao.split<;>intro c
 .have y:=p.1 c
  simp(disch:=omega)only[↓wr,seval,wq]
  apply ao.dec<;>intro D
  .simp(disch:=omega)only[↓wr,seval,wq]
   exact .inr (.inl ⟨c,.inl D,rfl⟩)
  .simp(disch:=omega)only[↓wr,seval,wq]
   apply ao.dec<;>intro E
   .simp(disch:=omega)only[↓wr,seval,wq]
    exact .inr (.inl ⟨c,.inr E,rfl⟩)
   .simp(disch:=omega)only[↓wr,seval,wq]
    have I:=(bw.nil (H:=H)).new B 7 [kf g (.emp 1) (.emp 1)]
    have J:=(j y).1 (by omega)
    have i:=LW g A d b g.av.length l e z (sT y) [] [] (((H.set b (.arr 7 [kf g (.emp 1) (.emp 1)])).set n (.arr 4 [[gi 0,gi 0,gi 0,gi 0]])).set n (.arr 4 [cx sp.1]))
     (by simp only[ab3];omega) (by simp only[ab3];omega)
     ⟨.emp 1,.emp 1,by
      rw[set_set]
      have K:=I.fresh (n:=n) (o:=.arr 4 [cx sp.1]) (by simp[View.set,s,w])
      exact((K.emp (k:=1) (sz:=1)).emp (k:=1) (sz:=1)).perm (Kk.trans (.swap _ _ _))⟩ u
     (f.keep λid a=>by
      have:id≠n:=by rintro rfl;simp[View.set,s,w] at a
      simp[View.set,this])
    simp only[ab3,kf,cx] at i
    refine ay.cF (i.mono ?_)
    intro v H1 hw
    simp(disch:=omega)only[↓wr,seval,wq]
    exact .inr (.inr ⟨c,by omega,b,rfl,hw⟩)
 .simp(disch:=omega)only[↓wr,seval,wq]
  exact .inl ⟨c,rfl⟩
def yD:SF:=⟨ai [ag [bb 3 false],ag [aV 4 4 1,af 5 0,aU 6 130 [4,5],cO 7 6,af 3 7],.ret],
 [.tmp 3],8⟩
theorem Df:aJ aa 129 []=some yD:=by kernel_rfl
def CA:SF:=⟨ai [ag [bZ 2 0,bL 4 1,aT 5 0],ai [.region false [⟨none,[aV 8 4 2,aU 9 89 [8],cO 10 9,af 11 10]⟩,⟨(some (11,false)),[af 12 1,((some 13),.op (.uh 129 [] [(.tmp 2)])),aU 14 90 [12,13]]⟩,⟨none,[cJ 15 11 14]⟩],aX 15 (ai [ag [bL 4 1,aT 5 1],.ret])],ag [aV 17 4 2,af 18 1,lG 19 131 [(.tmp 17),(.tmp 18),(.val (.val (.int .i64 60)))],af 16 19,c7 20 0 16,c7 21 1 16,af 6 20,af 7 21],ai [ag [af 22 7,aI 23 .neq 22 0],aX 23 (ai [ag [af 24 7,bL 4 1,af 5 24],.ret])],ag [af 25 6,fU 26 25,aw 27 6 26,au 28 27,af 4 28,aT 5 0],.ret],
 [.tmp 4,.tmp 5],29⟩
theorem FK:aJ aa 67 [2]=some CA:=by kernel_rfl
theorem SV (g:ak) (x:Int) (b:bm x):aC aa 129 [gi x,.aR (aj g) 0] (gb (!dS g x)):=by
 refine aC.val (by
  intro v a;simp at a
  rcases a with rfl | rfl
  .exact .val _
  .exact iJ (cy g)) λH=>?_
 refine az.of mixed Df ?_
 simp(disch:=omega)only[↓wr,seval,wq,yD,aj,encS]
 refine ay.pure (O5 g x b) ?_
 simp(disch:=omega)only[↓wr,seval,wq]
theorem Lo (g:ak) (s:g.Ok) (w:g.Small) (l:List Int) (y:l.length<=1000000) (t:∀x∈l,bm x):bX aa 67 [.agg (aj g),encI l] (Ey (dh g l)):=by
 have o:aG l:=by unfold aG;omega
 refine bX.of (by
  intro v f;simp at f
  rcases f with rfl | rfl
  .exact bW _ (cy g)
  .exact bg l) ?_
 refine az.of mixed FK ?_
 simp(disch:=omega)only[↓wr,seval,wq,CA,aj,encS]
 refine ay.pure (pF g s w.names) ?_
 have bad:∀c:Heap,(bu g&&l.all (dS g))=false->dF c (.bc [.emp 1,gi 1]) (Ey (dh g l)):=λc e=>by
  unfold dh;rw[aa9 (by rw[e];simp)];exact k7 (x:=([],1)) (.emp _)
 have h:=ju l o 129 [.aR (aj g) 0] (by intro v f;simp at f;subst f;exact iJ (cy g)) (λx=>!dS g x) (λx n=>SV g x (t x n)) (by kernel_rfl)
 simp only[aj,encS] at h
 simp(disch:=omega)only[↓wr,seval,wq]
 apply ao.split<;>intro hr
 .simp(disch:=omega)only[↓wr,seval,wq]
  refine ay.pure h ?_
  have i:l.any (λx=>!dS g x) = !l.all (dS g):=by rw[List.not_all_eq_any_not]
  rw[i]
  simp(disch:=omega)only[↓wr,seval,wq]
  apply ao.split<;>intro a
  .have z:=bF hr
   have d:dh g l=_:=abb (by rw[hr,a];rfl)
   simp(disch:=omega)only[↓wr,seval,wq]
   have p:∀x∈l,bm x/\(x<0->-1-x<g.av.length):=λx n=>⟨t x n,λA=>by
    have:=abC.1 a x n
    unfold dS at this
    rw[aa9 (by omega)] at this
    simpa using this⟩
   have hw:=PM g s z l y p 60 (encI l) (λ_=>.dead) (.inl rfl)
   simp only[aj,encS] at hw
   refine ay.cF (hw.mono ?_)
   rintro r H1 (⟨j,rfl⟩ | ⟨j,q,rfl⟩ | ⟨j,q,b,rfl,C,D,u⟩)
   .simp(disch:=omega)only[↓wr,↓reduceIte,wq,Nat.reduceEqDiff,Nat.reduceAdd,Nat.reduceLT,He]
    refine ao.ne (λ_=>?_) (λk=>absurd k (by decide))
    simp(disch:=omega)only[↓wr,seval,wq]
    rw[abb j] at d
    intro c _
    rw[d];exact k7 (x:=([],9)) (.emp _)
   .simp(disch:=omega)only[↓wr,↓reduceIte,wq,Nat.reduceEqDiff,Nat.reduceAdd,Nat.reduceLT,He]
    refine ao.ne (λ_=>?_) (λk=>absurd k (by decide))
    simp(disch:=omega)only[↓wr,seval,wq]
    rw[aa9 (by rw[j];simp),abb q] at d
    intro c _
    rw[d];exact k7 (x:=([],13)) (.emp _)
   .rw[aa9 (by rw[j];simp),aa9 q] at d
    have m:=u.is 0 rfl (by simp)
    simp(disch:=omega)only[↓wr,↓reduceIte,wq,Nat.reduceEqDiff,Nat.reduceAdd,Nat.reduceLT]
    refine ao.ne (λk=>absurd rfl k) (λ_=>?_)
    simp(disch:=omega)only[↓wr,seval,wq,m,kf]
    intro c B
    rw[d];exact k7 (x:=(_,0)) (jq (by rw[B];exact u.own 2 rfl))
  .simp(disch:=omega)only[↓wr,seval,wq]
   intro c _
   exact bad c (by rw[a,acK])
 .simp(disch:=omega)only[↓wr,seval,wq]
  intro c _
  exact bad c (by rw[hr,acq])
abbrev WY (l:List (List Int)):List (List V):=l.map λw=>[encI w]
theorem DO {id off k m:Nat} (hm:m<=k):c6 1 (.sl id off k 1) none (some (gi m))=some (.sl id off m 1,.none,[]):=by
 simp[c6,bound,asNat,hm]
def Qy:Value->Value->Bool
 | .int k a,.int k' b=>decide (k=k')&&decide (a=b)
 | .bool a,.bool b=>a==b
 | .string a,.string b=>jM a b
 | .pointer none,.pointer none=>true
 | _,_=>false
theorem Vp:∀(a b:Value),Qy a b=true->a=b:=by
 intro a b h
 unfold Qy at h
 split at h
 .simp only[abh,abn] at h
  rw[h.1,h.2]
 .rename_i a b
  rw[show a=b by simpa using h]
 .rename_i a b
  obtain⟨a⟩:=a
  obtain⟨b⟩:=b
  simp only[jM,ab9] at h
  rw[show a=b from Array.toList_inj.1 h]
 .rfl
 .simp at h
def Dm (q:V->V->Bool):List V->List V->Bool
 | [],[]=>true
 | a::l,b::m=>q a b&&Dm q l m
 | _,_=>false
def NV (q:V->V->Bool):List (List V)->List (List V)->Bool
 | [],[]=>true
 | a::l,b::m=>Dm q a b&&NV q l m
 | _,_=>false
def Je:Nat->V->V->Bool
 | 0,_,_=>false
 | k+1,a,b=>match a,b with
  | .val x,.val y=>Qy x y
  | .aY x,.aY y=>NV (Je k) x y
  | .agg x,.agg y=>Dm (Je k) x y
  | .bc x,.bc y=>Dm (Je k) x y
  | _,_=>false
theorem yK {q:V->V->Bool} (c:∀a b,q a b=true->a=b):∀(l m:List V),Dm q l m=true->l=m
 | [],[],_=>rfl
 | a::l,b::m,h=>by
  simp only[Dm,abh] at h
  rw[c a b h.1,yK c l m h.2]
 | [],_::_,h=>by simp[Dm] at h
 | _::_,[],h=>by simp[Dm] at h
theorem RF {q:V->V->Bool} (c:∀a b,q a b=true->a=b):∀(l m:List (List V)),NV q l m=true->l=m
 | [],[],_=>rfl
 | a::l,b::m,h=>by
  simp only[NV,abh] at h
  rw[yK c a b h.1,RF c l m h.2]
 | [],_::_,h=>by simp[NV] at h
 | _::_,[],h=>by simp[NV] at h
theorem Mo:∀(k:Nat) (a b:V),Je k a b=true->a=b
 | 0,_,_,h=>by simp[Je] at h
 | k+1,a,b,h=>by
  have c:=Mo k
  unfold Je at h
  split at h
  .rw[Vp _ _ h]
  .rw[RF c _ _ h]
  .rw[yK c _ _ h]
  .rw[yK c _ _ h]
  .simp at h
def wE:Nat->V->Bool
 | 0,_=>false
 | k+1,v=>match v with
  | .val _=>true
  | .emp _=>true
  | .eD=>true
  | .aY es=>es.all λe=>e.all (wE k)
  | .agg cs=>cs.all (wE k)
  | .bc cs=>cs.all (wE k)
  | _=>false
theorem zu {q:V->Bool} {l:List V} (h:l.all q=true) {i:Nat} (hi:i<l.length):q (l.getD i .any)=true:=by
 have e:l.getD i .any=l[i]:=by simp[hi]
 rw[e]
 exact abC.1 h _ (abe _)
theorem EO:∀(k:Nat) (v:V),wE k v=true->Tree v
 | 0,_,h=>by simp[wE] at h
 | k+1,v,h=>by
  have a:=EO k
  unfold wE at h
  split at h
  .exact .val _
  .exact .emp _
  .exact .eD
  .rename_i es
   refine .aY _ λi j hi b=>a _ ?_
   have e:es.getD i []=es[i]:=by simp[hi]
   have h1:=abC.1 h _ (abe hi)
   rw[e] at b ⊢
   exact zu h1 b
  .exact .agg _ λi hi=>a _ (zu h hi)
  .exact .bc _ λi hi=>a _ (zu h hi)
  .simp at h
def Ag (H:View):Nat->V->Option V
 | 0,_=>none
 | k+1,v=>match v with
  | .val x=>some (.val x)
  | .emp _=>some (.aY [])
  | .aY es=>match wE 60 (.aY es) with
   | true=>some (.aY es)
   | false=>none
  | .sl id off len _=>match H id with
   | .arr _ es=>match Nat.ble (off+len) es.length with
    | true=>(HA (Ag H k) ((es.drop off).take len)).map .aY
    | false=>none
   | _=>none
  | .agg cs=>(qH (Ag H k) cs).map .agg
  | .bc cs=>(qH (Ag H k) cs).map .bc
  | _=>none
theorem HM (h:Heap):∀(k:Nat) (v t:V),Ag h.view k v=some t->Fr h v t
 | 0,v,t,a=>by simp[Ag] at a
 | k+1,v,t,a=>by
  have b:=HM h k
  simp only[Ag] at a
  split at a
  .simp only[abd] at a;subst a;exact .tree _ (.val _)
  .simp only[abd] at a;subst a;exact .emp _
  .split at a
   .rename_i d
    simp only[abd] at a;subst a;exact .tree _ (EO _ _ d)
   .simp at a
  .rename_i id off len esz
   split at a
   .rename_i z es hH
    split at a
    .rename_i hle
     have hle:=Nat.le_of_ble_eq_true hle
     simp only[abj] at a
     obtain⟨es',he,rfl⟩:=a
     obtain⟨g1,g2⟩:=G1 _ _ he
     have hlen:es'.length=len:=by rw[g1];simp;omega
     have e:∀i,i<len->((es.drop off).take len).getD i []=es.getD (off+i) []:=λi hi=>by
      simp[hi]
     have g3:∀i,i<len->qH (Ag h.view k) (es.getD (off+i) [])=some (es'.getD i []):=λi hi=>by
      rw[<-e i hi];exact g2 i (by rw[<-g1,hlen];exact hi)
     exact .sl id off len esz z es es' hH hle hlen (λi hi=>(jn _ _ (g3 i hi)).1) (λi j hi f=>b _ _ ((jn _ _ (g3 i hi)).2 j (by rw[<-(jn _ _ (g3 i hi)).1];exact f)))
    .simp at a
   .simp at a
  .simp only[abj] at a
   obtain⟨l,c,rfl⟩:=a
   obtain⟨g1,g2⟩:=jn _ _ c
   exact .agg _ _ g1 (λi hi=>b _ _ (g2 i hi))
  .simp only[abj] at a
   obtain⟨l,c,rfl⟩:=a
   obtain⟨g1,g2⟩:=jn _ _ c
   exact .bc _ _ g1 (λi hi=>b _ _ (g2 i hi))
  .simp at a
theorem aC.seen {P:Program} {f:FuncId} {vs g:List V} {t:V} (p:aC P f g t) (q:∀i,i<vs.length->Tree (vs.getD i .any)) (r:g.length=vs.length) (k:∀i,i<vs.length->Fr [] (vs.getD i .any) (g.getD i .any)):aC P f vs t:=by
 intro Z μ w xs a n
 have l:eQ Z (λ_=>none) w.heap (cat [] λ_=>.dead):=by
  exact⟨λ_=>trivial,λi j b o s B C _ h=>by simp at h,λid b o s h=>by simp at h,n,λid b o s h=>by simp at h⟩
 have c:∀b,¬ kE (λ_=>none) b:=λb ⟨_,_,_,h⟩=>by simp at h
 have m:gI (λb=>Z b∨kE (λ_=>none) b) μ w.heap g xs:=⟨by rw[r,a.1],λi hi=>Gc l (k i (by omega)) (zA (a.2 i (by omega)) (q i (by omega)))⟩
 refine(p _ μ w xs m (λb d=>d.elim (n b) (λh=>absurd h (c b)))).mono ?_
 rintro e w' ⟨x,u,rfl,v,y,h1,z,A⟩
 exact⟨x,u,rfl,v,y,λb d=>h1 b (.inl d),λb d=>(z b d).elim (λh=>h.elim .inl (λh=>absurd h (c b))) .inr,A⟩
abbrev Hg:=FuncId × List V × V × Bool
def Hg.Ok (P:Program) (x:Hg):Prop:=eh P x.1=true/\if x.2.2.2=true then aC P x.1 x.2.1 x.2.2.1 else (bX P x.1 x.2.1 x.2.2.1∨(aC P x.1 x.2.1 x.2.2.1/\Ay x.2.2.1))
def W5 (g:FuncId) (vs:List V) (H:View) (x:Hg):Bool:=Nat.beq x.1 g&&(match x.2.2.2 with
 | true=>vs.all (wE 60)&&(match qH (Ag (λ_=>.dead) 60) vs with
  | some ts=>Dm (Je 60) ts x.2.1
  | none=>false)
 | false=>match qH (Ag H 60) vs with
  | some ts=>Dm (Je 60) ts x.2.1
  | none=>false)
def Qc (l:List Hg):B9:=λg vs H=>(l.find? (W5 g vs H)).map λx=>x.2.2.1
theorem Le {P:Program} {l:List Hg} (o:∀x∈l,x.Ok P):vY P (Qc l):=by
 intro g vs H t h
 unfold Qc at h
 simp only[abj] at h
 obtain⟨⟨f,q,r,b⟩,n,rfl⟩:=h
 obtain⟨h1,e⟩:=o _ (List.mem_of_find?_eq_some n)
 have a:=List.find?_some n
 simp only[W5,abh] at a
 obtain⟨k,a⟩:=a
 have k:=ac7 k
 subst k
 refine⟨h1,?_⟩
 rintro h rfl
 cases b with
 | true =>
  simp only[abh] at a
  obtain⟨m,c⟩:=a
  split at c
  .rename_i us d
   obtain⟨g1,g2⟩:=jn _ _ d
   have:=yK (Mo 60) _ _ c
   subst this
   exact b6.hX (e.seen (λi hi=>EO _ _ (zu m hi)) g1 λi hi=>HM [] 60 _ _ (g2 i hi)) h
  .simp at c
 | false =>
  simp only at a
  split at a
  .rename_i us d
   obtain⟨g1,g2⟩:=jn _ _ d
   have:=yK (Mo 60) _ _ a
   subst this
   have j:=λi hi=>HM h 60 _ _ (g2 i hi)
   rcases e with e | ⟨e,p⟩
   .exact b6.yE e g1 j
   .exact b6.borrow e p g1 j
  .simp at a
def xq (x:Int):Bool:=decide (-9223372036854775808<=x)&&decide (x<=9223372036854775807)
theorem r5 {x:Int} (h:xq x=true):bm x:=by
 unfold xq at h
 simp only[abh,abn] at h
 exact h
def okB (g:ak):Bool:=decide (g.ax.length<=900)&&decide (g.av.length<=100)&&decide (g.rules.length<=900)&&xq g.start&&g.ax.all (λt=>xq t.level&&xq t.assoc)&&g.rules.all λr=>xq r.left&&xq r.prec&&decide (r.right.length<=900)&&r.right.all xq
theorem YC {g:ak} (h:okB g=true):g.Ok/\g.Small:=by
 unfold okB at h
 simp only[abh,abn,abC] at h
 obtain⟨⟨⟨⟨⟨h1,f⟩,i⟩,c⟩,a⟩,d⟩:=h
 refine⟨⟨by unfold aG;omega,by unfold aG;omega,by unfold aG;omega,r5 c,λt b=>⟨r5 (a t b).1,r5 (a t b).2⟩,λr hr=>?_⟩,⟨by omega⟩⟩
 have:=d r hr
 exact⟨r5 this.1.1.1,r5 this.1.1.2,by unfold aG;have:=this.1.2;omega,λx e=>r5 (this.2 x e)⟩
theorem Jo:kD.Ok/\kD.Small:=YC (by kernel_rfl)
structure fW where
 sym:Int
 to:Int
 deriving DecidableEq
def lY (x:fW):List V:=[gi x.sym,gi x.to]
end
end Gv
