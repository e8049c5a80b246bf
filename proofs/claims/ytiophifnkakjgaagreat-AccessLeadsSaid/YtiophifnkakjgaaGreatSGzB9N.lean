/-
  Part 14 of the proof: what the machine does and what the functions answer.
  Conditions: those that each lemma names.
-/
import Derived.Shelf.SlSortCmp.NoneTotal
import Derived.Shelf.SlicesG.Cmp
import Derived.StillTailTactics
import Derived.Test.YtiophifnkakjgaaGreatSGzB9M
set_option linter.unusedSimpArgs false
set_option linter.unusedVariables false
set_option maxRecDepth 100000
set_option maxHeartbeats 20000000
namespace Gv
open Go Go.Proofs
def jM (l:List fi):List (List V):=l.map kI
def lB (s:aQ):List V:=[.aW (aT s.bj),.aW (jM s.b3)]
def b4 (a:List aQ):V:=.aW (a.map lB)
theorem RS (l:List fi):Tree (.aW (jM l)):=ep _ _ λx _ v a=>by simp[kI] at a;rcases a with rfl | rfl <;> exact .val _
theorem LR (s:aQ):∀ v∈lB s,Tree v:=by
 intro v a;simp[lB] at a
 rcases a with rfl | rfl
 .exact Dt _
 .exact RS _
theorem qj (a:List aQ):Tree (b4 a):=ep _ _ λx _=>LR x
abbrev pz:=V × V × aQ
def eP (A:List pz):List (List V):=A.map λx=>[x.1,x.2.1]
def lS (A:List pz):List dM:=A.flatMap λx=>[(x.1,2,aT x.2.2.bj),(x.2.1,2,jM x.2.2.b3)]
theorem c6 (A:List pz):(eP A).length=A.length:=by simp[eP]
theorem nj {A:List pz} {x:pz} (a:x∈A):(x.1,2,aT x.2.2.bj)∈lS A/\(x.2.1,2,jM x.2.2.b3)∈lS A:=by
 constructor <;> exact List.mem_flatMap.2 ⟨x,a,by simp⟩
theorem Dv {h:aD} {u:V} {A:List pz} (f:aO h.view u 2 (eP A)) (g:∀ x∈A,aO h.view x.1 2 (aT x.2.2.bj)/\aO h.view x.2.1 2 (jM x.2.2.b3)):dB h u (b4 (A.map λx=>x.2.2)):=by
 have c:∀ i (hi:i < A.length),(eP A).getD i []=[(A[i]).1,(A[i]).2.1]/\(((A.map λx=>x.2.2).map lB).getD i [])=lB (A[i]).2.2:=λi hi=>by
  simp[eP,Vp,hi]
 refine dB.own f (by simp[eP]) (λi hi=>?_) (λi j hi b=>?_)
 .have a:i < A.length:=by simpa [eP] using hi
  rw[(c i a).1,(c i a).2];rfl
 .have a:i < A.length:=by simpa [eP] using hi
  rw[(c i a).2] at b ⊢
  rw[(c i a).1]
  have d:=g _ (Vw a)
  generalize A[i]'a=y at d b
  obtain⟨h1,k⟩:=d
  match j,b with
  | 0,_ =>
   refine dB.own h1 rfl (λi _=>rfl) (λi j hi b=>?_)
   rw[bE] at hi
   have e:(aT y.2.2.bj).getD i []=bQ y.2.2.bj[i]:=by simp[aT,Vp,hi]
   rw[e] at b ⊢
   match j,b with
   | 0,_=>exact .val _
   | 1,_=>exact .val _
  | 1,_ =>
   refine dB.own k rfl (λi _=>rfl) (λi j hi b=>?_)
   simp only[jM,Vx] at hi
   have e:(jM y.2.2.b3).getD i []=kI y.2.2.b3[i]:=by simp[jM,Vp,hi]
   rw[e] at b ⊢
   match j,b with
   | 0,_=>exact .val _
   | 1,_=>exact .val _
  | n+2,b=>exact absurd b (by simp[lB])
def oq:SC :=
 af [af [ae [aa 6 5,aa 7 0,aN 8 7,aS 9 .lss 6 8],bO 9 (.exit 0)],.block 1 (af [ae [aa 12 0,aa 13 5,aL 14 2 12 13,av 15 0 14,al 16 15,aa 17 1,bf 18 135 [16,17]],aZ 18 (af [ae [aa 19 5,aa 4 19],.ret])]),ae [aa 10 5,aF 11 .add 10 1,aa 5 11]]
def qO:SF:=⟨af [ae [aP 4 0],af [ae [aP 5 0],bR 0 oq],ae [aP 4 (-1)],.ret],
 [.tmp 4],20⟩
theorem vt:aM Tryz.prog 72 []=some qO:=by kernel_rfl
def nP:SC :=
 af [af [ae [aa 31 7,av 32 0 1,al 33 32,aN 34 33,av 35 1 1,al 36 35,aN 37 36,aS 38 .add 34 37,aS 39 .lss 31 38],bO 39 (.exit 2)],.block 3 (af [ae [bb 42 4 1,aa 43 7,bf 44 70 [42,43],aa 8 44],ae [bb 45 4 1,aa 46 6,aa 47 8,bf 48 71 [45,46,47],aa 9 48],af [ae [aa 49 9,aN 50 49,aF 51 .eql 50 0],aZ 51 (.exit 3)],ae [aa 52 4,aa 53 9,bf 54 72 [52,53],aa 10 54],af [ae [aa 55 10,aF 56 .lss 55 0],aZ 56 (af [ae [aa 57 4,aN 58 57,aa 10 58],ae [aa 59 4,aa 60 9,((some 61),.op (.build [(.emp 1),(.emp 1)] [(0,1,(.tmp 60))])),((some 62),.op (.cg 1 2 [(.emp 1),(.emp 1)] [(0,(.tmp 61))])),gp 63 2 48 59 62,aa 4 63]])],ae [aa 64 4,aa 65 5,aa 66 4,aa 67 5,aL 68 2 66 67,av 69 1 68,al 70 69,aa 71 8,aa 72 10,((some 73),.op (.build [(.val (.int .i64 0)),(.val (.int .i64 0))] [(0,1,(.tmp 71)),(1,1,(.tmp 72))])),((some 74),.op (.cg 1 2 [(.val (.int .i64 0)),(.val (.int .i64 0))] [(0,(.tmp 73))])),gp 75 2 16 70 74,aL 76 2 64 65,av 77 1 76,cy 1 77 75]]),ae [aa 40 7,aF 41 .add 40 1,aa 7 41]]
def nQ:SC :=
 af [af [ae [aa 18 5,aa 19 4,aN 20 19,aS 21 .lss 18 20],bO 21 (.exit 0)],.block 1 (af [ae [bb 24 4 1,aa 25 4,aa 26 5,aL 27 2 25 26,av 28 0 27,al 29 28,bf 30 69 [24,29],aa 6 30],af [ae [aP 7 0],bR 2 nP],ae [aa 78 4,aN 79 78,aF 80 .gtr 79 300],aZ 80 (af [ae [bT 2 1,aP 3 5],.ret])]),ae [aa 22 5,aF 23 .add 22 1,aa 5 23]]
def pI:SF:=⟨af [ae [cE 1 0,bT 2 1,aP 3 0],af [ae [bb 11 4 1,bf 12 15 [11],c5 13 12],aZ 13 (af [ae [bT 2 1,aP 3 1],.ret])],ae [((some 14),.op (.build [(.val (.int .i64 0)),(.val (.int .i64 0))] [(0,1,(.val (.val (.int .i64 (-1)))))])),((some 15),.op (.cg 1 2 [(.val (.int .i64 0)),(.val (.int .i64 0))] [(0,(.tmp 14))])),((some 16),.op (.build [(.emp 1),(.emp 1)] [(0,1,(.tmp 15))])),((some 17),.op (.cg 1 2 [(.emp 1),(.emp 1)] [(0,(.tmp 16))])),aa 4 17],af [ae [aP 5 0],bR 0 nQ],ae [aa 81 4,aa 2 81,aP 3 0],.ret],
 [.tmp 2,.tmp 3],82⟩
theorem uj:aM Tryz.prog 32 [1]=some pI:=by kernel_rfl
theorem Mb:∀ (a:List aQ) (k:List aG) (i:Nat),(∀ j s,j < i->a[j]?=some s->s.bj≠k)->(∀ s,a[i]?=some s->s.bj=k->findD a k=i)/\(i=a.length->findD a k = -1):=by
 intro a k i h
 refine⟨λs h1 c=>GW a k i s h1 c h,λe=>?_⟩
 subst e
 refine Bf a k λs d=>?_
 obtain⟨j,b,e⟩:=WU.1 d
 exact h j s b (by rw[Vq b,e])
theorem OT (a:List aQ) (g:aI a) (l:∀ s∈a,aI s.bj) (k:List aG) (hk:aI k):aB Tryz.prog 72 [b4 a,.aW (aT k)] (gi (findD a k)):=by
 unfold aI at g
 refine aB.val (by
  intro v f;simp at f
  rcases f with rfl | rfl
  .exact qj _
  .exact Dt _) λH=>?_
 refine aw.of mixed vt ?_
 simp(disch:=omega)only[↓wr,seval,wq,qO,b4]
 refine aR.up a.length (λi T H'=>(∀ j s,j < i->a[j]?=some s->s.bj≠k)/\T 0=b4 a/\T 1=.aW (aT k)/\T 5=gi i) ⟨λj s h=>by omega,rfl,rfl,rfl⟩ ?_
 rintro i n T H' m ⟨c,t0,t1,t5⟩
 obtain⟨f1,f2⟩:=Mb a k i c
 simp(disch:=omega)only[↓wr,seval,wq,oq,t0,t1,t5,b4]
 apply aj.dec<;>intro o
 .have d:a[i]?=some (a[i]'(by omega)):=Vq (by omega)
  have hm:=l _ (Vw (show i < a.length by omega))
  generalize a[i]'(by omega)=x at d hm
  simp(disch:=omega)only[↓wr,seval,wq,t0,t1,t5,b4,Vt,d,VE,lB]
  refine ax.pure (LF x.bj k hm hk) ?_
  simp(disch:=omega)only[↓wr,seval,wq,t0,t1,t5]
  apply aj.split<;>intro e
  .simp(disch:=omega)only[↓wr,seval,wq,t0,t1,t5]
   rw[f1 x d (by simpa using e)]
  .simp(disch:=omega)only[↓wr,seval,wq,t0,t1,t5]
   refine aE m (by omega) ⟨λj s p b=>?_,t0,t1,rfl⟩
   rcases VT j i with h | h
   .exact c j s h b
   .have:j=i:=by omega
    subst this
    rw[d] at b;simp at b;subst b
    simpa using e
 .simp(disch:=omega)only[↓wr,seval,wq,t0,t1,t5]
  rw[f2 (by omega)]
theorem Mh {g:ai} (a:g.cU) {s:aQ} (h:cm s.bj/\s.bj≠[]/\∀ x∈s.bj,cD g x):aI s.bj:=by
 have:=jQ a h.1 h.2.2;unfold aI;omega
theorem cn.Vl {H:View} {u:V} {A:List pz} {L:List dM} (h:bo H ((u,2,eP A) :: L)) (a:∀ x∈lS A,x∈L):cn H u (b4 (A.map λx=>x.2.2)):=by
 rintro c rfl
 exact(Dv h.head λx b=>⟨h.1 _ (VL _ (a _ (nj b).1)),h.1 _ (VL _ (a _ (nj b).2))⟩).fr
theorem cn.lr {H:View} {u:V} {l:List aG} (h:aO H u 2 (aT l)):cn H u (.aW (aT l)) :=
 cn.own h λe he v a=>by
  obtain⟨x,_,rfl⟩:=VO.1 he
  simp[bQ] at a;rcases a with rfl | rfl <;> exact .val _
theorem ng {h:aD} {u v:V} {e:Int} (h1:dB h u v):dB h (.aY [u,gi e]) (.aY [v,gi e]):=.aY _ _ rfl λi hi=>by
 match i,hi with
 | 0,_=>exact h1
 | 1,_=>exact .val _
theorem vU {α:Type} {l:List α} {i:Nat} (h:i < l.length):∃ a x b,l=a ++ x :: b/\a.length=i/\l[i]?=some x :=
 ⟨l.take i,l[i],l.drop (i+1),by rw[<-Wl h,List.take_append_drop],by simp;omega,Vq h⟩
theorem Bl {α:Type} (a:List α) (x:α) (b:List α) (f:α->α):(a ++ x :: b).modify a.length f=a ++ f x :: b:=by
 induction a with
 | nil=>rfl
 | cons y a c=>simp only[V4,Vz,List.modify_succ_cons,c]
theorem zY {g:ai} (h:isRed g=true):bM g=true:=by
 unfold isRed at h
 simp only[VD,Wn,VH] at h
 refine Decidable.byContradiction λa=>?_
 have h1:=h.1
 unfold gS at h1
 simp[a] at h1
theorem oA {g:ai} (h:isRed g=true):g.cU:=bX (zY h)
theorem Ur {α:Type} {a b c:α} {l:List α} : (a :: b :: c :: l).Perm (c :: b :: a :: l):=(List.Perm.swap _ _ _).trans (((List.Perm.swap _ _ _).cons _).trans (List.Perm.swap _ _ _))
theorem Tx {α:Type} {e u p r:α} {S:List α} : (e :: u :: p :: r :: S).Perm (u :: r :: (S ++ [p,e])) :=
 (List.Perm.swap _ _ _).trans (.cons _ (Ur.trans (.cons _ (List.perm_append_comm (l₁:=[p,e]) (l₂:=S)))))
theorem Nz {α:Type} {u r k e:α} {b c:List α} : (u :: r :: (b ++ k :: e :: c)).Perm (e :: u :: r :: (b ++ k :: c)):=by
 have h:(b ++ k :: e :: c).Perm (e :: (b ++ k :: c)):=by
  have:=Xt (a:=e) (l₁:=b ++ [k]) (l₂:=c)
  simpa using this
 exact(((h.cons r).cons u).trans ((List.Perm.swap _ _ _).cons u)).trans (List.Perm.swap _ _ _)
theorem zn (A:List pz) (x:pz) (B:List pz):lS (A ++ x :: B)=lS A ++ (x.1,2,aT x.2.2.bj) :: (x.2.1,2,jM x.2.2.b3) :: lS B:=by simp[lS]
def UI (g:ai) (m:Nat) (T:Env) (H:View):Prop:=∃ (at_:Nat) (u:V) (A:List pz) (out:List aQ),m+at_=302/\out=A.map (λx=>x.2.2)/\bo H ((u,2,eP A) :: lS A)/\dG g at_ 0 out/\1<=out.length/\out.length<=300/\eW g m at_ out=bA g/\at_<=out.length /\
 T 1=.aJ (ag g) 0/\T 4=u/\T 5=gi at_
theorem LL (g:ai) (hg:g.Ok):ca Tryz.prog 32 [.agg (ag g)] (.aY [b4 (bA g).1,gi (bA g).2]):=by
 refine ca.of (eD g) ?_
 have Y:=S5 g hg
 refine aw.of mixed uj ?_
 simp only[ag,encS] at Y
 simp(disch:=omega)only[↓wr,seval,wq,pI,ag,encS]
 refine ax.pure Y ?_
 simp(disch:=omega)only[↓wr,seval,wq]
 apply aj.split<;>intro hr
 rotate_left
 .simp(disch:=omega)only[↓wr,seval,wq]
  intro h' _
  have e:bA g=([],1):=by unfold bA;rw[Vs (by rw[hr];simp)]
  rw[e]
  exact ng (.emp _)
 have v:g.cU:=oA hr
 have e0:eW g 302 0 dN=bA g:=by unfold bA;rw[Vu hr]
 have hT:=v.au;have hN:=v.ak
 simp(disch:=omega)only[↓wr,seval,wq]
 intro O q2 K
 have o0:bo (((View.set (λ_=>c7.dead) O (.arr 2 [[gi (-1),gi 0]])).set q2 (.arr 2 [[.sl O 0 1 2,.emp 1]]))) ((.sl q2 0 1 2,2,eP [(.sl O 0 1 2,.emp 1,⟨[⟨-1,0⟩],[]⟩)]) :: lS [(.sl O 0 1 2,.emp 1,⟨[⟨-1,0⟩],[]⟩)]) :=
  (((bo.nil.emp (k:=1) (sz:=2)).new (n:=O) rfl 2 [[gi (-1),gi 0]]).new (by simpa [View.set] using K) 2 [[.sl O 0 1 2,.emp 1]])
 generalize (View.set (λ_=>c7.dead) O (.arr 2 [[gi (-1),gi 0]])).set q2 (.arr 2 [[.sl O 0 1 2,.emp 1]])=H0 at o0 ⊢
 refine aR.intro (UI g) 302 ⟨0,_,_,dN,rfl,rfl,o0,kV,VA _,by simp[dN],e0,by omega,rfl,rfl,rfl⟩ ?_
 clear o0 K
 rintro m T H ⟨at_,u,A,out,hm,rfl,j,hI,h1,P,Q,hle,t1,t4,t5⟩
 have w:ct u=some A.length:=by rw[j.head.len,c6]
 simp only[Vx] at h1 P hle
 simp(disch:=omega)only[↓wr,seval,wq,nQ,t1,t4,t5,w]
 apply aj.dec<;>intro hc
 rotate_left
 .simp(disch:=omega)only[↓wr,seval,wq,t1,t4,t5]
  have e1:bA g=(A.map (λx=>x.2.2),0):=by
   rw[<-Q]
   cases m with
   | zero=>rfl
   | succ m=>rw[eW,Vs (by simp;omega)]
  rw[e1]
  rintro h' rfl
  exact ng (Dv j.head λx L=>⟨j.1 _ (VL _ (nj L).1),j.1 _ (VL _ (nj L).2)⟩)
 obtain⟨m,rfl⟩:∃ q,m=q+1:=⟨m - 1,by omega⟩
 have z:at_ < A.length:=by omega
 obtain⟨a,x,d,rfl,p,L⟩:=vU z
 have U:x∈a ++ x :: d:=by simp
 obtain⟨Z,b7,C⟩:=hI.bj x.2.2 (List.mem_map_of_mem U)
 have b8:=jQ v Z C
 have hh:aO H u 2 (eP (a ++ x :: d)):=j.head
 obtain⟨id,hu,M⟩:=hh.sl (by rw[c6];omega)
 have D:(eP (a ++ x :: d)).getD at_ []=[x.1,x.2.1]:=by simp[eP,Vp,<-p]
 have ab:cP g ((List.map (λx=>x.2.2) (a ++ x :: d)).getD at_ bJ).bj=cP g x.2.2.bj:=by
  rw[Vp,Vt,L];rfl
 have R:=λn hn=>dG.row (hI.lV v (show at_ < ((a ++ x :: d).map λx=>x.2.2).length by simpa using z)).1 (hI.lV v (show at_ < ((a ++ x :: d).map λx=>x.2.2).length by simpa using z)).2 hI n hn
 rw[eW,Vu (by simpa using z),ua] at Q
 rw[ab] at Q R
 have an:=r8 g x.2.2.bj
 have aq:∀ y∈cP g x.2.2.bj,cD g y:=λy hy=>((fL v C).1 hy).has C
 rw[c6] at hu
 simp(disch:=omega)only[↓wr,seval,wq,t1,t4,t5,hu,M,D,ag,encS]
 refine⟨by omega,by rw[c6];omega,?_⟩
 refine ax.eA ((HZ g v x.2.2.bj C (by omega) x.1 H (j.1 _ (VL _ (nj U).1))).mono ?_)
 rintro r H2 ⟨or,fr⟩
 have o2:=j.Dc or fr
 clear or fr M D ab L
 generalize cP g x.2.2.bj=cl at *
 generalize h:(a ++ x :: d).map (λx=>x.2.2)=E at *
 have ar:E.length=(a ++ x :: d).length:=by rw[<-h];simp
 simp(disch:=omega)only[↓wr,seval,wq,t1,t4,t5]
 refine aR.up (g.au.length+g.ak.length) (λi T H'=>∃ (u:V) (A:List pz),A.map (λx=>x.2.2)=(List.range i).foldl (cW g cl at_) E/\bo H' ((r,2,aT cl) :: (u,2,eP A) :: lS A)/\T 1=.aJ (ag g) 0/\T 4=u/\T 5=gi at_/\T 6=r/\T 7=gi i)
  ⟨u,_,h,o2,t1,by rw[<-hu];exact t4,t5,rfl,rfl⟩ ?_
 rw[<-ar] at h1 P hle z
 clear o2 j hh hu t1 t4 t5 w h U ar hc Z b7 C b8 p
 clear u H2 H T id a x d
 rintro i k T H' hk ⟨u,A,hA,j,t1,t4,t5,t6,t7⟩
 obtain⟨iI,a1,a6⟩:=R i (by omega)
 rw[<-hA] at iI a1 a6
 rw[Vx] at a1 a6
 have w:ct u=some A.length:=by rw[j.tail.head.len,c6]
 have cv:=jQ v an aq
 simp(disch:=omega)only[↓wr,seval,wq,nP,t1,t4,t5,t6,t7,ag,encS]
 apply aj.dec<;>intro hc
 rotate_left
 .have hi:i=g.au.length+g.ak.length:=by omega
  subst hi
  rw[<-hA] at Q
  simp(disch:=omega)only[↓wr,seval,wq,t1,t4,t5,t6,w]
  apply aj.dec<;>intro h3
  .simp(disch:=omega)only[↓wr,seval,wq]
   intro h' _
   rw[Vu (by rw[Vx];omega)] at Q
   rw[<-Q]
   exact ng (.emp _)
  .simp(disch:=omega)only[↓wr,seval,wq,t1,t4,t5]
   rw[Vs (by rw[Vx];omega)] at Q
   exact⟨m,by omega,at_+1,u,A,_,by omega,rfl,j.tail,iI.next,by rw[Vx];omega,by rw[Vx];omega,Q,by rw[Vx];omega,t1,t4,rfl⟩
 have a7:i < g.au.length+g.ak.length:=by omega
 have S:=IC g v i a7
 have cA:=Ct v a7
 simp only[ag,encS] at S
 simp(disch:=omega)only[↓wr,seval,wq,t1,t4,t5,t6,t7,ag,encS]
 refine ax.pure S ?_
 simp(disch:=omega)only[↓wr,seval,wq,t1,t4,t5,t6,t7,ag,encS]
 refine ax.eA ((Mg g v cl an aq (aU g i) r H' j.head).mono ?_)
 rintro J H9 ⟨or,fr⟩
 have o9:=j.Dc or fr
 have cC:=sT (g:=g) (l:=cl) (s:=aU g i)
 have b9:ct J=some (bh g cl (aU g i)).length:=by rw[or.len,bE]
 have F:(List.range (i+1)).foldl (cW g cl at_) E=cW g cl at_ (A.map λx=>x.2.2) i:=by rw[WX,WQ,<-hA];rfl
 simp(disch:=omega)only[↓wr,seval,wq,t1,t4,t5,t6,t7,b9]
 apply aj.eq<;>intro he
 .have a8:bh g cl (aU g i)=[]:=W9.1 (by omega)
  simp(disch:=omega)only[↓wr,seval,wq,t1,t4,t5,t6,t7]
  exact aE hk (by omega) ⟨u,A,by rw[F,cW,Vu a8],o9.tail,t1,t4,t5,t6,rfl⟩
 have bd:bh g cl (aU g i)≠[]:=λe=>he (by rw[e];rfl)
 simp(disch:=omega)only[↓wr,seval,wq,t1,t4,t5,t6,t7]
 have W:=OT (A.map λx=>x.2.2) (by unfold aI;rw[Vx];omega) (λs hs=>Mh v (iI.bj s hs)) (bh g cl (aU g i)) (by unfold aI;omega)
 refine ax.KV W (by kernel_rfl) (.val _) ⟨cn.Vl o9.tail.tail (λx L=>L),cn.lr or,trivial⟩ ?_
 have cc:=wD (A.map λx=>x.2.2) (bh g cl (aU g i))
 have cI:=sK (A.map λx=>x.2.2) (bh g cl (aU g i))
 rw[Vx] at cc
 have bl:at_ < A.length:=by omega
 simp(disch:=omega)only[↓wr,seval,wq,t1,t4,t5,t6,t7]
 obtain⟨a,x,d,G,p,L⟩:=vU bl
 have cN:x.2.2.b3.length<=40:=(iI.b3 at_ x.2.2 (by rw[Vt,L];rfl)).1
 have D:∀ B,(eP (a ++ x :: B)).getD at_ []=[x.1,x.2.1]:=λB=>by simp[eP,Vp,<-p]
 have bn:∀ (B:List pz) (c:fi),((a ++ x :: B).map λx=>x.2.2).modify at_ (λs=>(⟨s.bj,s.b3 ++ [c]⟩:aQ))=(a ++ (x.1,x.2.1,(⟨x.2.2.bj,x.2.2.b3 ++ [c]⟩:aQ)) :: B).map λx=>x.2.2:=λB c=>by
  rw[VW,VX,<-p,<-Vx (f:=λx:pz=>x.2.2),Bl,VW,VX]
 apply aj.dec<;>intro I
 simp(disch:=omega)only[↓wr,seval,wq,t1,t4,t5,t6,t7,w,or.cells,or.gv]
 intro q hq
 simp(disch:=omega)only[↓wr,seval,wq,bP]
 have cf:=(o9.fresh (o:=.arr 2 [[J,.emp 1]]) hq).at 2 (by simp)
 refine dp cf (by simp[or.gv,zC]) (by unfold aC;rw[c6];simp;omega) (by unfold aC;rw[c6];simp;omega) ?_
 intro u2 X br _
 simp only[List.getElem_cons_succ,List.getElem_cons_zero,WA,WB] at br
 have ch:=(br.emp (k:=1) (sz:=2)).perm Tx
 have t:cW g cl at_ (A.map λx=>x.2.2) i=((a ++ x :: (d ++ [(J,.emp 1,(⟨bh g cl (aU g i),[]⟩:aQ))])).map λx=>x.2.2).modify at_ (λs=>(⟨s.bj,s.b3 ++ [⟨aU g i,(A.length:Int)⟩]⟩:aQ)):=by
  rw[cW,Vs bd,Vu I,Vx]
  congr 1
  rw[G];simp
 have b:bo X ((u2,2,eP (a ++ x :: (d ++ [(J,.emp 1,(⟨bh g cl (aU g i),[]⟩:aQ))]))) :: (r,2,aT cl) :: lS (a ++ x :: (d ++ [(J,.emp 1,(⟨bh g cl (aU g i),[]⟩:aQ))]))):=by
  have e1:eP (a ++ x :: (d ++ [(J,.emp 1,(⟨bh g cl (aU g i),[]⟩:aQ))]))=eP A ++ [[J,.emp 1]]:=by rw[G];simp[eP]
  have e2:lS (a ++ x :: (d ++ [(J,.emp 1,(⟨bh g cl (aU g i),[]⟩:aQ))]))=lS A ++ [(J,2,aT (bh g cl (aU g i))),(.emp 1,2,[])]:=by rw[G];simp[lS];rfl
  rw[e1,e2]
  exact ch
 generalize (d ++ [(J,V.emp 1,(⟨bh g cl (aU g i),[]⟩:aQ))])=B at t b
 generalize (A.length:Int)=to at t ⊢
 rotate_left
 have t:cW g cl at_ (A.map λx=>x.2.2) i=((a ++ x :: d).map λx=>x.2.2).modify at_ (λs=>(⟨s.bj,s.b3 ++ [⟨aU g i,findD (A.map λx=>x.2.2) (bh g cl (aU g i))⟩]⟩:aQ)):=by
  rw[cW,Vs bd,Vs I,<-G]
 have b:=o9.tail.perm (.swap _ _ _)
 clear or fr
 generalize H9=X at o9 b ⊢
 obtain⟨u2,cj⟩:∃ y,y=u:=⟨_,rfl⟩
 rw[<-cj] at b t4
 rw[G] at b
 generalize findD (A.map λx=>x.2.2) (bh g cl (aU g i))=to at t ⊢
 generalize d=B at t b
 all_goals (
  obtain⟨id,hu,M⟩:=(show aO X u2 2 (eP (a ++ x :: B)) from b.head).sl (by rw[c6];simp;omega)
  rw[c6] at hu
  rw[zn] at b
  simp(disch:=omega)only[↓wr,seval,wq,t1,t4,t5,t6,t7,hu,M,D B]
  refine⟨by simp;omega,by rw[c6];simp;omega,?_⟩
  intro q2 K
  simp(disch:=omega)only[↓wr,seval,wq,bP]
  refine dp ((b.perm Nz).fresh K) (by simp[aH]) (by unfold aC;simp[jM];omega) (by unfold aC;simp[jM];omega) ?_
  intro e2 ck N _
  have bs:ck id=.arr 2 (eP (a ++ x :: B)):=((N.own 1 rfl).live (by rw[hu];rfl)).1
  simp(disch:=omega)only[↓wr,seval,wq,t1,t4,t5,t6,t7,hu,bs,D B,N.head.cells,N.head.gv]
  have bx:(eP (a ++ x :: B)).set at_ [x.1,e2]=eP (a ++ (x.1,e2,(⟨x.2.2.bj,x.2.2.b3 ++ [⟨aU g i,to⟩]⟩:aQ)) :: B):=by
   rw[<-p];simp[eP]
  have cu:jM (x.2.2.b3 ++ [⟨aU g i,to⟩])=jM x.2.2.b3 ++ [[gi (aU g i),gi to]]:=by simp[jM,kI]
  have b0:=N.perm (.swap _ _ _)
  rw[hu] at b0
  have b1:=((b0.put (es':=eP (a ++ (x.1,e2,(⟨x.2.2.bj,x.2.2.b3 ++ [⟨aU g i,to⟩]⟩:aQ)) :: B)) (by rw[c6,c6];simp) (by rw[c6])).perm (.swap _ _ _)).perm Nz.symm
  rw[<-cu] at b1
  have b2:=b1.perm (.swap _ _ _)
  rw[<-hu] at b2
  rw[bx]
  refine⟨by simp;omega,by rw[c6];simp;omega,aE hk (by omega) ⟨u2,_,?_,by rw[zn];exact b2,t1,by first | rfl | exact t4 | exact hu.symm,t5,t6,rfl⟩⟩
  rw[F,t,bn];simp)
def j8:SC :=
 af [af [.region false [⟨none,[aa 26 11,aa 27 0,aa 28 1,aL 29 2 27 28,av 30 1 29,al 31 30,aN 32 31,aS 33 .lss 26 32,aa 34 33]⟩,⟨(some (34,true)),[aa 35 10,c5 36 35]⟩,⟨none,[eV 37 34 36]⟩],bO 37 (.exit 2)],.block 3 (af [ae [aa 40 0,aa 41 1,aL 42 2 40 41,av 43 1 42,al 44 43,aa 45 11,aL 46 2 44 45,av 47 0 46,al 48 47,aa 49 2,aa 50 8,aL 51 1 49 50,al 52 51,aS 53 .eql 48 52],aZ 53 (ae [aa 54 0,aa 55 1,aL 56 2 54 55,av 57 1 56,al 58 57,aa 59 11,aL 60 2 58 59,av 61 1 60,al 62 61,aa 9 62,bm 10 true])]),ae [aa 38 11,aF 39 .add 38 1,aa 11 39]]
def nU:SC :=
 af [af [ae [aa 20 8,aa 21 2,aN 22 21,aS 23 .lss 20 22],bO 23 (.exit 0)],.block 1 (af [ae [aP 9 (-1),bm 10 false],af [ae [aP 11 0],bR 2 j8],af [.region false [⟨none,[aa 63 9,aF 64 .lss 63 0,aa 65 64]⟩,⟨(some (65,false)),[aa 66 9,aa 67 0,aN 68 67,aS 69 .geq 66 68]⟩,⟨none,[cx 70 65 69]⟩],aZ 70 (af [ae [aP 6 0,bm 7 false],.ret])],ae [aa 71 9,aa 1 71]]),ae [aa 24 8,aF 25 .add 24 1,aa 8 25]]
def ra:SF:=⟨af [ae [aP 6 0,bm 7 false],af [.region false [⟨none,[aa 12 1,aF 13 .lss 12 0,aa 14 13]⟩,⟨(some (14,false)),[aa 15 1,aa 16 0,aN 17 16,aS 18 .geq 15 17]⟩,⟨none,[cx 19 14 18]⟩],aZ 19 (af [ae [aP 6 0,bm 7 false],.ret])],af [ae [aP 8 0],bR 0 nU],ae [aa 72 1,aa 6 72,bm 7 true],.ret],
 [.tmp 6,.tmp 7],73⟩
theorem vp:aM Tryz.prog 33 []=some ra:=by kernel_rfl
instance (g:ai) (x:aG):Decidable (cD g x):=by unfold cD;infer_instance
theorem LK:∀ (l:List fi) (s:Int) (k:Nat) (e:fi),l[k]?=some e->gx (l.drop k) s=if e.sym=s then e.to else gx (l.drop (k+1)) s:=by
 intro l s k e h
 obtain⟨hk,he⟩:=VC.1 h
 rw[Wl hk,he,gx]
theorem Pp (a:List aQ) (u:aI a) (he:∀ s∈a,aI s.b3/\∀ e∈s.b3,bS e.sym/\bS e.to) (fr:Int) (syms:List Int) (w:aI syms):aB Tryz.prog 33 [b4 a,gi fr,encI syms] (.aY [gi (jj a fr syms).1,gb (jj a fr syms).2]):=by
 unfold aI at u w
 refine aB.tree (by
  intro v q;simp at q
  rcases q with rfl | rfl | rfl
  .exact qj _
  .exact .val _
  .exact bI _) (y7 (.val _) (.val _)) λH=>?_
 refine aw.of mixed vp ?_
 unfold jj
 simp(disch:=omega)only[↓wr,seval,wq,ra,b4,encI]
 apply aj.dec<;>intro h1
 .simp(disch:=omega)only[↓wr,seval,wq]
  rw[Vu (by omega)]
 simp(disch:=omega)only[↓wr,seval,wq,b4]
 apply aj.dec<;>intro y
 .simp(disch:=omega)only[↓wr,seval,wq]
  rw[Vu (by omega)]
 rw[Vs (by omega)]
 simp(disch:=omega)only[↓wr,seval,wq]
 refine aR.up syms.length (λi T H'=>∃ at_:Int,0<=at_/\at_ < a.length/\gW a at_ (syms.drop i)=gW a fr syms/\T 0=b4 a/\T 1=gi at_/\T 2=encI syms/\T 8=gi i) ⟨fr,by omega,by omega,rfl,rfl,rfl,rfl,rfl⟩ ?_
 rintro i k T H' hk ⟨at_,C,D,hw,t0,t1,t2,t8⟩
 simp(disch:=omega)only[↓wr,seval,wq,nU,t0,t1,t2,t8,encI]
 apply aj.dec<;>intro z
 .have r:syms[i]?=some (syms[i]'(by omega)):=Vq (by omega)
  rw[Wl (show i < syms.length by omega)] at hw
  generalize syms[i]'(by omega)=x at r hw
  have d:a[at_.toNat]?=some (a.getD at_.toNat bJ):=getD_some (by omega)
  obtain⟨f,l⟩:=he _ (VF d)
  rw[gW] at hw
  generalize a.getD at_.toNat bJ=S at d f l hw
  unfold aI at f
  simp(disch:=omega)only[↓wr,seval,wq,t0,t1,t2,t8]
  refine aR.up S.b3.length (λj T H'=>∃ (to:Int) (ok:Bool),(ok=true->to=gx S.b3 x)/\(ok=false->to = -1/\gx (S.b3.drop j) x=gx S.b3 x)/\T 0=b4 a/\T 1=gi at_/\T 2=encI syms/\T 8=gi i/\T 9=gi to/\T 10=gb ok/\T 11=gi j)
   ⟨-1,false,by simp,λ_=>⟨rfl,rfl⟩,t0,t1,t2,t8,rfl,rfl,rfl⟩ ?_
  clear t0 t1 t2 t8
  rintro j k2 F G g ⟨to,ok,A,B,t0,t1,t2,t8,t9,t10,t11⟩
  cases ok with
  | true =>
   have b:=A rfl
   simp(disch:=omega)only[↓wr,seval,wq,j8,t0,t1,t2,t8,t9,t10,t11,b4,Vt,d,VE,lB,jM]
   apply aj.dec<;>intro _
   all_goals (
    simp(disch:=omega)only[↓wr,seval,wq,t0,t1,t2,t8,t9,t10,t11,b4,b]
    apply aj.dec<;>intro m
    .simp(disch:=omega)only[↓wr,seval,wq]
     rw[<-hw,Vs (by omega)]
    .simp(disch:=omega)only[↓wr,seval,wq,t0,t1,t2,t8,t9,b4,b]
     apply aj.dec<;>intro n
     .simp(disch:=omega)only[↓wr,seval,wq]
      rw[<-hw,Vs (by omega)]
     .simp(disch:=omega)only[↓wr,seval,wq,t0,t1,t2,t8,t9,b]
      rw[Vu ⟨by omega,by omega⟩] at hw
      exact aE hk (by omega) ⟨_,by omega,by omega,hw,t0,rfl,t2,rfl⟩)
  | false =>
   obtain⟨t,c⟩:=B rfl
   simp(disch:=omega)only[↓wr,seval,wq,j8,t0,t1,t2,t8,t9,t10,t11,b4,Vt,d,VE,lB,jM]
   apply aj.dec<;>intro o
   .have h:S.b3[j]?=some (S.b3[j]'(by omega)):=Vq (by omega)
    generalize S.b3[j]'(by omega)=E at h
    rw[LK _ _ _ _ h] at c
    simp(disch:=omega)only[↓wr,seval,wq,t0,t1,t2,t8,t9,t10,t11,b4,encI,Vt,d,r,VE,lB,jM,h,kI]
    apply aj.eq<;>intro p
    .rw[Vu p] at c
     simp(disch:=omega)only[↓wr,seval,wq,t0,t1,t2,t8,t9,t10,t11,b4,Vt,d,VE,lB,jM,h,kI]
     exact aE g (by omega) ⟨E.to,true,λ_=>c,by simp,t0,t1,t2,t8,rfl,rfl,rfl⟩
    .rw[Vs p] at c
     simp(disch:=omega)only[↓wr,seval,wq,t0,t1,t2,t8,t9,t10,t11]
     exact aE g (by omega) ⟨to,false,by simp,λ_=>⟨t,c⟩,t0,t1,t2,t8,t9,t10,rfl⟩
   .rw[VN (by omega),gx,<-t] at c
    have b:=c
    simp(disch:=omega)only[↓wr,seval,wq,t0,t1,t2,t8,t9,t10,t11,b4,b]
    apply aj.dec<;>intro m
    .simp(disch:=omega)only[↓wr,seval,wq]
     rw[<-hw,Vs (by omega)]
    .simp(disch:=omega)only[↓wr,seval,wq,t0,t1,t2,t8,t9,b4,b]
     apply aj.dec<;>intro n
     .simp(disch:=omega)only[↓wr,seval,wq]
      rw[<-hw,Vs (by omega)]
     .simp(disch:=omega)only[↓wr,seval,wq,t0,t1,t2,t8,t9,b]
      rw[Vu ⟨by omega,by omega⟩] at hw
      exact aE hk (by omega) ⟨_,by omega,by omega,hw,t0,rfl,t2,rfl⟩
 .simp(disch:=omega)only[↓wr,seval,wq,t1]
  rw[VN (by omega),gW] at hw
  rw[<-hw]
open Go Go.Proofs Go.Shelf Go.RowKit Go.Sort
theorem bK.cut {P:Program} {f:FuncId} {vs:List V} {h g:aD} {r:V} (n:bK P f vs h r g) {id sz:Nat} {es rest:List (List V)} (l:g.view id=.arr sz (es ++ rest)):bK P f vs h r (g.set id (.arr sz es)):=by
 have m:id < g.length:=ij (by rw[l];simp)
 refine⟨by simpa using n.1,λZ μ F w xs hr z p=>(n.2 Z μ F w xs hr z (by simpa using p)).mono ?_⟩
 rintro e w' ⟨x,A,μ',rfl,B,a,hex,q⟩
 refine⟨x,A,μ',rfl,B,?_,hex,by simpa using q⟩
 have t:∀ k,cat (g.set id (.arr sz es)) F k=if k=id then .arr sz es else cat g F k:=λk=>by
  simp only[cat,List.length_set]
  by_cases hk:k < g.length
  .rw[Vu hk,Vu hk,j0 m];rfl
  .rw[Vs hk,Vs hk,Vs (by omega)]
 have u:cat g F id=.arr sz (es ++ rest):=by simp only[cat];rw[Vu m,l]
 refine⟨λk=>?_,λi j b o s C D v h1 E=>?_,a.lt,a.cQ,a.gP⟩
 .rw[t]
  split
  .rename_i hk
   subst hk
   have d:=a.obj k
   rw[u] at d
   intro b o0 s hm
   obtain⟨G,⟨c,e,f,n,p,H⟩,I,J⟩:=d b o0 s hm
   have y:∀ i,i < es.length->(es ++ rest).getD i []=es.getD i []:=λi hi=>by
    simp[Vp,VZ hi]
   refine⟨G,⟨c,e,f,n,p,?_⟩,λi hi=>?_,λi j hi K=>?_⟩
   .rw[VQ,V5] at H;omega
   .rw[<-y i hi];exact I i (by rw[VQ];omega)
   .rw[<-y i hi];exact J i j (by rw[VQ];omega) K
  .exact a.obj k
 .have d:=a.inj i j b o s C D v h1 E
  rw[t,t]
  rcases d with d | d
  .left
   rw[Vs (λe=>by rw[e,u] at d;simp at d)];exact d
  .right
   rw[Vs (λe=>by rw[e,u] at d;simp at d)];exact d
theorem aw.cut {P:Program} {f:FuncId} {vs:List V} {H:View} {K c:V->View->Prop} (h:aw P f vs H K) (hk:∀ r H',K r H'->c r H'∨∃ id sz es rest,H' id=.arr sz (es ++ rest)/\c r (H'.set id (.arr sz es))):aw P f vs H c:=by
 refine⟨h.1,λm n=>?_⟩
 obtain⟨r,d,j,l,o⟩:=h.2 m n
 rcases hk r _ o with h1 | ⟨id,sz,es,rest,a,h1⟩
 .exact⟨r,d,j,l,h1⟩
 .have b:id < d.length:=ij (by rw[a];simp)
  refine⟨r,d.set id (.arr sz es),j.cut a,λk g p=>?_,by rw[j0 b];exact h1⟩
  have i:=l k g p
  rw[j0 b]
  simp only[View.set]
  rw[Vs (λe=>by rw[e,a] at i;simp at i)]
  exact i
instance:Inhabited aG:=⟨⟨0,0⟩⟩
def iD (x:aG):List Value:=[.int .i64 x.az,.int .i64 x.dot]
def ot (a b:aG):Int:=if Lib.compareInt a.az b.az≠0 then Lib.compareInt a.az b.az else Lib.compareInt a.dot b.dot
theorem QH (a b:aG):(Lib.compareInt a.az b.az≠0->ot a b=Lib.compareInt a.az b.az)/\(Lib.compareInt a.az b.az=0->ot a b=Lib.compareInt a.dot b.dot):=by
 unfold ot
 exact⟨λh=>by rw[Vu h],λh=>by rw[Vs (by simp[h])]⟩
theorem sy (a b:aG):ltOf ot a b=cH a b:=by
 have d:∀ x y:Int,(x < y/\Lib.compareInt x y = -1)∨(x=y/\Lib.compareInt x y=0)∨(y < x/\Lib.compareInt x y=1):=λx y=>by
  unfold Lib.compareInt; (repeat' split) <;> omega
 rw[Wv,fF]
 simp only[ltOf,VH,ot]
 rcases d a.az b.az with ⟨h,e⟩ | ⟨h,e⟩ | ⟨h,e⟩ <;> rcases d a.dot b.dot with ⟨k,c⟩ | ⟨k,c⟩ | ⟨k,c⟩ <;> simp[e,c] <;> omega
theorem L4:SWO (ltOf ot) where
 irrefl x:=by rw[sy];exact ll
 trans x y z h k:=by rw[sy] at *;exact oY h k
 ntrans x y z h k:=by
  rw[sy] at *
  cases e:cH x z with
  | false=>rfl
  | true =>
   have h1:¬ cH x y=true:=by simp[h]
   have a:¬ cH y z=true:=by simp[k]
   rw[fF] at h1 a e
   omega
def ez (l:List aG):List aG:=l.mergeSort λx y=>!cH y x
theorem Pn (l:List aG):(l.toArray.toList.mergeSort λx y=>!(ltOf ot) y x)=ez l:=by
 have e:(λx y=>!(ltOf ot) y x)=λx y=>!cH y x:=by funext x y;rw[sy]
 rw[e];rfl
theorem Ad (l:List aG):(ez l).Perm l:=List.mergeSort_perm _ _
theorem iH (l:List aG):(ez l).length=l.length:=(Ad l).length_eq
theorem zR (l:List aG):(ez l).Pairwise λx y=>cH y x=false:=by
 have:=List.pairwise_mergeSort (le:=λx y:aG=>!cH y x) (λa b c h k=>by
  simp only[Xn,Bool.not_eq_false'] at h k ⊢
  cases e:cH c a with
  | false=>simp
  | true =>
   have h1:¬ cH b a=true:=by simpa using h
   have d:¬ cH c b=true:=by simpa using k
   rw[fF] at h1 d e
   omega) (λa b=>by
  cases e:cH b a with
  | false=>simp
  | true=>simp[Ix e]) l
 exact this.imp λh=>by simpa using h
def O8:Ren where
 f:=fun
  | 6=>190
  | 15=>246
  | 14=>245
  | 28=>282
  | 29=>283
  | 20=>274
  | 21=>275
  | 22=>276
  | 23=>277
  | 24=>278
  | 25=>279
  | 26=>280
  | 27=>281
  | 46=>291
  | 47=>292
  | 48=>293
  | 49=>294
  | 50=>295
  | 57=>307
  | n=>n
 t:=fun
  | 22=>103
  | 24=>120
  | 25=>286
  | 3=>3
  | 39=>276
  | 0=>0
  | 53=>50
  | 55=>49
  | 4=>4
  | 46=>356
  | 45=>355
  | 50=>66
  | 5=>5
  | 9=>9
  | 66=>369
  | 70=>373
  | 76=>381
  | 77=>382
  | n=>n
 g:=λn=>n
theorem Rz:Go.Proofs.SlLaysF0.n6 Tryz.prog O8 where
 mixed:=by kernel_rfl
 f6:=⟨Tryz.f190.name,by kernel_rfl,by kernel_rfl⟩
 f14:=⟨Tryz.f245.name,by kernel_rfl,by kernel_rfl⟩
 f15:=by kernel_rfl
 f20:=⟨Tryz.f274.name,by kernel_rfl,by kernel_rfl⟩
 f21:=⟨Tryz.f275.name,by kernel_rfl,by kernel_rfl⟩
 f22:=⟨Tryz.f276.name,by kernel_rfl,by kernel_rfl⟩
 f23:=⟨Tryz.f277.name,by kernel_rfl,by kernel_rfl⟩
 f24:=⟨Tryz.f278.name,by kernel_rfl,by kernel_rfl⟩
 f25:=⟨Tryz.f279.name,by kernel_rfl,by kernel_rfl⟩
 f26:=⟨Tryz.f280.name,by kernel_rfl,by kernel_rfl⟩
 f27:=⟨Tryz.f281.name,by kernel_rfl,by kernel_rfl⟩
 f28:=by kernel_rfl
 f29:=by kernel_rfl
 f46:=⟨Tryz.f291.name,by kernel_rfl,by kernel_rfl⟩
 f47:=by kernel_rfl
 f48:=by kernel_rfl
 f49:=⟨Tryz.f294.name,by kernel_rfl,by kernel_rfl⟩
 f50:=⟨Tryz.f295.name,by kernel_rfl,by kernel_rfl⟩
 f57:=⟨Tryz.f307.name,by kernel_rfl,by kernel_rfl⟩
 t0:=Tryz.underlying0
 a0:=Tryz.isAgg0
 z0:=Tryz.sizeOf0
 v0:=Tryz.zeroValue0
 t3:=Tryz.underlying3
 a3:=Tryz.isAgg3
 z3:=Tryz.sizeOf3
 v3:=Tryz.zeroValue3
 t4:=Tryz.underlying4
 a4:=Tryz.isAgg4
 z4:=Tryz.sizeOf4
 v4:=Tryz.zeroValue4
 t5:=Tryz.underlying5
 a5:=Tryz.isAgg5
 z5:=Tryz.sizeOf5
 v5:=Tryz.zeroValue5
 t9:=Tryz.underlying9
 a9:=Tryz.isAgg9
 z9:=Tryz.sizeOf9
 v9:=Tryz.zeroValue9
 t22:=Tryz.underlying103
 a22:=Tryz.isAgg103
 z22:=Tryz.sizeOf103
 v22:=Tryz.zeroValue103
 t25:=Tryz.underlying286
 a25:=Tryz.isAgg286
 z25:=Tryz.sizeOf286
 v25:=Tryz.zeroValue286
 t39:=Tryz.underlying276
 a39:=Tryz.isAgg276
 z39:=Tryz.sizeOf276
 v39:=Tryz.zeroValue276
 t45:=Tryz.underlying355
 a45:=Tryz.isAgg355
 z45:=Tryz.sizeOf355
 v45:=Tryz.zeroValue355
 t46:=Tryz.underlying356
 a46:=Tryz.isAgg356
 z46:=Tryz.sizeOf356
 v46:=Tryz.zeroValue356
 t50:=Tryz.underlying66
 a50:=Tryz.isAgg66
 z50:=Tryz.sizeOf66
 v50:=Tryz.zeroValue66
 t53:=Tryz.underlying50
 a53:=Tryz.isAgg50
 z53:=Tryz.sizeOf50
 v53:=Tryz.zeroValue50
 t55:=Tryz.underlying49
 a55:=Tryz.isAgg49
 z55:=Tryz.sizeOf49
 v55:=Tryz.zeroValue49
 t66:=Tryz.underlying369
 a66:=Tryz.isAgg369
 z66:=Tryz.sizeOf369
 v66:=Tryz.zeroValue369
 t70:=Tryz.underlying373
 a70:=Tryz.isAgg373
 z70:=Tryz.sizeOf373
 v70:=Tryz.zeroValue373
 t76:=Tryz.underlying381
 a76:=Tryz.isAgg381
 z76:=Tryz.sizeOf381
 v76:=Tryz.zeroValue381
 t77:=Tryz.underlying382
 a77:=Tryz.isAgg382
 z77:=Tryz.sizeOf382
 v77:=Tryz.zeroValue382
def Qh:Ren where
 f:=fun
  | 5=>248
  | 7=>284
  | n=>n
 t:=fun
  | 22=>3
  | 3=>3
  | 4=>4
  | n=>n
 g:=λn=>n
theorem TK:Go.Proofs.SlLaysC2.n5 Tryz.prog Qh where
 mixed:=by kernel_rfl
 f5:=⟨Tryz.f248.name,by kernel_rfl,by kernel_rfl⟩
 f7:=⟨Tryz.f284.name,by kernel_rfl,by kernel_rfl⟩
 t3:=Tryz.underlying3
 a3:=Tryz.isAgg3
 z3:=Tryz.sizeOf3
 v3:=Tryz.zeroValue3
 t4:=Tryz.underlying4
 a4:=Tryz.isAgg4
 z4:=Tryz.sizeOf4
 v4:=Tryz.zeroValue4
 t22:=Tryz.underlying3
 a22:=Tryz.isAgg3
 z22:=Tryz.sizeOf3
 v22:=Tryz.zeroValue3
section
attribute [local go_sem] Oper.semAt_some
theorem IE (x y:Int) (b cap:Nat) (W:World) (h0:W.cell? ⟨b,0,none⟩=some (.int .i64 x)) (h1:W.cell? ⟨b,1,none⟩=some (.int .i64 y)) (r:Int) (hr:(x≠0->r=x)/\(x=0->r=y)) :
  Calls Tryz.prog 247 #[.slice (some ⟨b,0,none⟩) 2 cap] W λe w'=>e=.returned (.int .i64 r)/\w'=W:=by
 go_enter Tryz.func247,Tryz.ntmps247
 go_wp2
 refine wp_loop_rounds 3 ?_
 rw[rounds_succ]
 go_wp2
 .rename_i h
  go_ret
  exact⟨by rw[hr.1 (by simpa using h)];rfl,rfl⟩
 .rename_i h
  have hx:x=0:=by simpa using h
  rw[rounds_succ]
  go_wp2
  .rename_i h
   go_ret
   exact⟨by rw[hr.2 hx];rfl,rfl⟩
  .rename_i h
   rw[rounds_succ]
   go_wp2
   go_ret
   exact⟨by rw[hr.2 hx,show y=0 by simpa using h];rfl,rfl⟩
structure T8 (p:Prop):Prop where
 out:p
theorem Iu (x1 x2 y1 y2:Int) (W:World) (r:Int) (hr:(Lib.compareInt x1 y1≠0->r=Lib.compareInt x1 y1)/\(Lib.compareInt x1 y1=0->r=Lib.compareInt x2 y2)) :
  Calls Tryz.prog 191 #[.agg #[.int .i64 x1,.int .i64 x2],.agg #[.int .i64 y1,.int .i64 y2]] W λe w'=>e=.returned (.int .i64 r)/\∃ q os',w'=grow (W.drewN q) os':=by
 have hcon1:=λW'=>AnyG.cmp_Compare_int TK x1 y1 W'
 change ∀ W',Calls Tryz.prog 248 _ _ _ at hcon1
 have hcon2:=λW'=>AnyG.cmp_Compare_int TK x2 y2 W'
 change ∀ W',Calls Tryz.prog 248 _ _ _ at hcon2
 generalize Lib.compareInt x1 y1=c1 at *
 generalize Lib.compareInt x2 y2=c2 at *
 go_enter Tryz.func191,Tryz.ntmps191
 go_wp2_with (first | (go_at_call 248;refine(hcon1 _).mono ?_;rintro e w' ⟨rfl,rfl⟩)|(go_at_call 248;refine(hcon2 _).mono ?_;rintro e w' ⟨rfl,rfl⟩))
 obtain⟨b1,hb1⟩:∃ b1,b1=W.heap.size:=⟨_,rfl⟩
 obtain⟨b2,hb2⟩:∃ b2,b2=W.heap.size+1:=⟨_,rfl⟩
 rw[<-hb2,<-hb1]
 generalize hW1:(W.alloc (Obj.cells #[Value.int IntKind.i64 x1,Value.int IntKind.i64 x2] 120)).alloc (Obj.cells #[Value.int IntKind.i64 y1,Value.int IntKind.i64 y2] 120)=W1
 have hh1:W1.heap[b1]?=some (.cells #[Value.int IntKind.i64 x1,Value.int IntKind.i64 x2] 120 (0,0)):=by
  rw[<-hW1,hb1];exact(Below.heap_alloc _ _ _ (by simp)).trans (World.alloc_heap_new W _)
 have hh2:W1.heap[b2]?=some (.cells #[Value.int IntKind.i64 y1,Value.int IntKind.i64 y2] 120 (0,0)):=by
  rw[<-hW1,hb2]
  have:=World.alloc_heap_new (W.alloc (Obj.cells #[Value.int IntKind.i64 x1,Value.int IntKind.i64 x2] 120)) (Obj.cells #[Value.int IntKind.i64 y1,Value.int IntKind.i64 y2] 120)
  rwa [World.size_alloc] at this
 have k0:W1.cell? ⟨b1,0,none⟩=some (.int .i64 x1):=by unfold World.cell?;rw[hh1];rfl
 have k1:W1.cell? ⟨b1,1,none⟩=some (.int .i64 x2):=by unfold World.cell?;rw[hh1];rfl
 have k2:W1.cell? ⟨b2,0,none⟩=some (.int .i64 y1):=by unfold World.cell?;rw[hh2];rfl
 have k3:W1.cell? ⟨b2,1,none⟩=some (.int .i64 y2):=by unfold World.cell?;rw[hh2];rfl
 clear hh1 hh2
 refine wp_region_still_tail 10 (by kernel_rfl) (by kernel_rfl) ?_
 change wpStill _ _ W1.drew (λa'=>wpList _ _ _ _ a' W1.drew) _ _
 generalize hW2:W1.drew=W2
 replace k0:W2.cell? ⟨b1,0,none⟩=some (.int .i64 x1):=by rw[<-hW2];exact k0
 replace k1:W2.cell? ⟨b1,1,none⟩=some (.int .i64 x2):=by rw[<-hW2];exact k1
 replace k2:W2.cell? ⟨b2,0,none⟩=some (.int .i64 y1):=by rw[<-hW2];exact k2
 replace k3:W2.cell? ⟨b2,1,none⟩=some (.int .i64 y2):=by rw[<-hW2];exact k3
 have hgr:T8 (W2=grow (W.drewN 1) #[Obj.cells #[Value.int IntKind.i64 x1,Value.int IntKind.i64 x2] 120,Obj.cells #[Value.int IntKind.i64 y1,Value.int IntKind.i64 y2] 120]):=by
  refine⟨?_⟩
  rw[<-hW2,<-hW1,alloc_eq_grow,alloc_eq_grow,grow_grow];rfl
 clear hW1 hW2 hb1 hb2
 simp only[List.take_succ_cons,List.take_zero,Xs,Ww]
 iterate 4 still_step
 still_call (hcon1 _)
 iterate 4 still_step
 still_call (hcon2 _)
 refine wpStill_nil ?_
 go_wp2_with (go_at_call 247;refine(IE c1 c2 _ _ _ ?_ ?_ r hr).mono ?_)
 .unfold World.cell?;rw[World.alloc_heap_new];rfl
 .unfold World.cell?;rw[World.alloc_heap_new];rfl
 .rintro e w' ⟨rfl,rfl⟩
  go_wp2
  go_ret
  refine⟨rfl,1,#[Obj.cells #[Value.int IntKind.i64 x1,Value.int IntKind.i64 x2] 120,Obj.cells #[Value.int IntKind.i64 y1,Value.int IntKind.i64 y2] 120,Obj.cells #[Value.int IntKind.i64 c1,Value.int IntKind.i64 c2] 3],?_⟩
  rw[hgr.out,alloc_eq_grow,grow_grow];rfl
end
theorem FM {Z:Nat->Prop} {μ:Mu} {hp:Array Obj} {id off len esz:Nat} {x:Value} (h:ay Z μ hp (.sl id off len esz) x) :
  (len=0/\∃ a,x=.slice a 0 0)∨∃ b o0 cap,∃ c:Array Value,∃ e f,x=.slice (some ⟨b,o0+off * esz,none⟩) len cap/\μ id=some (b,o0,esz)/\len<=cap/\hp[b]?=some (.cells c e f)/\o0+(off+cap) * esz<=c.size:=by
 cases h with
 | py _ _ _ a=>exact .inl ⟨rfl,a,rfl⟩
 | sl _ _ _ _ b o0 cap c e f h1 d g i=>exact .inr ⟨b,o0,cap,c,e,f,rfl,h1,d,g,i⟩
theorem Tp {Z:Nat->Prop} {μ:Mu} {hp:Array Obj} {f:FuncId} {x:Value} (h:ay Z μ hp (.fn f [] []) x):x=.func (.func f) #[] #[]:=by
 cases h with
 | fn _ _ _ a c h1 b _ _ =>
  rw[Array.eq_empty_of_size_eq_zero h1.symm,Array.eq_empty_of_size_eq_zero b.symm]
theorem Dr (w:World) (b o0 m:Nat) (d:Array aG) (os:Array Obj) {j:Nat} (a:j < w.heap.size):(sortWorldK iD 2 w b o0 m d os).heap[j]?=if b=j then (w.heap[j]?).map (onCells (putCells id o0 (flatK iD 2 d))) else w.heap[j]?:=by
 unfold sortWorldK grow putRowK putRow mapBlock
 simp only[Sort.ahead]
 rw[WE (by simpa using a),Array.getElem?_modify]
theorem Q4 (l:List aG) (hl:l.length < 1152921504606846976) (u:V) (H:View) (ho:aO H u 2 (aT l)):aw Tryz.prog 190 [u,.fn 191 [] []] H λr H'=>r=.aY []/\(∀ id,owner u≠some id->H' id=H id)/\aO H' u 2 (aT (ez l)):=by
 refine⟨by kernel_rfl,?_⟩
 rintro h rfl
 have eg:∀ args w,(callFunc 191 args).run Tryz.prog w=.ok (.enter 191 args) w:=enters_of Tryz.func191 (by kernel_rfl) rfl
 by_cases I:l=[]
 .subst I
  refine⟨.aY [],h,⟨VA _,λZ μ F w xs s hr M=>?_⟩,.refl _,rfl,λ_ _=>rfl,by simpa [ez] using ho⟩
  obtain⟨hlen,N⟩:=s
  obtain⟨x,y,rfl⟩:∃ x y,xs=[x,y]:=by
   match xs,hlen with
   | [x,y],_=>exact⟨x,y,rfl⟩
  have h0:ay Z μ w.heap u x:=N 0 (by simp)
  obtain⟨p,cap,rfl⟩:∃ p cap,x=.slice p 0 cap:=by
   rcases ho with ⟨_,k,rfl⟩ | ⟨n,rfl,_⟩
   .cases h0 with | emp _ a _ _=>exact⟨a,0,rfl⟩
   .rcases FM h0 with ⟨_,a,e⟩ | ⟨b,o0,cap,c,e,f,e2,_⟩
    .exact⟨a,0,e⟩
    .exact⟨_,cap,e2⟩
  refine(AnyF.slices_SortFunc_none Rz p cap y w).mono ?_
  rintro e w' ⟨rfl,rfl⟩
  exact⟨.tuple #[],Z,μ,rfl,.aY [] #[] rfl (λi hi=>by simp at hi),hr,Ext.refl _ _ _ _,λ_ _=>rfl⟩
 have S:0 < l.length:=Xr.2 I
 obtain⟨n,rfl,hn⟩:=ho.sl (by rw[bE];exact S)
 rw[bE]
 have t:n < h.length:=ij (by rw[hn];simp)
 refine⟨.aY [],h.set n (.arr 2 (aT (ez l))),⟨by simp,λZ μ F w xs s hr M=>?_⟩,λk hk hd=>?_,rfl,λid aq=>?_,?_⟩
 rotate_left
 .rw[j0 t]
  simp only[View.set]
  rw[Vs (λe=>by rw[e,hn] at hd;simp at hd)];exact hd
 .rw[j0 t]
  simp only[View.set]
  rw[Vs (λe=>aq (by rw[e];rfl))]
 .refine .inr ⟨n,by rw[bE,iH],?_⟩
  rw[j0 t];simp[View.set]
 obtain⟨hlen,N⟩:=s
 obtain⟨x,y,rfl⟩:∃ x y,xs=[x,y]:=by
  match xs,hlen with
  | [x,y],_=>exact⟨x,y,rfl⟩
 have h0:ay Z μ w.heap (.sl n 0 l.length 2) x:=N 0 (by simp)
 have h1:ay Z μ w.heap (.fn 191 [] []) y:=N 1 (by simp)
 have hy:=Tp h1
 subst hy
 rcases FM h0 with ⟨e,_⟩ | ⟨b,o0,cap,c0,e0,f0,rfl,E,a6,_,_⟩
 .omega
 rw[Nat.zero_mul,WZ]
 have J:cat h F n=.arr 2 (aT l):=by simp only[cat];rw[Vu t,hn]
 have T:=hr.obj n
 rw[J] at T
 obtain⟨_,⟨c,ty,fz,hc,U,W⟩,hq,z⟩:=T b o0 2 E
 rw[bE] at W hq z
 have O:b < w.heap.size:=hr.lt _ _ _ _ E
 have P:∀ (m:List aG) (i:Nat) (hi:i < m.length),(aT m).getD i []=bQ m[i]:=λm i hi=>by simp[aT,Vp,hi]
 have hH:HoldsK iD 2 w b o0 l.toArray:=by
  intro j D
  rw[size_flatK] at D
  have a7:j < l.length * 2:=by simpa using D
  have hi:j / 2 < l.length:=by omega
  obtain⟨x,hx,d⟩:=z (j / 2) (j % 2) hi (by omega)
  rw[show o0+j / 2 * 2+j % 2=o0+j by omega] at hx
  have ar:x=(flatK iD 2 l.toArray)[j]!:=by
   rw[get_flatK _ _ _ _ D]
   rw[P l _ hi] at d
   have e1:l.toArray[j / 2]! = l[j / 2]:=by simp[hi]
   rw[e1]
   rcases VT (j % 2) 1 with X | X
   .rw[show j % 2=0 by omega] at d ⊢
    simp only[bQ,Wm] at d
    cases d;rfl
   .rw[show j % 2=1 by omega] at d ⊢
    simp only[bQ,Xd,Wm] at d
    cases d;rfl
  refine⟨by rw[ni,hx,ar];rfl,?_⟩
  simp only[World.frozen?,hc]
  rcases U with e | e
  .simp only[e,Bool.and_eq_false_iff,WD];omega
  .simp only[Bool.and_eq_false_iff,WD];omega
 have hT:∀ x y,(ltOf ot) x y=false->(ltOf ot) y x=false->x=y:=λx y h1 X=>by
  rw[sy] at h1 X
  exact Decidable.byContradiction λA=>by rw[wL h1 A] at X;simp at X
 have K:=AnyQ.slices_SortFunc_total Rz 2 Tryz.isAgg120 Tryz.sizeOf120 iD (λ_=>rfl) (λx v N=>by simp[iD] at N;rcases N with rfl | rfl <;> rfl) ot L4 191 #[] b o0 cap l.toArray w eg (λ_ _ _ _ x y=>Iu x.az x.dot y.az y.dot _ _ (QH x y)) hH O (by simp;omega) hT
 rw[Pn] at K
 refine Calls.mono (show Calls Tryz.prog 190 _ w _ from K) ?_
 rintro e w' ⟨rfl,m,os,rfl⟩
 have Y:=iH l
 have g:=λ{j:Nat} (D:j < w.heap.size)=>Dr w b o0 m (ez l).toArray os D
 have G:HoldsK iD 2 (sortWorldK iD 2 w b o0 m (ez l).toArray os) b o0 (ez l).toArray:=SWK.holds ⟨m,os,rfl⟩ O hH (by simp[Y])
 have B:w.heap.size<=(sortWorldK iD 2 w b o0 m (ez l).toArray os).heap.size:=SWK.le (dk:=(ez l).toArray) ⟨m,os,rfl⟩
 have Q:eN w (sortWorldK iD 2 w b o0 m (ez l).toArray os):=⟨rfl,rfl,rfl,B⟩
 generalize sortWorldK iD 2 w b o0 m (ez l).toArray os=w' at *
 have ab:w'.heap[b]?=some (.cells (putCells id o0 (flatK iD 2 (ez l).toArray) c) ty fz):=by
  rw[g O,Vu rfl,hc];rfl
 have L:mB Z μ μ w.heap w'.heap h.length (.fe n (.arr 2 (aT (ez l)))):=by
  refine⟨b,o0,2,E,rfl,λj D A=>by rw[g D,Vs (λe=>A e.symm)],λj cc ee ff C=>?_,?_⟩
  .have a1:j < w.heap.size:=by
    rcases VT j w.heap.size with q | q
    .exact q
    .simp[WJ q] at C
   by_cases e:b=j
   .subst e
    rw[hc] at C
    simp only[Vr,Obj.cells.injEq] at C
    obtain⟨rfl,rfl,rfl⟩:=C
    exact⟨_,_,ab,by simp[putCells]⟩
   .exact⟨cc,ff,by rw[g a1,Vs e];exact C,rfl⟩
  .intro b1 o1 s1 h1
   rw[E] at h1
   simp only[Vr,Vv] at h1
   obtain⟨rfl,rfl,rfl⟩:=h1
   refine⟨rfl,⟨_,ty,fz,ab,?_,?_⟩,λi hi=>?_,λi j hi D=>?_⟩
   .simpa [putCells] using U
   .rw[bE,Y];simpa [putCells] using W
   .rw[bE] at hi;rw[P _ i hi];rfl
   .rw[bE] at hi
    have:=(G.cell (i:=i) (c:=j) (by simpa using hi) D).1
    rw[ni] at this
    refine⟨_,this,?_⟩
    rw[P _ i hi]
    have e1:(ez l).toArray[i]! = (ez l)[i]:=by simp[hi]
    rw[e1]
    match j,D with
    | 0,_=>exact .val _ rfl
    | 1,_=>exact .val _ rfl
 have A:cat h F n≠.dead:=by rw[J];simp
 have R:=hr.eff (n:=h.length) (eff:=.fe n (.arr 2 (aT (ez l)))) (by trivial) B L (λid o e=>by cases e;exact A) (λid o e=>by cases e)
 obtain⟨an,a8⟩:=L.ext Q (by trivial) hr.cQ hr.gP
 refine⟨.tuple #[],Z,μ,rfl,.aY [] #[] rfl (λi hi=>by simp at hi),?_,an,λ_ _=>rfl⟩
 have ev:cat (h.set n (.arr 2 (aT (ez l)))) F=bq.view (cat h F) h.length (.fe n (.arr 2 (aT (ez l)))):=by
  funext k
  simp only[cat,bq.view,View.set,List.length_set]
  by_cases hk:k < h.length
  .rw[Vu hk,Vu hk,j0 t];rfl
  .rw[Vs hk,Vs hk,Vs (by omega)]
 rw[ev]
 exact R
abbrev gQ:aG:=⟨0,0⟩
def fw (l:List aG):Nat->List aG
 | 0=>[]
 | n+1=>if n=0∨l.getD n gQ≠l.getD (n - 1) gQ then fw l n ++ [l.getD n gQ] else fw l n
theorem yL (l:List aG):∀ n,n<=l.length->(∀ j,0 < j->j < n->l.getD j gQ≠l.getD (j - 1) gQ)->fw l n=l.take n
 | 0,_,_=>by simp[fw]
 | n+1,c,h=>by
  have a:=yL l n (by omega) λj h1 d=>h j h1 (by omega)
  have b:l[n]?=some (l.getD n gQ):=getD_some (by omega)
  rw[fw,Vu,a,VP,b]
  .rfl
  .by_cases e:n=0
   .exact .inl e
   .exact .inr (h n (by omega) (by omega))
def zq (l:List aG):List aG:=fw (ez l) l.length
theorem wZ {l:List aG} (hp:l.Pairwise λx y=>cH y x=false):∀ n,n<=l.length->cm (fw l n)/\(∀ x,x∈fw l n↔∃ i,i < n/\l.getD i gQ=x)
 | 0,_=>by simp[fw,cm]
 | n+1,r=>by
  obtain⟨h1,f⟩:=wZ hp n (by omega)
  have d:∀ i j,i < j->j < l.length->cH (l.getD j gQ) (l.getD i gQ)=false:=λi j g k=>by
   have:=List.pairwise_iff_getElem.1 hp i j (by omega) k g
   simpa [Vp,Vq k,Vq (show i < l.length by omega)] using this
  rw[fw]
  split
  .rename_i c
   refine⟨?_,λx=>?_⟩
   .rw[cm,List.pairwise_append]
    refine⟨h1,by simp,λa p b m=>?_⟩
    rw[Wu] at m;subst m
    obtain⟨i,hi,rfl⟩:=(f a).1 p
    have c:l.getD n gQ≠l.getD (n - 1) gQ:=c.resolve_left (by omega)
    have o:=wL (d (n - 1) n (by omega) (by omega)) c
    rcases VT i (n - 1) with h | h
    .have k2:=d i (n - 1) h (by omega)
     have q:¬ cH (l.getD (n - 1) gQ) (l.getD i gQ)=true:=by rw[k2];simp
     rw[fF] at o q ⊢
     omega
    .have:i=n - 1:=by omega
     subst this;exact o
   .rw[VM,f,Wu]
    constructor
    .rintro (⟨i,hi,e⟩ | e)
     .exact⟨i,by omega,e⟩
     .exact⟨n,by omega,e.symm⟩
    .rintro⟨i,hi,e⟩
     rcases VT i n with h | h
     .exact .inl ⟨i,h,e⟩
     .have:i=n:=by omega
      subst this;exact .inr e.symm
  .rename_i c
   simp only[not_or,Decidable.not_not] at c
   refine⟨h1,λx=>?_⟩
   rw[f]
   constructor
   .rintro⟨i,hi,e⟩;exact⟨i,by omega,e⟩
   .rintro⟨i,hi,e⟩
    rcases VT i n with h | h
    .exact⟨i,h,e⟩
    .have:i=n:=by omega
     subst this
     exact⟨i - 1,by omega,by rw[<-c.2];exact e⟩
theorem B6 (l:List aG):cm (zq l):=(wZ (zR l) _ (by rw[iH];exact VA _)).1
theorem qS {l:List aG} {x:aG} : x∈zq l↔x∈l:=by
 rw[zq,(wZ (zR l) _ (by rw[iH];exact VA _)).2,<-(Ad l).mem_iff,WU]
 constructor
 .rintro⟨i,hi,e⟩
  have a:i < (ez l).length:=by rw[iH];exact hi
  exact⟨i,a,by rw[Vp,Vq a] at e;exact e⟩
 .rintro⟨i,hi,e⟩
  exact⟨i,by rw[iH] at hi;exact hi,by rw[Vp,Vq hi];exact e⟩
theorem Lb {l:List aG} (h:cm l):zq l=l:=yM (B6 l) h λ_=>qS
def mD (g:ai) (s:Int):Int:=if s < 0 then (g.au.length:Int) - 1 - s else s
theorem wb (g:ai) (k:Nat):mD g (aU g k)=k:=by
 unfold mD aU;split <;> split <;> omega
theorem F3 {g:ai} {s:Int} (h1:s < g.au.length):0<=mD g s/\aU g (mD g s).toNat=s:=by
 unfold mD aU;split
 .rw[Vs (by omega)];omega
 .rw[Vu (by omega)];omega
theorem I3 {g:ai} {s:Int} (h:dw g s=true):s < g.au.length/\mD g s < g.au.length+g.ak.length:=by
 unfold dw at h
 unfold mD
 by_cases a:0<=s
 .rw[Vu a] at h
  rw[Vs (by omega)]
  simp at h
  omega
 .rw[Vs a] at h
  rw[Vu (by omega)]
  simp at h
  omega
def fT (l:List aG):List UInt8:=l.flatMap λx=>[UInt8.ofNat (x.az+1).toNat,UInt8.ofNat x.dot.toNat]
theorem Np {a b:Nat} (c:a < 256) (d:b < 256) (h:UInt8.ofNat a=UInt8.ofNat b):a=b:=by
 have:=W4 UInt8.toNat h
 simp at this
 omega
theorem Il {g:ai} (c:g.cU):∀ {a b:List aG},(∀ x∈a,cD g x)->(∀ x∈b,cD g x)->fT a=fT b->a=b
 | [],[],_,_,_=>rfl
 | [],y :: b,_,_,h=>by simp[fT] at h
 | x :: a,[],_,_,h=>by simp[fT] at h
 | x :: a,y :: b,i,j,h=>by
  simp only[fT,List.flatMap_cons,V4,Wi,List.cons.injEq] at h
  obtain⟨h1,k,l⟩:=h
  have d:=i x (by simp)
  have e:=j y (by simp)
  have hr:=c.rules
  have q:=eh c d.1
  have r:=eh c e.1
  have:=d.1;have:=d.2;have:=e.1;have:=e.2
  have s:=Np (by omega) (by omega) h1
  have k2:=Np (by omega) (by omega) k
  have t:=Il c (λz f=>i z (by simp[f])) (λz f=>j z (by simp[f])) l
  obtain⟨m,n⟩:=x
  obtain⟨o,p⟩:=y
  simp only at *
  have:m=o:=by omega
  have:n=p:=by omega
  subst_vars;rfl
structure jU (g:ai) (a:List aQ):Prop where
 first:(a.getD 0 bJ).bj=[⟨-1,0⟩]
 yh:∀ s∈a,∀ e∈s.b3,(a.getD e.to.toNat bJ).bj=bh g (cP g s.bj) e.sym
theorem lK (l:List aQ) (i:Nat) (c:fi) (j:Nat):((l.modify i λx=>(⟨x.bj,x.b3 ++ [c]⟩:aQ)).getD j bJ).bj=(l.getD j bJ).bj:=by
 simp only[Vp,List.getElem?_modify]
 cases l[j]? with
 | none=>rfl
 | some x =>
  by_cases e:i=j
  .subst e;simp
  .simp[e]
theorem jU.put {g:ai} {out:List aQ} (h:jU g out) {at_:Nat} {s to:Int} (c:(out.getD to.toNat bJ).bj=bh g (cP g (out.getD at_ bJ).bj) s):jU g (out.modify at_ λx=>(⟨x.bj,x.b3 ++ [⟨s,to⟩]⟩:aQ)):=by
 refine⟨by rw[lK];exact h.first,λy a e he=>?_⟩
 rw[lK]
 rcases mem_modify a with a | ⟨x,b,rfl⟩
 .exact h.yh y a e he
 .rcases VM.1 he with he | he
  .exact h.yh x (VF b) e he
  .simp at he;subst he
   rw[c,Vp,b];rfl
theorem jU.add {g:ai} {out:List aQ} (h:jU g out) (h1:1<=out.length) (c:∀ s∈out,∀ e∈s.b3,0<=e.to/\e.to < out.length) (k:List aG):jU g (out ++ [⟨k,[]⟩]):=by
 have b:∀ j:Nat,j < out.length->((out ++ [(⟨k,[]⟩:aQ)]).getD j bJ)=out.getD j bJ:=λj d=>by
  simp[Vp,VZ d]
 refine⟨by rw[b 0 (by omega)];exact h.first,λy a e he=>?_⟩
 rcases VM.1 a with a | a
 .have:=c y a e he
  rw[b _ (by omega)];exact h.yh y a e he
 .simp at a;subst a;simp at he
theorem Pr (g:ai) (l:List aG) (at_:Nat) (out:List aQ) (i:Nat) {j:Nat} (a:j < out.length):((cW g l at_ out i).getD j bJ).bj=(out.getD j bJ).bj:=by
 unfold cW
 split
 .rfl
 .split
  .rw[lK]
   simp[Vp,VZ a]
  .rw[lK]
theorem jU.step {g:ai} {l:List aG} {at_ i:Nat} {out:List aQ} (h:jU g out) (hi:dG g at_ i out) (c:at_ < out.length) (a:cP g (out.getD at_ bJ).bj=l):jU g (cW g l at_ out i):=by
 unfold cW
 split
 .exact h
 .split
  .refine(h.add (by omega) hi.to _).put ?_
   rw[V2]
   have d:((out ++ [(⟨bh g l (aU g i),[]⟩:aQ)]).getD out.length bJ).bj=bh g l (aU g i):=by
    simp[Vp]
   have e:(out ++ [(⟨bh g l (aU g i),[]⟩:aQ)]).getD at_ bJ=out.getD at_ bJ:=by
    simp[Vp,VZ c]
   rw[d,e,a]
  .rename_i j
   refine h.put ?_
   obtain⟨n,b⟩:∃ n:Nat,findD out (bh g l (aU g i))=n:=⟨(findD out (bh g l (aU g i))).toNat,by omega⟩
   obtain⟨s,h1,f⟩:=HC _ _ _ b
   rw[b,V2,Vp,h1,a]
   exact f
theorem jU.row {g:ai} (a:g.cU) {at_:Nat} {out:List aQ} (h:jU g out) (hi:dG g at_ 0 out) (b:at_ < out.length):∀ n:Nat,n<=40->jU g ((List.range n).foldl (cW g (cP g (out.getD at_ bJ).bj) at_) out)/\(((List.range n).foldl (cW g (cP g (out.getD at_ bJ).bj) at_) out).getD at_ bJ).bj=(out.getD at_ bJ).bj
 | 0,_=>⟨h,rfl⟩
 | n+1,d=>by
  obtain⟨h1,c⟩:=jU.row a h hi b n (by omega)
  obtain⟨i1,i2,i3⟩:=dG.row (hi.lV a b).1 (hi.lV a b).2 hi n (by omega)
  rw[WX,WQ]
  simp only[V7,Xk]
  refine⟨h1.step i1 (by omega) (by rw[c]),?_⟩
  rw[Pr _ _ _ _ _ (by omega),c]
theorem BO {g:ai} (a:g.cU):∀ (f at_:Nat) (out:List aQ),dG g at_ 0 out->jU g out->(eW g f at_ out).2=0->jU g (eW g f at_ out).1
 | 0,_,out,_,h,_=>h
 | f+1,at_,out,hi,h,b=>by
  rw[eW] at b ⊢
  split
  .rename_i c
   rw[Vu c] at b
   have hr:=dG.row (hi.lV a c).1 (hi.lV a c).2 hi (g.au.length+g.ak.length) (by have:=a.au;have:=a.ak;omega)
   have he:=h.row a hi c (g.au.length+g.ak.length) (by have:=a.au;have:=a.ak;omega)
   rw[show (List.range (g.au.length+g.ak.length)).foldl (cW g (cP g (out.getD at_ bJ).bj) at_) out=ua g at_ out (g.au.length+g.ak.length) from rfl] at hr he
   split
   .rename_i d;rw[Vu d] at b;simp at b
   .rename_i d
    rw[Vs d] at b
    exact BO a f (at_+1) _ hr.1.next he.1 b
  .exact h
theorem Lo {g:ai} (b:g.cU) (h:(bA g).2=0):jU g (bA g).1:=by
 unfold bA at h ⊢
 split
 .rename_i hr
  rw[Vu hr] at h
  exact BO b 302 0 dN kV ⟨rfl,λs a e he=>by simp[dN] at a;subst a;simp at he⟩ h
 .rename_i hr
  rw[Vs hr] at h
  simp at h
theorem JJ {a:List aQ} {i:Nat} {e:fi} (h:e∈(a.getD i bJ).b3):i < a.length/\a.getD i bJ∈a:=by
 rcases VT i a.length with hi | hi
 .exact⟨hi,VF (getD_some hi)⟩
 .rw[Vp,V0 hi] at h;simp at h
def kA (g:ai) (l:List aG) (n:Nat):List Int:=((List.range n).filter λi=>decide (bh g l (aU g i)≠[])).map λ(i:Nat)=>aU g i
theorem CD (g:ai) (l:List aG) (n:Nat):kA g l (n+1)=if bh g l (aU g n)=[] then kA g l n else kA g l n ++ [aU g n]:=by
 unfold kA
 rw[WX,Xl,VW]
 by_cases h:bh g l (aU g n)=[]
 .rw[Vu h];simp[h]
 .rw[Vs h];simp[h]
structure mM (g:ai) (at_ i:Nat) (out:List aQ):Prop where
 one:(out.map aQ.bj).Nodup
 back:∀ j:Nat,0 < j->j < out.length->∃ (i:Nat) (e:fi),i < j/\e∈(out.getD i bJ).b3/\e.to=j
 done:∀ j:Nat,j < at_->j < out.length->(out.getD j bJ).b3.map fi.sym=kA g (cP g (out.getD j bJ).bj) (g.au.length+g.ak.length)
 here:at_ < out.length->(out.getD at_ bJ).b3.map fi.sym=kA g (cP g (out.getD at_ bJ).bj) i
theorem rW (l:List aQ) (i:Nat) (c:fi) (j:Nat) (hi:i < l.length):((l.modify i λx=>(⟨x.bj,x.b3 ++ [c]⟩:aQ)).getD j bJ).b3=if i=j then (l.getD j bJ).b3 ++ [c] else (l.getD j bJ).b3:=by
 simp only[Vp,List.getElem?_modify]
 by_cases e:i=j
 .subst e;simp[hi]
 .cases l[j]? with
  | none=>simp[e]
  | some x=>simp[e]
theorem Dp (l:List aQ) (i:Nat) (c:fi):(l.modify i λx=>(⟨x.bj,x.b3 ++ [c]⟩:aQ)).map aQ.bj=l.map aQ.bj:=by
 apply List.ext_getElem?
 intro j
 simp only[Vt,List.getElem?_modify]
 cases l[j]? with
 | none=>rfl
 | some x=>by_cases e:i=j <;> simp[e]
theorem mM.put {g:ai} {at_ i:Nat} {out:List aQ} {to:Int} (b:at_ < out.length) (h1:(out.map aQ.bj).Nodup) (h:∀ j:Nat,0 < j->j < out.length->(∃ (i:Nat) (e:fi),i < j/\e∈(out.getD i bJ).b3/\e.to=j)∨(at_ < j/\to=j))
  (l:∀ j:Nat,j < at_->j < out.length->(out.getD j bJ).b3.map fi.sym=kA g (cP g (out.getD j bJ).bj) (g.au.length+g.ak.length)) (m:(out.getD at_ bJ).b3.map fi.sym=kA g (cP g (out.getD at_ bJ).bj) i)
  (c:bh g (cP g (out.getD at_ bJ).bj) (aU g i)≠[]):mM g at_ (i+1) (out.modify at_ λx=>(⟨x.bj,x.b3 ++ [⟨aU g i,to⟩]⟩:aQ)):=by
 refine⟨by rw[Dp];exact h1,λj d a=>?_,λj d a=>?_,λ_=>?_⟩
 .rw[List.length_modify] at a
  rcases h j d a with ⟨k,e,f,a2,a3⟩ | ⟨f,a2⟩
  .refine⟨k,e,f,?_,a3⟩
   rw[rW _ _ _ _ b]
   split
   .exact List.mem_append_left _ a2
   .exact a2
  .refine⟨at_,⟨aU g i,to⟩,f,?_,a2⟩
   rw[rW _ _ _ _ b,Vu rfl]
   simp
 .rw[List.length_modify] at a
  rw[rW _ _ _ _ b,Vs (by omega),lK]
  exact l j d a
 .rw[rW _ _ _ _ b,Vu rfl,lK,VW,m,CD,Vs c];rfl
theorem mM.step {g:ai} {at_ i:Nat} {out:List aQ} (h:mM g at_ i out) (d:at_ < out.length):mM g at_ (i+1) (cW g (cP g (out.getD at_ bJ).bj) at_ out i):=by
 unfold cW
 split
 .rename_i hm
  exact⟨h.one,h.back,h.done,λ_=>by rw[CD,Vu hm];exact h.here d⟩
 .rename_i hm
  split
  .rename_i n
   have f:∀ j:Nat,j < out.length->((out ++ [(⟨bh g (cP g (out.getD at_ bJ).bj) (aU g i),[]⟩:aQ)]).getD j bJ)=out.getD j bJ:=λj c=>by
    simp[Vp,VZ c]
   refine mM.put (by simp;omega) ?_ (λj c l=>?_) (λj c l=>?_) ?_ ?_
   .rw[VW,WO]
    refine⟨h.one,by simp,λa o b m=>?_⟩
    obtain⟨s,p,rfl⟩:=VO.1 o
    simp at m;subst m
    exact G3 _ _ n s p
   .rcases VT j out.length with q | q
    .obtain⟨k,e,r,a2,a3⟩:=h.back j c q
     exact .inl ⟨k,e,r,by rw[f k (by omega)];exact a2,a3⟩
    .right
     simp at l
     exact⟨by omega,by omega⟩
   .rw[f j (by omega)];exact h.done j c (by omega)
   .rw[f at_ d];exact h.here d
   .rw[f at_ d];exact hm
  .exact mM.put d h.one (λj c l=>.inl (h.back j c l)) h.done (h.here d) hm
theorem mM.row {g:ai} (a:g.cU) {at_:Nat} {out:List aQ} (h:mM g at_ 0 out) (hi:dG g at_ 0 out) (he:jU g out) (b:at_ < out.length):∀ n:Nat,n<=40->mM g at_ n ((List.range n).foldl (cW g (cP g (out.getD at_ bJ).bj) at_) out)
 | 0,_=>h
 | n+1,d=>by
  have h1:=mM.row a h hi he b n (by omega)
  obtain⟨i1,i2,i3⟩:=dG.row (hi.lV a b).1 (hi.lV a b).2 hi n (by omega)
  obtain⟨e,c⟩:=he.row a hi b n (by omega)
  rw[WX,WQ]
  simp only[V7,Xk]
  have:=h1.step (by omega)
  rw[c] at this
  exact this
theorem mM.next {g:ai} {at_:Nat} {out:List aQ} (h:mM g at_ (g.au.length+g.ak.length) out) (hi:dG g at_ (g.au.length+g.ak.length) out):mM g (at_+1) 0 out:=by
 refine⟨h.one,h.back,λj b a=>?_,λa=>?_⟩
 .rcases VT j at_ with q | q
  .exact h.done j q a
  .have:j=at_:=by omega
   subst this
   exact h.here a
 .have:=(hi.b3 (at_+1) _ (getD_some (d:=bJ) a)).2.2 (by omega)
  rw[this];simp[kA]
structure QN (g:ai) (a:List aQ):Prop where
 one:(a.map aQ.bj).Nodup
 back:∀ j:Nat,0 < j->j < a.length->∃ (i:Nat) (e:fi),i < j/\e∈(a.getD i bJ).b3/\e.to=j
 all:∀ s∈a,s.b3.map fi.sym=kA g (cP g s.bj) (g.au.length+g.ak.length)
theorem BQ {g:ai} (a:g.cU):∀ (f at_:Nat) (out:List aQ),302<=f+at_->dG g at_ 0 out->jU g out->mM g at_ 0 out->out.length<=300->(eW g f at_ out).2=0->QN g (eW g f at_ out).1
 | 0,at_,out,n,_,_,h,o,_=>⟨h.one,h.back,λs d=>by
   change s∈out at d
   obtain⟨j,i,e⟩:=WU.1 d
   have:=h.done j (by omega) i
   rwa [show out.getD j bJ=s by rw[Vp,Vq i];exact e] at this⟩
 | f+1,at_,out,n,hi,he,h,o,b=>by
  have p:=a.au
  have q:=a.ak
  rw[eW] at b ⊢
  split
  .rename_i c
   rw[Vu c] at b
   have hr:=dG.row (hi.lV a c).1 (hi.lV a c).2 hi (g.au.length+g.ak.length) (by omega)
   have l:=he.row a hi c (g.au.length+g.ak.length) (by omega)
   have m:=h.row a hi he c (g.au.length+g.ak.length) (by omega)
   rw[show (List.range (g.au.length+g.ak.length)).foldl (cW g (cP g (out.getD at_ bJ).bj) at_) out=ua g at_ out (g.au.length+g.ak.length) from rfl] at hr l m
   split
   .rename_i k;rw[Vu k] at b;simp at b
   .rename_i k
    rw[Vs k] at b
    exact BQ a f (at_+1) _ (by omega) hr.1.next l.1 (m.next hr.1) (by omega) b
  .rename_i c
   exact⟨h.one,h.back,λs d=>by
    change s∈out at d
    obtain⟨j,i,e⟩:=WU.1 d
    have:=h.done j (by omega) i
    rwa [show out.getD j bJ=s by rw[Vp,Vq i];exact e] at this⟩
theorem LV {g:ai} (b:g.cU) (h:(bA g).2=0):QN g (bA g).1:=by
 unfold bA at h ⊢
 split
 .rename_i hr
  rw[Vu hr] at h
  refine BQ b 302 0 dN (by omega) kV ⟨rfl,λs a e he=>by simp[dN] at a;subst a;simp at he⟩ ⟨by simp[dN],λj h1 c=>by simp[dN] at c;omega,λj h1=>by omega,λ_=>?_⟩ (by simp[dN]) h
  simp[dN,kA]
 .rename_i hr
  rw[Vs hr] at h
  simp at h
theorem EA (g:ai):∀ (f at_:Nat) (out:List aQ),(eW g f at_ out).2=0∨eW g f at_ out=([],5)
 | 0,_,_=>.inl rfl
 | f+1,at_,out=>by
  rw[eW]
  split
  .split
   .exact .inr rfl
   .exact EA g f _ _
  .exact .inl rfl
theorem Og (g:ai):((bA g).2=0/\isRed g=true)∨(bA g=([],5)/\isRed g=true)∨(bA g=([],1)/\isRed g=false):=by
 unfold bA
 cases h:isRed g with
 | false=>exact .inr (.inr ⟨by simp,rfl⟩)
 | true =>
  rw[Vu rfl]
  rcases EA g 302 0 dN with h | h
  .exact .inl ⟨h,rfl⟩
  .exact .inr (.inl ⟨h,rfl⟩)
theorem wO {g:ai} (a:g.cU) {x:aG} (c:cD g x) {s:Int} (h:bB g x=(s,true)):dw g s=true:=by
 obtain⟨h1,d⟩:=ug h
 have b:x.dot.toNat < (bV g x.az).length:=by have:=c.2;omega
 have hm:s∈bV g x.az:=by
  rw[<-d,Vp,Vq b];exact Vw _
 unfold bV at hm
 split at hm
 .simp at hm;subst hm
  have:=a.kT;have:=a.start
  unfold dw
  rw[Vs (by omega)]
  simp;omega
 .have e:g.rules[x.az.toNat]?=some (bY g x.az):=by unfold bY;exact getD_some (by have:=c.1;omega)
  exact a.sym _ (VF e) s hm
def jG (a:List aQ) (p:Nat) (s:Int):Nat:=(jj a p [s]).1.toNat
def rE (a:List aQ) (p:Nat) (s:Int):Prop:=∃ e∈(a.getD p bJ).b3,e.sym=s
noncomputable abbrev z6 (g:ai) (a:List aQ) (p:Nat):List aG:=cP g (a.getD p bJ).bj
inductive y8 (a:List aQ):Nat->List Int->Nat->Prop
 | nil {p:Nat} : y8 a p [] p
 | cons {p q:Nat} {s:Int} {X:List Int} : rE a p s->y8 a (jG a p s) X q->y8 a p (s :: X) q
theorem y8.snoc {a:List aQ} {p q:Nat} {X:List Int} (h:y8 a p X q) {s:Int} (he:rE a q s):y8 a p (X ++ [s]) (jG a q s):=by
 induction h with
 | nil=>exact .cons he .nil
 | cons h1 _ b=>exact .cons h1 (b he)
theorem J4 {a:List aQ} {p:Nat} {s:Int} (h:rE a p s):p < a.length:=by
 obtain⟨e,he,_⟩:=h;exact(JJ he).1
theorem Is {l:List fi} {s:Int} (h:∃ e∈l,e.sym=s):∃ e∈l,e.sym=s/\gx l s=e.to:=by
 induction l with
 | nil=>obtain⟨e,he,_⟩:=h;simp at he
 | cons e l c =>
  rw[gx]
  by_cases a:e.sym=s
  .rw[Vu a];exact⟨e,by simp,a,rfl⟩
  .rw[Vs a]
   obtain⟨d,h1,b⟩:=h
   rcases VJ.1 h1 with rfl | h1
   .exact absurd b a
   .obtain⟨f,g,k2⟩:=c ⟨d,h1,b⟩
    exact⟨f,by simp[g],k2⟩
theorem PU {g:ai} {i j:Nat} (h:aU g i=aU g j):i=j:=by
 have h1:=wb g i
 rw[h,wb] at h1
 omega
theorem IA (g:ai) (l:List aG) (n:Nat):(kA g l n).Nodup:=by
 unfold kA
 unfold List.Nodup
 rw[List.pairwise_map]
 exact((List.nodup_range (n:=n)).filter _).imp λa e=>a (PU e)
theorem P3 {l:List fi} (h:(l.map fi.sym).Nodup) {e:fi} (he:e∈l):gx l e.sym=e.to:=by
 induction l with
 | nil=>simp at he
 | cons x l a =>
  simp only[VX,Wo] at h
  rw[gx]
  rcases VJ.1 he with rfl | he
  .rw[Vu rfl]
  .rw[Vs (λb=>h.1 (by rw[b];exact List.mem_map_of_mem he))]
   exact a h.2 he
structure dI (g:ai) (a:List aQ):Prop where
 iy:g.cU
 ok:FI g a
 e:jU g a
 x:QN g a
 pos:1<=a.length
section
variable {g:ai} {a:List aQ}
theorem dI.bj (h:dI g a) {p:Nat} (hp:p < a.length):∀ x∈(a.getD p bJ).bj,cD g x:=(h.ok.bj _ (VF (getD_some hp))).2.2
theorem dI.has (h:dI g a) {p:Nat} (hp:p < a.length) {x:aG} (b:x∈z6 g a p):cD g x:=((fL h.iy (h.bj hp)).1 b).has (h.bj hp)
theorem dI.yh (h:dI g a) {p:Nat} (hp:p < a.length) {s:Int} : rE a p s↔∃ x∈z6 g a p,bB g x=(s,true):=by
 have k:=h.x.all _ (VF (getD_some (d:=bJ) hp))
 have e:rE a p s↔s∈((a.getD p bJ).b3.map fi.sym):=by
  simp only[rE,VO]
 rw[e,k]
 simp only[kA,VO,Wx,Wy,VH]
 constructor
 .rintro⟨i,⟨hi,f⟩,rfl⟩
  obtain⟨y,l⟩:=List.exists_mem_of_ne_nil _ f
  obtain⟨x,b,c,_⟩:=qa.1 l
  exact⟨x,b,c⟩
 .rintro⟨x,b,c⟩
  obtain⟨m,n⟩:=I3 (wO h.iy (h.has hp b) c)
  obtain⟨o,j⟩:=F3 m
  refine⟨(mD g s).toNat,⟨by omega,?_⟩,j⟩
  rw[j]
  exact List.ne_nil_of_mem (qa.2 ⟨x,b,c,rfl⟩)
theorem dI.jG (h:dI g a) {p:Nat} {s:Int} (he:rE a p s):∃ e∈(a.getD p bJ).b3,e.sym=s/\e.to=jG a p s/\jG a p s < a.length/\jj a p [s]=((jG a p s:Int),true):=by
 have hp:=J4 he
 have hm:=VF (getD_some (d:=bJ) hp)
 obtain⟨e,h1,c,f⟩:=Is he
 obtain⟨t1,t2⟩:=h.ok.to _ hm _ h1
 have hw:jj a p [s]=(e.to,true):=by
  unfold jj
  rw[Vs (by omega),gW,V2,f,Vu ⟨t1,t2⟩,gW]
 have b:((Gv.jG a p s:Nat):Int)=e.to:=by unfold Gv.jG;rw[hw];simp;omega
 exact⟨e,h1,c,b.symm,by omega,by rw[hw,b]⟩
theorem dI.UZ (h:dI g a) {p:Nat} {s:Int} (he:rE a p s):(a.getD (Gv.jG a p s) bJ).bj=bh g (z6 g a p) s:=by
 have hm:=VF (getD_some (d:=bJ) (J4 he))
 obtain⟨e,h1,b,c,_⟩:=h.jG he
 have:=h.e.yh _ hm e h1
 rw[c,V2,b] at this
 exact this
theorem dI.step (h:dI g a) {p:Nat} (hp:p < a.length) {x:aG} (b:x∈z6 g a p) {s:Int} (c:bB g x=(s,true)):rE a p s/\(⟨x.az,x.dot+1⟩:aG)∈(a.getD (Gv.jG a p s) bJ).bj/\(⟨x.az,x.dot+1⟩:aG)∈z6 g a (Gv.jG a p s)/\Gv.jG a p s < a.length:=by
 have he:=(h.yh hp).2 ⟨x,b,c⟩
 obtain⟨_,_,_,_,d,_⟩:=h.jG he
 have hk:(⟨x.az,x.dot+1⟩:aG)∈(a.getD (Gv.jG a p s) bJ).bj:=by
  rw[h.UZ he];exact qa.2 ⟨x,b,c,rfl⟩
 exact⟨he,hk,(fL h.iy (h.bj d)).2 (.base hk),d⟩
theorem dI.prev (h:dI g a) {i:Nat} (hi:i < a.length) {x:aG} (c:x∈(a.getD i bJ).bj) (f:0 < i):∃ (p:Nat) (y:aG) (s:Int),p < i/\p < a.length/\y∈z6 g a p/\bB g y=(s,true)/\x=⟨y.az,y.dot+1⟩/\rE a p s/\Gv.jG a p s=i:=by
 obtain⟨p,e,hp,he,d⟩:=h.x.back i f hi
 obtain⟨b,hm⟩:=JJ he
 have hk:=h.e.yh _ hm e he
 rw[d,V2] at hk
 rw[hk] at c
 obtain⟨y,j,k,rfl⟩:=qa.1 c
 have l:rE a p e.sym:=⟨e,he,rfl⟩
 refine⟨p,y,e.sym,hp,b,j,k,rfl,l,?_⟩
 have h1:=P3 (by rw[h.x.all _ hm];exact IA _ _ _) he
 have hw:jj a p [e.sym]=(e.to,true):=by
  have:=h.ok.to _ hm _ he
  unfold jj
  rw[Vs (by omega),gW,V2,h1,Vu this,gW]
 unfold Gv.jG
 rw[hw,d];rfl
theorem Sl {x:aG} {s:Int} (b:cD g x) (h:bB g x=(s,true)):∃ d:Nat,x.dot=d/\d < (bV g x.az).length/\(bV g x.az).drop d=s :: (bV g x.az).drop (d+1):=by
 obtain⟨h1,a⟩:=ug h
 have:=b.2
 refine⟨x.dot.toNat,by omega,by omega,?_⟩
 rw[Wl (show x.dot.toNat < (bV g x.az).length by omega)]
 rw[Vp,Vq (show x.dot.toNat < (bV g x.az).length by omega)] at a
 simp at a
 rw[a]
end
section
variable {g:ai} {a:List aQ}
theorem RY {x:aG} {s:Int} (a:cD g x) (h:bB g x=(s,true)):∃ d:Nat,x.dot=d/\(bV g x.az).drop d=s :: ju g x/\(bV g x.az).drop (d+1)=ju g x:=by
 obtain⟨d,h1,b,f⟩:=Sl a h
 have e:(bV g x.az).drop (d+1)=ju g x:=by
  unfold ju
  by_cases c:0<=x.az
  .rw[Vu c,h1,bV,Vs (by omega)];rfl
  .rw[Vs c]
   have hr:x.az = -1:=by have:=a.1;omega
   rw[hr] at b ⊢
   simp only[bV,if_true] at b ⊢
   exact VN (by simp)
 exact⟨d,h1,by rw[f,e],e⟩
theorem Sd (b:dI g a) {q:Nat} (c:q < a.length) {C:Int} {k:Nat} (h:0<=C) (hk:k < g.rules.length) (i:(bY g k).left=C) (he:rE a q (-1 - C)):(⟨k,0⟩:aG)∈z6 g a q:=by
 obtain⟨x,d,e⟩:=(b.yh c).1 he
 have f:g.rules[k]?=some (bY g k):=by unfold bY;exact getD_some hk
 exact(fL b.iy (b.bj c)).2 (.step ((fL b.iy (b.bj c)).1 d) e (by omega) f (by omega))
end
section
variable {g:ai} {a:List aQ}
end
section
variable {g:ai} {a:List aQ}
end
section
variable {g:ai} {a:List aQ}
end
theorem DK {g:ai} (h:(bA g).2=0):isRed g=true/\dI g (bA g).1/\(bA g).1.length<=300:=by
 have hr:isRed g=true:=by
  rcases Og g with ⟨_,hr⟩ | ⟨b,hr⟩ | ⟨b,hr⟩
  .exact hr
  .exact hr
  .rw[b] at h;simp at h
 have a:=oA hr
 obtain⟨c,d,e⟩:=P5 a h
 exact⟨hr,⟨a,c,Lo a h,LV a h,d⟩,e⟩
section
variable {g:ai} {a:List aQ} {L:List (List T4)}
end
section
variable {g:ai} {a:List aQ} {w:List Int}
end
section
variable {g:ai} {a:List aQ}
end
structure bG where
 st:Nat
 it:aG
 ah:List Int
 be:List Int
def Va:bG:=⟨0,⟨0,0⟩,[],[]⟩
def rU (x y:bG):Bool:=decide (y.st=x.st) && decide (y.it=x.it)
def ko (l:List bG) (x:bG):List bG:=if l.any (rU x)=true then l else l ++ [x]
def oz (g:ai) (x:bG) (s:Int):Nat->List bG->List bG
 | 0,l=>l
 | k+1,l=>if (bY g k).left = -1 - s then ko (oz g x s k l) ⟨x.st,⟨k,0⟩,x.ah,ju g x.it ++ x.be⟩ else oz g x s k l
def iQ (g:ai) (a:List aQ) (l:List bG) (x:bG):List bG :=
 if (bB g x.it).2=true then oz g x (bB g x.it).1 g.rules.length (ko l ⟨jG a x.st (bB g x.it).1,⟨x.it.az,x.it.dot+1⟩,x.ah ++ [(bB g x.it).1],x.be⟩) else l
def jx (g:ai) (a:List aQ):Nat->Nat->List bG->List bG
 | 0,_,l=>l
 | f+1,i,l=>match l[i]? with
  | none=>l
  | some x=>jx g a f (i+1) (iQ g a l x)
def me:List bG:=[⟨0,⟨-1,0⟩,[],[]⟩]
def cz (g:ai) (a:List aQ):List bG:=jx g a 90000 0 me
def dE (l:List bG) (i:Nat):bG:=(l.find? λx=>decide (x.st=i)).getD Va
def eT (g:ai) (x:aG):List Int:=(bV g x.az).drop x.dot.toNat
theorem qU {g:ai} {x:aG} {s:Int} (a:cD g x) (h:bB g x=(s,true)):eT g x=s :: ju g x/\eT g ⟨x.az,x.dot+1⟩=ju g x:=by
 obtain⟨d,h1,b,c⟩:=RY a h
 unfold eT
 rw[h1]
 exact⟨by rw[V2];exact b,by simp only;rw[show ((d:Int)+1).toNat=d+1 by omega];exact c⟩
section
variable {g:ai} {a:List aQ}
structure Nd (g:ai) (a:List aQ) (x:bG):Prop where
 lt:x.st < a.length
 it:x.it∈z6 g a x.st
 CP:y8 a 0 x.ah x.st
 SS:∀ w,Sp g w (x.ah ++ (eT g x.it ++ x.be)) 0 w.length->Sp g w [-1 - g.start] 0 w.length
theorem Nd.start (b:dI g a):Nd g a ⟨0,⟨-1,0⟩,[],[]⟩:=by
 refine⟨b.pos,(fL b.iy (b.bj b.pos)).2 (.base (by rw[b.e.first];simp)),.nil,λw h=>?_⟩
 simpa [eT,bV] using h
theorem Nd.move (b:dI g a) {x:bG} (h:Nd g a x) {s:Int} (c:bB g x.it=(s,true)):Nd g a ⟨jG a x.st s,⟨x.it.az,x.it.dot+1⟩,x.ah ++ [s],x.be⟩:=by
 obtain⟨s1,s2,d,e⟩:=b.step h.lt h.it c
 obtain⟨f1,f2⟩:=qU (b.has h.lt h.it) c
 refine⟨e,d,h.CP.snoc s1,λw hw=>h.SS w ?_⟩
 simp only at hw
 rw[f2] at hw
 rw[f1]
 simpa using hw
theorem Nd.az (b:dI g a) {x:bG} (h:Nd g a x) {s:Int} (c:bB g x.it=(s,true)) {k:Nat} (hk:k < g.rules.length) (d:(bY g k).left = -1 - s):Nd g a ⟨x.st,⟨k,0⟩,x.ah,ju g x.it ++ x.be⟩:=by
 obtain⟨s1,s2,o,p⟩:=b.step h.lt h.it c
 obtain⟨f1,f2⟩:=qU (b.has h.lt h.it) c
 have f:g.rules[k]?=some (bY g k):=by unfold bY;exact getD_some hk
 have l:=b.iy.left _ (VF f)
 refine⟨h.lt,Sd b h.lt l.1 hk rfl (by rw[d];rw[show -1 - (-1 - s)=s by omega];exact s1),h.CP,λw hw=>h.SS w ?_⟩
 have e:eT g ⟨k,0⟩=(bY g k).right:=by
  unfold eT bV
  rw[Vs (by simp only;omega)];rfl
 simp only at hw
 rw[e] at hw
 rw[f1]
 obtain⟨i,i1,i2⟩:=Sp.split hw
 obtain⟨j,m,n⟩:=Sp.split i2
 exact i1.app (.ky _ _ _ _ _ _ (by omega) (VF f) d m n)
def Hq (x:bG):Nat:=x.st * 287+((x.it.az+1) * 7+x.it.dot).toNat
theorem Nd.small (b:dI g a) {x:bG} (h:Nd g a x):0<=x.it.az+1/\(x.it.az+1) * 7+x.it.dot < 287/\0<=x.it.dot/\x.it.dot<=6:=by
 have h1:=b.has h.lt h.it
 have:=eh b.iy h1.1
 have:=h1.1;have:=h1.2;have:=b.iy.rules
 omega
theorem key_inj (f:dI g a) {x y:bG} (i:Nd g a x) (j:Nd g a y) (h:Hq x=Hq y):y.st=x.st/\y.it=x.it:=by
 have h1:=i.small f;have l:=j.small f
 unfold Hq at h
 have k:y.st=x.st:=by omega
 have b:y.it.az=x.it.az:=by omega
 have c:y.it.dot=x.it.dot:=by omega
 refine⟨k,?_⟩
 cases d:x.it;cases e:y.it
 rw[d,e] at b c
 simp only at b c
 rw[b,c]
structure jk (g:ai) (a:List aQ) (l:List bG):Prop where
 nd:∀ x∈l,Nd g a x
 one:(l.map Hq).Nodup
 len:∀ (j:Nat) (x:bG),l[j]?=some x->x.ah.length<=j/\x.be.length<=6 * j
theorem jk.short (b:dI g a) (e:a.length<=300) {l:List bG} (h:jk g a l):l.length<=86100:=by
 have:=uE 86100 _ h.one λn c=>by
  obtain⟨x,d,rfl⟩:=VO.1 c
  have h1:=h.nd x d
  have:=h1.small b;have:=h1.lt
  unfold Hq
  omega
 simpa using this
def sG (l m:List bG):Prop:=∃ t,m=l ++ t
theorem sG.refl {l:List bG} : sG l l:=⟨[],by simp⟩
theorem sG.trans {l m n:List bG} (h:sG l m) (k:sG m n):sG l n:=by
 obtain⟨t,rfl⟩:=h;obtain⟨u,rfl⟩:=k;exact⟨t ++ u,by simp⟩
theorem sG.mem {l m:List bG} (h:sG l m) {x:bG} (a:x∈l):x∈m:=by
 obtain⟨t,rfl⟩:=h;exact VM.2 (.inl a)
theorem sG.at {l m:List bG} (h:sG l m) {i:Nat} (hi:i < l.length):m[i]?=l[i]?/\i < m.length:=by
 obtain⟨t,rfl⟩:=h;exact⟨VZ hi,by simp;omega⟩
def BA (l:List bG) (st:Nat) (it:aG):Prop:=∃ y∈l,y.st=st/\y.it=it
theorem BA.up {l m:List bG} (h:sG l m) {st:Nat} {it:aG} (k:BA l st it):BA m st it:=by
 obtain⟨y,a,k⟩:=k;exact⟨y,h.mem a,k⟩
theorem Hl (p:dI g a) {l:List bG} (h:jk g a l) {x:bG} (k:Nd g a x) (h1:x.ah.length<=l.length) (q:x.be.length<=6 * l.length):jk g a (ko l x)/\sG l (ko l x)/\BA (ko l x) x.st x.it:=by
 unfold ko
 split
 .rename_i d
  obtain⟨y,b,o⟩:=W5.1 d
  simp only[rU,VD,VH] at o
  exact⟨h,.refl,y,b,o⟩
 .rename_i d
  refine⟨⟨λy b=>?_,?_,λj y c=>?_⟩,⟨[x],rfl⟩,x,by simp,rfl,rfl⟩
  .rcases VM.1 b with b | b
   .exact h.nd y b
   .simp at b;subst b;exact k
  .rw[VW,WO]
   refine⟨h.one,by simp,λn r m hm e=>?_⟩
   obtain⟨y,b,rfl⟩:=VO.1 r
   simp at hm
   subst hm
   have:=key_inj p k (h.nd y b) e.symm
   exact d (W5.2 ⟨y,b,by simp[rU,this]⟩)
  .by_cases f:j < l.length
   .rw[VZ f] at c;exact h.len j y c
   .have i:=(VC.1 c).1
    simp at i
    have e:j=l.length:=by omega
    subst e
    simp at c
    subst c
    exact⟨h1,q⟩
theorem HJ (c:dI g a) {x:bG} (d:Nd g a x) {s:Int} (f:bB g x.it=(s,true)):∀ (k:Nat) (l:List bG),k<=g.rules.length->jk g a l->x.ah.length<=l.length->x.be.length+6<=6 * l.length->jk g a (oz g x s k l)/\sG l (oz g x s k l)/\∀ j:Nat,j < k->(bY g j).left = -1 - s->BA (oz g x s k l) x.st ⟨j,0⟩
 | 0,l,_,h,_,_=>⟨h,.refl,λj i=>absurd i (by omega)⟩
 | k+1,l,hk,h,h1,n=>by
  obtain⟨i1,i2,i3⟩:=HJ c d f k l (by omega) h h1 n
  rw[oz]
  have hle:l.length<=(oz g x s k l).length:=by obtain⟨t,o⟩:=i2;rw[o];simp
  split
  .rename_i m
   obtain⟨f1,f2⟩:=qU (c.has d.lt d.it) f
   have hr:(ju g x.it).length<=6:=by
    have:=eh c.iy (c.has d.lt d.it).1
    have e:=W4 List.length f1
    simp[eT] at e
    omega
   obtain⟨m1,m2,m3⟩:=Hl c i1 (d.az c f (by omega) m) (by simp only;omega) (by simp only[VQ];omega)
   refine⟨m1,i2.trans m2,λj i b=>?_⟩
   by_cases e:j=k
   .subst e;exact m3
   .exact(i3 j (by omega) b).up m2
  .rename_i m
   refine⟨i1,i2,λj i b=>?_⟩
   have e:j≠k:=by rintro rfl;exact m b
   exact i3 j (by omega) b
def FA (g:ai) (a:List aQ) (l:List bG) (x:bG):Prop:=∀ s,bB g x.it=(s,true)->BA l (jG a x.st s) ⟨x.it.az,x.it.dot+1⟩/\∀ k:Nat,k < g.rules.length->(bY g k).left = -1 - s->BA l x.st ⟨k,0⟩
theorem AD (c:dI g a) {l:List bG} (h:jk g a l) {i:Nat} {x:bG} (hi:l[i]?=some x):jk g a (iQ g a l x)/\sG l (iQ g a l x)/\FA g a (iQ g a l x) x:=by
 have j:=h.nd x (VF hi)
 have m:=(VC.1 hi).1
 have q:=h.len i x hi
 unfold iQ
 split
 .rename_i d
  generalize e:(bB g x.it).1=s
  have f:bB g x.it=(s,true):=by rw[<-e,<-d]
  obtain⟨m1,m2,m3⟩:=Hl c h (j.move c f) (by simp only[VQ,Vz,VS];omega) (by simp only;omega)
  have hle:l.length<=(ko l ⟨jG a x.st s,⟨x.it.az,x.it.dot+1⟩,x.ah ++ [s],x.be⟩).length:=by obtain⟨t,n⟩:=m2;rw[n];simp
  obtain⟨o,k,p⟩:=HJ c j f g.rules.length _ (VA _) m1 (by omega) (by omega)
  refine⟨o,m2.trans k,λr b=>?_⟩
  rw[f] at b
  simp only[Vv,and_true] at b
  subst b
  exact⟨m3.up k,p⟩
 .rename_i d
  exact⟨h,.refl,λs e=>absurd (by rw[e]) d⟩
theorem BR (d:dI g a) (p:a.length<=300):∀ (f i:Nat) (l:List bG),jk g a l->i<=l.length->86101<=f+i->(∀ (j:Nat) (x:bG),j < i->l[j]?=some x->FA g a l x)->jk g a (jx g a f i l)/\sG l (jx g a f i l)/\∀ x∈jx g a f i l,FA g a (jx g a f i l) x
 | 0,i,l,h,hi,q,hw=>absurd (h.short d p) (by omega)
 | f+1,i,l,h,hi,q,hw=>by
  rw[jx]
  cases e:l[i]? with
  | none =>
   have:=List.getElem?_eq_none_iff.1 e
   simp only
   refine⟨h,.refl,λx r=>?_⟩
   obtain⟨j,m⟩:=List.getElem?_of_mem r
   have u:=(VC.1 m).1
   exact hw j x (by omega) m
  | some x =>
   simp only
   have n:=(VC.1 e).1
   obtain⟨v,b,w⟩:=AD d h e
   have hle:l.length<=(iQ g a l x).length:=by obtain⟨t,z⟩:=b;rw[z];simp
   obtain⟨A,B,C⟩:=BR d p f (i+1) _ v (by omega) (by omega) λj y m c=>by
    by_cases o:j=i
    .subst o
     rw[(b.at n).1,e] at c
     simp at c
     subst c
     exact w
    .rw[(b.at (i:=j) (by omega)).1] at c
     intro s D
     obtain⟨E,F⟩:=hw j y (by omega) c s D
     exact⟨E.up b,λk hk G=>(F k hk G).up b⟩
   exact⟨A,b.trans B,C⟩
theorem AG (d:dI g a):jk g a me:=by
 refine⟨λx c=>?_,by simp[me],λj x b=>?_⟩
 .simp[me] at c;subst c;exact .start d
 .have:=(VC.1 b).1
  simp[me] at this
  subst this
  simp[me] at b
  subst b
  simp
theorem As (b:dI g a) (c:a.length<=300):jk g a (cz g a)/\(∀ x∈cz g a,FA g a (cz g a) x)/\BA (cz g a) 0 ⟨-1,0⟩:=by
 obtain⟨d,e,f⟩:=BR b c 90000 0 me (AG b) (WK _) (by omega) λj x h=>absurd h (by omega)
 exact⟨d,f,⟨0,⟨-1,0⟩,[],[]⟩,e.mem (by simp[me]),rfl,rfl⟩
theorem R8 (b:dI g a) (r:a.length<=300):∀ n p:Nat,p < n->p < a.length->∀ y∈z6 g a p,BA (cz g a) p y:=by
 obtain⟨h1,m,t⟩:=As b r
 intro n
 induction n with
 | zero=>intro p hp;omega
 | succ n v =>
  intro p hp c y w
  have A:=(fL b.iy (b.bj c)).1 w
  induction A with
  | base hk =>
   by_cases d:p=0
   .subst d
    rw[b.e.first] at hk
    simp at hk
    subst hk
    exact t
   .obtain⟨q,z,s,I,B,C,D,rfl,J,E⟩:=b.prev c hk (by omega)
    obtain⟨u,hu,f,h⟩:=v q (by omega) B z C
    subst h
    have:=(m u hu s D).1
    rw[f,E] at this
    exact this
  | @step x s k R F G K o H i =>
   have j:=(fL b.iy (b.bj c)).2 F
   obtain⟨u,hu,f,h⟩:=i j
   subst h
   have hk:=(VC.1 o).1
   have l:bY g k=R:=by unfold bY;rw[V2,Vp,o];rfl
   have:=(m u hu _ G).2 k hk (by rw[l];exact H)
   rw[f] at this
   exact this
theorem vS (b:dI g a) (f:a.length<=300) {i:Nat} (hi:i < a.length):dE (cz g a) i∈cz g a/\(dE (cz g a) i).st=i/\Nd g a (dE (cz g a) i):=by
 obtain⟨h1,k,l⟩:=As b f
 have c:∃ y,y∈z6 g a i:=by
  have hk:=(b.ok.bj (a.getD i bJ) (VF (getD_some hi))).2.1
  obtain⟨y,d⟩:=List.exists_mem_of_ne_nil _ hk
  exact⟨y,(fL b.iy (b.bj hi)).2 (.base d)⟩
 obtain⟨y,d⟩:=c
 obtain⟨u,hu,j,m⟩:=R8 b f _ i (Nat.lt_succ_self i) hi y d
 unfold dE
 cases e:(cz g a).find? λx=>decide (x.st=i) with
 | none =>
  have:=List.find?_eq_none.1 e u hu
  simp[j] at this
 | some z =>
  have h:=List.find?_some e
  have z2:=List.mem_of_find?_eq_some e
  simp at h
  exact⟨z2,h,h1.nd z z2⟩
end
theorem IH {g:ai} (l:List Int):aI (dc g l).1/\(dc g l).1.length<=60:=by
 unfold dc
 split
 .split
  .unfold aI;simp
  .rename_i hk
   split
   .unfold aI;simp
   .rename_i b
    have a:=(fZ (ao g) l aX).1 (by simpa using hk)
    have:=ED a (by omega)
    unfold aI;simp only;omega
 .unfold aI;simp
theorem wK {g:ai} {a l b:List Int} (h:(dc g (a ++ l ++ b)).2=0):dc g l=(dz g (ao g) g.ak.length l,0):=by
 unfold dc at h
 split at h
 .rename_i h1
  split at h
  .simp at h
  .rename_i e
   split at h
   .simp at h
   .rename_i f
    simp only[Xx,VD] at h1
    have c:=(fZ (ao g) (a ++ l ++ b) aX).1 (by simpa using e)
    have d:gK (ao g) l:=λx i=>c x (by simp[i])
    have t1:=nF g g.ak.length (a ++ l ++ b) aX (qP c) gm
    have t2:=nF g g.ak.length l aX (qP d) gm
    simp only[iX,fv,VQ,aX] at t1 t2
    have j:(bD (ao g) l aX).2=true:=(fZ _ _ _).2 d
    simp only[aX] at f
    unfold dc
    rw[Vu (by rw[VD];exact⟨h1.1,h1.2.1.2⟩),Vs (by rw[j];simp),Vs]
    simp only[aX]
    omega
 .simp at h
theorem GZ {g:ai} {l:List Int} (h:(dc g l).2=0):bM g=true/\Sp g (dc g l).1 l 0 (dc g l).1.length/\(∀ x∈(dc g l).1,0<=x/\x < g.au.length):=by
 have h1:(bM g && l.all (dw g))=true:=by
  unfold dc at h
  split at h
  .assumption
  .simp at h
 simp only[VD,VU] at h1
 have c:(bD (ao g) l aX).2=true:=by
  unfold dc at h
  split at h
  .split at h
   .simp at h
   .rename_i c;simpa using c
  .simp at h
 have hp:=wK (a:=[]) (l:=l) (b:=[]) (by simpa using h)
 have d:=(fZ (ao g) l aX).1 c
 have e:=bX h1.1
 have f:=Nr (λr hr=>(e.left r hr).1) g.ak.length l (qP d)
 rw[hp]
 refine⟨h1.1,by simpa using TL f [] [],MI e.sym f h1.2⟩
section
variable {g:ai} {a:List aQ}
theorem PB (c:dI g a) {p q:Nat} {X:List Int} (h:y8 a p X q):p < a.length->jj a p X=((q:Int),true):=by
 induction h with
 | nil=>intro hp;unfold jj;rw[Vs (by omega)];rfl
 | @cons p q s X he _ d =>
  intro hp
  obtain⟨e,h1,j,k,f,b⟩:=c.jG he
  have i1:=d f
  unfold jj at i1 b ⊢
  rw[Vs (by omega)] at i1 b ⊢
  rw[gW] at b ⊢
  split at b
  .rename_i i
   rw[Vu i]
   simp only[gW,Vv,and_true] at b
   rw[b]
   exact i1
  .simp at b
def Uv (g:ai) (l:List bG) (i:Nat):List Int × List Int:=((dE l i).ah,eT g (dE l i).it ++ (dE l i).be)
def dH (g:ai) (a:List aQ) (i:Nat):List Int × List Int:=Uv g (cz g a) i
structure xe where
 state:Int
 len:Int
 word:List Int
def K6 (g:ai) (a:List aQ) (i:Nat):xe:=⟨i,((dc g (dH g a i).1).1.length:Int),(dc g ((dH g a i).1 ++ (dH g a i).2)).1⟩
theorem N0 (b:dI g a) (c:a.length<=300) {i:Nat} (hi:i < a.length):jj a 0 (dH g a i).1=((i:Int),true):=by
 obtain⟨f1,f2,f3⟩:=vS b c hi
 have:=PB b f3.CP b.pos
 rw[f2] at this
 exact this
theorem PM (b:dI g a) (c:a.length<=300) {i:Nat} (hi:i < a.length) (h:(dc g ((dH g a i).1 ++ (dH g a i).2)).2=0):uB g (dc g ((dH g a i).1 ++ (dH g a i).2)).1=true:=by
 obtain⟨f1,f2,f3⟩:=vS b c hi
 obtain⟨d,e,f⟩:=GZ h
 exact(Qj d _).2 (f3.SS _ e)
end
theorem PN {g:ai} {u v:List Int} (h:(dc g (u ++ v)).2=0):(dc g u).2=0/\(dc g u).1.length<=(dc g (u ++ v)).1.length:=by
 have h1:=wK (a:=[]) (l:=u) (b:=v) (by simpa using h)
 have c:=wK (a:=[]) (l:=u ++ v) (b:=[]) (by simpa using h)
 rw[h1,c]
 refine⟨rfl,?_⟩
 simp only
 rw[fv,VQ]
 omega
def fX:List bG->Int->Nat->Int
 | [],_,_=>-1
 | x :: l,i,n=>if (x.st:Int)=i then n else fX l i (n+1)
theorem Ch (i:Int):∀ (l:List bG) (n:Nat) (x:bG),fX (l ++ [x]) i n=if fX l i n < 0 then (if (x.st:Int)=i then ((n+l.length:Nat):Int) else -1) else fX l i n
 | [],n,x=>by simp[fX]
 | y :: l,n,x=>by
  rw[V4,fX,fX]
  split
  .rw[Vs (by omega)]
  .rw[Ch i l (n+1) x]
   split
   .split
    .simp only[Vz];congr 1;omega
    .rfl
   .rfl
theorem Aa (i:Nat):∀ (l:List bG) (n:Nat),(∃ x∈l,x.st=i)->∃ k:Nat,fX l i n=((n+k:Nat):Int)/\k < l.length/\l[k]?=some (dE l i)
 | [],_,h=>by obtain⟨x,a,_⟩:=h;simp at a
 | y :: l,n,h=>by
  rw[fX]
  by_cases e:y.st=i
  .rw[Vu (by omega)]
   exact⟨0,rfl,by simp,by simp[dE,e]⟩
  .rw[Vs (by omega)]
   obtain⟨x,a,hi⟩:=h
   have b:x∈l:=by
    rcases VJ.1 a with rfl | a
    .exact absurd hi e
    .exact a
   obtain⟨k,h1,d,c⟩:=Aa i l (n+1) ⟨x,b,hi⟩
   refine⟨k+1,by rw[h1];congr 1;omega,by simp only[Vz];omega,?_⟩
   rw[V6,c]
   simp[dE,e]
theorem MK (us:List (List Int)) (w:us.flatten.length<=1000000) (hu:us.length<=1000):ca Tryz.prog 68 [.aW (Rg us)] (encI us.flatten):=by
 have d:∀ i,(us.take i).flatten.length<=1000000:=λi=>by
  have:=List.take_append_drop i us
  have b:us.flatten=(us.take i).flatten ++ (us.drop i).flatten:=by rw[<-List.flatten_append,this]
  rw[b,VQ] at w;omega
 refine ca.of (by intro v g;simp at g;subst g;exact ep _ _ λx _ v g=>by simp at g;subst g;exact bI x) ?_
 refine aw.of mixed pg ?_
 simp(disch:=omega)only[↓wr,seval,wq,kb]
 refine aR.up us.length (λi T H'=>H'=(λ_=>.dead)/\T 0=.aW (Rg us)/\T 3=gi (us.take i).flatten.length/\T 9=.aW (Rg us)/\T 10=gi us.length/\T 11=gi i) ⟨rfl,rfl,rfl,rfl,rfl,rfl⟩ ?_
 rintro i k T H1 hk ⟨rfl,t0,t3,t9,t10,t11⟩
 simp(disch:=omega)only[↓wr,seval,wq,jz,t0,t3,t9,t10,t11]
 apply aj.dec<;>intro hi
 .have b:us[i]?=some (us[i]'(by omega)):=Vq (by omega)
  have a:us.take (i+1)=us.take i ++ [us[i]'(by omega)]:=by rw[VP,b];rfl
  have c:=d (i+1)
  generalize us[i]'(by omega)=x at b a
  rw[a] at c
  simp only[List.flatten_append,List.flatten_cons,List.flatten_nil,WW,VQ] at c
  simp(disch:=omega)only[↓wr,seval,wq,t0,t3,t9,t10,t11,Vt,b,VE,encI]
  refine aj.dec (λh=>absurd h (by omega)) (λ_=>?_)
  simp(disch:=omega)only[↓wr,seval,wq,t0,t3,t9,t10,t11]
  refine aE hk (by omega) ⟨rfl,t0,?_,t9,t10,rfl⟩
  rw[a,List.flatten_append,VQ,List.flatten_cons,List.flatten_nil,WW]
  push_cast
  rfl
 .simp(disch:=omega)only[↓wr,seval,wq,t0,t3,t9,t10,t11]
  have e:us.take i=us:=VG (by omega)
  rw[e]
  refine ax.eA ((LN _ w _).mono ?_)
  intro r y hr
  have j:FE y r []:=by
   rcases hr with ⟨_,rfl,rfl⟩ | ⟨_,m,es,hm,rfl,rfl⟩
   .exact .inl .nil
   .exact .inr ⟨rfl,m,es,rfl,by simp[View.set]⟩
  have l:us.flatten.length=0->aO y r 1 (bw []):=λo=>by
   rcases hr with ⟨_,rfl,_⟩ | ⟨h1,_⟩
   .exact .nil
   .omega
  simp(disch:=omega)only[↓wr,seval,wq,t0,t3,t9,t10,t11]
  refine aR.up us.length (λi T H'=>∃ u,T 6=u/\FE H' u (us.take i).flatten/\(us.flatten.length=0->aO H' u 1 (bw (us.take i).flatten))/\T 25=.aW (Rg us)/\T 26=gi us.length/\T 27=gi i) ⟨r,rfl,j,l,rfl,rfl,rfl⟩ ?_
  rintro i k T A hk ⟨u,t6,p,q,t25,t26,t27⟩
  simp(disch:=omega)only[↓wr,seval,wq,jy,t6,t25,t26,t27]
  apply aj.dec<;>intro hi
  .have b:us[i]?=some (us[i]'(by omega)):=Vq (by omega)
   have a:us.take (i+1)=us.take i ++ [us[i]'(by omega)]:=by rw[VP,b];rfl
   have c:=d (i+1)
   generalize us[i]'(by omega)=x at b a
   rw[a,List.flatten_append,VQ,List.flatten_cons,List.flatten_nil,WW] at c
   simp(disch:=omega)only[↓wr,seval,wq,t6,t25,t26,t27,Vt,b,VE,encI,mr]
   refine Lr p (by unfold aC;omega) (by unfold aC;omega) rfl ?_
   intro z B s t C
   simp(disch:=omega)only[↓wr,seval,wq,t6,t25,t26,t27]
   refine aE hk (by omega) ⟨z,rfl,?_,λo=>?_,t25,t26,rfl⟩
   .rw[a];simpa using s
   .rw[a];simpa using t (q o)
  .simp(disch:=omega)only[↓wr,seval,wq,t6,t25,t26,t27]
   have e:us.take i=us:=VG (by omega)
   rw[e] at p q
   intro D g
   refine dB.Q7 (sz:=1) (f:=λn=>.int .i64 n) ?_
   rw[g]
   rcases p with p | ⟨o,m,es,rfl,hm⟩
   .exact p
   .have:=q (by rw[o];rfl)
    rw[o] at this ⊢;exact this
def zd (v:V) (l:List Int):Prop:=v=encI l∨(l=[]/\v=.emp 1)
theorem zd.lY {v:V} {l:List Int} (h:zd v l) {H:View} : cn H v (encI l):=by
 rcases h with rfl | ⟨rfl,rfl⟩
 .exact .tree (bI l)
 .exact λ_ _=>.emp 1
theorem zd.gv {v:V} {l:List Int} (h:zd v l):aH v=true/\V.cells v=[v]/\Tree v:=by
 rcases h with rfl | ⟨rfl,rfl⟩
 .exact⟨rfl,rfl,bI l⟩
 .exact⟨rfl,rfl,.emp 1⟩
structure s8 where
 n:bG
 a:V
 b:V
structure s8.Ok (x:s8):Prop where
 a:zd x.a x.n.ah
 b:zd x.b x.n.be
def iM (x:s8):List V:=[gi x.n.st,gi x.n.it.az,gi x.n.it.dot,x.a,x.b]
theorem Tf {x:s8} (c:x.Ok):(([iM x]:List (List V)).all λe=>e.length == 5 && e.all aH)=true:=by
 simp only[iM,WR,List.all_nil,c.a.gv.1,c.b.gv.1];rfl
section
variable {κ:Type} [BEq κ] [LawfulBEq κ] {kv:κ->V} {P:Program} {T:Env} {H:View} {kt et t ty:TypeId}
end
section
variable {H:View} {b:Nat} {g:ai} {a:List aQ} {ul us:V} {vs:List V} {ls:List (List aG)} {ss:Sets} {more:Bool} {L:List dM}
end
section
variable {H:View} {b:Nat} {g:ai} {a:List aQ} {ul us:V} {vs:List V} {ls:List (List aG)} {ss:Sets} {more:Bool} {L:List dM}
end
section
variable {H:View} {b:Nat} {g:ai} {a:List aQ} {ul us:V} {vs:List V} {ls:List (List aG)} {ss:Sets} {more:Bool} {L:List dM}
end
inductive jL (P:Program) (d:Nat) (xs ys:Array Value):List Field->Bool->Prop
 | nil:jL P d xs ys [] true
 | any (f:Field) (l:List Field) (c e:Bool) (a b:Value):(f.name≠ "_")->bg P (part f.type xs f.offset)=some a->bg P (part f.type ys f.offset)=some b->bg P (Op.equalIn (d+1) f.type a b)=some e->jL P d xs ys l c->jL P d xs ys (f :: l) (e && c)
theorem jL.forIn {P:Program} {d e:Nat} {xs ys:Array Value} {l:List Field} {c:Bool} (h:jL P d xs ys l c) (g:e=d+1) :
  bg P (forIn l ((none:Option Bool),()) λf _ =>
   if f.name≠ "_" then do
    let a <-part f.type xs f.offset
    let b <-part f.type ys f.offset
    let e <-Op.equalIn e f.type a b
    if (!e)=true then pure (ForInStep.done (some false,())) else pure (ForInStep.yield (none,()))
   else pure (ForInStep.yield (none,())))=some (if c=true then (none,()) else (some false,())):=by
 subst g
 induction h with
 | nil=>rfl
 | any f l c e a b i j k he _ m =>
  rw[List.forIn_cons,aV,Vu i,aV,j,V1,aV,k,V1,aV,he,V1]
  cases e with
  | false=>rfl
  | true=>exact m
theorem vG {P:Program} {d:Nat} {t:TypeId} {b:Array Field} {xs ys:Array Value} {c:Bool} (hu:P.underlying t=some (.struct b)) (f:P.stoodInHeld t=false) (h:jL P d xs ys b.toList c) :
  bg P (Op.equalIn (d+1+1) t (.agg xs) (.agg ys))=some c:=by
 rw[Op.equalIn,aV,dL hu,V1]
 have a:(bg P program)=some P:=rfl
 rw[aV,a,V1,f]
 simp only[<-Array.forIn_toList,VR,if_false]
 rw[aV,h.forIn (e:=d+1) rfl,V1]
 cases c <;> rfl
theorem uo {P:Program} {d:Nat} {t:TypeId} {k:IntKind} (hu:P.underlying t=some (.int k)) (a b:Int):bg P (Op.equalIn (d+1) t (.int k a) (.int k b))=some (a == b):=by
 simp only[Op.equalIn,aV,dL hu,V1];rfl
theorem Sy {κ:Type} [BEq κ] {P:Program} {kt:TypeId} {kv:κ->V} (val:κ->Value) {n:Array Field} (l:∀ k,de (kv k)=some (val k)) (hu:P.underlying kt=some (.struct n))
  (heq:∀ a b,bg P (Op.equal kt (val a) (val b))=some (a == b)) (c:∀ k e,bg P (Instr.checkKey e 10000 kt (val k))=some ()) (o:∀ k,sameKey (kv k) (kv k)=true):CZ P kt kv where
 same:=o
 find:=by
  have d:∀ m:cF κ,gZ (cX kv m)=some (m.map λx=>{ key:=val x.1,val:=.nilFunc,born:=x.2.2 }):=by
   intro m
   induction m with
   | nil=>rfl
   | cons x r g =>
    simp only[cX] at g
    simp[cX,gZ,l,g]
  have f:∀ (k:κ) (m:cF κ) (i:Nat),bg P (Instr.findAsking kt (val k) (m.map λx=>{ key:=val x.1,val:=.nilFunc,born:=x.2.2 }) i)=some ((gI k m).map λj=>(i+j,.nilFunc)):=by
   intro k m
   induction m with
   | nil=>intro i;rfl
   | cons x r g =>
    intro i
    simp only[VX,Instr.findAsking,aV,heq,V1,gI]
    cases hk:k == x.1 with
    | true=>simp[F5]
    | false =>
     simp only[VR,if_false,g (i+1),Option.map_map]
     congr 2
     funext j
     simp only[Function.comp]
     congr 1
     omega
  intro k e m
  have h:bg P (underlying kt)=some _:=dL hu
  simp only[mG,l,d,aV,c,V1]
  have:bg P (Instr.findKey kt (val k) (m.map λx=>{ key:=val x.1,val:=.nilFunc,born:=x.2.2 }))=some ((gI k m).map λj=>(0+j,.nilFunc)):=by
   unfold Instr.findKey
   rw[aV,h,V1]
   cases m with
   | nil=>rfl
   | cons x r=>exact f k (x :: r) 0
  rw[this]
  cases gI k m with
  | none=>rfl
  | some j=>simp
abbrev wT:=Int × Int × Int
def sP (x:wT):V:=.agg [gi x.1,gi x.2.1,gi x.2.2]
def yT (x:wT):Value:=.agg #[.int .i64 x.1,.int .i64 x.2.1,.int .i64 x.2.2]
def ir (x:bG):wT:=((x.st:Int),x.it.az,x.it.dot)
theorem D6 (x y:bG):(ir x == ir y)=rU x y:=by
 obtain⟨s,⟨r,d⟩,a,b⟩:=x
 obtain⟨f,⟨g,h⟩,i,j⟩:=y
 rw[Wv]
 simp[ir,rU]
 constructor
 .rintro⟨h1,c,e⟩;exact⟨by omega,c.symm,e.symm⟩
 .rintro⟨h1,c,e⟩;exact⟨by omega,c.symm,e.symm⟩
theorem Si (a b c d:Int):jL Tryz.prog 9997 #[.int .i64 a,.int .i64 b] #[.int .i64 c,.int .i64 d]
  [{ name:= "Rule",type:=3,offset:=0,embedded:=false,tag:= "",pkgPath:= "",byteOffset:=0 },{ name:= "Dot",type:=3,offset:=1,embedded:=false,tag:= "",pkgPath:= "",byteOffset:=8 }] ((a == c) && ((b == d) && true)) :=
 .any _ _ _ _ _ _ (by decide) (fj Tryz.underlying3 (.inr ⟨_,rfl⟩) _ _ rfl) (fj Tryz.underlying3 (.inr ⟨_,rfl⟩) _ _ rfl) (uo Tryz.underlying3 _ _)
  (.any _ _ _ _ _ _ (by decide) (fj Tryz.underlying3 (.inr ⟨_,rfl⟩) _ _ rfl) (fj Tryz.underlying3 (.inr ⟨_,rfl⟩) _ _ rfl) (uo Tryz.underlying3 _ _) .nil)
theorem Ei (a b c:Int):bg Tryz.prog (part 120 #[.int .i64 a,.int .i64 b,.int .i64 c] 1)=some (.agg #[.int .i64 b,.int .i64 c]):=by kernel_rfl
theorem KO (x y:wT):bg Tryz.prog (Op.equal 218 (yT x) (yT y))=some (x == y):=by
 rw[jW,yT,yT]
 have h:jL Tryz.prog 9998 #[.int .i64 x.1,.int .i64 x.2.1,.int .i64 x.2.2] #[.int .i64 y.1,.int .i64 y.2.1,.int .i64 y.2.2]
  [{ name:= "state",type:=3,offset:=0,embedded:=false,tag:= "",pkgPath:= "gerund/access",byteOffset:=0 },{ name:= "item",type:=120,offset:=1,embedded:=false,tag:= "",pkgPath:= "gerund/access",byteOffset:=8 }] ((x.1 == y.1) && (((x.2.1 == y.2.1) && ((x.2.2 == y.2.2) && true)) && true)) :=
  .any _ _ _ _ _ _ (by decide) (fj Tryz.underlying3 (.inr ⟨_,rfl⟩) _ _ rfl) (fj Tryz.underlying3 (.inr ⟨_,rfl⟩) _ _ rfl) (uo Tryz.underlying3 _ _)
  (.any _ _ _ _ _ _ (by decide) (Ei _ _ _) (Ei _ _ _) (vG Tryz.underlying120 (by kernel_rfl) (Si x.2.1 x.2.2 y.2.1 y.2.2)) .nil)
 rw[vG Tryz.underlying218 (by kernel_rfl) h]
 obtain⟨a,b,c⟩:=x
 obtain⟨d,e,f⟩:=y
 congr 1
 rw[Wv]
 simp
theorem LM (x:wT) (e:Bool):bg Tryz.prog (Instr.checkKey e 10000 218 (yT x))=some ():=by
 cases e <;> kernel_rfl
theorem PY:CZ Tryz.prog 218 sP :=
 Sy yT (λ_=>rfl) Tryz.underlying218 KO LM λk=>by simp[sameKey,show de (sP k)=some (yT k) from rfl,yT,Instr.sameBits]
end Gv
