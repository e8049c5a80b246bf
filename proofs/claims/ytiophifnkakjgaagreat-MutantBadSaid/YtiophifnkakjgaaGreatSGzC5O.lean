/-
  Part 15 of the proof: what the machine does and what the functions answer.
  Conditions: those that each lemma names.
-/
import Derived.Shelf.SlSortCmp.NoneTotal
import Derived.Shelf.SlicesG.Cmp
import Derived.StillTailTactics
import Derived.Test.YtiophifnkakjgaaGreatSGzC5N
set_option linter.unusedSimpArgs false
set_option linter.unusedVariables false
set_option maxRecDepth 100000
set_option maxHeartbeats 20000000
namespace Gv
noncomputable section
open Go Go.Proofs
def kU (l:List fV):List (List V):=l.map lX
def nk (s:ba):List V:=[.aZ (bf s.bz),.aZ (kU s.cF)]
def cm (a:List ba):V:=.aZ (a.map nk)
theorem X1 (l:List fV):Tree (.aZ (kU l)):=fg _ _ λx _ v a=>by simp[lX] at a;rcases a with rfl | rfl<;>exact .val _
theorem PD (s:ba):∀v∈nk s,Tree v:=by
 intro v a;simp[nk] at a
 rcases a with rfl | rfl
 .exact HB _
 .exact X1 _
theorem ot (a:List ba):Tree (cm a):=fg _ _ λx _=>PD x
abbrev rj:=V × V × ba
def fI (A:List rj):List (List V):=A.map λx=>[x.1,x.2.1]
def nG (A:List rj):List ew:=A.flatMap λx=>[(x.1,2,bf x.2.2.bz),(x.2.1,2,kU x.2.2.cF)]
theorem dy (A:List rj):(fI A).length=A.length:=by simp[fI]
theorem oZ {A:List rj} {x:rj} (a:x∈A):(x.1,2,bf x.2.2.bz)∈nG A/\(x.2.1,2,kU x.2.2.cF)∈nG A:=by
 constructor<;>exact acB.2 ⟨x,a,by simp⟩
theorem GQ {h:Heap} {u:V} {A:List rj} (f:aQ h.view u 2 (fI A)) (g:∀x∈A,aQ h.view x.1 2 (bf x.2.2.bz)/\aQ h.view x.2.1 2 (kU x.2.2.cF)):dF h u (cm (A.map λx=>x.2.2)):=by
 have c:∀i (hi:i<A.length),(fI A).getD i []=[(A[i]).1,(A[i]).2.1]/\(((A.map λx=>x.2.2).map nk).getD i [])=nk (A[i]).2.2:=λi hi=>by
  simp[fI,hi]
 refine dF.own f (by simp[fI]) (λi hi=>?_) (λi j hi b=>?_)
 .have a:i<A.length:=by simpa [fI] using hi
  rw[(c i a).1,(c i a).2];rfl
 .have a:i<A.length:=by simpa [fI] using hi
  rw[(c i a).2] at b ⊢
  rw[(c i a).1]
  have d:=g _ (aaP a)
  generalize A[i]'a=y at d b
  obtain⟨h1,k⟩:=d
  match j,b with
  | 0,_ =>
   refine dF.own h1 rfl (λi _=>rfl) (λi j hi b=>?_)
   rw[bR] at hi
   have e:(bf y.2.2.bz).getD i []=bK y.2.2.bz[i]:=by simp[bf,hi]
   rw[e] at b ⊢
   match j,b with
   | 0,_=>exact .val _
   | 1,_=>exact .val _
  | 1,_ =>
   refine dF.own k rfl (λi _=>rfl) (λi j hi b=>?_)
   simp only[kU,aaM] at hi
   have e:(kU y.2.2.cF).getD i []=lX y.2.2.cF[i]:=by simp[kU,hi]
   rw[e] at b ⊢
   match j,b with
   | 0,_=>exact .val _
   | 1,_=>exact .val _
  | n+2,b=>exact absurd b (by simp[nk])
def qF:SC:=
 ai [ai [ag [af 6 5,af 7 0,aM 8 7,aS 9 .lss 6 8],bQ 9 (.exit 0)],.block 1 (ai [ag [af 12 0,af 13 5,aK 14 2 12 13,aw 15 0 14,au 16 15,af 17 1,aV 18 135 [16,17]],aX 18 (ai [ag [af 19 5,af 4 19],.ret])]),ag [af 10 5,aH 11 .add 10 1,af 5 11]]
def sV:SF:=⟨ai [ag [aT 4 0],ai [ag [aT 5 0],bS 0 qF],ag [aT 4 (-1)],.ret],
 [.tmp 4],20⟩
theorem yu:aJ aa 72 []=some sV:=by kernel_rfl
def o8:SC:=
 ai [ai [ag [af 31 7,aw 32 0 1,au 33 32,aM 34 33,aw 35 1 1,au 36 35,aM 37 36,aS 38 .add 34 37,aS 39 .lss 31 38],bQ 39 (.exit 2)],.block 3 (ai [ag [aU 42 4 1,af 43 7,aV 44 70 [42,43],af 8 44],ag [aU 45 4 1,af 46 6,af 47 8,aV 48 71 [45,46,47],af 9 48],ai [ag [af 49 9,aM 50 49,aH 51 .eql 50 0],aX 51 (.exit 3)],ag [af 52 4,af 53 9,aV 54 72 [52,53],af 10 54],ai [ag [af 55 10,aH 56 .lss 55 0],aX 56 (ai [ag [af 57 4,aM 58 57,af 10 58],ag [af 59 4,af 60 9,((some 61),.op (.build [(.emp 1),(.emp 1)] [(0,1,(.tmp 60))])),((some 62),.op (.bO 1 2 [(.emp 1),(.emp 1)] [(0,(.tmp 61))])),fP 63 2 48 59 62,af 4 63]])],ag [af 64 4,af 65 5,af 66 4,af 67 5,aK 68 2 66 67,aw 69 1 68,au 70 69,af 71 8,af 72 10,((some 73),.op (.build [(.val (.int .i64 0)),(.val (.int .i64 0))] [(0,1,(.tmp 71)),(1,1,(.tmp 72))])),((some 74),.op (.bO 1 2 [(.val (.int .i64 0)),(.val (.int .i64 0))] [(0,(.tmp 73))])),fP 75 2 16 70 74,aK 76 2 64 65,aw 77 1 76,cz 1 77 75]]),ag [af 40 7,aH 41 .add 40 1,af 7 41]]
def pF:SC:=
 ai [ai [ag [af 18 5,af 19 4,aM 20 19,aS 21 .lss 18 20],bQ 21 (.exit 0)],.block 1 (ai [ag [aU 24 4 1,af 25 4,af 26 5,aK 27 2 25 26,aw 28 0 27,au 29 28,aV 30 69 [24,29],af 6 30],ai [ag [aT 7 0],bS 2 o8],ag [af 78 4,aM 79 78,aH 80 .gtr 79 300],aX 80 (ai [ag [bU 2 1,aT 3 5],.ret])]),ag [af 22 5,aH 23 .add 22 1,af 5 23]]
def rh:SF:=⟨ai [ag [cg 1 0,bU 2 1,aT 3 0],ai [ag [aU 11 4 1,aV 12 15 [11],cX 13 12],aX 13 (ai [ag [bU 2 1,aT 3 1],.ret])],ag [((some 14),.op (.build [(.val (.int .i64 0)),(.val (.int .i64 0))] [(0,1,(.val (.val (.int .i64 (-1)))))])),((some 15),.op (.bO 1 2 [(.val (.int .i64 0)),(.val (.int .i64 0))] [(0,(.tmp 14))])),((some 16),.op (.build [(.emp 1),(.emp 1)] [(0,1,(.tmp 15))])),((some 17),.op (.bO 1 2 [(.emp 1),(.emp 1)] [(0,(.tmp 16))])),af 4 17],ai [ag [aT 5 0],bS 0 pF],ag [af 81 4,af 2 81,aT 3 0],.ret],
 [.tmp 2,.tmp 3],82⟩
theorem xJ:aJ aa 32 [1]=some rh:=by kernel_rfl
theorem Qc:∀(a:List ba) (k:List aN) (i:Nat),(∀j s,j<i->a[j]?=some s->s.bz≠k)->(∀s,a[i]?=some s->s.bz=k->findD a k=i)/\(i=a.length->findD a k = -1):=by
 intro a k i h
 refine⟨λs h1 c=>Kx a k i s h1 c h,λe=>?_⟩
 subst e
 refine Gs a k λs d=>?_
 obtain⟨j,b,e⟩:=acj.1 d
 exact h j s b (by rw[aaH b,e])
theorem Tv (a:List ba) (g:aI a) (l:∀s∈a,aI s.bz) (k:List aN) (hk:aI k):aC aa 72 [cm a,.aZ (bf k)] (gi (findD a k)):=by
 unfold aI at g
 refine aC.val (by
  intro v f;simp at f
  rcases f with rfl | rfl
  .exact ot _
  .exact HB _) λH=>?_
 refine az.of mixed yu ?_
 simp(disch:=omega)only[↓wr,seval,wq,sV,cm]
 refine aW.up a.length (λi T H'=>(∀j s,j<i->a[j]?=some s->s.bz≠k)/\T 0=cm a/\T 1=.aZ (bf k)/\T 5=gi i) ⟨λj s h=>by omega,rfl,rfl,rfl⟩ ?_
 rintro i n T H' m ⟨c,t0,t1,t5⟩
 obtain⟨f1,f2⟩:=Qc a k i c
 simp(disch:=omega)only[↓wr,seval,wq,qF,t0,t5,cm]
 apply ao.dec<;>intro o
 .have d:a[i]?=some (a[i]'(by omega)):=aaH (by omega)
  have hm:=l _ (aaP (show i<a.length by omega))
  generalize a[i]'(by omega)=x at d hm
  simp(disch:=omega)only[↓wr,seval,wq,t0,t1,t5,cm,aaJ,d,nk]
  refine ay.pure (P6 x.bz k hm hk) ?_
  simp(disch:=omega)only[↓wr,seval,wq]
  apply ao.split<;>intro e
  .simp(disch:=omega)only[↓wr,seval,wq,t5]
   rw[f1 x d (by simpa using e)]
  .simp(disch:=omega)only[↓wr,seval,wq,t5]
   refine aE m (by omega) ⟨λj s p b=>?_,t0,t1,rfl⟩
   rcases abg j i with h | h
   .exact c j s h b
   .have:j=i:=by omega
    subst this
    rw[d] at b;simp at b;subst b
    simpa using e
 .simp(disch:=omega)only[↓wr,seval,wq]
  rw[f2 (by omega)]
theorem PZ {g:aj} (a:g.c5) {s:ba} (h:cJ s.bz/\s.bz≠[]/\∀x∈s.bz,cT g x):aI s.bz:=by
 have:=ll a h.1 h.2.2;unfold aI;omega
theorem cq.sts {H:View} {u:V} {A:List rj} {L:List ew} (h:bw H ((u,2,fI A)::L)) (a:∀x∈nG A,x∈L):cq H u (cm (A.map λx=>x.2.2)):=by
 rintro c rfl
 exact(GQ h.head λx b=>⟨h.1 _ (aa6 _ (a _ (oZ b).1)),h.1 _ (aa6 _ (a _ (oZ b).2))⟩).fr
theorem cq.lr {H:View} {u:V} {l:List aN} (h:aQ H u 2 (bf l)):cq H u (.aZ (bf l)):=
 cq.own h λe he v a=>by
  obtain⟨x,_,rfl⟩:=aa4.1 he
  simp[bK] at a;rcases a with rfl | rfl<;>exact .val _
theorem lL {h:Heap} {u v:V} {e:Int} (h1:dF h u v):dF h (.bb [u,gi e]) (.bb [v,gi e]):=.bb _ _ rfl λi hi=>by
 match i,hi with
 | 0,_=>exact h1
 | 1,_=>exact .val _
theorem z8 {α:Type} {l:List α} {i:Nat} (h:i<l.length):∃a x b,l=a++x::b/\a.length=i/\l[i]?=some x:=
 ⟨l.take i,l[i],l.drop (i+1),by rw[<-abt h,acJ],by simp;omega,aaH h⟩
theorem FC {α:Type} (a:List α) (x:α) (b:List α) (f:α->α):(a++x::b).modify a.length f=a++f x::b:=by
 induction a with
 | nil=>rfl
 | cons y a c=>simp only[abl,aaS,List.modify_succ_cons,c]
theorem C1 {g:aj} (h:isRed g=true):bt g=true:=by
 unfold isRed at h
 simp only[aaR,abJ,aaX] at h
 refine ack λa=>?_
 have h1:=h.1
 unfold iO at h1
 simp[a] at h1
theorem uy {g:aj} (h:isRed g=true):g.c5:=bF (C1 h)
theorem Zx {α:Type} {a b c:α} {l:List α} : (a::b::c::l).Perm (c::b::a::l):=(List.Perm.swap _ _ _).trans (((List.Perm.swap _ _ _).cons _).trans (List.Perm.swap _ _ _))
theorem YM {α:Type} {e u p r:α} {S:List α} : (e::u::p::r::S).Perm (u::r::(S++[p,e])):=
 (List.Perm.swap _ _ _).trans (.cons _ (Zx.trans (.cons _ (List.perm_append_comm (l₁:=[p,e]) (l₂:=S)))))
theorem Re {α:Type} {u r k e:α} {b c:List α} : (u::r::(b++k::e::c)).Perm (e::u::r::(b++k::c)):=by
 have h:(b++k::e::c).Perm (e::(b++k::c)):=by
  have:=acR (a:=e) (l₁:=b++[k]) (l₂:=c)
  simpa using this
 exact(((h.cons r).cons u).trans ((List.Perm.swap _ _ _).cons u)).trans (List.Perm.swap _ _ _)
theorem CT (A:List rj) (x:rj) (B:List rj):nG (A++x::B)=nG A++(x.1,2,bf x.2.2.bz)::(x.2.1,2,kU x.2.2.cF)::nG B:=by simp[nG]
def ZD (g:aj) (m:Nat) (T:Env) (H:View):Prop:=∃(at_:Nat) (u:V) (A:List rj) (out:List ba),m+at_=302/\out=A.map (λx=>x.2.2)/\bw H ((u,2,fI A)::nG A)/\eo g at_ 0 out/\1<=out.length/\out.length<=300/\fR g m at_ out=cD g/\at_<=out.length /\
 T 1=.aP (ak g) 0/\T 4=u/\T 5=gi at_
theorem Qi (g:aj) (hg:g.Ok):cd aa 32 [.agg (ak g)] (.bb [cm (cD g).1,gi (cD g).2]):=by
 refine cd.of (dR g) ?_
 have Y:=Sz g hg
 refine az.of mixed xJ ?_
 simp only[ak,encS] at Y
 simp(disch:=omega)only[↓wr,seval,wq,rh,ak,encS]
 refine ay.pure Y ?_
 simp(disch:=omega)only[↓wr,seval,wq]
 apply ao.split<;>intro hr
 rotate_left
 .simp(disch:=omega)only[↓wr,seval,wq]
  intro h' _
  have e:cD g=([],1):=by unfold cD;rw[aaI (by rw[hr];simp)]
  rw[e]
  exact lL (.emp _)
 have v:g.c5:=uy hr
 have e0:fR g 302 0 eu=cD g:=by unfold cD;rw[aaL hr]
 have hT:=v.ax;have hN:=v.av
 simp(disch:=omega)only[↓wr,seval,wq]
 intro O q2 K
 have o0:bw (((View.set (λ_=>cr.dead) O (.arr 2 [[gi (-1),gi 0]])).set q2 (.arr 2 [[.sl O 0 1 2,.emp 1]]))) ((.sl q2 0 1 2,2,fI [(.sl O 0 1 2,.emp 1,⟨[⟨-1,0⟩],[]⟩)])::nG [(.sl O 0 1 2,.emp 1,⟨[⟨-1,0⟩],[]⟩)]):=
  (((bw.nil.emp (k:=1) (sz:=2)).new (n:=O) rfl 2 [[gi (-1),gi 0]]).new (by simpa [View.set] using K) 2 [[.sl O 0 1 2,.emp 1]])
 generalize (View.set (λ_=>cr.dead) O (.arr 2 [[gi (-1),gi 0]])).set q2 (.arr 2 [[.sl O 0 1 2,.emp 1]])=H0 at o0 ⊢
 refine aW.intro (ZD g) 302 ⟨0,_,_,eu,rfl,rfl,o0,mF,aaQ _,by simp[eu],e0,by omega,rfl,rfl,rfl⟩ ?_
 clear o0 K
 rintro m T H ⟨at_,u,A,out,hm,rfl,j,hI,h1,P,Q,hle,t1,t4,t5⟩
 have w:cE u=some A.length:=by rw[j.head.len,dy]
 simp only[aaM] at h1 P hle
 simp(disch:=omega)only[↓wr,seval,wq,pF,t4,t5,w]
 apply ao.dec<;>intro hc
 rotate_left
 .simp(disch:=omega)only[↓wr,seval,wq,t4]
  have e1:cD g=(A.map (λx=>x.2.2),0):=by
   rw[<-Q]
   cases m with
   | zero=>rfl
   | succ m=>rw[fR,aaI (by simp;omega)]
  rw[e1]
  rintro h' rfl
  exact lL (GQ j.head λx L=>⟨j.1 _ (aa6 _ (oZ L).1),j.1 _ (aa6 _ (oZ L).2)⟩)
 obtain⟨m,rfl⟩:∃q,m=q+1:=⟨m-1,by omega⟩
 have z:at_<A.length:=by omega
 obtain⟨a,x,d,rfl,p,L⟩:=z8 z
 have U:x∈a++x::d:=by simp
 obtain⟨Z,b1,C⟩:=hI.bz x.2.2 (List.mem_map_of_mem U)
 have b2:=ll v Z C
 have hh:aQ H u 2 (fI (a++x::d)):=j.head
 obtain⟨id,hu,M⟩:=hh.sl (by rw[dy];omega)
 have D:(fI (a++x::d)).getD at_ []=[x.1,x.2.1]:=by simp[fI,<-p]
 have ab:dp g ((List.map (λx=>x.2.2) (a++x::d)).getD at_ bY).bz=dp g x.2.2.bz:=by
  rw[aaG,aaJ,L];rfl
 have R:=λn hn=>eo.row (hI.nQ v (show at_<((a++x::d).map λx=>x.2.2).length by simpa using z)).1 (hI.nQ v (show at_<((a++x::d).map λx=>x.2.2).length by simpa using z)).2 hI n hn
 rw[fR,aaL (by simpa using z),xq] at Q
 rw[ab] at Q R
 have ae:=uK g x.2.2.bz
 have al:∀y∈dp g x.2.2.bz,cT g y:=λy hy=>((gO v C).1 hy).has C
 rw[dy] at hu
 simp(disch:=omega)only[↓wr,seval,wq,t1,t4,t5,hu,M,D,ak,encS]
 refine⟨by omega,by rw[dy];omega,?_⟩
 refine ay.cw ((L7 g v x.2.2.bz C (by omega) x.1 H (j.1 _ (aa6 _ (oZ U).1))).mono ?_)
 rintro r H2 ⟨or,fr⟩
 have o2:=j.G3 or fr
 clear or fr M D ab L
 generalize dp g x.2.2.bz=cl at *
 generalize h:(a++x::d).map (λx=>x.2.2)=E at *
 have an:E.length=(a++x::d).length:=by rw[<-h];simp
 simp(disch:=omega)only[↓wr,seval,wq]
 refine aW.up (g.ax.length+g.av.length) (λi T H'=>∃(u:V) (A:List rj),A.map (λx=>x.2.2)=(List.range i).foldl (dw g cl at_) E/\bw H' ((r,2,bf cl)::(u,2,fI A)::nG A)/\T 1=.aP (ak g) 0/\T 4=u/\T 5=gi at_/\T 6=r/\T 7=gi i)
  ⟨u,_,h,o2,t1,by rw[<-hu];exact t4,t5,rfl,rfl⟩ ?_
 rw[<-an] at h1 P hle z
 clear o2 j hh hu t1 t4 t5 w h U an hc Z b1 C b2 p
 clear u H2 H T id a x d
 rintro i k T H' hk ⟨u,A,hA,j,t1,t4,t5,t6,t7⟩
 obtain⟨iI,aq,ar⟩:=R i (by omega)
 rw[<-hA] at iI aq ar
 rw[aaM] at aq ar
 have w:cE u=some A.length:=by rw[j.tail.head.len,dy]
 have cb:=ll v ae al
 simp(disch:=omega)only[↓wr,seval,wq,o8,t1,t7,ak,encS]
 apply ao.dec<;>intro hc
 rotate_left
 .have hi:i=g.ax.length+g.av.length:=by omega
  subst hi
  rw[<-hA] at Q
  simp(disch:=omega)only[↓wr,seval,wq,t4,t5,w]
  apply ao.dec<;>intro h3
  .simp(disch:=omega)only[↓wr,seval,wq]
   intro h' _
   rw[aaL (by rw[aaM];omega)] at Q
   rw[<-Q]
   exact lL (.emp _)
  .simp(disch:=omega)only[↓wr,seval,wq,t4,t5]
   rw[aaI (by rw[aaM];omega)] at Q
   exact⟨m,by omega,at_+1,u,A,_,by omega,rfl,j.tail,iI.next,by rw[aaM];omega,by rw[aaM];omega,Q,by rw[aaM];omega,t1,t4,rfl⟩
 have a1:i<g.ax.length+g.av.length:=by omega
 have S:=MX g v i a1
 have cc:=Gu v a1
 simp only[ak,encS] at S
 simp(disch:=omega)only[↓wr,seval,wq,t1,t7,ak,encS]
 refine ay.pure S ?_
 simp(disch:=omega)only[↓wr,seval,wq,t1,t6,ak,encS]
 refine ay.cw ((Pw g v cl ae al (bg g i) r H' j.head).mono ?_)
 rintro J H9 ⟨or,fr⟩
 have o9:=j.G3 or fr
 have cf:=vH (g:=g) (l:=cl) (s:=bg g i)
 have b3:cE J=some (bu g cl (bg g i)).length:=by rw[or.len,bR]
 have F:(List.range (i+1)).foldl (dw g cl at_) E=dw g cl at_ (A.map λx=>x.2.2) i:=by rw[ab9,ace,<-hA];rfl
 simp(disch:=omega)only[↓wr,seval,wq,b3]
 apply ao.eq<;>intro he
 .have a6:bu g cl (bg g i)=[]:=ab3.1 (by omega)
  simp(disch:=omega)only[↓wr,seval,wq,t4,t5,t7]
  exact aE hk (by omega) ⟨u,A,by rw[F,dw,aaL a6],o9.tail,t1,t4,t5,t6,rfl⟩
 have a7:bu g cl (bg g i)≠[]:=λe=>he (by rw[e];rfl)
 simp(disch:=omega)only[↓wr,seval,wq,t4]
 have W:=Tv (A.map λx=>x.2.2) (by unfold aI;rw[aaM];omega) (λs hs=>PZ v (iI.bz s hs)) (bu g cl (bg g i)) (by unfold aI;omega)
 refine ay.rY W (by kernel_rfl) (.val _) ⟨cq.sts o9.tail.tail (λx L=>L),cq.lr or,trivial⟩ ?_
 have b4:=zJ (A.map λx=>x.2.2) (bu g cl (bg g i))
 have ch:=vg (A.map λx=>x.2.2) (bu g cl (bg g i))
 rw[aaM] at b4
 have a8:at_<A.length:=by omega
 simp(disch:=omega)only[↓wr,seval,wq]
 obtain⟨a,x,d,G,p,L⟩:=z8 a8
 have cj:x.2.2.cF.length<=40:=(iI.cF at_ x.2.2 (by rw[aaJ,L];rfl)).1
 have D:∀B,(fI (a++x::B)).getD at_ []=[x.1,x.2.1]:=λB=>by simp[fI,<-p]
 have bd:∀(B:List rj) (c:fV),((a++x::B).map λx=>x.2.2).modify at_ (λs=>(⟨s.bz,s.cF++[c]⟩:ba))=(a++(x.1,x.2.1,(⟨x.2.2.bz,x.2.2.cF++[c]⟩:ba))::B).map λx=>x.2.2:=λB c=>by
  rw[aa8,aba,<-p,<-aaM (f:=λx:rj=>x.2.2),FC,aa8,aba]
 apply ao.dec<;>intro I
 simp(disch:=omega)only[↓wr,seval,wq,t4,w,or.cells,or.dU]
 intro q hq
 simp(disch:=omega)only[↓wr,seval,wq,bE]
 have b5:=(o9.fresh (o:=.arr 2 [[J,.emp 1]]) hq).at 2 (by simp)
 refine dC b5 (by simp[or.dU,CM]) (by unfold aF;rw[dy];simp;omega) (by unfold aF;rw[dy];simp;omega) ?_
 intro u2 X bl _
 simp only[abV,abW] at bl
 have b7:=(bl.emp (k:=1) (sz:=2)).perm YM
 have t:dw g cl at_ (A.map λx=>x.2.2) i=((a++x::(d++[(J,.emp 1,(⟨bu g cl (bg g i),[]⟩:ba))])).map λx=>x.2.2).modify at_ (λs=>(⟨s.bz,s.cF++[⟨bg g i,(A.length:Int)⟩]⟩:ba)):=by
  rw[dw,aaI a7,aaL I,aaM]
  congr 1
  rw[G];simp
 have b:bw X ((u2,2,fI (a++x::(d++[(J,.emp 1,(⟨bu g cl (bg g i),[]⟩:ba))])))::(r,2,bf cl)::nG (a++x::(d++[(J,.emp 1,(⟨bu g cl (bg g i),[]⟩:ba))]))):=by
  have e1:fI (a++x::(d++[(J,.emp 1,(⟨bu g cl (bg g i),[]⟩:ba))]))=fI A++[[J,.emp 1]]:=by rw[G];simp[fI]
  have e2:nG (a++x::(d++[(J,.emp 1,(⟨bu g cl (bg g i),[]⟩:ba))]))=nG A++[(J,2,bf (bu g cl (bg g i))),(.emp 1,2,[])]:=by rw[G];simp[nG];rfl
  rw[e1,e2]
  exact b7
 generalize (d++[(J,V.emp 1,(⟨bu g cl (bg g i),[]⟩:ba))])=B at t b
 generalize (A.length:Int)=to at t ⊢
 rotate_left
 have t:dw g cl at_ (A.map λx=>x.2.2) i=((a++x::d).map λx=>x.2.2).modify at_ (λs=>(⟨s.bz,s.cF++[⟨bg g i,findD (A.map λx=>x.2.2) (bu g cl (bg g i))⟩]⟩:ba)):=by
  rw[dw,aaI a7,aaI I,<-G]
 have b:=o9.tail.perm (.swap _ _ _)
 clear or fr
 generalize H9=X at o9 b ⊢
 obtain⟨u2,b8⟩:∃y,y=u:=⟨_,rfl⟩
 rw[<-b8] at b t4
 rw[G] at b
 generalize findD (A.map λx=>x.2.2) (bu g cl (bg g i))=to at t ⊢
 generalize d=B at t b
 all_goals (
  obtain⟨id,hu,M⟩:=(show aQ X u2 2 (fI (a++x::B)) from b.head).sl (by rw[dy];simp;omega)
  rw[dy] at hu
  rw[CT] at b
  simp(disch:=omega)only[↓wr,seval,wq,t4,t5,hu,M,D B]
  refine⟨by simp;omega,by rw[dy];simp;omega,?_⟩
  intro q2 K
  simp(disch:=omega)only[↓wr,seval,wq,bE]
  refine dC ((b.perm Re).fresh K) (by simp[aL]) (by unfold aF;simp[kU];omega) (by unfold aF;simp[kU];omega) ?_
  intro e2 b9 N _
  have bn:b9 id=.arr 2 (fI (a++x::B)):=((N.own 1 rfl).live (by rw[hu];rfl)).1
  simp(disch:=omega)only[↓wr,seval,wq,t4,t5,t7,hu,bn,D B,N.head.cells,N.head.dU]
  have br:(fI (a++x::B)).set at_ [x.1,e2]=fI (a++(x.1,e2,(⟨x.2.2.bz,x.2.2.cF++[⟨bg g i,to⟩]⟩:ba))::B):=by
   rw[<-p];simp[fI]
  have ca:kU (x.2.2.cF++[⟨bg g i,to⟩])=kU x.2.2.cF++[[gi (bg g i),gi to]]:=by simp[kU,lX]
  have bs:=N.perm (.swap _ _ _)
  rw[hu] at bs
  have bx:=((bs.put (es':=fI (a++(x.1,e2,(⟨x.2.2.bz,x.2.2.cF++[⟨bg g i,to⟩]⟩:ba))::B)) (by rw[dy,dy];simp) (by rw[dy])).perm (.swap _ _ _)).perm Re.symm
  rw[<-ca] at bx
  have b0:=bx.perm (.swap _ _ _)
  rw[<-hu] at b0
  rw[br]
  refine⟨by simp;omega,by rw[dy];simp;omega,aE hk (by omega) ⟨u2,_,?_,by rw[CT];exact b0,t1,by first | rfl | exact t4 | exact hu.symm,t5,t6,rfl⟩⟩
  rw[F,t,bd];simp)
def ue:SF:=⟨ai [ag [cg 2 0,cg 3 1,bh 4 false],.region true [⟨none,[aU 5 4 2,aV 6 50 [5],af 7 6]⟩,⟨(some (7,true)),[aw 8 0 3,au 9 8,aH 10 .geq 9 (-1)]⟩,⟨none,[dQ 11 7 10,af 12 11]⟩,⟨(some (12,true)),[aw 13 0 3,au 14 13,aw 15 2 2,au 16 15,aM 17 16,aS 18 .lss 14 17]⟩,⟨none,[dQ 19 12 18,af 20 19]⟩,⟨(some (20,true)),[aw 21 1 3,au 22 21,aH 23 .geq 22 0]⟩,⟨none,[dQ 24 20 23,af 25 24]⟩,⟨(some (25,true)),[aw 26 1 3,au 27 26,aU 28 4 2,aw 29 0 3,au 30 29,aV 31 199 [28,30],aM 32 31,aS 33 .leq 27 32]⟩,⟨none,[dQ 34 25 33,af 4 34]⟩],.ret],
 [.tmp 4],35⟩
theorem Ad:aJ aa 166 [2,3]=some ue:=by kernel_rfl
def td:SF:=⟨ai [ag [cg 2 0,cg 3 1,aT 4 0,bh 5 false],ai [ag [aU 6 4 2,aU 7 2 3,aV 8 166 [6,7],cX 9 8],aX 9 (ai [ag [aT 4 0,bh 5 false],.ret])],ag [aU 10 4 2,aU 11 2 3,aV 12 134 [10,11],du 13 0 12,du 14 1 12,af 4 13,af 5 14],.ret],
 [.tmp 4,.tmp 5],15⟩
theorem yG:aJ aa 100 [2,3]=some td:=by kernel_rfl
def lj:SC:=
 ai [ai [.region false [⟨none,[af 26 11,af 27 0,af 28 1,aK 29 2 27 28,aw 30 1 29,au 31 30,aM 32 31,aS 33 .lss 26 32,af 34 33]⟩,⟨(some (34,true)),[af 35 10,cX 36 35]⟩,⟨none,[dQ 37 34 36]⟩],bQ 37 (.exit 2)],.block 3 (ai [ag [af 40 0,af 41 1,aK 42 2 40 41,aw 43 1 42,au 44 43,af 45 11,aK 46 2 44 45,aw 47 0 46,au 48 47,af 49 2,af 50 8,aK 51 1 49 50,au 52 51,aS 53 .eql 48 52],aX 53 (ag [af 54 0,af 55 1,aK 56 2 54 55,aw 57 1 56,au 58 57,af 59 11,aK 60 2 58 59,aw 61 1 60,au 62 61,af 9 62,bh 10 true])]),ag [af 38 11,aH 39 .add 38 1,af 11 39]]
def pW:SC:=
 ai [ai [ag [af 20 8,af 21 2,aM 22 21,aS 23 .lss 20 22],bQ 23 (.exit 0)],.block 1 (ai [ag [aT 9 (-1),bh 10 false],ai [ag [aT 11 0],bS 2 lj],ai [.region false [⟨none,[af 63 9,aH 64 .lss 63 0,af 65 64]⟩,⟨(some (65,false)),[af 66 9,af 67 0,aM 68 67,aS 69 .geq 66 68]⟩,⟨none,[cG 70 65 69]⟩],aX 70 (ai [ag [aT 6 0,bh 7 false],.ret])],ag [af 71 9,af 1 71]]),ag [af 24 8,aH 25 .add 24 1,af 8 25]]
def tI:SF:=⟨ai [ag [aT 6 0,bh 7 false],ai [.region false [⟨none,[af 12 1,aH 13 .lss 12 0,af 14 13]⟩,⟨(some (14,false)),[af 15 1,af 16 0,aM 17 16,aS 18 .geq 15 17]⟩,⟨none,[cG 19 14 18]⟩],aX 19 (ai [ag [aT 6 0,bh 7 false],.ret])],ai [ag [aT 8 0],bS 0 pW],ag [af 72 1,af 6 72,bh 7 true],.ret],
 [.tmp 6,.tmp 7],73⟩
theorem yp:aJ aa 33 []=some tI:=by kernel_rfl
instance (g:aj) (x:aN):Decidable (cT g x):=by unfold cT;infer_instance
def ta (g:aj) (x:aN):Bool:=bt g&&decide (cT g x)
theorem Nb (g:aj) (x:aN):∀v∈[V.agg (ak g),.agg (bK x)],Tree v:=by
 intro v a;simp at a
 rcases a with rfl | rfl
 .exact bW _ (cB g)
 .exact bW _ λv a=>by simp[bK] at a;rcases a with rfl | rfl<;>exact .val _
theorem UQ (g:aj) (f:g.Ok) (x:aN) (i:bp x.aB/\bp x.dot):aC aa 166 [.agg (ak g),.agg (bK x)] (gb (ta g x)):=by
 refine aC.val (Nb g x) λH=>?_
 have a:=jQ g f
 obtain⟨c,d⟩:=i
 unfold bp at c d
 refine az.of mixed Ad ?_
 simp only[ak,encS] at a
 simp(disch:=omega)only[↓wr,seval,wq,ue,ak,encS,bK]
 refine ay.pure a ?_
 have bad:¬ cT g x->gb false=gb (ta g x):=λh=>by unfold ta;rw[decide_eq_false h,ach]
 simp(disch:=omega)only[↓wr,seval,wq]
 apply ao.split<;>intro hr
 rotate_left
 .simp(disch:=omega)only[↓wr,seval,wq]
  unfold ta;rw[hr];rfl
 have e:=bF hr
 simp(disch:=omega)only[↓wr,seval,wq]
 apply ao.dec<;>intro h1
 rotate_left
 .simp(disch:=omega)only[↓wr,seval,wq]
  exact bad λh=>by have:=h.1;omega
 simp(disch:=omega)only[↓wr,seval,wq]
 apply ao.dec<;>intro j
 rotate_left
 .simp(disch:=omega)only[↓wr,seval,wq]
  exact bad λh=>by have:=h.1;omega
 simp(disch:=omega)only[↓wr,seval,wq]
 apply ao.dec<;>intro k
 rotate_left
 .simp(disch:=omega)only[↓wr,seval,wq]
  exact bad λh=>by have:=h.2;omega
 have b:=FE g (j9 e) x.aB ⟨by omega,by omega⟩
 have l:=dY e (r:=x.aB) ⟨by omega,by omega⟩
 simp only[ak,encS,encI] at b
 simp(disch:=omega)only[↓wr,seval,wq]
 refine ay.pure b ?_
 simp(disch:=omega)only[↓wr,seval,wq]
 congr 2
 unfold ta
 rw[hr,abu]
 congr 1
 unfold cT
 simp only[eq_iff_iff]
 omega
def Jz (g:aj) (x:aN):Int × Bool:=if ta g x=true then bI g x else (0,false)
theorem Fv {g:aj} {x:aN} : ta g x=true↔bt g=true/\cT g x:=by simp[ta]
theorem Ty (g:aj) (c:g.Ok) (x:aN) (d:bp x.aB/\bp x.dot):aC aa 100 [.agg (ak g),.agg (bK x)] (.bb [gi (Jz g x).1,gb (Jz g x).2]):=by
 have a:=UQ g c x d
 refine aC.tree (Nb g x) (wW (.val _) (.val _)) λH=>?_
 refine az.of mixed yG ?_
 simp only[ak,encS,bK] at a
 simp(disch:=omega)only[↓wr,seval,wq,td,ak,encS,bK]
 refine ay.pure a ?_
 unfold Jz
 simp(disch:=omega)only[↓wr,seval,wq]
 apply ao.split<;>intro h
 .obtain⟨h1,e⟩:=Fv.1 h
  have b:=Ed g (bF h1) x e
  simp only[ak,encS,bK] at b
  simp(disch:=omega)only[↓wr,seval,wq]
  refine ay.pure b ?_
  simp(disch:=omega)only[↓wr,seval,wq]
  rw[aaL h]
 .simp(disch:=omega)only[↓wr,seval,wq]
  rw[h];simp
theorem PV:∀(l:List fV) (s:Int) (k:Nat) (e:fV),l[k]?=some e->ir (l.drop k) s=if e.sym=s then e.to else ir (l.drop (k+1)) s:=by
 intro l s k e h
 obtain⟨hk,he⟩:=aaO.1 h
 rw[abt hk,he,ir]
theorem S8 (a:List ba) (u:aI a) (he:∀s∈a,aI s.cF/\∀e∈s.cF,bp e.sym/\bp e.to) (fr:Int) (syms:List Int) (w:aI syms):aC aa 33 [cm a,gi fr,encI syms] (.bb [gi (oI a fr syms).1,gb (oI a fr syms).2]):=by
 unfold aI at u w
 refine aC.tree (by
  intro v q;simp at q
  rcases q with rfl | rfl | rfl
  .exact ot _
  .exact .val _
  .exact bC _) (wW (.val _) (.val _)) λH=>?_
 refine az.of mixed yp ?_
 unfold oI
 simp(disch:=omega)only[↓wr,seval,wq,tI,cm,encI]
 apply ao.dec<;>intro h1
 .simp(disch:=omega)only[↓wr,seval,wq]
  rw[aaL (by omega)]
 simp(disch:=omega)only[↓wr,seval,wq]
 apply ao.dec<;>intro y
 .simp(disch:=omega)only[↓wr,seval,wq]
  rw[aaL (by omega)]
 rw[aaI (by omega)]
 simp(disch:=omega)only[↓wr,seval,wq]
 refine aW.up syms.length (λi T H'=>∃at_:Int,0<=at_/\at_<a.length/\jT a at_ (syms.drop i)=jT a fr syms/\T 0=cm a/\T 1=gi at_/\T 2=encI syms/\T 8=gi i) ⟨fr,by omega,by omega,rfl,rfl,rfl,rfl,rfl⟩ ?_
 rintro i k T H' hk ⟨at_,C,D,hw,t0,t1,t2,t8⟩
 simp(disch:=omega)only[↓wr,seval,wq,pW,t2,t8,encI]
 apply ao.dec<;>intro z
 .have r:syms[i]?=some (syms[i]'(by omega)):=aaH (by omega)
  rw[abt (show i<syms.length by omega)] at hw
  generalize syms[i]'(by omega)=x at r hw
  have d:a[at_.toNat]?=some (a.getD at_.toNat bY):=getD_some (by omega)
  obtain⟨f,l⟩:=he _ (aaV d)
  rw[jT] at hw
  generalize a.getD at_.toNat bY=S at d f l hw
  unfold aI at f
  simp(disch:=omega)only[↓wr,seval,wq]
  refine aW.up S.cF.length (λj T H'=>∃(to:Int) (ok:Bool),(ok=true->to=ir S.cF x)/\(ok=false->to = -1/\ir (S.cF.drop j) x=ir S.cF x)/\T 0=cm a/\T 1=gi at_/\T 2=encI syms/\T 8=gi i/\T 9=gi to/\T 10=gb ok/\T 11=gi j)
   ⟨-1,false,by simp,λ_=>⟨rfl,rfl⟩,t0,t1,t2,t8,rfl,rfl,rfl⟩ ?_
  clear t0 t1 t2 t8
  rintro j k2 F G g ⟨to,ok,A,B,t0,t1,t2,t8,t9,t10,t11⟩
  cases ok with
  | true =>
   have b:=A rfl
   simp(disch:=omega)only[↓wr,seval,wq,lj,t0,t1,t11,cm,aaJ,d,nk,kU]
   apply ao.dec<;>intro _
   all_goals (
    simp(disch:=omega)only[↓wr,seval,wq,t1,t8,t9,t10,b]
    apply ao.dec<;>intro m
    .simp(disch:=omega)only[↓wr,seval,wq]
     rw[<-hw,aaI (by omega)]
    .simp(disch:=omega)only[↓wr,seval,wq,t0,t9,cm,b]
     apply ao.dec<;>intro n
     .simp(disch:=omega)only[↓wr,seval,wq]
      rw[<-hw,aaI (by omega)]
     .simp(disch:=omega)only[↓wr,seval,wq,t8,t9,b]
      rw[aaL ⟨by omega,by omega⟩] at hw
      exact aE hk (by omega) ⟨_,by omega,by omega,hw,t0,rfl,t2,rfl⟩)
  | false =>
   obtain⟨t,c⟩:=B rfl
   simp(disch:=omega)only[↓wr,seval,wq,lj,t0,t1,t11,cm,aaJ,d,nk,kU]
   apply ao.dec<;>intro o
   .have h:S.cF[j]?=some (S.cF[j]'(by omega)):=aaH (by omega)
    generalize S.cF[j]'(by omega)=E at h
    rw[PV _ _ _ _ h] at c
    simp(disch:=omega)only[↓wr,seval,wq,t0,t1,t2,t8,t10,t11,cm,encI,aaJ,d,r,nk,kU,h,lX]
    apply ao.eq<;>intro p
    .rw[aaL p] at c
     simp(disch:=omega)only[↓wr,seval,wq,t0,t1,t8,t11,cm,aaJ,d,nk,kU,h,lX]
     exact aE g (by omega) ⟨E.to,true,λ_=>c,by simp,t0,t1,t2,t8,rfl,rfl,rfl⟩
    .rw[aaI p] at c
     simp(disch:=omega)only[↓wr,seval,wq,t1,t8,t9,t11]
     exact aE g (by omega) ⟨to,false,by simp,λ_=>⟨t,c⟩,t0,t1,t2,t8,t9,t10,rfl⟩
   .rw[aa7 (by omega),ir,<-t] at c
    have b:=c
    simp(disch:=omega)only[↓wr,seval,wq,t1,t8,t9,b]
    apply ao.dec<;>intro m
    .simp(disch:=omega)only[↓wr,seval,wq]
     rw[<-hw,aaI (by omega)]
    .simp(disch:=omega)only[↓wr,seval,wq,t0,t9,cm,b]
     apply ao.dec<;>intro n
     .simp(disch:=omega)only[↓wr,seval,wq]
      rw[<-hw,aaI (by omega)]
     .simp(disch:=omega)only[↓wr,seval,wq,t8,t9,b]
      rw[aaL ⟨by omega,by omega⟩] at hw
      exact aE hk (by omega) ⟨_,by omega,by omega,hw,t0,rfl,t2,rfl⟩
 .simp(disch:=omega)only[↓wr,seval,wq,t1]
  rw[aa7 (by omega),jT] at hw
  rw[<-hw]
open Go Go.Proofs Go.Shelf Go.RowKit Go.Sort
theorem bZ.cut {P:Program} {f:FuncId} {vs:List V} {h g:Heap} {r:V} (n:bZ P f vs h r g) {id sz:Nat} {es rest:List (List V)} (l:g.view id=.arr sz (es++rest)):bZ P f vs h r (g.set id (.arr sz es)):=by
 have m:id<g.length:=fa (by rw[l];simp)
 refine⟨by simpa using n.1,λZ μ F w xs hr z p=>(n.2 Z μ F w xs hr z (by simpa using p)).mono ?_⟩
 rintro e w' ⟨x,A,μ',rfl,B,a,hex,q⟩
 refine⟨x,A,μ',rfl,B,?_,hex,by simpa using q⟩
 have t:∀k,cat (g.set id (.arr sz es)) F k=if k=id then .arr sz es else cat g F k:=λk=>by
  simp only[cat,acm]
  by_cases hk:k<g.length
  .rw[aaL hk,aaL hk,gC m];rfl
  .rw[aaI hk,aaI hk,aaI (by omega)]
 have u:cat g F id=.arr sz (es++rest):=by simp only[cat];rw[aaL m,l]
 refine⟨λk=>?_,λi j b o s C D v h1 E=>?_,a.lt,a.df,a.ix⟩
 .rw[t]
  split
  .rename_i hk
   subst hk
   have d:=a.obj k
   rw[u] at d
   intro b o0 s hm
   obtain⟨G,⟨c,e,f,n,p,H⟩,I,J⟩:=d b o0 s hm
   have y:∀i,i<es.length->(es++rest).getD i []=es.getD i []:=λi hi=>by
    simp[abf hi]
   refine⟨G,⟨c,e,f,n,p,?_⟩,λi hi=>?_,λi j hi K=>?_⟩
   .rw[aa5,abq] at H;omega
   .rw[<-y i hi];exact I i (by rw[aa5];omega)
   .rw[<-y i hi];exact J i j (by rw[aa5];omega) K
  .exact a.obj k
 .have d:=a.inj i j b o s C D v h1 E
  rw[t,t]
  rcases d with d | d
  .left
   rw[aaI (λe=>by rw[e,u] at d;simp at d)];exact d
  .right
   rw[aaI (λe=>by rw[e,u] at d;simp at d)];exact d
theorem az.cut {P:Program} {f:FuncId} {vs:List V} {H:View} {K c:V->View->Prop} (h:az P f vs H K) (hk:∀r H',K r H'->c r H'∨∃id sz es rest,H' id=.arr sz (es++rest)/\c r (H'.set id (.arr sz es))):az P f vs H c:=by
 refine⟨h.1,λm n=>?_⟩
 obtain⟨r,d,j,l,o⟩:=h.2 m n
 rcases hk r _ o with h1 | ⟨id,sz,es,rest,a,h1⟩
 .exact⟨r,d,j,l,h1⟩
 .have b:id<d.length:=fa (by rw[a];simp)
  refine⟨r,d.set id (.arr sz es),j.cut a,λk g p=>?_,by rw[gC b];exact h1⟩
  have i:=l k g p
  rw[gC b]
  simp only[View.set]
  rw[aaI (λe=>by rw[e,a] at i;simp at i)]
  exact i
instance:Inhabited aN:=⟨⟨0,0⟩⟩
def jL (x:aN):List Value:=[.int .i64 x.aB,.int .i64 x.dot]
def p9 (a b:aN):Int:=if Lib.compareInt a.aB b.aB≠0 then Lib.compareInt a.aB b.aB else Lib.compareInt a.dot b.dot
theorem UZ (a b:aN):(Lib.compareInt a.aB b.aB≠0->p9 a b=Lib.compareInt a.aB b.aB)/\(Lib.compareInt a.aB b.aB=0->p9 a b=Lib.compareInt a.dot b.dot):=by
 unfold p9
 exact⟨λh=>by rw[aaL h],λh=>by rw[aaI (by simp[h])]⟩
theorem ve (a b:aN):ltOf p9 a b=c6 a b:=by
 have d:∀x y:Int,(x<y/\Lib.compareInt x y = -1)∨(x=y/\Lib.compareInt x y=0)∨(y<x/\Lib.compareInt x y=1):=λx y=>by
  unfold Lib.compareInt; (repeat' split)<;>omega
 rw[aby,gJ]
 simp only[ltOf,p9]
 rcases d a.aB b.aB with ⟨h,e⟩ | ⟨h,e⟩ | ⟨h,e⟩<;>rcases d a.dot b.dot with ⟨k,c⟩ | ⟨k,c⟩ | ⟨k,c⟩<;>simp[e,c]<;>omega
theorem PE:SWO (ltOf p9) where
 irrefl x:=by rw[ve];exact mY
 trans x y z h k:=by rw[ve] at *;exact pP h k
 ntrans x y z h k:=by
  rw[ve] at *
  cases e:c6 x z with
  | false=>rfl
  | true =>
   have h1:¬ c6 x y=true:=by simp[h]
   have a:¬ c6 y z=true:=by simp[k]
   rw[gJ] at h1 a e
   omega
def fo (l:List aN):List aN:=l.mergeSort λx y=>!c6 y x
theorem SM (l:List aN):(l.toArray.toList.mergeSort λx y=>!(ltOf p9) y x)=fo l:=by
 have e:(λx y=>!(ltOf p9) y x)=λx y=>!c6 y x:=by funext x y;rw[ve]
 rw[e];rfl
theorem C7 (l:List aN):(fo l).Perm l:=List.mergeSort_perm _ _
theorem j0 (l:List aN):(fo l).length=l.length:=(C7 l).length_eq
theorem Db (l:List aN):(fo l).Pairwise λx y=>c6 y x=false:=by
 have:=List.pairwise_mergeSort (le:=λx y:aN=>!c6 y x) (λa b c h k=>by
  simp only[acW] at h k ⊢
  cases e:c6 c a with
  | false=>simp
  | true =>
   have h1:¬ c6 b a=true:=by simpa using h
   have d:¬ c6 c b=true:=by simpa using k
   rw[gJ] at h1 d e
   omega) (λa b=>by
  cases e:c6 b a with
  | false=>simp
  | true=>simp[MZ e]) l
 exact this.imp λh=>by simpa using h
def QU:Ren where
 f:=fun
  | 6=>190
  | 15=>246
  | 14=>245
  | 28=>282
  | 29=>283
  | 20=>274
  | 21=>275
  | 22=>276
  | 23=>277
  | 24=>278
  | 25=>279
  | 26=>280
  | 27=>281
  | 46=>291
  | 47=>292
  | 48=>293
  | 49=>294
  | 50=>295
  | 57=>307
  | n=>n
 t:=fun
  | 22=>103
  | 24=>120
  | 25=>286
  | 3=>3
  | 39=>276
  | 0=>0
  | 53=>50
  | 55=>49
  | 4=>4
  | 46=>356
  | 45=>355
  | 50=>66
  | 5=>5
  | 9=>9
  | 66=>369
  | 70=>373
  | 76=>381
  | 77=>382
  | n=>n
 g:=λn=>n
theorem Wu:Go.Proofs.SlLaysF0.n6 aa QU where
 mixed:=by kernel_rfl
 f6:=⟨Tryz.f190.name,by kernel_rfl,by kernel_rfl⟩
 f14:=⟨Tryz.f245.name,by kernel_rfl,by kernel_rfl⟩
 f15:=by kernel_rfl
 f20:=⟨Tryz.f274.name,by kernel_rfl,by kernel_rfl⟩
 f21:=⟨Tryz.f275.name,by kernel_rfl,by kernel_rfl⟩
 f22:=⟨Tryz.f276.name,by kernel_rfl,by kernel_rfl⟩
 f23:=⟨Tryz.f277.name,by kernel_rfl,by kernel_rfl⟩
 f24:=⟨Tryz.f278.name,by kernel_rfl,by kernel_rfl⟩
 f25:=⟨Tryz.f279.name,by kernel_rfl,by kernel_rfl⟩
 f26:=⟨Tryz.f280.name,by kernel_rfl,by kernel_rfl⟩
 f27:=⟨Tryz.f281.name,by kernel_rfl,by kernel_rfl⟩
 f28:=by kernel_rfl
 f29:=by kernel_rfl
 f46:=⟨Tryz.f291.name,by kernel_rfl,by kernel_rfl⟩
 f47:=by kernel_rfl
 f48:=by kernel_rfl
 f49:=⟨Tryz.f294.name,by kernel_rfl,by kernel_rfl⟩
 f50:=⟨Tryz.f295.name,by kernel_rfl,by kernel_rfl⟩
 f57:=⟨Tryz.f307.name,by kernel_rfl,by kernel_rfl⟩
 t0:=Tryz.underlying0
 a0:=Tryz.isAgg0
 z0:=Tryz.sizeOf0
 v0:=Tryz.zeroValue0
 t3:=Tryz.underlying3
 a3:=Tryz.isAgg3
 z3:=Tryz.sizeOf3
 v3:=Tryz.zeroValue3
 t4:=Tryz.underlying4
 a4:=Tryz.isAgg4
 z4:=Tryz.sizeOf4
 v4:=Tryz.zeroValue4
 t5:=Tryz.underlying5
 a5:=Tryz.isAgg5
 z5:=Tryz.sizeOf5
 v5:=Tryz.zeroValue5
 t9:=Tryz.underlying9
 a9:=Tryz.isAgg9
 z9:=Tryz.sizeOf9
 v9:=Tryz.zeroValue9
 t22:=Tryz.underlying103
 a22:=Tryz.isAgg103
 z22:=Tryz.sizeOf103
 v22:=Tryz.zeroValue103
 t25:=Tryz.underlying286
 a25:=Tryz.isAgg286
 z25:=Tryz.sizeOf286
 v25:=Tryz.zeroValue286
 t39:=Tryz.underlying276
 a39:=Tryz.isAgg276
 z39:=Tryz.sizeOf276
 v39:=Tryz.zeroValue276
 t45:=Tryz.underlying355
 a45:=Tryz.isAgg355
 z45:=Tryz.sizeOf355
 v45:=Tryz.zeroValue355
 t46:=Tryz.underlying356
 a46:=Tryz.isAgg356
 z46:=Tryz.sizeOf356
 v46:=Tryz.zeroValue356
 t50:=Tryz.underlying66
 a50:=Tryz.isAgg66
 z50:=Tryz.sizeOf66
 v50:=Tryz.zeroValue66
 t53:=Tryz.underlying50
 a53:=Tryz.isAgg50
 z53:=Tryz.sizeOf50
 v53:=Tryz.zeroValue50
 t55:=Tryz.underlying49
 a55:=Tryz.isAgg49
 z55:=Tryz.sizeOf49
 v55:=Tryz.zeroValue49
 t66:=Tryz.underlying369
 a66:=Tryz.isAgg369
 z66:=Tryz.sizeOf369
 v66:=Tryz.zeroValue369
 t70:=Tryz.underlying373
 a70:=Tryz.isAgg373
 z70:=Tryz.sizeOf373
 v70:=Tryz.zeroValue373
 t76:=Tryz.underlying381
 a76:=Tryz.isAgg381
 z76:=Tryz.sizeOf381
 v76:=Tryz.zeroValue381
 t77:=Tryz.underlying382
 a77:=Tryz.isAgg382
 z77:=Tryz.sizeOf382
 v77:=Tryz.zeroValue382
def Vr:Ren where
 f:=fun
  | 5=>248
  | 7=>284
  | n=>n
 t:=fun
  | 22=>3
  | 3=>3
  | 4=>4
  | n=>n
 g:=λn=>n
theorem Yv:Go.Proofs.SlLaysC2.n5 aa Vr where
 mixed:=by kernel_rfl
 f5:=⟨Tryz.f248.name,by kernel_rfl,by kernel_rfl⟩
 f7:=⟨Tryz.f284.name,by kernel_rfl,by kernel_rfl⟩
 t3:=Tryz.underlying3
 a3:=Tryz.isAgg3
 z3:=Tryz.sizeOf3
 v3:=Tryz.zeroValue3
 t4:=Tryz.underlying4
 a4:=Tryz.isAgg4
 z4:=Tryz.sizeOf4
 v4:=Tryz.zeroValue4
 t22:=Tryz.underlying3
 a22:=Tryz.isAgg3
 z22:=Tryz.sizeOf3
 v22:=Tryz.zeroValue3
section
attribute [local go_sem] Oper.semAt_some
theorem MD (x y:Int) (b cap:Nat) (W:World) (h0:W.cell? ⟨b,0,none⟩=some (.int .i64 x)) (h1:W.cell? ⟨b,1,none⟩=some (.int .i64 y)) (r:Int) (hr:(x≠0->r=x)/\(x=0->r=y)):
  Calls aa 247 #[.slice (some ⟨b,0,none⟩) 2 cap] W λe w'=>e=.returned (.int .i64 r)/\w'=W:=by
 go_enter Tryz.func247,Tryz.ntmps247
 go_wp2
 refine wp_loop_rounds 3 ?_
 rw[rounds_succ]
 go_wp2
 .rename_i h
  go_ret
  exact⟨by rw[hr.1 (by simpa using h)];rfl,rfl⟩
 .rename_i h
  have hx:x=0:=by simpa using h
  rw[rounds_succ]
  go_wp2
  .rename_i h
   go_ret
   exact⟨by rw[hr.2 hx];rfl,rfl⟩
  .rename_i h
   rw[rounds_succ]
   go_wp2
   go_ret
   exact⟨by rw[hr.2 hx,show y=0 by simpa using h];rfl,rfl⟩
structure Zc (p:Prop):Prop where
 out:p
theorem MY (x1 x2 y1 y2:Int) (W:World) (r:Int) (hr:(Lib.compareInt x1 y1≠0->r=Lib.compareInt x1 y1)/\(Lib.compareInt x1 y1=0->r=Lib.compareInt x2 y2)):
  Calls aa 191 #[.agg #[.int .i64 x1,.int .i64 x2],.agg #[.int .i64 y1,.int .i64 y2]] W λe w'=>e=.returned (.int .i64 r)/\∃q os',w'=grow (W.drewN q) os':=by
 have hcon1:=λW'=>AnyG.cmp_Compare_int Yv x1 y1 W'
 change ∀W',Calls aa 248 _ _ _ at hcon1
 have hcon2:=λW'=>AnyG.cmp_Compare_int Yv x2 y2 W'
 change ∀W',Calls aa 248 _ _ _ at hcon2
 generalize Lib.compareInt x1 y1=c1 at *
 generalize Lib.compareInt x2 y2=c2 at *
 go_enter Tryz.func191,Tryz.ntmps191
 go_wp2_with (first | (go_at_call 248;refine(hcon1 _).mono ?_;rintro e w' ⟨rfl,rfl⟩)|(go_at_call 248;refine(hcon2 _).mono ?_;rintro e w' ⟨rfl,rfl⟩))
 obtain⟨b1,hb1⟩:∃b1,b1=W.heap.size:=⟨_,rfl⟩
 obtain⟨b2,hb2⟩:∃b2,b2=W.heap.size+1:=⟨_,rfl⟩
 rw[<-hb2,<-hb1]
 generalize hW1:(W.alloc (Obj.cells #[Value.int IntKind.i64 x1,Value.int IntKind.i64 x2] 120)).alloc (Obj.cells #[Value.int IntKind.i64 y1,Value.int IntKind.i64 y2] 120)=W1
 have hh1:W1.heap[b1]?=some (.cells #[Value.int IntKind.i64 x1,Value.int IntKind.i64 x2] 120 (0,0)):=by
  rw[<-hW1,hb1];exact(Below.heap_alloc _ _ _ (by simp)).trans (World.alloc_heap_new W _)
 have hh2:W1.heap[b2]?=some (.cells #[Value.int IntKind.i64 y1,Value.int IntKind.i64 y2] 120 (0,0)):=by
  rw[<-hW1,hb2]
  have:=World.alloc_heap_new (W.alloc (Obj.cells #[Value.int IntKind.i64 x1,Value.int IntKind.i64 x2] 120)) (Obj.cells #[Value.int IntKind.i64 y1,Value.int IntKind.i64 y2] 120)
  rwa [World.size_alloc] at this
 have k0:W1.cell? ⟨b1,0,none⟩=some (.int .i64 x1):=by unfold World.cell?;rw[hh1];rfl
 have k1:W1.cell? ⟨b1,1,none⟩=some (.int .i64 x2):=by unfold World.cell?;rw[hh1];rfl
 have k2:W1.cell? ⟨b2,0,none⟩=some (.int .i64 y1):=by unfold World.cell?;rw[hh2];rfl
 have k3:W1.cell? ⟨b2,1,none⟩=some (.int .i64 y2):=by unfold World.cell?;rw[hh2];rfl
 clear hh1 hh2
 refine wp_region_still_tail 10 (by kernel_rfl) (by kernel_rfl) ?_
 change wpStill _ _ W1.drew (λa'=>wpList _ _ _ _ a' W1.drew) _ _
 generalize hW2:W1.drew=W2
 replace k0:W2.cell? ⟨b1,0,none⟩=some (.int .i64 x1):=by rw[<-hW2];exact k0
 replace k1:W2.cell? ⟨b1,1,none⟩=some (.int .i64 x2):=by rw[<-hW2];exact k1
 replace k2:W2.cell? ⟨b2,0,none⟩=some (.int .i64 y1):=by rw[<-hW2];exact k2
 replace k3:W2.cell? ⟨b2,1,none⟩=some (.int .i64 y2):=by rw[<-hW2];exact k3
 have hgr:Zc (W2=grow (W.drewN 1) #[Obj.cells #[Value.int IntKind.i64 x1,Value.int IntKind.i64 x2] 120,Obj.cells #[Value.int IntKind.i64 y1,Value.int IntKind.i64 y2] 120]):=by
  refine⟨?_⟩
  rw[<-hW2,<-hW1,alloc_eq_grow,alloc_eq_grow,grow_grow];rfl
 clear hW1 hW2 hb1 hb2
 simp only[acP,List.take_zero,acQ,abI]
 iterate 4 still_step
 still_call (hcon1 _)
 iterate 4 still_step
 still_call (hcon2 _)
 refine wpStill_nil ?_
 go_wp2_with (go_at_call 247;refine(MD c1 c2 _ _ _ ?_ ?_ r hr).mono ?_)
 .unfold World.cell?;rw[World.alloc_heap_new];rfl
 .unfold World.cell?;rw[World.alloc_heap_new];rfl
 .rintro e w' ⟨rfl,rfl⟩
  go_wp2
  go_ret
  refine⟨rfl,1,#[Obj.cells #[Value.int IntKind.i64 x1,Value.int IntKind.i64 x2] 120,Obj.cells #[Value.int IntKind.i64 y1,Value.int IntKind.i64 y2] 120,Obj.cells #[Value.int IntKind.i64 c1,Value.int IntKind.i64 c2] 3],?_⟩
  rw[hgr.out,alloc_eq_grow,grow_grow];rfl
end
theorem KL {Z:Nat->Prop} {μ:Mu} {hp:Array Obj} {id off len esz:Nat} {x:Value} (h:aD Z μ hp (.sl id off len esz) x):
  (len=0/\∃a,x=.slice a 0 0)∨∃b o0 cap,∃c:Array Value,∃e f,x=.slice (some ⟨b,o0+off*esz,none⟩) len cap/\μ id=some (b,o0,esz)/\len<=cap/\hp[b]?=some (.cells c e f)/\o0+(off+cap)*esz<=c.size:=by
 cases h with
 | qq _ _ _ a=>exact .inl ⟨rfl,a,rfl⟩
 | sl _ _ _ _ b o0 cap c e f h1 d g i=>exact .inr ⟨b,o0,cap,c,e,f,rfl,h1,d,g,i⟩
theorem YA {Z:Nat->Prop} {μ:Mu} {hp:Array Obj} {f:FuncId} {x:Value} (h:aD Z μ hp (.fn f [] []) x):x=.func (.func f) #[] #[]:=by
 cases h with
 | fn _ _ _ a c h1 b _ _ =>
  rw[Array.eq_empty_of_size_eq_zero h1.symm,Array.eq_empty_of_size_eq_zero b.symm]
theorem GJ (w:World) (b o0 m:Nat) (d:Array aN) (os:Array Obj) {j:Nat} (a:j<w.heap.size):(sortWorldK jL 2 w b o0 m d os).heap[j]?=if b=j then (w.heap[j]?).map (onCells (putCells id o0 (flatK jL 2 d))) else w.heap[j]?:=by
 unfold sortWorldK grow putRowK putRow mapBlock
 simp only[Sort.ahead]
 rw[abE (by simpa using a),acn]
theorem VM (l:List aN) (hl:l.length<1152921504606846976) (u:V) (H:View) (ho:aQ H u 2 (bf l)):az aa 190 [u,.fn 191 [] []] H λr H'=>r=.bb []/\(∀id,owner u≠some id->H' id=H id)/\aQ H' u 2 (bf (fo l)):=by
 refine⟨by kernel_rfl,?_⟩
 rintro h rfl
 have eg:∀args w,(callFunc 191 args).run aa w=.ok (.enter 191 args) w:=enters_of Tryz.func191 (by kernel_rfl) rfl
 by_cases I:l=[]
 .subst I
  refine⟨.bb [],h,⟨aaQ _,λZ μ F w xs s hr M=>?_⟩,.refl _,rfl,λ_ _=>rfl,by simpa [fo] using ho⟩
  obtain⟨hlen,N⟩:=s
  obtain⟨x,y,rfl⟩:∃x y,xs=[x,y]:=by
   match xs,hlen with
   | [x,y],_=>exact⟨x,y,rfl⟩
  have h0:aD Z μ w.heap u x:=N 0 (by simp)
  obtain⟨p,cap,rfl⟩:∃p cap,x=.slice p 0 cap:=by
   rcases ho with ⟨_,k,rfl⟩ | ⟨n,rfl,_⟩
   .cases h0 with | emp _ a _ _=>exact⟨a,0,rfl⟩
   .rcases KL h0 with ⟨_,a,e⟩ | ⟨b,o0,cap,c,e,f,e2,_⟩
    .exact⟨a,0,e⟩
    .exact⟨_,cap,e2⟩
  refine(AnyF.slices_SortFunc_none Wu p cap y w).mono ?_
  rintro e w' ⟨rfl,rfl⟩
  exact⟨.tuple #[],Z,μ,rfl,.bb [] #[] rfl (λi hi=>by simp at hi),hr,Ext.refl _ _ _ _,λ_ _=>rfl⟩
 have S:0<l.length:=acO.2 I
 obtain⟨n,rfl,hn⟩:=ho.sl (by rw[bR];exact S)
 rw[bR]
 have t:n<h.length:=fa (by rw[hn];simp)
 refine⟨.bb [],h.set n (.arr 2 (bf (fo l))),⟨by simp,λZ μ F w xs s hr M=>?_⟩,λk hk hd=>?_,rfl,λid al=>?_,?_⟩
 rotate_left
 .rw[gC t]
  simp only[View.set]
  rw[aaI (λe=>by rw[e,hn] at hd;simp at hd)];exact hd
 .rw[gC t]
  simp only[View.set]
  rw[aaI (λe=>al (by rw[e];rfl))]
 .refine .inr ⟨n,by rw[bR,j0],?_⟩
  rw[gC t];simp[View.set]
 obtain⟨hlen,N⟩:=s
 obtain⟨x,y,rfl⟩:∃x y,xs=[x,y]:=by
  match xs,hlen with
  | [x,y],_=>exact⟨x,y,rfl⟩
 have h0:aD Z μ w.heap (.sl n 0 l.length 2) x:=N 0 (by simp)
 have h1:aD Z μ w.heap (.fn 191 [] []) y:=N 1 (by simp)
 have hy:=YA h1
 subst hy
 rcases KL h0 with ⟨e,_⟩ | ⟨b,o0,cap,c0,e0,f0,rfl,E,ar,_,_⟩
 .omega
 rw[Nat.zero_mul,acf]
 have J:cat h F n=.arr 2 (bf l):=by simp only[cat];rw[aaL t,hn]
 have T:=hr.obj n
 rw[J] at T
 obtain⟨_,⟨c,ty,fz,hc,U,W⟩,hq,z⟩:=T b o0 2 E
 rw[bR] at W hq z
 have O:b<w.heap.size:=hr.lt _ _ _ _ E
 have P:∀(m:List aN) (i:Nat) (hi:i<m.length),(bf m).getD i []=bK m[i]:=λm i hi=>by simp[bf,hi]
 have hH:HoldsK jL 2 w b o0 l.toArray:=by
  intro j D
  rw[size_flatK] at D
  have a1:j<l.length*2:=by simpa using D
  have hi:j / 2<l.length:=by omega
  obtain⟨x,hx,d⟩:=z (j / 2) (j % 2) hi (by omega)
  rw[show o0+j / 2*2+j % 2=o0+j by omega] at hx
  have an:x=(flatK jL 2 l.toArray)[j]!:=by
   rw[get_flatK _ _ _ _ D]
   rw[P l _ hi] at d
   have e1:l.toArray[j / 2]! = l[j / 2]:=by simp[hi]
   rw[e1]
   rcases abg (j % 2) 1 with X | X
   .rw[show j % 2=0 by omega] at d ⊢
    simp only[bK,abO] at d
    cases d;rfl
   .rw[show j % 2=1 by omega] at d ⊢
    simp only[bK,acy,abO] at d
    cases d;rfl
  refine⟨by rw[jk,hx,an];rfl,?_⟩
  simp only[World.frozen?,hc]
  rcases U with e | e
  .simp only[e,Bool.and_eq_false_iff,ab4];omega
  .simp only[Bool.and_eq_false_iff,ab4];omega
 have hT:∀x y,(ltOf p9) x y=false->(ltOf p9) y x=false->x=y:=λx y h1 X=>by
  rw[ve] at h1 X
  exact ack λA=>by rw[Ah h1 A] at X;simp at X
 have K:=AnyQ.slices_SortFunc_total Wu 2 Tryz.isAgg120 Tryz.sizeOf120 jL (λ_=>rfl) (λx v N=>by simp[jL] at N;rcases N with rfl | rfl<;>rfl) p9 PE 191 #[] b o0 cap l.toArray w eg (λ_ _ _ _ x y=>MY x.aB x.dot y.aB y.dot _ _ (UZ x y)) hH O (by simp;omega) hT
 rw[SM] at K
 refine Calls.mono (show Calls aa 190 _ w _ from K) ?_
 rintro e w' ⟨rfl,m,os,rfl⟩
 have Y:=j0 l
 have g:=λ{j:Nat} (D:j<w.heap.size)=>GJ w b o0 m (fo l).toArray os D
 have G:HoldsK jL 2 (sortWorldK jL 2 w b o0 m (fo l).toArray os) b o0 (fo l).toArray:=SWK.holds ⟨m,os,rfl⟩ O hH (by simp[Y])
 have B:w.heap.size<=(sortWorldK jL 2 w b o0 m (fo l).toArray os).heap.size:=SWK.le (dk:=(fo l).toArray) ⟨m,os,rfl⟩
 have Q:eX w (sortWorldK jL 2 w b o0 m (fo l).toArray os):=⟨rfl,rfl,rfl,B⟩
 generalize sortWorldK jL 2 w b o0 m (fo l).toArray os=w' at *
 have ab:w'.heap[b]?=some (.cells (putCells id o0 (flatK jL 2 (fo l).toArray) c) ty fz):=by
  rw[g O,aaL rfl,hc];rfl
 have L:nj Z μ μ w.heap w'.heap h.length (.fJ n (.arr 2 (bf (fo l)))):=by
  refine⟨b,o0,2,E,rfl,λj D A=>by rw[g D,aaI (λe=>A e.symm)],λj cc ee ff C=>?_,?_⟩
  .have aq:j<w.heap.size:=by
    rcases abg j w.heap.size with q | q
    .exact q
    .simp[Array.getElem?_eq_none q] at C
   by_cases e:b=j
   .subst e
    rw[hc] at C
    simp only[aaK,Obj.cells.injEq] at C
    obtain⟨rfl,rfl,rfl⟩:=C
    exact⟨_,_,ab,by simp[putCells]⟩
   .exact⟨cc,ff,by rw[g aq,aaI e];exact C,rfl⟩
  .intro b1 o1 s1 h1
   rw[E] at h1
   simp only[aaK,aaN] at h1
   obtain⟨rfl,rfl,rfl⟩:=h1
   refine⟨rfl,⟨_,ty,fz,ab,?_,?_⟩,λi hi=>?_,λi j hi D=>?_⟩
   .simpa [putCells] using U
   .rw[bR,Y];simpa [putCells] using W
   .rw[bR] at hi;rw[P _ i hi];rfl
   .rw[bR] at hi
    have:=(G.cell (i:=i) (c:=j) (by simpa using hi) D).1
    rw[jk] at this
    refine⟨_,this,?_⟩
    rw[P _ i hi]
    have e1:(fo l).toArray[i]! = (fo l)[i]:=by simp[hi]
    rw[e1]
    match j,D with
    | 0,_=>exact .val _ rfl
    | 1,_=>exact .val _ rfl
 have A:cat h F n≠.dead:=by rw[J];simp
 have R:=hr.eff (n:=h.length) (eff:=.fJ n (.arr 2 (bf (fo l)))) (by trivial) B L (λid o e=>by cases e;exact A) (λid o e=>by cases e)
 obtain⟨ae,a6⟩:=L.ext Q (by trivial) hr.df hr.ix
 refine⟨.tuple #[],Z,μ,rfl,.bb [] #[] rfl (λi hi=>by simp at hi),?_,ae,λ_ _=>rfl⟩
 have ev:cat (h.set n (.arr 2 (bf (fo l)))) F=bo.view (cat h F) h.length (.fJ n (.arr 2 (bf (fo l)))):=by
  funext k
  simp only[cat,bo.view,View.set,acm]
  by_cases hk:k<h.length
  .rw[aaL hk,aaL hk,gC t];rfl
  .rw[aaI hk,aaI hk,aaI (by omega)]
 rw[ev]
 exact R
abbrev iQ:aN:=⟨0,0⟩
def gu (l:List aN):Nat->List aN
 | 0=>[]
 | n+1=>if n=0∨l.getD n iQ≠l.getD (n-1) iQ then gu l n++[l.getD n iQ] else gu l n
theorem Cj (l:List aN):∀n,n<=l.length->(∀j,0<j->j<n->l.getD j iQ≠l.getD (j-1) iQ)->gu l n=l.take n
 | 0,_,_=>by simp[gu]
 | n+1,c,h=>by
  have a:=Cj l n (by omega) λj h1 d=>h j h1 (by omega)
  have b:l[n]?=some (l.getD n iQ):=getD_some (by omega)
  rw[gu,aaL,a,aa2,b]
  .rfl
  .by_cases e:n=0
   .exact .inl e
   .exact .inr (h n (by omega) (by omega))
def CD (l:List aN):List aN:=gu (fo l) l.length
theorem zG {l:List aN} (hp:l.Pairwise λx y=>c6 y x=false):∀n,n<=l.length->cJ (gu l n)/\(∀x,x∈gu l n↔∃i,i<n/\l.getD i iQ=x)
 | 0,_=>by simp[gu,cJ]
 | n+1,r=>by
  obtain⟨h1,f⟩:=zG hp n (by omega)
  have d:∀i j,i<j->j<l.length->c6 (l.getD j iQ) (l.getD i iQ)=false:=λi j g k=>by
   have:=List.pairwise_iff_getElem.1 hp i j (by omega) k g
   simpa [aaG,aaH k,aaH (show i<l.length by omega)] using this
  rw[gu]
  split
  .rename_i c
   refine⟨?_,λx=>?_⟩
   .rw[cJ,List.pairwise_append]
    refine⟨h1,by simp,λa p b m=>?_⟩
    rw[abF] at m;subst m
    obtain⟨i,hi,rfl⟩:=(f a).1 p
    have c:l.getD n iQ≠l.getD (n-1) iQ:=c.resolve_left (by omega)
    have o:=Ah (d (n-1) n (by omega) (by omega)) c
    rcases abg i (n-1) with h | h
    .have k2:=d i (n-1) h (by omega)
     have q:¬ c6 (l.getD (n-1) iQ) (l.getD i iQ)=true:=by rw[k2];simp
     rw[gJ] at o q ⊢
     omega
    .have:i=n-1:=by omega
     subst this;exact o
   .rw[aa0,f,abF]
    constructor
    .rintro (⟨i,hi,e⟩ | e)
     .exact⟨i,by omega,e⟩
     .exact⟨n,by omega,e.symm⟩
    .rintro⟨i,hi,e⟩
     rcases abg i n with h | h
     .exact .inl ⟨i,h,e⟩
     .have:i=n:=by omega
      subst this;exact .inr e.symm
  .rename_i c
   simp only[not_or,acs] at c
   refine⟨h1,λx=>?_⟩
   rw[f]
   constructor
   .rintro⟨i,hi,e⟩;exact⟨i,by omega,e⟩
   .rintro⟨i,hi,e⟩
    rcases abg i n with h | h
    .exact⟨i,h,e⟩
    .have:i=n:=by omega
     subst this
     exact⟨i-1,by omega,by rw[<-c.2];exact e⟩
theorem Fh (l:List aN):cJ (CD l):=(zG (Db l) _ (by rw[j0];exact aaQ _)).1
theorem sR {l:List aN} {x:aN} : x∈CD l↔x∈l:=by
 rw[CD,(zG (Db l) _ (by rw[j0];exact aaQ _)).2,<-(C7 l).mem_iff,acj]
 constructor
 .rintro⟨i,hi,e⟩
  have a:i<(fo l).length:=by rw[j0];exact hi
  exact⟨i,a,by rw[aaG,aaH a] at e;exact e⟩
 .rintro⟨i,hi,e⟩
  exact⟨i,by rw[j0] at hi;exact hi,by rw[aaG,aaH hi];exact e⟩
theorem P7 {l:List aN} (h:cJ l):CD l=l:=BU (Fh l) h λ_=>sR
def oK (g:aj) (s:Int):Int:=if s<0 then (g.ax.length:Int)-1-s else s
theorem zL (g:aj) (k:Nat):oK g (bg g k)=k:=by
 unfold oK bg;split<;>split<;>omega
theorem JO {g:aj} {s:Int} (h1:s<g.ax.length):0<=oK g s/\bg g (oK g s).toNat=s:=by
 unfold oK bg;split
 .rw[aaI (by omega)];omega
 .rw[aaL (by omega)];omega
theorem NO {g:aj} {s:Int} (h:dN g s=true):s<g.ax.length/\oK g s<g.ax.length+g.av.length:=by
 unfold dN at h
 unfold oK
 by_cases a:0<=s
 .rw[aaL a] at h
  rw[aaI (by omega)]
  simp at h
  omega
 .rw[aaI a] at h
  rw[aaL (by omega)]
  simp at h
  omega
def gT (l:List aN):List UInt8:=l.flatMap λx=>[UInt8.ofNat (x.aB+1).toNat,UInt8.ofNat x.dot.toNat]
theorem SP {a b:Nat} (c:a<256) (d:b<256) (h:UInt8.ofNat a=UInt8.ofNat b):a=b:=by
 have:=abQ UInt8.toNat h
 simp at this
 omega
theorem Lk {g:aj} (c:g.c5):∀ {a b:List aN},(∀x∈a,cT g x)->(∀x∈b,cT g x)->gT a=gT b->a=b
 | [],[],_,_,_=>rfl
 | [],y::b,_,_,h=>by simp[gT] at h
 | x::a,[],_,_,h=>by simp[gT] at h
 | x::a,y::b,i,j,h=>by
  simp only[gT,List.flatMap_cons,abl,abD,List.cons.injEq] at h
  obtain⟨h1,k,l⟩:=h
  have d:=i x (by simp)
  have e:=j y (by simp)
  have hr:=c.rules
  have q:=dY c d.1
  have r:=dY c e.1
  have:=d.1;have:=d.2;have:=e.1;have:=e.2
  have s:=SP (by omega) (by omega) h1
  have k2:=SP (by omega) (by omega) k
  have t:=Lk c (λz f=>i z (by simp[f])) (λz f=>j z (by simp[f])) l
  obtain⟨m,n⟩:=x
  obtain⟨o,p⟩:=y
  simp only at *
  have:m=o:=by omega
  have:n=p:=by omega
  subst_vars;rfl
structure lh (g:aj) (a:List ba):Prop where
 first:(a.getD 0 bY).bz=[⟨-1,0⟩]
 Bq:∀s∈a,∀e∈s.cF,(a.getD e.to.toNat bY).bz=bu g (dp g s.bz) e.sym
theorem ni (l:List ba) (i:Nat) (c:fV) (j:Nat):((l.modify i λx=>(⟨x.bz,x.cF++[c]⟩:ba)).getD j bY).bz=(l.getD j bY).bz:=by
 simp only[aaG,List.getElem?_modify]
 cases l[j]? with
 | none=>rfl
 | some x =>
  by_cases e:i=j
  .subst e;simp
  .simp[e]
theorem lh.put {g:aj} {out:List ba} (h:lh g out) {at_:Nat} {s to:Int} (c:(out.getD to.toNat bY).bz=bu g (dp g (out.getD at_ bY).bz) s):lh g (out.modify at_ λx=>(⟨x.bz,x.cF++[⟨s,to⟩]⟩:ba)):=by
 refine⟨by rw[ni];exact h.first,λy a e he=>?_⟩
 rw[ni]
 rcases mem_modify a with a | ⟨x,b,rfl⟩
 .exact h.Bq y a e he
 .rcases aa0.1 he with he | he
  .exact h.Bq x (aaV b) e he
  .simp at he;subst he
   rw[c,aaG,b];rfl
theorem lh.add {g:aj} {out:List ba} (h:lh g out) (h1:1<=out.length) (c:∀s∈out,∀e∈s.cF,0<=e.to/\e.to<out.length) (k:List aN):lh g (out++[⟨k,[]⟩]):=by
 have b:∀j:Nat,j<out.length->((out++[(⟨k,[]⟩:ba)]).getD j bY)=out.getD j bY:=λj d=>by
  simp[abf d]
 refine⟨by rw[b 0 (by omega)];exact h.first,λy a e he=>?_⟩
 rcases aa0.1 a with a | a
 .have:=c y a e he
  rw[b _ (by omega)];exact h.Bq y a e he
 .simp at a;subst a;simp at he
theorem TD (g:aj) (l:List aN) (at_:Nat) (out:List ba) (i:Nat) {j:Nat} (a:j<out.length):((dw g l at_ out i).getD j bY).bz=(out.getD j bY).bz:=by
 unfold dw
 split
 .rfl
 .split
  .rw[ni]
   simp[abf a]
  .rw[ni]
theorem lh.step {g:aj} {l:List aN} {at_ i:Nat} {out:List ba} (h:lh g out) (hi:eo g at_ i out) (c:at_<out.length) (a:dp g (out.getD at_ bY).bz=l):lh g (dw g l at_ out i):=by
 unfold dw
 split
 .exact h
 .split
  .refine(h.add (by omega) hi.to _).put ?_
   rw[abk]
   have d:((out++[(⟨bu g l (bg g i),[]⟩:ba)]).getD out.length bY).bz=bu g l (bg g i):=by
    simp
   have e:(out++[(⟨bu g l (bg g i),[]⟩:ba)]).getD at_ bY=out.getD at_ bY:=by
    simp[abf c]
   rw[d,e,a]
  .rename_i j
   refine h.put ?_
   obtain⟨n,b⟩:∃n:Nat,findD out (bu g l (bg g i))=n:=⟨(findD out (bu g l (bg g i))).toNat,by omega⟩
   obtain⟨s,h1,f⟩:=J2 _ _ _ b
   rw[b,abk,aaG,h1,a]
   exact f
theorem lh.row {g:aj} (a:g.c5) {at_:Nat} {out:List ba} (h:lh g out) (hi:eo g at_ 0 out) (b:at_<out.length):∀n:Nat,n<=40->lh g ((List.range n).foldl (dw g (dp g (out.getD at_ bY).bz) at_) out)/\(((List.range n).foldl (dw g (dp g (out.getD at_ bY).bz) at_) out).getD at_ bY).bz=(out.getD at_ bY).bz
 | 0,_=>⟨h,rfl⟩
 | n+1,d=>by
  obtain⟨h1,c⟩:=lh.row a h hi b n (by omega)
  obtain⟨i1,i2,i3⟩:=eo.row (hi.nQ a b).1 (hi.nQ a b).2 hi n (by omega)
  rw[ab9,ace]
  simp only[abr,acH]
  refine⟨h1.step i1 (by omega) (by rw[c]),?_⟩
  rw[TD _ _ _ _ _ (by omega),c]
theorem EF {g:aj} (a:g.c5):∀(f at_:Nat) (out:List ba),eo g at_ 0 out->lh g out->(fR g f at_ out).2=0->lh g (fR g f at_ out).1
 | 0,_,out,_,h,_=>h
 | f+1,at_,out,hi,h,b=>by
  rw[fR] at b ⊢
  split
  .rename_i c
   rw[aaL c] at b
   have hr:=eo.row (hi.nQ a c).1 (hi.nQ a c).2 hi (g.ax.length+g.av.length) (by have:=a.ax;have:=a.av;omega)
   have he:=h.row a hi c (g.ax.length+g.av.length) (by have:=a.ax;have:=a.av;omega)
   rw[show (List.range (g.ax.length+g.av.length)).foldl (dw g (dp g (out.getD at_ bY).bz) at_) out=xq g at_ out (g.ax.length+g.av.length) from rfl] at hr he
   split
   .rename_i d;rw[aaL d] at b;simp at b
   .rename_i d
    rw[aaI d] at b
    exact EF a f (at_+1) _ hr.1.next he.1 b
  .exact h
theorem Pf {g:aj} (b:g.c5) (h:(cD g).2=0):lh g (cD g).1:=by
 unfold cD at h ⊢
 split
 .rename_i hr
  rw[aaL hr] at h
  exact EF b 302 0 eu mF ⟨rfl,λs a e he=>by simp[eu] at a;subst a;simp at he⟩ h
 .rename_i hr
  rw[aaI hr] at h
  simp at h
theorem Om {a:List ba} {i:Nat} {e:fV} (h:e∈(a.getD i bY).cF):i<a.length/\a.getD i bY∈a:=by
 rcases abg i a.length with hi | hi
 .exact⟨hi,aaV (getD_some hi)⟩
 .rw[aaG,abi hi] at h;simp at h
def lZ (g:aj) (l:List aN) (n:Nat):List Int:=((List.range n).filter λi=>decide (bu g l (bg g i)≠[])).map λ(i:Nat)=>bg g i
theorem Fl (g:aj) (l:List aN) (n:Nat):lZ g l (n+1)=if bu g l (bg g n)=[] then lZ g l n else lZ g l n++[bg g n]:=by
 unfold lZ
 rw[ab9,acI,aa8]
 by_cases h:bu g l (bg g n)=[]
 .rw[aaL h];simp[h]
 .rw[aaI h];simp[h]
structure oU (g:aj) (at_ i:Nat) (out:List ba):Prop where
 one:(out.map ba.bz).Nodup
 back:∀j:Nat,0<j->j<out.length->∃(i:Nat) (e:fV),i<j/\e∈(out.getD i bY).cF/\e.to=j
 done:∀j:Nat,j<at_->j<out.length->(out.getD j bY).cF.map fV.sym=lZ g (dp g (out.getD j bY).bz) (g.ax.length+g.av.length)
 here:at_<out.length->(out.getD at_ bY).cF.map fV.sym=lZ g (dp g (out.getD at_ bY).bz) i
theorem uG (l:List ba) (i:Nat) (c:fV) (j:Nat) (hi:i<l.length):((l.modify i λx=>(⟨x.bz,x.cF++[c]⟩:ba)).getD j bY).cF=if i=j then (l.getD j bY).cF++[c] else (l.getD j bY).cF:=by
 simp only[aaG,List.getElem?_modify]
 by_cases e:i=j
 .subst e;simp[hi]
 .cases l[j]? with
  | none=>simp[e]
  | some x=>simp[e]
theorem Hy (l:List ba) (i:Nat) (c:fV):(l.modify i λx=>(⟨x.bz,x.cF++[c]⟩:ba)).map ba.bz=l.map ba.bz:=by
 apply List.ext_getElem?
 intro j
 simp only[aaJ,List.getElem?_modify]
 cases l[j]? with
 | none=>rfl
 | some x=>by_cases e:i=j<;>simp[e]
theorem oU.put {g:aj} {at_ i:Nat} {out:List ba} {to:Int} (b:at_<out.length) (h1:(out.map ba.bz).Nodup) (h:∀j:Nat,0<j->j<out.length->(∃(i:Nat) (e:fV),i<j/\e∈(out.getD i bY).cF/\e.to=j)∨(at_<j/\to=j))
  (l:∀j:Nat,j<at_->j<out.length->(out.getD j bY).cF.map fV.sym=lZ g (dp g (out.getD j bY).bz) (g.ax.length+g.av.length)) (m:(out.getD at_ bY).cF.map fV.sym=lZ g (dp g (out.getD at_ bY).bz) i)
  (c:bu g (dp g (out.getD at_ bY).bz) (bg g i)≠[]):oU g at_ (i+1) (out.modify at_ λx=>(⟨x.bz,x.cF++[⟨bg g i,to⟩]⟩:ba)):=by
 refine⟨by rw[Hy];exact h1,λj d a=>?_,λj d a=>?_,λ_=>?_⟩
 .rw[List.length_modify] at a
  rcases h j d a with ⟨k,e,f,a2,a3⟩ | ⟨f,a2⟩
  .refine⟨k,e,f,?_,a3⟩
   rw[uG _ _ _ _ b]
   split
   .exact List.mem_append_left _ a2
   .exact a2
  .refine⟨at_,⟨bg g i,to⟩,f,?_,a2⟩
   rw[uG _ _ _ _ b,aaL rfl]
   simp
 .rw[List.length_modify] at a
  rw[uG _ _ _ _ b,aaI (by omega),ni]
  exact l j d a
 .rw[uG _ _ _ _ b,aaL rfl,ni,aa8,m,Fl,aaI c];rfl
theorem oU.step {g:aj} {at_ i:Nat} {out:List ba} (h:oU g at_ i out) (d:at_<out.length):oU g at_ (i+1) (dw g (dp g (out.getD at_ bY).bz) at_ out i):=by
 unfold dw
 split
 .rename_i hm
  exact⟨h.one,h.back,h.done,λ_=>by rw[Fl,aaL hm];exact h.here d⟩
 .rename_i hm
  split
  .rename_i n
   have f:∀j:Nat,j<out.length->((out++[(⟨bu g (dp g (out.getD at_ bY).bz) (bg g i),[]⟩:ba)]).getD j bY)=out.getD j bY:=λj c=>by
    simp[abf c]
   refine oU.put (by simp;omega) ?_ (λj c l=>?_) (λj c l=>?_) ?_ ?_
   .rw[aa8,ab2]
    refine⟨h.one,by simp,λa o b m=>?_⟩
    obtain⟨s,p,rfl⟩:=aa4.1 o
    simp at m;subst m
    exact L6 _ _ n s p
   .rcases abg j out.length with q | q
    .obtain⟨k,e,r,a2,a3⟩:=h.back j c q
     exact .inl ⟨k,e,r,by rw[f k (by omega)];exact a2,a3⟩
    .right
     simp at l
     exact⟨by omega,by omega⟩
   .rw[f j (by omega)];exact h.done j c (by omega)
   .rw[f at_ d];exact h.here d
   .rw[f at_ d];exact hm
  .exact oU.put d h.one (λj c l=>.inl (h.back j c l)) h.done (h.here d) hm
theorem oU.row {g:aj} (a:g.c5) {at_:Nat} {out:List ba} (h:oU g at_ 0 out) (hi:eo g at_ 0 out) (he:lh g out) (b:at_<out.length):∀n:Nat,n<=40->oU g at_ n ((List.range n).foldl (dw g (dp g (out.getD at_ bY).bz) at_) out)
 | 0,_=>h
 | n+1,d=>by
  have h1:=oU.row a h hi he b n (by omega)
  obtain⟨i1,i2,i3⟩:=eo.row (hi.nQ a b).1 (hi.nQ a b).2 hi n (by omega)
  obtain⟨e,c⟩:=he.row a hi b n (by omega)
  rw[ab9,ace]
  simp only[abr,acH]
  have:=h1.step (by omega)
  rw[c] at this
  exact this
theorem oU.next {g:aj} {at_:Nat} {out:List ba} (h:oU g at_ (g.ax.length+g.av.length) out) (hi:eo g at_ (g.ax.length+g.av.length) out):oU g (at_+1) 0 out:=by
 refine⟨h.one,h.back,λj b a=>?_,λa=>?_⟩
 .rcases abg j at_ with q | q
  .exact h.done j q a
  .have:j=at_:=by omega
   subst this
   exact h.here a
 .have:=(hi.cF (at_+1) _ (getD_some (d:=bY) a)).2.2 (by omega)
  rw[this];simp[lZ]
structure VY (g:aj) (a:List ba):Prop where
 one:(a.map ba.bz).Nodup
 back:∀j:Nat,0<j->j<a.length->∃(i:Nat) (e:fV),i<j/\e∈(a.getD i bY).cF/\e.to=j
 all:∀s∈a,s.cF.map fV.sym=lZ g (dp g s.bz) (g.ax.length+g.av.length)
theorem FB {g:aj} (a:g.c5):∀(f at_:Nat) (out:List ba),302<=f+at_->eo g at_ 0 out->lh g out->oU g at_ 0 out->out.length<=300->(fR g f at_ out).2=0->VY g (fR g f at_ out).1
 | 0,at_,out,n,_,_,h,o,_=>⟨h.one,h.back,λs d=>by
   change s∈out at d
   obtain⟨j,i,e⟩:=acj.1 d
   have:=h.done j (by omega) i
   rwa [show out.getD j bY=s by rw[aaG,aaH i];exact e] at this⟩
 | f+1,at_,out,n,hi,he,h,o,b=>by
  have p:=a.ax
  have q:=a.av
  rw[fR] at b ⊢
  split
  .rename_i c
   rw[aaL c] at b
   have hr:=eo.row (hi.nQ a c).1 (hi.nQ a c).2 hi (g.ax.length+g.av.length) (by omega)
   have l:=he.row a hi c (g.ax.length+g.av.length) (by omega)
   have m:=h.row a hi he c (g.ax.length+g.av.length) (by omega)
   rw[show (List.range (g.ax.length+g.av.length)).foldl (dw g (dp g (out.getD at_ bY).bz) at_) out=xq g at_ out (g.ax.length+g.av.length) from rfl] at hr l m
   split
   .rename_i k;rw[aaL k] at b;simp at b
   .rename_i k
    rw[aaI k] at b
    exact FB a f (at_+1) _ (by omega) hr.1.next l.1 (m.next hr.1) (by omega) b
  .rename_i c
   exact⟨h.one,h.back,λs d=>by
    change s∈out at d
    obtain⟨j,i,e⟩:=acj.1 d
    have:=h.done j (by omega) i
    rwa [show out.getD j bY=s by rw[aaG,aaH i];exact e] at this⟩
theorem Pl {g:aj} (b:g.c5) (h:(cD g).2=0):VY g (cD g).1:=by
 unfold cD at h ⊢
 split
 .rename_i hr
  rw[aaL hr] at h
  refine FB b 302 0 eu (by omega) mF ⟨rfl,λs a e he=>by simp[eu] at a;subst a;simp at he⟩ ⟨by simp[eu],λj h1 c=>by simp[eu] at c;omega,λj h1=>by omega,λ_=>?_⟩ (by simp[eu]) h
  simp[eu,lZ]
 .rename_i hr
  rw[aaI hr] at h
  simp at h
theorem I3 (g:aj):∀(f at_:Nat) (out:List ba),(fR g f at_ out).2=0∨fR g f at_ out=([],5)
 | 0,_,_=>.inl rfl
 | f+1,at_,out=>by
  rw[fR]
  split
  .split
   .exact .inr rfl
   .exact I3 g f _ _
  .exact .inl rfl
theorem Ul (g:aj):((cD g).2=0/\isRed g=true)∨(cD g=([],5)/\isRed g=true)∨(cD g=([],1)/\isRed g=false):=by
 unfold cD
 cases h:isRed g with
 | false=>exact .inr (.inr ⟨by simp,rfl⟩)
 | true =>
  rw[aaL rfl]
  rcases I3 g 302 0 eu with h | h
  .exact .inl ⟨h,rfl⟩
  .exact .inr (.inl ⟨h,rfl⟩)
theorem vl {g:aj} (a:g.c5) {x:aN} (c:cT g x) {s:Int} (h:bI g x=(s,true)):dN g s=true:=by
 obtain⟨h1,d⟩:=xn h
 have b:x.dot.toNat<(bV g x.aB).length:=by have:=c.2;omega
 have hm:s∈bV g x.aB:=by
  rw[<-d,aaG,aaH b];exact aaP _
 unfold bV at hm
 split at hm
 .simp at hm;subst hm
  have:=a.lE;have:=a.start
  unfold dN
  rw[aaI (by omega)]
  simp;omega
 .have e:g.rules[x.aB.toNat]?=some (b6 g x.aB):=by unfold b6;exact getD_some (by have:=c.1;omega)
  exact a.sym _ (aaV e) s hm
def ji (a:List ba) (p:Nat) (s:Int):Nat:=(oI a p [s]).1.toNat
def tU (a:List ba) (p:Nat) (s:Int):Prop:=∃e∈(a.getD p bY).cF,e.sym=s
abbrev Dg (g:aj) (a:List ba) (p:Nat):List aN:=dp g (a.getD p bY).bz
inductive D4 (a:List ba):Nat->List Int->Nat->Prop
 | nil {p:Nat} : D4 a p [] p
 | cons {p q:Nat} {s:Int} {X:List Int} : tU a p s->D4 a (ji a p s) X q->D4 a p (s::X) q
theorem D4.snoc {a:List ba} {p q:Nat} {X:List Int} (h:D4 a p X q) {s:Int} (he:tU a q s):D4 a p (X++[s]) (ji a q s):=by
 induction h with
 | nil=>exact .cons he .nil
 | cons h1 _ b=>exact .cons h1 (b he)
theorem OP {a:List ba} {p:Nat} {s:Int} (h:tU a p s):p<a.length:=by
 obtain⟨e,he,_⟩:=h;exact(Om he).1
theorem MA {l:List fV} {s:Int} (h:∃e∈l,e.sym=s):∃e∈l,e.sym=s/\ir l s=e.to:=by
 induction l with
 | nil=>obtain⟨e,he,_⟩:=h;simp at he
 | cons e l c =>
  rw[ir]
  by_cases a:e.sym=s
  .rw[aaL a];exact⟨e,by simp,a,rfl⟩
  .rw[aaI a]
   obtain⟨d,h1,b⟩:=h
   rcases aa1.1 h1 with rfl | h1
   .exact absurd b a
   .obtain⟨f,g,k2⟩:=c ⟨d,h1,b⟩
    exact⟨f,by simp[g],k2⟩
theorem VD {g:aj} {i j:Nat} (h:bg g i=bg g j):i=j:=by
 have h1:=zL g i
 rw[h,zL] at h1
 omega
theorem MV (g:aj) (l:List aN) (n:Nat):(lZ g l n).Nodup:=by
 unfold lZ
 unfold List.Nodup
 rw[acX]
 exact((List.nodup_range (n:=n)).filter _).imp λa e=>a (VD e)
theorem UU {l:List fV} (h:(l.map fV.sym).Nodup) {e:fV} (he:e∈l):ir l e.sym=e.to:=by
 induction l with
 | nil=>simp at he
 | cons x l a =>
  simp only[aba,abC] at h
  rw[ir]
  rcases aa1.1 he with rfl | he
  .rw[aaL rfl]
  .rw[aaI (λb=>h.1 (by rw[b];exact List.mem_map_of_mem he))]
   exact a h.2 he
structure eD (g:aj) (a:List ba):Prop where
 iX:g.c5
 ok:JB g a
 e:lh g a
 x:VY g a
 pos:1<=a.length
section
variable {g:aj} {a:List ba}
theorem eD.bz (h:eD g a) {p:Nat} (hp:p<a.length):∀x∈(a.getD p bY).bz,cT g x:=(h.ok.bz _ (aaV (getD_some hp))).2.2
theorem eD.has (h:eD g a) {p:Nat} (hp:p<a.length) {x:aN} (b:x∈Dg g a p):cT g x:=((gO h.iX (h.bz hp)).1 b).has (h.bz hp)
theorem eD.Bq (h:eD g a) {p:Nat} (hp:p<a.length) {s:Int} : tU a p s↔∃x∈Dg g a p,bI g x=(s,true):=by
 have k:=h.x.all _ (aaV (getD_some (d:=bY) hp))
 have e:tU a p s↔s∈((a.getD p bY).cF.map fV.sym):=by
  simp only[tU,aa4]
 rw[e,k]
 simp only[lZ,aa4,abR,abH,aaX]
 constructor
 .rintro⟨i,⟨hi,f⟩,rfl⟩
  obtain⟨y,l⟩:=List.exists_mem_of_ne_nil _ f
  obtain⟨x,b,c,_⟩:=se.1 l
  exact⟨x,b,c⟩
 .rintro⟨x,b,c⟩
  obtain⟨m,n⟩:=NO (vl h.iX (h.has hp b) c)
  obtain⟨o,j⟩:=JO m
  refine⟨(oK g s).toNat,⟨by omega,?_⟩,j⟩
  rw[j]
  exact List.ne_nil_of_mem (se.2 ⟨x,b,c,rfl⟩)
theorem eD.ji (h:eD g a) {p:Nat} {s:Int} (he:tU a p s):∃e∈(a.getD p bY).cF,e.sym=s/\e.to=ji a p s/\ji a p s<a.length/\oI a p [s]=((ji a p s:Int),true):=by
 have hp:=OP he
 have hm:=aaV (getD_some (d:=bY) hp)
 obtain⟨e,h1,c,f⟩:=MA he
 obtain⟨t1,t2⟩:=h.ok.to _ hm _ h1
 have hw:oI a p [s]=(e.to,true):=by
  unfold oI
  rw[aaI (by omega),jT,abk,f,aaL ⟨t1,t2⟩,jT]
 have b:((Gv.ji a p s:Nat):Int)=e.to:=by unfold Gv.ji;rw[hw];simp;omega
 exact⟨e,h1,c,b.symm,by omega,by rw[hw,b]⟩
theorem eD.ZX (h:eD g a) {p:Nat} {s:Int} (he:tU a p s):(a.getD (Gv.ji a p s) bY).bz=bu g (Dg g a p) s:=by
 have hm:=aaV (getD_some (d:=bY) (OP he))
 obtain⟨e,h1,b,c,_⟩:=h.ji he
 have:=h.e.Bq _ hm e h1
 rw[c,abk,b] at this
 exact this
theorem eD.step (h:eD g a) {p:Nat} (hp:p<a.length) {x:aN} (b:x∈Dg g a p) {s:Int} (c:bI g x=(s,true)):tU a p s/\(⟨x.aB,x.dot+1⟩:aN)∈(a.getD (Gv.ji a p s) bY).bz/\(⟨x.aB,x.dot+1⟩:aN)∈Dg g a (Gv.ji a p s)/\Gv.ji a p s<a.length:=by
 have he:=(h.Bq hp).2 ⟨x,b,c⟩
 obtain⟨_,_,_,_,d,_⟩:=h.ji he
 have hk:(⟨x.aB,x.dot+1⟩:aN)∈(a.getD (Gv.ji a p s) bY).bz:=by
  rw[h.ZX he];exact se.2 ⟨x,b,c,rfl⟩
 exact⟨he,hk,(gO h.iX (h.bz d)).2 (.base hk),d⟩
theorem eD.prev (h:eD g a) {i:Nat} (hi:i<a.length) {x:aN} (c:x∈(a.getD i bY).bz) (f:0<i):∃(p:Nat) (y:aN) (s:Int),p<i/\p<a.length/\y∈Dg g a p/\bI g y=(s,true)/\x=⟨y.aB,y.dot+1⟩/\tU a p s/\Gv.ji a p s=i:=by
 obtain⟨p,e,hp,he,d⟩:=h.x.back i f hi
 obtain⟨b,hm⟩:=Om he
 have hk:=h.e.Bq _ hm e he
 rw[d,abk] at hk
 rw[hk] at c
 obtain⟨y,j,k,rfl⟩:=se.1 c
 have l:tU a p e.sym:=⟨e,he,rfl⟩
 refine⟨p,y,e.sym,hp,b,j,k,rfl,l,?_⟩
 have h1:=UU (by rw[h.x.all _ hm];exact MV _ _ _) he
 have hw:oI a p [e.sym]=(e.to,true):=by
  have:=h.ok.to _ hm _ he
  unfold oI
  rw[aaI (by omega),jT,abk,h1,aaL this,jT]
 unfold Gv.ji
 rw[hw,d];rfl
theorem Xt {x:aN} {s:Int} (b:cT g x) (h:bI g x=(s,true)):∃d:Nat,x.dot=d/\d<(bV g x.aB).length/\(bV g x.aB).drop d=s::(bV g x.aB).drop (d+1):=by
 obtain⟨h1,a⟩:=xn h
 have:=b.2
 refine⟨x.dot.toNat,by omega,by omega,?_⟩
 rw[abt (show x.dot.toNat<(bV g x.aB).length by omega)]
 rw[aaG,aaH (show x.dot.toNat<(bV g x.aB).length by omega)] at a
 simp at a
 rw[a]
end
section
variable {g:aj} {a:List ba}
theorem N7 {x:aN} {s:Int} (a:cT g x) (h:bI g x=(s,true)):∃d:Nat,x.dot=d/\(bV g x.aB).drop d=s::gY g x/\(bV g x.aB).drop (d+1)=gY g x:=by
 obtain⟨d,h1,b,f⟩:=Xt a h
 have e:(bV g x.aB).drop (d+1)=gY g x:=by
  unfold gY
  by_cases c:0<=x.aB
  .rw[aaL c,h1,bV,aaI (by omega)];rfl
  .rw[aaI c]
   have hr:x.aB = -1:=by have:=a.1;omega
   rw[hr] at b ⊢
   simp only[bV,if_true] at b ⊢
   exact aa7 (by simp)
 exact⟨d,h1,by rw[f,e],e⟩
theorem WU (b:eD g a) {q:Nat} (c:q<a.length) {C:Int} {k:Nat} (h:0<=C) (hk:k<g.rules.length) (i:(b6 g k).left=C) (he:tU a q (-1-C)):(⟨k,0⟩:aN)∈Dg g a q:=by
 obtain⟨x,d,e⟩:=(b.Bq c).1 he
 have f:g.rules[k]?=some (b6 g k):=by unfold b6;exact getD_some hk
 exact(gO b.iX (b.bz c)).2 (.step ((gO b.iX (b.bz c)).1 d) e (by omega) f (by omega))
end
section
variable {g:aj} {a:List ba}
end
section
variable {g:aj} {a:List ba}
end
section
variable {g:aj} {a:List ba}
end
theorem G9 {g:aj} (h:(cD g).2=0):isRed g=true/\eD g (cD g).1/\(cD g).1.length<=300:=by
 have hr:isRed g=true:=by
  rcases Ul g with ⟨_,hr⟩ | ⟨b,hr⟩ | ⟨b,hr⟩
  .exact hr
  .exact hr
  .rw[b] at h;simp at h
 have a:=uy hr
 obtain⟨c,d,e⟩:=US a h
 exact⟨hr,⟨a,c,Pf a h,Pl a h,d⟩,e⟩
section
variable {g:aj} {a:List ba} {L:List (List Zm)}
end
section
variable {g:aj} {a:List ba} {w:List Int}
end
section
variable {g:aj} {a:List ba}
end
structure bL where
 st:Nat
 it:aN
 ah:List Int
 be:List Int
def noN:bL:=⟨0,⟨0,0⟩,[],[]⟩
def jB (x y:bL):Bool:=decide (y.st=x.st)&&decide (y.it=x.it)
def iW (l:List bL) (x:bL):List bL:=if l.any (jB x)=true then l else l++[x]
def kg (g:aj) (x:bL) (s:Int):Nat->List bL->List bL
 | 0,l=>l
 | k+1,l=>if (b6 g k).left = -1-s then iW (kg g x s k l) ⟨x.st,⟨k,0⟩,x.ah,gY g x.it++x.be⟩ else kg g x s k l
def gf (g:aj) (a:List ba) (l:List bL) (x:bL):List bL:=
 if (bI g x.it).2=true then kg g x (bI g x.it).1 g.rules.length (iW l ⟨ji a x.st (bI g x.it).1,⟨x.it.aB,x.it.dot+1⟩,x.ah++[(bI g x.it).1],x.be⟩) else l
def iT (g:aj) (a:List ba):Nat->Nat->List bL->List bL
 | 0,_,l=>l
 | f+1,i,l=>match l[i]? with
  | none=>l
  | some x=>iT g a f (i+1) (gf g a l x)
def my:List bL:=[⟨0,⟨-1,0⟩,[],[]⟩]
def cU (g:aj) (a:List ba):List bL:=iT g a 90000 0 my
def dG (l:List bL) (i:Nat):bL:=(l.find? λx=>decide (x.st=i)).getD noN
def dH (g:aj) (x:aN):List Int:=(bV g x.aB).drop x.dot.toNat
theorem pa {g:aj} {x:aN} {s:Int} (a:cT g x) (h:bI g x=(s,true)):dH g x=s::gY g x/\dH g ⟨x.aB,x.dot+1⟩=gY g x:=by
 obtain⟨d,h1,b,c⟩:=N7 a h
 unfold dH
 rw[h1]
 exact⟨by rw[abk];exact b,by simp only;rw[show ((d:Int)+1).toNat=d+1 by omega];exact c⟩
section
variable {g:aj} {a:List ba}
structure Nd (g:aj) (a:List ba) (x:bL):Prop where
 lt:x.st<a.length
 it:x.it∈Dg g a x.st
 Ia:D4 a 0 x.ah x.st
 Zr:∀w,Sp g w (x.ah++(dH g x.it++x.be)) 0 w.length->Sp g w [-1-g.start] 0 w.length
theorem Nd.start (b:eD g a):Nd g a ⟨0,⟨-1,0⟩,[],[]⟩:=by
 refine⟨b.pos,(gO b.iX (b.bz b.pos)).2 (.base (by rw[b.e.first];simp)),.nil,λw h=>?_⟩
 simpa [dH,bV] using h
theorem Nd.move (b:eD g a) {x:bL} (h:Nd g a x) {s:Int} (c:bI g x.it=(s,true)):Nd g a ⟨ji a x.st s,⟨x.it.aB,x.it.dot+1⟩,x.ah++[s],x.be⟩:=by
 obtain⟨s1,s2,d,e⟩:=b.step h.lt h.it c
 obtain⟨f1,f2⟩:=pa (b.has h.lt h.it) c
 refine⟨e,d,h.Ia.snoc s1,λw hw=>h.Zr w ?_⟩
 simp only at hw
 rw[f2] at hw
 rw[f1]
 simpa using hw
theorem Nd.aB (b:eD g a) {x:bL} (h:Nd g a x) {s:Int} (c:bI g x.it=(s,true)) {k:Nat} (hk:k<g.rules.length) (d:(b6 g k).left = -1-s):Nd g a ⟨x.st,⟨k,0⟩,x.ah,gY g x.it++x.be⟩:=by
 obtain⟨s1,s2,o,p⟩:=b.step h.lt h.it c
 obtain⟨f1,f2⟩:=pa (b.has h.lt h.it) c
 have f:g.rules[k]?=some (b6 g k):=by unfold b6;exact getD_some hk
 have l:=b.iX.left _ (aaV f)
 refine⟨h.lt,WU b h.lt l.1 hk rfl (by rw[d];rw[show -1-(-1-s)=s by omega];exact s1),h.Ia,λw hw=>h.Zr w ?_⟩
 have e:dH g ⟨k,0⟩=(b6 g k).right:=by
  unfold dH bV
  rw[aaI (by simp only;omega)];rfl
 simp only at hw
 rw[e] at hw
 rw[f1]
 obtain⟨i,i1,i2⟩:=Sp.split hw
 obtain⟨j,m,n⟩:=Sp.split i2
 exact i1.app (.eJ _ _ _ _ _ _ (by omega) (aaV f) d m n)
def J1 (x:bL):Nat:=x.st*287+((x.it.aB+1)*7+x.it.dot).toNat
theorem Nd.small (b:eD g a) {x:bL} (h:Nd g a x):0<=x.it.aB+1/\(x.it.aB+1)*7+x.it.dot<287/\0<=x.it.dot/\x.it.dot<=6:=by
 have h1:=b.has h.lt h.it
 have:=dY b.iX h1.1
 have:=h1.1;have:=h1.2;have:=b.iX.rules
 omega
theorem key_inj (f:eD g a) {x y:bL} (i:Nd g a x) (j:Nd g a y) (h:J1 x=J1 y):y.st=x.st/\y.it=x.it:=by
 have h1:=i.small f;have l:=j.small f
 unfold J1 at h
 have k:y.st=x.st:=by omega
 have b:y.it.aB=x.it.aB:=by omega
 have c:y.it.dot=x.it.dot:=by omega
 refine⟨k,?_⟩
 cases d:x.it;cases e:y.it
 rw[d,e] at b c
 simp only at b c
 rw[b,c]
structure jZ (g:aj) (a:List ba) (l:List bL):Prop where
 nd:∀x∈l,Nd g a x
 one:(l.map J1).Nodup
 len:∀(j:Nat) (x:bL),l[j]?=some x->x.ah.length<=j/\x.be.length<=6*j
theorem jZ.short (b:eD g a) (e:a.length<=300) {l:List bL} (h:jZ g a l):l.length<=86100:=by
 have:=sB 86100 _ h.one λn c=>by
  obtain⟨x,d,rfl⟩:=aa4.1 c
  have h1:=h.nd x d
  have:=h1.small b;have:=h1.lt
  unfold J1
  omega
 simpa using this
def vK (l m:List bL):Prop:=∃t,m=l++t
theorem vK.refl {l:List bL} : vK l l:=⟨[],by simp⟩
theorem vK.trans {l m n:List bL} (h:vK l m) (k:vK m n):vK l n:=by
 obtain⟨t,rfl⟩:=h;obtain⟨u,rfl⟩:=k;exact⟨t++u,by simp⟩
theorem vK.mem {l m:List bL} (h:vK l m) {x:bL} (a:x∈l):x∈m:=by
 obtain⟨t,rfl⟩:=h;exact aa0.2 (.inl a)
theorem vK.at {l m:List bL} (h:vK l m) {i:Nat} (hi:i<l.length):m[i]?=l[i]?/\i<m.length:=by
 obtain⟨t,rfl⟩:=h;exact⟨abf hi,by simp;omega⟩
def EB (l:List bL) (st:Nat) (it:aN):Prop:=∃y∈l,y.st=st/\y.it=it
theorem EB.up {l m:List bL} (h:vK l m) {st:Nat} {it:aN} (k:EB l st it):EB m st it:=by
 obtain⟨y,a,k⟩:=k;exact⟨y,h.mem a,k⟩
theorem EX (p:eD g a) {l:List bL} (h:jZ g a l) {x:bL} (k:Nd g a x) (h1:x.ah.length<=l.length) (q:x.be.length<=6*l.length):jZ g a (iW l x)/\vK l (iW l x)/\EB (iW l x) x.st x.it:=by
 unfold iW
 split
 .rename_i d
  obtain⟨y,b,o⟩:=abU.1 d
  simp only[jB,aaR,aaX] at o
  exact⟨h,.refl,y,b,o⟩
 .rename_i d
  refine⟨⟨λy b=>?_,?_,λj y c=>?_⟩,⟨[x],rfl⟩,x,by simp,rfl,rfl⟩
  .rcases aa0.1 b with b | b
   .exact h.nd y b
   .simp at b;subst b;exact k
  .rw[aa8,ab2]
   refine⟨h.one,by simp,λn r m hm e=>?_⟩
   obtain⟨y,b,rfl⟩:=aa4.1 r
   simp at hm
   subst hm
   have:=key_inj p k (h.nd y b) e.symm
   exact d (abU.2 ⟨y,b,by simp[jB,this]⟩)
  .by_cases f:j<l.length
   .rw[abf f] at c;exact h.len j y c
   .have i:=(aaO.1 c).1
    simp at i
    have e:j=l.length:=by omega
    subst e
    simp at c
    subst c
    exact⟨h1,q⟩
theorem Gn (c:eD g a) {x:bL} (d:Nd g a x) {s:Int} (f:bI g x.it=(s,true)):∀(k:Nat) (l:List bL),k<=g.rules.length->jZ g a l->x.ah.length<=l.length->x.be.length+6<=6*l.length->jZ g a (kg g x s k l)/\vK l (kg g x s k l)/\∀j:Nat,j<k->(b6 g j).left = -1-s->EB (kg g x s k l) x.st ⟨j,0⟩
 | 0,l,_,h,_,_=>⟨h,.refl,λj i=>absurd i (by omega)⟩
 | k+1,l,hk,h,h1,n=>by
  obtain⟨i1,i2,i3⟩:=Gn c d f k l (by omega) h h1 n
  rw[kg]
  have hle:l.length<=(kg g x s k l).length:=by obtain⟨t,o⟩:=i2;rw[o];simp
  split
  .rename_i m
   obtain⟨f1,f2⟩:=pa (c.has d.lt d.it) f
   have hr:(gY g x.it).length<=6:=by
    have:=dY c.iX (c.has d.lt d.it).1
    have e:=abQ List.length f1
    simp[dH] at e
    omega
   obtain⟨m1,m2,m3⟩:=EX c i1 (d.aB c f (by omega) m) (by simp only;omega) (by simp only[aa5];omega)
   refine⟨m1,i2.trans m2,λj i b=>?_⟩
   by_cases e:j=k
   .subst e;exact m3
   .exact(i3 j (by omega) b).up m2
  .rename_i m
   refine⟨i1,i2,λj i b=>?_⟩
   have e:j≠k:=by rintro rfl;exact m b
   exact i3 j (by omega) b
def JJ (g:aj) (a:List ba) (l:List bL) (x:bL):Prop:=∀s,bI g x.it=(s,true)->EB l (ji a x.st s) ⟨x.it.aB,x.it.dot+1⟩/\∀k:Nat,k<g.rules.length->(b6 g k).left = -1-s->EB l x.st ⟨k,0⟩
theorem zH (c:eD g a) {l:List bL} (h:jZ g a l) {i:Nat} {x:bL} (hi:l[i]?=some x):jZ g a (gf g a l x)/\vK l (gf g a l x)/\JJ g a (gf g a l x) x:=by
 have j:=h.nd x (aaV hi)
 have m:=(aaO.1 hi).1
 have q:=h.len i x hi
 unfold gf
 split
 .rename_i d
  generalize e:(bI g x.it).1=s
  have f:bI g x.it=(s,true):=by rw[<-e,<-d]
  obtain⟨m1,m2,m3⟩:=EX c h (j.move c f) (by simp only[aa5,aaS,abe];omega) (by simp only;omega)
  have hle:l.length<=(iW l ⟨ji a x.st s,⟨x.it.aB,x.it.dot+1⟩,x.ah++[s],x.be⟩).length:=by obtain⟨t,n⟩:=m2;rw[n];simp
  obtain⟨o,k,p⟩:=Gn c j f g.rules.length _ (aaQ _) m1 (by omega) (by omega)
  refine⟨o,m2.trans k,λr b=>?_⟩
  rw[f] at b
  simp only[aaN,and_true] at b
  subst b
  exact⟨m3.up k,p⟩
 .rename_i d
  exact⟨h,.refl,λs e=>absurd (by rw[e]) d⟩
theorem EK (d:eD g a) (p:a.length<=300):∀(f i:Nat) (l:List bL),jZ g a l->i<=l.length->86101<=f+i->(∀(j:Nat) (x:bL),j<i->l[j]?=some x->JJ g a l x)->jZ g a (iT g a f i l)/\vK l (iT g a f i l)/\∀x∈iT g a f i l,JJ g a (iT g a f i l) x
 | 0,i,l,h,hi,q,hw=>absurd (h.short d p) (by omega)
 | f+1,i,l,h,hi,q,hw=>by
  rw[iT]
  cases e:l[i]? with
  | none =>
   have:=List.getElem?_eq_none_iff.1 e
   simp only
   refine⟨h,.refl,λx r=>?_⟩
   obtain⟨j,m⟩:=List.getElem?_of_mem r
   have u:=(aaO.1 m).1
   exact hw j x (by omega) m
  | some x =>
   simp only
   have n:=(aaO.1 e).1
   obtain⟨v,b,w⟩:=zH d h e
   have hle:l.length<=(gf g a l x).length:=by obtain⟨t,z⟩:=b;rw[z];simp
   obtain⟨A,B,C⟩:=EK d p f (i+1) _ v (by omega) (by omega) λj y m c=>by
    by_cases o:j=i
    .subst o
     rw[(b.at n).1,e] at c
     simp at c
     subst c
     exact w
    .rw[(b.at (i:=j) (by omega)).1] at c
     intro s D
     obtain⟨E,F⟩:=hw j y (by omega) c s D
     exact⟨E.up b,λk hk G=>(F k hk G).up b⟩
   exact⟨A,b.trans B,C⟩
theorem za (d:eD g a):jZ g a my:=by
 refine⟨λx c=>?_,by simp[my],λj x b=>?_⟩
 .simp[my] at c;subst c;exact .start d
 .have:=(aaO.1 b).1
  simp[my] at this
  subst this
  simp[my] at b
  subst b
  simp
theorem zX (b:eD g a) (c:a.length<=300):jZ g a (cU g a)/\(∀x∈cU g a,JJ g a (cU g a) x)/\EB (cU g a) 0 ⟨-1,0⟩:=by
 obtain⟨d,e,f⟩:=EK b c 90000 0 my (za b) (abY _) (by omega) λj x h=>absurd h (by omega)
 exact⟨d,f,⟨0,⟨-1,0⟩,[],[]⟩,e.mem (by simp[my]),rfl,rfl⟩
theorem XI (b:eD g a) (r:a.length<=300):∀n p:Nat,p<n->p<a.length->∀y∈Dg g a p,EB (cU g a) p y:=by
 obtain⟨h1,m,t⟩:=zX b r
 intro n
 induction n with
 | zero=>intro p hp;omega
 | succ n v =>
  intro p hp c y w
  have A:=(gO b.iX (b.bz c)).1 w
  induction A with
  | base hk =>
   by_cases d:p=0
   .subst d
    rw[b.e.first] at hk
    simp at hk
    subst hk
    exact t
   .obtain⟨q,z,s,I,B,C,D,rfl,J,E⟩:=b.prev c hk (by omega)
    obtain⟨u,hu,f,h⟩:=v q (by omega) B z C
    subst h
    have:=(m u hu s D).1
    rw[f,E] at this
    exact this
  | @step x s k R F G K o H i =>
   have j:=(gO b.iX (b.bz c)).2 F
   obtain⟨u,hu,f,h⟩:=i j
   subst h
   have hk:=(aaO.1 o).1
   have l:b6 g k=R:=by unfold b6;rw[abk,aaG,o];rfl
   have:=(m u hu _ G).2 k hk (by rw[l];exact H)
   rw[f] at this
   exact this
theorem DW (b:eD g a) (f:a.length<=300) {i:Nat} (hi:i<a.length):dG (cU g a) i∈cU g a/\(dG (cU g a) i).st=i/\Nd g a (dG (cU g a) i):=by
 obtain⟨h1,k,l⟩:=zX b f
 have c:∃y,y∈Dg g a i:=by
  have hk:=(b.ok.bz (a.getD i bY) (aaV (getD_some hi))).2.1
  obtain⟨y,d⟩:=List.exists_mem_of_ne_nil _ hk
  exact⟨y,(gO b.iX (b.bz hi)).2 (.base d)⟩
 obtain⟨y,d⟩:=c
 obtain⟨u,hu,j,m⟩:=XI b f _ i (Nat.lt_succ_self i) hi y d
 unfold dG
 cases e:(cU g a).find? λx=>decide (x.st=i) with
 | none =>
  have:=List.find?_eq_none.1 e u hu
  simp[j] at this
 | some z =>
  have h:=List.find?_some e
  have z2:=List.mem_of_find?_eq_some e
  simp at h
  exact⟨z2,h,h1.nd z z2⟩
end
theorem C2 {g:aj} (l:List Int):aI (di g l).1/\(di g l).1.length<=60:=by
 unfold di
 split
 .split
  .unfold aI;simp
  .rename_i hk
   split
   .unfold aI;simp
   .rename_i b
    have a:=(ia (aA g) l bm).1 (by simpa using hk)
    have:=IA a (by omega)
    unfold aI;simp only;omega
 .unfold aI;simp
theorem Ag {g:aj} {a l b:List Int} (h:(di g (a++l++b)).2=0):di g l=(dV g (aA g) g.av.length l,0):=by
 unfold di at h
 split at h
 .rename_i h1
  split at h
  .simp at h
  .rename_i e
   split at h
   .simp at h
   .rename_i f
    simp only[acU,aaR] at h1
    have c:=(ia (aA g) (a++l++b) bm).1 (by simpa using e)
    have d:iz (aA g) l:=λx i=>c x (by simp[i])
    have t1:=pf g g.av.length (a++l++b) bm (s6 c) ib
    have t2:=pf g g.av.length l bm (s6 d) ib
    simp only[j6,gh,aa5,bm] at t1 t2
    have j:(bP (aA g) l bm).2=true:=(ia _ _ _).2 d
    simp only[bm] at f
    unfold di
    rw[aaL (by rw[aaR];exact⟨h1.1,h1.2.1.2⟩),aaI (by rw[j];simp),aaI]
    simp only[bm]
    omega
 .simp at h
theorem Vk {g:aj} {l:List Int} (h:(di g l).2=0):bt g=true/\Sp g (di g l).1 l 0 (di g l).1.length/\(∀x∈(di g l).1,0<=x/\x<g.ax.length):=by
 have h1:(bt g&&l.all (dN g))=true:=by
  unfold di at h
  split at h
  .assumption
  .simp at h
 simp only[aaR,abc] at h1
 have c:(bP (aA g) l bm).2=true:=by
  unfold di at h
  split at h
  .split at h
   .simp at h
   .rename_i c;simpa using c
  .simp at h
 have hp:=Ag (a:=[]) (l:=l) (b:=[]) (by simpa using h)
 have d:=(ia (aA g) l bm).1 c
 have e:=bF h1.1
 have f:=Ro (λr hr=>(e.left r hr).1) g.av.length l (s6 d)
 rw[hp]
 refine⟨h1.1,by simpa using Ym f [] [],TX e.sym f h1.2⟩
section
variable {g:aj} {a:List ba}
def Z3 (g:aj) (l:List bL) (i:Nat):List Int × List Int:=((dG l i).ah,dH g (dG l i).it++(dG l i).be)
def fj (g:aj) (a:List ba) (i:Nat):List Int × List Int:=Z3 g (cU g a) i
structure ij where
 state:Int
 len:Int
 word:List Int
def wY (g:aj) (a:List ba) (i:Nat):ij:=⟨i,((di g (fj g a i).1).1.length:Int),(di g ((fj g a i).1++(fj g a i).2)).1⟩
end
theorem D2 {g:aj} {u v:List Int} (h:(di g (u++v)).2=0):(di g u).2=0/\(di g u).1.length<=(di g (u++v)).1.length:=by
 have h1:=Ag (a:=[]) (l:=u) (b:=v) (by simpa using h)
 have c:=Ag (a:=[]) (l:=u++v) (b:=[]) (by simpa using h)
 rw[h1,c]
 refine⟨rfl,?_⟩
 simp only
 rw[gh,aa5]
 omega
def fQ (w:List Int) (p n:Nat) (o:List Int):List Int:=w.take p++(o++w.drop (p+n))
def lk (g:aj) (w:List Int) (most:Int):Bool:=decide ((w.length:Int)<=most) && !(k5 g w).1
def jz (g:aj) (w:List Int) (p:Nat) (t most:Int):List Int × Bool:=
 if p<w.length/\w.getD p 0≠t/\lk g (fQ w p 1 [t]) most=true then (fQ w p 1 [t],true)
 else if lk g (fQ w p 0 [t]) most=true then (fQ w p 0 [t],true) else ([],false)
def qK (g:aj) (w:List Int) (p t most:Int):(List Int × Bool) × Int:=
 if jb g w=true/\(0<=p/\p<=w.length)/\(0<=t/\t<g.ax.length)/\(0<=most/\most<=60) then (jz g w p.toNat t most,0) else (([],false),1)
theorem HQ {g:aj} {w:List Int} : jb g w=true↔bt g=true/\w.length<=60/\∀x∈w,0<=x/\x<g.ax.length:=by
 unfold jb AZ
 simp[and_assoc]
theorem yo {w:List Int} {p n:Nat} {o:List Int} {x:Int} (h:x∈fQ w p n o):x∈w∨x∈o:=by
 unfold fQ at h
 rcases aa0.1 h with h | h
 .exact .inl (aci h)
 .rcases aa0.1 h with h | h
  .exact .inr h
  .exact .inl (List.mem_of_mem_drop h)
theorem CE {g:aj} {w:List Int} {a:Int} (hr:bt g=true) (hw:∀x∈w,0<=x/\x<g.ax.length) (hm:a<=60) (b:(w.length:Int)<=a):k5 g w=(nN g w,0):=by
 rw[k5,aaL (HQ.2 ⟨hr,by omega,hw⟩)]
theorem Bj {g:aj} {w:List Int} {a:Int} (hr:bt g=true) (hw:∀x∈w,0<=x/\x<g.ax.length) (hm:a<=60):lk g w a=true↔(w.length:Int)<=a/\nN g w=false:=by
 unfold lk
 by_cases b:(w.length:Int)<=a
 .rw[CE hr hw hm b];simp[b]
 .simp[b]
theorem HN {g:aj} {w:List Int} {p n:Nat} {t:Int} (hw:∀x∈w,0<=x/\x<g.ax.length) (a:0<=t/\t<g.ax.length):∀x∈fQ w p n [t],0<=x/\x<g.ax.length:=λx b=>by
 rcases yo b with h | h
 .exact hw x h
 .simp at h;subst h;exact a
theorem U7 {g:aj} {w:List Int} {p:Nat} {t a:Int} (h:(jz g w p t a).2=true):lk g (jz g w p t a).1 a=true:=by
 unfold jz at h ⊢
 split
 .rename_i h1;exact h1.2.2
 .rename_i h1
  rw[aaI h1] at h
  split
  .assumption
  .rename_i b;rw[aaI b] at h;simp at h
def qB (g:aj) (b:ij) (most:Int) (n:Nat):List (List Int):=(List.range n).flatMap λ(t:Nat)=>if (jz g b.word b.len.toNat t most).2=true then [(jz g b.word b.len.toNat t most).1] else []
def lB (g:aj) (b:ij) (most:Int):List (List Int):=
 qB g b most g.ax.length
 ++ (if b.len<b.word.length/\lk g (fQ b.word b.len.toNat 1 []) most=true then [fQ b.word b.len.toNat 1 []] else [])
 ++ (if b.len+1<b.word.length/\lk g (b.word.take b.len.toNat) most=true then [b.word.take b.len.toNat] else [])
theorem BY (g:aj) (b:ij) (a:Int) (n:Nat):qB g b a (n+1)=qB g b a n++(if (jz g b.word b.len.toNat n a).2=true then [(jz g b.word b.len.toNat n a).1] else []):=by
 unfold qB
 rw[ab9,List.flatMap_append]
 simp
theorem Vd (g:aj) (b:ij) (a:Int):(lB g b a).length<=g.ax.length+2:=by
 have h:∀n,(qB g b a n).length<=n:=λn=>by
  induction n with
  | zero=>simp[qB]
  | succ n c =>
   rw[BY,aa5]
   split<;>simp<;>omega
 have:=h g.ax.length
 unfold lB
 rw[aa5,aa5]
 split<;>split<;>simp<;>omega
theorem Va {g:aj} {b:ij} {a:Int} {x:List Int} (h:x∈lB g b a):lk g x a=true:=by
 unfold lB at h
 rcases aa0.1 h with h | h
 .rcases aa0.1 h with h | h
  .unfold qB at h
   obtain⟨t,_,c⟩:=acB.1 h
   split at c
   .rename_i h1
    simp at c
    rw[c]
    exact U7 h1
   .simp at c
  .split at h
   .rename_i h1;simp at h;rw[h];exact h1.2
   .simp at h
 .split at h
  .rename_i h1;simp at h;rw[h];exact h1.2
  .simp at h
theorem Pm {g:aj} {b:ij} {c:Int} (hw:∀x∈b.word,0<=x/\x<g.ax.length) {x:List Int} (h:x∈lB g b c):∀y∈x,0<=y/\y<g.ax.length:=by
 unfold lB at h
 rcases aa0.1 h with h | h
 .rcases aa0.1 h with h | h
  .unfold qB at h
   obtain⟨t,e,d⟩:=acB.1 h
   have f:=abH.1 e
   split at d
   .simp at d
    rw[d]
    unfold jz
    split
    .exact HN hw (by omega)
    .split
     .exact HN hw (by omega)
     .simp
   .simp at d
  .split at h
   .simp at h
    subst h
    intro y a
    rcases yo a with a | a
    .exact hw y a
    .simp at a
   .simp at h
 .split at h
  .simp at h
   subst h
   exact λy a=>hw y (aci a)
  .simp at h
abbrev ZQ:=Option Nat
section
variable {g:aj}
end
abbrev aai:=List (List ZQ)
section
variable {g:aj} {c:aai}
end
section
variable {g:aj}
end
theorem bG {g:aj} (d:g.Ok) {n:Nat} {w:List Int} (hr:bt g=true) (h:n<=10) (hw:w∈JM (nN g) g.ax.length n []):k5 g w=(true,0)/\w.length=n/\aI w/\∀x∈w,bp x:=by
 obtain⟨h1,s,e,f,c⟩:=Mf _ _ _ hw
 rw[abD] at e
 subst e
 refine⟨?_,f,by unfold aI;omega,λx a=>?_⟩
 .rw[k5,aaL,h1]
  simp only[jb,aaR,aaX]
  refine⟨⟨hr,by omega⟩,?_⟩
  unfold AZ
  rw[abc]
  intro x a
  have:=c x a
  simpa using this
 .have:=c x a
  have b:=d.ax
  unfold aI at b
  unfold bp
  omega
def Yq (x:List Int × Bool):V:=.bb [encI x.1,gb x.2]
theorem YT {w:List Int} {p n:Nat} {t:Int} (a:∀x∈w,bp x) (b:bp t):∀x∈fQ w p n [t],bp x:=λx c=>by
 rcases yo c with h | h
 .exact a x h
 .simp at h;subst h;exact b
theorem TB {w:List Int} {p n:Nat} {t:Int} (hw:w.length<=1000):aI (fQ w p n [t]):=by
 unfold aI fQ
 simp
 omega
theorem XQ {h:Heap} {u v:V} {b:Bool} (hu:Fr h u v):Fr h (.bb [u,gb b]) (.bb [v,gb b]):=.bb _ _ rfl λi hi=>by
 match i,hi with
 | 0,_=>exact hu
 | 1,_=>exact .tree _ (.val _)
def Hh (x:(List Int × Bool) × Int):V:=.bb [encI x.1.1,gb x.1.2,gi x.2]
theorem A0 {g:aj} {x:bL} {s:Int} (h:∀k:Nat,k<g.rules.length->(b6 g k).left≠-1-s):∀(k:Nat) (l:List bL),k<=g.rules.length->kg g x s k l=l
 | 0,_,_=>rfl
 | k+1,l,hk=>by
  rw[kg,aaI (h k (by omega)),A0 h k l (by omega)]
def gW:List bL->Int->Nat->Int
 | [],_,_=>-1
 | x::l,i,n=>if (x.st:Int)=i then n else gW l i (n+1)
theorem Gd (i:Int):∀(l:List bL) (n:Nat) (x:bL),gW (l++[x]) i n=if gW l i n<0 then (if (x.st:Int)=i then ((n+l.length:Nat):Int) else -1) else gW l i n
 | [],n,x=>by simp[gW]
 | y::l,n,x=>by
  rw[abl,gW,gW]
  split
  .rw[aaI (by omega)]
  .rw[Gd i l (n+1) x]
   split
   .split
    .simp only[aaS];congr 1;omega
    .rfl
   .rfl
theorem C8 (i:Nat):∀(l:List bL) (n:Nat),(∃x∈l,x.st=i)->∃k:Nat,gW l i n=((n+k:Nat):Int)/\k<l.length/\l[k]?=some (dG l i)
 | [],_,h=>by obtain⟨x,a,_⟩:=h;simp at a
 | y::l,n,h=>by
  rw[gW]
  by_cases e:y.st=i
  .rw[aaL (by omega)]
   exact⟨0,rfl,by simp,by simp[dG,e]⟩
  .rw[aaI (by omega)]
   obtain⟨x,a,hi⟩:=h
   have b:x∈l:=by
    rcases aa1.1 a with rfl | a
    .exact absurd hi e
    .exact a
   obtain⟨k,h1,d,c⟩:=C8 i l (n+1) ⟨x,b,hi⟩
   refine⟨k+1,by rw[h1];congr 1;omega,by simp only[aaS];omega,?_⟩
   rw[abv,c]
   simp[dG,e]
end
end Gv
