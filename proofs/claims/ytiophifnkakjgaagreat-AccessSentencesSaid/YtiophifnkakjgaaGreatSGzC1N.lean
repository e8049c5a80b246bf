/-
  Part 14 of the proof: what the machine does and what the functions answer.
  Conditions: those that each lemma names.
-/
import Derived.Shelf.SlSortCmp.NoneTotal
import Derived.Shelf.SlicesG.Cmp
import Derived.StillTailTactics
import Derived.Test.YtiophifnkakjgaaGreatSGzC1M
set_option linter.unusedSimpArgs false
set_option linter.unusedVariables false
set_option maxRecDepth 100000
set_option maxHeartbeats 20000000
namespace Gv
open Go Go.Proofs
def sS:SC :=
 ae [ae [ab [aa 11 7,aa 12 1,aN 13 12,aQ 14 .lss 11 13],bX 14 (.exit 0)],.block 1 (ae [ab [aZ 17 4 3,aa 18 1,aa 19 7,aO 20 1 18 19,ak 21 20,bk 22 74 [17,21],c9 23 22],bb 23 (ae [ab [((some 6),.op (.eJ (.val (.val (.int .u32 0)))))],.ret])]),ab [aa 15 7,aF 16 .add 15 1,aa 7 16]]
def ve:SF:=⟨ae [ab [cF 3 0,((some 6),.op (.eJ (.val (.val (.int .u32 0)))))],ae [ab [aZ 8 4 3,bk 9 50 [8],c9 10 9],bb 10 (ae [ab [((some 6),.op (.eJ (.val (.val (.int .u32 0)))))],.ret])],ae [ab [aR 7 0],bZ 0 sS],.region true [⟨none,[aa 24 1,aZ 25 4 3,bk 26 230 [25],aZ 27 4 3,bk 28 231 [27],aa 29 2,bk 30 229 [24,26,28,29],aa 6 30]⟩],.ret],
 [.tmp 6],31⟩
theorem Ay:aP Tryz.prog 167 [3]=some ve:=by kernel_rfl
def tH:SF:=⟨ae [ab [cF 2 0,cF 3 1,bB 4 false],.region true [⟨none,[aZ 5 4 2,bk 6 50 [5],aa 7 6]⟩,⟨(some (7,true)),[ao 8 0 3,ak 9 8,aF 10 .geq 9 (-1)]⟩,⟨none,[eO 11 7 10,aa 12 11]⟩,⟨(some (12,true)),[ao 13 0 3,ak 14 13,ao 15 2 2,ak 16 15,aN 17 16,aQ 18 .lss 14 17]⟩,⟨none,[eO 19 12 18,aa 20 19]⟩,⟨(some (20,true)),[ao 21 1 3,ak 22 21,aF 23 .geq 22 0]⟩,⟨none,[eO 24 20 23,aa 25 24]⟩,⟨(some (25,true)),[ao 26 1 3,ak 27 26,aZ 28 4 2,ao 29 0 3,ak 30 29,bk 31 199 [28,30],aN 32 31,aQ 33 .leq 27 32]⟩,⟨none,[eO 34 25 33,aa 4 34]⟩],.ret],
 [.tmp 4],35⟩
theorem yO:aP Tryz.prog 166 [2,3]=some tH:=by kernel_rfl
def sF:SF:=⟨ae [ab [cF 2 0,cF 3 1,aR 4 0,bB 5 false],ae [ab [aZ 6 4 2,aZ 7 2 3,bk 8 166 [6,7],c9 9 8],bb 9 (ae [ab [aR 4 0,bB 5 false],.ret])],ab [aZ 10 4 2,aZ 11 2 3,bk 12 134 [10,11],dr 13 0 12,dr 14 1 12,aa 4 13,aa 5 14],.ret],
 [.tmp 4,.tmp 5],15⟩
theorem ye:aP Tryz.prog 100 [2,3]=some sF:=by kernel_rfl
def nk:SC :=
 ae [ae [ab [aa 7 6,aa 8 1,aN 9 8,aQ 10 .lss 7 9],bX 10 (.exit 0)],.block 1 (ae [ab [aZ 13 4 2,aa 14 1,aa 15 6,aO 16 2 14 15,aZ 17 2 16,bk 18 166 [13,17]],bb 18 (ab [aa 19 5,aa 20 1,aa 21 6,aO 22 2 20 21,aZ 23 2 22,((some 24),.op (.bJ 1 2 [(.val (.int .i64 0)),(.val (.int .i64 0))] [(0,(.tmp 23))])),fD 25 2 16 19 24,aa 5 25])]),ab [aa 11 6,aF 12 .add 11 1,aa 6 12]]
def pg:SF:=⟨ae [ab [cF 2 0,bT 4 1],ab [bT 5 1],ae [ab [aR 6 0],bZ 0 nk],ae [ab [aa 26 5,aN 27 26,aF 28 .eql 27 0],bb 28 (ae [ab [bT 4 1],.ret])],ab [aZ 29 4 2,aa 30 5,bk 31 69 [29,30],aa 4 31],.ret],
 [.tmp 4],32⟩
theorem uB:aP Tryz.prog 96 [2]=some pg:=by kernel_rfl
def kW:SC :=
 ae [ae [.region false [⟨none,[aa 26 11,aa 27 0,aa 28 1,aO 29 2 27 28,ao 30 1 29,ak 31 30,aN 32 31,aQ 33 .lss 26 32,aa 34 33]⟩,⟨(some (34,true)),[aa 35 10,c9 36 35]⟩,⟨none,[eO 37 34 36]⟩],bX 37 (.exit 2)],.block 3 (ae [ab [aa 40 0,aa 41 1,aO 42 2 40 41,ao 43 1 42,ak 44 43,aa 45 11,aO 46 2 44 45,ao 47 0 46,ak 48 47,aa 49 2,aa 50 8,aO 51 1 49 50,ak 52 51,aQ 53 .eql 48 52],bb 53 (ab [aa 54 0,aa 55 1,aO 56 2 54 55,ao 57 1 56,ak 58 57,aa 59 11,aO 60 2 58 59,ao 61 1 60,ak 62 61,aa 9 62,bB 10 true])]),ab [aa 38 11,aF 39 .add 38 1,aa 11 39]]
def pW:SC :=
 ae [ae [ab [aa 20 8,aa 21 2,aN 22 21,aQ 23 .lss 20 22],bX 23 (.exit 0)],.block 1 (ae [ab [aR 9 (-1),bB 10 false],ae [ab [aR 11 0],bZ 2 kW],ae [.region false [⟨none,[aa 63 9,aF 64 .lss 63 0,aa 65 64]⟩,⟨(some (65,false)),[aa 66 9,aa 67 0,aN 68 67,aQ 69 .geq 66 68]⟩,⟨none,[cy 70 65 69]⟩],bb 70 (ae [ab [aR 6 0,bB 7 false],.ret])],ab [aa 71 9,aa 1 71]]),ab [aa 24 8,aF 25 .add 24 1,aa 8 25]]
def sX:SF:=⟨ae [ab [aR 6 0,bB 7 false],ae [.region false [⟨none,[aa 12 1,aF 13 .lss 12 0,aa 14 13]⟩,⟨(some (14,false)),[aa 15 1,aa 16 0,aN 17 16,aQ 18 .geq 15 17]⟩,⟨none,[cy 19 14 18]⟩],bb 19 (ae [ab [aR 6 0,bB 7 false],.ret])],ae [ab [aR 8 0],bZ 0 pW],ab [aa 72 1,aa 6 72,bB 7 true],.ret],
 [.tmp 6,.tmp 7],73⟩
theorem xO:aP Tryz.prog 33 []=some sX:=by kernel_rfl
def NF (g:af) (syms:List Int) (rest:BV):BV:=if bp g=true/\∀ s∈syms,dL g s=true then ej (av g false) (cU g (av g false)) rest syms else 0
theorem Xo (g:af) (j:g.Ok) (syms:List Int) (rest:BV) (b:aK syms) (q:∀ s∈syms,bM s):az Tryz.prog 167 [.agg (ag g),encI syms,gw rest] (gw (NF g syms rest)):=by
 have l:=b
 unfold aK at l
 refine az.val (by
  intro v r;simp at r
  rcases r with rfl | rfl | rfl
  .exact bL _ (cd g)
  .exact cx _
  .exact .val _) λH=>?_
 have d:=iO g j
 have e:=zY g j
 have c:=(Pn g j).pure
 have hH:=λs h=>RY g s (q s h)
 refine aw.of mixed Ay ?_
 simp only[ag,encS] at d e c hH
 simp(disch:=omega)only[↓wr,seval,wq,ve,ag,encS,encI]
 refine ax.pure d ?_
 simp(disch:=omega)only[↓wr,seval,wq]
 apply aj.split<;>intro hr
 rotate_left
 .simp(disch:=omega)only[↓wr,seval,wq]
  rw[NF,aaD (by rw[hr];simp)];rfl
 have w:=bj hr
 have m:=jf hr false
 have n:=FW g (av g false)
 rw[Lm,aaF hr] at c
 simp(disch:=omega)only[↓wr,seval,wq,ag,encS,encI]
 refine ba.up syms.length (λi T H'=>(∀ s∈syms.take i,dL g s=true)/\T 1=encI syms/\T 2=gw rest/\T 3=.aL (ag g) 0/\T 7=gi i) ⟨by simp,rfl,rfl,rfl,rfl⟩ ?_
 rintro i k T H' hk ⟨a,t1,t2,t3,t7⟩
 simp(disch:=omega)only[↓wr,seval,wq,sS,t1,t2,t3,t7,encI]
 apply aj.dec<;>intro u
 .have o:syms[i]?=some (syms[i]'(by omega)):=aaB (by omega)
  have hm:=aaL (show i < syms.length by omega)
  have f:syms.take (i+1)=syms.take i ++ [syms[i]'(by omega)]:=by rw[aa3,o];rfl
  generalize syms[i]'(by omega)=x at o hm f
  simp(disch:=omega)only[↓wr,seval,wq,t1,t2,t3,t7,ag,encS,encI,aaE,o,aaH]
  refine ax.pure (hH x hm) ?_
  simp(disch:=omega)only[↓wr,seval,wq]
  apply aj.split<;>intro he
  .simp(disch:=omega)only[↓wr,seval,wq,t1,t2,t3,t7]
   refine aG hk (by omega) ⟨λs b=>?_,t1,t2,t3,rfl⟩
   rw[f] at b
   rcases aa1.1 b with b | b
   .exact a s b
   .simp at b;subst b;exact he
  .simp(disch:=omega)only[↓wr,seval,wq]
   rw[NF,aaD (λh=>by have:=h.2 x hm;rw[he] at this;simp at this)];rfl
 .rw[aaS (by omega)] at a
  have p:=Nz syms (av g false) (cU g (av g false)) rest b λs h=>⟨q s h,λt=>by
   have:=a s h
   unfold dL at this
   rw[aaD (by omega)] at this
   simp at this
   omega⟩
  simp(disch:=omega)only[↓wr,seval,wq,t1,t2,t3,ag,encS]
  refine ax.pure e ?_
  simp(disch:=omega)only[↓wr,seval,wq,t1,t2,t3,ag,encS]
  refine ax.pure c ?_
  simp(disch:=omega)only[↓wr,seval,wq,t1,t2,t3,ag,encS]
  refine ax.pure p ?_
  simp(disch:=omega)only[↓wr,seval,wq]
  rw[NF,aaF ⟨hr,a⟩]
instance (g:af) (x:ay):Decidable (cw g x):=by unfold cw;infer_instance
def iH (g:af) (x:ay):Bool:=bp g && decide (cw g x)
theorem M7 (g:af) (x:ay):∀ v∈[V.agg (ag g),.agg (bu x)],Tree v:=by
 intro v a;simp at a
 rcases a with rfl | rfl
 .exact bL _ (cd g)
 .exact bL _ λv a=>by simp[bu] at a;rcases a with rfl | rfl <;> exact .val _
theorem LW (g:af) (f:g.Ok) (x:ay) (i:bM x.au/\bM x.dot):az Tryz.prog 166 [.agg (ag g),.agg (bu x)] (gb (iH g x)):=by
 refine az.val (M7 g x) λH=>?_
 have a:=iO g f
 obtain⟨c,d⟩:=i
 unfold bM at c d
 refine aw.of mixed yO ?_
 simp only[ag,encS] at a
 simp(disch:=omega)only[↓wr,seval,wq,tH,ag,encS,bu]
 refine ax.pure a ?_
 have bad:¬ cw g x->gb false=gb (iH g x):=λh=>by unfold iH;rw[decide_eq_false h,acy]
 simp(disch:=omega)only[↓wr,seval,wq]
 apply aj.split<;>intro hr
 rotate_left
 .simp(disch:=omega)only[↓wr,seval,wq]
  unfold iH;rw[hr];rfl
 have e:=bj hr
 simp(disch:=omega)only[↓wr,seval,wq,bu]
 apply aj.dec<;>intro h1
 rotate_left
 .simp(disch:=omega)only[↓wr,seval,wq]
  exact bad λh=>by have:=h.1;omega
 simp(disch:=omega)only[↓wr,seval,wq,bu,ag]
 apply aj.dec<;>intro j
 rotate_left
 .simp(disch:=omega)only[↓wr,seval,wq]
  exact bad λh=>by have:=h.1;omega
 simp(disch:=omega)only[↓wr,seval,wq,bu]
 apply aj.dec<;>intro k
 rotate_left
 .simp(disch:=omega)only[↓wr,seval,wq]
  exact bad λh=>by have:=h.2;omega
 have b:=EP g (mN e) x.au ⟨by omega,by omega⟩
 have l:=dS e (r:=x.au) ⟨by omega,by omega⟩
 simp only[ag,encS,encI] at b
 simp(disch:=omega)only[↓wr,seval,wq,bu,ag,encS]
 refine ax.pure b ?_
 simp(disch:=omega)only[↓wr,seval,wq,bu]
 congr 2
 unfold iH
 rw[hr,abM]
 congr 1
 unfold cw
 simp only[eq_iff_iff]
 omega
def Fy (g:af) (x:ay):Int × Bool:=if iH g x=true then aW g x else (0,false)
theorem p8 {g:af} {x:ay} : iH g x=true↔bp g=true/\cw g x:=by simp[iH]
theorem Hy (g:af) (c:g.Ok) (x:ay) (d:bM x.au/\bM x.dot):az Tryz.prog 100 [.agg (ag g),.agg (bu x)] (.bf [gi (Fy g x).1,gb (Fy g x).2]):=by
 have a:=LW g c x d
 refine az.tree (M7 g x) (B1 (.val _) (.val _)) λH=>?_
 refine aw.of mixed ye ?_
 simp only[ag,encS,bu] at a
 simp(disch:=omega)only[↓wr,seval,wq,sF,ag,encS,bu]
 refine ax.pure a ?_
 unfold Fy
 simp(disch:=omega)only[↓wr,seval,wq]
 apply aj.split<;>intro h
 .obtain⟨h1,e⟩:=p8.1 h
  have b:=Dc g (bj h1) x e
  simp only[ag,encS,bu] at b
  simp(disch:=omega)only[↓wr,seval,wq,ag,encS,bu]
  refine ax.pure b ?_
  simp(disch:=omega)only[↓wr,seval,wq]
  rw[aaF h]
 .simp(disch:=omega)only[↓wr,seval,wq]
  rw[h];simp
theorem Q2 (g:af):cJ g []=[]:=by
 have:∀ x,¬ lx g [] x:=λx h=>by
  induction h with
  | base h=>simp at h
  | step _ _ _ _ _ a=>exact a
 unfold cJ
 rw[List.filter_eq_nil_iff.2 λx _=>by simp[this x]]
 rfl
theorem Ye {h:aE} {u:V} {l:List ay} (b:aT h.view u 2 (aV l)):cM h u (.aU (aV l)):=by
 refine cM.own b rfl (λi _=>rfl) (λi j hi a=>?_)
 rw[bG] at hi
 have e:(aV l).getD i []=bu l[i]:=by simp[aV,aaA,hi]
 rw[e] at a ⊢
 match j,a with
 | 0,_=>exact .val _
 | 1,_=>exact .val _
theorem Ig {α:Type} {l:List α} {p:α->Bool} {i:Nat} {x:α} (h:l[i]?=some x):(l.take (i+1)).filter p=if p x=true then (l.take i).filter p ++ [x] else (l.take i).filter p:=by
 rw[aa3,h,ach]
 split
 .rename_i hp;simp[hp]
 .rename_i hp;simp[hp]
theorem JO (g:af) (s:g.Ok) (l:List ay) (C:l.length<=10000) (t:∀ x∈l,bM x.au/\bM x.dot):cK Tryz.prog 96 [.agg (ag g),.aU (aV l)] (.aU (aV (cJ g (l.filter (iH g))))):=by
 refine cK.of (by
  intro v m;simp at m
  rcases m with rfl | rfl
  .exact bL _ (cd g)
  .exact Co _) ?_
 refine aw.of mixed uB ?_
 simp(disch:=omega)only[↓wr,seval,wq,pg,ag,encS,aV]
 refine ba.up l.length (λi T H'=>∃ r:V,aT H' r 2 (aV ((l.take i).filter (iH g)))/\T 1=.aU (aV l)/\T 2=.aL (ag g) 0/\T 5=r/\T 6=gi i) ⟨.emp 1,.nil,rfl,rfl,rfl,rfl⟩ ?_
 rintro i k T H' hk ⟨r,d,t1,t2,t5,t6⟩
 simp(disch:=omega)only[↓wr,seval,wq,nk,t1,t2,t5,t6,aV]
 apply aj.dec<;>intro u
 .have b:l[i]?=some (l[i]'(by omega)):=aaB (by omega)
  have hm:=t _ (aaL (show i < l.length by omega))
  generalize l[i]'(by omega)=x at b hm
  have n:=LW g s x hm
  have a:=Ig (p:=iH g) b
  have e:=abJ (iH g) (l.take i)
  rw[abn] at e
  simp only[ag,encS,bu] at n
  simp(disch:=omega)only[↓wr,seval,wq,t1,t2,t5,t6,ag,encS,aV,aaE,b,aaH,bu]
  refine ax.pure n ?_
  simp(disch:=omega)only[↓wr,seval,wq,t1,t2,t5,t6]
  apply aj.split<;>intro he
  .simp(disch:=omega)only[↓wr,seval,wq,t1,t2,t5,t6,aV,aaE,b,aaH,bu]
   intro q w
   simp(disch:=omega)only[↓wr,seval,wq,bz]
   refine gF (d.fresh w) (by simp[aI]) (by unfold aC;rw[bG];simp;omega) (by unfold aC;rw[bG];simp;omega) ?_
   intro o z h _
   simp(disch:=omega)only[↓wr,seval,wq,t1,t2,t5,t6]
   rw[aaF he] at a
   exact aG hk (by omega) ⟨o,by rw[a];simpa [aV,bu] using h,t1,t2,rfl,rfl⟩
  .simp(disch:=omega)only[↓wr,seval,wq,t1,t2,t5,t6]
   rw[aaD (by rw[he];simp)] at a
   exact aG hk (by omega) ⟨r,by rw[a];exact d,t1,t2,t5,rfl⟩
 .rw[aaS (by omega)] at d
  have e:=abJ (iH g) l
  have j:cT r=some (l.filter (iH g)).length:=by rw[d.len,bG]
  have c:∀ x∈l.filter (iH g),bp g=true/\cw g x:=λx b=>p8.1 (abt.1 b).2
  generalize l.filter (iH g)=f at *
  simp(disch:=omega)only[↓wr,seval,wq,t1,t2,t5,t6,j]
  apply aj.eq<;>intro he
  .have:f=[]:=abU.1 (by omega)
   subst this
   simp(disch:=omega)only[↓wr,seval,wq]
   intro A _
   rw[Q2]
   exact .emp _
  .cases f with
   | nil=>exact absurd rfl he
   | cons y f =>
   have B:=bj (c y (by simp)).1
   simp(disch:=omega)only[↓wr,seval,wq,t1,t2,t5,ag,encS]
   refine ax.eM ((BM g B (y :: f) (λx b=>(c x b).2) (by omega) r H' d).mono ?_)
   rintro o z ⟨h,_⟩
   simp(disch:=omega)only[↓wr,seval,wq]
   rintro A rfl
   exact Ye h
theorem Qs:∀ (l:List fp) (s:Int) (k:Nat) (e:fp),l[k]?=some e->fP (l.drop k) s=if e.sym=s then e.to else fP (l.drop (k+1)) s:=by
 intro l s k e h
 obtain⟨hk,he⟩:=aaR.1 h
 rw[abo hk,he,fP]
theorem HN (a:List aJ) (u:aK a) (he:∀ s∈a,aK s.bO/\∀ e∈s.bO,bM e.sym/\bM e.to) (fr:Int) (syms:List Int) (w:aK syms):az Tryz.prog 33 [bI a,gi fr,encI syms] (.bf [gi (ef a fr syms).1,gb (ef a fr syms).2]):=by
 unfold aK at u w
 refine az.tree (by
  intro v q;simp at q
  rcases q with rfl | rfl | rfl
  .exact lj _
  .exact .val _
  .exact cx _) (B1 (.val _) (.val _)) λH=>?_
 refine aw.of mixed xO ?_
 unfold ef
 simp(disch:=omega)only[↓wr,seval,wq,sX,bI,encI]
 apply aj.dec<;>intro h1
 .simp(disch:=omega)only[↓wr,seval,wq]
  rw[aaF (by omega)]
 simp(disch:=omega)only[↓wr,seval,wq,bI]
 apply aj.dec<;>intro y
 .simp(disch:=omega)only[↓wr,seval,wq]
  rw[aaF (by omega)]
 rw[aaD (by omega)]
 simp(disch:=omega)only[↓wr,seval,wq]
 refine ba.up syms.length (λi T H'=>∃ at_:Int,0<=at_/\at_ < a.length/\fV a at_ (syms.drop i)=fV a fr syms/\T 0=bI a/\T 1=gi at_/\T 2=encI syms/\T 8=gi i) ⟨fr,by omega,by omega,rfl,rfl,rfl,rfl,rfl⟩ ?_
 rintro i k T H' hk ⟨at_,C,D,hw,t0,t1,t2,t8⟩
 simp(disch:=omega)only[↓wr,seval,wq,pW,t0,t1,t2,t8,encI]
 apply aj.dec<;>intro z
 .have r:syms[i]?=some (syms[i]'(by omega)):=aaB (by omega)
  rw[abo (show i < syms.length by omega)] at hw
  generalize syms[i]'(by omega)=x at r hw
  have d:a[at_.toNat]?=some (a.getD at_.toNat bC):=getD_some (by omega)
  obtain⟨f,l⟩:=he _ (aaI d)
  rw[fV] at hw
  generalize a.getD at_.toNat bC=S at d f l hw
  unfold aK at f
  simp(disch:=omega)only[↓wr,seval,wq,t0,t1,t2,t8]
  refine ba.up S.bO.length (λj T H'=>∃ (to:Int) (ok:Bool),(ok=true->to=fP S.bO x)/\(ok=false->to = -1/\fP (S.bO.drop j) x=fP S.bO x)/\T 0=bI a/\T 1=gi at_/\T 2=encI syms/\T 8=gi i/\T 9=gi to/\T 10=gb ok/\T 11=gi j)
   ⟨-1,false,by simp,λ_=>⟨rfl,rfl⟩,t0,t1,t2,t8,rfl,rfl,rfl⟩ ?_
  clear t0 t1 t2 t8
  rintro j k2 F G g ⟨to,ok,A,B,t0,t1,t2,t8,t9,t10,t11⟩
  cases ok with
  | true =>
   have b:=A rfl
   simp(disch:=omega)only[↓wr,seval,wq,kW,t0,t1,t2,t8,t9,t10,t11,bI,aaE,d,aaH,fI,jL]
   apply aj.dec<;>intro _
   all_goals (
    simp(disch:=omega)only[↓wr,seval,wq,t0,t1,t2,t8,t9,t10,t11,bI,b]
    apply aj.dec<;>intro m
    .simp(disch:=omega)only[↓wr,seval,wq]
     rw[<-hw,aaD (by omega)]
    .simp(disch:=omega)only[↓wr,seval,wq,t0,t1,t2,t8,t9,bI,b]
     apply aj.dec<;>intro n
     .simp(disch:=omega)only[↓wr,seval,wq]
      rw[<-hw,aaD (by omega)]
     .simp(disch:=omega)only[↓wr,seval,wq,t0,t1,t2,t8,t9,b]
      rw[aaF ⟨by omega,by omega⟩] at hw
      exact aG hk (by omega) ⟨_,by omega,by omega,hw,t0,rfl,t2,rfl⟩)
  | false =>
   obtain⟨t,c⟩:=B rfl
   simp(disch:=omega)only[↓wr,seval,wq,kW,t0,t1,t2,t8,t9,t10,t11,bI,aaE,d,aaH,fI,jL]
   apply aj.dec<;>intro o
   .have h:S.bO[j]?=some (S.bO[j]'(by omega)):=aaB (by omega)
    generalize S.bO[j]'(by omega)=E at h
    rw[Qs _ _ _ _ h] at c
    simp(disch:=omega)only[↓wr,seval,wq,t0,t1,t2,t8,t9,t10,t11,bI,encI,aaE,d,r,aaH,fI,jL,h,kc]
    apply aj.eq<;>intro p
    .rw[aaF p] at c
     simp(disch:=omega)only[↓wr,seval,wq,t0,t1,t2,t8,t9,t10,t11,bI,aaE,d,aaH,fI,jL,h,kc]
     exact aG g (by omega) ⟨E.to,true,λ_=>c,by simp,t0,t1,t2,t8,rfl,rfl,rfl⟩
    .rw[aaD p] at c
     simp(disch:=omega)only[↓wr,seval,wq,t0,t1,t2,t8,t9,t10,t11]
     exact aG g (by omega) ⟨to,false,by simp,λ_=>⟨t,c⟩,t0,t1,t2,t8,t9,t10,rfl⟩
   .rw[aa7 (by omega),fP,<-t] at c
    have b:=c
    simp(disch:=omega)only[↓wr,seval,wq,t0,t1,t2,t8,t9,t10,t11,bI,b]
    apply aj.dec<;>intro m
    .simp(disch:=omega)only[↓wr,seval,wq]
     rw[<-hw,aaD (by omega)]
    .simp(disch:=omega)only[↓wr,seval,wq,t0,t1,t2,t8,t9,bI,b]
     apply aj.dec<;>intro n
     .simp(disch:=omega)only[↓wr,seval,wq]
      rw[<-hw,aaD (by omega)]
     .simp(disch:=omega)only[↓wr,seval,wq,t0,t1,t2,t8,t9,b]
      rw[aaF ⟨by omega,by omega⟩] at hw
      exact aG hk (by omega) ⟨_,by omega,by omega,hw,t0,rfl,t2,rfl⟩
 .simp(disch:=omega)only[↓wr,seval,wq,t1]
  rw[aa7 (by omega),fV] at hw
  rw[<-hw]
open Go Go.Proofs Go.Shelf Go.RowKit Go.Sort
theorem bU.cut {P:Program} {f:FuncId} {vs:List V} {h g:aE} {r:V} (n:bU P f vs h r g) {id sz:Nat} {es rest:List (List V)} (l:g.view id=.arr sz (es ++ rest)):bU P f vs h r (g.set id (.arr sz es)):=by
 have m:id < g.length:=jh (by rw[l];simp)
 refine⟨by simpa using n.1,λZ μ F w xs hr z p=>(n.2 Z μ F w xs hr z (by simpa using p)).mono ?_⟩
 rintro e w' ⟨x,A,μ',rfl,B,a,hex,q⟩
 refine⟨x,A,μ',rfl,B,?_,hex,by simpa using q⟩
 have t:∀ k,cat (g.set id (.arr sz es)) F k=if k=id then .arr sz es else cat g F k:=λk=>by
  simp only[cat,acn]
  by_cases hk:k < g.length
  .rw[aaF hk,aaF hk,kI m];rfl
  .rw[aaD hk,aaD hk,aaD (by omega)]
 have u:cat g F id=.arr sz (es ++ rest):=by simp only[cat];rw[aaF m,l]
 refine⟨λk=>?_,λi j b o s C D v h1 E=>?_,a.lt,a.di,a.ix⟩
 .rw[t]
  split
  .rename_i hk
   subst hk
   have d:=a.obj k
   rw[u] at d
   intro b o0 s hm
   obtain⟨G,⟨c,e,f,n,p,H⟩,I,J⟩:=d b o0 s hm
   have y:∀ i,i < es.length->(es ++ rest).getD i []=es.getD i []:=λi hi=>by
    simp[aaA,abb hi]
   refine⟨G,⟨c,e,f,n,p,?_⟩,λi hi=>?_,λi j hi K=>?_⟩
   .rw[aa4,abp] at H;omega
   .rw[<-y i hi];exact I i (by rw[aa4];omega)
   .rw[<-y i hi];exact J i j (by rw[aa4];omega) K
  .exact a.obj k
 .have d:=a.inj i j b o s C D v h1 E
  rw[t,t]
  rcases d with d | d
  .left
   rw[aaD (λe=>by rw[e,u] at d;simp at d)];exact d
  .right
   rw[aaD (λe=>by rw[e,u] at d;simp at d)];exact d
theorem aw.cut {P:Program} {f:FuncId} {vs:List V} {H:View} {K c:V->View->Prop} (h:aw P f vs H K) (hk:∀ r H',K r H'->c r H'∨∃ id sz es rest,H' id=.arr sz (es ++ rest)/\c r (H'.set id (.arr sz es))):aw P f vs H c:=by
 refine⟨h.1,λm n=>?_⟩
 obtain⟨r,d,j,l,o⟩:=h.2 m n
 rcases hk r _ o with h1 | ⟨id,sz,es,rest,a,h1⟩
 .exact⟨r,d,j,l,h1⟩
 .have b:id < d.length:=jh (by rw[a];simp)
  refine⟨r,d.set id (.arr sz es),j.cut a,λk g p=>?_,by rw[kI b];exact h1⟩
  have i:=l k g p
  rw[kI b]
  simp only[View.set]
  rw[aaD (λe=>by rw[e,a] at i;simp at i)]
  exact i
instance:Inhabited ay:=⟨⟨0,0⟩⟩
def jB (x:ay):List Value:=[.int .i64 x.au,.int .i64 x.dot]
def qo (a b:ay):Int:=if Lib.compareInt a.au b.au≠0 then Lib.compareInt a.au b.au else Lib.compareInt a.dot b.dot
theorem VR (a b:ay):(Lib.compareInt a.au b.au≠0->qo a b=Lib.compareInt a.au b.au)/\(Lib.compareInt a.au b.au=0->qo a b=Lib.compareInt a.dot b.dot):=by
 unfold qo
 exact⟨λh=>by rw[aaF h],λh=>by rw[aaD (by simp[h])]⟩
theorem u6 (a b:ay):ltOf qo a b=c6 a b:=by
 have d:∀ x y:Int,(x < y/\Lib.compareInt x y = -1)∨(x=y/\Lib.compareInt x y=0)∨(y < x/\Lib.compareInt x y=1):=λx y=>by
  unfold Lib.compareInt; (repeat' split) <;> omega
 rw[abD,fZ]
 simp only[ltOf,aaP,qo]
 rcases d a.au b.au with ⟨h,e⟩ | ⟨h,e⟩ | ⟨h,e⟩ <;> rcases d a.dot b.dot with ⟨k,c⟩ | ⟨k,c⟩ | ⟨k,c⟩ <;> simp[e,c] <;> omega
theorem OY:SWO (ltOf qo) where
 irrefl x:=by rw[u6];exact mS
 trans x y z h k:=by rw[u6] at *;exact qg h k
 ntrans x y z h k:=by
  rw[u6] at *
  cases e:c6 x z with
  | false=>rfl
  | true =>
   have h1:¬ c6 x y=true:=by simp[h]
   have a:¬ c6 y z=true:=by simp[k]
   rw[fZ] at h1 a e
   omega
def fk (l:List ay):List ay:=l.mergeSort λx y=>!c6 y x
theorem SU (l:List ay):(l.toArray.toList.mergeSort λx y=>!(ltOf qo) y x)=fk l:=by
 have e:(λx y=>!(ltOf qo) y x)=λx y=>!c6 y x:=by funext x y;rw[u6]
 rw[e];rfl
theorem CI (l:List ay):(fk l).Perm l:=List.mergeSort_perm _ _
theorem jR (l:List ay):(fk l).length=l.length:=(CI l).length_eq
theorem C0 (l:List ay):(fk l).Pairwise λx y=>c6 y x=false:=by
 have:=List.pairwise_mergeSort (le:=λx y:ay=>!c6 y x) (λa b c h k=>by
  simp only[acD,Bool.not_eq_false'] at h k ⊢
  cases e:c6 c a with
  | false=>simp
  | true =>
   have h1:¬ c6 b a=true:=by simpa using h
   have d:¬ c6 c b=true:=by simpa using k
   rw[fZ] at h1 d e
   omega) (λa b=>by
  cases e:c6 b a with
  | false=>simp
  | true=>simp[Mc e]) l
 exact this.imp λh=>by simpa using h
def Ss:Ren where
 f:=fun
  | 6=>190
  | 15=>246
  | 14=>245
  | 28=>282
  | 29=>283
  | 20=>274
  | 21=>275
  | 22=>276
  | 23=>277
  | 24=>278
  | 25=>279
  | 26=>280
  | 27=>281
  | 46=>291
  | 47=>292
  | 48=>293
  | 49=>294
  | 50=>295
  | 57=>307
  | n=>n
 t:=fun
  | 22=>103
  | 24=>120
  | 25=>286
  | 3=>3
  | 39=>276
  | 0=>0
  | 53=>50
  | 55=>49
  | 4=>4
  | 46=>356
  | 45=>355
  | 50=>66
  | 5=>5
  | 9=>9
  | 66=>369
  | 70=>373
  | 76=>381
  | 77=>382
  | n=>n
 g:=λn=>n
theorem Wy:Go.Proofs.SlLaysF0.n6 Tryz.prog Ss where
 mixed:=by kernel_rfl
 f6:=⟨Tryz.f190.name,by kernel_rfl,by kernel_rfl⟩
 f14:=⟨Tryz.f245.name,by kernel_rfl,by kernel_rfl⟩
 f15:=by kernel_rfl
 f20:=⟨Tryz.f274.name,by kernel_rfl,by kernel_rfl⟩
 f21:=⟨Tryz.f275.name,by kernel_rfl,by kernel_rfl⟩
 f22:=⟨Tryz.f276.name,by kernel_rfl,by kernel_rfl⟩
 f23:=⟨Tryz.f277.name,by kernel_rfl,by kernel_rfl⟩
 f24:=⟨Tryz.f278.name,by kernel_rfl,by kernel_rfl⟩
 f25:=⟨Tryz.f279.name,by kernel_rfl,by kernel_rfl⟩
 f26:=⟨Tryz.f280.name,by kernel_rfl,by kernel_rfl⟩
 f27:=⟨Tryz.f281.name,by kernel_rfl,by kernel_rfl⟩
 f28:=by kernel_rfl
 f29:=by kernel_rfl
 f46:=⟨Tryz.f291.name,by kernel_rfl,by kernel_rfl⟩
 f47:=by kernel_rfl
 f48:=by kernel_rfl
 f49:=⟨Tryz.f294.name,by kernel_rfl,by kernel_rfl⟩
 f50:=⟨Tryz.f295.name,by kernel_rfl,by kernel_rfl⟩
 f57:=⟨Tryz.f307.name,by kernel_rfl,by kernel_rfl⟩
 t0:=Tryz.underlying0
 a0:=Tryz.isAgg0
 z0:=Tryz.sizeOf0
 v0:=Tryz.zeroValue0
 t3:=Tryz.underlying3
 a3:=Tryz.isAgg3
 z3:=Tryz.sizeOf3
 v3:=Tryz.zeroValue3
 t4:=Tryz.underlying4
 a4:=Tryz.isAgg4
 z4:=Tryz.sizeOf4
 v4:=Tryz.zeroValue4
 t5:=Tryz.underlying5
 a5:=Tryz.isAgg5
 z5:=Tryz.sizeOf5
 v5:=Tryz.zeroValue5
 t9:=Tryz.underlying9
 a9:=Tryz.isAgg9
 z9:=Tryz.sizeOf9
 v9:=Tryz.zeroValue9
 t22:=Tryz.underlying103
 a22:=Tryz.isAgg103
 z22:=Tryz.sizeOf103
 v22:=Tryz.zeroValue103
 t25:=Tryz.underlying286
 a25:=Tryz.isAgg286
 z25:=Tryz.sizeOf286
 v25:=Tryz.zeroValue286
 t39:=Tryz.underlying276
 a39:=Tryz.isAgg276
 z39:=Tryz.sizeOf276
 v39:=Tryz.zeroValue276
 t45:=Tryz.underlying355
 a45:=Tryz.isAgg355
 z45:=Tryz.sizeOf355
 v45:=Tryz.zeroValue355
 t46:=Tryz.underlying356
 a46:=Tryz.isAgg356
 z46:=Tryz.sizeOf356
 v46:=Tryz.zeroValue356
 t50:=Tryz.underlying66
 a50:=Tryz.isAgg66
 z50:=Tryz.sizeOf66
 v50:=Tryz.zeroValue66
 t53:=Tryz.underlying50
 a53:=Tryz.isAgg50
 z53:=Tryz.sizeOf50
 v53:=Tryz.zeroValue50
 t55:=Tryz.underlying49
 a55:=Tryz.isAgg49
 z55:=Tryz.sizeOf49
 v55:=Tryz.zeroValue49
 t66:=Tryz.underlying369
 a66:=Tryz.isAgg369
 z66:=Tryz.sizeOf369
 v66:=Tryz.zeroValue369
 t70:=Tryz.underlying373
 a70:=Tryz.isAgg373
 z70:=Tryz.sizeOf373
 v70:=Tryz.zeroValue373
 t76:=Tryz.underlying381
 a76:=Tryz.isAgg381
 z76:=Tryz.sizeOf381
 v76:=Tryz.zeroValue381
 t77:=Tryz.underlying382
 a77:=Tryz.isAgg382
 z77:=Tryz.sizeOf382
 v77:=Tryz.zeroValue382
def UL:Ren where
 f:=fun
  | 5=>248
  | 7=>284
  | n=>n
 t:=fun
  | 22=>3
  | 3=>3
  | 4=>4
  | n=>n
 g:=λn=>n
theorem Yj:Go.Proofs.SlLaysC2.n5 Tryz.prog UL where
 mixed:=by kernel_rfl
 f5:=⟨Tryz.f248.name,by kernel_rfl,by kernel_rfl⟩
 f7:=⟨Tryz.f284.name,by kernel_rfl,by kernel_rfl⟩
 t3:=Tryz.underlying3
 a3:=Tryz.isAgg3
 z3:=Tryz.sizeOf3
 v3:=Tryz.zeroValue3
 t4:=Tryz.underlying4
 a4:=Tryz.isAgg4
 z4:=Tryz.sizeOf4
 v4:=Tryz.zeroValue4
 t22:=Tryz.underlying3
 a22:=Tryz.isAgg3
 z22:=Tryz.sizeOf3
 v22:=Tryz.zeroValue3
section
attribute [local go_sem] Oper.semAt_some
theorem Mk (x y:Int) (b cap:Nat) (W:World) (h0:W.cell? ⟨b,0,none⟩=some (.int .i64 x)) (h1:W.cell? ⟨b,1,none⟩=some (.int .i64 y)) (r:Int) (hr:(x≠0->r=x)/\(x=0->r=y)) :
  Calls Tryz.prog 247 #[.slice (some ⟨b,0,none⟩) 2 cap] W λe w'=>e=.returned (.int .i64 r)/\w'=W:=by
 go_enter Tryz.func247,Tryz.ntmps247
 go_wp2
 refine wp_loop_rounds 3 ?_
 rw[rounds_succ]
 go_wp2
 .rename_i h
  go_ret
  exact⟨by rw[hr.1 (by simpa using h)];rfl,rfl⟩
 .rename_i h
  have hx:x=0:=by simpa using h
  rw[rounds_succ]
  go_wp2
  .rename_i h
   go_ret
   exact⟨by rw[hr.2 hx];rfl,rfl⟩
  .rename_i h
   rw[rounds_succ]
   go_wp2
   go_ret
   exact⟨by rw[hr.2 hx,show y=0 by simpa using h];rfl,rfl⟩
structure Zj (p:Prop):Prop where
 out:p
theorem Mh (x1 x2 y1 y2:Int) (W:World) (r:Int) (hr:(Lib.compareInt x1 y1≠0->r=Lib.compareInt x1 y1)/\(Lib.compareInt x1 y1=0->r=Lib.compareInt x2 y2)) :
  Calls Tryz.prog 191 #[.agg #[.int .i64 x1,.int .i64 x2],.agg #[.int .i64 y1,.int .i64 y2]] W λe w'=>e=.returned (.int .i64 r)/\∃ q os',w'=grow (W.drewN q) os':=by
 have hcon1:=λW'=>AnyG.cmp_Compare_int Yj x1 y1 W'
 change ∀ W',Calls Tryz.prog 248 _ _ _ at hcon1
 have hcon2:=λW'=>AnyG.cmp_Compare_int Yj x2 y2 W'
 change ∀ W',Calls Tryz.prog 248 _ _ _ at hcon2
 generalize Lib.compareInt x1 y1=c1 at *
 generalize Lib.compareInt x2 y2=c2 at *
 go_enter Tryz.func191,Tryz.ntmps191
 go_wp2_with (first | (go_at_call 248;refine(hcon1 _).mono ?_;rintro e w' ⟨rfl,rfl⟩)|(go_at_call 248;refine(hcon2 _).mono ?_;rintro e w' ⟨rfl,rfl⟩))
 obtain⟨b1,hb1⟩:∃ b1,b1=W.heap.size:=⟨_,rfl⟩
 obtain⟨b2,hb2⟩:∃ b2,b2=W.heap.size+1:=⟨_,rfl⟩
 rw[<-hb2,<-hb1]
 generalize hW1:(W.alloc (Obj.cells #[Value.int IntKind.i64 x1,Value.int IntKind.i64 x2] 120)).alloc (Obj.cells #[Value.int IntKind.i64 y1,Value.int IntKind.i64 y2] 120)=W1
 have hh1:W1.heap[b1]?=some (.cells #[Value.int IntKind.i64 x1,Value.int IntKind.i64 x2] 120 (0,0)):=by
  rw[<-hW1,hb1];exact(Below.heap_alloc _ _ _ (by simp)).trans (World.alloc_heap_new W _)
 have hh2:W1.heap[b2]?=some (.cells #[Value.int IntKind.i64 y1,Value.int IntKind.i64 y2] 120 (0,0)):=by
  rw[<-hW1,hb2]
  have:=World.alloc_heap_new (W.alloc (Obj.cells #[Value.int IntKind.i64 x1,Value.int IntKind.i64 x2] 120)) (Obj.cells #[Value.int IntKind.i64 y1,Value.int IntKind.i64 y2] 120)
  rwa [World.size_alloc] at this
 have k0:W1.cell? ⟨b1,0,none⟩=some (.int .i64 x1):=by unfold World.cell?;rw[hh1];rfl
 have k1:W1.cell? ⟨b1,1,none⟩=some (.int .i64 x2):=by unfold World.cell?;rw[hh1];rfl
 have k2:W1.cell? ⟨b2,0,none⟩=some (.int .i64 y1):=by unfold World.cell?;rw[hh2];rfl
 have k3:W1.cell? ⟨b2,1,none⟩=some (.int .i64 y2):=by unfold World.cell?;rw[hh2];rfl
 clear hh1 hh2
 refine wp_region_still_tail 10 (by kernel_rfl) (by kernel_rfl) ?_
 change wpStill _ _ W1.drew (λa'=>wpList _ _ _ _ a' W1.drew) _ _
 generalize hW2:W1.drew=W2
 replace k0:W2.cell? ⟨b1,0,none⟩=some (.int .i64 x1):=by rw[<-hW2];exact k0
 replace k1:W2.cell? ⟨b1,1,none⟩=some (.int .i64 x2):=by rw[<-hW2];exact k1
 replace k2:W2.cell? ⟨b2,0,none⟩=some (.int .i64 y1):=by rw[<-hW2];exact k2
 replace k3:W2.cell? ⟨b2,1,none⟩=some (.int .i64 y2):=by rw[<-hW2];exact k3
 have hgr:Zj (W2=grow (W.drewN 1) #[Obj.cells #[Value.int IntKind.i64 x1,Value.int IntKind.i64 x2] 120,Obj.cells #[Value.int IntKind.i64 y1,Value.int IntKind.i64 y2] 120]):=by
  refine⟨?_⟩
  rw[<-hW2,<-hW1,alloc_eq_grow,alloc_eq_grow,grow_grow];rfl
 clear hW1 hW2 hb1 hb2
 simp only[List.take_succ_cons,List.take_zero,List.drop_succ_cons,abP]
 iterate 4 still_step
 still_call (hcon1 _)
 iterate 4 still_step
 still_call (hcon2 _)
 refine wpStill_nil ?_
 go_wp2_with (go_at_call 247;refine(Mk c1 c2 _ _ _ ?_ ?_ r hr).mono ?_)
 .unfold World.cell?;rw[World.alloc_heap_new];rfl
 .unfold World.cell?;rw[World.alloc_heap_new];rfl
 .rintro e w' ⟨rfl,rfl⟩
  go_wp2
  go_ret
  refine⟨rfl,1,#[Obj.cells #[Value.int IntKind.i64 x1,Value.int IntKind.i64 x2] 120,Obj.cells #[Value.int IntKind.i64 y1,Value.int IntKind.i64 y2] 120,Obj.cells #[Value.int IntKind.i64 c1,Value.int IntKind.i64 c2] 3],?_⟩
  rw[hgr.out,alloc_eq_grow,grow_grow];rfl
end
theorem LY {Z:Nat->Prop} {μ:Mu} {hp:Array Obj} {id off len esz:Nat} {x:Value} (h:aB Z μ hp (.sl id off len esz) x) :
  (len=0/\∃ a,x=.slice a 0 0)∨∃ b o0 cap,∃ c:Array Value,∃ e f,x=.slice (some ⟨b,o0+off * esz,none⟩) len cap/\μ id=some (b,o0,esz)/\len<=cap/\hp[b]?=some (.cells c e f)/\o0+(off+cap) * esz<=c.size:=by
 cases h with
 | rn _ _ _ a=>exact .inl ⟨rfl,a,rfl⟩
 | sl _ _ _ _ b o0 cap c e f h1 d g i=>exact .inr ⟨b,o0,cap,c,e,f,rfl,h1,d,g,i⟩
theorem X3 {Z:Nat->Prop} {μ:Mu} {hp:Array Obj} {f:FuncId} {x:Value} (h:aB Z μ hp (.fn f [] []) x):x=.func (.func f) #[] #[]:=by
 cases h with
 | fn _ _ _ a c h1 b _ _ =>
  rw[Array.eq_empty_of_size_eq_zero h1.symm,Array.eq_empty_of_size_eq_zero b.symm]
theorem Gk (w:World) (b o0 m:Nat) (d:Array ay) (os:Array Obj) {j:Nat} (a:j < w.heap.size):(sortWorldK jB 2 w b o0 m d os).heap[j]?=if b=j then (w.heap[j]?).map (onCells (putCells id o0 (flatK jB 2 d))) else w.heap[j]?:=by
 unfold sortWorldK grow putRowK putRow mapBlock
 simp only[Sort.ahead]
 rw[ab1 (by simpa using a),Array.getElem?_modify]
theorem VQ (l:List ay) (hl:l.length < 1152921504606846976) (u:V) (H:View) (ho:aT H u 2 (aV l)):aw Tryz.prog 190 [u,.fn 191 [] []] H λr H'=>r=.bf []/\(∀ id,owner u≠some id->H' id=H id)/\aT H' u 2 (aV (fk l)):=by
 refine⟨by kernel_rfl,?_⟩
 rintro h rfl
 have eg:∀ args w,(callFunc 191 args).run Tryz.prog w=.ok (.enter 191 args) w:=enters_of Tryz.func191 (by kernel_rfl) rfl
 by_cases I:l=[]
 .subst I
  refine⟨.bf [],h,⟨aaM _,λZ μ F w xs s hr M=>?_⟩,.refl _,rfl,λ_ _=>rfl,by simpa [fk] using ho⟩
  obtain⟨hlen,N⟩:=s
  obtain⟨x,y,rfl⟩:∃ x y,xs=[x,y]:=by
   match xs,hlen with
   | [x,y],_=>exact⟨x,y,rfl⟩
  have h0:aB Z μ w.heap u x:=N 0 (by simp)
  obtain⟨p,cap,rfl⟩:∃ p cap,x=.slice p 0 cap:=by
   rcases ho with ⟨_,k,rfl⟩ | ⟨n,rfl,_⟩
   .cases h0 with | emp _ a _ _=>exact⟨a,0,rfl⟩
   .rcases LY h0 with ⟨_,a,e⟩ | ⟨b,o0,cap,c,e,f,e2,_⟩
    .exact⟨a,0,e⟩
    .exact⟨_,cap,e2⟩
  refine(AnyF.slices_SortFunc_none Wy p cap y w).mono ?_
  rintro e w' ⟨rfl,rfl⟩
  exact⟨.tuple #[],Z,μ,rfl,.bf [] #[] rfl (λi hi=>by simp at hi),hr,Ext.refl _ _ _ _,λ_ _=>rfl⟩
 have S:0 < l.length:=ab7.2 I
 obtain⟨n,rfl,hn⟩:=ho.sl (by rw[bG];exact S)
 rw[bG]
 have t:n < h.length:=jh (by rw[hn];simp)
 refine⟨.bf [],h.set n (.arr 2 (aV (fk l))),⟨by simp,λZ μ F w xs s hr M=>?_⟩,λk hk hd=>?_,rfl,λid ar=>?_,?_⟩
 rotate_left
 .rw[kI t]
  simp only[View.set]
  rw[aaD (λe=>by rw[e,hn] at hd;simp at hd)];exact hd
 .rw[kI t]
  simp only[View.set]
  rw[aaD (λe=>ar (by rw[e];rfl))]
 .refine .inr ⟨n,by rw[bG,jR],?_⟩
  rw[kI t];simp[View.set]
 obtain⟨hlen,N⟩:=s
 obtain⟨x,y,rfl⟩:∃ x y,xs=[x,y]:=by
  match xs,hlen with
  | [x,y],_=>exact⟨x,y,rfl⟩
 have h0:aB Z μ w.heap (.sl n 0 l.length 2) x:=N 0 (by simp)
 have h1:aB Z μ w.heap (.fn 191 [] []) y:=N 1 (by simp)
 have hy:=X3 h1
 subst hy
 rcases LY h0 with ⟨e,_⟩ | ⟨b,o0,cap,c0,e0,f0,rfl,E,a7,_,_⟩
 .omega
 rw[Nat.zero_mul,acr]
 have J:cat h F n=.arr 2 (aV l):=by simp only[cat];rw[aaF t,hn]
 have T:=hr.obj n
 rw[J] at T
 obtain⟨_,⟨c,ty,fz,hc,U,W⟩,hq,z⟩:=T b o0 2 E
 rw[bG] at W hq z
 have O:b < w.heap.size:=hr.lt _ _ _ _ E
 have P:∀ (m:List ay) (i:Nat) (hi:i < m.length),(aV m).getD i []=bu m[i]:=λm i hi=>by simp[aV,aaA,hi]
 have hH:HoldsK jB 2 w b o0 l.toArray:=by
  intro j D
  rw[size_flatK] at D
  have a8:j < l.length * 2:=by simpa using D
  have hi:j / 2 < l.length:=by omega
  obtain⟨x,hx,d⟩:=z (j / 2) (j % 2) hi (by omega)
  rw[show o0+j / 2 * 2+j % 2=o0+j by omega] at hx
  have a1:x=(flatK jB 2 l.toArray)[j]!:=by
   rw[get_flatK _ _ _ _ D]
   rw[P l _ hi] at d
   have e1:l.toArray[j / 2]! = l[j / 2]:=by simp[hi]
   rw[e1]
   rcases aa2 (j % 2) 1 with X | X
   .rw[show j % 2=0 by omega] at d ⊢
    simp only[bu,abE] at d
    cases d;rfl
   .rw[show j % 2=1 by omega] at d ⊢
    simp only[bu,acp,abE] at d
    cases d;rfl
  refine⟨by rw[oM,hx,a1];rfl,?_⟩
  simp only[World.frozen?,hc]
  rcases U with e | e
  .simp only[e,Bool.and_eq_false_iff,abT];omega
  .simp only[Bool.and_eq_false_iff,abT];omega
 have hT:∀ x y,(ltOf qo) x y=false->(ltOf qo) y x=false->x=y:=λx y h1 X=>by
  rw[u6] at h1 X
  exact ace λA=>by rw[zr h1 A] at X;simp at X
 have K:=AnyQ.slices_SortFunc_total Wy 2 Tryz.isAgg120 Tryz.sizeOf120 jB (λ_=>rfl) (λx v N=>by simp[jB] at N;rcases N with rfl | rfl <;> rfl) qo OY 191 #[] b o0 cap l.toArray w eg (λ_ _ _ _ x y=>Mh x.au x.dot y.au y.dot _ _ (VR x y)) hH O (by simp;omega) hT
 rw[SU] at K
 refine Calls.mono (show Calls Tryz.prog 190 _ w _ from K) ?_
 rintro e w' ⟨rfl,m,os,rfl⟩
 have Y:=jR l
 have g:=λ{j:Nat} (D:j < w.heap.size)=>Gk w b o0 m (fk l).toArray os D
 have G:HoldsK jB 2 (sortWorldK jB 2 w b o0 m (fk l).toArray os) b o0 (fk l).toArray:=SWK.holds ⟨m,os,rfl⟩ O hH (by simp[Y])
 have B:w.heap.size<=(sortWorldK jB 2 w b o0 m (fk l).toArray os).heap.size:=SWK.le (dk:=(fk l).toArray) ⟨m,os,rfl⟩
 have Q:fB w (sortWorldK jB 2 w b o0 m (fk l).toArray os):=⟨rfl,rfl,rfl,B⟩
 generalize sortWorldK jB 2 w b o0 m (fk l).toArray os=w' at *
 have an:w'.heap[b]?=some (.cells (putCells id o0 (flatK jB 2 (fk l).toArray) c) ty fz):=by
  rw[g O,aaF rfl,hc];rfl
 have L:nY Z μ μ w.heap w'.heap h.length (.fU n (.arr 2 (aV (fk l)))):=by
  refine⟨b,o0,2,E,rfl,λj D A=>by rw[g D,aaD (λe=>A e.symm)],λj cc ee ff C=>?_,?_⟩
  .have a6:j < w.heap.size:=by
    rcases aa2 j w.heap.size with q | q
    .exact q
    .simp[ab4 q] at C
   by_cases e:b=j
   .subst e
    rw[hc] at C
    simp only[aaC,Obj.cells.injEq] at C
    obtain⟨rfl,rfl,rfl⟩:=C
    exact⟨_,_,an,by simp[putCells]⟩
   .exact⟨cc,ff,by rw[g a6,aaD e];exact C,rfl⟩
  .intro b1 o1 s1 h1
   rw[E] at h1
   simp only[aaC,aaG] at h1
   obtain⟨rfl,rfl,rfl⟩:=h1
   refine⟨rfl,⟨_,ty,fz,an,?_,?_⟩,λi hi=>?_,λi j hi D=>?_⟩
   .simpa [putCells] using U
   .rw[bG,Y];simpa [putCells] using W
   .rw[bG] at hi;rw[P _ i hi];rfl
   .rw[bG] at hi
    have:=(G.cell (i:=i) (c:=j) (by simpa using hi) D).1
    rw[oM] at this
    refine⟨_,this,?_⟩
    rw[P _ i hi]
    have e1:(fk l).toArray[i]! = (fk l)[i]:=by simp[hi]
    rw[e1]
    match j,D with
    | 0,_=>exact .val _ rfl
    | 1,_=>exact .val _ rfl
 have A:cat h F n≠.dead:=by rw[J];simp
 have R:=hr.eff (n:=h.length) (eff:=.fU n (.arr 2 (aV (fk l)))) (by trivial) B L (λid o e=>by cases e;exact A) (λid o e=>by cases e)
 obtain⟨aq,bd⟩:=L.ext Q (by trivial) hr.di hr.ix
 refine⟨.tuple #[],Z,μ,rfl,.bf [] #[] rfl (λi hi=>by simp at hi),?_,aq,λ_ _=>rfl⟩
 have ev:cat (h.set n (.arr 2 (aV (fk l)))) F=bE.view (cat h F) h.length (.fU n (.arr 2 (aV (fk l)))):=by
  funext k
  simp only[cat,bE.view,View.set,acn]
  by_cases hk:k < h.length
  .rw[aaF hk,aaF hk,kI t];rfl
  .rw[aaD hk,aaD hk,aaD (by omega)]
 rw[ev]
 exact R
abbrev iC:ay:=⟨0,0⟩
def gm (l:List ay):Nat->List ay
 | 0=>[]
 | n+1=>if n=0∨l.getD n iC≠l.getD (n - 1) iC then gm l n ++ [l.getD n iC] else gm l n
theorem Be (l:List ay):∀ n,n<=l.length->(∀ j,0 < j->j < n->l.getD j iC≠l.getD (j - 1) iC)->gm l n=l.take n
 | 0,_,_=>by simp[gm]
 | n+1,c,h=>by
  have a:=Be l n (by omega) λj h1 d=>h j h1 (by omega)
  have b:l[n]?=some (l.getD n iC):=getD_some (by omega)
  rw[gm,aaF,a,aa3,b]
  .rfl
  .by_cases e:n=0
   .exact .inl e
   .exact .inr (h n (by omega) (by omega))
def Cj (l:List ay):List ay:=gm (fk l) l.length
theorem zH {l:List ay} (hp:l.Pairwise λx y=>c6 y x=false):∀ n,n<=l.length->cz (gm l n)/\(∀ x,x∈gm l n↔∃ i,i < n/\l.getD i iC=x)
 | 0,_=>by simp[gm,cz]
 | n+1,r=>by
  obtain⟨h1,f⟩:=zH hp n (by omega)
  have d:∀ i j,i < j->j < l.length->c6 (l.getD j iC) (l.getD i iC)=false:=λi j g k=>by
   have:=List.pairwise_iff_getElem.1 hp i j (by omega) k g
   simpa [aaA,aaB k,aaB (show i < l.length by omega)] using this
  rw[gm]
  split
  .rename_i c
   refine⟨?_,λx=>?_⟩
   .rw[cz,List.pairwise_append]
    refine⟨h1,by simp,λa p b m=>?_⟩
    rw[abL] at m;subst m
    obtain⟨i,hi,rfl⟩:=(f a).1 p
    have c:l.getD n iC≠l.getD (n - 1) iC:=c.resolve_left (by omega)
    have o:=zr (d (n - 1) n (by omega) (by omega)) c
    rcases aa2 i (n - 1) with h | h
    .have k2:=d i (n - 1) h (by omega)
     have q:¬ c6 (l.getD (n - 1) iC) (l.getD i iC)=true:=by rw[k2];simp
     rw[fZ] at o q ⊢
     omega
    .have:i=n - 1:=by omega
     subst this;exact o
   .rw[aa1,f,abL]
    constructor
    .rintro (⟨i,hi,e⟩ | e)
     .exact⟨i,by omega,e⟩
     .exact⟨n,by omega,e.symm⟩
    .rintro⟨i,hi,e⟩
     rcases aa2 i n with h | h
     .exact .inl ⟨i,h,e⟩
     .have:i=n:=by omega
      subst this;exact .inr e.symm
  .rename_i c
   simp only[not_or,acK] at c
   refine⟨h1,λx=>?_⟩
   rw[f]
   constructor
   .rintro⟨i,hi,e⟩;exact⟨i,by omega,e⟩
   .rintro⟨i,hi,e⟩
    rcases aa2 i n with h | h
    .exact⟨i,h,e⟩
    .have:i=n:=by omega
     subst this
     exact⟨i - 1,by omega,by rw[<-c.2];exact e⟩
theorem Ea (l:List ay):cz (Cj l):=(zH (C0 l) _ (by rw[jR];exact aaM _)).1
theorem sZ {l:List ay} {x:ay} : x∈Cj l↔x∈l:=by
 rw[Cj,(zH (C0 l) _ (by rw[jR];exact aaM _)).2,<-(CI l).mem_iff,abv]
 constructor
 .rintro⟨i,hi,e⟩
  have a:i < (fk l).length:=by rw[jR];exact hi
  exact⟨i,a,by rw[aaA,aaB a] at e;exact e⟩
 .rintro⟨i,hi,e⟩
  exact⟨i,by rw[jR] at hi;exact hi,by rw[aaA,aaB hi];exact e⟩
theorem Pf {l:List ay} (h:cz l):Cj l=l:=BA (Ea l) h λ_=>sZ
def nZ (g:af) (s:Int):Int:=if s < 0 then (g.ai.length:Int) - 1 - s else s
theorem yM (g:af) (k:Nat):nZ g (bh g k)=k:=by
 unfold nZ bh;split <;> split <;> omega
theorem KB {g:af} {s:Int} (h1:s < g.ai.length):0<=nZ g s/\bh g (nZ g s).toNat=s:=by
 unfold nZ bh;split
 .rw[aaD (by omega)];omega
 .rw[aaF (by omega)];omega
theorem Cw {g:af} {s:Int} (h:dL g s=true):s < g.ai.length/\nZ g s < g.ai.length+g.al.length:=by
 unfold dL at h
 unfold nZ
 by_cases a:0<=s
 .rw[aaF a] at h
  rw[aaD (by omega)]
  simp at h
  omega
 .rw[aaD a] at h
  rw[aaF (by omega)]
  simp at h
  omega
def gH (l:List ay):List UInt8:=l.flatMap λx=>[UInt8.ofNat (x.au+1).toNat,UInt8.ofNat x.dot.toNat]
theorem Rk {a b:Nat} (c:a < 256) (d:b < 256) (h:UInt8.ofNat a=UInt8.ofNat b):a=b:=by
 have:=abN UInt8.toNat h
 simp at this
 omega
theorem L1 {g:af} (c:g.cY):∀ {a b:List ay},(∀ x∈a,cw g x)->(∀ x∈b,cw g x)->gH a=gH b->a=b
 | [],[],_,_,_=>rfl
 | [],y :: b,_,_,h=>by simp[gH] at h
 | x :: a,[],_,_,h=>by simp[gH] at h
 | x :: a,y :: b,i,j,h=>by
  simp only[gH,List.flatMap_cons,abk,abG,List.cons.injEq] at h
  obtain⟨h1,k,l⟩:=h
  have d:=i x (by simp)
  have e:=j y (by simp)
  have hr:=c.rules
  have q:=dS c d.1
  have r:=dS c e.1
  have:=d.1;have:=d.2;have:=e.1;have:=e.2
  have s:=Rk (by omega) (by omega) h1
  have k2:=Rk (by omega) (by omega) k
  have t:=L1 c (λz f=>i z (by simp[f])) (λz f=>j z (by simp[f])) l
  obtain⟨m,n⟩:=x
  obtain⟨o,p⟩:=y
  simp only at *
  have:m=o:=by omega
  have:n=p:=by omega
  subst_vars;rfl
structure kL (g:af) (a:List aJ):Prop where
 first:(a.getD 0 bC).bc=[⟨-1,0⟩]
 rS:∀ s∈a,∀ e∈s.bO,(a.getD e.to.toNat bC).bc=bA g (cJ g s.bc) e.sym
theorem mQ (l:List aJ) (i:Nat) (c:fp) (j:Nat):((l.modify i λx=>(⟨x.bc,x.bO ++ [c]⟩:aJ)).getD j bC).bc=(l.getD j bC).bc:=by
 simp only[aaA,List.getElem?_modify]
 cases l[j]? with
 | none=>rfl
 | some x =>
  by_cases e:i=j
  .subst e;simp
  .simp[e]
theorem kL.put {g:af} {out:List aJ} (h:kL g out) {at_:Nat} {s to:Int} (c:(out.getD to.toNat bC).bc=bA g (cJ g (out.getD at_ bC).bc) s):kL g (out.modify at_ λx=>(⟨x.bc,x.bO ++ [⟨s,to⟩]⟩:aJ)):=by
 refine⟨by rw[mQ];exact h.first,λy a e he=>?_⟩
 rw[mQ]
 rcases mem_modify a with a | ⟨x,b,rfl⟩
 .exact h.rS y a e he
 .rcases aa1.1 he with he | he
  .exact h.rS x (aaI b) e he
  .simp at he;subst he
   rw[c,aaA,b];rfl
theorem kL.add {g:af} {out:List aJ} (h:kL g out) (h1:1<=out.length) (c:∀ s∈out,∀ e∈s.bO,0<=e.to/\e.to < out.length) (k:List ay):kL g (out ++ [⟨k,[]⟩]):=by
 have b:∀ j:Nat,j < out.length->((out ++ [(⟨k,[]⟩:aJ)]).getD j bC)=out.getD j bC:=λj d=>by
  simp[aaA,abb d]
 refine⟨by rw[b 0 (by omega)];exact h.first,λy a e he=>?_⟩
 rcases aa1.1 a with a | a
 .have:=c y a e he
  rw[b _ (by omega)];exact h.rS y a e he
 .simp at a;subst a;simp at he
theorem T6 (g:af) (l:List ay) (at_:Nat) (out:List aJ) (i:Nat) {j:Nat} (a:j < out.length):((dw g l at_ out i).getD j bC).bc=(out.getD j bC).bc:=by
 unfold dw
 split
 .rfl
 .split
  .rw[mQ]
   simp[aaA,abb a]
  .rw[mQ]
theorem kL.step {g:af} {l:List ay} {at_ i:Nat} {out:List aJ} (h:kL g out) (hi:en g at_ i out) (c:at_ < out.length) (a:cJ g (out.getD at_ bC).bc=l):kL g (dw g l at_ out i):=by
 unfold dw
 split
 .exact h
 .split
  .refine(h.add (by omega) hi.to _).put ?_
   rw[aa0]
   have d:((out ++ [(⟨bA g l (bh g i),[]⟩:aJ)]).getD out.length bC).bc=bA g l (bh g i):=by
    simp[aaA]
   have e:(out ++ [(⟨bA g l (bh g i),[]⟩:aJ)]).getD at_ bC=out.getD at_ bC:=by
    simp[aaA,abb c]
   rw[d,e,a]
  .rename_i j
   refine h.put ?_
   obtain⟨n,b⟩:∃ n:Nat,findD out (bA g l (bh g i))=n:=⟨(findD out (bA g l (bh g i))).toNat,by omega⟩
   obtain⟨s,h1,f⟩:=LX _ _ _ b
   rw[b,aa0,aaA,h1,a]
   exact f
theorem kL.row {g:af} (a:g.cY) {at_:Nat} {out:List aJ} (h:kL g out) (hi:en g at_ 0 out) (b:at_ < out.length):∀ n:Nat,n<=40->kL g ((List.range n).foldl (dw g (cJ g (out.getD at_ bC).bc) at_) out)/\(((List.range n).foldl (dw g (cJ g (out.getD at_ bC).bc) at_) out).getD at_ bC).bc=(out.getD at_ bC).bc
 | 0,_=>⟨h,rfl⟩
 | n+1,d=>by
  obtain⟨h1,c⟩:=kL.row a h hi b n (by omega)
  obtain⟨i1,i2,i3⟩:=en.row (hi.nB a b).1 (hi.nB a b).2 hi n (by omega)
  rw[abH,abR]
  simp only[abc,acd]
  refine⟨h1.step i1 (by omega) (by rw[c]),?_⟩
  rw[T6 _ _ _ _ _ (by omega),c]
theorem Fg {g:af} (a:g.cY):∀ (f at_:Nat) (out:List aJ),en g at_ 0 out->kL g out->(fN g f at_ out).2=0->kL g (fN g f at_ out).1
 | 0,_,out,_,h,_=>h
 | f+1,at_,out,hi,h,b=>by
  rw[fN] at b ⊢
  split
  .rename_i c
   rw[aaF c] at b
   have hr:=en.row (hi.nB a c).1 (hi.nB a c).2 hi (g.ai.length+g.al.length) (by have:=a.ai;have:=a.al;omega)
   have he:=h.row a hi c (g.ai.length+g.al.length) (by have:=a.ai;have:=a.al;omega)
   rw[show (List.range (g.ai.length+g.al.length)).foldl (dw g (cJ g (out.getD at_ bC).bc) at_) out=xg g at_ out (g.ai.length+g.al.length) from rfl] at hr he
   split
   .rename_i d;rw[aaF d] at b;simp at b
   .rename_i d
    rw[aaD d] at b
    exact Fg a f (at_+1) _ hr.1.next he.1 b
  .exact h
theorem Pp {g:af} (b:g.cY) (h:(aS g).2=0):kL g (aS g).1:=by
 unfold aS at h ⊢
 split
 .rename_i hr
  rw[aaF hr] at h
  exact Fg b 302 0 eu ma ⟨rfl,λs a e he=>by simp[eu] at a;subst a;simp at he⟩ h
 .rename_i hr
  rw[aaD hr] at h
  simp at h
theorem Nu {a:List aJ} {i:Nat} {e:fp} (h:e∈(a.getD i bC).bO):i < a.length/\a.getD i bC∈a:=by
 rcases aa2 i a.length with hi | hi
 .exact⟨hi,aaI (getD_some hi)⟩
 .rw[aaA,aa6 hi] at h;simp at h
theorem lx.bc {g:af} {l:List ay} {x:ay} (h:lx g l x) (a:x.dot≠0∨x.au < 0):x∈l:=by
 cases h with
 | base h=>exact h
 | step=>simp at a;omega
theorem vn {l:List fp} {s:Int} {c:Cell} (h:iS l s=some c):∃ e∈l,e.sym=s/\c=⟨1,e.to⟩:=by
 induction l with
 | nil=>simp[iS] at h
 | cons e l a =>
  rw[iS] at h
  split at h
  .rename_i b
   simp at h
   exact⟨e,by simp,b,h.symm⟩
  .obtain⟨d,h1,f⟩:=a h
   exact⟨d,by simp[h1],f⟩
theorem Ri (g:af) (a:List aJ) (l:List (List dz)) {n:Nat} {s t:Int} (d:0<=s/\s < n) (e:0<=t/\t<=g.ai.length):dI (iM g a l n) s t=(fo g (a.getD s.toNat bC) (l.getD s.toNat []) s t).1:=by
 unfold dI iM iU
 have b:((s.toNat:Nat):Int)=s:=by omega
 have c:((t.toNat:Nat):Int)=t:=by omega
 simp[aaA,show s.toNat < n by omega,show t.toNat < g.ai.length+1 by omega,b,c]
theorem Rj (g:af) (a:List aJ) (l:List (List dz)) {n:Nat} {s k:Int} (d:0<=s/\s < n) (hk:0<=k/\k < g.al.length):mR (iM g a l n) s k=pI a s k:=by
 unfold mR iM Ca
 have b:((s.toNat:Nat):Int)=s:=by omega
 have c:((k.toNat:Nat):Int)=k:=by omega
 simp[aaA,show s.toNat < n by omega,show k.toNat < g.al.length by omega,b,c]
def lO (g:af) (l:List ay) (n:Nat):List Int:=((List.range n).filter λi=>decide (bA g l (bh g i)≠[])).map λ(i:Nat)=>bh g i
theorem Ft (g:af) (l:List ay) (n:Nat):lO g l (n+1)=if bA g l (bh g n)=[] then lO g l n else lO g l n ++ [bh g n]:=by
 unfold lO
 rw[abH,ach,aaW]
 by_cases h:bA g l (bh g n)=[]
 .rw[aaF h];simp[h]
 .rw[aaD h];simp[h]
structure oB (g:af) (at_ i:Nat) (out:List aJ):Prop where
 one:(out.map aJ.bc).Nodup
 back:∀ j:Nat,0 < j->j < out.length->∃ (i:Nat) (e:fp),i < j/\e∈(out.getD i bC).bO/\e.to=j
 done:∀ j:Nat,j < at_->j < out.length->(out.getD j bC).bO.map fp.sym=lO g (cJ g (out.getD j bC).bc) (g.ai.length+g.al.length)
 here:at_ < out.length->(out.getD at_ bC).bO.map fp.sym=lO g (cJ g (out.getD at_ bC).bc) i
theorem tZ (l:List aJ) (i:Nat) (c:fp) (j:Nat) (hi:i < l.length):((l.modify i λx=>(⟨x.bc,x.bO ++ [c]⟩:aJ)).getD j bC).bO=if i=j then (l.getD j bC).bO ++ [c] else (l.getD j bC).bO:=by
 simp only[aaA,List.getElem?_modify]
 by_cases e:i=j
 .subst e;simp[hi]
 .cases l[j]? with
  | none=>simp[e]
  | some x=>simp[e]
theorem Gi (l:List aJ) (i:Nat) (c:fp):(l.modify i λx=>(⟨x.bc,x.bO ++ [c]⟩:aJ)).map aJ.bc=l.map aJ.bc:=by
 apply List.ext_getElem?
 intro j
 simp only[aaE,List.getElem?_modify]
 cases l[j]? with
 | none=>rfl
 | some x=>by_cases e:i=j <;> simp[e]
theorem oB.put {g:af} {at_ i:Nat} {out:List aJ} {to:Int} (b:at_ < out.length) (h1:(out.map aJ.bc).Nodup) (h:∀ j:Nat,0 < j->j < out.length->(∃ (i:Nat) (e:fp),i < j/\e∈(out.getD i bC).bO/\e.to=j)∨(at_ < j/\to=j))
  (l:∀ j:Nat,j < at_->j < out.length->(out.getD j bC).bO.map fp.sym=lO g (cJ g (out.getD j bC).bc) (g.ai.length+g.al.length)) (m:(out.getD at_ bC).bO.map fp.sym=lO g (cJ g (out.getD at_ bC).bc) i)
  (c:bA g (cJ g (out.getD at_ bC).bc) (bh g i)≠[]):oB g at_ (i+1) (out.modify at_ λx=>(⟨x.bc,x.bO ++ [⟨bh g i,to⟩]⟩:aJ)):=by
 refine⟨by rw[Gi];exact h1,λj d a=>?_,λj d a=>?_,λ_=>?_⟩
 .rw[List.length_modify] at a
  rcases h j d a with ⟨k,e,f,a2,a3⟩ | ⟨f,a2⟩
  .refine⟨k,e,f,?_,a3⟩
   rw[tZ _ _ _ _ b]
   split
   .exact List.mem_append_left _ a2
   .exact a2
  .refine⟨at_,⟨bh g i,to⟩,f,?_,a2⟩
   rw[tZ _ _ _ _ b,aaF rfl]
   simp
 .rw[List.length_modify] at a
  rw[tZ _ _ _ _ b,aaD (by omega),mQ]
  exact l j d a
 .rw[tZ _ _ _ _ b,aaF rfl,mQ,aaW,m,Ft,aaD c];rfl
theorem oB.step {g:af} {at_ i:Nat} {out:List aJ} (h:oB g at_ i out) (d:at_ < out.length):oB g at_ (i+1) (dw g (cJ g (out.getD at_ bC).bc) at_ out i):=by
 unfold dw
 split
 .rename_i hm
  exact⟨h.one,h.back,h.done,λ_=>by rw[Ft,aaF hm];exact h.here d⟩
 .rename_i hm
  split
  .rename_i n
   have f:∀ j:Nat,j < out.length->((out ++ [(⟨bA g (cJ g (out.getD at_ bC).bc) (bh g i),[]⟩:aJ)]).getD j bC)=out.getD j bC:=λj c=>by
    simp[aaA,abb c]
   refine oB.put (by simp;omega) ?_ (λj c l=>?_) (λj c l=>?_) ?_ ?_
   .rw[aaW,ab9]
    refine⟨h.one,by simp,λa o b m=>?_⟩
    obtain⟨s,p,rfl⟩:=aaX.1 o
    simp at m;subst m
    exact JB _ _ n s p
   .rcases aa2 j out.length with q | q
    .obtain⟨k,e,r,a2,a3⟩:=h.back j c q
     exact .inl ⟨k,e,r,by rw[f k (by omega)];exact a2,a3⟩
    .right
     simp at l
     exact⟨by omega,by omega⟩
   .rw[f j (by omega)];exact h.done j c (by omega)
   .rw[f at_ d];exact h.here d
   .rw[f at_ d];exact hm
  .exact oB.put d h.one (λj c l=>.inl (h.back j c l)) h.done (h.here d) hm
theorem oB.row {g:af} (a:g.cY) {at_:Nat} {out:List aJ} (h:oB g at_ 0 out) (hi:en g at_ 0 out) (he:kL g out) (b:at_ < out.length):∀ n:Nat,n<=40->oB g at_ n ((List.range n).foldl (dw g (cJ g (out.getD at_ bC).bc) at_) out)
 | 0,_=>h
 | n+1,d=>by
  have h1:=oB.row a h hi he b n (by omega)
  obtain⟨i1,i2,i3⟩:=en.row (hi.nB a b).1 (hi.nB a b).2 hi n (by omega)
  obtain⟨e,c⟩:=he.row a hi b n (by omega)
  rw[abH,abR]
  simp only[abc,acd]
  have:=h1.step (by omega)
  rw[c] at this
  exact this
theorem oB.next {g:af} {at_:Nat} {out:List aJ} (h:oB g at_ (g.ai.length+g.al.length) out) (hi:en g at_ (g.ai.length+g.al.length) out):oB g (at_+1) 0 out:=by
 refine⟨h.one,h.back,λj b a=>?_,λa=>?_⟩
 .rcases aa2 j at_ with q | q
  .exact h.done j q a
  .have:j=at_:=by omega
   subst this
   exact h.here a
 .have:=(hi.bO (at_+1) _ (getD_some (d:=bC) a)).2.2 (by omega)
  rw[this];simp[lO]
structure UF (g:af) (a:List aJ):Prop where
 one:(a.map aJ.bc).Nodup
 back:∀ j:Nat,0 < j->j < a.length->∃ (i:Nat) (e:fp),i < j/\e∈(a.getD i bC).bO/\e.to=j
 all:∀ s∈a,s.bO.map fp.sym=lO g (cJ g s.bc) (g.ai.length+g.al.length)
theorem Fs {g:af} (a:g.cY):∀ (f at_:Nat) (out:List aJ),302<=f+at_->en g at_ 0 out->kL g out->oB g at_ 0 out->out.length<=300->(fN g f at_ out).2=0->UF g (fN g f at_ out).1
 | 0,at_,out,n,_,_,h,o,_=>⟨h.one,h.back,λs d=>by
   change s∈out at d
   obtain⟨j,i,e⟩:=abv.1 d
   have:=h.done j (by omega) i
   rwa [show out.getD j bC=s by rw[aaA,aaB i];exact e] at this⟩
 | f+1,at_,out,n,hi,he,h,o,b=>by
  have p:=a.ai
  have q:=a.al
  rw[fN] at b ⊢
  split
  .rename_i c
   rw[aaF c] at b
   have hr:=en.row (hi.nB a c).1 (hi.nB a c).2 hi (g.ai.length+g.al.length) (by omega)
   have l:=he.row a hi c (g.ai.length+g.al.length) (by omega)
   have m:=h.row a hi he c (g.ai.length+g.al.length) (by omega)
   rw[show (List.range (g.ai.length+g.al.length)).foldl (dw g (cJ g (out.getD at_ bC).bc) at_) out=xg g at_ out (g.ai.length+g.al.length) from rfl] at hr l m
   split
   .rename_i k;rw[aaF k] at b;simp at b
   .rename_i k
    rw[aaD k] at b
    exact Fs a f (at_+1) _ (by omega) hr.1.next l.1 (m.next hr.1) (by omega) b
  .rename_i c
   exact⟨h.one,h.back,λs d=>by
    change s∈out at d
    obtain⟨j,i,e⟩:=abv.1 d
    have:=h.done j (by omega) i
    rwa [show out.getD j bC=s by rw[aaA,aaB i];exact e] at this⟩
theorem P7 {g:af} (b:g.cY) (h:(aS g).2=0):UF g (aS g).1:=by
 unfold aS at h ⊢
 split
 .rename_i hr
  rw[aaF hr] at h
  refine Fs b 302 0 eu (by omega) ma ⟨rfl,λs a e he=>by simp[eu] at a;subst a;simp at he⟩ ⟨by simp[eu],λj h1 c=>by simp[eu] at c;omega,λj h1=>by omega,λ_=>?_⟩ (by simp[eu]) h
  simp[eu,lO]
 .rename_i hr
  rw[aaD hr] at h
  simp at h
theorem Hg (g:af):∀ (f at_:Nat) (out:List aJ),(fN g f at_ out).2=0∨fN g f at_ out=([],5)
 | 0,_,_=>.inl rfl
 | f+1,at_,out=>by
  rw[fN]
  split
  .split
   .exact .inr rfl
   .exact Hg g f _ _
  .exact .inl rfl
theorem RQ (g:af):((aS g).2=0/\isRed g=true)∨(aS g=([],5)/\isRed g=true)∨(aS g=([],1)/\isRed g=false):=by
 unfold aS
 cases h:isRed g with
 | false=>exact .inr (.inr ⟨by simp,rfl⟩)
 | true =>
  rw[aaF rfl]
  rcases Hg g 302 0 eu with h | h
  .exact .inl ⟨h,rfl⟩
  .exact .inr (.inl ⟨h,rfl⟩)
theorem rH {g:af} (a:g.cY) {x:ay} (c:cw g x) {s:Int} (h:aW g x=(s,true)):dL g s=true:=by
 obtain⟨h1,d⟩:=r7 h
 have b:x.dot.toNat < (aM g x.au).length:=by have:=c.2;omega
 have hm:s∈aM g x.au:=by
  rw[<-d,aaA,aaB b];exact aaL _
 unfold aM at hm
 split at hm
 .simp at hm;subst hm
  have:=a.kj;have:=a.start
  unfold dL
  rw[aaD (by omega)]
  simp;omega
 .have e:g.rules[x.au.toNat]?=some (aA g x.au):=by unfold aA;exact getD_some (by have:=c.1;omega)
  exact a.sym _ (aaI e) s hm
def er (a:List aJ) (p:Nat) (s:Int):Nat:=(ef a p [s]).1.toNat
def eZ (a:List aJ) (p:Nat) (s:Int):Prop:=∃ e∈(a.getD p bC).bO,e.sym=s
noncomputable abbrev jc (g:af) (a:List aJ) (p:Nat):List ay:=cJ g (a.getD p bC).bc
inductive nA (a:List aJ):Nat->List Int->Nat->Prop
 | nil {p:Nat} : nA a p [] p
 | cons {p q:Nat} {s:Int} {X:List Int} : eZ a p s->nA a (er a p s) X q->nA a p (s :: X) q
theorem nA.snoc {a:List aJ} {p q:Nat} {X:List Int} (h:nA a p X q) {s:Int} (he:eZ a q s):nA a p (X ++ [s]) (er a q s):=by
 induction h with
 | nil=>exact .cons he .nil
 | cons h1 _ b=>exact .cons h1 (b he)
theorem iw {a:List aJ} {p:Nat} {s:Int} (h:eZ a p s):p < a.length:=by
 obtain⟨e,he,_⟩:=h;exact(Nu he).1
theorem L3 {l:List fp} {s:Int} (h:∃ e∈l,e.sym=s):∃ e∈l,e.sym=s/\fP l s=e.to:=by
 induction l with
 | nil=>obtain⟨e,he,_⟩:=h;simp at he
 | cons e l c =>
  rw[fP]
  by_cases a:e.sym=s
  .rw[aaF a];exact⟨e,by simp,a,rfl⟩
  .rw[aaD a]
   obtain⟨d,h1,b⟩:=h
   rcases aaT.1 h1 with rfl | h1
   .exact absurd b a
   .obtain⟨f,g,k2⟩:=c ⟨d,h1,b⟩
    exact⟨f,by simp[g],k2⟩
theorem VD {g:af} {i j:Nat} (h:bh g i=bh g j):i=j:=by
 have h1:=yM g i
 rw[h,yM] at h1
 omega
theorem L9 (g:af) (l:List ay) (n:Nat):(lO g l n).Nodup:=by
 unfold lO
 unfold List.Nodup
 rw[acL]
 exact((List.nodup_range (n:=n)).filter _).imp λa e=>a (VD e)
theorem Ur {l:List fp} (h:(l.map fp.sym).Nodup) {e:fp} (he:e∈l):fP l e.sym=e.to:=by
 induction l with
 | nil=>simp at he
 | cons x l a =>
  simp only[aa9,abK] at h
  rw[fP]
  rcases aaT.1 he with rfl | he
  .rw[aaF rfl]
  .rw[aaD (λb=>h.1 (by rw[b];exact List.mem_map_of_mem he))]
   exact a h.2 he
structure bY (g:af) (a:List aJ):Prop where
 de:g.cY
 ok:tQ g a
 e:kL g a
 x:UF g a
 pos:1<=a.length
section
variable {g:af} {a:List aJ}
theorem bY.bc (h:bY g a) {p:Nat} (hp:p < a.length):∀ x∈(a.getD p bC).bc,cw g x:=(h.ok.bc _ (aaI (getD_some hp))).2.2
theorem bY.has (h:bY g a) {p:Nat} (hp:p < a.length) {x:ay} (b:x∈jc g a p):cw g x:=((dc h.de (h.bc hp)).1 b).has (h.bc hp)
theorem bY.rS (h:bY g a) {p:Nat} (hp:p < a.length) {s:Int} : eZ a p s↔∃ x∈jc g a p,aW g x=(s,true):=by
 have k:=h.x.all _ (aaI (getD_some (d:=bC) hp))
 have e:eZ a p s↔s∈((a.getD p bC).bO.map fp.sym):=by
  simp only[eZ,aaX]
 rw[e,k]
 simp only[lO,aaX,abt,abA,aaP]
 constructor
 .rintro⟨i,⟨hi,f⟩,rfl⟩
  obtain⟨y,l⟩:=List.exists_mem_of_ne_nil _ f
  obtain⟨x,b,c,_⟩:=mo.1 l
  exact⟨x,b,c⟩
 .rintro⟨x,b,c⟩
  obtain⟨m,n⟩:=Cw (rH h.de (h.has hp b) c)
  obtain⟨o,j⟩:=KB m
  refine⟨(nZ g s).toNat,⟨by omega,?_⟩,j⟩
  rw[j]
  exact List.ne_nil_of_mem (mo.2 ⟨x,b,c,rfl⟩)
theorem bY.er (h:bY g a) {p:Nat} {s:Int} (he:eZ a p s):∃ e∈(a.getD p bC).bO,e.sym=s/\e.to=er a p s/\er a p s < a.length/\ef a p [s]=((er a p s:Int),true):=by
 have hp:=iw he
 have hm:=aaI (getD_some (d:=bC) hp)
 obtain⟨e,h1,c,f⟩:=L3 he
 obtain⟨t1,t2⟩:=h.ok.to _ hm _ h1
 have hw:ef a p [s]=(e.to,true):=by
  unfold ef
  rw[aaD (by omega),fV,aa0,f,aaF ⟨t1,t2⟩,fV]
 have b:((Gv.er a p s:Nat):Int)=e.to:=by unfold Gv.er;rw[hw];simp;omega
 exact⟨e,h1,c,b.symm,by omega,by rw[hw,b]⟩
theorem bY.U6 (h:bY g a) {p:Nat} {s:Int} (he:eZ a p s):(a.getD (Gv.er a p s) bC).bc=bA g (jc g a p) s:=by
 have hm:=aaI (getD_some (d:=bC) (iw he))
 obtain⟨e,h1,b,c,_⟩:=h.er he
 have:=h.e.rS _ hm e h1
 rw[c,aa0,b] at this
 exact this
theorem bY.step (h:bY g a) {p:Nat} (hp:p < a.length) {x:ay} (b:x∈jc g a p) {s:Int} (c:aW g x=(s,true)):eZ a p s/\(⟨x.au,x.dot+1⟩:ay)∈(a.getD (Gv.er a p s) bC).bc/\(⟨x.au,x.dot+1⟩:ay)∈jc g a (Gv.er a p s)/\Gv.er a p s < a.length:=by
 have he:=(h.rS hp).2 ⟨x,b,c⟩
 obtain⟨_,_,_,_,d,_⟩:=h.er he
 have hk:(⟨x.au,x.dot+1⟩:ay)∈(a.getD (Gv.er a p s) bC).bc:=by
  rw[h.U6 he];exact mo.2 ⟨x,b,c,rfl⟩
 exact⟨he,hk,(dc h.de (h.bc d)).2 (.base hk),d⟩
theorem bY.Zz (h:bY g a) {p:Nat} {s:Int} (he:eZ a p s):∀ y∈(a.getD (Gv.er a p s) bC).bc,1<=y.dot:=by
 intro y b
 rw[h.U6 he] at b
 obtain⟨x,c,_,rfl⟩:=mo.1 b
 have:=(h.has (iw he) c).2
 simp only;omega
theorem bY.ne0 (h:bY g a) {p:Nat} {s:Int} (he:eZ a p s):Gv.er a p s≠0:=λe=>by
 have:=h.Zz he ⟨-1,0⟩ (by rw[e,h.e.first];simp)
 simp at this
theorem bY.prev (h:bY g a) {i:Nat} (hi:i < a.length) {x:ay} (c:x∈(a.getD i bC).bc) (f:0 < i):∃ (p:Nat) (y:ay) (s:Int),p < i/\p < a.length/\y∈jc g a p/\aW g y=(s,true)/\x=⟨y.au,y.dot+1⟩/\eZ a p s/\Gv.er a p s=i:=by
 obtain⟨p,e,hp,he,d⟩:=h.x.back i f hi
 obtain⟨b,hm⟩:=Nu he
 have hk:=h.e.rS _ hm e he
 rw[d,aa0] at hk
 rw[hk] at c
 obtain⟨y,j,k,rfl⟩:=mo.1 c
 have l:eZ a p e.sym:=⟨e,he,rfl⟩
 refine⟨p,y,e.sym,hp,b,j,k,rfl,l,?_⟩
 have h1:=Ur (by rw[h.x.all _ hm];exact L9 _ _ _) he
 have hw:ef a p [e.sym]=(e.to,true):=by
  have:=h.ok.to _ hm _ he
  unfold ef
  rw[aaD (by omega),fV,aa0,h1,aaF this,fV]
 unfold Gv.er
 rw[hw,d];rfl
theorem Cq {x:ay} {s:Int} (b:cw g x) (h:aW g x=(s,true)):∃ d:Nat,x.dot=d/\d < (aM g x.au).length/\(aM g x.au).drop d=s :: (aM g x.au).drop (d+1):=by
 obtain⟨h1,a⟩:=r7 h
 have:=b.2
 refine⟨x.dot.toNat,by omega,by omega,?_⟩
 rw[abo (show x.dot.toNat < (aM g x.au).length by omega)]
 rw[aaA,aaB (show x.dot.toNat < (aM g x.au).length by omega)] at a
 simp at a
 rw[a]
theorem mT {r:Int} {d:Nat} {s:Int} {l:List Int} (h:(aM g r).drop d=s :: l):aW g ⟨r,d⟩=(s,true)/\(aM g r).drop (d+1)=l/\d < (aM g r).length:=by
 have a:d < (aM g r).length:=by
  rcases aa2 d (aM g r).length with q | q
  .exact q
  .rw[aa7 q] at h;simp at h
 rw[abo a] at h
 simp only[List.cons.injEq] at h
 refine⟨?_,h.2,a⟩
 unfold aW
 rw[aaD (by simp only;omega)]
 simp only[aa0,aaA,aaB a,aaU,h.1]
theorem bY.fwd (h:bY g a) (r:Int):∀ (X:List Int) (d:Nat) (p:Nat),p < a.length->(⟨r,d⟩:ay)∈jc g a p->(∃ l,(aM g r).drop d=X ++ l)->∃ q,q < a.length/\nA a p X q/\(⟨r,((d+X.length:Nat):Int)⟩:ay)∈jc g a q
 | [],d,p,hp,b,_=>⟨p,hp,.nil,by simpa using b⟩
 | s :: X,d,p,hp,b,⟨l,c⟩=>by
  obtain⟨n1,e,n⟩:=mT c
  obtain⟨s1,s2,f,i⟩:=h.step hp b n1
  obtain⟨q,j,k,m⟩:=bY.fwd h r X (d+1) (Gv.er a p s) i (by simpa using f) ⟨l,e⟩
  refine⟨q,j,.cons s1 k,?_⟩
  rw[show d+(s :: X).length=d+1+X.length by simp;omega]
  exact m
end
inductive wE (g:af) (a:List aJ):Nat->Int->Nat->Prop
 | fin:wE g a 0 g.start g.ai.length
 | term {p:Nat} {B:Int} {t:Nat} : t < g.ai.length->eZ a (er a p (-1 - B)) t->wE g a p B t
 | null {p:Nat} {B C:Int} {t:Nat} : 0<=C->eZ a (er a p (-1 - B)) (-1 - C)->(av g false).getD C.toNat false=true->wE g a (er a p (-1 - B)) C t->wE g a p B t
inductive xb (g:af) (a:List aJ):Nat->Int->Nat->Prop
 | read {p:Nat} {B:Int} {t:Nat} : wE g a p B t->xb g a p B t
 | Qi {p p' k d:Nat} {B:Int} {t:Nat} : xb g a p' (aA g k).left t->k < g.rules.length->eZ a p' (-1 - (aA g k).left)->0<=B->(aA g k).right[d]?=some (-1 - B)->nA a p' ((aA g k).right.take d) p->dB ((aA g k).right.drop (d+1)) (av g false) false=true->xb g a p B t
theorem sM (null:List Bool) (first:List BV) (b:BV):∀ (l:List Int) (t:Nat),(ej null first b l).getLsbD t=true↔(ej null first 0 l).getLsbD t=true∨(dB l null false=true/\b.getLsbD t=true)
 | [],t=>by simp[ej,dB]
 | s :: l,t=>by
  have c:=sM null first b l t
  rw[ej,ej]
  by_cases a:0<=s
  .rw[aaF a,aaF a];simp[dB,a]
  .rw[aaD a,aaD a]
   by_cases h1:null.getD (-1 - s).toNat false=true
   .rw[aaF h1,aaF h1,abm,abm,abC,abC,c]
    have:dB (s :: l) null false=dB l null false:=by
     rw[dB,abQ,aaD a,h1];rfl
    rw[this]
    constructor
    .rintro (h | h | h)
     .exact .inl (.inl h)
     .exact .inl (.inr h)
     .exact .inr h
    .rintro ((h | h) | h)
     .exact .inl h
     .exact .inr (.inl h)
     .exact .inr (.inr h)
   .rw[aaD h1,aaD h1]
    have:dB (s :: l) null false=false:=by
     rw[dB,abQ,aaD a]
     simp only[Bool.not_eq_true] at h1
     rw[h1];rfl
    rw[this];simp
theorem BT {F:List Bool->List Bool} (a:∀ is,gf is (F is)):∀ (k:Nat) (is:List Bool),is.length<=dQ is+k->F (iter F k is)=iter F k is
 | 0,is,h=>by
  have h1:=a is
  have c:=rR (F is)
  have b:=h1.dQ
  rw[<-h1.1] at c
  have d:=rR is
  exact(b.2 (by omega)).symm
 | k+1,is,h=>by
  rw[iter]
  by_cases e:F is=is
  .rw[e]
   have:iter F k is=is:=zP e k
   rw[this,e]
  .refine BT a k (F is) ?_
   have h1:=a is
   have b:=h1.dQ
   have:dQ is≠dQ (F is):=λq=>e (b.2 q).symm
   rw[<-h1.1];omega
def pt (t:Nat) (fs:List BV):List Bool:=fs.map λb=>b.getLsbD t
def R7 (null:List Bool) (t:Nat) (is:List Bool):List Int->Bool
 | []=>false
 | s :: l=>if 0<=s then (jq s).getLsbD t else if null.getD (-1 - s).toNat false=true then is.getD (-1 - s).toNat false || R7 null t is l else is.getD (-1 - s).toNat false
theorem sq (t:Nat) (a:List BV) (i:Nat):(pt t a).getD i false=(a.getD i 0).getLsbD t:=by
 simp only[pt,aaA,aaE]
 cases a[i]? with
 | none=>simp
 | some x=>rfl
theorem Lv (null:List Bool) (t:Nat) (a:List BV):∀ l:List Int,(ej null a 0 l).getLsbD t=R7 null t (pt t a) l
 | []=>by simp[ej,R7]
 | s :: l=>by
  rw[ej,R7]
  split
  .rfl
  .split
   .rw[abm,Lv null t a l,sq]
   .rw[sq]
def lH (null:List Bool) (t:Nat) (is:List Bool) (r:aX):List Bool:=is.set r.left.toNat (is.getD r.left.toNat false || R7 null t is r.right)
theorem V4 (null:List Bool) (t:Nat) (a:List BV) (r:aX):pt t (lN null a r)=lH null t (pt t a) r:=by
 unfold lN lH
 rw[sq,<-Lv,<-abm]
 simp[pt,acC]
theorem JE (null:List Bool) (t:Nat):∀ (l:List aX) (a:List BV),pt t (l.foldl (lN null) a)=l.foldl (lH null t) (pt t a)
 | [],_=>rfl
 | r :: l,a=>by rw[abc,JE null t l,V4];rfl
theorem J1 (g:af) (null:List Bool) (t:Nat):∀ (n:Nat) (a:List BV),pt t (iter (uM g null) n a)=iter (λis=>g.rules.foldl (lH null t) is) n (pt t a)
 | 0,_=>rfl
 | n+1,a=>by rw[iter,iter,J1 g null t n];exact abN _ (JE null t g.rules a)
theorem JN (null:List Bool) (t:Nat) (is:List Bool) (r:aX):gf is (lH null t is r):=by
 refine⟨by simp[lH],λi hi=>?_⟩
 unfold lH
 simp only[aaA,abW] at hi ⊢
 split
 .rename_i e
  subst e
  split
  .simp[hi]
  .rename_i h;rw[aa6 (by omega)] at hi;simp at hi
 .exact hi
theorem DT (null:List Bool) (t:Nat):∀ (l:List aX) (is:List Bool),gf is (l.foldl (lH null t) is)
 | [],is=>.refl _
 | r :: l,is=>(JN null t is r).trans (DT null t l _)
theorem HA {null:List Bool} {t:Nat} : ∀ {l:List aX} {is:List Bool},l.foldl (lH null t) is=is->∀ R∈l,lH null t is R=is
 | [],_,_,_,h=>by simp at h
 | R :: l,is,h,x,a=>by
  rw[abc] at h
  have h1:=DT null t l (lH null t is R)
  rw[h] at h1
  have b:=(h1.tz (JN null t is R))
  rcases aaT.1 a with rfl | a
  .exact b
  .rw[b] at h;exact HA h x a
theorem vp {g:af} (d:g.cY) (null:List Bool) {R:aX} (b:R∈g.rules):qt (ej null (cU g null) 0 R.right) ((cU g null).getD R.left.toNat 0):=by
 intro t c
 have e:=J1 g null t g.al.length (List.replicate g.al.length 0)
 have a:=BT (F:=λis=>g.rules.foldl (lH null t) is) (λis=>DT null t g.rules is) g.al.length (pt t (List.replicate g.al.length 0)) (by simp[pt])
 rw[<-e] at a
 have h1:=HA a R b
 rw[Lv] at c
 rw[<-sq]
 have h:=d.left R b
 have f:R.left.toNat < (pt t (cU g null)).length:=by simp[pt,FW];omega
 change lH null t (pt t (cU g null)) R=pt t (cU g null) at h1
 rw[<-h1]
 unfold lH
 rw[aaA,ab6 f,c,Bool.or_true];rfl
theorem vx {t:Nat} (h:t<=31) (i:Nat):(jq (t:Int)).getLsbD i=true↔i=t:=by
 unfold jq
 rw[aaF ⟨by omega,by omega⟩,ab0,aa0]
 simp only[aaK,aaP]
 omega
theorem Sy {g:af} (h:isRed g=true):∀ i:Nat,i < g.al.length->(av g true).getD i false=true:=by
 have hr:=iX h
 unfold isRed at h
 simp only[aaK,abB,aaP] at h
 obtain⟨h1,b⟩:=h
 have hp:(av g true).getD g.start.toNat false=true:=by
  refine ace λc=>?_
  rw[mB hr,aaD c] at h1
  simp at h1
 have a:=QO hr hp
 have e:(gv g).1=rq g (bN (cL (av g true) (bP g) g.rules)) (av g true) (bP g):=by rw[mB hr,aaF hp]
 rw[<-e,<-b] at a
 intro i hi
 rw[a.len] at hi
 exact a.HK hi
theorem PA {g:af} (h:isRed g=true) {x:Int} (f:vH g x):(av g false).getD x.toNat false=true∨∃ t,((cU g (av g false)).getD x.toNat 0).getLsbD t=true:=by
 have hr:=iX h
 have c:=bj hr
 induction f with
 | mk R d _ i =>
  have key:∀ l:List Int,(∀ s∈l,s∈R.right)->dB l (av g false) false=true∨∃ t,(ej (av g false) (cU g (av g false)) 0 l).getLsbD t=true:=by
   intro l
   induction l with
   | nil=>intro _;exact .inl rfl
   | cons s l il =>
    intro e
    rw[ej]
    by_cases b:0<=s
    .rw[aaF b]
     have h1:=c.sym R d s (e s (by simp))
     have:=c.ai
     unfold dL at h1
     rw[aaF b] at h1
     simp at h1
     obtain⟨t,rfl⟩:∃ t:Nat,s=t:=⟨s.toNat,by omega⟩
     exact .inr ⟨t,(vx (by omega) t).2 rfl⟩
    .rw[aaD b]
     rcases i s (e s (by simp)) (by omega) with h1 | ⟨t,a⟩
     .rw[aaF h1]
      rcases il λx j=>e x (by simp[j]) with k | ⟨t,a⟩
      .left
       rw[dB,abQ,aaD b,h1];exact k
      .exact .inr ⟨t,by rw[abm,a,Bool.or_true]⟩
     .right
      split
      .exact⟨t,by rw[abm,a,Bool.true_or]⟩
      .exact⟨t,a⟩
  rcases key R.right (λ_ h=>h) with h1 | ⟨t,a⟩
  .exact .inl (mf hr d h1)
  .exact .inr ⟨t,vp c _ d t a⟩
theorem Ef {g:af} (h:isRed g=true) {t0:Nat} (d:t0 < 32):∀ l:List Int,(∀ s∈l,dL g s=true)->∃ t,(ej (av g false) (cU g (av g false)) (BitVec.twoPow 32 t0) l).getLsbD t=true
 | [],_=>⟨t0,by rw[ej,ab0];simp[d]⟩
 | s :: l,e=>by
  have hr:=iX h
  have f:=bj hr
  have h1:=e s (by simp)
  have:=f.ai
  rw[ej]
  unfold dL at h1
  by_cases b:0<=s
  .rw[aaF b]
   rw[aaF b] at h1
   simp at h1
   obtain⟨t,rfl⟩:∃ t:Nat,s=t:=⟨s.toNat,by omega⟩
   exact⟨t,(vx (by omega) t).2 rfl⟩
  .rw[aaD b]
   rw[aaD b] at h1
   simp at h1
   have i:=BN hr (-1 - s).toNat (Sy h _ (by omega))
   obtain⟨t2,c⟩:=Ef h d l λx j=>e x (by simp[j])
   split
   .exact⟨t2,by rw[abm,c,Bool.or_true]⟩
   .rename_i k
    rcases PA h i with a | ⟨t,a⟩
    .rw[aa0] at a;exact absurd a k
    .rw[aa0] at a;exact⟨t,a⟩
section
variable {g:af} {a:List aJ}
theorem ic {i:Nat} {x:ay} : x∈(aY g a).getD i []↔i < a.length/\x∈jc g a i:=by
 unfold aY
 rw[aaA,aaE]
 rcases aa2 i a.length with h | h
 .rw[aaB h]
  simp[h,jc,aaA,aaB h]
 .rw[aa6 h]
  simp;omega
theorem oJ {x:ay} {s:Int} (a:cw g x) (h:aW g x=(s,true)):∃ d:Nat,x.dot=d/\(aM g x.au).drop d=s :: cP g x/\(aM g x.au).drop (d+1)=cP g x:=by
 obtain⟨d,h1,b,f⟩:=Cq a h
 have e:(aM g x.au).drop (d+1)=cP g x:=by
  unfold cP
  by_cases c:0<=x.au
  .rw[aaF c,h1,aM,aaD (by omega)];rfl
  .rw[aaD c]
   have hr:x.au = -1:=by have:=a.1;omega
   rw[hr] at b ⊢
   simp only[aM,if_true] at b ⊢
   exact aa7 (by simp)
 exact⟨d,h1,by rw[f,e],e⟩
theorem rz {null:List Bool} {a:List BV} {s:Int} {l:List Int} {u:Nat} : (ej null a 0 (s :: l)).getLsbD u=true↔(0<=s/\(jq s).getLsbD u=true)∨(s < 0/\((a.getD (-1 - s).toNat 0).getLsbD u=true∨(null.getD (-1 - s).toNat false=true/\(ej null a 0 l).getLsbD u=true))):=by
 rw[ej]
 by_cases b:0<=s
 .rw[aaF b]
  constructor
  .intro h;exact .inl ⟨b,h⟩
  .rintro (h | h)
   .exact h.2
   .omega
 .rw[aaD b]
  split
  .rename_i c
   rw[abm,abC]
   constructor
   .rintro (h | h)
    .exact .inr ⟨by omega,.inl h⟩
    .exact .inr ⟨by omega,.inr ⟨c,h⟩⟩
   .rintro (h | ⟨_,h | h⟩)
    .omega
    .exact .inl h
    .exact .inr h.2
  .rename_i c
   constructor
   .intro h;exact .inr ⟨by omega,.inl h⟩
   .rintro (h | ⟨_,h | h⟩)
    .omega
    .exact h
    .exact absurd h.1 c
def Ku (g:af) (a:List aJ) (q u:Nat):Prop:=(u < g.ai.length/\eZ a q u)∨∃ C:Int,0<=C/\eZ a q (-1 - C)/\(av g false).getD C.toNat false=true/\wE g a q C u
theorem Ku.read {p u:Nat} {B:Int} (h:Ku g a (er a p (-1 - B)) u):wE g a p B u:=by
 rcases h with ⟨h1,b⟩ | ⟨C,h1,b,c,d⟩
 .exact .term h1 b
 .exact .null h1 b c d
def wy (g:af) (a:List aJ) (fs:List BV):Prop:=∀ (C:Int) (q u:Nat),0<=C->(fs.getD C.toNat 0).getLsbD u=true->eZ a q (-1 - C)->Ku g a q u
theorem I8 (b:bY g a) {c:List BV} (f:wy g a c) {r:Int} {u:Nat} : ∀ (l:List Int) (d q:Nat),q < a.length->(⟨r,d⟩:ay)∈jc g a q->(aM g r).drop d=l->(ej (av g false) c 0 l).getLsbD u=true->Ku g a q u
 | [],_,_,_,_,_,h=>by simp[ej] at h
 | s :: l,d,q,i,j,m,h=>by
  obtain⟨n1,n,w⟩:=mT m
  obtain⟨s1,s2,o,p⟩:=b.step i j n1
  rcases rz.1 h with ⟨v,h1⟩ | ⟨v,h1⟩
  .have k:=Cw (rH b.de (b.has i j) n1)
   have:=b.de.ai
   obtain⟨t,rfl⟩:∃ t:Nat,s=t:=⟨s.toNat,by omega⟩
   have:=(vx (by omega) u).1 h1
   subst this
   exact .inl ⟨by omega,s1⟩
  .have e : -1 - (-1 - s)=s:=by omega
   rcases h1 with h1 | ⟨h1,k⟩
   .exact f (-1 - s) q u (by omega) h1 (by rw[e];exact s1)
   .refine .inr ⟨-1 - s,by omega,by rw[e];exact s1,h1,Ku.read ?_⟩
    rw[e]
    exact I8 b f l (d+1) _ p (by simpa using o) n k
theorem rr (b:bY g a) {q:Nat} (c:q < a.length) {C:Int} {k:Nat} (h:0<=C) (hk:k < g.rules.length) (i:(aA g k).left=C) (he:eZ a q (-1 - C)):(⟨k,0⟩:ay)∈jc g a q:=by
 obtain⟨x,d,e⟩:=(b.rS c).1 he
 have f:g.rules[k]?=some (aA g k):=by unfold aA;exact getD_some hk
 exact(dc b.de (b.bc c)).2 (.step ((dc b.de (b.bc c)).1 d) e (by omega) f (by omega))
theorem T0 (b:bY g a) {e:List BV} (c:wy g a e) {k:Nat} (hk:k < g.rules.length):wy g a (lN (av g false) e (aA g k)):=by
 intro C q u d hu he
 have i:g.rules[k]?=some (aA g k):=by unfold aA;exact getD_some hk
 have j:=(b.de.left _ (aaI i)).1
 unfold lN at hu
 rw[jQ] at hu
 split at hu
 .rename_i l
  rw[abm,abC] at hu
  have f:(aA g k).left=C:=by omega
  rcases hu with hu | hu
  .exact c C q u d (by rw[<-f];exact hu) he
  .have h:=iw he
   have hm:=rr b h d hk f he
   refine I8 b c _ 0 q h hm ?_ hu
   rw[abP,aM,aaD (by omega)]
 .exact c C q u d hu he
theorem HF (c:bY g a):∀ (l:List aX) (b:List BV),(∀ R∈l,R∈g.rules)->wy g a b->wy g a (l.foldl (lN (av g false)) b)
 | [],_,_,h=>h
 | R :: l,b,d,h=>by
  obtain⟨k,hk,e⟩:=abv.1 (d R (by simp))
  have i:R=aA g k:=by
   have f:g.rules[k]?=some (aA g k):=by unfold aA;exact getD_some hk
   rw[aaB hk,e] at f
   simpa using f
  rw[abc]
  refine HF c l _ (λx j=>d x (by simp[j])) ?_
  rw[i]
  exact T0 c h hk
theorem Ik (c:bY g a):∀ (n:Nat) (b:List BV),wy g a b->wy g a (iter (uM g (av g false)) n b)
 | 0,_,h=>h
 | n+1,b,h=>by
  rw[iter]
  exact Ik c n _ (HF c g.rules b (λ_ h=>h) h)
theorem Fx (b:bY g a):wy g a (cU g (av g false)):=by
 refine Ik b _ _ λC q u c hu he=>?_
 simp only[aaA,abV] at hu
 split at hu <;> simp at hu
theorem Yp (b:bY g a) {i:Nat} {x:ay} {t:Nat} (h:kG g (av g false) a (aY g a) i x t) :
  (x.au < 0->t=g.ai.length)/\(0<=x.au->∃ p,nA a p ((aM g x.au).take x.dot.toNat) i/\eZ a p (-1 - (aA g x.au).left)/\xb g a p (aA g x.au).left t):=by
 induction h with
 | start=>exact⟨λ_=>rfl,λh=>by simp at h⟩
 | @move i x t s w c hm l =>
  obtain⟨hi,f⟩:=ic.1 w.mem
  have hH:=b.has hi f
  refine⟨l.1,λm=>?_⟩
  obtain⟨p,j,r,v⟩:=l.2 m
  obtain⟨d,d1,d2,d3⟩:=oJ hH c
  refine⟨p,?_,r,v⟩
  have O:=((b.rS hi).2 ⟨x,f,c⟩)
  have:=j.snoc O
  rw[d1] at this ⊢
  rw[show ((d:Int)+1).toNat=d+1 by omega,aa3]
  have P:(aM g x.au)[d]?=some s:=by
   have:=abN (·[0]?) d2
   simpa using this
  rw[P]
  exact this
 | @begin i x t u s k w c I hk J hm hu l =>
  obtain⟨hi,f⟩:=ic.1 w.mem
  have hH:=b.has hi f
  refine⟨λh=>by simp only at h;omega,λ_=>?_⟩
  obtain⟨d,d1,d2,d3⟩:=oJ hH c
  obtain⟨s1,s2,K,Q⟩:=b.step hi f c
  have e : -1 - (-1 - s)=s:=by omega
  refine⟨i,by simpa using nA.nil,by simp only;rw[J,e];exact s1,?_⟩
  simp only
  rw[J]
  rcases (sM _ _ _ _ _).1 hu with h1 | ⟨h1,L⟩
  .refine .read (Ku.read ?_)
   rw[e]
   refine I8 b (Fx b) (cP g x) (d+1) _ Q (by rw[d1] at K;simpa using K) d3 h1
  .have z:u=t:=by
    rw[ab0] at L
    simp at L;omega
   subst z
   by_cases m:0<=x.au
   .obtain⟨p,j,r,v⟩:=l.2 m
    obtain⟨n,A⟩:∃ n:Nat,x.au=n:=⟨x.au.toNat,by omega⟩
    have B:n < g.rules.length:=by have:=hH.1;omega
    rw[A] at j r v d2 d3
    have C:aM g (n:Int)=(aA g n).right:=by rw[aM,aaD (by omega)]
    rw[C] at j d2 d3
    rw[d1] at j
    refine .Qi v B r (by omega) (d:=d) ?_ (by simpa using j) (by rw[d3];exact h1)
    have:=abN (·[0]?) d2
    rw[e]
    simpa using this
   .have R:=l.1 (by omega)
    have hr:x.au = -1:=by have:=hH.1;omega
    have D:=((dc b.de (b.bc hi)).1 f).bc (.inr (by omega))
    have E:i=0:=Nat.eq_zero_of_not_pos λm=>by
     obtain⟨p,y,X,_,S,T,U,M,Y,Z⟩:=b.prev hi D m
     have o:=abN ay.au M
     have F:=abN ay.dot M
     simp only at o F
     obtain⟨d',e1,N,e3⟩:=Cq (b.has S T) U
     obtain⟨G,V,q,W⟩:=Cq hH c
     rw[<-o,hr] at N
     rw[hr] at q
     simp only[aM,if_true,List.length_singleton] at N q
     omega
    have H:d=0:=by
     obtain⟨G,V,q,W⟩:=Cq hH c
     rw[hr] at q
     simp only[aM,if_true,List.length_singleton] at q
     omega
    subst H
    rw[hr] at d2
    simp only[aM,if_true,abP,List.cons.injEq] at d2
    rw[E,R,show -1 - s=g.start by omega]
    exact .read .fin
theorem RJ (f:bY g a) {q:Nat} (m:q < a.length) {u:Nat} {z:ay} (n:z∈jc g a q):∀ d:Nat,z.dot=d->(ej (av g false) (cU g (av g false)) 0 ((aM g z.au).drop d)).getLsbD u=true ->
  ∃ (y:ay) (e:Nat),y∈(a.getD q bC).bc/\y.dot=e/\(ej (av g false) (cU g (av g false)) 0 ((aM g y.au).drop e)).getLsbD u=true:=by
 have i:=(dc f.de (f.bc m)).1 n
 clear n
 induction i with
 | base h=>exact λd h1 b=>⟨_,d,h,h1,b⟩
 | @step x s k R o p c j r t =>
  intro d h1 b
  have v:d=0:=by simp only at h1;omega
  subst v
  obtain⟨w,A,B,C⟩:=oJ (o.has (f.bc m)) p
  refine t w A ?_
  rw[B]
  refine rz.2 (.inr ⟨c,.inl ?_⟩)
  have hk:k < g.rules.length:=(aaR.1 j).1
  have l:aA g k=R:=by unfold aA;rw[aaA,aa0,j];rfl
  rw[<-r]
  refine vp f.de _ (aaI j) u ?_
  rw[abP,aM,aaD (by simp only;omega)] at b
  simp only at b
  rw[l] at b
  exact b
theorem Ha (b:bY g a) {p:Nat} {s:Int} {u:Nat} (he:eZ a p s) (h:∃ y∈jc g a (er a p s),∃ d:Nat,y.dot=d/\(ej (av g false) (cU g (av g false)) 0 ((aM g y.au).drop d)).getLsbD u=true) :
  ∃ x∈jc g a p,aW g x=(s,true)/\(ej (av g false) (cU g (av g false)) 0 (cP g x)).getLsbD u=true:=by
 obtain⟨y,j,d,h1,k⟩:=h
 obtain⟨_,_,_,_,l,_⟩:=b.er he
 obtain⟨z,e,c,z2,z3⟩:=RJ b l j d h1 k
 rw[b.U6 he] at c
 obtain⟨x,f,i,rfl⟩:=mo.1 c
 refine⟨x,f,i,?_⟩
 obtain⟨m,o,q,n⟩:=oJ (b.has (iw he) f) i
 simp only at z2 z3
 rw[<-n,show m+1=e by omega]
 exact z3
theorem Fc (b:bY g a) {p u:Nat} {B:Int} (h:wE g a p B u):eZ a p (-1 - B)->(p=0/\B=g.start/\u=g.ai.length)∨∃ x∈jc g a p,aW g x=(-1 - B,true)/\(ej (av g false) (cU g (av g false)) 0 (cP g x)).getLsbD u=true:=by
 induction h with
 | fin=>exact λ_=>.inl ⟨rfl,rfl,rfl⟩
 | @term p B t r he =>
  intro c
  right
  refine Ha b c ?_
  have j:=iw he
  obtain⟨y,k,e⟩:=(b.rS j).1 he
  obtain⟨d,f,i,m⟩:=oJ (b.has j k) e
  refine⟨y,k,d,f,?_⟩
  have:=b.de.ai
  rw[i]
  exact rz.2 (.inl ⟨by omega,(vx (by omega) _).2 rfl⟩)
 | @null p B C t s he e hr n =>
  intro c
  rcases n he with ⟨h1,_,_⟩ | ⟨y,l,o,q⟩
  .exact absurd h1 (b.ne0 c)
  .right
   refine Ha b c ?_
   obtain⟨d,f,i,m⟩:=oJ (b.has (iw he) l) o
   refine⟨y,l,d,f,?_⟩
   rw[i]
   refine rz.2 (.inr ⟨by omega,.inr ⟨?_,q⟩⟩)
   rw[show -1 - (-1 - C)=C by omega];exact e
theorem Po (b:bY g a) (hr:isRed g=true):∀ (n i:Nat),i < n->i < a.length->∀ x∈jc g a i,∃ t,t < 32/\kG g (av g false) a (aY g a) i x t
 | 0,_,h,_,_,_=>by omega
 | n+1,i,_,hi,x,d=>by
  have l:=(dc b.de (b.bc hi)).1 d
  clear d
  induction l with
  | @base x h =>
   by_cases w:0 < i
   .obtain⟨p,y,s,K,z,A,B,D,L,E⟩:=b.prev hi h w
    obtain⟨t,m,o⟩:=Po b hr n p (by omega) z y A
    refine⟨t,m,?_⟩
    obtain⟨s1,s2,F,G⟩:=b.step z A B
    have hm:(⟨y.au,y.dot+1⟩:ay)∈(aY g a).getD (ef a p [s]).1.toNat []:=ic.2 ⟨G,F⟩
    have:=kG.move o B hm
    rw[D,<-E]
    exact this
   .have q:i=0:=by omega
    subst q
    rw[b.e.first] at h
    simp at h;subst h
    have:=b.de.ai
    exact⟨g.ai.length,by omega,.start (ic.2 ⟨hi,(dc b.de (b.bc hi)).2 (.base (by rw[b.e.first];simp))⟩)⟩
  | @step x s k R d C c r H I =>
   obtain⟨t,m,o⟩:=I
   have hH:=d.has (b.bc hi)
   have hk:k < g.rules.length:=(aaR.1 r).1
   have v:aA g k=R:=by unfold aA;rw[aaA,aa0,r];rfl
   obtain⟨u,hu⟩:=Ef hr m (cP g x) (λs j=>by
    unfold cP at j
    split at j
    .rename_i w
     have J:g.rules[x.au.toNat]?=some (aA g x.au):=by
      have:=hH.1
      unfold aA;exact getD_some (by omega)
     exact b.de.sym _ (aaI J) s (List.mem_of_mem_drop j)
    .simp at j)
   have f:u < 32:=Nat.lt_of_not_le λh=>by rw[BitVec.getLsbD_of_ge _ _ h] at hu;simp at hu
   exact⟨u,f,.begin o C c hk (by rw[v];omega) (ic.2 ⟨hi,(dc b.de (b.bc hi)).2 (.step d C c r H)⟩) hu⟩
theorem KD (b:bY g a) {k:Nat} {t:Nat} : ∀ (X:List Int) (d p i:Nat),nA a p X i->kG g (av g false) a (aY g a) p ⟨k,d⟩ t->(∃ l,(aM g k).drop d=X ++ l)->kG g (av g false) a (aY g a) i ⟨k,((d+X.length:Nat):Int)⟩ t
 | [],d,p,i,hw,h,_=>by cases hw;simpa using h
 | s :: X,d,p,i,hw,h,⟨l,c⟩=>by
  cases hw with
  | cons h1 e =>
   obtain⟨n1,f,r⟩:=mT c
   obtain⟨hp,j⟩:=ic.1 h.mem
   obtain⟨s1,s2,m,n⟩:=b.step hp j n1
   have hm:(⟨(⟨k,d⟩:ay).au,(⟨k,d⟩:ay).dot+1⟩:ay)∈(aY g a).getD (ef a p [s]).1.toNat []:=ic.2 ⟨n,m⟩
   have o:=kG.move h n1 hm
   have q:=KD b X (d+1) _ i e (by rw[show (((d+1:Nat):Int))=(d:Int)+1 by omega];exact o) ⟨l,f⟩
   rw[show d+(s :: X).length=d+1+X.length by simp;omega]
   exact q
theorem XZ (b:bY g a) (hr:isRed g=true) {p t:Nat} {B:Int} (h:xb g a p B t):0<=B->eZ a p (-1 - B)->∀ k:Nat,k < g.rules.length->(aA g k).left=B->kG g (av g false) a (aY g a) p ⟨k,0⟩ t:=by
 induction h with
 | @read p B t h =>
  intro q he k hk r
  have hp:=iw he
  have hm:=ic.2 ⟨hp,rr b hp q hk r he⟩
  rcases Fc b h he with ⟨rfl,rfl,rfl⟩ | ⟨x,A,C,D⟩
  .have E:(⟨-1,0⟩:ay)∈jc g a 0:=(dc b.de (b.bc hp)).2 (.base (by rw[b.e.first];simp))
   refine .begin (.start (ic.2 ⟨hp,E⟩)) (s:=-1 - g.start) ?_ (by omega) hk (by omega) hm ?_
   .unfold aW;rw[aaD (by simp[aM])];simp[aM]
   .have:=b.de.ai
    rw[cP,aaD (by simp),ej,ab0]
    simp;omega
  .obtain⟨t0,z,F⟩:=Po b hr (p+1) p (by omega) hp x A
   refine .begin F C (by omega) hk (by omega) hm ((sM _ _ _ _ _).2 (.inl D))
 | @Qi p G c d B t J j u H v hw f w =>
  intro q he k hk r
  have I:g.rules[c]?=some (aA g c):=by unfold aA;exact getD_some j
  have h1:=w (b.de.left _ (aaI I)).1 u c j rfl
  have m:aM g (c:Int)=(aA g c).right:=by rw[aM,aaD (by omega)]
  have n:=(aaR.1 v).1
  have o:=KD b _ 0 G p hw (by simpa using h1) ⟨(aA g c).right.drop d,by rw[m,abP,acA]⟩
  rw[abn,abq,acH (by omega)] at o
  have hp:=iw he
  have y:aW g ⟨c,d⟩=(-1 - B,true):=(mT (l:=(aA g c).right.drop (d+1)) (by
   rw[m,abo n]
   congr 1
   rw[aaB n] at v
   simpa using v)).1
  refine .begin o y (by omega) hk (by omega) (ic.2 ⟨hp,rr b hp q hk r he⟩) ((sM _ _ _ _ _).2 (.inr ⟨?_,?_⟩))
  .rw[cP,aaF (by simp only;omega)]
   simpa using f
  .obtain⟨i3,_⟩:=ic.1 o.mem
   have z:t < 32:=by
    have key:∀ {i:Nat} {x:ay} {t:Nat},kG g (av g false) a (aY g a) i x t->t < 32:=by
     intro i x t h
     have:=b.de.ai
     induction h with
     | start=>omega
     | move _ _ _ w=>exact w
     | begin _ _ _ _ _ _ hu _=>exact Nat.lt_of_not_le λh=>by rw[BitVec.getLsbD_of_ge _ _ h] at hu;simp at hu
    exact key o
   rw[ab0]
   simp[z]
theorem QX (d:bY g a) (hr:isRed g=true) {i k t:Nat} (hk:k < g.rules.length):kG g (av g false) a (aY g a) i ⟨k,((aA g k).right.length:Nat)⟩ t↔∃ p,nA a p (aA g k).right i/\eZ a p (-1 - (aA g k).left)/\xb g a p (aA g k).left t:=by
 have l:g.rules[k]?=some (aA g k):=by unfold aA;exact getD_some hk
 have b:aM g (k:Int)=(aA g k).right:=by rw[aM,aaD (by omega)]
 constructor
 .intro h
  obtain⟨p,c,e,f⟩:=(Yp d h).2 (by simp only;omega)
  simp only at c e f
  rw[b,aa0,List.take_length] at c
  exact⟨p,c,e,f⟩
 .rintro⟨p,c,e,f⟩
  have h1:=XZ d hr f (d.de.left _ (aaI l)).1 e k hk rfl
  have j:=KD d _ 0 p i c (by simpa using h1) ⟨[],by rw[b];simp⟩
  rw[abq] at j
  exact j
end
def pS (null:List Bool) (first:List BV) (R:aX) (out:List BV) (k:Nat):List BV :=
 if R.right.getD k 0 < 0 then out.set (-1 - R.right.getD k 0).toNat (out.getD (-1 - R.right.getD k 0).toNat 0 ||| ej null first (out.getD R.left.toNat 0) (R.right.drop (k+1))) else out
def yE (null:List Bool) (first:List BV) (out:List BV) (R:aX):List BV:=(List.range R.right.length).foldl (pS null first R) out
def Cf (g:af) (null:List Bool) (first:List BV) (out:List BV):List BV:=g.rules.foldl (yE null first) out
def rI (g:af):List BV:=(List.replicate g.al.length 0).set g.start.toNat (jq g.ai.length)
def lp (g:af) (null:List Bool):List BV:=iter (Cf g null (cU g null)) g.al.length (rI g)
theorem ON (null:List Bool) (first:List BV) (R:aX) (out:List BV) (k:Nat):(pS null first R out k).length=out.length:=by
 unfold pS;split <;> simp
theorem FR (null:List Bool) (first:List BV) (R:aX):∀ (l:List Nat) (out:List BV),(l.foldl (pS null first R) out).length=out.length
 | [],_=>rfl
 | k :: l,out=>by rw[abc,FR null first R l,ON]
theorem C8 (null:List Bool) (first:List BV):∀ (l:List aX) (out:List BV),(l.foldl (yE null first) out).length=out.length
 | [],_=>rfl
 | R :: l,out=>by rw[abc,C8 null first l,yE,FR]
theorem Mm (g:af) (null:List Bool):(lp g null).length=g.al.length:=by
 rw[lp,Bf (f:=Cf g null (cU g null)) λl=>C8 _ _ g.rules l];simp[rI]
theorem uX {α:Type} {F:List Bool->α->List Bool} (a:∀ is x,gf is (F is x)):∀ (l:List α) (is:List Bool),gf is (l.foldl F is)
 | [],is=>.refl _
 | x :: l,is=>(a is x).trans (uX a l _)
theorem AV {α:Type} {F:List Bool->α->List Bool} (a:∀ is x,gf is (F is x)):∀ {l:List α} {is:List Bool},l.foldl F is=is->∀ x∈l,F is x=is
 | [],_,_,_,h=>by simp at h
 | y :: l,is,h,x,b=>by
  rw[abc] at h
  have h1:=uX a l (F is y)
  rw[h] at h1
  have c:=h1.tz (a is y)
  rcases aaT.1 b with rfl | b
  .exact c
  .rw[c] at h;exact AV a h x b
def tj (null:List Bool) (first:List BV) (t:Nat) (R:aX) (is:List Bool) (k:Nat):List Bool :=
 if R.right.getD k 0 < 0 then is.set (-1 - R.right.getD k 0).toNat (is.getD (-1 - R.right.getD k 0).toNat false || ((ej null first 0 (R.right.drop (k+1))).getLsbD t || (dB (R.right.drop (k+1)) null false && is.getD R.left.toNat false))) else is
theorem Sr (null:List Bool) (first:List BV) (t:Nat) (R:aX) (out:List BV) (k:Nat):pt t (pS null first R out k)=tj null first t R (pt t out) k:=by
 unfold pS tj
 have e:∀ b:BV,(ej null first b (R.right.drop (k+1))).getLsbD t=((ej null first 0 (R.right.drop (k+1))).getLsbD t || (dB (R.right.drop (k+1)) null false && b.getLsbD t)):=λb=>by
  rw[abD,sM];simp
 split
 .rw[sq,sq,<-e,<-abm]
  simp[pt,acC]
 .rfl
theorem HU (null:List Bool) (first:List BV) (t:Nat) (R:aX):∀ (l:List Nat) (out:List BV),pt t (l.foldl (pS null first R) out)=l.foldl (tj null first t R) (pt t out)
 | [],_=>rfl
 | k :: l,out=>by rw[abc,HU null first t R l,Sr];rfl
def LN (null:List Bool) (first:List BV) (t:Nat) (is:List Bool) (R:aX):List Bool:=(List.range R.right.length).foldl (tj null first t R) is
theorem D6 (null:List Bool) (first:List BV) (t:Nat):∀ (l:List aX) (out:List BV),pt t (l.foldl (yE null first) out)=l.foldl (LN null first t) (pt t out)
 | [],_=>rfl
 | R :: l,out=>by rw[abc,D6 null first t l,yE,HU];rfl
theorem Hn (g:af) (null:List Bool) (first:List BV) (t:Nat):∀ (n:Nat) (out:List BV),pt t (iter (Cf g null first) n out)=iter (λis=>g.rules.foldl (LN null first t) is) n (pt t out)
 | 0,_=>rfl
 | n+1,out=>by rw[iter,iter,Hn g null first t n];exact abN _ (D6 null first t g.rules out)
theorem Bd (null:List Bool) (first:List BV) (t:Nat) (R:aX) (is:List Bool) (k:Nat):gf is (tj null first t R is k):=by
 unfold tj
 split
 .refine⟨by simp,λi hi=>?_⟩
  simp only[aaA,abW] at hi ⊢
  split
  .rename_i e
   subst e
   split
   .simp[hi]
   .rename_i h;rw[aa6 (by omega)] at hi;simp at hi
  .exact hi
 .exact .refl _
theorem Aa {g:af} (i:g.cY) (null:List Bool) {R:aX} (c:R∈g.rules) {k:Nat} {s:Int} (hk:R.right[k]?=some s) (d:s < 0) {t:Nat}
  (h:(ej null (cU g null) 0 (R.right.drop (k+1))).getLsbD t=true∨(dB (R.right.drop (k+1)) null false=true/\((lp g null).getD R.left.toNat 0).getLsbD t=true)):((lp g null).getD (-1 - s).toNat 0).getLsbD t=true:=by
 have e:=Hn g null (cU g null) t g.al.length (rI g)
 have a:=BT (F:=λis=>g.rules.foldl (LN null (cU g null) t) is) (λis=>uX (λis R=>uX (λis k=>Bd _ _ _ _ _ _) _ _) g.rules is) g.al.length (pt t (rI g)) (by simp[pt,rI])
 rw[<-e] at a
 have h1:=AV (λis R=>uX (λis k=>Bd null (cU g null) t R _ _) _ _) a R c
 have b:=(aaR.1 hk).1
 have f:=AV (λis k=>Bd null (cU g null) t R _ _) h1 k (abA.2 b)
 have j:R.right.getD k 0=s:=by rw[aaA,hk];rfl
 change tj null (cU g null) t R (pt t (lp g null)) k=pt t (lp g null) at f
 have l:=i.neg c (aaI hk) d
 rw[<-sq,<-f]
 unfold tj
 rw[j,aaF d,aaA,ab6 (by simp[pt,Mm];omega)]
 simp only[aaU,abC,aaK]
 rw[sq t _ R.left.toNat]
 exact .inr h
theorem L4 {out:List BV} {a i t:Nat} {x:BV} (h:(out.getD i 0).getLsbD t=true):((out.set a (out.getD a 0 ||| x)).getD i 0).getLsbD t=true:=by
 rw[jQ]
 split
 .rename_i e
  rw[abm,e.1,h];rfl
 .exact h
theorem Ks {g:af} (b:g.cY) (null:List Bool):((lp g null).getD g.start.toNat 0).getLsbD g.ai.length=true:=by
 have c:((rI g).getD g.start.toNat 0).getLsbD g.ai.length=true:=by
  unfold rI
  have:=b.start;have:=b.kj
  rw[jQ,aaF ⟨rfl,by simp;omega⟩]
  have:=b.ai
  exact(vx (by omega) _).2 rfl
 have d:∀ (R:aX) (l:List Nat) (out:List BV),(out.getD g.start.toNat 0).getLsbD g.ai.length=true->((l.foldl (pS null (cU g null) R) out).getD g.start.toNat 0).getLsbD g.ai.length=true:=λR l=>by
  induction l with
  | nil=>exact λ_ h=>h
  | cons k l a =>
   intro out h
   rw[abc]
   refine a _ ?_
   unfold pS
   split
   .exact L4 h
   .exact h
 have e:∀ (l:List aX) (out:List BV),(out.getD g.start.toNat 0).getLsbD g.ai.length=true->((l.foldl (yE null (cU g null)) out).getD g.start.toNat 0).getLsbD g.ai.length=true:=λl=>by
  induction l with
  | nil=>exact λ_ h=>h
  | cons R l a=>exact λout h=>a _ (d R _ out h)
 have f:∀ (n:Nat) (out:List BV),(out.getD g.start.toNat 0).getLsbD g.ai.length=true->((iter (Cf g null (cU g null)) n out).getD g.start.toNat 0).getLsbD g.ai.length=true:=λn=>by
  induction n with
  | zero=>exact λ_ h=>h
  | succ n a=>exact λout h=>a _ (e g.rules out h)
 exact f _ _ c
theorem Sg {g:af} (h:isRed g=true):∀ i:Nat,i < g.al.length->qp g (av g true) i:=by
 have hr:=iX h
 unfold isRed at h
 simp only[aaK,abB,aaP] at h
 obtain⟨h1,b⟩:=h
 have hp:(av g true).getD g.start.toNat false=true:=by
  refine ace λc=>?_
  rw[mB hr,aaD c] at h1
  simp at h1
 have a:=QO hr hp
 have e:(gv g).1=rq g (bN (cL (av g true) (bP g) g.rules)) (av g true) (bP g):=by rw[mB hr,aaF hp]
 rw[<-e,<-b] at a
 intro i hi
 rw[a.len] at hi
 exact A4 hr i (a.Ro hi)
section
variable {g:af} {a:List aJ}
theorem VC (b:bY g a) (hr:isRed g=true) {x:Int} (h:qp g (av g true) x):∃ p,eZ a p (-1 - x):=by
 have hp:=b.pos
 induction h with
 | start =>
  refine⟨0,(b.rS (by omega)).2 ⟨⟨-1,0⟩,(dc b.de (b.bc (by omega))).2 (.base (by rw[b.e.first];simp)),?_⟩⟩
  unfold aW;rw[aaD (by simp[aM])];simp[aM]
 | next R s m _ _ o y r =>
  obtain⟨p,n⟩:=r
  obtain⟨k,hk,e⟩:=abv.1 m
  have c:aA g k=R:=by unfold aA;rw[aaA,aa0,aaB hk,e];rfl
  obtain⟨d,t,u⟩:=abv.1 o
  have f:=iw n
  have i:aM g (k:Int)=R.right:=by rw[aM,aaD (by omega),c]
  have hm:=rr b f (b.de.left _ m).1 hk (by rw[c]) n
  obtain⟨q,v,z,w⟩:=b.fwd k (R.right.take d) 0 p f hm ⟨R.right.drop d,by rw[i];simp⟩
  have j:aW g ⟨k,((0+(R.right.take d).length:Nat):Int)⟩=(s,true):=(mT (l:=R.right.drop (d+1)) (by
   rw[i,abq,abn,acH (by omega),abo t,u])).1
  refine⟨q,?_⟩
  rw[show -1 - (-1 - s)=s by omega]
  exact(b.rS v).2 ⟨_,w,j⟩
theorem Pq (c:bY g a) {p t:Nat} {B:Int} (h:xb g a p B t):0<=B->eZ a p (-1 - B)->((lp g (av g false)).getD B.toNat 0).getLsbD t=true:=by
 induction h with
 | @read p B t h =>
  intro l he
  rcases Fc c h he with ⟨_,rfl,rfl⟩ | ⟨x,m,n,f⟩
  .exact Ks c.de _
  .by_cases o:0<=x.au
   .have hH:=c.has (iw he) m
    obtain⟨d,d1,d2,d3⟩:=oJ hH n
    rw[aM,aaD (by omega)] at d2 d3
    have hk:x.au.toNat < g.rules.length:=by have:=hH.1;omega
    have e:g.rules[x.au.toNat]?=some (aA g x.au):=by unfold aA;exact getD_some hk
    have i:(aA g x.au).right[d]?=some (-1 - B):=by
     have:=abN (·[0]?) d2
     simpa using this
    have:=Aa c.de (av g false) (aaI e) i (by omega) (t:=t) (.inl (by rw[d3];exact f))
    rw[show -1 - (-1 - B)=B by omega] at this
    exact this
   .rw[cP,aaD o] at f
    simp[ej] at f
 | @Qi p s k d B t u hk j q i hw b r =>
  intro l he
  have e:g.rules[k]?=some (aA g k):=by unfold aA;exact getD_some hk
  have h1:=r (c.de.left _ (aaI e)).1 j
  have:=Aa c.de (av g false) (aaI e) i (by omega) (t:=t) (.inr ⟨b,h1⟩)
  rw[show -1 - (-1 - B)=B by omega] at this
  exact this
end
def XR (c:Option Cell) (d:Cell):Cell:=match c with
 | some c=>c
 | none=>d
theorem Hc (s:Int):∀ l:List fp,fP l s=(XR (iS l s) ⟨1,-1⟩).n
 | []=>rfl
 | e :: l=>by
  rw[fP,iS]
  split
  .rfl
  .exact Hc s l
section
variable {g:af} {a:List aJ}
end
end Gv
