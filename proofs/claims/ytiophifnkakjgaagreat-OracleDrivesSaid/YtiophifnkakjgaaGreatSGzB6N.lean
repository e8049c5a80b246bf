/-
  Part 14 of the proof: what the machine does and what the functions answer.
  Conditions: those that each lemma names.
-/
import Derived.Shelf.SlSortCmp.NoneTotal
import Derived.Shelf.SlicesG.Cmp
import Derived.StillTailTactics
import Derived.Test.YtiophifnkakjgaaGreatSGzB6M
set_option linter.unusedSimpArgs false
set_option linter.unusedVariables false
set_option maxRecDepth 100000
set_option maxHeartbeats 20000000
namespace Gv
open Go Go.Proofs
def pX:SC :=
 af [af [ab [aa 11 7,aa 12 1,aP 13 12,aV 14 .lss 11 13],bW 14 (.exit 0)],.block 1 (af [ab [aU 17 4 3,aa 18 1,aa 19 7,aM 20 1 18 19,aj 21 20,ba 22 74 [17,21],cb 23 22],bg 23 (af [ab [((some 6),.op (.ee (.val (.val (.int .u32 0)))))],.ret])]),ab [aa 15 7,aE 16 .add 15 1,aa 7 16]]
def rP:SF:=⟨af [ab [cd 3 0,((some 6),.op (.ee (.val (.val (.int .u32 0)))))],af [ab [aU 8 4 3,ba 9 50 [8],cb 10 9],bg 10 (af [ab [((some 6),.op (.ee (.val (.val (.int .u32 0)))))],.ret])],af [ab [aT 7 0],bX 0 pX],.region true [⟨none,[aa 24 1,aU 25 4 3,ba 26 230 [25],aU 27 4 3,ba 28 231 [27],aa 29 2,ba 30 229 [24,26,28,29],aa 6 30]⟩],.ret],
 [.tmp 6],31⟩
theorem xj:aQ Tryz.prog 167 [3]=some rP:=by kernel_rfl
def qW:SF:=⟨af [ab [cd 2 0,cd 3 1,bu 4 false],.region true [⟨none,[aU 5 4 2,ba 6 50 [5],aa 7 6]⟩,⟨(some (7,true)),[au 8 0 3,aj 9 8,aE 10 .geq 9 (-1)]⟩,⟨none,[c8 11 7 10,aa 12 11]⟩,⟨(some (12,true)),[au 13 0 3,aj 14 13,au 15 2 2,aj 16 15,aP 17 16,aV 18 .lss 14 17]⟩,⟨none,[c8 19 12 18,aa 20 19]⟩,⟨(some (20,true)),[au 21 1 3,aj 22 21,aE 23 .geq 22 0]⟩,⟨none,[c8 24 20 23,aa 25 24]⟩,⟨(some (25,true)),[au 26 1 3,aj 27 26,aU 28 4 2,au 29 0 3,aj 30 29,ba 31 199 [28,30],aP 32 31,aV 33 .leq 27 32]⟩,⟨none,[c8 34 25 33,aa 4 34]⟩],.ret],
 [.tmp 4],35⟩
theorem wo:aQ Tryz.prog 166 [2,3]=some qW:=by kernel_rfl
def p8:SF:=⟨af [ab [cd 2 0,cd 3 1,aT 4 0,bu 5 false],af [ab [aU 6 4 2,aU 7 2 3,ba 8 166 [6,7],cb 9 8],bg 9 (af [ab [aT 4 0,bu 5 false],.ret])],ab [aU 10 4 2,aU 11 2 3,ba 12 134 [10,11],cZ 13 0 12,cZ 14 1 12,aa 4 13,aa 5 14],.ret],
 [.tmp 4,.tmp 5],15⟩
theorem uI:aQ Tryz.prog 100 [2,3]=some p8:=by kernel_rfl
def ll:SC :=
 af [af [ab [aa 7 6,aa 8 1,aP 9 8,aV 10 .lss 7 9],bW 10 (.exit 0)],.block 1 (af [ab [aU 13 4 2,aa 14 1,aa 15 6,aM 16 2 14 15,aU 17 2 16,ba 18 166 [13,17]],bg 18 (ab [aa 19 5,aa 20 1,aa 21 6,aM 22 2 20 21,aU 23 2 22,((some 24),.op (.bG 1 2 [(.val (.int .i64 0)),(.val (.int .i64 0))] [(0,(.tmp 23))])),fM 25 2 16 19 24,aa 5 25])]),ab [aa 11 6,aE 12 .add 11 1,aa 6 12]]
def mI:SF:=⟨af [ab [cd 2 0,ct 4 1],ab [ct 5 1],af [ab [aT 6 0],bX 0 ll],af [ab [aa 26 5,aP 27 26,aE 28 .eql 27 0],bg 28 (af [ab [ct 4 1],.ret])],ab [aU 29 4 2,aa 30 5,ba 31 69 [29,30],aa 4 31],.ret],
 [.tmp 4],32⟩
theorem sw:aQ Tryz.prog 96 [2]=some mI:=by kernel_rfl
def jq:SC :=
 af [af [.region false [⟨none,[aa 26 11,aa 27 0,aa 28 1,aM 29 2 27 28,au 30 1 29,aj 31 30,aP 32 31,aV 33 .lss 26 32,aa 34 33]⟩,⟨(some (34,true)),[aa 35 10,cb 36 35]⟩,⟨none,[c8 37 34 36]⟩],bW 37 (.exit 2)],.block 3 (af [ab [aa 40 0,aa 41 1,aM 42 2 40 41,au 43 1 42,aj 44 43,aa 45 11,aM 46 2 44 45,au 47 0 46,aj 48 47,aa 49 2,aa 50 8,aM 51 1 49 50,aj 52 51,aV 53 .eql 48 52],bg 53 (ab [aa 54 0,aa 55 1,aM 56 2 54 55,au 57 1 56,aj 58 57,aa 59 11,aM 60 2 58 59,au 61 1 60,aj 62 61,aa 9 62,bu 10 true])]),ab [aa 38 11,aE 39 .add 38 1,aa 11 39]]
def om:SC :=
 af [af [ab [aa 20 8,aa 21 2,aP 22 21,aV 23 .lss 20 22],bW 23 (.exit 0)],.block 1 (af [ab [aT 9 (-1),bu 10 false],af [ab [aT 11 0],bX 2 jq],af [.region false [⟨none,[aa 63 9,aE 64 .lss 63 0,aa 65 64]⟩,⟨(some (65,false)),[aa 66 9,aa 67 0,aP 68 67,aV 69 .geq 66 68]⟩,⟨none,[bP 70 65 69]⟩],bg 70 (af [ab [aT 6 0,bu 7 false],.ret])],ab [aa 71 9,aa 1 71]]),ab [aa 24 8,aE 25 .add 24 1,aa 8 25]]
def qi:SF:=⟨af [ab [aT 6 0,bu 7 false],af [.region false [⟨none,[aa 12 1,aE 13 .lss 12 0,aa 14 13]⟩,⟨(some (14,false)),[aa 15 1,aa 16 0,aP 17 16,aV 18 .geq 15 17]⟩,⟨none,[bP 19 14 18]⟩],bg 19 (af [ab [aT 6 0,bu 7 false],.ret])],af [ab [aT 8 0],bX 0 om],ab [aa 72 1,aa 6 72,bu 7 true],.ret],
 [.tmp 6,.tmp 7],73⟩
theorem uE:aQ Tryz.prog 33 []=some qi:=by kernel_rfl
def Iz (g:ae) (syms:List Int) (rest:BV):BV:=if aO g=true/\∀ s∈syms,gB g s=true then dp (ak g false) (cq g (ak g false)) rest syms else 0
theorem Rw (g:ae) (j:g.Ok) (syms:List Int) (rest:BV) (b:aH syms) (q:∀ s∈syms,bD s):ay Tryz.prog 167 [.agg (ag g),encI syms,gw rest] (gw (Iz g syms rest)):=by
 have l:=b
 unfold aH at l
 refine ay.val (by
  intro v r;simp at r
  rcases r with rfl | rfl | rfl
  .exact bz _ (bE g)
  .exact eM _
  .exact .val _) λH=>?_
 have d:=gK g j
 have e:=w8 g j
 have c:=(KH g j).pure
 have hH:=λs h=>Nq g s (q s h)
 refine aw.of mixed xj ?_
 simp only[ag,encS] at d e c hH
 simp(disch:=omega)only[↓wr,seval,wq,rP,ag,encS,encI]
 refine av.pure d ?_
 simp(disch:=omega)only[↓wr,seval,wq]
 apply ah.split<;>intro hr
 rotate_left
 .simp(disch:=omega)only[↓wr,seval,wq]
  rw[Iz,U8 (by rw[hr];simp)];rfl
 have w:=aK hr
 have m:=fi hr false
 have n:=Bz g (ak g false)
 rw[GR,Va hr] at c
 simp(disch:=omega)only[↓wr,seval,wq,ag,encS,encI]
 refine bc.up syms.length (λi T H'=>(∀ s∈syms.take i,gB g s=true)/\T 1=encI syms/\T 2=gw rest/\T 3=.aF (ag g) 0/\T 7=gi i) ⟨by simp,rfl,rfl,rfl,rfl⟩ ?_
 rintro i k T H' hk ⟨a,t1,t2,t3,t7⟩
 simp(disch:=omega)only[↓wr,seval,wq,pX,t1,t2,t3,t7,encI]
 apply ah.dec<;>intro u
 .have o:syms[i]?=some (syms[i]'(by omega)):=U6 (by omega)
  have hm:=Vg (show i < syms.length by omega)
  have f:syms.take (i+1)=syms.take i ++ [syms[i]'(by omega)]:=by rw[Vs,o];rfl
  generalize syms[i]'(by omega)=x at o hm f
  simp(disch:=omega)only[↓wr,seval,wq,t1,t2,t3,t7,ag,encS,encI,U9,o,Ve]
  refine av.pure (hH x hm) ?_
  simp(disch:=omega)only[↓wr,seval,wq]
  apply ah.split<;>intro he
  .simp(disch:=omega)only[↓wr,seval,wq,t1,t2,t3,t7]
   refine aI hk (by omega) ⟨λs b=>?_,t1,t2,t3,rfl⟩
   rw[f] at b
   rcases VK.1 b with b | b
   .exact a s b
   .simp at b;subst b;exact he
  .simp(disch:=omega)only[↓wr,seval,wq]
   rw[Iz,U8 (λh=>by have:=h.2 x hm;rw[he] at this;simp at this)];rfl
 .rw[Vn (by omega)] at a
  have p:=JQ syms (ak g false) (cq g (ak g false)) rest b λs h=>⟨q s h,λt=>by
   have:=a s h
   unfold gB at this
   rw[U8 (by omega)] at this
   simp at this
   omega⟩
  simp(disch:=omega)only[↓wr,seval,wq,t1,t2,t3,ag,encS]
  refine av.pure e ?_
  simp(disch:=omega)only[↓wr,seval,wq,t1,t2,t3,ag,encS]
  refine av.pure c ?_
  simp(disch:=omega)only[↓wr,seval,wq,t1,t2,t3,ag,encS]
  refine av.pure p ?_
  simp(disch:=omega)only[↓wr,seval,wq]
  rw[Iz,Va ⟨hr,a⟩]
instance (g:ae) (x:aC):Decidable (cD g x):=by unfold cD;infer_instance
def gF (g:ae) (x:aC):Bool:=aO g && decide (cD g x)
theorem Kg (g:ae) (x:aC):∀ v∈[V.agg (ag g),.agg (bC x)],Tree v:=by
 intro v a;simp at a
 rcases a with rfl | rfl
 .exact bz _ (bE g)
 .exact bz _ λv a=>by simp[bC] at a;rcases a with rfl | rfl <;> exact .val _
theorem GS (g:ae) (f:g.Ok) (x:aC) (i:bD x.al/\bD x.dot):ay Tryz.prog 166 [.agg (ag g),.agg (bC x)] (gb (gF g x)):=by
 refine ay.val (Kg g x) λH=>?_
 have a:=gK g f
 obtain⟨c,d⟩:=i
 unfold bD at c d
 refine aw.of mixed wo ?_
 simp only[ag,encS] at a
 simp(disch:=omega)only[↓wr,seval,wq,qW,ag,encS,bC]
 refine av.pure a ?_
 have bad:¬ cD g x->gb false=gb (gF g x):=λh=>by unfold gF;rw[decide_eq_false h,W7]
 simp(disch:=omega)only[↓wr,seval,wq]
 apply ah.split<;>intro hr
 rotate_left
 .simp(disch:=omega)only[↓wr,seval,wq]
  unfold gF;rw[hr];rfl
 have e:=aK hr
 simp(disch:=omega)only[↓wr,seval,wq,bC]
 apply ah.dec<;>intro h1
 rotate_left
 .simp(disch:=omega)only[↓wr,seval,wq]
  exact bad λh=>by have:=h.1;omega
 simp(disch:=omega)only[↓wr,seval,wq,bC,ag]
 apply ah.dec<;>intro j
 rotate_left
 .simp(disch:=omega)only[↓wr,seval,wq]
  exact bad λh=>by have:=h.1;omega
 simp(disch:=omega)only[↓wr,seval,wq,bC]
 apply ah.dec<;>intro k
 rotate_left
 .simp(disch:=omega)only[↓wr,seval,wq]
  exact bad λh=>by have:=h.2;omega
 have b:=B4 g (wg e) x.al ⟨by omega,by omega⟩
 have l:=iJ e (r:=x.al) ⟨by omega,by omega⟩
 simp only[ag,encS,encI] at b
 simp(disch:=omega)only[↓wr,seval,wq,bC,ag,encS]
 refine av.pure b ?_
 simp(disch:=omega)only[↓wr,seval,wq,bC]
 congr 2
 unfold gF
 rw[hr,V3]
 congr 1
 unfold cD
 simp only[eq_iff_iff]
 omega
def AS (g:ae) (x:aC):Int × Bool:=if gF g x=true then bo g x else (0,false)
theorem nR {g:ae} {x:aC} : gF g x=true↔aO g=true/\cD g x:=by simp[gF]
theorem DH (g:ae) (c:g.Ok) (x:aC) (d:bD x.al/\bD x.dot):ay Tryz.prog 100 [.agg (ag g),.agg (bC x)] (.bm [gi (AS g x).1,gb (AS g x).2]):=by
 have a:=GS g c x d
 refine ay.tree (Kg g x) (x6 (.val _) (.val _)) λH=>?_
 refine aw.of mixed uI ?_
 simp only[ag,encS,bC] at a
 simp(disch:=omega)only[↓wr,seval,wq,p8,ag,encS,bC]
 refine av.pure a ?_
 unfold AS
 simp(disch:=omega)only[↓wr,seval,wq]
 apply ah.split<;>intro h
 .obtain⟨h1,e⟩:=nR.1 h
  have b:=Au g (aK h1) x e
  simp only[ag,encS,bC] at b
  simp(disch:=omega)only[↓wr,seval,wq,ag,encS,bC]
  refine av.pure b ?_
  simp(disch:=omega)only[↓wr,seval,wq]
  rw[Va h]
 .simp(disch:=omega)only[↓wr,seval,wq]
  rw[h];simp
theorem OA (g:ae):cE g []=[]:=by
 have:∀ x,¬ nP g [] x:=λx h=>by
  induction h with
  | base h=>simp at h
  | step _ _ _ _ _ a=>exact a
 unfold cE
 rw[List.filter_eq_nil_iff.2 λx _=>by simp[this x]]
 rfl
theorem SH {h:aB} {u:V} {l:List aC} (b:aZ h.view u 2 (bA l)):cM h u (.aS (bA l)):=by
 refine cM.own b rfl (λi _=>rfl) (λi j hi a=>?_)
 rw[gj] at hi
 have e:(bA l).getD i []=bC l[i]:=by simp[bA,U5,hi]
 rw[e] at a ⊢
 match j,a with
 | 0,_=>exact .val _
 | 1,_=>exact .val _
theorem DG {α:Type} {l:List α} {p:α->Bool} {i:Nat} {x:α} (h:l[i]?=some x):(l.take (i+1)).filter p=if p x=true then (l.take i).filter p ++ [x] else (l.take i).filter p:=by
 rw[Vs,h,List.filter_append]
 split
 .rename_i hp;simp[hp]
 .rename_i hp;simp[hp]
theorem GV (g:ae) (s:g.Ok) (l:List aC) (C:l.length<=10000) (t:∀ x∈l,bD x.al/\bD x.dot):cx Tryz.prog 96 [.agg (ag g),.aS (bA l)] (.aS (bA (cE g (l.filter (gF g))))):=by
 refine cx.of (by
  intro v m;simp at m
  rcases m with rfl | rfl
  .exact bz _ (bE g)
  .exact zh _) ?_
 refine aw.of mixed sw ?_
 simp(disch:=omega)only[↓wr,seval,wq,mI,ag,encS,bA]
 refine bc.up l.length (λi T H'=>∃ r:V,aZ H' r 2 (bA ((l.take i).filter (gF g)))/\T 1=.aS (bA l)/\T 2=.aF (ag g) 0/\T 5=r/\T 6=gi i) ⟨.emp 1,.nil,rfl,rfl,rfl,rfl⟩ ?_
 rintro i k T H' hk ⟨r,d,t1,t2,t5,t6⟩
 simp(disch:=omega)only[↓wr,seval,wq,ll,t1,t2,t5,t6,bA]
 apply ah.dec<;>intro u
 .have b:l[i]?=some (l[i]'(by omega)):=U6 (by omega)
  have hm:=t _ (Vg (show i < l.length by omega))
  generalize l[i]'(by omega)=x at b hm
  have n:=GS g s x hm
  have a:=DG (p:=gF g) b
  have e:=VY (gF g) (l.take i)
  rw[VS] at e
  simp only[ag,encS,bC] at n
  simp(disch:=omega)only[↓wr,seval,wq,t1,t2,t5,t6,ag,encS,bA,U9,b,Ve,bC]
  refine av.pure n ?_
  simp(disch:=omega)only[↓wr,seval,wq,t1,t2,t5,t6]
  apply ah.split<;>intro he
  .simp(disch:=omega)only[↓wr,seval,wq,t1,t2,t5,t6,bA,U9,b,Ve,bC]
   intro q w
   simp(disch:=omega)only[↓wr,seval,wq,bt]
   refine kx (d.fresh w) (by simp[aJ]) (by unfold aD;rw[gj];simp;omega) (by unfold aD;rw[gj];simp;omega) ?_
   intro o z h _
   simp(disch:=omega)only[↓wr,seval,wq,t1,t2,t5,t6]
   rw[Va he] at a
   exact aI hk (by omega) ⟨o,by rw[a];simpa [bA,bC] using h,t1,t2,rfl,rfl⟩
  .simp(disch:=omega)only[↓wr,seval,wq,t1,t2,t5,t6]
   rw[U8 (by rw[he];simp)] at a
   exact aI hk (by omega) ⟨r,by rw[a];exact d,t1,t2,t5,rfl⟩
 .rw[Vn (by omega)] at d
  have e:=VY (gF g) l
  have j:dH r=some (l.filter (gF g)).length:=by rw[d.len,gj]
  have c:∀ x∈l.filter (gF g),aO g=true/\cD g x:=λx b=>nR.1 (VV.1 b).2
  generalize l.filter (gF g)=f at *
  simp(disch:=omega)only[↓wr,seval,wq,t1,t2,t5,t6,j]
  apply ah.eq<;>intro he
  .have:f=[]:=WB.1 (by omega)
   subst this
   simp(disch:=omega)only[↓wr,seval,wq]
   intro A _
   rw[OA]
   exact .emp _
  .cases f with
   | nil=>exact absurd rfl he
   | cons y f =>
   have B:=aK (c y (by simp)).1
   simp(disch:=omega)only[↓wr,seval,wq,t1,t2,t5,ag,encS]
   refine av.eD ((yl g B (y :: f) (λx b=>(c x b).2) (by omega) r H' d).mono ?_)
   rintro o z ⟨h,_⟩
   simp(disch:=omega)only[↓wr,seval,wq]
   rintro A rfl
   exact SH h
theorem Kx:∀ (l:List eV) (s:Int) (k:Nat) (e:eV),l[k]?=some e->fc (l.drop k) s=if e.sym=s then e.to else fc (l.drop (k+1)) s:=by
 intro l s k e h
 obtain⟨hk,he⟩:=Vf.1 h
 rw[VL hk,he,fc]
theorem ED (a:List aR) (u:aH a) (he:∀ s∈a,aH s.bI/\∀ e∈s.bI,bD e.sym/\bD e.to) (fr:Int) (syms:List Int) (w:aH syms):ay Tryz.prog 33 [bU a,gi fr,encI syms] (.bm [gi (dt a fr syms).1,gb (dt a fr syms).2]):=by
 unfold aH at u w
 refine ay.tree (by
  intro v q;simp at q
  rcases q with rfl | rfl | rfl
  .exact pC _
  .exact .val _
  .exact eM _) (x6 (.val _) (.val _)) λH=>?_
 refine aw.of mixed uE ?_
 unfold dt
 simp(disch:=omega)only[↓wr,seval,wq,qi,bU,encI]
 apply ah.dec<;>intro h1
 .simp(disch:=omega)only[↓wr,seval,wq]
  rw[Va (by omega)]
 simp(disch:=omega)only[↓wr,seval,wq,bU]
 apply ah.dec<;>intro y
 .simp(disch:=omega)only[↓wr,seval,wq]
  rw[Va (by omega)]
 rw[U8 (by omega)]
 simp(disch:=omega)only[↓wr,seval,wq]
 refine bc.up syms.length (λi T H'=>∃ at_:Int,0<=at_/\at_ < a.length/\fp a at_ (syms.drop i)=fp a fr syms/\T 0=bU a/\T 1=gi at_/\T 2=encI syms/\T 8=gi i) ⟨fr,by omega,by omega,rfl,rfl,rfl,rfl,rfl⟩ ?_
 rintro i k T H' hk ⟨at_,C,D,hw,t0,t1,t2,t8⟩
 simp(disch:=omega)only[↓wr,seval,wq,om,t0,t1,t2,t8,encI]
 apply ah.dec<;>intro z
 .have r:syms[i]?=some (syms[i]'(by omega)):=U6 (by omega)
  rw[VL (show i < syms.length by omega)] at hw
  generalize syms[i]'(by omega)=x at r hw
  have d:a[at_.toNat]?=some (a.getD at_.toNat bf):=getD_some (by omega)
  obtain⟨f,l⟩:=he _ (Vc d)
  rw[fp] at hw
  generalize a.getD at_.toNat bf=S at d f l hw
  unfold aH at f
  simp(disch:=omega)only[↓wr,seval,wq,t0,t1,t2,t8]
  refine bc.up S.bI.length (λj T H'=>∃ (to:Int) (ok:Bool),(ok=true->to=fc S.bI x)/\(ok=false->to = -1/\fc (S.bI.drop j) x=fc S.bI x)/\T 0=bU a/\T 1=gi at_/\T 2=encI syms/\T 8=gi i/\T 9=gi to/\T 10=gb ok/\T 11=gi j)
   ⟨-1,false,by simp,λ_=>⟨rfl,rfl⟩,t0,t1,t2,t8,rfl,rfl,rfl⟩ ?_
  clear t0 t1 t2 t8
  rintro j k2 F G g ⟨to,ok,A,B,t0,t1,t2,t8,t9,t10,t11⟩
  cases ok with
  | true =>
   have b:=A rfl
   simp(disch:=omega)only[↓wr,seval,wq,jq,t0,t1,t2,t8,t9,t10,t11,bU,U9,d,Ve,eU,ly]
   apply ah.dec<;>intro _
   all_goals (
    simp(disch:=omega)only[↓wr,seval,wq,t0,t1,t2,t8,t9,t10,t11,bU,b]
    apply ah.dec<;>intro m
    .simp(disch:=omega)only[↓wr,seval,wq]
     rw[<-hw,U8 (by omega)]
    .simp(disch:=omega)only[↓wr,seval,wq,t0,t1,t2,t8,t9,bU,b]
     apply ah.dec<;>intro n
     .simp(disch:=omega)only[↓wr,seval,wq]
      rw[<-hw,U8 (by omega)]
     .simp(disch:=omega)only[↓wr,seval,wq,t0,t1,t2,t8,t9,b]
      rw[Va ⟨by omega,by omega⟩] at hw
      exact aI hk (by omega) ⟨_,by omega,by omega,hw,t0,rfl,t2,rfl⟩)
  | false =>
   obtain⟨t,c⟩:=B rfl
   simp(disch:=omega)only[↓wr,seval,wq,jq,t0,t1,t2,t8,t9,t10,t11,bU,U9,d,Ve,eU,ly]
   apply ah.dec<;>intro o
   .have h:S.bI[j]?=some (S.bI[j]'(by omega)):=U6 (by omega)
    generalize S.bI[j]'(by omega)=E at h
    rw[Kx _ _ _ _ h] at c
    simp(disch:=omega)only[↓wr,seval,wq,t0,t1,t2,t8,t9,t10,t11,bU,encI,U9,d,r,Ve,eU,ly,h,sY]
    apply ah.eq<;>intro p
    .rw[Va p] at c
     simp(disch:=omega)only[↓wr,seval,wq,t0,t1,t2,t8,t9,t10,t11,bU,U9,d,Ve,eU,ly,h,sY]
     exact aI g (by omega) ⟨E.to,true,λ_=>c,by simp,t0,t1,t2,t8,rfl,rfl,rfl⟩
    .rw[U8 p] at c
     simp(disch:=omega)only[↓wr,seval,wq,t0,t1,t2,t8,t9,t10,t11]
     exact aI g (by omega) ⟨to,false,by simp,λ_=>⟨t,c⟩,t0,t1,t2,t8,t9,t10,rfl⟩
   .rw[VA (by omega),fc,<-t] at c
    have b:=c
    simp(disch:=omega)only[↓wr,seval,wq,t0,t1,t2,t8,t9,t10,t11,bU,b]
    apply ah.dec<;>intro m
    .simp(disch:=omega)only[↓wr,seval,wq]
     rw[<-hw,U8 (by omega)]
    .simp(disch:=omega)only[↓wr,seval,wq,t0,t1,t2,t8,t9,bU,b]
     apply ah.dec<;>intro n
     .simp(disch:=omega)only[↓wr,seval,wq]
      rw[<-hw,U8 (by omega)]
     .simp(disch:=omega)only[↓wr,seval,wq,t0,t1,t2,t8,t9,b]
      rw[Va ⟨by omega,by omega⟩] at hw
      exact aI hk (by omega) ⟨_,by omega,by omega,hw,t0,rfl,t2,rfl⟩
 .simp(disch:=omega)only[↓wr,seval,wq,t1]
  rw[VA (by omega),fp] at hw
  rw[<-hw]
open Go Go.Proofs Go.Shelf Go.RowKit Go.Sort
instance:Inhabited aC:=⟨⟨0,0⟩⟩
section
attribute [local go_sem] Oper.semAt_some
end
def td (g:ae) (s:Int):Int:=if s < 0 then (g.ai.length:Int) - 1 - s else s
theorem GB (g:ae) (k:Nat):td g (b6 g k)=k:=by
 unfold td b6;split <;> split <;> omega
theorem Qh {g:ae} {s:Int} (h1:s < g.ai.length):0<=td g s/\b6 g (td g s).toNat=s:=by
 unfold td b6;split
 .rw[U8 (by omega)];omega
 .rw[Va (by omega)];omega
theorem Df {g:ae} {s:Int} (h:gB g s=true):s < g.ai.length/\td g s < g.ai.length+g.ao.length:=by
 unfold gB at h
 unfold td
 by_cases a:0<=s
 .rw[Va a] at h
  rw[U8 (by omega)]
  simp at h
  omega
 .rw[U8 a] at h
  rw[Va (by omega)]
  simp at h
  omega
structure ir (g:ae) (a:List aR):Prop where
 first:(a.getD 0 bf).aX=[⟨-1,0⟩]
 l7:∀ s∈a,∀ e∈s.bI,(a.getD e.to.toNat bf).aX=cW g (cE g s.aX) e.sym
theorem kQ (l:List aR) (i:Nat) (c:eV) (j:Nat):((l.modify i λx=>(⟨x.aX,x.bI ++ [c]⟩:aR)).getD j bf).aX=(l.getD j bf).aX:=by
 simp only[U5,List.getElem?_modify]
 cases l[j]? with
 | none=>rfl
 | some x =>
  by_cases e:i=j
  .subst e;simp
  .simp[e]
theorem ir.put {g:ae} {out:List aR} (h:ir g out) {at_:Nat} {s to:Int} (c:(out.getD to.toNat bf).aX=cW g (cE g (out.getD at_ bf).aX) s):ir g (out.modify at_ λx=>(⟨x.aX,x.bI ++ [⟨s,to⟩]⟩:aR)):=by
 refine⟨by rw[kQ];exact h.first,λy a e he=>?_⟩
 rw[kQ]
 rcases mem_modify a with a | ⟨x,b,rfl⟩
 .exact h.l7 y a e he
 .rcases VK.1 he with he | he
  .exact h.l7 x (Vc b) e he
  .simp at he;subst he
   rw[c,U5,b];rfl
theorem ir.add {g:ae} {out:List aR} (h:ir g out) (h1:1<=out.length) (c:∀ s∈out,∀ e∈s.bI,0<=e.to/\e.to < out.length) (k:List aC):ir g (out ++ [⟨k,[]⟩]):=by
 have b:∀ j:Nat,j < out.length->((out ++ [(⟨k,[]⟩:aR)]).getD j bf)=out.getD j bf:=λj d=>by
  simp[U5,VG d]
 refine⟨by rw[b 0 (by omega)];exact h.first,λy a e he=>?_⟩
 rcases VK.1 a with a | a
 .have:=c y a e he
  rw[b _ (by omega)];exact h.l7 y a e he
 .simp at a;subst a;simp at he
theorem NM (g:ae) (l:List aC) (at_:Nat) (out:List aR) (i:Nat) {j:Nat} (a:j < out.length):((dO g l at_ out i).getD j bf).aX=(out.getD j bf).aX:=by
 unfold dO
 split
 .rfl
 .split
  .rw[kQ]
   simp[U5,VG a]
  .rw[kQ]
theorem ir.step {g:ae} {l:List aC} {at_ i:Nat} {out:List aR} (h:ir g out) (hi:dF g at_ i out) (c:at_ < out.length) (a:cE g (out.getD at_ bf).aX=l):ir g (dO g l at_ out i):=by
 unfold dO
 split
 .exact h
 .split
  .refine(h.add (by omega) hi.to _).put ?_
   rw[VD]
   have d:((out ++ [(⟨cW g l (b6 g i),[]⟩:aR)]).getD out.length bf).aX=cW g l (b6 g i):=by
    simp[U5]
   have e:(out ++ [(⟨cW g l (b6 g i),[]⟩:aR)]).getD at_ bf=out.getD at_ bf:=by
    simp[U5,VG c]
   rw[d,e,a]
  .rename_i j
   refine h.put ?_
   obtain⟨n,b⟩:∃ n:Nat,findD out (cW g l (b6 g i))=n:=⟨(findD out (cW g l (b6 g i))).toNat,by omega⟩
   obtain⟨s,h1,f⟩:=Hc _ _ _ b
   rw[b,VD,U5,h1,a]
   exact f
theorem ir.row {g:ae} (a:g.de) {at_:Nat} {out:List aR} (h:ir g out) (hi:dF g at_ 0 out) (b:at_ < out.length):∀ n:Nat,n<=40->ir g ((List.range n).foldl (dO g (cE g (out.getD at_ bf).aX) at_) out)/\(((List.range n).foldl (dO g (cE g (out.getD at_ bf).aX) at_) out).getD at_ bf).aX=(out.getD at_ bf).aX
 | 0,_=>⟨h,rfl⟩
 | n+1,d=>by
  obtain⟨h1,c⟩:=ir.row a h hi b n (by omega)
  obtain⟨i1,i2,i3⟩:=dF.row (hi.qL a b).1 (hi.qL a b).2 hi n (by omega)
  rw[Wd,Wl]
  simp only[VC,WL]
  refine⟨h1.step i1 (by omega) (by rw[c]),?_⟩
  rw[NM _ _ _ _ _ (by omega),c]
theorem Cm {g:ae} (a:g.de):∀ (f at_:Nat) (out:List aR),dF g at_ 0 out->ir g out->(gv g f at_ out).2=0->ir g (gv g f at_ out).1
 | 0,_,out,_,h,_=>h
 | f+1,at_,out,hi,h,b=>by
  rw[gv] at b ⊢
  split
  .rename_i c
   rw[Va c] at b
   have hr:=dF.row (hi.qL a c).1 (hi.qL a c).2 hi (g.ai.length+g.ao.length) (by have:=a.ai;have:=a.ao;omega)
   have he:=h.row a hi c (g.ai.length+g.ao.length) (by have:=a.ai;have:=a.ao;omega)
   rw[show (List.range (g.ai.length+g.ao.length)).foldl (dO g (cE g (out.getD at_ bf).aX) at_) out=C6 g at_ out (g.ai.length+g.ao.length) from rfl] at hr he
   split
   .rename_i d;rw[Va d] at b;simp at b
   .rename_i d
    rw[U8 d] at b
    exact Cm a f (at_+1) _ hr.1.next he.1 b
  .exact h
theorem K7 {g:ae} (b:g.de) (h:(bF g).2=0):ir g (bF g).1:=by
 unfold bF at h ⊢
 split
 .rename_i hr
  rw[Va hr] at h
  exact Cm b 302 0 eQ sW ⟨rfl,λs a e he=>by simp[eQ] at a;subst a;simp at he⟩ h
 .rename_i hr
  rw[U8 hr] at h
  simp at h
inductive kZ (a:List aR):List Int->List Int->Prop
 | nil:kZ a [] [0]
 | snoc {X st:List Int} {e:eV} : kZ a X st->e∈(a.getD (bM st).toNat bf).bI->kZ a (X ++ [e.sym]) (st ++ [e.to])
theorem kZ.len {a:List aR} {X st:List Int} (h:kZ a X st):st.length=X.length+1:=by
 induction h with
 | nil=>rfl
 | snoc _ _ b=>simp[b]
theorem kZ.take {a:List aR} {X st:List Int} (h:kZ a X st):∀ k:Nat,k<=X.length->kZ a (X.take k) (st.take (k+1)):=by
 induction h with
 | nil =>
    intro k hk;have:k=0:=by simpa using hk
    subst this;exact .nil
 | @snoc X st e h he c =>
  intro k hk
  have d:=h.len
  simp only[Wf,Vm,Vy] at hk
  by_cases b:k<=X.length
  .rw[WI b,WI (by omega)]
   exact c k b
  .rw[Vn (by simp;omega),Vn (by simp;omega)]
   exact .snoc h he
theorem ux {a:List aR} {i:Nat} {e:eV} (h:e∈(a.getD i bf).bI):i < a.length/\a.getD i bf∈a:=by
 rcases Vw i a.length with hi | hi
 .exact⟨hi,Vc (getD_some hi)⟩
 .rw[U5,Vx hi] at h;simp at h
theorem kZ.top {g:ae} {a:List aR} (b:kY g a) (h1:1<=a.length) {X st:List Int} (h:kZ a X st):0<=bM st/\bM st < a.length:=by
 cases h with
 | nil=>simp[bM];omega
 | snoc h he =>
  rw[j7]
  exact b.to _ (ux he).2 _ he
theorem nP.aX {g:ae} {l:List aC} {x:aC} (h:nP g l x) (a:x.dot≠0∨x.al < 0):x∈l:=by
 cases h with
 | base h=>exact h
 | step=>simp at a;omega
theorem yo {g:ae} (k:g.de) {a:List aR} (o:kY g a) (he:ir g a) {X st:List Int} (hp:kZ a X st) (h1:1<=a.length):∀ (d:Nat) (x:aC),x∈cE g (a.getD (bM st).toNat bf).aX->x.dot=d ->
  d<=X.length/\X.drop (X.length - d)=(aG g x.al).take d/\(⟨x.al,0⟩:aC)∈cE g (a.getD (bM (st.take (st.length - d))).toNat bf).aX:=by
 have j:∀ i:Nat,i < a.length->∀ x∈(a.getD i bf).aX,cD g x:=λi hi=>(o.aX _ (Vc (getD_some hi))).2.2
 induction hp with
 | nil =>
  intro d x b c
  have u:=j 0 (by omega)
  rw[show (bM [0]).toNat=0 from rfl] at b
  have v:=(bY k u).1 b
  cases d with
  | zero =>
   refine⟨We _,by simp,?_⟩
   rw[show (⟨x.al,0⟩:aC)=x by obtain⟨r,q⟩:=x;simp only at c;subst c;rfl]
   exact b
  | succ d =>
   have:=v.aX (.inl (by omega))
   rw[he.first] at this
   simp at this
   subst this
   simp at c;omega
 | @snoc X st e hp hm w =>
  intro d x b c
  rw[j7] at b
  obtain⟨p,s⟩:=ux hm
  obtain⟨t1,t2⟩:=o.to _ s _ hm
  have hlen:=hp.len
  cases d with
  | zero =>
   refine⟨We _,by simp,?_⟩
   rw[show (⟨x.al,0⟩:aC)=x by obtain⟨r,q⟩:=x;simp only at c;subst c;rfl]
   rw[Nat.sub_zero,WJ,j7]
   exact b
  | succ d =>
   have f:=((bY k (j _ (by omega))).1 b).aX (.inl (by omega))
   rw[he.l7 _ s e hm] at f
   obtain⟨y,t,z,rfl⟩:=iK.1 f
   simp only at c ⊢
   obtain⟨i1,i2,i3⟩:=w d y t (by omega)
   have l:=((bY k (j _ p)).1 t).has (j _ p)
   obtain⟨n1,m⟩:=lK z
   have A:=l.2
   have n:y.dot.toNat=d:=by omega
   refine⟨by simp;omega,?_,?_⟩
   .rw[List.drop_append_of_le_length (by simp),show (X ++ [e.sym]).length - (d+1)=X.length - d by simp,i2]
    have h:d < (aG g y.al).length:=by omega
    rw[Vs,U6 h]
    rw[n,U5,U6 h] at m
    simp at m
    simp[m]
   .rw[show (st ++ [e.to]).length - (d+1)=st.length - d by simp,WI (by omega)]
    exact i3
theorem Bn {g:ae} (f:g.de) {a:List aR} (j:kY g a) (he:ir g a) {X st:List Int} (hp:kZ a X st) (_:1<=a.length) (h:(⟨-1,0⟩:aC)∈cE g (a.getD (bM st).toNat bf).aX):X=[]:=by
 have c:∀ i:Nat,i < a.length->∀ x∈(a.getD i bf).aX,cD g x:=λi hi=>(j.aX _ (Vc (getD_some hi))).2.2
 cases hp with
 | nil=>rfl
 | @snoc X st e hp hm =>
  exfalso
  rw[j7] at h
  obtain⟨k,l⟩:=ux hm
  obtain⟨t1,t2⟩:=j.to _ l _ hm
  have b:=((bY f (c _ (by omega))).1 h).aX (.inr (by simp))
  rw[he.l7 _ l e hm] at b
  obtain⟨y,m,o,n⟩:=iK.1 b
  have d:=((bY f (c _ k)).1 m).has (c _ k)
  simp only[aC.mk.injEq] at n
  have:=d.2
  omega
def ix (l:List Int):Nat->Int
 | 0=>-1
 | k+1=>if l.getD k 0 < 0 then k else ix l k
def Ad (g:ae):List Int->List Int->Option (List Int)
 | [],form=>some form
 | r :: rs,form=>if r < 0∨(g.rules.length:Int)<=r then none
  else if ix form form.length < 0 then none
  else if -1 - form.getD (ix form form.length).toNat 0=(az g r).left then Ad g rs (form.take (ix form form.length).toNat ++ (az g r).right ++ form.drop ((ix form form.length).toNat+1))
  else none
theorem Lu {Y R:List Int} {n:Int} (a:n < 0) (b:∀ x∈R,0<=x):ix (Y ++ [n] ++ R) (Y ++ [n] ++ R).length=Y.length:=by
 have key:∀ k:Nat,Y.length < k->k<=(Y ++ [n] ++ R).length->ix (Y ++ [n] ++ R) k=Y.length:=by
  intro k
  induction k with
  | zero=>intro h;omega
  | succ k c =>
   intro h1 f
   rw[ix]
   by_cases e:k=Y.length
   .subst e
    rw[Va]
    simp[U5,a]
   .rw[U8,c (by omega) (by omega)]
    simp only[Wf,Vm,Vy] at f
    have g:(Y ++ [n] ++ R).getD k 0=R.getD (k - (Y.length+1)) 0:=by
     simp only[U5]
     rw[VQ (by simp;omega)]
     simp
    rw[g]
    have:=b _ (Vc (getD_some (l:=R) (j:=k - (Y.length+1)) (d:=0) (by omega)))
    omega
 exact key _ (by simp) (Vh _)
theorem pa {l:List eV} {s:Int} {c:Cell} (h:gq l s=some c):∃ e∈l,e.sym=s/\c=⟨1,e.to⟩:=by
 induction l with
 | nil=>simp[gq] at h
 | cons e l a =>
  rw[gq] at h
  split at h
  .rename_i b
   simp at h
   exact⟨e,by simp,b,h.symm⟩
  .obtain⟨d,h1,f⟩:=a h
   exact⟨d,by simp[h1],f⟩
theorem QA {l:List eV} {s:Int} (h:0<=fc l s):∃ e∈l,e.sym=s/\fc l s=e.to:=by
 induction l with
 | nil=>simp[fc] at h
 | cons e l b =>
  rw[fc] at h ⊢
  split
  .rename_i a;exact⟨e,by simp,a,rfl⟩
  .rename_i a
   rw[U8 a] at h
   obtain⟨c,h1,d⟩:=b h
   exact⟨c,by simp[h1],d⟩
theorem Ng (g:ae) (s:aR) (t:Int):(∃ e∈s.bI,e.sym=t/\eY g s t=⟨1,e.to⟩)∨(t=g.ai.length/\(⟨-1,1⟩:aC)∈s.aX/\eY g s t=⟨3,0⟩)∨eY g s t=⟨0,0⟩:=by
 unfold eY
 cases h:gq s.bI t with
 | some c =>
  obtain⟨e,h1,b,d⟩:=pa h
  exact .inl ⟨e,h1,b,d⟩
 | none =>
  simp only
  split
  .rename_i a;exact .inr (.inl ⟨a.1,a.2,rfl⟩)
  .exact .inr (.inr rfl)
theorem DZ (g:ae) (s:aR) (l:List cH) (i t:Int):(∃ e∈s.bI,e.sym=t/\(dd g s l i t).1=⟨1,e.to⟩)∨(∃ p∈l,(dd g s l i t).1=⟨2,p.al⟩)∨(t=g.ai.length/\(⟨-1,1⟩:aC)∈s.aX/\(dd g s l i t).1=⟨3,0⟩)∨(dd g s l i t).1=⟨0,0⟩:=by
 have a:=Ng g s t
 unfold dd
 cases h:dA l t with
 | nil =>
  simp only
  rcases a with h | h | h
  .exact .inl h
  .exact .inr (.inr (.inl h))
  .exact .inr (.inr (.inr h))
 | cons r rs =>
  have hr:r∈dA l t:=by rw[h];simp
  simp only[dA,Vv,VV] at hr
  obtain⟨p,⟨hp,_⟩,rfl⟩:=hr
  simp only
  split
  .exact .inr (.inl ⟨p,hp,rfl⟩)
  .simp only
   split
   .exact .inr (.inl ⟨p,hp,rfl⟩)
   .split
    .exact .inr (.inr (.inr rfl))
    .rcases a with h | h | h
     .exact .inl h
     .exact .inr (.inr (.inl h))
     .exact .inr (.inr (.inr h))
theorem yE (g:ae) (a:List aR) (l:List (List cH)) {n:Nat} {s t:Int} (d:0<=s/\s < n) (e:0<=t/\t<=g.ai.length):cX (fy g a l n) s t=(dd g (a.getD s.toNat bf) (l.getD s.toNat []) s t).1:=by
 unfold cX fy gN
 have b:((s.toNat:Nat):Int)=s:=by omega
 have c:((t.toNat:Nat):Int)=t:=by omega
 simp[U5,show s.toNat < n by omega,show t.toNat < g.ai.length+1 by omega,b,c]
theorem DD (g:ae) (a:List aR) (l:List (List cH)) {n:Nat} {s k:Int} (d:0<=s/\s < n) (hk:0<=k/\k < g.ao.length):kJ (fy g a l n) s k=jR a s k:=by
 unfold kJ fy xw
 have b:((s.toNat:Nat):Int)=s:=by omega
 have c:((k.toNat:Nat):Int)=k:=by omega
 simp[U5,show s.toNat < n by omega,show k.toNat < g.ao.length by omega,b,c]
theorem Pc {a:List aR} {s k:Int} (g:0<=s/\s < a.length) (h:jR a s k≠-1):∃ e∈(a.getD s.toNat bf).bI,e.sym = -1 - k/\jR a s k=e.to:=by
 have c:dt a s [-1 - k]=fp a s [-1 - k]:=by unfold dt;rw[U8 (by omega)]
 unfold jR at *
 rw[c,fp] at h ⊢
 split
 .rename_i b
  obtain⟨e,h1,d,f⟩:=QA b.1
  exact⟨e,h1,d,f⟩
 .rename_i b
  rw[U8 b] at h
  simp at h
theorem HW {g:ae} (j:g.de) {a:List aR} (m:kY g a) (he:ir g a) (h1:1<=a.length) {l:List (List cH)}
  (hk:∀ i:Nat,∀ p∈l.getD i [],∃ x∈cE g (a.getD i bf).aX,(bo g x).2=false/\0<=x.al/\p.al=x.al) {w:List Int} (hw:∀ x∈w,0<=x/\x < (g.ai.length:Int)) :
  ∀ (k:Nat) (st rs:List Int) (at_:Nat) (X:List Int),kZ a X st->at_<=w.length->Ad g rs.reverse (X ++ w.drop at_)=some w ->
  ((gA g (fy g a l a.length) w k st rs at_).2.2=0->(gA g (fy g a l a.length) w k st rs at_).2.1=w.length/\Ad g (gA g (fy g a l a.length) w k st rs at_).1.reverse [-1 - g.start]=some w) /\
  ((gA g (fy g a l a.length) w k st rs at_).2.2≠0->(gA g (fy g a l a.length) w k st rs at_).1=[]):=by
 have o:∀ i:Nat,i < a.length->∀ x∈(a.getD i bf).aX,cD g x:=λi hi=>(m.aX _ (Vc (getD_some hi))).2.2
 intro k
 induction k with
 | zero =>
  intro st rs at_ X hp C s
  have d:=hp.top m h1
  have t:=xI hw at_
  rw[CV,yE g a l d t]
  split
  .rename_i b
   refine⟨λ_=>?_,λh=>absurd rfl h⟩
   simp only
   obtain⟨b,rfl⟩:=b
   refine⟨rfl,?_⟩
   rcases DZ g (a.getD (bM st).toNat bf) (l.getD (bM st).toNat []) (bM st) (bJ g w w.length) with ⟨e,_,_,h⟩ | ⟨p,_,h⟩ | ⟨_,hm,_⟩ | h
   .rw[h] at b;simp at b
   .rw[h] at b;simp at b
   .have u:=(bY j (o _ (by omega))).2 (.base hm)
    obtain⟨G,q,E⟩:=yo j m he hp h1 1 _ u rfl
    have hlen:=hp.len
    have H:=Bn j m he (hp.take (X.length - 1) (by omega)) h1 (by rw[show X.length - 1+1=st.length - 1 by omega];exact E)
    have v:X.length=1:=by
     have:=VT List.length H
     simp at this;omega
    rw[v,Nat.sub_self,Wm] at q
    rw[q,List.drop_length,WH] at s
    simpa [aG] using s
   .rw[h] at b;simp at b
  .split
   .exact⟨λh=>by simp at h,λ_=>rfl⟩
   .exact⟨λh=>by simp at h,λ_=>rfl⟩
 | succ k M =>
  intro st rs at_ X hp C s
  have d:=hp.top m h1
  have t:=xI hw at_
  have hlen:=hp.len
  rw[CV,yE g a l d t]
  have y:=DZ g (a.getD (bM st).toNat bf) (l.getD (bM st).toNat []) (bM st) (bJ g w at_)
  generalize (dd g (a.getD (bM st).toNat bf) (l.getD (bM st).toNat []) (bM st) (bJ g w at_)).1=c at y ⊢
  split
  .rename_i b
   refine⟨λ_=>?_,λh=>absurd rfl h⟩
   simp only
   obtain⟨b,rfl⟩:=b
   refine⟨rfl,?_⟩
   rcases y with ⟨e,_,_,h⟩ | ⟨p,_,h⟩ | ⟨_,hm,_⟩ | h
   .rw[h] at b;simp at b
   .rw[h] at b;simp at b
   .have u:=(bY j (o _ (by omega))).2 (.base hm)
    obtain⟨G,q,E⟩:=yo j m he hp h1 1 _ u rfl
    have H:=Bn j m he (hp.take (X.length - 1) (by omega)) h1 (by rw[show X.length - 1+1=st.length - 1 by omega];exact E)
    have v:X.length=1:=by
     have:=VT List.length H
     simp at this;omega
    rw[v,Nat.sub_self,Wm] at q
    rw[q,List.drop_length,WH] at s
    simpa [aG] using s
   .rw[h] at b;simp at b
  .split
   .exact⟨λh=>by simp at h,λ_=>rfl⟩
   .rename_i O z
    simp only
    rcases y with ⟨e,hm,N,rfl⟩ | ⟨p,hm,rfl⟩ | ⟨_,_,rfl⟩ | rfl
    .rw[Va rfl]
     have r:at_ < w.length:=by
      rcases Vw at_ w.length with h | h
      .exact h
      .exact absurd (.inr (.inr ⟨rfl,by omega⟩)) z
     rw[bJ,Va r] at N
     refine M _ _ _ _ (.snoc hp hm) r ?_
     rw[N,VR,List.singleton_append]
     rw[show w.getD at_ 0 :: w.drop (at_+1)=w.drop at_ by rw[VL r,U5,U6 r];rfl]
     exact s
    .rw[U8 (by simp)]
     obtain⟨x,F,A,P,I⟩:=hk _ p hm
     have D:=((bY j (o _ (by omega))).1 F).has (o _ (by omega))
     have J:x.dot=(aG g x.al).length:=by
      unfold bo at A
      split at A
      .assumption
      .simp at A
     obtain⟨G,q,E⟩:=yo j m he hp h1 (aG g x.al).length x F J
     rw[WJ] at q
     have K:aG g x.al=(az g p.al).right:=by rw[aG,U8 (by omega),I]
     rw[K] at G q
     simp only
     rw[U8 (by omega)]
     have B:=hp.take (X.length - (az g p.al).right.length) (by omega)
     rw[show X.length - (az g p.al).right.length+1=st.length - (az g p.al).right.length by omega] at B
     have f:=B.top m h1
     have Q:g.rules[p.al.toNat]?=some (az g p.al):=by unfold az;exact getD_some (by have:=D.1;omega)
     have S:=j.left _ (Vc Q)
     rw[DD g a l f S]
     split
     .exact⟨λh=>by simp at h,λ_=>rfl⟩
     .rename_i T
      obtain⟨e,U,V,W⟩:=Pc f T
      rw[W]
      refine M _ _ _ _ (.snoc B U) C ?_
      rw[V,List.reverse_append]
      simp only[List.reverse_cons,List.reverse_nil,Wp,List.singleton_append]
      have L:=Lu (Y:=X.take (X.length - (az g p.al).right.length)) (R:=w.drop at_) (n:=-1 - (az g p.al).left) (by omega) (λx F=>(hw x (List.mem_of_mem_drop F)).1)
      rw[Ad,U8 (by have:=D.1;omega),L,U8 (by omega),VD,Va]
      .rw[<-s]
       congr 1
       have t1:(List.take (X.length - (az g p.al).right.length) X ++ [-1 - (az g p.al).left] ++ List.drop at_ w).take (List.take (X.length - (az g p.al).right.length) X).length=List.take (X.length - (az g p.al).right.length) X:=by
        rw[VR,List.take_left]
       have t2:(List.take (X.length - (az g p.al).right.length) X ++ [-1 - (az g p.al).left] ++ List.drop at_ w).drop ((List.take (X.length - (az g p.al).right.length) X).length+1)=List.drop at_ w:=by
        have:=List.drop_left (l₁:=List.take (X.length - (az g p.al).right.length) X ++ [-1 - (az g p.al).left]) (l₂:=List.drop at_ w)
        rw[Wf,List.length_singleton] at this
        exact this
       rw[t1,t2]
       conv=>rhs;rw[<-List.take_append_drop (X.length - (az g p.al).right.length) X,q]
      .simp[U5]
       omega
    .exact absurd (.inr (.inl rfl)) z
    .exact absurd (.inl rfl) z
def jU (g:ae) (l:List aC) (n:Nat):List Int:=((List.range n).filter λi=>decide (cW g l (b6 g i)≠[])).map λ(i:Nat)=>b6 g i
theorem AK (g:ae) (l:List aC) (n:Nat):jU g l (n+1)=if cW g l (b6 g n)=[] then jU g l n else jU g l n ++ [b6 g n]:=by
 unfold jU
 rw[Wd,List.filter_append,Vz]
 by_cases h:cW g l (b6 g n)=[]
 .rw[Va h];simp[h]
 .rw[U8 h];simp[h]
structure ml (g:ae) (at_ i:Nat) (out:List aR):Prop where
 one:(out.map aR.aX).Nodup
 back:∀ j:Nat,0 < j->j < out.length->∃ (i:Nat) (e:eV),i < j/\e∈(out.getD i bf).bI/\e.to=j
 done:∀ j:Nat,j < at_->j < out.length->(out.getD j bf).bI.map eV.sym=jU g (cE g (out.getD j bf).aX) (g.ai.length+g.ao.length)
 here:at_ < out.length->(out.getD at_ bf).bI.map eV.sym=jU g (cE g (out.getD at_ bf).aX) i
theorem rm (l:List aR) (i:Nat) (c:eV) (j:Nat) (hi:i < l.length):((l.modify i λx=>(⟨x.aX,x.bI ++ [c]⟩:aR)).getD j bf).bI=if i=j then (l.getD j bf).bI ++ [c] else (l.getD j bf).bI:=by
 simp only[U5,List.getElem?_modify]
 by_cases e:i=j
 .subst e;simp[hi]
 .cases l[j]? with
  | none=>simp[e]
  | some x=>simp[e]
theorem CJ (l:List aR) (i:Nat) (c:eV):(l.modify i λx=>(⟨x.aX,x.bI ++ [c]⟩:aR)).map aR.aX=l.map aR.aX:=by
 apply List.ext_getElem?
 intro j
 simp only[U9,List.getElem?_modify]
 cases l[j]? with
 | none=>rfl
 | some x=>by_cases e:i=j <;> simp[e]
theorem ml.put {g:ae} {at_ i:Nat} {out:List aR} {to:Int} (b:at_ < out.length) (h1:(out.map aR.aX).Nodup) (h:∀ j:Nat,0 < j->j < out.length->(∃ (i:Nat) (e:eV),i < j/\e∈(out.getD i bf).bI/\e.to=j)∨(at_ < j/\to=j))
  (l:∀ j:Nat,j < at_->j < out.length->(out.getD j bf).bI.map eV.sym=jU g (cE g (out.getD j bf).aX) (g.ai.length+g.ao.length)) (m:(out.getD at_ bf).bI.map eV.sym=jU g (cE g (out.getD at_ bf).aX) i)
  (c:cW g (cE g (out.getD at_ bf).aX) (b6 g i)≠[]):ml g at_ (i+1) (out.modify at_ λx=>(⟨x.aX,x.bI ++ [⟨b6 g i,to⟩]⟩:aR)):=by
 refine⟨by rw[CJ];exact h1,λj d a=>?_,λj d a=>?_,λ_=>?_⟩
 .rw[List.length_modify] at a
  rcases h j d a with ⟨k,e,f,a2,a3⟩ | ⟨f,a2⟩
  .refine⟨k,e,f,?_,a3⟩
   rw[rm _ _ _ _ b]
   split
   .exact List.mem_append_left _ a2
   .exact a2
  .refine⟨at_,⟨b6 g i,to⟩,f,?_,a2⟩
   rw[rm _ _ _ _ b,Va rfl]
   simp
 .rw[List.length_modify] at a
  rw[rm _ _ _ _ b,U8 (by omega),kQ]
  exact l j d a
 .rw[rm _ _ _ _ b,Va rfl,kQ,Vz,m,AK,U8 c];rfl
theorem ml.step {g:ae} {at_ i:Nat} {out:List aR} (h:ml g at_ i out) (d:at_ < out.length):ml g at_ (i+1) (dO g (cE g (out.getD at_ bf).aX) at_ out i):=by
 unfold dO
 split
 .rename_i hm
  exact⟨h.one,h.back,h.done,λ_=>by rw[AK,Va hm];exact h.here d⟩
 .rename_i hm
  split
  .rename_i n
   have f:∀ j:Nat,j < out.length->((out ++ [(⟨cW g (cE g (out.getD at_ bf).aX) (b6 g i),[]⟩:aR)]).getD j bf)=out.getD j bf:=λj c=>by
    simp[U5,VG c]
   refine ml.put (by simp;omega) ?_ (λj c l=>?_) (λj c l=>?_) ?_ ?_
   .rw[Vz,List.nodup_append]
    refine⟨h.one,by simp,λa o b m=>?_⟩
    obtain⟨s,p,rfl⟩:=Vv.1 o
    simp at m;subst m
    exact Gc _ _ n s p
   .rcases Vw j out.length with q | q
    .obtain⟨k,e,r,a2,a3⟩:=h.back j c q
     exact .inl ⟨k,e,r,by rw[f k (by omega)];exact a2,a3⟩
    .right
     simp at l
     exact⟨by omega,by omega⟩
   .rw[f j (by omega)];exact h.done j c (by omega)
   .rw[f at_ d];exact h.here d
   .rw[f at_ d];exact hm
  .exact ml.put d h.one (λj c l=>.inl (h.back j c l)) h.done (h.here d) hm
theorem ml.row {g:ae} (a:g.de) {at_:Nat} {out:List aR} (h:ml g at_ 0 out) (hi:dF g at_ 0 out) (he:ir g out) (b:at_ < out.length):∀ n:Nat,n<=40->ml g at_ n ((List.range n).foldl (dO g (cE g (out.getD at_ bf).aX) at_) out)
 | 0,_=>h
 | n+1,d=>by
  have h1:=ml.row a h hi he b n (by omega)
  obtain⟨i1,i2,i3⟩:=dF.row (hi.qL a b).1 (hi.qL a b).2 hi n (by omega)
  obtain⟨e,c⟩:=he.row a hi b n (by omega)
  rw[Wd,Wl]
  simp only[VC,WL]
  have:=h1.step (by omega)
  rw[c] at this
  exact this
theorem ml.next {g:ae} {at_:Nat} {out:List aR} (h:ml g at_ (g.ai.length+g.ao.length) out) (hi:dF g at_ (g.ai.length+g.ao.length) out):ml g (at_+1) 0 out:=by
 refine⟨h.one,h.back,λj b a=>?_,λa=>?_⟩
 .rcases Vw j at_ with q | q
  .exact h.done j q a
  .have:j=at_:=by omega
   subst this
   exact h.here a
 .have:=(hi.bI (at_+1) _ (getD_some (d:=bf) a)).2.2 (by omega)
  rw[this];simp[jU]
structure Po (g:ae) (a:List aR):Prop where
 one:(a.map aR.aX).Nodup
 back:∀ j:Nat,0 < j->j < a.length->∃ (i:Nat) (e:eV),i < j/\e∈(a.getD i bf).bI/\e.to=j
 all:∀ s∈a,s.bI.map eV.sym=jU g (cE g s.aX) (g.ai.length+g.ao.length)
theorem AH {g:ae} (a:g.de):∀ (f at_:Nat) (out:List aR),302<=f+at_->dF g at_ 0 out->ir g out->ml g at_ 0 out->out.length<=300->(gv g f at_ out).2=0->Po g (gv g f at_ out).1
 | 0,at_,out,n,_,_,h,o,_=>⟨h.one,h.back,λs d=>by
   change s∈out at d
   obtain⟨j,i,e⟩:=V4.1 d
   have:=h.done j (by omega) i
   rwa [show out.getD j bf=s by rw[U5,U6 i];exact e] at this⟩
 | f+1,at_,out,n,hi,he,h,o,b=>by
  have p:=a.ai
  have q:=a.ao
  rw[gv] at b ⊢
  split
  .rename_i c
   rw[Va c] at b
   have hr:=dF.row (hi.qL a c).1 (hi.qL a c).2 hi (g.ai.length+g.ao.length) (by omega)
   have l:=he.row a hi c (g.ai.length+g.ao.length) (by omega)
   have m:=h.row a hi he c (g.ai.length+g.ao.length) (by omega)
   rw[show (List.range (g.ai.length+g.ao.length)).foldl (dO g (cE g (out.getD at_ bf).aX) at_) out=C6 g at_ out (g.ai.length+g.ao.length) from rfl] at hr l m
   split
   .rename_i k;rw[Va k] at b;simp at b
   .rename_i k
    rw[U8 k] at b
    exact AH a f (at_+1) _ (by omega) hr.1.next l.1 (m.next hr.1) (by omega) b
  .rename_i c
   exact⟨h.one,h.back,λs d=>by
    change s∈out at d
    obtain⟨j,i,e⟩:=V4.1 d
    have:=h.done j (by omega) i
    rwa [show out.getD j bf=s by rw[U5,U6 i];exact e] at this⟩
theorem LQ {g:ae} (b:g.de) (h:(bF g).2=0):Po g (bF g).1:=by
 unfold bF at h ⊢
 split
 .rename_i hr
  rw[Va hr] at h
  refine AH b 302 0 eQ (by omega) sW ⟨rfl,λs a e he=>by simp[eQ] at a;subst a;simp at he⟩ ⟨by simp[eQ],λj h1 c=>by simp[eQ] at c;omega,λj h1=>by omega,λ_=>?_⟩ (by simp[eQ]) h
  simp[eQ,jU]
 .rename_i hr
  rw[U8 hr] at h
  simp at h
theorem Dp (g:ae):∀ (f at_:Nat) (out:List aR),(gv g f at_ out).2=0∨gv g f at_ out=([],5)
 | 0,_,_=>.inl rfl
 | f+1,at_,out=>by
  rw[gv]
  split
  .split
   .exact .inr rfl
   .exact Dp g f _ _
  .exact .inl rfl
theorem Ot (g:ae):((bF g).2=0/\isRed g=true)∨(bF g=([],5)/\isRed g=true)∨(bF g=([],1)/\isRed g=false):=by
 unfold bF
 cases h:isRed g with
 | false=>exact .inr (.inr ⟨by simp,rfl⟩)
 | true =>
  rw[Va rfl]
  rcases Dp g 302 0 eQ with h | h
  .exact .inl ⟨h,rfl⟩
  .exact .inr (.inl ⟨h,rfl⟩)
theorem Ar {g:ae} (a:g.de) {x:aC} (c:cD g x) {s:Int} (h:bo g x=(s,true)):gB g s=true:=by
 obtain⟨h1,d⟩:=lK h
 have b:x.dot.toNat < (aG g x.al).length:=by have:=c.2;omega
 have hm:s∈aG g x.al:=by
  rw[<-d,U5,U6 b];exact Vg _
 unfold aG at hm
 split at hm
 .simp at hm;subst hm
  have:=a.ic;have:=a.start
  unfold gB
  rw[U8 (by omega)]
  simp;omega
 .have e:g.rules[x.al.toNat]?=some (az g x.al):=by unfold az;exact getD_some (by have:=c.1;omega)
  exact a.sym _ (Vc e) s hm
def ep (a:List aR) (p:Nat) (s:Int):Nat:=(dt a p [s]).1.toNat
def dT (a:List aR) (p:Nat) (s:Int):Prop:=∃ e∈(a.getD p bf).bI,e.sym=s
noncomputable abbrev iA (g:ae) (a:List aR) (p:Nat):List aC:=cE g (a.getD p bf).aX
inductive mc (a:List aR):Nat->List Int->Nat->Prop
 | nil {p:Nat} : mc a p [] p
 | cons {p q:Nat} {s:Int} {X:List Int} : dT a p s->mc a (ep a p s) X q->mc a p (s :: X) q
theorem mc.snoc {a:List aR} {p q:Nat} {X:List Int} (h:mc a p X q) {s:Int} (he:dT a q s):mc a p (X ++ [s]) (ep a q s):=by
 induction h with
 | nil=>exact .cons he .nil
 | cons h1 _ b=>exact .cons h1 (b he)
theorem gm {a:List aR} {p:Nat} {s:Int} (h:dT a p s):p < a.length:=by
 obtain⟨e,he,_⟩:=h;exact(ux he).1
theorem HN {l:List eV} {s:Int} (h:∃ e∈l,e.sym=s):∃ e∈l,e.sym=s/\fc l s=e.to:=by
 induction l with
 | nil=>obtain⟨e,he,_⟩:=h;simp at he
 | cons e l c =>
  rw[fc]
  by_cases a:e.sym=s
  .rw[Va a];exact⟨e,by simp,a,rfl⟩
  .rw[U8 a]
   obtain⟨d,h1,b⟩:=h
   rcases Vq.1 h1 with rfl | h1
   .exact absurd b a
   .obtain⟨f,g,k2⟩:=c ⟨d,h1,b⟩
    exact⟨f,by simp[g],k2⟩
theorem Qq {g:ae} {i j:Nat} (h:b6 g i=b6 g j):i=j:=by
 have h1:=GB g i
 rw[h,GB] at h1
 omega
theorem HO (g:ae) (l:List aC) (n:Nat):(jU g l n).Nodup:=by
 unfold jU
 unfold List.Nodup
 rw[Xd]
 exact((List.nodup_range (n:=n)).filter _).imp λa e=>a (Qq e)
theorem QB {l:List eV} (h:(l.map eV.sym).Nodup) {e:eV} (he:e∈l):fc l e.sym=e.to:=by
 induction l with
 | nil=>simp at he
 | cons x l a =>
  simp only[VF,V9] at h
  rw[fc]
  rcases Vq.1 he with rfl | he
  .rw[Va rfl]
  .rw[U8 (λb=>h.1 (by rw[b];exact List.mem_map_of_mem he))]
   exact a h.2 he
structure cJ (g:ae) (a:List aR):Prop where
 dQ:g.de
 ok:kY g a
 e:ir g a
 x:Po g a
 pos:1<=a.length
section
variable {g:ae} {a:List aR}
theorem cJ.aX (h:cJ g a) {p:Nat} (hp:p < a.length):∀ x∈(a.getD p bf).aX,cD g x:=(h.ok.aX _ (Vc (getD_some hp))).2.2
theorem cJ.has (h:cJ g a) {p:Nat} (hp:p < a.length) {x:aC} (b:x∈iA g a p):cD g x:=((bY h.dQ (h.aX hp)).1 b).has (h.aX hp)
theorem cJ.l7 (h:cJ g a) {p:Nat} (hp:p < a.length) {s:Int} : dT a p s↔∃ x∈iA g a p,bo g x=(s,true):=by
 have k:=h.x.all _ (Vc (getD_some (d:=bf) hp))
 have e:dT a p s↔s∈((a.getD p bf).bI.map eV.sym):=by
  simp only[dT,Vv]
 rw[e,k]
 simp only[jU,Vv,VV,Wa,Vj]
 constructor
 .rintro⟨i,⟨hi,f⟩,rfl⟩
  obtain⟨y,l⟩:=List.exists_mem_of_ne_nil _ f
  obtain⟨x,b,c,_⟩:=iK.1 l
  exact⟨x,b,c⟩
 .rintro⟨x,b,c⟩
  obtain⟨m,n⟩:=Df (Ar h.dQ (h.has hp b) c)
  obtain⟨o,j⟩:=Qh m
  refine⟨(td g s).toNat,⟨by omega,?_⟩,j⟩
  rw[j]
  exact List.ne_nil_of_mem (iK.2 ⟨x,b,c,rfl⟩)
theorem cJ.ep (h:cJ g a) {p:Nat} {s:Int} (he:dT a p s):∃ e∈(a.getD p bf).bI,e.sym=s/\e.to=ep a p s/\ep a p s < a.length/\dt a p [s]=((ep a p s:Int),true):=by
 have hp:=gm he
 have hm:=Vc (getD_some (d:=bf) hp)
 obtain⟨e,h1,c,f⟩:=HN he
 obtain⟨t1,t2⟩:=h.ok.to _ hm _ h1
 have hw:dt a p [s]=(e.to,true):=by
  unfold dt
  rw[U8 (by omega),fp,VD,f,Va ⟨t1,t2⟩,fp]
 have b:((Gv.ep a p s:Nat):Int)=e.to:=by unfold Gv.ep;rw[hw];simp;omega
 exact⟨e,h1,c,b.symm,by omega,by rw[hw,b]⟩
theorem cJ.P4 (h:cJ g a) {p:Nat} {s:Int} (he:dT a p s):(a.getD (Gv.ep a p s) bf).aX=cW g (iA g a p) s:=by
 have hm:=Vc (getD_some (d:=bf) (gm he))
 obtain⟨e,h1,b,c,_⟩:=h.ep he
 have:=h.e.l7 _ hm e h1
 rw[c,VD,b] at this
 exact this
theorem cJ.step (h:cJ g a) {p:Nat} (hp:p < a.length) {x:aC} (b:x∈iA g a p) {s:Int} (c:bo g x=(s,true)):dT a p s/\(⟨x.al,x.dot+1⟩:aC)∈(a.getD (Gv.ep a p s) bf).aX/\(⟨x.al,x.dot+1⟩:aC)∈iA g a (Gv.ep a p s)/\Gv.ep a p s < a.length:=by
 have he:=(h.l7 hp).2 ⟨x,b,c⟩
 obtain⟨_,_,_,_,d,_⟩:=h.ep he
 have hk:(⟨x.al,x.dot+1⟩:aC)∈(a.getD (Gv.ep a p s) bf).aX:=by
  rw[h.P4 he];exact iK.2 ⟨x,b,c,rfl⟩
 exact⟨he,hk,(bY h.dQ (h.aX d)).2 (.base hk),d⟩
theorem cJ.Ux (h:cJ g a) {p:Nat} {s:Int} (he:dT a p s):∀ y∈(a.getD (Gv.ep a p s) bf).aX,1<=y.dot:=by
 intro y b
 rw[h.P4 he] at b
 obtain⟨x,c,_,rfl⟩:=iK.1 b
 have:=(h.has (gm he) c).2
 simp only;omega
theorem cJ.UB (h:cJ g a) {p:Nat} {s:Int} (he:dT a p s):Gv.ep a p s≠0:=λe=>by
 have:=h.Ux he ⟨-1,0⟩ (by rw[e,h.e.first];simp)
 simp at this
theorem cJ.prev (h:cJ g a) {i:Nat} (hi:i < a.length) {x:aC} (c:x∈(a.getD i bf).aX) (f:0 < i):∃ (p:Nat) (y:aC) (s:Int),p < i/\p < a.length/\y∈iA g a p/\bo g y=(s,true)/\x=⟨y.al,y.dot+1⟩/\dT a p s/\Gv.ep a p s=i:=by
 obtain⟨p,e,hp,he,d⟩:=h.x.back i f hi
 obtain⟨b,hm⟩:=ux he
 have hk:=h.e.l7 _ hm e he
 rw[d,VD] at hk
 rw[hk] at c
 obtain⟨y,j,k,rfl⟩:=iK.1 c
 have l:dT a p e.sym:=⟨e,he,rfl⟩
 refine⟨p,y,e.sym,hp,b,j,k,rfl,l,?_⟩
 have h1:=QB (by rw[h.x.all _ hm];exact HO _ _ _) he
 have hw:dt a p [e.sym]=(e.to,true):=by
  have:=h.ok.to _ hm _ he
  unfold dt
  rw[U8 (by omega),fp,VD,h1,Va this,fp]
 unfold Gv.ep
 rw[hw,d];rfl
theorem zb {x:aC} {s:Int} (b:cD g x) (h:bo g x=(s,true)):∃ d:Nat,x.dot=d/\d < (aG g x.al).length/\(aG g x.al).drop d=s :: (aG g x.al).drop (d+1):=by
 obtain⟨h1,a⟩:=lK h
 have:=b.2
 refine⟨x.dot.toNat,by omega,by omega,?_⟩
 rw[VL (show x.dot.toNat < (aG g x.al).length by omega)]
 rw[U5,U6 (show x.dot.toNat < (aG g x.al).length by omega)] at a
 simp at a
 rw[a]
theorem kK {r:Int} {d:Nat} {s:Int} {l:List Int} (h:(aG g r).drop d=s :: l):bo g ⟨r,d⟩=(s,true)/\(aG g r).drop (d+1)=l/\d < (aG g r).length:=by
 have a:d < (aG g r).length:=by
  rcases Vw d (aG g r).length with q | q
  .exact q
  .rw[VA q] at h;simp at h
 rw[VL a] at h
 simp only[List.cons.injEq] at h
 refine⟨?_,h.2,a⟩
 unfold bo
 rw[U8 (by simp only;omega)]
 simp only[VD,U5,U6 a,Vo,h.1]
theorem cJ.fwd (h:cJ g a) (r:Int):∀ (X:List Int) (d:Nat) (p:Nat),p < a.length->(⟨r,d⟩:aC)∈iA g a p->(∃ l,(aG g r).drop d=X ++ l)->∃ q,q < a.length/\mc a p X q/\(⟨r,((d+X.length:Nat):Int)⟩:aC)∈iA g a q
 | [],d,p,hp,b,_=>⟨p,hp,.nil,by simpa using b⟩
 | s :: X,d,p,hp,b,⟨l,c⟩=>by
  obtain⟨n1,e,n⟩:=kK c
  obtain⟨s1,s2,f,i⟩:=h.step hp b n1
  obtain⟨q,j,k,m⟩:=cJ.fwd h r X (d+1) (Gv.ep a p s) i (by simpa using f) ⟨l,e⟩
  refine⟨q,j,.cons s1 k,?_⟩
  rw[show d+(s :: X).length=d+1+X.length by simp;omega]
  exact m
end
inductive sP (g:ae) (a:List aR):Nat->Int->Nat->Prop
 | fin:sP g a 0 g.start g.ai.length
 | term {p:Nat} {B:Int} {t:Nat} : t < g.ai.length->dT a (ep a p (-1 - B)) t->sP g a p B t
 | null {p:Nat} {B C:Int} {t:Nat} : 0<=C->dT a (ep a p (-1 - B)) (-1 - C)->(ak g false).getD C.toNat false=true->sP g a (ep a p (-1 - B)) C t->sP g a p B t
inductive tN (g:ae) (a:List aR):Nat->Int->Nat->Prop
 | read {p:Nat} {B:Int} {t:Nat} : sP g a p B t->tN g a p B t
 | Lv {p p' k d:Nat} {B:Int} {t:Nat} : tN g a p' (az g k).left t->k < g.rules.length->dT a p' (-1 - (az g k).left)->0<=B->(az g k).right[d]?=some (-1 - B)->mc a p' ((az g k).right.take d) p->cp ((az g k).right.drop (d+1)) (ak g false) false=true->tN g a p B t
theorem qx (null:List Bool) (first:List BV) (b:BV):∀ (l:List Int) (t:Nat),(dp null first b l).getLsbD t=true↔(dp null first 0 l).getLsbD t=true∨(cp l null false=true/\b.getLsbD t=true)
 | [],t=>by simp[dp,cp]
 | s :: l,t=>by
  have c:=qx null first b l t
  rw[dp,dp]
  by_cases a:0<=s
  .rw[Va a,Va a];simp[cp,a]
  .rw[U8 a,U8 a]
   by_cases h1:null.getD (-1 - s).toNat false=true
   .rw[Va h1,Va h1,VM,VM,VP,VP,c]
    have:cp (s :: l) null false=cp l null false:=by
     rw[cp,Wb,U8 a,h1];rfl
    rw[this]
    constructor
    .rintro (h | h | h)
     .exact .inl (.inl h)
     .exact .inl (.inr h)
     .exact .inr h
    .rintro ((h | h) | h)
     .exact .inl h
     .exact .inr (.inl h)
     .exact .inr (.inr h)
   .rw[U8 h1,U8 h1]
    have:cp (s :: l) null false=false:=by
     rw[cp,Wb,U8 a]
     simp only[Bool.not_eq_true] at h1
     rw[h1];rfl
    rw[this];simp
theorem yr {F:List Bool->List Bool} (a:∀ is,fg is (F is)):∀ (k:Nat) (is:List Bool),is.length<=dN is+k->F (iter F k is)=iter F k is
 | 0,is,h=>by
  have h1:=a is
  have c:=so (F is)
  have b:=h1.dN
  rw[<-h1.1] at c
  have d:=so is
  exact(b.2 (by omega)).symm
 | k+1,is,h=>by
  rw[iter]
  by_cases e:F is=is
  .rw[e]
   have:iter F k is=is:=wc e k
   rw[this,e]
  .refine yr a k (F is) ?_
   have h1:=a is
   have b:=h1.dN
   have:dN is≠dN (F is):=λq=>e (b.2 q).symm
   rw[<-h1.1];omega
def pt (t:Nat) (fs:List BV):List Bool:=fs.map λb=>b.getLsbD t
def Ns (null:List Bool) (t:Nat) (is:List Bool):List Int->Bool
 | []=>false
 | s :: l=>if 0<=s then (gX s).getLsbD t else if null.getD (-1 - s).toNat false=true then is.getD (-1 - s).toNat false || Ns null t is l else is.getD (-1 - s).toNat false
theorem qE (t:Nat) (a:List BV) (i:Nat):(pt t a).getD i false=(a.getD i 0).getLsbD t:=by
 simp only[pt,U5,U9]
 cases a[i]? with
 | none=>simp
 | some x=>rfl
theorem F1 (null:List Bool) (t:Nat) (a:List BV):∀ l:List Int,(dp null a 0 l).getLsbD t=Ns null t (pt t a) l
 | []=>by simp[dp,Ns]
 | s :: l=>by
  rw[dp,Ns]
  split
  .rfl
  .split
   .rw[VM,F1 null t a l,qE]
   .rw[qE]
def j4 (null:List Bool) (t:Nat) (is:List Bool) (r:aN):List Bool:=is.set r.left.toNat (is.getD r.left.toNat false || Ns null t is r.right)
theorem O9 (null:List Bool) (t:Nat) (a:List BV) (r:aN):pt t (j0 null a r)=j4 null t (pt t a) r:=by
 unfold j0 j4
 rw[qE,<-F1,<-VM]
 simp[pt,List.map_set]
theorem Hp (null:List Bool) (t:Nat):∀ (l:List aN) (a:List BV),pt t (l.foldl (j0 null) a)=l.foldl (j4 null t) (pt t a)
 | [],_=>rfl
 | r :: l,a=>by rw[VC,Hp null t l,O9];rfl
theorem Ff (g:ae) (null:List Bool) (t:Nat):∀ (n:Nat) (a:List BV),pt t (iter (rX g null) n a)=iter (λis=>g.rules.foldl (j4 null t) is) n (pt t a)
 | 0,_=>rfl
 | n+1,a=>by rw[iter,iter,Ff g null t n];exact VT _ (Hp null t g.rules a)
theorem GZ (null:List Bool) (t:Nat) (is:List Bool) (r:aN):fg is (j4 null t is r):=by
 refine⟨by simp[j4],λi hi=>?_⟩
 unfold j4
 simp only[U5,Wk] at hi ⊢
 split
 .rename_i e
  subst e
  split
  .simp[hi]
  .rename_i h;rw[Vx (by omega)] at hi;simp at hi
 .exact hi
theorem Ak (null:List Bool) (t:Nat):∀ (l:List aN) (is:List Bool),fg is (l.foldl (j4 null t) is)
 | [],is=>.refl _
 | r :: l,is=>(GZ null t is r).trans (Ak null t l _)
theorem Du {null:List Bool} {t:Nat} : ∀ {l:List aN} {is:List Bool},l.foldl (j4 null t) is=is->∀ R∈l,j4 null t is R=is
 | [],_,_,_,h=>by simp at h
 | R :: l,is,h,x,a=>by
  rw[VC] at h
  have h1:=Ak null t l (j4 null t is R)
  rw[h] at h1
  have b:=(h1.qN (GZ null t is R))
  rcases Vq.1 a with rfl | a
  .exact b
  .rw[b] at h;exact Du h x a
theorem sf {g:ae} (d:g.de) (null:List Bool) {R:aN} (b:R∈g.rules):nW (dp null (cq g null) 0 R.right) ((cq g null).getD R.left.toNat 0):=by
 intro t c
 have e:=Ff g null t g.ao.length (List.replicate g.ao.length 0)
 have a:=yr (F:=λis=>g.rules.foldl (j4 null t) is) (λis=>Ak null t g.rules is) g.ao.length (pt t (List.replicate g.ao.length 0)) (by simp[pt])
 rw[<-e] at a
 have h1:=Du a R b
 rw[F1] at c
 rw[<-qE]
 have h:=d.left R b
 have f:R.left.toNat < (pt t (cq g null)).length:=by simp[pt,Bz];omega
 change j4 null t (pt t (cq g null)) R=pt t (cq g null) at h1
 rw[<-h1]
 unfold j4
 rw[U5,WU f,c,Bool.or_true];rfl
theorem rN {t:Nat} (h:t<=31) (i:Nat):(gX (t:Int)).getLsbD i=true↔i=t:=by
 unfold gX
 rw[Va ⟨by omega,by omega⟩,Wj,VD]
 simp only[Vd,Vj]
 omega
theorem N3 {g:ae} (h:isRed g=true):∀ i:Nat,i < g.ao.length->(ak g true).getD i false=true:=by
 have hr:=gQ h
 unfold isRed at h
 simp only[Vd,V8,Vj] at h
 obtain⟨h1,b⟩:=h
 have hp:(ak g true).getD g.start.toNat false=true:=by
  refine Wv λc=>?_
  rw[gZ hr,U8 c] at h1
  simp at h1
 have a:=F7 hr hp
 have e:(dV g).1=iT g (bw (bL (ak g true) (bp g) g.rules)) (ak g true) (bp g):=by rw[gZ hr,Va hp]
 rw[<-e,<-b] at a
 intro i hi
 rw[a.len] at hi
 exact a.D0 hi
theorem LB {g:ae} (h:isRed g=true) {x:Int} (f:s9 g x):(ak g false).getD x.toNat false=true∨∃ t,((cq g (ak g false)).getD x.toNat 0).getLsbD t=true:=by
 have hr:=gQ h
 have c:=aK hr
 induction f with
 | mk R d _ i =>
  have key:∀ l:List Int,(∀ s∈l,s∈R.right)->cp l (ak g false) false=true∨∃ t,(dp (ak g false) (cq g (ak g false)) 0 l).getLsbD t=true:=by
   intro l
   induction l with
   | nil=>intro _;exact .inl rfl
   | cons s l j =>
    intro e
    rw[dp]
    by_cases b:0<=s
    .rw[Va b]
     have h1:=c.sym R d s (e s (by simp))
     have:=c.ai
     unfold gB at h1
     rw[Va b] at h1
     simp at h1
     obtain⟨t,rfl⟩:∃ t:Nat,s=t:=⟨s.toNat,by omega⟩
     exact .inr ⟨t,(rN (by omega) t).2 rfl⟩
    .rw[U8 b]
     rcases i s (e s (by simp)) (by omega) with h1 | ⟨t,a⟩
     .rw[Va h1]
      rcases j λx k=>e x (by simp[k]) with m | ⟨t,a⟩
      .left
       rw[cp,Wb,U8 b,h1];exact m
      .exact .inr ⟨t,by rw[VM,a,Bool.or_true]⟩
     .right
      split
      .exact⟨t,by rw[VM,a,Bool.true_or]⟩
      .exact⟨t,a⟩
  rcases key R.right (λ_ h=>h) with h1 | ⟨t,a⟩
  .exact .inl (ie hr d h1)
  .exact .inr ⟨t,sf c _ d t a⟩
theorem Bf {g:ae} (h:isRed g=true) {t0:Nat} (d:t0 < 32):∀ l:List Int,(∀ s∈l,gB g s=true)->∃ t,(dp (ak g false) (cq g (ak g false)) (BitVec.twoPow 32 t0) l).getLsbD t=true
 | [],_=>⟨t0,by rw[dp,Wj];simp[d]⟩
 | s :: l,e=>by
  have hr:=gQ h
  have f:=aK hr
  have h1:=e s (by simp)
  have:=f.ai
  rw[dp]
  unfold gB at h1
  by_cases b:0<=s
  .rw[Va b]
   rw[Va b] at h1
   simp at h1
   obtain⟨t,rfl⟩:∃ t:Nat,s=t:=⟨s.toNat,by omega⟩
   exact⟨t,(rN (by omega) t).2 rfl⟩
  .rw[U8 b]
   rw[U8 b] at h1
   simp at h1
   have i:=xz hr (-1 - s).toNat (N3 h _ (by omega))
   obtain⟨t2,c⟩:=Bf h d l λx j=>e x (by simp[j])
   split
   .exact⟨t2,by rw[VM,c,Bool.or_true]⟩
   .rename_i k
    rcases LB h i with a | ⟨t,a⟩
    .rw[VD] at a;exact absurd a k
    .rw[VD] at a;exact⟨t,a⟩
section
variable {g:ae} {a:List aR}
theorem fU {i:Nat} {x:aC} : x∈(aL g a).getD i []↔i < a.length/\x∈iA g a i:=by
 unfold aL
 rw[U5,U9]
 rcases Vw i a.length with h | h
 .rw[U6 h]
  simp[h,iA,U5,U6 h]
 .rw[Vx h]
  simp;omega
theorem ph {x:aC} {s:Int} (a:cD g x) (h:bo g x=(s,true)):∃ d:Nat,x.dot=d/\(aG g x.al).drop d=s :: cY g x/\(aG g x.al).drop (d+1)=cY g x:=by
 obtain⟨d,h1,b,f⟩:=zb a h
 have e:(aG g x.al).drop (d+1)=cY g x:=by
  unfold cY
  by_cases c:0<=x.al
  .rw[Va c,h1,aG,U8 (by omega)];rfl
  .rw[U8 c]
   have hr:x.al = -1:=by have:=a.1;omega
   rw[hr] at b ⊢
   simp only[aG,if_true] at b ⊢
   exact VA (by simp)
 exact⟨d,h1,by rw[f,e],e⟩
theorem pk {null:List Bool} {a:List BV} {s:Int} {l:List Int} {u:Nat} : (dp null a 0 (s :: l)).getLsbD u=true↔(0<=s/\(gX s).getLsbD u=true)∨(s < 0/\((a.getD (-1 - s).toNat 0).getLsbD u=true∨(null.getD (-1 - s).toNat false=true/\(dp null a 0 l).getLsbD u=true))):=by
 rw[dp]
 by_cases b:0<=s
 .rw[Va b]
  constructor
  .intro h;exact .inl ⟨b,h⟩
  .rintro (h | h)
   .exact h.2
   .omega
 .rw[U8 b]
  split
  .rename_i c
   rw[VM,VP]
   constructor
   .rintro (h | h)
    .exact .inr ⟨by omega,.inl h⟩
    .exact .inr ⟨by omega,.inr ⟨c,h⟩⟩
   .rintro (h | ⟨_,h | h⟩)
    .omega
    .exact .inl h
    .exact .inr h.2
  .rename_i c
   constructor
   .intro h;exact .inr ⟨by omega,.inl h⟩
   .rintro (h | ⟨_,h | h⟩)
    .omega
    .exact h
    .exact absurd h.1 c
def Fk (g:ae) (a:List aR) (q u:Nat):Prop:=(u < g.ai.length/\dT a q u)∨∃ C:Int,0<=C/\dT a q (-1 - C)/\(ak g false).getD C.toNat false=true/\sP g a q C u
theorem Fk.read {p u:Nat} {B:Int} (h:Fk g a (ep a p (-1 - B)) u):sP g a p B u:=by
 rcases h with ⟨h1,b⟩ | ⟨C,h1,b,c,d⟩
 .exact .term h1 b
 .exact .null h1 b c d
def sZ (g:ae) (a:List aR) (fs:List BV):Prop:=∀ (C:Int) (q u:Nat),0<=C->(fs.getD C.toNat 0).getLsbD u=true->dT a q (-1 - C)->Fk g a q u
theorem E3 (b:cJ g a) {c:List BV} (f:sZ g a c) {r:Int} {u:Nat} : ∀ (l:List Int) (d q:Nat),q < a.length->(⟨r,d⟩:aC)∈iA g a q->(aG g r).drop d=l->(dp (ak g false) c 0 l).getLsbD u=true->Fk g a q u
 | [],_,_,_,_,_,h=>by simp[dp] at h
 | s :: l,d,q,i,j,m,h=>by
  obtain⟨n1,n,w⟩:=kK m
  obtain⟨s1,s2,o,p⟩:=b.step i j n1
  rcases pk.1 h with ⟨v,h1⟩ | ⟨v,h1⟩
  .have k:=Df (Ar b.dQ (b.has i j) n1)
   have:=b.dQ.ai
   obtain⟨t,rfl⟩:∃ t:Nat,s=t:=⟨s.toNat,by omega⟩
   have:=(rN (by omega) u).1 h1
   subst this
   exact .inl ⟨by omega,s1⟩
  .have e : -1 - (-1 - s)=s:=by omega
   rcases h1 with h1 | ⟨h1,k⟩
   .exact f (-1 - s) q u (by omega) h1 (by rw[e];exact s1)
   .refine .inr ⟨-1 - s,by omega,by rw[e];exact s1,h1,Fk.read ?_⟩
    rw[e]
    exact E3 b f l (d+1) _ p (by simpa using o) n k
theorem rr (b:cJ g a) {q:Nat} (c:q < a.length) {C:Int} {k:Nat} (h:0<=C) (hk:k < g.rules.length) (i:(az g k).left=C) (he:dT a q (-1 - C)):(⟨k,0⟩:aC)∈iA g a q:=by
 obtain⟨x,d,e⟩:=(b.l7 c).1 he
 have f:g.rules[k]?=some (az g k):=by unfold az;exact getD_some hk
 exact(bY b.dQ (b.aX c)).2 (.step ((bY b.dQ (b.aX c)).1 d) e (by omega) f (by omega))
theorem Mg (b:cJ g a) {e:List BV} (c:sZ g a e) {k:Nat} (hk:k < g.rules.length):sZ g a (j0 (ak g false) e (az g k)):=by
 intro C q u d hu he
 have i:g.rules[k]?=some (az g k):=by unfold az;exact getD_some hk
 have j:=(b.dQ.left _ (Vc i)).1
 unfold j0 at hu
 rw[kc] at hu
 split at hu
 .rename_i l
  rw[VM,VP] at hu
  have f:(az g k).left=C:=by omega
  rcases hu with hu | hu
  .exact c C q u d (by rw[<-f];exact hu) he
  .have h:=gm he
   have hm:=rr b h d hk f he
   refine E3 b c _ 0 q h hm ?_ hu
   rw[Wm,aG,U8 (by omega)]
 .exact c C q u d hu he
theorem Dz (c:cJ g a):∀ (l:List aN) (b:List BV),(∀ R∈l,R∈g.rules)->sZ g a b->sZ g a (l.foldl (j0 (ak g false)) b)
 | [],_,_,h=>h
 | R :: l,b,d,h=>by
  obtain⟨k,hk,e⟩:=V4.1 (d R (by simp))
  have i:R=az g k:=by
   have f:g.rules[k]?=some (az g k):=by unfold az;exact getD_some hk
   rw[U6 hk,e] at f
   simpa using f
  rw[VC]
  refine Dz c l _ (λx j=>d x (by simp[j])) ?_
  rw[i]
  exact Mg c h hk
theorem Dy (c:cJ g a):∀ (n:Nat) (b:List BV),sZ g a b->sZ g a (iter (rX g (ak g false)) n b)
 | 0,_,h=>h
 | n+1,b,h=>by
  rw[iter]
  exact Dy c n _ (Dz c g.rules b (λ_ h=>h) h)
theorem Bv (b:cJ g a):sZ g a (cq g (ak g false)):=by
 refine Dy b _ _ λC q u c hu he=>?_
 simp only[U5,List.getElem?_replicate] at hu
 split at hu <;> simp at hu
theorem SN (b:cJ g a) {i:Nat} {x:aC} {t:Nat} (h:jg g (ak g false) a (aL g a) i x t) :
  (x.al < 0->t=g.ai.length)/\(0<=x.al->∃ p,mc a p ((aG g x.al).take x.dot.toNat) i/\dT a p (-1 - (az g x.al).left)/\tN g a p (az g x.al).left t):=by
 induction h with
 | start=>exact⟨λ_=>rfl,λh=>by simp at h⟩
 | @move i x t s w c hm l =>
  obtain⟨hi,f⟩:=fU.1 w.mem
  have hH:=b.has hi f
  refine⟨l.1,λm=>?_⟩
  obtain⟨p,j,r,v⟩:=l.2 m
  obtain⟨d,d1,d2,d3⟩:=ph hH c
  refine⟨p,?_,r,v⟩
  have O:=((b.l7 hi).2 ⟨x,f,c⟩)
  have:=j.snoc O
  rw[d1] at this ⊢
  rw[show ((d:Int)+1).toNat=d+1 by omega,Vs]
  have P:(aG g x.al)[d]?=some s:=by
   have:=VT (·[0]?) d2
   simpa using this
  rw[P]
  exact this
 | @begin i x t u s k w c I hk J hm hu l =>
  obtain⟨hi,f⟩:=fU.1 w.mem
  have hH:=b.has hi f
  refine⟨λh=>by simp only at h;omega,λ_=>?_⟩
  obtain⟨d,d1,d2,d3⟩:=ph hH c
  obtain⟨s1,s2,K,Q⟩:=b.step hi f c
  have e : -1 - (-1 - s)=s:=by omega
  refine⟨i,by simpa using mc.nil,by simp only;rw[J,e];exact s1,?_⟩
  simp only
  rw[J]
  rcases (qx _ _ _ _ _).1 hu with h1 | ⟨h1,L⟩
  .refine .read (Fk.read ?_)
   rw[e]
   refine E3 b (Bv b) (cY g x) (d+1) _ Q (by rw[d1] at K;simpa using K) d3 h1
  .have z:u=t:=by
    rw[Wj] at L
    simp at L;omega
   subst z
   by_cases m:0<=x.al
   .obtain⟨p,j,r,v⟩:=l.2 m
    obtain⟨n,A⟩:∃ n:Nat,x.al=n:=⟨x.al.toNat,by omega⟩
    have B:n < g.rules.length:=by have:=hH.1;omega
    rw[A] at j r v d2 d3
    have C:aG g (n:Int)=(az g n).right:=by rw[aG,U8 (by omega)]
    rw[C] at j d2 d3
    rw[d1] at j
    refine .Lv v B r (by omega) (d:=d) ?_ (by simpa using j) (by rw[d3];exact h1)
    have:=VT (·[0]?) d2
    rw[e]
    simpa using this
   .have R:=l.1 (by omega)
    have hr:x.al = -1:=by have:=hH.1;omega
    have D:=((bY b.dQ (b.aX hi)).1 f).aX (.inr (by omega))
    have E:i=0:=Nat.eq_zero_of_not_pos λm=>by
     obtain⟨p,y,X,_,S,T,U,M,Y,Z⟩:=b.prev hi D m
     have o:=VT aC.al M
     have F:=VT aC.dot M
     simp only at o F
     obtain⟨d',e1,N,e3⟩:=zb (b.has S T) U
     obtain⟨G,V,q,W⟩:=zb hH c
     rw[<-o,hr] at N
     rw[hr] at q
     simp only[aG,if_true,List.length_singleton] at N q
     omega
    have H:d=0:=by
     obtain⟨G,V,q,W⟩:=zb hH c
     rw[hr] at q
     simp only[aG,if_true,List.length_singleton] at q
     omega
    subst H
    rw[hr] at d2
    simp only[aG,if_true,Wm,List.cons.injEq] at d2
    rw[E,R,show -1 - s=g.start by omega]
    exact .read .fin
theorem Ny (f:cJ g a) {q:Nat} (m:q < a.length) {u:Nat} {z:aC} (n:z∈iA g a q):∀ d:Nat,z.dot=d->(dp (ak g false) (cq g (ak g false)) 0 ((aG g z.al).drop d)).getLsbD u=true ->
  ∃ (y:aC) (e:Nat),y∈(a.getD q bf).aX/\y.dot=e/\(dp (ak g false) (cq g (ak g false)) 0 ((aG g y.al).drop e)).getLsbD u=true:=by
 have i:=(bY f.dQ (f.aX m)).1 n
 clear n
 induction i with
 | base h=>exact λd h1 b=>⟨_,d,h,h1,b⟩
 | @step x s k R o p c j r t =>
  intro d h1 b
  have v:d=0:=by simp only at h1;omega
  subst v
  obtain⟨w,A,B,C⟩:=ph (o.has (f.aX m)) p
  refine t w A ?_
  rw[B]
  refine pk.2 (.inr ⟨c,.inl ?_⟩)
  have hk:k < g.rules.length:=(Vf.1 j).1
  have l:az g k=R:=by unfold az;rw[U5,VD,j];rfl
  rw[<-r]
  refine sf f.dQ _ (Vc j) u ?_
  rw[Wm,aG,U8 (by simp only;omega)] at b
  simp only at b
  rw[l] at b
  exact b
theorem D5 (b:cJ g a) {p:Nat} {s:Int} {u:Nat} (he:dT a p s) (h:∃ y∈iA g a (ep a p s),∃ d:Nat,y.dot=d/\(dp (ak g false) (cq g (ak g false)) 0 ((aG g y.al).drop d)).getLsbD u=true) :
  ∃ x∈iA g a p,bo g x=(s,true)/\(dp (ak g false) (cq g (ak g false)) 0 (cY g x)).getLsbD u=true:=by
 obtain⟨y,j,d,h1,k⟩:=h
 obtain⟨_,_,_,_,l,_⟩:=b.ep he
 obtain⟨z,e,c,z2,z3⟩:=Ny b l j d h1 k
 rw[b.P4 he] at c
 obtain⟨x,f,i,rfl⟩:=iK.1 c
 refine⟨x,f,i,?_⟩
 obtain⟨m,o,q,n⟩:=ph (b.has (gm he) f) i
 simp only at z2 z3
 rw[<-n,show m+1=e by omega]
 exact z3
theorem Cs (b:cJ g a) {p u:Nat} {B:Int} (h:sP g a p B u):dT a p (-1 - B)->(p=0/\B=g.start/\u=g.ai.length)∨∃ x∈iA g a p,bo g x=(-1 - B,true)/\(dp (ak g false) (cq g (ak g false)) 0 (cY g x)).getLsbD u=true:=by
 induction h with
 | fin=>exact λ_=>.inl ⟨rfl,rfl,rfl⟩
 | @term p B t r he =>
  intro c
  right
  refine D5 b c ?_
  have j:=gm he
  obtain⟨y,k,e⟩:=(b.l7 j).1 he
  obtain⟨d,f,i,m⟩:=ph (b.has j k) e
  refine⟨y,k,d,f,?_⟩
  have:=b.dQ.ai
  rw[i]
  exact pk.2 (.inl ⟨by omega,(rN (by omega) _).2 rfl⟩)
 | @null p B C t s he e hr n =>
  intro c
  rcases n he with ⟨h1,_,_⟩ | ⟨y,l,o,q⟩
  .exact absurd h1 (b.UB c)
  .right
   refine D5 b c ?_
   obtain⟨d,f,i,m⟩:=ph (b.has (gm he) l) o
   refine⟨y,l,d,f,?_⟩
   rw[i]
   refine pk.2 (.inr ⟨by omega,.inr ⟨?_,q⟩⟩)
   rw[show -1 - (-1 - C)=C by omega];exact e
theorem LP (b:cJ g a) (hr:isRed g=true):∀ (n i:Nat),i < n->i < a.length->∀ x∈iA g a i,∃ t,t < 32/\jg g (ak g false) a (aL g a) i x t
 | 0,_,h,_,_,_=>by omega
 | n+1,i,_,hi,x,d=>by
  have l:=(bY b.dQ (b.aX hi)).1 d
  clear d
  induction l with
  | @base x h =>
   by_cases w:0 < i
   .obtain⟨p,y,s,K,z,A,B,D,L,E⟩:=b.prev hi h w
    obtain⟨t,m,o⟩:=LP b hr n p (by omega) z y A
    refine⟨t,m,?_⟩
    obtain⟨s1,s2,F,G⟩:=b.step z A B
    have hm:(⟨y.al,y.dot+1⟩:aC)∈(aL g a).getD (dt a p [s]).1.toNat []:=fU.2 ⟨G,F⟩
    have:=jg.move o B hm
    rw[D,<-E]
    exact this
   .have q:i=0:=by omega
    subst q
    rw[b.e.first] at h
    simp at h;subst h
    have:=b.dQ.ai
    exact⟨g.ai.length,by omega,.start (fU.2 ⟨hi,(bY b.dQ (b.aX hi)).2 (.base (by rw[b.e.first];simp))⟩)⟩
  | @step x s k R d C c r H I =>
   obtain⟨t,m,o⟩:=I
   have hH:=d.has (b.aX hi)
   have hk:k < g.rules.length:=(Vf.1 r).1
   have v:az g k=R:=by unfold az;rw[U5,VD,r];rfl
   obtain⟨u,hu⟩:=Bf hr m (cY g x) (λs j=>by
    unfold cY at j
    split at j
    .rename_i w
     have J:g.rules[x.al.toNat]?=some (az g x.al):=by
      have:=hH.1
      unfold az;exact getD_some (by omega)
     exact b.dQ.sym _ (Vc J) s (List.mem_of_mem_drop j)
    .simp at j)
   have f:u < 32:=Nat.lt_of_not_le λh=>by rw[BitVec.getLsbD_of_ge _ _ h] at hu;simp at hu
   exact⟨u,f,.begin o C c hk (by rw[v];omega) (fU.2 ⟨hi,(bY b.dQ (b.aX hi)).2 (.step d C c r H)⟩) hu⟩
theorem Fh (b:cJ g a) {k:Nat} {t:Nat} : ∀ (X:List Int) (d p i:Nat),mc a p X i->jg g (ak g false) a (aL g a) p ⟨k,d⟩ t->(∃ l,(aG g k).drop d=X ++ l)->jg g (ak g false) a (aL g a) i ⟨k,((d+X.length:Nat):Int)⟩ t
 | [],d,p,i,hw,h,_=>by cases hw;simpa using h
 | s :: X,d,p,i,hw,h,⟨l,c⟩=>by
  cases hw with
  | cons h1 e =>
   obtain⟨n1,f,r⟩:=kK c
   obtain⟨hp,j⟩:=fU.1 h.mem
   obtain⟨s1,s2,m,n⟩:=b.step hp j n1
   have hm:(⟨(⟨k,d⟩:aC).al,(⟨k,d⟩:aC).dot+1⟩:aC)∈(aL g a).getD (dt a p [s]).1.toNat []:=fU.2 ⟨n,m⟩
   have o:=jg.move h n1 hm
   have q:=Fh b X (d+1) _ i e (by rw[show (((d+1:Nat):Int))=(d:Int)+1 by omega];exact o) ⟨l,f⟩
   rw[show d+(s :: X).length=d+1+X.length by simp;omega]
   exact q
theorem SS (b:cJ g a) (hr:isRed g=true) {p t:Nat} {B:Int} (h:tN g a p B t):0<=B->dT a p (-1 - B)->∀ k:Nat,k < g.rules.length->(az g k).left=B->jg g (ak g false) a (aL g a) p ⟨k,0⟩ t:=by
 induction h with
 | @read p B t h =>
  intro q he k hk r
  have hp:=gm he
  have hm:=fU.2 ⟨hp,rr b hp q hk r he⟩
  rcases Cs b h he with ⟨rfl,rfl,rfl⟩ | ⟨x,A,C,D⟩
  .have E:(⟨-1,0⟩:aC)∈iA g a 0:=(bY b.dQ (b.aX hp)).2 (.base (by rw[b.e.first];simp))
   refine .begin (.start (fU.2 ⟨hp,E⟩)) (s:=-1 - g.start) ?_ (by omega) hk (by omega) hm ?_
   .unfold bo;rw[U8 (by simp[aG])];simp[aG]
   .have:=b.dQ.ai
    rw[cY,U8 (by simp),dp,Wj]
    simp;omega
  .obtain⟨t0,z,F⟩:=LP b hr (p+1) p (by omega) hp x A
   refine .begin F C (by omega) hk (by omega) hm ((qx _ _ _ _ _).2 (.inl D))
 | @Lv p G c d B t J j u H v hw f w =>
  intro q he k hk r
  have I:g.rules[c]?=some (az g c):=by unfold az;exact getD_some j
  have h1:=w (b.dQ.left _ (Vc I)).1 u c j rfl
  have m:aG g (c:Int)=(az g c).right:=by rw[aG,U8 (by omega)]
  have n:=(Vf.1 v).1
  have o:=Fh b _ 0 G p hw (by simpa using h1) ⟨(az g c).right.drop d,by rw[m,Wm,List.take_append_drop]⟩
  rw[VS,V2,W8 (by omega)] at o
  have hp:=gm he
  have y:bo g ⟨c,d⟩=(-1 - B,true):=(kK (l:=(az g c).right.drop (d+1)) (by
   rw[m,VL n]
   congr 1
   rw[U6 n] at v
   simpa using v)).1
  refine .begin o y (by omega) hk (by omega) (fU.2 ⟨hp,rr b hp q hk r he⟩) ((qx _ _ _ _ _).2 (.inr ⟨?_,?_⟩))
  .rw[cY,Va (by simp only;omega)]
   simpa using f
  .obtain⟨i3,_⟩:=fU.1 o.mem
   have z:t < 32:=by
    have key:∀ {i:Nat} {x:aC} {t:Nat},jg g (ak g false) a (aL g a) i x t->t < 32:=by
     intro i x t h
     have:=b.dQ.ai
     induction h with
     | start=>omega
     | move _ _ _ w=>exact w
     | begin _ _ _ _ _ _ hu _=>exact Nat.lt_of_not_le λh=>by rw[BitVec.getLsbD_of_ge _ _ h] at hu;simp at hu
    exact key o
   rw[Wj]
   simp[z]
theorem M7 (d:cJ g a) (hr:isRed g=true) {i k t:Nat} (hk:k < g.rules.length):jg g (ak g false) a (aL g a) i ⟨k,((az g k).right.length:Nat)⟩ t↔∃ p,mc a p (az g k).right i/\dT a p (-1 - (az g k).left)/\tN g a p (az g k).left t:=by
 have l:g.rules[k]?=some (az g k):=by unfold az;exact getD_some hk
 have b:aG g (k:Int)=(az g k).right:=by rw[aG,U8 (by omega)]
 constructor
 .intro h
  obtain⟨p,c,e,f⟩:=(SN d h).2 (by simp only;omega)
  simp only at c e f
  rw[b,VD,WJ] at c
  exact⟨p,c,e,f⟩
 .rintro⟨p,c,e,f⟩
  have h1:=SS d hr f (d.dQ.left _ (Vc l)).1 e k hk rfl
  have j:=Fh d _ 0 p i c (by simpa using h1) ⟨[],by rw[b];simp⟩
  rw[V2] at j
  exact j
end
def nX (null:List Bool) (first:List BV) (R:aN) (out:List BV) (k:Nat):List BV :=
 if R.right.getD k 0 < 0 then out.set (-1 - R.right.getD k 0).toNat (out.getD (-1 - R.right.getD k 0).toNat 0 ||| dp null first (out.getD R.left.toNat 0) (R.right.drop (k+1))) else out
def vo (null:List Bool) (first:List BV) (out:List BV) (R:aN):List BV:=(List.range R.right.length).foldl (nX null first R) out
def zf (g:ae) (null:List Bool) (first:List BV) (out:List BV):List BV:=g.rules.foldl (vo null first) out
def po (g:ae):List BV:=(List.replicate g.ao.length 0).set g.start.toNat (gX g.ai.length)
def jB (g:ae) (null:List Bool):List BV:=iter (zf g null (cq g null)) g.ao.length (po g)
theorem Lc (null:List Bool) (first:List BV) (R:aN) (out:List BV) (k:Nat):(nX null first R out k).length=out.length:=by
 unfold nX;split <;> simp
theorem B7 (null:List Bool) (first:List BV) (R:aN):∀ (l:List Nat) (out:List BV),(l.foldl (nX null first R) out).length=out.length
 | [],_=>rfl
 | k :: l,out=>by rw[VC,B7 null first R l,Lc]
theorem zH (null:List Bool) (first:List BV):∀ (l:List aN) (out:List BV),(l.foldl (vo null first) out).length=out.length
 | [],_=>rfl
 | R :: l,out=>by rw[VC,zH null first l,vo,B7]
theorem Ik (g:ae) (null:List Bool):(jB g null).length=g.ao.length:=by
 rw[jB,xx (f:=zf g null (cq g null)) λl=>zH _ _ g.rules l];simp[po]
theorem su {α:Type} {F:List Bool->α->List Bool} (a:∀ is x,fg is (F is x)):∀ (l:List α) (is:List Bool),fg is (l.foldl F is)
 | [],is=>.refl _
 | x :: l,is=>(a is x).trans (su a l _)
theorem yc {α:Type} {F:List Bool->α->List Bool} (a:∀ is x,fg is (F is x)):∀ {l:List α} {is:List Bool},l.foldl F is=is->∀ x∈l,F is x=is
 | [],_,_,_,h=>by simp at h
 | y :: l,is,h,x,b=>by
  rw[VC] at h
  have h1:=su a l (F is y)
  rw[h] at h1
  have c:=h1.qN (a is y)
  rcases Vq.1 b with rfl | b
  .exact c
  .rw[c] at h;exact yc a h x b
def p7 (null:List Bool) (first:List BV) (t:Nat) (R:aN) (is:List Bool) (k:Nat):List Bool :=
 if R.right.getD k 0 < 0 then is.set (-1 - R.right.getD k 0).toNat (is.getD (-1 - R.right.getD k 0).toNat false || ((dp null first 0 (R.right.drop (k+1))).getLsbD t || (cp (R.right.drop (k+1)) null false && is.getD R.left.toNat false))) else is
theorem OB (null:List Bool) (first:List BV) (t:Nat) (R:aN) (out:List BV) (k:Nat):pt t (nX null first R out k)=p7 null first t R (pt t out) k:=by
 unfold nX p7
 have e:∀ b:BV,(dp null first b (R.right.drop (k+1))).getLsbD t=((dp null first 0 (R.right.drop (k+1))).getLsbD t || (cp (R.right.drop (k+1)) null false && b.getLsbD t)):=λb=>by
  rw[V1,qx];simp
 split
 .rw[qE,qE,<-e,<-VM]
  simp[pt,List.map_set]
 .rfl
theorem Ei (null:List Bool) (first:List BV) (t:Nat) (R:aN):∀ (l:List Nat) (out:List BV),pt t (l.foldl (nX null first R) out)=l.foldl (p7 null first t R) (pt t out)
 | [],_=>rfl
 | k :: l,out=>by rw[VC,Ei null first t R l,OB];rfl
def FH (null:List Bool) (first:List BV) (t:Nat) (is:List Bool) (R:aN):List Bool:=(List.range R.right.length).foldl (p7 null first t R) is
theorem Bg (null:List Bool) (first:List BV) (t:Nat):∀ (l:List aN) (out:List BV),pt t (l.foldl (vo null first) out)=l.foldl (FH null first t) (pt t out)
 | [],_=>rfl
 | R :: l,out=>by rw[VC,Bg null first t l,vo,Ei];rfl
theorem Eb (g:ae) (null:List Bool) (first:List BV) (t:Nat):∀ (n:Nat) (out:List BV),pt t (iter (zf g null first) n out)=iter (λis=>g.rules.foldl (FH null first t) is) n (pt t out)
 | 0,_=>rfl
 | n+1,out=>by rw[iter,iter,Eb g null first t n];exact VT _ (Bg null first t g.rules out)
theorem yF (null:List Bool) (first:List BV) (t:Nat) (R:aN) (is:List Bool) (k:Nat):fg is (p7 null first t R is k):=by
 unfold p7
 split
 .refine⟨by simp,λi hi=>?_⟩
  simp only[U5,Wk] at hi ⊢
  split
  .rename_i e
   subst e
   split
   .simp[hi]
   .rename_i h;rw[Vx (by omega)] at hi;simp at hi
  .exact hi
 .exact .refl _
theorem wN {g:ae} (i:g.de) (null:List Bool) {R:aN} (c:R∈g.rules) {k:Nat} {s:Int} (hk:R.right[k]?=some s) (d:s < 0) {t:Nat}
  (h:(dp null (cq g null) 0 (R.right.drop (k+1))).getLsbD t=true∨(cp (R.right.drop (k+1)) null false=true/\((jB g null).getD R.left.toNat 0).getLsbD t=true)):((jB g null).getD (-1 - s).toNat 0).getLsbD t=true:=by
 have e:=Eb g null (cq g null) t g.ao.length (po g)
 have a:=yr (F:=λis=>g.rules.foldl (FH null (cq g null) t) is) (λis=>su (λis R=>su (λis k=>yF _ _ _ _ _ _) _ _) g.rules is) g.ao.length (pt t (po g)) (by simp[pt,po])
 rw[<-e] at a
 have h1:=yc (λis R=>su (λis k=>yF null (cq g null) t R _ _) _ _) a R c
 have b:=(Vf.1 hk).1
 have f:=yc (λis k=>yF null (cq g null) t R _ _) h1 k (Wa.2 b)
 have j:R.right.getD k 0=s:=by rw[U5,hk];rfl
 change p7 null (cq g null) t R (pt t (jB g null)) k=pt t (jB g null) at f
 have l:=i.neg c (Vc hk) d
 rw[<-qE,<-f]
 unfold p7
 rw[j,Va d,U5,WU (by simp[pt,Ik];omega)]
 simp only[Vo,VP,Vd]
 rw[qE t _ R.left.toNat]
 exact .inr h
theorem Ig {out:List BV} {a i t:Nat} {x:BV} (h:(out.getD i 0).getLsbD t=true):((out.set a (out.getD a 0 ||| x)).getD i 0).getLsbD t=true:=by
 rw[kc]
 split
 .rename_i e
  rw[VM,e.1,h];rfl
 .exact h
theorem FK {g:ae} (b:g.de) (null:List Bool):((jB g null).getD g.start.toNat 0).getLsbD g.ai.length=true:=by
 have c:((po g).getD g.start.toNat 0).getLsbD g.ai.length=true:=by
  unfold po
  have:=b.start;have:=b.ic
  rw[kc,Va ⟨rfl,by simp;omega⟩]
  have:=b.ai
  exact(rN (by omega) _).2 rfl
 have d:∀ (R:aN) (l:List Nat) (out:List BV),(out.getD g.start.toNat 0).getLsbD g.ai.length=true->((l.foldl (nX null (cq g null) R) out).getD g.start.toNat 0).getLsbD g.ai.length=true:=λR l=>by
  induction l with
  | nil=>exact λ_ h=>h
  | cons k l a =>
   intro out h
   rw[VC]
   refine a _ ?_
   unfold nX
   split
   .exact Ig h
   .exact h
 have e:∀ (l:List aN) (out:List BV),(out.getD g.start.toNat 0).getLsbD g.ai.length=true->((l.foldl (vo null (cq g null)) out).getD g.start.toNat 0).getLsbD g.ai.length=true:=λl=>by
  induction l with
  | nil=>exact λ_ h=>h
  | cons R l a=>exact λout h=>a _ (d R _ out h)
 have f:∀ (n:Nat) (out:List BV),(out.getD g.start.toNat 0).getLsbD g.ai.length=true->((iter (zf g null (cq g null)) n out).getD g.start.toNat 0).getLsbD g.ai.length=true:=λn=>by
  induction n with
  | zero=>exact λ_ h=>h
  | succ n a=>exact λout h=>a _ (e g.rules out h)
 exact f _ _ c
theorem MW {g:ae} (h:isRed g=true):∀ i:Nat,i < g.ao.length->nN g (ak g true) i:=by
 have hr:=gQ h
 unfold isRed at h
 simp only[Vd,V8,Vj] at h
 obtain⟨h1,b⟩:=h
 have hp:(ak g true).getD g.start.toNat false=true:=by
  refine Wv λc=>?_
  rw[gZ hr,U8 c] at h1
  simp at h1
 have a:=F7 hr hp
 have e:(dV g).1=iT g (bw (bL (ak g true) (bp g) g.rules)) (ak g true) (bp g):=by rw[gZ hr,Va hp]
 rw[<-e,<-b] at a
 intro i hi
 rw[a.len] at hi
 exact xV hr i (a.Mo hi)
section
variable {g:ae} {a:List aR}
theorem P1 (b:cJ g a) (hr:isRed g=true) {x:Int} (h:nN g (ak g true) x):∃ p,dT a p (-1 - x):=by
 have hp:=b.pos
 induction h with
 | start =>
  refine⟨0,(b.l7 (by omega)).2 ⟨⟨-1,0⟩,(bY b.dQ (b.aX (by omega))).2 (.base (by rw[b.e.first];simp)),?_⟩⟩
  unfold bo;rw[U8 (by simp[aG])];simp[aG]
 | next R s m _ _ o y r =>
  obtain⟨p,n⟩:=r
  obtain⟨k,hk,e⟩:=V4.1 m
  have c:az g k=R:=by unfold az;rw[U5,VD,U6 hk,e];rfl
  obtain⟨d,t,u⟩:=V4.1 o
  have f:=gm n
  have i:aG g (k:Int)=R.right:=by rw[aG,U8 (by omega),c]
  have hm:=rr b f (b.dQ.left _ m).1 hk (by rw[c]) n
  obtain⟨q,v,z,w⟩:=b.fwd k (R.right.take d) 0 p f hm ⟨R.right.drop d,by rw[i];simp⟩
  have j:bo g ⟨k,((0+(R.right.take d).length:Nat):Int)⟩=(s,true):=(kK (l:=R.right.drop (d+1)) (by
   rw[i,V2,VS,W8 (by omega),VL t,u])).1
  refine⟨q,?_⟩
  rw[show -1 - (-1 - s)=s by omega]
  exact(b.l7 v).2 ⟨_,w,j⟩
theorem KD (c:cJ g a) {p t:Nat} {B:Int} (h:tN g a p B t):0<=B->dT a p (-1 - B)->((jB g (ak g false)).getD B.toNat 0).getLsbD t=true:=by
 induction h with
 | @read p B t h =>
  intro l he
  rcases Cs c h he with ⟨_,rfl,rfl⟩ | ⟨x,m,n,f⟩
  .exact FK c.dQ _
  .by_cases o:0<=x.al
   .have hH:=c.has (gm he) m
    obtain⟨d,d1,d2,d3⟩:=ph hH n
    rw[aG,U8 (by omega)] at d2 d3
    have hk:x.al.toNat < g.rules.length:=by have:=hH.1;omega
    have e:g.rules[x.al.toNat]?=some (az g x.al):=by unfold az;exact getD_some hk
    have i:(az g x.al).right[d]?=some (-1 - B):=by
     have:=VT (·[0]?) d2
     simpa using this
    have:=wN c.dQ (ak g false) (Vc e) i (by omega) (t:=t) (.inl (by rw[d3];exact f))
    rw[show -1 - (-1 - B)=B by omega] at this
    exact this
   .rw[cY,U8 o] at f
    simp[dp] at f
 | @Lv p s k d B t u hk j q i hw b r =>
  intro l he
  have e:g.rules[k]?=some (az g k):=by unfold az;exact getD_some hk
  have h1:=r (c.dQ.left _ (Vc e)).1 j
  have:=wN c.dQ (ak g false) (Vc e) i (by omega) (t:=t) (.inr ⟨b,h1⟩)
  rw[show -1 - (-1 - B)=B by omega] at this
  exact this
end
def Sv (c:Option Cell) (d:Cell):Cell:=match c with
 | some c=>c
 | none=>d
theorem Es (s:Int):∀ l:List eV,fc l s=(Sv (gq l s) ⟨1,-1⟩).n
 | []=>rfl
 | e :: l=>by
  rw[fc,gq]
  split
  .rfl
  .exact Es s l
section
variable {g:ae} {a:List aR}
end
section
variable {g:ae} {a:List aR}
theorem Nj (k:Nat):bo g ⟨k,((az g k).right.length:Nat)⟩=(0,false):=by
 have a:aG g (k:Int)=(az g k).right:=by rw[aG,U8 (by omega)]
 unfold bo;simp only[a,if_true]
theorem RS {x:aC} (d:cD g x) (a:(bo g x).2=false) (e:0<=x.al):∃ k:Nat,k < g.rules.length/\x=⟨k,((az g k).right.length:Nat)⟩:=by
 obtain⟨k,hk⟩:∃ k:Nat,x.al=k:=⟨x.al.toNat,by omega⟩
 have b:k < g.rules.length:=by have:=d.1;omega
 refine⟨k,b,?_⟩
 have c:aG g (k:Int)=(az g k).right:=by rw[aG,U8 (by omega)]
 unfold bo at a
 rw[hk,c] at a
 split at a
 .rename_i h
  cases x
  simp only at hk h
  rw[hk,h]
 .simp at a
theorem vR (e:cJ g a) {i:Nat} (hi:i < a.length) {x:cH} : x∈ez g a i↔∃ k:Nat,k < g.rules.length/\(⟨k,((az g k).right.length:Nat)⟩:aC)∈iA g a i/\x=⟨k,pn g a i ⟨k,((az g k).right.length:Nat)⟩⟩:=by
 have c:(aL g a).getD i []=iA g a i:=by
  unfold aL iA
  simp[U5,U6 hi]
 rw[ez,c,Wz]
 constructor
 .rintro⟨y,b,h⟩
  split at h
  .rename_i d
   obtain⟨k,hk,rfl⟩:=RS (e.has hi b) d.1 d.2
   exact⟨k,hk,b,by simpa using h.symm⟩
  .simp at h
 .rintro⟨k,hk,b,rfl⟩
  exact⟨_,b,by rw[Va ⟨by rw[Nj],by simp only;omega⟩]⟩
theorem CL {i k t:Nat} (b:t < 32):(pn g a i ⟨k,((az g k).right.length:Nat)⟩).getLsbD t=true↔jg g (ak g false) a (aL g a) i ⟨k,((az g k).right.length:Nat)⟩ t:=by
 rw[pn,Az _ 32 t (Vh _)]
 simp[b]
theorem OD (i:Nat):(ez g a i).Pairwise λx y=>x.al < y.al:=by
 have k:cA ((aL g a).getD i []):=by
  unfold aL
  rw[U5,U9]
  cases a[i]? with
  | none=>simp[cA]
  | some s=>exact kT g _
 rw[ez,List.pairwise_filterMap]
 refine k.imp λ{x y} d b f n c=>?_
 split at f
 .rename_i h1
  split at c
  .rename_i l
   simp only[U7] at f c
   rw[<-f,<-c]
   simp only
   rw[iE] at d
   rcases d with h | ⟨h,o⟩
   .exact h
   .exfalso
    have e:∀ z:aC,(bo g z).2=false->z.dot=(aG g z.al).length:=λz j=>by
     unfold bo at j
     split at j
     .assumption
     .simp at j
    have m:=e x h1.1
    have p:=e y l.1
    rw[h] at m
    omega
  .simp at c
 .simp at f
theorem NP (b:cJ g a) (hr:isRed g=true) {i:Nat} (hi:i < a.length) {x:cH} (d:x∈ez g a i) :
  (0<=x.al/\x.al < g.rules.length)/\x.set≠0/\nW x.set ((jB g (ak g false)).getD (az g x.al).left.toNat 0):=by
 obtain⟨k,hk,hm,rfl⟩:=(vR b hi).1 d
 have f:g.rules[k]?=some (az g k):=by unfold az;exact getD_some hk
 refine⟨by simp only;omega,λe=>?_,λt c=>?_⟩
 .obtain⟨t,c,h⟩:=LP b hr (i+1) i (by omega) hi _ hm
  have:=(CL c).2 h
  simp only at e
  rw[e] at this
  simp at this
 .have j:t < 32:=BitVec.lt_of_getLsbD c
  obtain⟨p,n,l,m⟩:=(M7 b hr hk).1 ((CL j).1 c)
  exact KD b m (b.dQ.left _ (Vc f)).1 l
theorem OZ (b:cJ g a) (hr:isRed g=true) {k:Nat} (hk:k < g.rules.length):∃ p,dT a p (-1 - (az g k).left):=by
 have c:g.rules[k]?=some (az g k):=by unfold az;exact getD_some hk
 have d:=b.dQ.left _ (Vc c)
 have:=P1 b hr (MW hr (az g k).left.toNat (by omega))
 rwa [show (((az g k).left.toNat:Nat):Int)=(az g k).left by omega] at this
theorem SU (b:cJ g a) {p k:Nat} (hk:k < g.rules.length) (c:dT a p (-1 - (az g k).left)):∃ q,q < a.length/\mc a p (az g k).right q/\(⟨k,((az g k).right.length:Nat)⟩:aC)∈iA g a q:=by
 have f:g.rules[k]?=some (az g k):=by unfold az;exact getD_some hk
 have d:aG g (k:Int)=(az g k).right:=by rw[aG,U8 (by omega)]
 have hm:=rr b (gm c) (b.dQ.left _ (Vc f)).1 hk rfl c
 obtain⟨q,h,i,e⟩:=b.fwd k (az g k).right 0 p (gm c) hm ⟨[],by rw[d];simp⟩
 rw[V2] at e
 exact⟨q,h,i,e⟩
theorem Qv (b:cJ g a) (hr:isRed g=true) {k:Nat} (hk:k < g.rules.length):∃ i,i < a.length/\∃ x∈ez g a i,x.al=k:=by
 obtain⟨p,d⟩:=OZ b hr hk
 obtain⟨q,c,_,e⟩:=SU b hk d
 exact⟨q,c,_,(vR b c).2 ⟨k,hk,e,rfl⟩,rfl⟩
end
theorem C2 {g:ae} (h:(bF g).2=0):isRed g=true/\cJ g (bF g).1/\(bF g).1.length<=300:=by
 have hr:isRed g=true:=by
  rcases Ot g with ⟨_,hr⟩ | ⟨b,hr⟩ | ⟨b,hr⟩
  .exact hr
  .exact hr
  .rw[b] at h;simp at h
 have a:=vJ hr
 obtain⟨c,d,e⟩:=Gg a h
 exact⟨hr,⟨a,c,K7 a h,LQ a h,d⟩,e⟩
structure Q7 (g:ae) (L:List (List cH)):Prop where
 len:L.length<=300
 row:∀ i:Nat,((L.getD i []).length<=287)
 fact:∀ (i:Nat),∀ x∈L.getD i [],(0<=x.al/\x.al < g.rules.length)/\x.set≠0/\nW x.set ((jB g (ak g false)).getD (az g x.al).left.toNat 0)
 sort:∀ i:Nat,(L.getD i []).Pairwise λx y=>x.al < y.al
 all:∀ k:Nat,k < g.rules.length->∃ i,i < L.length/\∃ x∈L.getD i [],x.al=k
theorem Rk {g:ae} (h:(bF g).2=0):Q7 g (dZ g (bF g).1):=by
 obtain⟨hr,b,d⟩:=C2 h
 have c:∀ i:Nat,(dZ g (bF g).1).getD i []=if i < (bF g).1.length then ez g (bF g).1 i else []:=λi=>by
  rw[dZ,U5,U9]
  split
  .rename_i hi;rw[WS hi];rfl
  .rename_i hi;rw[Vx (by simp;omega)];rfl
 refine⟨by simpa [dZ] using d,λi=>?_,λi x a=>?_,λi=>?_,λk hk=>?_⟩
 .rw[c]
  split
  .rename_i hi
   unfold ez
   refine VU (List.length_filterMap_le _ _) ?_
   rw[show (aL g (bF g).1).getD i []=iA g (bF g).1 i by unfold aL iA;simp[U5,U6 hi]]
   exact gT b.dQ (kT _ _) λy f=>b.has hi f
  .simp
 .rw[c] at a
  split at a
  .rename_i hi;exact NP b hr hi a
  .simp at a
 .rw[c]
  split
  .exact OD i
  .exact .nil
 .obtain⟨i,hi,x,a,e⟩:=Qv b hr hk
  exact⟨i,by simpa [dZ] using hi,x,by rw[c,Va hi];exact a,e⟩
section
variable {g:ae} {a:List aR} {L:List (List cH)}
theorem DW (b:kY g a) {i:Nat} (hi:i < a.length) (s:Int):dt a i [s]=match gq (a.getD i bf).bI s with | some c=>(c.n,true) | none=>(0,false):=by
 have d:dt a i [s]=fp a i [s]:=by unfold dt;rw[U8 (by omega)]
 have f:fp a i [s]=if 0<=fc (a.getD i bf).bI s/\fc (a.getD i bf).bI s < a.length then (fc (a.getD i bf).bI s,true) else (0,false):=by
  rw[fp,VD];simp only[fp]
 rw[d,f,Es]
 cases h:gq (a.getD i bf).bI s with
 | none=>rw[U8 (by simp[Sv])]
 | some c =>
  obtain⟨e,he,_,rfl⟩:=pa h
  have:=b.to _ (Vc (getD_some hi)) e he
  rw[Va (by simp only[Sv];omega)]
  rfl
theorem Kl {l:List cH} {n r:Int} (h:r∈dA l n):∃ x∈l,x.al=r:=by
 unfold dA at h
 obtain⟨x,a,rfl⟩:=Vv.1 h
 exact⟨x,(VV.1 a).1,rfl⟩
theorem KR (b:kY g a) {i:Nat} (hi:i < a.length) (k:Int):gI g a.length (eY g (a.getD i bf) k)=true:=by
 unfold eY
 cases h:gq (a.getD i bf).bI k with
 | some c =>
  obtain⟨e,he,_,rfl⟩:=pa h
  have:=b.to _ (Vc (getD_some hi)) e he
  simp[gI];omega
 | none =>
  simp only
  split
  .simp[gI]
  .simp[gI]
theorem OM (c:kY g a) {i:Nat} (hi:i < a.length) (k:Int) {l:List cH} (d:∀ x∈l,0<=x.al/\x.al < g.rules.length):gI g a.length (dd g (a.getD i bf) l i k).1=true:=by
 have b:=KR (g:=g) c hi k
 have e:∀ r∈dA l k,gI g a.length ⟨2,r⟩=true:=λr hr=>by
  obtain⟨x,f,rfl⟩:=Kl hr
  have:=d x f
  simp[gI];omega
 unfold dd
 cases h:dA l k with
 | nil=>exact b
 | cons r rs =>
  have hr:=e r (by rw[h];simp)
  simp only
  split
  .exact hr
  .simp only
   split
   .exact hr
   .split
    .simp[gI]
    .exact b
theorem Ji {n i:Nat} (h:i < n):(fy g a L n).aY.getD i []=gN g (a.getD i bf) (L.getD i []) i (g.ai.length+1)/\(fy g a L n).gotos.getD i []=xw g a i:=by
 constructor
 .rw[U5,fy,U9,WS h];rfl
 .rw[U5,fy,U9,WS h];rfl
theorem Ra (b:kY g a) {i:Nat} (hi:i < a.length) (k:Int) : -1<=jR a i k/\jR a i k < a.length:=by
 unfold jR
 rw[DW (g:=g) b hi]
 cases h:gq (a.getD i bf).bI (-1 - k) with
 | none=>simp;omega
 | some c =>
  obtain⟨e,he,_,rfl⟩:=pa h
  have:=b.to _ (Vc (getD_some hi)) e he
  simp;omega
theorem OF (b:cJ g a) (hr:aO g=true) (f:a.length<=300) (h:∀ i:Nat,∀ x∈L.getD i [],0<=x.al/\x.al < g.rules.length):iU g (fy g a L a.length)=true:=by
 have j:(fy g a L a.length).aY.length=a.length:=by simp[fy]
 have l:(fy g a L a.length).gotos.length=a.length:=by simp[fy]
 unfold iU
 rw[hr,j,l]
 have:=b.pos
 simp only[V3,Vd,Vj,Vr,Wa]
 refine⟨⟨⟨by omega,f⟩,trivial⟩,λi hi=>?_⟩
 rw[(Ji hi).1,(Ji hi).2]
 unfold xP
 simp only[Vd,Vj,Vr]
 refine⟨⟨⟨by simp[gN],by simp[xw]⟩,λc d=>?_⟩,λx e=>?_⟩
 .simp only[gN,Vv] at d
  obtain⟨k,_,rfl⟩:=d
  exact OM b.ok hi k (h i)
 .simp only[xw,Vv] at e
  obtain⟨k,_,rfl⟩:=e
  have:=Ra b.ok hi k
  simpa using this
theorem KT {s:aR} {l:List cH} {i k:Int} (h:(dd g s l i k).1.kind=1):(dd g s l i k).1=eY g s k:=by
 unfold dd at h ⊢
 cases hr:dA l k with
 | nil=>rfl
 | cons r rs =>
  rw[hr] at h
  simp only at h ⊢
  split at h
  .simp at h
  .rename_i a
   rw[U8 a]
   simp only at h ⊢
   split at h
   .simp at h
   .rename_i h1
    split at h
    .simp at h
    .rename_i b
     rw[U8 h1,U8 b]
theorem K5 {s:aR} {l:List cH} {i k:Int} (a:(eY g s k).kind=1) (h:(dd g s l i k).2=[]):(dd g s l i k).1.kind=1:=by
 unfold dd at h ⊢
 cases hr:dA l k with
 | nil=>exact a
 | cons r rs =>
  rw[hr] at h
  simp only at h
  rw[U8 (by omega)] at h
  simp at h
theorem RK (h:jc g a L a.length=[]) {i k:Nat} (hi:i < a.length) (hk:k < g.ai.length+1):(dd g (a.getD i bf) (L.getD i []) i k).2=[]:=by
 unfold jc at h
 rw[List.flatMap_eq_nil_iff] at h
 have h1:=h i (Wa.2 hi)
 unfold tB at h1
 rw[List.flatMap_eq_nil_iff] at h1
 exact h1 k (Wa.2 hk)
end
end Gv
