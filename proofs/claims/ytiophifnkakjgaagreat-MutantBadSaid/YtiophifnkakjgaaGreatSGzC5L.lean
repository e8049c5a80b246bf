/-
  Part 12 of the proof: what the machine does and what the functions answer.
  Conditions: those that each lemma names.
-/
import Derived.Test.YtiophifnkakjgaaGreatSGzC5K
set_option linter.unusedSimpArgs false
set_option linter.unusedVariables false
set_option maxRecDepth 100000
set_option maxHeartbeats 20000000
namespace Gv
open Go Go.Proofs
def ie:SC:=
 ai [ag [aS 14 .lss 13 12],bQ 14 (.exit 0),.block 1 (ai [ag [af 15 13,af 5 15],ag [af 16 0,af 17 5,aK 18 3 16 17,aU 19 3 18,af 20 1,af 21 5,aK 22 3 20 21,aU 23 3 22,((some 24),.op (.old (.binOp .neq 130 (.tmp 19) (.tmp 23) 130) 4))],aX 24 (ai [ag [bh 4 false],.ret])]),ag [aH 25 .add 13 1,af 13 25]]
def iL:SF:=⟨ai [ag [bh 4 false],ai [ag [af 6 0,aM 7 6,af 8 1,aM 9 8,aS 10 .neq 7 9],aX 10 (ai [ag [bh 4 false],.ret])],ai [ag [af 11 0,aM 12 11,aT 13 0],bS 0 ie],ag [bh 4 true],.ret],
 [.tmp 4],26⟩
theorem lQ:aJ aa 203 []=some iL:=by kernel_rfl
def je:SC:=
 ai [ag [aS 14 .lss 13 12],bQ 14 (.exit 0),.block 1 (ai [ag [af 15 13,af 5 15],ag [af 16 0,af 17 5,aK 18 1 16 17,au 19 18,af 20 1,af 21 5,aK 22 1 20 21,au 23 22,((some 24),.op (.AH .neq (.tmp 19) (.tmp 23)))],aX 24 (ai [ag [bh 4 false],.ret])]),ag [aH 25 .add 13 1,af 13 25]]
def jD:SF:=⟨ai [ag [bh 4 false],ai [ag [af 6 0,aM 7 6,af 8 1,aM 9 8,aS 10 .neq 7 9],aX 10 (ai [ag [bh 4 false],.ret])],ai [ag [af 11 0,aM 12 11,aT 13 0],bS 0 je],ag [bh 4 true],.ret],
 [.tmp 4],26⟩
theorem nO:aJ aa 204 []=some jD:=by kernel_rfl
def kW:SC:=
 ai [ag [aS 14 .lss 13 12],bQ 14 (.exit 0),.block 1 (ai [ag [af 15 13,af 5 15],ag [af 16 0,af 17 5,aK 18 1 16 17,au 19 18,af 20 1,af 21 5,aK 22 1 20 21,au 23 22,aS 24 .neq 19 23],aX 24 (ai [ag [bh 4 false],.ret])]),ag [aH 25 .add 13 1,af 13 25]]
def mc:SF:=⟨ai [ag [bh 4 false],ai [ag [af 6 0,aM 7 6,af 8 1,aM 9 8,aS 10 .neq 7 9],aX 10 (ai [ag [bh 4 false],.ret])],ai [ag [af 11 0,aM 12 11,aT 13 0],bS 0 kW],ag [bh 4 true],.ret],
 [.tmp 4],26⟩
theorem sf:aJ aa 254 []=some mc:=by kernel_rfl
def Dn:SF:=⟨ai [ag [cg 2 0,cg 3 1,bh 4 false],.region false [⟨none,[aw 5 0 2,au 6 5,aw 7 0 3,au 8 7,aS 9 .eql 6 8,af 10 9]⟩,⟨(some (10,true)),[aw 11 2 2,au 12 11,aw 13 2 3,au 14 13,aS 15 .eql 12 14]⟩,⟨none,[dQ 16 10 15,af 17 16]⟩,⟨(some (17,true)),[aw 18 1 2,au 19 18,aw 20 1 3,au 21 20,aV 22 254 [19,21]]⟩,⟨none,[dQ 23 17 22,af 4 23]⟩],.ret],
 [.tmp 4],24⟩
theorem G1:aJ aa 206 [2,3]=some Dn:=by kernel_rfl
def dP:SC:=
 ai [ag [aS 18 .lss 17 16],bQ 18 (.exit 0),.block 1 (ai [ag [af 19 17,aK 20 3 15 17,aU 21 3 20,((some 8),.op (.alloc [(.val (.int .i64 0)),(.emp 1),(.val (.int .i64 0))])),af 7 19,cz 3 8 21],ag [af 22 1,af 23 7,aK 24 3 22 23,aU 25 3 24,((some 9),.op (.alloc [(.val (.int .i64 0)),(.emp 1),(.val (.int .i64 0))])),cz 3 9 25],ag [af 26 2,aU 27 3 8,aU 28 3 9,((some 29),.call (.tmp 26) [(.tmp 27),(.tmp 28)]),cX 30 29],aX 30 (ai [ag [bh 6 false],.ret])]),ag [aH 31 .add 17 1,af 17 31]]
def dX:SF:=⟨ai [ag [bh 6 false],ai [ag [af 10 0,aM 11 10,af 12 1,aM 13 12,aS 14 .neq 11 13],aX 14 (ai [ag [bh 6 false],.ret])],ai [ag [af 15 0,aM 16 15,aT 17 0],bS 0 dP],ag [bh 6 true],.ret],
 [.tmp 6],32⟩
theorem gx:aJ aa 205 []=some dX:=by kernel_rfl
def E6:SF:=⟨ai [ag [cg 2 0,cg 3 1,bh 4 false],.region false [⟨none,[aw 5 0 2,au 6 5,aw 7 0 3,au 8 7,aV 9 203 [6,8],af 10 9]⟩,⟨(some (10,true)),[aw 11 1 2,au 12 11,aw 13 1 3,au 14 13,aV 15 204 [12,14]]⟩,⟨none,[dQ 16 10 15,af 17 16]⟩,⟨(some (17,true)),[aw 18 2 2,au 19 18,aw 20 2 3,au 21 20,qh 22 205 [(.tmp 19),(.tmp 21),(.val (.fn 206 [] []))]]⟩,⟨none,[dQ 23 17 22,af 24 23]⟩,⟨(some (24,true)),[aw 25 3 2,au 26 25,aw 27 3 3,au 28 27,aS 29 .eql 26 28]⟩,⟨none,[dQ 30 24 29,af 4 30]⟩],.ret],
 [.tmp 4],31⟩
theorem Jr:aJ aa 143 [2,3]=some E6:=by kernel_rfl
theorem TM {α:Type} {f g:α->List V} {a b:List α} (d:∀x,∀v∈f x,Tree v) (e:∀x,∀v∈g x,Tree v):∀v∈[V.aZ (a.map f),V.aZ (b.map g)],Tree v:=by
 intro v c;simp at c
 rcases c with rfl | rfl
 .exact fg _ _ λx _=>d x
 .exact fg _ _ λx _=>e x
theorem Ru (a b:List Term) (l:aI a) (H:View):az aa 203 [.aZ (a.map dd),.aZ (b.map dd)] H λr _=>r=gb (decide (a=b)):=by
 refine az.of mixed lQ ?_
 unfold aI at l
 simp(disch:=omega)only[↓wr,seval,wq,iL]
 apply ao.ne<;>intro h
 .simp(disch:=omega)only[↓wr,seval,wq]
  rw[decide_eq_false (vD (by omega))]
 .simp(disch:=omega)only[↓wr,seval,wq]
  refine aW.up a.length (λi T _=>a.take i=b.take i/\T 0=.aZ (a.map dd)/\T 1=.aZ (b.map dd)/\T 12=gi a.length/\T 13=gi i) ⟨by simp,rfl,rfl,rfl,rfl⟩ ?_
  rintro i k T H hk ⟨hi,c,h1,d,f⟩
  simp(disch:=omega)only[↓wr,seval,wq,ie,d,f]
  apply ao.dec<;>intro m
  .have g:a[i]?=some (a[i]'(by omega)):=aaH (by omega)
   have j:b[i]?=some (b[i]'(by omega)):=aaH (by omega)
   generalize a[i]'(by omega)=x at g
   generalize b[i]'(by omega)=y at j
   simp(disch:=omega)only[↓wr,seval,wq,c,h1,f,aaJ,g,j,dd]
   refine km (xs:=#[.string x.name,.int .i64 x.level,.int .i64 x.assoc]) (ys:=#[.string y.name,.int .i64 y.level,.int .i64 y.assoc]) Tryz.underlying130 (by kernel_rfl) (by kernel_rfl) ?_ ?_ (C5 x y) (.inr ⟨rfl,rfl⟩) ?_
   .rfl
   .rfl
   rw[NM]
   simp(disch:=omega)only[↓wr,seval,wq]
   apply ao.split<;>intro e
   .simp(disch:=omega)only[↓wr,seval,wq,f]
    exact aE hk (by omega) ⟨sd g j hi (by simpa using e),c,h1,d,rfl⟩
   .simp(disch:=omega)only[↓wr,seval,wq,f]
    rw[decide_eq_false (zw g j (by simpa using e))]
  .simp(disch:=omega)only[↓wr,seval,wq]
   rw[abj (vn (by omega) (by omega) hi)]
theorem SV (a b:List ByteArray) (l:aI a) (H:View):az aa 204 [encS a,encS b] H λr _=>r=gb (decide (a=b)):=by
 refine az.of mixed nO ?_
 unfold aI at l
 simp(disch:=omega)only[↓wr,seval,wq,jD,encS]
 apply ao.ne<;>intro h
 .simp(disch:=omega)only[↓wr,seval,wq]
  rw[decide_eq_false (vD (by omega))]
 .simp(disch:=omega)only[↓wr,seval,wq]
  refine aW.up a.length (λi T _=>a.take i=b.take i/\T 0=encS a/\T 1=encS b/\T 12=gi a.length/\T 13=gi i) ⟨by simp,rfl,rfl,rfl,rfl⟩ ?_
  rintro i k T H hk ⟨hi,c,h1,d,f⟩
  simp(disch:=omega)only[↓wr,seval,wq,je,d,f,encS]
  apply ao.dec<;>intro m
  .have g:a[i]?=some (a[i]'(by omega)):=aaH (by omega)
   have j:b[i]?=some (b[i]'(by omega)):=aaH (by omega)
   generalize a[i]'(by omega)=x at g
   generalize b[i]'(by omega)=y at j
   simp(disch:=omega)only[↓wr,seval,wq,c,h1,f,encS,aaJ,g,j,I0]
   apply ao.split<;>intro e
   .simp(disch:=omega)only[↓wr,seval,wq,f]
    exact aE hk (by omega) ⟨sd g j hi (by simpa using e),c,h1,d,rfl⟩
   .simp(disch:=omega)only[↓wr,seval,wq,f]
    rw[decide_eq_false (zw g j (by simpa using e))]
  .simp(disch:=omega)only[↓wr,seval,wq]
   rw[abj (vn (by omega) (by omega) hi)]
theorem Tw (a b:List Int) (l:aI a) (H:View):az aa 254 [encI a,encI b] H λr _=>r=gb (decide (a=b)):=by
 refine az.of mixed sf ?_
 unfold aI at l
 simp(disch:=omega)only[↓wr,seval,wq,mc,encI]
 apply ao.ne<;>intro h
 .simp(disch:=omega)only[↓wr,seval,wq]
  rw[decide_eq_false (vD (by omega))]
 .simp(disch:=omega)only[↓wr,seval,wq]
  refine aW.up a.length (λi T _=>a.take i=b.take i/\T 0=encI a/\T 1=encI b/\T 12=gi a.length/\T 13=gi i) ⟨by simp,rfl,rfl,rfl,rfl⟩ ?_
  rintro i k T H hk ⟨hi,c,h1,d,f⟩
  simp(disch:=omega)only[↓wr,seval,wq,kW,d,f,encI]
  apply ao.dec<;>intro m
  .have g:a[i]?=some (a[i]'(by omega)):=aaH (by omega)
   have j:b[i]?=some (b[i]'(by omega)):=aaH (by omega)
   generalize a[i]'(by omega)=x at g
   generalize b[i]'(by omega)=y at j
   simp(disch:=omega)only[↓wr,seval,wq,c,h1,f,encI,aaJ,g,j]
   apply ao.ne<;>intro e
   .simp(disch:=omega)only[↓wr,seval,wq,f]
    rw[decide_eq_false (zw g j e)]
   .simp(disch:=omega)only[↓wr,seval,wq,f]
    exact aE hk (by omega) ⟨sd g j hi e,c,h1,d,rfl⟩
  .simp(disch:=omega)only[↓wr,seval,wq]
   rw[abj (vn (by omega) (by omega) hi)]
theorem Rb (a b:List Term) (c:aI a):aC aa 203 [.aZ (a.map dd),.aZ (b.map dd)] (gb (decide (a=b))):=aC.val (TM wh wh) (Ru a b c)
theorem QS (a b:List ByteArray) (d:aI a):aC aa 204 [encS a,encS b] (gb (decide (a=b))):=aC.val (by
 intro v c;simp at c
 rcases c with rfl | rfl<;>exact BP _) (SV a b d)
theorem Th (a b:List Int) (d:aI a):aC aa 254 [encI a,encI b] (gb (decide (a=b))):=aC.val (by
 intro v c;simp at c
 rcases c with rfl | rfl<;>exact bC _) (Tw a b d)
theorem UP (x y:bc) (b:aI x.right):aC aa 206 [.agg (aO x),.agg (aO y)] (gb (decide (x=y))):=by
 refine aC.val (by
  intro v a;simp at a
  rcases a with rfl | rfl<;>exact bW _ (gp _)) λH=>?_
 rw[Vy]
 refine az.of mixed G1 ?_
 simp(disch:=omega)only[↓wr,seval,wq,Dn,aO,encI]
 repeat' (first | ((first|apply ao.dec|apply ao.eq|apply ao.ne|apply ao.split)<;>intro)|(refine ay.pure (Th x.right y.right b) ?_)|(simp(disch:=omega)only[↓wr,seval,wq]))
 all_goals simp[*]
theorem Lm (a b:List bc) (s:aI a) (hr:∀r∈a,aI r.right) (H:View):az aa 205 [.aZ (a.map aO),.aZ (b.map aO),.fn 206 [] []] H λr _=>r=gb (decide (a=b)):=by
 refine az.of mixed gx ?_
 unfold aI at s
 simp(disch:=omega)only[↓wr,seval,wq,dX]
 apply ao.ne<;>intro h
 .simp(disch:=omega)only[↓wr,seval,wq]
  rw[decide_eq_false (vD (by omega))]
 .simp(disch:=omega)only[↓wr,seval,wq]
  refine aW.up a.length (λi T _=>a.take i=b.take i/\T 15=.aZ (a.map aO)/\T 1=.aZ (b.map aO)/\T 2=.fn 206 [] []/\T 16=gi a.length/\T 17=gi i) ⟨by simp,rfl,rfl,rfl,rfl,rfl⟩ ?_
  rintro i k T H hk ⟨hi,c,h1,d,f,g⟩
  simp(disch:=omega)only[↓wr,seval,wq,dP,f,g]
  apply ao.dec<;>intro t
  .have j:a[i]?=some (a[i]'(by omega)):=aaH (by omega)
   have l:b[i]?=some (b[i]'(by omega)):=aaH (by omega)
   have hm:a[i]'(by omega)∈a:=aaP _
   generalize a[i]'(by omega)=x at j hm
   generalize b[i]'(by omega)=y at l
   have p:=hr x hm
   simp(disch:=omega)only[↓wr,seval,wq,c,h1,d,g,aaJ,j,l,aO,encI]
   intro n u
   try simp(disch:=omega)only[↓wr,seval,wq,c,h1,d,f,g,aaJ,j,l,aO,encI]
   intro m q
   have o:=(cn q cx).1
   try simp(disch:=omega)only[↓wr,seval,wq,o.symm]
   refine ay.pure (UP x y p) ?_
   simp(disch:=omega)only[↓wr,seval,wq]
   apply ao.split<;>intro e
   .simp(disch:=omega)only[↓wr,seval,wq,g]
    exact aE hk (by omega) ⟨sd j l hi (by simpa using e),c,h1,d,f,rfl⟩
   .simp(disch:=omega)only[↓wr,seval,wq,g]
    rw[decide_eq_false (zw j l (by simpa using e))]
  .simp(disch:=omega)only[↓wr,seval,wq]
   rw[abj (vn (by omega) (by omega) hi)]
theorem KS (a b:List bc) (d:aI a) (hr:∀r∈a,aI r.right):aC aa 205 [.aZ (a.map aO),.aZ (b.map aO),.fn 206 [] []] (gb (decide (a=b))):=aC.val (by
 intro v c;simp at c
 rcases c with rfl | rfl | rfl
 .exact fg _ _ λx _=>gp x
 .exact fg _ _ λx _=>gp x
 .exact HC (by simp) (by simp)) (Lm a b d hr)
theorem VW (g k:aj) (a:g.Ok):aC aa 143 [.agg (ak g),.agg (ak k)] (gb (decide (g=k))):=by
 refine aC.val (Jc g k) λH=>?_
 rw[JP]
 refine az.of mixed Jr ?_
 simp(disch:=omega)only[↓wr,seval,wq,E6,ak,encS]
 repeat' (first | ((first|apply ao.dec|apply ao.eq|apply ao.ne|apply ao.split)<;>intro)|(refine ay.pure (Rb g.ax k.ax a.ax) ?_)|(refine ay.pure (QS g.av k.av a.av) ?_)|(refine ay.pure (KS g.rules k.rules a.rules (λr hr=>(a.aB r hr).2.2.1)) ?_)|(simp(disch:=omega)only[↓wr,seval,wq]))
 all_goals simp_all [XB]
def Ix:SF:=⟨ai [ag [cg 1 0,bh 2 false],ag [aU 7 4 1,aV 8 92 [7],af 6 8,du 9 0 6,du 10 1 6,du 11 2 6,((some 3),.op (.alloc [(.emp 1),(.emp 1),(.emp 1),(.val (.int .i64 0))])),cz 4 3 9,af 4 10,af 5 11],.region false [⟨none,[af 12 5,aH 13 .eql 12 0,af 14 13]⟩,⟨(some (14,true)),[aU 15 4 1,aU 16 4 3,aV 17 143 [15,16]]⟩,⟨none,[dQ 18 14 17,af 2 18]⟩],.ret],
 [.tmp 2],19⟩
theorem KE:aJ aa 82 [1]=some Ix:=by kernel_rfl
def vx:SF:=⟨ai [ag [cg 1 0,bh 2 false],ag [aU 7 4 1,aV 8 47 [7],af 6 8,du 9 0 6,du 10 1 6,du 11 2 6,((some 3),.op (.alloc [(.emp 1),(.emp 1),(.emp 1),(.val (.int .i64 0))])),cz 4 3 9,af 4 10,af 5 11],.region false [⟨none,[af 12 5,aH 13 .eql 12 0,af 14 13]⟩,⟨(some (14,true)),[aU 15 4 1,aU 16 4 3,aV 17 31 [15,16]]⟩,⟨none,[dQ 18 14 17,af 2 18]⟩],.ret],
 [.tmp 2],19⟩
theorem AP:aJ aa 15 [1]=some vx:=by kernel_rfl
theorem Tp (g:aj) (a:g.Ok) (b:g.Small):aC aa 82 [.agg (ak g)] (gb (isRed g)):=by
 refine aC.val (dR g) λH=>?_
 refine az.of mixed KE ?_
 simp(disch:=omega)only[↓wr,seval,wq,Ix,ak,encS]
 refine ay.pure (PT g a b).pure ?_
 unfold isRed
 generalize iO g=x
 obtain⟨k,il,e⟩:=x
 simp(disch:=omega)only[↓wr,seval,wq,Af,ak,encS]
 intro n c
 apply ao.eq<;>intro h
 .simp(disch:=omega)only[↓wr,seval,wq]
  refine ay.pure (VW g k a) ?_
  simp(disch:=omega)only[↓wr,seval,wq]
  simp[h]
 .simp(disch:=omega)only[↓wr,seval,wq]
  simp[h]
theorem Sz (g:aj) (a:g.Ok):aC aa 15 [.agg (ak g)] (gb (isRed g)):=by
 refine aC.val (dR g) λH=>?_
 refine az.of mixed AP ?_
 simp(disch:=omega)only[↓wr,seval,wq,vx,ak,encS]
 refine ay.pure (ML g a).pure ?_
 unfold isRed
 generalize iO g=x
 obtain⟨k,il,e⟩:=x
 simp(disch:=omega)only[↓wr,seval,wq,Af,ak,encS]
 intro n b
 apply ao.eq<;>intro h
 .simp(disch:=omega)only[↓wr,seval,wq]
  refine ay.pure (T4 g k a) ?_
  simp(disch:=omega)only[↓wr,seval,wq]
  simp[h]
 .simp(disch:=omega)only[↓wr,seval,wq]
  simp[h]
def Zo:aj:=⟨[⟨⟨#[39,97,39]⟩,0,0⟩,⟨⟨#[39,98,39]⟩,0,0⟩,⟨⟨#[39,99,39]⟩,0,0⟩,⟨⟨#[39,100,39]⟩,0,0⟩],[⟨#[115]⟩,⟨#[117]⟩,⟨#[118]⟩],[⟨0,[0,(-2)],0⟩,⟨0,[1],1⟩,⟨0,[],(-1)⟩,⟨1,[(-2),2],2⟩,⟨2,[3,(-1)],3⟩],0⟩
def X8:aj:=⟨Zo.ax,[⟨#[115]⟩],[⟨0,[1],1⟩,⟨0,[],(-1)⟩],0⟩
theorem rm:isRed X8=true:=by kernel_rfl
theorem dF.fr {h:Heap} {v t:V} (f:dF h v t):Fr h v t:=by
 induction f with
 | val v=>exact .tree _ (.val _)
 | emp k=>exact .emp k
 | sl id off len esz z es es' h1 c d e _ b=>exact .sl id off len esz z es es' h1 c d e b
 | agg cs a h1 _ b=>exact .agg cs a h1 b
 | bb cs a h1 _ b=>exact .bb cs a h1 b
noncomputable def SN:List (FuncId × DF):=zC aa [(251,[]),(180,[]),(236,[]),(237,[])]
theorem Q3:sw aa SN:=vR _ _
def cy (p:bB):List V:=[gi p.aB,gi p.bH,gi p.rules,gi p.ax]
abbrev jX (P:List bB):V:=.aZ (P.map cy)
theorem uC (P:List bB):Tree (jX P):=fg _ _ λx _ v a=>by
 simp[cy] at a
 rcases a with rfl | rfl | rfl | rfl<;>exact .val _
theorem Yw {n:Nat} (h:uU aa SN (λ_ _ _=>none) 251 [jX [j8],gi n]=some (jX (List.replicate n j8))):cd aa 251 [jX [j8],gi n] (jX (List.replicate n j8)):=
 pT mixed Q3 (PU _) (by
  intro v a;simp at a
  rcases a with rfl | rfl
  .exact uC [j8]
  .exact .val _) h
theorem RS {n:Nat} (h1:1<=n) (a:n<=16):cd aa 251 [jX [j8],gi n] (jX (List.replicate n j8)):=by
 have:n=1∨n=2∨n=3∨n=4∨n=5∨n=6∨n=7∨n=8∨n=9∨n=10∨n=11∨n=12∨n=13∨n=14∨n=15∨n=16:=by omega
 rcases this with rfl | rfl | rfl | rfl | rfl | rfl | rfl | rfl | rfl | rfl | rfl | rfl | rfl | rfl | rfl | rfl<;>exact Yw (by kernel_rfl)
theorem F3 (p:bB):∀v∈cy p,Tree v:=by
 intro v a;simp[cy] at a
 rcases a with rfl | rfl | rfl | rfl<;>exact .val _
theorem Yh (h:Heap) (p:bB):dF h (.agg (cy p)) (.agg (cy p)):=.agg _ _ rfl λi hi=>by
 match i,hi with
 | 0,_=>exact .val _
 | 1,_=>exact .val _
 | 2,_=>exact .val _
 | 3,_=>exact .val _
 | n+4,h=>exact absurd h (by simp[cy])
def Dr (p:bB):Prop:=eT p/\(-1<=p.aB/\p.aB<=1000000)/\0<=p.bH/\p.bH<=1000000
theorem Wg:Dr bm:=by unfold Dr eT bm;decide
theorem K9 {x:Int} : (if x<1048576 then x else 1048576)=min 1048576 x:=by omega
theorem TS {x y:Int} : (if y>x then y else x)=max x y:=by omega
def Aq:SC:=
 ai [ag [aS 12 .lss 11 10],bQ 12 (.exit 0),.block 1 (ai [ag [aK 13 1 9 11,au 14 13,af 7 14],ai [ag [af 15 7,aH 16 .geq 15 0],aX 16 (ai [ag [aw 17 3 4,au 18 17,aH 19 .add 18 1,((some 20),.op (.mm false (.val (.val (.int .i64 1048576))) (.tmp 19))),aw 21 3 4,cz 1 21 20],.exit 1])],ag [af 22 1,af 23 7,((some 24),.op (.arith .sub (.val (.val (.int .i64 (-1)))) (.tmp 23))),aK 25 4 22 24,aU 26 4 25,((some 8),.op (.alloc [(.val (.int .i64 0)),(.val (.int .i64 0)),(.val (.int .i64 0)),(.val (.int .i64 0))])),cz 4 8 26],ai [ag [aw 27 0 8,au 28 27,aH 29 .lss 28 0],aX 29 (ai [ag [aU 30 4 4,cz 4 4 30,bh 5 false],.ret])],ag [aw 31 1 4,au 32 31,aw 33 1 8,au 34 33,((some 35),.op (.mm true (.tmp 32) (.tmp 34))),aw 36 1 4,cz 1 36 35],.uQ [(45,49)] [⟨none,[aw 37 2 4,au 38 37,aw 39 2 8,au 40 39,aS 41 .add 38 40,((some 42),.op (.mm false (.val (.val (.int .i64 1048576))) (.tmp 41))),aw 43 3 4,au 44 43,aw 45 3 8,au 46 45,aS 47 .add 44 46,((some 48),.op (.mm false (.val (.val (.int .i64 1048576))) (.tmp 47))),aw 49 2 4,cz 1 49 42,aw 50 3 4,cz 1 50 48]⟩]]),ag [aH 51 .add 11 1,af 11 51]]
def Dc:SF:=⟨ai [ag [((some 4),.op (.alloc [(.val (.int .i64 0)),(.val (.int .i64 0)),(.val (.int .i64 0)),(.val (.int .i64 0))])),bh 5 false],ai [ag [af 9 0,aM 10 9,aT 11 0],bS 0 Aq],ag [aU 52 4 4,cz 4 4 52,bh 5 true],.ret],
 [.cell 4 (some 4),.tmp 5],53⟩
theorem G5:aJ aa 196 []=some Dc:=by kernel_rfl
theorem Bt {P:List bB} {m:Nat} (h:m<P.length):(P.map cy)[m]?=some (cy (bA P m)):=by
 simp[bA,h]
theorem Sn (P:List bB) (o:∀m,Dr (bA P m)) (l:List Int) (p:aI l) (t:∀x∈l,bp x/\(x<0->-1-x<P.length)):
  cd aa 196 [encI l,jX P] (.bb [.agg (cy (bP P l bm).1),gb (bP P l bm).2]):=by
 have key:∀H,az aa 196 [encI l,jX P] H λr _=>r=.bb [.agg (cy (bP P l bm).1),gb (bP P l bm).2]:=?_
 .refine cd.of (by
   intro v g;simp at g
   rcases g with rfl | rfl
   .exact bC l
   .exact uC P) ((key _).mono λr H' e A _=>?_)
  rw[e];exact Kd (Yh _ _) (.val _)
 intro H
 refine az.of mixed G5 ?_
 unfold aI at p
 simp(disch:=omega)only[↓wr,seval,wq,Dc,encI]
 intro m hm
 try simp(disch:=omega)only[↓wr,seval,wq,encI]
 refine aW.up l.length (λi T H'=>∃s:bB,Dr s/\s.aB=0/\bP P (l.drop i) s=bP P l bm/\H' m=.arr 4 [cy s]/\T 1=jX P/\T 4=.ptr m 0 0/\T 9=encI l/\T 10=gi l.length/\T 11=gi i) ?_ ?_
 .exact⟨bm,Wg,rfl,rfl,by simp[View.set,cy,bm],rfl,rfl,rfl,rfl,rfl⟩
 rintro i k T H hk ⟨s,u,d,a,hH,t1,t4,t9,t10,t11⟩
 unfold Dr eT at u
 simp(disch:=omega)only[↓wr,seval,wq,Aq,t10,t11,encI]
 apply ao.dec<;>intro w
 .have h:l[i]?=some (l[i]'(by omega)):=aaH (by omega)
  have c:l[i]'(by omega)∈l:=aaP _
  rw[eL (show i<l.length by omega)] at a
  generalize l[i]'(by omega)=x at h c a
  obtain⟨⟨y,z⟩,f⟩:=t x c
  simp(disch:=omega)only[↓wr,seval,wq,t9,t11,encI,aaJ,h]
  apply ao.dec<;>intro j
  .simp(disch:=omega)only[↓wr,seval,wq,t4,t11,hH,cy,K9]
   rw[Bi (show 0<=x from j)] at a
   refine aE hk (by omega) ⟨_,?_,?_,a,?_,t1,t4,t9,t10,rfl⟩
   .unfold Dr eT;simp only;omega
   .exact d
   .simp[View.set]
  .have hm:(cp x)<P.length:=by have:=f (by omega);unfold cp;omega
   have hp:=o (cp x)
   unfold Dr eT at hp
   simp(disch:=omega)only[↓wr,seval,wq,t1,Bt hm]
   simp(disch:=omega)only[↓wr,seval,wq,cy]
   intro q n
   have b:m≠q:=by rintro rfl;rw[hH] at n;simp at n
   try simp(disch:=omega)only[↓wr,seval,wq,t1,t4,t9,t10,t11,encI,hH,b,b.symm,cy]
   apply ao.dec<;>intro he
   .simp(disch:=omega)only[↓wr,seval,wq,t4,t11,hH,b,cy]
    rw[Ie (by omega) he] at a
    rw[<-a]
   .simp(disch:=omega)only[↓wr,seval,wq,t4,t11,hH,b,b.symm,cy,K9,TS]
    rw[D5 (by omega) he] at a
    refine aE hk (by omega) ⟨_,?_,?_,a,?_,t1,t4,t9,t10,rfl⟩
    .unfold Dr eT;simp only;omega
    .exact d
    .simp[View.set]
 .simp(disch:=omega)only[↓wr,seval,wq,t4,hH,cy]
  rw[aa7 (by omega)] at a
  rw[<-a];try rfl
def eV:SF:=⟨ai [ag [bU 2 1],ai [ag [af 3 0,((some 4),.op (.nil true 0 (.tmp 3) (.val (.emp 1))))],aX 4 (ai [ag [bU 2 1],.ret])],ag [bU 5 2,af 6 0,fP 7 4 32 5 6,af 2 7],.ret],
 [.tmp 2],8⟩
theorem kJ:aJ aa 252 []=some eV:=by kernel_rfl
theorem O5 (P:List bB) (c:P.length<=100000) (h1:1<=P.length) (u:V) (H:View) (hu:u=jX P∨aQ H u 4 (P.map cy)):
  az aa 252 [u] H λr H'=>aQ H' r 4 (P.map cy)/\ct H H' r:=by
 have a:((P.map cy).all λe=>e.length==4&&e.all aL)=true:=by simp[cy,aL]
 refine az.of mixed kJ ?_
 cases P with
 | nil=>simp at h1
 | cons p r =>
  simp only[aaS] at c
  rcases hu with rfl | hu
  .simp(disch:=omega)only[↓wr,seval,wq,eV,jX]
   refine⟨by simpa using a,by unfold aF;simp;omega,λm hm=>?_⟩
   simp(disch:=omega)only[↓wr,seval,wq]
   have:=aQ.new (H:=H) (n:=m) (sz:=4) (es:=(p::r).map cy)
   simp only[aaM,aaS] at this
   exact⟨by simpa using this,.new hm⟩
  .obtain⟨n,rfl,b⟩:=hu.sl (by simp)
   simp only[aaM,aaS] at b ⊢
   have he:bM H (.sl n 0 (r.length+1) 4)=some ((p::r).map cy,[n]):=by
    rw[j7 _ n 0 r.length 4 4 _ b (by simp),abI,aaY (by simp)]
   simp(disch:=omega)only[↓wr,seval,wq,eV,he]
   refine⟨by simpa using a,by unfold aF;simp;omega,λm hm=>?_⟩
   simp(disch:=omega)only[↓wr,seval,wq]
   have:=aQ.new (H:=H) (n:=m) (sz:=4) (es:=(p::r).map cy)
   simp only[aaM,aaS] at this
   exact⟨by simpa using this,.new hm⟩
theorem Lp {g:aj} (hr:g.rules.length<=40) {k:Nat} (hk:k<=16) (m:Nat):Dr (bA (aG g k) m):=by
 refine⟨kb g k m,?_⟩
 by_cases h:bJ (aG g k) m
 .obtain⟨a,b,_⟩:=fG g k m h
  obtain⟨j,f,d,l,e⟩:=zO h
  obtain⟨i,r,c,_,_,hp,_⟩:=j5 e
  have hi:i<g.rules.length:=(aaO.1 c).1
  have:(bA (aG g k) m).aB=i:=by rw[hp];simp[gg]
  omega
 .rw[ke h];unfold j8;decide
def xN (H:View) (u:V) (P:List bB):Prop:=u=jX P∨aQ H u 4 (P.map cy)
theorem xN.kH {H:View} {u:V} {P:List bB} (h:xN H u P):cq H u (jX P):=by
 rcases h with rfl | h
 .exact cq.tree (uC P)
 .exact cq.own h λe he v a=>by
   obtain⟨p,_,rfl⟩:=aa4.1 he
   exact F3 p v a
theorem xN.keep {H H':View} {u:V} {P:List bB} (h:xN H u P) (hk:∀id,owner u=some id->H' id=H id):xN H' u P:=h.imp id λh=>h.keep hk
theorem xN.live {H:View} {u:V} {P:List bB} (h:xN H u P) {id:Nat} (a:owner u=some id):H id≠.dead:=by
 rcases h with rfl | h
 .simp[owner] at a
 .rw[(h.live a).1];simp
theorem RX {N:List bB} {i m:Nat} {p:bB} (hp:0<=p.aB) (h:bJ N m):bJ (N.set i p) m:=by
 have hm:=LJ h
 unfold bJ at h ⊢
 rw[CB hm];split
 .exact hp
 .exact h
def wK:SC:=
 ai [ag [aS 24 .lss 23 22],bQ 24 (.exit 2),.block 3 (ai [ag [af 25 23,aK 26 3 21 23,aU 27 3 26,((some 7),.op (.alloc [(.val (.int .i64 0)),(.emp 1),(.val (.int .i64 0))])),af 6 25,cz 3 7 27],ai [ag [af 28 5,aw 29 0 7,au 30 29,aK 31 4 28 30,aw 32 0 31,au 33 32,aH 34 .geq 33 0],aX 34 (.exit 3)],ag [aw 36 1 7,au 37 36,af 38 3,aV 39 196 [37,38],af 35 39,du 40 0 35,du 41 1 35,((some 8),.op (.alloc [(.val (.int .i64 0)),(.val (.int .i64 0)),(.val (.int .i64 0)),(.val (.int .i64 0))])),cz 4 8 40,af 9 41],ag [af 42 9],aX 42 (ai [ag [af 43 5,aw 44 0 7,au 45 44,af 46 6,aw 47 1 8,au 48 47,aH 49 .add 48 1,aw 50 2 8,au 51 50,aH 52 .add 51 1,((some 53),.op (.mm false (.val (.val (.int .i64 1048576))) (.tmp 52))),aw 54 3 8,au 55 54,((some 56),.op (.build [(.val (.int .i64 0)),(.val (.int .i64 0)),(.val (.int .i64 0)),(.val (.int .i64 0))] [(0,1,(.tmp 46)),(1,1,(.tmp 49)),(2,1,(.tmp 53)),(3,1,(.tmp 55))])),aK 57 4 43 45,cz 4 57 56],ag [bh 4 false]])]),ag [aH 58 .add 23 1,af 23 58]]
def qt:SC:=
 ai [ai [ag [af 16 4,cX 17 16],bQ 17 (.exit 0)],.block 1 (ai [ag [bh 4 true],ag [af 18 3,aV 19 252 [18],af 5 19],ai [ag [aw 20 2 1,au 21 20,aM 22 21,aT 23 0],bS 2 wK],ag [af 59 5,af 3 59]])]
def Av:SF:=⟨ai [ag [cg 1 0,bU 2 1],ag [((some 10),.op (.build [(.val (.int .i64 0)),(.val (.int .i64 0)),(.val (.int .i64 0)),(.val (.int .i64 0))] [(0,1,(.val (.val (.int .i64 (-1)))))])),((some 11),.op (.bO 1 4 [(.val (.int .i64 0)),(.val (.int .i64 0)),(.val (.int .i64 0)),(.val (.int .i64 0))] [(0,(.tmp 10))])),aw 12 1 1,au 13 12,aM 14 13,aV 15 251 [11,14],af 3 15],ai [ag [bh 4 false],bS 0 qt],ag [af 60 3,af 2 60],.ret],
 [.tmp 2],61⟩
theorem DV:aJ aa 195 [1]=some Av:=by kernel_rfl
def YY (g:aj) (H0:View) (P:List bB) (d i:Nat) (T:Env) (H:View):Prop:=
 ∃(N:List bB) (u:V),N.length=g.av.length/\oL P i N (g.rules.drop i)=BT g.rules P/\(∀m,bJ P m->bJ N m)/\xN H u P/\owner u≠some d/\H d=.arr 4 (N.map cy) /\
  (∀id,H0 id≠.dead->H id=H0 id/\id≠d)/\((T 4=gb true/\N=P)∨(T 4=gb false/\∃m,¬ bJ P m/\bJ N m)) /\
  T 1=.aP (ak g) 0/\T 3=u/\T 5=.sl d 0 g.av.length 4/\T 21=.aZ (g.rules.map aO)/\T 22=gi g.rules.length/\T 23=gi i
theorem Vo (g:aj) (hg:g.Ok) (M:g.c5) (H:View):az aa 195 [.agg (ak g)] H λr H'=>aQ H' r 4 ((aA g).map cy)/\ct H H' r:=by
 refine az.of mixed DV ?_
 have z1:=M.lg
 have z2:=M.av
 have z3:=M.rules
 simp(disch:=omega)only[↓wr,seval,wq,Av,ak,encS]
 intro n1 O
 try simp(disch:=omega)only[↓wr,seval,wq]
 refine ay.kq (RS z1 z2) (by kernel_rfl) ⟨cq.sl (off:=0) (len:=1) (esz:=4) (z:=4) (es:=[cy j8]) (by simp[View.set,cy,j8]) (by simp) (λe he v hv=>by simp at he;subst he;exact F3 _ v hv),cq.tree (.val _),trivial⟩ ?_
 simp(disch:=omega)only[↓wr,seval,wq]
 refine aW.intro (λk T H'=>∃(j:Nat) (u:V),j<=g.av.length/\j<=dg (vz (aG g j))/\xN H' u (aG g j)/\ct H H' u/\T 1=.aP (ak g) 0/\T 3=u /\
   ((T 4=gb false/\j+k=g.av.length+1)∨(T 4=gb true/\aG g j=aA g/\aQ H' u 4 ((aA g).map cy)))) (g.av.length+1) ?_ ?_
 .refine⟨0,_,by omega,by omega,.inl rfl,λid a=>⟨?_,by simp[owner]⟩,rfl,rfl,.inl ⟨rfl,by omega⟩⟩
  have e:id≠n1:=by rintro rfl;exact a O
  simp[View.set,e]
 clear O
 rintro k T H1 ⟨j,u,hj,P,hu,f,t1,t3,E⟩
 rcases E with ⟨t4,a8⟩ | ⟨t4,A,s⟩
 .have hlen:=fB g j
  simp(disch:=omega)only[↓wr,seval,wq,qt,t3,t4,ak,encS]
  refine ay.cw ((O5 (aG g j) (by omega) (by omega) u H1 hu).mono ?_)
  rintro v H2 ⟨hv,F⟩
  obtain⟨d,rfl,p⟩:=hv.sl (by simp;omega)
  simp only[aaM,hlen]
  simp(disch:=omega)only[↓wr,seval,wq,t1,ak,encS]
  refine aW.up g.rules.length (YY g H (aG g j) d) ?_ ?_
  .refine⟨aG g j,u,hlen,rfl,λ_ h=>h,hu.keep λid a=>(F id (hu.live a)).1,λe=>?_,p,λid a=>?_,.inl ⟨rfl,rfl⟩,t1,t3,rfl,rfl,rfl,rfl⟩
   .exact(F d (hu.live e)).2 rfl
   .have h1:=f id a
    have h2:=F id (by rw[h1.1];exact a)
    exact⟨by rw[h2.1,h1.1],λe=>h2.2 (by rw[e];rfl)⟩
  clear t1 t3 t4 hu f F p hv
  rintro i q T H3 hq ⟨N,u,hN,b,hle,hu,G,p,f,E,t1,t3,t5,t21,t22,t23⟩
  simp(disch:=omega)only[↓wr,seval,wq,wK,t22,t23]
  apply ao.dec<;>intro hc
  .have Q:g.rules[i]?=some (g.rules[i]'(by omega)):=aaH (by omega)
   have y:g.rules[i]'(by omega)∈g.rules:=aaP _
   rw[eL (show i<g.rules.length by omega)] at b
   generalize g.rules[i]'(by omega)=r at Q y b
   have hl:=M.left r y
   have R:=hg.aB r y
   have S:r.left.toNat<N.length:=by omega
   have U:(N.map cy).getD r.left.toNat []=cy (bA N r.left.toNat):=by simp[bA,S]
   have hP:=λm=>Lp (g:=g) z3 (show j<=16 by omega) m
   simp(disch:=omega)only[↓wr,seval,wq,t5,t21,t23,aaJ,Q,aO,encI]
   intro n t
   have c:d≠n:=by rintro rfl;rw[p] at t;simp at t
   have W:∀o,xN (H3.set n o) u (aG g j):=λo=>hu.keep λid a=>by
    have:id≠n:=by rintro rfl;exact hu.live a t
    simp[View.set,this]
   have X:∀o,∀id,H id≠.dead->(H3.set n o) id=H id/\id≠d:=λo id a=>by
    have h1:=f id a
    have:id≠n:=by rintro rfl;rw[h1.1] at t;exact a t
    exact⟨by simp[View.set,this,h1.1],h1.2⟩
   try simp(disch:=omega)only[↓wr,seval,wq,p,c]
   refine⟨by omega,by omega,?_⟩
   try simp(disch:=omega)only[↓wr,seval,wq,U,cy]
   have Y:=tM (aG g j) r.right bm
   apply ao.dec<;>intro hk
   .simp(disch:=omega)only[↓wr,seval,wq,t1,t3,t5,t23]
    have A:sq (aG g j) i N r=N:=by unfold sq;rw[aaL hk]
    rw[oL,A] at b
    rw[set_set]
    exact aE hq (by omega) ⟨N,u,hN,b,hle,W _,G,by simp[View.set,c,p],X _,E,t1,t3,t5,t21,t22,rfl⟩
   .simp(disch:=omega)only[↓wr,seval,wq,t3]
    refine ay.kq (Sn (aG g j) hP r.right R.2.2.1 λx hx=>⟨R.2.2.2 x hx,λt=>by rw[hlen];exact M.neg y hx t⟩) (by kernel_rfl) ⟨cq.tree (bC r.right),by rw[set_set];exact(W _).kH,trivial⟩ ?_
    have Z:=oV (λm=>kb g j m) r.right bm ib
    have a1:(0:Int)<=(bP (aG g j) r.right bm).1.bH:=Y
    have ab:iz (aG g j) r.right->(bP (aG g j) r.right bm).1.bH<=16:=λha=>(jg (aG g j) 16 r.right bm ha).2 ⟨by simp[bm],λx hx t=>by have:=(fG g j _ (ha x hx t)).2.1;omega⟩
    have ae:=ia (aG g j) r.right bm
    generalize I:bP (aG g j) r.right bm=sp at Z a1 ab ae
    unfold eT at Z
    simp(disch:=omega)only[↓wr,seval,wq,cy]
    intro q2 al
    have B:=(cn al cx).1
    have l:=(cn (cn al cx).2 cx).2
    have w:d≠q2:=by rintro rfl;rw[p] at l;simp at l
    try simp(disch:=omega)only[↓wr,seval,wq,t1,t3,t5,t21,t22,t23,p,c,c.symm,B,B.symm,w,w.symm,cy]
    apply ao.split<;>intro hb
    .have bd:=ab (ae.1 hb)
     simp(disch:=omega)only[↓wr,seval,wq,t1,t3,t5,t23,p,c,B.symm,w]
     refine⟨by omega,by omega,?_⟩
     have A:sq (aG g j) i N r=N.set r.left.toNat (gg (aG g j) i r):=by unfold sq;rw[aaI hk,I,aaL hb]
     rw[oL,A] at b
     have C:(gg (aG g j) i r)=⟨i,sp.1.bH+1,min 1048576 (sp.1.rules+1),sp.1.ax⟩:=by rw[gg,I]
     have an:0<=(gg (aG g j) i r).aB:=by rw[C];simp only;omega
     have aq:¬ bJ N r.left.toNat:=hk
     refine aE hq (by omega) ⟨_,u,by simp[hN],b,λm hm=>RX an (hle m hm),?_,G,?_,?_,.inr ⟨rfl,r.left.toNat,λa6=>aq (hle _ a6),?_⟩,t1,t3,t5,t21,t22,rfl⟩
     .refine hu.keep λid a=>?_
      have J:id≠n:=by rintro rfl;exact hu.live a t
      have K:id≠q2:=by rintro rfl;exact hu.live a l
      have e3:id≠d:=by rintro rfl;exact G a
      simp[View.set,J,K,e3]
     .simp only[View.set,if_true]
      rw[acp,C,U];simp only[cy,acQ,List.drop_nil,K9]
     .intro id a
      have h1:=f id a
      have J:id≠n:=by rintro rfl;rw[h1.1] at t;exact a t
      have K:id≠q2:=by rintro rfl;rw[h1.1] at l;exact a l
      exact⟨by simp[View.set,J,K,h1.2,h1.1],h1.2⟩
     .unfold bJ;rw[CB S,aaL rfl];exact an
    .simp(disch:=omega)only[↓wr,seval,wq,t1,t3,t5,t23]
     have A:sq (aG g j) i N r=N:=by unfold sq;rw[aaI hk,I,aaI (by rw[hb];simp)]
     rw[oL,A] at b
     refine aE hq (by omega) ⟨N,u,hN,b,hle,?_,G,by simp[View.set,c,w,p],?_,E,t1,t3,t5,t21,t22,rfl⟩
     .refine hu.keep λid a=>?_
      have J:id≠n:=by rintro rfl;exact hu.live a t
      have K:id≠q2:=by rintro rfl;exact hu.live a l
      simp[View.set,J,K]
     .intro id a
      have h1:=f id a
      have J:id≠n:=by rintro rfl;rw[h1.1] at t;exact a t
      have K:id≠q2:=by rintro rfl;rw[h1.1] at l;exact a l
      exact⟨by simp[View.set,J,K,h1.1],h1.2⟩
  .simp(disch:=omega)only[↓wr,seval,wq,t1,t3,t5]
   rw[aa7 (by omega),oL,<-pZ] at b
   have s:aQ H3 (.sl d 0 g.av.length 4) 4 (N.map cy):=.inr ⟨d,by simp[hN],p⟩
   have ar:ct H H3 (.sl d 0 g.av.length 4):=λid a=>⟨(f id a).1,λe=>(f id a).2 (by simp[owner] at e;exact e.symm)⟩
   rw[b] at s
   rcases E with ⟨E,he⟩ | ⟨E,m,a7,L⟩
   .have D:aG g (j+1)=aG g j:=by rw[<-b,he]
    have C:=UK hj D
    rw[D] at s
    exact⟨0,by omega,j,_,hj,P,.inr s,ar,rfl,rfl,.inr ⟨E,C,by rw[<-C];exact s⟩⟩
   .rw[b] at L
    rcases PH P with e | e
    .rw[e] at L;exact absurd L a7
    .have:=MR g (j+1)
     exact⟨k-1,by omega,j+1,_,by omega,e,.inr s,ar,rfl,rfl,.inl ⟨E,by omega⟩⟩
 .simp(disch:=omega)only[↓wr,seval,wq,qt,t3,t4]
  exact⟨s,f⟩
theorem TJ {h:Heap} {u:V} {P:List bB} (b:aQ h.view u 4 (P.map cy)):dF h u (jX P):=by
 refine dF.own b rfl (λi _=>rfl) (λi j hi a=>?_)
 simp only[aaM] at hi
 have e:(P.map cy).getD i []=cy P[i]:=by simp[hi]
 rw[e] at a ⊢
 match j,a with
 | 0,_=>exact .val _
 | 1,_=>exact .val _
 | 2,_=>exact .val _
 | 3,_=>exact .val _
 | n+4,h=>exact absurd h (by simp[cy])
theorem Uu (g:aj) (a:g.Ok) (b:g.c5):cd aa 195 [.agg (ak g)] (jX (aA g)):=
 cd.of (dR g) ((Vo g a b _).mono λr H' h d c=>TJ (by rw[c];exact h.1))
def iS (g:aj):List Int:=(aA g).map bB.aB
def pS:SC:=
 ai [ai [ag [af 8 6,aw 9 1 2,au 10 9,aM 11 10,aS 12 .lss 8 11],bQ 12 (.exit 0)],.block 1 (ai [ai [ag [aw 15 1 2,au 16 15,af 17 6,aK 18 1 16 17,au 19 18,aH 20 .geq 19 0],aX 20 (.exit 1)],ag [af 21 1,aw 22 1 2,au 23 22,af 24 6,aK 25 1 23 24,au 26 25,((some 27),.op (.arith .sub (.val (.val (.int .i64 (-1)))) (.tmp 26))),aK 28 1 21 27,au 29 28,af 7 29],ai [ag [af 30 7,aH 31 .eql 30 0],aX 31 (ai [ag [aT 4 0],.ret])],ag [af 32 5,af 33 7,((some 34),.op (.mm true (.tmp 32) (.tmp 33))),af 5 34]]),ag [af 13 6,aH 14 .add 13 1,af 6 14]]
def tH:SF:=⟨ai [ag [cg 2 0,aT 4 0],ag [aT 5 0],ai [ag [aT 6 0],bS 0 pS],ag [af 35 5,aH 36 .add 35 1,af 4 36],.ret],
 [.tmp 4],37⟩
theorem yz:aJ aa 137 [2]=some tH:=by kernel_rfl
def nI:SC:=
 ai [ai [ag [af 25 6,aw 26 2 1,au 27 26,aM 28 27,aS 29 .lss 25 28],bQ 29 (.exit 2)],.block 3 (ai [ag [aw 32 2 1,au 33 32,af 34 6,aK 35 3 33 34,aU 36 3 35,((some 7),.op (.alloc [(.val (.int .i64 0)),(.emp 1),(.val (.int .i64 0))])),cz 3 7 36],.region false [⟨none,[af 37 3,aw 38 0 7,au 39 38,aK 40 1 37 39,au 41 40,aH 42 .eql 41 0,af 43 42]⟩,⟨(some (43,true)),[aU 44 3 7,af 45 5,aV 46 137 [44,45],af 47 4,aS 48 .eql 46 47]⟩,⟨none,[dQ 49 43 48]⟩],aX 49 (ag [af 50 3,aw 51 0 7,au 52 51,af 53 4,aK 54 1 50 52,cz 1 54 53])]),ag [af 30 6,aH 31 .add 30 1,af 6 31]]
def nK:SC:=
 ai [ai [ag [af 15 4,aw 16 1 1,au 17 16,aM 18 17,aS 19 .leq 15 18],bQ 19 (.exit 0)],.block 1 (ai [ag [bU 22 2,af 23 3,fP 24 1 8 22 23,af 5 24],ag [aT 6 0],bS 2 nI]),ag [af 20 4,aH 21 .add 20 1,af 4 21]]
def pw:SF:=⟨ai [ag [cg 1 0,bU 2 1],ai [ag [aU 8 4 1,aV 9 50 [8],cX 10 9],aX 10 (ai [ag [bU 2 1],.ret])],ag [aw 11 1 1,au 12 11,aM 13 12,((some 14),.op (.make 1 8 [(.val (.int .i64 0))] (.tmp 13) (.tmp 13))),af 3 14],ai [ag [aT 4 1],bS 0 nK],ag [af 55 3,af 2 55],.ret],
 [.tmp 2],56⟩
theorem u9:aJ aa 136 [1]=some pw:=by kernel_rfl
theorem CC {h:List Int} {m:Nat} (hm:m<h.length):h[m]?=some (gB h m):=by simp[gB,hm]
theorem Tq {h:List Int} {m:Nat} (hm:m<h.length):(aR h).getD m []=[gi (gB h m)]:=by simp[gB,hm]
def UM (h:List Int):Prop:=∀m,0<=gB h m/\gB h m<=1000
theorem K7 {g:aj} (hr:g.rules.length<=40) {k:Nat} (hk:k<=16):UM (fW (aG g k)):=λm=>by
 rw[nq]
 by_cases h:bJ (aG g k) m
 .obtain⟨a,b,_⟩:=fG g k m h
  omega
 .rw[ke h];unfold j8;decide
theorem IC (r:bc) (h:List Int) (j:UM h) (l:Bf h.length r):aC aa 137 [.agg (aO r),encI h] (gi (gq h r.right 0)):=by
 obtain⟨_,_,_,m,n⟩:=l
 refine aC.val (by
  intro v c;simp at c
  rcases c with rfl | rfl
  .exact bW _ (gp r)
  .exact bC h) λH=>?_
 refine az.of mixed yz ?_
 simp(disch:=omega)only[↓wr,seval,wq,tH,aO,encI]
 refine aW.up r.right.length (λi T H'=>∃top:Int,0<=top/\top<=1000/\gq h (r.right.drop i) top=gq h r.right 0/\T 1=encI h/\T 2=.aP (aO r) 0/\T 5=gi top/\T 6=gi i) ⟨0,by omega,by omega,rfl,rfl,rfl,rfl,rfl⟩ ?_
 rintro i k T H hk ⟨top,o,h1,a,t1,t2,t5,t6⟩
 simp(disch:=omega)only[↓wr,seval,wq,pS,t2,t6,aO,encI]
 apply ao.dec<;>intro p
 .have e:r.right[i]?=some (r.right[i]'(by omega)):=aaH (by omega)
  have b:r.right[i]'(by omega)∈r.right:=aaP _
  rw[eL (show i<r.right.length by omega)] at a
  generalize r.right[i]'(by omega)=x at e b a
  obtain⟨⟨q,s⟩,f⟩:=n x b
  simp(disch:=omega)only[↓wr,seval,wq,t2,t6,aO,encI,aaJ,e]
  apply ao.dec<;>intro g
  .simp(disch:=omega)only[↓wr,seval,wq,t5,t6]
   rw[gq,aaL (show 0<=x from g)] at a
   exact aE hk (by omega) ⟨top,o,h1,a,t1,t2,t5,rfl⟩
  .have hm:cp x<h.length:=by have:=f (by omega);unfold cp;omega
   have d:=CC hm
   have t:=j (cp x)
   rw[gq,aaI g] at a
   generalize gB h (cp x)=v at d t a
   simp(disch:=omega)only[↓wr,seval,wq,t1,t2,t6,aO,encI,aaJ,e,d]
   apply ao.eq<;>intro c
   .simp(disch:=omega)only[↓wr,seval,wq,t5,t6]
    rw[aaL c] at a
    rw[<-a]
   .simp(disch:=omega)only[↓wr,seval,wq,t5,t6,TS]
    rw[aaI c] at a
    exact aE hk (by omega) ⟨_,by omega,by omega,a,t1,t2,rfl,rfl⟩
 .simp(disch:=omega)only[↓wr,seval,wq,t5]
  rw[aa7 (by omega),gq] at a
  rw[a]
def ZK (g:aj) (old:List Int) (k:Int) (b d i:Nat) (T:Env) (H:View):Prop:=
 ∃out:List Int,out.length=g.av.length/\(g.rules.drop i).foldl (lD old k) out=g.rules.foldl (lD old k) old/\b≠d/\H b=.arr 1 (aR out)/\H d=.arr 1 (aR old) /\
  T 1=.aP (ak g) 0/\T 3=.sl b 0 g.av.length 1/\T 4=gi k/\T 5=.sl d 0 g.av.length 1/\T 6=gi i
theorem Bn (g:aj) (D:g.Ok):cd aa 136 [.agg (ak g)] (encI (if bt g=true then fW (aA g) else [])):=by
 refine cd.of (dR g) ?_
 refine az.of mixed u9 ?_
 have y:=D.av
 unfold aI at y
 simp(disch:=omega)only[↓wr,seval,wq,pw,ak,encS]
 refine ay.pure (jQ g D) ?_
 repeat' (first | ((first|apply ao.dec|apply ao.eq|apply ao.ne|apply ao.split)<;>intro)|(simp(disch:=omega)only[↓wr,seval,wq]))
 .rename_i hr
  have A:=bF hr
  have N:=A.lg
  have z2:=A.av
  have z3:=A.rules
  rw[aaL hr]
  try simp(disch:=omega)only[↓wr,seval,wq,ak,encS]
  refine⟨⟨by omega,by unfold aF;omega,by unfold aF;omega⟩,λh=>by omega,?_⟩
  intro _ b
  try simp(disch:=omega)only[↓wr,seval,wq,ak,encS]
  refine aW.up g.av.length (λj T H'=>H' b=.arr 1 (aR (fW (aG g j)))/\T 1=.aP (ak g) 0/\T 3=.sl b 0 g.av.length 1/\T 4=gi ((j:Int)+1)) ?_ ?_
  .refine⟨?_,rfl,rfl,rfl⟩
   simp[View.set,aG,iter,j8]
  rintro j k T H hk ⟨f,t1,t3,t4⟩
  simp(disch:=omega)only[↓wr,seval,wq,nK,t1,t4,ak,encS]
  apply ao.dec<;>intro K
  .have hlen:=fB g j
   obtain⟨nl,v⟩:∃nl,g.av.length=nl+1:=⟨g.av.length-1,by omega⟩
   have he:bM H (.sl b 0 g.av.length 1)=some (aR (fW (aG g j)),[b]):=by
    rw[v,j7 _ b 0 nl 1 1 _ f (by simp[hlen,v]),abI,aaY (by simp[hlen,v])]
   have E:(aR (fW (aG g j))).isEmpty=false:=by
    cases L:aG g j with
    | nil=>rw[L] at hlen;simp at hlen;omega
    | cons=>rfl
   simp(disch:=omega)only[↓wr,seval,wq,t3,he,wy _ _ _ _ _ _ _ E,hlen]
   refine⟨by simp[aL],⟨by unfold aF;omega,by unfold aF;omega⟩,λd t=>?_⟩
   have o:b≠d:=by rintro rfl;rw[f] at t;simp at t
   refine aW.up g.rules.length (ZK g (fW (aG g j)) ((j:Int)+1) b d) ⟨fW (aG g j),by simp[hlen],rfl,o,by simp[View.set,o,f],by simp[View.set],t1,t3,t4,rfl,rfl⟩ ?_
   clear t1 t3 t4 f he t
   rintro i q T H F ⟨out,w,a,_,f,t,t1,t3,t4,t5,t6⟩
   simp(disch:=omega)only[↓wr,seval,wq,nI,t1,t6,ak]
   apply ao.dec<;>intro G
   .have B:g.rules[i]?=some (g.rules[i]'(by omega)):=aaH (by omega)
    have s:g.rules[i]'(by omega)∈g.rules:=aaP _
    rw[eL (show i<g.rules.length by omega),abr] at a
    generalize g.rules[i]'(by omega)=r at B s a
    have I:=A.pX D s
    have O:=A.left r s
    have p:=Tq (h:=out) (m:=r.left.toNat) (by omega)
    have C:=K7 (g:=g) z3 (show j<=16 by omega)
    have x:(fW (aG g j)).length=g.av.length:=by simp[hlen]
    unfold lD at a
    generalize fW (aG g j)=old at t C x a ⊢
    simp(disch:=omega)only[↓wr,seval,wq,t1,t3,t6,ak,aO,encI,aaJ,B]
    intro n y
    have c:b≠n:=by rintro rfl;rw[f] at y;simp at y
    have u:d≠n:=by rintro rfl;rw[t] at y;simp at y
    try simp(disch:=omega)only[↓wr,seval,wq,f,c,p]
    refine⟨by omega,by omega,?_⟩
    apply ao.eq<;>intro J
    .simp(disch:=omega)only[↓wr,seval,wq,t5]
     refine ay.rY (IC r old C (by rw[x];exact I)) (by kernel_rfl) (.val _) ⟨cq.tree (bW _ (gp r)),Fg (l:=old) (by simp[View.set,u,t]) x.symm,trivial⟩ ?_
     simp(disch:=omega)only[↓wr,seval,wq,t4]
     apply ao.eq<;>intro z
     .simp(disch:=omega)only[↓wr,seval,wq,t3,t4,t6,f,c,p]
      refine⟨by omega,by omega,?_⟩
      rw[aaL ⟨J,z⟩] at a
      refine aE F (by omega) ⟨_,by simp[w],a,o,?_,by simp[View.set,o.symm,u,t],t1,t3,t4,t5,rfl⟩
      simp only[View.set,if_true]
      rw[<-TA]
     .simp(disch:=omega)only[↓wr,seval,wq,t3,t4,t6]
      rw[aaI (λe=>z e.2)] at a
      exact aE F (by omega) ⟨out,w,a,o,by simp[View.set,c,f],by simp[View.set,u,t],t1,t3,t4,t5,rfl⟩
    .simp(disch:=omega)only[↓wr,seval,wq,t3,t4,t6]
     rw[aaI (λe=>J e.1)] at a
     exact aE F (by omega) ⟨out,w,a,o,by simp[View.set,c,f],by simp[View.set,u,t],t1,t3,t4,t5,rfl⟩
   .simp(disch:=omega)only[↓wr,seval,wq,t3,t4]
    rw[aa7 (by omega),acH,WW] at a
    rw[a] at f
    exact aE hk (by omega) ⟨f,t1,t3,rfl⟩
  .simp(disch:=omega)only[↓wr,seval,wq,t3]
   intro M z
   have:j=g.av.length:=by omega
   subst this
   exact jx (by rw[z];exact .inr ⟨b,by simp[gR],f⟩)
 .rename_i hr
  rw[hr]
  intro M z
  exact .emp _
def pb:SC:=
 ai [ai [ag [af 20 7,aH 21 .geq 20 0],bQ 21 (.exit 2)],.block 3 (ai [.region true [⟨none,[aw 24 2 1,au 25 24,af 26 7,aK 27 3 25 26,aw 28 0 27,au 29 28,af 30 5,aS 31 .eql 29 30,af 32 31]⟩,⟨(some (32,true)),[af 33 3,af 34 5,aK 35 1 33 34,au 36 35,aH 37 .gtr 36 0]⟩,⟨none,[dQ 38 32 37,af 39 38]⟩,⟨(some (39,true)),[aw 40 2 1,au 41 40,af 42 7,aK 43 3 41 42,aU 44 3 43,af 45 3,aV 46 137 [44,45],af 47 3,af 48 5,aK 49 1 47 48,au 50 49,aS 51 .eql 46 50]⟩,⟨none,[dQ 52 39 51]⟩],aX 52 (ag [af 53 7,af 6 53])]),ag [af 22 7,aH 23 .sub 22 1,af 7 23]]
def kF:SC:=
 ai [ai [ag [af 10 5,af 11 3,aM 12 11,aS 13 .lss 10 12],bQ 13 (.exit 0)],.block 1 (ai [ag [aT 6 (-1)],ai [ag [aw 16 2 1,au 17 16,aM 18 17,aH 19 .sub 18 1,af 7 19],bS 2 pb],ag [af 54 4,af 55 6,((some 56),.op (.bO 1 1 [(.val (.int .i64 0))] [(0,(.tmp 55))])),fP 57 1 8 54 56,af 4 57]]),ag [af 14 5,aH 15 .add 14 1,af 5 15]]
def rp:SF:=⟨ai [ag [cg 1 0,bU 2 1],ag [aU 8 4 1,aV 9 136 [8],af 3 9],ag [bU 4 1],ai [ag [aT 5 0],bS 0 kF],ag [af 58 4,af 2 58],.ret],
 [.tmp 2],59⟩
theorem xT:aJ aa 73 [1]=some rp:=by kernel_rfl
theorem Pq {h:List Int} {m:Nat} {l:List bc} {c:Nat} {r:bc} (hr:l[c]?=some r):l9 h m (l.drop c) c=if r.left=(m:Int)/\0<gB h m/\gq h r.right 0=gB h m then (c:Int) else l9 h m (l.drop (c+1)) ((c:Int)+1):=by
 have a:c<l.length:=(aaO.1 hr).1
 have he:l[c]=r:=(aaO.1 hr).2
 rw[abt a,he,l9]
def ZT (g:aj) (h:List Int) (u:V) (j c:Nat) (T:Env) (H:View):Prop:=
 c<=g.rules.length/\T 1=.aP (ak g) 0/\T 3=encI h/\T 4=u/\aQ H u 1 (aR ((List.range j).map λm=>l9 h m g.rules 0))/\T 5=gi j/\T 6=gi (l9 h j (g.rules.drop c) c)/\T 7=gi ((c:Int)-1)
theorem E1 (g:aj) (A:g.Ok):cd aa 73 [.agg (ak g)] (encI (if bt g=true then iS g else [])):=by
 refine cd.of (dR g) ?_
 refine az.of mixed xT ?_
 simp(disch:=omega)only[↓wr,seval,wq,rp,ak,encS]
 refine ay.pure (Bn g A).pure ?_
 by_cases hr:bt g=true
 .have l:=bF hr
  have J:=l.lg
  have z2:=l.av
  have z3:=l.rules
  rw[aaL hr,aaL hr]
  have t:iS g=(List.range g.av.length).map λm=>l9 (fW (aA g)) m g.rules 0:=by
   apply abB (by simp[iS,gR])
   intro m h1 q
   simp only[iS,acD,acS]
   rw[Qj (λr v=>(l.left r v).1)]
   have:m<(aA g).length:=by simpa [iS] using h1
   simp[bA,this]
  have o:UM (fW (aA g)):=K7 z3 z2
  have p:(fW (aA g)).length=g.av.length:=by simp[gR]
  rw[t]
  generalize fW (aA g)=h at o p ⊢
  simp(disch:=omega)only[↓wr,seval,wq,encI]
  refine aW.up g.av.length (λj T H'=>∃u,T 4=u/\aQ H' u 1 (aR ((List.range j).map λm=>l9 h m g.rules 0))/\T 1=.aP (ak g) 0/\T 3=encI h/\T 5=gi j) ⟨_,rfl,.nil,rfl,rfl,rfl⟩ ?_
  rintro j k T H hk ⟨u,t4,b,t1,t3,t5⟩
  simp(disch:=omega)only[↓wr,seval,wq,kF,t3,t5,encI]
  apply ao.dec<;>intro s
  .have i:=CC (h:=h) (m:=j) (by omega)
   simp(disch:=omega)only[↓wr,seval,wq,t1,ak]
   refine aW.intro (ZT g h u j) g.rules.length ?_ ?_
   .refine⟨by omega,t1,t3,t4,b,t5,?_,rfl⟩
    rw[aa7 (by omega)];rfl
   clear t1 t3 t4 t5 b
   rintro c T H ⟨D,t1,t3,t4,b,t5,t6,t7⟩
   simp(disch:=omega)only[↓wr,seval,wq,pb,t7]
   apply ao.dec<;>intro w
   .obtain⟨c,rfl⟩:∃E,c=E+1:=⟨c-1,by omega⟩
    have a:g.rules[c]?=some (g.rules[c]'(by omega)):=aaH (by omega)
    have f:g.rules[c]'(by omega)∈g.rules:=aaP _
    generalize g.rules[c]'(by omega)=r at a f
    have x:=l.pX A f
    have d:=Pq (h:=h) (m:=j) a
    have B:(((c+1:Nat):Int)-1)=(c:Int):=by omega
    rw[B] at t7
    try simp only[B]
    rw[show (((c+1:Nat):Int))=(c:Int)+1 by omega] at t6
    simp(disch:=omega)only[↓wr,seval,wq,t1,t5,t7,encI,ak,aO,aaJ,a]
    apply ao.eq<;>intro h1
    .simp(disch:=omega)only[↓wr,seval,wq,t3,t5,encI,aaJ,i]
     apply ao.dec<;>intro q
     .simp(disch:=omega)only[↓wr,seval,wq,t1,t3,t7,encI,ak,aO,aaJ,a]
      refine ay.pure (IC r h o (by rw[p];exact x)) ?_
      simp(disch:=omega)only[↓wr,seval,wq,t3,t5,encI,aaJ,i]
      apply ao.eq<;>intro y
      .simp(disch:=omega)only[↓wr,seval,wq,t4,t5,t7]
       refine⟨c,by omega,by omega,t1,t3,t4,b,t5,?_,rfl⟩
       rw[d,aaL ⟨h1,q,y⟩];rfl
      .simp(disch:=omega)only[↓wr,seval,wq,t4,t5,t6,t7]
       refine⟨c,by omega,by omega,t1,t3,t4,b,t5,?_,rfl⟩
       rw[d,aaI (λe=>y e.2.2)];exact t6
     .simp(disch:=omega)only[↓wr,seval,wq,t4,t5,t6,t7]
      refine⟨c,by omega,by omega,t1,t3,t4,b,t5,?_,rfl⟩
      rw[d,aaI (λe=>q e.2.1)];exact t6
    .simp(disch:=omega)only[↓wr,seval,wq,t4,t5,t6,t7]
     refine⟨c,by omega,by omega,t1,t3,t4,b,t5,?_,rfl⟩
     rw[d,aaI (λe=>h1 e.1)];exact t6
   .have F:c=0:=by omega
    subst F
    simp only[abI,Int.natCast_zero] at t6
    simp(disch:=omega)only[↓wr,seval,wq,t4,t5,t6]
    intro n G
    rw[bE]
    simp(disch:=omega)only[↓wr,seval,wq,t4]
    refine fE (b.fresh G) (by simp[aL]) (by unfold aF;simp;omega) (by unfold aF;simp;omega) ?_
    intro u' H' z _
    simp(disch:=omega)only[↓wr,seval,wq,t4,t5,t6]
    refine aE hk (by omega) ⟨u',rfl,?_,t1,t3,rfl⟩
    rw[ab9];simpa using z
  .simp(disch:=omega)only[↓wr,seval,wq,t4]
   intro I C
   have:j=g.av.length:=by omega
   subst this
   exact jx (by rw[C];exact b)
 .have hr:bt g=false:=by simpa using hr
  rw[hr]
  simp(disch:=omega)only[↓wr,seval,wq,encI]
  refine aW.up 0 (λj T H'=>T 3=.aZ []/\T 4=.emp 1/\T 5=gi j) ⟨rfl,rfl,rfl⟩ ?_
  rintro j k T H hk ⟨t3,t4,t5⟩
  simp(disch:=omega)only[↓wr,seval,wq,kF,t3,t5]
  refine ao.dec (λs=>absurd s (by simp)) (λs=>?_)
  simp(disch:=omega)only[↓wr,seval,wq,t4]
  intro I C
  exact .emp _
def fD (s:Int × Int):List V:=[gi s.1,gi s.2]
abbrev FM (S:List (Int × Int)):V:=.aZ (S.map fD)
theorem wO (s:Int × Int):∀v∈fD s,Tree v:=by
 intro v a;simp[fD] at a
 rcases a with rfl | rfl<;>exact .val _
theorem P0 (S:List (Int × Int)):Tree (FM S):=fg _ _ λs _ v a=>wO s v a
theorem WR (h:Heap) (s:Int × Int):dF h (.agg (fD s)) (.agg (fD s)):=.agg _ _ rfl λi hi=>by
 match i,hi with
 | 0,_=>exact .val _
 | 1,_=>exact .val _
 | n+2,h=>exact absurd h (by simp[fD])
def lG (s:Int × Int):Prop:=(0<=s.1/\s.1<=1000)/\(0<=s.2/\s.2<=1000)
theorem GM {a b:Int × Int} (c:lG a) (d:lG b):lG (pQ a b):=by unfold lG pQ at *;simp only;omega
theorem Za {x:Int} : (if x<1000 then x else 1000)=min 1000 x:=by omega
def sO:SF:=⟨ai [ag [cg 2 0,cg 3 1,((some 4),.op (.alloc [(.val (.int .i64 0)),(.val (.int .i64 0))]))],ag [aw 5 0 2,au 6 5,aw 7 0 3,au 8 7,aS 9 .add 6 8,((some 10),.op (.mm false (.val (.val (.int .i64 1000))) (.tmp 9))),aw 11 1 2,au 12 11,aw 13 1 3,au 14 13,aS 15 .add 12 14,((some 16),.op (.mm false (.val (.val (.int .i64 1000))) (.tmp 15))),((some 17),.op (.build [(.val (.int .i64 0)),(.val (.int .i64 0))] [(0,1,(.tmp 10)),(1,1,(.tmp 16))])),cz 2 4 17],.ret],
 [.cell 4 (some 2)],18⟩
theorem yf:aJ aa 138 [2,3]=some sO:=by kernel_rfl
def qA:SC:=
 ai [ai [ag [af 8 6,af 9 0,aM 10 9,aS 11 .lss 8 10],bQ 11 (.exit 0)],.block 1 (ai [ag [af 14 0,af 15 6,aK 16 1 14 15,au 17 16,aH 18 .geq 17 0],.cond (.tmp 18) (ag [aU 19 2 5,((some 20),.op (.build [(.val (.int .i64 0)),(.val (.int .i64 0))] [(1,1,(.val (.val (.int .i64 1))))])),aV 21 138 [19,20],cz 2 5 21]) (ag [aU 22 2 5,af 23 1,af 24 0,af 25 6,aK 26 1 24 25,au 27 26,((some 28),.op (.arith .sub (.val (.val (.int .i64 (-1)))) (.tmp 27))),aK 29 2 23 28,aU 30 2 29,aV 31 138 [22,30],cz 2 5 31])]),ag [af 12 6,aH 13 .add 12 1,af 6 13]]
def tF:SF:=⟨ai [ag [((some 4),.op (.alloc [(.val (.int .i64 0)),(.val (.int .i64 0))]))],ag [((some 7),.op (.build [(.val (.int .i64 0)),(.val (.int .i64 0))] [])),((some 5),.op (.alloc [(.val (.int .i64 0)),(.val (.int .i64 0))])),cz 2 5 7],ai [ag [aT 6 0],bS 0 qA],ag [aU 32 2 5,cz 2 4 32],.ret],
 [.cell 4 (some 2)],33⟩
theorem yq:aJ aa 75 []=some tF:=by kernel_rfl
theorem Hm (a b:Int × Int) (d:lG a) (e:lG b):cd aa 138 [.agg (fD a),.agg (fD b)] (.agg (fD (pQ a b))):=by
 unfold lG at d e
 refine cd.of (by
  intro v c;simp at c
  rcases c with rfl | rfl
  .exact bW _ (wO a)
  .exact bW _ (wO b)) ?_
 refine az.of mixed yf ?_
 simp(disch:=omega)only[↓wr,seval,wq,sO,fD,Za]
 intro n f _
 exact WR f (pQ a b)
theorem W5 {H:View} {id n:Nat} {S:List (Int × Int)} (a:H id=.arr 2 (S.map fD)) (b:n=S.length):cq H (.sl id 0 n 2) (FM S):=by
 subst b
 exact cq.own (sz:=2) (.inr ⟨id,by simp,a⟩) λe he v a=>by
  obtain⟨x,_,rfl⟩:=aa4.1 he
  exact wO x v a
theorem WV {S:List (Int × Int)} {m:Nat} (hm:m<S.length):(S.map fD)[m]?=some (fD (lF S m)):=by simp[lF,hm]
theorem N6 (l:List Int) (S:List (Int × Int)) (y:aI l) (A:∀m,lG (lF S m)) (B:∀x∈l,bp x/\(x<0->-1-x<S.length)):cd aa 75 [encI l,FM S] (.agg (fD (oF S l (0,0)))):=by
 unfold aI at y
 refine cd.of (by
  intro v w;simp at w
  rcases w with rfl | rfl
  .exact bC l
  .exact P0 S) ?_
 refine az.of mixed yq ?_
 simp(disch:=omega)only[↓wr,seval,wq,tF,encI]
 intro n o f
 try simp(disch:=omega)only[↓wr,seval,wq,encI]
 have c:n≠o:=λe=>by subst e;simp at f
 refine aW.up l.length (λi T H'=>∃s:Int × Int,lG s/\oF S (l.drop i) s=oF S l (0,0)/\H' o=.arr 2 [fD s]/\(∃z,H' n=.arr 2 [[z,z]])/\T 0=encI l/\T 1=FM S/\T 4=.ptr n 0 0/\T 5=.ptr o 0 0/\T 6=gi i) ?_ ?_
 .exact⟨(0,0),by unfold lG;simp,rfl,by simp[View.set,fD],⟨gi 0,by simp[View.set,c]⟩,rfl,rfl,rfl,rfl,rfl⟩
 clear f
 rintro i k T H hk ⟨s,g,a,hH,⟨z,p⟩,t0,t1,t4,t5,t6⟩
 have q:=g
 unfold lG at q
 simp(disch:=omega)only[↓wr,seval,wq,qA,t0,t6,encI]
 apply ao.dec<;>intro C
 .have r:l[i]?=some (l[i]'(by omega)):=aaH (by omega)
  have b:l[i]'(by omega)∈l:=aaP _
  rw[eL (show i<l.length by omega),oF] at a
  generalize l[i]'(by omega)=x at r b a
  obtain⟨⟨D,E⟩,t⟩:=B x b
  simp(disch:=omega)only[↓wr,seval,wq,t0,t6,encI,aaJ,r]
  apply ao.dec<;>intro u
  .rw[aaL (show 0<=x from u)] at a
   simp(disch:=omega)only[↓wr,seval,wq,t5,hH,fD]
   refine ay.pure (Hm s (0,1) g (by unfold lG;simp)).pure ?_
   have h:=GM g (show lG (0,1) by unfold lG;simp)
   generalize pQ s (0,1)=s2 at a h
   simp(disch:=omega)only[↓wr,seval,wq,t4,t5,t6,hH,fD]
   refine aE hk (by omega) ⟨s2,h,a,by simp[View.set],⟨z,by simp[View.set,c,p]⟩,t0,t1,t4,t5,rfl⟩
  .rw[aaI (show ¬ 0<=x from u)] at a
   have hm:cp x<S.length:=by have:=t (by omega);unfold cp;omega
   have j:=WV hm
   have d:=A (cp x)
   generalize lF S (cp x)=s1 at a j d
   simp(disch:=omega)only[↓wr,seval,wq,t0,t1,t5,t6,hH,encI,aaJ,r,j,fD]
   refine ay.pure (Hm s s1 g d).pure ?_
   have h:=GM g d
   generalize pQ s s1=s2 at a h
   simp(disch:=omega)only[↓wr,seval,wq,t4,t5,t6,hH,fD]
   refine aE hk (by omega) ⟨s2,h,a,by simp[View.set],⟨z,by simp[View.set,c,p]⟩,t0,t1,t4,t5,rfl⟩
 .simp(disch:=omega)only[↓wr,seval,wq,t4,t5,hH,p,fD]
  rw[aa7 (by omega),oF] at a
  intro F _
  rw[<-a]
  exact WR F s
def ph:SC:=
 ai [ai [ag [af 21 7,af 22 3,aM 23 22,aS 24 .lss 21 23],bQ 24 (.exit 2)],.block 3 (ai [ag [af 27 3,af 28 7,aK 29 1 27 28,au 30 29,af 31 6,aS 32 .eql 30 31],aX 32 (ag [af 33 5,af 34 7,((some 35),.op (.build [(.val (.int .i64 0)),(.val (.int .i64 0))] [(0,1,(.val (.val (.int .i64 1))))])),aw 36 2 1,au 37 36,af 38 4,af 39 7,aK 40 1 38 39,au 41 40,aK 42 3 37 41,aw 43 1 42,au 44 43,af 45 5,aV 46 75 [44,45],aV 47 138 [35,46],aK 48 2 33 34,cz 2 48 47])]),ag [af 25 7,aH 26 .add 25 1,af 7 26]]
def pA:SC:=
 ai [ai [ag [af 15 6,af 16 3,aM 17 16,aS 18 .leq 15 17],bQ 18 (.exit 0)],.block 1 (ai [ag [aT 7 0],bS 2 ph]),ag [af 19 6,aH 20 .add 19 1,af 6 20]]
def ra:SF:=⟨ai [ag [cg 1 0,bU 2 1],.region true [⟨none,[aU 8 4 1,aV 9 136 [8],aU 10 4 1,aV 11 73 [10],af 3 9,af 4 11]⟩],ag [af 12 3,aM 13 12,((some 14),.op (.make 2 16 [(.val (.int .i64 0)),(.val (.int .i64 0))] (.tmp 13) (.tmp 13))),af 5 14],ai [ag [aT 6 1],bS 0 pA],ag [af 49 5,af 2 49],.ret],
 [.tmp 2],50⟩
theorem xR:aJ aa 76 [1]=some ra:=by kernel_rfl
theorem K8 {S:List (Int × Int)} (a:∀m,lG (lF S m)):∀(l:List Int) (s:Int × Int),lG s->lG (oF S l s)
 | [],_,h=>h
 | x::l,s,h=>K8 a l _ (GM h (by
  split; · unfold lG;simp
  .exact a _))
def ng (g:aj):List (Int × Int):=(aA g).map lR
theorem CL:lR j8=(0,0):=by decide
theorem D1 (g:aj) (m:Nat):lF (ng g) m=lR (bA (aA g) m):=by
 simp only[ng,lF,bA,aaG,aaJ]
 cases (aA g)[m]? <;> rfl
theorem To (g:aj) (m:Nat):lG (lR (bA (aA g) m)):=by
 have h:eT (bA (aA g) m):=kb g _ m
 unfold eT at h
 unfold lG lR;simp only;omega
def jV (g:aj) (j i:Nat) (S:List (Int × Int)):Prop:=S.length=g.av.length/\∀m,lF S m=if (bA (aA g) m).bH<=j∨((bA (aA g) m).bH=j+1/\m<i) then lR (bA (aA g) m) else (0,0)
theorem jV.ok {g:aj} {j i:Nat} {S:List (Int × Int)} (h:jV g j i S) (m:Nat):lG (lF S m):=by
 rw[h.2 m];split
 .exact To g m
 .unfold lG;simp
theorem XR {S:List (Int × Int)} {i m:Nat} {v:Int × Int} (hm:m<S.length):lF (S.set i v) m=if i=m then v else lF S m:=by
 simp only[lF,aaG,abw]
 split
 .rename_i e;subst e;simp[hm]
 .rfl
theorem jV.next {g:aj} {j i:Nat} {S:List (Int × Int)} (h:jV g j i S) (hi:(bA (aA g) i).bH≠(j:Int)+1):jV g j (i+1) S:=⟨h.1,λm=>by
 rw[h.2 m]
 by_cases e:m=i
 .subst e
  by_cases h1:(bA (aA g) m).bH<=j
  .rw[aaL (.inl h1),aaL (.inl h1)]
  .rw[aaI (by omega),aaI (by omega)]
 .congr 1
  simp only[eq_iff_iff]
  constructor<;>rintro (h1 | h1)<;>first | exact .inl h1 | exact .inr ⟨h1.1,by omega⟩⟩
theorem jV.put {g:aj} {j i:Nat} {S:List (Int × Int)} (h:jV g j i S) (hi:(bA (aA g) i).bH=(j:Int)+1) (a:i<g.av.length):jV g j (i+1) (S.set i (lR (bA (aA g) i))):=⟨by simp[h.1],λm=>by
 by_cases hm:m<S.length
 .rw[XR hm]
  by_cases e:i=m
  .subst e;rw[aaL rfl,aaL (.inr ⟨hi,by omega⟩)]
  .rw[aaI e,h.2 m]
   congr 1
   simp only[eq_iff_iff]
   constructor<;>rintro (h1 | h1)<;>first | exact .inl h1 | exact .inr ⟨h1.1,by omega⟩
 .have:bA (aA g) m=j8:=ye (by rw[gR,<-h.1];omega)
  have e:lF (S.set i (lR (bA (aA g) i))) m=(0,0):=by
   simp only[lF,aaG];rw[abi (by simp;omega)];rfl
  rw[e,this]
  split<;>simp[CL]⟩
theorem jV.Wc {g:aj} {j:Nat} {S:List (Int × Int)} (h:jV g j g.av.length S):jV g (j+1) 0 S:=⟨h.1,λm=>by
 rw[h.2 m]
 by_cases hm:m<g.av.length
 .congr 1
  simp only[eq_iff_iff]
  push_cast
  constructor
  .rintro (h1 | h1)<;>left<;>omega
  .rintro (h1 | h1)
   .omega
   .omega
 .have:bA (aA g) m=j8:=ye (by rw[gR];omega)
  rw[this];split<;>split<;>simp[CL]⟩
theorem jV.start (g:aj):jV g 0 0 (List.replicate g.av.length (0,0)):=⟨by simp,λm=>by
 have e:lF (List.replicate g.av.length (0,0)) m=(0,0):=by
  simp only[lF,aaG,abA]
  split<;>rfl
 rw[e]
 split
 .rename_i h
  by_cases hk:bJ (aA g) m
  .have:=(lJ hk).1;omega
  .rw[zk hk];simp[CL]
 .rfl⟩
theorem jV.done {g:aj} {S:List (Int × Int)} (h:jV g g.av.length 0 S):S=ng g:=by
 apply abB (by simp[h.1,ng,gR])
 intro m h1 a
 have e:S[m]=lF S m:=by simp[lF,h1]
 have b:(ng g)[m]=lF (ng g) m:=by simp[lF,a]
 rw[e,b,h.2 m,D1]
 by_cases hk:bJ (aA g) m
 .rw[aaL (.inl (lJ hk).2)]
 .rw[zk hk];split<;>simp[CL]
theorem Vf (g:aj) (B:g.Ok) (hr:bt g=true):cd aa 76 [.agg (ak g)] (FM (ng g)):=by
 refine cd.of (dR g) ?_
 refine az.of mixed xR ?_
 simp(disch:=omega)only[↓wr,seval,wq,ra,ak,encS]
 refine ay.pure (Bn g B).pure ?_
 simp(disch:=omega)only[↓wr,seval,wq]
 refine ay.pure (E1 g B).pure ?_
 have A:=bF hr
 have W:=A.lg
 have z2:=A.av
 have z3:=A.rules
 rw[aaL hr,aaL hr]
 have a:=gR g
 simp(disch:=omega)only[↓wr,seval,wq,encI,a]
 refine⟨⟨by omega,by unfold aF;omega,by unfold aF;omega⟩,λh=>by omega,?_⟩
 intro _ b
 try simp(disch:=omega)only[↓wr,seval,wq]
 refine aW.up g.av.length (λj T H'=>∃S,jV g j 0 S/\H' b=.arr 2 (S.map fD)/\T 1=.aP (ak g) 0/\T 3=encI (fW (aA g))/\T 4=encI (iS g)/\T 5=.sl b 0 g.av.length 2/\T 6=gi ((j:Int)+1)) ?_ ?_
 .refine⟨_,.start g,?_,rfl,rfl,rfl,rfl,rfl⟩
  simp[View.set,fD]
 rintro j k T H hk ⟨S,c,d,t1,t3,t4,t5,t6⟩
 simp(disch:=omega)only[↓wr,seval,wq,pA,t3,t6,encI,a]
 apply ao.dec<;>intro L
 .simp(disch:=omega)only[↓wr,seval,wq]
  refine aW.up g.av.length (λi T H'=>∃S,jV g j i S/\H' b=.arr 2 (S.map fD)/\T 1=.aP (ak g) 0/\T 3=encI (fW (aA g))/\T 4=encI (iS g)/\T 5=.sl b 0 g.av.length 2/\T 6=gi ((j:Int)+1)/\T 7=gi i) ⟨S,c,d,t1,t3,t4,t5,t6,rfl⟩ ?_
  clear t1 t3 t4 t5 t6 c d
  rintro i q T H I ⟨S,c,d,t1,t3,t4,t5,t6,t7⟩
  simp(disch:=omega)only[↓wr,seval,wq,ph,t3,t7,encI,a]
  apply ao.dec<;>intro C
  .have p:=CC (h:=fW (aA g)) (m:=i) (by simp;omega)
   rw[nq] at p
   simp(disch:=omega)only[↓wr,seval,wq,t3,t6,t7,encI,aaJ,p]
   apply ao.eq<;>intro hi
   .have s:bJ (aA g) i:=by
     by_cases h:bJ (aA g) i
     .exact h
     .rw[zk h] at hi;simp[j8] at hi;omega
    obtain⟨D,r,f,M,N,E,_⟩:=oc s
    have t:(bA (aA g) i).aB=D:=by rw[E];rfl
    have u:=CC (h:=iS g) (m:=i) (by simp[iS,a];omega)
    have F:gB (iS g) i=D:=by
     rw[<-t];simp[iS,gB,bA,a,show i<g.av.length by omega]
    rw[F] at u
    have l:=aaV f
    have O:D<g.rules.length:=(aaO.1 f).1
    have v:=B.aB r l
    simp(disch:=omega)only[↓wr,seval,wq,t1,t4,t5,t7,encI,ak,aO,aaJ,u,f]
    refine ay.kq (N6 r.right S v.2.2.1 c.ok λx J=>⟨v.2.2.2 x J,λP=>by rw[c.1];exact A.neg l J P⟩) (by kernel_rfl) ⟨cq.tree (bC r.right),W5 d c.1.symm,trivial⟩ ?_
    have w:=TW (S:=S) s f t λk Q R=>by rw[c.2 k,aaL (.inl (by omega))]
    have y:lG (oF S r.right (0,0)):=K8 c.ok _ _ (by unfold lG;simp)
    generalize oF S r.right (0,0)=z at w y
    simp(disch:=omega)only[↓wr,seval,wq]
    refine ay.pure (Hm (1,0) z (by unfold lG;simp) y).pure ?_
    rw[w]
    simp(disch:=omega)only[↓wr,seval,wq,t5,t6,t7,d,fD]
    have U:=c.1
    have G:(S.map fD).getD i []=fD (lF S i):=by simp[lF,show i<S.length by omega]
    refine⟨by omega,by omega,aE I (by omega) ⟨_,c.put hi (by omega),?_,t1,t3,t4,t5,t6,rfl⟩⟩
    simp only[View.set,if_true]
    rw[acp,G];simp only[fD,acQ,List.drop_nil]
   .simp(disch:=omega)only[↓wr,seval,wq,t5,t6,t7]
    exact aE I (by omega) ⟨S,c.next hi,d,t1,t3,t4,t5,t6,rfl⟩
  .simp(disch:=omega)only[↓wr,seval,wq,t5,t6]
   have o:i=g.av.length:=by omega
   subst o
   exact aE hk (by omega) ⟨S,c.Wc,d,t1,t3,t4,t5,rfl⟩
 .simp(disch:=omega)only[↓wr,seval,wq,t5]
  have o:j=g.av.length:=by omega
  subst o
  rw[c.done] at d
  intro X V
  exact dF.own (sz:=2) (.inr ⟨b,by simp[ng,a],by rw[V];exact d⟩) rfl (λi _=>rfl) (λi j hi K=>by
   simp only[aaM] at hi
   have e:((ng g).map fD).getD i []=fD (ng g)[i]:=by simp[hi]
   rw[e] at K ⊢
   match j,K with
   | 0,_=>exact .val _
   | 1,_=>exact .val _
   | n+2,h=>exact absurd h (by simp[fD]))
def qm:SC:=
 ai [ai [ag [af 9 8,af 10 1,aM 11 10,aS 12 .lss 9 11],bQ 12 (.exit 0)],.block 1 (ai [ag [af 15 1,af 16 8,aK 17 1 15 16,au 18 17,aH 19 .geq 18 0],.cond (.tmp 19) (ag [af 20 7,af 21 1,af 22 8,aK 23 1 21 22,au 24 23,((some 25),.op (.bO 1 1 [(.val (.int .i64 0))] [(0,(.tmp 24))])),fP 26 1 8 20 25,af 7 26]) (ag [af 27 7,aU 28 4 3,aw 29 2 3,au 30 29,af 31 2,af 32 1,af 33 8,aK 34 1 32 33,au 35 34,((some 36),.op (.arith .sub (.val (.val (.int .i64 (-1)))) (.tmp 35))),aK 37 1 31 36,au 38 37,aK 39 3 30 38,aw 40 1 39,au 41 40,af 42 2,aV 43 77 [28,41,42],fP 44 1 8 27 43,af 7 44])]),ag [af 13 8,aH 14 .add 13 1,af 8 14]]
def tx:SF:=⟨ai [ag [cg 3 0,bU 6 1],ag [bU 7 1],ai [ag [aT 8 0],bS 0 qm],ag [af 45 7,af 6 45],.ret],
 [.tmp 6],46⟩
theorem yV:aJ aa 77 [3]=some tx:=by kernel_rfl
theorem FP {g:aj} {m:Nat} (h:m<g.av.length):(iS g)[m]?=some (bA (aA g) m).aB:=by
 have:m<(aA g).length:=by rw[gR];exact h
 simp[iS,bA,this]
theorem SH (g:aj) (f:Nat) (l:List Int) (i:Nat):(fp g (aA g) f (l.take i)).length<=(fp g (aA g) f l).length:=by
 have:=j6 g (aA g) f (l.take i) (l.drop i)
 rw[acJ] at this
 rw[this];simp
theorem Jb (g:aj) (f:Nat) (l:List Int) (i:Nat):(dV g (aA g) f (l.take i)).length<=(dV g (aA g) f l).length:=by
 have:=gh g (aA g) f (l.take i) (l.drop i)
 rw[acJ] at this
 rw[this];simp
theorem Q8 (g:aj) (L:g.Ok) (M:g.c5):∀(f:Nat) (l:List Int),aI l->(∀x∈l,bp x/\(x<0->-1-x<g.av.length))->C9 (aA g) f l->(dV g (aA g) f l).length<=100000->∀H:View,
  az aa 77 [.agg (ak g),encI l,encI (iS g)] H λr H'=>aQ H' r 1 (aR (dV g (aA g) f l))/\ct H H' r:=by
 intro f
 induction f using Nat.strongRecOn with
 | _ f N =>
  intro l O z hu hb P
  refine az.of mixed yV ?_
  unfold aI at O
  simp(disch:=omega)only[↓wr,seval,wq,tx,encI,ak,encS]
  refine aW.up l.length (λi T H'=>∃u,T 7=u/\aQ H' u 1 (aR (dV g (aA g) f (l.take i)))/\ct P H' u/\T 1=encI l/\T 2=encI (iS g)/\T 3=.aP (ak g) 0/\T 8=gi i) ⟨.emp 1,rfl,by rw[List.take_zero,po];exact .nil,.emp,rfl,rfl,rfl,rfl⟩ ?_
  rintro i k T H hk ⟨u,t7,w,e,t1,t2,t3,t8⟩
  simp(disch:=omega)only[↓wr,seval,wq,qm,t1,t8,encI]
  apply ao.dec<;>intro Q
  .have b:l[i]?=some (l[i]'(by omega)):=aaH (by omega)
   have a:l[i]'(by omega)∈l:=aaP _
   have d:l.take (i+1)=l.take i++[l[i]'(by omega)]:=by rw[aa2,b];rfl
   have c:=Jb g f l (i+1)
   generalize l[i]'(by omega)=x at b a d
   obtain⟨⟨R,S⟩,A⟩:=z x a
   rw[d,gh] at c
   simp(disch:=omega)only[↓wr,seval,wq,t1,t8,encI,aaJ,b]
   apply ao.dec<;>intro B
   .rw[ka (show 0<=x from B)] at c
    simp only[aa5,aaS,abe] at c
    simp(disch:=omega)only[↓wr,seval,wq,t1,t7,t8,encI,aaJ,b]
    intro n h
    rw[bE]
    simp(disch:=omega)only[↓wr,seval,wq]
    refine fE (w.fresh h) (by simp[aL]) (by unfold aF;simp;omega) (by unfold aF;simp;omega) ?_
    intro U H1 C D
    simp(disch:=omega)only[↓wr,seval,wq,t8]
    refine aE hk (by omega) ⟨U,rfl,?_,(e.put h).step D,t1,t2,t3,rfl⟩
    rw[d,gh,ka (show 0<=x from B)]
    simpa using C
   .obtain⟨f,rfl⟩:∃V,f=V+1:=by
     cases f with
     | zero=>have:=Cs hu x a;omega
     | succ f=>exact⟨f,rfl⟩
    obtain⟨E,J⟩:=hu x a (by omega)
    obtain⟨W,r,hi,hr,j,F,_⟩:=vd (f:=f) E (by push_cast at J;exact J)
    have o:=FP (g:=g) (m:=cp x) (by have:=A (by omega);unfold cp;omega)
    have p:=aaV hr
    have X:W<g.rules.length:=(aaO.1 hr).1
    have q:=L.aB r p
    rw[kX (by omega),j] at c
    rw[hi] at o
    simp only[aa5] at c
    simp(disch:=omega)only[↓wr,seval,wq,t1,t2,t3,t7,t8,encI,ak,aO,encS,aaJ,b,o,hr]
    have s:=N f (by omega) r.right q.2.2.1 (λy K=>⟨q.2.2.2 y K,λz=>M.neg p K z⟩) F (by omega) H
    simp only[ak,encI,encS] at s
    refine ay.cw (s.mono ?_)
    rintro v H2 ⟨Y,t⟩
    obtain⟨rd,he⟩:=Y.elems
    simp(disch:=omega)only[↓wr,seval,wq,he]
    refine fE (w.Rk t) (by simp[aL]) (by unfold aF;simp;omega) (by unfold aF;simp;omega) ?_
    intro Z H3 G I
    simp(disch:=omega)only[↓wr,seval,wq,t8]
    refine aE hk (by omega) ⟨Z,rfl,?_,(e.call t).step I,t1,t2,t3,rfl⟩
    rw[d,gh,kX (by omega),j]
    simpa using G
  .simp(disch:=omega)only[↓wr,seval,wq,t7]
   rw[aaY (by omega)] at w
   exact⟨w,e⟩
def DK (x:List Int × Int):V:=.bb [encI x.1,gi x.2]
theorem lp {h:Heap} {u:V} {x:List Int × Int} (hu:dF h u (encI x.1)):dF h (.bb [u,gi x.2]) (DK x):=Kd hu (.val _)
theorem s6 {g:aj} {l:List Int} (h:iz (aA g) l):C9 (aA g) g.av.length l:=λx a b=>⟨h x a b,(lJ (h x a b)).2⟩
theorem S4 {g:aj} {l:List Int} (h:iz (aA g) l) (a:(bP (aA g) l bm).1.rules<=300):((fp g (aA g) g.av.length l).length:Int)=(bP (aA g) l bm).1.rules:=by
 have:=(pf g g.av.length l bm (s6 h) ib).1
 simp only[bm] at this a ⊢
 omega
theorem IA {g:aj} {l:List Int} (h:iz (aA g) l) (a:(bP (aA g) l bm).1.ax<=60):((dV g (aA g) g.av.length l).length:Int)=(bP (aA g) l bm).1.ax:=by
 have:=(pf g g.av.length l bm (s6 h) ib).2
 simp only[bm] at this a ⊢
 omega
def pU:SC:=
 ai [ai [ag [af 15 8,af 16 1,aM 17 16,aS 18 .lss 15 17],bQ 18 (.exit 0)],.block 1 (ai [ai [ag [aU 21 4 2,af 22 1,af 23 8,aK 24 1 22 23,au 25 24,aV 26 74 [21,25],cX 27 26],aX 27 (ai [ag [bU 4 1,aT 5 1],.ret])],.region false [⟨none,[af 28 7,af 29 28]⟩,⟨(some (29,false)),[af 30 1,af 31 8,aK 32 1 30 31,au 33 32,aH 34 .lss 33 0,af 35 34]⟩,⟨(some (35,true)),[af 36 6,af 37 1,af 38 8,aK 39 1 37 38,au 40 39,((some 41),.op (.arith .sub (.val (.val (.int .i64 (-1)))) (.tmp 40))),aK 42 1 36 41,au 43 42,aH 44 .lss 43 0]⟩,⟨(some (29,false)),[dQ 45 35 44]⟩,⟨none,[cG 46 29 45,af 7 46]⟩]]),ag [af 19 8,aH 20 .add 19 1,af 8 20]]
def tL:SF:=⟨ai [ag [cg 2 0,bU 4 1,aT 5 0],ai [ag [aU 10 4 2,aV 11 50 [10],cX 12 11],aX 12 (ai [ag [bU 4 1,aT 5 1],.ret])],ag [aU 13 4 2,aV 14 73 [13],af 6 14],ag [bh 7 false],ai [ag [aT 8 0],bS 0 pU],ai [ag [af 47 7],aX 47 (ai [ag [bU 4 1,aT 5 9],.ret])],ag [af 48 1,aU 49 4 2,aV 50 76 [49],aV 51 75 [48,50],((some 9),.op (.alloc [(.val (.int .i64 0)),(.val (.int .i64 0))])),cz 2 9 51],ai [.region false [⟨none,[aw 52 0 9,au 53 52,aH 54 .gtr 53 300,af 55 54]⟩,⟨(some (55,false)),[aw 56 1 9,au 57 56,aH 58 .gtr 57 60]⟩,⟨none,[cG 59 55 58]⟩],aX 59 (ai [ag [bU 4 1,aT 5 13],.ret])],ag [aU 60 4 2,af 61 1,af 62 6,aV 63 77 [60,61,62],af 4 63,aT 5 0],.ret],
 [.tmp 4,.tmp 5],64⟩
theorem yH:aJ aa 34 [2]=some tL:=by kernel_rfl
def od (P:List bB) (l:List Int):Bool:=l.any λx=>decide (x<0)&&decide ((bA P (cp x)).aB<0)
theorem O2 (P:List bB) (l:List Int) (s:bB):(bP P l s).2 = !od P l:=by
 have h:=ia P l s
 cases a:od P l with
 | true =>
  simp only[od,abU,aaR,aaX] at a
  obtain⟨x,b,c,hk⟩:=a
  cases d:(bP P l s).2 with
  | true=>have:=h.1 d x b c;unfold bJ at this;omega
  | false=>rfl
 | false =>
  rw[Bool.not_false,h]
  intro x b c
  simp only[od,List.any_eq_false,aaR,aaX] at a
  have:=a x b
  unfold bJ;omega
theorem I9 (g:aj) (D:g.Ok) (l:List Int) (W:l.length<=1000000) (L:∀x∈l,bp x):cd aa 34 [.agg (ak g),encI l] (DK (di g l)):=by
 have A:aI l:=by unfold aI;omega
 refine cd.of (by
  intro v E;simp at E
  rcases E with rfl | rfl
  .exact bW _ (cB g)
  .exact bC l) ?_
 refine az.of mixed yH ?_
 simp(disch:=omega)only[↓wr,seval,wq,tL,ak,encS]
 refine ay.pure (jQ g D) ?_
 have bad:∀p:Heap,(bt g&&l.all (dN g))=false->dF p (.bb [.emp 1,gi 1]) (DK (di g l)):=λp e=>by
  unfold di;rw[aaI (by rw[e];simp)];exact lp (x:=([],1)) (.emp _)
 repeat' (first | ((first|apply ao.dec|apply ao.eq|apply ao.ne|apply ao.split)<;>intro)|(simp(disch:=omega)only[↓wr,seval,wq]))
 .rename_i hr
  have F:=bF hr
  have X:=F.lg
  have z2:=F.av
  have z3:=F.rules
  have M:=E1 g D
  rw[aaL hr] at M
  refine ay.pure M.pure ?_
  simp(disch:=omega)only[↓wr,seval,wq,encI]
  refine aW.up l.length (λi T H'=>(l.take i).all (dN g)=true/\T 1=encI l/\T 2=.aP (ak g) 0/\T 6=encI (iS g)/\T 7=gb (od (aA g) (l.take i))/\T 8=gi i) ⟨rfl,rfl,rfl,rfl,rfl,rfl⟩ ?_
  rintro i k T H hk ⟨b,t1,t2,t6,t7,t8⟩
  simp(disch:=omega)only[↓wr,seval,wq,pU,t1,t8,encI]
  apply ao.dec<;>intro O
  .have a:l[i]?=some (l[i]'(by omega)):=aaH (by omega)
   have d:l[i]'(by omega)∈l:=aaP _
   have u:l.take (i+1)=l.take i++[l[i]'(by omega)]:=by rw[aa2,a];rfl
   generalize l[i]'(by omega)=x at a d u
   have r:=L x d
   have G:=r
   unfold bp at G
   simp(disch:=omega)only[↓wr,seval,wq,t1,t2,t8,encI,ak,encS,aaJ,a]
   refine ay.pure (Uf g x r) ?_
   have f:od (aA g) (l.take (i+1))=(od (aA g) (l.take i)||(decide (x<0)&&decide ((bA (aA g) (cp x)).aB<0))):=by
    rw[u];simp[od]
   have q:(l.take (i+1)).all (dN g)=dN g x:=by
    rw[u,acU,b];simp
   generalize od (aA g) (l.take i)=P at t7 f
   simp(disch:=omega)only[↓wr,seval,wq]
   apply ao.split<;>intro s
   .have I:x<0->cp x<g.av.length:=λc=>by
     unfold dN at s
     rw[aaI (by omega)] at s
     simp at s
     unfold cp;omega
    rw[s] at q
    simp(disch:=omega)only[↓wr,seval,wq,t7]
    cases P with
    | true =>
     simp(disch:=omega)only[↓wr,seval,wq,t8]
     exact aE hk (by omega) ⟨q,t1,t2,t6,by rw[f];rfl,rfl⟩
    | false =>
     rw[acM] at f
     simp(disch:=omega)only[↓wr,seval,wq,t1,t8,encI,aaJ,a]
     apply ao.dec<;>intro c
     .have J:=FP (I c)
      simp(disch:=omega)only[↓wr,seval,wq,t1,t6,t8,encI,aaJ,a,J]
      exact aE hk (by omega) ⟨q,t1,t2,t6,by rw[f,abj c];rfl,rfl⟩
     .simp(disch:=omega)only[↓wr,seval,wq,t1,t2,t8,encI,ak,encS]
      exact aE hk (by omega) ⟨q,t1,t2,t6,by rw[f,decide_eq_false c];rfl,rfl⟩
   .simp(disch:=omega)only[↓wr,seval,wq,t7,t8]
    intro p _
    refine bad p ?_
    rw[Bool.and_eq_false_iff];right
    rw[acK]
    exact⟨x,d,by simp[s]⟩
  .rw[aaY (by omega)] at b t7
   have j:di g l=_:=aaL (by simp only[hr,b,Bool.and_self])
   have w:=O2 (aA g) l bm
   rw[w] at j
   cases N:od (aA g) l with
   | true =>
    rw[N] at t7 j
    simp(disch:=omega)only[↓wr,seval,wq,t7]
    intro p _
    rw[j];exact lp (x:=([],9)) (.emp _)
   | false =>
    rw[N] at t7 j w
    have y:=(ia (aA g) l bm).1 w
    have z:∀x∈l,bp x/\(x<0->-1-x<g.av.length):=λx r=>⟨L x r,λc=>by
     have:=abc.1 b x r
     unfold dN at this
     rw[aaI (by omega)] at this
     simpa using this⟩
    simp(disch:=omega)only[↓wr,seval,wq,t1,t2,t7,ak,encS,encI]
    refine ay.pure (Vf g D hr).pure ?_
    simp(disch:=omega)only[↓wr,seval,wq,t7]
    have o:=N6 l (ng g) A (λm=>by rw[D1];exact To g m) (λx r=>⟨(z x r).1,λh=>by simp only[ng,aaM,gR];exact(z x r).2 h⟩)
    have t:∀m,eT (bA (aA g) m):=λm=>kb g _ m
    have K:=zr t l bm (0,0) ib y (λx _ _=>D1 g _) (S:=ng g) rfl
    have B:=oV t l bm ib
    have C:=IA y
    rw[K] at o
    generalize Q:(bP (aA g) l bm).1=sp at j o B C
    unfold eT at B
    refine ay.pure o.pure ?_
    simp(disch:=omega)only[↓wr,seval,wq,fD,lR]
    intro n R
    try simp(disch:=omega)only[↓wr,seval,wq,t1,t2,t6,t7,t8,fD,lR]
    apply ao.dec<;>intro U
    .simp(disch:=omega)only[↓wr,seval,wq]
     rw[aaI (by simp),aaL (.inl (by omega))] at j
     intro p _
     rw[j];exact lp (x:=([],13)) (.emp _)
    .simp(disch:=omega)only[↓wr,seval,wq]
     apply ao.dec<;>intro V
     .simp(disch:=omega)only[↓wr,seval,wq]
      rw[aaI (by simp),aaL (.inr (by omega))] at j
      intro p _
      rw[j];exact lp (x:=([],13)) (.emp _)
     .rw[aaI (by simp),aaI (by omega)] at j
      simp(disch:=omega)only[↓wr,seval,wq,t1,t2,t6,t7,encI,ak,encS]
      have hw:=Q8 g D F g.av.length l A z (s6 y) (by have:=C (by omega);omega)
      simp only[ak,encI,encS] at hw
      refine ay.cw ((hw _).mono ?_)
      rintro v H1 ⟨E,_⟩
      simp(disch:=omega)only[↓wr,seval,wq]
      intro p s
      rw[j];exact lp (x:=(_,0)) (jx (by rw[s];exact E))
 .intro p _
  refine bad p ?_
  simp_all
end Gv
