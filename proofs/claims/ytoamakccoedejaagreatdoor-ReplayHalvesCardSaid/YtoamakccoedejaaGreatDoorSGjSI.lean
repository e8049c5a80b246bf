/-
  Part 9 of the proof: what the machine does and what the functions answer.
  Conditions: those that each lemma names.
-/
import Derived.Shelf.Strings.OnBuilder
import Derived.Test.YtoamakccoedejaaGreatDoorProg
import Derived.StillTailTactics
import Derived.Deep.RegionWith
import Derived.Test.YtoamakccoedejaaGreatDoorSGjSH
set_option linter.unusedSimpArgs false
set_option linter.unusedVariables false
set_option maxRecDepth 100000
set_option maxHeartbeats 20000000
namespace Gv
noncomputable section
open Go Go.Proofs
def dh:SC:=
 ai [af [cm 14 .lss 13 12],eY 14 (.exit 0),.block 1 (ai [af [ab 15 13,ab 5 15],af [ab 16 0,ab 17 5,b4 18 3 16 17,c6 19 3 18,ab 20 1,ab 21 5,b4 22 3 20 21,c6 23 3 22,((some 24),.op (.old (.binOp .neq 107 (.tmp 19) (.tmp 23) 107) 4))],bV 24 (ai [af [bq 4 false],.ret])]),af [aZ 25 .add 13 1,ab 13 25]]
def dx:SF:=⟨ai [af [bq 4 false],ai [af [ab 6 0,bg 7 6,ab 8 1,bg 9 8,cm 10 .neq 7 9],bV 10 (ai [af [bq 4 false],.ret])],ai [af [ab 11 0,bg 12 11,bR 13 0],fk 0 dh],af [bq 4 true],.ret],
 [.tmp 4],26⟩
theorem fe:aM aa 168 []=some dx:=by kernel_rfl
def dJ:SC:=
 ai [af [cm 14 .lss 13 12],eY 14 (.exit 0),.block 1 (ai [af [ab 15 13,ab 5 15],af [ab 16 0,ab 17 5,b4 18 1 16 17,aG 19 18,ab 20 1,ab 21 5,b4 22 1 20 21,aG 23 22,((some 24),.op (.qF .neq (.tmp 19) (.tmp 23)))],bV 24 (ai [af [bq 4 false],.ret])]),af [aZ 25 .add 13 1,ab 13 25]]
def dX:SF:=⟨ai [af [bq 4 false],ai [af [ab 6 0,bg 7 6,ab 8 1,bg 9 8,cm 10 .neq 7 9],bV 10 (ai [af [bq 4 false],.ret])],ai [af [ab 11 0,bg 12 11,bR 13 0],fk 0 dJ],af [bq 4 true],.ret],
 [.tmp 4],26⟩
theorem gg:aM aa 169 []=some dX:=by kernel_rfl
def eQ:SC:=
 ai [af [cm 14 .lss 13 12],eY 14 (.exit 0),.block 1 (ai [af [ab 15 13,ab 5 15],af [ab 16 0,ab 17 5,b4 18 1 16 17,aG 19 18,ab 20 1,ab 21 5,b4 22 1 20 21,aG 23 22,cm 24 .neq 19 23],bV 24 (ai [af [bq 4 false],.ret])]),af [aZ 25 .add 13 1,ab 13 25]]
def fi:SF:=⟨ai [af [bq 4 false],ai [af [ab 6 0,bg 7 6,ab 8 1,bg 9 8,cm 10 .neq 7 9],bV 10 (ai [af [bq 4 false],.ret])],ai [af [ab 11 0,bg 12 11,bR 13 0],fk 0 eQ],af [bq 4 true],.ret],
 [.tmp 4],26⟩
theorem iF:aM aa 67 []=some fi:=by kernel_rfl
def o4:SF:=⟨ai [af [gU 2 0,gU 3 1,bq 4 false],.region false [⟨none,[aO 5 0 2,aG 6 5,aO 7 0 3,aG 8 7,cm 9 .eql 6 8,ab 10 9]⟩,⟨(some (10,true)),[aO 11 2 2,aG 12 11,aO 13 2 3,aG 14 13,cm 15 .eql 12 14]⟩,⟨none,[jg 16 10 15,ab 17 16]⟩,⟨(some (17,true)),[aO 18 1 2,aG 19 18,aO 20 1 3,aG 21 20,bX 22 67 [19,21]]⟩,⟨none,[jg 23 17 22,ab 4 23]⟩],.ret],
 [.tmp 4],24⟩
theorem r7:aM aa 171 [2,3]=some o4:=by kernel_rfl
def bu:SC:=
 ai [af [cm 18 .lss 17 16],eY 18 (.exit 0),.block 1 (ai [af [ab 19 17,b4 20 3 15 17,c6 21 3 20,((some 8),.op (.alloc [(.val (.int .i64 0)),(.emp 1),(.val (.int .i64 0))])),ab 7 19,gp 3 8 21],af [ab 22 1,ab 23 7,b4 24 3 22 23,c6 25 3 24,((some 9),.op (.alloc [(.val (.int .i64 0)),(.emp 1),(.val (.int .i64 0))])),gp 3 9 25],af [ab 26 2,c6 27 3 8,c6 28 3 9,((some 29),.call (.tmp 26) [(.tmp 27),(.tmp 28)]),db 30 29],bV 30 (ai [af [bq 6 false],.ret])]),af [aZ 31 .add 17 1,ab 17 31]]
def bA:SF:=⟨ai [af [bq 6 false],ai [af [ab 10 0,bg 11 10,ab 12 1,bg 13 12,cm 14 .neq 11 13],bV 14 (ai [af [bq 6 false],.ret])],ai [af [ab 15 0,bg 16 15,bR 17 0],fk 0 bu],af [bq 6 true],.ret],
 [.tmp 6],32⟩
theorem cM:aM aa 170 []=some bA:=by kernel_rfl
def qY:SF:=⟨ai [af [gU 2 0,gU 3 1,bq 4 false],.region false [⟨none,[aO 5 0 2,aG 6 5,aO 7 0 3,aG 8 7,bX 9 168 [6,8],ab 10 9]⟩,⟨(some (10,true)),[aO 11 1 2,aG 12 11,aO 13 1 3,aG 14 13,bX 15 169 [12,14]]⟩,⟨none,[jg 16 10 15,ab 17 16]⟩,⟨(some (17,true)),[aO 18 2 2,aG 19 18,aO 20 2 3,aG 21 20,mM 22 170 [(.tmp 19),(.tmp 21),(.val (.fn 171 [] []))]]⟩,⟨none,[jg 23 17 22,ab 24 23]⟩,⟨(some (24,true)),[aO 25 3 2,aG 26 25,aO 27 3 3,aG 28 27,cm 29 .eql 26 28]⟩,⟨none,[jg 30 24 29,ab 4 30]⟩],.ret],
 [.tmp 4],31⟩
theorem tB:aM aa 103 [2,3]=some qY:=by kernel_rfl
theorem B1 {α:Type} {f g:α->List V} {a b:List α} (d:∀x,∀v∈f x,Tree v) (e:∀x,∀v∈g x,Tree v):∀v∈[V.al (a.map f),V.al (b.map g)],Tree v:=by
 intro v c;simp at c
 rcases c with rfl | rfl
 .exact dP _ _ λx _=>d x
 .exact dP _ _ λx _=>e x
theorem AA (a b:List Term) (m:aF a) (H:View):ar aa 168 [.al (a.map cd),.al (b.map cd)] H λr _=>r=gb (decide (a=b)):=by
 refine ar.of mixed fe ?_
 unfold aF at m
 simp(disch:=omega)only[↓wr,seval,wq,dx]
 apply aj.ne<;>intro h
 .simp(disch:=omega)only[↓wr,seval,wq]
  rw[decide_eq_false (qD (by omega))]
 .simp(disch:=omega)only[↓wr,seval,wq]
  refine bH.up a.length (λi T _=>a.take i=b.take i/\T 0=.al (a.map cd)/\T 1=.al (b.map cd)/\T 12=gi a.length/\T 13=gi i) ⟨by simp,rfl,rfl,rfl,rfl⟩ ?_
  rintro i k T H n ⟨hi,c,d,f,g⟩
  simp(disch:=omega)only[↓wr,seval,wq,dh,c,d,f,g]
  apply aj.dec<;>intro o
  .have j:a[i]?=some (a[i]'(by omega)):=GR (by omega)
   have l:b[i]?=some (b[i]'(by omega)):=GR (by omega)
   generalize a[i]'(by omega)=x at j
   generalize b[i]'(by omega)=y at l
   simp(disch:=omega)only[↓wr,seval,wq,c,d,f,g,GY,j,l,cd]
   refine wx (xs:=#[.string x.name,.int .i64 x.level,.int .i64 x.assoc]) (ys:=#[.string y.name,.int .i64 y.level,.int .i64 y.assoc]) Tryz.underlying107 (by kernel_rfl) (by kernel_rfl) ?_ ?_ (wv x y) (.inr ⟨rfl,rfl⟩) ?_
   .rfl
   .rfl
   rw[Ep]
   simp(disch:=omega)only[↓wr,seval,wq,c,d,f,g]
   apply aj.split<;>intro e
   .simp(disch:=omega)only[↓wr,seval,wq,c,d,f,g]
    exact bC n (by omega) ⟨ox j l hi (by simpa using e),c,d,f,rfl⟩
   .simp(disch:=omega)only[↓wr,seval,wq,c,d,f,g]
    rw[decide_eq_false (tE j l (by simpa using e))]
  .simp(disch:=omega)only[↓wr,seval,wq,c,d,f,g]
   rw[decide_eq_true (qH (by omega) (by omega) hi)]
theorem A7 (a b:List ByteArray) (m:aF a) (H:View):ar aa 169 [encS a,encS b] H λr _=>r=gb (decide (a=b)):=by
 refine ar.of mixed gg ?_
 unfold aF at m
 simp(disch:=omega)only[↓wr,seval,wq,dX,encS]
 apply aj.ne<;>intro h
 .simp(disch:=omega)only[↓wr,seval,wq]
  rw[decide_eq_false (qD (by omega))]
 .simp(disch:=omega)only[↓wr,seval,wq]
  refine bH.up a.length (λi T _=>a.take i=b.take i/\T 0=encS a/\T 1=encS b/\T 12=gi a.length/\T 13=gi i) ⟨by simp,rfl,rfl,rfl,rfl⟩ ?_
  rintro i k T H n ⟨hi,c,d,f,g⟩
  simp(disch:=omega)only[↓wr,seval,wq,dJ,c,d,f,g,encS]
  apply aj.dec<;>intro o
  .have j:a[i]?=some (a[i]'(by omega)):=GR (by omega)
   have l:b[i]?=some (b[i]'(by omega)):=GR (by omega)
   generalize a[i]'(by omega)=x at j
   generalize b[i]'(by omega)=y at l
   simp(disch:=omega)only[↓wr,seval,wq,c,d,f,g,encS,GY,j,l,Av]
   apply aj.split<;>intro e
   .simp(disch:=omega)only[↓wr,seval,wq,c,d,f,g]
    exact bC n (by omega) ⟨ox j l hi (by simpa using e),c,d,f,rfl⟩
   .simp(disch:=omega)only[↓wr,seval,wq,c,d,f,g]
    rw[decide_eq_false (tE j l (by simpa using e))]
  .simp(disch:=omega)only[↓wr,seval,wq,c,d,f,g]
   rw[decide_eq_true (qH (by omega) (by omega) hi)]
theorem Cb (a b:List Int) (m:aF a) (H:View):ar aa 67 [encI a,encI b] H λr _=>r=gb (decide (a=b)):=by
 refine ar.of mixed iF ?_
 unfold aF at m
 simp(disch:=omega)only[↓wr,seval,wq,fi,encI]
 apply aj.ne<;>intro h
 .simp(disch:=omega)only[↓wr,seval,wq]
  rw[decide_eq_false (qD (by omega))]
 .simp(disch:=omega)only[↓wr,seval,wq]
  refine bH.up a.length (λi T _=>a.take i=b.take i/\T 0=encI a/\T 1=encI b/\T 12=gi a.length/\T 13=gi i) ⟨by simp,rfl,rfl,rfl,rfl⟩ ?_
  rintro i k T H n ⟨hi,c,d,f,g⟩
  simp(disch:=omega)only[↓wr,seval,wq,eQ,c,d,f,g,encI]
  apply aj.dec<;>intro o
  .have j:a[i]?=some (a[i]'(by omega)):=GR (by omega)
   have l:b[i]?=some (b[i]'(by omega)):=GR (by omega)
   generalize a[i]'(by omega)=x at j
   generalize b[i]'(by omega)=y at l
   simp(disch:=omega)only[↓wr,seval,wq,c,d,f,g,encI,GY,j,l]
   apply aj.ne<;>intro e
   .simp(disch:=omega)only[↓wr,seval,wq,c,d,f,g]
    rw[decide_eq_false (tE j l e)]
   .simp(disch:=omega)only[↓wr,seval,wq,c,d,f,g]
    exact bC n (by omega) ⟨ox j l hi e,c,d,f,rfl⟩
  .simp(disch:=omega)only[↓wr,seval,wq,c,d,f,g]
   rw[decide_eq_true (qH (by omega) (by omega) hi)]
theorem Aa (a b:List Term) (c:aF a):ak aa 168 [.al (a.map cd),.al (b.map cd)] (gb (decide (a=b))):=ak.val (B1 ks ks) (AA a b c)
theorem BP (a b:List ByteArray) (d:aF a):ak aa 169 [encS a,encS b] (gb (decide (a=b))):=ak.val (by
 intro v c;simp at c
 rcases c with rfl | rfl<;>exact kI _) (A7 a b d)
theorem Aj (a b:List Int) (d:aF a):ak aa 67 [encI a,encI b] (gb (decide (a=b))):=ak.val (by
 intro v c;simp at c
 rcases c with rfl | rfl<;>exact gQ _) (Cb a b d)
theorem CE (x y:aI) (b:aF x.right):ak aa 171 [.agg (aK x),.agg (aK y)] (gb (decide (x=y))):=by
 refine ak.val (by
  intro v a;simp at a
  rcases a with rfl | rfl<;>exact dD _ (cG _)) λH=>?_
 rw[C1]
 refine ar.of mixed r7 ?_
 simp(disch:=omega)only[↓wr,seval,wq,o4,aK,encI]
 repeat' (first | ((first|apply aj.dec|apply aj.eq|apply aj.ne|apply aj.split)<;>intro)|(refine av.pure (Aj x.right y.right b) ?_)|(simp(disch:=omega)only[↓wr,seval,wq,aK]))
 all_goals simp[*]
theorem uP (a b:List aI) (t:aF a) (hr:∀r∈a,aF r.right) (H:View):ar aa 170 [.al (a.map aK),.al (b.map aK),.fn 171 [] []] H λr _=>r=gb (decide (a=b)):=by
 refine ar.of mixed cM ?_
 unfold aF at t
 simp(disch:=omega)only[↓wr,seval,wq,bA]
 apply aj.ne<;>intro h
 .simp(disch:=omega)only[↓wr,seval,wq]
  rw[decide_eq_false (qD (by omega))]
 .simp(disch:=omega)only[↓wr,seval,wq]
  refine bH.up a.length (λi T _=>a.take i=b.take i/\T 15=.al (a.map aK)/\T 1=.al (b.map aK)/\T 2=.fn 171 [] []/\T 16=gi a.length/\T 17=gi i) ⟨by simp,rfl,rfl,rfl,rfl,rfl⟩ ?_
  rintro i k T H u ⟨hi,c,d,f,g,j⟩
  simp(disch:=omega)only[↓wr,seval,wq,bu,c,d,f,g,j]
  apply aj.dec<;>intro v
  .have l:a[i]?=some (a[i]'(by omega)):=GR (by omega)
   have o:b[i]?=some (b[i]'(by omega)):=GR (by omega)
   have hm:a[i]'(by omega)∈a:=G4 _
   generalize a[i]'(by omega)=x at l hm
   generalize b[i]'(by omega)=y at o
   have q:=hr x hm
   simp(disch:=omega)only[↓wr,seval,wq,c,d,f,g,j,GY,l,o,aK,encI]
   intro n w
   try simp(disch:=omega)only[↓wr,seval,wq,c,d,f,g,j,GY,l,o,aK,encI]
   intro m s
   have p:=(dK s dS).1
   try simp(disch:=omega)only[↓wr,seval,wq,c,d,f,g,j,GY,l,o,aK,encI,p,p.symm]
   refine av.pure (CE x y q) ?_
   simp(disch:=omega)only[↓wr,seval,wq,c,d,f,g,j]
   apply aj.split<;>intro e
   .simp(disch:=omega)only[↓wr,seval,wq,c,d,f,g,j]
    exact bC u (by omega) ⟨ox l o hi (by simpa using e),c,d,f,g,rfl⟩
   .simp(disch:=omega)only[↓wr,seval,wq,c,d,f,g,j]
    rw[decide_eq_false (tE l o (by simpa using e))]
  .simp(disch:=omega)only[↓wr,seval,wq,c,d,f,g,j]
   rw[decide_eq_true (qH (by omega) (by omega) hi)]
theorem vg (a b:List aI) (d:aF a) (hr:∀r∈a,aF r.right):ak aa 170 [.al (a.map aK),.al (b.map aK),.fn 171 [] []] (gb (decide (a=b))):=ak.val (by
 intro v c;simp at c
 rcases c with rfl | rfl | rfl
 .exact dP _ _ λx _=>cG x
 .exact dP _ _ λx _=>cG x
 .exact rm (by simp) (by simp)) (uP a b d hr)
theorem CN (g k:ay) (a:g.Ok):ak aa 103 [.agg (ax g),.agg (ax k)] (gb (decide (g=k))):=by
 refine ak.val (zW g k) λH=>?_
 rw[C4]
 refine ar.of mixed tB ?_
 simp(disch:=omega)only[↓wr,seval,wq,qY,ax,encS]
 repeat' (first | ((first|apply aj.dec|apply aj.eq|apply aj.ne|apply aj.split)<;>intro)|(refine av.pure (Aa g.an k.an a.an) ?_)|(refine av.pure (BP g.aB k.aB a.aB) ?_)|(refine av.pure (vg g.rules k.rules a.rules (λr hr=>(a.nC r hr).2.2.1)) ?_)|(simp(disch:=omega)only[↓wr,seval,wq,ax,encS]))
 all_goals simp_all [DV]
section
variable {g r:ay} {p q:List Bool} {o:List Int}
end
section
variable {g r:ay} {p q:List Bool} {o:List Int}
end
def isRed (g:ay):Bool:=(gI g).2.2==0&&decide (g=(gI g).1)
def sd:SF:=⟨ai [af [gU 1 0,bq 2 false],af [c6 7 4 1,bX 8 42 [7],ab 6 8,vi 9 0 6,vi 10 1 6,vi 11 2 6,((some 3),.op (.alloc [(.emp 1),(.emp 1),(.emp 1),(.val (.int .i64 0))])),gp 4 3 9,ab 4 10,ab 5 11],.region false [⟨none,[ab 12 5,aZ 13 .eql 12 0,ab 14 13]⟩,⟨(some (14,true)),[c6 15 4 1,c6 16 4 3,bX 17 103 [15,16]]⟩,⟨none,[jg 18 14 17,ab 2 18]⟩],.ret],
 [.tmp 2],19⟩
theorem vm:aM aa 46 [1]=some sd:=by kernel_rfl
theorem E0 (g:ay) (a:g.Ok) (b:g.Small):ak aa 46 [.agg (ax g)] (gb (isRed g)):=by
 refine ak.val (dM g) λH=>?_
 refine ar.of mixed vm ?_
 simp(disch:=omega)only[↓wr,seval,wq,sd,ax,encS]
 refine av.pure (qS g a b).pure ?_
 unfold isRed
 generalize gI g=x
 obtain⟨k,c,e⟩:=x
 simp(disch:=omega)only[↓wr,seval,wq,nf,ax,encS]
 intro n d
 apply aj.eq<;>intro h
 .simp(disch:=omega)only[↓wr,seval,wq,nf,ax,encS]
  refine av.pure (CN g k a) ?_
  simp(disch:=omega)only[↓wr,seval,wq]
  simp[h]
 .simp(disch:=omega)only[↓wr,seval,wq]
  simp[h]
def oZ:SF:=⟨ai [af [bq 2 false],.region false [⟨none,[ab 3 0,bg 4 3,aZ 5 .leq 4 32,ab 6 5]⟩,⟨(some (6,true)),[ab 7 0,bg 8 7,aZ 9 .eql 8 0,ab 10 9]⟩,⟨(some (10,false)),[ab 11 0,ab 12 0,bg 13 12,aZ 14 .sub 13 1,b4 15 1 11 14,aG 16 15,((some 17),.op (.arith .neq (.tmp 16) (.val (.val (.int .u32 0)))))]⟩,⟨(some (6,true)),[fY 18 10 17]⟩,⟨none,[jg 19 6 18,ab 2 19]⟩],.ret],
 [.tmp 2],20⟩
theorem rI:aM aa 14 []=some oZ:=by kernel_rfl
def iA:SF:=⟨ai [af [bq 2 false],.region false [⟨none,[ab 3 0,bg 4 3,aZ 5 .leq 4 32,ab 6 5]⟩,⟨(some (6,true)),[ab 7 0,bg 8 7,aZ 9 .eql 8 0,ab 10 9]⟩,⟨(some (10,false)),[ab 11 0,ab 12 0,bg 13 12,aZ 14 .sub 13 1,b4 15 1 11 14,aG 16 15,((some 17),.op (.arith .neq (.tmp 16) (.val (.val (.int .u32 0)))))]⟩,⟨(some (6,true)),[fY 18 10 17]⟩,⟨none,[jg 19 6 18,ab 2 19]⟩],.ret],
 [.tmp 2],20⟩
theorem lg:aM aa 8 []=some iA:=by kernel_rfl
def jz:SC:=
 ai [af [cm 12 .lss 11 10],eY 12 (.exit 0),.block 1 (ai [af [b4 13 1 9 11,aG 14 13,ab 4 14],af [ab 15 2,ab 16 4,((some 17),.op (.arith .and (.tmp 16) (.val (.val (.int .u32 65535))))),((some 18),.op (.conv .i64 (.tmp 17))),ab 19 4,((some 20),.op (.sh false (.tmp 19) (.val (.val (.int .u64 16))))),((some 21),.op (.conv .i64 (.tmp 20))),((some 22),.op (.en 2 1 [(.val (.int .i64 0))] [(0,(.tmp 18)),(1,(.tmp 21))])),o9 23 1 8 15 22,ab 2 23]]),af [aZ 24 .add 11 1,ab 11 24]]
def km:SF:=⟨ai [af [dU 2 1],ai [af [ab 6 0,bX 7 14 [6],db 8 7],bV 8 (ai [af [dU 2 1],.ret])],ai [af [ab 9 0,bg 10 9,bR 11 0],fk 0 jz],ai [af [ab 25 2,bg 26 25,ab 5 26],.region false [⟨none,[ab 27 5,aZ 28 .gtr 27 0,ab 29 28]⟩,⟨(some (29,true)),[ab 30 2,ab 31 5,aZ 32 .sub 31 1,b4 33 1 30 32,aG 34 33,aZ 35 .eql 34 0]⟩,⟨none,[jg 36 29 35]⟩],bV 36 (af [ab 37 2,ab 38 5,aZ 39 .sub 38 1,((some 40),.op (.slice 1 (.tmp 37) none (some (.tmp 39)))),ab 2 40])],af [ab 41 2,ab 2 41],.ret],
 [.tmp 2],42⟩
theorem nL:aM aa 5 []=some km:=by kernel_rfl
def gh:SC:=
 ai [ai [af [ab 8 4,ab 9 0,bg 10 9,cm 11 .lss 8 10],eY 11 (.exit 0)],.block 1 (af [ab 14 3,ab 15 0,ab 16 4,b4 17 1 15 16,aG 18 17,((some 19),.op (.arith .rem (.tmp 18) (.val (.val (.int .u32 65536))))),((some 20),.op (.conv .i64 (.tmp 19))),ab 21 0,ab 22 4,b4 23 1 21 22,aG 24 23,((some 25),.op (.arith .quo (.tmp 24) (.val (.val (.int .u32 65536))))),((some 26),.op (.conv .i64 (.tmp 25))),((some 27),.op (.en 2 1 [(.val (.int .i64 0))] [(0,(.tmp 20)),(1,(.tmp 26))])),o9 28 1 8 14 27,ab 3 28]),af [ab 12 4,aZ 13 .add 12 1,ab 4 13]]
def ez:SC:=
 ai [ai [.region false [⟨none,[ab 29 3,bg 30 29,aZ 31 .gtr 30 0,ab 32 31]⟩,⟨(some (32,true)),[ab 33 3,ab 34 3,bg 35 34,aZ 36 .sub 35 1,b4 37 1 33 36,aG 38 37,aZ 39 .eql 38 0]⟩,⟨none,[jg 40 32 39]⟩],eY 40 (.exit 2)],.block 3 (af [ab 41 3,ab 42 3,bg 43 42,aZ 44 .sub 43 1,((some 45),.op (.slice 1 (.tmp 41) none (some (.tmp 44)))),ab 3 45])]
def ie:SF:=⟨ai [af [dU 2 1],ai [af [ab 5 0,bX 6 8 [5],db 7 6],bV 7 (ai [af [dU 2 1],.ret])],af [dU 3 1],ai [af [bR 4 0],fk 0 gh],fk 2 ez,af [ab 46 3,ab 2 46],.ret],
 [.tmp 2],47⟩
theorem kk:aM aa 7 []=some ie:=by kernel_rfl
def hO:SC:=
 ai [ai [af [ab 11 5,ab 12 0,bg 13 12,cm 14 .lss 11 13],eY 14 (.exit 0)],.block 1 (ai [af [ab 17 0,ab 18 5,b4 19 1 17 18,aG 20 19,ab 21 1,ab 22 5,b4 23 1 21 22,aG 24 23,cm 25 .neq 20 24],bV 25 (ai [af [bq 4 false],.ret])]),af [ab 15 5,aZ 16 .add 15 1,ab 5 16]]
def jj:SF:=⟨ai [af [bq 4 false],ai [af [ab 6 0,bg 7 6,ab 8 1,bg 9 8,cm 10 .neq 7 9],bV 10 (ai [af [bq 4 false],.ret])],ai [af [bR 5 0],fk 0 hO],af [bq 4 true],.ret],
 [.tmp 4],26⟩
theorem lA:aM aa 9 []=some jj:=by kernel_rfl
abbrev LB:Nat:=4294967296
abbrev pn (l:List Nat):List (List V):=l.map λ(x:Nat)=>[V.val (.int .u32 (x:Int))]
abbrev gL (l:List Nat):V:=.al (pn l)
theorem kF (l:List Nat):Tree (gL l):=dP _ _ λx _ v a=>by simp at a;subst a;exact .val _
theorem getD_some {α:Type} {l:List α} {j:Nat} {d:α} (h:j<l.length):l[j]?=some (l.getD j d):=by simp[GQ,h]
theorem j4 (x:List Nat):∀v∈[gL x],Tree v:=λv a=>by simp at a;subst a;exact kF _
theorem DE (y:Nat):((y:Int) != 0) = !decide (y=0):=by
 by_cases h:y=0
 .subst h;rfl
 .rw[decide_eq_false h,Is.2 (by omega)];rfl
theorem wL (x:List Nat) (a:aF x):ak aa 14 [gL x] (gb (eX x)):=by
 refine ak.val (j4 x) λH=>?_
 unfold aF at a
 refine ar.of mixed rI ?_
 simp(disch:=omega)only[↓wr,seval,wq,oZ]
 unfold eX
 by_cases h:x.length<=32
 .rw[decide_eq_true (show (x.length:Int)<=32 by omega)]
  simp(disch:=omega)only[↓wr,seval,wq]
  apply aj.eq<;>intro b
  .simp(disch:=omega)only[↓wr,seval,wq]
   have:x.length=0:=by omega
   simp[this]
  .have c:=getD_some (d:=0) (show x.length-1<x.length by omega)
   have e:((x.length:Int)-1).toNat=x.length-1:=by omega
   have f:x.length≠0:=by omega
   generalize x.getD (x.length-1) 0=y at *
   simp(disch:=omega)only[↓wr,seval,wq,GY,c,Hb,e]
   simp[h,f,DE]
 .rw[decide_eq_false (show ¬ (x.length:Int)<=32 by omega)]
  simp(disch:=omega)only[↓wr,seval,wq]
  simp[h]
theorem oW (x:List Nat) (a:aF x):ak aa 8 [gL x] (gb (eX x)):=by
 refine ak.val (j4 x) λH=>?_
 unfold aF at a
 refine ar.of mixed lg ?_
 simp(disch:=omega)only[↓wr,seval,wq,iA]
 unfold eX
 by_cases h:x.length<=32
 .rw[decide_eq_true (show (x.length:Int)<=32 by omega)]
  simp(disch:=omega)only[↓wr,seval,wq]
  apply aj.eq<;>intro b
  .simp(disch:=omega)only[↓wr,seval,wq]
   have:x.length=0:=by omega
   simp[this]
  .have c:=getD_some (d:=0) (show x.length-1<x.length by omega)
   have e:((x.length:Int)-1).toNat=x.length-1:=by omega
   have f:x.length≠0:=by omega
   generalize x.getD (x.length-1) 0=y at *
   simp(disch:=omega)only[↓wr,seval,wq,GY,c,Hb,e]
   simp[h,f,DE]
 .rw[decide_eq_false (show ¬ (x.length:Int)<=32 by omega)]
  simp(disch:=omega)only[↓wr,seval,wq]
  simp[h]
theorem tI {n:Nat} (h:n<4294967296):IntKind.i64.wrap (n:Int)=n:=by
 have a:IntKind.i64.signed=true:=rfl
 simp[IntKind.wrap,IntKind.bits,a]
 omega
theorem Ge {n:Nat} (h:n<4294967296):IntKind.i64.wrap (IntKind.u32.wrap ((BitVec.ofInt IntKind.u32.bits (n:Int) &&& BitVec.ofInt IntKind.u32.bits 65535).toNat:Int))=((n % 65536:Nat):Int):=by
 have:=Eg h
 rw[show IntKind.u32.wrap ((BitVec.ofInt IntKind.u32.bits (n:Int) &&& BitVec.ofInt IntKind.u32.bits 65535).toNat:Int)=((n % 65536:Nat):Int) from this,tI (by omega)]
theorem FZ {n:Nat} (h:n<4294967296):IntKind.i64.wrap (j8 false .u32 (n:Int) 16)=((n / 65536:Nat):Int):=by
 have:j8 false .u32 (n:Int) 16=((n / 65536:Nat):Int):=by
  simp[j8,IntKind.bits]
  exact Int.fdiv_eq_ediv_of_nonneg _ (by decide)
 rw[this,tI (by omega)]
theorem Gp {n:Nat} (h:n<4294967296):IntKind.i64.wrap ((n:Int).tmod 65536)=((n % 65536:Nat):Int):=by
 rw[Int.tmod_eq_emod_of_nonneg (by omega),show (n:Int) % 65536=((n % 65536:Nat):Int) by omega,tI (by omega)]
theorem Gy {n:Nat} (h:n<4294967296):IntKind.i64.wrap (IntKind.u32.wrap ((n:Int).tdiv 65536))=((n / 65536:Nat):Int):=by
 rw[Int.tdiv_eq_ediv_of_nonneg (by omega),show (n:Int) / 65536=((n / 65536:Nat):Int) by omega,mb (by omega),tI (by omega)]
theorem nB {H:View} {m:Nat} {e f:List V} : bc (View.set H m (.arr 1 [e,f])) (.sl m 0 2 1)=some ([e,f],[m]):=by simp[bc,View.set]
def c5 (x:List Nat):List Int:=(bf x).map λ(n:Nat)=>(n:Int)
def dk (x:List Nat):List Int:=(kq x).map λ(n:Nat)=>(n:Int)
theorem fp (x:List Nat):(c5 x).length=2*x.length:=by simp[c5,fu]
theorem zl (x:List Nat) (v:Nat):c5 (x++[v])=c5 x++[((v % 65536:Nat):Int),((v / 65536:Nat):Int)]:=by simp[c5,y6]
theorem qo {x:List Nat} {i:Nat} (h:i<x.length):c5 (x.take (i+1))=c5 (x.take i)++[((x.getD i 0 % 65536:Nat):Int),((x.getD i 0 / 65536:Nat):Int)]:=by
 rw[Hn,getD_some (d:=0) h];exact zl _ _
theorem ug {x:List Nat} {i:Nat} (h:i<2*x.length):(c5 x)[i]?=some (((bf x).getD i 0:Nat):Int):=by
 have:=getD_some (d:=0) (show i<(bf x).length by rw[fu];exact h)
 simp only[c5,GY,this,Hb]
theorem py {h:ah} {n m:Nat} {l:List Int} (b:h.view n=.arr 1 (cq l)) (hm:m<=l.length):dz h (.sl n 0 m 1) (encI (l.take m)):=by
 have e:∀i,i<m->(cq (l.take m)).getD i []=(cq l).getD (0+i) []:=λi hi=>by simp[GQ,HA,hi]
 refine .sl n 0 m 1 1 (cq l) (cq (l.take m)) b (by simp;omega) (by simp;omega) (λi hi=>by rw[e i hi]) λi j hi a=>?_
 rw[e i hi] at a ⊢
 rw[pr (by omega)] at a ⊢
 have:j=0:=by simp at a;omega
 subst this
 exact .val _
theorem Aw {x:List Nat} (h:eX x=true) (b:0<x.length):(bf x).getD (2*x.length-1) 0=0->(bf x).getD (2*x.length-1-1) 0≠0:=by
 have a:=j9 x (x.length-1) (by omega)
 rw[show 2*(x.length-1)+1=2*x.length-1 by omega] at a
 rw[show 2*x.length-1-1=2*(x.length-1) by omega,a.1,a.2]
 simp only[eX,G0,Ie,G7] at h
 omega
theorem re {id k m:Nat} (hm:m<=k):jm 1 (.sl id 0 k 1) none (some (gi m))=some (.sl id 0 m 1,.none,[]):=by
 simp[jm,bound,asNat,hm]
theorem uV {x:List Nat} (hr:eX x=true) (a:0<x.length):dk x=if (bf x).getD (2*x.length-1) 0=0 then (c5 x).take (2*x.length-1) else c5 x:=by
 have b:=fu x
 rw[dk,kq,GZ hr,l9,fu]
 have:(bf x).getD (2*x.length-1) 1=(bf x).getD (2*x.length-1) 0:=by simp[GQ,show 2*x.length-1<(bf x).length by omega]
 rw[this]
 split<;>simp[c5,List.map_take]
theorem Ac (x:List Nat) (q:aF x) (u:∀v∈x,v<LB):aT aa 5 [gL x] (encI (dk x)):=by
 refine aT.of (j4 x) ?_
 have w:=wL x q
 unfold aF at q
 refine ar.of mixed nL ?_
 simp(disch:=omega)only[↓wr,seval,wq,km]
 refine av.pure w ?_
 simp(disch:=omega)only[↓wr,seval,wq]
 apply aj.split<;>intro hr
 rotate_left
 .simp(disch:=omega)only[↓wr,seval,wq]
  intro c _
  rw[dk,kq,hr]
  exact .emp _
 simp(disch:=omega)only[↓wr,seval,wq]
 refine bH.up x.length (λi T H'=>aJ H' (T 2) 1 (cq (c5 (x.take i)))/\T 9=gL x/\T 10=gi x.length/\T 11=gi i) ⟨show aJ _ (.emp 1) 1 [] from .nil,rfl,rfl,rfl⟩ ?_
 have r:x.length<=32:=by simp only[eX,G0,G7] at hr;exact hr.1
 rintro i k T H' z ⟨o,t9,t10,t11⟩
 simp(disch:=omega)only[↓wr,seval,wq,jz,t9,t10,t11]
 apply aj.dec<;>intro hi
 .have b:=getD_some (d:=0) (show i<x.length by omega)
  have hm:x.getD i 0<4294967296:=u _ (HD b)
  have a:=qo (show i<x.length by omega)
  generalize x.getD i 0=y at *
  simp(disch:=omega)only[↓wr,seval,wq,t9,t10,t11,GY,b,Hb,Ge hm,FZ hm]
  intro m A
  simp(disch:=omega)only[↓wr,seval,wq,nB]
  refine jd (o.fresh A) (by simp) (by simp[au]) (by unfold aD;simp[fp];omega) (by unfold aD;simp[fp];omega) λB C D _=>?_
  simp(disch:=omega)only[↓wr,seval,wq,t9,t10,t11]
  have E:aJ C B 1 (cq (c5 (x.take (i+1)))):=by rw[a];simpa using D
  exact bC z (by omega) ⟨E,t9,t10,rfl⟩
 .have he:i=x.length:=by omega
  subst he
  rw[List.take_length] at o
  have F:=fp x
  simp(disch:=omega)only[↓wr,seval,wq,o.len]
  apply aj.dec<;>intro G
  .have H:=ug (x:=x) (i:=2*x.length-1) (by omega)
   obtain⟨n,hu,j⟩:=o.sl (by simp;omega)
   have s:(((c5 x).length:Int)-1).toNat=2*x.length-1:=by omega
   have g:=uV hr (by omega)
   generalize (bf x).getD (2*x.length-1) 0=y at *
   have t:(cq (c5 x)).getD (2*x.length-1) []=[gi y]:=by simp only[GQ,GY,H];rfl
   simp(disch:=omega)only[↓wr,seval,wq,o.len,hu,j,s]
   refine⟨by omega,by omega,by rw[t];simp,?_⟩
   rw[t]
   simp(disch:=omega)only[↓wr,seval,wq]
   apply aj.split<;>intro b
   .have I:((c5 x).length:Int)-1=((2*x.length-1:Nat):Int):=by omega
    simp(disch:=omega)only[↓wr,seval,wq,s,hu,I,re (id:=n) (k:=(c5 x).length) (m:=2*x.length-1) (by omega)]
    intro c e
    rw[g,GZ (by simpa using b)]
    exact py (by rw[e];exact j) (by omega)
   .simp(disch:=omega)only[↓wr,seval,wq,hu]
    intro c e
    have:=py (h:=c) (by rw[e];exact j) (GX _)
    rw[g,GV (by simpa using b)]
    rwa [List.take_length] at this
  .have p:x=[]:=HM.1 (by omega)
   subst p
   simp(disch:=omega)only[↓wr,seval,wq]
   intro c g
   subst g
   exact dz.ud (f:=λx:Int=>.int .i64 x) (l:=[]) o
theorem wu (x:List Nat) (z:aF x) (C:∀v∈x,v<LB):aT aa 7 [gL x] (encI (dk x)):=by
 refine aT.of (j4 x) ?_
 have D:=oW x z
 unfold aF at z
 refine ar.of mixed kk ?_
 simp(disch:=omega)only[↓wr,seval,wq,ie]
 refine av.pure D ?_
 simp(disch:=omega)only[↓wr,seval,wq]
 apply aj.split<;>intro hr
 rotate_left
 .simp(disch:=omega)only[↓wr,seval,wq]
  intro p _
  rw[dk,kq,hr]
  exact .emp _
 simp(disch:=omega)only[↓wr,seval,wq]
 have A:x.length<=32:=by simp only[eX,G0,G7] at hr;exact hr.1
 refine bH.up x.length (λi T H'=>aJ H' (T 3) 1 (cq (c5 (x.take i)))/\T 0=gL x/\T 4=gi i) ⟨show aJ _ (.emp 1) 1 [] from .nil,rfl,rfl⟩ ?_
 rintro i k T H' j ⟨o,t0,t4⟩
 simp(disch:=omega)only[↓wr,seval,wq,gh,t0,t4]
 apply aj.dec<;>intro hi
 .have b:=getD_some (d:=0) (show i<x.length by omega)
  have hm:x.getD i 0<4294967296:=C _ (HD b)
  have a:=qo (show i<x.length by omega)
  generalize x.getD i 0=y at *
  simp(disch:=omega)only[↓wr,seval,wq,t0,t4,GY,b,Hb,Gp hm,Gy hm]
  intro m E
  simp(disch:=omega)only[↓wr,seval,wq,nB]
  refine jd (o.fresh E) (by simp) (by simp[au]) (by unfold aD;simp[fp];omega) (by unfold aD;simp[fp];omega) λF G I _=>?_
  simp(disch:=omega)only[↓wr,seval,wq,t0,t4]
  have J:aJ G F 1 (cq (c5 (x.take (i+1)))):=by rw[a];simpa using I
  exact bC j (by omega) ⟨J,t0,rfl⟩
 .have he:i=x.length:=by omega
  subst he
  rw[List.take_length] at o
  have K:=fp x
  simp(disch:=omega)only[↓wr,seval,wq]
  by_cases q:x.length=0
  .have r:x=[]:=HM.1 q
   subst r
   refine bH.intro (λ_ T H=>aJ H (T 3) 1 []) 0 o λk T H o=>?_
   simp(disch:=omega)only[↓wr,seval,wq,ez,o.len]
   intro p s
   subst s
   exact dz.ud (f:=λx:Int=>.int .i64 x) (l:=[]) o
  have s:=uV hr (by omega)
  have L:=Aw hr (by omega)
  obtain⟨n,hu,c⟩:=o.sl (by simp;omega)
  refine bH.intro (λk T H=>T 3=.sl n 0 (2*x.length-1+k) 1/\H n=.arr 1 (cq (c5 x))/\(k=1∨k=0/\(bf x).getD (2*x.length-1) 0=0)) 1 ⟨by simp(disch:=omega)only[↓wr,seval,wq,hu];simp;omega,c,.inl rfl⟩ ?_
  rintro k T H ⟨t3,c,j⟩
  have M:k<=1:=by omega
  have N:=ug (x:=x) (i:=2*x.length-1+k-1) (by omega)
  have B:(cq (c5 x)).getD (2*x.length-1+k-1) []=[gi ((bf x).getD (2*x.length-1+k-1) 0:Nat)]:=by simp only[GQ,GY,N];rfl
  have O:(((2*x.length-1+k:Nat):Int)-1).toNat=2*x.length-1+k-1:=by omega
  simp(disch:=omega)only[↓wr,seval,wq,ez,t3]
  refine aj.dec (λ_=>?_) (λP=>absurd (show ((2*x.length-1+k:Nat):Int)>0 by omega) P)
  simp(disch:=omega)only[↓wr,seval,wq,t3,c,O]
  generalize hw:(bf x).getD (2*x.length-1+k-1) 0=w at *
  refine⟨by omega,by omega,by rw[B];simp,?_⟩
  rw[B]
  simp(disch:=omega)only[↓wr,seval,wq]
  apply aj.split<;>intro b
  .have g:w=0:=by simpa using b
   have t:k=1:=by
    rcases j with h | ⟨h,u⟩
    .exact h
    .subst h;exact absurd (hw.trans g) (L u)
   subst t
   have Q:((2*x.length-1+1:Nat):Int)-1=((2*x.length-1:Nat):Int):=by omega
   simp(disch:=omega)only[↓wr,seval,wq,t3,Q,re (id:=n) (k:=2*x.length-1+1) (m:=2*x.length-1) (by omega)]
   exact⟨0,by omega,rfl,c,.inr ⟨rfl,hw.trans g⟩⟩
  .simp(disch:=omega)only[↓wr,seval,wq,t3]
   intro p e
   have:=py (h:=p) (m:=2*x.length-1+k) (by rw[e];exact c) (by omega)
   rw[s]
   rcases j with h | ⟨h,u⟩
   .subst h
    rw[GV (by rw[show 2*x.length-1=2*x.length-1+1-1 by omega,hw];simpa using b)]
    rwa [G9 (by omega)] at this
   .subst h
    rw[GZ u]
    exact this
theorem su (a b:List Nat) (n:aF a):ak aa 9 [gL a,gL b] (gb (a==b)):=by
 refine ak.val (by intro v j;simp at j;rcases j with rfl | rfl<;>exact kF _) λH=>?_
 refine ar.of mixed lA ?_
 unfold aF at n
 simp(disch:=omega)only[↓wr,seval,wq,jj]
 apply aj.ne<;>intro h
 .simp(disch:=omega)only[↓wr,seval,wq]
  rw[xc (by omega)]
 .simp(disch:=omega)only[↓wr,seval,wq]
  refine bH.intro (λk T H'=>∃i:Nat,i+k=a.length/\a.take i=b.take i/\T 0=gL a/\T 1=gL b/\T 5=gi i) a.length ?_ ?_
  .exact⟨0,by omega,by simp,rfl,rfl,rfl⟩
  .rintro k T H' ⟨i,p,hi,c,d,f⟩
   simp(disch:=omega)only[↓wr,seval,wq,hO,c,d,f]
   apply aj.dec<;>intro o
   .have l:a[i]?=some (a[i]'(by omega)):=GR (by omega)
    have m:b[i]?=some (b[i]'(by omega)):=GR (by omega)
    simp(disch:=omega)only[↓wr,seval,wq,c,d,f,GY,l,m,Hb]
    apply aj.ne<;>intro g
    .simp(disch:=omega)only[↓wr,seval,wq]
     have:(a==b)=false:=by
      simp only[beq_eq_false_iff_ne];rintro rfl;exact g rfl
     rw[this]
    .simp(disch:=omega)only[↓wr,seval,wq,c,d,f]
     refine⟨k-1,by omega,i+1,by omega,?_,rfl⟩
     rw[Hn,Hn,hi,l,m,Int.ofNat.inj g]
   .simp(disch:=omega)only[↓wr,seval,wq,c,d,f]
    have:a=b:=by
     have e:i=a.length:=by omega
     rw[G9 (by omega),G9 (by omega)] at hi
     exact hi
    rw[this];simp
open Go Go.Proofs Go.Shelf Go.RowKit
theorem Ce {P:Program} (w:World) (t u ty e:TypeId) (i:TypeInfo) (l:P.underlying t=some (.slice e)) (hu:P.underlying u=some .string) (hi:P.info? e=some i) (m:i.zero=some (.int .u8 0))
  (b:i.size=1) (d:i.bytes=1) (v:Value) (n:Nat) (xs:List Value) (c:w.ownsRow 0 e 1 v n xs) (s:ByteArray) (C:n+s.size<=1000000):
  ∃h w',(Builtin.append_ #[t,u] ty #[v,.string s]).run P w=.ok h w'/\w'.ownsRow 0 e 1 h (n+s.size) (xs++Lib.strCells s)/\w.grownBy w' v.ownBlock/\(∀k,h.ownBlock=some k->v.ownBlock=some k∨w.heap.size<=k):=by
 obtain⟨h,w',hr,p,q,_⟩:=Lib.run_append_own_string (P:=P) w 0 t u ty e i l hu hi m b d v n xs c s (by unfold maxLen;omega) (by omega) (HG _)
 refine⟨h,w',hr,p,q,λk j=>?_⟩
 rcases c.2 with ⟨rfl,rfl⟩ | ⟨g,cap,cur,rfl,_,r,x,y,z,o⟩
 .obtain⟨v2,D,a,A,_⟩:=Lib.run_append_own_string (P:=P) w w.heap.size t u ty e i l hu hi m b d _ 0 xs (by
   have:xs=[]:=List.eq_nil_of_length_eq_zero (by simpa using c.1)
   subst this;exact World.ownsRow_nil w _ e 1) s (by unfold maxLen;omega) (by omega) (GX _)
  rw[hr] at a
  simp only[Result.ok.injEq] at a
  obtain⟨rfl,rfl⟩:=a
  rcases A.2 with ⟨rfl,_⟩ | ⟨g,cap,cur,rfl,B,_⟩
  .simp[Value.ownBlock] at j
  .simp[Value.ownBlock] at j;exact .inr (j▸B)
 .by_cases f:n+s.size<=cap
  .have a:=Lib.run_append_room_string (P:=P) w t u ty e i l hu hi b g n cap cur r s f (by omega)
   rw[hr] at a
   simp only[Result.ok.injEq] at a
   obtain⟨rfl,_⟩:=a
   exact .inl j
  .have a:=Lib.run_append_grow_string (P:=P) w t u ty e i (.int .u8 0) l hu hi m ⟨g,0,none⟩ n cap xs (by rw[b];simpa using c.1) (c.cells (g:=g) rfl) s (by omega) (by omega) (by rw[d];exact growslice_fits (by omega) (by omega))
   rw[hr] at a
   simp only[Result.ok.injEq] at a
   obtain⟨rfl,_⟩:=a
   simp[Value.ownBlock] at j
   exact .inr (by omega)
structure Kept (N:Nat->Prop) (w w':World):Prop where
 os:w'.os=w.os
 tape:w'.tape=w.tape
 output:w'.output=w.output
 size:w.heap.size<=w'.heap.size
 block:∀k,N k->w'.heap[k]?=w.heap[k]?
theorem Kept.refl (N:Nat->Prop) (w:World):Kept N w w:=⟨rfl,rfl,rfl,GX _,λ_ _=>rfl⟩
theorem Kept.trans {N:Nat->Prop} {a b c:World} (h:Kept N a b) (k:Kept N b c):Kept N a c:=
 ⟨k.os.trans h.os,k.tape.trans h.tape,k.output.trans h.output,Hk h.size k.size,λi hi=>(k.block i hi).trans (h.block i hi)⟩
theorem Kept.below {N:Nat->Prop} {w w':World} (h:Below w.heap.size w w') (a:∀k,N k->k<w.heap.size):Kept N w w':=
 ⟨h.os,h.tape,h.output,h.size,λk b=>h.block k (a k b)⟩
theorem Kept.mono {N N':Nat->Prop} {w w':World} (h:Kept N w w') (a:∀k,N' k->N k):Kept N' w w':=⟨h.os,h.tape,h.output,h.size,λk b=>h.block k (a k b)⟩
theorem Kept.cell {N:Nat->Prop} {w w':World} (h:Kept N w w') {k:Nat} (a:N k) (j:Nat):w'.cell? ⟨k,j,none⟩=w.cell? ⟨k,j,none⟩:=by
 simp[World.cell?,h.block k a]
def fh (T e:TypeId) (b:Nat) (N:Nat->Prop) (p:Value) (l:List UInt8) (w:World):Prop:=
 ∃v,w.heap[b]?=some (.cells #[p,v] T (0,0))/\w.ownsRow 0 e 1 v l.length (Lib.byteCells l)/\v.ownBlock≠some b/\¬ N b/\∀k,v.ownBlock=some k->¬ N k
def cz (T e:TypeId) (b:Nat) (N:Nat->Prop) (l:List UInt8) (w:World):Prop:=fh T e b N (.pointer none) l w∨fh T e b N (.pointer (some ⟨b,0,none⟩)) l w
theorem lk {w:World} {b:Nat} {o:Obj} (h:w.heap[b]?=some o):b<w.heap.size:=by
 rcases Ho b w.heap.size with a | a
 .exact a
 .simp[Array.getElem?_eq_none a] at h
theorem fh.kept {T e:TypeId} {b:Nat} {N N':Nat->Prop} {p:Value} {l:List UInt8} {w w':World} (h:fh T e b N p l w) (q:∀k,k<w.heap.size->w'.heap[k]?=w.heap[k]?) (r:∀k,N' k->N k∨w.heap.size<=k):fh T e b N' p l w':=by
 obtain⟨v,s,a,f,i,j⟩:=h
 have m:=lk s
 refine⟨v,by rw[q b m];exact s,?_,f,λn=>?_,λk c n=>?_⟩
 .rcases a.2 with ⟨rfl,u⟩ | ⟨g,cap,cur,rfl,o,t,hr⟩
  .exact⟨a.1,.inl ⟨rfl,u⟩⟩
  .exact⟨a.1,.inr ⟨g,cap,cur,rfl,o,by rw[q g (lk t)];exact t,hr⟩⟩
 .rcases r b n with d | d
  .exact i d
  .omega
 .have:=(a.lt k c).2
  rcases r k n with d | d
  .exact j k c d
  .omega
theorem cz.kept {T e:TypeId} {b:Nat} {N N':Nat->Prop} {l:List UInt8} {w w':World} (h:cz T e b N l w) (a:∀k,k<w.heap.size->w'.heap[k]?=w.heap[k]?) (c:∀k,N' k->N k∨w.heap.size<=k):cz T e b N' l w':=
 h.imp (·.kept a c) (·.kept a c)
theorem fh.used {T e:TypeId} {b:Nat} {N:Nat->Prop} {p:Value} {l:List UInt8} {w:World} (h:fh T e b N p l w) (q:Value):fh T e b N q l (w.setCell ⟨b,0,none⟩ q)/\Kept N w (w.setCell ⟨b,0,none⟩ q):=by
 obtain⟨v,i,a,c,d,f⟩:=h
 refine⟨⟨v,by simp[World.setCell,HU,i],?_,c,d,f⟩,⟨rfl,rfl,rfl,by simp[World.setCell],λk g=>Below.heap_setCell _ _ _ _ (λe=>d ((show k=b from e)▸g))⟩⟩
 exact a.kept (row:=some b) ⟨rfl,rfl,rfl,by simp[World.setCell],λk _ g=>Below.heap_setCell _ _ _ _ (λe=>g (by simp[e]))⟩ (Or.inr c)
theorem fh.cells {T e:TypeId} {b:Nat} {N:Nat->Prop} {p:Value} {l:List UInt8} {w:World} (h:fh T e b N p l w):w.cell? ⟨b,0,none⟩=some p/\w.shape? b=some (T,2)/\w.frozen? ⟨b,0,none⟩=false:=by
 obtain⟨v,a,_⟩:=h
 exact⟨by simp[World.cell?,a],by simp[World.shape?,a],by simp[World.frozen?,a]⟩
theorem fh.put {T e:TypeId} {b:Nat} {N:Nat->Prop} {p v c:Value} {l l':List UInt8} {w w':World} (j:T≠e) (o:w.heap[b]?=some (.cells #[p,v] T (0,0))) (q:w.ownsRow 0 e 1 v l.length (Lib.byteCells l)) (m:v.ownBlock≠some b) (h:¬ N b)
  (i:∀k,v.ownBlock=some k->¬ N k) (r:∀k,N k->k<w.heap.size) (s:w'.ownsRow 0 e 1 c l'.length (Lib.byteCells l')) (g:w.grownBy w' v.ownBlock) (x:∀k,c.ownBlock=some k->v.ownBlock=some k∨w.heap.size<=k):
  w'.heap[b]?=some (.cells #[p,v] T (0,0))/\fh T e b N p l' (w'.setCell ⟨b,1,none⟩ c)/\Kept N w (w'.setCell ⟨b,1,none⟩ c):=by
 have n:=lk o
 have d:w'.heap[b]?=some (.cells #[p,v] T (0,0)):=by rw[g.block b n (λe=>m e.symm)];exact o
 have a:c.ownBlock≠some b:=Lib.ownBlock_ne s d j
 refine⟨d,⟨c,by simp[World.setCell,HU,d],?_,a,h,λk f t=>?_⟩,⟨g.os,g.tape,g.output,by simpa [World.setCell] using g.size,λk f=>?_⟩⟩
 .exact s.kept (row:=some b) ⟨rfl,rfl,rfl,by simp[World.setCell],λk _ f=>Below.heap_setCell _ _ _ _ (λe=>f (by simp[e]))⟩ (Or.inr a)
 .rcases x k f with u | u
  .exact i k u t
  .have:=r k t;omega
 .rw[Below.heap_setCell w' ⟨b,1,none⟩ c k (λe=>h ((show k=b from e)▸f))]
  exact g.block k (r k f) (λe=>i k e.symm f)
theorem qd {P:Program} (w:World) {ops:Array Oper} {rest:List Oper} {o:Oper} {a:Act} {Q:Exit->Act->World->Prop} (f:o.guard=none) (sl x:Operand) (t u:TypeId)
  (j:o.op=.call { callee:=.builtin .append,args:=#[sl,x],argTypes:=#[t,u] })
  (e:TypeId) (i:TypeInfo) (l:P.underlying t=some (.slice e)) (hu:P.underlying u=some .string) (hi:P.info? e=some i) (m:i.zero=some (.int .u8 0))
  (b:i.size=1) (g:i.bytes=1)
  (v:Value) (n:Nat) (xs:List Value) (p:a.eval sl=v) (c:w.ownsRow 0 e 1 v n xs) (s:ByteArray) (q:a.eval x=.string s) (r:n+s.size<=1000000)
  (h:∀d w',w'.ownsRow 0 e 1 d (n+s.size) (xs++Lib.strCells s)->w.grownBy w' v.ownBlock->(∀k,d.ownBlock=some k->v.ownBlock=some k∨w.heap.size<=k)->wpList P ops Q rest (a.put o.dst d) w'):wpList P ops Q (o::rest) a w:=by
 refine wpList_plain f λK y=>?_
 obtain⟨d,w',hr,z,A,B⟩:=Ce (P:=P) w t u o.type e i l hu hi m b g v n xs c s r
 unfold Oper.wp execOp
 simp only[j,resolve,invoke,builtin,Sem.run_bind,Sem.run_pure,Result.andThen_ok,List.map_toArray,H9,List.map_nil,p,q,hr]
 exact y _ _ (h d w' z A B)
open Go Go.Proofs Go.Shelf Go.RowKit
abbrev PT:TypeId:=277
abbrev BT:TypeId:=5
theorem FR:PT≠BT:=by decide
theorem De:liesAt aa aa.depth PT (2 / aa.cellsOf PT) 0 275 1=true:=by kernel_rfl
theorem xW:(aa.info? 275).map (·.size)=some 2:=by kernel_rfl
theorem infoByte:(aa.info? BT).map (λi=>(i.zero,i.size,i.bytes))=some (some (.int .u8 0),1,1):=by kernel_rfl
theorem yX (b:Nat) (w:World) (h0:w.cell? ⟨b,0,none⟩=some (.pointer (some ⟨b,0,none⟩))):
  Calls aa 254 #[.pointer (some ⟨b,0,none⟩)] w λe w'=>e=.returned (.tuple #[])/\w'=w:=by
 obtain⟨j,hj,_⟩:=GU.1 xW
 go_enter Tryz.func254,Tryz.ntmps254
 go_wp2
 rw[Lib.run_neq_ptr_same w _ Tryz.underlying273 hj]
 go_wp2
 go_end0
 exact⟨rfl,rfl⟩
theorem wk (b:Nat) (w:World) (h0:w.cell? ⟨b,0,none⟩=some (.pointer none)) (hsh:w.shape? b=some (PT,2)) (hfz:w.frozen? ⟨b,0,none⟩=false):
  Calls aa 254 #[.pointer (some ⟨b,0,none⟩)] w λe w'=>e=.returned (.tuple #[])/\w'=w.setCell ⟨b,0,none⟩ (.pointer (some ⟨b,0,none⟩)):=by
 obtain⟨j,hj,hjs⟩:=GU.1 xW
 go_enter Tryz.func254,Tryz.ntmps254
 go_wp2
 rw[Lib.run_to_unsafe w ⟨b,0,none⟩ Tryz.underlying273 Tryz.underlying446 hj (by rw[hjs];decide) hsh (Nat.zero_lt_succ 1)]
 simp only[Result.andThen]
 rw[Oper.upon_value]
 go_wp2
 rw[run_callFunc_extern Tryz.func306 (by kernel_rfl) (by kernel_rfl) (by kernel_rfl) (e:=Extern.AbiNoEscape.same) (by kernel_rfl)]
 rw[Lib.run_noEscape]
 simp only[Result.andThen]
 rw[Oper.upon_value]
 go_wp2
 rw[Lib.run_from_unsafe w ⟨b,0,none⟩ Tryz.underlying446 Tryz.underlying273 hj hsh De]
 simp only[Result.andThen]
 rw[Oper.upon_value]
 go_wp2
 go_end0
 exact⟨rfl,rfl⟩
theorem zM {b:Nat} {N:Nat->Prop} {l:List UInt8} {w:World} (h:cz PT BT b N l w):
  Calls aa 254 #[.pointer (some ⟨b,0,none⟩)] w λe w'=>e=.returned (.tuple #[])/\fh PT BT b N (.pointer (some ⟨b,0,none⟩)) l w'/\Kept N w w':=by
 rcases h with h | h
 .refine(wk b w h.cells.1 h.cells.2.1 h.cells.2.2).mono ?_
  rintro e w' ⟨rfl,rfl⟩
  exact⟨rfl,h.used _⟩
 .refine(yX b w h.cells.1).mono ?_
  rintro e w' ⟨rfl,rfl⟩
  exact⟨rfl,h,Kept.refl N _⟩
theorem y7 {b:Nat} {N:Nat->Prop} {l:List UInt8} (s:ByteArray) {w:World} (h:cz PT BT b N l w) (hl:l.length+s.size<=1000000) (hN:∀k,N k->k<w.heap.size):
  Calls aa 207 #[.pointer (some ⟨b,0,none⟩),.string s] w λe w'=>e=.returned (.tuple #[.int .i64 s.size,.nilIface])/\cz PT BT b N (l++s.data.toList) w'/\Kept N w w':=by
 obtain⟨i0,hi,hz0,hz1,hz2⟩:=info_parts infoByte
 have hc:=zM h
 go_enter Tryz.func207,Tryz.ntmps207
 go_wp2_with (go_at_call 254;refine hc.mono ?_)
 rintro e w1 ⟨rfl,⟨v,hbk,hown,hne,hnb,hnv⟩,hb1⟩
 have c0:w1.cell? ⟨b,0,none⟩=some (.pointer (some ⟨b,0,none⟩)):=by rw[Lib.cell_of_heap hbk];rfl
 have c1:w1.cell? ⟨b,1,none⟩=some v:=by rw[Lib.cell_of_heap hbk];rfl
 have hN1:∀k,N k->k<w1.heap.size:=λk hk=>G2 (hN k hk) hb1.size
 go_wp2_with (at_builtin;refine qd _ rfl _ _ 40 9 rfl BT i0 Tryz.underlying40 Tryz.underlying9 hi hz0 hz1 hz2 _ _ _ rfl hown s rfl hl ?_)
 intro v' w2 hown' hgrow hloc
 have key:=fh.put (l':=l++s.data.toList) FR hbk hown hne hnb hnv hN1 (by simpa [Lib.byteCells_append,<-Lib.strCells_eq,Im] using hown') hgrow hloc
 obtain⟨hb2,k1,k2⟩:=key
 have d0:w2.cell? ⟨b,0,none⟩=some (.pointer (some ⟨b,0,none⟩)):=by rw[Lib.cell_of_heap hb2];rfl
 have d1:w2.cell? ⟨b,1,none⟩=some v:=by rw[Lib.cell_of_heap hb2];rfl
 have f1:w2.frozen? ⟨b,1,none⟩=false:=Lib.frozen_of_heap hb2 1
 obtain⟨ao,n',cap,rfl⟩:∃ao n' cap,v'=.slice ao n' cap:=by
  rcases hown'.2 with ⟨hv,_⟩ | ⟨g,cap,cur,hv,_⟩
  .exact⟨_,_,_,hv⟩
  .exact⟨_,_,_,hv⟩
 go_wp2
 go_ret2
 exact⟨rfl,.inr k1,hb1.trans k2⟩
open Go Go.Proofs Go.Shelf Go.RowKit
def sk:Ren where
 f:=fun
  | 156=>208
  | 165=>255
  | 166=>207
  | 169=>161
  | 240=>254
  | 241=>307
  | 276=>306
  | 277=>326
  | n=>n
 t:=fun
  | 31=>32
  | 9=>9
  | 3=>3
  | 4=>4
  | 0=>0
  | 20=>20
  | 72=>275
  | 76=>348
  | 70=>273
  | 37=>40
  | 75=>347
  | 127=>353
  | 164=>446
  | 5=>5
  | 80=>282
  | n=>n
 g:=λn=>n
theorem Fu:Go.Proofs.Lays.n156 aa sk where
 mixed:=by kernel_rfl
 f156:=by kernel_rfl
 f165:=by kernel_rfl
 f166:=by kernel_rfl
 f169:=by kernel_rfl
 f240:=by kernel_rfl
 f241:=by kernel_rfl
 f276:=by kernel_rfl
 f277:=by kernel_rfl
 t0:=Tryz.underlying0
 a0:=Tryz.isAgg0
 z0:=Tryz.sizeOf0
 v0:=Tryz.zeroValue0
 t3:=Tryz.underlying3
 a3:=Tryz.isAgg3
 z3:=Tryz.sizeOf3
 v3:=Tryz.zeroValue3
 t4:=Tryz.underlying4
 a4:=Tryz.isAgg4
 z4:=Tryz.sizeOf4
 v4:=Tryz.zeroValue4
 t9:=Tryz.underlying9
 a9:=Tryz.isAgg9
 z9:=Tryz.sizeOf9
 v9:=Tryz.zeroValue9
 t20:=Tryz.underlying20
 a20:=Tryz.isAgg20
 z20:=Tryz.sizeOf20
 v20:=Tryz.zeroValue20
 t31:=Tryz.underlying32
 a31:=Tryz.isAgg32
 z31:=Tryz.sizeOf32
 v31:=Tryz.zeroValue32
 t37:=Tryz.underlying40
 a37:=Tryz.isAgg40
 z37:=Tryz.sizeOf40
 v37:=Tryz.zeroValue40
 t70:=Tryz.underlying273
 a70:=Tryz.isAgg273
 z70:=Tryz.sizeOf273
 v70:=Tryz.zeroValue273
 t72:=Tryz.underlying275
 a72:=Tryz.isAgg275
 z72:=Tryz.sizeOf275
 v72:=Tryz.zeroValue275
 t75:=Tryz.underlying347
 a75:=Tryz.isAgg347
 z75:=Tryz.sizeOf347
 v75:=Tryz.zeroValue347
 t76:=Tryz.underlying348
 a76:=Tryz.isAgg348
 z76:=Tryz.sizeOf348
 v76:=Tryz.zeroValue348
 t127:=Tryz.underlying353
 a127:=Tryz.isAgg353
 z127:=Tryz.sizeOf353
 v127:=Tryz.zeroValue353
 t164:=Tryz.underlying446
 a164:=Tryz.isAgg446
 z164:=Tryz.sizeOf446
 v164:=Tryz.zeroValue446
theorem EM:Builder.Extra aa sk where
 sizeBuilder:=by kernel_rfl
 liesBuilder:=by kernel_rfl
 t5:=Tryz.underlying5
 a5:=Tryz.isAgg5
 z5:=Tryz.sizeOf5
 v5:=Tryz.zeroValue5
 infoByte:=by kernel_rfl
 cellsByte:=by kernel_rfl
 sizeByte:=by kernel_rfl
 neB5:=by decide
theorem CB {b:Nat} {N:Nat->Prop} {l:List UInt8} {w:World} (h:cz PT BT b N l w):
  Calls aa 160 #[.pointer (some ⟨b,0,none⟩)] w λe w'=>e=.returned (.int .i64 l.length)/\w'=w:=by
 obtain⟨p,v,hbk,hown⟩:∃p v,w.heap[b]?=some (.cells #[p,v] PT (0,0))/\w.ownsRow 0 BT 1 v l.length (Lib.byteCells l):=by
  rcases h with ⟨v,h1,h2,_⟩ | ⟨v,h1,h2,_⟩
  .exact⟨_,v,h1,h2⟩
  .exact⟨_,v,h1,h2⟩
 obtain⟨ao,cap,rfl⟩:∃ao cap,v=.slice ao l.length cap:=by
  rcases hown.2 with ⟨rfl,h0⟩ | ⟨g,cap,cur,rfl,_⟩
  .exact⟨none,0,by rw[h0]⟩
  .exact⟨_,_,rfl⟩
 have c1:w.cell? ⟨b,1,none⟩=some (.slice ao l.length cap):=by rw[Lib.cell_of_heap hbk];rfl
 clear hown hbk h
 go_enter Tryz.func160,Tryz.ntmps160
 go_wp2
 go_ret
 exact⟨rfl,rfl⟩
theorem BI (w:World) (a:Addr) (n:Nat):(w.freeze a n).os=w.os/\(w.freeze a n).tape=w.tape/\(w.freeze a n).output=w.output/\(w.freeze a n).heap.size=w.heap.size/\∀k,k≠a.block->(w.freeze a n).heap[k]?=w.heap[k]?:=by
 unfold World.freeze
 split
 .exact⟨rfl,rfl,rfl,rfl,λ_ _=>rfl⟩
 .refine⟨rfl,rfl,rfl,by simp,λk b=>?_⟩
  simp only[HU]
  rw[GV (λe=>b e.symm)]
theorem Kept.freeze {N:Nat->Prop} {w:World} {g:Nat} (n:Nat) (a:¬ N g):Kept N w (w.drew.freeze ⟨g,0,none⟩ n):=by
 obtain⟨b,c,d,f,h⟩:=BI w.drew ⟨g,0,none⟩ n
 exact⟨b,c,d,Nat.le_of_eq f.symm,λk i=>h k λe=>a ((show k=g from e)▸i)⟩
theorem wo {b:Nat} {N:Nat->Prop} {l:List UInt8} {w:World} (h:cz PT BT b N l w) (h0:l≠[]) (hl:l.length<=1000000):
  Calls aa 161 #[.pointer (some ⟨b,0,none⟩)] w λe w'=>e=.returned (.string ⟨l.toArray⟩)/\Kept N w w':=by
 obtain⟨p,v,hbk,hown,hnv⟩:∃p v,w.heap[b]?=some (.cells #[p,v] PT (0,0))/\w.ownsRow 0 BT 1 v l.length (Lib.byteCells l)/\∀k,v.ownBlock=some k->¬ N k:=by
  rcases h with ⟨v,h1,h2,_,_,h3⟩ | ⟨v,h1,h2,_,_,h3⟩
  .exact⟨_,v,h1,h2,h3⟩
  .exact⟨_,v,h1,h2,h3⟩
 have hl0:l.length≠0:=by simpa using h0
 obtain⟨g,cap,cur,rfl,hbg,hg,hnc,hcm,hcs,htake⟩:∃g cap cur,v=.slice (some ⟨g,0,none⟩) l.length cap/\0<=g/\w.heap[g]?=some (.cells cur BT (0,0))/\l.length<=cap/\cap<=maxLen/\cur.size=cap*1/\cur.toList.take (l.length*1)=Lib.byteCells l:=by
  rcases hown.2 with ⟨_,hz⟩ | ⟨g,cap,cur,hv,r⟩
  .exact absurd hz hl0
  .exact⟨g,cap,cur,hv,r⟩
 have hng:¬ N g:=hnv g rfl
 have c1:w.drew.cell? ⟨b,1,none⟩=some (.slice (some ⟨g,0,none⟩) l.length cap):=by
  have:w.drew.heap[b]?=some (.cells #[p,.slice (some ⟨g,0,none⟩) l.length cap] PT (0,0)):=hbk
  rw[Lib.cell_of_heap this];rfl
 have hSD:(Builtin.unsafeSliceData_ #[40] 353 #[.slice (some ⟨g,0,none⟩) l.length cap]).run aa w.drew=.ok (.pointer (some ⟨g,0,none⟩)) w.drew:=
  Lib.run_unsafeSliceData_row _ _ _ _ _ _ (by omega)
 have hUS:(Builtin.unsafeString_ #[353,3] 9 #[.pointer (some ⟨g,0,none⟩),.int .i64 l.length]).run aa w.drew=.ok (.string ⟨l.toArray⟩) (w.drew.freeze ⟨g,0,none⟩ l.length):=by
  refine Lib.run_unsafeString_row w.drew 353 3 9 BT Tryz.underlying353 (by kernel_rfl) g cur.size (by have hg':w.drew.heap[g]?=some (.cells cur BT (0,0)):=hg;simp[World.shape?,hg']) l h0 (by omega) (by omega) ?_
  intro j x hx
  have:=hown.cells (g:=g) rfl j (.int .u8 x.toNat) (by simp[Lib.byteCells,hx])
  exact this
 clear hown htake hbk h
 go_enter Tryz.func161,Tryz.ntmps161
 go_wp2
 go_region
 all_goals (go_wp2;go_ret;refine⟨rfl,?_⟩)
 all_goals exact Kept.freeze _ hng
def oz (ws:List ByteArray):List UInt8:=Lib.join (ws.map (·.data.toList)) [32]
def bh (ws:List ByteArray):List UInt8:=oz ws++[10]
theorem ta {b:Nat} {N:Nat->Prop} {l:List UInt8} {w:World} (h:cz PT BT b N l w) (hN:∀k,N k->k<w.heap.size) (ws:List ByteArray) (bk o c:Nat)
  (hcells:∀(j:Nat) x,ws[j]?=some x->w.cell? ⟨bk,o+j,none⟩=some (.string x)) (hbk:bk<w.heap.size) (hws:ws.length<=100000) (hcap:ws.length<=c) (hl:l.length+(bh ws).length<=1000000):
  Calls aa 157 #[.pointer (some ⟨b,0,none⟩),.slice (some ⟨bk,o,none⟩) ws.length c] w λe w'=>e=.returned (.tuple #[])/\cz PT BT b N (l++bh ws) w'/\Kept N w w':=by
 have hll:(bh ws).length=(oz ws).length+1:=by simp[bh]
 have hj:∀W:World,(W.heap=w.heap)->Calls aa 208 #[.slice (some ⟨bk,o,none⟩) ws.length c,.string ⟨#[32]⟩] W λe w'=>e=.returned (.string ⟨(oz ws).toArray⟩)/\Below W.heap.size W w':=λW hW =>
  Any.strings_Join Fu EM bk o c ws ⟨#[32]⟩ W (λj x hx=>by have:=hcells j x hx;simpa [World.cell?,hW] using this) (by rw[hW];exact hbk) (by omega) hcap (by show (oz ws).length<=_;omega)
 have hwr:∀W:World,(∀k,k<w.heap.size->W.heap[k]?=w.heap[k]?)->w.heap.size<=W.heap.size->Calls aa 207 #[.pointer (some ⟨b,0,none⟩),.string (⟨(oz ws).toArray⟩++⟨#[10]⟩)] W λe w'=>e=.returned (.tuple #[.int .i64 (bh ws).length,.nilIface])/\cz PT BT b N (l++bh ws) w'/\Kept N W w':=λW hW hs=>by
  have e1:(⟨(oz ws).toArray⟩++⟨#[10]⟩:ByteArray)=⟨(bh ws).toArray⟩:=by
   apply ByteArray.ext
   simp[bh]
  rw[e1]
  refine(y7 ⟨(bh ws).toArray⟩ (h.kept hW λk hk=>.inl hk) (by simpa [ByteArray.size] using hl) λk hk=>G2 (hN k hk) hs).mono ?_
  rintro e w' ⟨rfl,h1,h2⟩
  exact⟨by simp[ByteArray.size],by simpa using h1,h2⟩
 clear hcells
 go_enter Tryz.func157,Tryz.ntmps157
 go_wp2
 go_region_with (first
  | (go_at_call 208;refine(hj _ ?_).mono ?_;rfl;rintro e w2 ⟨rfl,hb2⟩)
  | (go_at_call 207;refine(hwr _ ?_ ?_).mono ?_;exact hb2.block;exact hb2.size;rintro e w3 ⟨rfl,h3,k3⟩))
 all_goals (
  go_wp2
  go_end0
  exact⟨rfl,h3,(Kept.below (w:=w) ⟨hb2.os,hb2.tape,hb2.output,hb2.size,hb2.block⟩ hN).trans k3⟩)
open Go Go.Proofs Go.Shelf Go.RowKit
theorem tf {Z Z':Nat->Prop} {μ ν:Mu} {hp o:Array Obj} (z:∀b,Z b->Z' b) (A:∀b,Z b->o[b]?=hp[b]?) {v:V} {x:Value} (h:ae Z μ hp v x):Tree v->ae Z' ν o v x:=by
 induction h with
 | any x=>intro t;exact .any x
 | val v B=>intro _;exact .val v B
 | emp k a l s=>intro _;exact .emp k a l s
 | bS a cap=>intro _;exact .bS a cap
 | dA a cap l=>intro _;exact .dA a cap l
 | al es b off esz cap c d hle p u _ m =>
  intro t
  cases t with
  | al _ n=>exact .al es b off esz cap c (z _ d) hle p (λi j hi q=>by rw[fw (A _ d)];exact u i j hi q) (λi j hi q=>m i j hi q (n i j hi (by rw[p i hi];exact q)))
 | fj id off esz a=>intro t;cases t
 | sl id off len esz b o0 cap c e f hm hle D E=>intro t;cases t
 | ptr id i j b o0 esz hm=>intro t;cases t
 | aC e j b off c d u _ m =>
  intro t
  cases t with
  | aC _ _ n=>exact .aC e j b off c (z _ d) (λk r=>by rw[fw (A _ d)];exact u k r) (λk r=>m k r (n k r))
 | mp id b o0 esz hm=>intro t;cases t
 | fn f xs ys g C l s _ _ w y =>
  intro t
  cases t with
  | fn _ _ _ t1 t2=>exact .fn f xs ys g C l s (λi hi=>w i hi (t1 i hi)) (λi hi=>y i hi (t2 i hi))
 | agg cs g l _ m =>
  intro t
  cases t with
  | agg _ n=>exact .agg cs g l (λi hi=>m i hi (n i hi))
 | aA cs g l _ m =>
  intro t
  cases t with
  | aA _ n=>exact .aA cs g l (λi hi=>m i hi (n i hi))
theorem iC {Z:Nat->Prop} {μ:Mu} {hp:Array Obj} {α:Type} {l:List α} {f:α->List V} {k:Nat} (p:∀x,(f x).length=k) {x:Value} (h:ae Z μ hp (.al (l.map f)) x):
  ∃a cap,x=.slice a l.length cap/\l.length<=cap/\∀(i:Nat) t,l[i]?=some t->∃b off,a=some ⟨b,off,none⟩/\Z b/\∀j,j<k->∃y,cellAt hp b (off+i*k+j)=some y/\ae Z μ hp ((f t).getD j .any) y:=by
 rcases rA h with ⟨he,a,cap,rfl,_⟩ | ⟨b,off,esz,cap,c,rfl,q,hle,e,r,s⟩
 .have:l=[]:=by simpa using he
  subst this
  exact⟨a,cap,rfl,HG _,λi t hi=>by simp at hi⟩
 .refine⟨some ⟨b,off,none⟩,cap,by simp,by simpa using hle,λi t hi=>⟨b,off,rfl,q,λj g=>?_⟩⟩
  have d:i<(l.map f).length:=by simpa using (Ha.1 hi).1
  have m:(l.map f).getD i []=f t:=by simp[GQ,hi]
  have n:=e i d
  rw[m,p] at n
  subst n
  have o:=s i j d g
  rw[m] at o
  exact⟨_,r i j d g,o⟩
def C7 (l:List UInt8):V:=if 4000<l.length then .aA [gs ⟨#[]⟩,gi 5] else .aA [gs ⟨l.toArray⟩,gi 0]
theorem ak.use {P:Program} {f:FuncId} {vs:List V} {t:V} (l:ak P f vs t) {Z:Nat->Prop} {μ:Mu} {w W:World} {xs:List Value} (m:∀v∈vs,Tree v) (hr:cL Z μ w.heap vs xs) (n:∀b,Z b->b<w.heap.size) (o:Gl Z w.heap)
  (j:Kept Z w W):Calls P f xs.toArray W λe d=>∃x c,e=.returned x/\(∀ν,ae c ν d.heap t x)/\Below W.heap.size W d/\(∀b,Z b->c b)/\∀b,c b->Z b∨(W.heap.size<=b/\b<d.heap.size):=by
 have k:cL Z μ W.heap vs xs:=⟨hr.1,λi hi=>tf (λ_ h=>h) (λb a=>j.block b a) (hr.2 i hi) (by
  rw[GQ,GR hi];exact m _ (G4 _))⟩
 refine(l Z μ W xs k (λb a=>G2 (n b a) j.size) (o.mono (λ_ h=>h) λb a=>j.block b a)).mono ?_
 rintro e d ⟨x,c,rfl,p,g,q,r,s⟩
 exact⟨x,c,rfl,p,⟨g.os,g.tape,g.output,g.size,λb a=>s b a (λx=>x)⟩,q,r⟩
def nV:ByteArray:=⟨#[37,116,111,107,101,110]⟩
def zL:ByteArray:=⟨#[37,115,116,97,114,116]⟩
def zG:ByteArray:=⟨#[37,37]⟩
def iQ (g:ay) (L:List (List ByteArray)) (W:aI->List ByteArray):List UInt8:=
 g.an.flatMap (λt=>bh [nV,t.name])++L.flatMap bh++bh [zL,g.aB.getD g.start.toNat ⟨#[]⟩]++bh [zG]++g.rules.flatMap λr=>bh (W r)
structure aS (p:Prop):Prop where
 out:p
theorem Kept.alloc {N:Nat->Prop} {w:World} (a:∀k,N k->k<w.heap.size) (o:Obj):Kept N w (w.alloc o):=
 ⟨rfl,rfl,rfl,by simp,λk b=>Below.heap_alloc w o k (a k b)⟩
theorem pL {b:Nat} {N:Nat->Prop} {l:List UInt8} {w W0:World} (h:cz PT BT b N l w) (d:∀k,N k->k<w.heap.size) (f:Below w.heap.size w W0) (ws:List ByteArray) (s:Nat) (i:s=W0.heap.size) (hw:ws.length<=1000) (m:l.length+(bh ws).length<=1000000):
  Calls aa 157 #[.pointer (some ⟨b,0,none⟩),.slice (some ⟨s,0,none⟩) ws.length ws.length] (W0.alloc (.cells (ws.map Value.string).toArray 9)) λe w'=>e=.returned (.tuple #[])/\cz PT BT b N (l++bh ws) w'/\Kept N w w':=by
 subst i
 have g:(W0.alloc (.cells (ws.map Value.string).toArray 9)).heap[W0.heap.size]?=some (.cells (ws.map Value.string).toArray 9 (0,0)):=by rw[heap_alloc];simp
 have a:=f.alloc f.size (.cells (ws.map Value.string).toArray 9)
 refine(ta (h.kept a.block λk c=>.inl c) (λk c=>G2 (d k c) a.size) ws W0.heap.size 0 ws.length (λj x n=>?_) (lk g) (by omega) (GX _) m).mono ?_
 .rw[Lib.cell_of_heap g];simp[n]
 .rintro e w' ⟨rfl,o,p⟩
  exact⟨rfl,o,(Kept.below a d).trans p⟩
theorem lh {g:ay} {L:List (List ByteArray)} {W:aI->List ByteArray} {n:Nat} (h:(iQ g L W).length<=n):(g.an.flatMap λt=>bh [nV,t.name]).length+(L.flatMap bh).length+(bh [zL,g.aB.getD g.start.toNat ⟨#[]⟩]).length+(bh [zG]).length+(g.rules.flatMap λr=>bh (W r)).length<=n:=by
 simpa [iQ,Nat.add_assoc] using h
theorem mq {α:Type} {l:List α} {f:α->List UInt8} {k:Nat} {x:α} (a:l[k]?=some x):(l.take (k+1)).flatMap f=(l.take k).flatMap f++f x/\((l.take k).flatMap f).length+(f x).length<=(l.flatMap f).length:=by
 have e:(l.take (k+1)).flatMap f=(l.take k).flatMap f++f x:=by rw[Hn,a];simp
 refine⟨e,?_⟩
 have b:l.flatMap f=(l.take (k+1)).flatMap f++(l.drop (k+1)).flatMap f:=by rw[<-List.flatMap_append,List.take_append_drop]
 rw[b,e]
 simp
theorem vE {Z:Nat->Prop} {μ:Mu} {hp:Array Obj} {ws:List ByteArray} (l:ws≠[]) {y:Value} (h:ae Z μ hp (encS ws) y):∃b o c,y=.slice (some ⟨b,o,none⟩) ws.length c/\ws.length<=c/\Z b/\∀(j:Nat) s,ws[j]?=some s->cellAt hp b (o+j)=some (.string s):=by
 obtain⟨a,c,rfl,hle,i⟩:=iC (f:=λs=>[gs s]) (k:=1) (λ_=>rfl) h
 obtain⟨d,r,rfl⟩:∃d r,ws=d::r:=by
  cases ws with
  | nil=>exact absurd rfl l
  | cons a r=>exact⟨a,r,rfl⟩
 obtain⟨b,o,rfl,m,_⟩:=i 0 d rfl
 refine⟨b,o,c,rfl,hle,m,λj s n=>?_⟩
 obtain⟨t,u,e,_,p⟩:=i j s n
 obtain⟨y,q,g⟩:=p 0 (by omega)
 have g:ae Z μ hp (gs s) y:=g
 cases g
 simp only[GS,Addr.mk.injEq] at e
 obtain⟨rfl,rfl,_⟩:=e
 simpa using q
theorem qg {b:Nat} {N Z:Nat->Prop} {l:List UInt8} {w:World} (h:cz PT BT b N l w) (f:∀k,N k->k<w.heap.size) {ws:List ByteArray} (g:ws≠[]/\ws.length<=1000) {μ:Mu} {y:Value} (i:ae Z μ w.heap (encS ws) y) (m:∀k,Z k->k<w.heap.size) (n:l.length+(bh ws).length<=1000000):
  Calls aa 157 #[.pointer (some ⟨b,0,none⟩),y] w λe w'=>e=.returned (.tuple #[])/\cz PT BT b N (l++bh ws) w'/\Kept N w w':=by
 obtain⟨p,o,c,rfl,q,d,a⟩:=vE g.1 i
 exact ta h f ws p o c (λj x r=>by rw[dw];exact a j x r) (m _ d) (by omega) q n
theorem qQ {w W:World} {n B:Nat} {a b c d:Value} {T:TypeId} (f:Kept (· < n) w W) (e:B<n/\w.heap[B]?=some (.cells #[a,b,c,d] T (0,0))):
  W.cell? ⟨B,0,none⟩=some a/\W.cell? ⟨B,1,none⟩=some b/\W.cell? ⟨B,2,none⟩=some c/\W.cell? ⟨B,3,none⟩=some d:=by
 have:W.heap[B]?=some (.cells #[a,b,c,d] T (0,0)):=(f.block B e.1).trans e.2
 refine⟨?_,?_,?_,?_⟩<;>rw[Lib.cell_of_heap this]<;>rfl
theorem wJ (g:ay) (hR:ak aa 17 [.agg (ax g)] (gb true)) (L:List (List ByteArray)) (hL:ak aa 158 [.al (g.an.map cd)] (.al (L.map λws=>[encS ws]))) (hL0:∀ws∈L,ws≠[]/\ws.length<=1000)
  (W:aI->List ByteArray) (hW:∀r∈g.rules,ak aa 159 [.agg (ax g),.agg (aK r)] (encS (W r))) (hW0:∀r∈g.rules,W r≠[]/\(W r).length<=1000) (nm:ByteArray) (hs0:0<=g.start) (hs:g.aB[g.start.toNat]?=some nm) (hT:(iQ g L W).length<=1000000)
  (hn1:g.an.length<=100000) (hn2:L.length<=100000) (hn3:g.rules.length<=100000):
  ak aa 96 [.agg (ax g)] (C7 (iQ g L W)):=by
 intro Z μ w xs hrel hz hG
 obtain⟨x,rfl⟩:∃x,xs=[x]:=by
  match xs,hrel.1 with
  | [x],_=>exact⟨x,rfl⟩
 have hx:ae Z μ w.heap (.agg (ax g)) x:=hrel.2 0 (by simp)
 obtain⟨st,hst⟩:∃st:Nat,g.start=st:=⟨g.start.toNat,by omega⟩
 have hsn:g.start.toNat=st:=by omega
 rw[hsn] at hs
 obtain⟨c0,c1,c2,rfl,r0,r1,r2⟩:∃c0 c1 c2,x=.agg #[c0,c1,c2,.int .i64 (st:Int)]/\ae Z μ w.heap (.al (g.an.map cd)) c0/\ae Z μ w.heap (encS g.aB) c1/\ae Z μ w.heap (.al (g.rules.map aK)) c2:=by
  cases hx with
  | agg _ aas h1 h2 =>
   obtain⟨l⟩:=aas
   match l,h1 with
   | [c0,c1,c2,c3],_ =>
    have k3:=h2 3 (by simp[ax])
    have k3:ae Z μ w.heap (gi g.start) c3:=k3
    rw[hst] at k3
    obtain rfl:=bd k3
    exact⟨c0,c1,c2,rfl,h2 0 (by simp[ax]),h2 1 (by simp[ax]),h2 2 (by simp[ax])⟩
 obtain⟨a0,k0,rfl,hk0,e0⟩:=iC (k:=3) (λ_=>rfl) r0
 obtain⟨a1,k1,rfl,hk1,e1⟩:=iC (f:=λs=>[gs s]) (k:=1) (λ_=>rfl) r1
 obtain⟨a2,k2,rfl,hk2,e2⟩:=iC (k:=3) (λ_=>rfl) r2
 have callR:=λ(W:World) (hk:Kept Z w W)=>hR.use (dM g) hrel hz hG hk
 go_enter Tryz.func96,Tryz.ntmps96
 go_wp2_with (go_at_call 17;refine(callR _ ?_).mono ?_)
 .exact Kept.alloc hz _
 rintro e W1 ⟨v1,Z1,rfl,hv1,hb1,hz1,hz1'⟩
 have hv1:=bd (hv1 λ_=>none)
 subst hv1
 obtain⟨B,hB⟩:∃B,B=w.heap.size:=⟨_,rfl⟩
 rw[<-hB]
 have q0:W1.heap[B]?=some (.cells #[.slice a0 g.an.length k0,.slice a1 g.aB.length k1,.slice a2 g.rules.length k2,.int .i64 (st:Int)] 35 (0,0)):=by
  rw[hb1.block B (by simp[hB]),heap_alloc,hB];simp
 have qlt:B<W1.heap.size:=lk q0
 have q2:(W1.alloc (.cells #[.pointer none,.slice none 0 0] PT)).heap[B]?=some (.cells #[.slice a0 g.an.length k0,.slice a1 g.aB.length k1,.slice a2 g.rules.length k2,.int .i64 (st:Int)] 35 (0,0)):=(Below.heap_alloc _ _ _ qlt).trans q0
 have c00:(W1.alloc (.cells #[.pointer none,.slice none 0 0] PT)).cell? ⟨B,0,none⟩=some (.slice a0 g.an.length k0):=by rw[Lib.cell_of_heap q2];rfl
 have hN1:∀k,k<W1.heap.size->(W1.alloc (.cells #[.pointer none,.slice none 0 0] PT)).heap[k]?=W1.heap[k]?:=λk hk=>Below.heap_alloc _ _ _ hk
 have Hp0:aS (cz PT BT W1.heap.size (· < W1.heap.size) [] (W1.alloc (.cells #[.pointer none,.slice none 0 0] PT))):=
  ⟨.inl ⟨.slice none 0 0,by rw[heap_alloc];simp,World.ownsRow_nil _ _ _ _,by simp[Value.ownBlock],by simp,λk hk=>by simp[Value.ownBlock] at hk⟩⟩
 have Hk0:aS (Kept (· < W1.heap.size) W1 (W1.alloc (.cells #[.pointer none,.slice none 0 0] PT))):=⟨Kept.alloc (λ_ h=>h) _⟩
 have hw1:∀k,k<w.heap.size->W1.heap[k]?=w.heap[k]?:=λk hk=>(hb1.block k (by simp;omega)).trans (Below.heap_alloc _ _ _ hk)
 have hsz:w.heap.size<W1.heap.size:=by have:=hb1.size;simp at this;omega
 have Hc0:aS (∀(i:Nat) t,g.an[i]?=some t->∃b off,a0=some ⟨b,off,none⟩/\b<W1.heap.size/\W1.cell? ⟨b,off+i*3,none⟩=some (.string t.name)/\W1.cell? ⟨b,off+i*3+1,none⟩=some (.int .i64 t.level)/\W1.cell? ⟨b,off+i*3+2,none⟩=some (.int .i64 t.assoc)):=by
  refine⟨λi t hi=>?_⟩
  obtain⟨b,off,ha,hzb,hc⟩:=e0 i t hi
  have hb:=hz b hzb
  obtain⟨y0,d0,v0⟩:=hc 0 (by omega)
  obtain⟨y1,d1,v1⟩:=hc 1 (by omega)
  obtain⟨y2,d2,v2⟩:=hc 2 (by omega)
  have v0:ae Z μ w.heap (gs t.name) y0:=v0
  have v1:ae Z μ w.heap (gi t.level) y1:=v1
  have v2:ae Z μ w.heap (gi t.assoc) y2:=v2
  obtain rfl:=bd v0
  obtain rfl:=bd v1
  obtain rfl:=bd v2
  refine⟨b,off,ha,by omega,?_,?_,?_⟩<;>rw[dw,fw (hw1 b hb)]
  .exact d0
  .exact d1
  .exact d2
 have HS:=aS.mk (And.intro hst (And.intro hsn hs))
 have HB:=aS.mk hB
 have Hq:=aS.mk (And.intro qlt q0)
 have Hkw:aS (Kept (· < w.heap.size) w W1):=⟨⟨hb1.os,hb1.tape,hb1.output,Hk (by simp) hb1.size,hw1⟩⟩
 have He:=aS.mk (And.intro e1 e2)
 have Hb1:=aS.mk hb1
 have Hw1:=aS.mk hw1
 have Hsz:=aS.mk hsz
 have Hr:=aS.mk (And.intro hrel (And.intro hz hG))
 have Hr0:=aS.mk (And.intro r0 (And.intro r1 r2))
 clear hst hsn hs hs0 hB q0 q2 qlt e0 e1 e2 hb1 hrel hz hG r0 r1 r2 callR hx hN1 hw1 hsz
 go_wp2
 clear c00
 generalize hW2:W1.alloc (Obj.cells #[Value.pointer none,Value.slice none 0 0] PT)=W2 at Hp0 Hk0 ⊢
 clear hW2
 go_loopw [17] (λi wr=>∃k:Nat,k<=g.an.length/\i=.int .i64 k/\aS (cz PT BT W1.heap.size (· < W1.heap.size) ((g.an.take k).flatMap λt=>bh [nV,t.name]) wr)/\aS (Kept (· < W1.heap.size) W1 wr)) (λi _=>g.an.length-(RowKit.intOf i).toNat)
 case atStart=>exact⟨0,HG _,rfl,by simpa using Hp0,Hk0⟩
 case round =>
  obtain⟨k,hk,rfl,HP,HK⟩:=hrel
  by_cases hlt:k<g.an.length
  .have ht:g.an[k]?=some g.an[k]:=GR hlt
   generalize g.an[k]=t at ht
   obtain⟨b0,off,rfl,hb0,d0,d1,d2⟩:=Hc0.out k t ht
   have d0:wr.cell? ⟨b0,off+k*3,none⟩=some (.string t.name):=(HK.out.cell hb0 _).trans d0
   have d1:wr.cell? ⟨b0,off+k*3+1,none⟩=some (.int .i64 t.level):=(HK.out.cell hb0 _).trans d1
   have d2:wr.cell? ⟨b0,off+k*3+2,none⟩=some (.int .i64 t.assoc):=(HK.out.cell hb0 _).trans d2
   have Ht:=aS.mk (mq (f:=λt=>bh [nV,t.name]) ht)
   clear ht
   go_wp2_with fail
   refine(pL (W0:=wr.alloc _) HP.out (λk hk=>G2 hk HK.out.size) ((Below.refl _ _).alloc (GX _) _) [nV,t.name] _ (by simp) (by simp) (by have:=(lh hT);have:=Ht.out.2;omega)).mono ?_
   rintro e w3 ⟨rfl,h3,k3⟩
   rw[<-Ht.out.1] at h3
   have H3:=aS.mk h3
   have K3:=aS.mk (HK.out.trans k3)
   clear h3 k3
   go_wp2
   exact⟨⟨k+1,by omega,by go_num,H3,K3⟩,by simp[RowKit.intOf];omega⟩
  .have hke:k=g.an.length:=by omega
   subst hke
   rw[G9 (GX _)] at HP
   obtain⟨c00,-⟩:=qQ HK.out Hq.out
   have callL:=hL.use (xs:=[.slice a0 g.an.length k0]) (by intro v hv;simp at hv;subst hv;exact eP g _ (by simp[ax])) ⟨rfl,λi hi=>by
    have:i=0:=by simpa using hi
    subst this;exact Hr0.out.1⟩ Hr.out.2.1 Hr.out.2.2 ((Hkw.out.trans (HK.out.mono λk hk=>Nat.lt_trans hk Hsz.out)).mono Hr.out.2.1)
   go_wp2_with fail
   refine callL.mono ?_
   rintro e Wl ⟨x,Z2,rfl,hv,hbl,hz2,hz2'⟩
   clear callL c00
   obtain⟨a,ca,rfl,hca,hrow⟩:=iC (f:=λws=>[encS ws]) (k:=1) (λ_=>rfl) (hv λ_=>none)
   clear hv
   have hN2:∀k,(k<W1.heap.size∨Z2 k)->k<Wl.heap.size:=λk hk=>by
    rcases hk with hk | hk
    .exact G2 hk (Hk HK.out.size hbl.size)
    .rcases hz2' k hk with h | h
     .have:=Hr.out.2.1 k h;have:=Hsz.out;have:=HK.out.size;have:=hbl.size;omega
     .exact h.2
   have Hp2:aS (cz PT BT W1.heap.size (λk=>k<W1.heap.size∨Z2 k) (g.an.flatMap λt=>bh [nV,t.name]) Wl):=⟨HP.out.kept hbl.block λk hk=>by
    rcases hk with hk | hk
    .exact .inl hk
    .rcases hz2' k hk with h | h
     .have:=Hr.out.2.1 k h;have:=Hsz.out;exact .inl (by omega)
     .exact .inr h.1⟩
   have Hk2:aS (Kept (· < W1.heap.size) W1 Wl):=⟨HK.out.trans ⟨hbl.os,hbl.tape,hbl.output,hbl.size,λk hk=>hbl.block k (G2 hk HK.out.size)⟩⟩
   have HN2:=aS.mk hN2
   have Hrow:=aS.mk hrow
   have Hz2:=aS.mk (And.intro hz2 hz2')
   have Hbl:=aS.mk hbl
   clear hrow hz2 hz2' hbl hN2 HP HK Hp0 Hk0 Hc0
   go_wp2_with fail
   go_loopw [30] (λi wr=>∃k:Nat,k<=L.length/\i=.int .i64 k/\aS (cz PT BT W1.heap.size (λk=>k<W1.heap.size∨Z2 k) ((g.an.flatMap λt=>bh [nV,t.name])++(L.take k).flatMap bh) wr)/\aS (Kept (λk=>k<W1.heap.size∨Z2 k) Wl wr)) (λi _=>L.length-(RowKit.intOf i).toNat)
   case atStart=>exact⟨0,HG _,rfl,by simpa using Hp2,⟨Kept.refl _ _⟩⟩
   case round =>
    obtain⟨k,hk,rfl,HP,HK⟩:=hrel
    by_cases hlt:k<L.length
    .have hws:L[k]?=some L[k]:=GR hlt
     have hmem:L[k]∈L:=G4 _
     generalize L[k]=ws at hws hmem
     obtain⟨b0,off,rfl,hb0,d⟩:=Hrow.out k ws hws
     obtain⟨y,d0,vy⟩:=d 0 (by omega)
     have vy:ae Z2 (λ_=>none) Wl.heap (encS ws) y:=vy
     have d0:wr.cell? ⟨b0,off+k,none⟩=some y:=(HK.out.cell (.inr hb0) _).trans (by rw[dw];simpa using d0)
     obtain⟨bk,o,c,rfl,_⟩:=vE (hL0 ws hmem).1 vy
     have Hvy:=aS.mk (tf (Z':=Z2) (ν:=λ_=>none) (λ_ h=>h) (λb hb=>HK.out.block b (.inr hb)) vy (kI ws))
     have Ht:=aS.mk (mq (f:=bh) hws)
     clear hws d vy
     go_wp2_with fail
     refine(qg HP.out (λk hk=>G2 (HN2.out k hk) HK.out.size) (hL0 ws hmem) Hvy.out (λk hk=>G2 (HN2.out k (.inr hk)) HK.out.size) (by have:=(lh hT);have:=Ht.out.2;rw[Im];omega)).mono ?_
     rintro e w3 ⟨rfl,h3,k3⟩
     rw[Ii,<-Ht.out.1] at h3
     have H3:=aS.mk h3
     have K3:=aS.mk (HK.out.trans k3)
     clear h3 k3
     go_wp2
     exact⟨⟨k+1,by omega,by go_num,H3,K3⟩,by simp[RowKit.intOf];omega⟩
    .have hke:k=L.length:=by omega
     subst hke
     rw[G9 (GX _)] at HP
     have HPf:=aS.mk (HP.out.kept (N':=(· < W1.heap.size)) (λ_ _=>rfl) λk hk=>.inl (.inl hk))
     have HKf:=aS.mk (Hk2.out.trans (HK.out.mono λk hk=>.inl hk))
     clear HP HK Hp2 Hk2 HN2 Hrow Hz2 Hbl
     obtain⟨-,c01,-,c03⟩:=qQ HKf.out Hq.out
     obtain⟨b1,off1,rfl,hb1,dn⟩:=He.out.1 st nm HS.out.2.2
     obtain⟨y0,dn0,vn⟩:=dn 0 (by omega)
     have vn:ae Z μ w.heap (gs nm) y0:=vn
     obtain rfl:=bd vn
     have hb1w:=Hr.out.2.1 b1 hb1
     have dn1:wr.cell? ⟨b1,off1+st,none⟩=some (.string nm):=(HKf.out.cell (Nat.lt_trans hb1w Hsz.out) _).trans ((Hkw.out.cell hb1w _).trans (by rw[dw];simpa using dn0))
     have hsl:st<g.aB.length:=(Ha.1 HS.out.2.2).1
     have hpt:=aS.mk (lh hT)
     clear dn dn0 vn hb1w
     go_wp2_with fail
     refine(pL (W0:=wr) HPf.out (λk hk=>G2 hk HKf.out.size) (Below.refl _ _) [zL,nm] _ rfl (by simp) (by
      have h:=hpt.out
      rw[GQ,HS.out.2.1,HS.out.2.2,G1] at h
      rw[Im];omega)).mono ?_
     rintro e w3 ⟨rfl,h3,k3⟩
     have H3:=aS.mk h3
     have K3:=aS.mk (HKf.out.trans k3)
     clear h3 k3 HPf HKf c01 c03 dn1
     go_wp2_with fail
     refine(pL (W0:=w3) H3.out (λk hk=>G2 hk K3.out.size) (Below.refl _ _) [zG] _ rfl (by simp) (by
      have h:=hpt.out
      rw[GQ,HS.out.2.1,HS.out.2.2,G1] at h
      simp only[Im];omega)).mono ?_
     rintro e w4 ⟨rfl,h4,k4⟩
     have H4:=aS.mk h4
     have K4:=aS.mk (K3.out.trans k4)
     clear h4 k4 H3 K3
     obtain⟨-,-,c02,-⟩:=qQ K4.out Hq.out
     go_wp2_with fail
     clear c02
     go_loopw [50] (λi wr=>∃k:Nat,k<=g.rules.length/\i=.int .i64 k/\aS (cz PT BT W1.heap.size (· < W1.heap.size) ((g.an.flatMap λt=>bh [nV,t.name])++L.flatMap bh++bh [zL,nm]++bh [zG]++(g.rules.take k).flatMap λr=>bh (W r)) wr)/\aS (Kept (· < W1.heap.size) W1 wr)) (λi _=>g.rules.length-(RowKit.intOf i).toNat)
     case atStart=>exact⟨0,HG _,rfl,by simpa using H4,K4⟩
     case round =>
      obtain⟨k,hk,rfl,HP,HK⟩:=hrel
      by_cases hlt:k<g.rules.length
      .have hr:g.rules[k]?=some g.rules[k]:=GR hlt
       have hmem:g.rules[k]∈g.rules:=G4 _
       generalize g.rules[k]=r at hr hmem
       obtain⟨b2,off2,rfl,hb2,d⟩:=He.out.2 k r hr
       obtain⟨y0,d0,v0⟩:=d 0 (by omega)
       obtain⟨y,d1,v1⟩:=d 1 (by omega)
       obtain⟨y2,d2,v2⟩:=d 2 (by omega)
       have v0:ae Z μ w.heap (gi r.left) y0:=v0
       have v1:ae Z μ w.heap (encI r.right) y:=v1
       have v2:ae Z μ w.heap (gi r.prec) y2:=v2
       obtain rfl:=bd v0
       obtain rfl:=bd v2
       have hb2w:=Hr.out.2.1 b2 hb2
       have d0:wr.cell? ⟨b2,off2+k*3,none⟩=some (.int .i64 r.left):=(HK.out.cell (Nat.lt_trans hb2w Hsz.out) _).trans ((Hkw.out.cell hb2w _).trans (by rw[dw];simpa using d0))
       have d1:wr.cell? ⟨b2,off2+k*3+1,none⟩=some y:=(HK.out.cell (Nat.lt_trans hb2w Hsz.out) _).trans ((Hkw.out.cell hb2w _).trans (by rw[dw];exact d1))
       have d2:wr.cell? ⟨b2,off2+k*3+2,none⟩=some (.int .i64 r.prec):=(HK.out.cell (Nat.lt_trans hb2w Hsz.out) _).trans ((Hkw.out.cell hb2w _).trans (by rw[dw];exact d2))
       have Hvr:aS (cL Z μ w.heap [.agg (ax g),.agg (aK r)] [.agg #[.slice a0 g.an.length k0,.slice (some ⟨b1,off1,none⟩) g.aB.length k1,.slice (some ⟨b2,off2,none⟩) g.rules.length k2,.int .i64 (st:Int)],.agg #[.int .i64 r.left,y,.int .i64 r.prec]]):=by
        refine⟨rfl,λi hi=>?_⟩
        match i,hi with
        | 0,_=>exact Hr.out.1.2 0 (by simp)
        | 1,_ =>
         refine .agg _ _ rfl λj hj=>?_
         match j,hj with
         | 0,_=>exact v0
         | 1,_=>exact v1
         | 2,_=>exact v2
       obtain⟨l,cy,rfl⟩:∃l cy,y=.slice l r.right.length cy:=by
        obtain⟨l,cy,rfl,_⟩:=iC (f:=λx=>[gi x]) (k:=1) (λ_=>rfl) v1
        exact⟨l,cy,rfl⟩
       have Ht:=aS.mk (mq (f:=λr=>bh (W r)) hr)
       have Hm:=aS.mk hmem
       have hal:aS (Below wr.heap.size wr (wr.alloc (.cells #[.int .i64 r.left,.slice l r.right.length cy,.int .i64 r.prec] 114))):=⟨(Below.refl _ _).alloc (GX _) _⟩
       have HKa:aS (Kept (· < W1.heap.size) W1 (wr.alloc (.cells #[.int .i64 r.left,.slice l r.right.length cy,.int .i64 r.prec] 114))):=⟨HK.out.trans (Kept.below hal.out λk hk=>G2 hk HK.out.size)⟩
       obtain⟨c00,c01,c02,c03⟩:=qQ HKa.out Hq.out
       have callW:=(hW r hmem).use (by
        intro v hv;simp at hv
        rcases hv with rfl | rfl
        .exact dM g _ (by simp)
        .exact dD _ (cG r)) Hvr.out Hr.out.2.1 Hr.out.2.2 ((Hkw.out.trans (HKa.out.mono λk hk=>Nat.lt_trans hk Hsz.out)).mono Hr.out.2.1)
       clear hr hmem d v0 v1 v2 hb2w
       go_wp2_with fail
       refine callW.mono ?_
       rintro e Wc ⟨x,Z3,rfl,hv,hbc,hz3,hz3'⟩
       have hbw:=hal.out.trans (hbc.mono hal.out.size)
       have Hzc:aS (∀k,Z3 k->k<Wc.heap.size):=⟨λk hk=>by
        rcases hz3' k hk with h | h
        .have:=Hr.out.2.1 k h;have:=Hsz.out;have:=HK.out.size;have:=hbw.size;omega
        .exact h.2⟩
       have Hv:=aS.mk (hv λ_=>none)
       have Hbw:=aS.mk hbw
       clear hv hbc hz3 hz3' hbw callW c00 c01 c02 c03 d0 d1 d2
       go_wp2_with fail
       refine(qg (HP.out.kept (N':=(· < W1.heap.size)) Hbw.out.block λk hk=>.inl hk) (λk hk=>G2 hk (Hk HK.out.size Hbw.out.size)) (hW0 r Hm.out) Hv.out Hzc.out (by
        have h:=hpt.out
        have h2:=Ht.out.2
        rw[GQ,HS.out.2.1,HS.out.2.2,G1] at h
        simp only[Im];omega)).mono ?_
       rintro e w5 ⟨rfl,h5,k5⟩
       rw[Ii _ _ (bh (W r)),<-Ht.out.1] at h5
       have H5:=aS.mk h5
       have K5:=aS.mk ((HK.out.trans (Kept.below Hbw.out λk hk=>G2 hk HK.out.size)).trans k5)
       clear h5 k5
       go_wp2
       exact⟨⟨k+1,by omega,by go_num,H5,K5⟩,by simp[RowKit.intOf];omega⟩
      .have hke:k=g.rules.length:=by omega
       subst hke
       rw[G9 (GX _)] at HP
       have HPf:aS (cz PT BT W1.heap.size (· < W1.heap.size) (iQ g L W) wr):=by
        unfold iQ
        rw[GQ,HS.out.2.1,HS.out.2.2,G1]
        exact HP
       have hne:iQ g L W≠[]:=λe=>by
        have:(iQ g L W).length=0:=by rw[e];rfl
        simp[iQ,bh] at this
       have Hfin:aS (∀w':World,Kept (· < W1.heap.size) wr w'->bZ w w'/\cT w.heap w'.heap λ_=>False):=⟨λw' hk'=>by
        have h:=Hkw.out.trans ((HK.out.trans hk').mono λk hk=>Nat.lt_trans hk Hsz.out)
        exact⟨⟨h.os,h.tape,h.output,h.size⟩,λb hb _=>h.block b hb⟩⟩
       have Hlen:=aS.mk (CB HPf.out)
       have Hstr:=aS.mk (wo HPf.out hne hT)
       clear HP H4 K4 hpt He Hr0
       go_wp2_with fail
       refine Hlen.out.mono ?_
       rintro e w' ⟨rfl,rfl⟩
       have two:∀(s:ByteArray) (n:Int) (hp:Array Obj) (ν:Mu),ae Z ν hp (.aA [gs s,gi n]) (.tuple #[.string s,.int .i64 n]):=λs n hp ν=>.aA _ _ rfl λi hi=>by
        match i,hi with
        | 0,_=>exact .val _ rfl
        | 1,_=>exact .val _ rfl
       go_wp2_with fail
       .rename_i h
        go_ret2
        obtain⟨f1,f2⟩:=Hfin.out _ (Kept.refl _ _)
        exact⟨_,Z,rfl,by unfold C7;rw[GZ (by omega)];exact two _ _ _,f1,λ_ h=>h,λ_ h=>.inl h,f2⟩
       .rename_i h
        refine Hstr.out.mono ?_
        rintro e w6 ⟨rfl,k6⟩
        go_wp2
        go_ret2
        obtain⟨f1,f2⟩:=Hfin.out _ k6
        exact⟨_,Z,rfl,by unfold C7;rw[GV (by omega)];exact two _ _ _,f1,λ_ h=>h,λ_ h=>.inl h,f2⟩
def yP:Value->Value->Bool
 | .int k a,.int k' b=>decide (k=k')&&decide (a=b)
 | .bool a,.bool b=>a==b
 | .string a,.string b=>ej a b
 | .pointer none,.pointer none=>true
 | _,_=>false
theorem CM:∀(a b:Value),yP a b=true->a=b:=by
 intro a b h
 unfold yP at h
 split at h
 .simp only[G0,G7] at h
  rw[h.1,h.2]
 .rename_i a b
  rw[show a=b by simpa using h]
 .rename_i a b
  obtain⟨a⟩:=a
  obtain⟨b⟩:=b
  simp only[ej,HC] at h
  rw[show a=b from Array.toList_inj.1 h]
 .rfl
 .simp at h
def oT (q:V->V->Bool):List V->List V->Bool
 | [],[]=>true
 | a::l,b::m=>q a b&&oT q l m
 | _,_=>false
def yr (q:V->V->Bool):List (List V)->List (List V)->Bool
 | [],[]=>true
 | a::l,b::m=>oT q a b&&yr q l m
 | _,_=>false
def sC:Nat->V->V->Bool
 | 0,_,_=>false
 | k+1,a,b=>match a,b with
  | .val x,.val y=>yP x y
  | .al x,.al y=>yr (sC k) x y
  | .agg x,.agg y=>oT (sC k) x y
  | .aA x,.aA y=>oT (sC k) x y
  | _,_=>false
theorem lr {q:V->V->Bool} (c:∀a b,q a b=true->a=b):∀(l m:List V),oT q l m=true->l=m
 | [],[],_=>rfl
 | a::l,b::m,h=>by
  simp only[oT,G0] at h
  rw[c a b h.1,lr c l m h.2]
 | [],_::_,h=>by simp[oT] at h
 | _::_,[],h=>by simp[oT] at h
theorem Ad {q:V->V->Bool} (c:∀a b,q a b=true->a=b):∀(l m:List (List V)),yr q l m=true->l=m
 | [],[],_=>rfl
 | a::l,b::m,h=>by
  simp only[yr,G0] at h
  rw[lr c a b h.1,Ad c l m h.2]
 | [],_::_,h=>by simp[yr] at h
 | _::_,[],h=>by simp[yr] at h
theorem vF:∀(k:Nat) (a b:V),sC k a b=true->a=b
 | 0,_,_,h=>by simp[sC] at h
 | k+1,a,b,h=>by
  have c:=vF k
  unfold sC at h
  split at h
  .rw[CM _ _ h]
  .rw[Ad c _ _ h]
  .rw[lr c _ _ h]
  .rw[lr c _ _ h]
  .simp at h
def kp:Nat->V->Bool
 | 0,_=>false
 | k+1,v=>match v with
  | .val _=>true
  | .emp _=>true
  | .bS=>true
  | .al es=>es.all λe=>e.all (kp k)
  | .agg cs=>cs.all (kp k)
  | .aA cs=>cs.all (kp k)
  | _=>false
theorem mw {q:V->Bool} {l:List V} (h:l.all q=true) {i:Nat} (hi:i<l.length):q (l.getD i .any)=true:=by
 have e:l.getD i .any=l[i]:=by simp[GQ,hi]
 rw[e]
 exact Hg.1 h _ (G4 _)
theorem j5:∀(k:Nat) (v:V),kp k v=true->Tree v
 | 0,_,h=>by simp[kp] at h
 | k+1,v,h=>by
  have a:=j5 k
  unfold kp at h
  split at h
  .exact .val _
  .exact .emp _
  .exact .bS
  .rename_i es
   refine .al _ λi j hi b=>a _ ?_
   have e:es.getD i []=es[i]:=by simp[GQ,hi]
   have c:=Hg.1 h _ (G4 hi)
   rw[e] at b ⊢
   exact mw c b
  .exact .agg _ λi hi=>a _ (mw h hi)
  .exact .aA _ λi hi=>a _ (mw h hi)
  .simp at h
def ma (H:View):Nat->V->Option V
 | 0,_=>none
 | k+1,v=>match v with
  | .val x=>some (.val x)
  | .emp _=>some (.al [])
  | .al es=>match kp 60 (.al es) with
   | true=>some (.al es)
   | false=>none
  | .sl id off len _=>match H id with
   | .arr _ es=>match Nat.ble (off+len) es.length with
    | true=>(rp (ma H k) ((es.drop off).take len)).map .al
    | false=>none
   | _=>none
  | .agg cs=>(hX (ma H k) cs).map .agg
  | .aA cs=>(hX (ma H k) cs).map .aA
  | _=>none
theorem rj (h:ah):∀(k:Nat) (v t:V),ma h.view k v=some t->Fr h v t
 | 0,v,t,a=>by simp[ma] at a
 | k+1,v,t,a=>by
  have b:=rj h k
  simp only[ma] at a
  split at a
  .simp only[GS] at a;subst a;exact .tree _ (.val _)
  .simp only[GS] at a;subst a;exact .emp _
  .split at a
   .rename_i d
    simp only[GS] at a;subst a;exact .tree _ (j5 _ _ d)
   .simp at a
  .rename_i id off len esz
   split at a
   .rename_i z es e
    split at a
    .rename_i hle
     have hle:=Nat.le_of_ble_eq_true hle
     simp only[GU] at a
     obtain⟨es',he,rfl⟩:=a
     obtain⟨g1,g2⟩:=rB _ _ he
     have hlen:es'.length=len:=by rw[g1];simp;omega
     have f:∀i,i<len->((es.drop off).take len).getD i []=es.getD (off+i) []:=λi hi=>by
      simp[GQ,HA,hi]
     have g3:∀i,i<len->hX (ma h.view k) (es.getD (off+i) [])=some (es'.getD i []):=λi hi=>by
      rw[<-f i hi];exact g2 i (by rw[<-g1,hlen];exact hi)
     exact .sl id off len esz z es es' e hle hlen (λi hi=>(dL _ _ (g3 i hi)).1) (λi j hi g=>b _ _ ((dL _ _ (g3 i hi)).2 j (by rw[<-(dL _ _ (g3 i hi)).1];exact g)))
    .simp at a
   .simp at a
  .simp only[GU] at a
   obtain⟨l,c,rfl⟩:=a
   obtain⟨g1,g2⟩:=dL _ _ c
   exact .agg _ _ g1 (λi hi=>b _ _ (g2 i hi))
  .simp only[GU] at a
   obtain⟨l,c,rfl⟩:=a
   obtain⟨g1,g2⟩:=dL _ _ c
   exact .aA _ _ g1 (λi hi=>b _ _ (g2 i hi))
  .simp at a
theorem ak.seen {P:Program} {f:FuncId} {vs g:List V} {t:V} (q:ak P f g t) (r:∀i,i<vs.length->Tree (vs.getD i .any)) (u:g.length=vs.length) (k:∀i,i<vs.length->Fr [] (vs.getD i .any) (g.getD i .any)):ak P f vs t:=by
 intro Z μ w xs a n p
 have l:dO Z (λ_=>none) w.heap (cat [] λ_=>.dead):=by
  exact⟨λ_=>trivial,λi j b o s C D _ h=>by simp at h,λid b o s h=>by simp at h,n,λid b o s h=>by simp at h,p⟩
 have c:∀b,¬ eF (λ_=>none) b:=λb ⟨_,_,_,h⟩=>by simp at h
 have m:cL (λb=>Z b∨eF (λ_=>none) b) μ w.heap g xs:=⟨by rw[u,a.1],λi hi=>pU l (k i (by omega)) (lT (a.2 i (by omega)) (r i (by omega)))⟩
 refine(q _ μ w xs m (λb d=>d.elim (n b) (λh=>absurd h (c b))) (p.mono (λ_=>.inl) λ_ _=>rfl)).mono ?_
 rintro e w' ⟨x,Z',rfl,v,y,z,A,B⟩
 exact⟨x,Z',rfl,v,y,λb d=>z b (.inl d),λb d=>(A b d).elim (λh=>h.elim .inl (λh=>absurd h (c b))) .inr,B⟩
abbrev ff:=FuncId × List V × V × Bool
def ff.Ok (P:Program) (x:ff):Prop:=ba P x.1=true/\if x.2.2.2=true then ak P x.1 x.2.1 x.2.2.1 else (aT P x.1 x.2.1 x.2.2.1∨(ak P x.1 x.2.1 x.2.2.1/\nM x.2.2.1))
def Dr (g:FuncId) (vs:List V) (H:View) (x:ff):Bool:=Nat.beq x.1 g&&(match x.2.2.2 with
 | true=>vs.all (kp 60)&&(match hX (ma (λ_=>.dead) 60) vs with
  | some ts=>oT (sC 60) ts x.2.1
  | none=>false)
 | false=>match hX (ma H 60) vs with
  | some ts=>oT (sC 60) ts x.2.1
  | none=>false)
def Dy (l:List ff):nW:=λg vs H=>(l.find? (Dr g vs H)).map λx=>x.2.2.1
theorem b5 {P:Program} {l:List ff} (o:∀x∈l,x.Ok P):j7 P (Dy l):=by
 intro g vs H t h
 unfold Dy at h
 simp only[GU] at h
 obtain⟨⟨f,s,r,b⟩,n,rfl⟩:=h
 obtain⟨p,e⟩:=o _ (List.mem_of_find?_eq_some n)
 have a:=List.find?_some n
 simp only[Dr,G0] at a
 obtain⟨k,a⟩:=a
 have k:=HV k
 subst k
 refine⟨p,?_⟩
 rintro h rfl
 cases b with
 | true =>
  simp only[G0] at a
  obtain⟨m,c⟩:=a
  split at c
  .rename_i us d
   obtain⟨g1,g2⟩:=dL _ _ d
   have:=lr (vF 60) _ _ c
   subst this
   exact aN.ed (e.seen (λi hi=>j5 _ _ (mw m hi)) g1 λi hi=>rj [] 60 _ _ (g2 i hi)) h
  .simp at c
 | false =>
  simp only at a
  split at a
  .rename_i us d
   obtain⟨g1,g2⟩:=dL _ _ d
   have:=lr (vF 60) _ _ a
   subst this
   have j:=λi hi=>rj h 60 _ _ (g2 i hi)
   rcases e with e | ⟨e,q⟩
   .exact aN.lq e g1 j
   .exact aN.borrow e q g1 j
  .simp at a
theorem ff.Ok.new {P:Program} {f:FuncId} {vs:List V} {t:V} (a:aT P f vs t) (b:ba P f=true):ff.Ok P (f,vs,t,false):=⟨b,by simp only[Hc,if_false];exact .inl a⟩
theorem ff.Ok.yN {P:Program} {f:FuncId} {vs:List V} {b:Bool} (a:ak P f vs (.val (.bool b))) (c:ba P f=true):ff.Ok P (f,vs,V.val (.bool b),false):=⟨c,by simp only[Hc,if_false];exact .inr ⟨a,.val _⟩⟩
theorem ext_cons {P:Program} {x:ff} {l:List ff} (h:x.Ok P) (b:∀y∈l,y.Ok P):∀y∈x::l,y.Ok P:=λy a=>by
 rcases Hi.1 a with rfl | a
 .exact h
 .exact b y a
theorem ff.Ok.bare {P:Program} {f:FuncId} {vs:List V} {t:V} (a:ak P f vs t) (b:nM t) (c:ba P f=true):ff.Ok P (f,vs,t,false):=⟨c,by simp only[Hc,if_false];exact .inr ⟨a,b⟩⟩
def Dw:List Int:=[37,37,32,115,32,58,32,39,97,39,32,115,32,124,32,59]
def bD:ay:=⟨[⟨⟨#[39,97,39]⟩,0,0⟩],[⟨#[115]⟩],[⟨0,[0,(-1)],0⟩,⟨0,[],(-1)⟩],0⟩
theorem FF:aT aa 10 [uM Dw] (om bD):=D1 (by kernel_rfl)
theorem lY:bD.Ok:=by
 refine⟨by unfold aF;decide,by unfold aF;decide,by unfold aF;decide,by unfold eW;decide,?_,?_⟩
 .intro t a;simp[bD] at a;rcases a with rfl;unfold eW;decide
 .intro r hr;simp[bD] at hr;rcases hr with rfl | rfl<;>unfold eW aF<;>decide
theorem iX:bD.Small:=⟨by decide⟩
def Ed:List (FuncId × DF):=fM aa [(158,[]),(209,[]),(159,[2,3]),(210,[2]),(90,[2]),(152,[]),(97,[]),(162,[]),(211,[])]
theorem lR:ei aa Ed:=dB _ _
def EI:List (FuncId × DF):=fM aa [(43,[1,15]),(97,[]),(162,[]),(211,[])]
theorem BS:ei aa EI:=dB _ _
theorem AW:ak aa 17 [.agg (ax bD)] (gb true):=(show bQ bD=true by kernel_rfl)▸gS bD lY iX.names
def zk (r:aI):List ByteArray:=if r.right.length=2 then [⟨#[115]⟩,⟨#[58]⟩,⟨#[39,97,39]⟩,⟨#[115]⟩,⟨#[59]⟩] else [⟨#[115]⟩,⟨#[58]⟩,⟨#[59]⟩]
theorem DO:ak aa 158 [.al (bD.an.map cd)] (.al (([]:List (List ByteArray)).map λws=>[encS ws])):=
 (bb mixed lR (b5 (l:=[]) (by simp)) (by intro v a;simp at a;subst a;exact eP bD _ (by simp[ax])) (by kernel_rfl)).pure
theorem v7 (r:aI):∀v∈[V.agg (ax bD),.agg (aK r)],Tree v:=by
 intro v a;simp at a
 rcases a with rfl | rfl
 .exact dM bD _ (by simp)
 .exact dD _ (cG r)
theorem Ff:∀r∈bD.rules,ak aa 159 [.agg (ax bD),.agg (aK r)] (encS (zk r)):=by
 intro r hr
 simp only[bD,Hi,List.not_mem_nil,or_false] at hr
 rcases hr with rfl | rfl
 .exact(bb mixed lR (b5 (l:=[]) (by simp)) (v7 _) (by kernel_rfl)).pure
 .exact(bb mixed lR (b5 (l:=[]) (by simp)) (v7 _) (by kernel_rfl)).pure
def BG:List UInt8:=[37,116,111,107,101,110,32,39,97,39,10,37,115,116,97,114,116,32,115,10,37,37,10,115,32,58,32,39,97,39,32,115,32,59,10,115,32,58,32,59,10]
theorem AP:iQ bD [] zk=BG:=by decide
theorem EX:ak aa 96 [.agg (ax bD)] (.aA [gs ⟨BG.toArray⟩,gi 0]):=by
 have h:=wJ bD AW [] DO (by simp) zk Ff (by decide) ⟨#[115]⟩ (by decide) (by decide) (by rw[AP];decide) (by decide) (by decide) (by decide)
 rw[AP] at h
 exact h
theorem yk:aT aa 43 [.agg (ax bD)] (.aA [.val (.int .u32 3423994125),gi 0]):=
 bb mixed BS (b5 (ext_cons (l:=[]) (.bare EX (.aA _ λi hi=>by
  match i,hi with
  | 0,_=>exact⟨_,rfl⟩
  | 1,_=>exact⟨_,rfl⟩) (by kernel_rfl)) (by simp))) (dM bD) (by kernel_rfl)
abbrev c7:V:=.agg (ax bD)
theorem DZ:aT aa 42 [c7] (nf (bD,[0,1],0)):=(show gI bD=(bD,[0,1],0) by kernel_rfl)▸qS bD lY iX
theorem GC:ak aa 46 [c7] (gb true):=(show isRed bD=true by kernel_rfl)▸E0 bD lY iX
theorem Fj:aT aa 191 [c7] (.al [[gb true]]):=(show cp (aL bD false)=.al [[gb true]] by kernel_rfl)▸vY bD lY iX
theorem Fc:aT aa 95 [.al []] (.al []):=by
 refine aT.of (by intro v a;simp at a;subst a;exact gQ []) (((sN [] (by simp) _).mono λr H' b=>?_))
 rintro c rfl
 exact dz.ud (f:=λx:Int=>.int .i64 x) (l:=[]) b.1
def yQ:List ff:=[(17,[c7],gb true,false),(42,[c7],nf (bD,[0,1],0),false),(46,[c7],gb true,false),(191,[c7],.al [[gb true]],false)]
theorem oH:∀x∈yQ,x.Ok aa:=
 ext_cons (.yN AW (by kernel_rfl))<|ext_cons (.new DZ (by kernel_rfl))<|ext_cons (.yN GC (by kernel_rfl))<|ext_cons (.new Fj (by kernel_rfl)) (by simp)
def Gw:List ff:=(95,[.al []],.al [],false)::yQ
theorem jX:∀x∈Gw,x.Ok aa:=ext_cons (.new Fc (by kernel_rfl)) oH
theorem lI (l:List Int):∀v∈c7::l.map gi,Tree v:=by
 intro v a
 rcases Hi.1 a with rfl | a
 .exact dM bD _ (by simp)
 .obtain⟨x,_,rfl⟩:=HL.1 a
  exact .val _
def E2:List (FuncId × DF):=fM aa [(51,[2]),(111,[]),(112,[3]),(180,[]),(90,[2]),(152,[]),(54,[]),(113,[]),(181,[1]),(223,[]),(268,[]),(312,[]),(224,[]),(193,[]),(233,[]),(222,[1]),(95,[]),(267,[]),(266,[]),(91,[1]),(153,[3]),(154,[2]),(94,[2,3]),(156,[]),(183,[1]),(184,[3,4]),(226,[]),(225,[]),(270,[]),(271,[]),(315,[2,3]),(327,[]),(273,[2,3]),(317,[]),(328,[]),(14,[]),(329,[]),(313,[]),(316,[]),(314,[]),(269,[]),(272,[1]),(274,[2,3]),(318,[]),(182,[1])]
theorem nA:ei aa E2:=dB _ _
def EV:List (FuncId × DF):=fM aa [(20,[2]),(49,[2,3]),(108,[4]),(95,[]),(110,[2]),(179,[2]),(219,[2]),(261,[]),(54,[]),(113,[]),(220,[2]),(263,[5]),(310,[]),(309,[5,100000]),(262,[]),(221,[1]),(265,[2]),(264,[]),(311,[]),(178,[]),(218,[]),(260,[]),(308,[]),(109,[]),(47,[]),(48,[1]),(105,[]),(174,[3]),(107,[]),(177,[]),(106,[2]),(175,[]),(90,[2]),(152,[]),(176,[3]),(214,[1]),(215,[]),(259,[]),(258,[]),(196,[]),(235,[]),(236,[]),(216,[]),(56,[1]),(117,[]),(188,[]),(206,[]),(252,[]),(253,[]),(228,[]),(275,[]),(276,[]),(319,[]),(277,[]),(302,[]),(301,[]),(278,[]),(320,[]),(321,[]),(330,[]),(279,[]),(280,[]),(281,[]),(282,[]),(189,[2,3]),(230,[]),(283,[]),(229,[]),(190,[]),(114,[]),(116,[2]),(185,[2,3]),(227,[2]),(187,[]),(115,[2]),(186,[2]),(104,[2]),(173,[3]),(172,[3,100000]),(213,[]),(257,[2]),(256,[]),(122,[])]
theorem B7:ei aa EV:=dB _ _
def jM:V:=.aA [.al [[.val (.int .u32 1)]],gi 0]
theorem yH:aT aa 51 [c7,gi 0] jM:=bb mixed nA (b5 jX) (lI [0]) (by kernel_rfl)
theorem xb:aT aa 51 [c7,gi 1] jM:=bb mixed nA (b5 jX) (lI [1]) (by kernel_rfl)
theorem x8:aT aa 51 [c7,gi 2] jM:=bb mixed nA (b5 jX) (lI [2]) (by kernel_rfl)
def Ds:V:=.aA [.al [],gi 0]
theorem Gc:aT aa 20 [c7,gi 3] Ds:=
 bb mixed B7 (b5 oH) (lI [3]) (by kernel_rfl)
def EC:List (FuncId × DF):=fM aa [(11,[3]),(18,[1]),(19,[1]),(45,[2]),(102,[2]),(167,[]),(44,[1]),(99,[]),(100,[]),(164,[]),(98,[]),(163,[]),(101,[2]),(166,[4]),(212,[2]),(176,[3]),(214,[1]),(215,[]),(259,[]),(258,[]),(196,[]),(235,[]),(236,[]),(216,[]),(107,[]),(177,[]),(165,[1]),(22,[2]),(5,[]),(14,[]),(21,[]),(50,[])]
theorem zX:ei aa EC:=dB _ _
def Gs:List ff:=[(43,[c7],.aA [.val (.int .u32 3423994125),gi 0],false),(51,[c7,gi 0],jM,false),(51,[c7,gi 1],jM,false),(51,[c7,gi 2],jM,false),(20,[c7,gi 3],Ds,false)]++yQ
theorem Ek:∀x∈Gs,x.Ok aa:=
 ext_cons (.new yk (by kernel_rfl))<|ext_cons (.new yH (by kernel_rfl))<|ext_cons (.new xb (by kernel_rfl))<|ext_cons (.new x8 (by kernel_rfl))<|ext_cons (.new Gc (by kernel_rfl)) oH
def qJ (k a:Int) (l:List Int):List V:=[gi k,gi a,encI l]
def jI (s:Int) (a:Int):V:=.agg [.val (.int .u32 s),.al [qJ 3 0 [0,1],qJ a 0 [0],qJ 4 0 [1],qJ 4 1 [1],qJ 4 2 [1]]]
theorem Fv:aT aa 11 [c7,gi 2,gi 3] (.aA [jI 3423994125 1,gi 0]):=bb mixed zX (b5 Ek) (lI [2,3]) (by kernel_rfl)
def E8:List (FuncId × DF):=fM aa [(24,[1]),(58,[6,100000]),(125,[]),(199,[]),(233,[]),(124,[9]),(198,[9]),(237,[3]),(230,[]),(283,[]),(122,[]),(196,[]),(235,[]),(236,[]),(123,[3]),(197,[3]),(56,[1]),(117,[]),(188,[]),(206,[]),(252,[]),(253,[]),(228,[]),(275,[]),(276,[]),(319,[]),(277,[]),(302,[]),(301,[]),(278,[]),(320,[]),(321,[]),(330,[]),(279,[]),(280,[]),(281,[]),(282,[]),(189,[2,3]),(229,[]),(190,[]),(114,[]),(116,[2]),(185,[2,3]),(227,[2]),(187,[]),(115,[2]),(186,[2]),(57,[1]),(120,[4,5,100000]),(194,[2]),(234,[]),(54,[]),(113,[]),(192,[]),(213,[]),(257,[2]),(256,[]),(118,[2]),(119,[100000]),(193,[]),(121,[1]),(195,[])]
theorem Bb:ei aa E8:=dB _ _
def EB:List (FuncId × DF):=fM aa [(25,[1]),(59,[]),(60,[]),(61,[]),(127,[]),(128,[]),(126,[]),(62,[]),(63,[]),(130,[]),(131,[]),(129,[]),(64,[])]
theorem Af:ei aa EB:=dB _ _
def tG:V:=.agg [.al [[.al [[gi 1,gi 1],[gi 2,gi 1]]],[.al [[gi 1,gi 1],[gi 2,gi 1]]],[.al [[gi 0,gi 0],[gi 3,gi 0]]],[.al [[gi 0,gi 0],[gi 2,gi 0]]]],.al [[.al [[gi 2]]],[.al [[gi 3]]],[.al [[gi (-1)]]],[.al [[gi (-1)]]]]]
theorem EK:aT aa 24 [c7] (.aA [tG,.al [],gi 0]):=bb mixed Bb (b5 jX) (lI []) (by kernel_rfl)
def BB:V:=.agg [gi 1,gi 1,.al [[.al [[gi 0,gi 1,gi 1],[gi 1,gi 2,gi 1]]],[.al [[gi 1,gi 3,gi 0]]],[.al [[gi 1,gi 2,gi 0]]]],.al [[gi 0],[gi 0],[gi 1],[gi 2]],.al [[.al [[gi 0,gi 2]]],[.al [[gi 0,gi 3]]],[.al []]],.al [[gi 0],[gi 1],[gi 2],[gi 2]]]
theorem EN:aT aa 25 [tG] (.aA [BB,gi 0]):=
 bb mixed Af (b5 (l:=[]) (by simp)) (by intro v a;simp at a;subst a;exact j5 20 _ (by decide)) (by kernel_rfl)
def EO:List (FuncId × DF):=fM aa [(179,[2]),(219,[2]),(261,[]),(54,[]),(113,[]),(220,[2]),(263,[5]),(310,[]),(309,[5,100000]),(262,[]),(221,[1]),(265,[2]),(264,[]),(311,[])]
theorem tc:ei aa EO:=dB _ _
theorem um (l:List Int):∀v∈[c7,encI l],Tree v:=by
 intro v a
 simp at a
 rcases a with rfl | rfl
 .exact dM bD _ (by simp)
 .exact gQ l
theorem Ft:aT aa 179 [c7,encI [0]] (.aA [gb true,gi 0]):=bb mixed tc (b5 jX) (um _) (by kernel_rfl)
theorem Fx:aT aa 179 [c7,encI [0,0]] (.aA [gb true,gi 0]):=bb mixed tc (b5 jX) (um _) (by kernel_rfl)
def E5:List (FuncId × DF):=fM aa [(12,[2,3]),(26,[2,3]),(65,[2]),(132,[3,4]),(200,[1,100000]),(122,[]),(196,[]),(235,[]),(236,[]),(238,[1]),(286,[]),(287,[1]),(288,[]),(323,[]),(289,[1]),(290,[]),(291,[1]),(292,[]),(256,[]),(293,[1]),(285,[3]),(322,[]),(54,[]),(113,[]),(201,[3,4]),(219,[2]),(261,[]),(239,[2,3]),(295,[3]),(296,[3]),(294,[]),(324,[]),(297,[]),(240,[]),(107,[]),(177,[]),(298,[]),(299,[100000]),(45,[2]),(102,[2]),(167,[]),(66,[2]),(67,[]),(5,[]),(14,[]),(23,[1]),(52,[]),(53,[]),(55,[]),(18,[1])]
theorem m7:ei aa E5:=dB _ _
def Gb:List ff:=[(43,[c7],.aA [.val (.int .u32 3423994125),gi 0],false),(51,[c7,gi 0],jM,false),(51,[c7,gi 1],jM,false),(51,[c7,gi 2],jM,false),(24,[c7],.aA [tG,.al [],gi 0],false),(25,[tG],.aA [BB,gi 0],false),(179,[c7,encI [0]],.aA [gb true,gi 0],false),(179,[c7,encI [0,0]],.aA [gb true,gi 0],false)]++yQ
theorem rY:∀x∈Gb,x.Ok aa:=
 ext_cons (.new yk (by kernel_rfl))<|ext_cons (.new yH (by kernel_rfl))<|ext_cons (.new xb (by kernel_rfl))<|ext_cons (.new x8 (by kernel_rfl))<|ext_cons (.new EK (by kernel_rfl))<|ext_cons (.new EN (by kernel_rfl))<|ext_cons (.new Ft (by kernel_rfl))<|ext_cons (.new Fx (by kernel_rfl)) oH
theorem rN (s a:Int):∀v∈[c7,jI s a],Tree v:=by
 intro v b
 simp at b
 rcases b with rfl | rfl
 .exact dM bD _ (by simp)
 .exact j5 20 _ rfl
def oE (a b c e:Int):V:=.aA [.agg [gi a,gi b,gi c],gi e]
theorem DS:aT aa 12 [c7,jI 3423994125 1] (oE 5 0 (-1) 0):=bb mixed m7 (b5 rY) (rN _ _) (by kernel_rfl)
theorem Ei:aT aa 12 [c7,jI 3423994125 2] (oE 5 1 1 0):=bb mixed m7 (b5 rY) (rN _ _) (by kernel_rfl)
theorem Eo:aT aa 12 [c7,jI 3423994126 2] (oE 0 0 0 15):=bb mixed m7 (b5 rY) (rN _ _) (by kernel_rfl)
theorem Fh:kr.Ok:=by
 refine⟨by unfold aF;decide,by unfold aF;decide,by unfold aF;decide,by unfold eW;decide,?_,?_⟩
 .intro t a;simp[kr] at a
 .intro r hr;simp[kr] at hr
section
variable {g r:ay} {p q:List Bool} {o:List Int}
end
end
end Gv
