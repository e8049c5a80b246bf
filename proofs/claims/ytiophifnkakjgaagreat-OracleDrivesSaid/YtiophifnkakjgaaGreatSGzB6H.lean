/-
  Part 8 of the proof: what the machine does and what the functions answer.
  Conditions: those that each lemma names.
-/
import Derived.Shelf.SlIter.Sorted
import Derived.Shelf.SortM.Plain
import Derived.Shelf.SortM.SortNone
import Derived.Shelf.SlicesG.CompactS
import Derived.Test.YtiophifnkakjgaaGreatSGzB6G
set_option linter.unusedSimpArgs false
set_option linter.unusedVariables false
set_option maxRecDepth 100000
set_option maxHeartbeats 20000000
namespace Gv
open Go Go.Proofs
def dI {α:Type} (p:α->Bool):List α->Int->Int
 | [],_=>-1
 | x :: l,i=>if p x then i else dI p l (i+1)
theorem vu {α:Type} (p:α->Bool):∀ (l:List α) (i:Int),0<=i->decide (0<=dI p l i)=l.any p
 | [],_,_=>by simp[dI]
 | x :: l,i,h=>by
  have a:=vu p l (i+1) (by omega)
  rw[List.any_cons,dI]
  by_cases hp:p x=true
  .rw[Va hp,hp];simp[h]
  .rw[U8 hp,a];simp[hp]
theorem IV {f:FuncId} {xs cap:List V} (h:∀ v∈xs,Tree v) (b:∀ v∈cap,Tree v):Tree (.fn f xs cap):=by
 refine .fn _ _ _ (λi hi=>?_) (λi hi=>?_)
 .have a:xs.getD i .any=xs[i]:=by simp[U5,hi]
  rw[a];exact h _ (Vg _)
 .have a:cap.getD i .any=cap[i]:=by simp[U5,hi]
  rw[a];exact b _ (Vg _)
def ik:SC :=
 af [ab [aV 9 .lss 8 7],bW 9 (.exit 0),.block 1 (af [ab [aa 10 8,aa 5 10],ab [aa 11 1,aa 12 0,aa 13 5,aM 14 1 12 13,aj 15 14,((some 16),.call (.tmp 11) [(.tmp 15)])],bg 16 (af [ab [aa 17 5,aa 4 17],.ret])]),ab [aE 18 .add 8 1,aa 8 18]]
def iN:SF:=⟨af [ab [aT 4 0],af [ab [aa 6 0,aP 7 6,aT 8 0],bX 0 ik],ab [aT 4 (-1)],.ret],
 [.tmp 4],19⟩
theorem l6:aQ Tryz.prog 160 []=some iN:=by kernel_rfl
def gY:SF:=⟨af [ab [bu 4 false],ab [aa 5 0,aa 6 1,ba 7 160 [5,6],aE 8 .geq 7 0,aa 4 8],.ret],
 [.tmp 4],9⟩
theorem k7:aQ Tryz.prog 90 []=some gY:=by kernel_rfl
def fL:SC :=
 af [ab [aV 9 .lss 8 7],bW 9 (.exit 0),.block 1 (af [ab [aa 10 8,aa 5 10],ab [aa 11 1,aa 12 0,aa 13 5,aM 14 1 12 13,aj 15 14,((some 16),.call (.tmp 11) [(.tmp 15)])],bg 16 (af [ab [aa 17 5,aa 4 17],.ret])]),ab [aE 18 .add 8 1,aa 8 18]]
def gp:SF:=⟨af [ab [aT 4 0],af [ab [aa 6 0,aP 7 6,aT 8 0],bX 0 fL],ab [aT 4 (-1)],.ret],
 [.tmp 4],19⟩
theorem jJ:aQ Tryz.prog 222 []=some gp:=by kernel_rfl
def fE:SF:=⟨af [ab [bu 4 false],ab [aa 5 0,aa 6 1,ba 7 222 [5,6],aE 8 .geq 7 0,aa 4 8],.ret],
 [.tmp 4],9⟩
theorem je:aQ Tryz.prog 156 []=some fE:=by kernel_rfl
theorem E0 (l:List Int) (g:aH l) (f:FuncId) (cap:List V) (p:Int->Bool) (h:∀ x∈l,ay Tryz.prog f (gi x :: cap) (gb (p x))) (d:di Tryz.prog f=true) (H:View) :
  aw Tryz.prog 160 [encI l,.fn f [] cap] H λr _=>r=gi (dI p l 0):=by
 refine aw.of mixed l6 ?_
 unfold aH at g
 simp(disch:=omega)only[↓wr,seval,wq,iN,encI]
 refine bc.up l.length (λi T _=>dI p (l.drop i) i=dI p l 0/\T 0=encI l/\T 1=.fn f [] cap/\T 7=gi l.length/\T 8=gi i) ⟨rfl,rfl,rfl,rfl,rfl⟩ ?_
 rintro i k T H hk ⟨hi,a,h1,b,c⟩
 simp(disch:=omega)only[↓wr,seval,wq,ik,a,h1,b,c,encI]
 apply ah.dec<;>intro j
 .have e:l[i]?=some (l[i]'(by omega)):=U6 (by omega)
  have hm:l[i]'(by omega)∈l:=Vg _
  rw[e9 (show i < l.length by omega)] at hi
  generalize l[i]'(by omega)=x at e hm hi
  simp(disch:=omega)only[↓wr,seval,wq,a,h1,b,c,encI,U9,e]
  refine av.pure (h x hm) ?_ d
  simp only[dI] at hi
  repeat' (first | ((first|apply ah.dec|apply ah.eq|apply ah.ne|apply ah.split)<;>intro)|(simp(disch:=omega)only[↓wr,seval,wq,a,h1,b,c]))
  .rename_i hp
   rw[<-hi,Va hp]
  .rename_i hp
   refine aI hk (by omega) ⟨?_,a,h1,b,rfl⟩
   rw[U8 (by simp[hp])] at hi
   push_cast;exact hi
 .rw[VA (by omega)] at hi
  simp(disch:=omega)only[↓wr,seval,wq,a,h1,b,c]
  rw[<-hi];rfl
theorem yS {l:List Int} {f:FuncId} {cap:List V} (a:∀ v∈cap,Tree v):∀ v∈[encI l,.fn f [] cap],Tree v:=by
 intro v b;simp at b
 rcases b with rfl | rfl
 .exact eM l
 .exact IV (by simp) a
theorem gW (l:List Int) (c:aH l) (f:FuncId) (cap:List V) (a:∀ v∈cap,Tree v) (p:Int->Bool) (d:∀ x∈l,ay Tryz.prog f (gi x :: cap) (gb (p x))) (b:di Tryz.prog f=true) :
  ay Tryz.prog 90 [encI l,.fn f [] cap] (gb (l.any p)):=by
 refine ay.val (yS a) λH=>?_
 refine aw.of mixed k7 ?_
 simp(disch:=omega)only[↓wr,seval,wq,gY]
 refine av.pure (ay.val (yS a) (E0 l c f cap p d b)) ?_
 simp(disch:=omega)only[↓wr,seval,wq]
 rw[<-vu p l 0 (by omega)]
theorem EV (l:List ByteArray) (g:aH l) (f:FuncId) (cap:List V) (p:ByteArray->Bool) (h:∀ x∈l,ay Tryz.prog f (gs x :: cap) (gb (p x))) (d:di Tryz.prog f=true) (H:View) :
  aw Tryz.prog 222 [encS l,.fn f [] cap] H λr _=>r=gi (dI p l 0):=by
 refine aw.of mixed jJ ?_
 unfold aH at g
 simp(disch:=omega)only[↓wr,seval,wq,gp,encS]
 refine bc.up l.length (λi T _=>dI p (l.drop i) i=dI p l 0/\T 0=encS l/\T 1=.fn f [] cap/\T 7=gi l.length/\T 8=gi i) ⟨rfl,rfl,rfl,rfl,rfl⟩ ?_
 rintro i k T H hk ⟨hi,a,h1,b,c⟩
 simp(disch:=omega)only[↓wr,seval,wq,fL,a,h1,b,c,encS]
 apply ah.dec<;>intro j
 .have e:l[i]?=some (l[i]'(by omega)):=U6 (by omega)
  have hm:l[i]'(by omega)∈l:=Vg _
  rw[e9 (show i < l.length by omega)] at hi
  generalize l[i]'(by omega)=x at e hm hi
  simp(disch:=omega)only[↓wr,seval,wq,a,h1,b,c,encS,U9,e]
  refine av.pure (h x hm) ?_ d
  simp only[dI] at hi
  repeat' (first | ((first|apply ah.dec|apply ah.eq|apply ah.ne|apply ah.split)<;>intro)|(simp(disch:=omega)only[↓wr,seval,wq,a,h1,b,c]))
  .rename_i hp
   rw[<-hi,Va hp]
  .rename_i hp
   refine aI hk (by omega) ⟨?_,a,h1,b,rfl⟩
   rw[U8 (by simp[hp])] at hi
   push_cast;exact hi
 .rw[VA (by omega)] at hi
  simp(disch:=omega)only[↓wr,seval,wq,a,h1,b,c]
  rw[<-hi];rfl
theorem yb {l:List ByteArray} {f:FuncId} {cap:List V} (a:∀ v∈cap,Tree v):∀ v∈[encS l,.fn f [] cap],Tree v:=by
 intro v b;simp at b
 rcases b with rfl | rfl
 .exact DB l
 .exact IV (by simp) a
theorem Aa (l:List ByteArray) (c:aH l) (f:FuncId) (cap:List V) (a:∀ v∈cap,Tree v) (p:ByteArray->Bool) (d:∀ x∈l,ay Tryz.prog f (gs x :: cap) (gb (p x))) (b:di Tryz.prog f=true) :
  ay Tryz.prog 156 [encS l,.fn f [] cap] (gb (l.any p)):=by
 refine ay.val (yb a) λH=>?_
 refine aw.of mixed je ?_
 simp(disch:=omega)only[↓wr,seval,wq,fE]
 refine av.pure (ay.val (yb a) (EV l c f cap p d b)) ?_
 simp(disch:=omega)only[↓wr,seval,wq]
 rw[<-vu p l 0 (by omega)]
theorem xU {l:List Value} : ∀ v∈l.map V.val,Tree v:=by
 intro v a;obtain⟨x,_,rfl⟩:=Vv.1 a;exact .val _
def x8:SF:=⟨af [ab [bu 6 false],.region false [⟨none,[aa 7 0,aa 8 1,aV 9 .geq 7 8,aa 10 9]⟩,⟨(some (10,true)),[aa 11 0,aa 12 2,aV 13 .leq 11 12]⟩,⟨none,[c8 14 10 13,aa 6 14]⟩],.ret],
 [.tmp 6],15⟩
theorem AT:aQ Tryz.prog 154 []=some x8:=by kernel_rfl
def EM:SF:=⟨af [ab [aT 2 0],ab [aa 3 0,((some 4),.op (.arith .sub (.val (.val (.int .i64 (-1)))) (.tmp 3))),aa 2 4],.ret],
 [.tmp 2],5⟩
theorem Hu:aQ Tryz.prog 194 []=some EM:=by kernel_rfl
def DE:SF:=⟨af [ab [cd 2 0,bu 4 false],af [ab [aa 5 1,aE 6 .lss 5 0],bg 6 (af [.region true [⟨none,[aa 7 1,ba 8 194 [7],au 9 1 2,aj 10 9,aP 11 10,aV 12 .lss 8 11,aa 4 12]⟩],.ret])],ab [aa 13 1,au 14 0 2,aj 15 14,aP 16 15,aV 17 .lss 13 16,aa 4 17],.ret],
 [.tmp 4],18⟩
theorem FT:aQ Tryz.prog 130 [2]=some DE:=by kernel_rfl
def xN:SF:=⟨af [ab [bu 4 false],.region false [⟨none,[aU 5 4 1,aa 6 0,ba 7 130 [5,6],cb 8 7,aa 9 8]⟩,⟨(some (9,false)),[aa 10 0,aE 11 .geq 10 0,aa 12 11]⟩,⟨(some (12,true)),[au 13 2 2,aj 14 13,aE 15 .eql 14 (-1)]⟩,⟨(some (9,false)),[c8 16 12 15]⟩,⟨none,[bP 17 9 16,aa 4 17]⟩],.ret],
 [.tmp 4],18⟩
theorem AU:aQ Tryz.prog 225 []=some xN:=by kernel_rfl
def BT:SF:=⟨af [ab [cd 2 0,cd 3 1,bu 4 false],af [.region false [⟨none,[au 5 1 3,aj 6 5,aP 7 6,aE 8 .gtr 7 6,aa 9 8]⟩,⟨(some (9,false)),[au 10 2 3,aj 11 10,au 12 0 2,aj 13 12,aP 14 13,aE 15 .sub 14 1,oE 16 154 [(.tmp 11),(.val (.val (.int .i64 (-1)))),(.tmp 15)],cb 17 16]⟩,⟨none,[bP 18 9 17]⟩],bg 18 (af [ab [bu 4 false],.ret])],ab [au 19 1 3,aj 20 19,((some 21),.op (.rW 225 [] [(.tmp 2),(.tmp 3)])),ba 22 90 [20,21],cb 23 22,aa 4 23],.ret],
 [.tmp 4],24⟩
theorem EX:aQ Tryz.prog 159 [2,3]=some BT:=by kernel_rfl
theorem ri (a b c:Int):ay Tryz.prog 154 [gi a,gi b,gi c] (gb (decide (b<=a) && decide (a<=c))):=by
 refine ay.val (xU (l:=[.int .i64 a,.int .i64 b,.int .i64 c])) λH=>?_
 refine aw.of mixed AT ?_
 repeat' (first | ((first|apply ah.dec|apply ah.eq|apply ah.ne|apply ah.split)<;>intro)|(simp(disch:=omega)only[↓wr,seval,wq,x8]))
 all_goals simp[*]
theorem Rx (s:Int) (a:bD s):ay Tryz.prog 194 [gi s] (gi (-1 - s)):=by
 refine ay.val (xU (l:=[.int .i64 s])) λH=>?_
 obtain⟨h1,b⟩:=a
 refine aw.of mixed Hu ?_
 repeat' (first | ((first|apply ah.dec|apply ah.eq|apply ah.ne|apply ah.split)<;>intro)|(simp(disch:=omega)only[↓wr,seval,wq,EM]))
theorem RI (g:ae) (s:Int) (a:bD s):ay Tryz.prog 130 [.agg (ag g),gi s] (gb (gB g s)):=by
 refine ay.val (Ge g s) λH=>?_
 refine aw.of mixed FT ?_
 repeat' (first | ((first|apply ah.dec|apply ah.eq|apply ah.ne|apply ah.split)<;>intro)|(refine av.pure (Rx s a) ?_)|(simp(disch:=omega)only[↓wr,seval,wq,DE,ag,encS]))
 .rename_i h;simp[gB,show ¬ (0:Int)<=s by omega]
 .rename_i h;simp[gB,show (0:Int)<=s by omega]
theorem gh {cs:List V} {j:Nat} (h:∀ v∈cs,Tree v):Tree (.aF cs j):=by
 refine .aF _ _ λi hi=>?_
 have a:cs.getD i .any=cs[i]:=by simp[U5,hi]
 rw[a];exact h _ (Vg _)
theorem OJ (g:ae) (r:aN) (s:Int) (b:bD s):ay Tryz.prog 225 [gi s,.aF (ag g) 0,.aF (aW r) 0] (gb (!l8 g r.prec s)):=by
 refine ay.val ?_ λH=>?_
 .intro v a;simp at a
  rcases a with rfl | rfl | rfl
  .exact .val _
  .exact gh (bE g)
  .exact gh (jh r)
 refine aw.of mixed AU ?_
 simp(disch:=omega)only[↓wr,seval,wq,xN,ag]
 refine av.pure (RI g s b) ?_
 repeat' (first | ((first|apply ah.dec|apply ah.eq|apply ah.ne|apply ah.split)<;>intro)|(simp(disch:=omega)only[↓wr,seval,wq,aW]))
 all_goals simp[l8, *]
theorem PI (g:ae) (r:aN) (e:g.Ok) (hr:aH r.right/\∀ x∈r.right,bD x):ay Tryz.prog 159 [.agg (ag g),.agg (aW r)] (gb (ig g r)):=by
 refine ay.val (Gn g r) λH=>?_
 have f:=e.ai
 unfold aH at f
 refine aw.of mixed EX ?_
 repeat' (first | ((first|apply ah.dec|apply ah.eq|apply ah.ne|apply ah.split)<;>intro)|(refine av.pure (ri _ _ _) ?_)|(simp(disch:=omega)only[↓wr,seval,wq,BT,ag,aW,encI,encS]))
 .rename_i h;simp[ig,show ¬ r.right.length<=6 by omega]
 .rename_i h1 b
  have c:r.right.length<=6:=by omega
  have a : -1<=r.prec/\r.prec < g.ai.length:=by simp at b;omega
  refine av.pure (gW r.right hr.1 225 [.aF (ag g) 0,.aF (aW r) 0] ?_ (λs=>!l8 g r.prec s) (λx i=>OJ g r x (hr.2 x i)) (by kernel_rfl)) ?_
  .intro v d;simp at d
   rcases d with rfl | rfl
   .exact gh (bE g)
   .exact gh (jh r)
  simp(disch:=omega)only[↓wr,seval,wq]
  simp[ig,c,a.1,a.2]
  rw[V1]
  simp
 .rename_i h1 b
  have c:¬ (-1<=r.prec/\r.prec < g.ai.length):=by simp at b;omega
  have:(decide (-1<=r.prec) && decide (r.prec < (g.ai.length:Int)))=false:=by
   rw[<-Bool.decide_and];simpa using c
  simp only[ig,Bool.and_assoc]
  rw[<-Bool.and_assoc (decide (-1<=r.prec)),this];simp
theorem Qc (l:List Int) (f:l.getD 0 0=39):((mq l).2 == 0 && (mq l).1 == (l.length:Int))=mh l:=by
 match l,f with
 | [],h=>simp at h
 | [a],_=>rfl
 | [a,b],_ =>
  simp only[mq,kC,mh,Vm,Vy,W6,Wc]
  repeat' split
  all_goals simp_all
 | [a,b,c],f =>
  have g:a=39:=by simpa using f
  subst g
  simp only[mq,kC,mh,xB,Dc,Vm,Vy,W6,Wc]
  repeat' split
  all_goals simp_all
  all_goals grind
 | [a,b,c,d],f =>
  have g:a=39:=by simpa using f
  subst g
  simp only[mq,kC,mh,xB,Dc,Vm,Vy,W6,Wc]
  repeat' split
  all_goals simp_all
  all_goals grind
 | a :: b :: c :: d :: e :: r,f =>
  simp only[mq,kC,mh,xB,Dc,Vm,W6,Wc]
  repeat' split
  all_goals simp_all
  all_goals (try omega)
  all_goals grind
theorem Le {c:Int} {l:List Int} (h:¬ c=39):mh (c :: l)=false:=by
 match l with
 | []=>rfl
 | [_]=>rfl
 | [_,_]=>simp[mh,h]
 | [_,_,_]=>simp[mh,h]
 | _ :: _ :: _ :: _ :: _=>rfl
theorem ME (s:ByteArray):ay Tryz.prog 267 [gs s] (gb (mh (fh s))):=by
 refine ay.val (oZ s) λH=>?_
 refine aw.of mixed zQ ?_
 have f:=λd (k:d∈fh s)=>Eh (s:=s) (c:=d) k
 have j:ay Tryz.prog 287 [.aS (fV s)] (.bm [gi (mq (fh s)).1,gi (mq (fh s)).2]):=by
  rw[NW]
  refine ay.of ?_ ((Li (fh s) f _).mono λr H' h m _=>by rw[h];exact .tree _ (.bm _ λi hi=>by
   match i,hi with
   | 0,_=>exact .val _
   | 1,_=>exact .val _))
  intro v a;simp at a;subst a
  exact fq _ _ λx _ v a=>by simp at a;subst a;exact .val _
 cases e:fh s with
 | nil =>
  repeat' (first | ((first|apply ah.dec|apply ah.eq|apply ah.ne|apply ah.split)<;>intro)|(simp(disch:=omega)only[↓wr,seval,wq,qF,eu,yn,e]))
  rfl
 | cons c l =>
  have b:=Qc (fh s)
  rw[e] at j b
  repeat' (first | ((first|apply ah.dec|apply ah.eq|apply ah.ne|apply ah.split)<;>intro)|(simp(disch:=omega)only[↓wr,seval,wq,qF,eu,yn,e,Vu]))
  .rename_i h
   rw[Le h]
  .rename_i h
   refine av.pure j ?_
   have b:=b (by simpa using h)
   repeat' (first | ((first|apply ah.dec|apply ah.eq|apply ah.ne|apply ah.split)<;>intro)|(simp(disch:=omega)only[↓wr,seval,wq,eu,e]))
   .rename_i g
    rw[<-b];simp[g]
   .rename_i g
    rw[<-b];simp[g]
theorem M5 (s:ByteArray):ay Tryz.prog 217 [gs s] (gb (pO (fh s))):=by
 refine ay.val (oZ s) λH=>?_
 refine aw.of mixed CS ?_
 repeat' (first | ((first|apply ah.dec|apply ah.eq|apply ah.ne|apply ah.split)<;>intro)|(refine av.pure (Fw s) ?_)|(refine av.pure (ME s) ?_)|(simp(disch:=omega)only[↓wr,seval,wq,zw]))
 all_goals simp[pO, *]
theorem Ls (s:ByteArray):ay Tryz.prog 157 [gs s] (gb (!fP (fh s))):=by
 refine ay.val (oZ s) λH=>?_
 refine aw.of mixed Ag ?_
 repeat' (first | ((first|apply ah.dec|apply ah.eq|apply ah.ne|apply ah.split)<;>intro)|(refine av.pure (Fw s) ?_)|(simp(disch:=omega)only[↓wr,seval,wq,w6]))
def uK:SC :=
 af [ab [aV 12 .lss 11 10],bW 12 (.exit 0),.block 1 (af [.region false [⟨none,[aM 13 3 9 11,aU 14 3 13,((some 6),.op (.alloc [(.val (.string ⟨#[]⟩)),(.val (.int .i64 0)),(.val (.int .i64 0))])),cG 3 6 14]⟩],af [ab [au 15 1 6,aj 16 15,aE 17 .eql 16 0],bg 17 (.exit 1)],af [ab [aa 18 3,au 19 1 6,aj 20 19,((some 21),.op (.old (.lookup 265 (.tmp 18) (.tmp 20) false) 3)),aa 7 21],.region false [⟨none,[aa 22 7,aE 23 .neq 22 0,aa 24 23]⟩,⟨(some (24,true)),[aa 25 7,au 26 2 6,aj 27 26,aV 28 .neq 25 27]⟩,⟨none,[c8 29 24 28]⟩],bg 29 (af [ab [bu 2 false],.ret])],ab [aa 30 3,au 31 1 6,aj 32 31,au 33 2 6,aj 34 33,(none,.op (.old (.mapUpdate 265 (.tmp 30) (.tmp 32) (.tmp 34)) 0))],ab [aa 35 4,au 36 1 6,aj 37 36,((some 38),.op (.mm true (.tmp 35) (.tmp 37))),aa 4 38]]),ab [aE 39 .add 11 1,aa 11 39]]
def xq:SF:=⟨af [ab [bu 2 false],ab [((some 8),.op (.sU)),aa 3 8],ab [aT 4 0],af [ab [aa 9 0,aP 10 9,aT 11 0],bX 0 uK],ab [aa 40 3,((some 41),.op (.old (.call { callee:=.builtin .len,args:=#[(.tmp 40)],argTypes:=#[265] }) 3)),aa 42 4,aV 43 .eql 41 42,aa 2 43],.ret],
 [.tmp 2],44⟩
theorem BQ:aQ Tryz.prog 218 []=some xq:=by kernel_rfl
def wY:SC :=
 af [ab [aV 8 .lss 7 6],bW 8 (.exit 0),.block 1 (af [.region false [⟨none,[aM 9 3 5 7,aU 10 3 9,((some 4),.op (.alloc [(.val (.string ⟨#[]⟩)),(.val (.int .i64 0)),(.val (.int .i64 0))])),cG 3 4 10]⟩],.region false [⟨none,[au 11 0 4,aj 12 11,ba 13 217 [12],cb 14 13,aa 15 14]⟩,⟨(some (15,false)),[au 16 1 4,aj 17 16,oE 18 154 [(.tmp 17),(.val (.val (.int .i64 0))),(.val (.val (.int .i64 24)))],cb 19 18]⟩,⟨none,[bP 20 15 19,aa 21 20]⟩,⟨(some (21,false)),[au 22 2 4,aj 23 22,oE 24 154 [(.tmp 23),(.val (.val (.int .i64 0))),(.val (.val (.int .i64 3)))],cb 25 24]⟩,⟨none,[bP 26 21 25,aa 27 26]⟩,⟨(some (27,false)),[au 28 1 4,aj 29 28,aE 30 .eql 29 0,au 31 2 4,aj 32 31,aE 33 .eql 32 0,((some 34),.op (.beq false (.tmp 30) (.tmp 33)))]⟩,⟨none,[bP 35 27 34]⟩],bg 35 (af [ab [bu 2 false],.ret])]),ab [aE 36 .add 7 1,aa 7 36]]
def zG:SF:=⟨af [ab [bu 2 false],af [ab [aa 5 0,aP 6 5,aT 7 0],bX 0 wY],.region false [⟨none,[aa 37 0,aP 38 37,aE 39 .leq 38 24,aa 40 39]⟩,⟨(some (40,true)),[aa 41 0,ba 42 218 [41]]⟩,⟨none,[c8 43 40 42,aa 2 43]⟩],.ret],
 [.tmp 2],44⟩
theorem CQ:aQ Tryz.prog 153 []=some zG:=by kernel_rfl
def wQ:SC :=
 af [ab [aV 16 .lss 15 14],bW 16 (.exit 0),.block 1 (af [.region false [⟨none,[aM 17 3 13 15,aU 18 3 17,((some 5),.op (.alloc [(.val (.string ⟨#[]⟩)),(.val (.int .i64 0)),(.val (.int .i64 0))])),cG 3 5 18]⟩],.region false [⟨none,[aa 19 3,au 20 0 5,aj 21 20,((some 22),.op (.bG 1 1 [(.val (.string ⟨#[]⟩))] [(0,(.tmp 21))])),fM 23 1 16 19 22,aa 3 23]⟩]]),ab [aE 24 .add 15 1,aa 15 24]]
def xh:SC :=
 af [ab [aV 65 .lss 64 63],bW 65 (.exit 2),.block 3 (af [ab [aM 66 3 62 64,aU 67 3 66,((some 8),.op (.alloc [(.val (.int .i64 0)),(.emp 1),(.val (.int .i64 0))])),cG 3 8 67],af [.region false [⟨none,[au 68 0 8,aj 69 68,aa 70 6,oE 71 154 [(.tmp 69),(.val (.val (.int .i64 0))),(.tmp 70)],cb 72 71,aa 73 72]⟩,⟨(some (73,false)),[aU 74 4 1,aU 75 3 8,ba 76 159 [74,75],cb 77 76]⟩,⟨none,[bP 78 73 77]⟩],bg 78 (af [ab [bu 2 false],.ret])],ab [aa 79 6,au 80 0 8,aj 81 80,aE 82 .add 81 1,((some 83),.op (.mm true (.tmp 79) (.tmp 82))),aa 6 83]]),ab [aE 84 .add 64 1,aa 64 84]]
def zO:SF:=⟨af [ab [cd 1 0,bu 2 false],ab [au 9 1 1,aj 10 9,ba 11 152 [10],aa 3 11],af [ab [au 12 0 1,aj 13 12,aP 14 13,aT 15 0],bX 0 wQ],af [.region false [⟨none,[au 25 0 1,aj 26 25,ba 27 153 [26],cb 28 27,aa 29 28]⟩,⟨(some (29,false)),[au 30 1 1,aj 31 30,aP 32 31,oE 33 154 [(.tmp 32),(.val (.val (.int .i64 1))),(.val (.val (.int .i64 16)))],cb 34 33]⟩,⟨none,[bP 35 29 34,aa 36 35]⟩,⟨(some (36,false)),[au 37 2 1,aj 38 37,aP 39 38,oE 40 154 [(.tmp 39),(.val (.val (.int .i64 1))),(.val (.val (.int .i64 40)))],cb 41 40]⟩,⟨none,[bP 42 36 41,aa 43 42]⟩,⟨(some (43,false)),[aa 44 3,ba 45 155 [44],cb 46 45]⟩,⟨none,[bP 47 43 46,aa 48 47]⟩,⟨(some (48,false)),[au 49 3 1,aj 50 49,au 51 1 1,aj 52 51,aP 53 52,aE 54 .sub 53 1,oE 55 154 [(.tmp 50),(.val (.val (.int .i64 0))),(.tmp 54)],cb 56 55]⟩,⟨none,[bP 57 48 56]⟩],bg 57 (af [ab [bu 2 false],.ret])],af [ab [au 58 1 1,aj 59 58,oE 60 156 [(.tmp 59),(.val (.fn 157 [] []))]],bg 60 (af [ab [bu 2 false],.ret])],ab [aT 6 0],af [ab [au 61 2 1,aj 62 61,aP 63 62,aT 64 0],bX 2 xh],ab [aa 85 6,au 86 1 1,aj 87 86,aP 88 87,aV 89 .eql 85 88,aa 2 89],.ret],
 [.tmp 2],90⟩
theorem CD:aQ Tryz.prog 89 [1]=some zO:=by kernel_rfl
def ef (l:List Term):V:=.aS (l.map cO)
theorem Co (l:List Term):∀ v∈[ef l],Tree v:=by intro v a;simp at a;subst a;exact fq _ _ λx _=>El x
def mo:List Term->List (Int × Int)->Int->Option (List (Int × Int) × Int)
 | [],a,top=>some (a,top)
 | t :: r,a,top=>if t.level=0 then mo r a top else
  if (dU a t.level).getD 0≠0/\(dU a t.level).getD 0≠t.assoc then none else mo r (jI t.level t.assoc a) (if t.level > top then t.level else top)
def rC (l:List Term):Bool:=match mo l [] 0 with
 | some (a,top)=>(a.length:Int) == top
 | none=>false
theorem KO (l:List Term) (E:aH l):ay Tryz.prog 218 [ef l] (gb (rC l)):=by
 refine ay.val (Co l) λH=>?_
 refine aw.of mixed BQ ?_
 unfold aH at E
 simp(disch:=omega)only[↓wr,seval,wq,xq,ef]
 intro q s
 try simp(disch:=omega)only[↓wr,seval,wq]
 refine bc.up l.length (λi T H=>(∃ a m c top,H q=.map (ff (Value.int .i64) m) c/\nB gi a m/\T 4=gi top/\mo (l.drop i) a top=mo l [] 0)/\T 0=ef l/\T 3=.mp q/\T 9=ef l/\T 10=gi l.length/\T 11=gi i) ?_ ?_
 .refine⟨⟨[],[],0,0,?_,trivial,rfl,rfl⟩,rfl,rfl,rfl,rfl,rfl⟩
  simp[View.set,ff]
 rintro i k T H hk ⟨⟨a,m,c,top,s,hm,o,hi⟩,j,f,n,d,g⟩
 simp(disch:=omega)only[↓wr,seval,wq,uK,j,f,o,n,d,g,ef]
 apply ah.dec<;>intro F
 .have B:l[i]?=some (l[i]'(by omega)):=U6 (by omega)
  rw[e9 (show i < l.length by omega)] at hi
  generalize l[i]'(by omega)=t at B hi
  simp only[mo] at hi
  simp(disch:=omega)only[↓wr,seval,wq,j,f,o,n,d,g,ef,cO,U9,B]
  intro b C
  have h:b≠q:=by rintro rfl;rw[s] at C;simp at C
  try simp(disch:=omega)only[↓wr,seval,wq]
  apply ah.eq<;>intro w
  .rw[Va w] at hi
   simp(disch:=omega)only[↓wr,seval,wq,j,f,o,n,d,g]
   refine aI hk (by omega) ⟨⟨a,m,c,top,?_,hm,o,hi⟩,j,f,n,d,rfl⟩
   simp[View.set,h.symm,s]
  .rw[U8 w] at hi
   simp(disch:=omega)only[↓wr,seval,wq,j,f,o,n,d,g]
   refine Fa (kt:=3) (et:=3) (z:=gi 0) (by kernel_rfl) (by kernel_rfl) (qn .i64 Tryz.underlying3) (id:=q) (c:=c) (m:=m) (k:=t.level) (by simp(disch:=omega)only[↓wr,seval,wq,f]) (by simp(disch:=omega)only[↓wr,seval,wq,f]) (by simp[View.set,h.symm,s]) ?_
   have x:(getM m t.level).getD (gi 0)=gi ((dU a t.level).getD 0):=by
    rw[hm.get];cases dU a t.level <;> rfl
   have p:∀ (y:View) (u:Nat) (r:Env),(¬ ((dU a t.level).getD 0≠0/\(dU a t.level).getD 0≠t.assoc)) ->
     y q=.map (ff (Value.int .i64) (cy t.level (gi t.assoc) c m)) u->r 0=ef l->r 3=.mp q->r 4=gi (if t.level > top then t.level else top)->r 9=ef l->r 10=gi l.length->r 11=gi ((i:Int)+1) ->
     ∃ D,D < k/\BJ l.length D (λi T H=>(∃ a m c top,H q=.map (ff (Value.int .i64) m) c/\nB gi a m/\T 4=gi top/\mo (l.drop i) a top=mo l [] 0)/\T 0=ef l/\T 3=.mp q/\T 9=ef l/\T 10=gi l.length/\T 11=gi i) r y:=by
    intro y u r G g1 g2 g3 g4 g5 g6 g7
    rw[U8 G] at hi
    exact aI hk (by omega) ⟨⟨_,_,u,_,g1,hm.put t.level t.assoc c,g4,hi⟩,g2,g3,g5,g6,by rw[g7];rfl⟩
   repeat' (first | ((first|apply ah.dec|apply ah.eq|apply ah.ne|apply ah.split)<;>intro)|(simp(disch:=omega)only[↓wr,seval,wq,j,f,o,n,d,g,x]))
   .rename_i n1 A
    rw[Va ⟨n1,A⟩] at hi
    simp only[rC,<-hi]
   .rename_i n1 A
    refine Gb (kt:=3) (et:=3) (by kernel_rfl) (qn .i64 Tryz.underlying3) (id:=q) (c:=c) (m:=m) (k:=t.level) (v:=gi t.assoc) (by simp(disch:=omega)only[↓wr,seval,wq,f]) (by simp(disch:=omega)only[↓wr,seval,wq,f]) (by simp(disch:=omega)only[↓wr,seval,wq,f]) (by simp[View.set,h.symm,s]) ?_
    intro u
    simp(disch:=omega)only[↓wr,seval,wq,j,f,o,n,d,g,h]
    exact p _ u _ (λe=>e.2 A) (by simp[View.set]) j f rfl n d rfl
   .rename_i n1
    refine Gb (kt:=3) (et:=3) (by kernel_rfl) (qn .i64 Tryz.underlying3) (id:=q) (c:=c) (m:=m) (k:=t.level) (v:=gi t.assoc) (by simp(disch:=omega)only[↓wr,seval,wq,f]) (by simp(disch:=omega)only[↓wr,seval,wq,f]) (by simp(disch:=omega)only[↓wr,seval,wq,f]) (by simp[View.set,h.symm,s]) ?_
    intro u
    simp(disch:=omega)only[↓wr,seval,wq,j,f,o,n,d,g,h]
    exact p _ u _ (λe=>e.1 n1) (by simp[View.set]) j f rfl n d rfl
 .rw[VA (by omega)] at hi
  simp only[mo] at hi
  simp(disch:=omega)only[↓wr,seval,wq,j,f,o,n,d,g]
  refine SZ (kt:=3) (et:=3) (by kernel_rfl) (id:=q) (c:=c) (m:=m) (by simp(disch:=omega)only[↓wr,seval,wq,f]) s ?_
  simp(disch:=omega)only[↓wr,seval,wq,j,f,o,n,d,g,hm.len]
  simp only[rC,<-hi]
def kS (t:Term):Bool:=pO (fh t.name) && decide (0<=t.level) && decide (t.level<=24) && decide (0<=t.assoc) && decide (t.assoc<=3) && ((t.level == 0) == (t.assoc == 0))
def rK (l:List Term):Bool:=l.all kS && decide (l.length<=24) && rC l
theorem Oh (l:List Term) (p:aH l):ay Tryz.prog 153 [ef l] (gb (rK l)):=by
 refine ay.val (Co l) λH=>?_
 refine aw.of mixed CQ ?_
 have j:=p
 unfold aH at p
 simp(disch:=omega)only[↓wr,seval,wq,zG,ef]
 refine bc.up l.length (λi T H=>(l.drop i).all kS=l.all kS/\T 0=ef l/\T 5=ef l/\T 6=gi l.length/\T 7=gi i) ?_ ?_
 .exact⟨rfl,rfl,rfl,rfl,rfl⟩
 rintro i k T H hk ⟨hi,c,d,f,g⟩
 simp(disch:=omega)only[↓wr,seval,wq,wY,c,d,f,g,ef]
 apply ah.dec<;>intro r
 .have q:l[i]?=some (l[i]'(by omega)):=U6 (by omega)
  rw[e9 (show i < l.length by omega)] at hi
  generalize l[i]'(by omega)=t at q hi
  rw[Wb] at hi
  have a:kS t=false->gb false=gb (rK l):=λe=>by rw[e,WK] at hi;simp[rK,<-hi]
  simp(disch:=omega)only[↓wr,seval,wq,c,d,f,g,ef,cO,U9,q]
  intro b v
  repeat' (first | ((first|apply ah.dec|apply ah.eq|apply ah.ne|apply ah.split)<;>intro)|(refine av.pure (M5 t.name) ?_)|(refine av.pure (ri _ _ _) ?_)|(simp(disch:=omega)only[↓wr,seval,wq,c,d,f,g,ef]))
  all_goals first
   | (refine a ?_;simp[kS, *];done)
   | (refine a ?_;simp_all [kS];done)
   | skip
  rename_i s m n u
  refine aI hk (by omega) ⟨?_,c,d,f,rfl⟩
  have:kS t=true:=by
   simp only[Vd,Vj] at m n
   have o:((t.level == 0) == (t.assoc == 0))=true:=by simpa [bne] using u
   simp[kS,s,m.1,m.2,n.1,n.2,o]
  rw[this,V3] at hi
  exact hi
 .rw[VA (by omega),List.all_nil] at hi
  simp(disch:=omega)only[↓wr,seval,wq,c,d,f,g,ef]
  repeat' (first | ((first|apply ah.dec|apply ah.eq|apply ah.ne|apply ah.split)<;>intro)|(refine av.pure (KO l j) ?_)|(simp(disch:=omega)only[↓wr,seval,wq,c,d,f,g,ef]))
  .rename_i h
   simp[rK,<-hi,show l.length<=24 by omega]
  .rename_i h
   simp[rK,<-hi,show ¬ l.length<=24 by omega]
open Go Go.Proofs Go.Shelf Go.RowKit Go.Sort
attribute [local go_sem] Oper.semAt_some
def jA:Ren where
 f:=fun
  | 6=>219
  | 8=>268
  | 9=>269
  | 11=>288
  | 13=>246
  | 12=>289
  | 23=>282
  | 24=>283
  | 14=>298
  | 15=>299
  | 16=>300
  | 17=>301
  | 18=>302
  | 19=>303
  | 20=>304
  | 21=>305
  | 22=>306
  | 25=>308
  | 26=>292
  | 27=>293
  | 28=>309
  | 29=>310
  | 30=>311
  | 31=>312
  | n=>n
 t:=fun
  | 26=>9
  | 28=>319
  | 24=>23
  | 0=>0
  | 3=>3
  | 37=>276
  | 48=>50
  | 50=>49
  | 4=>4
  | 40=>356
  | 39=>355
  | 45=>66
  | 5=>5
  | 9=>9
  | 51=>369
  | 55=>373
  | 57=>381
  | 58=>382
  | 33=>262
  | n=>n
 g:=λn=>n
theorem RA:Go.Proofs.SlLaysZ.n6 Tryz.prog jA where
 mixed:=by kernel_rfl
 f6:=⟨Tryz.f219.name,by kernel_rfl,by kernel_rfl⟩
 f8:=⟨Tryz.f268.name,by kernel_rfl,by kernel_rfl⟩
 f11:=⟨Tryz.f288.name,by kernel_rfl,by kernel_rfl⟩
 t0:=Tryz.underlying0
 a0:=Tryz.isAgg0
 z0:=Tryz.sizeOf0
 v0:=Tryz.zeroValue0
 t24:=Tryz.underlying23
 a24:=Tryz.isAgg23
 z24:=Tryz.sizeOf23
 v24:=Tryz.zeroValue23
 t26:=Tryz.underlying9
 a26:=Tryz.isAgg9
 z26:=Tryz.sizeOf9
 v26:=Tryz.zeroValue9
 t28:=Tryz.underlying319
 a28:=Tryz.isAgg319
 z28:=Tryz.sizeOf319
 v28:=Tryz.zeroValue319
 i26:=by kernel_rfl
def ND:Ren where
 f:=fun
  | 6=>269
  | 8=>246
  | 9=>289
  | 19=>282
  | 20=>283
  | 21=>298
  | 22=>299
  | 23=>300
  | 24=>301
  | 25=>302
  | 26=>303
  | 27=>304
  | 28=>305
  | 29=>306
  | 36=>308
  | 31=>292
  | 32=>293
  | 37=>309
  | 38=>310
  | 39=>311
  | 41=>312
  | n=>n
 t:=fun
  | 27=>23
  | 29=>9
  | 3=>3
  | 32=>276
  | 26=>23
  | 0=>0
  | 44=>50
  | 46=>49
  | 4=>4
  | 36=>356
  | 35=>355
  | 41=>66
  | 5=>5
  | 9=>9
  | 53=>369
  | 57=>373
  | 63=>381
  | 64=>382
  | n=>n
 g:=λn=>n
theorem Q3:Go.Proofs.SlLaysM.n6 Tryz.prog ND where
 mixed:=by kernel_rfl
 f6:=⟨Tryz.f269.name,by kernel_rfl,by kernel_rfl⟩
 f8:=by kernel_rfl
 f9:=⟨Tryz.f289.name,by kernel_rfl,by kernel_rfl⟩
 f19:=by kernel_rfl
 f20:=by kernel_rfl
 f21:=⟨Tryz.f298.name,by kernel_rfl,by kernel_rfl⟩
 f22:=⟨Tryz.f299.name,by kernel_rfl,by kernel_rfl⟩
 f23:=⟨Tryz.f300.name,by kernel_rfl,by kernel_rfl⟩
 f24:=⟨Tryz.f301.name,by kernel_rfl,by kernel_rfl⟩
 f25:=⟨Tryz.f302.name,by kernel_rfl,by kernel_rfl⟩
 f26:=⟨Tryz.f303.name,by kernel_rfl,by kernel_rfl⟩
 f27:=⟨Tryz.f304.name,by kernel_rfl,by kernel_rfl⟩
 f28:=⟨Tryz.f305.name,by kernel_rfl,by kernel_rfl⟩
 f29:=⟨Tryz.f306.name,by kernel_rfl,by kernel_rfl⟩
 f31:=by kernel_rfl
 f32:=by kernel_rfl
 f36:=⟨Tryz.f308.name,by kernel_rfl,by kernel_rfl⟩
 f37:=⟨Tryz.f309.name,by kernel_rfl,by kernel_rfl⟩
 f38:=⟨Tryz.f310.name,by kernel_rfl,by kernel_rfl⟩
 f39:=⟨Tryz.f311.name,by kernel_rfl,by kernel_rfl⟩
 f41:=⟨Tryz.f312.name,by kernel_rfl,by kernel_rfl⟩
 t0:=Tryz.underlying0
 a0:=Tryz.isAgg0
 z0:=Tryz.sizeOf0
 v0:=Tryz.zeroValue0
 t3:=Tryz.underlying3
 a3:=Tryz.isAgg3
 z3:=Tryz.sizeOf3
 v3:=Tryz.zeroValue3
 t4:=Tryz.underlying4
 a4:=Tryz.isAgg4
 z4:=Tryz.sizeOf4
 v4:=Tryz.zeroValue4
 t5:=Tryz.underlying5
 a5:=Tryz.isAgg5
 z5:=Tryz.sizeOf5
 v5:=Tryz.zeroValue5
 t9:=Tryz.underlying9
 a9:=Tryz.isAgg9
 z9:=Tryz.sizeOf9
 v9:=Tryz.zeroValue9
 t26:=Tryz.underlying23
 a26:=Tryz.isAgg23
 z26:=Tryz.sizeOf23
 v26:=Tryz.zeroValue23
 t27:=Tryz.underlying23
 a27:=Tryz.isAgg23
 z27:=Tryz.sizeOf23
 v27:=Tryz.zeroValue23
 t29:=Tryz.underlying9
 a29:=Tryz.isAgg9
 z29:=Tryz.sizeOf9
 v29:=Tryz.zeroValue9
 t32:=Tryz.underlying276
 a32:=Tryz.isAgg276
 z32:=Tryz.sizeOf276
 v32:=Tryz.zeroValue276
 t35:=Tryz.underlying355
 a35:=Tryz.isAgg355
 z35:=Tryz.sizeOf355
 v35:=Tryz.zeroValue355
 t36:=Tryz.underlying356
 a36:=Tryz.isAgg356
 z36:=Tryz.sizeOf356
 v36:=Tryz.zeroValue356
 t41:=Tryz.underlying66
 a41:=Tryz.isAgg66
 z41:=Tryz.sizeOf66
 v41:=Tryz.zeroValue66
 t44:=Tryz.underlying50
 a44:=Tryz.isAgg50
 z44:=Tryz.sizeOf50
 v44:=Tryz.zeroValue50
 t46:=Tryz.underlying49
 a46:=Tryz.isAgg49
 z46:=Tryz.sizeOf49
 v46:=Tryz.zeroValue49
 t53:=Tryz.underlying369
 a53:=Tryz.isAgg369
 z53:=Tryz.sizeOf369
 v53:=Tryz.zeroValue369
 t57:=Tryz.underlying373
 a57:=Tryz.isAgg373
 z57:=Tryz.sizeOf373
 v57:=Tryz.zeroValue373
 t63:=Tryz.underlying381
 a63:=Tryz.isAgg381
 z63:=Tryz.sizeOf381
 v63:=Tryz.zeroValue381
 t64:=Tryz.underlying382
 a64:=Tryz.isAgg382
 z64:=Tryz.sizeOf382
 v64:=Tryz.zeroValue382
def Nt:Ren where
 f:=fun
  | 44=>221
  | n=>n
 t:=fun
  | 25=>23
  | 26=>9
  | 3=>3
  | 4=>4
  | 0=>0
  | n=>n
 g:=λn=>n
theorem QL:Go.Proofs.SlLaysN.n44 Tryz.prog Nt where
 mixed:=by kernel_rfl
 f44:=⟨Tryz.f221.name,by kernel_rfl,by kernel_rfl⟩
 t0:=Tryz.underlying0
 a0:=Tryz.isAgg0
 z0:=Tryz.sizeOf0
 v0:=Tryz.zeroValue0
 t3:=Tryz.underlying3
 a3:=Tryz.isAgg3
 z3:=Tryz.sizeOf3
 v3:=Tryz.zeroValue3
 t4:=Tryz.underlying4
 a4:=Tryz.isAgg4
 z4:=Tryz.sizeOf4
 v4:=Tryz.zeroValue4
 t25:=Tryz.underlying23
 a25:=Tryz.isAgg23
 z25:=Tryz.sizeOf23
 v25:=Tryz.zeroValue23
 t26:=Tryz.underlying9
 a26:=Tryz.isAgg9
 z26:=Tryz.sizeOf9
 v26:=Tryz.zeroValue9
 i26:=by kernel_rfl
def Cu (n:Nat) (P:Program) (g:Nat) (lb:Array Value) (S:List (List UInt8)->Prop) (N:Nat) (w:World):Prop :=
 ∀ (l:Nat) (J:List (List UInt8)->World->Prop) (W:World),(∀ pre W',J pre W'->Below w.heap.size w W') ->
  (∀ pre x W1,J pre W1->pre.length < N->YieldAt Fence.wide (n - 1) P l #[encStr x] W1 λe W'=>e=.returned (.bool true)/\J (pre ++ [x]) W'/\KeepsWalks W1 W') ->
  J [] W->CallsIn Fence.wide n P g (#[.func (.yield l) #[] #[]] ++ lb) W λe W'=>(∃ v,e=.returned v)/\∃ xs,S xs/\J xs W'
theorem Na {a:List (List UInt8)} {k:Nat} (h:k < a.length):a.take k ++ [a.getD k []]=a.take (k+1):=by
 rw[Vs];simp[U5,h]
theorem KG (n:Nat) (hn:1<=n) (Bs b off cap:Nat) (zs:List (List UInt8)) (hreach:zs.length * 16<=140737488351232) (w:World)
  (hBs:w.cell? ⟨Bs,0,none⟩=some (.slice (some ⟨b,off,none⟩) zs.length cap)) (hBl:Bs < w.heap.size) (hbl:b < w.heap.size)
  (hc:∀ j,j < zs.length->w.cell? ⟨b,off+j,none⟩=some (encStr (zs.getD j []))) :
  Cu n Tryz.prog 270 #[.pointer (some ⟨Bs,0,none⟩)] (λxs=>xs=zs) zs.length w:=by
 intro l J W hJ hY h0
 have hbw:=hJ _ _ h0
 have hBs':=(hbw.cell (p:=⟨Bs,0,none⟩) hBl).trans hBs
 have hf:Fence.wide.fn 270:=trivial
 refine callsIn_of_wp Tryz.func270 rfl hf ?_ rfl
 simp only[Tryz.ntmps270,Wx,Vm,Vy,Nat.reduceAdd,Nat.reduceSub,WM,WN,W5,WT,Wp,VZ]
 gi_wp2
 gi_loopw [7] (λi wr=>∃ k:Nat,k<=zs.length/\i=.int .i64 k/\J (zs.take k) wr) (λi _=>zs.length - (RowKit.intOf i).toNat)
 case atStart=>exact⟨0,We _,rfl,by simpa using h0⟩
 case round =>
  obtain⟨k,hk,rfl,hJs⟩:=hrel
  have hnx:=hJ _ _ hJs
  have hcx:k < zs.length->wr.cell? ⟨b,off+k,none⟩=some (encStr (zs.getD k [])):=λh=>(hnx.cell (p:=⟨b,off+k,none⟩) hbl).trans (hc k h)
  by_cases hlt:k < zs.length
  .obtain⟨x,hx1,hcx'⟩:∃ x,zs.take k ++ [x]=zs.take (k+1)/\wr.cell? ⟨b,off+k,none⟩=some (encStr x):=⟨_,Na hlt,hcx hlt⟩
   obtain⟨fn,tmps,assign,body,hy,hR⟩:=hY _ x wr hJs (by simp;omega)
   clear hcx hJs
   gi_wp2
   refine hR.mono ?_
   rintro e W3 ⟨rfl,hJ3,hk3⟩
   gi_wp2
   go_roundw
   case rel=>exact⟨k+1,by omega,by simp,by rw[<-hx1];exact hJ3⟩
   case measure=>simp[RowKit.intOf];omega
  .obtain rfl:k=zs.length:=by omega
   clear hcx
   gi_wp2
   go_end0
   exact⟨⟨_,rfl⟩,_,rfl,by simpa using hJs⟩
theorem Fs (n:Nat) (hn:2<=n) (g:Nat) (lb:Array Value) (eg:∀ args w,(callFunc g args).run Tryz.prog w=.ok (.enter g args) w)
  (S:List (List UInt8)->Prop) (N:Nat) (hN:N<=maxLen) (hNb:N * 16<=140737488355328) (w:World) (hseq:Cu (n - 1) Tryz.prog g lb S N w) :
  CallsIn Fence.wide n Tryz.prog 288 #[.slice none 0 0,.func (.func g) #[] lb] w λe w'=>∃ (v:Value) (ss:List (List UInt8)),e=.returned v/\S ss/\w'.ownsRow w.heap.size 9 1 v ss.length (ss.map encStr)/\Below w.heap.size w w':=by
 have h11:Fence.wide.fn 288:=trivial
 refine callsIn_of_wp_marks Tryz.func288 rfl h11 ?_ rfl
 simp only[Tryz.ntmps288,Wx,Vm,Vy,Nat.reduceAdd,Nat.reduceSub,WM,WN,W5,WT,Wp,VZ]
 gi_wp2
 refine wpIn_rangeFunc ?_
 intro fn hfn
 let sv:Value:=.func (.func g) #[] lb
 have hz:(w.alloc (.cells #[.slice none 0 0] 23)).heap.size=w.heap.size+1:=by simp
 have hv0:=World.alloc_heap_new w (.cells #[.slice none 0 0] 23)
 have hb0:Below w.heap.size w (w.alloc (.cells #[.slice none 0 0] 23)):=(Below.refl _ w).alloc (Vh _) _
 revert hz hv0 hb0
 generalize w.alloc (.cells #[.slice none 0 0] 23)=W0
 intro hz hv0 hb0
 obtain⟨W1,hW1⟩:∃ W1,(W0.alloc (.deferred (some []))).alloc (.loop (AnyZ.apRec jA fn sv w.heap.size W0.heap.size .ready none))=W1:=⟨_,rfl⟩
 have hold:∀ k,k < W0.heap.size->W1.heap[k]?=W0.heap[k]?:=λk hk=>by
  rw[<-hW1];exact(Below.heap_alloc _ _ k (by simp;omega)).trans (Below.heap_alloc _ _ k hk)
 have hb1:Below w.heap.size w W1:=by rw[<-hW1];exact(hb0.alloc (by omega) _).alloc (by simp;omega) _
 have hM:AnyZ.ApAt jA w fn sv w.heap.size (W0.heap.size+1) W0.heap.size [] W1:=by
  refine⟨⟨_,(hold w.heap.size (by omega)).trans hv0,⟨rfl,.inl ⟨rfl,rfl⟩⟩,by simp⟩,?_,?_,hb1⟩
  .rw[<-hW1]
   have h:=World.alloc_heap_new (W0.alloc (.deferred (some []))) (.loop (AnyZ.apRec jA fn sv w.heap.size W0.heap.size .ready none))
   rwa [World.size_alloc] at h
  .rw[<-hW1];exact(Below.heap_alloc _ _ _ (by simp)).trans (World.alloc_heap_new W0 _)
 refine⟨W0.heap.size+1,[{ target:=.collected W0.heap.size,args:=#[] }],W1,{ target:=.fn (.func g) lb,args:=#[.func (.yield (W0.heap.size+1)) #[] #[]] },W1,g,
  #[.func (.yield (W0.heap.size+1)) #[] #[]] ++ lb,W1,by rw[<-hW1];exact run_enterLoop_outer _ _ _ _ _,?_,?_,?_,λ_=>by omega,?_⟩
 .simp[resolve,go_sem]
 .intro f' hf';trivial
 .simp[invoke,go_sem,eg]
 .refine(hseq (W0.heap.size+1) (AnyZ.ApAt jA w fn sv w.heap.size (W0.heap.size+1) W0.heap.size) W1 (λ_ _ h=>h.below)
   (λpre x W hJ hl=>AnyZ.apYield { RA with } Fence.wide (n - 1 - 1) w fn hfn _ w.heap.size (W0.heap.size+1) W0.heap.size (by omega) (by omega) (by omega) (Vh _) (by omega) N hN hNb pre x W hJ hl) hM).mono ?_
  rintro e W2 ⟨⟨v0,rfl⟩,ss,hS,h2⟩
  obtain⟨v,hv,hrow,_⟩:=h2.box
  have hend:=run_endLoop (P:=Tryz.prog) h2.L (by simp[AnyZ.apRec])
  have hne:∀ (cur:Array Value),Obj.cells #[v] 23 (0,0)≠.cells cur 9 (0,0):=λcur e=>by cases e
  obtain⟨W3,hW3⟩:∃ W3,W2.putObj (W0.heap.size+1) (.loop { AnyZ.apRec jA fn sv w.heap.size W0.heap.size .ready none with state:=.exhausted })=W3:=⟨_,rfl⟩
  have hg3:W2.grownBy W3 (some (W0.heap.size+1)):=by rw[<-hW3];exact grownBy_putObj_a _ _ _
  have hv3:W3.heap[w.heap.size]?=some (.cells #[v] 23 (0,0)):=by rw[<-hW3];exact(World.putObj_heap_other (by omega)).trans hv
  have hK3:W3.heap[W0.heap.size]?=some (.deferred (some [])):=by rw[<-hW3];exact(World.putObj_heap_other (by omega)).trans h2.K
  have hrow3:=hrow.kept hg3 (ownsRow_ne_a hrow h2.L (λcur e=>by cases e))
  have hb3:Below w.heap.size w W3:=h2.below.grown hg3 h2.below.size (λk e=>by cases e;omega)
  obtain⟨hc3,hf3⟩:=cell_of_box_a hv3
  refine⟨none,W3,by rw[<-hW3];exact hend,?_⟩
  clear hW3 hW1 hold hM hend hseq
  gi_wp2
  rw[<-hz]
  refine⟨by simp,.inl ⟨_,_,rfl,run_takeDeferred hK3,?_⟩⟩
  exact⟨_,results_tmp rfl _ _ _,v,ss,rfl,hS,hrow3.kept (grownBy_putObj_a _ _ _) (ownsRow_ne_a hrow3 hK3 (λcur e=>by cases e)),hb3.grown (grownBy_putObj_a _ _ _) hb3.size (λk e=>by cases e;omega)⟩
theorem L2 (n:Nat) (hn:4<=n) (g:Nat) (lb:Array Value) (eg:∀ args w,(callFunc g args).run Tryz.prog w=.ok (.enter g args) w)
  (S:List (List UInt8)->Prop) (N:Nat) (hN:N<=maxLen) (hNb:N * 16<=140737488355328) (w:World) (hseq:Cu (n - 1 - 1 - 1) Tryz.prog g lb S N w) (hS:∀ xs,S xs->xs.length < 4611686018427387904) :
  CallsIn Fence.wide n Tryz.prog 219 #[.func (.func g) #[] lb] w λe w'=>∃ (v:Value) (ss:List (List UInt8)),e=.returned v/\S ss /\
   w'.ownsRow w.heap.size 9 1 v ss.length ((ss.mergeSort (λx y=>decide (x<=y))).map encStr)/\Below w.heap.size w w':=by
 have h6:Fence.wide.fn 219:=trivial
 have h8:Fence.wide.fn 268:=trivial
 have h9:Fence.wide.fn 269:=trivial
 have h11:Fence.wide.fn 288:=trivial
 have h1:1<=n - 1:=by omega
 have h1':1<=n:=by omega
 have hcol:CallsIn Fence.wide (n - 1) Tryz.prog 268 #[.func (.func g) #[] lb] w λe w'=>∃ (v:Value) (ss:List (List UInt8)),e=.returned v/\S ss/\w'.ownsRow w.heap.size 9 1 v ss.length (ss.map encStr)/\Below w.heap.size w w':=by
  have happ:=Fs (n - 1 - 1) (by omega) g lb eg S N hN hNb w hseq
  refine callsIn_of_wp Tryz.func268 rfl h8 ?_ rfl
  simp only[Tryz.ntmps268,Wx,Vm,Vy,Nat.reduceAdd,Nat.reduceSub,WM,WN,W5,WT,Wp,VZ]
  gi_wp2_with (gi_at_call 288;refine happ.mono ?_;rintro e w' ⟨v,ss,rfl,hS,hrow,hb⟩)
  go_ret
  exact⟨v,ss,rfl,hS,hrow,hb⟩
 refine callsIn_of_wp Tryz.func219 rfl h6 ?_ rfl
 simp only[Tryz.ntmps219,Wx,Vm,Vy,Nat.reduceAdd,Nat.reduceSub,WM,WN,W5,WT,Wp,VZ]
 gi_wp2_with (gi_at_call 268;refine hcol.mono ?_;rintro e W ⟨v,ss,rfl,hSs,hrow,hb⟩)
 have hlen:=hS ss hSs
 rcases hrow.2 with ⟨rfl,hz⟩ | ⟨gb,cap,cur,rfl,hbase,hgb,r1,r2,r3,r4⟩
 .have hss:ss=[]:=List.eq_nil_of_length_eq_zero hz
  subst hss
  have cN:CallsIn Fence.wide (n - 1) Tryz.prog 269 #[.slice none 0 0] W λe w'=>e=.returned (.tuple #[])/\w'=W:=callsIn_wide.2 (AnyM.slices_Sort_string_none Q3 none 0 W)
  gi_wp2_with (gi_at_call 269;refine cN.mono ?_;rintro e w' ⟨rfl,rfl⟩)
  go_ret
  exact⟨.slice none 0 0,[],rfl,hSs,by simpa using hrow,hb⟩
 .have hH:Holds encStr W gb 0 ss.toArray:=holds_of_block hgb (by simpa using r4)
  have hgl:gb < W.heap.size:=(Array.getElem?_eq_some_iff.1 hgb).1
  have cS:CallsIn Fence.wide (n - 1) Tryz.prog 269 #[.slice (some ⟨gb,0,none⟩) ss.length cap] W λe w'=>e=.returned (.tuple #[])/\∃ k os,w'=grow (putRow encStr (Sort.ahead W k) gb 0 (ss.mergeSort λx y=>decide (x<=y)).toArray) os :=
   callsIn_wide.2 (AnyM.slices_Sort_string Q3 gb 0 cap ss W hH hgl hlen)
  gi_wp2_with (gi_at_call 269;refine cS.mono ?_;rintro e w' ⟨rfl,nn,os,rfl⟩)
  go_ret
  exact⟨_,ss,rfl,hSs,ownsRow_sorted (by simp) hbase hgb r1 r2 r3,hb.grown (grownBy_sorted _) hb.size (λj hj=>by cases hj;exact hbase)⟩
open Go Go.Proofs Go.Shelf Go.RowKit Go.Sort
theorem HR {l:List (List UInt8)} (c:l.Pairwise (λa b=>decide (a<=b)=true)) (h:∀ j,j+1 < l.length->l.getD (j+1) []≠l.getD j []):l.Nodup:=by
 induction l with
 | nil=>exact List.nodup_nil
 | cons x r g =>
  rw[Ws] at c
  refine V9.2 ⟨λf=>?_,g c.2 λj i=>by simpa using h (j+1) (by simpa using i)⟩
  cases r with
  | nil=>simp at f
  | cons y r =>
   have d:=h 0 (by simp)
   simp only[W6,Wc,V2] at d
   rcases Vq.1 f with e | hm
   .exact d e.symm
   .have h1:x<=y:=by simpa using c.1 y (by simp)
    have k:y<=x:=by simpa using (Ws.1 c.2).1 x hm
    exact d (List.le_antisymm k h1)
theorem MB (l:List (List UInt8)):(Lib.compact l).length=l.length↔∀ j,j+1 < l.length->l.getD (j+1) []≠l.getD j []:=by
 have c:(Lib.compact l).length=((List.range l.length).filter (Lib.keeps l.toArray)).length:=by simp[Lib.compact,Lib.compactUpTo]
 rw[c]
 have hr:(List.range l.length).length=l.length:=by simp
 conv=>lhs;rhs;rw[<-hr]
 rw[List.length_filter_eq_length_iff]
 have b:∀ j,j < l.length->l.toArray[j]! = l.getD j []:=λj a=>by simp[U5,a]
 constructor
 .intro h j a
  have:=h (j+1) (by simpa using a)
  simp only[Lib.keeps,Vj,Nat.add_sub_cancel] at this
  rcases this with e | e
  .omega
  .rw[b _ a,b _ (by omega)] at e;exact e
 .intro h j a
  simp only[Wa] at a
  simp only[Lib.keeps,Vj]
  by_cases e:j=0
  .exact .inl e
  .right
   obtain⟨k,rfl⟩:∃ k,j=k+1:=⟨j - 1,by omega⟩
   rw[b _ a,Nat.add_sub_cancel,b _ (by omega)]
   exact h k a
theorem CR (d:List (List UInt8)):(Lib.compact (d.mergeSort λx y=>decide (x<=y))).length=d.length↔d.Nodup:=by
 have hp:=List.mergeSort_perm d (λx y=>decide (x<=y))
 have g:=List.pairwise_mergeSort (le:=λx y:List UInt8=>decide (x<=y)) (λa b c h k=>by simp at h k ⊢;exact List.le_trans h k) (λa b=>by simpa using List.le_total a b) d
 rw[<-hp.nodup_iff,<-hp.length_eq,MB]
 constructor
 .exact HR g
 .intro i j f e
  have h1:(d.mergeSort λx y=>decide (x<=y))[j+1]'f=(d.mergeSort λx y=>decide (x<=y))[j]'(by omega):=by
   simp only[U5,U6 f,U6 (show j < (d.mergeSort λx y=>decide (x<=y)).length by omega),Vo] at e
   exact e
  have:=(List.getElem_inj i).1 h1
  omega
theorem Qw (w:World):grow w #[]=w:=by simp[grow]
theorem Ie (n:Nat) (hn:1<=n) (Bs cap:Nat) (a:Option Addr) (w:World) (hBs:w.cell? ⟨Bs,0,none⟩=some (.slice a 0 cap)) (hBl:Bs < w.heap.size) :
  Cu n Tryz.prog 270 #[.pointer (some ⟨Bs,0,none⟩)] (λxs=>xs=[]) 0 w:=by
 intro l J W hJ hY h0
 have hbw:=hJ _ _ h0
 have hBs':=(hbw.cell (p:=⟨Bs,0,none⟩) hBl).trans hBs
 have hf:Fence.wide.fn 270:=trivial
 refine callsIn_of_wp Tryz.func270 rfl hf ?_ rfl
 simp only[Tryz.ntmps270,Wx,Vm,Vy,Nat.reduceAdd,Nat.reduceSub,WM,WN,W5,WT,Wp,VZ]
 gi_wp2
 gi_loopw [7] (λi wr=>i=.int .i64 0/\J [] wr) (λ_ _=>0)
 case atStart=>exact⟨rfl,h0⟩
 case round =>
  obtain⟨rfl,hJs⟩:=hrel
  gi_wp2
  go_end0
  exact⟨⟨_,rfl⟩,_,rfl,hJs⟩
theorem Lg (n:Nat) (a:Option Addr) (len cap:Nat) (w:World) :
  CallsIn Fence.wide n Tryz.prog 220 #[.slice a len cap] w λe w'=>e=.returned (.func (.func 270) #[] #[.pointer (some ⟨w.heap.size,0,none⟩)])/\w'=w.alloc (.cells #[.slice a len cap] 23):=by
 have hf:Fence.wide.fn 220:=trivial
 refine callsIn_of_wp Tryz.func220 rfl hf ?_ rfl
 simp only[Tryz.ntmps220,Wx,Vm,Vy,Nat.reduceAdd,Nat.reduceSub,WM,WN,W5,WT,Wp,VZ]
 gi_wp2
 go_ret
 exact⟨rfl,rfl⟩
theorem zD (a:Option Addr) (cap:Nat) (zs:List (List UInt8)) (hz:zs.length<=1000) (w:World)
  (hseq:∀ n Bs,1<=n->w.heap.size=Bs->Cu n Tryz.prog 270 #[.pointer (some ⟨Bs,0,none⟩)] (λxs=>xs=zs) zs.length (w.alloc (.cells #[.slice a zs.length cap] 23))) :
  Calls Tryz.prog 155 #[.slice a zs.length cap] w λe w'=>e=.returned (.bool (decide zs.Nodup))/\Below w.heap.size w w':=by
 refine(callsIn_wide (n:=7)).1 ?_
 have hf:Fence.wide.fn 155:=trivial
 have hfv:Fence.wide.fn 220:=trivial
 have hfs:Fence.wide.fn 219:=trivial
 have hfc:Fence.wide.fn 221:=trivial
 have eg:=enters_of Tryz.func270 (by kernel_rfl) rfl
 have cV:=Lg 6 a zs.length cap w
 have cS:=L2 6 (by omega) 270 #[.pointer (some ⟨w.heap.size,0,none⟩)] eg _ zs.length (by unfold maxLen;omega) (by omega) (w.alloc (.cells #[.slice a zs.length cap] 23)) (hseq _ _ (by omega) rfl) (λxs e=>by subst e;omega)
 refine callsIn_of_wp Tryz.func155 rfl hf ?_ rfl
 simp only[Tryz.ntmps155,Wx,Vm,Vy,Nat.reduceAdd,Nat.reduceSub,WM,WN,W5,WT,Wp,VZ]
 clear hseq
 gi_wp2_with (first
  | (gi_at_call 220;refine cV.mono ?_;rintro e w' ⟨rfl,rfl⟩)
  | (gi_at_call 219;refine cS.mono ?_;rintro e W ⟨v,ss,rfl,rfl,hrow,hb⟩)
  | fail)
 have hsz:(ss.mergeSort λx y=>decide (x<=y)).length=ss.length:=by simp
 have hBw:Below w.heap.size w W:=((Below.refl _ w).alloc (Vh _) _).trans (hb.mono (by simp))
 rcases hrow.2 with ⟨rfl,h0⟩ | ⟨gb,cap',cur,rfl,hbase,hgb,r1,r2,r3,r4⟩
 .have hss:ss=[]:=List.eq_nil_of_length_eq_zero h0
  subst hss
  have cC:CallsIn Fence.wide 6 Tryz.prog 221 #[.slice none 0 0] W λe w'=>e=.returned (.slice none 0 0)/\w'=W:=callsIn_wide.2 (AnyG.slices_Compact_string_empty QL none 0 W)
  clear cS cV hrow
  gi_wp2_with (gi_at_call 221;refine cC.mono ?_;rintro e w' ⟨rfl,rfl⟩)
  go_ret
  exact⟨rfl,hBw⟩
 .have hH:Holds encStr W gb 0 (ss.mergeSort λx y=>decide (x<=y)).toArray:=holds_of_block hgb (by simpa using r4)
  have hgl:gb < W.heap.size:=(Array.getElem?_eq_some_iff.1 hgb).1
  have cC:CallsIn Fence.wide 6 Tryz.prog 221 #[.slice (some ⟨gb,0,none⟩) ss.length cap'] W λe w'=>∃ m:Nat,e=.returned (.slice (some ⟨gb,0,none⟩) m cap')/\((m=ss.length)↔ss.Nodup)/\Below w.heap.size w w':=by
   have:=AnyG.slices_Compact_string QL gb 0 cap' (ss.mergeSort λx y=>decide (x<=y)) W hH (by rw[hsz];omega) (by rw[hsz];omega)
   rw[hsz] at this
   refine callsIn_wide.2 (this.mono ?_)
   rintro e w' ⟨rfl,q,rfl⟩
   refine⟨_,rfl,CR ss,?_⟩
   have hg:=grownBy_sorted (w:=W) (g:=gb) (n:=q) (os:=#[]) (Lib.compact (ss.mergeSort λx y=>decide (x<=y)) ++ List.replicate (ss.length - (Lib.compact (ss.mergeSort λx y=>decide (x<=y))).length) []).toArray
   rw[Qw] at hg
   exact hBw.grown hg hBw.size (λj e=>by cases e;have h:=hbase;rw[World.size_alloc] at h;omega)
  clear cS cV hrow hH
  gi_wp2_with (gi_at_call 221;refine cC.mono ?_;rintro e w' ⟨m,rfl,hm,hb'⟩)
  go_ret
  refine⟨?_,hb'⟩
  show Ending.returned (.bool ((m:Int) == (ss.length:Int)))=_
  have:((m:Int) == (ss.length:Int))=decide ss.Nodup:=by
   rw[V1]
   simp only[V8,Vj,<-hm]
   omega
  rw[this]
theorem G5 (s:ByteArray):encStr s.data.toList=.string s:=by
 cases s;simp[encStr]
def names (l:List ByteArray):List (List UInt8):=l.map λs=>s.data.toList
theorem Kd {Z:Nat->Prop} {μ:Mu} {hp:Array Obj} {es:List (List V)} {x:Value} (h:ax Z μ hp (.aS es) x) :
  (es=[]/\∃ a cap,x=.slice a 0 cap/\(a=none->cap=0))∨(∃ b off esz cap,∃ c:Nat->Nat->Value,x=.slice (some ⟨b,off,none⟩) es.length cap/\Z b/\es.length<=cap /\
   (∀ i,i < es.length->(es.getD i []).length=esz)/\(∀ i j,i < es.length->j < esz->cellAt hp b (off+i * esz+j)=some (c i j)) /\
   (∀ i j,i < es.length->j < esz->ax Z μ hp ((es.getD i []).getD j .any) (c i j))):=by
 cases h with
 | hU a cap d=>exact .inl ⟨rfl,a,cap,rfl,d⟩
 | aS _ b off esz cap c h1 e f g k=>exact .inr ⟨b,off,esz,cap,c,rfl,h1,e,f,g,k⟩
theorem PA (l:List ByteArray) (G:l.length<=1000):ay Tryz.prog 155 [encS l] (gb (decide (names l).Nodup)):=by
 intro Z μ w xs g r
 obtain⟨hlen,H⟩:=g
 obtain⟨x,rfl⟩:∃ x,xs=[x]:=by
  match xs,hlen with
  | [x],_=>exact⟨x,rfl⟩
 have I:ax Z μ w.heap (encS l) x:=H 0 (by simp)
 have k:(names l).length=l.length:=by simp[names]
 have fin:∀ e w',(e=Ending.returned (.bool (decide (names l).Nodup))/\RowKit.Below w.heap.size w w')->∃ x t,e=.returned x/\(∀ E,ax t E w'.heap (gb (decide (names l).Nodup)) x)/\ey w w'/\(∀ b,Z b->t b)/\(∀ b,t b->Z b∨(w.heap.size<=b/\b < w'.heap.size))/\fG w.heap w'.heap (λ_=>False):=by
  rintro e w' ⟨rfl,m⟩
  exact⟨_,Z,rfl,λE=>.val _ rfl,⟨m.os,m.tape,m.output,m.size⟩,λ_ h=>h,λ_ h=>.inl h,λb u _=>m.block b u⟩
 have box:∀ (v:Value),(w.alloc (.cells #[v] 23)).cell? ⟨w.heap.size,0,none⟩=some v:=λv=>by
  have:=World.alloc_heap_new w (.cells #[v] 23)
  simp only[World.cell?,this];rfl
 rcases Kd I with ⟨he,a,cap,rfl,_⟩ | ⟨b,off,esz,cap,c,rfl,J,hle,z,K,L⟩
 .have A:l=[]:=by simpa using he
  subst A
  refine(zD a cap (names []) (by simp[names]) w (λn M B C=>?_)).mono fin
  subst C
  exact Ie n B w.heap.size cap a _ (box _) (by simp)
 .have o:∀ i,(hi:i < l.length)->(l.map λs=>[gs s]).getD i []=[gs l[i]]:=λi hi=>by simp[U5,hi]
  have d:∀ i,(hi:i < l.length)->cellAt w.heap b (off+i)=some (.string l[i]):=λi hi=>by
   have h1:=z i (by simpa using hi)
   rw[o i hi] at h1
   simp only[Vm,Vy] at h1
   subst h1
   have F:=K i 0 (by simpa using hi) (by omega)
   have q:=L i 0 (by simpa using hi) (by omega)
   rw[o i hi] at q
   simp only[Wc] at q
   generalize c i 0=y at F q
   cases q
   simpa using F
  have f:(l.map λs=>[gs s]).length=(names l).length:=by simp[names]
  rw[f]
  refine(zD (some ⟨b,off,none⟩) cap (names l) (by rw[k];exact G) w (λn M B C=>?_)).mono fin
  subst C
  have D:=r b J
  refine KG n B w.heap.size b off cap (names l) (by rw[k];omega) _ (box _) (by simp) (by simp;omega) (λj P=>?_)
  have p:j < l.length:=by omega
  have N:(w.alloc (.cells #[.slice (some ⟨b,off,none⟩) (names l).length cap] 23)).cell? ⟨b,off+j,none⟩=w.cell? ⟨b,off+j,none⟩:=by
   have:=Below.heap_alloc w (.cells #[.slice (some ⟨b,off,none⟩) (names l).length cap] 23) b D
   simp only[World.cell?,this]
  rw[N,ry,d j p]
  have O:(names l).getD j []=l[j].data.toList:=by simp[names,U5,p]
  rw[O,G5]
theorem cw.hU {P:Program} {f:FuncId} {h:aB} (h1:cw P f [.emp 1] h (.emp 1) h) (m:cw P f [.emp 2] h (.emp 2) h) (n:cw P f [.er] h (.emp 2) h):cw P f [.aS []] h (.emp 0) h:=by
 refine⟨Vh _,λZ μ F w xs l hr g=>?_⟩
 obtain⟨q,r⟩:=l
 obtain⟨x,rfl⟩:∃ x,xs=[x]:=by
  match xs,q with
  | [x],_=>exact⟨x,rfl⟩
 have s:ax Z μ w.heap (.aS []) x:=r 0 (by simp)
 have one:∀ v,ax Z μ w.heap v x->gu Z μ w.heap [v] [x]:=λv h=>⟨rfl,λi hi=>by
  simp at hi;subst hi;exact h⟩
 have d:∀ k,cw P f [if k=3 then .er else .emp k] h (if k=3 then .emp 2 else .emp k) h->ax Z μ w.heap (if k=3 then .er else .emp k) x->Calls P f [x].toArray w λe w'=>∃ x j μ',e=.returned x/\ax j μ' w'.heap (.emp 0) x/\im j μ' w'.heap (cat h F)/\Ext Z μ w h.length j μ' w'/\(∀ id,id < h.length∨h.length<=id->μ' id=μ id):=by
  intro k hk t
  refine(hk.2 Z μ F w [x] (one _ t) hr g).mono ?_
  rintro e w' ⟨y,j,μ',rfl,o,rest⟩
  refine⟨y,j,μ',rfl,?_,rest⟩
  have:∀ p,ax j μ' w'.heap (.emp p) y->ax j μ' w'.heap (.emp 0) y:=λp h=>by
   cases h with | emp _ a _ _=>exact .emp 0 a (by simp) (by simp)
  split at o <;> exact this _ o
 rcases Kd s with ⟨_,a,cap,rfl,u⟩ | ⟨b,off,esz,cap,c,rfl,_,_,_⟩
 .cases a with
  | none =>
   have:=u rfl
   subst this
   exact d 1 (by simpa using h1) (.emp 1 none (by simp) (by simp))
  | some a =>
   cases cap with
   | zero=>exact d 2 (by simpa using m) (.emp 2 (some a) (by simp) (by simp))
   | succ c=>exact d 3 (by simpa using n) (.er a (c+1))
 .cases cap with
  | zero=>exact d 2 (by simpa using m) (.emp 2 (some ⟨b,off,none⟩) (by simp) (by simp))
  | succ c=>exact d 3 (by simpa using n) (.er ⟨b,off,none⟩ (c+1))
def xt (sz:Nat) (es:List (List V)) (H:View) (K:V->View->Prop):Prop :=
 (es=[]->∀ k,K (.emp k) H)/\(es≠[]->∀ n,H n=.dead->K (.sl n 0 es.length sz) (H.set n (.arr sz es)))
def dc:SF:=⟨af [ab [ct 2 1],af [ab [aa 3 0,((some 4),.op (.nil true 0 (.tmp 3) (.val (.emp 1))))],bg 4 (af [ab [ct 2 1],.ret])],ab [ct 5 2,aa 6 0,fM 7 1 16 5 6,aa 2 7],.ret],
 [.tmp 2],8⟩
theorem dr:aQ Tryz.prog 152 []=some dc:=by kernel_rfl
def dY:SF:=⟨af [ab [ct 2 1],af [ab [aa 3 0,((some 4),.op (.nil true 0 (.tmp 3) (.val (.emp 1))))],bg 4 (af [ab [ct 2 1],.ret])],ab [ct 5 2,aa 6 0,fM 7 1 8 5 6,aa 2 7],.ret],
 [.tmp 2],8⟩
theorem ew:aQ Tryz.prog 140 []=some dY:=by kernel_rfl
def cL:SF:=⟨af [ab [ct 2 1],af [ab [aa 3 0,((some 4),.op (.nil true 0 (.tmp 3) (.val (.emp 1))))],bg 4 (af [ab [ct 2 1],.ret])],ab [ct 5 2,aa 6 0,fM 7 3 32 5 6,aa 2 7],.ret],
 [.tmp 2],8⟩
theorem c4:aQ Tryz.prog 163 []=some cL:=by kernel_rfl
theorem ay.tree {P:Program} {f:FuncId} {vs:List V} {t:V} (a:∀ v∈vs,Tree v) (b:Tree t) (h:∀ H,aw P f vs H λr _=>r=t):ay P f vs t :=
 ay.of a ((h _).mono λr H' e c _=>by rw[e];exact .tree _ b)
theorem tI {H:View} : cm H .er=some ([],[]):=id rfl
theorem kE {H:View} (sz bytes k:Nat) (K:V->View->Prop) (w:cP (H,K)):k6 sz bytes (.emp k) [] H K w=K (.emp k) H:=propext Iff.rfl
theorem Nc (l:List ByteArray) (b:l.length<=100000) (H:View) (K:V->View->Prop) (hk:xt 1 (l.map λs=>[gs s]) H K):aw Tryz.prog 152 [encS l] H K:=by
 cases l with
 | nil =>
  have hp:∀ v t,Tree v->Tree t->(∀ H,aw Tryz.prog 152 [v] H λr _=>r=t)->ay Tryz.prog 152 [v] t:=λv t c d h=>ay.tree (by intro x a;simp at a;subst a;exact c) d h
  have h1:=hp (.emp 1) (.emp 1) (.emp 1) (.emp 1) (λH=>by
   refine aw.of mixed dr ?_
   simp(disch:=omega)only[↓wr,seval,wq,dc])
  have e:=hp (.emp 2) (.emp 2) (.emp 2) (.emp 2) (λH=>by
   refine aw.of mixed dr ?_
   simp(disch:=omega)only[↓wr,seval,wq,dc,kE,List.isEmpty_nil])
  have f:=hp .er (.emp 2) .er (.emp 2) (λH=>by
   refine aw.of mixed dr ?_
   simp(disch:=omega)only[↓wr,seval,wq,dc,tI,kE,List.isEmpty_nil])
  refine⟨by kernel_rfl,?_⟩
  rintro h rfl
  exact⟨.emp 0,h,cw.hU (cw.iV h1 h) (cw.iV e h) (cw.iV f h),.refl _,hk.1 rfl 0⟩
 | cons x r =>
  refine aw.of mixed dr ?_
  simp only[Vm] at b
  simp(disch:=omega)only[↓wr,seval,wq,dc,encS]
  refine⟨?_,?_,?_⟩
  .simp[List.all_map,encS,aJ]
  .unfold aD;simp;omega
  .intro n g
   have:=hk.2 (by simp) n g
   simp(disch:=omega)only[↓wr,seval,wq]
   simpa [cO] using this
theorem N8 (l:List Int) (b:l.length<=100000) (H:View) (K:V->View->Prop) (hk:xt 1 (l.map λs=>[gi s]) H K):aw Tryz.prog 140 [encI l] H K:=by
 cases l with
 | nil =>
  have hp:∀ v t,Tree v->Tree t->(∀ H,aw Tryz.prog 140 [v] H λr _=>r=t)->ay Tryz.prog 140 [v] t:=λv t c d h=>ay.tree (by intro x a;simp at a;subst a;exact c) d h
  have h1:=hp (.emp 1) (.emp 1) (.emp 1) (.emp 1) (λH=>by
   refine aw.of mixed ew ?_
   simp(disch:=omega)only[↓wr,seval,wq,dY])
  have e:=hp (.emp 2) (.emp 2) (.emp 2) (.emp 2) (λH=>by
   refine aw.of mixed ew ?_
   simp(disch:=omega)only[↓wr,seval,wq,dY,kE,List.isEmpty_nil])
  have f:=hp .er (.emp 2) .er (.emp 2) (λH=>by
   refine aw.of mixed ew ?_
   simp(disch:=omega)only[↓wr,seval,wq,dY,tI,kE,List.isEmpty_nil])
  refine⟨by kernel_rfl,?_⟩
  rintro h rfl
  exact⟨.emp 0,h,cw.hU (cw.iV h1 h) (cw.iV e h) (cw.iV f h),.refl _,hk.1 rfl 0⟩
 | cons x r =>
  refine aw.of mixed ew ?_
  simp only[Vm] at b
  simp(disch:=omega)only[↓wr,seval,wq,dY,encI]
  refine⟨?_,?_,?_⟩
  .simp[List.all_map,encI,aJ]
  .unfold aD;simp;omega
  .intro n g
   have:=hk.2 (by simp) n g
   simp(disch:=omega)only[↓wr,seval,wq]
   simpa [cO] using this
theorem NL (l:List Term) (b:l.length<=100000) (H:View) (K:V->View->Prop) (hk:xt 3 (l.map cO) H K):aw Tryz.prog 163 [ef l] H K:=by
 cases l with
 | nil =>
  have hp:∀ v t,Tree v->Tree t->(∀ H,aw Tryz.prog 163 [v] H λr _=>r=t)->ay Tryz.prog 163 [v] t:=λv t c d h=>ay.tree (by intro x a;simp at a;subst a;exact c) d h
  have h1:=hp (.emp 1) (.emp 1) (.emp 1) (.emp 1) (λH=>by
   refine aw.of mixed c4 ?_
   simp(disch:=omega)only[↓wr,seval,wq,cL])
  have e:=hp (.emp 2) (.emp 2) (.emp 2) (.emp 2) (λH=>by
   refine aw.of mixed c4 ?_
   simp(disch:=omega)only[↓wr,seval,wq,cL,kE,List.isEmpty_nil])
  have f:=hp .er (.emp 2) .er (.emp 2) (λH=>by
   refine aw.of mixed c4 ?_
   simp(disch:=omega)only[↓wr,seval,wq,cL,tI,kE,List.isEmpty_nil])
  refine⟨by kernel_rfl,?_⟩
  rintro h rfl
  exact⟨.emp 0,h,cw.hU (cw.iV h1 h) (cw.iV e h) (cw.iV f h),.refl _,hk.1 rfl 0⟩
 | cons x r =>
  refine aw.of mixed c4 ?_
  simp only[Vm] at b
  simp(disch:=omega)only[↓wr,seval,wq,cL,ef,cO]
  refine⟨?_,?_,?_⟩
  .simp[List.all_map,ef,cO,aJ]
  .unfold aD;simp;omega
  .intro n g
   have:=hk.2 (by simp) n g
   simp(disch:=omega)only[↓wr,seval,wq]
   simpa [cO] using this
theorem xt.own {sz:Nat} {es:List (List V)} {H:View} : xt sz es H λr H'=>aZ H' r sz es/\fC H H' r :=
 ⟨λhe k=>⟨by rw[he];exact .nil,.emp⟩,λ_ n a=>⟨.new,.new a⟩⟩
theorem MO (l:List ByteArray) (a:l.length<=100000) (H:View):aw Tryz.prog 152 [encS l] H λr H'=>aZ H' r 1 (l.map λs=>[gs s])/\fC H H' r:=Nc l a H _ .own
theorem Oa (l:List Int) (a:l.length<=100000) (H:View):aw Tryz.prog 140 [encI l] H λr H'=>aZ H' r 1 (l.map λs=>[gi s])/\fC H H' r:=N8 l a H _ .own
theorem Nn (l:List Term) (a:l.length<=100000) (H:View):aw Tryz.prog 163 [ef l] H λr H'=>aZ H' r 3 (l.map cO)/\fC H H' r:=NL l a H _ .own
def lT (g:ae):List aN->Int->Bool
 | [],next=>next == g.ao.length
 | r :: l,next=>decide (0<=r.left) && decide (r.left<=next) && ig g r && lT g l (if r.left+1 > next then r.left+1 else next)
def sj (g:ae):List ByteArray:=g.ao ++ g.ai.map Term.name
def qb (g:ae):Bool :=
 rK g.ai && (decide ((1:Int)<=g.ao.length) && decide ((g.ao.length:Int)<=16)) && (decide ((1:Int)<=g.rules.length) && decide ((g.rules.length:Int)<=40)) && decide (names (sj g)).Nodup && (decide (0<=g.start) && decide (g.start<=(g.ao.length:Int) - 1)) &&
  !(g.ao.any λs=>!fP (fh s)) && lT g g.rules 0
theorem Hz {l:List ByteArray} : ∀ e∈(l.map λs=>[gs s]),∀ v∈e,Tree v:=by
 intro e he v b
 obtain⟨a,_,rfl⟩:=Vv.1 he
 rw[Wh] at b
 subst b
 exact .val _
theorem MR (g:ae) (p:g.Ok) (Z:g.ao.length+g.ai.length<=1000) (H:View):aw Tryz.prog 89 [.agg (ag g)] H λr _=>r=gb (qb g):=by
 refine aw.of mixed CD ?_
 have L:=p.ao
 have M:=p.ai
 have hr:=p.rules
 unfold aH at L M hr
 simp(disch:=omega)only[↓wr,seval,wq,zO,ag,encS]
 refine av.eD ((MO g.ao (by omega) H).mono ?_)
 rintro u H1 ⟨hu,hf⟩
 simp(disch:=omega)only[↓wr,seval,wq,ag,encS]
 refine bc.up g.ai.length (λi T H=>T 1=.aF (ag g) 0/\(∃ u,T 3=u/\aZ H u 1 ((g.ao ++ (g.ai.take i).map Term.name).map λs=>[gs s]))/\T 13=ef g.ai/\T 14=gi g.ai.length/\T 15=gi i) ?_ ?_
 .exact⟨rfl,⟨u,rfl,by simpa using hu⟩,rfl,rfl,rfl⟩
 rintro i k T H' hk ⟨h1,⟨u,q,hu⟩,a,c,d⟩
 simp(disch:=omega)only[↓wr,seval,wq,wQ,h1,a,c,d,ef]
 apply ah.dec<;>intro B
 .have f:g.ai[i]?=some (g.ai[i]'(by omega)):=U6 (by omega)
  have v:(g.ai.take (i+1)).map Term.name=(g.ai.take i).map Term.name ++ [(g.ai[i]'(by omega)).name]:=by
   rw[Vs,f,Vz];rfl
  generalize g.ai[i]'(by omega)=t at f v
  simp(disch:=omega)only[↓wr,seval,wq,h1,q,a,c,d,ef,cO,U9,f]
  intro b C
  try simp(disch:=omega)only[↓wr,seval,wq,h1,q,a,c,d,set_set]
  intro m hm
  have D:=(bS hm bQ).1
  have hm:=(bS (bS hm bQ).2 bQ).2
  try simp(disch:=omega)only[↓wr,seval,wq,h1,q,a,c,d,bt]
  have J:((g.ao ++ (g.ai.take i).map Term.name).map λs=>[gs s]).length<=1000:=by simp;omega
  refine nd (((hu.fresh C).other (hu.ne C)).fresh (by simp[View.set,hm,D])) (by simp) (by simp[aJ]) (by unfold aD;simp at J ⊢;omega) (by unfold aD;simp at J ⊢;omega) ?_
  intro u' H2 E _
  simp(disch:=omega)only[↓wr,seval,wq,h1,q,a,c,d]
  refine aI hk (by omega) ⟨h1,⟨u',rfl,?_⟩,a,c,rfl⟩
  rw[v]
  simpa using E
 .rw[Vn (by omega)] at hu
  have N:H'=H':=rfl
  have y:(sj g).length<=1000:=by simp[sj];omega
  repeat' (first | ((first|apply ah.dec|apply ah.eq|apply ah.ne|apply ah.split)<;>intro)|(refine av.pure (Oh g.ai p.ai) ?_)|(refine av.pure (ri _ _ _) ?_)|(refine av.xY (PA (sj g) y) (by kernel_rfl) (.val _) ⟨dh.own hu Hz,trivial⟩ ?_)|(simp(disch:=omega)only[↓wr,seval,wq,h1,q,a,c,d,ag,encS]))
  all_goals try (simp[qb, *];done)
  rename_i O P K Q R
  refine av.pure (Aa g.ao p.ao 157 [] (by simp) (λs=>!fP (fh s)) (λx _=>Ls x) (by kernel_rfl)) ?_
  repeat' (first | ((first|apply ah.dec|apply ah.eq|apply ah.ne|apply ah.split)<;>intro)|(simp(disch:=omega)only[↓wr,seval,wq,h1,q,a,c,d,ag,encS]))
  all_goals try (simp[qb, *];done)
  rename_i S
  have hle:g.rules.length<=40:=by simp at K;omega
  have h:∀ b,lT g g.rules 0=b->gb b=gb (qb g):=λb e=>by
   simp only[qb,O,P,K,Q,R,S,e,decide_true,V3,Bool.not_false]
  refine bc.up g.rules.length (λi T _=>∃ w:Int,0<=w/\w<=i/\lT g (g.rules.drop i) w=lT g g.rules 0/\T 1=.aF (ag g) 0/\T 6=gi w/\T 62=.aS (g.rules.map aW)/\T 63=gi g.rules.length/\T 64=gi i) ?_ ?_
  .exact⟨0,by omega,by omega,rfl,h1,rfl,rfl,rfl,rfl⟩
  rintro i k T H' hk ⟨w,U,V,hi,h1,A,j,l,n⟩
  simp(disch:=omega)only[↓wr,seval,wq,xh,h1,A,j,l,n,ag]
  apply ah.dec<;>intro B
  .have f:g.rules[i]?=some (g.rules[i]'(by omega)):=U6 (by omega)
   rw[e9 (show i < g.rules.length by omega)] at hi
   have o:g.rules[i]'(by omega)∈g.rules:=Vg _
   generalize g.rules[i]'(by omega)=t at f hi o
   obtain⟨⟨W,X⟩,hp,F,G⟩:=p.al t o
   simp only[lT] at hi
   simp(disch:=omega)only[↓wr,seval,wq,h1,A,j,l,n,aW,encI,U9,f]
   intro b C
   repeat' (first | ((first|apply ah.dec|apply ah.eq|apply ah.ne|apply ah.split)<;>intro)|(refine av.pure (ri _ _ _) ?_)|(refine av.pure (PI g t p ⟨F,G⟩) ?_)|(simp(disch:=omega)only[↓wr,seval,wq,h1,A,j,l,n,ag,aW,encI,encS,set_set]))
   .rename_i z I
    have Y:0<=t.left/\t.left<=w:=by simpa using z
    rw[z,I,V3,V3] at hi
    have hw:IntKind.wrap .i64 (t.left+1)=t.left+1:=wrap64 (by omega) (by omega)
    refine aI hk (by omega) ⟨_,by split <;> omega,by split <;> (push_cast;omega),hi,h1,?_,j,l,rfl⟩
    show gi (if IntKind.wrap .i64 (t.left+1) > w then IntKind.wrap .i64 (t.left+1) else w)=_
    rw[hw]
   .rename_i z I
    rw[I,W7,WK] at hi
    exact h _ hi.symm
   .rename_i z
    rw[z,WK,WK] at hi
    exact h _ hi.symm
  .rw[VA (by omega)] at hi
   simp only[lT] at hi
   simp(disch:=omega)only[↓wr,seval,wq,h1,A,j,l,n,ag,encS]
   exact h _ hi.symm
theorem Lj (g:ae) (a:g.Ok) (b:g.ao.length+g.ai.length<=1000):ay Tryz.prog 89 [.agg (ag g)] (gb (qb g)):=ay.val (eP g) (MR g a b)
theorem FD (g:ae):∀ (l:List aN) (next:Int),lT g l next=gC g l (next - 1)
 | [],next=>by
  simp only[lT,gC]
  rw[V1];simp
 | r :: l,next=>by
  simp only[lT,gC,FD g l]
  have a:(if r.left+1 > next then r.left+1 else next) - 1=if r.left > next - 1 then r.left else next - 1:=by
   split <;> split <;> omega
  have b:next - 1+1=next:=by omega
  rw[a,b]
theorem yw (s:ByteArray):∀ (l:List ByteArray) (i:Int),0<=i->(nU s l i < 0/\s ∉ l)∨∃ k:Nat,nU s l i=i+k/\l[k]?=some s/\∀ j < k,l[j]?≠some s
 | [],i,h=>.inl ⟨by simp[nU],by simp⟩
 | x :: l,i,h=>by
  have b:jj x s=true↔x=s:=by
   unfold jj
   rw[V8]
   constructor
   .intro e;cases x;cases s;simp at e;simp[e]
   .rintro rfl;rfl
  simp only[nU]
  by_cases e:x=s
  .rw[Va (b.2 e)]
   exact .inr ⟨0,by simp,by simp[e],by simp⟩
  .rw[U8 (λh=>e (b.1 h))]
   rcases yw s l (i+1) (by omega) with ⟨h1,a⟩ | ⟨k,h1,a,c⟩
   .exact .inl ⟨h1,by simp[a,Ne.symm e]⟩
   .refine .inr ⟨k+1,by rw[h1];push_cast;omega,by simpa using a,λj d=>?_⟩
    cases j with
    | zero=>simp[e]
    | succ j=>simpa using c j (by omega)
theorem sV (l:List ByteArray):(∀ (k:Nat) (s:ByteArray),l[k]?=some s->nU s l 0=k)↔l.Nodup:=by
 constructor
 .intro h
  rw[WW,List.pairwise_iff_getElem]
  intro i j hi b d e
  have h1:=h i l[i] (by simp[hi])
  have a:=h j l[j] (by simp[b])
  rw[e] at h1
  omega
 .intro f k s hk
  rcases yw s l 0 (by omega) with ⟨_,a⟩ | ⟨j,h1,a,g⟩
  .exact absurd (Vc hk) a
  .have b:j < l.length:=by
    rcases Vw j l.length with h | h
    .exact h
    .simp[Vx h] at a
   have c:k < l.length:=by
    rcases Vw k l.length with h | h
    .exact h
    .simp[Vx h] at hk
   have:j=k:=(List.getElem_inj f).1 (by
    rw[U6 b] at a;rw[U6 c] at hk
    simp at a hk;rw[a,hk])
   rw[h1,this];simp
theorem bytes_inj {a b:ByteArray} : a.data.toList=b.data.toList↔a=b:=by
 constructor
 .intro h;cases a;cases b;simp at h;simp[h]
 .rintro rfl;rfl
theorem NY {l:List ByteArray} : (names l).Nodup↔l.Nodup:=by
 unfold names
 rw[WW,Xd,WW]
 constructor
 .exact λh=>h.imp λh e=>h (bytes_inj.2 e)
 .exact λh=>h.imp λh e=>h (bytes_inj.1 e)
theorem qp {α:Type} [BEq α] [LawfulBEq α]:∀ (l m:List α),l.Nodup->(∀ x∈l,x∈m)->l.length<=m.length
 | [],m,_,_=>by simp
 | x :: l,m,a,c=>by
  rw[V9] at a
  have d:x∈m:=c x (by simp)
  have:=qp l (m.erase x) a.2 (λy e=>by
   have b:y≠x:=by rintro rfl;exact a.1 e
   exact(List.mem_erase_of_ne b).2 (c y (by simp[e])))
  rw[List.length_erase_of_mem d] at this
  have:0 < m.length:=List.length_pos_of_mem d
  simp only[Vm]
  omega
def lQ (n:Nat):List Int:=(List.range n).map λ(k:Nat)=>(k:Int)+1
theorem wh {n:Nat} {x:Int} : x∈lQ n↔1<=x/\x<=n:=by
 simp only[lQ,Vv,Wa]
 constructor
 .rintro⟨k,hk,rfl⟩;omega
 .rintro⟨h1,a⟩;exact⟨(x - 1).toNat,by omega,by omega⟩
theorem Gj (n:Nat):(lQ n).Nodup:=by
 rw[lQ,WW,Xd]
 exact(List.nodup_range (n:=n)).imp λh e=>h (by omega)
theorem Q6 {l:List Int} {n:Nat} (b:l.Nodup) (c:∀ x∈l,1<=x/\x<=n) (f:l.length=n) {x:Int} (h1:1<=x) (d:x<=n):x∈l:=by
 refine Wu λe=>?_
 have:=qp (x :: l) (lQ n) (V9.2 ⟨e,b⟩) (λy a=>by
  rw[wh]
  rcases Vq.1 a with rfl | a
  .exact⟨h1,d⟩
  .exact c y a)
 simp[lQ] at this
 omega
theorem vP (n:Int):∀ (l:List Term) (w:Int),w≠0->jd n l w=if (∀ t∈l,t.level=n->t.assoc=w) then some w else none
 | [],w,_=>by simp[jd]
 | t :: r,w,hw=>by
  simp only[jd]
  by_cases a:t.level=n
  .rw[Va a]
   by_cases b:w=t.assoc
   .rw[U8 (by simp[b]),<-b,vP n r w hw]
    congr 1
    simp[a,b]
   .rw[Va ⟨hw,b⟩,U8 (λh=>b (h t (by simp) a).symm)]
  .rw[U8 a,vP n r w hw]
   congr 1
   simp[a]
theorem AY (n:Int):∀ (l:List Term),(∀ t∈l,t.level=n->t.assoc≠0)->(gE l n=true↔∃ a,(∃ t∈l,t.level=n)/\∀ t∈l,t.level=n->t.assoc=a)
 | [],_=>by simp[gE,jd]
 | t :: r,h=>by
  by_cases c:t.level=n
  .have g:=h t (by simp) c
   have e:gE (t :: r) n=match (if (∀ u∈r,u.level=n->u.assoc=t.assoc) then some t.assoc else none) with | some w=>w != 0 | none=>false:=by
    simp only[gE,jd]
    rw[Va c,U8 (by simp),vP n r _ g]
    rfl
   rw[e]
   by_cases hr:∀ u∈r,u.level=n->u.assoc=t.assoc
   .rw[Va hr]
    simp only[Xe,ne_eq,g,not_false_eq_true,true_iff]
    refine⟨t.assoc,⟨t,by simp,c⟩,λu hu b=>?_⟩
    rcases Vq.1 hu with rfl | hu
    .rfl
    .exact hr u hu b
   .rw[U8 hr]
    simp only[VE,false_iff]
    rintro⟨a,_,d⟩
    exact hr λu hu b=>(d u (by simp[hu]) b).trans (d t (by simp) c).symm
  .have i:=AY n r (λu hu=>h u (by simp[hu]))
   have e:gE (t :: r) n=gE r n:=by
    simp only[gE,jd,U8 c]
   rw[e,i]
   constructor
   .rintro⟨a,⟨u,hu,b⟩,d⟩
    refine⟨a,⟨u,by simp[hu],b⟩,λv f b=>?_⟩
    rcases Vq.1 f with rfl | f
    .exact absurd b c
    .exact d v f b
   .rintro⟨a,⟨u,hu,b⟩,d⟩
    rcases Vq.1 hu with rfl | hu
    .exact absurd b c
    .exact⟨a,⟨u,hu,b⟩,λv f=>d v (by simp[f])⟩
def vm (l:List Term):Prop:=∀ t∈l,∀ u∈l,t.level=u.level->t.level≠0->t.assoc=u.assoc
theorem Fm {κ β:Type} [BEq κ] [LawfulBEq κ] {k:κ} {v:β} : ∀ {a:List (κ × β)},(a.map (·.1)).Nodup->((jI k v a).map (·.1)).Nodup/\∀ x,x∈(jI k v a).map (·.1)↔x=k∨x∈a.map (·.1)
 | [],_=>by simp[jI]
 | y :: a,h=>by
  simp only[VF,V9] at h
  obtain⟨h1,b⟩:=Fm (k:=k) (v:=v) h.2
  simp only[jI]
  by_cases e:k=y.1
  .simp only[e,beq_self_eq_true,if_true,VF,V9]
   refine⟨h,λx=>by simp[e]⟩
  .have:(k == y.1)=false:=by simp[e]
   rw[this]
   simp only[VE,if_false,VF,V9,Vq]
   refine⟨⟨λhm=>?_,h1⟩,λx=>?_⟩
   .rcases (b _).1 hm with e' | hm
    .exact e e'.symm
    .exact h.1 hm
   .rw[b]
    constructor
    .rintro (h | h | h) <;> simp[h]
    .rintro (h | h | h) <;> simp[h]
theorem xS:∀ (l:List Term) (a:List (Int × Int)) (top:Int),(∀ t∈l,t.level≠0->t.assoc≠0)->(∀ n v,dU a n=some v->v≠0)->(a.map (·.1)).Nodup ->
  match mo l a top with
  | some (z,b)=>vm l/\(∀ t∈l,∀ v,t.level≠0->dU a t.level=some v->t.assoc=v)/\(z.map (·.1)).Nodup/\(∀ n,n∈z.map (·.1)↔n∈a.map (·.1)∨(n≠0/\∃ t∈l,t.level=n)) /\
    top<=b/\(∀ t∈l,t.level≠0->t.level<=b)/\(b=top∨∃ t∈l,t.level=b/\t.level≠0)
  | none=>¬ (vm l/\∀ t∈l,∀ v,t.level≠0->dU a t.level=some v->t.assoc=v)
 | [],a,top,_,_,A=>by
  simp only[mo]
  exact⟨λt c=>by simp at c,λt c=>by simp at c,A,λn=>by simp,by omega,λt c=>by simp at c,by simp⟩
 | t :: r,a,top,E,B,A=>by
  have p:∀ u∈r,u.level≠0->u.assoc≠0:=λu hu=>E u (by simp[hu])
  simp only[mo]
  by_cases c:t.level=0
  .rw[Va c]
   have g:=xS r a top p B A
   have one:vm (t :: r)↔vm r:=by
    constructor
    .exact λh u hu w hw=>h u (by simp[hu]) w (by simp[hw])
    .intro h u hu w hw e d
     rcases Vq.1 hu with rfl | hu
     .exact absurd c d
     .rcases Vq.1 hw with rfl | hw
      .exact absurd (e.trans c) d
      .exact h u hu w hw e d
   have q:(∀ u∈t :: r,∀ v,u.level≠0->dU a u.level=some v->u.assoc=v)↔∀ u∈r,∀ v,u.level≠0->dU a u.level=some v->u.assoc=v:=by
    simp[c]
   have mem:∀ n,(n≠0/\∃ u∈t :: r,u.level=n)↔(n≠0/\∃ u∈r,u.level=n):=λn=>by
    constructor
    .rintro⟨h1,u,hu,rfl⟩
     rcases Vq.1 hu with rfl | hu
     .exact absurd c h1
     .exact⟨h1,u,hu,rfl⟩
    .rintro⟨h1,u,hu,rfl⟩;exact⟨h1,u,by simp[hu],rfl⟩
   cases s:mo r a top with
   | none=>rw[s] at g;rw[one,q];exact g
   | some x =>
    obtain⟨z,b⟩:=x
    rw[s] at g
    obtain⟨i1,i2,i3,i4,i5,i6,i7⟩:=g
    refine⟨one.2 i1,q.2 i2,i3,λn=>by rw[i4,mem],i5,?_,?_⟩
    .intro u hu d
     rcases Vq.1 hu with rfl | hu
     .exact absurd c d
     .exact i6 u hu d
    .rcases i7 with h | ⟨u,hu,h⟩
     .exact .inl h
     .exact .inr ⟨u,by simp[hu],h⟩
  .rw[U8 c]
   have H:=E t (by simp) c
   by_cases j:(dU a t.level).getD 0≠0/\(dU a t.level).getD 0≠t.assoc
   .rw[Va j]
    simp only
    rintro⟨_,o⟩
    cases hp:dU a t.level with
    | none=>simp[hp] at j
    | some v =>
     have:=o t (by simp) v c hp
     simp[hp] at j
     exact j.2 this.symm
   .rw[U8 j]
    have i:∀ v,dU a t.level=some v->t.assoc=v:=λv hp=>by
     have:=B _ _ hp
     simp[hp] at j
     exact(j this).symm
    have f:∀ n,dU (jI t.level t.assoc a) n=if n=t.level then some t.assoc else dU a n:=λn=>by
     rw[Hg];simp
    have hk:=Fm (k:=t.level) (v:=t.assoc) A
    have g:=xS r (jI t.level t.assoc a) (if t.level > top then t.level else top) p (λn v hp=>by
     rw[f] at hp
     split at hp
     .simp at hp;rw[<-hp];exact H
     .exact B n v hp) hk.1
    have both:(vm (t :: r)/\∀ u∈t :: r,∀ v,u.level≠0->dU a u.level=some v->u.assoc=v)↔(vm r/\∀ u∈r,∀ v,u.level≠0->dU (jI t.level t.assoc a) u.level=some v->u.assoc=v):=by
     constructor
     .rintro⟨h1,o⟩
      refine⟨λu hu w hw=>h1 u (by simp[hu]) w (by simp[hw]),λu hu v d hp=>?_⟩
      rw[f] at hp
      split at hp
      .rename_i e
       simp at hp;rw[<-hp]
       exact h1 u (by simp[hu]) t (by simp) e d
      .exact o u (by simp[hu]) v d hp
     .rintro⟨h1,o⟩
      have C:∀ u∈r,u.level=t.level->u.assoc=t.assoc:=λu hu e=>o u hu t.assoc (by rw[e];exact c) (by rw[f,Va e])
      refine⟨λu hu w hw e d=>?_,λu hu v d hp=>?_⟩
      .rcases Vq.1 hu with F | y
       .rcases Vq.1 hw with D | m
        .rw[F,D]
        .rw[F] at e ⊢
         exact(C w m e.symm).symm
       .rcases Vq.1 hw with D | m
        .rw[D] at e ⊢
         exact C u y e
        .exact h1 u y w m e d
      .rcases Vq.1 hu with rfl | hu
       .exact i v hp
       .by_cases e:u.level=t.level
        .rw[C u hu e];exact i v (by rw[<-e];exact hp)
        .exact o u hu v d (by rw[f,U8 e];exact hp)
    have G:top<=(if t.level > top then t.level else top)/\t.level<=(if t.level > top then t.level else top):=by split <;> omega
    cases s:mo r (jI t.level t.assoc a) (if t.level > top then t.level else top) with
    | none=>rw[s] at g;simp only;rw[both];exact g
    | some x =>
     obtain⟨z,b⟩:=x
     rw[s] at g
     obtain⟨i1,i2,i3,i4,i5,i6,i7⟩:=g
     obtain⟨I,J⟩:=both.2 ⟨i1,i2⟩
     refine⟨I,J,i3,λn=>?_,by omega,?_,?_⟩
     .rw[i4,hk.2]
      constructor
      .rintro ((rfl | h) | ⟨h1,u,hu,h⟩)
       .exact .inr ⟨c,t,by simp,rfl⟩
       .exact .inl h
       .exact .inr ⟨h1,u,by simp[hu],h⟩
      .rintro (h | ⟨h1,u,hu,h⟩)
       .exact .inl (.inr h)
       .rcases Vq.1 hu with rfl | hu
        .exact .inl (.inl h.symm)
        .exact .inr ⟨h1,u,hu,h⟩
     .intro u hu d
      rcases Vq.1 hu with rfl | hu
      .omega
      .exact i6 u hu d
     .rcases i7 with h | ⟨u,hu,h⟩
      .by_cases e:t.level > top
       .rw[Va e] at h;exact .inr ⟨t,by simp,h.symm,c⟩
       .rw[U8 e] at h;exact .inl h
      .exact .inr ⟨u,by simp[hu],h⟩
theorem Bc (l:List Term) (h:∀ t∈l,kS t=true):rC l=true↔∀ t∈l,∀ n:Int,1<=n->n<=t.level->gE l n=true:=by
 have g:∀ t∈l,0<=t.level/\(t.level≠0->t.assoc≠0):=λt b=>by
  have:=h t b
  simp only[kS,Vd,Vj,V8] at this
  refine⟨this.1.1.1.1.2,λh1 i=>?_⟩
  have e:=this.2
  simp[h1,i] at e
 have m:=xS l [] 0 (λt b=>(g t b).2) (by simp[dU]) (by simp)
 have o:∀ n:Int,1<=n->(gE l n=true↔∃ a,(∃ t∈l,t.level=n)/\∀ t∈l,t.level=n->t.assoc=a):=λn y=>AY n l (λt b e=>(g t b).2 (by omega))
 unfold rC
 cases f:mo l [] 0 with
 | none =>
  rw[f] at m
  simp only[VE,false_iff]
  intro c
  refine m ⟨λt b u hu e p=>?_,λt b v _ hp=>by simp[dU] at hp⟩
  have h1:=g t b
  obtain⟨a,_,i⟩:=(o t.level (by omega)).1 (c t b t.level (by omega) (by omega))
  exact(i t b rfl).trans (i u hu e.symm).symm
 | some x =>
  obtain⟨a,top⟩:=x
  rw[f] at m
  obtain⟨i1,_,i3,i4,i5,i6,i7⟩:=m
  simp only[V8]
  have d:∀ n,n∈a.map (·.1)↔n≠0/\∃ t∈l,t.level=n:=λn=>by rw[i4];simp
  have j:∀ x∈a.map (·.1),1<=x/\x<=(top.toNat:Int):=λx f=>by
   obtain⟨h1,t,b,rfl⟩:=(d x).1 f
   have:=(g t b).1
   have:=i6 t b h1
   omega
  constructor
  .intro hlen t b n k r
   have q:t.level<=top:=i6 t b (by omega)
   have hm:=Q6 i3 j (by simp;omega) k (show n<=(top.toNat:Int) by omega)
   obtain⟨p,u,hu,rfl⟩:=(d n).1 hm
   exact(o _ k).2 ⟨u.assoc,⟨u,hu,rfl⟩,λw hw e=>i1 w hw u hu e (by omega)⟩
  .intro c
   have h1:a.length<=top.toNat:=by
    have:=qp _ (lQ top.toNat) i3 (λx f=>wh.2 (j x f))
    simpa [lQ] using this
   have i:top.toNat<=a.length:=by
    rcases i7 with e | ⟨t,b,e,p⟩
    .subst e;simp
    .have:=qp (lQ top.toNat) (a.map (·.1)) (Gj _) (λx f=>by
      rw[wh] at f
      have:=(g t b).1
      obtain⟨_,⟨u,hu,s⟩,_⟩:=(o x f.1).1 (c t b x f.1 (by omega))
      exact(d x).2 ⟨by omega,u,hu,s⟩)
     simpa [lQ] using this
   omega
theorem Cb (g:ae):∀ (l:List Term) (i:Int),jw g l i=true↔∀ (k:Nat) (t:Term),l[k]?=some t->jQ g (i+k) t=true
 | [],i=>by simp[jw]
 | t :: r,i=>by
  simp only[jw,Vd,Cb g r (i+1)]
  constructor
  .rintro⟨h1,a⟩ k u hk
   cases k with
   | zero=>simp at hk;subst hk;simpa using h1
   | succ k =>
    have:=a k u (by simpa using hk)
    rw[show i+((k+1:Nat):Int)=i+1+k by push_cast;omega];exact this
  .intro h
   refine⟨by simpa using h 0 t rfl,λk u hk=>?_⟩
   have:=h (k+1) u (by simpa using hk)
   rw[show i+1+(k:Int)=i+((k+1:Nat):Int) by push_cast;omega];exact this
theorem s7 (g:ae):∀ (l:List ByteArray) (i:Int),rp g l i=true↔∀ (k:Nat) (s:ByteArray),l[k]?=some s->lq g (i+k) s=true
 | [],i=>by simp[rp]
 | t :: r,i=>by
  simp only[rp,Vd,s7 g r (i+1)]
  constructor
  .rintro⟨h1,a⟩ k u hk
   cases k with
   | zero=>simp at hk;subst hk;simpa using h1
   | succ k =>
    have:=a k u (by simpa using hk)
    rw[show i+((k+1:Nat):Int)=i+1+k by push_cast;omega];exact this
  .intro h
   refine⟨by simpa using h 0 t rfl,λk u hk=>?_⟩
   have:=h (k+1) u (by simpa using hk)
   rw[show i+1+(k:Int)=i+((k+1:Nat):Int) by push_cast;omega];exact this
theorem EA (g:ae) (s:ByteArray):l5 g s < 0↔s ∉ g.ai.map Term.name:=by
 unfold l5
 rcases yw s (g.ai.map Term.name) 0 (by omega) with ⟨h1,a⟩ | ⟨k,h1,a,_⟩
 .exact⟨λ_=>a,λ_=>h1⟩
 .constructor
  .intro h;omega
  .intro h;exact absurd (Vc a) h
theorem Ea (g:ae) (t:Term):q7 g t=true↔∀ n:Int,1<=n->n<=t.level->gE g.ai n=true:=by
 simp only[q7,Vr,Wa]
 constructor
 .intro h n h1 a
  have:=h (n - 1).toNat (by omega)
  rwa [show (((n - 1).toNat:Nat):Int)+1=n by omega] at this
 .intro h k hk
  exact h _ (by omega) (by omega)
theorem LG (g:ae):qb g=aO g:=by
 rw[V1]
 simp only[qb,aO,jH,kp,rK,Vd,Vj,Cb,s7,FD,Vr,Xc,List.any_eq_false,Bool.not_eq_true,NY,sj,List.nodup_append,Int.zero_add,Int.zero_sub,Bool.not_not]
 have q:(∀ (k:Nat) (t:Term),g.ai[k]?=some t->jQ g k t=true)↔(∀ t∈g.ai,kS t=true)/\(g.ai.map Term.name).Nodup/\(∀ t∈g.ai,q7 g t=true):=by
  rw[<-sV]
  constructor
  .intro h
   have i:∀ t∈g.ai,∃ k:Nat,g.ai[k]?=some t:=λt d=>List.getElem?_of_mem d
   refine⟨λt d=>?_,λk s hk=>?_,λt d=>?_⟩
   .obtain⟨k,hk⟩:=i t d
    have:=h k t hk
    simp only[jQ,kS,Vd,Vj] at this ⊢
    simp[this]
   .rw[U9,Vk] at hk
    obtain⟨t,hk,rfl⟩:=hk
    have:=h k t hk
    simp only[jQ,Vd,V8] at this
    exact this.1.1.1.1.1.1.2
   .obtain⟨k,hk⟩:=i t d
    have:=h k t hk
    simp only[jQ,Vd] at this
    exact this.2
  .rintro⟨h1,j,l⟩ k t hk
   have hm:=Vc hk
   have a:=h1 t hm
   have b:=j k t.name (by rw[U9,hk];rfl)
   have c:=l t hm
   simp only[jQ,kS,l5,Vd,Vj] at a ⊢
   simp[a,b,c]
 have r:(∀ (k:Nat) (s:ByteArray),g.ao[k]?=some s->lq g k s=true)↔(∀ s∈g.ao,fP (fh s)=true)/\g.ao.Nodup/\(∀ s∈g.ao,s ∉ g.ai.map Term.name):=by
  rw[<-sV]
  constructor
  .intro h
   have i:∀ t∈g.ao,∃ k:Nat,g.ao[k]?=some t:=λt d=>List.getElem?_of_mem d
   refine⟨λt d=>?_,λk s hk=>?_,λt d=>?_⟩
   .obtain⟨k,hk⟩:=i t d
    have:=h k t hk
    simp only[lq,Vd] at this
    exact this.1.1
   .have:=h k s hk
    simp only[lq,xC,Vd,V8] at this
    exact this.1.2
   .obtain⟨k,hk⟩:=i t d
    have:=h k t hk
    simp only[lq,Vd,Vj] at this
    exact(EA g t).1 this.2
  .rintro⟨h1,j,l⟩ k s hk
   have hm:=Vc hk
   have a:=h1 s hm
   have b:=j k s hk
   have c:=(EA g s).2 (l s hm)
   simp[lq,xC,a,b,c]
 rw[q,r]
 constructor
 .rintro⟨⟨⟨⟨⟨⟨⟨⟨t1,t2⟩,t3⟩,n1,v⟩,w,x⟩,m,a2,a3⟩,s1,s2⟩,n⟩,o⟩
  have p:=(Bc g.ai t1).1 t3
  exact⟨⟨⟨⟨⟨⟨⟨t2,t1,a2,λt d=>(Ea g t).2 (p t d)⟩,⟨by omega,by omega⟩,λs f=>by simpa using n s f,m,λs f hm=>a3 s f s hm rfl⟩,by omega⟩,by omega⟩,s1⟩,by omega⟩,o⟩
 .rintro⟨⟨⟨⟨⟨⟨⟨t2,t1,a2,t3⟩,⟨n1,v⟩,n,m,a3⟩,w⟩,x⟩,s1⟩,s2⟩,o⟩
  have p:=(Bc g.ai t1).2 (λt d=>(Ea g t).1 (t3 t d))
  exact⟨⟨⟨⟨⟨⟨⟨⟨t1,t2⟩,p⟩,by omega,by omega⟩,by omega,by omega⟩,m,a2,λs f u hu e=>a3 s f (e ▸ hu)⟩,s1,by omega⟩,λs f=>by simp[n s f]⟩,o⟩
theorem ng (g:ae) (a:g.Ok) (b:g.ao.length+g.ai.length<=1000):ay Tryz.prog 89 [.agg (ag g)] (gb (aO g)):=by
 rw[<-LG];exact Lj g a b
end Gv
