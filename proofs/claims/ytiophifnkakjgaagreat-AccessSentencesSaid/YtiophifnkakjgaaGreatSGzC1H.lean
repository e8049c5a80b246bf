/-
  Part 8 of the proof: what the machine does and what the functions answer.
  Conditions: those that each lemma names.
-/
import Derived.Shelf.SlIter.Sorted
import Derived.Shelf.SortM.Plain
import Derived.Shelf.SortM.SortNone
import Derived.Shelf.SlicesG.CompactS
import Derived.Test.YtiophifnkakjgaaGreatSGzC1G
set_option linter.unusedSimpArgs false
set_option linter.unusedVariables false
set_option maxRecDepth 100000
set_option maxHeartbeats 20000000
namespace Gv
open Go Go.Proofs
def dM {α:Type} (p:α->Bool):List α->Int->Int
 | [],_=>-1
 | x :: l,i=>if p x then i else dM p l (i+1)
theorem zG {α:Type} (p:α->Bool):∀ (l:List α) (i:Int),0<=i->decide (0<=dM p l i)=l.any p
 | [],_,_=>by simp[dM]
 | x :: l,i,h=>by
  have a:=zG p l (i+1) (by omega)
  rw[List.any_cons,dM]
  by_cases hp:p x=true
  .rw[aaF hp,hp];simp[h]
  .rw[aaD hp,a];simp[hp]
theorem GR {f:FuncId} {xs cap:List V} (h:∀ v∈xs,Tree v) (b:∀ v∈cap,Tree v):Tree (.fn f xs cap):=by
 refine .fn _ _ _ (λi hi=>?_) (λi hi=>?_)
 .have a:xs.getD i .any=xs[i]:=by simp[aaA,hi]
  rw[a];exact h _ (aaL _)
 .have a:cap.getD i .any=cap[i]:=by simp[aaA,hi]
  rw[a];exact b _ (aaL _)
def jt:SC :=
 ae [ab [aQ 9 .lss 8 7],bX 9 (.exit 0),.block 1 (ae [ab [aa 10 8,aa 5 10],ab [aa 11 1,aa 12 0,aa 13 5,aO 14 1 12 13,ak 15 14,((some 16),.call (.tmp 11) [(.tmp 15)])],bb 16 (ae [ab [aa 17 5,aa 4 17],.ret])]),ab [aF 18 .add 8 1,aa 8 18]]
def j9:SF:=⟨ae [ab [aR 4 0],ae [ab [aa 6 0,aN 7 6,aR 8 0],bZ 0 jt],ab [aR 4 (-1)],.ret],
 [.tmp 4],19⟩
theorem oz:aP Tryz.prog 160 []=some j9:=by kernel_rfl
def jn:SF:=⟨ae [ab [bB 4 false],ab [aa 5 0,aa 6 1,bk 7 160 [5,6],aF 8 .geq 7 0,aa 4 8],.ret],
 [.tmp 4],9⟩
theorem mI:aP Tryz.prog 90 []=some jn:=by kernel_rfl
def gY:SC :=
 ae [ab [aQ 9 .lss 8 7],bX 9 (.exit 0),.block 1 (ae [ab [aa 10 8,aa 5 10],ab [aa 11 1,aa 12 0,aa 13 5,aO 14 1 12 13,ak 15 14,((some 16),.call (.tmp 11) [(.tmp 15)])],bb 16 (ae [ab [aa 17 5,aa 4 17],.ret])]),ab [aF 18 .add 8 1,aa 8 18]]
def iy:SF:=⟨ae [ab [aR 4 0],ae [ab [aa 6 0,aN 7 6,aR 8 0],bZ 0 gY],ab [aR 4 (-1)],.ret],
 [.tmp 4],19⟩
theorem ly:aP Tryz.prog 222 []=some iy:=by kernel_rfl
def gQ:SF:=⟨ae [ab [bB 4 false],ab [aa 5 0,aa 6 1,bk 7 222 [5,6],aF 8 .geq 7 0,aa 4 8],.ret],
 [.tmp 4],9⟩
theorem kE:aP Tryz.prog 156 []=some gQ:=by kernel_rfl
theorem IU (l:List Int) (g:aK l) (f:FuncId) (cap:List V) (p:Int->Bool) (h:∀ x∈l,az Tryz.prog f (gi x :: cap) (gb (p x))) (d:ed Tryz.prog f=true) (H:View) :
  aw Tryz.prog 160 [encI l,.fn f [] cap] H λr _=>r=gi (dM p l 0):=by
 refine aw.of mixed oz ?_
 unfold aK at g
 simp(disch:=omega)only[↓wr,seval,wq,j9,encI]
 refine ba.up l.length (λi T _=>dM p (l.drop i) i=dM p l 0/\T 0=encI l/\T 1=.fn f [] cap/\T 7=gi l.length/\T 8=gi i) ⟨rfl,rfl,rfl,rfl,rfl⟩ ?_
 rintro i k T H hk ⟨hi,a,h1,b,c⟩
 simp(disch:=omega)only[↓wr,seval,wq,jt,a,h1,b,c,encI]
 apply aj.dec<;>intro j
 .have e:l[i]?=some (l[i]'(by omega)):=aaB (by omega)
  have hm:l[i]'(by omega)∈l:=aaL _
  rw[fq (show i < l.length by omega)] at hi
  generalize l[i]'(by omega)=x at e hm hi
  simp(disch:=omega)only[↓wr,seval,wq,a,h1,b,c,encI,aaE,e]
  refine ax.pure (h x hm) ?_ d
  simp only[dM] at hi
  repeat' (first | ((first|apply aj.dec|apply aj.eq|apply aj.ne|apply aj.split)<;>intro)|(simp(disch:=omega)only[↓wr,seval,wq,a,h1,b,c]))
  .rename_i hp
   rw[<-hi,aaF hp]
  .rename_i hp
   refine aG hk (by omega) ⟨?_,a,h1,b,rfl⟩
   rw[aaD (by simp[hp])] at hi
   push_cast;exact hi
 .rw[aa7 (by omega)] at hi
  simp(disch:=omega)only[↓wr,seval,wq,a,h1,b,c]
  rw[<-hi];rfl
theorem BZ {l:List Int} {f:FuncId} {cap:List V} (a:∀ v∈cap,Tree v):∀ v∈[encI l,.fn f [] cap],Tree v:=by
 intro v b;simp at b
 rcases b with rfl | rfl
 .exact cx l
 .exact GR (by simp) a
theorem ou (l:List Int) (c:aK l) (f:FuncId) (cap:List V) (a:∀ v∈cap,Tree v) (p:Int->Bool) (d:∀ x∈l,az Tryz.prog f (gi x :: cap) (gb (p x))) (b:ed Tryz.prog f=true) :
  az Tryz.prog 90 [encI l,.fn f [] cap] (gb (l.any p)):=by
 refine az.val (BZ a) λH=>?_
 refine aw.of mixed mI ?_
 simp(disch:=omega)only[↓wr,seval,wq,jn]
 refine ax.pure (az.val (BZ a) (IU l c f cap p d b)) ?_
 simp(disch:=omega)only[↓wr,seval,wq]
 rw[<-zG p l 0 (by omega)]
theorem IP (l:List ByteArray) (g:aK l) (f:FuncId) (cap:List V) (p:ByteArray->Bool) (h:∀ x∈l,az Tryz.prog f (gs x :: cap) (gb (p x))) (d:ed Tryz.prog f=true) (H:View) :
  aw Tryz.prog 222 [encS l,.fn f [] cap] H λr _=>r=gi (dM p l 0):=by
 refine aw.of mixed ly ?_
 unfold aK at g
 simp(disch:=omega)only[↓wr,seval,wq,iy,encS]
 refine ba.up l.length (λi T _=>dM p (l.drop i) i=dM p l 0/\T 0=encS l/\T 1=.fn f [] cap/\T 7=gi l.length/\T 8=gi i) ⟨rfl,rfl,rfl,rfl,rfl⟩ ?_
 rintro i k T H hk ⟨hi,a,h1,b,c⟩
 simp(disch:=omega)only[↓wr,seval,wq,gY,a,h1,b,c,encS]
 apply aj.dec<;>intro j
 .have e:l[i]?=some (l[i]'(by omega)):=aaB (by omega)
  have hm:l[i]'(by omega)∈l:=aaL _
  rw[fq (show i < l.length by omega)] at hi
  generalize l[i]'(by omega)=x at e hm hi
  simp(disch:=omega)only[↓wr,seval,wq,a,h1,b,c,encS,aaE,e]
  refine ax.pure (h x hm) ?_ d
  simp only[dM] at hi
  repeat' (first | ((first|apply aj.dec|apply aj.eq|apply aj.ne|apply aj.split)<;>intro)|(simp(disch:=omega)only[↓wr,seval,wq,a,h1,b,c]))
  .rename_i hp
   rw[<-hi,aaF hp]
  .rename_i hp
   refine aG hk (by omega) ⟨?_,a,h1,b,rfl⟩
   rw[aaD (by simp[hp])] at hi
   push_cast;exact hi
 .rw[aa7 (by omega)] at hi
  simp(disch:=omega)only[↓wr,seval,wq,a,h1,b,c]
  rw[<-hi];rfl
theorem AZ {l:List ByteArray} {f:FuncId} {cap:List V} (a:∀ v∈cap,Tree v):∀ v∈[encS l,.fn f [] cap],Tree v:=by
 intro v b;simp at b
 rcases b with rfl | rfl
 .exact BC l
 .exact GR (by simp) a
theorem Dh (l:List ByteArray) (c:aK l) (f:FuncId) (cap:List V) (a:∀ v∈cap,Tree v) (p:ByteArray->Bool) (d:∀ x∈l,az Tryz.prog f (gs x :: cap) (gb (p x))) (b:ed Tryz.prog f=true) :
  az Tryz.prog 156 [encS l,.fn f [] cap] (gb (l.any p)):=by
 refine az.val (AZ a) λH=>?_
 refine aw.of mixed kE ?_
 simp(disch:=omega)only[↓wr,seval,wq,gQ]
 refine ax.pure (az.val (AZ a) (IP l c f cap p d b)) ?_
 simp(disch:=omega)only[↓wr,seval,wq]
 rw[<-zG p l 0 (by omega)]
theorem Iq {l:List Value} : ∀ v∈l.map V.val,Tree v:=by
 intro v a;obtain⟨x,_,rfl⟩:=aaX.1 a;exact .val _
def AH:SF:=⟨ae [ab [bB 6 false],.region false [⟨none,[aa 7 0,aa 8 1,aQ 9 .geq 7 8,aa 10 9]⟩,⟨(some (10,true)),[aa 11 0,aa 12 2,aQ 13 .leq 11 12]⟩,⟨none,[eO 14 10 13,aa 6 14]⟩],.ret],
 [.tmp 6],15⟩
theorem FQ:aP Tryz.prog 154 []=some AH:=by kernel_rfl
def Hx:SF:=⟨ae [ab [aR 2 0],ab [aa 3 0,((some 4),.op (.arith .sub (.val (.val (.int .i64 (-1)))) (.tmp 3))),aa 2 4],.ret],
 [.tmp 2],5⟩
theorem Jy:aP Tryz.prog 194 []=some Hx:=by kernel_rfl
def IL:SF:=⟨ae [ab [cF 2 0,bB 4 false],ae [ab [aa 5 1,aF 6 .lss 5 0],bb 6 (ae [.region true [⟨none,[aa 7 1,bk 8 194 [7],ao 9 1 2,ak 10 9,aN 11 10,aQ 12 .lss 8 11,aa 4 12]⟩],.ret])],ab [aa 13 1,ao 14 0 2,ak 15 14,aN 16 15,aQ 17 .lss 13 16,aa 4 17],.ret],
 [.tmp 4],18⟩
theorem LU:aP Tryz.prog 130 [2]=some IL:=by kernel_rfl
def B6:SF:=⟨ae [ab [bB 4 false],.region false [⟨none,[aZ 5 4 1,aa 6 0,bk 7 130 [5,6],c9 8 7,aa 9 8]⟩,⟨(some (9,false)),[aa 10 0,aF 11 .geq 10 0,aa 12 11]⟩,⟨(some (12,true)),[ao 13 2 2,ak 14 13,aF 15 .eql 14 (-1)]⟩,⟨(some (9,false)),[eO 16 12 15]⟩,⟨none,[cy 17 9 16,aa 4 17]⟩],.ret],
 [.tmp 4],18⟩
theorem FA:aP Tryz.prog 225 []=some B6:=by kernel_rfl
def FO:SF:=⟨ae [ab [cF 2 0,cF 3 1,bB 4 false],ae [.region false [⟨none,[ao 5 1 3,ak 6 5,aN 7 6,aF 8 .gtr 7 6,aa 9 8]⟩,⟨(some (9,false)),[ao 10 2 3,ak 11 10,ao 12 0 2,ak 13 12,aN 14 13,aF 15 .sub 14 1,qw 16 154 [(.tmp 11),(.val (.val (.int .i64 (-1)))),(.tmp 15)],c9 17 16]⟩,⟨none,[cy 18 9 17]⟩],bb 18 (ae [ab [bB 4 false],.ret])],ab [ao 19 1 3,ak 20 19,((some 21),.op (.xl 225 [] [(.tmp 2),(.tmp 3)])),bk 22 90 [20,21],c9 23 22,aa 4 23],.ret],
 [.tmp 4],24⟩
theorem I0:aP Tryz.prog 159 [2,3]=some FO:=by kernel_rfl
theorem tM (a b c:Int):az Tryz.prog 154 [gi a,gi b,gi c] (gb (decide (b<=a) && decide (a<=c))):=by
 refine az.val (Iq (l:=[.int .i64 a,.int .i64 b,.int .i64 c])) λH=>?_
 refine aw.of mixed FQ ?_
 repeat' (first | ((first|apply aj.dec|apply aj.eq|apply aj.ne|apply aj.split)<;>intro)|(simp(disch:=omega)only[↓wr,seval,wq,AH]))
 all_goals simp[*]
theorem Xg (s:Int) (a:bM s):az Tryz.prog 194 [gi s] (gi (-1 - s)):=by
 refine az.val (Iq (l:=[.int .i64 s])) λH=>?_
 obtain⟨h1,b⟩:=a
 refine aw.of mixed Jy ?_
 repeat' (first | ((first|apply aj.dec|apply aj.eq|apply aj.ne|apply aj.split)<;>intro)|(simp(disch:=omega)only[↓wr,seval,wq,Hx]))
theorem Od (g:af) (s:Int) (a:bM s):az Tryz.prog 130 [.agg (ag g),gi s] (gb (dL g s)):=by
 refine az.val (Kn g s) λH=>?_
 refine aw.of mixed LU ?_
 repeat' (first | ((first|apply aj.dec|apply aj.eq|apply aj.ne|apply aj.split)<;>intro)|(refine ax.pure (Xg s a) ?_)|(simp(disch:=omega)only[↓wr,seval,wq,IL,ag,encS]))
 .rename_i h;simp[dL,show ¬ (0:Int)<=s by omega]
 .rename_i h;simp[dL,show (0:Int)<=s by omega]
theorem jX {cs:List V} {j:Nat} (h:∀ v∈cs,Tree v):Tree (.aL cs j):=by
 refine .aL _ _ λi hi=>?_
 have a:cs.getD i .any=cs[i]:=by simp[aaA,hi]
 rw[a];exact h _ (aaL _)
theorem Rq (g:af) (r:aX) (s:Int) (b:bM s):az Tryz.prog 225 [gi s,.aL (ag g) 0,.aL (bg r) 0] (gb (!ot g r.prec s)):=by
 refine az.val ?_ λH=>?_
 .intro v a;simp at a
  rcases a with rfl | rfl | rfl
  .exact .val _
  .exact jX (cd g)
  .exact jX (ja r)
 refine aw.of mixed FA ?_
 simp(disch:=omega)only[↓wr,seval,wq,B6,ag]
 refine ax.pure (Od g s b) ?_
 repeat' (first | ((first|apply aj.dec|apply aj.eq|apply aj.ne|apply aj.split)<;>intro)|(simp(disch:=omega)only[↓wr,seval,wq,bg]))
 all_goals simp[ot, *]
theorem VT (g:af) (r:aX) (e:g.Ok) (hr:aK r.right/\∀ x∈r.right,bM x):az Tryz.prog 159 [.agg (ag g),.agg (bg r)] (gb (js g r)):=by
 refine az.val (JL g r) λH=>?_
 have f:=e.ai
 unfold aK at f
 refine aw.of mixed I0 ?_
 repeat' (first | ((first|apply aj.dec|apply aj.eq|apply aj.ne|apply aj.split)<;>intro)|(refine ax.pure (tM _ _ _) ?_)|(simp(disch:=omega)only[↓wr,seval,wq,FO,ag,bg,encI,encS]))
 .rename_i h;simp[js,show ¬ r.right.length<=6 by omega]
 .rename_i h1 b
  have c:r.right.length<=6:=by omega
  have a : -1<=r.prec/\r.prec < g.ai.length:=by simp at b;omega
  refine ax.pure (ou r.right hr.1 225 [.aL (ag g) 0,.aL (bg r) 0] ?_ (λs=>!ot g r.prec s) (λx i=>Rq g r x (hr.2 x i)) (by kernel_rfl)) ?_
  .intro v d;simp at d
   rcases d with rfl | rfl
   .exact jX (cd g)
   .exact jX (ja r)
  simp(disch:=omega)only[↓wr,seval,wq]
  simp[js,c,a.1,a.2]
  rw[abD]
  simp
 .rename_i h1 b
  have c:¬ (-1<=r.prec/\r.prec < g.ai.length):=by simp at b;omega
  have:(decide (-1<=r.prec) && decide (r.prec < (g.ai.length:Int)))=false:=by
   rw[<-Bool.decide_and];simpa using c
  simp only[js,Bool.and_assoc]
  rw[<-Bool.and_assoc (decide (-1<=r.prec)),this];simp
theorem Ve (l:List Int) (f:l.getD 0 0=39):((od l).2 == 0 && (od l).1 == (l.length:Int))=ow l:=by
 match l,f with
 | [],h=>simp at h
 | [a],_=>rfl
 | [a,b],_ =>
  simp only[od,me,ow,aaN,aa8,acp,abE]
  repeat' split
  all_goals simp_all
 | [a,b,c],f =>
  have g:a=39:=by simpa using f
  subst g
  simp only[od,me,ow,B0,GB,aaN,aa8,acp,abE]
  repeat' split
  all_goals simp_all
  all_goals grind
 | [a,b,c,d],f =>
  have g:a=39:=by simpa using f
  subst g
  simp only[od,me,ow,B0,GB,aaN,aa8,acp,abE]
  repeat' split
  all_goals simp_all
  all_goals grind
 | a :: b :: c :: d :: e :: r,f =>
  simp only[od,me,ow,B0,GB,aaN,acp,abE]
  repeat' split
  all_goals simp_all
  all_goals (try omega)
  all_goals grind
theorem PO {c:Int} {l:List Int} (h:¬ c=39):ow (c :: l)=false:=by
 match l with
 | []=>rfl
 | [_]=>rfl
 | [_,_]=>simp[ow,h]
 | [_,_,_]=>simp[ow,h]
 | _ :: _ :: _ :: _ :: _=>rfl
theorem Rz (s:ByteArray):az Tryz.prog 267 [gs s] (gb (ow (gp s))):=by
 refine az.val (rP s) λH=>?_
 refine aw.of mixed Dv ?_
 have f:=λd (k:d∈gp s)=>Is (s:=s) (c:=d) k
 have j:az Tryz.prog 287 [.aU (iu s)] (.bf [gi (od (gp s)).1,gi (od (gp s)).2]):=by
  rw[TD]
  refine az.of ?_ ((OL (gp s) f _).mono λr H' h m _=>by rw[h];exact .tree _ (.bf _ λi hi=>by
   match i,hi with
   | 0,_=>exact .val _
   | 1,_=>exact .val _))
  intro v a;simp at a;subst a
  exact ew _ _ λx _ v a=>by simp at a;subst a;exact .val _
 cases e:gp s with
 | nil =>
  repeat' (first | ((first|apply aj.dec|apply aj.eq|apply aj.ne|apply aj.split)<;>intro)|(simp(disch:=omega)only[↓wr,seval,wq,tB,fF,AF,e]))
  rfl
 | cons c l =>
  have b:=Ve (gp s)
  rw[e] at j b
  repeat' (first | ((first|apply aj.dec|apply aj.eq|apply aj.ne|apply aj.split)<;>intro)|(simp(disch:=omega)only[↓wr,seval,wq,tB,fF,AF,e,aa5]))
  .rename_i h
   rw[PO h]
  .rename_i h
   refine ax.pure j ?_
   have b:=b (by simpa using h)
   repeat' (first | ((first|apply aj.dec|apply aj.eq|apply aj.ne|apply aj.split)<;>intro)|(simp(disch:=omega)only[↓wr,seval,wq,fF,e]))
   .rename_i g
    rw[<-b];simp[g]
   .rename_i g
    rw[<-b];simp[g]
theorem RO (s:ByteArray):az Tryz.prog 217 [gs s] (gb (sN (gp s))):=by
 refine az.val (rP s) λH=>?_
 refine aw.of mixed GW ?_
 repeat' (first | ((first|apply aj.dec|apply aj.eq|apply aj.ne|apply aj.split)<;>intro)|(refine ax.pure (KT s) ?_)|(refine ax.pure (Rz s) ?_)|(simp(disch:=omega)only[↓wr,seval,wq,CK]))
 all_goals simp[sN, *]
theorem P3 (s:ByteArray):az Tryz.prog 157 [gs s] (gb (!gZ (gp s))):=by
 refine az.val (rP s) λH=>?_
 refine aw.of mixed DW ?_
 repeat' (first | ((first|apply aj.dec|apply aj.eq|apply aj.ne|apply aj.split)<;>intro)|(refine ax.pure (KT s) ?_)|(simp(disch:=omega)only[↓wr,seval,wq,Ac]))
def yw:SC :=
 ae [ab [aQ 12 .lss 11 10],bX 12 (.exit 0),.block 1 (ae [.region false [⟨none,[aO 13 3 9 11,aZ 14 3 13,((some 6),.op (.alloc [(.val (.string ⟨#[]⟩)),(.val (.int .i64 0)),(.val (.int .i64 0))])),cD 3 6 14]⟩],ae [ab [ao 15 1 6,ak 16 15,aF 17 .eql 16 0],bb 17 (.exit 1)],ae [ab [aa 18 3,ao 19 1 6,ak 20 19,((some 21),.op (.old (.lookup 265 (.tmp 18) (.tmp 20) false) 3)),aa 7 21],.region false [⟨none,[aa 22 7,aF 23 .neq 22 0,aa 24 23]⟩,⟨(some (24,true)),[aa 25 7,ao 26 2 6,ak 27 26,aQ 28 .neq 25 27]⟩,⟨none,[eO 29 24 28]⟩],bb 29 (ae [ab [bB 2 false],.ret])],ab [aa 30 3,ao 31 1 6,ak 32 31,ao 33 2 6,ak 34 33,(none,.op (.old (.mapUpdate 265 (.tmp 30) (.tmp 32) (.tmp 34)) 0))],ab [aa 35 4,ao 36 1 6,ak 37 36,((some 38),.op (.mm true (.tmp 35) (.tmp 37))),aa 4 38]]),ab [aF 39 .add 11 1,aa 11 39]]
def BJ:SF:=⟨ae [ab [bB 2 false],ab [((some 8),.op (.rY)),aa 3 8],ab [aR 4 0],ae [ab [aa 9 0,aN 10 9,aR 11 0],bZ 0 yw],ab [aa 40 3,((some 41),.op (.old (.call { callee:=.builtin .len,args:=#[(.tmp 40)],argTypes:=#[265] }) 3)),aa 42 4,aQ 43 .eql 41 42,aa 2 43],.ret],
 [.tmp 2],44⟩
theorem Er:aP Tryz.prog 218 []=some BJ:=by kernel_rfl
def z6:SC :=
 ae [ab [aQ 8 .lss 7 6],bX 8 (.exit 0),.block 1 (ae [.region false [⟨none,[aO 9 3 5 7,aZ 10 3 9,((some 4),.op (.alloc [(.val (.string ⟨#[]⟩)),(.val (.int .i64 0)),(.val (.int .i64 0))])),cD 3 4 10]⟩],.region false [⟨none,[ao 11 0 4,ak 12 11,bk 13 217 [12],c9 14 13,aa 15 14]⟩,⟨(some (15,false)),[ao 16 1 4,ak 17 16,qw 18 154 [(.tmp 17),(.val (.val (.int .i64 0))),(.val (.val (.int .i64 24)))],c9 19 18]⟩,⟨none,[cy 20 15 19,aa 21 20]⟩,⟨(some (21,false)),[ao 22 2 4,ak 23 22,qw 24 154 [(.tmp 23),(.val (.val (.int .i64 0))),(.val (.val (.int .i64 3)))],c9 25 24]⟩,⟨none,[cy 26 21 25,aa 27 26]⟩,⟨(some (27,false)),[ao 28 1 4,ak 29 28,aF 30 .eql 29 0,ao 31 2 4,ak 32 31,aF 33 .eql 32 0,((some 34),.op (.beq false (.tmp 30) (.tmp 33)))]⟩,⟨none,[cy 35 27 34]⟩],bb 35 (ae [ab [bB 2 false],.ret])]),ab [aF 36 .add 7 1,aa 7 36]]
def CG:SF:=⟨ae [ab [bB 2 false],ae [ab [aa 5 0,aN 6 5,aR 7 0],bZ 0 z6],.region false [⟨none,[aa 37 0,aN 38 37,aF 39 .leq 38 24,aa 40 39]⟩,⟨(some (40,true)),[aa 41 0,bk 42 218 [41]]⟩,⟨none,[eO 43 40 42,aa 2 43]⟩],.ret],
 [.tmp 2],44⟩
theorem GN:aP Tryz.prog 153 []=some CG:=by kernel_rfl
def Ag:SC :=
 ae [ab [aQ 16 .lss 15 14],bX 16 (.exit 0),.block 1 (ae [.region false [⟨none,[aO 17 3 13 15,aZ 18 3 17,((some 5),.op (.alloc [(.val (.string ⟨#[]⟩)),(.val (.int .i64 0)),(.val (.int .i64 0))])),cD 3 5 18]⟩],.region false [⟨none,[aa 19 3,ao 20 0 5,ak 21 20,((some 22),.op (.bJ 1 1 [(.val (.string ⟨#[]⟩))] [(0,(.tmp 21))])),fD 23 1 16 19 22,aa 3 23]⟩]]),ab [aF 24 .add 15 1,aa 15 24]]
def Al:SC :=
 ae [ab [aQ 65 .lss 64 63],bX 65 (.exit 2),.block 3 (ae [ab [aO 66 3 62 64,aZ 67 3 66,((some 8),.op (.alloc [(.val (.int .i64 0)),(.emp 1),(.val (.int .i64 0))])),cD 3 8 67],ae [.region false [⟨none,[ao 68 0 8,ak 69 68,aa 70 6,qw 71 154 [(.tmp 69),(.val (.val (.int .i64 0))),(.tmp 70)],c9 72 71,aa 73 72]⟩,⟨(some (73,false)),[aZ 74 4 1,aZ 75 3 8,bk 76 159 [74,75],c9 77 76]⟩,⟨none,[cy 78 73 77]⟩],bb 78 (ae [ab [bB 2 false],.ret])],ab [aa 79 6,ao 80 0 8,ak 81 80,aF 82 .add 81 1,((some 83),.op (.mm true (.tmp 79) (.tmp 82))),aa 6 83]]),ab [aF 84 .add 64 1,aa 64 84]]
def CY:SF:=⟨ae [ab [cF 1 0,bB 2 false],ab [ao 9 1 1,ak 10 9,bk 11 152 [10],aa 3 11],ae [ab [ao 12 0 1,ak 13 12,aN 14 13,aR 15 0],bZ 0 Ag],ae [.region false [⟨none,[ao 25 0 1,ak 26 25,bk 27 153 [26],c9 28 27,aa 29 28]⟩,⟨(some (29,false)),[ao 30 1 1,ak 31 30,aN 32 31,qw 33 154 [(.tmp 32),(.val (.val (.int .i64 1))),(.val (.val (.int .i64 16)))],c9 34 33]⟩,⟨none,[cy 35 29 34,aa 36 35]⟩,⟨(some (36,false)),[ao 37 2 1,ak 38 37,aN 39 38,qw 40 154 [(.tmp 39),(.val (.val (.int .i64 1))),(.val (.val (.int .i64 40)))],c9 41 40]⟩,⟨none,[cy 42 36 41,aa 43 42]⟩,⟨(some (43,false)),[aa 44 3,bk 45 155 [44],c9 46 45]⟩,⟨none,[cy 47 43 46,aa 48 47]⟩,⟨(some (48,false)),[ao 49 3 1,ak 50 49,ao 51 1 1,ak 52 51,aN 53 52,aF 54 .sub 53 1,qw 55 154 [(.tmp 50),(.val (.val (.int .i64 0))),(.tmp 54)],c9 56 55]⟩,⟨none,[cy 57 48 56]⟩],bb 57 (ae [ab [bB 2 false],.ret])],ae [ab [ao 58 1 1,ak 59 58,qw 60 156 [(.tmp 59),(.val (.fn 157 [] []))]],bb 60 (ae [ab [bB 2 false],.ret])],ab [aR 6 0],ae [ab [ao 61 2 1,ak 62 61,aN 63 62,aR 64 0],bZ 2 Al],ab [aa 85 6,ao 86 1 1,ak 87 86,aN 88 87,aQ 89 .eql 85 88,aa 2 89],.ret],
 [.tmp 2],90⟩
theorem Gq:aP Tryz.prog 89 [1]=some CY:=by kernel_rfl
def fv (l:List Term):V:=.aU (l.map dg)
theorem Es (l:List Term):∀ v∈[fv l],Tree v:=by intro v a;simp at a;subst a;exact ew _ _ λx _=>vK x
def oy:List Term->List (Int × Int)->Int->Option (List (Int × Int) × Int)
 | [],a,top=>some (a,top)
 | t :: r,a,top=>if t.level=0 then oy r a top else
  if (fe a t.level).getD 0≠0/\(fe a t.level).getD 0≠t.assoc then none else oy r (lB t.level t.assoc a) (if t.level > top then t.level else top)
def um (l:List Term):Bool:=match oy l [] 0 with
 | some (a,top)=>(a.length:Int) == top
 | none=>false
theorem Qa (l:List Term) (E:aK l):az Tryz.prog 218 [fv l] (gb (um l)):=by
 refine az.val (Es l) λH=>?_
 refine aw.of mixed Er ?_
 unfold aK at E
 simp(disch:=omega)only[↓wr,seval,wq,BJ,fv]
 intro q s
 try simp(disch:=omega)only[↓wr,seval,wq]
 refine ba.up l.length (λi T H=>(∃ a m c top,H q=.map (cO (Value.int .i64) m) c/\qc gi a m/\T 4=gi top/\oy (l.drop i) a top=oy l [] 0)/\T 0=fv l/\T 3=.mp q/\T 9=fv l/\T 10=gi l.length/\T 11=gi i) ?_ ?_
 .refine⟨⟨[],[],0,0,?_,trivial,rfl,rfl⟩,rfl,rfl,rfl,rfl,rfl⟩
  simp[View.set,cO]
 rintro i k T H hk ⟨⟨a,m,c,top,s,hm,o,hi⟩,j,f,n,d,g⟩
 simp(disch:=omega)only[↓wr,seval,wq,yw,j,f,o,n,d,g,fv]
 apply aj.dec<;>intro F
 .have B:l[i]?=some (l[i]'(by omega)):=aaB (by omega)
  rw[fq (show i < l.length by omega)] at hi
  generalize l[i]'(by omega)=t at B hi
  simp only[oy] at hi
  simp(disch:=omega)only[↓wr,seval,wq,j,f,o,n,d,g,fv,dg,aaE,B]
  intro b C
  have h:b≠q:=by rintro rfl;rw[s] at C;simp at C
  try simp(disch:=omega)only[↓wr,seval,wq]
  apply aj.eq<;>intro w
  .rw[aaF w] at hi
   simp(disch:=omega)only[↓wr,seval,wq,j,f,o,n,d,g]
   refine aG hk (by omega) ⟨⟨a,m,c,top,?_,hm,o,hi⟩,j,f,n,d,rfl⟩
   simp[View.set,h.symm,s]
  .rw[aaD w] at hi
   simp(disch:=omega)only[↓wr,seval,wq,j,f,o,n,d,g]
   refine Cd (kt:=3) (et:=3) (z:=gi 0) (by kernel_rfl) (by kernel_rfl) (my .i64 Tryz.underlying3) (id:=q) (c:=c) (m:=m) (k:=t.level) (by simp(disch:=omega)only[↓wr,seval,wq,f]) (by simp(disch:=omega)only[↓wr,seval,wq,f]) (by simp[View.set,h.symm,s]) ?_
   have x:(getM m t.level).getD (gi 0)=gi ((fe a t.level).getD 0):=by
    rw[hm.get];cases fe a t.level <;> rfl
   have p:∀ (y:View) (u:Nat) (r:Env),(¬ ((fe a t.level).getD 0≠0/\(fe a t.level).getD 0≠t.assoc)) ->
     y q=.map (cO (Value.int .i64) (bV t.level (gi t.assoc) c m)) u->r 0=fv l->r 3=.mp q->r 4=gi (if t.level > top then t.level else top)->r 9=fv l->r 10=gi l.length->r 11=gi ((i:Int)+1) ->
     ∃ D,D < k/\EY l.length D (λi T H=>(∃ a m c top,H q=.map (cO (Value.int .i64) m) c/\qc gi a m/\T 4=gi top/\oy (l.drop i) a top=oy l [] 0)/\T 0=fv l/\T 3=.mp q/\T 9=fv l/\T 10=gi l.length/\T 11=gi i) r y:=by
    intro y u r G g1 g2 g3 g4 g5 g6 g7
    rw[aaD G] at hi
    exact aG hk (by omega) ⟨⟨_,_,u,_,g1,hm.put t.level t.assoc c,g4,hi⟩,g2,g3,g5,g6,by rw[g7];rfl⟩
   repeat' (first | ((first|apply aj.dec|apply aj.eq|apply aj.ne|apply aj.split)<;>intro)|(simp(disch:=omega)only[↓wr,seval,wq,j,f,o,n,d,g,x]))
   .rename_i n1 A
    rw[aaF ⟨n1,A⟩] at hi
    simp only[um,<-hi]
   .rename_i n1 A
    refine yj (kt:=3) (et:=3) (by kernel_rfl) (my .i64 Tryz.underlying3) (id:=q) (c:=c) (m:=m) (k:=t.level) (v:=gi t.assoc) (by simp(disch:=omega)only[↓wr,seval,wq,f]) (by simp(disch:=omega)only[↓wr,seval,wq,f]) (by simp(disch:=omega)only[↓wr,seval,wq,f]) (by simp[View.set,h.symm,s]) ?_
    intro u
    simp(disch:=omega)only[↓wr,seval,wq,j,f,o,n,d,g,h]
    exact p _ u _ (λe=>e.2 A) (by simp[View.set]) j f rfl n d rfl
   .rename_i n1
    refine yj (kt:=3) (et:=3) (by kernel_rfl) (my .i64 Tryz.underlying3) (id:=q) (c:=c) (m:=m) (k:=t.level) (v:=gi t.assoc) (by simp(disch:=omega)only[↓wr,seval,wq,f]) (by simp(disch:=omega)only[↓wr,seval,wq,f]) (by simp(disch:=omega)only[↓wr,seval,wq,f]) (by simp[View.set,h.symm,s]) ?_
    intro u
    simp(disch:=omega)only[↓wr,seval,wq,j,f,o,n,d,g,h]
    exact p _ u _ (λe=>e.1 n1) (by simp[View.set]) j f rfl n d rfl
 .rw[aa7 (by omega)] at hi
  simp only[oy] at hi
  simp(disch:=omega)only[↓wr,seval,wq,j,f,o,n,d,g]
  refine Yy (kt:=3) (et:=3) (by kernel_rfl) (id:=q) (c:=c) (m:=m) (by simp(disch:=omega)only[↓wr,seval,wq,f]) s ?_
  simp(disch:=omega)only[↓wr,seval,wq,j,f,o,n,d,g,hm.len]
  simp only[um,<-hi]
def mO (t:Term):Bool:=sN (gp t.name) && decide (0<=t.level) && decide (t.level<=24) && decide (0<=t.assoc) && decide (t.assoc<=3) && ((t.level == 0) == (t.assoc == 0))
def uW (l:List Term):Bool:=l.all mO && decide (l.length<=24) && um l
theorem T8 (l:List Term) (p:aK l):az Tryz.prog 153 [fv l] (gb (uW l)):=by
 refine az.val (Es l) λH=>?_
 refine aw.of mixed GN ?_
 have j:=p
 unfold aK at p
 simp(disch:=omega)only[↓wr,seval,wq,CG,fv]
 refine ba.up l.length (λi T H=>(l.drop i).all mO=l.all mO/\T 0=fv l/\T 5=fv l/\T 6=gi l.length/\T 7=gi i) ?_ ?_
 .exact⟨rfl,rfl,rfl,rfl,rfl⟩
 rintro i k T H hk ⟨hi,c,d,f,g⟩
 simp(disch:=omega)only[↓wr,seval,wq,z6,c,d,f,g,fv]
 apply aj.dec<;>intro r
 .have q:l[i]?=some (l[i]'(by omega)):=aaB (by omega)
  rw[fq (show i < l.length by omega)] at hi
  generalize l[i]'(by omega)=t at q hi
  rw[abQ] at hi
  have a:mO t=false->gb false=gb (uW l):=λe=>by rw[e,ab2] at hi;simp[uW,<-hi]
  simp(disch:=omega)only[↓wr,seval,wq,c,d,f,g,fv,dg,aaE,q]
  intro b v
  repeat' (first | ((first|apply aj.dec|apply aj.eq|apply aj.ne|apply aj.split)<;>intro)|(refine ax.pure (RO t.name) ?_)|(refine ax.pure (tM _ _ _) ?_)|(simp(disch:=omega)only[↓wr,seval,wq,c,d,f,g,fv]))
  all_goals first
   | (refine a ?_;simp[mO, *];done)
   | (refine a ?_;simp_all [mO];done)
   | skip
  rename_i s m n u
  refine aG hk (by omega) ⟨?_,c,d,f,rfl⟩
  have:mO t=true:=by
   simp only[aaK,aaP] at m n
   have o:((t.level == 0) == (t.assoc == 0))=true:=by simpa [bne] using u
   simp[mO,s,m.1,m.2,n.1,n.2,o]
  rw[this,abM] at hi
  exact hi
 .rw[aa7 (by omega),List.all_nil] at hi
  simp(disch:=omega)only[↓wr,seval,wq,c,d,f,g,fv]
  repeat' (first | ((first|apply aj.dec|apply aj.eq|apply aj.ne|apply aj.split)<;>intro)|(refine ax.pure (Qa l j) ?_)|(simp(disch:=omega)only[↓wr,seval,wq,c,d,f,g,fv]))
  .rename_i h
   simp[uW,<-hi,show l.length<=24 by omega]
  .rename_i h
   simp[uW,<-hi,show ¬ l.length<=24 by omega]
open Go Go.Proofs Go.Shelf Go.RowKit Go.Sort
attribute [local go_sem] Oper.semAt_some
def ln:Ren where
 f:=fun
  | 6=>219
  | 8=>268
  | 9=>269
  | 11=>288
  | 13=>246
  | 12=>289
  | 23=>282
  | 24=>283
  | 14=>298
  | 15=>299
  | 16=>300
  | 17=>301
  | 18=>302
  | 19=>303
  | 20=>304
  | 21=>305
  | 22=>306
  | 25=>308
  | 26=>292
  | 27=>293
  | 28=>309
  | 29=>310
  | 30=>311
  | 31=>312
  | n=>n
 t:=fun
  | 26=>9
  | 28=>319
  | 24=>23
  | 0=>0
  | 3=>3
  | 37=>276
  | 48=>50
  | 50=>49
  | 4=>4
  | 40=>356
  | 39=>355
  | 45=>66
  | 5=>5
  | 9=>9
  | 51=>369
  | 55=>373
  | 57=>381
  | 58=>382
  | 33=>262
  | n=>n
 g:=λn=>n
theorem W4:Go.Proofs.SlLaysZ.n6 Tryz.prog ln where
 mixed:=by kernel_rfl
 f6:=⟨Tryz.f219.name,by kernel_rfl,by kernel_rfl⟩
 f8:=⟨Tryz.f268.name,by kernel_rfl,by kernel_rfl⟩
 f11:=⟨Tryz.f288.name,by kernel_rfl,by kernel_rfl⟩
 t0:=Tryz.underlying0
 a0:=Tryz.isAgg0
 z0:=Tryz.sizeOf0
 v0:=Tryz.zeroValue0
 t24:=Tryz.underlying23
 a24:=Tryz.isAgg23
 z24:=Tryz.sizeOf23
 v24:=Tryz.zeroValue23
 t26:=Tryz.underlying9
 a26:=Tryz.isAgg9
 z26:=Tryz.sizeOf9
 v26:=Tryz.zeroValue9
 t28:=Tryz.underlying319
 a28:=Tryz.isAgg319
 z28:=Tryz.sizeOf319
 v28:=Tryz.zeroValue319
 i26:=by kernel_rfl
def Sd:Ren where
 f:=fun
  | 6=>269
  | 8=>246
  | 9=>289
  | 19=>282
  | 20=>283
  | 21=>298
  | 22=>299
  | 23=>300
  | 24=>301
  | 25=>302
  | 26=>303
  | 27=>304
  | 28=>305
  | 29=>306
  | 36=>308
  | 31=>292
  | 32=>293
  | 37=>309
  | 38=>310
  | 39=>311
  | 41=>312
  | n=>n
 t:=fun
  | 27=>23
  | 29=>9
  | 3=>3
  | 32=>276
  | 26=>23
  | 0=>0
  | 44=>50
  | 46=>49
  | 4=>4
  | 36=>356
  | 35=>355
  | 41=>66
  | 5=>5
  | 9=>9
  | 53=>369
  | 57=>373
  | 63=>381
  | 64=>382
  | n=>n
 g:=λn=>n
theorem Ws:Go.Proofs.SlLaysM.n6 Tryz.prog Sd where
 mixed:=by kernel_rfl
 f6:=⟨Tryz.f269.name,by kernel_rfl,by kernel_rfl⟩
 f8:=by kernel_rfl
 f9:=⟨Tryz.f289.name,by kernel_rfl,by kernel_rfl⟩
 f19:=by kernel_rfl
 f20:=by kernel_rfl
 f21:=⟨Tryz.f298.name,by kernel_rfl,by kernel_rfl⟩
 f22:=⟨Tryz.f299.name,by kernel_rfl,by kernel_rfl⟩
 f23:=⟨Tryz.f300.name,by kernel_rfl,by kernel_rfl⟩
 f24:=⟨Tryz.f301.name,by kernel_rfl,by kernel_rfl⟩
 f25:=⟨Tryz.f302.name,by kernel_rfl,by kernel_rfl⟩
 f26:=⟨Tryz.f303.name,by kernel_rfl,by kernel_rfl⟩
 f27:=⟨Tryz.f304.name,by kernel_rfl,by kernel_rfl⟩
 f28:=⟨Tryz.f305.name,by kernel_rfl,by kernel_rfl⟩
 f29:=⟨Tryz.f306.name,by kernel_rfl,by kernel_rfl⟩
 f31:=by kernel_rfl
 f32:=by kernel_rfl
 f36:=⟨Tryz.f308.name,by kernel_rfl,by kernel_rfl⟩
 f37:=⟨Tryz.f309.name,by kernel_rfl,by kernel_rfl⟩
 f38:=⟨Tryz.f310.name,by kernel_rfl,by kernel_rfl⟩
 f39:=⟨Tryz.f311.name,by kernel_rfl,by kernel_rfl⟩
 f41:=⟨Tryz.f312.name,by kernel_rfl,by kernel_rfl⟩
 t0:=Tryz.underlying0
 a0:=Tryz.isAgg0
 z0:=Tryz.sizeOf0
 v0:=Tryz.zeroValue0
 t3:=Tryz.underlying3
 a3:=Tryz.isAgg3
 z3:=Tryz.sizeOf3
 v3:=Tryz.zeroValue3
 t4:=Tryz.underlying4
 a4:=Tryz.isAgg4
 z4:=Tryz.sizeOf4
 v4:=Tryz.zeroValue4
 t5:=Tryz.underlying5
 a5:=Tryz.isAgg5
 z5:=Tryz.sizeOf5
 v5:=Tryz.zeroValue5
 t9:=Tryz.underlying9
 a9:=Tryz.isAgg9
 z9:=Tryz.sizeOf9
 v9:=Tryz.zeroValue9
 t26:=Tryz.underlying23
 a26:=Tryz.isAgg23
 z26:=Tryz.sizeOf23
 v26:=Tryz.zeroValue23
 t27:=Tryz.underlying23
 a27:=Tryz.isAgg23
 z27:=Tryz.sizeOf23
 v27:=Tryz.zeroValue23
 t29:=Tryz.underlying9
 a29:=Tryz.isAgg9
 z29:=Tryz.sizeOf9
 v29:=Tryz.zeroValue9
 t32:=Tryz.underlying276
 a32:=Tryz.isAgg276
 z32:=Tryz.sizeOf276
 v32:=Tryz.zeroValue276
 t35:=Tryz.underlying355
 a35:=Tryz.isAgg355
 z35:=Tryz.sizeOf355
 v35:=Tryz.zeroValue355
 t36:=Tryz.underlying356
 a36:=Tryz.isAgg356
 z36:=Tryz.sizeOf356
 v36:=Tryz.zeroValue356
 t41:=Tryz.underlying66
 a41:=Tryz.isAgg66
 z41:=Tryz.sizeOf66
 v41:=Tryz.zeroValue66
 t44:=Tryz.underlying50
 a44:=Tryz.isAgg50
 z44:=Tryz.sizeOf50
 v44:=Tryz.zeroValue50
 t46:=Tryz.underlying49
 a46:=Tryz.isAgg49
 z46:=Tryz.sizeOf49
 v46:=Tryz.zeroValue49
 t53:=Tryz.underlying369
 a53:=Tryz.isAgg369
 z53:=Tryz.sizeOf369
 v53:=Tryz.zeroValue369
 t57:=Tryz.underlying373
 a57:=Tryz.isAgg373
 z57:=Tryz.sizeOf373
 v57:=Tryz.zeroValue373
 t63:=Tryz.underlying381
 a63:=Tryz.isAgg381
 z63:=Tryz.sizeOf381
 v63:=Tryz.zeroValue381
 t64:=Tryz.underlying382
 a64:=Tryz.isAgg382
 z64:=Tryz.sizeOf382
 v64:=Tryz.zeroValue382
def RW:Ren where
 f:=fun
  | 44=>221
  | n=>n
 t:=fun
  | 25=>23
  | 26=>9
  | 3=>3
  | 4=>4
  | 0=>0
  | n=>n
 g:=λn=>n
theorem Wk:Go.Proofs.SlLaysN.n44 Tryz.prog RW where
 mixed:=by kernel_rfl
 f44:=⟨Tryz.f221.name,by kernel_rfl,by kernel_rfl⟩
 t0:=Tryz.underlying0
 a0:=Tryz.isAgg0
 z0:=Tryz.sizeOf0
 v0:=Tryz.zeroValue0
 t3:=Tryz.underlying3
 a3:=Tryz.isAgg3
 z3:=Tryz.sizeOf3
 v3:=Tryz.zeroValue3
 t4:=Tryz.underlying4
 a4:=Tryz.isAgg4
 z4:=Tryz.sizeOf4
 v4:=Tryz.zeroValue4
 t25:=Tryz.underlying23
 a25:=Tryz.isAgg23
 z25:=Tryz.sizeOf23
 v25:=Tryz.zeroValue23
 t26:=Tryz.underlying9
 a26:=Tryz.isAgg9
 z26:=Tryz.sizeOf9
 v26:=Tryz.zeroValue9
 i26:=by kernel_rfl
def E2 (n:Nat) (P:Program) (g:Nat) (lb:Array Value) (S:List (List UInt8)->Prop) (N:Nat) (w:World):Prop :=
 ∀ (l:Nat) (J:List (List UInt8)->World->Prop) (W:World),(∀ pre W',J pre W'->Below w.heap.size w W') ->
  (∀ pre x W1,J pre W1->pre.length < N->YieldAt Fence.wide (n - 1) P l #[encStr x] W1 λe W'=>e=.returned (.bool true)/\J (pre ++ [x]) W'/\KeepsWalks W1 W') ->
  J [] W->CallsIn Fence.wide n P g (#[.func (.yield l) #[] #[]] ++ lb) W λe W'=>(∃ v,e=.returned v)/\∃ xs,S xs/\J xs W'
theorem QA {a:List (List UInt8)} {k:Nat} (h:k < a.length):a.take k ++ [a.getD k []]=a.take (k+1):=by
 rw[aa3];simp[aaA,h]
theorem Pu (n:Nat) (hn:1<=n) (Bs b off cap:Nat) (zs:List (List UInt8)) (hreach:zs.length * 16<=140737488351232) (w:World)
  (hBs:w.cell? ⟨Bs,0,none⟩=some (.slice (some ⟨b,off,none⟩) zs.length cap)) (hBl:Bs < w.heap.size) (hbl:b < w.heap.size)
  (hc:∀ j,j < zs.length->w.cell? ⟨b,off+j,none⟩=some (encStr (zs.getD j []))) :
  E2 n Tryz.prog 270 #[.pointer (some ⟨Bs,0,none⟩)] (λxs=>xs=zs) zs.length w:=by
 intro l J W hJ hY h0
 have hbw:=hJ _ _ h0
 have hBs':=(hbw.cell (p:=⟨Bs,0,none⟩) hBl).trans hBs
 have hf:Fence.wide.fn 270:=trivial
 refine callsIn_of_wp Tryz.func270 rfl hf ?_ rfl
 simp only[Tryz.ntmps270,ab8,aaN,aa8,Nat.reduceAdd,Nat.reduceSub,aci,acj,acE,acq,abG,abk]
 gi_wp2
 gi_loopw [7] (λi wr=>∃ k:Nat,k<=zs.length/\i=.int .i64 k/\J (zs.take k) wr) (λi _=>zs.length - (RowKit.intOf i).toNat)
 case atStart=>exact⟨0,ab5 _,rfl,by simpa using h0⟩
 case round =>
  obtain⟨k,hk,rfl,hJs⟩:=hrel
  have hnx:=hJ _ _ hJs
  have hcx:k < zs.length->wr.cell? ⟨b,off+k,none⟩=some (encStr (zs.getD k [])):=λh=>(hnx.cell (p:=⟨b,off+k,none⟩) hbl).trans (hc k h)
  by_cases hlt:k < zs.length
  .obtain⟨x,hx1,hcx'⟩:∃ x,zs.take k ++ [x]=zs.take (k+1)/\wr.cell? ⟨b,off+k,none⟩=some (encStr x):=⟨_,QA hlt,hcx hlt⟩
   obtain⟨fn,tmps,assign,body,hy,hR⟩:=hY _ x wr hJs (by simp;omega)
   clear hcx hJs
   gi_wp2
   refine hR.mono ?_
   rintro e W3 ⟨rfl,hJ3,hk3⟩
   gi_wp2
   go_roundw
   case rel=>exact⟨k+1,by omega,by simp,by rw[<-hx1];exact hJ3⟩
   case measure=>simp[RowKit.intOf];omega
  .obtain rfl:k=zs.length:=by omega
   clear hcx
   gi_wp2
   go_end0
   exact⟨⟨_,rfl⟩,_,rfl,by simpa using hJs⟩
theorem J7 (n:Nat) (hn:2<=n) (g:Nat) (lb:Array Value) (eg:∀ args w,(callFunc g args).run Tryz.prog w=.ok (.enter g args) w)
  (S:List (List UInt8)->Prop) (N:Nat) (hN:N<=maxLen) (hNb:N * 16<=140737488355328) (w:World) (hseq:E2 (n - 1) Tryz.prog g lb S N w) :
  CallsIn Fence.wide n Tryz.prog 288 #[.slice none 0 0,.func (.func g) #[] lb] w λe w'=>∃ (v:Value) (ss:List (List UInt8)),e=.returned v/\S ss/\w'.ownsRow w.heap.size 9 1 v ss.length (ss.map encStr)/\Below w.heap.size w w':=by
 have h11:Fence.wide.fn 288:=trivial
 refine callsIn_of_wp_marks Tryz.func288 rfl h11 ?_ rfl
 simp only[Tryz.ntmps288,ab8,aaN,aa8,Nat.reduceAdd,Nat.reduceSub,aci,acj,acE,acq,abG,abk]
 gi_wp2
 refine wpIn_rangeFunc ?_
 intro fn hfn
 let sv:Value:=.func (.func g) #[] lb
 have hz:(w.alloc (.cells #[.slice none 0 0] 23)).heap.size=w.heap.size+1:=by simp
 have hv0:=World.alloc_heap_new w (.cells #[.slice none 0 0] 23)
 have hb0:Below w.heap.size w (w.alloc (.cells #[.slice none 0 0] 23)):=(Below.refl _ w).alloc (aaM _) _
 revert hz hv0 hb0
 generalize w.alloc (.cells #[.slice none 0 0] 23)=W0
 intro hz hv0 hb0
 obtain⟨W1,hW1⟩:∃ W1,(W0.alloc (.deferred (some []))).alloc (.loop (AnyZ.apRec ln fn sv w.heap.size W0.heap.size .ready none))=W1:=⟨_,rfl⟩
 have hold:∀ k,k < W0.heap.size->W1.heap[k]?=W0.heap[k]?:=λk hk=>by
  rw[<-hW1];exact(Below.heap_alloc _ _ k (by simp;omega)).trans (Below.heap_alloc _ _ k hk)
 have hb1:Below w.heap.size w W1:=by rw[<-hW1];exact(hb0.alloc (by omega) _).alloc (by simp;omega) _
 have hM:AnyZ.ApAt ln w fn sv w.heap.size (W0.heap.size+1) W0.heap.size [] W1:=by
  refine⟨⟨_,(hold w.heap.size (by omega)).trans hv0,⟨rfl,.inl ⟨rfl,rfl⟩⟩,by simp⟩,?_,?_,hb1⟩
  .rw[<-hW1]
   have h:=World.alloc_heap_new (W0.alloc (.deferred (some []))) (.loop (AnyZ.apRec ln fn sv w.heap.size W0.heap.size .ready none))
   rwa [World.size_alloc] at h
  .rw[<-hW1];exact(Below.heap_alloc _ _ _ (by simp)).trans (World.alloc_heap_new W0 _)
 refine⟨W0.heap.size+1,[{ target:=.collected W0.heap.size,args:=#[] }],W1,{ target:=.fn (.func g) lb,args:=#[.func (.yield (W0.heap.size+1)) #[] #[]] },W1,g,
  #[.func (.yield (W0.heap.size+1)) #[] #[]] ++ lb,W1,by rw[<-hW1];exact run_enterLoop_outer _ _ _ _ _,?_,?_,?_,λ_=>by omega,?_⟩
 .simp[resolve,go_sem]
 .intro f' hf';trivial
 .simp[invoke,go_sem,eg]
 .refine(hseq (W0.heap.size+1) (AnyZ.ApAt ln w fn sv w.heap.size (W0.heap.size+1) W0.heap.size) W1 (λ_ _ h=>h.below)
   (λpre x W hJ hl=>AnyZ.apYield { W4 with } Fence.wide (n - 1 - 1) w fn hfn _ w.heap.size (W0.heap.size+1) W0.heap.size (by omega) (by omega) (by omega) (aaM _) (by omega) N hN hNb pre x W hJ hl) hM).mono ?_
  rintro e W2 ⟨⟨v0,rfl⟩,ss,hS,h2⟩
  obtain⟨v,hv,hrow,_⟩:=h2.box
  have hend:=run_endLoop (P:=Tryz.prog) h2.L (by simp[AnyZ.apRec])
  have hne:∀ (cur:Array Value),Obj.cells #[v] 23 (0,0)≠.cells cur 9 (0,0):=λcur e=>by cases e
  obtain⟨W3,hW3⟩:∃ W3,W2.putObj (W0.heap.size+1) (.loop { AnyZ.apRec ln fn sv w.heap.size W0.heap.size .ready none with state:=.exhausted })=W3:=⟨_,rfl⟩
  have hg3:W2.grownBy W3 (some (W0.heap.size+1)):=by rw[<-hW3];exact grownBy_putObj_a _ _ _
  have hv3:W3.heap[w.heap.size]?=some (.cells #[v] 23 (0,0)):=by rw[<-hW3];exact(World.putObj_heap_other (by omega)).trans hv
  have hK3:W3.heap[W0.heap.size]?=some (.deferred (some [])):=by rw[<-hW3];exact(World.putObj_heap_other (by omega)).trans h2.K
  have hrow3:=hrow.kept hg3 (ownsRow_ne_a hrow h2.L (λcur e=>by cases e))
  have hb3:Below w.heap.size w W3:=h2.below.grown hg3 h2.below.size (λk e=>by cases e;omega)
  obtain⟨hc3,hf3⟩:=cell_of_box_a hv3
  refine⟨none,W3,by rw[<-hW3];exact hend,?_⟩
  clear hW3 hW1 hold hM hend hseq
  gi_wp2
  rw[<-hz]
  refine⟨by simp,.inl ⟨_,_,rfl,run_takeDeferred hK3,?_⟩⟩
  exact⟨_,results_tmp rfl _ _ _,v,ss,rfl,hS,hrow3.kept (grownBy_putObj_a _ _ _) (ownsRow_ne_a hrow3 hK3 (λcur e=>by cases e)),hb3.grown (grownBy_putObj_a _ _ _) hb3.size (λk e=>by cases e;omega)⟩
theorem QR (n:Nat) (hn:4<=n) (g:Nat) (lb:Array Value) (eg:∀ args w,(callFunc g args).run Tryz.prog w=.ok (.enter g args) w)
  (S:List (List UInt8)->Prop) (N:Nat) (hN:N<=maxLen) (hNb:N * 16<=140737488355328) (w:World) (hseq:E2 (n - 1 - 1 - 1) Tryz.prog g lb S N w) (hS:∀ xs,S xs->xs.length < 4611686018427387904) :
  CallsIn Fence.wide n Tryz.prog 219 #[.func (.func g) #[] lb] w λe w'=>∃ (v:Value) (ss:List (List UInt8)),e=.returned v/\S ss /\
   w'.ownsRow w.heap.size 9 1 v ss.length ((ss.mergeSort (λx y=>decide (x<=y))).map encStr)/\Below w.heap.size w w':=by
 have h6:Fence.wide.fn 219:=trivial
 have h8:Fence.wide.fn 268:=trivial
 have h9:Fence.wide.fn 269:=trivial
 have h11:Fence.wide.fn 288:=trivial
 have h1:1<=n - 1:=by omega
 have h1':1<=n:=by omega
 have hcol:CallsIn Fence.wide (n - 1) Tryz.prog 268 #[.func (.func g) #[] lb] w λe w'=>∃ (v:Value) (ss:List (List UInt8)),e=.returned v/\S ss/\w'.ownsRow w.heap.size 9 1 v ss.length (ss.map encStr)/\Below w.heap.size w w':=by
  have happ:=J7 (n - 1 - 1) (by omega) g lb eg S N hN hNb w hseq
  refine callsIn_of_wp Tryz.func268 rfl h8 ?_ rfl
  simp only[Tryz.ntmps268,ab8,aaN,aa8,Nat.reduceAdd,Nat.reduceSub,aci,acj,acE,acq,abG,abk]
  gi_wp2_with (gi_at_call 288;refine happ.mono ?_;rintro e w' ⟨v,ss,rfl,hS,hrow,hb⟩)
  go_ret
  exact⟨v,ss,rfl,hS,hrow,hb⟩
 refine callsIn_of_wp Tryz.func219 rfl h6 ?_ rfl
 simp only[Tryz.ntmps219,ab8,aaN,aa8,Nat.reduceAdd,Nat.reduceSub,aci,acj,acE,acq,abG,abk]
 gi_wp2_with (gi_at_call 268;refine hcol.mono ?_;rintro e W ⟨v,ss,rfl,hSs,hrow,hb⟩)
 have hlen:=hS ss hSs
 rcases hrow.2 with ⟨rfl,hz⟩ | ⟨gb,cap,cur,rfl,hbase,hgb,r1,r2,r3,r4⟩
 .have hss:ss=[]:=List.eq_nil_of_length_eq_zero hz
  subst hss
  have cN:CallsIn Fence.wide (n - 1) Tryz.prog 269 #[.slice none 0 0] W λe w'=>e=.returned (.tuple #[])/\w'=W:=callsIn_wide.2 (AnyM.slices_Sort_string_none Ws none 0 W)
  gi_wp2_with (gi_at_call 269;refine cN.mono ?_;rintro e w' ⟨rfl,rfl⟩)
  go_ret
  exact⟨.slice none 0 0,[],rfl,hSs,by simpa using hrow,hb⟩
 .have hH:Holds encStr W gb 0 ss.toArray:=holds_of_block hgb (by simpa using r4)
  have hgl:gb < W.heap.size:=(Array.getElem?_eq_some_iff.1 hgb).1
  have cS:CallsIn Fence.wide (n - 1) Tryz.prog 269 #[.slice (some ⟨gb,0,none⟩) ss.length cap] W λe w'=>e=.returned (.tuple #[])/\∃ k os,w'=grow (putRow encStr (Sort.ahead W k) gb 0 (ss.mergeSort λx y=>decide (x<=y)).toArray) os :=
   callsIn_wide.2 (AnyM.slices_Sort_string Ws gb 0 cap ss W hH hgl hlen)
  gi_wp2_with (gi_at_call 269;refine cS.mono ?_;rintro e w' ⟨rfl,nn,os,rfl⟩)
  go_ret
  exact⟨_,ss,rfl,hSs,ownsRow_sorted (by simp) hbase hgb r1 r2 r3,hb.grown (grownBy_sorted _) hb.size (λj hj=>by cases hj;exact hbase)⟩
open Go Go.Proofs Go.Shelf Go.RowKit Go.Sort
theorem Mq {l:List (List UInt8)} (c:l.Pairwise (λa b=>decide (a<=b)=true)) (h:∀ j,j+1 < l.length->l.getD (j+1) []≠l.getD j []):l.Nodup:=by
 induction l with
 | nil=>exact List.nodup_nil
 | cons x r g =>
  rw[ab3] at c
  refine abK.2 ⟨λf=>?_,g c.2 λj i=>by simpa using h (j+1) (by simpa using i)⟩
  cases r with
  | nil=>simp at f
  | cons y r =>
   have d:=h 0 (by simp)
   simp only[acp,abE,abq] at d
   rcases aaT.1 f with e | hm
   .exact d e.symm
   .have h1:x<=y:=by simpa using c.1 y (by simp)
    have k:y<=x:=by simpa using (ab3.1 c.2).1 x hm
    exact d (List.le_antisymm k h1)
theorem Sb (l:List (List UInt8)):(Lib.compact l).length=l.length↔∀ j,j+1 < l.length->l.getD (j+1) []≠l.getD j []:=by
 have c:(Lib.compact l).length=((List.range l.length).filter (Lib.keeps l.toArray)).length:=by simp[Lib.compact,Lib.compactUpTo]
 rw[c]
 have hr:(List.range l.length).length=l.length:=by simp
 conv=>lhs;rhs;rw[<-hr]
 rw[List.length_filter_eq_length_iff]
 have b:∀ j,j < l.length->l.toArray[j]! = l.getD j []:=λj a=>by simp[aaA,a]
 constructor
 .intro h j a
  have:=h (j+1) (by simpa using a)
  simp only[Lib.keeps,aaP,Nat.add_sub_cancel] at this
  rcases this with e | e
  .omega
  .rw[b _ a,b _ (by omega)] at e;exact e
 .intro h j a
  simp only[abA] at a
  simp only[Lib.keeps,aaP]
  by_cases e:j=0
  .exact .inl e
  .right
   obtain⟨k,rfl⟩:∃ k,j=k+1:=⟨j - 1,by omega⟩
   rw[b _ a,Nat.add_sub_cancel,b _ (by omega)]
   exact h k a
theorem Ge (d:List (List UInt8)):(Lib.compact (d.mergeSort λx y=>decide (x<=y))).length=d.length↔d.Nodup:=by
 have hp:=List.mergeSort_perm d (λx y=>decide (x<=y))
 have g:=List.pairwise_mergeSort (le:=λx y:List UInt8=>decide (x<=y)) (λa b c h k=>by simp at h k ⊢;exact List.le_trans h k) (λa b=>by simpa using List.le_total a b) d
 rw[<-hp.nodup_iff,<-hp.length_eq,Sb]
 constructor
 .exact Mq g
 .intro i j f e
  have h1:(d.mergeSort λx y=>decide (x<=y))[j+1]'f=(d.mergeSort λx y=>decide (x<=y))[j]'(by omega):=by
   simp only[aaA,aaB f,aaB (show j < (d.mergeSort λx y=>decide (x<=y)).length by omega),aaU] at e
   exact e
  have:=(List.getElem_inj i).1 h1
  omega
theorem Uv (w:World):grow w #[]=w:=by simp[grow]
theorem Mw (n:Nat) (hn:1<=n) (Bs cap:Nat) (a:Option Addr) (w:World) (hBs:w.cell? ⟨Bs,0,none⟩=some (.slice a 0 cap)) (hBl:Bs < w.heap.size) :
  E2 n Tryz.prog 270 #[.pointer (some ⟨Bs,0,none⟩)] (λxs=>xs=[]) 0 w:=by
 intro l J W hJ hY h0
 have hbw:=hJ _ _ h0
 have hBs':=(hbw.cell (p:=⟨Bs,0,none⟩) hBl).trans hBs
 have hf:Fence.wide.fn 270:=trivial
 refine callsIn_of_wp Tryz.func270 rfl hf ?_ rfl
 simp only[Tryz.ntmps270,ab8,aaN,aa8,Nat.reduceAdd,Nat.reduceSub,aci,acj,acE,acq,abG,abk]
 gi_wp2
 gi_loopw [7] (λi wr=>i=.int .i64 0/\J [] wr) (λ_ _=>0)
 case atStart=>exact⟨rfl,h0⟩
 case round =>
  obtain⟨rfl,hJs⟩:=hrel
  gi_wp2
  go_end0
  exact⟨⟨_,rfl⟩,_,rfl,hJs⟩
theorem PY (n:Nat) (a:Option Addr) (len cap:Nat) (w:World) :
  CallsIn Fence.wide n Tryz.prog 220 #[.slice a len cap] w λe w'=>e=.returned (.func (.func 270) #[] #[.pointer (some ⟨w.heap.size,0,none⟩)])/\w'=w.alloc (.cells #[.slice a len cap] 23):=by
 have hf:Fence.wide.fn 220:=trivial
 refine callsIn_of_wp Tryz.func220 rfl hf ?_ rfl
 simp only[Tryz.ntmps220,ab8,aaN,aa8,Nat.reduceAdd,Nat.reduceSub,aci,acj,acE,acq,abG,abk]
 gi_wp2
 go_ret
 exact⟨rfl,rfl⟩
theorem CL (a:Option Addr) (cap:Nat) (zs:List (List UInt8)) (hz:zs.length<=1000) (w:World)
  (hseq:∀ n Bs,1<=n->w.heap.size=Bs->E2 n Tryz.prog 270 #[.pointer (some ⟨Bs,0,none⟩)] (λxs=>xs=zs) zs.length (w.alloc (.cells #[.slice a zs.length cap] 23))) :
  Calls Tryz.prog 155 #[.slice a zs.length cap] w λe w'=>e=.returned (.bool (decide zs.Nodup))/\Below w.heap.size w w':=by
 refine(callsIn_wide (n:=7)).1 ?_
 have hf:Fence.wide.fn 155:=trivial
 have hfv:Fence.wide.fn 220:=trivial
 have hfs:Fence.wide.fn 219:=trivial
 have hfc:Fence.wide.fn 221:=trivial
 have eg:=enters_of Tryz.func270 (by kernel_rfl) rfl
 have cV:=PY 6 a zs.length cap w
 have cS:=QR 6 (by omega) 270 #[.pointer (some ⟨w.heap.size,0,none⟩)] eg _ zs.length (by unfold maxLen;omega) (by omega) (w.alloc (.cells #[.slice a zs.length cap] 23)) (hseq _ _ (by omega) rfl) (λxs e=>by subst e;omega)
 refine callsIn_of_wp Tryz.func155 rfl hf ?_ rfl
 simp only[Tryz.ntmps155,ab8,aaN,aa8,Nat.reduceAdd,Nat.reduceSub,aci,acj,acE,acq,abG,abk]
 clear hseq
 gi_wp2_with (first
  | (gi_at_call 220;refine cV.mono ?_;rintro e w' ⟨rfl,rfl⟩)
  | (gi_at_call 219;refine cS.mono ?_;rintro e W ⟨v,ss,rfl,rfl,hrow,hb⟩)
  | fail)
 have hsz:(ss.mergeSort λx y=>decide (x<=y)).length=ss.length:=by simp
 have hBw:Below w.heap.size w W:=((Below.refl _ w).alloc (aaM _) _).trans (hb.mono (by simp))
 rcases hrow.2 with ⟨rfl,h0⟩ | ⟨gb,cap',cur,rfl,hbase,hgb,r1,r2,r3,r4⟩
 .have hss:ss=[]:=List.eq_nil_of_length_eq_zero h0
  subst hss
  have cC:CallsIn Fence.wide 6 Tryz.prog 221 #[.slice none 0 0] W λe w'=>e=.returned (.slice none 0 0)/\w'=W:=callsIn_wide.2 (AnyG.slices_Compact_string_empty Wk none 0 W)
  clear cS cV hrow
  gi_wp2_with (gi_at_call 221;refine cC.mono ?_;rintro e w' ⟨rfl,rfl⟩)
  go_ret
  exact⟨rfl,hBw⟩
 .have hH:Holds encStr W gb 0 (ss.mergeSort λx y=>decide (x<=y)).toArray:=holds_of_block hgb (by simpa using r4)
  have hgl:gb < W.heap.size:=(Array.getElem?_eq_some_iff.1 hgb).1
  have cC:CallsIn Fence.wide 6 Tryz.prog 221 #[.slice (some ⟨gb,0,none⟩) ss.length cap'] W λe w'=>∃ m:Nat,e=.returned (.slice (some ⟨gb,0,none⟩) m cap')/\((m=ss.length)↔ss.Nodup)/\Below w.heap.size w w':=by
   have:=AnyG.slices_Compact_string Wk gb 0 cap' (ss.mergeSort λx y=>decide (x<=y)) W hH (by rw[hsz];omega) (by rw[hsz];omega)
   rw[hsz] at this
   refine callsIn_wide.2 (this.mono ?_)
   rintro e w' ⟨rfl,q,rfl⟩
   refine⟨_,rfl,Ge ss,?_⟩
   have hg:=grownBy_sorted (w:=W) (g:=gb) (n:=q) (os:=#[]) (Lib.compact (ss.mergeSort λx y=>decide (x<=y)) ++ List.replicate (ss.length - (Lib.compact (ss.mergeSort λx y=>decide (x<=y))).length) []).toArray
   rw[Uv] at hg
   exact hBw.grown hg hBw.size (λj e=>by cases e;have h:=hbase;rw[World.size_alloc] at h;omega)
  clear cS cV hrow hH
  gi_wp2_with (gi_at_call 221;refine cC.mono ?_;rintro e w' ⟨m,rfl,hm,hb'⟩)
  go_ret
  refine⟨?_,hb'⟩
  show Ending.returned (.bool ((m:Int) == (ss.length:Int)))=_
  have:((m:Int) == (ss.length:Int))=decide ss.Nodup:=by
   rw[abD]
   simp only[abB,aaP,<-hm]
   omega
  rw[this]
theorem JI (s:ByteArray):encStr s.data.toList=.string s:=by
 cases s;simp[encStr]
def names (l:List ByteArray):List (List UInt8):=l.map λs=>s.data.toList
theorem OD {Z:Nat->Prop} {μ:Mu} {hp:Array Obj} {es:List (List V)} {x:Value} (h:aB Z μ hp (.aU es) x) :
  (es=[]/\∃ a cap,x=.slice a 0 cap/\(a=none->cap=0))∨(∃ b off esz cap,∃ c:Nat->Nat->Value,x=.slice (some ⟨b,off,none⟩) es.length cap/\Z b/\es.length<=cap /\
   (∀ i,i < es.length->(es.getD i []).length=esz)/\(∀ i j,i < es.length->j < esz->cellAt hp b (off+i * esz+j)=some (c i j)) /\
   (∀ i j,i < es.length->j < esz->aB Z μ hp ((es.getD i []).getD j .any) (c i j))):=by
 cases h with
 | ji a cap d=>exact .inl ⟨rfl,a,cap,rfl,d⟩
 | aU _ b off esz cap c h1 e f g k=>exact .inr ⟨b,off,esz,cap,c,rfl,h1,e,f,g,k⟩
theorem UK (l:List ByteArray) (G:l.length<=1000):az Tryz.prog 155 [encS l] (gb (decide (names l).Nodup)):=by
 intro Z μ w xs g r
 obtain⟨hlen,H⟩:=g
 obtain⟨x,rfl⟩:∃ x,xs=[x]:=by
  match xs,hlen with
  | [x],_=>exact⟨x,rfl⟩
 have I:aB Z μ w.heap (encS l) x:=H 0 (by simp)
 have k:(names l).length=l.length:=by simp[names]
 have fin:∀ e w',(e=Ending.returned (.bool (decide (names l).Nodup))/\RowKit.Below w.heap.size w w')->∃ x t,e=.returned x/\(∀ E,aB t E w'.heap (gb (decide (names l).Nodup)) x)/\fB w w'/\(∀ b,Z b->t b)/\(∀ b,t b->Z b∨(w.heap.size<=b/\b < w'.heap.size))/\gN w.heap w'.heap (λ_=>False):=by
  rintro e w' ⟨rfl,m⟩
  exact⟨_,Z,rfl,λE=>.val _ rfl,⟨m.os,m.tape,m.output,m.size⟩,λ_ h=>h,λ_ h=>.inl h,λb u _=>m.block b u⟩
 have box:∀ (v:Value),(w.alloc (.cells #[v] 23)).cell? ⟨w.heap.size,0,none⟩=some v:=λv=>by
  have:=World.alloc_heap_new w (.cells #[v] 23)
  simp only[World.cell?,this];rfl
 rcases OD I with ⟨he,a,cap,rfl,_⟩ | ⟨b,off,esz,cap,c,rfl,J,hle,z,K,L⟩
 .have A:l=[]:=by simpa using he
  subst A
  refine(CL a cap (names []) (by simp[names]) w (λn M B C=>?_)).mono fin
  subst C
  exact Mw n B w.heap.size cap a _ (box _) (by simp)
 .have o:∀ i,(hi:i < l.length)->(l.map λs=>[gs s]).getD i []=[gs l[i]]:=λi hi=>by simp[aaA,hi]
  have d:∀ i,(hi:i < l.length)->cellAt w.heap b (off+i)=some (.string l[i]):=λi hi=>by
   have h1:=z i (by simpa using hi)
   rw[o i hi] at h1
   simp only[aaN,aa8] at h1
   subst h1
   have F:=K i 0 (by simpa using hi) (by omega)
   have q:=L i 0 (by simpa using hi) (by omega)
   rw[o i hi] at q
   simp only[abE] at q
   generalize c i 0=y at F q
   cases q
   simpa using F
  have f:(l.map λs=>[gs s]).length=(names l).length:=by simp[names]
  rw[f]
  refine(CL (some ⟨b,off,none⟩) cap (names l) (by rw[k];exact G) w (λn M B C=>?_)).mono fin
  subst C
  have D:=r b J
  refine Pu n B w.heap.size b off cap (names l) (by rw[k];omega) _ (box _) (by simp) (by simp;omega) (λj P=>?_)
  have p:j < l.length:=by omega
  have N:(w.alloc (.cells #[.slice (some ⟨b,off,none⟩) (names l).length cap] 23)).cell? ⟨b,off+j,none⟩=w.cell? ⟨b,off+j,none⟩:=by
   have:=Below.heap_alloc w (.cells #[.slice (some ⟨b,off,none⟩) (names l).length cap] 23) b D
   simp only[World.cell?,this]
  rw[N,oM,d j p]
  have O:(names l).getD j []=l[j].data.toList:=by simp[names,aaA,p]
  rw[O,JI]
theorem bU.ji {P:Program} {f:FuncId} {h:aE} (h1:bU P f [.emp 1] h (.emp 1) h) (m:bU P f [.emp 2] h (.emp 2) h) (n:bU P f [.eD] h (.emp 2) h):bU P f [.aU []] h (.emp 0) h:=by
 refine⟨aaM _,λZ μ F w xs l hr g=>?_⟩
 obtain⟨q,r⟩:=l
 obtain⟨x,rfl⟩:∃ x,xs=[x]:=by
  match xs,q with
  | [x],_=>exact⟨x,rfl⟩
 have s:aB Z μ w.heap (.aU []) x:=r 0 (by simp)
 have one:∀ v,aB Z μ w.heap v x->gL Z μ w.heap [v] [x]:=λv h=>⟨rfl,λi hi=>by
  simp at hi;subst hi;exact h⟩
 have d:∀ k,bU P f [if k=3 then .eD else .emp k] h (if k=3 then .emp 2 else .emp k) h->aB Z μ w.heap (if k=3 then .eD else .emp k) x->Calls P f [x].toArray w λe w'=>∃ x j μ',e=.returned x/\aB j μ' w'.heap (.emp 0) x/\iR j μ' w'.heap (cat h F)/\Ext Z μ w h.length j μ' w'/\(∀ id,id < h.length∨h.length<=id->μ' id=μ id):=by
  intro k hk t
  refine(hk.2 Z μ F w [x] (one _ t) hr g).mono ?_
  rintro e w' ⟨y,j,μ',rfl,o,rest⟩
  refine⟨y,j,μ',rfl,?_,rest⟩
  have:∀ p,aB j μ' w'.heap (.emp p) y->aB j μ' w'.heap (.emp 0) y:=λp h=>by
   cases h with | emp _ a _ _=>exact .emp 0 a (by simp) (by simp)
  split at o <;> exact this _ o
 rcases OD s with ⟨_,a,cap,rfl,u⟩ | ⟨b,off,esz,cap,c,rfl,_,_,_⟩
 .cases a with
  | none =>
   have:=u rfl
   subst this
   exact d 1 (by simpa using h1) (.emp 1 none (by simp) (by simp))
  | some a =>
   cases cap with
   | zero=>exact d 2 (by simpa using m) (.emp 2 (some a) (by simp) (by simp))
   | succ c=>exact d 3 (by simpa using n) (.eD a (c+1))
 .cases cap with
  | zero=>exact d 2 (by simpa using m) (.emp 2 (some ⟨b,off,none⟩) (by simp) (by simp))
  | succ c=>exact d 3 (by simpa using n) (.eD ⟨b,off,none⟩ (c+1))
def B3 (sz:Nat) (es:List (List V)) (H:View) (K:V->View->Prop):Prop :=
 (es=[]->∀ k,K (.emp k) H)/\(es≠[]->∀ n,H n=.dead->K (.sl n 0 es.length sz) (H.set n (.arr sz es)))
def dT:SF:=⟨ae [ab [bT 2 1],ae [ab [aa 3 0,((some 4),.op (.nil true 0 (.tmp 3) (.val (.emp 1))))],bb 4 (ae [ab [bT 2 1],.ret])],ab [bT 5 2,aa 6 0,fD 7 1 16 5 6,aa 2 7],.ret],
 [.tmp 2],8⟩
theorem eo:aP Tryz.prog 152 []=some dT:=by kernel_rfl
def fg:SF:=⟨ae [ab [bT 2 1],ae [ab [aa 3 0,((some 4),.op (.nil true 0 (.tmp 3) (.val (.emp 1))))],bb 4 (ae [ab [bT 2 1],.ret])],ab [bT 5 2,aa 6 0,fD 7 1 8 5 6,aa 2 7],.ret],
 [.tmp 2],8⟩
theorem fK:aP Tryz.prog 140 []=some fg:=by kernel_rfl
def dq:SF:=⟨ae [ab [bT 2 1],ae [ab [aa 3 0,((some 4),.op (.nil true 0 (.tmp 3) (.val (.emp 1))))],bb 4 (ae [ab [bT 2 1],.ret])],ab [bT 5 2,aa 6 0,fD 7 3 32 5 6,aa 2 7],.ret],
 [.tmp 2],8⟩
theorem dO:aP Tryz.prog 163 []=some dq:=by kernel_rfl
theorem az.tree {P:Program} {f:FuncId} {vs:List V} {t:V} (a:∀ v∈vs,Tree v) (b:Tree t) (h:∀ H,aw P f vs H λr _=>r=t):az P f vs t :=
 az.of a ((h _).mono λr H' e c _=>by rw[e];exact .tree _ b)
theorem r8 {H:View} : bR H .eD=some ([],[]):=id rfl
theorem jZ {H:View} (sz bytes k:Nat) (K:V->View->Prop) (w:cX (H,K)):lK sz bytes (.emp k) [] H K w=K (.emp k) H:=propext Iff.rfl
theorem S7 (l:List ByteArray) (b:l.length<=100000) (H:View) (K:V->View->Prop) (hk:B3 1 (l.map λs=>[gs s]) H K):aw Tryz.prog 152 [encS l] H K:=by
 cases l with
 | nil =>
  have hp:∀ v t,Tree v->Tree t->(∀ H,aw Tryz.prog 152 [v] H λr _=>r=t)->az Tryz.prog 152 [v] t:=λv t c d h=>az.tree (by intro x a;simp at a;subst a;exact c) d h
  have h1:=hp (.emp 1) (.emp 1) (.emp 1) (.emp 1) (λH=>by
   refine aw.of mixed eo ?_
   simp(disch:=omega)only[↓wr,seval,wq,dT])
  have e:=hp (.emp 2) (.emp 2) (.emp 2) (.emp 2) (λH=>by
   refine aw.of mixed eo ?_
   simp(disch:=omega)only[↓wr,seval,wq,dT,jZ,acv])
  have f:=hp .eD (.emp 2) .eD (.emp 2) (λH=>by
   refine aw.of mixed eo ?_
   simp(disch:=omega)only[↓wr,seval,wq,dT,r8,jZ,acv])
  refine⟨by kernel_rfl,?_⟩
  rintro h rfl
  exact⟨.emp 0,h,bU.ji (bU.gU h1 h) (bU.gU e h) (bU.gU f h),.refl _,hk.1 rfl 0⟩
 | cons x r =>
  refine aw.of mixed eo ?_
  simp only[aaN] at b
  simp(disch:=omega)only[↓wr,seval,wq,dT,encS]
  refine⟨?_,?_,?_⟩
  .simp[acg,encS,aI]
  .unfold aC;simp;omega
  .intro n g
   have:=hk.2 (by simp) n g
   simp(disch:=omega)only[↓wr,seval,wq]
   simpa [dg] using this
theorem RX (l:List Int) (b:l.length<=100000) (H:View) (K:V->View->Prop) (hk:B3 1 (l.map λs=>[gi s]) H K):aw Tryz.prog 140 [encI l] H K:=by
 cases l with
 | nil =>
  have hp:∀ v t,Tree v->Tree t->(∀ H,aw Tryz.prog 140 [v] H λr _=>r=t)->az Tryz.prog 140 [v] t:=λv t c d h=>az.tree (by intro x a;simp at a;subst a;exact c) d h
  have h1:=hp (.emp 1) (.emp 1) (.emp 1) (.emp 1) (λH=>by
   refine aw.of mixed fK ?_
   simp(disch:=omega)only[↓wr,seval,wq,fg])
  have e:=hp (.emp 2) (.emp 2) (.emp 2) (.emp 2) (λH=>by
   refine aw.of mixed fK ?_
   simp(disch:=omega)only[↓wr,seval,wq,fg,jZ,acv])
  have f:=hp .eD (.emp 2) .eD (.emp 2) (λH=>by
   refine aw.of mixed fK ?_
   simp(disch:=omega)only[↓wr,seval,wq,fg,r8,jZ,acv])
  refine⟨by kernel_rfl,?_⟩
  rintro h rfl
  exact⟨.emp 0,h,bU.ji (bU.gU h1 h) (bU.gU e h) (bU.gU f h),.refl _,hk.1 rfl 0⟩
 | cons x r =>
  refine aw.of mixed fK ?_
  simp only[aaN] at b
  simp(disch:=omega)only[↓wr,seval,wq,fg,encI]
  refine⟨?_,?_,?_⟩
  .simp[acg,encI,aI]
  .unfold aC;simp;omega
  .intro n g
   have:=hk.2 (by simp) n g
   simp(disch:=omega)only[↓wr,seval,wq]
   simpa [dg] using this
theorem Sz (l:List Term) (b:l.length<=100000) (H:View) (K:V->View->Prop) (hk:B3 3 (l.map dg) H K):aw Tryz.prog 163 [fv l] H K:=by
 cases l with
 | nil =>
  have hp:∀ v t,Tree v->Tree t->(∀ H,aw Tryz.prog 163 [v] H λr _=>r=t)->az Tryz.prog 163 [v] t:=λv t c d h=>az.tree (by intro x a;simp at a;subst a;exact c) d h
  have h1:=hp (.emp 1) (.emp 1) (.emp 1) (.emp 1) (λH=>by
   refine aw.of mixed dO ?_
   simp(disch:=omega)only[↓wr,seval,wq,dq])
  have e:=hp (.emp 2) (.emp 2) (.emp 2) (.emp 2) (λH=>by
   refine aw.of mixed dO ?_
   simp(disch:=omega)only[↓wr,seval,wq,dq,jZ,acv])
  have f:=hp .eD (.emp 2) .eD (.emp 2) (λH=>by
   refine aw.of mixed dO ?_
   simp(disch:=omega)only[↓wr,seval,wq,dq,r8,jZ,acv])
  refine⟨by kernel_rfl,?_⟩
  rintro h rfl
  exact⟨.emp 0,h,bU.ji (bU.gU h1 h) (bU.gU e h) (bU.gU f h),.refl _,hk.1 rfl 0⟩
 | cons x r =>
  refine aw.of mixed dO ?_
  simp only[aaN] at b
  simp(disch:=omega)only[↓wr,seval,wq,dq,fv,dg]
  refine⟨?_,?_,?_⟩
  .simp[acg,fv,dg,aI]
  .unfold aC;simp;omega
  .intro n g
   have:=hk.2 (by simp) n g
   simp(disch:=omega)only[↓wr,seval,wq]
   simpa [dg] using this
theorem B3.own {sz:Nat} {es:List (List V)} {H:View} : B3 sz es H λr H'=>aT H' r sz es/\c8 H H' r :=
 ⟨λhe k=>⟨by rw[he];exact .nil,.emp⟩,λ_ n a=>⟨.new,.new a⟩⟩
theorem Ua (l:List ByteArray) (a:l.length<=100000) (H:View):aw Tryz.prog 152 [encS l] H λr H'=>aT H' r 1 (l.map λs=>[gs s])/\c8 H H' r:=S7 l a H _ .own
theorem Rr (l:List Int) (a:l.length<=100000) (H:View):aw Tryz.prog 140 [encI l] H λr H'=>aT H' r 1 (l.map λs=>[gi s])/\c8 H H' r:=RX l a H _ .own
theorem Q6 (l:List Term) (a:l.length<=100000) (H:View):aw Tryz.prog 163 [fv l] H λr H'=>aT H' r 3 (l.map dg)/\c8 H H' r:=Sz l a H _ .own
def nG (g:af):List aX->Int->Bool
 | [],next=>next == g.al.length
 | r :: l,next=>decide (0<=r.left) && decide (r.left<=next) && js g r && nG g l (if r.left+1 > next then r.left+1 else next)
def vq (g:af):List ByteArray:=g.al ++ g.ai.map Term.name
def sG (g:af):Bool :=
 uW g.ai && (decide ((1:Int)<=g.al.length) && decide ((g.al.length:Int)<=16)) && (decide ((1:Int)<=g.rules.length) && decide ((g.rules.length:Int)<=40)) && decide (names (vq g)).Nodup && (decide (0<=g.start) && decide (g.start<=(g.al.length:Int) - 1)) &&
  !(g.al.any λs=>!gZ (gp s)) && nG g g.rules 0
theorem Jp {l:List ByteArray} : ∀ e∈(l.map λs=>[gs s]),∀ v∈e,Tree v:=by
 intro e he v b
 obtain⟨a,_,rfl⟩:=aaX.1 he
 rw[abL] at b
 subst b
 exact .val _
theorem Tw (g:af) (p:g.Ok) (hs:g.al.length+g.ai.length<=1000) (H:View):aw Tryz.prog 89 [.agg (ag g)] H λr _=>r=gb (sG g):=by
 refine aw.of mixed Gq ?_
 have L:=p.al
 have M:=p.ai
 have hr:=p.rules
 unfold aK at L M hr
 simp(disch:=omega)only[↓wr,seval,wq,CY,ag,encS]
 refine ax.eM ((Ua g.al (by omega) H).mono ?_)
 rintro u H1 ⟨hu,hf⟩
 simp(disch:=omega)only[↓wr,seval,wq,ag,encS]
 refine ba.up g.ai.length (λi T H=>T 1=.aL (ag g) 0/\(∃ u,T 3=u/\aT H u 1 ((g.al ++ (g.ai.take i).map Term.name).map λs=>[gs s]))/\T 13=fv g.ai/\T 14=gi g.ai.length/\T 15=gi i) ?_ ?_
 .exact⟨rfl,⟨u,rfl,by simpa using hu⟩,rfl,rfl,rfl⟩
 rintro i k T H' hk ⟨h1,⟨u,q,hu⟩,a,c,d⟩
 simp(disch:=omega)only[↓wr,seval,wq,Ag,h1,a,c,d,fv]
 apply aj.dec<;>intro B
 .have f:g.ai[i]?=some (g.ai[i]'(by omega)):=aaB (by omega)
  have v:(g.ai.take (i+1)).map Term.name=(g.ai.take i).map Term.name ++ [(g.ai[i]'(by omega)).name]:=by
   rw[aa3,f,aaW];rfl
  generalize g.ai[i]'(by omega)=t at f v
  simp(disch:=omega)only[↓wr,seval,wq,h1,q,a,c,d,fv,dg,aaE,f]
  intro b C
  try simp(disch:=omega)only[↓wr,seval,wq,h1,q,a,c,d,set_set]
  intro m hm
  have D:=(cq hm cm).1
  have hm:=(cq (cq hm cm).2 cm).2
  try simp(disch:=omega)only[↓wr,seval,wq,h1,q,a,c,d,bz]
  have J:((g.al ++ (g.ai.take i).map Term.name).map λs=>[gs s]).length<=1000:=by simp;omega
  refine wc (((hu.fresh C).other (hu.ne C)).fresh (by simp[View.set,hm,D])) (by simp) (by simp[aI]) (by unfold aC;simp at J ⊢;omega) (by unfold aC;simp at J ⊢;omega) ?_
  intro N H2 E _
  simp(disch:=omega)only[↓wr,seval,wq,h1,q,a,c,d]
  refine aG hk (by omega) ⟨h1,⟨N,rfl,?_⟩,a,c,rfl⟩
  rw[v]
  simpa using E
 .rw[aaS (by omega)] at hu
  have O:H'=H':=rfl
  have y:(vq g).length<=1000:=by simp[vq];omega
  repeat' (first | ((first|apply aj.dec|apply aj.eq|apply aj.ne|apply aj.split)<;>intro)|(refine ax.pure (T8 g.ai p.ai) ?_)|(refine ax.pure (tM _ _ _) ?_)|(refine ax.B5 (UK (vq g) y) (by kernel_rfl) (.val _) ⟨cR.own hu Jp,trivial⟩ ?_)|(simp(disch:=omega)only[↓wr,seval,wq,h1,q,a,c,d,ag,encS]))
  all_goals try (simp[sG, *];done)
  rename_i P Q K R S
  refine ax.pure (Dh g.al p.al 157 [] (by simp) (λs=>!gZ (gp s)) (λx _=>P3 x) (by kernel_rfl)) ?_
  repeat' (first | ((first|apply aj.dec|apply aj.eq|apply aj.ne|apply aj.split)<;>intro)|(simp(disch:=omega)only[↓wr,seval,wq,h1,q,a,c,d,ag,encS]))
  all_goals try (simp[sG, *];done)
  rename_i U
  have hle:g.rules.length<=40:=by simp at K;omega
  have h:∀ b,nG g g.rules 0=b->gb b=gb (sG g):=λb e=>by
   simp only[sG,P,Q,K,R,S,U,e,decide_true,abM,Bool.not_false]
  refine ba.up g.rules.length (λi T _=>∃ w:Int,0<=w/\w<=i/\nG g (g.rules.drop i) w=nG g g.rules 0/\T 1=.aL (ag g) 0/\T 6=gi w/\T 62=.aU (g.rules.map bg)/\T 63=gi g.rules.length/\T 64=gi i) ?_ ?_
  .exact⟨0,by omega,by omega,rfl,h1,rfl,rfl,rfl,rfl⟩
  rintro i k T H' hk ⟨w,V,W,hi,h1,A,j,l,n⟩
  simp(disch:=omega)only[↓wr,seval,wq,Al,h1,A,j,l,n,ag]
  apply aj.dec<;>intro B
  .have f:g.rules[i]?=some (g.rules[i]'(by omega)):=aaB (by omega)
   rw[fq (show i < g.rules.length by omega)] at hi
   have o:g.rules[i]'(by omega)∈g.rules:=aaL _
   generalize g.rules[i]'(by omega)=t at f hi o
   obtain⟨⟨X,Y⟩,hp,F,G⟩:=p.au t o
   simp only[nG] at hi
   simp(disch:=omega)only[↓wr,seval,wq,h1,A,j,l,n,bg,encI,aaE,f]
   intro b C
   repeat' (first | ((first|apply aj.dec|apply aj.eq|apply aj.ne|apply aj.split)<;>intro)|(refine ax.pure (tM _ _ _) ?_)|(refine ax.pure (VT g t p ⟨F,G⟩) ?_)|(simp(disch:=omega)only[↓wr,seval,wq,h1,A,j,l,n,ag,bg,encI,encS,set_set]))
   .rename_i z I
    have Z:0<=t.left/\t.left<=w:=by simpa using z
    rw[z,I,abM,abM] at hi
    have hw:IntKind.wrap .i64 (t.left+1)=t.left+1:=wrap64 (by omega) (by omega)
    refine aG hk (by omega) ⟨_,by split <;> omega,by split <;> (push_cast;omega),hi,h1,?_,j,l,rfl⟩
    show gi (if IntKind.wrap .i64 (t.left+1) > w then IntKind.wrap .i64 (t.left+1) else w)=_
    rw[hw]
   .rename_i z I
    rw[I,acy,ab2] at hi
    exact h _ hi.symm
   .rename_i z
    rw[z,ab2,ab2] at hi
    exact h _ hi.symm
  .rw[aa7 (by omega)] at hi
   simp only[nG] at hi
   simp(disch:=omega)only[↓wr,seval,wq,h1,A,j,l,n,ag,encS]
   exact h _ hi.symm
theorem O3 (g:af) (a:g.Ok) (b:g.al.length+g.ai.length<=1000):az Tryz.prog 89 [.agg (ag g)] (gb (sG g)):=az.val (eK g) (Tw g a b)
theorem L2 (g:af):∀ (l:List aX) (next:Int),nG g l next=iE g l (next - 1)
 | [],next=>by
  simp only[nG,iE]
  rw[abD];simp
 | r :: l,next=>by
  simp only[nG,iE,L2 g l]
  have a:(if r.left+1 > next then r.left+1 else next) - 1=if r.left > next - 1 then r.left else next - 1:=by
   split <;> split <;> omega
  have b:next - 1+1=next:=by omega
  rw[a,b]
theorem AY (s:ByteArray):∀ (l:List ByteArray) (i:Int),0<=i->(pJ s l i < 0/\s ∉ l)∨∃ k:Nat,pJ s l i=i+k/\l[k]?=some s/\∀ j < k,l[j]?≠some s
 | [],i,h=>.inl ⟨by simp[pJ],by simp⟩
 | x :: l,i,h=>by
  have b:jT x s=true↔x=s:=by
   unfold jT
   rw[abB]
   constructor
   .intro e;cases x;cases s;simp at e;simp[e]
   .rintro rfl;rfl
  simp only[pJ]
  by_cases e:x=s
  .rw[aaF (b.2 e)]
   exact .inr ⟨0,by simp,by simp[e],by simp⟩
  .rw[aaD (λh=>e (b.1 h))]
   rcases AY s l (i+1) (by omega) with ⟨h1,a⟩ | ⟨k,h1,a,c⟩
   .exact .inl ⟨h1,by simp[a,Ne.symm e]⟩
   .refine .inr ⟨k+1,by rw[h1];push_cast;omega,by simpa using a,λj d=>?_⟩
    cases j with
    | zero=>simp[e]
    | succ j=>simpa using c j (by omega)
theorem wJ (l:List ByteArray):(∀ (k:Nat) (s:ByteArray),l[k]?=some s->pJ s l 0=k)↔l.Nodup:=by
 constructor
 .intro h
  rw[acs,List.pairwise_iff_getElem]
  intro i j hi b d e
  have h1:=h i l[i] (by simp[hi])
  have a:=h j l[j] (by simp[b])
  rw[e] at h1
  omega
 .intro f k s hk
  rcases AY s l 0 (by omega) with ⟨_,a⟩ | ⟨j,h1,a,g⟩
  .exact absurd (aaI hk) a
  .have b:j < l.length:=by
    rcases aa2 j l.length with h | h
    .exact h
    .simp[aa6 h] at a
   have c:k < l.length:=by
    rcases aa2 k l.length with h | h
    .exact h
    .simp[aa6 h] at hk
   have:j=k:=(List.getElem_inj f).1 (by
    rw[aaB b] at a;rw[aaB c] at hk
    simp at a hk;rw[a,hk])
   rw[h1,this];simp
theorem bytes_inj {a b:ByteArray} : a.data.toList=b.data.toList↔a=b:=by
 constructor
 .intro h;cases a;cases b;simp at h;simp[h]
 .rintro rfl;rfl
theorem Sh {l:List ByteArray} : (names l).Nodup↔l.Nodup:=by
 unfold names
 rw[acs,acL,acs]
 constructor
 .exact λh=>h.imp λh e=>h (bytes_inj.2 e)
 .exact λh=>h.imp λh e=>h (bytes_inj.1 e)
theorem oV {α:Type} [BEq α] [LawfulBEq α]:∀ (l m:List α),l.Nodup->(∀ x∈l,x∈m)->l.length<=m.length
 | [],m,_,_=>by simp
 | x :: l,m,a,c=>by
  rw[abK] at a
  have d:x∈m:=c x (by simp)
  have:=oV l (m.erase x) a.2 (λy e=>by
   have b:y≠x:=by rintro rfl;exact a.1 e
   exact(List.mem_erase_of_ne b).2 (c y (by simp[e])))
  rw[List.length_erase_of_mem d] at this
  have:0 < m.length:=List.length_pos_of_mem d
  simp only[aaN]
  omega
def nS (n:Nat):List Int:=(List.range n).map λ(k:Nat)=>(k:Int)+1
theorem yY {n:Nat} {x:Int} : x∈nS n↔1<=x/\x<=n:=by
 simp only[nS,aaX,abA]
 constructor
 .rintro⟨k,hk,rfl⟩;omega
 .rintro⟨h1,a⟩;exact⟨(x - 1).toNat,by omega,by omega⟩
theorem KW (n:Nat):(nS n).Nodup:=by
 rw[nS,acs,acL]
 exact(List.nodup_range (n:=n)).imp λh e=>h (by omega)
theorem XC {l:List Int} {n:Nat} (b:l.Nodup) (c:∀ x∈l,1<=x/\x<=n) (f:l.length=n) {x:Int} (h1:1<=x) (d:x<=n):x∈l:=by
 refine abO λe=>?_
 have:=oV (x :: l) (nS n) (abK.2 ⟨e,b⟩) (λy a=>by
  rw[yY]
  rcases aaT.1 a with rfl | a
  .exact⟨h1,d⟩
  .exact c y a)
 simp[nS] at this
 omega
theorem zh (n:Int):∀ (l:List Term) (w:Int),w≠0->kD n l w=if (∀ t∈l,t.level=n->t.assoc=w) then some w else none
 | [],w,_=>by simp[kD]
 | t :: r,w,hw=>by
  simp only[kD]
  by_cases a:t.level=n
  .rw[aaF a]
   by_cases b:w=t.assoc
   .rw[aaD (by simp[b]),<-b,zh n r w hw]
    congr 1
    simp[a,b]
   .rw[aaF ⟨hw,b⟩,aaD (λh=>b (h t (by simp) a).symm)]
  .rw[aaD a,zh n r w hw]
   congr 1
   simp[a]
theorem FX (n:Int):∀ (l:List Term),(∀ t∈l,t.level=n->t.assoc≠0)->(iJ l n=true↔∃ a,(∃ t∈l,t.level=n)/\∀ t∈l,t.level=n->t.assoc=a)
 | [],_=>by simp[iJ,kD]
 | t :: r,h=>by
  by_cases c:t.level=n
  .have g:=h t (by simp) c
   have e:iJ (t :: r) n=match (if (∀ u∈r,u.level=n->u.assoc=t.assoc) then some t.assoc else none) with | some w=>w != 0 | none=>false:=by
    simp only[iJ,kD]
    rw[aaF c,aaD (by simp),zh n r _ g]
    rfl
   rw[e]
   by_cases hr:∀ u∈r,u.level=n->u.assoc=t.assoc
   .rw[aaF hr]
    simp only[acM,ne_eq,g,not_false_eq_true,true_iff]
    refine⟨t.assoc,⟨t,by simp,c⟩,λu hu b=>?_⟩
    rcases aaT.1 hu with rfl | hu
    .rfl
    .exact hr u hu b
   .rw[aaD hr]
    simp only[aba,false_iff]
    rintro⟨a,_,d⟩
    exact hr λu hu b=>(d u (by simp[hu]) b).trans (d t (by simp) c).symm
  .have i:=FX n r (λu hu=>h u (by simp[hu]))
   have e:iJ (t :: r) n=iJ r n:=by
    simp only[iJ,kD,aaD c]
   rw[e,i]
   constructor
   .rintro⟨a,⟨u,hu,b⟩,d⟩
    refine⟨a,⟨u,by simp[hu],b⟩,λv f b=>?_⟩
    rcases aaT.1 f with rfl | f
    .exact absurd b c
    .exact d v f b
   .rintro⟨a,⟨u,hu,b⟩,d⟩
    rcases aaT.1 hu with rfl | hu
    .exact absurd b c
    .exact⟨a,⟨u,hu,b⟩,λv f=>d v (by simp[f])⟩
def yo (l:List Term):Prop:=∀ t∈l,∀ u∈l,t.level=u.level->t.level≠0->t.assoc=u.assoc
theorem LB {κ β:Type} [BEq κ] [LawfulBEq κ] {k:κ} {v:β} : ∀ {a:List (κ × β)},(a.map (·.1)).Nodup->((lB k v a).map (·.1)).Nodup/\∀ x,x∈(lB k v a).map (·.1)↔x=k∨x∈a.map (·.1)
 | [],_=>by simp[lB]
 | y :: a,h=>by
  simp only[aa9,abK] at h
  obtain⟨h1,b⟩:=LB (k:=k) (v:=v) h.2
  simp only[lB]
  by_cases e:k=y.1
  .simp only[e,beq_self_eq_true,if_true,aa9,abK]
   refine⟨h,λx=>by simp[e]⟩
  .have:(k == y.1)=false:=by simp[e]
   rw[this]
   simp only[aba,if_false,aa9,abK,aaT]
   refine⟨⟨λhm=>?_,h1⟩,λx=>?_⟩
   .rcases (b _).1 hm with e' | hm
    .exact e e'.symm
    .exact h.1 hm
   .rw[b]
    constructor
    .rintro (h | h | h) <;> simp[h]
    .rintro (h | h | h) <;> simp[h]
theorem B9:∀ (l:List Term) (a:List (Int × Int)) (top:Int),(∀ t∈l,t.level≠0->t.assoc≠0)->(∀ n v,fe a n=some v->v≠0)->(a.map (·.1)).Nodup ->
  match oy l a top with
  | some (z,b)=>yo l/\(∀ t∈l,∀ v,t.level≠0->fe a t.level=some v->t.assoc=v)/\(z.map (·.1)).Nodup/\(∀ n,n∈z.map (·.1)↔n∈a.map (·.1)∨(n≠0/\∃ t∈l,t.level=n)) /\
    top<=b/\(∀ t∈l,t.level≠0->t.level<=b)/\(b=top∨∃ t∈l,t.level=b/\t.level≠0)
  | none=>¬ (yo l/\∀ t∈l,∀ v,t.level≠0->fe a t.level=some v->t.assoc=v)
 | [],a,top,_,_,A=>by
  simp only[oy]
  exact⟨λt c=>by simp at c,λt c=>by simp at c,A,λn=>by simp,by omega,λt c=>by simp at c,by simp⟩
 | t :: r,a,top,E,B,A=>by
  have p:∀ u∈r,u.level≠0->u.assoc≠0:=λu hu=>E u (by simp[hu])
  simp only[oy]
  by_cases c:t.level=0
  .rw[aaF c]
   have g:=B9 r a top p B A
   have one:yo (t :: r)↔yo r:=by
    constructor
    .exact λh u hu w hw=>h u (by simp[hu]) w (by simp[hw])
    .intro h u hu w hw e d
     rcases aaT.1 hu with rfl | hu
     .exact absurd c d
     .rcases aaT.1 hw with rfl | hw
      .exact absurd (e.trans c) d
      .exact h u hu w hw e d
   have q:(∀ u∈t :: r,∀ v,u.level≠0->fe a u.level=some v->u.assoc=v)↔∀ u∈r,∀ v,u.level≠0->fe a u.level=some v->u.assoc=v:=by
    simp[c]
   have mem:∀ n,(n≠0/\∃ u∈t :: r,u.level=n)↔(n≠0/\∃ u∈r,u.level=n):=λn=>by
    constructor
    .rintro⟨h1,u,hu,rfl⟩
     rcases aaT.1 hu with rfl | hu
     .exact absurd c h1
     .exact⟨h1,u,hu,rfl⟩
    .rintro⟨h1,u,hu,rfl⟩;exact⟨h1,u,by simp[hu],rfl⟩
   cases s:oy r a top with
   | none=>rw[s] at g;rw[one,q];exact g
   | some x =>
    obtain⟨z,b⟩:=x
    rw[s] at g
    obtain⟨i1,i2,i3,i4,i5,i6,i7⟩:=g
    refine⟨one.2 i1,q.2 i2,i3,λn=>by rw[i4,mem],i5,?_,?_⟩
    .intro u hu d
     rcases aaT.1 hu with rfl | hu
     .exact absurd c d
     .exact i6 u hu d
    .rcases i7 with h | ⟨u,hu,h⟩
     .exact .inl h
     .exact .inr ⟨u,by simp[hu],h⟩
  .rw[aaD c]
   have H:=E t (by simp) c
   by_cases j:(fe a t.level).getD 0≠0/\(fe a t.level).getD 0≠t.assoc
   .rw[aaF j]
    simp only
    rintro⟨_,o⟩
    cases hp:fe a t.level with
    | none=>simp[hp] at j
    | some v =>
     have:=o t (by simp) v c hp
     simp[hp] at j
     exact j.2 this.symm
   .rw[aaD j]
    have i:∀ v,fe a t.level=some v->t.assoc=v:=λv hp=>by
     have:=B _ _ hp
     simp[hp] at j
     exact(j this).symm
    have f:∀ n,fe (lB t.level t.assoc a) n=if n=t.level then some t.assoc else fe a n:=λn=>by
     rw[Kc];simp
    have hk:=LB (k:=t.level) (v:=t.assoc) A
    have g:=B9 r (lB t.level t.assoc a) (if t.level > top then t.level else top) p (λn v hp=>by
     rw[f] at hp
     split at hp
     .simp at hp;rw[<-hp];exact H
     .exact B n v hp) hk.1
    have both:(yo (t :: r)/\∀ u∈t :: r,∀ v,u.level≠0->fe a u.level=some v->u.assoc=v)↔(yo r/\∀ u∈r,∀ v,u.level≠0->fe (lB t.level t.assoc a) u.level=some v->u.assoc=v):=by
     constructor
     .rintro⟨h1,o⟩
      refine⟨λu hu w hw=>h1 u (by simp[hu]) w (by simp[hw]),λu hu v d hp=>?_⟩
      rw[f] at hp
      split at hp
      .rename_i e
       simp at hp;rw[<-hp]
       exact h1 u (by simp[hu]) t (by simp) e d
      .exact o u (by simp[hu]) v d hp
     .rintro⟨h1,o⟩
      have C:∀ u∈r,u.level=t.level->u.assoc=t.assoc:=λu hu e=>o u hu t.assoc (by rw[e];exact c) (by rw[f,aaF e])
      refine⟨λu hu w hw e d=>?_,λu hu v d hp=>?_⟩
      .rcases aaT.1 hu with F | y
       .rcases aaT.1 hw with D | m
        .rw[F,D]
        .rw[F] at e ⊢
         exact(C w m e.symm).symm
       .rcases aaT.1 hw with D | m
        .rw[D] at e ⊢
         exact C u y e
        .exact h1 u y w m e d
      .rcases aaT.1 hu with rfl | hu
       .exact i v hp
       .by_cases e:u.level=t.level
        .rw[C u hu e];exact i v (by rw[<-e];exact hp)
        .exact o u hu v d (by rw[f,aaD e];exact hp)
    have G:top<=(if t.level > top then t.level else top)/\t.level<=(if t.level > top then t.level else top):=by split <;> omega
    cases s:oy r (lB t.level t.assoc a) (if t.level > top then t.level else top) with
    | none=>rw[s] at g;simp only;rw[both];exact g
    | some x =>
     obtain⟨z,b⟩:=x
     rw[s] at g
     obtain⟨i1,i2,i3,i4,i5,i6,i7⟩:=g
     obtain⟨I,J⟩:=both.2 ⟨i1,i2⟩
     refine⟨I,J,i3,λn=>?_,by omega,?_,?_⟩
     .rw[i4,hk.2]
      constructor
      .rintro ((rfl | h) | ⟨h1,u,hu,h⟩)
       .exact .inr ⟨c,t,by simp,rfl⟩
       .exact .inl h
       .exact .inr ⟨h1,u,by simp[hu],h⟩
      .rintro (h | ⟨h1,u,hu,h⟩)
       .exact .inl (.inr h)
       .rcases aaT.1 hu with rfl | hu
        .exact .inl (.inl h.symm)
        .exact .inr ⟨h1,u,hu,h⟩
     .intro u hu d
      rcases aaT.1 hu with rfl | hu
      .omega
      .exact i6 u hu d
     .rcases i7 with h | ⟨u,hu,h⟩
      .by_cases e:t.level > top
       .rw[aaF e] at h;exact .inr ⟨t,by simp,h.symm,c⟩
       .rw[aaD e] at h;exact .inl h
      .exact .inr ⟨u,by simp[hu],h⟩
theorem FB (l:List Term) (h:∀ t∈l,mO t=true):um l=true↔∀ t∈l,∀ n:Int,1<=n->n<=t.level->iJ l n=true:=by
 have g:∀ t∈l,0<=t.level/\(t.level≠0->t.assoc≠0):=λt b=>by
  have:=h t b
  simp only[mO,aaK,aaP,abB] at this
  refine⟨this.1.1.1.1.2,λh1 i=>?_⟩
  have e:=this.2
  simp[h1,i] at e
 have m:=B9 l [] 0 (λt b=>(g t b).2) (by simp[fe]) (by simp)
 have o:∀ n:Int,1<=n->(iJ l n=true↔∃ a,(∃ t∈l,t.level=n)/\∀ t∈l,t.level=n->t.assoc=a):=λn y=>FX n l (λt b e=>(g t b).2 (by omega))
 unfold um
 cases f:oy l [] 0 with
 | none =>
  rw[f] at m
  simp only[aba,false_iff]
  intro c
  refine m ⟨λt b u hu e p=>?_,λt b v _ hp=>by simp[fe] at hp⟩
  have h1:=g t b
  obtain⟨a,_,i⟩:=(o t.level (by omega)).1 (c t b t.level (by omega) (by omega))
  exact(i t b rfl).trans (i u hu e.symm).symm
 | some x =>
  obtain⟨a,top⟩:=x
  rw[f] at m
  obtain⟨i1,_,i3,i4,i5,i6,i7⟩:=m
  simp only[abB]
  have d:∀ n,n∈a.map (·.1)↔n≠0/\∃ t∈l,t.level=n:=λn=>by rw[i4];simp
  have j:∀ x∈a.map (·.1),1<=x/\x<=(top.toNat:Int):=λx f=>by
   obtain⟨h1,t,b,rfl⟩:=(d x).1 f
   have:=(g t b).1
   have:=i6 t b h1
   omega
  constructor
  .intro hlen t b n k r
   have q:t.level<=top:=i6 t b (by omega)
   have hm:=XC i3 j (by simp;omega) k (show n<=(top.toNat:Int) by omega)
   obtain⟨p,u,hu,rfl⟩:=(d n).1 hm
   exact(o _ k).2 ⟨u.assoc,⟨u,hu,rfl⟩,λw hw e=>i1 w hw u hu e (by omega)⟩
  .intro c
   have h1:a.length<=top.toNat:=by
    have:=oV _ (nS top.toNat) i3 (λx f=>yY.2 (j x f))
    simpa [nS] using this
   have i:top.toNat<=a.length:=by
    rcases i7 with e | ⟨t,b,e,p⟩
    .subst e;simp
    .have:=oV (nS top.toNat) (a.map (·.1)) (KW _) (λx f=>by
      rw[yY] at f
      have:=(g t b).1
      obtain⟨_,⟨u,hu,s⟩,_⟩:=(o x f.1).1 (c t b x f.1 (by omega))
      exact(d x).2 ⟨by omega,u,hu,s⟩)
     simpa [nS] using this
   omega
theorem E7 (g:af):∀ (l:List Term) (i:Int),k7 g l i=true↔∀ (k:Nat) (t:Term),l[k]?=some t->lR g (i+k) t=true
 | [],i=>by simp[k7]
 | t :: r,i=>by
  simp only[k7,aaK,E7 g r (i+1)]
  constructor
  .rintro⟨h1,a⟩ k u hk
   cases k with
   | zero=>simp at hk;subst hk;simpa using h1
   | succ k =>
    have:=a k u (by simpa using hk)
    rw[show i+((k+1:Nat):Int)=i+1+k by push_cast;omega];exact this
  .intro h
   refine⟨by simpa using h 0 t rfl,λk u hk=>?_⟩
   have:=h (k+1) u (by simpa using hk)
   rw[show i+1+(k:Int)=i+((k+1:Nat):Int) by push_cast;omega];exact this
theorem vX (g:af):∀ (l:List ByteArray) (i:Int),tV g l i=true↔∀ (k:Nat) (s:ByteArray),l[k]?=some s->nD g (i+k) s=true
 | [],i=>by simp[tV]
 | t :: r,i=>by
  simp only[tV,aaK,vX g r (i+1)]
  constructor
  .rintro⟨h1,a⟩ k u hk
   cases k with
   | zero=>simp at hk;subst hk;simpa using h1
   | succ k =>
    have:=a k u (by simpa using hk)
    rw[show i+((k+1:Nat):Int)=i+1+k by push_cast;omega];exact this
  .intro h
   refine⟨by simpa using h 0 t rfl,λk u hk=>?_⟩
   have:=h (k+1) u (by simpa using hk)
   rw[show i+1+(k:Int)=i+((k+1:Nat):Int) by push_cast;omega];exact this
theorem HG (g:af) (s:ByteArray):nV g s < 0↔s ∉ g.ai.map Term.name:=by
 unfold nV
 rcases AY s (g.ai.map Term.name) 0 (by omega) with ⟨h1,a⟩ | ⟨k,h1,a,_⟩
 .exact⟨λ_=>a,λ_=>h1⟩
 .constructor
  .intro h;omega
  .intro h;exact absurd (aaI a) h
theorem HO (g:af) (t:Term):tR g t=true↔∀ n:Int,1<=n->n<=t.level->iJ g.ai n=true:=by
 simp only[tR,aaZ,abA]
 constructor
 .intro h n h1 a
  have:=h (n - 1).toNat (by omega)
  rwa [show (((n - 1).toNat:Nat):Int)+1=n by omega] at this
 .intro h k hk
  exact h _ (by omega) (by omega)
theorem OE (g:af):sG g=bp g:=by
 rw[abD]
 simp only[sG,bp,lq,mn,uW,aaK,aaP,E7,vX,L2,aaZ,acD,List.any_eq_false,Bool.not_eq_true,Sh,vq,ab9,Int.zero_add,Int.zero_sub,Bool.not_not]
 have q:(∀ (k:Nat) (t:Term),g.ai[k]?=some t->lR g k t=true)↔(∀ t∈g.ai,mO t=true)/\(g.ai.map Term.name).Nodup/\(∀ t∈g.ai,tR g t=true):=by
  rw[<-wJ]
  constructor
  .intro h
   have i:∀ t∈g.ai,∃ k:Nat,g.ai[k]?=some t:=λt d=>List.getElem?_of_mem d
   refine⟨λt d=>?_,λk s hk=>?_,λt d=>?_⟩
   .obtain⟨k,hk⟩:=i t d
    have:=h k t hk
    simp only[lR,mO,aaK,aaP] at this ⊢
    simp[this]
   .rw[aaE,aaO] at hk
    obtain⟨t,hk,rfl⟩:=hk
    have:=h k t hk
    simp only[lR,aaK,abB] at this
    exact this.1.1.1.1.1.1.2
   .obtain⟨k,hk⟩:=i t d
    have:=h k t hk
    simp only[lR,aaK] at this
    exact this.2
  .rintro⟨h1,j,l⟩ k t hk
   have hm:=aaI hk
   have a:=h1 t hm
   have b:=j k t.name (by rw[aaE,hk];rfl)
   have c:=l t hm
   simp only[lR,mO,nV,aaK,aaP] at a ⊢
   simp[a,b,c]
 have r:(∀ (k:Nat) (s:ByteArray),g.al[k]?=some s->nD g k s=true)↔(∀ s∈g.al,gZ (gp s)=true)/\g.al.Nodup/\(∀ s∈g.al,s ∉ g.ai.map Term.name):=by
  rw[<-wJ]
  constructor
  .intro h
   have i:∀ t∈g.al,∃ k:Nat,g.al[k]?=some t:=λt d=>List.getElem?_of_mem d
   refine⟨λt d=>?_,λk s hk=>?_,λt d=>?_⟩
   .obtain⟨k,hk⟩:=i t d
    have:=h k t hk
    simp only[nD,aaK] at this
    exact this.1.1
   .have:=h k s hk
    simp only[nD,Bg,aaK,abB] at this
    exact this.1.2
   .obtain⟨k,hk⟩:=i t d
    have:=h k t hk
    simp only[nD,aaK,aaP] at this
    exact(HG g t).1 this.2
  .rintro⟨h1,j,l⟩ k s hk
   have hm:=aaI hk
   have a:=h1 s hm
   have b:=j k s hk
   have c:=(HG g s).2 (l s hm)
   simp[nD,Bg,a,b,c]
 rw[q,r]
 constructor
 .rintro⟨⟨⟨⟨⟨⟨⟨⟨t1,t2⟩,t3⟩,n1,v⟩,w,x⟩,m,a2,a3⟩,s1,s2⟩,n⟩,o⟩
  have p:=(FB g.ai t1).1 t3
  exact⟨⟨⟨⟨⟨⟨⟨t2,t1,a2,λt d=>(HO g t).2 (p t d)⟩,⟨by omega,by omega⟩,λs f=>by simpa using n s f,m,λs f hm=>a3 s f s hm rfl⟩,by omega⟩,by omega⟩,s1⟩,by omega⟩,o⟩
 .rintro⟨⟨⟨⟨⟨⟨⟨t2,t1,a2,t3⟩,⟨n1,v⟩,n,m,a3⟩,w⟩,x⟩,s1⟩,s2⟩,o⟩
  have p:=(FB g.ai t1).2 (λt d=>(HO g t).1 (t3 t d))
  exact⟨⟨⟨⟨⟨⟨⟨⟨t1,t2⟩,p⟩,by omega,by omega⟩,by omega,by omega⟩,m,a2,λs f u hu e=>a3 s f (e ▸ hu)⟩,s1,by omega⟩,λs f=>by simp[n s f]⟩,o⟩
theorem vN (g:af) (a:g.Ok) (b:g.al.length+g.ai.length<=1000):az Tryz.prog 89 [.agg (ag g)] (gb (bp g)):=by
 rw[<-OE];exact O3 g a b
def Jt (n:Nat) (r:aX):Prop:=bM r.left/\0<=r.left/\r.left < n/\r.right.length<=6/\∀ s∈r.right,bM s/\(s < 0->-1 - s < n)
theorem af.cY.yn {g:af} (a:g.Ok) (h:g.cY) {r:aX} (hr:r∈g.rules):Jt g.al.length r :=
 ⟨(a.au r hr).1,(h.left r hr).1,(h.left r hr).2,h.right r hr,λs b=>⟨(a.au r hr).2.2.2 s b,λc=>h.neg hr b c⟩⟩
def vO:SF:=⟨ae [ab [bB 3 false],.region false [⟨none,[aa 4 0,aF 5 .lss 4 0,aa 6 5]⟩,⟨(some (6,true)),[ak 7 1,aa 8 0,((some 9),.op (.arith .sub (.val (.val (.int .i64 (-1)))) (.tmp 8))),aO 10 1 7 9,ak 11 10,c9 12 11]⟩,⟨none,[eO 13 6 12,aa 3 13]⟩],.ret],
 [.tmp 3],14⟩
theorem Bb:aP Tryz.prog 228 []=some vO:=by kernel_rfl
def z7:SF:=⟨ae [ab [cF 2 0,cF 3 1,bB 4 false],ab [ao 5 1 2,ak 6 5,((some 7),.op (.xl 228 [] [(.tmp 3)])),bk 8 90 [6,7],c9 9 8,aa 4 9],.ret],
 [.tmp 4],10⟩
theorem Dl:aP Tryz.prog 164 [2,3]=some z7:=by kernel_rfl
def qN:SF:=⟨ae [ab [cF 2 0,bT 4 1],ae [ab [aZ 5 3 2,aa 6 1,bk 7 164 [5,6]],bb 7 (ae [ab [ao 8 0 2,ak 9 8,((some 10),.op (.bJ 1 1 [(.val (.int .i64 0))] [(0,(.tmp 9))])),aa 4 10],.ret])],ab [bT 4 1],.ret],
 [.tmp 4],11⟩
theorem xe:aP Tryz.prog 226 [2]=some qN:=by kernel_rfl
def pO:SC :=
 ae [ab [aQ 24 .lss 23 22],bX 24 (.exit 0),.block 1 (ae [ab [aO 25 1 21 23,ak 26 25,aa 7 26],ab [aa 27 7,aF 28 .lss 27 0],bb 28 (ab [aa 29 5,aa 30 7,((some 31),.op (.arith .sub (.val (.val (.int .i64 (-1)))) (.tmp 30))),((some 32),.op (.bJ 1 1 [(.val (.int .i64 0))] [(0,(.tmp 31))])),fD 33 1 8 29 32,aa 5 33])]),ab [aF 34 .add 23 1,aa 23 34]]
def te:SF:=⟨ae [ab [cF 3 0,bT 5 1],ae [.region false [⟨none,[aa 8 1,ao 9 0 3,ak 10 9,aO 11 1 8 10,ak 12 11,c9 13 12,aa 14 13]⟩,⟨(some (14,false)),[aZ 15 3 3,ak 16 2,bk 17 164 [15,16],c9 18 17]⟩,⟨none,[cy 19 14 18]⟩],bb 19 (ae [ab [bT 5 1],.ret])],ae [ab [ao 20 1 3,ak 21 20,aN 22 21,aR 23 0],bZ 0 pO],ab [aa 35 5,aa 5 35],.ret],
 [.tmp 5],36⟩
theorem xR:aP Tryz.prog 227 [3]=some te:=by kernel_rfl
theorem KY (r:aX) (is:List Bool):∀ v∈[V.agg (bg r),cI is],Tree v:=by
 intro v a;simp at a
 rcases a with rfl | rfl
 .exact bL _ (ja r)
 .exact im is
def GZ (is:List Bool) (s:Int):Bool:=decide (s < 0) && !is.getD (-1 - s).toNat false
theorem OP (is:List Bool) (s:Int) (e:bM s/\(s < 0->-1 - s < is.length)):az Tryz.prog 228 [gi s,.aL [cI is] 0] (gb (GZ is s)):=by
 refine az.val ?_ λH=>?_
 .intro v a;simp at a
  rcases a with rfl | rfl
  .exact .val _
  .exact jX (by intro v a;simp at a;subst a;exact im is)
 obtain⟨⟨h1,f⟩,g⟩:=e
 refine aw.of mixed Bb ?_
 simp(disch:=omega)only[↓wr,seval,wq,vO,cI]
 apply aj.dec<;>intro h
 .have d:is[(-1 - s).toNat]?=some (is[(-1 - s).toNat]'(by omega)):=aaB (by omega)
  have c:is.getD (-1 - s).toNat false=is[(-1 - s).toNat]'(by omega):=by simp[aaA,d]
  generalize is[(-1 - s).toNat]'(by omega)=b at d c
  simp(disch:=omega)only[↓wr,seval,wq,aaE,d]
  simp only[GZ,c,h,decide_true,abM]
 .simp(disch:=omega)only[↓wr,seval,wq]
  simp[GZ,h]
theorem PL {is:List Bool} {l:List Int} : (!l.any (GZ is))=dB l is true:=by
 simp only[dB,List.not_any_eq_all_not]
 congr 1
 funext s
 simp only[GZ]
 by_cases h:0<=s
 .simp[h,show ¬ s < 0 by omega]
 .simp[h,show s < 0 by omega]
theorem A9 (r:aX) (is:List Bool) (hr:aK r.right) (b:∀ s∈r.right,bM s/\(s < 0->-1 - s < is.length)):az Tryz.prog 164 [.agg (bg r),cI is] (gb (dB r.right is true)):=by
 rw[<-PL]
 refine az.val (KY r is) λH=>?_
 refine aw.of mixed Dl ?_
 simp(disch:=omega)only[↓wr,seval,wq,z7,bg,cI,encI]
 refine ax.pure (ou r.right hr 228 [.aL [cI is] 0] (by
  intro v a;simp at a;subst a
  exact jX (by intro v a;simp at a;subst a;exact im is)) (GZ is) (λx c=>OP is x (b x c)) (by kernel_rfl)) ?_
 simp(disch:=omega)only[↓wr,seval,wq]
theorem kK {h:aE} {u:V} {l:List Int} (a:aT h.view u 1 (l.map λx=>[gi x])):cM h u (encI l):=cM.Jh (f:=Value.int .i64) a
theorem GU (r:aX) (is:List Bool) (hr:Jt is.length r):cK Tryz.prog 226 [.agg (bg r),cI is] (encI (if dB r.right is true=true then [r.left] else [])):=by
 obtain⟨f,_,_,c,d⟩:=hr
 have a:aK r.right:=by unfold aK;omega
 refine cK.of (KY r is) ?_
 refine aw.of mixed xe ?_
 simp(disch:=omega)only[↓wr,seval,wq,qN,bg,encI]
 refine ax.pure (A9 r is a d) ?_
 repeat' (first | ((first|apply aj.dec|apply aj.eq|apply aj.ne|apply aj.split)<;>intro)|(simp(disch:=omega)only[↓wr,seval,wq,bg,encI]))
 all_goals first
  | (intro n e b;rw[aaF (by simp[*])];exact kK (l:=[r.left]) (.inr ⟨n,rfl,by rw[b];simp[View.set]⟩))
  | (intro e b;rw[aaD (by simp[*])];exact .emp _)
def iq (l:List Int):List Int:=(l.filter λs=>decide (s < 0)).map λs=>-1 - s
theorem RK (r:aX) (is p:List Bool):∀ v∈[V.agg (bg r),cI is,.aL [cI p] 0],Tree v:=by
 intro v a;simp at a
 rcases a with rfl | rfl | rfl
 .exact bL _ (ja r)
 .exact im is
 .exact jX (by intro v a;simp at a;subst a;exact im p)
theorem I2 (r:aX) (is p:List Bool) (hr:Jt is.length r) (hp:p.length=is.length) :
  cK Tryz.prog 227 [.agg (bg r),cI is,.aL [cI p] 0] (encI (if (is.getD r.left.toNat false && dB r.right p true)=true then iq r.right else [])):=by
 obtain⟨F,A,B,C,l⟩:=hr
 have n:aK r.right:=by unfold aK;omega
 refine cK.of (RK r is p) ?_
 refine aw.of mixed xR ?_
 have o:is[r.left.toNat]?=some (is[r.left.toNat]'(by omega)):=aaB (by omega)
 have g:is.getD r.left.toNat false=is[r.left.toNat]'(by omega):=by simp[aaA,o]
 generalize is[r.left.toNat]'(by omega)=b at o g
 rw[g]
 simp(disch:=omega)only[↓wr,seval,wq,te,bg,encI,cI,aaE,o]
 cases b with
 | false =>
  simp(disch:=omega)only[↓wr,seval,wq]
  intro z q
  exact .emp _
 | true =>
  simp(disch:=omega)only[↓wr,seval,wq,bg,encI,cI]
  refine ax.pure (A9 r p n (λs j=>⟨(l s j).1,λh=>by rw[hp];exact(l s j).2 h⟩)) ?_
  repeat' (first | ((first|apply aj.dec|apply aj.eq|apply aj.ne|apply aj.split)<;>intro)|(simp(disch:=omega)only[↓wr,seval,wq,bg,encI,cI]))
  .rename_i t
   rw[aaF (by simp[t])]
   refine ba.up r.right.length (λi T H=>(∃ u,T 5=u/\aT H u 1 ((iq (r.right.take i)).map λx=>[gi x]))/\T 21=encI r.right/\T 22=gi r.right.length/\T 23=gi i) ?_ ?_
   .exact⟨⟨_,rfl,.nil⟩,rfl,rfl,rfl⟩
   rintro i k T H' hk ⟨⟨u,e,hu⟩,a,c,d⟩
   simp(disch:=omega)only[↓wr,seval,wq,pO,e,a,c,d,encI]
   apply aj.dec<;>intro D
   .have v:r.right[i]?=some (r.right[i]'(by omega)):=aaB (by omega)
    have hm:r.right[i]'(by omega)∈r.right:=aaL _
    have f:iq (r.right.take (i+1))=iq (r.right.take i) ++ iq [r.right[i]'(by omega)]:=by
     rw[aa3,v,iq,ach,aaW];rfl
    have hlen:(iq (r.right.take i)).length<=6:=by
     have h1:(iq (r.right.take i)).length<=(r.right.take i).length:=by simp only[iq,aaJ];exact abJ _ _
     have G:(r.right.take i).length<=i:=List.length_take_le _ _
     omega
    generalize r.right[i]'(by omega)=s at v hm f
    obtain⟨⟨s1,s2⟩,I⟩:=l s hm
    simp(disch:=omega)only[↓wr,seval,wq,e,a,c,d,encI,aaE,v]
    apply aj.dec<;>intro w
    .simp(disch:=omega)only[↓wr,seval,wq,e,a,c,d]
     intro m hm
     try simp(disch:=omega)only[↓wr,seval,wq,e,a,c,d,bz]
     refine wc (hu.fresh hm) (by simp) (by simp[aI]) (by unfold aC;simp at hlen ⊢;omega) (by unfold aC;simp at hlen ⊢;omega) ?_
     intro E J y _
     simp(disch:=omega)only[↓wr,seval,wq,a,c,d]
     refine aG hk (by omega) ⟨⟨E,rfl,?_⟩,a,c,rfl⟩
     rw[f]
     simpa [iq,w] using y
    .simp(disch:=omega)only[↓wr,seval,wq,e,a,c,d]
     refine aG hk (by omega) ⟨⟨u,e,?_⟩,a,c,rfl⟩
     rw[f]
     simpa [iq,w] using hu
   .rw[aaS (by omega)] at hu
    simp(disch:=omega)only[↓wr,seval,wq,e,a,c,d]
    intro z q
    exact kK (by rw[q];exact hu)
  .rename_i t
   intro z q
   rw[aaD (by simp[t])]
   exact .emp _
end Gv
