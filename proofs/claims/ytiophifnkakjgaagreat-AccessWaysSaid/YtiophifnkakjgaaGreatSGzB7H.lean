/-
  Part 8 of the proof: what the machine does and what the functions answer.
  Conditions: those that each lemma names.
-/
import Derived.Shelf.SlIter.Sorted
import Derived.Shelf.SortM.Plain
import Derived.Shelf.SortM.SortNone
import Derived.Shelf.SlicesG.CompactS
import Derived.Test.YtiophifnkakjgaaGreatSGzB7G
set_option linter.unusedSimpArgs false
set_option linter.unusedVariables false
set_option maxRecDepth 100000
set_option maxHeartbeats 20000000
namespace Gv
open Go Go.Proofs
def dq {α:Type} (p:α->Bool):List α->Int->Int
 | [],_=>-1
 | x :: l,i=>if p x then i else dq p l (i+1)
theorem u7 {α:Type} (p:α->Bool):∀ (l:List α) (i:Int),0<=i->decide (0<=dq p l i)=l.any p
 | [],_,_=>by simp[dq]
 | x :: l,i,h=>by
  have a:=u7 p l (i+1) (by omega)
  rw[List.any_cons,dq]
  by_cases hp:p x=true
  .rw[St hp,hp];simp[h]
  .rw[Sr hp,a];simp[hp]
theorem BZ {f:FuncId} {xs cap:List V} (h:∀ v∈xs,Tree v) (b:∀ v∈cap,Tree v):Tree (.fn f xs cap):=by
 refine .fn _ _ _ (λi hi=>?_) (λi hi=>?_)
 .have a:xs.getD i .any=xs[i]:=by simp[Sm,hi]
  rw[a];exact h _ (Sx _)
 .have a:cap.getD i .any=cap[i]:=by simp[Sm,hi]
  rw[a];exact b _ (Sx _)
def ib:SC :=
 ae [ab [aU 9 .lss 8 7],cb 9 (.exit 0),.block 1 (ae [ab [aa 10 8,aa 5 10],ab [aa 11 1,aa 12 0,aa 13 5,aZ 14 1 12 13,ak 15 14,((some 16),.call (.tmp 11) [(.tmp 15)])],bf 16 (ae [ab [aa 17 5,aa 4 17],.ret])]),ab [aF 18 .add 8 1,aa 8 18]]
def iQ:SF:=⟨ae [ab [aR 4 0],ae [ab [aa 6 0,aP 7 6,aR 8 0],cd 0 ib],ab [aR 4 (-1)],.ret],
 [.tmp 4],19⟩
theorem lX:aI Tryz.prog 160 []=some iQ:=by kernel_rfl
def hD:SF:=⟨ae [ab [bm 4 false],ab [aa 5 0,aa 6 1,bg 7 160 [5,6],aF 8 .geq 7 0,aa 4 8],.ret],
 [.tmp 4],9⟩
theorem ky:aI Tryz.prog 90 []=some hD:=by kernel_rfl
def fS:SC :=
 ae [ab [aU 9 .lss 8 7],cb 9 (.exit 0),.block 1 (ae [ab [aa 10 8,aa 5 10],ab [aa 11 1,aa 12 0,aa 13 5,aZ 14 1 12 13,ak 15 14,((some 16),.call (.tmp 11) [(.tmp 15)])],bf 16 (ae [ab [aa 17 5,aa 4 17],.ret])]),ab [aF 18 .add 8 1,aa 8 18]]
def gq:SF:=⟨ae [ab [aR 4 0],ae [ab [aa 6 0,aP 7 6,aR 8 0],cd 0 fS],ab [aR 4 (-1)],.ret],
 [.tmp 4],19⟩
theorem jI:aI Tryz.prog 222 []=some gq:=by kernel_rfl
def fL:SF:=⟨ae [ab [bm 4 false],ab [aa 5 0,aa 6 1,bg 7 222 [5,6],aF 8 .geq 7 0,aa 4 8],.ret],
 [.tmp 4],9⟩
theorem jf:aI Tryz.prog 156 []=some fL:=by kernel_rfl
theorem Du (l:List Int) (g:aK l) (f:FuncId) (cap:List V) (p:Int->Bool) (h:∀ x∈l,ay Tryz.prog f (gi x :: cap) (gb (p x))) (d:dw Tryz.prog f=true) (H:View) :
  au Tryz.prog 160 [encI l,.fn f [] cap] H λr _=>r=gi (dq p l 0):=by
 refine au.of mixed lX ?_
 unfold aK at g
 simp(disch:=omega)only[↓wr,seval,wq,iQ,encI]
 refine aY.up l.length (λi T _=>dq p (l.drop i) i=dq p l 0/\T 0=encI l/\T 1=.fn f [] cap/\T 7=gi l.length/\T 8=gi i) ⟨rfl,rfl,rfl,rfl,rfl⟩ ?_
 rintro i k T H hk ⟨hi,a,h1,b,c⟩
 simp(disch:=omega)only[↓wr,seval,wq,ib,a,h1,b,c,encI]
 apply ai.dec<;>intro j
 .have e:l[i]?=some (l[i]'(by omega)):=Sn (by omega)
  have hm:l[i]'(by omega)∈l:=Sx _
  rw[eC (show i < l.length by omega)] at hi
  generalize l[i]'(by omega)=x at e hm hi
  simp(disch:=omega)only[↓wr,seval,wq,a,h1,b,c,encI,Ss,e]
  refine av.pure (h x hm) ?_ d
  simp only[dq] at hi
  repeat' (first | ((first|apply ai.dec|apply ai.eq|apply ai.ne|apply ai.split)<;>intro)|(simp(disch:=omega)only[↓wr,seval,wq,a,h1,b,c]))
  .rename_i hp
   rw[<-hi,St hp]
  .rename_i hp
   refine aH hk (by omega) ⟨?_,a,h1,b,rfl⟩
   rw[Sr (by simp[hp])] at hi
   push_cast;exact hi
 .rw[S4 (by omega)] at hi
  simp(disch:=omega)only[↓wr,seval,wq,a,h1,b,c]
  rw[<-hi];rfl
theorem xC {l:List Int} {f:FuncId} {cap:List V} (a:∀ v∈cap,Tree v):∀ v∈[encI l,.fn f [] cap],Tree v:=by
 intro v b;simp at b
 rcases b with rfl | rfl
 .exact bU l
 .exact BZ (by simp) a
theorem lM (l:List Int) (c:aK l) (f:FuncId) (cap:List V) (a:∀ v∈cap,Tree v) (p:Int->Bool) (d:∀ x∈l,ay Tryz.prog f (gi x :: cap) (gb (p x))) (b:dw Tryz.prog f=true) :
  ay Tryz.prog 90 [encI l,.fn f [] cap] (gb (l.any p)):=by
 refine ay.val (xC a) λH=>?_
 refine au.of mixed ky ?_
 simp(disch:=omega)only[↓wr,seval,wq,hD]
 refine av.pure (ay.val (xC a) (Du l c f cap p d b)) ?_
 simp(disch:=omega)only[↓wr,seval,wq]
 rw[<-u7 p l 0 (by omega)]
theorem DB (l:List ByteArray) (g:aK l) (f:FuncId) (cap:List V) (p:ByteArray->Bool) (h:∀ x∈l,ay Tryz.prog f (gs x :: cap) (gb (p x))) (d:dw Tryz.prog f=true) (H:View) :
  au Tryz.prog 222 [encS l,.fn f [] cap] H λr _=>r=gi (dq p l 0):=by
 refine au.of mixed jI ?_
 unfold aK at g
 simp(disch:=omega)only[↓wr,seval,wq,gq,encS]
 refine aY.up l.length (λi T _=>dq p (l.drop i) i=dq p l 0/\T 0=encS l/\T 1=.fn f [] cap/\T 7=gi l.length/\T 8=gi i) ⟨rfl,rfl,rfl,rfl,rfl⟩ ?_
 rintro i k T H hk ⟨hi,a,h1,b,c⟩
 simp(disch:=omega)only[↓wr,seval,wq,fS,a,h1,b,c,encS]
 apply ai.dec<;>intro j
 .have e:l[i]?=some (l[i]'(by omega)):=Sn (by omega)
  have hm:l[i]'(by omega)∈l:=Sx _
  rw[eC (show i < l.length by omega)] at hi
  generalize l[i]'(by omega)=x at e hm hi
  simp(disch:=omega)only[↓wr,seval,wq,a,h1,b,c,encS,Ss,e]
  refine av.pure (h x hm) ?_ d
  simp only[dq] at hi
  repeat' (first | ((first|apply ai.dec|apply ai.eq|apply ai.ne|apply ai.split)<;>intro)|(simp(disch:=omega)only[↓wr,seval,wq,a,h1,b,c]))
  .rename_i hp
   rw[<-hi,St hp]
  .rename_i hp
   refine aH hk (by omega) ⟨?_,a,h1,b,rfl⟩
   rw[Sr (by simp[hp])] at hi
   push_cast;exact hi
 .rw[S4 (by omega)] at hi
  simp(disch:=omega)only[↓wr,seval,wq,a,h1,b,c]
  rw[<-hi];rfl
theorem xG {l:List ByteArray} {f:FuncId} {cap:List V} (a:∀ v∈cap,Tree v):∀ v∈[encS l,.fn f [] cap],Tree v:=by
 intro v b;simp at b
 rcases b with rfl | rfl
 .exact wu l
 .exact BZ (by simp) a
theorem y4 (l:List ByteArray) (c:aK l) (f:FuncId) (cap:List V) (a:∀ v∈cap,Tree v) (p:ByteArray->Bool) (d:∀ x∈l,ay Tryz.prog f (gs x :: cap) (gb (p x))) (b:dw Tryz.prog f=true) :
  ay Tryz.prog 156 [encS l,.fn f [] cap] (gb (l.any p)):=by
 refine ay.val (xG a) λH=>?_
 refine au.of mixed jf ?_
 simp(disch:=omega)only[↓wr,seval,wq,fL]
 refine av.pure (ay.val (xG a) (DB l c f cap p d b)) ?_
 simp(disch:=omega)only[↓wr,seval,wq]
 rw[<-u7 p l 0 (by omega)]
theorem CF {l:List Value} : ∀ v∈l.map V.val,Tree v:=by
 intro v a;obtain⟨x,_,rfl⟩:=S5.1 a;exact .val _
def xl:SF:=⟨ae [ab [bm 6 false],.region false [⟨none,[aa 7 0,aa 8 1,aU 9 .geq 7 8,aa 10 9]⟩,⟨(some (10,true)),[aa 11 0,aa 12 2,aU 13 .leq 11 12]⟩,⟨none,[eA 14 10 13,aa 6 14]⟩],.ret],
 [.tmp 6],15⟩
theorem Ao:aI Tryz.prog 154 []=some xl:=by kernel_rfl
def Cg:SF:=⟨ae [ab [aR 2 0],ab [aa 3 0,((some 4),.op (.arith .sub (.val (.val (.int .i64 (-1)))) (.tmp 3))),aa 2 4],.ret],
 [.tmp 2],5⟩
theorem EE:aI Tryz.prog 194 []=some Cg:=by kernel_rfl
def Dj:SF:=⟨ae [ab [cG 2 0,bm 4 false],ae [ab [aa 5 1,aF 6 .lss 5 0],bf 6 (ae [.region true [⟨none,[aa 7 1,bg 8 194 [7],al 9 1 2,ak 10 9,aP 11 10,aU 12 .lss 8 11,aa 4 12]⟩],.ret])],ab [aa 13 1,al 14 0 2,ak 15 14,aP 16 15,aU 17 .lss 13 16,aa 4 17],.ret],
 [.tmp 4],18⟩
theorem Ec:aI Tryz.prog 130 [2]=some Dj:=by kernel_rfl
def xw:SF:=⟨ae [ab [bm 4 false],.region false [⟨none,[ba 5 4 1,aa 6 0,bg 7 130 [5,6],dp 8 7,aa 9 8]⟩,⟨(some (9,false)),[aa 10 0,aF 11 .geq 10 0,aa 12 11]⟩,⟨(some (12,true)),[al 13 2 2,ak 14 13,aF 15 .eql 14 (-1)]⟩,⟨(some (9,false)),[eA 16 12 15]⟩,⟨none,[cR 17 9 16,aa 4 17]⟩],.ret],
 [.tmp 4],18⟩
theorem zH:aI Tryz.prog 225 []=some xw:=by kernel_rfl
def Bd:SF:=⟨ae [ab [cG 2 0,cG 3 1,bm 4 false],ae [.region false [⟨none,[al 5 1 3,ak 6 5,aP 7 6,aF 8 .gtr 7 6,aa 9 8]⟩,⟨(some (9,false)),[al 10 2 3,ak 11 10,al 12 0 2,ak 13 12,aP 14 13,aF 15 .sub 14 1,qe 16 154 [(.tmp 11),(.val (.val (.int .i64 (-1)))),(.tmp 15)],dp 17 16]⟩,⟨none,[cR 18 9 17]⟩],bf 18 (ae [ab [bm 4 false],.ret])],ab [al 19 1 3,ak 20 19,((some 21),.op (.sF 225 [] [(.tmp 2),(.tmp 3)])),bg 22 90 [20,21],dp 23 22,aa 4 23],.ret],
 [.tmp 4],24⟩
theorem Dw:aI Tryz.prog 159 [2,3]=some Bd:=by kernel_rfl
theorem qu (a b c:Int):ay Tryz.prog 154 [gi a,gi b,gi c] (gb (decide (b<=a) && decide (a<=c))):=by
 refine ay.val (CF (l:=[.int .i64 a,.int .i64 b,.int .i64 c])) λH=>?_
 refine au.of mixed Ao ?_
 repeat' (first | ((first|apply ai.dec|apply ai.eq|apply ai.ne|apply ai.split)<;>intro)|(simp(disch:=omega)only[↓wr,seval,wq,xl]))
 all_goals simp[*]
theorem PK (s:Int) (a:bK s):ay Tryz.prog 194 [gi s] (gi (-1 - s)):=by
 refine ay.val (CF (l:=[.int .i64 s])) λH=>?_
 obtain⟨h1,b⟩:=a
 refine au.of mixed EE ?_
 repeat' (first | ((first|apply ai.dec|apply ai.eq|apply ai.ne|apply ai.split)<;>intro)|(simp(disch:=omega)only[↓wr,seval,wq,Cg]))
theorem Ii (g:af) (s:Int) (a:bK s):ay Tryz.prog 130 [.agg (ag g),gi s] (gb (eo g s)):=by
 refine ay.val (FI g s) λH=>?_
 refine au.of mixed Ec ?_
 repeat' (first | ((first|apply ai.dec|apply ai.eq|apply ai.ne|apply ai.split)<;>intro)|(refine av.pure (PK s a) ?_)|(simp(disch:=omega)only[↓wr,seval,wq,Dj,ag,encS]))
 .rename_i h;simp[eo,show ¬ (0:Int)<=s by omega]
 .rename_i h;simp[eo,show (0:Int)<=s by omega]
theorem iv {cs:List V} {j:Nat} (h:∀ v∈cs,Tree v):Tree (.aG cs j):=by
 refine .aG _ _ λi hi=>?_
 have a:cs.getD i .any=cs[i]:=by simp[Sm,hi]
 rw[a];exact h _ (Sx _)
theorem Kw (g:af) (r:bk) (s:Int) (b:bK s):ay Tryz.prog 225 [gi s,.aG (ag g) 0,.aG (aQ r) 0] (gb (!oF g r.prec s)):=by
 refine ay.val ?_ λH=>?_
 .intro v a;simp at a
  rcases a with rfl | rfl | rfl
  .exact .val _
  .exact iv (cM g)
  .exact iv (gV r)
 refine au.of mixed zH ?_
 simp(disch:=omega)only[↓wr,seval,wq,xw,ag]
 refine av.pure (Ii g s b) ?_
 repeat' (first | ((first|apply ai.dec|apply ai.eq|apply ai.ne|apply ai.split)<;>intro)|(simp(disch:=omega)only[↓wr,seval,wq,aQ]))
 all_goals simp[oF, *]
theorem NY (g:af) (r:bk) (e:g.Ok) (hr:aK r.right/\∀ x∈r.right,bK x):ay Tryz.prog 159 [.agg (ag g),.agg (aQ r)] (gb (iS g r)):=by
 refine ay.val (FY g r) λH=>?_
 have f:=e.ao
 unfold aK at f
 refine au.of mixed Dw ?_
 repeat' (first | ((first|apply ai.dec|apply ai.eq|apply ai.ne|apply ai.split)<;>intro)|(refine av.pure (qu _ _ _) ?_)|(simp(disch:=omega)only[↓wr,seval,wq,Bd,ag,aQ,encI,encS]))
 .rename_i h;simp[iS,show ¬ r.right.length<=6 by omega]
 .rename_i h1 b
  have c:r.right.length<=6:=by omega
  have a : -1<=r.prec/\r.prec < g.ao.length:=by simp at b;omega
  refine av.pure (lM r.right hr.1 225 [.aG (ag g) 0,.aG (aQ r) 0] ?_ (λs=>!oF g r.prec s) (λx i=>Kw g r x (hr.2 x i)) (by kernel_rfl)) ?_
  .intro v d;simp at d
   rcases d with rfl | rfl
   .exact iv (cM g)
   .exact iv (gV r)
  simp(disch:=omega)only[↓wr,seval,wq]
  simp[iS,c,a.1,a.2]
  rw[TE]
  simp
 .rename_i h1 b
  have c:¬ (-1<=r.prec/\r.prec < g.ao.length):=by simp at b;omega
  have:(decide (-1<=r.prec) && decide (r.prec < (g.ao.length:Int)))=false:=by
   rw[<-Bool.decide_and];simpa using c
  simp only[iS,Bool.and_assoc]
  rw[<-Bool.and_assoc (decide (-1<=r.prec)),this];simp
theorem NB (l:List Int) (f:l.getD 0 0=39):((lW l).2 == 0 && (lW l).1 == (l.length:Int))=lO l:=by
 match l,f with
 | [],h=>simp at h
 | [a],_=>rfl
 | [a,b],_ =>
  simp only[lW,jX,lO,SA,SZ,Ug,TF]
  repeat' split
  all_goals simp_all
 | [a,b,c],f =>
  have g:a=39:=by simpa using f
  subst g
  simp only[lW,jX,lO,xt,BW,SA,SZ,Ug,TF]
  repeat' split
  all_goals simp_all
  all_goals grind
 | [a,b,c,d],f =>
  have g:a=39:=by simpa using f
  subst g
  simp only[lW,jX,lO,xt,BW,SA,SZ,Ug,TF]
  repeat' split
  all_goals simp_all
  all_goals grind
 | a :: b :: c :: d :: e :: r,f =>
  simp only[lW,jX,lO,xt,BW,SA,Ug,TF]
  repeat' split
  all_goals simp_all
  all_goals (try omega)
  all_goals grind
theorem JT {c:Int} {l:List Int} (h:¬ c=39):lO (c :: l)=false:=by
 match l with
 | []=>rfl
 | [_]=>rfl
 | [_,_]=>simp[lO,h]
 | [_,_,_]=>simp[lO,h]
 | _ :: _ :: _ :: _ :: _=>rfl
theorem K7 (s:ByteArray):ay Tryz.prog 267 [gs s] (gb (lO (fq s))):=by
 refine ay.val (oI s) λH=>?_
 refine au.of mixed zt ?_
 have f:=λd (k:d∈fq s)=>CX (s:=s) (c:=d) k
 have j:ay Tryz.prog 287 [.aT (gp s)] (.aS [gi (lW (fq s)).1,gi (lW (fq s)).2]):=by
  rw[Ng]
  refine ay.of ?_ ((IT (fq s) f _).mono λr H' h m _=>by rw[h];exact .tree _ (.aS _ λi hi=>by
   match i,hi with
   | 0,_=>exact .val _
   | 1,_=>exact .val _))
  intro v a;simp at a;subst a
  exact eY _ _ λx _ v a=>by simp at a;subst a;exact .val _
 cases e:fq s with
 | nil =>
  repeat' (first | ((first|apply ai.dec|apply ai.eq|apply ai.ne|apply ai.split)<;>intro)|(simp(disch:=omega)only[↓wr,seval,wq,pY,eD,xI,e]))
  rfl
 | cons c l =>
  have b:=NB (fq s)
  rw[e] at j b
  repeat' (first | ((first|apply ai.dec|apply ai.eq|apply ai.ne|apply ai.split)<;>intro)|(simp(disch:=omega)only[↓wr,seval,wq,pY,eD,xI,e,S3]))
  .rename_i h
   rw[JT h]
  .rename_i h
   refine av.pure j ?_
   have b:=b (by simpa using h)
   repeat' (first | ((first|apply ai.dec|apply ai.eq|apply ai.ne|apply ai.split)<;>intro)|(simp(disch:=omega)only[↓wr,seval,wq,eD,e]))
   .rename_i g
    rw[<-b];simp[g]
   .rename_i g
    rw[<-b];simp[g]
theorem M4 (s:ByteArray):ay Tryz.prog 217 [gs s] (gb (pJ (fq s))):=by
 refine ay.val (oI s) λH=>?_
 refine au.of mixed B6 ?_
 repeat' (first | ((first|apply ai.dec|apply ai.eq|apply ai.ne|apply ai.split)<;>intro)|(refine av.pure (FE s) ?_)|(refine av.pure (K7 s) ?_)|(simp(disch:=omega)only[↓wr,seval,wq,yF]))
 all_goals simp[pJ, *]
theorem JQ (s:ByteArray):ay Tryz.prog 157 [gs s] (gb (!gv (fq s))):=by
 refine ay.val (oI s) λH=>?_
 refine au.of mixed y7 ?_
 repeat' (first | ((first|apply ai.dec|apply ai.eq|apply ai.ne|apply ai.split)<;>intro)|(refine av.pure (FE s) ?_)|(simp(disch:=omega)only[↓wr,seval,wq,vB]))
def tO:SC :=
 ae [ab [aU 12 .lss 11 10],cb 12 (.exit 0),.block 1 (ae [.region false [⟨none,[aZ 13 3 9 11,ba 14 3 13,((some 6),.op (.alloc [(.val (.string ⟨#[]⟩)),(.val (.int .i64 0)),(.val (.int .i64 0))])),cL 3 6 14]⟩],ae [ab [al 15 1 6,ak 16 15,aF 17 .eql 16 0],bf 17 (.exit 1)],ae [ab [aa 18 3,al 19 1 6,ak 20 19,((some 21),.op (.old (.lookup 265 (.tmp 18) (.tmp 20) false) 3)),aa 7 21],.region false [⟨none,[aa 22 7,aF 23 .neq 22 0,aa 24 23]⟩,⟨(some (24,true)),[aa 25 7,al 26 2 6,ak 27 26,aU 28 .neq 25 27]⟩,⟨none,[eA 29 24 28]⟩],bf 29 (ae [ab [bm 2 false],.ret])],ab [aa 30 3,al 31 1 6,ak 32 31,al 33 2 6,ak 34 33,(none,.op (.old (.mapUpdate 265 (.tmp 30) (.tmp 32) (.tmp 34)) 0))],ab [aa 35 4,al 36 1 6,ak 37 36,((some 38),.op (.mm true (.tmp 35) (.tmp 37))),aa 4 38]]),ab [aF 39 .add 11 1,aa 11 39]]
def vX:SF:=⟨ae [ab [bm 2 false],ab [((some 8),.op (.o8)),aa 3 8],ab [aR 4 0],ae [ab [aa 9 0,aP 10 9,aR 11 0],cd 0 tO],ab [aa 40 3,((some 41),.op (.old (.call { callee:=.builtin .len,args:=#[(.tmp 40)],argTypes:=#[265] }) 3)),aa 42 4,aU 43 .eql 41 42,aa 2 43],.ret],
 [.tmp 2],44⟩
theorem A6:aI Tryz.prog 218 []=some vX:=by kernel_rfl
def vt:SC :=
 ae [ab [aU 8 .lss 7 6],cb 8 (.exit 0),.block 1 (ae [.region false [⟨none,[aZ 9 3 5 7,ba 10 3 9,((some 4),.op (.alloc [(.val (.string ⟨#[]⟩)),(.val (.int .i64 0)),(.val (.int .i64 0))])),cL 3 4 10]⟩],.region false [⟨none,[al 11 0 4,ak 12 11,bg 13 217 [12],dp 14 13,aa 15 14]⟩,⟨(some (15,false)),[al 16 1 4,ak 17 16,qe 18 154 [(.tmp 17),(.val (.val (.int .i64 0))),(.val (.val (.int .i64 24)))],dp 19 18]⟩,⟨none,[cR 20 15 19,aa 21 20]⟩,⟨(some (21,false)),[al 22 2 4,ak 23 22,qe 24 154 [(.tmp 23),(.val (.val (.int .i64 0))),(.val (.val (.int .i64 3)))],dp 25 24]⟩,⟨none,[cR 26 21 25,aa 27 26]⟩,⟨(some (27,false)),[al 28 1 4,ak 29 28,aF 30 .eql 29 0,al 31 2 4,ak 32 31,aF 33 .eql 32 0,((some 34),.op (.beq false (.tmp 30) (.tmp 33)))]⟩,⟨none,[cR 35 27 34]⟩],bf 35 (ae [ab [bm 2 false],.ret])]),ab [aF 36 .add 7 1,aa 7 36]]
def yi:SF:=⟨ae [ab [bm 2 false],ae [ab [aa 5 0,aP 6 5,aR 7 0],cd 0 vt],.region false [⟨none,[aa 37 0,aP 38 37,aF 39 .leq 38 24,aa 40 39]⟩,⟨(some (40,true)),[aa 41 0,bg 42 218 [41]]⟩,⟨none,[eA 43 40 42,aa 2 43]⟩],.ret],
 [.tmp 2],44⟩
theorem BC:aI Tryz.prog 153 []=some yi:=by kernel_rfl
def vL:SC :=
 ae [ab [aU 16 .lss 15 14],cb 16 (.exit 0),.block 1 (ae [.region false [⟨none,[aZ 17 3 13 15,ba 18 3 17,((some 5),.op (.alloc [(.val (.string ⟨#[]⟩)),(.val (.int .i64 0)),(.val (.int .i64 0))])),cL 3 5 18]⟩],.region false [⟨none,[aa 19 3,al 20 0 5,ak 21 20,((some 22),.op (.bN 1 1 [(.val (.string ⟨#[]⟩))] [(0,(.tmp 21))])),gD 23 1 16 19 22,aa 3 23]⟩]]),ab [aF 24 .add 15 1,aa 15 24]]
def vx:SC :=
 ae [ab [aU 65 .lss 64 63],cb 65 (.exit 2),.block 3 (ae [ab [aZ 66 3 62 64,ba 67 3 66,((some 8),.op (.alloc [(.val (.int .i64 0)),(.emp 1),(.val (.int .i64 0))])),cL 3 8 67],ae [.region false [⟨none,[al 68 0 8,ak 69 68,aa 70 6,qe 71 154 [(.tmp 69),(.val (.val (.int .i64 0))),(.tmp 70)],dp 72 71,aa 73 72]⟩,⟨(some (73,false)),[ba 74 4 1,ba 75 3 8,bg 76 159 [74,75],dp 77 76]⟩,⟨none,[cR 78 73 77]⟩],bf 78 (ae [ab [bm 2 false],.ret])],ab [aa 79 6,al 80 0 8,ak 81 80,aF 82 .add 81 1,((some 83),.op (.mm true (.tmp 79) (.tmp 82))),aa 6 83]]),ab [aF 84 .add 64 1,aa 64 84]]
def yO:SF:=⟨ae [ab [cG 1 0,bm 2 false],ab [al 9 1 1,ak 10 9,bg 11 152 [10],aa 3 11],ae [ab [al 12 0 1,ak 13 12,aP 14 13,aR 15 0],cd 0 vL],ae [.region false [⟨none,[al 25 0 1,ak 26 25,bg 27 153 [26],dp 28 27,aa 29 28]⟩,⟨(some (29,false)),[al 30 1 1,ak 31 30,aP 32 31,qe 33 154 [(.tmp 32),(.val (.val (.int .i64 1))),(.val (.val (.int .i64 16)))],dp 34 33]⟩,⟨none,[cR 35 29 34,aa 36 35]⟩,⟨(some (36,false)),[al 37 2 1,ak 38 37,aP 39 38,qe 40 154 [(.tmp 39),(.val (.val (.int .i64 1))),(.val (.val (.int .i64 40)))],dp 41 40]⟩,⟨none,[cR 42 36 41,aa 43 42]⟩,⟨(some (43,false)),[aa 44 3,bg 45 155 [44],dp 46 45]⟩,⟨none,[cR 47 43 46,aa 48 47]⟩,⟨(some (48,false)),[al 49 3 1,ak 50 49,al 51 1 1,ak 52 51,aP 53 52,aF 54 .sub 53 1,qe 55 154 [(.tmp 50),(.val (.val (.int .i64 0))),(.tmp 54)],dp 56 55]⟩,⟨none,[cR 57 48 56]⟩],bf 57 (ae [ab [bm 2 false],.ret])],ae [ab [al 58 1 1,ak 59 58,qe 60 156 [(.tmp 59),(.val (.fn 157 [] []))]],bf 60 (ae [ab [bm 2 false],.ret])],ab [aR 6 0],ae [ab [al 61 2 1,ak 62 61,aP 63 62,aR 64 0],cd 2 vx],ab [aa 85 6,al 86 1 1,ak 87 86,aP 88 87,aU 89 .eql 85 88,aa 2 89],.ret],
 [.tmp 2],90⟩
theorem Bz:aI Tryz.prog 89 [1]=some yO:=by kernel_rfl
def eu (l:List Term):V:=.aT (l.map de)
theorem zB (l:List Term):∀ v∈[eu l],Tree v:=by intro v a;simp at a;subst a;exact eY _ _ λx _=>rL x
def lR:List Term->List (Int × Int)->Int->Option (List (Int × Int) × Int)
 | [],a,top=>some (a,top)
 | t :: r,a,top=>if t.level=0 then lR r a top else
  if (ed a t.level).getD 0≠0/\(ed a t.level).getD 0≠t.assoc then none else lR r (jH t.level t.assoc a) (if t.level > top then t.level else top)
def qK (l:List Term):Bool:=match lR l [] 0 with
 | some (a,top)=>(a.length:Int) == top
 | none=>false
theorem J6 (l:List Term) (F:aK l):ay Tryz.prog 218 [eu l] (gb (qK l)):=by
 refine ay.val (zB l) λH=>?_
 refine au.of mixed A6 ?_
 unfold aK at F
 simp(disch:=omega)only[↓wr,seval,wq,vX,eu]
 intro q s
 try simp(disch:=omega)only[↓wr,seval,wq]
 refine aY.up l.length (λi T H=>(∃ a m c top,H q=.map (b3 (Value.int .i64) m) c/\mY gi a m/\T 4=gi top/\lR (l.drop i) a top=lR l [] 0)/\T 0=eu l/\T 3=.mp q/\T 9=eu l/\T 10=gi l.length/\T 11=gi i) ?_ ?_
 .refine⟨⟨[],[],0,0,?_,trivial,rfl,rfl⟩,rfl,rfl,rfl,rfl,rfl⟩
  simp[View.set,b3]
 rintro i k T H hk ⟨⟨a,m,c,top,s,hm,o,hi⟩,j,f,n,d,g⟩
 simp(disch:=omega)only[↓wr,seval,wq,tO,j,f,o,n,d,g,eu]
 apply ai.dec<;>intro G
 .have C:l[i]?=some (l[i]'(by omega)):=Sn (by omega)
  rw[eC (show i < l.length by omega)] at hi
  generalize l[i]'(by omega)=t at C hi
  simp only[lR] at hi
  simp(disch:=omega)only[↓wr,seval,wq,j,f,o,n,d,g,eu,de,Ss,C]
  intro b D
  have h:b≠q:=by rintro rfl;rw[s] at D;simp at D
  try simp(disch:=omega)only[↓wr,seval,wq]
  apply ai.eq<;>intro x
  .rw[St x] at hi
   simp(disch:=omega)only[↓wr,seval,wq,j,f,o,n,d,g]
   refine aH hk (by omega) ⟨⟨a,m,c,top,?_,hm,o,hi⟩,j,f,n,d,rfl⟩
   simp[View.set,h.symm,s]
  .rw[Sr x] at hi
   simp(disch:=omega)only[↓wr,seval,wq,j,f,o,n,d,g]
   refine xT (kt:=3) (et:=3) (z:=gi 0) (by kernel_rfl) (by kernel_rfl) (j8 .i64 Tryz.underlying3) (id:=q) (c:=c) (m:=m) (k:=t.level) (by simp(disch:=omega)only[↓wr,seval,wq,f]) (by simp(disch:=omega)only[↓wr,seval,wq,f]) (by simp[View.set,h.symm,s]) ?_
   have y:(getM m t.level).getD (gi 0)=gi ((ed a t.level).getD 0):=by
    rw[hm.get];cases ed a t.level <;> rfl
   have p:∀ (A:View) (u:Nat) (r:Env),(¬ ((ed a t.level).getD 0≠0/\(ed a t.level).getD 0≠t.assoc)) ->
     A q=.map (b3 (Value.int .i64) (bF t.level (gi t.assoc) c m)) u->r 0=eu l->r 3=.mp q->r 4=gi (if t.level > top then t.level else top)->r 9=eu l->r 10=gi l.length->r 11=gi ((i:Int)+1) ->
     ∃ E,E < k/\Dm l.length E (λi T H=>(∃ a m c top,H q=.map (b3 (Value.int .i64) m) c/\mY gi a m/\T 4=gi top/\lR (l.drop i) a top=lR l [] 0)/\T 0=eu l/\T 3=.mp q/\T 9=eu l/\T 10=gi l.length/\T 11=gi i) r A:=by
    intro A u r I g1 g2 g3 g4 g5 g6 g7
    rw[Sr I] at hi
    exact aH hk (by omega) ⟨⟨_,_,u,_,g1,hm.put t.level t.assoc c,g4,hi⟩,g2,g3,g5,g6,by rw[g7];rfl⟩
   repeat' (first | ((first|apply ai.dec|apply ai.eq|apply ai.ne|apply ai.split)<;>intro)|(simp(disch:=omega)only[↓wr,seval,wq,j,f,o,n,d,g,y]))
   .rename_i w B
    rw[St ⟨w,B⟩] at hi
    simp only[qK,<-hi]
   .rename_i w B
    refine tH (kt:=3) (et:=3) (by kernel_rfl) (j8 .i64 Tryz.underlying3) (id:=q) (c:=c) (m:=m) (k:=t.level) (v:=gi t.assoc) (by simp(disch:=omega)only[↓wr,seval,wq,f]) (by simp(disch:=omega)only[↓wr,seval,wq,f]) (by simp(disch:=omega)only[↓wr,seval,wq,f]) (by simp[View.set,h.symm,s]) ?_
    intro u
    simp(disch:=omega)only[↓wr,seval,wq,j,f,o,n,d,g,h]
    exact p _ u _ (λe=>e.2 B) (by simp[View.set]) j f rfl n d rfl
   .rename_i w
    refine tH (kt:=3) (et:=3) (by kernel_rfl) (j8 .i64 Tryz.underlying3) (id:=q) (c:=c) (m:=m) (k:=t.level) (v:=gi t.assoc) (by simp(disch:=omega)only[↓wr,seval,wq,f]) (by simp(disch:=omega)only[↓wr,seval,wq,f]) (by simp(disch:=omega)only[↓wr,seval,wq,f]) (by simp[View.set,h.symm,s]) ?_
    intro u
    simp(disch:=omega)only[↓wr,seval,wq,j,f,o,n,d,g,h]
    exact p _ u _ (λe=>e.1 w) (by simp[View.set]) j f rfl n d rfl
 .rw[S4 (by omega)] at hi
  simp only[lR] at hi
  simp(disch:=omega)only[↓wr,seval,wq,j,f,o,n,d,g]
  refine Qu (kt:=3) (et:=3) (by kernel_rfl) (id:=q) (c:=c) (m:=m) (by simp(disch:=omega)only[↓wr,seval,wq,f]) s ?_
  simp(disch:=omega)only[↓wr,seval,wq,j,f,o,n,d,g,hm.len]
  simp only[qK,<-hi]
def kH (t:Term):Bool:=pJ (fq t.name) && decide (0<=t.level) && decide (t.level<=24) && decide (0<=t.assoc) && decide (t.assoc<=3) && ((t.level == 0) == (t.assoc == 0))
def qU (l:List Term):Bool:=l.all kH && decide (l.length<=24) && qK l
theorem MB (l:List Term) (p:aK l):ay Tryz.prog 153 [eu l] (gb (qU l)):=by
 refine ay.val (zB l) λH=>?_
 refine au.of mixed BC ?_
 have j:=p
 unfold aK at p
 simp(disch:=omega)only[↓wr,seval,wq,yi,eu]
 refine aY.up l.length (λi T H=>(l.drop i).all kH=l.all kH/\T 0=eu l/\T 5=eu l/\T 6=gi l.length/\T 7=gi i) ?_ ?_
 .exact⟨rfl,rfl,rfl,rfl,rfl⟩
 rintro i k T H hk ⟨hi,c,d,f,g⟩
 simp(disch:=omega)only[↓wr,seval,wq,vt,c,d,f,g,eu]
 apply ai.dec<;>intro r
 .have q:l[i]?=some (l[i]'(by omega)):=Sn (by omega)
  rw[eC (show i < l.length by omega)] at hi
  generalize l[i]'(by omega)=t at q hi
  rw[TU] at hi
  have a:kH t=false->gb false=gb (qU l):=λe=>by rw[e,TV] at hi;simp[qU,<-hi]
  simp(disch:=omega)only[↓wr,seval,wq,c,d,f,g,eu,de,Ss,q]
  intro b v
  repeat' (first | ((first|apply ai.dec|apply ai.eq|apply ai.ne|apply ai.split)<;>intro)|(refine av.pure (M4 t.name) ?_)|(refine av.pure (qu _ _ _) ?_)|(simp(disch:=omega)only[↓wr,seval,wq,c,d,f,g,eu]))
  all_goals first
   | (refine a ?_;simp[kH, *];done)
   | (refine a ?_;simp_all [kH];done)
   | skip
  rename_i s m n u
  refine aH hk (by omega) ⟨?_,c,d,f,rfl⟩
  have:kH t=true:=by
   simp only[SE,SN] at m n
   have o:((t.level == 0) == (t.assoc == 0))=true:=by simpa [bne] using u
   simp[kH,s,m.1,m.2,n.1,n.2,o]
  rw[this,TC] at hi
  exact hi
 .rw[S4 (by omega),List.all_nil] at hi
  simp(disch:=omega)only[↓wr,seval,wq,c,d,f,g,eu]
  repeat' (first | ((first|apply ai.dec|apply ai.eq|apply ai.ne|apply ai.split)<;>intro)|(refine av.pure (J6 l j) ?_)|(simp(disch:=omega)only[↓wr,seval,wq,c,d,f,g,eu]))
  .rename_i h
   simp[qU,<-hi,show l.length<=24 by omega]
  .rename_i h
   simp[qU,<-hi,show ¬ l.length<=24 by omega]
open Go Go.Proofs Go.Shelf Go.RowKit Go.Sort
attribute [local go_sem] Oper.semAt_some
def jG:Ren where
 f:=fun
  | 6=>219
  | 8=>268
  | 9=>269
  | 11=>288
  | 13=>246
  | 12=>289
  | 23=>282
  | 24=>283
  | 14=>298
  | 15=>299
  | 16=>300
  | 17=>301
  | 18=>302
  | 19=>303
  | 20=>304
  | 21=>305
  | 22=>306
  | 25=>308
  | 26=>292
  | 27=>293
  | 28=>309
  | 29=>310
  | 30=>311
  | 31=>312
  | n=>n
 t:=fun
  | 26=>9
  | 28=>319
  | 24=>23
  | 0=>0
  | 3=>3
  | 37=>276
  | 48=>50
  | 50=>49
  | 4=>4
  | 40=>356
  | 39=>355
  | 45=>66
  | 5=>5
  | 9=>9
  | 51=>369
  | 55=>373
  | 57=>381
  | 58=>382
  | 33=>262
  | n=>n
 g:=λn=>n
theorem Pd:Go.Proofs.SlLaysZ.n6 Tryz.prog jG where
 mixed:=by kernel_rfl
 f6:=⟨Tryz.f219.name,by kernel_rfl,by kernel_rfl⟩
 f8:=⟨Tryz.f268.name,by kernel_rfl,by kernel_rfl⟩
 f11:=⟨Tryz.f288.name,by kernel_rfl,by kernel_rfl⟩
 t0:=Tryz.underlying0
 a0:=Tryz.isAgg0
 z0:=Tryz.sizeOf0
 v0:=Tryz.zeroValue0
 t24:=Tryz.underlying23
 a24:=Tryz.isAgg23
 z24:=Tryz.sizeOf23
 v24:=Tryz.zeroValue23
 t26:=Tryz.underlying9
 a26:=Tryz.isAgg9
 z26:=Tryz.sizeOf9
 v26:=Tryz.zeroValue9
 t28:=Tryz.underlying319
 a28:=Tryz.isAgg319
 z28:=Tryz.sizeOf319
 v28:=Tryz.zeroValue319
 i26:=by kernel_rfl
def Ly:Ren where
 f:=fun
  | 6=>269
  | 8=>246
  | 9=>289
  | 19=>282
  | 20=>283
  | 21=>298
  | 22=>299
  | 23=>300
  | 24=>301
  | 25=>302
  | 26=>303
  | 27=>304
  | 28=>305
  | 29=>306
  | 36=>308
  | 31=>292
  | 32=>293
  | 37=>309
  | 38=>310
  | 39=>311
  | 41=>312
  | n=>n
 t:=fun
  | 27=>23
  | 29=>9
  | 3=>3
  | 32=>276
  | 26=>23
  | 0=>0
  | 44=>50
  | 46=>49
  | 4=>4
  | 36=>356
  | 35=>355
  | 41=>66
  | 5=>5
  | 9=>9
  | 53=>369
  | 57=>373
  | 63=>381
  | 64=>382
  | n=>n
 g:=λn=>n
theorem Pc:Go.Proofs.SlLaysM.n6 Tryz.prog Ly where
 mixed:=by kernel_rfl
 f6:=⟨Tryz.f269.name,by kernel_rfl,by kernel_rfl⟩
 f8:=by kernel_rfl
 f9:=⟨Tryz.f289.name,by kernel_rfl,by kernel_rfl⟩
 f19:=by kernel_rfl
 f20:=by kernel_rfl
 f21:=⟨Tryz.f298.name,by kernel_rfl,by kernel_rfl⟩
 f22:=⟨Tryz.f299.name,by kernel_rfl,by kernel_rfl⟩
 f23:=⟨Tryz.f300.name,by kernel_rfl,by kernel_rfl⟩
 f24:=⟨Tryz.f301.name,by kernel_rfl,by kernel_rfl⟩
 f25:=⟨Tryz.f302.name,by kernel_rfl,by kernel_rfl⟩
 f26:=⟨Tryz.f303.name,by kernel_rfl,by kernel_rfl⟩
 f27:=⟨Tryz.f304.name,by kernel_rfl,by kernel_rfl⟩
 f28:=⟨Tryz.f305.name,by kernel_rfl,by kernel_rfl⟩
 f29:=⟨Tryz.f306.name,by kernel_rfl,by kernel_rfl⟩
 f31:=by kernel_rfl
 f32:=by kernel_rfl
 f36:=⟨Tryz.f308.name,by kernel_rfl,by kernel_rfl⟩
 f37:=⟨Tryz.f309.name,by kernel_rfl,by kernel_rfl⟩
 f38:=⟨Tryz.f310.name,by kernel_rfl,by kernel_rfl⟩
 f39:=⟨Tryz.f311.name,by kernel_rfl,by kernel_rfl⟩
 f41:=⟨Tryz.f312.name,by kernel_rfl,by kernel_rfl⟩
 t0:=Tryz.underlying0
 a0:=Tryz.isAgg0
 z0:=Tryz.sizeOf0
 v0:=Tryz.zeroValue0
 t3:=Tryz.underlying3
 a3:=Tryz.isAgg3
 z3:=Tryz.sizeOf3
 v3:=Tryz.zeroValue3
 t4:=Tryz.underlying4
 a4:=Tryz.isAgg4
 z4:=Tryz.sizeOf4
 v4:=Tryz.zeroValue4
 t5:=Tryz.underlying5
 a5:=Tryz.isAgg5
 z5:=Tryz.sizeOf5
 v5:=Tryz.zeroValue5
 t9:=Tryz.underlying9
 a9:=Tryz.isAgg9
 z9:=Tryz.sizeOf9
 v9:=Tryz.zeroValue9
 t26:=Tryz.underlying23
 a26:=Tryz.isAgg23
 z26:=Tryz.sizeOf23
 v26:=Tryz.zeroValue23
 t27:=Tryz.underlying23
 a27:=Tryz.isAgg23
 z27:=Tryz.sizeOf23
 v27:=Tryz.zeroValue23
 t29:=Tryz.underlying9
 a29:=Tryz.isAgg9
 z29:=Tryz.sizeOf9
 v29:=Tryz.zeroValue9
 t32:=Tryz.underlying276
 a32:=Tryz.isAgg276
 z32:=Tryz.sizeOf276
 v32:=Tryz.zeroValue276
 t35:=Tryz.underlying355
 a35:=Tryz.isAgg355
 z35:=Tryz.sizeOf355
 v35:=Tryz.zeroValue355
 t36:=Tryz.underlying356
 a36:=Tryz.isAgg356
 z36:=Tryz.sizeOf356
 v36:=Tryz.zeroValue356
 t41:=Tryz.underlying66
 a41:=Tryz.isAgg66
 z41:=Tryz.sizeOf66
 v41:=Tryz.zeroValue66
 t44:=Tryz.underlying50
 a44:=Tryz.isAgg50
 z44:=Tryz.sizeOf50
 v44:=Tryz.zeroValue50
 t46:=Tryz.underlying49
 a46:=Tryz.isAgg49
 z46:=Tryz.sizeOf49
 v46:=Tryz.zeroValue49
 t53:=Tryz.underlying369
 a53:=Tryz.isAgg369
 z53:=Tryz.sizeOf369
 v53:=Tryz.zeroValue369
 t57:=Tryz.underlying373
 a57:=Tryz.isAgg373
 z57:=Tryz.sizeOf373
 v57:=Tryz.zeroValue373
 t63:=Tryz.underlying381
 a63:=Tryz.isAgg381
 z63:=Tryz.sizeOf381
 v63:=Tryz.zeroValue381
 t64:=Tryz.underlying382
 a64:=Tryz.isAgg382
 z64:=Tryz.sizeOf382
 v64:=Tryz.zeroValue382
def Ks:Ren where
 f:=fun
  | 44=>221
  | n=>n
 t:=fun
  | 25=>23
  | 26=>9
  | 3=>3
  | 4=>4
  | 0=>0
  | n=>n
 g:=λn=>n
theorem O9:Go.Proofs.SlLaysN.n44 Tryz.prog Ks where
 mixed:=by kernel_rfl
 f44:=⟨Tryz.f221.name,by kernel_rfl,by kernel_rfl⟩
 t0:=Tryz.underlying0
 a0:=Tryz.isAgg0
 z0:=Tryz.sizeOf0
 v0:=Tryz.zeroValue0
 t3:=Tryz.underlying3
 a3:=Tryz.isAgg3
 z3:=Tryz.sizeOf3
 v3:=Tryz.zeroValue3
 t4:=Tryz.underlying4
 a4:=Tryz.isAgg4
 z4:=Tryz.sizeOf4
 v4:=Tryz.zeroValue4
 t25:=Tryz.underlying23
 a25:=Tryz.isAgg23
 z25:=Tryz.sizeOf23
 v25:=Tryz.zeroValue23
 t26:=Tryz.underlying9
 a26:=Tryz.isAgg9
 z26:=Tryz.sizeOf9
 v26:=Tryz.zeroValue9
 i26:=by kernel_rfl
def zN (n:Nat) (P:Program) (g:Nat) (lb:Array Value) (S:List (List UInt8)->Prop) (N:Nat) (w:World):Prop :=
 ∀ (l:Nat) (J:List (List UInt8)->World->Prop) (W:World),(∀ pre W',J pre W'->Below w.heap.size w W') ->
  (∀ pre x W1,J pre W1->pre.length < N->YieldAt Fence.wide (n - 1) P l #[encStr x] W1 λe W'=>e=.returned (.bool true)/\J (pre ++ [x]) W'/\KeepsWalks W1 W') ->
  J [] W->CallsIn Fence.wide n P g (#[.func (.yield l) #[] #[]] ++ lb) W λe W'=>(∃ v,e=.returned v)/\∃ xs,S xs/\J xs W'
theorem KI {a:List (List UInt8)} {k:Nat} (h:k < a.length):a.take k ++ [a.getD k []]=a.take (k+1):=by
 rw[S6];simp[Sm,h]
theorem IS (n:Nat) (hn:1<=n) (Bs b off cap:Nat) (zs:List (List UInt8)) (hreach:zs.length * 16<=140737488351232) (w:World)
  (hBs:w.cell? ⟨Bs,0,none⟩=some (.slice (some ⟨b,off,none⟩) zs.length cap)) (hBl:Bs < w.heap.size) (hbl:b < w.heap.size)
  (hc:∀ j,j < zs.length->w.cell? ⟨b,off+j,none⟩=some (encStr (zs.getD j []))) :
  zN n Tryz.prog 270 #[.pointer (some ⟨Bs,0,none⟩)] (λxs=>xs=zs) zs.length w:=by
 intro l J W hJ hY h0
 have hbw:=hJ _ _ h0
 have hBs':=(hbw.cell (p:=⟨Bs,0,none⟩) hBl).trans hBs
 have hf:Fence.wide.fn 270:=trivial
 refine callsIn_of_wp Tryz.func270 rfl hf ?_ rfl
 simp only[Tryz.ntmps270,TS,SA,SZ,Nat.reduceAdd,Nat.reduceSub,T9,Ua,Us,Uh,Ty,Th]
 gi_wp2
 gi_loopw [7] (λi wr=>∃ k:Nat,k<=zs.length/\i=.int .i64 k/\J (zs.take k) wr) (λi _=>zs.length - (RowKit.intOf i).toNat)
 case atStart=>exact⟨0,TP _,rfl,by simpa using h0⟩
 case round =>
  obtain⟨k,hk,rfl,hJs⟩:=hrel
  have hnx:=hJ _ _ hJs
  have hcx:k < zs.length->wr.cell? ⟨b,off+k,none⟩=some (encStr (zs.getD k [])):=λh=>(hnx.cell (p:=⟨b,off+k,none⟩) hbl).trans (hc k h)
  by_cases hlt:k < zs.length
  .obtain⟨x,hx1,hcx'⟩:∃ x,zs.take k ++ [x]=zs.take (k+1)/\wr.cell? ⟨b,off+k,none⟩=some (encStr x):=⟨_,KI hlt,hcx hlt⟩
   obtain⟨fn,tmps,assign,body,hy,hR⟩:=hY _ x wr hJs (by simp;omega)
   clear hcx hJs
   gi_wp2
   refine hR.mono ?_
   rintro e W3 ⟨rfl,hJ3,hk3⟩
   gi_wp2
   go_roundw
   case rel=>exact⟨k+1,by omega,by simp,by rw[<-hx1];exact hJ3⟩
   case measure=>simp[RowKit.intOf];omega
  .obtain rfl:k=zs.length:=by omega
   clear hcx
   gi_wp2
   go_end0
   exact⟨⟨_,rfl⟩,_,rfl,by simpa using hJs⟩
theorem Ez (n:Nat) (hn:2<=n) (g:Nat) (lb:Array Value) (eg:∀ args w,(callFunc g args).run Tryz.prog w=.ok (.enter g args) w)
  (S:List (List UInt8)->Prop) (N:Nat) (hN:N<=maxLen) (hNb:N * 16<=140737488355328) (w:World) (hseq:zN (n - 1) Tryz.prog g lb S N w) :
  CallsIn Fence.wide n Tryz.prog 288 #[.slice none 0 0,.func (.func g) #[] lb] w λe w'=>∃ (v:Value) (ss:List (List UInt8)),e=.returned v/\S ss/\w'.ownsRow w.heap.size 9 1 v ss.length (ss.map encStr)/\Below w.heap.size w w':=by
 have h11:Fence.wide.fn 288:=trivial
 refine callsIn_of_wp_marks Tryz.func288 rfl h11 ?_ rfl
 simp only[Tryz.ntmps288,TS,SA,SZ,Nat.reduceAdd,Nat.reduceSub,T9,Ua,Us,Uh,Ty,Th]
 gi_wp2
 refine wpIn_rangeFunc ?_
 intro fn hfn
 let sv:Value:=.func (.func g) #[] lb
 have hz:(w.alloc (.cells #[.slice none 0 0] 23)).heap.size=w.heap.size+1:=by simp
 have hv0:=World.alloc_heap_new w (.cells #[.slice none 0 0] 23)
 have hb0:Below w.heap.size w (w.alloc (.cells #[.slice none 0 0] 23)):=(Below.refl _ w).alloc (Sy _) _
 revert hz hv0 hb0
 generalize w.alloc (.cells #[.slice none 0 0] 23)=W0
 intro hz hv0 hb0
 obtain⟨W1,hW1⟩:∃ W1,(W0.alloc (.deferred (some []))).alloc (.loop (AnyZ.apRec jG fn sv w.heap.size W0.heap.size .ready none))=W1:=⟨_,rfl⟩
 have hold:∀ k,k < W0.heap.size->W1.heap[k]?=W0.heap[k]?:=λk hk=>by
  rw[<-hW1];exact(Below.heap_alloc _ _ k (by simp;omega)).trans (Below.heap_alloc _ _ k hk)
 have hb1:Below w.heap.size w W1:=by rw[<-hW1];exact(hb0.alloc (by omega) _).alloc (by simp;omega) _
 have hM:AnyZ.ApAt jG w fn sv w.heap.size (W0.heap.size+1) W0.heap.size [] W1:=by
  refine⟨⟨_,(hold w.heap.size (by omega)).trans hv0,⟨rfl,.inl ⟨rfl,rfl⟩⟩,by simp⟩,?_,?_,hb1⟩
  .rw[<-hW1]
   have h:=World.alloc_heap_new (W0.alloc (.deferred (some []))) (.loop (AnyZ.apRec jG fn sv w.heap.size W0.heap.size .ready none))
   rwa [World.size_alloc] at h
  .rw[<-hW1];exact(Below.heap_alloc _ _ _ (by simp)).trans (World.alloc_heap_new W0 _)
 refine⟨W0.heap.size+1,[{ target:=.collected W0.heap.size,args:=#[] }],W1,{ target:=.fn (.func g) lb,args:=#[.func (.yield (W0.heap.size+1)) #[] #[]] },W1,g,
  #[.func (.yield (W0.heap.size+1)) #[] #[]] ++ lb,W1,by rw[<-hW1];exact run_enterLoop_outer _ _ _ _ _,?_,?_,?_,λ_=>by omega,?_⟩
 .simp[resolve,go_sem]
 .intro f' hf';trivial
 .simp[invoke,go_sem,eg]
 .refine(hseq (W0.heap.size+1) (AnyZ.ApAt jG w fn sv w.heap.size (W0.heap.size+1) W0.heap.size) W1 (λ_ _ h=>h.below)
   (λpre x W hJ hl=>AnyZ.apYield { Pd with } Fence.wide (n - 1 - 1) w fn hfn _ w.heap.size (W0.heap.size+1) W0.heap.size (by omega) (by omega) (by omega) (Sy _) (by omega) N hN hNb pre x W hJ hl) hM).mono ?_
  rintro e W2 ⟨⟨v0,rfl⟩,ss,hS,h2⟩
  obtain⟨v,hv,hrow,_⟩:=h2.box
  have hend:=run_endLoop (P:=Tryz.prog) h2.L (by simp[AnyZ.apRec])
  have hne:∀ (cur:Array Value),Obj.cells #[v] 23 (0,0)≠.cells cur 9 (0,0):=λcur e=>by cases e
  obtain⟨W3,hW3⟩:∃ W3,W2.putObj (W0.heap.size+1) (.loop { AnyZ.apRec jG fn sv w.heap.size W0.heap.size .ready none with state:=.exhausted })=W3:=⟨_,rfl⟩
  have hg3:W2.grownBy W3 (some (W0.heap.size+1)):=by rw[<-hW3];exact grownBy_putObj_a _ _ _
  have hv3:W3.heap[w.heap.size]?=some (.cells #[v] 23 (0,0)):=by rw[<-hW3];exact(World.putObj_heap_other (by omega)).trans hv
  have hK3:W3.heap[W0.heap.size]?=some (.deferred (some [])):=by rw[<-hW3];exact(World.putObj_heap_other (by omega)).trans h2.K
  have hrow3:=hrow.kept hg3 (ownsRow_ne_a hrow h2.L (λcur e=>by cases e))
  have hb3:Below w.heap.size w W3:=h2.below.grown hg3 h2.below.size (λk e=>by cases e;omega)
  obtain⟨hc3,hf3⟩:=cell_of_box_a hv3
  refine⟨none,W3,by rw[<-hW3];exact hend,?_⟩
  clear hW3 hW1 hold hM hend hseq
  gi_wp2
  rw[<-hz]
  refine⟨by simp,.inl ⟨_,_,rfl,run_takeDeferred hK3,?_⟩⟩
  exact⟨_,results_tmp rfl _ _ _,v,ss,rfl,hS,hrow3.kept (grownBy_putObj_a _ _ _) (ownsRow_ne_a hrow3 hK3 (λcur e=>by cases e)),hb3.grown (grownBy_putObj_a _ _ _) hb3.size (λk e=>by cases e;omega)⟩
theorem KE (n:Nat) (hn:4<=n) (g:Nat) (lb:Array Value) (eg:∀ args w,(callFunc g args).run Tryz.prog w=.ok (.enter g args) w)
  (S:List (List UInt8)->Prop) (N:Nat) (hN:N<=maxLen) (hNb:N * 16<=140737488355328) (w:World) (hseq:zN (n - 1 - 1 - 1) Tryz.prog g lb S N w) (hS:∀ xs,S xs->xs.length < 4611686018427387904) :
  CallsIn Fence.wide n Tryz.prog 219 #[.func (.func g) #[] lb] w λe w'=>∃ (v:Value) (ss:List (List UInt8)),e=.returned v/\S ss /\
   w'.ownsRow w.heap.size 9 1 v ss.length ((ss.mergeSort (λx y=>decide (x<=y))).map encStr)/\Below w.heap.size w w':=by
 have h6:Fence.wide.fn 219:=trivial
 have h8:Fence.wide.fn 268:=trivial
 have h9:Fence.wide.fn 269:=trivial
 have h11:Fence.wide.fn 288:=trivial
 have h1:1<=n - 1:=by omega
 have h1':1<=n:=by omega
 have hcol:CallsIn Fence.wide (n - 1) Tryz.prog 268 #[.func (.func g) #[] lb] w λe w'=>∃ (v:Value) (ss:List (List UInt8)),e=.returned v/\S ss/\w'.ownsRow w.heap.size 9 1 v ss.length (ss.map encStr)/\Below w.heap.size w w':=by
  have happ:=Ez (n - 1 - 1) (by omega) g lb eg S N hN hNb w hseq
  refine callsIn_of_wp Tryz.func268 rfl h8 ?_ rfl
  simp only[Tryz.ntmps268,TS,SA,SZ,Nat.reduceAdd,Nat.reduceSub,T9,Ua,Us,Uh,Ty,Th]
  gi_wp2_with (gi_at_call 288;refine happ.mono ?_;rintro e w' ⟨v,ss,rfl,hS,hrow,hb⟩)
  go_ret
  exact⟨v,ss,rfl,hS,hrow,hb⟩
 refine callsIn_of_wp Tryz.func219 rfl h6 ?_ rfl
 simp only[Tryz.ntmps219,TS,SA,SZ,Nat.reduceAdd,Nat.reduceSub,T9,Ua,Us,Uh,Ty,Th]
 gi_wp2_with (gi_at_call 268;refine hcol.mono ?_;rintro e W ⟨v,ss,rfl,hSs,hrow,hb⟩)
 have hlen:=hS ss hSs
 rcases hrow.2 with ⟨rfl,hz⟩ | ⟨gb,cap,cur,rfl,hbase,hgb,r1,r2,r3,r4⟩
 .have hss:ss=[]:=List.eq_nil_of_length_eq_zero hz
  subst hss
  have cN:CallsIn Fence.wide (n - 1) Tryz.prog 269 #[.slice none 0 0] W λe w'=>e=.returned (.tuple #[])/\w'=W:=callsIn_wide.2 (AnyM.slices_Sort_string_none Pc none 0 W)
  gi_wp2_with (gi_at_call 269;refine cN.mono ?_;rintro e w' ⟨rfl,rfl⟩)
  go_ret
  exact⟨.slice none 0 0,[],rfl,hSs,by simpa using hrow,hb⟩
 .have hH:Holds encStr W gb 0 ss.toArray:=holds_of_block hgb (by simpa using r4)
  have hgl:gb < W.heap.size:=(Array.getElem?_eq_some_iff.1 hgb).1
  have cS:CallsIn Fence.wide (n - 1) Tryz.prog 269 #[.slice (some ⟨gb,0,none⟩) ss.length cap] W λe w'=>e=.returned (.tuple #[])/\∃ k os,w'=grow (putRow encStr (Sort.ahead W k) gb 0 (ss.mergeSort λx y=>decide (x<=y)).toArray) os :=
   callsIn_wide.2 (AnyM.slices_Sort_string Pc gb 0 cap ss W hH hgl hlen)
  gi_wp2_with (gi_at_call 269;refine cS.mono ?_;rintro e w' ⟨rfl,nn,os,rfl⟩)
  go_ret
  exact⟨_,ss,rfl,hSs,ownsRow_sorted (by simp) hbase hgb r1 r2 r3,hb.grown (grownBy_sorted _) hb.size (λj hj=>by cases hj;exact hbase)⟩
open Go Go.Proofs Go.Shelf Go.RowKit Go.Sort
theorem GN {l:List (List UInt8)} (c:l.Pairwise (λa b=>decide (a<=b)=true)) (h:∀ j,j+1 < l.length->l.getD (j+1) []≠l.getD j []):l.Nodup:=by
 induction l with
 | nil=>exact List.nodup_nil
 | cons x r g =>
  rw[TN] at c
  refine Tx.2 ⟨λf=>?_,g c.2 λj i=>by simpa using h (j+1) (by simpa using i)⟩
  cases r with
  | nil=>simp at f
  | cons y r =>
   have d:=h 0 (by simp)
   simp only[Ug,TF,Tt] at d
   rcases SM.1 f with e | hm
   .exact d e.symm
   .have h1:x<=y:=by simpa using c.1 y (by simp)
    have k:y<=x:=by simpa using (TN.1 c.2).1 x hm
    exact d (List.le_antisymm k h1)
theorem LD (l:List (List UInt8)):(Lib.compact l).length=l.length↔∀ j,j+1 < l.length->l.getD (j+1) []≠l.getD j []:=by
 have c:(Lib.compact l).length=((List.range l.length).filter (Lib.keeps l.toArray)).length:=by simp[Lib.compact,Lib.compactUpTo]
 rw[c]
 have hr:(List.range l.length).length=l.length:=by simp
 conv=>lhs;rhs;rw[<-hr]
 rw[List.length_filter_eq_length_iff]
 have b:∀ j,j < l.length->l.toArray[j]! = l.getD j []:=λj a=>by simp[Sm,a]
 constructor
 .intro h j a
  have:=h (j+1) (by simpa using a)
  simp only[Lib.keeps,SN,Nat.add_sub_cancel] at this
  rcases this with e | e
  .omega
  .rw[b _ a,b _ (by omega)] at e;exact e
 .intro h j a
  simp only[TL] at a
  simp only[Lib.keeps,SN]
  by_cases e:j=0
  .exact .inl e
  .right
   obtain⟨k,rfl⟩:∃ k,j=k+1:=⟨j - 1,by omega⟩
   rw[b _ a,Nat.add_sub_cancel,b _ (by omega)]
   exact h k a
theorem Bu (d:List (List UInt8)):(Lib.compact (d.mergeSort λx y=>decide (x<=y))).length=d.length↔d.Nodup:=by
 have hp:=List.mergeSort_perm d (λx y=>decide (x<=y))
 have g:=List.pairwise_mergeSort (le:=λx y:List UInt8=>decide (x<=y)) (λa b c h k=>by simp at h k ⊢;exact List.le_trans h k) (λa b=>by simpa using List.le_total a b) d
 rw[<-hp.nodup_iff,<-hp.length_eq,LD]
 constructor
 .exact GN g
 .intro i j f e
  have h1:(d.mergeSort λx y=>decide (x<=y))[j+1]'f=(d.mergeSort λx y=>decide (x<=y))[j]'(by omega):=by
   simp only[Sm,Sn f,Sn (show j < (d.mergeSort λx y=>decide (x<=y)).length by omega),SJ] at e
   exact e
  have:=(List.getElem_inj i).1 h1
  omega
theorem Oh (w:World):grow w #[]=w:=by simp[grow]
theorem Gl (n:Nat) (hn:1<=n) (Bs cap:Nat) (a:Option Addr) (w:World) (hBs:w.cell? ⟨Bs,0,none⟩=some (.slice a 0 cap)) (hBl:Bs < w.heap.size) :
  zN n Tryz.prog 270 #[.pointer (some ⟨Bs,0,none⟩)] (λxs=>xs=[]) 0 w:=by
 intro l J W hJ hY h0
 have hbw:=hJ _ _ h0
 have hBs':=(hbw.cell (p:=⟨Bs,0,none⟩) hBl).trans hBs
 have hf:Fence.wide.fn 270:=trivial
 refine callsIn_of_wp Tryz.func270 rfl hf ?_ rfl
 simp only[Tryz.ntmps270,TS,SA,SZ,Nat.reduceAdd,Nat.reduceSub,T9,Ua,Us,Uh,Ty,Th]
 gi_wp2
 gi_loopw [7] (λi wr=>i=.int .i64 0/\J [] wr) (λ_ _=>0)
 case atStart=>exact⟨rfl,h0⟩
 case round =>
  obtain⟨rfl,hJs⟩:=hrel
  gi_wp2
  go_end0
  exact⟨⟨_,rfl⟩,_,rfl,hJs⟩
theorem I8 (n:Nat) (a:Option Addr) (len cap:Nat) (w:World) :
  CallsIn Fence.wide n Tryz.prog 220 #[.slice a len cap] w λe w'=>e=.returned (.func (.func 270) #[] #[.pointer (some ⟨w.heap.size,0,none⟩)])/\w'=w.alloc (.cells #[.slice a len cap] 23):=by
 have hf:Fence.wide.fn 220:=trivial
 refine callsIn_of_wp Tryz.func220 rfl hf ?_ rfl
 simp only[Tryz.ntmps220,TS,SA,SZ,Nat.reduceAdd,Nat.reduceSub,T9,Ua,Us,Uh,Ty,Th]
 gi_wp2
 go_ret
 exact⟨rfl,rfl⟩
theorem yP (a:Option Addr) (cap:Nat) (zs:List (List UInt8)) (hz:zs.length<=1000) (w:World)
  (hseq:∀ n Bs,1<=n->w.heap.size=Bs->zN n Tryz.prog 270 #[.pointer (some ⟨Bs,0,none⟩)] (λxs=>xs=zs) zs.length (w.alloc (.cells #[.slice a zs.length cap] 23))) :
  Calls Tryz.prog 155 #[.slice a zs.length cap] w λe w'=>e=.returned (.bool (decide zs.Nodup))/\Below w.heap.size w w':=by
 refine(callsIn_wide (n:=7)).1 ?_
 have hf:Fence.wide.fn 155:=trivial
 have hfv:Fence.wide.fn 220:=trivial
 have hfs:Fence.wide.fn 219:=trivial
 have hfc:Fence.wide.fn 221:=trivial
 have eg:=enters_of Tryz.func270 (by kernel_rfl) rfl
 have cV:=I8 6 a zs.length cap w
 have cS:=KE 6 (by omega) 270 #[.pointer (some ⟨w.heap.size,0,none⟩)] eg _ zs.length (by unfold maxLen;omega) (by omega) (w.alloc (.cells #[.slice a zs.length cap] 23)) (hseq _ _ (by omega) rfl) (λxs e=>by subst e;omega)
 refine callsIn_of_wp Tryz.func155 rfl hf ?_ rfl
 simp only[Tryz.ntmps155,TS,SA,SZ,Nat.reduceAdd,Nat.reduceSub,T9,Ua,Us,Uh,Ty,Th]
 clear hseq
 gi_wp2_with (first
  | (gi_at_call 220;refine cV.mono ?_;rintro e w' ⟨rfl,rfl⟩)
  | (gi_at_call 219;refine cS.mono ?_;rintro e W ⟨v,ss,rfl,rfl,hrow,hb⟩)
  | fail)
 have hsz:(ss.mergeSort λx y=>decide (x<=y)).length=ss.length:=by simp
 have hBw:Below w.heap.size w W:=((Below.refl _ w).alloc (Sy _) _).trans (hb.mono (by simp))
 rcases hrow.2 with ⟨rfl,h0⟩ | ⟨gb,cap',cur,rfl,hbase,hgb,r1,r2,r3,r4⟩
 .have hss:ss=[]:=List.eq_nil_of_length_eq_zero h0
  subst hss
  have cC:CallsIn Fence.wide 6 Tryz.prog 221 #[.slice none 0 0] W λe w'=>e=.returned (.slice none 0 0)/\w'=W:=callsIn_wide.2 (AnyG.slices_Compact_string_empty O9 none 0 W)
  clear cS cV hrow
  gi_wp2_with (gi_at_call 221;refine cC.mono ?_;rintro e w' ⟨rfl,rfl⟩)
  go_ret
  exact⟨rfl,hBw⟩
 .have hH:Holds encStr W gb 0 (ss.mergeSort λx y=>decide (x<=y)).toArray:=holds_of_block hgb (by simpa using r4)
  have hgl:gb < W.heap.size:=(Array.getElem?_eq_some_iff.1 hgb).1
  have cC:CallsIn Fence.wide 6 Tryz.prog 221 #[.slice (some ⟨gb,0,none⟩) ss.length cap'] W λe w'=>∃ m:Nat,e=.returned (.slice (some ⟨gb,0,none⟩) m cap')/\((m=ss.length)↔ss.Nodup)/\Below w.heap.size w w':=by
   have:=AnyG.slices_Compact_string O9 gb 0 cap' (ss.mergeSort λx y=>decide (x<=y)) W hH (by rw[hsz];omega) (by rw[hsz];omega)
   rw[hsz] at this
   refine callsIn_wide.2 (this.mono ?_)
   rintro e w' ⟨rfl,q,rfl⟩
   refine⟨_,rfl,Bu ss,?_⟩
   have hg:=grownBy_sorted (w:=W) (g:=gb) (n:=q) (os:=#[]) (Lib.compact (ss.mergeSort λx y=>decide (x<=y)) ++ List.replicate (ss.length - (Lib.compact (ss.mergeSort λx y=>decide (x<=y))).length) []).toArray
   rw[Oh] at hg
   exact hBw.grown hg hBw.size (λj e=>by cases e;have h:=hbase;rw[World.size_alloc] at h;omega)
  clear cS cV hrow hH
  gi_wp2_with (gi_at_call 221;refine cC.mono ?_;rintro e w' ⟨m,rfl,hm,hb'⟩)
  go_ret
  refine⟨?_,hb'⟩
  show Ending.returned (.bool ((m:Int) == (ss.length:Int)))=_
  have:((m:Int) == (ss.length:Int))=decide ss.Nodup:=by
   rw[TE]
   simp only[TA,SN,<-hm]
   omega
  rw[this]
theorem E7 (s:ByteArray):encStr s.data.toList=.string s:=by
 cases s;simp[encStr]
def names (l:List ByteArray):List (List UInt8):=l.map λs=>s.data.toList
theorem Ha {Z:Nat->Prop} {μ:Mu} {hp:Array Obj} {es:List (List V)} {x:Value} (h:ax Z μ hp (.aT es) x) :
  (es=[]/\∃ a cap,x=.slice a 0 cap/\(a=none->cap=0))∨(∃ b off esz cap,∃ c:Nat->Nat->Value,x=.slice (some ⟨b,off,none⟩) es.length cap/\Z b/\es.length<=cap /\
   (∀ i,i < es.length->(es.getD i []).length=esz)/\(∀ i j,i < es.length->j < esz->cellAt hp b (off+i * esz+j)=some (c i j)) /\
   (∀ i j,i < es.length->j < esz->ax Z μ hp ((es.getD i []).getD j .any) (c i j))):=by
 cases h with
 | gY a cap d=>exact .inl ⟨rfl,a,cap,rfl,d⟩
 | aT _ b off esz cap c h1 e f g k=>exact .inr ⟨b,off,esz,cap,c,rfl,h1,e,f,g,k⟩
theorem NO (l:List ByteArray) (G:l.length<=1000):ay Tryz.prog 155 [encS l] (gb (decide (names l).Nodup)):=by
 intro Z μ w xs g r
 obtain⟨hlen,H⟩:=g
 obtain⟨x,rfl⟩:∃ x,xs=[x]:=by
  match xs,hlen with
  | [x],_=>exact⟨x,rfl⟩
 have I:ax Z μ w.heap (encS l) x:=H 0 (by simp)
 have k:(names l).length=l.length:=by simp[names]
 have fin:∀ e w',(e=Ending.returned (.bool (decide (names l).Nodup))/\RowKit.Below w.heap.size w w')->∃ x t,e=.returned x/\(∀ E,ax t E w'.heap (gb (decide (names l).Nodup)) x)/\ew w w'/\(∀ b,Z b->t b)/\(∀ b,t b->Z b∨(w.heap.size<=b/\b < w'.heap.size))/\fJ w.heap w'.heap (λ_=>False):=by
  rintro e w' ⟨rfl,m⟩
  exact⟨_,Z,rfl,λE=>.val _ rfl,⟨m.os,m.tape,m.output,m.size⟩,λ_ h=>h,λ_ h=>.inl h,λb u _=>m.block b u⟩
 have box:∀ (v:Value),(w.alloc (.cells #[v] 23)).cell? ⟨w.heap.size,0,none⟩=some v:=λv=>by
  have:=World.alloc_heap_new w (.cells #[v] 23)
  simp only[World.cell?,this];rfl
 rcases Ha I with ⟨he,a,cap,rfl,_⟩ | ⟨b,off,esz,cap,c,rfl,J,hle,z,K,L⟩
 .have A:l=[]:=by simpa using he
  subst A
  refine(yP a cap (names []) (by simp[names]) w (λn M B C=>?_)).mono fin
  subst C
  exact Gl n B w.heap.size cap a _ (box _) (by simp)
 .have o:∀ i,(hi:i < l.length)->(l.map λs=>[gs s]).getD i []=[gs l[i]]:=λi hi=>by simp[Sm,hi]
  have d:∀ i,(hi:i < l.length)->cellAt w.heap b (off+i)=some (.string l[i]):=λi hi=>by
   have h1:=z i (by simpa using hi)
   rw[o i hi] at h1
   simp only[SA,SZ] at h1
   subst h1
   have F:=K i 0 (by simpa using hi) (by omega)
   have q:=L i 0 (by simpa using hi) (by omega)
   rw[o i hi] at q
   simp only[TF] at q
   generalize c i 0=y at F q
   cases q
   simpa using F
  have f:(l.map λs=>[gs s]).length=(names l).length:=by simp[names]
  rw[f]
  refine(yP (some ⟨b,off,none⟩) cap (names l) (by rw[k];exact G) w (λn M B C=>?_)).mono fin
  subst C
  have D:=r b J
  refine IS n B w.heap.size b off cap (names l) (by rw[k];omega) _ (box _) (by simp) (by simp;omega) (λj P=>?_)
  have p:j < l.length:=by omega
  have N:(w.alloc (.cells #[.slice (some ⟨b,off,none⟩) (names l).length cap] 23)).cell? ⟨b,off+j,none⟩=w.cell? ⟨b,off+j,none⟩:=by
   have:=Below.heap_alloc w (.cells #[.slice (some ⟨b,off,none⟩) (names l).length cap] 23) b D
   simp only[World.cell?,this]
  rw[N,mn,d j p]
  have O:(names l).getD j []=l[j].data.toList:=by simp[names,Sm,p]
  rw[O,E7]
theorem bE.gY {P:Program} {f:FuncId} {h:az} (h1:bE P f [.emp 1] h (.emp 1) h) (m:bE P f [.emp 2] h (.emp 2) h) (n:bE P f [.dK] h (.emp 2) h):bE P f [.aT []] h (.emp 0) h:=by
 refine⟨Sy _,λZ μ F w xs l hr g=>?_⟩
 obtain⟨q,r⟩:=l
 obtain⟨x,rfl⟩:∃ x,xs=[x]:=by
  match xs,q with
  | [x],_=>exact⟨x,rfl⟩
 have s:ax Z μ w.heap (.aT []) x:=r 0 (by simp)
 have one:∀ v,ax Z μ w.heap v x->fH Z μ w.heap [v] [x]:=λv h=>⟨rfl,λi hi=>by
  simp at hi;subst hi;exact h⟩
 have d:∀ k,bE P f [if k=3 then .dK else .emp k] h (if k=3 then .emp 2 else .emp k) h->ax Z μ w.heap (if k=3 then .dK else .emp k) x->Calls P f [x].toArray w λe w'=>∃ x j μ',e=.returned x/\ax j μ' w'.heap (.emp 0) x/\gN j μ' w'.heap (cat h F)/\Ext Z μ w h.length j μ' w'/\(∀ id,id < h.length∨h.length<=id->μ' id=μ id):=by
  intro k hk t
  refine(hk.2 Z μ F w [x] (one _ t) hr g).mono ?_
  rintro e w' ⟨y,j,μ',rfl,o,rest⟩
  refine⟨y,j,μ',rfl,?_,rest⟩
  have:∀ p,ax j μ' w'.heap (.emp p) y->ax j μ' w'.heap (.emp 0) y:=λp h=>by
   cases h with | emp _ a _ _=>exact .emp 0 a (by simp) (by simp)
  split at o <;> exact this _ o
 rcases Ha s with ⟨_,a,cap,rfl,u⟩ | ⟨b,off,esz,cap,c,rfl,_,_,_⟩
 .cases a with
  | none =>
   have:=u rfl
   subst this
   exact d 1 (by simpa using h1) (.emp 1 none (by simp) (by simp))
  | some a =>
   cases cap with
   | zero=>exact d 2 (by simpa using m) (.emp 2 (some a) (by simp) (by simp))
   | succ c=>exact d 3 (by simpa using n) (.dK a (c+1))
 .cases cap with
  | zero=>exact d 2 (by simpa using m) (.emp 2 (some ⟨b,off,none⟩) (by simp) (by simp))
  | succ c=>exact d 3 (by simpa using n) (.dK ⟨b,off,none⟩ (c+1))
def wK (sz:Nat) (es:List (List V)) (H:View) (K:V->View->Prop):Prop :=
 (es=[]->∀ k,K (.emp k) H)/\(es≠[]->∀ n,H n=.dead->K (.sl n 0 es.length sz) (H.set n (.arr sz es)))
def dg:SF:=⟨ae [ab [bQ 2 1],ae [ab [aa 3 0,((some 4),.op (.nil true 0 (.tmp 3) (.val (.emp 1))))],bf 4 (ae [ab [bQ 2 1],.ret])],ab [bQ 5 2,aa 6 0,gD 7 1 16 5 6,aa 2 7],.ret],
 [.tmp 2],8⟩
theorem dD:aI Tryz.prog 152 []=some dg:=by kernel_rfl
def en:SF:=⟨ae [ab [bQ 2 1],ae [ab [aa 3 0,((some 4),.op (.nil true 0 (.tmp 3) (.val (.emp 1))))],bf 4 (ae [ab [bQ 2 1],.ret])],ab [bQ 5 2,aa 6 0,gD 7 1 8 5 6,aa 2 7],.ret],
 [.tmp 2],8⟩
theorem eE:aI Tryz.prog 140 []=some en:=by kernel_rfl
def cI:SF:=⟨ae [ab [bQ 2 1],ae [ab [aa 3 0,((some 4),.op (.nil true 0 (.tmp 3) (.val (.emp 1))))],bf 4 (ae [ab [bQ 2 1],.ret])],ab [bQ 5 2,aa 6 0,gD 7 3 32 5 6,aa 2 7],.ret],
 [.tmp 2],8⟩
theorem dc:aI Tryz.prog 163 []=some cI:=by kernel_rfl
theorem ay.tree {P:Program} {f:FuncId} {vs:List V} {t:V} (a:∀ v∈vs,Tree v) (b:Tree t) (h:∀ H,au P f vs H λr _=>r=t):ay P f vs t :=
 ay.of a ((h _).mono λr H' e c _=>by rw[e];exact .tree _ b)
theorem pa {H:View} : bA H .dK=some ([],[]):=id rfl
theorem ix {H:View} (sz bytes k:Nat) (K:V->View->Prop) (w:cx (H,K)):lJ sz bytes (.emp k) [] H K w=K (.emp k) H:=propext Iff.rfl
theorem Kq (l:List ByteArray) (b:l.length<=100000) (H:View) (K:V->View->Prop) (hk:wK 1 (l.map λs=>[gs s]) H K):au Tryz.prog 152 [encS l] H K:=by
 cases l with
 | nil =>
  have hp:∀ v t,Tree v->Tree t->(∀ H,au Tryz.prog 152 [v] H λr _=>r=t)->ay Tryz.prog 152 [v] t:=λv t c d h=>ay.tree (by intro x a;simp at a;subst a;exact c) d h
  have h1:=hp (.emp 1) (.emp 1) (.emp 1) (.emp 1) (λH=>by
   refine au.of mixed dD ?_
   simp(disch:=omega)only[↓wr,seval,wq,dg])
  have e:=hp (.emp 2) (.emp 2) (.emp 2) (.emp 2) (λH=>by
   refine au.of mixed dD ?_
   simp(disch:=omega)only[↓wr,seval,wq,dg,ix,Uk])
  have f:=hp .dK (.emp 2) .dK (.emp 2) (λH=>by
   refine au.of mixed dD ?_
   simp(disch:=omega)only[↓wr,seval,wq,dg,pa,ix,Uk])
  refine⟨by kernel_rfl,?_⟩
  rintro h rfl
  exact⟨.emp 0,h,bE.gY (bE.fO h1 h) (bE.fO e h) (bE.fO f h),.refl _,hk.1 rfl 0⟩
 | cons x r =>
  refine au.of mixed dD ?_
  simp only[SA] at b
  simp(disch:=omega)only[↓wr,seval,wq,dg,encS]
  refine⟨?_,?_,?_⟩
  .simp[T8,encS,aE]
  .unfold aC;simp;omega
  .intro n g
   have:=hk.2 (by simp) n g
   simp(disch:=omega)only[↓wr,seval,wq]
   simpa [de] using this
theorem Kp (l:List Int) (b:l.length<=100000) (H:View) (K:V->View->Prop) (hk:wK 1 (l.map λs=>[gi s]) H K):au Tryz.prog 140 [encI l] H K:=by
 cases l with
 | nil =>
  have hp:∀ v t,Tree v->Tree t->(∀ H,au Tryz.prog 140 [v] H λr _=>r=t)->ay Tryz.prog 140 [v] t:=λv t c d h=>ay.tree (by intro x a;simp at a;subst a;exact c) d h
  have h1:=hp (.emp 1) (.emp 1) (.emp 1) (.emp 1) (λH=>by
   refine au.of mixed eE ?_
   simp(disch:=omega)only[↓wr,seval,wq,en])
  have e:=hp (.emp 2) (.emp 2) (.emp 2) (.emp 2) (λH=>by
   refine au.of mixed eE ?_
   simp(disch:=omega)only[↓wr,seval,wq,en,ix,Uk])
  have f:=hp .dK (.emp 2) .dK (.emp 2) (λH=>by
   refine au.of mixed eE ?_
   simp(disch:=omega)only[↓wr,seval,wq,en,pa,ix,Uk])
  refine⟨by kernel_rfl,?_⟩
  rintro h rfl
  exact⟨.emp 0,h,bE.gY (bE.fO h1 h) (bE.fO e h) (bE.fO f h),.refl _,hk.1 rfl 0⟩
 | cons x r =>
  refine au.of mixed eE ?_
  simp only[SA] at b
  simp(disch:=omega)only[↓wr,seval,wq,en,encI]
  refine⟨?_,?_,?_⟩
  .simp[T8,encI,aE]
  .unfold aC;simp;omega
  .intro n g
   have:=hk.2 (by simp) n g
   simp(disch:=omega)only[↓wr,seval,wq]
   simpa [de] using this
theorem MK (l:List Term) (b:l.length<=100000) (H:View) (K:V->View->Prop) (hk:wK 3 (l.map de) H K):au Tryz.prog 163 [eu l] H K:=by
 cases l with
 | nil =>
  have hp:∀ v t,Tree v->Tree t->(∀ H,au Tryz.prog 163 [v] H λr _=>r=t)->ay Tryz.prog 163 [v] t:=λv t c d h=>ay.tree (by intro x a;simp at a;subst a;exact c) d h
  have h1:=hp (.emp 1) (.emp 1) (.emp 1) (.emp 1) (λH=>by
   refine au.of mixed dc ?_
   simp(disch:=omega)only[↓wr,seval,wq,cI])
  have e:=hp (.emp 2) (.emp 2) (.emp 2) (.emp 2) (λH=>by
   refine au.of mixed dc ?_
   simp(disch:=omega)only[↓wr,seval,wq,cI,ix,Uk])
  have f:=hp .dK (.emp 2) .dK (.emp 2) (λH=>by
   refine au.of mixed dc ?_
   simp(disch:=omega)only[↓wr,seval,wq,cI,pa,ix,Uk])
  refine⟨by kernel_rfl,?_⟩
  rintro h rfl
  exact⟨.emp 0,h,bE.gY (bE.fO h1 h) (bE.fO e h) (bE.fO f h),.refl _,hk.1 rfl 0⟩
 | cons x r =>
  refine au.of mixed dc ?_
  simp only[SA] at b
  simp(disch:=omega)only[↓wr,seval,wq,cI,eu,de]
  refine⟨?_,?_,?_⟩
  .simp[T8,eu,de,aE]
  .unfold aC;simp;omega
  .intro n g
   have:=hk.2 (by simp) n g
   simp(disch:=omega)only[↓wr,seval,wq]
   simpa [de] using this
theorem wK.own {sz:Nat} {es:List (List V)} {H:View} : wK sz es H λr H'=>aJ H' r sz es/\cw H H' r :=
 ⟨λhe k=>⟨by rw[he];exact .nil,.emp⟩,λ_ n a=>⟨.new,.new a⟩⟩
theorem Lm (l:List ByteArray) (a:l.length<=100000) (H:View):au Tryz.prog 152 [encS l] H λr H'=>aJ H' r 1 (l.map λs=>[gs s])/\cw H H' r:=Kq l a H _ .own
theorem LY (l:List Int) (a:l.length<=100000) (H:View):au Tryz.prog 140 [encI l] H λr H'=>aJ H' r 1 (l.map λs=>[gi s])/\cw H H' r:=Kp l a H _ .own
theorem M5 (l:List Term) (a:l.length<=100000) (H:View):au Tryz.prog 163 [eu l] H λr H'=>aJ H' r 3 (l.map de)/\cw H H' r:=MK l a H _ .own
def ln (g:af):List bk->Int->Bool
 | [],next=>next == g.aj.length
 | r :: l,next=>decide (0<=r.left) && decide (r.left<=next) && iS g r && ln g l (if r.left+1 > next then r.left+1 else next)
def qX (g:af):List ByteArray:=g.aj ++ g.ao.map Term.name
def pk (g:af):Bool :=
 qU g.ao && (decide ((1:Int)<=g.aj.length) && decide ((g.aj.length:Int)<=16)) && (decide ((1:Int)<=g.rules.length) && decide ((g.rules.length:Int)<=40)) && decide (names (qX g)).Nodup && (decide (0<=g.start) && decide (g.start<=(g.aj.length:Int) - 1)) &&
  !(g.aj.any λs=>!gv (fq s)) && ln g g.rules 0
theorem Fg {l:List ByteArray} : ∀ e∈(l.map λs=>[gs s]),∀ v∈e,Tree v:=by
 intro e he v b
 obtain⟨a,_,rfl⟩:=S5.1 he
 rw[Tz] at b
 subst b
 exact .val _
theorem MT (g:af) (p:g.Ok) (hs:g.aj.length+g.ao.length<=1000) (H:View):au Tryz.prog 89 [.agg (ag g)] H λr _=>r=gb (pk g):=by
 refine au.of mixed Bz ?_
 have L:=p.aj
 have M:=p.ao
 have hr:=p.rules
 unfold aK at L M hr
 simp(disch:=omega)only[↓wr,seval,wq,yO,ag,encS]
 refine av.dW ((Lm g.aj (by omega) H).mono ?_)
 rintro u H1 ⟨hu,hf⟩
 simp(disch:=omega)only[↓wr,seval,wq,ag,encS]
 refine aY.up g.ao.length (λi T H=>T 1=.aG (ag g) 0/\(∃ u,T 3=u/\aJ H u 1 ((g.aj ++ (g.ao.take i).map Term.name).map λs=>[gs s]))/\T 13=eu g.ao/\T 14=gi g.ao.length/\T 15=gi i) ?_ ?_
 .exact⟨rfl,⟨u,rfl,by simpa using hu⟩,rfl,rfl,rfl⟩
 rintro i k T H' hk ⟨h1,⟨u,q,hu⟩,a,c,d⟩
 simp(disch:=omega)only[↓wr,seval,wq,vL,h1,a,c,d,eu]
 apply ai.dec<;>intro B
 .have f:g.ao[i]?=some (g.ao[i]'(by omega)):=Sn (by omega)
  have v:(g.ao.take (i+1)).map Term.name=(g.ao.take i).map Term.name ++ [(g.ao[i]'(by omega)).name]:=by
   rw[S6,f,S0];rfl
  generalize g.ao[i]'(by omega)=t at f v
  simp(disch:=omega)only[↓wr,seval,wq,h1,q,a,c,d,eu,de,Ss,f]
  intro b C
  try simp(disch:=omega)only[↓wr,seval,wq,h1,q,a,c,d,set_set]
  intro m hm
  have D:=(bR hm bP).1
  have hm:=(bR (bR hm bP).2 bP).2
  try simp(disch:=omega)only[↓wr,seval,wq,h1,q,a,c,d,bO]
  have J:((g.aj ++ (g.ao.take i).map Term.name).map λs=>[gs s]).length<=1000:=by simp;omega
  refine rO (((hu.fresh C).other (hu.ne C)).fresh (by simp[View.set,hm,D])) (by simp) (by simp[aE]) (by unfold aC;simp at J ⊢;omega) (by unfold aC;simp at J ⊢;omega) ?_
  intro N H2 E _
  simp(disch:=omega)only[↓wr,seval,wq,h1,q,a,c,d]
  refine aH hk (by omega) ⟨h1,⟨N,rfl,?_⟩,a,c,rfl⟩
  rw[v]
  simpa using E
 .rw[SL (by omega)] at hu
  have O:H'=H':=rfl
  have y:(qX g).length<=1000:=by simp[qX];omega
  repeat' (first | ((first|apply ai.dec|apply ai.eq|apply ai.ne|apply ai.split)<;>intro)|(refine av.pure (MB g.ao p.ao) ?_)|(refine av.pure (qu _ _ _) ?_)|(refine av.JU (NO (qX g) y) (by kernel_rfl) (.val _) ⟨cg.own hu Fg,trivial⟩ ?_)|(simp(disch:=omega)only[↓wr,seval,wq,h1,q,a,c,d,ag,encS]))
  all_goals try (simp[pk, *];done)
  rename_i P Q K R S
  refine av.pure (y4 g.aj p.aj 157 [] (by simp) (λs=>!gv (fq s)) (λx _=>JQ x) (by kernel_rfl)) ?_
  repeat' (first | ((first|apply ai.dec|apply ai.eq|apply ai.ne|apply ai.split)<;>intro)|(simp(disch:=omega)only[↓wr,seval,wq,h1,q,a,c,d,ag,encS]))
  all_goals try (simp[pk, *];done)
  rename_i U
  have hle:g.rules.length<=40:=by simp at K;omega
  have h:∀ b,ln g g.rules 0=b->gb b=gb (pk g):=λb e=>by
   simp only[pk,P,Q,K,R,S,U,e,decide_true,TC,Bool.not_false]
  refine aY.up g.rules.length (λi T _=>∃ w:Int,0<=w/\w<=i/\ln g (g.rules.drop i) w=ln g g.rules 0/\T 1=.aG (ag g) 0/\T 6=gi w/\T 62=.aT (g.rules.map aQ)/\T 63=gi g.rules.length/\T 64=gi i) ?_ ?_
  .exact⟨0,by omega,by omega,rfl,h1,rfl,rfl,rfl,rfl⟩
  rintro i k T H' hk ⟨w,V,W,hi,h1,A,j,l,n⟩
  simp(disch:=omega)only[↓wr,seval,wq,vx,h1,A,j,l,n,ag]
  apply ai.dec<;>intro B
  .have f:g.rules[i]?=some (g.rules[i]'(by omega)):=Sn (by omega)
   rw[eC (show i < g.rules.length by omega)] at hi
   have o:g.rules[i]'(by omega)∈g.rules:=Sx _
   generalize g.rules[i]'(by omega)=t at f hi o
   obtain⟨⟨X,Y⟩,hp,F,G⟩:=p.aw t o
   simp only[ln] at hi
   simp(disch:=omega)only[↓wr,seval,wq,h1,A,j,l,n,aQ,encI,Ss,f]
   intro b C
   repeat' (first | ((first|apply ai.dec|apply ai.eq|apply ai.ne|apply ai.split)<;>intro)|(refine av.pure (qu _ _ _) ?_)|(refine av.pure (NY g t p ⟨F,G⟩) ?_)|(simp(disch:=omega)only[↓wr,seval,wq,h1,A,j,l,n,ag,aQ,encI,encS,set_set]))
   .rename_i z I
    have Z:0<=t.left/\t.left<=w:=by simpa using z
    rw[z,I,TC,TC] at hi
    have hw:IntKind.wrap .i64 (t.left+1)=t.left+1:=wrap64 (by omega) (by omega)
    refine aH hk (by omega) ⟨_,by split <;> omega,by split <;> (push_cast;omega),hi,h1,?_,j,l,rfl⟩
    show gi (if IntKind.wrap .i64 (t.left+1) > w then IntKind.wrap .i64 (t.left+1) else w)=_
    rw[hw]
   .rename_i z I
    rw[I,Bool.and_false,TV] at hi
    exact h _ hi.symm
   .rename_i z
    rw[z,TV,TV] at hi
    exact h _ hi.symm
  .rw[S4 (by omega)] at hi
   simp only[ln] at hi
   simp(disch:=omega)only[↓wr,seval,wq,h1,A,j,l,n,ag,encS]
   exact h _ hi.symm
theorem IV (g:af) (a:g.Ok) (b:g.aj.length+g.ao.length<=1000):ay Tryz.prog 89 [.agg (ag g)] (gb (pk g)):=ay.val (fa g) (MT g a b)
theorem Gc (g:af):∀ (l:List bk) (next:Int),ln g l next=iY g l (next - 1)
 | [],next=>by
  simp only[ln,iY]
  rw[TE];simp
 | r :: l,next=>by
  simp only[ln,iY,Gc g l]
  have a:(if r.left+1 > next then r.left+1 else next) - 1=if r.left > next - 1 then r.left else next - 1:=by
   split <;> split <;> omega
  have b:next - 1+1=next:=by omega
  rw[a,b]
theorem xJ (s:ByteArray):∀ (l:List ByteArray) (i:Int),0<=i->(nB s l i < 0/\s ∉ l)∨∃ k:Nat,nB s l i=i+k/\l[k]?=some s/\∀ j < k,l[j]?≠some s
 | [],i,h=>.inl ⟨by simp[nB],by simp⟩
 | x :: l,i,h=>by
  have b:iz x s=true↔x=s:=by
   unfold iz
   rw[TA]
   constructor
   .intro e;cases x;cases s;simp at e;simp[e]
   .rintro rfl;rfl
  simp only[nB]
  by_cases e:x=s
  .rw[St (b.2 e)]
   exact .inr ⟨0,by simp,by simp[e],by simp⟩
  .rw[Sr (λh=>e (b.1 h))]
   rcases xJ s l (i+1) (by omega) with ⟨h1,a⟩ | ⟨k,h1,a,c⟩
   .exact .inl ⟨h1,by simp[a,Ne.symm e]⟩
   .refine .inr ⟨k+1,by rw[h1];push_cast;omega,by simpa using a,λj d=>?_⟩
    cases j with
    | zero=>simp[e]
    | succ j=>simpa using c j (by omega)
theorem Ct (l:List ByteArray):(∀ (k:Nat) (s:ByteArray),l[k]?=some s->nB s l 0=k)↔l.Nodup:=by
 constructor
 .intro h
  rw[List.nodup_iff_pairwise_ne,List.pairwise_iff_getElem]
  intro i j hi b d e
  have h1:=h i l[i] (by simp[hi])
  have a:=h j l[j] (by simp[b])
  rw[e] at h1
  omega
 .intro f k s hk
  rcases xJ s l 0 (by omega) with ⟨_,a⟩ | ⟨j,h1,a,g⟩
  .exact absurd (SK hk) a
  .have b:j < l.length:=by
    rcases SY j l.length with h | h
    .exact h
    .simp[Te h] at a
   have c:k < l.length:=by
    rcases SY k l.length with h | h
    .exact h
    .simp[Te h] at hk
   have:j=k:=(List.getElem_inj f).1 (by
    rw[Sn b] at a;rw[Sn c] at hk
    simp at a hk;rw[a,hk])
   rw[h1,this];simp
theorem bytes_inj {a b:ByteArray} : a.data.toList=b.data.toList↔a=b:=by
 constructor
 .intro h;cases a;cases b;simp at h;simp[h]
 .rintro rfl;rfl
theorem K5 {l:List ByteArray} : (names l).Nodup↔l.Nodup:=by
 unfold names
 rw[List.nodup_iff_pairwise_ne,List.pairwise_map,List.nodup_iff_pairwise_ne]
 constructor
 .exact λh=>h.imp λh e=>h (bytes_inj.2 e)
 .exact λh=>h.imp λh e=>h (bytes_inj.1 e)
theorem pI {α:Type} [BEq α] [LawfulBEq α]:∀ (l m:List α),l.Nodup->(∀ x∈l,x∈m)->l.length<=m.length
 | [],m,_,_=>by simp
 | x :: l,m,a,c=>by
  rw[Tx] at a
  have d:x∈m:=c x (by simp)
  have:=pI l (m.erase x) a.2 (λy e=>by
   have b:y≠x:=by rintro rfl;exact a.1 e
   exact(List.mem_erase_of_ne b).2 (c y (by simp[e])))
  rw[List.length_erase_of_mem d] at this
  have:0 < m.length:=List.length_pos_of_mem d
  simp only[SA]
  omega
def k7 (n:Nat):List Int:=(List.range n).map λ(k:Nat)=>(k:Int)+1
theorem uU {n:Nat} {x:Int} : x∈k7 n↔1<=x/\x<=n:=by
 simp only[k7,S5,TL]
 constructor
 .rintro⟨k,hk,rfl⟩;omega
 .rintro⟨h1,a⟩;exact⟨(x - 1).toNat,by omega,by omega⟩
theorem E6 (n:Nat):(k7 n).Nodup:=by
 rw[k7,List.nodup_iff_pairwise_ne,List.pairwise_map]
 exact(List.nodup_range (n:=n)).imp λh e=>h (by omega)
theorem Pk {l:List Int} {n:Nat} (b:l.Nodup) (c:∀ x∈l,1<=x/\x<=n) (f:l.length=n) {x:Int} (h1:1<=x) (d:x<=n):x∈l:=by
 refine TQ λe=>?_
 have:=pI (x :: l) (k7 n) (Tx.2 ⟨e,b⟩) (λy a=>by
  rw[uU]
  rcases SM.1 a with rfl | a
  .exact⟨h1,d⟩
  .exact c y a)
 simp[k7] at this
 omega
theorem ve (n:Int):∀ (l:List Term) (w:Int),w≠0->jb n l w=if (∀ t∈l,t.level=n->t.assoc=w) then some w else none
 | [],w,_=>by simp[jb]
 | t :: r,w,hw=>by
  simp only[jb]
  by_cases a:t.level=n
  .rw[St a]
   by_cases b:w=t.assoc
   .rw[Sr (by simp[b]),<-b,ve n r w hw]
    congr 1
    simp[a,b]
   .rw[St ⟨hw,b⟩,Sr (λh=>b (h t (by simp) a).symm)]
  .rw[Sr a,ve n r w hw]
   congr 1
   simp[a]
theorem AW (n:Int):∀ (l:List Term),(∀ t∈l,t.level=n->t.assoc≠0)->(gG l n=true↔∃ a,(∃ t∈l,t.level=n)/\∀ t∈l,t.level=n->t.assoc=a)
 | [],_=>by simp[gG,jb]
 | t :: r,h=>by
  by_cases c:t.level=n
  .have g:=h t (by simp) c
   have e:gG (t :: r) n=match (if (∀ u∈r,u.level=n->u.assoc=t.assoc) then some t.assoc else none) with | some w=>w != 0 | none=>false:=by
    simp only[gG,jb]
    rw[St c,Sr (by simp),ve n r _ g]
    rfl
   rw[e]
   by_cases hr:∀ u∈r,u.level=n->u.assoc=t.assoc
   .rw[St hr]
    simp only[bne_iff_ne,ne_eq,g,not_false_eq_true,true_iff]
    refine⟨t.assoc,⟨t,by simp,c⟩,λu hu b=>?_⟩
    rcases SM.1 hu with rfl | hu
    .rfl
    .exact hr u hu b
   .rw[Sr hr]
    simp only[SU,false_iff]
    rintro⟨a,_,d⟩
    exact hr λu hu b=>(d u (by simp[hu]) b).trans (d t (by simp) c).symm
  .have i:=AW n r (λu hu=>h u (by simp[hu]))
   have e:gG (t :: r) n=gG r n:=by
    simp only[gG,jb,Sr c]
   rw[e,i]
   constructor
   .rintro⟨a,⟨u,hu,b⟩,d⟩
    refine⟨a,⟨u,by simp[hu],b⟩,λv f b=>?_⟩
    rcases SM.1 f with rfl | f
    .exact absurd b c
    .exact d v f b
   .rintro⟨a,⟨u,hu,b⟩,d⟩
    rcases SM.1 hu with rfl | hu
    .exact absurd b c
    .exact⟨a,⟨u,hu,b⟩,λv f=>d v (by simp[f])⟩
def tn (l:List Term):Prop:=∀ t∈l,∀ u∈l,t.level=u.level->t.level≠0->t.assoc=u.assoc
theorem F0 {κ β:Type} [BEq κ] [LawfulBEq κ] {k:κ} {v:β} : ∀ {a:List (κ × β)},(a.map (·.1)).Nodup->((jH k v a).map (·.1)).Nodup/\∀ x,x∈(jH k v a).map (·.1)↔x=k∨x∈a.map (·.1)
 | [],_=>by simp[jH]
 | y :: a,h=>by
  simp only[S7,Tx] at h
  obtain⟨h1,b⟩:=F0 (k:=k) (v:=v) h.2
  simp only[jH]
  by_cases e:k=y.1
  .simp only[e,Uv,if_true,S7,Tx]
   refine⟨h,λx=>by simp[e]⟩
  .have:(k == y.1)=false:=by simp[e]
   rw[this]
   simp only[SU,if_false,S7,Tx,SM]
   refine⟨⟨λhm=>?_,h1⟩,λx=>?_⟩
   .rcases (b _).1 hm with e' | hm
    .exact e e'.symm
    .exact h.1 hm
   .rw[b]
    constructor
    .rintro (h | h | h) <;> simp[h]
    .rintro (h | h | h) <;> simp[h]
theorem xp:∀ (l:List Term) (a:List (Int × Int)) (top:Int),(∀ t∈l,t.level≠0->t.assoc≠0)->(∀ n v,ed a n=some v->v≠0)->(a.map (·.1)).Nodup ->
  match lR l a top with
  | some (z,b)=>tn l/\(∀ t∈l,∀ v,t.level≠0->ed a t.level=some v->t.assoc=v)/\(z.map (·.1)).Nodup/\(∀ n,n∈z.map (·.1)↔n∈a.map (·.1)∨(n≠0/\∃ t∈l,t.level=n)) /\
    top<=b/\(∀ t∈l,t.level≠0->t.level<=b)/\(b=top∨∃ t∈l,t.level=b/\t.level≠0)
  | none=>¬ (tn l/\∀ t∈l,∀ v,t.level≠0->ed a t.level=some v->t.assoc=v)
 | [],a,top,_,_,A=>by
  simp only[lR]
  exact⟨λt c=>by simp at c,λt c=>by simp at c,A,λn=>by simp,by omega,λt c=>by simp at c,by simp⟩
 | t :: r,a,top,E,B,A=>by
  have p:∀ u∈r,u.level≠0->u.assoc≠0:=λu hu=>E u (by simp[hu])
  simp only[lR]
  by_cases c:t.level=0
  .rw[St c]
   have g:=xp r a top p B A
   have one:tn (t :: r)↔tn r:=by
    constructor
    .exact λh u hu w hw=>h u (by simp[hu]) w (by simp[hw])
    .intro h u hu w hw e d
     rcases SM.1 hu with rfl | hu
     .exact absurd c d
     .rcases SM.1 hw with rfl | hw
      .exact absurd (e.trans c) d
      .exact h u hu w hw e d
   have q:(∀ u∈t :: r,∀ v,u.level≠0->ed a u.level=some v->u.assoc=v)↔∀ u∈r,∀ v,u.level≠0->ed a u.level=some v->u.assoc=v:=by
    simp[c]
   have mem:∀ n,(n≠0/\∃ u∈t :: r,u.level=n)↔(n≠0/\∃ u∈r,u.level=n):=λn=>by
    constructor
    .rintro⟨h1,u,hu,rfl⟩
     rcases SM.1 hu with rfl | hu
     .exact absurd c h1
     .exact⟨h1,u,hu,rfl⟩
    .rintro⟨h1,u,hu,rfl⟩;exact⟨h1,u,by simp[hu],rfl⟩
   cases s:lR r a top with
   | none=>rw[s] at g;rw[one,q];exact g
   | some x =>
    obtain⟨z,b⟩:=x
    rw[s] at g
    obtain⟨i1,i2,i3,i4,i5,i6,i7⟩:=g
    refine⟨one.2 i1,q.2 i2,i3,λn=>by rw[i4,mem],i5,?_,?_⟩
    .intro u hu d
     rcases SM.1 hu with rfl | hu
     .exact absurd c d
     .exact i6 u hu d
    .rcases i7 with h | ⟨u,hu,h⟩
     .exact .inl h
     .exact .inr ⟨u,by simp[hu],h⟩
  .rw[Sr c]
   have H:=E t (by simp) c
   by_cases j:(ed a t.level).getD 0≠0/\(ed a t.level).getD 0≠t.assoc
   .rw[St j]
    simp only
    rintro⟨_,o⟩
    cases hp:ed a t.level with
    | none=>simp[hp] at j
    | some v =>
     have:=o t (by simp) v c hp
     simp[hp] at j
     exact j.2 this.symm
   .rw[Sr j]
    have i:∀ v,ed a t.level=some v->t.assoc=v:=λv hp=>by
     have:=B _ _ hp
     simp[hp] at j
     exact(j this).symm
    have f:∀ n,ed (jH t.level t.assoc a) n=if n=t.level then some t.assoc else ed a n:=λn=>by
     rw[EG];simp
    have hk:=F0 (k:=t.level) (v:=t.assoc) A
    have g:=xp r (jH t.level t.assoc a) (if t.level > top then t.level else top) p (λn v hp=>by
     rw[f] at hp
     split at hp
     .simp at hp;rw[<-hp];exact H
     .exact B n v hp) hk.1
    have both:(tn (t :: r)/\∀ u∈t :: r,∀ v,u.level≠0->ed a u.level=some v->u.assoc=v)↔(tn r/\∀ u∈r,∀ v,u.level≠0->ed (jH t.level t.assoc a) u.level=some v->u.assoc=v):=by
     constructor
     .rintro⟨h1,o⟩
      refine⟨λu hu w hw=>h1 u (by simp[hu]) w (by simp[hw]),λu hu v d hp=>?_⟩
      rw[f] at hp
      split at hp
      .rename_i e
       simp at hp;rw[<-hp]
       exact h1 u (by simp[hu]) t (by simp) e d
      .exact o u (by simp[hu]) v d hp
     .rintro⟨h1,o⟩
      have C:∀ u∈r,u.level=t.level->u.assoc=t.assoc:=λu hu e=>o u hu t.assoc (by rw[e];exact c) (by rw[f,St e])
      refine⟨λu hu w hw e d=>?_,λu hu v d hp=>?_⟩
      .rcases SM.1 hu with F | y
       .rcases SM.1 hw with D | m
        .rw[F,D]
        .rw[F] at e ⊢
         exact(C w m e.symm).symm
       .rcases SM.1 hw with D | m
        .rw[D] at e ⊢
         exact C u y e
        .exact h1 u y w m e d
      .rcases SM.1 hu with rfl | hu
       .exact i v hp
       .by_cases e:u.level=t.level
        .rw[C u hu e];exact i v (by rw[<-e];exact hp)
        .exact o u hu v d (by rw[f,Sr e];exact hp)
    have G:top<=(if t.level > top then t.level else top)/\t.level<=(if t.level > top then t.level else top):=by split <;> omega
    cases s:lR r (jH t.level t.assoc a) (if t.level > top then t.level else top) with
    | none=>rw[s] at g;simp only;rw[both];exact g
    | some x =>
     obtain⟨z,b⟩:=x
     rw[s] at g
     obtain⟨i1,i2,i3,i4,i5,i6,i7⟩:=g
     obtain⟨I,J⟩:=both.2 ⟨i1,i2⟩
     refine⟨I,J,i3,λn=>?_,by omega,?_,?_⟩
     .rw[i4,hk.2]
      constructor
      .rintro ((rfl | h) | ⟨h1,u,hu,h⟩)
       .exact .inr ⟨c,t,by simp,rfl⟩
       .exact .inl h
       .exact .inr ⟨h1,u,by simp[hu],h⟩
      .rintro (h | ⟨h1,u,hu,h⟩)
       .exact .inl (.inr h)
       .rcases SM.1 hu with rfl | hu
        .exact .inl (.inl h.symm)
        .exact .inr ⟨h1,u,hu,h⟩
     .intro u hu d
      rcases SM.1 hu with rfl | hu
      .omega
      .exact i6 u hu d
     .rcases i7 with h | ⟨u,hu,h⟩
      .by_cases e:t.level > top
       .rw[St e] at h;exact .inr ⟨t,by simp,h.symm,c⟩
       .rw[Sr e] at h;exact .inl h
      .exact .inr ⟨u,by simp[hu],h⟩
theorem AY (l:List Term) (h:∀ t∈l,kH t=true):qK l=true↔∀ t∈l,∀ n:Int,1<=n->n<=t.level->gG l n=true:=by
 have g:∀ t∈l,0<=t.level/\(t.level≠0->t.assoc≠0):=λt b=>by
  have:=h t b
  simp only[kH,SE,SN,TA] at this
  refine⟨this.1.1.1.1.2,λh1 i=>?_⟩
  have e:=this.2
  simp[h1,i] at e
 have m:=xp l [] 0 (λt b=>(g t b).2) (by simp[ed]) (by simp)
 have o:∀ n:Int,1<=n->(gG l n=true↔∃ a,(∃ t∈l,t.level=n)/\∀ t∈l,t.level=n->t.assoc=a):=λn y=>AW n l (λt b e=>(g t b).2 (by omega))
 unfold qK
 cases f:lR l [] 0 with
 | none =>
  rw[f] at m
  simp only[SU,false_iff]
  intro c
  refine m ⟨λt b u hu e p=>?_,λt b v _ hp=>by simp[ed] at hp⟩
  have h1:=g t b
  obtain⟨a,_,i⟩:=(o t.level (by omega)).1 (c t b t.level (by omega) (by omega))
  exact(i t b rfl).trans (i u hu e.symm).symm
 | some x =>
  obtain⟨a,top⟩:=x
  rw[f] at m
  obtain⟨i1,_,i3,i4,i5,i6,i7⟩:=m
  simp only[TA]
  have d:∀ n,n∈a.map (·.1)↔n≠0/\∃ t∈l,t.level=n:=λn=>by rw[i4];simp
  have j:∀ x∈a.map (·.1),1<=x/\x<=(top.toNat:Int):=λx f=>by
   obtain⟨h1,t,b,rfl⟩:=(d x).1 f
   have:=(g t b).1
   have:=i6 t b h1
   omega
  constructor
  .intro hlen t b n k r
   have q:t.level<=top:=i6 t b (by omega)
   have hm:=Pk i3 j (by simp;omega) k (show n<=(top.toNat:Int) by omega)
   obtain⟨p,u,hu,rfl⟩:=(d n).1 hm
   exact(o _ k).2 ⟨u.assoc,⟨u,hu,rfl⟩,λw hw e=>i1 w hw u hu e (by omega)⟩
  .intro c
   have h1:a.length<=top.toNat:=by
    have:=pI _ (k7 top.toNat) i3 (λx f=>uU.2 (j x f))
    simpa [k7] using this
   have i:top.toNat<=a.length:=by
    rcases i7 with e | ⟨t,b,e,p⟩
    .subst e;simp
    .have:=pI (k7 top.toNat) (a.map (·.1)) (E6 _) (λx f=>by
      rw[uU] at f
      have:=(g t b).1
      obtain⟨_,⟨u,hu,s⟩,_⟩:=(o x f.1).1 (c t b x f.1 (by omega))
      exact(d x).2 ⟨by omega,u,hu,s⟩)
     simpa [k7] using this
   omega
theorem Ag (g:af):∀ (l:List Term) (i:Int),mO g l i=true↔∀ (k:Nat) (t:Term),l[k]?=some t->kQ g (i+k) t=true
 | [],i=>by simp[mO]
 | t :: r,i=>by
  simp only[mO,SE,Ag g r (i+1)]
  constructor
  .rintro⟨h1,a⟩ k u hk
   cases k with
   | zero=>simp at hk;subst hk;simpa using h1
   | succ k =>
    have:=a k u (by simpa using hk)
    rw[show i+((k+1:Nat):Int)=i+1+k by push_cast;omega];exact this
  .intro h
   refine⟨by simpa using h 0 t rfl,λk u hk=>?_⟩
   have:=h (k+1) u (by simpa using hk)
   rw[show i+1+(k:Int)=i+((k+1:Nat):Int) by push_cast;omega];exact this
theorem CL (g:af):∀ (l:List ByteArray) (i:Int),qC g l i=true↔∀ (k:Nat) (s:ByteArray),l[k]?=some s->oL g (i+k) s=true
 | [],i=>by simp[qC]
 | t :: r,i=>by
  simp only[qC,SE,CL g r (i+1)]
  constructor
  .rintro⟨h1,a⟩ k u hk
   cases k with
   | zero=>simp at hk;subst hk;simpa using h1
   | succ k =>
    have:=a k u (by simpa using hk)
    rw[show i+((k+1:Nat):Int)=i+1+k by push_cast;omega];exact this
  .intro h
   refine⟨by simpa using h 0 t rfl,λk u hk=>?_⟩
   have:=h (k+1) u (by simpa using hk)
   rw[show i+1+(k:Int)=i+((k+1:Nat):Int) by push_cast;omega];exact this
theorem C0 (g:af) (s:ByteArray):qA g s < 0↔s ∉ g.ao.map Term.name:=by
 unfold qA
 rcases xJ s (g.ao.map Term.name) 0 (by omega) with ⟨h1,a⟩ | ⟨k,h1,a,_⟩
 .exact⟨λ_=>a,λ_=>h1⟩
 .constructor
  .intro h;omega
  .intro h;exact absurd (SK a) h
theorem C8 (g:af) (t:Term):rP g t=true↔∀ n:Int,1<=n->n<=t.level->gG g.ao n=true:=by
 simp only[rP,Tc,TL]
 constructor
 .intro h n h1 a
  have:=h (n - 1).toNat (by omega)
  rwa [show (((n - 1).toNat:Nat):Int)+1=n by omega] at this
 .intro h k hk
  exact h _ (by omega) (by omega)
theorem Js (g:af):pk g=ca g:=by
 rw[TE]
 simp only[pk,ca,kN,lk,qU,SE,SN,Ag,CL,Gc,Tc,Ur,List.any_eq_false,Bool.not_eq_true,K5,qX,TT,Int.zero_add,Int.zero_sub,Bool.not_not]
 have q:(∀ (k:Nat) (t:Term),g.ao[k]?=some t->kQ g k t=true)↔(∀ t∈g.ao,kH t=true)/\(g.ao.map Term.name).Nodup/\(∀ t∈g.ao,rP g t=true):=by
  rw[<-Ct]
  constructor
  .intro h
   have i:∀ t∈g.ao,∃ k:Nat,g.ao[k]?=some t:=λt d=>List.getElem?_of_mem d
   refine⟨λt d=>?_,λk s hk=>?_,λt d=>?_⟩
   .obtain⟨k,hk⟩:=i t d
    have:=h k t hk
    simp only[kQ,kH,SE,SN] at this ⊢
    simp[this]
   .rw[Ss,Sw] at hk
    obtain⟨t,hk,rfl⟩:=hk
    have:=h k t hk
    simp only[kQ,SE,TA] at this
    exact this.1.1.1.1.1.1.2
   .obtain⟨k,hk⟩:=i t d
    have:=h k t hk
    simp only[kQ,SE] at this
    exact this.2
  .rintro⟨h1,j,l⟩ k t hk
   have hm:=SK hk
   have a:=h1 t hm
   have b:=j k t.name (by rw[Ss,hk];rfl)
   have c:=l t hm
   simp only[kQ,kH,qA,SE,SN] at a ⊢
   simp[a,b,c]
 have r:(∀ (k:Nat) (s:ByteArray),g.aj[k]?=some s->oL g k s=true)↔(∀ s∈g.aj,gv (fq s)=true)/\g.aj.Nodup/\(∀ s∈g.aj,s ∉ g.ao.map Term.name):=by
  rw[<-Ct]
  constructor
  .intro h
   have i:∀ t∈g.aj,∃ k:Nat,g.aj[k]?=some t:=λt d=>List.getElem?_of_mem d
   refine⟨λt d=>?_,λk s hk=>?_,λt d=>?_⟩
   .obtain⟨k,hk⟩:=i t d
    have:=h k t hk
    simp only[oL,SE] at this
    exact this.1.1
   .have:=h k s hk
    simp only[oL,BG,SE,TA] at this
    exact this.1.2
   .obtain⟨k,hk⟩:=i t d
    have:=h k t hk
    simp only[oL,SE,SN] at this
    exact(C0 g t).1 this.2
  .rintro⟨h1,j,l⟩ k s hk
   have hm:=SK hk
   have a:=h1 s hm
   have b:=j k s hk
   have c:=(C0 g s).2 (l s hm)
   simp[oL,BG,a,b,c]
 rw[q,r]
 constructor
 .rintro⟨⟨⟨⟨⟨⟨⟨⟨t1,t2⟩,t3⟩,v,w⟩,x,y⟩,m,a2,a3⟩,s1,s2⟩,n⟩,o⟩
  have p:=(AY g.ao t1).1 t3
  exact⟨⟨⟨⟨⟨⟨⟨t2,t1,a2,λt d=>(C8 g t).2 (p t d)⟩,⟨by omega,by omega⟩,λs f=>by simpa using n s f,m,λs f hm=>a3 s f s hm rfl⟩,by omega⟩,by omega⟩,s1⟩,by omega⟩,o⟩
 .rintro⟨⟨⟨⟨⟨⟨⟨t2,t1,a2,t3⟩,⟨v,w⟩,n,m,a3⟩,x⟩,y⟩,s1⟩,s2⟩,o⟩
  have p:=(AY g.ao t1).2 (λt d=>(C8 g t).1 (t3 t d))
  exact⟨⟨⟨⟨⟨⟨⟨⟨t1,t2⟩,p⟩,by omega,by omega⟩,by omega,by omega⟩,m,a2,λs f u hu e=>a3 s f (e ▸ hu)⟩,s1,by omega⟩,λs f=>by simp[n s f]⟩,o⟩
theorem rR (g:af) (a:g.Ok) (b:g.aj.length+g.ao.length<=1000):ay Tryz.prog 89 [.agg (ag g)] (gb (ca g)):=by
 rw[<-Js];exact IV g a b
def Fl (n:Nat) (r:bk):Prop:=bK r.left/\0<=r.left/\r.left < n/\r.right.length<=6/\∀ s∈r.right,bK s/\(s < 0->-1 - s < n)
theorem af.cZ.tq {g:af} (a:g.Ok) (h:g.cZ) {r:bk} (hr:r∈g.rules):Fl g.aj.length r :=
 ⟨(a.aw r hr).1,(h.left r hr).1,(h.left r hr).2,h.right r hr,λs b=>⟨(a.aw r hr).2.2.2 s b,λc=>h.neg hr b c⟩⟩
def se:SF:=⟨ae [ab [bm 3 false],.region false [⟨none,[aa 4 0,aF 5 .lss 4 0,aa 6 5]⟩,⟨(some (6,true)),[ak 7 1,aa 8 0,((some 9),.op (.arith .sub (.val (.val (.int .i64 (-1)))) (.tmp 8))),aZ 10 1 7 9,ak 11 10,dp 12 11]⟩,⟨none,[eA 13 6 12,aa 3 13]⟩],.ret],
 [.tmp 3],14⟩
theorem wH:aI Tryz.prog 228 []=some se:=by kernel_rfl
def vI:SF:=⟨ae [ab [cG 2 0,cG 3 1,bm 4 false],ab [al 5 1 2,ak 6 5,((some 7),.op (.sF 228 [] [(.tmp 3)])),bg 8 90 [6,7],dp 9 8,aa 4 9],.ret],
 [.tmp 4],10⟩
theorem y0:aI Tryz.prog 164 [2,3]=some vI:=by kernel_rfl
def oo:SF:=⟨ae [ab [cG 2 0,bQ 4 1],ae [ab [ba 5 3 2,aa 6 1,bg 7 164 [5,6]],bf 7 (ae [ab [al 8 0 2,ak 9 8,((some 10),.op (.bN 1 1 [(.val (.int .i64 0))] [(0,(.tmp 9))])),aa 4 10],.ret])],ab [bQ 4 1],.ret],
 [.tmp 4],11⟩
theorem sE:aI Tryz.prog 226 [2]=some oo:=by kernel_rfl
def nH:SC :=
 ae [ab [aU 24 .lss 23 22],cb 24 (.exit 0),.block 1 (ae [ab [aZ 25 1 21 23,ak 26 25,aa 7 26],ab [aa 27 7,aF 28 .lss 27 0],bf 28 (ab [aa 29 5,aa 30 7,((some 31),.op (.arith .sub (.val (.val (.int .i64 (-1)))) (.tmp 30))),((some 32),.op (.bN 1 1 [(.val (.int .i64 0))] [(0,(.tmp 31))])),gD 33 1 8 29 32,aa 5 33])]),ab [aF 34 .add 23 1,aa 23 34]]
def pw:SF:=⟨ae [ab [cG 3 0,bQ 5 1],ae [.region false [⟨none,[aa 8 1,al 9 0 3,ak 10 9,aZ 11 1 8 10,ak 12 11,dp 13 12,aa 14 13]⟩,⟨(some (14,false)),[ba 15 3 3,ak 16 2,bg 17 164 [15,16],dp 18 17]⟩,⟨none,[cR 19 14 18]⟩],bf 19 (ae [ab [bQ 5 1],.ret])],ae [ab [al 20 1 3,ak 21 20,aP 22 21,aR 23 0],cd 0 nH],ab [aa 35 5,aa 5 35],.ret],
 [.tmp 5],36⟩
theorem tb:aI Tryz.prog 227 [3]=some pw:=by kernel_rfl
theorem Er (r:bk) (is:List Bool):∀ v∈[V.agg (aQ r),cq is],Tree v:=by
 intro v a;simp at a
 rcases a with rfl | rfl
 .exact cn _ (gV r)
 .exact jg is
def Bx (is:List Bool) (s:Int):Bool:=decide (s < 0) && !is.getD (-1 - s).toNat false
theorem Jo (is:List Bool) (s:Int) (e:bK s/\(s < 0->-1 - s < is.length)):ay Tryz.prog 228 [gi s,.aG [cq is] 0] (gb (Bx is s)):=by
 refine ay.val ?_ λH=>?_
 .intro v a;simp at a
  rcases a with rfl | rfl
  .exact .val _
  .exact iv (by intro v a;simp at a;subst a;exact jg is)
 obtain⟨⟨h1,f⟩,g⟩:=e
 refine au.of mixed wH ?_
 simp(disch:=omega)only[↓wr,seval,wq,se,cq]
 apply ai.dec<;>intro h
 .have d:is[(-1 - s).toNat]?=some (is[(-1 - s).toNat]'(by omega)):=Sn (by omega)
  have c:is.getD (-1 - s).toNat false=is[(-1 - s).toNat]'(by omega):=by simp[Sm,d]
  generalize is[(-1 - s).toNat]'(by omega)=b at d c
  simp(disch:=omega)only[↓wr,seval,wq,Ss,d]
  simp only[Bx,c,h,decide_true,TC]
 .simp(disch:=omega)only[↓wr,seval,wq]
  simp[Bx,h]
theorem JC {is:List Bool} {l:List Int} : (!l.any (Bx is))=fQ l is true:=by
 simp only[fQ,List.not_any_eq_all_not]
 congr 1
 funext s
 simp only[Bx]
 by_cases h:0<=s
 .simp[h,show ¬ s < 0 by omega]
 .simp[h,show s < 0 by omega]
theorem wW (r:bk) (is:List Bool) (hr:aK r.right) (b:∀ s∈r.right,bK s/\(s < 0->-1 - s < is.length)):ay Tryz.prog 164 [.agg (aQ r),cq is] (gb (fQ r.right is true)):=by
 rw[<-JC]
 refine ay.val (Er r is) λH=>?_
 refine au.of mixed y0 ?_
 simp(disch:=omega)only[↓wr,seval,wq,vI,aQ,cq,encI]
 refine av.pure (lM r.right hr 228 [.aG [cq is] 0] (by
  intro v a;simp at a;subst a
  exact iv (by intro v a;simp at a;subst a;exact jg is)) (Bx is) (λx c=>Jo is x (b x c)) (by kernel_rfl)) ?_
 simp(disch:=omega)only[↓wr,seval,wq]
theorem lY {h:az} {u:V} {l:List Int} (a:aJ h.view u 1 (l.map λx=>[gi x])):dH h u (encI l):=dH.Je (f:=Value.int .i64) a
theorem BD (r:bk) (is:List Bool) (hr:Fl is.length r):cT Tryz.prog 226 [.agg (aQ r),cq is] (encI (if fQ r.right is true=true then [r.left] else [])):=by
 obtain⟨f,_,_,c,d⟩:=hr
 have a:aK r.right:=by unfold aK;omega
 refine cT.of (Er r is) ?_
 refine au.of mixed sE ?_
 simp(disch:=omega)only[↓wr,seval,wq,oo,aQ,encI]
 refine av.pure (wW r is a d) ?_
 repeat' (first | ((first|apply ai.dec|apply ai.eq|apply ai.ne|apply ai.split)<;>intro)|(simp(disch:=omega)only[↓wr,seval,wq,aQ,encI]))
 all_goals first
  | (intro n e b;rw[St (by simp[*])];exact lY (l:=[r.left]) (.inr ⟨n,rfl,by rw[b];simp[View.set]⟩))
  | (intro e b;rw[Sr (by simp[*])];exact .emp _)
def gj (l:List Int):List Int:=(l.filter λs=>decide (s < 0)).map λs=>-1 - s
theorem ME (r:bk) (is p:List Bool):∀ v∈[V.agg (aQ r),cq is,.aG [cq p] 0],Tree v:=by
 intro v a;simp at a
 rcases a with rfl | rfl | rfl
 .exact cn _ (gV r)
 .exact jg is
 .exact iv (by intro v a;simp at a;subst a;exact jg p)
theorem DD (r:bk) (is p:List Bool) (hr:Fl is.length r) (hp:p.length=is.length) :
  cT Tryz.prog 227 [.agg (aQ r),cq is,.aG [cq p] 0] (encI (if (is.getD r.left.toNat false && fQ r.right p true)=true then gj r.right else [])):=by
 obtain⟨F,A,B,C,l⟩:=hr
 have n:aK r.right:=by unfold aK;omega
 refine cT.of (ME r is p) ?_
 refine au.of mixed tb ?_
 have o:is[r.left.toNat]?=some (is[r.left.toNat]'(by omega)):=Sn (by omega)
 have g:is.getD r.left.toNat false=is[r.left.toNat]'(by omega):=by simp[Sm,o]
 generalize is[r.left.toNat]'(by omega)=b at o g
 rw[g]
 simp(disch:=omega)only[↓wr,seval,wq,pw,aQ,encI,cq,Ss,o]
 cases b with
 | false =>
  simp(disch:=omega)only[↓wr,seval,wq]
  intro z q
  exact .emp _
 | true =>
  simp(disch:=omega)only[↓wr,seval,wq,aQ,encI,cq]
  refine av.pure (wW r p n (λs j=>⟨(l s j).1,λh=>by rw[hp];exact(l s j).2 h⟩)) ?_
  repeat' (first | ((first|apply ai.dec|apply ai.eq|apply ai.ne|apply ai.split)<;>intro)|(simp(disch:=omega)only[↓wr,seval,wq,aQ,encI,cq]))
  .rename_i t
   rw[St (by simp[t])]
   refine aY.up r.right.length (λi T H=>(∃ u,T 5=u/\aJ H u 1 ((gj (r.right.take i)).map λx=>[gi x]))/\T 21=encI r.right/\T 22=gi r.right.length/\T 23=gi i) ?_ ?_
   .exact⟨⟨_,rfl,.nil⟩,rfl,rfl,rfl⟩
   rintro i k T H' hk ⟨⟨u,e,hu⟩,a,c,d⟩
   simp(disch:=omega)only[↓wr,seval,wq,nH,e,a,c,d,encI]
   apply ai.dec<;>intro D
   .have v:r.right[i]?=some (r.right[i]'(by omega)):=Sn (by omega)
    have hm:r.right[i]'(by omega)∈r.right:=Sx _
    have f:gj (r.right.take (i+1))=gj (r.right.take i) ++ gj [r.right[i]'(by omega)]:=by
     rw[S6,v,gj,Uo,S0];rfl
    have hlen:(gj (r.right.take i)).length<=6:=by
     have h1:(gj (r.right.take i)).length<=(r.right.take i).length:=by simp only[gj,Sv];exact T6 _ _
     have G:(r.right.take i).length<=i:=List.length_take_le _ _
     omega
    generalize r.right[i]'(by omega)=s at v hm f
    obtain⟨⟨s1,s2⟩,I⟩:=l s hm
    simp(disch:=omega)only[↓wr,seval,wq,e,a,c,d,encI,Ss,v]
    apply ai.dec<;>intro w
    .simp(disch:=omega)only[↓wr,seval,wq,e,a,c,d]
     intro m hm
     try simp(disch:=omega)only[↓wr,seval,wq,e,a,c,d,bO]
     refine rO (hu.fresh hm) (by simp) (by simp[aE]) (by unfold aC;simp at hlen ⊢;omega) (by unfold aC;simp at hlen ⊢;omega) ?_
     intro E J y _
     simp(disch:=omega)only[↓wr,seval,wq,a,c,d]
     refine aH hk (by omega) ⟨⟨E,rfl,?_⟩,a,c,rfl⟩
     rw[f]
     simpa [gj,w] using y
    .simp(disch:=omega)only[↓wr,seval,wq,e,a,c,d]
     refine aH hk (by omega) ⟨⟨u,e,?_⟩,a,c,rfl⟩
     rw[f]
     simpa [gj,w] using hu
   .rw[SL (by omega)] at hu
    simp(disch:=omega)only[↓wr,seval,wq,e,a,c,d]
    intro z q
    exact lY (by rw[q];exact hu)
  .rename_i t
   intro z q
   rw[Sr (by simp[t])]
   exact .emp _
end Gv
