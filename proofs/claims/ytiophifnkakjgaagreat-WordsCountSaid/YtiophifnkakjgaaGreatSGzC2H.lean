/-
  Part 8 of the proof: what the machine does and what the functions answer.
  Conditions: those that each lemma names.
-/
import Derived.Shelf.SlIter.Sorted
import Derived.Shelf.SortM.Plain
import Derived.Shelf.SortM.SortNone
import Derived.Shelf.SlicesG.CompactS
import Derived.Test.YtiophifnkakjgaaGreatSGzC2G
set_option linter.unusedSimpArgs false
set_option linter.unusedVariables false
set_option maxRecDepth 100000
set_option maxHeartbeats 20000000
namespace Gv
open Go Go.Proofs
def cR {α:Type} (p:α->Bool):List α->Int->Int
 | [],_=>-1
 | x :: l,i=>if p x then i else cR p l (i+1)
theorem s9 {α:Type} (p:α->Bool):∀ (l:List α) (i:Int),0<=i->decide (0<=cR p l i)=l.any p
 | [],_,_=>by simp[cR]
 | x :: l,i,h=>by
  have a:=s9 p l (i+1) (by omega)
  rw[List.any_cons,cR]
  by_cases hp:p x=true
  .rw[OM hp,hp];simp[h]
  .rw[OK hp,a];simp[hp]
theorem E6 {f:FuncId} {xs cap:List V} (h:∀ v∈xs,Tree v) (b:∀ v∈cap,Tree v):Tree (.fn f xs cap):=by
 refine .fn _ _ _ (λi hi=>?_) (λi hi=>?_)
 .have a:xs.getD i .any=xs[i]:=by simp[OH,hi]
  rw[a];exact h _ (OW _)
 .have a:cap.getD i .any=cap[i]:=by simp[OH,hi]
  rw[a];exact b _ (OW _)
def fw:SC :=
 ae [ab [aV 9 .lss 8 7],bH 9 (.exit 0),.block 1 (ae [ab [aa 10 8,aa 5 10],ab [aa 11 1,aa 12 0,aa 13 5,aW 14 1 12 13,ak 15 14,((some 16),.call (.tmp 11) [(.tmp 15)])],bc 16 (ae [ab [aa 17 5,aa 4 17],.ret])]),ab [ax 18 .add 8 1,aa 8 18]]
def fS:SF:=⟨ae [ab [aN 4 0],ae [ab [aa 6 0,aR 7 6,aN 8 0],bJ 0 fw],ab [aN 4 (-1)],.ret],
 [.tmp 4],19⟩
theorem jV:aE Tryz.prog 160 []=some fS:=by kernel_rfl
def fo:SF:=⟨ae [ab [bb 4 false],ab [aa 5 0,aa 6 1,aJ 7 160 [5,6],ax 8 .geq 7 0,aa 4 8],.ret],
 [.tmp 4],9⟩
theorem iM:aE Tryz.prog 90 []=some fo:=by kernel_rfl
def en:SC :=
 ae [ab [aV 9 .lss 8 7],bH 9 (.exit 0),.block 1 (ae [ab [aa 10 8,aa 5 10],ab [aa 11 1,aa 12 0,aa 13 5,aW 14 1 12 13,ak 15 14,((some 16),.call (.tmp 11) [(.tmp 15)])],bc 16 (ae [ab [aa 17 5,aa 4 17],.ret])]),ab [ax 18 .add 8 1,aa 8 18]]
def eJ:SF:=⟨ae [ab [aN 4 0],ae [ab [aa 6 0,aR 7 6,aN 8 0],bJ 0 en],ab [aN 4 (-1)],.ret],
 [.tmp 4],19⟩
theorem gR:aE Tryz.prog 222 []=some eJ:=by kernel_rfl
def ec:SF:=⟨ae [ab [bb 4 false],ab [aa 5 0,aa 6 1,aJ 7 222 [5,6],ax 8 .geq 7 0,aa 4 8],.ret],
 [.tmp 4],9⟩
theorem gq:aE Tryz.prog 156 []=some ec:=by kernel_rfl
theorem AO (l:List Int) (g:aG l) (f:FuncId) (cap:List V) (p:Int->Bool) (h:∀ x∈l,ar Tryz.prog f (gi x :: cap) (gb (p x))) (d:bX Tryz.prog f=true) (H:View) :
  an Tryz.prog 160 [encI l,.fn f [] cap] H λr _=>r=gi (cR p l 0):=by
 refine an.of mixed jV ?_
 unfold aG at g
 simp(disch:=omega)only[↓wr,seval,wq,fS,encI]
 refine aP.up l.length (λi T _=>cR p (l.drop i) i=cR p l 0/\T 0=encI l/\T 1=.fn f [] cap/\T 7=gi l.length/\T 8=gi i) ⟨rfl,rfl,rfl,rfl,rfl⟩ ?_
 rintro i k T H hk ⟨hi,a,h1,b,c⟩
 simp(disch:=omega)only[↓wr,seval,wq,fw,a,h1,b,c,encI]
 apply ag.dec<;>intro j
 .have e:l[i]?=some (l[i]'(by omega)):=OI (by omega)
  have hm:l[i]'(by omega)∈l:=OW _
  rw[ef (show i < l.length by omega)] at hi
  generalize l[i]'(by omega)=x at e hm hi
  simp(disch:=omega)only[↓wr,seval,wq,a,h1,b,c,encI,ON,e]
  refine aj.pure (h x hm) ?_ d
  simp only[cR] at hi
  repeat' (first | ((first|apply ag.dec|apply ag.eq|apply ag.ne|apply ag.split)<;>intro)|(simp(disch:=omega)only[↓wr,seval,wq,a,h1,b,c]))
  .rename_i hp
   rw[<-hi,OM hp]
  .rename_i hp
   refine ay hk (by omega) ⟨?_,a,h1,b,rfl⟩
   rw[OK (by simp[hp])] at hi
   push_cast;exact hi
 .rw[Po (by omega)] at hi
  simp(disch:=omega)only[↓wr,seval,wq,a,h1,b,c]
  rw[<-hi];rfl
theorem ui {l:List Int} {f:FuncId} {cap:List V} (a:∀ v∈cap,Tree v):∀ v∈[encI l,.fn f [] cap],Tree v:=by
 intro v b;simp at b
 rcases b with rfl | rfl
 .exact dU l
 .exact E6 (by simp) a
theorem gH (l:List Int) (c:aG l) (f:FuncId) (cap:List V) (a:∀ v∈cap,Tree v) (p:Int->Bool) (d:∀ x∈l,ar Tryz.prog f (gi x :: cap) (gb (p x))) (b:bX Tryz.prog f=true) :
  ar Tryz.prog 90 [encI l,.fn f [] cap] (gb (l.any p)):=by
 refine ar.val (ui a) λH=>?_
 refine an.of mixed iM ?_
 simp(disch:=omega)only[↓wr,seval,wq,fo]
 refine aj.pure (ar.val (ui a) (AO l c f cap p d b)) ?_
 simp(disch:=omega)only[↓wr,seval,wq]
 rw[<-s9 p l 0 (by omega)]
theorem AT (l:List ByteArray) (g:aG l) (f:FuncId) (cap:List V) (p:ByteArray->Bool) (h:∀ x∈l,ar Tryz.prog f (gs x :: cap) (gb (p x))) (d:bX Tryz.prog f=true) (H:View) :
  an Tryz.prog 222 [encS l,.fn f [] cap] H λr _=>r=gi (cR p l 0):=by
 refine an.of mixed gR ?_
 unfold aG at g
 simp(disch:=omega)only[↓wr,seval,wq,eJ,encS]
 refine aP.up l.length (λi T _=>cR p (l.drop i) i=cR p l 0/\T 0=encS l/\T 1=.fn f [] cap/\T 7=gi l.length/\T 8=gi i) ⟨rfl,rfl,rfl,rfl,rfl⟩ ?_
 rintro i k T H hk ⟨hi,a,h1,b,c⟩
 simp(disch:=omega)only[↓wr,seval,wq,en,a,h1,b,c,encS]
 apply ag.dec<;>intro j
 .have e:l[i]?=some (l[i]'(by omega)):=OI (by omega)
  have hm:l[i]'(by omega)∈l:=OW _
  rw[ef (show i < l.length by omega)] at hi
  generalize l[i]'(by omega)=x at e hm hi
  simp(disch:=omega)only[↓wr,seval,wq,a,h1,b,c,encS,ON,e]
  refine aj.pure (h x hm) ?_ d
  simp only[cR] at hi
  repeat' (first | ((first|apply ag.dec|apply ag.eq|apply ag.ne|apply ag.split)<;>intro)|(simp(disch:=omega)only[↓wr,seval,wq,a,h1,b,c]))
  .rename_i hp
   rw[<-hi,OM hp]
  .rename_i hp
   refine ay hk (by omega) ⟨?_,a,h1,b,rfl⟩
   rw[OK (by simp[hp])] at hi
   push_cast;exact hi
 .rw[Po (by omega)] at hi
  simp(disch:=omega)only[↓wr,seval,wq,a,h1,b,c]
  rw[<-hi];rfl
theorem tP {l:List ByteArray} {f:FuncId} {cap:List V} (a:∀ v∈cap,Tree v):∀ v∈[encS l,.fn f [] cap],Tree v:=by
 intro v b;simp at b
 rcases b with rfl | rfl
 .exact Am l
 .exact E6 (by simp) a
theorem wj (l:List ByteArray) (c:aG l) (f:FuncId) (cap:List V) (a:∀ v∈cap,Tree v) (p:ByteArray->Bool) (d:∀ x∈l,ar Tryz.prog f (gs x :: cap) (gb (p x))) (b:bX Tryz.prog f=true) :
  ar Tryz.prog 156 [encS l,.fn f [] cap] (gb (l.any p)):=by
 refine ar.val (tP a) λH=>?_
 refine an.of mixed gq ?_
 simp(disch:=omega)only[↓wr,seval,wq,ec]
 refine aj.pure (ar.val (tP a) (AT l c f cap p d b)) ?_
 simp(disch:=omega)only[↓wr,seval,wq]
 rw[<-s9 p l 0 (by omega)]
theorem tJ {l:List Value} : ∀ v∈l.map V.val,Tree v:=by
 intro v a;obtain⟨x,_,rfl⟩:=O9.1 a;exact .val _
def uW:SF:=⟨ae [ab [bb 6 false],.region false [⟨none,[aa 7 0,aa 8 1,aV 9 .geq 7 8,aa 10 9]⟩,⟨(some (10,true)),[aa 11 0,aa 12 2,aV 13 .leq 11 12]⟩,⟨none,[bV 14 10 13,aa 6 14]⟩],.ret],
 [.tmp 6],15⟩
theorem xS:aE Tryz.prog 154 []=some uW:=by kernel_rfl
def AJ:SF:=⟨ae [ab [aN 2 0],ab [aa 3 0,((some 4),.op (.arith .sub (.val (.val (.int .i64 (-1)))) (.tmp 3))),aa 2 4],.ret],
 [.tmp 2],5⟩
theorem C0:aE Tryz.prog 194 []=some AJ:=by kernel_rfl
def Ap:SF:=⟨ae [ab [cE 2 0,bb 4 false],ae [ab [aa 5 1,ax 6 .lss 5 0],bc 6 (ae [.region true [⟨none,[aa 7 1,aJ 8 194 [7],av 9 1 2,ak 10 9,aR 11 10,aV 12 .lss 8 11,aa 4 12]⟩],.ret])],ab [aa 13 1,av 14 0 2,ak 15 14,aR 16 15,aV 17 .lss 13 16,aa 4 17],.ret],
 [.tmp 4],18⟩
theorem Cl:aE Tryz.prog 130 [2]=some Ap:=by kernel_rfl
def tZ:SF:=⟨ae [ab [bb 4 false],.region false [⟨none,[ba 5 4 1,aa 6 0,aJ 7 130 [5,6],bS 8 7,aa 9 8]⟩,⟨(some (9,false)),[aa 10 0,ax 11 .geq 10 0,aa 12 11]⟩,⟨(some (12,true)),[av 13 2 2,ak 14 13,ax 15 .eql 14 (-1)]⟩,⟨(some (9,false)),[bV 16 12 15]⟩,⟨none,[bq 17 9 16,aa 4 17]⟩],.ret],
 [.tmp 4],18⟩
theorem xO:aE Tryz.prog 225 []=some tZ:=by kernel_rfl
def yl:SF:=⟨ae [ab [cE 2 0,cE 3 1,bb 4 false],ae [.region false [⟨none,[av 5 1 3,ak 6 5,aR 7 6,ax 8 .gtr 7 6,aa 9 8]⟩,⟨(some (9,false)),[av 10 2 3,ak 11 10,av 12 0 2,ak 13 12,aR 14 13,ax 15 .sub 14 1,jG 16 154 [(.tmp 11),(.val (.val (.int .i64 (-1)))),(.tmp 15)],bS 17 16]⟩,⟨none,[bq 18 9 17]⟩],bc 18 (ae [ab [bb 4 false],.ret])],ab [av 19 1 3,ak 20 19,((some 21),.op (.sH 225 [] [(.tmp 2),(.tmp 3)])),aJ 22 90 [20,21],bS 23 22,aa 4 23],.ret],
 [.tmp 4],24⟩
theorem AP:aE Tryz.prog 159 [2,3]=some yl:=by kernel_rfl
theorem oP (a b c:Int):ar Tryz.prog 154 [gi a,gi b,gi c] (gb (decide (b<=a) && decide (a<=c))):=by
 refine ar.val (tJ (l:=[.int .i64 a,.int .i64 b,.int .i64 c])) λH=>?_
 refine an.of mixed xS ?_
 repeat' (first | ((first|apply ag.dec|apply ag.eq|apply ag.ne|apply ag.split)<;>intro)|(simp(disch:=omega)only[↓wr,seval,wq,uW]))
 all_goals simp[*]
theorem L1 (s:Int) (a:bm s):ar Tryz.prog 194 [gi s] (gi (-1 - s)):=by
 refine ar.val (tJ (l:=[.int .i64 s])) λH=>?_
 obtain⟨h1,b⟩:=a
 refine an.of mixed C0 ?_
 repeat' (first | ((first|apply ag.dec|apply ag.eq|apply ag.ne|apply ag.split)<;>intro)|(simp(disch:=omega)only[↓wr,seval,wq,AJ]))
theorem LL (g:ai) (s:Int) (a:bm s):ar Tryz.prog 130 [.agg (ah g),gi s] (gb (eO g s)):=by
 refine ar.val (CO g s) λH=>?_
 refine an.of mixed Cl ?_
 repeat' (first | ((first|apply ag.dec|apply ag.eq|apply ag.ne|apply ag.split)<;>intro)|(refine aj.pure (L1 s a) ?_)|(simp(disch:=omega)only[↓wr,seval,wq,Ap,ah,encS]))
 .rename_i h;simp[eO,show ¬ (0:Int)<=s by omega]
 .rename_i h;simp[eO,show (0:Int)<=s by omega]
theorem gu {cs:List V} {j:Nat} (h:∀ v∈cs,Tree v):Tree (.aC cs j):=by
 refine .aC _ _ λi hi=>?_
 have a:cs.getD i .any=cs[i]:=by simp[OH,hi]
 rw[a];exact h _ (OW _)
theorem GX (g:ai) (r:aF) (s:Int) (b:bm s):ar Tryz.prog 225 [gi s,.aC (ah g) 0,.aC (aS r) 0] (gb (!jZ g r.prec s)):=by
 refine ar.val ?_ λH=>?_
 .intro v a;simp at a
  rcases a with rfl | rfl | rfl
  .exact .val _
  .exact gu (cy g)
  .exact gu (ic r)
 refine an.of mixed xO ?_
 simp(disch:=omega)only[↓wr,seval,wq,tZ,ah]
 refine aj.pure (LL g s b) ?_
 repeat' (first | ((first|apply ag.dec|apply ag.eq|apply ag.ne|apply ag.split)<;>intro)|(simp(disch:=omega)only[↓wr,seval,wq,aS]))
 all_goals simp[jZ, *]
theorem JX (g:ai) (r:aF) (e:g.Ok) (hr:aG r.right/\∀ x∈r.right,bm x):ar Tryz.prog 159 [.agg (ah g),.agg (aS r)] (gb (fq g r)):=by
 refine ar.val (Bg g r) λH=>?_
 have f:=e.ao
 unfold aG at f
 refine an.of mixed AP ?_
 repeat' (first | ((first|apply ag.dec|apply ag.eq|apply ag.ne|apply ag.split)<;>intro)|(refine aj.pure (oP _ _ _) ?_)|(simp(disch:=omega)only[↓wr,seval,wq,yl,ah,aS,encI,encS]))
 .rename_i h;simp[fq,show ¬ r.right.length<=6 by omega]
 .rename_i h1 b
  have c:r.right.length<=6:=by omega
  have a : -1<=r.prec/\r.prec < g.ao.length:=by simp at b;omega
  refine aj.pure (gH r.right hr.1 225 [.aC (ah g) 0,.aC (aS r) 0] ?_ (λs=>!jZ g r.prec s) (λx i=>GX g r x (hr.2 x i)) (by kernel_rfl)) ?_
  .intro v d;simp at d
   rcases d with rfl | rfl
   .exact gu (cy g)
   .exact gu (ic r)
  simp(disch:=omega)only[↓wr,seval,wq]
  simp[fq,c,a.1,a.2]
  rw[PI]
  simp
 .rename_i h1 b
  have c:¬ (-1<=r.prec/\r.prec < g.ao.length):=by simp at b;omega
  have:(decide (-1<=r.prec) && decide (r.prec < (g.ao.length:Int)))=false:=by
   rw[<-Bool.decide_and];simpa using c
  simp only[fq,Bool.and_assoc]
  rw[<-Bool.and_assoc (decide (-1<=r.prec)),this];simp
theorem JA (l:List Int) (f:l.getD 0 0=39):((j4 l).2 == 0 && (j4 l).1 == (l.length:Int))=j3 l:=by
 match l,f with
 | [],h=>simp at h
 | [a],_=>rfl
 | [a,b],_ =>
  simp only[j4,hE,j3,OY,Pc,P8,PY]
  repeat' split
  all_goals simp_all
 | [a,b,c],f =>
  have g:a=39:=by simpa using f
  subst g
  simp only[j4,hE,j3,tO,y5,OY,Pc,P8,PY]
  repeat' split
  all_goals simp_all
  all_goals grind
 | [a,b,c,d],f =>
  have g:a=39:=by simpa using f
  subst g
  simp only[j4,hE,j3,tO,y5,OY,Pc,P8,PY]
  repeat' split
  all_goals simp_all
  all_goals grind
 | a :: b :: c :: d :: e :: r,f =>
  simp only[j4,hE,j3,tO,y5,OY,P8,PY]
  repeat' split
  all_goals simp_all
  all_goals (try omega)
  all_goals grind
theorem F1 {c:Int} {l:List Int} (h:¬ c=39):j3 (c :: l)=false:=by
 match l with
 | []=>rfl
 | [_]=>rfl
 | [_,_]=>simp[j3,h]
 | [_,_,_]=>simp[j3,h]
 | _ :: _ :: _ :: _ :: _=>rfl
theorem Iq (s:ByteArray):ar Tryz.prog 267 [gs s] (gb (j3 (dL s))):=by
 refine ar.val (mb s) λH=>?_
 refine an.of mixed v8 ?_
 have f:=λd (k:d∈dL s)=>Az (s:=s) (c:=d) k
 have j:ar Tryz.prog 287 [.aX (eC s)] (.aU [gi (j4 (dL s)).1,gi (j4 (dL s)).2]):=by
  rw[Hb]
  refine ar.of ?_ ((Gp (dL s) f _).mono λr H' h m _=>by rw[h];exact .tree _ (.aU _ λi hi=>by
   match i,hi with
   | 0,_=>exact .val _
   | 1,_=>exact .val _))
  intro v a;simp at a;subst a
  exact iB _ _ λx _ v a=>by simp at a;subst a;exact .val _
 cases e:dL s with
 | nil =>
  repeat' (first | ((first|apply ag.dec|apply ag.eq|apply ag.ne|apply ag.split)<;>intro)|(simp(disch:=omega)only[↓wr,seval,wq,nI,c6,uP,e]))
  rfl
 | cons c l =>
  have b:=JA (dL s)
  rw[e] at j b
  repeat' (first | ((first|apply ag.dec|apply ag.eq|apply ag.ne|apply ag.split)<;>intro)|(simp(disch:=omega)only[↓wr,seval,wq,nI,c6,uP,e,O4]))
  .rename_i h
   rw[F1 h]
  .rename_i h
   refine aj.pure j ?_
   have b:=b (by simpa using h)
   repeat' (first | ((first|apply ag.dec|apply ag.eq|apply ag.ne|apply ag.split)<;>intro)|(simp(disch:=omega)only[↓wr,seval,wq,c6,e]))
   .rename_i g
    rw[<-b];simp[g]
   .rename_i g
    rw[<-b];simp[g]
theorem HV (s:ByteArray):ar Tryz.prog 217 [gs s] (gb (nC (dL s))):=by
 refine ar.val (mb s) λH=>?_
 refine an.of mixed yU ?_
 repeat' (first | ((first|apply ag.dec|apply ag.eq|apply ag.ne|apply ag.split)<;>intro)|(refine aj.pure (B8 s) ?_)|(refine aj.pure (Iq s) ?_)|(simp(disch:=omega)only[↓wr,seval,wq,vW]))
 all_goals simp[nC, *]
theorem Gc (s:ByteArray):ar Tryz.prog 157 [gs s] (gb (!ew (dL s))):=by
 refine ar.val (mb s) λH=>?_
 refine an.of mixed wV ?_
 repeat' (first | ((first|apply ag.dec|apply ag.eq|apply ag.ne|apply ag.split)<;>intro)|(refine aj.pure (B8 s) ?_)|(simp(disch:=omega)only[↓wr,seval,wq,tC]))
def rf:SC :=
 ae [ab [aV 12 .lss 11 10],bH 12 (.exit 0),.block 1 (ae [.region false [⟨none,[aW 13 3 9 11,ba 14 3 13,((some 6),.op (.alloc [(.val (.string ⟨#[]⟩)),(.val (.int .i64 0)),(.val (.int .i64 0))])),cb 3 6 14]⟩],ae [ab [av 15 1 6,ak 16 15,ax 17 .eql 16 0],bc 17 (.exit 1)],ae [ab [aa 18 3,av 19 1 6,ak 20 19,((some 21),.op (.old (.lookup 265 (.tmp 18) (.tmp 20) false) 3)),aa 7 21],.region false [⟨none,[aa 22 7,ax 23 .neq 22 0,aa 24 23]⟩,⟨(some (24,true)),[aa 25 7,av 26 2 6,ak 27 26,aV 28 .neq 25 27]⟩,⟨none,[bV 29 24 28]⟩],bc 29 (ae [ab [bb 2 false],.ret])],ab [aa 30 3,av 31 1 6,ak 32 31,av 33 2 6,ak 34 33,(none,.op (.old (.mapUpdate 265 (.tmp 30) (.tmp 32) (.tmp 34)) 0))],ab [aa 35 4,av 36 1 6,ak 37 36,((some 38),.op (.mm true (.tmp 35) (.tmp 37))),aa 4 38]]),ab [ax 39 .add 11 1,aa 11 39]]
def uK:SF:=⟨ae [ab [bb 2 false],ab [((some 8),.op (.sA)),aa 3 8],ab [aN 4 0],ae [ab [aa 9 0,aR 10 9,aN 11 0],bJ 0 rf],ab [aa 40 3,((some 41),.op (.old (.call { callee:=.builtin .len,args:=#[(.tmp 40)],argTypes:=#[265] }) 3)),aa 42 4,aV 43 .eql 41 42,aa 2 43],.ret],
 [.tmp 2],44⟩
theorem x8:aE Tryz.prog 218 []=some uK:=by kernel_rfl
def tf:SC :=
 ae [ab [aV 8 .lss 7 6],bH 8 (.exit 0),.block 1 (ae [.region false [⟨none,[aW 9 3 5 7,ba 10 3 9,((some 4),.op (.alloc [(.val (.string ⟨#[]⟩)),(.val (.int .i64 0)),(.val (.int .i64 0))])),cb 3 4 10]⟩],.region false [⟨none,[av 11 0 4,ak 12 11,aJ 13 217 [12],bS 14 13,aa 15 14]⟩,⟨(some (15,false)),[av 16 1 4,ak 17 16,jG 18 154 [(.tmp 17),(.val (.val (.int .i64 0))),(.val (.val (.int .i64 24)))],bS 19 18]⟩,⟨none,[bq 20 15 19,aa 21 20]⟩,⟨(some (21,false)),[av 22 2 4,ak 23 22,jG 24 154 [(.tmp 23),(.val (.val (.int .i64 0))),(.val (.val (.int .i64 3)))],bS 25 24]⟩,⟨none,[bq 26 21 25,aa 27 26]⟩,⟨(some (27,false)),[av 28 1 4,ak 29 28,ax 30 .eql 29 0,av 31 2 4,ak 32 31,ax 33 .eql 32 0,((some 34),.op (.beq false (.tmp 30) (.tmp 33)))]⟩,⟨none,[bq 35 27 34]⟩],bc 35 (ae [ab [bb 2 false],.ret])]),ab [ax 36 .add 7 1,aa 7 36]]
def vI:SF:=⟨ae [ab [bb 2 false],ae [ab [aa 5 0,aR 6 5,aN 7 0],bJ 0 tf],.region false [⟨none,[aa 37 0,aR 38 37,ax 39 .leq 38 24,aa 40 39]⟩,⟨(some (40,true)),[aa 41 0,aJ 42 218 [41]]⟩,⟨none,[bV 43 40 42,aa 2 43]⟩],.ret],
 [.tmp 2],44⟩
theorem yP:aE Tryz.prog 153 []=some vI:=by kernel_rfl
def tD:SC :=
 ae [ab [aV 16 .lss 15 14],bH 16 (.exit 0),.block 1 (ae [.region false [⟨none,[aW 17 3 13 15,ba 18 3 17,((some 5),.op (.alloc [(.val (.string ⟨#[]⟩)),(.val (.int .i64 0)),(.val (.int .i64 0))])),cb 3 5 18]⟩],.region false [⟨none,[aa 19 3,av 20 0 5,ak 21 20,((some 22),.op (.bM 1 1 [(.val (.string ⟨#[]⟩))] [(0,(.tmp 21))])),pk 23 1 16 19 22,aa 3 23]⟩]]),ab [ax 24 .add 15 1,aa 15 24]]
def tB:SC :=
 ae [ab [aV 65 .lss 64 63],bH 65 (.exit 2),.block 3 (ae [ab [aW 66 3 62 64,ba 67 3 66,((some 8),.op (.alloc [(.val (.int .i64 0)),(.emp 1),(.val (.int .i64 0))])),cb 3 8 67],ae [.region false [⟨none,[av 68 0 8,ak 69 68,aa 70 6,jG 71 154 [(.tmp 69),(.val (.val (.int .i64 0))),(.tmp 70)],bS 72 71,aa 73 72]⟩,⟨(some (73,false)),[ba 74 4 1,ba 75 3 8,aJ 76 159 [74,75],bS 77 76]⟩,⟨none,[bq 78 73 77]⟩],bc 78 (ae [ab [bb 2 false],.ret])],ab [aa 79 6,av 80 0 8,ak 81 80,ax 82 .add 81 1,((some 83),.op (.mm true (.tmp 79) (.tmp 82))),aa 6 83]]),ab [ax 84 .add 64 1,aa 64 84]]
def vT:SF:=⟨ae [ab [cE 1 0,bb 2 false],ab [av 9 1 1,ak 10 9,aJ 11 152 [10],aa 3 11],ae [ab [av 12 0 1,ak 13 12,aR 14 13,aN 15 0],bJ 0 tD],ae [.region false [⟨none,[av 25 0 1,ak 26 25,aJ 27 153 [26],bS 28 27,aa 29 28]⟩,⟨(some (29,false)),[av 30 1 1,ak 31 30,aR 32 31,jG 33 154 [(.tmp 32),(.val (.val (.int .i64 1))),(.val (.val (.int .i64 16)))],bS 34 33]⟩,⟨none,[bq 35 29 34,aa 36 35]⟩,⟨(some (36,false)),[av 37 2 1,ak 38 37,aR 39 38,jG 40 154 [(.tmp 39),(.val (.val (.int .i64 1))),(.val (.val (.int .i64 40)))],bS 41 40]⟩,⟨none,[bq 42 36 41,aa 43 42]⟩,⟨(some (43,false)),[aa 44 3,aJ 45 155 [44],bS 46 45]⟩,⟨none,[bq 47 43 46,aa 48 47]⟩,⟨(some (48,false)),[av 49 3 1,ak 50 49,av 51 1 1,ak 52 51,aR 53 52,ax 54 .sub 53 1,jG 55 154 [(.tmp 50),(.val (.val (.int .i64 0))),(.tmp 54)],bS 56 55]⟩,⟨none,[bq 57 48 56]⟩],bc 57 (ae [ab [bb 2 false],.ret])],ae [ab [av 58 1 1,ak 59 58,jG 60 156 [(.tmp 59),(.val (.fn 157 [] []))]],bc 60 (ae [ab [bb 2 false],.ret])],ab [aN 6 0],ae [ab [av 61 2 1,ak 62 61,aR 63 62,aN 64 0],bJ 2 tB],ab [aa 85 6,av 86 1 1,ak 87 86,aR 88 87,aV 89 .eql 85 88,aa 2 89],.ret],
 [.tmp 2],90⟩
theorem zh:aE Tryz.prog 89 [1]=some vT:=by kernel_rfl
def dH (l:List Term):V:=.aX (l.map c7)
theorem xg (l:List Term):∀ v∈[dH l],Tree v:=by intro v a;simp at a;subst a;exact iB _ _ λx _=>As x
def jX:List Term->List (Int × Int)->Int->Option (List (Int × Int) × Int)
 | [],a,top=>some (a,top)
 | t :: r,a,top=>if t.level=0 then jX r a top else
  if (dA a t.level).getD 0≠0/\(dA a t.level).getD 0≠t.assoc then none else jX r (jc t.level t.assoc a) (if t.level > top then t.level else top)
def oY (l:List Term):Bool:=match jX l [] 0 with
 | some (a,top)=>(a.length:Int) == top
 | none=>false
theorem FE (l:List Term) (F:aG l):ar Tryz.prog 218 [dH l] (gb (oY l)):=by
 refine ar.val (xg l) λH=>?_
 refine an.of mixed x8 ?_
 unfold aG at F
 simp(disch:=omega)only[↓wr,seval,wq,uK,dH]
 intro q s
 try simp(disch:=omega)only[↓wr,seval,wq]
 refine aP.up l.length (λi T H=>(∃ a m c top,H q=.map (eA (Value.int .i64) m) c/\l9 gi a m/\T 4=gi top/\jX (l.drop i) a top=jX l [] 0)/\T 0=dH l/\T 3=.mp q/\T 9=dH l/\T 10=gi l.length/\T 11=gi i) ?_ ?_
 .refine⟨⟨[],[],0,0,?_,trivial,rfl,rfl⟩,rfl,rfl,rfl,rfl,rfl⟩
  simp[View.set,eA]
 rintro i k T H hk ⟨⟨a,m,c,top,s,hm,o,hi⟩,j,f,n,d,g⟩
 simp(disch:=omega)only[↓wr,seval,wq,rf,j,f,o,n,d,g,dH]
 apply ag.dec<;>intro G
 .have C:l[i]?=some (l[i]'(by omega)):=OI (by omega)
  rw[ef (show i < l.length by omega)] at hi
  generalize l[i]'(by omega)=t at C hi
  simp only[jX] at hi
  simp(disch:=omega)only[↓wr,seval,wq,j,f,o,n,d,g,dH,c7,ON,C]
  intro b D
  have h:b≠q:=by rintro rfl;rw[s] at D;simp at D
  try simp(disch:=omega)only[↓wr,seval,wq]
  apply ag.eq<;>intro x
  .rw[OM x] at hi
   simp(disch:=omega)only[↓wr,seval,wq,j,f,o,n,d,g]
   refine ay hk (by omega) ⟨⟨a,m,c,top,?_,hm,o,hi⟩,j,f,n,d,rfl⟩
   simp[View.set,h.symm,s]
  .rw[OK x] at hi
   simp(disch:=omega)only[↓wr,seval,wq,j,f,o,n,d,g]
   refine Ni (kt:=3) (et:=3) (z:=gi 0) (by kernel_rfl) (by kernel_rfl) (CT .i64 Tryz.underlying3) (id:=q) (c:=c) (m:=m) (k:=t.level) (by simp(disch:=omega)only[↓wr,seval,wq,f]) (by simp(disch:=omega)only[↓wr,seval,wq,f]) (by simp[View.set,h.symm,s]) ?_
   have y:(getM m t.level).getD (gi 0)=gi ((dA a t.level).getD 0):=by
    rw[hm.get];cases dA a t.level <;> rfl
   have p:∀ (A:View) (u:Nat) (r:Env),(¬ ((dA a t.level).getD 0≠0/\(dA a t.level).getD 0≠t.assoc)) ->
     A q=.map (eA (Value.int .i64) (bA t.level (gi t.assoc) c m)) u->r 0=dH l->r 3=.mp q->r 4=gi (if t.level > top then t.level else top)->r 9=dH l->r 10=gi l.length->r 11=gi ((i:Int)+1) ->
     ∃ E,E < k/\Ei l.length E (λi T H=>(∃ a m c top,H q=.map (eA (Value.int .i64) m) c/\l9 gi a m/\T 4=gi top/\jX (l.drop i) a top=jX l [] 0)/\T 0=dH l/\T 3=.mp q/\T 9=dH l/\T 10=gi l.length/\T 11=gi i) r A:=by
    intro A u r I g1 g2 g3 g4 g5 g6 g7
    rw[OK I] at hi
    exact ay hk (by omega) ⟨⟨_,_,u,_,g1,hm.put t.level t.assoc c,g4,hi⟩,g2,g3,g5,g6,by rw[g7];rfl⟩
   repeat' (first | ((first|apply ag.dec|apply ag.eq|apply ag.ne|apply ag.split)<;>intro)|(simp(disch:=omega)only[↓wr,seval,wq,j,f,o,n,d,g,y]))
   .rename_i w B
    rw[OM ⟨w,B⟩] at hi
    simp only[oY,<-hi]
   .rename_i w B
    refine Hk (kt:=3) (et:=3) (by kernel_rfl) (CT .i64 Tryz.underlying3) (id:=q) (c:=c) (m:=m) (k:=t.level) (v:=gi t.assoc) (by simp(disch:=omega)only[↓wr,seval,wq,f]) (by simp(disch:=omega)only[↓wr,seval,wq,f]) (by simp(disch:=omega)only[↓wr,seval,wq,f]) (by simp[View.set,h.symm,s]) ?_
    intro u
    simp(disch:=omega)only[↓wr,seval,wq,j,f,o,n,d,g,h]
    exact p _ u _ (λe=>e.2 B) (by simp[View.set]) j f rfl n d rfl
   .rename_i w
    refine Hk (kt:=3) (et:=3) (by kernel_rfl) (CT .i64 Tryz.underlying3) (id:=q) (c:=c) (m:=m) (k:=t.level) (v:=gi t.assoc) (by simp(disch:=omega)only[↓wr,seval,wq,f]) (by simp(disch:=omega)only[↓wr,seval,wq,f]) (by simp(disch:=omega)only[↓wr,seval,wq,f]) (by simp[View.set,h.symm,s]) ?_
    intro u
    simp(disch:=omega)only[↓wr,seval,wq,j,f,o,n,d,g,h]
    exact p _ u _ (λe=>e.1 w) (by simp[View.set]) j f rfl n d rfl
 .rw[Po (by omega)] at hi
  simp only[jX] at hi
  simp(disch:=omega)only[↓wr,seval,wq,j,f,o,n,d,g]
  refine My (kt:=3) (et:=3) (by kernel_rfl) (id:=q) (c:=c) (m:=m) (by simp(disch:=omega)only[↓wr,seval,wq,f]) s ?_
  simp(disch:=omega)only[↓wr,seval,wq,j,f,o,n,d,g,hm.len]
  simp only[oY,<-hi]
def iD (t:Term):Bool:=nC (dL t.name) && decide (0<=t.level) && decide (t.level<=24) && decide (0<=t.assoc) && decide (t.assoc<=3) && ((t.level == 0) == (t.assoc == 0))
def pB (l:List Term):Bool:=l.all iD && decide (l.length<=24) && oY l
theorem Hj (l:List Term) (p:aG l):ar Tryz.prog 153 [dH l] (gb (pB l)):=by
 refine ar.val (xg l) λH=>?_
 refine an.of mixed yP ?_
 have j:=p
 unfold aG at p
 simp(disch:=omega)only[↓wr,seval,wq,vI,dH]
 refine aP.up l.length (λi T H=>(l.drop i).all iD=l.all iD/\T 0=dH l/\T 5=dH l/\T 6=gi l.length/\T 7=gi i) ?_ ?_
 .exact⟨rfl,rfl,rfl,rfl,rfl⟩
 rintro i k T H hk ⟨hi,c,d,f,g⟩
 simp(disch:=omega)only[↓wr,seval,wq,tf,c,d,f,g,dH]
 apply ag.dec<;>intro r
 .have q:l[i]?=some (l[i]'(by omega)):=OI (by omega)
  rw[ef (show i < l.length by omega)] at hi
  generalize l[i]'(by omega)=t at q hi
  rw[PH] at hi
  have a:iD t=false->gb false=gb (pB l):=λe=>by rw[e,P2] at hi;simp[pB,<-hi]
  simp(disch:=omega)only[↓wr,seval,wq,c,d,f,g,dH,c7,ON,q]
  intro b v
  repeat' (first | ((first|apply ag.dec|apply ag.eq|apply ag.ne|apply ag.split)<;>intro)|(refine aj.pure (HV t.name) ?_)|(refine aj.pure (oP _ _ _) ?_)|(simp(disch:=omega)only[↓wr,seval,wq,c,d,f,g,dH]))
  all_goals first
   | (refine a ?_;simp[iD, *];done)
   | (refine a ?_;simp_all [iD];done)
   | skip
  rename_i s m n u
  refine ay hk (by omega) ⟨?_,c,d,f,rfl⟩
  have:iD t=true:=by
   simp only[OO,OT] at m n
   have o:((t.level == 0) == (t.assoc == 0))=true:=by simpa [bne] using u
   simp[iD,s,m.1,m.2,n.1,n.2,o]
  rw[this,Pz] at hi
  exact hi
 .rw[Po (by omega),List.all_nil] at hi
  simp(disch:=omega)only[↓wr,seval,wq,c,d,f,g,dH]
  repeat' (first | ((first|apply ag.dec|apply ag.eq|apply ag.ne|apply ag.split)<;>intro)|(refine aj.pure (FE l j) ?_)|(simp(disch:=omega)only[↓wr,seval,wq,c,d,f,g,dH]))
  .rename_i h
   simp[pB,<-hi,show l.length<=24 by omega]
  .rename_i h
   simp[pB,<-hi,show ¬ l.length<=24 by omega]
open Go Go.Proofs Go.Shelf Go.RowKit Go.Sort
attribute [local go_sem] Oper.semAt_some
def gL:Ren where
 f:=fun
  | 6=>219
  | 8=>268
  | 9=>269
  | 11=>288
  | 13=>246
  | 12=>289
  | 23=>282
  | 24=>283
  | 14=>298
  | 15=>299
  | 16=>300
  | 17=>301
  | 18=>302
  | 19=>303
  | 20=>304
  | 21=>305
  | 22=>306
  | 25=>308
  | 26=>292
  | 27=>293
  | 28=>309
  | 29=>310
  | 30=>311
  | 31=>312
  | n=>n
 t:=fun
  | 26=>9
  | 28=>319
  | 24=>23
  | 0=>0
  | 3=>3
  | 37=>276
  | 48=>50
  | 50=>49
  | 4=>4
  | 40=>356
  | 39=>355
  | 45=>66
  | 5=>5
  | 9=>9
  | 51=>369
  | 55=>373
  | 57=>381
  | 58=>382
  | 33=>262
  | n=>n
 g:=λn=>n
theorem LQ:Go.Proofs.SlLaysZ.n6 Tryz.prog gL where
 mixed:=by kernel_rfl
 f6:=⟨Tryz.f219.name,by kernel_rfl,by kernel_rfl⟩
 f8:=⟨Tryz.f268.name,by kernel_rfl,by kernel_rfl⟩
 f11:=⟨Tryz.f288.name,by kernel_rfl,by kernel_rfl⟩
 t0:=Tryz.underlying0
 a0:=Tryz.isAgg0
 z0:=Tryz.sizeOf0
 v0:=Tryz.zeroValue0
 t24:=Tryz.underlying23
 a24:=Tryz.isAgg23
 z24:=Tryz.sizeOf23
 v24:=Tryz.zeroValue23
 t26:=Tryz.underlying9
 a26:=Tryz.isAgg9
 z26:=Tryz.sizeOf9
 v26:=Tryz.zeroValue9
 t28:=Tryz.underlying319
 a28:=Tryz.isAgg319
 z28:=Tryz.sizeOf319
 v28:=Tryz.zeroValue319
 i26:=by kernel_rfl
def HU:Ren where
 f:=fun
  | 6=>269
  | 8=>246
  | 9=>289
  | 19=>282
  | 20=>283
  | 21=>298
  | 22=>299
  | 23=>300
  | 24=>301
  | 25=>302
  | 26=>303
  | 27=>304
  | 28=>305
  | 29=>306
  | 36=>308
  | 31=>292
  | 32=>293
  | 37=>309
  | 38=>310
  | 39=>311
  | 41=>312
  | n=>n
 t:=fun
  | 27=>23
  | 29=>9
  | 3=>3
  | 32=>276
  | 26=>23
  | 0=>0
  | 44=>50
  | 46=>49
  | 4=>4
  | 36=>356
  | 35=>355
  | 41=>66
  | 5=>5
  | 9=>9
  | 53=>369
  | 57=>373
  | 63=>381
  | 64=>382
  | n=>n
 g:=λn=>n
theorem K3:Go.Proofs.SlLaysM.n6 Tryz.prog HU where
 mixed:=by kernel_rfl
 f6:=⟨Tryz.f269.name,by kernel_rfl,by kernel_rfl⟩
 f8:=by kernel_rfl
 f9:=⟨Tryz.f289.name,by kernel_rfl,by kernel_rfl⟩
 f19:=by kernel_rfl
 f20:=by kernel_rfl
 f21:=⟨Tryz.f298.name,by kernel_rfl,by kernel_rfl⟩
 f22:=⟨Tryz.f299.name,by kernel_rfl,by kernel_rfl⟩
 f23:=⟨Tryz.f300.name,by kernel_rfl,by kernel_rfl⟩
 f24:=⟨Tryz.f301.name,by kernel_rfl,by kernel_rfl⟩
 f25:=⟨Tryz.f302.name,by kernel_rfl,by kernel_rfl⟩
 f26:=⟨Tryz.f303.name,by kernel_rfl,by kernel_rfl⟩
 f27:=⟨Tryz.f304.name,by kernel_rfl,by kernel_rfl⟩
 f28:=⟨Tryz.f305.name,by kernel_rfl,by kernel_rfl⟩
 f29:=⟨Tryz.f306.name,by kernel_rfl,by kernel_rfl⟩
 f31:=by kernel_rfl
 f32:=by kernel_rfl
 f36:=⟨Tryz.f308.name,by kernel_rfl,by kernel_rfl⟩
 f37:=⟨Tryz.f309.name,by kernel_rfl,by kernel_rfl⟩
 f38:=⟨Tryz.f310.name,by kernel_rfl,by kernel_rfl⟩
 f39:=⟨Tryz.f311.name,by kernel_rfl,by kernel_rfl⟩
 f41:=⟨Tryz.f312.name,by kernel_rfl,by kernel_rfl⟩
 t0:=Tryz.underlying0
 a0:=Tryz.isAgg0
 z0:=Tryz.sizeOf0
 v0:=Tryz.zeroValue0
 t3:=Tryz.underlying3
 a3:=Tryz.isAgg3
 z3:=Tryz.sizeOf3
 v3:=Tryz.zeroValue3
 t4:=Tryz.underlying4
 a4:=Tryz.isAgg4
 z4:=Tryz.sizeOf4
 v4:=Tryz.zeroValue4
 t5:=Tryz.underlying5
 a5:=Tryz.isAgg5
 z5:=Tryz.sizeOf5
 v5:=Tryz.zeroValue5
 t9:=Tryz.underlying9
 a9:=Tryz.isAgg9
 z9:=Tryz.sizeOf9
 v9:=Tryz.zeroValue9
 t26:=Tryz.underlying23
 a26:=Tryz.isAgg23
 z26:=Tryz.sizeOf23
 v26:=Tryz.zeroValue23
 t27:=Tryz.underlying23
 a27:=Tryz.isAgg23
 z27:=Tryz.sizeOf23
 v27:=Tryz.zeroValue23
 t29:=Tryz.underlying9
 a29:=Tryz.isAgg9
 z29:=Tryz.sizeOf9
 v29:=Tryz.zeroValue9
 t32:=Tryz.underlying276
 a32:=Tryz.isAgg276
 z32:=Tryz.sizeOf276
 v32:=Tryz.zeroValue276
 t35:=Tryz.underlying355
 a35:=Tryz.isAgg355
 z35:=Tryz.sizeOf355
 v35:=Tryz.zeroValue355
 t36:=Tryz.underlying356
 a36:=Tryz.isAgg356
 z36:=Tryz.sizeOf356
 v36:=Tryz.zeroValue356
 t41:=Tryz.underlying66
 a41:=Tryz.isAgg66
 z41:=Tryz.sizeOf66
 v41:=Tryz.zeroValue66
 t44:=Tryz.underlying50
 a44:=Tryz.isAgg50
 z44:=Tryz.sizeOf50
 v44:=Tryz.zeroValue50
 t46:=Tryz.underlying49
 a46:=Tryz.isAgg49
 z46:=Tryz.sizeOf49
 v46:=Tryz.zeroValue49
 t53:=Tryz.underlying369
 a53:=Tryz.isAgg369
 z53:=Tryz.sizeOf369
 v53:=Tryz.zeroValue369
 t57:=Tryz.underlying373
 a57:=Tryz.isAgg373
 z57:=Tryz.sizeOf373
 v57:=Tryz.zeroValue373
 t63:=Tryz.underlying381
 a63:=Tryz.isAgg381
 z63:=Tryz.sizeOf381
 v63:=Tryz.zeroValue381
 t64:=Tryz.underlying382
 a64:=Tryz.isAgg382
 z64:=Tryz.sizeOf382
 v64:=Tryz.zeroValue382
def Ih:Ren where
 f:=fun
  | 44=>221
  | n=>n
 t:=fun
  | 25=>23
  | 26=>9
  | 3=>3
  | 4=>4
  | 0=>0
  | n=>n
 g:=λn=>n
theorem K7:Go.Proofs.SlLaysN.n44 Tryz.prog Ih where
 mixed:=by kernel_rfl
 f44:=⟨Tryz.f221.name,by kernel_rfl,by kernel_rfl⟩
 t0:=Tryz.underlying0
 a0:=Tryz.isAgg0
 z0:=Tryz.sizeOf0
 v0:=Tryz.zeroValue0
 t3:=Tryz.underlying3
 a3:=Tryz.isAgg3
 z3:=Tryz.sizeOf3
 v3:=Tryz.zeroValue3
 t4:=Tryz.underlying4
 a4:=Tryz.isAgg4
 z4:=Tryz.sizeOf4
 v4:=Tryz.zeroValue4
 t25:=Tryz.underlying23
 a25:=Tryz.isAgg23
 z25:=Tryz.sizeOf23
 v25:=Tryz.zeroValue23
 t26:=Tryz.underlying9
 a26:=Tryz.isAgg9
 z26:=Tryz.sizeOf9
 v26:=Tryz.zeroValue9
 i26:=by kernel_rfl
def xG (n:Nat) (P:Program) (g:Nat) (lb:Array Value) (S:List (List UInt8)->Prop) (N:Nat) (w:World):Prop :=
 ∀ (l:Nat) (J:List (List UInt8)->World->Prop) (W:World),(∀ pre W',J pre W'->Below w.heap.size w W') ->
  (∀ pre x W1,J pre W1->pre.length < N->YieldAt Fence.wide (n - 1) P l #[encStr x] W1 λe W'=>e=.returned (.bool true)/\J (pre ++ [x]) W'/\KeepsWalks W1 W') ->
  J [] W->CallsIn Fence.wide n P g (#[.func (.yield l) #[] #[]] ++ lb) W λe W'=>(∃ v,e=.returned v)/\∃ xs,S xs/\J xs W'
theorem GN {a:List (List UInt8)} {k:Nat} (h:k < a.length):a.take k ++ [a.getD k []]=a.take (k+1):=by
 rw[Pe];simp[OH,h]
theorem GH (n:Nat) (hn:1<=n) (Bs b off cap:Nat) (zs:List (List UInt8)) (hreach:zs.length * 16<=140737488351232) (w:World)
  (hBs:w.cell? ⟨Bs,0,none⟩=some (.slice (some ⟨b,off,none⟩) zs.length cap)) (hBl:Bs < w.heap.size) (hbl:b < w.heap.size)
  (hc:∀ j,j < zs.length->w.cell? ⟨b,off+j,none⟩=some (encStr (zs.getD j []))) :
  xG n Tryz.prog 270 #[.pointer (some ⟨Bs,0,none⟩)] (λxs=>xs=zs) zs.length w:=by
 intro l J W hJ hY h0
 have hbw:=hJ _ _ h0
 have hBs':=(hbw.cell (p:=⟨Bs,0,none⟩) hBl).trans hBs
 have hf:Fence.wide.fn 270:=trivial
 refine callsIn_of_wp Tryz.func270 rfl hf ?_ rfl
 simp only[Tryz.ntmps270,PZ,OY,Pc,Nat.reduceAdd,Nat.reduceSub,Qf,Qg,Qs,Qm,PK,PD]
 gi_wp2
 gi_loopw [7] (λi wr=>∃ k:Nat,k<=zs.length/\i=.int .i64 k/\J (zs.take k) wr) (λi _=>zs.length - (RowKit.intOf i).toNat)
 case atStart=>exact⟨0,PL _,rfl,by simpa using h0⟩
 case round =>
  obtain⟨k,hk,rfl,hJs⟩:=hrel
  have hnx:=hJ _ _ hJs
  have hcx:k < zs.length->wr.cell? ⟨b,off+k,none⟩=some (encStr (zs.getD k [])):=λh=>(hnx.cell (p:=⟨b,off+k,none⟩) hbl).trans (hc k h)
  by_cases hlt:k < zs.length
  .obtain⟨x,hx1,hcx'⟩:∃ x,zs.take k ++ [x]=zs.take (k+1)/\wr.cell? ⟨b,off+k,none⟩=some (encStr x):=⟨_,GN hlt,hcx hlt⟩
   obtain⟨fn,tmps,assign,body,hy,hR⟩:=hY _ x wr hJs (by simp;omega)
   clear hcx hJs
   gi_wp2
   refine hR.mono ?_
   rintro e W3 ⟨rfl,hJ3,hk3⟩
   gi_wp2
   go_roundw
   case rel=>exact⟨k+1,by omega,by simp,by rw[<-hx1];exact hJ3⟩
   case measure=>simp[RowKit.intOf];omega
  .obtain rfl:k=zs.length:=by omega
   clear hcx
   gi_wp2
   go_end0
   exact⟨⟨_,rfl⟩,_,rfl,by simpa using hJs⟩
theorem CH (n:Nat) (hn:2<=n) (g:Nat) (lb:Array Value) (eg:∀ args w,(callFunc g args).run Tryz.prog w=.ok (.enter g args) w)
  (S:List (List UInt8)->Prop) (N:Nat) (hN:N<=maxLen) (hNb:N * 16<=140737488355328) (w:World) (hseq:xG (n - 1) Tryz.prog g lb S N w) :
  CallsIn Fence.wide n Tryz.prog 288 #[.slice none 0 0,.func (.func g) #[] lb] w λe w'=>∃ (v:Value) (ss:List (List UInt8)),e=.returned v/\S ss/\w'.ownsRow w.heap.size 9 1 v ss.length (ss.map encStr)/\Below w.heap.size w w':=by
 have h11:Fence.wide.fn 288:=trivial
 refine callsIn_of_wp_marks Tryz.func288 rfl h11 ?_ rfl
 simp only[Tryz.ntmps288,PZ,OY,Pc,Nat.reduceAdd,Nat.reduceSub,Qf,Qg,Qs,Qm,PK,PD]
 gi_wp2
 refine wpIn_rangeFunc ?_
 intro fn hfn
 let sv:Value:=.func (.func g) #[] lb
 have hz:(w.alloc (.cells #[.slice none 0 0] 23)).heap.size=w.heap.size+1:=by simp
 have hv0:=World.alloc_heap_new w (.cells #[.slice none 0 0] 23)
 have hb0:Below w.heap.size w (w.alloc (.cells #[.slice none 0 0] 23)):=(Below.refl _ w).alloc (OR _) _
 revert hz hv0 hb0
 generalize w.alloc (.cells #[.slice none 0 0] 23)=W0
 intro hz hv0 hb0
 obtain⟨W1,hW1⟩:∃ W1,(W0.alloc (.deferred (some []))).alloc (.loop (AnyZ.apRec gL fn sv w.heap.size W0.heap.size .ready none))=W1:=⟨_,rfl⟩
 have hold:∀ k,k < W0.heap.size->W1.heap[k]?=W0.heap[k]?:=λk hk=>by
  rw[<-hW1];exact(Below.heap_alloc _ _ k (by simp;omega)).trans (Below.heap_alloc _ _ k hk)
 have hb1:Below w.heap.size w W1:=by rw[<-hW1];exact(hb0.alloc (by omega) _).alloc (by simp;omega) _
 have hM:AnyZ.ApAt gL w fn sv w.heap.size (W0.heap.size+1) W0.heap.size [] W1:=by
  refine⟨⟨_,(hold w.heap.size (by omega)).trans hv0,⟨rfl,.inl ⟨rfl,rfl⟩⟩,by simp⟩,?_,?_,hb1⟩
  .rw[<-hW1]
   have h:=World.alloc_heap_new (W0.alloc (.deferred (some []))) (.loop (AnyZ.apRec gL fn sv w.heap.size W0.heap.size .ready none))
   rwa [World.size_alloc] at h
  .rw[<-hW1];exact(Below.heap_alloc _ _ _ (by simp)).trans (World.alloc_heap_new W0 _)
 refine⟨W0.heap.size+1,[{ target:=.collected W0.heap.size,args:=#[] }],W1,{ target:=.fn (.func g) lb,args:=#[.func (.yield (W0.heap.size+1)) #[] #[]] },W1,g,
  #[.func (.yield (W0.heap.size+1)) #[] #[]] ++ lb,W1,by rw[<-hW1];exact run_enterLoop_outer _ _ _ _ _,?_,?_,?_,λ_=>by omega,?_⟩
 .simp[resolve,go_sem]
 .intro f' hf';trivial
 .simp[invoke,go_sem,eg]
 .refine(hseq (W0.heap.size+1) (AnyZ.ApAt gL w fn sv w.heap.size (W0.heap.size+1) W0.heap.size) W1 (λ_ _ h=>h.below)
   (λpre x W hJ hl=>AnyZ.apYield { LQ with } Fence.wide (n - 1 - 1) w fn hfn _ w.heap.size (W0.heap.size+1) W0.heap.size (by omega) (by omega) (by omega) (OR _) (by omega) N hN hNb pre x W hJ hl) hM).mono ?_
  rintro e W2 ⟨⟨v0,rfl⟩,ss,hS,h2⟩
  obtain⟨v,hv,hrow,_⟩:=h2.box
  have hend:=run_endLoop (P:=Tryz.prog) h2.L (by simp[AnyZ.apRec])
  have hne:∀ (cur:Array Value),Obj.cells #[v] 23 (0,0)≠.cells cur 9 (0,0):=λcur e=>by cases e
  obtain⟨W3,hW3⟩:∃ W3,W2.putObj (W0.heap.size+1) (.loop { AnyZ.apRec gL fn sv w.heap.size W0.heap.size .ready none with state:=.exhausted })=W3:=⟨_,rfl⟩
  have hg3:W2.grownBy W3 (some (W0.heap.size+1)):=by rw[<-hW3];exact grownBy_putObj_a _ _ _
  have hv3:W3.heap[w.heap.size]?=some (.cells #[v] 23 (0,0)):=by rw[<-hW3];exact(World.putObj_heap_other (by omega)).trans hv
  have hK3:W3.heap[W0.heap.size]?=some (.deferred (some [])):=by rw[<-hW3];exact(World.putObj_heap_other (by omega)).trans h2.K
  have hrow3:=hrow.kept hg3 (ownsRow_ne_a hrow h2.L (λcur e=>by cases e))
  have hb3:Below w.heap.size w W3:=h2.below.grown hg3 h2.below.size (λk e=>by cases e;omega)
  obtain⟨hc3,hf3⟩:=cell_of_box_a hv3
  refine⟨none,W3,by rw[<-hW3];exact hend,?_⟩
  clear hW3 hW1 hold hM hend hseq
  gi_wp2
  rw[<-hz]
  refine⟨by simp,.inl ⟨_,_,rfl,run_takeDeferred hK3,?_⟩⟩
  exact⟨_,results_tmp rfl _ _ _,v,ss,rfl,hS,hrow3.kept (grownBy_putObj_a _ _ _) (ownsRow_ne_a hrow3 hK3 (λcur e=>by cases e)),hb3.grown (grownBy_putObj_a _ _ _) hb3.size (λk e=>by cases e;omega)⟩
theorem IP (n:Nat) (hn:4<=n) (g:Nat) (lb:Array Value) (eg:∀ args w,(callFunc g args).run Tryz.prog w=.ok (.enter g args) w)
  (S:List (List UInt8)->Prop) (N:Nat) (hN:N<=maxLen) (hNb:N * 16<=140737488355328) (w:World) (hseq:xG (n - 1 - 1 - 1) Tryz.prog g lb S N w) (hS:∀ xs,S xs->xs.length < 4611686018427387904) :
  CallsIn Fence.wide n Tryz.prog 219 #[.func (.func g) #[] lb] w λe w'=>∃ (v:Value) (ss:List (List UInt8)),e=.returned v/\S ss /\
   w'.ownsRow w.heap.size 9 1 v ss.length ((ss.mergeSort (λx y=>decide (x<=y))).map encStr)/\Below w.heap.size w w':=by
 have h6:Fence.wide.fn 219:=trivial
 have h8:Fence.wide.fn 268:=trivial
 have h9:Fence.wide.fn 269:=trivial
 have h11:Fence.wide.fn 288:=trivial
 have h1:1<=n - 1:=by omega
 have h1':1<=n:=by omega
 have hcol:CallsIn Fence.wide (n - 1) Tryz.prog 268 #[.func (.func g) #[] lb] w λe w'=>∃ (v:Value) (ss:List (List UInt8)),e=.returned v/\S ss/\w'.ownsRow w.heap.size 9 1 v ss.length (ss.map encStr)/\Below w.heap.size w w':=by
  have happ:=CH (n - 1 - 1) (by omega) g lb eg S N hN hNb w hseq
  refine callsIn_of_wp Tryz.func268 rfl h8 ?_ rfl
  simp only[Tryz.ntmps268,PZ,OY,Pc,Nat.reduceAdd,Nat.reduceSub,Qf,Qg,Qs,Qm,PK,PD]
  gi_wp2_with (gi_at_call 288;refine happ.mono ?_;rintro e w' ⟨v,ss,rfl,hS,hrow,hb⟩)
  go_ret
  exact⟨v,ss,rfl,hS,hrow,hb⟩
 refine callsIn_of_wp Tryz.func219 rfl h6 ?_ rfl
 simp only[Tryz.ntmps219,PZ,OY,Pc,Nat.reduceAdd,Nat.reduceSub,Qf,Qg,Qs,Qm,PK,PD]
 gi_wp2_with (gi_at_call 268;refine hcol.mono ?_;rintro e W ⟨v,ss,rfl,hSs,hrow,hb⟩)
 have hlen:=hS ss hSs
 rcases hrow.2 with ⟨rfl,hz⟩ | ⟨gb,cap,cur,rfl,hbase,hgb,r1,r2,r3,r4⟩
 .have hss:ss=[]:=List.eq_nil_of_length_eq_zero hz
  subst hss
  have cN:CallsIn Fence.wide (n - 1) Tryz.prog 269 #[.slice none 0 0] W λe w'=>e=.returned (.tuple #[])/\w'=W:=callsIn_wide.2 (AnyM.slices_Sort_string_none K3 none 0 W)
  gi_wp2_with (gi_at_call 269;refine cN.mono ?_;rintro e w' ⟨rfl,rfl⟩)
  go_ret
  exact⟨.slice none 0 0,[],rfl,hSs,by simpa using hrow,hb⟩
 .have hH:Holds encStr W gb 0 ss.toArray:=holds_of_block hgb (by simpa using r4)
  have hgl:gb < W.heap.size:=(Array.getElem?_eq_some_iff.1 hgb).1
  have cS:CallsIn Fence.wide (n - 1) Tryz.prog 269 #[.slice (some ⟨gb,0,none⟩) ss.length cap] W λe w'=>e=.returned (.tuple #[])/\∃ k os,w'=grow (putRow encStr (Sort.ahead W k) gb 0 (ss.mergeSort λx y=>decide (x<=y)).toArray) os :=
   callsIn_wide.2 (AnyM.slices_Sort_string K3 gb 0 cap ss W hH hgl hlen)
  gi_wp2_with (gi_at_call 269;refine cS.mono ?_;rintro e w' ⟨rfl,nn,os,rfl⟩)
  go_ret
  exact⟨_,ss,rfl,hSs,ownsRow_sorted (by simp) hbase hgb r1 r2 r3,hb.grown (grownBy_sorted _) hb.size (λj hj=>by cases hj;exact hbase)⟩
open Go Go.Proofs Go.Shelf Go.RowKit Go.Sort
theorem Dx {l:List (List UInt8)} (c:l.Pairwise (λa b=>decide (a<=b)=true)) (h:∀ j,j+1 < l.length->l.getD (j+1) []≠l.getD j []):l.Nodup:=by
 induction l with
 | nil=>exact List.nodup_nil
 | cons x r g =>
  rw[List.pairwise_cons] at c
  refine Ps.2 ⟨λf=>?_,g c.2 λj i=>by simpa using h (j+1) (by simpa using i)⟩
  cases r with
  | nil=>simp at f
  | cons y r =>
   have d:=h 0 (by simp)
   simp only[P8,PY,PA] at d
   rcases O1.1 f with e | hm
   .exact d e.symm
   .have h1:x<=y:=by simpa using c.1 y (by simp)
    have k:y<=x:=by simpa using (List.pairwise_cons.1 c.2).1 x hm
    exact d (List.le_antisymm k h1)
theorem Ig (l:List (List UInt8)):(Lib.compact l).length=l.length↔∀ j,j+1 < l.length->l.getD (j+1) []≠l.getD j []:=by
 have c:(Lib.compact l).length=((List.range l.length).filter (Lib.keeps l.toArray)).length:=by simp[Lib.compact,Lib.compactUpTo]
 rw[c]
 have hr:(List.range l.length).length=l.length:=by simp
 conv=>lhs;rhs;rw[<-hr]
 rw[List.length_filter_eq_length_iff]
 have b:∀ j,j < l.length->l.toArray[j]! = l.getD j []:=λj a=>by simp[OH,a]
 constructor
 .intro h j a
  have:=h (j+1) (by simpa using a)
  simp only[Lib.keeps,OT,Nat.add_sub_cancel] at this
  rcases this with e | e
  .omega
  .rw[b _ a,b _ (by omega)] at e;exact e
 .intro h j a
  simp only[Pm] at a
  simp only[Lib.keeps,OT]
  by_cases e:j=0
  .exact .inl e
  .right
   obtain⟨k,rfl⟩:∃ k,j=k+1:=⟨j - 1,by omega⟩
   rw[b _ a,Nat.add_sub_cancel,b _ (by omega)]
   exact h k a
theorem yW (d:List (List UInt8)):(Lib.compact (d.mergeSort λx y=>decide (x<=y))).length=d.length↔d.Nodup:=by
 have hp:=List.mergeSort_perm d (λx y=>decide (x<=y))
 have g:=List.pairwise_mergeSort (le:=λx y:List UInt8=>decide (x<=y)) (λa b c h k=>by simp at h k ⊢;exact List.le_trans h k) (λa b=>by simpa using List.le_total a b) d
 rw[<-hp.nodup_iff,<-hp.length_eq,Ig]
 constructor
 .exact Dx g
 .intro i j f e
  have h1:(d.mergeSort λx y=>decide (x<=y))[j+1]'f=(d.mergeSort λx y=>decide (x<=y))[j]'(by omega):=by
   simp only[OH,OI f,OI (show j < (d.mergeSort λx y=>decide (x<=y)).length by omega),OS] at e
   exact e
  have:=(List.getElem_inj i).1 h1
  omega
theorem KD (w:World):grow w #[]=w:=by simp[grow]
theorem Dr (n:Nat) (hn:1<=n) (Bs cap:Nat) (a:Option Addr) (w:World) (hBs:w.cell? ⟨Bs,0,none⟩=some (.slice a 0 cap)) (hBl:Bs < w.heap.size) :
  xG n Tryz.prog 270 #[.pointer (some ⟨Bs,0,none⟩)] (λxs=>xs=[]) 0 w:=by
 intro l J W hJ hY h0
 have hbw:=hJ _ _ h0
 have hBs':=(hbw.cell (p:=⟨Bs,0,none⟩) hBl).trans hBs
 have hf:Fence.wide.fn 270:=trivial
 refine callsIn_of_wp Tryz.func270 rfl hf ?_ rfl
 simp only[Tryz.ntmps270,PZ,OY,Pc,Nat.reduceAdd,Nat.reduceSub,Qf,Qg,Qs,Qm,PK,PD]
 gi_wp2
 gi_loopw [7] (λi wr=>i=.int .i64 0/\J [] wr) (λ_ _=>0)
 case atStart=>exact⟨rfl,h0⟩
 case round =>
  obtain⟨rfl,hJs⟩:=hrel
  gi_wp2
  go_end0
  exact⟨⟨_,rfl⟩,_,rfl,hJs⟩
theorem F2 (n:Nat) (a:Option Addr) (len cap:Nat) (w:World) :
  CallsIn Fence.wide n Tryz.prog 220 #[.slice a len cap] w λe w'=>e=.returned (.func (.func 270) #[] #[.pointer (some ⟨w.heap.size,0,none⟩)])/\w'=w.alloc (.cells #[.slice a len cap] 23):=by
 have hf:Fence.wide.fn 220:=trivial
 refine callsIn_of_wp Tryz.func220 rfl hf ?_ rfl
 simp only[Tryz.ntmps220,PZ,OY,Pc,Nat.reduceAdd,Nat.reduceSub,Qf,Qg,Qs,Qm,PK,PD]
 gi_wp2
 go_ret
 exact⟨rfl,rfl⟩
theorem vY (a:Option Addr) (cap:Nat) (zs:List (List UInt8)) (hz:zs.length<=1000) (w:World)
  (hseq:∀ n Bs,1<=n->w.heap.size=Bs->xG n Tryz.prog 270 #[.pointer (some ⟨Bs,0,none⟩)] (λxs=>xs=zs) zs.length (w.alloc (.cells #[.slice a zs.length cap] 23))) :
  Calls Tryz.prog 155 #[.slice a zs.length cap] w λe w'=>e=.returned (.bool (decide zs.Nodup))/\Below w.heap.size w w':=by
 refine(callsIn_wide (n:=7)).1 ?_
 have hf:Fence.wide.fn 155:=trivial
 have hfv:Fence.wide.fn 220:=trivial
 have hfs:Fence.wide.fn 219:=trivial
 have hfc:Fence.wide.fn 221:=trivial
 have eg:=enters_of Tryz.func270 (by kernel_rfl) rfl
 have cV:=F2 6 a zs.length cap w
 have cS:=IP 6 (by omega) 270 #[.pointer (some ⟨w.heap.size,0,none⟩)] eg _ zs.length (by unfold maxLen;omega) (by omega) (w.alloc (.cells #[.slice a zs.length cap] 23)) (hseq _ _ (by omega) rfl) (λxs e=>by subst e;omega)
 refine callsIn_of_wp Tryz.func155 rfl hf ?_ rfl
 simp only[Tryz.ntmps155,PZ,OY,Pc,Nat.reduceAdd,Nat.reduceSub,Qf,Qg,Qs,Qm,PK,PD]
 clear hseq
 gi_wp2_with (first
  | (gi_at_call 220;refine cV.mono ?_;rintro e w' ⟨rfl,rfl⟩)
  | (gi_at_call 219;refine cS.mono ?_;rintro e W ⟨v,ss,rfl,rfl,hrow,hb⟩)
  | fail)
 have hsz:(ss.mergeSort λx y=>decide (x<=y)).length=ss.length:=by simp
 have hBw:Below w.heap.size w W:=((Below.refl _ w).alloc (OR _) _).trans (hb.mono (by simp))
 rcases hrow.2 with ⟨rfl,h0⟩ | ⟨gb,cap',cur,rfl,hbase,hgb,r1,r2,r3,r4⟩
 .have hss:ss=[]:=List.eq_nil_of_length_eq_zero h0
  subst hss
  have cC:CallsIn Fence.wide 6 Tryz.prog 221 #[.slice none 0 0] W λe w'=>e=.returned (.slice none 0 0)/\w'=W:=callsIn_wide.2 (AnyG.slices_Compact_string_empty K7 none 0 W)
  clear cS cV hrow
  gi_wp2_with (gi_at_call 221;refine cC.mono ?_;rintro e w' ⟨rfl,rfl⟩)
  go_ret
  exact⟨rfl,hBw⟩
 .have hH:Holds encStr W gb 0 (ss.mergeSort λx y=>decide (x<=y)).toArray:=holds_of_block hgb (by simpa using r4)
  have hgl:gb < W.heap.size:=(Array.getElem?_eq_some_iff.1 hgb).1
  have cC:CallsIn Fence.wide 6 Tryz.prog 221 #[.slice (some ⟨gb,0,none⟩) ss.length cap'] W λe w'=>∃ m:Nat,e=.returned (.slice (some ⟨gb,0,none⟩) m cap')/\((m=ss.length)↔ss.Nodup)/\Below w.heap.size w w':=by
   have:=AnyG.slices_Compact_string K7 gb 0 cap' (ss.mergeSort λx y=>decide (x<=y)) W hH (by rw[hsz];omega) (by rw[hsz];omega)
   rw[hsz] at this
   refine callsIn_wide.2 (this.mono ?_)
   rintro e w' ⟨rfl,q,rfl⟩
   refine⟨_,rfl,yW ss,?_⟩
   have hg:=grownBy_sorted (w:=W) (g:=gb) (n:=q) (os:=#[]) (Lib.compact (ss.mergeSort λx y=>decide (x<=y)) ++ List.replicate (ss.length - (Lib.compact (ss.mergeSort λx y=>decide (x<=y))).length) []).toArray
   rw[KD] at hg
   exact hBw.grown hg hBw.size (λj e=>by cases e;have h:=hbase;rw[World.size_alloc] at h;omega)
  clear cS cV hrow hH
  gi_wp2_with (gi_at_call 221;refine cC.mono ?_;rintro e w' ⟨m,rfl,hm,hb'⟩)
  go_ret
  refine⟨?_,hb'⟩
  show Ending.returned (.bool ((m:Int) == (ss.length:Int)))=_
  have:((m:Int) == (ss.length:Int))=decide ss.Nodup:=by
   rw[PI]
   simp only[PB,OT,<-hm]
   omega
  rw[this]
theorem Cy (s:ByteArray):encStr s.data.toList=.string s:=by
 cases s;simp[encStr]
def names (l:List ByteArray):List (List UInt8):=l.map λs=>s.data.toList
theorem DY {Z:Nat->Prop} {μ:Mu} {hp:Array Obj} {es:List (List V)} {x:Value} (h:aq Z μ hp (.aX es) x) :
  (es=[]/\∃ a cap,x=.slice a 0 cap/\(a=none->cap=0))∨(∃ b off esz cap,∃ c:Nat->Nat->Value,x=.slice (some ⟨b,off,none⟩) es.length cap/\Z b/\es.length<=cap /\
   (∀ i,i < es.length->(es.getD i []).length=esz)/\(∀ i j,i < es.length->j < esz->cellAt hp b (off+i * esz+j)=some (c i j)) /\
   (∀ i j,i < es.length->j < esz->aq Z μ hp ((es.getD i []).getD j .any) (c i j))):=by
 cases h with
 | fy a cap d=>exact .inl ⟨rfl,a,cap,rfl,d⟩
 | aX _ b off esz cap c h1 e f g k=>exact .inr ⟨b,off,esz,cap,c,rfl,h1,e,f,g,k⟩
theorem KO (l:List ByteArray) (G:l.length<=1000):ar Tryz.prog 155 [encS l] (gb (decide (names l).Nodup)):=by
 intro Z μ w xs g r
 obtain⟨hlen,H⟩:=g
 obtain⟨x,rfl⟩:∃ x,xs=[x]:=by
  match xs,hlen with
  | [x],_=>exact⟨x,rfl⟩
 have I:aq Z μ w.heap (encS l) x:=H 0 (by simp)
 have k:(names l).length=l.length:=by simp[names]
 have fin:∀ e w',(e=Ending.returned (.bool (decide (names l).Nodup))/\RowKit.Below w.heap.size w w')->∃ x t,e=.returned x/\(∀ E,aq t E w'.heap (gb (decide (names l).Nodup)) x)/\c8 w w'/\(∀ b,Z b->t b)/\(∀ b,t b->Z b∨(w.heap.size<=b/\b < w'.heap.size))/\ee w.heap w'.heap (λ_=>False):=by
  rintro e w' ⟨rfl,m⟩
  exact⟨_,Z,rfl,λE=>.val _ rfl,⟨m.os,m.tape,m.output,m.size⟩,λ_ h=>h,λ_ h=>.inl h,λb u _=>m.block b u⟩
 have box:∀ (v:Value),(w.alloc (.cells #[v] 23)).cell? ⟨w.heap.size,0,none⟩=some v:=λv=>by
  have:=World.alloc_heap_new w (.cells #[v] 23)
  simp only[World.cell?,this];rfl
 rcases DY I with ⟨he,a,cap,rfl,_⟩ | ⟨b,off,esz,cap,c,rfl,J,hle,z,K,L⟩
 .have A:l=[]:=by simpa using he
  subst A
  refine(vY a cap (names []) (by simp[names]) w (λn M B C=>?_)).mono fin
  subst C
  exact Dr n B w.heap.size cap a _ (box _) (by simp)
 .have o:∀ i,(hi:i < l.length)->(l.map λs=>[gs s]).getD i []=[gs l[i]]:=λi hi=>by simp[OH,hi]
  have d:∀ i,(hi:i < l.length)->cellAt w.heap b (off+i)=some (.string l[i]):=λi hi=>by
   have h1:=z i (by simpa using hi)
   rw[o i hi] at h1
   simp only[OY,Pc] at h1
   subst h1
   have F:=K i 0 (by simpa using hi) (by omega)
   have q:=L i 0 (by simpa using hi) (by omega)
   rw[o i hi] at q
   simp only[PY] at q
   generalize c i 0=y at F q
   cases q
   simpa using F
  have f:(l.map λs=>[gs s]).length=(names l).length:=by simp[names]
  rw[f]
  refine(vY (some ⟨b,off,none⟩) cap (names l) (by rw[k];exact G) w (λn M B C=>?_)).mono fin
  subst C
  have D:=r b J
  refine GH n B w.heap.size b off cap (names l) (by rw[k];omega) _ (box _) (by simp) (by simp;omega) (λj P=>?_)
  have p:j < l.length:=by omega
  have N:(w.alloc (.cells #[.slice (some ⟨b,off,none⟩) (names l).length cap] 23)).cell? ⟨b,off+j,none⟩=w.cell? ⟨b,off+j,none⟩:=by
   have:=Below.heap_alloc w (.cells #[.slice (some ⟨b,off,none⟩) (names l).length cap] 23) b D
   simp only[World.cell?,this]
  rw[N,oZ,d j p]
  have O:(names l).getD j []=l[j].data.toList:=by simp[names,OH,p]
  rw[O,Cy]
theorem bu.fy {P:Program} {f:FuncId} {h:aw} (h1:bu P f [.emp 1] h (.emp 1) h) (m:bu P f [.emp 2] h (.emp 2) h) (n:bu P f [.dn] h (.emp 2) h):bu P f [.aX []] h (.emp 0) h:=by
 refine⟨OR _,λZ μ F w xs l hr g=>?_⟩
 obtain⟨q,r⟩:=l
 obtain⟨x,rfl⟩:∃ x,xs=[x]:=by
  match xs,q with
  | [x],_=>exact⟨x,rfl⟩
 have s:aq Z μ w.heap (.aX []) x:=r 0 (by simp)
 have one:∀ v,aq Z μ w.heap v x->er Z μ w.heap [v] [x]:=λv h=>⟨rfl,λi hi=>by
  simp at hi;subst hi;exact h⟩
 have d:∀ k,bu P f [if k=3 then .dn else .emp k] h (if k=3 then .emp 2 else .emp k) h->aq Z μ w.heap (if k=3 then .dn else .emp k) x->Calls P f [x].toArray w λe w'=>∃ x j μ',e=.returned x/\aq j μ' w'.heap (.emp 0) x/\fc j μ' w'.heap (cat h F)/\Ext Z μ w h.length j μ' w'/\(∀ id,id < h.length∨h.length<=id->μ' id=μ id):=by
  intro k hk t
  refine(hk.2 Z μ F w [x] (one _ t) hr g).mono ?_
  rintro e w' ⟨y,j,μ',rfl,o,rest⟩
  refine⟨y,j,μ',rfl,?_,rest⟩
  have:∀ p,aq j μ' w'.heap (.emp p) y->aq j μ' w'.heap (.emp 0) y:=λp h=>by
   cases h with | emp _ a _ _=>exact .emp 0 a (by simp) (by simp)
  split at o <;> exact this _ o
 rcases DY s with ⟨_,a,cap,rfl,u⟩ | ⟨b,off,esz,cap,c,rfl,_,_,_⟩
 .cases a with
  | none =>
   have:=u rfl
   subst this
   exact d 1 (by simpa using h1) (.emp 1 none (by simp) (by simp))
  | some a =>
   cases cap with
   | zero=>exact d 2 (by simpa using m) (.emp 2 (some a) (by simp) (by simp))
   | succ c=>exact d 3 (by simpa using n) (.dn a (c+1))
 .cases cap with
  | zero=>exact d 2 (by simpa using m) (.emp 2 (some ⟨b,off,none⟩) (by simp) (by simp))
  | succ c=>exact d 3 (by simpa using n) (.dn ⟨b,off,none⟩ (c+1))
def xk (sz:Nat) (es:List (List V)) (H:View) (K:V->View->Prop):Prop :=
 (es=[]->∀ k,K (.emp k) H)/\(es≠[]->∀ n,H n=.dead->K (.sl n 0 es.length sz) (H.set n (.arr sz es)))
def bR:SF:=⟨ae [ab [cp 2 1],ae [ab [aa 3 0,((some 4),.op (.nil true 0 (.tmp 3) (.val (.emp 1))))],bc 4 (ae [ab [cp 2 1],.ret])],ab [cp 5 2,aa 6 0,pk 7 1 16 5 6,aa 2 7],.ret],
 [.tmp 2],8⟩
theorem cg:aE Tryz.prog 152 []=some bR:=by kernel_rfl
def bY:SF:=⟨ae [ab [cp 2 1],ae [ab [aa 3 0,((some 4),.op (.nil true 0 (.tmp 3) (.val (.emp 1))))],bc 4 (ae [ab [cp 2 1],.ret])],ab [cp 5 2,aa 6 0,pk 7 1 8 5 6,aa 2 7],.ret],
 [.tmp 2],8⟩
theorem cn:aE Tryz.prog 140 []=some bY:=by kernel_rfl
theorem ar.tree {P:Program} {f:FuncId} {vs:List V} {t:V} (a:∀ v∈vs,Tree v) (b:Tree t) (h:∀ H,an P f vs H λr _=>r=t):ar P f vs t :=
 ar.of a ((h _).mono λr H' e c _=>by rw[e];exact .tree _ b)
theorem vN {H:View} : bD H .dn=some ([],[]):=id rfl
theorem oI {H:View} (sz bytes k:Nat) (K:V->View->Prop) (w:bL (H,K)):ow sz bytes (.emp k) [] H K w=K (.emp k) H:=propext Iff.rfl
theorem IH (l:List ByteArray) (b:l.length<=100000) (H:View) (K:V->View->Prop) (hk:xk 1 (l.map λs=>[gs s]) H K):an Tryz.prog 152 [encS l] H K:=by
 cases l with
 | nil =>
  have hp:∀ v t,Tree v->Tree t->(∀ H,an Tryz.prog 152 [v] H λr _=>r=t)->ar Tryz.prog 152 [v] t:=λv t c d h=>ar.tree (by intro x a;simp at a;subst a;exact c) d h
  have h1:=hp (.emp 1) (.emp 1) (.emp 1) (.emp 1) (λH=>by
   refine an.of mixed cg ?_
   simp(disch:=omega)only[↓wr,seval,wq,bR])
  have e:=hp (.emp 2) (.emp 2) (.emp 2) (.emp 2) (λH=>by
   refine an.of mixed cg ?_
   simp(disch:=omega)only[↓wr,seval,wq,bR,oI,List.isEmpty_nil])
  have f:=hp .dn (.emp 2) .dn (.emp 2) (λH=>by
   refine an.of mixed cg ?_
   simp(disch:=omega)only[↓wr,seval,wq,bR,vN,oI,List.isEmpty_nil])
  refine⟨by kernel_rfl,?_⟩
  rintro h rfl
  exact⟨.emp 0,h,bu.fy (bu.j7 h1 h) (bu.j7 e h) (bu.j7 f h),.refl _,hk.1 rfl 0⟩
 | cons x r =>
  refine an.of mixed cg ?_
  simp only[OY] at b
  simp(disch:=omega)only[↓wr,seval,wq,bR,encS]
  refine⟨?_,?_,?_⟩
  .simp[List.all_map,encS,aD]
  .unfold aB;simp;omega
  .intro n g
   have:=hk.2 (by simp) n g
   simp(disch:=omega)only[↓wr,seval,wq]
   simpa [c7] using this
theorem Ji (l:List Int) (b:l.length<=100000) (H:View) (K:V->View->Prop) (hk:xk 1 (l.map λs=>[gi s]) H K):an Tryz.prog 140 [encI l] H K:=by
 cases l with
 | nil =>
  have hp:∀ v t,Tree v->Tree t->(∀ H,an Tryz.prog 140 [v] H λr _=>r=t)->ar Tryz.prog 140 [v] t:=λv t c d h=>ar.tree (by intro x a;simp at a;subst a;exact c) d h
  have h1:=hp (.emp 1) (.emp 1) (.emp 1) (.emp 1) (λH=>by
   refine an.of mixed cn ?_
   simp(disch:=omega)only[↓wr,seval,wq,bY])
  have e:=hp (.emp 2) (.emp 2) (.emp 2) (.emp 2) (λH=>by
   refine an.of mixed cn ?_
   simp(disch:=omega)only[↓wr,seval,wq,bY,oI,List.isEmpty_nil])
  have f:=hp .dn (.emp 2) .dn (.emp 2) (λH=>by
   refine an.of mixed cn ?_
   simp(disch:=omega)only[↓wr,seval,wq,bY,vN,oI,List.isEmpty_nil])
  refine⟨by kernel_rfl,?_⟩
  rintro h rfl
  exact⟨.emp 0,h,bu.fy (bu.j7 h1 h) (bu.j7 e h) (bu.j7 f h),.refl _,hk.1 rfl 0⟩
 | cons x r =>
  refine an.of mixed cn ?_
  simp only[OY] at b
  simp(disch:=omega)only[↓wr,seval,wq,bY,encI]
  refine⟨?_,?_,?_⟩
  .simp[List.all_map,encI,aD]
  .unfold aB;simp;omega
  .intro n g
   have:=hk.2 (by simp) n g
   simp(disch:=omega)only[↓wr,seval,wq]
   simpa [c7] using this
theorem xk.own {sz:Nat} {es:List (List V)} {H:View} : xk sz es H λr H'=>aO H' r sz es/\jK H H' r :=
 ⟨λhe k=>⟨by rw[he];exact .nil,.emp⟩,λ_ n a=>⟨.new,.new a⟩⟩
theorem I5 (l:List ByteArray) (a:l.length<=100000) (H:View):an Tryz.prog 152 [encS l] H λr H'=>aO H' r 1 (l.map λs=>[gs s])/\jK H H' r:=IH l a H _ .own
theorem Jf (l:List Int) (a:l.length<=100000) (H:View):an Tryz.prog 140 [encI l] H λr H'=>aO H' r 1 (l.map λs=>[gi s])/\jK H H' r:=Ji l a H _ .own
def jE (g:ai):List aF->Int->Bool
 | [],next=>next == g.af.length
 | r :: l,next=>decide (0<=r.left) && decide (r.left<=next) && fq g r && jE g l (if r.left+1 > next then r.left+1 else next)
def pw (g:ai):List ByteArray:=g.af ++ g.ao.map Term.name
def nG (g:ai):Bool :=
 pB g.ao && (decide ((1:Int)<=g.af.length) && decide ((g.af.length:Int)<=16)) && (decide ((1:Int)<=g.rules.length) && decide ((g.rules.length:Int)<=40)) && decide (names (pw g)).Nodup && (decide (0<=g.start) && decide (g.start<=(g.af.length:Int) - 1)) &&
  !(g.af.any λs=>!ew (dL s)) && jE g g.rules 0
theorem Ba {l:List ByteArray} : ∀ e∈(l.map λs=>[gs s]),∀ v∈e,Tree v:=by
 intro e he v b
 obtain⟨a,_,rfl⟩:=O9.1 he
 rw[PU] at b
 subst b
 exact .val _
theorem I8 (g:ai) (p:g.Ok) (Z:g.af.length+g.ao.length<=1000) (H:View):an Tryz.prog 89 [.agg (ah g)] H λr _=>r=gb (nG g):=by
 refine an.of mixed zh ?_
 have L:=p.af
 have M:=p.ao
 have hr:=p.rules
 unfold aG at L M hr
 simp(disch:=omega)only[↓wr,seval,wq,vT,ah,encS]
 refine aj.dd ((I5 g.af (by omega) H).mono ?_)
 rintro u H1 ⟨hu,hf⟩
 simp(disch:=omega)only[↓wr,seval,wq,ah,encS]
 refine aP.up g.ao.length (λi T H=>T 1=.aC (ah g) 0/\(∃ u,T 3=u/\aO H u 1 ((g.af ++ (g.ao.take i).map Term.name).map λs=>[gs s]))/\T 13=dH g.ao/\T 14=gi g.ao.length/\T 15=gi i) ?_ ?_
 .exact⟨rfl,⟨u,rfl,by simpa using hu⟩,rfl,rfl,rfl⟩
 rintro i k T H' hk ⟨h1,⟨u,q,hu⟩,a,c,d⟩
 simp(disch:=omega)only[↓wr,seval,wq,tD,h1,a,c,d,dH]
 apply ag.dec<;>intro B
 .have f:g.ao[i]?=some (g.ao[i]'(by omega)):=OI (by omega)
  have v:(g.ao.take (i+1)).map Term.name=(g.ao.take i).map Term.name ++ [(g.ao[i]'(by omega)).name]:=by
   rw[Pe,f,PW];rfl
  generalize g.ao[i]'(by omega)=t at f v
  simp(disch:=omega)only[↓wr,seval,wq,h1,q,a,c,d,dH,c7,ON,f]
  intro b C
  try simp(disch:=omega)only[↓wr,seval,wq,h1,q,a,c,d,set_set]
  intro m hm
  have D:=(c9 hm cT).1
  have hm:=(c9 (c9 hm cT).2 cT).2
  try simp(disch:=omega)only[↓wr,seval,wq,h1,q,a,c,d,cL]
  have J:((g.af ++ (g.ao.take i).map Term.name).map λs=>[gs s]).length<=1000:=by simp;omega
  refine p7 (((hu.fresh C).other (hu.ne C)).fresh (by simp[View.set,hm,D])) (by simp) (by simp[aD]) (by unfold aB;simp at J ⊢;omega) (by unfold aB;simp at J ⊢;omega) ?_
  intro u' H2 E _
  simp(disch:=omega)only[↓wr,seval,wq,h1,q,a,c,d]
  refine ay hk (by omega) ⟨h1,⟨u',rfl,?_⟩,a,c,rfl⟩
  rw[v]
  simpa using E
 .rw[O8 (by omega)] at hu
  have N:H'=H':=rfl
  have y:(pw g).length<=1000:=by simp[pw];omega
  repeat' (first | ((first|apply ag.dec|apply ag.eq|apply ag.ne|apply ag.split)<;>intro)|(refine aj.pure (Hj g.ao p.ao) ?_)|(refine aj.pure (oP _ _ _) ?_)|(refine aj.FL (KO (pw g) y) (by kernel_rfl) (.val _) ⟨ey.own hu Ba,trivial⟩ ?_)|(simp(disch:=omega)only[↓wr,seval,wq,h1,q,a,c,d,ah,encS]))
  all_goals try (simp[nG, *];done)
  rename_i O P K Q R
  refine aj.pure (wj g.af p.af 157 [] (by simp) (λs=>!ew (dL s)) (λx _=>Gc x) (by kernel_rfl)) ?_
  repeat' (first | ((first|apply ag.dec|apply ag.eq|apply ag.ne|apply ag.split)<;>intro)|(simp(disch:=omega)only[↓wr,seval,wq,h1,q,a,c,d,ah,encS]))
  all_goals try (simp[nG, *];done)
  rename_i S
  have hle:g.rules.length<=40:=by simp at K;omega
  have h:∀ b,jE g g.rules 0=b->gb b=gb (nG g):=λb e=>by
   simp only[nG,O,P,K,Q,R,S,e,decide_true,Pz,Bool.not_false]
  refine aP.up g.rules.length (λi T _=>∃ w:Int,0<=w/\w<=i/\jE g (g.rules.drop i) w=jE g g.rules 0/\T 1=.aC (ah g) 0/\T 6=gi w/\T 62=.aX (g.rules.map aS)/\T 63=gi g.rules.length/\T 64=gi i) ?_ ?_
  .exact⟨0,by omega,by omega,rfl,h1,rfl,rfl,rfl,rfl⟩
  rintro i k T H' hk ⟨w,U,V,hi,h1,A,j,l,n⟩
  simp(disch:=omega)only[↓wr,seval,wq,tB,h1,A,j,l,n,ah]
  apply ag.dec<;>intro B
  .have f:g.rules[i]?=some (g.rules[i]'(by omega)):=OI (by omega)
   rw[ef (show i < g.rules.length by omega)] at hi
   have o:g.rules[i]'(by omega)∈g.rules:=OW _
   generalize g.rules[i]'(by omega)=t at f hi o
   obtain⟨⟨W,X⟩,hp,F,G⟩:=p.aZ t o
   simp only[jE] at hi
   simp(disch:=omega)only[↓wr,seval,wq,h1,A,j,l,n,aS,encI,ON,f]
   intro b C
   repeat' (first | ((first|apply ag.dec|apply ag.eq|apply ag.ne|apply ag.split)<;>intro)|(refine aj.pure (oP _ _ _) ?_)|(refine aj.pure (JX g t p ⟨F,G⟩) ?_)|(simp(disch:=omega)only[↓wr,seval,wq,h1,A,j,l,n,ah,aS,encI,encS,set_set]))
   .rename_i z I
    have Y:0<=t.left/\t.left<=w:=by simpa using z
    rw[z,I,Pz,Pz] at hi
    have hw:IntKind.wrap .i64 (t.left+1)=t.left+1:=wrap64 (by omega) (by omega)
    refine ay hk (by omega) ⟨_,by split <;> omega,by split <;> (push_cast;omega),hi,h1,?_,j,l,rfl⟩
    show gi (if IntKind.wrap .i64 (t.left+1) > w then IntKind.wrap .i64 (t.left+1) else w)=_
    rw[hw]
   .rename_i z I
    rw[I,Bool.and_false,P2] at hi
    exact h _ hi.symm
   .rename_i z
    rw[z,P2,P2] at hi
    exact h _ hi.symm
  .rw[Po (by omega)] at hi
   simp only[jE] at hi
   simp(disch:=omega)only[↓wr,seval,wq,h1,A,j,l,n,ah,encS]
   exact h _ hi.symm
theorem FW (g:ai) (a:g.Ok) (b:g.af.length+g.ao.length<=1000):ar Tryz.prog 89 [.agg (ah g)] (gb (nG g)):=ar.val (dD g) (I8 g a b)
theorem Bz (g:ai):∀ (l:List aF) (next:Int),jE g l next=eQ g l (next - 1)
 | [],next=>by
  simp only[jE,eQ]
  rw[PI];simp
 | r :: l,next=>by
  simp only[jE,eQ,Bz g l]
  have a:(if r.left+1 > next then r.left+1 else next) - 1=if r.left > next - 1 then r.left else next - 1:=by
   split <;> split <;> omega
  have b:next - 1+1=next:=by omega
  rw[a,b]
theorem uI (s:ByteArray):∀ (l:List ByteArray) (i:Int),0<=i->(lg s l i < 0/\s ∉ l)∨∃ k:Nat,lg s l i=i+k/\l[k]?=some s/\∀ j < k,l[j]?≠some s
 | [],i,h=>.inl ⟨by simp[lg],by simp⟩
 | x :: l,i,h=>by
  have b:gD x s=true↔x=s:=by
   unfold gD
   rw[PB]
   constructor
   .intro e;cases x;cases s;simp at e;simp[e]
   .rintro rfl;rfl
  simp only[lg]
  by_cases e:x=s
  .rw[OM (b.2 e)]
   exact .inr ⟨0,by simp,by simp[e],by simp⟩
  .rw[OK (λh=>e (b.1 h))]
   rcases uI s l (i+1) (by omega) with ⟨h1,a⟩ | ⟨k,h1,a,c⟩
   .exact .inl ⟨h1,by simp[a,Ne.symm e]⟩
   .refine .inr ⟨k+1,by rw[h1];push_cast;omega,by simpa using a,λj d=>?_⟩
    cases j with
    | zero=>simp[e]
    | succ j=>simpa using c j (by omega)
theorem qa (l:List ByteArray):(∀ (k:Nat) (s:ByteArray),l[k]?=some s->lg s l 0=k)↔l.Nodup:=by
 constructor
 .intro h
  rw[P5,List.pairwise_iff_getElem]
  intro i j hi b d e
  have h1:=h i l[i] (by simp[hi])
  have a:=h j l[j] (by simp[b])
  rw[e] at h1
  omega
 .intro f k s hk
  rcases uI s l 0 (by omega) with ⟨_,a⟩ | ⟨j,h1,a,g⟩
  .exact absurd (O2 hk) a
  .have b:j < l.length:=by
    rcases Pn j l.length with h | h
    .exact h
    .simp[O5 h] at a
   have c:k < l.length:=by
    rcases Pn k l.length with h | h
    .exact h
    .simp[O5 h] at hk
   have:j=k:=(List.getElem_inj f).1 (by
    rw[OI b] at a;rw[OI c] at hk
    simp at a hk;rw[a,hk])
   rw[h1,this];simp
theorem bytes_inj {a b:ByteArray} : a.data.toList=b.data.toList↔a=b:=by
 constructor
 .intro h;cases a;cases b;simp at h;simp[h]
 .rintro rfl;rfl
theorem I7 {l:List ByteArray} : (names l).Nodup↔l.Nodup:=by
 unfold names
 rw[P5,QB,P5]
 constructor
 .exact λh=>h.imp λh e=>h (bytes_inj.2 e)
 .exact λh=>h.imp λh e=>h (bytes_inj.1 e)
theorem mS {α:Type} [BEq α] [LawfulBEq α]:∀ (l m:List α),l.Nodup->(∀ x∈l,x∈m)->l.length<=m.length
 | [],m,_,_=>by simp
 | x :: l,m,a,c=>by
  rw[Ps] at a
  have d:x∈m:=c x (by simp)
  have:=mS l (m.erase x) a.2 (λy e=>by
   have b:y≠x:=by rintro rfl;exact a.1 e
   exact(List.mem_erase_of_ne b).2 (c y (by simp[e])))
  rw[List.length_erase_of_mem d] at this
  have:0 < m.length:=List.length_pos_of_mem d
  simp only[OY]
  omega
def jl (n:Nat):List Int:=(List.range n).map λ(k:Nat)=>(k:Int)+1
theorem tb {n:Nat} {x:Int} : x∈jl n↔1<=x/\x<=n:=by
 simp only[jl,O9,Pm]
 constructor
 .rintro⟨k,hk,rfl⟩;omega
 .rintro⟨h1,a⟩;exact⟨(x - 1).toNat,by omega,by omega⟩
theorem BR (n:Nat):(jl n).Nodup:=by
 rw[jl,P5,QB]
 exact(List.nodup_range (n:=n)).imp λh e=>h (by omega)
theorem LX {l:List Int} {n:Nat} (b:l.Nodup) (c:∀ x∈l,1<=x/\x<=n) (f:l.length=n) {x:Int} (h1:1<=x) (d:x<=n):x∈l:=by
 refine Pd λe=>?_
 have:=mS (x :: l) (jl n) (Ps.2 ⟨e,b⟩) (λy a=>by
  rw[tb]
  rcases O1.1 a with rfl | a
  .exact⟨h1,d⟩
  .exact c y a)
 simp[jl] at this
 omega
theorem rW (n:Int):∀ (l:List Term) (w:Int),w≠0->gh n l w=if (∀ t∈l,t.level=n->t.assoc=w) then some w else none
 | [],w,_=>by simp[gh]
 | t :: r,w,hw=>by
  simp only[gh]
  by_cases a:t.level=n
  .rw[OM a]
   by_cases b:w=t.assoc
   .rw[OK (by simp[b]),<-b,rW n r w hw]
    congr 1
    simp[a,b]
   .rw[OM ⟨hw,b⟩,OK (λh=>b (h t (by simp) a).symm)]
  .rw[OK a,rW n r w hw]
   congr 1
   simp[a]
theorem yi (n:Int):∀ (l:List Term),(∀ t∈l,t.level=n->t.assoc≠0)->(eR l n=true↔∃ a,(∃ t∈l,t.level=n)/\∀ t∈l,t.level=n->t.assoc=a)
 | [],_=>by simp[eR,gh]
 | t :: r,h=>by
  by_cases c:t.level=n
  .have g:=h t (by simp) c
   have e:eR (t :: r) n=match (if (∀ u∈r,u.level=n->u.assoc=t.assoc) then some t.assoc else none) with | some w=>w != 0 | none=>false:=by
    simp only[eR,gh]
    rw[OM c,OK (by simp),rW n r _ g]
    rfl
   rw[e]
   by_cases hr:∀ u∈r,u.level=n->u.assoc=t.assoc
   .rw[OM hr]
    simp only[QD,ne_eq,g,not_false_eq_true,true_iff]
    refine⟨t.assoc,⟨t,by simp,c⟩,λu hu b=>?_⟩
    rcases O1.1 hu with rfl | hu
    .rfl
    .exact hr u hu b
   .rw[OK hr]
    simp only[Pb,false_iff]
    rintro⟨a,_,d⟩
    exact hr λu hu b=>(d u (by simp[hu]) b).trans (d t (by simp) c).symm
  .have i:=yi n r (λu hu=>h u (by simp[hu]))
   have e:eR (t :: r) n=eR r n:=by
    simp only[eR,gh,OK c]
   rw[e,i]
   constructor
   .rintro⟨a,⟨u,hu,b⟩,d⟩
    refine⟨a,⟨u,by simp[hu],b⟩,λv f b=>?_⟩
    rcases O1.1 f with rfl | f
    .exact absurd b c
    .exact d v f b
   .rintro⟨a,⟨u,hu,b⟩,d⟩
    rcases O1.1 hu with rfl | hu
    .exact absurd b c
    .exact⟨a,⟨u,hu,b⟩,λv f=>d v (by simp[f])⟩
def rE (l:List Term):Prop:=∀ t∈l,∀ u∈l,t.level=u.level->t.level≠0->t.assoc=u.assoc
theorem B6 {κ β:Type} [BEq κ] [LawfulBEq κ] {k:κ} {v:β} : ∀ {a:List (κ × β)},(a.map (·.1)).Nodup->((jc k v a).map (·.1)).Nodup/\∀ x,x∈(jc k v a).map (·.1)↔x=k∨x∈a.map (·.1)
 | [],_=>by simp[jc]
 | y :: a,h=>by
  simp only[Pa,Ps] at h
  obtain⟨h1,b⟩:=B6 (k:=k) (v:=v) h.2
  simp only[jc]
  by_cases e:k=y.1
  .simp only[e,beq_self_eq_true,if_true,Pa,Ps]
   refine⟨h,λx=>by simp[e]⟩
  .have:(k == y.1)=false:=by simp[e]
   rw[this]
   simp only[Pb,if_false,Pa,Ps,O1]
   refine⟨⟨λhm=>?_,h1⟩,λx=>?_⟩
   .rcases (b _).1 hm with e' | hm
    .exact e e'.symm
    .exact h.1 hm
   .rw[b]
    constructor
    .rintro (h | h | h) <;> simp[h]
    .rintro (h | h | h) <;> simp[h]
theorem ux:∀ (l:List Term) (a:List (Int × Int)) (top:Int),(∀ t∈l,t.level≠0->t.assoc≠0)->(∀ n v,dA a n=some v->v≠0)->(a.map (·.1)).Nodup ->
  match jX l a top with
  | some (z,b)=>rE l/\(∀ t∈l,∀ v,t.level≠0->dA a t.level=some v->t.assoc=v)/\(z.map (·.1)).Nodup/\(∀ n,n∈z.map (·.1)↔n∈a.map (·.1)∨(n≠0/\∃ t∈l,t.level=n)) /\
    top<=b/\(∀ t∈l,t.level≠0->t.level<=b)/\(b=top∨∃ t∈l,t.level=b/\t.level≠0)
  | none=>¬ (rE l/\∀ t∈l,∀ v,t.level≠0->dA a t.level=some v->t.assoc=v)
 | [],a,top,_,_,A=>by
  simp only[jX]
  exact⟨λt c=>by simp at c,λt c=>by simp at c,A,λn=>by simp,by omega,λt c=>by simp at c,by simp⟩
 | t :: r,a,top,E,B,A=>by
  have p:∀ u∈r,u.level≠0->u.assoc≠0:=λu hu=>E u (by simp[hu])
  simp only[jX]
  by_cases c:t.level=0
  .rw[OM c]
   have g:=ux r a top p B A
   have one:rE (t :: r)↔rE r:=by
    constructor
    .exact λh u hu w hw=>h u (by simp[hu]) w (by simp[hw])
    .intro h u hu w hw e d
     rcases O1.1 hu with rfl | hu
     .exact absurd c d
     .rcases O1.1 hw with rfl | hw
      .exact absurd (e.trans c) d
      .exact h u hu w hw e d
   have q:(∀ u∈t :: r,∀ v,u.level≠0->dA a u.level=some v->u.assoc=v)↔∀ u∈r,∀ v,u.level≠0->dA a u.level=some v->u.assoc=v:=by
    simp[c]
   have mem:∀ n,(n≠0/\∃ u∈t :: r,u.level=n)↔(n≠0/\∃ u∈r,u.level=n):=λn=>by
    constructor
    .rintro⟨h1,u,hu,rfl⟩
     rcases O1.1 hu with rfl | hu
     .exact absurd c h1
     .exact⟨h1,u,hu,rfl⟩
    .rintro⟨h1,u,hu,rfl⟩;exact⟨h1,u,by simp[hu],rfl⟩
   cases s:jX r a top with
   | none=>rw[s] at g;rw[one,q];exact g
   | some x =>
    obtain⟨z,b⟩:=x
    rw[s] at g
    obtain⟨i1,i2,i3,i4,i5,i6,i7⟩:=g
    refine⟨one.2 i1,q.2 i2,i3,λn=>by rw[i4,mem],i5,?_,?_⟩
    .intro u hu d
     rcases O1.1 hu with rfl | hu
     .exact absurd c d
     .exact i6 u hu d
    .rcases i7 with h | ⟨u,hu,h⟩
     .exact .inl h
     .exact .inr ⟨u,by simp[hu],h⟩
  .rw[OK c]
   have H:=E t (by simp) c
   by_cases j:(dA a t.level).getD 0≠0/\(dA a t.level).getD 0≠t.assoc
   .rw[OM j]
    simp only
    rintro⟨_,o⟩
    cases hp:dA a t.level with
    | none=>simp[hp] at j
    | some v =>
     have:=o t (by simp) v c hp
     simp[hp] at j
     exact j.2 this.symm
   .rw[OK j]
    have i:∀ v,dA a t.level=some v->t.assoc=v:=λv hp=>by
     have:=B _ _ hp
     simp[hp] at j
     exact(j this).symm
    have f:∀ n,dA (jc t.level t.assoc a) n=if n=t.level then some t.assoc else dA a n:=λn=>by
     rw[B1];simp
    have hk:=B6 (k:=t.level) (v:=t.assoc) A
    have g:=ux r (jc t.level t.assoc a) (if t.level > top then t.level else top) p (λn v hp=>by
     rw[f] at hp
     split at hp
     .simp at hp;rw[<-hp];exact H
     .exact B n v hp) hk.1
    have both:(rE (t :: r)/\∀ u∈t :: r,∀ v,u.level≠0->dA a u.level=some v->u.assoc=v)↔(rE r/\∀ u∈r,∀ v,u.level≠0->dA (jc t.level t.assoc a) u.level=some v->u.assoc=v):=by
     constructor
     .rintro⟨h1,o⟩
      refine⟨λu hu w hw=>h1 u (by simp[hu]) w (by simp[hw]),λu hu v d hp=>?_⟩
      rw[f] at hp
      split at hp
      .rename_i e
       simp at hp;rw[<-hp]
       exact h1 u (by simp[hu]) t (by simp) e d
      .exact o u (by simp[hu]) v d hp
     .rintro⟨h1,o⟩
      have C:∀ u∈r,u.level=t.level->u.assoc=t.assoc:=λu hu e=>o u hu t.assoc (by rw[e];exact c) (by rw[f,OM e])
      refine⟨λu hu w hw e d=>?_,λu hu v d hp=>?_⟩
      .rcases O1.1 hu with F | y
       .rcases O1.1 hw with D | m
        .rw[F,D]
        .rw[F] at e ⊢
         exact(C w m e.symm).symm
       .rcases O1.1 hw with D | m
        .rw[D] at e ⊢
         exact C u y e
        .exact h1 u y w m e d
      .rcases O1.1 hu with rfl | hu
       .exact i v hp
       .by_cases e:u.level=t.level
        .rw[C u hu e];exact i v (by rw[<-e];exact hp)
        .exact o u hu v d (by rw[f,OK e];exact hp)
    have G:top<=(if t.level > top then t.level else top)/\t.level<=(if t.level > top then t.level else top):=by split <;> omega
    cases s:jX r (jc t.level t.assoc a) (if t.level > top then t.level else top) with
    | none=>rw[s] at g;simp only;rw[both];exact g
    | some x =>
     obtain⟨z,b⟩:=x
     rw[s] at g
     obtain⟨i1,i2,i3,i4,i5,i6,i7⟩:=g
     obtain⟨I,J⟩:=both.2 ⟨i1,i2⟩
     refine⟨I,J,i3,λn=>?_,by omega,?_,?_⟩
     .rw[i4,hk.2]
      constructor
      .rintro ((rfl | h) | ⟨h1,u,hu,h⟩)
       .exact .inr ⟨c,t,by simp,rfl⟩
       .exact .inl h
       .exact .inr ⟨h1,u,by simp[hu],h⟩
      .rintro (h | ⟨h1,u,hu,h⟩)
       .exact .inl (.inr h)
       .rcases O1.1 hu with rfl | hu
        .exact .inl (.inl h.symm)
        .exact .inr ⟨h1,u,hu,h⟩
     .intro u hu d
      rcases O1.1 hu with rfl | hu
      .omega
      .exact i6 u hu d
     .rcases i7 with h | ⟨u,hu,h⟩
      .by_cases e:t.level > top
       .rw[OM e] at h;exact .inr ⟨t,by simp,h.symm,c⟩
       .rw[OK e] at h;exact .inl h
      .exact .inr ⟨u,by simp[hu],h⟩
theorem xq (l:List Term) (h:∀ t∈l,iD t=true):oY l=true↔∀ t∈l,∀ n:Int,1<=n->n<=t.level->eR l n=true:=by
 have g:∀ t∈l,0<=t.level/\(t.level≠0->t.assoc≠0):=λt b=>by
  have:=h t b
  simp only[iD,OO,OT,PB] at this
  refine⟨this.1.1.1.1.2,λh1 i=>?_⟩
  have e:=this.2
  simp[h1,i] at e
 have m:=ux l [] 0 (λt b=>(g t b).2) (by simp[dA]) (by simp)
 have o:∀ n:Int,1<=n->(eR l n=true↔∃ a,(∃ t∈l,t.level=n)/\∀ t∈l,t.level=n->t.assoc=a):=λn y=>yi n l (λt b e=>(g t b).2 (by omega))
 unfold oY
 cases f:jX l [] 0 with
 | none =>
  rw[f] at m
  simp only[Pb,false_iff]
  intro c
  refine m ⟨λt b u hu e p=>?_,λt b v _ hp=>by simp[dA] at hp⟩
  have h1:=g t b
  obtain⟨a,_,i⟩:=(o t.level (by omega)).1 (c t b t.level (by omega) (by omega))
  exact(i t b rfl).trans (i u hu e.symm).symm
 | some x =>
  obtain⟨a,top⟩:=x
  rw[f] at m
  obtain⟨i1,_,i3,i4,i5,i6,i7⟩:=m
  simp only[PB]
  have d:∀ n,n∈a.map (·.1)↔n≠0/\∃ t∈l,t.level=n:=λn=>by rw[i4];simp
  have j:∀ x∈a.map (·.1),1<=x/\x<=(top.toNat:Int):=λx f=>by
   obtain⟨h1,t,b,rfl⟩:=(d x).1 f
   have:=(g t b).1
   have:=i6 t b h1
   omega
  constructor
  .intro hlen t b n k r
   have q:t.level<=top:=i6 t b (by omega)
   have hm:=LX i3 j (by simp;omega) k (show n<=(top.toNat:Int) by omega)
   obtain⟨p,u,hu,rfl⟩:=(d n).1 hm
   exact(o _ k).2 ⟨u.assoc,⟨u,hu,rfl⟩,λw hw e=>i1 w hw u hu e (by omega)⟩
  .intro c
   have h1:a.length<=top.toNat:=by
    have:=mS _ (jl top.toNat) i3 (λx f=>tb.2 (j x f))
    simpa [jl] using this
   have i:top.toNat<=a.length:=by
    rcases i7 with e | ⟨t,b,e,p⟩
    .subst e;simp
    .have:=mS (jl top.toNat) (a.map (·.1)) (BR _) (λx f=>by
      rw[tb] at f
      have:=(g t b).1
      obtain⟨_,⟨u,hu,s⟩,_⟩:=(o x f.1).1 (c t b x f.1 (by omega))
      exact(d x).2 ⟨by omega,u,hu,s⟩)
     simpa [jl] using this
   omega
theorem xY (g:ai):∀ (l:List Term) (i:Int),gJ g l i=true↔∀ (k:Nat) (t:Term),l[k]?=some t->gX g (i+k) t=true
 | [],i=>by simp[gJ]
 | t :: r,i=>by
  simp only[gJ,OO,xY g r (i+1)]
  constructor
  .rintro⟨h1,a⟩ k u hk
   cases k with
   | zero=>simp at hk;subst hk;simpa using h1
   | succ k =>
    have:=a k u (by simpa using hk)
    rw[show i+((k+1:Nat):Int)=i+1+k by push_cast;omega];exact this
  .intro h
   refine⟨by simpa using h 0 t rfl,λk u hk=>?_⟩
   have:=h (k+1) u (by simpa using hk)
   rw[show i+1+(k:Int)=i+((k+1:Nat):Int) by push_cast;omega];exact this
theorem qo (g:ai):∀ (l:List ByteArray) (i:Int),ov g l i=true↔∀ (k:Nat) (s:ByteArray),l[k]?=some s->jd g (i+k) s=true
 | [],i=>by simp[ov]
 | t :: r,i=>by
  simp only[ov,OO,qo g r (i+1)]
  constructor
  .rintro⟨h1,a⟩ k u hk
   cases k with
   | zero=>simp at hk;subst hk;simpa using h1
   | succ k =>
    have:=a k u (by simpa using hk)
    rw[show i+((k+1:Nat):Int)=i+1+k by push_cast;omega];exact this
  .intro h
   refine⟨by simpa using h 0 t rfl,λk u hk=>?_⟩
   have:=h (k+1) u (by simpa using hk)
   rw[show i+1+(k:Int)=i+((k+1:Nat):Int) by push_cast;omega];exact this
theorem AG (g:ai) (s:ByteArray):jL g s < 0↔s ∉ g.ao.map Term.name:=by
 unfold jL
 rcases uI s (g.ao.map Term.name) 0 (by omega) with ⟨h1,a⟩ | ⟨k,h1,a,_⟩
 .exact⟨λ_=>a,λ_=>h1⟩
 .constructor
  .intro h;omega
  .intro h;exact absurd (O2 a) h
theorem zG (g:ai) (t:Term):oE g t=true↔∀ n:Int,1<=n->n<=t.level->eR g.ao n=true:=by
 simp only[oE,O7,Pm]
 constructor
 .intro h n h1 a
  have:=h (n - 1).toNat (by omega)
  rwa [show (((n - 1).toNat:Nat):Int)+1=n by omega] at this
 .intro h k hk
  exact h _ (by omega) (by omega)
theorem FM (g:ai):nG g=aA g:=by
 rw[PI]
 simp only[nG,aA,gN,im,pB,OO,OT,xY,qo,Bz,O7,Qz,List.any_eq_false,Bool.not_eq_true,I7,pw,List.nodup_append,Int.zero_add,Int.zero_sub,Bool.not_not]
 have q:(∀ (k:Nat) (t:Term),g.ao[k]?=some t->gX g k t=true)↔(∀ t∈g.ao,iD t=true)/\(g.ao.map Term.name).Nodup/\(∀ t∈g.ao,oE g t=true):=by
  rw[<-qa]
  constructor
  .intro h
   have i:∀ t∈g.ao,∃ k:Nat,g.ao[k]?=some t:=λt d=>List.getElem?_of_mem d
   refine⟨λt d=>?_,λk s hk=>?_,λt d=>?_⟩
   .obtain⟨k,hk⟩:=i t d
    have:=h k t hk
    simp only[gX,iD,OO,OT] at this ⊢
    simp[this]
   .rw[ON,OQ] at hk
    obtain⟨t,hk,rfl⟩:=hk
    have:=h k t hk
    simp only[gX,OO,PB] at this
    exact this.1.1.1.1.1.1.2
   .obtain⟨k,hk⟩:=i t d
    have:=h k t hk
    simp only[gX,OO] at this
    exact this.2
  .rintro⟨h1,j,l⟩ k t hk
   have hm:=O2 hk
   have a:=h1 t hm
   have b:=j k t.name (by rw[ON,hk];rfl)
   have c:=l t hm
   simp only[gX,iD,jL,OO,OT] at a ⊢
   simp[a,b,c]
 have r:(∀ (k:Nat) (s:ByteArray),g.af[k]?=some s->jd g k s=true)↔(∀ s∈g.af,ew (dL s)=true)/\g.af.Nodup/\(∀ s∈g.af,s ∉ g.ao.map Term.name):=by
  rw[<-qa]
  constructor
  .intro h
   have i:∀ t∈g.af,∃ k:Nat,g.af[k]?=some t:=λt d=>List.getElem?_of_mem d
   refine⟨λt d=>?_,λk s hk=>?_,λt d=>?_⟩
   .obtain⟨k,hk⟩:=i t d
    have:=h k t hk
    simp only[jd,OO] at this
    exact this.1.1
   .have:=h k s hk
    simp only[jd,tM,OO,PB] at this
    exact this.1.2
   .obtain⟨k,hk⟩:=i t d
    have:=h k t hk
    simp only[jd,OO,OT] at this
    exact(AG g t).1 this.2
  .rintro⟨h1,j,l⟩ k s hk
   have hm:=O2 hk
   have a:=h1 s hm
   have b:=j k s hk
   have c:=(AG g s).2 (l s hm)
   simp[jd,tM,a,b,c]
 rw[q,r]
 constructor
 .rintro⟨⟨⟨⟨⟨⟨⟨⟨t1,t2⟩,t3⟩,v,w⟩,x,y⟩,m,a2,a3⟩,s1,s2⟩,n⟩,o⟩
  have p:=(xq g.ao t1).1 t3
  exact⟨⟨⟨⟨⟨⟨⟨t2,t1,a2,λt d=>(zG g t).2 (p t d)⟩,⟨by omega,by omega⟩,λs f=>by simpa using n s f,m,λs f hm=>a3 s f s hm rfl⟩,by omega⟩,by omega⟩,s1⟩,by omega⟩,o⟩
 .rintro⟨⟨⟨⟨⟨⟨⟨t2,t1,a2,t3⟩,⟨v,w⟩,n,m,a3⟩,x⟩,y⟩,s1⟩,s2⟩,o⟩
  have p:=(xq g.ao t1).2 (λt d=>(zG g t).1 (t3 t d))
  exact⟨⟨⟨⟨⟨⟨⟨⟨t1,t2⟩,p⟩,by omega,by omega⟩,by omega,by omega⟩,m,a2,λs f u hu e=>a3 s f (e ▸ hu)⟩,s1,by omega⟩,λs f=>by simp[n s f]⟩,o⟩
theorem tS (g:ai) (a:g.Ok) (b:g.af.length+g.ao.length<=1000):ar Tryz.prog 89 [.agg (ah g)] (gb (aA g)):=by
 rw[<-FM];exact FW g a b
def IU (n:Nat) (r:aF):Prop:=bm r.left/\0<=r.left/\r.left < n/\r.right.length<=6/\∀ s∈r.right,bm s/\(s < 0->-1 - s < n)
theorem ai.qz.BG {g:ai} (a:g.Ok) (h:g.qz) {r:aF} (hr:r∈g.rules):IU g.af.length r :=
 ⟨(a.aZ r hr).1,(h.left r hr).1,(h.left r hr).2,h.right r hr,λs b=>⟨(a.aZ r hr).2.2.2 s b,λc=>h.neg hr b c⟩⟩
def tG:SF:=⟨ae [ab [bb 2 false],ab [aa 3 0,ax 4 .geq 3 0,aa 2 4],.ret],
 [.tmp 2],5⟩
theorem wv:aE Tryz.prog 235 []=some tG:=by kernel_rfl
def vB:SF:=⟨ae [ab [cE 1 0,bb 2 false],ab [av 3 1 1,ak 4 3,jG 5 90 [(.tmp 4),(.val (.fn 235 [] []))],bS 6 5,aa 2 6],.ret],
 [.tmp 2],7⟩
theorem yN:aE Tryz.prog 175 [1]=some vB:=by kernel_rfl
def qh:SF:=⟨ae [ab [bb 3 false],.region false [⟨none,[aa 4 0,ax 5 .lss 4 0,aa 6 5]⟩,⟨(some (6,true)),[ak 7 1,aa 8 0,((some 9),.op (.arith .sub (.val (.val (.int .i64 (-1)))) (.tmp 8))),aW 10 1 7 9,ak 11 10,bS 12 11]⟩,⟨none,[bV 13 6 12,aa 3 13]⟩],.ret],
 [.tmp 3],14⟩
theorem tX:aE Tryz.prog 228 []=some qh:=by kernel_rfl
def tj:SF:=⟨ae [ab [cE 2 0,cE 3 1,bb 4 false],ab [av 5 1 2,ak 6 5,((some 7),.op (.sH 228 [] [(.tmp 3)])),aJ 8 90 [6,7],bS 9 8,aa 4 9],.ret],
 [.tmp 4],10⟩
theorem wU:aE Tryz.prog 164 [2,3]=some tj:=by kernel_rfl
def nW:SF:=⟨ae [ab [cE 2 0,cp 4 1],ae [.region false [⟨none,[ba 5 3 2,aJ 6 175 [5],aa 7 6]⟩,⟨(some (7,true)),[ba 8 3 2,aa 9 1,aJ 10 164 [8,9]]⟩,⟨none,[bV 11 7 10]⟩],bc 11 (ae [ab [av 12 0 2,ak 13 12,((some 14),.op (.bM 1 1 [(.val (.int .i64 0))] [(0,(.tmp 13))])),aa 4 14],.ret])],ab [cp 4 1],.ret],
 [.tmp 4],15⟩
theorem sn:aE Tryz.prog 174 [2]=some nW:=by kernel_rfl
theorem Iw (r:aF):∀ v∈[V.agg (aS r)],Tree v:=by intro v a;simp at a;subst a;exact cW _ (ic r)
theorem CS (r:aF) (is:List Bool):∀ v∈[V.agg (aS r),bh is],Tree v:=by
 intro v a;simp at a
 rcases a with rfl | rfl
 .exact cW _ (ic r)
 .exact gv is
theorem JD (x:Int):ar Tryz.prog 235 [gi x] (gb (decide (0<=x))):=by
 refine ar.val (tJ (l:=[.int .i64 x])) λH=>?_
 refine an.of mixed wv ?_
 simp(disch:=omega)only[↓wr,seval,wq,tG]
theorem L0 (r:aF) (hr:aG r.right):ar Tryz.prog 175 [.agg (aS r)] (gb (!r.right.any λs=>decide (0<=s))):=by
 refine ar.val (Iw r) λH=>?_
 refine an.of mixed yN ?_
 simp(disch:=omega)only[↓wr,seval,wq,vB,aS,encI]
 refine aj.pure (gH r.right hr 235 [] (by simp) (λs=>decide (0<=s)) (λx _=>JD x) (by kernel_rfl)) ?_
 simp(disch:=omega)only[↓wr,seval,wq]
def y9 (is:List Bool) (s:Int):Bool:=decide (s < 0) && !is.getD (-1 - s).toNat false
theorem FQ (is:List Bool) (s:Int) (e:bm s/\(s < 0->-1 - s < is.length)):ar Tryz.prog 228 [gi s,.aC [bh is] 0] (gb (y9 is s)):=by
 refine ar.val ?_ λH=>?_
 .intro v a;simp at a
  rcases a with rfl | rfl
  .exact .val _
  .exact gu (by intro v a;simp at a;subst a;exact gv is)
 obtain⟨⟨h1,f⟩,g⟩:=e
 refine an.of mixed tX ?_
 simp(disch:=omega)only[↓wr,seval,wq,qh,bh]
 apply ag.dec<;>intro h
 .have d:is[(-1 - s).toNat]?=some (is[(-1 - s).toNat]'(by omega)):=OI (by omega)
  have c:is.getD (-1 - s).toNat false=is[(-1 - s).toNat]'(by omega):=by simp[OH,d]
  generalize is[(-1 - s).toNat]'(by omega)=b at d c
  simp(disch:=omega)only[↓wr,seval,wq,ON,d]
  simp only[y9,c,h,decide_true,Pz]
 .simp(disch:=omega)only[↓wr,seval,wq]
  simp[y9,h]
theorem GJ {is:List Bool} {l:List Int} : (!l.any (y9 is))=bw l is true:=by
 simp only[bw,List.not_any_eq_all_not]
 congr 1
 funext s
 simp only[y9]
 by_cases h:0<=s
 .simp[h,show ¬ s < 0 by omega]
 .simp[h,show s < 0 by omega]
theorem GZ (r:aF) (is:List Bool) (hr:aG r.right) (b:∀ s∈r.right,bm s/\(s < 0->-1 - s < is.length)):ar Tryz.prog 164 [.agg (aS r),bh is] (gb (bw r.right is true)):=by
 rw[<-GJ]
 refine ar.val (CS r is) λH=>?_
 refine an.of mixed wU ?_
 simp(disch:=omega)only[↓wr,seval,wq,tj,aS,bh,encI]
 refine aj.pure (gH r.right hr 228 [.aC [bh is] 0] (by
  intro v a;simp at a;subst a
  exact gu (by intro v a;simp at a;subst a;exact gv is)) (y9 is) (λx c=>FQ is x (b x c)) (by kernel_rfl)) ?_
 simp(disch:=omega)only[↓wr,seval,wq]
theorem Db {is:List Bool} {l:List Int} : ((!l.any λs=>decide (0<=s)) && bw l is true)=bw l is false:=by
 induction l with
 | nil=>rfl
 | cons s l a =>
  simp only[bw,PH,List.any_cons] at a ⊢
  rw[<-a]
  by_cases h:0<=s
  .simp[h]
  .simp only[h,decide_false,Qn,if_false]
   cases (l.any λs=>decide (0<=s)) <;> simp
theorem wK {h:aw} {u:V} {l:List Int} (a:aO h.view u 1 (l.map λx=>[gi x])):de h u (encI l):=de.yV (f:=Value.int .i64) a
theorem Bv (r:aF) (is:List Bool) (hr:IU is.length r):cJ Tryz.prog 174 [.agg (aS r),bh is] (encI (if bw r.right is false=true then [r.left] else [])):=by
 obtain⟨f,_,_,c,d⟩:=hr
 have a:aG r.right:=by unfold aG;omega
 refine cJ.of (CS r is) ?_
 refine an.of mixed sn ?_
 rw[<-Db]
 simp(disch:=omega)only[↓wr,seval,wq,nW,aS,encI]
 refine aj.pure (L0 r a) ?_
 repeat' (first | ((first|apply ag.dec|apply ag.eq|apply ag.ne|apply ag.split)<;>intro)|(refine aj.pure (GZ r is a d) ?_)|(simp(disch:=omega)only[↓wr,seval,wq,aS,encI]))
 all_goals first
  | (intro n e b;rw[OM (by simp[*])];exact wK (l:=[r.left]) (.inr ⟨n,rfl,by rw[b];simp[View.set]⟩))
  | (intro e b;rw[OK (by simp[*])];exact .emp _)
def Cq (l:List Int):List Int:=(l.filter λs=>decide (s < 0)).map λs=>-1 - s
end Gv
