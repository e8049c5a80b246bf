/-
  Part 8 of the proof: what the machine does and what the functions answer.
  Conditions: those that each lemma names.
-/
import Derived.Shelf.SlIter.Sorted
import Derived.Shelf.SortM.Plain
import Derived.Shelf.SortM.SortNone
import Derived.Shelf.SlicesG.CompactS
import Derived.Test.YtihmlbdfcmfbdaaGreatSGzB3G
set_option linter.unusedSimpArgs false
set_option linter.unusedVariables false
set_option maxRecDepth 100000
set_option maxHeartbeats 20000000
namespace Gv
open Go Go.Proofs
def cR {α:Type} (p:α->Bool):List α->Int->Int
 | [],_=>-1
 | x :: l,i=>if p x then i else cR p l (i+1)
theorem vc {α:Type} (p:α->Bool):∀ (l:List α) (i:Int),0<=i->decide (0<=cR p l i)=l.any p
 | [],_,_=>by simp[cR]
 | x :: l,i,h=>by
  have a:=vc p l (i+1) (by omega)
  rw[List.any_cons,cR]
  by_cases hp:p x=true
  .rw[Zn hp,hp];simp[h]
  .rw[Zk hp,a];simp[hp]
theorem F2 {f:FuncId} {xs cap:List V} (h:∀ v∈xs,Tree v) (b:∀ v∈cap,Tree v):Tree (.fn f xs cap):=by
 refine .fn _ _ _ (λi hi=>?_) (λi hi=>?_)
 .have a:xs.getD i .any=xs[i]:=by simp[Zi,hi]
  rw[a];exact h _ (Zs _)
 .have a:cap.getD i .any=cap[i]:=by simp[Zi,hi]
  rw[a];exact b _ (Zs _)
def gv:SC :=
 ae [ab [aS 9 .lss 8 7],bT 9 (.exit 0),.block 1 (ae [ab [aa 10 8,aa 5 10],ab [aa 11 1,aa 12 0,aa 13 5,aH 14 1 12 13,ai 15 14,((some 16),.call (.tmp 11) [(.tmp 15)])],bc 16 (ae [ab [aa 17 5,aa 4 17],.ret])]),ab [aG 18 .add 8 1,aa 8 18]]
def gN:SF:=⟨ae [ab [aQ 4 0],ae [ab [aa 6 0,aP 7 6,aQ 8 0],bU 0 gv],ab [aQ 4 (-1)],.ret],
 [.tmp 4],19⟩
theorem jq:aN Tryz.prog 133 []=some gN:=by kernel_rfl
def gf:SF:=⟨ae [ab [bz 4 false],ab [aa 5 0,aa 6 1,bh 7 133 [5,6],aG 8 .geq 7 0,aa 4 8],.ret],
 [.tmp 4],9⟩
theorem iM:aN Tryz.prog 91 []=some gf:=by kernel_rfl
def ik:SC :=
 ae [ab [aS 9 .lss 8 7],bT 9 (.exit 0),.block 1 (ae [ab [aa 10 8,aa 5 10],ab [aa 11 1,aa 12 0,aa 13 5,aH 14 1 12 13,ai 15 14,((some 16),.call (.tmp 11) [(.tmp 15)])],bc 16 (ae [ab [aa 17 5,aa 4 17],.ret])]),ab [aG 18 .add 8 1,aa 8 18]]
def iL:SF:=⟨ae [ab [aQ 4 0],ae [ab [aa 6 0,aP 7 6,aQ 8 0],bU 0 ik],ab [aQ 4 (-1)],.ret],
 [.tmp 4],19⟩
theorem lp:aN Tryz.prog 146 []=some iL:=by kernel_rfl
def gW:SF:=⟨ae [ab [bz 4 false],ab [aa 5 0,aa 6 1,bh 7 146 [5,6],aG 8 .geq 7 0,aa 4 8],.ret],
 [.tmp 4],9⟩
theorem km:aN Tryz.prog 100 []=some gW:=by kernel_rfl
theorem IB (l:List Int) (hl:aJ l) (f:FuncId) (cap:List V) (p:Int->Bool) (g:∀ x∈l,az Tryz.prog f (gi x :: cap) (gb (p x))) (d:dS Tryz.prog f=true) (H:View) :
  au Tryz.prog 133 [encI l,.fn f [] cap] H λr _=>r=gi (cR p l 0):=by
 refine au.of mixed jq ?_
 unfold aJ at hl
 simp(disch:=omega)only[↓wr,seval,wq,gN,encI]
 refine aR.up l.length (λi T _=>cR p (l.drop i) i=cR p l 0/\T 0=encI l/\T 1=.fn f [] cap/\T 7=gi l.length/\T 8=gi i) ⟨rfl,rfl,rfl,rfl,rfl⟩ ?_
 rintro i k T H hk ⟨hi,a,h1,b,c⟩
 simp(disch:=omega)only[↓wr,seval,wq,gv,a,h1,b,c,encI]
 apply ah.dec<;>intro h
 .have e:l[i]?=some (l[i]'(by omega)):=Zj (by omega)
  have hm:l[i]'(by omega)∈l:=Zs _
  rw[fw (show i < l.length by omega)] at hi
  generalize l[i]'(by omega)=x at e hm hi
  simp(disch:=omega)only[↓wr,seval,wq,a,h1,b,c,encI,Zm,e]
  refine ax.pure (g x hm) ?_ d
  simp only[cR] at hi
  repeat' (first | ((first|apply ah.dec|apply ah.eq|apply ah.ne|apply ah.split)<;>intro)|(simp(disch:=omega)only[↓wr,seval,wq,a,h1,b,c]))
  .rename_i hp
   rw[<-hi,Zn hp]
  .rename_i hp
   refine aE hk (by omega) ⟨?_,a,h1,b,rfl⟩
   rw[Zk (by simp[hp])] at hi
   push_cast;exact hi
 .rw[ZQ (by omega)] at hi
  simp(disch:=omega)only[↓wr,seval,wq,a,h1,b,c]
  rw[<-hi];rfl
theorem B4 {l:List Int} {f:FuncId} {cap:List V} (a:∀ v∈cap,Tree v):∀ v∈[encI l,.fn f [] cap],Tree v:=by
 intro v b;simp at b
 rcases b with rfl | rfl
 .exact ew l
 .exact F2 (by simp) a
theorem oo (l:List Int) (hl:aJ l) (f:FuncId) (cap:List V) (a:∀ v∈cap,Tree v) (p:Int->Bool) (c:∀ x∈l,az Tryz.prog f (gi x :: cap) (gb (p x))) (b:dS Tryz.prog f=true) :
  az Tryz.prog 91 [encI l,.fn f [] cap] (gb (l.any p)):=by
 refine az.val (B4 a) λH=>?_
 refine au.of mixed iM ?_
 simp(disch:=omega)only[↓wr,seval,wq,gf]
 refine ax.pure (az.val (B4 a) (IB l hl f cap p c b)) ?_
 simp(disch:=omega)only[↓wr,seval,wq]
 rw[<-vc p l 0 (by omega)]
theorem Iv (l:List ByteArray) (hl:aJ l) (f:FuncId) (cap:List V) (p:ByteArray->Bool) (g:∀ x∈l,az Tryz.prog f (gs x :: cap) (gb (p x))) (d:dS Tryz.prog f=true) (H:View) :
  au Tryz.prog 146 [encS l,.fn f [] cap] H λr _=>r=gi (cR p l 0):=by
 refine au.of mixed lp ?_
 unfold aJ at hl
 simp(disch:=omega)only[↓wr,seval,wq,iL,encS]
 refine aR.up l.length (λi T _=>cR p (l.drop i) i=cR p l 0/\T 0=encS l/\T 1=.fn f [] cap/\T 7=gi l.length/\T 8=gi i) ⟨rfl,rfl,rfl,rfl,rfl⟩ ?_
 rintro i k T H hk ⟨hi,a,h1,b,c⟩
 simp(disch:=omega)only[↓wr,seval,wq,ik,a,h1,b,c,encS]
 apply ah.dec<;>intro h
 .have e:l[i]?=some (l[i]'(by omega)):=Zj (by omega)
  have hm:l[i]'(by omega)∈l:=Zs _
  rw[fw (show i < l.length by omega)] at hi
  generalize l[i]'(by omega)=x at e hm hi
  simp(disch:=omega)only[↓wr,seval,wq,a,h1,b,c,encS,Zm,e]
  refine ax.pure (g x hm) ?_ d
  simp only[cR] at hi
  repeat' (first | ((first|apply ah.dec|apply ah.eq|apply ah.ne|apply ah.split)<;>intro)|(simp(disch:=omega)only[↓wr,seval,wq,a,h1,b,c]))
  .rename_i hp
   rw[<-hi,Zn hp]
  .rename_i hp
   refine aE hk (by omega) ⟨?_,a,h1,b,rfl⟩
   rw[Zk (by simp[hp])] at hi
   push_cast;exact hi
 .rw[ZQ (by omega)] at hi
  simp(disch:=omega)only[↓wr,seval,wq,a,h1,b,c]
  rw[<-hi];rfl
theorem Be {l:List ByteArray} {f:FuncId} {cap:List V} (a:∀ v∈cap,Tree v):∀ v∈[encS l,.fn f [] cap],Tree v:=by
 intro v b;simp at b
 rcases b with rfl | rfl
 .exact BT l
 .exact F2 (by simp) a
theorem C0 (l:List ByteArray) (hl:aJ l) (f:FuncId) (cap:List V) (a:∀ v∈cap,Tree v) (p:ByteArray->Bool) (c:∀ x∈l,az Tryz.prog f (gs x :: cap) (gb (p x))) (b:dS Tryz.prog f=true) :
  az Tryz.prog 100 [encS l,.fn f [] cap] (gb (l.any p)):=by
 refine az.val (Be a) λH=>?_
 refine au.of mixed km ?_
 simp(disch:=omega)only[↓wr,seval,wq,gW]
 refine ax.pure (az.val (Be a) (Iv l hl f cap p c b)) ?_
 simp(disch:=omega)only[↓wr,seval,wq]
 rw[<-vc p l 0 (by omega)]
theorem BE {l:List Value} : ∀ v∈l.map V.val,Tree v:=by
 intro v a;obtain⟨x,_,rfl⟩:=ZF.1 a;exact .val _
def Bm:SF:=⟨ae [ab [bz 6 false],.region false [⟨none,[aa 7 0,aa 8 1,aS 9 .geq 7 8,aa 10 9]⟩,⟨(some (10,true)),[aa 11 0,aa 12 2,aS 13 .leq 11 12]⟩,⟨none,[eF 14 10 13,aa 6 14]⟩],.ret],
 [.tmp 6],15⟩
theorem Ex:aN Tryz.prog 98 []=some Bm:=by kernel_rfl
def Ha:SF:=⟨ae [ab [aQ 2 0],ab [aa 3 0,((some 4),.op (.arith .sub (.val (.val (.int .i64 (-1)))) (.tmp 3))),aa 2 4],.ret],
 [.tmp 2],5⟩
theorem Kj:aN Tryz.prog 191 []=some Ha:=by kernel_rfl
def Hl:SF:=⟨ae [ab [cw 2 0,bz 4 false],ae [ab [aa 5 1,aG 6 .lss 5 0],bc 6 (ae [.region true [⟨none,[aa 7 1,bh 8 191 [7],ao 9 1 2,ai 10 9,aP 11 10,aS 12 .lss 8 11,aa 4 12]⟩],.ret])],ab [aa 13 1,ao 14 0 2,ai 15 14,aP 16 15,aS 17 .lss 13 16,aa 4 17],.ret],
 [.tmp 4],18⟩
theorem KF:aN Tryz.prog 150 [2]=some Hl:=by kernel_rfl
def AI:SF:=⟨ae [ab [bz 4 false],.region false [⟨none,[aT 5 4 1,aa 6 0,bh 7 150 [5,6],c6 8 7,aa 9 8]⟩,⟨(some (9,false)),[aa 10 0,aG 11 .geq 10 0,aa 12 11]⟩,⟨(some (12,true)),[ao 13 2 2,ai 14 13,aG 15 .eql 14 (-1)]⟩,⟨(some (9,false)),[eF 16 12 15]⟩,⟨none,[cD 17 9 16,aa 4 17]⟩],.ret],
 [.tmp 4],18⟩
theorem Ee:aN Tryz.prog 149 []=some AI:=by kernel_rfl
def Ef:SF:=⟨ae [ab [cw 2 0,cw 3 1,bz 4 false],ae [.region false [⟨none,[ao 5 1 3,ai 6 5,aP 7 6,aG 8 .gtr 7 6,aa 9 8]⟩,⟨(some (9,false)),[ao 10 2 3,ai 11 10,ao 12 0 2,ai 13 12,aP 14 13,aG 15 .sub 14 1,qb 16 98 [(.tmp 11),(.val (.val (.int .i64 (-1)))),(.tmp 15)],c6 17 16]⟩,⟨none,[cD 18 9 17]⟩],bc 18 (ae [ab [bz 4 false],.ret])],ab [ao 19 1 3,ai 20 19,((some 21),.op (.uS 149 [] [(.tmp 2),(.tmp 3)])),bh 22 91 [20,21],c6 23 22,aa 4 23],.ret],
 [.tmp 4],24⟩
theorem Iw:aN Tryz.prog 103 [2,3]=some Ef:=by kernel_rfl
theorem tJ (a b c:Int):az Tryz.prog 98 [gi a,gi b,gi c] (gb (decide (b<=a) && decide (a<=c))):=by
 refine az.val (BE (l:=[.int .i64 a,.int .i64 b,.int .i64 c])) λH=>?_
 refine au.of mixed Ex ?_
 repeat' (first | ((first|apply ah.dec|apply ah.eq|apply ah.ne|apply ah.split)<;>intro)|(simp(disch:=omega)only[↓wr,seval,wq,Bm]))
 all_goals simp[*]
theorem Wl (s:Int) (hs:cp s):az Tryz.prog 191 [gi s] (gi (-1 - s)):=by
 refine az.val (BE (l:=[.int .i64 s])) λH=>?_
 obtain⟨h1,a⟩:=hs
 refine au.of mixed Kj ?_
 repeat' (first | ((first|apply ah.dec|apply ah.eq|apply ah.ne|apply ah.split)<;>intro)|(simp(disch:=omega)only[↓wr,seval,wq,Ha]))
theorem WC (g:aj) (s:Int) (hs:cp s):az Tryz.prog 150 [.agg (ag g),gi s] (gb (fT g s)):=by
 refine az.val (JL g s) λH=>?_
 refine au.of mixed KF ?_
 repeat' (first | ((first|apply ah.dec|apply ah.eq|apply ah.ne|apply ah.split)<;>intro)|(refine ax.pure (Wl s hs) ?_)|(simp(disch:=omega)only[↓wr,seval,wq,Hl,ag,encS]))
 .rename_i h;simp[fT,show ¬ (0:Int)<=s by omega]
 .rename_i h;simp[fT,show (0:Int)<=s by omega]
theorem lV {cs:List V} {j:Nat} (h:∀ v∈cs,Tree v):Tree (.aI cs j):=by
 refine .aI _ _ λi hi=>?_
 have a:cs.getD i .any=cs[i]:=by simp[Zi,hi]
 rw[a];exact h _ (Zs _)
theorem PO (g:aj) (r:bu) (s:Int) (hs:cp s):az Tryz.prog 149 [gi s,.aI (ag g) 0,.aI (aO r) 0] (gb (!oz g r.prec s)):=by
 refine az.val ?_ λH=>?_
 .intro v a;simp at a
  rcases a with rfl | rfl | rfl
  .exact .val _
  .exact lV (cY g)
  .exact lV (iz r)
 refine au.of mixed Ee ?_
 simp(disch:=omega)only[↓wr,seval,wq,AI,ag]
 refine ax.pure (WC g s hs) ?_
 repeat' (first | ((first|apply ah.dec|apply ah.eq|apply ah.ne|apply ah.split)<;>intro)|(simp(disch:=omega)only[↓wr,seval,wq,aO]))
 all_goals simp[oz, *]
theorem Ub (g:aj) (r:bu) (e:g.Ok) (hr:aJ r.right/\∀ x∈r.right,cp x):az Tryz.prog 103 [.agg (ag g),.agg (aO r)] (gb (ju g r)):=by
 refine az.val (Ka g r) λH=>?_
 have f:=e.af
 unfold aJ at f
 refine au.of mixed Iw ?_
 repeat' (first | ((first|apply ah.dec|apply ah.eq|apply ah.ne|apply ah.split)<;>intro)|(refine ax.pure (tJ _ _ _) ?_)|(simp(disch:=omega)only[↓wr,seval,wq,Ef,ag,aO,encI,encS]))
 .rename_i h;simp[ju,show ¬ r.right.length<=6 by omega]
 .rename_i h1 b
  have c:r.right.length<=6:=by omega
  have a : -1<=r.prec/\r.prec < g.af.length:=by simp at b;omega
  refine ax.pure (oo r.right hr.1 149 [.aI (ag g) 0,.aI (aO r) 0] ?_ (λs=>!oz g r.prec s) (λx i=>PO g r x (hr.2 x i)) (by kernel_rfl)) ?_
  .intro v d;simp at d
   rcases d with rfl | rfl
   .exact lV (cY g)
   .exact lV (iz r)
  simp(disch:=omega)only[↓wr,seval,wq]
  simp[ju,c,a.1,a.2]
  rw[aan]
  simp
 .rename_i h1 b
  have c:¬ (-1<=r.prec/\r.prec < g.af.length):=by simp at b;omega
  have:(decide (-1<=r.prec) && decide (r.prec < (g.af.length:Int)))=false:=by
   rw[<-Bool.decide_and];simpa using c
  simp only[ju,Bool.and_assoc]
  rw[<-Bool.and_assoc (decide (-1<=r.prec)),this];simp
theorem UO (l:List Int) (f:l.getD 0 0=39):((oh l).2 == 0 && (oh l).1 == (l.length:Int))=oq l:=by
 match l,f with
 | [],h=>simp at h
 | [a],_=>rfl
 | [a,b],_ =>
  simp only[oh,lX,oq,ZB,ZW,aa8,aat]
  repeat' split
  all_goals simp_all
 | [a,b,c],f =>
  have g:a=39:=by simpa using f
  subst g
  simp only[oh,lX,oq,AE,Ge,ZB,ZW,aa8,aat]
  repeat' split
  all_goals simp_all
  all_goals grind
 | [a,b,c,d],f =>
  have g:a=39:=by simpa using f
  subst g
  simp only[oh,lX,oq,AE,Ge,ZB,ZW,aa8,aat]
  repeat' split
  all_goals simp_all
  all_goals grind
 | a :: b :: c :: d :: e :: r,f =>
  simp only[oh,lX,oq,AE,Ge,ZB,aa8,aat]
  repeat' split
  all_goals simp_all
  all_goals (try omega)
  all_goals grind
theorem PE {c:Int} {l:List Int} (h:¬ c=39):oq (c :: l)=false:=by
 match l with
 | []=>rfl
 | [_]=>rfl
 | [_,_]=>simp[oq,h]
 | [_,_,_]=>simp[oq,h]
 | _ :: _ :: _ :: _ :: _=>rfl
theorem RZ (s:ByteArray):az Tryz.prog 187 [gs s] (gb (oq (gx s))):=by
 refine az.val (rH s) λH=>?_
 refine au.of mixed C9 ?_
 have e:=λd (hd:d∈gx s)=>G6 (s:=s) (c:=d) hd
 have g:az Tryz.prog 224 [.aD (iD s)] (.bt [gi (oh (gx s)).1,gi (oh (gx s)).2]):=by
  rw[QP]
  refine az.of ?_ ((Om (gx s) e _).mono λr H' h j _=>by rw[h];exact .tree _ (.bt _ λi hi=>by
   match i,hi with
   | 0,_=>exact .val _
   | 1,_=>exact .val _))
  intro v a;simp at a;subst a
  exact dZ _ _ λx _ v a=>by simp at a;subst a;exact .val _
 cases b:gx s with
 | nil =>
  repeat' (first | ((first|apply ah.dec|apply ah.eq|apply ah.ne|apply ah.split)<;>intro)|(simp(disch:=omega)only[↓wr,seval,wq,s7,fC,Bx,b]))
  rfl
 | cons c l =>
  have hl:=UO (gx s)
  rw[b] at g hl
  repeat' (first | ((first|apply ah.dec|apply ah.eq|apply ah.ne|apply ah.split)<;>intro)|(simp(disch:=omega)only[↓wr,seval,wq,s7,fC,Bx,b,ZL]))
  .rename_i h
   rw[PE h]
  .rename_i h
   refine ax.pure g ?_
   have hl:=hl (by simpa using h)
   repeat' (first | ((first|apply ah.dec|apply ah.eq|apply ah.ne|apply ah.split)<;>intro)|(simp(disch:=omega)only[↓wr,seval,wq,fC,b]))
   .rename_i f
    rw[<-hl];simp[f]
   .rename_i f
    rw[<-hl];simp[f]
theorem S9 (s:ByteArray):az Tryz.prog 141 [gs s] (gb (sK (gx s))):=by
 refine az.val (rH s) λH=>?_
 refine au.of mixed F6 ?_
 repeat' (first | ((first|apply ah.dec|apply ah.eq|apply ah.ne|apply ah.split)<;>intro)|(refine ax.pure (Jr s) ?_)|(refine ax.pure (RZ s) ?_)|(simp(disch:=omega)only[↓wr,seval,wq,CH]))
 all_goals simp[sK, *]
theorem OD (s:ByteArray):az Tryz.prog 101 [gs s] (gb (!iq (gx s))):=by
 refine az.val (rH s) λH=>?_
 refine au.of mixed Dm ?_
 repeat' (first | ((first|apply ah.dec|apply ah.eq|apply ah.ne|apply ah.split)<;>intro)|(refine ax.pure (Jr s) ?_)|(simp(disch:=omega)only[↓wr,seval,wq,Ab]))
def xA:SC :=
 ae [ab [aS 12 .lss 11 10],bT 12 (.exit 0),.block 1 (ae [.region false [⟨none,[aH 13 3 9 11,aT 14 3 13,((some 6),.op (.alloc [(.val (.string ⟨#[]⟩)),(.val (.int .i64 0)),(.val (.int .i64 0))])),bK 3 6 14]⟩],ae [ab [ao 15 1 6,ai 16 15,aG 17 .eql 16 0],bc 17 (.exit 1)],ae [ab [aa 18 3,ao 19 1 6,ai 20 19,((some 21),.op (.old (.lookup 204 (.tmp 18) (.tmp 20) false) 3)),aa 7 21],.region false [⟨none,[aa 22 7,aG 23 .neq 22 0,aa 24 23]⟩,⟨(some (24,true)),[aa 25 7,ao 26 2 6,ai 27 26,aS 28 .neq 25 27]⟩,⟨none,[eF 29 24 28]⟩],bc 29 (ae [ab [bz 2 false],.ret])],ab [aa 30 3,ao 31 1 6,ai 32 31,ao 33 2 6,ai 34 33,(none,.op (.old (.mapUpdate 204 (.tmp 30) (.tmp 32) (.tmp 34)) 0))],ab [aa 35 4,ao 36 1 6,ai 37 36,((some 38),.op (.mm true (.tmp 35) (.tmp 37))),aa 4 38]]),ab [aG 39 .add 11 1,aa 11 39]]
def AK:SF:=⟨ae [ab [bz 2 false],ab [((some 8),.op (.pA)),aa 3 8],ab [aQ 4 0],ae [ab [aa 9 0,aP 10 9,aQ 11 0],bU 0 xA],ab [aa 40 3,((some 41),.op (.old (.call { callee:=.builtin .len,args:=#[(.tmp 40)],argTypes:=#[204] }) 3)),aa 42 4,aS 43 .eql 41 42,aa 2 43],.ret],
 [.tmp 2],44⟩
theorem Fj:aN Tryz.prog 142 []=some AK:=by kernel_rfl
def z7:SC :=
 ae [ab [aS 8 .lss 7 6],bT 8 (.exit 0),.block 1 (ae [.region false [⟨none,[aH 9 3 5 7,aT 10 3 9,((some 4),.op (.alloc [(.val (.string ⟨#[]⟩)),(.val (.int .i64 0)),(.val (.int .i64 0))])),bK 3 4 10]⟩],.region false [⟨none,[ao 11 0 4,ai 12 11,bh 13 141 [12],c6 14 13,aa 15 14]⟩,⟨(some (15,false)),[ao 16 1 4,ai 17 16,qb 18 98 [(.tmp 17),(.val (.val (.int .i64 0))),(.val (.val (.int .i64 24)))],c6 19 18]⟩,⟨none,[cD 20 15 19,aa 21 20]⟩,⟨(some (21,false)),[ao 22 2 4,ai 23 22,qb 24 98 [(.tmp 23),(.val (.val (.int .i64 0))),(.val (.val (.int .i64 3)))],c6 25 24]⟩,⟨none,[cD 26 21 25,aa 27 26]⟩,⟨(some (27,false)),[ao 28 1 4,ai 29 28,aG 30 .eql 29 0,ao 31 2 4,ai 32 31,aG 33 .eql 32 0,((some 34),.op (.beq false (.tmp 30) (.tmp 33)))]⟩,⟨none,[cD 35 27 34]⟩],bc 35 (ae [ab [bz 2 false],.ret])]),ab [aG 36 .add 7 1,aa 7 36]]
def CY:SF:=⟨ae [ab [bz 2 false],ae [ab [aa 5 0,aP 6 5,aQ 7 0],bU 0 z7],.region false [⟨none,[aa 37 0,aP 38 37,aG 39 .leq 38 24,aa 40 39]⟩,⟨(some (40,true)),[aa 41 0,bh 42 142 [41]]⟩,⟨none,[eF 43 40 42,aa 2 43]⟩],.ret],
 [.tmp 2],44⟩
theorem F8:aN Tryz.prog 97 []=some CY:=by kernel_rfl
def Ak:SC :=
 ae [ab [aS 16 .lss 15 14],bT 16 (.exit 0),.block 1 (ae [.region false [⟨none,[aH 17 3 13 15,aT 18 3 17,((some 5),.op (.alloc [(.val (.string ⟨#[]⟩)),(.val (.int .i64 0)),(.val (.int .i64 0))])),bK 3 5 18]⟩],.region false [⟨none,[aa 19 3,ao 20 0 5,ai 21 20,((some 22),.op (.bO 1 1 [(.val (.string ⟨#[]⟩))] [(0,(.tmp 21))])),eE 23 1 16 19 22,aa 3 23]⟩]]),ab [aG 24 .add 15 1,aa 15 24]]
def Ag:SC :=
 ae [ab [aS 65 .lss 64 63],bT 65 (.exit 2),.block 3 (ae [ab [aH 66 3 62 64,aT 67 3 66,((some 8),.op (.alloc [(.val (.int .i64 0)),(.emp 1),(.val (.int .i64 0))])),bK 3 8 67],ae [.region false [⟨none,[ao 68 0 8,ai 69 68,aa 70 6,qb 71 98 [(.tmp 69),(.val (.val (.int .i64 0))),(.tmp 70)],c6 72 71,aa 73 72]⟩,⟨(some (73,false)),[aT 74 4 1,aT 75 3 8,bh 76 103 [74,75],c6 77 76]⟩,⟨none,[cD 78 73 77]⟩],bc 78 (ae [ab [bz 2 false],.ret])],ab [aa 79 6,ao 80 0 8,ai 81 80,aG 82 .add 81 1,((some 83),.op (.mm true (.tmp 79) (.tmp 82))),aa 6 83]]),ab [aG 84 .add 64 1,aa 64 84]]
def CC:SF:=⟨ae [ab [cw 1 0,bz 2 false],ab [ao 9 1 1,ai 10 9,bh 11 96 [10],aa 3 11],ae [ab [ao 12 0 1,ai 13 12,aP 14 13,aQ 15 0],bU 0 Ak],ae [.region false [⟨none,[ao 25 0 1,ai 26 25,bh 27 97 [26],c6 28 27,aa 29 28]⟩,⟨(some (29,false)),[ao 30 1 1,ai 31 30,aP 32 31,qb 33 98 [(.tmp 32),(.val (.val (.int .i64 1))),(.val (.val (.int .i64 16)))],c6 34 33]⟩,⟨none,[cD 35 29 34,aa 36 35]⟩,⟨(some (36,false)),[ao 37 2 1,ai 38 37,aP 39 38,qb 40 98 [(.tmp 39),(.val (.val (.int .i64 1))),(.val (.val (.int .i64 40)))],c6 41 40]⟩,⟨none,[cD 42 36 41,aa 43 42]⟩,⟨(some (43,false)),[aa 44 3,bh 45 99 [44],c6 46 45]⟩,⟨none,[cD 47 43 46,aa 48 47]⟩,⟨(some (48,false)),[ao 49 3 1,ai 50 49,ao 51 1 1,ai 52 51,aP 53 52,aG 54 .sub 53 1,qb 55 98 [(.tmp 50),(.val (.val (.int .i64 0))),(.tmp 54)],c6 56 55]⟩,⟨none,[cD 57 48 56]⟩],bc 57 (ae [ab [bz 2 false],.ret])],ae [ab [ao 58 1 1,ai 59 58,qb 60 100 [(.tmp 59),(.val (.fn 101 [] []))]],bc 60 (ae [ab [bz 2 false],.ret])],ab [aQ 6 0],ae [ab [ao 61 2 1,ai 62 61,aP 63 62,aQ 64 0],bU 2 Ag],ab [aa 85 6,ao 86 1 1,ai 87 86,aP 88 87,aS 89 .eql 85 88,aa 2 89],.ret],
 [.tmp 2],90⟩
theorem GC:aN Tryz.prog 52 [1]=some CC:=by kernel_rfl
def fi (l:List Term):V:=.aD (l.map bS)
theorem Fo (l:List Term):∀ v∈[fi l],Tree v:=by intro v a;simp at a;subst a;exact dZ _ _ λx _=>vV x
def ow:List Term->List (Int × Int)->Int->Option (List (Int × Int) × Int)
 | [],a,top=>some (a,top)
 | t :: r,a,top=>if t.level=0 then ow r a top else
  if (eV a t.level).getD 0≠0/\(eV a t.level).getD 0≠t.assoc then none else ow r (lj t.level t.assoc a) (if t.level > top then t.level else top)
def ue (l:List Term):Bool:=match ow l [] 0 with
 | some (a,top)=>(a.length:Int) == top
 | none=>false
theorem OU (l:List Term) (hl:aJ l):az Tryz.prog 142 [fi l] (gb (ue l)):=by
 refine az.val (Fo l) λH=>?_
 refine au.of mixed Fj ?_
 unfold aJ at hl
 simp(disch:=omega)only[↓wr,seval,wq,AK,fi]
 intro q hq
 try simp(disch:=omega)only[↓wr,seval,wq]
 refine aR.up l.length (λi T H=>(∃ a m c top,H q=.map (cH (Value.int .i64) m) c/\pR gi a m/\T 4=gi top/\ow (l.drop i) a top=ow l [] 0)/\T 0=fi l/\T 3=.mp q/\T 9=fi l/\T 10=gi l.length/\T 11=gi i) ?_ ?_
 .refine⟨⟨[],[],0,0,?_,trivial,rfl,rfl⟩,rfl,rfl,rfl,rfl,rfl⟩
  simp[View.set,cH]
 rintro i k T H hk ⟨⟨a,m,c,top,hq,hm,o,hi⟩,j,f,n,d,g⟩
 simp(disch:=omega)only[↓wr,seval,wq,xA,j,f,o,n,d,g,fi]
 apply ah.dec<;>intro E
 .have B:l[i]?=some (l[i]'(by omega)):=Zj (by omega)
  rw[fw (show i < l.length by omega)] at hi
  generalize l[i]'(by omega)=t at B hi
  simp only[ow] at hi
  simp(disch:=omega)only[↓wr,seval,wq,j,f,o,n,d,g,fi,bS,Zm,B]
  intro b C
  have h:b≠q:=by rintro rfl;rw[hq] at C;simp at C
  try simp(disch:=omega)only[↓wr,seval,wq]
  apply ah.eq<;>intro w
  .rw[Zn w] at hi
   simp(disch:=omega)only[↓wr,seval,wq,j,f,o,n,d,g]
   refine aE hk (by omega) ⟨⟨a,m,c,top,?_,hm,o,hi⟩,j,f,n,d,rfl⟩
   simp[View.set,h.symm,hq]
  .rw[Zk w] at hi
   simp(disch:=omega)only[↓wr,seval,wq,j,f,o,n,d,g]
   refine Cg (kt:=3) (et:=3) (z:=gi 0) (by kernel_rfl) (by kernel_rfl) (mj .i64 Tryz.underlying3) (id:=q) (c:=c) (m:=m) (k:=t.level) (by simp(disch:=omega)only[↓wr,seval,wq,f]) (by simp(disch:=omega)only[↓wr,seval,wq,f]) (by simp[View.set,h.symm,hq]) ?_
   have x:(getM m t.level).getD (gi 0)=gi ((eV a t.level).getD 0):=by
    rw[hm.get];cases eV a t.level <;> rfl
   have p:∀ (y:View) (s:Nat) (r:Env),(¬ ((eV a t.level).getD 0≠0/\(eV a t.level).getD 0≠t.assoc)) ->
     y q=.map (cH (Value.int .i64) (bN t.level (gi t.assoc) c m)) s->r 0=fi l->r 3=.mp q->r 4=gi (if t.level > top then t.level else top)->r 9=fi l->r 10=gi l.length->r 11=gi ((i:Int)+1) ->
     ∃ D,D < k/\FM l.length D (λi T H=>(∃ a m c top,H q=.map (cH (Value.int .i64) m) c/\pR gi a m/\T 4=gi top/\ow (l.drop i) a top=ow l [] 0)/\T 0=fi l/\T 3=.mp q/\T 9=fi l/\T 10=gi l.length/\T 11=gi i) r y:=by
    intro y s r F g1 g2 g3 g4 g5 g6 g7
    rw[Zk F] at hi
    exact aE hk (by omega) ⟨⟨_,_,s,_,g1,hm.put t.level t.assoc c,g4,hi⟩,g2,g3,g5,g6,by rw[g7];rfl⟩
   repeat' (first | ((first|apply ah.dec|apply ah.eq|apply ah.ne|apply ah.split)<;>intro)|(simp(disch:=omega)only[↓wr,seval,wq,j,f,o,n,d,g,x]))
   .rename_i u A
    rw[Zn ⟨u,A⟩] at hi
    simp only[ue,<-hi]
   .rename_i u A
    refine yq (kt:=3) (et:=3) (by kernel_rfl) (mj .i64 Tryz.underlying3) (id:=q) (c:=c) (m:=m) (k:=t.level) (v:=gi t.assoc) (by simp(disch:=omega)only[↓wr,seval,wq,f]) (by simp(disch:=omega)only[↓wr,seval,wq,f]) (by simp(disch:=omega)only[↓wr,seval,wq,f]) (by simp[View.set,h.symm,hq]) ?_
    intro s
    simp(disch:=omega)only[↓wr,seval,wq,j,f,o,n,d,g,h]
    exact p _ s _ (λe=>e.2 A) (by simp[View.set]) j f rfl n d rfl
   .rename_i u
    refine yq (kt:=3) (et:=3) (by kernel_rfl) (mj .i64 Tryz.underlying3) (id:=q) (c:=c) (m:=m) (k:=t.level) (v:=gi t.assoc) (by simp(disch:=omega)only[↓wr,seval,wq,f]) (by simp(disch:=omega)only[↓wr,seval,wq,f]) (by simp(disch:=omega)only[↓wr,seval,wq,f]) (by simp[View.set,h.symm,hq]) ?_
    intro s
    simp(disch:=omega)only[↓wr,seval,wq,j,f,o,n,d,g,h]
    exact p _ s _ (λe=>e.1 u) (by simp[View.set]) j f rfl n d rfl
 .rw[ZQ (by omega)] at hi
  simp only[ow] at hi
  simp(disch:=omega)only[↓wr,seval,wq,j,f,o,n,d,g]
  refine Xo (kt:=3) (et:=3) (by kernel_rfl) (id:=q) (c:=c) (m:=m) (by simp(disch:=omega)only[↓wr,seval,wq,f]) hq ?_
  simp(disch:=omega)only[↓wr,seval,wq,j,f,o,n,d,g,hm.len]
  simp only[ue,<-hi]
def mK (t:Term):Bool:=sK (gx t.name) && decide (0<=t.level) && decide (t.level<=24) && decide (0<=t.assoc) && decide (t.assoc<=3) && ((t.level == 0) == (t.assoc == 0))
def uv (l:List Term):Bool:=l.all mK && decide (l.length<=24) && ue l
theorem RX (l:List Term) (hl:aJ l):az Tryz.prog 97 [fi l] (gb (uv l)):=by
 refine az.val (Fo l) λH=>?_
 refine au.of mixed F8 ?_
 have j:=hl
 unfold aJ at hl
 simp(disch:=omega)only[↓wr,seval,wq,CY,fi]
 refine aR.up l.length (λi T H=>(l.drop i).all mK=l.all mK/\T 0=fi l/\T 5=fi l/\T 6=gi l.length/\T 7=gi i) ?_ ?_
 .exact⟨rfl,rfl,rfl,rfl,rfl⟩
 rintro i k T H hk ⟨hi,c,d,f,g⟩
 simp(disch:=omega)only[↓wr,seval,wq,z7,c,d,f,g,fi]
 apply ah.dec<;>intro q
 .have p:l[i]?=some (l[i]'(by omega)):=Zj (by omega)
  rw[fw (show i < l.length by omega)] at hi
  generalize l[i]'(by omega)=t at p hi
  rw[aaG] at hi
  have a:mK t=false->gb false=gb (uv l):=λe=>by rw[e,aa0] at hi;simp[uv,<-hi]
  simp(disch:=omega)only[↓wr,seval,wq,c,d,f,g,fi,bS,Zm,p]
  intro b u
  repeat' (first | ((first|apply ah.dec|apply ah.eq|apply ah.ne|apply ah.split)<;>intro)|(refine ax.pure (S9 t.name) ?_)|(refine ax.pure (tJ _ _ _) ?_)|(simp(disch:=omega)only[↓wr,seval,wq,c,d,f,g,fi]))
  all_goals first
   | (refine a ?_;simp[mK, *];done)
   | (refine a ?_;simp_all [mK];done)
   | skip
  rename_i r m n s
  refine aE hk (by omega) ⟨?_,c,d,f,rfl⟩
  have:mK t=true:=by
   simp only[Zw,ZA] at m n
   have o:((t.level == 0) == (t.assoc == 0))=true:=by simpa [bne] using s
   simp[mK,r,m.1,m.2,n.1,n.2,o]
  rw[this,aaH] at hi
  exact hi
 .rw[ZQ (by omega),List.all_nil] at hi
  simp(disch:=omega)only[↓wr,seval,wq,c,d,f,g,fi]
  repeat' (first | ((first|apply ah.dec|apply ah.eq|apply ah.ne|apply ah.split)<;>intro)|(refine ax.pure (OU l j) ?_)|(simp(disch:=omega)only[↓wr,seval,wq,c,d,f,g,fi]))
  .rename_i h
   simp[uv,<-hi,show l.length<=24 by omega]
  .rename_i h
   simp[uv,<-hi,show ¬ l.length<=24 by omega]
open Go Go.Proofs Go.Shelf Go.RowKit Go.Sort
attribute [local go_sem] Oper.semAt_some
def kV:Ren where
 f:=fun
  | 6=>143
  | 8=>188
  | 9=>189
  | 11=>225
  | 13=>167
  | 12=>226
  | 23=>207
  | 24=>208
  | 14=>235
  | 15=>236
  | 16=>237
  | 17=>238
  | 18=>239
  | 19=>240
  | 20=>241
  | 21=>242
  | 22=>243
  | 25=>245
  | 26=>228
  | 27=>229
  | 28=>246
  | 29=>247
  | 30=>248
  | 31=>249
  | n=>n
 t:=fun
  | 26=>9
  | 28=>197
  | 24=>23
  | 0=>0
  | 3=>3
  | 37=>212
  | 48=>67
  | 50=>249
  | 4=>4
  | 40=>242
  | 39=>241
  | 45=>30
  | 5=>5
  | 9=>9
  | 51=>269
  | 55=>273
  | 57=>282
  | 58=>283
  | 33=>159
  | n=>n
 g:=λn=>n
theorem Wf:Go.Proofs.SlLaysZ.n6 Tryz.prog kV where
 mixed:=by kernel_rfl
 f6:=⟨Tryz.f143.name,by kernel_rfl,by kernel_rfl⟩
 f8:=⟨Tryz.f188.name,by kernel_rfl,by kernel_rfl⟩
 f11:=⟨Tryz.f225.name,by kernel_rfl,by kernel_rfl⟩
 t0:=Tryz.underlying0
 a0:=Tryz.isAgg0
 z0:=Tryz.sizeOf0
 v0:=Tryz.zeroValue0
 t24:=Tryz.underlying23
 a24:=Tryz.isAgg23
 z24:=Tryz.sizeOf23
 v24:=Tryz.zeroValue23
 t26:=Tryz.underlying9
 a26:=Tryz.isAgg9
 z26:=Tryz.sizeOf9
 v26:=Tryz.zeroValue9
 t28:=Tryz.underlying197
 a28:=Tryz.isAgg197
 z28:=Tryz.sizeOf197
 v28:=Tryz.zeroValue197
 i26:=by kernel_rfl
def Qd:Ren where
 f:=fun
  | 6=>189
  | 8=>167
  | 9=>226
  | 19=>207
  | 20=>208
  | 21=>235
  | 22=>236
  | 23=>237
  | 24=>238
  | 25=>239
  | 26=>240
  | 27=>241
  | 28=>242
  | 29=>243
  | 36=>245
  | 31=>228
  | 32=>229
  | 37=>246
  | 38=>247
  | 39=>248
  | 41=>249
  | n=>n
 t:=fun
  | 27=>23
  | 29=>9
  | 3=>3
  | 32=>212
  | 26=>23
  | 0=>0
  | 44=>67
  | 46=>249
  | 4=>4
  | 36=>242
  | 35=>241
  | 41=>30
  | 5=>5
  | 9=>9
  | 53=>269
  | 57=>273
  | 63=>282
  | 64=>283
  | n=>n
 g:=λn=>n
theorem VJ:Go.Proofs.SlLaysM.n6 Tryz.prog Qd where
 mixed:=by kernel_rfl
 f6:=⟨Tryz.f189.name,by kernel_rfl,by kernel_rfl⟩
 f8:=by kernel_rfl
 f9:=⟨Tryz.f226.name,by kernel_rfl,by kernel_rfl⟩
 f19:=by kernel_rfl
 f20:=by kernel_rfl
 f21:=⟨Tryz.f235.name,by kernel_rfl,by kernel_rfl⟩
 f22:=⟨Tryz.f236.name,by kernel_rfl,by kernel_rfl⟩
 f23:=⟨Tryz.f237.name,by kernel_rfl,by kernel_rfl⟩
 f24:=⟨Tryz.f238.name,by kernel_rfl,by kernel_rfl⟩
 f25:=⟨Tryz.f239.name,by kernel_rfl,by kernel_rfl⟩
 f26:=⟨Tryz.f240.name,by kernel_rfl,by kernel_rfl⟩
 f27:=⟨Tryz.f241.name,by kernel_rfl,by kernel_rfl⟩
 f28:=⟨Tryz.f242.name,by kernel_rfl,by kernel_rfl⟩
 f29:=⟨Tryz.f243.name,by kernel_rfl,by kernel_rfl⟩
 f31:=by kernel_rfl
 f32:=by kernel_rfl
 f36:=⟨Tryz.f245.name,by kernel_rfl,by kernel_rfl⟩
 f37:=⟨Tryz.f246.name,by kernel_rfl,by kernel_rfl⟩
 f38:=⟨Tryz.f247.name,by kernel_rfl,by kernel_rfl⟩
 f39:=⟨Tryz.f248.name,by kernel_rfl,by kernel_rfl⟩
 f41:=⟨Tryz.f249.name,by kernel_rfl,by kernel_rfl⟩
 t0:=Tryz.underlying0
 a0:=Tryz.isAgg0
 z0:=Tryz.sizeOf0
 v0:=Tryz.zeroValue0
 t3:=Tryz.underlying3
 a3:=Tryz.isAgg3
 z3:=Tryz.sizeOf3
 v3:=Tryz.zeroValue3
 t4:=Tryz.underlying4
 a4:=Tryz.isAgg4
 z4:=Tryz.sizeOf4
 v4:=Tryz.zeroValue4
 t5:=Tryz.underlying5
 a5:=Tryz.isAgg5
 z5:=Tryz.sizeOf5
 v5:=Tryz.zeroValue5
 t9:=Tryz.underlying9
 a9:=Tryz.isAgg9
 z9:=Tryz.sizeOf9
 v9:=Tryz.zeroValue9
 t26:=Tryz.underlying23
 a26:=Tryz.isAgg23
 z26:=Tryz.sizeOf23
 v26:=Tryz.zeroValue23
 t27:=Tryz.underlying23
 a27:=Tryz.isAgg23
 z27:=Tryz.sizeOf23
 v27:=Tryz.zeroValue23
 t29:=Tryz.underlying9
 a29:=Tryz.isAgg9
 z29:=Tryz.sizeOf9
 v29:=Tryz.zeroValue9
 t32:=Tryz.underlying212
 a32:=Tryz.isAgg212
 z32:=Tryz.sizeOf212
 v32:=Tryz.zeroValue212
 t35:=Tryz.underlying241
 a35:=Tryz.isAgg241
 z35:=Tryz.sizeOf241
 v35:=Tryz.zeroValue241
 t36:=Tryz.underlying242
 a36:=Tryz.isAgg242
 z36:=Tryz.sizeOf242
 v36:=Tryz.zeroValue242
 t41:=Tryz.underlying30
 a41:=Tryz.isAgg30
 z41:=Tryz.sizeOf30
 v41:=Tryz.zeroValue30
 t44:=Tryz.underlying67
 a44:=Tryz.isAgg67
 z44:=Tryz.sizeOf67
 v44:=Tryz.zeroValue67
 t46:=Tryz.underlying249
 a46:=Tryz.isAgg249
 z46:=Tryz.sizeOf249
 v46:=Tryz.zeroValue249
 t53:=Tryz.underlying269
 a53:=Tryz.isAgg269
 z53:=Tryz.sizeOf269
 v53:=Tryz.zeroValue269
 t57:=Tryz.underlying273
 a57:=Tryz.isAgg273
 z57:=Tryz.sizeOf273
 v57:=Tryz.zeroValue273
 t63:=Tryz.underlying282
 a63:=Tryz.isAgg282
 z63:=Tryz.sizeOf282
 v63:=Tryz.zeroValue282
 t64:=Tryz.underlying283
 a64:=Tryz.isAgg283
 z64:=Tryz.sizeOf283
 v64:=Tryz.zeroValue283
def RO:Ren where
 f:=fun
  | 44=>145
  | n=>n
 t:=fun
  | 25=>23
  | 26=>9
  | 3=>3
  | 4=>4
  | 0=>0
  | n=>n
 g:=λn=>n
theorem VN:Go.Proofs.SlLaysN.n44 Tryz.prog RO where
 mixed:=by kernel_rfl
 f44:=⟨Tryz.f145.name,by kernel_rfl,by kernel_rfl⟩
 t0:=Tryz.underlying0
 a0:=Tryz.isAgg0
 z0:=Tryz.sizeOf0
 v0:=Tryz.zeroValue0
 t3:=Tryz.underlying3
 a3:=Tryz.isAgg3
 z3:=Tryz.sizeOf3
 v3:=Tryz.zeroValue3
 t4:=Tryz.underlying4
 a4:=Tryz.isAgg4
 z4:=Tryz.sizeOf4
 v4:=Tryz.zeroValue4
 t25:=Tryz.underlying23
 a25:=Tryz.isAgg23
 z25:=Tryz.sizeOf23
 v25:=Tryz.zeroValue23
 t26:=Tryz.underlying9
 a26:=Tryz.isAgg9
 z26:=Tryz.sizeOf9
 v26:=Tryz.zeroValue9
 i26:=by kernel_rfl
def D4 (n:Nat) (P:Program) (g:Nat) (lb:Array Value) (S:List (List UInt8)->Prop) (N:Nat) (w:World):Prop :=
 ∀ (l:Nat) (J:List (List UInt8)->World->Prop) (W:World),(∀ pre W',J pre W'->Below w.heap.size w W') ->
  (∀ pre x W1,J pre W1->pre.length < N->YieldAt Fence.wide (n - 1) P l #[encStr x] W1 λe W'=>e=.returned (.bool true)/\J (pre ++ [x]) W'/\KeepsWalks W1 W') ->
  J [] W->CallsIn Fence.wide n P g (#[.func (.yield l) #[] #[]] ++ lb) W λe W'=>(∃ v,e=.returned v)/\∃ xs,S xs/\J xs W'
theorem RV {a:List (List UInt8)} {k:Nat} (h:k < a.length):a.take k ++ [a.getD k []]=a.take (k+1):=by
 rw[ZG];simp[Zi,h]
theorem Oq (n:Nat) (hn:1<=n) (Bs b off cap:Nat) (zs:List (List UInt8)) (hreach:zs.length * 16<=140737488351232) (w:World)
  (hBs:w.cell? ⟨Bs,0,none⟩=some (.slice (some ⟨b,off,none⟩) zs.length cap)) (hBl:Bs < w.heap.size) (hbl:b < w.heap.size)
  (hc:∀ j,j < zs.length->w.cell? ⟨b,off+j,none⟩=some (encStr (zs.getD j []))) :
  D4 n Tryz.prog 190 #[.pointer (some ⟨Bs,0,none⟩)] (λxs=>xs=zs) zs.length w:=by
 intro l J W hJ hY h0
 have hbw:=hJ _ _ h0
 have hBs':=(hbw.cell (p:=⟨Bs,0,none⟩) hBl).trans hBs
 have hf:Fence.wide.fn 190:=trivial
 refine callsIn_of_wp Tryz.func190 rfl hf ?_ rfl
 simp only[Tryz.ntmps190,aaW,ZB,ZW,Nat.reduceAdd,Nat.reduceSub,aa2,aa3,abi,aa9,aar,Z4]
 gi_wp2
 gi_loopw [7] (λi wr=>∃ k:Nat,k<=zs.length/\i=.int .i64 k/\J (zs.take k) wr) (λi _=>zs.length - (RowKit.intOf i).toNat)
 case atStart=>exact⟨0,aaY _,rfl,by simpa using h0⟩
 case round =>
  obtain⟨k,hk,rfl,hJs⟩:=hrel
  have hnx:=hJ _ _ hJs
  have hcx:k < zs.length->wr.cell? ⟨b,off+k,none⟩=some (encStr (zs.getD k [])):=λh=>(hnx.cell (p:=⟨b,off+k,none⟩) hbl).trans (hc k h)
  by_cases hlt:k < zs.length
  .obtain⟨x,hx1,hcx'⟩:∃ x,zs.take k ++ [x]=zs.take (k+1)/\wr.cell? ⟨b,off+k,none⟩=some (encStr x):=⟨_,RV hlt,hcx hlt⟩
   obtain⟨fn,tmps,assign,body,hy,hR⟩:=hY _ x wr hJs (by simp;omega)
   clear hcx hJs
   gi_wp2
   refine hR.mono ?_
   rintro e W3 ⟨rfl,hJ3,hk3⟩
   gi_wp2
   go_roundw
   case rel=>exact⟨k+1,by omega,by simp,by rw[<-hx1];exact hJ3⟩
   case measure=>simp[RowKit.intOf];omega
  .obtain rfl:k=zs.length:=by omega
   clear hcx
   gi_wp2
   go_end0
   exact⟨⟨_,rfl⟩,_,rfl,by simpa using hJs⟩
theorem JP (n:Nat) (hn:2<=n) (g:Nat) (lb:Array Value) (eg:∀ args w,(callFunc g args).run Tryz.prog w=.ok (.enter g args) w)
  (S:List (List UInt8)->Prop) (N:Nat) (hN:N<=maxLen) (hNb:N * 16<=140737488355328) (w:World) (hseq:D4 (n - 1) Tryz.prog g lb S N w) :
  CallsIn Fence.wide n Tryz.prog 225 #[.slice none 0 0,.func (.func g) #[] lb] w λe w'=>∃ (v:Value) (ss:List (List UInt8)),e=.returned v/\S ss/\w'.ownsRow w.heap.size 9 1 v ss.length (ss.map encStr)/\Below w.heap.size w w':=by
 have h11:Fence.wide.fn 225:=trivial
 refine callsIn_of_wp_marks Tryz.func225 rfl h11 ?_ rfl
 simp only[Tryz.ntmps225,aaW,ZB,ZW,Nat.reduceAdd,Nat.reduceSub,aa2,aa3,abi,aa9,aar,Z4]
 gi_wp2
 refine wpIn_rangeFunc ?_
 intro fn hfn
 let sv:Value:=.func (.func g) #[] lb
 have hz:(w.alloc (.cells #[.slice none 0 0] 23)).heap.size=w.heap.size+1:=by simp
 have hv0:=World.alloc_heap_new w (.cells #[.slice none 0 0] 23)
 have hb0:Below w.heap.size w (w.alloc (.cells #[.slice none 0 0] 23)):=(Below.refl _ w).alloc (Zt _) _
 revert hz hv0 hb0
 generalize w.alloc (.cells #[.slice none 0 0] 23)=W0
 intro hz hv0 hb0
 obtain⟨W1,hW1⟩:∃ W1,(W0.alloc (.deferred (some []))).alloc (.loop (AnyZ.apRec kV fn sv w.heap.size W0.heap.size .ready none))=W1:=⟨_,rfl⟩
 have hold:∀ k,k < W0.heap.size->W1.heap[k]?=W0.heap[k]?:=λk hk=>by
  rw[<-hW1];exact(Below.heap_alloc _ _ k (by simp;omega)).trans (Below.heap_alloc _ _ k hk)
 have hb1:Below w.heap.size w W1:=by rw[<-hW1];exact(hb0.alloc (by omega) _).alloc (by simp;omega) _
 have hM:AnyZ.ApAt kV w fn sv w.heap.size (W0.heap.size+1) W0.heap.size [] W1:=by
  refine⟨⟨_,(hold w.heap.size (by omega)).trans hv0,⟨rfl,.inl ⟨rfl,rfl⟩⟩,by simp⟩,?_,?_,hb1⟩
  .rw[<-hW1]
   have h:=World.alloc_heap_new (W0.alloc (.deferred (some []))) (.loop (AnyZ.apRec kV fn sv w.heap.size W0.heap.size .ready none))
   rwa [World.size_alloc] at h
  .rw[<-hW1];exact(Below.heap_alloc _ _ _ (by simp)).trans (World.alloc_heap_new W0 _)
 refine⟨W0.heap.size+1,[{ target:=.collected W0.heap.size,args:=#[] }],W1,{ target:=.fn (.func g) lb,args:=#[.func (.yield (W0.heap.size+1)) #[] #[]] },W1,g,
  #[.func (.yield (W0.heap.size+1)) #[] #[]] ++ lb,W1,by rw[<-hW1];exact run_enterLoop_outer _ _ _ _ _,?_,?_,?_,λ_=>by omega,?_⟩
 .simp[resolve,go_sem]
 .intro f' hf';trivial
 .simp[invoke,go_sem,eg]
 .refine(hseq (W0.heap.size+1) (AnyZ.ApAt kV w fn sv w.heap.size (W0.heap.size+1) W0.heap.size) W1 (λ_ _ h=>h.below)
   (λpre x W hJ hl=>AnyZ.apYield { Wf with } Fence.wide (n - 1 - 1) w fn hfn _ w.heap.size (W0.heap.size+1) W0.heap.size (by omega) (by omega) (by omega) (Zt _) (by omega) N hN hNb pre x W hJ hl) hM).mono ?_
  rintro e W2 ⟨⟨v0,rfl⟩,ss,hS,h2⟩
  obtain⟨v,hv,hrow,_⟩:=h2.box
  have hend:=run_endLoop (P:=Tryz.prog) h2.L (by simp[AnyZ.apRec])
  have hne:∀ (cur:Array Value),Obj.cells #[v] 23 (0,0)≠.cells cur 9 (0,0):=λcur e=>by cases e
  obtain⟨W3,hW3⟩:∃ W3,W2.putObj (W0.heap.size+1) (.loop { AnyZ.apRec kV fn sv w.heap.size W0.heap.size .ready none with state:=.exhausted })=W3:=⟨_,rfl⟩
  have hg3:W2.grownBy W3 (some (W0.heap.size+1)):=by rw[<-hW3];exact grownBy_putObj_a _ _ _
  have hv3:W3.heap[w.heap.size]?=some (.cells #[v] 23 (0,0)):=by rw[<-hW3];exact(World.putObj_heap_other (by omega)).trans hv
  have hK3:W3.heap[W0.heap.size]?=some (.deferred (some [])):=by rw[<-hW3];exact(World.putObj_heap_other (by omega)).trans h2.K
  have hrow3:=hrow.kept hg3 (ownsRow_ne_a hrow h2.L (λcur e=>by cases e))
  have hb3:Below w.heap.size w W3:=h2.below.grown hg3 h2.below.size (λk e=>by cases e;omega)
  obtain⟨hc3,hf3⟩:=cell_of_box_a hv3
  refine⟨none,W3,by rw[<-hW3];exact hend,?_⟩
  clear hW3 hW1 hold hM hend hseq
  gi_wp2
  rw[<-hz]
  refine⟨by simp,.inl ⟨_,_,rfl,run_takeDeferred hK3,?_⟩⟩
  exact⟨_,results_tmp rfl _ _ _,v,ss,rfl,hS,hrow3.kept (grownBy_putObj_a _ _ _) (ownsRow_ne_a hrow3 hK3 (λcur e=>by cases e)),hb3.grown (grownBy_putObj_a _ _ _) hb3.size (λk e=>by cases e;omega)⟩
theorem Rn (n:Nat) (hn:4<=n) (g:Nat) (lb:Array Value) (eg:∀ args w,(callFunc g args).run Tryz.prog w=.ok (.enter g args) w)
  (S:List (List UInt8)->Prop) (N:Nat) (hN:N<=maxLen) (hNb:N * 16<=140737488355328) (w:World) (hseq:D4 (n - 1 - 1 - 1) Tryz.prog g lb S N w) (hS:∀ xs,S xs->xs.length < 4611686018427387904) :
  CallsIn Fence.wide n Tryz.prog 143 #[.func (.func g) #[] lb] w λe w'=>∃ (v:Value) (ss:List (List UInt8)),e=.returned v/\S ss /\
   w'.ownsRow w.heap.size 9 1 v ss.length ((ss.mergeSort (λx y=>decide (x<=y))).map encStr)/\Below w.heap.size w w':=by
 have h6:Fence.wide.fn 143:=trivial
 have h8:Fence.wide.fn 188:=trivial
 have h9:Fence.wide.fn 189:=trivial
 have h11:Fence.wide.fn 225:=trivial
 have h1:1<=n - 1:=by omega
 have h1':1<=n:=by omega
 have hcol:CallsIn Fence.wide (n - 1) Tryz.prog 188 #[.func (.func g) #[] lb] w λe w'=>∃ (v:Value) (ss:List (List UInt8)),e=.returned v/\S ss/\w'.ownsRow w.heap.size 9 1 v ss.length (ss.map encStr)/\Below w.heap.size w w':=by
  have happ:=JP (n - 1 - 1) (by omega) g lb eg S N hN hNb w hseq
  refine callsIn_of_wp Tryz.func188 rfl h8 ?_ rfl
  simp only[Tryz.ntmps188,aaW,ZB,ZW,Nat.reduceAdd,Nat.reduceSub,aa2,aa3,abi,aa9,aar,Z4]
  gi_wp2_with (gi_at_call 225;refine happ.mono ?_;rintro e w' ⟨v,ss,rfl,hS,hrow,hb⟩)
  go_ret
  exact⟨v,ss,rfl,hS,hrow,hb⟩
 refine callsIn_of_wp Tryz.func143 rfl h6 ?_ rfl
 simp only[Tryz.ntmps143,aaW,ZB,ZW,Nat.reduceAdd,Nat.reduceSub,aa2,aa3,abi,aa9,aar,Z4]
 gi_wp2_with (gi_at_call 188;refine hcol.mono ?_;rintro e W ⟨v,ss,rfl,hSs,hrow,hb⟩)
 have hlen:=hS ss hSs
 rcases hrow.2 with ⟨rfl,hz⟩ | ⟨gb,cap,cur,rfl,hbase,hgb,r1,r2,r3,r4⟩
 .have hss:ss=[]:=List.eq_nil_of_length_eq_zero hz
  subst hss
  have cN:CallsIn Fence.wide (n - 1) Tryz.prog 189 #[.slice none 0 0] W λe w'=>e=.returned (.tuple #[])/\w'=W:=callsIn_wide.2 (AnyM.slices_Sort_string_none VJ none 0 W)
  gi_wp2_with (gi_at_call 189;refine cN.mono ?_;rintro e w' ⟨rfl,rfl⟩)
  go_ret
  exact⟨.slice none 0 0,[],rfl,hSs,by simpa using hrow,hb⟩
 .have hH:Holds encStr W gb 0 ss.toArray:=holds_of_block hgb (by simpa using r4)
  have hgl:gb < W.heap.size:=(Array.getElem?_eq_some_iff.1 hgb).1
  have cS:CallsIn Fence.wide (n - 1) Tryz.prog 189 #[.slice (some ⟨gb,0,none⟩) ss.length cap] W λe w'=>e=.returned (.tuple #[])/\∃ k os,w'=grow (putRow encStr (Sort.ahead W k) gb 0 (ss.mergeSort λx y=>decide (x<=y)).toArray) os :=
   callsIn_wide.2 (AnyM.slices_Sort_string VJ gb 0 cap ss W hH hgl hlen)
  gi_wp2_with (gi_at_call 189;refine cS.mono ?_;rintro e w' ⟨rfl,nn,os,rfl⟩)
  go_ret
  exact⟨_,ss,rfl,hSs,ownsRow_sorted (by simp) hbase hgb r1 r2 r3,hb.grown (grownBy_sorted _) hb.size (λj hj=>by cases hj;exact hbase)⟩
open Go Go.Proofs Go.Shelf Go.RowKit Go.Sort
theorem LF {l:List (List UInt8)} (hs:l.Pairwise (λa b=>decide (a<=b)=true)) (h:∀ j,j+1 < l.length->l.getD (j+1) []≠l.getD j []):l.Nodup:=by
 induction l with
 | nil=>exact List.nodup_nil
 | cons x r f =>
  rw[aaL] at hs
  refine aah.2 ⟨λd=>?_,f hs.2 λj g=>by simpa using h (j+1) (by simpa using g)⟩
  cases r with
  | nil=>simp at d
  | cons y r =>
   have c:=h 0 (by simp)
   simp only[aa8,aat,aaw] at c
   rcases Zz.1 d with e | hm
   .exact c e.symm
   .have h1:x<=y:=by simpa using hs.1 y (by simp)
    have i:y<=x:=by simpa using (aaL.1 hs.2).1 x hm
    exact c (List.le_antisymm i h1)
theorem QC (l:List (List UInt8)):(Lib.compact l).length=l.length↔∀ j,j+1 < l.length->l.getD (j+1) []≠l.getD j []:=by
 have hl:(Lib.compact l).length=((List.range l.length).filter (Lib.keeps l.toArray)).length:=by simp[Lib.compact,Lib.compactUpTo]
 rw[hl]
 have hr:(List.range l.length).length=l.length:=by simp
 conv=>lhs;rhs;rw[<-hr]
 rw[List.length_filter_eq_length_iff]
 have b:∀ j,j < l.length->l.toArray[j]! = l.getD j []:=λj a=>by simp[Zi,a]
 constructor
 .intro h j a
  have:=h (j+1) (by simpa using a)
  simp only[Lib.keeps,ZA,Nat.add_sub_cancel] at this
  rcases this with e | e
  .omega
  .rw[b _ a,b _ (by omega)] at e;exact e
 .intro h j a
  simp only[aap] at a
  simp only[Lib.keeps,ZA]
  by_cases e:j=0
  .exact .inl e
  .right
   obtain⟨k,rfl⟩:∃ k,j=k+1:=⟨j - 1,by omega⟩
   rw[b _ a,Nat.add_sub_cancel,b _ (by omega)]
   exact h k a
theorem GB (d:List (List UInt8)):(Lib.compact (d.mergeSort λx y=>decide (x<=y))).length=d.length↔d.Nodup:=by
 have hp:=List.mergeSort_perm d (λx y=>decide (x<=y))
 have hs:=List.pairwise_mergeSort (le:=λx y:List UInt8=>decide (x<=y)) (λa b c h k=>by simp at h k ⊢;exact List.le_trans h k) (λa b=>by simpa using List.le_total a b) d
 rw[<-hp.nodup_iff,<-hp.length_eq,QC]
 constructor
 .exact LF hs
 .intro g j f e
  have h1:(d.mergeSort λx y=>decide (x<=y))[j+1]'f=(d.mergeSort λx y=>decide (x<=y))[j]'(by omega):=by
   simp only[Zi,Zj f,Zj (show j < (d.mergeSort λx y=>decide (x<=y)).length by omega),ZC] at e
   exact e
  have:=(List.getElem_inj g).1 h1
  omega
theorem Uq (w:World):grow w #[]=w:=by simp[grow]
theorem Ln (n:Nat) (hn:1<=n) (Bs cap:Nat) (a:Option Addr) (w:World) (hBs:w.cell? ⟨Bs,0,none⟩=some (.slice a 0 cap)) (hBl:Bs < w.heap.size) :
  D4 n Tryz.prog 190 #[.pointer (some ⟨Bs,0,none⟩)] (λxs=>xs=[]) 0 w:=by
 intro l J W hJ hY h0
 have hbw:=hJ _ _ h0
 have hBs':=(hbw.cell (p:=⟨Bs,0,none⟩) hBl).trans hBs
 have hf:Fence.wide.fn 190:=trivial
 refine callsIn_of_wp Tryz.func190 rfl hf ?_ rfl
 simp only[Tryz.ntmps190,aaW,ZB,ZW,Nat.reduceAdd,Nat.reduceSub,aa2,aa3,abi,aa9,aar,Z4]
 gi_wp2
 gi_loopw [7] (λi wr=>i=.int .i64 0/\J [] wr) (λ_ _=>0)
 case atStart=>exact⟨rfl,h0⟩
 case round =>
  obtain⟨rfl,hJs⟩:=hrel
  gi_wp2
  go_end0
  exact⟨⟨_,rfl⟩,_,rfl,hJs⟩
theorem Py (n:Nat) (a:Option Addr) (len cap:Nat) (w:World) :
  CallsIn Fence.wide n Tryz.prog 144 #[.slice a len cap] w λe w'=>e=.returned (.func (.func 190) #[] #[.pointer (some ⟨w.heap.size,0,none⟩)])/\w'=w.alloc (.cells #[.slice a len cap] 23):=by
 have hf:Fence.wide.fn 144:=trivial
 refine callsIn_of_wp Tryz.func144 rfl hf ?_ rfl
 simp only[Tryz.ntmps144,aaW,ZB,ZW,Nat.reduceAdd,Nat.reduceSub,aa2,aa3,abi,aa9,aar,Z4]
 gi_wp2
 go_ret
 exact⟨rfl,rfl⟩
theorem CZ (a:Option Addr) (cap:Nat) (zs:List (List UInt8)) (hz:zs.length<=1000) (w:World)
  (hseq:∀ n Bs,1<=n->w.heap.size=Bs->D4 n Tryz.prog 190 #[.pointer (some ⟨Bs,0,none⟩)] (λxs=>xs=zs) zs.length (w.alloc (.cells #[.slice a zs.length cap] 23))) :
  Calls Tryz.prog 99 #[.slice a zs.length cap] w λe w'=>e=.returned (.bool (decide zs.Nodup))/\Below w.heap.size w w':=by
 refine(callsIn_wide (n:=7)).1 ?_
 have hf:Fence.wide.fn 99:=trivial
 have hfv:Fence.wide.fn 144:=trivial
 have hfs:Fence.wide.fn 143:=trivial
 have hfc:Fence.wide.fn 145:=trivial
 have eg:=enters_of Tryz.func190 (by kernel_rfl) rfl
 have cV:=Py 6 a zs.length cap w
 have cS:=Rn 6 (by omega) 190 #[.pointer (some ⟨w.heap.size,0,none⟩)] eg _ zs.length (by unfold maxLen;omega) (by omega) (w.alloc (.cells #[.slice a zs.length cap] 23)) (hseq _ _ (by omega) rfl) (λxs e=>by subst e;omega)
 refine callsIn_of_wp Tryz.func99 rfl hf ?_ rfl
 simp only[Tryz.ntmps99,aaW,ZB,ZW,Nat.reduceAdd,Nat.reduceSub,aa2,aa3,abi,aa9,aar,Z4]
 clear hseq
 gi_wp2_with (first
  | (gi_at_call 144;refine cV.mono ?_;rintro e w' ⟨rfl,rfl⟩)
  | (gi_at_call 143;refine cS.mono ?_;rintro e W ⟨v,ss,rfl,rfl,hrow,hb⟩)
  | fail)
 have hsz:(ss.mergeSort λx y=>decide (x<=y)).length=ss.length:=by simp
 have hBw:Below w.heap.size w W:=((Below.refl _ w).alloc (Zt _) _).trans (hb.mono (by simp))
 rcases hrow.2 with ⟨rfl,h0⟩ | ⟨gb,cap',cur,rfl,hbase,hgb,r1,r2,r3,r4⟩
 .have hss:ss=[]:=List.eq_nil_of_length_eq_zero h0
  subst hss
  have cC:CallsIn Fence.wide 6 Tryz.prog 145 #[.slice none 0 0] W λe w'=>e=.returned (.slice none 0 0)/\w'=W:=callsIn_wide.2 (AnyG.slices_Compact_string_empty VN none 0 W)
  clear cS cV hrow
  gi_wp2_with (gi_at_call 145;refine cC.mono ?_;rintro e w' ⟨rfl,rfl⟩)
  go_ret
  exact⟨rfl,hBw⟩
 .have hH:Holds encStr W gb 0 (ss.mergeSort λx y=>decide (x<=y)).toArray:=holds_of_block hgb (by simpa using r4)
  have hgl:gb < W.heap.size:=(Array.getElem?_eq_some_iff.1 hgb).1
  have cC:CallsIn Fence.wide 6 Tryz.prog 145 #[.slice (some ⟨gb,0,none⟩) ss.length cap'] W λe w'=>∃ m:Nat,e=.returned (.slice (some ⟨gb,0,none⟩) m cap')/\((m=ss.length)↔ss.Nodup)/\Below w.heap.size w w':=by
   have:=AnyG.slices_Compact_string VN gb 0 cap' (ss.mergeSort λx y=>decide (x<=y)) W hH (by rw[hsz];omega) (by rw[hsz];omega)
   rw[hsz] at this
   refine callsIn_wide.2 (this.mono ?_)
   rintro e w' ⟨rfl,q,rfl⟩
   refine⟨_,rfl,GB ss,?_⟩
   have hg:=grownBy_sorted (w:=W) (g:=gb) (n:=q) (os:=#[]) (Lib.compact (ss.mergeSort λx y=>decide (x<=y)) ++ List.replicate (ss.length - (Lib.compact (ss.mergeSort λx y=>decide (x<=y))).length) []).toArray
   rw[Uq] at hg
   exact hBw.grown hg hBw.size (λj e=>by cases e;have h:=hbase;rw[World.size_alloc] at h;omega)
  clear cS cV hrow hH
  gi_wp2_with (gi_at_call 145;refine cC.mono ?_;rintro e w' ⟨m,rfl,hm,hb'⟩)
  go_ret
  refine⟨?_,hb'⟩
  show Ending.returned (.bool ((m:Int) == (ss.length:Int)))=_
  have:((m:Int) == (ss.length:Int))=decide ss.Nodup:=by
   rw[aan]
   simp only[aaz,ZA,<-hm]
   omega
  rw[this]
theorem KR (s:ByteArray):encStr s.data.toList=.string s:=by
 cases s;simp[encStr]
def names (l:List ByteArray):List (List UInt8):=l.map λs=>s.data.toList
theorem MD {Z:Nat->Prop} {μ:Mu} {hp:Array Obj} {es:List (List V)} {x:Value} (h:aC Z μ hp (.aD es) x) :
  (es=[]/\∃ a cap,x=.slice a 0 cap/\(a=none->cap=0))∨(∃ b off esz cap,∃ c:Nat->Nat->Value,x=.slice (some ⟨b,off,none⟩) es.length cap/\Z b/\es.length<=cap /\
   (∀ i,i < es.length->(es.getD i []).length=esz)/\(∀ i j,i < es.length->j < esz->cellAt hp b (off+i * esz+j)=some (c i j)) /\
   (∀ i j,i < es.length->j < esz->aC Z μ hp ((es.getD i []).getD j .any) (c i j))):=by
 cases h with
 | js a cap d=>exact .inl ⟨rfl,a,cap,rfl,d⟩
 | aD _ b off esz cap c h1 e f g k=>exact .inr ⟨b,off,esz,cap,c,rfl,h1,e,f,g,k⟩
theorem U3 (l:List ByteArray) (hl:l.length<=1000):az Tryz.prog 99 [encS l] (gb (decide (names l).Nodup)):=by
 intro Z μ w xs g r
 obtain⟨hlen,G⟩:=g
 obtain⟨x,rfl⟩:∃ x,xs=[x]:=by
  match xs,hlen with
  | [x],_=>exact⟨x,rfl⟩
 have H:aC Z μ w.heap (encS l) x:=G 0 (by simp)
 have k:(names l).length=l.length:=by simp[names]
 have fin:∀ e w',(e=Ending.returned (.bool (decide (names l).Nodup))/\RowKit.Below w.heap.size w w')->∃ x t,e=.returned x/\(∀ E,aC t E w'.heap (gb (decide (names l).Nodup)) x)/\fk w w'/\(∀ b,Z b->t b)/\(∀ b,t b->Z b∨(w.heap.size<=b/\b < w'.heap.size))/\gX w.heap w'.heap (λ_=>False):=by
  rintro e w' ⟨rfl,m⟩
  exact⟨_,Z,rfl,λE=>.val _ rfl,⟨m.os,m.tape,m.output,m.size⟩,λ_ h=>h,λ_ h=>.inl h,λb u _=>m.block b u⟩
 have box:∀ (v:Value),(w.alloc (.cells #[v] 23)).cell? ⟨w.heap.size,0,none⟩=some v:=λv=>by
  have:=World.alloc_heap_new w (.cells #[v] 23)
  simp only[World.cell?,this];rfl
 rcases MD H with ⟨he,a,cap,rfl,_⟩ | ⟨b,off,esz,cap,c,rfl,I,hle,z,J,K⟩
 .have A:l=[]:=by simpa using he
  subst A
  refine(CZ a cap (names []) (by simp[names]) w (λn L B C=>?_)).mono fin
  subst C
  exact Ln n B w.heap.size cap a _ (box _) (by simp)
 .have o:∀ i,(hi:i < l.length)->(l.map λs=>[gs s]).getD i []=[gs l[i]]:=λi hi=>by simp[Zi,hi]
  have d:∀ i,(hi:i < l.length)->cellAt w.heap b (off+i)=some (.string l[i]):=λi hi=>by
   have h1:=z i (by simpa using hi)
   rw[o i hi] at h1
   simp only[ZB,ZW] at h1
   subst h1
   have F:=J i 0 (by simpa using hi) (by omega)
   have q:=K i 0 (by simpa using hi) (by omega)
   rw[o i hi] at q
   simp only[aat] at q
   generalize c i 0=y at F q
   cases q
   simpa using F
  have f:(l.map λs=>[gs s]).length=(names l).length:=by simp[names]
  rw[f]
  refine(CZ (some ⟨b,off,none⟩) cap (names l) (by rw[k];exact hl) w (λn L B C=>?_)).mono fin
  subst C
  have D:=r b I
  refine Oq n B w.heap.size b off cap (names l) (by rw[k];omega) _ (box _) (by simp) (by simp;omega) (λj O=>?_)
  have p:j < l.length:=by omega
  have M:(w.alloc (.cells #[.slice (some ⟨b,off,none⟩) (names l).length cap] 23)).cell? ⟨b,off+j,none⟩=w.cell? ⟨b,off+j,none⟩:=by
   have:=Below.heap_alloc w (.cells #[.slice (some ⟨b,off,none⟩) (names l).length cap] 23) b D
   simp only[World.cell?,this]
  rw[M,oK,d j p]
  have N:(names l).getD j []=l[j].data.toList:=by simp[names,Zi,p]
  rw[N,KR]
theorem bZ.js {P:Program} {f:FuncId} {h:aF} (h1:bZ P f [.emp 1] h (.emp 1) h) (m:bZ P f [.emp 2] h (.emp 2) h) (n:bZ P f [.ef] h (.emp 2) h):bZ P f [.aD []] h (.emp 0) h:=by
 refine⟨Zt _,λZ μ F w xs l hr g=>?_⟩
 obtain⟨hl,q⟩:=l
 obtain⟨x,rfl⟩:∃ x,xs=[x]:=by
  match xs,hl with
  | [x],_=>exact⟨x,rfl⟩
 have r:aC Z μ w.heap (.aD []) x:=q 0 (by simp)
 have one:∀ v,aC Z μ w.heap v x->gS Z μ w.heap [v] [x]:=λv h=>⟨rfl,λi hi=>by
  simp at hi;subst hi;exact h⟩
 have d:∀ k,bZ P f [if k=3 then .ef else .emp k] h (if k=3 then .emp 2 else .emp k) h->aC Z μ w.heap (if k=3 then .ef else .emp k) x->Calls P f [x].toArray w λe w'=>∃ x j μ',e=.returned x/\aC j μ' w'.heap (.emp 0) x/\iU j μ' w'.heap (cat h F)/\Ext Z μ w h.length j μ' w'/\(∀ id,id < h.length∨h.length<=id->μ' id=μ id):=by
  intro k hk s
  refine(hk.2 Z μ F w [x] (one _ s) hr g).mono ?_
  rintro e w' ⟨y,j,μ',rfl,o,rest⟩
  refine⟨y,j,μ',rfl,?_,rest⟩
  have:∀ p,aC j μ' w'.heap (.emp p) y->aC j μ' w'.heap (.emp 0) y:=λp h=>by
   cases h with | emp _ a _ _=>exact .emp 0 a (by simp) (by simp)
  split at o <;> exact this _ o
 rcases MD r with ⟨_,a,cap,rfl,t⟩ | ⟨b,off,esz,cap,c,rfl,_,_,_⟩
 .cases a with
  | none =>
   have:=t rfl
   subst this
   exact d 1 (by simpa using h1) (.emp 1 none (by simp) (by simp))
  | some a =>
   cases cap with
   | zero=>exact d 2 (by simpa using m) (.emp 2 (some a) (by simp) (by simp))
   | succ c=>exact d 3 (by simpa using n) (.ef a (c+1))
 .cases cap with
  | zero=>exact d 2 (by simpa using m) (.emp 2 (some ⟨b,off,none⟩) (by simp) (by simp))
  | succ c=>exact d 3 (by simpa using n) (.ef ⟨b,off,none⟩ (c+1))
def BH (sz:Nat) (es:List (List V)) (H:View) (K:V->View->Prop):Prop :=
 (es=[]->∀ k,K (.emp k) H)/\(es≠[]->∀ n,H n=.dead->K (.sl n 0 es.length sz) (H.set n (.arr sz es)))
def dD:SF:=⟨ae [ab [cq 2 1],ae [ab [aa 3 0,((some 4),.op (.nil true 0 (.tmp 3) (.val (.emp 1))))],bc 4 (ae [ab [cq 2 1],.ret])],ab [cq 5 2,aa 6 0,eE 7 1 16 5 6,aa 2 7],.ret],
 [.tmp 2],8⟩
theorem dX:aN Tryz.prog 96 []=some dD:=by kernel_rfl
def eX:SF:=⟨ae [ab [cq 2 1],ae [ab [aa 3 0,((some 4),.op (.nil true 0 (.tmp 3) (.val (.emp 1))))],bc 4 (ae [ab [cq 2 1],.ret])],ab [cq 5 2,aa 6 0,eE 7 1 8 5 6,aa 2 7],.ret],
 [.tmp 2],8⟩
theorem fD:aN Tryz.prog 161 []=some eX:=by kernel_rfl
def dc:SF:=⟨ae [ab [cq 2 1],ae [ab [aa 3 0,((some 4),.op (.nil true 0 (.tmp 3) (.val (.emp 1))))],bc 4 (ae [ab [cq 2 1],.ret])],ab [cq 5 2,aa 6 0,eE 7 3 32 5 6,aa 2 7],.ret],
 [.tmp 2],8⟩
theorem dA:aN Tryz.prog 159 []=some dc:=by kernel_rfl
theorem az.tree {P:Program} {f:FuncId} {vs:List V} {t:V} (a:∀ v∈vs,Tree v) (b:Tree t) (h:∀ H,au P f vs H λr _=>r=t):az P f vs t :=
 az.of a ((h _).mono λr H' e c _=>by rw[e];exact .tree _ b)
theorem rV {H:View} : bR H .ef=some ([],[]):=id rfl
theorem jV {H:View} (sz bytes k:Nat) (K:V->View->Prop) (w:cO (H,K)):nZ sz bytes (.emp k) [] H K w=K (.emp k) H:=propext Iff.rfl
theorem Qu (l:List ByteArray) (hl:l.length<=100000) (H:View) (K:V->View->Prop) (hk:BH 1 (l.map λs=>[gs s]) H K):au Tryz.prog 96 [encS l] H K:=by
 cases l with
 | nil =>
  have hp:∀ v t,Tree v->Tree t->(∀ H,au Tryz.prog 96 [v] H λr _=>r=t)->az Tryz.prog 96 [v] t:=λv t b c h=>az.tree (by intro x a;simp at a;subst a;exact b) c h
  have h1:=hp (.emp 1) (.emp 1) (.emp 1) (.emp 1) (λH=>by
   refine au.of mixed dX ?_
   simp(disch:=omega)only[↓wr,seval,wq,dD])
  have d:=hp (.emp 2) (.emp 2) (.emp 2) (.emp 2) (λH=>by
   refine au.of mixed dX ?_
   simp(disch:=omega)only[↓wr,seval,wq,dD,jV,abf])
  have e:=hp .ef (.emp 2) .ef (.emp 2) (λH=>by
   refine au.of mixed dX ?_
   simp(disch:=omega)only[↓wr,seval,wq,dD,rV,jV,abf])
  refine⟨by kernel_rfl,?_⟩
  rintro h rfl
  exact⟨.emp 0,h,bZ.js (bZ.hU h1 h) (bZ.hU d h) (bZ.hU e h),.refl _,hk.1 rfl 0⟩
 | cons x r =>
  refine au.of mixed dX ?_
  simp only[ZB] at hl
  simp(disch:=omega)only[↓wr,seval,wq,dD,encS]
  refine⟨?_,?_,?_⟩
  .simp[List.all_map,encS,aL]
  .unfold aA;simp;omega
  .intro n f
   have:=hk.2 (by simp) n f
   simp(disch:=omega)only[↓wr,seval,wq]
   simpa [bS] using this
theorem Q2 (l:List Int) (hl:l.length<=100000) (H:View) (K:V->View->Prop) (hk:BH 1 (l.map λs=>[gi s]) H K):au Tryz.prog 161 [encI l] H K:=by
 cases l with
 | nil =>
  have hp:∀ v t,Tree v->Tree t->(∀ H,au Tryz.prog 161 [v] H λr _=>r=t)->az Tryz.prog 161 [v] t:=λv t b c h=>az.tree (by intro x a;simp at a;subst a;exact b) c h
  have h1:=hp (.emp 1) (.emp 1) (.emp 1) (.emp 1) (λH=>by
   refine au.of mixed fD ?_
   simp(disch:=omega)only[↓wr,seval,wq,eX])
  have d:=hp (.emp 2) (.emp 2) (.emp 2) (.emp 2) (λH=>by
   refine au.of mixed fD ?_
   simp(disch:=omega)only[↓wr,seval,wq,eX,jV,abf])
  have e:=hp .ef (.emp 2) .ef (.emp 2) (λH=>by
   refine au.of mixed fD ?_
   simp(disch:=omega)only[↓wr,seval,wq,eX,rV,jV,abf])
  refine⟨by kernel_rfl,?_⟩
  rintro h rfl
  exact⟨.emp 0,h,bZ.js (bZ.hU h1 h) (bZ.hU d h) (bZ.hU e h),.refl _,hk.1 rfl 0⟩
 | cons x r =>
  refine au.of mixed fD ?_
  simp only[ZB] at hl
  simp(disch:=omega)only[↓wr,seval,wq,eX,encI]
  refine⟨?_,?_,?_⟩
  .simp[List.all_map,encI,aL]
  .unfold aA;simp;omega
  .intro n f
   have:=hk.2 (by simp) n f
   simp(disch:=omega)only[↓wr,seval,wq]
   simpa [bS] using this
theorem Ri (l:List Term) (hl:l.length<=100000) (H:View) (K:V->View->Prop) (hk:BH 3 (l.map bS) H K):au Tryz.prog 159 [fi l] H K:=by
 cases l with
 | nil =>
  have hp:∀ v t,Tree v->Tree t->(∀ H,au Tryz.prog 159 [v] H λr _=>r=t)->az Tryz.prog 159 [v] t:=λv t b c h=>az.tree (by intro x a;simp at a;subst a;exact b) c h
  have h1:=hp (.emp 1) (.emp 1) (.emp 1) (.emp 1) (λH=>by
   refine au.of mixed dA ?_
   simp(disch:=omega)only[↓wr,seval,wq,dc])
  have d:=hp (.emp 2) (.emp 2) (.emp 2) (.emp 2) (λH=>by
   refine au.of mixed dA ?_
   simp(disch:=omega)only[↓wr,seval,wq,dc,jV,abf])
  have e:=hp .ef (.emp 2) .ef (.emp 2) (λH=>by
   refine au.of mixed dA ?_
   simp(disch:=omega)only[↓wr,seval,wq,dc,rV,jV,abf])
  refine⟨by kernel_rfl,?_⟩
  rintro h rfl
  exact⟨.emp 0,h,bZ.js (bZ.hU h1 h) (bZ.hU d h) (bZ.hU e h),.refl _,hk.1 rfl 0⟩
 | cons x r =>
  refine au.of mixed dA ?_
  simp only[ZB] at hl
  simp(disch:=omega)only[↓wr,seval,wq,dc,fi,bS]
  refine⟨?_,?_,?_⟩
  .simp[List.all_map,fi,bS,aL]
  .unfold aA;simp;omega
  .intro n f
   have:=hk.2 (by simp) n f
   simp(disch:=omega)only[↓wr,seval,wq]
   simpa [bS] using this
theorem BH.own {sz:Nat} {es:List (List V)} {H:View} : BH sz es H λr H'=>aV H' r sz es/\dt H H' r :=
 ⟨λhe k=>⟨by rw[he];exact .nil,.emp⟩,λ_ n a=>⟨.new,.new a⟩⟩
theorem P9 (l:List ByteArray) (hl:l.length<=100000) (H:View):au Tryz.prog 96 [encS l] H λr H'=>aV H' r 1 (l.map λs=>[gs s])/\dt H H' r:=Qu l hl H _ .own
theorem Tc (l:List Int) (hl:l.length<=100000) (H:View):au Tryz.prog 161 [encI l] H λr H'=>aV H' r 1 (l.map λs=>[gi s])/\dt H H' r:=Q2 l hl H _ .own
theorem RJ (l:List Term) (hl:l.length<=100000) (H:View):au Tryz.prog 159 [fi l] H λr H'=>aV H' r 3 (l.map bS)/\dt H H' r:=Ri l hl H _ .own
def nQ (g:aj):List bu->Int->Bool
 | [],next=>next == g.ak.length
 | r :: l,next=>decide (0<=r.left) && decide (r.left<=next) && ju g r && nQ g l (if r.left+1 > next then r.left+1 else next)
def uW (g:aj):List ByteArray:=g.ak ++ g.af.map Term.name
def sw (g:aj):Bool :=
 uv g.af && (decide ((1:Int)<=g.ak.length) && decide ((g.ak.length:Int)<=16)) && (decide ((1:Int)<=g.rules.length) && decide ((g.rules.length:Int)<=40)) && decide (names (uW g)).Nodup && (decide (0<=g.start) && decide (g.start<=(g.ak.length:Int) - 1)) &&
  !(g.ak.any λs=>!iq (gx s)) && nQ g g.rules 0
theorem Kn {l:List ByteArray} : ∀ e∈(l.map λs=>[gs s]),∀ v∈e,Tree v:=by
 intro e he v b
 obtain⟨a,_,rfl⟩:=ZF.1 he
 rw[aaj] at b
 subst b
 exact .val _
theorem PU (g:aj) (p:g.Ok) (hs:g.ak.length+g.af.length<=1000) (H:View):au Tryz.prog 52 [.agg (ag g)] H λr _=>r=gb (sw g):=by
 refine au.of mixed GC ?_
 have K:=p.ak
 have L:=p.af
 have hr:=p.rules
 unfold aJ at K L hr
 simp(disch:=omega)only[↓wr,seval,wq,CC,ag,encS]
 refine ax.dJ ((P9 g.ak (by omega) H).mono ?_)
 rintro u H1 ⟨hu,Z⟩
 simp(disch:=omega)only[↓wr,seval,wq,ag,encS]
 refine aR.up g.af.length (λi T H=>T 1=.aI (ag g) 0/\(∃ u,T 3=u/\aV H u 1 ((g.ak ++ (g.af.take i).map Term.name).map λs=>[gs s]))/\T 13=fi g.af/\T 14=gi g.af.length/\T 15=gi i) ?_ ?_
 .exact⟨rfl,⟨u,rfl,by simpa using hu⟩,rfl,rfl,rfl⟩
 rintro i k T H' hk ⟨h1,⟨u,q,hu⟩,a,c,d⟩
 simp(disch:=omega)only[↓wr,seval,wq,Ak,h1,a,c,d,fi]
 apply ah.dec<;>intro B
 .have f:g.af[i]?=some (g.af[i]'(by omega)):=Zj (by omega)
  have v:(g.af.take (i+1)).map Term.name=(g.af.take i).map Term.name ++ [(g.af[i]'(by omega)).name]:=by
   rw[ZG,f,ZD];rfl
  generalize g.af[i]'(by omega)=t at f v
  simp(disch:=omega)only[↓wr,seval,wq,h1,q,a,c,d,fi,bS,Zm,f]
  intro b C
  try simp(disch:=omega)only[↓wr,seval,wq,h1,q,a,c,d,set_set]
  intro m hm
  have D:=(cP hm cI).1
  have hm:=(cP (cP hm cI).2 cI).2
  try simp(disch:=omega)only[↓wr,seval,wq,h1,q,a,c,d,bm]
  have hl:((g.ak ++ (g.af.take i).map Term.name).map λs=>[gs s]).length<=1000:=by simp;omega
  refine B0 (((hu.fresh C).other (hu.ne C)).fresh (by simp[View.set,hm,D])) (by simp) (by simp[aL]) (by unfold aA;simp at hl ⊢;omega) (by unfold aA;simp at hl ⊢;omega) ?_
  intro M H2 E _
  simp(disch:=omega)only[↓wr,seval,wq,h1,q,a,c,d]
  refine aE hk (by omega) ⟨h1,⟨M,rfl,?_⟩,a,c,rfl⟩
  rw[v]
  simpa using E
 .rw[Zx (by omega)] at hu
  have N:H'=H':=rfl
  have y:(uW g).length<=1000:=by simp[uW];omega
  repeat' (first | ((first|apply ah.dec|apply ah.eq|apply ah.ne|apply ah.split)<;>intro)|(refine ax.pure (RX g.af p.af) ?_)|(refine ax.pure (tJ _ _ _) ?_)|(refine ax.wE (U3 (uW g) y) (by kernel_rfl) (.val _) ⟨ep.own hu Kn,trivial⟩ ?_)|(simp(disch:=omega)only[↓wr,seval,wq,h1,q,a,c,d,ag,encS]))
  all_goals try (simp[sw, *];done)
  rename_i O P J Q R
  refine ax.pure (C0 g.ak p.ak 101 [] (by simp) (λs=>!iq (gx s)) (λx _=>OD x) (by kernel_rfl)) ?_
  repeat' (first | ((first|apply ah.dec|apply ah.eq|apply ah.ne|apply ah.split)<;>intro)|(simp(disch:=omega)only[↓wr,seval,wq,h1,q,a,c,d,ag,encS]))
  all_goals try (simp[sw, *];done)
  rename_i S
  have hle:g.rules.length<=40:=by simp at J;omega
  have h:∀ b,nQ g g.rules 0=b->gb b=gb (sw g):=λb e=>by
   simp only[sw,O,P,J,Q,R,S,e,decide_true,aaH,Bool.not_false]
  refine aR.up g.rules.length (λi T _=>∃ w:Int,0<=w/\w<=i/\nQ g (g.rules.drop i) w=nQ g g.rules 0/\T 1=.aI (ag g) 0/\T 6=gi w/\T 62=.aD (g.rules.map aO)/\T 63=gi g.rules.length/\T 64=gi i) ?_ ?_
  .exact⟨0,by omega,by omega,rfl,h1,rfl,rfl,rfl,rfl⟩
  rintro i k T H' hk ⟨w,U,V,hi,h1,A,j,l,n⟩
  simp(disch:=omega)only[↓wr,seval,wq,Ag,h1,A,j,l,n,ag]
  apply ah.dec<;>intro B
  .have f:g.rules[i]?=some (g.rules[i]'(by omega)):=Zj (by omega)
   rw[fw (show i < g.rules.length by omega)] at hi
   have o:g.rules[i]'(by omega)∈g.rules:=Zs _
   generalize g.rules[i]'(by omega)=t at f hi o
   obtain⟨⟨W,X⟩,hp,F,G⟩:=p.aw t o
   simp only[nQ] at hi
   simp(disch:=omega)only[↓wr,seval,wq,h1,A,j,l,n,aO,encI,Zm,f]
   intro b C
   repeat' (first | ((first|apply ah.dec|apply ah.eq|apply ah.ne|apply ah.split)<;>intro)|(refine ax.pure (tJ _ _ _) ?_)|(refine ax.pure (Ub g t p ⟨F,G⟩) ?_)|(simp(disch:=omega)only[↓wr,seval,wq,h1,A,j,l,n,ag,aO,encI,encS,set_set]))
   .rename_i z I
    have Y:0<=t.left/\t.left<=w:=by simpa using z
    rw[z,I,aaH,aaH] at hi
    have hw:IntKind.wrap .i64 (t.left+1)=t.left+1:=wrap64 (by omega) (by omega)
    refine aE hk (by omega) ⟨_,by split <;> omega,by split <;> (push_cast;omega),hi,h1,?_,j,l,rfl⟩
    show gi (if IntKind.wrap .i64 (t.left+1) > w then IntKind.wrap .i64 (t.left+1) else w)=_
    rw[hw]
   .rename_i z I
    rw[I,Bool.and_false,aa0] at hi
    exact h _ hi.symm
   .rename_i z
    rw[z,aa0,aa0] at hi
    exact h _ hi.symm
  .rw[ZQ (by omega)] at hi
   simp only[nQ] at hi
   simp(disch:=omega)only[↓wr,seval,wq,h1,A,j,l,n,ag,encS]
   exact h _ hi.symm
theorem Pk (g:aj) (a:g.Ok) (hs:g.ak.length+g.af.length<=1000):az Tryz.prog 52 [.agg (ag g)] (gb (sw g)):=az.val (dT g) (PU g a hs)
theorem KD (g:aj):∀ (l:List bu) (next:Int),nQ g l next=iS g l (next - 1)
 | [],next=>by
  simp only[nQ,iS]
  rw[aan];simp
 | r :: l,next=>by
  simp only[nQ,iS,KD g l]
  have a:(if r.left+1 > next then r.left+1 else next) - 1=if r.left > next - 1 then r.left else next - 1:=by
   split <;> split <;> omega
  have b:next - 1+1=next:=by omega
  rw[a,b]
theorem BF (s:ByteArray):∀ (l:List ByteArray) (i:Int),0<=i->(pD s l i < 0/\s ∉ l)∨∃ k:Nat,pD s l i=i+k/\l[k]?=some s/\∀ j < k,l[j]?≠some s
 | [],i,h=>.inl ⟨by simp[pD],by simp⟩
 | x :: l,i,h=>by
  have b:jR x s=true↔x=s:=by
   unfold jR
   rw[aaz]
   constructor
   .intro e;cases x;cases s;simp at e;simp[e]
   .rintro rfl;rfl
  simp only[pD]
  by_cases e:x=s
  .rw[Zn (b.2 e)]
   exact .inr ⟨0,by simp,by simp[e],by simp⟩
  .rw[Zk (λh=>e (b.1 h))]
   rcases BF s l (i+1) (by omega) with ⟨h1,a⟩ | ⟨k,h1,a,c⟩
   .exact .inl ⟨h1,by simp[a,Ne.symm e]⟩
   .refine .inr ⟨k+1,by rw[h1];push_cast;omega,by simpa using a,λj d=>?_⟩
    cases j with
    | zero=>simp[e]
    | succ j=>simpa using c j (by omega)
theorem vP (l:List ByteArray):(∀ (k:Nat) (s:ByteArray),l[k]?=some s->pD s l 0=k)↔l.Nodup:=by
 constructor
 .intro h
  rw[abe,List.pairwise_iff_getElem]
  intro i j hi b d e
  have h1:=h i l[i] (by simp[hi])
  have a:=h j l[j] (by simp[b])
  rw[e] at h1
  omega
 .intro f k s hk
  rcases BF s l 0 (by omega) with ⟨_,a⟩ | ⟨j,h1,a,g⟩
  .exact absurd (Zp hk) a
  .have b:j < l.length:=by
    rcases ZI j l.length with h | h
    .exact h
    .simp[ZT h] at a
   have c:k < l.length:=by
    rcases ZI k l.length with h | h
    .exact h
    .simp[ZT h] at hk
   have:j=k:=(List.getElem_inj f).1 (by
    rw[Zj b] at a;rw[Zj c] at hk
    simp at a hk;rw[a,hk])
   rw[h1,this];simp
theorem bytes_inj {a b:ByteArray} : a.data.toList=b.data.toList↔a=b:=by
 constructor
 .intro h;cases a;cases b;simp at h;simp[h]
 .rintro rfl;rfl
theorem Qy {l:List ByteArray} : (names l).Nodup↔l.Nodup:=by
 unfold names
 rw[abe,abj,abe]
 constructor
 .exact λh=>h.imp λh e=>h (bytes_inj.2 e)
 .exact λh=>h.imp λh e=>h (bytes_inj.1 e)
theorem pc {α:Type} [BEq α] [LawfulBEq α]:∀ (l m:List α),l.Nodup->(∀ x∈l,x∈m)->l.length<=m.length
 | [],m,_,_=>by simp
 | x :: l,m,a,hs=>by
  rw[aah] at a
  have c:x∈m:=hs x (by simp)
  have:=pc l (m.erase x) a.2 (λy d=>by
   have b:y≠x:=by rintro rfl;exact a.1 d
   exact(List.mem_erase_of_ne b).2 (hs y (by simp[d])))
  rw[List.length_erase_of_mem c] at this
  have:0 < m.length:=List.length_pos_of_mem c
  simp only[ZB]
  omega
def nK (n:Nat):List Int:=(List.range n).map λ(k:Nat)=>(k:Int)+1
theorem yO {n:Nat} {x:Int} : x∈nK n↔1<=x/\x<=n:=by
 simp only[nK,ZF,aap]
 constructor
 .rintro⟨k,hk,rfl⟩;omega
 .rintro⟨h1,a⟩;exact⟨(x - 1).toNat,by omega,by omega⟩
theorem K4 (n:Nat):(nK n).Nodup:=by
 rw[nK,abe,abj]
 exact(List.nodup_range (n:=n)).imp λh e=>h (by omega)
theorem V2 {l:List Int} {n:Nat} (b:l.Nodup) (hs:∀ x∈l,1<=x/\x<=n) (hl:l.length=n) {x:Int} (h1:1<=x) (c:x<=n):x∈l:=by
 refine aaB λd=>?_
 have:=pc (x :: l) (nK n) (aah.2 ⟨d,b⟩) (λy a=>by
  rw[yO]
  rcases Zz.1 a with rfl | a
  .exact⟨h1,c⟩
  .exact hs y a)
 simp[nK] at this
 omega
theorem zx (n:Int):∀ (l:List Term) (w:Int),w≠0->kc n l w=if (∀ t∈l,t.level=n->t.assoc=w) then some w else none
 | [],w,_=>by simp[kc]
 | t :: r,w,hw=>by
  simp only[kc]
  by_cases a:t.level=n
  .rw[Zn a]
   by_cases b:w=t.assoc
   .rw[Zk (by simp[b]),<-b,zx n r w hw]
    congr 1
    simp[a,b]
   .rw[Zn ⟨hw,b⟩,Zk (λh=>b (h t (by simp) a).symm)]
  .rw[Zk a,zx n r w hw]
   congr 1
   simp[a]
theorem DR (n:Int):∀ (l:List Term),(∀ t∈l,t.level=n->t.assoc≠0)->(iP l n=true↔∃ a,(∃ t∈l,t.level=n)/\∀ t∈l,t.level=n->t.assoc=a)
 | [],_=>by simp[iP,kc]
 | t :: r,h=>by
  by_cases b:t.level=n
  .have f:=h t (by simp) b
   have e:iP (t :: r) n=match (if (∀ u∈r,u.level=n->u.assoc=t.assoc) then some t.assoc else none) with | some w=>w != 0 | none=>false:=by
    simp only[iP,kc]
    rw[Zn b,Zk (by simp),zx n r _ f]
    rfl
   rw[e]
   by_cases hr:∀ u∈r,u.level=n->u.assoc=t.assoc
   .rw[Zn hr]
    simp only[abo,ne_eq,f,not_false_eq_true,true_iff]
    refine⟨t.assoc,⟨t,by simp,b⟩,λu hu hl=>?_⟩
    rcases Zz.1 hu with rfl | hu
    .rfl
    .exact hr u hu hl
   .rw[Zk hr]
    simp only[ZM,false_iff]
    rintro⟨a,_,c⟩
    exact hr λu hu hl=>(c u (by simp[hu]) hl).trans (c t (by simp) b).symm
  .have g:=DR n r (λu hu=>h u (by simp[hu]))
   have e:iP (t :: r) n=iP r n:=by
    simp only[iP,kc,Zk b]
   rw[e,g]
   constructor
   .rintro⟨a,⟨u,hu,hl⟩,c⟩
    refine⟨a,⟨u,by simp[hu],hl⟩,λv d hl=>?_⟩
    rcases Zz.1 d with rfl | d
    .exact absurd hl b
    .exact c v d hl
   .rintro⟨a,⟨u,hu,hl⟩,c⟩
    rcases Zz.1 hu with rfl | hu
    .exact absurd hl b
    .exact⟨a,⟨u,hu,hl⟩,λv d=>c v (by simp[d])⟩
def xX (l:List Term):Prop:=∀ t∈l,∀ u∈l,t.level=u.level->t.level≠0->t.assoc=u.assoc
theorem K2 {κ β:Type} [BEq κ] [LawfulBEq κ] {k:κ} {v:β} : ∀ {a:List (κ × β)},(a.map (·.1)).Nodup->((lj k v a).map (·.1)).Nodup/\∀ x,x∈(lj k v a).map (·.1)↔x=k∨x∈a.map (·.1)
 | [],_=>by simp[lj]
 | y :: a,h=>by
  simp only[ZJ,aah] at h
  obtain⟨h1,b⟩:=K2 (k:=k) (v:=v) h.2
  simp only[lj]
  by_cases e:k=y.1
  .simp only[e,aaF,if_true,ZJ,aah]
   refine⟨h,λx=>by simp[e]⟩
  .have:(k == y.1)=false:=by simp[e]
   rw[this]
   simp only[ZM,if_false,ZJ,aah,Zz]
   refine⟨⟨λhm=>?_,h1⟩,λx=>?_⟩
   .rcases (b _).1 hm with e' | hm
    .exact e e'.symm
    .exact h.1 hm
   .rw[b]
    constructor
    .rintro (h | h | h) <;> simp[h]
    .rintro (h | h | h) <;> simp[h]
theorem Bb:∀ (l:List Term) (a:List (Int × Int)) (top:Int),(∀ t∈l,t.level≠0->t.assoc≠0)->(∀ n v,eV a n=some v->v≠0)->(a.map (·.1)).Nodup ->
  match ow l a top with
  | some (y,b)=>xX l/\(∀ t∈l,∀ v,t.level≠0->eV a t.level=some v->t.assoc=v)/\(y.map (·.1)).Nodup/\(∀ n,n∈y.map (·.1)↔n∈a.map (·.1)∨(n≠0/\∃ t∈l,t.level=n)) /\
    top<=b/\(∀ t∈l,t.level≠0->t.level<=b)/\(b=top∨∃ t∈l,t.level=b/\t.level≠0)
  | none=>¬ (xX l/\∀ t∈l,∀ v,t.level≠0->eV a t.level=some v->t.assoc=v)
 | [],a,top,_,_,z=>by
  simp only[ow]
  exact⟨λt c=>by simp at c,λt c=>by simp at c,z,λn=>by simp,by omega,λt c=>by simp at c,by simp⟩
 | t :: r,a,top,D,A,z=>by
  have p:∀ u∈r,u.level≠0->u.assoc≠0:=λu hu=>D u (by simp[hu])
  simp only[ow]
  by_cases c:t.level=0
  .rw[Zn c]
   have g:=Bb r a top p A z
   have one:xX (t :: r)↔xX r:=by
    constructor
    .exact λh u hu w hw=>h u (by simp[hu]) w (by simp[hw])
    .intro h u hu w hw e d
     rcases Zz.1 hu with rfl | hu
     .exact absurd c d
     .rcases Zz.1 hw with rfl | hw
      .exact absurd (e.trans c) d
      .exact h u hu w hw e d
   have q:(∀ u∈t :: r,∀ v,u.level≠0->eV a u.level=some v->u.assoc=v)↔∀ u∈r,∀ v,u.level≠0->eV a u.level=some v->u.assoc=v:=by
    simp[c]
   have mem:∀ n,(n≠0/\∃ u∈t :: r,u.level=n)↔(n≠0/\∃ u∈r,u.level=n):=λn=>by
    constructor
    .rintro⟨h1,u,hu,rfl⟩
     rcases Zz.1 hu with rfl | hu
     .exact absurd c h1
     .exact⟨h1,u,hu,rfl⟩
    .rintro⟨h1,u,hu,rfl⟩;exact⟨h1,u,by simp[hu],rfl⟩
   cases hs:ow r a top with
   | none=>rw[hs] at g;rw[one,q];exact g
   | some x =>
    obtain⟨y,b⟩:=x
    rw[hs] at g
    obtain⟨i1,i2,i3,i4,i5,i6,i7⟩:=g
    refine⟨one.2 i1,q.2 i2,i3,λn=>by rw[i4,mem],i5,?_,?_⟩
    .intro u hu d
     rcases Zz.1 hu with rfl | hu
     .exact absurd c d
     .exact i6 u hu d
    .rcases i7 with h | ⟨u,hu,h⟩
     .exact .inl h
     .exact .inr ⟨u,by simp[hu],h⟩
  .rw[Zk c]
   have G:=D t (by simp) c
   by_cases j:(eV a t.level).getD 0≠0/\(eV a t.level).getD 0≠t.assoc
   .rw[Zn j]
    simp only
    rintro⟨_,o⟩
    cases hp:eV a t.level with
    | none=>simp[hp] at j
    | some v =>
     have:=o t (by simp) v c hp
     simp[hp] at j
     exact j.2 this.symm
   .rw[Zk j]
    have i:∀ v,eV a t.level=some v->t.assoc=v:=λv hp=>by
     have:=A _ _ hp
     simp[hp] at j
     exact(j this).symm
    have f:∀ n,eV (lj t.level t.assoc a) n=if n=t.level then some t.assoc else eV a n:=λn=>by
     rw[K3];simp
    have hk:=K2 (k:=t.level) (v:=t.assoc) z
    have g:=Bb r (lj t.level t.assoc a) (if t.level > top then t.level else top) p (λn v hp=>by
     rw[f] at hp
     split at hp
     .simp at hp;rw[<-hp];exact G
     .exact A n v hp) hk.1
    have both:(xX (t :: r)/\∀ u∈t :: r,∀ v,u.level≠0->eV a u.level=some v->u.assoc=v)↔(xX r/\∀ u∈r,∀ v,u.level≠0->eV (lj t.level t.assoc a) u.level=some v->u.assoc=v):=by
     constructor
     .rintro⟨h1,o⟩
      refine⟨λu hu w hw=>h1 u (by simp[hu]) w (by simp[hw]),λu hu v d hp=>?_⟩
      rw[f] at hp
      split at hp
      .rename_i e
       simp at hp;rw[<-hp]
       exact h1 u (by simp[hu]) t (by simp) e d
      .exact o u (by simp[hu]) v d hp
     .rintro⟨h1,o⟩
      have B:∀ u∈r,u.level=t.level->u.assoc=t.assoc:=λu hu e=>o u hu t.assoc (by rw[e];exact c) (by rw[f,Zn e])
      refine⟨λu hu w hw e d=>?_,λu hu v d hp=>?_⟩
      .rcases Zz.1 hu with E | s
       .rcases Zz.1 hw with C | m
        .rw[E,C]
        .rw[E] at e ⊢
         exact(B w m e.symm).symm
       .rcases Zz.1 hw with C | m
        .rw[C] at e ⊢
         exact B u s e
        .exact h1 u s w m e d
      .rcases Zz.1 hu with rfl | hu
       .exact i v hp
       .by_cases e:u.level=t.level
        .rw[B u hu e];exact i v (by rw[<-e];exact hp)
        .exact o u hu v d (by rw[f,Zk e];exact hp)
    have F:top<=(if t.level > top then t.level else top)/\t.level<=(if t.level > top then t.level else top):=by split <;> omega
    cases hs:ow r (lj t.level t.assoc a) (if t.level > top then t.level else top) with
    | none=>rw[hs] at g;simp only;rw[both];exact g
    | some x =>
     obtain⟨y,b⟩:=x
     rw[hs] at g
     obtain⟨i1,i2,i3,i4,i5,i6,i7⟩:=g
     obtain⟨H,I⟩:=both.2 ⟨i1,i2⟩
     refine⟨H,I,i3,λn=>?_,by omega,?_,?_⟩
     .rw[i4,hk.2]
      constructor
      .rintro ((rfl | h) | ⟨h1,u,hu,h⟩)
       .exact .inr ⟨c,t,by simp,rfl⟩
       .exact .inl h
       .exact .inr ⟨h1,u,by simp[hu],h⟩
      .rintro (h | ⟨h1,u,hu,h⟩)
       .exact .inl (.inr h)
       .rcases Zz.1 hu with rfl | hu
        .exact .inl (.inl h.symm)
        .exact .inr ⟨h1,u,hu,h⟩
     .intro u hu d
      rcases Zz.1 hu with rfl | hu
      .omega
      .exact i6 u hu d
     .rcases i7 with h | ⟨u,hu,h⟩
      .by_cases e:t.level > top
       .rw[Zn e] at h;exact .inr ⟨t,by simp,h.symm,c⟩
       .rw[Zk e] at h;exact .inl h
      .exact .inr ⟨u,by simp[hu],h⟩
theorem E1 (l:List Term) (h:∀ t∈l,mK t=true):ue l=true↔∀ t∈l,∀ n:Int,1<=n->n<=t.level->iP l n=true:=by
 have g:∀ t∈l,0<=t.level/\(t.level≠0->t.assoc≠0):=λt b=>by
  have:=h t b
  simp only[mK,Zw,ZA,aaz] at this
  refine⟨this.1.1.1.1.2,λh1 i=>?_⟩
  have e:=this.2
  simp[h1,i] at e
 have hs:=Bb l [] 0 (λt b=>(g t b).2) (by simp[eV]) (by simp)
 have m:∀ n:Int,1<=n->(iP l n=true↔∃ a,(∃ t∈l,t.level=n)/\∀ t∈l,t.level=n->t.assoc=a):=λn r=>DR n l (λt b e=>(g t b).2 (by omega))
 unfold ue
 cases f:ow l [] 0 with
 | none =>
  rw[f] at hs
  simp only[ZM,false_iff]
  intro c
  refine hs ⟨λt b u hu e o=>?_,λt b v _ hp=>by simp[eV] at hp⟩
  have h1:=g t b
  obtain⟨a,_,i⟩:=(m t.level (by omega)).1 (c t b t.level (by omega) (by omega))
  exact(i t b rfl).trans (i u hu e.symm).symm
 | some x =>
  obtain⟨a,top⟩:=x
  rw[f] at hs
  obtain⟨i1,_,i3,i4,i5,i6,i7⟩:=hs
  simp only[aaz]
  have d:∀ n,n∈a.map (·.1)↔n≠0/\∃ t∈l,t.level=n:=λn=>by rw[i4];simp
  have j:∀ x∈a.map (·.1),1<=x/\x<=(top.toNat:Int):=λx f=>by
   obtain⟨h1,t,b,rfl⟩:=(d x).1 f
   have:=(g t b).1
   have:=i6 t b h1
   omega
  constructor
  .intro hlen t b n k q
   have p:t.level<=top:=i6 t b (by omega)
   have hm:=V2 i3 j (by simp;omega) k (show n<=(top.toNat:Int) by omega)
   obtain⟨o,u,hu,rfl⟩:=(d n).1 hm
   exact(m _ k).2 ⟨u.assoc,⟨u,hu,rfl⟩,λw hw e=>i1 w hw u hu e (by omega)⟩
  .intro c
   have h1:a.length<=top.toNat:=by
    have:=pc _ (nK top.toNat) i3 (λx f=>yO.2 (j x f))
    simpa [nK] using this
   have i:top.toNat<=a.length:=by
    rcases i7 with e | ⟨t,b,e,o⟩
    .subst e;simp
    .have:=pc (nK top.toNat) (a.map (·.1)) (K4 _) (λx f=>by
      rw[yO] at f
      have:=(g t b).1
      obtain⟨_,⟨u,hu,hl⟩,_⟩:=(m x f.1).1 (c t b x f.1 (by omega))
      exact(d x).2 ⟨by omega,u,hu,hl⟩)
     simpa [nK] using this
   omega
theorem Em (g:aj):∀ (l:List Term) (i:Int),kQ g l i=true↔∀ (k:Nat) (t:Term),l[k]?=some t->lK g (i+k) t=true
 | [],i=>by simp[kQ]
 | t :: r,i=>by
  simp only[kQ,Zw,Em g r (i+1)]
  constructor
  .rintro⟨h1,a⟩ k u hk
   cases k with
   | zero=>simp at hk;subst hk;simpa using h1
   | succ k =>
    have:=a k u (by simpa using hk)
    rw[show i+((k+1:Nat):Int)=i+1+k by push_cast;omega];exact this
  .intro h
   refine⟨by simpa using h 0 t rfl,λk u hk=>?_⟩
   have:=h (k+1) u (by simpa using hk)
   rw[show i+1+(k:Int)=i+((k+1:Nat):Int) by push_cast;omega];exact this
theorem vM (g:aj):∀ (l:List ByteArray) (i:Int),tO g l i=true↔∀ (k:Nat) (s:ByteArray),l[k]?=some s->nt g (i+k) s=true
 | [],i=>by simp[tO]
 | t :: r,i=>by
  simp only[tO,Zw,vM g r (i+1)]
  constructor
  .rintro⟨h1,a⟩ k u hk
   cases k with
   | zero=>simp at hk;subst hk;simpa using h1
   | succ k =>
    have:=a k u (by simpa using hk)
    rw[show i+((k+1:Nat):Int)=i+1+k by push_cast;omega];exact this
  .intro h
   refine⟨by simpa using h 0 t rfl,λk u hk=>?_⟩
   have:=h (k+1) u (by simpa using hk)
   rw[show i+1+(k:Int)=i+((k+1:Nat):Int) by push_cast;omega];exact this
theorem HO (g:aj) (s:ByteArray):nW g s < 0↔s ∉ g.af.map Term.name:=by
 unfold nW
 rcases BF s (g.af.map Term.name) 0 (by omega) with ⟨h1,a⟩ | ⟨k,h1,a,_⟩
 .exact⟨λ_=>a,λ_=>h1⟩
 .constructor
  .intro h;omega
  .intro h;exact absurd (Zp a) h
theorem Il (g:aj) (t:Term):tI g t=true↔∀ n:Int,1<=n->n<=t.level->iP g.af n=true:=by
 simp only[tI,ZZ,aap]
 constructor
 .intro h n h1 a
  have:=h (n - 1).toNat (by omega)
  rwa [show (((n - 1).toNat:Nat):Int)+1=n by omega] at this
 .intro h k hk
  exact h _ (by omega) (by omega)
theorem N5 (g:aj):sw g=bI g:=by
 rw[aan]
 simp only[sw,bI,lf,lU,uv,Zw,ZA,Em,vM,KD,ZZ,abv,List.any_eq_false,Bool.not_eq_true,Qy,uW,aak,Int.zero_add,Int.zero_sub,Bool.not_not]
 have o:(∀ (k:Nat) (t:Term),g.af[k]?=some t->lK g k t=true)↔(∀ t∈g.af,mK t=true)/\(g.af.map Term.name).Nodup/\(∀ t∈g.af,tI g t=true):=by
  rw[<-vP]
  constructor
  .intro h
   have f:∀ t∈g.af,∃ k:Nat,g.af[k]?=some t:=λt d=>List.getElem?_of_mem d
   refine⟨λt d=>?_,λk s hk=>?_,λt d=>?_⟩
   .obtain⟨k,hk⟩:=f t d
    have:=h k t hk
    simp only[lK,mK,Zw,ZA] at this ⊢
    simp[this]
   .rw[Zm,Zu] at hk
    obtain⟨t,hk,rfl⟩:=hk
    have:=h k t hk
    simp only[lK,Zw,aaz] at this
    exact this.1.1.1.1.1.1.2
   .obtain⟨k,hk⟩:=f t d
    have:=h k t hk
    simp only[lK,Zw] at this
    exact this.2
  .rintro⟨h1,i,j⟩ k t hk
   have hm:=Zp hk
   have a:=h1 t hm
   have b:=i k t.name (by rw[Zm,hk];rfl)
   have c:=j t hm
   simp only[lK,mK,nW,Zw,ZA] at a ⊢
   simp[a,b,c]
 have p:(∀ (k:Nat) (s:ByteArray),g.ak[k]?=some s->nt g k s=true)↔(∀ s∈g.ak,iq (gx s)=true)/\g.ak.Nodup/\(∀ s∈g.ak,s ∉ g.af.map Term.name):=by
  rw[<-vP]
  constructor
  .intro h
   have f:∀ t∈g.ak,∃ k:Nat,g.ak[k]?=some t:=λt d=>List.getElem?_of_mem d
   refine⟨λt d=>?_,λk s hk=>?_,λt d=>?_⟩
   .obtain⟨k,hk⟩:=f t d
    have:=h k t hk
    simp only[nt,Zw] at this
    exact this.1.1
   .have:=h k s hk
    simp only[nt,Bd,Zw,aaz] at this
    exact this.1.2
   .obtain⟨k,hk⟩:=f t d
    have:=h k t hk
    simp only[nt,Zw,ZA] at this
    exact(HO g t).1 this.2
  .rintro⟨h1,i,j⟩ k s hk
   have hm:=Zp hk
   have a:=h1 s hm
   have b:=i k s hk
   have c:=(HO g s).2 (j s hm)
   simp[nt,Bd,a,b,c]
 rw[o,p]
 constructor
 .rintro⟨⟨⟨⟨⟨⟨⟨⟨t1,t2⟩,t3⟩,q,r⟩,v,w⟩,l,a2,a3⟩,s1,s2⟩,m⟩,n⟩
  have hl:=(E1 g.af t1).1 t3
  exact⟨⟨⟨⟨⟨⟨⟨t2,t1,a2,λt d=>(Il g t).2 (hl t d)⟩,⟨by omega,by omega⟩,λs hs=>by simpa using m s hs,l,λs hs hm=>a3 s hs s hm rfl⟩,by omega⟩,by omega⟩,s1⟩,by omega⟩,n⟩
 .rintro⟨⟨⟨⟨⟨⟨⟨t2,t1,a2,t3⟩,⟨q,r⟩,m,l,a3⟩,v⟩,w⟩,s1⟩,s2⟩,n⟩
  have hl:=(E1 g.af t1).2 (λt d=>(Il g t).1 (t3 t d))
  exact⟨⟨⟨⟨⟨⟨⟨⟨t1,t2⟩,hl⟩,by omega,by omega⟩,by omega,by omega⟩,l,a2,λs hs u hu e=>a3 s hs (e ▸ hu)⟩,s1,by omega⟩,λs hs=>by simp[m s hs]⟩,n⟩
theorem oZ (g:aj) (a:g.Ok) (hs:g.ak.length+g.af.length<=1000):az Tryz.prog 52 [.agg (ag g)] (gb (bI g)):=by
 rw[<-N5];exact Pk g a hs
end Gv
