/-
  Part 7 of the proof: what the machine does and what the functions answer.
  Conditions: those that each lemma names.
-/
import Derived.Shelf.SlIter.Sorted
import Derived.Shelf.SortM.Plain
import Derived.Shelf.SortM.SortNone
import Derived.Shelf.SlicesG.CompactS
import Derived.Test.YtoamakccoedejaaGreatDoorSGjSF
set_option linter.unusedSimpArgs false
set_option linter.unusedVariables false
set_option maxRecDepth 100000
set_option maxHeartbeats 20000000
namespace Gv
open Go Go.Proofs
def fg {α:Type} (p:α->Bool):List α->Int->Int
 | [],_=>-1
 | x::l,i=>if p x then i else fg p l (i+1)
theorem mc {α:Type} (p:α->Bool):∀(l:List α) (i:Int),0<=i->decide (0<=fg p l i)=l.any p
 | [],_,_=>by simp[fg]
 | x::l,i,h=>by
  have a:=mc p l (i+1) (by omega)
  rw[List.any_cons,fg]
  by_cases hp:p x=true
  .rw[GZ hp,hp];simp[h]
  .rw[GV hp,a];simp[hp]
theorem rm {f:FuncId} {xs cap:List V} (h:∀v∈xs,Tree v) (b:∀v∈cap,Tree v):Tree (.fn f xs cap):=by
 refine .fn _ _ _ (λi hi=>?_) (λi hi=>?_)
 .have a:xs.getD i .any=xs[i]:=by simp[GQ,hi]
  rw[a];exact h _ (G4 _)
 .have a:cap.getD i .any=cap[i]:=by simp[GQ,hi]
  rw[a];exact b _ (G4 _)
def dW:SC:=
 ai [af [cm 9 .lss 8 7],eY 9 (.exit 0),.block 1 (ai [af [ab 10 8,ab 5 10],af [ab 11 1,ab 12 0,ab 13 5,b4 14 1 12 13,aG 15 14,((some 16),.call (.tmp 11) [(.tmp 15)])],bV 16 (ai [af [ab 17 5,ab 4 17],.ret])]),af [aZ 18 .add 8 1,ab 8 18]]
def eC:SF:=⟨ai [af [bR 4 0],ai [af [ab 6 0,bg 7 6,bR 8 0],fk 0 dW],af [bR 4 (-1)],.ret],
 [.tmp 4],19⟩
theorem gN:aM aa 113 []=some eC:=by kernel_rfl
def dN:SF:=⟨ai [af [bq 4 false],af [ab 5 0,ab 6 1,bX 7 113 [5,6],aZ 8 .geq 7 0,ab 4 8],.ret],
 [.tmp 4],9⟩
theorem fN:aM aa 54 []=some dN:=by kernel_rfl
def dg:SC:=
 ai [af [cm 9 .lss 8 7],eY 9 (.exit 0),.block 1 (ai [af [ab 10 8,ab 5 10],af [ab 11 1,ab 12 0,ab 13 5,b4 14 1 12 13,aG 15 14,((some 16),.call (.tmp 11) [(.tmp 15)])],bV 16 (ai [af [ab 17 5,ab 4 17],.ret])]),af [aZ 18 .add 8 1,ab 8 18]]
def dy:SF:=⟨ai [af [bR 4 0],ai [af [ab 6 0,bg 7 6,bR 8 0],fk 0 dg],af [bR 4 (-1)],.ret],
 [.tmp 4],19⟩
theorem fc:aM aa 86 []=some dy:=by kernel_rfl
def c9:SF:=⟨ai [af [bq 4 false],af [ab 5 0,ab 6 1,bX 7 86 [5,6],aZ 8 .geq 7 0,ab 4 8],.ret],
 [.tmp 4],9⟩
theorem eO:aM aa 38 []=some c9:=by kernel_rfl
theorem tx (l:List Int) (h:aF l) (f:FuncId) (cap:List V) (p:Int->Bool) (j:∀x∈l,ak aa f (gi x::cap) (gb (p x))) (e:ba aa f=true) (H:View):
  ar aa 113 [encI l,.fn f [] cap] H λr _=>r=gi (fg p l 0):=by
 refine ar.of mixed gN ?_
 unfold aF at h
 simp(disch:=omega)only[↓wr,seval,wq,eC,encI]
 refine bH.up l.length (λi T _=>fg p (l.drop i) i=fg p l 0/\T 0=encI l/\T 1=.fn f [] cap/\T 7=gi l.length/\T 8=gi i) ⟨rfl,rfl,rfl,rfl,rfl⟩ ?_
 rintro i k T H m ⟨hi,a,b,c,d⟩
 simp(disch:=omega)only[↓wr,seval,wq,dW,a,b,c,d,encI]
 apply aj.dec<;>intro n
 .have g:l[i]?=some (l[i]'(by omega)):=GR (by omega)
  have hm:l[i]'(by omega)∈l:=G4 _
  rw[jW (show i<l.length by omega)] at hi
  generalize l[i]'(by omega)=x at g hm hi
  simp(disch:=omega)only[↓wr,seval,wq,a,b,c,d,encI,GY,g]
  refine av.pure (j x hm) ?_ e
  simp only[fg] at hi
  repeat' (first | ((first|apply aj.dec|apply aj.eq|apply aj.ne|apply aj.split)<;>intro)|(simp(disch:=omega)only[↓wr,seval,wq,a,b,c,d]))
  .rename_i hp
   rw[<-hi,GZ hp]
  .rename_i hp
   refine bC m (by omega) ⟨?_,a,b,c,rfl⟩
   rw[GV (by simp[hp])] at hi
   push_cast;exact hi
 .rw[H8 (by omega)] at hi
  simp(disch:=omega)only[↓wr,seval,wq,a,b,c,d]
  rw[<-hi];rfl
theorem nz {l:List Int} {f:FuncId} {cap:List V} (a:∀v∈cap,Tree v):∀v∈[encI l,.fn f [] cap],Tree v:=by
 intro v b;simp at b
 rcases b with rfl | rfl
 .exact gQ l
 .exact rm (by simp) a
theorem gH (l:List Int) (c:aF l) (f:FuncId) (cap:List V) (a:∀v∈cap,Tree v) (p:Int->Bool) (d:∀x∈l,ak aa f (gi x::cap) (gb (p x))) (b:ba aa f=true):
  ak aa 54 [encI l,.fn f [] cap] (gb (l.any p)):=by
 refine ak.val (nz a) λH=>?_
 refine ar.of mixed fN ?_
 simp(disch:=omega)only[↓wr,seval,wq,dN]
 refine av.pure (ak.val (nz a) (tx l c f cap p d b)) ?_
 simp(disch:=omega)only[↓wr,seval,wq]
 rw[<-mc p l 0 (by omega)]
theorem tw (l:List ByteArray) (h:aF l) (f:FuncId) (cap:List V) (p:ByteArray->Bool) (j:∀x∈l,ak aa f (gs x::cap) (gb (p x))) (e:ba aa f=true) (H:View):
  ar aa 86 [encS l,.fn f [] cap] H λr _=>r=gi (fg p l 0):=by
 refine ar.of mixed fc ?_
 unfold aF at h
 simp(disch:=omega)only[↓wr,seval,wq,dy,encS]
 refine bH.up l.length (λi T _=>fg p (l.drop i) i=fg p l 0/\T 0=encS l/\T 1=.fn f [] cap/\T 7=gi l.length/\T 8=gi i) ⟨rfl,rfl,rfl,rfl,rfl⟩ ?_
 rintro i k T H m ⟨hi,a,b,c,d⟩
 simp(disch:=omega)only[↓wr,seval,wq,dg,a,b,c,d,encS]
 apply aj.dec<;>intro n
 .have g:l[i]?=some (l[i]'(by omega)):=GR (by omega)
  have hm:l[i]'(by omega)∈l:=G4 _
  rw[jW (show i<l.length by omega)] at hi
  generalize l[i]'(by omega)=x at g hm hi
  simp(disch:=omega)only[↓wr,seval,wq,a,b,c,d,encS,GY,g]
  refine av.pure (j x hm) ?_ e
  simp only[fg] at hi
  repeat' (first | ((first|apply aj.dec|apply aj.eq|apply aj.ne|apply aj.split)<;>intro)|(simp(disch:=omega)only[↓wr,seval,wq,a,b,c,d]))
  .rename_i hp
   rw[<-hi,GZ hp]
  .rename_i hp
   refine bC m (by omega) ⟨?_,a,b,c,rfl⟩
   rw[GV (by simp[hp])] at hi
   push_cast;exact hi
 .rw[H8 (by omega)] at hi
  simp(disch:=omega)only[↓wr,seval,wq,a,b,c,d]
  rw[<-hi];rfl
theorem nG {l:List ByteArray} {f:FuncId} {cap:List V} (a:∀v∈cap,Tree v):∀v∈[encS l,.fn f [] cap],Tree v:=by
 intro v b;simp at b
 rcases b with rfl | rfl
 .exact kI l
 .exact rm (by simp) a
theorem pN (l:List ByteArray) (c:aF l) (f:FuncId) (cap:List V) (a:∀v∈cap,Tree v) (p:ByteArray->Bool) (d:∀x∈l,ak aa f (gs x::cap) (gb (p x))) (b:ba aa f=true):
  ak aa 38 [encS l,.fn f [] cap] (gb (l.any p)):=by
 refine ak.val (nG a) λH=>?_
 refine ar.of mixed eO ?_
 simp(disch:=omega)only[↓wr,seval,wq,c9]
 refine av.pure (ak.val (nG a) (tw l c f cap p d b)) ?_
 simp(disch:=omega)only[↓wr,seval,wq]
 rw[<-mc p l 0 (by omega)]
theorem nd {l:List Value}:∀v∈l.map V.val,Tree v:=by
 intro v a;obtain⟨x,_,rfl⟩:=HL.1 a;exact .val _
def nq:SF:=⟨ai [af [bq 6 false],.region false [⟨none,[ab 7 0,ab 8 1,cm 9 .geq 7 8,ab 10 9]⟩,⟨(some (10,true)),[ab 11 0,ab 12 2,cm 13 .leq 11 12]⟩,⟨none,[jg 14 10 13,ab 6 14]⟩],.ret],
 [.tmp 6],15⟩
theorem qi:aM aa 36 []=some nq:=by kernel_rfl
def sL:SF:=⟨ai [af [bR 2 0],af [ab 3 0,((some 4),.op (.arith .sub (.val (.val (.int .i64 (-1)))) (.tmp 3))),ab 2 4],.ret],
 [.tmp 2],5⟩
theorem uX:aM aa 152 []=some sL:=by kernel_rfl
def sB:SF:=⟨ai [af [gU 2 0,bq 4 false],ai [af [ab 5 1,aZ 6 .lss 5 0],bV 6 (ai [.region true [⟨none,[ab 7 1,bX 8 152 [7],aO 9 1 2,aG 10 9,bg 11 10,cm 12 .lss 8 11,ab 4 12]⟩],.ret])],af [ab 13 1,aO 14 0 2,aG 15 14,bg 16 15,cm 17 .lss 13 16,ab 4 17],.ret],
 [.tmp 4],18⟩
theorem uC:aM aa 90 [2]=some sB:=by kernel_rfl
def m6:SF:=⟨ai [af [bq 4 false],.region false [⟨none,[c6 5 4 1,ab 6 0,bX 7 90 [5,6],db 8 7,ab 9 8]⟩,⟨(some (9,false)),[ab 10 0,aZ 11 .geq 10 0,ab 12 11]⟩,⟨(some (12,true)),[aO 13 2 2,aG 14 13,aZ 15 .eql 14 (-1)]⟩,⟨(some (9,false)),[jg 16 12 15]⟩,⟨none,[fY 17 9 16,ab 4 17]⟩],.ret],
 [.tmp 4],18⟩
theorem qv:aM aa 89 []=some m6:=by kernel_rfl
def qx:SF:=⟨ai [af [gU 2 0,gU 3 1,bq 4 false],ai [.region false [⟨none,[aO 5 1 3,aG 6 5,bg 7 6,aZ 8 .gtr 7 6,ab 9 8]⟩,⟨(some (9,false)),[aO 10 2 3,aG 11 10,aO 12 0 2,aG 13 12,bg 14 13,aZ 15 .sub 14 1,mM 16 36 [(.tmp 11),(.val (.val (.int .i64 (-1)))),(.tmp 15)],db 17 16]⟩,⟨none,[fY 18 9 17]⟩],bV 18 (ai [af [bq 4 false],.ret])],af [aO 19 1 3,aG 20 19,((some 21),.op (.nu 89 [] [(.tmp 2),(.tmp 3)])),bX 22 54 [20,21],db 23 22,ab 4 23],.ret],
 [.tmp 4],24⟩
theorem tu:aM aa 41 [2,3]=some qx:=by kernel_rfl
theorem jE (a b c:Int):ak aa 36 [gi a,gi b,gi c] (gb (decide (b<=a)&&decide (a<=c))):=by
 refine ak.val (nd (l:=[.int .i64 a,.int .i64 b,.int .i64 c])) λH=>?_
 refine ar.of mixed qi ?_
 repeat' (first | ((first|apply aj.dec|apply aj.eq|apply aj.ne|apply aj.split)<;>intro)|(simp(disch:=omega)only[↓wr,seval,wq,nq]))
 all_goals simp[*]
theorem Eh (s:Int) (a:eW s):ak aa 152 [gi s] (gi (-1-s)):=by
 refine ak.val (nd (l:=[.int .i64 s])) λH=>?_
 obtain⟨b,c⟩:=a
 refine ar.of mixed uX ?_
 repeat' (first | ((first|apply aj.dec|apply aj.eq|apply aj.ne|apply aj.split)<;>intro)|(simp(disch:=omega)only[↓wr,seval,wq,sL]))
theorem Ej (g:ay) (s:Int) (a:eW s):ak aa 90 [.agg (ax g),gi s] (gb (pF g s)):=by
 refine ak.val (Db g s) λH=>?_
 refine ar.of mixed uC ?_
 repeat' (first | ((first|apply aj.dec|apply aj.eq|apply aj.ne|apply aj.split)<;>intro)|(refine av.pure (Eh s a) ?_)|(simp(disch:=omega)only[↓wr,seval,wq,sB,ax,encS]))
 .rename_i h;simp[pF,show ¬ (0:Int)<=s by omega]
 .rename_i h;simp[pF,show (0:Int)<=s by omega]
theorem fA {cs:List V} {j:Nat} (h:∀v∈cs,Tree v):Tree (.aC cs j):=by
 refine .aC _ _ λi hi=>?_
 have a:cs.getD i .any=cs[i]:=by simp[GQ,hi]
 rw[a];exact h _ (G4 _)
theorem BV (g:ay) (r:aI) (s:Int) (b:eW s):ak aa 89 [gi s,.aC (ax g) 0,.aC (aK r) 0] (gb (!ui g r.prec s)):=by
 refine ak.val ?_ λH=>?_
 .intro v a;simp at a
  rcases a with rfl | rfl | rfl
  .exact .val _
  .exact fA (eP g)
  .exact fA (cG r)
 refine ar.of mixed qv ?_
 simp(disch:=omega)only[↓wr,seval,wq,m6,ax]
 refine av.pure (Ej g s b) ?_
 repeat' (first | ((first|apply aj.dec|apply aj.eq|apply aj.ne|apply aj.split)<;>intro)|(simp(disch:=omega)only[↓wr,seval,wq,aK]))
 all_goals simp[ui, *]
theorem Cj (g:ay) (r:aI) (e:g.Ok) (hr:aF r.right/\∀x∈r.right,eW x):ak aa 41 [.agg (ax g),.agg (aK r)] (gb (kD g r)):=by
 refine ak.val (CS g r) λH=>?_
 have f:=e.an
 unfold aF at f
 refine ar.of mixed tu ?_
 repeat' (first | ((first|apply aj.dec|apply aj.eq|apply aj.ne|apply aj.split)<;>intro)|(refine av.pure (jE _ _ _) ?_)|(simp(disch:=omega)only[↓wr,seval,wq,qx,ax,aK,encI,encS]))
 .rename_i h;simp[kD,show ¬ r.right.length<=6 by omega]
 .rename_i i b
  have c:r.right.length<=6:=by omega
  have a : -1<=r.prec/\r.prec<g.an.length:=by simp at b;omega
  refine av.pure (gH r.right hr.1 89 [.aC (ax g) 0,.aC (aK r) 0] ?_ (λs=>!ui g r.prec s) (λx j=>BV g r x (hr.2 x j)) (by kernel_rfl)) ?_
  .intro v d;simp at d
   rcases d with rfl | rfl
   .exact fA (eP g)
   .exact fA (cG r)
  simp(disch:=omega)only[↓wr,seval,wq]
  simp[kD,c,a.1,a.2]
  rw[HT]
  simp
 .rename_i i b
  have c:¬ (-1<=r.prec/\r.prec<g.an.length):=by simp at b;omega
  have:(decide (-1<=r.prec)&&decide (r.prec<(g.an.length:Int)))=false:=by
   rw[<-Bool.decide_and];simpa using c
  simp only[kD,Bool.and_assoc]
  rw[<-Bool.and_assoc (decide (-1<=r.prec)),this];simp
theorem C9 (l:List Int) (f:l.getD 0 0=39):((gK l).2==0&&(gK l).1==(l.length:Int))=k7 l:=by
 match l,f with
 | [],h=>simp at h
 | [a],_=>rfl
 | [a,b],_ =>
  simp only[gK,fo,k7,G5,Hh,Il,HQ]
  repeat' split
  all_goals simp_all
 | [a,b,c],f =>
  have g:a=39:=by simpa using f
  subst g
  simp only[gK,fo,k7,nt,ry,G5,Hh,Il,HQ]
  repeat' split
  all_goals simp_all
  all_goals grind
 | [a,b,c,d],f =>
  have g:a=39:=by simpa using f
  subst g
  simp only[gK,fo,k7,nt,ry,G5,Hh,Il,HQ]
  repeat' split
  all_goals simp_all
  all_goals grind
 | a::b::c::d::e::r,f =>
  simp only[gK,fo,k7,nt,ry,G5,Il,HQ]
  repeat' split
  all_goals simp_all
  all_goals (try omega)
  all_goals grind
theorem yM {c:Int} {l:List Int} (h:¬ c=39):k7 (c::l)=false:=by
 match l with
 | []=>rfl
 | [_]=>rfl
 | [_,_]=>simp[k7,h]
 | [_,_,_]=>simp[k7,h]
 | _::_::_::_::_=>rfl
theorem Bj (s:ByteArray):ak aa 148 [gs s] (gb (k7 (eD s))):=by
 refine ak.val (oA s) λH=>?_
 refine ar.of mixed pK ?_
 have f:=λd (k:d∈eD s)=>sn (s:=s) (c:=d) k
 have j:ak aa 203 [.al (dt s)] (.aA [gi (gK (eD s)).1,gi (gK (eD s)).2]):=by
  rw[Bg]
  refine ak.of ?_ ((zd (eD s) f _).mono λr H' h m _=>by rw[h];exact .tree _ (.aA _ λi hi=>by
   match i,hi with
   | 0,_=>exact .val _
   | 1,_=>exact .val _))
  intro v a;simp at a;subst a
  exact dP _ _ λx _ v a=>by simp at a;subst a;exact .val _
 cases e:eD s with
 | nil =>
  repeat' (first | ((first|apply aj.dec|apply aj.eq|apply aj.ne|apply aj.split)<;>intro)|(simp(disch:=omega)only[↓wr,seval,wq,ju,e9,nR,e]))
  rfl
 | cons c l =>
  have b:=C9 (eD s)
  rw[e] at j b
  repeat' (first | ((first|apply aj.dec|apply aj.eq|apply aj.ne|apply aj.split)<;>intro)|(simp(disch:=omega)only[↓wr,seval,wq,ju,e9,nR,e,Hd]))
  .rename_i h
   rw[yM h]
  .rename_i h
   refine av.pure j ?_
   have b:=b (by simpa using h)
   repeat' (first | ((first|apply aj.dec|apply aj.eq|apply aj.ne|apply aj.split)<;>intro)|(simp(disch:=omega)only[↓wr,seval,wq,e9,e]))
   .rename_i g
    rw[<-b];simp[g]
   .rename_i g
    rw[<-b];simp[g]
theorem AB (s:ByteArray):ak aa 81 [gs s] (gb (qb (eD s))):=by
 refine ak.val (oA s) λH=>?_
 refine ar.of mixed rL ?_
 repeat' (first | ((first|apply aj.dec|apply aj.eq|apply aj.ne|apply aj.split)<;>intro)|(refine av.pure (uf s) ?_)|(refine av.pure (Bj s) ?_)|(simp(disch:=omega)only[↓wr,seval,wq,oX]))
 all_goals simp[qb, *]
theorem zr (s:ByteArray):ak aa 39 [gs s] (gb (!fR (eD s))):=by
 refine ak.val (oA s) λH=>?_
 refine ar.of mixed px ?_
 repeat' (first | ((first|apply aj.dec|apply aj.eq|apply aj.ne|apply aj.split)<;>intro)|(refine av.pure (uf s) ?_)|(simp(disch:=omega)only[↓wr,seval,wq,mK]))
def lO:SC:=
 ai [af [cm 12 .lss 11 10],eY 12 (.exit 0),.block 1 (ai [.region false [⟨none,[b4 13 3 9 11,c6 14 3 13,((some 6),.op (.alloc [(.val (.string ⟨#[]⟩)),(.val (.int .i64 0)),(.val (.int .i64 0))])),gp 3 6 14]⟩],ai [af [aO 15 1 6,aG 16 15,aZ 17 .eql 16 0],bV 17 (.exit 1)],ai [af [ab 18 3,aO 19 1 6,aG 20 19,((some 21),.op (.old (.lookup 198 (.tmp 18) (.tmp 20) false) 3)),ab 7 21],.region false [⟨none,[ab 22 7,aZ 23 .neq 22 0,ab 24 23]⟩,⟨(some (24,true)),[ab 25 7,aO 26 2 6,aG 27 26,cm 28 .neq 25 27]⟩,⟨none,[jg 29 24 28]⟩],bV 29 (ai [af [bq 2 false],.ret])],af [ab 30 3,aO 31 1 6,aG 32 31,aO 33 2 6,aG 34 33,(none,.op (.old (.mapUpdate 198 (.tmp 30) (.tmp 32) (.tmp 34)) 0))],af [ab 35 4,aO 36 1 6,aG 37 36,((some 38),.op (.mm true (.tmp 35) (.tmp 37))),ab 4 38]]),af [aZ 39 .add 11 1,ab 11 39]]
def nN:SF:=⟨ai [af [bq 2 false],af [((some 8),.op (.mz)),ab 3 8],af [bR 4 0],ai [af [ab 9 0,bg 10 9,bR 11 0],fk 0 lO],af [ab 40 3,((some 41),.op (.old (.call { callee:=.builtin .len,args:=#[(.tmp 40)],argTypes:=#[198] }) 3)),ab 42 4,cm 43 .eql 41 42,ab 2 43],.ret],
 [.tmp 2],44⟩
theorem ql:aM aa 82 []=some nN:=by kernel_rfl
def mF:SC:=
 ai [af [cm 8 .lss 7 6],eY 8 (.exit 0),.block 1 (ai [.region false [⟨none,[b4 9 3 5 7,c6 10 3 9,((some 4),.op (.alloc [(.val (.string ⟨#[]⟩)),(.val (.int .i64 0)),(.val (.int .i64 0))])),gp 3 4 10]⟩],.region false [⟨none,[aO 11 0 4,aG 12 11,bX 13 81 [12],db 14 13,ab 15 14]⟩,⟨(some (15,false)),[aO 16 1 4,aG 17 16,mM 18 36 [(.tmp 17),(.val (.val (.int .i64 0))),(.val (.val (.int .i64 24)))],db 19 18]⟩,⟨none,[fY 20 15 19,ab 21 20]⟩,⟨(some (21,false)),[aO 22 2 4,aG 23 22,mM 24 36 [(.tmp 23),(.val (.val (.int .i64 0))),(.val (.val (.int .i64 3)))],db 25 24]⟩,⟨none,[fY 26 21 25,ab 27 26]⟩,⟨(some (27,false)),[aO 28 1 4,aG 29 28,aZ 30 .eql 29 0,aO 31 2 4,aG 32 31,aZ 33 .eql 32 0,((some 34),.op (.beq false (.tmp 30) (.tmp 33)))]⟩,⟨none,[fY 35 27 34]⟩],bV 35 (ai [af [bq 2 false],.ret])]),af [aZ 36 .add 7 1,ab 7 36]]
def pb:SF:=⟨ai [af [bq 2 false],ai [af [ab 5 0,bg 6 5,bR 7 0],fk 0 mF],.region false [⟨none,[ab 37 0,bg 38 37,aZ 39 .leq 38 24,ab 40 39]⟩,⟨(some (40,true)),[ab 41 0,bX 42 82 [41]]⟩,⟨none,[jg 43 40 42,ab 2 43]⟩],.ret],
 [.tmp 2],44⟩
theorem rP:aM aa 35 []=some pb:=by kernel_rfl
def mD:SC:=
 ai [af [cm 16 .lss 15 14],eY 16 (.exit 0),.block 1 (ai [.region false [⟨none,[b4 17 3 13 15,c6 18 3 17,((some 5),.op (.alloc [(.val (.string ⟨#[]⟩)),(.val (.int .i64 0)),(.val (.int .i64 0))])),gp 3 5 18]⟩],.region false [⟨none,[ab 19 3,aO 20 0 5,aG 21 20,((some 22),.op (.en 1 1 [(.val (.string ⟨#[]⟩))] [(0,(.tmp 21))])),o9 23 1 16 19 22,ab 3 23]⟩]]),af [aZ 24 .add 15 1,ab 15 24]]
def mJ:SC:=
 ai [af [cm 65 .lss 64 63],eY 65 (.exit 2),.block 3 (ai [af [b4 66 3 62 64,c6 67 3 66,((some 8),.op (.alloc [(.val (.int .i64 0)),(.emp 1),(.val (.int .i64 0))])),gp 3 8 67],ai [.region false [⟨none,[aO 68 0 8,aG 69 68,ab 70 6,mM 71 36 [(.tmp 69),(.val (.val (.int .i64 0))),(.tmp 70)],db 72 71,ab 73 72]⟩,⟨(some (73,false)),[c6 74 4 1,c6 75 3 8,bX 76 41 [74,75],db 77 76]⟩,⟨none,[fY 78 73 77]⟩],bV 78 (ai [af [bq 2 false],.ret])],af [ab 79 6,aO 80 0 8,aG 81 80,aZ 82 .add 81 1,((some 83),.op (.mm true (.tmp 79) (.tmp 82))),ab 6 83]]),af [aZ 84 .add 64 1,ab 64 84]]
def oQ:SF:=⟨ai [af [gU 1 0,bq 2 false],af [aO 9 1 1,aG 10 9,bX 11 34 [10],ab 3 11],ai [af [aO 12 0 1,aG 13 12,bg 14 13,bR 15 0],fk 0 mD],ai [.region false [⟨none,[aO 25 0 1,aG 26 25,bX 27 35 [26],db 28 27,ab 29 28]⟩,⟨(some (29,false)),[aO 30 1 1,aG 31 30,bg 32 31,mM 33 36 [(.tmp 32),(.val (.val (.int .i64 1))),(.val (.val (.int .i64 16)))],db 34 33]⟩,⟨none,[fY 35 29 34,ab 36 35]⟩,⟨(some (36,false)),[aO 37 2 1,aG 38 37,bg 39 38,mM 40 36 [(.tmp 39),(.val (.val (.int .i64 1))),(.val (.val (.int .i64 40)))],db 41 40]⟩,⟨none,[fY 42 36 41,ab 43 42]⟩,⟨(some (43,false)),[ab 44 3,bX 45 37 [44],db 46 45]⟩,⟨none,[fY 47 43 46,ab 48 47]⟩,⟨(some (48,false)),[aO 49 3 1,aG 50 49,aO 51 1 1,aG 52 51,bg 53 52,aZ 54 .sub 53 1,mM 55 36 [(.tmp 50),(.val (.val (.int .i64 0))),(.tmp 54)],db 56 55]⟩,⟨none,[fY 57 48 56]⟩],bV 57 (ai [af [bq 2 false],.ret])],ai [af [aO 58 1 1,aG 59 58,mM 60 38 [(.tmp 59),(.val (.fn 39 [] []))]],bV 60 (ai [af [bq 2 false],.ret])],af [bR 6 0],ai [af [aO 61 2 1,aG 62 61,bg 63 62,bR 64 0],fk 2 mJ],af [ab 85 6,aO 86 1 1,aG 87 86,bg 88 87,cm 89 .eql 85 88,ab 2 89],.ret],
 [.tmp 2],90⟩
theorem rF:aM aa 17 [1]=some oQ:=by kernel_rfl
def bY (l:List Term):V:=.al (l.map cd)
theorem q6 (l:List Term):∀v∈[bY l],Tree v:=by intro v a;simp at a;subst a;exact dP _ _ λx _=>ks x
def iI:List Term->List (Int × Int)->Int->Option (List (Int × Int) × Int)
 | [],a,top=>some (a,top)
 | t::r,a,top=>if t.level=0 then iI r a top else
  if (bU a t.level).getD 0≠0/\(bU a t.level).getD 0≠t.assoc then none else iI r (fG t.level t.assoc a) (if t.level>top then t.level else top)
def jT (l:List Term):Bool:=match iI l [] 0 with
 | some (a,top)=>(a.length:Int)==top
 | none=>false
theorem zK (l:List Term) (G:aF l):ak aa 82 [bY l] (gb (jT l)):=by
 refine ak.val (q6 l) λH=>?_
 refine ar.of mixed ql ?_
 unfold aF at G
 simp(disch:=omega)only[↓wr,seval,wq,nN,bY]
 intro q s
 try simp(disch:=omega)only[↓wr,seval,wq]
 refine bH.up l.length (λi T H=>(∃a m c top,H q=.map (cO (Value.int .i64) m) c/\iu gi a m/\T 4=gi top/\iI (l.drop i) a top=iI l [] 0)/\T 0=bY l/\T 3=.mp q/\T 9=bY l/\T 10=gi l.length/\T 11=gi i) ?_ ?_
 .refine⟨⟨[],[],0,0,?_,trivial,rfl,rfl⟩,rfl,rfl,rfl,rfl,rfl⟩
  simp[View.set,cO]
 rintro i k T H C ⟨⟨a,m,c,top,s,hm,o,hi⟩,j,f,n,d,g⟩
 simp(disch:=omega)only[↓wr,seval,wq,lO,j,f,o,n,d,g,bY]
 apply aj.dec<;>intro I
 .have D:l[i]?=some (l[i]'(by omega)):=GR (by omega)
  rw[jW (show i<l.length by omega)] at hi
  generalize l[i]'(by omega)=t at D hi
  simp only[iI] at hi
  simp(disch:=omega)only[↓wr,seval,wq,j,f,o,n,d,g,bY,cd,GY,D]
  intro b E
  have h:b≠q:=by rintro rfl;rw[s] at E;simp at E
  try simp(disch:=omega)only[↓wr,seval,wq]
  apply aj.eq<;>intro x
  .rw[GZ x] at hi
   simp(disch:=omega)only[↓wr,seval,wq,j,f,o,n,d,g]
   refine bC C (by omega) ⟨⟨a,m,c,top,?_,hm,o,hi⟩,j,f,n,d,rfl⟩
   simp[View.set,h.symm,s]
  .rw[GV x] at hi
   simp(disch:=omega)only[↓wr,seval,wq,j,f,o,n,d,g]
   refine tP (kt:=3) (et:=3) (z:=gi 0) (by kernel_rfl) (by kernel_rfl) (js .i64 Tryz.underlying3) (id:=q) (c:=c) (m:=m) (k:=t.level) (by simp(disch:=omega)only[↓wr,seval,wq,f]) (by simp(disch:=omega)only[↓wr,seval,wq,f]) (by simp[View.set,h.symm,s]) ?_
   have y:(getM m t.level).getD (gi 0)=gi ((bU a t.level).getD 0):=by
    rw[hm.get];cases bU a t.level<;>rfl
   have p:∀(A:View) (u:Nat) (r:Env),(¬ ((bU a t.level).getD 0≠0/\(bU a t.level).getD 0≠t.assoc)) ->
     A q=.map (cO (Value.int .i64) (ga t.level (gi t.assoc) c m)) u->r 0=bY l->r 3=.mp q->r 4=gi (if t.level>top then t.level else top)->r 9=bY l->r 10=gi l.length->r 11=gi ((i:Int)+1) ->
     ∃F,F<k/\xS l.length F (λi T H=>(∃a m c top,H q=.map (cO (Value.int .i64) m) c/\iu gi a m/\T 4=gi top/\iI (l.drop i) a top=iI l [] 0)/\T 0=bY l/\T 3=.mp q/\T 9=bY l/\T 10=gi l.length/\T 11=gi i) r A:=by
    intro A u r J g1 g2 g3 g4 g5 g6 g7
    rw[GV J] at hi
    exact bC C (by omega) ⟨⟨_,_,u,_,g1,hm.put t.level t.assoc c,g4,hi⟩,g2,g3,g5,g6,by rw[g7];rfl⟩
   repeat' (first | ((first|apply aj.dec|apply aj.eq|apply aj.ne|apply aj.split)<;>intro)|(simp(disch:=omega)only[↓wr,seval,wq,j,f,o,n,d,g,y]))
   .rename_i w B
    rw[GZ ⟨w,B⟩] at hi
    simp only[jT,<-hi]
   .rename_i w B
    refine uj (kt:=3) (et:=3) (by kernel_rfl) (js .i64 Tryz.underlying3) (id:=q) (c:=c) (m:=m) (k:=t.level) (v:=gi t.assoc) (by simp(disch:=omega)only[↓wr,seval,wq,f]) (by simp(disch:=omega)only[↓wr,seval,wq,f]) (by simp(disch:=omega)only[↓wr,seval,wq,f]) (by simp[View.set,h.symm,s]) ?_
    intro u
    simp(disch:=omega)only[↓wr,seval,wq,j,f,o,n,d,g,h]
    exact p _ u _ (λe=>e.2 B) (by simp[View.set]) j f rfl n d rfl
   .rename_i w
    refine uj (kt:=3) (et:=3) (by kernel_rfl) (js .i64 Tryz.underlying3) (id:=q) (c:=c) (m:=m) (k:=t.level) (v:=gi t.assoc) (by simp(disch:=omega)only[↓wr,seval,wq,f]) (by simp(disch:=omega)only[↓wr,seval,wq,f]) (by simp(disch:=omega)only[↓wr,seval,wq,f]) (by simp[View.set,h.symm,s]) ?_
    intro u
    simp(disch:=omega)only[↓wr,seval,wq,j,f,o,n,d,g,h]
    exact p _ u _ (λe=>e.1 w) (by simp[View.set]) j f rfl n d rfl
 .rw[H8 (by omega)] at hi
  simp only[iI] at hi
  simp(disch:=omega)only[↓wr,seval,wq,j,f,o,n,d,g]
  refine E3 (kt:=3) (et:=3) (by kernel_rfl) (id:=q) (c:=c) (m:=m) (by simp(disch:=omega)only[↓wr,seval,wq,f]) s ?_
  simp(disch:=omega)only[↓wr,seval,wq,j,f,o,n,d,g,hm.len]
  simp only[jT,<-hi]
def fP (t:Term):Bool:=qb (eD t.name)&&decide (0<=t.level)&&decide (t.level<=24)&&decide (0<=t.assoc)&&decide (t.assoc<=3)&&((t.level==0)==(t.assoc==0))
def kd (l:List Term):Bool:=l.all fP&&decide (l.length<=24)&&jT l
theorem BX (l:List Term) (p:aF l):ak aa 35 [bY l] (gb (kd l)):=by
 refine ak.val (q6 l) λH=>?_
 refine ar.of mixed rP ?_
 have j:=p
 unfold aF at p
 simp(disch:=omega)only[↓wr,seval,wq,pb,bY]
 refine bH.up l.length (λi T H=>(l.drop i).all fP=l.all fP/\T 0=bY l/\T 5=bY l/\T 6=gi l.length/\T 7=gi i) ?_ ?_
 .exact⟨rfl,rfl,rfl,rfl,rfl⟩
 rintro i k T H r ⟨hi,c,d,f,g⟩
 simp(disch:=omega)only[↓wr,seval,wq,mF,c,d,f,g,bY]
 apply aj.dec<;>intro s
 .have q:l[i]?=some (l[i]'(by omega)):=GR (by omega)
  rw[jW (show i<l.length by omega)] at hi
  generalize l[i]'(by omega)=t at q hi
  rw[Ia] at hi
  have a:fP t=false->gb false=gb (kd l):=λe=>by rw[e,Bool.false_and] at hi;simp[kd,<-hi]
  simp(disch:=omega)only[↓wr,seval,wq,c,d,f,g,bY,cd,GY,q]
  intro b w
  repeat' (first | ((first|apply aj.dec|apply aj.eq|apply aj.ne|apply aj.split)<;>intro)|(refine av.pure (AB t.name) ?_)|(refine av.pure (jE _ _ _) ?_)|(simp(disch:=omega)only[↓wr,seval,wq,c,d,f,g,bY]))
  all_goals first
   | (refine a ?_;simp[fP, *];done)
   | (refine a ?_;simp_all [fP];done)
   | skip
  rename_i u m n v
  refine bC r (by omega) ⟨?_,c,d,f,rfl⟩
  have:fP t=true:=by
   simp only[G0,G7] at m n
   have o:((t.level==0)==(t.assoc==0))=true:=by simpa [bne] using v
   simp[fP,u,m.1,m.2,n.1,n.2,o]
  rw[this,Bool.true_and] at hi
  exact hi
 .rw[H8 (by omega),List.all_nil] at hi
  simp(disch:=omega)only[↓wr,seval,wq,c,d,f,g,bY]
  repeat' (first | ((first|apply aj.dec|apply aj.eq|apply aj.ne|apply aj.split)<;>intro)|(refine av.pure (zK l j) ?_)|(simp(disch:=omega)only[↓wr,seval,wq,c,d,f,g,bY]))
  .rename_i h
   simp[kd,<-hi,show l.length<=24 by omega]
  .rename_i h
   simp[kd,<-hi,show ¬ l.length<=24 by omega]
open Go Go.Proofs Go.Shelf Go.RowKit Go.Sort
attribute [local go_sem] Oper.semAt_some
def fa:Ren where
 f:=fun
  | 6=>83
  | 8=>149
  | 9=>150
  | 11=>204
  | 13=>206
  | 12=>205
  | 23=>252
  | 24=>253
  | 14=>243
  | 15=>244
  | 16=>245
  | 17=>246
  | 18=>247
  | 19=>248
  | 20=>249
  | 21=>250
  | 22=>251
  | 25=>300
  | 26=>301
  | 27=>302
  | 28=>303
  | 29=>304
  | 30=>305
  | 31=>325
  | n=>n
 t:=fun
  | 26=>9
  | 28=>190
  | 24=>32
  | 0=>0
  | 3=>3
  | 37=>53
  | 48=>29
  | 50=>383
  | 4=>4
  | 40=>395
  | 39=>394
  | 45=>170
  | 5=>5
  | 9=>9
  | 51=>440
  | 55=>444
  | 57=>462
  | 58=>463
  | 33=>112
  | n=>n
 g:=λn=>n
theorem DU:Go.Proofs.SlLaysZ.n6 aa fa where
 mixed:=by kernel_rfl
 f6:=⟨Tryz.f83.name,by kernel_rfl,by kernel_rfl⟩
 f8:=⟨Tryz.f149.name,by kernel_rfl,by kernel_rfl⟩
 f11:=⟨Tryz.f204.name,by kernel_rfl,by kernel_rfl⟩
 t0:=Tryz.underlying0
 a0:=Tryz.isAgg0
 z0:=Tryz.sizeOf0
 v0:=Tryz.zeroValue0
 t24:=Tryz.underlying32
 a24:=Tryz.isAgg32
 z24:=Tryz.sizeOf32
 v24:=Tryz.zeroValue32
 t26:=Tryz.underlying9
 a26:=Tryz.isAgg9
 z26:=Tryz.sizeOf9
 v26:=Tryz.zeroValue9
 t28:=Tryz.underlying190
 a28:=Tryz.isAgg190
 z28:=Tryz.sizeOf190
 v28:=Tryz.zeroValue190
 i26:=by kernel_rfl
def zP:Ren where
 f:=fun
  | 6=>150
  | 8=>206
  | 9=>205
  | 19=>252
  | 20=>253
  | 21=>243
  | 22=>244
  | 23=>245
  | 24=>246
  | 25=>247
  | 26=>248
  | 27=>249
  | 28=>250
  | 29=>251
  | 36=>300
  | 31=>301
  | 32=>302
  | 37=>303
  | 38=>304
  | 39=>305
  | 41=>325
  | n=>n
 t:=fun
  | 27=>32
  | 29=>9
  | 3=>3
  | 32=>53
  | 26=>32
  | 0=>0
  | 44=>29
  | 46=>383
  | 4=>4
  | 36=>395
  | 35=>394
  | 41=>170
  | 5=>5
  | 9=>9
  | 53=>440
  | 57=>444
  | 63=>462
  | 64=>463
  | n=>n
 g:=λn=>n
theorem Dn:Go.Proofs.SlLaysM.n6 aa zP where
 mixed:=by kernel_rfl
 f6:=⟨Tryz.f150.name,by kernel_rfl,by kernel_rfl⟩
 f8:=by kernel_rfl
 f9:=⟨Tryz.f205.name,by kernel_rfl,by kernel_rfl⟩
 f19:=by kernel_rfl
 f20:=by kernel_rfl
 f21:=⟨Tryz.f243.name,by kernel_rfl,by kernel_rfl⟩
 f22:=⟨Tryz.f244.name,by kernel_rfl,by kernel_rfl⟩
 f23:=⟨Tryz.f245.name,by kernel_rfl,by kernel_rfl⟩
 f24:=⟨Tryz.f246.name,by kernel_rfl,by kernel_rfl⟩
 f25:=⟨Tryz.f247.name,by kernel_rfl,by kernel_rfl⟩
 f26:=⟨Tryz.f248.name,by kernel_rfl,by kernel_rfl⟩
 f27:=⟨Tryz.f249.name,by kernel_rfl,by kernel_rfl⟩
 f28:=⟨Tryz.f250.name,by kernel_rfl,by kernel_rfl⟩
 f29:=⟨Tryz.f251.name,by kernel_rfl,by kernel_rfl⟩
 f31:=by kernel_rfl
 f32:=by kernel_rfl
 f36:=⟨Tryz.f300.name,by kernel_rfl,by kernel_rfl⟩
 f37:=⟨Tryz.f303.name,by kernel_rfl,by kernel_rfl⟩
 f38:=⟨Tryz.f304.name,by kernel_rfl,by kernel_rfl⟩
 f39:=⟨Tryz.f305.name,by kernel_rfl,by kernel_rfl⟩
 f41:=⟨Tryz.f325.name,by kernel_rfl,by kernel_rfl⟩
 t0:=Tryz.underlying0
 a0:=Tryz.isAgg0
 z0:=Tryz.sizeOf0
 v0:=Tryz.zeroValue0
 t3:=Tryz.underlying3
 a3:=Tryz.isAgg3
 z3:=Tryz.sizeOf3
 v3:=Tryz.zeroValue3
 t4:=Tryz.underlying4
 a4:=Tryz.isAgg4
 z4:=Tryz.sizeOf4
 v4:=Tryz.zeroValue4
 t5:=Tryz.underlying5
 a5:=Tryz.isAgg5
 z5:=Tryz.sizeOf5
 v5:=Tryz.zeroValue5
 t9:=Tryz.underlying9
 a9:=Tryz.isAgg9
 z9:=Tryz.sizeOf9
 v9:=Tryz.zeroValue9
 t26:=Tryz.underlying32
 a26:=Tryz.isAgg32
 z26:=Tryz.sizeOf32
 v26:=Tryz.zeroValue32
 t27:=Tryz.underlying32
 a27:=Tryz.isAgg32
 z27:=Tryz.sizeOf32
 v27:=Tryz.zeroValue32
 t29:=Tryz.underlying9
 a29:=Tryz.isAgg9
 z29:=Tryz.sizeOf9
 v29:=Tryz.zeroValue9
 t32:=Tryz.underlying53
 a32:=Tryz.isAgg53
 z32:=Tryz.sizeOf53
 v32:=Tryz.zeroValue53
 t35:=Tryz.underlying394
 a35:=Tryz.isAgg394
 z35:=Tryz.sizeOf394
 v35:=Tryz.zeroValue394
 t36:=Tryz.underlying395
 a36:=Tryz.isAgg395
 z36:=Tryz.sizeOf395
 v36:=Tryz.zeroValue395
 t41:=Tryz.underlying170
 a41:=Tryz.isAgg170
 z41:=Tryz.sizeOf170
 v41:=Tryz.zeroValue170
 t44:=Tryz.underlying29
 a44:=Tryz.isAgg29
 z44:=Tryz.sizeOf29
 v44:=Tryz.zeroValue29
 t46:=Tryz.underlying383
 a46:=Tryz.isAgg383
 z46:=Tryz.sizeOf383
 v46:=Tryz.zeroValue383
 t53:=Tryz.underlying440
 a53:=Tryz.isAgg440
 z53:=Tryz.sizeOf440
 v53:=Tryz.zeroValue440
 t57:=Tryz.underlying444
 a57:=Tryz.isAgg444
 z57:=Tryz.sizeOf444
 v57:=Tryz.zeroValue444
 t63:=Tryz.underlying462
 a63:=Tryz.isAgg462
 z63:=Tryz.sizeOf462
 v63:=Tryz.zeroValue462
 t64:=Tryz.underlying463
 a64:=Tryz.isAgg463
 z64:=Tryz.sizeOf463
 v64:=Tryz.zeroValue463
def AV:Ren where
 f:=fun
  | 44=>85
  | n=>n
 t:=fun
  | 25=>32
  | 26=>9
  | 3=>3
  | 4=>4
  | 0=>0
  | n=>n
 g:=λn=>n
theorem DD:Go.Proofs.SlLaysN.n44 aa AV where
 mixed:=by kernel_rfl
 f44:=⟨Tryz.f85.name,by kernel_rfl,by kernel_rfl⟩
 t0:=Tryz.underlying0
 a0:=Tryz.isAgg0
 z0:=Tryz.sizeOf0
 v0:=Tryz.zeroValue0
 t3:=Tryz.underlying3
 a3:=Tryz.isAgg3
 z3:=Tryz.sizeOf3
 v3:=Tryz.zeroValue3
 t4:=Tryz.underlying4
 a4:=Tryz.isAgg4
 z4:=Tryz.sizeOf4
 v4:=Tryz.zeroValue4
 t25:=Tryz.underlying32
 a25:=Tryz.isAgg32
 z25:=Tryz.sizeOf32
 v25:=Tryz.zeroValue32
 t26:=Tryz.underlying9
 a26:=Tryz.isAgg9
 z26:=Tryz.sizeOf9
 v26:=Tryz.zeroValue9
 i26:=by kernel_rfl
def qc (n:Nat) (P:Program) (g:Nat) (lb:Array Value) (S:List (List UInt8)->Prop) (N:Nat) (w:World):Prop:=
 ∀(l:Nat) (J:List (List UInt8)->World->Prop) (W:World),(∀pre W',J pre W'->Below w.heap.size w W') ->
  (∀pre x W1,J pre W1->pre.length<N->YieldAt Fence.wide (n-1) P l #[encStr x] W1 λe W'=>e=.returned (.bool true)/\J (pre++[x]) W'/\KeepsWalks W1 W') ->
  J [] W->CallsIn Fence.wide n P g (#[.func (.yield l) #[] #[]]++lb) W λe W'=>(∃v,e=.returned v)/\∃xs,S xs/\J xs W'
theorem Ay {a:List (List UInt8)} {k:Nat} (h:k<a.length):a.take k++[a.getD k []]=a.take (k+1):=by
 rw[Hn];simp[GQ,h]
theorem y8 (n:Nat) (hn:1<=n) (Bs b off cap:Nat) (zs:List (List UInt8)) (hreach:zs.length*16<=140737488351232) (w:World)
  (hBs:w.cell? ⟨Bs,0,none⟩=some (.slice (some ⟨b,off,none⟩) zs.length cap)) (hBl:Bs<w.heap.size) (hbl:b<w.heap.size)
  (hc:∀j,j<zs.length->w.cell? ⟨b,off+j,none⟩=some (encStr (zs.getD j []))):
  qc n aa 151 #[.pointer (some ⟨Bs,0,none⟩)] (λxs=>xs=zs) zs.length w:=by
 intro l J W hJ hY h0
 have hbw:=hJ _ _ h0
 have hBs':=(hbw.cell (p:=⟨Bs,0,none⟩) hBl).trans hBs
 have hf:Fence.wide.fn 151:=trivial
 refine callsIn_of_wp Tryz.func151 rfl hf ?_ rfl
 simp only[Tryz.ntmps151,HJ,G5,Hh,Nat.reduceAdd,Nat.reduceSub,HY,HZ,Ij,H7,Ih,HF]
 gi_wp2
 gi_loopw [7] (λi wr=>∃k:Nat,k<=zs.length/\i=.int .i64 k/\J (zs.take k) wr) (λi _=>zs.length-(RowKit.intOf i).toNat)
 case atStart=>exact⟨0,HG _,rfl,by simpa using h0⟩
 case round =>
  obtain⟨k,hk,rfl,hJs⟩:=hrel
  have hnx:=hJ _ _ hJs
  have hcx:k<zs.length->wr.cell? ⟨b,off+k,none⟩=some (encStr (zs.getD k [])):=λh=>(hnx.cell (p:=⟨b,off+k,none⟩) hbl).trans (hc k h)
  by_cases hlt:k<zs.length
  .obtain⟨x,hx1,hcx'⟩:∃x,zs.take k++[x]=zs.take (k+1)/\wr.cell? ⟨b,off+k,none⟩=some (encStr x):=⟨_,Ay hlt,hcx hlt⟩
   obtain⟨fn,tmps,assign,body,hy,hR⟩:=hY _ x wr hJs (by simp;omega)
   clear hcx hJs
   gi_wp2
   refine hR.mono ?_
   rintro e W3 ⟨rfl,hJ3,hk3⟩
   gi_wp2
   go_roundw
   case rel=>exact⟨k+1,by omega,by simp,by rw[<-hx1];exact hJ3⟩
   case measure=>simp[RowKit.intOf];omega
  .obtain rfl:k=zs.length:=by omega
   clear hcx
   gi_wp2
   go_end0
   exact⟨⟨_,rfl⟩,_,rfl,by simpa using hJs⟩
theorem tW (n:Nat) (hn:2<=n) (g:Nat) (lb:Array Value) (eg:∀args w,(callFunc g args).run aa w=.ok (.enter g args) w)
  (S:List (List UInt8)->Prop) (N:Nat) (hN:N<=maxLen) (hNb:N*16<=140737488355328) (w:World) (hseq:qc (n-1) aa g lb S N w):
  CallsIn Fence.wide n aa 204 #[.slice none 0 0,.func (.func g) #[] lb] w λe w'=>∃(v:Value) (ss:List (List UInt8)),e=.returned v/\S ss/\w'.ownsRow w.heap.size 9 1 v ss.length (ss.map encStr)/\Below w.heap.size w w':=by
 have h11:Fence.wide.fn 204:=trivial
 refine callsIn_of_wp_marks Tryz.func204 rfl h11 ?_ rfl
 simp only[Tryz.ntmps204,HJ,G5,Hh,Nat.reduceAdd,Nat.reduceSub,HY,HZ,Ij,H7,Ih,HF]
 gi_wp2
 refine wpIn_rangeFunc ?_
 intro fn hfn
 let sv:Value:=.func (.func g) #[] lb
 have hz:(w.alloc (.cells #[.slice none 0 0] 32)).heap.size=w.heap.size+1:=by simp
 have hv0:=World.alloc_heap_new w (.cells #[.slice none 0 0] 32)
 have hb0:Below w.heap.size w (w.alloc (.cells #[.slice none 0 0] 32)):=(Below.refl _ w).alloc (GX _) _
 revert hz hv0 hb0
 generalize w.alloc (.cells #[.slice none 0 0] 32)=W0
 intro hz hv0 hb0
 obtain⟨W1,hW1⟩:∃W1,(W0.alloc (.deferred (some []))).alloc (.loop (AnyZ.apRec fa fn sv w.heap.size W0.heap.size .ready none))=W1:=⟨_,rfl⟩
 have hold:∀k,k<W0.heap.size->W1.heap[k]?=W0.heap[k]?:=λk hk=>by
  rw[<-hW1];exact(Below.heap_alloc _ _ k (by simp;omega)).trans (Below.heap_alloc _ _ k hk)
 have hb1:Below w.heap.size w W1:=by rw[<-hW1];exact(hb0.alloc (by omega) _).alloc (by simp;omega) _
 have hM:AnyZ.ApAt fa w fn sv w.heap.size (W0.heap.size+1) W0.heap.size [] W1:=by
  refine⟨⟨_,(hold w.heap.size (by omega)).trans hv0,⟨rfl,.inl ⟨rfl,rfl⟩⟩,by simp⟩,?_,?_,hb1⟩
  .rw[<-hW1]
   have h:=World.alloc_heap_new (W0.alloc (.deferred (some []))) (.loop (AnyZ.apRec fa fn sv w.heap.size W0.heap.size .ready none))
   rwa [World.size_alloc] at h
  .rw[<-hW1];exact(Below.heap_alloc _ _ _ (by simp)).trans (World.alloc_heap_new W0 _)
 refine⟨W0.heap.size+1,[{ target:=.collected W0.heap.size,args:=#[] }],W1,{ target:=.fn (.func g) lb,args:=#[.func (.yield (W0.heap.size+1)) #[] #[]] },W1,g,
  #[.func (.yield (W0.heap.size+1)) #[] #[]]++lb,W1,by rw[<-hW1];exact run_enterLoop_outer _ _ _ _ _,?_,?_,?_,λ_=>by omega,?_⟩
 .simp[resolve,go_sem]
 .intro f' hf';trivial
 .simp[invoke,go_sem,eg]
 .refine(hseq (W0.heap.size+1) (AnyZ.ApAt fa w fn sv w.heap.size (W0.heap.size+1) W0.heap.size) W1 (λ_ _ h=>h.below)
   (λpre x W hJ hl=>AnyZ.apYield { DU with } Fence.wide (n-1-1) w fn hfn _ w.heap.size (W0.heap.size+1) W0.heap.size (by omega) (by omega) (by omega) (GX _) (by omega) N hN hNb pre x W hJ hl) hM).mono ?_
  rintro e W2 ⟨⟨v0,rfl⟩,ss,hS,h2⟩
  obtain⟨v,hv,hrow,_⟩:=h2.box
  have hend:=run_endLoop (P:=aa) h2.L (by simp[AnyZ.apRec])
  have hne:∀(cur:Array Value),Obj.cells #[v] 32 (0,0)≠.cells cur 9 (0,0):=λcur e=>by cases e
  obtain⟨W3,hW3⟩:∃W3,W2.putObj (W0.heap.size+1) (.loop { AnyZ.apRec fa fn sv w.heap.size W0.heap.size .ready none with state:=.exhausted })=W3:=⟨_,rfl⟩
  have hg3:W2.grownBy W3 (some (W0.heap.size+1)):=by rw[<-hW3];exact grownBy_putObj_a _ _ _
  have hv3:W3.heap[w.heap.size]?=some (.cells #[v] 32 (0,0)):=by rw[<-hW3];exact(World.putObj_heap_other (by omega)).trans hv
  have hK3:W3.heap[W0.heap.size]?=some (.deferred (some [])):=by rw[<-hW3];exact(World.putObj_heap_other (by omega)).trans h2.K
  have hrow3:=hrow.kept hg3 (ownsRow_ne_a hrow h2.L (λcur e=>by cases e))
  have hb3:Below w.heap.size w W3:=h2.below.grown hg3 h2.below.size (λk e=>by cases e;omega)
  obtain⟨hc3,hf3⟩:=cell_of_box_a hv3
  refine⟨none,W3,by rw[<-hW3];exact hend,?_⟩
  clear hW3 hW1 hold hM hend hseq
  gi_wp2
  rw[<-hz]
  refine⟨by simp,.inl ⟨_,_,rfl,run_takeDeferred hK3,?_⟩⟩
  exact⟨_,results_tmp rfl _ _ _,v,ss,rfl,hS,hrow3.kept (grownBy_putObj_a _ _ _) (ownsRow_ne_a hrow3 hK3 (λcur e=>by cases e)),hb3.grown (grownBy_putObj_a _ _ _) hb3.size (λk e=>by cases e;omega)⟩
theorem AX (n:Nat) (hn:4<=n) (g:Nat) (lb:Array Value) (eg:∀args w,(callFunc g args).run aa w=.ok (.enter g args) w)
  (S:List (List UInt8)->Prop) (N:Nat) (hN:N<=maxLen) (hNb:N*16<=140737488355328) (w:World) (hseq:qc (n-1-1-1) aa g lb S N w) (hS:∀xs,S xs->xs.length<4611686018427387904):
  CallsIn Fence.wide n aa 83 #[.func (.func g) #[] lb] w λe w'=>∃(v:Value) (ss:List (List UInt8)),e=.returned v/\S ss /\
   w'.ownsRow w.heap.size 9 1 v ss.length ((ss.mergeSort (λx y=>decide (x<=y))).map encStr)/\Below w.heap.size w w':=by
 have h6:Fence.wide.fn 83:=trivial
 have h8:Fence.wide.fn 149:=trivial
 have h9:Fence.wide.fn 150:=trivial
 have h11:Fence.wide.fn 204:=trivial
 have h1:1<=n-1:=by omega
 have h1':1<=n:=by omega
 have hcol:CallsIn Fence.wide (n-1) aa 149 #[.func (.func g) #[] lb] w λe w'=>∃(v:Value) (ss:List (List UInt8)),e=.returned v/\S ss/\w'.ownsRow w.heap.size 9 1 v ss.length (ss.map encStr)/\Below w.heap.size w w':=by
  have happ:=tW (n-1-1) (by omega) g lb eg S N hN hNb w hseq
  refine callsIn_of_wp Tryz.func149 rfl h8 ?_ rfl
  simp only[Tryz.ntmps149,HJ,G5,Hh,Nat.reduceAdd,Nat.reduceSub,HY,HZ,Ij,H7,Ih,HF]
  gi_wp2_with (gi_at_call 204;refine happ.mono ?_;rintro e w' ⟨v,ss,rfl,hS,hrow,hb⟩)
  go_ret
  exact⟨v,ss,rfl,hS,hrow,hb⟩
 refine callsIn_of_wp Tryz.func83 rfl h6 ?_ rfl
 simp only[Tryz.ntmps83,HJ,G5,Hh,Nat.reduceAdd,Nat.reduceSub,HY,HZ,Ij,H7,Ih,HF]
 gi_wp2_with (gi_at_call 149;refine hcol.mono ?_;rintro e W ⟨v,ss,rfl,hSs,hrow,hb⟩)
 have hlen:=hS ss hSs
 rcases hrow.2 with ⟨rfl,hz⟩ | ⟨gb,cap,cur,rfl,hbase,hgb,r1,r2,r3,r4⟩
 .have hss:ss=[]:=List.eq_nil_of_length_eq_zero hz
  subst hss
  have cN:CallsIn Fence.wide (n-1) aa 150 #[.slice none 0 0] W λe w'=>e=.returned (.tuple #[])/\w'=W:=callsIn_wide.2 (AnyM.slices_Sort_string_none Dn none 0 W)
  gi_wp2_with (gi_at_call 150;refine cN.mono ?_;rintro e w' ⟨rfl,rfl⟩)
  go_ret
  exact⟨.slice none 0 0,[],rfl,hSs,by simpa using hrow,hb⟩
 .have hH:Holds encStr W gb 0 ss.toArray:=holds_of_block hgb (by simpa using r4)
  have hgl:gb<W.heap.size:=(Array.getElem?_eq_some_iff.1 hgb).1
  have cS:CallsIn Fence.wide (n-1) aa 150 #[.slice (some ⟨gb,0,none⟩) ss.length cap] W λe w'=>e=.returned (.tuple #[])/\∃k os,w'=grow (putRow encStr (Sort.ahead W k) gb 0 (ss.mergeSort λx y=>decide (x<=y)).toArray) os:=
   callsIn_wide.2 (AnyM.slices_Sort_string Dn gb 0 cap ss W hH hgl hlen)
  gi_wp2_with (gi_at_call 150;refine cS.mono ?_;rintro e w' ⟨rfl,nn,os,rfl⟩)
  go_ret
  exact⟨_,ss,rfl,hSs,ownsRow_sorted (by simp) hbase hgb r1 r2 r3,hb.grown (grownBy_sorted _) hb.size (λj hj=>by cases hj;exact hbase)⟩
open Go Go.Proofs Go.Shelf Go.RowKit Go.Sort
theorem wA {l:List (List UInt8)} (c:l.Pairwise (λa b=>decide (a<=b)=true)) (h:∀j,j+1<l.length->l.getD (j+1) []≠l.getD j []):l.Nodup:=by
 induction l with
 | nil=>exact List.nodup_nil
 | cons x r g =>
  rw[List.pairwise_cons] at c
  refine HR.2 ⟨λf=>?_,g c.2 λj i=>by simpa using h (j+1) (by simpa using i)⟩
  cases r with
  | nil=>simp at f
  | cons y r =>
   have d:=h 0 (by simp)
   simp only[Il,HQ,Hy] at d
   rcases Hi.1 f with e | hm
   .exact d e.symm
   .have k:x<=y:=by simpa using c.1 y (by simp)
    have m:y<=x:=by simpa using (List.pairwise_cons.1 c.2).1 x hm
    exact d (List.le_antisymm m k)
theorem AM (l:List (List UInt8)):(Lib.compact l).length=l.length↔∀j,j+1<l.length->l.getD (j+1) []≠l.getD j []:=by
 have c:(Lib.compact l).length=((List.range l.length).filter (Lib.keeps l.toArray)).length:=by simp[Lib.compact,Lib.compactUpTo]
 rw[c]
 have hr:(List.range l.length).length=l.length:=by simp
 conv=>lhs;rhs;rw[<-hr]
 rw[List.length_filter_eq_length_iff]
 have b:∀j,j<l.length->l.toArray[j]! = l.getD j []:=λj a=>by simp[GQ,a]
 constructor
 .intro h j a
  have:=h (j+1) (by simpa using a)
  simp only[Lib.keeps,G7,Nat.add_sub_cancel] at this
  rcases this with e | e
  .omega
  .rw[b _ a,b _ (by omega)] at e;exact e
 .intro h j a
  simp only[List.mem_range] at a
  simp only[Lib.keeps,G7]
  by_cases e:j=0
  .exact .inl e
  .right
   obtain⟨k,rfl⟩:∃k,j=k+1:=⟨j-1,by omega⟩
   rw[b _ a,Nat.add_sub_cancel,b _ (by omega)]
   exact h k a
theorem rG (d:List (List UInt8)):(Lib.compact (d.mergeSort λx y=>decide (x<=y))).length=d.length↔d.Nodup:=by
 have hp:=List.mergeSort_perm d (λx y=>decide (x<=y))
 have g:=List.pairwise_mergeSort (le:=λx y:List UInt8=>decide (x<=y)) (λa b c h k=>by simp at h k ⊢;exact List.le_trans h k) (λa b=>by simpa using List.le_total a b) d
 rw[<-hp.nodup_iff,<-hp.length_eq,AM]
 constructor
 .exact wA g
 .intro i j f e
  have l:(d.mergeSort λx y=>decide (x<=y))[j+1]'f=(d.mergeSort λx y=>decide (x<=y))[j]'(by omega):=by
   simp only[GQ,GR f,GR (show j<(d.mergeSort λx y=>decide (x<=y)).length by omega),G1] at e
   exact e
  have:=(List.getElem_inj i).1 l
  omega
theorem C5 (w:World):grow w #[]=w:=by simp[grow]
theorem wm (n:Nat) (hn:1<=n) (Bs cap:Nat) (a:Option Addr) (w:World) (hBs:w.cell? ⟨Bs,0,none⟩=some (.slice a 0 cap)) (hBl:Bs<w.heap.size):
  qc n aa 151 #[.pointer (some ⟨Bs,0,none⟩)] (λxs=>xs=[]) 0 w:=by
 intro l J W hJ hY h0
 have hbw:=hJ _ _ h0
 have hBs':=(hbw.cell (p:=⟨Bs,0,none⟩) hBl).trans hBs
 have hf:Fence.wide.fn 151:=trivial
 refine callsIn_of_wp Tryz.func151 rfl hf ?_ rfl
 simp only[Tryz.ntmps151,HJ,G5,Hh,Nat.reduceAdd,Nat.reduceSub,HY,HZ,Ij,H7,Ih,HF]
 gi_wp2
 gi_loopw [7] (λi wr=>i=.int .i64 0/\J [] wr) (λ_ _=>0)
 case atStart=>exact⟨rfl,h0⟩
 case round =>
  obtain⟨rfl,hJs⟩:=hrel
  gi_wp2
  go_end0
  exact⟨⟨_,rfl⟩,_,rfl,hJs⟩
theorem yU (n:Nat) (a:Option Addr) (len cap:Nat) (w:World):
  CallsIn Fence.wide n aa 84 #[.slice a len cap] w λe w'=>e=.returned (.func (.func 151) #[] #[.pointer (some ⟨w.heap.size,0,none⟩)])/\w'=w.alloc (.cells #[.slice a len cap] 32):=by
 have hf:Fence.wide.fn 84:=trivial
 refine callsIn_of_wp Tryz.func84 rfl hf ?_ rfl
 simp only[Tryz.ntmps84,HJ,G5,Hh,Nat.reduceAdd,Nat.reduceSub,HY,HZ,Ij,H7,Ih,HF]
 gi_wp2
 go_ret
 exact⟨rfl,rfl⟩
theorem o7 (a:Option Addr) (cap:Nat) (zs:List (List UInt8)) (hz:zs.length<=1000) (w:World)
  (hseq:∀n Bs,1<=n->w.heap.size=Bs->qc n aa 151 #[.pointer (some ⟨Bs,0,none⟩)] (λxs=>xs=zs) zs.length (w.alloc (.cells #[.slice a zs.length cap] 32))):
  Calls aa 37 #[.slice a zs.length cap] w λe w'=>e=.returned (.bool (decide zs.Nodup))/\Below w.heap.size w w':=by
 refine(callsIn_wide (n:=7)).1 ?_
 have hf:Fence.wide.fn 37:=trivial
 have hfv:Fence.wide.fn 84:=trivial
 have hfs:Fence.wide.fn 83:=trivial
 have hfc:Fence.wide.fn 85:=trivial
 have eg:=enters_of Tryz.func151 (by kernel_rfl) rfl
 have cV:=yU 6 a zs.length cap w
 have cS:=AX 6 (by omega) 151 #[.pointer (some ⟨w.heap.size,0,none⟩)] eg _ zs.length (by unfold maxLen;omega) (by omega) (w.alloc (.cells #[.slice a zs.length cap] 32)) (hseq _ _ (by omega) rfl) (λxs e=>by subst e;omega)
 refine callsIn_of_wp Tryz.func37 rfl hf ?_ rfl
 simp only[Tryz.ntmps37,HJ,G5,Hh,Nat.reduceAdd,Nat.reduceSub,HY,HZ,Ij,H7,Ih,HF]
 clear hseq
 gi_wp2_with (first
  | (gi_at_call 84;refine cV.mono ?_;rintro e w' ⟨rfl,rfl⟩)
  | (gi_at_call 83;refine cS.mono ?_;rintro e W ⟨v,ss,rfl,rfl,hrow,hb⟩)
  | fail)
 have hsz:(ss.mergeSort λx y=>decide (x<=y)).length=ss.length:=by simp
 have hBw:Below w.heap.size w W:=((Below.refl _ w).alloc (GX _) _).trans (hb.mono (by simp))
 rcases hrow.2 with ⟨rfl,h0⟩ | ⟨gb,cap',cur,rfl,hbase,hgb,r1,r2,r3,r4⟩
 .have hss:ss=[]:=List.eq_nil_of_length_eq_zero h0
  subst hss
  have cC:CallsIn Fence.wide 6 aa 85 #[.slice none 0 0] W λe w'=>e=.returned (.slice none 0 0)/\w'=W:=callsIn_wide.2 (AnyG.slices_Compact_string_empty DD none 0 W)
  clear cS cV hrow
  gi_wp2_with (gi_at_call 85;refine cC.mono ?_;rintro e w' ⟨rfl,rfl⟩)
  go_ret
  exact⟨rfl,hBw⟩
 .have hH:Holds encStr W gb 0 (ss.mergeSort λx y=>decide (x<=y)).toArray:=holds_of_block hgb (by simpa using r4)
  have hgl:gb<W.heap.size:=(Array.getElem?_eq_some_iff.1 hgb).1
  have cC:CallsIn Fence.wide 6 aa 85 #[.slice (some ⟨gb,0,none⟩) ss.length cap'] W λe w'=>∃m:Nat,e=.returned (.slice (some ⟨gb,0,none⟩) m cap')/\((m=ss.length)↔ss.Nodup)/\Below w.heap.size w w':=by
   have:=AnyG.slices_Compact_string DD gb 0 cap' (ss.mergeSort λx y=>decide (x<=y)) W hH (by rw[hsz];omega) (by rw[hsz];omega)
   rw[hsz] at this
   refine callsIn_wide.2 (this.mono ?_)
   rintro e w' ⟨rfl,q,rfl⟩
   refine⟨_,rfl,rG ss,?_⟩
   have hg:=grownBy_sorted (w:=W) (g:=gb) (n:=q) (os:=#[]) (Lib.compact (ss.mergeSort λx y=>decide (x<=y))++List.replicate (ss.length-(Lib.compact (ss.mergeSort λx y=>decide (x<=y))).length) []).toArray
   rw[C5] at hg
   exact hBw.grown hg hBw.size (λj e=>by cases e;have h:=hbase;rw[World.size_alloc] at h;omega)
  clear cS cV hrow hH
  gi_wp2_with (gi_at_call 85;refine cC.mono ?_;rintro e w' ⟨m,rfl,hm,hb'⟩)
  go_ret
  refine⟨?_,hb'⟩
  show Ending.returned (.bool ((m:Int)==(ss.length:Int)))=_
  have:((m:Int)==(ss.length:Int))=decide ss.Nodup:=by
   rw[HT]
   simp only[HC,G7,<-hm]
   omega
  rw[this]
theorem vA (s:ByteArray):encStr s.data.toList=.string s:=by
 cases s;simp[encStr]
def names (l:List ByteArray):List (List UInt8):=l.map λs=>s.data.toList
theorem CO (l:List ByteArray) (F:l.length<=1000):ak aa 37 [encS l] (gb (decide (names l).Nodup)):=by
 intro Z μ w xs g r _
 obtain⟨hlen,G⟩:=g
 obtain⟨x,rfl⟩:∃x,xs=[x]:=by
  match xs,hlen with
  | [x],_=>exact⟨x,rfl⟩
 have H:ae Z μ w.heap (encS l) x:=G 0 (by simp)
 have k:(names l).length=l.length:=by simp[names]
 have fin:∀e w',(e=Ending.returned (.bool (decide (names l).Nodup))/\RowKit.Below w.heap.size w w')->∃x Z',e=.returned x/\(∀ν,ae Z' ν w'.heap (gb (decide (names l).Nodup)) x)/\bZ w w'/\(∀b,Z b->Z' b)/\(∀b,Z' b->Z b∨(w.heap.size<=b/\b<w'.heap.size))/\cT w.heap w'.heap (λ_=>False):=by
  rintro e w' ⟨rfl,m⟩
  exact⟨_,Z,rfl,λν=>.val _ rfl,⟨m.os,m.tape,m.output,m.size⟩,λ_ h=>h,λ_ h=>.inl h,λb t _=>m.block b t⟩
 have box:∀(v:Value),(w.alloc (.cells #[v] 32)).cell? ⟨w.heap.size,0,none⟩=some v:=λv=>by
  have:=World.alloc_heap_new w (.cells #[v] 32)
  simp only[World.cell?,this];rfl
 rcases rA H with ⟨he,a,cap,rfl,_⟩ | ⟨b,off,esz,cap,c,rfl,I,hle,u,J,K⟩
 .have z:l=[]:=by simpa using he
  subst z
  refine(o7 a cap (names []) (by simp[names]) w (λn L A B=>?_)).mono fin
  subst B
  exact wm n A w.heap.size cap a _ (box _) (by simp)
 .have o:∀i,(hi:i<l.length)->(l.map λs=>[gs s]).getD i []=[gs l[i]]:=λi hi=>by simp[GQ,hi]
  have d:∀i,(hi:i<l.length)->cellAt w.heap b (off+i)=some (.string l[i]):=λi hi=>by
   have C:=u i (by simpa using hi)
   rw[o i hi] at C
   simp only[G5,Hh] at C
   subst C
   have E:=J i 0 (by simpa using hi) (by omega)
   have q:=K i 0 (by simpa using hi) (by omega)
   rw[o i hi] at q
   simp only[HQ] at q
   generalize c i 0=y at E q
   cases q
   simpa using E
  have f:(l.map λs=>[gs s]).length=(names l).length:=by simp[names]
  rw[f]
  refine(o7 (some ⟨b,off,none⟩) cap (names l) (by rw[k];exact F) w (λn L A B=>?_)).mono fin
  subst B
  have D:=r b I
  refine y8 n A w.heap.size b off cap (names l) (by rw[k];omega) _ (box _) (by simp) (by simp;omega) (λj O=>?_)
  have p:j<l.length:=by omega
  have M:(w.alloc (.cells #[.slice (some ⟨b,off,none⟩) (names l).length cap] 32)).cell? ⟨b,off+j,none⟩=w.cell? ⟨b,off+j,none⟩:=by
   have:=Below.heap_alloc w (.cells #[.slice (some ⟨b,off,none⟩) (names l).length cap] 32) b D
   simp only[World.cell?,this]
  rw[M,dw,d j p]
  have N:(names l).getD j []=l[j].data.toList:=by simp[names,GQ,p]
  rw[N,vA]
theorem aN.dA {P:Program} {f:FuncId} {h:ah} (p:aN P f [.emp 1] h (.emp 1) h) (l:aN P f [.emp 2] h (.emp 2) h) (m:aN P f [.bS] h (.emp 2) h):aN P f [.al []] h (.emp 0) h:=by
 refine⟨GX _,λZ μ F w xs j hr g=>?_⟩
 obtain⟨q,r⟩:=j
 obtain⟨x,rfl⟩:∃x,xs=[x]:=by
  match xs,q with
  | [x],_=>exact⟨x,rfl⟩
 have s:ae Z μ w.heap (.al []) x:=r 0 (by simp)
 have one:∀v,ae Z μ w.heap v x->cL Z μ w.heap [v] [x]:=λv h=>⟨rfl,λi hi=>by
  simp at hi;subst hi;exact h⟩
 have d:∀k,aN P f [if k=3 then .bS else .emp k] h (if k=3 then .emp 2 else .emp k) h->ae Z μ w.heap (if k=3 then .bS else .emp k) x->Calls P f [x].toArray w λe w'=>∃x Z' μ',e=.returned x/\ae Z' μ' w'.heap (.emp 0) x/\dO Z' μ' w'.heap (cat h F)/\Ext Z μ w h.length Z' μ' w'/\(∀id,id<h.length∨h.length<=id->μ' id=μ id):=by
  intro k t u
  refine(t.2 Z μ F w [x] (one _ u) hr g).mono ?_
  rintro e w' ⟨y,Z',μ',rfl,n,rest⟩
  refine⟨y,Z',μ',rfl,?_,rest⟩
  have:∀o,ae Z' μ' w'.heap (.emp o) y->ae Z' μ' w'.heap (.emp 0) y:=λo h=>by
   cases h with | emp _ a _ _=>exact .emp 0 a (by simp) (by simp)
  split at n<;>exact this _ n
 rcases rA s with ⟨_,a,cap,rfl,z⟩ | ⟨b,off,esz,cap,c,rfl,_,_,_⟩
 .cases a with
  | none =>
   have:=z rfl
   subst this
   exact d 1 (by simpa using p) (.emp 1 none (by simp) (by simp))
  | some a =>
   cases cap with
   | zero=>exact d 2 (by simpa using l) (.emp 2 (some a) (by simp) (by simp))
   | succ c=>exact d 3 (by simpa using m) (.bS a (c+1))
 .cases cap with
  | zero=>exact d 2 (by simpa using l) (.emp 2 (some ⟨b,off,none⟩) (by simp) (by simp))
  | succ c=>exact d 3 (by simpa using m) (.bS ⟨b,off,none⟩ (c+1))
def m0 (sz:Nat) (es:List (List V)) (H:View) (K:V->View->Prop):Prop:=
 (es=[]->∀k,K (.emp k) H)/\(es≠[]->∀n,H n=.dead->K (.sl n 0 es.length sz) (H.set n (.arr sz es)))
def br:SF:=⟨ai [af [dU 2 1],ai [af [ab 3 0,((some 4),.op (.nil true 0 (.tmp 3) (.val (.emp 1))))],bV 4 (ai [af [dU 2 1],.ret])],af [dU 5 2,ab 6 0,o9 7 1 16 5 6,ab 2 7],.ret],
 [.tmp 2],8⟩
theorem bG:aM aa 34 []=some br:=by kernel_rfl
def bW:SF:=⟨ai [af [dU 2 1],ai [af [ab 3 0,((some 4),.op (.nil true 0 (.tmp 3) (.val (.emp 1))))],bV 4 (ai [af [dU 2 1],.ret])],af [dU 5 2,ab 6 0,o9 7 1 8 5 6,ab 2 7],.ret],
 [.tmp 2],8⟩
theorem cg:aM aa 95 []=some bW:=by kernel_rfl
def aV:SF:=⟨ai [af [dU 2 1],ai [af [ab 3 0,((some 4),.op (.nil true 0 (.tmp 3) (.val (.emp 1))))],bV 4 (ai [af [dU 2 1],.ret])],af [dU 5 2,ab 6 0,o9 7 3 32 5 6,ab 2 7],.ret],
 [.tmp 2],8⟩
theorem bp:aM aa 93 []=some aV:=by kernel_rfl
theorem ak.tree {P:Program} {f:FuncId} {vs:List V} {t:V} (a:∀v∈vs,Tree v) (b:Tree t) (h:∀H,ar P f vs H λr _=>r=t):ak P f vs t:=
 ak.of a ((h _).mono λr H' e c _=>by rw[e];exact .tree _ b)
theorem kX {H:View} : bc H .bS=some ([],[]):=id rfl
theorem fL {H:View} (sz bytes k:Nat) (K:V->View->Prop) (w:bB (H,K)):jB sz bytes (.emp k) [] H K w=K (.emp k) H:=propext Iff.rfl
theorem AE (l:List ByteArray) (c:l.length<=100000) (H:View) (K:V->View->Prop) (a:m0 1 (l.map λs=>[gs s]) H K):ar aa 34 [encS l] H K:=by
 cases l with
 | nil =>
  have hp:∀v t,Tree v->Tree t->(∀H,ar aa 34 [v] H λr _=>r=t)->ak aa 34 [v] t:=λv t d e h=>ak.tree (by intro x b;simp at b;subst b;exact d) e h
  have f:=hp (.emp 1) (.emp 1) (.emp 1) (.emp 1) (λH=>by
   refine ar.of mixed bG ?_
   simp(disch:=omega)only[↓wr,seval,wq,br])
  have g:=hp (.emp 2) (.emp 2) (.emp 2) (.emp 2) (λH=>by
   refine ar.of mixed bG ?_
   simp(disch:=omega)only[↓wr,seval,wq,br,fL,List.isEmpty_nil])
  have i:=hp .bS (.emp 2) .bS (.emp 2) (λH=>by
   refine ar.of mixed bG ?_
   simp(disch:=omega)only[↓wr,seval,wq,br,kX,fL,List.isEmpty_nil])
  refine⟨by kernel_rfl,?_⟩
  rintro h rfl
  exact⟨.emp 0,h,aN.dA (aN.ed f h) (aN.ed g h) (aN.ed i h),.refl _,a.1 rfl 0⟩
 | cons x r =>
  refine ar.of mixed bG ?_
  simp only[G5] at c
  simp(disch:=omega)only[↓wr,seval,wq,br,encS]
  refine⟨?_,?_,?_⟩
  .simp[List.all_map,encS,au]
  .unfold aD;simp;omega
  .intro n j
   have:=a.2 (by simp) n j
   simp(disch:=omega)only[↓wr,seval,wq]
   simpa [cd] using this
theorem A4 (l:List Int) (c:l.length<=100000) (H:View) (K:V->View->Prop) (a:m0 1 (l.map λs=>[gi s]) H K):ar aa 95 [encI l] H K:=by
 cases l with
 | nil =>
  have hp:∀v t,Tree v->Tree t->(∀H,ar aa 95 [v] H λr _=>r=t)->ak aa 95 [v] t:=λv t d e h=>ak.tree (by intro x b;simp at b;subst b;exact d) e h
  have f:=hp (.emp 1) (.emp 1) (.emp 1) (.emp 1) (λH=>by
   refine ar.of mixed cg ?_
   simp(disch:=omega)only[↓wr,seval,wq,bW])
  have g:=hp (.emp 2) (.emp 2) (.emp 2) (.emp 2) (λH=>by
   refine ar.of mixed cg ?_
   simp(disch:=omega)only[↓wr,seval,wq,bW,fL,List.isEmpty_nil])
  have i:=hp .bS (.emp 2) .bS (.emp 2) (λH=>by
   refine ar.of mixed cg ?_
   simp(disch:=omega)only[↓wr,seval,wq,bW,kX,fL,List.isEmpty_nil])
  refine⟨by kernel_rfl,?_⟩
  rintro h rfl
  exact⟨.emp 0,h,aN.dA (aN.ed f h) (aN.ed g h) (aN.ed i h),.refl _,a.1 rfl 0⟩
 | cons x r =>
  refine ar.of mixed cg ?_
  simp only[G5] at c
  simp(disch:=omega)only[↓wr,seval,wq,bW,encI]
  refine⟨?_,?_,?_⟩
  .simp[List.all_map,encI,au]
  .unfold aD;simp;omega
  .intro n j
   have:=a.2 (by simp) n j
   simp(disch:=omega)only[↓wr,seval,wq]
   simpa [cd] using this
theorem BY (l:List Term) (c:l.length<=100000) (H:View) (K:V->View->Prop) (a:m0 3 (l.map cd) H K):ar aa 93 [bY l] H K:=by
 cases l with
 | nil =>
  have hp:∀v t,Tree v->Tree t->(∀H,ar aa 93 [v] H λr _=>r=t)->ak aa 93 [v] t:=λv t d e h=>ak.tree (by intro x b;simp at b;subst b;exact d) e h
  have f:=hp (.emp 1) (.emp 1) (.emp 1) (.emp 1) (λH=>by
   refine ar.of mixed bp ?_
   simp(disch:=omega)only[↓wr,seval,wq,aV])
  have g:=hp (.emp 2) (.emp 2) (.emp 2) (.emp 2) (λH=>by
   refine ar.of mixed bp ?_
   simp(disch:=omega)only[↓wr,seval,wq,aV,fL,List.isEmpty_nil])
  have i:=hp .bS (.emp 2) .bS (.emp 2) (λH=>by
   refine ar.of mixed bp ?_
   simp(disch:=omega)only[↓wr,seval,wq,aV,kX,fL,List.isEmpty_nil])
  refine⟨by kernel_rfl,?_⟩
  rintro h rfl
  exact⟨.emp 0,h,aN.dA (aN.ed f h) (aN.ed g h) (aN.ed i h),.refl _,a.1 rfl 0⟩
 | cons x r =>
  refine ar.of mixed bp ?_
  simp only[G5] at c
  simp(disch:=omega)only[↓wr,seval,wq,aV,bY,cd]
  refine⟨?_,?_,?_⟩
  .simp[List.all_map,bY,cd,au]
  .unfold aD;simp;omega
  .intro n j
   have:=a.2 (by simp) n j
   simp(disch:=omega)only[↓wr,seval,wq]
   simpa [cd] using this
theorem m0.own {sz:Nat} {es:List (List V)} {H:View} : m0 sz es H λr H'=>aJ H' r sz es/\gB H H' r:=
 ⟨λhe k=>⟨by rw[he];exact .nil,.emp⟩,λ_ n a=>⟨.new,.new a⟩⟩
theorem BQ (l:List ByteArray) (a:l.length<=100000) (H:View):ar aa 34 [encS l] H λr H'=>aJ H' r 1 (l.map λs=>[gs s])/\gB H H' r:=AE l a H _ .own
theorem sN (l:List Int) (a:l.length<=100000) (H:View):ar aa 95 [encI l] H λr H'=>aJ H' r 1 (l.map λs=>[gi s])/\gB H H' r:=A4 l a H _ .own
theorem AG (l:List Term) (a:l.length<=100000) (H:View):ar aa 93 [bY l] H λr H'=>aJ H' r 3 (l.map cd)/\gB H H' r:=BY l a H _ .own
def gj (g:ay):List aI->Int->Bool
 | [],next=>next==g.aB.length
 | r::l,next=>decide (0<=r.left)&&decide (r.left<=next)&&kD g r&&gj g l (if r.left+1>next then r.left+1 else next)
def ki (g:ay):List ByteArray:=g.aB++g.an.map Term.name
def jr (g:ay):Bool:=
 kd g.an&&(decide ((1:Int)<=g.aB.length)&&decide ((g.aB.length:Int)<=16))&&(decide ((1:Int)<=g.rules.length)&&decide ((g.rules.length:Int)<=40))&&decide (names (ki g)).Nodup&&(decide (0<=g.start)&&decide (g.start<=(g.aB.length:Int)-1)) &&
  !(g.aB.any λs=>!fR (eD s))&&gj g g.rules 0
theorem uL {l:List ByteArray}:∀e∈(l.map λs=>[gs s]),∀v∈e,Tree v:=by
 intro e he v b
 obtain⟨a,_,rfl⟩:=HL.1 he
 rw[HH] at b
 subst b
 exact .val _
theorem zY (g:ay) (q:g.Ok) (hs:g.aB.length+g.an.length<=1000) (H:View):ar aa 17 [.agg (ax g)] H λr _=>r=gb (jr g):=by
 refine ar.of mixed rF ?_
 have N:=q.aB
 have O:=q.an
 have hr:=q.rules
 unfold aF at N O hr
 simp(disch:=omega)only[↓wr,seval,wq,oQ,ax,encS]
 refine av.tZ ((BQ g.aB (by omega) H).mono ?_)
 rintro u H1 ⟨hu,hf⟩
 simp(disch:=omega)only[↓wr,seval,wq,ax,encS]
 refine bH.up g.an.length (λi T H=>T 1=.aC (ax g) 0/\(∃u,T 3=u/\aJ H u 1 ((g.aB++(g.an.take i).map Term.name).map λs=>[gs s]))/\T 13=bY g.an/\T 14=gi g.an.length/\T 15=gi i) ?_ ?_
 .exact⟨rfl,⟨u,rfl,by simpa using hu⟩,rfl,rfl,rfl⟩
 rintro i k T H' C ⟨d,⟨u,v,hu⟩,a,c,f⟩
 simp(disch:=omega)only[↓wr,seval,wq,mD,d,a,c,f,bY]
 apply aj.dec<;>intro D
 .have h:g.an[i]?=some (g.an[i]'(by omega)):=GR (by omega)
  have y:(g.an.take (i+1)).map Term.name=(g.an.take i).map Term.name++[(g.an[i]'(by omega)).name]:=by
   rw[Hn,h,Ip];rfl
  generalize g.an[i]'(by omega)=t at h y
  simp(disch:=omega)only[↓wr,seval,wq,d,v,a,c,f,bY,cd,GY,h]
  intro b E
  try simp(disch:=omega)only[↓wr,seval,wq,d,v,a,c,f,set_set]
  intro m hm
  have F:=(dK hm dS).1
  have hm:=(dK (dK hm dS).2 dS).2
  try simp(disch:=omega)only[↓wr,seval,wq,d,v,a,c,f,gv]
  have L:((g.aB++(g.an.take i).map Term.name).map λs=>[gs s]).length<=1000:=by simp;omega
  refine jd (((hu.fresh E).other (hu.ne E)).fresh (by simp[View.set,hm,F])) (by simp) (by simp[au]) (by unfold aD;simp at L ⊢;omega) (by unfold aD;simp at L ⊢;omega) ?_
  intro P H2 G _
  simp(disch:=omega)only[↓wr,seval,wq,d,v,a,c,f]
  refine bC C (by omega) ⟨d,⟨P,rfl,?_⟩,a,c,rfl⟩
  rw[y]
  simpa using G
 .rw[G9 (by omega)] at hu
  have Q:H'=H':=rfl
  have z:(ki g).length<=1000:=by simp[ki];omega
  repeat' (first | ((first|apply aj.dec|apply aj.eq|apply aj.ne|apply aj.split)<;>intro)|(refine av.pure (BX g.an q.an) ?_)|(refine av.pure (jE _ _ _) ?_)|(refine av.CC (CO (ki g) z) (by kernel_rfl) (.val _) ⟨dY.own hu uL,trivial⟩ ?_)|(simp(disch:=omega)only[↓wr,seval,wq,d,v,a,c,f,ax,encS]))
  all_goals try (simp[jr, *];done)
  rename_i R S M U V
  refine av.pure (pN g.aB q.aB 39 [] (by simp) (λs=>!fR (eD s)) (λx _=>zr x) (by kernel_rfl)) ?_
  repeat' (first | ((first|apply aj.dec|apply aj.eq|apply aj.ne|apply aj.split)<;>intro)|(simp(disch:=omega)only[↓wr,seval,wq,d,v,a,c,f,ax,encS]))
  all_goals try (simp[jr, *];done)
  rename_i W
  have hle:g.rules.length<=40:=by simp at M;omega
  have j:∀b,gj g g.rules 0=b->gb b=gb (jr g):=λb e=>by
   simp only[jr,R,S,M,U,V,W,e,decide_true,Bool.true_and,Bool.not_false]
  refine bH.up g.rules.length (λi T _=>∃w:Int,0<=w/\w<=i/\gj g (g.rules.drop i) w=gj g g.rules 0/\T 1=.aC (ax g) 0/\T 6=gi w/\T 62=.al (g.rules.map aK)/\T 63=gi g.rules.length/\T 64=gi i) ?_ ?_
  .exact⟨0,by omega,by omega,rfl,d,rfl,rfl,rfl,rfl⟩
  rintro i k T H' C ⟨w,X,Y,hi,d,B,l,n,o⟩
  simp(disch:=omega)only[↓wr,seval,wq,mJ,d,B,l,n,o,ax]
  apply aj.dec<;>intro D
  .have h:g.rules[i]?=some (g.rules[i]'(by omega)):=GR (by omega)
   rw[jW (show i<g.rules.length by omega)] at hi
   have p:g.rules[i]'(by omega)∈g.rules:=G4 _
   generalize g.rules[i]'(by omega)=t at h hi p
   obtain⟨⟨Z,ao⟩,hp,I,J⟩:=q.nC t p
   simp only[gj] at hi
   simp(disch:=omega)only[↓wr,seval,wq,d,B,l,n,o,aK,encI,GY,h]
   intro b E
   repeat' (first | ((first|apply aj.dec|apply aj.eq|apply aj.ne|apply aj.split)<;>intro)|(refine av.pure (jE _ _ _) ?_)|(refine av.pure (Cj g t q ⟨I,J⟩) ?_)|(simp(disch:=omega)only[↓wr,seval,wq,d,B,l,n,o,ax,aK,encI,encS,set_set]))
   .rename_i A K
    have a1:0<=t.left/\t.left<=w:=by simpa using A
    rw[A,K,Bool.true_and,Bool.true_and] at hi
    have hw:IntKind.wrap .i64 (t.left+1)=t.left+1:=wrap64 (by omega) (by omega)
    refine bC C (by omega) ⟨_,by split<;>omega,by split<;>(push_cast;omega),hi,d,?_,l,n,rfl⟩
    show gi (if IntKind.wrap .i64 (t.left+1)>w then IntKind.wrap .i64 (t.left+1) else w)=_
    rw[hw]
   .rename_i A K
    rw[K,Bool.and_false,Bool.false_and] at hi
    exact j _ hi.symm
   .rename_i A
    rw[A,Bool.false_and,Bool.false_and] at hi
    exact j _ hi.symm
  .rw[H8 (by omega)] at hi
   simp only[gj] at hi
   simp(disch:=omega)only[↓wr,seval,wq,d,B,l,n,o,ax,encS]
   exact j _ hi.symm
theorem y3 (g:ay) (a:g.Ok) (b:g.aB.length+g.an.length<=1000):ak aa 17 [.agg (ax g)] (gb (jr g)):=ak.val (dM g) (zY g a b)
theorem tU (g:ay):∀(l:List aI) (next:Int),gj g l next=jl g l (next-1)
 | [],next=>by
  simp only[gj,jl]
  rw[HT];simp
 | r::l,next=>by
  simp only[gj,jl,tU g l]
  have a:(if r.left+1>next then r.left+1 else next)-1=if r.left>next-1 then r.left else next-1:=by
   split<;>split<;>omega
  have b:next-1+1=next:=by omega
  rw[a,b]
theorem ni (s:ByteArray):∀(l:List ByteArray) (i:Int),0<=i->(mY s l i<0/\s ∉ l)∨∃k:Nat,mY s l i=i+k/\l[k]?=some s/\∀j<k,l[j]?≠some s
 | [],i,h=>.inl ⟨by simp[mY],by simp⟩
 | x::l,i,h=>by
  have c:ej x s=true↔x=s:=by
   unfold ej
   rw[HC]
   constructor
   .intro e;cases x;cases s;simp at e;simp[e]
   .rintro rfl;rfl
  simp only[mY]
  by_cases e:x=s
  .rw[GZ (c.2 e)]
   exact .inr ⟨0,by simp,by simp[e],by simp⟩
  .rw[GV (λh=>e (c.1 h))]
   rcases ni s l (i+1) (by omega) with ⟨a,b⟩ | ⟨k,a,b,d⟩
   .exact .inl ⟨a,by simp[b,Ne.symm e]⟩
   .refine .inr ⟨k+1,by rw[a];push_cast;omega,by simpa using b,λj f=>?_⟩
    cases j with
    | zero=>simp[e]
    | succ j=>simpa using d j (by omega)
theorem sf (l:List ByteArray):(∀(k:Nat) (s:ByteArray),l[k]?=some s->mY s l 0=k)↔l.Nodup:=by
 constructor
 .intro h
  rw[List.nodup_iff_pairwise_ne,List.pairwise_iff_getElem]
  intro i j hi c g e
  have d:=h i l[i] (by simp[hi])
  have a:=h j l[j] (by simp[c])
  rw[e] at d
  omega
 .intro m k s b
  rcases ni s l 0 (by omega) with ⟨_,a⟩ | ⟨j,d,a,n⟩
  .exact absurd (HD b) a
  .have c:j<l.length:=by
    rcases Ho j l.length with h | h
    .exact h
    .simp[Hs h] at a
   have f:k<l.length:=by
    rcases Ho k l.length with h | h
    .exact h
    .simp[Hs h] at b
   have:j=k:=(List.getElem_inj m).1 (by
    rw[GR c] at a;rw[GR f] at b
    simp at a b;rw[a,b])
   rw[d,this];simp
theorem bytes_inj {a b:ByteArray} : a.data.toList=b.data.toList↔a=b:=by
 constructor
 .intro h;cases a;cases b;simp at h;simp[h]
 .rintro rfl;rfl
theorem Aq {l:List ByteArray} : (names l).Nodup↔l.Nodup:=by
 unfold names
 rw[List.nodup_iff_pairwise_ne,List.pairwise_map,List.nodup_iff_pairwise_ne]
 constructor
 .exact λh=>h.imp λh e=>h (bytes_inj.2 e)
 .exact λh=>h.imp λh e=>h (bytes_inj.1 e)
theorem kR {α:Type} [BEq α] [LawfulBEq α]:∀(l m:List α),l.Nodup->(∀x∈l,x∈m)->l.length<=m.length
 | [],m,_,_=>by simp
 | x::l,m,b,c=>by
  rw[HR] at b
  have e:x∈m:=c x (by simp)
  have:=kR l (m.erase x) b.2 (λy d=>by
   have a:y≠x:=by grind
   exact(List.mem_erase_of_ne a).2 (c y (by simp[d])))
  grind
def gx (n:Nat):List Int:=(List.range n).map λ(k:Nat)=>(k:Int)+1
theorem lS {n:Nat} {x:Int} : x∈gx n↔1<=x/\x<=n:=by
 simp only[gx,HL,List.mem_range]
 constructor
 .grind
 .rintro⟨a,b⟩;exact⟨(x-1).toNat,by omega,by omega⟩
theorem uU (n:Nat):(gx n).Nodup:=by
 rw[gx,List.nodup_iff_pairwise_ne,List.pairwise_map]
 exact(List.nodup_range (n:=n)).imp λh e=>h (by omega)
theorem D7 {l:List Int} {n:Nat} (b:l.Nodup) (c:∀x∈l,1<=x/\x<=n) (e:l.length=n) {x:Int} (f:1<=x) (g:x<=n):x∈l:=by
 refine Classical.byContradiction λd=>?_
 have:=kR (x::l) (gx n) (HR.2 ⟨d,b⟩) (λy a=>by
  rw[lS]
  rcases Hi.1 a with rfl | a
  .grind
  .exact c y a)
 simp[gx] at this
 omega
theorem lX (n:Int):∀(l:List Term) (w:Int),w≠0->hZ n l w=if (∀t∈l,t.level=n->t.assoc=w) then some w else none
 | [],w,_=>by simp[hZ]
 | t::r,w,hw=>by
  simp only[hZ]
  by_cases a:t.level=n
  .rw[GZ a]
   by_cases b:w=t.assoc
   .rw[GV (by simp[b]),<-b,lX n r w hw]
    grind
   .grind
  .rw[GV a,lX n r w hw]
   grind
theorem qW (n:Int):∀(l:List Term),(∀t∈l,t.level=n->t.assoc≠0)->(fF l n=true↔∃a,(∃t∈l,t.level=n)/\∀t∈l,t.level=n->t.assoc=a)
 | [],_=>by simp[fF,hZ]
 | t::r,h=>by
  by_cases c:t.level=n
  .have d:=h t (by simp) c
   have e:fF (t::r) n=match (if (∀u∈r,u.level=n->u.assoc=t.assoc) then some t.assoc else none) with | some w=>w != 0 | none=>false:=by
    simp only[fF,hZ]
    rw[GZ c,GV (by simp),lX n r _ d]
    rfl
   rw[e]
   by_cases hr:∀u∈r,u.level=n->u.assoc=t.assoc
   .rw[GZ hr]
    simp only[Is,ne_eq,d,not_false_eq_true,true_iff]
    refine⟨t.assoc,⟨t,by simp,c⟩,λu hu b=>?_⟩
    grind
   .grind
  .have i:=qW n r (λu hu=>h u (by simp[hu]))
   have e:fF (t::r) n=fF r n:=by
    simp only[fF,hZ,GV c]
   rw[e,i]
   constructor
   .rintro⟨a,⟨u,hu,b⟩,f⟩
    refine⟨a,⟨u,by simp[hu],b⟩,λv g b=>?_⟩
    grind
   .rintro⟨a,⟨u,hu,b⟩,f⟩
    rcases Hi.1 hu with rfl | hu
    .grind
    .exact⟨a,⟨u,hu,b⟩,λv g=>f v (by simp[g])⟩
def ll (l:List Term):Prop:=∀t∈l,∀u∈l,t.level=u.level->t.level≠0->t.assoc=u.assoc
theorem vV {κ β:Type} [BEq κ] [LawfulBEq κ] {k:κ} {v:β}:∀ {a:List (κ × β)},(a.map (·.1)).Nodup->((fG k v a).map (·.1)).Nodup/\∀x,x∈(fG k v a).map (·.1)↔x=k∨x∈a.map (·.1)
 | [],_=>by simp[fG]
 | y::a,h=>by
  simp only[H9,HR] at h
  obtain⟨b,c⟩:=vV (k:=k) (v:=v) h.2
  simp only[fG]
  grind
theorem ng:∀(l:List Term) (a:List (Int × Int)) (top:Int),(∀t∈l,t.level≠0->t.assoc≠0)->(∀n v,bU a n=some v->v≠0)->(a.map (·.1)).Nodup ->
  match iI l a top with
  | some (q,b)=>ll l/\(∀t∈l,∀v,t.level≠0->bU a t.level=some v->t.assoc=v)/\(q.map (·.1)).Nodup/\(∀n,n∈q.map (·.1)↔n∈a.map (·.1)∨(n≠0/\∃t∈l,t.level=n)) /\
    top<=b/\(∀t∈l,t.level≠0->t.level<=b)/\(b=top∨∃t∈l,t.level=b/\t.level≠0)
  | none=>¬ (ll l/\∀t∈l,∀v,t.level≠0->bU a t.level=some v->t.assoc=v)
 | [],a,top,_,_,i=>by
  exact⟨λt c=>by simp at c,λt c=>by simp at c,i,λn=>by simp,by omega,λt c=>by simp at c,by simp⟩
 | t::r,a,top,s,y,i=>by
  have g:∀u∈r,u.level≠0->u.assoc≠0:=λu hu=>s u (by simp[hu])
  simp only[iI]
  by_cases c:t.level=0
  .rw[GZ c]
   have B:=ng r a top g y i
   have one:ll (t::r)↔ll r:=by
    constructor
    .exact λh u hu w hw=>h u (by simp[hu]) w (by simp[hw])
    .intro h u hu w hw e f
     rcases Hi.1 hu with rfl | hu
     .grind
     .rcases Hi.1 hw with rfl | hw
      .grind
      .exact h u hu w hw e f
   have C:(∀u∈t::r,∀v,u.level≠0->bU a u.level=some v->u.assoc=v)↔∀u∈r,∀v,u.level≠0->bU a u.level=some v->u.assoc=v:=by
    simp[c]
   have mem:∀n,(n≠0/\∃u∈t::r,u.level=n)↔(n≠0/\∃u∈r,u.level=n):=λn=>by
    grind
   cases E:iI r a top with
   | none=>grind
   | some x =>
    grind
  .rw[GV c]
   have F:=s t (by simp) c
   by_cases z:(bU a t.level).getD 0≠0/\(bU a t.level).getD 0≠t.assoc
   .rw[GZ z]
    rintro⟨_,m⟩
    cases hp:bU a t.level with
    | none=>grind
    | some v =>
     grind
   .rw[GV z]
    have A:∀v,bU a t.level=some v->t.assoc=v:=λv hp=>by
     grind
    have d:∀n,bU (fG t.level t.assoc a) n=if n=t.level then some t.assoc else bU a n:=λn=>by
     rw[u4];simp
    have D:=vV (k:=t.level) (v:=t.assoc) i
    have B:=ng r (fG t.level t.assoc a) (if t.level>top then t.level else top) g (λn v hp=>by
     rw[d] at hp
     split at hp
     .grind
     .exact y n v hp) D.1
    have both:(ll (t::r)/\∀u∈t::r,∀v,u.level≠0->bU a u.level=some v->u.assoc=v)↔(ll r/\∀u∈r,∀v,u.level≠0->bU (fG t.level t.assoc a) u.level=some v->u.assoc=v):=by
     constructor
     .rintro⟨j,m⟩
      refine⟨λu hu w hw=>j u (by simp[hu]) w (by simp[hw]),λu hu v f hp=>?_⟩
      rw[d] at hp
      split at hp
      .rename_i e
       simp at hp;rw[<-hp]
       exact j u (by simp[hu]) t (by simp) e f
      .grind
     .rintro⟨j,m⟩
      have G:∀u∈r,u.level=t.level->u.assoc=t.assoc:=λu hu e=>m u hu t.assoc (by rw[e];exact c) (by rw[d,GZ e])
      refine⟨λu hu w hw e f=>?_,λu hu v f hp=>?_⟩
      .rcases Hi.1 hu with H | o
       .grind
       .rcases Hi.1 hw with I | p
        .grind
        .exact j u o w p e f
      .grind
    grind
theorem qh (l:List Term) (h:∀t∈l,fP t=true):jT l=true↔∀t∈l,∀n:Int,1<=n->n<=t.level->fF l n=true:=by
 have j:∀t∈l,0<=t.level/\(t.level≠0->t.assoc≠0):=λt b=>by
  have:=h t b
  simp only[fP,G0,G7,HC] at this
  grind
 have k:=ng l [] 0 (λt b=>(j t b).2) (by simp[bU]) (by simp)
 have m:∀n:Int,1<=n->(fF l n=true↔∃a,(∃t∈l,t.level=n)/\∀t∈l,t.level=n->t.assoc=a):=λn z=>qW n l (λt b e=>(j t b).2 (by omega))
 unfold jT
 cases d:iI l [] 0 with
 | none =>
  rw[d] at k
  simp only[Hc,false_iff]
  intro c
  refine k ⟨λt b u hu e o=>?_,λt b v _ hp=>by simp[bU] at hp⟩
  have q:=j t b
  obtain⟨a,_,r⟩:=(m t.level (by omega)).1 (c t b t.level (by omega) (by omega))
  grind
 | some x =>
  obtain⟨a,top⟩:=x
  rw[d] at k
  obtain⟨i1,_,i3,i4,i5,i6,i7⟩:=k
  simp only[HC]
  have f:∀n,n∈a.map (·.1)↔n≠0/\∃t∈l,t.level=n:=λn=>by rw[i4];simp
  have g:∀x∈a.map (·.1),1<=x/\x<=(top.toNat:Int):=λx d=>by
   grind
  constructor
  .intro hlen t b n i s
   have p:t.level<=top:=i6 t b (by omega)
   have hm:=D7 i3 g (by simp;omega) i (show n<=(top.toNat:Int) by omega)
   obtain⟨o,u,hu,rfl⟩:=(f n).1 hm
   exact(m _ i).2 ⟨u.assoc,⟨u,hu,rfl⟩,λw hw e=>i1 w hw u hu e (by omega)⟩
  .intro c
   have q:a.length<=top.toNat:=by
    have:=kR _ (gx top.toNat) i3 (λx d=>lS.2 (g x d))
    simpa [gx] using this
   have r:top.toNat<=a.length:=by
    rcases i7 with e | ⟨t,b,e,o⟩
    .grind
    .have:=kR (gx top.toNat) (a.map (·.1)) (uU _) (λx d=>by
      rw[lS] at d
      have:=(j t b).1
      obtain⟨_,⟨u,hu,y⟩,_⟩:=(m x d.1).1 (c t b x d.1 (by omega))
      exact(f x).2 ⟨by omega,u,hu,y⟩)
     simpa [gx] using this
   omega
theorem q7 (g:ay):∀(l:List Term) (i:Int),np g l i=true↔∀(k:Nat) (t:Term),l[k]?=some t->lZ g (i+k) t=true
 | [],i=>by simp[np]
 | t::r,i=>by
  simp only[np,G0,q7 g r (i+1)]
  constructor
  .rintro⟨b,c⟩ k u a
   cases k with
   | zero=>simp at a;subst a;simpa using b
   | succ k =>
    have:=c k u (by simpa using a)
    rw[show i+((k+1:Nat):Int)=i+1+k by push_cast;omega];exact this
  .intro h
   refine⟨by simpa using h 0 t rfl,λk u a=>?_⟩
   have:=h (k+1) u (by simpa using a)
   rw[show i+1+(k:Int)=i+((k+1:Nat):Int) by push_cast;omega];exact this
theorem tl (g:ay):∀(l:List ByteArray) (i:Int),qA g l i=true↔∀(k:Nat) (s:ByteArray),l[k]?=some s->ph g (i+k) s=true
 | [],i=>by simp[qA]
 | t::r,i=>by
  simp only[qA,G0,tl g r (i+1)]
  constructor
  .rintro⟨b,c⟩ k u a
   cases k with
   | zero=>simp at a;subst a;simpa using b
   | succ k =>
    have:=c k u (by simpa using a)
    rw[show i+((k+1:Nat):Int)=i+1+k by push_cast;omega];exact this
  .intro h
   refine⟨by simpa using h 0 t rfl,λk u a=>?_⟩
   have:=h (k+1) u (by simpa using a)
   rw[show i+1+(k:Int)=i+((k+1:Nat):Int) by push_cast;omega];exact this
theorem s9 (g:ay) (s:ByteArray):qK g s<0↔s ∉ g.an.map Term.name:=by
 unfold qK
 rcases ni s (g.an.map Term.name) 0 (by omega) with ⟨b,a⟩ | ⟨k,b,a,_⟩
 .exact⟨λ_=>a,λ_=>b⟩
 .constructor
  .intro h;omega
  .intro h;exact absurd (HD a) h
theorem td (g:ay) (t:Term):tQ g t=true↔∀n:Int,1<=n->n<=t.level->fF g.an n=true:=by
 simp only[tQ,Hg,List.mem_range]
 constructor
 .intro h n a b
  have:=h (n-1).toNat (by omega)
  rwa [show (((n-1).toNat:Nat):Int)+1=n by omega] at this
 .intro h k c
  exact h _ (by omega) (by omega)
theorem yZ (g:ay):jr g=bQ g:=by
 rw[HT]
 simp only[jr,bQ,rJ,uD,kd,G0,G7,q7,tl,tU,Hg,Bool.not_eq_true',List.any_eq_false,Bool.not_eq_true,Aq,ki,List.nodup_append,Int.zero_add,Int.zero_sub,Bool.not_not]
 have v:(∀(k:Nat) (t:Term),g.an[k]?=some t->lZ g k t=true)↔(∀t∈g.an,fP t=true)/\(g.an.map Term.name).Nodup/\(∀t∈g.an,tQ g t=true):=by
  rw[<-sf]
  constructor
  .intro h
   have j:∀t∈g.an,∃k:Nat,g.an[k]?=some t:=λt f=>List.getElem?_of_mem f
   refine⟨λt f=>?_,λk s d=>?_,λt f=>?_⟩
   .obtain⟨k,d⟩:=j t f
    have:=h k t d
    simp only[lZ,fP,G0,G7] at this ⊢
    simp[this]
   .rw[GY,GU] at d
    obtain⟨t,d,rfl⟩:=d
    have:=h k t d
    simp only[lZ,G0,HC] at this
    exact this.1.1.1.1.1.1.2
   .obtain⟨k,d⟩:=j t f
    have:=h k t d
    simp only[lZ,G0] at this
    exact this.2
  .rintro⟨l,m,n⟩ k t d
   have hm:=HD d
   have a:=l t hm
   have b:=m k t.name (by rw[GY,d];rfl)
   have c:=n t hm
   simp only[lZ,fP,qK,G0,G7] at a ⊢
   simp[a,b,c]
 have w:(∀(k:Nat) (s:ByteArray),g.aB[k]?=some s->ph g k s=true)↔(∀s∈g.aB,fR (eD s)=true)/\g.aB.Nodup/\(∀s∈g.aB,s ∉ g.an.map Term.name):=by
  rw[<-sf]
  constructor
  .intro h
   have j:∀t∈g.aB,∃k:Nat,g.aB[k]?=some t:=λt f=>List.getElem?_of_mem f
   refine⟨λt f=>?_,λk s d=>?_,λt f=>?_⟩
   .obtain⟨k,d⟩:=j t f
    have:=h k t d
    simp only[ph,G0] at this
    exact this.1.1
   .have:=h k s d
    simp only[ph,Cm,G0,HC] at this
    exact this.1.2
   .obtain⟨k,d⟩:=j t f
    have:=h k t d
    simp only[ph,G0,G7] at this
    exact(s9 g t).1 this.2
  .rintro⟨l,m,n⟩ k s d
   have hm:=HD d
   have a:=l s hm
   have b:=m k s d
   have c:=(s9 g s).2 (n s hm)
   simp[ph,Cm,a,b,c]
 rw[v,w]
 constructor
 .rintro⟨⟨⟨⟨⟨⟨⟨⟨t1,t2⟩,t3⟩,x,y⟩,z,A⟩,o,a2,a3⟩,s1,s2⟩,p⟩,q⟩
  have r:=(qh g.an t1).1 t3
  exact⟨⟨⟨⟨⟨⟨⟨t2,t1,a2,λt f=>(td g t).2 (r t f)⟩,⟨by omega,by omega⟩,λs i=>by simpa using p s i,o,λs i hm=>a3 s i s hm rfl⟩,by omega⟩,by omega⟩,s1⟩,by omega⟩,q⟩
 .rintro⟨⟨⟨⟨⟨⟨⟨t2,t1,a2,t3⟩,⟨x,y⟩,p,o,a3⟩,z⟩,A⟩,s1⟩,s2⟩,q⟩
  have r:=(qh g.an t1).2 (λt f=>(td g t).1 (t3 t f))
  exact⟨⟨⟨⟨⟨⟨⟨⟨t1,t2⟩,r⟩,by omega,by omega⟩,by omega,by omega⟩,o,a2,λs i u hu e=>a3 s i (e▸hu)⟩,s1,by omega⟩,λs i=>by simp[p s i]⟩,q⟩
theorem gS (g:ay) (a:g.Ok) (b:g.aB.length+g.an.length<=1000):ak aa 17 [.agg (ax g)] (gb (bQ g)):=by
 rw[<-yZ];exact y3 g a b
def qM (n:Nat) (r:aI):Prop:=eW r.left/\0<=r.left/\r.left<n/\r.right.length<=6/\∀s∈r.right,eW s/\(s<0->-1-s<n)
theorem ay.uN.nH {g:ay} (a:g.Ok) (h:g.uN) {r:aI} (hr:r∈g.rules):qM g.aB.length r:=
 ⟨(a.nC r hr).1,(h.left r hr).1,(h.left r hr).2,h.right r hr,λs b=>⟨(a.nC r hr).2.2.2 s b,λc=>h.neg hr b c⟩⟩
def mH:SF:=⟨ai [af [bq 2 false],af [ab 3 0,aZ 4 .geq 3 0,ab 2 4],.ret],
 [.tmp 2],5⟩
theorem pG:aM aa 284 []=some mH:=by kernel_rfl
def oS:SF:=⟨ai [af [gU 1 0,bq 2 false],af [aO 3 1 1,aG 4 3,mM 5 54 [(.tmp 4),(.val (.fn 284 [] []))],db 6 5,ab 2 6],.ret],
 [.tmp 2],7⟩
theorem rO:aM aa 232 [1]=some oS:=by kernel_rfl
def kx:SF:=⟨ai [af [bq 3 false],.region false [⟨none,[ab 4 0,aZ 5 .lss 4 0,ab 6 5]⟩,⟨(some (6,true)),[aG 7 1,ab 8 0,((some 9),.op (.arith .sub (.val (.val (.int .i64 (-1)))) (.tmp 8))),b4 10 1 7 9,aG 11 10,db 12 11]⟩,⟨none,[jg 13 6 12,ab 3 13]⟩],.ret],
 [.tmp 3],14⟩
theorem nE:aM aa 156 []=some kx:=by kernel_rfl
def mP:SF:=⟨ai [af [gU 2 0,gU 3 1,bq 4 false],af [aO 5 1 2,aG 6 5,((some 7),.op (.nu 156 [] [(.tmp 3)])),bX 8 54 [6,7],db 9 8,ab 4 9],.ret],
 [.tmp 4],10⟩
theorem pk:aM aa 94 [2,3]=some mP:=by kernel_rfl
def jy:SF:=⟨ai [af [gU 2 0,dU 4 1],ai [.region false [⟨none,[c6 5 3 2,bX 6 232 [5],ab 7 6]⟩,⟨(some (7,true)),[c6 8 3 2,ab 9 1,bX 10 94 [8,9]]⟩,⟨none,[jg 11 7 10]⟩],bV 11 (ai [af [aO 12 0 2,aG 13 12,((some 14),.op (.en 1 1 [(.val (.int .i64 0))] [(0,(.tmp 13))])),ab 4 14],.ret])],af [dU 4 1],.ret],
 [.tmp 4],15⟩
theorem mo:aM aa 231 [2]=some jy:=by kernel_rfl
def iz:SF:=⟨ai [af [gU 2 0,dU 4 1],ai [af [c6 5 3 2,ab 6 1,bX 7 94 [5,6]],bV 7 (ai [af [aO 8 0 2,aG 9 8,((some 10),.op (.en 1 1 [(.val (.int .i64 0))] [(0,(.tmp 9))])),ab 4 10],.ret])],af [dU 4 1],.ret],
 [.tmp 4],11⟩
theorem k9:aM aa 154 [2]=some iz:=by kernel_rfl
def ik:SC:=
 ai [af [cm 24 .lss 23 22],eY 24 (.exit 0),.block 1 (ai [af [b4 25 1 21 23,aG 26 25,ab 7 26],af [ab 27 7,aZ 28 .lss 27 0],bV 28 (af [ab 29 5,ab 30 7,((some 31),.op (.arith .sub (.val (.val (.int .i64 (-1)))) (.tmp 30))),((some 32),.op (.en 1 1 [(.val (.int .i64 0))] [(0,(.tmp 31))])),o9 33 1 8 29 32,ab 5 33])]),af [aZ 34 .add 23 1,ab 23 34]]
def jf:SF:=⟨ai [af [gU 3 0,dU 5 1],ai [.region false [⟨none,[ab 8 1,aO 9 0 3,aG 10 9,b4 11 1 8 10,aG 12 11,db 13 12,ab 14 13]⟩,⟨(some (14,false)),[c6 15 3 3,aG 16 2,bX 17 94 [15,16],db 18 17]⟩,⟨none,[fY 19 14 18]⟩],bV 19 (ai [af [dU 5 1],.ret])],ai [af [aO 20 1 3,aG 21 20,bg 22 21,bR 23 0],fk 0 ik],af [ab 35 5,ab 5 35],.ret],
 [.tmp 5],36⟩
theorem lF:aM aa 155 [3]=some jf:=by kernel_rfl
theorem BE (r:aI):∀v∈[V.agg (aK r)],Tree v:=by intro v a;simp at a;subst a;exact dD _ (cG r)
theorem pC (r:aI) (is:List Bool):∀v∈[V.agg (aK r),cp is],Tree v:=by
 intro v a;simp at a
 rcases a with rfl | rfl
 .exact dD _ (cG r)
 .exact gP is
theorem CL (x:Int):ak aa 284 [gi x] (gb (decide (0<=x))):=by
 refine ak.val (nd (l:=[.int .i64 x])) λH=>?_
 refine ar.of mixed pG ?_
 simp(disch:=omega)only[↓wr,seval,wq,mH]
theorem DH (r:aI) (hr:aF r.right):ak aa 232 [.agg (aK r)] (gb (!r.right.any λs=>decide (0<=s))):=by
 refine ak.val (BE r) λH=>?_
 refine ar.of mixed rO ?_
 simp(disch:=omega)only[↓wr,seval,wq,oS,aK,encI]
 refine av.pure (gH r.right hr 284 [] (by simp) (λs=>decide (0<=s)) (λx _=>CL x) (by kernel_rfl)) ?_
 simp(disch:=omega)only[↓wr,seval,wq]
def rD (is:List Bool) (s:Int):Bool:=decide (s<0) && !is.getD (-1-s).toNat false
theorem zj (is:List Bool) (s:Int) (e:eW s/\(s<0->-1-s<is.length)):ak aa 156 [gi s,.aC [cp is] 0] (gb (rD is s)):=by
 refine ak.val ?_ λH=>?_
 .intro v a;simp at a
  rcases a with rfl | rfl
  .exact .val _
  .exact fA (by intro v a;simp at a;subst a;exact gP is)
 obtain⟨⟨f,g⟩,i⟩:=e
 refine ar.of mixed nE ?_
 simp(disch:=omega)only[↓wr,seval,wq,kx,cp]
 apply aj.dec<;>intro h
 .have d:is[(-1-s).toNat]?=some (is[(-1-s).toNat]'(by omega)):=GR (by omega)
  have c:is.getD (-1-s).toNat false=is[(-1-s).toNat]'(by omega):=by simp[GQ,d]
  generalize is[(-1-s).toNat]'(by omega)=b at d c
  simp(disch:=omega)only[↓wr,seval,wq,GY,d]
  simp only[rD,c,h,decide_true,Bool.true_and]
 .simp(disch:=omega)only[↓wr,seval,wq]
  simp[rD,h]
theorem zE {is:List Bool} {l:List Int} : (!l.any (rD is))=eM l is true:=by
 simp only[eM,List.not_any_eq_all_not]
 congr 1
 funext s
 simp only[rD]
 by_cases h:0<=s
 .simp[h,show ¬ s<0 by omega]
 .simp[h,show s<0 by omega]
theorem kJ (r:aI) (is:List Bool) (hr:aF r.right) (b:∀s∈r.right,eW s/\(s<0->-1-s<is.length)):ak aa 94 [.agg (aK r),cp is] (gb (eM r.right is true)):=by
 rw[<-zE]
 refine ak.val (pC r is) λH=>?_
 refine ar.of mixed pk ?_
 simp(disch:=omega)only[↓wr,seval,wq,mP,aK,cp,encI]
 refine av.pure (gH r.right hr 156 [.aC [cp is] 0] (by
  intro v a;simp at a;subst a
  exact fA (by intro v a;simp at a;subst a;exact gP is)) (rD is) (λx c=>zj is x (b x c)) (by kernel_rfl)) ?_
 simp(disch:=omega)only[↓wr,seval,wq]
theorem wc {is:List Bool} {l:List Int} : ((!l.any λs=>decide (0<=s))&&eM l is true)=eM l is false:=by
 induction l with
 | nil=>rfl
 | cons s l a =>
  simp only[eM,Ia,List.any_cons] at a ⊢
  rw[<-a]
  by_cases h:0<=s
  .simp[h]
  .simp only[h,decide_false,Bool.false_or,if_false]
   cases (l.any λs=>decide (0<=s))<;>simp
theorem kf {h:ah} {u:V} {l:List Int} (a:aJ h.view u 1 (l.map λx=>[gi x])):dz h u (encI l):=dz.ud (f:=Value.int .i64) a
theorem uW (r:aI) (is:List Bool) (hr:qM is.length r):aT aa 231 [.agg (aK r),cp is] (encI (if eM r.right is false=true then [r.left] else [])):=by
 obtain⟨f,_,_,c,d⟩:=hr
 have a:aF r.right:=by unfold aF;omega
 refine aT.of (pC r is) ?_
 refine ar.of mixed mo ?_
 rw[<-wc]
 simp(disch:=omega)only[↓wr,seval,wq,jy,aK,encI]
 refine av.pure (DH r a) ?_
 repeat' (first | ((first|apply aj.dec|apply aj.eq|apply aj.ne|apply aj.split)<;>intro)|(refine av.pure (kJ r is a d) ?_)|(simp(disch:=omega)only[↓wr,seval,wq,aK,encI]))
 all_goals first
  | (intro n e b;rw[GZ (by simp[*])];exact kf (l:=[r.left]) (.inr ⟨n,rfl,by rw[b];simp[View.set]⟩))
  | (intro e b;rw[GV (by simp[*])];exact .emp _)
theorem rE (r:aI) (is:List Bool) (hr:qM is.length r):aT aa 154 [.agg (aK r),cp is] (encI (if eM r.right is true=true then [r.left] else [])):=by
 obtain⟨f,_,_,c,d⟩:=hr
 have a:aF r.right:=by unfold aF;omega
 refine aT.of (pC r is) ?_
 refine ar.of mixed k9 ?_
 simp(disch:=omega)only[↓wr,seval,wq,iz,aK,encI]
 refine av.pure (kJ r is a d) ?_
 repeat' (first | ((first|apply aj.dec|apply aj.eq|apply aj.ne|apply aj.split)<;>intro)|(simp(disch:=omega)only[↓wr,seval,wq,aK,encI]))
 all_goals first
  | (intro n e b;rw[GZ (by simp[*])];exact kf (l:=[r.left]) (.inr ⟨n,rfl,by rw[b];simp[View.set]⟩))
  | (intro e b;rw[GV (by simp[*])];exact .emp _)
def du (l:List Int):List Int:=(l.filter λs=>decide (s<0)).map λs=>-1-s
theorem A0 (r:aI) (is p:List Bool):∀v∈[V.agg (aK r),cp is,.aC [cp p] 0],Tree v:=by
 intro v a;simp at a
 rcases a with rfl | rfl | rfl
 .exact dD _ (cG r)
 .exact gP is
 .exact fA (by intro v a;simp at a;subst a;exact gP p)
theorem tv (r:aI) (is p:List Bool) (hr:qM is.length r) (hp:p.length=is.length):
  aT aa 155 [.agg (aK r),cp is,.aC [cp p] 0] (encI (if (is.getD r.left.toNat false&&eM r.right p true)=true then du r.right else [])):=by
 obtain⟨G,B,C,D,l⟩:=hr
 have n:aF r.right:=by unfold aF;omega
 refine aT.of (A0 r is p) ?_
 refine ar.of mixed lF ?_
 have o:is[r.left.toNat]?=some (is[r.left.toNat]'(by omega)):=GR (by omega)
 have g:is.getD r.left.toNat false=is[r.left.toNat]'(by omega):=by simp[GQ,o]
 generalize is[r.left.toNat]'(by omega)=b at o g
 rw[g]
 simp(disch:=omega)only[↓wr,seval,wq,jf,aK,encI,cp,GY,o]
 cases b with
 | false =>
  simp(disch:=omega)only[↓wr,seval,wq]
  intro z q
  exact .emp _
 | true =>
  simp(disch:=omega)only[↓wr,seval,wq,aK,encI,cp]
  refine av.pure (kJ r p n (λs j=>⟨(l s j).1,λh=>by rw[hp];exact(l s j).2 h⟩)) ?_
  repeat' (first | ((first|apply aj.dec|apply aj.eq|apply aj.ne|apply aj.split)<;>intro)|(simp(disch:=omega)only[↓wr,seval,wq,aK,encI,cp]))
  .rename_i t
   rw[GZ (by simp[t])]
   refine bH.up r.right.length (λi T H=>(∃u,T 5=u/\aJ H u 1 ((du (r.right.take i)).map λx=>[gi x]))/\T 21=encI r.right/\T 22=gi r.right.length/\T 23=gi i) ?_ ?_
   .exact⟨⟨_,rfl,.nil⟩,rfl,rfl,rfl⟩
   rintro i k T H' A ⟨⟨u,e,hu⟩,a,c,d⟩
   simp(disch:=omega)only[↓wr,seval,wq,ik,e,a,c,d,encI]
   apply aj.dec<;>intro E
   .have v:r.right[i]?=some (r.right[i]'(by omega)):=GR (by omega)
    have hm:r.right[i]'(by omega)∈r.right:=G4 _
    have f:du (r.right.take (i+1))=du (r.right.take i)++du [r.right[i]'(by omega)]:=by
     rw[Hn,v,du,List.filter_append,Ip];rfl
    have hlen:(du (r.right.take i)).length<=6:=by
     have I:(du (r.right.take i)).length<=(r.right.take i).length:=by simp only[du,G8];exact List.length_filter_le _ _
     have J:(r.right.take i).length<=i:=List.length_take_le _ _
     omega
    generalize r.right[i]'(by omega)=s at v hm f
    obtain⟨⟨s1,s2⟩,K⟩:=l s hm
    simp(disch:=omega)only[↓wr,seval,wq,e,a,c,d,encI,GY,v]
    apply aj.dec<;>intro w
    .simp(disch:=omega)only[↓wr,seval,wq,e,a,c,d]
     intro m hm
     try simp(disch:=omega)only[↓wr,seval,wq,e,a,c,d,gv]
     refine jd (hu.fresh hm) (by simp) (by simp[au]) (by unfold aD;simp at hlen ⊢;omega) (by unfold aD;simp at hlen ⊢;omega) ?_
     intro F L y _
     simp(disch:=omega)only[↓wr,seval,wq,a,c,d]
     refine bC A (by omega) ⟨⟨F,rfl,?_⟩,a,c,rfl⟩
     rw[f]
     simpa [du,w] using y
    .simp(disch:=omega)only[↓wr,seval,wq,e,a,c,d]
     refine bC A (by omega) ⟨⟨u,e,?_⟩,a,c,rfl⟩
     rw[f]
     simpa [du,w] using hu
   .rw[G9 (by omega)] at hu
    simp(disch:=omega)only[↓wr,seval,wq,e,a,c,d]
    intro z q
    exact kf (by rw[q];exact hu)
  .rename_i t
   intro z q
   rw[GV (by simp[t])]
   exact .emp _
end Gv
