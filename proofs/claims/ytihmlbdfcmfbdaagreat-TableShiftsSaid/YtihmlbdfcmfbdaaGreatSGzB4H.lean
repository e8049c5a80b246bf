/-
  Part 8 of the proof: what the machine does and what the functions answer.
  Conditions: those that each lemma names.
-/
import Derived.Shelf.SlIter.Sorted
import Derived.Shelf.SortM.Plain
import Derived.Shelf.SortM.SortNone
import Derived.Shelf.SlicesG.CompactS
import Derived.Test.YtihmlbdfcmfbdaaGreatSGzB4G
set_option linter.unusedSimpArgs false
set_option linter.unusedVariables false
set_option maxRecDepth 100000
set_option maxHeartbeats 20000000
namespace Gv
open Go Go.Proofs
def cG {α:Type} (p:α→Bool):List α→Int→Int
 | [],_=>-1
 | x :: l,i=>if p x then i else cG p l (i+1)
theorem sT {α:Type} (p:α→Bool):∀ (l:List α) (i:Int),0≤i→decide (0≤cG p l i)=l.any p
 | [],_,_=>by simp[cG]
 | x :: l,i,h=>by
  have a:=sT p l (i+1) (by omega)
  rw[List.any_cons,cG]
  by_cases hp:p x=true
  ·rw[Xg hp,hp]; simp[h]
  ·rw[Xd hp,a]; simp[hp]
theorem EO {f:FuncId} {xs cap:List V} (h:∀ v∈xs,Tree v) (b:∀ v∈cap,Tree v):Tree (.fn f xs cap):=by
 refine .fn _ _ _ (fun i hi=>?_) (fun i hi=>?_)
 ·have a:xs.getD i .any=xs[i]:=by simp[Xb,hi]
  rw[a]; exact h _ (Xm _)
 ·have a:cap.getD i .any=cap[i]:=by simp[Xb,hi]
  rw[a]; exact b _ (Xm _)
def fO:SC :=
 ae [ab [aV 9 .lss 8 7],bY 9 (.exit 0),.block 1 (ae [ab [aa 10 8,aa 5 10],ab [aa 11 1,aa 12 0,aa 13 5,aQ 14 1 12 13,aj 15 14,((some 16),.call (.tmp 11) [(.tmp 15)])],bf 16 (ae [ab [aa 17 5,aa 4 17],.ret])]),ab [aH 18 .add 8 1,aa 8 18]]
def gx:SF:=⟨ae [ab [aS 4 0],ae [ab [aa 6 0,aN 7 6,aS 8 0],b6 0 fO],ab [aS 4 (-1)],.ret],
 [.tmp 4],19⟩
theorem iU:aR Tryz.prog 133 []=some gx:=by kernel_rfl
def fD:SF:=⟨ae [ab [bu 4 false],ab [aa 5 0,aa 6 1,bz 7 133 [5,6],aH 8 .geq 7 0,aa 4 8],.ret],
 [.tmp 4],9⟩
theorem iq:aR Tryz.prog 91 []=some fD:=by kernel_rfl
def gL:SC :=
 ae [ab [aV 9 .lss 8 7],bY 9 (.exit 0),.block 1 (ae [ab [aa 10 8,aa 5 10],ab [aa 11 1,aa 12 0,aa 13 5,aQ 14 1 12 13,aj 15 14,((some 16),.call (.tmp 11) [(.tmp 15)])],bf 16 (ae [ab [aa 17 5,aa 4 17],.ret])]),ab [aH 18 .add 8 1,aa 8 18]]
def ij:SF:=⟨ae [ab [aS 4 0],ae [ab [aa 6 0,aN 7 6,aS 8 0],b6 0 gL],ab [aS 4 (-1)],.ret],
 [.tmp 4],19⟩
theorem kK:aR Tryz.prog 146 []=some ij:=by kernel_rfl
def gB:SF:=⟨ae [ab [bu 4 false],ab [aa 5 0,aa 6 1,bz 7 146 [5,6],aH 8 .geq 7 0,aa 4 8],.ret],
 [.tmp 4],9⟩
theorem j0:aR Tryz.prog 100 []=some gB:=by kernel_rfl
theorem GB (l:List Int) (hl:aL l) (f:FuncId) (cap:List V) (p:Int→Bool) (g:∀ x∈l,aA Tryz.prog f (gi x :: cap) (gb (p x))) (d:dJ Tryz.prog f=true) (H:View) :
  aw Tryz.prog 133 [encI l,.fn f [] cap] H fun r _=>r=gi (cG p l 0):=by
 refine aw.of mixed iU ?_
 unfold aL at hl
 simp (disch:=omega)only[↓wr,seval,wq,gx,encI]
 refine aU.up l.length (fun i T _=>cG p (l.drop i) i=cG p l 0∧T 0=encI l∧T 1=.fn f [] cap∧T 7=gi l.length∧T 8=gi i) ⟨rfl,rfl,rfl,rfl,rfl⟩ ?_
 rintro i k T H hk ⟨hi,a,h1,b,c⟩
 simp (disch:=omega)only[↓wr,seval,wq,fO,a,h1,b,c,encI]
 apply ah.dec<;>intro h
 ·have e:l[i]?=some (l[i]'(by omega)):=Xc (by omega)
  have hm:l[i]'(by omega)∈l:=Xm _
  rw[fp (show i < l.length by omega)] at hi
  generalize l[i]'(by omega)=x at e hm hi
  simp (disch:=omega)only[↓wr,seval,wq,a,h1,b,c,encI,Xf,e]
  refine ay.pure (g x hm) ?_ d
  simp only[cG] at hi
  repeat' (first | (refine ah.dec (fun _=>?_) (fun _=>?_)) | (refine ah.eq (fun _=>?_) (fun _=>?_)) | (refine ah.ne (fun _=>?_) (fun _=>?_)) | (refine ah.split (fun _=>?_) (fun _=>?_)) | (simp (disch:=omega)only[↓wr,seval,wq,a,h1,b,c]))
  ·rename_i hp
   rw[← hi,Xg hp]
  ·rename_i hp
   refine aF hk (by omega) ⟨?_,a,h1,b,rfl⟩
   rw[Xd (by simp[hp])] at hi
   push_cast; exact hi
 ·rw[XK (by omega)] at hi
  simp (disch:=omega)only[↓wr,seval,wq,a,h1,b,c]
  rw[← hi]; rfl
theorem Ag {l:List Int} {f:FuncId} {cap:List V} (a:∀ v∈cap,Tree v):∀ v∈[encI l,.fn f [] cap],Tree v:=by
 intro v b; simp at b
 rcases b with rfl | rfl
 ·exact gp l
 ·exact EO (by simp) a
theorem nF (l:List Int) (hl:aL l) (f:FuncId) (cap:List V) (a:∀ v∈cap,Tree v) (p:Int→Bool) (c:∀ x∈l,aA Tryz.prog f (gi x :: cap) (gb (p x))) (b:dJ Tryz.prog f=true) :
  aA Tryz.prog 91 [encI l,.fn f [] cap] (gb (l.any p)):=by
 refine aA.val (Ag a) fun H=>?_
 refine aw.of mixed iq ?_
 simp (disch:=omega)only[↓wr,seval,wq,fD]
 refine ay.pure (aA.val (Ag a) (GB l hl f cap p c b)) ?_
 simp (disch:=omega)only[↓wr,seval,wq]
 rw[← sT p l 0 (by omega)]
theorem GD (l:List ByteArray) (hl:aL l) (f:FuncId) (cap:List V) (p:ByteArray→Bool) (g:∀ x∈l,aA Tryz.prog f (gs x :: cap) (gb (p x))) (d:dJ Tryz.prog f=true) (H:View) :
  aw Tryz.prog 146 [encS l,.fn f [] cap] H fun r _=>r=gi (cG p l 0):=by
 refine aw.of mixed kK ?_
 unfold aL at hl
 simp (disch:=omega)only[↓wr,seval,wq,ij,encS]
 refine aU.up l.length (fun i T _=>cG p (l.drop i) i=cG p l 0∧T 0=encS l∧T 1=.fn f [] cap∧T 7=gi l.length∧T 8=gi i) ⟨rfl,rfl,rfl,rfl,rfl⟩ ?_
 rintro i k T H hk ⟨hi,a,h1,b,c⟩
 simp (disch:=omega)only[↓wr,seval,wq,gL,a,h1,b,c,encS]
 apply ah.dec<;>intro h
 ·have e:l[i]?=some (l[i]'(by omega)):=Xc (by omega)
  have hm:l[i]'(by omega)∈l:=Xm _
  rw[fp (show i < l.length by omega)] at hi
  generalize l[i]'(by omega)=x at e hm hi
  simp (disch:=omega)only[↓wr,seval,wq,a,h1,b,c,encS,Xf,e]
  refine ay.pure (g x hm) ?_ d
  simp only[cG] at hi
  repeat' (first | (refine ah.dec (fun _=>?_) (fun _=>?_)) | (refine ah.eq (fun _=>?_) (fun _=>?_)) | (refine ah.ne (fun _=>?_) (fun _=>?_)) | (refine ah.split (fun _=>?_) (fun _=>?_)) | (simp (disch:=omega)only[↓wr,seval,wq,a,h1,b,c]))
  ·rename_i hp
   rw[← hi,Xg hp]
  ·rename_i hp
   refine aF hk (by omega) ⟨?_,a,h1,b,rfl⟩
   rw[Xd (by simp[hp])] at hi
   push_cast; exact hi
 ·rw[XK (by omega)] at hi
  simp (disch:=omega)only[↓wr,seval,wq,a,h1,b,c]
  rw[← hi]; rfl
theorem zp {l:List ByteArray} {f:FuncId} {cap:List V} (a:∀ v∈cap,Tree v):∀ v∈[encS l,.fn f [] cap],Tree v:=by
 intro v b; simp at b
 rcases b with rfl | rfl
 ·exact ze l
 ·exact EO (by simp) a
theorem Br (l:List ByteArray) (hl:aL l) (f:FuncId) (cap:List V) (a:∀ v∈cap,Tree v) (p:ByteArray→Bool) (c:∀ x∈l,aA Tryz.prog f (gs x :: cap) (gb (p x))) (b:dJ Tryz.prog f=true) :
  aA Tryz.prog 100 [encS l,.fn f [] cap] (gb (l.any p)):=by
 refine aA.val (zp a) fun H=>?_
 refine aw.of mixed j0 ?_
 simp (disch:=omega)only[↓wr,seval,wq,gB]
 refine ay.pure (aA.val (zp a) (GD l hl f cap p c b)) ?_
 simp (disch:=omega)only[↓wr,seval,wq]
 rw[← sT p l 0 (by omega)]
theorem zK {l:List Value} : ∀ v∈l.map V.val,Tree v:=by
 intro v a; obtain ⟨x,_,rfl⟩:=Xw.1 a; exact .val _
def Aa:SF:=⟨ae [ab [bu 6 false],.region false [⟨none,[aa 7 0,aa 8 1,aV 9 .geq 7 8,aa 10 9]⟩,⟨(some (10,true)),[aa 11 0,aa 12 2,aV 13 .leq 11 12]⟩,⟨none,[eJ 14 10 13,aa 6 14]⟩],.ret],
 [.tmp 6],15⟩
theorem CD:aR Tryz.prog 98 []=some Aa:=by kernel_rfl
def Fv:SF:=⟨ae [ab [aS 2 0],ab [aa 3 0,((some 4),.op (.arith .sub (.val (.val (.int .i64 (-1)))) (.tmp 3))),aa 2 4],.ret],
 [.tmp 2],5⟩
theorem I7:aR Tryz.prog 191 []=some Fv:=by kernel_rfl
def Gk:SF:=⟨ae [ab [cI 2 0,bu 4 false],ae [ab [aa 5 1,aH 6 .lss 5 0],bf 6 (ae [.region true [⟨none,[aa 7 1,bz 8 191 [7],ao 9 1 2,aj 10 9,aN 11 10,aV 12 .lss 8 11,aa 4 12]⟩],.ret])],ab [aa 13 1,ao 14 0 2,aj 15 14,aN 16 15,aV 17 .lss 13 16,aa 4 17],.ret],
 [.tmp 4],18⟩
theorem I8:aR Tryz.prog 150 [2]=some Gk:=by kernel_rfl
def zh:SF:=⟨ae [ab [bu 4 false],.region false [⟨none,[bg 5 4 1,aa 6 0,bz 7 150 [5,6],de 8 7,aa 9 8]⟩,⟨(some (9,false)),[aa 10 0,aH 11 .geq 10 0,aa 12 11]⟩,⟨(some (12,true)),[ao 13 2 2,aj 14 13,aH 15 .eql 14 (-1)]⟩,⟨(some (9,false)),[eJ 16 12 15]⟩,⟨none,[cz 17 9 16,aa 4 17]⟩],.ret],
 [.tmp 4],18⟩
theorem DS:aR Tryz.prog 149 []=some zh:=by kernel_rfl
def Dd:SF:=⟨ae [ab [cI 2 0,cI 3 1,bu 4 false],ae [.region false [⟨none,[ao 5 1 3,aj 6 5,aN 7 6,aH 8 .gtr 7 6,aa 9 8]⟩,⟨(some (9,false)),[ao 10 2 3,aj 11 10,ao 12 0 2,aj 13 12,aN 14 13,aH 15 .sub 14 1,r7 16 98 [(.tmp 11),(.val (.val (.int .i64 (-1)))),(.tmp 15)],de 17 16]⟩,⟨none,[cz 18 9 17]⟩],bf 18 (ae [ab [bu 4 false],.ret])],ab [ao 19 1 3,aj 20 19,((some 21),.op (.s9 149 [] [(.tmp 2),(.tmp 3)])),bz 22 91 [20,21],de 23 22,aa 4 23],.ret],
 [.tmp 4],24⟩
theorem GH:aR Tryz.prog 103 [2,3]=some Dd:=by kernel_rfl
theorem sw (a b c:Int):aA Tryz.prog 98 [gi a,gi b,gi c] (gb (decide (b≤a) && decide (a≤c))):=by
 refine aA.val (zK (l:=[.int .i64 a,.int .i64 b,.int .i64 c])) fun H=>?_
 refine aw.of mixed CD ?_
 repeat' (first | (refine ah.dec (fun _=>?_) (fun _=>?_)) | (refine ah.eq (fun _=>?_) (fun _=>?_)) | (refine ah.ne (fun _=>?_) (fun _=>?_)) | (refine ah.split (fun _=>?_) (fun _=>?_)) | (simp (disch:=omega)only[↓wr,seval,wq,Aa]))
 all_goals simp[*]
theorem Up (s:Int) (hs:cy s):aA Tryz.prog 191 [gi s] (gi (-1 - s)):=by
 refine aA.val (zK (l:=[.int .i64 s])) fun H=>?_
 obtain ⟨h1,a⟩:=hs
 refine aw.of mixed I7 ?_
 repeat' (first | (refine ah.dec (fun _=>?_) (fun _=>?_)) | (refine ah.eq (fun _=>?_) (fun _=>?_)) | (refine ah.ne (fun _=>?_) (fun _=>?_)) | (refine ah.split (fun _=>?_) (fun _=>?_)) | (simp (disch:=omega)only[↓wr,seval,wq,Fv]))
theorem T0 (g:ag) (s:Int) (hs:cy s):aA Tryz.prog 150 [.agg (ai g),gi s] (gb (gu g s)):=by
 refine aA.val (Ho g s) fun H=>?_
 refine aw.of mixed I8 ?_
 repeat' (first | (refine ah.dec (fun _=>?_) (fun _=>?_)) | (refine ah.eq (fun _=>?_) (fun _=>?_)) | (refine ah.ne (fun _=>?_) (fun _=>?_)) | (refine ah.split (fun _=>?_) (fun _=>?_)) | (refine ay.pure (Up s hs) ?_) | (simp (disch:=omega)only[↓wr,seval,wq,Gk,ai,encS]))
 ·rename_i h; simp[gu,show ¬ (0:Int)≤s by omega]
 ·rename_i h; simp[gu,show (0:Int)≤s by omega]
theorem lp {cs:List V} {j:Nat} (h:∀ v∈cs,Tree v):Tree (.aJ cs j):=by
 refine .aJ _ _ fun i hi=>?_
 have a:cs.getD i .any=cs[i]:=by simp[Xb,hi]
 rw[a]; exact h _ (Xm _)
theorem PN (g:ag) (r:aW) (s:Int) (hs:cy s):aA Tryz.prog 149 [gi s,.aJ (ai g) 0,.aJ (aP r) 0] (gb (!nz g r.prec s)):=by
 refine aA.val ?_ fun H=>?_
 ·intro v a; simp at a
  rcases a with rfl | rfl | rfl
  ·exact .val _
  ·exact lp (dE g)
  ·exact lp (ia r)
 refine aw.of mixed DS ?_
 simp (disch:=omega)only[↓wr,seval,wq,zh,ai]
 refine ay.pure (T0 g s hs) ?_
 repeat' (first | (refine ah.dec (fun _=>?_) (fun _=>?_)) | (refine ah.eq (fun _=>?_) (fun _=>?_)) | (refine ah.ne (fun _=>?_) (fun _=>?_)) | (refine ah.split (fun _=>?_) (fun _=>?_)) | (simp (disch:=omega)only[↓wr,seval,wq,aP]))
 all_goals simp[nz, *]
theorem Rm (g:ag) (r:aW) (e:g.Ok) (hr:aL r.right∧∀ x∈r.right,cy x):aA Tryz.prog 103 [.agg (ai g),.agg (aP r)] (gb (jc g r)):=by
 refine aA.val (Jg g r) fun H=>?_
 have f:=e.af
 unfold aL at f
 refine aw.of mixed GH ?_
 repeat' (first | (refine ah.dec (fun _=>?_) (fun _=>?_)) | (refine ah.eq (fun _=>?_) (fun _=>?_)) | (refine ah.ne (fun _=>?_) (fun _=>?_)) | (refine ah.split (fun _=>?_) (fun _=>?_)) | (refine ay.pure (sw _ _ _) ?_) | (simp (disch:=omega)only[↓wr,seval,wq,Dd,ai,aP,encI,encS]))
 ·rename_i h; simp[jc,show ¬ r.right.length≤6 by omega]
 ·rename_i h1 b
  have c:r.right.length≤6:=by omega
  have a : -1≤r.prec∧r.prec < g.af.length:=by simp at b; omega
  refine ay.pure (nF r.right hr.1 149 [.aJ (ai g) 0,.aJ (aP r) 0] ?_ (fun s=>!nz g r.prec s) (fun x i=>PN g r x (hr.2 x i)) (by kernel_rfl)) ?_
  ·intro v d; simp at d
   rcases d with rfl | rfl
   ·exact lp (dE g)
   ·exact lp (ia r)
  simp (disch:=omega)only[↓wr,seval,wq]
  simp[jc,c,a.1,a.2]
  rw[Yl]
  simp
 ·rename_i h1 b
  have c:¬ (-1≤r.prec∧r.prec < g.af.length):=by simp at b; omega
  have:(decide (-1≤r.prec) && decide (r.prec < (g.af.length:Int)))=false:=by
   rw[← Bool.decide_and]; simpa using c
  simp only[jc,Bool.and_assoc]
  rw[← Bool.and_assoc (decide (-1≤r.prec)),this]; simp
theorem Sy (l:List Int) (f:l.getD 0 0=39):((nC l).2 == 0 && (nC l).1 == (l.length:Int))=nD l:=by
 match l,f with
 | [],h=>simp at h
 | [a],_=>rfl
 | [a,b],_ =>
  simp only[nC,lL,nD,Xt,XN,Y0,Yk]
  repeat' split
  all_goals simp_all
 | [a,b,c],f =>
  have g:a=39:=by simpa using f
  subst g
  simp only[nC,lL,nD,Ae,EK,Xt,XN,Y0,Yk]
  repeat' split
  all_goals simp_all
  all_goals grind
 | [a,b,c,d],f =>
  have g:a=39:=by simpa using f
  subst g
  simp only[nC,lL,nD,Ae,EK,Xt,XN,Y0,Yk]
  repeat' split
  all_goals simp_all
  all_goals grind
 | a :: b :: c :: d :: e :: r,f =>
  simp only[nC,lL,nD,Ae,EK,Xt,Y0,Yk]
  repeat' split
  all_goals simp_all
  all_goals (try omega)
  all_goals grind
theorem MD {c:Int} {l:List Int} (h:¬ c=39):nD (c :: l)=false:=by
 match l with
 | []=>rfl
 | [_]=>rfl
 | [_,_]=>simp[nD,h]
 | [_,_,_]=>simp[nD,h]
 | _ :: _ :: _ :: _ :: _=>rfl
theorem Pg (s:ByteArray):aA Tryz.prog 187 [gs s] (gb (nD (fQ s))):=by
 refine aA.val (qA s) fun H=>?_
 refine aw.of mixed BR ?_
 have e:=fun d (hd:d∈fQ s)=>FV (s:=s) (c:=d) hd
 have g:aA Tryz.prog 224 [.aE (gX s)] (.bp [gi (nC (fQ s)).1,gi (nC (fQ s)).2]):=by
  rw[OW]
  refine aA.of ?_ ((MV (fQ s) e _).mono fun r H' h j _=>by rw[h]; exact .tree _ (.bp _ fun i hi=>by
   match i,hi with
   | 0,_=>exact .val _
   | 1,_=>exact .val _))
  intro v a; simp at a; subst a
  exact eN _ _ fun x _ v a=>by simp at a; subst a; exact .val _
 cases b:fQ s with
 | nil =>
  repeat' (first | (refine ah.dec (fun _=>?_) (fun _=>?_)) | (refine ah.eq (fun _=>?_) (fun _=>?_)) | (refine ah.ne (fun _=>?_) (fun _=>?_)) | (refine ah.split (fun _=>?_) (fun _=>?_)) | (simp (disch:=omega)only[↓wr,seval,wq,rY,eV,zU,b]))
  rfl
 | cons c l =>
  have hl:=Sy (fQ s)
  rw[b] at g hl
  repeat' (first | (refine ah.dec (fun _=>?_) (fun _=>?_)) | (refine ah.eq (fun _=>?_) (fun _=>?_)) | (refine ah.ne (fun _=>?_) (fun _=>?_)) | (refine ah.split (fun _=>?_) (fun _=>?_)) | (simp (disch:=omega)only[↓wr,seval,wq,rY,eV,zU,b,XG]))
  ·rename_i h
   rw[MD h]
  ·rename_i h
   refine ay.pure g ?_
   have hl:=hl (by simpa using h)
   repeat' (first | (refine ah.dec (fun _=>?_) (fun _=>?_)) | (refine ah.eq (fun _=>?_) (fun _=>?_)) | (refine ah.ne (fun _=>?_) (fun _=>?_)) | (refine ah.split (fun _=>?_) (fun _=>?_)) | (simp (disch:=omega)only[↓wr,seval,wq,eV,b]))
   ·rename_i f
    rw[← hl]; simp[f]
   ·rename_i f
    rw[← hl]; simp[f]
theorem Qz (s:ByteArray):aA Tryz.prog 141 [gs s] (gb (rp (fQ s))):=by
 refine aA.val (qA s) fun H=>?_
 refine aw.of mixed EC ?_
 repeat' (first | (refine ah.dec (fun _=>?_) (fun _=>?_)) | (refine ah.eq (fun _=>?_) (fun _=>?_)) | (refine ah.ne (fun _=>?_) (fun _=>?_)) | (refine ah.split (fun _=>?_) (fun _=>?_)) | (refine ay.pure (G4 s) ?_) | (refine ay.pure (Pg s) ?_) | (simp (disch:=omega)only[↓wr,seval,wq,AY]))
 all_goals simp[rp, *]
theorem Nd (s:ByteArray):aA Tryz.prog 101 [gs s] (gb (!gS (fQ s))):=by
 refine aA.val (qA s) fun H=>?_
 refine aw.of mixed BG ?_
 repeat' (first | (refine ah.dec (fun _=>?_) (fun _=>?_)) | (refine ah.eq (fun _=>?_) (fun _=>?_)) | (refine ah.ne (fun _=>?_) (fun _=>?_)) | (refine ah.split (fun _=>?_) (fun _=>?_)) | (refine ay.pure (G4 s) ?_) | (simp (disch:=omega)only[↓wr,seval,wq,yo]))
def wx:SC :=
 ae [ab [aV 12 .lss 11 10],bY 12 (.exit 0),.block 1 (ae [.region false [⟨none,[aQ 13 3 9 11,bg 14 3 13,((some 6),.op (.alloc [(.val (.string ⟨#[]⟩)),(.val (.int .i64 0)),(.val (.int .i64 0))])),bU 3 6 14]⟩],ae [ab [ao 15 1 6,aj 16 15,aH 17 .eql 16 0],bf 17 (.exit 1)],ae [ab [aa 18 3,ao 19 1 6,aj 20 19,((some 21),.op (.old (.lookup 204 (.tmp 18) (.tmp 20) false) 3)),aa 7 21],.region false [⟨none,[aa 22 7,aH 23 .neq 22 0,aa 24 23]⟩,⟨(some (24,true)),[aa 25 7,ao 26 2 6,aj 27 26,aV 28 .neq 25 27]⟩,⟨none,[eJ 29 24 28]⟩],bf 29 (ae [ab [bu 2 false],.ret])],ab [aa 30 3,ao 31 1 6,aj 32 31,ao 33 2 6,aj 34 33,(none,.op (.old (.mapUpdate 204 (.tmp 30) (.tmp 32) (.tmp 34)) 0))],ab [aa 35 4,ao 36 1 6,aj 37 36,((some 38),.op (.mm true (.tmp 35) (.tmp 37))),aa 4 38]]),ab [aH 39 .add 11 1,aa 11 39]]
def zk:SF:=⟨ae [ab [bu 2 false],ab [((some 8),.op (.pD)),aa 3 8],ab [aS 4 0],ae [ab [aa 9 0,aN 10 9,aS 11 0],b6 0 wx],ab [aa 40 3,((some 41),.op (.old (.call { callee:=.builtin .len,args:=#[(.tmp 40)],argTypes:=#[204] }) 3)),aa 42 4,aV 43 .eql 41 42,aa 2 43],.ret],
 [.tmp 2],44⟩
theorem CG:aR Tryz.prog 142 []=some zk:=by kernel_rfl
def x7:SC :=
 ae [ab [aV 8 .lss 7 6],bY 8 (.exit 0),.block 1 (ae [.region false [⟨none,[aQ 9 3 5 7,bg 10 3 9,((some 4),.op (.alloc [(.val (.string ⟨#[]⟩)),(.val (.int .i64 0)),(.val (.int .i64 0))])),bU 3 4 10]⟩],.region false [⟨none,[ao 11 0 4,aj 12 11,bz 13 141 [12],de 14 13,aa 15 14]⟩,⟨(some (15,false)),[ao 16 1 4,aj 17 16,r7 18 98 [(.tmp 17),(.val (.val (.int .i64 0))),(.val (.val (.int .i64 24)))],de 19 18]⟩,⟨none,[cz 20 15 19,aa 21 20]⟩,⟨(some (21,false)),[ao 22 2 4,aj 23 22,r7 24 98 [(.tmp 23),(.val (.val (.int .i64 0))),(.val (.val (.int .i64 3)))],de 25 24]⟩,⟨none,[cz 26 21 25,aa 27 26]⟩,⟨(some (27,false)),[ao 28 1 4,aj 29 28,aH 30 .eql 29 0,ao 31 2 4,aj 32 31,aH 33 .eql 32 0,((some 34),.op (.beq false (.tmp 30) (.tmp 33)))]⟩,⟨none,[cz 35 27 34]⟩],bf 35 (ae [ab [bu 2 false],.ret])]),ab [aH 36 .add 7 1,aa 7 36]]
def Bf:SF:=⟨ae [ab [bu 2 false],ae [ab [aa 5 0,aN 6 5,aS 7 0],b6 0 x7],.region false [⟨none,[aa 37 0,aN 38 37,aH 39 .leq 38 24,aa 40 39]⟩,⟨(some (40,true)),[aa 41 0,bz 42 142 [41]]⟩,⟨none,[eJ 43 40 42,aa 2 43]⟩],.ret],
 [.tmp 2],44⟩
theorem D8:aR Tryz.prog 97 []=some Bf:=by kernel_rfl
def yb:SC :=
 ae [ab [aV 16 .lss 15 14],bY 16 (.exit 0),.block 1 (ae [.region false [⟨none,[aQ 17 3 13 15,bg 18 3 17,((some 5),.op (.alloc [(.val (.string ⟨#[]⟩)),(.val (.int .i64 0)),(.val (.int .i64 0))])),bU 3 5 18]⟩],.region false [⟨none,[aa 19 3,ao 20 0 5,aj 21 20,((some 22),.op (.bV 1 1 [(.val (.string ⟨#[]⟩))] [(0,(.tmp 21))])),gY 23 1 16 19 22,aa 3 23]⟩]]),ab [aH 24 .add 15 1,aa 15 24]]
def yq:SC :=
 ae [ab [aV 65 .lss 64 63],bY 65 (.exit 2),.block 3 (ae [ab [aQ 66 3 62 64,bg 67 3 66,((some 8),.op (.alloc [(.val (.int .i64 0)),(.emp 1),(.val (.int .i64 0))])),bU 3 8 67],ae [.region false [⟨none,[ao 68 0 8,aj 69 68,aa 70 6,r7 71 98 [(.tmp 69),(.val (.val (.int .i64 0))),(.tmp 70)],de 72 71,aa 73 72]⟩,⟨(some (73,false)),[bg 74 4 1,bg 75 3 8,bz 76 103 [74,75],de 77 76]⟩,⟨none,[cz 78 73 77]⟩],bf 78 (ae [ab [bu 2 false],.ret])],ab [aa 79 6,ao 80 0 8,aj 81 80,aH 82 .add 81 1,((some 83),.op (.mm true (.tmp 79) (.tmp 82))),aa 6 83]]),ab [aH 84 .add 64 1,aa 64 84]]
def AS:SF:=⟨ae [ab [cI 1 0,bu 2 false],ab [ao 9 1 1,aj 10 9,bz 11 96 [10],aa 3 11],ae [ab [ao 12 0 1,aj 13 12,aN 14 13,aS 15 0],b6 0 yb],ae [.region false [⟨none,[ao 25 0 1,aj 26 25,bz 27 97 [26],de 28 27,aa 29 28]⟩,⟨(some (29,false)),[ao 30 1 1,aj 31 30,aN 32 31,r7 33 98 [(.tmp 32),(.val (.val (.int .i64 1))),(.val (.val (.int .i64 16)))],de 34 33]⟩,⟨none,[cz 35 29 34,aa 36 35]⟩,⟨(some (36,false)),[ao 37 2 1,aj 38 37,aN 39 38,r7 40 98 [(.tmp 39),(.val (.val (.int .i64 1))),(.val (.val (.int .i64 40)))],de 41 40]⟩,⟨none,[cz 42 36 41,aa 43 42]⟩,⟨(some (43,false)),[aa 44 3,bz 45 99 [44],de 46 45]⟩,⟨none,[cz 47 43 46,aa 48 47]⟩,⟨(some (48,false)),[ao 49 3 1,aj 50 49,ao 51 1 1,aj 52 51,aN 53 52,aH 54 .sub 53 1,r7 55 98 [(.tmp 50),(.val (.val (.int .i64 0))),(.tmp 54)],de 56 55]⟩,⟨none,[cz 57 48 56]⟩],bf 57 (ae [ab [bu 2 false],.ret])],ae [ab [ao 58 1 1,aj 59 58,r7 60 100 [(.tmp 59),(.val (.fn 101 [] []))]],bf 60 (ae [ab [bu 2 false],.ret])],ab [aS 6 0],ae [ab [ao 61 2 1,aj 62 61,aN 63 62,aS 64 0],b6 2 yq],ab [aa 85 6,ao 86 1 1,aj 87 86,aN 88 87,aV 89 .eql 85 88,aa 2 89],.ret],
 [.tmp 2],90⟩
theorem EP:aR Tryz.prog 52 [1]=some AS:=by kernel_rfl
def eK (l:List Term):V:=.aE (l.map bW)
theorem DI (l:List Term):∀ v∈[eK l],Tree v:=by intro v a; simp at a; subst a; exact eN _ _ fun x _=>uC x
def nH:List Term→List (Int × Int)→Int→Option (List (Int × Int) × Int)
 | [],a,top=>some (a,top)
 | t :: r,a,top=>if t.level=0 then nH r a top else
  if (eA a t.level).getD 0≠0∧(eA a t.level).getD 0≠t.assoc then none else nH r (kL t.level t.assoc a) (if t.level > top then t.level else top)
def sO (l:List Term):Bool:=match nH l [] 0 with
 | some (a,top)=>(a.length:Int) == top
 | none=>false
theorem L8 (l:List Term) (hl:aL l):aA Tryz.prog 142 [eK l] (gb (sO l)):=by
 refine aA.val (DI l) fun H=>?_
 refine aw.of mixed CG ?_
 unfold aL at hl
 simp (disch:=omega)only[↓wr,seval,wq,zk,eK]
 intro q hq
 try simp (disch:=omega)only[↓wr,seval,wq]
 refine aU.up l.length (fun i T H=>(∃ a m c top,H q=.map (cx (Value.int .i64) m) c∧py gi a m∧T 4=gi top∧nH (l.drop i) a top=nH l [] 0)∧T 0=eK l∧T 3=.mp q∧T 9=eK l∧T 10=gi l.length∧T 11=gi i) ?_ ?_
 ·refine ⟨⟨[],[],0,0,?_,trivial,rfl,rfl⟩,rfl,rfl,rfl,rfl,rfl⟩
  simp[View.set,cx]
 rintro i k T H hk ⟨⟨a,m,c,top,hq,hm,o,hi⟩,j,f,n,d,g⟩
 simp (disch:=omega)only[↓wr,seval,wq,wx,j,f,o,n,d,g,eK]
 apply ah.dec<;>intro D
 ·have A:l[i]?=some (l[i]'(by omega)):=Xc (by omega)
  rw[fp (show i < l.length by omega)] at hi
  generalize l[i]'(by omega)=t at A hi
  simp only[nH] at hi
  simp (disch:=omega)only[↓wr,seval,wq,j,f,o,n,d,g,eK,bW,Xf,A]
  intro b B
  have h:b≠q:=by rintro rfl; rw[hq] at B; simp at B
  try simp (disch:=omega)only[↓wr,seval,wq]
  apply ah.eq<;>intro u
  ·rw[Xg u] at hi
   simp (disch:=omega)only[↓wr,seval,wq,j,f,o,n,d,g]
   refine aF hk (by omega) ⟨⟨a,m,c,top,?_,hm,o,hi⟩,j,f,n,d,rfl⟩
   simp[View.set,h.symm,hq]
  ·rw[Xd u] at hi
   simp (disch:=omega)only[↓wr,seval,wq,j,f,o,n,d,g]
   refine Ar (kt:=3) (et:=3) (z:=gi 0) (by kernel_rfl) (by kernel_rfl) (lq .i64 Tryz.underlying3) (id:=q) (c:=c) (m:=m) (k:=t.level) (by simp (disch:=omega)only[↓wr,seval,wq,f]) (by simp (disch:=omega)only[↓wr,seval,wq,f]) (by simp[View.set,h.symm,hq]) ?_
   have w:(getM m t.level).getD (gi 0)=gi ((eA a t.level).getD 0):=by
    rw[hm.get]; cases eA a t.level <;> rfl
   have p:∀ (x:View) (s:Nat) (r:Env),(¬ ((eA a t.level).getD 0≠0∧(eA a t.level).getD 0≠t.assoc)) →
     x q=.map (cx (Value.int .i64) (bF t.level (gi t.assoc) c m)) s→r 0=eK l→r 3=.mp q→r 4=gi (if t.level > top then t.level else top)→r 9=eK l→r 10=gi l.length→r 11=gi ((i:Int)+1) →
     ∃ C,C < k∧Ft l.length C (fun i T H=>(∃ a m c top,H q=.map (cx (Value.int .i64) m) c∧py gi a m∧T 4=gi top∧nH (l.drop i) a top=nH l [] 0)∧T 0=eK l∧T 3=.mp q∧T 9=eK l∧T 10=gi l.length∧T 11=gi i) r x:=by
    intro x s r E g1 g2 g3 g4 g5 g6 g7
    rw[Xd E] at hi
    exact aF hk (by omega) ⟨⟨_,_,s,_,g1,hm.put t.level t.assoc c,g4,hi⟩,g2,g3,g5,g6,by rw[g7]; rfl⟩
   repeat' (first | (refine ah.dec (fun _=>?_) (fun _=>?_)) | (refine ah.eq (fun _=>?_) (fun _=>?_)) | (refine ah.ne (fun _=>?_) (fun _=>?_)) | (refine ah.split (fun _=>?_) (fun _=>?_)) | (simp (disch:=omega)only[↓wr,seval,wq,j,f,o,n,d,g,w]))
   ·rename_i n1 y
    rw[Xg ⟨n1,y⟩] at hi
    simp only[sO,← hi]
   ·rename_i n1 y
    refine vQ (kt:=3) (et:=3) (by kernel_rfl) (lq .i64 Tryz.underlying3) (id:=q) (c:=c) (m:=m) (k:=t.level) (v:=gi t.assoc) (by simp (disch:=omega)only[↓wr,seval,wq,f]) (by simp (disch:=omega)only[↓wr,seval,wq,f]) (by simp (disch:=omega)only[↓wr,seval,wq,f]) (by simp[View.set,h.symm,hq]) ?_
    intro s
    simp (disch:=omega)only[↓wr,seval,wq,j,f,o,n,d,g,h]
    exact p _ s _ (fun e=>e.2 y) (by simp[View.set]) j f rfl n d rfl
   ·rename_i n1
    refine vQ (kt:=3) (et:=3) (by kernel_rfl) (lq .i64 Tryz.underlying3) (id:=q) (c:=c) (m:=m) (k:=t.level) (v:=gi t.assoc) (by simp (disch:=omega)only[↓wr,seval,wq,f]) (by simp (disch:=omega)only[↓wr,seval,wq,f]) (by simp (disch:=omega)only[↓wr,seval,wq,f]) (by simp[View.set,h.symm,hq]) ?_
    intro s
    simp (disch:=omega)only[↓wr,seval,wq,j,f,o,n,d,g,h]
    exact p _ s _ (fun e=>e.1 n1) (by simp[View.set]) j f rfl n d rfl
 ·rw[XK (by omega)] at hi
  simp only[nH] at hi
  simp (disch:=omega)only[↓wr,seval,wq,j,f,o,n,d,g]
  refine U0 (kt:=3) (et:=3) (by kernel_rfl) (id:=q) (c:=c) (m:=m) (by simp (disch:=omega)only[↓wr,seval,wq,f]) hq ?_
  simp (disch:=omega)only[↓wr,seval,wq,j,f,o,n,d,g,hm.len]
  simp only[sO,← hi]
def ma (t:Term):Bool:=rp (fQ t.name) && decide (0≤t.level) && decide (t.level≤24) && decide (0≤t.assoc) && decide (t.assoc≤3) && ((t.level == 0) == (t.assoc == 0))
def sW (l:List Term):Bool:=l.all ma && decide (l.length≤24) && sO l
theorem OA (l:List Term) (hl:aL l):aA Tryz.prog 97 [eK l] (gb (sW l)):=by
 refine aA.val (DI l) fun H=>?_
 refine aw.of mixed D8 ?_
 have j:=hl
 unfold aL at hl
 simp (disch:=omega)only[↓wr,seval,wq,Bf,eK]
 refine aU.up l.length (fun i T H=>(l.drop i).all ma=l.all ma∧T 0=eK l∧T 5=eK l∧T 6=gi l.length∧T 7=gi i) ?_ ?_
 ·exact ⟨rfl,rfl,rfl,rfl,rfl⟩
 rintro i k T H hk ⟨hi,c,d,f,g⟩
 simp (disch:=omega)only[↓wr,seval,wq,x7,c,d,f,g,eK]
 apply ah.dec<;>intro q
 ·have p:l[i]?=some (l[i]'(by omega)):=Xc (by omega)
  rw[fp (show i < l.length by omega)] at hi
  generalize l[i]'(by omega)=t at p hi
  rw[Yv] at hi
  have a:ma t=false→gb false=gb (sW l):=fun e=>by rw[e,YS] at hi; simp[sW,← hi]
  simp (disch:=omega)only[↓wr,seval,wq,c,d,f,g,eK,bW,Xf,p]
  intro b u
  repeat' (first | (refine ah.dec (fun _=>?_) (fun _=>?_)) | (refine ah.eq (fun _=>?_) (fun _=>?_)) | (refine ah.ne (fun _=>?_) (fun _=>?_)) | (refine ah.split (fun _=>?_) (fun _=>?_)) | (refine ay.pure (Qz t.name) ?_) | (refine ay.pure (sw _ _ _) ?_) | (simp (disch:=omega)only[↓wr,seval,wq,c,d,f,g,eK]))
  all_goals first
   | (refine a ?_; simp[ma, *]; done)
   | (refine a ?_; simp_all [ma]; done)
   | skip
  rename_i r m n s
  refine aF hk (by omega) ⟨?_,c,d,f,rfl⟩
  have:ma t=true:=by
   simp only[Xl,Xr] at m n
   have o:((t.level == 0) == (t.assoc == 0))=true:=by simpa [bne] using s
   simp[ma,r,m.1,m.2,n.1,n.2,o]
  rw[this,Ys] at hi
  exact hi
 ·rw[XK (by omega),List.all_nil] at hi
  simp (disch:=omega)only[↓wr,seval,wq,c,d,f,g,eK]
  repeat' (first | (refine ah.dec (fun _=>?_) (fun _=>?_)) | (refine ah.eq (fun _=>?_) (fun _=>?_)) | (refine ah.ne (fun _=>?_) (fun _=>?_)) | (refine ah.split (fun _=>?_) (fun _=>?_)) | (refine ay.pure (L8 l j) ?_) | (simp (disch:=omega)only[↓wr,seval,wq,c,d,f,g,eK]))
  ·rename_i h
   simp[sW,← hi,show l.length≤24 by omega]
  ·rename_i h
   simp[sW,← hi,show ¬ l.length≤24 by omega]
open Go Go.Proofs Go.Shelf Go.RowKit Go.Sort
attribute [local go_sem] Oper.semAt_some
def kH:Ren where
 f:=fun
  | 6=>143
  | 8=>188
  | 9=>189
  | 11=>225
  | 13=>167
  | 12=>226
  | 23=>207
  | 24=>208
  | 14=>235
  | 15=>236
  | 16=>237
  | 17=>238
  | 18=>239
  | 19=>240
  | 20=>241
  | 21=>242
  | 22=>243
  | 25=>245
  | 26=>228
  | 27=>229
  | 28=>246
  | 29=>247
  | 30=>248
  | 31=>249
  | n=>n
 t:=fun
  | 26=>9
  | 28=>197
  | 24=>23
  | 0=>0
  | 3=>3
  | 37=>212
  | 48=>67
  | 50=>249
  | 4=>4
  | 40=>242
  | 39=>241
  | 45=>30
  | 5=>5
  | 9=>9
  | 51=>269
  | 55=>273
  | 57=>282
  | 58=>283
  | 33=>159
  | n=>n
 g:=fun n=>n
theorem Um:Go.Proofs.SlLaysZ.n6 Tryz.prog kH where
 mixed:=by kernel_rfl
 f6:=⟨Tryz.f143.name,by kernel_rfl,by kernel_rfl⟩
 f8:=⟨Tryz.f188.name,by kernel_rfl,by kernel_rfl⟩
 f11:=⟨Tryz.f225.name,by kernel_rfl,by kernel_rfl⟩
 t0:=Tryz.underlying0
 a0:=Tryz.isAgg0
 z0:=Tryz.sizeOf0
 v0:=Tryz.zeroValue0
 t24:=Tryz.underlying23
 a24:=Tryz.isAgg23
 z24:=Tryz.sizeOf23
 v24:=Tryz.zeroValue23
 t26:=Tryz.underlying9
 a26:=Tryz.isAgg9
 z26:=Tryz.sizeOf9
 v26:=Tryz.zeroValue9
 t28:=Tryz.underlying197
 a28:=Tryz.isAgg197
 z28:=Tryz.sizeOf197
 v28:=Tryz.zeroValue197
 i26:=by kernel_rfl
def PJ:Ren where
 f:=fun
  | 6=>189
  | 8=>167
  | 9=>226
  | 19=>207
  | 20=>208
  | 21=>235
  | 22=>236
  | 23=>237
  | 24=>238
  | 25=>239
  | 26=>240
  | 27=>241
  | 28=>242
  | 29=>243
  | 36=>245
  | 31=>228
  | 32=>229
  | 37=>246
  | 38=>247
  | 39=>248
  | 41=>249
  | n=>n
 t:=fun
  | 27=>23
  | 29=>9
  | 3=>3
  | 32=>212
  | 26=>23
  | 0=>0
  | 44=>67
  | 46=>249
  | 4=>4
  | 36=>242
  | 35=>241
  | 41=>30
  | 5=>5
  | 9=>9
  | 53=>269
  | 57=>273
  | 63=>282
  | 64=>283
  | n=>n
 g:=fun n=>n
theorem To:Go.Proofs.SlLaysM.n6 Tryz.prog PJ where
 mixed:=by kernel_rfl
 f6:=⟨Tryz.f189.name,by kernel_rfl,by kernel_rfl⟩
 f8:=by kernel_rfl
 f9:=⟨Tryz.f226.name,by kernel_rfl,by kernel_rfl⟩
 f19:=by kernel_rfl
 f20:=by kernel_rfl
 f21:=⟨Tryz.f235.name,by kernel_rfl,by kernel_rfl⟩
 f22:=⟨Tryz.f236.name,by kernel_rfl,by kernel_rfl⟩
 f23:=⟨Tryz.f237.name,by kernel_rfl,by kernel_rfl⟩
 f24:=⟨Tryz.f238.name,by kernel_rfl,by kernel_rfl⟩
 f25:=⟨Tryz.f239.name,by kernel_rfl,by kernel_rfl⟩
 f26:=⟨Tryz.f240.name,by kernel_rfl,by kernel_rfl⟩
 f27:=⟨Tryz.f241.name,by kernel_rfl,by kernel_rfl⟩
 f28:=⟨Tryz.f242.name,by kernel_rfl,by kernel_rfl⟩
 f29:=⟨Tryz.f243.name,by kernel_rfl,by kernel_rfl⟩
 f31:=by kernel_rfl
 f32:=by kernel_rfl
 f36:=⟨Tryz.f245.name,by kernel_rfl,by kernel_rfl⟩
 f37:=⟨Tryz.f246.name,by kernel_rfl,by kernel_rfl⟩
 f38:=⟨Tryz.f247.name,by kernel_rfl,by kernel_rfl⟩
 f39:=⟨Tryz.f248.name,by kernel_rfl,by kernel_rfl⟩
 f41:=⟨Tryz.f249.name,by kernel_rfl,by kernel_rfl⟩
 t0:=Tryz.underlying0
 a0:=Tryz.isAgg0
 z0:=Tryz.sizeOf0
 v0:=Tryz.zeroValue0
 t3:=Tryz.underlying3
 a3:=Tryz.isAgg3
 z3:=Tryz.sizeOf3
 v3:=Tryz.zeroValue3
 t4:=Tryz.underlying4
 a4:=Tryz.isAgg4
 z4:=Tryz.sizeOf4
 v4:=Tryz.zeroValue4
 t5:=Tryz.underlying5
 a5:=Tryz.isAgg5
 z5:=Tryz.sizeOf5
 v5:=Tryz.zeroValue5
 t9:=Tryz.underlying9
 a9:=Tryz.isAgg9
 z9:=Tryz.sizeOf9
 v9:=Tryz.zeroValue9
 t26:=Tryz.underlying23
 a26:=Tryz.isAgg23
 z26:=Tryz.sizeOf23
 v26:=Tryz.zeroValue23
 t27:=Tryz.underlying23
 a27:=Tryz.isAgg23
 z27:=Tryz.sizeOf23
 v27:=Tryz.zeroValue23
 t29:=Tryz.underlying9
 a29:=Tryz.isAgg9
 z29:=Tryz.sizeOf9
 v29:=Tryz.zeroValue9
 t32:=Tryz.underlying212
 a32:=Tryz.isAgg212
 z32:=Tryz.sizeOf212
 v32:=Tryz.zeroValue212
 t35:=Tryz.underlying241
 a35:=Tryz.isAgg241
 z35:=Tryz.sizeOf241
 v35:=Tryz.zeroValue241
 t36:=Tryz.underlying242
 a36:=Tryz.isAgg242
 z36:=Tryz.sizeOf242
 v36:=Tryz.zeroValue242
 t41:=Tryz.underlying30
 a41:=Tryz.isAgg30
 z41:=Tryz.sizeOf30
 v41:=Tryz.zeroValue30
 t44:=Tryz.underlying67
 a44:=Tryz.isAgg67
 z44:=Tryz.sizeOf67
 v44:=Tryz.zeroValue67
 t46:=Tryz.underlying249
 a46:=Tryz.isAgg249
 z46:=Tryz.sizeOf249
 v46:=Tryz.zeroValue249
 t53:=Tryz.underlying269
 a53:=Tryz.isAgg269
 z53:=Tryz.sizeOf269
 v53:=Tryz.zeroValue269
 t57:=Tryz.underlying273
 a57:=Tryz.isAgg273
 z57:=Tryz.sizeOf273
 v57:=Tryz.zeroValue273
 t63:=Tryz.underlying282
 a63:=Tryz.isAgg282
 z63:=Tryz.sizeOf282
 v63:=Tryz.zeroValue282
 t64:=Tryz.underlying283
 a64:=Tryz.isAgg283
 z64:=Tryz.sizeOf283
 v64:=Tryz.zeroValue283
def QQ:Ren where
 f:=fun
  | 44=>145
  | n=>n
 t:=fun
  | 25=>23
  | 26=>9
  | 3=>3
  | 4=>4
  | 0=>0
  | n=>n
 g:=fun n=>n
theorem S3:Go.Proofs.SlLaysN.n44 Tryz.prog QQ where
 mixed:=by kernel_rfl
 f44:=⟨Tryz.f145.name,by kernel_rfl,by kernel_rfl⟩
 t0:=Tryz.underlying0
 a0:=Tryz.isAgg0
 z0:=Tryz.sizeOf0
 v0:=Tryz.zeroValue0
 t3:=Tryz.underlying3
 a3:=Tryz.isAgg3
 z3:=Tryz.sizeOf3
 v3:=Tryz.zeroValue3
 t4:=Tryz.underlying4
 a4:=Tryz.isAgg4
 z4:=Tryz.sizeOf4
 v4:=Tryz.zeroValue4
 t25:=Tryz.underlying23
 a25:=Tryz.isAgg23
 z25:=Tryz.sizeOf23
 v25:=Tryz.zeroValue23
 t26:=Tryz.underlying9
 a26:=Tryz.isAgg9
 z26:=Tryz.sizeOf9
 v26:=Tryz.zeroValue9
 i26:=by kernel_rfl
def CX (n:Nat) (P:Program) (g:Nat) (lb:Array Value) (S:List (List UInt8)→Prop) (N:Nat) (w:World):Prop :=
 ∀ (l:Nat) (J:List (List UInt8)→World→Prop) (W:World),(∀ pre W',J pre W'→Below w.heap.size w W') →
  (∀ pre x W1,J pre W1→pre.length < N→YieldAt Fence.wide (n - 1) P l #[encStr x] W1 fun e W'=>e=.returned (.bool true)∧J (pre ++ [x]) W'∧KeepsWalks W1 W') →
  J [] W→CallsIn Fence.wide n P g (#[.func (.yield l) #[] #[]] ++ lb) W fun e W'=>(∃ v,e=.returned v)∧∃ xs,S xs∧J xs W'
theorem OV {a:List (List UInt8)} {k:Nat} (h:k < a.length):a.take k ++ [a.getD k []]=a.take (k+1):=by
 rw[XH]; simp[Xb,h]
theorem Ml (n:Nat) (hn:1≤n) (Bs b off cap:Nat) (zs:List (List UInt8)) (hreach:zs.length * 16≤140737488351232) (w:World)
  (hBs:w.cell? ⟨Bs,0,none⟩=some (.slice (some ⟨b,off,none⟩) zs.length cap)) (hBl:Bs < w.heap.size) (hbl:b < w.heap.size)
  (hc:∀ j,j < zs.length→w.cell? ⟨b,off+j,none⟩=some (encStr (zs.getD j []))) :
  CX n Tryz.prog 190 #[.pointer (some ⟨Bs,0,none⟩)] (fun xs=>xs=zs) zs.length w:=by
 intro l J W hJ hY h0
 have hbw:=hJ _ _ h0
 have hBs':=(hbw.cell (p:=⟨Bs,0,none⟩) hBl).trans hBs
 have hf:Fence.wide.fn 190:=trivial
 refine callsIn_of_wp Tryz.func190 rfl hf ?_ rfl
 simp only[Tryz.ntmps190,YJ,Xt,XN,Nat.reduceAdd,Nat.reduceSub,YU,YV,Za,Y1,Yq,XQ]
 gi_wp2
 gi_loopw [7] (fun i wr=>∃ k:Nat,k≤zs.length∧i=.int .i64 k∧J (zs.take k) wr) (fun i _=>zs.length - (RowKit.intOf i).toNat)
 case atStart=>exact ⟨0,YM _,rfl,by simpa using h0⟩
 case round =>
  obtain ⟨k,hk,rfl,hJs⟩:=hrel
  have hnx:=hJ _ _ hJs
  have hcx:k < zs.length→wr.cell? ⟨b,off+k,none⟩=some (encStr (zs.getD k [])):=fun h=>(hnx.cell (p:=⟨b,off+k,none⟩) hbl).trans (hc k h)
  by_cases hlt:k < zs.length
  ·obtain ⟨x,hx1,hcx'⟩:∃ x,zs.take k ++ [x]=zs.take (k+1)∧wr.cell? ⟨b,off+k,none⟩=some (encStr x):=⟨_,OV hlt,hcx hlt⟩
   obtain ⟨fn,tmps,assign,body,hy,hR⟩:=hY _ x wr hJs (by simp; omega)
   clear hcx hJs
   gi_wp2
   refine hR.mono ?_
   rintro e W3 ⟨rfl,hJ3,hk3⟩
   gi_wp2
   go_roundw
   case rel=>exact ⟨k+1,by omega,by simp,by rw[← hx1]; exact hJ3⟩
   case measure=>simp[RowKit.intOf]; omega
  ·obtain rfl:k=zs.length:=by omega
   clear hcx
   gi_wp2
   go_end0
   exact ⟨⟨_,rfl⟩,_,rfl,by simpa using hJs⟩
theorem Hy (n:Nat) (hn:2≤n) (g:Nat) (lb:Array Value) (eg:∀ args w,(callFunc g args).run Tryz.prog w=.ok (.enter g args) w)
  (S:List (List UInt8)→Prop) (N:Nat) (hN:N≤maxLen) (hNb:N * 16≤140737488355328) (w:World) (hseq:CX (n - 1) Tryz.prog g lb S N w) :
  CallsIn Fence.wide n Tryz.prog 225 #[.slice none 0 0,.func (.func g) #[] lb] w fun e w'=>∃ (v:Value) (ss:List (List UInt8)),e=.returned v∧S ss∧w'.ownsRow w.heap.size 9 1 v ss.length (ss.map encStr)∧Below w.heap.size w w':=by
 have h11:Fence.wide.fn 225:=trivial
 refine callsIn_of_wp_marks Tryz.func225 rfl h11 ?_ rfl
 simp only[Tryz.ntmps225,YJ,Xt,XN,Nat.reduceAdd,Nat.reduceSub,YU,YV,Za,Y1,Yq,XQ]
 gi_wp2
 refine wpIn_rangeFunc ?_
 intro fn hfn
 let sv:Value:=.func (.func g) #[] lb
 have hz:(w.alloc (.cells #[.slice none 0 0] 23)).heap.size=w.heap.size+1:=by simp
 have hv0:=World.alloc_heap_new w (.cells #[.slice none 0 0] 23)
 have hb0:Below w.heap.size w (w.alloc (.cells #[.slice none 0 0] 23)):=(Below.refl _ w).alloc (Xo _) _
 revert hz hv0 hb0
 generalize w.alloc (.cells #[.slice none 0 0] 23)=W0
 intro hz hv0 hb0
 obtain ⟨W1,hW1⟩:∃ W1,(W0.alloc (.deferred (some []))).alloc (.loop (AnyZ.apRec kH fn sv w.heap.size W0.heap.size .ready none))=W1:=⟨_,rfl⟩
 have hold:∀ k,k < W0.heap.size→W1.heap[k]?=W0.heap[k]?:=fun k hk=>by
  rw[← hW1]; exact (Below.heap_alloc _ _ k (by simp; omega)).trans (Below.heap_alloc _ _ k hk)
 have hb1:Below w.heap.size w W1:=by rw[← hW1]; exact (hb0.alloc (by omega) _).alloc (by simp; omega) _
 have hM:AnyZ.ApAt kH w fn sv w.heap.size (W0.heap.size+1) W0.heap.size [] W1:=by
  refine ⟨⟨_,(hold w.heap.size (by omega)).trans hv0,⟨rfl,.inl ⟨rfl,rfl⟩⟩,by simp⟩,?_,?_,hb1⟩
  ·rw[← hW1]
   have h:=World.alloc_heap_new (W0.alloc (.deferred (some []))) (.loop (AnyZ.apRec kH fn sv w.heap.size W0.heap.size .ready none))
   rwa [World.size_alloc] at h
  ·rw[← hW1]; exact (Below.heap_alloc _ _ _ (by simp)).trans (World.alloc_heap_new W0 _)
 refine ⟨W0.heap.size+1,[{ target:=.collected W0.heap.size,args:=#[] }],W1,{ target:=.fn (.func g) lb,args:=#[.func (.yield (W0.heap.size+1)) #[] #[]] },W1,g,
  #[.func (.yield (W0.heap.size+1)) #[] #[]] ++ lb,W1,by rw[← hW1]; exact run_enterLoop_outer _ _ _ _ _,?_,?_,?_,fun _=>by omega,?_⟩
 ·simp[resolve,go_sem]
 ·intro f' hf'; trivial
 ·simp[invoke,go_sem,eg]
 ·refine (hseq (W0.heap.size+1) (AnyZ.ApAt kH w fn sv w.heap.size (W0.heap.size+1) W0.heap.size) W1 (fun _ _ h=>h.below)
   (fun pre x W hJ hl=>AnyZ.apYield { Um with } Fence.wide (n - 1 - 1) w fn hfn _ w.heap.size (W0.heap.size+1) W0.heap.size (by omega) (by omega) (by omega) (Xo _) (by omega) N hN hNb pre x W hJ hl) hM).mono ?_
  rintro e W2 ⟨⟨v0,rfl⟩,ss,hS,h2⟩
  obtain ⟨v,hv,hrow,_⟩:=h2.box
  have hend:=run_endLoop (P:=Tryz.prog) h2.L (by simp[AnyZ.apRec])
  have hne:∀ (cur:Array Value),Obj.cells #[v] 23 (0,0)≠.cells cur 9 (0,0):=fun cur e=>by cases e
  obtain ⟨W3,hW3⟩:∃ W3,W2.putObj (W0.heap.size+1) (.loop { AnyZ.apRec kH fn sv w.heap.size W0.heap.size .ready none with state:=.exhausted })=W3:=⟨_,rfl⟩
  have hg3:W2.grownBy W3 (some (W0.heap.size+1)):=by rw[← hW3]; exact grownBy_putObj_a _ _ _
  have hv3:W3.heap[w.heap.size]?=some (.cells #[v] 23 (0,0)):=by rw[← hW3]; exact (World.putObj_heap_other (by omega)).trans hv
  have hK3:W3.heap[W0.heap.size]?=some (.deferred (some [])):=by rw[← hW3]; exact (World.putObj_heap_other (by omega)).trans h2.K
  have hrow3:=hrow.kept hg3 (ownsRow_ne_a hrow h2.L (fun cur e=>by cases e))
  have hb3:Below w.heap.size w W3:=h2.below.grown hg3 h2.below.size (fun k e=>by cases e; omega)
  obtain ⟨hc3,hf3⟩:=cell_of_box_a hv3
  refine ⟨none,W3,by rw[← hW3]; exact hend,?_⟩
  clear hW3 hW1 hold hM hend hseq
  gi_wp2
  rw[← hz]
  refine ⟨by simp,.inl ⟨_,_,rfl,run_takeDeferred hK3,?_⟩⟩
  exact ⟨_,results_tmp rfl _ _ _,v,ss,rfl,hS,hrow3.kept (grownBy_putObj_a _ _ _) (ownsRow_ne_a hrow3 hK3 (fun cur e=>by cases e)),hb3.grown (grownBy_putObj_a _ _ _) hb3.size (fun k e=>by cases e; omega)⟩
theorem NT (n:Nat) (hn:4≤n) (g:Nat) (lb:Array Value) (eg:∀ args w,(callFunc g args).run Tryz.prog w=.ok (.enter g args) w)
  (S:List (List UInt8)→Prop) (N:Nat) (hN:N≤maxLen) (hNb:N * 16≤140737488355328) (w:World) (hseq:CX (n - 1 - 1 - 1) Tryz.prog g lb S N w) (hS:∀ xs,S xs→xs.length < 4611686018427387904) :
  CallsIn Fence.wide n Tryz.prog 143 #[.func (.func g) #[] lb] w fun e w'=>∃ (v:Value) (ss:List (List UInt8)),e=.returned v∧S ss ∧
   w'.ownsRow w.heap.size 9 1 v ss.length ((ss.mergeSort (fun x y=>decide (x≤y))).map encStr)∧Below w.heap.size w w':=by
 have h6:Fence.wide.fn 143:=trivial
 have h8:Fence.wide.fn 188:=trivial
 have h9:Fence.wide.fn 189:=trivial
 have h11:Fence.wide.fn 225:=trivial
 have h1:1≤n - 1:=by omega
 have h1':1≤n:=by omega
 have hcol:CallsIn Fence.wide (n - 1) Tryz.prog 188 #[.func (.func g) #[] lb] w fun e w'=>∃ (v:Value) (ss:List (List UInt8)),e=.returned v∧S ss∧w'.ownsRow w.heap.size 9 1 v ss.length (ss.map encStr)∧Below w.heap.size w w':=by
  have happ:=Hy (n - 1 - 1) (by omega) g lb eg S N hN hNb w hseq
  refine callsIn_of_wp Tryz.func188 rfl h8 ?_ rfl
  simp only[Tryz.ntmps188,YJ,Xt,XN,Nat.reduceAdd,Nat.reduceSub,YU,YV,Za,Y1,Yq,XQ]
  gi_wp2_with (gi_at_call 225; refine happ.mono ?_; rintro e w' ⟨v,ss,rfl,hS,hrow,hb⟩)
  go_ret
  exact ⟨v,ss,rfl,hS,hrow,hb⟩
 refine callsIn_of_wp Tryz.func143 rfl h6 ?_ rfl
 simp only[Tryz.ntmps143,YJ,Xt,XN,Nat.reduceAdd,Nat.reduceSub,YU,YV,Za,Y1,Yq,XQ]
 gi_wp2_with (gi_at_call 188; refine hcol.mono ?_; rintro e W ⟨v,ss,rfl,hSs,hrow,hb⟩)
 have hlen:=hS ss hSs
 rcases hrow.2 with ⟨rfl,hz⟩ | ⟨gb,cap,cur,rfl,hbase,hgb,r1,r2,r3,r4⟩
 ·have hss:ss=[]:=List.eq_nil_of_length_eq_zero hz
  subst hss
  have cN:CallsIn Fence.wide (n - 1) Tryz.prog 189 #[.slice none 0 0] W fun e w'=>e=.returned (.tuple #[])∧w'=W:=callsIn_wide.2 (AnyM.slices_Sort_string_none To none 0 W)
  gi_wp2_with (gi_at_call 189; refine cN.mono ?_; rintro e w' ⟨rfl,rfl⟩)
  go_ret
  exact ⟨.slice none 0 0,[],rfl,hSs,by simpa using hrow,hb⟩
 ·have hH:Holds encStr W gb 0 ss.toArray:=holds_of_block hgb (by simpa using r4)
  have hgl:gb < W.heap.size:=(Array.getElem?_eq_some_iff.1 hgb).1
  have cS:CallsIn Fence.wide (n - 1) Tryz.prog 189 #[.slice (some ⟨gb,0,none⟩) ss.length cap] W fun e w'=>e=.returned (.tuple #[])∧∃ k os,w'=grow (putRow encStr (Sort.ahead W k) gb 0 (ss.mergeSort fun x y=>decide (x≤y)).toArray) os :=
   callsIn_wide.2 (AnyM.slices_Sort_string To gb 0 cap ss W hH hgl hlen)
  gi_wp2_with (gi_at_call 189; refine cS.mono ?_; rintro e w' ⟨rfl,nn,os,rfl⟩)
  go_ret
  exact ⟨_,ss,rfl,hSs,ownsRow_sorted (by simp) hbase hgb r1 r2 r3,hb.grown (grownBy_sorted _) hb.size (fun j hj=>by cases hj; exact hbase)⟩
open Go Go.Proofs Go.Shelf Go.RowKit Go.Sort
theorem JO {l:List (List UInt8)} (hs:l.Pairwise (fun a b=>decide (a≤b)=true)) (h:∀ j,j+1 < l.length→l.getD (j+1) []≠l.getD j []):l.Nodup:=by
 induction l with
 | nil=>exact List.nodup_nil
 | cons x r f =>
  rw[Yy] at hs
  refine X6.2 ⟨fun d=>?_,f hs.2 fun j g=>by simpa using h (j+1) (by simpa using g)⟩
  cases r with
  | nil=>simp at d
  | cons y r =>
   have c:=h 0 (by simp)
   simp only[Y0,Yk,Yi] at c
   rcases Xs.1 d with e | hm
   ·exact c e.symm
   ·have h1:x≤y:=by simpa using hs.1 y (by simp)
    have i:y≤x:=by simpa using (Yy.1 hs.2).1 x hm
    exact c (List.le_antisymm i h1)
theorem NU (l:List (List UInt8)):(Lib.compact l).length=l.length↔∀ j,j+1 < l.length→l.getD (j+1) []≠l.getD j []:=by
 have hl:(Lib.compact l).length=((List.range l.length).filter (Lib.keeps l.toArray)).length:=by simp[Lib.compact,Lib.compactUpTo]
 rw[hl]
 have hr:(List.range l.length).length=l.length:=by simp
 conv=>lhs; rhs; rw[← hr]
 rw[List.length_filter_eq_length_iff]
 have b:∀ j,j < l.length→l.toArray[j]! = l.getD j []:=fun j a=>by simp[Xb,a]
 constructor
 ·intro h j a
  have:=h (j+1) (by simpa using a)
  simp only[Lib.keeps,Xr,Nat.add_sub_cancel] at this
  rcases this with e | e
  ·omega
  ·rw[b _ a,b _ (by omega)] at e; exact e
 ·intro h j a
  simp only[XU] at a
  simp only[Lib.keeps,Xr]
  by_cases e:j=0
  ·exact .inl e
  ·right
   obtain ⟨k,rfl⟩:∃ k,j=k+1:=⟨j - 1,by omega⟩
   rw[b _ a,Nat.add_sub_cancel,b _ (by omega)]
   exact h k a
theorem EH (d:List (List UInt8)):(Lib.compact (d.mergeSort fun x y=>decide (x≤y))).length=d.length↔d.Nodup:=by
 have hp:=List.mergeSort_perm d (fun x y=>decide (x≤y))
 have hs:=List.pairwise_mergeSort (le:=fun x y:List UInt8=>decide (x≤y)) (fun a b c h k=>by simp at h k ⊢; exact List.le_trans h k) (fun a b=>by simpa using List.le_total a b) d
 rw[← hp.nodup_iff,← hp.length_eq,NU]
 constructor
 ·exact JO hs
 ·intro g j f e
  have h1:(d.mergeSort fun x y=>decide (x≤y))[j+1]'f=(d.mergeSort fun x y=>decide (x≤y))[j]'(by omega):=by
   simp only[Xb,Xc f,Xc (show j < (d.mergeSort fun x y=>decide (x≤y)).length by omega),Xu] at e
   exact e
  have:=(List.getElem_inj g).1 h1
  omega
theorem QT (w:World):grow w #[]=w:=by simp[grow]
theorem JR (n:Nat) (hn:1≤n) (Bs cap:Nat) (a:Option Addr) (w:World) (hBs:w.cell? ⟨Bs,0,none⟩=some (.slice a 0 cap)) (hBl:Bs < w.heap.size) :
  CX n Tryz.prog 190 #[.pointer (some ⟨Bs,0,none⟩)] (fun xs=>xs=[]) 0 w:=by
 intro l J W hJ hY h0
 have hbw:=hJ _ _ h0
 have hBs':=(hbw.cell (p:=⟨Bs,0,none⟩) hBl).trans hBs
 have hf:Fence.wide.fn 190:=trivial
 refine callsIn_of_wp Tryz.func190 rfl hf ?_ rfl
 simp only[Tryz.ntmps190,YJ,Xt,XN,Nat.reduceAdd,Nat.reduceSub,YU,YV,Za,Y1,Yq,XQ]
 gi_wp2
 gi_loopw [7] (fun i wr=>i=.int .i64 0∧J [] wr) (fun _ _=>0)
 case atStart=>exact ⟨rfl,h0⟩
 case round =>
  obtain ⟨rfl,hJs⟩:=hrel
  gi_wp2
  go_end0
  exact ⟨⟨_,rfl⟩,_,rfl,hJs⟩
theorem Nz (n:Nat) (a:Option Addr) (len cap:Nat) (w:World) :
  CallsIn Fence.wide n Tryz.prog 144 #[.slice a len cap] w fun e w'=>e=.returned (.func (.func 190) #[] #[.pointer (some ⟨w.heap.size,0,none⟩)])∧w'=w.alloc (.cells #[.slice a len cap] 23):=by
 have hf:Fence.wide.fn 144:=trivial
 refine callsIn_of_wp Tryz.func144 rfl hf ?_ rfl
 simp only[Tryz.ntmps144,YJ,Xt,XN,Nat.reduceAdd,Nat.reduceSub,YU,YV,Za,Y1,Yq,XQ]
 gi_wp2
 go_ret
 exact ⟨rfl,rfl⟩
theorem AZ (a:Option Addr) (cap:Nat) (zs:List (List UInt8)) (hz:zs.length≤1000) (w:World)
  (hseq:∀ n Bs,1≤n→w.heap.size=Bs→CX n Tryz.prog 190 #[.pointer (some ⟨Bs,0,none⟩)] (fun xs=>xs=zs) zs.length (w.alloc (.cells #[.slice a zs.length cap] 23))) :
  Calls Tryz.prog 99 #[.slice a zs.length cap] w fun e w'=>e=.returned (.bool (decide zs.Nodup))∧Below w.heap.size w w':=by
 refine (callsIn_wide (n:=7)).1 ?_
 have hf:Fence.wide.fn 99:=trivial
 have hfv:Fence.wide.fn 144:=trivial
 have hfs:Fence.wide.fn 143:=trivial
 have hfc:Fence.wide.fn 145:=trivial
 have eg:=enters_of Tryz.func190 (by kernel_rfl) rfl
 have cV:=Nz 6 a zs.length cap w
 have cS:=NT 6 (by omega) 190 #[.pointer (some ⟨w.heap.size,0,none⟩)] eg _ zs.length (by unfold maxLen; omega) (by omega) (w.alloc (.cells #[.slice a zs.length cap] 23)) (hseq _ _ (by omega) rfl) (fun xs e=>by subst e; omega)
 refine callsIn_of_wp Tryz.func99 rfl hf ?_ rfl
 simp only[Tryz.ntmps99,YJ,Xt,XN,Nat.reduceAdd,Nat.reduceSub,YU,YV,Za,Y1,Yq,XQ]
 clear hseq
 gi_wp2_with (first
  | (gi_at_call 144; refine cV.mono ?_; rintro e w' ⟨rfl,rfl⟩)
  | (gi_at_call 143; refine cS.mono ?_; rintro e W ⟨v,ss,rfl,rfl,hrow,hb⟩)
  | fail)
 have hsz:(ss.mergeSort fun x y=>decide (x≤y)).length=ss.length:=by simp
 have hBw:Below w.heap.size w W:=((Below.refl _ w).alloc (Xo _) _).trans (hb.mono (by simp))
 rcases hrow.2 with ⟨rfl,h0⟩ | ⟨gb,cap',cur,rfl,hbase,hgb,r1,r2,r3,r4⟩
 ·have hss:ss=[]:=List.eq_nil_of_length_eq_zero h0
  subst hss
  have cC:CallsIn Fence.wide 6 Tryz.prog 145 #[.slice none 0 0] W fun e w'=>e=.returned (.slice none 0 0)∧w'=W:=callsIn_wide.2 (AnyG.slices_Compact_string_empty S3 none 0 W)
  clear cS cV hrow
  gi_wp2_with (gi_at_call 145; refine cC.mono ?_; rintro e w' ⟨rfl,rfl⟩)
  go_ret
  exact ⟨rfl,hBw⟩
 ·have hH:Holds encStr W gb 0 (ss.mergeSort fun x y=>decide (x≤y)).toArray:=holds_of_block hgb (by simpa using r4)
  have hgl:gb < W.heap.size:=(Array.getElem?_eq_some_iff.1 hgb).1
  have cC:CallsIn Fence.wide 6 Tryz.prog 145 #[.slice (some ⟨gb,0,none⟩) ss.length cap'] W fun e w'=>∃ m:Nat,e=.returned (.slice (some ⟨gb,0,none⟩) m cap')∧((m=ss.length)↔ss.Nodup)∧Below w.heap.size w w':=by
   have:=AnyG.slices_Compact_string S3 gb 0 cap' (ss.mergeSort fun x y=>decide (x≤y)) W hH (by rw[hsz]; omega) (by rw[hsz]; omega)
   rw[hsz] at this
   refine callsIn_wide.2 (this.mono ?_)
   rintro e w' ⟨rfl,q,rfl⟩
   refine ⟨_,rfl,EH ss,?_⟩
   have hg:=grownBy_sorted (w:=W) (g:=gb) (n:=q) (os:=#[]) (Lib.compact (ss.mergeSort fun x y=>decide (x≤y)) ++ List.replicate (ss.length - (Lib.compact (ss.mergeSort fun x y=>decide (x≤y))).length) []).toArray
   rw[QT] at hg
   exact hBw.grown hg hBw.size (fun j e=>by cases e; have h:=hbase; rw[World.size_alloc] at h; omega)
  clear cS cV hrow hH
  gi_wp2_with (gi_at_call 145; refine cC.mono ?_; rintro e w' ⟨m,rfl,hm,hb'⟩)
  go_ret
  refine ⟨?_,hb'⟩
  show Ending.returned (.bool ((m:Int) == (ss.length:Int)))=_
  have:((m:Int) == (ss.length:Int))=decide ss.Nodup:=by
   rw[Yl]
   simp only[Yo,Xr,← hm]
   omega
  rw[this]
theorem Hz (s:ByteArray):encStr s.data.toList=.string s:=by
 cases s; simp[encStr]
def names (l:List ByteArray):List (List UInt8):=l.map fun s=>s.data.toList
theorem KM {Z:Nat→Prop} {μ:Mu} {hp:Array Obj} {es:List (List V)} {x:Value} (h:az Z μ hp (.aE es) x) :
  (es=[]∧∃ a cap,x=.slice a 0 cap∧(a=none→cap=0))∨(∃ b off esz cap,∃ c:Nat→Nat→Value,x=.slice (some ⟨b,off,none⟩) es.length cap∧Z b∧es.length≤cap ∧
   (∀ i,i < es.length→(es.getD i []).length=esz)∧(∀ i j,i < es.length→j < esz→cellAt hp b (off+i * esz+j)=some (c i j)) ∧
   (∀ i j,i < es.length→j < esz→az Z μ hp ((es.getD i []).getD j .any) (c i j))):=by
 cases h with
 | iX a cap d=>exact .inl ⟨rfl,a,cap,rfl,d⟩
 | aE _ b off esz cap c h1 e f g k=>exact .inr ⟨b,off,esz,cap,c,rfl,h1,e,f,g,k⟩
theorem QV (l:List ByteArray) (hl:l.length≤1000):aA Tryz.prog 99 [encS l] (gb (decide (names l).Nodup)):=by
 intro Z μ w xs g r
 obtain ⟨hlen,G⟩:=g
 obtain ⟨x,rfl⟩:∃ x,xs=[x]:=by
  match xs,hlen with
  | [x],_=>exact ⟨x,rfl⟩
 have H:az Z μ w.heap (encS l) x:=G 0 (by simp)
 have k:(names l).length=l.length:=by simp[names]
 have fin:∀ e w',(e=Ending.returned (.bool (decide (names l).Nodup))∧RowKit.Below w.heap.size w w')→∃ x t,e=.returned x∧(∀ E,az t E w'.heap (gb (decide (names l).Nodup)) x)∧eM w w'∧(∀ b,Z b→t b)∧(∀ b,t b→Z b∨(w.heap.size≤b∧b < w'.heap.size))∧gF w.heap w'.heap (fun _=>False):=by
  rintro e w' ⟨rfl,m⟩
  exact ⟨_,Z,rfl,fun E=>.val _ rfl,⟨m.os,m.tape,m.output,m.size⟩,fun _ h=>h,fun _ h=>.inl h,fun b u _=>m.block b u⟩
 have box:∀ (v:Value),(w.alloc (.cells #[v] 23)).cell? ⟨w.heap.size,0,none⟩=some v:=fun v=>by
  have:=World.alloc_heap_new w (.cells #[v] 23)
  simp only[World.cell?,this]; rfl
 rcases KM H with ⟨he,a,cap,rfl,_⟩ | ⟨b,off,esz,cap,c,rfl,I,hle,z,J,K⟩
 ·have A:l=[]:=by simpa using he
  subst A
  refine (AZ a cap (names []) (by simp[names]) w (fun n L B C=>?_)).mono fin
  subst C
  exact JR n B w.heap.size cap a _ (box _) (by simp)
 ·have o:∀ i,(hi:i < l.length)→(l.map fun s=>[gs s]).getD i []=[gs l[i]]:=fun i hi=>by simp[Xb,hi]
  have d:∀ i,(hi:i < l.length)→cellAt w.heap b (off+i)=some (.string l[i]):=fun i hi=>by
   have h1:=z i (by simpa using hi)
   rw[o i hi] at h1
   simp only[Xt,XN] at h1
   subst h1
   have F:=J i 0 (by simpa using hi) (by omega)
   have q:=K i 0 (by simpa using hi) (by omega)
   rw[o i hi] at q
   simp only[Yk] at q
   generalize c i 0=y at F q
   cases q
   simpa using F
  have f:(l.map fun s=>[gs s]).length=(names l).length:=by simp[names]
  rw[f]
  refine (AZ (some ⟨b,off,none⟩) cap (names l) (by rw[k]; exact hl) w (fun n L B C=>?_)).mono fin
  subst C
  have D:=r b I
  refine Ml n B w.heap.size b off cap (names l) (by rw[k]; omega) _ (box _) (by simp) (by simp; omega) (fun j O=>?_)
  have p:j < l.length:=by omega
  have M:(w.alloc (.cells #[.slice (some ⟨b,off,none⟩) (names l).length cap] 23)).cell? ⟨b,off+j,none⟩=w.cell? ⟨b,off+j,none⟩:=by
   have:=Below.heap_alloc w (.cells #[.slice (some ⟨b,off,none⟩) (names l).length cap] 23) b D
   simp only[World.cell?,this]
  rw[M,ox,d j p]
  have N:(names l).getD j []=l[j].data.toList:=by simp[names,Xb,p]
  rw[N,Hz]
theorem bS.iX {P:Program} {f:FuncId} {h:aC} (h1:bS P f [.emp 1] h (.emp 1) h) (m:bS P f [.emp 2] h (.emp 2) h) (n:bS P f [.dS] h (.emp 2) h):bS P f [.aE []] h (.emp 0) h:=by
 refine ⟨Xo _,fun Z μ F w xs l hr g=>?_⟩
 obtain ⟨hl,q⟩:=l
 obtain ⟨x,rfl⟩:∃ x,xs=[x]:=by
  match xs,hl with
  | [x],_=>exact ⟨x,rfl⟩
 have r:az Z μ w.heap (.aE []) x:=q 0 (by simp)
 have one:∀ v,az Z μ w.heap v x→gA Z μ w.heap [v] [x]:=fun v h=>⟨rfl,fun i hi=>by
  simp at hi; subst hi; exact h⟩
 have d:∀ k,bS P f [if k=3 then .dS else .emp k] h (if k=3 then .emp 2 else .emp k) h→az Z μ w.heap (if k=3 then .dS else .emp k) x→Calls P f [x].toArray w fun e w'=>∃ x j μ',e=.returned x∧az j μ' w'.heap (.emp 0) x∧iH j μ' w'.heap (cat h F)∧Ext Z μ w h.length j μ' w'∧(∀ id,id < h.length∨h.length≤id→μ' id=μ id):=by
  intro k hk s
  refine (hk.2 Z μ F w [x] (one _ s) hr g).mono ?_
  rintro e w' ⟨y,j,μ',rfl,o,rest⟩
  refine ⟨y,j,μ',rfl,?_,rest⟩
  have:∀ p,az j μ' w'.heap (.emp p) y→az j μ' w'.heap (.emp 0) y:=fun p h=>by
   cases h with | emp _ a _ _=>exact .emp 0 a (by simp) (by simp)
  split at o <;> exact this _ o
 rcases KM r with ⟨_,a,cap,rfl,t⟩ | ⟨b,off,esz,cap,c,rfl,_,_,_⟩
 ·cases a with
  | none =>
   have:=t rfl
   subst this
   exact d 1 (by simpa using h1) (.emp 1 none (by simp) (by simp))
  | some a =>
   cases cap with
   | zero=>exact d 2 (by simpa using m) (.emp 2 (some a) (by simp) (by simp))
   | succ c=>exact d 3 (by simpa using n) (.dS a (c+1))
 ·cases cap with
  | zero=>exact d 2 (by simpa using m) (.emp 2 (some ⟨b,off,none⟩) (by simp) (by simp))
  | succ c=>exact d 3 (by simpa using n) (.dS ⟨b,off,none⟩ (c+1))
def yK (sz:Nat) (es:List (List V)) (H:View) (K:V→View→Prop):Prop :=
 (es=[]→∀ k,K (.emp k) H)∧(es≠[]→∀ n,H n=.dead→K (.sl n 0 es.length sz) (H.set n (.arr sz es)))
def dy:SF:=⟨ae [ab [df 2 1],ae [ab [aa 3 0,((some 4),.op (.nil true 0 (.tmp 3) (.val (.emp 1))))],bf 4 (ae [ab [df 2 1],.ret])],ab [df 5 2,aa 6 0,gY 7 1 16 5 6,aa 2 7],.ret],
 [.tmp 2],8⟩
theorem dP:aR Tryz.prog 96 []=some dy:=by kernel_rfl
def eD:SF:=⟨ae [ab [df 2 1],ae [ab [aa 3 0,((some 4),.op (.nil true 0 (.tmp 3) (.val (.emp 1))))],bf 4 (ae [ab [df 2 1],.ret])],ab [df 5 2,aa 6 0,gY 7 1 8 5 6,aa 2 7],.ret],
 [.tmp 2],8⟩
theorem eW:aR Tryz.prog 161 []=some eD:=by kernel_rfl
def cT:SF:=⟨ae [ab [df 2 1],ae [ab [aa 3 0,((some 4),.op (.nil true 0 (.tmp 3) (.val (.emp 1))))],bf 4 (ae [ab [df 2 1],.ret])],ab [df 5 2,aa 6 0,gY 7 3 32 5 6,aa 2 7],.ret],
 [.tmp 2],8⟩
theorem dh:aR Tryz.prog 159 []=some cT:=by kernel_rfl
theorem aA.tree {P:Program} {f:FuncId} {vs:List V} {t:V} (a:∀ v∈vs,Tree v) (b:Tree t) (h:∀ H,aw P f vs H fun r _=>r=t):aA P f vs t :=
 aA.of a ((h _).mono fun r H' e c _=>by rw[e]; exact .tree _ b)
theorem qW {H:View} : bI H .dS=some ([],[]):=id rfl
theorem jA {H:View} (sz bytes k:Nat) (K:V→View→Prop) (w:cD (H,K)):oD sz bytes (.emp k) [] H K w=K (.emp k) H:=propext Iff.rfl
theorem OH (l:List ByteArray) (hl:l.length≤100000) (H:View) (K:V→View→Prop) (hk:yK 1 (l.map fun s=>[gs s]) H K):aw Tryz.prog 96 [encS l] H K:=by
 cases l with
 | nil =>
  have hp:∀ v t,Tree v→Tree t→(∀ H,aw Tryz.prog 96 [v] H fun r _=>r=t)→aA Tryz.prog 96 [v] t:=fun v t b c h=>aA.tree (by intro x a; simp at a; subst a; exact b) c h
  have h1:=hp (.emp 1) (.emp 1) (.emp 1) (.emp 1) (fun H=>by
   refine aw.of mixed dP ?_
   simp (disch:=omega)only[↓wr,seval,wq,dy])
  have d:=hp (.emp 2) (.emp 2) (.emp 2) (.emp 2) (fun H=>by
   refine aw.of mixed dP ?_
   simp (disch:=omega)only[↓wr,seval,wq,dy,jA,Y6])
  have e:=hp .dS (.emp 2) .dS (.emp 2) (fun H=>by
   refine aw.of mixed dP ?_
   simp (disch:=omega)only[↓wr,seval,wq,dy,qW,jA,Y6])
  refine ⟨by kernel_rfl,?_⟩
  rintro h rfl
  exact ⟨.emp 0,h,bS.iX (bS.gJ h1 h) (bS.gJ d h) (bS.gJ e h),.refl _,hk.1 rfl 0⟩
 | cons x r =>
  refine aw.of mixed dP ?_
  simp only[Xt] at hl
  simp (disch:=omega)only[↓wr,seval,wq,dy,encS]
  refine ⟨?_,?_,?_⟩
  ·simp[List.all_map,encS,aO]
  ·unfold aB; simp; omega
  ·intro n f
   have:=hk.2 (by simp) n f
   simp (disch:=omega)only[↓wr,seval,wq]
   simpa [bW] using this
theorem Ql (l:List Int) (hl:l.length≤100000) (H:View) (K:V→View→Prop) (hk:yK 1 (l.map fun s=>[gi s]) H K):aw Tryz.prog 161 [encI l] H K:=by
 cases l with
 | nil =>
  have hp:∀ v t,Tree v→Tree t→(∀ H,aw Tryz.prog 161 [v] H fun r _=>r=t)→aA Tryz.prog 161 [v] t:=fun v t b c h=>aA.tree (by intro x a; simp at a; subst a; exact b) c h
  have h1:=hp (.emp 1) (.emp 1) (.emp 1) (.emp 1) (fun H=>by
   refine aw.of mixed eW ?_
   simp (disch:=omega)only[↓wr,seval,wq,eD])
  have d:=hp (.emp 2) (.emp 2) (.emp 2) (.emp 2) (fun H=>by
   refine aw.of mixed eW ?_
   simp (disch:=omega)only[↓wr,seval,wq,eD,jA,Y6])
  have e:=hp .dS (.emp 2) .dS (.emp 2) (fun H=>by
   refine aw.of mixed eW ?_
   simp (disch:=omega)only[↓wr,seval,wq,eD,qW,jA,Y6])
  refine ⟨by kernel_rfl,?_⟩
  rintro h rfl
  exact ⟨.emp 0,h,bS.iX (bS.gJ h1 h) (bS.gJ d h) (bS.gJ e h),.refl _,hk.1 rfl 0⟩
 | cons x r =>
  refine aw.of mixed eW ?_
  simp only[Xt] at hl
  simp (disch:=omega)only[↓wr,seval,wq,eD,encI]
  refine ⟨?_,?_,?_⟩
  ·simp[List.all_map,encI,aO]
  ·unfold aB; simp; omega
  ·intro n f
   have:=hk.2 (by simp) n f
   simp (disch:=omega)only[↓wr,seval,wq]
   simpa [bW] using this
theorem P2 (l:List Term) (hl:l.length≤100000) (H:View) (K:V→View→Prop) (hk:yK 3 (l.map bW) H K):aw Tryz.prog 159 [eK l] H K:=by
 cases l with
 | nil =>
  have hp:∀ v t,Tree v→Tree t→(∀ H,aw Tryz.prog 159 [v] H fun r _=>r=t)→aA Tryz.prog 159 [v] t:=fun v t b c h=>aA.tree (by intro x a; simp at a; subst a; exact b) c h
  have h1:=hp (.emp 1) (.emp 1) (.emp 1) (.emp 1) (fun H=>by
   refine aw.of mixed dh ?_
   simp (disch:=omega)only[↓wr,seval,wq,cT])
  have d:=hp (.emp 2) (.emp 2) (.emp 2) (.emp 2) (fun H=>by
   refine aw.of mixed dh ?_
   simp (disch:=omega)only[↓wr,seval,wq,cT,jA,Y6])
  have e:=hp .dS (.emp 2) .dS (.emp 2) (fun H=>by
   refine aw.of mixed dh ?_
   simp (disch:=omega)only[↓wr,seval,wq,cT,qW,jA,Y6])
  refine ⟨by kernel_rfl,?_⟩
  rintro h rfl
  exact ⟨.emp 0,h,bS.iX (bS.gJ h1 h) (bS.gJ d h) (bS.gJ e h),.refl _,hk.1 rfl 0⟩
 | cons x r =>
  refine aw.of mixed dh ?_
  simp only[Xt] at hl
  simp (disch:=omega)only[↓wr,seval,wq,cT,eK,bW]
  refine ⟨?_,?_,?_⟩
  ·simp[List.all_map,eK,bW,aO]
  ·unfold aB; simp; omega
  ·intro n f
   have:=hk.2 (by simp) n f
   simp (disch:=omega)only[↓wr,seval,wq]
   simpa [bW] using this
theorem yK.own {sz:Nat} {es:List (List V)} {H:View} : yK sz es H fun r H'=>aX H' r sz es∧dr H H' r :=
 ⟨fun he k=>⟨by rw[he]; exact .nil,.emp⟩,fun _ n a=>⟨.new,.new a⟩⟩
theorem Pm (l:List ByteArray) (hl:l.length≤100000) (H:View):aw Tryz.prog 96 [encS l] H fun r H'=>aX H' r 1 (l.map fun s=>[gs s])∧dr H H' r:=OH l hl H _ .own
theorem PL (l:List Int) (hl:l.length≤100000) (H:View):aw Tryz.prog 161 [encI l] H fun r H'=>aX H' r 1 (l.map fun s=>[gi s])∧dr H H' r:=Ql l hl H _ .own
theorem PB (l:List Term) (hl:l.length≤100000) (H:View):aw Tryz.prog 159 [eK l] H fun r H'=>aX H' r 3 (l.map bW)∧dr H H' r:=P2 l hl H _ .own
def mU (g:ag):List aW→Int→Bool
 | [],next=>next == g.ak.length
 | r :: l,next=>decide (0≤r.left) && decide (r.left≤next) && jc g r && mU g l (if r.left+1 > next then r.left+1 else next)
def tB (g:ag):List ByteArray:=g.ak ++ g.af.map Term.name
def rq (g:ag):Bool :=
 sW g.af && (decide ((1:Int)≤g.ak.length) && decide ((g.ak.length:Int)≤16)) && (decide ((1:Int)≤g.rules.length) && decide ((g.rules.length:Int)≤40)) && decide (names (tB g)).Nodup && (decide (0≤g.start) && decide (g.start≤(g.ak.length:Int) - 1)) &&
  !(g.ak.any fun s=>!gS (fQ s)) && mU g g.rules 0
theorem HX {l:List ByteArray} : ∀ e∈(l.map fun s=>[gs s]),∀ v∈e,Tree v:=by
 intro e he v b
 obtain ⟨a,_,rfl⟩:=Xw.1 he
 rw[X8] at b
 subst b
 exact .val _
theorem PV (g:ag) (p:g.Ok) (hs:g.ak.length+g.af.length≤1000) (H:View):aw Tryz.prog 52 [.agg (ai g)] H fun r _=>r=gb (rq g):=by
 refine aw.of mixed EP ?_
 have K:=p.ak
 have L:=p.af
 have hr:=p.rules
 unfold aL at K L hr
 simp (disch:=omega)only[↓wr,seval,wq,AS,ai,encS]
 refine ay.dZ ((Pm g.ak (by omega) H).mono ?_)
 rintro u H1 ⟨hu,Z⟩
 simp (disch:=omega)only[↓wr,seval,wq,ai,encS]
 refine aU.up g.af.length (fun i T H=>T 1=.aJ (ai g) 0∧(∃ u,T 3=u∧aX H u 1 ((g.ak ++ (g.af.take i).map Term.name).map fun s=>[gs s]))∧T 13=eK g.af∧T 14=gi g.af.length∧T 15=gi i) ?_ ?_
 ·exact ⟨rfl,⟨u,rfl,by simpa using hu⟩,rfl,rfl,rfl⟩
 rintro i k T H' hk ⟨h1,⟨u,q,hu⟩,a,c,d⟩
 simp (disch:=omega)only[↓wr,seval,wq,yb,h1,a,c,d,eK]
 apply ah.dec<;>intro B
 ·have f:g.af[i]?=some (g.af[i]'(by omega)):=Xc (by omega)
  have v:(g.af.take (i+1)).map Term.name=(g.af.take i).map Term.name ++ [(g.af[i]'(by omega)).name]:=by
   rw[XH,f,XD]; rfl
  generalize g.af[i]'(by omega)=t at f v
  simp (disch:=omega)only[↓wr,seval,wq,h1,q,a,c,d,eK,bW,Xf,f]
  intro b C
  try simp (disch:=omega)only[↓wr,seval,wq,h1,q,a,c,d,set_set]
  intro m hm
  have D:=(cO hm cJ).1
  have hm:=(cO (cO hm cJ).2 cJ).2
  try simp (disch:=omega)only[↓wr,seval,wq,h1,q,a,c,d,bT]
  have hl:((g.ak ++ (g.af.take i).map Term.name).map fun s=>[gs s]).length≤1000:=by simp; omega
  refine yF (((hu.fresh C).other (hu.ne C)).fresh (by simp[View.set,hm,D])) (by simp) (by simp[aO]) (by unfold aB; simp at hl ⊢; omega) (by unfold aB; simp at hl ⊢; omega) ?_
  intro M H2 E _
  simp (disch:=omega)only[↓wr,seval,wq,h1,q,a,c,d]
  refine aF hk (by omega) ⟨h1,⟨M,rfl,?_⟩,a,c,rfl⟩
  rw[v]
  simpa using E
 ·rw[Xv (by omega)] at hu
  have N:H'=H':=rfl
  have y:(tB g).length≤1000:=by simp[tB]; omega
  repeat' (first | (refine ah.dec (fun _=>?_) (fun _=>?_)) | (refine ah.eq (fun _=>?_) (fun _=>?_)) | (refine ah.ne (fun _=>?_) (fun _=>?_)) | (refine ah.split (fun _=>?_) (fun _=>?_)) | (refine ay.pure (OA g.af p.af) ?_) | (refine ay.pure (sw _ _ _) ?_) | (refine ay.Bx (QV (tB g) y) (by kernel_rfl) (.val _) ⟨eO.own hu HX,trivial⟩ ?_) | (simp (disch:=omega)only[↓wr,seval,wq,h1,q,a,c,d,ai,encS]))
  all_goals try (simp[rq, *]; done)
  rename_i O P J Q R
  refine ay.pure (Br g.ak p.ak 101 [] (by simp) (fun s=>!gS (fQ s)) (fun x _=>Nd x) (by kernel_rfl)) ?_
  repeat' (first | (refine ah.dec (fun _=>?_) (fun _=>?_)) | (refine ah.eq (fun _=>?_) (fun _=>?_)) | (refine ah.ne (fun _=>?_) (fun _=>?_)) | (refine ah.split (fun _=>?_) (fun _=>?_)) | (simp (disch:=omega)only[↓wr,seval,wq,h1,q,a,c,d,ai,encS]))
  all_goals try (simp[rq, *]; done)
  rename_i S
  have hle:g.rules.length≤40:=by simp at J; omega
  have h:∀ b,mU g g.rules 0=b→gb b=gb (rq g):=fun b e=>by
   simp only[rq,O,P,J,Q,R,S,e,decide_true,Ys,Bool.not_false]
  refine aU.up g.rules.length (fun i T _=>∃ w:Int,0≤w∧w≤i∧mU g (g.rules.drop i) w=mU g g.rules 0∧T 1=.aJ (ai g) 0∧T 6=gi w∧T 62=.aE (g.rules.map aP)∧T 63=gi g.rules.length∧T 64=gi i) ?_ ?_
  ·exact ⟨0,by omega,by omega,rfl,h1,rfl,rfl,rfl,rfl⟩
  rintro i k T H' hk ⟨w,U,V,hi,h1,A,j,l,n⟩
  simp (disch:=omega)only[↓wr,seval,wq,yq,h1,A,j,l,n,ai]
  apply ah.dec<;>intro B
  ·have f:g.rules[i]?=some (g.rules[i]'(by omega)):=Xc (by omega)
   rw[fp (show i < g.rules.length by omega)] at hi
   have o:g.rules[i]'(by omega)∈g.rules:=Xm _
   generalize g.rules[i]'(by omega)=t at f hi o
   obtain ⟨⟨W,X⟩,hp,F,G⟩:=p.ax t o
   simp only[mU] at hi
   simp (disch:=omega)only[↓wr,seval,wq,h1,A,j,l,n,aP,encI,Xf,f]
   intro b C
   repeat' (first | (refine ah.dec (fun _=>?_) (fun _=>?_)) | (refine ah.eq (fun _=>?_) (fun _=>?_)) | (refine ah.ne (fun _=>?_) (fun _=>?_)) | (refine ah.split (fun _=>?_) (fun _=>?_)) | (refine ay.pure (sw _ _ _) ?_) | (refine ay.pure (Rm g t p ⟨F,G⟩) ?_) | (simp (disch:=omega)only[↓wr,seval,wq,h1,A,j,l,n,ai,aP,encI,encS,set_set]))
   ·rename_i z I
    have Y:0≤t.left∧t.left≤w:=by simpa using z
    rw[z,I,Ys,Ys] at hi
    have hw:IntKind.wrap .i64 (t.left+1)=t.left+1:=wrap64 (by omega) (by omega)
    refine aF hk (by omega) ⟨_,by split <;> omega,by split <;> (push_cast; omega),hi,h1,?_,j,l,rfl⟩
    show gi (if IntKind.wrap .i64 (t.left+1) > w then IntKind.wrap .i64 (t.left+1) else w)=_
    rw[hw]
   ·rename_i z I
    rw[I,Bool.and_false,YS] at hi
    exact h _ hi.symm
   ·rename_i z
    rw[z,YS,YS] at hi
    exact h _ hi.symm
  ·rw[XK (by omega)] at hi
   simp only[mU] at hi
   simp (disch:=omega)only[↓wr,seval,wq,h1,A,j,l,n,ai,encS]
   exact h _ hi.symm
theorem Np (g:ag) (a:g.Ok) (hs:g.ak.length+g.af.length≤1000):aA Tryz.prog 52 [.agg (ai g)] (gb (rq g)):=aA.val (fu g) (PV g a hs)
theorem I4 (g:ag):∀ (l:List aW) (next:Int),mU g l next=iA g l (next - 1)
 | [],next=>by
  simp only[mU,iA]
  rw[Yl]; simp
 | r :: l,next=>by
  simp only[mU,iA,I4 g l]
  have a:(if r.left+1 > next then r.left+1 else next) - 1=if r.left > next - 1 then r.left else next - 1:=by
   split <;> split <;> omega
  have b:next - 1+1=next:=by omega
  rw[a,b]
theorem yZ (s:ByteArray):∀ (l:List ByteArray) (i:Int),0≤i→(oY s l i < 0∧s ∉ l)∨∃ k:Nat,oY s l i=i+k∧l[k]?=some s∧∀ j < k,l[j]?≠some s
 | [],i,h=>.inl ⟨by simp[oY],by simp⟩
 | x :: l,i,h=>by
  have b:jo x s=true↔x=s:=by
   unfold jo
   rw[Yo]
   constructor
   ·intro e; cases x; cases s; simp at e; simp[e]
   ·rintro rfl; rfl
  simp only[oY]
  by_cases e:x=s
  ·rw[Xg (b.2 e)]
   exact .inr ⟨0,by simp,by simp[e],by simp⟩
  ·rw[Xd (fun h=>e (b.1 h))]
   rcases yZ s l (i+1) (by omega) with ⟨h1,a⟩ | ⟨k,h1,a,c⟩
   ·exact .inl ⟨h1,by simp[a,Ne.symm e]⟩
   ·refine .inr ⟨k+1,by rw[h1]; push_cast; omega,by simpa using a,fun j d=>?_⟩
    cases j with
    | zero=>simp[e]
    | succ j=>simpa using c j (by omega)
theorem tZ (l:List ByteArray):(∀ (k:Nat) (s:ByteArray),l[k]?=some s→oY s l 0=k)↔l.Nodup:=by
 constructor
 ·intro h
  rw[Y5,List.pairwise_iff_getElem]
  intro i j hi b d e
  have h1:=h i l[i] (by simp[hi])
  have a:=h j l[j] (by simp[b])
  rw[e] at h1
  omega
 ·intro f k s hk
  rcases yZ s l 0 (by omega) with ⟨_,a⟩ | ⟨j,h1,a,g⟩
  ·exact absurd (Xi hk) a
  ·have b:j < l.length:=by
    rcases XB j l.length with h | h
    ·exact h
    ·simp[XL h] at a
   have c:k < l.length:=by
    rcases XB k l.length with h | h
    ·exact h
    ·simp[XL h] at hk
   have:j=k:=(List.getElem_inj f).1 (by
    rw[Xc b] at a; rw[Xc c] at hk
    simp at a hk; rw[a,hk])
   rw[h1,this]; simp
theorem bytes_inj {a b:ByteArray} : a.data.toList=b.data.toList↔a=b:=by
 constructor
 ·intro h; cases a; cases b; simp at h; simp[h]
 ·rintro rfl; rfl
theorem OI {l:List ByteArray} : (names l).Nodup↔l.Nodup:=by
 unfold names
 rw[Y5,Zb,Y5]
 constructor
 ·exact fun h=>h.imp fun h e=>h (bytes_inj.2 e)
 ·exact fun h=>h.imp fun h e=>h (bytes_inj.1 e)
theorem ot {α:Type} [BEq α] [LawfulBEq α]:∀ (l m:List α),l.Nodup→(∀ x∈l,x∈m)→l.length≤m.length
 | [],m,_,_=>by simp
 | x :: l,m,a,hs=>by
  rw[X6] at a
  have c:x∈m:=hs x (by simp)
  have:=ot l (m.erase x) a.2 (fun y d=>by
   have b:y≠x:=by rintro rfl; exact a.1 d
   exact (List.mem_erase_of_ne b).2 (hs y (by simp[d])))
  rw[List.length_erase_of_mem c] at this
  have:0 < m.length:=List.length_pos_of_mem c
  simp only[Xt]
  omega
def mR (n:Nat):List Int:=(List.range n).map fun (k:Nat)=>(k:Int)+1
theorem xL {n:Nat} {x:Int} : x∈mR n↔1≤x∧x≤n:=by
 simp only[mR,Xw,XU]
 constructor
 ·rintro ⟨k,hk,rfl⟩; omega
 ·rintro ⟨h1,a⟩; exact ⟨(x - 1).toNat,by omega,by omega⟩
theorem Hg (n:Nat):(mR n).Nodup:=by
 rw[mR,Y5,Zb]
 exact (List.nodup_range (n:=n)).imp fun h e=>h (by omega)
theorem TQ {l:List Int} {n:Nat} (b:l.Nodup) (hs:∀ x∈l,1≤x∧x≤n) (hl:l.length=n) {x:Int} (h1:1≤x) (c:x≤n):x∈l:=by
 refine YI fun d=>?_
 have:=ot (x :: l) (mR n) (X6.2 ⟨d,b⟩) (fun y a=>by
  rw[xL]
  rcases Xs.1 a with rfl | a
  ·exact ⟨h1,c⟩
  ·exact hs y a)
 simp[mR] at this
 omega
theorem xo (n:Int):∀ (l:List Term) (w:Int),w≠0→jO n l w=if (∀ t∈l,t.level=n→t.assoc=w) then some w else none
 | [],w,_=>by simp[jO]
 | t :: r,w,hw=>by
  simp only[jO]
  by_cases a:t.level=n
  ·rw[Xg a]
   by_cases b:w=t.assoc
   ·rw[Xd (by simp[b]),← b,xo n r w hw]
    congr 1
    simp[a,b]
   ·rw[Xg ⟨hw,b⟩,Xd (fun h=>b (h t (by simp) a).symm)]
  ·rw[Xd a,xo n r w hw]
   congr 1
   simp[a]
theorem DE (n:Int):∀ (l:List Term),(∀ t∈l,t.level=n→t.assoc≠0)→(iz l n=true↔∃ a,(∃ t∈l,t.level=n)∧∀ t∈l,t.level=n→t.assoc=a)
 | [],_=>by simp[iz,jO]
 | t :: r,h=>by
  by_cases b:t.level=n
  ·have f:=h t (by simp) b
   have e:iz (t :: r) n=match (if (∀ u∈r,u.level=n→u.assoc=t.assoc) then some t.assoc else none) with | some w=>w != 0 | none=>false:=by
    simp only[iz,jO]
    rw[Xg b,Xd (by simp),xo n r _ f]
    rfl
   rw[e]
   by_cases hr:∀ u∈r,u.level=n→u.assoc=t.assoc
   ·rw[Xg hr]
    simp only[Zk,ne_eq,f,not_false_eq_true,true_iff]
    refine ⟨t.assoc,⟨t,by simp,b⟩,fun u hu hl=>?_⟩
    rcases Xs.1 hu with rfl | hu
    ·rfl
    ·exact hr u hu hl
   ·rw[Xd hr]
    simp only[Xz,false_iff]
    rintro ⟨a,_,c⟩
    exact hr fun u hu hl=>(c u (by simp[hu]) hl).trans (c t (by simp) b).symm
  ·have g:=DE n r (fun u hu=>h u (by simp[hu]))
   have e:iz (t :: r) n=iz r n:=by
    simp only[iz,jO,Xd b]
   rw[e,g]
   constructor
   ·rintro ⟨a,⟨u,hu,hl⟩,c⟩
    refine ⟨a,⟨u,by simp[hu],hl⟩,fun v d hl=>?_⟩
    rcases Xs.1 d with rfl | d
    ·exact absurd hl b
    ·exact c v d hl
   ·rintro ⟨a,⟨u,hu,hl⟩,c⟩
    rcases Xs.1 hu with rfl | hu
    ·exact absurd hl b
    ·exact ⟨a,⟨u,hu,hl⟩,fun v d=>c v (by simp[d])⟩
def wb (l:List Term):Prop:=∀ t∈l,∀ u∈l,t.level=u.level→t.level≠0→t.assoc=u.assoc
theorem Ih {κ β:Type} [BEq κ] [LawfulBEq κ] {k:κ} {v:β} : ∀ {a:List (κ × β)},(a.map (·.1)).Nodup→((kL k v a).map (·.1)).Nodup∧∀ x,x∈(kL k v a).map (·.1)↔x=k∨x∈a.map (·.1)
 | [],_=>by simp[kL]
 | y :: a,h=>by
  simp only[XF,X6] at h
  obtain ⟨h1,b⟩:=Ih (k:=k) (v:=v) h.2
  simp only[kL]
  by_cases e:k=y.1
  ·simp only[e,YQ,if_true,XF,X6]
   refine ⟨h,fun x=>by simp[e]⟩
  ·have:(k == y.1)=false:=by simp[e]
   rw[this]
   simp only[Xz,if_false,XF,X6,Xs]
   refine ⟨⟨fun hm=>?_,h1⟩,fun x=>?_⟩
   ·rcases (b _).1 hm with e' | hm
    ·exact e e'.symm
    ·exact h.1 hm
   ·rw[b]
    constructor
    ·rintro (h | h | h) <;> simp[h]
    ·rintro (h | h | h) <;> simp[h]
theorem yN:∀ (l:List Term) (a:List (Int × Int)) (top:Int),(∀ t∈l,t.level≠0→t.assoc≠0)→(∀ n v,eA a n=some v→v≠0)→(a.map (·.1)).Nodup →
  match nH l a top with
  | some (y,b)=>wb l∧(∀ t∈l,∀ v,t.level≠0→eA a t.level=some v→t.assoc=v)∧(y.map (·.1)).Nodup∧(∀ n,n∈y.map (·.1)↔n∈a.map (·.1)∨(n≠0∧∃ t∈l,t.level=n)) ∧
    top≤b∧(∀ t∈l,t.level≠0→t.level≤b)∧(b=top∨∃ t∈l,t.level=b∧t.level≠0)
  | none=>¬ (wb l∧∀ t∈l,∀ v,t.level≠0→eA a t.level=some v→t.assoc=v)
 | [],a,top,_,_,z=>by
  simp only[nH]
  exact ⟨fun t c=>by simp at c,fun t c=>by simp at c,z,fun n=>by simp,by omega,fun t c=>by simp at c,by simp⟩
 | t :: r,a,top,D,A,z=>by
  have p:∀ u∈r,u.level≠0→u.assoc≠0:=fun u hu=>D u (by simp[hu])
  simp only[nH]
  by_cases c:t.level=0
  ·rw[Xg c]
   have g:=yN r a top p A z
   have one:wb (t :: r)↔wb r:=by
    constructor
    ·exact fun h u hu w hw=>h u (by simp[hu]) w (by simp[hw])
    ·intro h u hu w hw e d
     rcases Xs.1 hu with rfl | hu
     ·exact absurd c d
     ·rcases Xs.1 hw with rfl | hw
      ·exact absurd (e.trans c) d
      ·exact h u hu w hw e d
   have q:(∀ u∈t :: r,∀ v,u.level≠0→eA a u.level=some v→u.assoc=v)↔∀ u∈r,∀ v,u.level≠0→eA a u.level=some v→u.assoc=v:=by
    simp[c]
   have mem:∀ n,(n≠0∧∃ u∈t :: r,u.level=n)↔(n≠0∧∃ u∈r,u.level=n):=fun n=>by
    constructor
    ·rintro ⟨h1,u,hu,rfl⟩
     rcases Xs.1 hu with rfl | hu
     ·exact absurd c h1
     ·exact ⟨h1,u,hu,rfl⟩
    ·rintro ⟨h1,u,hu,rfl⟩; exact ⟨h1,u,by simp[hu],rfl⟩
   cases hs:nH r a top with
   | none=>rw[hs] at g; rw[one,q]; exact g
   | some x =>
    obtain ⟨y,b⟩:=x
    rw[hs] at g
    obtain ⟨i1,i2,i3,i4,i5,i6,i7⟩:=g
    refine ⟨one.2 i1,q.2 i2,i3,fun n=>by rw[i4,mem],i5,?_,?_⟩
    ·intro u hu d
     rcases Xs.1 hu with rfl | hu
     ·exact absurd c d
     ·exact i6 u hu d
    ·rcases i7 with h | ⟨u,hu,h⟩
     ·exact .inl h
     ·exact .inr ⟨u,by simp[hu],h⟩
  ·rw[Xd c]
   have G:=D t (by simp) c
   by_cases j:(eA a t.level).getD 0≠0∧(eA a t.level).getD 0≠t.assoc
   ·rw[Xg j]
    simp only
    rintro ⟨_,o⟩
    cases hp:eA a t.level with
    | none=>simp[hp] at j
    | some v =>
     have:=o t (by simp) v c hp
     simp[hp] at j
     exact j.2 this.symm
   ·rw[Xd j]
    have i:∀ v,eA a t.level=some v→t.assoc=v:=fun v hp=>by
     have:=A _ _ hp
     simp[hp] at j
     exact (j this).symm
    have f:∀ n,eA (kL t.level t.assoc a) n=if n=t.level then some t.assoc else eA a n:=fun n=>by
     rw[HG]; simp
    have hk:=Ih (k:=t.level) (v:=t.assoc) z
    have g:=yN r (kL t.level t.assoc a) (if t.level > top then t.level else top) p (fun n v hp=>by
     rw[f] at hp
     split at hp
     ·simp at hp; rw[← hp]; exact G
     ·exact A n v hp) hk.1
    have both:(wb (t :: r)∧∀ u∈t :: r,∀ v,u.level≠0→eA a u.level=some v→u.assoc=v)↔(wb r∧∀ u∈r,∀ v,u.level≠0→eA (kL t.level t.assoc a) u.level=some v→u.assoc=v):=by
     constructor
     ·rintro ⟨h1,o⟩
      refine ⟨fun u hu w hw=>h1 u (by simp[hu]) w (by simp[hw]),fun u hu v d hp=>?_⟩
      rw[f] at hp
      split at hp
      ·rename_i e
       simp at hp; rw[← hp]
       exact h1 u (by simp[hu]) t (by simp) e d
      ·exact o u (by simp[hu]) v d hp
     ·rintro ⟨h1,o⟩
      have B:∀ u∈r,u.level=t.level→u.assoc=t.assoc:=fun u hu e=>o u hu t.assoc (by rw[e]; exact c) (by rw[f,Xg e])
      refine ⟨fun u hu w hw e d=>?_,fun u hu v d hp=>?_⟩
      ·rcases Xs.1 hu with E | s
       ·rcases Xs.1 hw with C | m
        ·rw[E,C]
        ·rw[E] at e ⊢
         exact (B w m e.symm).symm
       ·rcases Xs.1 hw with C | m
        ·rw[C] at e ⊢
         exact B u s e
        ·exact h1 u s w m e d
      ·rcases Xs.1 hu with rfl | hu
       ·exact i v hp
       ·by_cases e:u.level=t.level
        ·rw[B u hu e]; exact i v (by rw[← e]; exact hp)
        ·exact o u hu v d (by rw[f,Xd e]; exact hp)
    have F:top≤(if t.level > top then t.level else top)∧t.level≤(if t.level > top then t.level else top):=by split <;> omega
    cases hs:nH r (kL t.level t.assoc a) (if t.level > top then t.level else top) with
    | none=>rw[hs] at g; simp only; rw[both]; exact g
    | some x =>
     obtain ⟨y,b⟩:=x
     rw[hs] at g
     obtain ⟨i1,i2,i3,i4,i5,i6,i7⟩:=g
     obtain ⟨H,I⟩:=both.2 ⟨i1,i2⟩
     refine ⟨H,I,i3,fun n=>?_,by omega,?_,?_⟩
     ·rw[i4,hk.2]
      constructor
      ·rintro ((rfl | h) | ⟨h1,u,hu,h⟩)
       ·exact .inr ⟨c,t,by simp,rfl⟩
       ·exact .inl h
       ·exact .inr ⟨h1,u,by simp[hu],h⟩
      ·rintro (h | ⟨h1,u,hu,h⟩)
       ·exact .inl (.inr h)
       ·rcases Xs.1 hu with rfl | hu
        ·exact .inl (.inl h.symm)
        ·exact .inr ⟨h1,u,hu,h⟩
     ·intro u hu d
      rcases Xs.1 hu with rfl | hu
      ·omega
      ·exact i6 u hu d
     ·rcases i7 with h | ⟨u,hu,h⟩
      ·by_cases e:t.level > top
       ·rw[Xg e] at h; exact .inr ⟨t,by simp,h.symm,c⟩
       ·rw[Xd e] at h; exact .inl h
      ·exact .inr ⟨u,by simp[hu],h⟩
theorem Cv (l:List Term) (h:∀ t∈l,ma t=true):sO l=true↔∀ t∈l,∀ n:Int,1≤n→n≤t.level→iz l n=true:=by
 have g:∀ t∈l,0≤t.level∧(t.level≠0→t.assoc≠0):=fun t b=>by
  have:=h t b
  simp only[ma,Xl,Xr,Yo] at this
  refine ⟨this.1.1.1.1.2,fun h1 i=>?_⟩
  have e:=this.2
  simp[h1,i] at e
 have hs:=yN l [] 0 (fun t b=>(g t b).2) (by simp[eA]) (by simp)
 have m:∀ n:Int,1≤n→(iz l n=true↔∃ a,(∃ t∈l,t.level=n)∧∀ t∈l,t.level=n→t.assoc=a):=fun n r=>DE n l (fun t b e=>(g t b).2 (by omega))
 unfold sO
 cases f:nH l [] 0 with
 | none =>
  rw[f] at hs
  simp only[Xz,false_iff]
  intro c
  refine hs ⟨fun t b u hu e o=>?_,fun t b v _ hp=>by simp[eA] at hp⟩
  have h1:=g t b
  obtain ⟨a,_,i⟩:=(m t.level (by omega)).1 (c t b t.level (by omega) (by omega))
  exact (i t b rfl).trans (i u hu e.symm).symm
 | some x =>
  obtain ⟨a,top⟩:=x
  rw[f] at hs
  obtain ⟨i1,_,i3,i4,i5,i6,i7⟩:=hs
  simp only[Yo]
  have d:∀ n,n∈a.map (·.1)↔n≠0∧∃ t∈l,t.level=n:=fun n=>by rw[i4]; simp
  have j:∀ x∈a.map (·.1),1≤x∧x≤(top.toNat:Int):=fun x f=>by
   obtain ⟨h1,t,b,rfl⟩:=(d x).1 f
   have:=(g t b).1
   have:=i6 t b h1
   omega
  constructor
  ·intro hlen t b n k q
   have p:t.level≤top:=i6 t b (by omega)
   have hm:=TQ i3 j (by simp; omega) k (show n≤(top.toNat:Int) by omega)
   obtain ⟨o,u,hu,rfl⟩:=(d n).1 hm
   exact (m _ k).2 ⟨u.assoc,⟨u,hu,rfl⟩,fun w hw e=>i1 w hw u hu e (by omega)⟩
  ·intro c
   have h1:a.length≤top.toNat:=by
    have:=ot _ (mR top.toNat) i3 (fun x f=>xL.2 (j x f))
    simpa [mR] using this
   have i:top.toNat≤a.length:=by
    rcases i7 with e | ⟨t,b,e,o⟩
    ·subst e; simp
    ·have:=ot (mR top.toNat) (a.map (·.1)) (Hg _) (fun x f=>by
      rw[xL] at f
      have:=(g t b).1
      obtain ⟨_,⟨u,hu,hl⟩,_⟩:=(m x f.1).1 (c t b x f.1 (by omega))
      exact (d x).2 ⟨by omega,u,hu,hl⟩)
     simpa [mR] using this
   omega
theorem DV (g:ag):∀ (l:List Term) (i:Int),ky g l i=true↔∀ (k:Nat) (t:Term),l[k]?=some t→kS g (i+k) t=true
 | [],i=>by simp[ky]
 | t :: r,i=>by
  simp only[ky,Xl,DV g r (i+1)]
  constructor
  ·rintro ⟨h1,a⟩ k u hk
   cases k with
   | zero=>simp at hk; subst hk; simpa using h1
   | succ k =>
    have:=a k u (by simpa using hk)
    rw[show i+((k+1:Nat):Int)=i+1+k by push_cast; omega]; exact this
  ·intro h
   refine ⟨by simpa using h 0 t rfl,fun k u hk=>?_⟩
   have:=h (k+1) u (by simpa using hk)
   rw[show i+1+(k:Int)=i+((k+1:Nat):Int) by push_cast; omega]; exact this
theorem uz (g:ag):∀ (l:List ByteArray) (i:Int),sy g l i=true↔∀ (k:Nat) (s:ByteArray),l[k]?=some s→mE g (i+k) s=true
 | [],i=>by simp[sy]
 | t :: r,i=>by
  simp only[sy,Xl,uz g r (i+1)]
  constructor
  ·rintro ⟨h1,a⟩ k u hk
   cases k with
   | zero=>simp at hk; subst hk; simpa using h1
   | succ k =>
    have:=a k u (by simpa using hk)
    rw[show i+((k+1:Nat):Int)=i+1+k by push_cast; omega]; exact this
  ·intro h
   refine ⟨by simpa using h 0 t rfl,fun k u hk=>?_⟩
   have:=h (k+1) u (by simpa using hk)
   rw[show i+1+(k:Int)=i+((k+1:Nat):Int) by push_cast; omega]; exact this
theorem Fo (g:ag) (s:ByteArray):np g s < 0↔s ∉ g.af.map Term.name:=by
 unfold np
 rcases yZ s (g.af.map Term.name) 0 (by omega) with ⟨h1,a⟩ | ⟨k,h1,a,_⟩
 ·exact ⟨fun _=>a,fun _=>h1⟩
 ·constructor
  ·intro h; omega
  ·intro h; exact absurd (Xi a) h
theorem Fu (g:ag) (t:Term):sm g t=true↔∀ n:Int,1≤n→n≤t.level→iz g.af n=true:=by
 simp only[sm,XI,XU]
 constructor
 ·intro h n h1 a
  have:=h (n - 1).toNat (by omega)
  rwa [show (((n - 1).toNat:Nat):Int)+1=n by omega] at this
 ·intro h k hk
  exact h _ (by omega) (by omega)
theorem Mp (g:ag):rq g=bG g:=by
 rw[Yl]
 simp only[rq,bG,kE,lC,sW,Xl,Xr,DV,uz,I4,XI,Zj,List.any_eq_false,Bool.not_eq_true,OI,tB,Yc,Int.zero_add,Int.zero_sub,Bool.not_not]
 have o:(∀ (k:Nat) (t:Term),g.af[k]?=some t→kS g k t=true)↔(∀ t∈g.af,ma t=true)∧(g.af.map Term.name).Nodup∧(∀ t∈g.af,sm g t=true):=by
  rw[← tZ]
  constructor
  ·intro h
   have f:∀ t∈g.af,∃ k:Nat,g.af[k]?=some t:=fun t d=>List.getElem?_of_mem d
   refine ⟨fun t d=>?_,fun k s hk=>?_,fun t d=>?_⟩
   ·obtain ⟨k,hk⟩:=f t d
    have:=h k t hk
    simp only[kS,ma,Xl,Xr] at this ⊢
    simp[this]
   ·rw[Xf,Xn] at hk
    obtain ⟨t,hk,rfl⟩:=hk
    have:=h k t hk
    simp only[kS,Xl,Yo] at this
    exact this.1.1.1.1.1.1.2
   ·obtain ⟨k,hk⟩:=f t d
    have:=h k t hk
    simp only[kS,Xl] at this
    exact this.2
  ·rintro ⟨h1,i,j⟩ k t hk
   have hm:=Xi hk
   have a:=h1 t hm
   have b:=i k t.name (by rw[Xf,hk]; rfl)
   have c:=j t hm
   simp only[kS,ma,np,Xl,Xr] at a ⊢
   simp[a,b,c]
 have p:(∀ (k:Nat) (s:ByteArray),g.ak[k]?=some s→mE g k s=true)↔(∀ s∈g.ak,gS (fQ s)=true)∧g.ak.Nodup∧(∀ s∈g.ak,s ∉ g.af.map Term.name):=by
  rw[← tZ]
  constructor
  ·intro h
   have f:∀ t∈g.ak,∃ k:Nat,g.ak[k]?=some t:=fun t d=>List.getElem?_of_mem d
   refine ⟨fun t d=>?_,fun k s hk=>?_,fun t d=>?_⟩
   ·obtain ⟨k,hk⟩:=f t d
    have:=h k t hk
    simp only[mE,Xl] at this
    exact this.1.1
   ·have:=h k s hk
    simp only[mE,zM,Xl,Yo] at this
    exact this.1.2
   ·obtain ⟨k,hk⟩:=f t d
    have:=h k t hk
    simp only[mE,Xl,Xr] at this
    exact (Fo g t).1 this.2
  ·rintro ⟨h1,i,j⟩ k s hk
   have hm:=Xi hk
   have a:=h1 s hm
   have b:=i k s hk
   have c:=(Fo g s).2 (j s hm)
   simp[mE,zM,a,b,c]
 rw[o,p]
 constructor
 ·rintro ⟨⟨⟨⟨⟨⟨⟨⟨t1,t2⟩,t3⟩,n1,q⟩,r,v⟩,l,a2,a3⟩,s1,s2⟩,m⟩,n⟩
  have hl:=(Cv g.af t1).1 t3
  exact ⟨⟨⟨⟨⟨⟨⟨t2,t1,a2,fun t d=>(Fu g t).2 (hl t d)⟩,⟨by omega,by omega⟩,fun s hs=>by simpa using m s hs,l,fun s hs hm=>a3 s hs s hm rfl⟩,by omega⟩,by omega⟩,s1⟩,by omega⟩,n⟩
 ·rintro ⟨⟨⟨⟨⟨⟨⟨t2,t1,a2,t3⟩,⟨n1,q⟩,m,l,a3⟩,r⟩,v⟩,s1⟩,s2⟩,n⟩
  have hl:=(Cv g.af t1).2 (fun t d=>(Fu g t).1 (t3 t d))
  exact ⟨⟨⟨⟨⟨⟨⟨⟨t1,t2⟩,hl⟩,by omega,by omega⟩,by omega,by omega⟩,l,a2,fun s hs u hu e=>a3 s hs (e ▸ hu)⟩,s1,by omega⟩,fun s hs=>by simp[m s hs]⟩,n⟩
theorem nQ (g:ag) (a:g.Ok) (hs:g.ak.length+g.af.length≤1000):aA Tryz.prog 52 [.agg (ai g)] (gb (bG g)):=by
 rw[← Mp]; exact Np g a hs
end Gv
