/-
  Part 8 of the proof: what the machine does and what the functions answer.
  Conditions: those that each lemma names.
-/
import Derived.Shelf.SlIter.Sorted
import Derived.Shelf.SortM.Plain
import Derived.Shelf.SortM.SortNone
import Derived.Shelf.SlicesG.CompactS
import Derived.Test.YtihmlbdfcmfbdaaGreatSGzB2G
set_option linter.unusedSimpArgs false
set_option linter.unusedVariables false
set_option maxRecDepth 100000
namespace Gv
open Go Go.Proofs
def cB {α:Type} (p:α→Bool):List α→Int→Int
 | [],_=>-1
 | x :: l,i=>if p x then i else cB p l (i+1)
theorem se {α:Type} (p:α→Bool):∀ (l:List α) (i:Int),0≤i→decide (0≤cB p l i)=l.any p
 | [],_,_=>by simp[cB]
 | x :: l,i,h=>by
  have ih:=se p l (i+1) (by omega)
  rw[List.any_cons,cB]
  by_cases hp:p x=true
  ·rw[T9 hp,hp]; simp[h]
  ·rw[T6 hp,ih]; simp[hp]
theorem CU {f:FuncId} {xs cap:List V} (h:∀ v∈xs,Tree v) (h2:∀ v∈cap,Tree v):Tree (.fn f xs cap):=by
 refine .fn _ _ _ (fun i hi=>?_) (fun i hi=>?_)
 ·have e2:xs.getD i .any=xs[i]:=by simp[T0,hi]
  rw[e2]; exact h _ (Ud _)
 ·have e2:cap.getD i .any=cap[i]:=by simp[T0,hi]
  rw[e2]; exact h2 _ (Ud _)
def fk:SC :=
 .seq (ao [bg 9 .lss 8 7]) <|
 .seq (.cond (.tmp 9) (.skip) (.exit 0)) <|
 .seq (.block 1 (.seq (ao [aj 10 8,aj 5 10]) <|
 .seq (ao [aj 11 1,aj 12 0,aj 13 5,aR 14 1 12 13,ay 15 14,((some 16),.call (.tmp 11) [(.tmp 15)])]) <|
 .cond (.tmp 16) (.seq (ao [aj 17 5,aj 4 17]) <|
 .ret) (.skip))) <|
 ao [aQ 18 .add 8 1,aj 8 18]
def fO:SF:=⟨.seq (ao [bj 4 0]) <|
 .seq (.seq (ao [aj 6 0,aV 7 6,bj 8 0]) <|
 .block 0 (.loop fk)) <|
 .seq (ao [bj 4 (-1)]) <|
 .ret,
 [.tmp 4],19⟩
theorem ir:aU Tryz.prog 133 []=some fO:=by kernel_rfl
def fc:SF:=⟨.seq (ao [bH 4 false]) <|
 .seq (ao [aj 5 0,aj 6 1,bD 7 133 [5,6],aQ 8 .geq 7 0,aj 4 8]) <|
 .ret,
 [.tmp 4],9⟩
theorem gJ:aU Tryz.prog 91 []=some fc:=by kernel_rfl
def gm:SC :=
 .seq (ao [bg 9 .lss 8 7]) <|
 .seq (.cond (.tmp 9) (.skip) (.exit 0)) <|
 .seq (.block 1 (.seq (ao [aj 10 8,aj 5 10]) <|
 .seq (ao [aj 11 1,aj 12 0,aj 13 5,aR 14 1 12 13,ay 15 14,((some 16),.call (.tmp 11) [(.tmp 15)])]) <|
 .cond (.tmp 16) (.seq (ao [aj 17 5,aj 4 17]) <|
 .ret) (.skip))) <|
 ao [aQ 18 .add 8 1,aj 8 18]
def gO:SF:=⟨.seq (ao [bj 4 0]) <|
 .seq (.seq (ao [aj 6 0,aV 7 6,bj 8 0]) <|
 .block 0 (.loop gm)) <|
 .seq (ao [bj 4 (-1)]) <|
 .ret,
 [.tmp 4],19⟩
theorem jX:aU Tryz.prog 146 []=some gO:=by kernel_rfl
def ga:SF:=⟨.seq (ao [bH 4 false]) <|
 .seq (ao [aj 5 0,aj 6 1,bD 7 146 [5,6],aQ 8 .geq 7 0,aj 4 8]) <|
 .ret,
 [.tmp 4],9⟩
theorem jr:aU Tryz.prog 100 []=some ga:=by kernel_rfl
theorem Ff (l:List Int) (hl:aY l) (f:FuncId) (cap:List V) (p:Int→Bool) (hf:∀ x∈l,aG Tryz.prog f (gi x :: cap) (gb (p x))) (hok:dG Tryz.prog f=true) (H:View) :
  aC Tryz.prog 133 [encI l,.fn f [] cap] H fun r _=>r=gi (cB p l 0):=by
 refine aC.of mixed ir ?_
 unfold aY at hl
 simp (disch:=omega) only [↓wr,seval,wq,ah,ag,ak,aa,ab,af,ai,ae,fO,encI]
 refine bc.up l.length (fun i T _=>cB p (l.drop i) i=cB p l 0∧T 0=encI l∧T 1=.fn f [] cap∧T 7=gi l.length∧T 8=gi i) ⟨rfl,rfl,rfl,rfl,rfl⟩ ?_
 rintro i k T H hk ⟨hi,h0,h1,h7,h8⟩
 simp (disch:=omega) only [↓wr,seval,wq,ah,ag,ak,aa,ab,af,ai,ae,fk,h0,h1,h7,h8,encI]
 refine av.dec (fun hc=>?_) (fun hc=>?_)
 ·have hg:l[i]?=some (l[i]'(by omega)):=T4 (by omega)
  have hm:l[i]'(by omega)∈l:=Ud _
  rw[eM (show i < l.length by omega)] at hi
  generalize l[i]'(by omega)=x at hg hm hi
  simp (disch:=omega) only [↓wr,seval,wq,ah,ag,ak,aa,ab,af,ai,ae,h0,h1,h7,h8,encI,T8,hg]
  refine aE.pure (hf x hm) hok ?_
  simp only[cB] at hi
  repeat' (first | (refine av.dec (fun _=>?_) (fun _=>?_)) | (refine av.eq (fun _=>?_) (fun _=>?_)) | (refine av.ne (fun _=>?_) (fun _=>?_)) | (refine av.split (fun _=>?_) (fun _=>?_)) | (simp (disch:=omega) only [↓wr,seval,wq,ah,ag,ak,aa,ab,af,ai,ae,h0,h1,h7,h8]))
  ·rename_i hp
   rw[← hi,T9 hp]
  ·rename_i hp
   refine aN hk (by omega) ⟨?_,h0,h1,h7,rfl⟩
   rw[T6 (by simp[hp])] at hi
   push_cast; exact hi
 ·rw[UB (by omega)] at hi
  simp (disch:=omega) only [↓wr,seval,wq,ah,ag,ak,aa,ab,af,ai,ae,h0,h1,h7,h8]
  rw[← hi]; rfl
theorem xV {l:List Int} {f:FuncId} {cap:List V} (hcap:∀ v∈cap,Tree v):∀ v∈[encI l,.fn f [] cap],Tree v:=by
 intro v hv; simp at hv
 rcases hv with rfl | rfl
 ·exact fM l
 ·exact CU (by simp) hcap
theorem mq (l:List Int) (hl:aY l) (f:FuncId) (cap:List V) (hcap:∀ v∈cap,Tree v) (p:Int→Bool) (hf:∀ x∈l,aG Tryz.prog f (gi x :: cap) (gb (p x))) (hok:dG Tryz.prog f=true) :
  aG Tryz.prog 91 [encI l,.fn f [] cap] (gb (l.any p)):=by
 refine aG.val (xV hcap) fun H=>?_
 refine aC.of mixed gJ ?_
 simp (disch:=omega) only [↓wr,seval,wq,ah,ag,ak,aa,ab,af,ai,ae,fc]
 refine aE.pure (aG.val (xV hcap) (Ff l hl f cap p hf hok)) (by kernel_rfl) ?_
 simp (disch:=omega) only [↓wr,seval,wq,ah,ag,ak,aa,ab,af,ai,ae]
 rw[← se p l 0 (by omega)]
theorem Fa (l:List ByteArray) (hl:aY l) (f:FuncId) (cap:List V) (p:ByteArray→Bool) (hf:∀ x∈l,aG Tryz.prog f (gs x :: cap) (gb (p x))) (hok:dG Tryz.prog f=true) (H:View) :
  aC Tryz.prog 146 [encS l,.fn f [] cap] H fun r _=>r=gi (cB p l 0):=by
 refine aC.of mixed jX ?_
 unfold aY at hl
 simp (disch:=omega) only [↓wr,seval,wq,ah,ag,ak,aa,ab,af,ai,ae,gO,encS]
 refine bc.up l.length (fun i T _=>cB p (l.drop i) i=cB p l 0∧T 0=encS l∧T 1=.fn f [] cap∧T 7=gi l.length∧T 8=gi i) ⟨rfl,rfl,rfl,rfl,rfl⟩ ?_
 rintro i k T H hk ⟨hi,h0,h1,h7,h8⟩
 simp (disch:=omega) only [↓wr,seval,wq,ah,ag,ak,aa,ab,af,ai,ae,gm,h0,h1,h7,h8,encS]
 refine av.dec (fun hc=>?_) (fun hc=>?_)
 ·have hg:l[i]?=some (l[i]'(by omega)):=T4 (by omega)
  have hm:l[i]'(by omega)∈l:=Ud _
  rw[eM (show i < l.length by omega)] at hi
  generalize l[i]'(by omega)=x at hg hm hi
  simp (disch:=omega) only [↓wr,seval,wq,ah,ag,ak,aa,ab,af,ai,ae,h0,h1,h7,h8,encS,T8,hg]
  refine aE.pure (hf x hm) hok ?_
  simp only[cB] at hi
  repeat' (first | (refine av.dec (fun _=>?_) (fun _=>?_)) | (refine av.eq (fun _=>?_) (fun _=>?_)) | (refine av.ne (fun _=>?_) (fun _=>?_)) | (refine av.split (fun _=>?_) (fun _=>?_)) | (simp (disch:=omega) only [↓wr,seval,wq,ah,ag,ak,aa,ab,af,ai,ae,h0,h1,h7,h8]))
  ·rename_i hp
   rw[← hi,T9 hp]
  ·rename_i hp
   refine aN hk (by omega) ⟨?_,h0,h1,h7,rfl⟩
   rw[T6 (by simp[hp])] at hi
   push_cast; exact hi
 ·rw[UB (by omega)] at hi
  simp (disch:=omega) only [↓wr,seval,wq,ah,ag,ak,aa,ab,af,ai,ae,h0,h1,h7,h8]
  rw[← hi]; rfl
theorem yx {l:List ByteArray} {f:FuncId} {cap:List V} (hcap:∀ v∈cap,Tree v):∀ v∈[encS l,.fn f [] cap],Tree v:=by
 intro v hv; simp at hv
 rcases hv with rfl | rfl
 ·exact yg l
 ·exact CU (by simp) hcap
theorem Ae (l:List ByteArray) (hl:aY l) (f:FuncId) (cap:List V) (hcap:∀ v∈cap,Tree v) (p:ByteArray→Bool) (hf:∀ x∈l,aG Tryz.prog f (gs x :: cap) (gb (p x))) (hok:dG Tryz.prog f=true) :
  aG Tryz.prog 100 [encS l,.fn f [] cap] (gb (l.any p)):=by
 refine aG.val (yx hcap) fun H=>?_
 refine aC.of mixed jr ?_
 simp (disch:=omega) only [↓wr,seval,wq,ah,ag,ak,aa,ab,af,ai,ae,ga]
 refine aE.pure (aG.val (yx hcap) (Fa l hl f cap p hf hok)) (by kernel_rfl) ?_
 simp (disch:=omega) only [↓wr,seval,wq,ah,ag,ak,aa,ab,af,ai,ae]
 rw[← se p l 0 (by omega)]
theorem yD {l:List Value} : ∀ v∈l.map V.val,Tree v:=by
 intro v hv; obtain ⟨x,_,rfl⟩:=Ur.1 hv; exact .val _
def xY:SF:=⟨.seq (ao [bH 6 false]) <|
 .seq (.region false [⟨none,[aj 7 0,aj 8 1,bg 9 .geq 7 8,aj 10 9]⟩,⟨(some (10,true)),[aj 11 0,aj 12 2,bg 13 .leq 11 12]⟩,⟨none,[eS 14 10 13,aj 6 14]⟩]) <|
 .ret,
 [.tmp 6],15⟩
theorem BI:aU Tryz.prog 98 []=some xY:=by kernel_rfl
def EO:SF:=⟨.seq (ao [bj 2 0]) <|
 .seq (ao [aj 3 0,((some 4),.op (.arith .sub (.val (.val (.int .i64 (-1)))) (.tmp 3))),aj 2 4]) <|
 .ret,
 [.tmp 2],5⟩
theorem Gz:aU Tryz.prog 191 []=some EO:=by kernel_rfl
def DX:SF:=⟨.seq (ao [cO 2 0,bH 4 false]) <|
 .seq (.seq (ao [aj 5 1,aQ 6 .lss 5 0]) <|
 .cond (.tmp 6) (.seq (.region true [⟨none,[aj 7 1,bD 8 191 [7],aD 9 1 2,ay 10 9,aV 11 10,bg 12 .lss 8 11,aj 4 12]⟩]) <|
 .ret) (.skip)) <|
 .seq (ao [aj 13 1,aD 14 0 2,ay 15 14,aV 16 15,bg 17 .lss 13 16,aj 4 17]) <|
 .ret,
 [.tmp 4],18⟩
theorem Fy:aU Tryz.prog 150 [2]=some DX:=by kernel_rfl
def yJ:SF:=⟨.seq (ao [bH 4 false]) <|
 .seq (.region false [⟨none,[bp 5 4 1,aj 6 0,bD 7 150 [5,6],dp 8 7,aj 9 8]⟩,⟨(some (9,false)),[aj 10 0,aQ 11 .geq 10 0,aj 12 11]⟩,⟨(some (12,true)),[aD 13 2 2,ay 14 13,aQ 15 .eql 14 (-1)]⟩,⟨(some (9,false)),[eS 16 12 15]⟩,⟨none,[cU 17 9 16,aj 4 17]⟩]) <|
 .ret,
 [.tmp 4],18⟩
theorem Bc:aU Tryz.prog 149 []=some yJ:=by kernel_rfl
def Br:SF:=⟨.seq (ao [cO 2 0,cO 3 1,bH 4 false]) <|
 .seq (.seq (.region false [⟨none,[aD 5 1 3,ay 6 5,aV 7 6,aQ 8 .gtr 7 6,aj 9 8]⟩,⟨(some (9,false)),[aD 10 2 3,ay 11 10,aD 12 0 2,ay 13 12,aV 14 13,aQ 15 .sub 14 1,pc 16 98 [(.tmp 11),(.val (.val (.int .i64 (-1)))),(.tmp 15)],dp 17 16]⟩,⟨none,[cU 18 9 17]⟩]) <|
 .cond (.tmp 18) (.seq (ao [bH 4 false]) <|
 .ret) (.skip)) <|
 .seq (ao [aD 19 1 3,ay 20 19,((some 21),.op (.sL 149 [] [(.tmp 2),(.tmp 3)])),bD 22 91 [20,21],dp 23 22,aj 4 23]) <|
 .ret,
 [.tmp 4],24⟩
theorem E6:aU Tryz.prog 103 [2,3]=some Br:=by kernel_rfl
theorem rr (a b c:Int):aG Tryz.prog 98 [gi a,gi b,gi c] (gb (decide (b≤a) && decide (a≤c))):=by
 refine aG.val (yD (l:=[.int .i64 a,.int .i64 b,.int .i64 c])) fun H=>?_
 refine aC.of mixed BI ?_
 repeat' (first | (refine av.dec (fun _=>?_) (fun _=>?_)) | (refine av.eq (fun _=>?_) (fun _=>?_)) | (refine av.ne (fun _=>?_) (fun _=>?_)) | (refine av.split (fun _=>?_) (fun _=>?_)) | (simp (disch:=omega) only [↓wr,seval,wq,ah,ag,ak,aa,ab,af,ai,ae,xY]))
 all_goals simp[*]
theorem Qv (s:Int) (hs:cp s):aG Tryz.prog 191 [gi s] (gi (-1 - s)):=by
 refine aG.val (yD (l:=[.int .i64 s])) fun H=>?_
 obtain ⟨h1,h2⟩:=hs
 refine aC.of mixed Gz ?_
 repeat' (first | (refine av.dec (fun _=>?_) (fun _=>?_)) | (refine av.eq (fun _=>?_) (fun _=>?_)) | (refine av.ne (fun _=>?_) (fun _=>?_)) | (refine av.split (fun _=>?_) (fun _=>?_)) | (simp (disch:=omega) only [↓wr,seval,wq,ah,ag,ak,aa,ab,af,ai,ae,EO]))
theorem Qs (g:aw) (s:Int) (hs:cp s):aG Tryz.prog 150 [.agg (au g),gi s] (gb (iz g s)):=by
 refine aG.val (Hl g s) fun H=>?_
 refine aC.of mixed Fy ?_
 repeat' (first | (refine av.dec (fun _=>?_) (fun _=>?_)) | (refine av.eq (fun _=>?_) (fun _=>?_)) | (refine av.ne (fun _=>?_) (fun _=>?_)) | (refine av.split (fun _=>?_) (fun _=>?_)) | (refine aE.pure (Qv s hs) (by kernel_rfl) ?_) | (simp (disch:=omega) only [↓wr,seval,wq,ah,ag,ak,aa,ab,af,ai,ae,DX,au,encS]))
 ·rename_i h; simp[iz,show ¬ (0:Int)≤s by omega]
 ·rename_i h; simp[iz,show (0:Int)≤s by omega]
theorem kN {cs:List V} {j:Nat} (h:∀ v∈cs,Tree v):Tree (.aO cs j):=by
 refine .aO _ _ fun i hi=>?_
 have e2:cs.getD i .any=cs[i]:=by simp[T0,hi]
 rw[e2]; exact h _ (Ud _)
theorem Mw (g:aw) (r:aW) (s:Int) (hs:cp s):aG Tryz.prog 149 [gi s,.aO (au g) 0,.aO (aP r) 0] (gb (!mF g r.prec s)):=by
 refine aG.val ?_ fun H=>?_
 ·intro v hv; simp at hv
  rcases hv with rfl | rfl | rfl
  ·exact .val _
  ·exact kN (dR g)
  ·exact kN (gB r)
 refine aC.of mixed Bc ?_
 simp (disch:=omega) only [↓wr,seval,wq,ah,ag,ak,aa,ab,af,ai,ae,yJ,au]
 refine aE.pure (Qs g s hs) (by kernel_rfl) ?_
 repeat' (first | (refine av.dec (fun _=>?_) (fun _=>?_)) | (refine av.eq (fun _=>?_) (fun _=>?_)) | (refine av.ne (fun _=>?_) (fun _=>?_)) | (refine av.split (fun _=>?_) (fun _=>?_)) | (simp (disch:=omega) only [↓wr,seval,wq,ah,ag,ak,aa,ab,af,ai,ae,aP]))
 all_goals simp[mF, *]
theorem PR (g:aw) (r:aW) (hg:g.Ok) (hr:aY r.right∧∀ x∈r.right,cp x):aG Tryz.prog 103 [.agg (au g),.agg (aP r)] (gb (iA g r)):=by
 refine aG.val (GJ g r) fun H=>?_
 have ht:=hg.az
 unfold aY at ht
 refine aC.of mixed E6 ?_
 repeat' (first | (refine av.dec (fun _=>?_) (fun _=>?_)) | (refine av.eq (fun _=>?_) (fun _=>?_)) | (refine av.ne (fun _=>?_) (fun _=>?_)) | (refine av.split (fun _=>?_) (fun _=>?_)) | (refine aE.pure (rr _ _ _) (by kernel_rfl) ?_) | (simp (disch:=omega) only [↓wr,seval,wq,ah,ag,ak,aa,ab,af,ai,ae,Br,au,aP,encI,encS]))
 ·rename_i h; simp[iA,show ¬ r.right.length≤6 by omega]
 ·rename_i h1 h2
  have h3:r.right.length≤6:=by omega
  have h2' : -1≤r.prec∧r.prec < g.az.length:=by simp at h2; omega
  refine aE.pure (mq r.right hr.1 149 [.aO (au g) 0,.aO (aP r) 0] ?_ (fun s=>!mF g r.prec s) (fun x hx=>Mw g r x (hr.2 x hx)) (by kernel_rfl)) (by kernel_rfl) ?_
  ·intro v hv; simp at hv
   rcases hv with rfl | rfl
   ·exact kN (dR g)
   ·exact kN (gB r)
  simp (disch:=omega) only [↓wr,seval,wq,ah,ag,ak,aa,ab,af,ai,ae]
  simp[iA,h3,h2'.1,h2'.2]
  rw[Vc]
  simp
 ·rename_i h1 h2
  have h3:¬ (-1≤r.prec∧r.prec < g.az.length):=by simp at h2; omega
  have:(decide (-1≤r.prec) && decide (r.prec < (g.az.length:Int)))=false:=by
   rw[← Bool.decide_and]; simpa using h3
  simp only[iA,Bool.and_assoc]
  rw[← Bool.and_assoc (decide (-1≤r.prec)),this]; simp
theorem Oy (l:List Int) (h0:l.getD 0 0=39):((mG l).2 == 0 && (mG l).1 == (l.length:Int))=mC l:=by
 match l,h0 with
 | [],h=>simp at h
 | [a],_=>rfl
 | [a,b],_ =>
  simp only[mG,kB,mC,Um,UG,VK,Ve]
  repeat' split
  all_goals simp_all
 | [a,b,c],h0 =>
  have ha:a=39:=by simpa using h0
  subst ha
  simp only[mG,kB,mC,yf,Dp,Um,UG,VK,Ve]
  repeat' split
  all_goals simp_all
  all_goals grind
 | [a,b,c,d],h0 =>
  have ha:a=39:=by simpa using h0
  subst ha
  simp only[mG,kB,mC,yf,Dp,Um,UG,VK,Ve]
  repeat' split
  all_goals simp_all
  all_goals grind
 | a :: b :: c :: d :: e :: r,h0 =>
  simp only[mG,kB,mC,yf,Dp,Um,VK,Ve]
  repeat' split
  all_goals simp_all
  all_goals (try omega)
  all_goals grind
theorem K1 {c:Int} {l:List Int} (h:¬ c=39):mC (c :: l)=false:=by
 match l with
 | []=>rfl
 | [_]=>rfl
 | [_,_]=>simp[mC,h]
 | [_,_,_]=>simp[mC,h]
 | _ :: _ :: _ :: _ :: _=>rfl
theorem Ly (s:ByteArray):aG Tryz.prog 187 [gs s] (gb (mC (fp s))):=by
 refine aG.val (pz s) fun H=>?_
 refine aC.of mixed Av ?_
 have hcr:=fun d (hd:d∈fp s)=>DW (s:=s) (c:=d) hd
 have hP:aG Tryz.prog 224 [.aL (gC s)] (.bE [gi (mG (fp s)).1,gi (mG (fp s)).2]):=by
  rw[Nt]
  refine aG.of ?_ ((Lr (fp s) hcr _).mono fun r H' h h' _=>by rw[h]; exact .tree _ (.bE _ fun i hi=>by
   match i,hi with
   | 0,_=>exact .val _
   | 1,_=>exact .val _))
  intro v hv; simp at hv; subst hv
  exact fD _ _ fun x _ v hv=>by simp at hv; subst hv; exact .val _
 cases hb:fp s with
 | nil =>
  repeat' (first | (refine av.dec (fun _=>?_) (fun _=>?_)) | (refine av.eq (fun _=>?_) (fun _=>?_)) | (refine av.ne (fun _=>?_) (fun _=>?_)) | (refine av.split (fun _=>?_) (fun _=>?_)) | (simp (disch:=omega) only [↓wr,seval,wq,ah,ag,ak,aa,ab,af,ai,ae,qT,eN,xX,hb]))
  rfl
 | cons c l =>
  have hl:=Oy (fp s)
  rw[hb] at hP hl
  repeat' (first | (refine av.dec (fun _=>?_) (fun _=>?_)) | (refine av.eq (fun _=>?_) (fun _=>?_)) | (refine av.ne (fun _=>?_) (fun _=>?_)) | (refine av.split (fun _=>?_) (fun _=>?_)) | (simp (disch:=omega) only [↓wr,seval,wq,ah,ag,ak,aa,ab,af,ai,ae,qT,eN,xX,hb,UC]))
  ·rename_i h
   rw[K1 h]
  ·rename_i h
   refine aE.pure hP (by kernel_rfl) ?_
   have hl:=hl (by simpa using h)
   repeat' (first | (refine av.dec (fun _=>?_) (fun _=>?_)) | (refine av.eq (fun _=>?_) (fun _=>?_)) | (refine av.ne (fun _=>?_) (fun _=>?_)) | (refine av.split (fun _=>?_) (fun _=>?_)) | (simp (disch:=omega) only [↓wr,seval,wq,ah,ag,ak,aa,ab,af,ai,ae,eN,hb]))
   ·rename_i h2
    rw[← hl]; simp[h2]
   ·rename_i h2
    rw[← hl]; simp[h2]
theorem Ol (s:ByteArray):aG Tryz.prog 141 [gs s] (gb (qL (fp s))):=by
 refine aG.val (pz s) fun H=>?_
 refine aC.of mixed Dw ?_
 repeat' (first | (refine av.dec (fun _=>?_) (fun _=>?_)) | (refine av.eq (fun _=>?_) (fun _=>?_)) | (refine av.ne (fun _=>?_) (fun _=>?_)) | (refine av.split (fun _=>?_) (fun _=>?_)) | (refine aE.pure (Gn s) (by kernel_rfl) ?_) | (refine aE.pure (Ly s) (by kernel_rfl) ?_) | (simp (disch:=omega) only [↓wr,seval,wq,ah,ag,ak,aa,ab,af,ai,ae,Aa]))
 all_goals simp[qL, *]
theorem K9 (s:ByteArray):aG Tryz.prog 101 [gs s] (gb (!gx (fp s))):=by
 refine aG.val (pz s) fun H=>?_
 refine aC.of mixed AQ ?_
 repeat' (first | (refine av.dec (fun _=>?_) (fun _=>?_)) | (refine av.eq (fun _=>?_) (fun _=>?_)) | (refine av.ne (fun _=>?_) (fun _=>?_)) | (refine av.split (fun _=>?_) (fun _=>?_)) | (refine aE.pure (Gn s) (by kernel_rfl) ?_) | (simp (disch:=omega) only [↓wr,seval,wq,ah,ag,ak,aa,ab,af,ai,ae,wY]))
def vg:SC :=
 .seq (ao [bg 12 .lss 11 10]) <|
 .seq (.cond (.tmp 12) (.skip) (.exit 0)) <|
 .seq (.block 1 (.seq (.region false [⟨none,[aR 13 3 9 11,bp 14 3 13,((some 6),.op (.alloc [(.val (.string ⟨#[]⟩)),(.val (.int .i64 0)),(.val (.int .i64 0))])),(none,.op (.store 3 (.tmp 6) (.tmp 14)))]⟩]) <|
 .seq (.seq (ao [aD 15 1 6,ay 16 15,aQ 17 .eql 16 0]) <|
 .cond (.tmp 17) (.exit 1) (.skip)) <|
 .seq (.seq (ao [aj 18 3,aD 19 1 6,ay 20 19,((some 21),.op (.old (.lookup 204 (.tmp 18) (.tmp 20) false) 3)),aj 7 21]) <|
 .seq (.region false [⟨none,[aj 22 7,aQ 23 .neq 22 0,aj 24 23]⟩,⟨(some (24,true)),[aj 25 7,aD 26 2 6,ay 27 26,bg 28 .neq 25 27]⟩,⟨none,[eS 29 24 28]⟩]) <|
 .cond (.tmp 29) (.seq (ao [bH 2 false]) <|
 .ret) (.skip)) <|
 .seq (ao [aj 30 3,aD 31 1 6,ay 32 31,aD 33 2 6,ay 34 33,(none,.op (.old (.mapUpdate 204 (.tmp 30) (.tmp 32) (.tmp 34)) 0))]) <|
 ao [aj 35 4,aD 36 1 6,ay 37 36,((some 38),.op (.mm true (.tmp 35) (.tmp 37))),aj 4 38])) <|
 ao [aQ 39 .add 11 1,aj 11 39]
def yE:SF:=⟨.seq (ao [bH 2 false]) <|
 .seq (ao [((some 8),.op (.nR)),aj 3 8]) <|
 .seq (ao [bj 4 0]) <|
 .seq (.seq (ao [aj 9 0,aV 10 9,bj 11 0]) <|
 .block 0 (.loop vg)) <|
 .seq (ao [aj 40 3,((some 41),.op (.old (.call { callee:=.builtin .len,args:=#[(.tmp 40)],argTypes:=#[204] }) 3)),aj 42 4,bg 43 .eql 41 42,aj 2 43]) <|
 .ret,
 [.tmp 2],44⟩
theorem BU:aU Tryz.prog 142 []=some yE:=by kernel_rfl
def xm:SC :=
 .seq (ao [bg 8 .lss 7 6]) <|
 .seq (.cond (.tmp 8) (.skip) (.exit 0)) <|
 .seq (.block 1 (.seq (.region false [⟨none,[aR 9 3 5 7,bp 10 3 9,((some 4),.op (.alloc [(.val (.string ⟨#[]⟩)),(.val (.int .i64 0)),(.val (.int .i64 0))])),(none,.op (.store 3 (.tmp 4) (.tmp 10)))]⟩]) <|
 .seq (.region false [⟨none,[aD 11 0 4,ay 12 11,bD 13 141 [12],dp 14 13,aj 15 14]⟩,⟨(some (15,false)),[aD 16 1 4,ay 17 16,pc 18 98 [(.tmp 17),(.val (.val (.int .i64 0))),(.val (.val (.int .i64 24)))],dp 19 18]⟩,⟨none,[cU 20 15 19,aj 21 20]⟩,⟨(some (21,false)),[aD 22 2 4,ay 23 22,pc 24 98 [(.tmp 23),(.val (.val (.int .i64 0))),(.val (.val (.int .i64 3)))],dp 25 24]⟩,⟨none,[cU 26 21 25,aj 27 26]⟩,⟨(some (27,false)),[aD 28 1 4,ay 29 28,aQ 30 .eql 29 0,aD 31 2 4,ay 32 31,aQ 33 .eql 32 0,((some 34),.op (.beq false (.tmp 30) (.tmp 33)))]⟩,⟨none,[cU 35 27 34]⟩]) <|
 .cond (.tmp 35) (.seq (ao [bH 2 false]) <|
 .ret) (.skip))) <|
 ao [aQ 36 .add 7 1,aj 7 36]
def zK:SF:=⟨.seq (ao [bH 2 false]) <|
 .seq (.seq (ao [aj 5 0,aV 6 5,bj 7 0]) <|
 .block 0 (.loop xm)) <|
 .seq (.region false [⟨none,[aj 37 0,aV 38 37,aQ 39 .leq 38 24,aj 40 39]⟩,⟨(some (40,true)),[aj 41 0,bD 42 142 [41]]⟩,⟨none,[eS 43 40 42,aj 2 43]⟩]) <|
 .ret,
 [.tmp 2],44⟩
theorem C4:aU Tryz.prog 97 []=some zK:=by kernel_rfl
def xl:SC :=
 .seq (ao [bg 16 .lss 15 14]) <|
 .seq (.cond (.tmp 16) (.skip) (.exit 0)) <|
 .seq (.block 1 (.seq (.region false [⟨none,[aR 17 3 13 15,bp 18 3 17,((some 5),.op (.alloc [(.val (.string ⟨#[]⟩)),(.val (.int .i64 0)),(.val (.int .i64 0))])),(none,.op (.store 3 (.tmp 5) (.tmp 18)))]⟩]) <|
 .region false [⟨none,[aj 19 3,aD 20 0 5,ay 21 20,((some 22),.op (.cw 1 1 [(.val (.string ⟨#[]⟩))] [(0,(.tmp 21))])),((some 23),.op (.app 1 16 (.tmp 19) (.tmp 22))),aj 3 23]⟩])) <|
 ao [aQ 24 .add 15 1,aj 15 24]
def w8:SC :=
 .seq (ao [bg 65 .lss 64 63]) <|
 .seq (.cond (.tmp 65) (.skip) (.exit 2)) <|
 .seq (.block 3 (.seq (ao [aR 66 3 62 64,bp 67 3 66,((some 8),.op (.alloc [(.val (.int .i64 0)),(.emp 1),(.val (.int .i64 0))])),(none,.op (.store 3 (.tmp 8) (.tmp 67)))]) <|
 .seq (.seq (.region false [⟨none,[aD 68 0 8,ay 69 68,aj 70 6,pc 71 98 [(.tmp 69),(.val (.val (.int .i64 0))),(.tmp 70)],dp 72 71,aj 73 72]⟩,⟨(some (73,false)),[bp 74 4 1,bp 75 3 8,bD 76 103 [74,75],dp 77 76]⟩,⟨none,[cU 78 73 77]⟩]) <|
 .cond (.tmp 78) (.seq (ao [bH 2 false]) <|
 .ret) (.skip)) <|
 ao [aj 79 6,aD 80 0 8,ay 81 80,aQ 82 .add 81 1,((some 83),.op (.mm true (.tmp 79) (.tmp 82))),aj 6 83])) <|
 ao [aQ 84 .add 64 1,aj 64 84]
def Ac:SF:=⟨.seq (ao [cO 1 0,bH 2 false]) <|
 .seq (ao [aD 9 1 1,ay 10 9,bD 11 96 [10],aj 3 11]) <|
 .seq (.seq (ao [aD 12 0 1,ay 13 12,aV 14 13,bj 15 0]) <|
 .block 0 (.loop xl)) <|
 .seq (.seq (.region false [⟨none,[aD 25 0 1,ay 26 25,bD 27 97 [26],dp 28 27,aj 29 28]⟩,⟨(some (29,false)),[aD 30 1 1,ay 31 30,aV 32 31,pc 33 98 [(.tmp 32),(.val (.val (.int .i64 1))),(.val (.val (.int .i64 16)))],dp 34 33]⟩,⟨none,[cU 35 29 34,aj 36 35]⟩,⟨(some (36,false)),[aD 37 2 1,ay 38 37,aV 39 38,pc 40 98 [(.tmp 39),(.val (.val (.int .i64 1))),(.val (.val (.int .i64 40)))],dp 41 40]⟩,⟨none,[cU 42 36 41,aj 43 42]⟩,⟨(some (43,false)),[aj 44 3,bD 45 99 [44],dp 46 45]⟩,⟨none,[cU 47 43 46,aj 48 47]⟩,⟨(some (48,false)),[aD 49 3 1,ay 50 49,aD 51 1 1,ay 52 51,aV 53 52,aQ 54 .sub 53 1,pc 55 98 [(.tmp 50),(.val (.val (.int .i64 0))),(.tmp 54)],dp 56 55]⟩,⟨none,[cU 57 48 56]⟩]) <|
 .cond (.tmp 57) (.seq (ao [bH 2 false]) <|
 .ret) (.skip)) <|
 .seq (.seq (ao [aD 58 1 1,ay 59 58,pc 60 100 [(.tmp 59),(.val (.fn 101 [] []))]]) <|
 .cond (.tmp 60) (.seq (ao [bH 2 false]) <|
 .ret) (.skip)) <|
 .seq (ao [bj 6 0]) <|
 .seq (.seq (ao [aD 61 2 1,ay 62 61,aV 63 62,bj 64 0]) <|
 .block 2 (.loop w8)) <|
 .seq (ao [aj 85 6,aD 86 1 1,ay 87 86,aV 88 87,bg 89 .eql 85 88,aj 2 89]) <|
 .ret,
 [.tmp 2],90⟩
theorem C5:aU Tryz.prog 52 [1]=some Ac:=by kernel_rfl
def eC (l:List Term):V:=.aL (l.map cg)
theorem BO (l:List Term):∀ v∈[eC l],Tree v:=by intro v hv; simp at hv; subst hv; exact fD _ _ fun x _=>sZ x
def mB:List Term→List (Int × Int)→Int→Option (List (Int × Int) × Int)
 | [],a,top=>some (a,top)
 | t :: r,a,top=>if t.level=0 then mB r a top else
  if (ej a t.level).getD 0≠0∧(ej a t.level).getD 0≠t.assoc then none else mB r (jW t.level t.assoc a) (if t.level > top then t.level else top)
def rN (l:List Term):Bool:=match mB l [] 0 with
 | some (a,top)=>(a.length:Int) == top
 | none=>false
set_option maxHeartbeats 1000000 in
theorem Kk (l:List Term) (hl:aY l):aG Tryz.prog 142 [eC l] (gb (rN l)):=by
 refine aG.val (BO l) fun H=>?_
 refine aC.of mixed BU ?_
 unfold aY at hl
 simp (disch:=omega) only [↓wr,seval,wq,ah,ag,ak,aa,ab,af,ai,ae,yE,eC]
 intro q hq
 try simp (disch:=omega) only [↓wr,seval,wq,ah,ag,ak,aa,ab,af,ai,ae]
 refine bc.up l.length (fun i T H=>(∃ a m c top,H q=.map (ct (Value.int .i64) m) c∧nG gi a m∧T 4=gi top∧mB (l.drop i) a top=mB l [] 0)∧T 0=eC l∧T 3=.mp q∧T 9=eC l∧T 10=gi l.length∧T 11=gi i) ?_ ?_
 ·refine ⟨⟨[],[],0,0,?_,trivial,rfl,rfl⟩,rfl,rfl,rfl,rfl,rfl⟩
  simp[View.set,ct]
 rintro i k T H hk ⟨⟨a,m,c,top,hq,hm,h4,hi⟩,h0,h3,h9,h10,h11⟩
 simp (disch:=omega) only [↓wr,seval,wq,ah,ag,ak,aa,ab,af,ai,ae,vg,h0,h3,h4,h9,h10,h11,eC]
 refine av.dec (fun hc=>?_) (fun hc=>?_)
 ·have hg:l[i]?=some (l[i]'(by omega)):=T4 (by omega)
  rw[eM (show i < l.length by omega)] at hi
  generalize l[i]'(by omega)=t at hg hi
  simp only[mB] at hi
  simp (disch:=omega) only [↓wr,seval,wq,ah,ag,ak,aa,ab,af,ai,ae,h0,h3,h4,h9,h10,h11,eC,cg,T8,hg]
  intro b hb
  have hbq:b≠q:=by rintro rfl; rw[hq] at hb; simp at hb
  try simp (disch:=omega) only [↓wr,seval,wq,ah,ag,ak,aa,ab,af,ai,ae]
  refine av.eq (fun hz=>?_) (fun hz=>?_)
  ·rw[T9 hz] at hi
   simp (disch:=omega) only [↓wr,seval,wq,ah,ag,ak,aa,ab,af,ai,ae,h0,h3,h4,h9,h10,h11]
   refine aN hk (by omega) ⟨⟨a,m,c,top,?_,hm,h4,hi⟩,h0,h3,h9,h10,rfl⟩
   simp[View.set,hbq.symm,hq]
  ·rw[T6 hz] at hi
   simp (disch:=omega) only [↓wr,seval,wq,ah,ag,ak,aa,ab,af,ai,ae,h0,h3,h4,h9,h10,h11]
   refine zu (kt:=3) (et:=3) (z:=gi 0) (by kernel_rfl) (by kernel_rfl) (kx .i64 Tryz.underlying3) (id:=q) (c:=c) (m:=m) (k:=t.level) (by simp (disch:=omega) only [↓wr,seval,wq,ah,ag,ak,aa,ab,af,ai,ae,h3]) (by simp (disch:=omega) only [↓wr,seval,wq,ah,ag,ak,aa,ab,af,ai,ae,h3]) (by simp[View.set,hbq.symm,hq]) ?_
   have hgt:(getM m t.level).getD (gi 0)=gi ((ej a t.level).getD 0):=by
    rw[hm.get]; cases ej a t.level <;> rfl
   have hput:∀ (H2:View) (c':Nat) (T2:Env),(¬ ((ej a t.level).getD 0≠0∧(ej a t.level).getD 0≠t.assoc)) →
     H2 q=.map (ct (Value.int .i64) (bJ t.level (gi t.assoc) c m)) c'→T2 0=eC l→T2 3=.mp q→T2 4=gi (if t.level > top then t.level else top)→T2 9=eC l→T2 10=gi l.length→T2 11=gi ((i:Int)+1) →
     ∃ k',k' < k∧DH l.length k' (fun i T H=>(∃ a m c top,H q=.map (ct (Value.int .i64) m) c∧nG gi a m∧T 4=gi top∧mB (l.drop i) a top=mB l [] 0)∧T 0=eC l∧T 3=.mp q∧T 9=eC l∧T 10=gi l.length∧T 11=gi i) T2 H2:=by
    intro H2 c' T2 hn g1 g2 g3 g4 g5 g6 g7
    rw[T6 hn] at hi
    exact aN hk (by omega) ⟨⟨_,_,c',_,g1,hm.put t.level t.assoc c,g4,hi⟩,g2,g3,g5,g6,by rw[g7]; rfl⟩
   repeat' (first | (refine av.dec (fun _=>?_) (fun _=>?_)) | (refine av.eq (fun _=>?_) (fun _=>?_)) | (refine av.ne (fun _=>?_) (fun _=>?_)) | (refine av.split (fun _=>?_) (fun _=>?_)) | (simp (disch:=omega) only [↓wr,seval,wq,ah,ag,ak,aa,ab,af,ai,ae,h0,h3,h4,h9,h10,h11,hgt]))
   ·rename_i n1 n2
    rw[T9 ⟨n1,n2⟩] at hi
    simp only[rN,← hi]
   ·rename_i n1 n2
    refine uU (kt:=3) (et:=3) (by kernel_rfl) (kx .i64 Tryz.underlying3) (id:=q) (c:=c) (m:=m) (k:=t.level) (v:=gi t.assoc) (by simp (disch:=omega) only [↓wr,seval,wq,ah,ag,ak,aa,ab,af,ai,ae,h3]) (by simp (disch:=omega) only [↓wr,seval,wq,ah,ag,ak,aa,ab,af,ai,ae,h3]) (by simp (disch:=omega) only [↓wr,seval,wq,ah,ag,ak,aa,ab,af,ai,ae,h3]) (by simp[View.set,hbq.symm,hq]) ?_
    intro c'
    simp (disch:=omega) only [↓wr,seval,wq,ah,ag,ak,aa,ab,af,ai,ae,h0,h3,h4,h9,h10,h11,hbq]
    exact hput _ c' _ (fun e=>e.2 n2) (by simp[View.set]) h0 h3 rfl h9 h10 rfl
   ·rename_i n1
    refine uU (kt:=3) (et:=3) (by kernel_rfl) (kx .i64 Tryz.underlying3) (id:=q) (c:=c) (m:=m) (k:=t.level) (v:=gi t.assoc) (by simp (disch:=omega) only [↓wr,seval,wq,ah,ag,ak,aa,ab,af,ai,ae,h3]) (by simp (disch:=omega) only [↓wr,seval,wq,ah,ag,ak,aa,ab,af,ai,ae,h3]) (by simp (disch:=omega) only [↓wr,seval,wq,ah,ag,ak,aa,ab,af,ai,ae,h3]) (by simp[View.set,hbq.symm,hq]) ?_
    intro c'
    simp (disch:=omega) only [↓wr,seval,wq,ah,ag,ak,aa,ab,af,ai,ae,h0,h3,h4,h9,h10,h11,hbq]
    exact hput _ c' _ (fun e=>e.1 n1) (by simp[View.set]) h0 h3 rfl h9 h10 rfl
 ·rw[UB (by omega)] at hi
  simp only[mB] at hi
  simp (disch:=omega) only [↓wr,seval,wq,ah,ag,ak,aa,ab,af,ai,ae,h0,h3,h4,h9,h10,h11]
  refine RE (kt:=3) (et:=3) (by kernel_rfl) (id:=q) (c:=c) (m:=m) (by simp (disch:=omega) only [↓wr,seval,wq,ah,ag,ak,aa,ab,af,ai,ae,h3]) hq ?_
  simp (disch:=omega) only [↓wr,seval,wq,ah,ag,ak,aa,ab,af,ai,ae,h0,h3,h4,h9,h10,h11,hm.len]
  simp only[rN,← hi]
def kR (t:Term):Bool:=qL (fp t.name) && decide (0≤t.level) && decide (t.level≤24) && decide (0≤t.assoc) && decide (t.assoc≤3) && ((t.level == 0) == (t.assoc == 0))
def sG (l:List Term):Bool:=l.all kR && decide (l.length≤24) && rN l
set_option maxHeartbeats 1000000 in
theorem Mc (l:List Term) (hl:aY l):aG Tryz.prog 97 [eC l] (gb (sG l)):=by
 refine aG.val (BO l) fun H=>?_
 refine aC.of mixed C4 ?_
 have hl2:=hl
 unfold aY at hl
 simp (disch:=omega) only [↓wr,seval,wq,ah,ag,ak,aa,ab,af,ai,ae,zK,eC]
 refine bc.up l.length (fun i T H=>(l.drop i).all kR=l.all kR∧T 0=eC l∧T 5=eC l∧T 6=gi l.length∧T 7=gi i) ?_ ?_
 ·exact ⟨rfl,rfl,rfl,rfl,rfl⟩
 rintro i k T H hk ⟨hi,h0,h5,h6,h7⟩
 simp (disch:=omega) only [↓wr,seval,wq,ah,ag,ak,aa,ab,af,ai,ae,xm,h0,h5,h6,h7,eC]
 refine av.dec (fun hc=>?_) (fun hc=>?_)
 ·have hg:l[i]?=some (l[i]'(by omega)):=T4 (by omega)
  rw[eM (show i < l.length by omega)] at hi
  generalize l[i]'(by omega)=t at hg hi
  rw[Vg] at hi
  have hbad:kR t=false→gb false=gb (sG l):=fun e=>by rw[e,VA] at hi; simp[sG,← hi]
  simp (disch:=omega) only [↓wr,seval,wq,ah,ag,ak,aa,ab,af,ai,ae,h0,h5,h6,h7,eC,cg,T8,hg]
  intro b hb
  repeat' (first | (refine av.dec (fun _=>?_) (fun _=>?_)) | (refine av.eq (fun _=>?_) (fun _=>?_)) | (refine av.ne (fun _=>?_) (fun _=>?_)) | (refine av.split (fun _=>?_) (fun _=>?_)) | (refine aE.pure (Ol t.name) (by kernel_rfl) ?_) | (refine aE.pure (rr _ _ _) (by kernel_rfl) ?_) | (simp (disch:=omega) only [↓wr,seval,wq,ah,ag,ak,aa,ab,af,ai,ae,h0,h5,h6,h7,eC]))
  all_goals first
   | (refine hbad ?_; simp[kR, *]; done)
   | (refine hbad ?_; simp_all [kR]; done)
   | skip
  rename_i e1 e2 e3 e4
  refine aN hk (by omega) ⟨?_,h0,h5,h6,rfl⟩
  have:kR t=true:=by
   simp only[Uh,Ul] at e2 e3
   have e4':((t.level == 0) == (t.assoc == 0))=true:=by simpa [bne] using e4
   simp[kR,e1,e2.1,e2.2,e3.1,e3.2,e4']
  rw[this,Vh] at hi
  exact hi
 ·rw[UB (by omega),List.all_nil] at hi
  simp (disch:=omega) only [↓wr,seval,wq,ah,ag,ak,aa,ab,af,ai,ae,h0,h5,h6,h7,eC]
  repeat' (first | (refine av.dec (fun _=>?_) (fun _=>?_)) | (refine av.eq (fun _=>?_) (fun _=>?_)) | (refine av.ne (fun _=>?_) (fun _=>?_)) | (refine av.split (fun _=>?_) (fun _=>?_)) | (refine aE.pure (Kk l hl2) (by kernel_rfl) ?_) | (simp (disch:=omega) only [↓wr,seval,wq,ah,ag,ak,aa,ab,af,ai,ae,h0,h5,h6,h7,eC]))
  ·rename_i h
   simp[sG,← hi,show l.length≤24 by omega]
  ·rename_i h
   simp[sG,← hi,show ¬ l.length≤24 by omega]
open Go Go.Proofs Go.Shelf Go.RowKit Go.Sort
attribute [local go_sem] Oper.semAt_some
def jQ:Ren where
 f:=fun
  | 6=>143
  | 8=>188
  | 9=>189
  | 11=>225
  | 13=>167
  | 12=>226
  | 23=>207
  | 24=>208
  | 14=>235
  | 15=>236
  | 16=>237
  | 17=>238
  | 18=>239
  | 19=>240
  | 20=>241
  | 21=>242
  | 22=>243
  | 25=>245
  | 26=>228
  | 27=>229
  | 28=>246
  | 29=>247
  | 30=>248
  | 31=>249
  | n=>n
 t:=fun
  | 26=>9
  | 28=>197
  | 24=>23
  | 0=>0
  | 3=>3
  | 37=>212
  | 48=>67
  | 50=>249
  | 4=>4
  | 40=>242
  | 39=>241
  | 45=>30
  | 5=>5
  | 9=>9
  | 51=>269
  | 55=>273
  | 57=>282
  | 58=>283
  | 33=>159
  | n=>n
 g:=fun n=>n
theorem Rb:Go.Proofs.SlLaysZ.n6 Tryz.prog jQ where
 mixed:=by kernel_rfl
 f6:=⟨Tryz.f143.name,by kernel_rfl,by kernel_rfl⟩
 f8:=⟨Tryz.f188.name,by kernel_rfl,by kernel_rfl⟩
 f11:=⟨Tryz.f225.name,by kernel_rfl,by kernel_rfl⟩
 t0:=Tryz.underlying0
 a0:=Tryz.isAgg0
 z0:=Tryz.sizeOf0
 v0:=Tryz.zeroValue0
 t24:=Tryz.underlying23
 a24:=Tryz.isAgg23
 z24:=Tryz.sizeOf23
 v24:=Tryz.zeroValue23
 t26:=Tryz.underlying9
 a26:=Tryz.isAgg9
 z26:=Tryz.sizeOf9
 v26:=Tryz.zeroValue9
 t28:=Tryz.underlying197
 a28:=Tryz.isAgg197
 z28:=Tryz.sizeOf197
 v28:=Tryz.zeroValue197
 i26:=by kernel_rfl
def Nc:Ren where
 f:=fun
  | 6=>189
  | 8=>167
  | 9=>226
  | 19=>207
  | 20=>208
  | 21=>235
  | 22=>236
  | 23=>237
  | 24=>238
  | 25=>239
  | 26=>240
  | 27=>241
  | 28=>242
  | 29=>243
  | 36=>245
  | 31=>228
  | 32=>229
  | 37=>246
  | 38=>247
  | 39=>248
  | 41=>249
  | n=>n
 t:=fun
  | 27=>23
  | 29=>9
  | 3=>3
  | 32=>212
  | 26=>23
  | 0=>0
  | 44=>67
  | 46=>249
  | 4=>4
  | 36=>242
  | 35=>241
  | 41=>30
  | 5=>5
  | 9=>9
  | 53=>269
  | 57=>273
  | 63=>282
  | 64=>283
  | n=>n
 g:=fun n=>n
theorem Qc:Go.Proofs.SlLaysM.n6 Tryz.prog Nc where
 mixed:=by kernel_rfl
 f6:=⟨Tryz.f189.name,by kernel_rfl,by kernel_rfl⟩
 f8:=by kernel_rfl
 f9:=⟨Tryz.f226.name,by kernel_rfl,by kernel_rfl⟩
 f19:=by kernel_rfl
 f20:=by kernel_rfl
 f21:=⟨Tryz.f235.name,by kernel_rfl,by kernel_rfl⟩
 f22:=⟨Tryz.f236.name,by kernel_rfl,by kernel_rfl⟩
 f23:=⟨Tryz.f237.name,by kernel_rfl,by kernel_rfl⟩
 f24:=⟨Tryz.f238.name,by kernel_rfl,by kernel_rfl⟩
 f25:=⟨Tryz.f239.name,by kernel_rfl,by kernel_rfl⟩
 f26:=⟨Tryz.f240.name,by kernel_rfl,by kernel_rfl⟩
 f27:=⟨Tryz.f241.name,by kernel_rfl,by kernel_rfl⟩
 f28:=⟨Tryz.f242.name,by kernel_rfl,by kernel_rfl⟩
 f29:=⟨Tryz.f243.name,by kernel_rfl,by kernel_rfl⟩
 f31:=by kernel_rfl
 f32:=by kernel_rfl
 f36:=⟨Tryz.f245.name,by kernel_rfl,by kernel_rfl⟩
 f37:=⟨Tryz.f246.name,by kernel_rfl,by kernel_rfl⟩
 f38:=⟨Tryz.f247.name,by kernel_rfl,by kernel_rfl⟩
 f39:=⟨Tryz.f248.name,by kernel_rfl,by kernel_rfl⟩
 f41:=⟨Tryz.f249.name,by kernel_rfl,by kernel_rfl⟩
 t0:=Tryz.underlying0
 a0:=Tryz.isAgg0
 z0:=Tryz.sizeOf0
 v0:=Tryz.zeroValue0
 t3:=Tryz.underlying3
 a3:=Tryz.isAgg3
 z3:=Tryz.sizeOf3
 v3:=Tryz.zeroValue3
 t4:=Tryz.underlying4
 a4:=Tryz.isAgg4
 z4:=Tryz.sizeOf4
 v4:=Tryz.zeroValue4
 t5:=Tryz.underlying5
 a5:=Tryz.isAgg5
 z5:=Tryz.sizeOf5
 v5:=Tryz.zeroValue5
 t9:=Tryz.underlying9
 a9:=Tryz.isAgg9
 z9:=Tryz.sizeOf9
 v9:=Tryz.zeroValue9
 t26:=Tryz.underlying23
 a26:=Tryz.isAgg23
 z26:=Tryz.sizeOf23
 v26:=Tryz.zeroValue23
 t27:=Tryz.underlying23
 a27:=Tryz.isAgg23
 z27:=Tryz.sizeOf23
 v27:=Tryz.zeroValue23
 t29:=Tryz.underlying9
 a29:=Tryz.isAgg9
 z29:=Tryz.sizeOf9
 v29:=Tryz.zeroValue9
 t32:=Tryz.underlying212
 a32:=Tryz.isAgg212
 z32:=Tryz.sizeOf212
 v32:=Tryz.zeroValue212
 t35:=Tryz.underlying241
 a35:=Tryz.isAgg241
 z35:=Tryz.sizeOf241
 v35:=Tryz.zeroValue241
 t36:=Tryz.underlying242
 a36:=Tryz.isAgg242
 z36:=Tryz.sizeOf242
 v36:=Tryz.zeroValue242
 t41:=Tryz.underlying30
 a41:=Tryz.isAgg30
 z41:=Tryz.sizeOf30
 v41:=Tryz.zeroValue30
 t44:=Tryz.underlying67
 a44:=Tryz.isAgg67
 z44:=Tryz.sizeOf67
 v44:=Tryz.zeroValue67
 t46:=Tryz.underlying249
 a46:=Tryz.isAgg249
 z46:=Tryz.sizeOf249
 v46:=Tryz.zeroValue249
 t53:=Tryz.underlying269
 a53:=Tryz.isAgg269
 z53:=Tryz.sizeOf269
 v53:=Tryz.zeroValue269
 t57:=Tryz.underlying273
 a57:=Tryz.isAgg273
 z57:=Tryz.sizeOf273
 v57:=Tryz.zeroValue273
 t63:=Tryz.underlying282
 a63:=Tryz.isAgg282
 z63:=Tryz.sizeOf282
 v63:=Tryz.zeroValue282
 t64:=Tryz.underlying283
 a64:=Tryz.isAgg283
 z64:=Tryz.sizeOf283
 v64:=Tryz.zeroValue283
def NJ:Ren where
 f:=fun
  | 44=>145
  | n=>n
 t:=fun
  | 25=>23
  | 26=>9
  | 3=>3
  | 4=>4
  | 0=>0
  | n=>n
 g:=fun n=>n
theorem P6:Go.Proofs.SlLaysN.n44 Tryz.prog NJ where
 mixed:=by kernel_rfl
 f44:=⟨Tryz.f145.name,by kernel_rfl,by kernel_rfl⟩
 t0:=Tryz.underlying0
 a0:=Tryz.isAgg0
 z0:=Tryz.sizeOf0
 v0:=Tryz.zeroValue0
 t3:=Tryz.underlying3
 a3:=Tryz.isAgg3
 z3:=Tryz.sizeOf3
 v3:=Tryz.zeroValue3
 t4:=Tryz.underlying4
 a4:=Tryz.isAgg4
 z4:=Tryz.sizeOf4
 v4:=Tryz.zeroValue4
 t25:=Tryz.underlying23
 a25:=Tryz.isAgg23
 z25:=Tryz.sizeOf23
 v25:=Tryz.zeroValue23
 t26:=Tryz.underlying9
 a26:=Tryz.isAgg9
 z26:=Tryz.sizeOf9
 v26:=Tryz.zeroValue9
 i26:=by kernel_rfl
def Cg (n:Nat) (P:Program) (g:Nat) (lb:Array Value) (S:List (List UInt8)→Prop) (N:Nat) (w:World):Prop :=
 ∀ (l:Nat) (J:List (List UInt8)→World→Prop) (W:World),(∀ pre W',J pre W'→Below w.heap.size w W') →
  (∀ pre x W1,J pre W1→pre.length < N→YieldAt Fence.wide (n - 1) P l #[encStr x] W1 fun e W'=>e=.returned (.bool true)∧J (pre ++ [x]) W'∧KeepsWalks W1 W') →
  J [] W→CallsIn Fence.wide n P g (#[.func (.yield l) #[] #[]] ++ lb) W fun e W'=>(∃ v,e=.returned v)∧∃ xs,S xs∧J xs W'
theorem MF {zs:List (List UInt8)} {k:Nat} (h:k < zs.length):zs.take k ++ [zs.getD k []]=zs.take (k+1):=by
 rw[Uw]; simp[T0,h]
set_option maxHeartbeats 2000000 in
theorem Ln (n:Nat) (hn:1≤n) (Bs b off cap:Nat) (zs:List (List UInt8)) (hreach:zs.length * 16≤140737488351232) (w:World)
  (hBs:w.cell? ⟨Bs,0,none⟩=some (.slice (some ⟨b,off,none⟩) zs.length cap)) (hBl:Bs < w.heap.size) (hbl:b < w.heap.size)
  (hc:∀ j,j < zs.length→w.cell? ⟨b,off+j,none⟩=some (encStr (zs.getD j []))) :
  Cg n Tryz.prog 190 #[.pointer (some ⟨Bs,0,none⟩)] (fun xs=>xs=zs) zs.length w:=by
 intro l J W hJ hY h0
 have hbw:=hJ _ _ h0
 have hBs':=(hbw.cell (p:=⟨Bs,0,none⟩) hBl).trans hBs
 have hf:Fence.wide.fn 190:=trivial
 refine callsIn_of_wp Tryz.func190 rfl hf ?_ rfl
 simp only[Tryz.ntmps190,Vt,Um,UG,Nat.reduceAdd,Nat.reduceSub,VE,VF,VW,VL,Vb,UI]
 gi_wp2
 gi_loopw [7] (fun i wr=>∃ k:Nat,k≤zs.length∧i=.int .i64 k∧J (zs.take k) wr) (fun i _=>zs.length - (RowKit.intOf i).toNat)
 case atStart=>exact ⟨0,Vu _,rfl,by simpa using h0⟩
 case round =>
  obtain ⟨k,hk,rfl,hJs⟩:=hrel
  have hnx:=hJ _ _ hJs
  have hcx:k < zs.length→wr.cell? ⟨b,off+k,none⟩=some (encStr (zs.getD k [])):=fun h=>(hnx.cell (p:=⟨b,off+k,none⟩) hbl).trans (hc k h)
  by_cases hlt:k < zs.length
  ·obtain ⟨x,hx1,hcx'⟩:∃ x,zs.take k ++ [x]=zs.take (k+1)∧wr.cell? ⟨b,off+k,none⟩=some (encStr x):=⟨_,MF hlt,hcx hlt⟩
   obtain ⟨fn,tmps,assign,body,hy,hR⟩:=hY _ x wr hJs (by simp; omega)
   clear hcx hJs
   gi_wp2
   refine hR.mono ?_
   rintro e W3 ⟨rfl,hJ3,hk3⟩
   gi_wp2
   go_roundw
   case rel=>exact ⟨k+1,by omega,by simp,by rw[← hx1]; exact hJ3⟩
   case measure=>simp[RowKit.intOf]; omega
  ·obtain rfl:k=zs.length:=by omega
   clear hcx
   gi_wp2
   go_end0
   exact ⟨⟨_,rfl⟩,_,rfl,by simpa using hJs⟩
set_option maxHeartbeats 2000000 in
theorem GZ (n:Nat) (hn:2≤n) (g:Nat) (lb:Array Value) (eg:∀ args w,(callFunc g args).run Tryz.prog w=.ok (.enter g args) w)
  (S:List (List UInt8)→Prop) (N:Nat) (hN:N≤maxLen) (hNb:N * 16≤140737488355328) (w:World) (hseq:Cg (n - 1) Tryz.prog g lb S N w) :
  CallsIn Fence.wide n Tryz.prog 225 #[.slice none 0 0,.func (.func g) #[] lb] w fun e w'=>∃ (v:Value) (ss:List (List UInt8)),e=.returned v∧S ss∧w'.ownsRow w.heap.size 9 1 v ss.length (ss.map encStr)∧Below w.heap.size w w':=by
 have h11:Fence.wide.fn 225:=trivial
 refine callsIn_of_wp_marks Tryz.func225 rfl h11 ?_ rfl
 simp only[Tryz.ntmps225,Vt,Um,UG,Nat.reduceAdd,Nat.reduceSub,VE,VF,VW,VL,Vb,UI]
 gi_wp2
 refine wpIn_rangeFunc ?_
 intro fn hfn
 let sv:Value:=.func (.func g) #[] lb
 have hz:(w.alloc (.cells #[.slice none 0 0] 23)).heap.size=w.heap.size+1:=by simp
 have hv0:=World.alloc_heap_new w (.cells #[.slice none 0 0] 23)
 have hb0:Below w.heap.size w (w.alloc (.cells #[.slice none 0 0] 23)):=(Below.refl _ w).alloc (Ug _) _
 revert hz hv0 hb0
 generalize w.alloc (.cells #[.slice none 0 0] 23)=W0
 intro hz hv0 hb0
 obtain ⟨W1,hW1⟩:∃ W1,(W0.alloc (.deferred (some []))).alloc (.loop (AnyZ.apRec jQ fn sv w.heap.size W0.heap.size .ready none))=W1:=⟨_,rfl⟩
 have hold:∀ k,k < W0.heap.size→W1.heap[k]?=W0.heap[k]?:=fun k hk=>by
  rw[← hW1]; exact (Below.heap_alloc _ _ k (by simp; omega)).trans (Below.heap_alloc _ _ k hk)
 have hb1:Below w.heap.size w W1:=by rw[← hW1]; exact (hb0.alloc (by omega) _).alloc (by simp; omega) _
 have hM:AnyZ.ApAt jQ w fn sv w.heap.size (W0.heap.size+1) W0.heap.size [] W1:=by
  refine ⟨⟨_,(hold w.heap.size (by omega)).trans hv0,⟨rfl,.inl ⟨rfl,rfl⟩⟩,by simp⟩,?_,?_,hb1⟩
  ·rw[← hW1]
   have h:=World.alloc_heap_new (W0.alloc (.deferred (some []))) (.loop (AnyZ.apRec jQ fn sv w.heap.size W0.heap.size .ready none))
   rwa [World.size_alloc] at h
  ·rw[← hW1]; exact (Below.heap_alloc _ _ _ (by simp)).trans (World.alloc_heap_new W0 _)
 refine ⟨W0.heap.size+1,[{ target:=.collected W0.heap.size,args:=#[] }],W1,{ target:=.fn (.func g) lb,args:=#[.func (.yield (W0.heap.size+1)) #[] #[]] },W1,g,
  #[.func (.yield (W0.heap.size+1)) #[] #[]] ++ lb,W1,by rw[← hW1]; exact run_enterLoop_outer _ _ _ _ _,?_,?_,?_,fun _=>by omega,?_⟩
 ·simp[resolve,go_sem]
 ·intro f' hf'; trivial
 ·simp[invoke,go_sem,eg]
 ·refine (hseq (W0.heap.size+1) (AnyZ.ApAt jQ w fn sv w.heap.size (W0.heap.size+1) W0.heap.size) W1 (fun _ _ h=>h.below)
   (fun pre x W hJ hl=>AnyZ.apYield { Rb with } Fence.wide (n - 1 - 1) w fn hfn _ w.heap.size (W0.heap.size+1) W0.heap.size (by omega) (by omega) (by omega) (Ug _) (by omega) N hN hNb pre x W hJ hl) hM).mono ?_
  rintro e W2 ⟨⟨v0,rfl⟩,ss,hS,h2⟩
  obtain ⟨v,hv,hrow,_⟩:=h2.box
  have hend:=run_endLoop (P:=Tryz.prog) h2.L (by simp[AnyZ.apRec])
  have hne:∀ (cur:Array Value),Obj.cells #[v] 23 (0,0)≠.cells cur 9 (0,0):=fun cur e=>by cases e
  obtain ⟨W3,hW3⟩:∃ W3,W2.putObj (W0.heap.size+1) (.loop { AnyZ.apRec jQ fn sv w.heap.size W0.heap.size .ready none with state:=.exhausted })=W3:=⟨_,rfl⟩
  have hg3:W2.grownBy W3 (some (W0.heap.size+1)):=by rw[← hW3]; exact grownBy_putObj_a _ _ _
  have hv3:W3.heap[w.heap.size]?=some (.cells #[v] 23 (0,0)):=by rw[← hW3]; exact (World.putObj_heap_other (by omega)).trans hv
  have hK3:W3.heap[W0.heap.size]?=some (.deferred (some [])):=by rw[← hW3]; exact (World.putObj_heap_other (by omega)).trans h2.K
  have hrow3:=hrow.kept hg3 (ownsRow_ne_a hrow h2.L (fun cur e=>by cases e))
  have hb3:Below w.heap.size w W3:=h2.below.grown hg3 h2.below.size (fun k e=>by cases e; omega)
  obtain ⟨hc3,hf3⟩:=cell_of_box_a hv3
  refine ⟨none,W3,by rw[← hW3]; exact hend,?_⟩
  clear hW3 hW1 hold hM hend hseq
  gi_wp2
  rw[← hz]
  refine ⟨by simp,.inl ⟨_,_,rfl,run_takeDeferred hK3,?_⟩⟩
  exact ⟨_,results_tmp rfl _ _ _,v,ss,rfl,hS,hrow3.kept (grownBy_putObj_a _ _ _) (ownsRow_ne_a hrow3 hK3 (fun cur e=>by cases e)),hb3.grown (grownBy_putObj_a _ _ _) hb3.size (fun k e=>by cases e; omega)⟩
set_option maxHeartbeats 2000000 in
theorem N4 (n:Nat) (hn:4≤n) (g:Nat) (lb:Array Value) (eg:∀ args w,(callFunc g args).run Tryz.prog w=.ok (.enter g args) w)
  (S:List (List UInt8)→Prop) (N:Nat) (hN:N≤maxLen) (hNb:N * 16≤140737488355328) (w:World) (hseq:Cg (n - 1 - 1 - 1) Tryz.prog g lb S N w) (hS:∀ xs,S xs→xs.length < 4611686018427387904) :
  CallsIn Fence.wide n Tryz.prog 143 #[.func (.func g) #[] lb] w fun e w'=>∃ (v:Value) (ss:List (List UInt8)),e=.returned v∧S ss ∧
   w'.ownsRow w.heap.size 9 1 v ss.length ((ss.mergeSort (fun x y=>decide (x≤y))).map encStr)∧Below w.heap.size w w':=by
 have h6:Fence.wide.fn 143:=trivial
 have h8:Fence.wide.fn 188:=trivial
 have h9:Fence.wide.fn 189:=trivial
 have h11:Fence.wide.fn 225:=trivial
 have h1:1≤n - 1:=by omega
 have h1':1≤n:=by omega
 have hcol:CallsIn Fence.wide (n - 1) Tryz.prog 188 #[.func (.func g) #[] lb] w fun e w'=>∃ (v:Value) (ss:List (List UInt8)),e=.returned v∧S ss∧w'.ownsRow w.heap.size 9 1 v ss.length (ss.map encStr)∧Below w.heap.size w w':=by
  have happ:=GZ (n - 1 - 1) (by omega) g lb eg S N hN hNb w hseq
  refine callsIn_of_wp Tryz.func188 rfl h8 ?_ rfl
  simp only[Tryz.ntmps188,Vt,Um,UG,Nat.reduceAdd,Nat.reduceSub,VE,VF,VW,VL,Vb,UI]
  gi_wp2_with (gi_at_call 225; refine happ.mono ?_; rintro e w' ⟨v,ss,rfl,hS,hrow,hb⟩)
  go_ret
  exact ⟨v,ss,rfl,hS,hrow,hb⟩
 refine callsIn_of_wp Tryz.func143 rfl h6 ?_ rfl
 simp only[Tryz.ntmps143,Vt,Um,UG,Nat.reduceAdd,Nat.reduceSub,VE,VF,VW,VL,Vb,UI]
 gi_wp2_with (gi_at_call 188; refine hcol.mono ?_; rintro e W ⟨v,ss,rfl,hSs,hrow,hb⟩)
 have hlen:=hS ss hSs
 rcases hrow.2 with ⟨rfl,hz⟩ | ⟨gb,cap,cur,rfl,hbase,hgb,r1,r2,r3,r4⟩
 ·have hss:ss=[]:=List.eq_nil_of_length_eq_zero hz
  subst hss
  have cN:CallsIn Fence.wide (n - 1) Tryz.prog 189 #[.slice none 0 0] W fun e w'=>e=.returned (.tuple #[])∧w'=W:=callsIn_wide.2 (AnyM.slices_Sort_string_none Qc none 0 W)
  gi_wp2_with (gi_at_call 189; refine cN.mono ?_; rintro e w' ⟨rfl,rfl⟩)
  go_ret
  exact ⟨.slice none 0 0,[],rfl,hSs,by simpa using hrow,hb⟩
 ·have hH:Holds encStr W gb 0 ss.toArray:=holds_of_block hgb (by simpa using r4)
  have hgl:gb < W.heap.size:=(Array.getElem?_eq_some_iff.1 hgb).1
  have cS:CallsIn Fence.wide (n - 1) Tryz.prog 189 #[.slice (some ⟨gb,0,none⟩) ss.length cap] W fun e w'=>e=.returned (.tuple #[])∧∃ k os,w'=grow (putRow encStr (Sort.ahead W k) gb 0 (ss.mergeSort fun x y=>decide (x≤y)).toArray) os :=
   callsIn_wide.2 (AnyM.slices_Sort_string Qc gb 0 cap ss W hH hgl hlen)
  gi_wp2_with (gi_at_call 189; refine cS.mono ?_; rintro e w' ⟨rfl,nn,os,rfl⟩)
  go_ret
  exact ⟨_,ss,rfl,hSs,ownsRow_sorted (by simp) hbase hgb r1 r2 r3,hb.grown (grownBy_sorted _) hb.size (fun j hj=>by cases hj; exact hbase)⟩
open Go Go.Proofs Go.Shelf Go.RowKit Go.Sort
theorem HX {l:List (List UInt8)} (hs:l.Pairwise (fun a b=>decide (a≤b)=true)) (h:∀ j,j+1 < l.length→l.getD (j+1) []≠l.getD j []):l.Nodup:=by
 induction l with
 | nil=>exact List.nodup_nil
 | cons x r ih =>
  rw[Vi] at hs
  refine U1.2 ⟨fun hx=>?_,ih hs.2 fun j hj=>by simpa using h (j+1) (by simpa using hj)⟩
  cases r with
  | nil=>simp at hx
  | cons y r =>
   have h0:=h 0 (by simp)
   simp only[VK,Ve,U3] at h0
   rcases Uk.1 hx with e | hm
   ·exact h0 e.symm
   ·have h1:x≤y:=by simpa using hs.1 y (by simp)
    have h2:y≤x:=by simpa using (Vi.1 hs.2).1 x hm
    exact h0 (List.le_antisymm h2 h1)
theorem L1 (l:List (List UInt8)):(Lib.compact l).length=l.length↔∀ j,j+1 < l.length→l.getD (j+1) []≠l.getD j []:=by
 have hl:(Lib.compact l).length=((List.range l.length).filter (Lib.keeps l.toArray)).length:=by simp[Lib.compact,Lib.compactUpTo]
 rw[hl]
 have hr:(List.range l.length).length=l.length:=by simp
 conv=>lhs; rhs; rw[← hr]
 rw[List.length_filter_eq_length_iff]
 have hg:∀ j,j < l.length→l.toArray[j]! = l.getD j []:=fun j hj=>by simp[T0,hj]
 constructor
 ·intro h j hj
  have:=h (j+1) (by simpa using hj)
  simp only[Lib.keeps,Ul,Nat.add_sub_cancel] at this
  rcases this with e | e
  ·omega
  ·rw[hg _ hj,hg _ (by omega)] at e; exact e
 ·intro h j hj
  simp only[UR] at hj
  simp only[Lib.keeps,Ul]
  by_cases e:j=0
  ·exact .inl e
  ·right
   obtain ⟨k,rfl⟩:∃ k,j=k+1:=⟨j - 1,by omega⟩
   rw[hg _ hj,Nat.add_sub_cancel,hg _ (by omega)]
   exact h k hj
theorem CI (zs:List (List UInt8)):(Lib.compact (zs.mergeSort fun x y=>decide (x≤y))).length=zs.length↔zs.Nodup:=by
 have hp:=List.mergeSort_perm zs (fun x y=>decide (x≤y))
 have hs:=List.pairwise_mergeSort (le:=fun x y:List UInt8=>decide (x≤y)) (fun a b c h k=>by simp at h k ⊢; exact List.le_trans h k) (fun a b=>by simpa using List.le_total a b) zs
 rw[← hp.nodup_iff,← hp.length_eq,L1]
 constructor
 ·exact HX hs
 ·intro hn j hj e
  have h1:(zs.mergeSort fun x y=>decide (x≤y))[j+1]'hj=(zs.mergeSort fun x y=>decide (x≤y))[j]'(by omega):=by
   simp only[T0,T4 hj,T4 (show j < (zs.mergeSort fun x y=>decide (x≤y)).length by omega),Un] at e
   exact e
  have:=(List.getElem_inj hn).1 h1
  omega
theorem Pp (w:World):grow w #[]=w:=by simp[grow]
set_option maxHeartbeats 2000000 in
theorem Ii (n:Nat) (hn:1≤n) (Bs cap:Nat) (a:Option Addr) (w:World) (hBs:w.cell? ⟨Bs,0,none⟩=some (.slice a 0 cap)) (hBl:Bs < w.heap.size) :
  Cg n Tryz.prog 190 #[.pointer (some ⟨Bs,0,none⟩)] (fun xs=>xs=[]) 0 w:=by
 intro l J W hJ hY h0
 have hbw:=hJ _ _ h0
 have hBs':=(hbw.cell (p:=⟨Bs,0,none⟩) hBl).trans hBs
 have hf:Fence.wide.fn 190:=trivial
 refine callsIn_of_wp Tryz.func190 rfl hf ?_ rfl
 simp only[Tryz.ntmps190,Vt,Um,UG,Nat.reduceAdd,Nat.reduceSub,VE,VF,VW,VL,Vb,UI]
 gi_wp2
 gi_loopw [7] (fun i wr=>i=.int .i64 0∧J [] wr) (fun _ _=>0)
 case atStart=>exact ⟨rfl,h0⟩
 case round =>
  obtain ⟨rfl,hJs⟩:=hrel
  gi_wp2
  go_end0
  exact ⟨⟨_,rfl⟩,_,rfl,hJs⟩
set_option maxHeartbeats 2000000 in
theorem KW (n:Nat) (a:Option Addr) (len cap:Nat) (w:World) :
  CallsIn Fence.wide n Tryz.prog 144 #[.slice a len cap] w fun e w'=>e=.returned (.func (.func 190) #[] #[.pointer (some ⟨w.heap.size,0,none⟩)])∧w'=w.alloc (.cells #[.slice a len cap] 23):=by
 have hf:Fence.wide.fn 144:=trivial
 refine callsIn_of_wp Tryz.func144 rfl hf ?_ rfl
 simp only[Tryz.ntmps144,Vt,Um,UG,Nat.reduceAdd,Nat.reduceSub,VE,VF,VW,VL,Vb,UI]
 gi_wp2
 go_ret
 exact ⟨rfl,rfl⟩
set_option maxHeartbeats 4000000 in
theorem z7 (a:Option Addr) (cap:Nat) (zs:List (List UInt8)) (hz:zs.length≤1000) (w:World)
  (hseq:∀ n Bs,1≤n→w.heap.size=Bs→Cg n Tryz.prog 190 #[.pointer (some ⟨Bs,0,none⟩)] (fun xs=>xs=zs) zs.length (w.alloc (.cells #[.slice a zs.length cap] 23))) :
  Calls Tryz.prog 99 #[.slice a zs.length cap] w fun e w'=>e=.returned (.bool (decide zs.Nodup))∧Below w.heap.size w w':=by
 refine (callsIn_wide (n:=7)).1 ?_
 have hf:Fence.wide.fn 99:=trivial
 have hfv:Fence.wide.fn 144:=trivial
 have hfs:Fence.wide.fn 143:=trivial
 have hfc:Fence.wide.fn 145:=trivial
 have eg:=enters_of Tryz.func190 (by kernel_rfl) rfl
 have cV:=KW 6 a zs.length cap w
 have cS:=N4 6 (by omega) 190 #[.pointer (some ⟨w.heap.size,0,none⟩)] eg _ zs.length (by unfold maxLen; omega) (by omega) (w.alloc (.cells #[.slice a zs.length cap] 23)) (hseq _ _ (by omega) rfl) (fun xs e=>by subst e; omega)
 refine callsIn_of_wp Tryz.func99 rfl hf ?_ rfl
 simp only[Tryz.ntmps99,Vt,Um,UG,Nat.reduceAdd,Nat.reduceSub,VE,VF,VW,VL,Vb,UI]
 clear hseq
 gi_wp2_with (first
  | (gi_at_call 144; refine cV.mono ?_; rintro e w' ⟨rfl,rfl⟩)
  | (gi_at_call 143; refine cS.mono ?_; rintro e W ⟨v,ss,rfl,rfl,hrow,hb⟩)
  | fail)
 have hsz:(ss.mergeSort fun x y=>decide (x≤y)).length=ss.length:=by simp
 have hBw:Below w.heap.size w W:=((Below.refl _ w).alloc (Ug _) _).trans (hb.mono (by simp))
 rcases hrow.2 with ⟨rfl,h0⟩ | ⟨gb,cap',cur,rfl,hbase,hgb,r1,r2,r3,r4⟩
 ·have hss:ss=[]:=List.eq_nil_of_length_eq_zero h0
  subst hss
  have cC:CallsIn Fence.wide 6 Tryz.prog 145 #[.slice none 0 0] W fun e w'=>e=.returned (.slice none 0 0)∧w'=W:=callsIn_wide.2 (AnyG.slices_Compact_string_empty P6 none 0 W)
  clear cS cV hrow
  gi_wp2_with (gi_at_call 145; refine cC.mono ?_; rintro e w' ⟨rfl,rfl⟩)
  go_ret
  exact ⟨rfl,hBw⟩
 ·have hH:Holds encStr W gb 0 (ss.mergeSort fun x y=>decide (x≤y)).toArray:=holds_of_block hgb (by simpa using r4)
  have hgl:gb < W.heap.size:=(Array.getElem?_eq_some_iff.1 hgb).1
  have cC:CallsIn Fence.wide 6 Tryz.prog 145 #[.slice (some ⟨gb,0,none⟩) ss.length cap'] W fun e w'=>∃ m:Nat,e=.returned (.slice (some ⟨gb,0,none⟩) m cap')∧((m=ss.length)↔ss.Nodup)∧Below w.heap.size w w':=by
   have:=AnyG.slices_Compact_string P6 gb 0 cap' (ss.mergeSort fun x y=>decide (x≤y)) W hH (by rw[hsz]; omega) (by rw[hsz]; omega)
   rw[hsz] at this
   refine callsIn_wide.2 (this.mono ?_)
   rintro e w' ⟨rfl,q,rfl⟩
   refine ⟨_,rfl,CI ss,?_⟩
   have hg:=grownBy_sorted (w:=W) (g:=gb) (n:=q) (os:=#[]) (Lib.compact (ss.mergeSort fun x y=>decide (x≤y)) ++ List.replicate (ss.length - (Lib.compact (ss.mergeSort fun x y=>decide (x≤y))).length) []).toArray
   rw[Pp] at hg
   exact hBw.grown hg hBw.size (fun j e=>by cases e; have h:=hbase; rw[World.size_alloc] at h; omega)
  clear cS cV hrow hH
  gi_wp2_with (gi_at_call 145; refine cC.mono ?_; rintro e w' ⟨m,rfl,hm,hb'⟩)
  go_ret
  refine ⟨?_,hb'⟩
  show Ending.returned (.bool ((m:Int) == (ss.length:Int)))=_
  have:((m:Int) == (ss.length:Int))=decide ss.Nodup:=by
   rw[Vc]
   simp only[Va,Ul,← hm]
   omega
  rw[this]
theorem HC (s:ByteArray):encStr s.data.toList=.string s:=by
 cases s; simp[encStr]
def names (l:List ByteArray):List (List UInt8):=l.map fun s=>s.data.toList
theorem IC {Z:Nat→Prop} {μ:Mu} {hp:Array Obj} {es:List (List V)} {x:Value} (h:aF Z μ hp (.aL es) x) :
  (es=[]∧∃ a cap,x=.slice a 0 cap∧(a=none→cap=0))∨(∃ b off esz cap,∃ c:Nat→Nat→Value,x=.slice (some ⟨b,off,none⟩) es.length cap∧Z b∧es.length≤cap ∧
   (∀ i,i < es.length→(es.getD i []).length=esz)∧(∀ i j,i < es.length→j < esz→cellAt hp b (off+i * esz+j)=some (c i j)) ∧
   (∀ i j,i < es.length→j < esz→aF Z μ hp ((es.getD i []).getD j .any) (c i j))):=by
 cases h with
 | im a cap hz=>exact .inl ⟨rfl,a,cap,rfl,hz⟩
 | aL _ b off esz cap c h1 h2 h3 h4 h5=>exact .inr ⟨b,off,esz,cap,c,rfl,h1,h2,h3,h4,h5⟩
theorem PK (l:List ByteArray) (hl:l.length≤1000):aG Tryz.prog 99 [encS l] (gb (decide (names l).Nodup)):=by
 intro Z μ w xs hrel hzl
 obtain ⟨hlen,hx⟩:=hrel
 obtain ⟨x,rfl⟩:∃ x,xs=[x]:=by
  match xs,hlen with
  | [x],_=>exact ⟨x,rfl⟩
 have h0:aF Z μ w.heap (encS l) x:=hx 0 (by simp)
 have hnl:(names l).length=l.length:=by simp[names]
 have fin:∀ e w',(e=Ending.returned (.bool (decide (names l).Nodup))∧RowKit.Below w.heap.size w w')→∃ x Z',e=.returned x∧(∀ ν,aF Z' ν w'.heap (gb (decide (names l).Nodup)) x)∧eE w w'∧(∀ b,Z b→Z' b)∧(∀ b,Z' b→Z b∨(w.heap.size≤b∧b < w'.heap.size))∧fV w.heap w'.heap (fun _=>False):=by
  rintro e w' ⟨rfl,hb⟩
  exact ⟨_,Z,rfl,fun ν=>.val _ rfl,⟨hb.os,hb.tape,hb.output,hb.size⟩,fun _ h=>h,fun _ h=>.inl h,fun b hb' _=>hb.block b hb'⟩
 have box:∀ (v:Value),(w.alloc (.cells #[v] 23)).cell? ⟨w.heap.size,0,none⟩=some v:=fun v=>by
  have:=World.alloc_heap_new w (.cells #[v] 23)
  simp only[World.cell?,this]; rfl
 rcases IC h0 with ⟨he,a,cap,rfl,_⟩ | ⟨b,off,esz,cap,c,rfl,hz,hle,hes,hc,hv⟩
 ·have hl0:l=[]:=by simpa using he
  subst hl0
  refine (z7 a cap (names []) (by simp[names]) w (fun n Bs hn hB=>?_)).mono fin
  subst hB
  exact Ii n hn w.heap.size cap a _ (box _) (by simp)
 ·have hel:∀ i,(hi:i < l.length)→(l.map fun s=>[gs s]).getD i []=[gs l[i]]:=fun i hi=>by simp[T0,hi]
  have hcell:∀ i,(hi:i < l.length)→cellAt w.heap b (off+i)=some (.string l[i]):=fun i hi=>by
   have h1:=hes i (by simpa using hi)
   rw[hel i hi] at h1
   simp only[Um,UG] at h1
   subst h1
   have h2:=hc i 0 (by simpa using hi) (by omega)
   have h3:=hv i 0 (by simpa using hi) (by omega)
   rw[hel i hi] at h3
   simp only[Ve] at h3
   generalize c i 0=y at h2 h3
   cases h3
   simpa using h2
  have hlen2:(l.map fun s=>[gs s]).length=(names l).length:=by simp[names]
  rw[hlen2]
  refine (z7 (some ⟨b,off,none⟩) cap (names l) (by rw[hnl]; exact hl) w (fun n Bs hn hB=>?_)).mono fin
  subst hB
  have hbl:=hzl b hz
  refine Ln n hn w.heap.size b off cap (names l) (by rw[hnl]; omega) _ (box _) (by simp) (by simp; omega) (fun j hj=>?_)
  have hj':j < l.length:=by omega
  have e1:(w.alloc (.cells #[.slice (some ⟨b,off,none⟩) (names l).length cap] 23)).cell? ⟨b,off+j,none⟩=w.cell? ⟨b,off+j,none⟩:=by
   have:=Below.heap_alloc w (.cells #[.slice (some ⟨b,off,none⟩) (names l).length cap] 23) b hbl
   simp only[World.cell?,this]
  rw[e1,nq,hcell j hj']
  have e2:(names l).getD j []=l[j].data.toList:=by simp[names,T0,hj']
  rw[e2,HC]
theorem bW.im {P:Program} {f:FuncId} {h:aJ} (h1:bW P f [.emp 1] h (.emp 1) h) (h2:bW P f [.emp 2] h (.emp 2) h) (h3:bW P f [.dP] h (.emp 2) h):bW P f [.aL []] h (.emp 0) h:=by
 refine ⟨Ug _,fun Z μ F w xs hrel hr hfree=>?_⟩
 obtain ⟨hl,hv⟩:=hrel
 obtain ⟨x,rfl⟩:∃ x,xs=[x]:=by
  match xs,hl with
  | [x],_=>exact ⟨x,rfl⟩
 have h0:aF Z μ w.heap (.aL []) x:=hv 0 (by simp)
 have one:∀ v,aF Z μ w.heap v x→fU Z μ w.heap [v] [x]:=fun v h=>⟨rfl,fun i hi=>by
  simp at hi; subst hi; exact h⟩
 have weak:∀ k,bW P f [if k=3 then .dP else .emp k] h (if k=3 then .emp 2 else .emp k) h→aF Z μ w.heap (if k=3 then .dP else .emp k) x→Calls P f [x].toArray w fun e w'=>∃ x Z' μ',e=.returned x∧aF Z' μ' w'.heap (.emp 0) x∧gY Z' μ' w'.heap (cat h F)∧Ext Z μ w h.length Z' μ' w'∧(∀ id,id < h.length∨h.length≤id→μ' id=μ id):=by
  intro k hk hx
  refine (hk.2 Z μ F w [x] (one _ hx) hr hfree).mono ?_
  rintro e w' ⟨y,Z',μ',rfl,hy,rest⟩
  refine ⟨y,Z',μ',rfl,?_,rest⟩
  have:∀ k',aF Z' μ' w'.heap (.emp k') y→aF Z' μ' w'.heap (.emp 0) y:=fun k' h=>by
   cases h with | emp _ a _ _=>exact .emp 0 a (by simp) (by simp)
  split at hy <;> exact this _ hy
 rcases IC h0 with ⟨_,a,cap,rfl,hz⟩ | ⟨b,off,esz,cap,c,rfl,_,_,_⟩
 ·cases a with
  | none =>
   have:=hz rfl
   subst this
   exact weak 1 (by simpa using h1) (.emp 1 none (by simp) (by simp))
  | some a =>
   cases cap with
   | zero=>exact weak 2 (by simpa using h2) (.emp 2 (some a) (by simp) (by simp))
   | succ c=>exact weak 3 (by simpa using h3) (.dP a (c+1))
 ·cases cap with
  | zero=>exact weak 2 (by simpa using h2) (.emp 2 (some ⟨b,off,none⟩) (by simp) (by simp))
  | succ c=>exact weak 3 (by simpa using h3) (.dP ⟨b,off,none⟩ (c+1))
def yo (sz:Nat) (es:List (List V)) (H:View) (K:V→View→Prop):Prop :=
 (es=[]→∀ k,K (.emp k) H)∧(es≠[]→∀ n,H n=.dead→K (.sl n 0 es.length sz) (H.set n (.arr sz es)))
def du:SF:=⟨.seq (ao [((some 2),.op (.bP (.val (.emp 1))))]) <|
 .seq (.seq (ao [aj 3 0,((some 4),.op (.nil true 0 (.tmp 3) (.val (.emp 1))))]) <|
 .cond (.tmp 4) (.seq (ao [((some 2),.op (.bP (.val (.emp 1))))]) <|
 .ret) (.skip)) <|
 .seq (ao [((some 5),.op (.bP (.val (.emp 2)))),aj 6 0,((some 7),.op (.app 1 16 (.tmp 5) (.tmp 6))),aj 2 7]) <|
 .ret,
 [.tmp 2],8⟩
theorem dK:aU Tryz.prog 96 []=some du:=by kernel_rfl
def eu:SF:=⟨.seq (ao [((some 2),.op (.bP (.val (.emp 1))))]) <|
 .seq (.seq (ao [aj 3 0,((some 4),.op (.nil true 0 (.tmp 3) (.val (.emp 1))))]) <|
 .cond (.tmp 4) (.seq (ao [((some 2),.op (.bP (.val (.emp 1))))]) <|
 .ret) (.skip)) <|
 .seq (ao [((some 5),.op (.bP (.val (.emp 2)))),aj 6 0,((some 7),.op (.app 1 8 (.tmp 5) (.tmp 6))),aj 2 7]) <|
 .ret,
 [.tmp 2],8⟩
theorem eO:aU Tryz.prog 161 []=some eu:=by kernel_rfl
def cP:SF:=⟨.seq (ao [((some 2),.op (.bP (.val (.emp 1))))]) <|
 .seq (.seq (ao [aj 3 0,((some 4),.op (.nil true 0 (.tmp 3) (.val (.emp 1))))]) <|
 .cond (.tmp 4) (.seq (ao [((some 2),.op (.bP (.val (.emp 1))))]) <|
 .ret) (.skip)) <|
 .seq (ao [((some 5),.op (.bP (.val (.emp 2)))),aj 6 0,((some 7),.op (.app 3 32 (.tmp 5) (.tmp 6))),aj 2 7]) <|
 .ret,
 [.tmp 2],8⟩
theorem df:aU Tryz.prog 159 []=some cP:=by kernel_rfl
theorem aG.tree {P:Program} {f:FuncId} {vs:List V} {t:V} (hv:∀ v∈vs,Tree v) (ht:Tree t) (h:∀ H,aC P f vs H fun r _=>r=t):aG P f vs t :=
 aG.of hv ((h _).mono fun r H' e h' _=>by rw[e]; exact .tree _ ht)
theorem pV {H:View} : bX H .dP=some ([],[]):=id rfl
theorem iN {H:View} (sz bytes k:Nat) (K:V→View→Prop) (w:cE (H,K)):oA sz bytes (.emp k) [] H K w=K (.emp k) H:=propext Iff.rfl
theorem NK (l:List ByteArray) (hl:l.length≤100000) (H:View) (K:V→View→Prop) (hk:yo 1 (l.map fun s=>[gs s]) H K):aC Tryz.prog 96 [encS l] H K:=by
 cases l with
 | nil =>
  have hp:∀ v t,Tree v→Tree t→(∀ H,aC Tryz.prog 96 [v] H fun r _=>r=t)→aG Tryz.prog 96 [v] t:=fun v t hv ht h=>aG.tree (by intro x hx; simp at hx; subst hx; exact hv) ht h
  have h1:=hp (.emp 1) (.emp 1) (.emp 1) (.emp 1) (fun H=>by
   refine aC.of mixed dK ?_
   simp (disch:=omega) only [↓wr,seval,wq,ah,ag,ak,aa,ab,af,ai,ae,du])
  have h2:=hp (.emp 2) (.emp 2) (.emp 2) (.emp 2) (fun H=>by
   refine aC.of mixed dK ?_
   simp (disch:=omega) only [↓wr,seval,wq,ah,ag,ak,aa,ab,af,ai,ae,du,iN,VR])
  have h3:=hp .dP (.emp 2) .dP (.emp 2) (fun H=>by
   refine aC.of mixed dK ?_
   simp (disch:=omega) only [↓wr,seval,wq,ah,ag,ak,aa,ab,af,ai,ae,du,pV,iN,VR])
  refine ⟨by kernel_rfl,?_⟩
  rintro h rfl
  exact ⟨.emp 0,h,bW.im (bW.gg h1 h) (bW.gg h2 h) (bW.gg h3 h),.refl _,hk.1 rfl 0⟩
 | cons x r =>
  refine aC.of mixed dK ?_
  simp only[Um] at hl
  simp (disch:=omega) only [↓wr,seval,wq,ah,ag,ak,aa,ab,af,ai,ae,du,encS]
  refine ⟨?_,?_,?_⟩
  ·simp[List.all_map,encS,aX]
  ·unfold aK; simp; omega
  ·intro n hn
   have:=hk.2 (by simp) n hn
   simp (disch:=omega) only [↓wr,seval,wq,ah,ag,ak,aa,ab,af,ai,ae]
   simpa [cg] using this
theorem NG (l:List Int) (hl:l.length≤100000) (H:View) (K:V→View→Prop) (hk:yo 1 (l.map fun s=>[gi s]) H K):aC Tryz.prog 161 [encI l] H K:=by
 cases l with
 | nil =>
  have hp:∀ v t,Tree v→Tree t→(∀ H,aC Tryz.prog 161 [v] H fun r _=>r=t)→aG Tryz.prog 161 [v] t:=fun v t hv ht h=>aG.tree (by intro x hx; simp at hx; subst hx; exact hv) ht h
  have h1:=hp (.emp 1) (.emp 1) (.emp 1) (.emp 1) (fun H=>by
   refine aC.of mixed eO ?_
   simp (disch:=omega) only [↓wr,seval,wq,ah,ag,ak,aa,ab,af,ai,ae,eu])
  have h2:=hp (.emp 2) (.emp 2) (.emp 2) (.emp 2) (fun H=>by
   refine aC.of mixed eO ?_
   simp (disch:=omega) only [↓wr,seval,wq,ah,ag,ak,aa,ab,af,ai,ae,eu,iN,VR])
  have h3:=hp .dP (.emp 2) .dP (.emp 2) (fun H=>by
   refine aC.of mixed eO ?_
   simp (disch:=omega) only [↓wr,seval,wq,ah,ag,ak,aa,ab,af,ai,ae,eu,pV,iN,VR])
  refine ⟨by kernel_rfl,?_⟩
  rintro h rfl
  exact ⟨.emp 0,h,bW.im (bW.gg h1 h) (bW.gg h2 h) (bW.gg h3 h),.refl _,hk.1 rfl 0⟩
 | cons x r =>
  refine aC.of mixed eO ?_
  simp only[Um] at hl
  simp (disch:=omega) only [↓wr,seval,wq,ah,ag,ak,aa,ab,af,ai,ae,eu,encI]
  refine ⟨?_,?_,?_⟩
  ·simp[List.all_map,encI,aX]
  ·unfold aK; simp; omega
  ·intro n hn
   have:=hk.2 (by simp) n hn
   simp (disch:=omega) only [↓wr,seval,wq,ah,ag,ak,aa,ab,af,ai,ae]
   simpa [cg] using this
theorem Mh (l:List Term) (hl:l.length≤100000) (H:View) (K:V→View→Prop) (hk:yo 3 (l.map cg) H K):aC Tryz.prog 159 [eC l] H K:=by
 cases l with
 | nil =>
  have hp:∀ v t,Tree v→Tree t→(∀ H,aC Tryz.prog 159 [v] H fun r _=>r=t)→aG Tryz.prog 159 [v] t:=fun v t hv ht h=>aG.tree (by intro x hx; simp at hx; subst hx; exact hv) ht h
  have h1:=hp (.emp 1) (.emp 1) (.emp 1) (.emp 1) (fun H=>by
   refine aC.of mixed df ?_
   simp (disch:=omega) only [↓wr,seval,wq,ah,ag,ak,aa,ab,af,ai,ae,cP])
  have h2:=hp (.emp 2) (.emp 2) (.emp 2) (.emp 2) (fun H=>by
   refine aC.of mixed df ?_
   simp (disch:=omega) only [↓wr,seval,wq,ah,ag,ak,aa,ab,af,ai,ae,cP,iN,VR])
  have h3:=hp .dP (.emp 2) .dP (.emp 2) (fun H=>by
   refine aC.of mixed df ?_
   simp (disch:=omega) only [↓wr,seval,wq,ah,ag,ak,aa,ab,af,ai,ae,cP,pV,iN,VR])
  refine ⟨by kernel_rfl,?_⟩
  rintro h rfl
  exact ⟨.emp 0,h,bW.im (bW.gg h1 h) (bW.gg h2 h) (bW.gg h3 h),.refl _,hk.1 rfl 0⟩
 | cons x r =>
  refine aC.of mixed df ?_
  simp only[Um] at hl
  simp (disch:=omega) only [↓wr,seval,wq,ah,ag,ak,aa,ab,af,ai,ae,cP,eC,cg]
  refine ⟨?_,?_,?_⟩
  ·simp[List.all_map,eC,cg,aX]
  ·unfold aK; simp; omega
  ·intro n hn
   have:=hk.2 (by simp) n hn
   simp (disch:=omega) only [↓wr,seval,wq,ah,ag,ak,aa,ab,af,ai,ae]
   simpa [cg] using this
theorem yo.own {sz:Nat} {es:List (List V)} {H:View} : yo sz es H fun r H'=>bf H' r sz es∧dx H H' r :=
 ⟨fun he k=>⟨by rw[he]; exact .nil,.emp⟩,fun _ n hn=>⟨.new,.new hn⟩⟩
theorem Nb (l:List ByteArray) (hl:l.length≤100000) (H:View):aC Tryz.prog 96 [encS l] H fun r H'=>bf H' r 1 (l.map fun s=>[gs s])∧dx H H' r:=NK l hl H _ .own
theorem NX (l:List Int) (hl:l.length≤100000) (H:View):aC Tryz.prog 161 [encI l] H fun r H'=>bf H' r 1 (l.map fun s=>[gi s])∧dx H H' r:=NG l hl H _ .own
theorem N8 (l:List Term) (hl:l.length≤100000) (H:View):aC Tryz.prog 159 [eC l] H fun r H'=>bf H' r 3 (l.map cg)∧dx H H' r:=Mh l hl H _ .own
def lK (g:aw):List aW→Int→Bool
 | [],next=>next == g.ax.length
 | r :: l,next=>decide (0≤r.left) && decide (r.left≤next) && iA g r && lK g l (if r.left+1 > next then r.left+1 else next)
def sn (g:aw):List ByteArray:=g.ax ++ g.az.map Term.name
def qJ (g:aw):Bool :=
 sG g.az && (decide ((1:Int)≤g.ax.length) && decide ((g.ax.length:Int)≤16)) && (decide ((1:Int)≤g.rules.length) && decide ((g.rules.length:Int)≤40)) && decide (names (sn g)).Nodup && (decide (0≤g.start) && decide (g.start≤(g.ax.length:Int) - 1)) &&
  !(g.ax.any fun s=>!gx (fp s)) && lK g g.rules 0
theorem GG {l:List ByteArray} : ∀ e∈(l.map fun s=>[gs s]),∀ v∈e,Tree v:=by
 intro e he v hv
 obtain ⟨a,_,rfl⟩:=Ur.1 he
 rw[UT] at hv
 subst hv
 exact .val _
set_option maxHeartbeats 4000000 in
theorem Mt (g:aw) (hg:g.Ok) (hs:g.ax.length+g.az.length≤1000) (H:View):aC Tryz.prog 52 [.agg (au g)] H fun r _=>r=gb (qJ g):=by
 refine aC.of mixed C5 ?_
 have hn:=hg.ax
 have ht:=hg.az
 have hr:=hg.rules
 unfold aY at hn ht hr
 simp (disch:=omega) only [↓wr,seval,wq,ah,ag,ak,aa,ab,af,ai,ae,Ac,au,encS]
 refine aE.ez ((Nb g.ax (by omega) H).mono ?_)
 rintro u H1 ⟨hu,hf⟩
 simp (disch:=omega) only [↓wr,seval,wq,ah,ag,ak,aa,ab,af,ai,ae,au,encS]
 refine bc.up g.az.length (fun i T H=>T 1=.aO (au g) 0∧(∃ u,T 3=u∧bf H u 1 ((g.ax ++ (g.az.take i).map Term.name).map fun s=>[gs s]))∧T 13=eC g.az∧T 14=gi g.az.length∧T 15=gi i) ?_ ?_
 ·exact ⟨rfl,⟨u,rfl,by simpa using hu⟩,rfl,rfl,rfl⟩
 rintro i k T H' hk ⟨h1,⟨u,h3,hu⟩,h13,h14,h15⟩
 simp (disch:=omega) only [↓wr,seval,wq,ah,ag,ak,aa,ab,af,ai,ae,xl,h1,h13,h14,h15,eC]
 refine av.dec (fun hc=>?_) (fun hc=>?_)
 ·have hg2:g.az[i]?=some (g.az[i]'(by omega)):=T4 (by omega)
  have htk:(g.az.take (i+1)).map Term.name=(g.az.take i).map Term.name ++ [(g.az[i]'(by omega)).name]:=by
   rw[Uw,hg2,UA]; rfl
  generalize g.az[i]'(by omega)=t at hg2 htk
  simp (disch:=omega) only [↓wr,seval,wq,ah,ag,ak,aa,ab,af,ai,ae,h1,h3,h13,h14,h15,eC,cg,T8,hg2]
  intro b hb
  try simp (disch:=omega) only [↓wr,seval,wq,ah,ag,ak,aa,ab,af,ai,ae,h1,h3,h13,h14,h15,set_set]
  intro m hm
  have hmb:=(dq hm dc).1
  have hm:=(dq (dq hm dc).2 dc).2
  try simp (disch:=omega) only [↓wr,seval,wq,ah,ag,ak,aa,ab,af,ai,ae,h1,h3,h13,h14,h15,cb]
  have hl:((g.ax ++ (g.az.take i).map Term.name).map fun s=>[gs s]).length≤1000:=by simp; omega
  refine yV (((hu.fresh hb).other (hu.ne hb)).fresh (by simp[View.set,hm,hmb])) (by simp) (by simp[aX]) (by unfold aK; simp at hl ⊢; omega) (by unfold aK; simp at hl ⊢; omega) ?_
  intro u' H2 hu' _
  simp (disch:=omega) only [↓wr,seval,wq,ah,ag,ak,aa,ab,af,ai,ae,h1,h3,h13,h14,h15]
  refine aN hk (by omega) ⟨h1,⟨u',rfl,?_⟩,h13,h14,rfl⟩
  rw[htk]
  simpa using hu'
 ·rw[Uo (by omega)] at hu
  have hal:H'=H':=rfl
  have hall:(sn g).length≤1000:=by simp[sn]; omega
  repeat' (first | (refine av.dec (fun _=>?_) (fun _=>?_)) | (refine av.eq (fun _=>?_) (fun _=>?_)) | (refine av.ne (fun _=>?_) (fun _=>?_)) | (refine av.split (fun _=>?_) (fun _=>?_)) | (refine aE.pure (Mc g.az hg.az) (by kernel_rfl) ?_) | (refine aE.pure (rr _ _ _) (by kernel_rfl) ?_) | (refine aE.AD (PK (sn g) hall) (by kernel_rfl) (.val _) ⟨eA.own hu GG,trivial⟩ ?_) | (simp (disch:=omega) only [↓wr,seval,wq,ah,ag,ak,aa,ab,af,ai,ae,h1,h3,h13,h14,h15,au,encS]))
  all_goals try (simp[qJ, *]; done)
  rename_i e1 e2 e3 e4 e5
  refine aE.pure (Ae g.ax hg.ax 101 [] (by simp) (fun s=>!gx (fp s)) (fun x _=>K9 x) (by kernel_rfl)) (by kernel_rfl) ?_
  repeat' (first | (refine av.dec (fun _=>?_) (fun _=>?_)) | (refine av.eq (fun _=>?_) (fun _=>?_)) | (refine av.ne (fun _=>?_) (fun _=>?_)) | (refine av.split (fun _=>?_) (fun _=>?_)) | (simp (disch:=omega) only [↓wr,seval,wq,ah,ag,ak,aa,ab,af,ai,ae,h1,h3,h13,h14,h15,au,encS]))
  all_goals try (simp[qJ, *]; done)
  rename_i e6
  have hle:g.rules.length≤40:=by simp at e3; omega
  have hpre:∀ b,lK g g.rules 0=b→gb b=gb (qJ g):=fun b e=>by
   simp only[qJ,e1,e2,e3,e4,e5,e6,e,decide_true,Vh,Bool.not_false]
  refine bc.up g.rules.length (fun i T _=>∃ w:Int,0≤w∧w≤i∧lK g (g.rules.drop i) w=lK g g.rules 0∧T 1=.aO (au g) 0∧T 6=gi w∧T 62=.aL (g.rules.map aP)∧T 63=gi g.rules.length∧T 64=gi i) ?_ ?_
  ·exact ⟨0,by omega,by omega,rfl,h1,rfl,rfl,rfl,rfl⟩
  rintro i k T H' hk ⟨w,hw1,hw2,hi,h1,h6,h62,h63,h64⟩
  simp (disch:=omega) only [↓wr,seval,wq,ah,ag,ak,aa,ab,af,ai,ae,w8,h1,h6,h62,h63,h64,au]
  refine av.dec (fun hc=>?_) (fun hc=>?_)
  ·have hg2:g.rules[i]?=some (g.rules[i]'(by omega)):=T4 (by omega)
   rw[eM (show i < g.rules.length by omega)] at hi
   have hmem:g.rules[i]'(by omega)∈g.rules:=Ud _
   generalize g.rules[i]'(by omega)=t at hg2 hi hmem
   obtain ⟨⟨hl1,hl2⟩,hp,hr1,hr2⟩:=hg.aH t hmem
   simp only[lK] at hi
   simp (disch:=omega) only [↓wr,seval,wq,ah,ag,ak,aa,ab,af,ai,ae,h1,h6,h62,h63,h64,aP,encI,T8,hg2]
   intro b hb
   repeat' (first | (refine av.dec (fun _=>?_) (fun _=>?_)) | (refine av.eq (fun _=>?_) (fun _=>?_)) | (refine av.ne (fun _=>?_) (fun _=>?_)) | (refine av.split (fun _=>?_) (fun _=>?_)) | (refine aE.pure (rr _ _ _) (by kernel_rfl) ?_) | (refine aE.pure (PR g t hg ⟨hr1,hr2⟩) (by kernel_rfl) ?_) | (simp (disch:=omega) only [↓wr,seval,wq,ah,ag,ak,aa,ab,af,ai,ae,h1,h6,h62,h63,h64,au,aP,encI,encS,set_set]))
   ·rename_i e7 e8
    have e7':0≤t.left∧t.left≤w:=by simpa using e7
    rw[e7,e8,Vh,Vh] at hi
    have hw:IntKind.wrap .i64 (t.left+1)=t.left+1:=wrap64 (by omega) (by omega)
    refine aN hk (by omega) ⟨_,by split <;> omega,by split <;> (push_cast; omega),hi,h1,?_,h62,h63,rfl⟩
    show gi (if IntKind.wrap .i64 (t.left+1) > w then IntKind.wrap .i64 (t.left+1) else w)=_
    rw[hw]
   ·rename_i e7 e8
    rw[e8,Bool.and_false,VA] at hi
    exact hpre _ hi.symm
   ·rename_i e7
    rw[e7,VA,VA] at hi
    exact hpre _ hi.symm
  ·rw[UB (by omega)] at hi
   simp only[lK] at hi
   simp (disch:=omega) only [↓wr,seval,wq,ah,ag,ak,aa,ab,af,ai,ae,h1,h6,h62,h63,h64,au,encS]
   exact hpre _ hi.symm
theorem KC (g:aw) (hg:g.Ok) (hs:g.ax.length+g.az.length≤1000):aG Tryz.prog 52 [.agg (au g)] (gb (qJ g)):=aG.val (ef g) (Mt g hg hs)
theorem Gi (g:aw):∀ (l:List aW) (next:Int),lK g l next=gV g l (next - 1)
 | [],next=>by
  simp only[lK,gV]
  rw[Vc]; simp
 | r :: l,next=>by
  simp only[lK,gV,Gi g l]
  have e1:(if r.left+1 > next then r.left+1 else next) - 1=if r.left > next - 1 then r.left else next - 1:=by
   split <;> split <;> omega
  have e2:next - 1+1=next:=by omega
  rw[e1,e2]
theorem xM (s:ByteArray):∀ (l:List ByteArray) (i:Int),0≤i→(nP s l i < 0∧s ∉ l)∨∃ k:Nat,nP s l i=i+k∧l[k]?=some s∧∀ j < k,l[j]?≠some s
 | [],i,h=>.inl ⟨by simp[nP],by simp⟩
 | x :: l,i,h=>by
  have hx:iP x s=true↔x=s:=by
   unfold iP
   rw[Va]
   constructor
   ·intro e; cases x; cases s; simp at e; simp[e]
   ·rintro rfl; rfl
  simp only[nP]
  by_cases e:x=s
  ·rw[T9 (hx.2 e)]
   exact .inr ⟨0,by simp,by simp[e],by simp⟩
  ·rw[T6 (fun h=>e (hx.1 h))]
   rcases xM s l (i+1) (by omega) with ⟨h1,h2⟩ | ⟨k,h1,h2,h3⟩
   ·exact .inl ⟨h1,by simp[h2,Ne.symm e]⟩
   ·refine .inr ⟨k+1,by rw[h1]; push_cast; omega,by simpa using h2,fun j hj=>?_⟩
    cases j with
    | zero=>simp[e]
    | succ j=>simpa using h3 j (by omega)
theorem td (l:List ByteArray):(∀ (k:Nat) (s:ByteArray),l[k]?=some s→nP s l 0=k)↔l.Nodup:=by
 constructor
 ·intro h
  rw[VP,List.pairwise_iff_getElem]
  intro i j hi hj hij e
  have h1:=h i l[i] (by simp[hi])
  have h2:=h j l[j] (by simp[hj])
  rw[e] at h1
  omega
 ·intro hn k s hk
  rcases xM s l 0 (by omega) with ⟨_,h2⟩ | ⟨j,h1,h2,h3⟩
  ·exact absurd (Ub hk) h2
  ·have hj:j < l.length:=by
    rcases Uv j l.length with h | h
    ·exact h
    ·simp[UF h] at h2
   have hk':k < l.length:=by
    rcases Uv k l.length with h | h
    ·exact h
    ·simp[UF h] at hk
   have:j=k:=(List.getElem_inj hn).1 (by
    rw[T4 hj] at h2; rw[T4 hk'] at hk
    simp at h2 hk; rw[h2,hk])
   rw[h1,this]; simp
theorem bytes_inj {a b:ByteArray} : a.data.toList=b.data.toList↔a=b:=by
 constructor
 ·intro h; cases a; cases b; simp at h; simp[h]
 ·rintro rfl; rfl
theorem NR {l:List ByteArray} : (names l).Nodup↔l.Nodup:=by
 unfold names
 rw[VP,VX,VP]
 constructor
 ·exact fun h=>h.imp fun h e=>h (bytes_inj.2 e)
 ·exact fun h=>h.imp fun h e=>h (bytes_inj.1 e)
theorem mP {α:Type} [BEq α] [LawfulBEq α]:∀ (l m:List α),l.Nodup→(∀ x∈l,x∈m)→l.length≤m.length
 | [],m,_,_=>by simp
 | x :: l,m,hn,hs=>by
  rw[U1] at hn
  have hx:x∈m:=hs x (by simp)
  have:=mP l (m.erase x) hn.2 (fun y hy=>by
   have hne:y≠x:=by rintro rfl; exact hn.1 hy
   exact (List.mem_erase_of_ne hne).2 (hs y (by simp[hy])))
  rw[List.length_erase_of_mem hx] at this
  have:0 < m.length:=List.length_pos_of_mem hx
  simp only[Um]
  omega
def lT (n:Nat):List Int:=(List.range n).map fun (k:Nat)=>(k:Int)+1
theorem vO {n:Nat} {x:Int} : x∈lT n↔1≤x∧x≤n:=by
 simp only[lT,Ur,UR]
 constructor
 ·rintro ⟨k,hk,rfl⟩; omega
 ·rintro ⟨h1,h2⟩; exact ⟨(x - 1).toNat,by omega,by omega⟩
theorem GN (n:Nat):(lT n).Nodup:=by
 rw[lT,VP,VX]
 exact (List.nodup_range (n:=n)).imp fun h e=>h (by omega)
theorem Qu {l:List Int} {n:Nat} (hn:l.Nodup) (hs:∀ x∈l,1≤x∧x≤n) (hl:l.length=n) {x:Int} (h1:1≤x) (h2:x≤n):x∈l:=by
 refine Vs fun hx=>?_
 have:=mP (x :: l) (lT n) (U1.2 ⟨hx,hn⟩) (fun y hy=>by
  rw[vO]
  rcases Uk.1 hy with rfl | hy
  ·exact ⟨h1,h2⟩
  ·exact hs y hy)
 simp[lT] at this
 omega
theorem vM (n:Int):∀ (l:List Term) (w:Int),w≠0→jg n l w=if (∀ t∈l,t.level=n→t.assoc=w) then some w else none
 | [],w,_=>by simp[jg]
 | t :: r,w,hw=>by
  simp only[jg]
  by_cases ht:t.level=n
  ·rw[T9 ht]
   by_cases ha:w=t.assoc
   ·rw[T6 (by simp[ha]),← ha,vM n r w hw]
    congr 1
    simp[ht,ha]
   ·rw[T9 ⟨hw,ha⟩,T6 (fun h=>ha (h t (by simp) ht).symm)]
  ·rw[T6 ht,vM n r w hw]
   congr 1
   simp[ht]
theorem BJ (n:Int):∀ (l:List Term),(∀ t∈l,t.level=n→t.assoc≠0)→(gT l n=true↔∃ a,(∃ t∈l,t.level=n)∧∀ t∈l,t.level=n→t.assoc=a)
 | [],_=>by simp[gT,jg]
 | t :: r,h=>by
  by_cases ht:t.level=n
  ·have ha:=h t (by simp) ht
   have e:gT (t :: r) n=match (if (∀ u∈r,u.level=n→u.assoc=t.assoc) then some t.assoc else none) with | some w=>w != 0 | none=>false:=by
    simp only[gT,jg]
    rw[T9 ht,T6 (by simp),vM n r _ ha]
    rfl
   rw[e]
   by_cases hr:∀ u∈r,u.level=n→u.assoc=t.assoc
   ·rw[T9 hr]
    simp only[bne_iff_ne,ne_eq,ha,not_false_eq_true,true_iff]
    refine ⟨t.assoc,⟨t,by simp,ht⟩,fun u hu hl=>?_⟩
    rcases Uk.1 hu with rfl | hu
    ·rfl
    ·exact hr u hu hl
   ·rw[T6 hr]
    simp only[Ut,false_iff]
    rintro ⟨a,_,h2⟩
    exact hr fun u hu hl=>(h2 u (by simp[hu]) hl).trans (h2 t (by simp) ht).symm
  ·have ih:=BJ n r (fun u hu=>h u (by simp[hu]))
   have e:gT (t :: r) n=gT r n:=by
    simp only[gT,jg,T6 ht]
   rw[e,ih]
   constructor
   ·rintro ⟨a,⟨u,hu,hl⟩,h2⟩
    refine ⟨a,⟨u,by simp[hu],hl⟩,fun v hv hl=>?_⟩
    rcases Uk.1 hv with rfl | hv
    ·exact absurd hl ht
    ·exact h2 v hv hl
   ·rintro ⟨a,⟨u,hu,hl⟩,h2⟩
    rcases Uk.1 hu with rfl | hu
    ·exact absurd hl ht
    ·exact ⟨a,⟨u,hu,hl⟩,fun v hv=>h2 v (by simp[hv])⟩
def ve (l:List Term):Prop:=∀ t∈l,∀ u∈l,t.level=u.level→t.level≠0→t.assoc=u.assoc
theorem G7 {κ β:Type} [BEq κ] [LawfulBEq κ] {k:κ} {v:β} : ∀ {a:List (κ × β)},(a.map (·.1)).Nodup→((jW k v a).map (·.1)).Nodup∧∀ x,x∈(jW k v a).map (·.1)↔x=k∨x∈a.map (·.1)
 | [],_=>by simp[jW]
 | y :: a,h=>by
  simp only[Uz,U1] at h
  obtain ⟨h1,h2⟩:=G7 (k:=k) (v:=v) h.2
  simp only[jW]
  by_cases e:k=y.1
  ·simp only[e,Vy,if_true,Uz,U1]
   refine ⟨h,fun x=>by simp[e]⟩
  ·have:(k == y.1)=false:=by simp[e]
   rw[this]
   simp only[Ut,if_false,Uz,U1,Uk]
   refine ⟨⟨fun hm=>?_,h1⟩,fun x=>?_⟩
   ·rcases (h2 _).1 hm with e' | hm
    ·exact e e'.symm
    ·exact h.1 hm
   ·rw[h2]
    constructor
    ·rintro (h | h | h) <;> simp[h]
    ·rintro (h | h | h) <;> simp[h]
theorem yM:∀ (l:List Term) (a:List (Int × Int)) (top:Int),(∀ t∈l,t.level≠0→t.assoc≠0)→(∀ n v,ej a n=some v→v≠0)→(a.map (·.1)).Nodup →
  match mB l a top with
  | some (a',top')=>ve l∧(∀ t∈l,∀ v,t.level≠0→ej a t.level=some v→t.assoc=v)∧(a'.map (·.1)).Nodup∧(∀ n,n∈a'.map (·.1)↔n∈a.map (·.1)∨(n≠0∧∃ t∈l,t.level=n)) ∧
    top≤top'∧(∀ t∈l,t.level≠0→t.level≤top')∧(top'=top∨∃ t∈l,t.level=top'∧t.level≠0)
  | none=>¬ (ve l∧∀ t∈l,∀ v,t.level≠0→ej a t.level=some v→t.assoc=v)
 | [],a,top,_,_,hn=>by
  simp only[mB]
  exact ⟨fun t ht=>by simp at ht,fun t ht=>by simp at ht,hn,fun n=>by simp,by omega,fun t ht=>by simp at ht,by simp⟩
 | t :: r,a,top,h0,hv,hn=>by
  have h0r:∀ u∈r,u.level≠0→u.assoc≠0:=fun u hu=>h0 u (by simp[hu])
  simp only[mB]
  by_cases ht:t.level=0
  ·rw[T9 ht]
   have ih:=yM r a top h0r hv hn
   have one:ve (t :: r)↔ve r:=by
    constructor
    ·exact fun h u hu w hw=>h u (by simp[hu]) w (by simp[hw])
    ·intro h u hu w hw e hz
     rcases Uk.1 hu with rfl | hu
     ·exact absurd ht hz
     ·rcases Uk.1 hw with rfl | hw
      ·exact absurd (e.trans ht) hz
      ·exact h u hu w hw e hz
   have con:(∀ u∈t :: r,∀ v,u.level≠0→ej a u.level=some v→u.assoc=v)↔∀ u∈r,∀ v,u.level≠0→ej a u.level=some v→u.assoc=v:=by
    simp[ht]
   have mem:∀ n,(n≠0∧∃ u∈t :: r,u.level=n)↔(n≠0∧∃ u∈r,u.level=n):=fun n=>by
    constructor
    ·rintro ⟨h1,u,hu,rfl⟩
     rcases Uk.1 hu with rfl | hu
     ·exact absurd ht h1
     ·exact ⟨h1,u,hu,rfl⟩
    ·rintro ⟨h1,u,hu,rfl⟩; exact ⟨h1,u,by simp[hu],rfl⟩
   cases hs:mB r a top with
   | none=>rw[hs] at ih; rw[one,con]; exact ih
   | some x =>
    obtain ⟨a',top'⟩:=x
    rw[hs] at ih
    obtain ⟨i1,i2,i3,i4,i5,i6,i7⟩:=ih
    refine ⟨one.2 i1,con.2 i2,i3,fun n=>by rw[i4,mem],i5,?_,?_⟩
    ·intro u hu hz
     rcases Uk.1 hu with rfl | hu
     ·exact absurd ht hz
     ·exact i6 u hu hz
    ·rcases i7 with h | ⟨u,hu,h⟩
     ·exact .inl h
     ·exact .inr ⟨u,by simp[hu],h⟩
  ·rw[T6 ht]
   have ha:=h0 t (by simp) ht
   by_cases hc:(ej a t.level).getD 0≠0∧(ej a t.level).getD 0≠t.assoc
   ·rw[T9 hc]
    simp only
    rintro ⟨_,h2⟩
    cases hp:ej a t.level with
    | none=>simp[hp] at hc
    | some v =>
     have:=h2 t (by simp) v ht hp
     simp[hp] at hc
     exact hc.2 this.symm
   ·rw[T6 hc]
    have hcon:∀ v,ej a t.level=some v→t.assoc=v:=fun v hp=>by
     have:=hv _ _ hp
     simp[hp] at hc
     exact (hc this).symm
    have hput:∀ n,ej (jW t.level t.assoc a) n=if n=t.level then some t.assoc else ej a n:=fun n=>by
     rw[GA]; simp
    have hk:=G7 (k:=t.level) (v:=t.assoc) hn
    have ih:=yM r (jW t.level t.assoc a) (if t.level > top then t.level else top) h0r (fun n v hp=>by
     rw[hput] at hp
     split at hp
     ·simp at hp; rw[← hp]; exact ha
     ·exact hv n v hp) hk.1
    have both:(ve (t :: r)∧∀ u∈t :: r,∀ v,u.level≠0→ej a u.level=some v→u.assoc=v)↔(ve r∧∀ u∈r,∀ v,u.level≠0→ej (jW t.level t.assoc a) u.level=some v→u.assoc=v):=by
     constructor
     ·rintro ⟨h1,h2⟩
      refine ⟨fun u hu w hw=>h1 u (by simp[hu]) w (by simp[hw]),fun u hu v hz hp=>?_⟩
      rw[hput] at hp
      split at hp
      ·rename_i e
       simp at hp; rw[← hp]
       exact h1 u (by simp[hu]) t (by simp) e hz
      ·exact h2 u (by simp[hu]) v hz hp
     ·rintro ⟨h1,h2⟩
      have h3:∀ u∈r,u.level=t.level→u.assoc=t.assoc:=fun u hu e=>h2 u hu t.assoc (by rw[e]; exact ht) (by rw[hput,T9 e])
      refine ⟨fun u hu w hw e hz=>?_,fun u hu v hz hp=>?_⟩
      ·rcases Uk.1 hu with e1 | hu2
       ·rcases Uk.1 hw with e2 | hw2
        ·rw[e1,e2]
        ·rw[e1] at e ⊢
         exact (h3 w hw2 e.symm).symm
       ·rcases Uk.1 hw with e2 | hw2
        ·rw[e2] at e ⊢
         exact h3 u hu2 e
        ·exact h1 u hu2 w hw2 e hz
      ·rcases Uk.1 hu with rfl | hu
       ·exact hcon v hp
       ·by_cases e:u.level=t.level
        ·rw[h3 u hu e]; exact hcon v (by rw[← e]; exact hp)
        ·exact h2 u hu v hz (by rw[hput,T6 e]; exact hp)
    have htop:top≤(if t.level > top then t.level else top)∧t.level≤(if t.level > top then t.level else top):=by split <;> omega
    cases hs:mB r (jW t.level t.assoc a) (if t.level > top then t.level else top) with
    | none=>rw[hs] at ih; simp only; rw[both]; exact ih
    | some x =>
     obtain ⟨a',top'⟩:=x
     rw[hs] at ih
     obtain ⟨i1,i2,i3,i4,i5,i6,i7⟩:=ih
     obtain ⟨b1,b2⟩:=both.2 ⟨i1,i2⟩
     refine ⟨b1,b2,i3,fun n=>?_,by omega,?_,?_⟩
     ·rw[i4,hk.2]
      constructor
      ·rintro ((rfl | h) | ⟨h1,u,hu,h⟩)
       ·exact .inr ⟨ht,t,by simp,rfl⟩
       ·exact .inl h
       ·exact .inr ⟨h1,u,by simp[hu],h⟩
      ·rintro (h | ⟨h1,u,hu,h⟩)
       ·exact .inl (.inr h)
       ·rcases Uk.1 hu with rfl | hu
        ·exact .inl (.inl h.symm)
        ·exact .inr ⟨h1,u,hu,h⟩
     ·intro u hu hz
      rcases Uk.1 hu with rfl | hu
      ·omega
      ·exact i6 u hu hz
     ·rcases i7 with h | ⟨u,hu,h⟩
      ·by_cases e:t.level > top
       ·rw[T9 e] at h; exact .inr ⟨t,by simp,h.symm,ht⟩
       ·rw[T6 e] at h; exact .inl h
      ·exact .inr ⟨u,by simp[hu],h⟩
theorem B0 (l:List Term) (h:∀ t∈l,kR t=true):rN l=true↔∀ t∈l,∀ n:Int,1≤n→n≤t.level→gT l n=true:=by
 have hb:∀ t∈l,0≤t.level∧(t.level≠0→t.assoc≠0):=fun t ht=>by
  have:=h t ht
  simp only[kR,Uh,Ul,Va] at this
  refine ⟨this.1.1.1.1.2,fun h1 h2=>?_⟩
  have e:=this.2
  simp[h1,h2] at e
 have hs:=yM l [] 0 (fun t ht=>(hb t ht).2) (by simp[ej]) (by simp)
 have hL:∀ n:Int,1≤n→(gT l n=true↔∃ a,(∃ t∈l,t.level=n)∧∀ t∈l,t.level=n→t.assoc=a):=fun n hn=>BJ n l (fun t ht e=>(hb t ht).2 (by omega))
 unfold rN
 cases hx:mB l [] 0 with
 | none =>
  rw[hx] at hs
  simp only[Ut,false_iff]
  intro hall
  refine hs ⟨fun t ht u hu e hz=>?_,fun t ht v _ hp=>by simp[ej] at hp⟩
  have h1:=hb t ht
  obtain ⟨a,_,h2⟩:=(hL t.level (by omega)).1 (hall t ht t.level (by omega) (by omega))
  exact (h2 t ht rfl).trans (h2 u hu e.symm).symm
 | some x =>
  obtain ⟨a,top⟩:=x
  rw[hx] at hs
  obtain ⟨i1,_,i3,i4,i5,i6,i7⟩:=hs
  simp only[Va]
  have hmem:∀ n,n∈a.map (·.1)↔n≠0∧∃ t∈l,t.level=n:=fun n=>by rw[i4]; simp
  have hin:∀ x∈a.map (·.1),1≤x∧x≤(top.toNat:Int):=fun x hx=>by
   obtain ⟨h1,t,ht,rfl⟩:=(hmem x).1 hx
   have:=(hb t ht).1
   have:=i6 t ht h1
   omega
  constructor
  ·intro hlen t ht n hn1 hn2
   have htop:t.level≤top:=i6 t ht (by omega)
   have hm:=Qu i3 hin (by simp; omega) hn1 (show n≤(top.toNat:Int) by omega)
   obtain ⟨hz,u,hu,rfl⟩:=(hmem n).1 hm
   exact (hL _ hn1).2 ⟨u.assoc,⟨u,hu,rfl⟩,fun w hw e=>i1 w hw u hu e (by omega)⟩
  ·intro hall
   have h1:a.length≤top.toNat:=by
    have:=mP _ (lT top.toNat) i3 (fun x hx=>vO.2 (hin x hx))
    simpa [lT] using this
   have h2:top.toNat≤a.length:=by
    rcases i7 with e | ⟨t,ht,e,hz⟩
    ·subst e; simp
    ·have:=mP (lT top.toNat) (a.map (·.1)) (GN _) (fun x hx=>by
      rw[vO] at hx
      have:=(hb t ht).1
      obtain ⟨_,⟨u,hu,hl⟩,_⟩:=(hL x hx.1).1 (hall t ht x hx.1 (by omega))
      exact (hmem x).2 ⟨by omega,u,hu,hl⟩)
     simpa [lT] using this
   omega
theorem Cq (g:aw):∀ (l:List Term) (i:Int),jK g l i=true↔∀ (k:Nat) (t:Term),l[k]?=some t→kc g (i+k) t=true
 | [],i=>by simp[jK]
 | t :: r,i=>by
  simp only[jK,Uh,Cq g r (i+1)]
  constructor
  ·rintro ⟨h1,h2⟩ k u hk
   cases k with
   | zero=>simp at hk; subst hk; simpa using h1
   | succ k =>
    have:=h2 k u (by simpa using hk)
    rw[show i+((k+1:Nat):Int)=i+1+k by push_cast; omega]; exact this
  ·intro h
   refine ⟨by simpa using h 0 t rfl,fun k u hk=>?_⟩
   have:=h (k+1) u (by simpa using hk)
   rw[show i+1+(k:Int)=i+((k+1:Nat):Int) by push_cast; omega]; exact this
theorem tf (g:aw):∀ (l:List ByteArray) (i:Int),rm g l i=true↔∀ (k:Nat) (s:ByteArray),l[k]?=some s→lF g (i+k) s=true
 | [],i=>by simp[rm]
 | t :: r,i=>by
  simp only[rm,Uh,tf g r (i+1)]
  constructor
  ·rintro ⟨h1,h2⟩ k u hk
   cases k with
   | zero=>simp at hk; subst hk; simpa using h1
   | succ k =>
    have:=h2 k u (by simpa using hk)
    rw[show i+((k+1:Nat):Int)=i+1+k by push_cast; omega]; exact this
  ·intro h
   refine ⟨by simpa using h 0 t rfl,fun k u hk=>?_⟩
   have:=h (k+1) u (by simpa using hk)
   rw[show i+1+(k:Int)=i+((k+1:Nat):Int) by push_cast; omega]; exact this
theorem DS (g:aw) (s:ByteArray):ml g s < 0↔s ∉ g.az.map Term.name:=by
 unfold ml
 rcases xM s (g.az.map Term.name) 0 (by omega) with ⟨h1,h2⟩ | ⟨k,h1,h2,_⟩
 ·exact ⟨fun _=>h2,fun _=>h1⟩
 ·constructor
  ·intro h; omega
  ·intro h; exact absurd (Ub h2) h
theorem EU (g:aw) (t:Term):rD g t=true↔∀ n:Int,1≤n→n≤t.level→gT g.az n=true:=by
 simp only[rD,UE,UR]
 constructor
 ·intro h n h1 h2
  have:=h (n - 1).toNat (by omega)
  rwa [show (((n - 1).toNat:Nat):Int)+1=n by omega] at this
 ·intro h k hk
  exact h _ (by omega) (by omega)
theorem K3 (g:aw):qJ g=bR g:=by
 rw[Vc]
 simp only[qJ,bR,jR,kD,sG,Uh,Ul,Cq,tf,Gi,UE,V6,List.any_eq_false,Bool.not_eq_true,NR,sn,UY,Int.zero_add,Int.zero_sub,Bool.not_not]
 have hT:(∀ (k:Nat) (t:Term),g.az[k]?=some t→kc g k t=true)↔(∀ t∈g.az,kR t=true)∧(g.az.map Term.name).Nodup∧(∀ t∈g.az,rD g t=true):=by
  rw[← td]
  constructor
  ·intro h
   have h':∀ t∈g.az,∃ k:Nat,g.az[k]?=some t:=fun t ht=>List.getElem?_of_mem ht
   refine ⟨fun t ht=>?_,fun k s hk=>?_,fun t ht=>?_⟩
   ·obtain ⟨k,hk⟩:=h' t ht
    have:=h k t hk
    simp only[kc,kR,Uh,Ul] at this ⊢
    simp[this]
   ·rw[T8,Uf] at hk
    obtain ⟨t,hk,rfl⟩:=hk
    have:=h k t hk
    simp only[kc,Uh,Va] at this
    exact this.1.1.1.1.1.1.2
   ·obtain ⟨k,hk⟩:=h' t ht
    have:=h k t hk
    simp only[kc,Uh] at this
    exact this.2
  ·rintro ⟨h1,h2,h3⟩ k t hk
   have hm:=Ub hk
   have a:=h1 t hm
   have b:=h2 k t.name (by rw[T8,hk]; rfl)
   have c:=h3 t hm
   simp only[kc,kR,ml,Uh,Ul] at a ⊢
   simp[a,b,c]
 have hN:(∀ (k:Nat) (s:ByteArray),g.ax[k]?=some s→lF g k s=true)↔(∀ s∈g.ax,gx (fp s)=true)∧g.ax.Nodup∧(∀ s∈g.ax,s ∉ g.az.map Term.name):=by
  rw[← td]
  constructor
  ·intro h
   have h':∀ t∈g.ax,∃ k:Nat,g.ax[k]?=some t:=fun t ht=>List.getElem?_of_mem ht
   refine ⟨fun t ht=>?_,fun k s hk=>?_,fun t ht=>?_⟩
   ·obtain ⟨k,hk⟩:=h' t ht
    have:=h k t hk
    simp only[lF,Uh] at this
    exact this.1.1
   ·have:=h k s hk
    simp only[lF,yO,Uh,Va] at this
    exact this.1.2
   ·obtain ⟨k,hk⟩:=h' t ht
    have:=h k t hk
    simp only[lF,Uh,Ul] at this
    exact (DS g t).1 this.2
  ·rintro ⟨h1,h2,h3⟩ k s hk
   have hm:=Ub hk
   have a:=h1 s hm
   have b:=h2 k s hk
   have c:=(DS g s).2 (h3 s hm)
   simp[lF,yO,a,b,c]
 rw[hT,hN]
 constructor
 ·rintro ⟨⟨⟨⟨⟨⟨⟨⟨t1,t2⟩,t3⟩,n1,n2⟩,r1,r2⟩,a1,a2,a3⟩,s1,s2⟩,n3⟩,ru⟩
  have hl:=(B0 g.az t1).1 t3
  exact ⟨⟨⟨⟨⟨⟨⟨t2,t1,a2,fun t ht=>(EU g t).2 (hl t ht)⟩,⟨by omega,by omega⟩,fun s hs=>by simpa using n3 s hs,a1,fun s hs hm=>a3 s hs s hm rfl⟩,by omega⟩,by omega⟩,s1⟩,by omega⟩,ru⟩
 ·rintro ⟨⟨⟨⟨⟨⟨⟨t2,t1,a2,t3⟩,⟨n1,n2⟩,n3,a1,a3⟩,r1⟩,r2⟩,s1⟩,s2⟩,ru⟩
  have hl:=(B0 g.az t1).2 (fun t ht=>(EU g t).1 (t3 t ht))
  exact ⟨⟨⟨⟨⟨⟨⟨⟨t1,t2⟩,hl⟩,by omega,by omega⟩,by omega,by omega⟩,a1,a2,fun s hs u hu e=>a3 s hs (e ▸ hu)⟩,s1,by omega⟩,fun s hs=>by simp[n3 s hs]⟩,ru⟩
theorem s8 (g:aw) (hg:g.Ok) (hs:g.ax.length+g.az.length≤1000):aG Tryz.prog 52 [.agg (au g)] (gb (bR g)):=by
 rw[← K3]; exact KC g hg hs
end Gv
