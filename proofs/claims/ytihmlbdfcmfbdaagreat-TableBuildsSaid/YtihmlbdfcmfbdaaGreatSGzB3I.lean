/-
  Part 9 of the proof: what the machine does and what the functions answer.
  Conditions: those that each lemma names.
-/
import Derived.ProofKit
import Derived.SizedLaws
import Derived.Test.YtihmlbdfcmfbdaaGreatSGzB3H
set_option linter.unusedSimpArgs false
set_option linter.unusedVariables false
set_option maxRecDepth 100000
set_option maxHeartbeats 20000000
namespace Gv
open Go Go.Proofs
def FH (n:Nat) (r:bu):Prop:=cp r.left/\0<=r.left/\r.left < n/\r.right.length<=6/\∀ s∈r.right,cp s/\(s < 0->-1 - s < n)
theorem aj.dP.uI {g:aj} (a:g.Ok) (h:g.dP) {r:bu} (hr:r∈g.rules):FH g.ak.length r :=
 ⟨(a.aw r hr).1,(h.left r hr).1,(h.left r hr).2,h.right r hr,λs hs=>⟨(a.aw r hr).2.2.2 s hs,λb=>h.neg hr hs b⟩⟩
def Ah:SF:=⟨ae [ab [bz 2 false],ab [aa 3 0,aG 4 .geq 3 0,aa 2 4],.ret],
 [.tmp 2],5⟩
theorem Dh:aN Tryz.prog 209 []=some Ah:=by kernel_rfl
def CW:SF:=⟨ae [ab [cw 1 0,bz 2 false],ab [ao 3 1 1,ai 4 3,qb 5 91 [(.tmp 4),(.val (.fn 209 [] []))],c6 6 5,aa 2 6],.ret],
 [.tmp 2],7⟩
theorem Gu:aN Tryz.prog 171 [1]=some CW:=by kernel_rfl
def vI:SF:=⟨ae [ab [bz 3 false],.region false [⟨none,[aa 4 0,aG 5 .lss 4 0,aa 6 5]⟩,⟨(some (6,true)),[ai 7 1,aa 8 0,((some 9),.op (.arith .sub (.val (.val (.int .i64 (-1)))) (.tmp 8))),aH 10 1 7 9,ai 11 10,c6 12 11]⟩,⟨none,[eF 13 6 12,aa 3 13]⟩],.ret],
 [.tmp 3],14⟩
theorem AS:aN Tryz.prog 197 []=some vI:=by kernel_rfl
def An:SF:=⟨ae [ab [cw 2 0,cw 3 1,bz 4 false],ab [ao 5 1 2,ai 6 5,((some 7),.op (.uS 197 [] [(.tmp 3)])),bh 8 91 [6,7],c6 9 8,aa 4 9],.ret],
 [.tmp 4],10⟩
theorem DN:aN Tryz.prog 160 [2,3]=some An:=by kernel_rfl
def tt:SF:=⟨ae [ab [cw 2 0,cq 4 1],ae [.region false [⟨none,[aT 5 3 2,bh 6 171 [5],aa 7 6]⟩,⟨(some (7,true)),[aT 8 3 2,aa 9 1,bh 10 160 [8,9]]⟩,⟨none,[eF 11 7 10]⟩],bc 11 (ae [ab [ao 12 0 2,ai 13 12,((some 14),.op (.bO 1 1 [(.val (.int .i64 0))] [(0,(.tmp 13))])),aa 4 14],.ret])],ab [cq 4 1],.ret],
 [.tmp 4],15⟩
theorem yN:aN Tryz.prog 170 [2]=some tt:=by kernel_rfl
def qV:SF:=⟨ae [ab [cw 2 0,cq 4 1],ae [ab [aT 5 3 2,aa 6 1,bh 7 160 [5,6]],bc 7 (ae [ab [ao 8 0 2,ai 9 8,((some 10),.op (.bO 1 1 [(.val (.int .i64 0))] [(0,(.tmp 9))])),aa 4 10],.ret])],ab [cq 4 1],.ret],
 [.tmp 4],11⟩
theorem xg:aN Tryz.prog 195 [2]=some qV:=by kernel_rfl
def qc:SC :=
 ae [ab [aS 24 .lss 23 22],bT 24 (.exit 0),.block 1 (ae [ab [aH 25 1 21 23,ai 26 25,aa 7 26],ab [aa 27 7,aG 28 .lss 27 0],bc 28 (ab [aa 29 5,aa 30 7,((some 31),.op (.arith .sub (.val (.val (.int .i64 (-1)))) (.tmp 30))),((some 32),.op (.bO 1 1 [(.val (.int .i64 0))] [(0,(.tmp 31))])),eE 33 1 8 29 32,aa 5 33])]),ab [aG 34 .add 23 1,aa 23 34]]
def sY:SF:=⟨ae [ab [cw 3 0,cq 5 1],ae [.region false [⟨none,[aa 8 1,ao 9 0 3,ai 10 9,aH 11 1 8 10,ai 12 11,c6 13 12,aa 14 13]⟩,⟨(some (14,false)),[aT 15 3 3,ai 16 2,bh 17 160 [15,16],c6 18 17]⟩,⟨none,[cD 19 14 18]⟩],bc 19 (ae [ab [cq 5 1],.ret])],ae [ab [ao 20 1 3,ai 21 20,aP 22 21,aQ 23 0],bU 0 qc],ab [aa 35 5,aa 5 35],.ret],
 [.tmp 5],36⟩
theorem xu:aN Tryz.prog 196 [3]=some sY:=by kernel_rfl
theorem Qc (r:bu):∀ v∈[V.agg (aO r)],Tree v:=by intro v a;simp at a;subst a;exact cb _ (iz r)
theorem Du (r:bu) (is:List Bool):∀ v∈[V.agg (aO r),bP is],Tree v:=by
 intro v a;simp at a
 rcases a with rfl | rfl
 .exact cb _ (iz r)
 .exact iA is
theorem Ui (x:Int):az Tryz.prog 209 [gi x] (gb (decide (0<=x))):=by
 refine az.val (BE (l:=[.int .i64 x])) λH=>?_
 refine au.of mixed Dh ?_
 simp(disch:=omega)only[↓wr,seval,wq,Ah]
theorem Wc (r:bu) (hr:aJ r.right):az Tryz.prog 171 [.agg (aO r)] (gb (!r.right.any λs=>decide (0<=s))):=by
 refine az.val (Qc r) λH=>?_
 refine au.of mixed Gu ?_
 simp(disch:=omega)only[↓wr,seval,wq,CW,aO,encI]
 refine ax.pure (oo r.right hr 209 [] (by simp) (λs=>decide (0<=s)) (λx _=>Ui x) (by kernel_rfl)) ?_
 simp(disch:=omega)only[↓wr,seval,wq]
def FT (is:List Bool) (s:Int):Bool:=decide (s < 0) && !is.getD (-1 - s).toNat false
theorem OR (is:List Bool) (s:Int) (hs:cp s/\(s < 0->-1 - s < is.length)):az Tryz.prog 197 [gi s,.aI [bP is] 0] (gb (FT is s)):=by
 refine az.val ?_ λH=>?_
 .intro v a;simp at a
  rcases a with rfl | rfl
  .exact .val _
  .exact lV (by intro v a;simp at a;subst a;exact iA is)
 obtain⟨⟨h1,e⟩,f⟩:=hs
 refine au.of mixed AS ?_
 simp(disch:=omega)only[↓wr,seval,wq,vI,bP]
 apply ah.dec<;>intro h
 .have d:is[(-1 - s).toNat]?=some (is[(-1 - s).toNat]'(by omega)):=Zj (by omega)
  have c:is.getD (-1 - s).toNat false=is[(-1 - s).toNat]'(by omega):=by simp[Zi,d]
  generalize is[(-1 - s).toNat]'(by omega)=b at d c
  simp(disch:=omega)only[↓wr,seval,wq,Zm,d]
  simp only[FT,c,h,decide_true,aaH]
 .simp(disch:=omega)only[↓wr,seval,wq]
  simp[FT,h]
theorem Pl {is:List Bool} {l:List Int} : (!l.any (FT is))=c7 l is true:=by
 simp only[c7,List.not_any_eq_all_not]
 congr 1
 funext s
 simp only[FT]
 by_cases h:0<=s
 .simp[h,show ¬ s < 0 by omega]
 .simp[h,show s < 0 by omega]
theorem wv (r:bu) (is:List Bool) (hr:aJ r.right) (hs:∀ s∈r.right,cp s/\(s < 0->-1 - s < is.length)):az Tryz.prog 160 [.agg (aO r),bP is] (gb (c7 r.right is true)):=by
 rw[<-Pl]
 refine az.val (Du r is) λH=>?_
 refine au.of mixed DN ?_
 simp(disch:=omega)only[↓wr,seval,wq,An,aO,bP,encI]
 refine ax.pure (oo r.right hr 197 [.aI [bP is] 0] (by
  intro v a;simp at a;subst a
  exact lV (by intro v a;simp at a;subst a;exact iA is)) (FT is) (λx b=>OR is x (hs x b)) (by kernel_rfl)) ?_
 simp(disch:=omega)only[↓wr,seval,wq]
theorem LG {is:List Bool} {l:List Int} : ((!l.any λs=>decide (0<=s)) && c7 l is true)=c7 l is false:=by
 induction l with
 | nil=>rfl
 | cons s l a =>
  simp only[c7,aaG,List.any_cons] at a ⊢
  rw[<-a]
  by_cases h:0<=s
  .simp[h]
  .simp only[h,decide_false,abu,if_false]
   cases (l.any λs=>decide (0<=s)) <;> simp
theorem kM {h:aF} {u:V} {l:List Int} (a:aV h.view u 1 (l.map λx=>[gi x])):dg h u (encI l):=dg.Od (f:=Value.int .i64) a
theorem JK (r:bu) (is:List Bool) (hr:FH is.length r):cE Tryz.prog 170 [.agg (aO r),bP is] (encI (if c7 r.right is false=true then [r.left] else [])):=by
 obtain⟨hl,_,_,c,hs⟩:=hr
 have a:aJ r.right:=by unfold aJ;omega
 refine cE.of (Du r is) ?_
 refine au.of mixed yN ?_
 rw[<-LG]
 simp(disch:=omega)only[↓wr,seval,wq,tt,aO,encI]
 refine ax.pure (Wc r a) ?_
 repeat' (first | ((first|apply ah.dec|apply ah.eq|apply ah.ne|apply ah.split)<;>intro)|(refine ax.pure (wv r is a hs) ?_)|(simp(disch:=omega)only[↓wr,seval,wq,aO,encI]))
 all_goals first
  | (intro n d b;rw[Zn (by simp[*])];exact kM (l:=[r.left]) (.inr ⟨n,rfl,by rw[b];simp[View.set]⟩))
  | (intro d b;rw[Zk (by simp[*])];exact .emp _)
theorem GG (r:bu) (is:List Bool) (hr:FH is.length r):cE Tryz.prog 195 [.agg (aO r),bP is] (encI (if c7 r.right is true=true then [r.left] else [])):=by
 obtain⟨hl,_,_,c,hs⟩:=hr
 have a:aJ r.right:=by unfold aJ;omega
 refine cE.of (Du r is) ?_
 refine au.of mixed xg ?_
 simp(disch:=omega)only[↓wr,seval,wq,qV,aO,encI]
 refine ax.pure (wv r is a hs) ?_
 repeat' (first | ((first|apply ah.dec|apply ah.eq|apply ah.ne|apply ah.split)<;>intro)|(simp(disch:=omega)only[↓wr,seval,wq,aO,encI]))
 all_goals first
  | (intro n d b;rw[Zn (by simp[*])];exact kM (l:=[r.left]) (.inr ⟨n,rfl,by rw[b];simp[View.set]⟩))
  | (intro d b;rw[Zk (by simp[*])];exact .emp _)
def iC (l:List Int):List Int:=(l.filter λs=>decide (s < 0)).map λs=>-1 - s
theorem Sk (r:bu) (is p:List Bool):∀ v∈[V.agg (aO r),bP is,.aI [bP p] 0],Tree v:=by
 intro v a;simp at a
 rcases a with rfl | rfl | rfl
 .exact cb _ (iz r)
 .exact iA is
 .exact lV (by intro v a;simp at a;subst a;exact iA p)
theorem IG (r:bu) (is p:List Bool) (hr:FH is.length r) (hp:p.length=is.length) :
  cE Tryz.prog 196 [.agg (aO r),bP is,.aI [bP p] 0] (encI (if (is.getD r.left.toNat false && c7 r.right p true)=true then iC r.right else [])):=by
 obtain⟨hl,y,z,A,hs⟩:=hr
 have l:aJ r.right:=by unfold aJ;omega
 refine cE.of (Sk r is p) ?_
 refine au.of mixed xu ?_
 have n:is[r.left.toNat]?=some (is[r.left.toNat]'(by omega)):=Zj (by omega)
 have g:is.getD r.left.toNat false=is[r.left.toNat]'(by omega):=by simp[Zi,n]
 generalize is[r.left.toNat]'(by omega)=b at n g
 rw[g]
 simp(disch:=omega)only[↓wr,seval,wq,sY,aO,encI,bP,Zm,n]
 cases b with
 | false =>
  simp(disch:=omega)only[↓wr,seval,wq]
  intro w o
  exact .emp _
 | true =>
  simp(disch:=omega)only[↓wr,seval,wq,aO,encI,bP]
  refine ax.pure (wv r p l (λs j=>⟨(hs s j).1,λh=>by rw[hp];exact(hs s j).2 h⟩)) ?_
  repeat' (first | ((first|apply ah.dec|apply ah.eq|apply ah.ne|apply ah.split)<;>intro)|(simp(disch:=omega)only[↓wr,seval,wq,aO,encI,bP]))
  .rename_i q
   rw[Zn (by simp[q])]
   refine aR.up r.right.length (λi T H=>(∃ u,T 5=u/\aV H u 1 ((iC (r.right.take i)).map λx=>[gi x]))/\T 21=encI r.right/\T 22=gi r.right.length/\T 23=gi i) ?_ ?_
   .exact⟨⟨_,rfl,.nil⟩,rfl,rfl,rfl⟩
   rintro i k T H' hk ⟨⟨u,e,hu⟩,a,c,d⟩
   simp(disch:=omega)only[↓wr,seval,wq,qc,e,a,c,d,encI]
   apply ah.dec<;>intro B
   .have t:r.right[i]?=some (r.right[i]'(by omega)):=Zj (by omega)
    have hm:r.right[i]'(by omega)∈r.right:=Zs _
    have f:iC (r.right.take (i+1))=iC (r.right.take i) ++ iC [r.right[i]'(by omega)]:=by
     rw[ZG,t,iC,aaS,ZD];rfl
    have hlen:(iC (r.right.take i)).length<=6:=by
     have h1:(iC (r.right.take i)).length<=(r.right.take i).length:=by simp only[iC,Zr];exact aac _ _
     have D:(r.right.take i).length<=i:=List.length_take_le _ _
     omega
    generalize r.right[i]'(by omega)=s at t hm f
    obtain⟨⟨s1,s2⟩,E⟩:=hs s hm
    simp(disch:=omega)only[↓wr,seval,wq,e,a,c,d,encI,Zm,t]
    apply ah.dec<;>intro hd
    .simp(disch:=omega)only[↓wr,seval,wq,e,a,c,d]
     intro m hm
     try simp(disch:=omega)only[↓wr,seval,wq,e,a,c,d,bm]
     refine B0 (hu.fresh hm) (by simp) (by simp[aL]) (by unfold aA;simp at hlen ⊢;omega) (by unfold aA;simp at hlen ⊢;omega) ?_
     intro C F v _
     simp(disch:=omega)only[↓wr,seval,wq,a,c,d]
     refine aE hk (by omega) ⟨⟨C,rfl,?_⟩,a,c,rfl⟩
     rw[f]
     simpa [iC,hd] using v
    .simp(disch:=omega)only[↓wr,seval,wq,e,a,c,d]
     refine aE hk (by omega) ⟨⟨u,e,?_⟩,a,c,rfl⟩
     rw[f]
     simpa [iC,hd] using hu
   .rw[Zx (by omega)] at hu
    simp(disch:=omega)only[↓wr,seval,wq,e,a,c,d]
    intro w o
    exact kM (by rw[o];exact hu)
  .rename_i q
   intro w o
   rw[Zk (by simp[q])]
   exact .emp _
def tR (is:List Bool) (l:List Int):List Bool:=l.foldl (λis n=>is.set n.toNat true) is
def stepG (comes:bu->List Bool->List Int) (is:List Bool) (r:bu):List Bool:=tR is (comes r is)
def eO (comes:bu->List Bool->List Int) (rules:List bu) (is:List Bool):List Bool:=rules.foldl (stepG comes) is
def ij (a b:List Bool):Prop:=a.length=b.length/\∀ i,a.getD i false=true->b.getD i false=true
theorem ij.refl (a:List Bool):ij a a:=⟨rfl,λ_ h=>h⟩
theorem ij.trans {a b c:List Bool} (h:ij a b) (k:ij b c):ij a c:=⟨h.1.trans k.1,λi hi=>k.2 i (h.2 i hi)⟩
theorem ij.set (a:List Bool) (i:Nat):ij a (a.set i true):=by
 refine⟨by simp,λj h=>?_⟩
 simp only[Zi,aaV] at h ⊢
 split
 .split
  .rfl
  .rename_i e b;rw[<-e,ZT (by omega)] at h;simp at h
 .exact h
theorem Jy:∀ (l:List Int) (is:List Bool),ij is (tR is l)
 | [],is=>.refl _
 | n :: l,is=>(ij.set is n.toNat).trans (Jy l _)
theorem wj (comes:bu->List Bool->List Int):∀ (rules:List bu) (is:List Bool),ij is (eO comes rules is)
 | [],is=>.refl _
 | r :: rs,is=>(Jy _ _).trans (wj comes rs _)
def eQ (a:List Bool):Nat:=a.countP λx=>x
theorem vw (a:List Bool):eQ a<=a.length:=List.countP_le_length
theorem ij.eQ:∀ {a b:List Bool},ij a b->eQ a<=eQ b/\(eQ a=eQ b->a=b)
 | [],[],_=>⟨Zt _,λ_=>rfl⟩
 | [],_ :: _,h=>by simp[ij] at h
 | _ :: _,[],h=>by simp[ij] at h
 | x :: a,y :: b,h=>by
  have c:x=true->y=true:=λe=>by have:=h.2 0 (by simpa using e);simpa using this
  obtain⟨h1,d⟩:=ij.eQ (a:=a) (b:=b) ⟨by simpa using h.1,λi hi=>by have:=h.2 (i+1) (by simpa using hi);simpa using this⟩
  unfold Gv.eQ at h1 d ⊢
  simp only[List.countP_cons]
  cases x with
  | true =>
   have:=c rfl;subst this
   simp only[if_true]
   exact⟨by omega,λe=>by rw[d (by omega)]⟩
  | false =>
   cases y with
   | false=>simp only[ZM,if_false];exact⟨by omega,λe=>by rw[d (by omega)]⟩
   | true=>simp only[ZM,if_false,if_true];exact⟨by omega,λe=>by omega⟩
def iZ (comes:bu->List Bool->List Int) (rules:List bu):Nat->List Bool->List Bool
 | 0,is=>is
 | k+1,is=>if eO comes rules is=is then is else iZ comes rules k (eO comes rules is)
theorem v8 (comes:bu->List Bool->List Int) (rules:List bu):∀ (k:Nat) (is:List Bool),is.length<=eQ is+k->eO comes rules (iZ comes rules k is)=iZ comes rules k is/\ij is (iZ comes rules k is)
 | 0,is,h=>by
  have h1:=wj comes rules is
  have b:=vw (eO comes rules is)
  have a:=h1.eQ
  rw[<-h1.1] at b
  have c:=vw is
  exact⟨(a.2 (by omega)).symm,.refl _⟩
 | k+1,is,h=>by
  simp only[iZ]
  by_cases e:eO comes rules is=is
  .rw[Zn e];exact⟨e,.refl _⟩
  .rw[Zk e]
   have h1:=wj comes rules is
   have a:=h1.eQ
   have:eQ is < eQ (eO comes rules is):=by
    rcases ZI (eQ is) (eQ (eO comes rules is)) with h | h
    .exact h
    .exact absurd (a.2 (by omega)).symm e
   obtain⟨g1,g2⟩:=v8 comes rules k (eO comes rules is) (by rw[<-h1.1];omega)
   exact⟨g1,h1.trans g2⟩
def z6:SC :=
 ae [ab [aS 26 .lss 25 24],bT 26 (.exit 4),.block 5 (ae [ab [aH 27 1 23 25,ai 28 27,aa 11 28],.region false [⟨none,[aa 29 7,aa 30 29]⟩,⟨(some (30,false)),[aa 31 1,aa 32 11,aH 33 1 31 32,ai 34 33,c6 35 34]⟩,⟨none,[cD 36 30 35,aa 7 36]⟩],ab [aa 37 1,aa 38 11,aH 39 1 37 38,(none,.op (.store 1 (.tmp 39) (.val (.val (.bool true)))))]]),ab [aG 40 .add 25 1,aa 25 40]]
def Ap:SC :=
 ae [ab [aS 17 .lss 16 15],bT 17 (.exit 2),.block 3 (ae [ab [aH 18 3 14 16,aT 19 3 18,((some 9),.op (.alloc [(.val (.int .i64 0)),(.emp 1),(.val (.int .i64 0))])),bK 3 9 19],ab [aa 20 2,aT 21 3 9,aa 22 1,((some 23),.call (.tmp 20) [(.tmp 21),(.tmp 22)]),aP 24 23,aQ 25 0],bU 4 z6]),ab [aG 41 .add 16 1,aa 16 41]]
def tc:SC :=
 ae [ae [ab [aa 12 7],bT 12 (.exit 0)],.block 1 (ae [ab [bz 7 false],ab [ao 13 2 3,ai 14 13,aP 15 14,aQ 16 0],bU 2 Ap])]
def CJ:SF:=⟨ae [ab [cw 3 0,cq 6 1],ae [ab [bz 7 true],bU 0 tc],ab [aa 42 1,aa 6 42],.ret],
 [.tmp 6],43⟩
theorem FX:aN Tryz.prog 169 [3]=some CJ:=by kernel_rfl
theorem Uh {is:List Bool} {i:Nat} (h:is.getD i false=true):is.set i true=is:=by
 apply List.ext_getElem?
 intro j
 simp only[Zi] at h
 rw[aaV]
 split
 .rename_i e;subst e
  split
  .rename_i hl;rw[Zj hl] at h ⊢;simp at h;simp[h]
  .rename_i hl;rw[ZT (by omega)] at h;simp at h
 .rfl
theorem Pe {comes:bu->List Bool->List Int} {rules:List bu} {k:Nat} {is:List Bool} (h:eO comes rules is=is):iZ comes rules k is=is:=by
 cases k with
 | zero=>rfl
 | succ k=>simp only[iZ,h,if_true]
theorem O7 {comes:bu->List Bool->List Int} {rules:List bu} {k:Nat} {is:List Bool} (h:¬ eO comes rules is=is) (hk:is.length<=eQ is+k):∃ j,k=j+1/\iZ comes rules k is=iZ comes rules j (eO comes rules is)/\(eO comes rules is).length<=eQ (eO comes rules is)+j:=by
 have h1:=wj comes rules is
 have a:=h1.eQ
 have b:=vw (eO comes rules is)
 have:eQ is < eQ (eO comes rules is):=by
  rcases ZI (eQ is) (eQ (eO comes rules is)) with h | h
  .exact h
  .exact absurd (a.2 (by omega)).symm (by assumption)
 have hl:=h1.1
 obtain⟨j,rfl⟩:∃ j,k=j+1:=⟨k - 1,by omega⟩
 exact⟨j,rfl,by simp only[iZ];rw[Zk h],by omega⟩
theorem TP {a is:List Bool} {i:Nat} {b:Bool} (hle:ij a is) (hi:i < is.length) (d:b = !decide (is=a)):(b || !is.getD i false) = !decide (is.set i true=a):=by
 cases c:is.getD i false with
 | true=>rw[Uh c,d];simp
 | false =>
  have:¬ is.set i true=a:=λe=>by
   have h1:(is.set i true).getD i false=true:=by simp[Zi,hi]
   rw[e] at h1
   have:=hle.2 i h1
   rw[c] at this;simp at this
  simp[this]
theorem F5 (g:aj) (hr:g.rules.length<=40) (comes:bu->List Bool->List Int) (f:FuncId) (t D:List V) (ar:dS Tryz.prog f=true) (N:Nat) (hN:N<=16)
  (hc:∀ r∈g.rules,∀ is:List Bool,is.length=N->cE Tryz.prog f (.agg (aO r) :: bP is :: D) (encI (comes r is))/\(comes r is).length<=100/\∀ n∈comes r is,cp n/\0<=n/\n < N)
  (id:Nat) (A:List Bool) (a6:A.length=N) (H:View) (hH:H id=.arr 1 (dH A)) (O:∀ H':View,(∀ k,H k≠.dead->k≠id->H' k=H k)->qA H' t D) :
  au Tryz.prog 169 [.agg (ag g),.sl id 0 N 1,.fn f [] t] H λr H'=>r=.sl id 0 N 1/\H' id=.arr 1 (dH (iZ comes g.rules 16 A))/\∀ k,H k≠.dead->k≠id->H' k=H k:=by
 refine au.of mixed FX ?_
 simp(disch:=omega)only[↓wr,seval,wq,CJ,ag,encS]
 refine aR.intro (λk T H'=>∃ is:List Bool,is.length=N/\H' id=.arr 1 (dH is)/\(∀ k,H k≠.dead->k≠id->H' k=H k)/\T 1=.sl id 0 N 1/\T 2=.fn f [] t/\T 3=.aI (ag g) 0 /\
  ((T 7=gb true/\∃ j,k=j+1/\iZ comes g.rules j is=iZ comes g.rules 16 A/\N<=eQ is+j)∨(T 7=gb false/\is=iZ comes g.rules 16 A))) 17 ?_ ?_
 .exact⟨A,a6,hH,λ_ _ _=>rfl,rfl,rfl,rfl,.inl ⟨rfl,16,rfl,rfl,by omega⟩⟩
 rintro k T H1 ⟨is,hlen,o,p,t1,t2,t3,u⟩
 rcases u with ⟨u,j,rfl,J,hj⟩ | ⟨u,J⟩
 .simp(disch:=omega)only[↓wr,seval,wq,tc,t1,t2,t3,u,ag,encS]
  refine aR.up g.rules.length (λi T H'=>∃ qP:List Bool,qP.length=N/\ij is qP/\qP=(g.rules.take i).foldl (stepG comes) is/\H' id=.arr 1 (dH qP)/\(∀ k,H k≠.dead->k≠id->H' k=H k)/\T 1=.sl id 0 N 1/\T 2=.fn f [] t/\T 3=.aI (ag g) 0 /\
   T 7=gb (!decide (qP=is))/\T 14=.aD (g.rules.map aO)/\T 15=gi g.rules.length/\T 16=gi i) ?_ ?_
  .exact⟨is,hlen,.refl _,rfl,o,p,t1,t2,t3,by simp;rfl,rfl,rfl,rfl⟩
  clear t1 t2 t3 u o p
  rintro i k T H1 hk ⟨qP,s,W,P,o,p,t1,t2,t3,u,c,d,m⟩
  simp(disch:=omega)only[↓wr,seval,wq,Ap,t1,t2,t3,u,c,d,m,ag,encS]
  apply ah.dec<;>intro a8
  .have Q:g.rules[i]?=some (g.rules[i]'(by omega)):=Zj (by omega)
   have M:g.rules[i]'(by omega)∈g.rules:=Zs _
   have X:(g.rules.take (i+1)).foldl (stepG comes) is=stepG comes ((g.rules.take i).foldl (stepG comes) is) (g.rules[i]'(by omega)):=by
    rw[ZG,Q,Z7];rfl
   generalize g.rules[i]'(by omega)=r at Q M X
   obtain⟨bb,bd,Y⟩:=hc r M qP s
   simp(disch:=omega)only[↓wr,seval,wq,t1,t2,t3,u,c,d,m,aO,encI,Zm,Q]
   intro b R
   have E:b≠id:=by rintro rfl;rw[o] at R;simp at R
   try simp(disch:=omega)only[↓wr,seval,wq,t1,t2,t3,u,c,d,m]
   refine ax.XM bb ar ⟨ep.tree (cb _ (iz r)),DS (by simp[View.set,E.symm,o]) s.symm,O _ (λk hk v=>?_)⟩ ?_
   .have S:k≠b:=by
     rintro rfl
     rw[p k hk v] at R
     exact hk R
    simp[View.set,S,p k hk v]
   generalize hl:comes r qP=l at bd Y
   simp(disch:=omega)only[↓wr,seval,wq,t1,t2,t3,u,c,d,m,encI]
   refine aR.up l.length (λq T H'=>∃ a:List Bool,a.length=N/\ij is a/\a=tR qP (l.take q)/\H' id=.arr 1 (dH a)/\(∀ k,H k≠.dead->k≠id->H' k=H k)/\T 1=.sl id 0 N 1/\T 2=.fn f [] t/\T 3=.aI (ag g) 0 /\
    T 7=gb (!decide (a=is))/\T 14=.aD (g.rules.map aO)/\T 15=gi g.rules.length/\T 16=gi i/\T 23=encI l/\T 24=gi l.length/\T 25=gi q) ?_ ?_
   .refine⟨qP,s,W,rfl,by simp[View.set,E.symm,o],λk hk v=>?_,t1,t2,t3,u,c,d,m,rfl,rfl,rfl⟩
    have S:k≠b:=by
     rintro rfl
     rw[p k hk v] at R
     exact hk R
    simp[View.set,S,p k hk v]
   clear t1 t2 t3 u c d m o p R E
   rintro q k2 T H1 bl ⟨a,F,G,I,o,p,t1,t2,t3,u,c,d,m,w,y,B⟩
   simp(disch:=omega)only[↓wr,seval,wq,z6,t1,t2,t3,u,c,d,m,w,y,B,encI]
   apply ah.dec<;>intro bn
   .have U:l[q]?=some (l[q]'(by omega)):=Zj (by omega)
    have Z:l[q]'(by omega)∈l:=Zs _
    have an:tR qP (l.take (q+1))=(tR qP (l.take q)).set (l[q]'(by omega)).toNat true:=by
     unfold tR;rw[ZG,U,Z7];rfl
    generalize l[q]'(by omega)=n at U Z an
    obtain⟨⟨n1,n2⟩,n3,n4⟩:=Y n Z
    have aq:a.getD n.toNat false=a[n.toNat]'(by omega):=by simp[Zi,show n.toNat < a.length by omega]
    have z:=TP G (show n.toNat < a.length by omega) (b:=!decide (a=is)) rfl
    rw[aq] at z
    have K:=mg (show n.toNat < a.length by omega)
    generalize a[n.toNat]'(by omega)=x at z K aq
    have fin:∀ (C:Env),C 7=gb (!decide (a.set n.toNat true=is))->C 1=.sl id 0 N 1->C 2=.fn f [] t->C 3=.aI (ag g) 0->C 14=.aD (g.rules.map aO)->C 15=gi g.rules.length->C 16=gi i->C 23=encI l->C 24=gi l.length->C 25=gi ((q:Int)+1) ->
      ∃ k',k' < k2/\FM l.length k' (λq T H'=>∃ a:List Bool,a.length=N/\ij is a/\a=tR qP (l.take q)/\H' id=.arr 1 (dH a)/\(∀ k,H k≠.dead->k≠id->H' k=H k)/\T 1=.sl id 0 N 1/\T 2=.fn f [] t/\T 3=.aI (ag g) 0 /\
       T 7=gb (!decide (a=is))/\T 14=.aD (g.rules.map aO)/\T 15=gi g.rules.length/\T 16=gi i/\T 23=encI l/\T 24=gi l.length/\T 25=gi q) C (H1.set id (.arr 1 (dH (a.set n.toNat true)))):=by
     intro C a7 a1 a2 a3 bq br bs a23 a24 a25
     refine aE bl (by omega) ⟨a.set n.toNat true,by simp[F],G.trans (.set _ _),by rw[an,<-I],by simp[View.set],λk hk v=>by simp[View.set,v,p k hk v],a1,a2,a3,a7,bq,br,bs,a23,a24,by rw[a25];rfl⟩
    simp(disch:=omega)only[↓wr,seval,wq,t1,t2,t3,u,c,d,m,w,y,B,encI,Zm,U]
    apply ah.dec<;>intro e
    .simp(disch:=omega)only[↓wr,seval,wq,t1,t2,t3,u,c,d,m,w,y,B,encI,o,K,Zr]
     refine⟨by omega,by omega,?_⟩
     try simp(disch:=omega)only[↓wr,seval,wq,t1,t2,t3,u,c,d,m,w,y,B,encI,o,K,Zr]
     refine⟨by omega,by omega,?_⟩
     rw[mA]
     exact fin _ (by rw[<-z];simp[e];rfl) t1 t2 t3 c d m w y rfl
    .simp(disch:=omega)only[↓wr,seval,wq,t1,t2,t3,u,c,d,m,w,y,B,encI,o,K,Zr]
     refine⟨by omega,by omega,?_⟩
     rw[mA]
     exact fin _ (by rw[<-z];simp[e];rfl) t1 t2 t3 c d m w y rfl
   .rw[Zx (by omega)] at I
    simp(disch:=omega)only[↓wr,seval,wq,t1,t2,t3,u,c,d,m,w,y,B]
    refine aE hk (by omega) ⟨a,F,G,?_,o,p,t1,t2,t3,u,c,d,rfl⟩
    rw[X,<-P,stepG,hl,<-I]
  .rw[Zx (by omega)] at P
   simp(disch:=omega)only[↓wr,seval,wq,t1,t2,t3,u,c,d,m]
   have L:qP=eO comes g.rules is:=P
   by_cases e:qP=is
   .refine⟨0,by omega,qP,s,o,p,rfl,.inr ⟨by simp[e],?_⟩⟩
    rw[<-J,e]
    exact(Pe (by rw[<-L];exact e)).symm
   .obtain⟨j2,rfl,e2,e3⟩:=O7 (k:=j) (λh=>e (L.trans h)) (by rw[hlen];exact hj)
    refine⟨j2+1,by omega,qP,s,o,p,rfl,.inl ⟨by simp[e],j2,rfl,?_,?_⟩⟩
    .rw[<-J,e2,L]
    .rw[<-L,s] at e3;exact e3
 .simp(disch:=omega)only[↓wr,seval,wq,tc,t1,t2,t3,u,ag,encS]
  exact⟨J ▸ o,p⟩
theorem yy {α:Type} {f:α->α} {x:α} (h:f x=x):∀ n,iter f n x=x
 | 0=>rfl
 | n+1=>by rw[iter,h,yy h n]
theorem Ku {α:Type} (f:α->α):∀ (a b:Nat) (x:α),iter f (a+b) x=iter f b (iter f a x)
 | 0,b,x=>by rw[aaw];rfl
 | a+1,b,x=>by rw[Nat.add_right_comm,iter,iter,Ku f a b]
theorem Fg (comes:bu->List Bool->List Int) (rules:List bu):∀ (k:Nat) (is:List Bool),iZ comes rules k is=iter (eO comes rules) k is
 | 0,is=>rfl
 | k+1,is=>by
  simp only[iZ,iter]
  by_cases e:eO comes rules is=is
  .rw[Zn e,e,yy e]
  .rw[Zk e,Fg comes rules k]
theorem BA (comes:bu->List Bool->List Int) (rules:List bu) (is:List Bool) (h:is.length<=16):iZ comes rules 16 is=iter (eO comes rules) is.length is:=by
 have h1:=(v8 comes rules is.length is (by omega)).1
 rw[Fg] at h1 ⊢
 obtain⟨m,hm⟩:∃ m,16=is.length+m:=⟨16 - is.length,by omega⟩
 rw[hm,Ku,yy h1]
def nz (t:Bool) (r:bu) (is:List Bool):List Int:=if c7 r.right is t=true then [r.left] else []
def uJ (p:List Bool) (r:bu) (is:List Bool):List Int:=if (is.getD r.left.toNat false && c7 r.right p true)=true then iC r.right else []
theorem L3 (g:aj) (t:Bool):eO (nz t) g.rules=kY g t:=by
 funext is
 unfold eO kY
 congr 1
 funext is r
 unfold stepG nz eW
 split <;> rfl
theorem Fp:∀ (l:List Int) (is:List Bool),tR is (iC l)=l.foldl mark is
 | [],is=>rfl
 | s :: l,is=>by
  have a:=Fp l
  unfold tR iC at a ⊢
  rw[ZS,<-a]
  unfold mark
  by_cases h:s < 0
  .rw[Zn h,List.filter_cons_of_pos (by simpa using h)];rfl
  .rw[Zk h,List.filter_cons_of_neg (by simpa using h)]
theorem Mi (g:aj) (p:List Bool):eO (uJ p) g.rules=sn g p:=by
 funext is
 unfold eO sn
 congr 1
 funext is r
 unfold stepG uJ jb
 split
 .exact Fp _ _
 .rfl
theorem I1 {g:aj} (h:bI g=true) (t:Bool):iZ (nz t) g.rules 16 (cy g)=av g t:=by
 have a:=bD h
 have hl:(cy g).length=g.ak.length:=by simp[cy]
 have:=a.ak
 rw[BA _ _ _ (by rw[hl];exact a.ak),L3,hl,av,Zn h]
theorem RF {g:aj} (h:bI g=true):iZ (uJ (av g true)) g.rules 16 ((cy g).set g.start.toNat true)=cd g:=by
 have a:=bD h
 have hl:((cy g).set g.start.toNat true).length=g.ak.length:=by simp[cy]
 rw[BA _ _ _ (by rw[hl];exact a.ak),Mi,hl,cd,Zn h]
def wC:SF:=⟨ae [ab [cw 1 0,cq 2 1],ae [ab [aT 3 4 1,bh 4 52 [3],c6 5 4],bc 5 (ae [ab [cq 2 1],.ret])],ab [aT 6 4 1,ao 7 1 1,ai 8 7,aP 9 8,((some 10),.op (.make 1 1 [(.val (.bool false))] (.tmp 9) (.tmp 9))),qb 11 169 [(.tmp 6),(.tmp 10),(.val (.fn 170 [] []))],aa 2 11],.ret],
 [.tmp 2],12⟩
theorem Bq:aN Tryz.prog 118 [1]=some wC:=by kernel_rfl
def tC:SF:=⟨ae [ab [cw 1 0,cq 2 1],ae [ab [aT 3 4 1,bh 4 52 [3],c6 5 4],bc 5 (ae [ab [cq 2 1],.ret])],ab [aT 6 4 1,ao 7 1 1,ai 8 7,aP 9 8,((some 10),.op (.make 1 1 [(.val (.bool false))] (.tmp 9) (.tmp 9))),qb 11 169 [(.tmp 6),(.tmp 10),(.val (.fn 195 [] []))],aa 2 11],.ret],
 [.tmp 2],12⟩
theorem yF:aN Tryz.prog 157 [1]=some tC:=by kernel_rfl
def uy:SF:=⟨ae [ab [cw 1 0,cq 2 1],ae [ab [aT 5 4 1,bh 6 52 [5],c6 7 6],bc 7 (ae [ab [cq 2 1],.ret])],ab [aT 8 4 1,bh 9 157 [8],((some 3),.op (.alloc [(.emp 1)])),bK 1 3 9],ab [ao 10 1 1,ai 11 10,aP 12 11,((some 13),.op (.make 1 1 [(.val (.bool false))] (.tmp 12) (.tmp 12))),aa 4 13],ab [aa 14 4,ao 15 3 1,ai 16 15,aH 17 1 14 16,(none,.op (.store 1 (.tmp 17) (.val (.val (.bool true)))))],ab [aT 18 4 1,aa 19 4,((some 20),.op (.uS 196 [] [(.tmp 3)])),bh 21 169 [18,19,20],aa 2 21],.ret],
 [.tmp 2],22⟩
theorem Ar:aN Tryz.prog 158 [1]=some uy:=by kernel_rfl
structure aj.Small (g:aj):Prop where
 names:g.ak.length+g.af.length<=1000
theorem Bk {a:aF} {id n:Nat} {is:List Bool} (b:a.view id=.arr 1 (dH is)) (c:n=is.length):dg a (.sl id 0 n 1) (bP is):=by
 subst c;exact BL b
theorem AZ (g:aj) (d:g.Ok) (hs:g.Small):cE Tryz.prog 118 [.agg (ag g)] (bP (av g false)):=by
 refine cE.of (dT g) ?_
 refine au.of mixed Bq ?_
 have i:=d.ak
 unfold aJ at i
 simp(disch:=omega)only[↓wr,seval,wq,wC,ag,encS]
 refine ax.pure (oZ g d hs.names) ?_
 repeat' (first | ((first|apply ah.dec|apply ah.eq|apply ah.ne|apply ah.split)<;>intro)|(simp(disch:=omega)only[↓wr,seval,wq,ag,encS]))
 .rename_i hr
  have b:=bD hr
  have h1:=b.pM
  have j:=b.ak
  try simp(disch:=omega)only[↓wr,seval,wq,ag,encS]
  refine⟨⟨by omega,by unfold aA;omega,by unfold aA;omega⟩,λh=>by omega,?_⟩
  intro _ n
  try simp(disch:=omega)only[↓wr,seval,wq,ag,encS]
  refine ax.dJ ((F5 g b.rules (nz false) 170 [] [] (by kernel_rfl) g.ak.length j (λr a is e=>⟨JK r is (by rw[e];exact b.uI d a),?_,?_⟩) n (cy g) (by simp[cy]) _ (by simp[View.set,cy]) (λH' _=>trivial)).mono ?_)
  .unfold nz;split <;> simp
  .intro m hm
   unfold nz at hm
   split at hm
   .simp only[aaj] at hm;subst hm
    exact⟨(d.aw r a).1,b.left r a⟩
   .simp at hm
  .rintro r H' ⟨rfl,c,_⟩
   simp(disch:=omega)only[↓wr,seval,wq]
   intro k f
   rw[I1 hr] at c
   exact Bk (by rw[f];exact c) (fV hr _).symm
 .rename_i hr
  intro k f
  simp only[av,hr]
  exact .emp _
theorem xC (g:aj) (d:g.Ok) (hs:g.Small):cE Tryz.prog 157 [.agg (ag g)] (bP (av g true)):=by
 refine cE.of (dT g) ?_
 refine au.of mixed yF ?_
 have i:=d.ak
 unfold aJ at i
 simp(disch:=omega)only[↓wr,seval,wq,tC,ag,encS]
 refine ax.pure (oZ g d hs.names) ?_
 repeat' (first | ((first|apply ah.dec|apply ah.eq|apply ah.ne|apply ah.split)<;>intro)|(simp(disch:=omega)only[↓wr,seval,wq,ag,encS]))
 .rename_i hr
  have b:=bD hr
  have h1:=b.pM
  have j:=b.ak
  try simp(disch:=omega)only[↓wr,seval,wq,ag,encS]
  refine⟨⟨by omega,by unfold aA;omega,by unfold aA;omega⟩,λh=>by omega,?_⟩
  intro _ n
  try simp(disch:=omega)only[↓wr,seval,wq,ag,encS]
  refine ax.dJ ((F5 g b.rules (nz true) 195 [] [] (by kernel_rfl) g.ak.length j (λr a is e=>⟨GG r is (by rw[e];exact b.uI d a),?_,?_⟩) n (cy g) (by simp[cy]) _ (by simp[View.set,cy]) (λH' _=>trivial)).mono ?_)
  .unfold nz;split <;> simp
  .intro m hm
   unfold nz at hm
   split at hm
   .simp only[aaj] at hm;subst hm
    exact⟨(d.aw r a).1,b.left r a⟩
   .simp at hm
  .rintro r H' ⟨rfl,c,_⟩
   simp(disch:=omega)only[↓wr,seval,wq]
   intro k f
   rw[I1 hr] at c
   exact Bk (by rw[f];exact c) (fV hr _).symm
 .rename_i hr
  intro k f
  simp only[av,hr]
  exact .emp _
theorem rX {g:aj} (hr:bI g=true):(cd g).length=g.ak.length:=by
 rw[cd,Zn hr,Dp (f:=sn g (av g true)) (λis=>C7 (λis x=>PN _ is x) g.rules is)]
 simp[cy]
theorem IA (g:aj) (f:g.Ok) (hs:g.Small):cE Tryz.prog 158 [.agg (ag g)] (bP (cd g)):=by
 refine cE.of (dT g) ?_
 refine au.of mixed Ar ?_
 have y:=f.ak
 unfold aJ at y
 simp(disch:=omega)only[↓wr,seval,wq,uy,ag,encS]
 refine ax.pure (oZ g f hs.names) ?_
 repeat' (first | ((first|apply ah.dec|apply ah.eq|apply ah.ne|apply ah.split)<;>intro)|(simp(disch:=omega)only[↓wr,seval,wq,ag,encS]))
 .rename_i hr
  have d:=bD hr
  have h1:=d.pM
  have A:=d.ak
  have C:=d.nM
  have D:=d.start
  have p:=fV hr true
  try simp(disch:=omega)only[↓wr,seval,wq,ag,encS]
  refine ax.pure (xC g f hs).pure ?_
  simp(disch:=omega)only[↓wr,seval,wq,ag,encS,bP]
  intro q
  try simp(disch:=omega)only[↓wr,seval,wq,ag,encS,set_set]
  refine⟨⟨by omega,by unfold aA;omega,by unfold aA;omega⟩,λh=>by omega,?_⟩
  intro _ n t
  have e:=(cP t cI).1
  try simp(disch:=omega)only[↓wr,seval,wq,ag,encS,set_set]
  have i:=mg (is:=cy g) (show g.start.toNat < (cy g).length by simp[cy];omega)
  refine⟨by omega,by simp;omega,?_⟩
  refine ax.dJ ((F5 g d.rules (uJ (av g true)) 196 [.ptr q 0 0] [.aI [bP (av g true)] 0] (by kernel_rfl) g.ak.length A (λr c is j=>⟨IG r is (av g true) (by rw[j];exact d.uI f c) (by rw[j,p]),?_,?_⟩) n ((cy g).set g.start.toNat true) (by simp[cy]) _ ?_ (λH' u=>⟨ep.box (z:=1) ?_ ?_,trivial⟩)).mono ?_)
  .have E:=d.right r c
   unfold uJ
   split
   .have:(iC r.right).length<=r.right.length:=by simp only[iC,Zr];exact aac _ _
    omega
   .simp
  .intro m hm
   unfold uJ at hm
   split at hm
   .simp only[iC,ZF,aag,ZA] at hm
    obtain⟨s,⟨k,l⟩,rfl⟩:=hm
    have a:=d.neg c k l
    have b:=((f.aw r c).2.2.2 s k).1
    exact⟨⟨by omega,by omega⟩,by omega,a⟩
   .simp at hm
  .simp only[View.set,if_true]
   congr 1
   rw[<-mA]
   unfold cy at i ⊢
   rw[AU,i]
   rfl
  .rw[u q (by simp[View.set,Ne.symm e]) (Ne.symm e)]
   simp[View.set,Ne.symm e]
   rfl
  .intro v w;simp at w;subst w;exact iA _
  .rintro r H' ⟨rfl,o,_⟩
   simp(disch:=omega)only[↓wr,seval,wq]
   intro B x
   rw[RF hr] at o
   exact Bk (by rw[x];exact o) (by rw[rX hr])
 .rename_i hr
  intro B x
  simp only[cd,hr]
  exact .emp _
def cF (p q:List Bool) (r:bu):Bool:=q.getD r.left.toNat false && c7 r.right p true
def di (p q:List Bool):List bu->Int->List Int
 | [],_=>[]
 | r :: l,i=>if cF p q r=true then i :: di p q l (i+1) else di p q l (i+1)
def gM (acc:List Int) (r:bu):List Int:=if r.left∈acc then acc else acc ++ [r.left]
def cG (p q:List Bool) (l:List bu):List Int:=(l.filter (cF p q)).foldl gM []
def bX (o:List Int) (x:Int):Int:=cR (λy=>y == x) o 0
def b6 (f:Int->Int) (r:bu):bu:=⟨f r.left,r.right.map λs=>if s < 0 then -1 - f (-1 - s) else s,r.prec⟩
def th (g:aj) (f:Int->Int) (p q:List Bool):aj :=
 ⟨g.af,(cG p q g.rules).map λx=>g.ak.getD x.toNat ⟨#[]⟩,(g.rules.filter (cF p q)).map (b6 f),f g.start⟩
def xM:aj:=⟨[],[],[],0⟩
instance:DecidableEq Term:=λa b=>decidable_of_iff (a.name=b.name/\a.level=b.level/\a.assoc=b.assoc) (by cases a;cases b;simp)
instance:DecidableEq bu:=λa b=>decidable_of_iff (a.left=b.left/\a.prec=b.prec/\a.right=b.right) (by cases a;cases b;simp[and_comm])
instance:DecidableEq aj:=λa b=>decidable_of_iff (a.af=b.af/\a.ak=b.ak/\a.rules=b.rules/\a.start=b.start) (by cases a;cases b;simp)
def gZ (g:aj):aj × List Int × Int :=
 if bI g=true then
  if (av g true).getD g.start.toNat false=true then (th g (bX (cG (av g true) (cd g) g.rules)) (av g true) (cd g),di (av g true) (cd g) g.rules 0,0)
  else (xM,[],9)
 else (xM,[],1)
theorem uD {g:aj} (hr:bI g=true):gZ g=if (av g true).getD g.start.toNat false=true then (th g (bX (cG (av g true) (cd g) g.rules)) (av g true) (cd g),di (av g true) (cd g) g.rules 0,0) else (xM,[],9):=by
 rw[gZ,Zn hr]
theorem lT (p q:List Bool):∀ (a b:List bu) (i:Int),di p q (a ++ b) i=di p q a i ++ di p q b (i+a.length)
 | [],b,i=>by simp[di]
 | r :: a,b,i=>by
  simp only[Z4,di,lT p q a b (i+1),ZB]
  have:i+1+(a.length:Int)=i+((a.length+1:Nat):Int):=by push_cast;omega
  rw[this]
  split <;> simp
theorem mh (p q:List Bool):∀ (a:List bu) (i:Int),(di p q a i).length=(a.filter (cF p q)).length
 | [],i=>rfl
 | r :: a,i=>by
  simp only[di,abg]
  split <;> simp[mh p q a]
theorem wi (p q:List Bool):∀ (a:List bu) (i:Int) (k:Nat),k < (di p q a i).length->∃ m:Nat,(di p q a i)[k]?=some (i+m)/\a[m]?=(a.filter (cF p q))[k]?/\m < a.length
 | [],i,k,h=>by simp[di] at h
 | r :: a,i,k,h=>by
  simp only[di,abg] at h ⊢
  by_cases hr:cF p q r=true
  .rw[Zn hr] at h ⊢
   rw[Zn hr]
   cases k with
   | zero=>exact⟨0,by simp,by simp,by simp⟩
   | succ k =>
    obtain⟨m,h1,b,c⟩:=wi p q a (i+1) k (by simpa using h)
    exact⟨m+1,by rw[aae,h1];congr 1;push_cast;omega,by simpa using b,by simpa using c⟩
  .rw[Zk hr] at h ⊢
   rw[Zk hr]
   obtain⟨m,h1,b,c⟩:=wi p q a (i+1) k h
   exact⟨m+1,by rw[h1];congr 1;push_cast;omega,by simpa using b,by simpa using c⟩
theorem vG (p q:List Bool) (l:List bu) (r:bu):cG p q (l ++ [r])=if cF p q r=true then gM (cG p q l) r else cG p q l:=by
 unfold cG
 rw[aaS]
 by_cases h:cF p q r=true
 .rw[Zn h,List.filter_cons_of_pos h,Z7];rfl
 .rw[Zk h,List.filter_cons_of_neg h];simp
theorem E6 {acc:List Int} {r:bu} (h:acc.Nodup):(gM acc r).Nodup:=by
 unfold gM
 split
 .exact h
 .rename_i d
  rw[aak]
  exact⟨h,by simp,λa f b c e=>d (by simp at c;rw[<-c,<-e];exact f)⟩
theorem vr {o:List Int} {x:Int} : bX o x < 0↔x ∉ o:=by
 have:=vc (λy=>y == x) o 0 (by omega)
 unfold bX
 rw[<-Int.not_le]
 constructor
 .intro h a
  have e:(o.any λy=>y == x)=true:=List.any_eq_true.2 ⟨x,a,by simp⟩
  rw[e] at this;exact h (by simpa using this)
 .intro h a
  have e:(o.any λy=>y == x)=true:=by rw[<-this];simpa using a
  obtain⟨y,b,e⟩:=List.any_eq_true.1 e
  simp at e;subst e;exact h b
theorem w9 {α:Type} (p:α->Bool):∀ (a b:List α) (i:Int),0<=i->cR p (a ++ b) i=if 0<=cR p a i then cR p a i else cR p b (i+a.length)
 | [],b,i,_=>by simp[cR]
 | x :: a,b,i,h=>by
  by_cases hp:p x=true
  .simp[cR,hp,h]
  .simp only[Z4,cR,Zk hp]
   rw[w9 p a b (i+1) (by omega)]
   have:i+1+(a.length:Int)=i+(((x :: a).length:Nat):Int):=by simp;omega
   rw[this]
theorem Q4 {o:List Int} {x y:Int} (c:x ∉ o):bX (o ++ [x]) y=if y=x then (o.length:Int) else bX o y:=by
 unfold bX
 rw[w9 _ _ _ _ (by omega)]
 by_cases e:y=x
 .subst e
  rw[Zk (by have:=vr.2 c;unfold bX at this;omega),Zn rfl]
  simp[cR]
 .rw[Zk e]
  split
  .rfl
  .rename_i h
   have:bX o y < 0:=by unfold bX;omega
   have b:cR (λz=>z == y) [x] (0+(o.length:Int)) = -1:=by simp[cR,Ne.symm e]
   rw[b]
   have:∀ (l:List Int) (i:Int),¬ 0<=cR (λz=>z == y) l i->0<=i->cR (λz=>z == y) l i = -1:=by
    intro l
    induction l with
    | nil=>intro i _ _;rfl
    | cons z l d =>
     intro i h1 b
     simp only[cR] at h1 ⊢
     split
     .rename_i a;rw[Zn a] at h1;omega
     .rename_i a;rw[Zk a] at h1;exact d _ h1 (by omega)
   exact(this o 0 h (by omega)).symm
theorem rF {o:List Int} {x:Int} (h:x∈o):0<=bX o x/\bX o x < o.length:=by
 have a:¬ bX o x < 0:=λe=>vr.1 e h
 refine⟨by omega,?_⟩
 unfold bX
 have:∀ (l:List Int) (i:Int),cR (λz=>z == x) l i < i+l.length∨cR (λz=>z == x) l i = -1:=by
  intro l
  induction l with
  | nil=>intro i;right;rfl
  | cons z l b =>
   intro i
   simp only[cR]
   split
   .left;simp;omega
   .rcases b (i+1) with h | h
    .left;simp at h ⊢;omega
    .right;exact h
 rcases this o 0 with h1 | h1
 .simpa using h1
 .unfold bX at a;omega
theorem WE (o:List Int) (x:Int) : -1<=bX o x/\bX o x<=o.length:=by
 by_cases h:x∈o
 .have:=rF h;omega
 .have h1:=vr.2 h
  have a:∀ (l:List Int) (i:Int),0<=i->-1<=cR (λz=>z == x) l i:=by
   intro l
   induction l with
   | nil=>intro i _;simp[cR]
   | cons z l b =>
    intro i hi
    simp only[cR]
    split
    .omega
    .exact b _ (by omega)
  have:=a o 0 (by omega)
  unfold bX at h1 ⊢
  omega
def kE:List Int->Int->List (Int × Int)
 | [],_=>[]
 | x :: l,i=>(x,i) :: kE l (i+1)
theorem vR (x:Int):∀ (o:List Int) (i:Int),eV (kE o i) x=if x∈o then some (cR (λy=>y == x) o i) else none
 | [],i=>by simp[kE,eV]
 | y :: o,i=>by
  have a:=vR x o (i+1)
  unfold eV at a ⊢
  simp only[kE,aa5,cR]
  by_cases e:x=y
  .subst e;simp
  .have b:¬ ((y == x)=true):=by simp[Ne.symm e]
   rw[show (x == y)=false by simp[e],Zk b]
   simp only
   rw[a]
   simp[e]
theorem G7 {x v:Int} : ∀ {o:List Int} {i:Int},x ∉ o->lj x v (kE o i)=kE o i ++ [(x,v)]
 | [],i,_=>rfl
 | y :: o,i,h=>by
  simp only[Zz,not_or] at h
  simp only[kE,lj,show (x == y)=false by simp[h.1],ZM,if_false,G7 h.2,Z4]
theorem Ev {x:Int} : ∀ {o:List Int} {i:Int},kE (o ++ [x]) i=kE o i ++ [(x,i+o.length)]
 | [],i=>by simp[kE]
 | y :: o,i=>by
  simp only[Z4,kE,Ev (o:=o),ZB]
  congr 4
  push_cast;omega
def eN (o:List Int) (x:Int):Int:=(eV (kE o 0) x).getD 0
theorem Ca {o:List Int} {x:Int} (h:x∈o):eN o x=bX o x:=by
 simp[eN,vR,h,bX]
theorem Wd (o:List Int) (x:Int):0<=eN o x/\eN o x<=o.length:=by
 by_cases h:x∈o
 .rw[Ca h];have:=rF h;omega
 .simp[eN,vR,h]
theorem Sr {g:aj} {p q:List Bool} (a:g.start∈cG p q g.rules) (b:∀ r∈g.rules.filter (cF p q),r.left∈cG p q g.rules/\∀ s∈r.right,s < 0->-1 - s∈cG p q g.rules) :
  th g (eN (cG p q g.rules)) p q=th g (bX (cG p q g.rules)) p q:=by
 unfold th
 congr 1
 .apply abm
  intro r hr
  obtain⟨h1,c⟩:=b r hr
  unfold b6
  congr 1
  .exact Ca h1
  .apply abm
   intro s hs
   split
   .rename_i h;rw[Ca (c s hs h)]
   .rfl
 .exact Ca a
theorem yj:∀ (l:List bu) (acc:List Int) (x:Int),x∈l.foldl gM acc↔x∈acc∨∃ r∈l,r.left=x
 | [],acc,x=>by simp
 | r :: l,acc,x=>by
  rw[ZS,yj l]
  have:x∈gM acc r↔x∈acc∨r.left=x:=by
   unfold gM
   split
   .rename_i h
    constructor
    .exact .inl
    .rintro (a | rfl)
     .exact a
     .exact h
   .simp[eq_comm]
  rw[this]
  simp only[Zz,exists_eq_or_imp]
  constructor
  .rintro ((h | h) | h)
   .exact .inl h
   .exact .inr (.inl h)
   .exact .inr (.inr h)
  .rintro (h | h | h)
   .exact .inl (.inl h)
   .exact .inl (.inr h)
   .exact .inr h
theorem uz {p q:List Bool} {l:List bu} {x:Int} : x∈cG p q l↔∃ r∈l,cF p q r=true/\r.left=x:=by
 unfold cG
 rw[yj]
 simp[aag,and_assoc]
def nN:SC :=
 ae [ae [ab [aa 42 9,aa 43 8,aP 44 43,aS 45 .lss 42 44],bT 45 (.exit 0)],.block 1 (ab [aa 48 8,aa 49 9,aH 50 1 48 49,(none,.op (.store 1 (.tmp 50) (.val (.val (.int .i64 (-1))))))]),ab [aa 46 9,aG 47 .add 46 1,aa 9 47]]
def nR:SC :=
 ae [ae [ab [aa 51 11,ao 52 2 1,ai 53 52,aP 54 53,aS 55 .lss 51 54],bT 55 (.exit 2)],.block 3 (ae [ab [ao 58 2 1,ai 59 58,aa 60 11,aH 61 3 59 60,aT 62 3 61,((some 12),.op (.alloc [(.val (.int .i64 0)),(.emp 1),(.val (.int .i64 0))])),bK 3 12 62],ae [.region false [⟨none,[aa 63 6,ao 64 0 12,ai 65 64,aH 66 1 63 65,ai 67 66,c6 68 67,aa 69 68]⟩,⟨(some (69,false)),[ao 70 1 12,ai 71 70,aa 72 5,qb 73 117 [(.tmp 71),(.tmp 72),(.val (.val (.bool true)))],c6 74 73]⟩,⟨none,[cD 75 69 74]⟩],bc 75 (.exit 3)],ab [aa 76 10,aa 77 11,((some 78),.op (.bO 1 1 [(.val (.int .i64 0))] [(0,(.tmp 77))])),eE 79 1 8 76 78,aa 10 79],ab [aa 80 8,ao 81 0 12,ai 82 81,aH 83 1 80 82,ai 84 83,aG 85 .lss 84 0],bc 85 (ae [ab [aa 86 8,ao 87 0 12,ai 88 87,ao 89 1 7,ai 90 89,aP 91 90,aH 92 1 86 88,bK 1 92 91],.region false [⟨none,[ao 93 1 7,ai 94 93,ao 95 1 1,ai 96 95,ao 97 0 12,ai 98 97,aH 99 1 96 98,ai 100 99,((some 101),.op (.bO 1 1 [(.val (.string ⟨#[]⟩))] [(0,(.tmp 100))])),eE 102 1 16 94 101,ao 103 1 7,bK 1 103 102]⟩]])]),ab [aa 56 11,aG 57 .add 56 1,aa 11 57]]
def nA:SC :=
 ae [ae [ab [aa 126 16,ao 127 1 14,ai 128 127,aP 129 128,aS 130 .lss 126 129],bT 130 (.exit 6)],.block 7 (ae [ab [ao 133 1 14,ai 134 133,aa 135 16,aH 136 1 134 135,ai 137 136,aa 17 137],ae [ab [aa 138 17,aG 139 .lss 138 0],bc 139 (ab [aa 140 8,aa 141 17,((some 142),.op (.arith .sub (.val (.val (.int .i64 (-1)))) (.tmp 141))),aH 143 1 140 142,ai 144 143,((some 145),.op (.arith .sub (.val (.val (.int .i64 (-1)))) (.tmp 144))),aa 17 145])],ab [ao 146 1 15,ai 147 146,aa 148 17,((some 149),.op (.bO 1 1 [(.val (.int .i64 0))] [(0,(.tmp 148))])),eE 150 1 8 147 149,ao 151 1 15,bK 1 151 150]]),ab [aa 131 16,aG 132 .add 131 1,aa 16 132]]
def nI:SC :=
 ae [ae [ab [aa 104 13,aa 105 10,aP 106 105,aS 107 .lss 104 106],bT 107 (.exit 4)],.block 5 (ae [ab [ao 110 2 1,ai 111 110,aa 112 10,aa 113 13,aH 114 1 112 113,ai 115 114,aH 116 3 111 115,aT 117 3 116,((some 14),.op (.alloc [(.val (.int .i64 0)),(.emp 1),(.val (.int .i64 0))])),bK 3 14 117],ab [aa 118 8,ao 119 0 14,ai 120 119,aH 121 1 118 120,ai 122 121,ao 123 2 14,ai 124 123,((some 125),.op (.build [(.val (.int .i64 0)),(.emp 1),(.val (.int .i64 0))] [(0,1,(.tmp 122)),(2,1,(.tmp 124))])),((some 15),.op (.alloc [(.val (.int .i64 0)),(.emp 1),(.val (.int .i64 0))])),bK 3 15 125],ae [ab [aQ 16 0],bU 6 nA],ab [ao 152 2 7,ai 153 152,aT 154 3 15,((some 155),.op (.bO 1 3 [(.val (.int .i64 0)),(.emp 1),(.val (.int .i64 0))] [(0,(.tmp 154))])),eE 156 3 40 153 155,ao 157 2 7,bK 1 157 156]]),ab [aa 108 13,aG 109 .add 108 1,aa 13 109]]
def pT:SF:=⟨ae [ab [cw 1 0,((some 2),.op (.alloc [(.emp 1),(.emp 1),(.emp 1),(.val (.int .i64 0))])),cq 3 1,aQ 4 0],ae [ab [aT 18 4 1,bh 19 54 [18],c6 20 19],bc 20 (ae [ab [((some 21),.op (.build [(.emp 1),(.emp 1),(.emp 1),(.val (.int .i64 0))] [])),bK 4 2 21,cq 3 1,aQ 4 1],.ret])],.region true [⟨none,[aT 22 4 1,bh 23 115 [22],aT 24 4 1,bh 25 116 [24],aa 5 23,aa 6 25]⟩],ae [ab [aa 26 5,ao 27 3 1,ai 28 27,aH 29 1 26 28,ai 30 29,c6 31 30],bc 31 (ae [ab [((some 32),.op (.build [(.emp 1),(.emp 1),(.emp 1),(.val (.int .i64 0))] [])),bK 4 2 32,cq 3 1,aQ 4 9],.ret])],ab [cq 33 2,ao 34 0 1,ai 35 34,eE 36 3 32 33 35,((some 37),.op (.build [(.emp 1),(.emp 1),(.emp 1),(.val (.int .i64 0))] [(0,1,(.tmp 36))])),((some 7),.op (.alloc [(.emp 1),(.emp 1),(.emp 1),(.val (.int .i64 0))])),bK 4 7 37],ab [ao 38 1 1,ai 39 38,aP 40 39,((some 41),.op (.make 1 8 [(.val (.int .i64 0))] (.tmp 40) (.tmp 40))),aa 8 41],ae [ab [aQ 9 0],bU 0 nN],ab [cq 10 1],ae [ab [aQ 11 0],bU 2 nR],ae [ab [aQ 13 0],bU 4 nI],ab [aa 158 8,ao 159 3 1,ai 160 159,aH 161 1 158 160,ai 162 161,ao 163 3 7,bK 1 163 162],ab [aT 164 4 7,aa 165 10,bK 4 2 164,aa 3 165,aQ 4 0],.ret],
 [.cell 2 (some 4),.tmp 3,.tmp 4],166⟩
theorem vz:aN Tryz.prog 70 [1]=some pT:=by kernel_rfl
abbrev bF (l:List Int):List (List V):=l.map λx=>[gi x]
abbrev jw (l:List ByteArray):List (List V):=l.map λs=>[gs s]
theorem lY {l:List Int} {i:Nat} (h:i < l.length):(bF l).getD i []=[gi l[i]]:=by simp[Zi,h]
theorem ints_set (l:List Int) (i:Nat) (x:Int):(bF l).set i [gi x]=bF (l.set i x):=by simp[aaR]
theorem Wz {l:List Int} (h:0 < l.length):bF l≠[]:=by intro e;rw[List.map_eq_nil_iff] at e;rw[e] at h;simp at h
theorem zV {α:Type} {x:α} : ∀ {l:List α} {i:Nat},i < l.length->(l.set i x).take (i+1)=l.take i ++ [x]
 | y :: l,0,_=>by simp
 | y :: l,i+1,h=>by
  have:=zV (x:=x) (l:=l) (i:=i) (by simpa using h)
  simp only[List.set_cons_succ,aa7,this,Z4]
def gj (n:Nat) (o:List Int):List Int:=(List.range n).map λ(x:Nat)=>bX o (x:Int)
theorem Wg (n:Nat):gj n []=List.replicate n (-1):=by
 apply List.ext_getElem
 .simp[gj]
 .intro i h1 a
  simp[gj,bX,cR]
theorem Cf {n:Nat} {o:List Int} {x:Int} (a:0<=x) (h1:x < n):(gj n o)[x.toNat]'(by simp[gj];omega)=bX o x:=by
 simp[gj,show ((x.toNat:Nat):Int)=x by omega]
theorem Ww {n:Nat} {o:List Int} {x:Int} (b:0<=x) (h1:x < n) (a:x ∉ o):(gj n o).set x.toNat o.length=gj n (o ++ [x]):=by
 apply List.ext_getElem
 .simp[gj]
 .intro i c d
  rw[List.getElem_set]
  simp only[gj,List.getElem_map,List.getElem_range]
  rw[Q4 a]
  by_cases e:x.toNat=i
  .rw[Zn e,Zn (by omega)]
  .rw[Zk e,Zk (by omega)]
abbrev wc:=List (V × bu)
def fG (b:wc):List (List V):=b.map λx=>[gi x.2.left,x.1,gi x.2.prec]
def jn (b:wc):List ct:=b.map λx=>(x.1,1,bF x.2.right)
theorem HU {h:aF} {u:V} {b:wc} (c:aV h.view u 3 (fG b)) (f:∀ x∈jn b,aV h.view x.1 x.2.1 x.2.2):dg h u (.aD ((b.map (·.2)).map aO)):=by
 refine dg.own c (by simp[fG]) (λi hi=>?_) (λi j hi a=>?_)
 all_goals
  simp only[fG,Zr] at hi
  have e:(fG b).getD i []=[gi b[i].2.left,b[i].1,gi b[i].2.prec]:=by simp[fG,Zi,hi]
  have d:((b.map (·.2)).map aO).getD i []=aO b[i].2:=by simp[Zi,hi]
 .rw[e,d];rfl
 .rw[e,d]
  rw[d] at a
  have hm:b[i]∈b:=Zs _
  have c:=f (b[i].1,1,bF b[i].2.right) (ZF.2 ⟨_,hm,rfl⟩)
  match j,a with
  | 0,_=>exact .val _
  | 1,_=>exact kM c
  | 2,_=>exact .val _
  | n+3,a=>exact absurd a (by simp only[aO,ZB,ZW];omega)
theorem Ke {h:aF} {u:V} {l:List ByteArray} (a:aV h.view u 1 (jw l)):dg h u (encS l):=dg.Od (f:=Value.string) a
theorem GY {h:aF} {u:V} {l:List Term} (b:aV h.view u 3 (l.map bS)):dg h u (fi l):=by
 refine dg.own b rfl (λ_ _=>rfl) (λi j hi a=>?_)
 simp only[Zr] at hi
 have c:(l.map bS).getD i []=bS l[i]:=by simp[Zi,hi]
 rw[c] at a ⊢
 match j,a with
 | 0,_=>exact .val _
 | 1,_=>exact .val _
 | 2,_=>exact .val _
 | n+3,a=>exact absurd a (by simp only[bS,ZB,ZW];omega)
def yV (x:aj × List Int × Int):V:=.bt [.agg (ag x.1),encI x.2.1,gi x.2.2]
theorem yW {h:aF} {e:Int} {b k2 c d:Nat} : dg h (.bt [.agg [.emp b,.emp k2,.emp c,gi 0],.emp d,gi e]) (yV (xM,[],e)):=by
 refine .bt _ _ rfl λi hi=>?_
 match i,hi with
 | 0,_ =>
  refine .agg _ _ rfl λj a=>?_
  match j,a with
  | 0,_=>exact .emp _
  | 1,_=>exact .emp _
  | 2,_=>exact .emp _
  | 3,_=>exact .val _
  | n+4,a=>exact absurd a (by simp only[ZB,ZW];omega)
 | 1,_=>exact .emp _
 | 2,_=>exact .val _
 | n+3,hi=>exact absurd hi (by simp only[ZB,ZW];omega)
def WQ (g:aj) (p q:List Bool) (b2 b7 b8:Nat) (u0:V) (i:Nat) (T:Env) (H:View):Prop :=
 (∃ u1 u3:V,T 10=u3/\(∀ x∈cG p q (g.rules.take i),0<=x/\x < g.ak.length)/\(cG p q (g.rules.take i)).Nodup/\(cG p q (g.rules.take i)).length<=i /\
  aX H [(.sl b7 0 1 4,4,[[u0,u1,.emp 1,gi 0]]),(.sl b8 0 g.ak.length 1,1,bF (gj g.ak.length (cG p q (g.rules.take i)))),(u3,1,bF (di p q (g.rules.take i) 0)),
   (u1,1,jw ((cG p q (g.rules.take i)).map λx=>g.ak.getD x.toNat ⟨#[]⟩)),(u0,3,g.af.map bS),(.sl b2 0 1 4,4,[[.emp 1,.emp 1,.emp 1,gi 0]])]) /\
 T 1=.aI (ag g) 0/\T 2=.ptr b2 0 0/\T 5=bP p/\T 6=bP q/\T 7=.ptr b7 0 0/\T 8=.sl b8 0 g.ak.length 1/\T 11=gi i
def YK (g:aj) (p q:List Bool) (b2 b7 b8:Nat) (u0 u1 u3:V) (o kl:List Int) (i:Nat) (T:Env) (H:View):Prop :=
 (∃ (u2:V) (bs:wc),bs.map (·.2)=((g.rules.filter (cF p q)).take i).map (b6 (bX o)) /\
  aX H ((.sl b7 0 1 4,4,[[u0,u1,u2,gi 0]]) :: (.sl b8 0 g.ak.length 1,1,bF (gj g.ak.length o)) :: (u3,1,bF kl) ::
   (u1,1,jw (o.map λx=>g.ak.getD x.toNat ⟨#[]⟩)) :: (u0,3,g.af.map bS) :: (u2,3,fG bs) :: (.sl b2 0 1 4,4,[[.emp 1,.emp 1,.emp 1,gi 0]]) :: jn bs)) /\
 T 1=.aI (ag g) 0/\T 2=.ptr b2 0 0/\T 7=.ptr b7 0 0/\T 8=.sl b8 0 g.ak.length 1/\T 10=u3/\T 13=gi i
def Yi (g:aj) (b2 b7 b8 b14 b15:Nat) (u3:V) (o:List Int) (r:bu) (L:List ct) (i k:Nat) (T:Env) (H:View):Prop :=
 (∃ v:V,aX H ((.sl b15 0 1 3,3,[[gi (bX o r.left),v,gi r.prec]]) :: (v,1,bF ((b6 (bX o) r).right.take k)) :: (.sl b14 0 1 3,3,[aO r]) :: L)) /\
 T 1=.aI (ag g) 0/\T 2=.ptr b2 0 0/\T 7=.ptr b7 0 0/\T 8=.sl b8 0 g.ak.length 1/\T 10=u3/\T 13=gi i/\T 14=.ptr b14 0 0/\T 15=.ptr b15 0 0/\T 16=gi k
theorem Ma {h:aF} {c d e f:V} {x:aj × List Int × Int} {b:wc} (g:aV h.view c 3 (x.1.af.map bS)) (h1:aV h.view d 1 (jw x.1.ak)) (k:aV h.view e 3 (fG b)) (l:∀ y∈jn b,aV h.view y.1 y.2.1 y.2.2)
  (hr:b.map (·.2)=x.1.rules) (m:aV h.view f 1 (bF x.2.1)):dg h (.bt [.agg [c,d,e,gi x.1.start],f,gi x.2.2]) (yV x):=by
 refine .bt _ _ rfl λi hi=>?_
 match i,hi with
 | 0,_ =>
  refine .agg _ _ rfl λj a=>?_
  match j,a with
  | 0,_=>exact GY g
  | 1,_=>exact Ke h1
  | 2,_=>have:=HU k l;rw[hr] at this;exact this
  | 3,_=>exact .val _
  | n+4,a=>exact absurd a (by simp only[ZB,ZW];omega)
 | 1,_=>exact kM m
 | 2,_=>exact .val _
 | n+3,hi=>exact absurd hi (by simp only[ZB,ZW];omega)
theorem Lp (g:aj) (hg:g.Ok):cE Tryz.prog 70 [.agg (ag g)] (yV (gZ g)):=by
 refine cE.of (dT g) ?_
 refine au.of mixed vz ?_
 simp(disch:=omega)only[↓wr,seval,wq,pT,ag,encS]
 intro M
 try simp(disch:=omega)only[↓wr,seval,wq,ag,encS]
 refine ax.pure (kH g hg) ?_
 repeat' (first | ((first|apply ah.dec|apply ah.eq|apply ah.ne|apply ah.split)<;>intro)|(simp(disch:=omega)only[↓wr,seval,wq,ag,encS,set_set]))
 .rename_i hr
  refine ax.pure (vU g hg) ?_
  simp(disch:=omega)only[↓wr,seval,wq,ag,encS]
  refine ax.pure (GA g hg).pure ?_
  have hf:=bD hr
  have h3:=hf.nM
  have h4:=hf.start
  have cN:=fV hr true
  have e7:=rX hr
  have c:=uD hr
  generalize av g true=p at cN c
  generalize cd g=q at e7 c
  have b4:p[g.start.toNat]?=some (p[g.start.toNat]'(by omega)):=Zj (by omega)
  have cS:p.getD g.start.toNat false=p[g.start.toNat]'(by omega):=by simp[Zi,b4]
  generalize p[g.start.toNat]'(by omega)=s at b4 cS
  rw[cS] at c
  simp(disch:=omega)only[↓wr,seval,wq,ag,encS,bP,Zm,b4]
  cases s with
  | false =>
   rw[Zk (by simp)] at c
   simp(disch:=omega)only[↓wr,seval,wq,ag,encS,set_set]
   rintro h' hh
   rw[c]
   exact yW
  | true =>
   rw[Zn rfl] at c
   simp(disch:=omega)only[↓wr,seval,wq,ag,encS,set_set]
   have hN:=hf.ak
   have hC:=hf.pM
   have hT:=hf.af
   have hR:=hf.rules
   refine bL (L:=[(.sl M 0 1 4,4,[[.emp 1,.emp 1,.emp 1,gi 0]])]) (aX.emp (aX.nil.new rfl 4 _)) (by simp[bS,aL]) (by unfold aA;simp;omega) (by unfold aA;simp;omega) ?_
   intro C H1 b5 _
   have c0:=b5.head.cells
   have k0:=b5.head.fj
   simp(disch:=omega)only[↓wr,seval,wq,ag,encS,c0,k0]
   intro P e8
   have fb:=b5.new e8 4 [[C,.emp 1,.emp 1,gi 0]]
   try simp(disch:=omega)only[↓wr,seval,wq,ag,encS,c0,k0,set_set]
   refine⟨⟨by omega,by unfold aA;omega,by unfold aA;omega⟩,λh=>by omega,?_⟩
   intro _ B cV
   have c3:=(cP cV cI).1
   have j:=fb.new (n:=B) (by simp only[View.set,Zk c3];exact(cP (cP cV cI).2 cI).2) 1 (bF (List.replicate g.ak.length 0))
   try simp(disch:=omega)only[↓wr,seval,wq,ag,encS,c0,k0,set_set]
   refine aR.up g.ak.length (λi T H=>(∃ l:List Int,l.length=g.ak.length/\l.take i=List.replicate i (-1) /\
    aX H [(.sl B 0 g.ak.length 1,1,bF l),(.sl P 0 1 4,4,[[C,.emp 1,.emp 1,gi 0]]),(C,3,g.af.map bS),(.sl M 0 1 4,4,[[.emp 1,.emp 1,.emp 1,gi 0]])]) /\
    T 1=.aI (ag g) 0/\T 2=.ptr M 0 0/\T 5=bP p/\T 6=bP q/\T 7=.ptr P 0 0/\T 8=.sl B 0 g.ak.length 1/\T 9=gi i) ?_ ?_
   .exact⟨⟨List.replicate g.ak.length 0,by simp,by simp,by simpa [set_set] using j⟩,rfl,rfl,rfl,rfl,rfl,rfl,rfl⟩
   rintro i k T H2 hk ⟨⟨l,G,t,f⟩,t1,t2,t5,t6,t7,t8,t9⟩
   simp(disch:=omega)only[↓wr,seval,wq,nN,t1,t2,t5,t6,t7,t8,t9]
   apply ah.dec<;>intro hc
   .have ff:bF l≠[]:=by intro e;rw[List.map_eq_nil_iff] at e;rw[e] at G;simp at G;omega
    have hb:=(f.obj ff).1
    have u:=lY (show i < l.length by omega)
    simp(disch:=omega)only[↓wr,seval,wq,t1,t2,t5,t6,t7,t8,t9,hb,u,Zr]
    refine⟨by omega,by omega,?_⟩
    refine aE hk (by omega) ⟨⟨l.set i (-1),by simp[G],?_,?_⟩,t1,t2,t5,t6,t7,t8,rfl⟩
    .rw[zV (by omega),t,List.replicate_succ']
    .rw[ints_set]
     exact f.put (by simp) (by simp[G])
   .rw[Zx (by omega)] at t
    rw[t] at f
    have ei:i=g.ak.length:=by omega
    subst ei
    simp(disch:=omega)only[↓wr,seval,wq,t1,t2,t5,t6,t7,t8,t9]
    have name_in:∀ o:List Int,(o.map λx=>g.ak.getD x.toNat ⟨#[]⟩).length=o.length:=λo=>by simp
    refine aR.up g.rules.length (WQ g p q M P B C) ?_ ?_
    .refine⟨⟨.emp 1,.emp 1,rfl,by simp[cG],by simp[cG],by simp[cG],?_⟩,t1,t2,t5,t6,t7,t8,rfl⟩
     have h4:=((((f.emp (k:=1) (sz:=1)).emp (k:=1) (sz:=1)).at 3 (by simp)).perm (AP.symm.cons _))
     have e0:cG p q (g.rules.take 0)=[]:=rfl
     rw[e0,Wg]
     exact h4
    clear f t1 t2 t5 t6 t7 t8 t9 G t
    rintro i k T H2 hk ⟨⟨J,u3,t10,ar,bb,b9,f⟩,t1,t2,t5,t6,t7,t8,t11⟩
    simp(disch:=omega)only[↓wr,seval,wq,nR,t1,t2,t5,t6,t7,t8,t10,t11,ag]
    apply ah.dec<;>intro hc
    .have I:g.rules[i]?=some (g.rules[i]'(by omega)):=Zj (by omega)
     have z:g.rules[i]'(by omega)∈g.rules:=Zs _
     have D:g.rules.take (i+1)=g.rules.take i ++ [g.rules[i]'(by omega)]:=by rw[ZG,I];rfl
     generalize g.rules[i]'(by omega)=r at I z D
     obtain⟨G,t,Q,fl,bd⟩:=hf.uI hg z
     have ca:q[r.left.toNat]?=some (q[r.left.toNat]'(by omega)):=Zj (by omega)
     have lu:q.getD r.left.toNat false=q[r.left.toNat]'(by omega):=by simp[Zi,ca]
     generalize q[r.left.toNat]'(by omega)=qs at ca lu
     simp(disch:=omega)only[↓wr,seval,wq,t1,t2,t5,t6,t7,t8,t10,t11,ag,aO,Zm,I]
     intro c5 c9
     have A:=f.new c9 3 [aO r]
     try simp(disch:=omega)only[↓wr,seval,wq,t1,t2,t5,t6,t7,t8,t10,t11,aO,encI,bP,Zm,ca,set_set]
     have R:∀ (T2:Env) (H':View),cF p q r=false->H'=H2.set c5 (.arr 3 [aO r])->T2 10=u3->T2 1=.aI (ag g) 0->T2 2=.ptr M 0 0->T2 5=bP p->T2 6=bP q->T2 7=.ptr P 0 0->T2 8=.sl B 0 g.ak.length 1->T2 11=gi ((i:Int)+1) ->
       ∃ k',k' < k/\FM g.rules.length k' (WQ g p q M P B C) T2 H':=by
      intro T2 H' S fm fs a1 a2 a5 a6 a7 a8 ft
      have N:cG p q (g.rules.take (i+1))=cG p q (g.rules.take i):=by rw[D,vG,Zk (by simp[S])]
      have e2:di p q (g.rules.take (i+1)) 0=di p q (g.rules.take i) 0:=by rw[D,lT];simp[di,S]
      refine aE hk (by omega) ⟨⟨J,u3,fs,by rw[N];exact ar,by rw[N];exact bb,by rw[N];omega,by rw[N,e2,fm];exact A.tail⟩,a1,a2,a5,a6,a7,a8,by rw[ft];rfl⟩
     cases qs with
     | false =>
      simp(disch:=omega)only[↓wr,seval,wq,t1,t2,t5,t6,t7,t8,t10,t11]
      refine R _ _ (by rw[cF,lu];rfl) ?_ ?_ ?_ ?_ ?_ ?_ ?_ ?_ ?_
      all_goals first | exact t10 | exact t1 | exact t2 | exact t5 | exact t6 | exact t7 | exact t8 | rfl | (rw[set_set];rfl)
     | true =>
      simp(disch:=omega)only[↓wr,seval,wq,t1,t2,t5,t6,t7,t8,t10,t11,aO,encI,bP]
      refine ax.pure (K9 r.right p true (hg.aw r z).2.2.1 (λs hs=>⟨(bd s hs).1,λh=>by rw[cN];exact(bd s hs).2 h⟩)) ?_
      simp(disch:=omega)only[↓wr,seval,wq,t1,t2,t5,t6,t7,t8,t10,t11]
      apply ah.split<;>intro cc
      .simp(disch:=omega)only[↓wr,seval,wq,t1,t2,t5,t6,t7,t8,t10,t11]
       have S:cF p q r=true:=by rw[cF,lu,cc];rfl
       intro m hm
       try simp(disch:=omega)only[↓wr,seval,wq,t1,t2,t5,t6,t7,t8,t10,t11,bm]
       have da:=(cP hm cI).1
       have hm:=(cP (cP hm cI).2 cI).2
       have d:=(A.fresh (n:=m) (o:=.arr 1 [[gi i]]) (by simp only[View.set,Zk da];exact hm)).at 3 (by simp)
       have db:(di p q (g.rules.take i) 0).length<=40:=by
        rw[mh]
        have h1:=aac (cF p q) (g.rules.take i)
        have h2:(g.rules.take i).length<=i:=List.length_take_le _ _
        have:=hf.rules
        omega
       refine bL (by rw[set_set];exact d) (by simp[aL]) (by unfold aA;simp at db ⊢;omega) (by unfold aA;simp at db ⊢;omega) ?_
       intro dj H3 j _
       have f12:=((j.at 1 (by simp)).obj (by simp)).1
       have f7:=((j.at 2 (by simp)).obj (by simp)).1
       have f8:=((j.at 3 (by simp)).obj (Wz (by simp[gj];omega))).1
       have cf:cT J=some (jw ((cG p q (g.rules.take i)).map λx=>g.ak.getD x.toNat ⟨#[]⟩)).length:=(j.at 4 (by simp)).head.len
       have u:=lY (l:=gj g.ak.length (cG p q (g.rules.take i))) (i:=r.left.toNat) (by simp[gj];omega)
       rw[Cf t Q] at u
       simp only[aO,encI] at f12
       simp(disch:=omega)only[↓wr,seval,wq,t1,t2,t5,t6,t7,t8,t11,f12,f7,f8,u]
       refine⟨by omega,by simp[gj];omega,?_⟩
       have e2:di p q (g.rules.take (i+1)) 0=di p q (g.rules.take i) 0 ++ [(i:Int)]:=by
        rw[D,lT];simp[di,S,show i<=g.rules.length by omega]
       have N:cG p q (g.rules.take (i+1))=gM (cG p q (g.rules.take i)) r:=by rw[D,vG,Zn S]
       generalize cG p q (g.rules.take i)=o at *
       generalize di p q (g.rules.take i) 0=kl at *
       apply ah.dec<;>intro dm
       .have hx:r.left ∉ o:=vr.1 dm
        have E:gM o r=o ++ [r.left]:=by rw[gM,Zk hx]
        have U:P≠B:=j.HH 2 3 rfl rfl (by omega)
        have W:c5≠B:=j.HH 1 3 rfl rfl (by omega)
        have cg:g.ak[r.left.toNat]?=some (g.ak[r.left.toNat]'(by omega)):=Zj (by omega)
        have br:g.ak.getD r.left.toNat ⟨#[]⟩=g.ak[r.left.toNat]'(by omega):=by simp[Zi,cg]
        generalize g.ak[r.left.toNat]'(by omega)=nm at cg br
        simp(disch:=omega)only[↓wr,seval,wq,t1,t2,t5,t6,t7,t8,t11,f12,f7,f8,u,cf,Zr]
        try refine⟨by omega,by simp[gj];omega,?_⟩
        try simp(disch:=omega)only[↓wr,seval,wq,t1,t2,t5,t6,t7,t8,t11,f12,f7,f8,u,cf,Zr,U,W,ag,encS,Zm,cg]
        intro m2 O
        have ds:=(cP O cI).1
        have O:=(cP O cI).2
        have fx:(bF (gj g.ak.length o)).set r.left.toNat [gi o.length]=bF (gj g.ak.length (o ++ [r.left])):=by rw[ints_set,Ww t Q hx]
        have ch:=(j.at 3 (by simp)).put (es':=(bF (gj g.ak.length o)).set r.left.toNat [gi o.length]) (by simp) (by simp[gj])
        have fz:=(ch.fresh (n:=m2) (o:=.arr 1 [[gs nm]]) (by simp only[View.set,Zk ds];exact O)).at 4 (by simp)
        have hA:o.length<=40:=by omega
        try simp(disch:=omega)only[↓wr,seval,wq,t1,t2,t5,t6,t7,t8,t11,f12,f7,f8,u,cf,Zr,U,W,bm]
        refine bL fz (by simp[aL]) (by unfold aA;simp;omega) (by unfold aA;simp;omega) ?_
        intro dv H5 bl _
        have c1:=bl.head.cells
        have k1:=bl.head.fj
        have cj:=((bl.at 4 (by simp)).obj (by simp)).1
        simp(disch:=omega)only[↓wr,seval,wq,t1,t2,t5,t6,t7,t8,t11,cj,c1,k1]
        have fB:=(bl.at 4 (by simp)).put (es':=[[C,dv,.emp 1,gi 0]]) rfl rfl
        have fS:=(((fB.at 4 (by simp)).tail).perm (AP.cons _))
        refine aE hk (by omega) ⟨⟨dv,dj,rfl,?_,?_,?_,?_⟩,t1,t2,t5,t6,t7,t8,rfl⟩
        .rw[N,E];intro x gd;rcases ZN.1 gd with h | h
         .exact ar x h
         .simp at h;subst h;exact⟨t,Q⟩
        .rw[N];exact E6 bb
        .rw[N,E];simp;omega
        .rw[N,E,e2]
         have:=fS
         rw[fx] at this
         simp only[ZD,ZJ,aaK,br]
         exact this
       .have hx:r.left∈o:=by
         refine aaB λh=>?_
         have:=vr.2 h
         omega
        have E:gM o r=o:=by rw[gM,Zn hx]
        simp(disch:=omega)only[↓wr,seval,wq,t1,t2,t5,t6,t7,t8,t11]
        have ch:=(((j.at 1 (by simp)).tail).perm AP)
        refine aE hk (by omega) ⟨⟨J,dj,rfl,?_,?_,?_,?_⟩,t1,t2,t5,t6,t7,t8,rfl⟩
        .rw[N,E];exact ar
        .rw[N,E];exact bb
        .rw[N,E];omega
        .rw[N,E,e2]
         simp only[ZD,ZJ,aaK]
         exact ch
      .simp(disch:=omega)only[↓wr,seval,wq,t1,t2,t5,t6,t7,t8,t10,t11]
       refine R _ _ (by rw[cF,lu,cc];rfl) ?_ ?_ ?_ ?_ ?_ ?_ ?_ ?_ ?_
       all_goals first | exact t10 | exact t1 | exact t2 | exact t5 | exact t6 | exact t7 | exact t8 | rfl | (rw[set_set];rfl)
    .rw[Zx (by omega)] at f ar bb b9
     have gk:(di p q g.rules 0).length<=40:=by
      rw[mh];have h1:=aac (cF p q) g.rules;omega
     have gl:=wi p q g.rules 0
     have hB:=mh p q g.rules 0
     have ck:g.start.toNat < (gj g.ak.length (cG p q g.rules)).length:=by simp[gj];omega
     have bx:=lY ck
     rw[Cf h3 h4] at bx
     have ea:th g (bX (cG p q g.rules)) p q=⟨g.af,(cG p q g.rules).map λx=>g.ak.getD x.toNat ⟨#[]⟩,(g.rules.filter (cF p q)).map (b6 (bX (cG p q g.rules))),bX (cG p q g.rules) g.start⟩:=rfl
     rw[ea] at c
     clear ea
     generalize cG p q g.rules=o at *
     generalize di p q g.rules 0=kl at *
     simp(disch:=omega)only[↓wr,seval,wq,t1,t2,t5,t6,t7,t8,t10,t11]
     refine aR.up kl.length (YK g p q M P B C J u3 o kl) ?_ ?_
     .refine⟨⟨.emp 1,[],by simp,?_⟩,t1,t2,t7,t8,t10,rfl⟩
      exact(f.emp (k:=1) (sz:=3)).perm (um [(.sl P 0 1 4,4,[[C,J,.emp 1,gi 0]]),(.sl B 0 g.ak.length 1,1,bF (gj g.ak.length o)),(u3,1,bF kl),(J,1,jw (o.map λx=>g.ak.getD x.toNat ⟨#[]⟩)),(C,3,g.af.map bS),(.emp 1,3,[]),(.sl M 0 1 4,4,[[.emp 1,.emp 1,.emp 1,gi 0]])] 5 (by simp)).symm
     clear f t1 t2 t5 t6 t7 t8 t10 t11
     rintro i k T H2 hk ⟨⟨u2,bs,bn,f⟩,t1,t2,t7,t8,t10,t13⟩
     have gr:cT u3=some (bF kl).length:=(f.own 2 rfl).len
     simp(disch:=omega)only[↓wr,seval,wq,nI,t1,t2,t7,t8,t10,t13,gr,Zr]
     apply ah.dec<;>intro hc
     .obtain⟨n3,e3,ha⟩:=(f.own 2 rfl).sl (by simp;omega)
      rw[Zr] at e3
      subst e3
      obtain⟨m,cr,O,X⟩:=gl i (by omega)
      have u:=lY (show i < kl.length by omega)
      rw[Int.zero_add] at cr
      have hj:kl[i]'(by omega)=(m:Int):=by
       rw[Zj (show i < kl.length by omega)] at cr;simpa using cr
      rw[hj] at u
      have I:g.rules[m]?=some (g.rules[m]'X):=Zj X
      have z:g.rules[m]'X∈g.rules:=Zs _
      have D:(g.rules.filter (cF p q)).take (i+1)=(g.rules.filter (cF p q)).take i ++ [g.rules[m]'X]:=by
       rw[ZG,<-O,I];rfl
      generalize g.rules[m]'X=r at I z D
      obtain⟨G,t,Q,fl,bd⟩:=hf.uI hg z
      simp(disch:=omega)only[↓wr,seval,wq,t1,t2,t7,t8,t10,t13,ha,u,Zr,ag,aO,Zm,I]
      refine⟨by omega,by omega,?_⟩
      intro eb b0
      have A:=f.new b0 3 [aO r]
      have f8:=A.is 2 rfl (by simp[gj];omega)
      have b1:=lY (l:=gj g.ak.length o) (i:=r.left.toNat) (by simp[gj];omega)
      rw[Cf t Q] at b1
      have cA:B≠eb:=A.HH 2 0 rfl rfl (by omega)
      have g8:H2 B=.arr 1 (bF (gj g.ak.length o)):=f.is 1 rfl (by simp[gj];omega)
      try simp(disch:=omega)only[↓wr,seval,wq,t1,t2,t7,t8,t10,t13,g8,cA,b1,Zr,set_set,encI]
      refine⟨by omega,by simp[gj];omega,?_⟩
      intro ee F
      have eg:=(cP F cI).1
      have F:=(cP (cP F cI).2 cI).2
      have d:=(((A.new (n:=ee) (by simp only[View.set,Zk eg];exact F) 3 [[gi (bX o r.left),.emp 1,gi r.prec]]).emp (k:=1) (sz:=1)).perm (.swap _ _ _))
      generalize hL:((V.sl P 0 1 4,4,[[C,J,u2,gi 0]]) :: (V.sl B 0 g.ak.length 1,1,bF (gj g.ak.length o)) :: (V.sl n3 0 kl.length 1,1,bF kl) ::
       (J,1,jw (o.map λx=>g.ak.getD x.toNat ⟨#[]⟩)) :: (C,3,g.af.map bS) :: (u2,3,fG bs) :: (V.sl M 0 1 4,4,[[V.emp 1,V.emp 1,V.emp 1,gi 0]]) :: jn bs:List ct)=L at d
      have hn:L[1]?=some (.sl B 0 g.ak.length 1,1,bF (gj g.ak.length o)):=by rw[<-hL];rfl
      try simp(disch:=omega)only[↓wr,seval,wq,t1,t2,t7,t8,t10,t13,set_set]
      refine aR.up r.right.length (Yi g M P B eb ee (.sl n3 0 kl.length 1) o r L i) ?_ ?_
      .exact⟨⟨.emp 1,by rw[set_set,set_set];exact d⟩,t1,t2,t7,t8,t10,t13,rfl,rfl,rfl⟩
      clear A d f8 g8 b0 F t1 t2 t7 t8 t10 t13
      rintro k k2 T H3 ek ⟨⟨v,w⟩,t1,t2,t7,t8,t10,t13,t14,t15,t16⟩
      have f14:=w.is 2 rfl (by simp)
      have f15:=w.is 0 rfl (by simp)
      have f8:H3 B=.arr 1 (bF (gj g.ak.length o)):=w.is 4 (by simpa using hn) (by simp[gj];omega)
      simp only[aO] at f14
      simp(disch:=omega)only[↓wr,seval,wq,nA,t1,t2,t7,t8,t10,t13,t14,t15,t16,f14,encI]
      apply ah.dec<;>intro ht
      .have cC:r.right[k]?=some (r.right[k]'(by omega)):=Zj (by omega)
       have en:r.right[k]'(by omega)∈r.right:=Zs _
       have Y:(b6 (bX o) r).right.take (k+1)=(b6 (bX o) r).right.take k ++ [if r.right[k]'(by omega) < 0 then -1 - bX o (-1 - r.right[k]'(by omega)) else r.right[k]'(by omega)]:=by
        rw[ZG];simp[b6,cC]
       have bq:((b6 (bX o) r).right.take k).length<=6:=by
        have h1:(b6 (bX o) r).right.length=r.right.length:=by simp[b6]
        have h2:((b6 (bX o) r).right.take k).length<=(b6 (bX o) r).right.length:=by rw[Z6];omega
        omega
       generalize r.right[k]'(by omega)=s at cC en Y
       obtain⟨⟨s1,s2⟩,s3⟩:=bd s en
       simp(disch:=omega)only[↓wr,seval,wq,t1,t2,t7,t8,t10,t13,t14,t15,t16,f14,encI,Zm,cC]
       have hD:=WE o (-1 - s)
       have hF:o.length<=40:=by omega
       apply ah.dec<;>intro K
       .rw[Zn K] at Y
        have eH:=s3 K
        have b3:=lY (l:=gj g.ak.length o) (i:=(-1 - s).toNat) (by simp[gj];omega)
        rw[Cf (by omega) eH] at b3
        simp(disch:=omega)only[↓wr,seval,wq,t1,t2,t7,t8,t10,t13,t14,t15,t16,f14,f15,f8,b3,Zr]
        refine⟨by omega,by simp[gj];omega,?_⟩
        intro m hm
        try simp(disch:=omega)only[↓wr,seval,wq,t1,t2,t7,t8,t10,t13,t14,t15,t16,bm]
        have Z:=(w.fresh (o:=.arr 1 [[gi (-1 - bX o (-1 - s))]]) hm).at 1 (by simp)
        refine bL Z (by simp[aL]) (by unfold aA;simp at bq ⊢;omega) (by unfold aA;simp at bq ⊢;omega) ?_
        intro v' H4 a _
        have cv:=a.head.cells
        have kv:=a.head.fj
        have an:=a.is 1 rfl (by simp)
        simp(disch:=omega)only[↓wr,seval,wq,t1,t2,t7,t8,t10,t13,t14,t15,t16,an,cv,kv]
        have aq:=(a.at 1 (by simp)).put (es':=[[gi (bX o r.left),v',gi r.prec]]) rfl rfl
        refine aE ek (by omega) ⟨⟨v',?_⟩,t1,t2,t7,t8,t10,t13,t14,t15,rfl⟩
        rw[Y]
        simp only[ZD,ZJ,aaK]
        exact aq
       .rw[Zk K] at Y
        simp(disch:=omega)only[↓wr,seval,wq,t1,t2,t7,t8,t10,t13,t14,t15,t16,f14,f15,f8]
        intro m hm
        try simp(disch:=omega)only[↓wr,seval,wq,t1,t2,t7,t8,t10,t13,t14,t15,t16,bm]
        have Z:=(w.fresh (o:=.arr 1 [[gi s]]) hm).at 1 (by simp)
        refine bL Z (by simp[aL]) (by unfold aA;simp at bq ⊢;omega) (by unfold aA;simp at bq ⊢;omega) ?_
        intro v' H4 a _
        have cv:=a.head.cells
        have kv:=a.head.fj
        have an:=a.is 1 rfl (by simp)
        simp(disch:=omega)only[↓wr,seval,wq,t1,t2,t7,t8,t10,t13,t14,t15,t16,an,cv,kv]
        have aq:=(a.at 1 (by simp)).put (es':=[[gi (bX o r.left),v',gi r.prec]]) rfl rfl
        refine aE ek (by omega) ⟨⟨v',?_⟩,t1,t2,t7,t8,t10,t13,t14,t15,rfl⟩
        rw[Y]
        simp only[ZD,ZJ,aaK]
        exact aq
      .rw[Zx (by simp[b6];omega)] at w
       subst hL
       have f7:=w.is 3 rfl (by simp)
       have cv:=(w.own 1 rfl).cells
       have kv:=(w.own 1 rfl).fj
       have e4:(fG bs).length<=40:=by
        have h1:=aau List.length bn
        simp only[Zr,Z6] at h1
        simp only[fG,Zr]
        omega
       simp(disch:=omega)only[↓wr,seval,wq,t1,t2,t7,t8,t10,t13,t14,t15,t16,f7,f15,cv,kv]
       intro m hm
       try simp(disch:=omega)only[↓wr,seval,wq,t1,t2,t7,t8,t10,t13,t14,t15,t16,bm]
       have Z:=(w.fresh (o:=.arr 3 [[gi (bX o r.left),v,gi r.prec]]) hm).at 8 (by simp)
       refine bL Z (by simp[xQ,kv]) (by unfold aA;simp at e4 ⊢;omega) (by unfold aA;simp at e4 ⊢;omega) ?_
       intro e5 H4 a _
       have cu:=a.head.cells
       have ku:=a.head.fj
       have cj:=a.is 4 rfl (by simp)
       simp(disch:=omega)only[↓wr,seval,wq,t1,t2,t7,t8,t10,t13,t14,t15,t16,cj,cu,ku]
       have aq:=(a.at 4 (by simp)).put (es':=[[C,J,e5,gi 0]]) rfl rfl
       have hz:=((((aq.at 2 (by simp)).tail).at 3 (by simp)).tail)
       refine aE hk (by omega) ⟨⟨e5,bs ++ [(v,b6 (bX o) r)],?_,?_⟩,t1,t2,t7,t8,t10,rfl⟩
       .rw[ZD,bn,D,ZD];rfl
       .refine hz.perm (.cons _ ?_)
        simp only[jn,fG,ZD,ZJ,aaK]
        refine .trans ?_ (um _ 4 (by simp)).symm
        refine .cons _ ?_
        exact(aaQ (v,1,bF (b6 (bX o) r).right) ((.sl B 0 g.ak.length 1,1,bF (gj g.ak.length o)) :: (.sl n3 0 kl.length 1,1,bF kl) :: (J,1,jw (o.map λx=>g.ak.getD x.toNat ⟨#[]⟩)) :: (C,3,g.af.map bS) :: (.sl M 0 1 4,4,[[.emp 1,.emp 1,.emp 1,gi 0]]) :: jn bs)).symm
     .rw[Zx (by omega)] at bn
      have f7:=f.is 0 rfl (by simp)
      have f8:H2 B=.arr 1 (bF (gj g.ak.length o)):=f.is 1 rfl (by simp[gj];omega)
      have f2:=f.is 6 rfl (by simp)
      have e6:P≠M:=f.HH 0 6 rfl rfl (by omega)
      have c1:=(f.own 3 rfl).cells
      have k1:=(f.own 3 rfl).fj
      have c2:=(f.own 5 rfl).cells
      have k2:=(f.own 5 rfl).fj
      simp(disch:=omega)only[↓wr,seval,wq,t1,t2,t7,t8,t10,t13,f7,f8,f2,e6,e6.symm,bx,c0,k0,c1,k1,c2,k2,ag,Zr]
      refine⟨by omega,by simp[gj];omega,λh' hh=>?_⟩
      have A:=f.put (es':=[[C,J,u2,gi (bX o g.start)]]) rfl rfl
      have d:=(A.at 6 (by simp)).put (es':=[[C,J,u2,gi (bX o g.start)]]) rfl rfl
      have hv:h'.view=(H2.set P (.arr 4 [[C,J,u2,gi (bX o g.start)]])).set M (.arr 4 [[C,J,u2,gi (bX o g.start)]]):=hh
      rw[<-hv] at d
      rw[c]
      exact Ma (x:=(⟨g.af,o.map λx=>g.ak.getD x.toNat ⟨#[]⟩,(g.rules.filter (cF p q)).map (b6 (bX o)),bX o g.start⟩,kl,0)) (b:=bs) (d.own 5 rfl) (d.own 4 rfl) (d.own 6 rfl) (λy hy=>d.1 y (by
       refine ZE _ (ZE _ (ZE _ (ZE _ (ZE _ (ZE _ (ZE _ ?_))))))
       exact hy)) bn (d.own 3 rfl)
 .rename_i hr
  intro h' hh
  rw[gZ,Zk (by simp[hr])]
  exact yW
theorem Lo {g:aj} (e:mq g=false):g.Small:=by
 simp only[mq,Bool.or_eq_false_iff,aaI] at e
 exact⟨by omega⟩
theorem TJ (g:aj):az Tryz.prog 16 [.agg (ag g)] (gb (mq g)):=az.val (dT g) λH=>(U7 g H).mono λ_ _ h=>h.1
theorem AV {a b:V} (c:Tree a) (d:Tree b):Tree (.bt [a,b]):=.bt _ λi hi=>by
 match i,hi with
 | 0,_=>exact c
 | 1,_=>exact d
 | n+2,h=>exact absurd h (by simp)
theorem Fc {H:View} {id n:Nat} {l:List Int} (a:H id=.arr 1 (bF l)) (b:n=l.length):ep H (.sl id 0 n 1) (encI l):=by
 subst b
 exact ep.own (sz:=1) (.inr ⟨id,by simp,a⟩) λe he v a=>by
  obtain⟨x,_,rfl⟩:=ZF.1 he
  simp at a;subst a;exact .val _
theorem dt.step {H H' H1:View} {u b:V} (h:dt H H' u) (l:Left H' H1 u b):dt H H1 b:=λid a=>by
 have h1:=h id a
 have c:=l id (by rw[h1.1];exact a) h1.2
 exact⟨c.1.trans h1.1,c.2⟩
theorem y9 {l:List Int} {k:Nat} (h:k<=l.length):dE 1 (.aD (l.map λx=>[gi x])) (some (gi k)) none=some (.aD ((l.drop k).map λx=>[gi x]),.none,[]):=by
 simp[dE,bound,asNat,h,List.all_map,List.map_drop]
 rw[Zx (by simp)]
theorem kj {P:Program} {t:TypeId} {d:TypeDesc} (hu:P.underlying t=some d) (hd:d=.string∨∃ k,d=.int k) (cs:Array Value) (off:Nat) {v:Value} (a:cs[off]?=some v):bM P (part t cs off)=some v:=by
 have b:bM P (isAgg t)=some false:=by
  rcases hd with rfl | ⟨k,rfl⟩
  all_goals simp only[isAgg,bC,eP hu,aaa];rfl
 simp only[part,bC,b,aaa,ZM,if_false,a]
 rfl
inductive gg (P:Program) (d:Nat) (xs ys:Array Value):List Field->Bool->Prop
 | nil:gg P d xs ys [] true
 | str (f:Field) (l:List Field) (c:Bool) (a b:ByteArray):(f.name≠ "_")->P.underlying f.type=some .string->xs[f.offset]?=some (.string a)->ys[f.offset]?=some (.string b)->gg P d xs ys l c->gg P d xs ys (f :: l) (a == b && c)
 | int (f:Field) (l:List Field) (c:Bool) (k:IntKind) (a b:Int):(f.name≠ "_")->P.underlying f.type=some (.int k)->xs[f.offset]?=some (.int k a)->ys[f.offset]?=some (.int k b)->gg P d xs ys l c->gg P d xs ys (f :: l) (a == b && c)
theorem gg.forIn {P:Program} {d e:Nat} {xs ys:Array Value} {l:List Field} {c:Bool} (h:gg P d xs ys l c) (hd:e=d+1) :
  bM P (forIn l ((none:Option Bool),()) λf _ =>
    if f.name≠ "_" then do
     let a <-part f.type xs f.offset
     let b <-part f.type ys f.offset
     let e <-Op.equalIn e f.type a b
     if (!e)=true then pure (ForInStep.done (some false,())) else pure (ForInStep.yield (none,()))
    else pure (ForInStep.yield (none,())))=some (if c=true then (none,()) else (some false,())):=by
 subst hd
 induction h with
 | nil=>rfl
 | str f l c a b g hu i j _ m =>
  have he:bM P (Op.equalIn (d+1) f.type (.string a) (.string b))=some (a == b):=by
   simp only[Op.equalIn,bC,eP hu,aaa];rfl
  rw[List.forIn_cons,bC,Zn g,bC,kj hu (.inl rfl) xs _ i,aaa,bC,kj hu (.inl rfl) ys _ j,aaa,bC,he,aaa]
  cases a == b with
  | false=>rfl
  | true=>exact m
 | int f l c k a b g hu i j _ m =>
  have he:bM P (Op.equalIn (d+1) f.type (.int k a) (.int k b))=some (a == b):=by
   simp only[Op.equalIn,bC,eP hu,aaa];rfl
  rw[List.forIn_cons,bC,Zn g,bC,kj hu (.inr ⟨k,rfl⟩) xs _ i,aaa,bC,kj hu (.inr ⟨k,rfl⟩) ys _ j,aaa,bC,he,aaa]
  cases a == b with
  | false=>rfl
  | true=>exact m
theorem uL {P:Program} {t:TypeId} {b:Array Field} {xs ys:Array Value} {c:Bool} (hu:P.underlying t=some (.struct b)) (hs:P.stoodInHeld t=false) (h:gg P 9998 xs ys b.toList c) :
  bM P (Op.equal t (.agg xs) (.agg ys))=some c:=by
 rw[mB]
 rw[Op.equalIn,bC,eP hu,aaa]
 have a:(bM P program)=some P:=rfl
 rw[bC,a,aaa,hs]
 simp only[<-Array.forIn_toList,ZM,if_false]
 rw[bC,h.forIn (e:=9999) rfl,aaa]
 cases c <;> rfl
theorem FP {P:Program} {o:Oper} {T:Env} {op:BinOp} {t u:TypeId} {x y:Operand} {f:Array Field} {xs ys:Array Value} {c r:Bool} (b:o.op=.binOp op t x y u) (hu:P.underlying t=some (.struct f)) (hs:P.stoodInHeld t=false) (g:P.eqGuardType P.depth t=false)
  (d:dx (ev T x)=some (.agg xs)) (e:dx (ev T y)=some (.agg ys)) (h:gg P 9998 xs ys f.toList c) (hr:(op=.eql/\r=c)∨(op=.neq/\r = !c)) :
  ej P o T=some (.val (.bool r),.none,[]):=by
 have he:=uL hu hs h
 have a:(bM P program)=some P:=rfl
 unfold ej
 simp only[b,Op.operands,d,e]
 rcases hr with ⟨rfl,rfl⟩ | ⟨rfl,rfl⟩
 .simp[execOp,b,d,e,eqGuard,binOp,j0,bC,a,g,he,plain]
  try simp[bM,pure,plain]
 .simp[execOp,b,d,e,eqGuard,binOp,j0,bC,a,g,he,plain]
  try simp[bM,pure,plain,bne]
theorem fQ {P:Program} {T:Env} {H:View} {K:V->View->Prop} {w:cO (T,H,K)} {op:BinOp} {t u ty:TypeId} {x y:Operand} {a:Array Field} {xs ys:Array Value} {c r:Bool} (hu:P.underlying t=some (.struct a)) (hs:P.stoodInHeld t=false) (b:P.eqGuardType P.depth t=false)
  (d:dx (ev T x)=some (.agg xs)) (e:dx (ev T y)=some (.agg ys)) (h:gg P 9998 xs ys a.toList c) (hr:(op=.eql/\r=c)∨(op=.neq/\r = !c)) (hk:K (.val (.bool r)) H):j5 P (.binOp op t x y u) ty T H K w:=by
 intro n _
 refine⟨.val (.bool r),.none,[],?_,hk⟩
 have f:kh P t=none:=by simp[kh,hu]
 simp only[sI,cx,oper,f]
 simp only[Option.isSome_none,ZM,if_false]
 exact FP rfl hu hs b d e h hr
def A4 (hp:Array Obj) (cs:List Value) (vs:List V):Prop :=
 vs.length=cs.length/\∀ μ i,i < vs.length->aC (λb=>b < hp.size) μ hp (vs.getD i .any) (cs.getD i undef)
def Wt {H:Type} (P:Program) (t:TypeId) (d:DataW H):Prop:=∀ n∈d.weights P t,n<=reachBytes
def BS (P:Program) (t:TypeId) {α:Type} (f:α->List V) (ok:α->Prop):Prop :=
 ∀ {H:Type} (enc:TypeId × Value->H) (w:World) (base:Nat) (sp:Nat->Bool) (held:Bool) (fuel:Nat) (cs:List Value) (x:DataW H × List MemPlace),
  DataW.trod enc P w base sp held fuel t cs=some x->Wt P t x.1->∃ a,ok a/\A4 w.heap cs (f a)
theorem zm {hp:Array Obj} {c:Value} {v:V} (h:∀ μ,aC (λb=>b < hp.size) μ hp v c):A4 hp [c] [v]:=by
 refine⟨rfl,λμ i hi=>?_⟩
 match i,hi with
 | 0,_=>exact h μ
theorem XC {P:Program} {t:TypeId} {k:IntKind} (a:P.underlying t=some (.int k)):BS P t (λn=>[.val (.int k n)]) (λn=>(Lit.int k n).wf=true):=by
 intro H enc w base sp held fuel cs x h _
 obtain⟨n,rfl,_,hw⟩:=DataW.trod_int a h
 exact⟨n,hw,zm λμ=>.val _ rfl⟩
theorem GU {P:Program} {t:TypeId} (a:P.underlying t=some .string):BS P t (λs=>[.val (.string s)]) (λ_=>True):=by
 intro H enc w base sp held fuel cs x h _
 obtain⟨s,rfl,_,_⟩:=DataW.trod_string a h
 exact⟨s,trivial,zm λμ=>.val _ rfl⟩
theorem Jx {w:World} {base:Nat} {a:Addr} {n:Nat} {cs:List Value} (h:w.cells? base a n=some cs):cs.length=n/\∀ i,i < n->w.cell? (a.add i)=some (cs.getD i undef):=by
 obtain⟨_,b,c⟩:=World.cells?_some h
 refine⟨b,λi hi=>?_⟩
 rw[c i hi,Zi,Zj (by omega)]
 rfl
theorem R3 {w:World} {a:Addr} {v:Value} (h:w.cell? a=some v):a.spot=none/\a.block < w.heap.size:=by
 unfold World.cell? at h
 split at h
 .rename_i c _ _ b
  split at h
  .simp at h
  .rename_i hs
   exact⟨by simpa using hs,(Array.getElem?_eq_some_iff.1 b).1⟩
 .simp at h
theorem R5 {H:Type} {P:Program} {e:TypeId} : ∀ {l:List (DataW H)},(∀ n∈DataW.weightsAll P e l,n<=reachBytes)->∀ d∈l,Wt P e d
 | [],_,d,hd=>by simp at hd
 | x :: l,h,d,hd=>by
  simp only[DataW.weightsAll,ZN] at h
  rcases Zz.1 hd with rfl | hd
  .exact λn a=>h n (.inl a)
  .exact R5 (λn a=>h n (.inr a)) d hd
theorem TH {H:Type} {P:Program} {t e:TypeId} {elems spare:List (DataW H)} (a:P.underlying t=some (.slice e)) (h:Wt P t (.slice elems spare)) :
  (elems.length+spare.length) * P.bytesOf e<=reachBytes/\∀ d∈elems,Wt P e d:=by
 unfold Wt at h
 unfold DataW.weights at h
 rw[a] at h
 simp only[Zz,ZN] at h
 exact⟨h _ (.inl rfl),R5 λn b=>h n (.inr (.inl b))⟩
theorem Rk {H:Type} {P:Program} {t:TypeId} {a:Array Field} {parts:List (DataW H)} (b:P.underlying t=some (.struct a)) (h:Wt P t (.agg parts)) {j:Nat} {f:Field} {d:DataW H} (c:a[j]?=some f) (hd:parts[j]?=some d):Wt P f.type d:=by
 intro n e
 refine h n ?_
 unfold DataW.weights
 rw[b]
 exact DataW.weights_mem_each (j:=j) (t:=f.type) (by simp[c]) hd n e
theorem Nr {α:Type} {c:Nat->α->Prop} : ∀ (n:Nat),(∀ i,i < n->∃ a,c i a)->∃ l:List α,l.length=n/\∀ i (hi:i < l.length),c i l[i]
 | 0,_=>⟨[],rfl,λi hi=>by simp at hi⟩
 | n+1,h=>by
  obtain⟨l,hl,b⟩:=Nr n λi hi=>h i (by omega)
  obtain⟨a,d⟩:=h n (by omega)
  refine⟨l ++ [a],by simp[hl],λi hi=>?_⟩
  by_cases e:i < l.length
  .rw[List.getElem_append_left e];exact b i e
  .have:i=n:=by simp at hi;omega
   subst this
   rw[List.getElem_append_right (by omega)]
   simp only[hl,Nat.sub_self,ZO];exact d
theorem yC {P:Program} {t e:TypeId} {α:Type} {f:α->List V} {ok:α->Prop} (J:P.underlying t=some (.slice e)) (L:0 < P.cellsOf e) (M:0 < P.bytesOf e) (he:BS P e f ok) :
  BS P t (λl:List α=>[.aD (l.map f)]) (λl=>l.length < 4611686018427387904/\∀ a∈l,ok a):=by
 intro H enc w base sp held fuel cs x h hw
 rcases DataW.trod_slice J h with ⟨rfl,rfl⟩ | ⟨a,len,cap,elems,rest,n,_,rfl,rfl,N,hl,hm,hlen,A,_,_⟩
 .exact⟨[],⟨by simp,by simp⟩,zm λμ=>.js none 0 (by simp)⟩
 obtain⟨r,B⟩:=TH J hw
 simp only[Zr] at r
 have C:len < 4611686018427387904:=by
  have h1:len * 1<=(elems.length+rest.length) * P.bytesOf e:=Nat.mul_le_mul (by omega) M
  unfold reachBytes at r
  omega
 have each:∀ i,i < len->∃ y,ok y/\∃ ci,w.cells? base (a.add (i * P.cellsOf e)) (P.cellsOf e)=some ci/\A4 w.heap ci (f y):=by
  intro i hi
  have h1:=A i hi
  have k:elems[i]?=some (elems[i]'(by omega)):=Zj (by omega)
  have s:elems[i]'(by omega)∈elems:=Zs _
  rw[k,Option.bind_eq_some_iff] at h1
  obtain⟨ci,D,E⟩:=h1
  obtain⟨y,z,m⟩:=he enc w base sp held n ci _ E (B _ (ZF.2 ⟨_,s,rfl⟩))
  exact⟨y,z,ci,D,m⟩
 obtain⟨l,F,p⟩:=Nr len each
 subst F
 refine⟨l,⟨C,λy O=>?_⟩,zm λμ=>?_⟩
 .obtain⟨i,hi,rfl⟩:=List.getElem_of_mem O
  exact(p i hi).1
 by_cases K:l=[]
 .subst K
  exact .js (some a) cap (by simp)
 have o:0 < l.length:=abk.2 K
 have d:∀ i j,i < l.length->j < P.cellsOf e->∃ c,cellAt w.heap a.block (a.off+i * P.cellsOf e+j)=some c/\a.block < w.heap.size/\(i=0->j=0->a.spot=none)/\∀ (hi:i < l.length),aC (λb=>b < w.heap.size) μ w.heap ((f l[i]).getD j .any) c:=by
  intro i j hi q
  obtain⟨_,ci,h1,k⟩:=p i hi
  obtain⟨D,E⟩:=Jx h1
  have z:=E j q
  have m:=R3 z
  have u:((a.add (i * P.cellsOf e)).add j).block=a.block:=by simp only[Addr.add];split <;> split <;> rfl
  have G:((a.add (i * P.cellsOf e)).add j).off=a.off+i * P.cellsOf e+j:=by
   simp only[Addr.add];split <;> split <;> simp_all
  refine⟨ci.getD j undef,?_,by rw[<-u];exact m.2,?_,λ_=>?_⟩
  .rw[<-G,<-u,<-oK]
   rw[<-z]
   congr 1
   generalize (a.add (i * P.cellsOf e)).add j=b at m
   cases b
   simp at m ⊢
   exact m.1.symm
  .rintro rfl rfl
   simp[Addr.add] at m
   exact m.1
  .exact k.2 μ j (by rw[k.1,D];exact q)
 obtain⟨_,_,Q,hs,_⟩:=d 0 0 o L
 have R:a=⟨a.block,a.off,none⟩:=by
  cases a;simp at hs ⊢;exact hs
 have I:∀ i,i < l.length->(f (l[i]?.getD (l[0]'o))).length=P.cellsOf e:=λi hi=>by
  obtain⟨_,ci,h1,k⟩:=p i hi
  rw[Zj hi,ZC,k.1,(Jx h1).1]
 have v:∀ i (hi:i < l.length),(l.map f).getD i []=f l[i]:=λi hi=>by simp[Zi,hi]
 have g:(l.map f).length=l.length:=by simp
 have:=aC.aD (Z:=λb=>b < w.heap.size) (μ:=μ) (hp:=w.heap) (l.map f) a.block a.off (P.cellsOf e) cap (λi j=>(cellAt w.heap a.block (a.off+i * P.cellsOf e+j)).getD undef) Q (by rw[g];exact hl)
  (λi hi=>by
   rw[g] at hi
   have:=I i hi
   rw[Zj hi,ZC] at this
   rw[v i hi];exact this)
  (λi j hi q=>by
   rw[g] at hi
   obtain⟨c,h1,_⟩:=d i j hi q
   rw[h1];rfl)
  (λi j hi q=>by
   rw[g] at hi
   obtain⟨c,h1,_,_,k⟩:=d i j hi q
   rw[h1,v i hi];exact k hi)
 rw[g,<-R] at this
 exact this
theorem Bh {P:Program} {t:TypeId} {b:Array Field} (d:P.underlying t=some (.struct b)) (j:∀ (i:Nat) (f:Field),b[i]?=some f->f.offset=i/\P.cellsOf f.type=1) (k:P.cellsOf t=b.size)
  {H:Type} {enc:TypeId × Value->H} {w:World} {base:Nat} {sp:Nat->Bool} {held:Bool} {fuel:Nat} {cs:List Value} {x:DataW H × List MemPlace} (h:DataW.trod enc P w base sp held fuel t cs=some x) (hw:Wt P t x.1) :
  cs.length=b.size/\∀ (i:Nat) (f:Field),b[i]?=some f->∀ {α:Type} {g:α->List V} {ok:α->Prop},BS P f.type g ok->∃ a,ok a/\A4 w.heap [cs.getD i undef] (g a):=by
 obtain⟨xs,n,rfl,rfl,hl,hlen,l⟩:=DataW.trod_struct d h
 refine⟨by rw[hl,k],λi f hi α g ok hr=>?_⟩
 obtain⟨h1,m⟩:=j i f hi
 have o:i < b.size:=(Array.getElem?_eq_some_iff.1 hi).1
 have c:=l i f hi
 have e:xs[i]?=some (xs[i]'(by omega)):=Zj (by omega)
 rw[e,h1,m] at c
 have p:(cs.drop i).take 1=[cs.getD i undef]:=by
  rw[Zi,Zj (by omega),aad (by omega)]
  rfl
 rw[p] at c
 exact hr enc w base sp held n _ _ c (Rk d hw hi (by simp[e]))
theorem jh {hp:Array Obj} {c:Value} {cs:List Value} {v:V} {vs:List V} (h:A4 hp [c] [v]) (k:A4 hp cs vs):A4 hp (c :: cs) (v :: vs):=by
 refine⟨by simp[k.1],λμ i hi=>?_⟩
 cases i with
 | zero=>exact h.2 μ 0 (by simp)
 | succ i=>exact k.2 μ i (by simpa using hi)
theorem Di {hp:Array Obj} : A4 hp [] []:=⟨rfl,λμ i hi=>by simp at hi⟩
theorem WB {n:Int} (h:(Lit.int .i64 n).wf=true):cp n:=by
 simp only[Lit.wf,Zw,ZA] at h
 exact h
theorem rr:BS Tryz.prog 3 (λn=>[gi n]) cp:=λenc w base sp held fuel cs x h hw=>by
 obtain⟨n,h1,a⟩:=XC Tryz.underlying3 enc w base sp held fuel cs x h hw
 exact⟨n,WB h1,a⟩
theorem Wb:BS Tryz.prog 43 (λl:List Int=>[encI l]) (λl=>aJ l/\∀ x∈l,cp x) :=
 yC Tryz.underlying43 (aa4 (by kernel_rfl)) (aa4 (by kernel_rfl)) rr
theorem Pw:BS Tryz.prog 23 (λl:List ByteArray=>[encS l]) (λl=>aJ l/\∀ x∈l,True) :=
 yC Tryz.underlying23 (aa4 (by kernel_rfl)) (aa4 (by kernel_rfl)) (GU Tryz.underlying9)
theorem Yd {cs:List Value} (h:cs.length=3):cs=[cs.getD 0 undef,cs.getD 1 undef,cs.getD 2 undef]:=by
 match cs,h with
 | [a,b,c],_=>rfl
theorem Zf {cs:List Value} (h:cs.length=4):cs=[cs.getD 0 undef,cs.getD 1 undef,cs.getD 2 undef,cs.getD 3 undef]:=by
 match cs,h with
 | [a,b,c,d],_=>rfl
theorem Wk:BS Tryz.prog 129 bS (λt=>cp t.level/\cp t.assoc):=λenc w base sp held fuel cs x h hw=>by
 obtain⟨hl,d⟩:=Bh Tryz.underlying129 (by
  intro i f hi
  match i,hi with
  | 0,hi=>simp at hi;subst hi;exact⟨rfl,by kernel_rfl⟩
  | 1,hi=>simp at hi;subst hi;exact⟨rfl,by kernel_rfl⟩
  | 2,hi=>simp at hi;subst hi;exact⟨rfl,by kernel_rfl⟩
  | n+3,hi=>simp at hi) (by kernel_rfl) h hw
 obtain⟨a,_,h1⟩:=d 0 _ rfl (GU Tryz.underlying9)
 obtain⟨b,e,g⟩:=d 1 _ rfl rr
 obtain⟨c,j,k⟩:=d 2 _ rfl rr
 refine⟨⟨a,b,c⟩,⟨e,j⟩,?_⟩
 rw[Yd hl]
 exact jh h1 (jh g (jh k Di))
theorem Wp:BS Tryz.prog 71 aO (λr=>cp r.left/\cp r.prec/\aJ r.right/\∀ x∈r.right,cp x):=λenc w base sp held fuel cs x h hw=>by
 obtain⟨hl,d⟩:=Bh Tryz.underlying71 (by
  intro i f hi
  match i,hi with
  | 0,hi=>simp at hi;subst hi;exact⟨rfl,by kernel_rfl⟩
  | 1,hi=>simp at hi;subst hi;exact⟨rfl,by kernel_rfl⟩
  | 2,hi=>simp at hi;subst hi;exact⟨rfl,by kernel_rfl⟩
  | n+3,hi=>simp at hi) (by kernel_rfl) h hw
 obtain⟨a,g,h1⟩:=d 0 _ rfl rr
 obtain⟨b,e,j⟩:=d 1 _ rfl Wb
 obtain⟨c,k,l⟩:=d 2 _ rfl rr
 refine⟨⟨a,b,c⟩,⟨g,k,e.1,e.2⟩,?_⟩
 rw[Yd hl]
 exact jh h1 (jh j (jh l Di))
theorem VR:BS Tryz.prog 26 ag aj.Ok:=λenc w base sp held fuel cs x h hw=>by
 obtain⟨hl,e⟩:=Bh Tryz.underlying26 (by
  intro i f hi
  match i,hi with
  | 0,hi=>simp at hi;subst hi;exact⟨rfl,by kernel_rfl⟩
  | 1,hi=>simp at hi;subst hi;exact⟨rfl,by kernel_rfl⟩
  | 2,hi=>simp at hi;subst hi;exact⟨rfl,by kernel_rfl⟩
  | 3,hi=>simp at hi;subst hi;exact⟨rfl,by kernel_rfl⟩
  | n+4,hi=>simp at hi) (by kernel_rfl) h hw
 obtain⟨a,g,h1⟩:=e 0 _ rfl (yC Tryz.underlying22 (aa4 (by kernel_rfl)) (aa4 (by kernel_rfl)) Wk)
 obtain⟨b,k,l⟩:=e 1 _ rfl Pw
 obtain⟨c,j,m⟩:=e 2 _ rfl (yC Tryz.underlying24 (aa4 (by kernel_rfl)) (aa4 (by kernel_rfl)) Wp)
 obtain⟨d,o,p⟩:=e 3 _ rfl rr
 refine⟨⟨a,b,c,d⟩,⟨g.1,k.1,j.1,o,g.2,j.2⟩,?_⟩
 rw[Zf hl]
 exact jh h1 (jh l (jh m (jh p Di)))
end Gv
