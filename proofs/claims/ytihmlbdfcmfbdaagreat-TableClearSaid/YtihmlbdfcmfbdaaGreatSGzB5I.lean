/-
  Part 9 of the proof: what the machine does and what the functions answer.
  Conditions: those that each lemma names.
-/
import Derived.ProofKit
import Derived.SizedLaws
import Derived.Test.YtihmlbdfcmfbdaaGreatSGzB5H
set_option linter.unusedSimpArgs false
set_option linter.unusedVariables false
set_option maxRecDepth 100000
set_option maxHeartbeats 20000000
namespace Gv
open Go Go.Proofs
def EC (n:Nat) (r:bg):Prop:=b6 r.left/\0<=r.left/\r.left < n/\r.right.length<=6/\∀ s∈r.right,b6 s/\(s < 0->-1 - s < n)
theorem ai.dM.uW {g:ai} (a:g.Ok) (h:g.dM) {r:bg} (hr:r∈g.rules):EC g.ak.length r :=
 ⟨(a.ax r hr).1,(h.left r hr).1,(h.left r hr).2,h.right r hr,λs hs=>⟨(a.ax r hr).2.2.2 s hs,λb=>h.neg hr hs b⟩⟩
def An:SF:=⟨ae [ab [bw 2 false],ab [aa 3 0,aF 4 .geq 3 0,aa 2 4],.ret],
 [.tmp 2],5⟩
theorem DX:aO Tryz.prog 209 []=some An:=by kernel_rfl
def C8:SF:=⟨ae [ab [cy 1 0,bw 2 false],ab [ao 3 1 1,aj 4 3,qx 5 91 [(.tmp 4),(.val (.fn 209 [] []))],c4 6 5,aa 2 6],.ret],
 [.tmp 2],7⟩
theorem GA:aO Tryz.prog 171 [1]=some C8:=by kernel_rfl
def wh:SF:=⟨ae [ab [bw 3 false],.region false [⟨none,[aa 4 0,aF 5 .lss 4 0,aa 6 5]⟩,⟨(some (6,true)),[aj 7 1,aa 8 0,((some 9),.op (.arith .sub (.val (.val (.int .i64 (-1)))) (.tmp 8))),aI 10 1 7 9,aj 11 10,c4 12 11]⟩,⟨none,[eC 13 6 12,aa 3 13]⟩],.ret],
 [.tmp 3],14⟩
theorem B4:aO Tryz.prog 197 []=some wh:=by kernel_rfl
def Ai:SF:=⟨ae [ab [cy 2 0,cy 3 1,bw 4 false],ab [ao 5 1 2,aj 6 5,((some 7),.op (.rQ 197 [] [(.tmp 3)])),bm 8 91 [6,7],c4 9 8,aa 4 9],.ret],
 [.tmp 4],10⟩
theorem D4:aO Tryz.prog 160 [2,3]=some Ai:=by kernel_rfl
def tM:SF:=⟨ae [ab [cy 2 0,cT 4 1],ae [.region false [⟨none,[aY 5 3 2,bm 6 171 [5],aa 7 6]⟩,⟨(some (7,true)),[aY 8 3 2,aa 9 1,bm 10 160 [8,9]]⟩,⟨none,[eC 11 7 10]⟩],bf 11 (ae [ab [ao 12 0 2,aj 13 12,((some 14),.op (.bW 1 1 [(.val (.int .i64 0))] [(0,(.tmp 13))])),aa 4 14],.ret])],ab [cT 4 1],.ret],
 [.tmp 4],15⟩
theorem zN:aO Tryz.prog 170 [2]=some tM:=by kernel_rfl
def rv:SF:=⟨ae [ab [cy 2 0,cT 4 1],ae [ab [aY 5 3 2,aa 6 1,bm 7 160 [5,6]],bf 7 (ae [ab [ao 8 0 2,aj 9 8,((some 10),.op (.bW 1 1 [(.val (.int .i64 0))] [(0,(.tmp 9))])),aa 4 10],.ret])],ab [cT 4 1],.ret],
 [.tmp 4],11⟩
theorem xt:aO Tryz.prog 195 [2]=some rv:=by kernel_rfl
def qj:SC :=
 ae [ab [aQ 24 .lss 23 22],bS 24 (.exit 0),.block 1 (ae [ab [aI 25 1 21 23,aj 26 25,aa 7 26],ab [aa 27 7,aF 28 .lss 27 0],bf 28 (ab [aa 29 5,aa 30 7,((some 31),.op (.arith .sub (.val (.val (.int .i64 (-1)))) (.tmp 30))),((some 32),.op (.bW 1 1 [(.val (.int .i64 0))] [(0,(.tmp 31))])),gx 33 1 8 29 32,aa 5 33])]),ab [aF 34 .add 23 1,aa 23 34]]
def sL:SF:=⟨ae [ab [cy 3 0,cT 5 1],ae [.region false [⟨none,[aa 8 1,ao 9 0 3,aj 10 9,aI 11 1 8 10,aj 12 11,c4 13 12,aa 14 13]⟩,⟨(some (14,false)),[aY 15 3 3,aj 16 2,bm 17 160 [15,16],c4 18 17]⟩,⟨none,[cF 19 14 18]⟩],bf 19 (ae [ab [cT 5 1],.ret])],ae [ab [ao 20 1 3,aj 21 20,aM 22 21,aT 23 0],bX 0 qj],ab [aa 35 5,aa 5 35],.ret],
 [.tmp 5],36⟩
theorem xH:aO Tryz.prog 196 [3]=some sL:=by kernel_rfl
theorem Se (r:bg):∀ v∈[V.agg (aU r)],Tree v:=by intro v a;simp at a;subst a;exact cn _ (iQ r)
theorem DQ (r:bg) (is:List Bool):∀ v∈[V.agg (aU r),bO is],Tree v:=by
 intro v a;simp at a
 rcases a with rfl | rfl
 .exact cn _ (iQ r)
 .exact iP is
theorem VG (x:Int):az Tryz.prog 209 [gi x] (gb (decide (0<=x))):=by
 refine az.val (B6 (l:=[.int .i64 x])) λH=>?_
 refine av.of mixed DX ?_
 simp(disch:=omega)only[↓wr,seval,wq,An]
theorem Xy (r:bg) (hr:aK r.right):az Tryz.prog 171 [.agg (aU r)] (gb (!r.right.any λs=>decide (0<=s))):=by
 refine az.val (Se r) λH=>?_
 refine av.of mixed GA ?_
 simp(disch:=omega)only[↓wr,seval,wq,C8,aU,encI]
 refine ay.pure (oI r.right hr 209 [] (by simp) (λs=>decide (0<=s)) (λx _=>VG x) (by kernel_rfl)) ?_
 simp(disch:=omega)only[↓wr,seval,wq]
def GX (is:List Bool) (s:Int):Bool:=decide (s < 0) && !is.getD (-1 - s).toNat false
theorem P3 (is:List Bool) (s:Int) (hs:b6 s/\(s < 0->-1 - s < is.length)):az Tryz.prog 197 [gi s,.aH [bO is] 0] (gb (GX is s)):=by
 refine az.val ?_ λH=>?_
 .intro v a;simp at a
  rcases a with rfl | rfl
  .exact .val _
  .exact mR (by intro v a;simp at a;subst a;exact iP is)
 obtain⟨⟨h1,e⟩,f⟩:=hs
 refine av.of mixed B4 ?_
 simp(disch:=omega)only[↓wr,seval,wq,wh,bO]
 apply ah.dec<;>intro h
 .have d:is[(-1 - s).toNat]?=some (is[(-1 - s).toNat]'(by omega)):=aar (by omega)
  have c:is.getD (-1 - s).toNat false=is[(-1 - s).toNat]'(by omega):=by simp[aaq,d]
  generalize is[(-1 - s).toNat]'(by omega)=b at d c
  simp(disch:=omega)only[↓wr,seval,wq,aav,d]
  simp only[GX,c,h,decide_true,abE]
 .simp(disch:=omega)only[↓wr,seval,wq]
  simp[GX,h]
theorem Pj {is:List Bool} {l:List Int} : (!l.any (GX is))=cP l is true:=by
 simp only[cP,List.not_any_eq_all_not]
 congr 1
 funext s
 simp only[GX]
 by_cases h:0<=s
 .simp[h,show ¬ s < 0 by omega]
 .simp[h,show s < 0 by omega]
theorem we (r:bg) (is:List Bool) (hr:aK r.right) (hs:∀ s∈r.right,b6 s/\(s < 0->-1 - s < is.length)):az Tryz.prog 160 [.agg (aU r),bO is] (gb (cP r.right is true)):=by
 rw[<-Pj]
 refine az.val (DQ r is) λH=>?_
 refine av.of mixed D4 ?_
 simp(disch:=omega)only[↓wr,seval,wq,Ai,aU,bO,encI]
 refine ay.pure (oI r.right hr 197 [.aH [bO is] 0] (by
  intro v a;simp at a;subst a
  exact mR (by intro v a;simp at a;subst a;exact iP is)) (GX is) (λx b=>P3 is x (hs x b)) (by kernel_rfl)) ?_
 simp(disch:=omega)only[↓wr,seval,wq]
theorem L9 {is:List Bool} {l:List Int} : ((!l.any λs=>decide (0<=s)) && cP l is true)=cP l is false:=by
 induction l with
 | nil=>rfl
 | cons s l a =>
  simp only[cP,abP,List.any_cons] at a ⊢
  rw[<-a]
  by_cases h:0<=s
  .simp[h]
  .simp only[h,decide_false,acD,if_false]
   cases (l.any λs=>decide (0<=s)) <;> simp
theorem kK {h:aG} {u:V} {l:List Int} (a:ba h.view u 1 (l.map λx=>[gi x])):dB h u (encI l):=dB.PK (f:=Value.int .i64) a
theorem JH (r:bg) (is:List Bool) (hr:EC is.length r):cW Tryz.prog 170 [.agg (aU r),bO is] (encI (if cP r.right is false=true then [r.left] else [])):=by
 obtain⟨hl,_,_,c,hs⟩:=hr
 have a:aK r.right:=by unfold aK;omega
 refine cW.of (DQ r is) ?_
 refine av.of mixed zN ?_
 rw[<-L9]
 simp(disch:=omega)only[↓wr,seval,wq,tM,aU,encI]
 refine ay.pure (Xy r a) ?_
 repeat' (first | ((first|apply ah.dec|apply ah.eq|apply ah.ne|apply ah.split)<;>intro)|(refine ay.pure (we r is a hs) ?_)|(simp(disch:=omega)only[↓wr,seval,wq,aU,encI]))
 all_goals first
  | (intro n d b;rw[aaw (by simp[*])];exact kK (l:=[r.left]) (.inr ⟨n,rfl,by rw[b];simp[View.set]⟩))
  | (intro d b;rw[aat (by simp[*])];exact .emp _)
theorem GM (r:bg) (is:List Bool) (hr:EC is.length r):cW Tryz.prog 195 [.agg (aU r),bO is] (encI (if cP r.right is true=true then [r.left] else [])):=by
 obtain⟨hl,_,_,c,hs⟩:=hr
 have a:aK r.right:=by unfold aK;omega
 refine cW.of (DQ r is) ?_
 refine av.of mixed xt ?_
 simp(disch:=omega)only[↓wr,seval,wq,rv,aU,encI]
 refine ay.pure (we r is a hs) ?_
 repeat' (first | ((first|apply ah.dec|apply ah.eq|apply ah.ne|apply ah.split)<;>intro)|(simp(disch:=omega)only[↓wr,seval,wq,aU,encI]))
 all_goals first
  | (intro n d b;rw[aaw (by simp[*])];exact kK (l:=[r.left]) (.inr ⟨n,rfl,by rw[b];simp[View.set]⟩))
  | (intro d b;rw[aat (by simp[*])];exact .emp _)
def iN (l:List Int):List Int:=(l.filter λs=>decide (s < 0)).map λs=>-1 - s
theorem TG (r:bg) (is p:List Bool):∀ v∈[V.agg (aU r),bO is,.aH [bO p] 0],Tree v:=by
 intro v a;simp at a
 rcases a with rfl | rfl | rfl
 .exact cn _ (iQ r)
 .exact iP is
 .exact mR (by intro v a;simp at a;subst a;exact iP p)
theorem Jb (r:bg) (is p:List Bool) (hr:EC is.length r) (hp:p.length=is.length) :
  cW Tryz.prog 196 [.agg (aU r),bO is,.aH [bO p] 0] (encI (if (is.getD r.left.toNat false && cP r.right p true)=true then iN r.right else [])):=by
 obtain⟨hl,y,z,A,hs⟩:=hr
 have l:aK r.right:=by unfold aK;omega
 refine cW.of (TG r is p) ?_
 refine av.of mixed xH ?_
 have n:is[r.left.toNat]?=some (is[r.left.toNat]'(by omega)):=aar (by omega)
 have g:is.getD r.left.toNat false=is[r.left.toNat]'(by omega):=by simp[aaq,n]
 generalize is[r.left.toNat]'(by omega)=b at n g
 rw[g]
 simp(disch:=omega)only[↓wr,seval,wq,sL,aU,encI,bO,aav,n]
 cases b with
 | false =>
  simp(disch:=omega)only[↓wr,seval,wq]
  intro w o
  exact .emp _
 | true =>
  simp(disch:=omega)only[↓wr,seval,wq,aU,encI,bO]
  refine ay.pure (we r p l (λs j=>⟨(hs s j).1,λh=>by rw[hp];exact(hs s j).2 h⟩)) ?_
  repeat' (first | ((first|apply ah.dec|apply ah.eq|apply ah.ne|apply ah.split)<;>intro)|(simp(disch:=omega)only[↓wr,seval,wq,aU,encI,bO]))
  .rename_i q
   rw[aaw (by simp[q])]
   refine aS.up r.right.length (λi T H=>(∃ u,T 5=u/\ba H u 1 ((iN (r.right.take i)).map λx=>[gi x]))/\T 21=encI r.right/\T 22=gi r.right.length/\T 23=gi i) ?_ ?_
   .exact⟨⟨_,rfl,.nil⟩,rfl,rfl,rfl⟩
   rintro i k T H' hk ⟨⟨u,e,hu⟩,a,c,d⟩
   simp(disch:=omega)only[↓wr,seval,wq,qj,e,a,c,d,encI]
   apply ah.dec<;>intro B
   .have t:r.right[i]?=some (r.right[i]'(by omega)):=aar (by omega)
    have hm:r.right[i]'(by omega)∈r.right:=aaC _
    have f:iN (r.right.take (i+1))=iN (r.right.take i) ++ iN [r.right[i]'(by omega)]:=by
     rw[aaQ,t,iN,abN,aaS];rfl
    have hlen:(iN (r.right.take i)).length<=6:=by
     have h1:(iN (r.right.take i)).length<=(r.right.take i).length:=by simp only[iN,aaA];exact abh _ _
     have D:(r.right.take i).length<=i:=List.length_take_le _ _
     omega
    generalize r.right[i]'(by omega)=s at t hm f
    obtain⟨⟨s1,s2⟩,E⟩:=hs s hm
    simp(disch:=omega)only[↓wr,seval,wq,e,a,c,d,encI,aav,t]
    apply ah.dec<;>intro hd
    .simp(disch:=omega)only[↓wr,seval,wq,e,a,c,d]
     intro m hm
     try simp(disch:=omega)only[↓wr,seval,wq,e,a,c,d,bM]
     refine Br (hu.fresh hm) (by simp) (by simp[aR]) (by unfold aD;simp at hlen ⊢;omega) (by unfold aD;simp at hlen ⊢;omega) ?_
     intro C F v _
     simp(disch:=omega)only[↓wr,seval,wq,a,c,d]
     refine aC hk (by omega) ⟨⟨C,rfl,?_⟩,a,c,rfl⟩
     rw[f]
     simpa [iN,hd] using v
    .simp(disch:=omega)only[↓wr,seval,wq,e,a,c,d]
     refine aC hk (by omega) ⟨⟨u,e,?_⟩,a,c,rfl⟩
     rw[f]
     simpa [iN,hd] using hu
   .rw[aaJ (by omega)] at hu
    simp(disch:=omega)only[↓wr,seval,wq,e,a,c,d]
    intro w o
    exact kK (by rw[o];exact hu)
  .rename_i q
   intro w o
   rw[aat (by simp[q])]
   exact .emp _
def tX (is:List Bool) (l:List Int):List Bool:=l.foldl (λis n=>is.set n.toNat true) is
def stepG (comes:bg->List Bool->List Int) (is:List Bool) (r:bg):List Bool:=tX is (comes r is)
def eU (comes:bg->List Bool->List Int) (rules:List bg) (is:List Bool):List Bool:=rules.foldl (stepG comes) is
def gG (a b:List Bool):Prop:=a.length=b.length/\∀ i,a.getD i false=true->b.getD i false=true
theorem gG.refl (a:List Bool):gG a a:=⟨rfl,λ_ h=>h⟩
theorem gG.trans {a b c:List Bool} (h:gG a b) (k:gG b c):gG a c:=⟨h.1.trans k.1,λi hi=>k.2 i (h.2 i hi)⟩
theorem gG.set (a:List Bool) (i:Nat):gG a (a.set i true):=by
 refine⟨by simp,λj h=>?_⟩
 simp only[aaq,abV] at h ⊢
 split
 .split
  .rfl
  .rename_i e b;rw[<-e,aa1 (by omega)] at h;simp at h
 .exact h
theorem L2:∀ (l:List Int) (is:List Bool),gG is (tX is l)
 | [],is=>.refl _
 | n :: l,is=>(gG.set is n.toNat).trans (L2 l _)
theorem wK (comes:bg->List Bool->List Int):∀ (rules:List bg) (is:List Bool),gG is (eU comes rules is)
 | [],is=>.refl _
 | r :: rs,is=>(L2 _ _).trans (wK comes rs _)
def eX (a:List Bool):Nat:=a.countP λx=>x
theorem uU (a:List Bool):eX a<=a.length:=List.countP_le_length
theorem gG.eX:∀ {a b:List Bool},gG a b->eX a<=eX b/\(eX a=eX b->a=b)
 | [],[],_=>⟨aaD _,λ_=>rfl⟩
 | [],_ :: _,h=>by simp[gG] at h
 | _ :: _,[],h=>by simp[gG] at h
 | x :: a,y :: b,h=>by
  have c:x=true->y=true:=λe=>by have:=h.2 0 (by simpa using e);simpa using this
  obtain⟨h1,d⟩:=gG.eX (a:=a) (b:=b) ⟨by simpa using h.1,λi hi=>by have:=h.2 (i+1) (by simpa using hi);simpa using this⟩
  unfold Gv.eX at h1 d ⊢
  simp only[List.countP_cons]
  cases x with
  | true =>
   have:=c rfl;subst this
   simp only[if_true]
   exact⟨by omega,λe=>by rw[d (by omega)]⟩
  | false =>
   cases y with
   | false=>simp only[aaU,if_false];exact⟨by omega,λe=>by rw[d (by omega)]⟩
   | true=>simp only[aaU,if_false,if_true];exact⟨by omega,λe=>by omega⟩
def jh (comes:bg->List Bool->List Int) (rules:List bg):Nat->List Bool->List Bool
 | 0,is=>is
 | k+1,is=>if eU comes rules is=is then is else jh comes rules k (eU comes rules is)
theorem vW (comes:bg->List Bool->List Int) (rules:List bg):∀ (k:Nat) (is:List Bool),is.length<=eX is+k->eU comes rules (jh comes rules k is)=jh comes rules k is/\gG is (jh comes rules k is)
 | 0,is,h=>by
  have h1:=wK comes rules is
  have b:=uU (eU comes rules is)
  have a:=h1.eX
  rw[<-h1.1] at b
  have c:=uU is
  exact⟨(a.2 (by omega)).symm,.refl _⟩
 | k+1,is,h=>by
  simp only[jh]
  by_cases e:eU comes rules is=is
  .rw[aaw e];exact⟨e,.refl _⟩
  .rw[aat e]
   have h1:=wK comes rules is
   have a:=h1.eX
   have:eX is < eX (eU comes rules is):=by
    rcases aaT (eX is) (eX (eU comes rules is)) with h | h
    .exact h
    .exact absurd (a.2 (by omega)).symm e
   obtain⟨g1,g2⟩:=vW comes rules k (eU comes rules is) (by rw[<-h1.1];omega)
   exact⟨g1,h1.trans g2⟩
def AG:SC :=
 ae [ab [aQ 26 .lss 25 24],bS 26 (.exit 4),.block 5 (ae [ab [aI 27 1 23 25,aj 28 27,aa 11 28],.region false [⟨none,[aa 29 7,aa 30 29]⟩,⟨(some (30,false)),[aa 31 1,aa 32 11,aI 33 1 31 32,aj 34 33,c4 35 34]⟩,⟨none,[cF 36 30 35,aa 7 36]⟩],ab [aa 37 1,aa 38 11,aI 39 1 37 38,(none,.op (.store 1 (.tmp 39) (.val (.val (.bool true)))))]]),ab [aF 40 .add 25 1,aa 25 40]]
def Af:SC :=
 ae [ab [aQ 17 .lss 16 15],bS 17 (.exit 2),.block 3 (ae [ab [aI 18 3 14 16,aY 19 3 18,((some 9),.op (.alloc [(.val (.int .i64 0)),(.emp 1),(.val (.int .i64 0))])),bZ 3 9 19],ab [aa 20 2,aY 21 3 9,aa 22 1,((some 23),.call (.tmp 20) [(.tmp 21),(.tmp 22)]),aM 24 23,aT 25 0],bX 4 AG]),ab [aF 41 .add 16 1,aa 16 41]]
def tC:SC :=
 ae [ae [ab [aa 12 7],bS 12 (.exit 0)],.block 1 (ae [ab [bw 7 false],ab [ao 13 2 3,aj 14 13,aM 15 14,aT 16 0],bX 2 Af])]
def Dv:SF:=⟨ae [ab [cy 3 0,cT 6 1],ae [ab [bw 7 true],bX 0 tC],ab [aa 42 1,aa 6 42],.ret],
 [.tmp 6],43⟩
theorem Gs:aO Tryz.prog 169 [3]=some Dv:=by kernel_rfl
theorem VP {is:List Bool} {i:Nat} (h:is.getD i false=true):is.set i true=is:=by
 apply List.ext_getElem?
 intro j
 simp only[aaq] at h
 rw[abV]
 split
 .rename_i e;subst e
  split
  .rename_i hl;rw[aar hl] at h ⊢;simp at h;simp[h]
  .rename_i hl;rw[aa1 (by omega)] at h;simp at h
 .rfl
theorem O5 {comes:bg->List Bool->List Int} {rules:List bg} {k:Nat} {is:List Bool} (h:eU comes rules is=is):jh comes rules k is=is:=by
 cases k with
 | zero=>rfl
 | succ k=>simp only[jh,h,if_true]
theorem Pz {comes:bg->List Bool->List Int} {rules:List bg} {k:Nat} {is:List Bool} (h:¬ eU comes rules is=is) (hk:is.length<=eX is+k):∃ j,k=j+1/\jh comes rules k is=jh comes rules j (eU comes rules is)/\(eU comes rules is).length<=eX (eU comes rules is)+j:=by
 have h1:=wK comes rules is
 have a:=h1.eX
 have b:=uU (eU comes rules is)
 have:eX is < eX (eU comes rules is):=by
  rcases aaT (eX is) (eX (eU comes rules is)) with h | h
  .exact h
  .exact absurd (a.2 (by omega)).symm (by assumption)
 have hl:=h1.1
 obtain⟨j,rfl⟩:∃ j,k=j+1:=⟨k - 1,by omega⟩
 exact⟨j,rfl,by simp only[jh];rw[aat h],by omega⟩
theorem VD {a is:List Bool} {i:Nat} {b:Bool} (hle:gG a is) (hi:i < is.length) (d:b = !decide (is=a)):(b || !is.getD i false) = !decide (is.set i true=a):=by
 cases c:is.getD i false with
 | true=>rw[VP c,d];simp
 | false =>
  have:¬ is.set i true=a:=λe=>by
   have h1:(is.set i true).getD i false=true:=by simp[aaq,hi]
   rw[e] at h1
   have:=hle.2 i h1
   rw[c] at this;simp at this
  simp[this]
theorem Gz (g:ai) (hr:g.rules.length<=40) (comes:bg->List Bool->List Int) (f:FuncId) (t D:List V) (ar:dW Tryz.prog f=true) (N:Nat) (hN:N<=16)
  (hc:∀ r∈g.rules,∀ is:List Bool,is.length=N->cW Tryz.prog f (.agg (aU r) :: bO is :: D) (encI (comes r is))/\(comes r is).length<=100/\∀ n∈comes r is,b6 n/\0<=n/\n < N)
  (id:Nat) (A:List Bool) (a6:A.length=N) (H:View) (hH:H id=.arr 1 (dP A)) (O:∀ H':View,(∀ k,H k≠.dead->k≠id->H' k=H k)->qJ H' t D) :
  av Tryz.prog 169 [.agg (ag g),.sl id 0 N 1,.fn f [] t] H λr H'=>r=.sl id 0 N 1/\H' id=.arr 1 (dP (jh comes g.rules 16 A))/\∀ k,H k≠.dead->k≠id->H' k=H k:=by
 refine av.of mixed Gs ?_
 simp(disch:=omega)only[↓wr,seval,wq,Dv,ag,encS]
 refine aS.intro (λk T H'=>∃ is:List Bool,is.length=N/\H' id=.arr 1 (dP is)/\(∀ k,H k≠.dead->k≠id->H' k=H k)/\T 1=.sl id 0 N 1/\T 2=.fn f [] t/\T 3=.aH (ag g) 0 /\
  ((T 7=gb true/\∃ j,k=j+1/\jh comes g.rules j is=jh comes g.rules 16 A/\N<=eX is+j)∨(T 7=gb false/\is=jh comes g.rules 16 A))) 17 ?_ ?_
 .exact⟨A,a6,hH,λ_ _ _=>rfl,rfl,rfl,rfl,.inl ⟨rfl,16,rfl,rfl,by omega⟩⟩
 rintro k T H1 ⟨is,hlen,o,p,t1,t2,t3,u⟩
 rcases u with ⟨u,j,rfl,J,hj⟩ | ⟨u,J⟩
 .simp(disch:=omega)only[↓wr,seval,wq,tC,t1,t2,t3,u,ag,encS]
  refine aS.up g.rules.length (λi T H'=>∃ rC:List Bool,rC.length=N/\gG is rC/\rC=(g.rules.take i).foldl (stepG comes) is/\H' id=.arr 1 (dP rC)/\(∀ k,H k≠.dead->k≠id->H' k=H k)/\T 1=.sl id 0 N 1/\T 2=.fn f [] t/\T 3=.aH (ag g) 0 /\
   T 7=gb (!decide (rC=is))/\T 14=.aE (g.rules.map aU)/\T 15=gi g.rules.length/\T 16=gi i) ?_ ?_
  .exact⟨is,hlen,.refl _,rfl,o,p,t1,t2,t3,by simp;rfl,rfl,rfl,rfl⟩
  clear t1 t2 t3 u o p
  rintro i k T H1 hk ⟨rC,s,W,P,o,p,t1,t2,t3,u,c,d,m⟩
  simp(disch:=omega)only[↓wr,seval,wq,Af,t1,t2,t3,u,c,d,m,ag,encS]
  apply ah.dec<;>intro a8
  .have Q:g.rules[i]?=some (g.rules[i]'(by omega)):=aar (by omega)
   have M:g.rules[i]'(by omega)∈g.rules:=aaC _
   have X:(g.rules.take (i+1)).foldl (stepG comes) is=stepG comes ((g.rules.take i).foldl (stepG comes) is) (g.rules[i]'(by omega)):=by
    rw[aaQ,Q,abe];rfl
   generalize g.rules[i]'(by omega)=r at Q M X
   obtain⟨bb,bd,Y⟩:=hc r M rC s
   simp(disch:=omega)only[↓wr,seval,wq,t1,t2,t3,u,c,d,m,aU,encI,aav,Q]
   intro b R
   have E:b≠id:=by rintro rfl;rw[o] at R;simp at R
   try simp(disch:=omega)only[↓wr,seval,wq,t1,t2,t3,u,c,d,m]
   refine ay.Y2 bb ar ⟨ew.tree (cn _ (iQ r)),E4 (by simp[View.set,E.symm,o]) s.symm,O _ (λk hk v=>?_)⟩ ?_
   .have S:k≠b:=by
     rintro rfl
     rw[p k hk v] at R
     exact hk R
    simp[View.set,S,p k hk v]
   generalize hl:comes r rC=l at bd Y
   simp(disch:=omega)only[↓wr,seval,wq,t1,t2,t3,u,c,d,m,encI]
   refine aS.up l.length (λq T H'=>∃ a:List Bool,a.length=N/\gG is a/\a=tX rC (l.take q)/\H' id=.arr 1 (dP a)/\(∀ k,H k≠.dead->k≠id->H' k=H k)/\T 1=.sl id 0 N 1/\T 2=.fn f [] t/\T 3=.aH (ag g) 0 /\
    T 7=gb (!decide (a=is))/\T 14=.aE (g.rules.map aU)/\T 15=gi g.rules.length/\T 16=gi i/\T 23=encI l/\T 24=gi l.length/\T 25=gi q) ?_ ?_
   .refine⟨rC,s,W,rfl,by simp[View.set,E.symm,o],λk hk v=>?_,t1,t2,t3,u,c,d,m,rfl,rfl,rfl⟩
    have S:k≠b:=by
     rintro rfl
     rw[p k hk v] at R
     exact hk R
    simp[View.set,S,p k hk v]
   clear t1 t2 t3 u c d m o p R E
   rintro q k2 T H1 bl ⟨a,F,G,I,o,p,t1,t2,t3,u,c,d,m,w,y,B⟩
   simp(disch:=omega)only[↓wr,seval,wq,AG,t1,t2,t3,u,c,d,m,w,y,B,encI]
   apply ah.dec<;>intro bn
   .have U:l[q]?=some (l[q]'(by omega)):=aar (by omega)
    have Z:l[q]'(by omega)∈l:=aaC _
    have an:tX rC (l.take (q+1))=(tX rC (l.take q)).set (l[q]'(by omega)).toNat true:=by
     unfold tX;rw[aaQ,U,abe];rfl
    generalize l[q]'(by omega)=n at U Z an
    obtain⟨⟨n1,n2⟩,n3,n4⟩:=Y n Z
    have aq:a.getD n.toNat false=a[n.toNat]'(by omega):=by simp[aaq,show n.toNat < a.length by omega]
    have z:=VD G (show n.toNat < a.length by omega) (b:=!decide (a=is)) rfl
    rw[aq] at z
    have K:=mB (show n.toNat < a.length by omega)
    generalize a[n.toNat]'(by omega)=x at z K aq
    have fin:∀ (C:Env),C 7=gb (!decide (a.set n.toNat true=is))->C 1=.sl id 0 N 1->C 2=.fn f [] t->C 3=.aH (ag g) 0->C 14=.aE (g.rules.map aU)->C 15=gi g.rules.length->C 16=gi i->C 23=encI l->C 24=gi l.length->C 25=gi ((q:Int)+1) ->
      ∃ k',k' < k2/\Fl l.length k' (λq T H'=>∃ a:List Bool,a.length=N/\gG is a/\a=tX rC (l.take q)/\H' id=.arr 1 (dP a)/\(∀ k,H k≠.dead->k≠id->H' k=H k)/\T 1=.sl id 0 N 1/\T 2=.fn f [] t/\T 3=.aH (ag g) 0 /\
       T 7=gb (!decide (a=is))/\T 14=.aE (g.rules.map aU)/\T 15=gi g.rules.length/\T 16=gi i/\T 23=encI l/\T 24=gi l.length/\T 25=gi q) C (H1.set id (.arr 1 (dP (a.set n.toNat true)))):=by
     intro C a7 a1 a2 a3 bq br bs a23 a24 a25
     refine aC bl (by omega) ⟨a.set n.toNat true,by simp[F],G.trans (.set _ _),by rw[an,<-I],by simp[View.set],λk hk v=>by simp[View.set,v,p k hk v],a1,a2,a3,a7,bq,br,bs,a23,a24,by rw[a25];rfl⟩
    simp(disch:=omega)only[↓wr,seval,wq,t1,t2,t3,u,c,d,m,w,y,B,encI,aav,U]
    apply ah.dec<;>intro e
    .simp(disch:=omega)only[↓wr,seval,wq,t1,t2,t3,u,c,d,m,w,y,B,encI,o,K,aaA]
     refine⟨by omega,by omega,?_⟩
     try simp(disch:=omega)only[↓wr,seval,wq,t1,t2,t3,u,c,d,m,w,y,B,encI,o,K,aaA]
     refine⟨by omega,by omega,?_⟩
     rw[mF]
     exact fin _ (by rw[<-z];simp[e];rfl) t1 t2 t3 c d m w y rfl
    .simp(disch:=omega)only[↓wr,seval,wq,t1,t2,t3,u,c,d,m,w,y,B,encI,o,K,aaA]
     refine⟨by omega,by omega,?_⟩
     rw[mF]
     exact fin _ (by rw[<-z];simp[e];rfl) t1 t2 t3 c d m w y rfl
   .rw[aaJ (by omega)] at I
    simp(disch:=omega)only[↓wr,seval,wq,t1,t2,t3,u,c,d,m,w,y,B]
    refine aC hk (by omega) ⟨a,F,G,?_,o,p,t1,t2,t3,u,c,d,rfl⟩
    rw[X,<-P,stepG,hl,<-I]
  .rw[aaJ (by omega)] at P
   simp(disch:=omega)only[↓wr,seval,wq,t1,t2,t3,u,c,d,m]
   have L:rC=eU comes g.rules is:=P
   by_cases e:rC=is
   .refine⟨0,by omega,rC,s,o,p,rfl,.inr ⟨by simp[e],?_⟩⟩
    rw[<-J,e]
    exact(O5 (by rw[<-L];exact e)).symm
   .obtain⟨j2,rfl,e2,e3⟩:=Pz (k:=j) (λh=>e (L.trans h)) (by rw[hlen];exact hj)
    refine⟨j2+1,by omega,rC,s,o,p,rfl,.inl ⟨by simp[e],j2,rfl,?_,?_⟩⟩
    .rw[<-J,e2,L]
    .rw[<-L,s] at e3;exact e3
 .simp(disch:=omega)only[↓wr,seval,wq,tC,t1,t2,t3,u,ag,encS]
  exact⟨J ▸ o,p⟩
theorem zk {α:Type} {f:α->α} {x:α} (h:f x=x):∀ n,iter f n x=x
 | 0=>rfl
 | n+1=>by rw[iter,h,zk h n]
theorem K9 {α:Type} (f:α->α):∀ (a b:Nat) (x:α),iter f (a+b) x=iter f b (iter f a x)
 | 0,b,x=>by rw[aby];rfl
 | a+1,b,x=>by rw[Nat.add_right_comm,iter,iter,K9 f a b]
theorem Fw (comes:bg->List Bool->List Int) (rules:List bg):∀ (k:Nat) (is:List Bool),jh comes rules k is=iter (eU comes rules) k is
 | 0,is=>rfl
 | k+1,is=>by
  simp only[jh,iter]
  by_cases e:eU comes rules is=is
  .rw[aaw e,e,zk e]
  .rw[aat e,Fw comes rules k]
theorem AR (comes:bg->List Bool->List Int) (rules:List bg) (is:List Bool) (h:is.length<=16):jh comes rules 16 is=iter (eU comes rules) is.length is:=by
 have h1:=(vW comes rules is.length is (by omega)).1
 rw[Fw] at h1 ⊢
 obtain⟨m,hm⟩:∃ m,16=is.length+m:=⟨16 - is.length,by omega⟩
 rw[hm,K9,zk h1]
def nY (t:Bool) (r:bg) (is:List Bool):List Int:=if cP r.right is t=true then [r.left] else []
def vG (p:List Bool) (r:bg) (is:List Bool):List Int:=if (is.getD r.left.toNat false && cP r.right p true)=true then iN r.right else []
theorem Ox (g:ai) (t:Bool):eU (nY t) g.rules=lF g t:=by
 funext is
 unfold eU lF
 congr 1
 funext is r
 unfold stepG nY fk
 split <;> rfl
theorem Fq:∀ (l:List Int) (is:List Bool),tX is (iN l)=l.foldl mark is
 | [],is=>rfl
 | s :: l,is=>by
  have a:=Fq l
  unfold tX iN at a ⊢
  rw[aaR,<-a]
  unfold mark
  by_cases h:s < 0
  .rw[aaw h,List.filter_cons_of_pos (by simpa using h)];rfl
  .rw[aat h,List.filter_cons_of_neg (by simpa using h)]
theorem Ns (g:ai) (p:List Bool):eU (vG p) g.rules=qP g p:=by
 funext is
 unfold eU qP
 congr 1
 funext is r
 unfold stepG vG gZ
 split
 .exact Fq _ _
 .rfl
theorem KK {g:ai} (h:bC g=true) (t:Bool):jh (nY t) g.rules 16 (cE g)=au g t:=by
 have a:=bu h
 have hl:(cE g).length=g.ak.length:=by simp[cE]
 have:=a.ak
 rw[AR _ _ _ (by rw[hl];exact a.ak),Ox,hl,au,aaw h]
theorem QS {g:ai} (h:bC g=true):jh (vG (au g true)) g.rules 16 ((cE g).set g.start.toNat true)=bT g:=by
 have a:=bu h
 have hl:((cE g).set g.start.toNat true).length=g.ak.length:=by simp[cE]
 rw[AR _ _ _ (by rw[hl];exact a.ak),Ns,hl,bT,aaw h]
def vZ:SF:=⟨ae [ab [cy 1 0,cT 2 1],ae [ab [aY 3 4 1,bm 4 52 [3],c4 5 4],bf 5 (ae [ab [cT 2 1],.ret])],ab [aY 6 4 1,ao 7 1 1,aj 8 7,aM 9 8,((some 10),.op (.make 1 1 [(.val (.bool false))] (.tmp 9) (.tmp 9))),qx 11 169 [(.tmp 6),(.tmp 10),(.val (.fn 170 [] []))],aa 2 11],.ret],
 [.tmp 2],12⟩
theorem BS:aO Tryz.prog 118 [1]=some vZ:=by kernel_rfl
def tK:SF:=⟨ae [ab [cy 1 0,cT 2 1],ae [ab [aY 3 4 1,bm 4 52 [3],c4 5 4],bf 5 (ae [ab [cT 2 1],.ret])],ab [aY 6 4 1,ao 7 1 1,aj 8 7,aM 9 8,((some 10),.op (.make 1 1 [(.val (.bool false))] (.tmp 9) (.tmp 9))),qx 11 169 [(.tmp 6),(.tmp 10),(.val (.fn 195 [] []))],aa 2 11],.ret],
 [.tmp 2],12⟩
theorem zL:aO Tryz.prog 157 [1]=some tK:=by kernel_rfl
def vy:SF:=⟨ae [ab [cy 1 0,cT 2 1],ae [ab [aY 5 4 1,bm 6 52 [5],c4 7 6],bf 7 (ae [ab [cT 2 1],.ret])],ab [aY 8 4 1,bm 9 157 [8],((some 3),.op (.alloc [(.emp 1)])),bZ 1 3 9],ab [ao 10 1 1,aj 11 10,aM 12 11,((some 13),.op (.make 1 1 [(.val (.bool false))] (.tmp 12) (.tmp 12))),aa 4 13],ab [aa 14 4,ao 15 3 1,aj 16 15,aI 17 1 14 16,(none,.op (.store 1 (.tmp 17) (.val (.val (.bool true)))))],ab [aY 18 4 1,aa 19 4,((some 20),.op (.rQ 196 [] [(.tmp 3)])),bm 21 169 [18,19,20],aa 2 21],.ret],
 [.tmp 2],22⟩
theorem AP:aO Tryz.prog 158 [1]=some vy:=by kernel_rfl
structure ai.Small (g:ai):Prop where
 names:g.ak.length+g.af.length<=1000
theorem Ck {a:aG} {id n:Nat} {is:List Bool} (b:a.view id=.arr 1 (dP is)) (c:n=is.length):dB a (.sl id 0 n 1) (bO is):=by
 subst c;exact Bg b
theorem B8 (g:ai) (d:g.Ok) (hs:g.Small):cW Tryz.prog 118 [.agg (ag g)] (bO (au g false)):=by
 refine cW.of (eK g) ?_
 refine av.of mixed BS ?_
 have i:=d.ak
 unfold aK at i
 simp(disch:=omega)only[↓wr,seval,wq,vZ,ag,encS]
 refine ay.pure (mM g d hs.names) ?_
 repeat' (first | ((first|apply ah.dec|apply ah.eq|apply ah.ne|apply ah.split)<;>intro)|(simp(disch:=omega)only[↓wr,seval,wq,ag,encS]))
 .rename_i hr
  have b:=bu hr
  have h1:=b.p7
  have j:=b.ak
  try simp(disch:=omega)only[↓wr,seval,wq,ag,encS]
  refine⟨⟨by omega,by unfold aD;omega,by unfold aD;omega⟩,λh=>by omega,?_⟩
  intro _ n
  try simp(disch:=omega)only[↓wr,seval,wq,ag,encS]
  refine ay.dr ((Gz g b.rules (nY false) 170 [] [] (by kernel_rfl) g.ak.length j (λr a is e=>⟨JH r is (by rw[e];exact b.uW d a),?_,?_⟩) n (cE g) (by simp[cE]) _ (by simp[View.set,cE]) (λH' _=>trivial)).mono ?_)
  .unfold nY;split <;> simp
  .intro m hm
   unfold nY at hm
   split at hm
   .simp only[abq] at hm;subst hm
    exact⟨(d.ax r a).1,b.left r a⟩
   .simp at hm
  .rintro r H' ⟨rfl,c,_⟩
   simp(disch:=omega)only[↓wr,seval,wq]
   intro k f
   rw[KK hr] at c
   exact Ck (by rw[f];exact c) (fZ hr _).symm
 .rename_i hr
  intro k f
  simp only[au,hr]
  exact .emp _
theorem xK (g:ai) (d:g.Ok) (hs:g.Small):cW Tryz.prog 157 [.agg (ag g)] (bO (au g true)):=by
 refine cW.of (eK g) ?_
 refine av.of mixed zL ?_
 have i:=d.ak
 unfold aK at i
 simp(disch:=omega)only[↓wr,seval,wq,tK,ag,encS]
 refine ay.pure (mM g d hs.names) ?_
 repeat' (first | ((first|apply ah.dec|apply ah.eq|apply ah.ne|apply ah.split)<;>intro)|(simp(disch:=omega)only[↓wr,seval,wq,ag,encS]))
 .rename_i hr
  have b:=bu hr
  have h1:=b.p7
  have j:=b.ak
  try simp(disch:=omega)only[↓wr,seval,wq,ag,encS]
  refine⟨⟨by omega,by unfold aD;omega,by unfold aD;omega⟩,λh=>by omega,?_⟩
  intro _ n
  try simp(disch:=omega)only[↓wr,seval,wq,ag,encS]
  refine ay.dr ((Gz g b.rules (nY true) 195 [] [] (by kernel_rfl) g.ak.length j (λr a is e=>⟨GM r is (by rw[e];exact b.uW d a),?_,?_⟩) n (cE g) (by simp[cE]) _ (by simp[View.set,cE]) (λH' _=>trivial)).mono ?_)
  .unfold nY;split <;> simp
  .intro m hm
   unfold nY at hm
   split at hm
   .simp only[abq] at hm;subst hm
    exact⟨(d.ax r a).1,b.left r a⟩
   .simp at hm
  .rintro r H' ⟨rfl,c,_⟩
   simp(disch:=omega)only[↓wr,seval,wq]
   intro k f
   rw[KK hr] at c
   exact Ck (by rw[f];exact c) (fZ hr _).symm
 .rename_i hr
  intro k f
  simp only[au,hr]
  exact .emp _
theorem r8 {g:ai} (hr:bC g=true):(bT g).length=g.ak.length:=by
 rw[bT,aaw hr,Ee (f:=qP g (au g true)) (λis=>Es (λis x=>TS _ is x) g.rules is)]
 simp[cE]
theorem I6 (g:ai) (f:g.Ok) (hs:g.Small):cW Tryz.prog 158 [.agg (ag g)] (bO (bT g)):=by
 refine cW.of (eK g) ?_
 refine av.of mixed AP ?_
 have y:=f.ak
 unfold aK at y
 simp(disch:=omega)only[↓wr,seval,wq,vy,ag,encS]
 refine ay.pure (mM g f hs.names) ?_
 repeat' (first | ((first|apply ah.dec|apply ah.eq|apply ah.ne|apply ah.split)<;>intro)|(simp(disch:=omega)only[↓wr,seval,wq,ag,encS]))
 .rename_i hr
  have d:=bu hr
  have h1:=d.p7
  have A:=d.ak
  have C:=d.lf
  have D:=d.start
  have p:=fZ hr true
  try simp(disch:=omega)only[↓wr,seval,wq,ag,encS]
  refine ay.pure (xK g f hs).pure ?_
  simp(disch:=omega)only[↓wr,seval,wq,ag,encS,bO]
  intro q
  try simp(disch:=omega)only[↓wr,seval,wq,ag,encS,set_set]
  refine⟨⟨by omega,by unfold aD;omega,by unfold aD;omega⟩,λh=>by omega,?_⟩
  intro _ n t
  have e:=(df t c7).1
  try simp(disch:=omega)only[↓wr,seval,wq,ag,encS,set_set]
  have i:=mB (is:=cE g) (show g.start.toNat < (cE g).length by simp[cE];omega)
  refine⟨by omega,by simp;omega,?_⟩
  refine ay.dr ((Gz g d.rules (vG (au g true)) 196 [.ptr q 0 0] [.aH [bO (au g true)] 0] (by kernel_rfl) g.ak.length A (λr c is j=>⟨Jb r is (au g true) (by rw[j];exact d.uW f c) (by rw[j,p]),?_,?_⟩) n ((cE g).set g.start.toNat true) (by simp[cE]) _ ?_ (λH' u=>⟨ew.box (z:=1) ?_ ?_,trivial⟩)).mono ?_)
  .have E:=d.right r c
   unfold vG
   split
   .have:(iN r.right).length<=r.right.length:=by simp only[iN,aaA];exact abh _ _
    omega
   .simp
  .intro m hm
   unfold vG at hm
   split at hm
   .simp only[iN,aaM,abj,aaE] at hm
    obtain⟨s,⟨k,l⟩,rfl⟩:=hm
    have a:=d.neg c k l
    have b:=((f.ax r c).2.2.2 s k).1
    exact⟨⟨by omega,by omega⟩,by omega,a⟩
   .simp at hm
  .simp only[View.set,if_true]
   congr 1
   rw[<-mF]
   unfold cE at i ⊢
   rw[Cm,i]
   rfl
  .rw[u q (by simp[View.set,Ne.symm e]) (Ne.symm e)]
   simp[View.set,Ne.symm e]
   rfl
  .intro v w;simp at w;subst w;exact iP _
  .rintro r H' ⟨rfl,o,_⟩
   simp(disch:=omega)only[↓wr,seval,wq]
   intro B x
   rw[QS hr] at o
   exact Ck (by rw[x];exact o) (by rw[r8 hr])
 .rename_i hr
  intro B x
  simp only[bT,hr]
  exact .emp _
def cw (p q:List Bool) (r:bg):Bool:=q.getD r.left.toNat false && cP r.right p true
def dx (p q:List Bool):List bg->Int->List Int
 | [],_=>[]
 | r :: l,i=>if cw p q r=true then i :: dx p q l (i+1) else dx p q l (i+1)
def gW (acc:List Int) (r:bg):List Int:=if r.left∈acc then acc else acc ++ [r.left]
def cH (p q:List Bool) (l:List bg):List Int:=(l.filter (cw p q)).foldl gW []
def bR (o:List Int) (x:Int):Int:=cz (λy=>y == x) o 0
def bU (f:Int->Int) (r:bg):bg:=⟨f r.left,r.right.map λs=>if s < 0 then -1 - f (-1 - s) else s,r.prec⟩
def rI (g:ai) (f:Int->Int) (p q:List Bool):ai :=
 ⟨g.af,(cH p q g.rules).map λx=>g.ak.getD x.toNat ⟨#[]⟩,(g.rules.filter (cw p q)).map (bU f),f g.start⟩
def yi:ai:=⟨[],[],[],0⟩
instance:DecidableEq Term:=λa b=>decidable_of_iff (a.name=b.name/\a.level=b.level/\a.assoc=b.assoc) (by cases a;cases b;simp)
instance:DecidableEq bg:=λa b=>decidable_of_iff (a.left=b.left/\a.prec=b.prec/\a.right=b.right) (by cases a;cases b;simp[and_comm])
instance:DecidableEq ai:=λa b=>decidable_of_iff (a.af=b.af/\a.ak=b.ak/\a.rules=b.rules/\a.start=b.start) (by cases a;cases b;simp)
def gL (g:ai):ai × List Int × Int :=
 if bC g=true then
  if (au g true).getD g.start.toNat false=true then (rI g (bR (cH (au g true) (bT g) g.rules)) (au g true) (bT g),dx (au g true) (bT g) g.rules 0,0)
  else (yi,[],9)
 else (yi,[],1)
theorem mU {g:ai} (hr:bC g=true):gL g=if (au g true).getD g.start.toNat false=true then (rI g (bR (cH (au g true) (bT g) g.rules)) (au g true) (bT g),dx (au g true) (bT g) g.rules 0,0) else (yi,[],9):=by
 rw[gL,aaw hr]
theorem mG (p q:List Bool):∀ (a b:List bg) (i:Int),dx p q (a ++ b) i=dx p q a i ++ dx p q b (i+a.length)
 | [],b,i=>by simp[dx]
 | r :: a,b,i=>by
  simp only[aa9,dx,mG p q a b (i+1),aaK]
  have:i+1+(a.length:Int)=i+((a.length+1:Nat):Int):=by push_cast;omega
  rw[this]
  split <;> simp
theorem mH (p q:List Bool):∀ (a:List bg) (i:Int),(dx p q a i).length=(a.filter (cw p q)).length
 | [],i=>rfl
 | r :: a,i=>by
  simp only[dx,acp]
  split <;> simp[mH p q a]
theorem vT (p q:List Bool):∀ (a:List bg) (i:Int) (k:Nat),k < (dx p q a i).length->∃ m:Nat,(dx p q a i)[k]?=some (i+m)/\a[m]?=(a.filter (cw p q))[k]?/\m < a.length
 | [],i,k,h=>by simp[dx] at h
 | r :: a,i,k,h=>by
  simp only[dx,acp] at h ⊢
  by_cases hr:cw p q r=true
  .rw[aaw hr] at h ⊢
   rw[aaw hr]
   cases k with
   | zero=>exact⟨0,by simp,by simp,by simp⟩
   | succ k =>
    obtain⟨m,h1,b,c⟩:=vT p q a (i+1) k (by simpa using h)
    exact⟨m+1,by rw[abm,h1];congr 1;push_cast;omega,by simpa using b,by simpa using c⟩
  .rw[aat hr] at h ⊢
   rw[aat hr]
   obtain⟨m,h1,b,c⟩:=vT p q a (i+1) k h
   exact⟨m+1,by rw[h1];congr 1;push_cast;omega,by simpa using b,by simpa using c⟩
theorem vY (p q:List Bool) (l:List bg) (r:bg):cH p q (l ++ [r])=if cw p q r=true then gW (cH p q l) r else cH p q l:=by
 unfold cH
 rw[abN]
 by_cases h:cw p q r=true
 .rw[aaw h,List.filter_cons_of_pos h,abe];rfl
 .rw[aat h,List.filter_cons_of_neg h];simp
theorem Ge {acc:List Int} {r:bg} (h:acc.Nodup):(gW acc r).Nodup:=by
 unfold gW
 split
 .exact h
 .rename_i d
  rw[abr]
  exact⟨h,by simp,λa f b c e=>d (by simp at c;rw[<-c,<-e];exact f)⟩
theorem vD {o:List Int} {x:Int} : bR o x < 0↔x ∉ o:=by
 have:=oN (λy=>y == x) o 0 (by omega)
 unfold bR
 rw[<-Int.not_le]
 constructor
 .intro h a
  have e:(o.any λy=>y == x)=true:=List.any_eq_true.2 ⟨x,a,by simp⟩
  rw[e] at this;exact h (by simpa using this)
 .intro h a
  have e:(o.any λy=>y == x)=true:=by rw[<-this];simpa using a
  obtain⟨y,b,e⟩:=List.any_eq_true.1 e
  simp at e;subst e;exact h b
theorem wZ {α:Type} (p:α->Bool):∀ (a b:List α) (i:Int),0<=i->cz p (a ++ b) i=if 0<=cz p a i then cz p a i else cz p b (i+a.length)
 | [],b,i,_=>by simp[cz]
 | x :: a,b,i,h=>by
  by_cases hp:p x=true
  .simp[cz,hp,h]
  .simp only[aa9,cz,aat hp]
   rw[wZ p a b (i+1) (by omega)]
   have:i+1+(a.length:Int)=i+(((x :: a).length:Nat):Int):=by simp;omega
   rw[this]
theorem RW {o:List Int} {x y:Int} (c:x ∉ o):bR (o ++ [x]) y=if y=x then (o.length:Int) else bR o y:=by
 unfold bR
 rw[wZ _ _ _ _ (by omega)]
 by_cases e:y=x
 .subst e
  rw[aat (by have:=vD.2 c;unfold bR at this;omega),aaw rfl]
  simp[cz]
 .rw[aat e]
  split
  .rfl
  .rename_i h
   have:bR o y < 0:=by unfold bR;omega
   have b:cz (λz=>z == y) [x] (0+(o.length:Int)) = -1:=by simp[cz,Ne.symm e]
   rw[b]
   have:∀ (l:List Int) (i:Int),¬ 0<=cz (λz=>z == y) l i->0<=i->cz (λz=>z == y) l i = -1:=by
    intro l
    induction l with
    | nil=>intro i _ _;rfl
    | cons z l d =>
     intro i h1 b
     simp only[cz] at h1 ⊢
     split
     .rename_i a;rw[aaw a] at h1;omega
     .rename_i a;rw[aat a] at h1;exact d _ h1 (by omega)
   exact(this o 0 h (by omega)).symm
theorem pA {o:List Int} {x:Int} (h:x∈o):0<=bR o x/\bR o x < o.length:=by
 have a:¬ bR o x < 0:=λe=>vD.1 e h
 refine⟨by omega,?_⟩
 unfold bR
 have:∀ (l:List Int) (i:Int),cz (λz=>z == x) l i < i+l.length∨cz (λz=>z == x) l i = -1:=by
  intro l
  induction l with
  | nil=>intro i;right;rfl
  | cons z l b =>
   intro i
   simp only[cz]
   split
   .left;simp;omega
   .rcases b (i+1) with h | h
    .left;simp at h ⊢;omega
    .right;exact h
 rcases this o 0 with h1 | h1
 .simpa using h1
 .unfold bR at a;omega
theorem Xa (o:List Int) (x:Int) : -1<=bR o x/\bR o x<=o.length:=by
 by_cases h:x∈o
 .have:=pA h;omega
 .have h1:=vD.2 h
  have a:∀ (l:List Int) (i:Int),0<=i->-1<=cz (λz=>z == x) l i:=by
   intro l
   induction l with
   | nil=>intro i _;simp[cz]
   | cons z l b =>
    intro i hi
    simp only[cz]
    split
    .omega
    .exact b _ (by omega)
  have:=a o 0 (by omega)
  unfold bR at h1 ⊢
  omega
def kO:List Int->Int->List (Int × Int)
 | [],_=>[]
 | x :: l,i=>(x,i) :: kO l (i+1)
theorem wy (x:Int):∀ (o:List Int) (i:Int),fg (kO o i) x=if x∈o then some (cz (λy=>y == x) o i) else none
 | [],i=>by simp[kO,fg]
 | y :: o,i=>by
  have a:=wy x o (i+1)
  unfold fg at a ⊢
  simp only[kO,acf,cz]
  by_cases e:x=y
  .subst e;simp
  .have b:¬ ((y == x)=true):=by simp[Ne.symm e]
   rw[show (x == y)=false by simp[e],aat b]
   simp only
   rw[a]
   simp[e]
theorem IV {x v:Int} : ∀ {o:List Int} {i:Int},x ∉ o->lP x v (kO o i)=kO o i ++ [(x,v)]
 | [],i,_=>rfl
 | y :: o,i,h=>by
  simp only[aaI,not_or] at h
  simp only[kO,lP,show (x == y)=false by simp[h.1],aaU,if_false,IV h.2,aa9]
theorem E1 {x:Int} : ∀ {o:List Int} {i:Int},kO (o ++ [x]) i=kO o i ++ [(x,i+o.length)]
 | [],i=>by simp[kO]
 | y :: o,i=>by
  simp only[aa9,kO,E1 (o:=o),aaK]
  congr 4
  push_cast;omega
def eQ (o:List Int) (x:Int):Int:=(fg (kO o 0) x).getD 0
theorem CK {o:List Int} {x:Int} (h:x∈o):eQ o x=bR o x:=by
 simp[eQ,wy,h,bR]
theorem XH (o:List Int) (x:Int):0<=eQ o x/\eQ o x<=o.length:=by
 by_cases h:x∈o
 .rw[CK h];have:=pA h;omega
 .simp[eQ,wy,h]
theorem SQ {g:ai} {p q:List Bool} (a:g.start∈cH p q g.rules) (b:∀ r∈g.rules.filter (cw p q),r.left∈cH p q g.rules/\∀ s∈r.right,s < 0->-1 - s∈cH p q g.rules) :
  rI g (eQ (cH p q g.rules)) p q=rI g (bR (cH p q g.rules)) p q:=by
 unfold rI
 congr 1
 .apply acw
  intro r hr
  obtain⟨h1,c⟩:=b r hr
  unfold bU
  congr 1
  .exact CK h1
  .apply acw
   intro s hs
   split
   .rename_i h;rw[CK (c s hs h)]
   .rfl
 .exact CK a
theorem x9:∀ (l:List bg) (acc:List Int) (x:Int),x∈l.foldl gW acc↔x∈acc∨∃ r∈l,r.left=x
 | [],acc,x=>by simp
 | r :: l,acc,x=>by
  rw[aaR,x9 l]
  have:x∈gW acc r↔x∈acc∨r.left=x:=by
   unfold gW
   split
   .rename_i h
    constructor
    .exact .inl
    .rintro (a | rfl)
     .exact a
     .exact h
   .simp[eq_comm]
  rw[this]
  simp only[aaI,exists_eq_or_imp]
  constructor
  .rintro ((h | h) | h)
   .exact .inl h
   .exact .inr (.inl h)
   .exact .inr (.inr h)
  .rintro (h | h | h)
   .exact .inl (.inl h)
   .exact .inl (.inr h)
   .exact .inr h
theorem vp {p q:List Bool} {l:List bg} {x:Int} : x∈cH p q l↔∃ r∈l,cw p q r=true/\r.left=x:=by
 unfold cH
 rw[x9]
 simp[abj,and_assoc]
def ot:SC :=
 ae [ae [ab [aa 42 9,aa 43 8,aM 44 43,aQ 45 .lss 42 44],bS 45 (.exit 0)],.block 1 (ab [aa 48 8,aa 49 9,aI 50 1 48 49,(none,.op (.store 1 (.tmp 50) (.val (.val (.int .i64 (-1))))))]),ab [aa 46 9,aF 47 .add 46 1,aa 9 47]]
def nT:SC :=
 ae [ae [ab [aa 51 11,ao 52 2 1,aj 53 52,aM 54 53,aQ 55 .lss 51 54],bS 55 (.exit 2)],.block 3 (ae [ab [ao 58 2 1,aj 59 58,aa 60 11,aI 61 3 59 60,aY 62 3 61,((some 12),.op (.alloc [(.val (.int .i64 0)),(.emp 1),(.val (.int .i64 0))])),bZ 3 12 62],ae [.region false [⟨none,[aa 63 6,ao 64 0 12,aj 65 64,aI 66 1 63 65,aj 67 66,c4 68 67,aa 69 68]⟩,⟨(some (69,false)),[ao 70 1 12,aj 71 70,aa 72 5,qx 73 117 [(.tmp 71),(.tmp 72),(.val (.val (.bool true)))],c4 74 73]⟩,⟨none,[cF 75 69 74]⟩],bf 75 (.exit 3)],ab [aa 76 10,aa 77 11,((some 78),.op (.bW 1 1 [(.val (.int .i64 0))] [(0,(.tmp 77))])),gx 79 1 8 76 78,aa 10 79],ab [aa 80 8,ao 81 0 12,aj 82 81,aI 83 1 80 82,aj 84 83,aF 85 .lss 84 0],bf 85 (ae [ab [aa 86 8,ao 87 0 12,aj 88 87,ao 89 1 7,aj 90 89,aM 91 90,aI 92 1 86 88,bZ 1 92 91],.region false [⟨none,[ao 93 1 7,aj 94 93,ao 95 1 1,aj 96 95,ao 97 0 12,aj 98 97,aI 99 1 96 98,aj 100 99,((some 101),.op (.bW 1 1 [(.val (.string ⟨#[]⟩))] [(0,(.tmp 100))])),gx 102 1 16 94 101,ao 103 1 7,bZ 1 103 102]⟩]])]),ab [aa 56 11,aF 57 .add 56 1,aa 11 57]]
def om:SC :=
 ae [ae [ab [aa 126 16,ao 127 1 14,aj 128 127,aM 129 128,aQ 130 .lss 126 129],bS 130 (.exit 6)],.block 7 (ae [ab [ao 133 1 14,aj 134 133,aa 135 16,aI 136 1 134 135,aj 137 136,aa 17 137],ae [ab [aa 138 17,aF 139 .lss 138 0],bf 139 (ab [aa 140 8,aa 141 17,((some 142),.op (.arith .sub (.val (.val (.int .i64 (-1)))) (.tmp 141))),aI 143 1 140 142,aj 144 143,((some 145),.op (.arith .sub (.val (.val (.int .i64 (-1)))) (.tmp 144))),aa 17 145])],ab [ao 146 1 15,aj 147 146,aa 148 17,((some 149),.op (.bW 1 1 [(.val (.int .i64 0))] [(0,(.tmp 148))])),gx 150 1 8 147 149,ao 151 1 15,bZ 1 151 150]]),ab [aa 131 16,aF 132 .add 131 1,aa 16 132]]
def ov:SC :=
 ae [ae [ab [aa 104 13,aa 105 10,aM 106 105,aQ 107 .lss 104 106],bS 107 (.exit 4)],.block 5 (ae [ab [ao 110 2 1,aj 111 110,aa 112 10,aa 113 13,aI 114 1 112 113,aj 115 114,aI 116 3 111 115,aY 117 3 116,((some 14),.op (.alloc [(.val (.int .i64 0)),(.emp 1),(.val (.int .i64 0))])),bZ 3 14 117],ab [aa 118 8,ao 119 0 14,aj 120 119,aI 121 1 118 120,aj 122 121,ao 123 2 14,aj 124 123,((some 125),.op (.build [(.val (.int .i64 0)),(.emp 1),(.val (.int .i64 0))] [(0,1,(.tmp 122)),(2,1,(.tmp 124))])),((some 15),.op (.alloc [(.val (.int .i64 0)),(.emp 1),(.val (.int .i64 0))])),bZ 3 15 125],ae [ab [aT 16 0],bX 6 om],ab [ao 152 2 7,aj 153 152,aY 154 3 15,((some 155),.op (.bW 1 3 [(.val (.int .i64 0)),(.emp 1),(.val (.int .i64 0))] [(0,(.tmp 154))])),gx 156 3 40 153 155,ao 157 2 7,bZ 1 157 156]]),ab [aa 108 13,aF 109 .add 108 1,aa 13 109]]
def pT:SF:=⟨ae [ab [cy 1 0,((some 2),.op (.alloc [(.emp 1),(.emp 1),(.emp 1),(.val (.int .i64 0))])),cT 3 1,aT 4 0],ae [ab [aY 18 4 1,bm 19 54 [18],c4 20 19],bf 20 (ae [ab [((some 21),.op (.build [(.emp 1),(.emp 1),(.emp 1),(.val (.int .i64 0))] [])),bZ 4 2 21,cT 3 1,aT 4 1],.ret])],.region true [⟨none,[aY 22 4 1,bm 23 115 [22],aY 24 4 1,bm 25 116 [24],aa 5 23,aa 6 25]⟩],ae [ab [aa 26 5,ao 27 3 1,aj 28 27,aI 29 1 26 28,aj 30 29,c4 31 30],bf 31 (ae [ab [((some 32),.op (.build [(.emp 1),(.emp 1),(.emp 1),(.val (.int .i64 0))] [])),bZ 4 2 32,cT 3 1,aT 4 9],.ret])],ab [cT 33 2,ao 34 0 1,aj 35 34,gx 36 3 32 33 35,((some 37),.op (.build [(.emp 1),(.emp 1),(.emp 1),(.val (.int .i64 0))] [(0,1,(.tmp 36))])),((some 7),.op (.alloc [(.emp 1),(.emp 1),(.emp 1),(.val (.int .i64 0))])),bZ 4 7 37],ab [ao 38 1 1,aj 39 38,aM 40 39,((some 41),.op (.make 1 8 [(.val (.int .i64 0))] (.tmp 40) (.tmp 40))),aa 8 41],ae [ab [aT 9 0],bX 0 ot],ab [cT 10 1],ae [ab [aT 11 0],bX 2 nT],ae [ab [aT 13 0],bX 4 ov],ab [aa 158 8,ao 159 3 1,aj 160 159,aI 161 1 158 160,aj 162 161,ao 163 3 7,bZ 1 163 162],ab [aY 164 4 7,aa 165 10,bZ 4 2 164,aa 3 165,aT 4 0],.ret],
 [.cell 2 (some 4),.tmp 3,.tmp 4],166⟩
theorem vP:aO Tryz.prog 70 [1]=some pT:=by kernel_rfl
abbrev bK (l:List Int):List (List V):=l.map λx=>[gi x]
abbrev me (l:List ByteArray):List (List V):=l.map λs=>[gs s]
theorem mD {l:List Int} {i:Nat} (h:i < l.length):(bK l).getD i []=[gi l[i]]:=by simp[aaq,h]
theorem ints_set (l:List Int) (i:Nat) (x:Int):(bK l).set i [gi x]=bK (l.set i x):=by simp[abR]
theorem Xh {l:List Int} (h:0 < l.length):bK l≠[]:=by intro e;rw[List.map_eq_nil_iff] at e;rw[e] at h;simp at h
theorem Aj {α:Type} {x:α} : ∀ {l:List α} {i:Nat},i < l.length->(l.set i x).take (i+1)=l.take i ++ [x]
 | y :: l,0,_=>by simp
 | y :: l,i+1,h=>by
  have:=Aj (x:=x) (l:=l) (i:=i) (by simpa using h)
  simp only[List.set_cons_succ,ach,this,aa9]
def gq (n:Nat) (o:List Int):List Int:=(List.range n).map λ(x:Nat)=>bR o (x:Int)
theorem Xn (n:Nat):gq n []=List.replicate n (-1):=by
 apply List.ext_getElem
 .simp[gq]
 .intro i h1 a
  simp[gq,bR,cz]
theorem CL {n:Nat} {o:List Int} {x:Int} (a:0<=x) (h1:x < n):(gq n o)[x.toNat]'(by simp[gq];omega)=bR o x:=by
 simp[gq,show ((x.toNat:Nat):Int)=x by omega]
theorem XK {n:Nat} {o:List Int} {x:Int} (b:0<=x) (h1:x < n) (a:x ∉ o):(gq n o).set x.toNat o.length=gq n (o ++ [x]):=by
 apply List.ext_getElem
 .simp[gq]
 .intro i c d
  rw[List.getElem_set]
  simp only[gq,List.getElem_map,List.getElem_range]
  rw[RW a]
  by_cases e:x.toNat=i
  .rw[aaw e,aaw (by omega)]
  .rw[aat e,aat (by omega)]
abbrev CB:=List (V × bg)
def jc (b:CB):List (List V):=b.map λx=>[gi x.2.left,x.1,gi x.2.prec]
def nV (b:CB):List cx:=b.map λx=>(x.1,1,bK x.2.right)
theorem Rl {h:aG} {u:V} {b:CB} (c:ba h.view u 3 (jc b)) (f:∀ x∈nV b,ba h.view x.1 x.2.1 x.2.2):dB h u (.aE ((b.map (·.2)).map aU)):=by
 refine dB.own c (by simp[jc]) (λi hi=>?_) (λi j hi a=>?_)
 all_goals
  simp only[jc,aaA] at hi
  have e:(jc b).getD i []=[gi b[i].2.left,b[i].1,gi b[i].2.prec]:=by simp[jc,aaq,hi]
  have d:((b.map (·.2)).map aU).getD i []=aU b[i].2:=by simp[aaq,hi]
 .rw[e,d];rfl
 .rw[e,d]
  rw[d] at a
  have hm:b[i]∈b:=aaC _
  have c:=f (b[i].1,1,bK b[i].2.right) (aaM.2 ⟨_,hm,rfl⟩)
  match j,a with
  | 0,_=>exact .val _
  | 1,_=>exact kK c
  | 2,_=>exact .val _
  | n+3,a=>exact absurd a (by simp only[aU,aaK,aa2];omega)
theorem Vv {h:aG} {u:V} {l:List ByteArray} (a:ba h.view u 1 (me l)):dB h u (encS l):=dB.PK (f:=Value.string) a
theorem T8 {h:aG} {u:V} {l:List Term} (b:ba h.view u 3 (l.map cm)):dB h u (fq l):=by
 refine dB.own b rfl (λ_ _=>rfl) (λi j hi a=>?_)
 simp only[aaA] at hi
 have c:(l.map cm).getD i []=cm l[i]:=by simp[aaq,hi]
 rw[c] at a ⊢
 match j,a with
 | 0,_=>exact .val _
 | 1,_=>exact .val _
 | 2,_=>exact .val _
 | n+3,a=>exact absurd a (by simp only[cm,aaK,aa2];omega)
def z7 (x:ai × List Int × Int):V:=.bD [.agg (ag x.1),encI x.2.1,gi x.2.2]
theorem yP {h:aG} {e:Int} {b k2 c d:Nat} : dB h (.bD [.agg [.emp b,.emp k2,.emp c,gi 0],.emp d,gi e]) (z7 (yi,[],e)):=by
 refine .bD _ _ rfl λi hi=>?_
 match i,hi with
 | 0,_ =>
  refine .agg _ _ rfl λj a=>?_
  match j,a with
  | 0,_=>exact .emp _
  | 1,_=>exact .emp _
  | 2,_=>exact .emp _
  | 3,_=>exact .val _
  | n+4,a=>exact absurd a (by simp only[aaK,aa2];omega)
 | 1,_=>exact .emp _
 | 2,_=>exact .val _
 | n+3,hi=>exact absurd hi (by simp only[aaK,aa2];omega)
def XU (g:ai) (p q:List Bool) (b2 b7 b8:Nat) (u0:V) (i:Nat) (T:Env) (H:View):Prop :=
 (∃ u1 u3:V,T 10=u3/\(∀ x∈cH p q (g.rules.take i),0<=x/\x < g.ak.length)/\(cH p q (g.rules.take i)).Nodup/\(cH p q (g.rules.take i)).length<=i /\
  bk H [(.sl b7 0 1 4,4,[[u0,u1,.emp 1,gi 0]]),(.sl b8 0 g.ak.length 1,1,bK (gq g.ak.length (cH p q (g.rules.take i)))),(u3,1,bK (dx p q (g.rules.take i) 0)),
   (u1,1,me ((cH p q (g.rules.take i)).map λx=>g.ak.getD x.toNat ⟨#[]⟩)),(u0,3,g.af.map cm),(.sl b2 0 1 4,4,[[.emp 1,.emp 1,.emp 1,gi 0]])]) /\
 T 1=.aH (ag g) 0/\T 2=.ptr b2 0 0/\T 5=bO p/\T 6=bO q/\T 7=.ptr b7 0 0/\T 8=.sl b8 0 g.ak.length 1/\T 11=gi i
def ZQ (g:ai) (p q:List Bool) (b2 b7 b8:Nat) (u0 u1 u3:V) (o kl:List Int) (i:Nat) (T:Env) (H:View):Prop :=
 (∃ (u2:V) (bs:CB),bs.map (·.2)=((g.rules.filter (cw p q)).take i).map (bU (bR o)) /\
  bk H ((.sl b7 0 1 4,4,[[u0,u1,u2,gi 0]]) :: (.sl b8 0 g.ak.length 1,1,bK (gq g.ak.length o)) :: (u3,1,bK kl) ::
   (u1,1,me (o.map λx=>g.ak.getD x.toNat ⟨#[]⟩)) :: (u0,3,g.af.map cm) :: (u2,3,jc bs) :: (.sl b2 0 1 4,4,[[.emp 1,.emp 1,.emp 1,gi 0]]) :: nV bs)) /\
 T 1=.aH (ag g) 0/\T 2=.ptr b2 0 0/\T 7=.ptr b7 0 0/\T 8=.sl b8 0 g.ak.length 1/\T 10=u3/\T 13=gi i
def Zy (g:ai) (b2 b7 b8 b14 b15:Nat) (u3:V) (o:List Int) (r:bg) (L:List cx) (i k:Nat) (T:Env) (H:View):Prop :=
 (∃ v:V,bk H ((.sl b15 0 1 3,3,[[gi (bR o r.left),v,gi r.prec]]) :: (v,1,bK ((bU (bR o) r).right.take k)) :: (.sl b14 0 1 3,3,[aU r]) :: L)) /\
 T 1=.aH (ag g) 0/\T 2=.ptr b2 0 0/\T 7=.ptr b7 0 0/\T 8=.sl b8 0 g.ak.length 1/\T 10=u3/\T 13=gi i/\T 14=.ptr b14 0 0/\T 15=.ptr b15 0 0/\T 16=gi k
theorem Ot {h:aG} {c d e f:V} {x:ai × List Int × Int} {b:CB} (g:ba h.view c 3 (x.1.af.map cm)) (h1:ba h.view d 1 (me x.1.ak)) (k:ba h.view e 3 (jc b)) (l:∀ y∈nV b,ba h.view y.1 y.2.1 y.2.2)
  (hr:b.map (·.2)=x.1.rules) (m:ba h.view f 1 (bK x.2.1)):dB h (.bD [.agg [c,d,e,gi x.1.start],f,gi x.2.2]) (z7 x):=by
 refine .bD _ _ rfl λi hi=>?_
 match i,hi with
 | 0,_ =>
  refine .agg _ _ rfl λj a=>?_
  match j,a with
  | 0,_=>exact T8 g
  | 1,_=>exact Vv h1
  | 2,_=>have:=Rl k l;rw[hr] at this;exact this
  | 3,_=>exact .val _
  | n+4,a=>exact absurd a (by simp only[aaK,aa2];omega)
 | 1,_=>exact kK m
 | 2,_=>exact .val _
 | n+3,hi=>exact absurd hi (by simp only[aaK,aa2];omega)
theorem MB (g:ai) (hg:g.Ok):cW Tryz.prog 70 [.agg (ag g)] (z7 (gL g)):=by
 refine cW.of (eK g) ?_
 refine av.of mixed vP ?_
 simp(disch:=omega)only[↓wr,seval,wq,pT,ag,encS]
 intro M
 try simp(disch:=omega)only[↓wr,seval,wq,ag,encS]
 refine ay.pure (kT g hg) ?_
 repeat' (first | ((first|apply ah.dec|apply ah.eq|apply ah.ne|apply ah.split)<;>intro)|(simp(disch:=omega)only[↓wr,seval,wq,ag,encS,set_set]))
 .rename_i hr
  refine ay.pure (wu g hg) ?_
  simp(disch:=omega)only[↓wr,seval,wq,ag,encS]
  refine ay.pure (He g hg).pure ?_
  have hf:=bu hr
  have h3:=hf.lf
  have h4:=hf.start
  have cS:=fZ hr true
  have e5:=r8 hr
  have c:=mU hr
  generalize au g true=p at cS c
  generalize bT g=q at e5 c
  have b4:p[g.start.toNat]?=some (p[g.start.toNat]'(by omega)):=aar (by omega)
  have cV:p.getD g.start.toNat false=p[g.start.toNat]'(by omega):=by simp[aaq,b4]
  generalize p[g.start.toNat]'(by omega)=s at b4 cV
  rw[cV] at c
  simp(disch:=omega)only[↓wr,seval,wq,ag,encS,bO,aav,b4]
  cases s with
  | false =>
   rw[aat (by simp)] at c
   simp(disch:=omega)only[↓wr,seval,wq,ag,encS,set_set]
   rintro h' hh
   rw[c]
   exact yP
  | true =>
   rw[aaw rfl] at c
   simp(disch:=omega)only[↓wr,seval,wq,ag,encS,set_set]
   have hN:=hf.ak
   have hA:=hf.p7
   have hT:=hf.af
   have hR:=hf.rules
   refine ct (L:=[(.sl M 0 1 4,4,[[.emp 1,.emp 1,.emp 1,gi 0]])]) (bk.emp (bk.nil.new rfl 4 _)) (by simp[cm,aR]) (by unfold aD;simp;omega) (by unfold aD;simp;omega) ?_
   intro C H1 b5 _
   have c0:=b5.head.cells
   have k0:=b5.head.iO
   simp(disch:=omega)only[↓wr,seval,wq,ag,encS,c0,k0]
   intro P e6
   have e7:=b5.new e6 4 [[C,.emp 1,.emp 1,gi 0]]
   try simp(disch:=omega)only[↓wr,seval,wq,ag,encS,c0,k0,set_set]
   refine⟨⟨by omega,by unfold aD;omega,by unfold aD;omega⟩,λh=>by omega,?_⟩
   intro _ B c3
   have c5:=(df c3 c7).1
   have j:=e7.new (n:=B) (by simp only[View.set,aat c5];exact(df (df c3 c7).2 c7).2) 1 (bK (List.replicate g.ak.length 0))
   try simp(disch:=omega)only[↓wr,seval,wq,ag,encS,c0,k0,set_set]
   refine aS.up g.ak.length (λi T H=>(∃ l:List Int,l.length=g.ak.length/\l.take i=List.replicate i (-1) /\
    bk H [(.sl B 0 g.ak.length 1,1,bK l),(.sl P 0 1 4,4,[[C,.emp 1,.emp 1,gi 0]]),(C,3,g.af.map cm),(.sl M 0 1 4,4,[[.emp 1,.emp 1,.emp 1,gi 0]])]) /\
    T 1=.aH (ag g) 0/\T 2=.ptr M 0 0/\T 5=bO p/\T 6=bO q/\T 7=.ptr P 0 0/\T 8=.sl B 0 g.ak.length 1/\T 9=gi i) ?_ ?_
   .exact⟨⟨List.replicate g.ak.length 0,by simp,by simp,by simpa [set_set] using j⟩,rfl,rfl,rfl,rfl,rfl,rfl,rfl⟩
   rintro i k T H2 hk ⟨⟨l,G,t,f⟩,t1,t2,t5,t6,t7,t8,t9⟩
   simp(disch:=omega)only[↓wr,seval,wq,ot,t1,t2,t5,t6,t7,t8,t9]
   apply ah.dec<;>intro hc
   .have e8:bK l≠[]:=by intro e;rw[List.map_eq_nil_iff] at e;rw[e] at G;simp at G;omega
    have hb:=(f.obj e8).1
    have u:=mD (show i < l.length by omega)
    simp(disch:=omega)only[↓wr,seval,wq,t1,t2,t5,t6,t7,t8,t9,hb,u,aaA]
    refine⟨by omega,by omega,?_⟩
    refine aC hk (by omega) ⟨⟨l.set i (-1),by simp[G],?_,?_⟩,t1,t2,t5,t6,t7,t8,rfl⟩
    .rw[Aj (by omega),t,List.replicate_succ']
    .rw[ints_set]
     exact f.put (by simp) (by simp[G])
   .rw[aaJ (by omega)] at t
    rw[t] at f
    have ei:i=g.ak.length:=by omega
    subst ei
    simp(disch:=omega)only[↓wr,seval,wq,t1,t2,t5,t6,t7,t8,t9]
    have name_in:∀ o:List Int,(o.map λx=>g.ak.getD x.toNat ⟨#[]⟩).length=o.length:=λo=>by simp
    refine aS.up g.rules.length (XU g p q M P B C) ?_ ?_
    .refine⟨⟨.emp 1,.emp 1,rfl,by simp[cH],by simp[cH],by simp[cH],?_⟩,t1,t2,t5,t6,t7,t8,rfl⟩
     have h4:=((((f.emp (k:=1) (sz:=1)).emp (k:=1) (sz:=1)).at 3 (by simp)).perm (Eg.symm.cons _))
     have e0:cH p q (g.rules.take 0)=[]:=rfl
     rw[e0,Xn]
     exact h4
    clear f t1 t2 t5 t6 t7 t8 t9 G t
    rintro i k T H2 hk ⟨⟨J,u3,t10,ar,bb,b9,f⟩,t1,t2,t5,t6,t7,t8,t11⟩
    simp(disch:=omega)only[↓wr,seval,wq,nT,t1,t2,t5,t6,t7,t8,t10,t11,ag]
    apply ah.dec<;>intro hc
    .have I:g.rules[i]?=some (g.rules[i]'(by omega)):=aar (by omega)
     have z:g.rules[i]'(by omega)∈g.rules:=aaC _
     have D:g.rules.take (i+1)=g.rules.take i ++ [g.rules[i]'(by omega)]:=by rw[aaQ,I];rfl
     generalize g.rules[i]'(by omega)=r at I z D
     obtain⟨G,t,Q,fb,bd⟩:=hf.uW hg z
     have ca:q[r.left.toNat]?=some (q[r.left.toNat]'(by omega)):=aar (by omega)
     have mf:q.getD r.left.toNat false=q[r.left.toNat]'(by omega):=by simp[aaq,ca]
     generalize q[r.left.toNat]'(by omega)=qs at ca mf
     simp(disch:=omega)only[↓wr,seval,wq,t1,t2,t5,t6,t7,t8,t10,t11,ag,aU,aav,I]
     intro c9 da
     have A:=f.new da 3 [aU r]
     try simp(disch:=omega)only[↓wr,seval,wq,t1,t2,t5,t6,t7,t8,t10,t11,aU,encI,bO,aav,ca,set_set]
     have R:∀ (T2:Env) (H':View),cw p q r=false->H'=H2.set c9 (.arr 3 [aU r])->T2 10=u3->T2 1=.aH (ag g) 0->T2 2=.ptr M 0 0->T2 5=bO p->T2 6=bO q->T2 7=.ptr P 0 0->T2 8=.sl B 0 g.ak.length 1->T2 11=gi ((i:Int)+1) ->
       ∃ k',k' < k/\Fl g.rules.length k' (XU g p q M P B C) T2 H':=by
      intro T2 H' S ff fl a1 a2 a5 a6 a7 a8 fm
      have N:cH p q (g.rules.take (i+1))=cH p q (g.rules.take i):=by rw[D,vY,aat (by simp[S])]
      have e2:dx p q (g.rules.take (i+1)) 0=dx p q (g.rules.take i) 0:=by rw[D,mG];simp[dx,S]
      refine aC hk (by omega) ⟨⟨J,u3,fl,by rw[N];exact ar,by rw[N];exact bb,by rw[N];omega,by rw[N,e2,ff];exact A.tail⟩,a1,a2,a5,a6,a7,a8,by rw[fm];rfl⟩
     cases qs with
     | false =>
      simp(disch:=omega)only[↓wr,seval,wq,t1,t2,t5,t6,t7,t8,t10,t11]
      refine R _ _ (by rw[cw,mf];rfl) ?_ ?_ ?_ ?_ ?_ ?_ ?_ ?_ ?_
      all_goals first | exact t10 | exact t1 | exact t2 | exact t5 | exact t6 | exact t7 | exact t8 | rfl | (rw[set_set];rfl)
     | true =>
      simp(disch:=omega)only[↓wr,seval,wq,t1,t2,t5,t6,t7,t8,t10,t11,aU,encI,bO]
      refine ay.pure (KH r.right p true (hg.ax r z).2.2.1 (λs hs=>⟨(bd s hs).1,λh=>by rw[cS];exact(bd s hs).2 h⟩)) ?_
      simp(disch:=omega)only[↓wr,seval,wq,t1,t2,t5,t6,t7,t8,t10,t11]
      apply ah.split<;>intro cc
      .simp(disch:=omega)only[↓wr,seval,wq,t1,t2,t5,t6,t7,t8,t10,t11]
       have S:cw p q r=true:=by rw[cw,mf,cc];rfl
       intro m hm
       try simp(disch:=omega)only[↓wr,seval,wq,t1,t2,t5,t6,t7,t8,t10,t11,bM]
       have db:=(df hm c7).1
       have hm:=(df (df hm c7).2 c7).2
       have d:=(A.fresh (n:=m) (o:=.arr 1 [[gi i]]) (by simp only[View.set,aat db];exact hm)).at 3 (by simp)
       have dc:(dx p q (g.rules.take i) 0).length<=40:=by
        rw[mH]
        have h1:=abh (cw p q) (g.rules.take i)
        have h2:(g.rules.take i).length<=i:=List.length_take_le _ _
        have:=hf.rules
        omega
       refine ct (by rw[set_set];exact d) (by simp[aR]) (by unfold aD;simp at dc ⊢;omega) (by unfold aD;simp at dc ⊢;omega) ?_
       intro dj H3 j _
       have f12:=((j.at 1 (by simp)).obj (by simp)).1
       have f7:=((j.at 2 (by simp)).obj (by simp)).1
       have f8:=((j.at 3 (by simp)).obj (Xh (by simp[gq];omega))).1
       have cf:cU J=some (me ((cH p q (g.rules.take i)).map λx=>g.ak.getD x.toNat ⟨#[]⟩)).length:=(j.at 4 (by simp)).head.len
       have u:=mD (l:=gq g.ak.length (cH p q (g.rules.take i))) (i:=r.left.toNat) (by simp[gq];omega)
       rw[CL t Q] at u
       simp only[aU,encI] at f12
       simp(disch:=omega)only[↓wr,seval,wq,t1,t2,t5,t6,t7,t8,t11,f12,f7,f8,u]
       refine⟨by omega,by simp[gq];omega,?_⟩
       have e2:dx p q (g.rules.take (i+1)) 0=dx p q (g.rules.take i) 0 ++ [(i:Int)]:=by
        rw[D,mG];simp[dx,S,show i<=g.rules.length by omega]
       have N:cH p q (g.rules.take (i+1))=gW (cH p q (g.rules.take i)) r:=by rw[D,vY,aaw S]
       generalize cH p q (g.rules.take i)=o at *
       generalize dx p q (g.rules.take i) 0=kl at *
       apply ah.dec<;>intro dm
       .have hx:r.left ∉ o:=vD.1 dm
        have E:gW o r=o ++ [r.left]:=by rw[gW,aat hx]
        have U:P≠B:=j.Ih 2 3 rfl rfl (by omega)
        have W:c9≠B:=j.Ih 1 3 rfl rfl (by omega)
        have cg:g.ak[r.left.toNat]?=some (g.ak[r.left.toNat]'(by omega)):=aar (by omega)
        have br:g.ak.getD r.left.toNat ⟨#[]⟩=g.ak[r.left.toNat]'(by omega):=by simp[aaq,cg]
        generalize g.ak[r.left.toNat]'(by omega)=nm at cg br
        simp(disch:=omega)only[↓wr,seval,wq,t1,t2,t5,t6,t7,t8,t11,f12,f7,f8,u,cf,aaA]
        try refine⟨by omega,by simp[gq];omega,?_⟩
        try simp(disch:=omega)only[↓wr,seval,wq,t1,t2,t5,t6,t7,t8,t11,f12,f7,f8,u,cf,aaA,U,W,ag,encS,aav,cg]
        intro m2 O
        have ds:=(df O c7).1
        have O:=(df O c7).2
        have fs:(bK (gq g.ak.length o)).set r.left.toNat [gi o.length]=bK (gq g.ak.length (o ++ [r.left])):=by rw[ints_set,XK t Q hx]
        have ch:=(j.at 3 (by simp)).put (es':=(bK (gq g.ak.length o)).set r.left.toNat [gi o.length]) (by simp) (by simp[gq])
        have ft:=(ch.fresh (n:=m2) (o:=.arr 1 [[gs nm]]) (by simp only[View.set,aat ds];exact O)).at 4 (by simp)
        have ht:o.length<=40:=by omega
        try simp(disch:=omega)only[↓wr,seval,wq,t1,t2,t5,t6,t7,t8,t11,f12,f7,f8,u,cf,aaA,U,W,bM]
        refine ct ft (by simp[aR]) (by unfold aD;simp;omega) (by unfold aD;simp;omega) ?_
        intro dv H5 bl _
        have c1:=bl.head.cells
        have k1:=bl.head.iO
        have cj:=((bl.at 4 (by simp)).obj (by simp)).1
        simp(disch:=omega)only[↓wr,seval,wq,t1,t2,t5,t6,t7,t8,t11,cj,c1,k1]
        have fx:=(bl.at 4 (by simp)).put (es':=[[C,dv,.emp 1,gi 0]]) rfl rfl
        have fz:=(((fx.at 4 (by simp)).tail).perm (Eg.cons _))
        refine aC hk (by omega) ⟨⟨dv,dj,rfl,?_,?_,?_,?_⟩,t1,t2,t5,t6,t7,t8,rfl⟩
        .rw[N,E];intro x fB;rcases aaZ.1 fB with h | h
         .exact ar x h
         .simp at h;subst h;exact⟨t,Q⟩
        .rw[N];exact Ge bb
        .rw[N,E];simp;omega
        .rw[N,E,e2]
         have:=fz
         rw[fs] at this
         simp only[aaS,aaW,ab3,br]
         exact this
       .have hx:r.left∈o:=by
         refine abK λh=>?_
         have:=vD.2 h
         omega
        have E:gW o r=o:=by rw[gW,aaw hx]
        simp(disch:=omega)only[↓wr,seval,wq,t1,t2,t5,t6,t7,t8,t11]
        have ch:=(((j.at 1 (by simp)).tail).perm Eg)
        refine aC hk (by omega) ⟨⟨J,dj,rfl,?_,?_,?_,?_⟩,t1,t2,t5,t6,t7,t8,rfl⟩
        .rw[N,E];exact ar
        .rw[N,E];exact bb
        .rw[N,E];omega
        .rw[N,E,e2]
         simp only[aaS,aaW,ab3]
         exact ch
      .simp(disch:=omega)only[↓wr,seval,wq,t1,t2,t5,t6,t7,t8,t10,t11]
       refine R _ _ (by rw[cw,mf,cc];rfl) ?_ ?_ ?_ ?_ ?_ ?_ ?_ ?_ ?_
       all_goals first | exact t10 | exact t1 | exact t2 | exact t5 | exact t6 | exact t7 | exact t8 | rfl | (rw[set_set];rfl)
    .rw[aaJ (by omega)] at f ar bb b9
     have fS:(dx p q g.rules 0).length<=40:=by
      rw[mH];have h1:=abh (cw p q) g.rules;omega
     have gd:=vT p q g.rules 0
     have hz:=mH p q g.rules 0
     have ck:g.start.toNat < (gq g.ak.length (cH p q g.rules)).length:=by simp[gq];omega
     have bx:=mD ck
     rw[CL h3 h4] at bx
     have dy:rI g (bR (cH p q g.rules)) p q=⟨g.af,(cH p q g.rules).map λx=>g.ak.getD x.toNat ⟨#[]⟩,(g.rules.filter (cw p q)).map (bU (bR (cH p q g.rules))),bR (cH p q g.rules) g.start⟩:=rfl
     rw[dy] at c
     clear dy
     generalize cH p q g.rules=o at *
     generalize dx p q g.rules 0=kl at *
     simp(disch:=omega)only[↓wr,seval,wq,t1,t2,t5,t6,t7,t8,t10,t11]
     refine aS.up kl.length (ZQ g p q M P B C J u3 o kl) ?_ ?_
     .refine⟨⟨.emp 1,[],by simp,?_⟩,t1,t2,t7,t8,t10,rfl⟩
      exact(f.emp (k:=1) (sz:=3)).perm (uH [(.sl P 0 1 4,4,[[C,J,.emp 1,gi 0]]),(.sl B 0 g.ak.length 1,1,bK (gq g.ak.length o)),(u3,1,bK kl),(J,1,me (o.map λx=>g.ak.getD x.toNat ⟨#[]⟩)),(C,3,g.af.map cm),(.emp 1,3,[]),(.sl M 0 1 4,4,[[.emp 1,.emp 1,.emp 1,gi 0]])] 5 (by simp)).symm
     clear f t1 t2 t5 t6 t7 t8 t10 t11
     rintro i k T H2 hk ⟨⟨u2,bs,bn,f⟩,t1,t2,t7,t8,t10,t13⟩
     have gk:cU u3=some (bK kl).length:=(f.own 2 rfl).len
     simp(disch:=omega)only[↓wr,seval,wq,ov,t1,t2,t7,t8,t10,t13,gk,aaA]
     apply ah.dec<;>intro hc
     .obtain⟨n3,e3,gl⟩:=(f.own 2 rfl).sl (by simp;omega)
      rw[aaA] at e3
      subst e3
      obtain⟨m,cA,O,X⟩:=gd i (by omega)
      have u:=mD (show i < kl.length by omega)
      rw[Int.zero_add] at cA
      have gr:kl[i]'(by omega)=(m:Int):=by
       rw[aar (show i < kl.length by omega)] at cA;simpa using cA
      rw[gr] at u
      have I:g.rules[m]?=some (g.rules[m]'X):=aar X
      have z:g.rules[m]'X∈g.rules:=aaC _
      have D:(g.rules.filter (cw p q)).take (i+1)=(g.rules.filter (cw p q)).take i ++ [g.rules[m]'X]:=by
       rw[aaQ,<-O,I];rfl
      generalize g.rules[m]'X=r at I z D
      obtain⟨G,t,Q,fb,bd⟩:=hf.uW hg z
      simp(disch:=omega)only[↓wr,seval,wq,t1,t2,t7,t8,t10,t13,gl,u,aaA,ag,aU,aav,I]
      refine⟨by omega,by omega,?_⟩
      intro ea b0
      have A:=f.new b0 3 [aU r]
      have f8:=A.is 2 rfl (by simp[gq];omega)
      have b1:=mD (l:=gq g.ak.length o) (i:=r.left.toNat) (by simp[gq];omega)
      rw[CL t Q] at b1
      have cC:B≠ea:=A.Ih 2 0 rfl rfl (by omega)
      have g8:H2 B=.arr 1 (bK (gq g.ak.length o)):=f.is 1 rfl (by simp[gq];omega)
      try simp(disch:=omega)only[↓wr,seval,wq,t1,t2,t7,t8,t10,t13,g8,cC,b1,aaA,set_set,encI]
      refine⟨by omega,by simp[gq];omega,?_⟩
      intro eb F
      have ec:=(df F c7).1
      have F:=(df (df F c7).2 c7).2
      have d:=(((A.new (n:=eb) (by simp only[View.set,aat ec];exact F) 3 [[gi (bR o r.left),.emp 1,gi r.prec]]).emp (k:=1) (sz:=1)).perm (.swap _ _ _))
      generalize hL:((V.sl P 0 1 4,4,[[C,J,u2,gi 0]]) :: (V.sl B 0 g.ak.length 1,1,bK (gq g.ak.length o)) :: (V.sl n3 0 kl.length 1,1,bK kl) ::
       (J,1,me (o.map λx=>g.ak.getD x.toNat ⟨#[]⟩)) :: (C,3,g.af.map cm) :: (u2,3,jc bs) :: (V.sl M 0 1 4,4,[[V.emp 1,V.emp 1,V.emp 1,gi 0]]) :: nV bs:List cx)=L at d
      have ha:L[1]?=some (.sl B 0 g.ak.length 1,1,bK (gq g.ak.length o)):=by rw[<-hL];rfl
      try simp(disch:=omega)only[↓wr,seval,wq,t1,t2,t7,t8,t10,t13,set_set]
      refine aS.up r.right.length (Zy g M P B ea eb (.sl n3 0 kl.length 1) o r L i) ?_ ?_
      .exact⟨⟨.emp 1,by rw[set_set,set_set];exact d⟩,t1,t2,t7,t8,t10,t13,rfl,rfl,rfl⟩
      clear A d f8 g8 b0 F t1 t2 t7 t8 t10 t13
      rintro k k2 T H3 ee ⟨⟨v,w⟩,t1,t2,t7,t8,t10,t13,t14,t15,t16⟩
      have f14:=w.is 2 rfl (by simp)
      have f15:=w.is 0 rfl (by simp)
      have f8:H3 B=.arr 1 (bK (gq g.ak.length o)):=w.is 4 (by simpa using ha) (by simp[gq];omega)
      simp only[aU] at f14
      simp(disch:=omega)only[↓wr,seval,wq,om,t1,t2,t7,t8,t10,t13,t14,t15,t16,f14,encI]
      apply ah.dec<;>intro hj
      .have cN:r.right[k]?=some (r.right[k]'(by omega)):=aar (by omega)
       have eg:r.right[k]'(by omega)∈r.right:=aaC _
       have Y:(bU (bR o) r).right.take (k+1)=(bU (bR o) r).right.take k ++ [if r.right[k]'(by omega) < 0 then -1 - bR o (-1 - r.right[k]'(by omega)) else r.right[k]'(by omega)]:=by
        rw[aaQ];simp[bU,cN]
       have bq:((bU (bR o) r).right.take k).length<=6:=by
        have h1:(bU (bR o) r).right.length=r.right.length:=by simp[bU]
        have h2:((bU (bR o) r).right.take k).length<=(bU (bR o) r).right.length:=by rw[abc];omega
        omega
       generalize r.right[k]'(by omega)=s at cN eg Y
       obtain⟨⟨s1,s2⟩,s3⟩:=bd s eg
       simp(disch:=omega)only[↓wr,seval,wq,t1,t2,t7,t8,t10,t13,t14,t15,t16,f14,encI,aav,cN]
       have hB:=Xa o (-1 - s)
       have hC:o.length<=40:=by omega
       apply ah.dec<;>intro K
       .rw[aaw K] at Y
        have ek:=s3 K
        have b3:=mD (l:=gq g.ak.length o) (i:=(-1 - s).toNat) (by simp[gq];omega)
        rw[CL (by omega) ek] at b3
        simp(disch:=omega)only[↓wr,seval,wq,t1,t2,t7,t8,t10,t13,t14,t15,t16,f14,f15,f8,b3,aaA]
        refine⟨by omega,by simp[gq];omega,?_⟩
        intro m hm
        try simp(disch:=omega)only[↓wr,seval,wq,t1,t2,t7,t8,t10,t13,t14,t15,t16,bM]
        have Z:=(w.fresh (o:=.arr 1 [[gi (-1 - bR o (-1 - s))]]) hm).at 1 (by simp)
        refine ct Z (by simp[aR]) (by unfold aD;simp at bq ⊢;omega) (by unfold aD;simp at bq ⊢;omega) ?_
        intro v' H4 a _
        have cv:=a.head.cells
        have kv:=a.head.iO
        have an:=a.is 1 rfl (by simp)
        simp(disch:=omega)only[↓wr,seval,wq,t1,t2,t7,t8,t10,t13,t14,t15,t16,an,cv,kv]
        have aq:=(a.at 1 (by simp)).put (es':=[[gi (bR o r.left),v',gi r.prec]]) rfl rfl
        refine aC ee (by omega) ⟨⟨v',?_⟩,t1,t2,t7,t8,t10,t13,t14,t15,rfl⟩
        rw[Y]
        simp only[aaS,aaW,ab3]
        exact aq
       .rw[aat K] at Y
        simp(disch:=omega)only[↓wr,seval,wq,t1,t2,t7,t8,t10,t13,t14,t15,t16,f14,f15,f8]
        intro m hm
        try simp(disch:=omega)only[↓wr,seval,wq,t1,t2,t7,t8,t10,t13,t14,t15,t16,bM]
        have Z:=(w.fresh (o:=.arr 1 [[gi s]]) hm).at 1 (by simp)
        refine ct Z (by simp[aR]) (by unfold aD;simp at bq ⊢;omega) (by unfold aD;simp at bq ⊢;omega) ?_
        intro v' H4 a _
        have cv:=a.head.cells
        have kv:=a.head.iO
        have an:=a.is 1 rfl (by simp)
        simp(disch:=omega)only[↓wr,seval,wq,t1,t2,t7,t8,t10,t13,t14,t15,t16,an,cv,kv]
        have aq:=(a.at 1 (by simp)).put (es':=[[gi (bR o r.left),v',gi r.prec]]) rfl rfl
        refine aC ee (by omega) ⟨⟨v',?_⟩,t1,t2,t7,t8,t10,t13,t14,t15,rfl⟩
        rw[Y]
        simp only[aaS,aaW,ab3]
        exact aq
      .rw[aaJ (by simp[bU];omega)] at w
       subst hL
       have f7:=w.is 3 rfl (by simp)
       have cv:=(w.own 1 rfl).cells
       have kv:=(w.own 1 rfl).iO
       have en:(jc bs).length<=40:=by
        have h1:=abk List.length bn
        simp only[aaA,abc] at h1
        simp only[jc,aaA]
        omega
       simp(disch:=omega)only[↓wr,seval,wq,t1,t2,t7,t8,t10,t13,t14,t15,t16,f7,f15,cv,kv]
       intro m hm
       try simp(disch:=omega)only[↓wr,seval,wq,t1,t2,t7,t8,t10,t13,t14,t15,t16,bM]
       have Z:=(w.fresh (o:=.arr 3 [[gi (bR o r.left),v,gi r.prec]]) hm).at 8 (by simp)
       refine ct Z (by simp[CW,kv]) (by unfold aD;simp at en ⊢;omega) (by unfold aD;simp at en ⊢;omega) ?_
       intro eH H4 a _
       have cu:=a.head.cells
       have ku:=a.head.iO
       have cj:=a.is 4 rfl (by simp)
       simp(disch:=omega)only[↓wr,seval,wq,t1,t2,t7,t8,t10,t13,t14,t15,t16,cj,cu,ku]
       have aq:=(a.at 4 (by simp)).put (es':=[[C,J,eH,gi 0]]) rfl rfl
       have hn:=((((aq.at 2 (by simp)).tail).at 3 (by simp)).tail)
       refine aC hk (by omega) ⟨⟨eH,bs ++ [(v,bU (bR o) r)],?_,?_⟩,t1,t2,t7,t8,t10,rfl⟩
       .rw[aaS,bn,D,aaS];rfl
       .refine hn.perm (.cons _ ?_)
        simp only[nV,jc,aaS,aaW,ab3]
        refine .trans ?_ (uH _ 4 (by simp)).symm
        refine .cons _ ?_
        exact(ab7 (v,1,bK (bU (bR o) r).right) ((.sl B 0 g.ak.length 1,1,bK (gq g.ak.length o)) :: (.sl n3 0 kl.length 1,1,bK kl) :: (J,1,me (o.map λx=>g.ak.getD x.toNat ⟨#[]⟩)) :: (C,3,g.af.map cm) :: (.sl M 0 1 4,4,[[.emp 1,.emp 1,.emp 1,gi 0]]) :: nV bs)).symm
     .rw[aaJ (by omega)] at bn
      have f7:=f.is 0 rfl (by simp)
      have f8:H2 B=.arr 1 (bK (gq g.ak.length o)):=f.is 1 rfl (by simp[gq];omega)
      have f2:=f.is 6 rfl (by simp)
      have e4:P≠M:=f.Ih 0 6 rfl rfl (by omega)
      have c1:=(f.own 3 rfl).cells
      have k1:=(f.own 3 rfl).iO
      have c2:=(f.own 5 rfl).cells
      have k2:=(f.own 5 rfl).iO
      simp(disch:=omega)only[↓wr,seval,wq,t1,t2,t7,t8,t10,t13,f7,f8,f2,e4,e4.symm,bx,c0,k0,c1,k1,c2,k2,ag,aaA]
      refine⟨by omega,by simp[gq];omega,λh' hh=>?_⟩
      have A:=f.put (es':=[[C,J,u2,gi (bR o g.start)]]) rfl rfl
      have d:=(A.at 6 (by simp)).put (es':=[[C,J,u2,gi (bR o g.start)]]) rfl rfl
      have hv:h'.view=(H2.set P (.arr 4 [[C,J,u2,gi (bR o g.start)]])).set M (.arr 4 [[C,J,u2,gi (bR o g.start)]]):=hh
      rw[<-hv] at d
      rw[c]
      exact Ot (x:=(⟨g.af,o.map λx=>g.ak.getD x.toNat ⟨#[]⟩,(g.rules.filter (cw p q)).map (bU (bR o)),bR o g.start⟩,kl,0)) (b:=bs) (d.own 5 rfl) (d.own 4 rfl) (d.own 6 rfl) (λy hy=>d.1 y (by
       refine aaO _ (aaO _ (aaO _ (aaO _ (aaO _ (aaO _ (aaO _ ?_))))))
       exact hy)) bn (d.own 3 rfl)
 .rename_i hr
  intro h' hh
  rw[gL,aat (by simp[hr])]
  exact yP
theorem Me {g:ai} (e:pX g=false):g.Small:=by
 simp only[pX,Bool.or_eq_false_iff,abW] at e
 exact⟨by omega⟩
theorem US (g:ai):az Tryz.prog 16 [.agg (ag g)] (gb (pX g)):=az.val (eK g) λH=>(U6 g H).mono λ_ _ h=>h.1
theorem Ch {a b:V} (c:Tree a) (d:Tree b):Tree (.bD [a,b]):=.bD _ λi hi=>by
 match i,hi with
 | 0,_=>exact c
 | 1,_=>exact d
 | n+2,h=>exact absurd h (by simp)
theorem FH {H:View} {id n:Nat} {l:List Int} (a:H id=.arr 1 (bK l)) (b:n=l.length):ew H (.sl id 0 n 1) (encI l):=by
 subst b
 exact ew.own (sz:=1) (.inr ⟨id,by simp,a⟩) λe he v a=>by
  obtain⟨x,_,rfl⟩:=aaM.1 he
  simp at a;subst a;exact .val _
theorem dI.step {H H' H1:View} {u b:V} (h:dI H H' u) (l:Left H' H1 u b):dI H H1 b:=λid a=>by
 have h1:=h id a
 have c:=l id (by rw[h1.1];exact a) h1.2
 exact⟨c.1.trans h1.1,c.2⟩
theorem zu {l:List Int} {k:Nat} (h:k<=l.length):dO 1 (.aE (l.map λx=>[gi x])) (some (gi k)) none=some (.aE ((l.drop k).map λx=>[gi x]),.none,[]):=by
 simp[dO,bound,asNat,h,List.all_map,List.map_drop]
 rw[aaJ (by simp)]
theorem kz {P:Program} {t:TypeId} {d:TypeDesc} (hu:P.underlying t=some d) (hd:d=.string∨∃ k,d=.int k) (cs:Array Value) (off:Nat) {v:Value} (a:cs[off]?=some v):bL P (part t cs off)=some v:=by
 have b:bL P (isAgg t)=some false:=by
  rcases hd with rfl | ⟨k,rfl⟩
  all_goals simp only[isAgg,bE,eW hu,abf];rfl
 simp only[part,bE,b,abf,aaU,if_false,a]
 rfl
inductive ik (P:Program) (d:Nat) (xs ys:Array Value):List Field->Bool->Prop
 | nil:ik P d xs ys [] true
 | str (f:Field) (l:List Field) (c:Bool) (a b:ByteArray):(f.name≠ "_")->P.underlying f.type=some .string->xs[f.offset]?=some (.string a)->ys[f.offset]?=some (.string b)->ik P d xs ys l c->ik P d xs ys (f :: l) (a == b && c)
 | int (f:Field) (l:List Field) (c:Bool) (k:IntKind) (a b:Int):(f.name≠ "_")->P.underlying f.type=some (.int k)->xs[f.offset]?=some (.int k a)->ys[f.offset]?=some (.int k b)->ik P d xs ys l c->ik P d xs ys (f :: l) (a == b && c)
theorem ik.forIn {P:Program} {d e:Nat} {xs ys:Array Value} {l:List Field} {c:Bool} (h:ik P d xs ys l c) (hd:e=d+1) :
  bL P (forIn l ((none:Option Bool),()) λf _ =>
    if f.name≠ "_" then do
     let a <-part f.type xs f.offset
     let b <-part f.type ys f.offset
     let e <-Op.equalIn e f.type a b
     if (!e)=true then pure (ForInStep.done (some false,())) else pure (ForInStep.yield (none,()))
    else pure (ForInStep.yield (none,())))=some (if c=true then (none,()) else (some false,())):=by
 subst hd
 induction h with
 | nil=>rfl
 | str f l c a b g hu i j _ m =>
  have he:bL P (Op.equalIn (d+1) f.type (.string a) (.string b))=some (a == b):=by
   simp only[Op.equalIn,bE,eW hu,abf];rfl
  rw[List.forIn_cons,bE,aaw g,bE,kz hu (.inl rfl) xs _ i,abf,bE,kz hu (.inl rfl) ys _ j,abf,bE,he,abf]
  cases a == b with
  | false=>rfl
  | true=>exact m
 | int f l c k a b g hu i j _ m =>
  have he:bL P (Op.equalIn (d+1) f.type (.int k a) (.int k b))=some (a == b):=by
   simp only[Op.equalIn,bE,eW hu,abf];rfl
  rw[List.forIn_cons,bE,aaw g,bE,kz hu (.inr ⟨k,rfl⟩) xs _ i,abf,bE,kz hu (.inr ⟨k,rfl⟩) ys _ j,abf,bE,he,abf]
  cases a == b with
  | false=>rfl
  | true=>exact m
theorem vI {P:Program} {t:TypeId} {b:Array Field} {xs ys:Array Value} {c:Bool} (hu:P.underlying t=some (.struct b)) (hs:P.stoodInHeld t=false) (h:ik P 9998 xs ys b.toList c) :
  bL P (Op.equal t (.agg xs) (.agg ys))=some c:=by
 rw[nB]
 rw[Op.equalIn,bE,eW hu,abf]
 have a:(bL P program)=some P:=rfl
 rw[bE,a,abf,hs]
 simp only[<-Array.forIn_toList,aaU,if_false]
 rw[bE,h.forIn (e:=9999) rfl,abf]
 cases c <;> rfl
theorem Hc {P:Program} {o:Oper} {T:Env} {op:BinOp} {t u:TypeId} {x y:Operand} {f:Array Field} {xs ys:Array Value} {c r:Bool} (b:o.op=.binOp op t x y u) (hu:P.underlying t=some (.struct f)) (hs:P.stoodInHeld t=false) (g:P.eqGuardType P.depth t=false)
  (d:dH (ev T x)=some (.agg xs)) (e:dH (ev T y)=some (.agg ys)) (h:ik P 9998 xs ys f.toList c) (hr:(op=.eql/\r=c)∨(op=.neq/\r = !c)) :
  eo P o T=some (.val (.bool r),.none,[]):=by
 have he:=vI hu hs h
 have a:(bL P program)=some P:=rfl
 unfold eo
 simp only[b,Op.operands,d,e]
 rcases hr with ⟨rfl,rfl⟩ | ⟨rfl,rfl⟩
 .simp[execOp,b,d,e,eqGuard,binOp,ki,bE,a,g,he,plain]
  try simp[bL,pure,plain]
 .simp[execOp,b,d,e,eqGuard,binOp,ki,bE,a,g,he,plain]
  try simp[bL,pure,plain,bne]
theorem iy {P:Program} {T:Env} {H:View} {K:V->View->Prop} {w:cO (T,H,K)} {op:BinOp} {t u ty:TypeId} {x y:Operand} {a:Array Field} {xs ys:Array Value} {c r:Bool} (hu:P.underlying t=some (.struct a)) (hs:P.stoodInHeld t=false) (b:P.eqGuardType P.depth t=false)
  (d:dH (ev T x)=some (.agg xs)) (e:dH (ev T y)=some (.agg ys)) (h:ik P 9998 xs ys a.toList c) (hr:(op=.eql/\r=c)∨(op=.neq/\r = !c)) (hk:K (.val (.bool r)) H):km P (.binOp op t x y u) ty T H K w:=by
 intro n _
 refine⟨.val (.bool r),.none,[],?_,hk⟩
 have f:kr P t=none:=by simp[kr,hu]
 simp only[sI,cD,oper,f]
 simp only[Option.isSome_none,aaU,if_false]
 exact Hc rfl hu hs b d e h hr
def BW (hp:Array Obj) (cs:List Value) (vs:List V):Prop :=
 vs.length=cs.length/\∀ μ i,i < vs.length->aB (λb=>b < hp.size) μ hp (vs.getD i .any) (cs.getD i undef)
def Wt {H:Type} (P:Program) (t:TypeId) (d:DataW H):Prop:=∀ n∈d.weights P t,n<=reachBytes
def AV (P:Program) (t:TypeId) {α:Type} (f:α->List V) (ok:α->Prop):Prop :=
 ∀ {H:Type} (enc:TypeId × Value->H) (w:World) (base:Nat) (sp:Nat->Bool) (held:Bool) (fuel:Nat) (cs:List Value) (x:DataW H × List MemPlace),
  DataW.trod enc P w base sp held fuel t cs=some x->Wt P t x.1->∃ a,ok a/\BW w.heap cs (f a)
theorem zW {hp:Array Obj} {c:Value} {v:V} (h:∀ μ,aB (λb=>b < hp.size) μ hp v c):BW hp [c] [v]:=by
 refine⟨rfl,λμ i hi=>?_⟩
 match i,hi with
 | 0,_=>exact h μ
theorem Yn {P:Program} {t:TypeId} {k:IntKind} (a:P.underlying t=some (.int k)):AV P t (λn=>[.val (.int k n)]) (λn=>(Lit.int k n).wf=true):=by
 intro H enc w base sp held fuel cs x h _
 obtain⟨n,rfl,_,hw⟩:=DataW.trod_int a h
 exact⟨n,hw,zW λμ=>.val _ rfl⟩
theorem HI {P:Program} {t:TypeId} (a:P.underlying t=some .string):AV P t (λs=>[.val (.string s)]) (λ_=>True):=by
 intro H enc w base sp held fuel cs x h _
 obtain⟨s,rfl,_,_⟩:=DataW.trod_string a h
 exact⟨s,trivial,zW λμ=>.val _ rfl⟩
theorem L1 {w:World} {base:Nat} {a:Addr} {n:Nat} {cs:List Value} (h:w.cells? base a n=some cs):cs.length=n/\∀ i,i < n->w.cell? (a.add i)=some (cs.getD i undef):=by
 obtain⟨_,b,c⟩:=World.cells?_some h
 refine⟨b,λi hi=>?_⟩
 rw[c i hi,aaq,aar (by omega)]
 rfl
theorem QP {w:World} {a:Addr} {v:Value} (h:w.cell? a=some v):a.spot=none/\a.block < w.heap.size:=by
 unfold World.cell? at h
 split at h
 .rename_i c _ _ b
  split at h
  .simp at h
  .rename_i hs
   exact⟨by simpa using hs,(Array.getElem?_eq_some_iff.1 b).1⟩
 .simp at h
theorem SS {H:Type} {P:Program} {e:TypeId} : ∀ {l:List (DataW H)},(∀ n∈DataW.weightsAll P e l,n<=reachBytes)->∀ d∈l,Wt P e d
 | [],_,d,hd=>by simp at hd
 | x :: l,h,d,hd=>by
  simp only[DataW.weightsAll,aaZ] at h
  rcases aaI.1 hd with rfl | hd
  .exact λn a=>h n (.inl a)
  .exact SS (λn a=>h n (.inr a)) d hd
theorem Vp {H:Type} {P:Program} {t e:TypeId} {elems spare:List (DataW H)} (a:P.underlying t=some (.slice e)) (h:Wt P t (.slice elems spare)) :
  (elems.length+spare.length) * P.bytesOf e<=reachBytes/\∀ d∈elems,Wt P e d:=by
 unfold Wt at h
 unfold DataW.weights at h
 rw[a] at h
 simp only[aaI,aaZ] at h
 exact⟨h _ (.inl rfl),SS λn b=>h n (.inr (.inl b))⟩
theorem RZ {H:Type} {P:Program} {t:TypeId} {a:Array Field} {parts:List (DataW H)} (b:P.underlying t=some (.struct a)) (h:Wt P t (.agg parts)) {j:Nat} {f:Field} {d:DataW H} (c:a[j]?=some f) (hd:parts[j]?=some d):Wt P f.type d:=by
 intro n e
 refine h n ?_
 unfold DataW.weights
 rw[b]
 exact DataW.weights_mem_each (j:=j) (t:=f.type) (by simp[c]) hd n e
theorem Nh {α:Type} {c:Nat->α->Prop} : ∀ (n:Nat),(∀ i,i < n->∃ a,c i a)->∃ l:List α,l.length=n/\∀ i (hi:i < l.length),c i l[i]
 | 0,_=>⟨[],rfl,λi hi=>by simp at hi⟩
 | n+1,h=>by
  obtain⟨l,hl,b⟩:=Nh n λi hi=>h i (by omega)
  obtain⟨a,d⟩:=h n (by omega)
  refine⟨l ++ [a],by simp[hl],λi hi=>?_⟩
  by_cases e:i < l.length
  .rw[List.getElem_append_left e];exact b i e
  .have:i=n:=by simp at hi;omega
   subst this
   rw[List.getElem_append_right (by omega)]
   simp only[hl,Nat.sub_self,aa4];exact d
theorem zn {P:Program} {t e:TypeId} {α:Type} {f:α->List V} {ok:α->Prop} (J:P.underlying t=some (.slice e)) (L:0 < P.cellsOf e) (M:0 < P.bytesOf e) (he:AV P e f ok) :
  AV P t (λl:List α=>[.aE (l.map f)]) (λl=>l.length < 4611686018427387904/\∀ a∈l,ok a):=by
 intro H enc w base sp held fuel cs x h hw
 rcases DataW.trod_slice J h with ⟨rfl,rfl⟩ | ⟨a,len,cap,elems,rest,n,_,rfl,rfl,N,hl,hm,hlen,A,_,_⟩
 .exact⟨[],⟨by simp,by simp⟩,zW λμ=>.jE none 0 (by simp)⟩
 obtain⟨r,B⟩:=Vp J hw
 simp only[aaA] at r
 have C:len < 4611686018427387904:=by
  have h1:len * 1<=(elems.length+rest.length) * P.bytesOf e:=Nat.mul_le_mul (by omega) M
  unfold reachBytes at r
  omega
 have each:∀ i,i < len->∃ y,ok y/\∃ ci,w.cells? base (a.add (i * P.cellsOf e)) (P.cellsOf e)=some ci/\BW w.heap ci (f y):=by
  intro i hi
  have h1:=A i hi
  have k:elems[i]?=some (elems[i]'(by omega)):=aar (by omega)
  have s:elems[i]'(by omega)∈elems:=aaC _
  rw[k,Option.bind_eq_some_iff] at h1
  obtain⟨ci,D,E⟩:=h1
  obtain⟨y,z,m⟩:=he enc w base sp held n ci _ E (B _ (aaM.2 ⟨_,s,rfl⟩))
  exact⟨y,z,ci,D,m⟩
 obtain⟨l,F,p⟩:=Nh len each
 subst F
 refine⟨l,⟨C,λy O=>?_⟩,zW λμ=>?_⟩
 .obtain⟨i,hi,rfl⟩:=List.getElem_of_mem O
  exact(p i hi).1
 by_cases K:l=[]
 .subst K
  exact .jE (some a) cap (by simp)
 have o:0 < l.length:=acv.2 K
 have d:∀ i j,i < l.length->j < P.cellsOf e->∃ c,cellAt w.heap a.block (a.off+i * P.cellsOf e+j)=some c/\a.block < w.heap.size/\(i=0->j=0->a.spot=none)/\∀ (hi:i < l.length),aB (λb=>b < w.heap.size) μ w.heap ((f l[i]).getD j .any) c:=by
  intro i j hi q
  obtain⟨_,ci,h1,k⟩:=p i hi
  obtain⟨D,E⟩:=L1 h1
  have z:=E j q
  have m:=QP z
  have u:((a.add (i * P.cellsOf e)).add j).block=a.block:=by simp only[Addr.add];split <;> split <;> rfl
  have G:((a.add (i * P.cellsOf e)).add j).off=a.off+i * P.cellsOf e+j:=by
   simp only[Addr.add];split <;> split <;> simp_all
  refine⟨ci.getD j undef,?_,by rw[<-u];exact m.2,?_,λ_=>?_⟩
  .rw[<-G,<-u,<-py]
   rw[<-z]
   congr 1
   generalize (a.add (i * P.cellsOf e)).add j=b at m
   cases b
   simp at m ⊢
   exact m.1.symm
  .rintro rfl rfl
   simp[Addr.add] at m
   exact m.1
  .exact k.2 μ j (by rw[k.1,D];exact q)
 obtain⟨_,_,Q,hs,_⟩:=d 0 0 o L
 have R:a=⟨a.block,a.off,none⟩:=by
  cases a;simp at hs ⊢;exact hs
 have I:∀ i,i < l.length->(f (l[i]?.getD (l[0]'o))).length=P.cellsOf e:=λi hi=>by
  obtain⟨_,ci,h1,k⟩:=p i hi
  rw[aar hi,aaL,k.1,(L1 h1).1]
 have v:∀ i (hi:i < l.length),(l.map f).getD i []=f l[i]:=λi hi=>by simp[aaq,hi]
 have g:(l.map f).length=l.length:=by simp
 have:=aB.aE (Z:=λb=>b < w.heap.size) (μ:=μ) (hp:=w.heap) (l.map f) a.block a.off (P.cellsOf e) cap (λi j=>(cellAt w.heap a.block (a.off+i * P.cellsOf e+j)).getD undef) Q (by rw[g];exact hl)
  (λi hi=>by
   rw[g] at hi
   have:=I i hi
   rw[aar hi,aaL] at this
   rw[v i hi];exact this)
  (λi j hi q=>by
   rw[g] at hi
   obtain⟨c,h1,_⟩:=d i j hi q
   rw[h1];rfl)
  (λi j hi q=>by
   rw[g] at hi
   obtain⟨c,h1,_,_,k⟩:=d i j hi q
   rw[h1,v i hi];exact k hi)
 rw[g,<-R] at this
 exact this
theorem Cl {P:Program} {t:TypeId} {b:Array Field} (d:P.underlying t=some (.struct b)) (j:∀ (i:Nat) (f:Field),b[i]?=some f->f.offset=i/\P.cellsOf f.type=1) (k:P.cellsOf t=b.size)
  {H:Type} {enc:TypeId × Value->H} {w:World} {base:Nat} {sp:Nat->Bool} {held:Bool} {fuel:Nat} {cs:List Value} {x:DataW H × List MemPlace} (h:DataW.trod enc P w base sp held fuel t cs=some x) (hw:Wt P t x.1) :
  cs.length=b.size/\∀ (i:Nat) (f:Field),b[i]?=some f->∀ {α:Type} {g:α->List V} {ok:α->Prop},AV P f.type g ok->∃ a,ok a/\BW w.heap [cs.getD i undef] (g a):=by
 obtain⟨xs,n,rfl,rfl,hl,hlen,l⟩:=DataW.trod_struct d h
 refine⟨by rw[hl,k],λi f hi α g ok hr=>?_⟩
 obtain⟨h1,m⟩:=j i f hi
 have o:i < b.size:=(Array.getElem?_eq_some_iff.1 hi).1
 have c:=l i f hi
 have e:xs[i]?=some (xs[i]'(by omega)):=aar (by omega)
 rw[e,h1,m] at c
 have p:(cs.drop i).take 1=[cs.getD i undef]:=by
  rw[aaq,aar (by omega),abg (by omega)]
  rfl
 rw[p] at c
 exact hr enc w base sp held n _ _ c (RZ d hw hi (by simp[e]))
theorem jr {hp:Array Obj} {c:Value} {cs:List Value} {v:V} {vs:List V} (h:BW hp [c] [v]) (k:BW hp cs vs):BW hp (c :: cs) (v :: vs):=by
 refine⟨by simp[k.1],λμ i hi=>?_⟩
 cases i with
 | zero=>exact h.2 μ 0 (by simp)
 | succ i=>exact k.2 μ i (by simpa using hi)
theorem Ef {hp:Array Obj} : BW hp [] []:=⟨rfl,λμ i hi=>by simp at hi⟩
theorem XM {n:Int} (h:(Lit.int .i64 n).wf=true):b6 n:=by
 simp only[Lit.wf,aaB,aaE] at h
 exact h
theorem rS:AV Tryz.prog 3 (λn=>[gi n]) b6:=λenc w base sp held fuel cs x h hw=>by
 obtain⟨n,h1,a⟩:=Yn Tryz.underlying3 enc w base sp held fuel cs x h hw
 exact⟨n,XM h1,a⟩
theorem Xs:AV Tryz.prog 43 (λl:List Int=>[encI l]) (λl=>aK l/\∀ x∈l,b6 x) :=
 zn Tryz.underlying43 (ace (by kernel_rfl)) (ace (by kernel_rfl)) rS
theorem P5:AV Tryz.prog 23 (λl:List ByteArray=>[encS l]) (λl=>aK l/\∀ x∈l,True) :=
 zn Tryz.underlying23 (ace (by kernel_rfl)) (ace (by kernel_rfl)) (HI Tryz.underlying9)
theorem Zi {cs:List Value} (h:cs.length=3):cs=[cs.getD 0 undef,cs.getD 1 undef,cs.getD 2 undef]:=by
 match cs,h with
 | [a,b,c],_=>rfl
theorem cs4 {cs:List Value} (h:cs.length=4):cs=[cs.getD 0 undef,cs.getD 1 undef,cs.getD 2 undef,cs.getD 3 undef]:=by
 match cs,h with
 | [a,b,c,d],_=>rfl
theorem Xi:AV Tryz.prog 129 cm (λt=>b6 t.level/\b6 t.assoc):=λenc w base sp held fuel cs x h hw=>by
 obtain⟨hl,d⟩:=Cl Tryz.underlying129 (by
  intro i f hi
  match i,hi with
  | 0,hi=>simp at hi;subst hi;exact⟨rfl,by kernel_rfl⟩
  | 1,hi=>simp at hi;subst hi;exact⟨rfl,by kernel_rfl⟩
  | 2,hi=>simp at hi;subst hi;exact⟨rfl,by kernel_rfl⟩
  | n+3,hi=>simp at hi) (by kernel_rfl) h hw
 obtain⟨a,_,h1⟩:=d 0 _ rfl (HI Tryz.underlying9)
 obtain⟨b,e,g⟩:=d 1 _ rfl rS
 obtain⟨c,j,k⟩:=d 2 _ rfl rS
 refine⟨⟨a,b,c⟩,⟨e,j⟩,?_⟩
 rw[Zi hl]
 exact jr h1 (jr g (jr k Ef))
theorem WY:AV Tryz.prog 71 aU (λr=>b6 r.left/\b6 r.prec/\aK r.right/\∀ x∈r.right,b6 x):=λenc w base sp held fuel cs x h hw=>by
 obtain⟨hl,d⟩:=Cl Tryz.underlying71 (by
  intro i f hi
  match i,hi with
  | 0,hi=>simp at hi;subst hi;exact⟨rfl,by kernel_rfl⟩
  | 1,hi=>simp at hi;subst hi;exact⟨rfl,by kernel_rfl⟩
  | 2,hi=>simp at hi;subst hi;exact⟨rfl,by kernel_rfl⟩
  | n+3,hi=>simp at hi) (by kernel_rfl) h hw
 obtain⟨a,g,h1⟩:=d 0 _ rfl rS
 obtain⟨b,e,j⟩:=d 1 _ rfl Xs
 obtain⟨c,k,l⟩:=d 2 _ rfl rS
 refine⟨⟨a,b,c⟩,⟨g,k,e.1,e.2⟩,?_⟩
 rw[Zi hl]
 exact jr h1 (jr j (jr l Ef))
theorem Xt:AV Tryz.prog 26 ag ai.Ok:=λenc w base sp held fuel cs x h hw=>by
 obtain⟨hl,e⟩:=Cl Tryz.underlying26 (by
  intro i f hi
  match i,hi with
  | 0,hi=>simp at hi;subst hi;exact⟨rfl,by kernel_rfl⟩
  | 1,hi=>simp at hi;subst hi;exact⟨rfl,by kernel_rfl⟩
  | 2,hi=>simp at hi;subst hi;exact⟨rfl,by kernel_rfl⟩
  | 3,hi=>simp at hi;subst hi;exact⟨rfl,by kernel_rfl⟩
  | n+4,hi=>simp at hi) (by kernel_rfl) h hw
 obtain⟨a,g,h1⟩:=e 0 _ rfl (zn Tryz.underlying22 (ace (by kernel_rfl)) (ace (by kernel_rfl)) Xi)
 obtain⟨b,k,l⟩:=e 1 _ rfl P5
 obtain⟨c,j,m⟩:=e 2 _ rfl (zn Tryz.underlying24 (ace (by kernel_rfl)) (ace (by kernel_rfl)) WY)
 obtain⟨d,o,p⟩:=e 3 _ rfl rS
 refine⟨⟨a,b,c,d⟩,⟨g.1,k.1,j.1,o,g.2,j.2⟩,?_⟩
 rw[cs4 hl]
 exact jr h1 (jr l (jr m (jr p Ef)))
end Gv
