/-
  Part 9 of the proof: what the machine does and what the functions answer.
  Conditions: those that each lemma names.
-/
import Derived.ProofKit
import Derived.SizedLaws
import Derived.Test.YtiophifnkakjgaaGreatSGzB6H
set_option linter.unusedSimpArgs false
set_option linter.unusedVariables false
set_option maxRecDepth 100000
set_option maxHeartbeats 20000000
namespace Gv
open Go Go.Proofs
def Bq (n:Nat) (r:aN):Prop:=bD r.left/\0<=r.left/\r.left < n/\r.right.length<=6/\∀ s∈r.right,bD s/\(s < 0->-1 - s < n)
theorem ae.de.rM {g:ae} (a:g.Ok) (h:g.de) {r:aN} (hr:r∈g.rules):Bq g.ao.length r :=
 ⟨(a.al r hr).1,(h.left r hr).1,(h.left r hr).2,h.right r hr,λs b=>⟨(a.al r hr).2.2.2 s b,λc=>h.neg hr b c⟩⟩
def w5:SF:=⟨af [ab [bu 2 false],ab [aa 3 0,aE 4 .geq 3 0,aa 2 4],.ret],
 [.tmp 2],5⟩
theorem zU:aQ Tryz.prog 235 []=some w5:=by kernel_rfl
def zC:SF:=⟨af [ab [cd 1 0,bu 2 false],ab [au 3 1 1,aj 4 3,oE 5 90 [(.tmp 4),(.val (.fn 235 [] []))],cb 6 5,aa 2 6],.ret],
 [.tmp 2],7⟩
theorem C0:aQ Tryz.prog 175 [1]=some zC:=by kernel_rfl
def sG:SF:=⟨af [ab [bu 3 false],.region false [⟨none,[aa 4 0,aE 5 .lss 4 0,aa 6 5]⟩,⟨(some (6,true)),[aj 7 1,aa 8 0,((some 9),.op (.arith .sub (.val (.val (.int .i64 (-1)))) (.tmp 8))),aM 10 1 7 9,aj 11 10,cb 12 11]⟩,⟨none,[c8 13 6 12,aa 3 13]⟩],.ret],
 [.tmp 3],14⟩
theorem xL:aQ Tryz.prog 228 []=some sG:=by kernel_rfl
def wP:SF:=⟨af [ab [cd 2 0,cd 3 1,bu 4 false],ab [au 5 1 2,aj 6 5,((some 7),.op (.rW 228 [] [(.tmp 3)])),ba 8 90 [6,7],cb 9 8,aa 4 9],.ret],
 [.tmp 4],10⟩
theorem zT:aQ Tryz.prog 164 [2,3]=some wP:=by kernel_rfl
def qV:SF:=⟨af [ab [cd 2 0,ct 4 1],af [.region false [⟨none,[aU 5 3 2,ba 6 175 [5],aa 7 6]⟩,⟨(some (7,true)),[aU 8 3 2,aa 9 1,ba 10 164 [8,9]]⟩,⟨none,[c8 11 7 10]⟩],bg 11 (af [ab [au 12 0 2,aj 13 12,((some 14),.op (.bG 1 1 [(.val (.int .i64 0))] [(0,(.tmp 13))])),aa 4 14],.ret])],ab [ct 4 1],.ret],
 [.tmp 4],15⟩
theorem vy:aQ Tryz.prog 174 [2]=some qV:=by kernel_rfl
def oR:SF:=⟨af [ab [cd 2 0,ct 4 1],af [ab [aU 5 3 2,aa 6 1,ba 7 164 [5,6]],bg 7 (af [ab [au 8 0 2,aj 9 8,((some 10),.op (.bG 1 1 [(.val (.int .i64 0))] [(0,(.tmp 9))])),aa 4 10],.ret])],ab [ct 4 1],.ret],
 [.tmp 4],11⟩
theorem uu:aQ Tryz.prog 226 [2]=some oR:=by kernel_rfl
def np:SC :=
 af [ab [aV 24 .lss 23 22],bW 24 (.exit 0),.block 1 (af [ab [aM 25 1 21 23,aj 26 25,aa 7 26],ab [aa 27 7,aE 28 .lss 27 0],bg 28 (ab [aa 29 5,aa 30 7,((some 31),.op (.arith .sub (.val (.val (.int .i64 (-1)))) (.tmp 30))),((some 32),.op (.bG 1 1 [(.val (.int .i64 0))] [(0,(.tmp 31))])),fM 33 1 8 29 32,aa 5 33])]),ab [aE 34 .add 23 1,aa 23 34]]
def pZ:SF:=⟨af [ab [cd 3 0,ct 5 1],af [.region false [⟨none,[aa 8 1,au 9 0 3,aj 10 9,aM 11 1 8 10,aj 12 11,cb 13 12,aa 14 13]⟩,⟨(some (14,false)),[aU 15 3 3,aj 16 2,ba 17 164 [15,16],cb 18 17]⟩,⟨none,[bP 19 14 18]⟩],bg 19 (af [ab [ct 5 1],.ret])],af [ab [au 20 1 3,aj 21 20,aP 22 21,aT 23 0],bX 0 np],ab [aa 35 5,aa 5 35],.ret],
 [.tmp 5],36⟩
theorem uG:aQ Tryz.prog 227 [3]=some pZ:=by kernel_rfl
theorem OI (r:aN):∀ v∈[V.agg (aW r)],Tree v:=by intro v a;simp at a;subst a;exact bz _ (jh r)
theorem zZ (r:aN) (is:List Bool):∀ v∈[V.agg (aW r),bK is],Tree v:=by
 intro v a;simp at a
 rcases a with rfl | rfl
 .exact bz _ (jh r)
 .exact fY is
theorem Qo (x:Int):ay Tryz.prog 235 [gi x] (gb (decide (0<=x))):=by
 refine ay.val (xU (l:=[.int .i64 x])) λH=>?_
 refine aw.of mixed zU ?_
 simp(disch:=omega)only[↓wr,seval,wq,w5]
theorem Rv (r:aN) (hr:aH r.right):ay Tryz.prog 175 [.agg (aW r)] (gb (!r.right.any λs=>decide (0<=s))):=by
 refine ay.val (OI r) λH=>?_
 refine aw.of mixed C0 ?_
 simp(disch:=omega)only[↓wr,seval,wq,zC,aW,encI]
 refine av.pure (gW r.right hr 235 [] (by simp) (λs=>decide (0<=s)) (λx _=>Qo x) (by kernel_rfl)) ?_
 simp(disch:=omega)only[↓wr,seval,wq]
def C7 (is:List Bool) (s:Int):Bool:=decide (s < 0) && !is.getD (-1 - s).toNat false
theorem KI (is:List Bool) (s:Int) (e:bD s/\(s < 0->-1 - s < is.length)):ay Tryz.prog 228 [gi s,.aF [bK is] 0] (gb (C7 is s)):=by
 refine ay.val ?_ λH=>?_
 .intro v a;simp at a
  rcases a with rfl | rfl
  .exact .val _
  .exact gh (by intro v a;simp at a;subst a;exact fY is)
 obtain⟨⟨h1,f⟩,g⟩:=e
 refine aw.of mixed xL ?_
 simp(disch:=omega)only[↓wr,seval,wq,sG,bK]
 apply ah.dec<;>intro h
 .have d:is[(-1 - s).toNat]?=some (is[(-1 - s).toNat]'(by omega)):=U6 (by omega)
  have c:is.getD (-1 - s).toNat false=is[(-1 - s).toNat]'(by omega):=by simp[U5,d]
  generalize is[(-1 - s).toNat]'(by omega)=b at d c
  simp(disch:=omega)only[↓wr,seval,wq,U9,d]
  simp only[C7,c,h,decide_true,V3]
 .simp(disch:=omega)only[↓wr,seval,wq]
  simp[C7,h]
theorem Kk {is:List Bool} {l:List Int} : (!l.any (C7 is))=cp l is true:=by
 simp only[cp,List.not_any_eq_all_not]
 congr 1
 funext s
 simp only[C7]
 by_cases h:0<=s
 .simp[h,show ¬ s < 0 by omega]
 .simp[h,show s < 0 by omega]
theorem tj (r:aN) (is:List Bool) (hr:aH r.right) (b:∀ s∈r.right,bD s/\(s < 0->-1 - s < is.length)):ay Tryz.prog 164 [.agg (aW r),bK is] (gb (cp r.right is true)):=by
 rw[<-Kk]
 refine ay.val (zZ r is) λH=>?_
 refine aw.of mixed zT ?_
 simp(disch:=omega)only[↓wr,seval,wq,wP,aW,bK,encI]
 refine av.pure (gW r.right hr 228 [.aF [bK is] 0] (by
  intro v a;simp at a;subst a
  exact gh (by intro v a;simp at a;subst a;exact fY is)) (C7 is) (λx c=>KI is x (b x c)) (by kernel_rfl)) ?_
 simp(disch:=omega)only[↓wr,seval,wq]
theorem HL {is:List Bool} {l:List Int} : ((!l.any λs=>decide (0<=s)) && cp l is true)=cp l is false:=by
 induction l with
 | nil=>rfl
 | cons s l a =>
  simp only[cp,Wb,List.any_cons] at a ⊢
  rw[<-a]
  by_cases h:0<=s
  .simp[h]
  .simp only[h,decide_false,Xa,if_false]
   cases (l.any λs=>decide (0<=s)) <;> simp
theorem kn {h:aB} {u:V} {l:List Int} (a:aZ h.view u 1 (l.map λx=>[gi x])):cM h u (encI l):=cM.Lk (f:=Value.int .i64) a
theorem HF (r:aN) (is:List Bool) (hr:Bq is.length r):cx Tryz.prog 174 [.agg (aW r),bK is] (encI (if cp r.right is false=true then [r.left] else [])):=by
 obtain⟨f,_,_,c,d⟩:=hr
 have a:aH r.right:=by unfold aH;omega
 refine cx.of (zZ r is) ?_
 refine aw.of mixed vy ?_
 rw[<-HL]
 simp(disch:=omega)only[↓wr,seval,wq,qV,aW,encI]
 refine av.pure (Rv r a) ?_
 repeat' (first | ((first|apply ah.dec|apply ah.eq|apply ah.ne|apply ah.split)<;>intro)|(refine av.pure (tj r is a d) ?_)|(simp(disch:=omega)only[↓wr,seval,wq,aW,encI]))
 all_goals first
  | (intro n e b;rw[Va (by simp[*])];exact kn (l:=[r.left]) (.inr ⟨n,rfl,by rw[b];simp[View.set]⟩))
  | (intro e b;rw[U8 (by simp[*])];exact .emp _)
theorem CT (r:aN) (is:List Bool) (hr:Bq is.length r):cx Tryz.prog 226 [.agg (aW r),bK is] (encI (if cp r.right is true=true then [r.left] else [])):=by
 obtain⟨f,_,_,c,d⟩:=hr
 have a:aH r.right:=by unfold aH;omega
 refine cx.of (zZ r is) ?_
 refine aw.of mixed uu ?_
 simp(disch:=omega)only[↓wr,seval,wq,oR,aW,encI]
 refine av.pure (tj r is a d) ?_
 repeat' (first | ((first|apply ah.dec|apply ah.eq|apply ah.ne|apply ah.split)<;>intro)|(simp(disch:=omega)only[↓wr,seval,wq,aW,encI]))
 all_goals first
  | (intro n e b;rw[Va (by simp[*])];exact kn (l:=[r.left]) (.inr ⟨n,rfl,by rw[b];simp[View.set]⟩))
  | (intro e b;rw[U8 (by simp[*])];exact .emp _)
def gg (l:List Int):List Int:=(l.filter λs=>decide (s < 0)).map λs=>-1 - s
theorem Ol (r:aN) (is p:List Bool):∀ v∈[V.agg (aW r),bK is,.aF [bK p] 0],Tree v:=by
 intro v a;simp at a
 rcases a with rfl | rfl | rfl
 .exact bz _ (jh r)
 .exact fY is
 .exact gh (by intro v a;simp at a;subst a;exact fY p)
theorem EU (r:aN) (is p:List Bool) (hr:Bq is.length r) (hp:p.length=is.length) :
  cx Tryz.prog 227 [.agg (aW r),bK is,.aF [bK p] 0] (encI (if (is.getD r.left.toNat false && cp r.right p true)=true then gg r.right else [])):=by
 obtain⟨E,A,B,C,l⟩:=hr
 have n:aH r.right:=by unfold aH;omega
 refine cx.of (Ol r is p) ?_
 refine aw.of mixed uG ?_
 have o:is[r.left.toNat]?=some (is[r.left.toNat]'(by omega)):=U6 (by omega)
 have g:is.getD r.left.toNat false=is[r.left.toNat]'(by omega):=by simp[U5,o]
 generalize is[r.left.toNat]'(by omega)=b at o g
 rw[g]
 simp(disch:=omega)only[↓wr,seval,wq,pZ,aW,encI,bK,U9,o]
 cases b with
 | false =>
  simp(disch:=omega)only[↓wr,seval,wq]
  intro z q
  exact .emp _
 | true =>
  simp(disch:=omega)only[↓wr,seval,wq,aW,encI,bK]
  refine av.pure (tj r p n (λs j=>⟨(l s j).1,λh=>by rw[hp];exact(l s j).2 h⟩)) ?_
  repeat' (first | ((first|apply ah.dec|apply ah.eq|apply ah.ne|apply ah.split)<;>intro)|(simp(disch:=omega)only[↓wr,seval,wq,aW,encI,bK]))
  .rename_i t
   rw[Va (by simp[t])]
   refine bc.up r.right.length (λi T H=>(∃ u,T 5=u/\aZ H u 1 ((gg (r.right.take i)).map λx=>[gi x]))/\T 21=encI r.right/\T 22=gi r.right.length/\T 23=gi i) ?_ ?_
   .exact⟨⟨_,rfl,.nil⟩,rfl,rfl,rfl⟩
   rintro i k T H' hk ⟨⟨u,e,hu⟩,a,c,d⟩
   simp(disch:=omega)only[↓wr,seval,wq,np,e,a,c,d,encI]
   apply ah.dec<;>intro D
   .have v:r.right[i]?=some (r.right[i]'(by omega)):=U6 (by omega)
    have hm:r.right[i]'(by omega)∈r.right:=Vg _
    have f:gg (r.right.take (i+1))=gg (r.right.take i) ++ gg [r.right[i]'(by omega)]:=by
     rw[Vs,v,gg,List.filter_append,Vz];rfl
    have hlen:(gg (r.right.take i)).length<=6:=by
     have h1:(gg (r.right.take i)).length<=(r.right.take i).length:=by simp only[gg,Vl];exact VY _ _
     have F:(r.right.take i).length<=i:=List.length_take_le _ _
     omega
    generalize r.right[i]'(by omega)=s at v hm f
    obtain⟨⟨s1,s2⟩,G⟩:=l s hm
    simp(disch:=omega)only[↓wr,seval,wq,e,a,c,d,encI,U9,v]
    apply ah.dec<;>intro w
    .simp(disch:=omega)only[↓wr,seval,wq,e,a,c,d]
     intro m hm
     try simp(disch:=omega)only[↓wr,seval,wq,e,a,c,d,bt]
     refine nd (hu.fresh hm) (by simp) (by simp[aJ]) (by unfold aD;simp at hlen ⊢;omega) (by unfold aD;simp at hlen ⊢;omega) ?_
     intro u' I y _
     simp(disch:=omega)only[↓wr,seval,wq,a,c,d]
     refine aI hk (by omega) ⟨⟨u',rfl,?_⟩,a,c,rfl⟩
     rw[f]
     simpa [gg,w] using y
    .simp(disch:=omega)only[↓wr,seval,wq,e,a,c,d]
     refine aI hk (by omega) ⟨⟨u,e,?_⟩,a,c,rfl⟩
     rw[f]
     simpa [gg,w] using hu
   .rw[Vn (by omega)] at hu
    simp(disch:=omega)only[↓wr,seval,wq,e,a,c,d]
    intro z q
    exact kn (by rw[q];exact hu)
  .rename_i t
   intro z q
   rw[U8 (by simp[t])]
   exact .emp _
def rb (is:List Bool) (l:List Int):List Bool:=l.foldl (λis n=>is.set n.toNat true) is
def stepG (comes:aN->List Bool->List Int) (is:List Bool) (r:aN):List Bool:=rb is (comes r is)
def dM (comes:aN->List Bool->List Int) (rules:List aN) (is:List Bool):List Bool:=rules.foldl (stepG comes) is
def fg (a b:List Bool):Prop:=a.length=b.length/\∀ i,a.getD i false=true->b.getD i false=true
theorem fg.refl (a:List Bool):fg a a:=⟨rfl,λ_ h=>h⟩
theorem fg.trans {a b c:List Bool} (h:fg a b) (k:fg b c):fg a c:=⟨h.1.trans k.1,λi hi=>k.2 i (h.2 i hi)⟩
theorem fg.set (a:List Bool) (i:Nat):fg a (a.set i true):=by
 refine⟨by simp,λj h=>?_⟩
 simp only[U5,Wk] at h ⊢
 split
 .split
  .rfl
  .rename_i e b;rw[<-e,Vx (by omega)] at h;simp at h
 .exact h
theorem GX:∀ (l:List Int) (is:List Bool),fg is (rb is l)
 | [],is=>.refl _
 | n :: l,is=>(fg.set is n.toNat).trans (GX l _)
theorem tc (comes:aN->List Bool->List Int):∀ (rules:List aN) (is:List Bool),fg is (dM comes rules is)
 | [],is=>.refl _
 | r :: rs,is=>(GX _ _).trans (tc comes rs _)
def dN (a:List Bool):Nat:=a.countP λx=>x
theorem so (a:List Bool):dN a<=a.length:=List.countP_le_length
theorem fg.dN:∀ {a b:List Bool},fg a b->dN a<=dN b/\(dN a=dN b->a=b)
 | [],[],_=>⟨Vh _,λ_=>rfl⟩
 | [],_ :: _,h=>by simp[fg] at h
 | _ :: _,[],h=>by simp[fg] at h
 | x :: a,y :: b,h=>by
  have c:x=true->y=true:=λe=>by have:=h.2 0 (by simpa using e);simpa using this
  obtain⟨h1,d⟩:=fg.dN (a:=a) (b:=b) ⟨by simpa using h.1,λi hi=>by have:=h.2 (i+1) (by simpa using hi);simpa using this⟩
  unfold Gv.dN at h1 d ⊢
  simp only[List.countP_cons]
  cases x with
  | true =>
   have:=c rfl;subst this
   simp only[if_true]
   exact⟨by omega,λe=>by rw[d (by omega)]⟩
  | false =>
   cases y with
   | false=>simp only[VE,if_false];exact⟨by omega,λe=>by rw[d (by omega)]⟩
   | true=>simp only[VE,if_false,if_true];exact⟨by omega,λe=>by omega⟩
def gJ (comes:aN->List Bool->List Int) (rules:List aN):Nat->List Bool->List Bool
 | 0,is=>is
 | k+1,is=>if dM comes rules is=is then is else gJ comes rules k (dM comes rules is)
theorem sQ (comes:aN->List Bool->List Int) (rules:List aN):∀ (k:Nat) (is:List Bool),is.length<=dN is+k->dM comes rules (gJ comes rules k is)=gJ comes rules k is/\fg is (gJ comes rules k is)
 | 0,is,h=>by
  have h1:=tc comes rules is
  have b:=so (dM comes rules is)
  have a:=h1.dN
  rw[<-h1.1] at b
  have c:=so is
  exact⟨(a.2 (by omega)).symm,.refl _⟩
 | k+1,is,h=>by
  simp only[gJ]
  by_cases e:dM comes rules is=is
  .rw[Va e];exact⟨e,.refl _⟩
  .rw[U8 e]
   have h1:=tc comes rules is
   have a:=h1.dN
   have:dN is < dN (dM comes rules is):=by
    rcases Vw (dN is) (dN (dM comes rules is)) with h | h
    .exact h
    .exact absurd (a.2 (by omega)).symm e
   obtain⟨g1,g2⟩:=sQ comes rules k (dM comes rules is) (by rw[<-h1.1];omega)
   exact⟨g1,h1.trans g2⟩
def wZ:SC :=
 af [ab [aV 26 .lss 25 24],bW 26 (.exit 4),.block 5 (af [ab [aM 27 1 23 25,aj 28 27,aa 11 28],.region false [⟨none,[aa 29 7,aa 30 29]⟩,⟨(some (30,false)),[aa 31 1,aa 32 11,aM 33 1 31 32,aj 34 33,cb 35 34]⟩,⟨none,[bP 36 30 35,aa 7 36]⟩],ab [aa 37 1,aa 38 11,aM 39 1 37 38,(none,.op (.store 1 (.tmp 39) (.val (.val (.bool true)))))]]),ab [aE 40 .add 25 1,aa 25 40]]
def wX:SC :=
 af [ab [aV 17 .lss 16 15],bW 17 (.exit 2),.block 3 (af [ab [aM 18 3 14 16,aU 19 3 18,((some 9),.op (.alloc [(.val (.int .i64 0)),(.emp 1),(.val (.int .i64 0))])),cG 3 9 19],ab [aa 20 2,aU 21 3 9,aa 22 1,((some 23),.call (.tmp 20) [(.tmp 21),(.tmp 22)]),aP 24 23,aT 25 0],bX 4 wZ]),ab [aE 41 .add 16 1,aa 16 41]]
def qI:SC :=
 af [af [ab [aa 12 7],bW 12 (.exit 0)],.block 1 (af [ab [bu 7 false],ab [au 13 2 3,aj 14 13,aP 15 14,aT 16 0],bX 2 wX])]
def zJ:SF:=⟨af [ab [cd 3 0,ct 6 1],af [ab [bu 7 true],bX 0 qI],ab [aa 42 1,aa 6 42],.ret],
 [.tmp 6],43⟩
theorem CW:aQ Tryz.prog 173 [3]=some zJ:=by kernel_rfl
theorem Qi {is:List Bool} {i:Nat} (h:is.getD i false=true):is.set i true=is:=by
 apply List.ext_getElem?
 intro j
 simp only[U5] at h
 rw[Wk]
 split
 .rename_i e;subst e
  split
  .rename_i a;rw[U6 a] at h ⊢;simp at h;simp[h]
  .rename_i a;rw[Vx (by omega)] at h;simp at h
 .rfl
theorem Kp {comes:aN->List Bool->List Int} {rules:List aN} {k:Nat} {is:List Bool} (h:dM comes rules is=is):gJ comes rules k is=is:=by
 cases k with
 | zero=>rfl
 | succ k=>simp only[gJ,h,if_true]
theorem KM {comes:aN->List Bool->List Int} {rules:List aN} {k:Nat} {is:List Bool} (h:¬ dM comes rules is=is) (hk:is.length<=dN is+k):∃ j,k=j+1/\gJ comes rules k is=gJ comes rules j (dM comes rules is)/\(dM comes rules is).length<=dN (dM comes rules is)+j:=by
 have h1:=tc comes rules is
 have a:=h1.dN
 have b:=so (dM comes rules is)
 have:dN is < dN (dM comes rules is):=by
  rcases Vw (dN is) (dN (dM comes rules is)) with h | h
  .exact h
  .exact absurd (a.2 (by omega)).symm (by assumption)
 have c:=h1.1
 obtain⟨j,rfl⟩:∃ j,k=j+1:=⟨k - 1,by omega⟩
 exact⟨j,rfl,by simp only[gJ];rw[U8 h],by omega⟩
theorem O7 {a is:List Bool} {i:Nat} {b:Bool} (hle:fg a is) (hi:i < is.length) (d:b = !decide (is=a)):(b || !is.getD i false) = !decide (is.set i true=a):=by
 cases c:is.getD i false with
 | true=>rw[Qi c,d];simp
 | false =>
  have:¬ is.set i true=a:=λe=>by
   have h1:(is.set i true).getD i false=true:=by simp[U5,hi]
   rw[e] at h1
   have:=hle.2 i h1
   rw[c] at this;simp at this
  simp[this]
theorem CX (g:ae) (hr:g.rules.length<=40) (comes:aN->List Bool->List Int) (f:FuncId) (t D:List V) (ar:di Tryz.prog f=true) (N:Nat) (hN:N<=16)
  (hc:∀ r∈g.rules,∀ is:List Bool,is.length=N->cx Tryz.prog f (.agg (aW r) :: bK is :: D) (encI (comes r is))/\(comes r is).length<=100/\∀ n∈comes r is,bD n/\0<=n/\n < N)
  (id:Nat) (A:List Bool) (a6:A.length=N) (H:View) (hH:H id=.arr 1 (fb A)) (O:∀ H':View,(∀ k,H k≠.dead->k≠id->H' k=H k)->lX H' t D) :
  aw Tryz.prog 173 [.agg (ag g),.sl id 0 N 1,.fn f [] t] H λr H'=>r=.sl id 0 N 1/\H' id=.arr 1 (fb (gJ comes g.rules 16 A))/\∀ k,H k≠.dead->k≠id->H' k=H k:=by
 refine aw.of mixed CW ?_
 simp(disch:=omega)only[↓wr,seval,wq,zJ,ag,encS]
 refine bc.intro (λk T H'=>∃ is:List Bool,is.length=N/\H' id=.arr 1 (fb is)/\(∀ k,H k≠.dead->k≠id->H' k=H k)/\T 1=.sl id 0 N 1/\T 2=.fn f [] t/\T 3=.aF (ag g) 0 /\
  ((T 7=gb true/\∃ j,k=j+1/\gJ comes g.rules j is=gJ comes g.rules 16 A/\N<=dN is+j)∨(T 7=gb false/\is=gJ comes g.rules 16 A))) 17 ?_ ?_
 .exact⟨A,a6,hH,λ_ _ _=>rfl,rfl,rfl,rfl,.inl ⟨rfl,16,rfl,rfl,by omega⟩⟩
 rintro k T H1 ⟨is,hlen,o,p,t1,t2,t3,u⟩
 rcases u with ⟨u,j,rfl,J,hj⟩ | ⟨u,J⟩
 .simp(disch:=omega)only[↓wr,seval,wq,qI,t1,t2,t3,u,ag,encS]
  refine bc.up g.rules.length (λi T H'=>∃ oP:List Bool,oP.length=N/\fg is oP/\oP=(g.rules.take i).foldl (stepG comes) is/\H' id=.arr 1 (fb oP)/\(∀ k,H k≠.dead->k≠id->H' k=H k)/\T 1=.sl id 0 N 1/\T 2=.fn f [] t/\T 3=.aF (ag g) 0 /\
   T 7=gb (!decide (oP=is))/\T 14=.aS (g.rules.map aW)/\T 15=gi g.rules.length/\T 16=gi i) ?_ ?_
  .exact⟨is,hlen,.refl _,rfl,o,p,t1,t2,t3,by simp;rfl,rfl,rfl,rfl⟩
  clear t1 t2 t3 u o p
  rintro i k T H1 hk ⟨oP,s,W,P,o,p,t1,t2,t3,u,c,d,m⟩
  simp(disch:=omega)only[↓wr,seval,wq,wX,t1,t2,t3,u,c,d,m,ag,encS]
  apply ah.dec<;>intro a8
  .have Q:g.rules[i]?=some (g.rules[i]'(by omega)):=U6 (by omega)
   have M:g.rules[i]'(by omega)∈g.rules:=Vg _
   have X:(g.rules.take (i+1)).foldl (stepG comes) is=stepG comes ((g.rules.take i).foldl (stepG comes) is) (g.rules[i]'(by omega)):=by
    rw[Vs,Q,Wl];rfl
   generalize g.rules[i]'(by omega)=r at Q M X
   obtain⟨bd,bl,Y⟩:=hc r M oP s
   simp(disch:=omega)only[↓wr,seval,wq,t1,t2,t3,u,c,d,m,aW,encI,U9,Q]
   intro b R
   have E:b≠id:=by rintro rfl;rw[o] at R;simp at R
   try simp(disch:=omega)only[↓wr,seval,wq,t1,t2,t3,u,c,d,m]
   refine av.K2 bd ar ⟨dh.tree (bz _ (jh r)),AW (by simp[View.set,E.symm,o]) s.symm,O _ (λk hk v=>?_)⟩ ?_
   .have S:k≠b:=by
     rintro rfl
     rw[p k hk v] at R
     exact hk R
    simp[View.set,S,p k hk v]
   generalize hl:comes r oP=l at bl Y
   simp(disch:=omega)only[↓wr,seval,wq,t1,t2,t3,u,c,d,m,encI]
   refine bc.up l.length (λq T H'=>∃ a:List Bool,a.length=N/\fg is a/\a=rb oP (l.take q)/\H' id=.arr 1 (fb a)/\(∀ k,H k≠.dead->k≠id->H' k=H k)/\T 1=.sl id 0 N 1/\T 2=.fn f [] t/\T 3=.aF (ag g) 0 /\
    T 7=gb (!decide (a=is))/\T 14=.aS (g.rules.map aW)/\T 15=gi g.rules.length/\T 16=gi i/\T 23=encI l/\T 24=gi l.length/\T 25=gi q) ?_ ?_
   .refine⟨oP,s,W,rfl,by simp[View.set,E.symm,o],λk hk v=>?_,t1,t2,t3,u,c,d,m,rfl,rfl,rfl⟩
    have S:k≠b:=by
     rintro rfl
     rw[p k hk v] at R
     exact hk R
    simp[View.set,S,p k hk v]
   clear t1 t2 t3 u c d m o p R E
   rintro q k2 T H1 bn ⟨a,F,G,I,o,p,t1,t2,t3,u,c,d,m,w,y,B⟩
   simp(disch:=omega)only[↓wr,seval,wq,wZ,t1,t2,t3,u,c,d,m,w,y,B,encI]
   apply ah.dec<;>intro br
   .have U:l[q]?=some (l[q]'(by omega)):=U6 (by omega)
    have Z:l[q]'(by omega)∈l:=Vg _
    have an:rb oP (l.take (q+1))=(rb oP (l.take q)).set (l[q]'(by omega)).toNat true:=by
     unfold rb;rw[Vs,U,Wl];rfl
    generalize l[q]'(by omega)=n at U Z an
    obtain⟨⟨n1,n2⟩,n3,n4⟩:=Y n Z
    have aq:a.getD n.toNat false=a[n.toNat]'(by omega):=by simp[U5,show n.toNat < a.length by omega]
    have z:=O7 G (show n.toNat < a.length by omega) (b:=!decide (a=is)) rfl
    rw[aq] at z
    have K:=kj (show n.toNat < a.length by omega)
    generalize a[n.toNat]'(by omega)=x at z K aq
    have fin:∀ (C:Env),C 7=gb (!decide (a.set n.toNat true=is))->C 1=.sl id 0 N 1->C 2=.fn f [] t->C 3=.aF (ag g) 0->C 14=.aS (g.rules.map aW)->C 15=gi g.rules.length->C 16=gi i->C 23=encI l->C 24=gi l.length->C 25=gi ((q:Int)+1) ->
      ∃ k',k' < k2/\BJ l.length k' (λq T H'=>∃ a:List Bool,a.length=N/\fg is a/\a=rb oP (l.take q)/\H' id=.arr 1 (fb a)/\(∀ k,H k≠.dead->k≠id->H' k=H k)/\T 1=.sl id 0 N 1/\T 2=.fn f [] t/\T 3=.aF (ag g) 0 /\
       T 7=gb (!decide (a=is))/\T 14=.aS (g.rules.map aW)/\T 15=gi g.rules.length/\T 16=gi i/\T 23=encI l/\T 24=gi l.length/\T 25=gi q) C (H1.set id (.arr 1 (fb (a.set n.toNat true)))):=by
     intro C a7 a1 a2 a3 bs bx b0 a23 a24 a25
     refine aI bn (by omega) ⟨a.set n.toNat true,by simp[F],G.trans (.set _ _),by rw[an,<-I],by simp[View.set],λk hk v=>by simp[View.set,v,p k hk v],a1,a2,a3,a7,bs,bx,b0,a23,a24,by rw[a25];rfl⟩
    simp(disch:=omega)only[↓wr,seval,wq,t1,t2,t3,u,c,d,m,w,y,B,encI,U9,U]
    apply ah.dec<;>intro e
    .simp(disch:=omega)only[↓wr,seval,wq,t1,t2,t3,u,c,d,m,w,y,B,encI,o,K,Vl]
     refine⟨by omega,by omega,?_⟩
     try simp(disch:=omega)only[↓wr,seval,wq,t1,t2,t3,u,c,d,m,w,y,B,encI,o,K,Vl]
     refine⟨by omega,by omega,?_⟩
     rw[ke]
     exact fin _ (by rw[<-z];simp[e];rfl) t1 t2 t3 c d m w y rfl
    .simp(disch:=omega)only[↓wr,seval,wq,t1,t2,t3,u,c,d,m,w,y,B,encI,o,K,Vl]
     refine⟨by omega,by omega,?_⟩
     rw[ke]
     exact fin _ (by rw[<-z];simp[e];rfl) t1 t2 t3 c d m w y rfl
   .rw[Vn (by omega)] at I
    simp(disch:=omega)only[↓wr,seval,wq,t1,t2,t3,u,c,d,m,w,y,B]
    refine aI hk (by omega) ⟨a,F,G,?_,o,p,t1,t2,t3,u,c,d,rfl⟩
    rw[X,<-P,stepG,hl,<-I]
  .rw[Vn (by omega)] at P
   simp(disch:=omega)only[↓wr,seval,wq,t1,t2,t3,u,c,d,m]
   have L:oP=dM comes g.rules is:=P
   by_cases e:oP=is
   .refine⟨0,by omega,oP,s,o,p,rfl,.inr ⟨by simp[e],?_⟩⟩
    rw[<-J,e]
    exact(Kp (by rw[<-L];exact e)).symm
   .obtain⟨j2,rfl,e2,e3⟩:=KM (k:=j) (λh=>e (L.trans h)) (by rw[hlen];exact hj)
    refine⟨j2+1,by omega,oP,s,o,p,rfl,.inl ⟨by simp[e],j2,rfl,?_,?_⟩⟩
    .rw[<-J,e2,L]
    .rw[<-L,s] at e3;exact e3
 .simp(disch:=omega)only[↓wr,seval,wq,qI,t1,t2,t3,u,ag,encS]
  exact⟨J ▸ o,p⟩
theorem wc {α:Type} {f:α->α} {x:α} (h:f x=x):∀ n,iter f n x=x
 | 0=>rfl
 | n+1=>by rw[iter,h,wc h n]
theorem He {α:Type} (f:α->α):∀ (a b:Nat) (x:α),iter f (a+b) x=iter f b (iter f a x)
 | 0,b,x=>by rw[V2];rfl
 | a+1,b,x=>by rw[Nat.add_right_comm,iter,iter,He f a b]
theorem BY (comes:aN->List Bool->List Int) (rules:List aN):∀ (k:Nat) (is:List Bool),gJ comes rules k is=iter (dM comes rules) k is
 | 0,is=>rfl
 | k+1,is=>by
  simp only[gJ,iter]
  by_cases e:dM comes rules is=is
  .rw[Va e,e,wc e]
  .rw[U8 e,BY comes rules k]
theorem xW (comes:aN->List Bool->List Int) (rules:List aN) (is:List Bool) (h:is.length<=16):gJ comes rules 16 is=iter (dM comes rules) is.length is:=by
 have h1:=(sQ comes rules is.length is (by omega)).1
 rw[BY] at h1 ⊢
 obtain⟨m,hm⟩:∃ m,16=is.length+m:=⟨16 - is.length,by omega⟩
 rw[hm,He,wc h1]
def lS (t:Bool) (r:aN) (is:List Bool):List Int:=if cp r.right is t=true then [r.left] else []
def rQ (p:List Bool) (r:aN) (is:List Bool):List Int:=if (is.getD r.left.toNat false && cp r.right p true)=true then gg r.right else []
theorem IK (g:ae) (t:Bool):dM (lS t) g.rules=ja g t:=by
 funext is
 unfold dM ja
 congr 1
 funext is r
 unfold stepG lS dw
 split <;> rfl
theorem Br:∀ (l:List Int) (is:List Bool),rb is (gg l)=l.foldl mark is
 | [],is=>rfl
 | s :: l,is=>by
  have a:=Br l
  unfold rb gg at a ⊢
  rw[VC,<-a]
  unfold mark
  by_cases h:s < 0
  .rw[Va h,List.filter_cons_of_pos (by simpa using h)];rfl
  .rw[U8 h,List.filter_cons_of_neg (by simpa using h)]
theorem IN (g:ae) (p:List Bool):dM (rQ p) g.rules=ot g p:=by
 funext is
 unfold dM ot
 congr 1
 funext is r
 unfold stepG rQ fB
 split
 .exact Br _ _
 .rfl
theorem Fx {g:ae} (h:aO g=true) (t:Bool):gJ (lS t) g.rules 16 (bV g)=ak g t:=by
 have a:=aK h
 have b:(bV g).length=g.ao.length:=by simp[bV]
 have:=a.ao
 rw[xW _ _ _ (by rw[b];exact a.ao),IK,b,ak,Va h]
theorem MK {g:ae} (h:aO g=true):gJ (rQ (ak g true)) g.rules 16 ((bV g).set g.start.toNat true)=bp g:=by
 have b:=aK h
 have a:((bV g).set g.start.toNat true).length=g.ao.length:=by simp[bV]
 rw[xW _ _ _ (by rw[a];exact b.ao),IN,a,bp,Va h]
def sD:SF:=⟨af [ab [cd 1 0,ct 2 1],af [ab [aU 3 4 1,ba 4 89 [3],cb 5 4],bg 5 (af [ab [ct 2 1],.ret])],ab [aU 6 4 1,au 7 1 1,aj 8 7,aP 9 8,((some 10),.op (.make 1 1 [(.val (.bool false))] (.tmp 9) (.tmp 9))),oE 11 173 [(.tmp 6),(.tmp 10),(.val (.fn 174 [] []))],aa 2 11],.ret],
 [.tmp 2],12⟩
theorem yC:aQ Tryz.prog 109 [1]=some sD:=by kernel_rfl
def qQ:SF:=⟨af [ab [cd 1 0,ct 2 1],af [ab [aU 3 4 1,ba 4 89 [3],cb 5 4],bg 5 (af [ab [ct 2 1],.ret])],ab [aU 6 4 1,au 7 1 1,aj 8 7,aP 9 8,((some 10),.op (.make 1 1 [(.val (.bool false))] (.tmp 9) (.tmp 9))),oE 11 173 [(.tmp 6),(.tmp 10),(.val (.fn 226 [] []))],aa 2 11],.ret],
 [.tmp 2],12⟩
theorem vw:aQ Tryz.prog 161 [1]=some qQ:=by kernel_rfl
def sg:SF:=⟨af [ab [cd 1 0,ct 2 1],af [ab [aU 5 4 1,ba 6 89 [5],cb 7 6],bg 7 (af [ab [ct 2 1],.ret])],ab [aU 8 4 1,ba 9 161 [8],((some 3),.op (.alloc [(.emp 1)])),cG 1 3 9],ab [au 10 1 1,aj 11 10,aP 12 11,((some 13),.op (.make 1 1 [(.val (.bool false))] (.tmp 12) (.tmp 12))),aa 4 13],ab [aa 14 4,au 15 3 1,aj 16 15,aM 17 1 14 16,(none,.op (.store 1 (.tmp 17) (.val (.val (.bool true)))))],ab [aU 18 4 1,aa 19 4,((some 20),.op (.rW 227 [] [(.tmp 3)])),ba 21 173 [18,19,20],aa 2 21],.ret],
 [.tmp 2],22⟩
theorem xm:aQ Tryz.prog 162 [1]=some sg:=by kernel_rfl
structure ae.Small (g:ae):Prop where
 names:g.ao.length+g.ai.length<=1000
theorem xJ {a:aB} {id n:Nat} {is:List Bool} (b:a.view id=.arr 1 (fb is)) (c:n=is.length):cM a (.sl id 0 n 1) (bK is):=by
 subst c;exact yz b
theorem FR (g:ae) (d:g.Ok) (i:g.Small):cx Tryz.prog 109 [.agg (ag g)] (bK (ak g false)):=by
 refine cx.of (eP g) ?_
 refine aw.of mixed yC ?_
 have j:=d.ao
 unfold aH at j
 simp(disch:=omega)only[↓wr,seval,wq,sD,ag,encS]
 refine av.pure (ng g d i.names) ?_
 repeat' (first | ((first|apply ah.dec|apply ah.eq|apply ah.ne|apply ah.split)<;>intro)|(simp(disch:=omega)only[↓wr,seval,wq,ag,encS]))
 .rename_i hr
  have b:=aK hr
  have h1:=b.sX
  have k:=b.ao
  try simp(disch:=omega)only[↓wr,seval,wq,ag,encS]
  refine⟨⟨by omega,by unfold aD;omega,by unfold aD;omega⟩,λh=>by omega,?_⟩
  intro _ n
  try simp(disch:=omega)only[↓wr,seval,wq,ag,encS]
  refine av.eD ((CX g b.rules (lS false) 174 [] [] (by kernel_rfl) g.ao.length k (λr a is e=>⟨HF r is (by rw[e];exact b.rM d a),?_,?_⟩) n (bV g) (by simp[bV]) _ (by simp[View.set,bV]) (λH' _=>trivial)).mono ?_)
  .unfold lS;split <;> simp
  .intro m hm
   unfold lS at hm
   split at hm
   .simp only[Wh] at hm;subst hm
    exact⟨(d.al r a).1,b.left r a⟩
   .simp at hm
  .rintro r H' ⟨rfl,c,_⟩
   simp(disch:=omega)only[↓wr,seval,wq]
   intro l f
   rw[Fx hr] at c
   exact xJ (by rw[f];exact c) (fi hr _).symm
 .rename_i hr
  intro l f
  simp only[ak,hr]
  exact .emp _
theorem uO (g:ae) (d:g.Ok) (i:g.Small):cx Tryz.prog 161 [.agg (ag g)] (bK (ak g true)):=by
 refine cx.of (eP g) ?_
 refine aw.of mixed vw ?_
 have j:=d.ao
 unfold aH at j
 simp(disch:=omega)only[↓wr,seval,wq,qQ,ag,encS]
 refine av.pure (ng g d i.names) ?_
 repeat' (first | ((first|apply ah.dec|apply ah.eq|apply ah.ne|apply ah.split)<;>intro)|(simp(disch:=omega)only[↓wr,seval,wq,ag,encS]))
 .rename_i hr
  have b:=aK hr
  have h1:=b.sX
  have k:=b.ao
  try simp(disch:=omega)only[↓wr,seval,wq,ag,encS]
  refine⟨⟨by omega,by unfold aD;omega,by unfold aD;omega⟩,λh=>by omega,?_⟩
  intro _ n
  try simp(disch:=omega)only[↓wr,seval,wq,ag,encS]
  refine av.eD ((CX g b.rules (lS true) 226 [] [] (by kernel_rfl) g.ao.length k (λr a is e=>⟨CT r is (by rw[e];exact b.rM d a),?_,?_⟩) n (bV g) (by simp[bV]) _ (by simp[View.set,bV]) (λH' _=>trivial)).mono ?_)
  .unfold lS;split <;> simp
  .intro m hm
   unfold lS at hm
   split at hm
   .simp only[Wh] at hm;subst hm
    exact⟨(d.al r a).1,b.left r a⟩
   .simp at hm
  .rintro r H' ⟨rfl,c,_⟩
   simp(disch:=omega)only[↓wr,seval,wq]
   intro l f
   rw[Fx hr] at c
   exact xJ (by rw[f];exact c) (fi hr _).symm
 .rename_i hr
  intro l f
  simp only[ak,hr]
  exact .emp _
theorem pF {g:ae} (hr:aO g=true):(bp g).length=g.ao.length:=by
 rw[bp,Va hr,Ae (f:=ot g (ak g true)) (λis=>Ap (λis x=>Oc _ is x) g.rules is)]
 simp[bV]
theorem ET (g:ae) (f:g.Ok) (w:g.Small):cx Tryz.prog 162 [.agg (ag g)] (bK (bp g)):=by
 refine cx.of (eP g) ?_
 refine aw.of mixed xm ?_
 have A:=f.ao
 unfold aH at A
 simp(disch:=omega)only[↓wr,seval,wq,sg,ag,encS]
 refine av.pure (ng g f w.names) ?_
 repeat' (first | ((first|apply ah.dec|apply ah.eq|apply ah.ne|apply ah.split)<;>intro)|(simp(disch:=omega)only[↓wr,seval,wq,ag,encS]))
 .rename_i hr
  have d:=aK hr
  have h1:=d.sX
  have B:=d.ao
  have D:=d.ic
  have E:=d.start
  have p:=fi hr true
  try simp(disch:=omega)only[↓wr,seval,wq,ag,encS]
  refine av.pure (uO g f w).pure ?_
  simp(disch:=omega)only[↓wr,seval,wq,ag,encS,bK]
  intro q
  try simp(disch:=omega)only[↓wr,seval,wq,ag,encS,set_set]
  refine⟨⟨by omega,by unfold aD;omega,by unfold aD;omega⟩,λh=>by omega,?_⟩
  intro _ n t
  have e:=(bS t bQ).1
  try simp(disch:=omega)only[↓wr,seval,wq,ag,encS,set_set]
  have i:=kj (is:=bV g) (show g.start.toNat < (bV g).length by simp[bV];omega)
  refine⟨by omega,by simp;omega,?_⟩
  refine av.eD ((CX g d.rules (rQ (ak g true)) 227 [.ptr q 0 0] [.aF [bK (ak g true)] 0] (by kernel_rfl) g.ao.length B (λr c is j=>⟨EU r is (ak g true) (by rw[j];exact d.rM f c) (by rw[j,p]),?_,?_⟩) n ((bV g).set g.start.toNat true) (by simp[bV]) _ ?_ (λH' u=>⟨dh.box (z:=1) ?_ ?_,trivial⟩)).mono ?_)
  .have F:=d.right r c
   unfold rQ
   split
   .have:(gg r.right).length<=r.right.length:=by simp only[gg,Vl];exact VY _ _
    omega
   .simp
  .intro m hm
   unfold rQ at hm
   split at hm
   .simp only[gg,Vv,VV,Vj] at hm
    obtain⟨s,⟨k,l⟩,rfl⟩:=hm
    have a:=d.neg c k l
    have b:=((f.al r c).2.2.2 s k).1
    exact⟨⟨by omega,by omega⟩,by omega,a⟩
   .simp at hm
  .simp only[View.set,if_true]
   congr 1
   rw[<-ke]
   unfold bV at i ⊢
   rw[yG,i]
   rfl
  .rw[u q (by simp[View.set,Ne.symm e]) (Ne.symm e)]
   simp[View.set,Ne.symm e]
   rfl
  .intro v x;simp at x;subst x;exact fY _
  .rintro r H' ⟨rfl,o,_⟩
   simp(disch:=omega)only[↓wr,seval,wq]
   intro C y
   rw[MK hr] at o
   exact xJ (by rw[y];exact o) (by rw[pF hr])
 .rename_i hr
  intro C y
  simp only[bp,hr]
  exact .emp _
def bO (p q:List Bool) (r:aN):Bool:=q.getD r.left.toNat false && cp r.right p true
def cT (p q:List Bool):List aN->Int->List Int
 | [],_=>[]
 | r :: l,i=>if bO p q r=true then i :: cT p q l (i+1) else cT p q l (i+1)
def eR (acc:List Int) (r:aN):List Int:=if r.left∈acc then acc else acc ++ [r.left]
def bL (p q:List Bool) (l:List aN):List Int:=(l.filter (bO p q)).foldl eR []
def bw (o:List Int) (x:Int):Int:=dI (λy=>y == x) o 0
def bB (f:Int->Int) (r:aN):aN:=⟨f r.left,r.right.map λs=>if s < 0 then -1 - f (-1 - s) else s,r.prec⟩
def iT (g:ae) (f:Int->Int) (p q:List Bool):ae :=
 ⟨g.ai,(bL p q g.rules).map λx=>g.ao.getD x.toNat ⟨#[]⟩,(g.rules.filter (bO p q)).map (bB f),f g.start⟩
def Cp:ae:=⟨[],[],[],0⟩
instance:DecidableEq Term:=λa b=>decidable_of_iff (a.name=b.name/\a.level=b.level/\a.assoc=b.assoc) (by cases a;cases b;simp)
instance:DecidableEq aN:=λa b=>decidable_of_iff (a.left=b.left/\a.prec=b.prec/\a.right=b.right) (by cases a;cases b;simp[and_comm])
instance:DecidableEq ae:=λa b=>decidable_of_iff (a.ai=b.ai/\a.ao=b.ao/\a.rules=b.rules/\a.start=b.start) (by cases a;cases b;simp)
def dV (g:ae):ae × List Int × Int :=
 if aO g=true then
  if (ak g true).getD g.start.toNat false=true then (iT g (bw (bL (ak g true) (bp g) g.rules)) (ak g true) (bp g),cT (ak g true) (bp g) g.rules 0,0)
  else (Cp,[],9)
 else (Cp,[],1)
theorem gZ {g:ae} (hr:aO g=true):dV g=if (ak g true).getD g.start.toNat false=true then (iT g (bw (bL (ak g true) (bp g) g.rules)) (ak g true) (bp g),cT (ak g true) (bp g) g.rules 0,0) else (Cp,[],9):=by
 rw[dV,Va hr]
theorem j8 (p q:List Bool):∀ (a b:List aN) (i:Int),cT p q (a ++ b) i=cT p q a i ++ cT p q b (i+a.length)
 | [],b,i=>by simp[cT]
 | r :: a,b,i=>by
  simp only[VZ,cT,j8 p q a b (i+1),Vm]
  have:i+1+(a.length:Int)=i+((a.length+1:Nat):Int):=by push_cast;omega
  rw[this]
  split <;> simp
theorem km (p q:List Bool):∀ (a:List aN) (i:Int),(cT p q a i).length=(a.filter (bO p q)).length
 | [],i=>rfl
 | r :: a,i=>by
  simp only[cT,List.filter_cons]
  split <;> simp[km p q a]
theorem sJ (p q:List Bool):∀ (a:List aN) (i:Int) (k:Nat),k < (cT p q a i).length->∃ m:Nat,(cT p q a i)[k]?=some (i+m)/\a[m]?=(a.filter (bO p q))[k]?/\m < a.length
 | [],i,k,h=>by simp[cT] at h
 | r :: a,i,k,h=>by
  simp only[cT,List.filter_cons] at h ⊢
  by_cases hr:bO p q r=true
  .rw[Va hr] at h ⊢
   rw[Va hr]
   cases k with
   | zero=>exact⟨0,by simp,by simp,by simp⟩
   | succ k =>
    obtain⟨m,h1,b,c⟩:=sJ p q a (i+1) k (by simpa using h)
    exact⟨m+1,by rw[VW,h1];congr 1;push_cast;omega,by simpa using b,by simpa using c⟩
  .rw[U8 hr] at h ⊢
   rw[U8 hr]
   obtain⟨m,h1,b,c⟩:=sJ p q a (i+1) k h
   exact⟨m+1,by rw[h1];congr 1;push_cast;omega,by simpa using b,by simpa using c⟩
theorem sC (p q:List Bool) (l:List aN) (r:aN):bL p q (l ++ [r])=if bO p q r=true then eR (bL p q l) r else bL p q l:=by
 unfold bL
 rw[List.filter_append]
 by_cases h:bO p q r=true
 .rw[Va h,List.filter_cons_of_pos h,Wl];rfl
 .rw[U8 h,List.filter_cons_of_neg h];simp
theorem BL {acc:List Int} {r:aN} (h:acc.Nodup):(eR acc r).Nodup:=by
 unfold eR
 split
 .exact h
 .rename_i d
  rw[List.nodup_append]
  exact⟨h,by simp,λa f b c e=>d (by simp at c;rw[<-c,<-e];exact f)⟩
theorem sk {o:List Int} {x:Int} : bw o x < 0↔x ∉ o:=by
 have:=vu (λy=>y == x) o 0 (by omega)
 unfold bw
 rw[<-Int.not_le]
 constructor
 .intro h a
  have e:(o.any λy=>y == x)=true:=WC.2 ⟨x,a,by simp⟩
  rw[e] at this;exact h (by simpa using this)
 .intro h a
  have e:(o.any λy=>y == x)=true:=by rw[<-this];simpa using a
  obtain⟨y,b,e⟩:=WC.1 e
  simp at e;subst e;exact h b
theorem tS {α:Type} (p:α->Bool):∀ (a b:List α) (i:Int),0<=i->dI p (a ++ b) i=if 0<=dI p a i then dI p a i else dI p b (i+a.length)
 | [],b,i,_=>by simp[dI]
 | x :: a,b,i,h=>by
  by_cases hp:p x=true
  .simp[dI,hp,h]
  .simp only[VZ,dI,U8 hp]
   rw[tS p a b (i+1) (by omega)]
   have:i+1+(a.length:Int)=i+(((x :: a).length:Nat):Int):=by simp;omega
   rw[this]
theorem Mj {o:List Int} {x y:Int} (c:x ∉ o):bw (o ++ [x]) y=if y=x then (o.length:Int) else bw o y:=by
 unfold bw
 rw[tS _ _ _ _ (by omega)]
 by_cases e:y=x
 .subst e
  rw[U8 (by have:=sk.2 c;unfold bw at this;omega),Va rfl]
  simp[dI]
 .rw[U8 e]
  split
  .rfl
  .rename_i h
   have:bw o y < 0:=by unfold bw;omega
   have b:dI (λz=>z == y) [x] (0+(o.length:Int)) = -1:=by simp[dI,Ne.symm e]
   rw[b]
   have:∀ (l:List Int) (i:Int),¬ 0<=dI (λz=>z == y) l i->0<=i->dI (λz=>z == y) l i = -1:=by
    intro l
    induction l with
    | nil=>intro i _ _;rfl
    | cons z l d =>
     intro i h1 b
     simp only[dI] at h1 ⊢
     split
     .rename_i a;rw[Va a] at h1;omega
     .rename_i a;rw[U8 a] at h1;exact d _ h1 (by omega)
   exact(this o 0 h (by omega)).symm
theorem mG {o:List Int} {x:Int} (h:x∈o):0<=bw o x/\bw o x < o.length:=by
 have a:¬ bw o x < 0:=λe=>sk.1 e h
 refine⟨by omega,?_⟩
 unfold bw
 have:∀ (l:List Int) (i:Int),dI (λz=>z == x) l i < i+l.length∨dI (λz=>z == x) l i = -1:=by
  intro l
  induction l with
  | nil=>intro i;right;rfl
  | cons z l b =>
   intro i
   simp only[dI]
   split
   .left;simp;omega
   .rcases b (i+1) with h | h
    .left;simp at h ⊢;omega
    .right;exact h
 rcases this o 0 with h1 | h1
 .simpa using h1
 .unfold bw at a;omega
theorem De (o:List Int) (x:Int) : -1<=bw o x/\bw o x<=o.length:=by
 by_cases h:x∈o
 .have:=mG h;omega
 .have h1:=sk.2 h
  have a:∀ (l:List Int) (i:Int),0<=i->-1<=dI (λz=>z == x) l i:=by
   intro l
   induction l with
   | nil=>intro i _;simp[dI]
   | cons z l b =>
    intro i hi
    simp only[dI]
    split
    .omega
    .exact b _ (by omega)
  have:=a o 0 (by omega)
  unfold bw at h1 ⊢
  omega
def jk:List Int->Int->List (Int × Int)
 | [],_=>[]
 | x :: l,i=>(x,i) :: jk l (i+1)
theorem tg (x:Int):∀ (o:List Int) (i:Int),dU (jk o i) x=if x∈o then some (dI (λy=>y == x) o i) else none
 | [],i=>by simp[jk,dU]
 | y :: o,i=>by
  have a:=tg x o (i+1)
  unfold dU at a ⊢
  simp only[jk,List.find?_cons,dI]
  by_cases e:x=y
  .subst e;simp
  .have b:¬ ((y == x)=true):=by simp[Ne.symm e]
   rw[show (x == y)=false by simp[e],U8 b]
   simp only
   rw[a]
   simp[e]
theorem Eu {x v:Int} : ∀ {o:List Int} {i:Int},x ∉ o->jI x v (jk o i)=jk o i ++ [(x,v)]
 | [],i,_=>rfl
 | y :: o,i,h=>by
  simp only[Vq,not_or] at h
  simp only[jk,jI,show (x == y)=false by simp[h.1],VE,if_false,Eu h.2,VZ]
theorem Bt {x:Int} : ∀ {o:List Int} {i:Int},jk (o ++ [x]) i=jk o i ++ [(x,i+o.length)]
 | [],i=>by simp[jk]
 | y :: o,i=>by
  simp only[VZ,jk,Bt (o:=o),Vm]
  congr 4
  push_cast;omega
def dK (o:List Int) (x:Int):Int:=(dU (jk o 0) x).getD 0
theorem yV {o:List Int} {x:Int} (h:x∈o):dK o x=bw o x:=by
 simp[dK,tg,h,bw]
theorem Rg (o:List Int) (x:Int):0<=dK o x/\dK o x<=o.length:=by
 by_cases h:x∈o
 .rw[yV h];have:=mG h;omega
 .simp[dK,tg,h]
theorem Mk {g:ae} {p q:List Bool} (a:g.start∈bL p q g.rules) (b:∀ r∈g.rules.filter (bO p q),r.left∈bL p q g.rules/\∀ s∈r.right,s < 0->-1 - s∈bL p q g.rules) :
  iT g (dK (bL p q g.rules)) p q=iT g (bw (bL p q g.rules)) p q:=by
 unfold iT
 congr 1
 .apply List.map_congr_left
  intro r hr
  obtain⟨h1,c⟩:=b r hr
  unfold bB
  congr 1
  .exact yV h1
  .apply List.map_congr_left
   intro s d
   split
   .rename_i h;rw[yV (c s d h)]
   .rfl
 .exact yV a
theorem uT:∀ (l:List aN) (acc:List Int) (x:Int),x∈l.foldl eR acc↔x∈acc∨∃ r∈l,r.left=x
 | [],acc,x=>by simp
 | r :: l,acc,x=>by
  rw[VC,uT l]
  have:x∈eR acc r↔x∈acc∨r.left=x:=by
   unfold eR
   split
   .rename_i h
    constructor
    .exact .inl
    .rintro (a | rfl)
     .exact a
     .exact h
   .simp[eq_comm]
  rw[this]
  simp only[Vq,exists_eq_or_imp]
  constructor
  .rintro ((h | h) | h)
   .exact .inl h
   .exact .inr (.inl h)
   .exact .inr (.inr h)
  .rintro (h | h | h)
   .exact .inl (.inl h)
   .exact .inl (.inr h)
   .exact .inr h
theorem rH {p q:List Bool} {l:List aN} {x:Int} : x∈bL p q l↔∃ r∈l,bO p q r=true/\r.left=x:=by
 unfold bL
 rw[uT]
 simp[VV,and_assoc]
def lE:SC :=
 af [af [ab [aa 42 9,aa 43 8,aP 44 43,aV 45 .lss 42 44],bW 45 (.exit 0)],.block 1 (ab [aa 48 8,aa 49 9,aM 50 1 48 49,(none,.op (.store 1 (.tmp 50) (.val (.val (.int .i64 (-1))))))]),ab [aa 46 9,aE 47 .add 46 1,aa 9 47]]
def lP:SC :=
 af [af [ab [aa 51 11,au 52 2 1,aj 53 52,aP 54 53,aV 55 .lss 51 54],bW 55 (.exit 2)],.block 3 (af [ab [au 58 2 1,aj 59 58,aa 60 11,aM 61 3 59 60,aU 62 3 61,((some 12),.op (.alloc [(.val (.int .i64 0)),(.emp 1),(.val (.int .i64 0))])),cG 3 12 62],af [.region false [⟨none,[aa 63 6,au 64 0 12,aj 65 64,aM 66 1 63 65,aj 67 66,cb 68 67,aa 69 68]⟩,⟨(some (69,false)),[au 70 1 12,aj 71 70,aa 72 5,oE 73 95 [(.tmp 71),(.tmp 72),(.val (.val (.bool true)))],cb 74 73]⟩,⟨none,[bP 75 69 74]⟩],bg 75 (.exit 3)],ab [aa 76 10,aa 77 11,((some 78),.op (.bG 1 1 [(.val (.int .i64 0))] [(0,(.tmp 77))])),fM 79 1 8 76 78,aa 10 79],ab [aa 80 8,au 81 0 12,aj 82 81,aM 83 1 80 82,aj 84 83,aE 85 .lss 84 0],bg 85 (af [ab [aa 86 8,au 87 0 12,aj 88 87,au 89 1 7,aj 90 89,aP 91 90,aM 92 1 86 88,cG 1 92 91],.region false [⟨none,[au 93 1 7,aj 94 93,au 95 1 1,aj 96 95,au 97 0 12,aj 98 97,aM 99 1 96 98,aj 100 99,((some 101),.op (.bG 1 1 [(.val (.string ⟨#[]⟩))] [(0,(.tmp 100))])),fM 102 1 16 94 101,au 103 1 7,cG 1 103 102]⟩]])]),ab [aa 56 11,aE 57 .add 56 1,aa 11 57]]
def lU:SC :=
 af [af [ab [aa 126 16,au 127 1 14,aj 128 127,aP 129 128,aV 130 .lss 126 129],bW 130 (.exit 6)],.block 7 (af [ab [au 133 1 14,aj 134 133,aa 135 16,aM 136 1 134 135,aj 137 136,aa 17 137],af [ab [aa 138 17,aE 139 .lss 138 0],bg 139 (ab [aa 140 8,aa 141 17,((some 142),.op (.arith .sub (.val (.val (.int .i64 (-1)))) (.tmp 141))),aM 143 1 140 142,aj 144 143,((some 145),.op (.arith .sub (.val (.val (.int .i64 (-1)))) (.tmp 144))),aa 17 145])],ab [au 146 1 15,aj 147 146,aa 148 17,((some 149),.op (.bG 1 1 [(.val (.int .i64 0))] [(0,(.tmp 148))])),fM 150 1 8 147 149,au 151 1 15,cG 1 151 150]]),ab [aa 131 16,aE 132 .add 131 1,aa 16 132]]
def lD:SC :=
 af [af [ab [aa 104 13,aa 105 10,aP 106 105,aV 107 .lss 104 106],bW 107 (.exit 4)],.block 5 (af [ab [au 110 2 1,aj 111 110,aa 112 10,aa 113 13,aM 114 1 112 113,aj 115 114,aM 116 3 111 115,aU 117 3 116,((some 14),.op (.alloc [(.val (.int .i64 0)),(.emp 1),(.val (.int .i64 0))])),cG 3 14 117],ab [aa 118 8,au 119 0 14,aj 120 119,aM 121 1 118 120,aj 122 121,au 123 2 14,aj 124 123,((some 125),.op (.build [(.val (.int .i64 0)),(.emp 1),(.val (.int .i64 0))] [(0,1,(.tmp 122)),(2,1,(.tmp 124))])),((some 15),.op (.alloc [(.val (.int .i64 0)),(.emp 1),(.val (.int .i64 0))])),cG 3 15 125],af [ab [aT 16 0],bX 6 lU],ab [au 152 2 7,aj 153 152,aU 154 3 15,((some 155),.op (.bG 1 3 [(.val (.int .i64 0)),(.emp 1),(.val (.int .i64 0))] [(0,(.tmp 154))])),fM 156 3 40 153 155,au 157 2 7,cG 1 157 156]]),ab [aa 108 13,aE 109 .add 108 1,aa 13 109]]
def nF:SF:=⟨af [ab [cd 1 0,((some 2),.op (.alloc [(.emp 1),(.emp 1),(.emp 1),(.val (.int .i64 0))])),ct 3 1,aT 4 0],af [ab [aU 18 4 1,ba 19 50 [18],cb 20 19],bg 20 (af [ab [((some 21),.op (.build [(.emp 1),(.emp 1),(.emp 1),(.val (.int .i64 0))] [])),cG 4 2 21,ct 3 1,aT 4 1],.ret])],.region true [⟨none,[aU 22 4 1,ba 23 93 [22],aU 24 4 1,ba 25 94 [24],aa 5 23,aa 6 25]⟩],af [ab [aa 26 5,au 27 3 1,aj 28 27,aM 29 1 26 28,aj 30 29,cb 31 30],bg 31 (af [ab [((some 32),.op (.build [(.emp 1),(.emp 1),(.emp 1),(.val (.int .i64 0))] [])),cG 4 2 32,ct 3 1,aT 4 9],.ret])],ab [ct 33 2,au 34 0 1,aj 35 34,fM 36 3 32 33 35,((some 37),.op (.build [(.emp 1),(.emp 1),(.emp 1),(.val (.int .i64 0))] [(0,1,(.tmp 36))])),((some 7),.op (.alloc [(.emp 1),(.emp 1),(.emp 1),(.val (.int .i64 0))])),cG 4 7 37],ab [au 38 1 1,aj 39 38,aP 40 39,((some 41),.op (.make 1 8 [(.val (.int .i64 0))] (.tmp 40) (.tmp 40))),aa 8 41],af [ab [aT 9 0],bX 0 lE],ab [ct 10 1],af [ab [aT 11 0],bX 2 lP],af [ab [aT 13 0],bX 4 lD],ab [aa 158 8,au 159 3 1,aj 160 159,aM 161 1 158 160,aj 162 161,au 163 3 7,cG 1 163 162],ab [aU 164 4 7,aa 165 10,cG 4 2 164,aa 3 165,aT 4 0],.ret],
 [.cell 2 (some 4),.tmp 3,.tmp 4],166⟩
theorem sA:aQ Tryz.prog 47 [1]=some nF:=by kernel_rfl
abbrev bR (l:List Int):List (List V):=l.map λx=>[gi x]
abbrev jZ (l:List ByteArray):List (List V):=l.map λs=>[gs s]
theorem kB {l:List Int} {i:Nat} (h:i < l.length):(bR l).getD i []=[gi l[i]]:=by simp[U5,h]
theorem ints_set (l:List Int) (i:Nat) (x:Int):(bR l).set i [gi x]=bR (l.set i x):=by simp[List.map_set]
theorem RP {l:List Int} (h:0 < l.length):bR l≠[]:=by intro e;rw[List.map_eq_nil_iff] at e;rw[e] at h;simp at h
theorem wO {α:Type} {x:α} : ∀ {l:List α} {i:Nat},i < l.length->(l.set i x).take (i+1)=l.take i ++ [x]
 | y :: l,0,_=>by simp
 | y :: l,i+1,h=>by
  have:=wO (x:=x) (l:=l) (i:=i) (by simpa using h)
  simp only[List.set_cons_succ,List.take_succ_cons,this,VZ]
def fa (n:Nat) (o:List Int):List Int:=(List.range n).map λ(x:Nat)=>bw o (x:Int)
theorem RE (n:Nat):fa n []=List.replicate n (-1):=by
 apply List.ext_getElem
 .simp[fa]
 .intro i h1 a
  simp[fa,bw,dI]
theorem zm {n:Nat} {o:List Int} {x:Int} (a:0<=x) (h1:x < n):(fa n o)[x.toNat]'(by simp[fa];omega)=bw o x:=by
 simp[fa,show ((x.toNat:Nat):Int)=x by omega]
theorem Ri {n:Nat} {o:List Int} {x:Int} (b:0<=x) (h1:x < n) (a:x ∉ o):(fa n o).set x.toNat o.length=fa n (o ++ [x]):=by
 apply List.ext_getElem
 .simp[fa]
 .intro i c d
  rw[List.getElem_set]
  simp only[fa,List.getElem_map,List.getElem_range]
  rw[Mj a]
  by_cases e:x.toNat=i
  .rw[Va e,Va (by omega)]
  .rw[U8 e,U8 (by omega)]
abbrev y9:=List (V × aN)
def gH (b:y9):List (List V):=b.map λx=>[gi x.2.left,x.1,gi x.2.prec]
def lz (b:y9):List eC:=b.map λx=>(x.1,1,bR x.2.right)
theorem ML {h:aB} {u:V} {b:y9} (c:aZ h.view u 3 (gH b)) (f:∀ x∈lz b,aZ h.view x.1 x.2.1 x.2.2):cM h u (.aS ((b.map (·.2)).map aW)):=by
 refine cM.own c (by simp[gH]) (λi hi=>?_) (λi j hi a=>?_)
 all_goals
  simp only[gH,Vl] at hi
  have e:(gH b).getD i []=[gi b[i].2.left,b[i].1,gi b[i].2.prec]:=by simp[gH,U5,hi]
  have d:((b.map (·.2)).map aW).getD i []=aW b[i].2:=by simp[U5,hi]
 .rw[e,d];rfl
 .rw[e,d]
  rw[d] at a
  have hm:b[i]∈b:=Vg _
  have c:=f (b[i].1,1,bR b[i].2.right) (Vv.2 ⟨_,hm,rfl⟩)
  match j,a with
  | 0,_=>exact .val _
  | 1,_=>exact kn c
  | 2,_=>exact .val _
  | n+3,a=>exact absurd a (by simp only[aW,Vm,Vy];omega)
theorem Pk {h:aB} {u:V} {l:List ByteArray} (a:aZ h.view u 1 (jZ l)):cM h u (encS l):=cM.Lk (f:=Value.string) a
theorem MF {h:aB} {u:V} {l:List Term} (b:aZ h.view u 3 (l.map cO)):cM h u (ef l):=by
 refine cM.own b rfl (λ_ _=>rfl) (λi j hi a=>?_)
 simp only[Vl] at hi
 have c:(l.map cO).getD i []=cO l[i]:=by simp[U5,hi]
 rw[c] at a ⊢
 match j,a with
 | 0,_=>exact .val _
 | 1,_=>exact .val _
 | 2,_=>exact .val _
 | n+3,a=>exact absurd a (by simp only[cO,Vm,Vy];omega)
def vQ (x:ae × List Int × Int):V:=.bm [.agg (ag x.1),encI x.2.1,gi x.2.2]
theorem vD {h:aB} {e:Int} {b k2 c d:Nat} : cM h (.bm [.agg [.emp b,.emp k2,.emp c,gi 0],.emp d,gi e]) (vQ (Cp,[],e)):=by
 refine .bm _ _ rfl λi hi=>?_
 match i,hi with
 | 0,_ =>
  refine .agg _ _ rfl λj a=>?_
  match j,a with
  | 0,_=>exact .emp _
  | 1,_=>exact .emp _
  | 2,_=>exact .emp _
  | 3,_=>exact .val _
  | n+4,a=>exact absurd a (by simp only[Vm,Vy];omega)
 | 1,_=>exact .emp _
 | 2,_=>exact .val _
 | n+3,hi=>exact absurd hi (by simp only[Vm,Vy];omega)
def SE (g:ae) (p q:List Bool) (b2 b7 b8:Nat) (u0:V) (i:Nat) (T:Env) (H:View):Prop :=
 (∃ u1 u3:V,T 10=u3/\(∀ x∈bL p q (g.rules.take i),0<=x/\x < g.ao.length)/\(bL p q (g.rules.take i)).Nodup/\(bL p q (g.rules.take i)).length<=i /\
  bH H [(.sl b7 0 1 4,4,[[u0,u1,.emp 1,gi 0]]),(.sl b8 0 g.ao.length 1,1,bR (fa g.ao.length (bL p q (g.rules.take i)))),(u3,1,bR (cT p q (g.rules.take i) 0)),
   (u1,1,jZ ((bL p q (g.rules.take i)).map λx=>g.ao.getD x.toNat ⟨#[]⟩)),(u0,3,g.ai.map cO),(.sl b2 0 1 4,4,[[.emp 1,.emp 1,.emp 1,gi 0]])]) /\
 T 1=.aF (ag g) 0/\T 2=.ptr b2 0 0/\T 5=bK p/\T 6=bK q/\T 7=.ptr b7 0 0/\T 8=.sl b8 0 g.ao.length 1/\T 11=gi i
def TW (g:ae) (p q:List Bool) (b2 b7 b8:Nat) (u0 u1 u3:V) (o kl:List Int) (i:Nat) (T:Env) (H:View):Prop :=
 (∃ (u2:V) (bs:y9),bs.map (·.2)=((g.rules.filter (bO p q)).take i).map (bB (bw o)) /\
  bH H ((.sl b7 0 1 4,4,[[u0,u1,u2,gi 0]]) :: (.sl b8 0 g.ao.length 1,1,bR (fa g.ao.length o)) :: (u3,1,bR kl) ::
   (u1,1,jZ (o.map λx=>g.ao.getD x.toNat ⟨#[]⟩)) :: (u0,3,g.ai.map cO) :: (u2,3,gH bs) :: (.sl b2 0 1 4,4,[[.emp 1,.emp 1,.emp 1,gi 0]]) :: lz bs)) /\
 T 1=.aF (ag g) 0/\T 2=.ptr b2 0 0/\T 7=.ptr b7 0 0/\T 8=.sl b8 0 g.ao.length 1/\T 10=u3/\T 13=gi i
def Uy (g:ae) (b2 b7 b8 b14 b15:Nat) (u3:V) (o:List Int) (r:aN) (L:List eC) (i k:Nat) (T:Env) (H:View):Prop :=
 (∃ v:V,bH H ((.sl b15 0 1 3,3,[[gi (bw o r.left),v,gi r.prec]]) :: (v,1,bR ((bB (bw o) r).right.take k)) :: (.sl b14 0 1 3,3,[aW r]) :: L)) /\
 T 1=.aF (ag g) 0/\T 2=.ptr b2 0 0/\T 7=.ptr b7 0 0/\T 8=.sl b8 0 g.ao.length 1/\T 10=u3/\T 13=gi i/\T 14=.ptr b14 0 0/\T 15=.ptr b15 0 0/\T 16=gi k
theorem Jk {h:aB} {c d e f:V} {x:ae × List Int × Int} {b:y9} (g:aZ h.view c 3 (x.1.ai.map cO)) (h1:aZ h.view d 1 (jZ x.1.ao)) (k:aZ h.view e 3 (gH b)) (l:∀ y∈lz b,aZ h.view y.1 y.2.1 y.2.2)
  (hr:b.map (·.2)=x.1.rules) (m:aZ h.view f 1 (bR x.2.1)):cM h (.bm [.agg [c,d,e,gi x.1.start],f,gi x.2.2]) (vQ x):=by
 refine .bm _ _ rfl λi hi=>?_
 match i,hi with
 | 0,_ =>
  refine .agg _ _ rfl λj a=>?_
  match j,a with
  | 0,_=>exact MF g
  | 1,_=>exact Pk h1
  | 2,_=>have:=ML k l;rw[hr] at this;exact this
  | 3,_=>exact .val _
  | n+4,a=>exact absurd a (by simp only[Vm,Vy];omega)
 | 1,_=>exact kn m
 | 2,_=>exact .val _
 | n+3,hi=>exact absurd hi (by simp only[Vm,Vy];omega)
theorem Il (g:ae) (hg:g.Ok):cx Tryz.prog 47 [.agg (ag g)] (vQ (dV g)):=by
 refine cx.of (eP g) ?_
 refine aw.of mixed sA ?_
 simp(disch:=omega)only[↓wr,seval,wq,nF,ag,encS]
 intro N
 try simp(disch:=omega)only[↓wr,seval,wq,ag,encS]
 refine av.pure (gK g hg) ?_
 repeat' (first | ((first|apply ah.dec|apply ah.eq|apply ah.ne|apply ah.split)<;>intro)|(simp(disch:=omega)only[↓wr,seval,wq,ag,encS,set_set]))
 .rename_i hr
  refine av.pure (tu g hg) ?_
  simp(disch:=omega)only[↓wr,seval,wq,ag,encS]
  refine av.pure (CY g hg).pure ?_
  have hf:=aK hr
  have h3:=hf.ic
  have h4:=hf.start
  have db:=fi hr true
  have fz:=pF hr
  have c:=gZ hr
  generalize ak g true=p at db c
  generalize bp g=q at fz c
  have cc:p[g.start.toNat]?=some (p[g.start.toNat]'(by omega)):=U6 (by omega)
  have dj:p.getD g.start.toNat false=p[g.start.toNat]'(by omega):=by simp[U5,cc]
  generalize p[g.start.toNat]'(by omega)=s at cc dj
  rw[dj] at c
  simp(disch:=omega)only[↓wr,seval,wq,ag,encS,bK,U9,cc]
  cases s with
  | false =>
   rw[U8 (by simp)] at c
   simp(disch:=omega)only[↓wr,seval,wq,ag,encS,set_set]
   rintro h' hh
   rw[c]
   exact vD
  | true =>
   rw[Va rfl] at c
   simp(disch:=omega)only[↓wr,seval,wq,ag,encS,set_set]
   have hN:=hf.ao
   have hP:=hf.sX
   have hT:=hf.ai
   have hR:=hf.rules
   refine cn (L:=[(.sl N 0 1 4,4,[[.emp 1,.emp 1,.emp 1,gi 0]])]) (bH.emp (bH.nil.new rfl 4 _)) (by simp[cO,aJ]) (by unfold aD;simp;omega) (by unfold aD;simp;omega) ?_
   intro C H1 cf _
   have c0:=cf.head.cells
   have k0:=cf.head.iG
   simp(disch:=omega)only[↓wr,seval,wq,ag,encS,c0,k0]
   intro Q gd
   have gk:=cf.new gd 4 [[C,.emp 1,.emp 1,gi 0]]
   try simp(disch:=omega)only[↓wr,seval,wq,ag,encS,c0,k0,set_set]
   refine⟨⟨by omega,by unfold aD;omega,by unfold aD;omega⟩,λh=>by omega,?_⟩
   intro _ B dm
   have ds:=(bS dm bQ).1
   have j:=gk.new (n:=B) (by simp only[View.set,U8 ds];exact(bS (bS dm bQ).2 bQ).2) 1 (bR (List.replicate g.ao.length 0))
   try simp(disch:=omega)only[↓wr,seval,wq,ag,encS,c0,k0,set_set]
   refine bc.up g.ao.length (λi T H=>(∃ l:List Int,l.length=g.ao.length/\l.take i=List.replicate i (-1) /\
    bH H [(.sl B 0 g.ao.length 1,1,bR l),(.sl Q 0 1 4,4,[[C,.emp 1,.emp 1,gi 0]]),(C,3,g.ai.map cO),(.sl N 0 1 4,4,[[.emp 1,.emp 1,.emp 1,gi 0]])]) /\
    T 1=.aF (ag g) 0/\T 2=.ptr N 0 0/\T 5=bK p/\T 6=bK q/\T 7=.ptr Q 0 0/\T 8=.sl B 0 g.ao.length 1/\T 9=gi i) ?_ ?_
   .exact⟨⟨List.replicate g.ao.length 0,by simp,by simp,by simpa [set_set] using j⟩,rfl,rfl,rfl,rfl,rfl,rfl,rfl⟩
   rintro i k T H2 hk ⟨⟨l,G,t,f⟩,t1,t2,t5,t6,t7,t8,t9⟩
   simp(disch:=omega)only[↓wr,seval,wq,lE,t1,t2,t5,t6,t7,t8,t9]
   apply ah.dec<;>intro hc
   .have gl:bR l≠[]:=by intro e;rw[List.map_eq_nil_iff] at e;rw[e] at G;simp at G;omega
    have hb:=(f.obj gl).1
    have u:=kB (show i < l.length by omega)
    simp(disch:=omega)only[↓wr,seval,wq,t1,t2,t5,t6,t7,t8,t9,hb,u,Vl]
    refine⟨by omega,by omega,?_⟩
    refine aI hk (by omega) ⟨⟨l.set i (-1),by simp[G],?_,?_⟩,t1,t2,t5,t6,t7,t8,rfl⟩
    .rw[wO (by omega),t,List.replicate_succ']
    .rw[ints_set]
     exact f.put (by simp) (by simp[G])
   .rw[Vn (by omega)] at t
    rw[t] at f
    have ei:i=g.ao.length:=by omega
    subst ei
    simp(disch:=omega)only[↓wr,seval,wq,t1,t2,t5,t6,t7,t8,t9]
    have name_in:∀ o:List Int,(o.map λx=>g.ao.getD x.toNat ⟨#[]⟩).length=o.length:=λo=>by simp
    refine bc.up g.rules.length (SE g p q N Q B C) ?_ ?_
    .refine⟨⟨.emp 1,.emp 1,rfl,by simp[bL],by simp[bL],by simp[bL],?_⟩,t1,t2,t5,t6,t7,t8,rfl⟩
     have h4:=((((f.emp (k:=1) (sz:=1)).emp (k:=1) (sz:=1)).at 3 (by simp)).perm (CC.symm.cons _))
     have e0:bL p q (g.rules.take 0)=[]:=rfl
     rw[e0,RE]
     exact h4
    clear f t1 t2 t5 t6 t7 t8 t9 G t
    rintro i k T H2 hk ⟨⟨J,u3,t10,bd,bl,cg,f⟩,t1,t2,t5,t6,t7,t8,t11⟩
    simp(disch:=omega)only[↓wr,seval,wq,lP,t1,t2,t5,t6,t7,t8,t10,t11,ag]
    apply ah.dec<;>intro hc
    .have I:g.rules[i]?=some (g.rules[i]'(by omega)):=U6 (by omega)
     have z:g.rules[i]'(by omega)∈g.rules:=Vg _
     have D:g.rules.take (i+1)=g.rules.take i ++ [g.rules[i]'(by omega)]:=by rw[Vs,I];rfl
     generalize g.rules[i]'(by omega)=r at I z D
     obtain⟨G,t,R,gr,bn⟩:=hf.rM hg z
     have ch:q[r.left.toNat]?=some (q[r.left.toNat]'(by omega)):=U6 (by omega)
     have br:q.getD r.left.toNat false=q[r.left.toNat]'(by omega):=by simp[U5,ch]
     generalize q[r.left.toNat]'(by omega)=qs at ch br
     simp(disch:=omega)only[↓wr,seval,wq,t1,t2,t5,t6,t7,t8,t10,t11,ag,aW,U9,I]
     intro dv ea
     have A:=f.new ea 3 [aW r]
     try simp(disch:=omega)only[↓wr,seval,wq,t1,t2,t5,t6,t7,t8,t10,t11,aW,encI,bK,U9,ch,set_set]
     have S:∀ (T2:Env) (H':View),bO p q r=false->H'=H2.set dv (.arr 3 [aW r])->T2 10=u3->T2 1=.aF (ag g) 0->T2 2=.ptr N 0 0->T2 5=bK p->T2 6=bK q->T2 7=.ptr Q 0 0->T2 8=.sl B 0 g.ao.length 1->T2 11=gi ((i:Int)+1) ->
       ∃ k',k' < k/\BJ g.rules.length k' (SE g p q N Q B C) T2 H':=by
      intro T2 H' U ha hd a1 a2 a5 a6 a7 a8 hj
      have O:bL p q (g.rules.take (i+1))=bL p q (g.rules.take i):=by rw[D,sC,U8 (by simp[U])]
      have e2:cT p q (g.rules.take (i+1)) 0=cT p q (g.rules.take i) 0:=by rw[D,j8];simp[cT,U]
      refine aI hk (by omega) ⟨⟨J,u3,hd,by rw[O];exact bd,by rw[O];exact bl,by rw[O];omega,by rw[O,e2,ha];exact A.tail⟩,a1,a2,a5,a6,a7,a8,by rw[hj];rfl⟩
     cases qs with
     | false =>
      simp(disch:=omega)only[↓wr,seval,wq,t1,t2,t5,t6,t7,t8,t10,t11]
      refine S _ _ (by rw[bO,br];rfl) ?_ ?_ ?_ ?_ ?_ ?_ ?_ ?_ ?_
      all_goals first | exact t10 | exact t1 | exact t2 | exact t5 | exact t6 | exact t7 | exact t8 | rfl | (rw[set_set];rfl)
     | true =>
      simp(disch:=omega)only[↓wr,seval,wq,t1,t2,t5,t6,t7,t8,t10,t11,aW,encI,bK]
      refine av.pure (GD r.right p true (hg.al r z).2.2.1 (λs hs=>⟨(bn s hs).1,λh=>by rw[db];exact(bn s hs).2 h⟩)) ?_
      simp(disch:=omega)only[↓wr,seval,wq,t1,t2,t5,t6,t7,t8,t10,t11]
      apply ah.split<;>intro cj
      .simp(disch:=omega)only[↓wr,seval,wq,t1,t2,t5,t6,t7,t8,t10,t11]
       have U:bO p q r=true:=by rw[bO,br,cj];rfl
       intro m hm
       try simp(disch:=omega)only[↓wr,seval,wq,t1,t2,t5,t6,t7,t8,t10,t11,bt]
       have eb:=(bS hm bQ).1
       have hm:=(bS (bS hm bQ).2 bQ).2
       have d:=(A.fresh (n:=m) (o:=.arr 1 [[gi i]]) (by simp only[View.set,U8 eb];exact hm)).at 3 (by simp)
       have ec:(cT p q (g.rules.take i) 0).length<=40:=by
        rw[km]
        have h1:=VY (bO p q) (g.rules.take i)
        have h2:(g.rules.take i).length<=i:=List.length_take_le _ _
        have:=hf.rules
        omega
       refine cn (by rw[set_set];exact d) (by simp[aJ]) (by unfold aD;simp at ec ⊢;omega) (by unfold aD;simp at ec ⊢;omega) ?_
       intro eg H3 j _
       have f12:=((j.at 1 (by simp)).obj (by simp)).1
       have f7:=((j.at 2 (by simp)).obj (by simp)).1
       have f8:=((j.at 3 (by simp)).obj (RP (by simp[fa];omega))).1
       have ck:dH J=some (jZ ((bL p q (g.rules.take i)).map λx=>g.ao.getD x.toNat ⟨#[]⟩)).length:=(j.at 4 (by simp)).head.len
       have u:=kB (l:=fa g.ao.length (bL p q (g.rules.take i))) (i:=r.left.toNat) (by simp[fa];omega)
       rw[zm t R] at u
       simp only[aW,encI] at f12
       simp(disch:=omega)only[↓wr,seval,wq,t1,t2,t5,t6,t7,t8,t11,f12,f7,f8,u]
       refine⟨by omega,by simp[fa];omega,?_⟩
       have e2:cT p q (g.rules.take (i+1)) 0=cT p q (g.rules.take i) 0 ++ [(i:Int)]:=by
        rw[D,j8];simp[cT,U,show i<=g.rules.length by omega]
       have O:bL p q (g.rules.take (i+1))=eR (bL p q (g.rules.take i)) r:=by rw[D,sC,Va U]
       generalize bL p q (g.rules.take i)=o at *
       generalize cT p q (g.rules.take i) 0=K at *
       apply ah.dec<;>intro ek
       .have hx:r.left ∉ o:=sk.1 ek
        have E:eR o r=o ++ [r.left]:=by rw[eR,U8 hx]
        have W:Q≠B:=j.MG 2 3 rfl rfl (by omega)
        have X:dv≠B:=j.MG 1 3 rfl rfl (by omega)
        have cr:g.ao[r.left.toNat]?=some (g.ao[r.left.toNat]'(by omega)):=U6 (by omega)
        have b3:g.ao.getD r.left.toNat ⟨#[]⟩=g.ao[r.left.toNat]'(by omega):=by simp[U5,cr]
        generalize g.ao[r.left.toNat]'(by omega)=nm at cr b3
        simp(disch:=omega)only[↓wr,seval,wq,t1,t2,t5,t6,t7,t8,t11,f12,f7,f8,u,ck,Vl]
        try refine⟨by omega,by simp[fa];omega,?_⟩
        try simp(disch:=omega)only[↓wr,seval,wq,t1,t2,t5,t6,t7,t8,t11,f12,f7,f8,u,ck,Vl,W,X,ag,encS,U9,cr]
        intro m2 P
        have eH:=(bS P bQ).1
        have P:=(bS P bQ).2
        have hl:(bR (fa g.ao.length o)).set r.left.toNat [gi o.length]=bR (fa g.ao.length (o ++ [r.left])):=by rw[ints_set,Ri t R hx]
        have cC:=(j.at 3 (by simp)).put (es':=(bR (fa g.ao.length o)).set r.left.toNat [gi o.length]) (by simp) (by simp[fa])
        have hn:=(cC.fresh (n:=m2) (o:=.arr 1 [[gs nm]]) (by simp only[View.set,U8 eH];exact P)).at 4 (by simp)
        have hK:o.length<=40:=by omega
        try simp(disch:=omega)only[↓wr,seval,wq,t1,t2,t5,t6,t7,t8,t11,f12,f7,f8,u,ck,Vl,W,X,bt]
        refine cn hn (by simp[aJ]) (by unfold aD;simp;omega) (by unfold aD;simp;omega) ?_
        intro eX H5 bx _
        have c1:=bx.head.cells
        have k1:=bx.head.iG
        have cN:=((bx.at 4 (by simp)).obj (by simp)).1
        simp(disch:=omega)only[↓wr,seval,wq,t1,t2,t5,t6,t7,t8,t11,cN,c1,k1]
        have hq:=(bx.at 4 (by simp)).put (es':=[[C,eX,.emp 1,gi 0]]) rfl rfl
        have ht:=(((hq.at 4 (by simp)).tail).perm (CC.cons _))
        refine aI hk (by omega) ⟨⟨eX,eg,rfl,?_,?_,?_,?_⟩,t1,t2,t5,t6,t7,t8,rfl⟩
        .rw[O,E];intro x hz;rcases VK.1 hz with h | h
         .exact bd x h
         .simp at h;subst h;exact⟨t,R⟩
        .rw[O];exact BL bl
        .rw[O,E];simp;omega
        .rw[O,E,e2]
         have:=ht
         rw[hl] at this
         simp only[Vz,VF,Wg,b3]
         exact this
       .have hx:r.left∈o:=by
         refine Wu λh=>?_
         have:=sk.2 h
         omega
        have E:eR o r=o:=by rw[eR,Va hx]
        simp(disch:=omega)only[↓wr,seval,wq,t1,t2,t5,t6,t7,t8,t11]
        have cC:=(((j.at 1 (by simp)).tail).perm CC)
        refine aI hk (by omega) ⟨⟨J,eg,rfl,?_,?_,?_,?_⟩,t1,t2,t5,t6,t7,t8,rfl⟩
        .rw[O,E];exact bd
        .rw[O,E];exact bl
        .rw[O,E];omega
        .rw[O,E,e2]
         simp only[Vz,VF,Wg]
         exact cC
      .simp(disch:=omega)only[↓wr,seval,wq,t1,t2,t5,t6,t7,t8,t10,t11]
       refine S _ _ (by rw[bO,br,cj];rfl) ?_ ?_ ?_ ?_ ?_ ?_ ?_ ?_ ?_
       all_goals first | exact t10 | exact t1 | exact t2 | exact t5 | exact t6 | exact t7 | exact t8 | rfl | (rw[set_set];rfl)
    .rw[Vn (by omega)] at f bd bl cg
     have hA:(cT p q g.rules 0).length<=40:=by
      rw[km];have h1:=VY (bO p q) g.rules;omega
     have hB:=sJ p q g.rules 0
     have hM:=km p q g.rules 0
     have cS:g.start.toNat < (fa g.ao.length (bL p q g.rules)).length:=by simp[fa];omega
     have b4:=kB cS
     rw[zm h3 h4] at b4
     have e4:iT g (bw (bL p q g.rules)) p q=⟨g.ai,(bL p q g.rules).map λx=>g.ao.getD x.toNat ⟨#[]⟩,(g.rules.filter (bO p q)).map (bB (bw (bL p q g.rules))),bw (bL p q g.rules) g.start⟩:=rfl
     rw[e4] at c
     clear e4
     generalize bL p q g.rules=o at *
     generalize cT p q g.rules 0=K at *
     simp(disch:=omega)only[↓wr,seval,wq,t1,t2,t5,t6,t7,t8,t10,t11]
     refine bc.up K.length (TW g p q N Q B C J u3 o K) ?_ ?_
     .refine⟨⟨.emp 1,[],by simp,?_⟩,t1,t2,t7,t8,t10,rfl⟩
      exact(f.emp (k:=1) (sz:=3)).perm (rv [(.sl Q 0 1 4,4,[[C,J,.emp 1,gi 0]]),(.sl B 0 g.ao.length 1,1,bR (fa g.ao.length o)),(u3,1,bR K),(J,1,jZ (o.map λx=>g.ao.getD x.toNat ⟨#[]⟩)),(C,3,g.ai.map cO),(.emp 1,3,[]),(.sl N 0 1 4,4,[[.emp 1,.emp 1,.emp 1,gi 0]])] 5 (by simp)).symm
     clear f t1 t2 t5 t6 t7 t8 t10 t11
     rintro i k T H2 hk ⟨⟨u2,bs,b0,f⟩,t1,t2,t7,t8,t10,t13⟩
     have hC:dH u3=some (bR K).length:=(f.own 2 rfl).len
     simp(disch:=omega)only[↓wr,seval,wq,lD,t1,t2,t7,t8,t10,t13,hC,Vl]
     apply ah.dec<;>intro hc
     .obtain⟨n3,e3,hE⟩:=(f.own 2 rfl).sl (by simp;omega)
      rw[Vl] at e3
      subst e3
      obtain⟨m,cV,P,Y⟩:=hB i (by omega)
      have u:=kB (show i < K.length by omega)
      rw[Int.zero_add] at cV
      have hF:K[i]'(by omega)=(m:Int):=by
       rw[U6 (show i < K.length by omega)] at cV;simpa using cV
      rw[hF] at u
      have I:g.rules[m]?=some (g.rules[m]'Y):=U6 Y
      have z:g.rules[m]'Y∈g.rules:=Vg _
      have D:(g.rules.filter (bO p q)).take (i+1)=(g.rules.filter (bO p q)).take i ++ [g.rules[m]'Y]:=by
       rw[Vs,<-P,I];rfl
      generalize g.rules[m]'Y=r at I z D
      obtain⟨G,t,R,gr,bn⟩:=hf.rM hg z
      simp(disch:=omega)only[↓wr,seval,wq,t1,t2,t7,t8,t10,t13,hE,u,Vl,ag,aW,U9,I]
      refine⟨by omega,by omega,?_⟩
      intro e5 b5
      have A:=f.new b5 3 [aW r]
      have f8:=A.is 2 rfl (by simp[fa];omega)
      have b9:=kB (l:=fa g.ao.length o) (i:=r.left.toNat) (by simp[fa];omega)
      rw[zm t R] at b9
      have c3:B≠e5:=A.MG 2 0 rfl rfl (by omega)
      have g8:H2 B=.arr 1 (bR (fa g.ao.length o)):=f.is 1 rfl (by simp[fa];omega)
      try simp(disch:=omega)only[↓wr,seval,wq,t1,t2,t7,t8,t10,t13,g8,c3,b9,Vl,set_set,encI]
      refine⟨by omega,by simp[fa];omega,?_⟩
      intro e6 F
      have e7:=(bS F bQ).1
      have F:=(bS (bS F bQ).2 bQ).2
      have d:=(((A.new (n:=e6) (by simp only[View.set,U8 e7];exact F) 3 [[gi (bw o r.left),.emp 1,gi r.prec]]).emp (k:=1) (sz:=1)).perm (.swap _ _ _))
      generalize hL:((V.sl Q 0 1 4,4,[[C,J,u2,gi 0]]) :: (V.sl B 0 g.ao.length 1,1,bR (fa g.ao.length o)) :: (V.sl n3 0 K.length 1,1,bR K) ::
       (J,1,jZ (o.map λx=>g.ao.getD x.toNat ⟨#[]⟩)) :: (C,3,g.ai.map cO) :: (u2,3,gH bs) :: (V.sl N 0 1 4,4,[[V.emp 1,V.emp 1,V.emp 1,gi 0]]) :: lz bs:List eC)=L at d
      have hG:L[1]?=some (.sl B 0 g.ao.length 1,1,bR (fa g.ao.length o)):=by rw[<-hL];rfl
      try simp(disch:=omega)only[↓wr,seval,wq,t1,t2,t7,t8,t10,t13,set_set]
      refine bc.up r.right.length (Uy g N Q B e5 e6 (.sl n3 0 K.length 1) o r L i) ?_ ?_
      .exact⟨⟨.emp 1,by rw[set_set,set_set];exact d⟩,t1,t2,t7,t8,t10,t13,rfl,rfl,rfl⟩
      clear A d f8 g8 b5 F t1 t2 t7 t8 t10 t13
      rintro k k2 T H3 e8 ⟨⟨v,w⟩,t1,t2,t7,t8,t10,t13,t14,t15,t16⟩
      have f14:=w.is 2 rfl (by simp)
      have f15:=w.is 0 rfl (by simp)
      have f8:H3 B=.arr 1 (bR (fa g.ao.length o)):=w.is 4 (by simpa using hG) (by simp[fa];omega)
      simp only[aW] at f14
      simp(disch:=omega)only[↓wr,seval,wq,lU,t1,t2,t7,t8,t10,t13,t14,t15,t16,f14,encI]
      apply ah.dec<;>intro hI
      .have da:r.right[k]?=some (r.right[k]'(by omega)):=U6 (by omega)
       have fl:r.right[k]'(by omega)∈r.right:=Vg _
       have Z:(bB (bw o) r).right.take (k+1)=(bB (bw o) r).right.take k ++ [if r.right[k]'(by omega) < 0 then -1 - bw o (-1 - r.right[k]'(by omega)) else r.right[k]'(by omega)]:=by
        rw[Vs];simp[bB,da]
       have b1:((bB (bw o) r).right.take k).length<=6:=by
        have h1:(bB (bw o) r).right.length=r.right.length:=by simp[bB]
        have h2:((bB (bw o) r).right.take k).length<=(bB (bw o) r).right.length:=by rw[VS];omega
        omega
       generalize r.right[k]'(by omega)=s at da fl Z
       obtain⟨⟨s1,s2⟩,s3⟩:=bn s fl
       simp(disch:=omega)only[↓wr,seval,wq,t1,t2,t7,t8,t10,t13,t14,t15,t16,f14,encI,U9,da]
       have hQ:=De o (-1 - s)
       have hS:o.length<=40:=by omega
       apply ah.dec<;>intro M
       .rw[Va M] at Z
        have fm:=s3 M
        have ca:=kB (l:=fa g.ao.length o) (i:=(-1 - s).toNat) (by simp[fa];omega)
        rw[zm (by omega) fm] at ca
        simp(disch:=omega)only[↓wr,seval,wq,t1,t2,t7,t8,t10,t13,t14,t15,t16,f14,f15,f8,ca,Vl]
        refine⟨by omega,by simp[fa];omega,?_⟩
        intro m hm
        try simp(disch:=omega)only[↓wr,seval,wq,t1,t2,t7,t8,t10,t13,t14,t15,t16,bt]
        have an:=(w.fresh (o:=.arr 1 [[gi (-1 - bw o (-1 - s))]]) hm).at 1 (by simp)
        refine cn an (by simp[aJ]) (by unfold aD;simp at b1 ⊢;omega) (by unfold aD;simp at b1 ⊢;omega) ?_
        intro v' H4 a _
        have cv:=a.head.cells
        have kv:=a.head.iG
        have aq:=a.is 1 rfl (by simp)
        simp(disch:=omega)only[↓wr,seval,wq,t1,t2,t7,t8,t10,t13,t14,t15,t16,aq,cv,kv]
        have ar:=(a.at 1 (by simp)).put (es':=[[gi (bw o r.left),v',gi r.prec]]) rfl rfl
        refine aI e8 (by omega) ⟨⟨v',?_⟩,t1,t2,t7,t8,t10,t13,t14,t15,rfl⟩
        rw[Z]
        simp only[Vz,VF,Wg]
        exact ar
       .rw[U8 M] at Z
        simp(disch:=omega)only[↓wr,seval,wq,t1,t2,t7,t8,t10,t13,t14,t15,t16,f14,f15,f8]
        intro m hm
        try simp(disch:=omega)only[↓wr,seval,wq,t1,t2,t7,t8,t10,t13,t14,t15,t16,bt]
        have an:=(w.fresh (o:=.arr 1 [[gi s]]) hm).at 1 (by simp)
        refine cn an (by simp[aJ]) (by unfold aD;simp at b1 ⊢;omega) (by unfold aD;simp at b1 ⊢;omega) ?_
        intro v' H4 a _
        have cv:=a.head.cells
        have kv:=a.head.iG
        have aq:=a.is 1 rfl (by simp)
        simp(disch:=omega)only[↓wr,seval,wq,t1,t2,t7,t8,t10,t13,t14,t15,t16,aq,cv,kv]
        have ar:=(a.at 1 (by simp)).put (es':=[[gi (bw o r.left),v',gi r.prec]]) rfl rfl
        refine aI e8 (by omega) ⟨⟨v',?_⟩,t1,t2,t7,t8,t10,t13,t14,t15,rfl⟩
        rw[Z]
        simp only[Vz,VF,Wg]
        exact ar
      .rw[Vn (by simp[bB];omega)] at w
       subst hL
       have f7:=w.is 3 rfl (by simp)
       have cv:=(w.own 1 rfl).cells
       have kv:=(w.own 1 rfl).iG
       have fs:(gH bs).length<=40:=by
        have h1:=VT List.length b0
        simp only[Vl,VS] at h1
        simp only[gH,Vl]
        omega
       simp(disch:=omega)only[↓wr,seval,wq,t1,t2,t7,t8,t10,t13,t14,t15,t16,f7,f15,cv,kv]
       intro m hm
       try simp(disch:=omega)only[↓wr,seval,wq,t1,t2,t7,t8,t10,t13,t14,t15,t16,bt]
       have an:=(w.fresh (o:=.arr 3 [[gi (bw o r.left),v,gi r.prec]]) hm).at 8 (by simp)
       refine cn an (by simp[yW,kv]) (by unfold aD;simp at fs ⊢;omega) (by unfold aD;simp at fs ⊢;omega) ?_
       intro ft H4 a _
       have cu:=a.head.cells
       have ku:=a.head.iG
       have cN:=a.is 4 rfl (by simp)
       simp(disch:=omega)only[↓wr,seval,wq,t1,t2,t7,t8,t10,t13,t14,t15,t16,cN,cu,ku]
       have ar:=(a.at 4 (by simp)).put (es':=[[C,J,ft,gi 0]]) rfl rfl
       have hJ:=((((ar.at 2 (by simp)).tail).at 3 (by simp)).tail)
       refine aI hk (by omega) ⟨⟨ft,bs ++ [(v,bB (bw o) r)],?_,?_⟩,t1,t2,t7,t8,t10,rfl⟩
       .rw[Vz,b0,D,Vz];rfl
       .refine hJ.perm (.cons _ ?_)
        simp only[lz,gH,Vz,VF,Wg]
        refine .trans ?_ (rv _ 4 (by simp)).symm
        refine .cons _ ?_
        exact(WX (v,1,bR (bB (bw o) r).right) ((.sl B 0 g.ao.length 1,1,bR (fa g.ao.length o)) :: (.sl n3 0 K.length 1,1,bR K) :: (J,1,jZ (o.map λx=>g.ao.getD x.toNat ⟨#[]⟩)) :: (C,3,g.ai.map cO) :: (.sl N 0 1 4,4,[[.emp 1,.emp 1,.emp 1,gi 0]]) :: lz bs)).symm
     .rw[Vn (by omega)] at b0
      have f7:=f.is 0 rfl (by simp)
      have f8:H2 B=.arr 1 (bR (fa g.ao.length o)):=f.is 1 rfl (by simp[fa];omega)
      have f2:=f.is 6 rfl (by simp)
      have fx:Q≠N:=f.MG 0 6 rfl rfl (by omega)
      have c1:=(f.own 3 rfl).cells
      have k1:=(f.own 3 rfl).iG
      have c2:=(f.own 5 rfl).cells
      have k2:=(f.own 5 rfl).iG
      simp(disch:=omega)only[↓wr,seval,wq,t1,t2,t7,t8,t10,t13,f7,f8,f2,fx,fx.symm,b4,c0,k0,c1,k1,c2,k2,ag,Vl]
      refine⟨by omega,by simp[fa];omega,λh' hh=>?_⟩
      have A:=f.put (es':=[[C,J,u2,gi (bw o g.start)]]) rfl rfl
      have d:=(A.at 6 (by simp)).put (es':=[[C,J,u2,gi (bw o g.start)]]) rfl rfl
      have hv:h'.view=(H2.set Q (.arr 4 [[C,J,u2,gi (bw o g.start)]])).set N (.arr 4 [[C,J,u2,gi (bw o g.start)]]):=hh
      rw[<-hv] at d
      rw[c]
      exact Jk (x:=(⟨g.ai,o.map λx=>g.ao.getD x.toNat ⟨#[]⟩,(g.rules.filter (bO p q)).map (bB (bw o)),bw o g.start⟩,K,0)) (b:=bs) (d.own 5 rfl) (d.own 4 rfl) (d.own 6 rfl) (λy hy=>d.1 y (by
       refine Vt _ (Vt _ (Vt _ (Vt _ (Vt _ (Vt _ (Vt _ ?_))))))
       exact hy)) b0 (d.own 3 rfl)
 .rename_i hr
  intro h' hh
  rw[dV,U8 (by simp[hr])]
  exact vD
theorem View.Sz {H:View} {id:Nat} {o:bT} (h:H id=o):H.set id o=H:=by
 funext m
 simp only[View.set]
 split
 .rename_i e;subst e;exact h.symm
 .rfl
theorem zN {P:Program} {T:Env} {H:View} {K:V->View->Prop} {w:cP (T,H,K)} {t e ty:TypeId} {x:Operand} {id off len esz z:Nat} {es:List (List V)} (hu:P.underlying t=some (.slice e)) (he:P.underlying e=some (.int .u8))
  (a:ev T x=.sl id off len esz) (b:len≠0) (hH:H id=.arr z es) (hk:K (.sl id off len esz) H):pA P (.convert t t x) ty T H K w:=by
 intro n _
 have c:j6 P t t=true:=by simp[j6,hu]
 refine⟨.sl id off len esz,.fj id (.arr z es),[id],?_,?_⟩
 .simp only[sI,bZ,oper]
  rw[Va c,a]
  simp[ma,hu,he,hH,b]
 .show K _ (H.set id (.arr z es))
  rw[View.Sz hH];exact hk
theorem Cj {H:View} {n:Nat} (l:List Int) (h:H n=.arr 1 (l.map λx=>[gy x])):dh H (.sl n 0 l.length 1) (yy l) :=
 dh.own (.inr ⟨n,by simp,h⟩) λe he v a=>by
  obtain⟨x,_,rfl⟩:=Vv.1 he
  simp at a;subst a;exact .val _
theorem av.ql {P:Program} {q:Bool} {f:FuncId} {H:View} {vs c:List V} {K:V->View->Prop} {v:cP (H,K)} {t:V} (d:View->Prop) (e:ay P f c t) (a:di P f=true) (g:yh t) (h:lX H vs c) (b:d H) (hk:∀ H,d H->K t H):av P q f vs H K v :=
 av.xY e a g h (hk H b)
theorem Ir {g:ae} (e:nG g=false):g.Small:=by
 simp only[nG,Bool.or_eq_false_iff,WA] at e
 exact⟨by omega⟩
theorem PE (g:ae):ay Tryz.prog 14 [.agg (ag g)] (gb (nG g)):=ay.val (eP g) λH=>(PQ g H).mono λ_ _ h=>h.1
theorem x6 {a b:V} (c:Tree a) (d:Tree b):Tree (.bm [a,b]):=.bm _ λi hi=>by
 match i,hi with
 | 0,_=>exact c
 | 1,_=>exact d
 | n+2,h=>exact absurd h (by simp)
theorem fO {H:View} {id n:Nat} {l:List Int} (a:H id=.arr 1 (bR l)) (b:n=l.length):dh H (.sl id 0 n 1) (encI l):=by
 subst b
 exact dh.own (sz:=1) (.inr ⟨id,by simp,a⟩) λe he v a=>by
  obtain⟨x,_,rfl⟩:=Vv.1 he
  simp at a;subst a;exact .val _
theorem fC.step {H H' H1:View} {u b:V} (h:fC H H' u) (l:Left H' H1 u b):fC H H1 b:=λid a=>by
 have h1:=h id a
 have c:=l id (by rw[h1.1];exact a) h1.2
 exact⟨c.1.trans h1.1,c.2⟩
theorem KE {l:List Int} {k:Nat} (h:k<=l.length):gf 1 (.aS (l.map λx=>[gi x])) (some (gi k)) none=some (.aS ((l.drop k).map λx=>[gi x]),.none,[]):=by
 simp[gf,bound,asNat,h,List.all_map,List.map_drop]
 rw[Vn (by simp)]
theorem ia {P:Program} {t:TypeId} {d:TypeDesc} (hu:P.underlying t=some d) (a:d=.string∨∃ k,d=.int k) (cs:Array Value) (off:Nat) {v:Value} (b:cs[off]?=some v):bq P (part t cs off)=some v:=by
 have c:bq P (isAgg t)=some false:=by
  rcases a with rfl | ⟨k,rfl⟩
  all_goals simp only[isAgg,bh,dG hu,VI];rfl
 simp only[part,bh,c,VI,VE,if_false,b]
 rfl
inductive fK (P:Program) (d:Nat) (xs ys:Array Value):List Field->Bool->Prop
 | nil:fK P d xs ys [] true
 | str (f:Field) (l:List Field) (c:Bool) (a b:ByteArray):(f.name≠ "_")->P.underlying f.type=some .string->xs[f.offset]?=some (.string a)->ys[f.offset]?=some (.string b)->fK P d xs ys l c->fK P d xs ys (f :: l) (a == b && c)
 | int (f:Field) (l:List Field) (c:Bool) (k:IntKind) (a b:Int):(f.name≠ "_")->P.underlying f.type=some (.int k)->xs[f.offset]?=some (.int k a)->ys[f.offset]?=some (.int k b)->fK P d xs ys l c->fK P d xs ys (f :: l) (a == b && c)
theorem fK.forIn {P:Program} {d e:Nat} {xs ys:Array Value} {l:List Field} {c:Bool} (h:fK P d xs ys l c) (n:e=d+1) :
  bq P (forIn l ((none:Option Bool),()) λf _ =>
    if f.name≠ "_" then do
     let a <-part f.type xs f.offset
     let b <-part f.type ys f.offset
     let e <-Op.equalIn e f.type a b
     if (!e)=true then pure (ForInStep.done (some false,())) else pure (ForInStep.yield (none,()))
    else pure (ForInStep.yield (none,())))=some (if c=true then (none,()) else (some false,())):=by
 subst n
 induction h with
 | nil=>rfl
 | str f l c a b g hu i j _ m =>
  have he:bq P (Op.equalIn (d+1) f.type (.string a) (.string b))=some (a == b):=by
   simp only[Op.equalIn,bh,dG hu,VI];rfl
  rw[List.forIn_cons,bh,Va g,bh,ia hu (.inl rfl) xs _ i,VI,bh,ia hu (.inl rfl) ys _ j,VI,bh,he,VI]
  cases a == b with
  | false=>rfl
  | true=>exact m
 | int f l c k a b g hu i j _ m =>
  have he:bq P (Op.equalIn (d+1) f.type (.int k a) (.int k b))=some (a == b):=by
   simp only[Op.equalIn,bh,dG hu,VI];rfl
  rw[List.forIn_cons,bh,Va g,bh,ia hu (.inr ⟨k,rfl⟩) xs _ i,VI,bh,ia hu (.inr ⟨k,rfl⟩) ys _ j,VI,bh,he,VI]
  cases a == b with
  | false=>rfl
  | true=>exact m
theorem rG {P:Program} {t:TypeId} {b:Array Field} {xs ys:Array Value} {c:Bool} (hu:P.underlying t=some (.struct b)) (d:P.stoodInHeld t=false) (h:fK P 9998 xs ys b.toList c) :
  bq P (Op.equal t (.agg xs) (.agg ys))=some c:=by
 rw[kO]
 rw[Op.equalIn,bh,dG hu,VI]
 have a:(bq P program)=some P:=rfl
 rw[bh,a,VI,d]
 simp only[<-Array.forIn_toList,VE,if_false]
 rw[bh,h.forIn (e:=9999) rfl,VI]
 cases c <;> rfl
theorem C5 {P:Program} {o:Oper} {T:Env} {op:BinOp} {t u:TypeId} {x y:Operand} {f:Array Field} {xs ys:Array Value} {c r:Bool} (b:o.op=.binOp op t x y u) (hu:P.underlying t=some (.struct f)) (i:P.stoodInHeld t=false) (g:P.eqGuardType P.depth t=false)
  (d:c7 (ev T x)=some (.agg xs)) (e:c7 (ev T y)=some (.agg ys)) (h:fK P 9998 xs ys f.toList c) (hr:(op=.eql/\r=c)∨(op=.neq/\r = !c)) :
  dy P o T=some (.val (.bool r),.none,[]):=by
 have he:=rG hu i h
 have a:(bq P program)=some P:=rfl
 unfold dy
 simp only[b,Op.operands,d,e]
 rcases hr with ⟨rfl,rfl⟩ | ⟨rfl,rfl⟩
 .simp[execOp,b,d,e,eqGuard,binOp,iM,bh,a,g,he,plain]
  try simp[bq,pure,plain]
 .simp[execOp,b,d,e,eqGuard,binOp,iM,bh,a,g,he,plain]
  try simp[bq,pure,plain,bne]
theorem lM {P:Program} {T:Env} {H:View} {K:V->View->Prop} {w:cP (T,H,K)} {op:BinOp} {t u ty:TypeId} {x y:Operand} {a:Array Field} {xs ys:Array Value} {c r:Bool} (hu:P.underlying t=some (.struct a)) (b:P.stoodInHeld t=false) (d:P.eqGuardType P.depth t=false)
  (e:c7 (ev T x)=some (.agg xs)) (f:c7 (ev T y)=some (.agg ys)) (h:fK P 9998 xs ys a.toList c) (hr:(op=.eql/\r=c)∨(op=.neq/\r = !c)) (hk:K (.val (.bool r)) H):pA P (.binOp op t x y u) ty T H K w:=by
 intro n _
 refine⟨.val (.bool r),.none,[],?_,hk⟩
 have g:jb P t=none:=by simp[jb,hu]
 simp only[sI,bZ,oper,g]
 simp only[Option.isSome_none,VE,if_false]
 exact C5 rfl hu b d e f h hr
def yd (hp:Array Obj) (cs:List Value) (vs:List V):Prop :=
 vs.length=cs.length/\∀ μ i,i < vs.length->ax (λb=>b < hp.size) μ hp (vs.getD i .any) (cs.getD i undef)
def Wt {H:Type} (P:Program) (t:TypeId) (d:DataW H):Prop:=∀ n∈d.weights P t,n<=reachBytes
def x4 (P:Program) (t:TypeId) {α:Type} (f:α->List V) (ok:α->Prop):Prop :=
 ∀ {H:Type} (enc:TypeId × Value->H) (w:World) (base:Nat) (sp:Nat->Bool) (held:Bool) (fuel:Nat) (cs:List Value) (x:DataW H × List MemPlace),
  DataW.trod enc P w base sp held fuel t cs=some x->Wt P t x.1->∃ a,ok a/\yd w.heap cs (f a)
theorem vI {hp:Array Obj} {c:Value} {v:V} (h:∀ μ,ax (λb=>b < hp.size) μ hp v c):yd hp [c] [v]:=by
 refine⟨rfl,λμ i hi=>?_⟩
 match i,hi with
 | 0,_=>exact h μ
theorem Sf {P:Program} {t:TypeId} {k:IntKind} (a:P.underlying t=some (.int k)):x4 P t (λn=>[.val (.int k n)]) (λn=>(Lit.int k n).wf=true):=by
 intro H enc w base sp held fuel cs x h _
 obtain⟨n,rfl,_,hw⟩:=DataW.trod_int a h
 exact⟨n,hw,vI λμ=>.val _ rfl⟩
theorem EE {P:Program} {t:TypeId} (a:P.underlying t=some .string):x4 P t (λs=>[.val (.string s)]) (λ_=>True):=by
 intro H enc w base sp held fuel cs x h _
 obtain⟨s,rfl,_,_⟩:=DataW.trod_string a h
 exact⟨s,trivial,vI λμ=>.val _ rfl⟩
theorem HG {w:World} {base:Nat} {a:Addr} {n:Nat} {cs:List Value} (h:w.cells? base a n=some cs):cs.length=n/\∀ i,i < n->w.cell? (a.add i)=some (cs.getD i undef):=by
 obtain⟨_,b,c⟩:=World.cells?_some h
 refine⟨b,λi hi=>?_⟩
 rw[c i hi,U5,U6 (by omega)]
 rfl
theorem Ou {w:World} {a:Addr} {v:Value} (h:w.cell? a=some v):a.spot=none/\a.block < w.heap.size:=by
 unfold World.cell? at h
 split at h
 .rename_i c _ _ b
  split at h
  .simp at h
  .rename_i d
   exact⟨by simpa using d,(Array.getElem?_eq_some_iff.1 b).1⟩
 .simp at h
theorem NQ {H:Type} {P:Program} {e:TypeId} : ∀ {l:List (DataW H)},(∀ n∈DataW.weightsAll P e l,n<=reachBytes)->∀ d∈l,Wt P e d
 | [],_,d,a=>by simp at a
 | x :: l,h,d,a=>by
  simp only[DataW.weightsAll,VK] at h
  rcases Vq.1 a with rfl | a
  .exact λn b=>h n (.inl b)
  .exact NQ (λn b=>h n (.inr b)) d a
theorem Pp {H:Type} {P:Program} {t e:TypeId} {elems spare:List (DataW H)} (a:P.underlying t=some (.slice e)) (h:Wt P t (.slice elems spare)) :
  (elems.length+spare.length) * P.bytesOf e<=reachBytes/\∀ d∈elems,Wt P e d:=by
 unfold Wt at h
 unfold DataW.weights at h
 rw[a] at h
 simp only[Vq,VK] at h
 exact⟨h _ (.inl rfl),NQ λn b=>h n (.inr (.inl b))⟩
theorem NR {H:Type} {P:Program} {t:TypeId} {a:Array Field} {parts:List (DataW H)} (b:P.underlying t=some (.struct a)) (h:Wt P t (.agg parts)) {j:Nat} {f:Field} {d:DataW H} (c:a[j]?=some f) (e:parts[j]?=some d):Wt P f.type d:=by
 intro n g
 refine h n ?_
 unfold DataW.weights
 rw[b]
 exact DataW.weights_mem_each (j:=j) (t:=f.type) (by simp[c]) e n g
theorem JK {α:Type} {c:Nat->α->Prop} : ∀ (n:Nat),(∀ i,i < n->∃ a,c i a)->∃ l:List α,l.length=n/\∀ i (hi:i < l.length),c i l[i]
 | 0,_=>⟨[],rfl,λi hi=>by simp at hi⟩
 | n+1,h=>by
  obtain⟨l,d,b⟩:=JK n λi hi=>h i (by omega)
  obtain⟨a,f⟩:=h n (by omega)
  refine⟨l ++ [a],by simp[d],λi hi=>?_⟩
  by_cases e:i < l.length
  .rw[List.getElem_append_left e];exact b i e
  .have:i=n:=by simp at hi;omega
   subst this
   rw[List.getElem_append_right (by omega)]
   simp only[d,Nat.sub_self,VJ];exact f
theorem wa {P:Program} {t e:TypeId} {α:Type} {f:α->List V} {ok:α->Prop} (J:P.underlying t=some (.slice e)) (M:0 < P.cellsOf e) (N:0 < P.bytesOf e) (he:x4 P e f ok) :
  x4 P t (λl:List α=>[.aS (l.map f)]) (λl=>l.length < 4611686018427387904/\∀ a∈l,ok a):=by
 intro H enc w base sp held fuel cs x h hw
 rcases DataW.trod_slice J h with ⟨rfl,rfl⟩ | ⟨a,len,cap,elems,rest,n,_,rfl,rfl,O,Q,hm,hlen,A,_,_⟩
 .exact⟨[],⟨by simp,by simp⟩,vI λμ=>.hU none 0 (by simp)⟩
 obtain⟨r,B⟩:=Pp J hw
 simp only[Vl] at r
 have C:len < 4611686018427387904:=by
  have h1:len * 1<=(elems.length+rest.length) * P.bytesOf e:=Nat.mul_le_mul (by omega) N
  unfold reachBytes at r
  omega
 have each:∀ i,i < len->∃ y,ok y/\∃ ci,w.cells? base (a.add (i * P.cellsOf e)) (P.cellsOf e)=some ci/\yd w.heap ci (f y):=by
  intro i hi
  have h1:=A i hi
  have k:elems[i]?=some (elems[i]'(by omega)):=U6 (by omega)
  have s:elems[i]'(by omega)∈elems:=Vg _
  rw[k,Option.bind_eq_some_iff] at h1
  obtain⟨ci,D,E⟩:=h1
  obtain⟨y,z,m⟩:=he enc w base sp held n ci _ E (B _ (Vv.2 ⟨_,s,rfl⟩))
  exact⟨y,z,ci,D,m⟩
 obtain⟨l,F,p⟩:=JK len each
 subst F
 refine⟨l,⟨C,λy R=>?_⟩,vI λμ=>?_⟩
 .obtain⟨i,hi,rfl⟩:=Wi R
  exact(p i hi).1
 by_cases K:l=[]
 .subst K
  exact .hU (some a) cap (by simp)
 have o:0 < l.length:=WR.2 K
 have d:∀ i j,i < l.length->j < P.cellsOf e->∃ c,cellAt w.heap a.block (a.off+i * P.cellsOf e+j)=some c/\a.block < w.heap.size/\(i=0->j=0->a.spot=none)/\∀ (hi:i < l.length),ax (λb=>b < w.heap.size) μ w.heap ((f l[i]).getD j .any) c:=by
  intro i j hi q
  obtain⟨_,ci,h1,k⟩:=p i hi
  obtain⟨D,E⟩:=HG h1
  have z:=E j q
  have m:=Ou z
  have u:((a.add (i * P.cellsOf e)).add j).block=a.block:=by simp only[Addr.add];split <;> split <;> rfl
  have G:((a.add (i * P.cellsOf e)).add j).off=a.off+i * P.cellsOf e+j:=by
   simp only[Addr.add];split <;> split <;> simp_all
  refine⟨ci.getD j undef,?_,by rw[<-u];exact m.2,?_,λ_=>?_⟩
  .rw[<-G,<-u,<-ry]
   rw[<-z]
   congr 1
   generalize (a.add (i * P.cellsOf e)).add j=b at m
   cases b
   simp at m ⊢
   exact m.1.symm
  .rintro rfl rfl
   simp[Addr.add] at m
   exact m.1
  .exact k.2 μ j (by rw[k.1,D];exact q)
 obtain⟨_,_,S,L,_⟩:=d 0 0 o M
 have T:a=⟨a.block,a.off,none⟩:=by
  cases a;simp at L ⊢;exact L
 have I:∀ i,i < l.length->(f (l[i]?.getD (l[0]'o))).length=P.cellsOf e:=λi hi=>by
  obtain⟨_,ci,h1,k⟩:=p i hi
  rw[U6 hi,Vo,k.1,(HG h1).1]
 have v:∀ i (hi:i < l.length),(l.map f).getD i []=f l[i]:=λi hi=>by simp[U5,hi]
 have g:(l.map f).length=l.length:=by simp
 have:=ax.aS (Z:=λb=>b < w.heap.size) (μ:=μ) (hp:=w.heap) (l.map f) a.block a.off (P.cellsOf e) cap (λi j=>(cellAt w.heap a.block (a.off+i * P.cellsOf e+j)).getD undef) S (by rw[g];exact Q)
  (λi hi=>by
   rw[g] at hi
   have:=I i hi
   rw[U6 hi,Vo] at this
   rw[v i hi];exact this)
  (λi j hi q=>by
   rw[g] at hi
   obtain⟨c,h1,_⟩:=d i j hi q
   rw[h1];rfl)
  (λi j hi q=>by
   rw[g] at hi
   obtain⟨c,h1,_,_,k⟩:=d i j hi q
   rw[h1,v i hi];exact k hi)
 rw[g,<-T] at this
 exact this
theorem yi {P:Program} {t:TypeId} {b:Array Field} (d:P.underlying t=some (.struct b)) (j:∀ (i:Nat) (f:Field),b[i]?=some f->f.offset=i/\P.cellsOf f.type=1) (k:P.cellsOf t=b.size)
  {H:Type} {enc:TypeId × Value->H} {w:World} {base:Nat} {sp:Nat->Bool} {held:Bool} {fuel:Nat} {cs:List Value} {x:DataW H × List MemPlace} (h:DataW.trod enc P w base sp held fuel t cs=some x) (hw:Wt P t x.1) :
  cs.length=b.size/\∀ (i:Nat) (f:Field),b[i]?=some f->∀ {α:Type} {g:α->List V} {ok:α->Prop},x4 P f.type g ok->∃ a,ok a/\yd w.heap [cs.getD i undef] (g a):=by
 obtain⟨xs,n,rfl,rfl,l,hlen,m⟩:=DataW.trod_struct d h
 refine⟨by rw[l,k],λi f hi α g ok hr=>?_⟩
 obtain⟨h1,o⟩:=j i f hi
 have p:i < b.size:=(Array.getElem?_eq_some_iff.1 hi).1
 have c:=m i f hi
 have e:xs[i]?=some (xs[i]'(by omega)):=U6 (by omega)
 rw[e,h1,o] at c
 have q:(cs.drop i).take 1=[cs.getD i undef]:=by
  rw[U5,U6 (by omega),VL (by omega)]
  rfl
 rw[q] at c
 exact hr enc w base sp held n _ _ c (NR d hw hi (by simp[e]))
theorem gS {hp:Array Obj} {c:Value} {cs:List Value} {v:V} {vs:List V} (h:yd hp [c] [v]) (k:yd hp cs vs):yd hp (c :: cs) (v :: vs):=by
 refine⟨by simp[k.1],λμ i hi=>?_⟩
 cases i with
 | zero=>exact h.2 μ 0 (by simp)
 | succ i=>exact k.2 μ i (by simpa using hi)
theorem z7 {hp:Array Obj} : yd hp [] []:=⟨rfl,λμ i hi=>by simp at hi⟩
theorem Rc {n:Int} (h:(Lit.int .i64 n).wf=true):bD n:=by
 simp only[Lit.wf,Vd,Vj] at h
 exact h
theorem px:x4 Tryz.prog 3 (λn=>[gi n]) bD:=λenc w base sp held fuel cs x h hw=>by
 obtain⟨n,h1,a⟩:=Sf Tryz.underlying3 enc w base sp held fuel cs x h hw
 exact⟨n,Rc h1,a⟩
theorem JL:x4 Tryz.prog 27 (λl:List Int=>[encI l]) (λl=>aH l/\∀ x∈l,bD x) :=
 wa Tryz.underlying27 (WO (by kernel_rfl)) (WO (by kernel_rfl)) px
theorem Lb:x4 Tryz.prog 23 (λl:List ByteArray=>[encS l]) (λl=>aH l/\∀ x∈l,True) :=
 wa Tryz.underlying23 (WO (by kernel_rfl)) (WO (by kernel_rfl)) (EE Tryz.underlying9)
theorem TR {cs:List Value} (h:cs.length=3):cs=[cs.getD 0 undef,cs.getD 1 undef,cs.getD 2 undef]:=by
 match cs,h with
 | [a,b,c],_=>rfl
theorem UR {cs:List Value} (h:cs.length=4):cs=[cs.getD 0 undef,cs.getD 1 undef,cs.getD 2 undef,cs.getD 3 undef]:=by
 match cs,h with
 | [a,b,c,d],_=>rfl
theorem Rh:x4 Tryz.prog 130 cO (λt=>bD t.level/\bD t.assoc):=λenc w base sp held fuel cs x h hw=>by
 obtain⟨e,d⟩:=yi Tryz.underlying130 (by
  intro i f hi
  match i,hi with
  | 0,hi=>simp at hi;subst hi;exact⟨rfl,by kernel_rfl⟩
  | 1,hi=>simp at hi;subst hi;exact⟨rfl,by kernel_rfl⟩
  | 2,hi=>simp at hi;subst hi;exact⟨rfl,by kernel_rfl⟩
  | n+3,hi=>simp at hi) (by kernel_rfl) h hw
 obtain⟨a,_,h1⟩:=d 0 _ rfl (EE Tryz.underlying9)
 obtain⟨b,g,j⟩:=d 1 _ rfl px
 obtain⟨c,k,l⟩:=d 2 _ rfl px
 refine⟨⟨a,b,c⟩,⟨g,k⟩,?_⟩
 rw[TR e]
 exact gS h1 (gS j (gS l z7))
theorem Sa:x4 Tryz.prog 92 aW (λr=>bD r.left/\bD r.prec/\aH r.right/\∀ x∈r.right,bD x):=λenc w base sp held fuel cs x h hw=>by
 obtain⟨g,d⟩:=yi Tryz.underlying92 (by
  intro i f hi
  match i,hi with
  | 0,hi=>simp at hi;subst hi;exact⟨rfl,by kernel_rfl⟩
  | 1,hi=>simp at hi;subst hi;exact⟨rfl,by kernel_rfl⟩
  | 2,hi=>simp at hi;subst hi;exact⟨rfl,by kernel_rfl⟩
  | n+3,hi=>simp at hi) (by kernel_rfl) h hw
 obtain⟨a,j,h1⟩:=d 0 _ rfl px
 obtain⟨b,e,k⟩:=d 1 _ rfl JL
 obtain⟨c,l,m⟩:=d 2 _ rfl px
 refine⟨⟨a,b,c⟩,⟨j,l,e.1,e.2⟩,?_⟩
 rw[TR g]
 exact gS h1 (gS k (gS m z7))
theorem R8:x4 Tryz.prog 26 ag ae.Ok:=λenc w base sp held fuel cs x h hw=>by
 obtain⟨k,e⟩:=yi Tryz.underlying26 (by
  intro i f hi
  match i,hi with
  | 0,hi=>simp at hi;subst hi;exact⟨rfl,by kernel_rfl⟩
  | 1,hi=>simp at hi;subst hi;exact⟨rfl,by kernel_rfl⟩
  | 2,hi=>simp at hi;subst hi;exact⟨rfl,by kernel_rfl⟩
  | 3,hi=>simp at hi;subst hi;exact⟨rfl,by kernel_rfl⟩
  | n+4,hi=>simp at hi) (by kernel_rfl) h hw
 obtain⟨a,g,h1⟩:=e 0 _ rfl (wa Tryz.underlying22 (WO (by kernel_rfl)) (WO (by kernel_rfl)) Rh)
 obtain⟨b,l,m⟩:=e 1 _ rfl Lb
 obtain⟨c,j,o⟩:=e 2 _ rfl (wa Tryz.underlying24 (WO (by kernel_rfl)) (WO (by kernel_rfl)) Sa)
 obtain⟨d,p,q⟩:=e 3 _ rfl px
 refine⟨⟨a,b,c,d⟩,⟨g.1,l.1,j.1,p,g.2,j.2⟩,?_⟩
 rw[UR k]
 exact gS h1 (gS m (gS o (gS q z7)))
end Gv
