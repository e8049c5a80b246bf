/-
  Part 13 of the proof: what the machine does and what the functions answer.
  Conditions: those that each lemma names.
-/
import Derived.Test.YtihmlbdfcmfbdaaGreatSGzB5L
set_option linter.unusedSimpArgs false
set_option linter.unusedVariables false
set_option maxRecDepth 100000
set_option maxHeartbeats 20000000
namespace Gv
open Go Go.Proofs
def tf:SC :=
 ae [ae [ab [aa 11 7,aa 12 1,aM 13 12,aQ 14 .lss 11 13],bS 14 (.exit 0)],.block 1 (ae [ab [aY 17 4 3,aa 18 1,aa 19 7,aI 20 1 18 19,aj 21 20,bm 22 155 [17,21],c4 23 22],bf 23 (ae [ab [((some 6),.op (.eF (.val (.val (.int .u32 0)))))],.ret])]),ab [aa 15 7,aF 16 .add 15 1,aa 7 16]]
def vJ:SF:=⟨ae [ab [cy 3 0,((some 6),.op (.eF (.val (.val (.int .u32 0)))))],ae [ab [aY 8 4 3,bm 9 54 [8],c4 10 9],bf 10 (ae [ab [((some 6),.op (.eF (.val (.val (.int .u32 0)))))],.ret])],ae [ab [aT 7 0],bX 0 tf],.region true [⟨none,[aa 24 1,aY 25 4 3,bm 26 81 [25],aY 27 4 3,bm 28 82 [27],aa 29 2,bm 30 83 [24,26,28,29],aa 6 30]⟩],.ret],
 [.tmp 6],31⟩
theorem AJ:aO Tryz.prog 123 [3]=some vJ:=by kernel_rfl
def tL:SF:=⟨ae [ab [cy 2 0,cy 3 1,bw 4 false],.region true [⟨none,[aY 5 4 2,bm 6 54 [5],aa 7 6]⟩,⟨(some (7,true)),[ao 8 0 3,aj 9 8,aF 10 .geq 9 (-1)]⟩,⟨none,[eC 11 7 10,aa 12 11]⟩,⟨(some (12,true)),[ao 13 0 3,aj 14 13,ao 15 2 2,aj 16 15,aM 17 16,aQ 18 .lss 14 17]⟩,⟨none,[eC 19 12 18,aa 20 19]⟩,⟨(some (20,true)),[ao 21 1 3,aj 22 21,aF 23 .geq 22 0]⟩,⟨none,[eC 24 20 23,aa 25 24]⟩,⟨(some (25,true)),[ao 26 1 3,aj 27 26,aY 28 4 2,ao 29 0 3,aj 30 29,bm 31 55 [28,30],aM 32 31,aQ 33 .leq 27 32]⟩,⟨none,[eC 34 25 33,aa 4 34]⟩],.ret],
 [.tmp 4],35⟩
theorem Ac:aO Tryz.prog 20 [2,3]=some tL:=by kernel_rfl
def sD:SF:=⟨ae [ab [cy 2 0,cy 3 1,aT 4 0,bw 5 false],ae [ab [aY 6 4 2,aY 7 2 3,bm 8 20 [6,7],c4 9 8],bf 9 (ae [ab [aT 4 0,bw 5 false],.ret])],ab [aY 10 4 2,aY 11 2 3,bm 12 51 [10,11],eP 13 0 12,eP 14 1 12,aa 4 13,aa 5 14],.ret],
 [.tmp 4,.tmp 5],15⟩
theorem x8:aO Tryz.prog 18 [2,3]=some sD:=by kernel_rfl
def nK:SC :=
 ae [ae [ab [aa 7 6,aa 8 1,aM 9 8,aQ 10 .lss 7 9],bS 10 (.exit 0)],.block 1 (ae [ab [aY 13 4 2,aa 14 1,aa 15 6,aI 16 2 14 15,aY 17 2 16,bm 18 20 [13,17]],bf 18 (ab [aa 19 5,aa 20 1,aa 21 6,aI 22 2 20 21,aY 23 2 22,((some 24),.op (.bW 1 2 [(.val (.int .i64 0)),(.val (.int .i64 0))] [(0,(.tmp 23))])),gx 25 2 16 19 24,aa 5 25])]),ab [aa 11 6,aF 12 .add 11 1,aa 6 12]]
def oZ:SF:=⟨ae [ab [cy 2 0,cT 4 1],ab [cT 5 1],ae [ab [aT 6 0],bX 0 nK],ae [ab [aa 26 5,aM 27 26,aF 28 .eql 27 0],bf 28 (ae [ab [cT 4 1],.ret])],ab [aY 29 4 2,aa 30 5,bm 31 60 [29,30],aa 4 31],.ret],
 [.tmp 4],32⟩
theorem vx:aO Tryz.prog 23 [2]=some oZ:=by kernel_rfl
def kR:SC :=
 ae [ae [.region false [⟨none,[aa 26 11,aa 27 0,aa 28 1,aI 29 2 27 28,ao 30 1 29,aj 31 30,aM 32 31,aQ 33 .lss 26 32,aa 34 33]⟩,⟨(some (34,true)),[aa 35 10,c4 36 35]⟩,⟨none,[eC 37 34 36]⟩],bS 37 (.exit 2)],.block 3 (ae [ab [aa 40 0,aa 41 1,aI 42 2 40 41,ao 43 1 42,aj 44 43,aa 45 11,aI 46 2 44 45,ao 47 0 46,aj 48 47,aa 49 2,aa 50 8,aI 51 1 49 50,aj 52 51,aQ 53 .eql 48 52],bf 53 (ab [aa 54 0,aa 55 1,aI 56 2 54 55,ao 57 1 56,aj 58 57,aa 59 11,aI 60 2 58 59,ao 61 1 60,aj 62 61,aa 9 62,bw 10 true])]),ab [aa 38 11,aF 39 .add 38 1,aa 11 39]]
def qy:SC :=
 ae [ae [ab [aa 20 8,aa 21 2,aM 22 21,aQ 23 .lss 20 22],bS 23 (.exit 0)],.block 1 (ae [ab [aT 9 (-1),bw 10 false],ae [ab [aT 11 0],bX 2 kR],ae [.region false [⟨none,[aa 63 9,aF 64 .lss 63 0,aa 65 64]⟩,⟨(some (65,false)),[aa 66 9,aa 67 0,aM 68 67,aQ 69 .geq 66 68]⟩,⟨none,[cF 70 65 69]⟩],bf 70 (ae [ab [aT 6 0,bw 7 false],.ret])],ab [aa 71 9,aa 1 71]]),ab [aa 24 8,aF 25 .add 24 1,aa 8 25]]
def sP:SF:=⟨ae [ab [aT 6 0,bw 7 false],ae [.region false [⟨none,[aa 12 1,aF 13 .lss 12 0,aa 14 13]⟩,⟨(some (14,false)),[aa 15 1,aa 16 0,aM 17 16,aQ 18 .geq 15 17]⟩,⟨none,[cF 19 14 18]⟩],bf 19 (ae [ab [aT 6 0,bw 7 false],.ret])],ae [ab [aT 8 0],bX 0 qy],ab [aa 72 1,aa 6 72,bw 7 true],.ret],
 [.tmp 6,.tmp 7],73⟩
theorem xI:aO Tryz.prog 29 []=some sP:=by kernel_rfl
def Oz (g:ai) (syms:List Int) (rest:BV):BV:=if bC g=true/\∀ s∈syms,fP g s=true then ed (au g false) (cZ g (au g false)) rest syms else 0
theorem XE (g:ai) (f:g.Ok) (syms:List Int) (rest:BV) (hs:aK syms) (p:∀ s∈syms,b6 s):az Tryz.prog 123 [.agg (ag g),encI syms,gw rest] (gw (Oz g syms rest)):=by
 have j:=hs
 unfold aK at j
 refine az.val (by
  intro v q;simp at q
  rcases q with rfl | rfl | rfl
  .exact cn _ (dq g)
  .exact fa _
  .exact .val _) λH=>?_
 have c:=kT g f
 have d:=Ag g f
 have b:=(PC g f).pure
 have hH:=λs h=>Sw g s (p s h)
 refine av.of mixed AJ ?_
 simp only[ag,encS] at c d b hH
 simp(disch:=omega)only[↓wr,seval,wq,vJ,ag,encS,encI]
 refine ay.pure c ?_
 simp(disch:=omega)only[↓wr,seval,wq]
 apply ah.split<;>intro hr
 rotate_left
 .simp(disch:=omega)only[↓wr,seval,wq]
  rw[Oz,aat (by rw[hr];simp)];rfl
 have u:=bu hr
 have l:=fZ hr false
 have m:=FR g (au g false)
 rw[KX,aaw hr] at b
 simp(disch:=omega)only[↓wr,seval,wq,ag,encS,encI]
 refine aS.up syms.length (λi T H'=>(∀ s∈syms.take i,fP g s=true)/\T 1=encI syms/\T 2=gw rest/\T 3=.aH (ag g) 0/\T 7=gi i) ⟨by simp,rfl,rfl,rfl,rfl⟩ ?_
 rintro i k T H' hk ⟨a,t1,t2,t3,t7⟩
 simp(disch:=omega)only[↓wr,seval,wq,tf,t1,t2,t3,t7,encI]
 apply ah.dec<;>intro t
 .have n:syms[i]?=some (syms[i]'(by omega)):=aar (by omega)
  have hm:=aaC (show i < syms.length by omega)
  have e:syms.take (i+1)=syms.take i ++ [syms[i]'(by omega)]:=by rw[aaQ,n];rfl
  generalize syms[i]'(by omega)=x at n hm e
  simp(disch:=omega)only[↓wr,seval,wq,t1,t2,t3,t7,ag,encS,encI,aav,n,aaz]
  refine ay.pure (hH x hm) ?_
  simp(disch:=omega)only[↓wr,seval,wq]
  apply ah.split<;>intro he
  .simp(disch:=omega)only[↓wr,seval,wq,t1,t2,t3,t7]
   refine aC hk (by omega) ⟨λs hs=>?_,t1,t2,t3,rfl⟩
   rw[e] at hs
   rcases aaZ.1 hs with hs | hs
   .exact a s hs
   .simp at hs;subst hs;exact he
  .simp(disch:=omega)only[↓wr,seval,wq]
   rw[Oz,aat (λh=>by have:=h.2 x hm;rw[he] at this;simp at this)];rfl
 .rw[aaJ (by omega)] at a
  have o:=MZ syms (au g false) (cZ g (au g false)) rest hs λs h=>⟨p s h,λr=>by
   have:=a s h
   unfold fP at this
   rw[aat (by omega)] at this
   simp at this
   omega⟩
  simp(disch:=omega)only[↓wr,seval,wq,t1,t2,t3,ag,encS]
  refine ay.pure d ?_
  simp(disch:=omega)only[↓wr,seval,wq,t1,t2,t3,ag,encS]
  refine ay.pure b ?_
  simp(disch:=omega)only[↓wr,seval,wq,t1,t2,t3,ag,encS]
  refine ay.pure o ?_
  simp(disch:=omega)only[↓wr,seval,wq]
  rw[Oz,aaw ⟨hr,a⟩]
instance (g:ai) (x:aA):Decidable (cG g x):=by unfold cG;infer_instance
def je (g:ai) (x:aA):Bool:=bC g && decide (cG g x)
theorem Oe (g:ai) (x:aA):∀ v∈[V.agg (ag g),.agg (bF x)],Tree v:=by
 intro v a;simp at a
 rcases a with rfl | rfl
 .exact cn _ (dq g)
 .exact cn _ λv a=>by simp[bF] at a;rcases a with rfl | rfl <;> exact .val _
theorem K2 (g:ai) (f:g.Ok) (x:aA) (i:b6 x.ax/\b6 x.dot):az Tryz.prog 20 [.agg (ag g),.agg (bF x)] (gb (je g x)):=by
 refine az.val (Oe g x) λH=>?_
 have a:=kT g f
 obtain⟨c,d⟩:=i
 unfold b6 at c d
 refine av.of mixed Ac ?_
 simp only[ag,encS] at a
 simp(disch:=omega)only[↓wr,seval,wq,tL,ag,encS,bF]
 refine ay.pure a ?_
 have bad:¬ cG g x->gb false=gb (je g x):=λh=>by unfold je;rw[decide_eq_false h,Bool.and_false]
 simp(disch:=omega)only[↓wr,seval,wq]
 apply ah.split<;>intro hr
 rotate_left
 .simp(disch:=omega)only[↓wr,seval,wq]
  unfold je;rw[hr];rfl
 have e:=bu hr
 simp(disch:=omega)only[↓wr,seval,wq,bF]
 apply ah.dec<;>intro h1
 rotate_left
 .simp(disch:=omega)only[↓wr,seval,wq]
  exact bad λh=>by have:=h.1;omega
 simp(disch:=omega)only[↓wr,seval,wq,bF,ag]
 apply ah.dec<;>intro j
 rotate_left
 .simp(disch:=omega)only[↓wr,seval,wq]
  exact bad λh=>by have:=h.1;omega
 simp(disch:=omega)only[↓wr,seval,wq,bF]
 apply ah.dec<;>intro k
 rotate_left
 .simp(disch:=omega)only[↓wr,seval,wq]
  exact bad λh=>by have:=h.2;omega
 have b:=E0 g (uj e) x.ax ⟨by omega,by omega⟩
 have l:=fy e (r:=x.ax) ⟨by omega,by omega⟩
 simp only[ag,encS,encI] at b
 simp(disch:=omega)only[↓wr,seval,wq,bF,ag,encS]
 refine ay.pure b ?_
 simp(disch:=omega)only[↓wr,seval,wq,bF]
 congr 2
 unfold je
 rw[hr,abE]
 congr 1
 unfold cG
 simp only[eq_iff_iff]
 omega
def FQ (g:ai) (x:aA):Int × Bool:=if je g x=true then bp g x else (0,false)
theorem qw {g:ai} {x:aA} : je g x=true↔bC g=true/\cG g x:=by simp[je]
theorem Hj (g:ai) (c:g.Ok) (x:aA) (d:b6 x.ax/\b6 x.dot):az Tryz.prog 18 [.agg (ag g),.agg (bF x)] (.bD [gi (FQ g x).1,gb (FQ g x).2]):=by
 have a:=K2 g c x d
 refine az.tree (Oe g x) (Ch (.val _) (.val _)) λH=>?_
 refine av.of mixed x8 ?_
 simp only[ag,encS,bF] at a
 simp(disch:=omega)only[↓wr,seval,wq,sD,ag,encS,bF]
 refine ay.pure a ?_
 unfold FQ
 simp(disch:=omega)only[↓wr,seval,wq]
 apply ah.split<;>intro h
 .obtain⟨h1,e⟩:=qw.1 h
  have b:=DB g (bu h1) x e
  simp only[ag,encS,bF] at b
  simp(disch:=omega)only[↓wr,seval,wq,ag,encS,bF]
  refine ay.pure b ?_
  simp(disch:=omega)only[↓wr,seval,wq]
  rw[aaw h]
 .simp(disch:=omega)only[↓wr,seval,wq]
  rw[h];simp
theorem QY (g:ai):cL g []=[]:=by
 have:∀ x,¬ oW g [] x:=λx h=>by
  induction h with
  | base h=>simp at h
  | step _ _ _ _ _ a=>exact a
 unfold cL
 rw[List.filter_eq_nil_iff.2 λx _=>by simp[this x]]
 rfl
theorem YD {h:aG} {u:V} {l:List aA} (b:ba h.view u 2 (aV l)):dB h u (.aE (aV l)):=by
 refine dB.own b rfl (λi _=>rfl) (λi j hi a=>?_)
 rw[bI] at hi
 have e:(aV l).getD i []=bF l[i]:=by simp[aV,aaq,hi]
 rw[e] at a ⊢
 match j,a with
 | 0,_=>exact .val _
 | 1,_=>exact .val _
theorem wH {α:Type} {l:List α} {p:α->Bool} {i:Nat} {x:α} (h:l[i]?=some x):(l.take (i+1)).filter p=if p x=true then (l.take i).filter p ++ [x] else (l.take i).filter p:=by
 rw[aaQ,h,abN]
 split
 .rename_i hp;simp[hp]
 .rename_i hp;simp[hp]
theorem JT (g:ai) (o:g.Ok) (l:List aA) (hl:l.length<=10000) (s:∀ x∈l,b6 x.ax/\b6 x.dot):cW Tryz.prog 23 [.agg (ag g),.aE (aV l)] (.aE (aV (cL g (l.filter (je g))))):=by
 refine cW.of (by
  intro v j;simp at j
  rcases j with rfl | rfl
  .exact cn _ (dq g)
  .exact uG _) ?_
 refine av.of mixed vx ?_
 simp(disch:=omega)only[↓wr,seval,wq,oZ,ag,encS,aV]
 refine aS.up l.length (λi T H'=>∃ r:V,ba H' r 2 (aV ((l.take i).filter (je g)))/\T 1=.aE (aV l)/\T 2=.aH (ag g) 0/\T 5=r/\T 6=gi i) ⟨.emp 1,.nil,rfl,rfl,rfl,rfl⟩ ?_
 rintro i k T H' hk ⟨r,d,t1,t2,t5,t6⟩
 simp(disch:=omega)only[↓wr,seval,wq,nK,t1,t2,t5,t6,aV]
 apply ah.dec<;>intro t
 .have b:l[i]?=some (l[i]'(by omega)):=aar (by omega)
  have hm:=s _ (aaC (show i < l.length by omega))
  generalize l[i]'(by omega)=x at b hm
  have m:=K2 g o x hm
  have a:=wH (p:=je g) b
  have e:=abh (je g) (l.take i)
  rw[abc] at e
  simp only[ag,encS,bF] at m
  simp(disch:=omega)only[↓wr,seval,wq,t1,t2,t5,t6,ag,encS,aV,aav,b,aaz,bF]
  refine ay.pure m ?_
  simp(disch:=omega)only[↓wr,seval,wq,t1,t2,t5,t6]
  apply ah.split<;>intro he
  .simp(disch:=omega)only[↓wr,seval,wq,t1,t2,t5,t6,aV,aav,b,aaz,bF]
   intro q hq
   simp(disch:=omega)only[↓wr,seval,wq,bM]
   refine gO (d.fresh hq) (by simp[aR]) (by unfold aD;rw[bI];simp;omega) (by unfold aD;rw[bI];simp;omega) ?_
   intro n u f _
   simp(disch:=omega)only[↓wr,seval,wq,t1,t2,t5,t6]
   rw[aaw he] at a
   exact aC hk (by omega) ⟨n,by rw[a];simpa [aV,bF] using f,t1,t2,rfl,rfl⟩
  .simp(disch:=omega)only[↓wr,seval,wq,t1,t2,t5,t6]
   rw[aat (by rw[he];simp)] at a
   exact aC hk (by omega) ⟨r,by rw[a];exact d,t1,t2,t5,rfl⟩
 .rw[aaJ (by omega)] at d
  have e:=abh (je g) l
  have h:cU r=some (l.filter (je g)).length:=by rw[d.len,bI]
  have c:∀ x∈l.filter (je g),bC g=true/\cG g x:=λx b=>qw.1 (abj.1 b).2
  generalize l.filter (je g)=l' at *
  simp(disch:=omega)only[↓wr,seval,wq,t1,t2,t5,t6,h]
  apply ah.eq<;>intro he
  .have:l'=[]:=abQ.1 (by omega)
   subst this
   simp(disch:=omega)only[↓wr,seval,wq]
   intro w _
   rw[QY]
   exact .emp _
  .cases l' with
   | nil=>exact absurd rfl he
   | cons y l' =>
   have z:=bu (c y (by simp)).1
   simp(disch:=omega)only[↓wr,seval,wq,t1,t2,t5,ag,encS]
   refine ay.dr ((Cp g z (y :: l') (λx b=>(c x b).2) (by omega) r H' d).mono ?_)
   rintro n u ⟨f,_⟩
   simp(disch:=omega)only[↓wr,seval,wq]
   rintro w rfl
   exact YD f
theorem P9:∀ (l:List cr) (s:Int) (k:Nat) (e:cr),l[k]?=some e->dz (l.drop k) s=if e.sym=s then e.to else dz (l.drop (k+1)) s:=by
 intro l s k e h
 obtain⟨hk,he⟩:=aaG.1 h
 rw[abg hk,he,dz]
theorem HP (a:List aL) (t:aK a) (he:∀ s∈a,aK s.aJ/\∀ e∈s.aJ,b6 e.sym/\b6 e.to) (fr:Int) (syms:List Int) (hs:aK syms):az Tryz.prog 29 [aW a,gi fr,encI syms] (.bD [gi (ef a fr syms).1,gb (ef a fr syms).2]):=by
 unfold aK at t hs
 refine az.tree (by
  intro v p;simp at p
  rcases p with rfl | rfl | rfl
  .exact lH _
  .exact .val _
  .exact fa _) (Ch (.val _) (.val _)) λH=>?_
 refine av.of mixed xI ?_
 unfold ef
 simp(disch:=omega)only[↓wr,seval,wq,sP,aW,encI]
 apply ah.dec<;>intro h1
 .simp(disch:=omega)only[↓wr,seval,wq]
  rw[aaw (by omega)]
 simp(disch:=omega)only[↓wr,seval,wq,aW]
 apply ah.dec<;>intro u
 .simp(disch:=omega)only[↓wr,seval,wq]
  rw[aaw (by omega)]
 rw[aat (by omega)]
 simp(disch:=omega)only[↓wr,seval,wq]
 refine aS.up syms.length (λi T H'=>∃ at_:Int,0<=at_/\at_ < a.length/\eS a at_ (syms.drop i)=eS a fr syms/\T 0=aW a/\T 1=gi at_/\T 2=encI syms/\T 8=gi i) ⟨fr,by omega,by omega,rfl,rfl,rfl,rfl,rfl⟩ ?_
 rintro i k T H' hk ⟨at_,A,B,hw,t0,t1,t2,t8⟩
 simp(disch:=omega)only[↓wr,seval,wq,qy,t0,t1,t2,t8,encI]
 apply ah.dec<;>intro w
 .have q:syms[i]?=some (syms[i]'(by omega)):=aar (by omega)
  rw[abg (show i < syms.length by omega)] at hw
  generalize syms[i]'(by omega)=x at q hw
  have d:a[at_.toNat]?=some (a.getD at_.toNat aN):=getD_some (by omega)
  obtain⟨f,h⟩:=he _ (aax d)
  rw[eS] at hw
  generalize a.getD at_.toNat aN=S at d f h hw
  unfold aK at f
  simp(disch:=omega)only[↓wr,seval,wq,t0,t1,t2,t8]
  refine aS.up S.aJ.length (λj T H'=>∃ (to:Int) (ok:Bool),(ok=true->to=dz S.aJ x)/\(ok=false->to = -1/\dz (S.aJ.drop j) x=dz S.aJ x)/\T 0=aW a/\T 1=gi at_/\T 2=encI syms/\T 8=gi i/\T 9=gi to/\T 10=gb ok/\T 11=gi j)
   ⟨-1,false,by simp,λ_=>⟨rfl,rfl⟩,t0,t1,t2,t8,rfl,rfl,rfl⟩ ?_
  clear t0 t1 t2 t8
  rintro j k2 C D g ⟨to,ok,y,z,t0,t1,t2,t8,t9,t10,t11⟩
  cases ok with
  | true =>
   have b:=y rfl
   simp(disch:=omega)only[↓wr,seval,wq,kR,t0,t1,t2,t8,t9,t10,t11,aW,aav,d,aaz,eu,fN]
   apply ah.dec<;>intro _
   all_goals (
    simp(disch:=omega)only[↓wr,seval,wq,t0,t1,t2,t8,t9,t10,t11,aW,b]
    apply ah.dec<;>intro l
    .simp(disch:=omega)only[↓wr,seval,wq]
     rw[<-hw,aat (by omega)]
    .simp(disch:=omega)only[↓wr,seval,wq,t0,t1,t2,t8,t9,aW,b]
     apply ah.dec<;>intro m
     .simp(disch:=omega)only[↓wr,seval,wq]
      rw[<-hw,aat (by omega)]
     .simp(disch:=omega)only[↓wr,seval,wq,t0,t1,t2,t8,t9,b]
      rw[aaw ⟨by omega,by omega⟩] at hw
      exact aC hk (by omega) ⟨_,by omega,by omega,hw,t0,rfl,t2,rfl⟩)
  | false =>
   obtain⟨r,c⟩:=z rfl
   simp(disch:=omega)only[↓wr,seval,wq,kR,t0,t1,t2,t8,t9,t10,t11,aW,aav,d,aaz,eu,fN]
   apply ah.dec<;>intro n
   .have hE:S.aJ[j]?=some (S.aJ[j]'(by omega)):=aar (by omega)
    generalize S.aJ[j]'(by omega)=E at hE
    rw[P9 _ _ _ _ hE] at c
    simp(disch:=omega)only[↓wr,seval,wq,t0,t1,t2,t8,t9,t10,t11,aW,encI,aav,d,q,aaz,eu,fN,hE,kc]
    apply ah.eq<;>intro o
    .rw[aaw o] at c
     simp(disch:=omega)only[↓wr,seval,wq,t0,t1,t2,t8,t9,t10,t11,aW,aav,d,aaz,eu,fN,hE,kc]
     exact aC g (by omega) ⟨E.to,true,λ_=>c,by simp,t0,t1,t2,t8,rfl,rfl,rfl⟩
    .rw[aat o] at c
     simp(disch:=omega)only[↓wr,seval,wq,t0,t1,t2,t8,t9,t10,t11]
     exact aC g (by omega) ⟨to,false,by simp,λ_=>⟨r,c⟩,t0,t1,t2,t8,t9,t10,rfl⟩
   .rw[aaV (by omega),dz,<-r] at c
    have b:=c
    simp(disch:=omega)only[↓wr,seval,wq,t0,t1,t2,t8,t9,t10,t11,aW,b]
    apply ah.dec<;>intro l
    .simp(disch:=omega)only[↓wr,seval,wq]
     rw[<-hw,aat (by omega)]
    .simp(disch:=omega)only[↓wr,seval,wq,t0,t1,t2,t8,t9,aW,b]
     apply ah.dec<;>intro m
     .simp(disch:=omega)only[↓wr,seval,wq]
      rw[<-hw,aat (by omega)]
     .simp(disch:=omega)only[↓wr,seval,wq,t0,t1,t2,t8,t9,b]
      rw[aaw ⟨by omega,by omega⟩] at hw
      exact aC hk (by omega) ⟨_,by omega,by omega,hw,t0,rfl,t2,rfl⟩
 .simp(disch:=omega)only[↓wr,seval,wq,t1]
  rw[aaV (by omega),eS] at hw
  rw[<-hw]
def Av (ls:List (List aA)):List (List V):=ls.map λl=>[.aE (aV l)]
def fp (g:ai) (a:List aL) (ul us:V) (more:Bool):List V:=[.aE (g.af.map cm),.aE (g.ak.map λs=>[gs s]),.aE (g.rules.map aU),gi g.start,aW a,ul,us,gb more]
def wV:List V->Sets->List cx
 | v :: vs,s :: ss=>(v,1,bV s) :: wV vs ss
 | _,_=>[]
structure cp (H:View) (b:Nat) (g:ai) (a:List aL) (ul us:V) (vs:List V) (ls:List (List aA)) (ss:Sets) (more:Bool) (L:List cx):Prop where
 len:vs.length=ss.length
 own:bk H ((.sl b 0 1 8,8,[fp g a ul us more]) :: (ul,1,Av ls) :: (us,1,vs.map λv=>[v]) :: (wV vs ss ++ L))
theorem zA:∀ (vs:List V) (ss:Sets) (i:Nat) (v:V),vs.length=ss.length->vs[i]?=some v->∃ P Q,wV vs ss=P ++ (v,1,bV (ss.getD i [])) :: Q/\∀ r,wV vs (ss.set i r)=P ++ (v,1,bV r) :: Q
 | [],_,i,v,_,h=>by simp at h
 | x :: vs,[],i,v,h,_=>by simp at h
 | x :: vs,s :: ss,0,v,_,h=>by
  simp at h;subst h
  exact⟨[],wV vs ss,rfl,λr=>rfl⟩
 | x :: vs,s :: ss,i+1,v,hl,h=>by
  obtain⟨P,Q,h1,a⟩:=zA vs ss i v (by simpa using hl) (by simpa using h)
  refine⟨(x,1,bV s) :: P,Q,?_,λr=>?_⟩
  .simp[wV,h1]
  .simp[wV,a]
section
variable {H:View} {b:Nat} {g:ai} {a:List aL} {ul us:V} {vs:List V} {ls:List (List aA)} {ss:Sets} {more:Bool} {L:List cx}
theorem cp.box (h:cp H b g a ul us vs ls ss more L):H b=.arr 8 [fp g a ul us more]:=h.own.is 0 rfl (by simp)
theorem cp.lists (h:cp H b g a ul us vs ls ss more L) (hl:0 < ls.length):∃ n,ul=.sl n 0 ls.length 1/\H n=.arr 1 (Av ls):=by
 obtain⟨n,h1,c⟩:=(h.own.own 1 rfl).sl (by simpa [Av] using hl)
 exact⟨n,by simpa [Av] using h1,c⟩
theorem cp.PL (h:cp H b g a ul us vs ls ss more L) (hl:0 < ss.length):∃ n,us=.sl n 0 ss.length 1/\H n=.arr 1 (vs.map λv=>[v]):=by
 obtain⟨n,h1,c⟩:=(h.own.own 2 rfl).sl (by simpa [h.len] using hl)
 exact⟨n,by simpa [h.len] using h1,c⟩
theorem cp.GW {n k:Nat} (h:cp H b g a (.sl n 0 k 1) us vs ls ss more L) (hl:0 < ls.length):H n=.arr 1 (Av ls)/\k=ls.length:=by
 obtain⟨m,h1,c⟩:=h.lists hl
 simp only[V.sl.injEq] at h1
 obtain⟨rfl,_,rfl,_⟩:=h1
 exact⟨c,rfl⟩
theorem cp.RG {n k:Nat} (h:cp H b g a ul (.sl n 0 k 1) vs ls ss more L) (hl:0 < ss.length):H n=.arr 1 (vs.map λv=>[v])/\k=ss.length:=by
 obtain⟨m,h1,c⟩:=h.PL hl
 simp only[V.sl.injEq] at h1
 obtain⟨rfl,_,rfl,_⟩:=h1
 exact⟨c,rfl⟩
theorem cp.row (h:cp H b g a ul us vs ls ss more L) {i:Nat} {v:V} (c:vs[i]?=some v):ba H v 1 (bV (ss.getD i [])):=by
 obtain⟨P,Q,h1,_⟩:=zA vs ss i v h.len c
 refine h.own.1 (v,1,bV (ss.getD i [])) (aaO _ (aaO _ (aaO _ (abZ _ ?_))))
 rw[h1];simp
theorem JX {α:Type} {x y z e:α} {P Q L:List α} : (x :: y :: z :: ((P ++ e :: Q) ++ L)).Perm (e :: x :: y :: z :: ((P ++ Q) ++ L)):=by
 have h:((P ++ e :: Q) ++ L).Perm (e :: ((P ++ Q) ++ L)):=by
  simp
 exact(((h.cons z).cons y).cons x).trans (aba (a:=e) (l₁:=[x,y,z]) (l₂:=(P ++ Q) ++ L))
theorem cp.put (h:cp H b g a ul us vs ls ss more L) {i n k:Nat} (c:vs[i]?=some (.sl n 0 k 1)) {r:List BV} (hr:r.length=(ss.getD i []).length) (hk:k=(ss.getD i []).length):cp (H.set n (.arr 1 (bV r))) b g a ul us vs ls (ss.set i r) more L:=by
 obtain⟨P,Q,h1,d⟩:=zA vs ss i _ h.len c
 refine⟨by rw[aca];exact h.len,?_⟩
 have o:=h.own
 rw[h1] at o
 have e:=(o.perm JX).put (es':=bV r) (by simp[hr]) (by simp[hk])
 rw[d]
 exact e.perm JX.symm
theorem cp.flag (h:cp H b g a ul us vs ls ss more L) (m:Bool):cp (H.set b (.arr 8 [fp g a ul us m])) b g a ul us vs ls ss m L:=⟨h.len,h.own.put rfl rfl⟩
theorem cp.fresh (h:cp H b g a ul us vs ls ss more L) {n:Nat} {o:di} (c:H n=.dead):cp (H.set n o) b g a ul us vs ls ss more L:=⟨h.len,h.own.fresh c⟩
end
theorem F7 {ls:List (List aA)} {i:Nat} (h:i < ls.length):(Av ls).getD i []=[.aE (aV (ls.getD i []))]:=by simp[Av,aaq,h]
theorem FK {vs:List V} {i:Nat} {v:V} (h:vs[i]?=some v):(vs.map λv=>[v]).getD i []=[v]:=by simp[aaq,h]
def l0:SC :=
 ae [ae [ab [aa 9 8,aa 10 0,cR 11 10,ao 12 5 11,aj 13 12,aa 14 1,aI 15 1 13 14,aj 16 15,aM 17 16,aQ 18 .lss 9 17],bS 18 (.exit 0)],.block 1 (ae [.region false [⟨none,[aa 21 0,cR 22 21,ao 23 5 22,aj 24 23,aa 25 1,aI 26 1 24 25,aj 27 26,aa 28 8,aI 29 2 27 28,aY 30 2 29,aY 31 2 6,((some 32),.op (.old (.binOp .eql 33 (.tmp 30) (.tmp 31) 33) 4)),aa 33 32]⟩,⟨(some (33,true)),[aa 34 3,aa 35 0,cR 36 35,ao 37 6 36,aj 38 37,aa 39 1,aI 40 1 38 39,aj 41 40,aa 42 8,aI 43 1 41 42,aj 44 43,aQ 45 .andNot 34 44,((some 46),.op (.arith .neq (.tmp 45) (.val (.val (.int .u32 0)))))]⟩,⟨none,[eC 47 33 46]⟩],bf 47 (ae [ab [aa 48 0,cR 49 48,ao 50 6 49,aj 51 50,aa 52 1,aI 53 1 51 52,aj 54 53,aa 55 8,aa 56 0,cR 57 56,ao 58 6 57,aj 59 58,aa 60 1,aI 61 1 59 60,aj 62 61,aa 63 8,aI 64 1 62 63,aj 65 64,aa 66 3,aQ 67 .or 65 66,aI 68 1 54 55,bZ 1 68 67],ab [aa 69 0,cR 70 69,ao 71 7 70,(none,.op (.store 1 (.tmp 71) (.val (.val (.bool true)))))]])]),ab [aa 19 8,aF 20 .add 19 1,aa 8 20]]
def nL:SF:=⟨ae [ab [cy 6 2],ab [aT 8 0],bX 0 l0],
 [],72⟩
theorem tE:aO Tryz.prog 76 [6]=some nL:=by kernel_rfl
def iB (l:List aA) (row:List BV) (x:aA) (s:BV) (i:Nat):List BV:=(jV l row x s).take i ++ row.drop i
theorem T7 {l:List aA} {row:List BV} {x:aA} {s:BV} (h:row.length=l.length) (i:Nat) (hi:i<=l.length):(iB l row x s i).length=row.length:=by
 simp[iB,lL h];omega
theorem RN {l:List aA} {row:List BV} {x:aA} {s:BV} (h:row.length=l.length) {i:Nat} (hi:i < l.length):(iB l row x s i)[i]?=row[i]?:=by
 unfold iB
 rw[aa7 (by simp[lL h];omega)]
 simp[lL h,acB (show i<=row.length by omega)]
theorem P2 {l:List aA} {row:List BV} {x:aA} {s:BV} (h:row.length=l.length) {i:Nat} {y:aA} {v:BV} (a:l[i]?=some y) (b:row[i]?=some v):iB l row x s (i+1)=if y=x then (iB l row x s i).set i (v ||| s) else iB l row x s i:=by
 have hi:=(aaG.1 a).1
 have c:(jV l row x s)[i]?=some (if y=x then v ||| s else v):=by simp[jV,List.getElem?_zipWith,a,b]
 have hd:row.drop i=v :: row.drop (i+1):=by
  obtain⟨q,e⟩:=aaG.1 b
  rw[abg q,e]
 have hl:((jV l row x s).take i).length=i:=by simp[lL h];omega
 unfold iB
 rw[aaQ,c,hd]
 split
 .rw[List.set_append_right _ _ (by omega),hl,Nat.sub_self,List.set_cons_zero]
  simp
 .simp
theorem LF {α:Type} {l:List α} {i:Nat} {d:α} (h:i < l.length):l.set i (l.getD i d)=l:=by
 rw[aaq,aar h]
 exact List.set_getElem_self h
theorem lD (ls:List (List aA)):(Av ls).length=ls.length:=by simp[Av]
theorem Ry (l:List BV) (i:Nat) (z:BV):(bV l).set i [gw z]=bV (l.set i z):=by rw[bV,bV,abR]
theorem nf (l:List BV):(bV l).length=l.length:=by simp
theorem QW {α:Type} (l:List α) (i:Nat) (x y:α):(l.set i x).set i y=l.set i y:=by simp
theorem Mf {α:Type} {l:List α} {i:Nat} {r d:α} (h:i < l.length):l.set i r=l↔r=l.getD i d:=by
 constructor
 .intro e
  have a:(l.set i r).getD i d=l.getD i d:=by rw[e]
  rw[dZ,aaw ⟨rfl,h⟩] at a
  exact a
 .rintro rfl;exact LF h
theorem GC (g:ai) (a:List aL) (ul us:V) (vs:List V) (ls:List (List aA)) (ss:Sets) (more:Bool) (L:List cx) (b:Nat) (H:View) (c:cp H b g a ul us vs ls ss more L) (F:lp ls ss) (Q:∀ l∈ls,l.length<=10000) (st:Nat) (n:st < ls.length) (x:aA) (s:BV) :
  av Tryz.prog 76 [.ptr b 0 0,gi st,.agg (bF x),gw s] H λ_ H'=>cp H' b g a ul us vs ls (fW ls ss st x s) (more || decide (fW ls ss st x s≠ss)) L:=by
 refine av.of mixed tE ?_
 have f:st < ss.length:=by rw[F.1];exact n
 have hl:=F7 n
 have an:=Q _ (aax (getD_some (d:=[]) n))
 have u:=F.2 st
 have G:vs[st]?=some (vs[st]'(by rw[c.len];exact f)):=aar _
 generalize vs[st]'(by rw[c.len];exact f)=v at G
 obtain⟨nl,rfl,_⟩:=c.lists (by omega)
 obtain⟨Y,rfl,_⟩:=c.PL (by omega)
 simp(disch:=omega)only[↓wr,seval,wq,nL,bF]
 unfold fW
 generalize ls.getD st []=l at *
 generalize B:ss.getD st []=row at *
 refine aS.up l.length (λi T H'=>∃ m:Bool,(m=(more || decide (iB l row x s i≠row)))/\cp H' b g a (.sl nl 0 ls.length 1) (.sl Y 0 ss.length 1) vs ls (ss.set st (iB l row x s i)) m L/\T 0=.ptr b 0 0/\T 1=gi st/\T 3=gw s/\T 6=.aH (bF x) 0/\T 8=gi i) ?_ ?_
 .have P:iB l row x s 0=row:=by simp[iB]
  refine⟨more,by rw[P];simp,?_,rfl,rfl,rfl,rfl,rfl⟩
  rw[P,<-B,LF f]
  exact c
 rintro i k T H' hk ⟨m,hm,c,t0,t1,t3,t6,t8⟩
 have I:=c.box
 have J:=(c.GW (by omega)).1
 simp(disch:=omega)only[↓wr,seval,wq,l0,t0,t1,t3,t6,t8,I,fp,J,hl,lD,bI]
 refine⟨n,n,?_⟩
 apply ah.dec<;>intro t
 .have j:i < l.length:=by omega
  have R:l[i]?=some (l[i]'j):=aar j
  have hw:row[i]?=some (row[i]'(by omega)):=aar (by omega)
  generalize l[i]'j=y at R
  generalize row[i]'(by omega)=w at hw
  have o:=RN (x:=x) (s:=s) u j
  rw[hw] at o
  have S:=T7 (x:=x) (s:=s) u i (by omega)
  have p:=P2 (x:=x) (s:=s) u R hw
  have C:(ss.set st (iB l row x s i)).getD st []=iB l row x s i:=by rw[dZ,aaw ⟨rfl,f⟩]
  have K:=c.row G
  rw[C] at K
  obtain⟨nv,z,A⟩:=K.sl (by rw[nf];omega)
  have M:=(c.RG (by rw[aca];omega)).1
  have U:¬ b=nv:=by rintro rfl;rw[I] at A;simp at A
  rw[nf] at z
  generalize aq:iB l row x s i=cur at *
  simp(disch:=omega)only[↓wr,seval,wq,t0,t1,t3,t6,t8,I,fp,J,hl,lD,aV,aav,R,aaz,bF]
  refine⟨n,n,?_⟩
  refine iy (xs:=#[.int .i64 y.ax,.int .i64 y.dot]) (ys:=#[.int .i64 x.ax,.int .i64 x.dot]) Tryz.underlying33 (by kernel_rfl) (by kernel_rfl) ?_ ?_ (mO y x) (.inl ⟨rfl,rfl⟩) ?_
  .rfl
  .rfl
  rw[vf]
  simp(disch:=omega)only[↓wr,seval,wq,t0,t1,t3,t6,t8]
  have same:iB l row x s (i+1)=cur->∀ D:Env,D 0=.ptr b 0 0->D 1=gi st->D 3=gw s->D 6=.aH (bF x) 0->D 8=gi ((i:Int)+1)->∃ Z,Z < k/\Fl l.length Z (λi T H'=>∃ m:Bool,(m=(more || decide (iB l row x s i≠row)))/\cp H' b g a (.sl nl 0 ls.length 1) (.sl Y 0 ss.length 1) vs ls (ss.set st (iB l row x s i)) m L/\T 0=.ptr b 0 0/\T 1=gi st/\T 3=gw s/\T 6=.aH (bF x) 0/\T 8=gi i) D H':=λe D P e1 e3 e6 e8 =>
   aC hk j ⟨m,by rw[e];exact hm,by rw[e];exact c,P,e1,e3,e6,e8⟩
  apply ah.dec<;>intro he
  rotate_left
  .rw[aat he] at p
   simp(disch:=omega)only[↓wr,seval,wq,t0,t1,t3,t6,t8]
   exact same p _ t0 t1 t3 t6 rfl
  rw[aaw he] at p
  simp(disch:=omega)only[↓wr,seval,wq,t0,t1,t3,t6,t8,I,fp,M,FK G,z,A,yy o,U8]
  refine⟨by omega,by rw[c.len,aca];omega,by omega,by omega,?_⟩
  apply ah.ne<;>intro W
  .have E:¬ iL s w:=λh=>W (toNat_zero.2 (Dm.2 h))
   have t:=c.put (r:=cur.set i (w ||| s)) (by rw[<-z];exact G) (by rw[C,aca]) (by rw[C])
   rw[QW] at t
   have ar:=t.box
   simp(disch:=omega)only[↓wr,seval,wq,t0,t1,t3,t6,t8,I,fp,M,FK G,z,A,yy o,uR,Ry,U]
   have N:st < vs.length:=by rw[c.len,aca];exact f
   have X:iB l row x s (i+1)≠row:=λe=>by
    have h1:(cur.set i (w ||| s))[i]?=some (w ||| s):=by rw[ab9 (by omega)]
    rw[<-p,e,hw] at h1
    simp only[aau] at h1
    rw[BitVec.or_comm] at h1
    exact E (GF.1 h1.symm)
   refine⟨f,N,f,N,by omega,by omega,by omega,by omega,aC hk j ⟨true,by rw[acx X,Bool.or_true],?_,t0,t1,t3,t6,rfl⟩⟩
   rw[p]
   exact t.flag true
  .have O:iL s w:=Dm.1 (toNat_zero.1 W)
   simp(disch:=omega)only[↓wr,seval,wq,t0,t1,t3,t6,t8]
   refine same ?_ _ t0 t1 t3 t6 rfl
   rw[p,show w ||| s=w by rw[BitVec.or_comm];exact GF.2 O]
   obtain⟨q,e⟩:=aaG.1 o
   rw[<-e];exact List.set_getElem_self q
 .have j:i=l.length:=by omega
  have e:iB l row x s i=jV l row x s:=by
   subst j
   unfold iB
   rw[aaJ (by rw[lL u];omega),aaV (by omega),abI]
  rw[e] at hm c
  simp(disch:=omega)only[↓wr,seval,wq]
  rw[hm] at c
  rw[show decide (ss.set st (jV l row x s)≠ss)=decide (jV l row x s≠row) by
   simp only[ne_eq,Mf (d:=[]) f,B]]
  exact c
theorem pD {α:Type} {x y z e:α} {Z L:List α} : (x :: y :: z :: (Z ++ e :: L)).Perm (e :: x :: y :: z :: (Z ++ L)) :=
 ((((aba (a:=e) (l₁:=Z) (l₂:=L)).cons z).cons y).cons x).trans (aba (a:=e) (l₁:=[x,y,z]) (l₂:=Z ++ L))
section
variable {H:View} {b:Nat} {g:ai} {a:List aL} {ul us:V} {vs:List V} {ls:List (List aA)} {ss:Sets} {more:Bool} {L:List cx}
theorem cp.Zn (h:cp H b g a ul us vs ls ss more L) {n:Nat} (c:H n=.dead) (sz:Nat) (es:List (List V)):cp (H.set n (.arr sz es)) b g a ul us vs ls ss more ((.sl n 0 es.length sz,sz,es) :: L) :=
 ⟨h.len,(h.own.new c sz es).perm pD.symm⟩
theorem cp.drop {e:cx} (h:cp H b g a ul us vs ls ss more (e :: L)):cp H b g a ul us vs ls ss more L :=
 ⟨h.len,(h.own.perm pD).tail⟩
theorem cp.Yl {n k sz:Nat} {es:List (List V)} (h:cp H b g a ul us vs ls ss more ((.sl n 0 k sz,sz,es) :: L)) (he:0 < es.length):H n=.arr sz es :=
 (h.own.perm pD).is 0 rfl he
end
theorem Lp {a s1 s2:Sets} (h:lh a s1) (k:lh s1 s2):(decide (s1≠a) || decide (s2≠s1))=decide (s2≠a):=by
 rw[abu]
 simp only[abt,aaE]
 constructor
 .rintro (e | e) b
  .subst b;exact e (k.tF h)
  .subst b;exact e (h.tF k)
 .intro e
  by_cases c:s1=a
  .exact .inr (by rw[c];exact e)
  .exact .inl c
theorem UX {g:ai} (hr:bC g=true) {x:aA} (b:cG g x) (s:BV):Oz g (dC g x) s=ed (au g false) (cZ g (au g false)) s (dC g x):=by
 have h:bC g=true/\∀ s∈dC g x,fP g s=true:=⟨hr,λy a=>by
  unfold dC at a
  split at a
  .have c:g.rules[x.ax.toNat]?=some (aw g x.ax):=by unfold aw;exact getD_some (by have:=b.1;omega)
   exact(bu hr).sym _ (aax c) y (List.mem_of_mem_drop a)
  .simp at a⟩
 rw[Oz,aaw h]
structure S5 (g:ai) (a:List aL) (ls:List (List aA)):Prop where
 WC:g.Ok
 right:bC g=true
 len:ls.length=a.length
 Qc:1<=a.length
 short:a.length<=300
 aJ:∀ s∈a,aK s.aJ/\∀ e∈s.aJ,b6 e.sym/\b6 e.to
 item:∀ l∈ls,l.length<=10000/\∀ x∈l,cG g x
def ma:SC :=
 ae [ae [ab [aa 96 13,aa 97 0,cR 98 97,ao 99 0 98,ao 100 2 99,aj 101 100,aM 102 101,aQ 103 .lss 96 102],bS 103 (.exit 0)],.block 1 (ae [ab [aa 106 0,cR 107 106,ao 108 0 107,ao 109 2 108,aj 110 109,aa 111 13,aI 112 3 110 111,ao 113 0 112,aj 114 113,aa 115 8,((some 116),.op (.arith .sub (.val (.val (.int .i64 (-1)))) (.tmp 115))),aQ 117 .eql 114 116],bf 117 (ab [aa 118 0,aa 119 1,aa 120 13,((some 121),.op (.build [(.val (.int .i64 0)),(.val (.int .i64 0))] [(0,1,(.tmp 120))])),aa 122 7,bm 123 76 [118,119,121,122]])]),ab [aa 104 13,aF 105 .add 104 1,aa 13 105]]
def nG:SF:=⟨ae [ab [aa 14 0,cR 15 14,ao 16 5 15,aj 17 16,aa 18 1,aI 19 1 17 18,aj 20 19,aa 21 2,aI 22 2 20 21,aY 23 2 22,aa 24 0,cR 25 24,ao 26 6 25,aj 27 26,aa 28 1,aI 29 1 27 28,aj 30 29,aa 31 2,aI 32 1 30 31,aj 33 32,((some 6),.op (.alloc [(.val (.int .i64 0)),(.val (.int .i64 0))])),bZ 2 6 23,aa 7 33],ab [aa 35 0,cR 36 35,ao 37 0 36,aY 38 4 37,aY 39 2 6,bm 40 18 [38,39],aa 34 40,eP 41 0 34,eP 42 1 34,aa 8 41,aa 9 42],ae [.region false [⟨none,[aa 43 9,c4 44 43,aa 45 44]⟩,⟨(some (45,false)),[aa 46 7,((some 47),.op (.arith .eql (.tmp 46) (.val (.val (.int .u32 0)))))]⟩,⟨none,[cF 48 45 47]⟩],bf 48 (.ret)],ab [aa 50 0,cR 51 50,ao 52 4 51,aj 53 52,aa 54 1,aa 55 8,((some 56),.op (.bW 1 1 [(.val (.int .i64 0))] [(0,(.tmp 55))])),bm 57 29 [53,54,56],aa 49 57,eP 58 0 49,eP 59 1 49,aa 10 58,aa 11 59],ab [aa 60 0,aa 61 10,ao 62 0 6,aj 63 62,ao 64 1 6,aj 65 64,aF 66 .add 65 1,((some 67),.op (.build [(.val (.int .i64 0)),(.val (.int .i64 0))] [(0,1,(.tmp 63)),(1,1,(.tmp 66))])),aa 68 7,bm 69 76 [60,61,67,68]],ae [ab [aa 70 8,aF 71 .geq 70 0],bf 71 (.ret)],ab [cT 12 1],ae [ab [ao 72 0 6,aj 73 72,aF 74 .geq 73 0],bf 74 (ab [aa 75 0,cR 76 75,ao 77 0 76,ao 78 2 77,aj 79 78,ao 80 0 6,aj 81 80,aI 82 3 79 81,ao 83 1 82,aj 84 83,ao 85 1 6,aj 86 85,aF 87 .add 86 1,((some 88),.op (.slice 1 (.tmp 84) (some (.tmp 87)) none)),aa 12 88])],ab [aa 89 0,cR 90 89,ao 91 0 90,aY 92 4 91,aa 93 12,aa 94 7,bm 95 123 [92,93,94],aa 7 95],ab [aT 13 0],bX 0 ma],
 [],124⟩
theorem tz:aO Tryz.prog 78 []=some nG:=by kernel_rfl
theorem yW {g:ai} (a:g.dM) {x:aA} (h:cG g x):b6 x.ax/\b6 x.dot:=by
 have:=fy a h.1
 have:=a.rules
 obtain⟨⟨h1,b⟩,c,d⟩:=h
 unfold b6;omega
theorem ew.nil {H:View} {k:Nat} : ew H (.emp k) (encI []):=λ_ _=>.emp k
theorem W4 (g:ai) (a:List aL) (ul us:V) (vs:List V) (ls:List (List aA)) (ss:Sets) (more:Bool) (L:List cx) (b:Nat) (H:View) (hW:S5 g a ls) (z:cp H b g a ul us vs ls ss more L) (r:lp ls ss) (i k:Nat) (hi:i < ls.length) (hk:k < (ls.getD i []).length) :
  av Tryz.prog 78 [.ptr b 0 0,gi i,gi k] H λ_ H'=>cp H' b g a ul us vs ls (jL g (au g false) a ls i k ss) (more || decide (jL g (au g false) a ls i k ss≠ss)) L:=by
 refine av.of mixed tz ?_
 have Q:=bu hW.right
 have S:∀ l∈ls,l.length<=10000:=λl hl=>(hW.item l hl).1
 have U:=hW.len
 have b9:=hW.short
 have cc:=Q.rules
 have A:i < ss.length:=by rw[r.1];exact hi
 have hl:=F7 hi
 have bd:=hW.item _ (aax (getD_some (d:=[]) hi))
 have cf:=r.2 i
 have hx:(ls.getD i [])[k]?=some ((ls.getD i []).getD k ⟨0,0⟩):=getD_some hk
 have hw:(ss.getD i [])[k]?=some (ej ss i k):=getD_some (by omega)
 have c:=bd.2 _ (aax hx)
 have t:=Lw (null:=au g false) (g:=g) U hW.Qc hi k r
 have hv:vs[i]?=some (vs[i]'(by rw[z.len];exact A)):=aar _
 generalize vs[i]'(by rw[z.len];exact A)=v at hv
 obtain⟨nl,rfl,W⟩:=z.lists (by omega)
 obtain⟨nu,rfl,X⟩:=z.PL (by omega)
 obtain⟨nv,rfl,Y⟩:=(z.row hv).sl (by rw[nf];omega)
 have bl:i < vs.length:=by rw[z.len];exact A
 have hb:=z.box
 unfold jL at t ⊢
 generalize (ls.getD i []).getD k ⟨0,0⟩=x at *
 generalize ej ss i k=w at *
 have f:=Hj g hW.WC x (yW Q c)
 rw[FQ,aaw (qw.2 ⟨hW.right,c⟩)] at f
 have E:=UX hW.right c
 cases F:bp g x with
 | mk sym bn =>
 have cg:=ue Q c F
 have ca:=yW Q c
 have bq:=fy Q c.1
 have ch:0<=x.dot/\x.dot<=6:=⟨c.2.1,by have:=c.2.2;omega⟩
 rw[F] at f t
 simp only[ag,encS,bF] at f
 simp(disch:=omega)only[↓wr,seval,wq,nG,hb,fp,W,hl,lD,aV,aav,hx,aaz,bF,X,FK hv,Y,yy hw,nf]
 refine⟨hi,hi,A,bl,by omega,by omega,?_⟩
 intro bx G
 rw[set_set]
 have m:=z.Zn G 2 [[gi x.ax,gi x.dot]]
 have I:=m.box
 have Z:=m.Yl (by simp)
 have br:¬ b=bx:=by rintro rfl;rw[hb] at G;simp at G
 simp(disch:=omega)only[↓wr,seval,wq,br]
 refine ay.pure f ?_
 generalize H.set bx (.arr 2 [[gi x.ax,gi x.dot]])=H1 at m I Z ⊢
 clear z W X Y hb
 simp(disch:=omega)only[↓wr,seval,wq]
 cases bn with
 | false =>
  simp(disch:=omega)only[↓wr,seval,wq]
  simp
  exact m.drop
 | true =>
  simp(disch:=omega)only[↓wr,seval,wq]
  apply ah.eq<;>intro hz
  .have u:w=0#32:=toNat_zero.1 hz
   simp(disch:=omega)only[↓wr,seval,wq]
   rw[aaw u]
   simp
   exact m.drop
  .have u:¬ w=0#32:=λe=>hz (toNat_zero.2 e)
   rw[aat (λh=>h.elim (by simp) u)] at t
   simp only at t
   have bs:=HP a (by unfold aK;omega) hW.aJ i [sym] (by unfold aK;simp)
   have y:=uP U hW.Qc i [sym]
   have cj:0<=(ef a i [sym]).1:=by
    unfold ef
    split
    .simp
    .exact(BJ (a:=a) _ _ (by omega) (by omega)).1
   simp(disch:=omega)only[↓wr,seval,wq,I,fp]
   intro q hq
   refine ay.xB bs (by kernel_rfl) (.bD _ λj hj=>by
    match j,hj with
    | 0,_=>exact⟨_,rfl⟩
    | 1,_=>exact⟨_,rfl⟩) ⟨.tree (lH a),.tree (.val _),FH (l:=[sym]) (by simp[View.set]) rfl,trivial⟩ ?_
   have J:=m.fresh (o:=.arr 1 [[gi sym]]) hq
   have an:=J.Yl (by simp)
   generalize H1.set q (.arr 1 [[gi sym]])=H2 at J an ⊢
   clear m I Z hq
   generalize (ef a i [sym]).1=to at *
   obtain⟨aq,rfl⟩:∃ n:Nat,to=n:=⟨to.toNat,by omega⟩
   rw[aaN] at *
   simp(disch:=omega)only[↓wr,seval,wq,an]
   refine ay.dr ((GC g a _ _ vs ls ss more _ b H2 J r S aq y ⟨x.ax,x.dot+1⟩ w).mono ?_)
   intro _ H3 B
   have ar:=js r y ⟨x.ax,x.dot+1⟩ w
   have a1:=mK r y ⟨x.ax,x.dot+1⟩ w
   generalize fW ls ss aq ⟨x.ax,x.dot+1⟩ w=p at *
   have K:=B.box
   have M:=B.Yl (by simp)
   simp(disch:=omega)only[↓wr,seval,wq]
   apply ah.dec<;>intro hs
   .simp(disch:=omega)only[↓wr,seval,wq]
    rw[aat u,aaw hs]
    exact B.drop
   .rw[aat hs] at t
    have b0:=(si F).1
    have b1:=c.2
    have b2:∀ s∈dC g x,b6 s:=by
     intro s hs
     unfold dC at hs
     split at hs
     .have hR:g.rules[x.ax.toNat]?=some (aw g x.ax):=by unfold aw;exact getD_some (by have:=c.1;omega)
      exact(hW.WC.ax _ (aax hR)).2.2.2 s (List.mem_of_mem_drop hs)
     .simp at hs
    have b3:(dC g x).length<=6:=by
     unfold dC
     split
     .rename_i h0
      rw[aP,aat (by omega)] at bq
      simp;omega
     .simp
    have h2:=XE g hW.WC (dC g x) w (by unfold aK;omega) b2
    rw[E w] at h2
    simp only[ag,encS] at h2
    generalize ck:ed (au g false) (cZ g (au g false)) w (dC g x)=s2 at *
    simp(disch:=omega)only[↓wr,seval,wq,M]
    have key:∀ v12:V,ew H3 v12 (encI (dC g x))->qJ H3 [.agg [.aE (g.af.map cm),.aE (g.ak.map λs=>[gs s]),.aE (g.rules.map aU),gi g.start],v12,gw w] [.agg [.aE (g.af.map cm),.aE (g.ak.map λs=>[gs s]),.aE (g.rules.map aU),gi g.start],encI (dC g x),gw w]:=λv12 h =>
     ⟨.tree (cn _ (dq g)),h,.tree (.val _),trivial⟩
    apply ah.dec<;>intro h0
    have hR:g.rules[x.ax.toNat]?=some (aw g x.ax):=by unfold aw;exact getD_some (by have:=c.1;omega)
    have b4:aP g x.ax=(aw g x.ax).right:=by rw[aP,aat (by omega)]
    rw[b4] at b0 b1
    have N:=zu (l:=(aw g x.ax).right) (k:=(x.dot+1).toNat) (by omega)
    rw[show (((x.dot+1).toNat:Nat):Int)=x.dot+1 by omega] at N
    have C:dC g x=(aw g x.ax).right.drop (x.dot+1).toNat:=by rw[dC,aaw (by omega)]
    generalize aw g x.ax=R at hR N C
    simp(disch:=omega)only[↓wr,seval,wq,M,K,fp,aav,hR,aaz,aU,encI,N]
    refine ay.xB h2 (by kernel_rfl) (.val _) (key _ (by rw[C];exact .tree (fa _))) ?_
    rotate_left
    have C:dC g x=[]:=by rw[dC,aat (by omega)]
    simp(disch:=omega)only[↓wr,seval,wq,M,K,fp]
    refine ay.xB h2 (by kernel_rfl) (.val _) (key _ (by rw[C];exact .nil)) ?_
    all_goals (
     simp(disch:=omega)only[↓wr,seval,wq,K]
     refine aS.up g.rules.length (λq T H'=>cp H' b g a (.sl nl 0 ls.length 1) (.sl nu 0 ss.length 1) vs ls (fG g ls i sym s2 p q) (more || decide (fG g ls i sym s2 p q≠ss)) ((.sl bx 0 1 2,2,[[gi x.ax,gi x.dot]]) :: L)/\T 0=.ptr b 0 0/\T 1=gi i/\T 7=gw s2/\T 8=gi sym/\T 13=gi q) ⟨B,rfl,rfl,rfl,rfl,rfl⟩ ?_
     rintro q k2 T4 H4 a6 ⟨D,t0,t1,t7,t8,t13⟩
     have a7:=D.box
     simp(disch:=omega)only[↓wr,seval,wq,ma,t0,t1,t7,t8,t13,a7,fp]
     apply ah.dec<;>intro b5
     .have O:q < g.rules.length:=by omega
      have P:g.rules[q]?=some (aw g (q:Int)):=by unfold aw;rw[aaN];exact getD_some O
      have hL:=Q.left _ (aax P)
      obtain⟨a8,b7⟩:=kX (g:=g) hi sym s2 q p ar
      have e1:fG g ls i sym s2 p (q+1)=if (aw g (q:Int)).left = -1 - sym then fW ls (fG g ls i sym s2 p q) i ⟨q,0⟩ s2 else fG g ls i sym s2 p q:=by
       unfold fG
       rw[abi,abe]
       rfl
      generalize aw g (q:Int)=R at P hL e1
      generalize fG g ls i sym s2 p q=cu at *
      simp(disch:=omega)only[↓wr,seval,wq,t0,t1,t7,t8,t13,a7,fp,aav,P,aaz,aU]
      apply ah.eq<;>intro he
      .simp(disch:=omega)only[↓wr,seval,wq,t0,t1,t7,t8,t13]
       refine ay.dr ((GC g a _ _ vs ls _ _ _ b H4 D a8 S i hi ⟨q,0⟩ s2).mono ?_)
       intro _ H5 bb
       simp(disch:=omega)only[↓wr,seval,wq,t0,t1,t7,t8,t13]
       rw[aaw he] at e1
       rw[Bool.or_assoc,Lp (a1.trans b7) (mK a8 hi _ _),<-e1] at bb
       exact aC a6 O ⟨bb,t0,t1,t7,t8,rfl⟩
      .simp(disch:=omega)only[↓wr,seval,wq,t0,t1,t7,t8,t13]
       rw[aat he] at e1
       exact aC a6 O ⟨by rw[e1];exact D,t0,t1,t7,t8,rfl⟩
     .simp(disch:=omega)only[↓wr,seval,wq]
      rw[aat u,aat hs]
      have b8:q=g.rules.length:=by omega
      subst b8
      exact D.drop)
section
variable {H:View} {b:Nat} {g:ai} {a:List aL} {ul us:V} {vs:List V} {ls:List (List aA)} {ss:Sets} {more:Bool} {L:List cx}
theorem cp.goApp {u:V} {sz bytes:Nat} {es xs:List (List V)} {K:V->View->Prop} {w:cO (H,K)} (h:cp H b g a ul us vs ls ss more ((u,sz,es) :: L)) (d:(xs.all λe=>e.length == sz && e.all aR)=true)
  (hl:(es.length+xs.length) * bytes < aD) (f:es.length+xs.length < aD) (hk:∀ c H',cp H' b g a ul us vs ls ss more ((c,sz,es ++ xs) :: L)->K c H'):oy sz bytes u xs H K w :=
 ct (h.own.perm pD) d hl f λc H' i _=>hk c H' ⟨h.len,i.perm pD.symm⟩
theorem cp.emp (h:cp H b g a ul us vs ls ss more L) (k sz:Nat):cp H b g a ul us vs ls ss more ((.emp k,sz,[]) :: L):=⟨h.len,(h.own.emp (k:=k) (sz:=sz)).perm pD.symm⟩
theorem cp.Wu {u:V} {sz:Nat} {es:List (List V)} (h:cp H b g a ul us vs ls ss more ((u,sz,es) :: L)):ba H u sz es:=(h.own.perm pD).head
theorem cp.Wd {c:List cx} (h:cp H b g a ul us vs ls ss more L) (p:L.Perm c):cp H b g a ul us vs ls ss more c:=⟨h.len,h.own.perm (((p.append_left _).cons _).cons _ |>.cons _)⟩
end
theorem Tt (a:List aL):V.cells (aW a)=[aW a]:=id rfl
theorem YA (a:List aL):aR (aW a)=true:=id rfl
def gY (ls:List (List aA)):Sets:=ls.map λl=>List.replicate l.length 0
theorem Sb (ls:List (List aA)):lp ls (gY ls):=by
 refine⟨by simp[gY],λi=>?_⟩
 simp only[gY,aaq,aav]
 cases ls[i]? <;> simp
theorem Hn (ls:List (List aA)) (i k:Nat):ej (gY ls) i k=0:=by
 simp only[ej,gY,aaq,aav]
 cases ls[i]? with
 | none=>simp
 | some l =>
  simp only[aaz,aaL,abX]
  split <;> rfl
theorem K8:∀ {vs:List V} {ss:Sets} (v:V) (r:List BV),vs.length=ss.length->wV (vs ++ [v]) (ss ++ [r])=wV vs ss ++ [(v,1,bV r)]
 | [],[],v,r,_=>rfl
 | [],_ :: _,_,_,h=>by simp at h
 | _ :: _,[],_,_,h=>by simp at h
 | x :: vs,s :: ss,v,r,h=>by
  simp only[aa9,wV,K8 v r (show vs.length=ss.length by simpa using h)]
theorem Vu {g:ai} {a:List aL} (b:(aX g a).length=a.length) (h1:1<=a.length) {ss:Sets} (hs:lp (aX g a) ss) (hd:mI g (au g false) a (aX g a) ss) (d:∀ k,((aX g a).getD 0 [])[k]?=some ⟨-1,0⟩->(ej ss 0 k).getLsbD g.af.length=true)
  (e:∀ i k,i < (aX g a).length->k < ((aX g a).getD i []).length->jL g (au g false) a (aX g a) i k ss=ss) {i k:Nat} {x:aA} (c:((aX g a).getD i [])[k]?=some x):ej ss i k=oX g a i x:=by
 classical
 refine yB λt f=>?_
 rw[abu]
 unfold oX
 rw[yI _ 32 t (aaD _)]
 simp only[aaE]
 exact⟨λh=>⟨f,hd i k x t c h⟩,λh=>Tq b h1 hs d e h.2 k c⟩
def zY (p:cb):List V:=[gi p.ax,gw p.set]
def hX (l:List cb):List (List V):=l.map zY
def sW (l:List (List cb)):V:=.aE (l.map λr=>[.aE (hX r)])
theorem N0 (l:List cb):Tree (.aE (hX l)):=fe _ _ λx _ v a=>by simp[zY] at a;rcases a with rfl | rfl <;> exact .val _
abbrev Lz:=List (V × List cb)
def mQ (B:Lz):List cx:=B.map λx=>(x.1,2,hX x.2)
theorem N6 {h:aG} {u:V} {B:Lz} (f:ba h.view u 1 (bt B)) (g:∀ x∈B,ba h.view x.1 2 (hX x.2)):dB h u (sW (B.map (·.2))):=by
 have c:∀ i (hi:i < B.length),(bt B).getD i []=[(B[i]).1]/\(((B.map (·.2)).map λr=>[V.aE (hX r)]).getD i [])=[.aE (hX (B[i]).2)]:=λi hi=>by
  simp[bt,aaq,hi]
 refine dB.own f (by simp[bt]) (λi hi=>?_) (λi j hi b=>?_)
 .have a:i < B.length:=by simpa [bt] using hi
  rw[(c i a).1,(c i a).2];rfl
 .have a:i < B.length:=by simpa [bt] using hi
  rw[(c i a).2] at b ⊢
  rw[(c i a).1]
  have:j=0:=by simp at b;omega
  subst this
  simp only[abD]
  have d:=g _ (aaC a)
  generalize (B[i]'a).2=l at d
  refine dB.own d rfl (λi _=>rfl) (λi j hi b=>?_)
  simp only[hX,aaA] at hi
  have e:(hX l).getD i []=zY l[i]:=by simp[hX,aaq,hi]
  rw[e] at b ⊢
  match j,b with
  | 0,_=>exact .val _
  | 1,_=>exact .val _
def sB:SC :=
 ae [ae [ab [aa 29 7,aa 30 4,aM 31 30,aQ 32 .lss 29 31],bS 32 (.exit 0)],.block 1 (ae [ab [aY 35 4 1,aa 36 4,aa 37 7,aI 38 2 36 37,ao 39 0 38,aj 40 39,bm 41 23 [35,40],aa 8 41],ab [aa 42 6,aa 43 6,cR 44 43,ao 45 5 44,aj 46 45,aa 47 8,((some 48),.op (.bW 1 1 [(.emp 1)] [(0,(.tmp 47))])),gx 49 1 24 46 48,cR 50 42,ao 51 5 50,bZ 1 51 49],ab [aa 52 6,aa 53 6,cR 54 53,ao 55 6 54,aj 56 55,aa 57 8,aM 58 57,((some 59),.op (.make 1 4 [(.val (.int .u32 0))] (.tmp 58) (.tmp 58))),((some 60),.op (.bW 1 1 [(.emp 1)] [(0,(.tmp 59))])),gx 61 1 24 56 60,cR 62 52,ao 63 6 62,bZ 1 63 61]]),ab [aa 33 7,aF 34 .add 33 1,aa 7 34]]
def sM:SC :=
 ae [ae [ab [aa 84 10,aa 85 6,cR 86 85,ao 87 5 86,aj 88 87,aa 89 9,aI 90 1 88 89,aj 91 90,aM 92 91,aQ 93 .lss 84 92],bS 93 (.exit 6)],.block 7 (ab [aa 96 6,aa 97 9,aa 98 10,bm 99 78 [96,97,98]]),ab [aa 94 10,aF 95 .add 94 1,aa 10 95]]
def sJ:SC :=
 ae [ae [ab [aa 78 9,aa 79 4,aM 80 79,aQ 81 .lss 78 80],bS 81 (.exit 4)],.block 5 (ae [ab [aT 10 0],bX 6 sM]),ab [aa 82 9,aF 83 .add 82 1,aa 9 83]]
def sY:SC :=
 ae [ae [ab [aa 71 6,cR 72 71,ao 73 7 72,aj 74 73],bS 74 (.exit 2)],.block 3 (ae [ab [aa 75 6,cR 76 75,ao 77 7 76,(none,.op (.store 1 (.tmp 77) (.val (.val (.bool false)))))],ab [aT 9 0],bX 4 sJ])]
def te:SC :=
 ae [ae [ab [aa 106 14,aa 107 6,cR 108 107,ao 109 5 108,aj 110 109,aa 111 12,aI 112 1 110 111,aj 113 112,aM 114 113,aQ 115 .lss 106 114],bS 115 (.exit 10)],.block 11 (ae [ab [aY 119 4 1,aa 120 6,cR 121 120,ao 122 5 121,aj 123 122,aa 124 12,aI 125 1 123 124,aj 126 125,aa 127 14,aI 128 2 126 127,aY 129 2 128,bm 130 18 [119,129],aa 118 130,eP 131 0 118,eP 132 1 118,aa 15 131,aa 16 132],.region false [⟨none,[aa 133 16,c4 134 133,aa 135 134]⟩,⟨(some (135,true)),[aa 136 6,cR 137 136,ao 138 5 137,aj 139 138,aa 140 12,aI 141 1 139 140,aj 142 141,aa 143 14,aI 144 2 142 143,ao 145 0 144,aj 146 145,aF 147 .geq 146 0]⟩,⟨none,[eC 148 135 147]⟩],bf 148 (ab [aa 149 13,aa 150 6,cR 151 150,ao 152 5 151,aj 153 152,aa 154 12,aI 155 1 153 154,aj 156 155,aa 157 14,aI 158 2 156 157,ao 159 0 158,aj 160 159,aa 161 6,cR 162 161,ao 163 6 162,aj 164 163,aa 165 12,aI 166 1 164 165,aj 167 166,aa 168 14,aI 169 1 167 168,aj 170 169,((some 171),.op (.build [(.val (.int .i64 0)),(.val (.int .u32 0))] [(0,1,(.tmp 160)),(1,1,(.tmp 170))])),((some 172),.op (.bW 1 2 [(.val (.int .i64 0)),(.val (.int .u32 0))] [(0,(.tmp 171))])),gx 173 2 16 149 172,aa 13 173])]),ab [aa 116 14,aF 117 .add 116 1,aa 14 117]]
def s9:SC :=
 ae [ae [ab [aa 100 12,aa 101 4,aM 102 101,aQ 103 .lss 100 102],bS 103 (.exit 8)],.block 9 (ae [ab [cT 13 1],ae [ab [aT 14 0],bX 10 te],ab [aa 174 11,aa 175 13,((some 176),.op (.bW 1 1 [(.emp 1)] [(0,(.tmp 175))])),gx 177 1 24 174 176,aa 11 177]]),ab [aa 104 12,aF 105 .add 104 1,aa 12 105]]
def vr:SF:=⟨ae [ab [cy 1 0,cT 2 1,aT 3 0],ab [aY 18 4 1,bm 19 25 [18],aa 17 19,eP 20 0 17,eP 21 1 17,aa 4 20,aa 5 21],ae [ab [aa 22 5,aF 23 .neq 22 0],bf 23 (ae [ab [aa 24 5,cT 2 1,aa 3 24],.ret])],ab [aY 25 4 1,aa 26 4,((some 27),.op (.build [(.emp 1),(.emp 1),(.emp 1),(.val (.int .i64 0)),(.emp 1),(.emp 1),(.emp 1),(.val (.bool false))] [(0,4,(.tmp 25)),(4,1,(.tmp 26))])),((some 28),.op (.box (.tmp 27))),aa 6 28],ae [ab [aT 7 0],bX 0 sB],ab [aa 64 6,((some 65),.op (.build [(.val (.int .i64 0)),(.val (.int .i64 0))] [(0,1,(.val (.val (.int .i64 (-1)))))])),ao 66 0 1,aj 67 66,aM 68 67,bm 69 77 [68],qx 70 76 [(.tmp 64),(.val (.val (.int .i64 0))),(.tmp 65),(.tmp 69)]],bX 2 sY,ab [cT 11 1],ae [ab [aT 12 0],bX 8 s9],ab [aa 178 11,aa 2 178,aT 3 0],.ret],
 [.tmp 2,.tmp 3],179⟩
theorem AI:aO Tryz.prog 34 [1]=some vr:=by kernel_rfl
theorem TP {g:ai} {a:List aL} {i:Nat} {s:aL} (h:a[i]?=some s):(aX g a)[i]?=some (cL g s.bc):=by rw[aX,aav,h];rfl
theorem O3 {g:ai} (c:g.Ok) (h:(bJ g).2=0):S5 g (bJ g).1 (aX g (bJ g).1)/\mX g (bJ g).1:=by
 have hr:isRed g=true:=abK λd=>by
  unfold bJ at h;rw[aat d] at h;simp at h
 have b:=nr hr
 obtain⟨a,h1,f⟩:=D3 b h
 refine⟨⟨c,iC hr,by simp[aX],h1,f,λs hs=>⟨by unfold aK;have:=a.aJ s hs;omega,λe he=>?_⟩,λl hl=>?_⟩,a⟩
 .have j:=a.to s hs e he
  have k:=a.sym s hs e he
  unfold b6;omega
 .obtain⟨s,hs,rfl⟩:=aaM.1 hl
  have hk:=(a.bc s hs).2.2
  exact⟨by have:=IZ b hk;omega,λx i=>((c6 b hk).1 i).has hk⟩
def OfI (g:ai) (a:List aL) (b:Nat) (ul us:V) (vs:List V) (m:Nat) (T:Env) (H:View):Prop:=∃ (ss:Sets) (more:Bool),m=(VM (aX g a) - Bd ss)+(if more then 1 else 0)/\cp H b g a ul us vs (aX g a) ss more []/\lp (aX g a) ss/\mI g (au g false) a (aX g a) ss /\
 (∀ k,((aX g a).getD 0 [])[k]?=some ⟨-1,0⟩->(ej ss 0 k).getLsbD g.af.length=true)/\(more=false->∀ i k,i < (aX g a).length->k < ((aX g a).getD i []).length->jL g (au g false) a (aX g a) i k ss=ss) /\
 T 1=.aH (ag g) 0/\T 4=aW a/\T 6=.ptr b 0 0
theorem WV (g:ai) (hg:g.Ok):cW Tryz.prog 34 [.agg (ag g)] (.bD [sW (oE g).1,gi (oE g).2]):=by
 refine cW.of (eK g) ?_
 have Y:=(EB g hg).pure
 refine av.of mixed AI ?_
 simp only[ag,encS] at Y
 simp(disch:=omega)only[↓wr,seval,wq,vr,ag,encS]
 refine ay.pure Y ?_
 unfold oE
 simp(disch:=omega)only[↓wr,seval,wq]
 apply ah.ne<;>intro h
 .simp(disch:=omega)only[↓wr,seval,wq]
  intro h' _
  rw[aat h]
  exact lB (.emp _)
 rw[aaw h]
 obtain⟨hW,hA⟩:=O3 hg h
 generalize (bJ g).1=a at *
 clear Y h
 have hf:=bu hW.right
 have dy:=hW.short
 have hT:=hf.af
 simp(disch:=omega)only[↓wr,seval,wq,ag,encS,Tt,YA]
 intro b
 have c0:cp (View.set (λ_=>di.dead) b (.arr 8 [fp g a (.emp 1) (.emp 1) false])) b g a (.emp 1) (.emp 1) [] ((aX g a).take 0) (gY ((aX g a).take 0)) false [] :=
  ⟨rfl,(((bk.nil.new (n:=b) (H:=λ_=>di.dead) rfl 8 [fp g a (.emp 1) (.emp 1) false]).emp (k:=1) (sz:=1)).emp (k:=1) (sz:=1)).perm Eg.symm⟩
 simp only[fp] at c0
 generalize (View.set (λ_=>di.dead) b (.arr 8 [[V.aE (g.af.map cm),.aE (g.ak.map λs=>[gs s]),.aE (g.rules.map aU),gi g.start,aW a,.emp 1,.emp 1,gb false]]))=H0 at c0 ⊢
 refine aS.up a.length (λi T H'=>∃ (ul us:V) (vs:List V),cp H' b g a ul us vs ((aX g a).take i) (gY ((aX g a).take i)) false []/\T 1=.aH (ag g) 0/\T 4=aW a/\T 6=.ptr b 0 0/\T 7=gi i) ⟨_,_,_,c0,rfl,rfl,rfl,rfl⟩ ?_
 clear c0
 rintro i k T H hk ⟨ul,us,vs,w,t1,t4,t6,t7⟩
 simp(disch:=omega)only[↓wr,seval,wq,sB,t1,t4,t6,t7,aW]
 apply ah.dec<;>intro C
 .have hs:a[i]?=some (a[i]'(by omega)):=aar (by omega)
  have br:=TP (g:=g) hs
  obtain⟨k1,k2,Z⟩:=hA.bc _ (aaC (show i < a.length by omega))
  generalize a[i]'(by omega)=s at hs br k1 k2 Z
  have p:=gK hf k1 Z
  have hC:=(JT g hg s.bc (by omega) (λx K=>yW hf (Z x K))).pure
  rw[List.filter_eq_self.2 λx K=>qw.2 ⟨hW.right,Z x K⟩] at hC
  have ea:=IZ hf Z
  have cg:cL g s.bc≠[]:=λe=>by
   cases hk:s.bc with
   | nil=>exact k2 hk
   | cons x r =>
    have:=(c6 hf Z).2 (.base (show x∈s.bc by rw[hk];simp))
    rw[e] at this;simp at this
  generalize cL g s.bc=cl at *
  have D:(aX g a).take (i+1)=(aX g a).take i ++ [cl]:=by rw[aaQ,br];rfl
  have Q:((aX g a).take i).length<=300:=by rw[abc];have:=hW.len;omega
  simp only[ag,encS] at hC
  simp(disch:=omega)only[↓wr,seval,wq,t1,t4,t6,t7,ag,encS,aW,aav,hs,aaz,eu]
  refine ay.pure hC ?_
  have hb:=w.box
  simp(disch:=omega)only[↓wr,seval,wq,t1,t4,t6,t7,hb,fp]
  intro q hq
  simp(disch:=omega)only[↓wr,seval,wq,bM]
  have o1:=(w.own.fresh (o:=.arr 1 [[.aE (aV cl)]]) hq).at 1 (by simp)
  refine ct o1 (by simp[aR]) (by unfold aD;simp only[aa8,aa4,lD];simp;omega) (by unfold aD;simp only[aa8,aa4,lD];simp;omega) ?_
  intro aq H2 o2 _
  simp only[aa8,aa4,abz,abA] at o2
  have bs:=o2.is 1 rfl (by simp)
  have o3:=(o2.perm (.swap _ _ _)).put (es':=[fp g a aq us false]) rfl rfl
  have cu:=o2.head.cells
  have ku:=o2.head.iO
  simp only[fp] at o3 bs
  clear o1 o2 hq hb
  simp(disch:=omega)only[↓wr,seval,wq,t1,t4,t6,t7,bs,cu,ku,bI]
  have bx:cl.length≠0:=λe=>cg (abQ.1 e)
  refine⟨⟨aaD _,by unfold aD;omega,by unfold aD;omega⟩,λhz=>absurd hz bx,λ_ nm ch=>?_⟩
  have o4:=o3.new (n:=nm) (by simpa [View.set] using ch) 1 (List.replicate cl.length [.val (.int .u32 0)])
  rw[abC] at o4
  intro q2 cj
  simp(disch:=omega)only[↓wr,seval,wq,bM,t1,t4,t6,t7]
  have o5:=(o4.fresh (n:=q2) (o:=.arr 1 [[.sl nm 0 cl.length 1]]) (by simpa [View.set] using cj)).at 3 (by simp)
  refine ct o5 (by simp[aR]) (by unfold aD;simp only[aa8,aa4,aaA];simp;have:=w.len;simp[gY] at this;omega) (by unfold aD;simp only[aa8,aa4,aaA];simp;have:=w.len;simp[gY] at this;omega) ?_
  intro b0 H5 o6 _
  simp only[aa8,aa4,abz,abA] at o6
  have ck:=o6.is 2 rfl (by simp)
  have cv:=o6.head.cells
  have cA:=o6.head.iO
  simp(disch:=omega)only[↓wr,seval,wq,t1,t4,t6,t7,ck,cv,cA]
  have o7:=(o6.at 2 (by simp)).put (es':=[fp g a aq b0 false]) rfl rfl
  simp only[aa8,aa4,abz,abA] at o7
  refine aC hk (by omega) ⟨aq,b0,vs ++ [.sl nm 0 cl.length 1],⟨?_,?_⟩,t1,t4,t6,rfl⟩
  .have:=w.len
   rw[D];simp[gY] at this ⊢;exact this
  .have e1:Av ((aX g a).take i ++ [cl])=Av ((aX g a).take i) ++ [[.aE (aV cl)]]:=by simp[Av]
   have e2:gY ((aX g a).take i ++ [cl])=gY ((aX g a).take i) ++ [List.replicate cl.length 0]:=by simp[gY]
   have e3:(List.replicate cl.length [V.val (.int .u32 0)])=bV (List.replicate cl.length (0:BV)):=by simp
   rw[D,e1,e2,K8 _ _ w.len,aaS,abI]
   rw[e3,abI] at o7
   exact o7.perm (.cons _ ((aba (l₁:=[_,_])).trans (.cons _ (.cons _ (ab7 _ _).symm))))
 rw[aaJ (by have:=hW.len;omega)] at w
 have eb:=λm=>hW.item m
 simp(disch:=omega)only[↓wr,seval,wq,t1,t4,t6,ag]
 refine ay.pure (DU (g.af.length:Int)) ?_
 simp(disch:=omega)only[↓wr,seval,wq,t1,t4,t6]
 have M:=Sb (aX g a)
 have R:0 < (aX g a).length:=by have:=hW.len;have:=hW.Qc;omega
 refine ay.dr ((GC g a ul us vs (aX g a) (gY (aX g a)) false [] b H w M (λl hl=>(hW.item l hl).1) 0 R ⟨-1,0⟩ (dT g.af.length)).mono ?_)
 intro _ H1 E
 have an:∀ t,(dT (g.af.length:Int)).getLsbD t=true↔t=g.af.length:=λt=>by
  rw[dT,aaw (by omega),abU]
  simp only[aaN,aaB,aaE]
  omega
 have b1:=js M R ⟨-1,0⟩ (dT g.af.length)
 have b2:mI g (au g false) a (aX g a) (fW (aX g a) (gY (aX g a)) 0 ⟨-1,0⟩ (dT g.af.length)):=by
  refine xy M (λi k x t _ h=>by rw[Hn] at h;simp at h) R λt ht hm=>?_
  rw[(an t).1 ht]
  exact .start hm
 have b3:∀ k,((aX g a).getD 0 [])[k]?=some ⟨-1,0⟩->(ej (fW (aX g a) (gY (aX g a)) 0 ⟨-1,0⟩ (dT g.af.length)) 0 k).getLsbD g.af.length=true:=λk hk=>by
  rw[wQ M R,aaw ⟨rfl,hk⟩,aa5,(an _).2 rfl,Bool.or_true]
 have b4:(false || decide (fW (aX g a) (gY (aX g a)) 0 ⟨-1,0⟩ (dT g.af.length)≠gY (aX g a)))=false->∀ i k,i < (aX g a).length->k < ((aX g a).getD i []).length->jL g (au g false) a (aX g a) i k (fW (aX g a) (gY (aX g a)) 0 ⟨-1,0⟩ (dT g.af.length))=fW (aX g a) (gY (aX g a)) 0 ⟨-1,0⟩ (dT g.af.length):=λh i k _ _=>by
  simp only[acD,abW,Classical.not_not] at h
  rw[h,jL,aaw (.inr (Hn _ _ _))]
 generalize fW (aX g a) (gY (aX g a)) 0 ⟨-1,0⟩ (dT g.af.length)=b5 at *
 generalize (false || decide (b5≠gY (aX g a)))=ar at *
 simp(disch:=omega)only[↓wr,seval,wq,t1,t4,t6]
 refine aS.intro (OfI g a b ul us vs) _ ⟨b5,ar,rfl,E,b1,b2,b3,b4,t1,t4,t6⟩ ?_
 clear w E b1 b2 b3 b4 t1 t4 t6 t7 M C hk
 rintro m T2 H2 ⟨c,cC,rfl,w,u,hd,h0,b7,t1,t4,t6⟩
 have hb:=w.box
 have a1:=hW.len
 have a6:=hW.Qc
 obtain⟨nl,rfl,_⟩:=w.lists (by omega)
 simp(disch:=omega)only[↓wr,seval,wq,sY,t1,t4,t6,hb,fp]
 apply ah.split<;>intro hm
 .have E:=w.flag false
  simp only[fp] at E
  simp(disch:=omega)only[↓wr,seval,wq,t1,t4,t6,hb,fp]
  refine aS.up a.length (λi T H'=>∃ ss:Sets,cp H' b g a (.sl nl 0 (aX g a).length 1) us vs (aX g a) ss (decide (ss≠c)) []/\lp (aX g a) ss/\mI g (au g false) a (aX g a) ss/\lh c ss /\
   (ss=c->∀ L k,L < i->k < ((aX g a).getD L []).length->jL g (au g false) a (aX g a) L k c=c)/\T 1=.aH (ag g) 0/\T 4=aW a/\T 6=.ptr b 0 0/\T 9=gi i)
   ⟨c,by rw[decide_eq_false (by simp)];exact E,u,hd,.refl,λ_ L k h=>by omega,t1,t4,t6,rfl⟩ ?_
  clear E t1 t4 t6 hb
  rintro i k2 T3 H3 a7 ⟨ss,y,S,a8,z,bb,t1,t4,t6,t9⟩
  simp(disch:=omega)only[↓wr,seval,wq,sJ,t1,t4,t6,t9,aW]
  apply ah.dec<;>intro C
  .have f:i < (aX g a).length:=by omega
   have cN:=(hW.item _ (aax (getD_some (d:=[]) f))).1
   simp(disch:=omega)only[↓wr,seval,wq,t1,t4,t6,t9]
   refine aS.up ((aX g a).getD i []).length (λk T H'=>∃ ss:Sets,cp H' b g a (.sl nl 0 (aX g a).length 1) us vs (aX g a) ss (decide (ss≠c)) []/\lp (aX g a) ss/\mI g (au g false) a (aX g a) ss/\lh c ss /\
    (ss=c->(∀ L k,L < i->k < ((aX g a).getD L []).length->jL g (au g false) a (aX g a) L k c=c)/\∀ O,O < k->jL g (au g false) a (aX g a) i O c=c)/\T 1=.aH (ag g) 0/\T 4=aW a/\T 6=.ptr b 0 0/\T 9=gi i/\T 10=gi k)
    ⟨ss,y,S,a8,z,λe=>⟨bb e,λO h=>by omega⟩,t1,t4,t6,t9,rfl⟩ ?_
   clear y S a8 z bb t1 t4 t6 t9
   rintro k Z T4 H4 N ⟨ss,j,U,b8,A,W,t1,t4,t6,t9,t10⟩
   have F:=j.box
   have G:=(j.GW (by omega)).1
   have I:=F7 f
   simp(disch:=omega)only[↓wr,seval,wq,sM,t1,t4,t6,t9,t10,F,fp,G,I,lD,bI]
   refine⟨f,f,?_⟩
   apply ah.dec<;>intro bd
   .have p:k < ((aX g a).getD i []).length:=by omega
    simp(disch:=omega)only[↓wr,seval,wq,t1,t4,t6,t9,t10]
    refine ay.dr ((W4 g a _ us vs (aX g a) ss _ [] b H4 hW j U i k f p).mono ?_)
    intro _ H5 J
    obtain⟨p1,p2⟩:=Lw (g:=g) (null:=au g false) a1 a6 f k U
    have p3:=Mx a1 a6 f p U b8
    rw[Lp A p2] at J
    simp(disch:=omega)only[↓wr,seval,wq,t1,t4,t6,t9,t10]
    refine aC N p ⟨_,J,p1,p3,A.trans p2,λe=>?_,t1,t4,t6,t9,rfl⟩
    have e1:ss=c:=lh.tF (Eq.mp (abk (lh ss) e) p2) A
    subst e1
    refine⟨(W rfl).1,λO b9=>?_⟩
    rcases aaT O k with Q | cS
    .exact(W rfl).2 O Q
    .have:O=k:=by omega
     subst this
     exact e
   .simp(disch:=omega)only[↓wr,seval,wq,t1,t4,t6,t9]
    refine aC a7 (by omega) ⟨ss,j,U,b8,A,λe L O ec b9=>?_,t1,t4,t6,rfl⟩
    rcases aaT L i with Q | cS
    .exact(W e).1 L O Q b9
    .have:L=i:=by omega
     subst this
     exact(W e).2 O (by omega)
  .simp(disch:=omega)only[↓wr,seval,wq,t1,t4,t6]
   have q1:=MM z
   have q2:=JK S
   refine⟨_,?_,ss,decide (ss≠c),rfl,y,S,a8,λk hk=>z.2.2 0 k _ (h0 k hk),λe=>?_,t1,t4,t6⟩
   .rw[hm]
    by_cases e:ss=c
    .subst e;simp
    .have:=q1.2 (λh=>e h.symm)
     simp[e];omega
   .have e2:ss=c:=by simpa using e
    have h3:=bb e2
    rw[e2]
    exact λi k hi hk=>h3 i k (by omega) hk
 .have X:=b7 hm
  subst hm
  have ca:=λi k x=>Vu (i:=i) (k:=k) (x:=x) a1 a6 u hd h0 X
  obtain⟨nu,rfl,_⟩:=w.PL (by rw[u.1];omega)
  simp(disch:=omega)only[↓wr,seval,wq,t1,t4,t6]
  refine aS.up a.length (λi T H'=>∃ (uo:V) (B:Lz),B.map (·.2)=(gh g a).take i/\cp H' b g a (.sl nl 0 (aX g a).length 1) (.sl nu 0 c.length 1) vs (aX g a) c false ((uo,1,bt B) :: mQ B)/\T 1=.aH (ag g) 0/\T 4=aW a/\T 6=.ptr b 0 0/\T 11=uo/\T 12=gi i)
   ⟨.emp 1,[],by simp,w.emp 1 1,t1,t4,t6,rfl,rfl⟩ ?_
  clear w t1 t4 t6 hb
  rintro i k2 T3 H3 a7 ⟨uo,B,Y,y,t1,t4,t6,t11,t12⟩
  simp(disch:=omega)only[↓wr,seval,wq,s9,t1,t4,t6,t11,t12,aW]
  apply ah.dec<;>intro C
  .have f:i < (aX g a).length:=by omega
   have cN:=(hW.item _ (aax (getD_some (d:=[]) f))).1
   simp(disch:=omega)only[↓wr,seval,wq,t1,t4,t6,t11,t12]
   refine aS.up ((aX g a).getD i []).length (λk T H'=>∃ P:V,cp H' b g a (.sl nl 0 (aX g a).length 1) (.sl nu 0 c.length 1) vs (aX g a) c false ((P,2,hX ((((aX g a).getD i []).take k).filterMap λx=>if (bp g x).2=false/\0<=x.ax then some ⟨x.ax,oX g a i x⟩ else none)) :: (uo,1,bt B) :: mQ B) /\
    T 1=.aH (ag g) 0/\T 4=aW a/\T 6=.ptr b 0 0/\T 11=uo/\T 12=gi i/\T 13=P/\T 14=gi k)
    ⟨.emp 1,y.emp 1 2,t1,t4,t6,t11,t12,rfl,rfl⟩ ?_
   clear y t1 t4 t6 t11 t12
   rintro k Z T4 H4 N ⟨P,j,t1,t4,t6,t11,t12,t13,t14⟩
   have F:=j.box
   have G:=(j.GW (by omega)).1
   have I:=F7 f
   simp(disch:=omega)only[↓wr,seval,wq,te,t1,t4,t6,t11,t12,t13,t14,F,fp,G,I,lD,bI]
   refine⟨f,f,?_⟩
   apply ah.dec<;>intro bd
   .have p:k < ((aX g a).getD i []).length:=by omega
    have K:((aX g a).getD i [])[k]?=some (((aX g a).getD i [])[k]'p):=aar p
    have bl:=(hW.item _ (aax (getD_some (d:=[]) f))).2 _ (aaC p)
    have D:((aX g a).getD i []).take (k+1)=((aX g a).getD i []).take k ++ [((aX g a).getD i [])[k]'p]:=by rw[aaQ,K];rfl
    generalize ((aX g a).getD i [])[k]'p=x at K bl D
    have hN:=Hj g hW.WC x (yW hf bl)
    rw[FQ,aaw (qw.2 ⟨hW.right,bl⟩)] at hN
    have cV:=ca i k x K
    have bn:vs[i]?=some (vs[i]'(by rw[j.len,u.1];exact f)):=aar _
    generalize vs[i]'(by rw[j.len,u.1];exact f)=v at bn
    have ee:=u.2 i
    have c3:i < vs.length:=by rw[j.len,u.1];exact f
    have c5:i < c.length:=by rw[u.1];exact f
    obtain⟨nv,rfl,c9⟩:=(j.row bn).sl (by rw[nf];omega)
    have hw:(c.getD i [])[k]?=some (ej c i k):=getD_some (by omega)
    have da:=(j.RG (by omega)).1
    have db:=List.length_filterMap_le (λx:aA=>if (bp g x).2=false/\0<=x.ax then some (⟨x.ax,oX g a i x⟩:cb) else none) (((aX g a).getD i []).take k)
    rw[abc] at db
    rw[cV] at hw
    simp only[ag,encS,bF] at hN
    simp(disch:=omega)only[↓wr,seval,wq,t1,t4,t6,t11,t12,t13,t14,F,fp,G,I,lD,aV,aav,K,aaz,bF,ag,encS]
    refine⟨f,f,?_⟩
    refine ay.pure hN ?_
    have skip:¬ ((bp g x).2=false/\0<=x.ax)->(((aX g a).getD i []).take (k+1)).filterMap (λx=>if (bp g x).2=false/\0<=x.ax then some (⟨x.ax,oX g a i x⟩:cb) else none)=(((aX g a).getD i []).take k).filterMap (λx=>if (bp g x).2=false/\0<=x.ax then some (⟨x.ax,oX g a i x⟩:cb) else none):=λdc=>by
     rw[D,List.filterMap_append]
     simp[dc]
    have take:((bp g x).2=false/\0<=x.ax)->(((aX g a).getD i []).take (k+1)).filterMap (λx=>if (bp g x).2=false/\0<=x.ax then some (⟨x.ax,oX g a i x⟩:cb) else none)=(((aX g a).getD i []).take k).filterMap (λx=>if (bp g x).2=false/\0<=x.ax then some (⟨x.ax,oX g a i x⟩:cb) else none) ++ [⟨x.ax,oX g a i x⟩]:=λcc=>by
     rw[D,List.filterMap_append]
     simp[cc]
    simp(disch:=omega)only[↓wr,seval,wq,t1,t4,t6,t11,t12,t13,t14]
    apply ah.split<;>intro bq
    .simp(disch:=omega)only[↓wr,seval,wq,t1,t4,t6,t11,t12,t13,t14]
     exact aC N p ⟨P,by rw[skip (by simp[bq])];exact j,t1,t4,t6,t11,t12,t13,rfl⟩
    .simp(disch:=omega)only[↓wr,seval,wq,t1,t4,t6,t11,t12,t13,t14,F,fp,G,I,lD,aV,aav,K,aaz,bF]
     refine⟨f,f,?_⟩
     apply ah.dec<;>intro h0
     .simp(disch:=omega)only[↓wr,seval,wq,t1,t4,t6,t11,t12,t13,t14,F,fp,G,I,lD,aV,aav,K,aaz,bF,da,FK bn,c9,yy hw,nf]
      refine⟨f,f,c5,c3,by omega,by omega,?_⟩
      intro q hq
      simp(disch:=omega)only[↓wr,seval,wq,bM]
      refine cp.goApp (j.fresh hq) (by simp[aR]) (by unfold aD;rw[hX,aaA];simp only[aaK,aa2];omega) (by unfold aD;rw[hX,aaA];simp only[aaK,aa2];omega) ?_
      intro u2 H5 J
      simp(disch:=omega)only[↓wr,seval,wq,t1,t4,t6,t11,t12,t13,t14]
      exact aC N p ⟨u2,by rw[take ⟨bq,h0⟩,hX,aaS];exact J,t1,t4,t6,t11,t12,rfl,rfl⟩
     .simp(disch:=omega)only[↓wr,seval,wq,t1,t4,t6,t11,t12,t13,t14]
      exact aC N p ⟨P,by rw[skip (by omega)];exact j,t1,t4,t6,t11,t12,t13,rfl⟩
   .simp(disch:=omega)only[↓wr,seval,wq,t1,t4,t6,t11,t12,t13,t14]
    have dj:=abk List.length Y
    simp only[aaA,abc] at dj
    have dm:=j.Wu.cells
    have cf:=j.Wu.iO
    rw[aaJ (by omega)] at j
    have ds:(gh g a)[i]?=some (gB g a i):=by rw[gh,aav,abS (by omega)];rfl
    simp(disch:=omega)only[↓wr,seval,wq,t1,t4,t6,t11,t12,t13,t14,dm,cf]
    intro q hq
    simp(disch:=omega)only[↓wr,seval,wq,bM,t1,t4,t6,t11,t12,t13,t14]
    refine cp.goApp ((j.Wd (.swap _ _ _)).fresh hq) (by simp[cf]) (by unfold aD;simp[bt];omega) (by unfold aD;simp[bt];omega) ?_
    intro dv H5 J
    simp(disch:=omega)only[↓wr,seval,wq,t1,t4,t6,t11,t12]
    refine aC a7 (by omega) ⟨dv,B ++ [(P,gB g a i)],?_,?_,t1,t4,t6,rfl,rfl⟩
    .rw[aaS,Y,aaQ,ds];rfl
    .have e1:bt (B ++ [(P,gB g a i)])=bt B ++ [[P]]:=by simp[bt]
     have e2:mQ (B ++ [(P,gB g a i)])=mQ B ++ [(P,2,hX (gB g a i))]:=by simp[mQ]
     rw[e1,e2]
     exact J.Wd (.cons _ (ab7 _ _).symm)
  .simp(disch:=omega)only[↓wr,seval,wq,t11]
   rw[aaJ (by simp[gh];omega)] at Y
   rintro h' rfl
   rw[<-Y]
   have ho:=(y.own.perm pD)
   refine lB (N6 ho.head λx K=>ho.1 (x.1,2,hX x.2) (aaO _ (aaO _ (aaO _ (aaO _ (ab4 _ (aaM.2 ⟨x,K,rfl⟩)))))))
def pI:SC :=
 ae [ae [ab [aa 7 6,aa 8 0,aM 9 8,aQ 10 .lss 7 9],bS 10 (.exit 0)],.block 1 (ae [ab [aa 13 0,aa 14 6,aI 15 2 13 14,ao 16 1 15,aj 17 16,aa 18 1,bm 19 80 [17,18]],bf 19 (ab [aa 20 5,aa 21 0,aa 22 6,aI 23 2 21 22,ao 24 0 23,aj 25 24,((some 26),.op (.bW 1 1 [(.val (.int .i64 0))] [(0,(.tmp 25))])),gx 27 1 8 20 26,aa 5 27])]),ab [aa 11 6,aF 12 .add 11 1,aa 6 12]]
def qT:SF:=⟨ae [ab [cT 4 1],ab [cT 5 1],ae [ab [aT 6 0],bX 0 pI],ab [aa 28 5,aa 4 28],.ret],
 [.tmp 4],29⟩
theorem w9:aO Tryz.prog 39 []=some qT:=by kernel_rfl
theorem Pu (l:List cb) (hl:l.length<=10000) (n:Int):cW Tryz.prog 39 [.aE (hX l),gi n] (encI (dt l n)):=by
 refine cW.of (by
  intro v d;simp at d
  rcases d with rfl | rfl
  .exact N0 _
  .exact .val _) ?_
 refine av.of mixed w9 ?_
 simp(disch:=omega)only[↓wr,seval,wq,qT,hX]
 refine aS.up l.length (λi T H'=>∃ u:V,ba H' u 1 (bK (dt (l.take i) n))/\T 0=.aE (hX l)/\T 1=gi n/\T 5=u/\T 6=gi i) ⟨.emp 1,.nil,rfl,rfl,rfl,rfl⟩ ?_
 rintro i k T H hk ⟨u,b,t0,t1,t5,t6⟩
 simp(disch:=omega)only[↓wr,seval,wq,pI,t0,t1,t5,t6,hX]
 apply ah.dec<;>intro e
 .have c:l[i]?=some (l[i]'(by omega)):=aar (by omega)
  generalize l[i]'(by omega)=x at c
  have a:dt (l.take (i+1)) n=if hasB x.set n=true then dt (l.take i) n ++ [x.ax] else dt (l.take i) n:=by
   unfold dt
   rw[wH c]
   split <;> simp
  have f:(dt (l.take i) n).length<=i:=by
   unfold dt
   have:=abh (λx:cb=>hasB x.set n) (l.take i)
   simp only[aaA,abc] at this ⊢
   omega
  simp(disch:=omega)only[↓wr,seval,wq,t0,t1,t5,t6,hX,aav,c,aaz,zY]
  refine ay.pure (Uv x.set n) ?_
  simp(disch:=omega)only[↓wr,seval,wq,t0,t1,t5,t6]
  apply ah.split<;>intro he
  .simp(disch:=omega)only[↓wr,seval,wq,t0,t1,t5,t6,hX,aav,c,aaz,zY]
   intro q hq
   simp(disch:=omega)only[↓wr,seval,wq,bM]
   refine gO (b.fresh hq) (by simp[aR]) (by unfold aD;simp;omega) (by unfold aD;simp;omega) ?_
   intro g j h _
   simp(disch:=omega)only[↓wr,seval,wq,t0,t1,t5,t6]
   rw[aaw he] at a
   exact aC hk (by omega) ⟨g,by rw[a];simpa using h,t0,t1,rfl,rfl⟩
  .simp(disch:=omega)only[↓wr,seval,wq,t0,t1,t5,t6]
   rw[aat (by rw[he];simp)] at a
   exact aC hk (by omega) ⟨u,by rw[a];exact b,t0,t1,t5,rfl⟩
 .rw[aaJ (by omega)] at b
  simp(disch:=omega)only[↓wr,seval,wq,t5]
  rintro m rfl
  exact kK b
theorem IC {g:ai} {t:Int} {x:Term} (h:g.af[t.toNat]?=some x):ib g t=x.level/\yA g t=x.assoc:=by
 simp[ib,yA,h]
def vB:SF:=⟨ae [ab [bw 2 false],ab [aa 3 0,aa 4 0,aQ 5 .neq 3 4,aa 2 5],.ret],
 [.tmp 2],6⟩
theorem AL:aO Tryz.prog 173 []=some vB:=by kernel_rfl
def sS:SF:=⟨ae [ab [aT 4 0],ab [aa 7 0,bm 8 173 [7],aa 5 8],ab [aa 9 1,bm 10 173 [9],aa 6 10],ae [ab [aa 11 5],bf 11 (ae [ae [ab [aa 12 6],bf 12 (ae [ab [aT 4 0],.ret])],ab [aT 4 (-1)],.ret])],ae [ab [aa 13 6],bf 13 (ae [ab [aT 4 1],.ret])],ae [ab [aa 14 0,aa 15 1,aQ 16 .lss 14 15],bf 16 (ae [ab [aT 4 (-1)],.ret])],ae [ab [aa 17 0,aa 18 1,aQ 19 .gtr 17 18],bf 19 (ae [ab [aT 4 1],.ret])],ab [aT 4 0],.ret],
 [.tmp 4],20⟩
theorem x6:aO Tryz.prog 126 []=some sS:=by kernel_rfl
def yn:SF:=⟨ae [ab [cy 3 0,aT 6 0],.block 0 (ae [.region false [⟨none,[aY 11 4 3,bm 12 52 [11],c4 13 12,aa 14 13]⟩,⟨(some (14,false)),[aa 15 1,aF 16 .lss 15 0]⟩,⟨none,[cF 17 14 16,aa 18 17]⟩,⟨(some (18,false)),[aa 19 1,ao 20 2 3,aj 21 20,aM 22 21,aQ 23 .geq 19 22]⟩,⟨none,[cF 24 18 23,aa 25 24]⟩,⟨(some (25,false)),[aa 26 2,aF 27 .lss 26 0]⟩,⟨none,[cF 28 25 27,aa 29 28]⟩,⟨(some (29,false)),[aa 30 2,ao 31 0 3,aj 32 31,aM 33 32,aQ 34 .gtr 30 33]⟩,⟨none,[cF 35 29 34,aa 10 35]⟩],.cond (.tmp 10) (ae [ab [aT 6 0],.ret]) (ae [.region false [⟨none,[aa 37 2,ao 38 0 3,aj 39 38,aM 40 39,aQ 41 .eql 37 40,aa 42 41]⟩,⟨(some (42,false)),[ao 43 2 3,aj 44 43,aa 45 1,aI 46 3 44 45,ao 47 2 46,aj 48 47,aF 49 .lss 48 0]⟩,⟨none,[cF 50 42 49,aa 36 50]⟩],bf 36 (ae [ab [aT 6 4],.ret])])]),.region false [⟨none,[ao 51 0 3,aj 52 51,ao 53 2 3,aj 54 53,aa 55 1,aI 56 3 54 55,ao 57 2 56,aj 58 57,aI 59 3 52 58,aY 60 3 59,ao 61 0 3,aj 62 61,aa 63 2,aI 64 3 62 63,aY 65 3 64,((some 7),.op (.alloc [(.val (.string ⟨#[]⟩)),(.val (.int .i64 0)),(.val (.int .i64 0))])),((some 8),.op (.alloc [(.val (.string ⟨#[]⟩)),(.val (.int .i64 0)),(.val (.int .i64 0))])),bZ 3 7 60,bZ 3 8 65]⟩],ae [.region false [⟨none,[ao 66 1 7,aj 67 66,aF 68 .eql 67 0,aa 69 68]⟩,⟨(some (69,false)),[ao 70 1 8,aj 71 70,aF 72 .eql 71 0]⟩,⟨none,[cF 73 69 72]⟩],bf 73 (ae [ab [aT 6 4],.ret])],ae [ab [ao 74 1 7,aj 75 74,ao 76 1 8,aj 77 76,bm 78 126 [75,77],aa 9 78],.block 1 (ae [ab [aa 80 9,aF 81 .gtr 80 0,aa 79 81],.cond (.tmp 79) (ae [ab [aT 6 1],.ret]) (ae [ab [aa 83 9,aF 84 .lss 83 0,aa 82 84],bf 82 (ae [ab [aT 6 2],.ret])])])],ae [ab [ao 85 2 8,aj 86 85],.block 2 (ae [ab [aF 88 .eql 86 1,aa 87 88],.cond (.tmp 87) (ae [ab [aT 6 1],.ret]) (ae [ab [aF 90 .eql 86 2,aa 89 90],bf 89 (ae [ab [aT 6 2],.ret])])])],ab [aT 6 3],.ret],
 [.tmp 6],91⟩
theorem CY:aO Tryz.prog 84 [3]=some yn:=by kernel_rfl
def JL (x y:Int):Int:=if x < y then -1 else if y < x then 1 else 0
theorem Lt (x:Int):az Tryz.prog 173 [gi x] (gb false):=by
 refine az.val (by intro v a;simp at a;subst a;exact .val _) λH=>?_
 refine av.of mixed AL ?_
 simp(disch:=omega)only[↓wr,seval,wq,vB]
 try simp
theorem Qg (x y:Int):az Tryz.prog 126 [gi x,gi y] (gi (JL x y)):=by
 refine az.val (by intro v b;simp at b;rcases b with rfl | rfl <;> exact .val _) λH=>?_
 refine av.of mixed x6 ?_
 simp(disch:=omega)only[↓wr,seval,wq,sS]
 refine ay.pure (Lt x) ?_
 simp(disch:=omega)only[↓wr,seval,wq]
 refine ay.pure (Lt y) ?_
 simp(disch:=omega)only[↓wr,seval,wq]
 apply ah.dec<;>intro h1
 .simp(disch:=omega)only[↓wr,seval,wq]
  rw[JL,aaw h1]
 simp(disch:=omega)only[↓wr,seval,wq]
 apply ah.dec<;>intro a
 .simp(disch:=omega)only[↓wr,seval,wq]
  rw[JL,aat h1,aaw a]
 simp(disch:=omega)only[↓wr,seval,wq]
 rw[JL,aat h1,aat a]
theorem PS (g:ai) (w:g.Ok) (i:g.Small) (ax term:Int):az Tryz.prog 84 [.agg (ag g),gi ax,gi term] (gi (fL g ax term)):=by
 refine az.val (by
  intro v l;simp at l
  rcases l with rfl | rfl | rfl
  .exact cn _ (dq g)
  .exact .val _
  .exact .val _) λH=>?_
 have c:=mM g w i.names
 refine av.of mixed CY ?_
 simp only[ag,encS] at c
 simp(disch:=omega)only[↓wr,seval,wq,yn,ag,encS]
 refine ay.pure c ?_
 have bad:bC g=false∨ax < 0∨(g.rules.length:Int)<=ax∨term < 0∨(g.af.length:Int) < term->fL g ax term=0:=λh=>by rw[fL,aaw h]
 cases hr:bC g with
 | false =>
  simp(disch:=omega)only[↓wr,seval,wq]
  rw[bad (.inl hr)]
 | true =>
  have x:=bu hr
  simp(disch:=omega)only[↓wr,seval,wq]
  apply ah.dec<;>intro h1
  .simp(disch:=omega)only[↓wr,seval,wq]
   rw[bad (.inr (by omega))]
  simp(disch:=omega)only[↓wr,seval,wq,ag]
  apply ah.dec<;>intro y
  .simp(disch:=omega)only[↓wr,seval,wq]
   rw[bad (.inr (by omega))]
  simp(disch:=omega)only[↓wr,seval,wq]
  apply ah.dec<;>intro z
  .simp(disch:=omega)only[↓wr,seval,wq]
   rw[bad (.inr (by omega))]
  simp(disch:=omega)only[↓wr,seval,wq,ag]
  apply ah.dec<;>intro A
  .simp(disch:=omega)only[↓wr,seval,wq]
   rw[bad (.inr (by omega))]
  have f:g.rules[ax.toNat]?=some (aw g ax):=by unfold aw;exact getD_some (by omega)
  have B:=x.prec _ (aax f)
  have m:fL g ax term=if term=g.af.length∨(aw g ax).prec < 0∨ib g (aw g ax).prec=0∨ib g term=0 then 4
    else if ib g term < ib g (aw g ax).prec∨ib g (aw g ax).prec=ib g term/\yA g term=1 then 1
    else if ib g (aw g ax).prec < ib g term∨yA g term=2 then 2 else 3:=by
   rw[fL,aat (by rw[hr];simp;omega)]
  rw[m]
  clear m bad
  generalize aw g ax=R at f B
  simp(disch:=omega)only[↓wr,seval,wq,ag]
  apply ah.eq<;>intro n
  .simp(disch:=omega)only[↓wr,seval,wq]
   rw[aaw (.inl n)]
  simp(disch:=omega)only[↓wr,seval,wq,ag,aav,f,aaz,aU]
  apply ah.dec<;>intro o
  .simp(disch:=omega)only[↓wr,seval,wq]
   rw[aaw (.inr (.inl o))]
  have hp:g.af[R.prec.toNat]?=some (g.af[R.prec.toNat]'(by omega)):=aar (by omega)
  have hq:g.af[term.toNat]?=some (g.af[term.toNat]'(by omega)):=aar (by omega)
  generalize g.af[R.prec.toNat]'(by omega)=p at hp
  generalize g.af[term.toNat]'(by omega)=q at hq
  obtain⟨C,_⟩:=IC hp
  obtain⟨D,E⟩:=IC hq
  rw[C,D,E]
  have d:=Qg p.level q.level
  simp(disch:=omega)only[↓wr,seval,wq,ag,aav,f,hp,hq,aaz,aU,cm]
  intro r F s j
  have a:¬ r=s:=λe=>(df j c7).1 e.symm
  have b:¬ s=r:=λe=>a e.symm
  simp(disch:=omega)only[↓wr,seval,wq,a,b,set_set,cm]
  apply ah.eq<;>intro t
  .simp(disch:=omega)only[↓wr,seval,wq]
   rw[aaw (.inr (.inr (.inl t)))]
  simp(disch:=omega)only[↓wr,seval,wq,a,b,cm]
  apply ah.eq<;>intro u
  .simp(disch:=omega)only[↓wr,seval,wq]
   rw[aaw (.inr (.inr (.inr u)))]
  rw[aat (by omega)]
  simp(disch:=omega)only[↓wr,seval,wq,a,b,cm]
  refine ay.pure d ?_
  unfold JL
  simp(disch:=omega)only[↓wr,seval,wq]
  by_cases c1:p.level < q.level
  .rw[aaw c1,aat (by omega),aaw (by omega)]
   refine ah.dec (λh=>absurd h (by omega)) (λ_=>?_)
   simp(disch:=omega)only[↓wr,↓reduceIte,wq,Nat.reduceEqDiff,Nat.reduceAdd,Nat.reduceLT,Nat.reduceLeDiff,Int.reduceNeg,Int.reduceToNat,reduceCtorEq]
   refine ah.dec (λ_=>?_) (λh=>absurd (by omega) h)
   simp(disch:=omega)only[↓wr,seval,wq]
  rw[aat c1]
  by_cases c2:q.level < p.level
  .rw[aaw c2,aaw (by omega)]
   refine ah.dec (λ_=>?_) (λh=>absurd (by omega) h)
   simp(disch:=omega)only[↓wr,seval,wq]
  rw[aat c2]
  refine ah.dec (λh=>absurd h (by omega)) (λ_=>?_)
  simp(disch:=omega)only[↓wr,↓reduceIte,wq,Nat.reduceEqDiff,Nat.reduceAdd,Nat.reduceLT,Nat.reduceLeDiff,Int.reduceNeg,Int.reduceToNat,reduceCtorEq]
  refine ah.dec (λh=>absurd h (by omega)) (λ_=>?_)
  simp(disch:=omega)only[↓wr,seval,wq,a,b,cm]
  apply ah.eq<;>intro G
  .simp(disch:=omega)only[↓wr,seval,wq]
   rw[aaw (by omega)]
  simp(disch:=omega)only[↓wr,seval,wq]
  apply ah.eq<;>intro k
  .simp(disch:=omega)only[↓wr,seval,wq]
   rw[aat (by omega),aaw (by omega)]
  simp(disch:=omega)only[↓wr,seval,wq]
  rw[aat (by omega),aat (by omega)]
def PU (c:jH):List V:=[gi c.state,gi c.term,gi c.kind,gi c.ax,gi c.other]
def jX (l:List jH):List (List V):=l.map PU
theorem rD (l:List jH):(jX l).length=l.length:=by simp[jX]
theorem Yr {h:aG} {u:V} {l:List jH} (b:ba h.view u 5 (jX l)):dB h u (.aE (jX l)):=by
 refine dB.own b rfl (λi _=>rfl) (λi j hi a=>?_)
 rw[rD] at hi
 have e:(jX l).getD i []=PU l[i]:=by simp[jX,aaq,hi]
 rw[e] at a ⊢
 match j,a with
 | 0,_=>exact .val _
 | 1,_=>exact .val _
 | 2,_=>exact .val _
 | 3,_=>exact .val _
 | 4,_=>exact .val _
theorem tY (l:List cb) (n:Int):(dt l n).length<=l.length:=by
 unfold dt;rw[aaA];exact abh _ _
theorem Qa (g:ai) (s:aL) (l:List cb) (st t:Int):(eV g s l st t).2.length<=l.length:=by
 have:=tY l t
 unfold eV
 cases h:dt l t with
 | nil=>simp
 | cons r rs =>
  rw[h] at this
  simp only[aaK] at this
  simp only
  split
  .simp[gf];omega
  .simp[gf];omega
theorem Qo (g:ai) (s:aL) (l:List cb) (st:Int) (n:Nat):fX g s l st (n+1)=fX g s l st n ++ [(eV g s l st n).1]:=by simp[fX,abi]
theorem BN (g:ai) (s:aL) (l:List cb) (st:Int) (n:Nat):tA g s l st (n+1)=tA g s l st n ++ (eV g s l st n).2:=by simp[tA,abi]
theorem DV {g:ai} {s:aL} {l:List cb} {st:Int} (hl:l.length<=10000):∀ n:Nat,(tA g s l st n).length<=n * 10000
 | 0=>by simp[tA]
 | n+1=>by
  have h1:=DV (g:=g) (s:=s) (st:=st) hl n
  have a:=Qa g s l st n
  rw[BN,abd]
  omega
theorem AX (g:ai) (a:List aL) (l:List (List cb)) (n:Nat):rN g a l (n+1)=rN g a l n ++ tA g (a.getD n aN) (l.getD n []) n (g.af.length+1):=by simp[rN,abi]
theorem D9 {g:ai} {a:List aL} {l:List (List cb)} (hl:∀ i,(l.getD i []).length<=10000) (b:g.af.length<=24):∀ n:Nat,(rN g a l n).length<=n * 250000
 | 0=>by simp[rN]
 | n+1=>by
  have h1:=D9 (a:=a) hl b n
  have c:=DV (g:=g) (s:=a.getD n aN) (st:=n) (hl n) (g.af.length+1)
  rw[AX,abd]
  omega
theorem Is {h:aG} {u v s t w x:V} {e:Int} (h1:dB h u s) (a:dB h v t) (b:dB h w x):dB h (.bD [.agg [u,v],w,gi e]) (.bD [.agg [s,t],x,gi e]):=.bD _ _ rfl λi hi=>by
 match i,hi with
 | 0,_=>exact XD h1 a
 | 1,_=>exact b
 | 2,_=>exact .val _
theorem YI {α:Type} {X Y:α} {C I:List α} : (Y :: X :: (C ++ I)).Perm ((C ++ [X]) ++ (I ++ [Y])):=by
 rw[<-aa6]
 refine .trans (.cons Y ?_) (ab7 Y _).symm
 rw[aa6]
 exact aba.symm
end Gv
