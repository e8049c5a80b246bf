/-
  Part 9 of the proof: what the machine does and what the functions answer.
  Conditions: those that each lemma names.
-/
import Derived.ProofKit
import Derived.SizedLaws
import Derived.Test.YtiophifnkakjgaaGreatSGzC4H
set_option linter.unusedSimpArgs false
set_option linter.unusedVariables false
set_option maxRecDepth 100000
set_option maxHeartbeats 20000000
namespace Gv
open Go Go.Proofs
theorem EK {α:Type} {f:α->α} {x:α} (h:f x=x):∀n,iter f n x=x
 | 0=>rfl
 | n+1=>by rw[iter,h,EK h n]
theorem LZ {α:Type} (f:α->α):∀(a b:Nat) (x:α),iter f (a+b) x=iter f b (iter f a x)
 | 0,b,x=>by rw[abX];rfl
 | a+1,b,x=>by rw[Nat.add_right_comm,iter,iter,LZ f a b]
theorem Gl (comes:bf->List Bool->List Int) (rules:List bf):∀(k:Nat) (is:List Bool),je comes rules k is=iter (fc comes rules) k is
 | 0,is=>rfl
 | k+1,is=>by
  simp only[je,iter]
  by_cases e:fc comes rules is=is
  .rw[abb e,e,EK e]
  .rw[aa9 e,Gl comes rules k]
theorem BE (comes:bf->List Bool->List Int) (rules:List bf) (is:List Bool) (h:is.length<=16):je comes rules 16 is=iter (fc comes rules) is.length is:=by
 have h1:=(xz comes rules is.length is (by omega)).1
 rw[Gl] at h1 ⊢
 obtain⟨m,hm⟩:∃m,16=is.length+m:=⟨16-is.length,by omega⟩
 rw[hm,LZ,EK h1]
def nW (t:Bool) (r:bf) (is:List Bool):List Int:=if fB r.right is t=true then [r.left] else []
def vP (p:List Bool) (r:bf) (is:List Bool):List Int:=if (is.getD r.left.toNat false&&fB r.right p true)=true then iA r.right else []
theorem OW (g:ak) (t:Bool):fc (nW t) g.rules=lO g t:=by
 funext is
 unfold fc lO
 congr 1
 funext is r
 unfold stepG nW fu
 split<;>rfl
theorem GW:∀(l:List Int) (is:List Bool),uT is (iA l)=l.foldl mark is
 | [],is=>rfl
 | s::l,is=>by
  have a:=GW l
  unfold uT iA at a ⊢
  rw[abY,<-a]
  unfold mark
  by_cases h:s<0
  .rw[abb h,List.filter_cons_of_pos (by simpa using h)];rfl
  .rw[aa9 h,List.filter_cons_of_neg (by simpa using h)]
theorem Pc (g:ak) (p:List Bool):fc (vP p) g.rules=tD g p:=by
 funext is
 unfold fc tD
 congr 1
 funext is r
 unfold stepG vP jb
 split
 .exact GW _ _
 .rfl
theorem MR {g:ak} (h:bu g=true) (t:Bool):je (nW t) g.rules 16 (cK g)=bk g t:=by
 have a:=bF h
 have b:(cK g).length=g.av.length:=by simp[cK]
 have:=a.av
 rw[BE _ _ _ (by rw[b];exact a.av),OW,b,bk,abb h]
theorem Te {g:ak} (h:bu g=true):je (vP (bk g true)) g.rules 16 ((cK g).set g.start.toNat true)=cU g:=by
 have b:=bF h
 have a:((cK g).set g.start.toNat true).length=g.av.length:=by simp[cK]
 rw[BE _ _ _ (by rw[a];exact b.av),Pc,a,cU,abb h]
def wP:SF:=⟨ai [ag [bZ 1 0,bL 2 1],ai [ag [aV 3 4 1,aU 4 89 [3],cO 5 4],aX 5 (ai [ag [bL 2 1],.ret])],ag [aV 6 4 1,aw 7 1 1,au 8 7,aM 9 8,((some 10),.op (.make 1 1 [(.val (.bool false))] (.tmp 9) (.tmp 9))),lG 11 173 [(.tmp 6),(.tmp 10),(.val (.fn 174 [] []))],af 2 11],.ret],
 [.tmp 2],12⟩
theorem BH:aJ aa 109 [1]=some wP:=by kernel_rfl
def uB:SF:=⟨ai [ag [bZ 1 0,bL 2 1],ai [ag [aV 3 4 1,aU 4 89 [3],cO 5 4],aX 5 (ai [ag [bL 2 1],.ret])],ag [aV 6 4 1,aw 7 1 1,au 8 7,aM 9 8,((some 10),.op (.make 1 1 [(.val (.bool false))] (.tmp 9) (.tmp 9))),lG 11 173 [(.tmp 6),(.tmp 10),(.val (.fn 226 [] []))],af 2 11],.ret],
 [.tmp 2],12⟩
theorem Aj:aJ aa 161 [1]=some uB:=by kernel_rfl
def vI:SF:=⟨ai [ag [bZ 1 0,bL 2 1],ai [ag [aV 5 4 1,aU 6 89 [5],cO 7 6],aX 7 (ai [ag [bL 2 1],.ret])],ag [aV 8 4 1,aU 9 161 [8],((some 3),.op (.alloc [(.emp 1)])),cz 1 3 9],ag [aw 10 1 1,au 11 10,aM 12 11,((some 13),.op (.make 1 1 [(.val (.bool false))] (.tmp 12) (.tmp 12))),af 4 13],ag [af 14 4,aw 15 3 1,au 16 15,aL 17 1 14 16,(none,.op (.store 1 (.tmp 17) (.val (.val (.bool true)))))],ag [aV 18 4 1,af 19 4,((some 20),.op (.uh 227 [] [(.tmp 3)])),aU 21 173 [18,19,20],af 2 21],.ret],
 [.tmp 2],22⟩
theorem Bc:aJ aa 162 [1]=some vI:=by kernel_rfl
structure ak.Small (g:ak):Prop where
 names:g.av.length+g.ax.length<=1000
theorem Ck {a:Heap} {id n:Nat} {is:List Bool} (b:a.view id=.arr 1 (bU is)) (c:n=is.length):dF a (.sl id 0 n 1) (bY is):=by
 subst c;exact tZ b
theorem LY (g:ak) (d:g.Ok) (i:g.Small):bX aa 109 [.agg (aj g)] (bY (bk g false)):=by
 refine bX.of (dy g) ?_
 refine az.of mixed BH ?_
 have j:=d.av
 unfold aG at j
 simp(disch:=omega)only[↓wr,seval,wq,wP,aj,encS]
 refine ay.pure (pF g d i.names) ?_
 repeat' (first | ((first|apply ao.dec|apply ao.eq|apply ao.ne|apply ao.split)<;>intro)|(simp(disch:=omega)only[↓wr,seval,wq]))
 .rename_i hr
  have b:=bF hr
  have h1:=b.ly
  have k:=b.av
  try simp(disch:=omega)only[↓wr,seval,wq,aj,encS]
  refine⟨⟨by omega,by unfold aE;omega,by unfold aE;omega⟩,λh=>by omega,?_⟩
  intro _ n
  try simp(disch:=omega)only[↓wr,seval,wq,aj,encS]
  refine ay.cF ((HK g b.rules (nW false) 174 [] [] (by kernel_rfl) g.av.length k (λr a is e=>⟨Lp r is (by rw[e];exact b.qU d a),?_,?_⟩) n (cK g) (by simp[cK]) _ (by simp[View.set,cK]) (λH' _=>trivial)).mono ?_)
  .unfold nW;split<;>simp
  .intro m hm
   unfold nW at hm
   split at hm
   .simp only[ab5] at hm;subst hm
    exact⟨(d.aB r a).1,b.left r a⟩
   .simp at hm
  .rintro r H' ⟨rfl,c,_⟩
   simp(disch:=omega)only[↓wr,seval,wq]
   intro l f
   rw[MR hr] at c
   exact Ck (by rw[f];exact c) (jj hr _).symm
 .rename_i hr
  intro l f
  simp only[bk,hr]
  exact .emp _
theorem yF (g:ak) (d:g.Ok) (i:g.Small):bX aa 161 [.agg (aj g)] (bY (bk g true)):=by
 refine bX.of (dy g) ?_
 refine az.of mixed Aj ?_
 have j:=d.av
 unfold aG at j
 simp(disch:=omega)only[↓wr,seval,wq,uB,aj,encS]
 refine ay.pure (pF g d i.names) ?_
 repeat' (first | ((first|apply ao.dec|apply ao.eq|apply ao.ne|apply ao.split)<;>intro)|(simp(disch:=omega)only[↓wr,seval,wq]))
 .rename_i hr
  have b:=bF hr
  have h1:=b.ly
  have k:=b.av
  try simp(disch:=omega)only[↓wr,seval,wq,aj,encS]
  refine⟨⟨by omega,by unfold aE;omega,by unfold aE;omega⟩,λh=>by omega,?_⟩
  intro _ n
  try simp(disch:=omega)only[↓wr,seval,wq,aj,encS]
  refine ay.cF ((HK g b.rules (nW true) 226 [] [] (by kernel_rfl) g.av.length k (λr a is e=>⟨Hp r is (by rw[e];exact b.qU d a),?_,?_⟩) n (cK g) (by simp[cK]) _ (by simp[View.set,cK]) (λH' _=>trivial)).mono ?_)
  .unfold nW;split<;>simp
  .intro m hm
   unfold nW at hm
   split at hm
   .simp only[ab5] at hm;subst hm
    exact⟨(d.aB r a).1,b.left r a⟩
   .simp at hm
  .rintro r H' ⟨rfl,c,_⟩
   simp(disch:=omega)only[↓wr,seval,wq]
   intro l f
   rw[MR hr] at c
   exact Ck (by rw[f];exact c) (jj hr _).symm
 .rename_i hr
  intro l f
  simp only[bk,hr]
  exact .emp _
theorem sH {g:ak} (hr:bu g=true):(cU g).length=g.av.length:=by
 rw[cU,abb hr,EL (f:=tD g (bk g true)) (λis=>EM (λis x=>UI _ is x) g.rules is)]
 simp[cK]
theorem JT (g:ak) (f:g.Ok) (w:g.Small):bX aa 162 [.agg (aj g)] (bY (cU g)):=by
 refine bX.of (dy g) ?_
 refine az.of mixed Bc ?_
 have A:=f.av
 unfold aG at A
 simp(disch:=omega)only[↓wr,seval,wq,vI,aj,encS]
 refine ay.pure (pF g f w.names) ?_
 repeat' (first | ((first|apply ao.dec|apply ao.eq|apply ao.ne|apply ao.split)<;>intro)|(simp(disch:=omega)only[↓wr,seval,wq]))
 .rename_i hr
  have d:=bF hr
  have h1:=d.ly
  have B:=d.av
  have D:=d.lB
  have E:=d.start
  have p:=jj hr true
  try simp(disch:=omega)only[↓wr,seval,wq,aj,encS]
  refine ay.pure (yF g f w).pure ?_
  simp(disch:=omega)only[↓wr,seval,wq,bY]
  intro q
  try simp(disch:=omega)only[↓wr,seval,wq,aj,encS,set_set]
  refine⟨⟨by omega,by unfold aE;omega,by unfold aE;omega⟩,λh=>by omega,?_⟩
  intro _ n t
  have e:=(cp t cw).1
  try simp(disch:=omega)only[↓wr,seval,wq,aj,encS,set_set]
  have i:=mH (is:=cK g) (show g.start.toNat<(cK g).length by simp[cK];omega)
  refine⟨by omega,by simp;omega,?_⟩
  refine ay.cF ((HK g d.rules (vP (bk g true)) 227 [.ptr q 0 0] [.aR [bY (bk g true)] 0] (by kernel_rfl) g.av.length B (λr c is j=>⟨JR r is (bk g true) (by rw[j];exact d.qU f c) (by rw[j,p]),?_,?_⟩) n ((cK g).set g.start.toNat true) (by simp[cK]) _ ?_ (λH' u=>⟨cm.box (z:=1) ?_ ?_,trivial⟩)).mono ?_)
  .have F:=d.right r c
   unfold vP
   split
   .have:(iA r.right).length<=r.right.length:=by simp only[iA,abc];exact acQ _ _
    omega
   .simp
  .intro m hm
   unfold vP at hm
   split at hm
   .simp only[iA,abt,acr,abn] at hm
    obtain⟨s,⟨k,l⟩,rfl⟩:=hm
    have a:=d.neg c k l
    have b:=((f.aB r c).2.2.2 s k).1
    exact⟨⟨by omega,by omega⟩,by omega,a⟩
   .simp at hm
  .simp only[View.set,if_true]
   congr 1
   rw[<-iG]
   unfold cK at i ⊢
   rw[BR,i]
   rfl
  .rw[u q (by simp[View.set,Ne.symm e]) (Ne.symm e)]
   simp[View.set,Ne.symm e]
   rfl
  .intro v x;simp at x;subst x;exact jQ _
  .rintro r H' ⟨rfl,o,_⟩
   simp(disch:=omega)only[↓wr,seval,wq]
   intro C y
   rw[Te hr] at o
   exact Ck (by rw[y];exact o) (by rw[sH hr])
 .rename_i hr
  intro C y
  simp only[cU,hr]
  exact .emp _
def dP (p q:List Bool) (r:bf):Bool:=q.getD r.left.toNat false&&fB r.right p true
def dD (p q:List Bool):List bf->Int->List Int
 | [],_=>[]
 | r::l,i=>if dP p q r=true then i::dD p q l (i+1) else dD p q l (i+1)
def ml (acc:List Int) (r:bf):List Int:=if r.left∈acc then acc else acc++[r.left]
def cZ (p q:List Bool) (l:List bf):List Int:=(l.filter (dP p q)).foldl ml []
def dL (o:List Int) (x:Int):Int:=dX (λy=>y==x) o 0
def cT (f:Int->Int) (r:bf):bf:=⟨f r.left,r.right.map λs=>if s<0 then -1-f (-1-s) else s,r.prec⟩
def zD (g:ak) (f:Int->Int) (p q:List Bool):ak:=
 ⟨g.ax,(cZ p q g.rules).map λx=>g.av.getD x.toNat ⟨#[]⟩,(g.rules.filter (dP p q)).map (cT f),f g.start⟩
def vR:ak:=⟨[],[],[],0⟩
instance:DecidableEq Term:=λa b=>decidable_of_iff (a.name=b.name/\a.level=b.level/\a.assoc=b.assoc) (by cases a;cases b;simp)
instance:DecidableEq bf:=λa b=>decidable_of_iff (a.left=b.left/\a.prec=b.prec/\a.right=b.right) (by cases a;cases b;simp[and_comm])
instance:DecidableEq ak:=λa b=>decidable_of_iff (a.ax=b.ax/\a.av=b.av/\a.rules=b.rules/\a.start=b.start) (by cases a;cases b;simp)
def iS (g:ak):ak × List Int × Int:=
 if bu g=true then
  if (bk g true).getD g.start.toNat false=true then (zD g (dL (cZ (bk g true) (cU g) g.rules)) (bk g true) (cU g),dD (bk g true) (cU g) g.rules 0,0)
  else (vR,[],9)
 else (vR,[],1)
theorem KI {g:ak} (hr:bu g=true):iS g=if (bk g true).getD g.start.toNat false=true then (zD g (dL (cZ (bk g true) (cU g) g.rules)) (bk g true) (cU g),dD (bk g true) (cU g) g.rules 0,0) else (vR,[],9):=by
 rw[iS,abb hr]
theorem mN (p q:List Bool):∀(a b:List bf) (i:Int),dD p q (a++b) i=dD p q a i++dD p q b (i+a.length)
 | [],b,i=>by simp[dD]
 | r::a,b,i=>by
  simp only[abN,dD,mN p q a b (i+1),abl]
  grind
theorem mB (p q:List Bool):∀(a:List bf) (i:Int),(dD p q a i).length=(a.filter (dP p q)).length
 | [],i=>rfl
 | r::a,i=>by
  simp only[dD,List.filter_cons]
  split<;>simp[mB p q a]
theorem xA (p q:List Bool):∀(a:List bf) (i:Int) (k:Nat),k<(dD p q a i).length->∃m:Nat,(dD p q a i)[k]?=some (i+m)/\a[m]?=(a.filter (dP p q))[k]?/\m<a.length
 | [],i,k,h=>by simp[dD] at h
 | r::a,i,k,h=>by
  simp only[dD,List.filter_cons] at h ⊢
  by_cases hr:dP p q r=true
  .rw[abb hr] at h ⊢
   rw[abb hr]
   cases k with
   | zero=>grind
   | succ k =>
    obtain⟨m,h1,b,c⟩:=xA p q a (i+1) k (by simpa using h)
    exact⟨m+1,by rw[abT,h1];congr 1;push_cast;omega,by simpa using b,by simpa using c⟩
  .rw[aa9 hr] at h ⊢
   rw[aa9 hr]
   obtain⟨m,h1,b,c⟩:=xA p q a (i+1) k h
   exact⟨m+1,by rw[h1];congr 1;push_cast;omega,by simpa using b,by simpa using c⟩
theorem wX (p q:List Bool) (l:List bf) (r:bf):cZ p q (l++[r])=if dP p q r=true then ml (cZ p q l) r else cZ p q l:=by
 unfold cZ
 grind
theorem Qz {acc:List Int} {r:bf} (h:acc.Nodup):(ml acc r).Nodup:=by
 unfold ml
 grind
theorem vV {o:List Int} {x:Int} : dL o x<0↔x ∉ o:=by
 have:=AG (λy=>y==x) o 0 (by omega)
 unfold dL
 grind
theorem DW {α:Type} (p:α->Bool):∀(a b:List α) (i:Int),0<=i->dX p (a++b) i=if 0<=dX p a i then dX p a i else dX p b (i+a.length)
 | [],b,i,_=>by simp[dX]
 | x::a,b,i,h=>by
  by_cases hp:p x=true
  .simp[dX,hp,h]
  .simp only[abN,dX,aa9 hp]
   rw[DW p a b (i+1) (by omega)]
   grind
theorem S7 {o:List Int} {x y:Int} (b:x ∉ o):dL (o++[x]) y=if y=x then (o.length:Int) else dL o y:=by
 unfold dL
 rw[DW _ _ _ _ (by omega)]
 by_cases e:y=x
 .subst e
  rw[aa9 (by have:=vV.2 b;unfold dL at this;omega),abb rfl]
  simp[dX]
 .split
  .rfl
  .rename_i h
   have a:dX (λz=>z==y) [x] (0+(o.length:Int)) = -1:=by simp[dX,Ne.symm e]
   rw[a]
   have:∀(l:List Int) (i:Int),¬ 0<=dX (λz=>z==y) l i->0<=i->dX (λz=>z==y) l i = -1:=by
    intro l
    induction l with
    | nil=>intro i _ _;rfl
    | cons z l c =>
     intro i h1 a
     simp only[dX] at h1 ⊢
     grind
   grind
theorem Ps {o:List Int} {x:Int} (h:x∈o):0<=dL o x/\dL o x<o.length:=by
 have a:¬ dL o x<0:=λe=>vV.1 e h
 refine⟨by omega,?_⟩
 unfold dL
 have:∀(l:List Int) (i:Int),dX (λz=>z==x) l i<i+l.length∨dX (λz=>z==x) l i = -1:=by
  intro l
  induction l with
  | nil=>intro i;right;rfl
  | cons z l b =>
   intro i
   simp only[dX]
   grind
 grind
theorem XR (o:List Int) (x:Int) : -1<=dL o x/\dL o x<=o.length:=by
 by_cases h:x∈o
 .have:=Ps h;omega
 .have h1:=vV.2 h
  have a:∀(l:List Int) (i:Int),0<=i->-1<=dX (λz=>z==x) l i:=by
   intro l
   induction l with
   | nil=>intro i _;simp[dX]
   | cons z l b =>
    intro i hi
    simp only[dX]
    grind
  have:=a o 0 (by omega)
  unfold dL at h1 ⊢
  omega
def lu:List Int->Int->List (Int × Int)
 | [],_=>[]
 | x::l,i=>(x,i)::lu l (i+1)
theorem wA (x:Int):∀(o:List Int) (i:Int),fp (lu o i) x=if x∈o then some (dX (λy=>y==x) o i) else none
 | [],i=>by simp[lu,fp]
 | y::o,i=>by
  have a:=wA x o (i+1)
  unfold fp at a ⊢
  simp only[lu,ado,dX]
  grind
theorem IE {x v:Int}:∀ {o:List Int} {i:Int},x ∉ o->mf x v (lu o i)=lu o i++[(x,v)]
 | [],i,_=>rfl
 | y::o,i,h=>by
  simp only[abw,not_or] at h
  simp only[lu,mf,show (x==y)=false by simp[h.1],abI,if_false,IE h.2,abN]
theorem Fc {x:Int}:∀ {o:List Int} {i:Int},lu (o++[x]) i=lu o i++[(x,i+o.length)]
 | [],i=>by simp[lu]
 | y::o,i=>by
  simp only[abN,lu,Fc (o:=o),abl]
  grind
def eY (o:List Int) (x:Int):Int:=(fp (lu o 0) x).getD 0
theorem Db {o:List Int} {x:Int} (h:x∈o):eY o x=dL o x:=by
 simp[eY,wA,h,dL]
theorem Yn (o:List Int) (x:Int):0<=eY o x/\eY o x<=o.length:=by
 by_cases h:x∈o
 .rw[Db h];have:=Ps h;omega
 .simp[eY,wA,h]
theorem Sw {g:ak} {p q:List Bool} (a:g.start∈cZ p q g.rules) (b:∀r∈g.rules.filter (dP p q),r.left∈cZ p q g.rules/\∀s∈r.right,s<0->-1-s∈cZ p q g.rules):
  zD g (eY (cZ p q g.rules)) p q=zD g (dL (cZ p q g.rules)) p q:=by
 unfold zD
 congr 1
 .apply aca
  intro r hr
  obtain⟨h1,c⟩:=b r hr
  unfold cT
  congr 1
  .exact Db h1
  .apply aca
   intro s d
   split
   .rename_i h;rw[Db (c s d h)]
   .rfl
 .exact Db a
theorem yq:∀(l:List bf) (acc:List Int) (x:Int),x∈l.foldl ml acc↔x∈acc∨∃r∈l,r.left=x
 | [],acc,x=>by simp
 | r::l,acc,x=>by
  rw[abY,yq l]
  have:x∈ml acc r↔x∈acc∨r.left=x:=by
   unfold ml
   grind
  grind
theorem Kq {p q:List Bool} {l:List bf} {x:Int} : x∈cZ p q l↔∃r∈l,dP p q r=true/\r.left=x:=by
 unfold cZ
 rw[yq]
 grind
def nX:SC:=
 ai [ai [ag [af 42 9,af 43 8,aM 44 43,aS 45 .lss 42 44],bO 45 (.exit 0)],.block 1 (ag [af 48 8,af 49 9,aL 50 1 48 49,(none,.op (.store 1 (.tmp 50) (.val (.val (.int .i64 (-1))))))]),ag [af 46 9,aI 47 .add 46 1,af 9 47]]
def ox:SC:=
 ai [ai [ag [af 51 11,aw 52 2 1,au 53 52,aM 54 53,aS 55 .lss 51 54],bO 55 (.exit 2)],.block 3 (ai [ag [aw 58 2 1,au 59 58,af 60 11,aL 61 3 59 60,aV 62 3 61,((some 12),.op (.alloc [(.val (.int .i64 0)),(.emp 1),(.val (.int .i64 0))])),cz 3 12 62],ai [.region false [⟨none,[af 63 6,aw 64 0 12,au 65 64,aL 66 1 63 65,au 67 66,cO 68 67,af 69 68]⟩,⟨(some (69,false)),[aw 70 1 12,au 71 70,af 72 5,lG 73 95 [(.tmp 71),(.tmp 72),(.val (.val (.bool true)))],cO 74 73]⟩,⟨none,[cJ 75 69 74]⟩],aX 75 (.exit 3)],ag [af 76 10,af 77 11,((some 78),.op (.bH 1 1 [(.val (.int .i64 0))] [(0,(.tmp 77))])),eZ 79 1 8 76 78,af 10 79],ag [af 80 8,aw 81 0 12,au 82 81,aL 83 1 80 82,au 84 83,aI 85 .lss 84 0],aX 85 (ai [ag [af 86 8,aw 87 0 12,au 88 87,aw 89 1 7,au 90 89,aM 91 90,aL 92 1 86 88,cz 1 92 91],.region false [⟨none,[aw 93 1 7,au 94 93,aw 95 1 1,au 96 95,aw 97 0 12,au 98 97,aL 99 1 96 98,au 100 99,((some 101),.op (.bH 1 1 [(.val (.string ⟨#[]⟩))] [(0,(.tmp 100))])),eZ 102 1 16 94 101,aw 103 1 7,cz 1 103 102]⟩]])]),ag [af 56 11,aI 57 .add 56 1,af 11 57]]
def og:SC:=
 ai [ai [ag [af 126 16,aw 127 1 14,au 128 127,aM 129 128,aS 130 .lss 126 129],bO 130 (.exit 6)],.block 7 (ai [ag [aw 133 1 14,au 134 133,af 135 16,aL 136 1 134 135,au 137 136,af 17 137],ai [ag [af 138 17,aI 139 .lss 138 0],aX 139 (ag [af 140 8,af 141 17,((some 142),.op (.arith .sub (.val (.val (.int .i64 (-1)))) (.tmp 141))),aL 143 1 140 142,au 144 143,((some 145),.op (.arith .sub (.val (.val (.int .i64 (-1)))) (.tmp 144))),af 17 145])],ag [aw 146 1 15,au 147 146,af 148 17,((some 149),.op (.bH 1 1 [(.val (.int .i64 0))] [(0,(.tmp 148))])),eZ 150 1 8 147 149,aw 151 1 15,cz 1 151 150]]),ag [af 131 16,aI 132 .add 131 1,af 16 132]]
def oC:SC:=
 ai [ai [ag [af 104 13,af 105 10,aM 106 105,aS 107 .lss 104 106],bO 107 (.exit 4)],.block 5 (ai [ag [aw 110 2 1,au 111 110,af 112 10,af 113 13,aL 114 1 112 113,au 115 114,aL 116 3 111 115,aV 117 3 116,((some 14),.op (.alloc [(.val (.int .i64 0)),(.emp 1),(.val (.int .i64 0))])),cz 3 14 117],ag [af 118 8,aw 119 0 14,au 120 119,aL 121 1 118 120,au 122 121,aw 123 2 14,au 124 123,((some 125),.op (.build [(.val (.int .i64 0)),(.emp 1),(.val (.int .i64 0))] [(0,1,(.tmp 122)),(2,1,(.tmp 124))])),((some 15),.op (.alloc [(.val (.int .i64 0)),(.emp 1),(.val (.int .i64 0))])),cz 3 15 125],ai [ag [aT 16 0],bR 6 og],ag [aw 152 2 7,au 153 152,aV 154 3 15,((some 155),.op (.bH 1 3 [(.val (.int .i64 0)),(.emp 1),(.val (.int .i64 0))] [(0,(.tmp 154))])),eZ 156 3 40 153 155,aw 157 2 7,cz 1 157 156]]),ag [af 108 13,aI 109 .add 108 1,af 13 109]]
def qo:SF:=⟨ai [ag [bZ 1 0,((some 2),.op (.alloc [(.emp 1),(.emp 1),(.emp 1),(.val (.int .i64 0))])),bL 3 1,aT 4 0],ai [ag [aV 18 4 1,aU 19 50 [18],cO 20 19],aX 20 (ai [ag [((some 21),.op (.build [(.emp 1),(.emp 1),(.emp 1),(.val (.int .i64 0))] [])),cz 4 2 21,bL 3 1,aT 4 1],.ret])],.region true [⟨none,[aV 22 4 1,aU 23 93 [22],aV 24 4 1,aU 25 94 [24],af 5 23,af 6 25]⟩],ai [ag [af 26 5,aw 27 3 1,au 28 27,aL 29 1 26 28,au 30 29,cO 31 30],aX 31 (ai [ag [((some 32),.op (.build [(.emp 1),(.emp 1),(.emp 1),(.val (.int .i64 0))] [])),cz 4 2 32,bL 3 1,aT 4 9],.ret])],ag [bL 33 2,aw 34 0 1,au 35 34,eZ 36 3 32 33 35,((some 37),.op (.build [(.emp 1),(.emp 1),(.emp 1),(.val (.int .i64 0))] [(0,1,(.tmp 36))])),((some 7),.op (.alloc [(.emp 1),(.emp 1),(.emp 1),(.val (.int .i64 0))])),cz 4 7 37],ag [aw 38 1 1,au 39 38,aM 40 39,((some 41),.op (.make 1 8 [(.val (.int .i64 0))] (.tmp 40) (.tmp 40))),af 8 41],ai [ag [aT 9 0],bR 0 nX],ag [bL 10 1],ai [ag [aT 11 0],bR 2 ox],ai [ag [aT 13 0],bR 4 oC],ag [af 158 8,aw 159 3 1,au 160 159,aL 161 1 158 160,au 162 161,aw 163 3 7,cz 1 163 162],ag [aV 164 4 7,af 165 10,cz 4 2 164,af 3 165,aT 4 0],.ret],
 [.cell 2 (some 4),.tmp 3,.tmp 4],166⟩
theorem wu:aJ aa 47 [1]=some qo:=by kernel_rfl
abbrev aO (l:List Int):List (List V):=l.map λx=>[gi x]
abbrev lX (l:List ByteArray):List (List V):=l.map λs=>[gs s]
theorem mO {l:List Int} {i:Nat} (h:i<l.length):(aO l).getD i []=[gi l[i]]:=by simp[h]
theorem ints_set (l:List Int) (i:Nat) (x:Int):(aO l).set i [gi x]=aO (l.set i x):=by simp
theorem X3 {l:List Int} (h:0<l.length):aO l≠[]:=by intro e;rw[List.map_eq_nil_iff] at e;rw[e] at h;simp at h
theorem A6 {α:Type} {x:α}:∀ {l:List α} {i:Nat},i<l.length->(l.set i x).take (i+1)=l.take i++[x]
 | y::l,0,_=>by simp
 | y::l,i+1,h=>by
  have:=A6 (x:=x) (l:=l) (i:=i) (by simpa using h)
  simp only[List.set_cons_succ,adg,this,abN]
def gp (n:Nat) (o:List Int):List Int:=(List.range n).map λ(x:Nat)=>dL o (x:Int)
theorem XO (n:Nat):gp n []=List.replicate n (-1):=by
 apply ab2
 .simp[gp]
 .intro i h1 a
  simp[gp,dL,dX]
theorem C0 {n:Nat} {o:List Int} {x:Int} (a:0<=x) (h1:x<n):(gp n o)[x.toNat]'(by simp[gp];omega)=dL o x:=by
 simp[gp,show ((x.toNat:Nat):Int)=x by omega]
theorem X9 {n:Nat} {o:List Int} {x:Int} (b:0<=x) (h1:x<n) (a:x ∉ o):(gp n o).set x.toNat o.length=gp n (o++[x]):=by
 apply ab2
 .simp[gp]
 .intro i c d
  rw[List.getElem_set]
  simp only[gp,ac4,adl]
  rw[S7 a]
  by_cases e:x.toNat=i
  .rw[abb e,abb (by omega)]
  .rw[aa9 e,aa9 (by omega)]
abbrev C1:=List (V × bf)
def iW (b:C1):List (List V):=b.map λx=>[gi x.2.left,x.1,gi x.2.prec]
def ou (b:C1):List ez:=b.map λx=>(x.1,1,aO x.2.right)
theorem Sc {h:Heap} {u:V} {b:C1} (c:aN h.view u 3 (iW b)) (f:∀x∈ou b,aN h.view x.1 x.2.1 x.2.2):dF h u (.aY ((b.map (·.2)).map aQ)):=by
 refine dF.own c (by simp[iW]) (λi hi=>?_) (λi j hi a=>?_)
 all_goals
  simp only[iW,abc] at hi
  have e:(iW b).getD i []=[gi b[i].2.left,b[i].1,gi b[i].2.prec]:=by simp[iW,hi]
  have d:((b.map (·.2)).map aQ).getD i []=aQ b[i].2:=by simp[hi]
 .rw[e,d];rfl
 .rw[e,d]
  rw[d] at a
  have hm:b[i]∈b:=abe _
  have c:=f (b[i].1,1,aO b[i].2.right) (abt.2 ⟨_,hm,rfl⟩)
  match j,a with
  | 0,_=>exact .val _
  | 1,_=>exact jq c
  | 2,_=>exact .val _
  | n+3,a=>exact absurd a (by simp only[aQ,abl,abG];omega)
theorem WQ {h:Heap} {u:V} {l:List ByteArray} (a:aN h.view u 1 (lX l)):dF h u (encS l):=dF.D3 (f:=Value.string) a
theorem Uw {h:Heap} {u:V} {l:List Term} (b:aN h.view u 3 (l.map df)):dF h u (fE l):=by
 refine dF.own b rfl (λ_ _=>rfl) (λi j hi a=>?_)
 simp only[abc] at hi
 have c:(l.map df).getD i []=df l[i]:=by simp[hi]
 rw[c] at a ⊢
 match j,a with
 | 0,_=>exact .val _
 | 1,_=>exact .val _
 | 2,_=>exact .val _
 | n+3,a=>exact absurd a (by simp only[df,abl,abG];omega)
def Ax (x:ak × List Int × Int):V:=.bc [.agg (aj x.1),encI x.2.1,gi x.2.2]
theorem zr {h:Heap} {e:Int} {b k2 c d:Nat} : dF h (.bc [.agg [.emp b,.emp k2,.emp c,gi 0],.emp d,gi e]) (Ax (vR,[],e)):=by
 refine .bc _ _ rfl λi hi=>?_
 match i,hi with
 | 0,_ =>
  refine .agg _ _ rfl λj a=>?_
  match j,a with
  | 0,_=>exact .emp _
  | 1,_=>exact .emp _
  | 2,_=>exact .emp _
  | 3,_=>exact .val _
  | n+4,a=>exact absurd a (by simp only[abl,abG];omega)
 | 1,_=>exact .emp _
 | 2,_=>exact .val _
 | n+3,hi=>exact absurd hi (by simp only[abl,abG];omega)
def YQ (g:ak) (p q:List Bool) (b2 b7 b8:Nat) (u0:V) (i:Nat) (T:Env) (H:View):Prop:=
 (∃u1 u3:V,T 10=u3/\(∀x∈cZ p q (g.rules.take i),0<=x/\x<g.av.length)/\(cZ p q (g.rules.take i)).Nodup/\(cZ p q (g.rules.take i)).length<=i /\
  bw H [(.sl b7 0 1 4,4,[[u0,u1,.emp 1,gi 0]]),(.sl b8 0 g.av.length 1,1,aO (gp g.av.length (cZ p q (g.rules.take i)))),(u3,1,aO (dD p q (g.rules.take i) 0)),
   (u1,1,lX ((cZ p q (g.rules.take i)).map λx=>g.av.getD x.toNat ⟨#[]⟩)),(u0,3,g.ax.map df),(.sl b2 0 1 4,4,[[.emp 1,.emp 1,.emp 1,gi 0]])]) /\
 T 1=.aR (aj g) 0/\T 2=.ptr b2 0 0/\T 5=bY p/\T 6=bY q/\T 7=.ptr b7 0 0/\T 8=.sl b8 0 g.av.length 1/\T 11=gi i
def aaB (g:ak) (p q:List Bool) (b2 b7 b8:Nat) (u0 u1 u3:V) (o kl:List Int) (i:Nat) (T:Env) (H:View):Prop:=
 (∃(u2:V) (bs:C1),bs.map (·.2)=((g.rules.filter (dP p q)).take i).map (cT (dL o)) /\
  bw H ((.sl b7 0 1 4,4,[[u0,u1,u2,gi 0]])::(.sl b8 0 g.av.length 1,1,aO (gp g.av.length o))::(u3,1,aO kl) ::
   (u1,1,lX (o.map λx=>g.av.getD x.toNat ⟨#[]⟩))::(u0,3,g.ax.map df)::(u2,3,iW bs)::(.sl b2 0 1 4,4,[[.emp 1,.emp 1,.emp 1,gi 0]])::ou bs)) /\
 T 1=.aR (aj g) 0/\T 2=.ptr b2 0 0/\T 7=.ptr b7 0 0/\T 8=.sl b8 0 g.av.length 1/\T 10=u3/\T 13=gi i
def aac (g:ak) (b2 b7 b8 b14 b15:Nat) (u3:V) (o:List Int) (r:bf) (L:List ez) (i k:Nat) (T:Env) (H:View):Prop:=
 (∃v:V,bw H ((.sl b15 0 1 3,3,[[gi (dL o r.left),v,gi r.prec]])::(v,1,aO ((cT (dL o) r).right.take k))::(.sl b14 0 1 3,3,[aQ r])::L)) /\
 T 1=.aR (aj g) 0/\T 2=.ptr b2 0 0/\T 7=.ptr b7 0 0/\T 8=.sl b8 0 g.av.length 1/\T 10=u3/\T 13=gi i/\T 14=.ptr b14 0 0/\T 15=.ptr b15 0 0/\T 16=gi k
theorem NJ {h:Heap} {c d e f:V} {x:ak × List Int × Int} {b:C1} (g:aN h.view c 3 (x.1.ax.map df)) (h1:aN h.view d 1 (lX x.1.av)) (k:aN h.view e 3 (iW b)) (l:∀y∈ou b,aN h.view y.1 y.2.1 y.2.2)
  (hr:b.map (·.2)=x.1.rules) (m:aN h.view f 1 (aO x.2.1)):dF h (.bc [.agg [c,d,e,gi x.1.start],f,gi x.2.2]) (Ax x):=by
 refine .bc _ _ rfl λi hi=>?_
 match i,hi with
 | 0,_ =>
  refine .agg _ _ rfl λj a=>?_
  match j,a with
  | 0,_=>exact Uw g
  | 1,_=>exact WQ h1
  | 2,_=>have:=Sc k l;rw[hr] at this;exact this
  | 3,_=>exact .val _
  | n+4,a=>exact absurd a (by simp only[abl,abG];omega)
 | 1,_=>exact jq m
 | 2,_=>exact .val _
 | n+3,hi=>exact absurd hi (by simp only[abl,abG];omega)
theorem MY (g:ak) (hg:g.Ok):bX aa 47 [.agg (aj g)] (Ax (iS g)):=by
 refine bX.of (dy g) ?_
 refine az.of mixed wu ?_
 simp(disch:=omega)only[↓wr,seval,wq,qo,aj,encS]
 intro M
 try simp(disch:=omega)only[↓wr,seval,wq,aj,encS]
 refine ay.pure (jV g hg) ?_
 repeat' (first | ((first|apply ao.dec|apply ao.eq|apply ao.ne|apply ao.split)<;>intro)|(simp(disch:=omega)only[↓wr,seval,wq,set_set]))
 .rename_i hr
  refine ay.pure (xf g hg) ?_
  simp(disch:=omega)only[↓wr,seval,wq]
  refine ay.pure (HU g hg).pure ?_
  have hf:=bF hr
  have h3:=hf.lB
  have h4:=hf.start
  have cN:=jj hr true
  have e6:=sH hr
  have c:=KI hr
  generalize bk g true=p at cN c
  generalize cU g=q at e6 c
  have b4:p[g.start.toNat]?=some (p[g.start.toNat]'(by omega)):=aa8 (by omega)
  have cS:p.getD g.start.toNat false=p[g.start.toNat]'(by omega):=by simp[b4]
  generalize p[g.start.toNat]'(by omega)=s at b4 cS
  rw[cS] at c
  simp(disch:=omega)only[↓wr,seval,wq,bY,aba,b4]
  cases s with
  | false =>
   rw[aa9 (by simp)] at c
   simp(disch:=omega)only[↓wr,seval,wq,set_set]
   rintro h' hh
   rw[c]
   exact zr
  | true =>
   rw[abb rfl] at c
   simp(disch:=omega)only[↓wr,seval,wq]
   have hN:=hf.av
   have hq:=hf.ly
   have hT:=hf.ax
   have hR:=hf.rules
   refine dC (L:=[(.sl M 0 1 4,4,[[.emp 1,.emp 1,.emp 1,gi 0]])]) (bw.emp (bw.nil.new rfl 4 _)) (by simp[df,aK]) (by unfold aE;simp;omega) (by unfold aE;simp;omega) ?_
   intro C H1 b5 _
   have c0:=b5.head.cells
   have k0:=b5.head.eL
   simp(disch:=omega)only[↓wr,seval,wq,c0,k0]
   intro P e7
   have e8:=b5.new e7 4 [[C,.emp 1,.emp 1,gi 0]]
   try simp(disch:=omega)only[↓wr,seval,wq,aj,encS,c0,k0,set_set]
   refine⟨⟨by omega,by unfold aE;omega,by unfold aE;omega⟩,λh=>by omega,?_⟩
   intro _ B cV
   have c3:=(cp cV cw).1
   have j:=e8.new (n:=B) (by simp only[View.set,aa9 c3];exact(cp (cp cV cw).2 cw).2) 1 (aO (List.replicate g.av.length 0))
   try simp(disch:=omega)only[↓wr,seval,wq,aj,encS,c0,k0,set_set]
   refine aW.up g.av.length (λi T H=>(∃l:List Int,l.length=g.av.length/\l.take i=List.replicate i (-1) /\
    bw H [(.sl B 0 g.av.length 1,1,aO l),(.sl P 0 1 4,4,[[C,.emp 1,.emp 1,gi 0]]),(C,3,g.ax.map df),(.sl M 0 1 4,4,[[.emp 1,.emp 1,.emp 1,gi 0]])]) /\
    T 1=.aR (aj g) 0/\T 2=.ptr M 0 0/\T 5=bY p/\T 6=bY q/\T 7=.ptr P 0 0/\T 8=.sl B 0 g.av.length 1/\T 9=gi i) ?_ ?_
   .exact⟨⟨List.replicate g.av.length 0,by simp,by simp,by simpa [set_set] using j⟩,rfl,rfl,rfl,rfl,rfl,rfl,rfl⟩
   rintro i k T H2 hk ⟨⟨l,G,t,f⟩,t1,t2,t5,t6,t7,t8,t9⟩
   simp(disch:=omega)only[↓wr,seval,wq,nX,t8,t9]
   apply ao.dec<;>intro hc
   .have e9:aO l≠[]:=by intro e;rw[List.map_eq_nil_iff] at e;rw[e] at G;simp at G;omega
    have hb:=(f.obj e9).1
    have u:=mO (show i<l.length by omega)
    simp(disch:=omega)only[↓wr,seval,wq,t2,t8,t9,hb,u]
    refine⟨by omega,by omega,?_⟩
    refine aF hk (by omega) ⟨⟨l.set i (-1),by simp[G],?_,?_⟩,t1,t2,t5,t6,t7,t8,rfl⟩
    .rw[A6 (by omega),t,List.replicate_succ']
    .rw[ints_set]
     exact f.put (by simp) (by simp[G])
   .rw[abo (by omega)] at t
    rw[t] at f
    have ei:i=g.av.length:=by omega
    subst ei
    simp(disch:=omega)only[↓wr,seval,wq,t2]
    have name_in:∀o:List Int,(o.map λx=>g.av.getD x.toNat ⟨#[]⟩).length=o.length:=λo=>by simp
    refine aW.up g.rules.length (YQ g p q M P B C) ?_ ?_
    .refine⟨⟨.emp 1,.emp 1,rfl,by simp[cZ],by simp[cZ],by simp[cZ],?_⟩,t1,t2,t5,t6,t7,t8,rfl⟩
     have h4:=((((f.emp (k:=1) (sz:=1)).emp (k:=1) (sz:=1)).at 3 (by simp)).perm (Kk.symm.cons _))
     have e0:cZ p q (g.rules.take 0)=[]:=rfl
     rw[e0,XO]
     exact h4
    clear f t1 t2 t5 t6 t7 t8 t9 G t
    rintro i k T H2 hk ⟨⟨J,u3,t10,al,an,b9,f⟩,t1,t2,t5,t6,t7,t8,t11⟩
    simp(disch:=omega)only[↓wr,seval,wq,ox,t1,t11,aj]
    apply ao.dec<;>intro hc
    .have I:g.rules[i]?=some (g.rules[i]'(by omega)):=aa8 (by omega)
     have z:g.rules[i]'(by omega)∈g.rules:=abe _
     have D:g.rules.take (i+1)=g.rules.take i++[g.rules[i]'(by omega)]:=by rw[abr,I];rfl
     generalize g.rules[i]'(by omega)=r at I z D
     obtain⟨G,t,Q,fb,aq⟩:=hf.qU hg z
     have ca:q[r.left.toNat]?=some (q[r.left.toNat]'(by omega)):=aa8 (by omega)
     have ar:q.getD r.left.toNat false=q[r.left.toNat]'(by omega):=by simp[ca]
     generalize q[r.left.toNat]'(by omega)=qs at ca ar
     simp(disch:=omega)only[↓wr,seval,wq,t1,t6,t11,aj,aQ,aba,I]
     intro c4 da
     have A:=f.new da 3 [aQ r]
     try simp(disch:=omega)only[↓wr,seval,wq,encI,bY,aba,ca]
     have R:∀(T2:Env) (H':View),dP p q r=false->H'=H2.set c4 (.arr 3 [aQ r])->T2 10=u3->T2 1=.aR (aj g) 0->T2 2=.ptr M 0 0->T2 5=bY p->T2 6=bY q->T2 7=.ptr P 0 0->T2 8=.sl B 0 g.av.length 1->T2 11=gi ((i:Int)+1) ->
       ∃k',k'<k/\FL g.rules.length k' (YQ g p q M P B C) T2 H':=by
      intro T2 H' S ff fl a1 a2 a5 a6 a7 a8 fm
      have N:cZ p q (g.rules.take (i+1))=cZ p q (g.rules.take i):=by rw[D,wX,aa9 (by simp[S])]
      have e2:dD p q (g.rules.take (i+1)) 0=dD p q (g.rules.take i) 0:=by rw[D,mN];simp[dD,S]
      refine aF hk (by omega) ⟨⟨J,u3,fl,by rw[N];exact al,by rw[N];exact an,by rw[N];omega,by rw[N,e2,ff];exact A.tail⟩,a1,a2,a5,a6,a7,a8,by rw[fm];rfl⟩
     cases qs with
     | false =>
      simp(disch:=omega)only[↓wr,seval,wq,t2,t11]
      refine R _ _ (by rw[dP,ar];rfl) ?_ ?_ ?_ ?_ ?_ ?_ ?_ ?_ ?_
      all_goals first | exact t10 | exact t1 | exact t2 | exact t5 | exact t6 | exact t7 | exact t8 | rfl | (rw[set_set];rfl)
     | true =>
      simp(disch:=omega)only[↓wr,seval,wq,t5,bY]
      refine ay.pure (KP r.right p true (hg.aB r z).2.2.1 (λs hs=>⟨(aq s hs).1,λh=>by rw[cN];exact(aq s hs).2 h⟩)) ?_
      simp(disch:=omega)only[↓wr,seval,wq]
      apply ao.split<;>intro cb
      .simp(disch:=omega)only[↓wr,seval,wq,t10,t11]
       have S:dP p q r=true:=by rw[dP,ar,cb];rfl
       intro m hm
       try simp(disch:=omega)only[↓wr,seval,wq,bD]
       have db:=(cp hm cw).1
       have hm:=(cp (cp hm cw).2 cw).2
       have d:=(A.fresh (n:=m) (o:=.arr 1 [[gi i]]) (by simp only[View.set,aa9 db];exact hm)).at 3 (by simp)
       have dc:(dD p q (g.rules.take i) 0).length<=40:=by
        rw[mB]
        have h1:=acQ (dP p q) (g.rules.take i)
        have h2:(g.rules.take i).length<=i:=List.length_take_le _ _
        have:=hf.rules
        omega
       refine dC (by rw[set_set];exact d) (by simp[aK]) (by unfold aE;simp at dc ⊢;omega) (by unfold aE;simp at dc ⊢;omega) ?_
       intro dj H3 j _
       have f12:=((j.at 1 (by simp)).obj (by simp)).1
       have f7:=((j.at 2 (by simp)).obj (by simp)).1
       have f8:=((j.at 3 (by simp)).obj (X3 (by simp[gp];omega))).1
       have cc:cE J=some (lX ((cZ p q (g.rules.take i)).map λx=>g.av.getD x.toNat ⟨#[]⟩)).length:=(j.at 4 (by simp)).head.len
       have u:=mO (l:=gp g.av.length (cZ p q (g.rules.take i))) (i:=r.left.toNat) (by simp[gp];omega)
       rw[C0 t Q] at u
       simp only[aQ,encI] at f12
       simp(disch:=omega)only[↓wr,seval,wq,t8,f12,f8,u]
       refine⟨by omega,by simp[gp];omega,?_⟩
       have e2:dD p q (g.rules.take (i+1)) 0=dD p q (g.rules.take i) 0++[(i:Int)]:=by
        rw[D,mN];simp[dD,S,show i<=g.rules.length by omega]
       have N:cZ p q (g.rules.take (i+1))=ml (cZ p q (g.rules.take i)) r:=by rw[D,wX,abb S]
       generalize cZ p q (g.rules.take i)=o at *
       generalize dD p q (g.rules.take i) 0=kl at *
       apply ao.dec<;>intro dm
       .have hx:r.left ∉ o:=vV.1 dm
        have E:ml o r=o++[r.left]:=by rw[ml,aa9 hx]
        have U:P≠B:=j.OT 2 3 rfl rfl (by omega)
        have W:c4≠B:=j.OT 1 3 rfl rfl (by omega)
        have cf:g.av[r.left.toNat]?=some (g.av[r.left.toNat]'(by omega)):=aa8 (by omega)
        have br:g.av.getD r.left.toNat ⟨#[]⟩=g.av[r.left.toNat]'(by omega):=by simp[cf]
        generalize g.av[r.left.toNat]'(by omega)=nm at cf br
        simp(disch:=omega)only[↓wr,seval,wq,t7,t8,f12,f7,f8,u,cc]
        try refine⟨by omega,by simp[gp];omega,?_⟩
        try simp(disch:=omega)only[↓wr,seval,wq,t1,f12,U,W,aj,encS,aba,cf]
        intro m2 O
        have ds:=(cp O cw).1
        have O:=(cp O cw).2
        have fs:(aO (gp g.av.length o)).set r.left.toNat [gi o.length]=aO (gp g.av.length (o++[r.left])):=by rw[ints_set,X9 t Q hx]
        have ch:=(j.at 3 (by simp)).put (es':=(aO (gp g.av.length o)).set r.left.toNat [gi o.length]) (by simp) (by simp[gp])
        have ft:=(ch.fresh (n:=m2) (o:=.arr 1 [[gs nm]]) (by simp only[View.set,aa9 ds];exact O)).at 4 (by simp)
        have hl:o.length<=40:=by omega
        try simp(disch:=omega)only[↓wr,seval,wq,bD]
        refine dC ft (by simp[aK]) (by unfold aE;simp;omega) (by unfold aE;simp;omega) ?_
        intro dv H5 bd _
        have c1:=bd.head.cells
        have k1:=bd.head.eL
        have cj:=((bd.at 4 (by simp)).obj (by simp)).1
        simp(disch:=omega)only[↓wr,seval,wq,t2,t7,t11,cj,c1,k1]
        have fv:=(bd.at 4 (by simp)).put (es':=[[C,dv,.emp 1,gi 0]]) rfl rfl
        have fx:=(((fv.at 4 (by simp)).tail).perm (Kk.cons _))
        refine aF hk (by omega) ⟨⟨dv,dj,rfl,?_,?_,?_,?_⟩,t1,t2,t5,t6,t7,t8,rfl⟩
        .rw[N,E];intro x fy;rcases abq.1 fy with h | h
         .exact al x h
         .simp at h;subst h;exact⟨t,Q⟩
        .rw[N];exact Qz an
        .rw[N,E];simp;omega
        .rw[N,E,e2]
         have:=fx
         rw[fs] at this
         simp only[abA,abE,acJ,br]
         exact this
       .have hx:r.left∈o:=by
         refine acF λh=>?_
         have:=vV.2 h
         omega
        have E:ml o r=o:=by rw[ml,abb hx]
        simp(disch:=omega)only[↓wr,seval,wq,t2,t11]
        have ch:=(((j.at 1 (by simp)).tail).perm Kk)
        refine aF hk (by omega) ⟨⟨J,dj,rfl,?_,?_,?_,?_⟩,t1,t2,t5,t6,t7,t8,rfl⟩
        .rw[N,E];exact al
        .rw[N,E];exact an
        .rw[N,E];omega
        .rw[N,E,e2]
         simp only[abA,abE,acJ]
         exact ch
      .simp(disch:=omega)only[↓wr,seval,wq,t2,t11]
       refine R _ _ (by rw[dP,ar,cb];rfl) ?_ ?_ ?_ ?_ ?_ ?_ ?_ ?_ ?_
       all_goals first | exact t10 | exact t1 | exact t2 | exact t5 | exact t6 | exact t7 | exact t8 | rfl | (rw[set_set];rfl)
    .rw[abo (by omega)] at f al an b9
     have fz:(dD p q g.rules 0).length<=40:=by
      rw[mB];have h1:=acQ (dP p q) g.rules;omega
     have ga:=xA p q g.rules 0
     have hn:=mB p q g.rules 0
     have ck:g.start.toNat<(gp g.av.length (cZ p q g.rules)).length:=by simp[gp];omega
     have bx:=mO ck
     rw[C0 h3 h4] at bx
     have ea:zD g (dL (cZ p q g.rules)) p q=⟨g.ax,(cZ p q g.rules).map λx=>g.av.getD x.toNat ⟨#[]⟩,(g.rules.filter (dP p q)).map (cT (dL (cZ p q g.rules))),dL (cZ p q g.rules) g.start⟩:=rfl
     rw[ea] at c
     clear ea
     generalize cZ p q g.rules=o at *
     generalize dD p q g.rules 0=kl at *
     simp(disch:=omega)only[↓wr,seval,wq,t2]
     refine aW.up kl.length (aaB g p q M P B C J u3 o kl) ?_ ?_
     .refine⟨⟨.emp 1,[],by simp,?_⟩,t1,t2,t7,t8,t10,rfl⟩
      exact(f.emp (k:=1) (sz:=3)).perm (vi [(.sl P 0 1 4,4,[[C,J,.emp 1,gi 0]]),(.sl B 0 g.av.length 1,1,aO (gp g.av.length o)),(u3,1,aO kl),(J,1,lX (o.map λx=>g.av.getD x.toNat ⟨#[]⟩)),(C,3,g.ax.map df),(.emp 1,3,[]),(.sl M 0 1 4,4,[[.emp 1,.emp 1,.emp 1,gi 0]])] 5 (by simp)).symm
     clear f t1 t2 t5 t6 t7 t8 t10 t11
     rintro i k T H2 hk ⟨⟨u2,bs,bl,f⟩,t1,t2,t7,t8,t10,t13⟩
     have gd:cE u3=some (aO kl).length:=(f.own 2 rfl).len
     simp(disch:=omega)only[↓wr,seval,wq,oC,t10,t13,gd]
     apply ao.dec<;>intro hc
     .obtain⟨n3,e3,gk⟩:=(f.own 2 rfl).sl (by simp;omega)
      rw[abc] at e3
      subst e3
      obtain⟨m,cA,O,X⟩:=ga i (by omega)
      have u:=mO (show i<kl.length by omega)
      rw[Int.zero_add] at cA
      have gr:kl[i]'(by omega)=(m:Int):=by
       rw[aa8 (show i<kl.length by omega)] at cA;simpa using cA
      rw[gr] at u
      have I:g.rules[m]?=some (g.rules[m]'X):=aa8 X
      have z:g.rules[m]'X∈g.rules:=abe _
      have D:(g.rules.filter (dP p q)).take (i+1)=(g.rules.filter (dP p q)).take i++[g.rules[m]'X]:=by
       rw[abr,<-O,I];rfl
      generalize g.rules[m]'X=r at I z D
      obtain⟨G,t,Q,fb,aq⟩:=hf.qU hg z
      simp(disch:=omega)only[↓wr,seval,wq,t1,t8,t10,t13,gk,u,aj,aQ,aba,I]
      refine⟨by omega,by omega,?_⟩
      intro eb b0
      have A:=f.new b0 3 [aQ r]
      have f8:=A.is 2 rfl (by simp[gp];omega)
      have b1:=mO (l:=gp g.av.length o) (i:=r.left.toNat) (by simp[gp];omega)
      rw[C0 t Q] at b1
      have cC:B≠eb:=A.OT 2 0 rfl rfl (by omega)
      have g8:H2 B=.arr 1 (aO (gp g.av.length o)):=f.is 1 rfl (by simp[gp];omega)
      try simp(disch:=omega)only[↓wr,seval,wq,g8,cC,b1,set_set,encI]
      refine⟨by omega,by simp[gp];omega,?_⟩
      intro ee F
      have ef:=(cp F cw).1
      have F:=(cp (cp F cw).2 cw).2
      have d:=(((A.new (n:=ee) (by simp only[View.set,aa9 ef];exact F) 3 [[gi (dL o r.left),.emp 1,gi r.prec]]).emp (k:=1) (sz:=1)).perm (.swap _ _ _))
      generalize hL:((V.sl P 0 1 4,4,[[C,J,u2,gi 0]])::(V.sl B 0 g.av.length 1,1,aO (gp g.av.length o))::(V.sl n3 0 kl.length 1,1,aO kl) ::
       (J,1,lX (o.map λx=>g.av.getD x.toNat ⟨#[]⟩))::(C,3,g.ax.map df)::(u2,3,iW bs)::(V.sl M 0 1 4,4,[[V.emp 1,V.emp 1,V.emp 1,gi 0]])::ou bs:List ez)=L at d
      have ha:L[1]?=some (.sl B 0 g.av.length 1,1,aO (gp g.av.length o)):=by rw[<-hL];rfl
      try simp(disch:=omega)only[↓wr,seval,wq,t1,t2,t7,t8,t10,t13,set_set]
      refine aW.up r.right.length (aac g M P B eb ee (.sl n3 0 kl.length 1) o r L i) ?_ ?_
      .exact⟨⟨.emp 1,by rw[set_set,set_set];exact d⟩,t1,t2,t7,t8,t10,t13,rfl,rfl,rfl⟩
      clear A d f8 g8 b0 F t1 t2 t7 t8 t10 t13
      rintro k k2 T H3 eg ⟨⟨v,w⟩,t1,t2,t7,t8,t10,t13,t14,t15,t16⟩
      have f14:=w.is 2 rfl (by simp)
      have f15:=w.is 0 rfl (by simp)
      have f8:H3 B=.arr 1 (aO (gp g.av.length o)):=w.is 4 (by simpa using ha) (by simp[gp];omega)
      simp only[aQ] at f14
      simp(disch:=omega)only[↓wr,seval,wq,og,t14,t16,f14,encI]
      apply ao.dec<;>intro hd
      .have cI:r.right[k]?=some (r.right[k]'(by omega)):=aa8 (by omega)
       have ej:r.right[k]'(by omega)∈r.right:=abe _
       have Y:(cT (dL o) r).right.take (k+1)=(cT (dL o) r).right.take k++[if r.right[k]'(by omega)<0 then -1-dL o (-1-r.right[k]'(by omega)) else r.right[k]'(by omega)]:=by
        rw[abr];simp[cT,cI]
       have bn:((cT (dL o) r).right.take k).length<=6:=by
        have h1:(cT (dL o) r).right.length=r.right.length:=by simp[cT]
        have h2:((cT (dL o) r).right.take k).length<=(cT (dL o) r).right.length:=by rw[acb];omega
        omega
       generalize r.right[k]'(by omega)=s at cI ej Y
       obtain⟨⟨s1,s2⟩,s3⟩:=aq s ej
       simp(disch:=omega)only[↓wr,seval,wq,t14,t16,f14,encI,aba,cI]
       have ht:=XR o (-1-s)
       have hz:o.length<=40:=by omega
       apply ao.dec<;>intro K
       .rw[abb K] at Y
        have ek:=s3 K
        have b3:=mO (l:=gp g.av.length o) (i:=(-1-s).toNat) (by simp[gp];omega)
        rw[C0 (by omega) ek] at b3
        simp(disch:=omega)only[↓wr,seval,wq,t8,t15,f15,f8,b3]
        refine⟨by omega,by simp[gp];omega,?_⟩
        intro m hm
        try simp(disch:=omega)only[↓wr,seval,wq,bD]
        have Z:=(w.fresh (o:=.arr 1 [[gi (-1-dL o (-1-s))]]) hm).at 1 (by simp)
        refine dC Z (by simp[aK]) (by unfold aE;simp at bn ⊢;omega) (by unfold aE;simp at bn ⊢;omega) ?_
        intro v' H4 a _
        have cv:=a.head.cells
        have kv:=a.head.eL
        have ab:=a.is 1 rfl (by simp)
        simp(disch:=omega)only[↓wr,seval,wq,t1,t2,t7,t13,t15,t16,ab,cv,kv]
        have ae:=(a.at 1 (by simp)).put (es':=[[gi (dL o r.left),v',gi r.prec]]) rfl rfl
        refine aF eg (by omega) ⟨⟨v',?_⟩,t1,t2,t7,t8,t10,t13,t14,t15,rfl⟩
        rw[Y]
        simp only[abA,abE,acJ]
        exact ae
       .rw[aa9 K] at Y
        simp(disch:=omega)only[↓wr,seval,wq,t15,f15]
        intro m hm
        try simp(disch:=omega)only[↓wr,seval,wq,bD]
        have Z:=(w.fresh (o:=.arr 1 [[gi s]]) hm).at 1 (by simp)
        refine dC Z (by simp[aK]) (by unfold aE;simp at bn ⊢;omega) (by unfold aE;simp at bn ⊢;omega) ?_
        intro v' H4 a _
        have cv:=a.head.cells
        have kv:=a.head.eL
        have ab:=a.is 1 rfl (by simp)
        simp(disch:=omega)only[↓wr,seval,wq,t1,t2,t7,t13,t15,t16,ab,cv,kv]
        have ae:=(a.at 1 (by simp)).put (es':=[[gi (dL o r.left),v',gi r.prec]]) rfl rfl
        refine aF eg (by omega) ⟨⟨v',?_⟩,t1,t2,t7,t8,t10,t13,t14,t15,rfl⟩
        rw[Y]
        simp only[abA,abE,acJ]
        exact ae
      .rw[abo (by simp[cT];omega)] at w
       subst hL
       have f7:=w.is 3 rfl (by simp)
       have cv:=(w.own 1 rfl).cells
       have kv:=(w.own 1 rfl).eL
       have eH:(iW bs).length<=40:=by
        have h1:=ach List.length bl
        simp only[abc,acb] at h1
        simp only[iW,abc]
        omega
       simp(disch:=omega)only[↓wr,seval,wq,t1,t2,t7,t13,t15,f7,f15,kv]
       intro m hm
       try simp(disch:=omega)only[↓wr,seval,wq,bD]
       have Z:=(w.fresh (o:=.arr 3 [[gi (dL o r.left),v,gi r.prec]]) hm).at 8 (by simp)
       refine dC Z (by simp[CQ,kv]) (by unfold aE;simp at eH ⊢;omega) (by unfold aE;simp at eH ⊢;omega) ?_
       intro e4 H4 a _
       have cu:=a.head.cells
       have ku:=a.head.eL
       have cj:=a.is 4 rfl (by simp)
       simp(disch:=omega)only[↓wr,seval,wq,t1,t2,t7,t13,cj,cu,ku]
       have ae:=(a.at 4 (by simp)).put (es':=[[C,J,e4,gi 0]]) rfl rfl
       have hj:=((((ae.at 2 (by simp)).tail).at 3 (by simp)).tail)
       refine aF hk (by omega) ⟨⟨e4,bs++[(v,cT (dL o) r)],?_,?_⟩,t1,t2,t7,t8,t10,rfl⟩
       .rw[abA,bl,D,abA];rfl
       .refine hj.perm (.cons _ ?_)
        simp only[ou,iW,abA,abE,acJ]
        refine .trans ?_ (vi _ 4 (by simp)).symm
        refine .cons _ ?_
        exact(List.perm_append_singleton (v,1,aO (cT (dL o) r).right) ((.sl B 0 g.av.length 1,1,aO (gp g.av.length o))::(.sl n3 0 kl.length 1,1,aO kl)::(J,1,lX (o.map λx=>g.av.getD x.toNat ⟨#[]⟩))::(C,3,g.ax.map df)::(.sl M 0 1 4,4,[[.emp 1,.emp 1,.emp 1,gi 0]])::ou bs)).symm
     .rw[abo (by omega)] at bl
      have f7:=f.is 0 rfl (by simp)
      have f8:H2 B=.arr 1 (aO (gp g.av.length o)):=f.is 1 rfl (by simp[gp];omega)
      have f2:=f.is 6 rfl (by simp)
      have e5:P≠M:=f.OT 0 6 rfl rfl (by omega)
      have c1:=(f.own 3 rfl).cells
      have k1:=(f.own 3 rfl).eL
      have c2:=(f.own 5 rfl).cells
      have k2:=(f.own 5 rfl).eL
      simp(disch:=omega)only[↓wr,seval,wq,t1,t2,t7,t8,t10,f7,f8,f2,e5.symm,bx,k0,k1,k2,aj]
      refine⟨by omega,by simp[gp];omega,λh' hh=>?_⟩
      have A:=f.put (es':=[[C,J,u2,gi (dL o g.start)]]) rfl rfl
      have d:=(A.at 6 (by simp)).put (es':=[[C,J,u2,gi (dL o g.start)]]) rfl rfl
      have hv:h'.view=(H2.set P (.arr 4 [[C,J,u2,gi (dL o g.start)]])).set M (.arr 4 [[C,J,u2,gi (dL o g.start)]]):=hh
      rw[<-hv] at d
      rw[c]
      exact NJ (x:=(⟨g.ax,o.map λx=>g.av.getD x.toNat ⟨#[]⟩,(g.rules.filter (dP p q)).map (cT (dL o)),dL o g.start⟩,kl,0)) (b:=bs) (d.own 5 rfl) (d.own 4 rfl) (d.own 6 rfl) (λy hy=>d.1 y (by
       refine abx _ (abx _ (abx _ (abx _ (abx _ (abx _ (abx _ ?_))))))
       exact hy)) bl (d.own 3 rfl)
 .rename_i hr
  intro h' hh
  rw[iS,aa9 (by simp[hr])]
  exact zr
theorem Nh {g:ak} (e:p8 g=false):g.Small:=by
 simp only[p8,Bool.or_eq_false_iff,acy] at e
 exact⟨by omega⟩
theorem Vc (g:ak):aC aa 14 [.agg (aj g)] (gb (p8 g)):=aC.val (dy g) λH=>(Wy g H).mono λ_ _ h=>h.1
theorem tP {a b:V} (c:Tree a) (d:Tree b):Tree (.bc [a,b]):=.bc _ λi hi=>by
 match i,hi with
 | 0,_=>exact c
 | 1,_=>exact d
 | n+2,h=>exact absurd h (by simp)
theorem K7 {h:Heap} {a b c d:V} (e:dF h a c) (f:dF h b d):dF h (.bc [a,b]) (.bc [c,d]):=.bc _ _ rfl λi hi=>by
 match i,hi with
 | 0,_=>exact e
 | 1,_=>exact f
 | n+2,h=>exact absurd h (by simp)
theorem Gx {H:View} {id n:Nat} {l:List Int} (a:H id=.arr 1 (aO l)) (b:n=l.length):cm H (.sl id 0 n 1) (encI l):=by
 subst b
 exact cm.own (sz:=1) (.inr ⟨id,by simp,a⟩) λe he v a=>by
  obtain⟨x,_,rfl⟩:=abt.1 he
  simp at a;subst a;exact .val _
theorem TW (l:List Int) (i:Nat) (x:Int):(aO l).set i [gi x]=aO (l.set i x):=by simp
theorem aN.elems {H:View} {u:V} {sz:Nat} {es:List (List V)} (h:aN H u sz es):∃rd,bQ H u=some (es,rd):=by
 rcases h with ⟨rfl,k,rfl⟩ | ⟨n,rfl,a⟩
 .exact⟨[],rfl⟩
 .cases es with
  | nil=>exact⟨[],rfl⟩
  | cons e r =>
   refine⟨[n],?_⟩
   rw[abl,j6 _ n 0 r.length sz sz _ a (by simp),ab8,abo (by simp)]
theorem cn.step {H H' H1:View} {u b:V} (h:cn H H' u) (l:Left H' H1 u b):cn H H1 b:=λid a=>by
 have h1:=h id a
 have c:=l id (by rw[h1.1];exact a) h1.2
 exact⟨c.1.trans h1.1,c.2⟩
theorem cn.put {H H':View} {u:V} {n:Nat} {o:ct} (h:cn H H' u) (b:H' n=.dead):cn H (H'.set n o) u:=λid a=>by
 have h1:=h id a
 have e:id≠n:=by rintro rfl;rw[h1.1] at b;exact a b
 exact⟨by simp[View.set,e,h1.1],h1.2⟩
theorem cn.call {H H' b:View} {u r:V} (h:cn H H' u) (k:cn H' b r):cn H b u:=λid a=>by
 have h1:=h id a
 have c:=k id (by rw[h1.1];exact a)
 exact⟨c.1.trans h1.1,h1.2⟩
theorem uU {l:List Int} {k:Nat} (h:k<=l.length):c6 1 (.aY (l.map λx=>[gi x])) none (some (gi k))=some (.aY ((l.take k).map λx=>[gi x]),.none,[]):=by
 simp[c6,bound,asNat,h,List.map_take]
theorem qM {l:List Int} {k:Nat} (h:k<=l.length):c6 1 (.aY (l.map λx=>[gi x])) (some (gi k)) none=some (.aY ((l.drop k).map λx=>[gi x]),.none,[]):=by
 simp[c6,bound,asNat,h,List.map_drop]
 rw[abo (by simp)]
theorem ey {P:Program} {t:TypeId} {d:TypeDesc} (hu:P.underlying t=some d) (a:d=.string∨∃k,d=.int k) (cs:Array Value) (off:Nat) {v:Value} (b:cs[off]?=some v):bo P (part t cs off)=some v:=by
 have c:bo P (isAgg t)=some false:=by
  rcases a with rfl | ⟨k,rfl⟩
  all_goals simp only[isAgg,aZ,dH hu,abD];rfl
 simp only[part,aZ,c,abD,abI,if_false,b]
 rfl
inductive ic (P:Program) (d:Nat) (xs ys:Array Value):List Field->Bool->Prop
 | nil:ic P d xs ys [] true
 | str (f:Field) (l:List Field) (c:Bool) (a b:ByteArray):(f.name≠ "_")->P.underlying f.type=some .string->xs[f.offset]?=some (.string a)->ys[f.offset]?=some (.string b)->ic P d xs ys l c->ic P d xs ys (f::l) (a==b&&c)
 | int (f:Field) (l:List Field) (c:Bool) (k:IntKind) (a b:Int):(f.name≠ "_")->P.underlying f.type=some (.int k)->xs[f.offset]?=some (.int k a)->ys[f.offset]?=some (.int k b)->ic P d xs ys l c->ic P d xs ys (f::l) (a==b&&c)
theorem ic.forIn {P:Program} {d e:Nat} {xs ys:Array Value} {l:List Field} {c:Bool} (h:ic P d xs ys l c) (n:e=d+1):
  bo P (forIn l ((none:Option Bool),()) λf _ =>
    if f.name≠ "_" then do
     let a <-part f.type xs f.offset
     let b <-part f.type ys f.offset
     let e <-Op.equalIn e f.type a b
     if (!e)=true then pure (ForInStep.done (some false,())) else pure (ForInStep.yield (none,()))
    else pure (ForInStep.yield (none,())))=some (if c=true then (none,()) else (some false,())):=by
 subst n
 induction h with
 | nil=>rfl
 | str f l c a b g hu i j _ m =>
  have he:bo P (Op.equalIn (d+1) f.type (.string a) (.string b))=some (a==b):=by
   simp only[Op.equalIn,aZ,dH hu,abD];rfl
  rw[List.forIn_cons,aZ,abb g,aZ,ey hu (.inl rfl) xs _ i,abD,aZ,ey hu (.inl rfl) ys _ j,abD,aZ,he,abD]
  cases a==b with
  | false=>rfl
  | true=>exact m
 | int f l c k a b g hu i j _ m =>
  have he:bo P (Op.equalIn (d+1) f.type (.int k a) (.int k b))=some (a==b):=by
   simp only[Op.equalIn,aZ,dH hu,abD];rfl
  rw[List.forIn_cons,aZ,abb g,aZ,ey hu (.inr ⟨k,rfl⟩) xs _ i,abD,aZ,ey hu (.inr ⟨k,rfl⟩) ys _ j,abD,aZ,he,abD]
  cases a==b with
  | false=>rfl
  | true=>exact m
theorem vy {P:Program} {t:TypeId} {b:Array Field} {xs ys:Array Value} {c:Bool} (hu:P.underlying t=some (.struct b)) (d:P.stoodInHeld t=false) (h:ic P 9998 xs ys b.toList c):
  bo P (Op.equal t (.agg xs) (.agg ys))=some c:=by
 rw[lf]
 rw[Op.equalIn,aZ,dH hu,abD]
 have a:(bo P program)=some P:=rfl
 rw[aZ,a,abD,d]
 simp only[<-Array.forIn_toList,abI,if_false]
 rw[aZ,h.forIn (e:=9999) rfl,abD]
 cases c<;>rfl
theorem HW {P:Program} {o:Oper} {T:Env} {op:BinOp} {t u:TypeId} {x y:Operand} {f:Array Field} {xs ys:Array Value} {c r:Bool} (b:o.op=.binOp op t x y u) (hu:P.underlying t=some (.struct f)) (i:P.stoodInHeld t=false) (g:P.eqGuardType P.depth t=false)
  (d:dI (ev T x)=some (.agg xs)) (e:dI (ev T y)=some (.agg ys)) (h:ic P 9998 xs ys f.toList c) (hr:(op=.eql/\r=c)∨(op=.neq/\r = !c)):
  eE P o T=some (.val (.bool r),.none,[]):=by
 have he:=vy hu i h
 have a:(bo P program)=some P:=rfl
 unfold eE
 simp only[b,Op.operands]
 rcases hr with ⟨rfl,rfl⟩ | ⟨rfl,rfl⟩
 .simp[execOp,b,d,e,eqGuard,binOp,ki,aZ,a,g,he,plain]
  try simp[bo,pure]
 .simp[execOp,b,d,e,eqGuard,binOp,ki,aZ,a,g,he,plain]
  try simp[bo,pure]
theorem kn {P:Program} {T:Env} {H:View} {K:V->View->Prop} {w:dd (T,H,K)} {op:BinOp} {t u ty:TypeId} {x y:Operand} {a:Array Field} {xs ys:Array Value} {c r:Bool} (hu:P.underlying t=some (.struct a)) (b:P.stoodInHeld t=false) (d:P.eqGuardType P.depth t=false)
  (e:dI (ev T x)=some (.agg xs)) (f:dI (ev T y)=some (.agg ys)) (h:ic P 9998 xs ys a.toList c) (hr:(op=.eql/\r=c)∨(op=.neq/\r = !c)) (hk:K (.val (.bool r)) H):kb P (.binOp op t x y u) ty T H K w:=by
 intro n _
 refine⟨.val (.bool r),.none,[],?_,hk⟩
 have g:kG P t=none:=by simp[kG,hu]
 simp only[sI,cL,oper,g]
 simp only[Option.isSome_none,abI,if_false]
 exact HW rfl hu b d e f h hr
def BX (hp:Array Obj) (cs:List Value) (vs:List V):Prop:=
 vs.length=cs.length/\∀μ i,i<vs.length->aD (λb=>b<hp.size) μ hp (vs.getD i .any) (cs.getD i undef)
def Wt {H:Type} (P:Program) (t:TypeId) (d:DataW H):Prop:=∀n∈d.weights P t,n<=reachBytes
def Cq (P:Program) (t:TypeId) {α:Type} (f:α->List V) (ok:α->Prop):Prop:=
 ∀ {H:Type} (enc:TypeId × Value->H) (w:World) (base:Nat) (sp:Nat->Bool) (held:Bool) (fuel:Nat) (cs:List Value) (x:DataW H × List MemPlace),
  DataW.trod enc P w base sp held fuel t cs=some x->Wt P t x.1->∃a,ok a/\BX w.heap cs (f a)
theorem Aq {hp:Array Obj} {c:Value} {v:V} (h:∀μ,aD (λb=>b<hp.size) μ hp v c):BX hp [c] [v]:=by
 refine⟨rfl,λμ i hi=>?_⟩
 match i,hi with
 | 0,_=>exact h μ
theorem Y6 {P:Program} {t:TypeId} {k:IntKind} (a:P.underlying t=some (.int k)):Cq P t (λn=>[.val (.int k n)]) (λn=>(Lit.int k n).wf=true):=by
 intro H enc w base sp held fuel cs x h _
 obtain⟨n,rfl,_,hw⟩:=DataW.trod_int a h
 exact⟨n,hw,Aq λμ=>.val _ rfl⟩
theorem Jw {P:Program} {t:TypeId} (a:P.underlying t=some .string):Cq P t (λs=>[.val (.string s)]) (λ_=>True):=by
 intro H enc w base sp held fuel cs x h _
 obtain⟨s,rfl,_,_⟩:=DataW.trod_string a h
 exact⟨s,trivial,Aq λμ=>.val _ rfl⟩
theorem Lk {w:World} {base:Nat} {a:Addr} {n:Nat} {cs:List Value} (h:w.cells? base a n=some cs):cs.length=n/\∀i,i<n->w.cell? (a.add i)=some (cs.getD i undef):=by
 obtain⟨_,b,c⟩:=World.cells?_some h
 refine⟨b,λi hi=>?_⟩
 rw[c i hi,aa7,aa8 (by omega)]
 rfl
theorem TP {w:World} {a:Addr} {v:Value} (h:w.cell? a=some v):a.spot=none/\a.block<w.heap.size:=by
 unfold World.cell? at h
 split at h
 .rename_i c _ _ b
  split at h
  .simp at h
  .rename_i d
   exact⟨by simpa using d,(Array.getElem?_eq_some_iff.1 b).1⟩
 .simp at h
theorem RU {H:Type} {P:Program} {e:TypeId}:∀ {l:List (DataW H)},(∀n∈DataW.weightsAll P e l,n<=reachBytes)->∀d∈l,Wt P e d
 | [],_,d,a=>by simp at a
 | x::l,h,d,a=>by
  simp only[DataW.weightsAll,abq] at h
  rcases abw.1 a with rfl | a
  .exact λn b=>h n (.inl b)
  .exact RU (λn b=>h n (.inr b)) d a
theorem VA {H:Type} {P:Program} {t e:TypeId} {elems spare:List (DataW H)} (a:P.underlying t=some (.slice e)) (h:Wt P t (.slice elems spare)):
  (elems.length+spare.length)*P.bytesOf e<=reachBytes/\∀d∈elems,Wt P e d:=by
 unfold Wt at h
 unfold DataW.weights at h
 rw[a] at h
 simp only[abw,abq] at h
 exact⟨h _ (.inl rfl),RU λn b=>h n (.inr (.inl b))⟩
theorem SL {H:Type} {P:Program} {t:TypeId} {a:Array Field} {parts:List (DataW H)} (b:P.underlying t=some (.struct a)) (h:Wt P t (.agg parts)) {j:Nat} {f:Field} {d:DataW H} (c:a[j]?=some f) (e:parts[j]?=some d):Wt P f.type d:=by
 intro n g
 refine h n ?_
 unfold DataW.weights
 rw[b]
 exact DataW.weights_mem_each (j:=j) (t:=f.type) (by simp[c]) e n g
theorem NF {α:Type} {c:Nat->α->Prop}:∀(n:Nat),(∀i,i<n->∃a,c i a)->∃l:List α,l.length=n/\∀i (hi:i<l.length),c i l[i]
 | 0,_=>⟨[],rfl,λi hi=>by simp at hi⟩
 | n+1,h=>by
  obtain⟨l,d,b⟩:=NF n λi hi=>h i (by omega)
  obtain⟨a,f⟩:=h n (by omega)
  refine⟨l++[a],by simp[d],λi hi=>?_⟩
  by_cases e:i<l.length
  .rw[List.getElem_append_left e];exact b i e
  .have:i=n:=by simp at hi;omega
   subst this
   rw[List.getElem_append_right (by omega)]
   simp only[d,Nat.sub_self,List.getElem_cons_zero];exact f
theorem zI {P:Program} {t e:TypeId} {α:Type} {f:α->List V} {ok:α->Prop} (J:P.underlying t=some (.slice e)) (M:0<P.cellsOf e) (N:0<P.bytesOf e) (he:Cq P e f ok):
  Cq P t (λl:List α=>[.aY (l.map f)]) (λl=>l.length<4611686018427387904/\∀a∈l,ok a):=by
 intro H enc w base sp held fuel cs x h hw
 rcases DataW.trod_slice J h with ⟨rfl,rfl⟩ | ⟨a,len,cap,elems,rest,n,_,rfl,rfl,O,Q,hm,hlen,A,_,_⟩
 .exact⟨[],⟨by simp,by simp⟩,Aq λμ=>.jz none 0 (by simp)⟩
 obtain⟨r,B⟩:=VA J hw
 simp only[abc] at r
 have C:len<4611686018427387904:=by
  have h1:len*1<=(elems.length+rest.length)*P.bytesOf e:=Nat.mul_le_mul (by omega) N
  unfold reachBytes at r
  omega
 have each:∀i,i<len->∃y,ok y/\∃ci,w.cells? base (a.add (i*P.cellsOf e)) (P.cellsOf e)=some ci/\BX w.heap ci (f y):=by
  intro i hi
  have h1:=A i hi
  have k:elems[i]?=some (elems[i]'(by omega)):=aa8 (by omega)
  have s:elems[i]'(by omega)∈elems:=abe _
  rw[k,Option.bind_eq_some_iff] at h1
  obtain⟨ci,D,E⟩:=h1
  obtain⟨y,z,m⟩:=he enc w base sp held n ci _ E (B _ (abt.2 ⟨_,s,rfl⟩))
  exact⟨y,z,ci,D,m⟩
 obtain⟨l,F,p⟩:=NF len each
 subst F
 refine⟨l,⟨C,λy R=>?_⟩,Aq λμ=>?_⟩
 .obtain⟨i,hi,rfl⟩:=acY R
  exact(p i hi).1
 by_cases K:l=[]
 .subst K
  exact .jz (some a) cap (by simp)
 have o:0<l.length:=adf.2 K
 have d:∀i j,i<l.length->j<P.cellsOf e->∃c,cellAt w.heap a.block (a.off+i*P.cellsOf e+j)=some c/\a.block<w.heap.size/\(i=0->j=0->a.spot=none)/\∀(hi:i<l.length),aD (λb=>b<w.heap.size) μ w.heap ((f l[i]).getD j .any) c:=by
  intro i j hi q
  obtain⟨_,ci,h1,k⟩:=p i hi
  obtain⟨D,E⟩:=Lk h1
  have z:=E j q
  have m:=TP z
  have u:((a.add (i*P.cellsOf e)).add j).block=a.block:=by simp only[Addr.add];split<;>split<;>rfl
  have G:((a.add (i*P.cellsOf e)).add j).off=a.off+i*P.cellsOf e+j:=by
   simp only[Addr.add];split<;>split<;>simp_all
  refine⟨ci.getD j undef,?_,by rw[<-u];exact m.2,?_,λ_=>?_⟩
  .rw[<-G,<-u,<-jo]
   rw[<-z]
   congr 1
   generalize (a.add (i*P.cellsOf e)).add j=b at m
   cases b
   simp at m ⊢
   exact m.1.symm
  .rintro rfl rfl
   simp[Addr.add] at m
   exact m.1
  .exact k.2 μ j (by rw[k.1,D];exact q)
 obtain⟨_,_,S,L,_⟩:=d 0 0 o M
 have T:a=⟨a.block,a.off,none⟩:=by
  cases a;simp at L ⊢;exact L
 have I:∀i,i<l.length->(f (l[i]?.getD (l[0]'o))).length=P.cellsOf e:=λi hi=>by
  obtain⟨_,ci,h1,k⟩:=p i hi
  rw[aa8 hi,abp,k.1,(Lk h1).1]
 have v:∀i (hi:i<l.length),(l.map f).getD i []=f l[i]:=λi hi=>by simp[hi]
 have g:(l.map f).length=l.length:=by simp
 have:=aD.aY (Z:=λb=>b<w.heap.size) (μ:=μ) (hp:=w.heap) (l.map f) a.block a.off (P.cellsOf e) cap (λi j=>(cellAt w.heap a.block (a.off+i*P.cellsOf e+j)).getD undef) S (by rw[g];exact Q)
  (λi hi=>by
   rw[g] at hi
   have:=I i hi
   rw[aa8 hi,abp] at this
   rw[v i hi];exact this)
  (λi j hi q=>by
   rw[g] at hi
   obtain⟨c,h1,_⟩:=d i j hi q
   rw[h1];rfl)
  (λi j hi q=>by
   rw[g] at hi
   obtain⟨c,h1,_,_,k⟩:=d i j hi q
   rw[h1,v i hi];exact k hi)
 rw[g,<-T] at this
 exact this
theorem Cr {P:Program} {t:TypeId} {b:Array Field} (d:P.underlying t=some (.struct b)) (j:∀(i:Nat) (f:Field),b[i]?=some f->f.offset=i/\P.cellsOf f.type=1) (k:P.cellsOf t=b.size)
  {H:Type} {enc:TypeId × Value->H} {w:World} {base:Nat} {sp:Nat->Bool} {held:Bool} {fuel:Nat} {cs:List Value} {x:DataW H × List MemPlace} (h:DataW.trod enc P w base sp held fuel t cs=some x) (hw:Wt P t x.1):
  cs.length=b.size/\∀(i:Nat) (f:Field),b[i]?=some f->∀ {α:Type} {g:α->List V} {ok:α->Prop},Cq P f.type g ok->∃a,ok a/\BX w.heap [cs.getD i undef] (g a):=by
 obtain⟨xs,n,rfl,rfl,l,hlen,m⟩:=DataW.trod_struct d h
 refine⟨by rw[l,k],λi f hi α g ok hr=>?_⟩
 obtain⟨h1,o⟩:=j i f hi
 have p:i<b.size:=(Array.getElem?_eq_some_iff.1 hi).1
 have c:=m i f hi
 have e:xs[i]?=some (xs[i]'(by omega)):=aa8 (by omega)
 rw[e,h1,o] at c
 have q:(cs.drop i).take 1=[cs.getD i undef]:=by
  rw[aa7,aa8 (by omega),abS (by omega)]
  rfl
 rw[q] at c
 exact hr enc w base sp held n _ _ c (SL d hw hi (by simp[e]))
theorem jh {hp:Array Obj} {c:Value} {cs:List Value} {v:V} {vs:List V} (h:BX hp [c] [v]) (k:BX hp cs vs):BX hp (c::cs) (v::vs):=by
 refine⟨by simp[k.1],λμ i hi=>?_⟩
 cases i with
 | zero=>exact h.2 μ 0 (by simp)
 | succ i=>exact k.2 μ i (by simpa using hi)
theorem Ei {hp:Array Obj} : BX hp [] []:=⟨rfl,λμ i hi=>by simp at hi⟩
theorem Yh {n:Int} (h:(Lit.int .i64 n).wf=true):bm n:=by
 simp only[Lit.wf,abh,abn] at h
 exact h
theorem rU:Cq aa 3 (λn=>[gi n]) bm:=λenc w base sp held fuel cs x h hw=>by
 obtain⟨n,h1,a⟩:=Y6 Tryz.underlying3 enc w base sp held fuel cs x h hw
 exact⟨n,Yh h1,a⟩
theorem XI:Cq aa 27 (λl:List Int=>[encI l]) (λl=>aG l/\∀x∈l,bm x):=
 zI Tryz.underlying27 (acV (by kernel_rfl)) (acV (by kernel_rfl)) rU
theorem Rb:Cq aa 23 (λl:List ByteArray=>[encS l]) (λl=>aG l/\∀x∈l,True):=
 zI Tryz.underlying23 (acV (by kernel_rfl)) (acV (by kernel_rfl)) (Jw Tryz.underlying9)
theorem ZW {cs:List Value} (h:cs.length=3):cs=[cs.getD 0 undef,cs.getD 1 undef,cs.getD 2 undef]:=by
 match cs,h with
 | [a,b,c],_=>rfl
theorem cs4 {cs:List Value} (h:cs.length=4):cs=[cs.getD 0 undef,cs.getD 1 undef,cs.getD 2 undef,cs.getD 3 undef]:=by
 match cs,h with
 | [a,b,c,d],_=>rfl
theorem Yb:Cq aa 130 df (λt=>bm t.level/\bm t.assoc):=λenc w base sp held fuel cs x h hw=>by
 obtain⟨e,d⟩:=Cr Tryz.underlying130 (by
  intro i f hi
  match i,hi with
  | 0,hi=>simp at hi;subst hi;exact⟨rfl,by kernel_rfl⟩
  | 1,hi=>simp at hi;subst hi;exact⟨rfl,by kernel_rfl⟩
  | 2,hi=>simp at hi;subst hi;exact⟨rfl,by kernel_rfl⟩
  | n+3,hi=>simp at hi) (by kernel_rfl) h hw
 obtain⟨a,_,h1⟩:=d 0 _ rfl (Jw Tryz.underlying9)
 obtain⟨b,g,j⟩:=d 1 _ rfl rU
 obtain⟨c,k,l⟩:=d 2 _ rfl rU
 refine⟨⟨a,b,c⟩,⟨g,k⟩,?_⟩
 rw[ZW e]
 exact jh h1 (jh j (jh l Ei))
theorem XG:Cq aa 92 aQ (λr=>bm r.left/\bm r.prec/\aG r.right/\∀x∈r.right,bm x):=λenc w base sp held fuel cs x h hw=>by
 obtain⟨g,d⟩:=Cr Tryz.underlying92 (by
  intro i f hi
  match i,hi with
  | 0,hi=>simp at hi;subst hi;exact⟨rfl,by kernel_rfl⟩
  | 1,hi=>simp at hi;subst hi;exact⟨rfl,by kernel_rfl⟩
  | 2,hi=>simp at hi;subst hi;exact⟨rfl,by kernel_rfl⟩
  | n+3,hi=>simp at hi) (by kernel_rfl) h hw
 obtain⟨a,j,h1⟩:=d 0 _ rfl rU
 obtain⟨b,e,k⟩:=d 1 _ rfl XI
 obtain⟨c,l,m⟩:=d 2 _ rfl rU
 refine⟨⟨a,b,c⟩,⟨j,l,e.1,e.2⟩,?_⟩
 rw[ZW g]
 exact jh h1 (jh k (jh m Ei))
theorem Xt:Cq aa 26 aj ak.Ok:=λenc w base sp held fuel cs x h hw=>by
 obtain⟨k,e⟩:=Cr Tryz.underlying26 (by
  intro i f hi
  match i,hi with
  | 0,hi=>simp at hi;subst hi;exact⟨rfl,by kernel_rfl⟩
  | 1,hi=>simp at hi;subst hi;exact⟨rfl,by kernel_rfl⟩
  | 2,hi=>simp at hi;subst hi;exact⟨rfl,by kernel_rfl⟩
  | 3,hi=>simp at hi;subst hi;exact⟨rfl,by kernel_rfl⟩
  | n+4,hi=>simp at hi) (by kernel_rfl) h hw
 obtain⟨a,g,h1⟩:=e 0 _ rfl (zI Tryz.underlying22 (acV (by kernel_rfl)) (acV (by kernel_rfl)) Yb)
 obtain⟨b,l,m⟩:=e 1 _ rfl Rb
 obtain⟨c,j,o⟩:=e 2 _ rfl (zI Tryz.underlying24 (acV (by kernel_rfl)) (acV (by kernel_rfl)) XG)
 obtain⟨d,p,q⟩:=e 3 _ rfl rU
 refine⟨⟨a,b,c,d⟩,⟨g.1,l.1,j.1,p,g.2,j.2⟩,?_⟩
 rw[cs4 k]
 exact jh h1 (jh m (jh o (jh q Ei)))
def wM:SC:=
 ai [ag [aS 44 .lss 43 42],bO 44 (.exit 0),.block 1 (ai [ag [af 45 43,aL 46 3 41 43,aV 47 3 46,((some 11),.op (.alloc [(.val (.int .i64 0)),(.emp 1),(.val (.int .i64 0))])),af 10 45,cz 3 11 47],ai [.region false [⟨none,[af 48 6,aw 49 0 11,au 50 49,aL 51 1 48 50,au 52 51,cO 53 52,af 54 53]⟩,⟨(some (54,false)),[aV 55 3 11,af 56 5,aU 57 164 [55,56],cO 58 57]⟩,⟨none,[cJ 59 54 58]⟩],aX 59 (.exit 1)],ag [af 60 7,af 61 10,((some 62),.op (.bH 1 1 [(.val (.int .i64 0))] [(0,(.tmp 61))])),eZ 63 1 8 60 62,af 7 63],ag [af 65 9,aw 66 0 11,au 67 66,((some 68),.op (.old (.lookup 265 (.tmp 65) (.tmp 67) true) 66)),af 64 68,c7 69 0 64,c7 70 1 64,af 12 69,af 13 70],ag [af 71 13,cO 72 71],aX 72 (ai [ag [af 73 9,aw 74 0 11,au 75 74,aw 76 1 8,au 77 76,aM 78 77,(none,.op (.old (.mapUpdate 265 (.tmp 73) (.tmp 75) (.tmp 78)) 0))],.region false [⟨none,[aw 79 1 8,au 80 79,aw 81 1 1,au 82 81,aw 83 0 11,au 84 83,aL 85 1 82 84,au 86 85,((some 87),.op (.bH 1 1 [(.val (.string ⟨#[]⟩))] [(0,(.tmp 86))])),eZ 88 1 16 80 87,aw 89 1 8,cz 1 89 88]⟩]])]),ag [aI 90 .add 43 1,af 43 90]]
def xt:SC:=
 ai [ag [aS 116 .lss 115 114],bO 116 (.exit 4),.block 5 (ai [ag [af 117 115,aL 118 1 113 115,au 119 118,af 18 117,af 19 119],ag [af 120 19,aI 121 .lss 120 0],aX 121 (ag [aw 122 1 17,au 123 122,af 124 18,af 125 9,af 126 19,((some 127),.op (.arith .sub (.val (.val (.int .i64 (-1)))) (.tmp 126))),((some 128),.op (.old (.lookup 265 (.tmp 125) (.tmp 127) false) 3)),((some 129),.op (.arith .sub (.val (.val (.int .i64 (-1)))) (.tmp 128))),aL 130 1 123 124,cz 1 130 129])]),ag [aI 131 .add 115 1,af 115 131]]
def xi:SC:=
 ai [ag [aS 94 .lss 93 92],bO 94 (.exit 2),.block 3 (ai [ag [aL 95 1 91 93,au 96 95,af 15 96],ag [aw 97 2 1,au 98 97,af 99 15,aL 100 3 98 99,aV 101 3 100,((some 16),.op (.alloc [(.val (.int .i64 0)),(.emp 1),(.val (.int .i64 0))])),cz 3 16 101],.region true [⟨none,[af 102 9,aw 103 0 16,au 104 103,((some 105),.op (.old (.lookup 265 (.tmp 102) (.tmp 104) false) 3)),aw 106 1 16,au 107 106,aU 108 140 [107],aw 109 2 16,au 110 109,((some 111),.op (.build [(.val (.int .i64 0)),(.emp 1),(.val (.int .i64 0))] [(0,1,(.tmp 105)),(1,1,(.tmp 108)),(2,1,(.tmp 110))])),((some 17),.op (.alloc [(.val (.int .i64 0)),(.emp 1),(.val (.int .i64 0))])),cz 3 17 111]⟩],ai [ag [aw 112 1 17,au 113 112,aM 114 113,aT 115 0],bR 4 xt],ag [aw 132 2 8,au 133 132,aV 134 3 17,((some 135),.op (.bH 1 3 [(.val (.int .i64 0)),(.emp 1),(.val (.int .i64 0))] [(0,(.tmp 134))])),eZ 136 3 40 133 135,aw 137 2 8,cz 1 137 136]]),ag [aI 138 .add 93 1,af 93 138]]
def A3:SF:=⟨ai [ag [bZ 1 0,((some 2),.op (.alloc [(.emp 1),(.emp 1),(.emp 1),(.val (.int .i64 0))])),bL 3 1,aT 4 0],ai [ag [aV 20 4 1,aU 21 89 [20],cO 22 21],aX 22 (ai [ag [((some 23),.op (.build [(.emp 1),(.emp 1),(.emp 1),(.val (.int .i64 0))] [])),cz 4 2 23,bL 3 1,aT 4 1],.ret])],.region true [⟨none,[aV 24 4 1,aU 25 161 [24],aV 26 4 1,aU 27 162 [26],af 5 25,af 6 27]⟩],ai [ag [af 28 5,aw 29 3 1,au 30 29,aL 31 1 28 30,au 32 31,cO 33 32],aX 33 (ai [ag [((some 34),.op (.build [(.emp 1),(.emp 1),(.emp 1),(.val (.int .i64 0))] [])),cz 4 2 34,bL 3 1,aT 4 9],.ret])],ag [bL 7 1],ag [aw 35 0 1,au 36 35,aU 37 163 [36],((some 38),.op (.build [(.emp 1),(.emp 1),(.emp 1),(.val (.int .i64 0))] [(0,1,(.tmp 37))])),((some 8),.op (.alloc [(.emp 1),(.emp 1),(.emp 1),(.val (.int .i64 0))])),cz 4 8 38],ag [((some 39),.op (.ra)),af 9 39],ai [ag [aw 40 2 1,au 41 40,aM 42 41,aT 43 0],bR 0 wM],ai [ag [af 91 7,aM 92 91,aT 93 0],bR 2 xi],ag [af 139 9,aw 140 3 1,au 141 140,((some 142),.op (.old (.lookup 265 (.tmp 139) (.tmp 141) false) 3)),aw 143 3 8,cz 1 143 142],ag [aV 144 4 8,af 145 7,cz 4 2 144,af 3 145,aT 4 0],.ret],
 [.cell 2 (some 4),.tmp 3,.tmp 4],146⟩
theorem D0:aJ aa 92 [1]=some A3:=by kernel_rfl
abbrev Cw (m:cH Int):List (V × V × Nat):=cQ (Value.int .i64) m
def YT (g:ak) (p q:List Bool) (b2 b8 b9:Nat) (u0:V) (i:Nat) (T:Env) (H:View):Prop:=
 (∃u1 u3:V,T 7=u3/\(∀x∈cZ p q (g.rules.take i),0<=x/\x<g.av.length)/\(cZ p q (g.rules.take i)).length<=i /\
  bw H [(.sl b8 0 1 4,4,[[u0,u1,.emp 1,gi 0]]),(u3,1,aO (dD p q (g.rules.take i) 0)),
   (u1,1,lX ((cZ p q (g.rules.take i)).map λx=>g.av.getD x.toNat ⟨#[]⟩)),(u0,3,g.ax.map df),(.sl b2 0 1 4,4,[[.emp 1,.emp 1,.emp 1,gi 0]])] /\
  ∃m c,H b9=.map (Cw m) c/\qw gi (lu (cZ p q (g.rules.take i)) 0) m) /\
 T 1=.aR (aj g) 0/\T 2=.ptr b2 0 0/\T 5=bY p/\T 6=bY q/\T 8=.ptr b8 0 0/\T 9=.mp b9/\T 41=.aY (g.rules.map aQ)/\T 42=gi g.rules.length/\T 43=gi i
theorem G6 {α:Type} {x s:α}:∀ {a d:List α} {k:Nat},a.length=k->(a++s::d).set k x=a++x::d
 | [],d,k,h=>by simp at h;subst h;rfl
 | y::a,d,k,h=>by
  cases k with
  | zero=>simp at h
  | succ k=>simp only[abN,List.set_cons_succ];rw[G6 (by simpa using h)]
def aar (g:ak) (p q:List Bool) (b2 b8 b9:Nat) (u0 u1 u3:V) (o kl:List Int) (mm:cH Int) (cc:Nat) (i:Nat) (T:Env) (H:View):Prop:=
 (∃(u2:V) (bs:C1),bs.map (·.2)=((g.rules.filter (dP p q)).take i).map (cT (eY o)) /\
  bw H ((.sl b8 0 1 4,4,[[u0,u1,u2,gi 0]])::(u3,1,aO kl) ::
   (u1,1,lX (o.map λx=>g.av.getD x.toNat ⟨#[]⟩))::(u0,3,g.ax.map df)::(u2,3,iW bs)::(.sl b2 0 1 4,4,[[.emp 1,.emp 1,.emp 1,gi 0]])::ou bs) /\
  H b9=.map (Cw mm) cc) /\
 T 1=.aR (aj g) 0/\T 2=.ptr b2 0 0/\T 7=u3/\T 8=.ptr b8 0 0/\T 9=.mp b9/\T 91=u3/\T 92=gi kl.length/\T 93=gi i
def aaC (g:ak) (b2 b8 b9 b16 b17:Nat) (u3 v:V) (o kl:List Int) (mm:cH Int) (cc:Nat) (r:bf) (L:List ez) (i k:Nat) (T:Env) (H:View):Prop:=
 bw H ((.sl b17 0 1 3,3,[[gi (eY o r.left),v,gi r.prec]])::(v,1,aO ((cT (eY o) r).right.take k++r.right.drop k))::(.sl b16 0 1 3,3,[aQ r])::L) /\
 H b9=.map (Cw mm) cc/\T 1=.aR (aj g) 0/\T 2=.ptr b2 0 0/\T 7=u3/\T 8=.ptr b8 0 0/\T 9=.mp b9/\T 91=u3/\T 92=gi kl.length/\T 93=gi i/\T 17=.ptr b17 0 0/\T 113=v/\T 114=gi r.right.length/\T 115=gi k
theorem MZ (g:ak) (hg:g.Ok) (hs:g.Small):bX aa 92 [.agg (aj g)] (Ax (if bu g=true then
  if (bk g true).getD g.start.toNat false=true then (zD g (eY (cZ (bk g true) (cU g) g.rules)) (bk g true) (cU g),dD (bk g true) (cU g) g.rules 0,0)
  else (vR,[],9)
 else (vR,[],1))):=by
 refine bX.of (dy g) ?_
 refine az.of mixed D0 ?_
 simp(disch:=omega)only[↓wr,seval,wq,A3,aj,encS]
 intro Q
 try simp(disch:=omega)only[↓wr,seval,wq,aj,encS]
 refine ay.pure (pF g hg hs.names) ?_
 repeat' (first | ((first|apply ao.dec|apply ao.eq|apply ao.ne|apply ao.split)<;>intro)|(simp(disch:=omega)only[↓wr,seval,wq,set_set]))
 .rename_i hr
  rw[abb hr]
  refine ay.pure (yF g hg hs).pure ?_
  simp(disch:=omega)only[↓wr,seval,wq]
  refine ay.pure (JT g hg hs).pure ?_
  have hf:=bF hr
  have h3:=hf.lB
  have h4:=hf.start
  have c4:=jj hr true
  have fs:=sH hr
  generalize bk g true=p at c4 ⊢
  generalize cU g=q at fs ⊢
  have cf:p[g.start.toNat]?=some (p[g.start.toNat]'(by omega)):=aa8 (by omega)
  have da:p.getD g.start.toNat false=p[g.start.toNat]'(by omega):=by simp[cf]
  generalize p[g.start.toNat]'(by omega)=s at cf da
  rw[da]
  simp(disch:=omega)only[↓wr,seval,wq,bY,aba,cf]
  cases s with
  | false =>
   simp(disch:=omega)only[↓wr,seval,wq,set_set]
   rintro h' hh
   exact zr
  | true =>
   simp(disch:=omega)only[↓wr,seval,wq]
   have hN:=hf.av
   have hI:=hf.ly
   have hT:=hf.ax
   have hR:=hf.rules
   refine ay.cF ((Ue g.ax (by omega) _).mono ?_)
   rintro B H1 ⟨ft,K⟩
   have aq:=(bw.nil.new (H:=λ_=>ct.dead) (n:=Q) rfl 4 [[.emp 1,.emp 1,.emp 1,gi 0]]).Hs ft K
   have c0:=aq.head.cells
   have k0:=aq.head.eL
   simp(disch:=omega)only[↓wr,seval,wq,c0,k0]
   intro O db
   have dc:=aq.new db 4 [[B,.emp 1,.emp 1,gi 0]]
   try simp(disch:=omega)only[↓wr,seval,wq,aj,encS,c0,k0,set_set]
   intro d R
   have b5:=(cp R cw).1
   have R:=(cp (cp R cw).2 cw).2
   have f:=(((dc.fresh (n:=d) (o:=.map [] 0) (by simp only[View.set,aa9 b5];exact R)).emp (k:=1) (sz:=1)).emp (k:=1) (sz:=1)).perm Kk.symm
   try simp(disch:=omega)only[↓wr,seval,wq,aj,encS,c0,k0,set_set]
   refine aW.up g.rules.length (YT g p q Q O d B) ?_ ?_
   .refine⟨⟨.emp 1,.emp 1,rfl,by simp[cZ],by simp[cZ],by rw[set_set];exact f,[],0,by simp[View.set,cQ],trivial⟩,rfl,rfl,rfl,rfl,rfl,rfl,rfl,rfl,rfl⟩
   clear aq dc f db R b5
   rintro i k T H2 hk ⟨⟨G,u3,t7,ar,ch,A,mm,C,j,D⟩,t1,t2,t5,t6,t8,t9,t41,t42,t43⟩
   simp(disch:=omega)only[↓wr,seval,wq,wM,t42,t43]
   apply ao.dec<;>intro hc
   .have E:g.rules[i]?=some (g.rules[i]'(by omega)):=aa8 (by omega)
    have l:g.rules[i]'(by omega)∈g.rules:=abe _
    have w:g.rules.take (i+1)=g.rules.take i++[g.rules[i]'(by omega)]:=by rw[abr,E];rfl
    generalize g.rules[i]'(by omega)=r at E l w
    obtain⟨fv,dj,dm,fx,bd⟩:=hf.qU hg l
    have cj:q[r.left.toNat]?=some (q[r.left.toNat]'(by omega)):=aa8 (by omega)
    have bl:q.getD r.left.toNat false=q[r.left.toNat]'(by omega):=by simp[cj]
    generalize q[r.left.toNat]'(by omega)=qs at cj bl
    simp(disch:=omega)only[↓wr,seval,wq,t6,t41,t43,aQ,encI,aba,E]
    intro bn S
    have F:=A.new S 3 [aQ r]
    have b7:d≠bn:=by rintro rfl;rw[j] at S;simp at S
    try simp(disch:=omega)only[↓wr,seval,wq,bY,aba,cj]
    have U:∀(P:Env) (H':View),dP p q r=false->H'=H2.set bn (.arr 3 [aQ r])->P 7=u3->P 1=.aR (aj g) 0->P 2=.ptr Q 0 0->P 5=bY p->P 6=bY q->P 8=.ptr O 0 0->P 9=.mp d->P 41=.aY (g.rules.map aQ)->P 42=gi g.rules.length->P 43=gi ((i:Int)+1) ->
      ∃k',k'<k/\FL g.rules.length k' (YT g p q Q O d B) P H':=by
     intro P H' W ds a7 a1 a2 a5 a6 a8 a9 a41 fy fz
     have M:cZ p q (g.rules.take (i+1))=cZ p q (g.rules.take i):=by rw[w,wX,aa9 (by simp[W])]
     have e2:dD p q (g.rules.take (i+1)) 0=dD p q (g.rules.take i) 0:=by rw[w,mN];simp[dD,W]
     refine aF hk (by omega) ⟨⟨G,u3,a7,by rw[M];exact ar,by rw[M];omega,by rw[M,e2,ds];exact F.tail,mm,C,by rw[ds];simp[View.set,b7,j],by rw[M];exact D⟩,a1,a2,a5,a6,a8,a9,a41,fy,by rw[fz];rfl⟩
    cases qs with
    | false =>
     simp(disch:=omega)only[↓wr,seval,wq,t2,t7,t43]
     refine U _ _ (by rw[dP,bl];rfl) ?_ ?_ ?_ ?_ ?_ ?_ ?_ ?_ ?_ ?_ ?_
     all_goals first | exact t7 | exact t1 | exact t2 | exact t5 | exact t6 | exact t8 | exact t9 | exact t41 | exact t42 | rfl | (rw[set_set];rfl)
    | true =>
     simp(disch:=omega)only[↓wr,seval,wq,t5,bY]
     refine ay.pure (wO r p (hg.aB r l).2.2.1 (λs dv=>⟨(bd s dv).1,λh=>by rw[c4];exact(bd s dv).2 h⟩)) ?_
     simp(disch:=omega)only[↓wr,seval,wq]
     apply ao.split<;>intro ck
     .simp(disch:=omega)only[↓wr,seval,wq,t7]
      have W:dP p q r=true:=by rw[dP,bl,ck];rfl
      intro m hm
      try simp(disch:=omega)only[↓wr,seval,wq,bD]
      have ea:=(cp hm cw).1
      have hm:=(cp (cp hm cw).2 cw).2
      have e:=(F.fresh (n:=m) (o:=.arr 1 [[gi i]]) (by simp only[View.set,aa9 ea];exact hm)).at 2 (by simp)
      have cA:d≠m:=by rintro rfl;rw[j] at hm;simp at hm
      have eb:(dD p q (g.rules.take i) 0).length<=40:=by
       rw[mB]
       have h1:=acQ (dP p q) (g.rules.take i)
       have h2:(g.rules.take i).length<=i:=List.length_take_le _ _
       omega
      refine dC (by rw[set_set];exact e) (by simp[aK]) (by unfold aE;simp at eb ⊢;omega) (by unfold aE;simp at eb ⊢;omega) ?_
      intro cC H3 f t
      have f11:=f.is 1 rfl (by simp)
      have f8:=f.is 2 rfl (by simp)
      have br:Left ((H2.set bn (.arr 3 [aQ r])).set m (.arr 1 [[gi i]])) H3 u3 cC:=by rw[set_set] at t;exact t
      have f9:H3 d=.map (Cw mm) C:=br.map (b:=d) e.head (by simp[View.set,b7,cA,j])
      have ga:cE G=some (lX ((cZ p q (g.rules.take i)).map λx=>g.av.getD x.toNat ⟨#[]⟩)).length:=(f.own 3 rfl).len
      simp only[aQ,encI] at f11
      have e2:dD p q (g.rules.take (i+1)) 0=dD p q (g.rules.take i) 0++[(i:Int)]:=by
       rw[w,mN];simp[dD,W,show i<=g.rules.length by omega]
      have M:cZ p q (g.rules.take (i+1))=ml (cZ p q (g.rules.take i)) r:=by rw[w,wX,abb W]
      generalize cZ p q (g.rules.take i)=o at *
      generalize dD p q (g.rules.take i) 0=kl at *
      simp(disch:=omega)only[↓wr,seval,wq,t9,f11]
      refine Xm (kt:=3) (et:=3) (z:=gi 0) (by kernel_rfl) (by kernel_rfl) (mg .i64 Tryz.underlying3) (id:=d) (c:=C) (m:=mm) (k:=r.left) (by simp(disch:=omega)only[↓wr,seval]) (by simp(disch:=omega)only[↓wr,seval]) f9 ?_
      rw[D.get,wA]
      have gd:o.length<=40:=by omega
      by_cases hx:r.left∈o
      .have u:ml o r=o:=by rw[ml,abb hx]
       rw[abb hx]
       simp(disch:=omega)only[↓wr,seval,wq,t2,t43,Option.isSome_some]
       have gk:=(((f.at 1 (by simp)).tail).perm (.swap _ _ _))
       refine aF hk (by omega) ⟨⟨G,cC,rfl,by rw[M,u];exact ar,by rw[M,u];omega,?_,mm,C,f9,by rw[M,u];exact D⟩,t1,t2,t5,t6,t8,t9,t41,t42,rfl⟩
       rw[M,u,e2]
       simp only[abA,abE,acJ]
       exact gk
      .have u:ml o r=o++[r.left]:=by rw[ml,aa9 hx]
       rw[aa9 hx]
       have cI:g.av[r.left.toNat]?=some (g.av[r.left.toNat]'(by omega)):=aa8 (by omega)
       have ca:g.av.getD r.left.toNat ⟨#[]⟩=g.av[r.left.toNat]'(by omega):=by simp[cI]
       generalize g.av[r.left.toNat]'(by omega)=nm at cI ca
       simp(disch:=omega)only[↓wr,seval,wq,t8,t9,Option.isSome_none,f11,f8,ga]
       refine yz (kt:=3) (et:=3) (by kernel_rfl) (mg .i64 Tryz.underlying3) (id:=d) (c:=C) (m:=mm) (k:=r.left) (v:=gi o.length) (by simp(disch:=omega)only[↓wr,seval]) (by simp(disch:=omega)only[↓wr,seval]) (by simp(disch:=omega)only[↓wr,seval]) f9 ?_
       intro c'
       have ee:O≠d:=F8 f 2 rfl f9
       have n119:bn≠d:=F8 f 1 rfl f9
       simp(disch:=omega)only[↓wr,seval,wq,t1,t8,f11,f8,ee,n119,aj,encS,aba,cI]
       intro m2 N
       have cb:=(cp N (by simp)).1
       have N:=(cp N (by simp)).2
       have ef:=((f.F5 f9 (o:=.map (Cw (bP r.left (gi o.length) C mm)) c')).fresh (n:=m2) (o:=.arr 1 [[gs nm]]) (by simp only[View.set,aa9 cb];exact N)).at 3 (by simp)
       try simp(disch:=omega)only[↓wr,seval,wq,bD]
       refine dC ef (by simp[aK]) (by unfold aE;simp;omega) (by unfold aE;simp;omega) ?_
       intro eg H5 bx b0
       have c1:=bx.head.cells
       have k1:=bx.head.eL
       have cN:=bx.is 3 rfl (by simp)
       have gr:=b0.map (b:=d) (es:=Cw (bP r.left (gi o.length) C mm)) (c:=c') ef.head (by simp[View.set,Ne.symm cb])
       have ei:d≠O:=ee.symm
       simp(disch:=omega)only[↓wr,seval,wq,t2,t8,t43,cN,c1,k1]
       have ha:=(bx.at 3 (by simp)).put (es':=[[B,eg,.emp 1,gi 0]]) rfl rfl
       have hb:=(((ha.at 3 (by simp)).tail).perm (.cons _ (.swap _ _ _)))
       refine aF hk (by omega) ⟨⟨eg,cC,rfl,?_,?_,?_,_,c',(by simp only[View.set,aa9 ei];exact gr),?_⟩,t1,t2,t5,t6,t8,t9,t41,t42,rfl⟩
       .rw[M,u];intro x hd;rcases abq.1 hd with h | h
        .exact ar x h
        .simp at h;subst h;exact⟨dj,dm⟩
       .rw[M,u];simp;omega
       .rw[M,u,e2]
        simp only[abA,abE,acJ,ca]
        exact hb
       .rw[M,u,Fc,Int.zero_add,<-IE hx]
        exact D.put r.left (o.length:Int) C
     .simp(disch:=omega)only[↓wr,seval,wq,t2,t7,t43]
      refine U _ _ (by rw[dP,bl,ck];rfl) ?_ ?_ ?_ ?_ ?_ ?_ ?_ ?_ ?_ ?_ ?_
      all_goals first | exact t7 | exact t1 | exact t2 | exact t5 | exact t6 | exact t8 | exact t9 | exact t41 | exact t42 | rfl | (rw[set_set];rfl)
   .rw[abo (by omega)] at A ar ch D
    have hj:(dD p q g.rules 0).length<=40:=by
     rw[mB];have h1:=acQ (dP p q) g.rules;omega
    have hl:=xA p q g.rules 0
    have hG:=mB p q g.rules 0
    have ej:zD g (eY (cZ p q g.rules)) p q=⟨g.ax,(cZ p q g.rules).map λx=>g.av.getD x.toNat ⟨#[]⟩,(g.rules.filter (dP p q)).map (cT (eY (cZ p q g.rules))),eY (cZ p q g.rules) g.start⟩:=rfl
    rw[ej]
    clear ej
    generalize cZ p q g.rules=o at *
    generalize dD p q g.rules 0=kl at *
    have gd:o.length<=40:=by omega
    have hn:cE u3=some (aO kl).length:=(A.own 1 rfl).len
    simp(disch:=omega)only[↓wr,seval,wq,t2,t7,hn]
    refine aW.up kl.length (aar g p q Q O d B G u3 o kl mm C) ?_ ?_
    .refine⟨⟨.emp 1,[],by simp,?_,j⟩,t1,t2,t7,t8,t9,t7,rfl,rfl⟩
     exact(A.emp (k:=1) (sz:=3)).perm (vi [(.sl O 0 1 4,4,[[B,G,.emp 1,gi 0]]),(u3,1,aO kl),(G,1,lX (o.map λx=>g.av.getD x.toNat ⟨#[]⟩)),(B,3,g.ax.map df),(.emp 1,3,[]),(.sl Q 0 1 4,4,[[.emp 1,.emp 1,.emp 1,gi 0]])] 4 (by simp)).symm
    clear A j t1 t2 t5 t6 t7 t8 t9 t41 t42 t43
    rintro i k T H2 hk ⟨⟨u2,bs,b1,A,j⟩,t1,t2,t7,t8,t9,t91,t92,t93⟩
    simp(disch:=omega)only[↓wr,seval,wq,xi,t92,t93]
    apply ao.dec<;>intro hc
    .obtain⟨n3,e3,hq⟩:=(A.own 1 rfl).sl (by simp;omega)
     rw[abc] at e3
     subst e3
     obtain⟨m,cS,N,X⟩:=hl i (by omega)
     have ek:=mO (show i<kl.length by omega)
     rw[Int.zero_add] at cS
     have ht:kl[i]'(by omega)=(m:Int):=by
      rw[aa8 (show i<kl.length by omega)] at cS;simpa using cS
     rw[ht] at ek
     have E:g.rules[m]?=some (g.rules[m]'X):=aa8 X
     have l:g.rules[m]'X∈g.rules:=abe _
     have w:(g.rules.filter (dP p q)).take (i+1)=(g.rules.filter (dP p q)).take i++[g.rules[m]'X]:=by
      rw[abr,<-N,E];rfl
     generalize g.rules[m]'X=r at E l w
     obtain⟨fv,dj,dm,fx,bd⟩:=hf.qU hg l
     simp(disch:=omega)only[↓wr,seval,wq,t1,t9,t91,t93,hq,ek,aj,aQ,encI,aba,E]
     refine⟨by omega,by omega,?_⟩
     intro cV I
     have F:=A.new I 3 [aQ r]
     have Y:d≠cV:=by rintro rfl;rw[j] at I;simp at I
     try simp(disch:=omega)only[↓wr,seval,wq,t1,t2,t7,t8,t9,t91,t92,t93,set_set]
     refine CM (kt:=3) (et:=3) (z:=gi 0) (by kernel_rfl) (by kernel_rfl) (mg .i64 Tryz.underlying3) (id:=d) (c:=C) (m:=mm) (k:=r.left) (by simp(disch:=omega)only[↓wr,seval]) (by simp(disch:=omega)only[↓wr,seval]) (by simp[View.set,Y,j]) ?_
     have b3:∀x,(getM mm x).getD (gi 0)=gi (eY o x):=λx=>by
      rw[D.get,eY];cases fp (lu o 0) x<;>rfl
     rw[b3]
     simp(disch:=omega)only[↓wr,seval,wq]
     refine ay.Hn (Iz r.right (by omega) _) ?_
     intro v H3 hv K
     have e:=bw.Hs (H:=H2.set cV (.arr 3 [aQ r])) F hv (by rw[set_set] at K;exact K)
     have c3:H3 d=.map (Cw mm) C:=by
      rw[(K d (by simp[View.set,Y,j])).1];simp[View.set,Y,j]
     have cv:=hv.cells
     have kv:=hv.eL
     have lv:=hv.len
     have f16:=e.is 1 rfl (by simp)
     simp only[aQ,encI] at f16
     simp(disch:=omega)only[↓wr,seval,wq,f16,cv,kv]
     intro eH J
     have a:=e.new J 3 [[gi (eY o r.left),v,gi r.prec]]
     have e0:d≠eH:=by rintro rfl;rw[c3] at J;simp at J
     try simp(disch:=omega)only[↓wr,seval,wq,lv]
     generalize hL:((V.sl O 0 1 4,4,[[B,G,u2,gi 0]])::(V.sl n3 0 kl.length 1,1,aO kl) ::
       (G,1,lX (o.map λx=>g.av.getD x.toNat ⟨#[]⟩))::(B,3,g.ax.map df)::(u2,3,iW bs)::(V.sl Q 0 1 4,4,[[V.emp 1,V.emp 1,V.emp 1,gi 0]])::ou bs:List ez)=L at a
     refine aW.up r.right.length (aaC g Q O d cV eH (.sl n3 0 kl.length 1) v o kl mm C r L i) ?_ ?_
     .exact⟨by rw[set_set];exact a,by simp[View.set,e0,c3],t1,t2,t7,t8,t9,t91,t92,t93,rfl,rfl,rfl,rfl⟩
     clear F e a I J j c3 f16 hv K t1 t2 t7 t8 t9 t91 t92 t93
     rintro k k2 T H3 e4 ⟨a,j,t1,t2,t7,t8,t9,t91,t92,t93,t17,t113,t114,t115⟩
     have f17:=a.is 0 rfl (by simp)
     simp(disch:=omega)only[↓wr,seval,wq,xt,t114,t115]
     apply ao.dec<;>intro hz
     .have e5:r.right[k]?=some (r.right[k]'(by omega)):=aa8 (by omega)
      have e6:r.right[k]'(by omega)∈r.right:=abe _
      have hA:(cT (eY o) r).right.length=r.right.length:=by simp[cT]
      have Z:(cT (eY o) r).right.take (k+1)=(cT (eY o) r).right.take k++[if r.right[k]'(by omega)<0 then -1-eY o (-1-r.right[k]'(by omega)) else r.right[k]'(by omega)]:=by
       rw[abr];simp[cT,e5]
      have e7:=eO (show k<r.right.length by omega)
      generalize r.right[k]'(by omega)=s at e5 e6 Z e7
      obtain⟨⟨s1,s2⟩,s3⟩:=bd s e6
      have hJ:=Yn o (-1-s)
      rw[e7] at a
      have hlen:(((cT (eY o) r).right.take k++s::r.right.drop (k+1)).map λx=>[gi x]).length=r.right.length:=by simp;omega
      obtain⟨nv,ev,e8⟩:=(a.own 1 rfl).sl (by rw[hlen];omega)
      rw[hlen] at ev
      subst ev
      have b4:k<((cT (eY o) r).right.take k++s::r.right.drop (k+1)).length:=by simp;omega
      have ab:=mO b4
      have hB:((cT (eY o) r).right.take k++s::r.right.drop (k+1))[k]'b4=s:=by
       rw[List.getElem_append_right (by simp;omega)]
       simp[show k-min k r.right.length=0 by omega,hA]
      rw[hB] at ab
      simp(disch:=omega)only[↓wr,seval,wq,t113,t115,e8,ab]
      refine⟨by omega,b4,?_⟩
      have e9:((cT (eY o) r).right.take k).length=k:=by rw[acb];omega
      have hC:nv≠d:=F8 a 1 rfl j
      apply ao.dec<;>intro ae
      .rw[abb ae] at Z
       simp(disch:=omega)only[↓wr,seval,wq,t9,t17,f17]
       refine CM (kt:=3) (et:=3) (z:=gi 0) (by kernel_rfl) (by kernel_rfl) (mg .i64 Tryz.underlying3) (id:=d) (c:=C) (m:=mm) (k:=-1-s) (by simp(disch:=omega)only[↓wr,seval]) (by simp(disch:=omega)only[↓wr,seval]) j ?_
       rw[b3]
       simp(disch:=omega)only[↓wr,seval,wq,t1,t2,t8,t93,t115,e8,ab]
       refine⟨by omega,b4,?_⟩
       have al:=((a.at 1 (by simp)).put (es':=((((cT (eY o) r).right.take k++s::r.right.drop (k+1)).map λx=>[gi x]).set k [gi (-1-eY o (-1-s))])) (by simp) (by rw[hlen])).perm (.swap _ _ _)
       refine aF e4 (by omega) ⟨?_,by simp only[View.set,aa9 hC.symm];exact j,t1,t2,t7,t8,t9,t91,t92,t93,t17,t113,t114,rfl⟩
       rw[ints_set,G6 e9] at al
       rw[Z,ace]
       rw[ints_set,G6 e9]
       exact al
      .rw[aa9 ae] at Z
       simp(disch:=omega)only[↓wr,seval,wq,t1,t2,t8,t93,t115]
       refine aF e4 (by omega) ⟨?_,j,t1,t2,t7,t8,t9,t91,t92,t93,t17,t113,t114,rfl⟩
       rw[Z,ace]
       exact a
     .rw[abo (by simp[cT];omega),aby (by omega),abV] at a
      subst hL
      have f8:=a.is 3 rfl (by simp)
      have cv:=(a.own 1 rfl).cells
      have kv:=(a.own 1 rfl).eL
      have fb:(iW bs).length<=40:=by
       have h1:=ach List.length b1
       simp only[abc,acb] at h1
       simp only[iW,abc]
       omega
      simp(disch:=omega)only[↓wr,seval,wq,t1,t2,t8,t93,t17,f8,f17,kv]
      intro m hm
      have cA:d≠m:=by rintro rfl;rw[j] at hm;simp at hm
      try simp(disch:=omega)only[↓wr,seval,wq,bD]
      have al:=(a.fresh (o:=.arr 3 [[gi (eY o r.left),v,gi r.prec]]) hm).at 7 (by simp)
      refine dC al (by simp[CQ,kv]) (by unfold aE;simp at fb ⊢;omega) (by unfold aE;simp at fb ⊢;omega) ?_
      intro ff H4 an t
      have cu:=an.head.cells
      have ku:=an.head.eL
      have cN:=an.is 4 rfl (by simp)
      have fl:H4 d=.map (Cw mm) C:=t.map (b:=d) al.head (by simp[View.set,cA,j])
      have hD:d≠O:=(F8 an 4 rfl fl).symm
      simp(disch:=omega)only[↓wr,seval,wq,t1,t2,t8,t93,cN,cu,ku]
      have hE:=(an.at 4 (by simp)).put (es':=[[B,G,ff,gi 0]]) rfl rfl
      have hF:=((((hE.at 2 (by simp)).tail).at 3 (by simp)).tail)
      refine aF hk (by omega) ⟨⟨ff,bs++[(v,cT (eY o) r)],?_,?_,by simp only[View.set,aa9 hD];exact fl⟩,t1,t2,t7,t8,t9,t91,t92,rfl⟩
      .rw[abA,b1,w,abA];rfl
      .refine hF.perm (.cons _ ?_)
       simp only[ou,iW,abA,abE,acJ]
       refine .trans ?_ (vi _ 3 (by simp)).symm
       refine .cons _ ?_
       exact(List.perm_append_singleton (v,1,aO (cT (eY o) r).right) ((.sl n3 0 kl.length 1,1,aO kl)::(G,1,lX (o.map λx=>g.av.getD x.toNat ⟨#[]⟩))::(B,3,g.ax.map df)::(.sl Q 0 1 4,4,[[.emp 1,.emp 1,.emp 1,gi 0]])::ou bs)).symm
    .rw[abo (by omega)] at b1
     have f8:=A.is 0 rfl (by simp)
     have f2:=A.is 5 rfl (by simp)
     have fm:O≠Q:=A.OT 0 5 rfl rfl (by omega)
     have c1:=(A.own 2 rfl).cells
     have k1:=(A.own 2 rfl).eL
     have c2:=(A.own 4 rfl).cells
     have k2:=(A.own 4 rfl).eL
     have b3:∀x,(getM mm x).getD (gi 0)=gi (eY o x):=λx=>by
      rw[D.get,eY];cases fp (lu o 0) x<;>rfl
     simp(disch:=omega)only[↓wr,seval,wq,t1,t2,aj]
     refine CM (kt:=3) (et:=3) (z:=gi 0) (by kernel_rfl) (by kernel_rfl) (mg .i64 Tryz.underlying3) (id:=d) (c:=C) (m:=mm) (k:=g.start) (by simp(disch:=omega)only[↓wr,seval,t9]) (by simp(disch:=omega)only[↓wr,seval]) j ?_
     rw[b3]
     simp(disch:=omega)only[↓wr,seval,wq,t2,t7,t8,f8,f2,fm.symm,k0,k1,k2]
     intro h' hh
     have F:=A.put (es':=[[B,G,u2,gi (eY o g.start)]]) rfl rfl
     have e:=(F.at 5 (by simp)).put (es':=[[B,G,u2,gi (eY o g.start)]]) rfl rfl
     have hv:h'.view=(H2.set O (.arr 4 [[B,G,u2,gi (eY o g.start)]])).set Q (.arr 4 [[B,G,u2,gi (eY o g.start)]]):=hh
     rw[<-hv] at e
     exact NJ (x:=(⟨g.ax,o.map λx=>g.av.getD x.toNat ⟨#[]⟩,(g.rules.filter (dP p q)).map (cT (eY o)),eY o g.start⟩,kl,0)) (b:=bs) (e.own 4 rfl) (e.own 3 rfl) (e.own 5 rfl) (λy hy=>e.1 y (by
      refine abx _ (abx _ (abx _ (abx _ (abx _ (abx _ ?_)))))
      exact hy)) b1 (e.own 2 rfl)
 .rename_i hr
  intro h' hh
  rw[aa9 (by simp[hr])]
  exact zr
end Gv
