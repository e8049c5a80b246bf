/-
  Part 9 of the proof: what the machine does and what the functions answer.
  Conditions: those that each lemma names.
-/
import Derived.ProofKit
import Derived.SizedLaws
import Derived.Test.YtiophifnkakjgaaGreatSGzC6H
set_option linter.unusedSimpArgs false
set_option linter.unusedVariables false
set_option maxRecDepth 100000
set_option maxHeartbeats 20000000
namespace Gv
open Go Go.Proofs
theorem D3 {α:Type} {f:α->α} {x:α} (h:f x=x):∀n,iter f n x=x
 | 0=>rfl
 | n+1=>by rw[iter,h,D3 h n]
theorem Mh {α:Type} (f:α->α):∀(a b:Nat) (x:α),iter f (a+b) x=iter f b (iter f a x)
 | 0,b,x=>by rw[abE];rfl
 | a+1,b,x=>by rw[Nat.add_right_comm,iter,iter,Mh f a b]
theorem Gx (comes:bc->List Bool->List Int) (rules:List bc):∀(k:Nat) (is:List Bool),jf comes rules k is=iter (eZ comes rules) k is
 | 0,is=>rfl
 | k+1,is=>by
  simp only[jf,iter]
  by_cases e:eZ comes rules is=is
  .rw[aaT e,e,D3 e]
  .rw[aaR e,Gx comes rules k]
theorem Bp (comes:bc->List Bool->List Int) (rules:List bc) (is:List Bool) (h:is.length<=16):jf comes rules 16 is=iter (eZ comes rules) is.length is:=by
 have h1:=(wz comes rules is.length is (by omega)).1
 rw[Gx] at h1 ⊢
 obtain⟨m,hm⟩:∃m,16=is.length+m:=⟨16-is.length,by omega⟩
 rw[hm,Mh,D3 h1]
def oE (t:Bool) (r:bc) (is:List Bool):List Int:=if fA r.right is t=true then [r.left] else []
def vR (p:List Bool) (r:bc) (is:List Bool):List Int:=if (is.getD r.left.toNat false&&fA r.right p true)=true then iG r.right else []
theorem Nl (g:aj) (t:Bool):eZ (oE t) g.rules=lK g t:=by
 funext is
 unfold eZ lK
 congr 1
 funext is r
 unfold stepG oE fq
 split<;>rfl
theorem FH:∀(l:List Int) (is:List Bool),uM is (iG l)=l.foldl mark is
 | [],is=>rfl
 | s::l,is=>by
  have a:=FH l
  unfold uM iG at a ⊢
  rw[abF,<-a]
  unfold mark
  by_cases h:s<0
  .rw[aaT h,List.filter_cons_of_pos (by simpa using h)];rfl
  .rw[aaR h,List.filter_cons_of_neg (by simpa using h)]
theorem N8 (g:aj) (p:List Bool):eZ (vR p) g.rules=tg g p:=by
 funext is
 unfold eZ tg
 congr 1
 funext is r
 unfold stepG vR iZ
 split
 .exact FH _ _
 .rfl
theorem LX {g:aj} (h:bt g=true) (t:Bool):jf (oE t) g.rules 16 (cM g)=bj g t:=by
 have a:=bE h
 have b:(cM g).length=g.av.length:=by simp[cM]
 have:=a.av
 rw[Bp _ _ _ (by rw[b];exact a.av),Nl,b,bj,aaT h]
theorem QW {g:aj} (h:bt g=true):jf (vR (bj g true)) g.rules 16 ((cM g).set g.start.toNat true)=cW g:=by
 have b:=bE h
 have a:((cM g).set g.start.toNat true).length=g.av.length:=by simp[cM]
 rw[Bp _ _ _ (by rw[a];exact b.av),N8,a,cW,aaT h]
def xi:SF:=⟨ai [ag [cm 1 0,bT 2 1],ai [ag [aU 3 4 1,aV 4 89 [3],cR 5 4],aX 5 (ai [ag [bT 2 1],.ret])],ag [aU 6 4 1,aw 7 1 1,au 8 7,aN 9 8,((some 10),.op (.make 1 1 [(.val (.bool false))] (.tmp 9) (.tmp 9))),oz 11 173 [(.tmp 6),(.tmp 10),(.val (.fn 174 [] []))],af 2 11],.ret],
 [.tmp 2],12⟩
theorem Cv:aJ aa 109 [1]=some xi:=by kernel_rfl
def ug:SF:=⟨ai [ag [cm 1 0,bT 2 1],ai [ag [aU 3 4 1,aV 4 89 [3],cR 5 4],aX 5 (ai [ag [bT 2 1],.ret])],ag [aU 6 4 1,aw 7 1 1,au 8 7,aN 9 8,((some 10),.op (.make 1 1 [(.val (.bool false))] (.tmp 9) (.tmp 9))),oz 11 173 [(.tmp 6),(.tmp 10),(.val (.fn 226 [] []))],af 2 11],.ret],
 [.tmp 2],12⟩
theorem zX:aJ aa 161 [1]=some ug:=by kernel_rfl
def vS:SF:=⟨ai [ag [cm 1 0,bT 2 1],ai [ag [aU 5 4 1,aV 6 89 [5],cR 7 6],aX 7 (ai [ag [bT 2 1],.ret])],ag [aU 8 4 1,aV 9 161 [8],((some 3),.op (.alloc [(.emp 1)])),cz 1 3 9],ag [aw 10 1 1,au 11 10,aN 12 11,((some 13),.op (.make 1 1 [(.val (.bool false))] (.tmp 12) (.tmp 12))),af 4 13],ag [af 14 4,aw 15 3 1,au 16 15,aL 17 1 14 16,(none,.op (.store 1 (.tmp 17) (.val (.val (.bool true)))))],ag [aU 18 4 1,af 19 4,((some 20),.op (.tU 227 [] [(.tmp 3)])),aV 21 173 [18,19,20],af 2 21],.ret],
 [.tmp 2],22⟩
theorem AW:aJ aa 162 [1]=some vS:=by kernel_rfl
structure aj.Small (g:aj):Prop where
 names:g.av.length+g.ax.length<=1000
theorem B6 {a:Heap} {id n:Nat} {is:List Bool} (b:a.view id=.arr 1 (bU is)) (c:n=is.length):dD a (.sl id 0 n 1) (bX is):=by
 subst c;exact sM b
theorem Ka (g:aj) (d:g.Ok) (i:g.Small):cg aa 109 [.agg (ak g)] (bX (bj g false)):=by
 refine cg.of (dS g) ?_
 refine ay.of mixed Cv ?_
 have j:=d.av
 unfold aI at j
 simp(disch:=omega)only[↓wr,seval,wq,xi,ak,encS]
 refine az.pure (pw g d i.names) ?_
 repeat' (first | ((first|apply ao.dec|apply ao.eq|apply ao.ne|apply ao.split)<;>intro)|(simp(disch:=omega)only[↓wr,seval,wq,ak,encS]))
 .rename_i hr
  have b:=bE hr
  have h1:=b.lp
  have k:=b.av
  try simp(disch:=omega)only[↓wr,seval,wq,ak,encS]
  refine⟨⟨by omega,by unfold aF;omega,by unfold aF;omega⟩,λh=>by omega,?_⟩
  intro _ n
  try simp(disch:=omega)only[↓wr,seval,wq,ak,encS]
  refine az.cG ((HN g b.rules (oE false) 174 [] [] (by kernel_rfl) g.av.length k (λr a is e=>⟨KD r is (by rw[e];exact b.qz d a),?_,?_⟩) n (cM g) (by simp[cM]) _ (by simp[View.set,cM]) (λH' _=>trivial)).mono ?_)
  .unfold oE;split<;>simp
  .intro m hm
   unfold oE at hm
   split at hm
   .simp only[abN] at hm;subst hm
    exact⟨(d.aB r a).1,b.left r a⟩
   .simp at hm
  .rintro r H' ⟨rfl,c,_⟩
   simp(disch:=omega)only[↓wr,seval,wq]
   intro l f
   rw[LX hr] at c
   exact B6 (by rw[f];exact c) (jn hr _).symm
 .rename_i hr
  intro l f
  simp only[bj,hr]
  exact .emp _
theorem yb (g:aj) (d:g.Ok) (i:g.Small):cg aa 161 [.agg (ak g)] (bX (bj g true)):=by
 refine cg.of (dS g) ?_
 refine ay.of mixed zX ?_
 have j:=d.av
 unfold aI at j
 simp(disch:=omega)only[↓wr,seval,wq,ug,ak,encS]
 refine az.pure (pw g d i.names) ?_
 repeat' (first | ((first|apply ao.dec|apply ao.eq|apply ao.ne|apply ao.split)<;>intro)|(simp(disch:=omega)only[↓wr,seval,wq,ak,encS]))
 .rename_i hr
  have b:=bE hr
  have h1:=b.lp
  have k:=b.av
  try simp(disch:=omega)only[↓wr,seval,wq,ak,encS]
  refine⟨⟨by omega,by unfold aF;omega,by unfold aF;omega⟩,λh=>by omega,?_⟩
  intro _ n
  try simp(disch:=omega)only[↓wr,seval,wq,ak,encS]
  refine az.cG ((HN g b.rules (oE true) 226 [] [] (by kernel_rfl) g.av.length k (λr a is e=>⟨G1 r is (by rw[e];exact b.qz d a),?_,?_⟩) n (cM g) (by simp[cM]) _ (by simp[View.set,cM]) (λH' _=>trivial)).mono ?_)
  .unfold oE;split<;>simp
  .intro m hm
   unfold oE at hm
   split at hm
   .simp only[abN] at hm;subst hm
    exact⟨(d.aB r a).1,b.left r a⟩
   .simp at hm
  .rintro r H' ⟨rfl,c,_⟩
   simp(disch:=omega)only[↓wr,seval,wq]
   intro l f
   rw[LX hr] at c
   exact B6 (by rw[f];exact c) (jn hr _).symm
 .rename_i hr
  intro l f
  simp only[bj,hr]
  exact .emp _
theorem sD {g:aj} (hr:bt g=true):(cW g).length=g.av.length:=by
 rw[cW,aaT hr,Er (f:=tg g (bj g true)) (λis=>D2 (λis x=>Ug _ is x) g.rules is)]
 simp[cM]
theorem Jp (g:aj) (f:g.Ok) (w:g.Small):cg aa 162 [.agg (ak g)] (bX (cW g)):=by
 refine cg.of (dS g) ?_
 refine ay.of mixed AW ?_
 have A:=f.av
 unfold aI at A
 simp(disch:=omega)only[↓wr,seval,wq,vS,ak,encS]
 refine az.pure (pw g f w.names) ?_
 repeat' (first | ((first|apply ao.dec|apply ao.eq|apply ao.ne|apply ao.split)<;>intro)|(simp(disch:=omega)only[↓wr,seval,wq,ak,encS]))
 .rename_i hr
  have d:=bE hr
  have h1:=d.lp
  have B:=d.av
  have D:=d.lB
  have E:=d.start
  have p:=jn hr true
  try simp(disch:=omega)only[↓wr,seval,wq,ak,encS]
  refine az.pure (yb g f w).pure ?_
  simp(disch:=omega)only[↓wr,seval,wq,ak,encS,bX]
  intro q
  try simp(disch:=omega)only[↓wr,seval,wq,ak,encS,set_set]
  refine⟨⟨by omega,by unfold aF;omega,by unfold aF;omega⟩,λh=>by omega,?_⟩
  intro _ n t
  have e:=(cp t cy).1
  try simp(disch:=omega)only[↓wr,seval,wq,ak,encS,set_set]
  have i:=my (is:=cM g) (show g.start.toNat<(cM g).length by simp[cM];omega)
  refine⟨by omega,by simp;omega,?_⟩
  refine az.cG ((HN g d.rules (vR (bj g true)) 227 [.ptr q 0 0] [.aR [bX (bj g true)] 0] (by kernel_rfl) g.av.length B (λr c is j=>⟨Jy r is (bj g true) (by rw[j];exact d.qz f c) (by rw[j,p]),?_,?_⟩) n ((cM g).set g.start.toNat true) (by simp[cM]) _ ?_ (λH' u=>⟨ct.box (z:=1) ?_ ?_,trivial⟩)).mono ?_)
  .have F:=d.right r c
   unfold vR
   split
   .have:(iG r.right).length<=r.right.length:=by simp only[iG,aaU];exact acA _ _
    omega
   .simp
  .intro m hm
   unfold vR at hm
   split at hm
   .simp only[iG,aba,ab7,aa5] at hm
    obtain⟨s,⟨k,l⟩,rfl⟩:=hm
    have a:=d.neg c k l
    have b:=((f.aB r c).2.2.2 s k).1
    exact⟨⟨by omega,by omega⟩,by omega,a⟩
   .simp at hm
  .simp only[View.set,if_true]
   congr 1
   rw[<-iJ]
   unfold cM at i ⊢
   rw[Bx,i]
   rfl
  .rw[u q (by simp[View.set,Ne.symm e]) (Ne.symm e)]
   simp[View.set,Ne.symm e]
   rfl
  .intro v x;simp at x;subst x;exact j9 _
  .rintro r H' ⟨rfl,o,_⟩
   simp(disch:=omega)only[↓wr,seval,wq]
   intro C y
   rw[QW hr] at o
   exact B6 (by rw[y];exact o) (by rw[sD hr])
 .rename_i hr
  intro C y
  simp only[cW,hr]
  exact .emp _
def dL (p q:List Bool) (r:bc):Bool:=q.getD r.left.toNat false&&fA r.right p true
def dz (p q:List Bool):List bc->Int->List Int
 | [],_=>[]
 | r::l,i=>if dL p q r=true then i::dz p q l (i+1) else dz p q l (i+1)
def mo (acc:List Int) (r:bc):List Int:=if r.left∈acc then acc else acc++[r.left]
def c5 (p q:List Bool) (l:List bc):List Int:=(l.filter (dL p q)).foldl mo []
def dI (o:List Int) (x:Int):Int:=dU (λy=>y==x) o 0
def cU (f:Int->Int) (r:bc):bc:=⟨f r.left,r.right.map λs=>if s<0 then -1-f (-1-s) else s,r.prec⟩
def zm (g:aj) (f:Int->Int) (p q:List Bool):aj:=
 ⟨g.ax,(c5 p q g.rules).map λx=>g.av.getD x.toNat ⟨#[]⟩,(g.rules.filter (dL p q)).map (cU f),f g.start⟩
def vh:aj:=⟨[],[],[],0⟩
instance:DecidableEq Term:=λa b=>decidable_of_iff (a.name=b.name/\a.level=b.level/\a.assoc=b.assoc) (by cases a;cases b;simp)
instance:DecidableEq bc:=λa b=>decidable_of_iff (a.left=b.left/\a.prec=b.prec/\a.right=b.right) (by cases a;cases b;simp[and_comm])
instance:DecidableEq aj:=λa b=>decidable_of_iff (a.ax=b.ax/\a.av=b.av/\a.rules=b.rules/\a.start=b.start) (by cases a;cases b;simp)
def iR (g:aj):aj × List Int × Int:=
 if bt g=true then
  if (bj g true).getD g.start.toNat false=true then (zm g (dI (c5 (bj g true) (cW g) g.rules)) (bj g true) (cW g),dz (bj g true) (cW g) g.rules 0,0)
  else (vh,[],9)
 else (vh,[],1)
theorem Ln {g:aj} (hr:bt g=true):iR g=if (bj g true).getD g.start.toNat false=true then (zm g (dI (c5 (bj g true) (cW g) g.rules)) (bj g true) (cW g),dz (bj g true) (cW g) g.rules 0,0) else (vh,[],9):=by
 rw[iR,aaT hr]
theorem mA (p q:List Bool):∀(a b:List bc) (i:Int),dz p q (a++b) i=dz p q a i++dz p q b (i+a.length)
 | [],b,i=>by simp[dz]
 | r::a,b,i=>by
  simp only[abv,dz,mA p q a b (i+1),aa3]
  grind
theorem mJ (p q:List Bool):∀(a:List bc) (i:Int),(dz p q a i).length=(a.filter (dL p q)).length
 | [],i=>rfl
 | r::a,i=>by
  simp only[dz,List.filter_cons]
  split<;>simp[mJ p q a]
theorem wU (p q:List Bool):∀(a:List bc) (i:Int) (k:Nat),k<(dz p q a i).length->∃m:Nat,(dz p q a i)[k]?=some (i+m)/\a[m]?=(a.filter (dL p q))[k]?/\m<a.length
 | [],i,k,h=>by simp[dz] at h
 | r::a,i,k,h=>by
  simp only[dz,List.filter_cons] at h ⊢
  by_cases hr:dL p q r=true
  .rw[aaT hr] at h ⊢
   rw[aaT hr]
   cases k with
   | zero=>grind
   | succ k =>
    obtain⟨m,h1,b,c⟩:=wU p q a (i+1) k (by simpa using h)
    exact⟨m+1,by rw[abB,h1];congr 1;push_cast;omega,by simpa using b,by simpa using c⟩
  .rw[aaR hr] at h ⊢
   rw[aaR hr]
   obtain⟨m,h1,b,c⟩:=wU p q a (i+1) k h
   exact⟨m+1,by rw[h1];congr 1;push_cast;omega,by simpa using b,by simpa using c⟩
theorem wN (p q:List Bool) (l:List bc) (r:bc):c5 p q (l++[r])=if dL p q r=true then mo (c5 p q l) r else c5 p q l:=by
 unfold c5
 grind
theorem PZ {acc:List Int} {r:bc} (h:acc.Nodup):(mo acc r).Nodup:=by
 unfold mo
 grind
theorem vy {o:List Int} {x:Int} : dI o x<0↔x ∉ o:=by
 have:=zB (λy=>y==x) o 0 (by omega)
 unfold dI
 grind
theorem Dp {α:Type} (p:α->Bool):∀(a b:List α) (i:Int),0<=i->dU p (a++b) i=if 0<=dU p a i then dU p a i else dU p b (i+a.length)
 | [],b,i,_=>by simp[dU]
 | x::a,b,i,h=>by
  by_cases hp:p x=true
  .simp[dU,hp,h]
  .simp only[abv,dU,aaR hp]
   rw[Dp p a b (i+1) (by omega)]
   grind
theorem T4 {o:List Int} {x y:Int} (b:x ∉ o):dI (o++[x]) y=if y=x then (o.length:Int) else dI o y:=by
 unfold dI
 rw[Dp _ _ _ _ (by omega)]
 by_cases e:y=x
 .subst e
  rw[aaR (by have:=vy.2 b;unfold dI at this;omega),aaT rfl]
  simp[dU]
 .split
  .rfl
  .rename_i h
   have a:dU (λz=>z==y) [x] (0+(o.length:Int)) = -1:=by simp[dU,Ne.symm e]
   rw[a]
   have:∀(l:List Int) (i:Int),¬ 0<=dU (λz=>z==y) l i->0<=i->dU (λz=>z==y) l i = -1:=by
    intro l
    induction l with
    | nil=>intro i _ _;rfl
    | cons z l c =>
     intro i h1 a
     simp only[dU] at h1 ⊢
     grind
   grind
theorem OB {o:List Int} {x:Int} (h:x∈o):0<=dI o x/\dI o x<o.length:=by
 have a:¬ dI o x<0:=λe=>vy.1 e h
 refine⟨by omega,?_⟩
 unfold dI
 have:∀(l:List Int) (i:Int),dU (λz=>z==x) l i<i+l.length∨dU (λz=>z==x) l i = -1:=by
  intro l
  induction l with
  | nil=>intro i;right;rfl
  | cons z l b =>
   intro i
   simp only[dU]
   grind
 grind
theorem XN (o:List Int) (x:Int) : -1<=dI o x/\dI o x<=o.length:=by
 by_cases h:x∈o
 .have:=OB h;omega
 .have h1:=vy.2 h
  have a:∀(l:List Int) (i:Int),0<=i->-1<=dU (λz=>z==x) l i:=by
   intro l
   induction l with
   | nil=>intro i _;simp[dU]
   | cons z l b =>
    intro i hi
    simp only[dU]
    grind
  have:=a o 0 (by omega)
  unfold dI at h1 ⊢
  omega
def lg:List Int->Int->List (Int × Int)
 | [],_=>[]
 | x::l,i=>(x,i)::lg l (i+1)
theorem xk (x:Int):∀(o:List Int) (i:Int),fj (lg o i) x=if x∈o then some (dU (λy=>y==x) o i) else none
 | [],i=>by simp[lg,fj]
 | y::o,i=>by
  have a:=xk x o (i+1)
  unfold fj at a ⊢
  simp only[lg,ac4,dU]
  grind
theorem IA {x v:Int}:∀ {o:List Int} {i:Int},x ∉ o->mK x v (lg o i)=lg o i++[(x,v)]
 | [],i,_=>rfl
 | y::o,i,h=>by
  simp only[abd,not_or] at h
  simp only[lg,mK,show (x==y)=false by simp[h.1],abp,if_false,IA h.2,abv]
theorem Gt {x:Int}:∀ {o:List Int} {i:Int},lg (o++[x]) i=lg o i++[(x,i+o.length)]
 | [],i=>by simp[lg]
 | y::o,i=>by
  simp only[abv,lg,Gt (o:=o),aa3]
  grind
def eV (o:List Int) (x:Int):Int:=(fj (lg o 0) x).getD 0
theorem CP {o:List Int} {x:Int} (h:x∈o):eV o x=dI o x:=by
 simp[eV,xk,h,dI]
theorem W8 (o:List Int) (x:Int):0<=eV o x/\eV o x<=o.length:=by
 by_cases h:x∈o
 .rw[CP h];have:=OB h;omega
 .simp[eV,xk,h]
theorem To {g:aj} {p q:List Bool} (a:g.start∈c5 p q g.rules) (b:∀r∈g.rules.filter (dL p q),r.left∈c5 p q g.rules/\∀s∈r.right,s<0->-1-s∈c5 p q g.rules):
  zm g (eV (c5 p q g.rules)) p q=zm g (dI (c5 p q g.rules)) p q:=by
 unfold zm
 congr 1
 .apply abR
  intro r hr
  obtain⟨h1,c⟩:=b r hr
  unfold cU
  congr 1
  .exact CP h1
  .apply abR
   intro s d
   split
   .rename_i h;rw[CP (c s d h)]
   .rfl
 .exact CP a
theorem yC:∀(l:List bc) (acc:List Int) (x:Int),x∈l.foldl mo acc↔x∈acc∨∃r∈l,r.left=x
 | [],acc,x=>by simp
 | r::l,acc,x=>by
  rw[abF,yC l]
  have:x∈mo acc r↔x∈acc∨r.left=x:=by
   unfold mo
   grind
  grind
theorem LH {p q:List Bool} {l:List bc} {x:Int} : x∈c5 p q l↔∃r∈l,dL p q r=true/\r.left=x:=by
 unfold c5
 rw[yC]
 grind
def od:SC:=
 ai [ai [ag [af 42 9,af 43 8,aN 44 43,aS 45 .lss 42 44],bP 45 (.exit 0)],.block 1 (ag [af 48 8,af 49 9,aL 50 1 48 49,(none,.op (.store 1 (.tmp 50) (.val (.val (.int .i64 (-1))))))]),ag [af 46 9,aH 47 .add 46 1,af 9 47]]
def oA:SC:=
 ai [ai [ag [af 51 11,aw 52 2 1,au 53 52,aN 54 53,aS 55 .lss 51 54],bP 55 (.exit 2)],.block 3 (ai [ag [aw 58 2 1,au 59 58,af 60 11,aL 61 3 59 60,aU 62 3 61,((some 12),.op (.alloc [(.val (.int .i64 0)),(.emp 1),(.val (.int .i64 0))])),cz 3 12 62],ai [.region false [⟨none,[af 63 6,aw 64 0 12,au 65 64,aL 66 1 63 65,au 67 66,cR 68 67,af 69 68]⟩,⟨(some (69,false)),[aw 70 1 12,au 71 70,af 72 5,oz 73 95 [(.tmp 71),(.tmp 72),(.val (.val (.bool true)))],cR 74 73]⟩,⟨none,[cE 75 69 74]⟩],aX 75 (.exit 3)],ag [af 76 10,af 77 11,((some 78),.op (.bN 1 1 [(.val (.int .i64 0))] [(0,(.tmp 77))])),fL 79 1 8 76 78,af 10 79],ag [af 80 8,aw 81 0 12,au 82 81,aL 83 1 80 82,au 84 83,aH 85 .lss 84 0],aX 85 (ai [ag [af 86 8,aw 87 0 12,au 88 87,aw 89 1 7,au 90 89,aN 91 90,aL 92 1 86 88,cz 1 92 91],.region false [⟨none,[aw 93 1 7,au 94 93,aw 95 1 1,au 96 95,aw 97 0 12,au 98 97,aL 99 1 96 98,au 100 99,((some 101),.op (.bN 1 1 [(.val (.string ⟨#[]⟩))] [(0,(.tmp 100))])),fL 102 1 16 94 101,aw 103 1 7,cz 1 103 102]⟩]])]),ag [af 56 11,aH 57 .add 56 1,af 11 57]]
def ow:SC:=
 ai [ai [ag [af 126 16,aw 127 1 14,au 128 127,aN 129 128,aS 130 .lss 126 129],bP 130 (.exit 6)],.block 7 (ai [ag [aw 133 1 14,au 134 133,af 135 16,aL 136 1 134 135,au 137 136,af 17 137],ai [ag [af 138 17,aH 139 .lss 138 0],aX 139 (ag [af 140 8,af 141 17,((some 142),.op (.arith .sub (.val (.val (.int .i64 (-1)))) (.tmp 141))),aL 143 1 140 142,au 144 143,((some 145),.op (.arith .sub (.val (.val (.int .i64 (-1)))) (.tmp 144))),af 17 145])],ag [aw 146 1 15,au 147 146,af 148 17,((some 149),.op (.bN 1 1 [(.val (.int .i64 0))] [(0,(.tmp 148))])),fL 150 1 8 147 149,aw 151 1 15,cz 1 151 150]]),ag [af 131 16,aH 132 .add 131 1,af 16 132]]
def oD:SC:=
 ai [ai [ag [af 104 13,af 105 10,aN 106 105,aS 107 .lss 104 106],bP 107 (.exit 4)],.block 5 (ai [ag [aw 110 2 1,au 111 110,af 112 10,af 113 13,aL 114 1 112 113,au 115 114,aL 116 3 111 115,aU 117 3 116,((some 14),.op (.alloc [(.val (.int .i64 0)),(.emp 1),(.val (.int .i64 0))])),cz 3 14 117],ag [af 118 8,aw 119 0 14,au 120 119,aL 121 1 118 120,au 122 121,aw 123 2 14,au 124 123,((some 125),.op (.build [(.val (.int .i64 0)),(.emp 1),(.val (.int .i64 0))] [(0,1,(.tmp 122)),(2,1,(.tmp 124))])),((some 15),.op (.alloc [(.val (.int .i64 0)),(.emp 1),(.val (.int .i64 0))])),cz 3 15 125],ai [ag [aT 16 0],bQ 6 ow],ag [aw 152 2 7,au 153 152,aU 154 3 15,((some 155),.op (.bN 1 3 [(.val (.int .i64 0)),(.emp 1),(.val (.int .i64 0))] [(0,(.tmp 154))])),fL 156 3 40 153 155,aw 157 2 7,cz 1 157 156]]),ag [af 108 13,aH 109 .add 108 1,af 13 109]]
def qY:SF:=⟨ai [ag [cm 1 0,((some 2),.op (.alloc [(.emp 1),(.emp 1),(.emp 1),(.val (.int .i64 0))])),bT 3 1,aT 4 0],ai [ag [aU 18 4 1,aV 19 50 [18],cR 20 19],aX 20 (ai [ag [((some 21),.op (.build [(.emp 1),(.emp 1),(.emp 1),(.val (.int .i64 0))] [])),cz 4 2 21,bT 3 1,aT 4 1],.ret])],.region true [⟨none,[aU 22 4 1,aV 23 93 [22],aU 24 4 1,aV 25 94 [24],af 5 23,af 6 25]⟩],ai [ag [af 26 5,aw 27 3 1,au 28 27,aL 29 1 26 28,au 30 29,cR 31 30],aX 31 (ai [ag [((some 32),.op (.build [(.emp 1),(.emp 1),(.emp 1),(.val (.int .i64 0))] [])),cz 4 2 32,bT 3 1,aT 4 9],.ret])],ag [bT 33 2,aw 34 0 1,au 35 34,fL 36 3 32 33 35,((some 37),.op (.build [(.emp 1),(.emp 1),(.emp 1),(.val (.int .i64 0))] [(0,1,(.tmp 36))])),((some 7),.op (.alloc [(.emp 1),(.emp 1),(.emp 1),(.val (.int .i64 0))])),cz 4 7 37],ag [aw 38 1 1,au 39 38,aN 40 39,((some 41),.op (.make 1 8 [(.val (.int .i64 0))] (.tmp 40) (.tmp 40))),af 8 41],ai [ag [aT 9 0],bQ 0 od],ag [bT 10 1],ai [ag [aT 11 0],bQ 2 oA],ai [ag [aT 13 0],bQ 4 oD],ag [af 158 8,aw 159 3 1,au 160 159,aL 161 1 158 160,au 162 161,aw 163 3 7,cz 1 163 162],ag [aU 164 4 7,af 165 10,cz 4 2 164,af 3 165,aT 4 0],.ret],
 [.cell 2 (some 4),.tmp 3,.tmp 4],166⟩
theorem vZ:aJ aa 47 [1]=some qY:=by kernel_rfl
abbrev aM (l:List Int):List (List V):=l.map λx=>[gi x]
abbrev l9 (l:List ByteArray):List (List V):=l.map λs=>[gs s]
theorem mE {l:List Int} {i:Nat} (h:i<l.length):(aM l).getD i []=[gi l[i]]:=by simp[aaP,h]
theorem ints_set (l:List Int) (i:Nat) (x:Int):(aM l).set i [gi x]=aM (l.set i x):=by simp[acB]
theorem Xu {l:List Int} (h:0<l.length):aM l≠[]:=by intro e;rw[List.map_eq_nil_iff] at e;rw[e] at h;simp at h
theorem AA {α:Type} {x:α}:∀ {l:List α} {i:Nat},i<l.length->(l.set i x).take (i+1)=l.take i++[x]
 | y::l,0,_=>by simp
 | y::l,i+1,h=>by
  have:=AA (x:=x) (l:=l) (i:=i) (by simpa using h)
  simp only[List.set_cons_succ,acW,this,abv]
def gm (n:Nat) (o:List Int):List Int:=(List.range n).map λ(x:Nat)=>dI o (x:Int)
theorem W6 (n:Nat):gm n []=List.replicate n (-1):=by
 apply abJ
 .simp[gm]
 .intro i h1 a
  simp[gm,dI,dU]
theorem Cz {n:Nat} {o:List Int} {x:Int} (a:0<=x) (h1:x<n):(gm n o)[x.toNat]'(by simp[gm];omega)=dI o x:=by
 simp[gm,show ((x.toNat:Nat):Int)=x by omega]
theorem XH {n:Nat} {o:List Int} {x:Int} (b:0<=x) (h1:x<n) (a:x ∉ o):(gm n o).set x.toNat o.length=gm n (o++[x]):=by
 apply abJ
 .simp[gm]
 .intro i c d
  rw[List.getElem_set]
  simp only[gm,acN,ac1]
  rw[T4 a]
  by_cases e:x.toNat=i
  .rw[aaT e,aaT (by omega)]
  .rw[aaR e,aaR (by omega)]
abbrev CH:=List (V × bc)
def iW (b:CH):List (List V):=b.map λx=>[gi x.2.left,x.1,gi x.2.prec]
def nZ (b:CH):List er:=b.map λx=>(x.1,1,aM x.2.right)
theorem Tn {h:Heap} {u:V} {b:CH} (c:aP h.view u 3 (iW b)) (f:∀x∈nZ b,aP h.view x.1 x.2.1 x.2.2):dD h u (.aZ ((b.map (·.2)).map aQ)):=by
 refine dD.own c (by simp[iW]) (λi hi=>?_) (λi j hi a=>?_)
 all_goals
  simp only[iW,aaU] at hi
  have e:(iW b).getD i []=[gi b[i].2.left,b[i].1,gi b[i].2.prec]:=by simp[iW,aaP,hi]
  have d:((b.map (·.2)).map aQ).getD i []=aQ b[i].2:=by simp[aaP,hi]
 .rw[e,d];rfl
 .rw[e,d]
  rw[d] at a
  have hm:b[i]∈b:=aaW _
  have c:=f (b[i].1,1,aM b[i].2.right) (aba.2 ⟨_,hm,rfl⟩)
  match j,a with
  | 0,_=>exact .val _
  | 1,_=>exact jA c
  | 2,_=>exact .val _
  | n+3,a=>exact absurd a (by simp only[aQ,aa3,abn];omega)
theorem VM {h:Heap} {u:V} {l:List ByteArray} (a:aP h.view u 1 (l9 l)):dD h u (encS l):=dD.Lh (f:=Value.string) a
theorem Q5 {h:Heap} {u:V} {l:List Term} (b:aP h.view u 3 (l.map dg)):dD h u (fD l):=by
 refine dD.own b rfl (λ_ _=>rfl) (λi j hi a=>?_)
 simp only[aaU] at hi
 have c:(l.map dg).getD i []=dg l[i]:=by simp[aaP,hi]
 rw[c] at a ⊢
 match j,a with
 | 0,_=>exact .val _
 | 1,_=>exact .val _
 | 2,_=>exact .val _
 | n+3,a=>exact absurd a (by simp only[dg,aa3,abn];omega)
def Ac (x:aj × List Int × Int):V:=.bb [.agg (ak x.1),encI x.2.1,gi x.2.2]
theorem zP {h:Heap} {e:Int} {b k2 c d:Nat} : dD h (.bb [.agg [.emp b,.emp k2,.emp c,gi 0],.emp d,gi e]) (Ac (vh,[],e)):=by
 refine .bb _ _ rfl λi hi=>?_
 match i,hi with
 | 0,_ =>
  refine .agg _ _ rfl λj a=>?_
  match j,a with
  | 0,_=>exact .emp _
  | 1,_=>exact .emp _
  | 2,_=>exact .emp _
  | 3,_=>exact .val _
  | n+4,a=>exact absurd a (by simp only[aa3,abn];omega)
 | 1,_=>exact .emp _
 | 2,_=>exact .val _
 | n+3,hi=>exact absurd hi (by simp only[aa3,abn];omega)
def Yy (g:aj) (p q:List Bool) (b2 b7 b8:Nat) (u0:V) (i:Nat) (T:Env) (H:View):Prop:=
 (∃u1 u3:V,T 10=u3/\(∀x∈c5 p q (g.rules.take i),0<=x/\x<g.av.length)/\(c5 p q (g.rules.take i)).Nodup/\(c5 p q (g.rules.take i)).length<=i /\
  bw H [(.sl b7 0 1 4,4,[[u0,u1,.emp 1,gi 0]]),(.sl b8 0 g.av.length 1,1,aM (gm g.av.length (c5 p q (g.rules.take i)))),(u3,1,aM (dz p q (g.rules.take i) 0)),
   (u1,1,l9 ((c5 p q (g.rules.take i)).map λx=>g.av.getD x.toNat ⟨#[]⟩)),(u0,3,g.ax.map dg),(.sl b2 0 1 4,4,[[.emp 1,.emp 1,.emp 1,gi 0]])]) /\
 T 1=.aR (ak g) 0/\T 2=.ptr b2 0 0/\T 5=bX p/\T 6=bX q/\T 7=.ptr b7 0 0/\T 8=.sl b8 0 g.av.length 1/\T 11=gi i
def ZU (g:aj) (p q:List Bool) (b2 b7 b8:Nat) (u0 u1 u3:V) (o kl:List Int) (i:Nat) (T:Env) (H:View):Prop:=
 (∃(u2:V) (bs:CH),bs.map (·.2)=((g.rules.filter (dL p q)).take i).map (cU (dI o)) /\
  bw H ((.sl b7 0 1 4,4,[[u0,u1,u2,gi 0]])::(.sl b8 0 g.av.length 1,1,aM (gm g.av.length o))::(u3,1,aM kl) ::
   (u1,1,l9 (o.map λx=>g.av.getD x.toNat ⟨#[]⟩))::(u0,3,g.ax.map dg)::(u2,3,iW bs)::(.sl b2 0 1 4,4,[[.emp 1,.emp 1,.emp 1,gi 0]])::nZ bs)) /\
 T 1=.aR (ak g) 0/\T 2=.ptr b2 0 0/\T 7=.ptr b7 0 0/\T 8=.sl b8 0 g.av.length 1/\T 10=u3/\T 13=gi i
def ZS (g:aj) (b2 b7 b8 b14 b15:Nat) (u3:V) (o:List Int) (r:bc) (L:List er) (i k:Nat) (T:Env) (H:View):Prop:=
 (∃v:V,bw H ((.sl b15 0 1 3,3,[[gi (dI o r.left),v,gi r.prec]])::(v,1,aM ((cU (dI o) r).right.take k))::(.sl b14 0 1 3,3,[aQ r])::L)) /\
 T 1=.aR (ak g) 0/\T 2=.ptr b2 0 0/\T 7=.ptr b7 0 0/\T 8=.sl b8 0 g.av.length 1/\T 10=u3/\T 13=gi i/\T 14=.ptr b14 0 0/\T 15=.ptr b15 0 0/\T 16=gi k
theorem O1 {h:Heap} {c d e f:V} {x:aj × List Int × Int} {b:CH} (g:aP h.view c 3 (x.1.ax.map dg)) (h1:aP h.view d 1 (l9 x.1.av)) (k:aP h.view e 3 (iW b)) (l:∀y∈nZ b,aP h.view y.1 y.2.1 y.2.2)
  (hr:b.map (·.2)=x.1.rules) (m:aP h.view f 1 (aM x.2.1)):dD h (.bb [.agg [c,d,e,gi x.1.start],f,gi x.2.2]) (Ac x):=by
 refine .bb _ _ rfl λi hi=>?_
 match i,hi with
 | 0,_ =>
  refine .agg _ _ rfl λj a=>?_
  match j,a with
  | 0,_=>exact Q5 g
  | 1,_=>exact VM h1
  | 2,_=>have:=Tn k l;rw[hr] at this;exact this
  | 3,_=>exact .val _
  | n+4,a=>exact absurd a (by simp only[aa3,abn];omega)
 | 1,_=>exact jA m
 | 2,_=>exact .val _
 | n+3,hi=>exact absurd hi (by simp only[aa3,abn];omega)
theorem My (g:aj) (hg:g.Ok):cg aa 47 [.agg (ak g)] (Ac (iR g)):=by
 refine cg.of (dS g) ?_
 refine ay.of mixed vZ ?_
 simp(disch:=omega)only[↓wr,seval,wq,qY,ak,encS]
 intro M
 try simp(disch:=omega)only[↓wr,seval,wq,ak,encS]
 refine az.pure (j7 g hg) ?_
 repeat' (first | ((first|apply ao.dec|apply ao.eq|apply ao.ne|apply ao.split)<;>intro)|(simp(disch:=omega)only[↓wr,seval,wq,ak,encS,set_set]))
 .rename_i hr
  refine az.pure (wY g hg) ?_
  simp(disch:=omega)only[↓wr,seval,wq,ak,encS]
  refine az.pure (HE g hg).pure ?_
  have hf:=bE hr
  have h3:=hf.lB
  have h4:=hf.start
  have cN:=jn hr true
  have e6:=sD hr
  have c:=Ln hr
  generalize bj g true=p at cN c
  generalize cW g=q at e6 c
  have b4:p[g.start.toNat]?=some (p[g.start.toNat]'(by omega)):=aaQ (by omega)
  have cS:p.getD g.start.toNat false=p[g.start.toNat]'(by omega):=by simp[aaP,b4]
  generalize p[g.start.toNat]'(by omega)=s at b4 cS
  rw[cS] at c
  simp(disch:=omega)only[↓wr,seval,wq,ak,encS,bX,aaS,b4]
  cases s with
  | false =>
   rw[aaR (by simp)] at c
   simp(disch:=omega)only[↓wr,seval,wq,ak,encS,set_set]
   rintro h' hh
   rw[c]
   exact zP
  | true =>
   rw[aaT rfl] at c
   simp(disch:=omega)only[↓wr,seval,wq,ak,encS,set_set]
   have hN:=hf.av
   have hn:=hf.lp
   have hT:=hf.ax
   have hR:=hf.rules
   refine dx (L:=[(.sl M 0 1 4,4,[[.emp 1,.emp 1,.emp 1,gi 0]])]) (bw.emp (bw.nil.new rfl 4 _)) (by simp[dg,aK]) (by unfold aF;simp;omega) (by unfold aF;simp;omega) ?_
   intro C H1 b5 _
   have c0:=b5.head.cells
   have k0:=b5.head.ey
   simp(disch:=omega)only[↓wr,seval,wq,ak,encS,c0,k0]
   intro P e7
   have e8:=b5.new e7 4 [[C,.emp 1,.emp 1,gi 0]]
   try simp(disch:=omega)only[↓wr,seval,wq,ak,encS,c0,k0,set_set]
   refine⟨⟨by omega,by unfold aF;omega,by unfold aF;omega⟩,λh=>by omega,?_⟩
   intro _ B cV
   have c3:=(cp cV cy).1
   have j:=e8.new (n:=B) (by simp only[View.set,aaR c3];exact(cp (cp cV cy).2 cy).2) 1 (aM (List.replicate g.av.length 0))
   try simp(disch:=omega)only[↓wr,seval,wq,ak,encS,c0,k0,set_set]
   refine aW.up g.av.length (λi T H=>(∃l:List Int,l.length=g.av.length/\l.take i=List.replicate i (-1) /\
    bw H [(.sl B 0 g.av.length 1,1,aM l),(.sl P 0 1 4,4,[[C,.emp 1,.emp 1,gi 0]]),(C,3,g.ax.map dg),(.sl M 0 1 4,4,[[.emp 1,.emp 1,.emp 1,gi 0]])]) /\
    T 1=.aR (ak g) 0/\T 2=.ptr M 0 0/\T 5=bX p/\T 6=bX q/\T 7=.ptr P 0 0/\T 8=.sl B 0 g.av.length 1/\T 9=gi i) ?_ ?_
   .exact⟨⟨List.replicate g.av.length 0,by simp,by simp,by simpa [set_set] using j⟩,rfl,rfl,rfl,rfl,rfl,rfl,rfl⟩
   rintro i k T H2 hk ⟨⟨l,G,t,f⟩,t1,t2,t5,t6,t7,t8,t9⟩
   simp(disch:=omega)only[↓wr,seval,wq,od,t1,t2,t5,t6,t7,t8,t9]
   apply ao.dec<;>intro hc
   .have e9:aM l≠[]:=by intro e;rw[List.map_eq_nil_iff] at e;rw[e] at G;simp at G;omega
    have hb:=(f.obj e9).1
    have u:=mE (show i<l.length by omega)
    simp(disch:=omega)only[↓wr,seval,wq,t1,t2,t5,t6,t7,t8,t9,hb,u,aaU]
    refine⟨by omega,by omega,?_⟩
    refine aE hk (by omega) ⟨⟨l.set i (-1),by simp[G],?_,?_⟩,t1,t2,t5,t6,t7,t8,rfl⟩
    .rw[AA (by omega),t,List.replicate_succ']
    .rw[ints_set]
     exact f.put (by simp) (by simp[G])
   .rw[aa6 (by omega)] at t
    rw[t] at f
    have ei:i=g.av.length:=by omega
    subst ei
    simp(disch:=omega)only[↓wr,seval,wq,t1,t2,t5,t6,t7,t8,t9]
    have name_in:∀o:List Int,(o.map λx=>g.av.getD x.toNat ⟨#[]⟩).length=o.length:=λo=>by simp
    refine aW.up g.rules.length (Yy g p q M P B C) ?_ ?_
    .refine⟨⟨.emp 1,.emp 1,rfl,by simp[c5],by simp[c5],by simp[c5],?_⟩,t1,t2,t5,t6,t7,t8,rfl⟩
     have h4:=((((f.emp (k:=1) (sz:=1)).emp (k:=1) (sz:=1)).at 3 (by simp)).perm (Lu.symm.cons _))
     have e0:c5 p q (g.rules.take 0)=[]:=rfl
     rw[e0,W6]
     exact h4
    clear f t1 t2 t5 t6 t7 t8 t9 G t
    rintro i k T H2 hk ⟨⟨J,u3,t10,al,an,b9,f⟩,t1,t2,t5,t6,t7,t8,t11⟩
    simp(disch:=omega)only[↓wr,seval,wq,oA,t1,t2,t5,t6,t7,t8,t10,t11,ak]
    apply ao.dec<;>intro hc
    .have I:g.rules[i]?=some (g.rules[i]'(by omega)):=aaQ (by omega)
     have z:g.rules[i]'(by omega)∈g.rules:=aaW _
     have D:g.rules.take (i+1)=g.rules.take i++[g.rules[i]'(by omega)]:=by rw[aa9,I];rfl
     generalize g.rules[i]'(by omega)=r at I z D
     obtain⟨G,t,Q,fb,aq⟩:=hf.qz hg z
     have ca:q[r.left.toNat]?=some (q[r.left.toNat]'(by omega)):=aaQ (by omega)
     have ar:q.getD r.left.toNat false=q[r.left.toNat]'(by omega):=by simp[aaP,ca]
     generalize q[r.left.toNat]'(by omega)=qs at ca ar
     simp(disch:=omega)only[↓wr,seval,wq,t1,t2,t5,t6,t7,t8,t10,t11,ak,aQ,aaS,I]
     intro c4 da
     have A:=f.new da 3 [aQ r]
     try simp(disch:=omega)only[↓wr,seval,wq,t1,t2,t5,t6,t7,t8,t10,t11,aQ,encI,bX,aaS,ca,set_set]
     have R:∀(T2:Env) (H':View),dL p q r=false->H'=H2.set c4 (.arr 3 [aQ r])->T2 10=u3->T2 1=.aR (ak g) 0->T2 2=.ptr M 0 0->T2 5=bX p->T2 6=bX q->T2 7=.ptr P 0 0->T2 8=.sl B 0 g.av.length 1->T2 11=gi ((i:Int)+1) ->
       ∃k',k'<k/\FQ g.rules.length k' (Yy g p q M P B C) T2 H':=by
      intro T2 H' S ff fl a1 a2 a5 a6 a7 a8 fm
      have N:c5 p q (g.rules.take (i+1))=c5 p q (g.rules.take i):=by rw[D,wN,aaR (by simp[S])]
      have e2:dz p q (g.rules.take (i+1)) 0=dz p q (g.rules.take i) 0:=by rw[D,mA];simp[dz,S]
      refine aE hk (by omega) ⟨⟨J,u3,fl,by rw[N];exact al,by rw[N];exact an,by rw[N];omega,by rw[N,e2,ff];exact A.tail⟩,a1,a2,a5,a6,a7,a8,by rw[fm];rfl⟩
     cases qs with
     | false =>
      simp(disch:=omega)only[↓wr,seval,wq,t1,t2,t5,t6,t7,t8,t10,t11]
      refine R _ _ (by rw[dL,ar];rfl) ?_ ?_ ?_ ?_ ?_ ?_ ?_ ?_ ?_
      all_goals first | exact t10 | exact t1 | exact t2 | exact t5 | exact t6 | exact t7 | exact t8 | rfl | (rw[set_set];rfl)
     | true =>
      simp(disch:=omega)only[↓wr,seval,wq,t1,t2,t5,t6,t7,t8,t10,t11,aQ,encI,bX]
      refine az.pure (LA r.right p true (hg.aB r z).2.2.1 (λs hs=>⟨(aq s hs).1,λh=>by rw[cN];exact(aq s hs).2 h⟩)) ?_
      simp(disch:=omega)only[↓wr,seval,wq,t1,t2,t5,t6,t7,t8,t10,t11]
      apply ao.split<;>intro cb
      .simp(disch:=omega)only[↓wr,seval,wq,t1,t2,t5,t6,t7,t8,t10,t11]
       have S:dL p q r=true:=by rw[dL,ar,cb];rfl
       intro m hm
       try simp(disch:=omega)only[↓wr,seval,wq,t1,t2,t5,t6,t7,t8,t10,t11,bG]
       have db:=(cp hm cy).1
       have hm:=(cp (cp hm cy).2 cy).2
       have d:=(A.fresh (n:=m) (o:=.arr 1 [[gi i]]) (by simp only[View.set,aaR db];exact hm)).at 3 (by simp)
       have dc:(dz p q (g.rules.take i) 0).length<=40:=by
        rw[mJ]
        have h1:=acA (dL p q) (g.rules.take i)
        have h2:(g.rules.take i).length<=i:=List.length_take_le _ _
        have:=hf.rules
        omega
       refine dx (by rw[set_set];exact d) (by simp[aK]) (by unfold aF;simp at dc ⊢;omega) (by unfold aF;simp at dc ⊢;omega) ?_
       intro dj H3 j _
       have f12:=((j.at 1 (by simp)).obj (by simp)).1
       have f7:=((j.at 2 (by simp)).obj (by simp)).1
       have f8:=((j.at 3 (by simp)).obj (Xu (by simp[gm];omega))).1
       have cc:cJ J=some (l9 ((c5 p q (g.rules.take i)).map λx=>g.av.getD x.toNat ⟨#[]⟩)).length:=(j.at 4 (by simp)).head.len
       have u:=mE (l:=gm g.av.length (c5 p q (g.rules.take i))) (i:=r.left.toNat) (by simp[gm];omega)
       rw[Cz t Q] at u
       simp only[aQ,encI] at f12
       simp(disch:=omega)only[↓wr,seval,wq,t1,t2,t5,t6,t7,t8,t11,f12,f7,f8,u]
       refine⟨by omega,by simp[gm];omega,?_⟩
       have e2:dz p q (g.rules.take (i+1)) 0=dz p q (g.rules.take i) 0++[(i:Int)]:=by
        rw[D,mA];simp[dz,S,show i<=g.rules.length by omega]
       have N:c5 p q (g.rules.take (i+1))=mo (c5 p q (g.rules.take i)) r:=by rw[D,wN,aaT S]
       generalize c5 p q (g.rules.take i)=o at *
       generalize dz p q (g.rules.take i) 0=kl at *
       apply ao.dec<;>intro dm
       .have hx:r.left ∉ o:=vy.1 dm
        have E:mo o r=o++[r.left]:=by rw[mo,aaR hx]
        have U:P≠B:=j.Nq 2 3 rfl rfl (by omega)
        have W:c4≠B:=j.Nq 1 3 rfl rfl (by omega)
        have cf:g.av[r.left.toNat]?=some (g.av[r.left.toNat]'(by omega)):=aaQ (by omega)
        have br:g.av.getD r.left.toNat ⟨#[]⟩=g.av[r.left.toNat]'(by omega):=by simp[aaP,cf]
        generalize g.av[r.left.toNat]'(by omega)=nm at cf br
        simp(disch:=omega)only[↓wr,seval,wq,t1,t2,t5,t6,t7,t8,t11,f12,f7,f8,u,cc,aaU]
        try refine⟨by omega,by simp[gm];omega,?_⟩
        try simp(disch:=omega)only[↓wr,seval,wq,t1,t2,t5,t6,t7,t8,t11,f12,f7,f8,u,cc,aaU,U,W,ak,encS,aaS,cf]
        intro m2 O
        have ds:=(cp O cy).1
        have O:=(cp O cy).2
        have fs:(aM (gm g.av.length o)).set r.left.toNat [gi o.length]=aM (gm g.av.length (o++[r.left])):=by rw[ints_set,XH t Q hx]
        have ch:=(j.at 3 (by simp)).put (es':=(aM (gm g.av.length o)).set r.left.toNat [gi o.length]) (by simp) (by simp[gm])
        have ft:=(ch.fresh (n:=m2) (o:=.arr 1 [[gs nm]]) (by simp only[View.set,aaR ds];exact O)).at 4 (by simp)
        have hj:o.length<=40:=by omega
        try simp(disch:=omega)only[↓wr,seval,wq,t1,t2,t5,t6,t7,t8,t11,f12,f7,f8,u,cc,aaU,U,W,bG]
        refine dx ft (by simp[aK]) (by unfold aF;simp;omega) (by unfold aF;simp;omega) ?_
        intro dv H5 bd _
        have c1:=bd.head.cells
        have k1:=bd.head.ey
        have cj:=((bd.at 4 (by simp)).obj (by simp)).1
        simp(disch:=omega)only[↓wr,seval,wq,t1,t2,t5,t6,t7,t8,t11,cj,c1,k1]
        have fu:=(bd.at 4 (by simp)).put (es':=[[C,dv,.emp 1,gi 0]]) rfl rfl
        have fv:=(((fu.at 4 (by simp)).tail).perm (Lu.cons _))
        refine aE hk (by omega) ⟨⟨dv,dj,rfl,?_,?_,?_,?_⟩,t1,t2,t5,t6,t7,t8,rfl⟩
        .rw[N,E];intro x fx;rcases aa7.1 fx with h | h
         .exact al x h
         .simp at h;subst h;exact⟨t,Q⟩
        .rw[N];exact PZ an
        .rw[N,E];simp;omega
        .rw[N,E,e2]
         have:=fv
         rw[fs] at this
         simp only[abh,abl,acq,br]
         exact this
       .have hx:r.left∈o:=by
         refine ack λh=>?_
         have:=vy.2 h
         omega
        have E:mo o r=o:=by rw[mo,aaT hx]
        simp(disch:=omega)only[↓wr,seval,wq,t1,t2,t5,t6,t7,t8,t11]
        have ch:=(((j.at 1 (by simp)).tail).perm Lu)
        refine aE hk (by omega) ⟨⟨J,dj,rfl,?_,?_,?_,?_⟩,t1,t2,t5,t6,t7,t8,rfl⟩
        .rw[N,E];exact al
        .rw[N,E];exact an
        .rw[N,E];omega
        .rw[N,E,e2]
         simp only[abh,abl,acq]
         exact ch
      .simp(disch:=omega)only[↓wr,seval,wq,t1,t2,t5,t6,t7,t8,t10,t11]
       refine R _ _ (by rw[dL,ar,cb];rfl) ?_ ?_ ?_ ?_ ?_ ?_ ?_ ?_ ?_
       all_goals first | exact t10 | exact t1 | exact t2 | exact t5 | exact t6 | exact t7 | exact t8 | rfl | (rw[set_set];rfl)
    .rw[aa6 (by omega)] at f al an b9
     have fy:(dz p q g.rules 0).length<=40:=by
      rw[mJ];have h1:=acA (dL p q) g.rules;omega
     have fz:=wU p q g.rules 0
     have hl:=mJ p q g.rules 0
     have ck:g.start.toNat<(gm g.av.length (c5 p q g.rules)).length:=by simp[gm];omega
     have bx:=mE ck
     rw[Cz h3 h4] at bx
     have ea:zm g (dI (c5 p q g.rules)) p q=⟨g.ax,(c5 p q g.rules).map λx=>g.av.getD x.toNat ⟨#[]⟩,(g.rules.filter (dL p q)).map (cU (dI (c5 p q g.rules))),dI (c5 p q g.rules) g.start⟩:=rfl
     rw[ea] at c
     clear ea
     generalize c5 p q g.rules=o at *
     generalize dz p q g.rules 0=kl at *
     simp(disch:=omega)only[↓wr,seval,wq,t1,t2,t5,t6,t7,t8,t10,t11]
     refine aW.up kl.length (ZU g p q M P B C J u3 o kl) ?_ ?_
     .refine⟨⟨.emp 1,[],by simp,?_⟩,t1,t2,t7,t8,t10,rfl⟩
      exact(f.emp (k:=1) (sz:=3)).perm (uV [(.sl P 0 1 4,4,[[C,J,.emp 1,gi 0]]),(.sl B 0 g.av.length 1,1,aM (gm g.av.length o)),(u3,1,aM kl),(J,1,l9 (o.map λx=>g.av.getD x.toNat ⟨#[]⟩)),(C,3,g.ax.map dg),(.emp 1,3,[]),(.sl M 0 1 4,4,[[.emp 1,.emp 1,.emp 1,gi 0]])] 5 (by simp)).symm
     clear f t1 t2 t5 t6 t7 t8 t10 t11
     rintro i k T H2 hk ⟨⟨u2,bs,bl,f⟩,t1,t2,t7,t8,t10,t13⟩
     have ga:cJ u3=some (aM kl).length:=(f.own 2 rfl).len
     simp(disch:=omega)only[↓wr,seval,wq,oD,t1,t2,t7,t8,t10,t13,ga,aaU]
     apply ao.dec<;>intro hc
     .obtain⟨n3,e3,gd⟩:=(f.own 2 rfl).sl (by simp;omega)
      rw[aaU] at e3
      subst e3
      obtain⟨m,cA,O,X⟩:=fz i (by omega)
      have u:=mE (show i<kl.length by omega)
      rw[Int.zero_add] at cA
      have gk:kl[i]'(by omega)=(m:Int):=by
       rw[aaQ (show i<kl.length by omega)] at cA;simpa using cA
      rw[gk] at u
      have I:g.rules[m]?=some (g.rules[m]'X):=aaQ X
      have z:g.rules[m]'X∈g.rules:=aaW _
      have D:(g.rules.filter (dL p q)).take (i+1)=(g.rules.filter (dL p q)).take i++[g.rules[m]'X]:=by
       rw[aa9,<-O,I];rfl
      generalize g.rules[m]'X=r at I z D
      obtain⟨G,t,Q,fb,aq⟩:=hf.qz hg z
      simp(disch:=omega)only[↓wr,seval,wq,t1,t2,t7,t8,t10,t13,gd,u,aaU,ak,aQ,aaS,I]
      refine⟨by omega,by omega,?_⟩
      intro eb b0
      have A:=f.new b0 3 [aQ r]
      have f8:=A.is 2 rfl (by simp[gm];omega)
      have b1:=mE (l:=gm g.av.length o) (i:=r.left.toNat) (by simp[gm];omega)
      rw[Cz t Q] at b1
      have cC:B≠eb:=A.Nq 2 0 rfl rfl (by omega)
      have g8:H2 B=.arr 1 (aM (gm g.av.length o)):=f.is 1 rfl (by simp[gm];omega)
      try simp(disch:=omega)only[↓wr,seval,wq,t1,t2,t7,t8,t10,t13,g8,cC,b1,aaU,set_set,encI]
      refine⟨by omega,by simp[gm];omega,?_⟩
      intro ee F
      have ef:=(cp F cy).1
      have F:=(cp (cp F cy).2 cy).2
      have d:=(((A.new (n:=ee) (by simp only[View.set,aaR ef];exact F) 3 [[gi (dI o r.left),.emp 1,gi r.prec]]).emp (k:=1) (sz:=1)).perm (.swap _ _ _))
      generalize hL:((V.sl P 0 1 4,4,[[C,J,u2,gi 0]])::(V.sl B 0 g.av.length 1,1,aM (gm g.av.length o))::(V.sl n3 0 kl.length 1,1,aM kl) ::
       (J,1,l9 (o.map λx=>g.av.getD x.toNat ⟨#[]⟩))::(C,3,g.ax.map dg)::(u2,3,iW bs)::(V.sl M 0 1 4,4,[[V.emp 1,V.emp 1,V.emp 1,gi 0]])::nZ bs:List er)=L at d
      have gr:L[1]?=some (.sl B 0 g.av.length 1,1,aM (gm g.av.length o)):=by rw[<-hL];rfl
      try simp(disch:=omega)only[↓wr,seval,wq,t1,t2,t7,t8,t10,t13,set_set]
      refine aW.up r.right.length (ZS g M P B eb ee (.sl n3 0 kl.length 1) o r L i) ?_ ?_
      .exact⟨⟨.emp 1,by rw[set_set,set_set];exact d⟩,t1,t2,t7,t8,t10,t13,rfl,rfl,rfl⟩
      clear A d f8 g8 b0 F t1 t2 t7 t8 t10 t13
      rintro k k2 T H3 eg ⟨⟨v,w⟩,t1,t2,t7,t8,t10,t13,t14,t15,t16⟩
      have f14:=w.is 2 rfl (by simp)
      have f15:=w.is 0 rfl (by simp)
      have f8:H3 B=.arr 1 (aM (gm g.av.length o)):=w.is 4 (by simpa using gr) (by simp[gm];omega)
      simp only[aQ] at f14
      simp(disch:=omega)only[↓wr,seval,wq,ow,t1,t2,t7,t8,t10,t13,t14,t15,t16,f14,encI]
      apply ao.dec<;>intro ha
      .have cI:r.right[k]?=some (r.right[k]'(by omega)):=aaQ (by omega)
       have ej:r.right[k]'(by omega)∈r.right:=aaW _
       have Y:(cU (dI o) r).right.take (k+1)=(cU (dI o) r).right.take k++[if r.right[k]'(by omega)<0 then -1-dI o (-1-r.right[k]'(by omega)) else r.right[k]'(by omega)]:=by
        rw[aa9];simp[cU,cI]
       have bn:((cU (dI o) r).right.take k).length<=6:=by
        have h1:(cU (dI o) r).right.length=r.right.length:=by simp[cU]
        have h2:((cU (dI o) r).right.take k).length<=(cU (dI o) r).right.length:=by rw[abS];omega
        omega
       generalize r.right[k]'(by omega)=s at cI ej Y
       obtain⟨⟨s1,s2⟩,s3⟩:=aq s ej
       simp(disch:=omega)only[↓wr,seval,wq,t1,t2,t7,t8,t10,t13,t14,t15,t16,f14,encI,aaS,cI]
       have hq:=XN o (-1-s)
       have ht:o.length<=40:=by omega
       apply ao.dec<;>intro K
       .rw[aaT K] at Y
        have ek:=s3 K
        have b3:=mE (l:=gm g.av.length o) (i:=(-1-s).toNat) (by simp[gm];omega)
        rw[Cz (by omega) ek] at b3
        simp(disch:=omega)only[↓wr,seval,wq,t1,t2,t7,t8,t10,t13,t14,t15,t16,f14,f15,f8,b3,aaU]
        refine⟨by omega,by simp[gm];omega,?_⟩
        intro m hm
        try simp(disch:=omega)only[↓wr,seval,wq,t1,t2,t7,t8,t10,t13,t14,t15,t16,bG]
        have Z:=(w.fresh (o:=.arr 1 [[gi (-1-dI o (-1-s))]]) hm).at 1 (by simp)
        refine dx Z (by simp[aK]) (by unfold aF;simp at bn ⊢;omega) (by unfold aF;simp at bn ⊢;omega) ?_
        intro v' H4 a _
        have cv:=a.head.cells
        have kv:=a.head.ey
        have ab:=a.is 1 rfl (by simp)
        simp(disch:=omega)only[↓wr,seval,wq,t1,t2,t7,t8,t10,t13,t14,t15,t16,ab,cv,kv]
        have ae:=(a.at 1 (by simp)).put (es':=[[gi (dI o r.left),v',gi r.prec]]) rfl rfl
        refine aE eg (by omega) ⟨⟨v',?_⟩,t1,t2,t7,t8,t10,t13,t14,t15,rfl⟩
        rw[Y]
        simp only[abh,abl,acq]
        exact ae
       .rw[aaR K] at Y
        simp(disch:=omega)only[↓wr,seval,wq,t1,t2,t7,t8,t10,t13,t14,t15,t16,f14,f15,f8]
        intro m hm
        try simp(disch:=omega)only[↓wr,seval,wq,t1,t2,t7,t8,t10,t13,t14,t15,t16,bG]
        have Z:=(w.fresh (o:=.arr 1 [[gi s]]) hm).at 1 (by simp)
        refine dx Z (by simp[aK]) (by unfold aF;simp at bn ⊢;omega) (by unfold aF;simp at bn ⊢;omega) ?_
        intro v' H4 a _
        have cv:=a.head.cells
        have kv:=a.head.ey
        have ab:=a.is 1 rfl (by simp)
        simp(disch:=omega)only[↓wr,seval,wq,t1,t2,t7,t8,t10,t13,t14,t15,t16,ab,cv,kv]
        have ae:=(a.at 1 (by simp)).put (es':=[[gi (dI o r.left),v',gi r.prec]]) rfl rfl
        refine aE eg (by omega) ⟨⟨v',?_⟩,t1,t2,t7,t8,t10,t13,t14,t15,rfl⟩
        rw[Y]
        simp only[abh,abl,acq]
        exact ae
      .rw[aa6 (by simp[cU];omega)] at w
       subst hL
       have f7:=w.is 3 rfl (by simp)
       have cv:=(w.own 1 rfl).cells
       have kv:=(w.own 1 rfl).ey
       have eH:(iW bs).length<=40:=by
        have h1:=abY List.length bl
        simp only[aaU,abS] at h1
        simp only[iW,aaU]
        omega
       simp(disch:=omega)only[↓wr,seval,wq,t1,t2,t7,t8,t10,t13,t14,t15,t16,f7,f15,cv,kv]
       intro m hm
       try simp(disch:=omega)only[↓wr,seval,wq,t1,t2,t7,t8,t10,t13,t14,t15,t16,bG]
       have Z:=(w.fresh (o:=.arr 3 [[gi (dI o r.left),v,gi r.prec]]) hm).at 8 (by simp)
       refine dx Z (by simp[CB,kv]) (by unfold aF;simp at eH ⊢;omega) (by unfold aF;simp at eH ⊢;omega) ?_
       intro e4 H4 a _
       have cu:=a.head.cells
       have ku:=a.head.ey
       have cj:=a.is 4 rfl (by simp)
       simp(disch:=omega)only[↓wr,seval,wq,t1,t2,t7,t8,t10,t13,t14,t15,t16,cj,cu,ku]
       have ae:=(a.at 4 (by simp)).put (es':=[[C,J,e4,gi 0]]) rfl rfl
       have hd:=((((ae.at 2 (by simp)).tail).at 3 (by simp)).tail)
       refine aE hk (by omega) ⟨⟨e4,bs++[(v,cU (dI o) r)],?_,?_⟩,t1,t2,t7,t8,t10,rfl⟩
       .rw[abh,bl,D,abh];rfl
       .refine hd.perm (.cons _ ?_)
        simp only[nZ,iW,abh,abl,acq]
        refine .trans ?_ (uV _ 4 (by simp)).symm
        refine .cons _ ?_
        exact(List.perm_append_singleton (v,1,aM (cU (dI o) r).right) ((.sl B 0 g.av.length 1,1,aM (gm g.av.length o))::(.sl n3 0 kl.length 1,1,aM kl)::(J,1,l9 (o.map λx=>g.av.getD x.toNat ⟨#[]⟩))::(C,3,g.ax.map dg)::(.sl M 0 1 4,4,[[.emp 1,.emp 1,.emp 1,gi 0]])::nZ bs)).symm
     .rw[aa6 (by omega)] at bl
      have f7:=f.is 0 rfl (by simp)
      have f8:H2 B=.arr 1 (aM (gm g.av.length o)):=f.is 1 rfl (by simp[gm];omega)
      have f2:=f.is 6 rfl (by simp)
      have e5:P≠M:=f.Nq 0 6 rfl rfl (by omega)
      have c1:=(f.own 3 rfl).cells
      have k1:=(f.own 3 rfl).ey
      have c2:=(f.own 5 rfl).cells
      have k2:=(f.own 5 rfl).ey
      simp(disch:=omega)only[↓wr,seval,wq,t1,t2,t7,t8,t10,t13,f7,f8,f2,e5,e5.symm,bx,c0,k0,c1,k1,c2,k2,ak,aaU]
      refine⟨by omega,by simp[gm];omega,λh' hh=>?_⟩
      have A:=f.put (es':=[[C,J,u2,gi (dI o g.start)]]) rfl rfl
      have d:=(A.at 6 (by simp)).put (es':=[[C,J,u2,gi (dI o g.start)]]) rfl rfl
      have hv:h'.view=(H2.set P (.arr 4 [[C,J,u2,gi (dI o g.start)]])).set M (.arr 4 [[C,J,u2,gi (dI o g.start)]]):=hh
      rw[<-hv] at d
      rw[c]
      exact O1 (x:=(⟨g.ax,o.map λx=>g.av.getD x.toNat ⟨#[]⟩,(g.rules.filter (dL p q)).map (cU (dI o)),dI o g.start⟩,kl,0)) (b:=bs) (d.own 5 rfl) (d.own 4 rfl) (d.own 6 rfl) (λy hy=>d.1 y (by
       refine abe _ (abe _ (abe _ (abe _ (abe _ (abe _ (abe _ ?_))))))
       exact hy)) bl (d.own 3 rfl)
 .rename_i hr
  intro h' hh
  rw[iR,aaR (by simp[hr])]
  exact zP
theorem MO {g:aj} (e:qD g=false):g.Small:=by
 simp only[qD,Bool.or_eq_false_iff,acf] at e
 exact⟨by omega⟩
theorem UY (g:aj):aC aa 14 [.agg (ak g)] (gb (qD g)):=aC.val (dS g) λH=>(UC g H).mono λ_ _ h=>h.1
theorem wg {a b:V} (c:Tree a) (d:Tree b):Tree (.bb [a,b]):=.bb _ λi hi=>by
 match i,hi with
 | 0,_=>exact c
 | 1,_=>exact d
 | n+2,h=>exact absurd h (by simp)
theorem KQ {h:Heap} {a b c d:V} (e:dD h a c) (f:dD h b d):dD h (.bb [a,b]) (.bb [c,d]):=.bb _ _ rfl λi hi=>by
 match i,hi with
 | 0,_=>exact e
 | 1,_=>exact f
 | n+2,h=>exact absurd h (by simp)
theorem Gc {H:View} {id n:Nat} {l:List Int} (a:H id=.arr 1 (aM l)) (b:n=l.length):ct H (.sl id 0 n 1) (encI l):=by
 subst b
 exact ct.own (sz:=1) (.inr ⟨id,by simp,a⟩) λe he v a=>by
  obtain⟨x,_,rfl⟩:=aba.1 he
  simp at a;subst a;exact .val _
theorem Ut (l:List Int) (i:Nat) (x:Int):(aM l).set i [gi x]=aM (l.set i x):=by simp[acB]
theorem aP.elems {H:View} {u:V} {sz:Nat} {es:List (List V)} (h:aP H u sz es):∃rd,bM H u=some (es,rd):=by
 rcases h with ⟨rfl,k,rfl⟩ | ⟨n,rfl,a⟩
 .exact⟨[],rfl⟩
 .cases es with
  | nil=>exact⟨[],rfl⟩
  | cons e r =>
   refine⟨[n],?_⟩
   rw[aa3,j6 _ n 0 r.length sz sz _ a (by simp),abP,aa6 (by simp)]
theorem cn.step {H H' H1:View} {u b:V} (h:cn H H' u) (l:Left H' H1 u b):cn H H1 b:=λid a=>by
 have h1:=h id a
 have c:=l id (by rw[h1.1];exact a) h1.2
 exact⟨c.1.trans h1.1,c.2⟩
theorem cn.put {H H':View} {u:V} {n:Nat} {o:cr} (h:cn H H' u) (b:H' n=.dead):cn H (H'.set n o) u:=λid a=>by
 have h1:=h id a
 have e:id≠n:=by rintro rfl;rw[h1.1] at b;exact a b
 exact⟨by simp[View.set,e,h1.1],h1.2⟩
theorem cn.call {H H' b:View} {u r:V} (h:cn H H' u) (k:cn H' b r):cn H b u:=λid a=>by
 have h1:=h id a
 have c:=k id (by rw[h1.1];exact a)
 exact⟨c.1.trans h1.1,h1.2⟩
theorem zq {l:List Int} {k:Nat} (h:k<=l.length):cZ 1 (.aZ (l.map λx=>[gi x])) none (some (gi k))=some (.aZ ((l.take k).map λx=>[gi x]),.none,[]):=by
 simp[cZ,bound,asNat,h,ab9,List.map_take]
theorem qj {l:List Int} {k:Nat} (h:k<=l.length):cZ 1 (.aZ (l.map λx=>[gi x])) (some (gi k)) none=some (.aZ ((l.drop k).map λx=>[gi x]),.none,[]):=by
 simp[cZ,bound,asNat,h,ab9,List.map_drop]
 rw[aa6 (by simp)]
theorem ew {P:Program} {t:TypeId} {d:TypeDesc} (hu:P.underlying t=some d) (a:d=.string∨∃k,d=.int k) (cs:Array Value) (off:Nat) {v:Value} (b:cs[off]?=some v):bk P (part t cs off)=some v:=by
 have c:bk P (isAgg t)=some false:=by
  rcases a with rfl | ⟨k,rfl⟩
  all_goals simp only[isAgg,aY,dA hu,abk];rfl
 simp only[part,aY,c,abk,abp,if_false,b]
 rfl
inductive ig (P:Program) (d:Nat) (xs ys:Array Value):List Field->Bool->Prop
 | nil:ig P d xs ys [] true
 | str (f:Field) (l:List Field) (c:Bool) (a b:ByteArray):(f.name≠ "_")->P.underlying f.type=some .string->xs[f.offset]?=some (.string a)->ys[f.offset]?=some (.string b)->ig P d xs ys l c->ig P d xs ys (f::l) (a==b&&c)
 | int (f:Field) (l:List Field) (c:Bool) (k:IntKind) (a b:Int):(f.name≠ "_")->P.underlying f.type=some (.int k)->xs[f.offset]?=some (.int k a)->ys[f.offset]?=some (.int k b)->ig P d xs ys l c->ig P d xs ys (f::l) (a==b&&c)
theorem ig.forIn {P:Program} {d e:Nat} {xs ys:Array Value} {l:List Field} {c:Bool} (h:ig P d xs ys l c) (n:e=d+1):
  bk P (forIn l ((none:Option Bool),()) λf _ =>
    if f.name≠ "_" then do
     let a <-part f.type xs f.offset
     let b <-part f.type ys f.offset
     let e <-Op.equalIn e f.type a b
     if (!e)=true then pure (ForInStep.done (some false,())) else pure (ForInStep.yield (none,()))
    else pure (ForInStep.yield (none,())))=some (if c=true then (none,()) else (some false,())):=by
 subst n
 induction h with
 | nil=>rfl
 | str f l c a b g hu i j _ m =>
  have he:bk P (Op.equalIn (d+1) f.type (.string a) (.string b))=some (a==b):=by
   simp only[Op.equalIn,aY,dA hu,abk];rfl
  rw[List.forIn_cons,aY,aaT g,aY,ew hu (.inl rfl) xs _ i,abk,aY,ew hu (.inl rfl) ys _ j,abk,aY,he,abk]
  cases a==b with
  | false=>rfl
  | true=>exact m
 | int f l c k a b g hu i j _ m =>
  have he:bk P (Op.equalIn (d+1) f.type (.int k a) (.int k b))=some (a==b):=by
   simp only[Op.equalIn,aY,dA hu,abk];rfl
  rw[List.forIn_cons,aY,aaT g,aY,ew hu (.inr ⟨k,rfl⟩) xs _ i,abk,aY,ew hu (.inr ⟨k,rfl⟩) ys _ j,abk,aY,he,abk]
  cases a==b with
  | false=>rfl
  | true=>exact m
theorem vm {P:Program} {t:TypeId} {b:Array Field} {xs ys:Array Value} {c:Bool} (hu:P.underlying t=some (.struct b)) (d:P.stoodInHeld t=false) (h:ig P 9998 xs ys b.toList c):
  bk P (Op.equal t (.agg xs) (.agg ys))=some c:=by
 rw[lf]
 rw[Op.equalIn,aY,dA hu,abk]
 have a:(bk P program)=some P:=rfl
 rw[aY,a,abk,d]
 simp only[<-Array.forIn_toList,abp,if_false]
 rw[aY,h.forIn (e:=9999) rfl,abk]
 cases c<;>rfl
theorem Hv {P:Program} {o:Oper} {T:Env} {op:BinOp} {t u:TypeId} {x y:Operand} {f:Array Field} {xs ys:Array Value} {c r:Bool} (b:o.op=.binOp op t x y u) (hu:P.underlying t=some (.struct f)) (i:P.stoodInHeld t=false) (g:P.eqGuardType P.depth t=false)
  (d:dC (ev T x)=some (.agg xs)) (e:dC (ev T y)=some (.agg ys)) (h:ig P 9998 xs ys f.toList c) (hr:(op=.eql/\r=c)∨(op=.neq/\r = !c)):
  eA P o T=some (.val (.bool r),.none,[]):=by
 have he:=vm hu i h
 have a:(bk P program)=some P:=rfl
 unfold eA
 simp only[b,Op.operands,d,e]
 rcases hr with ⟨rfl,rfl⟩ | ⟨rfl,rfl⟩
 .simp[execOp,b,d,e,eqGuard,binOp,kn,aY,a,g,he,plain]
  try simp[bk,pure,plain]
 .simp[execOp,b,d,e,eqGuard,binOp,kn,aY,a,g,he,plain]
  try simp[bk,pure,plain,bne]
theorem km {P:Program} {T:Env} {H:View} {K:V->View->Prop} {w:dd (T,H,K)} {op:BinOp} {t u ty:TypeId} {x y:Operand} {a:Array Field} {xs ys:Array Value} {c r:Bool} (hu:P.underlying t=some (.struct a)) (b:P.stoodInHeld t=false) (d:P.eqGuardType P.depth t=false)
  (e:dC (ev T x)=some (.agg xs)) (f:dC (ev T y)=some (.agg ys)) (h:ig P 9998 xs ys a.toList c) (hr:(op=.eql/\r=c)∨(op=.neq/\r = !c)) (hk:K (.val (.bool r)) H):jQ P (.binOp op t x y u) ty T H K w:=by
 intro n _
 refine⟨.val (.bool r),.none,[],?_,hk⟩
 have g:kH P t=none:=by simp[kH,hu]
 simp only[sI,cK,oper,g]
 simp only[Option.isSome_none,abp,if_false]
 exact Hv rfl hu b d e f h hr
def A7 (hp:Array Obj) (cs:List Value) (vs:List V):Prop:=
 vs.length=cs.length/\∀μ i,i<vs.length->aD (λb=>b<hp.size) μ hp (vs.getD i .any) (cs.getD i undef)
def Wt {H:Type} (P:Program) (t:TypeId) (d:DataW H):Prop:=∀n∈d.weights P t,n<=reachBytes
def Bw (P:Program) (t:TypeId) {α:Type} (f:α->List V) (ok:α->Prop):Prop:=
 ∀ {H:Type} (enc:TypeId × Value->H) (w:World) (base:Nat) (sp:Nat->Bool) (held:Bool) (fuel:Nat) (cs:List Value) (x:DataW H × List MemPlace),
  DataW.trod enc P w base sp held fuel t cs=some x->Wt P t x.1->∃a,ok a/\A7 w.heap cs (f a)
theorem zl {hp:Array Obj} {c:Value} {v:V} (h:∀μ,aD (λb=>b<hp.size) μ hp v c):A7 hp [c] [v]:=by
 refine⟨rfl,λμ i hi=>?_⟩
 match i,hi with
 | 0,_=>exact h μ
theorem Yg {P:Program} {t:TypeId} {k:IntKind} (a:P.underlying t=some (.int k)):Bw P t (λn=>[.val (.int k n)]) (λn=>(Lit.int k n).wf=true):=by
 intro H enc w base sp held fuel cs x h _
 obtain⟨n,rfl,_,hw⟩:=DataW.trod_int a h
 exact⟨n,hw,zl λμ=>.val _ rfl⟩
theorem I5 {P:Program} {t:TypeId} (a:P.underlying t=some .string):Bw P t (λs=>[.val (.string s)]) (λ_=>True):=by
 intro H enc w base sp held fuel cs x h _
 obtain⟨s,rfl,_,_⟩:=DataW.trod_string a h
 exact⟨s,trivial,zl λμ=>.val _ rfl⟩
theorem LU {w:World} {base:Nat} {a:Addr} {n:Nat} {cs:List Value} (h:w.cells? base a n=some cs):cs.length=n/\∀i,i<n->w.cell? (a.add i)=some (cs.getD i undef):=by
 obtain⟨_,b,c⟩:=World.cells?_some h
 refine⟨b,λi hi=>?_⟩
 rw[c i hi,aaP,aaQ (by omega)]
 rfl
theorem T9 {w:World} {a:Addr} {v:Value} (h:w.cell? a=some v):a.spot=none/\a.block<w.heap.size:=by
 unfold World.cell? at h
 split at h
 .rename_i c _ _ b
  split at h
  .simp at h
  .rename_i d
   exact⟨by simpa using d,(Array.getElem?_eq_some_iff.1 b).1⟩
 .simp at h
theorem Uf {H:Type} {P:Program} {e:TypeId}:∀ {l:List (DataW H)},(∀n∈DataW.weightsAll P e l,n<=reachBytes)->∀d∈l,Wt P e d
 | [],_,d,a=>by simp at a
 | x::l,h,d,a=>by
  simp only[DataW.weightsAll,aa7] at h
  rcases abd.1 a with rfl | a
  .exact λn b=>h n (.inl b)
  .exact Uf (λn b=>h n (.inr b)) d a
theorem Ww {H:Type} {P:Program} {t e:TypeId} {elems spare:List (DataW H)} (a:P.underlying t=some (.slice e)) (h:Wt P t (.slice elems spare)):
  (elems.length+spare.length)*P.bytesOf e<=reachBytes/\∀d∈elems,Wt P e d:=by
 unfold Wt at h
 unfold DataW.weights at h
 rw[a] at h
 simp only[abd,aa7] at h
 exact⟨h _ (.inl rfl),Uf λn b=>h n (.inr (.inl b))⟩
theorem SK {H:Type} {P:Program} {t:TypeId} {a:Array Field} {parts:List (DataW H)} (b:P.underlying t=some (.struct a)) (h:Wt P t (.agg parts)) {j:Nat} {f:Field} {d:DataW H} (c:a[j]?=some f) (e:parts[j]?=some d):Wt P f.type d:=by
 intro n g
 refine h n ?_
 unfold DataW.weights
 rw[b]
 exact DataW.weights_mem_each (j:=j) (t:=f.type) (by simp[c]) e n g
theorem O2 {α:Type} {c:Nat->α->Prop}:∀(n:Nat),(∀i,i<n->∃a,c i a)->∃l:List α,l.length=n/\∀i (hi:i<l.length),c i l[i]
 | 0,_=>⟨[],rfl,λi hi=>by simp at hi⟩
 | n+1,h=>by
  obtain⟨l,d,b⟩:=O2 n λi hi=>h i (by omega)
  obtain⟨a,f⟩:=h n (by omega)
  refine⟨l++[a],by simp[d],λi hi=>?_⟩
  by_cases e:i<l.length
  .rw[List.getElem_append_left e];exact b i e
  .have:i=n:=by simp at hi;omega
   subst this
   rw[List.getElem_append_right (by omega)]
   simp only[d,Nat.sub_self,List.getElem_cons_zero];exact f
theorem zQ {P:Program} {t e:TypeId} {α:Type} {f:α->List V} {ok:α->Prop} (J:P.underlying t=some (.slice e)) (M:0<P.cellsOf e) (N:0<P.bytesOf e) (he:Bw P e f ok):
  Bw P t (λl:List α=>[.aZ (l.map f)]) (λl=>l.length<4611686018427387904/\∀a∈l,ok a):=by
 intro H enc w base sp held fuel cs x h hw
 rcases DataW.trod_slice J h with ⟨rfl,rfl⟩ | ⟨a,len,cap,elems,rest,n,_,rfl,rfl,O,Q,hm,hlen,A,_,_⟩
 .exact⟨[],⟨by simp,by simp⟩,zl λμ=>.jx none 0 (by simp)⟩
 obtain⟨r,B⟩:=Ww J hw
 simp only[aaU] at r
 have C:len<4611686018427387904:=by
  have h1:len*1<=(elems.length+rest.length)*P.bytesOf e:=Nat.mul_le_mul (by omega) N
  unfold reachBytes at r
  omega
 have each:∀i,i<len->∃y,ok y/\∃ci,w.cells? base (a.add (i*P.cellsOf e)) (P.cellsOf e)=some ci/\A7 w.heap ci (f y):=by
  intro i hi
  have h1:=A i hi
  have k:elems[i]?=some (elems[i]'(by omega)):=aaQ (by omega)
  have s:elems[i]'(by omega)∈elems:=aaW _
  rw[k,Option.bind_eq_some_iff] at h1
  obtain⟨ci,D,E⟩:=h1
  obtain⟨y,z,m⟩:=he enc w base sp held n ci _ E (B _ (aba.2 ⟨_,s,rfl⟩))
  exact⟨y,z,ci,D,m⟩
 obtain⟨l,F,p⟩:=O2 len each
 subst F
 refine⟨l,⟨C,λy R=>?_⟩,zl λμ=>?_⟩
 .obtain⟨i,hi,rfl⟩:=acI R
  exact(p i hi).1
 by_cases K:l=[]
 .subst K
  exact .jx (some a) cap (by simp)
 have o:0<l.length:=acV.2 K
 have d:∀i j,i<l.length->j<P.cellsOf e->∃c,cellAt w.heap a.block (a.off+i*P.cellsOf e+j)=some c/\a.block<w.heap.size/\(i=0->j=0->a.spot=none)/\∀(hi:i<l.length),aD (λb=>b<w.heap.size) μ w.heap ((f l[i]).getD j .any) c:=by
  intro i j hi q
  obtain⟨_,ci,h1,k⟩:=p i hi
  obtain⟨D,E⟩:=LU h1
  have z:=E j q
  have m:=T9 z
  have u:((a.add (i*P.cellsOf e)).add j).block=a.block:=by simp only[Addr.add];split<;>split<;>rfl
  have G:((a.add (i*P.cellsOf e)).add j).off=a.off+i*P.cellsOf e+j:=by
   simp only[Addr.add];split<;>split<;>simp_all
  refine⟨ci.getD j undef,?_,by rw[<-u];exact m.2,?_,λ_=>?_⟩
  .rw[<-G,<-u,<-jq]
   rw[<-z]
   congr 1
   generalize (a.add (i*P.cellsOf e)).add j=b at m
   cases b
   simp at m ⊢
   exact m.1.symm
  .rintro rfl rfl
   simp[Addr.add] at m
   exact m.1
  .exact k.2 μ j (by rw[k.1,D];exact q)
 obtain⟨_,_,S,L,_⟩:=d 0 0 o M
 have T:a=⟨a.block,a.off,none⟩:=by
  cases a;simp at L ⊢;exact L
 have I:∀i,i<l.length->(f (l[i]?.getD (l[0]'o))).length=P.cellsOf e:=λi hi=>by
  obtain⟨_,ci,h1,k⟩:=p i hi
  rw[aaQ hi,aa8,k.1,(LU h1).1]
 have v:∀i (hi:i<l.length),(l.map f).getD i []=f l[i]:=λi hi=>by simp[aaP,hi]
 have g:(l.map f).length=l.length:=by simp
 have:=aD.aZ (Z:=λb=>b<w.heap.size) (μ:=μ) (hp:=w.heap) (l.map f) a.block a.off (P.cellsOf e) cap (λi j=>(cellAt w.heap a.block (a.off+i*P.cellsOf e+j)).getD undef) S (by rw[g];exact Q)
  (λi hi=>by
   rw[g] at hi
   have:=I i hi
   rw[aaQ hi,aa8] at this
   rw[v i hi];exact this)
  (λi j hi q=>by
   rw[g] at hi
   obtain⟨c,h1,_⟩:=d i j hi q
   rw[h1];rfl)
  (λi j hi q=>by
   rw[g] at hi
   obtain⟨c,h1,_,_,k⟩:=d i j hi q
   rw[h1,v i hi];exact k hi)
 rw[g,<-T] at this
 exact this
theorem BZ {P:Program} {t:TypeId} {b:Array Field} (d:P.underlying t=some (.struct b)) (j:∀(i:Nat) (f:Field),b[i]?=some f->f.offset=i/\P.cellsOf f.type=1) (k:P.cellsOf t=b.size)
  {H:Type} {enc:TypeId × Value->H} {w:World} {base:Nat} {sp:Nat->Bool} {held:Bool} {fuel:Nat} {cs:List Value} {x:DataW H × List MemPlace} (h:DataW.trod enc P w base sp held fuel t cs=some x) (hw:Wt P t x.1):
  cs.length=b.size/\∀(i:Nat) (f:Field),b[i]?=some f->∀ {α:Type} {g:α->List V} {ok:α->Prop},Bw P f.type g ok->∃a,ok a/\A7 w.heap [cs.getD i undef] (g a):=by
 obtain⟨xs,n,rfl,rfl,l,hlen,m⟩:=DataW.trod_struct d h
 refine⟨by rw[l,k],λi f hi α g ok hr=>?_⟩
 obtain⟨h1,o⟩:=j i f hi
 have p:i<b.size:=(Array.getElem?_eq_some_iff.1 hi).1
 have c:=m i f hi
 have e:xs[i]?=some (xs[i]'(by omega)):=aaQ (by omega)
 rw[e,h1,o] at c
 have q:(cs.drop i).take 1=[cs.getD i undef]:=by
  rw[aaP,aaQ (by omega),abA (by omega)]
  rfl
 rw[q] at c
 exact hr enc w base sp held n _ _ c (SK d hw hi (by simp[e]))
theorem jj {hp:Array Obj} {c:Value} {cs:List Value} {v:V} {vs:List V} (h:A7 hp [c] [v]) (k:A7 hp cs vs):A7 hp (c::cs) (v::vs):=by
 refine⟨by simp[k.1],λμ i hi=>?_⟩
 cases i with
 | zero=>exact h.2 μ 0 (by simp)
 | succ i=>exact k.2 μ i (by simpa using hi)
theorem Ep {hp:Array Obj} : A7 hp [] []:=⟨rfl,λμ i hi=>by simp at hi⟩
theorem X5 {n:Int} (h:(Lit.int .i64 n).wf=true):bm n:=by
 simp only[Lit.wf,aaZ,aa5] at h
 exact h
theorem si:Bw aa 3 (λn=>[gi n]) bm:=λenc w base sp held fuel cs x h hw=>by
 obtain⟨n,h1,a⟩:=Yg Tryz.underlying3 enc w base sp held fuel cs x h hw
 exact⟨n,X5 h1,a⟩
theorem Xz:Bw aa 27 (λl:List Int=>[encI l]) (λl=>aI l/\∀x∈l,bm x):=
 zQ Tryz.underlying27 (acF (by kernel_rfl)) (acF (by kernel_rfl)) si
theorem Pu:Bw aa 23 (λl:List ByteArray=>[encS l]) (λl=>aI l/\∀x∈l,True):=
 zQ Tryz.underlying23 (acF (by kernel_rfl)) (acF (by kernel_rfl)) (I5 Tryz.underlying9)
theorem Zy {cs:List Value} (h:cs.length=3):cs=[cs.getD 0 undef,cs.getD 1 undef,cs.getD 2 undef]:=by
 match cs,h with
 | [a,b,c],_=>rfl
theorem cs4 {cs:List Value} (h:cs.length=4):cs=[cs.getD 0 undef,cs.getD 1 undef,cs.getD 2 undef,cs.getD 3 undef]:=by
 match cs,h with
 | [a,b,c,d],_=>rfl
theorem Xd:Bw aa 130 dg (λt=>bm t.level/\bm t.assoc):=λenc w base sp held fuel cs x h hw=>by
 obtain⟨e,d⟩:=BZ Tryz.underlying130 (by
  intro i f hi
  match i,hi with
  | 0,hi=>simp at hi;subst hi;exact⟨rfl,by kernel_rfl⟩
  | 1,hi=>simp at hi;subst hi;exact⟨rfl,by kernel_rfl⟩
  | 2,hi=>simp at hi;subst hi;exact⟨rfl,by kernel_rfl⟩
  | n+3,hi=>simp at hi) (by kernel_rfl) h hw
 obtain⟨a,_,h1⟩:=d 0 _ rfl (I5 Tryz.underlying9)
 obtain⟨b,g,j⟩:=d 1 _ rfl si
 obtain⟨c,k,l⟩:=d 2 _ rfl si
 refine⟨⟨a,b,c⟩,⟨g,k⟩,?_⟩
 rw[Zy e]
 exact jj h1 (jj j (jj l Ep))
theorem XA:Bw aa 92 aQ (λr=>bm r.left/\bm r.prec/\aI r.right/\∀x∈r.right,bm x):=λenc w base sp held fuel cs x h hw=>by
 obtain⟨g,d⟩:=BZ Tryz.underlying92 (by
  intro i f hi
  match i,hi with
  | 0,hi=>simp at hi;subst hi;exact⟨rfl,by kernel_rfl⟩
  | 1,hi=>simp at hi;subst hi;exact⟨rfl,by kernel_rfl⟩
  | 2,hi=>simp at hi;subst hi;exact⟨rfl,by kernel_rfl⟩
  | n+3,hi=>simp at hi) (by kernel_rfl) h hw
 obtain⟨a,j,h1⟩:=d 0 _ rfl si
 obtain⟨b,e,k⟩:=d 1 _ rfl Xz
 obtain⟨c,l,m⟩:=d 2 _ rfl si
 refine⟨⟨a,b,c⟩,⟨j,l,e.1,e.2⟩,?_⟩
 rw[Zy g]
 exact jj h1 (jj k (jj m Ep))
theorem Xo:Bw aa 26 ak aj.Ok:=λenc w base sp held fuel cs x h hw=>by
 obtain⟨k,e⟩:=BZ Tryz.underlying26 (by
  intro i f hi
  match i,hi with
  | 0,hi=>simp at hi;subst hi;exact⟨rfl,by kernel_rfl⟩
  | 1,hi=>simp at hi;subst hi;exact⟨rfl,by kernel_rfl⟩
  | 2,hi=>simp at hi;subst hi;exact⟨rfl,by kernel_rfl⟩
  | 3,hi=>simp at hi;subst hi;exact⟨rfl,by kernel_rfl⟩
  | n+4,hi=>simp at hi) (by kernel_rfl) h hw
 obtain⟨a,g,h1⟩:=e 0 _ rfl (zQ Tryz.underlying22 (acF (by kernel_rfl)) (acF (by kernel_rfl)) Xd)
 obtain⟨b,l,m⟩:=e 1 _ rfl Pu
 obtain⟨c,j,o⟩:=e 2 _ rfl (zQ Tryz.underlying24 (acF (by kernel_rfl)) (acF (by kernel_rfl)) XA)
 obtain⟨d,p,q⟩:=e 3 _ rfl si
 refine⟨⟨a,b,c,d⟩,⟨g.1,l.1,j.1,p,g.2,j.2⟩,?_⟩
 rw[cs4 k]
 exact jj h1 (jj m (jj o (jj q Ep)))
def wQ:SC:=
 ai [ag [aS 44 .lss 43 42],bP 44 (.exit 0),.block 1 (ai [ag [af 45 43,aL 46 3 41 43,aU 47 3 46,((some 11),.op (.alloc [(.val (.int .i64 0)),(.emp 1),(.val (.int .i64 0))])),af 10 45,cz 3 11 47],ai [.region false [⟨none,[af 48 6,aw 49 0 11,au 50 49,aL 51 1 48 50,au 52 51,cR 53 52,af 54 53]⟩,⟨(some (54,false)),[aU 55 3 11,af 56 5,aV 57 164 [55,56],cR 58 57]⟩,⟨none,[cE 59 54 58]⟩],aX 59 (.exit 1)],ag [af 60 7,af 61 10,((some 62),.op (.bN 1 1 [(.val (.int .i64 0))] [(0,(.tmp 61))])),fL 63 1 8 60 62,af 7 63],ag [af 65 9,aw 66 0 11,au 67 66,((some 68),.op (.old (.lookup 265 (.tmp 65) (.tmp 67) true) 66)),af 64 68,c7 69 0 64,c7 70 1 64,af 12 69,af 13 70],ag [af 71 13,cR 72 71],aX 72 (ai [ag [af 73 9,aw 74 0 11,au 75 74,aw 76 1 8,au 77 76,aN 78 77,(none,.op (.old (.mapUpdate 265 (.tmp 73) (.tmp 75) (.tmp 78)) 0))],.region false [⟨none,[aw 79 1 8,au 80 79,aw 81 1 1,au 82 81,aw 83 0 11,au 84 83,aL 85 1 82 84,au 86 85,((some 87),.op (.bN 1 1 [(.val (.string ⟨#[]⟩))] [(0,(.tmp 86))])),fL 88 1 16 80 87,aw 89 1 8,cz 1 89 88]⟩]])]),ag [aH 90 .add 43 1,af 43 90]]
def wu:SC:=
 ai [ag [aS 116 .lss 115 114],bP 116 (.exit 4),.block 5 (ai [ag [af 117 115,aL 118 1 113 115,au 119 118,af 18 117,af 19 119],ag [af 120 19,aH 121 .lss 120 0],aX 121 (ag [aw 122 1 17,au 123 122,af 124 18,af 125 9,af 126 19,((some 127),.op (.arith .sub (.val (.val (.int .i64 (-1)))) (.tmp 126))),((some 128),.op (.old (.lookup 265 (.tmp 125) (.tmp 127) false) 3)),((some 129),.op (.arith .sub (.val (.val (.int .i64 (-1)))) (.tmp 128))),aL 130 1 123 124,cz 1 130 129])]),ag [aH 131 .add 115 1,af 115 131]]
def wy:SC:=
 ai [ag [aS 94 .lss 93 92],bP 94 (.exit 2),.block 3 (ai [ag [aL 95 1 91 93,au 96 95,af 15 96],ag [aw 97 2 1,au 98 97,af 99 15,aL 100 3 98 99,aU 101 3 100,((some 16),.op (.alloc [(.val (.int .i64 0)),(.emp 1),(.val (.int .i64 0))])),cz 3 16 101],.region true [⟨none,[af 102 9,aw 103 0 16,au 104 103,((some 105),.op (.old (.lookup 265 (.tmp 102) (.tmp 104) false) 3)),aw 106 1 16,au 107 106,aV 108 140 [107],aw 109 2 16,au 110 109,((some 111),.op (.build [(.val (.int .i64 0)),(.emp 1),(.val (.int .i64 0))] [(0,1,(.tmp 105)),(1,1,(.tmp 108)),(2,1,(.tmp 110))])),((some 17),.op (.alloc [(.val (.int .i64 0)),(.emp 1),(.val (.int .i64 0))])),cz 3 17 111]⟩],ai [ag [aw 112 1 17,au 113 112,aN 114 113,aT 115 0],bQ 4 wu],ag [aw 132 2 8,au 133 132,aU 134 3 17,((some 135),.op (.bN 1 3 [(.val (.int .i64 0)),(.emp 1),(.val (.int .i64 0))] [(0,(.tmp 134))])),fL 136 3 40 133 135,aw 137 2 8,cz 1 137 136]]),ag [aH 138 .add 93 1,af 93 138]]
def AL:SF:=⟨ai [ag [cm 1 0,((some 2),.op (.alloc [(.emp 1),(.emp 1),(.emp 1),(.val (.int .i64 0))])),bT 3 1,aT 4 0],ai [ag [aU 20 4 1,aV 21 89 [20],cR 22 21],aX 22 (ai [ag [((some 23),.op (.build [(.emp 1),(.emp 1),(.emp 1),(.val (.int .i64 0))] [])),cz 4 2 23,bT 3 1,aT 4 1],.ret])],.region true [⟨none,[aU 24 4 1,aV 25 161 [24],aU 26 4 1,aV 27 162 [26],af 5 25,af 6 27]⟩],ai [ag [af 28 5,aw 29 3 1,au 30 29,aL 31 1 28 30,au 32 31,cR 33 32],aX 33 (ai [ag [((some 34),.op (.build [(.emp 1),(.emp 1),(.emp 1),(.val (.int .i64 0))] [])),cz 4 2 34,bT 3 1,aT 4 9],.ret])],ag [bT 7 1],ag [aw 35 0 1,au 36 35,aV 37 163 [36],((some 38),.op (.build [(.emp 1),(.emp 1),(.emp 1),(.val (.int .i64 0))] [(0,1,(.tmp 37))])),((some 8),.op (.alloc [(.emp 1),(.emp 1),(.emp 1),(.val (.int .i64 0))])),cz 4 8 38],ag [((some 39),.op (.qS)),af 9 39],ai [ag [aw 40 2 1,au 41 40,aN 42 41,aT 43 0],bQ 0 wQ],ai [ag [af 91 7,aN 92 91,aT 93 0],bQ 2 wy],ag [af 139 9,aw 140 3 1,au 141 140,((some 142),.op (.old (.lookup 265 (.tmp 139) (.tmp 141) false) 3)),aw 143 3 8,cz 1 143 142],ag [aU 144 4 8,af 145 7,cz 4 2 144,af 3 145,aT 4 0],.ret],
 [.cell 2 (some 4),.tmp 3,.tmp 4],146⟩
theorem Ef:aJ aa 92 [1]=some AL:=by kernel_rfl
abbrev AX (m:cH Int):List (V × V × Nat):=cP (Value.int .i64) m
def Y3 (g:aj) (p q:List Bool) (b2 b8 b9:Nat) (u0:V) (i:Nat) (T:Env) (H:View):Prop:=
 (∃u1 u3:V,T 7=u3/\(∀x∈c5 p q (g.rules.take i),0<=x/\x<g.av.length)/\(c5 p q (g.rules.take i)).length<=i /\
  bw H [(.sl b8 0 1 4,4,[[u0,u1,.emp 1,gi 0]]),(u3,1,aM (dz p q (g.rules.take i) 0)),
   (u1,1,l9 ((c5 p q (g.rules.take i)).map λx=>g.av.getD x.toNat ⟨#[]⟩)),(u0,3,g.ax.map dg),(.sl b2 0 1 4,4,[[.emp 1,.emp 1,.emp 1,gi 0]])] /\
  ∃m c,H b9=.map (AX m) c/\pZ gi (lg (c5 p q (g.rules.take i)) 0) m) /\
 T 1=.aR (ak g) 0/\T 2=.ptr b2 0 0/\T 5=bX p/\T 6=bX q/\T 8=.ptr b8 0 0/\T 9=.mp b9/\T 41=.aZ (g.rules.map aQ)/\T 42=gi g.rules.length/\T 43=gi i
theorem GU {α:Type} {x s:α}:∀ {a d:List α} {k:Nat},a.length=k->(a++s::d).set k x=a++x::d
 | [],d,k,h=>by simp at h;subst h;rfl
 | y::a,d,k,h=>by
  cases k with
  | zero=>simp at h
  | succ k=>simp only[abv,List.set_cons_succ];rw[GU (by simpa using h)]
def ZJ (g:aj) (p q:List Bool) (b2 b8 b9:Nat) (u0 u1 u3:V) (o kl:List Int) (mm:cH Int) (cc:Nat) (i:Nat) (T:Env) (H:View):Prop:=
 (∃(u2:V) (bs:CH),bs.map (·.2)=((g.rules.filter (dL p q)).take i).map (cU (eV o)) /\
  bw H ((.sl b8 0 1 4,4,[[u0,u1,u2,gi 0]])::(u3,1,aM kl) ::
   (u1,1,l9 (o.map λx=>g.av.getD x.toNat ⟨#[]⟩))::(u0,3,g.ax.map dg)::(u2,3,iW bs)::(.sl b2 0 1 4,4,[[.emp 1,.emp 1,.emp 1,gi 0]])::nZ bs) /\
  H b9=.map (AX mm) cc) /\
 T 1=.aR (ak g) 0/\T 2=.ptr b2 0 0/\T 7=u3/\T 8=.ptr b8 0 0/\T 9=.mp b9/\T 91=u3/\T 92=gi kl.length/\T 93=gi i
def ZT (g:aj) (b2 b8 b9 b16 b17:Nat) (u3 v:V) (o kl:List Int) (mm:cH Int) (cc:Nat) (r:bc) (L:List er) (i k:Nat) (T:Env) (H:View):Prop:=
 bw H ((.sl b17 0 1 3,3,[[gi (eV o r.left),v,gi r.prec]])::(v,1,aM ((cU (eV o) r).right.take k++r.right.drop k))::(.sl b16 0 1 3,3,[aQ r])::L) /\
 H b9=.map (AX mm) cc/\T 1=.aR (ak g) 0/\T 2=.ptr b2 0 0/\T 7=u3/\T 8=.ptr b8 0 0/\T 9=.mp b9/\T 91=u3/\T 92=gi kl.length/\T 93=gi i/\T 17=.ptr b17 0 0/\T 113=v/\T 114=gi r.right.length/\T 115=gi k
theorem MQ (g:aj) (hg:g.Ok) (hs:g.Small):cg aa 92 [.agg (ak g)] (Ac (if bt g=true then
  if (bj g true).getD g.start.toNat false=true then (zm g (eV (c5 (bj g true) (cW g) g.rules)) (bj g true) (cW g),dz (bj g true) (cW g) g.rules 0,0)
  else (vh,[],9)
 else (vh,[],1))):=by
 refine cg.of (dS g) ?_
 refine ay.of mixed Ef ?_
 simp(disch:=omega)only[↓wr,seval,wq,AL,ak,encS]
 intro Q
 try simp(disch:=omega)only[↓wr,seval,wq,ak,encS]
 refine az.pure (pw g hg hs.names) ?_
 repeat' (first | ((first|apply ao.dec|apply ao.eq|apply ao.ne|apply ao.split)<;>intro)|(simp(disch:=omega)only[↓wr,seval,wq,ak,encS,set_set]))
 .rename_i hr
  rw[aaT hr]
  refine az.pure (yb g hg hs).pure ?_
  simp(disch:=omega)only[↓wr,seval,wq,ak,encS]
  refine az.pure (Jp g hg hs).pure ?_
  have hf:=bE hr
  have h3:=hf.lB
  have h4:=hf.start
  have c4:=jn hr true
  have fs:=sD hr
  generalize bj g true=p at c4 ⊢
  generalize cW g=q at fs ⊢
  have cf:p[g.start.toNat]?=some (p[g.start.toNat]'(by omega)):=aaQ (by omega)
  have da:p.getD g.start.toNat false=p[g.start.toNat]'(by omega):=by simp[aaP,cf]
  generalize p[g.start.toNat]'(by omega)=s at cf da
  rw[da]
  simp(disch:=omega)only[↓wr,seval,wq,ak,encS,bX,aaS,cf]
  cases s with
  | false =>
   simp(disch:=omega)only[↓wr,seval,wq,ak,encS,set_set]
   rintro h' hh
   exact zP
  | true =>
   simp(disch:=omega)only[↓wr,seval,wq,ak,encS,set_set]
   have hN:=hf.av
   have hG:=hf.lp
   have hT:=hf.ax
   have hR:=hf.rules
   refine az.cG ((Ri g.ax (by omega) _).mono ?_)
   rintro B H1 ⟨ft,K⟩
   have aq:=(bw.nil.new (H:=λ_=>cr.dead) (n:=Q) rfl 4 [[.emp 1,.emp 1,.emp 1,gi 0]]).G4 ft K
   have c0:=aq.head.cells
   have k0:=aq.head.ey
   simp(disch:=omega)only[↓wr,seval,wq,ak,encS,c0,k0]
   intro O db
   have dc:=aq.new db 4 [[B,.emp 1,.emp 1,gi 0]]
   try simp(disch:=omega)only[↓wr,seval,wq,ak,encS,c0,k0,set_set]
   intro d R
   have b5:=(cp R cy).1
   have R:=(cp (cp R cy).2 cy).2
   have f:=(((dc.fresh (n:=d) (o:=.map [] 0) (by simp only[View.set,aaR b5];exact R)).emp (k:=1) (sz:=1)).emp (k:=1) (sz:=1)).perm Lu.symm
   try simp(disch:=omega)only[↓wr,seval,wq,ak,encS,c0,k0,set_set]
   refine aW.up g.rules.length (Y3 g p q Q O d B) ?_ ?_
   .refine⟨⟨.emp 1,.emp 1,rfl,by simp[c5],by simp[c5],by rw[set_set];exact f,[],0,by simp[View.set,cP],trivial⟩,rfl,rfl,rfl,rfl,rfl,rfl,rfl,rfl,rfl⟩
   clear aq dc f db R b5
   rintro i k T H2 hk ⟨⟨G,u3,t7,ar,ch,A,mm,C,j,D⟩,t1,t2,t5,t6,t8,t9,t41,t42,t43⟩
   simp(disch:=omega)only[↓wr,seval,wq,wQ,t1,t2,t5,t6,t7,t8,t9,t41,t42,t43,ak]
   apply ao.dec<;>intro hc
   .have E:g.rules[i]?=some (g.rules[i]'(by omega)):=aaQ (by omega)
    have l:g.rules[i]'(by omega)∈g.rules:=aaW _
    have w:g.rules.take (i+1)=g.rules.take i++[g.rules[i]'(by omega)]:=by rw[aa9,E];rfl
    generalize g.rules[i]'(by omega)=r at E l w
    obtain⟨fu,dj,dm,fv,bd⟩:=hf.qz hg l
    have cj:q[r.left.toNat]?=some (q[r.left.toNat]'(by omega)):=aaQ (by omega)
    have bl:q.getD r.left.toNat false=q[r.left.toNat]'(by omega):=by simp[aaP,cj]
    generalize q[r.left.toNat]'(by omega)=qs at cj bl
    simp(disch:=omega)only[↓wr,seval,wq,t1,t2,t5,t6,t7,t8,t9,t41,t42,t43,aQ,encI,aaS,E]
    intro bn S
    have F:=A.new S 3 [aQ r]
    have b7:d≠bn:=by rintro rfl;rw[j] at S;simp at S
    try simp(disch:=omega)only[↓wr,seval,wq,t1,t2,t5,t6,t7,t8,t9,t41,t42,t43,aQ,encI,bX,aaS,cj,set_set]
    have U:∀(P:Env) (H':View),dL p q r=false->H'=H2.set bn (.arr 3 [aQ r])->P 7=u3->P 1=.aR (ak g) 0->P 2=.ptr Q 0 0->P 5=bX p->P 6=bX q->P 8=.ptr O 0 0->P 9=.mp d->P 41=.aZ (g.rules.map aQ)->P 42=gi g.rules.length->P 43=gi ((i:Int)+1) ->
      ∃k',k'<k/\FQ g.rules.length k' (Y3 g p q Q O d B) P H':=by
     intro P H' W ds a7 a1 a2 a5 a6 a8 a9 a41 fx fy
     have M:c5 p q (g.rules.take (i+1))=c5 p q (g.rules.take i):=by rw[w,wN,aaR (by simp[W])]
     have e2:dz p q (g.rules.take (i+1)) 0=dz p q (g.rules.take i) 0:=by rw[w,mA];simp[dz,W]
     refine aE hk (by omega) ⟨⟨G,u3,a7,by rw[M];exact ar,by rw[M];omega,by rw[M,e2,ds];exact F.tail,mm,C,by rw[ds];simp[View.set,b7,j],by rw[M];exact D⟩,a1,a2,a5,a6,a8,a9,a41,fx,by rw[fy];rfl⟩
    cases qs with
    | false =>
     simp(disch:=omega)only[↓wr,seval,wq,t1,t2,t5,t6,t7,t8,t9,t41,t42,t43]
     refine U _ _ (by rw[dL,bl];rfl) ?_ ?_ ?_ ?_ ?_ ?_ ?_ ?_ ?_ ?_ ?_
     all_goals first | exact t7 | exact t1 | exact t2 | exact t5 | exact t6 | exact t8 | exact t9 | exact t41 | exact t42 | rfl | (rw[set_set];rfl)
    | true =>
     simp(disch:=omega)only[↓wr,seval,wq,t1,t2,t5,t6,t7,t8,t9,t41,t42,t43,aQ,encI,bX]
     refine az.pure (xl r p (hg.aB r l).2.2.1 (λs dv=>⟨(bd s dv).1,λh=>by rw[c4];exact(bd s dv).2 h⟩)) ?_
     simp(disch:=omega)only[↓wr,seval,wq,t1,t2,t5,t6,t7,t8,t9,t41,t42,t43]
     apply ao.split<;>intro ck
     .simp(disch:=omega)only[↓wr,seval,wq,t1,t2,t5,t6,t7,t8,t9,t41,t42,t43]
      have W:dL p q r=true:=by rw[dL,bl,ck];rfl
      intro m hm
      try simp(disch:=omega)only[↓wr,seval,wq,t1,t2,t5,t6,t7,t8,t9,t41,t42,t43,bG]
      have ea:=(cp hm cy).1
      have hm:=(cp (cp hm cy).2 cy).2
      have e:=(F.fresh (n:=m) (o:=.arr 1 [[gi i]]) (by simp only[View.set,aaR ea];exact hm)).at 2 (by simp)
      have cA:d≠m:=by rintro rfl;rw[j] at hm;simp at hm
      have eb:(dz p q (g.rules.take i) 0).length<=40:=by
       rw[mJ]
       have h1:=acA (dL p q) (g.rules.take i)
       have h2:(g.rules.take i).length<=i:=List.length_take_le _ _
       omega
      refine dx (by rw[set_set];exact e) (by simp[aK]) (by unfold aF;simp at eb ⊢;omega) (by unfold aF;simp at eb ⊢;omega) ?_
      intro cC H3 f t
      have f11:=f.is 1 rfl (by simp)
      have f8:=f.is 2 rfl (by simp)
      have br:Left ((H2.set bn (.arr 3 [aQ r])).set m (.arr 1 [[gi i]])) H3 u3 cC:=by rw[set_set] at t;exact t
      have f9:H3 d=.map (AX mm) C:=br.map (b:=d) e.head (by simp[View.set,b7,cA,j])
      have fz:cJ G=some (l9 ((c5 p q (g.rules.take i)).map λx=>g.av.getD x.toNat ⟨#[]⟩)).length:=(f.own 3 rfl).len
      simp only[aQ,encI] at f11
      have e2:dz p q (g.rules.take (i+1)) 0=dz p q (g.rules.take i) 0++[(i:Int)]:=by
       rw[w,mA];simp[dz,W,show i<=g.rules.length by omega]
      have M:c5 p q (g.rules.take (i+1))=mo (c5 p q (g.rules.take i)) r:=by rw[w,wN,aaT W]
      generalize c5 p q (g.rules.take i)=o at *
      generalize dz p q (g.rules.take i) 0=kl at *
      simp(disch:=omega)only[↓wr,seval,wq,t1,t2,t5,t6,t8,t9,t41,t42,t43,f11,f8]
      refine Wz (kt:=3) (et:=3) (z:=gi 0) (by kernel_rfl) (by kernel_rfl) (mG .i64 Tryz.underlying3) (id:=d) (c:=C) (m:=mm) (k:=r.left) (by simp(disch:=omega)only[↓wr,seval,wq,t9]) (by simp(disch:=omega)only[↓wr,seval,wq]) f9 ?_
      rw[D.get,xk]
      have ga:o.length<=40:=by omega
      by_cases hx:r.left∈o
      .have u:mo o r=o:=by rw[mo,aaT hx]
       rw[aaT hx]
       simp(disch:=omega)only[↓wr,seval,wq,t1,t2,t5,t6,t8,t9,t41,t42,t43,Option.isSome_some]
       have gd:=(((f.at 1 (by simp)).tail).perm (.swap _ _ _))
       refine aE hk (by omega) ⟨⟨G,cC,rfl,by rw[M,u];exact ar,by rw[M,u];omega,?_,mm,C,f9,by rw[M,u];exact D⟩,t1,t2,t5,t6,t8,t9,t41,t42,rfl⟩
       rw[M,u,e2]
       simp only[abh,abl,acq]
       exact gd
      .have u:mo o r=o++[r.left]:=by rw[mo,aaR hx]
       rw[aaR hx]
       have cI:g.av[r.left.toNat]?=some (g.av[r.left.toNat]'(by omega)):=aaQ (by omega)
       have ca:g.av.getD r.left.toNat ⟨#[]⟩=g.av[r.left.toNat]'(by omega):=by simp[aaP,cI]
       generalize g.av[r.left.toNat]'(by omega)=nm at cI ca
       simp(disch:=omega)only[↓wr,seval,wq,t1,t2,t5,t6,t8,t9,t41,t42,t43,Option.isSome_none,f11,f8,fz,aaU]
       refine yV (kt:=3) (et:=3) (by kernel_rfl) (mG .i64 Tryz.underlying3) (id:=d) (c:=C) (m:=mm) (k:=r.left) (v:=gi o.length) (by simp(disch:=omega)only[↓wr,seval,wq,t9]) (by simp(disch:=omega)only[↓wr,seval,wq]) (by simp(disch:=omega)only[↓wr,seval,wq]) f9 ?_
       intro c'
       have ee:O≠d:=Gh f 2 rfl f9
       have n119:bn≠d:=Gh f 1 rfl f9
       simp(disch:=omega)only[↓wr,seval,wq,t1,t2,t5,t6,t8,t9,t41,t42,t43,f11,f8,ee,n119,ak,encS,aaS,cI]
       intro m2 N
       have cb:=(cp N (by simp)).1
       have N:=(cp N (by simp)).2
       have ef:=((f.Fa f9 (o:=.map (AX (bO r.left (gi o.length) C mm)) c')).fresh (n:=m2) (o:=.arr 1 [[gs nm]]) (by simp only[View.set,aaR cb];exact N)).at 3 (by simp)
       try simp(disch:=omega)only[↓wr,seval,wq,t1,t2,t5,t6,t8,t9,t41,t42,t43,bG]
       refine dx ef (by simp[aK]) (by unfold aF;simp;omega) (by unfold aF;simp;omega) ?_
       intro eg H5 bx b0
       have c1:=bx.head.cells
       have k1:=bx.head.ey
       have cN:=bx.is 3 rfl (by simp)
       have gk:=b0.map (b:=d) (es:=AX (bO r.left (gi o.length) C mm)) (c:=c') ef.head (by simp[View.set,Ne.symm cb])
       have ei:d≠O:=ee.symm
       simp(disch:=omega)only[↓wr,seval,wq,t1,t2,t5,t6,t8,t9,t41,t42,t43,cN,c1,k1]
       have gr:=(bx.at 3 (by simp)).put (es':=[[B,eg,.emp 1,gi 0]]) rfl rfl
       have ha:=(((gr.at 3 (by simp)).tail).perm (.cons _ (.swap _ _ _)))
       refine aE hk (by omega) ⟨⟨eg,cC,rfl,?_,?_,?_,_,c',(by simp only[View.set,aaR ei];exact gk),?_⟩,t1,t2,t5,t6,t8,t9,t41,t42,rfl⟩
       .rw[M,u];intro x hb;rcases aa7.1 hb with h | h
        .exact ar x h
        .simp at h;subst h;exact⟨dj,dm⟩
       .rw[M,u];simp;omega
       .rw[M,u,e2]
        simp only[abh,abl,acq,ca]
        exact ha
       .rw[M,u,Gt,Int.zero_add,<-IA hx]
        exact D.put r.left (o.length:Int) C
     .simp(disch:=omega)only[↓wr,seval,wq,t1,t2,t5,t6,t7,t8,t9,t41,t42,t43]
      refine U _ _ (by rw[dL,bl,ck];rfl) ?_ ?_ ?_ ?_ ?_ ?_ ?_ ?_ ?_ ?_ ?_
      all_goals first | exact t7 | exact t1 | exact t2 | exact t5 | exact t6 | exact t8 | exact t9 | exact t41 | exact t42 | rfl | (rw[set_set];rfl)
   .rw[aa6 (by omega)] at A ar ch D
    have hd:(dz p q g.rules 0).length<=40:=by
     rw[mJ];have h1:=acA (dL p q) g.rules;omega
    have hj:=wU p q g.rules 0
    have hF:=mJ p q g.rules 0
    have ej:zm g (eV (c5 p q g.rules)) p q=⟨g.ax,(c5 p q g.rules).map λx=>g.av.getD x.toNat ⟨#[]⟩,(g.rules.filter (dL p q)).map (cU (eV (c5 p q g.rules))),eV (c5 p q g.rules) g.start⟩:=rfl
    rw[ej]
    clear ej
    generalize c5 p q g.rules=o at *
    generalize dz p q g.rules 0=kl at *
    have ga:o.length<=40:=by omega
    have hl:cJ u3=some (aM kl).length:=(A.own 1 rfl).len
    simp(disch:=omega)only[↓wr,seval,wq,t1,t2,t5,t6,t7,t8,t9,hl,aaU]
    refine aW.up kl.length (ZJ g p q Q O d B G u3 o kl mm C) ?_ ?_
    .refine⟨⟨.emp 1,[],by simp,?_,j⟩,t1,t2,t7,t8,t9,t7,rfl,rfl⟩
     exact(A.emp (k:=1) (sz:=3)).perm (uV [(.sl O 0 1 4,4,[[B,G,.emp 1,gi 0]]),(u3,1,aM kl),(G,1,l9 (o.map λx=>g.av.getD x.toNat ⟨#[]⟩)),(B,3,g.ax.map dg),(.emp 1,3,[]),(.sl Q 0 1 4,4,[[.emp 1,.emp 1,.emp 1,gi 0]])] 4 (by simp)).symm
    clear A j t1 t2 t5 t6 t7 t8 t9 t41 t42 t43
    rintro i k T H2 hk ⟨⟨u2,bs,b1,A,j⟩,t1,t2,t7,t8,t9,t91,t92,t93⟩
    simp(disch:=omega)only[↓wr,seval,wq,wy,t1,t2,t7,t8,t9,t91,t92,t93]
    apply ao.dec<;>intro hc
    .obtain⟨n3,e3,hn⟩:=(A.own 1 rfl).sl (by simp;omega)
     rw[aaU] at e3
     subst e3
     obtain⟨m,cS,N,X⟩:=hj i (by omega)
     have ek:=mE (show i<kl.length by omega)
     rw[Int.zero_add] at cS
     have hq:kl[i]'(by omega)=(m:Int):=by
      rw[aaQ (show i<kl.length by omega)] at cS;simpa using cS
     rw[hq] at ek
     have E:g.rules[m]?=some (g.rules[m]'X):=aaQ X
     have l:g.rules[m]'X∈g.rules:=aaW _
     have w:(g.rules.filter (dL p q)).take (i+1)=(g.rules.filter (dL p q)).take i++[g.rules[m]'X]:=by
      rw[aa9,<-N,E];rfl
     generalize g.rules[m]'X=r at E l w
     obtain⟨fu,dj,dm,fv,bd⟩:=hf.qz hg l
     simp(disch:=omega)only[↓wr,seval,wq,t1,t2,t7,t8,t9,t91,t92,t93,hn,ek,aaU,ak,aQ,encI,aaS,E]
     refine⟨by omega,by omega,?_⟩
     intro cV I
     have F:=A.new I 3 [aQ r]
     have Y:d≠cV:=by rintro rfl;rw[j] at I;simp at I
     try simp(disch:=omega)only[↓wr,seval,wq,t1,t2,t7,t8,t9,t91,t92,t93,set_set]
     refine CW (kt:=3) (et:=3) (z:=gi 0) (by kernel_rfl) (by kernel_rfl) (mG .i64 Tryz.underlying3) (id:=d) (c:=C) (m:=mm) (k:=r.left) (by simp(disch:=omega)only[↓wr,seval,wq,t9]) (by simp(disch:=omega)only[↓wr,seval,wq]) (by simp[View.set,Y,j]) ?_
     have b3:∀x,(getM mm x).getD (gi 0)=gi (eV o x):=λx=>by
      rw[D.get,eV];cases fj (lg o 0) x<;>rfl
     rw[b3]
     simp(disch:=omega)only[↓wr,seval,wq,t1,t2,t7,t8,t9,t91,t92,t93]
     refine az.Cy (HV r.right (by omega) _) ?_
     intro v H3 hv K
     have e:=bw.G4 (H:=H2.set cV (.arr 3 [aQ r])) F hv (by rw[set_set] at K;exact K)
     have c3:H3 d=.map (AX mm) C:=by
      rw[(K d (by simp[View.set,Y,j])).1];simp[View.set,Y,j]
     have cv:=hv.cells
     have kv:=hv.ey
     have lv:=hv.len
     have f16:=e.is 1 rfl (by simp)
     simp only[aQ,encI] at f16
     simp(disch:=omega)only[↓wr,seval,wq,t1,t2,t7,t8,t9,t91,t92,t93,f16,cv,kv]
     intro eH J
     have a:=e.new J 3 [[gi (eV o r.left),v,gi r.prec]]
     have e0:d≠eH:=by rintro rfl;rw[c3] at J;simp at J
     try simp(disch:=omega)only[↓wr,seval,wq,t1,t2,t7,t8,t9,t91,t92,t93,cv,kv,lv,set_set,aaU]
     generalize hL:((V.sl O 0 1 4,4,[[B,G,u2,gi 0]])::(V.sl n3 0 kl.length 1,1,aM kl) ::
       (G,1,l9 (o.map λx=>g.av.getD x.toNat ⟨#[]⟩))::(B,3,g.ax.map dg)::(u2,3,iW bs)::(V.sl Q 0 1 4,4,[[V.emp 1,V.emp 1,V.emp 1,gi 0]])::nZ bs:List er)=L at a
     refine aW.up r.right.length (ZT g Q O d cV eH (.sl n3 0 kl.length 1) v o kl mm C r L i) ?_ ?_
     .exact⟨by rw[set_set];exact a,by simp[View.set,e0,c3],t1,t2,t7,t8,t9,t91,t92,t93,rfl,rfl,rfl,rfl⟩
     clear F e a I J j c3 f16 hv K t1 t2 t7 t8 t9 t91 t92 t93
     rintro k k2 T H3 e4 ⟨a,j,t1,t2,t7,t8,t9,t91,t92,t93,t17,t113,t114,t115⟩
     have f17:=a.is 0 rfl (by simp)
     simp(disch:=omega)only[↓wr,seval,wq,wu,t1,t2,t7,t8,t9,t91,t92,t93,t17,t113,t114,t115]
     apply ao.dec<;>intro ht
     .have e5:r.right[k]?=some (r.right[k]'(by omega)):=aaQ (by omega)
      have e6:r.right[k]'(by omega)∈r.right:=aaW _
      have hz:(cU (eV o) r).right.length=r.right.length:=by simp[cU]
      have Z:(cU (eV o) r).right.take (k+1)=(cU (eV o) r).right.take k++[if r.right[k]'(by omega)<0 then -1-eV o (-1-r.right[k]'(by omega)) else r.right[k]'(by omega)]:=by
       rw[aa9];simp[cU,e5]
      have e7:=eM (show k<r.right.length by omega)
      generalize r.right[k]'(by omega)=s at e5 e6 Z e7
      obtain⟨⟨s1,s2⟩,s3⟩:=bd s e6
      have hI:=W8 o (-1-s)
      rw[e7] at a
      have hlen:(((cU (eV o) r).right.take k++s::r.right.drop (k+1)).map λx=>[gi x]).length=r.right.length:=by simp;omega
      obtain⟨nv,ev,e8⟩:=(a.own 1 rfl).sl (by rw[hlen];omega)
      rw[hlen] at ev
      subst ev
      have b4:k<((cU (eV o) r).right.take k++s::r.right.drop (k+1)).length:=by simp;omega
      have ab:=mE b4
      have hA:((cU (eV o) r).right.take k++s::r.right.drop (k+1))[k]'b4=s:=by
       rw[List.getElem_append_right (by simp;omega)]
       simp[show k-min k r.right.length=0 by omega,hz]
      rw[hA] at ab
      simp(disch:=omega)only[↓wr,seval,wq,t1,t2,t7,t8,t9,t91,t92,t93,t17,t113,t114,t115,e8,ab,aaU]
      refine⟨by omega,b4,?_⟩
      have e9:((cU (eV o) r).right.take k).length=k:=by rw[abS];omega
      have hB:nv≠d:=Gh a 1 rfl j
      apply ao.dec<;>intro ae
      .rw[aaT ae] at Z
       simp(disch:=omega)only[↓wr,seval,wq,t1,t2,t7,t8,t9,t91,t92,t93,t17,t113,t114,t115,f17]
       refine CW (kt:=3) (et:=3) (z:=gi 0) (by kernel_rfl) (by kernel_rfl) (mG .i64 Tryz.underlying3) (id:=d) (c:=C) (m:=mm) (k:=-1-s) (by simp(disch:=omega)only[↓wr,seval,wq,t9]) (by simp(disch:=omega)only[↓wr,seval,wq]) j ?_
       rw[b3]
       simp(disch:=omega)only[↓wr,seval,wq,t1,t2,t7,t8,t9,t91,t92,t93,t17,t113,t114,t115,f17,e8,ab,aaU]
       refine⟨by omega,b4,?_⟩
       have al:=((a.at 1 (by simp)).put (es':=((((cU (eV o) r).right.take k++s::r.right.drop (k+1)).map λx=>[gi x]).set k [gi (-1-eV o (-1-s))])) (by simp) (by rw[hlen])).perm (.swap _ _ _)
       refine aE e4 (by omega) ⟨?_,by simp only[View.set,aaR hB.symm];exact j,t1,t2,t7,t8,t9,t91,t92,t93,t17,t113,t114,rfl⟩
       rw[ints_set,GU e9] at al
       rw[Z,abU]
       rw[ints_set,GU e9]
       exact al
      .rw[aaR ae] at Z
       simp(disch:=omega)only[↓wr,seval,wq,t1,t2,t7,t8,t9,t91,t92,t93,t17,t113,t114,t115]
       refine aE e4 (by omega) ⟨?_,j,t1,t2,t7,t8,t9,t91,t92,t93,t17,t113,t114,rfl⟩
       rw[Z,abU]
       exact a
     .rw[aa6 (by simp[cU];omega),abg (by omega),abW] at a
      subst hL
      have f8:=a.is 3 rfl (by simp)
      have cv:=(a.own 1 rfl).cells
      have kv:=(a.own 1 rfl).ey
      have fb:(iW bs).length<=40:=by
       have h1:=abY List.length b1
       simp only[aaU,abS] at h1
       simp only[iW,aaU]
       omega
      simp(disch:=omega)only[↓wr,seval,wq,t1,t2,t7,t8,t9,t91,t92,t93,t17,t113,t114,t115,f8,f17,cv,kv]
      intro m hm
      have cA:d≠m:=by rintro rfl;rw[j] at hm;simp at hm
      try simp(disch:=omega)only[↓wr,seval,wq,t1,t2,t7,t8,t9,t91,t92,t93,t17,bG]
      have al:=(a.fresh (o:=.arr 3 [[gi (eV o r.left),v,gi r.prec]]) hm).at 7 (by simp)
      refine dx al (by simp[CB,kv]) (by unfold aF;simp at fb ⊢;omega) (by unfold aF;simp at fb ⊢;omega) ?_
      intro ff H4 an t
      have cu:=an.head.cells
      have ku:=an.head.ey
      have cN:=an.is 4 rfl (by simp)
      have fl:H4 d=.map (AX mm) C:=t.map (b:=d) al.head (by simp[View.set,cA,j])
      have hC:d≠O:=(Gh an 4 rfl fl).symm
      simp(disch:=omega)only[↓wr,seval,wq,t1,t2,t7,t8,t9,t91,t92,t93,t17,cN,cu,ku]
      have hD:=(an.at 4 (by simp)).put (es':=[[B,G,ff,gi 0]]) rfl rfl
      have hE:=((((hD.at 2 (by simp)).tail).at 3 (by simp)).tail)
      refine aE hk (by omega) ⟨⟨ff,bs++[(v,cU (eV o) r)],?_,?_,by simp only[View.set,aaR hC];exact fl⟩,t1,t2,t7,t8,t9,t91,t92,rfl⟩
      .rw[abh,b1,w,abh];rfl
      .refine hE.perm (.cons _ ?_)
       simp only[nZ,iW,abh,abl,acq]
       refine .trans ?_ (uV _ 3 (by simp)).symm
       refine .cons _ ?_
       exact(List.perm_append_singleton (v,1,aM (cU (eV o) r).right) ((.sl n3 0 kl.length 1,1,aM kl)::(G,1,l9 (o.map λx=>g.av.getD x.toNat ⟨#[]⟩))::(B,3,g.ax.map dg)::(.sl Q 0 1 4,4,[[.emp 1,.emp 1,.emp 1,gi 0]])::nZ bs)).symm
    .rw[aa6 (by omega)] at b1
     have f8:=A.is 0 rfl (by simp)
     have f2:=A.is 5 rfl (by simp)
     have fm:O≠Q:=A.Nq 0 5 rfl rfl (by omega)
     have c1:=(A.own 2 rfl).cells
     have k1:=(A.own 2 rfl).ey
     have c2:=(A.own 4 rfl).cells
     have k2:=(A.own 4 rfl).ey
     have b3:∀x,(getM mm x).getD (gi 0)=gi (eV o x):=λx=>by
      rw[D.get,eV];cases fj (lg o 0) x<;>rfl
     simp(disch:=omega)only[↓wr,seval,wq,t1,t2,t7,t8,t9,t91,t92,t93,ak]
     refine CW (kt:=3) (et:=3) (z:=gi 0) (by kernel_rfl) (by kernel_rfl) (mG .i64 Tryz.underlying3) (id:=d) (c:=C) (m:=mm) (k:=g.start) (by simp(disch:=omega)only[↓wr,seval,wq,t9]) (by simp(disch:=omega)only[↓wr,seval,wq]) j ?_
     rw[b3]
     simp(disch:=omega)only[↓wr,seval,wq,t1,t2,t7,t8,t9,t91,t92,t93,f8,f2,fm,fm.symm,c0,k0,c1,k1,c2,k2]
     intro h' hh
     have F:=A.put (es':=[[B,G,u2,gi (eV o g.start)]]) rfl rfl
     have e:=(F.at 5 (by simp)).put (es':=[[B,G,u2,gi (eV o g.start)]]) rfl rfl
     have hv:h'.view=(H2.set O (.arr 4 [[B,G,u2,gi (eV o g.start)]])).set Q (.arr 4 [[B,G,u2,gi (eV o g.start)]]):=hh
     rw[<-hv] at e
     exact O1 (x:=(⟨g.ax,o.map λx=>g.av.getD x.toNat ⟨#[]⟩,(g.rules.filter (dL p q)).map (cU (eV o)),eV o g.start⟩,kl,0)) (b:=bs) (e.own 4 rfl) (e.own 3 rfl) (e.own 5 rfl) (λy hy=>e.1 y (by
      refine abe _ (abe _ (abe _ (abe _ (abe _ (abe _ ?_)))))
      exact hy)) b1 (e.own 2 rfl)
 .rename_i hr
  intro h' hh
  rw[aaR (by simp[hr])]
  exact zP
end Gv
