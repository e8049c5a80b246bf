/-
  Part 9 of the proof: what the machine does and what the functions answer.
  Conditions: those that each lemma names.
-/
import Derived.ProofKit
import Derived.SizedLaws
import Derived.Test.YtiophifnkakjgaaGreatSGzC5H
set_option linter.unusedSimpArgs false
set_option linter.unusedVariables false
set_option maxRecDepth 100000
set_option maxHeartbeats 20000000
namespace Gv
open Go Go.Proofs
theorem DY {α:Type} {f:α->α} {x:α} (h:f x=x):∀n,iter f n x=x
 | 0=>rfl
 | n+1=>by rw[iter,h,DY h n]
theorem Ke {α:Type} (f:α->α):∀(a b:Nat) (x:α),iter f (a+b) x=iter f b (iter f a x)
 | 0,b,x=>by rw[abx];rfl
 | a+1,b,x=>by rw[Nat.add_right_comm,iter,iter,Ke f a b]
theorem FK (comes:bc->List Bool->List Int) (rules:List bc):∀(k:Nat) (is:List Bool),iZ comes rules k is=iter (eY comes rules) k is
 | 0,is=>rfl
 | k+1,is=>by
  simp only[iZ,iter]
  by_cases e:eY comes rules is=is
  .rw[aaL e,e,DY e]
  .rw[aaI e,FK comes rules k]
theorem Ca (comes:bc->List Bool->List Int) (rules:List bc) (is:List Bool) (h:is.length<=16):iZ comes rules 16 is=iter (eY comes rules) is.length is:=by
 have h1:=(xf comes rules is.length is (by omega)).1
 rw[FK] at h1 ⊢
 obtain⟨m,hm⟩:∃m,16=is.length+m:=⟨16-is.length,by omega⟩
 rw[hm,Ke,DY h1]
def oB (t:Bool) (r:bc) (is:List Bool):List Int:=if fq r.right is t=true then [r.left] else []
def vE (p:List Bool) (r:bc) (is:List Bool):List Int:=if (is.getD r.left.toNat false&&fq r.right p true)=true then iw r.right else []
theorem Nh (g:aj) (t:Bool):eY (oB t) g.rules=lP g t:=by
 funext is
 unfold eY lP
 congr 1
 funext is r
 unfold stepG oB fk
 split<;>rfl
theorem E7:∀(l:List Int) (is:List Bool),uv is (iw l)=l.foldl mark is
 | [],is=>rfl
 | s::l,is=>by
  have a:=E7 l
  unfold uv iw at a ⊢
  rw[abr,<-a]
  unfold mark
  by_cases h:s<0
  .rw[aaL h,List.filter_cons_of_pos (by simpa using h)];rfl
  .rw[aaI h,List.filter_cons_of_neg (by simpa using h)]
theorem M7 (g:aj) (p:List Bool):eY (vE p) g.rules=s0 g p:=by
 funext is
 unfold eY s0
 congr 1
 funext is r
 unfold stepG vE jc
 split
 .exact E7 _ _
 .rfl
theorem Ki {g:aj} (h:bt g=true) (t:Bool):iZ (oB t) g.rules 16 (cK g)=bj g t:=by
 have a:=bF h
 have b:(cK g).length=g.av.length:=by simp[cK]
 have:=a.av
 rw[Ca _ _ _ (by rw[b];exact a.av),Nh,b,bj,aaL h]
theorem TZ {g:aj} (h:bt g=true):iZ (vE (bj g true)) g.rules 16 ((cK g).set g.start.toNat true)=cR g:=by
 have b:=bF h
 have a:((cK g).set g.start.toNat true).length=g.av.length:=by simp[cK]
 rw[Ca _ _ _ (by rw[a];exact b.av),M7,a,cR,aaL h]
def wv:SF:=⟨ai [ag [cg 1 0,bU 2 1],ai [ag [aU 3 4 1,aV 4 89 [3],cX 5 4],aX 5 (ai [ag [bU 2 1],.ret])],ag [aU 6 4 1,aw 7 1 1,au 8 7,aM 9 8,((some 10),.op (.make 1 1 [(.val (.bool false))] (.tmp 9) (.tmp 9))),qh 11 173 [(.tmp 6),(.tmp 10),(.val (.fn 174 [] []))],af 2 11],.ret],
 [.tmp 2],12⟩
theorem Bb:aJ aa 109 [1]=some wv:=by kernel_rfl
def uh:SF:=⟨ai [ag [cg 1 0,bU 2 1],ai [ag [aU 3 4 1,aV 4 89 [3],cX 5 4],aX 5 (ai [ag [bU 2 1],.ret])],ag [aU 6 4 1,aw 7 1 1,au 8 7,aM 9 8,((some 10),.op (.make 1 1 [(.val (.bool false))] (.tmp 9) (.tmp 9))),qh 11 173 [(.tmp 6),(.tmp 10),(.val (.fn 226 [] []))],af 2 11],.ret],
 [.tmp 2],12⟩
theorem y9:aJ aa 161 [1]=some uh:=by kernel_rfl
def vi:SF:=⟨ai [ag [cg 1 0,bU 2 1],ai [ag [aU 5 4 1,aV 6 89 [5],cX 7 6],aX 7 (ai [ag [bU 2 1],.ret])],ag [aU 8 4 1,aV 9 161 [8],((some 3),.op (.alloc [(.emp 1)])),cz 1 3 9],ag [aw 10 1 1,au 11 10,aM 12 11,((some 13),.op (.make 1 1 [(.val (.bool false))] (.tmp 12) (.tmp 12))),af 4 13],ag [af 14 4,aw 15 3 1,au 16 15,aK 17 1 14 16,(none,.op (.store 1 (.tmp 17) (.val (.val (.bool true)))))],ag [aU 18 4 1,af 19 4,((some 20),.op (.tQ 227 [] [(.tmp 3)])),aV 21 173 [18,19,20],af 2 21],.ret],
 [.tmp 2],22⟩
theorem AN:aJ aa 162 [1]=some vi:=by kernel_rfl
structure aj.Small (g:aj):Prop where
 names:g.av.length+g.ax.length<=1000
theorem Co {a:Heap} {id n:Nat} {is:List Bool} (b:a.view id=.arr 1 (bT is)) (c:n=is.length):dF a (.sl id 0 n 1) (bX is):=by
 subst c;exact tJ b
theorem Lo (g:aj) (d:g.Ok) (i:g.Small):cd aa 109 [.agg (ak g)] (bX (bj g false)):=by
 refine cd.of (dR g) ?_
 refine az.of mixed Bb ?_
 have j:=d.av
 unfold aI at j
 simp(disch:=omega)only[↓wr,seval,wq,wv,ak,encS]
 refine ay.pure (pk g d i.names) ?_
 repeat' (first | ((first|apply ao.dec|apply ao.eq|apply ao.ne|apply ao.split)<;>intro)|(simp(disch:=omega)only[↓wr,seval,wq]))
 .rename_i hr
  have b:=bF hr
  have h1:=b.lg
  have k:=b.av
  try simp(disch:=omega)only[↓wr,seval,wq,ak,encS]
  refine⟨⟨by omega,by unfold aF;omega,by unfold aF;omega⟩,λh=>by omega,?_⟩
  intro _ n
  try simp(disch:=omega)only[↓wr,seval,wq,ak,encS]
  refine ay.cw ((GN g b.rules (oB false) 174 [] [] (by kernel_rfl) g.av.length k (λr a is e=>⟨JU r is (by rw[e];exact b.pX d a),?_,?_⟩) n (cK g) (by simp[cK]) _ (by simp[View.set,cK]) (λH' _=>trivial)).mono ?_)
  .unfold oB;split<;>simp
  .intro m hm
   unfold oB at hm
   split at hm
   .simp only[abF] at hm;subst hm
    exact⟨(d.aB r a).1,b.left r a⟩
   .simp at hm
  .rintro r H' ⟨rfl,c,_⟩
   simp(disch:=omega)only[↓wr,seval,wq]
   intro l f
   rw[Ki hr] at c
   exact Co (by rw[f];exact c) (jj hr _).symm
 .rename_i hr
  intro l f
  simp only[bj,hr]
  exact .emp _
theorem yS (g:aj) (d:g.Ok) (i:g.Small):cd aa 161 [.agg (ak g)] (bX (bj g true)):=by
 refine cd.of (dR g) ?_
 refine az.of mixed y9 ?_
 have j:=d.av
 unfold aI at j
 simp(disch:=omega)only[↓wr,seval,wq,uh,ak,encS]
 refine ay.pure (pk g d i.names) ?_
 repeat' (first | ((first|apply ao.dec|apply ao.eq|apply ao.ne|apply ao.split)<;>intro)|(simp(disch:=omega)only[↓wr,seval,wq]))
 .rename_i hr
  have b:=bF hr
  have h1:=b.lg
  have k:=b.av
  try simp(disch:=omega)only[↓wr,seval,wq,ak,encS]
  refine⟨⟨by omega,by unfold aF;omega,by unfold aF;omega⟩,λh=>by omega,?_⟩
  intro _ n
  try simp(disch:=omega)only[↓wr,seval,wq,ak,encS]
  refine ay.cw ((GN g b.rules (oB true) 226 [] [] (by kernel_rfl) g.av.length k (λr a is e=>⟨HH r is (by rw[e];exact b.pX d a),?_,?_⟩) n (cK g) (by simp[cK]) _ (by simp[View.set,cK]) (λH' _=>trivial)).mono ?_)
  .unfold oB;split<;>simp
  .intro m hm
   unfold oB at hm
   split at hm
   .simp only[abF] at hm;subst hm
    exact⟨(d.aB r a).1,b.left r a⟩
   .simp at hm
  .rintro r H' ⟨rfl,c,_⟩
   simp(disch:=omega)only[↓wr,seval,wq]
   intro l f
   rw[Ki hr] at c
   exact Co (by rw[f];exact c) (jj hr _).symm
 .rename_i hr
  intro l f
  simp only[bj,hr]
  exact .emp _
theorem sn {g:aj} (hr:bt g=true):(cR g).length=g.av.length:=by
 rw[cR,aaL hr,D7 (f:=s0 g (bj g true)) (λis=>DZ (λis x=>QZ _ is x) g.rules is)]
 simp[cK]
theorem Jj (g:aj) (f:g.Ok) (w:g.Small):cd aa 162 [.agg (ak g)] (bX (cR g)):=by
 refine cd.of (dR g) ?_
 refine az.of mixed AN ?_
 have A:=f.av
 unfold aI at A
 simp(disch:=omega)only[↓wr,seval,wq,vi,ak,encS]
 refine ay.pure (pk g f w.names) ?_
 repeat' (first | ((first|apply ao.dec|apply ao.eq|apply ao.ne|apply ao.split)<;>intro)|(simp(disch:=omega)only[↓wr,seval,wq]))
 .rename_i hr
  have d:=bF hr
  have h1:=d.lg
  have B:=d.av
  have D:=d.lE
  have E:=d.start
  have p:=jj hr true
  try simp(disch:=omega)only[↓wr,seval,wq,ak,encS]
  refine ay.pure (yS g f w).pure ?_
  simp(disch:=omega)only[↓wr,seval,wq,bX]
  intro q
  try simp(disch:=omega)only[↓wr,seval,wq,ak,encS,set_set]
  refine⟨⟨by omega,by unfold aF;omega,by unfold aF;omega⟩,λh=>by omega,?_⟩
  intro _ n t
  have e:=(cn t cx).1
  try simp(disch:=omega)only[↓wr,seval,wq,ak,encS,set_set]
  have i:=mK (is:=cK g) (show g.start.toNat<(cK g).length by simp[cK];omega)
  refine⟨by omega,by simp;omega,?_⟩
  refine ay.cw ((GN g d.rules (vE (bj g true)) 227 [.ptr q 0 0] [.aP [bX (bj g true)] 0] (by kernel_rfl) g.av.length B (λr c is j=>⟨Jp r is (bj g true) (by rw[j];exact d.pX f c) (by rw[j,p]),?_,?_⟩) n ((cK g).set g.start.toNat true) (by simp[cK]) _ ?_ (λH' u=>⟨cq.box (z:=1) ?_ ?_,trivial⟩)).mono ?_)
  .have F:=d.right r c
   unfold vE
   split
   .have:(iw r.right).length<=r.right.length:=by simp only[iw,aaM];exact aco _ _
    omega
   .simp
  .intro m hm
   unfold vE at hm
   split at hm
   .simp only[iw,aa4,abR,aaX] at hm
    obtain⟨s,⟨k,l⟩,rfl⟩:=hm
    have a:=d.neg c k l
    have b:=((f.aB r c).2.2.2 s k).1
    exact⟨⟨by omega,by omega⟩,by omega,a⟩
   .simp at hm
  .simp only[View.set,if_true]
   congr 1
   rw[<-iG]
   unfold cK at i ⊢
   rw[Bl,i]
   rfl
  .rw[u q (by simp[View.set,Ne.symm e]) (Ne.symm e)]
   simp[View.set,Ne.symm e]
   rfl
  .intro v x;simp at x;subst x;exact jR _
  .rintro r H' ⟨rfl,o,_⟩
   simp(disch:=omega)only[↓wr,seval,wq]
   intro C y
   rw[TZ hr] at o
   exact Co (by rw[y];exact o) (by rw[sn hr])
 .rename_i hr
  intro C y
  simp only[cR,hr]
  exact .emp _
def dE (p q:List Bool) (r:bc):Bool:=q.getD r.left.toNat false&&fq r.right p true
def dA (p q:List Bool):List bc->Int->List Int
 | [],_=>[]
 | r::l,i=>if dE p q r=true then i::dA p q l (i+1) else dA p q l (i+1)
def mA (acc:List Int) (r:bc):List Int:=if r.left∈acc then acc else acc++[r.left]
def cY (p q:List Bool) (l:List bc):List Int:=(l.filter (dE p q)).foldl mA []
def dx (o:List Int) (x:Int):Int:=dT (λy=>y==x) o 0
def cQ (f:Int->Int) (r:bc):bc:=⟨f r.left,r.right.map λs=>if s<0 then -1-f (-1-s) else s,r.prec⟩
def zY (g:aj) (f:Int->Int) (p q:List Bool):aj:=
 ⟨g.ax,(cY p q g.rules).map λx=>g.av.getD x.toNat ⟨#[]⟩,(g.rules.filter (dE p q)).map (cQ f),f g.start⟩
def u7:aj:=⟨[],[],[],0⟩
instance:DecidableEq Term:=λa b=>decidable_of_iff (a.name=b.name/\a.level=b.level/\a.assoc=b.assoc) (by cases a;cases b;simp)
instance:DecidableEq bc:=λa b=>decidable_of_iff (a.left=b.left/\a.prec=b.prec/\a.right=b.right) (by cases a;cases b;simp[and_comm])
instance:DecidableEq aj:=λa b=>decidable_of_iff (a.ax=b.ax/\a.av=b.av/\a.rules=b.rules/\a.start=b.start) (by cases a;cases b;simp)
def iO (g:aj):aj × List Int × Int:=
 if bt g=true then
  if (bj g true).getD g.start.toNat false=true then (zY g (dx (cY (bj g true) (cR g) g.rules)) (bj g true) (cR g),dA (bj g true) (cR g) g.rules 0,0)
  else (u7,[],9)
 else (u7,[],1)
theorem Kn {g:aj} (hr:bt g=true):iO g=if (bj g true).getD g.start.toNat false=true then (zY g (dx (cY (bj g true) (cR g) g.rules)) (bj g true) (cR g),dA (bj g true) (cR g) g.rules 0,0) else (u7,[],9):=by
 rw[iO,aaL hr]
theorem mH (p q:List Bool):∀(a b:List bc) (i:Int),dA p q (a++b) i=dA p q a i++dA p q b (i+a.length)
 | [],b,i=>by simp[dA]
 | r::a,b,i=>by
  simp only[abl,dA,mH p q a b (i+1),aaS]
  have:i+1+(a.length:Int)=i+((a.length+1:Nat):Int):=by push_cast;omega
  rw[this]
  split<;>simp
theorem mo (p q:List Bool):∀(a:List bc) (i:Int),(dA p q a i).length=(a.filter (dE p q)).length
 | [],i=>rfl
 | r::a,i=>by
  simp only[dA,List.filter_cons]
  split<;>simp[mo p q a]
theorem wT (p q:List Bool):∀(a:List bc) (i:Int) (k:Nat),k<(dA p q a i).length->∃m:Nat,(dA p q a i)[k]?=some (i+m)/\a[m]?=(a.filter (dE p q))[k]?/\m<a.length
 | [],i,k,h=>by simp[dA] at h
 | r::a,i,k,h=>by
  simp only[dA,List.filter_cons] at h ⊢
  by_cases hr:dE p q r=true
  .rw[aaL hr] at h ⊢
   rw[aaL hr]
   cases k with
   | zero=>exact⟨0,by simp,by simp,by simp⟩
   | succ k =>
    obtain⟨m,h1,b,c⟩:=wT p q a (i+1) k (by simpa using h)
    exact⟨m+1,by rw[abv,h1];congr 1;push_cast;omega,by simpa using b,by simpa using c⟩
  .rw[aaI hr] at h ⊢
   rw[aaI hr]
   obtain⟨m,h1,b,c⟩:=wT p q a (i+1) k h
   exact⟨m+1,by rw[h1];congr 1;push_cast;omega,by simpa using b,by simpa using c⟩
theorem wb (p q:List Bool) (l:List bc) (r:bc):cY p q (l++[r])=if dE p q r=true then mA (cY p q l) r else cY p q l:=by
 unfold cY
 rw[acI]
 by_cases h:dE p q r=true
 .rw[aaL h,List.filter_cons_of_pos h,ace];rfl
 .rw[aaI h,List.filter_cons_of_neg h];simp
theorem Qg {acc:List Int} {r:bc} (h:acc.Nodup):(mA acc r).Nodup:=by
 unfold mA
 split
 .exact h
 .rename_i d
  rw[ab2]
  exact⟨h,by simp,λa f b c e=>d (by simp at c;rw[<-c,<-e];exact f)⟩
theorem vI {o:List Int} {x:Int} : dx o x<0↔x ∉ o:=by
 have:=zf (λy=>y==x) o 0 (by omega)
 unfold dx
 rw[<-Int.not_le]
 constructor
 .intro h a
  have e:(o.any λy=>y==x)=true:=abU.2 ⟨x,a,by simp⟩
  rw[e] at this;exact h (by simpa using this)
 .intro h a
  have e:(o.any λy=>y==x)=true:=by rw[<-this];simpa using a
  obtain⟨y,b,e⟩:=abU.1 e
  simp at e;subst e;exact h b
theorem Dm {α:Type} (p:α->Bool):∀(a b:List α) (i:Int),0<=i->dT p (a++b) i=if 0<=dT p a i then dT p a i else dT p b (i+a.length)
 | [],b,i,_=>by simp[dT]
 | x::a,b,i,h=>by
  by_cases hp:p x=true
  .simp[dT,hp,h]
  .simp only[abl,dT,aaI hp]
   rw[Dm p a b (i+1) (by omega)]
   have:i+1+(a.length:Int)=i+(((x::a).length:Nat):Int):=by simp;omega
   rw[this]
theorem Tn {o:List Int} {x y:Int} (c:x ∉ o):dx (o++[x]) y=if y=x then (o.length:Int) else dx o y:=by
 unfold dx
 rw[Dm _ _ _ _ (by omega)]
 by_cases e:y=x
 .subst e
  rw[aaI (by have:=vI.2 c;unfold dx at this;omega),aaL rfl]
  simp[dT]
 .rw[aaI e]
  split
  .rfl
  .rename_i h
   have:dx o y<0:=by unfold dx;omega
   have b:dT (λz=>z==y) [x] (0+(o.length:Int)) = -1:=by simp[dT,Ne.symm e]
   rw[b]
   have:∀(l:List Int) (i:Int),¬ 0<=dT (λz=>z==y) l i->0<=i->dT (λz=>z==y) l i = -1:=by
    intro l
    induction l with
    | nil=>intro i _ _;rfl
    | cons z l d =>
     intro i h1 b
     simp only[dT] at h1 ⊢
     split
     .rename_i a;rw[aaL a] at h1;omega
     .rename_i a;rw[aaI a] at h1;exact d _ h1 (by omega)
   exact(this o 0 h (by omega)).symm
theorem OV {o:List Int} {x:Int} (h:x∈o):0<=dx o x/\dx o x<o.length:=by
 have a:¬ dx o x<0:=λe=>vI.1 e h
 refine⟨by omega,?_⟩
 unfold dx
 have:∀(l:List Int) (i:Int),dT (λz=>z==x) l i<i+l.length∨dT (λz=>z==x) l i = -1:=by
  intro l
  induction l with
  | nil=>intro i;right;rfl
  | cons z l b =>
   intro i
   simp only[dT]
   split
   .left;simp;omega
   .rcases b (i+1) with h | h
    .left;simp at h ⊢;omega
    .right;exact h
 rcases this o 0 with h1 | h1
 .simpa using h1
 .unfold dx at a;omega
theorem Xh (o:List Int) (x:Int) : -1<=dx o x/\dx o x<=o.length:=by
 by_cases h:x∈o
 .have:=OV h;omega
 .have h1:=vI.2 h
  have a:∀(l:List Int) (i:Int),0<=i->-1<=dT (λz=>z==x) l i:=by
   intro l
   induction l with
   | nil=>intro i _;simp[dT]
   | cons z l b =>
    intro i hi
    simp only[dT]
    split
    .omega
    .exact b _ (by omega)
  have:=a o 0 (by omega)
  unfold dx at h1 ⊢
  omega
def lu:List Int->Int->List (Int × Int)
 | [],_=>[]
 | x::l,i=>(x,i)::lu l (i+1)
theorem wQ (x:Int):∀(o:List Int) (i:Int),fh (lu o i) x=if x∈o then some (dT (λy=>y==x) o i) else none
 | [],i=>by simp[lu,fh]
 | y::o,i=>by
  have a:=wQ x o (i+1)
  unfold fh at a ⊢
  simp only[lu,acV,dT]
  by_cases e:x=y
  .subst e;simp
  .have b:¬ ((y==x)=true):=by simp[Ne.symm e]
   rw[show (x==y)=false by simp[e],aaI b]
   simp only
   rw[a]
   simp[e]
theorem Ih {x v:Int}:∀ {o:List Int} {i:Int},x ∉ o->lS x v (lu o i)=lu o i++[(x,v)]
 | [],i,_=>rfl
 | y::o,i,h=>by
  simp only[aa1,not_or] at h
  simp only[lu,lS,show (x==y)=false by simp[h.1],aa9,if_false,Ih h.2,abl]
theorem Ez {x:Int}:∀ {o:List Int} {i:Int},lu (o++[x]) i=lu o i++[(x,i+o.length)]
 | [],i=>by simp[lu]
 | y::o,i=>by
  simp only[abl,lu,Ez (o:=o),aaS]
  congr 4
  push_cast;omega
def eU (o:List Int) (x:Int):Int:=(fh (lu o 0) x).getD 0
theorem CR {o:List Int} {x:Int} (h:x∈o):eU o x=dx o x:=by
 simp[eU,wQ,h,dx]
theorem Xw (o:List Int) (x:Int):0<=eU o x/\eU o x<=o.length:=by
 by_cases h:x∈o
 .rw[CR h];have:=OV h;omega
 .simp[eU,wQ,h]
theorem R6 {g:aj} {p q:List Bool} (a:g.start∈cY p q g.rules) (b:∀r∈g.rules.filter (dE p q),r.left∈cY p q g.rules/\∀s∈r.right,s<0->-1-s∈cY p q g.rules):
  zY g (eU (cY p q g.rules)) p q=zY g (dx (cY p q g.rules)) p q:=by
 unfold zY
 congr 1
 .apply abK
  intro r hr
  obtain⟨h1,c⟩:=b r hr
  unfold cQ
  congr 1
  .exact CR h1
  .apply abK
   intro s d
   split
   .rename_i h;rw[CR (c s d h)]
   .rfl
 .exact CR a
theorem yU:∀(l:List bc) (acc:List Int) (x:Int),x∈l.foldl mA acc↔x∈acc∨∃r∈l,r.left=x
 | [],acc,x=>by simp
 | r::l,acc,x=>by
  rw[abr,yU l]
  have:x∈mA acc r↔x∈acc∨r.left=x:=by
   unfold mA
   split
   .rename_i h
    constructor
    .exact .inl
    .rintro (a | rfl)
     .exact a
     .exact h
   .simp[eq_comm]
  rw[this]
  simp only[aa1,exists_eq_or_imp]
  constructor
  .rintro ((h | h) | h)
   .exact .inl h
   .exact .inr (.inl h)
   .exact .inr (.inr h)
  .rintro (h | h | h)
   .exact .inl (.inl h)
   .exact .inl (.inr h)
   .exact .inr h
theorem LG {p q:List Bool} {l:List bc} {x:Int} : x∈cY p q l↔∃r∈l,dE p q r=true/\r.left=x:=by
 unfold cY
 rw[yU]
 simp[and_assoc]
def nR:SC:=
 ai [ai [ag [af 42 9,af 43 8,aM 44 43,aS 45 .lss 42 44],bQ 45 (.exit 0)],.block 1 (ag [af 48 8,af 49 9,aK 50 1 48 49,(none,.op (.store 1 (.tmp 50) (.val (.val (.int .i64 (-1))))))]),ag [af 46 9,aH 47 .add 46 1,af 9 47]]
def oo:SC:=
 ai [ai [ag [af 51 11,aw 52 2 1,au 53 52,aM 54 53,aS 55 .lss 51 54],bQ 55 (.exit 2)],.block 3 (ai [ag [aw 58 2 1,au 59 58,af 60 11,aK 61 3 59 60,aU 62 3 61,((some 12),.op (.alloc [(.val (.int .i64 0)),(.emp 1),(.val (.int .i64 0))])),cz 3 12 62],ai [.region false [⟨none,[af 63 6,aw 64 0 12,au 65 64,aK 66 1 63 65,au 67 66,cX 68 67,af 69 68]⟩,⟨(some (69,false)),[aw 70 1 12,au 71 70,af 72 5,qh 73 95 [(.tmp 71),(.tmp 72),(.val (.val (.bool true)))],cX 74 73]⟩,⟨none,[cG 75 69 74]⟩],aX 75 (.exit 3)],ag [af 76 10,af 77 11,((some 78),.op (.bO 1 1 [(.val (.int .i64 0))] [(0,(.tmp 77))])),fP 79 1 8 76 78,af 10 79],ag [af 80 8,aw 81 0 12,au 82 81,aK 83 1 80 82,au 84 83,aH 85 .lss 84 0],aX 85 (ai [ag [af 86 8,aw 87 0 12,au 88 87,aw 89 1 7,au 90 89,aM 91 90,aK 92 1 86 88,cz 1 92 91],.region false [⟨none,[aw 93 1 7,au 94 93,aw 95 1 1,au 96 95,aw 97 0 12,au 98 97,aK 99 1 96 98,au 100 99,((some 101),.op (.bO 1 1 [(.val (.string ⟨#[]⟩))] [(0,(.tmp 100))])),fP 102 1 16 94 101,aw 103 1 7,cz 1 103 102]⟩]])]),ag [af 56 11,aH 57 .add 56 1,af 11 57]]
def oz:SC:=
 ai [ai [ag [af 126 16,aw 127 1 14,au 128 127,aM 129 128,aS 130 .lss 126 129],bQ 130 (.exit 6)],.block 7 (ai [ag [aw 133 1 14,au 134 133,af 135 16,aK 136 1 134 135,au 137 136,af 17 137],ai [ag [af 138 17,aH 139 .lss 138 0],aX 139 (ag [af 140 8,af 141 17,((some 142),.op (.arith .sub (.val (.val (.int .i64 (-1)))) (.tmp 141))),aK 143 1 140 142,au 144 143,((some 145),.op (.arith .sub (.val (.val (.int .i64 (-1)))) (.tmp 144))),af 17 145])],ag [aw 146 1 15,au 147 146,af 148 17,((some 149),.op (.bO 1 1 [(.val (.int .i64 0))] [(0,(.tmp 148))])),fP 150 1 8 147 149,aw 151 1 15,cz 1 151 150]]),ag [af 131 16,aH 132 .add 131 1,af 16 132]]
def om:SC:=
 ai [ai [ag [af 104 13,af 105 10,aM 106 105,aS 107 .lss 104 106],bQ 107 (.exit 4)],.block 5 (ai [ag [aw 110 2 1,au 111 110,af 112 10,af 113 13,aK 114 1 112 113,au 115 114,aK 116 3 111 115,aU 117 3 116,((some 14),.op (.alloc [(.val (.int .i64 0)),(.emp 1),(.val (.int .i64 0))])),cz 3 14 117],ag [af 118 8,aw 119 0 14,au 120 119,aK 121 1 118 120,au 122 121,aw 123 2 14,au 124 123,((some 125),.op (.build [(.val (.int .i64 0)),(.emp 1),(.val (.int .i64 0))] [(0,1,(.tmp 122)),(2,1,(.tmp 124))])),((some 15),.op (.alloc [(.val (.int .i64 0)),(.emp 1),(.val (.int .i64 0))])),cz 3 15 125],ai [ag [aT 16 0],bS 6 oz],ag [aw 152 2 7,au 153 152,aU 154 3 15,((some 155),.op (.bO 1 3 [(.val (.int .i64 0)),(.emp 1),(.val (.int .i64 0))] [(0,(.tmp 154))])),fP 156 3 40 153 155,aw 157 2 7,cz 1 157 156]]),ag [af 108 13,aH 109 .add 108 1,af 13 109]]
def qv:SF:=⟨ai [ag [cg 1 0,((some 2),.op (.alloc [(.emp 1),(.emp 1),(.emp 1),(.val (.int .i64 0))])),bU 3 1,aT 4 0],ai [ag [aU 18 4 1,aV 19 50 [18],cX 20 19],aX 20 (ai [ag [((some 21),.op (.build [(.emp 1),(.emp 1),(.emp 1),(.val (.int .i64 0))] [])),cz 4 2 21,bU 3 1,aT 4 1],.ret])],.region true [⟨none,[aU 22 4 1,aV 23 93 [22],aU 24 4 1,aV 25 94 [24],af 5 23,af 6 25]⟩],ai [ag [af 26 5,aw 27 3 1,au 28 27,aK 29 1 26 28,au 30 29,cX 31 30],aX 31 (ai [ag [((some 32),.op (.build [(.emp 1),(.emp 1),(.emp 1),(.val (.int .i64 0))] [])),cz 4 2 32,bU 3 1,aT 4 9],.ret])],ag [bU 33 2,aw 34 0 1,au 35 34,fP 36 3 32 33 35,((some 37),.op (.build [(.emp 1),(.emp 1),(.emp 1),(.val (.int .i64 0))] [(0,1,(.tmp 36))])),((some 7),.op (.alloc [(.emp 1),(.emp 1),(.emp 1),(.val (.int .i64 0))])),cz 4 7 37],ag [aw 38 1 1,au 39 38,aM 40 39,((some 41),.op (.make 1 8 [(.val (.int .i64 0))] (.tmp 40) (.tmp 40))),af 8 41],ai [ag [aT 9 0],bS 0 nR],ag [bU 10 1],ai [ag [aT 11 0],bS 2 oo],ai [ag [aT 13 0],bS 4 om],ag [af 158 8,aw 159 3 1,au 160 159,aK 161 1 158 160,au 162 161,aw 163 3 7,cz 1 163 162],ag [aU 164 4 7,af 165 10,cz 4 2 164,af 3 165,aT 4 0],.ret],
 [.cell 2 (some 4),.tmp 3,.tmp 4],166⟩
theorem vY:aJ aa 47 [1]=some qv:=by kernel_rfl
abbrev aR (l:List Int):List (List V):=l.map λx=>[gi x]
abbrev l8 (l:List ByteArray):List (List V):=l.map λs=>[gs s]
theorem mN {l:List Int} {i:Nat} (h:i<l.length):(aR l).getD i []=[gi l[i]]:=by simp[h]
theorem ints_set (l:List Int) (i:Nat) (x:Int):(aR l).set i [gi x]=aR (l.set i x):=by simp
theorem Xx {l:List Int} (h:0<l.length):aR l≠[]:=by intro e;rw[List.map_eq_nil_iff] at e;rw[e] at h;simp at h
theorem Ar {α:Type} {x:α}:∀ {l:List α} {i:Nat},i<l.length->(l.set i x).take (i+1)=l.take i++[x]
 | y::l,0,_=>by simp
 | y::l,i+1,h=>by
  have:=Ar (x:=x) (l:=l) (i:=i) (by simpa using h)
  simp only[List.set_cons_succ,acP,this,abl]
def gj (n:Nat) (o:List Int):List Int:=(List.range n).map λ(x:Nat)=>dx o (x:Int)
theorem W4 (n:Nat):gj n []=List.replicate n (-1):=by
 apply abB
 .simp[gj]
 .intro i h1 a
  simp[gj,dx,dT]
theorem Cz {n:Nat} {o:List Int} {x:Int} (a:0<=x) (h1:x<n):(gj n o)[x.toNat]'(by simp[gj];omega)=dx o x:=by
 simp[gj,show ((x.toNat:Nat):Int)=x by omega]
theorem W6 {n:Nat} {o:List Int} {x:Int} (b:0<=x) (h1:x<n) (a:x ∉ o):(gj n o).set x.toNat o.length=gj n (o++[x]):=by
 apply abB
 .simp[gj]
 .intro i c d
  rw[List.getElem_set]
  simp only[gj,acD,acS]
  rw[Tn a]
  by_cases e:x.toNat=i
  .rw[aaL e,aaL (by omega)]
  .rw[aaI e,aaI (by omega)]
abbrev CV:=List (V × bc)
def iR (b:CV):List (List V):=b.map λx=>[gi x.2.left,x.1,gi x.2.prec]
def nX (b:CV):List ew:=b.map λx=>(x.1,1,aR x.2.right)
theorem Sc {h:Heap} {u:V} {b:CV} (c:aQ h.view u 3 (iR b)) (f:∀x∈nX b,aQ h.view x.1 x.2.1 x.2.2):dF h u (.aZ ((b.map (·.2)).map aO)):=by
 refine dF.own c (by simp[iR]) (λi hi=>?_) (λi j hi a=>?_)
 all_goals
  simp only[iR,aaM] at hi
  have e:(iR b).getD i []=[gi b[i].2.left,b[i].1,gi b[i].2.prec]:=by simp[iR,hi]
  have d:((b.map (·.2)).map aO).getD i []=aO b[i].2:=by simp[hi]
 .rw[e,d];rfl
 .rw[e,d]
  rw[d] at a
  have hm:b[i]∈b:=aaP _
  have c:=f (b[i].1,1,aR b[i].2.right) (aa4.2 ⟨_,hm,rfl⟩)
  match j,a with
  | 0,_=>exact .val _
  | 1,_=>exact jx c
  | 2,_=>exact .val _
  | n+3,a=>exact absurd a (by simp only[aO,aaS,abe];omega)
theorem UC {h:Heap} {u:V} {l:List ByteArray} (a:aQ h.view u 1 (l8 l)):dF h u (encS l):=dF.Ky (f:=Value.string) a
theorem Q6 {h:Heap} {u:V} {l:List Term} (b:aQ h.view u 3 (l.map dd)):dF h u (fw l):=by
 refine dF.own b rfl (λ_ _=>rfl) (λi j hi a=>?_)
 simp only[aaM] at hi
 have c:(l.map dd).getD i []=dd l[i]:=by simp[hi]
 rw[c] at a ⊢
 match j,a with
 | 0,_=>exact .val _
 | 1,_=>exact .val _
 | 2,_=>exact .val _
 | n+3,a=>exact absurd a (by simp only[dd,aaS,abe];omega)
def Af (x:aj × List Int × Int):V:=.bb [.agg (ak x.1),encI x.2.1,gi x.2.2]
theorem zD {h:Heap} {e:Int} {b k2 c d:Nat} : dF h (.bb [.agg [.emp b,.emp k2,.emp c,gi 0],.emp d,gi e]) (Af (u7,[],e)):=by
 refine .bb _ _ rfl λi hi=>?_
 match i,hi with
 | 0,_ =>
  refine .agg _ _ rfl λj a=>?_
  match j,a with
  | 0,_=>exact .emp _
  | 1,_=>exact .emp _
  | 2,_=>exact .emp _
  | 3,_=>exact .val _
  | n+4,a=>exact absurd a (by simp only[aaS,abe];omega)
 | 1,_=>exact .emp _
 | 2,_=>exact .val _
 | n+3,hi=>exact absurd hi (by simp only[aaS,abe];omega)
def YV (g:aj) (p q:List Bool) (b2 b7 b8:Nat) (u0:V) (i:Nat) (T:Env) (H:View):Prop:=
 (∃u1 u3:V,T 10=u3/\(∀x∈cY p q (g.rules.take i),0<=x/\x<g.av.length)/\(cY p q (g.rules.take i)).Nodup/\(cY p q (g.rules.take i)).length<=i /\
  bw H [(.sl b7 0 1 4,4,[[u0,u1,.emp 1,gi 0]]),(.sl b8 0 g.av.length 1,1,aR (gj g.av.length (cY p q (g.rules.take i)))),(u3,1,aR (dA p q (g.rules.take i) 0)),
   (u1,1,l8 ((cY p q (g.rules.take i)).map λx=>g.av.getD x.toNat ⟨#[]⟩)),(u0,3,g.ax.map dd),(.sl b2 0 1 4,4,[[.emp 1,.emp 1,.emp 1,gi 0]])]) /\
 T 1=.aP (ak g) 0/\T 2=.ptr b2 0 0/\T 5=bX p/\T 6=bX q/\T 7=.ptr b7 0 0/\T 8=.sl b8 0 g.av.length 1/\T 11=gi i
def aad (g:aj) (p q:List Bool) (b2 b7 b8:Nat) (u0 u1 u3:V) (o kl:List Int) (i:Nat) (T:Env) (H:View):Prop:=
 (∃(u2:V) (bs:CV),bs.map (·.2)=((g.rules.filter (dE p q)).take i).map (cQ (dx o)) /\
  bw H ((.sl b7 0 1 4,4,[[u0,u1,u2,gi 0]])::(.sl b8 0 g.av.length 1,1,aR (gj g.av.length o))::(u3,1,aR kl) ::
   (u1,1,l8 (o.map λx=>g.av.getD x.toNat ⟨#[]⟩))::(u0,3,g.ax.map dd)::(u2,3,iR bs)::(.sl b2 0 1 4,4,[[.emp 1,.emp 1,.emp 1,gi 0]])::nX bs)) /\
 T 1=.aP (ak g) 0/\T 2=.ptr b2 0 0/\T 7=.ptr b7 0 0/\T 8=.sl b8 0 g.av.length 1/\T 10=u3/\T 13=gi i
def aah (g:aj) (b2 b7 b8 b14 b15:Nat) (u3:V) (o:List Int) (r:bc) (L:List ew) (i k:Nat) (T:Env) (H:View):Prop:=
 (∃v:V,bw H ((.sl b15 0 1 3,3,[[gi (dx o r.left),v,gi r.prec]])::(v,1,aR ((cQ (dx o) r).right.take k))::(.sl b14 0 1 3,3,[aO r])::L)) /\
 T 1=.aP (ak g) 0/\T 2=.ptr b2 0 0/\T 7=.ptr b7 0 0/\T 8=.sl b8 0 g.av.length 1/\T 10=u3/\T 13=gi i/\T 14=.ptr b14 0 0/\T 15=.ptr b15 0 0/\T 16=gi k
theorem OH {h:Heap} {c d e f:V} {x:aj × List Int × Int} {b:CV} (g:aQ h.view c 3 (x.1.ax.map dd)) (h1:aQ h.view d 1 (l8 x.1.av)) (k:aQ h.view e 3 (iR b)) (l:∀y∈nX b,aQ h.view y.1 y.2.1 y.2.2)
  (hr:b.map (·.2)=x.1.rules) (m:aQ h.view f 1 (aR x.2.1)):dF h (.bb [.agg [c,d,e,gi x.1.start],f,gi x.2.2]) (Af x):=by
 refine .bb _ _ rfl λi hi=>?_
 match i,hi with
 | 0,_ =>
  refine .agg _ _ rfl λj a=>?_
  match j,a with
  | 0,_=>exact Q6 g
  | 1,_=>exact UC h1
  | 2,_=>have:=Sc k l;rw[hr] at this;exact this
  | 3,_=>exact .val _
  | n+4,a=>exact absurd a (by simp only[aaS,abe];omega)
 | 1,_=>exact jx m
 | 2,_=>exact .val _
 | n+3,hi=>exact absurd hi (by simp only[aaS,abe];omega)
theorem ML (g:aj) (hg:g.Ok):cd aa 47 [.agg (ak g)] (Af (iO g)):=by
 refine cd.of (dR g) ?_
 refine az.of mixed vY ?_
 simp(disch:=omega)only[↓wr,seval,wq,qv,ak,encS]
 intro M
 try simp(disch:=omega)only[↓wr,seval,wq,ak,encS]
 refine ay.pure (jQ g hg) ?_
 repeat' (first | ((first|apply ao.dec|apply ao.eq|apply ao.ne|apply ao.split)<;>intro)|(simp(disch:=omega)only[↓wr,seval,wq,set_set]))
 .rename_i hr
  refine ay.pure (xb g hg) ?_
  simp(disch:=omega)only[↓wr,seval,wq]
  refine ay.pure (GI g hg).pure ?_
  have hf:=bF hr
  have h3:=hf.lE
  have h4:=hf.start
  have cN:=jj hr true
  have e6:=sn hr
  have c:=Kn hr
  generalize bj g true=p at cN c
  generalize cR g=q at e6 c
  have b4:p[g.start.toNat]?=some (p[g.start.toNat]'(by omega)):=aaH (by omega)
  have cS:p.getD g.start.toNat false=p[g.start.toNat]'(by omega):=by simp[b4]
  generalize p[g.start.toNat]'(by omega)=s at b4 cS
  rw[cS] at c
  simp(disch:=omega)only[↓wr,seval,wq,bX,aaJ,b4]
  cases s with
  | false =>
   rw[aaI (by simp)] at c
   simp(disch:=omega)only[↓wr,seval,wq,set_set]
   rintro h' hh
   rw[c]
   exact zD
  | true =>
   rw[aaL rfl] at c
   simp(disch:=omega)only[↓wr,seval,wq]
   have hN:=hf.av
   have hq:=hf.lg
   have hT:=hf.ax
   have hR:=hf.rules
   refine dC (L:=[(.sl M 0 1 4,4,[[.emp 1,.emp 1,.emp 1,gi 0]])]) (bw.emp (bw.nil.new rfl 4 _)) (by simp[dd,aL]) (by unfold aF;simp;omega) (by unfold aF;simp;omega) ?_
   intro C H1 b5 _
   have c0:=b5.head.cells
   have k0:=b5.head.dU
   simp(disch:=omega)only[↓wr,seval,wq,c0,k0]
   intro P e7
   have e8:=b5.new e7 4 [[C,.emp 1,.emp 1,gi 0]]
   try simp(disch:=omega)only[↓wr,seval,wq,ak,encS,c0,k0,set_set]
   refine⟨⟨by omega,by unfold aF;omega,by unfold aF;omega⟩,λh=>by omega,?_⟩
   intro _ B cV
   have c3:=(cn cV cx).1
   have j:=e8.new (n:=B) (by simp only[View.set,aaI c3];exact(cn (cn cV cx).2 cx).2) 1 (aR (List.replicate g.av.length 0))
   try simp(disch:=omega)only[↓wr,seval,wq,ak,encS,c0,k0,set_set]
   refine aW.up g.av.length (λi T H=>(∃l:List Int,l.length=g.av.length/\l.take i=List.replicate i (-1) /\
    bw H [(.sl B 0 g.av.length 1,1,aR l),(.sl P 0 1 4,4,[[C,.emp 1,.emp 1,gi 0]]),(C,3,g.ax.map dd),(.sl M 0 1 4,4,[[.emp 1,.emp 1,.emp 1,gi 0]])]) /\
    T 1=.aP (ak g) 0/\T 2=.ptr M 0 0/\T 5=bX p/\T 6=bX q/\T 7=.ptr P 0 0/\T 8=.sl B 0 g.av.length 1/\T 9=gi i) ?_ ?_
   .exact⟨⟨List.replicate g.av.length 0,by simp,by simp,by simpa [set_set] using j⟩,rfl,rfl,rfl,rfl,rfl,rfl,rfl⟩
   rintro i k T H2 hk ⟨⟨l,G,t,f⟩,t1,t2,t5,t6,t7,t8,t9⟩
   simp(disch:=omega)only[↓wr,seval,wq,nR,t8,t9]
   apply ao.dec<;>intro hc
   .have e9:aR l≠[]:=by intro e;rw[List.map_eq_nil_iff] at e;rw[e] at G;simp at G;omega
    have hb:=(f.obj e9).1
    have u:=mN (show i<l.length by omega)
    simp(disch:=omega)only[↓wr,seval,wq,t2,t8,t9,hb,u]
    refine⟨by omega,by omega,?_⟩
    refine aE hk (by omega) ⟨⟨l.set i (-1),by simp[G],?_,?_⟩,t1,t2,t5,t6,t7,t8,rfl⟩
    .rw[Ar (by omega),t,List.replicate_succ']
    .rw[ints_set]
     exact f.put (by simp) (by simp[G])
   .rw[aaY (by omega)] at t
    rw[t] at f
    have ei:i=g.av.length:=by omega
    subst ei
    simp(disch:=omega)only[↓wr,seval,wq,t2]
    have name_in:∀o:List Int,(o.map λx=>g.av.getD x.toNat ⟨#[]⟩).length=o.length:=λo=>by simp
    refine aW.up g.rules.length (YV g p q M P B C) ?_ ?_
    .refine⟨⟨.emp 1,.emp 1,rfl,by simp[cY],by simp[cY],by simp[cY],?_⟩,t1,t2,t5,t6,t7,t8,rfl⟩
     have h4:=((((f.emp (k:=1) (sz:=1)).emp (k:=1) (sz:=1)).at 3 (by simp)).perm (Ma.symm.cons _))
     have e0:cY p q (g.rules.take 0)=[]:=rfl
     rw[e0,W4]
     exact h4
    clear f t1 t2 t5 t6 t7 t8 t9 G t
    rintro i k T H2 hk ⟨⟨J,u3,t10,al,an,b9,f⟩,t1,t2,t5,t6,t7,t8,t11⟩
    simp(disch:=omega)only[↓wr,seval,wq,oo,t1,t11,ak]
    apply ao.dec<;>intro hc
    .have I:g.rules[i]?=some (g.rules[i]'(by omega)):=aaH (by omega)
     have z:g.rules[i]'(by omega)∈g.rules:=aaP _
     have D:g.rules.take (i+1)=g.rules.take i++[g.rules[i]'(by omega)]:=by rw[aa2,I];rfl
     generalize g.rules[i]'(by omega)=r at I z D
     obtain⟨G,t,Q,fb,aq⟩:=hf.pX hg z
     have ca:q[r.left.toNat]?=some (q[r.left.toNat]'(by omega)):=aaH (by omega)
     have ar:q.getD r.left.toNat false=q[r.left.toNat]'(by omega):=by simp[ca]
     generalize q[r.left.toNat]'(by omega)=qs at ca ar
     simp(disch:=omega)only[↓wr,seval,wq,t1,t6,t11,ak,aO,aaJ,I]
     intro c4 da
     have A:=f.new da 3 [aO r]
     try simp(disch:=omega)only[↓wr,seval,wq,encI,bX,aaJ,ca]
     have R:∀(T2:Env) (H':View),dE p q r=false->H'=H2.set c4 (.arr 3 [aO r])->T2 10=u3->T2 1=.aP (ak g) 0->T2 2=.ptr M 0 0->T2 5=bX p->T2 6=bX q->T2 7=.ptr P 0 0->T2 8=.sl B 0 g.av.length 1->T2 11=gi ((i:Int)+1) ->
       ∃k',k'<k/\EW g.rules.length k' (YV g p q M P B C) T2 H':=by
      intro T2 H' S ff fl a1 a2 a5 a6 a7 a8 fm
      have N:cY p q (g.rules.take (i+1))=cY p q (g.rules.take i):=by rw[D,wb,aaI (by simp[S])]
      have e2:dA p q (g.rules.take (i+1)) 0=dA p q (g.rules.take i) 0:=by rw[D,mH];simp[dA,S]
      refine aE hk (by omega) ⟨⟨J,u3,fl,by rw[N];exact al,by rw[N];exact an,by rw[N];omega,by rw[N,e2,ff];exact A.tail⟩,a1,a2,a5,a6,a7,a8,by rw[fm];rfl⟩
     cases qs with
     | false =>
      simp(disch:=omega)only[↓wr,seval,wq,t2,t11]
      refine R _ _ (by rw[dE,ar];rfl) ?_ ?_ ?_ ?_ ?_ ?_ ?_ ?_ ?_
      all_goals first | exact t10 | exact t1 | exact t2 | exact t5 | exact t6 | exact t7 | exact t8 | rfl | (rw[set_set];rfl)
     | true =>
      simp(disch:=omega)only[↓wr,seval,wq,t5,bX]
      refine ay.pure (KC r.right p true (hg.aB r z).2.2.1 (λs hs=>⟨(aq s hs).1,λh=>by rw[cN];exact(aq s hs).2 h⟩)) ?_
      simp(disch:=omega)only[↓wr,seval,wq]
      apply ao.split<;>intro cb
      .simp(disch:=omega)only[↓wr,seval,wq,t10,t11]
       have S:dE p q r=true:=by rw[dE,ar,cb];rfl
       intro m hm
       try simp(disch:=omega)only[↓wr,seval,wq,bE]
       have db:=(cn hm cx).1
       have hm:=(cn (cn hm cx).2 cx).2
       have d:=(A.fresh (n:=m) (o:=.arr 1 [[gi i]]) (by simp only[View.set,aaI db];exact hm)).at 3 (by simp)
       have dc:(dA p q (g.rules.take i) 0).length<=40:=by
        rw[mo]
        have h1:=aco (dE p q) (g.rules.take i)
        have h2:(g.rules.take i).length<=i:=List.length_take_le _ _
        have:=hf.rules
        omega
       refine dC (by rw[set_set];exact d) (by simp[aL]) (by unfold aF;simp at dc ⊢;omega) (by unfold aF;simp at dc ⊢;omega) ?_
       intro dj H3 j _
       have f12:=((j.at 1 (by simp)).obj (by simp)).1
       have f7:=((j.at 2 (by simp)).obj (by simp)).1
       have f8:=((j.at 3 (by simp)).obj (Xx (by simp[gj];omega))).1
       have cc:cE J=some (l8 ((cY p q (g.rules.take i)).map λx=>g.av.getD x.toNat ⟨#[]⟩)).length:=(j.at 4 (by simp)).head.len
       have u:=mN (l:=gj g.av.length (cY p q (g.rules.take i))) (i:=r.left.toNat) (by simp[gj];omega)
       rw[Cz t Q] at u
       simp only[aO,encI] at f12
       simp(disch:=omega)only[↓wr,seval,wq,t8,f12,f8,u]
       refine⟨by omega,by simp[gj];omega,?_⟩
       have e2:dA p q (g.rules.take (i+1)) 0=dA p q (g.rules.take i) 0++[(i:Int)]:=by
        rw[D,mH];simp[dA,S,show i<=g.rules.length by omega]
       have N:cY p q (g.rules.take (i+1))=mA (cY p q (g.rules.take i)) r:=by rw[D,wb,aaL S]
       generalize cY p q (g.rules.take i)=o at *
       generalize dA p q (g.rules.take i) 0=kl at *
       apply ao.dec<;>intro dm
       .have hx:r.left ∉ o:=vI.1 dm
        have E:mA o r=o++[r.left]:=by rw[mA,aaI hx]
        have U:P≠B:=j.Ng 2 3 rfl rfl (by omega)
        have W:c4≠B:=j.Ng 1 3 rfl rfl (by omega)
        have cf:g.av[r.left.toNat]?=some (g.av[r.left.toNat]'(by omega)):=aaH (by omega)
        have br:g.av.getD r.left.toNat ⟨#[]⟩=g.av[r.left.toNat]'(by omega):=by simp[cf]
        generalize g.av[r.left.toNat]'(by omega)=nm at cf br
        simp(disch:=omega)only[↓wr,seval,wq,t7,t8,f12,f7,f8,u,cc]
        try refine⟨by omega,by simp[gj];omega,?_⟩
        try simp(disch:=omega)only[↓wr,seval,wq,t1,f12,U,W,ak,encS,aaJ,cf]
        intro m2 O
        have ds:=(cn O cx).1
        have O:=(cn O cx).2
        have fs:(aR (gj g.av.length o)).set r.left.toNat [gi o.length]=aR (gj g.av.length (o++[r.left])):=by rw[ints_set,W6 t Q hx]
        have ch:=(j.at 3 (by simp)).put (es':=(aR (gj g.av.length o)).set r.left.toNat [gi o.length]) (by simp) (by simp[gj])
        have ft:=(ch.fresh (n:=m2) (o:=.arr 1 [[gs nm]]) (by simp only[View.set,aaI ds];exact O)).at 4 (by simp)
        have hl:o.length<=40:=by omega
        try simp(disch:=omega)only[↓wr,seval,wq,bE]
        refine dC ft (by simp[aL]) (by unfold aF;simp;omega) (by unfold aF;simp;omega) ?_
        intro dv H5 bd _
        have c1:=bd.head.cells
        have k1:=bd.head.dU
        have cj:=((bd.at 4 (by simp)).obj (by simp)).1
        simp(disch:=omega)only[↓wr,seval,wq,t2,t7,t11,cj,c1,k1]
        have fv:=(bd.at 4 (by simp)).put (es':=[[C,dv,.emp 1,gi 0]]) rfl rfl
        have fx:=(((fv.at 4 (by simp)).tail).perm (Ma.cons _))
        refine aE hk (by omega) ⟨⟨dv,dj,rfl,?_,?_,?_,?_⟩,t1,t2,t5,t6,t7,t8,rfl⟩
        .rw[N,E];intro x fy;rcases aa0.1 fy with h | h
         .exact al x h
         .simp at h;subst h;exact⟨t,Q⟩
        .rw[N];exact Qg an
        .rw[N,E];simp;omega
        .rw[N,E,e2]
         have:=fx
         rw[fs] at this
         simp only[aa8,aba,acg,br]
         exact this
       .have hx:r.left∈o:=by
         refine acb λh=>?_
         have:=vI.2 h
         omega
        have E:mA o r=o:=by rw[mA,aaL hx]
        simp(disch:=omega)only[↓wr,seval,wq,t2,t11]
        have ch:=(((j.at 1 (by simp)).tail).perm Ma)
        refine aE hk (by omega) ⟨⟨J,dj,rfl,?_,?_,?_,?_⟩,t1,t2,t5,t6,t7,t8,rfl⟩
        .rw[N,E];exact al
        .rw[N,E];exact an
        .rw[N,E];omega
        .rw[N,E,e2]
         simp only[aa8,aba,acg]
         exact ch
      .simp(disch:=omega)only[↓wr,seval,wq,t2,t11]
       refine R _ _ (by rw[dE,ar,cb];rfl) ?_ ?_ ?_ ?_ ?_ ?_ ?_ ?_ ?_
       all_goals first | exact t10 | exact t1 | exact t2 | exact t5 | exact t6 | exact t7 | exact t8 | rfl | (rw[set_set];rfl)
    .rw[aaY (by omega)] at f al an b9
     have fz:(dA p q g.rules 0).length<=40:=by
      rw[mo];have h1:=aco (dE p q) g.rules;omega
     have ga:=wT p q g.rules 0
     have hn:=mo p q g.rules 0
     have ck:g.start.toNat<(gj g.av.length (cY p q g.rules)).length:=by simp[gj];omega
     have bx:=mN ck
     rw[Cz h3 h4] at bx
     have ea:zY g (dx (cY p q g.rules)) p q=⟨g.ax,(cY p q g.rules).map λx=>g.av.getD x.toNat ⟨#[]⟩,(g.rules.filter (dE p q)).map (cQ (dx (cY p q g.rules))),dx (cY p q g.rules) g.start⟩:=rfl
     rw[ea] at c
     clear ea
     generalize cY p q g.rules=o at *
     generalize dA p q g.rules 0=kl at *
     simp(disch:=omega)only[↓wr,seval,wq,t2]
     refine aW.up kl.length (aad g p q M P B C J u3 o kl) ?_ ?_
     .refine⟨⟨.emp 1,[],by simp,?_⟩,t1,t2,t7,t8,t10,rfl⟩
      exact(f.emp (k:=1) (sz:=3)).perm (uX [(.sl P 0 1 4,4,[[C,J,.emp 1,gi 0]]),(.sl B 0 g.av.length 1,1,aR (gj g.av.length o)),(u3,1,aR kl),(J,1,l8 (o.map λx=>g.av.getD x.toNat ⟨#[]⟩)),(C,3,g.ax.map dd),(.emp 1,3,[]),(.sl M 0 1 4,4,[[.emp 1,.emp 1,.emp 1,gi 0]])] 5 (by simp)).symm
     clear f t1 t2 t5 t6 t7 t8 t10 t11
     rintro i k T H2 hk ⟨⟨u2,bs,bl,f⟩,t1,t2,t7,t8,t10,t13⟩
     have gd:cE u3=some (aR kl).length:=(f.own 2 rfl).len
     simp(disch:=omega)only[↓wr,seval,wq,om,t10,t13,gd]
     apply ao.dec<;>intro hc
     .obtain⟨n3,e3,gk⟩:=(f.own 2 rfl).sl (by simp;omega)
      rw[aaM] at e3
      subst e3
      obtain⟨m,cA,O,X⟩:=ga i (by omega)
      have u:=mN (show i<kl.length by omega)
      rw[Int.zero_add] at cA
      have gr:kl[i]'(by omega)=(m:Int):=by
       rw[aaH (show i<kl.length by omega)] at cA;simpa using cA
      rw[gr] at u
      have I:g.rules[m]?=some (g.rules[m]'X):=aaH X
      have z:g.rules[m]'X∈g.rules:=aaP _
      have D:(g.rules.filter (dE p q)).take (i+1)=(g.rules.filter (dE p q)).take i++[g.rules[m]'X]:=by
       rw[aa2,<-O,I];rfl
      generalize g.rules[m]'X=r at I z D
      obtain⟨G,t,Q,fb,aq⟩:=hf.pX hg z
      simp(disch:=omega)only[↓wr,seval,wq,t1,t8,t10,t13,gk,u,ak,aO,aaJ,I]
      refine⟨by omega,by omega,?_⟩
      intro eb b0
      have A:=f.new b0 3 [aO r]
      have f8:=A.is 2 rfl (by simp[gj];omega)
      have b1:=mN (l:=gj g.av.length o) (i:=r.left.toNat) (by simp[gj];omega)
      rw[Cz t Q] at b1
      have cC:B≠eb:=A.Ng 2 0 rfl rfl (by omega)
      have g8:H2 B=.arr 1 (aR (gj g.av.length o)):=f.is 1 rfl (by simp[gj];omega)
      try simp(disch:=omega)only[↓wr,seval,wq,g8,cC,b1,set_set,encI]
      refine⟨by omega,by simp[gj];omega,?_⟩
      intro ee F
      have ef:=(cn F cx).1
      have F:=(cn (cn F cx).2 cx).2
      have d:=(((A.new (n:=ee) (by simp only[View.set,aaI ef];exact F) 3 [[gi (dx o r.left),.emp 1,gi r.prec]]).emp (k:=1) (sz:=1)).perm (.swap _ _ _))
      generalize hL:((V.sl P 0 1 4,4,[[C,J,u2,gi 0]])::(V.sl B 0 g.av.length 1,1,aR (gj g.av.length o))::(V.sl n3 0 kl.length 1,1,aR kl) ::
       (J,1,l8 (o.map λx=>g.av.getD x.toNat ⟨#[]⟩))::(C,3,g.ax.map dd)::(u2,3,iR bs)::(V.sl M 0 1 4,4,[[V.emp 1,V.emp 1,V.emp 1,gi 0]])::nX bs:List ew)=L at d
      have ha:L[1]?=some (.sl B 0 g.av.length 1,1,aR (gj g.av.length o)):=by rw[<-hL];rfl
      try simp(disch:=omega)only[↓wr,seval,wq,t1,t2,t7,t8,t10,t13,set_set]
      refine aW.up r.right.length (aah g M P B eb ee (.sl n3 0 kl.length 1) o r L i) ?_ ?_
      .exact⟨⟨.emp 1,by rw[set_set,set_set];exact d⟩,t1,t2,t7,t8,t10,t13,rfl,rfl,rfl⟩
      clear A d f8 g8 b0 F t1 t2 t7 t8 t10 t13
      rintro k k2 T H3 eg ⟨⟨v,w⟩,t1,t2,t7,t8,t10,t13,t14,t15,t16⟩
      have f14:=w.is 2 rfl (by simp)
      have f15:=w.is 0 rfl (by simp)
      have f8:H3 B=.arr 1 (aR (gj g.av.length o)):=w.is 4 (by simpa using ha) (by simp[gj];omega)
      simp only[aO] at f14
      simp(disch:=omega)only[↓wr,seval,wq,oz,t14,t16,f14,encI]
      apply ao.dec<;>intro hd
      .have cI:r.right[k]?=some (r.right[k]'(by omega)):=aaH (by omega)
       have ej:r.right[k]'(by omega)∈r.right:=aaP _
       have Y:(cQ (dx o) r).right.take (k+1)=(cQ (dx o) r).right.take k++[if r.right[k]'(by omega)<0 then -1-dx o (-1-r.right[k]'(by omega)) else r.right[k]'(by omega)]:=by
        rw[aa2];simp[cQ,cI]
       have bn:((cQ (dx o) r).right.take k).length<=6:=by
        have h1:(cQ (dx o) r).right.length=r.right.length:=by simp[cQ]
        have h2:((cQ (dx o) r).right.take k).length<=(cQ (dx o) r).right.length:=by rw[abL];omega
        omega
       generalize r.right[k]'(by omega)=s at cI ej Y
       obtain⟨⟨s1,s2⟩,s3⟩:=aq s ej
       simp(disch:=omega)only[↓wr,seval,wq,t14,t16,f14,encI,aaJ,cI]
       have ht:=Xh o (-1-s)
       have hz:o.length<=40:=by omega
       apply ao.dec<;>intro K
       .rw[aaL K] at Y
        have ek:=s3 K
        have b3:=mN (l:=gj g.av.length o) (i:=(-1-s).toNat) (by simp[gj];omega)
        rw[Cz (by omega) ek] at b3
        simp(disch:=omega)only[↓wr,seval,wq,t8,t15,f15,f8,b3]
        refine⟨by omega,by simp[gj];omega,?_⟩
        intro m hm
        try simp(disch:=omega)only[↓wr,seval,wq,bE]
        have Z:=(w.fresh (o:=.arr 1 [[gi (-1-dx o (-1-s))]]) hm).at 1 (by simp)
        refine dC Z (by simp[aL]) (by unfold aF;simp at bn ⊢;omega) (by unfold aF;simp at bn ⊢;omega) ?_
        intro v' H4 a _
        have cv:=a.head.cells
        have kv:=a.head.dU
        have ab:=a.is 1 rfl (by simp)
        simp(disch:=omega)only[↓wr,seval,wq,t1,t2,t7,t13,t15,t16,ab,cv,kv]
        have ae:=(a.at 1 (by simp)).put (es':=[[gi (dx o r.left),v',gi r.prec]]) rfl rfl
        refine aE eg (by omega) ⟨⟨v',?_⟩,t1,t2,t7,t8,t10,t13,t14,t15,rfl⟩
        rw[Y]
        simp only[aa8,aba,acg]
        exact ae
       .rw[aaI K] at Y
        simp(disch:=omega)only[↓wr,seval,wq,t15,f15]
        intro m hm
        try simp(disch:=omega)only[↓wr,seval,wq,bE]
        have Z:=(w.fresh (o:=.arr 1 [[gi s]]) hm).at 1 (by simp)
        refine dC Z (by simp[aL]) (by unfold aF;simp at bn ⊢;omega) (by unfold aF;simp at bn ⊢;omega) ?_
        intro v' H4 a _
        have cv:=a.head.cells
        have kv:=a.head.dU
        have ab:=a.is 1 rfl (by simp)
        simp(disch:=omega)only[↓wr,seval,wq,t1,t2,t7,t13,t15,t16,ab,cv,kv]
        have ae:=(a.at 1 (by simp)).put (es':=[[gi (dx o r.left),v',gi r.prec]]) rfl rfl
        refine aE eg (by omega) ⟨⟨v',?_⟩,t1,t2,t7,t8,t10,t13,t14,t15,rfl⟩
        rw[Y]
        simp only[aa8,aba,acg]
        exact ae
      .rw[aaY (by simp[cQ];omega)] at w
       subst hL
       have f7:=w.is 3 rfl (by simp)
       have cv:=(w.own 1 rfl).cells
       have kv:=(w.own 1 rfl).dU
       have eH:(iR bs).length<=40:=by
        have h1:=abQ List.length bl
        simp only[aaM,abL] at h1
        simp only[iR,aaM]
        omega
       simp(disch:=omega)only[↓wr,seval,wq,t1,t2,t7,t13,t15,f7,f15,kv]
       intro m hm
       try simp(disch:=omega)only[↓wr,seval,wq,bE]
       have Z:=(w.fresh (o:=.arr 3 [[gi (dx o r.left),v,gi r.prec]]) hm).at 8 (by simp)
       refine dC Z (by simp[Cx,kv]) (by unfold aF;simp at eH ⊢;omega) (by unfold aF;simp at eH ⊢;omega) ?_
       intro e4 H4 a _
       have cu:=a.head.cells
       have ku:=a.head.dU
       have cj:=a.is 4 rfl (by simp)
       simp(disch:=omega)only[↓wr,seval,wq,t1,t2,t7,t13,cj,cu,ku]
       have ae:=(a.at 4 (by simp)).put (es':=[[C,J,e4,gi 0]]) rfl rfl
       have hj:=((((ae.at 2 (by simp)).tail).at 3 (by simp)).tail)
       refine aE hk (by omega) ⟨⟨e4,bs++[(v,cQ (dx o) r)],?_,?_⟩,t1,t2,t7,t8,t10,rfl⟩
       .rw[aa8,bl,D,aa8];rfl
       .refine hj.perm (.cons _ ?_)
        simp only[nX,iR,aa8,aba,acg]
        refine .trans ?_ (uX _ 4 (by simp)).symm
        refine .cons _ ?_
        exact(List.perm_append_singleton (v,1,aR (cQ (dx o) r).right) ((.sl B 0 g.av.length 1,1,aR (gj g.av.length o))::(.sl n3 0 kl.length 1,1,aR kl)::(J,1,l8 (o.map λx=>g.av.getD x.toNat ⟨#[]⟩))::(C,3,g.ax.map dd)::(.sl M 0 1 4,4,[[.emp 1,.emp 1,.emp 1,gi 0]])::nX bs)).symm
     .rw[aaY (by omega)] at bl
      have f7:=f.is 0 rfl (by simp)
      have f8:H2 B=.arr 1 (aR (gj g.av.length o)):=f.is 1 rfl (by simp[gj];omega)
      have f2:=f.is 6 rfl (by simp)
      have e5:P≠M:=f.Ng 0 6 rfl rfl (by omega)
      have c1:=(f.own 3 rfl).cells
      have k1:=(f.own 3 rfl).dU
      have c2:=(f.own 5 rfl).cells
      have k2:=(f.own 5 rfl).dU
      simp(disch:=omega)only[↓wr,seval,wq,t1,t2,t7,t8,t10,f7,f8,f2,e5.symm,bx,k0,k1,k2,ak]
      refine⟨by omega,by simp[gj];omega,λh' hh=>?_⟩
      have A:=f.put (es':=[[C,J,u2,gi (dx o g.start)]]) rfl rfl
      have d:=(A.at 6 (by simp)).put (es':=[[C,J,u2,gi (dx o g.start)]]) rfl rfl
      have hv:h'.view=(H2.set P (.arr 4 [[C,J,u2,gi (dx o g.start)]])).set M (.arr 4 [[C,J,u2,gi (dx o g.start)]]):=hh
      rw[<-hv] at d
      rw[c]
      exact OH (x:=(⟨g.ax,o.map λx=>g.av.getD x.toNat ⟨#[]⟩,(g.rules.filter (dE p q)).map (cQ (dx o)),dx o g.start⟩,kl,0)) (b:=bs) (d.own 5 rfl) (d.own 4 rfl) (d.own 6 rfl) (λy hy=>d.1 y (by
       refine aa6 _ (aa6 _ (aa6 _ (aa6 _ (aa6 _ (aa6 _ (aa6 _ ?_))))))
       exact hy)) bl (d.own 3 rfl)
 .rename_i hr
  intro h' hh
  rw[iO,aaI (by simp[hr])]
  exact zD
theorem MH {g:aj} (e:qz g=false):g.Small:=by
 simp only[qz,Bool.or_eq_false_iff,ab4] at e
 exact⟨by omega⟩
theorem UA (g:aj):aC aa 14 [.agg (ak g)] (gb (qz g)):=aC.val (dR g) λH=>(Wj g H).mono λ_ _ h=>h.1
theorem wW {a b:V} (c:Tree a) (d:Tree b):Tree (.bb [a,b]):=.bb _ λi hi=>by
 match i,hi with
 | 0,_=>exact c
 | 1,_=>exact d
 | n+2,h=>exact absurd h (by simp)
theorem Kd {h:Heap} {a b c d:V} (e:dF h a c) (f:dF h b d):dF h (.bb [a,b]) (.bb [c,d]):=.bb _ _ rfl λi hi=>by
 match i,hi with
 | 0,_=>exact e
 | 1,_=>exact f
 | n+2,h=>exact absurd h (by simp)
theorem Fg {H:View} {id n:Nat} {l:List Int} (a:H id=.arr 1 (aR l)) (b:n=l.length):cq H (.sl id 0 n 1) (encI l):=by
 subst b
 exact cq.own (sz:=1) (.inr ⟨id,by simp,a⟩) λe he v a=>by
  obtain⟨x,_,rfl⟩:=aa4.1 he
  simp at a;subst a;exact .val _
theorem TA (l:List Int) (i:Nat) (x:Int):(aR l).set i [gi x]=aR (l.set i x):=by simp
theorem aQ.elems {H:View} {u:V} {sz:Nat} {es:List (List V)} (h:aQ H u sz es):∃rd,bM H u=some (es,rd):=by
 rcases h with ⟨rfl,k,rfl⟩ | ⟨n,rfl,a⟩
 .exact⟨[],rfl⟩
 .cases es with
  | nil=>exact⟨[],rfl⟩
  | cons e r =>
   refine⟨[n],?_⟩
   rw[aaS,j7 _ n 0 r.length sz sz _ a (by simp),abI,aaY (by simp)]
theorem ct.step {H H' H1:View} {u b:V} (h:ct H H' u) (l:Left H' H1 u b):ct H H1 b:=λid a=>by
 have h1:=h id a
 have c:=l id (by rw[h1.1];exact a) h1.2
 exact⟨c.1.trans h1.1,c.2⟩
theorem ct.put {H H':View} {u:V} {n:Nat} {o:cr} (h:ct H H' u) (b:H' n=.dead):ct H (H'.set n o) u:=λid a=>by
 have h1:=h id a
 have e:id≠n:=by rintro rfl;rw[h1.1] at b;exact a b
 exact⟨by simp[View.set,e,h1.1],h1.2⟩
theorem ct.call {H H' b:View} {u r:V} (h:ct H H' u) (k:ct H' b r):ct H b u:=λid a=>by
 have h1:=h id a
 have c:=k id (by rw[h1.1];exact a)
 exact⟨c.1.trans h1.1,h1.2⟩
theorem F1 {l:List Int} {k:Nat} (h:k<=l.length):c8 1 (.aZ (l.map λx=>[gi x])) none (some (gi k))=some (.aZ ((l.take k).map λx=>[gi x]),.none,[]):=by
 simp[c8,bound,asNat,h,List.map_take]
theorem uI {l:List Int} {k:Nat} (h:k<=l.length):c8 1 (.aZ (l.map λx=>[gi x])) (some (gi k)) none=some (.aZ ((l.drop k).map λx=>[gi x]),.none,[]):=by
 simp[c8,bound,asNat,h,List.map_drop]
 rw[aaY (by simp)]
theorem ey {P:Program} {t:TypeId} {d:TypeDesc} (hu:P.underlying t=some d) (a:d=.string∨∃k,d=.int k) (cs:Array Value) (off:Nat) {v:Value} (b:cs[off]?=some v):bk P (part t cs off)=some v:=by
 have c:bk P (isAgg t)=some false:=by
  rcases a with rfl | ⟨k,rfl⟩
  all_goals simp only[isAgg,aY,dD hu,abd];rfl
 simp only[part,aY,c,abd,aa9,if_false,b]
 rfl
inductive hU (P:Program) (d:Nat) (xs ys:Array Value):List Field->Bool->Prop
 | nil:hU P d xs ys [] true
 | str (f:Field) (l:List Field) (c:Bool) (a b:ByteArray):(f.name≠ "_")->P.underlying f.type=some .string->xs[f.offset]?=some (.string a)->ys[f.offset]?=some (.string b)->hU P d xs ys l c->hU P d xs ys (f::l) (a==b&&c)
 | int (f:Field) (l:List Field) (c:Bool) (k:IntKind) (a b:Int):(f.name≠ "_")->P.underlying f.type=some (.int k)->xs[f.offset]?=some (.int k a)->ys[f.offset]?=some (.int k b)->hU P d xs ys l c->hU P d xs ys (f::l) (a==b&&c)
theorem hU.forIn {P:Program} {d e:Nat} {xs ys:Array Value} {l:List Field} {c:Bool} (h:hU P d xs ys l c) (n:e=d+1):
  bk P (forIn l ((none:Option Bool),()) λf _ =>
    if f.name≠ "_" then do
     let a <-part f.type xs f.offset
     let b <-part f.type ys f.offset
     let e <-Op.equalIn e f.type a b
     if (!e)=true then pure (ForInStep.done (some false,())) else pure (ForInStep.yield (none,()))
    else pure (ForInStep.yield (none,())))=some (if c=true then (none,()) else (some false,())):=by
 subst n
 induction h with
 | nil=>rfl
 | str f l c a b g hu i j _ m =>
  have he:bk P (Op.equalIn (d+1) f.type (.string a) (.string b))=some (a==b):=by
   simp only[Op.equalIn,aY,dD hu,abd];rfl
  rw[List.forIn_cons,aY,aaL g,aY,ey hu (.inl rfl) xs _ i,abd,aY,ey hu (.inl rfl) ys _ j,abd,aY,he,abd]
  cases a==b with
  | false=>rfl
  | true=>exact m
 | int f l c k a b g hu i j _ m =>
  have he:bk P (Op.equalIn (d+1) f.type (.int k a) (.int k b))=some (a==b):=by
   simp only[Op.equalIn,aY,dD hu,abd];rfl
  rw[List.forIn_cons,aY,aaL g,aY,ey hu (.inr ⟨k,rfl⟩) xs _ i,abd,aY,ey hu (.inr ⟨k,rfl⟩) ys _ j,abd,aY,he,abd]
  cases a==b with
  | false=>rfl
  | true=>exact m
theorem vf {P:Program} {t:TypeId} {b:Array Field} {xs ys:Array Value} {c:Bool} (hu:P.underlying t=some (.struct b)) (d:P.stoodInHeld t=false) (h:hU P 9998 xs ys b.toList c):
  bk P (Op.equal t (.agg xs) (.agg ys))=some c:=by
 rw[k7]
 rw[Op.equalIn,aY,dD hu,abd]
 have a:(bk P program)=some P:=rfl
 rw[aY,a,abd,d]
 simp only[<-Array.forIn_toList,aa9,if_false]
 rw[aY,h.forIn (e:=9999) rfl,abd]
 cases c<;>rfl
theorem Hg {P:Program} {o:Oper} {T:Env} {op:BinOp} {t u:TypeId} {x y:Operand} {f:Array Field} {xs ys:Array Value} {c r:Bool} (b:o.op=.binOp op t x y u) (hu:P.underlying t=some (.struct f)) (i:P.stoodInHeld t=false) (g:P.eqGuardType P.depth t=false)
  (d:dz (ev T x)=some (.agg xs)) (e:dz (ev T y)=some (.agg ys)) (h:hU P 9998 xs ys f.toList c) (hr:(op=.eql/\r=c)∨(op=.neq/\r = !c)):
  eA P o T=some (.val (.bool r),.none,[]):=by
 have he:=vf hu i h
 have a:(bk P program)=some P:=rfl
 unfold eA
 simp only[b,Op.operands]
 rcases hr with ⟨rfl,rfl⟩ | ⟨rfl,rfl⟩
 .simp[execOp,b,d,e,eqGuard,binOp,kh,aY,a,g,he,plain]
  try simp[bk,pure]
 .simp[execOp,b,d,e,eqGuard,binOp,kh,aY,a,g,he,plain]
  try simp[bk,pure]
theorem km {P:Program} {T:Env} {H:View} {K:V->View->Prop} {w:c9 (T,H,K)} {op:BinOp} {t u ty:TypeId} {x y:Operand} {a:Array Field} {xs ys:Array Value} {c r:Bool} (hu:P.underlying t=some (.struct a)) (b:P.stoodInHeld t=false) (d:P.eqGuardType P.depth t=false)
  (e:dz (ev T x)=some (.agg xs)) (f:dz (ev T y)=some (.agg ys)) (h:hU P 9998 xs ys a.toList c) (hr:(op=.eql/\r=c)∨(op=.neq/\r = !c)) (hk:K (.val (.bool r)) H):jM P (.binOp op t x y u) ty T H K w:=by
 intro n _
 refine⟨.val (.bool r),.none,[],?_,hk⟩
 have g:kG P t=none:=by simp[kG,hu]
 simp only[sI,cL,oper,g]
 simp only[Option.isSome_none,aa9,if_false]
 exact Hg rfl hu b d e f h hr
def Bu (hp:Array Obj) (cs:List Value) (vs:List V):Prop:=
 vs.length=cs.length/\∀μ i,i<vs.length->aD (λb=>b<hp.size) μ hp (vs.getD i .any) (cs.getD i undef)
def Wt {H:Type} (P:Program) (t:TypeId) (d:DataW H):Prop:=∀n∈d.weights P t,n<=reachBytes
def BG (P:Program) (t:TypeId) {α:Type} (f:α->List V) (ok:α->Prop):Prop:=
 ∀ {H:Type} (enc:TypeId × Value->H) (w:World) (base:Nat) (sp:Nat->Bool) (held:Bool) (fuel:Nat) (cs:List Value) (x:DataW H × List MemPlace),
  DataW.trod enc P w base sp held fuel t cs=some x->Wt P t x.1->∃a,ok a/\Bu w.heap cs (f a)
theorem zN {hp:Array Obj} {c:Value} {v:V} (h:∀μ,aD (λb=>b<hp.size) μ hp v c):Bu hp [c] [v]:=by
 refine⟨rfl,λμ i hi=>?_⟩
 match i,hi with
 | 0,_=>exact h μ
theorem Yg {P:Program} {t:TypeId} {k:IntKind} (a:P.underlying t=some (.int k)):BG P t (λn=>[.val (.int k n)]) (λn=>(Lit.int k n).wf=true):=by
 intro H enc w base sp held fuel cs x h _
 obtain⟨n,rfl,_,hw⟩:=DataW.trod_int a h
 exact⟨n,hw,zN λμ=>.val _ rfl⟩
theorem Ib {P:Program} {t:TypeId} (a:P.underlying t=some .string):BG P t (λs=>[.val (.string s)]) (λ_=>True):=by
 intro H enc w base sp held fuel cs x h _
 obtain⟨s,rfl,_,_⟩:=DataW.trod_string a h
 exact⟨s,trivial,zN λμ=>.val _ rfl⟩
theorem Mi {w:World} {base:Nat} {a:Addr} {n:Nat} {cs:List Value} (h:w.cells? base a n=some cs):cs.length=n/\∀i,i<n->w.cell? (a.add i)=some (cs.getD i undef):=by
 obtain⟨_,b,c⟩:=World.cells?_some h
 refine⟨b,λi hi=>?_⟩
 rw[c i hi,aaG,aaH (by omega)]
 rfl
theorem Ur {w:World} {a:Addr} {v:Value} (h:w.cell? a=some v):a.spot=none/\a.block<w.heap.size:=by
 unfold World.cell? at h
 split at h
 .rename_i c _ _ b
  split at h
  .simp at h
  .rename_i d
   exact⟨by simpa using d,(Array.getElem?_eq_some_iff.1 b).1⟩
 .simp at h
theorem RH {H:Type} {P:Program} {e:TypeId}:∀ {l:List (DataW H)},(∀n∈DataW.weightsAll P e l,n<=reachBytes)->∀d∈l,Wt P e d
 | [],_,d,a=>by simp at a
 | x::l,h,d,a=>by
  simp only[DataW.weightsAll,aa0] at h
  rcases aa1.1 a with rfl | a
  .exact λn b=>h n (.inl b)
  .exact RH (λn b=>h n (.inr b)) d a
theorem Wf {H:Type} {P:Program} {t e:TypeId} {elems spare:List (DataW H)} (a:P.underlying t=some (.slice e)) (h:Wt P t (.slice elems spare)):
  (elems.length+spare.length)*P.bytesOf e<=reachBytes/\∀d∈elems,Wt P e d:=by
 unfold Wt at h
 unfold DataW.weights at h
 rw[a] at h
 simp only[aa1,aa0] at h
 exact⟨h _ (.inl rfl),RH λn b=>h n (.inr (.inl b))⟩
theorem QK {H:Type} {P:Program} {t:TypeId} {a:Array Field} {parts:List (DataW H)} (b:P.underlying t=some (.struct a)) (h:Wt P t (.agg parts)) {j:Nat} {f:Field} {d:DataW H} (c:a[j]?=some f) (e:parts[j]?=some d):Wt P f.type d:=by
 intro n g
 refine h n ?_
 unfold DataW.weights
 rw[b]
 exact DataW.weights_mem_each (j:=j) (t:=f.type) (by simp[c]) e n g
theorem N4 {α:Type} {c:Nat->α->Prop}:∀(n:Nat),(∀i,i<n->∃a,c i a)->∃l:List α,l.length=n/\∀i (hi:i<l.length),c i l[i]
 | 0,_=>⟨[],rfl,λi hi=>by simp at hi⟩
 | n+1,h=>by
  obtain⟨l,d,b⟩:=N4 n λi hi=>h i (by omega)
  obtain⟨a,f⟩:=h n (by omega)
  refine⟨l++[a],by simp[d],λi hi=>?_⟩
  by_cases e:i<l.length
  .rw[List.getElem_append_left e];exact b i e
  .have:i=n:=by simp at hi;omega
   subst this
   rw[List.getElem_append_right (by omega)]
   simp only[d,Nat.sub_self,List.getElem_cons_zero];exact f
theorem Ac {P:Program} {t e:TypeId} {α:Type} {f:α->List V} {ok:α->Prop} (J:P.underlying t=some (.slice e)) (M:0<P.cellsOf e) (N:0<P.bytesOf e) (he:BG P e f ok):
  BG P t (λl:List α=>[.aZ (l.map f)]) (λl=>l.length<4611686018427387904/\∀a∈l,ok a):=by
 intro H enc w base sp held fuel cs x h hw
 rcases DataW.trod_slice J h with ⟨rfl,rfl⟩ | ⟨a,len,cap,elems,rest,n,_,rfl,rfl,O,Q,hm,hlen,A,_,_⟩
 .exact⟨[],⟨by simp,by simp⟩,zN λμ=>.jo none 0 (by simp)⟩
 obtain⟨r,B⟩:=Wf J hw
 simp only[aaM] at r
 have C:len<4611686018427387904:=by
  have h1:len*1<=(elems.length+rest.length)*P.bytesOf e:=Nat.mul_le_mul (by omega) N
  unfold reachBytes at r
  omega
 have each:∀i,i<len->∃y,ok y/\∃ci,w.cells? base (a.add (i*P.cellsOf e)) (P.cellsOf e)=some ci/\Bu w.heap ci (f y):=by
  intro i hi
  have h1:=A i hi
  have k:elems[i]?=some (elems[i]'(by omega)):=aaH (by omega)
  have s:elems[i]'(by omega)∈elems:=aaP _
  rw[k,Option.bind_eq_some_iff] at h1
  obtain⟨ci,D,E⟩:=h1
  obtain⟨y,z,m⟩:=he enc w base sp held n ci _ E (B _ (aa4.2 ⟨_,s,rfl⟩))
  exact⟨y,z,ci,D,m⟩
 obtain⟨l,F,p⟩:=N4 len each
 subst F
 refine⟨l,⟨C,λy R=>?_⟩,zN λμ=>?_⟩
 .obtain⟨i,hi,rfl⟩:=acx R
  exact(p i hi).1
 by_cases K:l=[]
 .subst K
  exact .jo (some a) cap (by simp)
 have o:0<l.length:=acO.2 K
 have d:∀i j,i<l.length->j<P.cellsOf e->∃c,cellAt w.heap a.block (a.off+i*P.cellsOf e+j)=some c/\a.block<w.heap.size/\(i=0->j=0->a.spot=none)/\∀(hi:i<l.length),aD (λb=>b<w.heap.size) μ w.heap ((f l[i]).getD j .any) c:=by
  intro i j hi q
  obtain⟨_,ci,h1,k⟩:=p i hi
  obtain⟨D,E⟩:=Mi h1
  have z:=E j q
  have m:=Ur z
  have u:((a.add (i*P.cellsOf e)).add j).block=a.block:=by simp only[Addr.add];split<;>split<;>rfl
  have G:((a.add (i*P.cellsOf e)).add j).off=a.off+i*P.cellsOf e+j:=by
   simp only[Addr.add];split<;>split<;>simp_all
  refine⟨ci.getD j undef,?_,by rw[<-u];exact m.2,?_,λ_=>?_⟩
  .rw[<-G,<-u,<-jk]
   rw[<-z]
   congr 1
   generalize (a.add (i*P.cellsOf e)).add j=b at m
   cases b
   simp at m ⊢
   exact m.1.symm
  .rintro rfl rfl
   simp[Addr.add] at m
   exact m.1
  .exact k.2 μ j (by rw[k.1,D];exact q)
 obtain⟨_,_,S,L,_⟩:=d 0 0 o M
 have T:a=⟨a.block,a.off,none⟩:=by
  cases a;simp at L ⊢;exact L
 have I:∀i,i<l.length->(f (l[i]?.getD (l[0]'o))).length=P.cellsOf e:=λi hi=>by
  obtain⟨_,ci,h1,k⟩:=p i hi
  rw[aaH hi,aaZ,k.1,(Mi h1).1]
 have v:∀i (hi:i<l.length),(l.map f).getD i []=f l[i]:=λi hi=>by simp[hi]
 have g:(l.map f).length=l.length:=by simp
 have:=aD.aZ (Z:=λb=>b<w.heap.size) (μ:=μ) (hp:=w.heap) (l.map f) a.block a.off (P.cellsOf e) cap (λi j=>(cellAt w.heap a.block (a.off+i*P.cellsOf e+j)).getD undef) S (by rw[g];exact Q)
  (λi hi=>by
   rw[g] at hi
   have:=I i hi
   rw[aaH hi,aaZ] at this
   rw[v i hi];exact this)
  (λi j hi q=>by
   rw[g] at hi
   obtain⟨c,h1,_⟩:=d i j hi q
   rw[h1];rfl)
  (λi j hi q=>by
   rw[g] at hi
   obtain⟨c,h1,_,_,k⟩:=d i j hi q
   rw[h1,v i hi];exact k hi)
 rw[g,<-T] at this
 exact this
theorem B4 {P:Program} {t:TypeId} {b:Array Field} (d:P.underlying t=some (.struct b)) (j:∀(i:Nat) (f:Field),b[i]?=some f->f.offset=i/\P.cellsOf f.type=1) (k:P.cellsOf t=b.size)
  {H:Type} {enc:TypeId × Value->H} {w:World} {base:Nat} {sp:Nat->Bool} {held:Bool} {fuel:Nat} {cs:List Value} {x:DataW H × List MemPlace} (h:DataW.trod enc P w base sp held fuel t cs=some x) (hw:Wt P t x.1):
  cs.length=b.size/\∀(i:Nat) (f:Field),b[i]?=some f->∀ {α:Type} {g:α->List V} {ok:α->Prop},BG P f.type g ok->∃a,ok a/\Bu w.heap [cs.getD i undef] (g a):=by
 obtain⟨xs,n,rfl,rfl,l,hlen,m⟩:=DataW.trod_struct d h
 refine⟨by rw[l,k],λi f hi α g ok hr=>?_⟩
 obtain⟨h1,o⟩:=j i f hi
 have p:i<b.size:=(Array.getElem?_eq_some_iff.1 hi).1
 have c:=m i f hi
 have e:xs[i]?=some (xs[i]'(by omega)):=aaH (by omega)
 rw[e,h1,o] at c
 have q:(cs.drop i).take 1=[cs.getD i undef]:=by
  rw[aaG,aaH (by omega),abt (by omega)]
  rfl
 rw[q] at c
 exact hr enc w base sp held n _ _ c (QK d hw hi (by simp[e]))
theorem jf {hp:Array Obj} {c:Value} {cs:List Value} {v:V} {vs:List V} (h:Bu hp [c] [v]) (k:Bu hp cs vs):Bu hp (c::cs) (v::vs):=by
 refine⟨by simp[k.1],λμ i hi=>?_⟩
 cases i with
 | zero=>exact h.2 μ 0 (by simp)
 | succ i=>exact k.2 μ i (by simpa using hi)
theorem Ef {hp:Array Obj} : Bu hp [] []:=⟨rfl,λμ i hi=>by simp at hi⟩
theorem XZ {n:Int} (h:(Lit.int .i64 n).wf=true):bp n:=by
 simp only[Lit.wf,aaR,aaX] at h
 exact h
theorem rO:BG aa 3 (λn=>[gi n]) bp:=λenc w base sp held fuel cs x h hw=>by
 obtain⟨n,h1,a⟩:=Yg Tryz.underlying3 enc w base sp held fuel cs x h hw
 exact⟨n,XZ h1,a⟩
theorem Xc:BG aa 27 (λl:List Int=>[encI l]) (λl=>aI l/\∀x∈l,bp x):=
 Ac Tryz.underlying27 (acu (by kernel_rfl)) (acu (by kernel_rfl)) rO
theorem Pr:BG aa 23 (λl:List ByteArray=>[encS l]) (λl=>aI l/\∀x∈l,True):=
 Ac Tryz.underlying23 (acu (by kernel_rfl)) (acu (by kernel_rfl)) (Ib Tryz.underlying9)
theorem Zv {cs:List Value} (h:cs.length=3):cs=[cs.getD 0 undef,cs.getD 1 undef,cs.getD 2 undef]:=by
 match cs,h with
 | [a,b,c],_=>rfl
theorem cs4 {cs:List Value} (h:cs.length=4):cs=[cs.getD 0 undef,cs.getD 1 undef,cs.getD 2 undef,cs.getD 3 undef]:=by
 match cs,h with
 | [a,b,c,d],_=>rfl
theorem XL:BG aa 130 dd (λt=>bp t.level/\bp t.assoc):=λenc w base sp held fuel cs x h hw=>by
 obtain⟨e,d⟩:=B4 Tryz.underlying130 (by
  intro i f hi
  match i,hi with
  | 0,hi=>simp at hi;subst hi;exact⟨rfl,by kernel_rfl⟩
  | 1,hi=>simp at hi;subst hi;exact⟨rfl,by kernel_rfl⟩
  | 2,hi=>simp at hi;subst hi;exact⟨rfl,by kernel_rfl⟩
  | n+3,hi=>simp at hi) (by kernel_rfl) h hw
 obtain⟨a,_,h1⟩:=d 0 _ rfl (Ib Tryz.underlying9)
 obtain⟨b,g,j⟩:=d 1 _ rfl rO
 obtain⟨c,k,l⟩:=d 2 _ rfl rO
 refine⟨⟨a,b,c⟩,⟨g,k⟩,?_⟩
 rw[Zv e]
 exact jf h1 (jf j (jf l Ef))
theorem WX:BG aa 92 aO (λr=>bp r.left/\bp r.prec/\aI r.right/\∀x∈r.right,bp x):=λenc w base sp held fuel cs x h hw=>by
 obtain⟨g,d⟩:=B4 Tryz.underlying92 (by
  intro i f hi
  match i,hi with
  | 0,hi=>simp at hi;subst hi;exact⟨rfl,by kernel_rfl⟩
  | 1,hi=>simp at hi;subst hi;exact⟨rfl,by kernel_rfl⟩
  | 2,hi=>simp at hi;subst hi;exact⟨rfl,by kernel_rfl⟩
  | n+3,hi=>simp at hi) (by kernel_rfl) h hw
 obtain⟨a,j,h1⟩:=d 0 _ rfl rO
 obtain⟨b,e,k⟩:=d 1 _ rfl Xc
 obtain⟨c,l,m⟩:=d 2 _ rfl rO
 refine⟨⟨a,b,c⟩,⟨j,l,e.1,e.2⟩,?_⟩
 rw[Zv g]
 exact jf h1 (jf k (jf m Ef))
theorem XK:BG aa 26 ak aj.Ok:=λenc w base sp held fuel cs x h hw=>by
 obtain⟨k,e⟩:=B4 Tryz.underlying26 (by
  intro i f hi
  match i,hi with
  | 0,hi=>simp at hi;subst hi;exact⟨rfl,by kernel_rfl⟩
  | 1,hi=>simp at hi;subst hi;exact⟨rfl,by kernel_rfl⟩
  | 2,hi=>simp at hi;subst hi;exact⟨rfl,by kernel_rfl⟩
  | 3,hi=>simp at hi;subst hi;exact⟨rfl,by kernel_rfl⟩
  | n+4,hi=>simp at hi) (by kernel_rfl) h hw
 obtain⟨a,g,h1⟩:=e 0 _ rfl (Ac Tryz.underlying22 (acu (by kernel_rfl)) (acu (by kernel_rfl)) XL)
 obtain⟨b,l,m⟩:=e 1 _ rfl Pr
 obtain⟨c,j,o⟩:=e 2 _ rfl (Ac Tryz.underlying24 (acu (by kernel_rfl)) (acu (by kernel_rfl)) WX)
 obtain⟨d,p,q⟩:=e 3 _ rfl rO
 refine⟨⟨a,b,c,d⟩,⟨g.1,l.1,j.1,p,g.2,j.2⟩,?_⟩
 rw[cs4 k]
 exact jf h1 (jf m (jf o (jf q Ef)))
end Gv
