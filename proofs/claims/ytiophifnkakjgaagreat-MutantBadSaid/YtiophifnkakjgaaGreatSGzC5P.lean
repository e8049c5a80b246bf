/-
  Part 16 of the proof: what the machine does and what the functions answer.
  Conditions: those that each lemma names.
-/
import Derived.Test.YtiophifnkakjgaaGreatSGzC5O
set_option linter.unusedSimpArgs false
set_option linter.unusedVariables false
set_option maxRecDepth 100000
set_option maxHeartbeats 20000000
namespace Gv
open Go Go.Proofs
theorem RG (us:List (List Int)) (w:us.flatten.length<=1000000) (hu:us.length<=1000):cd aa 68 [.aZ (WD us)] (encI us.flatten):=by
 have d:∀i,(us.take i).flatten.length<=1000000:=λi=>by
  have:=acJ i us
  have b:us.flatten=(us.take i).flatten++(us.drop i).flatten:=by rw[<-List.flatten_append,this]
  rw[b,aa5] at w;omega
 refine cd.of (by intro v g;simp at g;subst g;exact fg _ _ λx _ v g=>by simp at g;subst g;exact bC x) ?_
 refine az.of mixed qZ ?_
 simp(disch:=omega)only[↓wr,seval,wq,lH]
 refine aW.up us.length (λi T H'=>H'=(λ_=>.dead)/\T 0=.aZ (WD us)/\T 3=gi (us.take i).flatten.length/\T 9=.aZ (WD us)/\T 10=gi us.length/\T 11=gi i) ⟨rfl,rfl,rfl,rfl,rfl,rfl⟩ ?_
 rintro i k T H1 hk ⟨rfl,t0,t3,t9,t10,t11⟩
 simp(disch:=omega)only[↓wr,seval,wq,kK,t10,t11]
 apply ao.dec<;>intro hi
 .have b:us[i]?=some (us[i]'(by omega)):=aaH (by omega)
  have a:us.take (i+1)=us.take i++[us[i]'(by omega)]:=by rw[aa2,b];rfl
  have c:=d (i+1)
  generalize us[i]'(by omega)=x at b a
  rw[a] at c
  simp only[List.flatten_append,List.flatten_cons,List.flatten_nil,abo,aa5] at c
  simp(disch:=omega)only[↓wr,seval,wq,t3,t9,t11,aaJ,b,encI]
  refine ao.dec (λh=>absurd h (by omega)) (λ_=>?_)
  simp(disch:=omega)only[↓wr,seval,wq,t11]
  refine aE hk (by omega) ⟨rfl,t0,?_,t9,t10,rfl⟩
  rw[a,List.flatten_append,aa5,List.flatten_cons,List.flatten_nil,abo]
  push_cast
  rfl
 .simp(disch:=omega)only[↓wr,seval,wq,t3]
  have e:us.take i=us:=aaY (by omega)
  rw[e]
  refine ay.cw ((Qw _ w _).mono ?_)
  intro r y hr
  have j:JL y r []:=by
   rcases hr with ⟨_,rfl,rfl⟩ | ⟨_,m,es,hm,rfl,rfl⟩
   .exact .inl .nil
   .exact .inr ⟨rfl,m,es,rfl,by simp[View.set]⟩
  have l:us.flatten.length=0->aQ y r 1 (aR []):=λo=>by
   rcases hr with ⟨_,rfl,_⟩ | ⟨h1,_⟩
   .exact .nil
   .omega
  simp(disch:=omega)only[↓wr,seval,wq,t0]
  refine aW.up us.length (λi T H'=>∃u,T 6=u/\JL H' u (us.take i).flatten/\(us.flatten.length=0->aQ H' u 1 (aR (us.take i).flatten))/\T 25=.aZ (WD us)/\T 26=gi us.length/\T 27=gi i) ⟨r,rfl,j,l,rfl,rfl,rfl⟩ ?_
  rintro i k T z hk ⟨u,t6,p,q,t25,t26,t27⟩
  simp(disch:=omega)only[↓wr,seval,wq,kQ,t26,t27]
  apply ao.dec<;>intro hi
  .have b:us[i]?=some (us[i]'(by omega)):=aaH (by omega)
   have a:us.take (i+1)=us.take i++[us[i]'(by omega)]:=by rw[aa2,b];rfl
   have c:=d (i+1)
   generalize us[i]'(by omega)=x at b a
   rw[a,List.flatten_append,aa5,List.flatten_cons,List.flatten_nil,abo] at c
   simp(disch:=omega)only[↓wr,seval,wq,t6,t25,t27,aaJ,b,encI]
   refine Qd p (by unfold aF;omega) (by unfold aF;omega) rfl ?_
   intro u' A s t B
   simp(disch:=omega)only[↓wr,seval,wq,t27]
   refine aE hk (by omega) ⟨u',rfl,?_,λo=>?_,t25,t26,rfl⟩
   .rw[a];simpa using s
   .rw[a];simpa using t (q o)
  .simp(disch:=omega)only[↓wr,seval,wq,t6]
   have e:us.take i=us:=aaY (by omega)
   rw[e] at p q
   intro C g
   refine dF.Ky (sz:=1) (f:=λn=>.int .i64 n) ?_
   rw[g]
   rcases p with p | ⟨o,m,es,rfl,hm⟩
   .exact p
   .have:=q (by rw[o];rfl)
    rw[o] at this ⊢;exact this
def D3 (v:V) (l:List Int):Prop:=v=encI l∨(l=[]/\v=.emp 1)
theorem D3.kH {v:V} {l:List Int} (h:D3 v l) {H:View} : cq H v (encI l):=by
 rcases h with rfl | ⟨rfl,rfl⟩
 .exact .tree (bC l)
 .exact λ_ _=>.emp 1
theorem D3.dU {v:V} {l:List Int} (h:D3 v l):aL v=true/\V.cells v=[v]/\Tree v:=by
 rcases h with rfl | ⟨rfl,rfl⟩
 .exact⟨rfl,rfl,bC l⟩
 .exact⟨rfl,rfl,.emp 1⟩
structure eE where
 n:bL
 a:V
 b:V
structure eE.Ok (x:eE):Prop where
 a:D3 x.a x.n.ah
 b:D3 x.b x.n.be
def dI (x:eE):List V:=[gi x.n.st,gi x.n.it.aB,gi x.n.it.dot,x.a,x.b]
def En (S:List eE) (x:eE):List eE:=if S.any (λy=>jB x.n y.n)=true then S else S++[x]
theorem TF (S:List eE) (x:eE):(En S x).map eE.n=iW (S.map eE.n) x.n:=by
 unfold En iW
 rw[List.any_map]
 have e:(jB x.n∘eE.n)=λy:eE=>jB x.n y.n:=rfl
 rw[e]
 split<;>simp
theorem Nl {S:List eE} {x:eE} (b:∀y∈S,y.Ok) (c:x.Ok):∀y∈En S x,y.Ok:=by
 unfold En
 split
 .exact b
 .intro y a
  rcases aa0.1 a with a | a
  .exact b y a
  .simp at a;subst a;exact c
def sT:SF:=⟨ai [ag [bU 4 1],ag [bU 5 2,af 6 0,fP 7 1 8 5 6,af 8 1,fP 9 1 8 7 8,af 4 9],.ret],
 [.tmp 4],10⟩
theorem yi:aJ aa 65 []=some sT:=by kernel_rfl
def rL:SF:=⟨ai [ag [cg 2 0,bU 4 1],ai [ag [af 5 1,aH 6 .lss 5 0],aX 6 (ai [ag [aw 7 3 2,au 8 7,((some 9),.op (.arith .sub (.val (.val (.int .i64 (-1)))) (.tmp 8))),((some 10),.op (.bO 1 1 [(.val (.int .i64 0))] [(0,(.tmp 9))])),af 4 10],.ret])],ag [aw 11 2 2,au 12 11,af 13 1,aK 14 3 12 13,aw 15 1 14,au 16 15,af 4 16],.ret],
 [.tmp 4],17⟩
theorem xy:aJ aa 66 [2]=some rL:=by kernel_rfl
def rM:SC:=
 ai [ai [ag [af 6 5,af 7 0,aM 8 7,aS 9 .lss 6 8],bQ 9 (.exit 0)],.block 1 (ai [.region false [⟨none,[af 12 0,af 13 5,aK 14 5 12 13,aw 15 0 14,au 16 15,aw 17 0 3,au 18 17,aS 19 .eql 16 18,af 20 19]⟩,⟨(some (20,true)),[af 21 0,af 22 5,aK 23 5 21 22,aw 24 1 23,aU 25 2 24,aw 26 1 3,aU 27 2 26,((some 28),.op (.old (.binOp .eql 120 (.tmp 25) (.tmp 27) 120) 4))]⟩,⟨none,[dQ 29 20 28]⟩],aX 29 (ai [ag [af 30 0,af 4 30],.ret])]),ag [af 10 5,aH 11 .add 10 1,af 5 11]]
def ug:SF:=⟨ai [ag [cg 3 1,bU 4 1],ai [ag [aT 5 0],bS 0 rM],ag [af 31 0,aU 32 5 3,((some 33),.op (.bO 1 5 [(.val (.int .i64 0)),(.val (.int .i64 0)),(.val (.int .i64 0)),(.emp 1),(.emp 1)] [(0,(.tmp 32))])),fP 34 5 72 31 33,af 4 34],.ret],
 [.tmp 4],35⟩
theorem zn:aJ aa 128 [3]=some ug:=by kernel_rfl
theorem wX (a b:List Int) (e:a.length+b.length<=1000000):cd aa 65 [encI a,encI b] (encI (a++b)):=by
 refine cd.of (by
  intro v c;simp at c
  rcases c with rfl | rfl<;>exact bC _) ?_
 refine az.of mixed yi ?_
 simp(disch:=omega)only[↓wr,seval,wq,sT,encI]
 refine fE (es:=[]) .nil (by simp[aL]) (by unfold aF;simp;omega) (by unfold aF;simp;omega) ?_
 intro u H o _
 simp(disch:=omega)only[↓wr,seval,wq]
 refine fE o (by simp[aL]) (by unfold aF;simp;omega) (by unfold aF;simp;omega) ?_
 intro g h d _
 simp(disch:=omega)only[↓wr,seval,wq]
 intro i c
 refine dF.Ky (sz:=1) (f:=λn=>.int .i64 n) ?_
 rw[c]
 simpa using d
theorem FV (g:aj) (c:bp (-1-g.start)) (r:Int) (h : -1<=r/\r<g.rules.length):aC aa 66 [.agg (ak g),gi r] (encI (bV g r)):=by
 refine aC.of (by
  intro v a;simp at a
  rcases a with rfl | rfl
  .exact bW _ (cB g)
  .exact .val _) ?_
 unfold bp at c
 refine az.of mixed xy ?_
 simp(disch:=omega)only[↓wr,seval,wq,rL,ak,encS]
 unfold bV
 apply ao.dec<;>intro h1
 .rw[aaL (by omega)]
  simp(disch:=omega)only[↓wr,seval,wq]
  intro n b a
  exact cq.own (sz:=1) (es:=aR [-1-g.start]) (.inr ⟨n,rfl,by simp[View.set]⟩) (by intro e he v a;simp at he;subst he;simp at a;subst a;exact .val _) b a
 .rw[aaI (by omega)]
  have d:g.rules[r.toNat]?=some (b6 g r):=by unfold b6;exact getD_some (by omega)
  simp(disch:=omega)only[↓wr,seval,wq,aO,aaJ,d]
  intro b _
  exact .tree _ (bC _)
theorem Q1 {x:eE} (c:x.Ok):(([dI x]:List (List V)).all λe=>e.length==5&&e.all aL)=true:=by
 simp only[dI,abT,List.all_nil,c.a.dU.1,c.b.dU.1];rfl
theorem Mc (S:List eE) (x:eE) (t:x.Ok) (K:S.length<=90000) (u:V) (H:View) (s:aQ H u 5 (S.map dI)):az aa 128 [u,.agg (dI x)] H λr H'=>aQ H' r 5 ((En S x).map dI)/\Left H H' u r:=by
 refine az.of mixed zn ?_
 have hlen:cE u=some S.length:=by rw[s.len];simp
 have e:=Q1 t
 obtain⟨⟨f,v,_⟩,⟨g,w,_⟩⟩:=And.intro t.a.dU t.b.dU
 simp only[dI] at e
 simp(disch:=omega)only[↓wr,seval,wq,ug,dI,f,g]
 refine aW.up S.length (λi T H'=>H'=H/\((S.take i).any λy=>jB x.n y.n)=false/\T 0=u/\T 3=.aP (dI x) 0/\T 5=gi i) ⟨rfl,rfl,rfl,rfl,rfl⟩ ?_
 rintro i k T H' hk ⟨E,c,t0,t3,t5⟩
 subst E
 simp(disch:=omega)only[↓wr,seval,wq,rM,t0,t5,hlen]
 apply ao.dec<;>intro F
 .have z:S[i]?=some (S[i]'(by omega)):=aaH (by omega)
  have h:S.take (i+1)=S.take i++[S[i]'(by omega)]:=by rw[aa2,z];rfl
  have j:=aaP (show i<S.length by omega)
  generalize S[i]'(by omega)=y at z h j
  obtain⟨id,hu,l⟩:=s.sl (by simp;omega)
  rw[aaM] at hu
  have B:(S.map dI).getD i []=dI y:=by simp[z]
  simp(disch:=omega)only[↓wr,seval,wq,t0,t3,t5,hu,l,B,dI]
  refine⟨by omega,by first | omega | (simp;omega),?_⟩
  have m:((S.take (i+1)).any λy=>jB x.n y.n)=jB x.n y.n:=by
   rw[h,List.any_append,c];simp
  apply ao.eq<;>intro G
  .simp(disch:=omega)only[↓wr,seval,wq,t0,t3,t5,hu,l,B,dI]
   refine⟨by omega,by first | omega | (simp;omega),?_⟩
   refine km (xs:=#[.int .i64 y.n.it.aB,.int .i64 y.n.it.dot]) (ys:=#[.int .i64 x.n.it.aB,.int .i64 x.n.it.dot]) Tryz.underlying120 (by kernel_rfl) (by kernel_rfl) ?_ ?_ (sU y.n.it x.n.it) (.inl ⟨rfl,rfl⟩) ?_
   .rfl
   .rfl
   rw[AQ]
   have p:jB x.n y.n=decide (y.n.it=x.n.it):=by
    unfold jB
    rw[abj (by omega:y.n.st=x.n.st),abu]
   simp(disch:=omega)only[↓wr,seval,wq]
   apply ao.dec<;>intro A
   .simp(disch:=omega)only[↓wr,seval,wq,t0]
    have d:En S x=S:=aaL (abU.2 ⟨y,j,by rw[p];simpa using A⟩)
    rw[d]
    exact⟨s,.refl⟩
   .simp(disch:=omega)only[↓wr,seval,wq,t0,t3,t5]
    refine aE hk (by omega) ⟨rfl,?_,t0,t3,rfl⟩
    rw[m,p];simpa using A
  .simp(disch:=omega)only[↓wr,seval,wq,t0,t3,t5]
   refine aE hk (by omega) ⟨rfl,?_,t0,t3,rfl⟩
   rw[m]
   unfold jB
   rw[decide_eq_false (by omega:¬ y.n.st=x.n.st),ab0]
 .rw[aaY (by omega)] at c
  have d:En S x=S++[x]:=aaI (by rw[c];simp)
  simp(disch:=omega)only[↓wr,seval,wq,t0,t3,dI,f,g]
  intro q C
  have D:=s.fresh (o:=.arr 5 [dI x]) C
  simp only[dI] at D
  simp(disch:=omega)only[↓wr,seval,wq,bE,t0]
  refine kY D (by simp) e (by unfold aF;simp;omega) (by unfold aF;simp;omega) ?_
  intro r L I J
  simp(disch:=omega)only[↓wr,seval,wq]
  rw[d]
  refine⟨?_,J.behind C⟩
  rw[aa8]
  exact I
section
variable {κ:Type} [BEq κ] [LawfulBEq κ] {kv:κ->V} {P:Program} {T:Env} {H:View} {kt et t ty:TypeId}
end
section
variable {H:View} {b:Nat} {g:aj} {a:List ba} {ul us:V} {vs:List V} {ls:List (List aN)} {ss:Sets} {more:Bool} {L:List ew}
end
section
variable {H:View} {b:Nat} {g:aj} {a:List ba} {ul us:V} {vs:List V} {ls:List (List aN)} {ss:Sets} {more:Bool} {L:List ew}
end
section
variable {H:View} {b:Nat} {g:aj} {a:List ba} {ul us:V} {vs:List V} {ls:List (List aN)} {ss:Sets} {more:Bool} {L:List ew}
end
inductive kV (P:Program) (d:Nat) (xs ys:Array Value):List Field->Bool->Prop
 | nil:kV P d xs ys [] true
 | any (f:Field) (l:List Field) (c e:Bool) (a b:Value):(f.name≠ "_")->bk P (part f.type xs f.offset)=some a->bk P (part f.type ys f.offset)=some b->bk P (Op.equalIn (d+1) f.type a b)=some e->kV P d xs ys l c->kV P d xs ys (f::l) (e&&c)
theorem kV.forIn {P:Program} {d e:Nat} {xs ys:Array Value} {l:List Field} {c:Bool} (h:kV P d xs ys l c) (g:e=d+1):
  bk P (forIn l ((none:Option Bool),()) λf _ =>
   if f.name≠ "_" then do
    let a <-part f.type xs f.offset
    let b <-part f.type ys f.offset
    let e <-Op.equalIn e f.type a b
    if (!e)=true then pure (ForInStep.done (some false,())) else pure (ForInStep.yield (none,()))
   else pure (ForInStep.yield (none,())))=some (if c=true then (none,()) else (some false,())):=by
 subst g
 induction h with
 | nil=>rfl
 | any f l c e a b i j k he _ m =>
  rw[List.forIn_cons,aY,aaL i,aY,j,abd,aY,k,abd,aY,he,abd]
  cases e with
  | false=>rfl
  | true=>exact m
theorem yX {P:Program} {d:Nat} {t:TypeId} {b:Array Field} {xs ys:Array Value} {c:Bool} (hu:P.underlying t=some (.struct b)) (f:P.stoodInHeld t=false) (h:kV P d xs ys b.toList c):
  bk P (Op.equalIn (d+1+1) t (.agg xs) (.agg ys))=some c:=by
 rw[Op.equalIn,aY,dD hu,abd]
 have a:(bk P program)=some P:=rfl
 rw[aY,a,abd,f]
 simp only[<-Array.forIn_toList,aa9,if_false]
 rw[aY,h.forIn (e:=d+1) rfl,abd]
 cases c<;>rfl
theorem xm {P:Program} {d:Nat} {t:TypeId} {k:IntKind} (hu:P.underlying t=some (.int k)) (a b:Int):bk P (Op.equalIn (d+1) t (.int k a) (.int k b))=some (a==b):=by
 simp only[Op.equalIn,aY,dD hu,abd];rfl
theorem XY {κ:Type} [BEq κ] {P:Program} {kt:TypeId} {kv:κ->V} (val:κ->Value) {n:Array Field} (l:∀k,dz (kv k)=some (val k)) (hu:P.underlying kt=some (.struct n))
  (heq:∀a b,bk P (Op.equal kt (val a) (val b))=some (a==b)) (c:∀k e,bk P (Instr.checkKey e 10000 kt (val k))=some ()) (o:∀k,sameKey (kv k) (kv k)=true):DG P kt kv where
 same:=o
 find:=by
  have d:∀m:cH κ,gF (cW kv m)=some (m.map λx=>{ key:=val x.1,val:=.nilFunc,born:=x.2.2 }):=by
   intro m
   induction m with
   | nil=>rfl
   | cons x r g =>
    simp only[cW] at g
    simp[cW,gF,l,g]
  have f:∀(k:κ) (m:cH κ) (i:Nat),bk P (Instr.findAsking kt (val k) (m.map λx=>{ key:=val x.1,val:=.nilFunc,born:=x.2.2 }) i)=some ((gw k m).map λj=>(i+j,.nilFunc)):=by
   intro k m
   induction m with
   | nil=>intro i;rfl
   | cons x r g =>
    intro i
    simp only[aba,Instr.findAsking,aY,heq,abd,gw]
    cases hk:k==x.1 with
    | true=>simp[vu]
    | false =>
     simp only[aa9,if_false,g (i+1),Option.map_map]
     congr 2
     funext j
     simp only[Function.comp]
     congr 1
     omega
  intro k e m
  have h:bk P (underlying kt)=some _:=dD hu
  simp only[nt,l,d,aY,c,abd]
  have:bk P (Instr.findKey kt (val k) (m.map λx=>{ key:=val x.1,val:=.nilFunc,born:=x.2.2 }))=some ((gw k m).map λj=>(0+j,.nilFunc)):=by
   unfold Instr.findKey
   rw[aY,h,abd]
   cases m with
   | nil=>rfl
   | cons x r=>exact f k (x::r) 0
  rw[this]
  cases gw k m with
  | none=>rfl
  | some j=>simp
abbrev zo:=Int × Int × Int
def vM (x:zo):V:=.agg [gi x.1,gi x.2.1,gi x.2.2]
def BD (x:zo):Value:=.agg #[.int .i64 x.1,.int .i64 x.2.1,.int .i64 x.2.2]
def ju (x:bL):zo:=((x.st:Int),x.it.aB,x.it.dot)
theorem Ig (x y:bL):(ju x==ju y)=jB x y:=by
 obtain⟨s,⟨r,d⟩,a,b⟩:=x
 obtain⟨f,⟨g,h⟩,i,j⟩:=y
 rw[aby]
 simp[ju,jB]
 constructor
 .rintro⟨h1,c,e⟩;exact⟨by omega,c.symm,e.symm⟩
 .rintro⟨h1,c,e⟩;exact⟨by omega,c.symm,e.symm⟩
theorem XH (a b c d:Int):kV aa 9997 #[.int .i64 a,.int .i64 b] #[.int .i64 c,.int .i64 d]
  [{ name:= "Rule",type:=3,offset:=0,embedded:=false,tag:= "",pkgPath:= "",byteOffset:=0 },{ name:= "Dot",type:=3,offset:=1,embedded:=false,tag:= "",pkgPath:= "",byteOffset:=8 }] ((a==c)&&((b==d)&&true)):=
 .any _ _ _ _ _ _ (by decide) (ey Tryz.underlying3 (.inr ⟨_,rfl⟩) _ _ rfl) (ey Tryz.underlying3 (.inr ⟨_,rfl⟩) _ _ rfl) (xm Tryz.underlying3 _ _)
  (.any _ _ _ _ _ _ (by decide) (ey Tryz.underlying3 (.inr ⟨_,rfl⟩) _ _ rfl) (ey Tryz.underlying3 (.inr ⟨_,rfl⟩) _ _ rfl) (xm Tryz.underlying3 _ _) .nil)
theorem HM (a b c:Int):bk aa (part 120 #[.int .i64 a,.int .i64 b,.int .i64 c] 1)=some (.agg #[.int .i64 b,.int .i64 c]):=by kernel_rfl
theorem PC (x y:zo):bk aa (Op.equal 218 (BD x) (BD y))=some (x==y):=by
 rw[k7,BD,BD]
 have h:kV aa 9998 #[.int .i64 x.1,.int .i64 x.2.1,.int .i64 x.2.2] #[.int .i64 y.1,.int .i64 y.2.1,.int .i64 y.2.2]
  [{ name:= "state",type:=3,offset:=0,embedded:=false,tag:= "",pkgPath:= "gerund/access",byteOffset:=0 },{ name:= "item",type:=120,offset:=1,embedded:=false,tag:= "",pkgPath:= "gerund/access",byteOffset:=8 }] ((x.1==y.1)&&(((x.2.1==y.2.1)&&((x.2.2==y.2.2)&&true))&&true)):=
  .any _ _ _ _ _ _ (by decide) (ey Tryz.underlying3 (.inr ⟨_,rfl⟩) _ _ rfl) (ey Tryz.underlying3 (.inr ⟨_,rfl⟩) _ _ rfl) (xm Tryz.underlying3 _ _)
  (.any _ _ _ _ _ _ (by decide) (HM _ _ _) (HM _ _ _) (yX Tryz.underlying120 (by kernel_rfl) (XH x.2.1 x.2.2 y.2.1 y.2.2)) .nil)
 rw[yX Tryz.underlying218 (by kernel_rfl) h]
 obtain⟨a,b,c⟩:=x
 obtain⟨d,e,f⟩:=y
 congr 1
 rw[aby]
 simp
theorem O4 (x:zo) (e:Bool):bk aa (Instr.checkKey e 10000 218 (BD x))=some ():=by
 cases e<;>kernel_rfl
theorem VS:DG aa 218 vM:=
 XY BD (λ_=>rfl) Tryz.underlying218 PC O4 λk=>by simp[sameKey,show dz (vM k)=some (BD k) from rfl,BD,Instr.sameBits]
def gA:SC:=
 ai [ag [aS 9 .lss 8 7],bQ 9 (.exit 0),.block 1 (ai [ag [af 10 8,af 5 10],ag [af 11 1,af 12 0,af 13 5,aK 14 2 12 13,aU 15 2 14,((some 16),.call (.tmp 11) [(.tmp 15)])],aX 16 (ai [ag [af 17 5,af 4 17],.ret])]),ag [aH 18 .add 8 1,af 8 18]]
def gS:SF:=⟨ai [ag [aT 4 0],ai [ag [af 6 0,aM 7 6,aT 8 0],bS 0 gA],ag [aT 4 (-1)],.ret],
 [.tmp 4],19⟩
theorem kI:aJ aa 249 []=some gS:=by kernel_rfl
def AA:SF:=⟨ai [ag [cg 2 0,bh 3 false],ag [aw 4 0 2,au 5 4,au 6 1,aS 7 .eql 5 6,af 3 7],.ret],
 [.tmp 3],8⟩
theorem D8:aJ aa 250 [2]=some AA:=by kernel_rfl
def Ao:SC:=
 ai [ag [aS 24 .lss 23 22],bQ 24 (.exit 0),.block 1 (ai [ag [aK 25 1 21 23,au 26 25,((some 10),.op (.alloc [(.val (.int .i64 0))])),cz 1 10 26],ag [af 27 0,af 28 8,aK 29 2 27 28,aw 30 1 29,au 31 30,((some 32),.op (.tQ 250 [] [(.tmp 10)])),aV 33 249 [31,32],af 11 33],ai [ag [af 34 11,aH 35 .lss 34 0],aX 35 (ai [ag [aT 6 0,bh 7 false],.ret])],ag [af 36 0,af 37 8,aK 38 2 36 37,aw 39 1 38,au 40 39,af 41 11,aK 42 2 40 41,aw 43 1 42,au 44 43,af 8 44],.region false [⟨none,[af 45 8,aH 46 .lss 45 0,af 47 46]⟩,⟨(some (47,false)),[af 48 8,af 49 0,aM 50 49,aS 51 .geq 48 50]⟩,⟨none,[cG 52 47 51]⟩],aX 52 (ai [ag [aT 6 0,bh 7 false],.ret])]),ag [aH 53 .add 23 1,af 23 53]]
def Da:SF:=⟨ai [ag [aT 6 0,bh 7 false],ag [af 12 1,af 8 12],ai [.region false [⟨none,[af 13 8,aH 14 .lss 13 0,af 15 14]⟩,⟨(some (15,false)),[af 16 8,af 17 0,aM 18 17,aS 19 .geq 16 18]⟩,⟨none,[cG 20 15 19]⟩],aX 20 (ai [ag [aT 6 0,bh 7 false],.ret])],ai [ag [af 21 2,aM 22 21,aT 23 0],bS 0 Ao],ag [af 54 8,af 6 54,bh 7 true],.ret],
 [.tmp 6,.tmp 7],55⟩
theorem Hu:aJ aa 193 []=some Da:=by kernel_rfl
theorem Qb (l:List fV) (g:aI l) (f:FuncId) (cap:List V) (p:fV->Bool) (H:View) (h:∀x∈l,az aa f (.agg (lX x)::cap) H λr H'=>r=gb (p x)/\H'=H):
  az aa 249 [.aZ (kU l),.fn f [] cap] H λr H'=>r=gi (dT p l 0)/\H'=H:=by
 refine az.of mixed kI ?_
 unfold aI at g
 simp(disch:=omega)only[↓wr,seval,wq,gS,kU]
 refine aW.up l.length (λi T H'=>H=H'/\dT p (l.drop i) i=dT p l 0/\T 0=.aZ (l.map lX)/\T 1=.fn f [] cap/\T 7=gi l.length/\T 8=gi i) ⟨rfl,rfl,rfl,rfl,rfl,rfl⟩ ?_
 rintro i k T _ hk ⟨rfl,hi,b,h1,c,d⟩
 simp(disch:=omega)only[↓wr,seval,wq,gA,c,d]
 apply ao.dec<;>intro j
 .have e:l[i]?=some (l[i]'(by omega)):=aaH (by omega)
  have hm:l[i]'(by omega)∈l:=aaP _
  rw[eL (show i<l.length by omega)] at hi
  generalize l[i]'(by omega)=x at e hm hi
  simp(disch:=omega)only[↓wr,seval,wq,b,h1,d,aaJ,e,lX]
  have a:=h x hm
  simp only[lX] at a
  refine ay.cw (a.mono ?_)
  rintro r m ⟨rfl,rfl⟩
  simp only[dT] at hi
  simp(disch:=omega)only[↓wr,seval,wq]
  apply ao.split<;>intro hp
  .simp(disch:=omega)only[↓wr,seval,wq,d]
   rw[<-hi,aaL hp]
  .simp(disch:=omega)only[↓wr,seval,wq,d]
   refine aE hk (by omega) ⟨rfl,?_,b,h1,c,rfl⟩
   rw[aaI (by simp[hp])] at hi
   push_cast;exact hi
 .rw[aa7 (by omega)] at hi
  simp(disch:=omega)only[↓wr,seval,wq]
  rw[<-hi];rfl
theorem U4 (x:fV) (s:Int) (q:Nat) (H:View) (a:H q=.arr 1 [[gi s]]):az aa 250 [.agg (lX x),.ptr q 0 0] H λr H'=>r=gb (decide (x.sym=s))/\H'=H:=by
 refine az.of mixed D8 ?_
 simp(disch:=omega)only[↓wr,seval,wq,AA,lX,a]
 congr 2
theorem KU (s:Int):∀(l:List fV) (i:Int),0<=i->(dT (λe=>decide (e.sym=s)) l i<0->ir l s = -1)/\(0<=dT (λe=>decide (e.sym=s)) l i->∃(k:Nat) (e:fV),dT (λe=>decide (e.sym=s)) l i=i+k/\l[k]?=some e/\ir l s=e.to)
 | [],i,_=>⟨λ_=>rfl,λh=>by simp[dT] at h⟩
 | x::l,i,d=>by
  simp only[dT,ir,aaX]
  by_cases h:x.sym=s
  .rw[aaL h,aaL h]
   exact⟨λh=>by omega,λ_=>⟨0,x,by simp,rfl,rfl⟩⟩
  .rw[aaI h,aaI h]
   obtain⟨h1,a⟩:=KU s l (i+1) (by omega)
   refine⟨h1,λh=>?_⟩
   obtain⟨k,e,b,k2,c⟩:=a h
   exact⟨k+1,e,by rw[b];push_cast;omega,by simpa using k2,c⟩
theorem RQ {l:List fV} (h:∀e∈l,bp e.to) (s:Int):bp (ir l s):=by
 induction l with
 | nil=>unfold bp;simp[ir]
 | cons e l a =>
  rw[ir];split
  .exact h e (by simp)
  .exact a λx b=>h x (by simp[b])
theorem VI (a:List ba) (_:aI a) (he:∀s∈a,aI s.cF/\∀e∈s.cF,bp e.sym/\bp e.to) (fr:Int) (syms:List Int) (t:aI syms):aC aa 193 [cm a,gi fr,encI syms] (.bb [gi (oI a fr syms).1,gb (oI a fr syms).2]):=by
 unfold aI at t
 refine aC.tree (by
  intro v l;simp at l
  rcases l with rfl | rfl | rfl
  .exact ot _
  .exact .val _
  .exact bC _) (wW (.val _) (.val _)) λH=>?_
 refine az.of mixed Hu ?_
 unfold oI
 simp(disch:=omega)only[↓wr,seval,wq,Da,cm,encI]
 apply ao.dec<;>intro h1
 .simp(disch:=omega)only[↓wr,seval,wq]
  rw[aaL (by omega)]
 simp(disch:=omega)only[↓wr,seval,wq]
 apply ao.dec<;>intro u
 .simp(disch:=omega)only[↓wr,seval,wq]
  rw[aaL (by omega)]
 rw[aaI (by omega)]
 simp(disch:=omega)only[↓wr,seval,wq]
 refine aW.up syms.length (λi T H'=>∃at_:Int,0<=at_/\at_<a.length/\jT a at_ (syms.drop i)=jT a fr syms/\T 0=cm a/\T 8=gi at_/\T 21=encI syms/\T 22=gi syms.length/\T 23=gi i) ⟨fr,by omega,by omega,rfl,rfl,rfl,rfl,rfl,rfl⟩ ?_
 rintro i k T H' hk ⟨at_,D,E,hw,t0,t8,t21,t22,t23⟩
 simp(disch:=omega)only[↓wr,seval,wq,Ao,t22,t23,encI]
 apply ao.dec<;>intro w
 .have m:syms[i]?=some (syms[i]'(by omega)):=aaH (by omega)
  rw[abt (show i<syms.length by omega)] at hw
  generalize syms[i]'(by omega)=x at m hw
  have f:a[at_.toNat]?=some (a.getD at_.toNat bY):=getD_some (by omega)
  obtain⟨b,c⟩:=he _ (aaV f)
  rw[jT] at hw
  have g:=RQ (λe h=>(c e h).2) x
  generalize a.getD at_.toNat bY=S at f b c hw g
  simp(disch:=omega)only[↓wr,seval,wq,t0,t8,t21,t23,encI,aaJ,m]
  intro q F
  rw[set_set]
  have d:(H'.set q (.arr 1 [[gi x]])) q=.arr 1 [[gi x]]:=by simp[View.set]
  generalize H'.set q (.arr 1 [[gi x]])=n at d
  simp(disch:=omega)only[↓wr,seval,wq,cm,aaJ,f,nk]
  refine ay.cw ((Qb S.cF b 250 [.ptr q 0 0] (λe=>decide (e.sym=x)) n (λe _=>U4 e x q n d)).mono ?_)
  rintro r G ⟨rfl,rfl⟩
  obtain⟨i1,i2⟩:=KU x S.cF 0 (by omega)
  unfold aI at b
  simp(disch:=omega)only[↓wr,seval,wq]
  apply ao.dec<;>intro o
  .simp(disch:=omega)only[↓wr,seval,wq]
   rw[<-hw,i1 o,aaI (by omega)]
  .obtain⟨j,e,y,p,z⟩:=i2 (by omega)
   have I:=(aaO.1 p).1
   rw[y]
   have A:((0:Int)+(j:Int))=(j:Int):=by omega
   rw[A]
   rw[z] at hw g
   unfold bp at g
   simp(disch:=omega)only[↓wr,seval,wq,t0,t8,cm,aaJ,f,nk,kU,p,lX]
   apply ao.dec<;>intro B
   .simp(disch:=omega)only[↓wr,seval,wq]
    rw[<-hw,aaI (by omega)]
   .simp(disch:=omega)only[↓wr,seval,wq,t0,cm]
    apply ao.dec<;>intro C
    .simp(disch:=omega)only[↓wr,seval,wq]
     rw[<-hw,aaI (by omega)]
    .simp(disch:=omega)only[↓wr,seval,wq,t23]
     rw[aaL ⟨by omega,by omega⟩] at hw
     exact aE hk (by omega) ⟨e.to,by omega,by omega,hw,t0,rfl,t21,t22,rfl⟩
 .simp(disch:=omega)only[↓wr,seval,wq,t8]
  rw[aa7 (by omega),jT] at hw
  rw[<-hw]
section
variable {P:Program} {T:Env} {H:View} {K:V->View->Prop} {w:c9 (T,H,K)} {t ty:TypeId}
theorem Wd {d:Operand} {id off len sz bytes s:Nat} {z:List V} {es:List (List V)} (he:pR P t=some (sz,bytes,z)) (h:ev T d=.sl id off len sz) (hH:H id=.arr s es) (i:off+len<=es.length) (j:len≠0)
  (hk:K (.bb []) (H.set id (.arr sz (eQ es off (List.replicate len z))))):jM P (.call { callee:=.builtin .clear,args:=#[d],argTypes:=#[t] }) ty T H K w:=by
 obtain⟨e,ti,b,hi,c,k,f,a,g,rfl,rfl⟩:=lz he
 intro n _
 refine⟨.bb [],.fJ id (.arr ti.size (eQ es off (List.replicate len z))),[id],?_,hk⟩
 simp only[sI,cL,oper]
 simp only[abc] at a
 simp[yR,b,h,cE,c,j,hH,i,g,k,f]
 exact a
end
theorem Bz:∀(xs A B:List (List V)),xs.length<=B.length->eQ (A++B) A.length xs=A++xs++B.drop xs.length
 | [],A,B,_=>by simp[eQ]
 | x::r,A,[],h=>by simp at h
 | x::r,A,b::B,h=>by
  rw[eQ,List.set_append_right _ _ (aaQ _),Nat.sub_self,List.set_cons_zero]
  have:=Bz r (A++[x]) B (by simpa using h)
  simpa using this
theorem Cq {id off k m:Nat} (hm:m<=k):c8 2 (.sl id off k 2) (some (gi m)) none=some (.sl id (off+m) (k-m) 2,.none,[]):=by
 simp[c8,bound,asNat,hm]
theorem KH {id off k m:Nat} (hm:m<=k):c8 2 (.sl id off k 2) none (some (gi m))=some (.sl id off m 2,.none,[]):=by
 simp[c8,bound,asNat,hm]
def gM:SC:=
 ai [ai [ag [af 29 5,af 30 4,aM 31 30,aS 32 .lss 29 31],bQ 32 (.exit 2)],.block 3 (ai [ag [af 35 4,af 36 5,aK 37 2 35 36,aU 38 2 37,af 39 4,af 40 5,aH 41 .sub 40 1,aK 42 2 39 41,aU 43 2 42,((some 44),.op (.old (.binOp .neq 120 (.tmp 38) (.tmp 43) 120) 4))],aX 44 (ai [ag [af 45 0,af 46 3,af 47 4,af 48 5,aK 49 2 47 48,aU 50 2 49,aK 51 2 45 46,cz 2 51 50],ag [af 52 3,aH 53 .add 52 1,af 3 53]])]),ag [af 33 5,aH 34 .add 33 1,af 5 34]]
def gP:SC:=
 ai [ai [ag [af 10 3,af 11 0,aM 12 11,aS 13 .lss 10 12],bQ 13 (.exit 0)],.block 1 (ai [ag [af 16 0,af 17 3,aK 18 2 16 17,aU 19 2 18,af 20 0,af 21 3,aH 22 .sub 21 1,aK 23 2 20 22,aU 24 2 23,((some 25),.op (.old (.binOp .eql 120 (.tmp 19) (.tmp 24) 120) 4))],aX 25 (ai [ag [af 26 0,af 27 3,((some 28),.op (.slice 2 (.tmp 26) (some (.tmp 27)) none)),af 4 28],ai [ag [aT 5 1],bS 2 gM],ag [af 54 0,af 55 3,((some 56),.op (.slice 2 (.tmp 54) (some (.tmp 55)) none)),(none,.op (.old (.call { callee:=.builtin .clear,args:=#[(.tmp 56)],argTypes:=#[103] }) 0))],ag [af 57 0,af 58 3,((some 59),.op (.slice 2 (.tmp 57) none (some (.tmp 58)))),af 2 59],.ret])]),ag [af 14 3,aH 15 .add 14 1,af 3 15]]
def ig:SF:=⟨ai [ag [bU 2 1],ai [ag [af 6 0,aM 7 6,aH 8 .lss 7 2],aX 8 (ai [ag [af 9 0,af 2 9],.ret])],ai [ag [aT 3 1],bS 0 gP],ag [af 60 0,af 2 60],.ret],
 [.tmp 2],61⟩
theorem k6:aJ aa 192 []=some ig:=by kernel_rfl
def Dj:SF:=⟨ai [ag [bU 2 1],ag [af 3 0,qh 4 190 [(.tmp 3),(.val (.fn 191 [] []))]],ag [af 5 0,aV 6 192 [5],af 2 6],.ret],
 [.tmp 2],7⟩
theorem Hd:aJ aa 124 []=some Dj:=by kernel_rfl
theorem uT {l:List aN} {i:Nat} (h:i<l.length):(bf l).getD i []=[gi (l.getD i iQ).aB,gi (l.getD i iQ).dot]:=sQ (getD_some h)
theorem Qn (l:List aN) (i j:Nat) (x d:aN) (hi:i<l.length):(l.set i x).getD j d=if i=j then x else l.getD j d:=by
 rw[I1]
 by_cases e:i=j
 .rw[aaL ⟨e,hi⟩,aaL e]
 .rw[aaI (λh=>e h.1),aaI e]
theorem PN (l:List aN) (U:l.length<=100000) (u:V) (H:View) (C:aQ H u 2 (bf l)):az aa 192 [u] H λr H'=>(∀id,owner u≠some id->H' id=H id)/\aQ H' r 2 (bf (gu l l.length))/\owner r=owner u:=by
 refine az.cut (K:=λr H'=>(H'=H/\r=u/\gu l l.length=l)∨∃id rest,u=.sl id 0 l.length 2/\r=.sl id 0 (gu l l.length).length 2/\H'=H.set id (.arr 2 (bf (gu l l.length)++rest))) ?_ ?_
 rotate_left
 .rintro r H' (⟨rfl,rfl,e⟩ | ⟨id,rest,rfl,rfl,rfl⟩)
  .exact .inl ⟨λ_ _=>rfl,by rw[e];exact C,rfl⟩
  .refine .inr ⟨id,2,bf (gu l l.length),rest,by simp[View.set],λj L=>?_,?_,rfl⟩
   .rw[set_set]
    simp only[View.set]
    rw[aaI (λe=>L (by rw[e];rfl))]
   .rw[set_set]
    exact .inr ⟨id,by rw[bR],by simp[View.set]⟩
 refine az.of mixed k6 ?_
 have hlen:cE u=some l.length:=by rw[C.len,bR]
 simp(disch:=omega)only[↓wr,seval,wq,ig,hlen]
 apply ao.dec<;>intro n
 .simp(disch:=omega)only[↓wr,seval,wq]
  left
  try refine⟨rfl,rfl,?_⟩
  match l,n with
  | [],_=>rfl
  | [x],_=>rfl
  | _::_::_,n=>simp at n;omega
 obtain⟨id,hu,t⟩:=C.sl (by rw[bR];omega)
 rw[bR] at hu
 subst hu
 simp(disch:=omega)only[↓wr,seval,wq]
 refine aW.up (l.length-1) (λi T H'=>H=H'/\(∀j,0<j->j<i+1->l.getD j iQ≠l.getD (j-1) iQ)/\T 0=.sl id 0 l.length 2/\T 3=gi ((i+1:Nat):Int)) ⟨rfl,λj h1 n=>by omega,rfl,rfl⟩ ?_
 rintro i k T _ hk ⟨rfl,o,t0,t3⟩
 simp(disch:=omega)only[↓wr,seval,wq,gP,t0,t3]
 apply ao.dec<;>intro O
 rotate_left
 .simp(disch:=omega)only[↓wr,seval,wq,t0]
  left
  try refine⟨rfl,rfl,?_⟩
  rw[Cj l _ (aaQ _) (λj h1 n=>o j h1 (by omega)),aca]
 have D:i+1<l.length:=by omega
 have P:(((i+1:Nat):Int)-1)=(i:Int):=by omega
 simp(disch:=omega)only[↓wr,seval,wq,t0,t3,t,uT D,uT (show i<l.length by omega),P]
 refine⟨by omega,by rw[bR];omega,?_⟩
 refine⟨by omega,by rw[bR];omega,?_⟩
 generalize M:l.getD (i+1) iQ=x
 generalize N:l.getD i iQ=y
 refine km (xs:=#[.int .i64 x.aB,.int .i64 x.dot]) (ys:=#[.int .i64 y.aB,.int .i64 y.dot]) Tryz.underlying120 (by kernel_rfl) (by kernel_rfl) ?_ ?_ (sU x y) (.inl ⟨rfl,rfl⟩) ?_
 .rfl
 .rfl
 rw[AQ]
 simp(disch:=omega)only[↓wr,seval,wq]
 apply ao.dec<;>intro heq
 rotate_left
 .simp(disch:=omega)only[↓wr,seval,wq,t0,t3]
  refine aE hk (by omega) ⟨rfl,λj h1 n=>?_,t0,by push_cast;rfl⟩
  rcases abg j (i+1) with q | q
  .exact o j h1 q
  .have:j=i+1:=by omega
   subst this
   rw[Nat.add_sub_cancel,M,N];exact heq
 have g:gu l (i+1+1)=l.take (i+1):=by
  rw[gu,aaI,Cj l (i+1) (by omega) o]
  rw[Nat.add_sub_cancel,M,N]
  simp[heq]
 simp(disch:=omega)only[↓wr,seval,wq,t0,t3,Cq (id:=id) (off:=0) (k:=l.length) (m:=i+1) (by omega)]
 refine aW.up (l.length-(i+1)-1) (λi2 T H'=>∃(a:Nat) (cur:List aN),H'=H.set id (.arr 2 (bf cur))/\cur.length=l.length/\i+1<=a/\a<=i+1+i2/\cur.take a=gu l (i+1+(i2+1))/\(∀j,a<=j->cur.getD j iQ=l.getD j iQ) /\
  T 0=.sl id 0 l.length 2/\T 3=gi a/\T 4=.sl id (i+1) (l.length-(i+1)) 2/\T 5=gi ((i2+1:Nat):Int)) ⟨i+1,l,?_,rfl,aaQ _,by omega,by rw[g],λ_ _=>rfl,t0,t3,?_,rfl⟩ ?_
 .funext j;simp only[View.set];split
  .rename_i e;rw[e,t]
  .rfl
 .rfl
 clear t0 t3 hk
 rintro i2 k2 W _ v ⟨a,cur,rfl,w,Q,X,c,d,t0,t3,t4,t5⟩
 have b:(H.set id (.arr 2 (bf cur))) id=.arr 2 (bf cur):=by simp[View.set]
 simp(disch:=omega)only[↓wr,seval,wq,gM,t4,t5]
 apply ao.dec<;>intro E
 .have hp:i+1+(i2+1)<l.length:=by omega
  have R:(((i2+1:Nat):Int)-1)=(i2:Int):=by omega
  simp(disch:=omega)only[↓wr,seval,wq,t4,t5,R,uT (l:=cur) (show i+1+(i2+1)<cur.length by omega),uT (l:=cur) (show i+1+i2<cur.length by omega)]
  refine⟨by omega,by rw[bR];omega,?_⟩
  refine⟨by omega,by rw[bR];omega,?_⟩
  rw[d _ (show a<=i+1+(i2+1) by omega),d _ (show a<=i+1+i2 by omega)]
  generalize A:l.getD (i+1+(i2+1)) iQ=f
  generalize F:l.getD (i+1+i2) iQ=B
  refine km (xs:=#[.int .i64 f.aB,.int .i64 f.dot]) (ys:=#[.int .i64 B.aB,.int .i64 B.dot]) Tryz.underlying120 (by kernel_rfl) (by kernel_rfl) ?_ ?_ (sU f B) (.inr ⟨rfl,rfl⟩) ?_
  .rfl
  .rfl
  rw[AQ]
  simp(disch:=omega)only[↓wr,seval,wq]
  have h:gu l (i+1+(i2+1+1))=if f=B then gu l (i+1+(i2+1)) else gu l (i+1+(i2+1))++[f]:=by
   rw[show i+1+(i2+1+1)=(i+1+(i2+1))+1 by omega,gu,A,show i+1+(i2+1)-1=i+1+i2 by omega,F]
   by_cases e:f=B
   .rw[aaL e,aaI (by simp[e])]
   .rw[aaI e,aaL (.inr e)]
  apply ao.dec<;>intro he
  .simp(disch:=omega)only[↓wr,seval,wq,t0,t3,t5]
   rw[aaL he] at h
   exact aE v (by omega) ⟨a,cur,rfl,w,Q,by omega,by rw[h];exact c,d,t0,t3,t4,by push_cast;rfl⟩
  .simp(disch:=omega)only[↓wr,seval,wq,t0,t3,t4,t5,uT (l:=cur) (show i+1+(i2+1)<cur.length by omega)]
   rw[d _ (show a<=i+1+(i2+1) by omega),A]
   have p:(bf cur).getD a []=[gi (cur.getD a iQ).aB,gi (cur.getD a iQ).dot]:=uT (by omega)
   have G:(bf cur).set a [gi f.aB,gi f.dot]=bf (cur.set a f):=by simp[bf,bK]
   simp(disch:=omega)only[seval,wq,p,G]
   rw[set_set]
   rw[aaI he] at h
   refine⟨by omega,by rw[bR];omega,?_⟩
   refine⟨by omega,by rw[bR];omega,?_⟩
   refine aE v (by omega) ⟨a+1,cur.set a f,rfl,by simp[w],by omega,by omega,?_,λj L=>?_,t0,by push_cast;rfl,t4,by push_cast;rfl⟩
   .rw[h,<-c,aa2,List.take_set_of_le (aaQ _),acA (by omega)];rfl
   .rw[Qn _ _ _ _ _ (by omega),aaI (by omega)]
    exact d j (by omega)
 .have I:i+1+(i2+1)=l.length:=by omega
  rw[I] at c
  have S:l.length-a≠0:=by omega
  have p:a=(gu l l.length).length:=by rw[<-c,abL];omega
  simp(disch:=omega)only[↓wr,seval,wq,t0,t3,Cq (id:=id) (off:=0) (k:=l.length) (m:=a) (by omega)]
  refine Wd (id:=id) (off:=a) (len:=l.length-a) (sz:=2) (bytes:=16) (s:=2) (z:=[gi 0,gi 0]) (es:=bf cur) (by kernel_rfl) (by simp(disch:=omega)only[↓wr,seval];try rw[abx]) b (by rw[bR];omega) S ?_
  rw[set_set]
  have J:eQ (bf cur) a (List.replicate (l.length-a) [gi 0,gi 0])=bf (gu l l.length)++List.replicate (l.length-a) [gi 0,gi 0]:=by
   have h1:=Bz (List.replicate (l.length-a) [gi 0,gi 0]) (bf (cur.take a)) (bf (cur.drop a)) (by simp[bf];omega)
   rw[show bf (cur.take a)++bf (cur.drop a)=bf cur by rw[bf,bf,<-aa8,acJ];rfl] at h1
   rw[show (bf (cur.take a)).length=a by rw[bR,abL];omega] at h1
   rw[h1,c,aa7 (by simp[bf];omega),abo]
  rw[J]
  simp(disch:=omega)only[↓wr,seval,wq,t0,t3,KH (id:=id) (off:=0) (k:=l.length) (m:=a) (by omega)]
  right
  exact⟨id,List.replicate (l.length-a) [gi 0,gi 0],rfl,by rw[p],rfl⟩
theorem OG (l:List aN) (h:l.length<=100000) (u:V) (H:View) (c:aQ H u 2 (bf l)):az aa 124 [u] H λr H'=>(∀id,owner u≠some id->H' id=H id)/\aQ H' r 2 (bf (CD l))/\owner r=owner u:=by
 refine az.of mixed Hd ?_
 simp(disch:=omega)only[↓wr,seval,wq,Dj]
 refine ay.cw ((VM l (by omega) u H c).mono ?_)
 rintro r d ⟨rfl,k2,e⟩
 simp(disch:=omega)only[↓wr,seval,wq]
 refine ay.cw ((PN (fo l) (by rw[j0];omega) u d e).mono ?_)
 rintro r i ⟨f,b,g⟩
 simp(disch:=omega)only[↓wr,seval,wq]
 rw[j0] at b
 exact⟨λid a=>by rw[f id a,k2 id a],b,g⟩
def B0:SF:=⟨ai [ag [cg 2 0,bU 4 1],ai [ag [af 5 1,aH 6 .eql 5 (-1)],aX 6 (ai [ag [aw 7 3 2,au 8 7,((some 9),.op (.arith .sub (.val (.val (.int .i64 (-1)))) (.tmp 8))),((some 10),.op (.bO 1 1 [(.val (.int .i64 0))] [(0,(.tmp 9))])),af 4 10],.ret])],ag [aw 11 2 2,au 12 11,af 13 1,aK 14 3 12 13,aw 15 1 14,au 16 15,af 4 16],.ret],
 [.tmp 4],17⟩
theorem EO:aJ aa 244 [2]=some B0:=by kernel_rfl
def Dp:SF:=⟨ai [ag [cg 2 0,cg 3 1,aT 4 0,bh 5 false],ai [ag [aU 7 4 2,aw 8 0 3,au 9 8,aV 10 244 [7,9],af 6 10],ag [aw 11 1 3,au 12 11,af 13 6,aM 14 13,aS 15 .lss 12 14],aX 15 (ai [ag [af 16 6,aw 17 1 3,au 18 17,aK 19 1 16 18,au 20 19,af 4 20,bh 5 true],.ret])],ag [aT 4 0,bh 5 false],.ret],
 [.tmp 4,.tmp 5],21⟩
theorem Hl:aJ aa 187 [2,3]=some Dp:=by kernel_rfl
def DA:SF:=⟨ai [ag [cg 2 0,aT 4 0],ai [ag [af 5 1,aH 6 .lss 5 0],aX 6 (ai [ag [aw 7 0 2,au 8 7,aM 9 8,aH 10 .sub 9 1,af 11 1,aS 12 .sub 10 11,af 4 12],.ret])],ag [af 13 1,af 4 13],.ret],
 [.tmp 4],14⟩
theorem GS:aJ aa 188 [2]=some DA:=by kernel_rfl
def dt:SF:=⟨ai [ag [bU 2 1],ai [ag [af 3 0,((some 4),.op (.nil true 0 (.tmp 3) (.val (.emp 1))))],aX 4 (ai [ag [bU 2 1],.ret])],ag [bU 5 2,af 6 0,fP 7 2 16 5 6,af 2 7],.ret],
 [.tmp 2],8⟩
theorem dL:aJ aa 189 []=some dt:=by kernel_rfl
def vG:SC:=
 ai [ag [aS 54 .lss 53 52],bQ 54 (.exit 2),.block 3 (ai [ag [af 55 53,aK 56 3 51 53,aU 57 3 56,((some 11),.op (.alloc [(.val (.int .i64 0)),(.emp 1),(.val (.int .i64 0))])),af 10 55,cz 3 11 57],ag [aw 58 0 11,au 59 58,af 60 8,((some 61),.op (.arith .sub (.val (.val (.int .i64 (-1)))) (.tmp 60))),aS 62 .eql 59 61],aX 62 (ag [af 63 5,af 64 10,((some 65),.op (.build [(.val (.int .i64 0)),(.val (.int .i64 0))] [(0,1,(.tmp 64))])),((some 66),.op (.bO 1 2 [(.val (.int .i64 0)),(.val (.int .i64 0))] [(0,(.tmp 65))])),fP 67 2 16 63 66,af 5 67])]),ag [aH 68 .add 53 1,af 53 68]]
def vN:SC:=
 ai [ai [ag [af 18 7,af 19 5,aM 20 19,aS 21 .lss 18 20],bQ 21 (.exit 0)],.block 1 (ai [ag [aU 25 4 2,af 26 5,af 27 7,aK 28 2 26 27,aU 29 2 28,aV 30 187 [25,29],af 24 30,du 31 0 24,du 32 1 24,af 8 31,af 9 32],ai [.region false [⟨none,[af 33 9,cX 34 33,af 35 34]⟩,⟨(some (35,false)),[af 36 8,aH 37 .geq 36 0]⟩,⟨none,[cG 38 35 37,af 39 38]⟩,⟨(some (39,false)),[af 40 6,af 41 8,((some 42),.op (.arith .sub (.val (.val (.int .i64 (-1)))) (.tmp 41))),aK 43 1 40 42,au 44 43]⟩,⟨none,[cG 45 39 44]⟩],aX 45 (.exit 1)],ag [af 46 6,af 47 8,((some 48),.op (.arith .sub (.val (.val (.int .i64 (-1)))) (.tmp 47))),aK 49 1 46 48,(none,.op (.store 1 (.tmp 49) (.val (.val (.bool true)))))],ag [aw 50 2 2,au 51 50,aM 52 51,aT 53 0],bS 2 vG]),ag [af 22 7,aH 23 .add 22 1,af 7 23]]
def yL:SF:=⟨ai [ag [cg 2 0,bU 4 1],ag [af 12 1,aV 13 189 [12],af 5 13],ag [aw 14 1 2,au 15 14,aM 16 15,((some 17),.op (.make 1 1 [(.val (.bool false))] (.tmp 16) (.tmp 16))),af 6 17],ai [ag [aT 7 0],bS 0 vN],ag [af 69 5,aV 70 124 [69],af 4 70],.ret],
 [.tmp 4],71⟩
theorem CX:aJ aa 123 [2]=some yL:=by kernel_rfl
theorem Uq (g:aj) (d : -100<=g.start/\g.start<=100) (r:Int) (hr : -1<=r/\r<(g.rules.length:Int)):aC aa 244 [.agg (ak g),gi r] (encI (bV g r)):=by
 refine aC.of (by
  intro v a;simp at a
  rcases a with rfl | rfl
  .exact bW _ (cB g)
  .exact .val _) ?_
 refine az.of mixed EO ?_
 unfold bV
 simp(disch:=omega)only[↓wr,seval,wq,B0,ak,encS]
 apply ao.eq<;>intro h1
 .simp(disch:=omega)only[↓wr,seval,wq]
  intro n
  rw[aaL h1]
  rintro c a
  refine dF.fr (jx (l:=[-1-g.start]) (.inr ⟨n,rfl,?_⟩))
  rw[a];simp[View.set]
 .have b:g.rules[r.toNat]?=some (b6 g r):=by unfold b6;exact getD_some (by omega)
  rw[aaI h1]
  generalize b6 g r=R at b
  simp(disch:=omega)only[↓wr,seval,wq,aaJ,b,aO]
  intro c _
  exact .tree _ (bC R.right)
theorem Mm (g:aj) (c:g.c5) (x:aN) (b:cT g x):aC aa 187 [.agg (ak g),.agg (bK x)] (.bb [gi (bI g x).1,gb (bI g x).2]):=by
 have h1:=Uq g (j9 c) x.aB b.1
 have d:=dY c b.1
 have e:=b.2
 refine aC.tree (by
  intro v a;simp at a
  rcases a with rfl | rfl
  .exact bW _ (cB g)
  .exact bW _ λv a=>by simp[bK] at a;rcases a with rfl | rfl<;>exact .val _) (.bb _ λi hi=>by
   match i,hi with
   | 0,_=>exact .val _
   | 1,_=>exact .val _) λH=>?_
 refine az.of mixed Hl ?_
 simp only[ak,encS,encI] at h1
 unfold bI
 simp(disch:=omega)only[↓wr,seval,wq,Dp,ak,encS,bK]
 refine ay.pure h1 ?_
 generalize bV g x.aB=R at e d ⊢
 simp(disch:=omega)only[↓wr,seval,wq]
 apply ao.dec<;>intro f
 .have h:R[x.dot.toNat]?=some (R.getD x.dot.toNat 0):=getD_some (by omega)
  simp(disch:=omega)only[↓wr,seval,wq,aaJ,h]
  rw[aaI (by omega)]
 .simp(disch:=omega)only[↓wr,seval,wq]
  rw[aaL (by omega)]
theorem V6 (g:aj) (b:g.c5) (s:Int) (c : -1000<=s/\s<=1000):aC aa 188 [.agg (ak g),gi s] (gi (oK g s)):=by
 have d:=b.ax
 refine aC.val (by
  intro v a;simp at a
  rcases a with rfl | rfl
  .exact bW _ (cB g)
  .exact .val _) λH=>?_
 refine az.of mixed GS ?_
 unfold oK
 simp(disch:=omega)only[↓wr,seval,wq,DA,ak,encS]
 apply ao.dec<;>intro h1
 .simp(disch:=omega)only[↓wr,seval,wq]
  rw[aaL h1]
 .simp(disch:=omega)only[↓wr,seval,wq]
  rw[aaI h1]
theorem bZ.ZR {P:Program} {f:FuncId} {h:Heap} {u:V} (hu:∀Z μ hp x,aD Z μ hp u x->∃a cap,x=.slice a 0 cap/\(a=none->cap=0)) (h1:bZ P f [.emp 1] h (.emp 1) h) (n:bZ P f [.emp 2] h (.emp 2) h) (o:bZ P f [.ez] h (.emp 2) h):bZ P f [u] h (.emp 0) h:=by
 refine⟨aaQ _,λZ μ F w xs j hr d=>?_⟩
 obtain⟨p,q⟩:=j
 obtain⟨x,rfl⟩:∃x,xs=[x]:=by
  match xs,p with
  | [x],_=>exact⟨x,rfl⟩
 have r:aD Z μ w.heap u x:=q 0 (by simp)
 have one:∀v,aD Z μ w.heap v x->gG Z μ w.heap [v] [x]:=λv h=>⟨rfl,λi hi=>by
  simp at hi;subst hi;exact h⟩
 have b:∀k,bZ P f [if k=3 then .ez else .emp k] h (if k=3 then .emp 2 else .emp k) h->aD Z μ w.heap (if k=3 then .ez else .emp k) x->Calls P f [x].toArray w λe w'=>∃x g μ',e=.returned x/\aD g μ' w'.heap (.emp 0) x/\eO g μ' w'.heap (cat h F)/\Ext Z μ w h.length g μ' w'/\(∀id,id<h.length∨h.length<=id->μ' id=μ id):=by
  intro k hk s
  refine(hk.2 Z μ F w [x] (one _ s) hr d).mono ?_
  rintro e w' ⟨y,g,μ',rfl,l,rest⟩
  refine⟨y,g,μ',rfl,?_,rest⟩
  have:∀m,aD g μ' w'.heap (.emp m) y->aD g μ' w'.heap (.emp 0) y:=λm h=>by
   cases h with | emp _ a _ _=>exact .emp 0 a (by simp) (by simp)
  split at l<;>exact this _ l
 obtain⟨a,cap,rfl,t⟩:=hu Z μ w.heap x r
 cases a with
 | none =>
  have:=t rfl
  subst this
  exact b 1 (by simpa using h1) (.emp 1 none (by simp) (by simp))
 | some a =>
  cases cap with
  | zero=>exact b 2 (by simpa using n) (.emp 2 (some a) (by simp) (by simp))
  | succ c=>exact b 3 (by simpa using o) (.ez a (c+1))
theorem RY {Z:Nat->Prop} {μ:Mu} {hp:Array Obj} {k:Nat} {x:Value} (h:aD Z μ hp (.emp k) x):∃a cap,x=.slice a 0 cap/\(a=none->cap=0):=by
 cases h with | emp _ a _ _=>exact⟨a,0,rfl,λ_=>rfl⟩
theorem Rm {Z:Nat->Prop} {μ:Mu} {hp:Array Obj} {id off esz:Nat} {x:Value} (h:aD Z μ hp (.sl id off 0 esz) x):∃a cap,x=.slice a 0 cap/\(a=none->cap=0):=by
 rcases KL h with ⟨_,a,e⟩ | ⟨b,o0,cap,c,e,f,d,_⟩
 .exact⟨a,0,e,λ_=>rfl⟩
 .exact⟨_,cap,d,λh=>by simp at h⟩
theorem Mq (u:V) (hu:∀Z μ hp x,aD Z μ hp u x->∃a cap,x=.slice a 0 cap/\(a=none->cap=0)) (h:Heap):bZ aa 189 [u] h (.emp 0) h:=by
 have hp:∀v t,Tree v->Tree t->(∀H,az aa 189 [v] H λr _=>r=t)->aC aa 189 [v] t:=λv t c d h=>aC.tree (by intro x b;simp at b;subst b;exact c) d h
 have h1:=hp (.emp 1) (.emp 1) (.emp 1) (.emp 1) (λH=>by
  refine az.of mixed dL ?_
  simp(disch:=omega)only[↓wr,seval,wq,dt])
 have e:=hp (.emp 2) (.emp 2) (.emp 2) (.emp 2) (λH=>by
  refine az.of mixed dL ?_
  simp(disch:=omega)only[↓wr,seval,wq,dt,kc])
 have f:=hp .ez (.emp 2) .ez (.emp 2) (λH=>by
  refine az.of mixed dL ?_
  simp(disch:=omega)only[↓wr,seval,wq,dt,sx,kc])
 exact bZ.ZR hu (bZ.hZ h1 h) (bZ.hZ e h) (bZ.hZ f h)
theorem Ph (l:List aN) (d:l.length<=100000) (u:V) (H:View) (b:aQ H u 2 (bf l)):az aa 189 [u] H λr H'=>aQ H' r 2 (bf l)/\ct H H' r:=by
 cases l with
 | nil =>
  refine⟨by kernel_rfl,?_⟩
  rintro h rfl
  refine⟨.emp 0,h,Mq u (λZ μ hp x c=>?_) h,.refl _,.nil,.emp⟩
  rcases b with ⟨_,k,rfl⟩ | ⟨n,rfl,_⟩
  .exact RY c
  .exact Rm c
 | cons x r =>
  obtain⟨id,hu,a⟩:=b.sl (by rw[bR];simp)
  subst hu
  refine az.of mixed dL ?_
  have he:=j7 (H:=H) id 0 r.length 2 2 (bf (x::r)) a (by rw[bR];simp)
  rw[abI,aaY (by rw[bR];simp)] at he
  simp only[aaS] at d
  have hlen:(bf (x::r)).length=r.length+1:=by rw[bR];rfl
  rw[hlen]
  simp(disch:=omega)only[↓wr,seval,wq,dt,he]
  refine fE (es:=[]) (.inl ⟨rfl,2,rfl⟩) (by simp[bf,bK,aL]) (by unfold aF;rw[hlen];simp;omega) (by unfold aF;rw[hlen];simp;omega) ?_
  intro i m e f
  simp(disch:=omega)only[↓wr,seval,wq]
  refine⟨by simpa using e,λj g=>?_⟩
  exact f j g (by simp[owner])
def dS (ks:List Nat):List aN:=ks.map λ(k:Nat)=>(⟨k,0⟩:aN)
theorem AS {a:List Nat} {n:Nat} (h:a.Nodup) (hk:∀k∈a,k<n):a.length<=n:=by
 have:=sH a (List.range n) h λx b=>abH.2 (hk x b)
 simpa using this
theorem R4 {l:List Bool} {i:Nat} (h:i<l.length):(bT l).getD i []=[gb (l.getD i false)]:=by
 simp[h]
structure R0 (g:aj) (l:List aN) (H H':View) (i:Nat) (r su:V) (ks:List Nat) (seen:List Bool):Prop where
 own:bw H' [(r,2,bf (l++dS ks)),(su,1,bT seen)]
 f1:ct H H' r
 f2:ct H H' su
 nd:ks.Nodup
 kl:∀k∈ks,k<g.rules.length
 sl:seen.length=g.av.length
 s1:∀(n k:Nat) (R:bc),seen.getD n false=true->g.rules[k]?=some R->R.left=n->k∈ks
 s2:∀(k:Nat) (R:bc),k∈ks->g.rules[k]?=some R->seen.getD R.left.toNat false=true
 cl:∀x∈l++dS ks,oN g l x
 dn:∀(j:Nat) (x:aN) (s:Int),j<i->(l++dS ks)[j]?=some x->bI g x=(s,true)->s<0->seen.getD (-1-s).toNat false=true
 il:i<=(l++dS ks).length
theorem R0.len {g:aj} {l:List aN} {H H':View} {i:Nat} {r b:V} {a:List Nat} {seen:List Bool} (h:R0 g l H H' i r b a seen):a.length<=g.rules.length/\(l++dS a).length=l.length+a.length:=by
 refine⟨AS h.nd h.kl,by simp[dS]⟩
def AcJ (g:aj) (l:List aN) (H:View) (m:Nat) (T:Env) (H':View):Prop:=∃(i:Nat) (r su:V) (ks:List Nat) (seen:List Bool),m=l.length+g.rules.length-i/\R0 g l H H' i r su ks seen/\T 2=.aP (ak g) 0/\T 5=r/\T 6=su/\T 7=gi i
theorem MS (g:aj) (X:g.c5) (l:List aN) (hl:∀x∈l,cT g x) (P:l.length<=10000) (u:V) (H:View) (ho:aQ H u 2 (bf l)):az aa 123 [.agg (ak g),u] H λr H'=>aQ H' r 2 (bf (dp g l))/\ct H H' r:=by
 refine az.of mixed CX ?_
 have b9:=X.rules
 have ca:=X.av
 simp(disch:=omega)only[↓wr,seval,wq,yL,ak,encS]
 refine ay.cw ((Ph l (by omega) u H ho).mono ?_)
 rintro r H1 ⟨o1,f1⟩
 simp(disch:=omega)only[↓wr,seval,wq]
 refine⟨⟨aaQ _,by unfold aF;omega,by unfold aF;omega⟩,λY=>?_,λY q z=>?_⟩
 .exact absurd (by have:=X.lg;omega) (show ¬ g.av.length=0 by have:=X.lg;omega)
 have ae:R0 g l H (H1.set q (.arr 1 (List.replicate g.av.length [gb false]))) 0 r (.sl q 0 g.av.length 1) [] (List.replicate g.av.length false):=by
  have e:List.replicate g.av.length [gb false]=bT (List.replicate g.av.length false):=by simp
  have b1:bw H1 [(r,2,bf l)]:=⟨λx C=>by simp at C;subst C;exact o1,by
   cases hr:owner r<;>simp[hr]⟩
  have b2:H q=.dead∨H q≠.dead:=by cases H q<;>simp
  have E:H q=.dead:=by
   rcases b2 with h | h
   .exact h
   .have:=(f1 q h).1;rw[z] at this;exact absurd this.symm h
  refine⟨?_,λid c=>?_,λid c=>?_,.nil,by simp,by simp,λn k R h=>?_,by simp,λx C=>.base (by simpa [dS] using C),λj x s h=>by omega,abY _⟩
  .have N:=(b1.new z 1 (List.replicate g.av.length [gb false])).perm (.swap _ _ _)
   rw[acF] at N
   rw[e] at N ⊢
   simpa [dS] using N
  .have Q:id≠q:=by rintro rfl;exact c E
   exact⟨by simp only[View.set];rw[aaI Q];exact(f1 id c).1,(f1 id c).2⟩
  .have Q:id≠q:=by rintro rfl;exact c E
   exact⟨by simp only[View.set];rw[aaI Q];exact(f1 id c).1,by simp[owner,Ne.symm Q]⟩
  .simp only[aaG,abA] at h
   split at h<;>simp at h
 generalize H1.set q (.arr 1 (List.replicate g.av.length [gb false]))=H2 at ae ⊢
 refine aW.intro (AcJ g l H) (l.length+g.rules.length) ⟨0,r,_,[],_,by omega,ae,rfl,rfl,rfl,rfl⟩ ?_
 clear ae o1 f1 z
 rintro m T H' ⟨i,r,J,w,seen,rfl,d,t2,t5,t6,t7⟩
 obtain⟨cb,cc⟩:=d.len
 have b3:cE r=some (l++dS w).length:=by rw[d.own.head.len,bR]
 simp(disch:=omega)only[↓wr,seval,wq,vN,t5,t7,b3]
 apply ao.dec<;>intro hc
 rotate_left
 ·
  have hi:i=(l++dS w).length:=by have:=d.il;omega
  simp(disch:=omega)only[↓wr,seval,wq,t5]
  refine ay.cw ((OG (l++dS w) (by omega) r H' d.own.head).mono ?_)
  rintro S H3 ⟨k3,o3,e3⟩
  simp(disch:=omega)only[↓wr,seval,wq]
  have b4:dp g l=CD (l++dS w):=DU X hl (Fh _) (λx C=>d.cl x (sR.1 C)) (λx C=>sR.2 (by simp[C])) (λx C s k R h1 N O h4=>by
   obtain⟨j,hj,e⟩:=acj.1 (sR.1 C)
   have h5:=d.dn j x s (by omega) (by rw[aaH hj,e]) h1 N
   have h6:=d.s1 _ k R h5 O (by omega)
   exact sR.2 (List.mem_append_right _ (aa4.2 ⟨k,h6,rfl⟩)))
  rw[b4]
  refine⟨o3,λid c=>?_⟩
  obtain⟨q1,q2⟩:=d.f1 id c
  exact⟨by rw[k3 id q2,q1],by rw[e3];exact q2⟩
 have C:(l++dS w)[i]?=some ((l++dS w)[i]'(by omega)):=aaH (by omega)
 have a1:=aaP (show i<(l++dS w).length by omega)
 have cf:=d.dn
 generalize (l++dS w)[i]'(by omega)=x at C a1
 have a6:=d.cl x a1
 have al:=a6.has hl
 have h1:=Mm g X x al
 cases F:bI g x with
 | mk s a7 =>
 have ch:=zW X al F
 rw[F] at h1
 obtain⟨id,hu,c⟩:=d.own.head.sl (by rw[bR];omega)
 simp only at hu c
 rw[bR] at hu
 simp only[ak,encS,bK] at h1
 simp(disch:=omega)only[↓wr,seval,wq,t2,t5,t7,hu,c,sQ C,ak,encS]
 refine⟨by omega,by rw[bR];omega,?_⟩
 refine ay.pure h1 ?_
 have skip:(a7=true->s<0->seen.getD (-1-s).toNat false=true)->R0 g l H H' (i+1) r J w seen:=λh =>
  ⟨d.own,d.f1,d.f2,d.nd,d.kl,d.sl,d.s1,d.s2,d.cl,λj y t hj I P Y=>by
   rcases abg j i with q | q
   .exact d.dn j y t q I P Y
   .have:j=i:=by omega
    subst this
    rw[C] at I
    simp only[aaK] at I
    subst I
    rw[F] at P
    simp only[aaN] at P
    obtain⟨rfl,rfl⟩:=P
    exact h rfl Y,by omega⟩
 cases a7 with
 | false =>
  simp(disch:=omega)only[↓wr,seval,wq,t5,t7]
  exact⟨l.length+g.rules.length-(i+1),by omega,i+1,r,J,w,seen,rfl,skip (by simp),t2,by rw[<-hu];exact t5,t6,rfl⟩
 | true =>
 simp(disch:=omega)only[↓wr,seval,wq]
 apply ao.dec<;>intro Y
 .simp(disch:=omega)only[↓wr,seval,wq,t5,t7]
  exact⟨l.length+g.rules.length-(i+1),by omega,i+1,r,J,w,seen,rfl,skip (λ_ h=>by omega),t2,by rw[<-hu];exact t5,t6,rfl⟩
 have hG:=vl X al F
 have a8:(-1-s).toNat<g.av.length:=by
  unfold dN at hG
  rw[aaI (by omega)] at hG
  simp at hG;omega
 obtain⟨K,A,L⟩:=d.own.tail.head.sl (by simp[d.sl];omega)
 simp only at A L
 rw[aaM,d.sl] at A
 have U:(-1-s).toNat<seen.length:=by rw[d.sl];exact a8
 simp(disch:=omega)only[↓wr,seval,wq,t6,A,L,R4 U]
 refine⟨by omega,by simp[d.sl];omega,?_⟩
 apply ao.split<;>intro N
 .simp(disch:=omega)only[↓wr,seval,wq,t5,t7]
  exact⟨l.length+g.rules.length-(i+1),by omega,i+1,r,J,w,seen,rfl,skip (λ_ _=>N),t2,by rw[<-hu];exact t5,by rw[<-A];exact t6,rfl⟩
 obtain⟨n,P⟩:∃n:Nat,-1-s=(n:Int):=⟨(-1-s).toNat,by omega⟩
 have bd:(-1-s).toNat=n:=by omega
 rw[bd] at a8 U N
 have b5:(bT seen).set n [gb true]=bT (seen.set n true):=by simp
 simp(disch:=omega)only[↓wr,seval,wq,t2,t6,A,L,ak,encS,P,R4 U,b5]
 refine⟨by omega,by simp[d.sl];omega,?_⟩
 have an:∀m,(seen.set n true).getD m false=if n=m then true else seen.getD m false:=λm=>by
  rw[I1]
  by_cases e:n=m
  .rw[aaL ⟨e,U⟩,aaL e]
  .rw[aaI (λh=>e h.1),aaI e]
 have o2:bw (H'.set K (.arr 1 (bT (seen.set n true)))) [(r,2,bf (l++dS w)),(J,1,bT (seen.set n true))]:=by
  have O:=d.own.perm (.swap _ _ _)
  rw[A] at O ⊢
  exact(O.put (es':=bT (seen.set n true)) (by simp) (by simp[d.sl])).perm (.swap _ _ _)
 have M:∀id,H id≠.dead->id≠K:=λid c e=>by
  have:=(d.f2 id c).2
  rw[A,e] at this
  exact this rfl
 have aq:ct H (H'.set K (.arr 1 (bT (seen.set n true)))) r:=λid c=>⟨by simp only[View.set];rw[aaI (M id c)];exact(d.f1 id c).1,(d.f1 id c).2⟩
 have ar:ct H (H'.set K (.arr 1 (bT (seen.set n true)))) J:=λid c=>⟨by simp only[View.set];rw[aaI (M id c)];exact(d.f2 id c).1,(d.f2 id c).2⟩
 generalize H'.set K (.arr 1 (bT (seen.set n true)))=H4 at o2 aq ar ⊢
 refine aW.up g.rules.length (λk T Z=>∃(S:V) (f:List Nat),f=w++(List.range k).filter (λ(q:Nat)=>decide ((b6 g q).left=n))/\bw Z [(S,2,bf (l++dS f)),(J,1,bT (seen.set n true))]/\ct H Z S/\ct H Z J /\
  T 2=.aP (ak g) 0/\T 5=S/\T 6=J/\T 7=gi i/\T 8=gi s/\T 51=.aZ (g.rules.map aO)/\T 52=gi g.rules.length/\T 53=gi k) ⟨r,w,by simp,o2,aq,ar,t2,by rw[<-hu];exact t5,by rw[<-A];exact t6,t7,rfl,rfl,rfl,rfl⟩ ?_
 clear t2 t5 t6 t7 o2 aq ar
 rintro k j T5 Z hk ⟨S,f,G,o5,f5,g5,t2,t5,t6,t7,t8,t51,t52,t53⟩
 have bl:∀q,q∈w->¬ (b6 g q).left=n:=λq z e=>by
  have hR:g.rules[q]?=some (b6 g q):=by unfold b6;exact getD_some (d.kl q z)
  have:=d.s2 q _ z hR
  rw[e] at this
  simp only[abk] at this
  rw[N] at this;simp at this
 have ab:f.Nodup:=by
  rw[G,ab2]
  refine⟨d.nd,(List.nodup_range).filter _,λa ha b hb e=>?_⟩
  subst e
  exact bl a ha (by simpa using (abR.1 hb).2)
 simp(disch:=omega)only[↓wr,seval,wq,vG,t52,t53]
 apply ao.dec<;>intro b7
 .have hR:g.rules[k]?=some (b6 g k):=by unfold b6;exact getD_some (by omega)
  have bn:∀q∈f,q<g.rules.length:=λq z=>by
   rw[G] at z
   rcases aa0.1 z with h | h
   .exact d.kl q h
   .have:=abH.1 (abR.1 h).1;omega
  have cj:=AS ab bn
  have p:w++(List.range (k+1)).filter (λ(q:Nat)=>decide ((b6 g q).left=n))=if (b6 g k).left=n then f++[k] else f:=by
   rw[ab9,acI,<-abM,<-G]
   by_cases e:(b6 g k).left=n<;>simp[e]
  generalize b6 g k=R at hR p
  simp(disch:=omega)only[↓wr,seval,wq,t8,t51,t53,aaJ,hR,aO]
  intro q z
  rw[set_set]
  have br:(Z.set q (.arr 3 [[gi R.left,encI R.right,gi R.prec]])) q=.arr 3 [[gi R.left,encI R.right,gi R.prec]]:=by simp[View.set]
  have E:∀id,H id≠.dead->id≠q:=λid c e=>by
   have:=(f5 id c).1
   rw[e,z] at this
   exact c (by rw[e];exact this.symm)
  have o6:=o5.fresh (o:=.arr 3 [[gi R.left,encI R.right,gi R.prec]]) z
  have f6:ct H (Z.set q (.arr 3 [[gi R.left,encI R.right,gi R.prec]])) S:=λid c=>⟨by simp only[View.set];rw[aaI (E id c)];exact(f5 id c).1,(f5 id c).2⟩
  have g6:ct H (Z.set q (.arr 3 [[gi R.left,encI R.right,gi R.prec]])) J:=λid c=>⟨by simp only[View.set];rw[aaI (E id c)];exact(g5 id c).1,(g5 id c).2⟩
  generalize Z.set q (.arr 3 [[gi R.left,encI R.right,gi R.prec]])=H6 at br o6 f6 g6
  clear o5 f5 g5 z E
  simp(disch:=omega)only[seval,P]
  refine⟨rfl,?_⟩
  apply ao.eq<;>intro he
  .simp(disch:=omega)only[↓wr,seval,wq,t5]
   intro q2 bs
   simp(disch:=omega)only[↓wr,seval,wq,bE]
   have D:∀id,H id≠.dead->id≠q2:=λid c e=>by
    have:=(f6 id c).1
    rw[e,bs] at this
    exact c (by rw[e];exact this.symm)
   refine dC (o6.fresh bs) (by simp[aL]) (by unfold aF;rw[bR];simp[dS];omega) (by unfold aF;rw[bR];simp[dS];omega) ?_
   intro r3 H7 o7 l7
   simp(disch:=omega)only[↓wr,seval,wq,t7,t53]
   rw[aaL he] at p
   have f7:∀v,ct H H6 v->(∀id,owner v=some id->owner S≠some id/\owner r3≠some id)->ct H H7 v:=λv hv ck id c=>by
    obtain⟨e1,e2⟩:=hv id c
    obtain⟨k1,k2⟩:=l7 id (by simp only[View.set];rw[aaI (D id c),e1];exact c) (f6 id c).2
    refine⟨?_,e2⟩
    rw[k1]
    simp only[View.set]
    rw[aaI (D id c),e1]
   have f8:ct H H7 r3:=λid c=>by
    obtain⟨e1,e2⟩:=f6 id c
    obtain⟨k1,k2⟩:=l7 id (by simp only[View.set];rw[aaI (D id c),e1];exact c) e2
    refine⟨?_,k2⟩
    rw[k1]
    simp only[View.set]
    rw[aaI (D id c),e1]
   refine aE hk (by omega) ⟨r3,f++[k],p.symm,?_,f8,λid c=>⟨(f8 id c).1,(g6 id c).2⟩,t2,rfl,t6,t7,t8,t51,t52,rfl⟩
   have e1:bf (l++dS (f++[k]))=bf (l++dS f)++[[gi k,gi 0]]:=by simp[bf,dS,bK]
   rw[e1]
   exact o7
  .simp(disch:=omega)only[↓wr,seval,wq,t5,t7,t53]
   rw[aaI he] at p
   exact aE hk (by omega) ⟨S,f,p.symm,o6,f6,g6,t2,t5,t6,t7,t8,t51,t52,rfl⟩
 .have b8:k=g.rules.length:=by omega
  subst b8
  simp(disch:=omega)only[↓wr,seval,wq,t5,t7]
  have B:∀q,q∈f↔q∈w∨(q<g.rules.length/\(b6 g q).left=n):=λq=>by
   rw[G,aa0,abR,abH,aaX]
  have bx:∀(q:Nat) (R:bc),g.rules[q]?=some R->b6 g q=R:=λq R h=>by
   unfold b6
   rw[abk,aaG,h];rfl
  have b0:∀(j:Nat),j<=i->(l++dS f)[j]?=(l++dS w)[j]?:=λj hj=>by
   rw[G,dS,aa8,<-abM]
   exact abf (by simp only[dS] at hc;omega)
  refine⟨l.length+g.rules.length-(i+1),by omega,i+1,S,J,f,seen.set n true,rfl,⟨o5,f5,g5,ab,λq z=>?_,by rw[acm];exact d.sl,λm q R O h4 h5=>?_,λq R O h4=>?_,λy I=>?_,λj y t hj I W Y=>?_,?_⟩,t2,t5,t6,rfl⟩
  .rcases (B q).1 z with h | h
   .exact d.kl q h
   .exact h.1
  .rw[an] at O
   split at O
   .rename_i e
    subst e
    exact(B q).2 (.inr ⟨(aaO.1 h4).1,by rw[bx q R h4];exact h5⟩)
   .exact(B q).2 (.inl (d.s1 m q R O h4 h5))
  .rw[an]
   rcases (B q).1 O with h | h
   .split
    .rfl
    .exact d.s2 q R h h4
   .rw[bx q R h4] at h
    rw[h.2,abk,aaL rfl]
  .rcases aa0.1 I with h | h
   .exact d.cl y (List.mem_append_left _ h)
   .obtain⟨q,z,rfl⟩:=aa4.1 h
    rcases (B q).1 z with h | h
    .exact d.cl _ (List.mem_append_right _ (aa4.2 ⟨q,h,rfl⟩))
    .have hR:g.rules[q]?=some (b6 g q):=by unfold b6;exact getD_some h.1
     exact .step a6 F (by omega) hR (by rw[h.2,P])
  .rw[b0 j (by omega)] at I
   rw[an]
   rcases abg j i with q | q
   .split
    .rfl
    .exact d.dn j y t q I W Y
   .have:j=i:=by omega
    subst this
    rw[C] at I
    simp only[aaK] at I
    subst I
    rw[F] at W
    simp only[aaN,and_true] at W
    subst W
    rw[bd,aaL rfl]
  .rw[G,dS,aa8,<-abM,aa5]
   simp only[dS] at hc
   omega
def iY (l:List UInt8):Value:=.string ⟨l.toArray⟩
theorem LN {a b:List UInt8} : ((⟨a.toArray⟩:ByteArray)==⟨b.toArray⟩)=(a==b):=by
 show (a.toArray==b.toArray)=_
 simp
theorem Kp {P:Program} {kt:TypeId} (h:P.underlying kt=some .string):D6 P kt iY where
 ty:=⟨_,h,λa b=>by simp only[Instr.sameNow,iY,LN],λa e=>zu h trivial e 9999 _⟩
 bits:=λa b c=>by
  have:a=b:=by simpa using c
  subst this
  show ((⟨a.toArray⟩:ByteArray)==⟨a.toArray⟩)=true
  rw[LN];simp
def si (l:List aN):List Int:=l.flatMap λx=>[x.aB+1,x.dot]
theorem UE (l:List aN):(si l).length=2*l.length:=by
 induction l with
 | nil=>rfl
 | cons x l a=>simp only[si,List.flatMap_cons,aa5,aaS,abe] at a ⊢;omega
theorem EI:∀l:List aN,mC ((si l).map λn=>[gy n])=some (gT l)
 | []=>rfl
 | x::l=>by
  have a:=EI l
  simp only[si,gT,List.flatMap_cons,abl,abD,aba,mC] at a ⊢
  rw[a];rfl
theorem WK {x:Int} (h1:0<=x) (c:x<256):IntKind.wrap .u8 x=x:=by
 unfold IntKind.wrap
 have a:(2:Int) ^ IntKind.u8.bits=256:=by rfl
 have b:IntKind.u8.signed=false:=by rfl
 simp only[a,b,ab0,aa9,if_false]
 omega
theorem Yf {P:Program} {T:Env} {H:View} {K:V->View->Prop} {w:c9 (T,H,K)} {t e d ty:TypeId} {x:Operand} {u:V} {xs:List (List V)} {rd:List Nat} {l:List UInt8} {k:Nat} (hu:P.underlying t=some (.slice e)) (he:P.underlying e=some (.int .u8)) (a:P.underlying d=some .string)
  (b:ev T x=u) (c:bM H u=some (xs,rd)) (f:cE u=some k) (g:mC xs=some l) (hk:K (.val (iY l)) H):jM P (.convert t d x) ty T H K w:=by
 intro n _
 have h:mw P t d=true:=by simp[mw,hu]
 refine⟨.val (iY l),.none,rd,?_,hk⟩
 simp only[sI,cL,oper]
 rw[aaL h,b]
 simp[oW,hu,he,a,c,f,g,iY]
def x5:SC:=
 ai [ag [aS 15 .lss 14 13],bQ 15 (.exit 0),.block 1 (ai [ag [aK 16 2 12 14,aU 17 2 16,((some 7),.op (.alloc [(.val (.int .i64 0)),(.val (.int .i64 0))])),cz 2 7 17],ag [aU 19 4 2,aU 20 2 7,aV 21 187 [19,20],af 18 21,du 22 0 18,du 23 1 18,af 8 22,af 9 23],ag [af 24 9],aX 24 (ai [ag [aU 25 4 2,af 26 8,aV 27 188 [25,26],af 10 27],ag [af 28 5,af 29 10,af 30 5,af 31 10,((some 32),.op (.old (.lookup 209 (.tmp 30) (.tmp 31) false) 103)),aw 33 0 7,au 34 33,aw 35 1 7,au 36 35,aH 37 .add 36 1,((some 38),.op (.build [(.val (.int .i64 0)),(.val (.int .i64 0))] [(0,1,(.tmp 34)),(1,1,(.tmp 37))])),((some 39),.op (.bO 1 2 [(.val (.int .i64 0)),(.val (.int .i64 0))] [(0,(.tmp 38))])),fP 40 2 16 32 39,(none,.op (.old (.mapUpdate 209 (.tmp 28) (.tmp 29) (.tmp 40)) 0))]])]),ag [aH 41 .add 14 1,af 14 41]]
def Ce:SF:=⟨ai [ag [cg 2 0,((some 4),.op (.eR (.val (.val (.map none)))))],ag [((some 11),.op (.qW)),af 5 11],ai [ag [af 12 1,aM 13 12,aT 14 0],bS 0 x5],ag [af 42 5,af 4 42],.ret],
 [.tmp 4],43⟩
theorem FU:aJ aa 122 [2]=some Ce:=by kernel_rfl
def B6:SC:=
 ai [ag [aS 9 .lss 8 7],bQ 9 (.exit 0),.block 1 (ai [ag [aK 10 2 6 8,aU 11 2 10,((some 5),.op (.alloc [(.val (.int .i64 0)),(.val (.int .i64 0))])),cz 2 5 11],ag [af 12 3,aw 13 0 5,au 14 13,aH 15 .add 14 1,((some 16),.op (.conv .u8 (.tmp 15))),aw 17 1 5,au 18 17,((some 19),.op (.conv .u8 (.tmp 18))),((some 20),.op (.bO 2 1 [(.val (.int .u8 0))] [(0,(.tmp 16)),(1,(.tmp 19))])),fP 21 1 1 12 20,af 3 21]]),ag [aH 22 .add 8 1,af 8 22]]
def FH:SF:=⟨ai [.region false [⟨none,[((some 2),.op (.eR (.val (.val (.string ⟨#[]⟩)))))]⟩],ag [bU 3 1],ai [ag [af 6 0,aM 7 6,aT 8 0],bS 0 B6],ag [af 23 3,((some 24),.op (.old (.convert 90 9 (.tmp 23)) 9)),af 2 24],.ret],
 [.tmp 2],25⟩
theorem Ju:aJ aa 121 []=some FH:=by kernel_rfl
theorem JQ (g:aj) (K:g.c5) (l:List aN) (M:∀x∈l,cT g x) (C:l.length<=10000) (u:V) (H:View) (L:aQ H u 2 (bf l)):az aa 121 [u] H λr H'=>r=.val (iY (gT l))/\∀id,H id≠.dead->H' id=H id:=by
 refine az.of mixed Ju ?_
 have hlen:cE u=some l.length:=by rw[L.len,bR]
 have N:=K.rules
 simp(disch:=omega)only[↓wr,seval,wq,FH,hlen]
 refine aW.up l.length (λi T H'=>∃b:V,aQ H' b 1 ((si (l.take i)).map λn=>[gy n])/\ct H H' b/\T 3=b/\T 6=u/\T 7=gi l.length/\T 8=gi i) ⟨.emp 1,.nil,.emp,rfl,rfl,rfl,rfl⟩ ?_
 rintro i k T H' hk ⟨b,v,w,t3,t6,t7,t8⟩
 simp(disch:=omega)only[↓wr,seval,wq,B6,t7,t8]
 apply ao.dec<;>intro O
 .have D:l[i]?=some (l[i]'(by omega)):=aaH (by omega)
  have f:=M _ (aaP (show i<l.length by omega))
  have z:l.take (i+1)=l.take i++[l[i]'(by omega)]:=by rw[aa2,D];rfl
  generalize l[i]'(by omega)=x at D f z
  have P:=dY K f.1
  have Q:=f.1
  have R:=f.2
  obtain⟨id,hu,a⟩:=L.sl (by rw[bR];omega)
  have A:H' id=.arr 2 (bf l):=by rw[(w id (by rw[a];simp)).1,a]
  rw[bR] at hu
  subst hu
  have E:=UE (l.take i)
  rw[abL] at E
  simp(disch:=omega)only[↓wr,seval,wq,t3,t6,t8,A,sQ D,WK (x:=x.aB+1) (by omega) (by omega),WK (x:=x.dot) (by omega) (by omega)]
  refine⟨by omega,by rw[bR];omega,?_⟩
  intro q B o F
  obtain⟨G,p⟩:=cn F (by simp)
  rw[aaI G] at p
  have I:∀j,H j≠.dead->j≠q/\j≠o:=λj c=>by
   have h1:=(w j c).1
   exact⟨λe=>c (by rw[e] at h1 ⊢;rw[<-h1,B]),λe=>c (by rw[e] at h1 ⊢;rw[<-h1,p])⟩
  have J:∀a0 h a2,aQ (((H'.set q a0).set q h).set o a2) b 1 ((si (l.take i)).map λn=>[gy n]):=λa0 h a2=>v.keep λid a=>by
   have h1:=(v.live a).1
   have s:id≠q:=by rintro rfl;rw[B] at h1;simp at h1
   have t:id≠o:=by rintro rfl;rw[p] at h1;simp at h1
   simp[View.set,s,t]
  have m:∀a0 h a2 j,H j≠.dead->(((H'.set q a0).set q h).set o a2) j=H j:=λa0 h a2 j c=>by
   obtain⟨s,t⟩:=I j c
   simp[View.set,s,t,(w j c).1]
  have d:∀(a0 h:cr) (s t:List V),bM (((H'.set q a0).set q h).set o (.arr 1 [s,t])) (.sl o 0 2 1)=some ([s,t],[o]):=λa0 h s t=>by simp[bM,View.set]
  simp(disch:=omega)only[↓wr,seval,wq,d]
  refine fE (J _ _ _) (by simp[aL]) (by unfold aF;simp;omega) (by unfold aF;simp;omega) ?_
  intro S Y U W
  simp(disch:=omega)only[↓wr,seval,wq,t8]
  refine aE hk (by omega) ⟨S,?_,λj c=>?_,rfl,t6,t7,rfl⟩
  .have:(si (l.take (i+1))).map (λn=>[gy n])=(si (l.take i)).map (λn=>[gy n])++[[gy (x.aB+1)],[gy x.dot]]:=by
    rw[z];simp[si]
   rw[this];exact U
  .obtain⟨X,k2⟩:=W j (by rw[m _ _ _ j c];exact c) (w j c).2
   exact⟨by rw[X,m _ _ _ j c],k2⟩
 .rw[aaY (by omega)] at v
  simp(disch:=omega)only[↓wr,seval,wq]
  have d:∃rd,bM H' b=some ((si l).map (λn=>[gy n]),rd):=by
   rcases v with ⟨e,k,rfl⟩ | ⟨n,rfl,C⟩
   .exact⟨[],by rw[e];rfl⟩
   .rcases B:(si l).map (λn=>[gy n]) with _ | ⟨y,ys⟩
    .exact⟨[],by simp[bM]⟩
    .rw[B] at C
     exact⟨[n],by
      have:=j7 (H:=H') n 0 ys.length 1 1 (y::ys) C (by simp)
      rw[aaS,this];simp⟩
  obtain⟨rd,d⟩:=d
  refine Yf (u:=b) (xs:=(si l).map λn=>[gy n]) (rd:=rd) (k:=((si l).map λn=>[gy n]).length) (l:=gT l) Tryz.underlying90 Tryz.underlying5 Tryz.underlying9 (by simp(disch:=omega)only[↓wr,seval];exact t3) d v.len (EI l) ?_
  simp(disch:=omega)only[↓wr,seval,wq]
  exact λid a=>(w id a).1
theorem A4 (g:aj) (p:List aN) (y:aN) (s:Int):bu g (p++[y]) s=if bI g y=(s,true) then bu g p s++[⟨y.aB,y.dot+1⟩] else bu g p s:=by
 unfold bu
 rw[acI,aa8]
 split
 .rename_i h;simp[h]
 .rename_i h;simp[h]
def jO (g:aj) (p:List aN) (A:cH Int):List ew:=A.map λx=>(x.2.1,2,bf (bu g p (bg g x.1.toNat)))
structure v7 (g:aj) (p:List aN) (H0 H:View) (q:Nat) (A:cH Int):Prop where
 mp:∃c,H q=.map (cO (Value.int .i64) A) c
 nd:(A.map (·.1)).Nodup
 own:bw H (jO g p A)
 ne:∀x∈A,0<=x.1/\bu g p (bg g x.1.toNat)≠[]
 all:∀k:Nat,bu g p (bg g k)≠[]->((k:Nat):Int)∈A.map (·.1)
 old:∀id,H0 id≠.dead->H id=H0 id
 q0:H0 q=.dead
 new:∀x∈A,∀id,owner x.2.1=some id->H0 id=.dead
theorem getM_none {A:cH Int} {k:Int} : getM A k=none↔k ∉ A.map (·.1):=by
 induction A with
 | nil=>simp[getM]
 | cons x A a =>
  unfold getM at a ⊢
  rw[acV]
  by_cases h:k=x.1
  .simp[h]
  .simp only[beq_eq_false_iff_ne.2 h,aba,aa1,not_or]
   rw[a]
   simp[h]
theorem zS {A:cH Int} {k:Int} {v:V} (h:getM A k=some v):∃a d b,A=a++(k,v,b)::d/\k ∉ a.map (·.1)/\∀v' c,bN k v' c A=a++(k,v',b)::d:=by
 induction A with
 | nil=>simp[getM] at h
 | cons x A f =>
  unfold getM at h f
  rw[acV] at h
  by_cases e:k=x.1
  .simp only[e,beq_self_eq_true,aaU,aaK] at h
   refine⟨[],A,x.2.2,by rw[e,<-h];rfl,by simp,λv' c=>?_⟩
   rw[bN,e,beq_self_eq_true,aaL rfl];rfl
  .rw[beq_eq_false_iff_ne.2 e] at h
   obtain⟨a,d,b,rfl,g,i⟩:=f h
   refine⟨x::a,d,b,rfl,by simp only[aba,aa1,not_or];exact⟨e,g⟩,λv' c=>?_⟩
   rw[bN,beq_eq_false_iff_ne.2 e,i];rfl
theorem VH {A:cH Int} {k:Int} (h:k ∉ A.map (·.1)) (v:V) (c:Nat):bN k v c A=A++[(k,v,c)]:=by
 induction A with
 | nil=>rfl
 | cons x A a =>
  simp only[aba,aa1,not_or] at h
  rw[bN,beq_eq_false_iff_ne.2 h.1,a h.2];rfl
theorem v7.skip {g:aj} {p:List aN} {a H:View} {q:Nat} {A:cH Int} (h:v7 g p a H q A) {y:aN} (b:(bI g y).2=false):v7 g (p++[y]) a H q A:=by
 have e:∀s,bu g (p++[y]) s=bu g p s:=λs=>by rw[A4,aaI (λh=>by rw[h] at b;simp at b)]
 have c:jO g (p++[y]) A=jO g p A:=by simp only[jO,e]
 exact⟨h.mp,h.nd,by rw[c];exact h.own,λx d=>by rw[e];exact h.ne x d,λk hk=>by rw[e] at hk;exact h.all k hk,h.old,h.q0,h.new⟩
theorem v7.val {g:aj} {p:List aN} {d H:View} {q:Nat} {A:cH Int} (h:v7 g p d H q A) (r:Nat):aQ H ((getM A r).getD (.emp 1)) 2 (bf (bu g p (bg g r))):=by
 cases c:getM A r with
 | none =>
  have e:=getM_none.1 c
  have:bu g p (bg g r)=[]:=ack λa=>e (h.all r a)
  rw[this];exact .nil
 | some v =>
  obtain⟨f,i,b,rfl,_,_⟩:=zS c
  have:=h.own.1 (v,2,bf (bu g p (bg g r))) (by simp[jO])
  exact this
theorem v7.put {g:aj} {p:List aN} {B H:View} {q:Nat} {A:cH Int} (h:v7 g p B H q A) {y:aN} {r:Nat} (W:bI g y=(bg g r,true)) {H1:View} {v':V} (X:aQ H1 v' 2 (bf (bu g p (bg g r)++[⟨y.aB,y.dot+1⟩]))) (w:Left H H1 ((getM A r).getD (.emp 1)) v') (c C:Nat):
  v7 g (p++[y]) B (H1.set q (.map (cO (Value.int .i64) (bN (r:Int) v' c A)) C)) q (bN (r:Int) v' c A):=by
 obtain⟨c0,O⟩:=h.mp
 have hr:bu g (p++[y]) (bg g r)=bu g p (bg g r)++[⟨y.aB,y.dot+1⟩]:=by rw[A4,aaL W]
 have i:∀x:Int × V × Nat,0<=x.1->x.1≠r->bu g (p++[y]) (bg g x.1.toNat)=bu g p (bg g x.1.toNat):=λx Q d=>by
  rw[A4,aaI]
  intro e
  rw[W] at e
  simp only[aaN,and_true] at e
  have h1:=zL g r
  rw[e,zL] at h1
  omega
 have D:owner ((getM A r).getD (.emp 1))≠some q:=λe=>by
  have:=((h.val r).live e).1
  rw[O] at this;simp at this
 have E:H1 q≠.dead/\owner v'≠some q:=by
  obtain⟨k1,k2⟩:=w q (by rw[O];simp) D
  exact⟨by rw[k1,O];simp,k2⟩
 have hold:∀id,B id≠.dead->id≠q/\owner ((getM A r).getD (.emp 1))≠some id:=λid f=>by
  refine⟨λe=>f (by rw[e];exact h.q0),λe=>?_⟩
  cases t:getM A r with
  | none=>rw[t] at e;simp[owner] at e
  | some v =>
   rw[t] at e
   obtain⟨s,l,b,rfl,_,_⟩:=zS t
   exact f (h.new (r,v,b) (by simp) id e)
 have m:∀id,B id≠.dead->(H1.set q (.map (cO (Value.int .i64) (bN (r:Int) v' c A)) C)) id=B id:=λid f=>by
  simp only[View.set]
  rw[aaI (hold id f).1,(w id (by rw[h.old id f];exact f) (hold id f).2).1,h.old id f]
 have F:∀id,owner v'=some id->B id=.dead:=λid e=>acb λf=>(w id (by rw[h.old id f];exact f) (hold id f).2).2 e
 have u:∀ {L:List ew},bw H1 L->(∀x∈L,owner x.1≠some q)->bw (H1.set q (.map (cO (Value.int .i64) (bN (r:Int) v' c A)) C)) L:=λY d=>⟨λx G=>(Y.1 x G).other (d x G),Y.2⟩
 have j:∀x∈A,owner x.2.1≠some q:=λx d=>h.own.JF O _ (aa4.2 ⟨x,d,rfl⟩)
 cases t:getM A r with
 | none =>
  have P:=getM_none.1 t
  rw[t] at w
  rw[VH P] at *
  have R:jO g (p++[y]) (A++[((r:Int),v',c)])=jO g p A++[(v',2,bf (bu g p (bg g r)++[⟨y.aB,y.dot+1⟩]))]:=by
   simp only[jO,aa8,aba,acg,abk,hr]
   congr 1
   refine abK λx d=>?_
   rw[i x (h.ne x d).1 (λe=>P (aa4.2 ⟨x,d,e⟩))]
  refine⟨⟨C,by simp[View.set]⟩,?_,?_,λx d=>?_,λk hk=>?_,m,h.q0,λx d id e=>?_⟩
  .rw[aa8,ab2]
   refine⟨h.nd,by simp,λa ha b Z e=>?_⟩
   simp at Z;subst Z;subst e;exact P ha
  .rw[R]
   have S:bw H1 ((v',2,bf (bu g p (bg g r)++[⟨y.aB,y.dot+1⟩]))::jO g p A):=(h.own.emp (k:=1) (sz:=2)).left (by simpa using X) w
   refine u (S.perm (List.perm_append_comm (l₁:=[_]))) λx d=>?_
   rcases aa0.1 d with d | d
   .obtain⟨z,I,rfl⟩:=aa4.1 d
    exact j z I
   .simp at d;subst d;exact E.2
  .rcases aa0.1 d with d | d
   .rw[i x (h.ne x d).1 (λe=>P (aa4.2 ⟨x,d,e⟩))];exact h.ne x d
   .simp at d;subst d;simp[hr]
  .rw[aa8,aa0]
   by_cases e:k=r
   .right;simp[e]
   .left
    refine h.all k ?_
    have:=i ((k:Int),.any,0) (by simp) (by simp only;omega)
    simp only[abk] at this
    rw[<-this];exact hk
  .rcases aa0.1 d with d | d
   .exact h.new x d id e
   .simp at d;subst d;exact F id e
 | some v =>
  obtain⟨s,l,b,rfl,T,J⟩:=zS t
  rw[t] at w
  rw[J] at *
  have K:=h.nd
  rw[aa8,aba,ab2] at K
  have U:(r:Int) ∉ l.map (·.1):=(abC.1 K.2.1).1
  have M:∀x∈s,x.1≠r:=λx d e=>T (aa4.2 ⟨x,d,e⟩)
  have N:∀x∈l,x.1≠r:=λx d e=>U (aa4.2 ⟨x,d,e⟩)
  have n:∀x∈s,x∈s++((r:Int),v,b)::l:=λx d=>List.mem_append_left _ d
  have o:∀x∈l,x∈s++((r:Int),v,b)::l:=λx d=>List.mem_append_right _ (aa6 _ d)
  have R:jO g (p++[y]) (s++((r:Int),v',b)::l)=jO g p s++(v',2,bf (bu g p (bg g r)++[⟨y.aB,y.dot+1⟩]))::jO g p l:=by
   simp only[jO,aa8,aba,abk,hr]
   congr 1
   .refine abK λx d=>?_
    rw[i x (h.ne x (n x d)).1 (M x d)]
   .congr 1
    refine abK λx d=>?_
    rw[i x (h.ne x (o x d)).1 (N x d)]
  have e0:jO g p (s++((r:Int),v,b)::l)=jO g p s++(v,2,bf (bu g p (bg g r)))::jO g p l:=by
   simp only[jO,aa8,aba,abk]
  refine⟨⟨C,by simp[View.set]⟩,by simpa using h.nd,?_,λx d=>?_,λk hk=>?_,m,h.q0,λx d id e=>?_⟩
  .rw[R]
   have Q:=h.own
   rw[e0] at Q
   have S:bw H1 ((v',2,bf (bu g p (bg g r)++[⟨y.aB,y.dot+1⟩]))::(jO g p s++jO g p l)):=(Q.perm acR).left X w
   refine u (S.perm acR.symm) λx d=>?_
   rcases aa0.1 d with d | d
   .obtain⟨z,I,rfl⟩:=aa4.1 d
    exact j z (n z I)
   .rcases aa1.1 d with rfl | d
    .exact E.2
    .obtain⟨z,I,rfl⟩:=aa4.1 d
     exact j z (o z I)
  .rcases aa0.1 d with d | d
   .rw[i x (h.ne x (n x d)).1 (M x d)];exact h.ne x (n x d)
   .rcases aa1.1 d with rfl | d
    .simp[hr]
    .rw[i x (h.ne x (o x d)).1 (N x d)];exact h.ne x (o x d)
  .by_cases e:k=r
   .subst e;simp
   .have:=i ((k:Int),.any,0) (by simp) (by simp only;omega)
    simp only[abk] at this
    rw[this] at hk
    have:=h.all k hk
    simpa using this
  .rcases aa0.1 d with d | d
   .exact h.new x (n x d) id e
   .rcases aa1.1 d with rfl | d
    .exact F id e
    .exact h.new x (o x d) id e
theorem v7.fresh {g:aj} {p:List aN} {e H:View} {q:Nat} {A:cH Int} (h:v7 g p e H q A) {n:Nat} (b:H n=.dead) (o:cr):v7 g p e (H.set n o) q A:=by
 obtain⟨c,d⟩:=h.mp
 have f:q≠n:=by rintro rfl;rw[b] at d;simp at d
 refine⟨⟨c,by simp[View.set,f,d]⟩,h.nd,h.own.fresh b,h.ne,h.all,λid a=>?_,h.q0,h.new⟩
 have i:id≠n:=by rintro rfl;rw[h.old id a] at b;exact a b
 simp[View.set,i,h.old id a]
theorem VX (g:aj) (w:g.c5) (l:List aN) (hl:∀x∈l,cT g x) (L:l.length<=10000) (u:V) (H:View) (ho:aQ H u 2 (bf l)):az aa 122 [.agg (ak g),u] H λr H'=>∃q A,r=.mp q/\v7 g l H H' q A:=by
 refine az.of mixed FU ?_
 have hlen:cE u=some l.length:=by rw[ho.len,bR]
 have hT:=w.ax
 have hN:=w.av
 simp(disch:=omega)only[↓wr,seval,wq,Ce,ak,encS,hlen]
 intro q M
 have N:v7 g [] H (H.set q (.map [] 0)) q []:=⟨⟨0,by simp[View.set,cO]⟩,by simp,⟨by simp[jO],by simp[jO]⟩,by simp,λk hk=>absurd rfl hk,λid j=>by
  have:id≠q:=by rintro rfl;exact j M
  simp[View.set,this],M,by simp⟩
 generalize H.set q (.map [] 0)=H1 at N
 try simp(disch:=omega)only[↓wr,seval,wq]
 refine aW.up l.length (λi T H'=>∃A,v7 g (l.take i) H H' q A/\T 2=.aP (ak g) 0/\T 5=.mp q/\T 12=u/\T 13=gi l.length/\T 14=gi i) ⟨[],N,rfl,rfl,rfl,rfl,rfl⟩ ?_
 clear N M
 rintro i k T H' hk ⟨A,D,t2,t5,t12,t13,t14⟩
 simp(disch:=omega)only[↓wr,seval,wq,x5,t13,t14]
 apply ao.dec<;>intro hc
 .have O:l[i]?=some (l[i]'(by omega)):=aaH (by omega)
  have a:=hl _ (aaP (show i<l.length by omega))
  have B:l.take (i+1)=l.take i++[l[i]'(by omega)]:=by rw[aa2,O];rfl
  generalize l[i]'(by omega)=x at O a B
  have h1:=Mm g w x a
  cases b:bI g x with
  | mk s P =>
  have Q:=zW w a b
  rw[b] at h1
  have ae:=dY w a.1
  have al:=a.2
  obtain⟨id,hu,j⟩:=ho.sl (by rw[bR];omega)
  have p:H' id=.arr 2 (bf l):=by rw[D.old id (by rw[j];simp),j]
  rw[bR] at hu
  subst hu
  simp only[ak,encS,bK] at h1
  simp(disch:=omega)only[↓wr,seval,wq,t2,t12,t14,p,sQ O]
  refine⟨by omega,by rw[bR];omega,?_⟩
  intro E F
  rw[set_set]
  have d:(H'.set E (.arr 2 [[gi x.aB,gi x.dot]])) E=.arr 2 [[gi x.aB,gi x.dot]]:=by simp[View.set]
  have f:=D.fresh F (.arr 2 [[gi x.aB,gi x.dot]])
  generalize H'.set E (.arr 2 [[gi x.aB,gi x.dot]])=R at d f
  clear D F p
  try simp(disch:=omega)only[seval,wq,ak,encS]
  refine ay.pure h1 ?_
  cases P with
  | false =>
   simp(disch:=omega)only[↓wr,seval,wq,t5,t14]
   exact aE hk (by omega) ⟨A,by rw[B];exact f.skip (by rw[b]),t2,t5,t12,t13,rfl⟩
  | true =>
  have hh:=vl w a b
  obtain⟨r1,r2⟩:=NO hh
  obtain⟨r3,r4⟩:=JO r1
  obtain⟨r,hr⟩:∃r:Nat,oK g s=r:=⟨(oK g s).toNat,by omega⟩
  rw[hr,abk] at r4
  have S:=V6 g w s Q
  rw[hr] at S
  simp only[ak,encS] at S
  simp(disch:=omega)only[↓wr,seval,wq,t2,ak,encS]
  refine ay.pure S ?_
  obtain⟨c,U⟩:=f.mp
  simp(disch:=omega)only[↓wr,seval,wq,t5]
  refine CO (kt:=3) (et:=103) (z:=.emp 1) (by kernel_rfl) (by kernel_rfl) (mG .i64 Tryz.underlying3) (id:=q) (c:=c) (m:=A) (k:=(r:Int)) (by simp(disch:=omega)only[↓wr,seval]) (by simp(disch:=omega)only[↓wr,seval]) U ?_
  have an:=f.val r
  have ab:∀n o,R n=.dead->(R.set n o) E=.arr 2 [[gi x.aB,gi x.dot]]:=λn o L=>by
   have:E≠n:=by rintro rfl;rw[d] at L;simp at L
   simp[View.set,this,d]
  try simp(disch:=omega)only[↓wr,seval,wq,d]
  intro W X
  have C:=f.fresh X (.arr 2 [[gi x.aB,gi (x.dot+1)]])
  have t:=C.val r
  have Y:bM (R.set W (.arr 2 [[gi x.aB,gi (x.dot+1)]])) (.sl W 0 1 2)=some ([[gi x.aB,gi (x.dot+1)]],[W]):=by simp[bM,View.set]
  simp(disch:=omega)only[↓wr,seval,wq,Y]
  have Z:=vH (g:=g) (l:=l.take i) (s:=bg g r)
  rw[abL] at Z
  refine fE t (by simp[aL]) (by unfold aF;rw[bR];simp;omega) (by unfold aF;rw[bR];simp;omega) ?_
  intro v' H6 o6 l6
  obtain⟨K,h⟩:=C.mp
  have G:owner ((getM A (r:Int)).getD (.emp 1))≠some q:=λe=>by
   have:=(t.live e).1
   rw[h] at this;simp at this
  have I:H6 q=.map (cO (Value.int .i64) A) K:=by
   rw[(l6 q (by rw[h];simp) G).1,h]
  simp(disch:=omega)only[↓wr,seval,wq]
  refine yE (kt:=3) (et:=103) (by kernel_rfl) (mG .i64 Tryz.underlying3) (id:=q) (c:=K) (m:=A) (k:=(r:Int)) (v:=v') (by simp(disch:=omega)only[↓wr,seval]) (by simp(disch:=omega)only[↓wr,seval]) (by simp(disch:=omega)only[↓wr,seval]) I ?_
  intro c'
  simp(disch:=omega)only[↓wr,seval,wq,t5,t14]
  have J:=C.put (y:=x) (r:=r) (by rw[b,r4]) (H1:=H6) (v':=v') (by
   have e:bf (bu g (l.take i) (bg g r)++[⟨x.aB,x.dot+1⟩])=bf (bu g (l.take i) (bg g r))++[[gi x.aB,gi (x.dot+1)]]:=by simp[bf,bK]
   rw[e];exact o6) l6 K c'
  exact aE hk (by omega) ⟨bN (r:Int) v' K A,by rw[B];exact J,t2,t5,t12,t13,rfl⟩
 .rw[aaY (by omega)] at D
  simp(disch:=omega)only[↓wr,seval,wq,t5]
  exact⟨q,A,rfl,D⟩
end Gv
