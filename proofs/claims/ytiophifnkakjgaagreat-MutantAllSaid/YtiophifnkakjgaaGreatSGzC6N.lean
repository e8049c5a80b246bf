/-
  Part 14 of the proof: what the machine does and what the functions answer.
  Conditions: those that each lemma names.
-/
import Derived.Test.YtiophifnkakjgaaGreatSGzC6M
set_option linter.unusedSimpArgs false
set_option linter.unusedVariables false
set_option maxRecDepth 100000
set_option maxHeartbeats 20000000
namespace Gv
noncomputable section
open Go Go.Proofs
structure aO where
 aB:Int
 dot:Int
 deriving DecidableEq
def bK (x:aO):List V:=[gi x.aB,gi x.dot]
def bf (l:List aO):List (List V):=l.map bK
def c9 (a b:aO):Bool:=decide (a.aB<b.aB)||(decide (a.aB=b.aB)&&decide (a.dot<b.dot))
def fc:List aO->aO->List aO
 | [],x=>[x]
 | y::l,x=>if c9 y x=true then y::fc l x else if y=x then y::l else x::y::l
theorem XR (a b:aO):∀v∈[V.agg (bK a),.agg (bK b)],Tree v:=by
 intro v c;simp at c
 rcases c with rfl | rfl<;>exact bW _ λv c=>by simp[bK] at c;rcases c with rfl | rfl<;>exact .val _
def sV:SF:=⟨ai [ag [cm 2 0,cm 3 1,bh 4 false],.region false [⟨none,[aw 5 0 2,au 6 5,aw 7 0 3,au 8 7,aS 9 .lss 6 8,af 10 9]⟩,⟨(some (10,false)),[aw 11 0 2,au 12 11,aw 13 0 3,au 14 13,aS 15 .eql 12 14,af 16 15]⟩,⟨(some (16,true)),[aw 17 1 2,au 18 17,aw 19 1 3,au 20 19,aS 21 .lss 18 20]⟩,⟨(some (10,false)),[dO 22 16 21]⟩,⟨none,[cE 23 10 22,af 4 23]⟩],.ret],
 [.tmp 4],24⟩
theorem yu:aJ aa 198 [2,3]=some sV:=by kernel_rfl
def rH:SC:=
 ai [ai [.region false [⟨none,[af 7 5,af 8 0,aN 9 8,aS 10 .lss 7 9,af 11 10]⟩,⟨(some (11,true)),[af 12 0,af 13 5,aL 14 2 12 13,aU 15 2 14,aU 16 2 3,aV 17 198 [15,16]]⟩,⟨none,[dO 18 11 17]⟩],bP 18 (.exit 0)],.block 1 (ag [af 19 5,aH 20 .add 19 1,af 5 20])]
def uq:SF:=⟨ai [ag [cm 3 1,bT 4 1],ag [aT 5 0],bQ 0 rH,ai [.region false [⟨none,[af 21 5,af 22 0,aN 23 22,aS 24 .lss 21 23,af 25 24]⟩,⟨(some (25,true)),[af 26 0,af 27 5,aL 28 2 26 27,aU 29 2 28,aU 30 2 3,((some 31),.op (.old (.binOp .eql 120 (.tmp 29) (.tmp 30) 120) 4))]⟩,⟨none,[dO 32 25 31]⟩],aX 32 (ai [ag [af 33 0,af 4 33],.ret])],ag [bT 34 2,af 35 0,af 36 5,((some 37),.op (.slice 2 (.tmp 35) (some (.tmp 36)) none)),fL 38 2 16 34 37,af 6 38],ag [af 39 0,af 40 5,((some 41),.op (.slice 2 (.tmp 39) none (some (.tmp 40)))),aU 42 2 3,((some 43),.op (.bN 1 2 [(.val (.int .i64 0)),(.val (.int .i64 0))] [(0,(.tmp 42))])),fL 44 2 16 41 43,af 45 6,fL 46 2 16 44 45,af 4 46],.ret],
 [.tmp 4],47⟩
theorem zD:aJ aa 133 [3]=some uq:=by kernel_rfl
theorem RN (a b:aO):aC aa 198 [.agg (bK a),.agg (bK b)] (gb (c9 a b)):=by
 refine aC.val (XR a b) λH=>?_
 refine ay.of mixed yu ?_
 unfold c9
 simp(disch:=omega)only[↓wr,seval,wq,sV,bK]
 apply ao.dec<;>intro h1
 .simp(disch:=omega)only[↓wr,seval,wq]
  rw[abt h1];rfl
 simp(disch:=omega)only[↓wr,seval,wq,bK]
 apply ao.eq<;>intro c
 .simp(disch:=omega)only[↓wr,seval,wq,bK]
  rw[decide_eq_false h1,abt c];rfl
 .simp(disch:=omega)only[↓wr,seval,wq]
  rw[decide_eq_false h1,decide_eq_false c];rfl
def eN:List aO->aO->Nat
 | [],_=>0
 | y::l,x=>if c9 y x=true then eN l x+1 else 0
theorem Fq:∀(l:List aO) (x:aO),eN l x<=l.length
 | [],_=>aaY _
 | y::l,x=>by
  rw[eN];split
  .have:=Fq l x;simp;omega
  .simp
theorem Fu:∀(l:List aO) (x:aO) (i:Nat) (y:aO),l[i]?=some y->i<eN l x->c9 y x=true
 | [],_,_,_,h,_=>by simp at h
 | z::l,x,0,y,h,hi=>by
  rw[eN] at hi;split at hi
  .simp at h;subst h;assumption
  .omega
 | z::l,x,i+1,y,h,hi=>by
  rw[eN] at hi;split at hi
  .exact Fu l x i y (by simpa using h) (by omega)
  .omega
theorem F8:∀(l:List aO) (x:aO) (y:aO),l[eN l x]?=some y->c9 y x=false
 | [],_,_,h=>by simp at h
 | z::l,x,y,h=>by
  rw[eN] at h;split at h
  .exact F8 l x y (by simpa using h)
  .rename_i e;simp at h;subst h;simpa using e
theorem Ah:∀(l:List aO) (x:aO),fc l x=if l[eN l x]?=some x then l else l.take (eN l x)++[x]++l.drop (eN l x)
 | [],x=>by simp[fc,eN]
 | y::l,x=>by
  rw[fc,eN]
  split
  .have:=Ah l x
   simp only[abB,acW,acX,abv]
   rw[this];split<;>simp
  .simp only[abi,aaV,List.take_zero,abP,abK,abv]
theorem tv (x y:aO):ig aa 9998 #[.int .i64 x.aB,.int .i64 x.dot] #[.int .i64 y.aB,.int .i64 y.dot]
  [{ name:= "Rule",type:=3,offset:=0,embedded:=false,tag:= "",pkgPath:= "",byteOffset:=0 },{ name:= "Dot",type:=3,offset:=1,embedded:=false,tag:= "",pkgPath:= "",byteOffset:=8 }] ((x.aB==y.aB)&&((x.dot==y.dot)&&true)):=
 .int _ _ _ .i64 _ _ (by decide) Tryz.underlying3 rfl rfl (.int _ _ _ .i64 _ _ (by decide) Tryz.underlying3 rfl rfl .nil)
theorem B3 (x y:aO):((x.aB==y.aB)&&((x.dot==y.dot)&&true))=decide (x=y):=by
 cases x;cases y;rw[abD];simp
theorem qG {sz id off k m:Nat} (hm:m<=k):cZ sz (.sl id off k sz) (some (gi m)) none=some (.sl id (off+m) (k-m) sz,.none,[]):=by
 simp[cZ,bound,asNat,hm]
theorem qZ {sz id off k m:Nat} (hm:m<=k):cZ sz (.sl id off k sz) none (some (gi m))=some (.sl id off m sz,.none,[]):=by
 simp[cZ,bound,asNat,hm]
theorem R0 (l:List aO):((bf l).all λe=>e.length==2&&e.all aK)=true:=by
 simp[bf,ab9,bK,aK]
theorem TM {H:View} {u:V} {sz:Nat} {es:List (List V)} (h:aP H u sz es):∃rd,bM H u=some (es,rd):=by
 rcases h with ⟨rfl,k,rfl⟩ | ⟨n,rfl,a⟩
 .exact⟨_,xO _ k⟩
 .cases es with
  | nil=>exact⟨[],by simp[bM]⟩
  | cons e es =>
   exact⟨_,by rw[show (e::es).length=es.length+1 from rfl,j6 _ n 0 es.length sz sz _ a (by simp),abP,aa6 (by simp)]⟩
theorem sH {sz bytes:Nat} {u:V} {es:List (List V)} {H:View} {K:V->View->Prop} {w:dd (H,K)} (a:aP H u sz es) (h:K u H):nq sz bytes u [] H K w:=by
 unfold nq
 rcases a with ⟨_,k,rfl⟩ | ⟨n,rfl,_⟩<;>simpa using h
theorem Left.behind {H H':View} {q:Nat} {o:cr} {u r:V} (d:H q=.dead) (h:Left (H.set q o) H' u r):Left H H' u r:=λa c b=>by
 have e:¬ a=q:=by rintro rfl;exact c d
 have:=h a (by simp[View.set,e];exact c) b
 simpa [View.set,e] using this
theorem Et (u:V) (l:List aO) (hl:l.length<=100000) (x:aO) (H:View) (v:aP H u 2 (bf l)):ay aa 133 [u,.agg (bK x)] H λr H'=>aP H' r 2 (bf (fc l x))/\Left H H' u r:=by
 refine ay.of mixed zD ?_
 have hlen:cJ u=some l.length:=by rw[v.len];simp[bf]
 have hle:=Fq l x
 simp(disch:=omega)only[↓wr,seval,wq,uq,bK]
 refine aW.up (eN l x) (λi T H'=>H'=H/\i<=eN l x/\T 0=u/\T 3=.aR (bK x) 0/\T 5=gi i) ⟨rfl,by omega,rfl,rfl,rfl⟩ ?_
 rintro i k T H' hk ⟨Z,hi,t0,t3,t5⟩
 subst Z
 simp(disch:=omega)only[↓wr,seval,wq,rH,t0,t3,t5,hlen]
 have stop:i=eN l x->True:=λ_=>trivial
 apply ao.dec<;>intro K
 .have w:l[i]?=some (l[i]'(by omega)):=aaQ (by omega)
  generalize l[i]'(by omega)=y at w
  obtain⟨id,hu,b⟩:=v.sl (by simp[bf];omega)
  have n:(bf l).length=l.length:=by simp[bf]
  have L:(bf l).getD i []=bK y:=by simp[bf,aaP,w]
  have A:=RN y x
  simp only[bK] at A L
  simp(disch:=omega)only[↓wr,seval,wq,t0,t3,t5,hu,b,L,bK]
  refine⟨by simp[bf];omega,by simp[bf];omega,?_⟩
  refine az.pure A ?_
  simp(disch:=omega)only[↓wr,seval,wq,t0,t3,t5]
  apply ao.split<;>intro e
  .have B:i<eN l x:=by
    rcases abo i (eN l x) with h | h
    .exact h
    .have:=F8 l x y (by rw[show eN l x=i by omega];exact w)
     rw[this] at e;exact absurd e (by simp)
   simp(disch:=omega)only[↓wr,seval,wq,t0,t3,t5]
   exact aE hk B ⟨rfl,B,t0,t3,rfl⟩
  have s:i=eN l x:=by
   rcases abo i (eN l x) with h | h
   .rw[Fu l x i y w h] at e;exact absurd e (by simp)
   .omega
  simp(disch:=omega)only[↓wr,seval,wq,t0,t3,t5,hlen]
  refine ao.dec (λ_=>?_) (λh=>absurd K h)
  simp(disch:=omega)only[↓wr,seval,wq,t0,t3,t5,hu,b,L,bK]
  refine⟨by simp[bf];omega,by simp[bf];omega,?_⟩
  refine km (xs:=#[.int .i64 y.aB,.int .i64 y.dot]) (ys:=#[.int .i64 x.aB,.int .i64 x.dot]) Tryz.underlying120 (by kernel_rfl) (by kernel_rfl) ?_ ?_ (tv y x) (.inl ⟨rfl,rfl⟩) ?_
  .rfl
  .rfl
  rw[B3]
  simp(disch:=omega)only[↓wr,seval,wq,t0,t3,t5]
  apply ao.dec<;>intro M
  .subst M
   simp(disch:=omega)only[↓wr,seval,wq,t0]
   rw[Ah,aaT (by rw[<-s];exact w)]
   exact⟨v,λid b v=>⟨rfl,v⟩⟩
  rw[n] at hu
  have N:bM H' (.sl id i (l.length-i) 2)=some (bf (l.drop i),[id]):=by
   obtain⟨q,d⟩:∃q,l.length-i=q+1:=⟨l.length-i-1,by omega⟩
   rw[d,j6 H' id i q 2 2 (bf l) b (by rw[n];omega)]
   rw[show (bf l).drop i=bf (l.drop i) from List.map_drop.symm,aa6 (by simp[bf];omega)]
  simp(disch:=omega)only[↓wr,seval,wq,t0,t3,t5,hu,qG (sz:=2) (id:=id) (off:=0) (k:=l.length) (m:=i) (by omega),N]
  refine eL aP.nil (R0 _) (by unfold aF bf;simp;omega) (by unfold aF bf;simp;omega) ?_
  intro rest H1 O lr
  simp(disch:=omega)only[↓wr,seval,wq,t0,t3,t5,hu,qZ (sz:=2) (id:=id) (off:=0) (k:=l.length) (m:=i) (by omega),bK]
  intro q d
  have C:owner rest≠some id:=(lr id (by rw[b];simp) (by simp[owner])).2
  have f:H1 id=.arr 2 (bf l):=by rw[(lr id (by rw[b];simp) (by simp[owner])).1,b]
  have D:¬ id=q:=by rintro rfl;rw[f] at d;simp at d
  simp(disch:=omega)only[↓wr,seval,wq,bG]
  rw[vi _ _ _ _ _ _ _ _ _ _ (by rfl)]
  simp(disch:=omega)only[↓wr,seval,wq,D,f,n]
  refine⟨⟨by omega,by unfold aF;omega,by unfold aF;omega⟩,λj c=>?_⟩
  try rw[abP]
  have E:¬ j=q:=by rintro rfl;simp at c
  rw[aaR E] at c
  have F:¬ j=id:=by rintro rfl;rw[f] at c;simp at c
  have g:=((O.fresh (o:=.arr 2 [[gi x.aB,gi x.dot]]) d).other (o:=.dead) C).fresh (m:=j) (o:=.arr 2 (List.take i (bf l)++[[gi x.aB,gi x.dot]])) (by simp[View.set,E,F,c])
  have G:aP (((H1.set q (.arr 2 [[gi x.aB,gi x.dot]])).set id .dead).set j (.arr 2 (List.take i (bf l)++[[gi x.aB,gi x.dot]]))) (.sl j 0 (i+1) 2) 2 (List.take i (bf l)++[[gi x.aB,gi x.dot]]):=.inr ⟨j,by simp[n];omega,by simp[View.set]⟩
  have I:∀a,H' a≠.dead->a≠id->(((H1.set q (.arr 2 [[gi x.aB,gi x.dot]])).set id .dead).set j (.arr 2 (List.take i (bf l)++[[gi x.aB,gi x.dot]]))) a=H' a/\a≠j:=λa z P=>by
   have h1:=(lr a z (by simp[owner])).1
   have aq:¬ a=q:=by rintro rfl;rw[d] at h1;exact z h1.symm
   have W:¬ a=j:=by rintro rfl;rw[c] at h1;exact z h1.symm
   exact⟨by simp[View.set,aq,W,P,h1],W⟩
  generalize ((H1.set q (.arr 2 [[gi x.aB,gi x.dot]])).set id .dead).set j (.arr 2 (List.take i (bf l)++[[gi x.aB,gi x.dot]]))=H3 at g G I ⊢
  rw[abK] at g
  obtain⟨rd,he⟩:=TM g
  simp(disch:=omega)only[↓wr,seval,wq,he]
  refine eL G (R0 _) (by unfold aF bf;simp;omega) (by unfold aF bf;simp;omega) ?_
  intro r X t J
  simp(disch:=omega)only[↓wr,seval,wq]
  refine⟨?_,λa z Q=>?_⟩
  .rw[Ah,aaR (by rw[<-s,w];simpa using M),<-s]
   simpa [bf,bK,List.map_take,List.map_drop] using t
  .obtain⟨Y,k2⟩:=I a z (by rintro rfl;exact Q (by rw[hu];rfl))
   have:=J a (by rw[Y];exact z) (by simp[owner];exact λh=>k2 h.symm)
   exact⟨by rw[this.1,Y],this.2⟩
 .simp(disch:=omega)only[↓wr,seval,wq,t0,t3,t5,hlen]
  refine ao.dec (λh=>absurd h K) (λ_=>?_)
  have R:i=l.length:=by omega
  subst R
  have p:bf (fc l x)=bf l++[[gi x.aB,gi x.dot]]:=by
   rw[Ah,show eN l x=l.length by omega,abr (aaY _),aaR (by simp),aca,List.drop_length]
   simp[bf,bK]
  rcases v with ⟨e,k0,hu⟩ | ⟨id,hu,b⟩
  .have S:l=[]:=by simpa [bf] using e
   subst S
   simp(disch:=omega)only[↓wr,seval,wq,t0,t3,t5,hu,show ∀k,cZ 2 (.emp k) (some (gi 0)) none=some (.emp k,.none,[]) from λk=>rfl,show ∀k,cZ 2 (.emp k) none (some (gi 0))=some (.emp k,.none,[]) from λk=>rfl]
   refine sH aP.nil ?_
   simp(disch:=omega)only[↓wr,seval,wq,t0,t3,t5,hu,show ∀k,cZ 2 (.emp k) none (some (gi 0))=some (.emp k,.none,[]) from λk=>rfl,bK]
   intro q d
   simp(disch:=omega)only[↓wr,seval,wq,bG]
   refine eL (sz:=2) (u:=.emp k0) aP.nil (by simp[aK]) (by unfold aF;simp) (by unfold aF;simp) ?_
   intro r X t J
   simp(disch:=omega)only[↓wr,seval,wq]
   refine sH t ?_
   simp(disch:=omega)only[↓wr,seval,wq]
   exact⟨by rw[p];exact t,hu▸Left.behind d J⟩
  .rw[show (bf l).length=l.length by simp[bf]] at hu
   simp(disch:=omega)only[↓wr,seval,wq,t0,t3,t5,hu,qG (sz:=2) (id:=id) (off:=0) (k:=l.length) (m:=l.length) (by omega),qZ (sz:=2) (id:=id) (off:=0) (k:=l.length) (m:=l.length) (by omega)]
   rw[Nat.sub_self,show bM H' (.sl id l.length 0 2)=some ([],[]) from rfl]
   simp(disch:=omega)only[↓wr,seval,wq]
   refine sH aP.nil ?_
   simp(disch:=omega)only[↓wr,seval,wq,t0,t3,t5,hu,qZ (sz:=2) (id:=id) (off:=0) (k:=l.length) (m:=l.length) (by omega),bK]
   intro q d
   simp(disch:=omega)only[↓wr,seval,wq,bG]
   have U:aP H' (.sl id 0 l.length 2) 2 (bf l):=.inr ⟨id,by simp[bf],b⟩
   refine eL (sz:=2) (U.fresh d) (by simp[aK]) (by unfold aF bf;simp;omega) (by unfold aF bf;simp;omega) ?_
   intro r X t J
   simp(disch:=omega)only[↓wr,seval,wq]
   refine sH t ?_
   simp(disch:=omega)only[↓wr,seval,wq]
   exact⟨by rw[p];exact t,hu▸Left.behind d J⟩
def bV (g:aj) (r:Int):List Int:=if r = -1 then [-1-g.start] else (bZ g r).right
def bI (g:aj) (x:aO):Int × Bool:=if x.dot=(bV g x.aB).length then (0,false) else ((bV g x.aB).getD x.dot.toNat 0,true)
def rF:SF:=⟨ai [ag [cm 2 0,bT 4 1],ai [ag [af 5 1,aH 6 .eql 5 (-1)],aX 6 (ai [ag [aw 7 3 2,au 8 7,((some 9),.op (.arith .sub (.val (.val (.int .i64 (-1)))) (.tmp 8))),((some 10),.op (.bN 1 1 [(.val (.int .i64 0))] [(0,(.tmp 9))])),af 4 10],.ret])],ag [aw 11 2 2,au 12 11,af 13 1,aL 14 3 12 13,aw 15 1 14,au 16 15,af 4 16],.ret],
 [.tmp 4],17⟩
theorem xQ:aJ aa 199 [2]=some rF:=by kernel_rfl
def sN:SF:=⟨ai [ag [cm 2 0,cm 3 1,aT 4 0,bh 5 false],ag [aU 7 4 2,aw 8 0 3,au 9 8,aV 10 199 [7,9],af 6 10],ai [ag [aw 11 1 3,au 12 11,af 13 6,aN 14 13,aS 15 .eql 12 14],aX 15 (ai [ag [aT 4 0,bh 5 false],.ret])],ag [af 16 6,aw 17 1 3,au 18 17,aL 19 1 16 18,au 20 19,af 4 20,bh 5 true],.ret],
 [.tmp 4,.tmp 5],21⟩
theorem y6:aJ aa 134 [2,3]=some sN:=by kernel_rfl
theorem Fi (g:aj) (d : -100<=g.start/\g.start<=100) (r:Int) (hr : -1<=r/\r<(g.rules.length:Int)):aC aa 199 [.agg (ak g),gi r] (encI (bV g r)):=by
 refine aC.of (by
  intro v a;simp at a
  rcases a with rfl | rfl
  .exact bW _ (cx g)
  .exact .val _) ?_
 refine ay.of mixed xQ ?_
 unfold bV
 simp(disch:=omega)only[↓wr,seval,wq,rF,ak,encS]
 apply ao.eq<;>intro h1
 .simp(disch:=omega)only[↓wr,seval,wq,ak,encS]
  intro n
  rw[aaT h1]
  rintro c a
  refine dD.fr (jA (l:=[-1-g.start]) (.inr ⟨n,rfl,?_⟩))
  rw[a];simp[View.set]
 .have b:g.rules[r.toNat]?=some (bZ g r):=by unfold bZ;exact getD_some (by omega)
  rw[aaR h1]
  generalize bZ g r=R at b
  simp(disch:=omega)only[↓wr,seval,wq,ak,encS,aaS,b,aa2,aQ]
  intro c _
  exact .tree _ (bC R.right)
theorem Su (g:aj) (c : -100<=g.start/\g.start<=100) (x:aO) (d : -1<=x.aB/\x.aB<(g.rules.length:Int)) (e:0<=x.dot/\x.dot<=(bV g x.aB).length) (f:(bV g x.aB).length<=1000):
  aC aa 134 [.agg (ak g),.agg (bK x)] (.bb [gi (bI g x).1,gb (bI g x).2]):=by
 have h1:=Fi g c x.aB d
 refine aC.tree (by
  intro v a;simp at a
  rcases a with rfl | rfl
  .exact bW _ (cx g)
  .exact bW _ λv a=>by simp[bK] at a;rcases a with rfl | rfl<;>exact .val _) (.bb _ λi hi=>by
   match i,hi with
   | 0,_=>exact .val _
   | 1,_=>exact .val _) λH=>?_
 refine ay.of mixed y6 ?_
 simp only[ak,encS,encI] at h1
 unfold bI
 simp(disch:=omega)only[↓wr,seval,wq,sN,ak,encS,bK]
 refine az.pure h1 ?_
 generalize bV g x.aB=R at e f ⊢
 simp(disch:=omega)only[↓wr,seval,wq,bK]
 apply ao.eq<;>intro b
 .simp(disch:=omega)only[↓wr,seval,wq]
  rw[aaT b]
 .have h:R[x.dot.toNat]?=some (R.getD x.dot.toNat 0):=getD_some (by omega)
  simp(disch:=omega)only[↓wr,seval,wq,bK,aaS,h,aa2]
  rw[aaR b]
theorem gH {a b:aO} : c9 a b=true↔a.aB<b.aB∨a.aB=b.aB/\a.dot<b.dot:=by
 simp[c9]
theorem p9 {a b c:aO} (h:c9 a b=true) (k:c9 b c=true):c9 a c=true:=by
 rw[gH] at h k ⊢;omega
theorem np {a:aO} : c9 a a=false:=by
 cases h:c9 a a with
 | false=>rfl
 | true=>rw[gH] at h;omega
theorem M5 {a b:aO} (h:c9 a b=true):c9 b a=false:=by
 cases k:c9 b a with
 | false=>rfl
 | true=>have:=p9 h k;rw[np] at this;exact absurd this (by simp)
theorem zS {a b:aO} (h:c9 a b=false) (c:¬ a=b):c9 b a=true:=by
 rw[gH]
 have h1:¬ c9 a b=true:=by simp[h]
 rw[gH] at h1
 obtain⟨d,ad⟩:=a
 obtain⟨e,f⟩:=b
 simp only[aO.mk.injEq] at c
 simp only at h1 ⊢
 omega
abbrev cL (l:List aO):Prop:=l.Pairwise λa b=>c9 a b=true
theorem jZ:∀ {l:List aO} {x y:aO},y∈fc l x↔y=x∨y∈l
 | [],x,y=>by simp[fc]
 | z::l,x,y=>by
  rw[fc]
  split
  .simp only[abd,jZ (l:=l)]
   constructor
   .rintro (h | h | h)<;>simp[h]
   .rintro (h | h | h)<;>simp[h]
  .split
   .rename_i h;subst h;simp
   .simp
theorem qp:∀ {l:List aO} {x:aO},cL l->cL (fc l x)
 | [],x,_=>by simp[fc,cL]
 | z::l,x,h=>by
  rw[cL,aci] at h
  rw[fc]
  split
  .rename_i c
   rw[cL,aci]
   refine⟨λy a=>?_,qp h.2⟩
   rcases jZ.1 a with rfl | a
   .exact c
   .exact h.1 y a
  .rename_i c
   split
   .exact aci.2 h
   .rename_i d
    have b:=zS (by simpa using c) d
    rw[cL,aci]
    refine⟨λy a=>?_,aci.2 h⟩
    rcases abd.1 a with rfl | a
    .exact b
    .exact p9 b (h.1 y a)
theorem Iu:∀(l:List aO) (x:aO),(fc l x).length=l.length∨(fc l x).length=l.length+1
 | [],x=>.inr rfl
 | z::l,x=>by
  rw[fc]
  split
  .rcases Iu l x with h | h<;>simp[h]
  .split<;>simp
theorem FL:∀ {l:List aO} {x:aO},cL l->x∈l->fc l x=l
 | [],x,_,h=>by simp at h
 | z::l,x,a,h=>by
  rw[cL,aci] at a
  rw[fc]
  rcases abd.1 h with rfl | h
  .rw[aaR (by simp[np]),aaT rfl]
  .rw[aaT (a.1 x h),FL a.2 h]
theorem Gn:∀ {l:List aO} {x:aO},x ∉ l->(fc l x).length=l.length+1
 | [],x,_=>rfl
 | z::l,x,h=>by
  simp only[abd,not_or] at h
  rw[fc]
  split
  .simp[Gn h.2]
  .rw[aaR (λe=>h.1 e.symm)];rfl
theorem Jo:∀ {l:List aO} {x:aO},(∀y∈l,c9 y x=true)->fc l x=l++[x]
 | [],x,_=>rfl
 | z::l,x,h=>by
  rw[fc,aaT (h z (by simp)),Jo λy a=>h y (by simp[a])];rfl
theorem BA:∀ {a b:List aO},cL a->cL b->(∀x,x∈a↔x∈b)->a=b
 | [],[],_,_,_=>rfl
 | [],y::b,_,_,h=>by have:=(h y).2 (by simp);simp at this
 | x::a,[],_,_,h=>by have:=(h x).1 (by simp);simp at this
 | x::a,y::b,d,e,h=>by
  rw[cL,aci] at d e
  have f:x=y:=by
   have h1:=(h x).1 (by simp)
   have c:=(h y).2 (by simp)
   rcases abd.1 h1 with h1 | h1
   .exact h1
   .rcases abd.1 c with c | c
    .exact c.symm
    .have:=p9 (d.1 y c) (e.1 x h1)
     rw[np] at this;exact absurd this (by simp)
  subst f
  congr 1
  refine BA d.2 e.2 λz=>?_
  have g:=h z
  simp only[abd] at g
  constructor
  .intro hm
   rcases g.1 (.inr hm) with rfl | h
   .have:=d.1 z hm;rw[np] at this;exact absurd this (by simp)
   .exact h
  .intro hm
   rcases g.2 (.inr hm) with rfl | h
   .have:=e.1 z hm;rw[np] at this;exact absurd this (by simp)
   .exact h
theorem KC:∀(l:List Int) (a n:Int),l.Pairwise (· < ·)->(∀x∈l,a<=x/\x<a+n)->0<=n->(l.length:Int)<=n
 | [],a,n,_,_,b=>by simpa using b
 | x::l,a,n,hp,hm,b=>by
  rw[aci] at hp
  have h1:=hm x (by simp)
  have:=KC l (x+1) (a+n-(x+1)) hp.2 (λy c=>by have:=hp.1 y c;have:=hm y (by simp[c]);omega) (by omega)
  simp only[aa3];omega
def cT (g:aj) (x:aO):Prop:=(-1<=x.aB/\x.aB<(g.rules.length:Int))/\0<=x.dot/\x.dot<=(bV g x.aB).length
theorem dZ {g:aj} (a:g.c6) {r:Int} (h : -1<=r/\r<(g.rules.length:Int)):(bV g r).length<=6:=by
 unfold bV
 split
 .simp
 .have b:g.rules[r.toNat]?=some (bZ g r):=by unfold bZ;exact getD_some (by omega)
  exact a.right _ (aa1 b)
theorem ly {g:aj} (f:g.c6) {l:List aO} (i:cL l) (h:∀x∈l,cT g x):l.length<=287:=by
 have d:∀x∈l,0<=x.dot/\x.dot<=6:=λx c=>by
  have h1:=h x c
  have:=dZ f h1.1
  exact⟨h1.2.1,by have:=h1.2.2;omega⟩
 have h1:(l.map λx=>(x.aB+1)*7+x.dot).Pairwise (· < ·):=by
  rw[ac7]
  refine List.Pairwise.imp_of_mem ?_ i
  intro a b j k e
  rw[gH] at e
  have:=d a j;have:=d b k
  omega
 have:=KC _ 0 287 h1 (λy m=>by
  obtain⟨x,c,rfl⟩:=aba.1 m
  have n:=(h x c).1
  have:=d x c;have:=f.rules
  omega) (by omega)
 simp at this
 omega
inductive oX (g:aj) (l:List aO):aO->Prop
 | base {x:aO} : x∈l->oX g l x
 | step {x:aO} {s:Int} {k:Nat} {R:bc} : oX g l x->bI g x=(s,true)->s<0->g.rules[k]?=some R->R.left = -1-s->oX g l ⟨k,0⟩
theorem oX.has {g:aj} {l:List aO} (a:∀x∈l,cT g x) {x:aO} (h:oX g l x):cT g x:=by
 induction h with
 | base h=>exact a _ h
 | step _ _ _ hk _ _ =>
  have:=(aaX.1 hk).1
  exact⟨⟨by simp only;omega,by simp only;omega⟩,by simp only;omega,by simp only;omega⟩
def Kj (g:aj):List aO:=(List.range (g.rules.length+1)).flatMap λ(r:Nat)=>(List.range 7).map λ(d:Nat)=>(⟨(r:Int)-1,(d:Int)⟩:aO)
theorem Pz {g:aj} (a:g.c6) {x:aO} (h:cT g x):x∈Kj g:=by
 have:=dZ a h.1
 obtain⟨⟨h1,b⟩,c,e⟩:=h
 simp only[Kj,acu,aba,abL]
 refine⟨(x.aB+1).toNat,by omega,x.dot.toNat,by omega,?_⟩
 obtain⟨r,d⟩:=x
 simp only at h1 b c e this
 simp only[aO.mk.injEq];omega
theorem vx:∀(l a:List aO),cL a->cL (l.foldl fc a)/\∀x,x∈l.foldl fc a↔x∈a∨x∈l
 | [],a,h=>⟨h,λx=>by simp⟩
 | y::l,a,h=>by
  obtain⟨h1,b⟩:=vx l (fc a y) (qp h)
  refine⟨h1,λx=>?_⟩
  rw[abF,b,jZ,abd]
  constructor
  .rintro ((h | h) | h)<;>simp[h]
  .rintro (h | h | h)<;>simp[h]
open Classical in
def du (g:aj) (l:List aO):List aO:=((Kj g).filter λx=>decide (oX g l x)).foldl fc []
theorem uJ (g:aj) (l:List aO):cL (du g l):=(vx _ [] .nil).1
theorem gT {g:aj} (a:g.c6) {l:List aO} (b:∀x∈l,cT g x) {x:aO} : x∈du g l↔oX g l x:=by
 rw[du,(vx _ [] .nil).2]
 simp only[List.not_mem_nil,false_or,ab7,aa5]
 exact⟨λh=>h.2,λh=>⟨Pz a (h.has b),h⟩⟩
theorem El {g:aj} (b:g.c6) {l o:List aO} (c:∀x∈l,cT g x) (a:cL o) (h1:∀x∈o,oX g l x) (d:∀x∈l,x∈o)
  (e:∀x∈o,∀(s:Int) (k:Nat) (R:bc),bI g x=(s,true)->s<0->g.rules[k]?=some R->R.left = -1-s->(⟨k,0⟩:aO)∈o):du g l=o:=by
 refine BA (uJ g l) a λx=>?_
 rw[gT b c]
 refine⟨λh=>?_,h1 x⟩
 induction h with
 | base h=>exact d _ h
 | step _ f a hk i j=>exact e _ j _ _ _ f a hk i
def bu (g:aj) (l:List aO) (s:Int):List aO:=(l.filter λx=>decide (bI g x=(s,true))).map λx=>⟨x.aB,x.dot+1⟩
theorem rU {g:aj} {l:List aO} {s:Int} {y:aO} : y∈bu g l s↔∃x∈l,bI g x=(s,true)/\y=⟨x.aB,x.dot+1⟩:=by
 simp only[bu,aba,ab7,aa5]
 constructor
 .rintro⟨x,⟨h1,a⟩,rfl⟩;exact⟨x,h1,a,rfl⟩
 .rintro⟨x,h1,a,rfl⟩;exact⟨x,⟨h1,a⟩,rfl⟩
theorem IC {g:aj} {l:List aO} (s:Int) (h:cL l):cL (bu g l s):=by
 rw[cL,bu,ac7]
 refine(h.filter _).imp ?_
 intro a b c
 rw[gH] at c ⊢
 simp only;omega
theorem xx {g:aj} {x:aO} {s:Int} (h:bI g x=(s,true)):x.dot≠(bV g x.aB).length/\(bV g x.aB).getD x.dot.toNat 0=s:=by
 unfold bI at h
 split at h
 .simp at h
 .rename_i a;exact⟨a,by simpa using h⟩
theorem K4 {g:aj} {l:List aO} {s:Int} (a:∀x∈l,cT g x):∀y∈bu g l s,cT g y:=by
 intro y b
 obtain⟨x,c,d,rfl⟩:=rU.1 b
 have h1:=a x c
 have e:=(xx d).1
 exact⟨h1.1,by simp only;have:=h1.2;omega,by simp only;have:=h1.2;omega⟩
theorem Ro {g:aj} {l:List aO} (b:cL l) {i:Nat} {x:aO} (c:l[i]?=some x) (s:Int):
  bu g (l.take (i+1)) s=if bI g x=(s,true) then fc (bu g (l.take i) s) ⟨x.aB,x.dot+1⟩ else bu g (l.take i) s:=by
 have e:l.take (i+1)=l.take i++[x]:=by rw[aa9,c];rfl
 rw[e]
 split
 .rename_i h
  rw[Jo]
  .simp[bu,h]
  .intro y d
   obtain⟨z,f,_,rfl⟩:=rU.1 d
   have a:cL (l.take (i+1)):=b.sublist (List.take_sublist _ _)
   rw[e,cL,List.pairwise_append] at a
   have:=a.2.2 z f x (by simp)
   rw[gH] at this ⊢
   simp only;omega
 .rename_i h
  simp[bu,h]
theorem vP {g:aj} {l:List aO} {s:Int} : (bu g l s).length<=l.length:=by
 rw[bu,aaU];exact acA _ _
structure ba where
 bz:List aO
 cF:List fY
 deriving DecidableEq
abbrev b6:ba:=⟨[],[]⟩
def bg (g:aj) (i:Nat):Int:=if i<g.ax.length then i else -1-((i:Int)-g.ax.length)
def findD:List ba->List aO->Int
 | [],_=>-1
 | s::l,k=>if s.bz=k then 0 else if findD l k<0 then -1 else findD l k+1
theorem zR:∀(l:List ba) (k:List aO),-1<=findD l k
 | [],_=>by simp[findD]
 | s::l,k=>by
  rw[findD];split
  .omega
  .split<;>omega
theorem zy:∀(l:List ba) (k:List aO),findD l k<l.length
 | [],_=>by simp[findD]
 | s::l,k=>by
  have:=zy l k
  rw[findD];simp only[aa3];split
  .omega
  .split<;>omega
theorem JZ:∀(l:List ba) (k:List aO) (i:Nat),findD l k=i->∃s,l[i]?=some s/\s.bz=k
 | [],_,i,h=>by simp[findD] at h
 | s::l,k,i,h=>by
  rw[findD] at h
  split at h
  .rename_i e
   have:i=0:=by omega
   subst this
   exact⟨s,rfl,e⟩
  .split at h
   .omega
   .obtain⟨j,rfl⟩:∃j,i=j+1:=⟨i-1,by omega⟩
    obtain⟨t,h1,a⟩:=JZ l k j (by omega)
    exact⟨t,by simpa using h1,a⟩
theorem Kt:∀(l:List ba) (k:List aO),findD l k<0->∀s∈l,s.bz≠k
 | [],_,_,s,a=>by simp at a
 | t::l,k,h,s,a=>by
  rw[findD] at h
  split at h
  .omega
  .rename_i b
   have c:findD l k<0:=by
    split at h
    .assumption
    .omega
   rcases abd.1 a with rfl | a
   .exact b
   .exact Kt l k c s a
theorem K7:∀(l:List ba) (k:List aO) (i:Nat) (s:ba),l[i]?=some s->s.bz=k->(∀j t,j<i->l[j]?=some t->t.bz≠k)->findD l k=i
 | [],_,_,_,h,_,_=>by simp at h
 | t::l,k,0,s,h,hk,_=>by simp at h;subst h;simp[findD,hk]
 | t::l,k,i+1,s,h,hk,a=>by
  have b:=a 0 t (by omega) rfl
  have:=K7 l k i s (by simpa using h) hk λj u c hu=>a (j+1) u (by omega) (by simpa using hu)
  rw[findD,aaR b,this,aaR (by omega)];omega
theorem FF:∀(l:List ba) (k:List aO),(∀s∈l,s.bz≠k)->findD l k = -1
 | [],_,_=>rfl
 | t::l,k,h=>by
  have:=FF l k λs a=>h s (by simp[a])
  rw[findD,aaR (h t (by simp)),this];rfl
def dB (g:aj) (l:List aO) (at_:Nat) (out:List ba) (i:Nat):List ba:=
 if bu g l (bg g i)=[] then out else
 if findD out (bu g l (bg g i))<0 then (out++[(⟨bu g l (bg g i),[]⟩:ba)]).modify at_ λs=>(⟨s.bz,s.cF++[⟨bg g i,out.length⟩]⟩:ba)
 else out.modify at_ λs=>(⟨s.bz,s.cF++[⟨bg g i,findD out (bu g l (bg g i))⟩]⟩:ba)
def AZ (g:aj) (at_:Nat) (out:List ba) (n:Nat):List ba:=(List.range n).foldl (dB g (du g (out.getD at_ b6).bz) at_) out
def fU (g:aj):Nat->Nat->List ba->List ba × Int
 | 0,_,out=>(out,0)
 | f+1,at_,out=>if at_<out.length then
   (if 300<(AZ g at_ out (g.ax.length+g.av.length)).length then ([],5) else fU g f (at_+1) (AZ g at_ out (g.ax.length+g.av.length)))
  else (out,0)
def eu:List ba:=[⟨[⟨-1,0⟩],[]⟩]
abbrev BV:=BitVec 32
def ix:List fY->Int->Int
 | [],_=>-1
 | e::l,s=>if e.sym=s then e.to else ix l s
def jO (a:List ba):Int->List Int->Int × Bool
 | at_,[]=>(at_,true)
 | at_,s::l=>if 0<=ix (a.getD at_.toNat b6).cF s/\ix (a.getD at_.toNat b6).cF s<a.length then jO a (ix (a.getD at_.toNat b6).cF s) l else (0,false)
def oP (a:List ba) (at_:Int) (l:List Int):Int × Bool:=if at_<0∨(a.length:Int)<=at_ then (0,false) else jO a at_ l
abbrev Sets:=List (List BV)
theorem Ir {α:Type} (l:List α) (i j:Nat) (x d:α):(l.set i x).getD j d=if i=j/\i<l.length then x else l.getD j d:=by
 by_cases e:i=j
 .subst e
  by_cases h:i<l.length
  .simp[h]
  .simp[h]
 .simp[e]
def hU (g:aj) (x:aO):List Int:=if 0<=x.aB then (bZ g x.aB).right.drop (x.dot+1).toNat else []
section
variable {g:aj} {null:List Bool} {a:List ba} {ls:List (List aO)}
end
theorem jM {g:aj} (a:g.c6) : -100<=g.start/\g.start<=100:=by
 have:=a.lB;have:=a.start;have:=a.av;omega
theorem D0 (g:aj) (b:g.c6) (x:aO) (a:cT g x):aC aa 134 [.agg (ak g),.agg (bK x)] (.bb [gi (bI g x).1,gb (bI g x).2]):=
 Su g (jM b) x a.1 a.2 (by have:=dZ b a.1;omega)
theorem tC {l:List aO} {i:Nat} {y:aO} (h:l[i]?=some y):(bf l).getD i []=[gi y.aB,gi y.dot]:=by simp[bf,aaP,h,bK]
theorem bR (l:List aO):(bf l).length=l.length:=by simp[bf]
theorem zA {g:aj} {x:aO} {s:Int} {b:Bool} (d:g.c6) (f:cT g x) (h:bI g x=(s,b)) : -1000<=s/\s<=1000:=by
 have a:∀s∈bV g x.aB,-1000<=s/\s<=1000:=by
  intro s c
  unfold bV at c
  split at c
  .simp at c;subst c;have:=jM d;omega
  .have i:g.rules[x.aB.toNat]?=some (bZ g x.aB):=by unfold bZ;exact getD_some (by have:=f.1;omega)
   have h1:=d.sym _ (aa1 i) s c
   have:=d.ax;have:=d.av
   unfold dP at h1
   split at h1<;>simp at h1<;>omega
 unfold bI at h
 split at h
 .simp at h;omega
 .rename_i j
  simp only[abf] at h
  have e:x.dot.toNat<(bV g x.aB).length:=by have:=f.2;omega
  rw[<-h.1]
  exact a _ (aa1 (getD_some e))
def nG:SC:=
 ai [ai [ag [af 12 6,af 13 1,aN 14 13,aS 15 .lss 12 14],bP 15 (.exit 0)],.block 1 (ag [af 18 5,af 19 1,af 20 6,aL 21 2 19 20,aU 22 2 21,aV 23 133 [18,22],af 5 23]),ag [af 16 6,aH 17 .add 16 1,af 6 17]]
def jH:SC:=
 ai [ai [.region false [⟨none,[af 41 9,af 42 41]⟩,⟨(some (42,true)),[af 43 8,aH 44 .lss 43 0]⟩,⟨none,[dO 45 42 44,af 46 45]⟩,⟨(some (46,true)),[af 47 11,aw 48 2 2,au 49 48,aN 50 49,aS 51 .lss 47 50]⟩,⟨none,[dO 52 46 51]⟩],bP 52 (.exit 4)],.block 5 (ai [ag [aw 55 2 2,au 56 55,af 57 11,aL 58 3 56 57,aw 59 0 58,au 60 59,af 61 8,((some 62),.op (.arith .sub (.val (.val (.int .i64 (-1)))) (.tmp 61))),aS 63 .eql 60 62],aX 63 (ag [af 64 5,af 65 11,((some 66),.op (.build [(.val (.int .i64 0)),(.val (.int .i64 0))] [(0,1,(.tmp 65))])),aV 67 133 [64,66],af 5 67])]),ag [af 53 11,aH 54 .add 53 1,af 11 54]]
def nL:SC:=
 ai [ai [ag [af 24 7,af 25 5,aN 26 25,aS 27 .lss 24 26],bP 27 (.exit 2)],.block 3 (ai [ag [aU 31 4 2,af 32 5,af 33 7,aL 34 2 32 33,aU 35 2 34,aV 36 134 [31,35],af 30 36,c7 37 0 30,c7 38 1 30,af 8 37,af 9 38],ag [af 39 5,aN 40 39,af 10 40],ai [ag [aT 11 0],bQ 4 jH],ag [af 68 5,aN 69 68,af 70 10,aS 71 .gtr 69 70],aX 71 (ag [aT 7 (-1)])]),ag [af 28 7,aH 29 .add 28 1,af 7 29]]
def pE:SF:=⟨ai [ag [cm 2 0,bT 4 1],ag [bT 5 1],ai [ag [aT 6 0],bQ 0 nG],ai [ag [aT 7 0],bQ 2 nL],ag [af 72 5,af 4 72],.ret],
 [.tmp 4],73⟩
theorem vT:aJ aa 69 [2]=some pE:=by kernel_rfl
def px:SC:=
 ai [ai [ag [af 11 8,af 12 1,aN 13 12,aS 14 .lss 11 13],bP 14 (.exit 0)],.block 1 (ai [ag [aU 18 4 3,af 19 1,af 20 8,aL 21 2 19 20,aU 22 2 21,aV 23 134 [18,22],af 17 23,c7 24 0 17,c7 25 1 17,af 9 24,af 10 25],.region false [⟨none,[af 26 10,af 27 26]⟩,⟨(some (27,true)),[af 28 9,af 29 2,aS 30 .eql 28 29]⟩,⟨none,[dO 31 27 30]⟩],aX 31 (ag [af 32 7,af 33 1,af 34 8,aL 35 2 33 34,aw 36 0 35,au 37 36,af 38 1,af 39 8,aL 40 2 38 39,aw 41 1 40,au 42 41,aH 43 .add 42 1,((some 44),.op (.build [(.val (.int .i64 0)),(.val (.int .i64 0))] [(0,1,(.tmp 37)),(1,1,(.tmp 43))])),aV 45 133 [32,44],af 7 45])]),ag [af 15 8,aH 16 .add 15 1,af 8 16]]
def rG:SF:=⟨ai [ag [cm 3 0,bT 6 1],ag [bT 7 1],ai [ag [aT 8 0],bQ 0 px],ag [af 46 7,af 6 46],.ret],
 [.tmp 6],47⟩
theorem xC:aJ aa 71 [3]=some rG:=by kernel_rfl
def pq:SC:=
 ai [ai [ag [af 11 5,af 12 0,aN 13 12,aS 14 .lss 11 13],bP 14 (.exit 0)],.block 1 (ai [ag [af 17 0,af 18 5,aL 19 2 17 18,aU 20 2 19,af 21 1,af 22 5,aL 23 2 21 22,aU 24 2 23,((some 25),.op (.old (.binOp .neq 120 (.tmp 20) (.tmp 24) 120) 4))],aX 25 (ai [ag [bh 4 false],.ret])]),ag [af 15 5,aH 16 .add 15 1,af 5 16]]
def rB:SF:=⟨ai [ag [bh 4 false],ai [ag [af 6 0,aN 7 6,af 8 1,aN 9 8,aS 10 .neq 7 9],aX 10 (ai [ag [bh 4 false],.ret])],ai [ag [aT 5 0],bQ 0 pq],ag [bh 4 true],.ret],
 [.tmp 4],26⟩
theorem xq:aJ aa 135 []=some rB:=by kernel_rfl
def p7:SF:=⟨ai [ag [cm 2 0,aT 4 0],ai [ag [af 5 1,aw 6 0 2,au 7 6,aN 8 7,aS 9 .lss 5 8],aX 9 (ai [ag [af 10 1,af 4 10],.ret])],ag [af 11 1,aw 12 0 2,au 13 12,aN 14 13,aS 15 .sub 11 14,((some 16),.op (.arith .sub (.val (.val (.int .i64 (-1)))) (.tmp 15))),af 4 16],.ret],
 [.tmp 4],17⟩
theorem vX:aJ aa 70 [2]=some p7:=by kernel_rfl
def Zx (g:aj) (out:List aO) (x:aO):Prop:=∀(s:Int) (k:Nat) (R:bc),bI g x=(s,true)->s<0->g.rules[k]?=some R->R.left = -1-s->(⟨k,0⟩:aO)∈out
def VS (g:aj) (l:List aO) (H:View) (m:Nat) (T:Env) (H':View):Prop:=∃(i:Nat) (r:V) (out:List aO),m=(300-out.length)*1000+(300-i)/\i<=out.length/\aP H' r 2 (bf out)/\cn H H' r/\cL out/\(∀x∈out,oX g l x)/\(∀x∈l,x∈out)/\(∀j x,j<i->out[j]?=some x->Zx g out x) /\
 T 2=.aR (ak g) 0/\T 5=r/\T 7=gi i
theorem KS (g:aj) (J:g.c6) (l:List aO) (hl:∀x∈l,cT g x) (hn:l.length<=10000) (u:V) (H:View) (ho:aP H u 2 (bf l)):ay aa 69 [.agg (ak g),u] H λr H'=>aP H' r 2 (bf (du g l))/\cn H H' r:=by
 refine ay.of mixed vT ?_
 have hlen:cJ u=some l.length:=by rw[ho.len];simp[bf]
 have bd:=J.rules
 simp(disch:=omega)only[↓wr,seval,wq,pE,ak,encS]
 refine aW.up l.length (λi T H'=>∃(r:V) (out:List aO),aP H' r 2 (bf out)/\cn H H' r/\cL out/\(∀x,x∈out↔x∈l.take i)/\out.length<=287/\T 1=u/\T 2=.aR (ak g) 0/\T 5=r/\T 6=gi i)
  ⟨.emp 1,[],.nil,.emp,.nil,by simp,by simp,rfl,rfl,rfl,rfl⟩ ?_
 rintro i k T H' hk ⟨r,out,D,fr,n,hm,hle,t1,t2,t5,t6⟩
 simp(disch:=omega)only[↓wr,seval,wq,nG,t1,t2,t5,t6,hlen]
 apply ao.dec<;>intro hc
 .have N:l[i]?=some (l[i]'(by omega)):=aaQ (by omega)
  have W:l.take (i+1)=l.take i++[l[i]'(by omega)]:=by rw[aa9,N];rfl
  generalize l[i]'(by omega)=y at N W
  obtain⟨id,hu,t⟩:=ho.sl (by simp[bf];omega)
  have X:H' id=.arr 2 (bf l):=by rw[(fr id (by rw[t];simp)).1,t]
  simp(disch:=omega)only[↓wr,seval,wq,t1,t2,t5,t6,hu,X,tC N]
  refine⟨by first | omega | (simp[bf];omega),by first | omega | (simp[bf];omega),?_⟩
  refine az.cG ((Et r out (by omega) y H' D).mono ?_)
  rintro p H2 ⟨O,l2⟩
  simp(disch:=omega)only[↓wr,seval,wq,t1,t2,t5,t6]
  have Y:∀x,x∈fc out y↔x∈l.take (i+1):=λx=>by
   rw[jZ,W,aa7,hm,abN,or_comm]
  have Z:=qp (x:=y) n
  exact aE hk (by omega) ⟨p,fc out y,O,fr.step l2,Z,Y,ly J Z (λx b=>hl x (acs ((Y x).1 b))),t1,t2,rfl,rfl⟩
 rw[aa6 (by omega)] at hm
 simp(disch:=omega)only[↓wr,seval,wq,t1,t2,t5,t6]
 refine aW.intro (VS g l H) ((300-out.length)*1000+300)
  ⟨0,r,out,by omega,ab4 _,D,fr,n,λx b=>.base ((hm x).1 b),λx b=>(hm x).2 b,λj x hj=>by omega,t2,t5,rfl⟩ ?_
 clear D fr n hm hle t1 t2 t5 t6 hc hk
 rintro m T1 H1 ⟨i,r,out,rfl,hi,D,fr,n,E,P,ab,t2,t5,t7⟩
 have K:∀x∈out,cT g x:=λx b=>(E x b).has hl
 have hle:=ly J n K
 have ar:cJ r=some out.length:=by rw[D.len,bR]
 simp(disch:=omega)only[↓wr,seval,wq,nL,t2,t5,t7,ar]
 apply ao.dec<;>intro hc
 .have N:out[i]?=some (out[i]'(by omega)):=aaQ (by omega)
  have Q:=K _ (aaW (show i<out.length by omega))
  have ae:=E _ (aaW (show i<out.length by omega))
  generalize out[i]'(by omega)=y at N Q ae
  have h1:=D0 g J y Q
  cases F:bI g y with
  | mk s G =>
  have bl:=zA J Q F
  rw[F] at h1
  obtain⟨id,hu,t⟩:=D.sl (by simp[bf];omega)
  rw[bR] at hu
  simp only[ak,encS,bK] at h1
  simp(disch:=omega)only[↓wr,seval,wq,t2,t5,t7,hu,t,tC N,ak,encS]
  refine⟨by first | omega | (simp[bf];omega),by first | omega | (simp[bf];omega),?_⟩
  refine az.pure h1 ?_
  simp(disch:=omega)only[↓wr,seval,wq,t2,t5,t7,hu]
  refine aW.up g.rules.length (λk T H'=>∃(p:V) (a:List aO),aP H' p 2 (bf a)/\cn H H' p/\cL a/\(∀x∈a,oX g l x)/\(∀x∈out,x∈a)/\out.length<=a.length/\(a.length=out.length->a=out) /\
   (∀(q:Nat) (R:bc),q<k->G=true->s<0->g.rules[q]?=some R->R.left = -1-s->(⟨q,0⟩:aO)∈a)/\T 2=.aR (ak g) 0/\T 5=p/\T 7=gi i/\T 8=gi s/\T 9=gb G/\T 10=gi out.length/\T 11=gi k)
   ⟨r,out,D,fr,n,E,λx b=>b,aaY _,λ_=>rfl,λq R hq=>by omega,t2,by rw[<-hu];exact t5,t7,rfl,rfl,rfl,rfl⟩ ?_
  clear D fr t2 t5 t7 t hu
  rintro k j T2 H2 hk ⟨p,a,O,I,c,d,v,S,o,w,t2,t5,t7,t8,t9,t10,t11⟩
  have U:∀x∈a,cT g x:=λx b=>(d x b).has hl
  have a8:=ly J c U
  have f:cJ p=some a.length:=by rw[O.len,bR]
  have more:out.length<a.length->∀z:Env,z 2=.aR (ak g) 0->z 5=p->z 7=gi 0->∃k',k'<(300-out.length)*1000+(300-i)/\VS g l H k' z H2:=λh z e2 e5 e7 =>
   ⟨(300-a.length)*1000+300,by omega,0,p,a,by omega,ab4 _,O,I,c,d,λx b=>v x (P x b),λj x hj=>by omega,e2,e5,e7⟩
  have stay:(G=true->s<0->g.rules.length<=k)->¬ out.length<a.length->∀z:Env,z 2=.aR (ak g) 0->z 5=p->z 7=gi ((i:Int)+1)->∃k',k'<(300-out.length)*1000+(300-i)/\VS g l H k' z H2:=λal h z e2 e5 e7=>by
   have e:=o (by omega)
   subst e
   refine⟨(300-a.length)*1000+(300-(i+1)),by omega,i+1,p,a,rfl,by omega,O,I,c,d,P,λj x hj b=>?_,e2,e5,e7⟩
   rcases abo j i with an | an
   .exact ab j x an b
   .have:j=i:=by omega
    subst this
    rw[N] at b
    simp only[aaV] at b
    subst b
    intro s' q R h1 L A M
    rw[F] at h1
    simp only[abf] at h1
    obtain⟨rfl,rfl⟩:=h1
    have:=(aaX.1 A).1
    exact w q R (by have:=al rfl L;omega) rfl L A M
  cases G with
  | false =>
   simp(disch:=omega)only[↓wr,seval,wq,jH,t2,t5,t7,t8,t9,t10,t11,f]
   apply ao.dec<;>intro hg
   .simp(disch:=omega)only[↓wr,seval,wq,t2,t5,t7]
    exact more (by omega) _ t2 t5 rfl
   .simp(disch:=omega)only[↓wr,seval,wq,t2,t5,t7]
    exact stay (λh=>by simp at h) (by omega) _ t2 t5 rfl
  | true =>
   simp(disch:=omega)only[↓wr,seval,wq,jH,t2,t5,t7,t8,t9,t10,t11,f,ak]
   apply ao.dec<;>intro B
   .simp(disch:=omega)only[↓wr,seval,wq,t2,t5,t7,t8,t9,t10,t11,f,ak]
    apply ao.dec<;>intro a1
    .have hR:g.rules[k]?=some (g.rules[k]'(by omega)):=aaQ (by omega)
     have hL:=J.left _ (aaW (show k<g.rules.length by omega))
     generalize g.rules[k]'(by omega)=R at hR hL
     simp(disch:=omega)only[↓wr,seval,wq,t2,t5,t7,t8,t9,t10,t11,ak,aQ,aaS,hR,aa2]
     apply ao.eq<;>intro he
     .simp(disch:=omega)only[↓wr,seval,wq,t2,t5,t7,t8,t9,t10,t11]
      refine az.cG ((Et p a (by omega) ⟨k,0⟩ H2 O).mono ?_)
      rintro r3 H3 ⟨o3,l3⟩
      simp(disch:=omega)only[↓wr,seval,wq,t2,t5,t7,t8,t9,t10,t11]
      have aq:oX g l ⟨k,0⟩:=.step ae F B hR he
      refine aE hk (by omega) ⟨r3,fc a ⟨k,0⟩,o3,I.step l3,qp c,λx b=>?_,λx b=>jZ.2 (.inr (v x b)),by have:=Iu a ⟨k,0⟩;omega,λh=>?_,λq R' hq L A M=>?_,t2,rfl,t7,t8,t9,t10,rfl⟩
      .rcases jZ.1 b with rfl | b
       .exact aq
       .exact d x b
      .have a6:(⟨k,0⟩:aO)∈a:=ack λa7=>by
        have:=Gn a7;omega
       rw[FL c a6] at h ⊢
       exact o h
      .rcases abo q k with C | C
       .exact jZ.2 (.inr (w q R' C rfl L A M))
       .have:q=k:=by omega
        subst this
        exact jZ.2 (.inl rfl)
     .simp(disch:=omega)only[↓wr,seval,wq,t2,t5,t7,t8,t9,t10,t11]
      refine aE hk (by omega) ⟨p,a,O,I,c,d,v,S,o,λq R' hq L A M=>?_,t2,t5,t7,t8,t9,t10,rfl⟩
      rcases abo q k with C | C
      .exact w q R' C rfl L A M
      .have:q=k:=by omega
       subst this
       rw[hR] at A
       simp only[aaV] at A
       subst A
       exact absurd M he
    .simp(disch:=omega)only[↓wr,seval,wq,t2,t5,t7,t8,t9,t10,t11,f]
     apply ao.dec<;>intro hg
     .simp(disch:=omega)only[↓wr,seval,wq,t2,t5,t7]
      exact more (by omega) _ t2 t5 rfl
     .simp(disch:=omega)only[↓wr,seval,wq,t2,t5,t7]
      exact stay (λ_ _=>by omega) (by omega) _ t2 t5 rfl
   .simp(disch:=omega)only[↓wr,seval,wq,t2,t5,t7,t8,t9,t10,t11,f]
    apply ao.dec<;>intro hg
    .simp(disch:=omega)only[↓wr,seval,wq,t2,t5,t7]
     exact more (by omega) _ t2 t5 rfl
    .simp(disch:=omega)only[↓wr,seval,wq,t2,t5,t7]
     exact stay (λ_ h=>absurd h B) (by omega) _ t2 t5 rfl
 .simp(disch:=omega)only[↓wr,seval,wq,t2,t5,t7]
  have bn:i=out.length:=by omega
  rw[El J hl n E P (λx b s k R h1 L A M=>by
   obtain⟨j,hj,e⟩:=acv.1 b
   exact ab j x (by omega) (by rw[aaQ hj,e]) s k R h1 L A M)]
  exact⟨D,fr⟩
theorem Po (g:aj) (m:g.c6) (l:List aO) (t:cL l) (v:∀x∈l,cT g x) (s:Int) (u:V) (H:View) (w:aP H u 2 (bf l)):ay aa 71 [.agg (ak g),u,gi s] H λr H'=>aP H' r 2 (bf (bu g l s))/\cn H H' r:=by
 refine ay.of mixed xC ?_
 have hlen:cJ u=some l.length:=by rw[w.len];simp[bf]
 have hle:=ly m t v
 simp(disch:=omega)only[↓wr,seval,wq,rG,ak,encS]
 refine aW.up l.length (λi T H'=>∃(r:V),aP H' r 2 (bf (bu g (l.take i) s))/\cn H H' r/\T 1=u/\T 2=gi s/\T 3=.aR (ak g) 0/\T 7=r/\T 8=gi i)
  ⟨.emp 1,.nil,.emp,rfl,rfl,rfl,rfl,rfl⟩ ?_
 rintro i k T H' hk ⟨r,h,fr,t1,t2,t3,t7,t8⟩
 simp(disch:=omega)only[↓wr,seval,wq,px,t1,t2,t3,t7,t8,hlen]
 apply ao.dec<;>intro B
 .have j:l[i]?=some (l[i]'(by omega)):=aaQ (by omega)
  have b:=v _ (aaW (show i<l.length by omega))
  have a:=Ro (g:=g) t (show l[i]?=some (l[i]'(by omega)) from j) s
  generalize l[i]'(by omega)=y at j b a
  have h1:=D0 g m y b
  cases c:bI g y with
  | mk q n =>
  rw[c] at h1
  obtain⟨id,hu,f⟩:=w.sl (by simp[bf];omega)
  have d:H' id=.arr 2 (bf l):=by rw[(fr id (by rw[f];simp)).1,f]
  rw[bR] at hu
  have z:=b.2
  have L:=dZ m b.1
  have o:=vP (g:=g) (l:=l.take i) (s:=s)
  simp only[abS] at o
  simp only[ak,encS,bK] at h1
  simp(disch:=omega)only[↓wr,seval,wq,t1,t2,t3,t7,t8,hu,d,tC j,ak,encS]
  refine⟨by first | omega | (simp[bf];omega),by first | omega | (simp[bf];omega),?_⟩
  refine az.pure h1 ?_
  have skip:¬ bI g y=(s,true)->∀e:Env,e 1=u->e 2=gi s->e 3=.aR (ak g) 0->e 7=r->e 8=gi ((i:Int)+1)->∃A,A<k/\FQ l.length A (λi T H'=>∃(r:V),aP H' r 2 (bf (bu g (l.take i) s))/\cn H H' r/\T 1=u/\T 2=gi s/\T 3=.aR (ak g) 0/\T 7=r/\T 8=gi i) e H':=λp e C D E F G=>by
   rw[aaR p] at a
   exact aE hk (by omega) ⟨r,by rw[a];exact h,fr,C,D,E,F,G⟩
  cases n with
  | false =>
   simp(disch:=omega)only[↓wr,seval,wq,t1,t2,t3,t7,t8]
   exact skip (by rw[c];simp) _ t1 t2 t3 t7 rfl
  | true =>
   simp(disch:=omega)only[↓wr,seval,wq,t1,t2,t3,t7,t8]
   apply ao.eq<;>intro he
   .simp(disch:=omega)only[↓wr,seval,wq,t1,t2,t3,t7,t8,hu,d,tC j]
    refine⟨by first | omega | (simp[bf];omega),by first | omega | (simp[bf];omega),?_⟩
    refine⟨by first | omega | (simp[bf];omega),by first | omega | (simp[bf];omega),?_⟩
    refine az.cG ((Et r (bu g (l.take i) s) (by omega) ⟨y.aB,y.dot+1⟩ H' h).mono ?_)
    rintro I M ⟨J,K⟩
    simp(disch:=omega)only[↓wr,seval,wq,t1,t2,t3,t7,t8]
    rw[aaT (by rw[c,he])] at a
    exact aE hk (by omega) ⟨I,by rw[a];exact J,fr.step K,t1,t2,t3,rfl,rfl⟩
   .simp(disch:=omega)only[↓wr,seval,wq,t1,t2,t3,t7,t8]
    exact skip (by rw[c];simp[he]) _ t1 t2 t3 t7 rfl
 .simp(disch:=omega)only[↓wr,seval,wq,t1,t2,t3,t7,t8]
  rw[aa6 (by omega)] at h
  exact⟨h,fr⟩
theorem FA {g:aj} (a:g.c6) {i:Nat} (hi:i<g.ax.length+g.av.length) : -100<=bg g i/\bg g i<=100:=by
 have:=a.ax;have:=a.av
 unfold bg;split<;>omega
theorem MB (g:aj) (a:g.c6) (i:Nat) (hi:i<g.ax.length+g.av.length):aC aa 70 [.agg (ak g),gi i] (gi (bg g i)):=by
 refine aC.val (by
  intro v b;simp at b
  rcases b with rfl | rfl
  .exact bW _ (cx g)
  .exact .val _) λH=>?_
 have:=a.ax;have:=a.av
 refine ay.of mixed vX ?_
 unfold bg
 simp(disch:=omega)only[↓wr,seval,wq,p7,ak,encS]
 apply ao.dec<;>intro h
 .simp(disch:=omega)only[↓wr,seval,wq]
  rw[aaT (by omega)]
 .simp(disch:=omega)only[↓wr,seval,wq,ak]
  rw[aaR (by omega)]
theorem GS (l:List aO):Tree (.aZ (bf l)):=fi _ _ λx _ v a=>by simp[bK] at a;rcases a with rfl | rfl<;>exact .val _
theorem Pg (a b:List aO) (g:aI a) (j:aI b):aC aa 135 [.aZ (bf a),.aZ (bf b)] (gb (a==b)):=by
 unfold aI at g j
 refine aC.val (by
  intro v f;simp at f
  rcases f with rfl | rfl<;>exact GS _) λH=>?_
 refine ay.of mixed xq ?_
 simp(disch:=omega)only[↓wr,seval,wq,rB,bf]
 apply ao.ne<;>intro h
 .simp(disch:=omega)only[↓wr,seval,wq]
  have:(a==b)=false:=by simp;rintro rfl;exact h rfl
  rw[this]
 .simp(disch:=omega)only[↓wr,seval,wq]
  refine aW.up a.length (λi T H'=>a.take i=b.take i/\T 0=.aZ (bf a)/\T 1=.aZ (bf b)/\T 5=gi i) ⟨rfl,rfl,rfl,rfl⟩ ?_
  rintro i k T H' hk ⟨he,t0,t1,t5⟩
  simp(disch:=omega)only[↓wr,seval,wq,pq,t0,t1,t5,bf]
  apply ao.dec<;>intro l
  .have d:a[i]?=some (a[i]'(by omega)):=aaQ (by omega)
   have c:b[i]?=some (b[i]'(by omega)):=aaQ (by omega)
   generalize a[i]'(by omega)=x at d
   generalize b[i]'(by omega)=y at c
   simp(disch:=omega)only[↓wr,seval,wq,t0,t1,t5,bf,aaS,d,c,aa2,bK]
   refine km (xs:=#[.int .i64 x.aB,.int .i64 x.dot]) (ys:=#[.int .i64 y.aB,.int .i64 y.dot]) Tryz.underlying120 (by kernel_rfl) (by kernel_rfl) ?_ ?_ (tv x y) (.inr ⟨rfl,rfl⟩) ?_
   .rfl
   .rfl
   rw[B3]
   simp(disch:=omega)only[↓wr,seval,wq,t0,t1,t5]
   apply ao.dec<;>intro e
   .simp(disch:=omega)only[↓wr,seval,wq,t0,t1,t5]
    exact aE hk (by omega) ⟨by rw[aa9,aa9,he,d,c,e],t0,t1,rfl⟩
   .simp(disch:=omega)only[↓wr,seval,wq]
    have:(a==b)=false:=by
     simp;rintro rfl
     rw[d] at c;simp at c;exact e c
    rw[this]
  .simp(disch:=omega)only[↓wr,seval,wq,t0,t1,t5]
   rw[aa6 (by omega),aa6 (by omega)] at he
   rw[he,beq_self_eq_true]
structure Zu where
 aB:Int
 set:BV
 deriving DecidableEq
def cD (g:aj):List ba × Int:=if isRed g=true then fU g 302 0 eu else ([],1)
structure eo (g:aj) (at_ i:Nat) (out:List ba):Prop where
 bz:∀s∈out,cL s.bz/\s.bz≠[]/\∀x∈s.bz,cT g x
 cF:∀j s,out[j]?=some s->s.cF.length<=40/\(j=at_->s.cF.length<=i)/\(at_<j->s.cF=[])
 to:∀s∈out,∀e∈s.cF,0<=e.to/\e.to<out.length
 sym:∀s∈out,∀e∈s.cF,-1000<=e.sym/\e.sym<=1000
theorem mem_modify {α:Type} {l:List α} {i:Nat} {f:α->α} {y:α} (h:y∈l.modify i f):y∈l∨∃x,l[i]?=some x/\y=f x:=by
 obtain⟨j,a,e⟩:=acv.1 h
 simp only[List.length_modify] at a
 rw[List.getElem_modify] at e
 split at e
 .rename_i b
  subst b
  exact .inr ⟨l[i],aaQ a,e.symm⟩
 .exact .inl (e▸aaW a)
theorem Q4 (g:aj) (l:List aO) (at_:Nat) (out:List ba) (i:Nat):out.length<=(dB g l at_ out i).length/\(dB g l at_ out i).length<=out.length+1:=by
 unfold dB
 split
 .omega
 .split
  .simp
  .simp
theorem eo.put {g:aj} {at_ i:Nat} {out:List ba} (h:eo g at_ i out) (hi:i<40) {s:Int} (c : -1000<=s/\s<=1000) {to:Int} (d:0<=to/\to<out.length):eo g at_ (i+1) (out.modify at_ λx=>(⟨x.bz,x.cF++[⟨s,to⟩]⟩:ba)):=by
 refine⟨λy a=>?_,λj y a=>?_,λy a e he=>?_,λy a e he=>?_⟩
 rotate_right
 .rcases mem_modify a with a | ⟨x,b,rfl⟩
  .exact h.sym y a e he
  .rcases aa7.1 he with he | he
   .exact h.sym x (aa1 b) e he
   .simp at he;subst he;exact c
 .rcases mem_modify a with a | ⟨x,b,rfl⟩
  .exact h.bz y a
  .exact h.bz x (aa1 b)
 .rw[List.getElem?_modify] at a
  cases b:out[j]? with
  | none=>rw[b] at a;simp at a
  | some x =>
   rw[b] at a
   have h1:=h.cF j x b
   by_cases e:at_=j
   .subst e
    simp at a
    subst a
    refine⟨by simp;omega,λ_=>by simp;omega,λh=>by omega⟩
   .simp[e] at a
    subst a
    exact⟨h1.1,λh=>absurd h.symm e,h1.2.2⟩
 .rw[List.length_modify]
  rcases mem_modify a with a | ⟨x,b,rfl⟩
  .exact h.to y a e he
  .rcases aa7.1 he with he | he
   .exact h.to x (aa1 b) e he
   .simp at he;subst he;exact d
theorem eo.up {g:aj} {at_ i:Nat} {out:List ba} (h:eo g at_ i out):eo g at_ (i+1) out:=
 ⟨h.bz,λj s a=>by have:=h.cF j s a;exact⟨this.1,λe=>by have:=this.2.1 e;omega,this.2.2⟩,h.to,h.sym⟩
theorem eo.add {g:aj} {at_ i:Nat} {out:List ba} (h:eo g at_ i out) {k:List aO} (hk:cL k/\k≠[]/\∀x∈k,cT g x):eo g at_ i (out++[⟨k,[]⟩]):=by
 refine⟨λy a=>?_,λj y a=>?_,λy a e he=>?_,λy a e he=>?_⟩
 rotate_right
 .rcases aa7.1 a with a | a
  .exact h.sym y a e he
  .simp at a;subst a;simp at he
 .rcases aa7.1 a with a | a
  .exact h.bz y a
  .simp at a;subst a;exact hk
 .rcases abo j out.length with b | b
  .rw[abm b] at a;exact h.cF j y a
  .rw[abV b] at a
   cases c:j-out.length with
   | zero=>rw[c] at a;simp at a;subst a;exact⟨by simp,λ_=>by simp,λ_=>rfl⟩
   | succ q=>rw[c] at a;simp at a
 .rcases aa7.1 a with a | a
  .have:=h.to y a e he;simp;omega
  .simp at a;subst a;simp at he
theorem eo.step {g:aj} {l:List aO} (c:cL l) (d:∀x∈l,cT g x) {at_ i:Nat} {out:List ba} (h:eo g at_ i out) (hi:i<40):eo g at_ (i+1) (dB g l at_ out i):=by
 unfold dB
 split
 .exact h.up
 .rename_i a
  have b : -1000<=bg g i/\bg g i<=1000:=by unfold bg;split<;>omega
  split
  .exact(h.add ⟨IC _ c,a,K4 d⟩).put hi b (by simp;omega)
  .have:=zy out (bu g l (bg g i))
   exact h.put hi b ⟨by omega,this⟩
theorem eo.next {g:aj} {at_ i:Nat} {out:List ba} (h:eo g at_ i out):eo g (at_+1) 0 out:=
 ⟨h.bz,λj s a=>by
  have:=h.cF j s a
  exact⟨this.1,λe=>by have:=this.2.2 (by omega);simp[this],λe=>this.2.2 (by omega)⟩,h.to,h.sym⟩
theorem eo.row {g:aj} {l:List aO} (a:cL l) (b:∀x∈l,cT g x) {at_:Nat} {out:List ba} (h:eo g at_ 0 out):∀n:Nat,n<=40->eo g at_ n ((List.range n).foldl (dB g l at_) out)/\out.length<=((List.range n).foldl (dB g l at_) out).length/\((List.range n).foldl (dB g l at_) out).length<=out.length+n
 | 0,_=>⟨h,aaY _,aaY _⟩
 | n+1,c=>by
  obtain⟨h1,d,e⟩:=eo.row a b h n (by omega)
  rw[acj,acw]
  simp only[abF,acY]
  have:=Q4 g l at_ ((List.range n).foldl (dB g l at_) out) n
  exact⟨h1.step a b (by omega),by omega,by omega⟩
theorem mI {g:aj} : eo g 0 0 eu:=by
 refine⟨λs a=>?_,λj s a=>?_,λs a e he=>?_,λs a e he=>?_⟩
 rotate_right
 .simp[eu] at a;subst a;simp at he
 .simp[eu] at a;subst a
  refine⟨by simp[cL],by simp,λx b=>?_⟩
  simp at b;subst b
  exact⟨⟨by simp,by simp only;omega⟩,by simp,by simp[bV]⟩
 .have:=aa1 a
  simp[eu] at this;subst this;simp
 .simp[eu] at a;subst a;simp at he
theorem eo.nN {g:aj} (a:g.c6) {at_ i:Nat} {out:List ba} (h:eo g at_ i out) {j:Nat} (b:j<out.length):cL (du g (out.getD j b6).bz)/\∀x∈du g (out.getD j b6).bz,cT g x:=by
 have hm:=aa1 (getD_some (d:=b6) b)
 exact⟨uJ _ _,λx c=>((gT a (h.bz _ hm).2.2).1 c).has (h.bz _ hm).2.2⟩
structure JO (g:aj) (a:List ba):Prop where
 bz:∀s∈a,cL s.bz/\s.bz≠[]/\∀x∈s.bz,cT g x
 cF:∀s∈a,s.cF.length<=40
 to:∀s∈a,∀e∈s.cF,0<=e.to/\e.to<a.length
 sym:∀s∈a,∀e∈s.cF,-1000<=e.sym/\e.sym<=1000
theorem eo.ok {g:aj} {at_ i:Nat} {out:List ba} (h:eo g at_ i out):JO g out:=
 ⟨h.bz,λs a=>by obtain⟨j,b,e⟩:=acv.1 a;exact(h.cF j s (by rw[aaQ b,e])).1,h.to,h.sym⟩
theorem KZ {g:aj} (b:g.c6):∀(f at_:Nat) (out:List ba),eo g at_ 0 out->1<=out.length->out.length<=300->(fU g f at_ out).2=0->JO g (fU g f at_ out).1/\1<=(fU g f at_ out).1.length/\(fU g f at_ out).1.length<=300
 | 0,_,out,h,h1,c,_=>⟨h.ok,h1,c⟩
 | f+1,at_,out,h,h1,c,a=>by
  rw[fU] at a ⊢
  split
  .rename_i d
   rw[aaT d] at a
   have hr:=eo.row (h.nN b d).1 (h.nN b d).2 h (g.ax.length+g.av.length) (by have:=b.ax;have:=b.av;omega)
   rw[show (List.range (g.ax.length+g.av.length)).foldl (dB g (du g (out.getD at_ b6).bz) at_) out=AZ g at_ out (g.ax.length+g.av.length) from rfl] at hr
   split
   .rename_i e;rw[aaT e] at a;simp at a
   .rename_i e
    rw[aaR e] at a
    exact KZ b f (at_+1) _ hr.1.next (by omega) (by omega) a
  .exact⟨h.ok,h1,c⟩
theorem UL {g:aj} (a:g.c6) (h:(cD g).2=0):JO g (cD g).1/\1<=(cD g).1.length/\(cD g).1.length<=300:=by
 unfold cD at h ⊢
 split
 .rename_i hr
  rw[aaT hr] at h
  exact KZ a 302 0 eu mI (by simp[eu]) (by simp[eu]) h
 .rename_i hr
  rw[aaR hr] at h
  simp at h
def kZ (l:List fY):List (List V):=l.map lZ
def mP (s:ba):List V:=[.aZ (bf s.bz),.aZ (kZ s.cF)]
def cq (a:List ba):V:=.aZ (a.map mP)
theorem Xw (l:List fY):Tree (.aZ (kZ l)):=fi _ _ λx _ v a=>by simp[lZ] at a;rcases a with rfl | rfl<;>exact .val _
theorem P0 (s:ba):∀v∈mP s,Tree v:=by
 intro v a;simp[mP] at a
 rcases a with rfl | rfl
 .exact GS _
 .exact Xw _
theorem oo (a:List ba):Tree (cq a):=fi _ _ λx _=>P0 x
abbrev rK:=V × V × ba
def fO (A:List rK):List (List V):=A.map λx=>[x.1,x.2.1]
def nF (A:List rK):List er:=A.flatMap λx=>[(x.1,2,bf x.2.2.bz),(x.2.1,2,kZ x.2.2.cF)]
theorem dw (A:List rK):(fO A).length=A.length:=by simp[fO]
theorem pL {A:List rK} {x:rK} (a:x∈A):(x.1,2,bf x.2.2.bz)∈nF A/\(x.2.1,2,kZ x.2.2.cF)∈nF A:=by
 constructor<;>exact acu.2 ⟨x,a,by simp⟩
theorem Hw {h:Heap} {u:V} {A:List rK} (f:aP h.view u 2 (fO A)) (g:∀x∈A,aP h.view x.1 2 (bf x.2.2.bz)/\aP h.view x.2.1 2 (kZ x.2.2.cF)):dD h u (cq (A.map λx=>x.2.2)):=by
 have c:∀i (hi:i<A.length),(fO A).getD i []=[(A[i]).1,(A[i]).2.1]/\(((A.map λx=>x.2.2).map mP).getD i [])=mP (A[i]).2.2:=λi hi=>by
  simp[fO,aaP,hi]
 refine dD.own f (by simp[fO]) (λi hi=>?_) (λi j hi b=>?_)
 .have a:i<A.length:=by simpa [fO] using hi
  rw[(c i a).1,(c i a).2];rfl
 .have a:i<A.length:=by simpa [fO] using hi
  rw[(c i a).2] at b ⊢
  rw[(c i a).1]
  have d:=g _ (aaW a)
  generalize A[i]'a=y at d b
  obtain⟨h1,k⟩:=d
  match j,b with
  | 0,_ =>
   refine dD.own h1 rfl (λi _=>rfl) (λi j hi b=>?_)
   rw[bR] at hi
   have e:(bf y.2.2.bz).getD i []=bK y.2.2.bz[i]:=by simp[bf,aaP,hi]
   rw[e] at b ⊢
   match j,b with
   | 0,_=>exact .val _
   | 1,_=>exact .val _
  | 1,_ =>
   refine dD.own k rfl (λi _=>rfl) (λi j hi b=>?_)
   simp only[kZ,aaU] at hi
   have e:(kZ y.2.2.cF).getD i []=lZ y.2.2.cF[i]:=by simp[kZ,aaP,hi]
   rw[e] at b ⊢
   match j,b with
   | 0,_=>exact .val _
   | 1,_=>exact .val _
  | n+2,b=>exact absurd b (by simp[mP])
def qq:SC:=
 ai [ai [ag [af 6 5,af 7 0,aN 8 7,aS 9 .lss 6 8],bP 9 (.exit 0)],.block 1 (ai [ag [af 12 0,af 13 5,aL 14 2 12 13,aw 15 0 14,au 16 15,af 17 1,aV 18 135 [16,17]],aX 18 (ai [ag [af 19 5,af 4 19],.ret])]),ag [af 10 5,aH 11 .add 10 1,af 5 11]]
def sS:SF:=⟨ai [ag [aT 4 0],ai [ag [aT 5 0],bQ 0 qq],ag [aT 4 (-1)],.ret],
 [.tmp 4],20⟩
theorem yn:aJ aa 72 []=some sS:=by kernel_rfl
def pz:SC:=
 ai [ai [ag [af 31 7,aw 32 0 1,au 33 32,aN 34 33,aw 35 1 1,au 36 35,aN 37 36,aS 38 .add 34 37,aS 39 .lss 31 38],bP 39 (.exit 2)],.block 3 (ai [ag [aU 42 4 1,af 43 7,aV 44 70 [42,43],af 8 44],ag [aU 45 4 1,af 46 6,af 47 8,aV 48 71 [45,46,47],af 9 48],ai [ag [af 49 9,aN 50 49,aH 51 .eql 50 0],aX 51 (.exit 3)],ag [af 52 4,af 53 9,aV 54 72 [52,53],af 10 54],ai [ag [af 55 10,aH 56 .lss 55 0],aX 56 (ai [ag [af 57 4,aN 58 57,af 10 58],ag [af 59 4,af 60 9,((some 61),.op (.build [(.emp 1),(.emp 1)] [(0,1,(.tmp 60))])),((some 62),.op (.bN 1 2 [(.emp 1),(.emp 1)] [(0,(.tmp 61))])),fL 63 2 48 59 62,af 4 63]])],ag [af 64 4,af 65 5,af 66 4,af 67 5,aL 68 2 66 67,aw 69 1 68,au 70 69,af 71 8,af 72 10,((some 73),.op (.build [(.val (.int .i64 0)),(.val (.int .i64 0))] [(0,1,(.tmp 71)),(1,1,(.tmp 72))])),((some 74),.op (.bN 1 2 [(.val (.int .i64 0)),(.val (.int .i64 0))] [(0,(.tmp 73))])),fL 75 2 16 70 74,aL 76 2 64 65,aw 77 1 76,cz 1 77 75]]),ag [af 40 7,aH 41 .add 40 1,af 7 41]]
def pJ:SC:=
 ai [ai [ag [af 18 5,af 19 4,aN 20 19,aS 21 .lss 18 20],bP 21 (.exit 0)],.block 1 (ai [ag [aU 24 4 1,af 25 4,af 26 5,aL 27 2 25 26,aw 28 0 27,au 29 28,aV 30 69 [24,29],af 6 30],ai [ag [aT 7 0],bQ 2 pz],ag [af 78 4,aN 79 78,aH 80 .gtr 79 300],aX 80 (ai [ag [bT 2 1,aT 3 5],.ret])]),ag [af 22 5,aH 23 .add 22 1,af 5 23]]
def rM:SF:=⟨ai [ag [cm 1 0,bT 2 1,aT 3 0],ai [ag [aU 11 4 1,aV 12 15 [11],cR 13 12],aX 13 (ai [ag [bT 2 1,aT 3 1],.ret])],ag [((some 14),.op (.build [(.val (.int .i64 0)),(.val (.int .i64 0))] [(0,1,(.val (.val (.int .i64 (-1)))))])),((some 15),.op (.bN 1 2 [(.val (.int .i64 0)),(.val (.int .i64 0))] [(0,(.tmp 14))])),((some 16),.op (.build [(.emp 1),(.emp 1)] [(0,1,(.tmp 15))])),((some 17),.op (.bN 1 2 [(.emp 1),(.emp 1)] [(0,(.tmp 16))])),af 4 17],ai [ag [aT 5 0],bQ 0 pJ],ag [af 81 4,af 2 81,aT 3 0],.ret],
 [.tmp 2,.tmp 3],82⟩
theorem xy:aJ aa 32 [1]=some rM:=by kernel_rfl
theorem Qp:∀(a:List ba) (k:List aO) (i:Nat),(∀j s,j<i->a[j]?=some s->s.bz≠k)->(∀s,a[i]?=some s->s.bz=k->findD a k=i)/\(i=a.length->findD a k = -1):=by
 intro a k i h
 refine⟨λs h1 c=>K7 a k i s h1 c h,λe=>?_⟩
 subst e
 refine FF a k λs d=>?_
 obtain⟨j,b,e⟩:=acv.1 d
 exact h j s b (by rw[aaQ b,e])
theorem Uq (a:List ba) (g:aI a) (l:∀s∈a,aI s.bz) (k:List aO) (hk:aI k):aC aa 72 [cq a,.aZ (bf k)] (gi (findD a k)):=by
 unfold aI at g
 refine aC.val (by
  intro v f;simp at f
  rcases f with rfl | rfl
  .exact oo _
  .exact GS _) λH=>?_
 refine ay.of mixed yn ?_
 simp(disch:=omega)only[↓wr,seval,wq,sS,cq]
 refine aW.up a.length (λi T H'=>(∀j s,j<i->a[j]?=some s->s.bz≠k)/\T 0=cq a/\T 1=.aZ (bf k)/\T 5=gi i) ⟨λj s h=>by omega,rfl,rfl,rfl⟩ ?_
 rintro i n T H' m ⟨c,t0,t1,t5⟩
 obtain⟨f1,f2⟩:=Qp a k i c
 simp(disch:=omega)only[↓wr,seval,wq,qq,t0,t1,t5,cq]
 apply ao.dec<;>intro o
 .have d:a[i]?=some (a[i]'(by omega)):=aaQ (by omega)
  have hm:=l _ (aaW (show i<a.length by omega))
  generalize a[i]'(by omega)=x at d hm
  simp(disch:=omega)only[↓wr,seval,wq,t0,t1,t5,cq,aaS,d,aa2,mP]
  refine az.pure (Pg x.bz k hm hk) ?_
  simp(disch:=omega)only[↓wr,seval,wq,t0,t1,t5]
  apply ao.split<;>intro e
  .simp(disch:=omega)only[↓wr,seval,wq,t0,t1,t5]
   rw[f1 x d (by simpa using e)]
  .simp(disch:=omega)only[↓wr,seval,wq,t0,t1,t5]
   refine aE m (by omega) ⟨λj s p b=>?_,t0,t1,rfl⟩
   rcases abo j i with h | h
   .exact c j s h b
   .have:j=i:=by omega
    subst this
    rw[d] at b;simp at b;subst b
    simpa using e
 .simp(disch:=omega)only[↓wr,seval,wq,t0,t1,t5]
  rw[f2 (by omega)]
theorem Ph {g:aj} (a:g.c6) {s:ba} (h:cL s.bz/\s.bz≠[]/\∀x∈s.bz,cT g x):aI s.bz:=by
 have:=ly a h.1 h.2.2;unfold aI;omega
theorem ct.sts {H:View} {u:V} {A:List rK} {L:List er} (h:bw H ((u,2,fO A)::L)) (a:∀x∈nF A,x∈L):ct H u (cq (A.map λx=>x.2.2)):=by
 rintro c rfl
 exact(Hw h.head λx b=>⟨h.1 _ (abe _ (a _ (pL b).1)),h.1 _ (abe _ (a _ (pL b).2))⟩).fr
theorem ct.lr {H:View} {u:V} {l:List aO} (h:aP H u 2 (bf l)):ct H u (.aZ (bf l)):=
 ct.own h λe he v a=>by
  obtain⟨x,_,rfl⟩:=aba.1 he
  simp[bK] at a;rcases a with rfl | rfl<;>exact .val _
theorem lI {h:Heap} {u v:V} {e:Int} (h1:dD h u v):dD h (.bb [u,gi e]) (.bb [v,gi e]):=.bb _ _ rfl λi hi=>by
 match i,hi with
 | 0,_=>exact h1
 | 1,_=>exact .val _
theorem zo {α:Type} {l:List α} {i:Nat} (h:i<l.length):∃a x b,l=a++x::b/\a.length=i/\l[i]?=some x:=
 ⟨l.take i,l[i],l.drop (i+1),by rw[<-abA h,acR],by simp;omega,aaQ h⟩
theorem Gp {α:Type} (a:List α) (x:α) (b:List α) (f:α->α):(a++x::b).modify a.length f=a++f x::b:=by
 induction a with
 | nil=>rfl
 | cons y a c=>simp only[abv,aa3,List.modify_succ_cons,c]
theorem Du {g:aj} (h:isRed g=true):bt g=true:=by
 unfold isRed at h
 simp only[aaZ,abQ,aa5] at h
 refine acx λa=>?_
 have h1:=h.1
 unfold iR at h1
 simp[a] at h1
theorem uN {g:aj} (h:isRed g=true):g.c6:=bE (Du h)
theorem aap {α:Type} {a b c:α} {l:List α} : (a::b::c::l).Perm (c::b::a::l):=(List.Perm.swap _ _ _).trans (((List.Perm.swap _ _ _).cons _).trans (List.Perm.swap _ _ _))
theorem YA {α:Type} {e u p r:α} {S:List α} : (e::u::p::r::S).Perm (u::r::(S++[p,e])):=
 (List.Perm.swap _ _ _).trans (.cons _ (aap.trans (.cons _ (List.perm_append_comm (l₁:=[p,e]) (l₂:=S)))))
theorem Sy {α:Type} {u r k e:α} {b c:List α} : (u::r::(b++k::e::c)).Perm (e::u::r::(b++k::c)):=by
 have h:(b++k::e::c).Perm (e::(b++k::c)):=by
  have:=acZ (a:=e) (l₁:=b++[k]) (l₂:=c)
  simpa using this
 exact(((h.cons r).cons u).trans ((List.Perm.swap _ _ _).cons u)).trans (List.Perm.swap _ _ _)
theorem CC (A:List rK) (x:rK) (B:List rK):nF (A++x::B)=nF A++(x.1,2,bf x.2.2.bz)::(x.2.1,2,kZ x.2.2.cF)::nF B:=by simp[nF]
def aag (g:aj) (m:Nat) (T:Env) (H:View):Prop:=∃(at_:Nat) (u:V) (A:List rK) (out:List ba),m+at_=302/\out=A.map (λx=>x.2.2)/\bw H ((u,2,fO A)::nF A)/\eo g at_ 0 out/\1<=out.length/\out.length<=300/\fU g m at_ out=cD g/\at_<=out.length /\
 T 1=.aR (ak g) 0/\T 4=u/\T 5=gi at_
theorem P8 (g:aj) (hg:g.Ok):cg aa 32 [.agg (ak g)] (.bb [cq (cD g).1,gi (cD g).2]):=by
 refine cg.of (dS g) ?_
 have Y:=LP g hg
 refine ay.of mixed xy ?_
 simp only[ak,encS] at Y
 simp(disch:=omega)only[↓wr,seval,wq,rM,ak,encS]
 refine az.pure Y ?_
 simp(disch:=omega)only[↓wr,seval,wq]
 apply ao.split<;>intro hr
 rotate_left
 .simp(disch:=omega)only[↓wr,seval,wq]
  intro h' _
  have e:cD g=([],1):=by unfold cD;rw[aaR (by rw[hr];simp)]
  rw[e]
  exact lI (.emp _)
 have v:g.c6:=uN hr
 have e0:fU g 302 0 eu=cD g:=by unfold cD;rw[aaT hr]
 have hT:=v.ax;have hN:=v.av
 simp(disch:=omega)only[↓wr,seval,wq]
 intro O q2 K
 have o0:bw (((View.set (λ_=>cr.dead) O (.arr 2 [[gi (-1),gi 0]])).set q2 (.arr 2 [[.sl O 0 1 2,.emp 1]]))) ((.sl q2 0 1 2,2,fO [(.sl O 0 1 2,.emp 1,⟨[⟨-1,0⟩],[]⟩)])::nF [(.sl O 0 1 2,.emp 1,⟨[⟨-1,0⟩],[]⟩)]):=
  (((bw.nil.emp (k:=1) (sz:=2)).new (n:=O) rfl 2 [[gi (-1),gi 0]]).new (by simpa [View.set] using K) 2 [[.sl O 0 1 2,.emp 1]])
 generalize (View.set (λ_=>cr.dead) O (.arr 2 [[gi (-1),gi 0]])).set q2 (.arr 2 [[.sl O 0 1 2,.emp 1]])=H0 at o0 ⊢
 refine aW.intro (aag g) 302 ⟨0,_,_,eu,rfl,rfl,o0,mI,aaY _,by simp[eu],e0,by omega,rfl,rfl,rfl⟩ ?_
 clear o0 K
 rintro m T H ⟨at_,u,A,out,hm,rfl,j,hI,h1,P,Q,hle,t1,t4,t5⟩
 have w:cJ u=some A.length:=by rw[j.head.len,dw]
 simp only[aaU] at h1 P hle
 simp(disch:=omega)only[↓wr,seval,wq,pJ,t1,t4,t5,w]
 apply ao.dec<;>intro hc
 rotate_left
 .simp(disch:=omega)only[↓wr,seval,wq,t1,t4,t5]
  have e1:cD g=(A.map (λx=>x.2.2),0):=by
   rw[<-Q]
   cases m with
   | zero=>rfl
   | succ m=>rw[fU,aaR (by simp;omega)]
  rw[e1]
  rintro h' rfl
  exact lI (Hw j.head λx L=>⟨j.1 _ (abe _ (pL L).1),j.1 _ (abe _ (pL L).2)⟩)
 obtain⟨m,rfl⟩:∃q,m=q+1:=⟨m-1,by omega⟩
 have z:at_<A.length:=by omega
 obtain⟨a,x,d,rfl,p,L⟩:=zo z
 have U:x∈a++x::d:=by simp
 obtain⟨Z,b1,C⟩:=hI.bz x.2.2 (List.mem_map_of_mem U)
 have b2:=ly v Z C
 have hh:aP H u 2 (fO (a++x::d)):=j.head
 obtain⟨id,hu,M⟩:=hh.sl (by rw[dw];omega)
 have D:(fO (a++x::d)).getD at_ []=[x.1,x.2.1]:=by simp[fO,aaP,<-p]
 have ab:du g ((List.map (λx=>x.2.2) (a++x::d)).getD at_ b6).bz=du g x.2.2.bz:=by
  rw[aaP,aaS,L];rfl
 have R:=λn hn=>eo.row (hI.nN v (show at_<((a++x::d).map λx=>x.2.2).length by simpa using z)).1 (hI.nN v (show at_<((a++x::d).map λx=>x.2.2).length by simpa using z)).2 hI n hn
 rw[fU,aaT (by simpa using z),AZ] at Q
 rw[ab] at Q R
 have ae:=uJ g x.2.2.bz
 have al:∀y∈du g x.2.2.bz,cT g y:=λy hy=>((gT v C).1 hy).has C
 rw[dw] at hu
 simp(disch:=omega)only[↓wr,seval,wq,t1,t4,t5,hu,M,D,ak,encS]
 refine⟨by omega,by rw[dw];omega,?_⟩
 refine az.cG ((KS g v x.2.2.bz C (by omega) x.1 H (j.1 _ (abe _ (pL U).1))).mono ?_)
 rintro r H2 ⟨or,fr⟩
 have o2:=j.G4 or fr
 clear or fr M D ab L
 generalize du g x.2.2.bz=cl at *
 generalize h:(a++x::d).map (λx=>x.2.2)=E at *
 have an:E.length=(a++x::d).length:=by rw[<-h];simp
 simp(disch:=omega)only[↓wr,seval,wq,t1,t4,t5]
 refine aW.up (g.ax.length+g.av.length) (λi T H'=>∃(u:V) (A:List rK),A.map (λx=>x.2.2)=(List.range i).foldl (dB g cl at_) E/\bw H' ((r,2,bf cl)::(u,2,fO A)::nF A)/\T 1=.aR (ak g) 0/\T 4=u/\T 5=gi at_/\T 6=r/\T 7=gi i)
  ⟨u,_,h,o2,t1,by rw[<-hu];exact t4,t5,rfl,rfl⟩ ?_
 rw[<-an] at h1 P hle z
 clear o2 j hh hu t1 t4 t5 w h U an hc Z b1 C b2 p
 clear u H2 H T id a x d
 rintro i k T H' hk ⟨u,A,hA,j,t1,t4,t5,t6,t7⟩
 obtain⟨iI,aq,ar⟩:=R i (by omega)
 rw[<-hA] at iI aq ar
 rw[aaU] at aq ar
 have w:cJ u=some A.length:=by rw[j.tail.head.len,dw]
 have cb:=ly v ae al
 simp(disch:=omega)only[↓wr,seval,wq,pz,t1,t4,t5,t6,t7,ak,encS]
 apply ao.dec<;>intro hc
 rotate_left
 .have hi:i=g.ax.length+g.av.length:=by omega
  subst hi
  rw[<-hA] at Q
  simp(disch:=omega)only[↓wr,seval,wq,t1,t4,t5,t6,w]
  apply ao.dec<;>intro h3
  .simp(disch:=omega)only[↓wr,seval,wq]
   intro h' _
   rw[aaT (by rw[aaU];omega)] at Q
   rw[<-Q]
   exact lI (.emp _)
  .simp(disch:=omega)only[↓wr,seval,wq,t1,t4,t5]
   rw[aaR (by rw[aaU];omega)] at Q
   exact⟨m,by omega,at_+1,u,A,_,by omega,rfl,j.tail,iI.next,by rw[aaU];omega,by rw[aaU];omega,Q,by rw[aaU];omega,t1,t4,rfl⟩
 have a1:i<g.ax.length+g.av.length:=by omega
 have S:=MB g v i a1
 have cc:=FA v a1
 simp only[ak,encS] at S
 simp(disch:=omega)only[↓wr,seval,wq,t1,t4,t5,t6,t7,ak,encS]
 refine az.pure S ?_
 simp(disch:=omega)only[↓wr,seval,wq,t1,t4,t5,t6,t7,ak,encS]
 refine az.cG ((Po g v cl ae al (bg g i) r H' j.head).mono ?_)
 rintro J H9 ⟨or,fr⟩
 have o9:=j.G4 or fr
 have cf:=vP (g:=g) (l:=cl) (s:=bg g i)
 have b3:cJ J=some (bu g cl (bg g i)).length:=by rw[or.len,bR]
 have F:(List.range (i+1)).foldl (dB g cl at_) E=dB g cl at_ (A.map λx=>x.2.2) i:=by rw[acj,acw,<-hA];rfl
 simp(disch:=omega)only[↓wr,seval,wq,t1,t4,t5,t6,t7,b3]
 apply ao.eq<;>intro he
 .have a6:bu g cl (bg g i)=[]:=ace.1 (by omega)
  simp(disch:=omega)only[↓wr,seval,wq,t1,t4,t5,t6,t7]
  exact aE hk (by omega) ⟨u,A,by rw[F,dB,aaT a6],o9.tail,t1,t4,t5,t6,rfl⟩
 have a7:bu g cl (bg g i)≠[]:=λe=>he (by rw[e];rfl)
 simp(disch:=omega)only[↓wr,seval,wq,t1,t4,t5,t6,t7]
 have W:=Uq (A.map λx=>x.2.2) (by unfold aI;rw[aaU];omega) (λs hs=>Ph v (iI.bz s hs)) (bu g cl (bg g i)) (by unfold aI;omega)
 refine az.xE W (by kernel_rfl) (.val _) ⟨ct.sts o9.tail.tail (λx L=>L),ct.lr or,trivial⟩ ?_
 have b4:=zy (A.map λx=>x.2.2) (bu g cl (bg g i))
 have ch:=zR (A.map λx=>x.2.2) (bu g cl (bg g i))
 rw[aaU] at b4
 have a8:at_<A.length:=by omega
 simp(disch:=omega)only[↓wr,seval,wq,t1,t4,t5,t6,t7]
 obtain⟨a,x,d,G,p,L⟩:=zo a8
 have cj:x.2.2.cF.length<=40:=(iI.cF at_ x.2.2 (by rw[aaS,L];rfl)).1
 have D:∀B,(fO (a++x::B)).getD at_ []=[x.1,x.2.1]:=λB=>by simp[fO,aaP,<-p]
 have bd:∀(B:List rK) (c:fY),((a++x::B).map λx=>x.2.2).modify at_ (λs=>(⟨s.bz,s.cF++[c]⟩:ba))=(a++(x.1,x.2.1,(⟨x.2.2.bz,x.2.2.cF++[c]⟩:ba))::B).map λx=>x.2.2:=λB c=>by
  rw[abh,abl,<-p,<-aaU (f:=λx:rK=>x.2.2),Gp,abh,abl]
 apply ao.dec<;>intro I
 simp(disch:=omega)only[↓wr,seval,wq,t1,t4,t5,t6,t7,w,or.cells,or.ey]
 intro q hq
 simp(disch:=omega)only[↓wr,seval,wq,bG]
 have b5:=(o9.fresh (o:=.arr 2 [[J,.emp 1]]) hq).at 2 (by simp)
 refine dx b5 (by simp[or.ey,CF]) (by unfold aF;rw[dw];simp;omega) (by unfold aF;rw[dw];simp;omega) ?_
 intro u2 X bl _
 simp only[List.getElem_cons_succ,List.getElem_cons_zero,ab1,ab2] at bl
 have b7:=(bl.emp (k:=1) (sz:=2)).perm YA
 have t:dB g cl at_ (A.map λx=>x.2.2) i=((a++x::(d++[(J,.emp 1,(⟨bu g cl (bg g i),[]⟩:ba))])).map λx=>x.2.2).modify at_ (λs=>(⟨s.bz,s.cF++[⟨bg g i,(A.length:Int)⟩]⟩:ba)):=by
  rw[dB,aaR a7,aaT I,aaU]
  congr 1
  rw[G];simp
 have b:bw X ((u2,2,fO (a++x::(d++[(J,.emp 1,(⟨bu g cl (bg g i),[]⟩:ba))])))::(r,2,bf cl)::nF (a++x::(d++[(J,.emp 1,(⟨bu g cl (bg g i),[]⟩:ba))]))):=by
  have e1:fO (a++x::(d++[(J,.emp 1,(⟨bu g cl (bg g i),[]⟩:ba))]))=fO A++[[J,.emp 1]]:=by rw[G];simp[fO]
  have e2:nF (a++x::(d++[(J,.emp 1,(⟨bu g cl (bg g i),[]⟩:ba))]))=nF A++[(J,2,bf (bu g cl (bg g i))),(.emp 1,2,[])]:=by rw[G];simp[nF];rfl
  rw[e1,e2]
  exact b7
 generalize (d++[(J,V.emp 1,(⟨bu g cl (bg g i),[]⟩:ba))])=B at t b
 generalize (A.length:Int)=to at t ⊢
 rotate_left
 have t:dB g cl at_ (A.map λx=>x.2.2) i=((a++x::d).map λx=>x.2.2).modify at_ (λs=>(⟨s.bz,s.cF++[⟨bg g i,findD (A.map λx=>x.2.2) (bu g cl (bg g i))⟩]⟩:ba)):=by
  rw[dB,aaR a7,aaR I,<-G]
 have b:=o9.tail.perm (.swap _ _ _)
 clear or fr
 generalize H9=X at o9 b ⊢
 obtain⟨u2,b8⟩:∃y,y=u:=⟨_,rfl⟩
 rw[<-b8] at b t4
 rw[G] at b
 generalize findD (A.map λx=>x.2.2) (bu g cl (bg g i))=to at t ⊢
 generalize d=B at t b
 all_goals (
  obtain⟨id,hu,M⟩:=(show aP X u2 2 (fO (a++x::B)) from b.head).sl (by rw[dw];simp;omega)
  rw[dw] at hu
  rw[CC] at b
  simp(disch:=omega)only[↓wr,seval,wq,t1,t4,t5,t6,t7,hu,M,D B]
  refine⟨by simp;omega,by rw[dw];simp;omega,?_⟩
  intro q2 K
  simp(disch:=omega)only[↓wr,seval,wq,bG]
  refine dx ((b.perm Sy).fresh K) (by simp[aK]) (by unfold aF;simp[kZ];omega) (by unfold aF;simp[kZ];omega) ?_
  intro e2 b9 N _
  have bn:b9 id=.arr 2 (fO (a++x::B)):=((N.own 1 rfl).live (by rw[hu];rfl)).1
  simp(disch:=omega)only[↓wr,seval,wq,t1,t4,t5,t6,t7,hu,bn,D B,N.head.cells,N.head.ey]
  have br:(fO (a++x::B)).set at_ [x.1,e2]=fO (a++(x.1,e2,(⟨x.2.2.bz,x.2.2.cF++[⟨bg g i,to⟩]⟩:ba))::B):=by
   rw[<-p];simp[fO]
  have ca:kZ (x.2.2.cF++[⟨bg g i,to⟩])=kZ x.2.2.cF++[[gi (bg g i),gi to]]:=by simp[kZ,lZ]
  have bs:=N.perm (.swap _ _ _)
  rw[hu] at bs
  have bx:=((bs.put (es':=fO (a++(x.1,e2,(⟨x.2.2.bz,x.2.2.cF++[⟨bg g i,to⟩]⟩:ba))::B)) (by rw[dw,dw];simp) (by rw[dw])).perm (.swap _ _ _)).perm Sy.symm
  rw[<-ca] at bx
  have b0:=bx.perm (.swap _ _ _)
  rw[<-hu] at b0
  rw[br]
  refine⟨by simp;omega,by rw[dw];simp;omega,aE hk (by omega) ⟨u2,_,?_,by rw[CC];exact b0,t1,by first | rfl | exact t4 | exact hu.symm,t5,t6,rfl⟩⟩
  rw[F,t,bd];simp)
def uj:SF:=⟨ai [ag [cm 2 0,cm 3 1,bh 4 false],.region true [⟨none,[aU 5 4 2,aV 6 50 [5],af 7 6]⟩,⟨(some (7,true)),[aw 8 0 3,au 9 8,aH 10 .geq 9 (-1)]⟩,⟨none,[dO 11 7 10,af 12 11]⟩,⟨(some (12,true)),[aw 13 0 3,au 14 13,aw 15 2 2,au 16 15,aN 17 16,aS 18 .lss 14 17]⟩,⟨none,[dO 19 12 18,af 20 19]⟩,⟨(some (20,true)),[aw 21 1 3,au 22 21,aH 23 .geq 22 0]⟩,⟨none,[dO 24 20 23,af 25 24]⟩,⟨(some (25,true)),[aw 26 1 3,au 27 26,aU 28 4 2,aw 29 0 3,au 30 29,aV 31 199 [28,30],aN 32 31,aS 33 .leq 27 32]⟩,⟨none,[dO 34 25 33,af 4 34]⟩],.ret],
 [.tmp 4],35⟩
theorem zW:aJ aa 166 [2,3]=some uj:=by kernel_rfl
def tn:SF:=⟨ai [ag [cm 2 0,cm 3 1,aT 4 0,bh 5 false],ai [ag [aU 6 4 2,aU 7 2 3,aV 8 166 [6,7],cR 9 8],aX 9 (ai [ag [aT 4 0,bh 5 false],.ret])],ag [aU 10 4 2,aU 11 2 3,aV 12 134 [10,11],c7 13 0 12,c7 14 1 12,af 4 13,af 5 14],.ret],
 [.tmp 4,.tmp 5],15⟩
theorem yW:aJ aa 100 [2,3]=some tn:=by kernel_rfl
def lj:SC:=
 ai [ai [.region false [⟨none,[af 26 11,af 27 0,af 28 1,aL 29 2 27 28,aw 30 1 29,au 31 30,aN 32 31,aS 33 .lss 26 32,af 34 33]⟩,⟨(some (34,true)),[af 35 10,cR 36 35]⟩,⟨none,[dO 37 34 36]⟩],bP 37 (.exit 2)],.block 3 (ai [ag [af 40 0,af 41 1,aL 42 2 40 41,aw 43 1 42,au 44 43,af 45 11,aL 46 2 44 45,aw 47 0 46,au 48 47,af 49 2,af 50 8,aL 51 1 49 50,au 52 51,aS 53 .eql 48 52],aX 53 (ag [af 54 0,af 55 1,aL 56 2 54 55,aw 57 1 56,au 58 57,af 59 11,aL 60 2 58 59,aw 61 1 60,au 62 61,af 9 62,bh 10 true])]),ag [af 38 11,aH 39 .add 38 1,af 11 39]]
def qe:SC:=
 ai [ai [ag [af 20 8,af 21 2,aN 22 21,aS 23 .lss 20 22],bP 23 (.exit 0)],.block 1 (ai [ag [aT 9 (-1),bh 10 false],ai [ag [aT 11 0],bQ 2 lj],ai [.region false [⟨none,[af 63 9,aH 64 .lss 63 0,af 65 64]⟩,⟨(some (65,false)),[af 66 9,af 67 0,aN 68 67,aS 69 .geq 66 68]⟩,⟨none,[cE 70 65 69]⟩],aX 70 (ai [ag [aT 6 0,bh 7 false],.ret])],ag [af 71 9,af 1 71]]),ag [af 24 8,aH 25 .add 24 1,af 8 25]]
def sQ:SF:=⟨ai [ag [aT 6 0,bh 7 false],ai [.region false [⟨none,[af 12 1,aH 13 .lss 12 0,af 14 13]⟩,⟨(some (14,false)),[af 15 1,af 16 0,aN 17 16,aS 18 .geq 15 17]⟩,⟨none,[cE 19 14 18]⟩],aX 19 (ai [ag [aT 6 0,bh 7 false],.ret])],ai [ag [aT 8 0],bQ 0 qe],ag [af 72 1,af 6 72,bh 7 true],.ret],
 [.tmp 6,.tmp 7],73⟩
theorem yN:aJ aa 33 []=some sQ:=by kernel_rfl
instance (g:aj) (x:aO):Decidable (cT g x):=by unfold cT;infer_instance
def tJ (g:aj) (x:aO):Bool:=bt g&&decide (cT g x)
theorem NU (g:aj) (x:aO):∀v∈[V.agg (ak g),.agg (bK x)],Tree v:=by
 intro v a;simp at a
 rcases a with rfl | rfl
 .exact bW _ (cx g)
 .exact bW _ λv a=>by simp[bK] at a;rcases a with rfl | rfl<;>exact .val _
theorem VU (g:aj) (f:g.Ok) (x:aO) (i:bm x.aB/\bm x.dot):aC aa 166 [.agg (ak g),.agg (bK x)] (gb (tJ g x)):=by
 refine aC.val (NU g x) λH=>?_
 have a:=j7 g f
 obtain⟨c,d⟩:=i
 unfold bm at c d
 refine ay.of mixed zW ?_
 simp only[ak,encS] at a
 simp(disch:=omega)only[↓wr,seval,wq,uj,ak,encS,bK]
 refine az.pure a ?_
 have bad:¬ cT g x->gb false=gb (tJ g x):=λh=>by unfold tJ;rw[decide_eq_false h,acr]
 simp(disch:=omega)only[↓wr,seval,wq]
 apply ao.split<;>intro hr
 rotate_left
 .simp(disch:=omega)only[↓wr,seval,wq]
  unfold tJ;rw[hr];rfl
 have e:=bE hr
 simp(disch:=omega)only[↓wr,seval,wq,bK]
 apply ao.dec<;>intro h1
 rotate_left
 .simp(disch:=omega)only[↓wr,seval,wq]
  exact bad λh=>by have:=h.1;omega
 simp(disch:=omega)only[↓wr,seval,wq,bK,ak]
 apply ao.dec<;>intro j
 rotate_left
 .simp(disch:=omega)only[↓wr,seval,wq]
  exact bad λh=>by have:=h.1;omega
 simp(disch:=omega)only[↓wr,seval,wq,bK]
 apply ao.dec<;>intro k
 rotate_left
 .simp(disch:=omega)only[↓wr,seval,wq]
  exact bad λh=>by have:=h.2;omega
 have b:=Fi g (jM e) x.aB ⟨by omega,by omega⟩
 have l:=dZ e (r:=x.aB) ⟨by omega,by omega⟩
 simp only[ak,encS,encI] at b
 simp(disch:=omega)only[↓wr,seval,wq,bK,ak,encS]
 refine az.pure b ?_
 simp(disch:=omega)only[↓wr,seval,wq,bK]
 congr 2
 unfold tJ
 rw[hr,aby]
 congr 1
 unfold cT
 simp only[eq_iff_iff]
 omega
def JM (g:aj) (x:aO):Int × Bool:=if tJ g x=true then bI g x else (0,false)
theorem FK {g:aj} {x:aO} : tJ g x=true↔bt g=true/\cT g x:=by simp[tJ]
theorem TP (g:aj) (c:g.Ok) (x:aO) (d:bm x.aB/\bm x.dot):aC aa 100 [.agg (ak g),.agg (bK x)] (.bb [gi (JM g x).1,gb (JM g x).2]):=by
 have a:=VU g c x d
 refine aC.tree (NU g x) (wg (.val _) (.val _)) λH=>?_
 refine ay.of mixed yW ?_
 simp only[ak,encS,bK] at a
 simp(disch:=omega)only[↓wr,seval,wq,tn,ak,encS,bK]
 refine az.pure a ?_
 unfold JM
 simp(disch:=omega)only[↓wr,seval,wq]
 apply ao.split<;>intro h
 .obtain⟨h1,e⟩:=FK.1 h
  have b:=D0 g (bE h1) x e
  simp only[ak,encS,bK] at b
  simp(disch:=omega)only[↓wr,seval,wq,ak,encS,bK]
  refine az.pure b ?_
  simp(disch:=omega)only[↓wr,seval,wq]
  rw[aaT h]
 .simp(disch:=omega)only[↓wr,seval,wq]
  rw[h];simp
theorem PW:∀(l:List fY) (s:Int) (k:Nat) (e:fY),l[k]?=some e->ix (l.drop k) s=if e.sym=s then e.to else ix (l.drop (k+1)) s:=by
 intro l s k e h
 obtain⟨hk,he⟩:=aaX.1 h
 rw[abA hk,he,ix]
theorem RT (a:List ba) (u:aI a) (he:∀s∈a,aI s.cF/\∀e∈s.cF,bm e.sym/\bm e.to) (fr:Int) (syms:List Int) (w:aI syms):aC aa 33 [cq a,gi fr,encI syms] (.bb [gi (oP a fr syms).1,gb (oP a fr syms).2]):=by
 unfold aI at u w
 refine aC.tree (by
  intro v q;simp at q
  rcases q with rfl | rfl | rfl
  .exact oo _
  .exact .val _
  .exact bC _) (wg (.val _) (.val _)) λH=>?_
 refine ay.of mixed yN ?_
 unfold oP
 simp(disch:=omega)only[↓wr,seval,wq,sQ,cq,encI]
 apply ao.dec<;>intro h1
 .simp(disch:=omega)only[↓wr,seval,wq]
  rw[aaT (by omega)]
 simp(disch:=omega)only[↓wr,seval,wq,cq]
 apply ao.dec<;>intro y
 .simp(disch:=omega)only[↓wr,seval,wq]
  rw[aaT (by omega)]
 rw[aaR (by omega)]
 simp(disch:=omega)only[↓wr,seval,wq]
 refine aW.up syms.length (λi T H'=>∃at_:Int,0<=at_/\at_<a.length/\jO a at_ (syms.drop i)=jO a fr syms/\T 0=cq a/\T 1=gi at_/\T 2=encI syms/\T 8=gi i) ⟨fr,by omega,by omega,rfl,rfl,rfl,rfl,rfl⟩ ?_
 rintro i k T H' hk ⟨at_,C,D,hw,t0,t1,t2,t8⟩
 simp(disch:=omega)only[↓wr,seval,wq,qe,t0,t1,t2,t8,encI]
 apply ao.dec<;>intro z
 .have r:syms[i]?=some (syms[i]'(by omega)):=aaQ (by omega)
  rw[abA (show i<syms.length by omega)] at hw
  generalize syms[i]'(by omega)=x at r hw
  have d:a[at_.toNat]?=some (a.getD at_.toNat b6):=getD_some (by omega)
  obtain⟨f,l⟩:=he _ (aa1 d)
  rw[jO] at hw
  generalize a.getD at_.toNat b6=S at d f l hw
  unfold aI at f
  simp(disch:=omega)only[↓wr,seval,wq,t0,t1,t2,t8]
  refine aW.up S.cF.length (λj T H'=>∃(to:Int) (ok:Bool),(ok=true->to=ix S.cF x)/\(ok=false->to = -1/\ix (S.cF.drop j) x=ix S.cF x)/\T 0=cq a/\T 1=gi at_/\T 2=encI syms/\T 8=gi i/\T 9=gi to/\T 10=gb ok/\T 11=gi j)
   ⟨-1,false,by simp,λ_=>⟨rfl,rfl⟩,t0,t1,t2,t8,rfl,rfl,rfl⟩ ?_
  clear t0 t1 t2 t8
  rintro j k2 F G g ⟨to,ok,A,B,t0,t1,t2,t8,t9,t10,t11⟩
  cases ok with
  | true =>
   have b:=A rfl
   simp(disch:=omega)only[↓wr,seval,wq,lj,t0,t1,t2,t8,t9,t10,t11,cq,aaS,d,aa2,mP,kZ]
   apply ao.dec<;>intro _
   all_goals (
    simp(disch:=omega)only[↓wr,seval,wq,t0,t1,t2,t8,t9,t10,t11,cq,b]
    apply ao.dec<;>intro m
    .simp(disch:=omega)only[↓wr,seval,wq]
     rw[<-hw,aaR (by omega)]
    .simp(disch:=omega)only[↓wr,seval,wq,t0,t1,t2,t8,t9,cq,b]
     apply ao.dec<;>intro n
     .simp(disch:=omega)only[↓wr,seval,wq]
      rw[<-hw,aaR (by omega)]
     .simp(disch:=omega)only[↓wr,seval,wq,t0,t1,t2,t8,t9,b]
      rw[aaT ⟨by omega,by omega⟩] at hw
      exact aE hk (by omega) ⟨_,by omega,by omega,hw,t0,rfl,t2,rfl⟩)
  | false =>
   obtain⟨t,c⟩:=B rfl
   simp(disch:=omega)only[↓wr,seval,wq,lj,t0,t1,t2,t8,t9,t10,t11,cq,aaS,d,aa2,mP,kZ]
   apply ao.dec<;>intro o
   .have h:S.cF[j]?=some (S.cF[j]'(by omega)):=aaQ (by omega)
    generalize S.cF[j]'(by omega)=E at h
    rw[PW _ _ _ _ h] at c
    simp(disch:=omega)only[↓wr,seval,wq,t0,t1,t2,t8,t9,t10,t11,cq,encI,aaS,d,r,aa2,mP,kZ,h,lZ]
    apply ao.eq<;>intro p
    .rw[aaT p] at c
     simp(disch:=omega)only[↓wr,seval,wq,t0,t1,t2,t8,t9,t10,t11,cq,aaS,d,aa2,mP,kZ,h,lZ]
     exact aE g (by omega) ⟨E.to,true,λ_=>c,by simp,t0,t1,t2,t8,rfl,rfl,rfl⟩
    .rw[aaR p] at c
     simp(disch:=omega)only[↓wr,seval,wq,t0,t1,t2,t8,t9,t10,t11]
     exact aE g (by omega) ⟨to,false,by simp,λ_=>⟨t,c⟩,t0,t1,t2,t8,t9,t10,rfl⟩
   .rw[abg (by omega),ix,<-t] at c
    have b:=c
    simp(disch:=omega)only[↓wr,seval,wq,t0,t1,t2,t8,t9,t10,t11,cq,b]
    apply ao.dec<;>intro m
    .simp(disch:=omega)only[↓wr,seval,wq]
     rw[<-hw,aaR (by omega)]
    .simp(disch:=omega)only[↓wr,seval,wq,t0,t1,t2,t8,t9,cq,b]
     apply ao.dec<;>intro n
     .simp(disch:=omega)only[↓wr,seval,wq]
      rw[<-hw,aaR (by omega)]
     .simp(disch:=omega)only[↓wr,seval,wq,t0,t1,t2,t8,t9,b]
      rw[aaT ⟨by omega,by omega⟩] at hw
      exact aE hk (by omega) ⟨_,by omega,by omega,hw,t0,rfl,t2,rfl⟩
 .simp(disch:=omega)only[↓wr,seval,wq,t1]
  rw[abg (by omega),jO] at hw
  rw[<-hw]
end
end Gv
