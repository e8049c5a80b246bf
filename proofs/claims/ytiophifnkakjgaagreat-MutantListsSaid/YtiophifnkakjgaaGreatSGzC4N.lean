/-
  Part 14 of the proof: what the machine does and what the functions answer.
  Conditions: those that each lemma names.
-/
import Derived.Test.YtiophifnkakjgaaGreatSGzC4M
set_option linter.unusedSimpArgs false
set_option linter.unusedVariables false
set_option maxRecDepth 100000
set_option maxHeartbeats 20000000
namespace Gv
noncomputable section
open Go Go.Proofs
structure aP where
 aB:Int
 dot:Int
 deriving DecidableEq
def bM (x:aP):List V:=[gi x.aB,gi x.dot]
def bh (l:List aP):List (List V):=l.map bM
def c8 (a b:aP):Bool:=decide (a.aB<b.aB)||(decide (a.aB=b.aB)&&decide (a.dot<b.dot))
def fh:List aP->aP->List aP
 | [],x=>[x]
 | y::l,x=>if c8 y x=true then y::fh l x else if y=x then y::l else x::y::l
theorem X1 (a b:aP):∀v∈[V.agg (bM a),.agg (bM b)],Tree v:=by
 intro v c;simp at c
 rcases c with rfl | rfl<;>exact bW _ λv c=>by simp[bM] at c;rcases c with rfl | rfl<;>exact .val _
def sS:SF:=⟨ai [ag [bZ 2 0,bZ 3 1,bb 4 false],.region false [⟨none,[aw 5 0 2,au 6 5,aw 7 0 3,au 8 7,aS 9 .lss 6 8,af 10 9]⟩,⟨(some (10,false)),[aw 11 0 2,au 12 11,aw 13 0 3,au 14 13,aS 15 .eql 12 14,af 16 15]⟩,⟨(some (16,true)),[aw 17 1 2,au 18 17,aw 19 1 3,au 20 19,aS 21 .lss 18 20]⟩,⟨(some (10,false)),[dA 22 16 21]⟩,⟨none,[cJ 23 10 22,af 4 23]⟩],.ret],
 [.tmp 4],24⟩
theorem yM:aJ aa 198 [2,3]=some sS:=by kernel_rfl
def ry:SC:=
 ai [ai [.region false [⟨none,[af 7 5,af 8 0,aM 9 8,aS 10 .lss 7 9,af 11 10]⟩,⟨(some (11,true)),[af 12 0,af 13 5,aL 14 2 12 13,aV 15 2 14,aV 16 2 3,aU 17 198 [15,16]]⟩,⟨none,[dA 18 11 17]⟩],bO 18 (.exit 0)],.block 1 (ag [af 19 5,aI 20 .add 19 1,af 5 20])]
def uA:SF:=⟨ai [ag [bZ 3 1,bL 4 1],ag [aT 5 0],bR 0 ry,ai [.region false [⟨none,[af 21 5,af 22 0,aM 23 22,aS 24 .lss 21 23,af 25 24]⟩,⟨(some (25,true)),[af 26 0,af 27 5,aL 28 2 26 27,aV 29 2 28,aV 30 2 3,((some 31),.op (.old (.binOp .eql 120 (.tmp 29) (.tmp 30) 120) 4))]⟩,⟨none,[dA 32 25 31]⟩],aX 32 (ai [ag [af 33 0,af 4 33],.ret])],ag [bL 34 2,af 35 0,af 36 5,((some 37),.op (.slice 2 (.tmp 35) (some (.tmp 36)) none)),eZ 38 2 16 34 37,af 6 38],ag [af 39 0,af 40 5,((some 41),.op (.slice 2 (.tmp 39) none (some (.tmp 40)))),aV 42 2 3,((some 43),.op (.bH 1 2 [(.val (.int .i64 0)),(.val (.int .i64 0))] [(0,(.tmp 42))])),eZ 44 2 16 41 43,af 45 6,eZ 46 2 16 44 45,af 4 46],.ret],
 [.tmp 4],47⟩
theorem As:aJ aa 133 [3]=some uA:=by kernel_rfl
theorem UO (a b:aP):aC aa 198 [.agg (bM a),.agg (bM b)] (gb (c8 a b)):=by
 refine aC.val (X1 a b) λH=>?_
 refine az.of mixed yM ?_
 unfold c8
 simp(disch:=omega)only[↓wr,seval,wq,sS,bM]
 apply ao.dec<;>intro h1
 .simp(disch:=omega)only[↓wr,seval,wq]
  rw[abJ h1];rfl
 simp(disch:=omega)only[↓wr,seval,wq]
 apply ao.eq<;>intro c
 .simp(disch:=omega)only[↓wr,seval,wq]
  rw[decide_eq_false h1,abJ c];rfl
 .simp(disch:=omega)only[↓wr,seval,wq]
  rw[decide_eq_false h1,decide_eq_false c];rfl
def eP:List aP->aP->Nat
 | [],_=>0
 | y::l,x=>if c8 y x=true then eP l x+1 else 0
theorem Fe:∀(l:List aP) (x:aP),eP l x<=l.length
 | [],_=>abg _
 | y::l,x=>by
  rw[eP];split
  .have:=Fe l x;simp;omega
  .simp
theorem GP:∀(l:List aP) (x:aP) (i:Nat) (y:aP),l[i]?=some y->i<eP l x->c8 y x=true
 | [],_,_,_,h,_=>by simp at h
 | z::l,x,0,y,h,hi=>by
  rw[eP] at hi;split at hi
  .simp at h;subst h;assumption
  .omega
 | z::l,x,i+1,y,h,hi=>by
  rw[eP] at hi;split at hi
  .exact GP l x i y (by simpa using h) (by omega)
  .omega
theorem Gg:∀(l:List aP) (x:aP) (y:aP),l[eP l x]?=some y->c8 y x=false
 | [],_,_,h=>by simp at h
 | z::l,x,y,h=>by
  rw[eP] at h;split at h
  .exact Gg l x y (by simpa using h)
  .rename_i e;simp at h;subst h;simpa using e
theorem zC:∀(l:List aP) (x:aP),fh l x=if l[eP l x]?=some x then l else l.take (eP l x)++[x]++l.drop (eP l x)
 | [],x=>by simp[fh,eP]
 | y::l,x=>by
  rw[fh,eP]
  split
  .have:=zC l x
   simp only[abT,adg,adh,abN]
   rw[this];split<;>simp
  .simp only[abB,abd,List.take_zero,ab8,ab3,abN]
theorem sQ (x y:aP):ic aa 9998 #[.int .i64 x.aB,.int .i64 x.dot] #[.int .i64 y.aB,.int .i64 y.dot]
  [{ name:= "Rule",type:=3,offset:=0,embedded:=false,tag:= "",pkgPath:= "",byteOffset:=0 },{ name:= "Dot",type:=3,offset:=1,embedded:=false,tag:= "",pkgPath:= "",byteOffset:=8 }] ((x.aB==y.aB)&&((x.dot==y.dot)&&true)):=
 .int _ _ _ .i64 _ _ (by decide) Tryz.underlying3 rfl rfl (.int _ _ _ .i64 _ _ (by decide) Tryz.underlying3 rfl rfl .nil)
theorem Bw (x y:aP):((x.aB==y.aB)&&((x.dot==y.dot)&&true))=decide (x=y):=by
 cases x;cases y;rw[abW];simp
theorem pU {sz id off k m:Nat} (hm:m<=k):c6 sz (.sl id off k sz) (some (gi m)) none=some (.sl id (off+m) (k-m) sz,.none,[]):=by
 simp[c6,bound,asNat,hm]
theorem pZ {sz id off k m:Nat} (hm:m<=k):c6 sz (.sl id off k sz) none (some (gi m))=some (.sl id off m sz,.none,[]):=by
 simp[c6,bound,asNat,hm]
theorem TA (l:List aP):((bh l).all λe=>e.length==2&&e.all aK)=true:=by
 simp[bh,bM,aK]
theorem T8 {H:View} {u:V} {sz:Nat} {es:List (List V)} (h:aN H u sz es):∃rd,bQ H u=some (es,rd):=by
 rcases h with ⟨rfl,k,rfl⟩ | ⟨n,rfl,a⟩
 .exact⟨_,xV _ k⟩
 .cases es with
  | nil=>exact⟨[],by simp[bQ]⟩
  | cons e es =>
   exact⟨_,by rw[show (e::es).length=es.length+1 from rfl,j6 _ n 0 es.length sz sz _ a (by simp),ab8,abo (by simp)]⟩
theorem sD {sz bytes:Nat} {u:V} {es:List (List V)} {H:View} {K:V->View->Prop} {w:dd (H,K)} (a:aN H u sz es) (h:K u H):nA sz bytes u [] H K w:=by
 unfold nA
 rcases a with ⟨_,k,rfl⟩ | ⟨n,rfl,_⟩<;>simpa using h
theorem Left.behind {H H':View} {q:Nat} {o:ct} {u r:V} (d:H q=.dead) (h:Left (H.set q o) H' u r):Left H H' u r:=λa c b=>by
 have e:¬ a=q:=by rintro rfl;exact c d
 have:=h a (by simp[View.set,e];exact c) b
 simpa [View.set,e] using this
theorem En (u:V) (l:List aP) (hl:l.length<=100000) (x:aP) (H:View) (v:aN H u 2 (bh l)):az aa 133 [u,.agg (bM x)] H λr H'=>aN H' r 2 (bh (fh l x))/\Left H H' u r:=by
 refine az.of mixed As ?_
 have hlen:cE u=some l.length:=by rw[v.len];simp[bh]
 have hle:=Fe l x
 simp(disch:=omega)only[↓wr,seval,wq,uA,bM]
 refine aW.up (eP l x) (λi T H'=>H'=H/\i<=eP l x/\T 0=u/\T 3=.aR (bM x) 0/\T 5=gi i) ⟨rfl,by omega,rfl,rfl,rfl⟩ ?_
 rintro i k T H' hk ⟨Z,hi,t0,t3,t5⟩
 subst Z
 simp(disch:=omega)only[↓wr,seval,wq,ry,t0,t5,hlen]
 have stop:i=eP l x->True:=λ_=>trivial
 apply ao.dec<;>intro K
 .have w:l[i]?=some (l[i]'(by omega)):=aa8 (by omega)
  generalize l[i]'(by omega)=y at w
  obtain⟨id,hu,b⟩:=v.sl (by simp[bh];omega)
  have n:(bh l).length=l.length:=by simp[bh]
  have L:(bh l).getD i []=bM y:=by simp[bh,w]
  have A:=UO y x
  simp only[bM] at A L
  simp(disch:=omega)only[↓wr,seval,wq,t0,t3,t5,hu,b,L,bM]
  refine⟨by simp[bh];omega,by simp[bh];omega,?_⟩
  refine ay.pure A ?_
  simp(disch:=omega)only[↓wr,seval,wq]
  apply ao.split<;>intro e
  .have B:i<eP l x:=by
    rcases abH i (eP l x) with h | h
    .exact h
    .have:=Gg l x y (by rw[show eP l x=i by omega];exact w)
     rw[this] at e;exact absurd e (by simp)
   simp(disch:=omega)only[↓wr,seval,wq,t0,t5]
   exact aF hk B ⟨rfl,B,t0,t3,rfl⟩
  have s:i=eP l x:=by
   rcases abH i (eP l x) with h | h
   .rw[GP l x i y w h] at e;exact absurd e (by simp)
   .omega
  simp(disch:=omega)only[↓wr,seval,wq,t0,t5,hlen]
  refine ao.dec (λ_=>?_) (λh=>absurd K h)
  simp(disch:=omega)only[↓wr,seval,wq,t0,t3,t5,hu,b,L,bM]
  refine⟨by simp[bh];omega,by simp[bh];omega,?_⟩
  refine kn (xs:=#[.int .i64 y.aB,.int .i64 y.dot]) (ys:=#[.int .i64 x.aB,.int .i64 x.dot]) Tryz.underlying120 (by kernel_rfl) (by kernel_rfl) ?_ ?_ (sQ y x) (.inl ⟨rfl,rfl⟩) ?_
  .rfl
  .rfl
  rw[Bw]
  simp(disch:=omega)only[↓wr,seval,wq]
  apply ao.dec<;>intro M
  .subst M
   simp(disch:=omega)only[↓wr,seval,wq,t0]
   rw[zC,abb (by rw[<-s];exact w)]
   exact⟨v,λid b v=>⟨rfl,v⟩⟩
  rw[n] at hu
  have N:bQ H' (.sl id i (l.length-i) 2)=some (bh (l.drop i),[id]):=by
   obtain⟨q,d⟩:∃q,l.length-i=q+1:=⟨l.length-i-1,by omega⟩
   rw[d,j6 H' id i q 2 2 (bh l) b (by rw[n];omega)]
   rw[show (bh l).drop i=bh (l.drop i) from List.map_drop.symm,abo (by simp[bh];omega)]
  simp(disch:=omega)only[↓wr,seval,wq,t0,t5,hu,pU (sz:=2) (id:=id) (off:=0) (k:=l.length) (m:=i) (by omega),N]
  refine dw aN.nil (TA _) (by unfold aE bh;simp;omega) (by unfold aE bh;simp;omega) ?_
  intro rest H1 O lr
  simp(disch:=omega)only[↓wr,seval,wq,t0,t3,t5,hu,pZ (sz:=2) (id:=id) (off:=0) (k:=l.length) (m:=i) (by omega),bM]
  intro q d
  have C:owner rest≠some id:=(lr id (by rw[b];simp) (by simp[owner])).2
  have f:H1 id=.arr 2 (bh l):=by rw[(lr id (by rw[b];simp) (by simp[owner])).1,b]
  have D:¬ id=q:=by rintro rfl;rw[f] at d;simp at d
  simp(disch:=omega)only[↓wr,seval,wq,bD]
  rw[vH _ _ _ _ _ _ _ _ _ _ (by rfl)]
  simp(disch:=omega)only[↓wr,seval,wq,D,f,n]
  refine⟨⟨by omega,by unfold aE;omega,by unfold aE;omega⟩,λj c=>?_⟩
  try rw[ab8]
  have E:¬ j=q:=by rintro rfl;simp at c
  rw[aa9 E] at c
  have F:¬ j=id:=by rintro rfl;rw[f] at c;simp at c
  have g:=((O.fresh (o:=.arr 2 [[gi x.aB,gi x.dot]]) d).other (o:=.dead) C).fresh (m:=j) (o:=.arr 2 (List.take i (bh l)++[[gi x.aB,gi x.dot]])) (by simp[View.set,E,F,c])
  have G:aN (((H1.set q (.arr 2 [[gi x.aB,gi x.dot]])).set id .dead).set j (.arr 2 (List.take i (bh l)++[[gi x.aB,gi x.dot]]))) (.sl j 0 (i+1) 2) 2 (List.take i (bh l)++[[gi x.aB,gi x.dot]]):=.inr ⟨j,by simp[n];omega,by simp[View.set]⟩
  have I:∀a,H' a≠.dead->a≠id->(((H1.set q (.arr 2 [[gi x.aB,gi x.dot]])).set id .dead).set j (.arr 2 (List.take i (bh l)++[[gi x.aB,gi x.dot]]))) a=H' a/\a≠j:=λa z P=>by
   have h1:=(lr a z (by simp[owner])).1
   have aq:¬ a=q:=by rintro rfl;rw[d] at h1;exact z h1.symm
   have W:¬ a=j:=by rintro rfl;rw[c] at h1;exact z h1.symm
   exact⟨by simp[View.set,aq,W,P,h1],W⟩
  generalize ((H1.set q (.arr 2 [[gi x.aB,gi x.dot]])).set id .dead).set j (.arr 2 (List.take i (bh l)++[[gi x.aB,gi x.dot]]))=H3 at g G I ⊢
  rw[ab3] at g
  obtain⟨rd,he⟩:=T8 g
  simp(disch:=omega)only[↓wr,seval,wq,he]
  refine dw G (TA _) (by unfold aE bh;simp;omega) (by unfold aE bh;simp;omega) ?_
  intro r X t J
  simp(disch:=omega)only[↓wr,seval,wq]
  refine⟨?_,λa z Q=>?_⟩
  .rw[zC,aa9 (by rw[<-s,w];simpa using M),<-s]
   simpa [bh,bM,List.map_take,List.map_drop] using t
  .obtain⟨Y,k2⟩:=I a z (by rintro rfl;exact Q (by rw[hu];rfl))
   have:=J a (by rw[Y];exact z) (by simp[owner];exact λh=>k2 h.symm)
   exact⟨by rw[this.1,Y],this.2⟩
 .simp(disch:=omega)only[↓wr,seval,wq,t0,t5,hlen]
  refine ao.dec (λh=>absurd h K) (λ_=>?_)
  have R:i=l.length:=by omega
  subst R
  have p:bh (fh l x)=bh l++[[gi x.aB,gi x.dot]]:=by
   rw[zC,show eP l x=l.length by omega,abL (abg _),aa9 (by simp),acu,List.drop_length]
   simp[bh,bM]
  rcases v with ⟨e,k0,hu⟩ | ⟨id,hu,b⟩
  .have S:l=[]:=by simpa [bh] using e
   subst S
   simp(disch:=omega)only[↓wr,seval,wq,t0,t5,hu,show ∀k,c6 2 (.emp k) (some (gi 0)) none=some (.emp k,.none,[]) from λk=>rfl,show ∀k,c6 2 (.emp k) none (some (gi 0))=some (.emp k,.none,[]) from λk=>rfl]
   refine sD aN.nil ?_
   simp(disch:=omega)only[↓wr,seval,wq,t0,t3,t5,hu,show ∀k,c6 2 (.emp k) none (some (gi 0))=some (.emp k,.none,[]) from λk=>rfl,bM]
   intro q d
   simp(disch:=omega)only[↓wr,seval,wq,bD]
   refine dw (sz:=2) (u:=.emp k0) aN.nil (by simp[aK]) (by unfold aE;simp) (by unfold aE;simp) ?_
   intro r X t J
   simp(disch:=omega)only[↓wr,seval,wq]
   refine sD t ?_
   simp(disch:=omega)only[↓wr,seval,wq]
   exact⟨by rw[p];exact t,hu▸Left.behind d J⟩
  .rw[show (bh l).length=l.length by simp[bh]] at hu
   simp(disch:=omega)only[↓wr,seval,wq,t0,t5,hu,pU (sz:=2) (id:=id) (off:=0) (k:=l.length) (m:=l.length) (by omega)]
   rw[Nat.sub_self,show bQ H' (.sl id l.length 0 2)=some ([],[]) from rfl]
   simp(disch:=omega)only[↓wr,seval,wq]
   refine sD aN.nil ?_
   simp(disch:=omega)only[↓wr,seval,wq,t0,t3,t5,hu,pZ (sz:=2) (id:=id) (off:=0) (k:=l.length) (m:=l.length) (by omega),bM]
   intro q d
   simp(disch:=omega)only[↓wr,seval,wq,bD]
   have U:aN H' (.sl id 0 l.length 2) 2 (bh l):=.inr ⟨id,by simp[bh],b⟩
   refine dw (sz:=2) (U.fresh d) (by simp[aK]) (by unfold aE bh;simp;omega) (by unfold aE bh;simp;omega) ?_
   intro r X t J
   simp(disch:=omega)only[↓wr,seval,wq]
   refine sD t ?_
   simp(disch:=omega)only[↓wr,seval,wq]
   exact⟨by rw[p];exact t,hu▸Left.behind d J⟩
def bV (g:ak) (r:Int):List Int:=if r = -1 then [-1-g.start] else (cd g r).right
def bI (g:ak) (x:aP):Int × Bool:=if x.dot=(bV g x.aB).length then (0,false) else ((bV g x.aB).getD x.dot.toNat 0,true)
def rq:SF:=⟨ai [ag [bZ 2 0,bL 4 1],ai [ag [af 5 1,aI 6 .eql 5 (-1)],aX 6 (ai [ag [aw 7 3 2,au 8 7,((some 9),.op (.arith .sub (.val (.val (.int .i64 (-1)))) (.tmp 8))),((some 10),.op (.bH 1 1 [(.val (.int .i64 0))] [(0,(.tmp 9))])),af 4 10],.ret])],ag [aw 11 2 2,au 12 11,af 13 1,aL 14 3 12 13,aw 15 1 14,au 16 15,af 4 16],.ret],
 [.tmp 4],17⟩
theorem xP:aJ aa 199 [2]=some rq:=by kernel_rfl
def tg:SF:=⟨ai [ag [bZ 2 0,bZ 3 1,aT 4 0,bb 5 false],ag [aV 7 4 2,aw 8 0 3,au 9 8,aU 10 199 [7,9],af 6 10],ai [ag [aw 11 1 3,au 12 11,af 13 6,aM 14 13,aS 15 .eql 12 14],aX 15 (ai [ag [aT 4 0,bb 5 false],.ret])],ag [af 16 6,aw 17 1 3,au 18 17,aL 19 1 16 18,au 20 19,af 4 20,bb 5 true],.ret],
 [.tmp 4,.tmp 5],21⟩
theorem y8:aJ aa 134 [2,3]=some tg:=by kernel_rfl
theorem Gh (g:ak) (d : -100<=g.start/\g.start<=100) (r:Int) (hr : -1<=r/\r<(g.rules.length:Int)):aC aa 199 [.agg (aj g),gi r] (encI (bV g r)):=by
 refine aC.of (by
  intro v a;simp at a
  rcases a with rfl | rfl
  .exact bW _ (cy g)
  .exact .val _) ?_
 refine az.of mixed xP ?_
 unfold bV
 simp(disch:=omega)only[↓wr,seval,wq,rq,aj,encS]
 apply ao.eq<;>intro h1
 .simp(disch:=omega)only[↓wr,seval,wq]
  intro n
  rw[abb h1]
  rintro c a
  refine dF.fr (jq (l:=[-1-g.start]) (.inr ⟨n,rfl,?_⟩))
  rw[a];simp[View.set]
 .have b:g.rules[r.toNat]?=some (cd g r):=by unfold cd;exact getD_some (by omega)
  rw[aa9 h1]
  generalize cd g r=R at b
  simp(disch:=omega)only[↓wr,seval,wq,aba,b,aQ]
  intro c _
  exact .tree _ (bg R.right)
theorem UN (g:ak) (c : -100<=g.start/\g.start<=100) (x:aP) (d : -1<=x.aB/\x.aB<(g.rules.length:Int)) (e:0<=x.dot/\x.dot<=(bV g x.aB).length) (f:(bV g x.aB).length<=1000):
  aC aa 134 [.agg (aj g),.agg (bM x)] (.bc [gi (bI g x).1,gb (bI g x).2]):=by
 have h1:=Gh g c x.aB d
 refine aC.tree (by
  intro v a;simp at a
  rcases a with rfl | rfl
  .exact bW _ (cy g)
  .exact bW _ λv a=>by simp[bM] at a;rcases a with rfl | rfl<;>exact .val _) (.bc _ λi hi=>by
   match i,hi with
   | 0,_=>exact .val _
   | 1,_=>exact .val _) λH=>?_
 refine az.of mixed y8 ?_
 simp only[aj,encS,encI] at h1
 unfold bI
 simp(disch:=omega)only[↓wr,seval,wq,tg,aj,encS,bM]
 refine ay.pure h1 ?_
 generalize bV g x.aB=R at e f ⊢
 simp(disch:=omega)only[↓wr,seval,wq]
 apply ao.eq<;>intro b
 .simp(disch:=omega)only[↓wr,seval,wq]
  rw[abb b]
 .have h:R[x.dot.toNat]?=some (R.getD x.dot.toNat 0):=getD_some (by omega)
  simp(disch:=omega)only[↓wr,seval,wq,aba,h]
  rw[aa9 b]
theorem gE {a b:aP} : c8 a b=true↔a.aB<b.aB∨a.aB=b.aB/\a.dot<b.dot:=by
 simp[c8]
theorem qC {a b c:aP} (h:c8 a b=true) (k:c8 b c=true):c8 a c=true:=by
 rw[gE] at h k ⊢;omega
theorem mT {a:aP} : c8 a a=false:=by
 cases h:c8 a a with
 | false=>rfl
 | true=>rw[gE] at h;omega
theorem Nn {a b:aP} (h:c8 a b=true):c8 b a=false:=by
 cases k:c8 b a with
 | false=>rfl
 | true=>have:=qC h k;rw[mT] at this;exact absurd this (by simp)
theorem z8 {a b:aP} (h:c8 a b=false) (c:¬ a=b):c8 b a=true:=by
 rw[gE]
 have h1:¬ c8 a b=true:=by simp[h]
 rw[gE] at h1
 obtain⟨d,ad⟩:=a
 obtain⟨e,f⟩:=b
 simp only[aP.mk.injEq] at c
 simp only at h1 ⊢
 omega
abbrev cM (l:List aP):Prop:=l.Pairwise λa b=>c8 a b=true
theorem j4:∀ {l:List aP} {x y:aP},y∈fh l x↔y=x∨y∈l
 | [],x,y=>by simp[fh]
 | z::l,x,y=>by
  rw[fh]
  split
  .simp only[abw,j4 (l:=l)]
   constructor
   .rintro (h | h | h)<;>simp[h]
   .rintro (h | h | h)<;>simp[h]
  .split
   .rename_i h;subst h;simp
   .simp
theorem qt:∀ {l:List aP} {x:aP},cM l->cM (fh l x)
 | [],x,_=>by simp[fh,cM]
 | z::l,x,h=>by
  rw[cM,acC] at h
  rw[fh]
  split
  .rename_i c
   rw[cM,acC]
   refine⟨λy a=>?_,qt h.2⟩
   rcases j4.1 a with rfl | a
   .exact c
   .exact h.1 y a
  .rename_i c
   split
   .exact acC.2 h
   .rename_i d
    have b:=z8 (by simpa using c) d
    rw[cM,acC]
    refine⟨λy a=>?_,acC.2 h⟩
    rcases abw.1 a with rfl | a
    .exact b
    .exact qC b (h.1 y a)
theorem Il:∀(l:List aP) (x:aP),(fh l x).length=l.length∨(fh l x).length=l.length+1
 | [],x=>.inr rfl
 | z::l,x=>by
  rw[fh]
  split
  .rcases Il l x with h | h<;>simp[h]
  .split<;>simp
theorem FW:∀ {l:List aP} {x:aP},cM l->x∈l->fh l x=l
 | [],x,_,h=>by simp at h
 | z::l,x,a,h=>by
  rw[cM,acC] at a
  rw[fh]
  rcases abw.1 h with rfl | h
  .rw[aa9 (by simp[mT]),abb rfl]
  .rw[abb (a.1 x h),FW a.2 h]
theorem FO:∀ {l:List aP} {x:aP},x ∉ l->(fh l x).length=l.length+1
 | [],x,_=>rfl
 | z::l,x,h=>by
  simp only[abw,not_or] at h
  rw[fh]
  split
  .simp[FO h.2]
  .rw[aa9 (λe=>h.1 e.symm)];rfl
theorem Iq:∀ {l:List aP} {x:aP},(∀y∈l,c8 y x=true)->fh l x=l++[x]
 | [],x,_=>rfl
 | z::l,x,h=>by
  rw[fh,abb (h z (by simp)),Iq λy a=>h y (by simp[a])];rfl
theorem BO:∀ {a b:List aP},cM a->cM b->(∀x,x∈a↔x∈b)->a=b
 | [],[],_,_,_=>rfl
 | [],y::b,_,_,h=>by have:=(h y).2 (by simp);simp at this
 | x::a,[],_,_,h=>by have:=(h x).1 (by simp);simp at this
 | x::a,y::b,d,e,h=>by
  rw[cM,acC] at d e
  have f:x=y:=by
   have h1:=(h x).1 (by simp)
   have c:=(h y).2 (by simp)
   rcases abw.1 h1 with h1 | h1
   .exact h1
   .rcases abw.1 c with c | c
    .exact c.symm
    .have:=qC (d.1 y c) (e.1 x h1)
     rw[mT] at this;exact absurd this (by simp)
  subst f
  congr 1
  refine BO d.2 e.2 λz=>?_
  have g:=h z
  simp only[abw] at g
  constructor
  .intro hm
   rcases g.1 (.inr hm) with rfl | h
   .have:=d.1 z hm;rw[mT] at this;exact absurd this (by simp)
   .exact h
  .intro hm
   rcases g.2 (.inr hm) with rfl | h
   .have:=e.1 z hm;rw[mT] at this;exact absurd this (by simp)
   .exact h
theorem MO:∀(l:List Int) (a n:Int),l.Pairwise (· < ·)->(∀x∈l,a<=x/\x<a+n)->0<=n->(l.length:Int)<=n
 | [],a,n,_,_,b=>by simpa using b
 | x::l,a,n,hp,hm,b=>by
  rw[acC] at hp
  have h1:=hm x (by simp)
  have:=MO l (x+1) (a+n-(x+1)) hp.2 (λy c=>by have:=hp.1 y c;have:=hm y (by simp[c]);omega) (by omega)
  simp only[abl];omega
def cW (g:ak) (x:aP):Prop:=(-1<=x.aB/\x.aB<(g.rules.length:Int))/\0<=x.dot/\x.dot<=(bV g x.aB).length
theorem ed {g:ak} (a:g.c5) {r:Int} (h : -1<=r/\r<(g.rules.length:Int)):(bV g r).length<=6:=by
 unfold bV
 split
 .simp
 .have b:g.rules[r.toNat]?=some (cd g r):=by unfold cd;exact getD_some (by omega)
  exact a.right _ (abi b)
theorem lk {g:ak} (f:g.c5) {l:List aP} (i:cM l) (h:∀x∈l,cW g x):l.length<=287:=by
 have d:∀x∈l,0<=x.dot/\x.dot<=6:=λx c=>by
  have h1:=h x c
  have:=ed f h1.1
  exact⟨h1.2.1,by have:=h1.2.2;omega⟩
 have h1:(l.map λx=>(x.aB+1)*7+x.dot).Pairwise (· < ·):=by
  rw[adq]
  refine List.Pairwise.imp_of_mem ?_ i
  intro a b j k e
  rw[gE] at e
  have:=d a j;have:=d b k
  omega
 have:=MO _ 0 287 h1 (λy m=>by
  obtain⟨x,c,rfl⟩:=abt.1 m
  have n:=(h x c).1
  have:=d x c;have:=f.rules
  omega) (by omega)
 simp at this
 omega
inductive oX (g:ak) (l:List aP):aP->Prop
 | base {x:aP} : x∈l->oX g l x
 | step {x:aP} {s:Int} {k:Nat} {R:bf} : oX g l x->bI g x=(s,true)->s<0->g.rules[k]?=some R->R.left = -1-s->oX g l ⟨k,0⟩
theorem oX.has {g:ak} {l:List aP} (a:∀x∈l,cW g x) {x:aP} (h:oX g l x):cW g x:=by
 induction h with
 | base h=>exact a _ h
 | step _ _ _ hk _ _ =>
  have:=(abf.1 hk).1
  exact⟨⟨by simp only;omega,by simp only;omega⟩,by simp only;omega,by simp only;omega⟩
def Mv (g:ak):List aP:=(List.range (g.rules.length+1)).flatMap λ(r:Nat)=>(List.range 7).map λ(d:Nat)=>(⟨(r:Int)-1,(d:Int)⟩:aP)
theorem Qs {g:ak} (a:g.c5) {x:aP} (h:cW g x):x∈Mv g:=by
 have:=ed a h.1
 obtain⟨⟨h1,b⟩,c,e⟩:=h
 simp only[Mv,ac2,abt,ab7]
 refine⟨(x.aB+1).toNat,by omega,x.dot.toNat,by omega,?_⟩
 obtain⟨r,d⟩:=x
 simp only at h1 b c e this
 simp only[aP.mk.injEq];omega
theorem wa:∀(l a:List aP),cM a->cM (l.foldl fh a)/\∀x,x∈l.foldl fh a↔x∈a∨x∈l
 | [],a,h=>⟨h,λx=>by simp⟩
 | y::l,a,h=>by
  obtain⟨h1,b⟩:=wa l (fh a y) (qt h)
  refine⟨h1,λx=>?_⟩
  rw[abY,b,j4,abw]
  constructor
  .rintro ((h | h) | h)<;>simp[h]
  .rintro (h | h | h)<;>simp[h]
open Classical in
def dx (g:ak) (l:List aP):List aP:=((Mv g).filter λx=>decide (oX g l x)).foldl fh []
theorem uX (g:ak) (l:List aP):cM (dx g l):=(wa _ [] .nil).1
theorem gQ {g:ak} (a:g.c5) {l:List aP} (b:∀x∈l,cW g x) {x:aP} : x∈dx g l↔oX g l x:=by
 rw[dx,(wa _ [] .nil).2]
 simp only[List.not_mem_nil,false_or,acr,abn]
 exact⟨λh=>h.2,λh=>⟨Qs a (h.has b),h⟩⟩
theorem EB {g:ak} (b:g.c5) {l o:List aP} (c:∀x∈l,cW g x) (a:cM o) (h1:∀x∈o,oX g l x) (d:∀x∈l,x∈o)
  (e:∀x∈o,∀(s:Int) (k:Nat) (R:bf),bI g x=(s,true)->s<0->g.rules[k]?=some R->R.left = -1-s->(⟨k,0⟩:aP)∈o):dx g l=o:=by
 refine BO (uX g l) a λx=>?_
 rw[gQ b c]
 refine⟨λh=>?_,h1 x⟩
 induction h with
 | base h=>exact d _ h
 | step _ f a hk i j=>exact e _ j _ _ _ f a hk i
def bz (g:ak) (l:List aP) (s:Int):List aP:=(l.filter λx=>decide (bI g x=(s,true))).map λx=>⟨x.aB,x.dot+1⟩
theorem sr {g:ak} {l:List aP} {s:Int} {y:aP} : y∈bz g l s↔∃x∈l,bI g x=(s,true)/\y=⟨x.aB,x.dot+1⟩:=by
 simp only[bz,abt,acr,abn]
 constructor
 .rintro⟨x,⟨h1,a⟩,rfl⟩;exact⟨x,h1,a,rfl⟩
 .rintro⟨x,h1,a,rfl⟩;exact⟨x,⟨h1,a⟩,rfl⟩
theorem Iv {g:ak} {l:List aP} (s:Int) (h:cM l):cM (bz g l s):=by
 rw[cM,bz,adq]
 refine(h.filter _).imp ?_
 intro a b c
 rw[gE] at c ⊢
 simp only;omega
theorem ye {g:ak} {x:aP} {s:Int} (h:bI g x=(s,true)):x.dot≠(bV g x.aB).length/\(bV g x.aB).getD x.dot.toNat 0=s:=by
 unfold bI at h
 split at h
 .simp at h
 .rename_i a;exact⟨a,by simpa using h⟩
theorem Mn {g:ak} {l:List aP} {s:Int} (a:∀x∈l,cW g x):∀y∈bz g l s,cW g y:=by
 intro y b
 obtain⟨x,c,d,rfl⟩:=sr.1 b
 have h1:=a x c
 have e:=(ye d).1
 exact⟨h1.1,by simp only;have:=h1.2;omega,by simp only;have:=h1.2;omega⟩
theorem Tc {g:ak} {l:List aP} (b:cM l) {i:Nat} {x:aP} (c:l[i]?=some x) (s:Int):
  bz g (l.take (i+1)) s=if bI g x=(s,true) then fh (bz g (l.take i) s) ⟨x.aB,x.dot+1⟩ else bz g (l.take i) s:=by
 have e:l.take (i+1)=l.take i++[x]:=by rw[abr,c];rfl
 rw[e]
 split
 .rename_i h
  rw[Iq]
  .simp[bz,h]
  .intro y d
   obtain⟨z,f,_,rfl⟩:=sr.1 d
   have a:cM (l.take (i+1)):=b.sublist (List.take_sublist _ _)
   rw[e,cM,List.pairwise_append] at a
   have:=a.2.2 z f x (by simp)
   rw[gE] at this ⊢
   simp only;omega
 .rename_i h
  simp[bz,h]
theorem vL {g:ak} {l:List aP} {s:Int} : (bz g l s).length<=l.length:=by
 rw[bz,abc];exact acQ _ _
structure ba where
 bA:List aP
 cG:List fW
 deriving DecidableEq
abbrev cg:ba:=⟨[],[]⟩
def bj (g:ak) (i:Nat):Int:=if i<g.ax.length then i else -1-((i:Int)-g.ax.length)
def findD:List ba->List aP->Int
 | [],_=>-1
 | s::l,k=>if s.bA=k then 0 else if findD l k<0 then -1 else findD l k+1
theorem zp:∀(l:List ba) (k:List aP),-1<=findD l k
 | [],_=>by simp[findD]
 | s::l,k=>by
  rw[findD];split
  .omega
  .split<;>omega
theorem Ao:∀(l:List ba) (k:List aP),findD l k<l.length
 | [],_=>by simp[findD]
 | s::l,k=>by
  have:=Ao l k
  rw[findD];simp only[abl];split
  .omega
  .split<;>omega
theorem K3:∀(l:List ba) (k:List aP) (i:Nat),findD l k=i->∃s,l[i]?=some s/\s.bA=k
 | [],_,i,h=>by simp[findD] at h
 | s::l,k,i,h=>by
  rw[findD] at h
  split at h
  .rename_i e
   have:i=0:=by omega
   subst this
   exact⟨s,rfl,e⟩
  .split at h
   .omega
   .obtain⟨j,rfl⟩:∃j,i=j+1:=⟨i-1,by omega⟩
    obtain⟨t,h1,a⟩:=K3 l k j (by omega)
    exact⟨t,by simpa using h1,a⟩
theorem MK:∀(l:List ba) (k:List aP),findD l k<0->∀s∈l,s.bA≠k
 | [],_,_,s,a=>by simp at a
 | t::l,k,h,s,a=>by
  rw[findD] at h
  split at h
  .omega
  .rename_i b
   have c:findD l k<0:=by
    split at h
    .assumption
    .omega
   rcases abw.1 a with rfl | a
   .exact b
   .exact MK l k c s a
theorem Mr:∀(l:List ba) (k:List aP) (i:Nat) (s:ba),l[i]?=some s->s.bA=k->(∀j t,j<i->l[j]?=some t->t.bA≠k)->findD l k=i
 | [],_,_,_,h,_,_=>by simp at h
 | t::l,k,0,s,h,hk,_=>by simp at h;subst h;simp[findD,hk]
 | t::l,k,i+1,s,h,hk,a=>by
  have b:=a 0 t (by omega) rfl
  have:=Mr l k i s (by simpa using h) hk λj u c hu=>a (j+1) u (by omega) (by simpa using hu)
  rw[findD,aa9 b,this,aa9 (by omega)];omega
theorem Fs:∀(l:List ba) (k:List aP),(∀s∈l,s.bA≠k)->findD l k = -1
 | [],_,_=>rfl
 | t::l,k,h=>by
  have:=Fs l k λs a=>h s (by simp[a])
  rw[findD,aa9 (h t (by simp)),this];rfl
def dG (g:ak) (l:List aP) (at_:Nat) (out:List ba) (i:Nat):List ba:=
 if bz g l (bj g i)=[] then out else
 if findD out (bz g l (bj g i))<0 then (out++[(⟨bz g l (bj g i),[]⟩:ba)]).modify at_ λs=>(⟨s.bA,s.cG++[⟨bj g i,out.length⟩]⟩:ba)
 else out.modify at_ λs=>(⟨s.bA,s.cG++[⟨bj g i,findD out (bz g l (bj g i))⟩]⟩:ba)
def Cy (g:ak) (at_:Nat) (out:List ba) (n:Nat):List ba:=(List.range n).foldl (dG g (dx g (out.getD at_ cg).bA) at_) out
def fS (g:ak):Nat->Nat->List ba->List ba × Int
 | 0,_,out=>(out,0)
 | f+1,at_,out=>if at_<out.length then
   (if 300<(Cy g at_ out (g.ax.length+g.av.length)).length then ([],5) else fS g f (at_+1) (Cy g at_ out (g.ax.length+g.av.length)))
  else (out,0)
def eC:List ba:=[⟨[⟨-1,0⟩],[]⟩]
abbrev BV:=BitVec 32
def iy:List fW->Int->Int
 | [],_=>-1
 | e::l,s=>if e.sym=s then e.to else iy l s
def jU (a:List ba):Int->List Int->Int × Bool
 | at_,[]=>(at_,true)
 | at_,s::l=>if 0<=iy (a.getD at_.toNat cg).cG s/\iy (a.getD at_.toNat cg).cG s<a.length then jU a (iy (a.getD at_.toNat cg).cG s) l else (0,false)
def oF (a:List ba) (at_:Int) (l:List Int):Int × Bool:=if at_<0∨(a.length:Int)<=at_ then (0,false) else jU a at_ l
abbrev Sets:=List (List BV)
theorem IG {α:Type} (l:List α) (i j:Nat) (x d:α):(l.set i x).getD j d=if i=j/\i<l.length then x else l.getD j d:=by
 by_cases e:i=j
 .subst e
  by_cases h:i<l.length
  .simp[h]
  .simp[h]
 .simp[e]
def gY (g:ak) (x:aP):List Int:=if 0<=x.aB then (cd g x.aB).right.drop (x.dot+1).toNat else []
section
variable {g:ak} {null:List Bool} {a:List ba} {ls:List (List aP)}
end
theorem j8 {g:ak} (a:g.c5) : -100<=g.start/\g.start<=100:=by
 have:=a.lB;have:=a.start;have:=a.av;omega
theorem Eo (g:ak) (b:g.c5) (x:aP) (a:cW g x):aC aa 134 [.agg (aj g),.agg (bM x)] (.bc [gi (bI g x).1,gb (bI g x).2]):=
 UN g (j8 b) x a.1 a.2 (by have:=ed b a.1;omega)
theorem tt {l:List aP} {i:Nat} {y:aP} (h:l[i]?=some y):(bh l).getD i []=[gi y.aB,gi y.dot]:=by simp[bh,h,bM]
theorem bT (l:List aP):(bh l).length=l.length:=by simp[bh]
theorem AH {g:ak} {x:aP} {s:Int} {b:Bool} (d:g.c5) (f:cW g x) (h:bI g x=(s,b)) : -1000<=s/\s<=1000:=by
 have a:∀s∈bV g x.aB,-1000<=s/\s<=1000:=by
  intro s c
  unfold bV at c
  split at c
  .simp at c;subst c;have:=j8 d;omega
  .have i:g.rules[x.aB.toNat]?=some (cd g x.aB):=by unfold cd;exact getD_some (by have:=f.1;omega)
   have h1:=d.sym _ (abi i) s c
   have:=d.ax;have:=d.av
   unfold dS at h1
   split at h1<;>simp at h1<;>omega
 unfold bI at h
 split at h
 .simp at h;omega
 .rename_i j
  simp only[abz] at h
  have e:x.dot.toNat<(bV g x.aB).length:=by have:=f.2;omega
  rw[<-h.1]
  exact a _ (abi (getD_some e))
def nG:SC:=
 ai [ai [ag [af 12 6,af 13 1,aM 14 13,aS 15 .lss 12 14],bO 15 (.exit 0)],.block 1 (ag [af 18 5,af 19 1,af 20 6,aL 21 2 19 20,aV 22 2 21,aU 23 133 [18,22],af 5 23]),ag [af 16 6,aI 17 .add 16 1,af 6 17]]
def jH:SC:=
 ai [ai [.region false [⟨none,[af 41 9,af 42 41]⟩,⟨(some (42,true)),[af 43 8,aI 44 .lss 43 0]⟩,⟨none,[dA 45 42 44,af 46 45]⟩,⟨(some (46,true)),[af 47 11,aw 48 2 2,au 49 48,aM 50 49,aS 51 .lss 47 50]⟩,⟨none,[dA 52 46 51]⟩],bO 52 (.exit 4)],.block 5 (ai [ag [aw 55 2 2,au 56 55,af 57 11,aL 58 3 56 57,aw 59 0 58,au 60 59,af 61 8,((some 62),.op (.arith .sub (.val (.val (.int .i64 (-1)))) (.tmp 61))),aS 63 .eql 60 62],aX 63 (ag [af 64 5,af 65 11,((some 66),.op (.build [(.val (.int .i64 0)),(.val (.int .i64 0))] [(0,1,(.tmp 65))])),aU 67 133 [64,66],af 5 67])]),ag [af 53 11,aI 54 .add 53 1,af 11 54]]
def nD:SC:=
 ai [ai [ag [af 24 7,af 25 5,aM 26 25,aS 27 .lss 24 26],bO 27 (.exit 2)],.block 3 (ai [ag [aV 31 4 2,af 32 5,af 33 7,aL 34 2 32 33,aV 35 2 34,aU 36 134 [31,35],af 30 36,c7 37 0 30,c7 38 1 30,af 8 37,af 9 38],ag [af 39 5,aM 40 39,af 10 40],ai [ag [aT 11 0],bR 4 jH],ag [af 68 5,aM 69 68,af 70 10,aS 71 .gtr 69 70],aX 71 (ag [aT 7 (-1)])]),ag [af 28 7,aI 29 .add 28 1,af 7 29]]
def pP:SF:=⟨ai [ag [bZ 2 0,bL 4 1],ag [bL 5 1],ai [ag [aT 6 0],bR 0 nG],ai [ag [aT 7 0],bR 2 nD],ag [af 72 5,af 4 72],.ret],
 [.tmp 4],73⟩
theorem vZ:aJ aa 69 [2]=some pP:=by kernel_rfl
def pE:SC:=
 ai [ai [ag [af 11 8,af 12 1,aM 13 12,aS 14 .lss 11 13],bO 14 (.exit 0)],.block 1 (ai [ag [aV 18 4 3,af 19 1,af 20 8,aL 21 2 19 20,aV 22 2 21,aU 23 134 [18,22],af 17 23,c7 24 0 17,c7 25 1 17,af 9 24,af 10 25],.region false [⟨none,[af 26 10,af 27 26]⟩,⟨(some (27,true)),[af 28 9,af 29 2,aS 30 .eql 28 29]⟩,⟨none,[dA 31 27 30]⟩],aX 31 (ag [af 32 7,af 33 1,af 34 8,aL 35 2 33 34,aw 36 0 35,au 37 36,af 38 1,af 39 8,aL 40 2 38 39,aw 41 1 40,au 42 41,aI 43 .add 42 1,((some 44),.op (.build [(.val (.int .i64 0)),(.val (.int .i64 0))] [(0,1,(.tmp 37)),(1,1,(.tmp 43))])),aU 45 133 [32,44],af 7 45])]),ag [af 15 8,aI 16 .add 15 1,af 8 16]]
def rH:SF:=⟨ai [ag [bZ 3 0,bL 6 1],ag [bL 7 1],ai [ag [aT 8 0],bR 0 pE],ag [af 46 7,af 6 46],.ret],
 [.tmp 6],47⟩
theorem xQ:aJ aa 71 [3]=some rH:=by kernel_rfl
def pD:SC:=
 ai [ai [ag [af 11 5,af 12 0,aM 13 12,aS 14 .lss 11 13],bO 14 (.exit 0)],.block 1 (ai [ag [af 17 0,af 18 5,aL 19 2 17 18,aV 20 2 19,af 21 1,af 22 5,aL 23 2 21 22,aV 24 2 23,((some 25),.op (.old (.binOp .neq 120 (.tmp 20) (.tmp 24) 120) 4))],aX 25 (ai [ag [bb 4 false],.ret])]),ag [af 15 5,aI 16 .add 15 1,af 5 16]]
def rR:SF:=⟨ai [ag [bb 4 false],ai [ag [af 6 0,aM 7 6,af 8 1,aM 9 8,aS 10 .neq 7 9],aX 10 (ai [ag [bb 4 false],.ret])],ai [ag [aT 5 0],bR 0 pD],ag [bb 4 true],.ret],
 [.tmp 4],26⟩
theorem xG:aJ aa 135 []=some rR:=by kernel_rfl
def qa:SF:=⟨ai [ag [bZ 2 0,aT 4 0],ai [ag [af 5 1,aw 6 0 2,au 7 6,aM 8 7,aS 9 .lss 5 8],aX 9 (ai [ag [af 10 1,af 4 10],.ret])],ag [af 11 1,aw 12 0 2,au 13 12,aM 14 13,aS 15 .sub 11 14,((some 16),.op (.arith .sub (.val (.val (.int .i64 (-1)))) (.tmp 15))),af 4 16],.ret],
 [.tmp 4],17⟩
theorem wi:aJ aa 70 [2]=some qa:=by kernel_rfl
def ZJ (g:ak) (out:List aP) (x:aP):Prop:=∀(s:Int) (k:Nat) (R:bf),bI g x=(s,true)->s<0->g.rules[k]?=some R->R.left = -1-s->(⟨k,0⟩:aP)∈out
def Vf (g:ak) (l:List aP) (H:View) (m:Nat) (T:Env) (H':View):Prop:=∃(i:Nat) (r:V) (out:List aP),m=(300-out.length)*1000+(300-i)/\i<=out.length/\aN H' r 2 (bh out)/\cn H H' r/\cM out/\(∀x∈out,oX g l x)/\(∀x∈l,x∈out)/\(∀j x,j<i->out[j]?=some x->ZJ g out x) /\
 T 2=.aR (aj g) 0/\T 5=r/\T 7=gi i
theorem Lx (g:ak) (J:g.c5) (l:List aP) (hl:∀x∈l,cW g x) (hn:l.length<=10000) (u:V) (H:View) (ho:aN H u 2 (bh l)):az aa 69 [.agg (aj g),u] H λr H'=>aN H' r 2 (bh (dx g l))/\cn H H' r:=by
 refine az.of mixed vZ ?_
 have hlen:cE u=some l.length:=by rw[ho.len];simp[bh]
 have bd:=J.rules
 simp(disch:=omega)only[↓wr,seval,wq,pP,aj,encS]
 refine aW.up l.length (λi T H'=>∃(r:V) (out:List aP),aN H' r 2 (bh out)/\cn H H' r/\cM out/\(∀x,x∈out↔x∈l.take i)/\out.length<=287/\T 1=u/\T 2=.aR (aj g) 0/\T 5=r/\T 6=gi i)
  ⟨.emp 1,[],.nil,.emp,.nil,by simp,by simp,rfl,rfl,rfl,rfl⟩ ?_
 rintro i k T H' hk ⟨r,out,D,fr,n,hm,hle,t1,t2,t5,t6⟩
 simp(disch:=omega)only[↓wr,seval,wq,nG,t1,t6,hlen]
 apply ao.dec<;>intro hc
 .have N:l[i]?=some (l[i]'(by omega)):=aa8 (by omega)
  have W:l.take (i+1)=l.take i++[l[i]'(by omega)]:=by rw[abr,N];rfl
  generalize l[i]'(by omega)=y at N W
  obtain⟨id,hu,t⟩:=ho.sl (by simp[bh];omega)
  have X:H' id=.arr 2 (bh l):=by rw[(fr id (by rw[t];simp)).1,t]
  simp(disch:=omega)only[↓wr,seval,wq,t1,t5,t6,hu,X,tt N]
  refine⟨by first | omega | (simp[bh];omega),by first | omega | (simp[bh];omega),?_⟩
  refine ay.cF ((En r out (by omega) y H' D).mono ?_)
  rintro p H2 ⟨O,l2⟩
  simp(disch:=omega)only[↓wr,seval,wq,t6]
  have Y:∀x,x∈fh out y↔x∈l.take (i+1):=λx=>by
   rw[j4,W,abq,hm,ab5,or_comm]
  have Z:=qt (x:=y) n
  exact aF hk (by omega) ⟨p,fh out y,O,fr.step l2,Z,Y,lk J Z (λx b=>hl x (acA ((Y x).1 b))),t1,t2,rfl,rfl⟩
 rw[abo (by omega)] at hm
 simp(disch:=omega)only[↓wr,seval,wq]
 refine aW.intro (Vf g l H) ((300-out.length)*1000+300)
  ⟨0,r,out,by omega,aco _,D,fr,n,λx b=>.base ((hm x).1 b),λx b=>(hm x).2 b,λj x hj=>by omega,t2,t5,rfl⟩ ?_
 clear D fr n hm hle t1 t2 t5 t6 hc hk
 rintro m T1 H1 ⟨i,r,out,rfl,hi,D,fr,n,E,P,ab,t2,t5,t7⟩
 have K:∀x∈out,cW g x:=λx b=>(E x b).has hl
 have hle:=lk J n K
 have ar:cE r=some out.length:=by rw[D.len,bT]
 simp(disch:=omega)only[↓wr,seval,wq,nD,t5,t7,ar]
 apply ao.dec<;>intro hc
 .have N:out[i]?=some (out[i]'(by omega)):=aa8 (by omega)
  have Q:=K _ (abe (show i<out.length by omega))
  have ae:=E _ (abe (show i<out.length by omega))
  generalize out[i]'(by omega)=y at N Q ae
  have h1:=Eo g J y Q
  cases F:bI g y with
  | mk s G =>
  have bl:=AH J Q F
  rw[F] at h1
  obtain⟨id,hu,t⟩:=D.sl (by simp[bh];omega)
  rw[bT] at hu
  simp only[aj,encS,bM] at h1
  simp(disch:=omega)only[↓wr,seval,wq,t2,t5,t7,hu,t,tt N,aj,encS]
  refine⟨by first | omega | (simp[bh];omega),by first | omega | (simp[bh];omega),?_⟩
  refine ay.pure h1 ?_
  simp(disch:=omega)only[↓wr,seval,wq,t5,hu]
  refine aW.up g.rules.length (λk T H'=>∃(p:V) (a:List aP),aN H' p 2 (bh a)/\cn H H' p/\cM a/\(∀x∈a,oX g l x)/\(∀x∈out,x∈a)/\out.length<=a.length/\(a.length=out.length->a=out) /\
   (∀(q:Nat) (R:bf),q<k->G=true->s<0->g.rules[q]?=some R->R.left = -1-s->(⟨q,0⟩:aP)∈a)/\T 2=.aR (aj g) 0/\T 5=p/\T 7=gi i/\T 8=gi s/\T 9=gb G/\T 10=gi out.length/\T 11=gi k)
   ⟨r,out,D,fr,n,E,λx b=>b,abg _,λ_=>rfl,λq R hq=>by omega,t2,by rw[<-hu];exact t5,t7,rfl,rfl,rfl,rfl⟩ ?_
  clear D fr t2 t5 t7 t hu
  rintro k j T2 H2 hk ⟨p,a,O,I,c,d,v,S,o,w,t2,t5,t7,t8,t9,t10,t11⟩
  have U:∀x∈a,cW g x:=λx b=>(d x b).has hl
  have a8:=lk J c U
  have f:cE p=some a.length:=by rw[O.len,bT]
  have more:out.length<a.length->∀z:Env,z 2=.aR (aj g) 0->z 5=p->z 7=gi 0->∃k',k'<(300-out.length)*1000+(300-i)/\Vf g l H k' z H2:=λh z e2 e5 e7 =>
   ⟨(300-a.length)*1000+300,by omega,0,p,a,by omega,aco _,O,I,c,d,λx b=>v x (P x b),λj x hj=>by omega,e2,e5,e7⟩
  have stay:(G=true->s<0->g.rules.length<=k)->¬ out.length<a.length->∀z:Env,z 2=.aR (aj g) 0->z 5=p->z 7=gi ((i:Int)+1)->∃k',k'<(300-out.length)*1000+(300-i)/\Vf g l H k' z H2:=λal h z e2 e5 e7=>by
   have e:=o (by omega)
   subst e
   refine⟨(300-a.length)*1000+(300-(i+1)),by omega,i+1,p,a,rfl,by omega,O,I,c,d,P,λj x hj b=>?_,e2,e5,e7⟩
   rcases abH j i with an | an
   .exact ab j x an b
   .have:j=i:=by omega
    subst this
    rw[N] at b
    simp only[abd] at b
    subst b
    intro s' q R h1 L A M
    rw[F] at h1
    simp only[abz] at h1
    obtain⟨rfl,rfl⟩:=h1
    have:=(abf.1 A).1
    exact w q R (by have:=al rfl L;omega) rfl L A M
  cases G with
  | false =>
   simp(disch:=omega)only[↓wr,seval,wq,jH,t5,t7,t9,t10,f]
   apply ao.dec<;>intro hg
   .simp(disch:=omega)only[↓wr,seval,wq,t5]
    exact more (by omega) _ t2 t5 rfl
   .simp(disch:=omega)only[↓wr,seval,wq,t5,t7]
    exact stay (λh=>by simp at h) (by omega) _ t2 t5 rfl
  | true =>
   simp(disch:=omega)only[↓wr,seval,wq,jH,t8,t9,aj]
   apply ao.dec<;>intro B
   .simp(disch:=omega)only[↓wr,seval,wq,t2,t11,aj]
    apply ao.dec<;>intro a1
    .have hR:g.rules[k]?=some (g.rules[k]'(by omega)):=aa8 (by omega)
     have hL:=J.left _ (abe (show k<g.rules.length by omega))
     generalize g.rules[k]'(by omega)=R at hR hL
     simp(disch:=omega)only[↓wr,seval,wq,t2,t8,t11,aj,aQ,aba,hR]
     apply ao.eq<;>intro he
     .simp(disch:=omega)only[↓wr,seval,wq,t5,t11]
      refine ay.cF ((En p a (by omega) ⟨k,0⟩ H2 O).mono ?_)
      rintro r3 H3 ⟨o3,l3⟩
      simp(disch:=omega)only[↓wr,seval,wq,t7,t11]
      have aq:oX g l ⟨k,0⟩:=.step ae F B hR he
      refine aF hk (by omega) ⟨r3,fh a ⟨k,0⟩,o3,I.step l3,qt c,λx b=>?_,λx b=>j4.2 (.inr (v x b)),by have:=Il a ⟨k,0⟩;omega,λh=>?_,λq R' hq L A M=>?_,t2,rfl,t7,t8,t9,t10,rfl⟩
      .rcases j4.1 b with rfl | b
       .exact aq
       .exact d x b
      .have a6:(⟨k,0⟩:aP)∈a:=acF λa7=>by
        have:=FO a7;omega
       rw[FW c a6] at h ⊢
       exact o h
      .rcases abH q k with C | C
       .exact j4.2 (.inr (w q R' C rfl L A M))
       .have:q=k:=by omega
        subst this
        exact j4.2 (.inl rfl)
     .simp(disch:=omega)only[↓wr,seval,wq,t5,t7,t11]
      refine aF hk (by omega) ⟨p,a,O,I,c,d,v,S,o,λq R' hq L A M=>?_,t2,t5,t7,t8,t9,t10,rfl⟩
      rcases abH q k with C | C
      .exact w q R' C rfl L A M
      .have:q=k:=by omega
       subst this
       rw[hR] at A
       simp only[abd] at A
       subst A
       exact absurd M he
    .simp(disch:=omega)only[↓wr,seval,wq,t5,t7,t10,f]
     apply ao.dec<;>intro hg
     .simp(disch:=omega)only[↓wr,seval,wq,t5]
      exact more (by omega) _ t2 t5 rfl
     .simp(disch:=omega)only[↓wr,seval,wq,t5,t7]
      exact stay (λ_ _=>by omega) (by omega) _ t2 t5 rfl
   .simp(disch:=omega)only[↓wr,seval,wq,t5,t7,t10,f]
    apply ao.dec<;>intro hg
    .simp(disch:=omega)only[↓wr,seval,wq,t5]
     exact more (by omega) _ t2 t5 rfl
    .simp(disch:=omega)only[↓wr,seval,wq,t5,t7]
     exact stay (λ_ h=>absurd h B) (by omega) _ t2 t5 rfl
 .simp(disch:=omega)only[↓wr,seval,wq,t5]
  have bn:i=out.length:=by omega
  rw[EB J hl n E P (λx b s k R h1 L A M=>by
   obtain⟨j,hj,e⟩:=acL.1 b
   exact ab j x (by omega) (by rw[aa8 hj,e]) s k R h1 L A M)]
  exact⟨D,fr⟩
theorem Qh (g:ak) (m:g.c5) (l:List aP) (t:cM l) (v:∀x∈l,cW g x) (s:Int) (u:V) (H:View) (w:aN H u 2 (bh l)):az aa 71 [.agg (aj g),u,gi s] H λr H'=>aN H' r 2 (bh (bz g l s))/\cn H H' r:=by
 refine az.of mixed xQ ?_
 have hlen:cE u=some l.length:=by rw[w.len];simp[bh]
 have hle:=lk m t v
 simp(disch:=omega)only[↓wr,seval,wq,rH,aj,encS]
 refine aW.up l.length (λi T H'=>∃(r:V),aN H' r 2 (bh (bz g (l.take i) s))/\cn H H' r/\T 1=u/\T 2=gi s/\T 3=.aR (aj g) 0/\T 7=r/\T 8=gi i)
  ⟨.emp 1,.nil,.emp,rfl,rfl,rfl,rfl,rfl⟩ ?_
 rintro i k T H' hk ⟨r,h,fr,t1,t2,t3,t7,t8⟩
 simp(disch:=omega)only[↓wr,seval,wq,pE,t1,t8,hlen]
 apply ao.dec<;>intro B
 .have j:l[i]?=some (l[i]'(by omega)):=aa8 (by omega)
  have b:=v _ (abe (show i<l.length by omega))
  have a:=Tc (g:=g) t (show l[i]?=some (l[i]'(by omega)) from j) s
  generalize l[i]'(by omega)=y at j b a
  have h1:=Eo g m y b
  cases c:bI g y with
  | mk q n =>
  rw[c] at h1
  obtain⟨id,hu,f⟩:=w.sl (by simp[bh];omega)
  have d:H' id=.arr 2 (bh l):=by rw[(fr id (by rw[f];simp)).1,f]
  rw[bT] at hu
  have z:=b.2
  have L:=ed m b.1
  have o:=vL (g:=g) (l:=l.take i) (s:=s)
  simp only[acb] at o
  simp only[aj,encS,bM] at h1
  simp(disch:=omega)only[↓wr,seval,wq,t1,t3,t8,hu,d,tt j,aj,encS]
  refine⟨by first | omega | (simp[bh];omega),by first | omega | (simp[bh];omega),?_⟩
  refine ay.pure h1 ?_
  have skip:¬ bI g y=(s,true)->∀e:Env,e 1=u->e 2=gi s->e 3=.aR (aj g) 0->e 7=r->e 8=gi ((i:Int)+1)->∃A,A<k/\FL l.length A (λi T H'=>∃(r:V),aN H' r 2 (bh (bz g (l.take i) s))/\cn H H' r/\T 1=u/\T 2=gi s/\T 3=.aR (aj g) 0/\T 7=r/\T 8=gi i) e H':=λp e C D E F G=>by
   rw[aa9 p] at a
   exact aF hk (by omega) ⟨r,by rw[a];exact h,fr,C,D,E,F,G⟩
  cases n with
  | false =>
   simp(disch:=omega)only[↓wr,seval,wq,t7,t8]
   exact skip (by rw[c];simp) _ t1 t2 t3 t7 rfl
  | true =>
   simp(disch:=omega)only[↓wr,seval,wq,t2]
   apply ao.eq<;>intro he
   .simp(disch:=omega)only[↓wr,seval,wq,t1,t7,t8,hu,d,tt j]
    refine⟨by first | omega | (simp[bh];omega),by first | omega | (simp[bh];omega),?_⟩
    refine⟨by first | omega | (simp[bh];omega),by first | omega | (simp[bh];omega),?_⟩
    refine ay.cF ((En r (bz g (l.take i) s) (by omega) ⟨y.aB,y.dot+1⟩ H' h).mono ?_)
    rintro I M ⟨J,K⟩
    simp(disch:=omega)only[↓wr,seval,wq,t8]
    rw[abb (by rw[c,he])] at a
    exact aF hk (by omega) ⟨I,by rw[a];exact J,fr.step K,t1,t2,t3,rfl,rfl⟩
   .simp(disch:=omega)only[↓wr,seval,wq,t7,t8]
    exact skip (by rw[c];simp[he]) _ t1 t2 t3 t7 rfl
 .simp(disch:=omega)only[↓wr,seval,wq,t7]
  rw[abo (by omega)] at h
  exact⟨h,fr⟩
theorem FC {g:ak} (a:g.c5) {i:Nat} (hi:i<g.ax.length+g.av.length) : -100<=bj g i/\bj g i<=100:=by
 have:=a.ax;have:=a.av
 unfold bj;split<;>omega
theorem M7 (g:ak) (a:g.c5) (i:Nat) (hi:i<g.ax.length+g.av.length):aC aa 70 [.agg (aj g),gi i] (gi (bj g i)):=by
 refine aC.val (by
  intro v b;simp at b
  rcases b with rfl | rfl
  .exact bW _ (cy g)
  .exact .val _) λH=>?_
 have:=a.ax;have:=a.av
 refine az.of mixed wi ?_
 unfold bj
 simp(disch:=omega)only[↓wr,seval,wq,qa,aj,encS]
 apply ao.dec<;>intro h
 .simp(disch:=omega)only[↓wr,seval,wq]
  rw[abb (by omega)]
 .simp(disch:=omega)only[↓wr,seval,wq]
  rw[aa9 (by omega)]
theorem HQ (l:List aP):Tree (.aY (bh l)):=eA _ _ λx _ v a=>by simp[bM] at a;rcases a with rfl | rfl<;>exact .val _
theorem PT (a b:List aP) (g:aG a) (j:aG b):aC aa 135 [.aY (bh a),.aY (bh b)] (gb (a==b)):=by
 unfold aG at g j
 refine aC.val (by
  intro v f;simp at f
  rcases f with rfl | rfl<;>exact HQ _) λH=>?_
 refine az.of mixed xG ?_
 simp(disch:=omega)only[↓wr,seval,wq,rR,bh]
 apply ao.ne<;>intro h
 .simp(disch:=omega)only[↓wr,seval,wq]
  have:(a==b)=false:=by simp;rintro rfl;exact h rfl
  rw[this]
 .simp(disch:=omega)only[↓wr,seval,wq]
  refine aW.up a.length (λi T H'=>a.take i=b.take i/\T 0=.aY (bh a)/\T 1=.aY (bh b)/\T 5=gi i) ⟨rfl,rfl,rfl,rfl⟩ ?_
  rintro i k T H' hk ⟨he,t0,t1,t5⟩
  simp(disch:=omega)only[↓wr,seval,wq,pD,t0,t5,bh]
  apply ao.dec<;>intro l
  .have d:a[i]?=some (a[i]'(by omega)):=aa8 (by omega)
   have c:b[i]?=some (b[i]'(by omega)):=aa8 (by omega)
   generalize a[i]'(by omega)=x at d
   generalize b[i]'(by omega)=y at c
   simp(disch:=omega)only[↓wr,seval,wq,t0,t1,t5,bh,aba,d,c,bM]
   refine kn (xs:=#[.int .i64 x.aB,.int .i64 x.dot]) (ys:=#[.int .i64 y.aB,.int .i64 y.dot]) Tryz.underlying120 (by kernel_rfl) (by kernel_rfl) ?_ ?_ (sQ x y) (.inr ⟨rfl,rfl⟩) ?_
   .rfl
   .rfl
   rw[Bw]
   simp(disch:=omega)only[↓wr,seval,wq]
   apply ao.dec<;>intro e
   .simp(disch:=omega)only[↓wr,seval,wq,t5]
    exact aF hk (by omega) ⟨by rw[abr,abr,he,d,c,e],t0,t1,rfl⟩
   .simp(disch:=omega)only[↓wr,seval,wq]
    have:(a==b)=false:=by
     simp;rintro rfl
     rw[d] at c;simp at c;exact e c
    rw[this]
  .simp(disch:=omega)only[↓wr,seval,wq]
   rw[abo (by omega),abo (by omega)] at he
   rw[he,beq_self_eq_true]
structure ZQ where
 aB:Int
 set:BV
 deriving DecidableEq
def cD (g:ak):List ba × Int:=if isRed g=true then fS g 302 0 eC else ([],1)
structure er (g:ak) (at_ i:Nat) (out:List ba):Prop where
 bA:∀s∈out,cM s.bA/\s.bA≠[]/\∀x∈s.bA,cW g x
 cG:∀j s,out[j]?=some s->s.cG.length<=40/\(j=at_->s.cG.length<=i)/\(at_<j->s.cG=[])
 to:∀s∈out,∀e∈s.cG,0<=e.to/\e.to<out.length
 sym:∀s∈out,∀e∈s.cG,-1000<=e.sym/\e.sym<=1000
theorem mem_modify {α:Type} {l:List α} {i:Nat} {f:α->α} {y:α} (h:y∈l.modify i f):y∈l∨∃x,l[i]?=some x/\y=f x:=by
 obtain⟨j,a,e⟩:=acL.1 h
 simp only[List.length_modify] at a
 rw[List.getElem_modify] at e
 split at e
 .rename_i b
  subst b
  exact .inr ⟨l[i],aa8 a,e.symm⟩
 .exact .inl (e▸abe a)
theorem TK (g:ak) (l:List aP) (at_:Nat) (out:List ba) (i:Nat):out.length<=(dG g l at_ out i).length/\(dG g l at_ out i).length<=out.length+1:=by
 unfold dG
 split
 .omega
 .split
  .simp
  .simp
theorem er.put {g:ak} {at_ i:Nat} {out:List ba} (h:er g at_ i out) (hi:i<40) {s:Int} (c : -1000<=s/\s<=1000) {to:Int} (d:0<=to/\to<out.length):er g at_ (i+1) (out.modify at_ λx=>(⟨x.bA,x.cG++[⟨s,to⟩]⟩:ba)):=by
 refine⟨λy a=>?_,λj y a=>?_,λy a e he=>?_,λy a e he=>?_⟩
 rotate_right
 .rcases mem_modify a with a | ⟨x,b,rfl⟩
  .exact h.sym y a e he
  .rcases abq.1 he with he | he
   .exact h.sym x (abi b) e he
   .simp at he;subst he;exact c
 .rcases mem_modify a with a | ⟨x,b,rfl⟩
  .exact h.bA y a
  .exact h.bA x (abi b)
 .rw[List.getElem?_modify] at a
  cases b:out[j]? with
  | none=>rw[b] at a;simp at a
  | some x =>
   rw[b] at a
   have h1:=h.cG j x b
   by_cases e:at_=j
   .subst e
    simp at a
    subst a
    refine⟨by simp;omega,λ_=>by simp;omega,λh=>by omega⟩
   .simp[e] at a
    subst a
    exact⟨h1.1,λh=>absurd h.symm e,h1.2.2⟩
 .rw[List.length_modify]
  rcases mem_modify a with a | ⟨x,b,rfl⟩
  .exact h.to y a e he
  .rcases abq.1 he with he | he
   .exact h.to x (abi b) e he
   .simp at he;subst he;exact d
theorem er.up {g:ak} {at_ i:Nat} {out:List ba} (h:er g at_ i out):er g at_ (i+1) out:=
 ⟨h.bA,λj s a=>by have:=h.cG j s a;exact⟨this.1,λe=>by have:=this.2.1 e;omega,this.2.2⟩,h.to,h.sym⟩
theorem er.add {g:ak} {at_ i:Nat} {out:List ba} (h:er g at_ i out) {k:List aP} (hk:cM k/\k≠[]/\∀x∈k,cW g x):er g at_ i (out++[⟨k,[]⟩]):=by
 refine⟨λy a=>?_,λj y a=>?_,λy a e he=>?_,λy a e he=>?_⟩
 rotate_right
 .rcases abq.1 a with a | a
  .exact h.sym y a e he
  .simp at a;subst a;simp at he
 .rcases abq.1 a with a | a
  .exact h.bA y a
  .simp at a;subst a;exact hk
 .rcases abH j out.length with b | b
  .rw[abF b] at a;exact h.cG j y a
  .rw[acf b] at a
   cases c:j-out.length with
   | zero=>rw[c] at a;simp at a;subst a;exact⟨by simp,λ_=>by simp,λ_=>rfl⟩
   | succ q=>rw[c] at a;simp at a
 .rcases abq.1 a with a | a
  .have:=h.to y a e he;simp;omega
  .simp at a;subst a;simp at he
theorem er.step {g:ak} {l:List aP} (c:cM l) (d:∀x∈l,cW g x) {at_ i:Nat} {out:List ba} (h:er g at_ i out) (hi:i<40):er g at_ (i+1) (dG g l at_ out i):=by
 unfold dG
 split
 .exact h.up
 .rename_i a
  have b : -1000<=bj g i/\bj g i<=1000:=by unfold bj;split<;>omega
  split
  .exact(h.add ⟨Iv _ c,a,Mn d⟩).put hi b (by simp;omega)
  .have:=Ao out (bz g l (bj g i))
   exact h.put hi b ⟨by omega,this⟩
theorem er.next {g:ak} {at_ i:Nat} {out:List ba} (h:er g at_ i out):er g (at_+1) 0 out:=
 ⟨h.bA,λj s a=>by
  have:=h.cG j s a
  exact⟨this.1,λe=>by have:=this.2.2 (by omega);simp[this],λe=>this.2.2 (by omega)⟩,h.to,h.sym⟩
theorem er.row {g:ak} {l:List aP} (a:cM l) (b:∀x∈l,cW g x) {at_:Nat} {out:List ba} (h:er g at_ 0 out):∀n:Nat,n<=40->er g at_ n ((List.range n).foldl (dG g l at_) out)/\out.length<=((List.range n).foldl (dG g l at_) out).length/\((List.range n).foldl (dG g l at_) out).length<=out.length+n
 | 0,_=>⟨h,abg _,abg _⟩
 | n+1,c=>by
  obtain⟨h1,d,e⟩:=er.row a b h n (by omega)
  rw[acD,acM]
  simp only[abY,adi]
  have:=TK g l at_ ((List.range n).foldl (dG g l at_) out) n
  exact⟨h1.step a b (by omega),by omega,by omega⟩
theorem mF {g:ak} : er g 0 0 eC:=by
 refine⟨λs a=>?_,λj s a=>?_,λs a e he=>?_,λs a e he=>?_⟩
 rotate_right
 .simp[eC] at a;subst a;simp at he
 .simp[eC] at a;subst a
  refine⟨by simp[cM],by simp,λx b=>?_⟩
  simp at b;subst b
  exact⟨⟨by simp,by simp only;omega⟩,by simp,by simp[bV]⟩
 .have:=abi a
  simp[eC] at this;subst this;simp
 .simp[eC] at a;subst a;simp at he
theorem er.nM {g:ak} (a:g.c5) {at_ i:Nat} {out:List ba} (h:er g at_ i out) {j:Nat} (b:j<out.length):cM (dx g (out.getD j cg).bA)/\∀x∈dx g (out.getD j cg).bA,cW g x:=by
 have hm:=abi (getD_some (d:=cg) b)
 exact⟨uX _ _,λx c=>((gQ a (h.bA _ hm).2.2).1 c).has (h.bA _ hm).2.2⟩
structure J6 (g:ak) (a:List ba):Prop where
 bA:∀s∈a,cM s.bA/\s.bA≠[]/\∀x∈s.bA,cW g x
 cG:∀s∈a,s.cG.length<=40
 to:∀s∈a,∀e∈s.cG,0<=e.to/\e.to<a.length
 sym:∀s∈a,∀e∈s.cG,-1000<=e.sym/\e.sym<=1000
theorem er.ok {g:ak} {at_ i:Nat} {out:List ba} (h:er g at_ i out):J6 g out:=
 ⟨h.bA,λs a=>by obtain⟨j,b,e⟩:=acL.1 a;exact(h.cG j s (by rw[aa8 b,e])).1,h.to,h.sym⟩
theorem KV {g:ak} (b:g.c5):∀(f at_:Nat) (out:List ba),er g at_ 0 out->1<=out.length->out.length<=300->(fS g f at_ out).2=0->J6 g (fS g f at_ out).1/\1<=(fS g f at_ out).1.length/\(fS g f at_ out).1.length<=300
 | 0,_,out,h,h1,c,_=>⟨h.ok,h1,c⟩
 | f+1,at_,out,h,h1,c,a=>by
  rw[fS] at a ⊢
  split
  .rename_i d
   rw[abb d] at a
   have hr:=er.row (h.nM b d).1 (h.nM b d).2 h (g.ax.length+g.av.length) (by have:=b.ax;have:=b.av;omega)
   rw[show (List.range (g.ax.length+g.av.length)).foldl (dG g (dx g (out.getD at_ cg).bA) at_) out=Cy g at_ out (g.ax.length+g.av.length) from rfl] at hr
   split
   .rename_i e;rw[abb e] at a;simp at a
   .rename_i e
    rw[aa9 e] at a
    exact KV b f (at_+1) _ hr.1.next (by omega) (by omega) a
  .exact⟨h.ok,h1,c⟩
theorem Wd {g:ak} (a:g.c5) (h:(cD g).2=0):J6 g (cD g).1/\1<=(cD g).1.length/\(cD g).1.length<=300:=by
 unfold cD at h ⊢
 split
 .rename_i hr
  rw[abb hr] at h
  exact KV a 302 0 eC mF (by simp[eC]) (by simp[eC]) h
 .rename_i hr
  rw[aa9 hr] at h
  simp at h
def k5 (l:List fW):List (List V):=l.map lY
def nq (s:ba):List V:=[.aY (bh s.bA),.aY (k5 s.cG)]
def cq (a:List ba):V:=.aY (a.map nq)
theorem Yf (l:List fW):Tree (.aY (k5 l)):=eA _ _ λx _ v a=>by simp[lY] at a;rcases a with rfl | rfl<;>exact .val _
theorem QA (s:ba):∀v∈nq s,Tree v:=by
 intro v a;simp[nq] at a
 rcases a with rfl | rfl
 .exact HQ _
 .exact Yf _
theorem nR (a:List ba):Tree (cq a):=eA _ _ λx _=>QA x
abbrev rB:=V × V × ba
def fM (A:List rB):List (List V):=A.map λx=>[x.1,x.2.1]
def nE (A:List rB):List ez:=A.flatMap λx=>[(x.1,2,bh x.2.2.bA),(x.2.1,2,k5 x.2.2.cG)]
theorem dz (A:List rB):(fM A).length=A.length:=by simp[fM]
theorem pb {A:List rB} {x:rB} (a:x∈A):(x.1,2,bh x.2.2.bA)∈nE A/\(x.2.1,2,k5 x.2.2.cG)∈nE A:=by
 constructor<;>exact ac2.2 ⟨x,a,by simp⟩
theorem Hj {h:Heap} {u:V} {A:List rB} (f:aN h.view u 2 (fM A)) (g:∀x∈A,aN h.view x.1 2 (bh x.2.2.bA)/\aN h.view x.2.1 2 (k5 x.2.2.cG)):dF h u (cq (A.map λx=>x.2.2)):=by
 have c:∀i (hi:i<A.length),(fM A).getD i []=[(A[i]).1,(A[i]).2.1]/\(((A.map λx=>x.2.2).map nq).getD i [])=nq (A[i]).2.2:=λi hi=>by
  simp[fM,hi]
 refine dF.own f (by simp[fM]) (λi hi=>?_) (λi j hi b=>?_)
 .have a:i<A.length:=by simpa [fM] using hi
  rw[(c i a).1,(c i a).2];rfl
 .have a:i<A.length:=by simpa [fM] using hi
  rw[(c i a).2] at b ⊢
  rw[(c i a).1]
  have d:=g _ (abe a)
  generalize A[i]'a=y at d b
  obtain⟨h1,k⟩:=d
  match j,b with
  | 0,_ =>
   refine dF.own h1 rfl (λi _=>rfl) (λi j hi b=>?_)
   rw[bT] at hi
   have e:(bh y.2.2.bA).getD i []=bM y.2.2.bA[i]:=by simp[bh,hi]
   rw[e] at b ⊢
   match j,b with
   | 0,_=>exact .val _
   | 1,_=>exact .val _
  | 1,_ =>
   refine dF.own k rfl (λi _=>rfl) (λi j hi b=>?_)
   simp only[k5,abc] at hi
   have e:(k5 y.2.2.cG).getD i []=lY y.2.2.cG[i]:=by simp[k5,hi]
   rw[e] at b ⊢
   match j,b with
   | 0,_=>exact .val _
   | 1,_=>exact .val _
  | n+2,b=>exact absurd b (by simp[nq])
def qn:SC:=
 ai [ai [ag [af 6 5,af 7 0,aM 8 7,aS 9 .lss 6 8],bO 9 (.exit 0)],.block 1 (ai [ag [af 12 0,af 13 5,aL 14 2 12 13,aw 15 0 14,au 16 15,af 17 1,aU 18 135 [16,17]],aX 18 (ai [ag [af 19 5,af 4 19],.ret])]),ag [af 10 5,aI 11 .add 10 1,af 5 11]]
def tu:SF:=⟨ai [ag [aT 4 0],ai [ag [aT 5 0],bR 0 qn],ag [aT 4 (-1)],.ret],
 [.tmp 4],20⟩
theorem yp:aJ aa 72 []=some tu:=by kernel_rfl
def pI:SC:=
 ai [ai [ag [af 31 7,aw 32 0 1,au 33 32,aM 34 33,aw 35 1 1,au 36 35,aM 37 36,aS 38 .add 34 37,aS 39 .lss 31 38],bO 39 (.exit 2)],.block 3 (ai [ag [aV 42 4 1,af 43 7,aU 44 70 [42,43],af 8 44],ag [aV 45 4 1,af 46 6,af 47 8,aU 48 71 [45,46,47],af 9 48],ai [ag [af 49 9,aM 50 49,aI 51 .eql 50 0],aX 51 (.exit 3)],ag [af 52 4,af 53 9,aU 54 72 [52,53],af 10 54],ai [ag [af 55 10,aI 56 .lss 55 0],aX 56 (ai [ag [af 57 4,aM 58 57,af 10 58],ag [af 59 4,af 60 9,((some 61),.op (.build [(.emp 1),(.emp 1)] [(0,1,(.tmp 60))])),((some 62),.op (.bH 1 2 [(.emp 1),(.emp 1)] [(0,(.tmp 61))])),eZ 63 2 48 59 62,af 4 63]])],ag [af 64 4,af 65 5,af 66 4,af 67 5,aL 68 2 66 67,aw 69 1 68,au 70 69,af 71 8,af 72 10,((some 73),.op (.build [(.val (.int .i64 0)),(.val (.int .i64 0))] [(0,1,(.tmp 71)),(1,1,(.tmp 72))])),((some 74),.op (.bH 1 2 [(.val (.int .i64 0)),(.val (.int .i64 0))] [(0,(.tmp 73))])),eZ 75 2 16 70 74,aL 76 2 64 65,aw 77 1 76,cz 1 77 75]]),ag [af 40 7,aI 41 .add 40 1,af 7 41]]
def pk:SC:=
 ai [ai [ag [af 18 5,af 19 4,aM 20 19,aS 21 .lss 18 20],bO 21 (.exit 0)],.block 1 (ai [ag [aV 24 4 1,af 25 4,af 26 5,aL 27 2 25 26,aw 28 0 27,au 29 28,aU 30 69 [24,29],af 6 30],ai [ag [aT 7 0],bR 2 pI],ag [af 78 4,aM 79 78,aI 80 .gtr 79 300],aX 80 (ai [ag [bL 2 1,aT 3 5],.ret])]),ag [af 22 5,aI 23 .add 22 1,af 5 23]]
def rl:SF:=⟨ai [ag [bZ 1 0,bL 2 1,aT 3 0],ai [ag [aV 11 4 1,aU 12 15 [11],cO 13 12],aX 13 (ai [ag [bL 2 1,aT 3 1],.ret])],ag [((some 14),.op (.build [(.val (.int .i64 0)),(.val (.int .i64 0))] [(0,1,(.val (.val (.int .i64 (-1)))))])),((some 15),.op (.bH 1 2 [(.val (.int .i64 0)),(.val (.int .i64 0))] [(0,(.tmp 14))])),((some 16),.op (.build [(.emp 1),(.emp 1)] [(0,1,(.tmp 15))])),((some 17),.op (.bH 1 2 [(.emp 1),(.emp 1)] [(0,(.tmp 16))])),af 4 17],ai [ag [aT 5 0],bR 0 pk],ag [af 81 4,af 2 81,aT 3 0],.ret],
 [.tmp 2,.tmp 3],82⟩
theorem xH:aJ aa 32 [1]=some rl:=by kernel_rfl
theorem QO:∀(a:List ba) (k:List aP) (i:Nat),(∀j s,j<i->a[j]?=some s->s.bA≠k)->(∀s,a[i]?=some s->s.bA=k->findD a k=i)/\(i=a.length->findD a k = -1):=by
 intro a k i h
 refine⟨λs h1 c=>Mr a k i s h1 c h,λe=>?_⟩
 subst e
 refine Fs a k λs d=>?_
 obtain⟨j,b,e⟩:=acL.1 d
 exact h j s b (by rw[aa8 b,e])
theorem Ua (a:List ba) (g:aG a) (l:∀s∈a,aG s.bA) (k:List aP) (hk:aG k):aC aa 72 [cq a,.aY (bh k)] (gi (findD a k)):=by
 unfold aG at g
 refine aC.val (by
  intro v f;simp at f
  rcases f with rfl | rfl
  .exact nR _
  .exact HQ _) λH=>?_
 refine az.of mixed yp ?_
 simp(disch:=omega)only[↓wr,seval,wq,tu,cq]
 refine aW.up a.length (λi T H'=>(∀j s,j<i->a[j]?=some s->s.bA≠k)/\T 0=cq a/\T 1=.aY (bh k)/\T 5=gi i) ⟨λj s h=>by omega,rfl,rfl,rfl⟩ ?_
 rintro i n T H' m ⟨c,t0,t1,t5⟩
 obtain⟨f1,f2⟩:=QO a k i c
 simp(disch:=omega)only[↓wr,seval,wq,qn,t0,t5,cq]
 apply ao.dec<;>intro o
 .have d:a[i]?=some (a[i]'(by omega)):=aa8 (by omega)
  have hm:=l _ (abe (show i<a.length by omega))
  generalize a[i]'(by omega)=x at d hm
  simp(disch:=omega)only[↓wr,seval,wq,t0,t1,t5,cq,aba,d,nq]
  refine ay.pure (PT x.bA k hm hk) ?_
  simp(disch:=omega)only[↓wr,seval,wq]
  apply ao.split<;>intro e
  .simp(disch:=omega)only[↓wr,seval,wq,t5]
   rw[f1 x d (by simpa using e)]
  .simp(disch:=omega)only[↓wr,seval,wq,t5]
   refine aF m (by omega) ⟨λj s p b=>?_,t0,t1,rfl⟩
   rcases abH j i with h | h
   .exact c j s h b
   .have:j=i:=by omega
    subst this
    rw[d] at b;simp at b;subst b
    simpa using e
 .simp(disch:=omega)only[↓wr,seval,wq]
  rw[f2 (by omega)]
theorem Qq {g:ak} (a:g.c5) {s:ba} (h:cM s.bA/\s.bA≠[]/\∀x∈s.bA,cW g x):aG s.bA:=by
 have:=lk a h.1 h.2.2;unfold aG;omega
theorem cm.sts {H:View} {u:V} {A:List rB} {L:List ez} (h:bw H ((u,2,fM A)::L)) (a:∀x∈nE A,x∈L):cm H u (cq (A.map λx=>x.2.2)):=by
 rintro c rfl
 exact(Hj h.head λx b=>⟨h.1 _ (abx _ (a _ (pb b).1)),h.1 _ (abx _ (a _ (pb b).2))⟩).fr
theorem cm.lr {H:View} {u:V} {l:List aP} (h:aN H u 2 (bh l)):cm H u (.aY (bh l)):=
 cm.own h λe he v a=>by
  obtain⟨x,_,rfl⟩:=abt.1 he
  simp[bM] at a;rcases a with rfl | rfl<;>exact .val _
theorem lL {h:Heap} {u v:V} {e:Int} (h1:dF h u v):dF h (.bc [u,gi e]) (.bc [v,gi e]):=.bc _ _ rfl λi hi=>by
 match i,hi with
 | 0,_=>exact h1
 | 1,_=>exact .val _
theorem Ab {α:Type} {l:List α} {i:Nat} (h:i<l.length):∃a x b,l=a++x::b/\a.length=i/\l[i]?=some x:=
 ⟨l.take i,l[i],l.drop (i+1),by rw[<-abS h,ac8],by simp;omega,aa8 h⟩
theorem Fk {α:Type} (a:List α) (x:α) (b:List α) (f:α->α):(a++x::b).modify a.length f=a++f x::b:=by
 induction a with
 | nil=>rfl
 | cons y a c=>simp only[abN,abl,List.modify_succ_cons,c]
theorem Dj {g:ak} (h:isRed g=true):bu g=true:=by
 unfold isRed at h
 simp only[abh,ab9,abn] at h
 refine acN λa=>?_
 have h1:=h.1
 unfold iS at h1
 simp[a] at h1
theorem uV {g:ak} (h:isRed g=true):g.c5:=bF (Dj h)
theorem aak {α:Type} {a b c:α} {l:List α} : (a::b::c::l).Perm (c::b::a::l):=(List.Perm.swap _ _ _).trans (((List.Perm.swap _ _ _).cons _).trans (List.Perm.swap _ _ _))
theorem Y1 {α:Type} {e u p r:α} {S:List α} : (e::u::p::r::S).Perm (u::r::(S++[p,e])):=
 (List.Perm.swap _ _ _).trans (.cons _ (aak.trans (.cons _ (List.perm_append_comm (l₁:=[p,e]) (l₂:=S)))))
theorem Rp {α:Type} {u r k e:α} {b c:List α} : (u::r::(b++k::e::c)).Perm (e::u::r::(b++k::c)):=by
 have h:(b++k::e::c).Perm (e::(b++k::c)):=by
  have:=adj (a:=e) (l₁:=b++[k]) (l₂:=c)
  simpa using this
 exact(((h.cons r).cons u).trans ((List.Perm.swap _ _ _).cons u)).trans (List.Perm.swap _ _ _)
theorem C2 (A:List rB) (x:rB) (B:List rB):nE (A++x::B)=nE A++(x.1,2,bh x.2.2.bA)::(x.2.1,2,k5 x.2.2.cG)::nE B:=by simp[nE]
def aax (g:ak) (m:Nat) (T:Env) (H:View):Prop:=∃(at_:Nat) (u:V) (A:List rB) (out:List ba),m+at_=302/\out=A.map (λx=>x.2.2)/\bw H ((u,2,fM A)::nE A)/\er g at_ 0 out/\1<=out.length/\out.length<=300/\fS g m at_ out=cD g/\at_<=out.length /\
 T 1=.aR (aj g) 0/\T 4=u/\T 5=gi at_
theorem PI (g:ak) (hg:g.Ok):bX aa 32 [.agg (aj g)] (.bc [cq (cD g).1,gi (cD g).2]):=by
 refine bX.of (dy g) ?_
 have Y:=K8 g hg
 refine az.of mixed xH ?_
 simp only[aj,encS] at Y
 simp(disch:=omega)only[↓wr,seval,wq,rl,aj,encS]
 refine ay.pure Y ?_
 simp(disch:=omega)only[↓wr,seval,wq]
 apply ao.split<;>intro hr
 rotate_left
 .simp(disch:=omega)only[↓wr,seval,wq]
  intro h' _
  have e:cD g=([],1):=by unfold cD;rw[aa9 (by rw[hr];simp)]
  rw[e]
  exact lL (.emp _)
 have v:g.c5:=uV hr
 have e0:fS g 302 0 eC=cD g:=by unfold cD;rw[abb hr]
 have hT:=v.ax;have hN:=v.av
 simp(disch:=omega)only[↓wr,seval,wq]
 intro O q2 K
 have o0:bw (((View.set (λ_=>ct.dead) O (.arr 2 [[gi (-1),gi 0]])).set q2 (.arr 2 [[.sl O 0 1 2,.emp 1]]))) ((.sl q2 0 1 2,2,fM [(.sl O 0 1 2,.emp 1,⟨[⟨-1,0⟩],[]⟩)])::nE [(.sl O 0 1 2,.emp 1,⟨[⟨-1,0⟩],[]⟩)]):=
  (((bw.nil.emp (k:=1) (sz:=2)).new (n:=O) rfl 2 [[gi (-1),gi 0]]).new (by simpa [View.set] using K) 2 [[.sl O 0 1 2,.emp 1]])
 generalize (View.set (λ_=>ct.dead) O (.arr 2 [[gi (-1),gi 0]])).set q2 (.arr 2 [[.sl O 0 1 2,.emp 1]])=H0 at o0 ⊢
 refine aW.intro (aax g) 302 ⟨0,_,_,eC,rfl,rfl,o0,mF,abg _,by simp[eC],e0,by omega,rfl,rfl,rfl⟩ ?_
 clear o0 K
 rintro m T H ⟨at_,u,A,out,hm,rfl,j,hI,h1,P,Q,hle,t1,t4,t5⟩
 have w:cE u=some A.length:=by rw[j.head.len,dz]
 simp only[abc] at h1 P hle
 simp(disch:=omega)only[↓wr,seval,wq,pk,t4,t5,w]
 apply ao.dec<;>intro hc
 rotate_left
 .simp(disch:=omega)only[↓wr,seval,wq,t4]
  have e1:cD g=(A.map (λx=>x.2.2),0):=by
   rw[<-Q]
   cases m with
   | zero=>rfl
   | succ m=>rw[fS,aa9 (by simp;omega)]
  rw[e1]
  rintro h' rfl
  exact lL (Hj j.head λx L=>⟨j.1 _ (abx _ (pb L).1),j.1 _ (abx _ (pb L).2)⟩)
 obtain⟨m,rfl⟩:∃q,m=q+1:=⟨m-1,by omega⟩
 have z:at_<A.length:=by omega
 obtain⟨a,x,d,rfl,p,L⟩:=Ab z
 have U:x∈a++x::d:=by simp
 obtain⟨Z,b1,C⟩:=hI.bA x.2.2 (List.mem_map_of_mem U)
 have b2:=lk v Z C
 have hh:aN H u 2 (fM (a++x::d)):=j.head
 obtain⟨id,hu,M⟩:=hh.sl (by rw[dz];omega)
 have D:(fM (a++x::d)).getD at_ []=[x.1,x.2.1]:=by simp[fM,<-p]
 have ab:dx g ((List.map (λx=>x.2.2) (a++x::d)).getD at_ cg).bA=dx g x.2.2.bA:=by
  rw[aa7,aba,L];rfl
 have R:=λn hn=>er.row (hI.nM v (show at_<((a++x::d).map λx=>x.2.2).length by simpa using z)).1 (hI.nM v (show at_<((a++x::d).map λx=>x.2.2).length by simpa using z)).2 hI n hn
 rw[fS,abb (by simpa using z),Cy] at Q
 rw[ab] at Q R
 have ae:=uX g x.2.2.bA
 have al:∀y∈dx g x.2.2.bA,cW g y:=λy hy=>((gQ v C).1 hy).has C
 rw[dz] at hu
 simp(disch:=omega)only[↓wr,seval,wq,t1,t4,t5,hu,M,D,aj,encS]
 refine⟨by omega,by rw[dz];omega,?_⟩
 refine ay.cF ((Lx g v x.2.2.bA C (by omega) x.1 H (j.1 _ (abx _ (pb U).1))).mono ?_)
 rintro r H2 ⟨or,fr⟩
 have o2:=j.Hs or fr
 clear or fr M D ab L
 generalize dx g x.2.2.bA=cl at *
 generalize h:(a++x::d).map (λx=>x.2.2)=E at *
 have an:E.length=(a++x::d).length:=by rw[<-h];simp
 simp(disch:=omega)only[↓wr,seval,wq]
 refine aW.up (g.ax.length+g.av.length) (λi T H'=>∃(u:V) (A:List rB),A.map (λx=>x.2.2)=(List.range i).foldl (dG g cl at_) E/\bw H' ((r,2,bh cl)::(u,2,fM A)::nE A)/\T 1=.aR (aj g) 0/\T 4=u/\T 5=gi at_/\T 6=r/\T 7=gi i)
  ⟨u,_,h,o2,t1,by rw[<-hu];exact t4,t5,rfl,rfl⟩ ?_
 rw[<-an] at h1 P hle z
 clear o2 j hh hu t1 t4 t5 w h U an hc Z b1 C b2 p
 clear u H2 H T id a x d
 rintro i k T H' hk ⟨u,A,hA,j,t1,t4,t5,t6,t7⟩
 obtain⟨iI,aq,ar⟩:=R i (by omega)
 rw[<-hA] at iI aq ar
 rw[abc] at aq ar
 have w:cE u=some A.length:=by rw[j.tail.head.len,dz]
 have cb:=lk v ae al
 simp(disch:=omega)only[↓wr,seval,wq,pI,t1,t7,aj,encS]
 apply ao.dec<;>intro hc
 rotate_left
 .have hi:i=g.ax.length+g.av.length:=by omega
  subst hi
  rw[<-hA] at Q
  simp(disch:=omega)only[↓wr,seval,wq,t4,t5,w]
  apply ao.dec<;>intro h3
  .simp(disch:=omega)only[↓wr,seval,wq]
   intro h' _
   rw[abb (by rw[abc];omega)] at Q
   rw[<-Q]
   exact lL (.emp _)
  .simp(disch:=omega)only[↓wr,seval,wq,t4,t5]
   rw[aa9 (by rw[abc];omega)] at Q
   exact⟨m,by omega,at_+1,u,A,_,by omega,rfl,j.tail,iI.next,by rw[abc];omega,by rw[abc];omega,Q,by rw[abc];omega,t1,t4,rfl⟩
 have a1:i<g.ax.length+g.av.length:=by omega
 have S:=M7 g v i a1
 have cc:=FC v a1
 simp only[aj,encS] at S
 simp(disch:=omega)only[↓wr,seval,wq,t1,t7,aj,encS]
 refine ay.pure S ?_
 simp(disch:=omega)only[↓wr,seval,wq,t1,t6,aj,encS]
 refine ay.cF ((Qh g v cl ae al (bj g i) r H' j.head).mono ?_)
 rintro J H9 ⟨or,fr⟩
 have o9:=j.Hs or fr
 have cf:=vL (g:=g) (l:=cl) (s:=bj g i)
 have b3:cE J=some (bz g cl (bj g i)).length:=by rw[or.len,bT]
 have F:(List.range (i+1)).foldl (dG g cl at_) E=dG g cl at_ (A.map λx=>x.2.2) i:=by rw[acD,acM,<-hA];rfl
 simp(disch:=omega)only[↓wr,seval,wq,b3]
 apply ao.eq<;>intro he
 .have a6:bz g cl (bj g i)=[]:=acx.1 (by omega)
  simp(disch:=omega)only[↓wr,seval,wq,t4,t5,t7]
  exact aF hk (by omega) ⟨u,A,by rw[F,dG,abb a6],o9.tail,t1,t4,t5,t6,rfl⟩
 have a7:bz g cl (bj g i)≠[]:=λe=>he (by rw[e];rfl)
 simp(disch:=omega)only[↓wr,seval,wq,t4]
 have W:=Ua (A.map λx=>x.2.2) (by unfold aG;rw[abc];omega) (λs hs=>Qq v (iI.bA s hs)) (bz g cl (bj g i)) (by unfold aG;omega)
 refine ay.Av W (by kernel_rfl) (.val _) ⟨cm.sts o9.tail.tail (λx L=>L),cm.lr or,trivial⟩ ?_
 have b4:=Ao (A.map λx=>x.2.2) (bz g cl (bj g i))
 have ch:=zp (A.map λx=>x.2.2) (bz g cl (bj g i))
 rw[abc] at b4
 have a8:at_<A.length:=by omega
 simp(disch:=omega)only[↓wr,seval,wq]
 obtain⟨a,x,d,G,p,L⟩:=Ab a8
 have cj:x.2.2.cG.length<=40:=(iI.cG at_ x.2.2 (by rw[aba,L];rfl)).1
 have D:∀B,(fM (a++x::B)).getD at_ []=[x.1,x.2.1]:=λB=>by simp[fM,<-p]
 have bd:∀(B:List rB) (c:fW),((a++x::B).map λx=>x.2.2).modify at_ (λs=>(⟨s.bA,s.cG++[c]⟩:ba))=(a++(x.1,x.2.1,(⟨x.2.2.bA,x.2.2.cG++[c]⟩:ba))::B).map λx=>x.2.2:=λB c=>by
  rw[abA,abE,<-p,<-abc (f:=λx:rB=>x.2.2),Fk,abA,abE]
 apply ao.dec<;>intro I
 simp(disch:=omega)only[↓wr,seval,wq,t4,w,or.cells,or.eL]
 intro q hq
 simp(disch:=omega)only[↓wr,seval,wq,bD]
 have b5:=(o9.fresh (o:=.arr 2 [[J,.emp 1]]) hq).at 2 (by simp)
 refine dC b5 (by simp[or.eL,C9]) (by unfold aE;rw[dz];simp;omega) (by unfold aE;rw[dz];simp;omega) ?_
 intro u2 X bl _
 simp only[ack,acm] at bl
 have b7:=(bl.emp (k:=1) (sz:=2)).perm Y1
 have t:dG g cl at_ (A.map λx=>x.2.2) i=((a++x::(d++[(J,.emp 1,(⟨bz g cl (bj g i),[]⟩:ba))])).map λx=>x.2.2).modify at_ (λs=>(⟨s.bA,s.cG++[⟨bj g i,(A.length:Int)⟩]⟩:ba)):=by
  rw[dG,aa9 a7,abb I,abc]
  congr 1
  rw[G];simp
 have b:bw X ((u2,2,fM (a++x::(d++[(J,.emp 1,(⟨bz g cl (bj g i),[]⟩:ba))])))::(r,2,bh cl)::nE (a++x::(d++[(J,.emp 1,(⟨bz g cl (bj g i),[]⟩:ba))]))):=by
  have e1:fM (a++x::(d++[(J,.emp 1,(⟨bz g cl (bj g i),[]⟩:ba))]))=fM A++[[J,.emp 1]]:=by rw[G];simp[fM]
  have e2:nE (a++x::(d++[(J,.emp 1,(⟨bz g cl (bj g i),[]⟩:ba))]))=nE A++[(J,2,bh (bz g cl (bj g i))),(.emp 1,2,[])]:=by rw[G];simp[nE];rfl
  rw[e1,e2]
  exact b7
 generalize (d++[(J,V.emp 1,(⟨bz g cl (bj g i),[]⟩:ba))])=B at t b
 generalize (A.length:Int)=to at t ⊢
 rotate_left
 have t:dG g cl at_ (A.map λx=>x.2.2) i=((a++x::d).map λx=>x.2.2).modify at_ (λs=>(⟨s.bA,s.cG++[⟨bj g i,findD (A.map λx=>x.2.2) (bz g cl (bj g i))⟩]⟩:ba)):=by
  rw[dG,aa9 a7,aa9 I,<-G]
 have b:=o9.tail.perm (.swap _ _ _)
 clear or fr
 generalize H9=X at o9 b ⊢
 obtain⟨u2,b8⟩:∃y,y=u:=⟨_,rfl⟩
 rw[<-b8] at b t4
 rw[G] at b
 generalize findD (A.map λx=>x.2.2) (bz g cl (bj g i))=to at t ⊢
 generalize d=B at t b
 all_goals (
  obtain⟨id,hu,M⟩:=(show aN X u2 2 (fM (a++x::B)) from b.head).sl (by rw[dz];simp;omega)
  rw[dz] at hu
  rw[C2] at b
  simp(disch:=omega)only[↓wr,seval,wq,t4,t5,hu,M,D B]
  refine⟨by simp;omega,by rw[dz];simp;omega,?_⟩
  intro q2 K
  simp(disch:=omega)only[↓wr,seval,wq,bD]
  refine dC ((b.perm Rp).fresh K) (by simp[aK]) (by unfold aE;simp[k5];omega) (by unfold aE;simp[k5];omega) ?_
  intro e2 b9 N _
  have bn:b9 id=.arr 2 (fM (a++x::B)):=((N.own 1 rfl).live (by rw[hu];rfl)).1
  simp(disch:=omega)only[↓wr,seval,wq,t4,t5,t7,hu,bn,D B,N.head.cells,N.head.eL]
  have br:(fM (a++x::B)).set at_ [x.1,e2]=fM (a++(x.1,e2,(⟨x.2.2.bA,x.2.2.cG++[⟨bj g i,to⟩]⟩:ba))::B):=by
   rw[<-p];simp[fM]
  have ca:k5 (x.2.2.cG++[⟨bj g i,to⟩])=k5 x.2.2.cG++[[gi (bj g i),gi to]]:=by simp[k5,lY]
  have bs:=N.perm (.swap _ _ _)
  rw[hu] at bs
  have bx:=((bs.put (es':=fM (a++(x.1,e2,(⟨x.2.2.bA,x.2.2.cG++[⟨bj g i,to⟩]⟩:ba))::B)) (by rw[dz,dz];simp) (by rw[dz])).perm (.swap _ _ _)).perm Rp.symm
  rw[<-ca] at bx
  have b0:=bx.perm (.swap _ _ _)
  rw[<-hu] at b0
  rw[br]
  refine⟨by simp;omega,by rw[dz];simp;omega,aF hk (by omega) ⟨u2,_,?_,by rw[C2];exact b0,t1,by first | rfl | exact t4 | exact hu.symm,t5,t6,rfl⟩⟩
  rw[F,t,bd];simp)
def uv:SF:=⟨ai [ag [bZ 2 0,bZ 3 1,bb 4 false],.region true [⟨none,[aV 5 4 2,aU 6 50 [5],af 7 6]⟩,⟨(some (7,true)),[aw 8 0 3,au 9 8,aI 10 .geq 9 (-1)]⟩,⟨none,[dA 11 7 10,af 12 11]⟩,⟨(some (12,true)),[aw 13 0 3,au 14 13,aw 15 2 2,au 16 15,aM 17 16,aS 18 .lss 14 17]⟩,⟨none,[dA 19 12 18,af 20 19]⟩,⟨(some (20,true)),[aw 21 1 3,au 22 21,aI 23 .geq 22 0]⟩,⟨none,[dA 24 20 23,af 25 24]⟩,⟨(some (25,true)),[aw 26 1 3,au 27 26,aV 28 4 2,aw 29 0 3,au 30 29,aU 31 199 [28,30],aM 32 31,aS 33 .leq 27 32]⟩,⟨none,[dA 34 25 33,af 4 34]⟩],.ret],
 [.tmp 4],35⟩
theorem zS:aJ aa 166 [2,3]=some uv:=by kernel_rfl
def ua:SF:=⟨ai [ag [bZ 2 0,bZ 3 1,aT 4 0,bb 5 false],ai [ag [aV 6 4 2,aV 7 2 3,aU 8 166 [6,7],cO 9 8],aX 9 (ai [ag [aT 4 0,bb 5 false],.ret])],ag [aV 10 4 2,aV 11 2 3,aU 12 134 [10,11],c7 13 0 12,c7 14 1 12,af 4 13,af 5 14],.ret],
 [.tmp 4,.tmp 5],15⟩
theorem y0:aJ aa 100 [2,3]=some ua:=by kernel_rfl
def lx:SC:=
 ai [ai [.region false [⟨none,[af 26 11,af 27 0,af 28 1,aL 29 2 27 28,aw 30 1 29,au 31 30,aM 32 31,aS 33 .lss 26 32,af 34 33]⟩,⟨(some (34,true)),[af 35 10,cO 36 35]⟩,⟨none,[dA 37 34 36]⟩],bO 37 (.exit 2)],.block 3 (ai [ag [af 40 0,af 41 1,aL 42 2 40 41,aw 43 1 42,au 44 43,af 45 11,aL 46 2 44 45,aw 47 0 46,au 48 47,af 49 2,af 50 8,aL 51 1 49 50,au 52 51,aS 53 .eql 48 52],aX 53 (ag [af 54 0,af 55 1,aL 56 2 54 55,aw 57 1 56,au 58 57,af 59 11,aL 60 2 58 59,aw 61 1 60,au 62 61,af 9 62,bb 10 true])]),ag [af 38 11,aI 39 .add 38 1,af 11 39]]
def pS:SC:=
 ai [ai [ag [af 20 8,af 21 2,aM 22 21,aS 23 .lss 20 22],bO 23 (.exit 0)],.block 1 (ai [ag [aT 9 (-1),bb 10 false],ai [ag [aT 11 0],bR 2 lx],ai [.region false [⟨none,[af 63 9,aI 64 .lss 63 0,af 65 64]⟩,⟨(some (65,false)),[af 66 9,af 67 0,aM 68 67,aS 69 .geq 66 68]⟩,⟨none,[cJ 70 65 69]⟩],aX 70 (ai [ag [aT 6 0,bb 7 false],.ret])],ag [af 71 9,af 1 71]]),ag [af 24 8,aI 25 .add 24 1,af 8 25]]
def tf:SF:=⟨ai [ag [aT 6 0,bb 7 false],ai [.region false [⟨none,[af 12 1,aI 13 .lss 12 0,af 14 13]⟩,⟨(some (14,false)),[af 15 1,af 16 0,aM 17 16,aS 18 .geq 15 17]⟩,⟨none,[cJ 19 14 18]⟩],aX 19 (ai [ag [aT 6 0,bb 7 false],.ret])],ai [ag [aT 8 0],bR 0 pS],ag [af 72 1,af 6 72,bb 7 true],.ret],
 [.tmp 6,.tmp 7],73⟩
theorem yB:aJ aa 33 []=some tf:=by kernel_rfl
instance (g:ak) (x:aP):Decidable (cW g x):=by unfold cW;infer_instance
def sR (g:ak) (x:aP):Bool:=bu g&&decide (cW g x)
theorem NB (g:ak) (x:aP):∀v∈[V.agg (aj g),.agg (bM x)],Tree v:=by
 intro v a;simp at a
 rcases a with rfl | rfl
 .exact bW _ (cy g)
 .exact bW _ λv a=>by simp[bM] at a;rcases a with rfl | rfl<;>exact .val _
theorem WJ (g:ak) (f:g.Ok) (x:aP) (i:bm x.aB/\bm x.dot):aC aa 166 [.agg (aj g),.agg (bM x)] (gb (sR g x)):=by
 refine aC.val (NB g x) λH=>?_
 have a:=jV g f
 obtain⟨c,d⟩:=i
 unfold bm at c d
 refine az.of mixed zS ?_
 simp only[aj,encS] at a
 simp(disch:=omega)only[↓wr,seval,wq,uv,aj,encS,bM]
 refine ay.pure a ?_
 have bad:¬ cW g x->gb false=gb (sR g x):=λh=>by unfold sR;rw[decide_eq_false h,acK]
 simp(disch:=omega)only[↓wr,seval,wq]
 apply ao.split<;>intro hr
 rotate_left
 .simp(disch:=omega)only[↓wr,seval,wq]
  unfold sR;rw[hr];rfl
 have e:=bF hr
 simp(disch:=omega)only[↓wr,seval,wq]
 apply ao.dec<;>intro h1
 rotate_left
 .simp(disch:=omega)only[↓wr,seval,wq]
  exact bad λh=>by have:=h.1;omega
 simp(disch:=omega)only[↓wr,seval,wq]
 apply ao.dec<;>intro j
 rotate_left
 .simp(disch:=omega)only[↓wr,seval,wq]
  exact bad λh=>by have:=h.1;omega
 simp(disch:=omega)only[↓wr,seval,wq]
 apply ao.dec<;>intro k
 rotate_left
 .simp(disch:=omega)only[↓wr,seval,wq]
  exact bad λh=>by have:=h.2;omega
 have b:=Gh g (j8 e) x.aB ⟨by omega,by omega⟩
 have l:=ed e (r:=x.aB) ⟨by omega,by omega⟩
 simp only[aj,encS,encI] at b
 simp(disch:=omega)only[↓wr,seval,wq]
 refine ay.pure b ?_
 simp(disch:=omega)only[↓wr,seval,wq]
 congr 2
 unfold sR
 rw[hr,abQ]
 congr 1
 unfold cW
 simp only[eq_iff_iff]
 omega
def JX (g:ak) (x:aP):Int × Bool:=if sR g x=true then bI g x else (0,false)
theorem GI {g:ak} {x:aP} : sR g x=true↔bu g=true/\cW g x:=by simp[sR]
theorem Sb (g:ak) (c:g.Ok) (x:aP) (d:bm x.aB/\bm x.dot):aC aa 100 [.agg (aj g),.agg (bM x)] (.bc [gi (JX g x).1,gb (JX g x).2]):=by
 have a:=WJ g c x d
 refine aC.tree (NB g x) (tP (.val _) (.val _)) λH=>?_
 refine az.of mixed y0 ?_
 simp only[aj,encS,bM] at a
 simp(disch:=omega)only[↓wr,seval,wq,ua,aj,encS,bM]
 refine ay.pure a ?_
 unfold JX
 simp(disch:=omega)only[↓wr,seval,wq]
 apply ao.split<;>intro h
 .obtain⟨h1,e⟩:=GI.1 h
  have b:=Eo g (bF h1) x e
  simp only[aj,encS,bM] at b
  simp(disch:=omega)only[↓wr,seval,wq]
  refine ay.pure b ?_
  simp(disch:=omega)only[↓wr,seval,wq]
  rw[abb h]
 .simp(disch:=omega)only[↓wr,seval,wq]
  rw[h];simp
theorem QJ:∀(l:List fW) (s:Int) (k:Nat) (e:fW),l[k]?=some e->iy (l.drop k) s=if e.sym=s then e.to else iy (l.drop (k+1)) s:=by
 intro l s k e h
 obtain⟨hk,he⟩:=abf.1 h
 rw[abS hk,he,iy]
theorem TS (a:List ba) (u:aG a) (he:∀s∈a,aG s.cG/\∀e∈s.cG,bm e.sym/\bm e.to) (fr:Int) (syms:List Int) (w:aG syms):aC aa 33 [cq a,gi fr,encI syms] (.bc [gi (oF a fr syms).1,gb (oF a fr syms).2]):=by
 unfold aG at u w
 refine aC.tree (by
  intro v q;simp at q
  rcases q with rfl | rfl | rfl
  .exact nR _
  .exact .val _
  .exact bg _) (tP (.val _) (.val _)) λH=>?_
 refine az.of mixed yB ?_
 unfold oF
 simp(disch:=omega)only[↓wr,seval,wq,tf,cq,encI]
 apply ao.dec<;>intro h1
 .simp(disch:=omega)only[↓wr,seval,wq]
  rw[abb (by omega)]
 simp(disch:=omega)only[↓wr,seval,wq]
 apply ao.dec<;>intro y
 .simp(disch:=omega)only[↓wr,seval,wq]
  rw[abb (by omega)]
 rw[aa9 (by omega)]
 simp(disch:=omega)only[↓wr,seval,wq]
 refine aW.up syms.length (λi T H'=>∃at_:Int,0<=at_/\at_<a.length/\jU a at_ (syms.drop i)=jU a fr syms/\T 0=cq a/\T 1=gi at_/\T 2=encI syms/\T 8=gi i) ⟨fr,by omega,by omega,rfl,rfl,rfl,rfl,rfl⟩ ?_
 rintro i k T H' hk ⟨at_,C,D,hw,t0,t1,t2,t8⟩
 simp(disch:=omega)only[↓wr,seval,wq,pS,t2,t8,encI]
 apply ao.dec<;>intro z
 .have r:syms[i]?=some (syms[i]'(by omega)):=aa8 (by omega)
  rw[abS (show i<syms.length by omega)] at hw
  generalize syms[i]'(by omega)=x at r hw
  have d:a[at_.toNat]?=some (a.getD at_.toNat cg):=getD_some (by omega)
  obtain⟨f,l⟩:=he _ (abi d)
  rw[jU] at hw
  generalize a.getD at_.toNat cg=S at d f l hw
  unfold aG at f
  simp(disch:=omega)only[↓wr,seval,wq]
  refine aW.up S.cG.length (λj T H'=>∃(to:Int) (ok:Bool),(ok=true->to=iy S.cG x)/\(ok=false->to = -1/\iy (S.cG.drop j) x=iy S.cG x)/\T 0=cq a/\T 1=gi at_/\T 2=encI syms/\T 8=gi i/\T 9=gi to/\T 10=gb ok/\T 11=gi j)
   ⟨-1,false,by simp,λ_=>⟨rfl,rfl⟩,t0,t1,t2,t8,rfl,rfl,rfl⟩ ?_
  clear t0 t1 t2 t8
  rintro j k2 F G g ⟨to,ok,A,B,t0,t1,t2,t8,t9,t10,t11⟩
  cases ok with
  | true =>
   have b:=A rfl
   simp(disch:=omega)only[↓wr,seval,wq,lx,t0,t1,t11,cq,aba,d,nq,k5]
   apply ao.dec<;>intro _
   all_goals (
    simp(disch:=omega)only[↓wr,seval,wq,t1,t8,t9,t10,b]
    apply ao.dec<;>intro m
    .simp(disch:=omega)only[↓wr,seval,wq]
     rw[<-hw,aa9 (by omega)]
    .simp(disch:=omega)only[↓wr,seval,wq,t0,t9,cq,b]
     apply ao.dec<;>intro n
     .simp(disch:=omega)only[↓wr,seval,wq]
      rw[<-hw,aa9 (by omega)]
     .simp(disch:=omega)only[↓wr,seval,wq,t8,t9,b]
      rw[abb ⟨by omega,by omega⟩] at hw
      exact aF hk (by omega) ⟨_,by omega,by omega,hw,t0,rfl,t2,rfl⟩)
  | false =>
   obtain⟨t,c⟩:=B rfl
   simp(disch:=omega)only[↓wr,seval,wq,lx,t0,t1,t11,cq,aba,d,nq,k5]
   apply ao.dec<;>intro o
   .have h:S.cG[j]?=some (S.cG[j]'(by omega)):=aa8 (by omega)
    generalize S.cG[j]'(by omega)=E at h
    rw[QJ _ _ _ _ h] at c
    simp(disch:=omega)only[↓wr,seval,wq,t0,t1,t2,t8,t10,t11,cq,encI,aba,d,r,nq,k5,h,lY]
    apply ao.eq<;>intro p
    .rw[abb p] at c
     simp(disch:=omega)only[↓wr,seval,wq,t0,t1,t8,t11,cq,aba,d,nq,k5,h,lY]
     exact aF g (by omega) ⟨E.to,true,λ_=>c,by simp,t0,t1,t2,t8,rfl,rfl,rfl⟩
    .rw[aa9 p] at c
     simp(disch:=omega)only[↓wr,seval,wq,t1,t8,t9,t11]
     exact aF g (by omega) ⟨to,false,by simp,λ_=>⟨t,c⟩,t0,t1,t2,t8,t9,t10,rfl⟩
   .rw[aby (by omega),iy,<-t] at c
    have b:=c
    simp(disch:=omega)only[↓wr,seval,wq,t1,t8,t9,b]
    apply ao.dec<;>intro m
    .simp(disch:=omega)only[↓wr,seval,wq]
     rw[<-hw,aa9 (by omega)]
    .simp(disch:=omega)only[↓wr,seval,wq,t0,t9,cq,b]
     apply ao.dec<;>intro n
     .simp(disch:=omega)only[↓wr,seval,wq]
      rw[<-hw,aa9 (by omega)]
     .simp(disch:=omega)only[↓wr,seval,wq,t8,t9,b]
      rw[abb ⟨by omega,by omega⟩] at hw
      exact aF hk (by omega) ⟨_,by omega,by omega,hw,t0,rfl,t2,rfl⟩
 .simp(disch:=omega)only[↓wr,seval,wq,t1]
  rw[aby (by omega),jU] at hw
  rw[<-hw]
end
end Gv
