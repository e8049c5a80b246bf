/-
  Part 12 of the proof: what the machine does and what the functions answer.
  Conditions: those that each lemma names.
-/
import Derived.Test.YtiophifnkakjgaaGreatSGzB8K
set_option linter.unusedSimpArgs false
set_option linter.unusedVariables false
set_option maxRecDepth 100000
set_option maxHeartbeats 20000000
namespace Gv
open Go Go.Proofs
def Ag (x:List Int × Int):V:=.aY [encI x.1,gi x.2]
theorem jX {h:aC} {u:V} {x:List Int × Int} (hu:dz h u (encI x.1)):dz h (.aY [u,gi x.2]) (Ag x):=FA hu (.val _)
theorem rZ {g:ag} {l:List Int} (h:gE (ao g) l):Ba (ao g) g.aj.length l:=λx a b=>⟨h x a b,(kc (h x a b)).2⟩
theorem N4 {g:ag} {l:List Int} (h:gE (ao g) l) (a:(bF (ao g) l aZ).1.rules<=300):((eF g (ao g) g.aj.length l).length:Int)=(bF (ao g) l aZ).1.rules:=by
 have:=(nD g g.aj.length l aZ (rZ h) fZ).1
 simp only[aZ] at this a ⊢
 omega
theorem EV {g:ag} {l:List Int} (h:gE (ao g) l) (a:(bF (ao g) l aZ).1.au<=60):((dF g (ao g) g.aj.length l).length:Int)=(bF (ao g) l aZ).1.au:=by
 have:=(nD g g.aj.length l aZ (rZ h) fZ).2
 simp only[aZ] at this a ⊢
 omega
def og:SC :=
 ae [ae [ab [aa 15 8,aa 16 1,aM 17 16,aR 18 .lss 15 17],bX 18 (.exit 0)],.block 1 (ae [ae [ab [aS 21 4 2,aa 22 1,aa 23 8,aO 24 1 22 23,ak 25 24,aX 26 74 [21,25],c7 27 26],ba 27 (ae [ab [bI 4 1,aN 5 1],.ret])],.region false [⟨none,[aa 28 7,aa 29 28]⟩,⟨(some (29,false)),[aa 30 1,aa 31 8,aO 32 1 30 31,ak 33 32,aG 34 .lss 33 0,aa 35 34]⟩,⟨(some (35,true)),[aa 36 6,aa 37 1,aa 38 8,aO 39 1 37 38,ak 40 39,((some 41),.op (.arith .sub (.val (.val (.int .i64 (-1)))) (.tmp 40))),aO 42 1 36 41,ak 43 42,aG 44 .lss 43 0]⟩,⟨(some (29,false)),[eu 45 35 44]⟩,⟨none,[cM 46 29 45,aa 7 46]⟩]]),ab [aa 19 8,aG 20 .add 19 1,aa 8 20]]
def qh:SF:=⟨ae [ab [cw 2 0,bI 4 1,aN 5 0],ae [ab [aS 10 4 2,aX 11 50 [10],c7 12 11],ba 12 (ae [ab [bI 4 1,aN 5 1],.ret])],ab [aS 13 4 2,aX 14 73 [13],aa 6 14],ab [bq 7 false],ae [ab [aN 8 0],bY 0 og],ae [ab [aa 47 7],ba 47 (ae [ab [bI 4 1,aN 5 9],.ret])],ab [aa 48 1,aS 49 4 2,aX 50 76 [49],aX 51 75 [48,50],((some 9),.op (.alloc [(.val (.int .i64 0)),(.val (.int .i64 0))])),cg 2 9 51],ae [.region false [⟨none,[al 52 0 9,ak 53 52,aG 54 .gtr 53 300,aa 55 54]⟩,⟨(some (55,false)),[al 56 1 9,ak 57 56,aG 58 .gtr 57 60]⟩,⟨none,[cM 59 55 58]⟩],ba 59 (ae [ab [bI 4 1,aN 5 13],.ret])],ab [aS 60 4 2,aa 61 1,aa 62 6,aX 63 77 [60,61,62],aa 4 63,aN 5 0],.ret],
 [.tmp 4,.tmp 5],64⟩
theorem vh:aH Tryz.prog 34 [2]=some qh:=by kernel_rfl
def lV (P:List bm) (l:List Int):Bool:=l.any λx=>decide (x < 0) && decide ((bk P (bT x)).ax < 0)
theorem KW (P:List bm) (l:List Int) (s:bm):(bF P l s).2 = !lV P l:=by
 have h:=gL P l s
 cases a:lV P l with
 | true =>
  simp only[lV,VV,UJ,UN] at a
  obtain⟨x,b,c,hk⟩:=a
  cases d:(bF P l s).2 with
  | true=>have:=h.1 d x b c;unfold bz at this;omega
  | false=>rfl
 | false =>
  rw[Bool.not_false,h]
  intro x b c
  simp only[lV,List.any_eq_false,UJ,UN] at a
  have:=a x b
  unfold bz;omega
theorem D0 (g:ag) (D:g.Ok) (l:List Int) (W:l.length<=1000000) (L:∀ x∈l,bO x):b6 Tryz.prog 34 [.agg (af g),encI l] (Ag (dw g l)):=by
 have A:aL l:=by unfold aL;omega
 refine b6.of (by
  intro v E;simp at E
  rcases E with rfl | rfl
  .exact bZ _ (cz g)
  .exact bQ l) ?_
 refine av.of mixed vh ?_
 simp(disch:=omega)only[↓wr,seval,wq,qh,af,encS]
 refine aw.pure (lB g D) ?_
 have bad:∀ p:aC,(bV g && l.all (dI g))=false->dz p (.aY [.emp 1,gi 1]) (Ag (dw g l)):=λp e=>by
  unfold dw;rw[Ux (by rw[e];simp)];exact jX (x:=([],1)) (.emp _)
 repeat' (first | ((first|apply ai.dec|apply ai.eq|apply ai.ne|apply ai.split)<;>intro)|(simp(disch:=omega)only[↓wr,seval,wq,af,encS]))
 .rename_i hr
  have F:=b4 hr
  have X:=F.lp
  have z2:=F.aj
  have z3:=F.rules
  have M:=A3 g D
  rw[Uz hr] at M
  refine aw.pure M.pure ?_
  simp(disch:=omega)only[↓wr,seval,wq,encI]
  refine aV.up l.length (λi T H'=>(l.take i).all (dI g)=true/\T 1=encI l/\T 2=.aJ (af g) 0/\T 6=encI (gQ g)/\T 7=gb (lV (ao g) (l.take i))/\T 8=gi i) ⟨rfl,rfl,rfl,rfl,rfl,rfl⟩ ?_
  rintro i k T H hk ⟨b,t1,t2,t6,t7,t8⟩
  simp(disch:=omega)only[↓wr,seval,wq,og,t1,t2,t6,t7,t8,encI]
  apply ai.dec<;>intro O
  .have a:l[i]?=some (l[i]'(by omega)):=Uv (by omega)
   have d:l[i]'(by omega)∈l:=UC _
   have u:l.take (i+1)=l.take i ++ [l[i]'(by omega)]:=by rw[UW,a];rfl
   generalize l[i]'(by omega)=x at a d u
   have r:=L x d
   have G:=r
   unfold bO at G
   simp(disch:=omega)only[↓wr,seval,wq,t1,t2,t6,t7,t8,encI,af,encS,Uy,a]
   refine aw.pure (Oi g x r) ?_
   have f:lV (ao g) (l.take (i+1))=(lV (ao g) (l.take i) || (decide (x < 0) && decide ((bk (ao g) (bT x)).ax < 0))):=by
    rw[u];simp[lV]
   have q:(l.take (i+1)).all (dI g)=dI g x:=by
    rw[u,List.all_append,b];simp
   generalize lV (ao g) (l.take i)=P at t7 f
   simp(disch:=omega)only[↓wr,seval,wq,t1,t2,t6,t7,t8,encI,af,encS,Uy,a]
   apply ai.split<;>intro s
   .have I:x < 0->bT x < g.aj.length:=λc=>by
     unfold dI at s
     rw[Ux (by omega)] at s
     simp at s
     unfold bT;omega
    rw[s] at q
    simp(disch:=omega)only[↓wr,seval,wq,t1,t2,t6,t7,t8,encI,af,encS,Uy,a]
    cases P with
    | true =>
     simp(disch:=omega)only[↓wr,seval,wq,t1,t2,t6,t7,t8,encI,af,encS,Uy,a]
     exact aD hk (by omega) ⟨q,t1,t2,t6,by rw[f];rfl,rfl⟩
    | false =>
     rw[Wn] at f
     simp(disch:=omega)only[↓wr,seval,wq,t1,t2,t6,t7,t8,encI,af,encS,Uy,a]
     apply ai.dec<;>intro c
     .have J:=Cr (I c)
      simp(disch:=omega)only[↓wr,seval,wq,t1,t2,t6,t7,t8,encI,af,encS,Uy,a,J]
      exact aD hk (by omega) ⟨q,t1,t2,t6,by rw[f,Wb c];rfl,rfl⟩
     .simp(disch:=omega)only[↓wr,seval,wq,t1,t2,t6,t7,t8,encI,af,encS,Uy,a]
      exact aD hk (by omega) ⟨q,t1,t2,t6,by rw[f,decide_eq_false c];rfl,rfl⟩
   .simp(disch:=omega)only[↓wr,seval,wq,t1,t2,t6,t7,t8]
    intro p _
    refine bad p ?_
    rw[Bool.and_eq_false_iff];right
    rw[List.all_eq_false]
    exact⟨x,d,by simp[s]⟩
  .rw[UK (by omega)] at b t7
   have j:dw g l=_:=Uz (by simp only[hr,b,Bool.and_self])
   have w:=KW (ao g) l aZ
   rw[w] at j
   cases N:lV (ao g) l with
   | true =>
    rw[N] at t7 j
    simp(disch:=omega)only[↓wr,seval,wq,t1,t2,t6,t7,t8]
    intro p _
    rw[j];exact jX (x:=([],9)) (.emp _)
   | false =>
    rw[N] at t7 j w
    have y:=(gL (ao g) l aZ).1 w
    have z:∀ x∈l,bO x/\(x < 0->-1 - x < g.aj.length):=λx r=>⟨L x r,λc=>by
     have:=U3.1 b x r
     unfold dI at this
     rw[Ux (by omega)] at this
     simpa using this⟩
    simp(disch:=omega)only[↓wr,seval,wq,t1,t2,t6,t7,t8,af,encS,encI]
    refine aw.pure (Qi g D hr).pure ?_
    simp(disch:=omega)only[↓wr,seval,wq,t1,t2,t6,t7,t8,af,encS,encI]
    have o:=J2 l (lz g) A (λm=>by rw[Ae];exact Nr g m) (λx r=>⟨(z x r).1,λh=>by simp only[lz,UB,fL];exact(z x r).2 h⟩)
    have t:∀ m,ed (bk (ao g) m):=λm=>ja g _ m
    have K:=vL t l aZ (0,0) fZ y (λx _ _=>Ae g _) (S:=lz g) rfl
    have B:=mH t l aZ fZ
    have C:=EV y
    rw[K] at o
    generalize Q:(bF (ao g) l aZ).1=sp at j o B C
    unfold ed at B
    refine aw.pure o.pure ?_
    simp(disch:=omega)only[↓wr,seval,wq,t1,t2,t6,t7,t8,eK,ke]
    intro n R
    try simp(disch:=omega)only[↓wr,seval,wq,t1,t2,t6,t7,t8,eK,ke]
    apply ai.dec<;>intro U
    .simp(disch:=omega)only[↓wr,seval,wq,t1,t2,t6,t7,t8]
     rw[Ux (by simp),Uz (.inl (by omega))] at j
     intro p _
     rw[j];exact jX (x:=([],13)) (.emp _)
    .simp(disch:=omega)only[↓wr,seval,wq,t1,t2,t6,t7,t8]
     apply ai.dec<;>intro V
     .simp(disch:=omega)only[↓wr,seval,wq,t1,t2,t6,t7,t8]
      rw[Ux (by simp),Uz (.inr (by omega))] at j
      intro p _
      rw[j];exact jX (x:=([],13)) (.emp _)
     .rw[Ux (by simp),Ux (by omega)] at j
      simp(disch:=omega)only[↓wr,seval,wq,t1,t2,t6,t7,t8,encI,af,encS]
      have hw:=M9 g D F g.aj.length l A z (rZ y) (by have:=C (by omega);omega)
      simp only[af,encI,encS] at hw
      refine aw.dL ((hw _).mono ?_)
      rintro v H1 ⟨E,_⟩
      simp(disch:=omega)only[↓wr,seval,wq,t1,t2,t6,t7,t8]
      intro p s
      rw[j];exact jX (x:=(_,0)) (jf (by rw[s];exact E))
 .intro p _
  refine bad p ?_
  simp_all
def cT {κ:Type} (kv:κ->V) (m:cB κ):List (V × V × Nat):=m.map λx=>(kv x.1,x.2.1,x.2.2)
structure C7 {κ:Type} [BEq κ] (P:Program) (kt:TypeId) (kv:κ->V):Prop where
 find:∀ k e m,ml P kt (kv k) e (cT kv m)=some (gF k m)
 same:∀ k,sameKey (kv k) (kv k)=true
def k6 {κ:Type} (m:cB κ) (c:Nat):Prop:=(m.map (·.2.2)).Nodup/\∀ x∈m,x.2.2 < c
def jL {κ:Type} [BEq κ] (m:cB κ) (k:κ):Option Nat:=(m.find? λx=>k == x.1).map (·.2.2)
section
variable {κ:Type} [BEq κ] [LawfulBEq κ] {kv:κ->V}
theorem mB (k:κ):∀ m:cB κ,match gF k m with
  | some i=>∃ x,m[i]?=some x/\x.1=k/\getM m k=some x.2.1/\jL m k=some x.2.2/\(cT kv m)[i]?=some (kv k,x.2.1,x.2.2)/\∀ v c,(cT kv m).set i (kv k,v,x.2.2)=cT kv (bL k v c m)/\jL (bL k v c m) k=some x.2.2/\(bL k v c m).map (·.2.2)=m.map (·.2.2)
  | none=>getM m k=none/\jL m k=none/\∀ v c,cT kv m ++ [(kv k,v,c)]=cT kv (bL k v c m)/\jL (bL k v c m) k=some c/\(bL k v c m).map (·.2.2)=m.map (·.2.2) ++ [c]
 | []=>⟨rfl,rfl,λv c=>⟨rfl,by simp[bL,jL],rfl⟩⟩
 | x :: r=>by
  have a:=mB k r
  simp only[gF]
  cases hk:k == x.1 with
  | true =>
   have b:x.1=k:=(eq_of_beq hk).symm
   exact⟨x,rfl,b,by simp[getM,hk],by simp[jL,hk],by simp[cT,b],λv c=>by simp[bL,hk,cT,jL]⟩
  | false =>
   simp only[UX,if_false]
   cases hi:gF k r with
   | some i =>
    rw[hi] at a
    obtain⟨y,h1,d,e,f,g,h⟩:=a
    refine⟨y,by simpa using h1,d,by simpa [getM,hk] using e,by simpa [jL,hk] using f,by simpa [cT] using g,λv c=>?_⟩
    obtain⟨g1,g2,g3⟩:=h v c
    exact⟨by simp only[cT] at g1 ⊢;simp[bL,hk,g1],by simpa [bL,hk,jL] using g2,by simp[bL,hk,g3]⟩
   | none =>
    rw[hi] at a
    refine⟨by simpa [getM,hk] using a.1,by simpa [jL,hk] using a.2.1,λv c=>?_⟩
    obtain⟨g1,g2,g3⟩:=a.2.2 v c
    exact⟨by simp only[cT] at g1 ⊢;simp[bL,hk,g1],by simpa [bL,hk,jL] using g2,by simp[bL,hk,g3]⟩
theorem k6.put {m:cB κ} {c:Nat} (h:k6 m c) (k:κ) (v:V):k6 (bL k v c m) (c+1):=by
 have f:=mB (kv:=λ_=>V.any) k m
 cases i:gF k m with
 | some j =>
  rw[i] at f
  obtain⟨y,_,_,_,_,_,n⟩:=f
  have e:=(n v c).2.2
  refine⟨by rw[e];exact h.1,λx g=>?_⟩
  have:x.2.2∈m.map (·.2.2):=by rw[<-e];exact U0.2 ⟨x,g,rfl⟩
  obtain⟨y,d,o⟩:=U0.1 this
  have:=h.2 y d
  omega
 | none =>
  rw[i] at f
  have e:=(f.2.2 v c).2.2
  refine⟨?_,λx g=>?_⟩
  .rw[e,VK]
   refine⟨h.1,by simp,λa p b l=>?_⟩
   simp at l;subst l
   obtain⟨y,d,rfl⟩:=U0.1 p
   have:=h.2 y d
   omega
  .have:x.2.2∈m.map (·.2.2) ++ [c]:=by rw[<-e];exact U0.2 ⟨x,g,rfl⟩
   rcases UR.1 this with h1 | h1
   .obtain⟨y,d,o⟩:=U0.1 h1
    have:=h.2 y d
    omega
   .simp at h1;omega
theorem k6.RO {m:cB κ} {c:Nat} (h:k6 m c) {k:κ} {b:Nat} (d:jL m k=some b) (v:V) (f:Nat):k6 (bL k v f m) c:=by
 have a:=mB (kv:=λ_=>V.any) k m
 cases g:gF k m with
 | some j =>
  rw[g] at a
  obtain⟨y,_,_,_,_,_,i⟩:=a
  have e:=(i v f).2.2
  refine⟨by rw[e];exact h.1,λx l=>?_⟩
  have:x.2.2∈m.map (·.2.2):=by rw[<-e];exact U0.2 ⟨x,l,rfl⟩
  obtain⟨y,n,o⟩:=U0.1 this
  have:=h.2 y n
  omega
 | none =>
  rw[g] at a
  rw[a.2.1] at d;simp at d
omit [BEq κ] [LawfulBEq κ] in
theorem find_born (b:Nat):∀ (m:cB κ) (i:Nat) (x:κ × V × Nat),(m.map (·.2.2)).Nodup->m[i]?=some x->x.2.2=b->(cT kv m).findIdx? (λe=>e.2.2 == b)=some i
 | [],i,x,_,h,_=>by simp at h
 | y :: m,0,x,a,h,e=>by
  simp at h;subst h
  simp[cT,List.findIdx?_cons,e]
 | y :: m,i+1,x,a,h,e=>by
  simp only[U2,Vp] at a
  have h:m[i]?=some x:=by simpa using h
  have f:x∈m:=UL h
  have c:¬ y.2.2=b:=λg=>a.1 (by rw[g,<-e];exact U0.2 ⟨x,f,rfl⟩)
  have d:=find_born b m i x a.2 h e
  simp only[cT] at d
  simp[cT,List.findIdx?_cons,c,d]
variable {P:Program} {T:Env} {H:View} {kt et t ty:TypeId}
theorem QD {K:V->View->Prop} {w:cG (T,H,K)} {x i:Operand} {z:V} {id c:Nat} {m:cB κ} {k:κ} (hm:ez P t=some (kt,et)) (d:zeroV P et=some z) (hk:C7 P kt kv)
  (e:ev T x=.mp id) (hi:ev T i=kv k) (hH:H id=.map (cT kv m) c) (h:K ((getM m k).getD z) H):iW P (.lookup t x i false) ty T H K w:=by
 intro n _
 have f:=hk.find k (cT kv m).isEmpty m
 have a:=mB (kv:=kv) k m
 refine⟨(getM m k).getD z,.none,[id],?_,h⟩
 simp only[sI,ca,oper,fa,hm,d,e,hi,hH,f]
 cases b:gF k m with
 | some j =>
  rw[b] at a
  obtain⟨y,h1,o,g,p,l,_⟩:=a
  simp[l,g]
 | none =>
  rw[b] at a
  simp[a.1]
theorem D5 {z:V} {id c:Nat} {m:cB κ} {k:κ} (hm:ez P t=some (kt,et)) (l:zeroV P et=some z) (hk:C7 P kt kv) (hH:H id=.map (cT kv m) c) (e:k6 m c) :
  ∃ b f,ep P t (.mp id) (kv k) H=some (.aY [(getM m k).getD z,fO b],.fi id (.map (cT kv (bL k ((getM m k).getD z) c m)) f),[id])/\k6 (bL k ((getM m k).getD z) c m) f/\jL (bL k ((getM m k).getD z) c m) k=some b:=by
 have d:=hk.find k false m
 have a:=mB (kv:=kv) k m
 cases g:gF k m with
 | some j =>
  rw[g] at a d
  obtain⟨y,h1,p,h,n,o,i⟩:=a
  refine⟨y.2.2,c,?_,?_,?_⟩
  .simp only[ep,hm,hH,d,o,hk.same k,if_true,h,UM]
   rw[(i y.2.1 c).1]
  .exact e.RO n _ _
  .rw[h];exact(i _ c).2.1
 | none =>
  rw[g] at a d
  refine⟨c,c+1,?_,e.put k _,?_⟩
  .simp only[ep,hm,hH,d,l,a.1,Option.getD_none]
   rw[(a.2.2 z c).1]
  .rw[a.1];exact(a.2.2 _ c).2.1
theorem Sr {K:V->View->Prop} {w:cG (T,H,K)} {x i:Operand} {z:V} {id c:Nat} {m:cB κ} {k:κ} (hm:ez P t=some (kt,et)) (d:zeroV P et=some z) (hk:C7 P kt kv)
  (e:ev T x=.mp id) (hi:ev T i=kv k) (hH:H id=.map (cT kv m) c) (f:k6 m c)
  (h:∀ b a,k6 (bL k ((getM m k).getD z) c m) a->jL (bL k ((getM m k).getD z) c m) k=some b->K (.aY [(getM m k).getD z,fO b]) (H.set id (.map (cT kv (bL k ((getM m k).getD z) c m)) a))):iW P (.mapEntry t x i) ty T H K w:=by
 intro n _
 obtain⟨b,a,h1,g,j⟩:=D5 (k:=k) hm d hk hH f
 refine⟨.aY [(getM m k).getD z,fO b],.fi id (.map (cT kv (bL k ((getM m k).getD z) c m)) a),[id],?_,h b a g j⟩
 simp only[sI,ca,oper,e,hi]
 exact h1
theorem Sw {K:V->View->Prop} {w:cG (T,H,K)} {x s y:Operand} {id c b:Nat} {m:cB κ} {k:κ} {v:V} (i:ev T x=.mp id) (l:ev T s=fO b) (o:ev T y=v) (hH:H id=.map (cT kv m) c) (p:k6 m c) (a:jL m k=some b)
  (h:∀ c0,K .any (H.set id (.map (cT kv (bL k v c0 m)) c))):iW P (.entryStore t x s y) ty T H K w:=by
 intro n _
 have d:=mB (kv:=kv) k m
 cases g:gF k m with
 | none=>rw[g] at d;rw[d.2.1] at a;simp at a
 | some j =>
  rw[g] at d
  obtain⟨z,h1,B,C,f,q,r⟩:=d
  rw[a] at f
  have e:z.2.2=b:=by simp at f;exact f.symm
  have u:=find_born (kv:=kv) b m j z p.1 h1 e
  refine⟨.any,.fi id (.map (cT kv (bL k v c m)) c),[id],?_,h c⟩
  have A:asNat (fO b)=some b:=by simp[asNat,fO]
  simp only[sI,ca,oper,i,l,o,kd,A,hH,u,q]
  rw[(r v c).1]
theorem TK {z:V} {id c:Nat} {m:cB κ} {k:κ} (hm:ez P t=some (kt,et)) (f:zeroV P et=some z) (hk:C7 P kt kv) (hH:H id=.map (cT kv m) c) (i:k6 m c):Hw P t (.mp id) (kv k) H:=by
 refine⟨⟨_,_,hH⟩,λv obj rd he=>?_⟩
 obtain⟨b,l,h1,n,g⟩:=D5 (k:=k) hm f hk hH i
 rw[he] at h1
 simp only[Uw,UA,bp.fi.injEq] at h1
 obtain⟨_,⟨_,rfl⟩,_⟩:=h1
 have key:∀ (a:cB κ) (c2:Nat) (H':View),H' id=.map (cT kv a) c2->fa P t (.mp id) (kv k) false H'=some ((getM a k).getD z,.none,[id]):=by
  intro a c2 H' e
  have o:=hk.find k (cT kv a).isEmpty a
  have d:=mB (kv:=kv) k a
  simp only[fa,hm,f,e,o]
  cases h:gF k a with
  | some j =>
   rw[h] at d
   obtain⟨y,h1,n,g,q,p,_⟩:=d
   simp[p,g]
  | none =>
   rw[h] at d
   simp[d.1]
 rw[key (bL k ((getM m k).getD z) c m) l _ (by simp[View.set]),key m c H hH,pI]
 simp
end
theorem Hn {P:Program} {α:Type} (x:α):bg P (pure x:Sem α)=some x:=rfl
theorem tJ:∀ (N:Nat) (l:List Nat),l.Nodup->(∀ x∈l,x < N)->l.length<=N
 | 0,l,_,h=>by
  cases l with
  | nil=>simp
  | cons x l=>exact absurd (h x (by simp)) (by omega)
 | N+1,l,b,h=>by
  by_cases e:N∈l
  .have h1:=tJ N (l.erase N) (b.erase N) λx a=>by
    have c:=(b.mem_erase_iff).1 a
    have:=h x c.2
    have:=c.1
    omega
   rw[List.length_erase_of_mem e] at h1
   omega
  .have:=tJ N l b λx a=>by
    have:=h x a
    have:x≠N:=by rintro rfl;exact e a
    omega
   omega
def QN:List Int:=[37,37,32,115,32,58,32,39,97,39,32,115,32,124,32,59]
def iO:ag:=⟨[⟨⟨#[39,97,39]⟩,0,0⟩],[⟨#[115]⟩],[⟨0,[0,(-1)],0⟩,⟨0,[],(-1)⟩],0⟩
theorem SY:b6 Tryz.prog 44 [GN QN] (zh iO):=QR (by kernel_rfl)
section
variable {g:ag} {p:List Int} {T:Tb} {N:Nat}
end
section
variable {g r:ag} {p q:List Bool} {o:List Int}
end
section
variable {fit:List Int->Bool} {T b:Nat}
end
section
variable {P:Program} {T:Env} {H:View} {K:V->View->Prop} {w:cG (T,H,K)} {t t1 e ty:TypeId}
theorem OO {x:Operand} {k:Nat} (he:cH P t=some e) (a:ev T x=.emp k) (hk:K (fO 0) H):iW P (.call { callee:=.builtin .cap,args:=#[x],argTypes:=#[t] }) ty T H K w:=by
 intro n _
 refine⟨fO 0,.none,[],?_,hk⟩
 simp[sI,ca,oper,Dj,he,a]
theorem Rk {s x:Operand} {k l sz bytes:Nat} {z:List V} (he:oC P t=some (sz,bytes,z)) (g:om P t1=false) (hi:isInt P t1=true) (h:ev T s=.emp k) (i:ev T x=fO l) (j:l≠0)
  (h1:l * bytes < aB) (m:l < aB) (hk:∀ n,H n=.dead->K (.sl n 0 l sz) (H.set n (.arr sz (List.replicate l z)))) :
  iW P (.call { callee:=.builtin .append,args:=#[s,x],argTypes:=#[t,t1] }) ty T H K w:=by
 obtain⟨e,ti,b,_,c,o,d,a,f,rfl,rfl⟩:=jY he
 intro n p
 refine⟨.sl n 0 l ti.size,.new (.arr ti.size (List.replicate l z)),[],?_,hk n p⟩
 have q:asNat (fO l)=some l:=by simp[asNat,fO]
 have key:rA P t (.emp k) (fO l) n=some (.sl n 0 l ti.size,.new (.arr ti.size (List.replicate l z)),[]):=by
  unfold rA
  rw[b,q]
  simp only[c,o,Ux j]
  rw[Uz ⟨d,a,f,h1,m⟩]
 simp[sI,ca,oper,g,hi,h,i,key]
end
def kR:SF:=⟨ae [ab [bI 4 1],ae [ab [aa 5 1,aG 6 .lss 5 0],ba 6 (.region false [⟨none,[((some 7),.op (.old (.makeInterface 9 (.const (.string ⟨#[99,97,110,110,111,116,32,98,101,32,110,101,103,97,116,105,118,101]⟩))) 20)),(none,.op (.old (.panic (.tmp 7)) 0))]⟩])],ae [ab [aa 8 1,aa 9 0,((some 10),.op (.old (.call { callee:=.builtin .cap,args:=#[(.tmp 9)],argTypes:=#[27] }) 3)),aa 11 0,aM 12 11,aR 13 .sub 10 12,aR 14 .sub 8 13,aa 1 14],ab [aa 15 1,aG 16 .gtr 15 0],ba 16 (ab [aa 17 0,aa 18 0,((some 19),.op (.old (.call { callee:=.builtin .cap,args:=#[(.tmp 18)],argTypes:=#[27] }) 3)),((some 20),.op (.slice 1 (.tmp 17) none (some (.tmp 19)))),aa 21 1,((some 22),.op (.old (.call { callee:=.builtin .append,args:=#[(.tmp 20),(.tmp 21)],argTypes:=#[27,3] }) 27)),aa 23 0,aM 24 23,((some 25),.op (.slice 1 (.tmp 22) none (some (.tmp 24)))),aa 0 25])],ab [aa 26 0,aa 4 26],.ret],
 [.tmp 4],27⟩
theorem qw:aH Tryz.prog 132 []=some kR:=by kernel_rfl
def jr:SC :=
 ae [ab [aR 12 .lss 11 10],bX 12 (.exit 0),.block 1 (ae [ab [aO 13 1 9 11,ak 14 13,aa 5 14],ab [aa 15 3,aa 16 5,aM 17 16,aR 18 .add 15 17,aa 3 18],ab [aa 19 3,aG 20 .lss 19 0],ba 20 (.region false [⟨none,[((some 21),.op (.old (.makeInterface 9 (.const (.string ⟨#[108,101,110,32,111,117,116,32,111,102,32,114,97,110,103,101]⟩))) 20)),(none,.op (.old (.panic (.tmp 21)) 0))]⟩])]),ab [aG 22 .add 11 1,aa 11 22]]
def jA:SC :=
 ae [ab [aR 28 .lss 27 26],bX 28 (.exit 2),.block 3 (ae [ab [aO 29 1 25 27,ak 30 29,aa 8 30],ab [aa 31 6,aa 32 8,fk 33 1 8 31 32,aa 6 33]]),ab [aG 34 .add 27 1,aa 27 34]]
def j8:SF:=⟨ae [ab [bI 2 1],ab [aN 3 0],ae [ab [aa 9 0,aM 10 9,aN 11 0],bY 0 jr],ab [aa 23 3,rf 24 132 [(.val (.emp 1)),(.tmp 23)],aa 6 24],ae [ab [aa 25 0,aM 26 25,aN 27 0],bY 2 jA],ab [aa 35 6,aa 2 35],.ret],
 [.tmp 2],36⟩
theorem oP:aH Tryz.prog 68 []=some j8:=by kernel_rfl
theorem Lw (n:Nat) (a:n<=1000000) (H:View):av Tryz.prog 132 [.emp 1,gi n] H λr H'=>(n=0/\r=.emp 1/\H'=H)∨(0 < n/\∃ m es,H m=.dead/\r=.sl m 0 0 1/\H'=H.set m (.arr 1 es)):=by
 refine av.of mixed qw ?_
 simp(disch:=omega)only[↓wr,seval,wq,kR]
 refine ai.dec (λh=>absurd h (by omega)) (λ_=>?_)
 simp(disch:=omega)only[↓wr,seval,wq]
 refine OO (k:=1) (e:=3) (by kernel_rfl) (by simp(disch:=omega)only[↓wr,seval,wq]) ?_
 simp(disch:=omega)only[↓wr,seval,wq]
 apply ai.dec<;>intro h
 .simp(disch:=omega)only[↓wr,seval,wq]
  refine OO (k:=1) (e:=3) (by kernel_rfl) (by simp(disch:=omega)only[↓wr,seval,wq]) ?_
  simp(disch:=omega)only[↓wr,seval,wq]
  first | rw[show cJ 1 (.emp 1) none (some (.val (.int .i64 ((0:Nat):Int))))=some (.emp 1,.none,[]) from rfl] | rw[show cJ 1 (.emp 1) none (some (.val (.int .i64 0)))=some (.emp 1,.none,[]) from rfl]
  simp(disch:=omega)only[↓wr,seval,wq]
  refine Rk (k:=1) (l:=n) (sz:=1) (bytes:=8) (z:=[gi 0]) (by kernel_rfl) (by kernel_rfl) (by kernel_rfl) (by simp(disch:=omega)only[↓wr,seval,wq]) (by simp(disch:=omega)only[↓wr,seval,wq];simp) (by omega) (by unfold aB;omega) (by unfold aB;omega) ?_
  intro m hm
  simp(disch:=omega)only[↓wr,seval,wq]
  first | rw[show cJ 1 (.sl m 0 n 1) none (some (.val (.int .i64 ((0:Nat):Int))))=some (.sl m 0 0 1,.none,[]) by simp[cJ,bound,asNat]] | rw[show cJ 1 (.sl m 0 n 1) none (some (.val (.int .i64 0)))=some (.sl m 0 0 1,.none,[]) by simp[cJ,bound,asNat]]
  simp(disch:=omega)only[↓wr,seval,wq]
  exact .inr ⟨by omega,m,_,hm,rfl,rfl⟩
 .simp(disch:=omega)only[↓wr,seval,wq]
  exact .inl (by omega)
def Fm (H:View) (u:V) (l:List Int):Prop:=aK H u 1 (bt l)∨(l=[]/\∃ m es,u=.sl m 0 0 1/\H m=.arr 1 es)
theorem Lp {bytes:Nat} {u:V} {l xs:List Int} {H:View} {K:V->View->Prop} {w:cG (H,K)} (b:Fm H u l) (f:(l.length+xs.length) * bytes < aB) (c:l.length+xs.length < aB) (k:bytes=8)
  (hk:∀ a H',Fm H' a (l ++ xs)->(aK H u 1 (bt l)->aK H' a 1 (bt (l ++ xs)))->Left H H' u a->K a H'):mr 1 bytes u (bt xs) H K w:=by
 rcases b with b | ⟨rfl,m,es,rfl,hm⟩
 .exact eo b (by simp[VN,aF]) (by simpa using f) (by simpa using c) λa H' h1 g=>hk a H' (.inl (by simpa using h1)) (λ_=>by simpa using h1) g
 .cases xs with
  | nil=>exact hk _ _ (.inr ⟨rfl,m,es,rfl,hm⟩) (λh=>by simpa using h) .refl
  | cons x xs =>
   rw[sO _ _ _ _ _ _ _ _ _ _ (by simp),hm]
   refine⟨by simp[VN,aF],⟨by simp,rfl,by simpa using f,by simpa using c⟩,λn i=>hk _ _ (.inl (.inr ⟨n,by simp,by simp[View.set]⟩)) (λ_=>.inr ⟨n,by simp,by simp[View.set]⟩) λid d b=>?_⟩
   have e:id≠n:=by rintro rfl;exact d i
   have j:id≠m:=by rintro rfl;exact b rfl
   exact⟨by simp[View.set,e,j],by simp[owner,Ne.symm e]⟩
def gq:SC :=
 ae [ab [aR 10 .lss 9 8],bX 10 (.exit 0),.block 1 (ae [ab [aO 11 1 7 9,ak 12 11,aa 5 12],ae [ab [aa 13 5,aG 14 .geq 13 0],ba 14 (ae [ab [aa 15 0,aa 16 0,kN 17 16,al 18 6 17,ak 19 18,aa 20 5,((some 21),.op (.bP 1 1 [(.val (.int .i64 0))] [(0,(.tmp 20))])),fk 22 1 8 19 21,kN 23 15,al 24 6 23,cg 1 24 22],.exit 1])],ab [aa 25 0,kN 26 25,al 27 4 26,ak 28 27,aa 29 5,((some 30),.op (.arith .sub (.val (.val (.int .i64 (-1)))) (.tmp 29))),aO 31 4 28 30,al 32 0 31,ak 33 32,aa 6 33],ab [aa 34 0,aa 35 0,kN 36 35,al 37 5 36,ak 38 37,aa 39 6,((some 40),.op (.bP 1 1 [(.val (.int .i64 0))] [(0,(.tmp 39))])),fk 41 1 8 38 40,kN 42 34,al 43 5 42,cg 1 43 41],ab [aa 44 0,aa 45 0,kN 46 45,al 47 0 46,al 48 2 47,ak 49 48,aa 50 6,aO 51 3 49 50,al 52 1 51,ak 53 52,aX 54 197 [44,53]]]),ab [aG 55 .add 9 1,aa 9 55]]
def jV:SF:=⟨ae [ab [aa 7 1,aM 8 7,aN 9 0],bY 0 gq],
 [],56⟩
theorem lJ:aH Tryz.prog 197 []=some jV:=by kernel_rfl
def je (g:ag) (r w:V):List V:=[.aQ (g.au.map cP),.aQ (g.aj.map λs=>[gs s]),.aQ (g.rules.map aI),gi g.start,iU (ao g),r,w]
def G1 (g:ag) (b:Nat) (R W:List Int) (H:View):Prop:=∃ ur uw,bc H [(.sl b 0 1 7,7,[je g ur uw]),(ur,1,bt R),(uw,1,bt W)]
theorem G4 (g:ag) (hg:g.Ok) (hf:g.cX) (b:Nat):∀ (f:Nat) (l:List Int),aL l->(∀ x∈l,bO x/\(x < 0->-1 - x < g.aj.length))->Ba (ao g) f l->∀ (R W:List Int) (H:View),(R ++ eF g (ao g) f l).length<=100000->(W ++ dF g (ao g) f l).length<=2000000 ->
  G1 g b R W H->av Tryz.prog 197 [.ptr b 0 0,encI l] H λ_ H'=>G1 g b (R ++ eF g (ao g) f l) (W ++ dF g (ao g) f l) H':=by
 intro f
 induction f using Nat.strongRecOn with
 | _ f ih =>
  intro l hl E hu R W H0 F G I
  refine av.of mixed lJ ?_
  unfold aL at hl
  simp(disch:=omega)only[↓wr,seval,wq,jV,encI]
  refine aV.up l.length (λi T H'=>G1 g b (R ++ eF g (ao g) f (l.take i)) (W ++ dF g (ao g) f (l.take i)) H'/\T 0=.ptr b 0 0/\T 7=encI l/\T 8=gi l.length/\T 9=gi i) ⟨by rw[List.take_zero,EC,tn,V0,V0];exact I,rfl,rfl,rfl,rfl⟩ ?_
  rintro i k T H hk ⟨⟨J,K,u⟩,t0,t7,t8,t9⟩
  simp(disch:=omega)only[↓wr,seval,wq,gq,t0,t7,t8,t9,encI]
  apply ai.dec<;>intro hc
  .have q:l[i]?=some (l[i]'(by omega)):=Uv (by omega)
   have a:l[i]'(by omega)∈l:=UC _
   have c:l.take (i+1)=l.take i ++ [l[i]'(by omega)]:=by rw[UW,q];rfl
   have j:=Nw g f l (i+1)
   have d:=DV g f l (i+1)
   generalize l[i]'(by omega)=x at q a c
   obtain⟨⟨an,aq⟩,L⟩:=E x a
   rw[c,kX] at j
   rw[c,gA] at d
   simp only[UY] at F G j d
   have M:=u.is 0 rfl (by simp)
   simp(disch:=omega)only[↓wr,seval,wq,t0,t7,t8,t9,encI,Uy,q]
   apply ai.dec<;>intro D
   .rw[lf (show 0<=x from D)] at d
    simp only[UE,UU] at d
    simp(disch:=omega)only[↓wr,seval,wq,t0,t7,t8,t9,M,je]
    intro n s
    rw[bH]
    simp(disch:=omega)only[↓wr,seval,wq,t0,t7,t8,t9]
    refine cx ((u.at 2 (by simp)).fresh s) (by simp[aF]) (by unfold aB;simp;omega) (by unfold aB;simp;omega) ?_
    intro w H1 e _
    simp only[Vb,Vc] at e
    have t:=e.is 1 rfl (by simp)
    have c1:=e.head.cells
    have N:=e.head.er
    simp(disch:=omega)only[↓wr,seval,wq,t0,t7,t8,t9,t,je,c1,N]
    have z:=(e.at 1 (by simp)).put (es':=[je g J w]) rfl rfl
    simp only[Vb,Vc] at z
    refine aD hk (by omega) ⟨⟨J,w,?_⟩,t0,t7,t8,rfl⟩
    rw[c,kX,gA,wJ (show 0<=x from D),lf (show 0<=x from D),V0]
    have O:=z.perm (.cons _ (.swap _ _ _))
    simpa [je] using O
   .obtain⟨f,rfl⟩:∃ f',f=f'+1:=by
     cases f with
     | zero=>have:=Da hu x a;omega
     | succ f=>exact⟨f,rfl⟩
    obtain⟨Q,Y⟩:=hu x a (by omega)
    obtain⟨Z,r,hi,hr,o,S,_⟩:=vK (f:=f) Q (by push_cast at Y;exact Y)
    have A:=yz (P:=ao g) (m:=bT x) (by rw[fL];have:=L (by omega);unfold bT;omega)
    have B:=UL hr
    have ar:Z < g.rules.length:=(UI.1 hr).1
    have C:=hg.ax r B
    rw[qu (by omega),o,hi] at j
    rw[kH (by omega),o] at d
    simp only[UE] at j
    generalize U:bk (ao g) (bT x)=p at A hi o
    simp(disch:=omega)only[↓wr,seval,wq,t0,t7,t8,t9,M,je]
    simp(disch:=omega)only[↓wr,seval,wq,t0,t7,t8,t9,M,je,A,bW,hi]
    intro n s
    rw[bH]
    simp(disch:=omega)only[↓wr,seval,wq,t0,t7,t8,t9]
    refine cx ((u.at 1 (by simp)).fresh s) (by simp[aF]) (by unfold aB;simp;omega) (by unfold aB;simp;omega) ?_
    intro w H1 e _
    simp only[Vb,Vc] at e
    have t:=e.is 1 rfl (by simp)
    have c1:=e.head.cells
    have N:=e.head.er
    simp(disch:=omega)only[↓wr,seval,wq,t0,t7,t8,t9,t,je,c1,N,aI,Uy,hr,encI]
    have z:=(e.at 1 (by simp)).put (es':=[je g w K]) rfl rfl
    simp only[Vb,Vc] at z
    have h:=ih f (by omega) r.right C.2.2.1 (λy hy=>⟨C.2.2.2 y hy,λE=>hf.neg B hy E⟩) S (R ++ eF g (ao g) (f+1) (l.take i) ++ [(Z:Int)]) (W ++ dF g (ao g) (f+1) (l.take i)) _
     (by simp only[UY,UE,UU];omega) (by simp only[UY];omega) ⟨w,K,by simpa using z⟩
    simp only[je,encI] at h
    refine aw.dL (h.mono ?_)
    rintro v H2 ⟨V,X,O⟩
    simp(disch:=omega)only[↓wr,seval,wq,t0,t7,t8,t9]
    refine aD hk (by omega) ⟨⟨V,X,?_⟩,t0,t7,t8,rfl⟩
    rw[c,kX,gA,qu (by omega),kH (by omega),U,hi,<-hi,o,hi]
    simpa using O
  .rw[UK (by omega)] at u
   simp(disch:=omega)only[↓wr,seval,wq,t0,t7,t8,t9]
   exact⟨J,K,u⟩
def yD (H:View) (u:V) (l:List Int):Prop:=u=encI l∨∃ (m:Nat) (x:Int),l=[x]/\x < 0/\u=.sl m 0 1 1/\H m=.arr 1 [[gi x]]
theorem yD.jR {H:View} {u:V} {l:List Int} (h:yD H u l):cm H u (encI l):=by
 rcases h with rfl | ⟨m,x,rfl,_,rfl,hm⟩
 .exact cm.tree (bQ l)
 .exact AS (l:=[x]) hm rfl
theorem yD.keep {H H':View} {u:V} {l:List Int} (h:yD H u l) (hk:∀ id,H id≠.dead->H' id=H id):yD H' u l:=by
 rcases h with rfl | ⟨m,x,rfl,a,rfl,hm⟩
 .exact .inl rfl
 .exact .inr ⟨m,x,rfl,a,rfl,by rw[hk m (by rw[hm];simp)];exact hm⟩
theorem Gx (g:ag) (z:g.Ok) (A:g.cX) (b:Nat) (f:Nat) (l:List Int) (S:aL l) (t:∀ x∈l,bO x/\(x < 0->-1 - x < g.aj.length)) (hu:Ba (ao g) f l) (R W:List Int) (H:View) (c:(R ++ eF g (ao g) f l).length<=100000) (d:(W ++ dF g (ao g) f l).length<=2000000)
  (hw:G1 g b R W H) (u:V) (hi:yD H u l):av Tryz.prog 197 [.ptr b 0 0,u] H λ_ H'=>G1 g b (R ++ eF g (ao g) f l) (W ++ dF g (ao g) f l) H':=by
 rcases hi with rfl | ⟨m,x,rfl,U,rfl,hm⟩
 .exact G4 g z A b f l S t hu R W H c d hw
 .obtain⟨⟨X,Y⟩,B⟩:=t x (by simp)
  refine av.of mixed lJ ?_
  simp(disch:=omega)only[↓wr,seval,wq,jV]
  refine aV.up 1 (λi T H'=>((i=0/\H'=H)∨(i=1/\G1 g b (R ++ eF g (ao g) f [x]) (W ++ dF g (ao g) f [x]) H'))/\T 0=.ptr b 0 0/\T 7=.sl m 0 1 1/\T 8=gi 1/\T 9=gi i) ⟨.inl ⟨rfl,rfl⟩,rfl,rfl,rfl,rfl⟩ ?_
  rintro i k T H1 hk ⟨Z,t0,t7,t8,t9⟩
  rcases Z with ⟨rfl,rfl⟩ | ⟨rfl,w⟩
  .obtain⟨ur,J,w⟩:=hw
   have K:=w.is 0 rfl (by simp)
   simp(disch:=omega)only[↓wr,↓reduceIte,wq,Nat.reduceEqDiff,Nat.reduceAdd,Nat.reduceLT,Nat.reduceLeDiff,Int.reduceNeg,Int.reduceToNat,reduceCtorEq,gq,t0,t7,t8,t9,hm]
   refine ai.dec (λ_=>?_) (λh=>absurd h (by decide))
   simp(disch:=omega)only[↓wr,seval,wq,t0,t7,t8,t9,hm]
   refine ai.dec (λh=>absurd h (by omega)) (λ_=>?_)
   obtain⟨f,rfl⟩:∃ f',f=f'+1:=by
    cases f with
    | zero=>have:=Da hu x (by simp);omega
    | succ f=>exact⟨f,rfl⟩
   obtain⟨C,L⟩:=hu x (by simp) (by omega)
   obtain⟨M,r,hi,hr,e,D,_⟩:=vK (f:=f) C (by push_cast at L;exact L)
   have j:=yz (P:=ao g) (m:=bT x) (by rw[fL];have:=B (by omega);unfold bT;omega)
   have o:=UL hr
   have an:M < g.rules.length:=(UI.1 hr).1
   have q:=z.ax r o
   rw[qu (by omega),e,hi] at c ⊢
   rw[kH (by omega),e] at d ⊢
   simp only[UY,UE] at c d
   generalize aq:bk (ao g) (bT x)=p at j hi e
   simp(disch:=omega)only[↓wr,seval,wq,t0,t7,t8,t9,K,je]
   simp(disch:=omega)only[↓wr,seval,wq,t0,t7,t8,t9,K,je,j,bW,hi]
   intro n E
   rw[bH]
   simp(disch:=omega)only[↓wr,seval,wq,t0,t7,t8,t9]
   refine cx ((w.at 1 (by simp)).fresh E) (by simp[aF]) (by unfold aB;simp;omega) (by unfold aB;simp;omega) ?_
   intro N H1 s _
   simp only[Vb,Vc] at s
   have F:=s.is 1 rfl (by simp)
   have c1:=s.head.cells
   have k1:=s.head.er
   simp(disch:=omega)only[↓wr,seval,wq,t0,t7,t8,t9,F,je,c1,k1,aI,Uy,hr,encI]
   have O:=(s.at 1 (by simp)).put (es':=[je g N J]) rfl rfl
   simp only[Vb,Vc] at O
   have a:=G4 g z A b f r.right q.2.2.1 (λy Q=>⟨q.2.2.2 y Q,λt=>A.neg o Q t⟩) D (R ++ [(M:Int)]) W _
    (by simp only[UY,UE,UU];omega) (by simp only[UY];omega) ⟨N,J,by simpa using O⟩
   simp only[je,encI] at a
   refine aw.dL (a.mono ?_)
   rintro v H2 ⟨G,I,o3⟩
   simp(disch:=omega)only[↓wr,seval,wq,t0,t7,t8,t9]
   exact⟨0,by omega,1,by omega,.inr ⟨rfl,G,I,by simpa using o3⟩,t0,t7,t8,rfl⟩
  .simp(disch:=omega)only[↓wr,↓reduceIte,wq,Nat.reduceEqDiff,Nat.reduceAdd,Nat.reduceLT,Nat.reduceLeDiff,Int.reduceNeg,Int.reduceToNat,reduceCtorEq,gq,t0,t7,t8,t9]
   refine ai.dec (λh=>absurd h (by decide)) (λ_=>?_)
   simp(disch:=omega)only[↓wr,seval,wq,t0,t7,t8,t9]
   exact w
def tc:SF:=⟨ae [ab [cw 3 0,((some 6),.op (.eU (.val (.val (.pointer none))))),aN 7 0],.region true [⟨none,[aS 11 4 3,aS 12 4 3,aX 13 195 [12],((some 14),.op (.build [(.emp 1),(.emp 1),(.emp 1),(.val (.int .i64 0)),(.emp 1),(.emp 1),(.emp 1)] [(0,4,(.tmp 11)),(4,1,(.tmp 13))])),((some 15),.op (.box (.tmp 14))),aa 8 15]⟩],ab [aa 17 1,aa 18 8,kN 19 18,al 20 4 19,ak 21 20,aX 22 196 [17,21],aa 16 22,du 23 0 16,du 24 1 16,((some 9),.op (.alloc [(.val (.int .i64 0)),(.val (.int .i64 0)),(.val (.int .i64 0)),(.val (.int .i64 0))])),cg 4 9 23,aa 10 24],.block 0 (ae [ab [aa 26 10,c7 27 26,aa 25 27],.cond (.tmp 25) (ae [ab [((some 6),.op (.eU (.val (.val (.pointer none))))),aN 7 9],.ret]) (ae [.region false [⟨none,[al 29 2 9,ak 30 29,aG 31 .gtr 30 300,aa 32 31]⟩,⟨(some (32,false)),[al 33 3 9,ak 34 33,aa 35 2,aR 36 .gtr 34 35]⟩,⟨none,[cM 37 32 36,aa 28 37]⟩],ba 28 (ae [ab [((some 6),.op (.eU (.val (.val (.pointer none))))),aN 7 13],.ret])])]),ab [aa 38 8,aa 39 1,aX 40 197 [38,39]],ab [aa 41 8,aa 6 41,aN 7 0],.ret],
 [.tmp 6,.tmp 7],42⟩
theorem yk:aH Tryz.prog 131 [3]=some tc:=by kernel_rfl
def De:V:=.val (.pointer none)
def Sf (g:ag) (l:List Int) (t:Int) (r:V) (H:View):Prop :=
 ((bF (ao g) l aZ).2=false/\r=.aY [De,gi 9]) ∨
 ((bF (ao g) l aZ).2=true/\(300 < (bF (ao g) l aZ).1.rules∨t < (bF (ao g) l aZ).1.au)/\r=.aY [De,gi 13]) ∨
 ((bF (ao g) l aZ).2=true/\¬ (300 < (bF (ao g) l aZ).1.rules∨t < (bF (ao g) l aZ).1.au)/\∃ b,r=.aY [.ptr b 0 0,gi 0]/\G1 g b (eF g (ao g) g.aj.length l) (dF g (ao g) g.aj.length l) H)
theorem KF (g:ag) (A:g.Ok) (d:g.cX) (l:List Int) (L:l.length<=1000000) (z:∀ x∈l,bO x/\(x < 0->-1 - x < g.aj.length)) (t:Int) (u:V) (H:View) (hi:yD H u l) :
  av Tryz.prog 131 [.agg (af g),u,gi t] H (Sf g l t):=by
 have e:aL l:=by unfold aL;omega
 have z2:=d.aj
 have z3:=d.rules
 refine av.of mixed yk ?_
 simp(disch:=omega)only[↓wr,seval,wq,tc,af,encS]
 refine aw.pure (PC g A d).pure ?_
 simp(disch:=omega)only[↓wr,seval,wq]
 intro b B
 have f:yD (H.set b (.arr 7 [je g (.emp 1) (.emp 1)])) u l:=hi.keep λid a=>by
  have:id≠b:=by rintro rfl;exact a B
  simp[View.set,this]
 try simp(disch:=omega)only[↓wr,seval,wq]
 have C:∀ m,zT (bk (ao g) m):=λm=>FD z3 z2 m
 refine aw.j0 (Of (ao g) C l e λx i=>⟨(z x i).1,λh=>by rw[fL];exact(z x i).2 h⟩) (by kernel_rfl) ⟨f.jR,cm.tree (rO _),trivial⟩ ?_
 have j:=λ(h:gE (ao g) l)=>And.intro (N4 h) (nD g g.aj.length l aZ (rZ h) fZ)
 have p:=gL (ao g) l aZ
 have F:=Ew d.right g.aj.length l
 have q:=mH (λm=>(C m).1) l aZ fZ
 unfold Sf
 generalize G:bF (ao g) l aZ=sp at p q j ⊢
 unfold ed at q
 simp(disch:=omega)only[↓wr,seval,wq,bW]
 intro n r
 have s:=(bU r bR).1
 have w:=(bU r bR).2
 try simp(disch:=omega)only[↓wr,seval,wq,bW]
 apply ai.split<;>intro c
 .have y:=p.1 c
  simp(disch:=omega)only[↓wr,seval,wq,bW]
  apply ai.dec<;>intro D
  .simp(disch:=omega)only[↓wr,seval,wq]
   exact .inr (.inl ⟨c,.inl D,rfl⟩)
  .simp(disch:=omega)only[↓wr,seval,wq,bW]
   apply ai.dec<;>intro E
   .simp(disch:=omega)only[↓wr,seval,wq]
    exact .inr (.inl ⟨c,.inr E,rfl⟩)
   .simp(disch:=omega)only[↓wr,seval,wq,bW]
    have I:=(bc.nil (H:=H)).new B 7 [je g (.emp 1) (.emp 1)]
    have J:=(j y).1 (by omega)
    have i:=Gx g A d b g.aj.length l e z (rZ y) [] [] (((H.set b (.arr 7 [je g (.emp 1) (.emp 1)])).set n (.arr 4 [[gi 0,gi 0,gi 0,gi 0]])).set n (.arr 4 [bW sp.1]))
     (by simp only[Vk];omega) (by simp only[Vk];omega)
     ⟨.emp 1,.emp 1,by
      rw[set_set]
      have K:=I.fresh (n:=n) (o:=.arr 4 [bW sp.1]) (by simp[View.set,s,w])
      exact((K.emp (k:=1) (sz:=1)).emp (k:=1) (sz:=1)).perm (FZ.trans (.swap _ _ _))⟩ u
     (f.keep λid a=>by
      have:id≠n:=by rintro rfl;simp[View.set,s,w] at a
      simp[View.set,this])
    simp only[Vk,je,bW] at i
    refine aw.dL (i.mono ?_)
    intro v H1 hw
    simp(disch:=omega)only[↓wr,seval,wq]
    exact .inr (.inr ⟨c,by omega,b,rfl,hw⟩)
 .simp(disch:=omega)only[↓wr,seval,wq]
  exact .inl ⟨c,rfl⟩
def uG:SF:=⟨ae [ab [bq 3 false],ab [aS 4 4 1,aa 5 0,aX 6 130 [4,5],c7 7 6,aa 3 7],.ret],
 [.tmp 3],8⟩
theorem zu:aH Tryz.prog 129 []=some uG:=by kernel_rfl
def ym:SF:=⟨ae [ab [cw 2 0,bI 4 1,aN 5 0],ae [.region false [⟨none,[aS 8 4 2,aX 9 89 [8],c7 10 9,aa 11 10]⟩,⟨(some (11,false)),[aa 12 1,((some 13),.op (.uo 129 [] [(.tmp 2)])),aX 14 90 [12,13]]⟩,⟨none,[cM 15 11 14]⟩],ba 15 (ae [ab [bI 4 1,aN 5 1],.ret])],ab [aS 17 4 2,aa 18 1,rf 19 131 [(.tmp 17),(.tmp 18),(.val (.val (.int .i64 60)))],aa 16 19,du 20 0 16,du 21 1 16,aa 6 20,aa 7 21],ae [ab [aa 22 7,aG 23 .neq 22 0],ba 23 (ae [ab [aa 24 7,bI 4 1,aa 5 24],.ret])],ab [aa 25 6,kN 26 25,al 27 6 26,ak 28 27,aa 4 28,aN 5 0],.ret],
 [.tmp 4,.tmp 5],29⟩
theorem Cc:aH Tryz.prog 67 [2]=some ym:=by kernel_rfl
theorem MV (g:ag) (x:Int) (b:bO x):az Tryz.prog 129 [gi x,.aJ (af g) 0] (gb (!dI g x)):=by
 refine az.val (by
  intro v a;simp at a
  rcases a with rfl | rfl
  .exact .val _
  .exact iQ (cz g)) λH=>?_
 refine av.of mixed zu ?_
 simp(disch:=omega)only[↓wr,seval,wq,uG,af,encS]
 refine aw.pure (IX g x b) ?_
 simp(disch:=omega)only[↓wr,seval,wq]
theorem Gc (g:ag) (s:g.Ok) (w:g.Small) (l:List Int) (y:l.length<=1000000) (t:∀ x∈l,bO x):b6 Tryz.prog 67 [.agg (af g),encI l] (Ag (dw g l)):=by
 have o:aL l:=by unfold aL;omega
 refine b6.of (by
  intro v f;simp at f
  rcases f with rfl | rfl
  .exact bZ _ (cz g)
  .exact bQ l) ?_
 refine av.of mixed Cc ?_
 simp(disch:=omega)only[↓wr,seval,wq,ym,af,encS]
 refine aw.pure (sT g s w.names) ?_
 have bad:∀ c:aC,(bV g && l.all (dI g))=false->dz c (.aY [.emp 1,gi 1]) (Ag (dw g l)):=λc e=>by
  unfold dw;rw[Ux (by rw[e];simp)];exact jX (x:=([],1)) (.emp _)
 have h:=mI l o 129 [.aJ (af g) 0] (by intro v f;simp at f;subst f;exact iQ (cz g)) (λx=>!dI g x) (λx n=>MV g x (t x n)) (by kernel_rfl)
 simp only[af,encS] at h
 simp(disch:=omega)only[↓wr,seval,wq,af,encS]
 apply ai.split<;>intro hr
 .simp(disch:=omega)only[↓wr,seval,wq,af,encS]
  refine aw.pure h ?_
  have i:l.any (λx=>!dI g x) = !l.all (dI g):=by rw[List.not_all_eq_any_not]
  rw[i]
  simp(disch:=omega)only[↓wr,seval,wq,af,encS]
  apply ai.split<;>intro a
  .have z:=b4 hr
   have d:dw g l=_:=Uz (by rw[hr,a];rfl)
   simp(disch:=omega)only[↓wr,seval,wq,af,encS]
   have p:∀ x∈l,bO x/\(x < 0->-1 - x < g.aj.length):=λx n=>⟨t x n,λA=>by
    have:=U3.1 a x n
    unfold dI at this
    rw[Ux (by omega)] at this
    simpa using this⟩
   have hw:=KF g s z l y p 60 (encI l) (λ_=>.dead) (.inl rfl)
   simp only[af,encS] at hw
   refine aw.dL (hw.mono ?_)
   rintro r H1 (⟨j,rfl⟩ | ⟨j,q,rfl⟩ | ⟨j,q,b,rfl,C,D,u⟩)
   .simp(disch:=omega)only[↓wr,↓reduceIte,wq,Nat.reduceEqDiff,Nat.reduceAdd,Nat.reduceLT,Nat.reduceLeDiff,Int.reduceNeg,Int.reduceToNat,reduceCtorEq,De]
    refine ai.ne (λ_=>?_) (λk=>absurd k (by decide))
    simp(disch:=omega)only[↓wr,seval,wq,De]
    rw[Uz j] at d
    intro c _
    rw[d];exact jX (x:=([],9)) (.emp _)
   .simp(disch:=omega)only[↓wr,↓reduceIte,wq,Nat.reduceEqDiff,Nat.reduceAdd,Nat.reduceLT,Nat.reduceLeDiff,Int.reduceNeg,Int.reduceToNat,reduceCtorEq,De]
    refine ai.ne (λ_=>?_) (λk=>absurd k (by decide))
    simp(disch:=omega)only[↓wr,seval,wq,De]
    rw[Ux (by rw[j];simp),Uz q] at d
    intro c _
    rw[d];exact jX (x:=([],13)) (.emp _)
   .rw[Ux (by rw[j];simp),Ux q] at d
    have m:=u.is 0 rfl (by simp)
    simp(disch:=omega)only[↓wr,↓reduceIte,wq,Nat.reduceEqDiff,Nat.reduceAdd,Nat.reduceLT,Nat.reduceLeDiff,Int.reduceNeg,Int.reduceToNat,reduceCtorEq,m,je]
    refine ai.ne (λk=>absurd rfl k) (λ_=>?_)
    simp(disch:=omega)only[↓wr,seval,wq,m,je]
    intro c B
    rw[d];exact jX (x:=(_,0)) (jf (by rw[B];exact u.own 2 rfl))
  .simp(disch:=omega)only[↓wr,seval,wq,af,encS]
   intro c _
   exact bad c (by rw[a,Bool.and_false])
 .simp(disch:=omega)only[↓wr,seval,wq,af,encS]
  intro c _
  exact bad c (by rw[hr,VM])
abbrev Qv (l:List (List Int)):List (List V):=l.map λw=>[encI w]
theorem HZ {id off k m:Nat} (hm:m<=k):cJ 1 (.sl id off k 1) none (some (gi m))=some (.sl id off m 1,.none,[]):=by
 simp[cJ,bound,asNat,hm]
def Lq:Value->Value->Bool
 | .int k a,.int k' b=>decide (k=k') && decide (a=b)
 | .bool a,.bool b=>a == b
 | .string a,.string b=>iV a b
 | .pointer none,.pointer none=>true
 | _,_=>false
theorem PM:∀ (a b:Value),Lq a b=true->a=b:=by
 intro a b h
 unfold Lq at h
 split at h
 .simp only[UJ,UN] at h
  rw[h.1,h.2]
 .rename_i a b
  rw[show a=b by simpa using h]
 .rename_i a b
  obtain⟨a⟩:=a
  obtain⟨b⟩:=b
  simp only[iV,Vr] at h
  rw[show a=b from Array.toList_inj.1 h]
 .rfl
 .simp at h
def zH (q:V->V->Bool):List V->List V->Bool
 | [],[]=>true
 | a :: l,b :: m=>q a b && zH q l m
 | _,_=>false
def JQ (q:V->V->Bool):List (List V)->List (List V)->Bool
 | [],[]=>true
 | a :: l,b :: m=>zH q a b && JQ q l m
 | _,_=>false
def DT:Nat->V->V->Bool
 | 0,_,_=>false
 | k+1,a,b=>match a,b with
  | .val x,.val y=>Lq x y
  | .aQ x,.aQ y=>JQ (DT k) x y
  | .agg x,.agg y=>zH (DT k) x y
  | .aY x,.aY y=>zH (DT k) x y
  | _,_=>false
theorem vx {q:V->V->Bool} (c:∀ a b,q a b=true->a=b):∀ (l m:List V),zH q l m=true->l=m
 | [],[],_=>rfl
 | a :: l,b :: m,h=>by
  simp only[zH,UJ] at h
  rw[c a b h.1,vx c l m h.2]
 | [],_ :: _,h=>by simp[zH] at h
 | _ :: _,[],h=>by simp[zH] at h
theorem Nx {q:V->V->Bool} (c:∀ a b,q a b=true->a=b):∀ (l m:List (List V)),JQ q l m=true->l=m
 | [],[],_=>rfl
 | a :: l,b :: m,h=>by
  simp only[JQ,UJ] at h
  rw[vx c a b h.1,Nx c l m h.2]
 | [],_ :: _,h=>by simp[JQ] at h
 | _ :: _,[],h=>by simp[JQ] at h
theorem Fy:∀ (k:Nat) (a b:V),DT k a b=true->a=b
 | 0,_,_,h=>by simp[DT] at h
 | k+1,a,b,h=>by
  have c:=Fy k
  unfold DT at h
  split at h
  .rw[PM _ _ h]
  .rw[Nx c _ _ h]
  .rw[vx c _ _ h]
  .rw[vx c _ _ h]
  .simp at h
def tw:Nat->V->Bool
 | 0,_=>false
 | k+1,v=>match v with
  | .val _=>true
  | .emp _=>true
  | .dS=>true
  | .aQ es=>es.all λe=>e.all (tw k)
  | .agg cs=>cs.all (tw k)
  | .aY cs=>cs.all (tw k)
  | _=>false
theorem wV {q:V->Bool} {l:List V} (h:l.all q=true) {i:Nat} (hi:i < l.length):q (l.getD i .any)=true:=by
 have e:l.getD i .any=l[i]:=by simp[Uu,hi]
 rw[e]
 exact U3.1 h _ (UC _)
theorem AB:∀ (k:Nat) (v:V),tw k v=true->Tree v
 | 0,_,h=>by simp[tw] at h
 | k+1,v,h=>by
  have a:=AB k
  unfold tw at h
  split at h
  .exact .val _
  .exact .emp _
  .exact .dS
  .rename_i es
   refine .aQ _ λi j hi b=>a _ ?_
   have e:es.getD i []=es[i]:=by simp[Uu,hi]
   have h1:=U3.1 h _ (UC hi)
   rw[e] at b ⊢
   exact wV h1 b
  .exact .agg _ λi hi=>a _ (wV h hi)
  .exact .aY _ λi hi=>a _ (wV h hi)
  .simp at h
noncomputable def wA (H:View):Nat->V->Option V
 | 0,_=>none
 | k+1,v=>match v with
  | .val x=>some (.val x)
  | .emp _=>some (.aQ [])
  | .aQ es=>match tw 60 (.aQ es) with
   | true=>some (.aQ es)
   | false=>none
  | .sl id off len _=>match H id with
   | .arr _ es=>match Nat.ble (off+len) es.length with
    | true=>(CJ (wA H k) ((es.drop off).take len)).map .aQ
    | false=>none
   | _=>none
  | .agg cs=>(ot (wA H k) cs).map .agg
  | .aY cs=>(ot (wA H k) cs).map .aY
  | _=>none
theorem C9 (h:aC):∀ (k:Nat) (v t:V),wA h.view k v=some t->Fr h v t
 | 0,v,t,a=>by simp[wA] at a
 | k+1,v,t,a=>by
  have b:=C9 h k
  simp only[wA] at a
  split at a
  .simp only[Uw] at a;subst a;exact .tree _ (.val _)
  .simp only[Uw] at a;subst a;exact .emp _
  .split at a
   .rename_i d
    simp only[Uw] at a;subst a;exact .tree _ (AB _ _ d)
   .simp at a
  .rename_i id off len esz
   split at a
   .rename_i z es hH
    split at a
    .rename_i hle
     have hle:=Nat.le_of_ble_eq_true hle
     simp only[UD] at a
     obtain⟨es',he,rfl⟩:=a
     obtain⟨g1,g2⟩:=Dt _ _ he
     have hlen:es'.length=len:=by rw[g1];simp;omega
     have e:∀ i,i < len->((es.drop off).take len).getD i []=es.getD (off+i) []:=λi hi=>by
      simp[Uu,VO,hi]
     have g3:∀ i,i < len->ot (wA h.view k) (es.getD (off+i) [])=some (es'.getD i []):=λi hi=>by
      rw[<-e i hi];exact g2 i (by rw[<-g1,hlen];exact hi)
     exact .sl id off len esz z es es' hH hle hlen (λi hi=>(ic _ _ (g3 i hi)).1) (λi j hi f=>b _ _ ((ic _ _ (g3 i hi)).2 j (by rw[<-(ic _ _ (g3 i hi)).1];exact f)))
    .simp at a
   .simp at a
  .simp only[UD] at a
   obtain⟨l,c,rfl⟩:=a
   obtain⟨g1,g2⟩:=ic _ _ c
   exact .agg _ _ g1 (λi hi=>b _ _ (g2 i hi))
  .simp only[UD] at a
   obtain⟨l,c,rfl⟩:=a
   obtain⟨g1,g2⟩:=ic _ _ c
   exact .aY _ _ g1 (λi hi=>b _ _ (g2 i hi))
  .simp at a
theorem az.seen {P:Program} {f:FuncId} {vs g:List V} {t:V} (p:az P f g t) (q:∀ i,i < vs.length->Tree (vs.getD i .any)) (r:g.length=vs.length) (k:∀ i,i < vs.length->Fr [] (vs.getD i .any) (g.getD i .any)):az P f vs t:=by
 intro Z μ w xs a n
 have l:gZ Z (λ_=>none) w.heap (cat [] λ_=>.dead):=by
  rw[CW]
  exact⟨λ_=>trivial,λi j b o s B C _ h=>by simp at h,λid b o s h=>by simp at h,n,λid b o s h=>by simp at h⟩
 have c:∀ b,¬ jk (λ_=>none) b:=λb ⟨_,_,_,h⟩=>by simp at h
 have m:fT (λb=>Z b∨jk (λ_=>none) b) μ w.heap g xs:=⟨by rw[r,a.1],λi hi=>A5 l (k i (by omega)) (vU (a.2 i (by omega)) (q i (by omega)))⟩
 refine(p _ μ w xs m (λb d=>d.elim (n b) (λh=>absurd h (c b)))).mono ?_
 rintro e w' ⟨x,u,rfl,v,y,h1,z,A⟩
 exact⟨x,u,rfl,v,y,λb d=>h1 b (.inl d),λb d=>(z b d).elim (λh=>h.elim .inl (λh=>absurd h (c b))) .inr,A⟩
abbrev Dg:=FuncId × List V × V × Bool
def Dg.Ok (P:Program) (x:Dg):Prop:=dE P x.1=true/\if x.2.2.2=true then az P x.1 x.2.1 x.2.2.1 else (b6 P x.1 x.2.1 x.2.2.1∨(az P x.1 x.2.1 x.2.2.1/\wC x.2.2.1))
noncomputable def QA (g:FuncId) (vs:List V) (H:View) (x:Dg):Bool:=Nat.beq x.1 g && (match x.2.2.2 with
 | true=>vs.all (tw 60) && (match ot (wA (λ_=>.dead) 60) vs with
  | some ts=>zH (DT 60) ts x.2.1
  | none=>false)
 | false=>match ot (wA H 60) vs with
  | some ts=>zH (DT 60) ts x.2.1
  | none=>false)
noncomputable def Li (l:List Dg):yJ:=λg vs H=>(l.find? (QA g vs H)).map λx=>x.2.2.1
theorem F8 {P:Program} {l:List Dg} (o:∀ x∈l,x.Ok P):sA P (Li l):=by
 intro g vs H t h
 unfold Li at h
 simp only[UD] at h
 obtain⟨⟨f,q,r,b⟩,n,rfl⟩:=h
 obtain⟨h1,c⟩:=o _ (List.mem_of_find?_eq_some n)
 have a:=List.find?_some n
 simp only[QA,UJ] at a
 obtain⟨k,a⟩:=a
 have k:=V9 k
 simp only at k h1 c a
 subst k
 refine⟨h1,?_⟩
 rintro h rfl
 cases b with
 | true =>
  simp only[UJ] at a
  obtain⟨m,d⟩:=a
  split at d
  .rename_i us e
   obtain⟨g1,g2⟩:=ic _ _ e
   have:=vx (Fy 60) _ _ d
   subst this
   simp only[if_true] at c
   exact bK.gh (c.seen (λi hi=>AB _ _ (wV m hi)) g1 λi hi=>C9 [] 60 _ _ (g2 i hi)) h
  .simp at d
 | false =>
  simp only at a
  split at a
  .rename_i us e
   obtain⟨g1,g2⟩:=ic _ _ e
   have:=vx (Fy 60) _ _ a
   subst this
   have j:=λi hi=>C9 h 60 _ _ (g2 i hi)
   simp only[UX,if_false] at c
   rcases c with c | ⟨c,p⟩
   .exact bK.uU c g1 j
   .exact bK.borrow c p g1 j
  .simp at a
def th (x:Int):Bool:=decide (-9223372036854775808<=x) && decide (x<=9223372036854775807)
theorem pJ {x:Int} (h:th x=true):bO x:=by
 unfold th at h
 simp only[UJ,UN] at h
 exact h
def okB (g:ag):Bool:=decide (g.au.length<=900) && decide (g.aj.length<=100) && decide (g.rules.length<=900) && th g.start && g.au.all (λt=>th t.level && th t.assoc) && g.rules.all λr=>th r.left && th r.prec && decide (r.right.length<=900) && r.right.all th
theorem Sz {g:ag} (h:okB g=true):g.Ok/\g.Small:=by
 unfold okB at h
 simp only[UJ,UN,U3] at h
 obtain⟨⟨⟨⟨⟨h1,f⟩,i⟩,c⟩,a⟩,d⟩:=h
 refine⟨⟨by unfold aL;omega,by unfold aL;omega,by unfold aL;omega,pJ c,λt b=>⟨pJ (a t b).1,pJ (a t b).2⟩,λr hr=>?_⟩,⟨by omega⟩⟩
 have:=d r hr
 exact⟨pJ this.1.1.1,pJ this.1.1.2,by unfold aL;have:=this.1.2;omega,λx e=>pJ (this.2 x e)⟩
theorem mY:iO.Ok/\iO.Small:=Sz (by kernel_rfl)
structure fe where
 sym:Int
 to:Int
 deriving DecidableEq
def ki (x:fe):List V:=[gi x.sym,gi x.to]
structure aE where
 ax:Int
 dot:Int
 deriving DecidableEq
def bA (x:aE):List V:=[gi x.ax,gi x.dot]
def aT (l:List aE):List (List V):=l.map bA
def cF (a b:aE):Bool:=decide (a.ax < b.ax) || (decide (a.ax=b.ax) && decide (a.dot < b.dot))
def en:List aE->aE->List aE
 | [],x=>[x]
 | y :: l,x=>if cF y x=true then y :: en l x else if y=x then y :: l else x :: y :: l
theorem Q4 (a b:aE):∀ v∈[V.agg (bA a),.agg (bA b)],Tree v:=by
 intro v c;simp at c
 rcases c with rfl | rfl <;> exact bZ _ λv c=>by simp[bA] at c;rcases c with rfl | rfl <;> exact .val _
def qR:SF:=⟨ae [ab [cw 2 0,cw 3 1,bq 4 false],.region false [⟨none,[al 5 0 2,ak 6 5,al 7 0 3,ak 8 7,aR 9 .lss 6 8,aa 10 9]⟩,⟨(some (10,false)),[al 11 0 2,ak 12 11,al 13 0 3,ak 14 13,aR 15 .eql 12 14,aa 16 15]⟩,⟨(some (16,true)),[al 17 1 2,ak 18 17,al 19 1 3,ak 20 19,aR 21 .lss 18 20]⟩,⟨(some (10,false)),[eu 22 16 21]⟩,⟨none,[cM 23 10 22,aa 4 23]⟩],.ret],
 [.tmp 4],24⟩
theorem vf:aH Tryz.prog 198 [2,3]=some qR:=by kernel_rfl
def pw:SC :=
 ae [ae [.region false [⟨none,[aa 7 5,aa 8 0,aM 9 8,aR 10 .lss 7 9,aa 11 10]⟩,⟨(some (11,true)),[aa 12 0,aa 13 5,aO 14 2 12 13,aS 15 2 14,aS 16 2 3,aX 17 198 [15,16]]⟩,⟨none,[eu 18 11 17]⟩],bX 18 (.exit 0)],.block 1 (ab [aa 19 5,aG 20 .add 19 1,aa 5 20])]
def re:SF:=⟨ae [ab [cw 3 1,bI 4 1],ab [aN 5 0],bY 0 pw,ae [.region false [⟨none,[aa 21 5,aa 22 0,aM 23 22,aR 24 .lss 21 23,aa 25 24]⟩,⟨(some (25,true)),[aa 26 0,aa 27 5,aO 28 2 26 27,aS 29 2 28,aS 30 2 3,((some 31),.op (.old (.binOp .eql 120 (.tmp 29) (.tmp 30) 120) 4))]⟩,⟨none,[eu 32 25 31]⟩],ba 32 (ae [ab [aa 33 0,aa 4 33],.ret])],ab [bI 34 2,aa 35 0,aa 36 5,((some 37),.op (.slice 2 (.tmp 35) (some (.tmp 36)) none)),fk 38 2 16 34 37,aa 6 38],ab [aa 39 0,aa 40 5,((some 41),.op (.slice 2 (.tmp 39) none (some (.tmp 40)))),aS 42 2 3,((some 43),.op (.bP 1 2 [(.val (.int .i64 0)),(.val (.int .i64 0))] [(0,(.tmp 42))])),fk 44 2 16 41 43,aa 45 6,fk 46 2 16 44 45,aa 4 46],.ret],
 [.tmp 4],47⟩
theorem wi:aH Tryz.prog 133 [3]=some re:=by kernel_rfl
theorem OP (a b:aE):az Tryz.prog 198 [.agg (bA a),.agg (bA b)] (gb (cF a b)):=by
 refine az.val (Q4 a b) λH=>?_
 refine av.of mixed vf ?_
 unfold cF
 simp(disch:=omega)only[↓wr,seval,wq,qR,bA]
 apply ai.dec<;>intro h1
 .simp(disch:=omega)only[↓wr,seval,wq]
  rw[Wb h1];rfl
 simp(disch:=omega)only[↓wr,seval,wq,bA]
 apply ai.eq<;>intro c
 .simp(disch:=omega)only[↓wr,seval,wq,bA]
  rw[decide_eq_false h1,Wb c];rfl
 .simp(disch:=omega)only[↓wr,seval,wq]
  rw[decide_eq_false h1,decide_eq_false c];rfl
def dX:List aE->aE->Nat
 | [],_=>0
 | y :: l,x=>if cF y x=true then dX l x+1 else 0
theorem A6:∀ (l:List aE) (x:aE),dX l x<=l.length
 | [],_=>UF _
 | y :: l,x=>by
  rw[dX];split
  .have:=A6 l x;simp;omega
  .simp
theorem Cs:∀ (l:List aE) (x:aE) (i:Nat) (y:aE),l[i]?=some y->i < dX l x->cF y x=true
 | [],_,_,_,h,_=>by simp at h
 | z :: l,x,0,y,h,hi=>by
  rw[dX] at hi;split at hi
  .simp at h;subst h;assumption
  .omega
 | z :: l,x,i+1,y,h,hi=>by
  rw[dX] at hi;split at hi
  .exact Cs l x i y (by simpa using h) (by omega)
  .omega
theorem BN:∀ (l:List aE) (x:aE) (y:aE),l[dX l x]?=some y->cF y x=false
 | [],_,_,h=>by simp at h
 | z :: l,x,y,h=>by
  rw[dX] at h;split at h
  .exact BN l x y (by simpa using h)
  .rename_i e;simp at h;subst h;simpa using e
theorem vH:∀ (l:List aE) (x:aE),en l x=if l[dX l x]?=some x then l else l.take (dX l x) ++ [x] ++ l.drop (dX l x)
 | [],x=>by simp[en,dX]
 | y :: l,x=>by
  rw[en,dX]
  split
  .have:=vH l x
   simp only[Ve,List.take_succ_cons,List.drop_succ_cons,Va]
   rw[this];split <;> simp
  .simp only[U1,Uw,List.take_zero,Vv,Vk,Va]
theorem qm (x y:aE):gM Tryz.prog 9998 #[.int .i64 x.ax,.int .i64 x.dot] #[.int .i64 y.ax,.int .i64 y.dot]
  [{ name:= "Rule",type:=3,offset:=0,embedded:=false,tag:= "",pkgPath:= "",byteOffset:=0 },{ name:= "Dot",type:=3,offset:=1,embedded:=false,tag:= "",pkgPath:= "",byteOffset:=8 }] ((x.ax == y.ax) && ((x.dot == y.dot) && true)) :=
 .int _ _ _ .i64 _ _ (by decide) Tryz.underlying3 rfl rfl (.int _ _ _ .i64 _ _ (by decide) Tryz.underlying3 rfl rfl .nil)
theorem yp (x y:aE):((x.ax == y.ax) && ((x.dot == y.dot) && true))=decide (x=y):=by
 cases x;cases y;rw[Vw];simp
theorem oo {sz id off k m:Nat} (hm:m<=k):cJ sz (.sl id off k sz) (some (gi m)) none=some (.sl id (off+m) (k - m) sz,.none,[]):=by
 simp[cJ,bound,asNat,hm]
theorem oH {sz id off k m:Nat} (hm:m<=k):cJ sz (.sl id off k sz) none (some (gi m))=some (.sl id off m sz,.none,[]):=by
 simp[cJ,bound,asNat,hm]
theorem Ov (l:List aE):((aT l).all λe=>e.length == 2 && e.all aF)=true:=by
 simp[aT,VN,bA,aF]
theorem Oh {H:View} {u:V} {sz:Nat} {es:List (List V)} (h:aK H u sz es):∃ rd,bC H u=some (es,rd):=by
 rcases h with ⟨rfl,k,rfl⟩ | ⟨n,rfl,a⟩
 .exact⟨_,tQ _ k⟩
 .cases es with
  | nil=>exact⟨[],by simp[bC]⟩
  | cons e es =>
   exact⟨_,by rw[show (e :: es).length=es.length+1 from rfl,jO _ n 0 es.length sz sz _ a (by simp),Vv,UK (by simp)]⟩
theorem p7 {sz bytes:Nat} {u:V} {es:List (List V)} {H:View} {K:V->View->Prop} {w:cG (H,K)} (a:aK H u sz es) (h:K u H):mr sz bytes u [] H K w:=by
 unfold mr
 rcases a with ⟨_,k,rfl⟩ | ⟨n,rfl,_⟩ <;> simpa using h
theorem Left.behind {H H':View} {q:Nat} {o:dB} {u r:V} (d:H q=.dead) (h:Left (H.set q o) H' u r):Left H H' u r:=λa c b=>by
 have e:¬ a=q:=by rintro rfl;exact c d
 have:=h a (by simp[View.set,e];exact c) b
 simpa [View.set,e] using this
theorem AM (u:V) (l:List aE) (hl:l.length<=100000) (x:aE) (H:View) (v:aK H u 2 (aT l)):av Tryz.prog 133 [u,.agg (bA x)] H λr H'=>aK H' r 2 (aT (en l x))/\Left H H' u r:=by
 refine av.of mixed wi ?_
 have hlen:cd u=some l.length:=by rw[v.len];simp[aT]
 have hle:=A6 l x
 simp(disch:=omega)only[↓wr,seval,wq,re,bA]
 refine aV.up (dX l x) (λi T H'=>H'=H/\i<=dX l x/\T 0=u/\T 3=.aJ (bA x) 0/\T 5=gi i) ⟨rfl,by omega,rfl,rfl,rfl⟩ ?_
 rintro i k T H' hk ⟨Z,hi,t0,t3,t5⟩
 subst Z
 simp(disch:=omega)only[↓wr,seval,wq,pw,t0,t3,t5,hlen]
 have stop:i=dX l x->True:=λ_=>trivial
 apply ai.dec<;>intro K
 .have w:l[i]?=some (l[i]'(by omega)):=Uv (by omega)
  generalize l[i]'(by omega)=y at w
  obtain⟨id,hu,b⟩:=v.sl (by simp[aT];omega)
  have n:(aT l).length=l.length:=by simp[aT]
  have L:(aT l).getD i []=bA y:=by simp[aT,Uu,w]
  have A:=OP y x
  simp only[bA] at A L
  simp(disch:=omega)only[↓wr,seval,wq,t0,t3,t5,hu,b,L,bA]
  refine⟨by simp[aT];omega,by simp[aT];omega,?_⟩
  refine aw.pure A ?_
  simp(disch:=omega)only[↓wr,seval,wq,t0,t3,t5]
  apply ai.split<;>intro e
  .have B:i < dX l x:=by
    rcases UZ i (dX l x) with h | h
    .exact h
    .have:=BN l x y (by rw[show dX l x=i by omega];exact w)
     rw[this] at e;exact absurd e (by simp)
   simp(disch:=omega)only[↓wr,seval,wq,t0,t3,t5]
   exact aD hk B ⟨rfl,B,t0,t3,rfl⟩
  have s:i=dX l x:=by
   rcases UZ i (dX l x) with h | h
   .rw[Cs l x i y w h] at e;exact absurd e (by simp)
   .omega
  simp(disch:=omega)only[↓wr,seval,wq,t0,t3,t5,hlen]
  refine ai.dec (λ_=>?_) (λh=>absurd K h)
  simp(disch:=omega)only[↓wr,seval,wq,t0,t3,t5,hu,b,L,bA]
  refine⟨by simp[aT];omega,by simp[aT];omega,?_⟩
  refine jc (xs:=#[.int .i64 y.ax,.int .i64 y.dot]) (ys:=#[.int .i64 x.ax,.int .i64 x.dot]) Tryz.underlying120 (by kernel_rfl) (by kernel_rfl) ?_ ?_ (qm y x) (.inl ⟨rfl,rfl⟩) ?_
  .rfl
  .rfl
  rw[yp]
  simp(disch:=omega)only[↓wr,seval,wq,t0,t3,t5]
  apply ai.dec<;>intro M
  .subst M
   simp(disch:=omega)only[↓wr,seval,wq,t0]
   rw[vH,Uz (by rw[<-s];exact w)]
   exact⟨v,λid b v=>⟨rfl,v⟩⟩
  rw[n] at hu
  have N:bC H' (.sl id i (l.length - i) 2)=some (aT (l.drop i),[id]):=by
   obtain⟨q,d⟩:∃ q,l.length - i=q+1:=⟨l.length - i - 1,by omega⟩
   rw[d,jO H' id i q 2 2 (aT l) b (by rw[n];omega)]
   rw[show (aT l).drop i=aT (l.drop i) from List.map_drop.symm,UK (by simp[aT];omega)]
  simp(disch:=omega)only[↓wr,seval,wq,t0,t3,t5,hu,oo (sz:=2) (id:=id) (off:=0) (k:=l.length) (m:=i) (by omega),N]
  refine eo aK.nil (Ov _) (by unfold aB aT;simp;omega) (by unfold aB aT;simp;omega) ?_
  intro rest H1 O lr
  simp(disch:=omega)only[↓wr,seval,wq,t0,t3,t5,hu,oH (sz:=2) (id:=id) (off:=0) (k:=l.length) (m:=i) (by omega),bA]
  intro q d
  have C:owner rest≠some id:=(lr id (by rw[b];simp) (by simp[owner])).2
  have f:H1 id=.arr 2 (aT l):=by rw[(lr id (by rw[b];simp) (by simp[owner])).1,b]
  have D:¬ id=q:=by rintro rfl;rw[f] at d;simp at d
  simp(disch:=omega)only[↓wr,seval,wq,bH]
  rw[sO _ _ _ _ _ _ _ _ _ _ (by rfl)]
  simp(disch:=omega)only[↓wr,seval,wq,D,f,n]
  refine⟨⟨by omega,by unfold aB;omega,by unfold aB;omega⟩,λj c=>?_⟩
  try rw[Vv]
  have E:¬ j=q:=by rintro rfl;simp at c
  rw[Ux E] at c
  have F:¬ j=id:=by rintro rfl;rw[f] at c;simp at c
  have g:=((O.fresh (o:=.arr 2 [[gi x.ax,gi x.dot]]) d).other (o:=.dead) C).fresh (m:=j) (o:=.arr 2 (List.take i (aT l) ++ [[gi x.ax,gi x.dot]])) (by simp[View.set,E,F,c])
  have G:aK (((H1.set q (.arr 2 [[gi x.ax,gi x.dot]])).set id .dead).set j (.arr 2 (List.take i (aT l) ++ [[gi x.ax,gi x.dot]]))) (.sl j 0 (i+1) 2) 2 (List.take i (aT l) ++ [[gi x.ax,gi x.dot]]):=.inr ⟨j,by simp[n];omega,by simp[View.set]⟩
  have I:∀ a,H' a≠.dead->a≠id->(((H1.set q (.arr 2 [[gi x.ax,gi x.dot]])).set id .dead).set j (.arr 2 (List.take i (aT l) ++ [[gi x.ax,gi x.dot]]))) a=H' a/\a≠j:=λa z P=>by
   have h1:=(lr a z (by simp[owner])).1
   have aq:¬ a=q:=by rintro rfl;rw[d] at h1;exact z h1.symm
   have W:¬ a=j:=by rintro rfl;rw[c] at h1;exact z h1.symm
   exact⟨by simp[View.set,aq,W,P,h1],W⟩
  generalize ((H1.set q (.arr 2 [[gi x.ax,gi x.dot]])).set id .dead).set j (.arr 2 (List.take i (aT l) ++ [[gi x.ax,gi x.dot]]))=H3 at g G I ⊢
  rw[Vk] at g
  obtain⟨rd,he⟩:=Oh g
  simp(disch:=omega)only[↓wr,seval,wq,he]
  refine eo G (Ov _) (by unfold aB aT;simp;omega) (by unfold aB aT;simp;omega) ?_
  intro r X t J
  simp(disch:=omega)only[↓wr,seval,wq]
  refine⟨?_,λa z Q=>?_⟩
  .rw[vH,Ux (by rw[<-s,w];simpa using M),<-s]
   simpa [aT,bA,List.map_take,List.map_drop] using t
  .obtain⟨Y,k2⟩:=I a z (by rintro rfl;exact Q (by rw[hu];rfl))
   have:=J a (by rw[Y];exact z) (by simp[owner];exact λh=>k2 h.symm)
   exact⟨by rw[this.1,Y],this.2⟩
 .simp(disch:=omega)only[↓wr,seval,wq,t0,t3,t5,hlen]
  refine ai.dec (λh=>absurd h K) (λ_=>?_)
  have R:i=l.length:=by omega
  subst R
  have p:aT (en l x)=aT l ++ [[gi x.ax,gi x.dot]]:=by
   rw[vH,show dX l x=l.length by omega,U6 (UF _),Ux (by simp),List.take_length,List.drop_length]
   simp[aT,bA]
  rcases v with ⟨e,k0,hu⟩ | ⟨id,hu,b⟩
  .have S:l=[]:=by simpa [aT] using e
   subst S
   simp(disch:=omega)only[↓wr,seval,wq,t0,t3,t5,hu,show ∀ k,cJ 2 (.emp k) (some (gi 0)) none=some (.emp k,.none,[]) from λk=>rfl,show ∀ k,cJ 2 (.emp k) none (some (gi 0))=some (.emp k,.none,[]) from λk=>rfl]
   refine p7 aK.nil ?_
   simp(disch:=omega)only[↓wr,seval,wq,t0,t3,t5,hu,show ∀ k,cJ 2 (.emp k) none (some (gi 0))=some (.emp k,.none,[]) from λk=>rfl,bA]
   intro q d
   simp(disch:=omega)only[↓wr,seval,wq,bH]
   refine eo (sz:=2) (u:=.emp k0) aK.nil (by simp[aF]) (by unfold aB;simp) (by unfold aB;simp) ?_
   intro r X t J
   simp(disch:=omega)only[↓wr,seval,wq]
   refine p7 t ?_
   simp(disch:=omega)only[↓wr,seval,wq]
   exact⟨by rw[p];exact t,hu ▸ Left.behind d J⟩
  .rw[show (aT l).length=l.length by simp[aT]] at hu
   simp(disch:=omega)only[↓wr,seval,wq,t0,t3,t5,hu,oo (sz:=2) (id:=id) (off:=0) (k:=l.length) (m:=l.length) (by omega),oH (sz:=2) (id:=id) (off:=0) (k:=l.length) (m:=l.length) (by omega)]
   rw[Nat.sub_self,show bC H' (.sl id l.length 0 2)=some ([],[]) from rfl]
   simp(disch:=omega)only[↓wr,seval,wq]
   refine p7 aK.nil ?_
   simp(disch:=omega)only[↓wr,seval,wq,t0,t3,t5,hu,oH (sz:=2) (id:=id) (off:=0) (k:=l.length) (m:=l.length) (by omega),bA]
   intro q d
   simp(disch:=omega)only[↓wr,seval,wq,bH]
   have U:aK H' (.sl id 0 l.length 2) 2 (aT l):=.inr ⟨id,by simp[aT],b⟩
   refine eo (sz:=2) (U.fresh d) (by simp[aF]) (by unfold aB aT;simp;omega) (by unfold aB aT;simp;omega) ?_
   intro r X t J
   simp(disch:=omega)only[↓wr,seval,wq]
   refine p7 t ?_
   simp(disch:=omega)only[↓wr,seval,wq]
   exact⟨by rw[p];exact t,hu ▸ Left.behind d J⟩
def bG (g:ag) (r:Int):List Int:=if r = -1 then [-1 - g.start] else (bN g r).right
def bw (g:ag) (x:aE):Int × Bool:=if x.dot=(bG g x.ax).length then (0,false) else ((bG g x.ax).getD x.dot.toNat 0,true)
def ph:SF:=⟨ae [ab [cw 2 0,bI 4 1],ae [ab [aa 5 1,aG 6 .eql 5 (-1)],ba 6 (ae [ab [al 7 3 2,ak 8 7,((some 9),.op (.arith .sub (.val (.val (.int .i64 (-1)))) (.tmp 8))),((some 10),.op (.bP 1 1 [(.val (.int .i64 0))] [(0,(.tmp 9))])),aa 4 10],.ret])],ab [al 11 2 2,ak 12 11,aa 13 1,aO 14 3 12 13,al 15 1 14,ak 16 15,aa 4 16],.ret],
 [.tmp 4],17⟩
theorem uk:aH Tryz.prog 199 [2]=some ph:=by kernel_rfl
def qJ:SF:=⟨ae [ab [cw 2 0,cw 3 1,aN 4 0,bq 5 false],ab [aS 7 4 2,al 8 0 3,ak 9 8,aX 10 199 [7,9],aa 6 10],ae [ab [al 11 1 3,ak 12 11,aa 13 6,aM 14 13,aR 15 .eql 12 14],ba 15 (ae [ab [aN 4 0,bq 5 false],.ret])],ab [aa 16 6,al 17 1 3,ak 18 17,aO 19 1 16 18,ak 20 19,aa 4 20,bq 5 true],.ret],
 [.tmp 4,.tmp 5],21⟩
theorem vp:aH Tryz.prog 134 [2,3]=some qJ:=by kernel_rfl
theorem BF (g:ag) (d : -100<=g.start/\g.start<=100) (r:Int) (hr : -1<=r/\r < (g.rules.length:Int)):az Tryz.prog 199 [.agg (af g),gi r] (encI (bG g r)):=by
 refine az.of (by
  intro v a;simp at a
  rcases a with rfl | rfl
  .exact bZ _ (cz g)
  .exact .val _) ?_
 refine av.of mixed uk ?_
 unfold bG
 simp(disch:=omega)only[↓wr,seval,wq,ph,af,encS]
 apply ai.eq<;>intro h1
 .simp(disch:=omega)only[↓wr,seval,wq,af,encS]
  intro n
  rw[Uz h1]
  rintro c a
  refine dz.fr (jf (l:=[-1 - g.start]) (.inr ⟨n,rfl,?_⟩))
  rw[a];simp[View.set]
 .have b:g.rules[r.toNat]?=some (bN g r):=by unfold bN;exact getD_some (by omega)
  rw[Ux h1]
  generalize bN g r=R at b
  simp(disch:=omega)only[↓wr,seval,wq,af,encS,Uy,b,UH,aI]
  intro c _
  exact .tree _ (bQ R.right)
theorem L7 (g:ag) (c : -100<=g.start/\g.start<=100) (x:aE) (d : -1<=x.ax/\x.ax < (g.rules.length:Int)) (e:0<=x.dot/\x.dot<=(bG g x.ax).length) (f:(bG g x.ax).length<=1000) :
  az Tryz.prog 134 [.agg (af g),.agg (bA x)] (.aY [gi (bw g x).1,gb (bw g x).2]):=by
 have h1:=BF g c x.ax d
 refine az.tree (by
  intro v a;simp at a
  rcases a with rfl | rfl
  .exact bZ _ (cz g)
  .exact bZ _ λv a=>by simp[bA] at a;rcases a with rfl | rfl <;> exact .val _) (.aY _ λi hi=>by
   match i,hi with
   | 0,_=>exact .val _
   | 1,_=>exact .val _) λH=>?_
 refine av.of mixed vp ?_
 simp only[af,encS,encI] at h1
 unfold bw
 simp(disch:=omega)only[↓wr,seval,wq,qJ,af,encS,bA]
 refine aw.pure h1 ?_
 generalize bG g x.ax=R at e f ⊢
 simp(disch:=omega)only[↓wr,seval,wq,bA]
 apply ai.eq<;>intro b
 .simp(disch:=omega)only[↓wr,seval,wq]
  rw[Uz b]
 .have h:R[x.dot.toNat]?=some (R.getD x.dot.toNat 0):=getD_some (by omega)
  simp(disch:=omega)only[↓wr,seval,wq,bA,Uy,h,UH]
  rw[Ux b]
theorem fH {a b:aE} : cF a b=true↔a.ax < b.ax∨a.ax=b.ax/\a.dot < b.dot:=by
 simp[cF]
theorem oI {a b c:aE} (h:cF a b=true) (k:cF b c=true):cF a c=true:=by
 rw[fH] at h k ⊢;omega
theorem lg {a:aE} : cF a a=false:=by
 cases h:cF a a with
 | false=>rfl
 | true=>rw[fH] at h;omega
theorem HN {a b:aE} (h:cF a b=true):cF b a=false:=by
 cases k:cF b a with
 | false=>rfl
 | true=>have:=oI h k;rw[lg] at this;exact absurd this (by simp)
theorem vQ {a b:aE} (h:cF a b=false) (c:¬ a=b):cF b a=true:=by
 rw[fH]
 have h1:¬ cF a b=true:=by simp[h]
 rw[fH] at h1
 obtain⟨d,ad⟩:=a
 obtain⟨e,f⟩:=b
 simp only[aE.mk.injEq] at c
 simp only at h1 ⊢
 omega
abbrev cb (l:List aE):Prop:=l.Pairwise λa b=>cF a b=true
theorem iR:∀ {l:List aE} {x y:aE},y∈en l x↔y=x∨y∈l
 | [],x,y=>by simp[en]
 | z :: l,x,y=>by
  rw[en]
  split
  .simp only[UO,iR (l:=l)]
   constructor
   .rintro (h | h | h) <;> simp[h]
   .rintro (h | h | h) <;> simp[h]
  .split
   .rename_i h;subst h;simp
   .simp
theorem od:∀ {l:List aE} {x:aE},cb l->cb (en l x)
 | [],x,_=>by simp[en,cb]
 | z :: l,x,h=>by
  rw[cb,VE] at h
  rw[en]
  split
  .rename_i c
   rw[cb,VE]
   refine⟨λy a=>?_,od h.2⟩
   rcases iR.1 a with rfl | a
   .exact c
   .exact h.1 y a
  .rename_i c
   split
   .exact VE.2 h
   .rename_i d
    have b:=vQ (by simpa using c) d
    rw[cb,VE]
    refine⟨λy a=>?_,VE.2 h⟩
    rcases UO.1 a with rfl | a
    .exact b
    .exact oI b (h.1 y a)
theorem D6:∀ (l:List aE) (x:aE),(en l x).length=l.length∨(en l x).length=l.length+1
 | [],x=>.inr rfl
 | z :: l,x=>by
  rw[en]
  split
  .rcases D6 l x with h | h <;> simp[h]
  .split <;> simp
theorem Bu:∀ {l:List aE} {x:aE},cb l->x∈l->en l x=l
 | [],x,_,h=>by simp at h
 | z :: l,x,a,h=>by
  rw[cb,VE] at a
  rw[en]
  rcases UO.1 h with rfl | h
  .rw[Ux (by simp[lg]),Uz rfl]
  .rw[Uz (a.1 x h),Bu a.2 h]
theorem A4:∀ {l:List aE} {x:aE},x ∉ l->(en l x).length=l.length+1
 | [],x,_=>rfl
 | z :: l,x,h=>by
  simp only[UO,not_or] at h
  rw[en]
  split
  .simp[A4 h.2]
  .rw[Ux (λe=>h.1 e.symm)];rfl
theorem D4:∀ {l:List aE} {x:aE},(∀ y∈l,cF y x=true)->en l x=l ++ [x]
 | [],x,_=>rfl
 | z :: l,x,h=>by
  rw[en,Uz (h z (by simp)),D4 λy a=>h y (by simp[a])];rfl
theorem yf:∀ {a b:List aE},cb a->cb b->(∀ x,x∈a↔x∈b)->a=b
 | [],[],_,_,_=>rfl
 | [],y :: b,_,_,h=>by have:=(h y).2 (by simp);simp at this
 | x :: a,[],_,_,h=>by have:=(h x).1 (by simp);simp at this
 | x :: a,y :: b,d,e,h=>by
  rw[cb,VE] at d e
  have f:x=y:=by
   have h1:=(h x).1 (by simp)
   have c:=(h y).2 (by simp)
   rcases UO.1 h1 with h1 | h1
   .exact h1
   .rcases UO.1 c with c | c
    .exact c.symm
    .have:=oI (d.1 y c) (e.1 x h1)
     rw[lg] at this;exact absurd this (by simp)
  subst f
  congr 1
  refine yf d.2 e.2 λz=>?_
  have g:=h z
  simp only[UO] at g
  constructor
  .intro hm
   rcases g.1 (.inr hm) with rfl | h
   .have:=d.1 z hm;rw[lg] at this;exact absurd this (by simp)
   .exact h
  .intro hm
   rcases g.2 (.inr hm) with rfl | h
   .have:=e.1 z hm;rw[lg] at this;exact absurd this (by simp)
   .exact h
theorem F4:∀ (l:List Int) (a n:Int),l.Pairwise (· < ·)->(∀ x∈l,a<=x/\x < a+n)->0<=n->(l.length:Int)<=n
 | [],a,n,_,_,b=>by simpa using b
 | x :: l,a,n,hp,hm,b=>by
  rw[VE] at hp
  have h1:=hm x (by simp)
  have:=F4 l (x+1) (a+n - (x+1)) hp.2 (λy c=>by have:=hp.1 y c;have:=hm y (by simp[c]);omega) (by omega)
  simp only[UE];omega
def cq (g:ag) (x:aE):Prop:=(-1<=x.ax/\x.ax < (g.rules.length:Int))/\0<=x.dot/\x.dot<=(bG g x.ax).length
theorem dD {g:ag} (a:g.cX) {r:Int} (h : -1<=r/\r < (g.rules.length:Int)):(bG g r).length<=6:=by
 unfold bG
 split
 .simp
 .have b:g.rules[r.toNat]?=some (bN g r):=by unfold bN;exact getD_some (by omega)
  exact a.right _ (UL b)
theorem jT {g:ag} (f:g.cX) {l:List aE} (i:cb l) (h:∀ x∈l,cq g x):l.length<=287:=by
 have d:∀ x∈l,0<=x.dot/\x.dot<=6:=λx c=>by
  have h1:=h x c
  have:=dD f h1.1
  exact⟨h1.2.1,by have:=h1.2.2;omega⟩
 have h1:(l.map λx=>(x.ax+1) * 7+x.dot).Pairwise (· < ·):=by
  rw[List.pairwise_map]
  refine List.Pairwise.imp_of_mem ?_ i
  intro a b j k e
  rw[fH] at e
  have:=d a j;have:=d b k
  omega
 have:=F4 _ 0 287 h1 (λy m=>by
  obtain⟨x,c,rfl⟩:=U0.1 m
  have n:=(h x c).1
  have:=d x c;have:=f.rules
  omega) (by omega)
 simp at this
 omega
inductive mF (g:ag) (l:List aE):aE->Prop
 | base {x:aE} : x∈l->mF g l x
 | step {x:aE} {s:Int} {k:Nat} {R:bb} : mF g l x->bw g x=(s,true)->s < 0->g.rules[k]?=some R->R.left = -1 - s->mF g l ⟨k,0⟩
theorem mF.has {g:ag} {l:List aE} (a:∀ x∈l,cq g x) {x:aE} (h:mF g l x):cq g x:=by
 induction h with
 | base h=>exact a _ h
 | step _ _ _ hk _ _ =>
  have:=(UI.1 hk).1
  exact⟨⟨by simp only;omega,by simp only;omega⟩,by simp only;omega,by simp only;omega⟩
def GW (g:ag):List aE:=(List.range (g.rules.length+1)).flatMap λ(r:Nat)=>(List.range 7).map λ(d:Nat)=>(⟨(r:Int) - 1,(d:Int)⟩:aE)
theorem Ll {g:ag} (a:g.cX) {x:aE} (h:cq g x):x∈GW g:=by
 have:=dD a h.1
 obtain⟨⟨h1,b⟩,c,e⟩:=h
 simp only[GW,List.mem_flatMap,U0,VC]
 refine⟨(x.ax+1).toNat,by omega,x.dot.toNat,by omega,?_⟩
 obtain⟨r,d⟩:=x
 simp only at h1 b c e this
 simp only[aE.mk.injEq];omega
theorem sk:∀ (l a:List aE),cb a->cb (l.foldl en a)/\∀ x,x∈l.foldl en a↔x∈a∨x∈l
 | [],a,h=>⟨h,λx=>by simp⟩
 | y :: l,a,h=>by
  obtain⟨h1,b⟩:=sk l (en a y) (od h)
  refine⟨h1,λx=>?_⟩
  rw[Vf,b,iR,UO]
  constructor
  .rintro ((h | h) | h) <;> simp[h]
  .rintro (h | h | h) <;> simp[h]
open Classical in
noncomputable def cK (g:ag) (l:List aE):List aE:=((GW g).filter λx=>decide (mF g l x)).foldl en []
theorem rI (g:ag) (l:List aE):cb (cK g l):=(sk _ [] .nil).1
theorem fM {g:ag} (a:g.cX) {l:List aE} (b:∀ x∈l,cq g x) {x:aE} : x∈cK g l↔mF g l x:=by
 classical
 rw[cK,(sk _ [] .nil).2]
 simp only[List.not_mem_nil,false_or,Vu,UN]
 exact⟨λh=>h.2,λh=>⟨Ll a (h.has b),h⟩⟩
theorem Al {g:ag} (b:g.cX) {l o:List aE} (c:∀ x∈l,cq g x) (a:cb o) (h1:∀ x∈o,mF g l x) (d:∀ x∈l,x∈o)
  (e:∀ x∈o,∀ (s:Int) (k:Nat) (R:bb),bw g x=(s,true)->s < 0->g.rules[k]?=some R->R.left = -1 - s->(⟨k,0⟩:aE)∈o):cK g l=o:=by
 refine yf (rI g l) a λx=>?_
 rw[fM b c]
 refine⟨λh=>?_,h1 x⟩
 induction h with
 | base h=>exact d _ h
 | step _ f a hk i j=>exact e _ j _ _ _ f a hk i
def bh (g:ag) (l:List aE) (s:Int):List aE:=(l.filter λx=>decide (bw g x=(s,true))).map λx=>⟨x.ax,x.dot+1⟩
theorem pQ {g:ag} {l:List aE} {s:Int} {y:aE} : y∈bh g l s↔∃ x∈l,bw g x=(s,true)/\y=⟨x.ax,x.dot+1⟩:=by
 simp only[bh,U0,Vu,UN]
 constructor
 .rintro⟨x,⟨h1,a⟩,rfl⟩;exact⟨x,h1,a,rfl⟩
 .rintro⟨x,h1,a,rfl⟩;exact⟨x,⟨h1,a⟩,rfl⟩
theorem DM {g:ag} {l:List aE} (s:Int) (h:cb l):cb (bh g l s):=by
 rw[cb,bh,List.pairwise_map]
 refine(h.filter _).imp ?_
 intro a b c
 rw[fH] at c ⊢
 simp only;omega
theorem ui {g:ag} {x:aE} {s:Int} (h:bw g x=(s,true)):x.dot≠(bG g x.ax).length/\(bG g x.ax).getD x.dot.toNat 0=s:=by
 unfold bw at h
 split at h
 .simp at h
 .rename_i a;exact⟨a,by simpa using h⟩
theorem Gl {g:ag} {l:List aE} {s:Int} (a:∀ x∈l,cq g x):∀ y∈bh g l s,cq g y:=by
 intro y b
 obtain⟨x,c,d,rfl⟩:=pQ.1 b
 have h1:=a x c
 have e:=(ui d).1
 exact⟨h1.1,by simp only;have:=h1.2;omega,by simp only;have:=h1.2;omega⟩
theorem On {g:ag} {l:List aE} (b:cb l) {i:Nat} {x:aE} (c:l[i]?=some x) (s:Int) :
  bh g (l.take (i+1)) s=if bw g x=(s,true) then en (bh g (l.take i) s) ⟨x.ax,x.dot+1⟩ else bh g (l.take i) s:=by
 have e:l.take (i+1)=l.take i ++ [x]:=by rw[UW,c];rfl
 rw[e]
 split
 .rename_i h
  rw[D4]
  .simp[bh,h]
  .intro y d
   obtain⟨z,f,_,rfl⟩:=pQ.1 d
   have a:cb (l.take (i+1)):=b.sublist (List.take_sublist _ _)
   rw[e,cb,List.pairwise_append] at a
   have:=a.2.2 z f x (by simp)
   rw[fH] at this ⊢
   simp only;omega
 .rename_i h
  simp[bh,h]
theorem se {g:ag} {l:List aE} {s:Int} : (bh g l s).length<=l.length:=by
 rw[bh,UB];exact VU _ _
structure aP where
 bj:List aE
 b5:List fe
 deriving DecidableEq
abbrev bJ:aP:=⟨[],[]⟩
def aU (g:ag) (i:Nat):Int:=if i < g.au.length then i else -1 - ((i:Int) - g.au.length)
def findD:List aP->List aE->Int
 | [],_=>-1
 | s :: l,k=>if s.bj=k then 0 else if findD l k < 0 then -1 else findD l k+1
theorem sH:∀ (l:List aP) (k:List aE),-1<=findD l k
 | [],_=>by simp[findD]
 | s :: l,k=>by
  have:=sH l k
  rw[findD];split
  .omega
  .split <;> omega
theorem wU:∀ (l:List aP) (k:List aE),findD l k < l.length
 | [],_=>by simp[findD]
 | s :: l,k=>by
  have:=wU l k
  rw[findD];simp only[UE];split
  .omega
  .split <;> omega
theorem FB:∀ (l:List aP) (k:List aE) (i:Nat),findD l k=i->∃ s,l[i]?=some s/\s.bj=k
 | [],_,i,h=>by simp[findD] at h
 | s :: l,k,i,h=>by
  rw[findD] at h
  split at h
  .rename_i e
   have:i=0:=by omega
   subst this
   exact⟨s,rfl,e⟩
  .split at h
   .omega
   .obtain⟨j,rfl⟩:∃ j,i=j+1:=⟨i - 1,by omega⟩
    obtain⟨t,h1,a⟩:=FB l k j (by omega)
    exact⟨t,by simpa using h1,a⟩
theorem GO:∀ (l:List aP) (k:List aE),findD l k < 0->∀ s∈l,s.bj≠k
 | [],_,_,s,a=>by simp at a
 | t :: l,k,h,s,a=>by
  rw[findD] at h
  split at h
  .omega
  .rename_i b
   have c:findD l k < 0:=by
    split at h
    .assumption
    .omega
   rcases UO.1 a with rfl | a
   .exact b
   .exact GO l k c s a
theorem Gu:∀ (l:List aP) (k:List aE) (i:Nat) (s:aP),l[i]?=some s->s.bj=k->(∀ j t,j < i->l[j]?=some t->t.bj≠k)->findD l k=i
 | [],_,_,_,h,_,_=>by simp at h
 | t :: l,k,0,s,h,hk,_=>by simp at h;subst h;simp[findD,hk]
 | t :: l,k,i+1,s,h,hk,a=>by
  have b:=a 0 t (by omega) rfl
  have:=Gu l k i s (by simpa using h) hk λj u c hu=>a (j+1) u (by omega) (by simpa using hu)
  rw[findD,Ux b,this,Ux (by omega)];omega
theorem Cb:∀ (l:List aP) (k:List aE),(∀ s∈l,s.bj≠k)->findD l k = -1
 | [],_,_=>rfl
 | t :: l,k,h=>by
  have:=Cb l k λs a=>h s (by simp[a])
  rw[findD,Ux (h t (by simp)),this];rfl
def cU (g:ag) (l:List aE) (at_:Nat) (out:List aP) (i:Nat):List aP :=
 if bh g l (aU g i)=[] then out else
 if findD out (bh g l (aU g i)) < 0 then (out ++ [(⟨bh g l (aU g i),[]⟩:aP)]).modify at_ λs=>(⟨s.bj,s.b5 ++ [⟨aU g i,out.length⟩]⟩:aP)
 else out.modify at_ λs=>(⟨s.bj,s.b5 ++ [⟨aU g i,findD out (bh g l (aU g i))⟩]⟩:aP)
noncomputable def tS (g:ag) (at_:Nat) (out:List aP) (n:Nat):List aP:=(List.range n).foldl (cU g (cK g (out.getD at_ bJ).bj) at_) out
noncomputable def eZ (g:ag):Nat->Nat->List aP->List aP × Int
 | 0,_,out=>(out,0)
 | f+1,at_,out=>if at_ < out.length then
   (if 300 < (tS g at_ out (g.au.length+g.aj.length)).length then ([],5) else eZ g f (at_+1) (tS g at_ out (g.au.length+g.aj.length)))
  else (out,0)
def dM:List aP:=[⟨[⟨-1,0⟩],[]⟩]
abbrev BV:=BitVec 32
def gv:List fe->Int->Int
 | [],_=>-1
 | e :: l,s=>if e.sym=s then e.to else gv l s
def iT (a:List aP):Int->List Int->Int × Bool
 | at_,[]=>(at_,true)
 | at_,s :: l=>if 0<=gv (a.getD at_.toNat bJ).b5 s/\gv (a.getD at_.toNat bJ).b5 s < a.length then iT a (gv (a.getD at_.toNat bJ).b5 s) l else (0,false)
def mh (a:List aP) (at_:Int) (l:List Int):Int × Bool:=if at_ < 0∨(a.length:Int)<=at_ then (0,false) else iT a at_ l
abbrev Sets:=List (List BV)
theorem ET {α:Type} (l:List α) (i j:Nat) (x d:α):(l.set i x).getD j d=if i=j/\i < l.length then x else l.getD j d:=by
 simp only[Uu,VA]
 by_cases e:i=j
 .subst e
  by_cases h:i < l.length
  .simp[h]
  .simp[h]
 .simp[e]
def fX (g:ag) (x:aE):List Int:=if 0<=x.ax then (bN g x.ax).right.drop (x.dot+1).toNat else []
section
variable {g:ag} {null:List Bool} {a:List aP} {ls:List (List aE)}
end
end Gv
