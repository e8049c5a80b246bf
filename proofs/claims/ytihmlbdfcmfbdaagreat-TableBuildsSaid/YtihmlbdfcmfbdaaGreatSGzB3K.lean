/-
  Part 11 of the proof: what the machine does and what the functions answer.
  Conditions: those that each lemma names.
-/
import Derived.Test.YtihmlbdfcmfbdaaGreatSGzB3J
set_option linter.unusedSimpArgs false
set_option linter.unusedVariables false
set_option maxRecDepth 100000
set_option maxHeartbeats 20000000
namespace Gv
open Go Go.Proofs
def bQ {κ:Type} (kv:κ->V) (m:bW κ):List (V × V × Nat):=m.map λx=>(kv x.1,x.2.1,x.2.2)
structure Jn {κ:Type} [BEq κ] (P:Program) (kt:TypeId) (kv:κ->V):Prop where
 find:∀ k e m,oc P kt (kv k) e (bQ kv m)=some (iB k m)
 same:∀ k,sameKey (kv k) (kv k)=true
def im {κ:Type} (m:bW κ) (c:Nat):Prop:=(m.map (·.2.2)).Nodup/\∀ x∈m,x.2.2 < c
def kB {κ:Type} [BEq κ] (m:bW κ) (k:κ):Option Nat:=(m.find? λx=>k == x.1).map (·.2.2)
section
variable {κ:Type} [BEq κ] [LawfulBEq κ] {kv:κ->V}
theorem oy (k:κ):∀ m:bW κ,match iB k m with
  | some i=>∃ x,m[i]?=some x/\x.1=k/\getM m k=some x.2.1/\kB m k=some x.2.2/\(bQ kv m)[i]?=some (kv k,x.2.1,x.2.2)/\∀ v c,(bQ kv m).set i (kv k,v,x.2.2)=bQ kv (bN k v c m)/\kB (bN k v c m) k=some x.2.2/\(bN k v c m).map (·.2.2)=m.map (·.2.2)
  | none=>getM m k=none/\kB m k=none/\∀ v c,bQ kv m ++ [(kv k,v,c)]=bQ kv (bN k v c m)/\kB (bN k v c m) k=some c/\(bN k v c m).map (·.2.2)=m.map (·.2.2) ++ [c]
 | []=>⟨rfl,rfl,λv c=>⟨rfl,by simp[bN,kB],rfl⟩⟩
 | x :: r=>by
  have a:=oy k r
  simp only[iB]
  cases hk:k == x.1 with
  | true =>
   have b:x.1=k:=(eq_of_beq hk).symm
   exact⟨x,rfl,b,by simp[getM,hk],by simp[kB,hk],by simp[bQ,b],λv c=>by simp[bN,hk,bQ,kB]⟩
  | false =>
   simp only[ZM,if_false]
   cases hi:iB k r with
   | some i =>
    rw[hi] at a
    obtain⟨y,h1,d,e,f,g,h⟩:=a
    refine⟨y,by simpa using h1,d,by simpa [getM,hk] using e,by simpa [kB,hk] using f,by simpa [bQ] using g,λv c=>?_⟩
    obtain⟨g1,g2,g3⟩:=h v c
    exact⟨by simp only[bQ] at g1 ⊢;simp[bN,hk,g1],by simpa [bN,hk,kB] using g2,by simp[bN,hk,g3]⟩
   | none =>
    rw[hi] at a
    refine⟨by simpa [getM,hk] using a.1,by simpa [kB,hk] using a.2.1,λv c=>?_⟩
    obtain⟨g1,g2,g3⟩:=a.2.2 v c
    exact⟨by simp only[bQ] at g1 ⊢;simp[bN,hk,g1],by simpa [bN,hk,kB] using g2,by simp[bN,hk,g3]⟩
theorem im.put {m:bW κ} {c:Nat} (h:im m c) (k:κ) (v:V):im (bN k v c m) (c+1):=by
 have f:=oy (kv:=λ_=>V.any) k m
 cases i:iB k m with
 | some j =>
  rw[i] at f
  obtain⟨y,_,_,_,_,_,n⟩:=f
  have e:=(n v c).2.2
  refine⟨by rw[e];exact h.1,λx g=>?_⟩
  have:x.2.2∈m.map (·.2.2):=by rw[<-e];exact ZF.2 ⟨x,g,rfl⟩
  obtain⟨y,d,o⟩:=ZF.1 this
  have:=h.2 y d
  omega
 | none =>
  rw[i] at f
  have e:=(f.2.2 v c).2.2
  refine⟨?_,λx g=>?_⟩
  .rw[e,aak]
   refine⟨h.1,by simp,λa p b l=>?_⟩
   simp at l;subst l
   obtain⟨y,d,rfl⟩:=ZF.1 p
   have:=h.2 y d
   omega
  .have:x.2.2∈m.map (·.2.2) ++ [c]:=by rw[<-e];exact ZF.2 ⟨x,g,rfl⟩
   rcases ZN.1 this with h1 | h1
   .obtain⟨y,d,o⟩:=ZF.1 h1
    have:=h.2 y d
    omega
   .simp at h1;omega
theorem im.TZ {m:bW κ} {c:Nat} (h:im m c) {k:κ} {b:Nat} (d:kB m k=some b) (v:V) (f:Nat):im (bN k v f m) c:=by
 have a:=oy (kv:=λ_=>V.any) k m
 cases g:iB k m with
 | some j =>
  rw[g] at a
  obtain⟨y,_,_,_,_,_,i⟩:=a
  have e:=(i v f).2.2
  refine⟨by rw[e];exact h.1,λx l=>?_⟩
  have:x.2.2∈m.map (·.2.2):=by rw[<-e];exact ZF.2 ⟨x,l,rfl⟩
  obtain⟨y,n,o⟩:=ZF.1 this
  have:=h.2 y n
  omega
 | none =>
  rw[g] at a
  rw[a.2.1] at d;simp at d
omit [BEq κ] [LawfulBEq κ] in
theorem find_born (b:Nat):∀ (m:bW κ) (i:Nat) (x:κ × V × Nat),(m.map (·.2.2)).Nodup->m[i]?=some x->x.2.2=b->(bQ kv m).findIdx? (λe=>e.2.2 == b)=some i
 | [],i,x,_,h,_=>by simp at h
 | y :: m,0,x,a,h,e=>by
  simp at h;subst h
  simp[bQ,List.findIdx?_cons,e]
 | y :: m,i+1,x,a,h,e=>by
  simp only[ZJ,aah] at a
  have h:m[i]?=some x:=by simpa using h
  have f:x∈m:=Zp h
  have c:¬ y.2.2=b:=λg=>a.1 (by rw[g,<-e];exact ZF.2 ⟨x,f,rfl⟩)
  have d:=find_born b m i x a.2 h e
  simp only[bQ] at d
  simp[bQ,List.findIdx?_cons,c,d]
variable {P:Program} {T:Env} {H:View} {kt et t ty:TypeId}
theorem IS {K:V->View->Prop} {w:cO (T,H,K)} {x i:Operand} {z:V} {id c:Nat} {m:bW κ} {k:κ} (hm:dK P t=some (kt,et)) (d:zeroV P et=some z) (hk:Jn P kt kv)
  (e:ev T x=.mp id) (hi:ev T i=kv k) (hH:H id=.map (bQ kv m) c) (h:K ((getM m k).getD z) H):j5 P (.lookup t x i false) ty T H K w:=by
 intro n _
 have f:=hk.find k (bQ kv m).isEmpty m
 have a:=oy (kv:=kv) k m
 refine⟨(getM m k).getD z,.none,[id],?_,h⟩
 simp only[sI,cx,oper,gF,hm,d,e,hi,hH,f]
 cases b:iB k m with
 | some j =>
  rw[b] at a
  obtain⟨y,h1,o,g,p,l,_⟩:=a
  simp[l,g]
 | none =>
  rw[b] at a
  simp[a.1]
theorem QT {z:V} {id c:Nat} {m:bW κ} {k:κ} (hm:dK P t=some (kt,et)) (l:zeroV P et=some z) (hk:Jn P kt kv) (hH:H id=.map (bQ kv m) c) (e:im m c) :
  ∃ b f,eT P t (.mp id) (kv k) H=some (.bt [(getM m k).getD z,jd b],.fK id (.map (bQ kv (bN k ((getM m k).getD z) c m)) f),[id])/\im (bN k ((getM m k).getD z) c m) f/\kB (bN k ((getM m k).getD z) c m) k=some b:=by
 have d:=hk.find k false m
 have a:=oy (kv:=kv) k m
 cases g:iB k m with
 | some j =>
  rw[g] at a d
  obtain⟨y,h1,p,h,n,o,i⟩:=a
  refine⟨y.2.2,c,?_,?_,?_⟩
  .simp only[eT,hm,hH,d,o,hk.same k,if_true,h,ZC]
   rw[(i y.2.1 c).1]
  .exact e.TZ n _ _
  .rw[h];exact(i _ c).2.1
 | none =>
  rw[g] at a d
  refine⟨c,c+1,?_,e.put k _,?_⟩
  .simp only[eT,hm,hH,d,l,a.1,Option.getD_none]
   rw[(a.2.2 z c).1]
  .rw[a.1];exact(a.2.2 _ c).2.1
theorem WI {K:V->View->Prop} {w:cO (T,H,K)} {x i:Operand} {z:V} {id c:Nat} {m:bW κ} {k:κ} (hm:dK P t=some (kt,et)) (d:zeroV P et=some z) (hk:Jn P kt kv)
  (e:ev T x=.mp id) (hi:ev T i=kv k) (hH:H id=.map (bQ kv m) c) (f:im m c)
  (h:∀ b a,im (bN k ((getM m k).getD z) c m) a->kB (bN k ((getM m k).getD z) c m) k=some b->K (.bt [(getM m k).getD z,jd b]) (H.set id (.map (bQ kv (bN k ((getM m k).getD z) c m)) a))):j5 P (.mapEntry t x i) ty T H K w:=by
 intro n _
 obtain⟨b,a,h1,g,j⟩:=QT (k:=k) hm d hk hH f
 refine⟨.bt [(getM m k).getD z,jd b],.fK id (.map (bQ kv (bN k ((getM m k).getD z) c m)) a),[id],?_,h b a g j⟩
 simp only[sI,cx,oper,e,hi]
 exact h1
theorem Xi {K:V->View->Prop} {w:cO (T,H,K)} {x s y:Operand} {id c b:Nat} {m:bW κ} {k:κ} {v:V} (i:ev T x=.mp id) (hs:ev T s=jd b) (l:ev T y=v) (hH:H id=.map (bQ kv m) c) (o:im m c) (a:kB m k=some b)
  (h:∀ c0,K .any (H.set id (.map (bQ kv (bN k v c0 m)) c))):j5 P (.entryStore t x s y) ty T H K w:=by
 intro n _
 have d:=oy (kv:=kv) k m
 cases g:iB k m with
 | none=>rw[g] at d;rw[d.2.1] at a;simp at a
 | some j =>
  rw[g] at d
  obtain⟨z,h1,A,B,f,p,q⟩:=d
  rw[a] at f
  have e:z.2.2=b:=by simp at f;exact f.symm
  have r:=find_born (kv:=kv) b m j z o.1 h1 e
  refine⟨.any,.fK id (.map (bQ kv (bN k v c m)) c),[id],?_,h c⟩
  have u:asNat (jd b)=some b:=by simp[asNat,jd]
  simp only[sI,cx,oper,i,hs,l,lh,u,hH,r,p]
  rw[(q v c).1]
end
theorem A3 {P:Program} {α:Type} (x:α):bM P (pure x:Sem α)=some x:=rfl
def Vz:List Int:=[37,37,32,115,32,58,32,39,97,39,32,115,32,124,32,59]
def rM:aj:=⟨[⟨⟨#[39,97,39]⟩,0,0⟩],[⟨#[115]⟩],[⟨0,[0,(-1)],0⟩,⟨0,[],(-1)⟩],0⟩
theorem XS:cE Tryz.prog 49 [DD Vz] (uf rM):=MT (by kernel_rfl)
section
variable {g:aj} {p:List Int} {T:Tb} {N:Nat}
end
theorem ep.U2 {H:View} {u:V} {l:List Int} (h:aV H u 1 (bF l)):ep H u (encI l):=ep.own h λe he v a=>by
 obtain⟨x,_,rfl⟩:=ZF.1 he
 simp at a;subst a;exact .val _
section
variable {g r:aj} {p q:List Bool} {o:List Int}
end
section
variable {fit:List Int->Bool} {T b:Nat}
end
def tG (l:List (List Int)):V:=.aD (l.map λw=>[encI w])
theorem OP (l:List (List Int)):Tree (tG l):=dZ _ _ λx _ v a=>by
 simp at a;subst a;exact ew x
abbrev Yg:=List (V × List Int)
def F0 (b:Yg):List (List V):=b.map λx=>[x.1]
def Pt (H:View) (u:V) (out:List (List Int)):Prop:=∃ b:Yg,b.map (·.2)=out/\aV H u 1 (F0 b)/\∀ x∈b,aV H x.1 1 (bF x.2)
theorem Pt.Yf {h:aF} {u:V} {out:List (List Int)} (d:Pt h.view u out):dg h u (tG out):=by
 obtain⟨b,rfl,d,f⟩:=d
 have c:∀ i (hi:i < b.length),(F0 b).getD i []=[(b[i]).1]/\(((b.map (·.2)).map λw=>[encI w]).getD i [])=[encI (b[i]).2]:=λi hi=>by
  simp[F0,Zi,hi]
 refine dg.own d (by simp[F0]) (λi hi=>?_) (λi j hi e=>?_)
 .have a:i < b.length:=by simpa [F0] using hi
  rw[(c i a).1,(c i a).2];rfl
 .have a:i < b.length:=by simpa [F0] using hi
  rw[(c i a).2] at e ⊢
  rw[(c i a).1]
  have:j=0:=by simp at e;omega
  subst this
  simp only[aat]
  exact dg.Od (f _ (Zs a))
section
variable {P:Program} {T:Env} {H:View} {K:V->View->Prop} {w:cO (T,H,K)} {t t1 e ty:TypeId}
end
theorem LC {id off k m:Nat} (hm:m<=k):dE 1 (.sl id off k 1) none (some (gi m))=some (.sl id off m 1,.none,[]):=by
 simp[dE,bound,asNat,hm]
def oY:SC :=
 ae [ae [ab [aa 11 5,aa 12 0,aP 13 12,aS 14 .lss 11 13],bT 14 (.exit 0)],.block 1 (ae [ab [aa 17 0,aa 18 5,aH 19 1 17 18,ai 20 19,aa 21 1,aa 22 5,aH 23 1 21 22,ai 24 23,bh 25 37 [20,24],c6 26 25],bc 26 (ae [ab [bz 4 false],.ret])]),ab [aa 15 5,aG 16 .add 15 1,aa 5 16]]
def ra:SF:=⟨ae [ab [bz 4 false],ae [ab [aa 6 0,aP 7 6,aa 8 1,aP 9 8,aS 10 .neq 7 9],bc 10 (ae [ab [bz 4 false],.ret])],ae [ab [aQ 5 0],bU 0 oY],ab [bz 4 true],.ret],
 [.tmp 4],27⟩
theorem wQ:aN Tryz.prog 87 []=some ra:=by kernel_rfl
theorem Vi (a b:List (List Int)) (j:aJ a) (hs:∀ w∈a,aJ w):az Tryz.prog 87 [tG a,tG b] (gb (a == b)):=by
 refine az.val (by intro v f;simp at f;rcases f with rfl | rfl <;> exact OP _) λH=>?_
 refine au.of mixed wQ ?_
 unfold aJ at j
 simp(disch:=omega)only[↓wr,seval,wq,ra,tG]
 apply ah.ne<;>intro h
 .simp(disch:=omega)only[↓wr,seval,wq]
  rw[Nh (by omega)]
 .simp(disch:=omega)only[↓wr,seval,wq]
  refine aR.up a.length (λi T H'=>a.take i=b.take i/\T 0=tG a/\T 1=tG b/\T 5=gi i) ⟨by simp,rfl,rfl,rfl⟩ ?_
  rintro i k T H' hk ⟨hi,c,h1,d⟩
  simp(disch:=omega)only[↓wr,seval,wq,oY,c,h1,d,tG]
  apply ah.dec<;>intro l
  .have e:a[i]?=some (a[i]'(by omega)):=Zj (by omega)
   have g:b[i]?=some (b[i]'(by omega)):=Zj (by omega)
   have hm:=Zp e
   have hp:=NW (a[i]'(by omega)) (b[i]'(by omega)) (hs _ hm)
   simp(disch:=omega)only[↓wr,seval,wq,c,h1,d,tG,Zm,e,g,Zq]
   refine ax.pure hp ?_
   simp(disch:=omega)only[↓wr,seval,wq]
   apply ah.split<;>intro hd
   .simp(disch:=omega)only[↓wr,seval,wq,c,h1,d]
    refine aE hk (by omega) ⟨?_,c,h1,rfl⟩
    have hd:=eq_of_beq hd
    rw[ZG,ZG,hi,e,g,hd]
   .simp(disch:=omega)only[↓wr,seval,wq]
    have:(a == b)=false:=by
     simp only[beq_eq_false_iff_ne]
     rintro rfl
     simp at hd
    rw[this]
  .simp(disch:=omega)only[↓wr,seval,wq,c,h1,d]
   rw[Zx (by omega),Zx (by omega)] at hi
   rw[hi];simp
def Pp:Value->Value->Bool
 | .int k a,.int k' b=>decide (k=k') && decide (a=b)
 | .bool a,.bool b=>a == b
 | .string a,.string b=>jR a b
 | .pointer none,.pointer none=>true
 | _,_=>false
theorem U8:∀ (a b:Value),Pp a b=true->a=b:=by
 intro a b h
 unfold Pp at h
 split at h
 .simp only[Zw,ZA] at h
  rw[h.1,h.2]
 .rename_i a b
  rw[show a=b by simpa using h]
 .rename_i a b
  obtain⟨a⟩:=a
  obtain⟨b⟩:=b
  simp only[jR,aaz] at h
  rw[show a=b from Array.toList_inj.1 h]
 .rfl
 .simp at h
def CV (q:V->V->Bool):List V->List V->Bool
 | [],[]=>true
 | a :: l,b :: m=>q a b && CV q l m
 | _,_=>false
def L2 (q:V->V->Bool):List (List V)->List (List V)->Bool
 | [],[]=>true
 | a :: l,b :: m=>CV q a b && L2 q l m
 | _,_=>false
def G3:Nat->V->V->Bool
 | 0,_,_=>false
 | k+1,a,b=>match a,b with
  | .val x,.val y=>Pp x y
  | .aD x,.aD y=>L2 (G3 k) x y
  | .agg x,.agg y=>CV (G3 k) x y
  | .bt x,.bt y=>CV (G3 k) x y
  | _,_=>false
theorem xO {q:V->V->Bool} (hq:∀ a b,q a b=true->a=b):∀ (l m:List V),CV q l m=true->l=m
 | [],[],_=>rfl
 | a :: l,b :: m,h=>by
  simp only[CV,Zw] at h
  rw[hq a b h.1,xO hq l m h.2]
 | [],_ :: _,h=>by simp[CV] at h
 | _ :: _,[],h=>by simp[CV] at h
theorem QK {q:V->V->Bool} (hq:∀ a b,q a b=true->a=b):∀ (l m:List (List V)),L2 q l m=true->l=m
 | [],[],_=>rfl
 | a :: l,b :: m,h=>by
  simp only[L2,Zw] at h
  rw[xO hq a b h.1,QK hq l m h.2]
 | [],_ :: _,h=>by simp[L2] at h
 | _ :: _,[],h=>by simp[L2] at h
theorem Kv:∀ (k:Nat) (a b:V),G3 k a b=true->a=b
 | 0,_,_,h=>by simp[G3] at h
 | k+1,a,b,h=>by
  have c:=Kv k
  unfold G3 at h
  split at h
  .rw[U8 _ _ h]
  .rw[QK c _ _ h]
  .rw[xO c _ _ h]
  .rw[xO c _ _ h]
  .simp at h
def vS:Nat->V->Bool
 | 0,_=>false
 | k+1,v=>match v with
  | .val _=>true
  | .emp _=>true
  | .ef=>true
  | .aD es=>es.all λe=>e.all (vS k)
  | .agg cs=>cs.all (vS k)
  | .bt cs=>cs.all (vS k)
  | _=>false
theorem zo {q:V->Bool} {l:List V} (h:l.all q=true) {i:Nat} (hi:i < l.length):q (l.getD i .any)=true:=by
 have e:l.getD i .any=l[i]:=by simp[Zi,hi]
 rw[e]
 exact ZZ.1 h _ (Zs _)
theorem DH:∀ (k:Nat) (v:V),vS k v=true->Tree v
 | 0,_,h=>by simp[vS] at h
 | k+1,v,h=>by
  have a:=DH k
  unfold vS at h
  split at h
  .exact .val _
  .exact .emp _
  .exact .ef
  .rename_i es
   refine .aD _ λi j hi b=>a _ ?_
   have e:es.getD i []=es[i]:=by simp[Zi,hi]
   have h1:=ZZ.1 h _ (Zs hi)
   rw[e] at b ⊢
   exact zo h1 b
  .exact .agg _ λi hi=>a _ (zo h hi)
  .exact .bt _ λi hi=>a _ (zo h hi)
  .simp at h
noncomputable def zS (H:View):Nat->V->Option V
 | 0,_=>none
 | k+1,v=>match v with
  | .val x=>some (.val x)
  | .emp _=>some (.aD [])
  | .aD es=>match vS 60 (.aD es) with
   | true=>some (.aD es)
   | false=>none
  | .sl id off len _=>match H id with
   | .arr _ es=>match Nat.ble (off+len) es.length with
    | true=>(Gr (zS H k) ((es.drop off).take len)).map .aD
    | false=>none
   | _=>none
  | .agg cs=>(pX (zS H k) cs).map .agg
  | .bt cs=>(pX (zS H k) cs).map .bt
  | _=>none
theorem Gs (h:aF):∀ (k:Nat) (v t:V),zS h.view k v=some t->Fr h v t
 | 0,v,t,a=>by simp[zS] at a
 | k+1,v,t,a=>by
  have b:=Gs h k
  simp only[zS] at a
  split at a
  .simp only[Zl] at a;subst a;exact .tree _ (.val _)
  .simp only[Zl] at a;subst a;exact .emp _
  .split at a
   .rename_i c
    simp only[Zl] at a;subst a;exact .tree _ (DH _ _ c)
   .simp at a
  .rename_i id off len esz
   split at a
   .rename_i z es hH
    split at a
    .rename_i hle
     have hle:=Nat.le_of_ble_eq_true hle
     simp only[Zu] at a
     obtain⟨es',he,rfl⟩:=a
     obtain⟨g1,g2⟩:=Gf _ _ he
     have hlen:es'.length=len:=by rw[g1];simp;omega
     have d:∀ i,i < len->((es.drop off).take len).getD i []=es.getD (off+i) []:=λi hi=>by
      simp[Zi,aaZ,hi]
     have g3:∀ i,i < len->pX (zS h.view k) (es.getD (off+i) [])=some (es'.getD i []):=λi hi=>by
      rw[<-d i hi];exact g2 i (by rw[<-g1,hlen];exact hi)
     exact .sl id off len esz z es es' hH hle hlen (λi hi=>(ji _ _ (g3 i hi)).1) (λi j hi e=>b _ _ ((ji _ _ (g3 i hi)).2 j (by rw[<-(ji _ _ (g3 i hi)).1];exact e)))
    .simp at a
   .simp at a
  .simp only[Zu] at a
   obtain⟨l,hl,rfl⟩:=a
   obtain⟨g1,g2⟩:=ji _ _ hl
   exact .agg _ _ g1 (λi hi=>b _ _ (g2 i hi))
  .simp only[Zu] at a
   obtain⟨l,hl,rfl⟩:=a
   obtain⟨g1,g2⟩:=ji _ _ hl
   exact .bt _ _ g1 (λi hi=>b _ _ (g2 i hi))
  .simp at a
theorem az.seen {P:Program} {f:FuncId} {vs g:List V} {t:V} (p:az P f g t) (q:∀ i,i < vs.length->Tree (vs.getD i .any)) (hl:g.length=vs.length) (k:∀ i,i < vs.length->Fr [] (vs.getD i .any) (g.getD i .any)):az P f vs t:=by
 intro Z μ w xs a n
 have l:iU Z (λ_=>none) w.heap (cat [] λ_=>.dead):=by
  rw[FY]
  exact⟨λ_=>trivial,λi j b o s z A _ h=>by simp at h,λid b o s h=>by simp at h,n,λid b o s h=>by simp at h⟩
 have c:∀ b,¬ j6 (λ_=>none) b:=λb ⟨_,_,_,h⟩=>by simp at h
 have m:gS (λb=>Z b∨j6 (λ_=>none) b) μ w.heap g xs:=⟨by rw[hl,a.1],λi hi=>E2 l (k i (by omega)) (zL (a.2 i (by omega)) (q i (by omega)))⟩
 refine(p _ μ w xs m (λb d=>d.elim (n b) (λh=>absurd h (c b)))).mono ?_
 rintro e w' ⟨x,r,rfl,u,hs,h1,v,y⟩
 exact⟨x,r,rfl,u,hs,λb d=>h1 b (.inl d),λb d=>(v b d).elim (λh=>h.elim .inl (λh=>absurd h (c b))) .inr,y⟩
abbrev zA:=FuncId × List V × V × Bool
def zA.Ok (P:Program) (x:zA):Prop:=dS P x.1=true/\if x.2.2.2=true then az P x.1 x.2.1 x.2.2.1 else (cE P x.1 x.2.1 x.2.2.1∨(az P x.1 x.2.1 x.2.2.1/\DJ x.2.2.1))
noncomputable def VH (g:FuncId) (vs:List V) (H:View) (x:zA):Bool:=Nat.beq x.1 g && (match x.2.2.2 with
 | true=>vs.all (vS 60) && (match pX (zS (λ_=>.dead) 60) vs with
  | some ts=>CV (G3 60) ts x.2.1
  | none=>false)
 | false=>match pX (zS H 60) vs with
  | some ts=>CV (G3 60) ts x.2.1
  | none=>false)
noncomputable def Ov (l:List zA):Bv:=λg vs H=>(l.find? (VH g vs H)).map λx=>x.2.2.1
theorem K7 {P:Program} {l:List zA} (hl:∀ x∈l,x.Ok P):uZ P (Ov l):=by
 intro g vs H t h
 unfold Ov at h
 simp only[Zu] at h
 obtain⟨⟨f,o,r,b⟩,m,rfl⟩:=h
 obtain⟨h1,a⟩:=hl _ (List.mem_of_find?_eq_some m)
 have hq:=List.find?_some m
 simp only[VH,Zw] at hq
 obtain⟨j,hq⟩:=hq
 have j:=abh j
 simp only at j h1 a hq
 subst j
 refine⟨h1,?_⟩
 rintro h rfl
 cases b with
 | true =>
  simp only[Zw] at hq
  obtain⟨k,c⟩:=hq
  split at c
  .rename_i us d
   obtain⟨g1,g2⟩:=ji _ _ d
   have:=xO (Kv 60) _ _ c
   subst this
   simp only[if_true] at a
   exact bZ.hU (a.seen (λi hi=>DH _ _ (zo k hi)) g1 λi hi=>Gs [] 60 _ _ (g2 i hi)) h
  .simp at c
 | false =>
  simp only at hq
  split at hq
  .rename_i us d
   obtain⟨g1,g2⟩:=ji _ _ d
   have:=xO (Kv 60) _ _ hq
   subst this
   have e:=λi hi=>Gs h 60 _ _ (g2 i hi)
   simp only[ZM,if_false] at a
   rcases a with a | ⟨a,n⟩
   .exact bZ.xY a g1 e
   .exact bZ.borrow a n g1 e
  .simp at hq
def vY (x:Int):Bool:=decide (-9223372036854775808<=x) && decide (x<=9223372036854775807)
theorem rj {x:Int} (h:vY x=true):cp x:=by
 unfold vY at h
 simp only[Zw,ZA] at h
 exact h
def okB (g:aj):Bool:=decide (g.af.length<=900) && decide (g.ak.length<=100) && decide (g.rules.length<=900) && vY g.start && g.af.all (λt=>vY t.level && vY t.assoc) && g.rules.all λr=>vY r.left && vY r.prec && decide (r.right.length<=900) && r.right.all vY
theorem RR {g:aj} (h:okB g=true):g.Ok/\g.Small:=by
 unfold okB at h
 simp only[Zw,ZA,ZZ] at h
 obtain⟨⟨⟨⟨⟨h1,f⟩,i⟩,c⟩,a⟩,d⟩:=h
 refine⟨⟨by unfold aJ;omega,by unfold aJ;omega,by unfold aJ;omega,rj c,λt b=>⟨rj (a t b).1,rj (a t b).2⟩,λr hr=>?_⟩,⟨by omega⟩⟩
 have:=d r hr
 exact⟨rj this.1.1.1,rj this.1.1.2,by unfold aJ;have:=this.1.2;omega,λx e=>rj (this.2 x e)⟩
theorem oF:rM.Ok/\rM.Small:=RR (by kernel_rfl)
def SV:List Int:=[37,108,101,102,116,32,39,43,39,32,37,37,32,101,32,58,32,101,32,39,43,39,32,101,32,124,32,39,110,39,32,59]
def nS:aj:=⟨[⟨⟨#[39,43,39]⟩,1,1⟩,⟨⟨#[39,110,39]⟩,0,0⟩],[⟨#[101]⟩],[⟨0,[-1,0,-1],0⟩,⟨0,[1],1⟩],0⟩
noncomputable def V1:List (FuncId × DF):=Cm Tryz.prog [(42,[]),(43,[1]),(85,[6,100000]),(38,[]),(79,[]),(124,[]),(129,[9]),(176,[9]),(84,[3]),(126,[]),(173,[]),(127,[]),(174,[]),(210,[]),(211,[]),(128,[3]),(175,[3]),(24,[1]),(64,[]),(112,[]),(167,[]),(207,[]),(208,[]),(166,[]),(199,[]),(113,[2,3]),(168,[]),(114,[]),(62,[]),(56,[2]),(50,[2,3]),(53,[2]),(58,[]),(63,[2]),(111,[2]),(33,[1]),(74,[4,5,100000]),(121,[2]),(172,[]),(91,[]),(133,[]),(119,[]),(28,[]),(69,[2]),(68,[]),(72,[2]),(73,[100000]),(120,[]),(75,[1]),(122,[]),(47,[2,3]),(89,[3]),(90,[3]),(88,[]),(132,[]),(92,[])]
theorem Pv:tN Tryz.prog V1:=zf _ _
theorem Xf:cE Tryz.prog 49 [DD SV] (uf nS):=MT (by kernel_rfl)
theorem mI:nS.Ok/\nS.Small:=RR (by kernel_rfl)
def Vs:List zA:=[(49,[DD SV],uf nS,false),(49,[DD Vz],uf rM,false),(61,[.agg (ag rM)],gb true,false),(61,[.agg (ag nS)],gb true,false),(61,[.agg (ag xM)],gb false,false),(52,[.agg (ag rM)],gb true,false),(52,[.agg (ag nS)],gb true,false),
 (118,[.agg (ag rM)],.aD [[gb true]],false),(118,[.agg (ag nS)],.aD [[gb false]],false)]
theorem Uj:∀ x∈Vs,x.Ok Tryz.prog:=by
 have hi:∀ (g:aj),g.Ok->g.Small->∀ b,isRed g=b->zA.Ok Tryz.prog (61,[.agg (ag g)],gb b,false):=λg h1 a b e=>⟨by kernel_rfl,by simp only[ZM,if_false];exact .inr ⟨e ▸ Sv g h1 a,.val _⟩⟩
 have hr:∀ (g:aj),g.Ok->g.Small->∀ b,bI g=b->zA.Ok Tryz.prog (52,[.agg (ag g)],gb b,false):=λg h1 a b e=>⟨by kernel_rfl,by simp only[ZM,if_false];exact .inr ⟨e ▸ oZ g h1 a.names,.val _⟩⟩
 have c:∀ (g:aj),g.Ok->g.Small->∀ b,bP (av g false)=b->zA.Ok Tryz.prog (118,[.agg (ag g)],b,false):=λg h1 a b e=>⟨by kernel_rfl,by simp only[ZM,if_false];exact .inl (e ▸ AZ g h1 a)⟩
 intro x d
 simp only[Vs,Zz,List.not_mem_nil,or_false] at d
 rcases d with rfl | rfl | rfl | rfl | rfl | rfl | rfl | rfl | rfl
 .exact⟨by kernel_rfl,by simp only[ZM,if_false];exact .inl Xf⟩
 .exact⟨by kernel_rfl,by simp only[ZM,if_false];exact .inl XS⟩
 .exact hi rM oF.1 oF.2 true (by kernel_rfl)
 .exact hi nS mI.1 mI.2 true (by kernel_rfl)
 .exact hi xM WT ⟨by decide⟩ false (by kernel_rfl)
 .exact hr rM oF.1 oF.2 true (by kernel_rfl)
 .exact hr nS mI.1 mI.2 true (by kernel_rfl)
 .exact c rM oF.1 oF.2 _ (by kernel_rfl)
 .exact c nS mI.1 mI.2 _ (by kernel_rfl)
theorem Ow:az Tryz.prog 42 [] (gb true) :=
 (tV mixed Pv (K7 Uj) (by simp) (by kernel_rfl)).pure
structure cn where
 sym:Int
 to:Int
 deriving DecidableEq
def iX (x:cn):List V:=[gi x.sym,gi x.to]
theorem LQ (x y:Cell):gg Tryz.prog 9998 #[.int .i64 x.kind,.int .i64 x.n] #[.int .i64 y.kind,.int .i64 y.n]
  [{ name:= "Kind",type:=3,offset:=0,embedded:=false,tag:= "",pkgPath:= "",byteOffset:=0 },{ name:= "N",type:=3,offset:=1,embedded:=false,tag:= "",pkgPath:= "",byteOffset:=8 }] ((x.kind == y.kind) && ((x.n == y.n) && true)) :=
 .int _ _ _ .i64 _ _ (by decide) Tryz.underlying3 rfl rfl (.int _ _ _ .i64 _ _ (by decide) Tryz.underlying3 rfl rfl .nil)
theorem MV {H:View} {u:V} {sz b i j:Nat} {es:List (List V)} (h:aV H u sz es) (a:owner u≠some b):jg (.ptr b i j) u:=by
 rcases h with ⟨_,k,rfl⟩ | ⟨z,rfl,_⟩
 .simp[jg]
 .simp[jg,owner] at a ⊢
  exact λe=>a e.symm
abbrev ET:=List (V × List Cell)
abbrev IN:=List (V × List Int)
def aZ {α:Type} (A:List (V × α)):List (List V):=A.map λx=>[x.1]
def rP (A:ET):List ct:=A.map λx=>(x.1,2,x.2.map dU)
def rS (A:IN):List ct:=A.map λx=>(x.1,1,bF x.2)
theorem HS {h:aF} {u:V} {A:ET} (f:aV h.view u 1 (aZ A)) (g:∀ x∈A,aV h.view x.1 2 (x.2.map dU)):dg h u (.aD ((A.map (·.2)).map λr=>[kS r])):=by
 have c:∀ i (hi:i < A.length),(aZ A).getD i []=[(A[i]).1]/\(((A.map (·.2)).map λr=>[kS r]).getD i [])=[kS (A[i]).2]:=λi hi=>by
  simp[aZ,Zi,hi]
 refine dg.own f (by simp[aZ]) (λi hi=>?_) (λi j hi b=>?_)
 .have a:i < A.length:=by simpa [aZ] using hi
  rw[(c i a).1,(c i a).2];rfl
 .have a:i < A.length:=by simpa [aZ] using hi
  rw[(c i a).2] at b ⊢
  rw[(c i a).1]
  have:j=0:=by simp at b;omega
  subst this
  simp only[aat]
  have d:=g _ (Zs a)
  generalize (A[i]'a).2=l at d
  refine dg.own d rfl (λi _=>rfl) (λi j hi b=>?_)
  simp only[Zr] at hi
  have e:(l.map dU).getD i []=dU l[i]:=by simp[Zi,hi]
  rw[e] at b ⊢
  match j,b with
  | 0,_=>exact .val _
  | 1,_=>exact .val _
theorem Nv {h:aF} {u v s t:V} (h1:dg h u s) (a:dg h v t):dg h (.agg [u,v]) (.agg [s,t]):=.agg _ _ rfl λj b=>by
 match j,b with
 | 0,_=>exact h1
 | 1,_=>exact a
structure aB where
 aw:Int
 dot:Int
 deriving DecidableEq
def bE (x:aB):List V:=[gi x.aw,gi x.dot]
def aU (l:List aB):List (List V):=l.map bE
def cW (a b:aB):Bool:=decide (a.aw < b.aw) || (decide (a.aw=b.aw) && decide (a.dot < b.dot))
def e9:List aB->aB->List aB
 | [],x=>[x]
 | y :: l,x=>if cW y x=true then y :: e9 l x else if y=x then y :: l else x :: y :: l
theorem VT (a b:aB):∀ v∈[V.agg (bE a),.agg (bE b)],Tree v:=by
 intro v c;simp at c
 rcases c with rfl | rfl <;> exact cb _ λv c=>by simp[bE] at c;rcases c with rfl | rfl <;> exact .val _
def sS:SF:=⟨ae [ab [cw 2 0,cw 3 1,bz 4 false],.region false [⟨none,[ao 5 0 2,ai 6 5,ao 7 0 3,ai 8 7,aS 9 .lss 6 8,aa 10 9]⟩,⟨(some (10,false)),[ao 11 0 2,ai 12 11,ao 13 0 3,ai 14 13,aS 15 .eql 12 14,aa 16 15]⟩,⟨(some (16,true)),[ao 17 1 2,ai 18 17,ao 19 1 3,ai 20 19,aS 21 .lss 18 20]⟩,⟨(some (10,false)),[eF 22 16 21]⟩,⟨none,[cD 23 10 22,aa 4 23]⟩],.ret],
 [.tmp 4],24⟩
theorem xz:aN Tryz.prog 156 [2,3]=some sS:=by kernel_rfl
def rh:SC :=
 ae [ae [.region false [⟨none,[aa 7 5,aa 8 0,aP 9 8,aS 10 .lss 7 9,aa 11 10]⟩,⟨(some (11,true)),[aa 12 0,aa 13 5,aH 14 2 12 13,aT 15 2 14,aT 16 2 3,bh 17 156 [15,16]]⟩,⟨none,[eF 18 11 17]⟩],bT 18 (.exit 0)],.block 1 (ab [aa 19 5,aG 20 .add 19 1,aa 5 20])]
def tu:SF:=⟨ae [ab [cw 3 1,cq 4 1],ab [aQ 5 0],bU 0 rh,ae [.region false [⟨none,[aa 21 5,aa 22 0,aP 23 22,aS 24 .lss 21 23,aa 25 24]⟩,⟨(some (25,true)),[aa 26 0,aa 27 5,aH 28 2 26 27,aT 29 2 28,aT 30 2 3,((some 31),.op (.old (.binOp .eql 33 (.tmp 29) (.tmp 30) 33) 4))]⟩,⟨none,[eF 32 25 31]⟩],bc 32 (ae [ab [aa 33 0,aa 4 33],.ret])],ab [cq 34 2,aa 35 0,aa 36 5,((some 37),.op (.slice 2 (.tmp 35) (some (.tmp 36)) none)),eE 38 2 16 34 37,aa 6 38],ab [aa 39 0,aa 40 5,((some 41),.op (.slice 2 (.tmp 39) none (some (.tmp 40)))),aT 42 2 3,((some 43),.op (.bO 1 2 [(.val (.int .i64 0)),(.val (.int .i64 0))] [(0,(.tmp 42))])),eE 44 2 16 41 43,aa 45 6,eE 46 2 16 44 45,aa 4 46],.ret],
 [.tmp 4],47⟩
theorem yL:aN Tryz.prog 108 [3]=some tu:=by kernel_rfl
theorem S5 (a b:aB):az Tryz.prog 156 [.agg (bE a),.agg (bE b)] (gb (cW a b)):=by
 refine az.val (VT a b) λH=>?_
 refine au.of mixed xz ?_
 unfold cW
 simp(disch:=omega)only[↓wr,seval,wq,sS,bE]
 apply ah.dec<;>intro h1
 .simp(disch:=omega)only[↓wr,seval,wq]
  rw[abn h1];rfl
 simp(disch:=omega)only[↓wr,seval,wq,bE]
 apply ah.eq<;>intro c
 .simp(disch:=omega)only[↓wr,seval,wq,bE]
  rw[decide_eq_false h1,abn c];rfl
 .simp(disch:=omega)only[↓wr,seval,wq]
  rw[decide_eq_false h1,decide_eq_false c];rfl
def eA:List aB->aB->Nat
 | [],_=>0
 | y :: l,x=>if cW y x=true then eA l x+1 else 0
theorem E4:∀ (l:List aB) (x:aB),eA l x<=l.length
 | [],_=>Zt _
 | y :: l,x=>by
  rw[eA];split
  .have:=E4 l x;simp;omega
  .simp
theorem DY:∀ (l:List aB) (x:aB) (i:Nat) (y:aB),l[i]?=some y->i < eA l x->cW y x=true
 | [],_,_,_,h,_=>by simp at h
 | z :: l,x,0,y,h,hi=>by
  rw[eA] at hi;split at hi
  .simp at h;subst h;assumption
  .omega
 | z :: l,x,i+1,y,h,hi=>by
  rw[eA] at hi;split at hi
  .exact DY l x i y (by simpa using h) (by omega)
  .omega
theorem Ff:∀ (l:List aB) (x:aB) (y:aB),l[eA l x]?=some y->cW y x=false
 | [],_,_,h=>by simp at h
 | z :: l,x,y,h=>by
  rw[eA] at h;split at h
  .exact Ff l x y (by simpa using h)
  .rename_i e;simp at h;subst h;simpa using e
theorem yz:∀ (l:List aB) (x:aB),e9 l x=if l[eA l x]?=some x then l else l.take (eA l x) ++ [x] ++ l.drop (eA l x)
 | [],x=>by simp[e9,eA]
 | y :: l,x=>by
  rw[e9,eA]
  split
  .have:=yz l x
   simp only[aae,aa7,List.drop_succ_cons,Z4]
   rw[this];split <;> simp
  .simp only[ZL,Zl,List.take_zero,aaE,aar,Z4]
theorem mr (x y:aB):gg Tryz.prog 9998 #[.int .i64 x.aw,.int .i64 x.dot] #[.int .i64 y.aw,.int .i64 y.dot]
  [{ name:= "Rule",type:=3,offset:=0,embedded:=false,tag:= "",pkgPath:= "",byteOffset:=0 },{ name:= "Dot",type:=3,offset:=1,embedded:=false,tag:= "",pkgPath:= "",byteOffset:=8 }] ((x.aw == y.aw) && ((x.dot == y.dot) && true)) :=
 .int _ _ _ .i64 _ _ (by decide) Tryz.underlying3 rfl rfl (.int _ _ _ .i64 _ _ (by decide) Tryz.underlying3 rfl rfl .nil)
theorem uV (x y:aB):((x.aw == y.aw) && ((x.dot == y.dot) && true))=decide (x=y):=by
 cases x;cases y;rw[aan];simp
theorem By {sz id off k m:Nat} (hm:m<=k):dE sz (.sl id off k sz) (some (gi m)) none=some (.sl id (off+m) (k - m) sz,.none,[]):=by
 simp[dE,bound,asNat,hm]
theorem uO {sz id off k m:Nat} (hm:m<=k):dE sz (.sl id off k sz) none (some (gi m))=some (.sl id off m sz,.none,[]):=by
 simp[dE,bound,asNat,hm]
theorem S6 (l:List aB):((aU l).all λe=>e.length == 2 && e.all aL)=true:=by
 simp[aU,List.all_map,bE,aL]
theorem SS {H:View} {u:V} {sz:Nat} {es:List (List V)} (h:aV H u sz es):∃ rd,bR H u=some (es,rd):=by
 rcases h with ⟨rfl,k,rfl⟩ | ⟨n,rfl,a⟩
 .exact⟨_,wV _ k⟩
 .cases es with
  | nil=>exact⟨[],by simp[bR]⟩
  | cons e es =>
   exact⟨_,by rw[show (e :: es).length=es.length+1 from rfl,tT _ n 0 es.length sz sz _ a (by simp),aaE,Zx (by simp)]⟩
theorem rR {sz bytes:Nat} {u:V} {es:List (List V)} {H:View} {K:V->View->Prop} {w:cO (H,K)} (a:aV H u sz es) (h:K u H):nZ sz bytes u [] H K w:=by
 unfold nZ
 rcases a with ⟨_,k,rfl⟩ | ⟨n,rfl,_⟩ <;> simpa using h
theorem Left.behind {H H':View} {q:Nat} {o:cU} {u r:V} (hq:H q=.dead) (h:Left (H.set q o) H' u r):Left H H' u r:=λa c b=>by
 have e:¬ a=q:=by rintro rfl;exact c hq
 have:=h a (by simp[View.set,e];exact c) b
 simpa [View.set,e] using this
theorem DG (u:V) (l:List aB) (hl:l.length<=100000) (x:aB) (H:View) (t:aV H u 2 (aU l)):au Tryz.prog 108 [u,.agg (bE x)] H λr H'=>aV H' r 2 (aU (e9 l x))/\Left H H' u r:=by
 refine au.of mixed yL ?_
 have hlen:cT u=some l.length:=by rw[t.len];simp[aU]
 have hle:=E4 l x
 simp(disch:=omega)only[↓wr,seval,wq,tu,bE]
 refine aR.up (eA l x) (λi T H'=>H'=H/\i<=eA l x/\T 0=u/\T 3=.aI (bE x) 0/\T 5=gi i) ⟨rfl,by omega,rfl,rfl,rfl⟩ ?_
 rintro i k T H' hk ⟨Y,hi,t0,t3,t5⟩
 subst Y
 simp(disch:=omega)only[↓wr,seval,wq,rh,t0,t3,t5,hlen]
 have stop:i=eA l x->True:=λ_=>trivial
 apply ah.dec<;>intro J
 .have v:l[i]?=some (l[i]'(by omega)):=Zj (by omega)
  generalize l[i]'(by omega)=y at v
  obtain⟨id,hu,b⟩:=t.sl (by simp[aU];omega)
  have j:(aU l).length=l.length:=by simp[aU]
  have K:(aU l).getD i []=bE y:=by simp[aU,Zi,v]
  have z:=S5 y x
  simp only[bE] at z K
  simp(disch:=omega)only[↓wr,seval,wq,t0,t3,t5,hu,b,K,bE]
  refine⟨by simp[aU];omega,by simp[aU];omega,?_⟩
  refine ax.pure z ?_
  simp(disch:=omega)only[↓wr,seval,wq,t0,t3,t5]
  apply ah.split<;>intro e
  .have A:i < eA l x:=by
    rcases ZI i (eA l x) with h | h
    .exact h
    .have:=Ff l x y (by rw[show eA l x=i by omega];exact v)
     rw[this] at e;exact absurd e (by simp)
   simp(disch:=omega)only[↓wr,seval,wq,t0,t3,t5]
   exact aE hk A ⟨rfl,A,t0,t3,rfl⟩
  have p:i=eA l x:=by
   rcases ZI i (eA l x) with h | h
   .rw[DY l x i y v h] at e;exact absurd e (by simp)
   .omega
  simp(disch:=omega)only[↓wr,seval,wq,t0,t3,t5,hlen]
  refine ah.dec (λ_=>?_) (λh=>absurd J h)
  simp(disch:=omega)only[↓wr,seval,wq,t0,t3,t5,hu,b,K,bE]
  refine⟨by simp[aU];omega,by simp[aU];omega,?_⟩
  refine fQ (xs:=#[.int .i64 y.aw,.int .i64 y.dot]) (ys:=#[.int .i64 x.aw,.int .i64 x.dot]) Tryz.underlying33 (by kernel_rfl) (by kernel_rfl) ?_ ?_ (mr y x) (.inl ⟨rfl,rfl⟩) ?_
  .rfl
  .rfl
  rw[uV]
  simp(disch:=omega)only[↓wr,seval,wq,t0,t3,t5]
  apply ah.dec<;>intro L
  .subst L
   simp(disch:=omega)only[↓wr,seval,wq,t0]
   rw[yz,Zn (by rw[<-p];exact v)]
   exact⟨t,λid b t=>⟨rfl,t⟩⟩
  rw[j] at hu
  have M:bR H' (.sl id i (l.length - i) 2)=some (aU (l.drop i),[id]):=by
   obtain⟨q,hq⟩:∃ q,l.length - i=q+1:=⟨l.length - i - 1,by omega⟩
   rw[hq,tT H' id i q 2 2 (aU l) b (by rw[j];omega)]
   rw[show (aU l).drop i=aU (l.drop i) from List.map_drop.symm,Zx (by simp[aU];omega)]
  simp(disch:=omega)only[↓wr,seval,wq,t0,t3,t5,hu,By (sz:=2) (id:=id) (off:=0) (k:=l.length) (m:=i) (by omega),M]
  refine gh aV.nil (S6 _) (by unfold aA aU;simp;omega) (by unfold aA aU;simp;omega) ?_
  intro rest H1 N lr
  simp(disch:=omega)only[↓wr,seval,wq,t0,t3,t5,hu,uO (sz:=2) (id:=id) (off:=0) (k:=l.length) (m:=i) (by omega),bE]
  intro q hq
  have B:owner rest≠some id:=(lr id (by rw[b];simp) (by simp[owner])).2
  have d:H1 id=.arr 2 (aU l):=by rw[(lr id (by rw[b];simp) (by simp[owner])).1,b]
  have C:¬ id=q:=by rintro rfl;rw[d] at hq;simp at hq
  simp(disch:=omega)only[↓wr,seval,wq,bm]
  rw[zR _ _ _ _ _ _ _ _ _ _ (by rfl)]
  simp(disch:=omega)only[↓wr,seval,wq,C,d,j]
  refine⟨⟨by omega,by unfold aA;omega,by unfold aA;omega⟩,λg c=>?_⟩
  try rw[aaE]
  have D:¬ g=q:=by rintro rfl;simp at c
  rw[Zk D] at c
  have E:¬ g=id:=by rintro rfl;rw[d] at c;simp at c
  have f:=((N.fresh (o:=.arr 2 [[gi x.aw,gi x.dot]]) hq).other (o:=.dead) B).fresh (m:=g) (o:=.arr 2 (List.take i (aU l) ++ [[gi x.aw,gi x.dot]])) (by simp[View.set,D,E,c])
  have F:aV (((H1.set q (.arr 2 [[gi x.aw,gi x.dot]])).set id .dead).set g (.arr 2 (List.take i (aU l) ++ [[gi x.aw,gi x.dot]]))) (.sl g 0 (i+1) 2) 2 (List.take i (aU l) ++ [[gi x.aw,gi x.dot]]):=.inr ⟨g,by simp[j];omega,by simp[View.set]⟩
  have G:∀ a,H' a≠.dead->a≠id->(((H1.set q (.arr 2 [[gi x.aw,gi x.dot]])).set id .dead).set g (.arr 2 (List.take i (aU l) ++ [[gi x.aw,gi x.dot]]))) a=H' a/\a≠g:=λa w O=>by
   have h1:=(lr a w (by simp[owner])).1
   have Z:¬ a=q:=by rintro rfl;rw[hq] at h1;exact w h1.symm
   have U:¬ a=g:=by rintro rfl;rw[c] at h1;exact w h1.symm
   exact⟨by simp[View.set,Z,U,O,h1],U⟩
  generalize ((H1.set q (.arr 2 [[gi x.aw,gi x.dot]])).set id .dead).set g (.arr 2 (List.take i (aU l) ++ [[gi x.aw,gi x.dot]]))=H3 at f F G ⊢
  rw[aar] at f
  obtain⟨rd,he⟩:=SS f
  simp(disch:=omega)only[↓wr,seval,wq,he]
  refine gh F (S6 _) (by unfold aA aU;simp;omega) (by unfold aA aU;simp;omega) ?_
  intro r W s I
  simp(disch:=omega)only[↓wr,seval,wq]
  refine⟨?_,λa w P=>?_⟩
  .rw[yz,Zk (by rw[<-p,v];simpa using L),<-p]
   simpa [aU,bE,List.map_take,List.map_drop] using s
  .obtain⟨X,k2⟩:=G a w (by rintro rfl;exact P (by rw[hu];rfl))
   have:=I a (by rw[X];exact w) (by simp[owner];exact λh=>k2 h.symm)
   exact⟨by rw[this.1,X],this.2⟩
 .simp(disch:=omega)only[↓wr,seval,wq,t0,t3,t5,hlen]
  refine ah.dec (λh=>absurd h J) (λ_=>?_)
  have Q:i=l.length:=by omega
  subst Q
  have n:aU (e9 l x)=aU l ++ [[gi x.aw,gi x.dot]]:=by
   rw[yz,show eA l x=l.length by omega,ZT (Zt _),Zk (by simp),List.take_length,List.drop_length]
   simp[aU,bE]
  rcases t with ⟨e,k0,hu⟩ | ⟨id,hu,b⟩
  .have R:l=[]:=by simpa [aU] using e
   subst R
   simp(disch:=omega)only[↓wr,seval,wq,t0,t3,t5,hu,show ∀ k,dE 2 (.emp k) (some (gi 0)) none=some (.emp k,.none,[]) from λk=>rfl,show ∀ k,dE 2 (.emp k) none (some (gi 0))=some (.emp k,.none,[]) from λk=>rfl]
   refine rR aV.nil ?_
   simp(disch:=omega)only[↓wr,seval,wq,t0,t3,t5,hu,show ∀ k,dE 2 (.emp k) none (some (gi 0))=some (.emp k,.none,[]) from λk=>rfl,bE]
   intro q hq
   simp(disch:=omega)only[↓wr,seval,wq,bm]
   refine gh (sz:=2) (u:=.emp k0) aV.nil (by simp[aL]) (by unfold aA;simp) (by unfold aA;simp) ?_
   intro r W s I
   simp(disch:=omega)only[↓wr,seval,wq]
   refine rR s ?_
   simp(disch:=omega)only[↓wr,seval,wq]
   exact⟨by rw[n];exact s,hu ▸ Left.behind hq I⟩
  .rw[show (aU l).length=l.length by simp[aU]] at hu
   simp(disch:=omega)only[↓wr,seval,wq,t0,t3,t5,hu,By (sz:=2) (id:=id) (off:=0) (k:=l.length) (m:=l.length) (by omega),uO (sz:=2) (id:=id) (off:=0) (k:=l.length) (m:=l.length) (by omega)]
   rw[Nat.sub_self,show bR H' (.sl id l.length 0 2)=some ([],[]) from rfl]
   simp(disch:=omega)only[↓wr,seval,wq]
   refine rR aV.nil ?_
   simp(disch:=omega)only[↓wr,seval,wq,t0,t3,t5,hu,uO (sz:=2) (id:=id) (off:=0) (k:=l.length) (m:=l.length) (by omega),bE]
   intro q hq
   simp(disch:=omega)only[↓wr,seval,wq,bm]
   have S:aV H' (.sl id 0 l.length 2) 2 (aU l):=.inr ⟨id,by simp[aU],b⟩
   refine gh (sz:=2) (S.fresh hq) (by simp[aL]) (by unfold aA aU;simp;omega) (by unfold aA aU;simp;omega) ?_
   intro r W s I
   simp(disch:=omega)only[↓wr,seval,wq]
   refine rR s ?_
   simp(disch:=omega)only[↓wr,seval,wq]
   exact⟨by rw[n];exact s,hu ▸ Left.behind hq I⟩
def aW (g:aj) (r:Int):List Int:=if r = -1 then [-1 - g.start] else (ay g r).right
def bA (g:aj) (x:aB):Int × Bool:=if x.dot=(aW g x.aw).length then (0,false) else ((aW g x.aw).getD x.dot.toNat 0,true)
def qL:SF:=⟨ae [ab [cw 2 0,cq 4 1],ae [ab [aa 5 1,aG 6 .eql 5 (-1)],bc 6 (ae [ab [ao 7 3 2,ai 8 7,((some 9),.op (.arith .sub (.val (.val (.int .i64 (-1)))) (.tmp 8))),((some 10),.op (.bO 1 1 [(.val (.int .i64 0))] [(0,(.tmp 9))])),aa 4 10],.ret])],ab [ao 11 2 2,ai 12 11,aa 13 1,aH 14 3 12 13,ao 15 1 14,ai 16 15,aa 4 16],.ret],
 [.tmp 4],17⟩
theorem wM:aN Tryz.prog 55 [2]=some qL:=by kernel_rfl
def sL:SF:=⟨ae [ab [cw 2 0,cw 3 1,aQ 4 0,bz 5 false],ab [aT 7 4 2,ao 8 0 3,ai 9 8,bh 10 55 [7,9],aa 6 10],ae [ab [ao 11 1 3,ai 12 11,aa 13 6,aP 14 13,aS 15 .eql 12 14],bc 15 (ae [ab [aQ 4 0,bz 5 false],.ret])],ab [aa 16 6,ao 17 1 3,ai 18 17,aH 19 1 16 18,ai 20 19,aa 4 20,bz 5 true],.ret],
 [.tmp 4,.tmp 5],21⟩
theorem xP:aN Tryz.prog 51 [2,3]=some sL:=by kernel_rfl
theorem DW (g:aj) (hs : -100<=g.start/\g.start<=100) (r:Int) (hr : -1<=r/\r < (g.rules.length:Int)):az Tryz.prog 55 [.agg (ag g),gi r] (encI (aW g r)):=by
 refine az.of (by
  intro v a;simp at a
  rcases a with rfl | rfl
  .exact cb _ (cY g)
  .exact .val _) ?_
 refine au.of mixed wM ?_
 unfold aW
 simp(disch:=omega)only[↓wr,seval,wq,qL,ag,encS]
 apply ah.eq<;>intro h1
 .simp(disch:=omega)only[↓wr,seval,wq,ag,encS]
  intro n
  rw[Zn h1]
  rintro c a
  refine dg.fr (kM (l:=[-1 - g.start]) (.inr ⟨n,rfl,?_⟩))
  rw[a];simp[View.set]
 .have b:g.rules[r.toNat]?=some (ay g r):=by unfold ay;exact getD_some (by omega)
  rw[Zk h1]
  generalize ay g r=R at b
  simp(disch:=omega)only[↓wr,seval,wq,ag,encS,Zm,b,Zq,aO]
  intro c _
  exact .tree _ (ew R.right)
theorem QI (g:aj) (hs : -100<=g.start/\g.start<=100) (x:aB) (c : -1<=x.aw/\x.aw < (g.rules.length:Int)) (hd:0<=x.dot/\x.dot<=(aW g x.aw).length) (hl:(aW g x.aw).length<=1000) :
  az Tryz.prog 51 [.agg (ag g),.agg (bE x)] (.bt [gi (bA g x).1,gb (bA g x).2]):=by
 have h1:=DW g hs x.aw c
 refine az.tree (by
  intro v a;simp at a
  rcases a with rfl | rfl
  .exact cb _ (cY g)
  .exact cb _ λv a=>by simp[bE] at a;rcases a with rfl | rfl <;> exact .val _) (.bt _ λi hi=>by
   match i,hi with
   | 0,_=>exact .val _
   | 1,_=>exact .val _) λH=>?_
 refine au.of mixed xP ?_
 simp only[ag,encS,encI] at h1
 unfold bA
 simp(disch:=omega)only[↓wr,seval,wq,sL,ag,encS,bE]
 refine ax.pure h1 ?_
 generalize aW g x.aw=R at hd hl ⊢
 simp(disch:=omega)only[↓wr,seval,wq,bE]
 apply ah.eq<;>intro b
 .simp(disch:=omega)only[↓wr,seval,wq]
  rw[Zn b]
 .have d:R[x.dot.toNat]?=some (R.getD x.dot.toNat 0):=getD_some (by omega)
  simp(disch:=omega)only[↓wr,seval,wq,bE,Zm,d,Zq]
  rw[Zk b]
theorem fY {a b:aB} : cW a b=true↔a.aw < b.aw∨a.aw=b.aw/\a.dot < b.dot:=by
 simp[cW]
theorem pS {a b c:aB} (h:cW a b=true) (k:cW b c=true):cW a c=true:=by
 rw[fY] at h k ⊢;omega
theorem mM {a:aB} : cW a a=false:=by
 cases h:cW a a with
 | false=>rfl
 | true=>rw[fY] at h;omega
theorem Lx {a b:aB} (h:cW a b=true):cW b a=false:=by
 cases k:cW b a with
 | false=>rfl
 | true=>have:=pS h k;rw[mM] at this;exact absurd this (by simp)
theorem yD {a b:aB} (h:cW a b=false) (c:¬ a=b):cW b a=true:=by
 rw[fY]
 have h1:¬ cW a b=true:=by simp[h]
 rw[fY] at h1
 obtain⟨d,ad⟩:=a
 obtain⟨e,f⟩:=b
 simp only[aB.mk.injEq] at c
 simp only at h1 ⊢
 omega
abbrev cJ (l:List aB):Prop:=l.Pairwise λa b=>cW a b=true
theorem kx:∀ {l:List aB} {x y:aB},y∈e9 l x↔y=x∨y∈l
 | [],x,y=>by simp[e9]
 | z :: l,x,y=>by
  rw[e9]
  split
  .simp only[Zz,kx (l:=l)]
   constructor
   .rintro (h | h | h) <;> simp[h]
   .rintro (h | h | h) <;> simp[h]
  .split
   .rename_i h;subst h;simp
   .simp
theorem tF:∀ {l:List aB} {x:aB},cJ l->cJ (e9 l x)
 | [],x,_=>by simp[e9,cJ]
 | z :: l,x,h=>by
  rw[cJ,aaL] at h
  rw[e9]
  split
  .rename_i c
   rw[cJ,aaL]
   refine⟨λy a=>?_,tF h.2⟩
   rcases kx.1 a with rfl | a
   .exact c
   .exact h.1 y a
  .rename_i c
   split
   .exact aaL.2 h
   .rename_i d
    have b:=yD (by simpa using c) d
    rw[cJ,aaL]
    refine⟨λy a=>?_,aaL.2 h⟩
    rcases Zz.1 a with rfl | a
    .exact b
    .exact pS b (h.1 y a)
theorem Hz:∀ (l:List aB) (x:aB),(e9 l x).length=l.length∨(e9 l x).length=l.length+1
 | [],x=>.inr rfl
 | z :: l,x=>by
  rw[e9]
  split
  .rcases Hz l x with h | h <;> simp[h]
  .split <;> simp
theorem EY:∀ {l:List aB} {x:aB},cJ l->x∈l->e9 l x=l
 | [],x,_,h=>by simp at h
 | z :: l,x,hs,h=>by
  rw[cJ,aaL] at hs
  rw[e9]
  rcases Zz.1 h with rfl | h
  .rw[Zk (by simp[mM]),Zn rfl]
  .rw[Zn (hs.1 x h),EY hs.2 h]
theorem Eg:∀ {l:List aB} {x:aB},x ∉ l->(e9 l x).length=l.length+1
 | [],x,_=>rfl
 | z :: l,x,h=>by
  simp only[Zz,not_or] at h
  rw[e9]
  split
  .simp[Eg h.2]
  .rw[Zk (λe=>h.1 e.symm)];rfl
theorem Hp:∀ {l:List aB} {x:aB},(∀ y∈l,cW y x=true)->e9 l x=l ++ [x]
 | [],x,_=>rfl
 | z :: l,x,h=>by
  rw[e9,Zn (h z (by simp)),Hp λy a=>h y (by simp[a])];rfl
theorem Bw:∀ {a b:List aB},cJ a->cJ b->(∀ x,x∈a↔x∈b)->a=b
 | [],[],_,_,_=>rfl
 | [],y :: b,_,_,h=>by have:=(h y).2 (by simp);simp at this
 | x :: a,[],_,_,h=>by have:=(h x).1 (by simp);simp at this
 | x :: a,y :: b,d,e,h=>by
  rw[cJ,aaL] at d e
  have f:x=y:=by
   have h1:=(h x).1 (by simp)
   have c:=(h y).2 (by simp)
   rcases Zz.1 h1 with h1 | h1
   .exact h1
   .rcases Zz.1 c with c | c
    .exact c.symm
    .have:=pS (d.1 y c) (e.1 x h1)
     rw[mM] at this;exact absurd this (by simp)
  subst f
  congr 1
  refine Bw d.2 e.2 λz=>?_
  have g:=h z
  simp only[Zz] at g
  constructor
  .intro hm
   rcases g.1 (.inr hm) with rfl | h
   .have:=d.1 z hm;rw[mM] at this;exact absurd this (by simp)
   .exact h
  .intro hm
   rcases g.2 (.inr hm) with rfl | h
   .have:=e.1 z hm;rw[mM] at this;exact absurd this (by simp)
   .exact h
theorem I3:∀ (l:List Int) (a n:Int),l.Pairwise (· < ·)->(∀ x∈l,a<=x/\x < a+n)->0<=n->(l.length:Int)<=n
 | [],a,n,_,_,b=>by simpa using b
 | x :: l,a,n,hp,hm,b=>by
  rw[aaL] at hp
  have h1:=hm x (by simp)
  have:=I3 l (x+1) (a+n - (x+1)) hp.2 (λy c=>by have:=hp.1 y c;have:=hm y (by simp[c]);omega) (by omega)
  simp only[ZB];omega
def cB (g:aj) (x:aB):Prop:=(-1<=x.aw/\x.aw < (g.rules.length:Int))/\0<=x.dot/\x.dot<=(aW g x.aw).length
theorem fp {g:aj} (a:g.dP) {r:Int} (h : -1<=r/\r < (g.rules.length:Int)):(aW g r).length<=6:=by
 unfold aW
 split
 .simp
 .have b:g.rules[r.toNat]?=some (ay g r):=by unfold ay;exact getD_some (by omega)
  exact a.right _ (Zp b)
theorem gC {g:aj} (e:g.dP) {l:List aB} (hs:cJ l) (hl:∀ x∈l,cB g x):l.length<=287:=by
 have hd:∀ x∈l,0<=x.dot/\x.dot<=6:=λx c=>by
  have h1:=hl x c
  have:=fp e h1.1
  exact⟨h1.2.1,by have:=h1.2.2;omega⟩
 have h1:(l.map λx=>(x.aw+1) * 7+x.dot).Pairwise (· < ·):=by
  rw[abj]
  refine List.Pairwise.imp_of_mem ?_ hs
  intro a b f h d
  rw[fY] at d
  have:=hd a f;have:=hd b h
  omega
 have:=I3 _ 0 287 h1 (λy i=>by
  obtain⟨x,c,rfl⟩:=ZF.1 i
  have j:=(hl x c).1
  have:=hd x c;have:=e.rules
  omega) (by omega)
 simp at this
 omega
inductive ou (g:aj) (l:List aB):aB->Prop
 | base {x:aB} : x∈l->ou g l x
 | step {x:aB} {s:Int} {k:Nat} {R:bu} : ou g l x->bA g x=(s,true)->s < 0->g.rules[k]?=some R->R.left = -1 - s->ou g l ⟨k,0⟩
theorem ou.has {g:aj} {l:List aB} (hl:∀ x∈l,cB g x) {x:aB} (h:ou g l x):cB g x:=by
 induction h with
 | base h=>exact hl _ h
 | step _ _ _ hk _ _ =>
  have:=(Zy.1 hk).1
  exact⟨⟨by simp only;omega,by simp only;omega⟩,by simp only;omega,by simp only;omega⟩
def JU (g:aj):List aB:=(List.range (g.rules.length+1)).flatMap λ(r:Nat)=>(List.range 7).map λ(d:Nat)=>(⟨(r:Int) - 1,(d:Int)⟩:aB)
theorem OJ {g:aj} (a:g.dP) {x:aB} (h:cB g x):x∈JU g:=by
 have:=fp a h.1
 obtain⟨⟨h1,b⟩,c,e⟩:=h
 simp only[JU,List.mem_flatMap,ZF,aap]
 refine⟨(x.aw+1).toNat,by omega,x.dot.toNat,by omega,?_⟩
 obtain⟨r,d⟩:=x
 simp only at h1 b c e this
 simp only[aB.mk.injEq];omega
theorem uG:∀ (l a:List aB),cJ a->cJ (l.foldl e9 a)/\∀ x,x∈l.foldl e9 a↔x∈a∨x∈l
 | [],a,h=>⟨h,λx=>by simp⟩
 | y :: l,a,h=>by
  obtain⟨h1,b⟩:=uG l (e9 a y) (tF h)
  refine⟨h1,λx=>?_⟩
  rw[ZS,b,kx,Zz]
  constructor
  .rintro ((h | h) | h) <;> simp[h]
  .rintro (h | h | h) <;> simp[h]
open Classical in
noncomputable def cK (g:aj) (l:List aB):List aB:=((JU g).filter λx=>decide (ou g l x)).foldl e9 []
theorem kz (g:aj) (l:List aB):cJ (cK g l):=(uG _ [] .nil).1
theorem df {g:aj} (a:g.dP) {l:List aB} (hl:∀ x∈l,cB g x) {x:aB} : x∈cK g l↔ou g l x:=by
 classical
 rw[cK,(uG _ [] .nil).2]
 simp only[List.not_mem_nil,false_or,aag,ZA]
 exact⟨λh=>h.2,λh=>⟨OJ a (h.has hl),h⟩⟩
theorem IY {g:aj} (a:g.dP) {l o:List aB} (hl:∀ x∈l,cB g x) (hs:cJ o) (h1:∀ x∈o,ou g l x) (b:∀ x∈l,x∈o)
  (c:∀ x∈o,∀ (s:Int) (k:Nat) (R:bu),bA g x=(s,true)->s < 0->g.rules[k]?=some R->R.left = -1 - s->(⟨k,0⟩:aB)∈o):cK g l=o:=by
 refine Bw (kz g l) hs λx=>?_
 rw[df a hl]
 refine⟨λh=>?_,h1 x⟩
 induction h with
 | base h=>exact b _ h
 | step _ d hs hk e f=>exact c _ f _ _ _ d hs hk e
theorem HR {g:aj} (a:g.dP) {l:List aB} (hl:∀ x∈l,cB g x):(cK g l).length<=287 :=
 gC a (kz g l) λ_ b=>((df a hl).1 b).has hl
def bw (g:aj) (l:List aB) (s:Int):List aB:=(l.filter λx=>decide (bA g x=(s,true))).map λx=>⟨x.aw,x.dot+1⟩
theorem mf {g:aj} {l:List aB} {s:Int} {y:aB} : y∈bw g l s↔∃ x∈l,bA g x=(s,true)/\y=⟨x.aw,x.dot+1⟩:=by
 simp only[bw,ZF,aag,ZA]
 constructor
 .rintro⟨x,⟨h1,a⟩,rfl⟩;exact⟨x,h1,a,rfl⟩
 .rintro⟨x,h1,a,rfl⟩;exact⟨x,⟨h1,a⟩,rfl⟩
theorem HW {g:aj} {l:List aB} (s:Int) (h:cJ l):cJ (bw g l s):=by
 rw[cJ,bw,abj]
 refine(h.filter _).imp ?_
 intro a b c
 rw[fY] at c ⊢
 simp only;omega
theorem rW {g:aj} {x:aB} {s:Int} (h:bA g x=(s,true)):x.dot≠(aW g x.aw).length/\(aW g x.aw).getD x.dot.toNat 0=s:=by
 unfold bA at h
 split at h
 .simp at h
 .rename_i hd;exact⟨hd,by simpa using h⟩
theorem I8 {g:aj} {l:List aB} {s:Int} (hl:∀ x∈l,cB g x):∀ y∈bw g l s,cB g y:=by
 intro y a
 obtain⟨x,b,c,rfl⟩:=mf.1 a
 have h1:=hl x b
 have d:=(rW c).1
 exact⟨h1.1,by simp only;have:=h1.2;omega,by simp only;have:=h1.2;omega⟩
theorem Ss {g:aj} {l:List aB} (hs:cJ l) {i:Nat} {x:aB} (b:l[i]?=some x) (s:Int) :
  bw g (l.take (i+1)) s=if bA g x=(s,true) then e9 (bw g (l.take i) s) ⟨x.aw,x.dot+1⟩ else bw g (l.take i) s:=by
 have e:l.take (i+1)=l.take i ++ [x]:=by rw[ZG,b];rfl
 rw[e]
 split
 .rename_i h
  rw[Hp]
  .simp[bw,h]
  .intro y c
   obtain⟨z,d,_,rfl⟩:=mf.1 c
   have a:cJ (l.take (i+1)):=hs.sublist (List.take_sublist _ _)
   rw[e,cJ,List.pairwise_append] at a
   have:=a.2.2 z d x (by simp)
   rw[fY] at this ⊢
   simp only;omega
 .rename_i h
  simp[bw,h]
theorem vh {g:aj} {l:List aB} {s:Int} : (bw g l s).length<=l.length:=by
 rw[bw,Zr];exact aac _ _
structure aM where
 bf:List aB
 aK:List cn
 deriving DecidableEq
abbrev bg:aM:=⟨[],[]⟩
def bj (g:aj) (i:Nat):Int:=if i < g.af.length then i else -1 - ((i:Int) - g.af.length)
def findD:List aM->List aB->Int
 | [],_=>-1
 | s :: l,k=>if s.bf=k then 0 else if findD l k < 0 then -1 else findD l k+1
theorem vp:∀ (l:List aM) (k:List aB),-1<=findD l k
 | [],_=>by simp[findD]
 | s :: l,k=>by
  have:=vp l k
  rw[findD];split
  .omega
  .split <;> omega
theorem zM:∀ (l:List aM) (k:List aB),findD l k < l.length
 | [],_=>by simp[findD]
 | s :: l,k=>by
  have:=zM l k
  rw[findD];simp only[ZB];split
  .omega
  .split <;> omega
theorem KM:∀ (l:List aM) (k:List aB) (i:Nat),findD l k=i->∃ s,l[i]?=some s/\s.bf=k
 | [],_,i,h=>by simp[findD] at h
 | s :: l,k,i,h=>by
  rw[findD] at h
  split at h
  .rename_i e
   have:i=0:=by omega
   subst this
   exact⟨s,rfl,e⟩
  .split at h
   .omega
   .obtain⟨j,rfl⟩:∃ j,i=j+1:=⟨i - 1,by omega⟩
    obtain⟨t,h1,a⟩:=KM l k j (by omega)
    exact⟨t,by simpa using h1,a⟩
theorem JS:∀ (l:List aM) (k:List aB),findD l k < 0->∀ s∈l,s.bf≠k
 | [],_,_,s,hs=>by simp at hs
 | t :: l,k,h,s,hs=>by
  rw[findD] at h
  split at h
  .omega
  .rename_i a
   have hl:findD l k < 0:=by
    split at h
    .assumption
    .omega
   rcases Zz.1 hs with rfl | hs
   .exact a
   .exact JS l k hl s hs
theorem JW:∀ (l:List aM) (k:List aB) (i:Nat) (s:aM),l[i]?=some s->s.bf=k->(∀ j t,j < i->l[j]?=some t->t.bf≠k)->findD l k=i
 | [],_,_,_,h,_,_=>by simp at h
 | t :: l,k,0,s,h,hk,_=>by simp at h;subst h;simp[findD,hk]
 | t :: l,k,i+1,s,h,hk,a=>by
  have b:=a 0 t (by omega) rfl
  have:=JW l k i s (by simpa using h) hk λj u c hu=>a (j+1) u (by omega) (by simpa using hu)
  rw[findD,Zk b,this,Zk (by omega)];omega
theorem Eo:∀ (l:List aM) (k:List aB),(∀ s∈l,s.bf≠k)->findD l k = -1
 | [],_,_=>rfl
 | t :: l,k,h=>by
  have:=Eo l k λs hs=>h s (by simp[hs])
  rw[findD,Zk (h t (by simp)),this];rfl
def dr (g:aj) (l:List aB) (at_:Nat) (out:List aM) (i:Nat):List aM :=
 if bw g l (bj g i)=[] then out else
 if findD out (bw g l (bj g i)) < 0 then (out ++ [(⟨bw g l (bj g i),[]⟩:aM)]).modify at_ λs=>(⟨s.bf,s.aK ++ [⟨bj g i,out.length⟩]⟩:aM)
 else out.modify at_ λs=>(⟨s.bf,s.aK ++ [⟨bj g i,findD out (bw g l (bj g i))⟩]⟩:aM)
noncomputable def C5 (g:aj) (at_:Nat) (out:List aM) (n:Nat):List aM:=(List.range n).foldl (dr g (cK g (out.getD at_ bg).bf) at_) out
noncomputable def gn (g:aj):Nat->Nat->List aM->List aM × Int
 | 0,_,out=>(out,0)
 | f+1,at_,out=>if at_ < out.length then
   (if 300 < (C5 g at_ out (g.af.length+g.ak.length)).length then ([],5) else gn g f (at_+1) (C5 g at_ out (g.af.length+g.ak.length)))
  else (out,0)
def ez:List aM:=[⟨[⟨-1,0⟩],[]⟩]
abbrev BV:=BitVec 32
def dQ (n:Int):BV:=if 0<=n/\n<=31 then BitVec.twoPow 32 n.toNat else 0
theorem xy {a b:BV} (h:∀ i,i < 32->a.getLsbD i=b.getLsbD i):a=b:=BitVec.eq_of_getLsbD_eq λi hi=>h i hi
def iT (a b:BV):Prop:=∀ i,a.getLsbD i=true->b.getLsbD i=true
theorem F9 {a b:BV} : (a ||| b)=b↔iT a b:=by
 constructor
 .intro h i hi
  rw[<-h,Z5,hi];rfl
 .intro h
  refine xy λi _=>?_
  rw[Z5]
  cases c:a.getLsbD i with
  | false=>rfl
  | true=>rw[h i c];rfl
theorem CB {a b:BV} : (a &&& ~~~b)=0↔iT a b:=by
 constructor
 .intro h i hi
  have hl:i < 32:=BitVec.lt_of_getLsbD hi
  have:=aau (λx:BV=>x.getLsbD i) h
  simp only[BitVec.getLsbD_and,BitVec.getLsbD_not,hi] at this
  simpa [hl] using this
 .intro h
  refine xy λi hl=>?_
  simp only[BitVec.getLsbD_and,BitVec.getLsbD_not]
  cases c:a.getLsbD i with
  | false=>simp
  | true=>rw[h i c];simp
theorem P1 {a:BV} : a=0↔∀ i,a.getLsbD i=false:=by
 constructor
 .rintro rfl i;simp
 .intro h;exact xy λi _=>by rw[h];simp
theorem X7 (a b:BV):b.toNat<=(a ||| b).toNat:=by
 rw[BitVec.toNat_or];exact Nat.right_le_or
def eR (null:List Bool) (first:List BV) (rest:BV):List Int->BV
 | []=>rest
 | s :: l=>if 0<=s then dQ s else if null.getD (-1 - s).toNat false=true then first.getD (-1 - s).toNat 0 ||| eR null first rest l else first.getD (-1 - s).toNat 0
theorem JT {null:List Bool} {first:List BV} {a b:BV} (h:iT a b):∀ l:List Int,iT (eR null first a l) (eR null first b l)
 | []=>h
 | s :: l=>by
  intro i hi
  rw[eR] at hi ⊢
  split
  .rename_i c;rw[Zn c] at hi;exact hi
  .rename_i c
   rw[Zk c] at hi
   split
   .rename_i h1
    rw[Zn h1] at hi
    rw[Z5,aam] at hi ⊢
    exact hi.imp id (JT h l i)
   .rename_i h1;rw[Zk h1] at hi;exact hi
theorem Wy {null:List Bool} {first:List BV} {a:BV} : ∀ (l:List Int) (i:Nat),(eR null first a l).getLsbD i=true->a≠0->∃ t,a.getLsbD t=true/\(eR null first (BitVec.twoPow 32 t) l).getLsbD i=true:=by
 intro l i
 have b:a≠0->∃ t,a.getLsbD t=true:=λh=>aaB λf=>h (P1.2 λj=>by
  cases g:a.getLsbD j with
  | false=>rfl
  | true=>exact absurd ⟨j,g⟩ f)
 induction l with
 | nil =>
  intro h _
  refine⟨i,h,?_⟩
  rw[eR,aaN]
  have:=BitVec.lt_of_getLsbD h
  simp[this]
 | cons s l k =>
  intro h e
  rw[eR] at h
  split at h
  .rename_i c
   obtain⟨t,d⟩:=b e
   exact⟨t,d,by rw[eR,Zn c];exact h⟩
  .rename_i c
   split at h
   .rename_i h1
    rw[Z5,aam] at h
    rcases h with h | h
    .obtain⟨t,d⟩:=b e
     exact⟨t,d,by rw[eR,Zk c,Zn h1,Z5,h];rfl⟩
    .obtain⟨t,m,n⟩:=k h e
     exact⟨t,m,by rw[eR,Zk c,Zn h1,Z5,n,Bool.or_true]⟩
   .rename_i h1
    obtain⟨t,d⟩:=b e
    exact⟨t,d,by rw[eR,Zk c,Zk h1];exact h⟩
theorem O3 {a:BV} {t:Nat} (h:a.getLsbD t=true):iT (BitVec.twoPow 32 t) a:=by
 intro i hi
 rw[aaN] at hi
 simp only[Zw,ZA] at hi
 rw[<-hi.2];exact h
def lF (null:List Bool) (fs:List BV) (r:bu):List BV:=fs.set r.left.toNat (fs.getD r.left.toNat 0 ||| eR null fs 0 r.right)
theorem G1 (null:List Bool) (a:List BV) (r:bu):(lF null a r).length=a.length:=by simp[lF]
def ve (g:aj) (null:List Bool) (fs:List BV):List BV:=g.rules.foldl (lF null) fs
theorem HM (null:List Bool):∀ (l:List bu) (a:List BV),(l.foldl (lF null) a).length=a.length
 | [],_=>rfl
 | r :: l,a=>by rw[ZS,HM null l,G1]
theorem Px (g:aj) (null:List Bool) (a:List BV):(ve g null a).length=a.length:=HM _ _ _
def eL (g:aj) (null:List Bool):List BV:=iter (ve g null) g.ak.length (List.replicate g.ak.length 0)
theorem GS {f:List BV->List BV} (a:∀ l,(f l).length=l.length):∀ (n:Nat) (l:List BV),(iter f n l).length=l.length
 | 0,_=>rfl
 | n+1,l=>by rw[iter,GS a n,a]
theorem Fa (g:aj) (null:List Bool):(eL g null).length=g.ak.length:=by
 rw[eL,GS (Px g null)];simp
def dI:List cn->Int->Int
 | [],_=>-1
 | e :: l,s=>if e.sym=s then e.to else dI l s
def fU (a:List aM):Int->List Int->Int × Bool
 | at_,[]=>(at_,true)
 | at_,s :: l=>if 0<=dI (a.getD at_.toNat bg).aK s/\dI (a.getD at_.toNat bg).aK s < a.length then fU a (dI (a.getD at_.toNat bg).aK s) l else (0,false)
def dY (a:List aM) (at_:Int) (l:List Int):Int × Bool:=if at_ < 0∨(a.length:Int)<=at_ then (0,false) else fU a at_ l
theorem Bf {a:List aM} : ∀ (l:List Int) (at_:Int),0<=at_->at_ < a.length->0<=(fU a at_ l).1/\(fU a at_ l).1 < a.length
 | [],at_,h1,b=>⟨h1,b⟩
 | s :: l,at_,h1,b=>by
  rw[fU]
  split
  .rename_i h;exact Bf l _ h.1 h.2
  .exact⟨by simp,by simp only;omega⟩
abbrev Sets:=List (List BV)
def ec (ss:Sets) (i k:Nat):BV:=(ss.getD i []).getD k 0
def jI (l:List aB) (row:List BV) (x:aB) (s:BV):List BV:=List.zipWith (λy v=>if y=x then v ||| s else v) l row
def fO (ls:List (List aB)) (ss:Sets) (st:Nat) (x:aB) (s:BV):Sets:=ss.set st (jI (ls.getD st []) (ss.getD st []) x s)
def kR (ls:List (List aB)) (ss:Sets):Prop:=ss.length=ls.length/\∀ i:Nat,(ss.getD i []).length=(ls.getD i []).length
def kP (a b:Sets):Prop:=a.length=b.length/\(∀ i:Nat,(a.getD i []).length=(b.getD i []).length)/\∀ i k,iT (ec a i k) (ec b i k)
theorem kP.refl {a:Sets} : kP a a:=⟨rfl,λ_=>rfl,λ_ _ _ h=>h⟩
theorem kP.trans {a b c:Sets} (h:kP a b) (k:kP b c):kP a c:=⟨h.1.trans k.1,λi=>(h.2.1 i).trans (k.2.1 i),λi j t d=>k.2.2 i j t (h.2.2 i j t d)⟩
theorem kP.uU {a b:Sets} (h:kP a b) (k:kP b a):a=b:=by
 refine List.ext_getElem h.1 λi h1 f=>?_
 have d:a.getD i []=a[i]:=by simp[Zi,h1]
 have e:b.getD i []=b[i]:=by simp[Zi,f]
 refine List.ext_getElem (by rw[<-d,<-e];exact h.2.1 i) λj g l=>?_
 have g1:ec a i j=a[i][j]:=by rw[ec,d];simp[Zi,g]
 have g2:ec b i j=b[i][j]:=by rw[ec,e];simp[Zi,l]
 rw[<-g1,<-g2]
 refine xy λt _=>?_
 have p:=h.2.2 i j t
 have q:=k.2.2 i j t
 cases c:(ec a i j).getLsbD t with
 | true=>rw[p c]
 | false =>
  cases m:(ec b i j).getLsbD t with
  | false=>rfl
  | true=>rw[q m] at c;exact absurd c (by simp)
theorem kZ {l:List aB} {row:List BV} {x:aB} {s:BV} (h:row.length=l.length):(jI l row x s).length=row.length:=by
 simp[jI,h]
theorem LK {l:List aB} {row:List BV} {x:aB} {s:BV} (h:row.length=l.length) (k:Nat):(jI l row x s).getD k 0=if l[k]?=some x then row.getD k 0 ||| s else row.getD k 0:=by
 rw[jI,Zi,List.getElem?_zipWith,Zi]
 by_cases hk:k < l.length
 .have h1:l[k]?=some l[k]:=Zj hk
  have a:row[k]?=some (row[k]'(by omega)):=Zj (by omega)
  rw[h1,a]
  simp
 .rw[ZT (by omega),ZT (by omega)]
  simp
theorem eS {α:Type} (l:List α) (i j:Nat) (x d:α):(l.set i x).getD j d=if i=j/\i < l.length then x else l.getD j d:=by
 simp only[Zi,aaV]
 by_cases e:i=j
 .subst e
  by_cases h:i < l.length
  .simp[h]
  .simp[h]
 .simp[e]
theorem vE {ls:List (List aB)} {ss:Sets} (hs:kR ls ss) {st:Nat} (a:st < ls.length) (x:aB) (s:BV) (i k:Nat) :
  ec (fO ls ss st x s) i k=if i=st/\(ls.getD st [])[k]?=some x then ec ss i k ||| s else ec ss i k:=by
 have hl:=hs.1
 unfold ec fO
 rw[eS]
 by_cases e:st=i
 .subst e
  rw[Zn ⟨rfl,by omega⟩,LK (hs.2 st)]
  simp
 .rw[Zk (λh=>e h.1),Zk (λh=>e h.1.symm)]
theorem jf {ls:List (List aB)} {ss:Sets} (hs:kR ls ss) {st:Nat} (_:st < ls.length) (x:aB) (s:BV):kR ls (fO ls ss st x s):=by
 refine⟨by rw[fO,aa1];exact hs.1,λi=>?_⟩
 have hl:=hs.1
 unfold fO
 rw[eS]
 split
 .rename_i h
  obtain⟨rfl,_⟩:=h
  rw[kZ (hs.2 st)];exact hs.2 st
 .exact hs.2 i
theorem kR.eq {ls:List (List aB)} {a b:Sets} (h:kR ls a) (k:kR ls b):a.length=b.length/\∀ i:Nat,(a.getD i []).length=(b.getD i []).length:=⟨h.1.trans k.1.symm,λi=>(h.2 i).trans (k.2 i).symm⟩
theorem mw {ls:List (List aB)} {ss:Sets} (hs:kR ls ss) {st:Nat} (a:st < ls.length) (x:aB) (s:BV):kP ss (fO ls ss st x s):=by
 refine⟨(hs.eq (jf hs a x s)).1,(hs.eq (jf hs a x s)).2,λi k t b=>?_⟩
 rw[vE hs a]
 split
 .rw[Z5,b];rfl
 .exact b
theorem G4 {ls:List (List aB)} {ss:Sets} (hs:kR ls ss) {st:Nat} (a:st < ls.length) {x:aB} {s:BV} (h:fO ls ss st x s=ss) {k:Nat} (hk:(ls.getD st [])[k]?=some x):iT s (ec ss st k):=by
 have:=vE hs a x s st k
 rw[h,Zn ⟨rfl,hk⟩] at this
 intro t b
 rw[this,Z5,b,Bool.or_true]
def dG (g:aj) (x:aB):List Int:=if 0<=x.aw then (ay g x.aw).right.drop (x.dot+1).toNat else []
def fE (g:aj) (ls:List (List aB)) (st:Nat) (s:Int) (b:BV) (ss:Sets) (n:Nat):Sets:=(List.range n).foldl (λss (k:Nat)=>if (ay g k).left = -1 - s then fO ls ss st ⟨k,0⟩ b else ss) ss
def jv (g:aj) (null:List Bool) (a:List aM) (ls:List (List aB)) (i k:Nat) (ss:Sets):Sets :=
 if (bA g ((ls.getD i []).getD k ⟨0,0⟩)).2=false∨ec ss i k=0 then ss
 else if 0<=(bA g ((ls.getD i []).getD k ⟨0,0⟩)).1 then fO ls ss (dY a i [(bA g ((ls.getD i []).getD k ⟨0,0⟩)).1]).1.toNat ⟨((ls.getD i []).getD k ⟨0,0⟩).aw,((ls.getD i []).getD k ⟨0,0⟩).dot+1⟩ (ec ss i k)
 else fE g ls i (bA g ((ls.getD i []).getD k ⟨0,0⟩)).1 (eR null (eL g null) (ec ss i k) (dG g ((ls.getD i []).getD k ⟨0,0⟩)))
  (fO ls ss (dY a i [(bA g ((ls.getD i []).getD k ⟨0,0⟩)).1]).1.toNat ⟨((ls.getD i []).getD k ⟨0,0⟩).aw,((ls.getD i []).getD k ⟨0,0⟩).dot+1⟩ (ec ss i k)) g.rules.length
inductive lB (g:aj) (null:List Bool) (a:List aM) (ls:List (List aB)):Nat->aB->Nat->Prop
 | start:(⟨-1,0⟩:aB)∈ls.getD 0 []->lB g null a ls 0 ⟨-1,0⟩ g.af.length
 | move {i:Nat} {x:aB} {t:Nat} {s:Int} : lB g null a ls i x t->bA g x=(s,true)->(⟨x.aw,x.dot+1⟩:aB)∈ls.getD (dY a i [s]).1.toNat []->lB g null a ls (dY a i [s]).1.toNat ⟨x.aw,x.dot+1⟩ t
 | begin {i:Nat} {x:aB} {t u:Nat} {s:Int} {k:Nat} : lB g null a ls i x t->bA g x=(s,true)->s < 0->k < g.rules.length->(ay g k).left = -1 - s->(⟨k,0⟩:aB)∈ls.getD i [] ->
  (eR null (eL g null) (BitVec.twoPow 32 t) (dG g x)).getLsbD u=true->lB g null a ls i ⟨k,0⟩ u
theorem lB.mem {g:aj} {null:List Bool} {a:List aM} {ls:List (List aB)} {i:Nat} {x:aB} {t:Nat} (h:lB g null a ls i x t):x∈ls.getD i []:=by
 cases h <;> assumption
def lW (g:aj) (null:List Bool) (a:List aM) (ls:List (List aB)) (ss:Sets):Prop:=∀ i k x t,(ls.getD i [])[k]?=some x->(ec ss i k).getLsbD t=true->lB g null a ls i x t
section
variable {g:aj} {null:List Bool} {a:List aM} {ls:List (List aB)}
theorem uM (b:ls.length=a.length) (h1:1<=a.length) (i:Nat) (l:List Int):(dY a i l).1.toNat < ls.length:=by
 unfold dY
 split
 .simp;omega
 .rename_i h
  have:=Bf (a:=a) l (i:Int) (by omega) (by omega)
  omega
theorem wX {ss:Sets} (hs:kR ls ss) (hd:lW g null a ls ss) {st:Nat} (d:st < ls.length) {x:aB} {s:BV} (h:∀ t,s.getLsbD t=true->x∈ls.getD st []->lB g null a ls st x t):lW g null a ls (fO ls ss st x s):=by
 intro i k y t c b
 rw[vE hs d] at b
 split at b
 .rename_i e
  obtain⟨rfl,hk⟩:=e
  rw[hk] at c
  simp only[Zl] at c
  subst c
  rw[Z5,aam] at b
  rcases b with b | b
  .exact hd i k x t hk b
  .exact h t b (Zp hk)
 .exact hd i k y t c b
theorem kK {st:Nat} (a:st < ls.length) (s:Int) (b:BV):∀ (n:Nat) (ss:Sets),kR ls ss->kR ls (fE g ls st s b ss n)/\kP ss (fE g ls st s b ss n)
 | 0,ss,hs=>⟨hs,.refl⟩
 | n+1,ss,hs=>by
  obtain⟨h1,c⟩:=kK a s b n ss hs
  unfold fE at h1 c ⊢
  rw[Z8,Z7]
  simp only[ZS,aaC]
  split
  .exact⟨jf h1 a _ _,c.trans (mw h1 a _ _)⟩
  .exact⟨h1,c⟩
theorem Ac {st:Nat} (c:st < ls.length) (s:Int) (b:BV) (e:∀ (k:Nat) t,(ay g k).left = -1 - s->k < g.rules.length->b.getLsbD t=true->(⟨k,0⟩:aB)∈ls.getD st []->lB g null a ls st ⟨k,0⟩ t):∀ (n:Nat) (ss:Sets),n<=g.rules.length->kR ls ss->lW g null a ls ss->lW g null a ls (fE g ls st s b ss n)
 | 0,ss,_,_,hd=>hd
 | n+1,ss,h,hs,hd=>by
  have h1:=(kK (g:=g) c s b n ss hs).1
  have d:=Ac c s b e n ss (by omega) hs hd
  unfold fE at h1 d ⊢
  rw[Z8,Z7]
  simp only[ZS,aaC]
  split
  .rename_i hl
   exact wX h1 d c λt f hm=>e n t hl (by omega) f hm
  .exact d
theorem CN {st:Nat} (c:st < ls.length) (s:Int) (b:BV):∀ (n:Nat) (ss:Sets),kR ls ss->fE g ls st s b ss n=ss->∀ k:Nat,k < n->(ay g k).left = -1 - s->fO ls ss st ⟨k,0⟩ b=ss
 | 0,ss,_,_,k,hk,_=>by omega
 | n+1,ss,hs,he,k,hk,hl=>by
  obtain⟨h1,f⟩:=kK (g:=g) c s b n ss hs
  have e:fE g ls st s b ss (n+1)=if (ay g n).left = -1 - s then fO ls (fE g ls st s b ss n) st ⟨n,0⟩ b else fE g ls st s b ss n:=by
   unfold fE
   rw[Z8,Z7]
   rfl
  have a:fE g ls st s b ss n=ss:=by
   refine kP.uU ?_ f
   rw[e] at he
   split at he
   .exact Eq.mp (aau (kP _) he) (mw h1 c _ _)
   .rw[he];exact .refl
  by_cases d:k=n
  .subst d
   rw[e,Zn hl,a] at he
   exact he
  .exact CN c s b n ss hs a k (by omega) hl
theorem KV (b:ls.length=a.length) (h1:1<=a.length) {i:Nat} (hi:i < ls.length) (k:Nat) {ss:Sets} (hs:kR ls ss):kR ls (jv g null a ls i k ss)/\kP ss (jv g null a ls i k ss):=by
 unfold jv
 split
 .exact⟨hs,.refl⟩
 .have hw:=uM b h1 i [(bA g ((ls.getD i []).getD k ⟨0,0⟩)).1]
  split
  .exact⟨jf hs hw _ _,mw hs hw _ _⟩
  .have:=kK (g:=g) hi (bA g ((ls.getD i []).getD k ⟨0,0⟩)).1 (eR null (eL g null) (ec ss i k) (dG g ((ls.getD i []).getD k ⟨0,0⟩))) g.rules.length _ (jf hs hw ⟨((ls.getD i []).getD k ⟨0,0⟩).aw,((ls.getD i []).getD k ⟨0,0⟩).dot+1⟩ (ec ss i k))
   exact⟨this.1,(mw hs hw _ _).trans this.2⟩
theorem LR (b:ls.length=a.length) (h1:1<=a.length) {i k:Nat} (hi:i < ls.length) (hk:k < (ls.getD i []).length) {ss:Sets} (hs:kR ls ss) (hd:lW g null a ls ss):lW g null a ls (jv g null a ls i k ss):=by
 have c:(ls.getD i [])[k]?=some ((ls.getD i []).getD k ⟨0,0⟩):=getD_some hk
 unfold jv
 generalize (ls.getD i []).getD k ⟨0,0⟩=x at c ⊢
 split
 .exact hd
 .rename_i d
  have e:bA g x=((bA g x).1,true):=by
   cases h:(bA g x).2 with
   | false=>exact absurd (.inl h) d
   | true=>rw[<-h]
  have j:ec ss i k≠0:=λh=>d (.inr h)
  have hw:=uM b h1 i [(bA g x).1]
  have d1:=wX hs hd hw (x:=⟨x.aw,x.dot+1⟩) (s:=ec ss i k) λt l hm=>lB.move (hd i k x t c l) e hm
  split
  .exact d1
  .rename_i f
   refine Ac hi _ _ (λq u hl hq hu hm=>?_) _ _ (Zt _) (jf hs hw _ _) d1
   obtain⟨t,m,n⟩:=Wy _ _ hu j
   exact lB.begin (hd i k x t c m) e (by omega) hq hl hm n
theorem QH (f:ls.length=a.length) (h1:1<=a.length) {ss:Sets} (hs:kR ls ss) (w:∀ k,(ls.getD 0 [])[k]?=some ⟨-1,0⟩->(ec ss 0 k).getLsbD g.af.length=true)
  (r:∀ i k,i < ls.length->k < (ls.getD i []).length->jv g null a ls i k ss=ss) {i:Nat} {x:aB} {t:Nat} (h:lB g null a ls i x t):∀ k,(ls.getD i [])[k]?=some x->(ec ss i k).getLsbD t=true:=by
 have key:∀ {i:Nat} {x:aB} {t:Nat},lB g null a ls i x t->(∀ k,(ls.getD i [])[k]?=some x->(ec ss i k).getLsbD t=true)->∃ k,(ls.getD i [])[k]?=some x/\i < ls.length/\k < (ls.getD i []).length/\(ec ss i k).getLsbD t=true:=by
  intro i x t h l
  obtain⟨k,hk,e⟩:=aaA.1 h.mem
  have d:(ls.getD i [])[k]?=some x:=by rw[Zj hk,e]
  refine⟨k,d,?_,hk,l k d⟩
  rcases ZI i ls.length with h | h
  .exact h
  .rw[Zi,ZT h] at hk;simp at hk
 induction h with
 | start=>exact w
 | @move i x t s hl m hm l =>
  intro j n
  obtain⟨k,d,hi,hk,b⟩:=key hl l
  have hp:=r i k hi hk
  have c:(ls.getD i []).getD k ⟨0,0⟩=x:=by rw[Zi,d];rfl
  have o:¬ ec ss i k=0:=λe=>by rw[e] at b;simp at b
  unfold jv at hp
  rw[c,m,Zk (λh=>h.elim (by simp) o)] at hp
  simp only at hp
  have hw:=uM f h1 i [s]
  have p:fO ls ss (dY a i [s]).1.toNat ⟨x.aw,x.dot+1⟩ (ec ss i k)=ss:=by
   split at hp
   .exact hp
   .exact kP.uU (Eq.mp (aau (kP _) hp) (kK hi _ _ _ _ (jf hs hw _ _)).2) (mw hs hw _ _)
  exact G4 hs hw p n t b
 | @begin i x t u s q hl m v hq y hm hu l =>
  intro j n
  obtain⟨k,d,hi,hk,b⟩:=key hl l
  have hp:=r i k hi hk
  have c:(ls.getD i []).getD k ⟨0,0⟩=x:=by rw[Zi,d];rfl
  have o:¬ ec ss i k=0:=λe=>by rw[e] at b;simp at b
  unfold jv at hp
  rw[c,m,Zk (λh=>h.elim (by simp) o)] at hp
  simp only at hp
  have hw:=uM f h1 i [s]
  rw[Zk (by omega)] at hp
  have p:fO ls ss (dY a i [s]).1.toNat ⟨x.aw,x.dot+1⟩ (ec ss i k)=ss:=by
   exact kP.uU (Eq.mp (aau (kP _) hp) (kK hi _ _ _ _ (jf hs hw _ _)).2) (mw hs hw _ _)
  rw[p] at hp
  have:=CN hi _ _ _ _ hs hp q hq y
  exact G4 hs hi this n u (JT (O3 b) _ _ hu)
def yX (l:List BV):Nat:=(l.map BitVec.toNat).sum
def A7 (ss:Sets):Nat:=(ss.map yX).sum
theorem MC:∀ {a b:List BV},a.length=b.length->(∀ k:Nat,iT (a.getD k 0) (b.getD k 0))->yX a<=yX b/\(a≠b->yX a < yX b)
 | [],[],_,_=>⟨Zt _,λh=>absurd rfl h⟩
 | [],_ :: _,h,_=>by simp at h
 | _ :: _,[],h,_=>by simp at h
 | x :: a,y :: b,h,hs=>by
  obtain⟨h1,f⟩:=MC (a:=a) (b:=b) (by simpa using h) λk=>by simpa using hs (k+1)
  have g:iT x y:=by simpa using hs 0
  have e:=F9.2 g
  have i:x.toNat<=y.toNat:=by have:=X7 y x;rw[BitVec.or_comm] at e;rw[e] at this;exact this
  simp only[yX,ZJ,List.sum_cons] at h1 f ⊢
  refine⟨by omega,λd=>?_⟩
  by_cases c:x=y
  .subst c
   have:=f λe=>d (by rw[e])
   omega
  .have:x.toNat≠y.toNat:=λe=>c (BitVec.eq_of_toNat_eq e)
   omega
theorem Ny:∀ {a b:Sets},kP a b->A7 a<=A7 b/\(a≠b->A7 a < A7 b)
 | [],[],_=>⟨Zt _,λh=>absurd rfl h⟩
 | [],_ :: _,h=>by have:=h.1;simp at this
 | _ :: _,[],h=>by have:=h.1;simp at this
 | x :: a,y :: b,h=>by
  obtain⟨h1,f⟩:=Ny (a:=a) (b:=b) ⟨by simpa using h.1,λi=>by simpa using h.2.1 (i+1),λi k=>by simpa [ec] using h.2.2 (i+1) k⟩
  obtain⟨j,g⟩:=MC (a:=x) (b:=y) (by simpa using h.2.1 0) λk=>by simpa [ec] using h.2.2 0 k
  simp only[A7,ZJ,List.sum_cons] at h1 f ⊢
  refine⟨by omega,λd=>?_⟩
  by_cases c:x=y
  .subst c
   have:=f λe=>d (by rw[e])
   omega
  .have:=g c
   omega
theorem KB:∀ l:List BV,yX l<=l.length * 4294967296
 | []=>by simp[yX]
 | x :: l=>by
  have:=KB l
  have a:=x.isLt
  simp only[yX,ZJ,List.sum_cons,ZB] at this ⊢
  omega
def UN (ls:List (List aB)):Nat:=(ls.map λl=>l.length * 4294967296).sum
theorem Lb:∀ {ls:List (List aB)} {ss:Sets},kR ls ss->A7 ss<=UN ls
 | [],[],_=>Zt _
 | [],_ :: _,h=>by have:=h.1;simp at this
 | _ :: _,[],h=>by have:=h.1;simp at this
 | l :: ls,x :: ss,h=>by
  have h1:=Lb (ls:=ls) (ss:=ss) ⟨by simpa using h.1,λi=>by simpa using h.2 (i+1)⟩
  have a:=KB x
  have b:x.length=l.length:=by simpa using h.2 0
  simp only[A7,UN,ZJ,List.sum_cons] at h1 ⊢
  rw[b] at a
  omega
end
end Gv
