/-
  Part 13 of the proof: what the machine does and what the functions answer.
  Conditions: those that each lemma names.
-/
import Derived.Test.YtiophifnkakjgaaGreatSGzC5L
set_option linter.unusedSimpArgs false
set_option linter.unusedVariables false
set_option maxRecDepth 100000
set_option maxHeartbeats 20000000
namespace Gv
open Go Go.Proofs
def cW {κ:Type} (kv:κ->V) (m:cH κ):List (V × V × Nat):=m.map λx=>(kv x.1,x.2.1,x.2.2)
structure DG {κ:Type} [BEq κ] (P:Program) (kt:TypeId) (kv:κ->V):Prop where
 find:∀k e m,nt P kt (kv k) e (cW kv m)=some (gw k m)
 same:∀k,sameKey (kv k) (kv k)=true
def k8 {κ:Type} (m:cH κ) (c:Nat):Prop:=(m.map (·.2.2)).Nodup/\∀x∈m,x.2.2<c
def ln {κ:Type} [BEq κ] (m:cH κ) (k:κ):Option Nat:=(m.find? λx=>k==x.1).map (·.2.2)
section
variable {κ:Type} [BEq κ] [LawfulBEq κ] {kv:κ->V}
theorem oX (k:κ):∀m:cH κ,match gw k m with
  | some i=>∃x,m[i]?=some x/\x.1=k/\getM m k=some x.2.1/\ln m k=some x.2.2/\(cW kv m)[i]?=some (kv k,x.2.1,x.2.2)/\∀v c,(cW kv m).set i (kv k,v,x.2.2)=cW kv (bN k v c m)/\ln (bN k v c m) k=some x.2.2/\(bN k v c m).map (·.2.2)=m.map (·.2.2)
  | none=>getM m k=none/\ln m k=none/\∀v c,cW kv m++[(kv k,v,c)]=cW kv (bN k v c m)/\ln (bN k v c m) k=some c/\(bN k v c m).map (·.2.2)=m.map (·.2.2)++[c]
 | []=>⟨rfl,rfl,λv c=>⟨rfl,by simp[bN,ln],rfl⟩⟩
 | x::r=>by
  have a:=oX k r
  simp only[gw]
  cases hk:k==x.1 with
  | true =>
   have b:x.1=k:=(eq_of_beq hk).symm
   exact⟨x,rfl,b,by simp[getM,hk],by simp[ln,hk],by simp[cW,b],λv c=>by simp[bN,hk,cW,ln]⟩
  | false =>
   simp only[aa9,if_false]
   cases hi:gw k r with
   | some i =>
    rw[hi] at a
    obtain⟨y,h1,d,e,f,g,h⟩:=a
    refine⟨y,by simpa using h1,d,by simpa [getM,hk] using e,by simpa [ln,hk] using f,by simpa [cW] using g,λv c=>?_⟩
    obtain⟨g1,g2,g3⟩:=h v c
    exact⟨by simp only[cW] at g1 ⊢;simp[bN,hk,g1],by simpa [bN,hk,ln] using g2,by simp[bN,hk,g3]⟩
   | none =>
    rw[hi] at a
    refine⟨by simpa [getM,hk] using a.1,by simpa [ln,hk] using a.2.1,λv c=>?_⟩
    obtain⟨g1,g2,g3⟩:=a.2.2 v c
    exact⟨by simp only[cW] at g1 ⊢;simp[bN,hk,g1],by simpa [bN,hk,ln] using g2,by simp[bN,hk,g3]⟩
theorem k8.put {m:cH κ} {c:Nat} (h:k8 m c) (k:κ) (v:V):k8 (bN k v c m) (c+1):=by
 have f:=oX (kv:=λ_=>V.any) k m
 cases i:gw k m with
 | some j =>
  rw[i] at f
  obtain⟨y,_,_,_,_,_,n⟩:=f
  have e:=(n v c).2.2
  refine⟨by rw[e];exact h.1,λx g=>?_⟩
  have:x.2.2∈m.map (·.2.2):=by rw[<-e];exact aa4.2 ⟨x,g,rfl⟩
  obtain⟨y,d,o⟩:=aa4.1 this
  have:=h.2 y d
  omega
 | none =>
  rw[i] at f
  have e:=(f.2.2 v c).2.2
  refine⟨?_,λx g=>?_⟩
  .rw[e,ab2]
   refine⟨h.1,by simp,λa p b l=>?_⟩
   simp at l;subst l
   obtain⟨y,d,rfl⟩:=aa4.1 p
   have:=h.2 y d
   omega
  .have:x.2.2∈m.map (·.2.2)++[c]:=by rw[<-e];exact aa4.2 ⟨x,g,rfl⟩
   rcases aa0.1 this with h1 | h1
   .obtain⟨y,d,o⟩:=aa4.1 h1
    have:=h.2 y d
    omega
   .simp at h1;omega
theorem k8.U8 {m:cH κ} {c:Nat} (h:k8 m c) {k:κ} {b:Nat} (d:ln m k=some b) (v:V) (f:Nat):k8 (bN k v f m) c:=by
 have a:=oX (kv:=λ_=>V.any) k m
 cases g:gw k m with
 | some j =>
  rw[g] at a
  obtain⟨y,_,_,_,_,_,i⟩:=a
  have e:=(i v f).2.2
  refine⟨by rw[e];exact h.1,λx l=>?_⟩
  have:x.2.2∈m.map (·.2.2):=by rw[<-e];exact aa4.2 ⟨x,l,rfl⟩
  obtain⟨y,n,o⟩:=aa4.1 this
  have:=h.2 y n
  omega
 | none =>
  rw[g] at a
  rw[a.2.1] at d;simp at d
omit [BEq κ] [LawfulBEq κ] in
theorem find_born (b:Nat):∀(m:cH κ) (i:Nat) (x:κ × V × Nat),(m.map (·.2.2)).Nodup->m[i]?=some x->x.2.2=b->(cW kv m).findIdx? (λe=>e.2.2==b)=some i
 | [],i,x,_,h,_=>by simp at h
 | y::m,0,x,a,h,e=>by
  simp at h;subst h
  simp[cW,List.findIdx?_cons,e]
 | y::m,i+1,x,a,h,e=>by
  simp only[aba,abC] at a
  have h:m[i]?=some x:=by simpa using h
  have f:x∈m:=aaV h
  have c:¬ y.2.2=b:=λg=>a.1 (by rw[g,<-e];exact aa4.2 ⟨x,f,rfl⟩)
  have d:=find_born b m i x a.2 h e
  simp only[cW] at d
  simp[cW,List.findIdx?_cons,c,d]
variable {P:Program} {T:Env} {H:View} {kt et t ty:TypeId}
theorem Jv {K:V->View->Prop} {w:c9 (T,H,K)} {x i:Operand} {z:V} {id c:Nat} {m:cH κ} {k:κ} (hm:eN P t=some (kt,et)) (d:zeroV P et=some z) (hk:DG P kt kv)
  (e:ev T x=.mp id) (hi:ev T i=kv k) (hH:H id=.map (cW kv m) c) (h:K ((getM m k).getD z) H):jM P (.lookup t x i false) ty T H K w:=by
 intro n _
 have f:=hk.find k (cW kv m).isEmpty m
 have a:=oX (kv:=kv) k m
 refine⟨(getM m k).getD z,.none,[id],?_,h⟩
 simp only[sI,cL,oper,fU,hm,d,e,hi,hH,f]
 cases b:gw k m with
 | some j =>
  rw[b] at a
  obtain⟨y,h1,o,g,p,l,_⟩:=a
  simp[l,g]
 | none =>
  rw[b] at a
  simp[a.1]
theorem HT {z:V} {id c:Nat} {m:cH κ} {k:κ} (hm:eN P t=some (kt,et)) (l:zeroV P et=some z) (hk:DG P kt kv) (hH:H id=.map (cW kv m) c) (e:k8 m c):
  ∃b f,fe P t (.mp id) (kv k) H=some (.bb [(getM m k).getD z,cM b],.fJ id (.map (cW kv (bN k ((getM m k).getD z) c m)) f),[id])/\k8 (bN k ((getM m k).getD z) c m) f/\ln (bN k ((getM m k).getD z) c m) k=some b:=by
 have d:=hk.find k false m
 have a:=oX (kv:=kv) k m
 cases g:gw k m with
 | some j =>
  rw[g] at a d
  obtain⟨y,h1,p,h,n,o,i⟩:=a
  refine⟨y.2.2,c,?_,?_,?_⟩
  .simp only[fe,hm,hH,d,o,hk.same k,if_true,h,aaZ]
   rw[(i y.2.1 c).1]
  .exact e.U8 n _ _
  .rw[h];exact(i _ c).2.1
 | none =>
  rw[g] at a d
  refine⟨c,c+1,?_,e.put k _,?_⟩
  .simp only[fe,hm,hH,d,l,a.1,Option.getD_none]
   rw[(a.2.2 z c).1]
  .rw[a.1];exact(a.2.2 _ c).2.1
theorem RA {K:V->View->Prop} {w:c9 (T,H,K)} {x i:Operand} {z:V} {id c:Nat} {m:cH κ} {k:κ} (hm:eN P t=some (kt,et)) (d:zeroV P et=some z) (hk:DG P kt kv)
  (e:ev T x=.mp id) (hi:ev T i=kv k) (hH:H id=.map (cW kv m) c) (f:k8 m c)
  (h:∀b a,k8 (bN k ((getM m k).getD z) c m) a->ln (bN k ((getM m k).getD z) c m) k=some b->K (.bb [(getM m k).getD z,cM b]) (H.set id (.map (cW kv (bN k ((getM m k).getD z) c m)) a))):jM P (.mapEntry t x i) ty T H K w:=by
 intro n _
 obtain⟨b,a,h1,g,j⟩:=HT (k:=k) hm d hk hH f
 refine⟨.bb [(getM m k).getD z,cM b],.fJ id (.map (cW kv (bN k ((getM m k).getD z) c m)) a),[id],?_,h b a g j⟩
 simp only[sI,cL,oper,e,hi]
 exact h1
theorem RF {K:V->View->Prop} {w:c9 (T,H,K)} {x s y:Operand} {id c b:Nat} {m:cH κ} {k:κ} {v:V} (i:ev T x=.mp id) (l:ev T s=cM b) (o:ev T y=v) (hH:H id=.map (cW kv m) c) (p:k8 m c) (a:ln m k=some b)
  (h:∀c0,K .any (H.set id (.map (cW kv (bN k v c0 m)) c))):jM P (.entryStore t x s y) ty T H K w:=by
 intro n _
 have d:=oX (kv:=kv) k m
 cases g:gw k m with
 | none=>rw[g] at d;rw[d.2.1] at a;simp at a
 | some j =>
  rw[g] at d
  obtain⟨z,h1,B,C,f,q,r⟩:=d
  rw[a] at f
  have e:z.2.2=b:=by simp at f;exact f.symm
  have u:=find_born (kv:=kv) b m j z p.1 h1 e
  refine⟨.any,.fJ id (.map (cW kv (bN k v c m)) c),[id],?_,h c⟩
  have A:asNat (cM b)=some b:=by simp[asNat,cM]
  simp only[sI,cL,oper,i,l,o,lN,A,hH,u,q]
  rw[(r v c).1]
theorem X9 {z:V} {id c:Nat} {m:cH κ} {k:κ} (hm:eN P t=some (kt,et)) (f:zeroV P et=some z) (hk:DG P kt kv) (hH:H id=.map (cW kv m) c) (i:k8 m c):KA P t (.mp id) (kv k) H:=by
 refine⟨⟨_,_,hH⟩,λv obj rd he=>?_⟩
 obtain⟨b,l,h1,n,g⟩:=HT (k:=k) hm f hk hH i
 rw[he] at h1
 simp only[aaK,aaN,bo.fJ.injEq] at h1
 obtain⟨_,⟨_,rfl⟩,_⟩:=h1
 have key:∀(a:cH κ) (c2:Nat) (H':View),H' id=.map (cW kv a) c2->fU P t (.mp id) (kv k) false H'=some ((getM a k).getD z,.none,[id]):=by
  intro a c2 H' e
  have o:=hk.find k (cW kv a).isEmpty a
  have d:=oX (kv:=kv) k a
  simp only[fU,hm,f,e,o]
  cases h:gw k a with
  | some j =>
   rw[h] at d
   obtain⟨y,h1,n,g,q,p,_⟩:=d
   simp[p,g]
  | none =>
   rw[h] at d
   simp[d.1]
 rw[key (bN k ((getM m k).getD z) c m) l _ (by simp[View.set]),key m c H hH,lx]
 simp
end
def fX (x:Item):List V:=[cM x.aB,cM x.dot,cM x.en]
def tW (x:Item):V:=.agg (fX x)
def mU (x:Item):Value:=.agg #[.int .i64 x.aB,.int .i64 x.dot,.int .i64 x.en]
theorem D9 (x:Item):dz (tW x)=some (mU x):=rfl
theorem F0:∀m:cH Item,gF (cW tW m)=some (m.map λx=>{ key:=mU x.1,val:=.nilFunc,born:=x.2.2 })
 | []=>rfl
 | x::r=>by
  have:=F0 r
  simp only[cW] at this
  simp[cW,gF,D9,this]
structure X5 (P:Program) (kt:TypeId):Prop where
 ty:∃f0 f1 f2:Field,P.underlying kt=some (.struct #[f0,f1,f2])/\f0.name≠ "_" /\ f1.name≠ "_" /\ f2.name≠ "_" /\ P.underlying f0.type=some (.int .i64)/\P.underlying f1.type=some (.int .i64)/\P.underlying f2.type=some (.int .i64)/\f0.offset=0/\f1.offset=1/\f2.offset=2
 held:P.stoodInHeld kt=false
theorem vu {P:Program} {α:Type} (x:α):bk P (pure x:Sem α)=some x:=rfl
theorem Yc {P:Program} {kt:TypeId} (h:X5 P kt):DG P kt tW where
 same:=λk=>by simp[sameKey,D9,mU,Instr.sameBits]
 find:=by
  obtain⟨f0,f1,f2,hu,t,u,w,f,g,l,o0,n,o⟩:=h.ty
  have heq:∀a b:Item,bk P (Op.equal kt (mU a) (mU b))=some (a==b):=by
   intro a b
   have y:hU P 9998 #[.int .i64 (a.aB:Int),.int .i64 (a.dot:Int),.int .i64 (a.en:Int)] #[.int .i64 (b.aB:Int),.int .i64 (b.dot:Int),.int .i64 (b.en:Int)] [f0,f1,f2] (((a.aB:Int)==b.aB)&&(((a.dot:Int)==b.dot)&&(((a.en:Int)==b.en)&&true))):=
    .int f0 _ _ .i64 _ _ t f (by rw[o0];rfl) (by rw[o0];rfl) (.int f1 _ _ .i64 _ _ u g (by rw[n];rfl) (by rw[n];rfl) (.int f2 _ _ .i64 _ _ w l (by rw[o];rfl) (by rw[o];rfl) .nil))
   rw[mU,mU,vf hu h.held y]
   congr 1
   rw[aby]
   simp only[aaR,abJ,Int.natCast_inj,and_true]
   cases a;cases b;simp
  have c:∀(k:Item) (m:cH Item) (i:Nat),bk P (Instr.findAsking kt (mU k) (m.map λx=>{ key:=mU x.1,val:=.nilFunc,born:=x.2.2 }) i)=some ((gw k m).map λj=>(i+j,.nilFunc)):=by
   intro k m
   induction m with
   | nil=>intro i;rfl
   | cons x r z =>
    intro i
    simp only[aba,Instr.findAsking,aY,heq,abd,gw]
    cases hk:k==x.1 with
    | true=>simp[vu]
    | false =>
     simp only[aa9,if_false,z (i+1),Option.map_map]
     congr 2
     funext j
     simp only[Function.comp]
     congr 1
     omega
  have hint:∀(e:Bool) (p:TypeId) (v:Value),P.underlying p=some (.int .i64)->bk P (Instr.checkKey e 9999 p v)=some ():=λe p v q=>zu q trivial e 9998 v
  have d:∀(k:Item) (e:Bool),bk P (Instr.checkKey e 10000 kt (mU k))=some ():=by
   intro k e
   unfold Instr.checkKey mU
   rw[aY,dD hu,abd]
   have A:=ey (P:=P) f (.inr ⟨_,rfl⟩) #[.int .i64 (k.aB:Int),.int .i64 (k.dot:Int),.int .i64 (k.en:Int)] f0.offset (v:=.int .i64 k.aB) (by rw[o0];rfl)
   have B:=ey (P:=P) g (.inr ⟨_,rfl⟩) #[.int .i64 (k.aB:Int),.int .i64 (k.dot:Int),.int .i64 (k.en:Int)] f1.offset (v:=.int .i64 k.dot) (by rw[n];rfl)
   have C:=ey (P:=P) l (.inr ⟨_,rfl⟩) #[.int .i64 (k.aB:Int),.int .i64 (k.dot:Int),.int .i64 (k.en:Int)] f2.offset (v:=.int .i64 k.en) (by rw[o];rfl)
   simp only[<-Array.forIn_toList,List.forIn_cons,List.forIn_nil,aaL t,aaL u,aaL w,aY,A,B,C,hint e _ _ f,hint e _ _ g,hint e _ _ l,abd,vu]
  intro k e m
  have s:bk P (underlying kt)=some _:=dD hu
  simp only[nt,D9,F0,aY,d,abd]
  have:bk P (Instr.findKey kt (mU k) (m.map λx=>{ key:=mU x.1,val:=.nilFunc,born:=x.2.2 }))=some ((gw k m).map λj=>(0+j,.nilFunc)):=by
   unfold Instr.findKey
   rw[aY,s,abd]
   cases m with
   | nil=>rfl
   | cons x r=>exact c k (x::r) 0
  rw[this]
  cases gw k m with
  | none=>rfl
  | some j=>simp
def Sk (m:cH Item) (s:List Item) (B:Nat):Prop:=∀x,(x∈s->∃k:Nat,getM m x=some (cM k)/\1<=k/\k<=B)/\(x ∉ s->getM m x=none)
structure og (H:View) (c sid mid:Nat) (sv:Nat->V) (mi:Nat->Nat) (mm:Nat->cH Item) (cl:Nat->Nat) (g:aj) (p:List Int) (nu:V) (S S1:Nat->List Item) (B n:Nat) (K:List (Nat × cr)):Prop where
 box:H c=.arr 8 [[.aZ (g.ax.map dd),encS g.av,.aZ (g.rules.map aO),gi g.start,encI p,nu,.sl sid 0 n 1,.sl mid 0 n 1]]
 jr:H sid=.arr 1 ((List.range n).map λj=>[sv j])
 seen:H mid=.arr 1 ((List.range n).map λj=>[.mp (mi j)])
 set:∀j,j<n->aQ H (sv j) 3 ((S j).map fX)
 map:∀j,j<n->H (mi j)=.map (cW tW (mm j)) (cl j)/\k8 (mm j) (cl j)/\Sk (mm j) (S1 j) B
 ne:sid≠mid
 BZ:∀i j o,i<n->j<n->owner (sv i)=some o->owner (sv j)=some o->i=j
 G7:∀i j,i<n->j<n->mi i=mi j->i=j
 off:∀q∈K,H q.1=q.2/\q.2≠.dead/\q.1≠sid/\(∀j,j<n->q.1≠mi j)/\∀j,j<n->owner (sv j)≠some q.1
def Ch (H:View) (c:Nat) (g:aj) (p:List Int) (nu:V) (S:Nat->List Item) (B n:Nat) (K:List (Nat × cr)):Prop:=∃sid mid sv mi mm cl,og H c sid mid sv mi mm cl g p nu S S B n K
def kP (S:Nat->List Item) (a:Nat) (x:Item):Nat->List Item:=λb=>if b=a then (if x∈S a then S a else S a++[x]) else S b
theorem Ch.more {H:View} {c:Nat} {g:aj} {p:List Int} {e:V} {S:Nat->List Item} {B B' n:Nat} {K:List (Nat × cr)} (h:Ch H c g p e S B n K) (o:B<=B'):Ch H c g p e S B' n K:=by
 obtain⟨b,d,f,i,mm,cl,h⟩:=h
 refine⟨b,d,f,i,mm,cl,h.box,h.jr,h.seen,h.set,λj a=>⟨(h.map j a).1,(h.map j a).2.1,λx=>⟨λl=>?_,((h.map j a).2.2 x).2⟩⟩,h.ne,h.BZ,h.G7,h.off⟩
 obtain⟨k,h1,m,q⟩:=((h.map j a).2.2 x).1 l
 exact⟨k,h1,m,by omega⟩
theorem Ch.drop {H:View} {c:Nat} {g:aj} {p:List Int} {d:V} {S:Nat->List Item} {B n:Nat} {q:Nat × cr} {K:List (Nat × cr)} (h:Ch H c g p d S B n (q::K)):Ch H c g p d S B n K:=by
 obtain⟨a,b,e,f,mm,cl,h⟩:=h
 exact⟨a,b,e,f,mm,cl,h.box,h.jr,h.seen,h.set,h.map,h.ne,h.BZ,h.G7,λq i=>h.off q (by simp[i])⟩
theorem og.new {H:View} {c f i:Nat} {m:Nat->V} {r:Nat->Nat} {mm:Nat->cH Item} {cl:Nat->Nat} {g:aj} {p:List Int} {s:V} {S t:Nat->List Item} {B n:Nat} {K:List (Nat × cr)} (h:og H c f i m r mm cl g p s S t B n K)
  {b:Nat} {o:cr} (k:H b=.dead) (v:o≠.dead):og (H.set b o) c f i m r mm cl g p s S t B n ((b,o)::K):=by
 have keep:∀id,H id≠.dead->(H.set b o) id=H id:=λid d=>by
  have e:id≠b:=by rintro rfl;exact d k
  simp[View.set,e]
 have live:∀ {id},H id≠.dead->b≠id:=λd e=>d (e▸k)
 refine⟨?_,?_,?_,λj a=>?_,λj a=>?_,h.ne,h.BZ,h.G7,λq l=>?_⟩
 .rw[keep _ (by rw[h.box];simp)];exact h.box
 .rw[keep _ (by rw[h.jr];simp)];exact h.jr
 .rw[keep _ (by rw[h.seen];simp)];exact h.seen
 .exact(h.set j a).fresh k
 .rw[keep _ (by rw[(h.map j a).1];simp)];exact h.map j a
 .rcases aa1.1 l with rfl | l
  .refine⟨by simp[View.set],v,live (by rw[h.jr];simp),λj a=>live (by rw[(h.map j a).1];simp),λj a=>?_⟩
   have:=(h.set j a).ne k
   exact this
  .obtain⟨h1,u,w⟩:=h.off q l
   exact⟨by rw[keep _ (by rw[h1];exact u)];exact h1,u,w⟩
theorem Ch.new {H:View} {c:Nat} {g:aj} {p:List Int} {e:V} {S:Nat->List Item} {B n b:Nat} {o:cr} {K:List (Nat × cr)} (h:Ch H c g p e S B n K) (f:H b=.dead) (i:o≠.dead):Ch (H.set b o) c g p e S B n ((b,o)::K):=by
 obtain⟨a,d,j,k,mm,cl,h⟩:=h
 exact⟨a,d,j,k,mm,cl,h.new f i⟩
theorem Ch.kept {H:View} {c:Nat} {g:aj} {p:List Int} {a:V} {S:Nat->List Item} {B n:Nat} {K:List (Nat × cr)} (h:Ch H c g p a S B n K):∀q∈K,H q.1=q.2:=by
 obtain⟨b,d,f,i,mm,cl,h⟩:=h
 exact λq e=>(h.off q e).1
def tc:SF:=⟨ai [ag [cg 5 2],.yQ (188,12,13) [] [⟨none,[af 6 0,fO 7 6,aw 8 7 7,au 9 8,af 10 1,aK 11 1 9 10,au 12 11,aU 13 3 5,((some 14),.op (.old (.lookup 188 (.tmp 12) (.tmp 13) false) 3)),aH 15 .add 14 1,((some 16),.op (.old (.mapEntry 188 (.tmp 12) (.tmp 13)) 0)),du 17 1 16,(none,.op (.old (.entryStore 188 (.tmp 12) (.tmp 17) (.tmp 15)) 0))]⟩],ag [af 18 0,fO 19 18,aw 20 7 19,au 21 20,af 22 1,aK 23 1 21 22,au 24 23,aU 25 3 5,((some 26),.op (.old (.lookup 188 (.tmp 24) (.tmp 25) false) 3)),aH 27 .eql 26 1],aX 27 (.uQ [(30,39)] [⟨none,[af 28 0,fO 29 28,aw 30 6 29,au 31 30,af 32 1,af 33 0,fO 34 33,aw 35 6 34,au 36 35,af 37 1,aK 38 1 36 37,au 39 38,aU 40 3 5,((some 41),.op (.bO 1 3 [(.val (.int .i64 0)),(.val (.int .i64 0)),(.val (.int .i64 0))] [(0,(.tmp 40))])),fP 42 3 24 39 41,aK 43 1 31 32,cz 1 43 42]⟩])],
 [],44⟩
theorem yN:aJ aa 176 [5,100000]=some tc:=by kernel_rfl
theorem V9:X5 aa 191:=
 ⟨⟨⟨ "rule",3,0,false,"","gerund/oracle",0⟩,⟨ "dot",3,1,false,"","gerund/oracle",8⟩,⟨ "from",3,2,false,"","gerund/oracle",16⟩,by kernel_rfl,by decide,by decide,by decide,Tryz.underlying3,Tryz.underlying3,Tryz.underlying3,rfl,rfl,rfl⟩,by kernel_rfl⟩
theorem XC {m:cH Item} {s:List Item} {B c c0:Nat} {x:Item} (h:Sk m s B) (k:Nat) (hk:(x∈s/\getM m x=some (cM k))∨(x ∉ s/\k=0)) (i:k<=B) (z:V):Sk (bN x (cM (k+1:Nat)) c0 (bN x z c m)) (if x∈s then s else s++[x]) (B+1):=by
 intro y
 rw[lx,lx]
 by_cases e:y=x
 .subst e
  refine⟨λ_=>⟨k+1,by simp,by omega,by omega⟩,λd=>?_⟩
  exfalso
  by_cases a:y∈s
  .rw[aaL a] at d;exact d a
  .rw[aaI a] at d;exact d (by simp)
 .have e':(y==x)=false:=by simpa using e
  simp only[e',aa9,if_false]
  have b:(y∈if x∈s then s else s++[x])↔y∈s:=by
   split
   .exact Iff.rfl
   .simp[e]
  rw[b]
  refine⟨λa=>?_,(h y).2⟩
  obtain⟨f,h1,g,j⟩:=(h y).1 a
  exact⟨f,h1,g,by omega⟩
theorem og.wrote {H:View} {c f i:Nat} {v:Nat->V} {d:Nat->Nat} {mm:Nat->cH Item} {cl:Nat->Nat} {g:aj} {p:List Int} {w:V} {S r:Nat->List Item} {B n:Nat} {K:List (Nat × cr)} (h:og H c f i v d mm cl g p w S r B n K)
  {a:Nat} (s:a<n) {x:Item} {l:cH Item} {o:Nat} (D:k8 l o) (E:Sk l (kP r a x a) (B+1)):
  og (H.set (d a) (.map (cW tW l) o)) c f i v d (λj=>if j=a then l else mm j) (λj=>if j=a then o else cl j) g p w S (kP r a x) (B+1) n K:=by
 obtain⟨t,F,G⟩:=h.map a s
 have keep:∀id z es,H id=.arr z es->(H.set (d a) (.map (cW tW l) o)) id=H id:=λid z es b=>by
  have e:id≠d a:=by rintro rfl;rw[t] at b;simp at b
  simp[View.set,e]
 refine⟨?_,?_,?_,λj m=>?_,λj m=>?_,h.ne,h.BZ,h.G7,λq I=>?_⟩
 .rw[keep _ _ _ h.box];exact h.box
 .rw[keep _ _ _ h.jr];exact h.jr
 .rw[keep _ _ _ h.seen];exact h.seen
 .exact(h.set j m).keep λid b=>keep _ _ _ ((h.set j m).live b).1
 .by_cases e:j=a
  .subst e
   simp only[if_true]
   exact⟨by simp[View.set],D,E⟩
  .have J:d j≠d a:=λq=>e (h.G7 j a m s q)
   simp only[aaI e]
   obtain⟨g1,g2,g3⟩:=h.map j m
   refine⟨by simp[View.set,J,g1],g2,?_⟩
   simp only[kP,aaI e]
   intro y
   refine⟨λL=>?_,(g3 y).2⟩
   obtain⟨k,h1,u,A⟩:=(g3 y).1 L
   exact⟨k,h1,u,by omega⟩
 .obtain⟨h1,u,A,C,M⟩:=h.off q I
  exact⟨by simp[View.set,C a s,h1],u,A,C,M⟩
theorem og.Yj {H H':View} {c d s:Nat} {m:Nat->V} {z:Nat->Nat} {mm:Nat->cH Item} {cl:Nat->Nat} {g:aj} {p:List Int} {D:V} {S E:Nat->List Item} {B n:Nat} {K:List (Nat × cr)} (h:og H c d s m z mm cl g p D S E B n K)
  {a:Nat} (v:a<n) {x:Item} (F:¬ x∈S a) {u':V} (G:aQ H' u' 3 ((S a).map fX++[fX x])) (I:Left H H' (m a) u'):
  og (H'.set d (.arr 1 (((List.range n).map λj=>[m j]).set a [u']))) c d s (λj=>if j=a then u' else m j) z mm cl g p D (kP S a x) E B n K:=by
 have own:∀ {id},owner (m a)=some id->H id=.arr 3 ((S a).map fX):=λr=>((h.set a v).live r).1
 have J:owner (m a)≠some d:=λe=>by
  have:=own e
  rw[h.jr] at this;simp at this
 have keep:∀id,H id≠.dead->owner (m a)≠some id->H' id=H id/\owner u'≠some id:=I
 have L:=keep d (by rw[h.jr];simp) J
 have b:∀id,H id≠.dead->owner (m a)≠some id->id≠d->(H'.set d (.arr 1 (((List.range n).map λj=>[m j]).set a [u']))) id=H id:=λid h1 f w=>by
  simp only[View.set,aaI w];exact(keep id h1 f).1
 have t:∀ {id o},H id=o->o≠.arr 3 ((S a).map fX)->owner (m a)≠some id:=λh1 f e=>f (by rw[<-h1];exact own e)
 refine⟨?_,?_,?_,λj l=>?_,λj l=>?_,h.ne,λi j o hi l h1 f=>?_,h.G7,λq M=>?_⟩
 .rw[b c (by rw[h.box];simp) (t h.box (by simp)) (by rintro rfl;have:=h.box;rw[h.jr] at this;simp at this)];exact h.box
 .simp only[View.set,if_true]
  congr 1
  rw[GU]
  apply abK
  intro j _
  split<;>rfl
 .rw[b s (by rw[h.seen];simp) (t h.seen (by simp)) h.ne.symm];exact h.seen
 .by_cases e:j=a
  .subst e
   simp only[if_true,kP,aaI F,aa8,aba,acg]
   exact G.other L.2
  .simp only[aaI e,kP]
   refine(h.set j l).keep λid r=>?_
   have k:=((h.set j l).live r).1
   refine b id (by rw[k];simp) (λu=>e (h.BZ j a id l v r u)) ?_
   rintro rfl;rw[h.jr] at k;simp at k
 .obtain⟨g1,g2,g3⟩:=h.map j l
  refine⟨?_,g2,g3⟩
  rw[b (z j) (by rw[g1];simp) (t g1 (by simp)) (by intro e;rw[e,h.jr] at g1;simp at g1)];exact g1
 .by_cases y:i=a
  .by_cases u:j=a
   .omega
   .simp only[aaL y,aaI u] at h1 f
    exfalso
    have k:=((h.set j l).live f).1
    exact(keep o (by rw[k];simp) (λA=>u (h.BZ j a o l v f A))).2 h1
  .by_cases u:j=a
   .simp only[aaI y,aaL u] at h1 f
    exfalso
    have k:=((h.set i hi).live h1).1
    exact(keep o (by rw[k];simp) (λA=>y (h.BZ i a o hi v h1 A))).2 f
   .simp only[aaI y,aaI u] at h1 f
    exact h.BZ i j o hi l h1 f
 .obtain⟨h1,f,w,N,C⟩:=h.off q M
  refine⟨?_,f,w,N,λj l=>?_⟩
  .rw[b q.1 (by rw[h1];exact f) (C a v) w];exact h1
  .by_cases e:j=a
   .simp only[aaL e];exact(keep q.1 (by rw[h1];exact f) (C a v)).2
   .simp only[aaI e];exact C j l
theorem Fu (c:Nat) (g:aj) (p:List Int) (Y:V) (S:Nat->List Item) (B n a:Nat) (x:Item) (K:List (Nat × cr)) (H:View) (hC:Ch H c g p Y S B n K) (j:a<n) (hn:n<1000) (hB:B<1000000000000) (hl:(S a).length<1000000)
  (hx:x.aB<1000/\x.dot<1000/\x.en<1000):az aa 176 [.ptr c 0 0,cM a,.agg (fX x)] H λ_ H'=>Ch H' c g p Y (kP S a x) (B+1) n K:=by
 obtain⟨C,ab,Z,A,mm,cl,h⟩:=hC
 obtain⟨r,D,t⟩:=h.map a j
 have s:eN aa 188=some (191,3):=by kernel_rfl
 have L:zeroV aa 3=some (gi 0):=by kernel_rfl
 have i:=Yc V9
 have M:∃k:Nat,(getM (mm a) x).getD (gi 0)=cM k/\k<=B/\((x∈S a/\getM (mm a) x=some (cM k)/\1<=k)∨(¬ x∈S a/\k=0)):=by
  by_cases d:x∈S a
  .obtain⟨k,h1,l,f⟩:=(t x).1 d
   exact⟨k,by rw[h1];rfl,f,.inl ⟨d,h1,l⟩⟩
  .exact⟨0,by rw[(t x).2 d];rfl,by omega,.inr ⟨d,rfl⟩⟩
 obtain⟨k,E,N,u⟩:=M
 refine az.of mixed yN ?_
 simp(disch:=omega)only[↓wr,seval,wq,tc,h.box,h.seen,gE j,fX]
 refine⟨j,by simp;omega,?_⟩
 refine Jv (kv:=tW) (kt:=191) (et:=3) (z:=gi 0) s L i (id:=A a) (c:=cl a) (m:=mm a) (k:=x) (by simp(disch:=omega)only[↓wr,seval]) (by simp(disch:=omega)only[↓wr,seval];rfl) r ?_
 rw[E]
 simp(disch:=omega)only[↓wr,seval,wq]
 refine RA (kv:=tW) (kt:=191) (et:=3) (z:=gi 0) s L i (id:=A a) (c:=cl a) (m:=mm a) (k:=x) (by simp(disch:=omega)only[↓wr,seval]) (by simp(disch:=omega)only[↓wr,seval];rfl) r D λb O P w=>?_
 rw[E] at P w ⊢
 simp(disch:=omega)only[↓wr,seval,wq]
 have ek:V.val (.int .i64 ((k:Int)+1))=cM (k+1:Nat):=by simp[cM]
 refine RF (kv:=tW) (id:=A a) (c:=O) (b:=b) (m:=bN x (cM k) (cl a) (mm a)) (k:=x) (v:=cM (k+1:Nat)) (by simp(disch:=omega)only[↓wr,seval]) (by simp(disch:=omega)only[↓wr,seval,wq]) (by simp(disch:=omega)only[↓wr,seval,wq];exact ek) (by simp[View.set,cM]) P w λc0=>?_
 simp(disch:=omega)only[↓wr,seval,wq]
 refine⟨X9 (kv:=tW) s L i r D,?_⟩
 rw[set_set]
 have F:Sk (bN x (cM (k+1:Nat)) c0 (bN x (cM k) (cl a) (mm a))) (kP S a x a) (B+1):=by
  simp only[kP,if_true]
  exact XC t k (u.elim (λh=>.inl ⟨h.1,h.2.1⟩) .inr) N _
 have l:=h.wrote j (P.U8 w (cM (k+1:Nat)) c0) F
 have q:getM (bN x (cM (k+1:Nat)) c0 (bN x (cM k) (cl a) (mm a))) x=some (cM (k+1:Nat)):=by rw[lx];simp
 simp only[cM] at l q ⊢
 generalize bN x (.val (.int .i64 ((k+1:Nat):Int))) c0 (bN x (.val (.int .i64 (k:Int))) (cl a) (mm a))=m2 at l q ⊢
 generalize View.set H (A a) (.map (cW tW m2) O)=H2 at l ⊢
 have Q:c≠A a:=λe=>by
  have:=h.box
  rw[e,r] at this;simp at this
 simp only[aaI Q,h.box]
 simp(disch:=omega)only[↓wr,seval,wq,l.seen,gE j]
 refine⟨j,by simp;omega,?_⟩
 have G:=(l.map a j).1
 simp only[if_true] at G
 refine Jv (kv:=tW) (kt:=191) (et:=3) (z:=gi 0) s L i (id:=A a) (c:=O) (m:=m2) (k:=x) (by simp(disch:=omega)only[↓wr,seval]) (by simp(disch:=omega)only[↓wr,seval];rfl) G ?_
 rw[q]
 simp(disch:=omega)only[↓wr,seval,wq,aaZ]
 apply ao.eq<;>intro e
 .have d:¬ x∈S a:=by
   rcases u with f | f
   .omega
   .exact f.1
  simp(disch:=omega)only[↓wr,seval,wq,l.box,l.jr,gE j]
  refine⟨j,by simp;omega,λb1 R=>?_⟩
  rw[bE]
  have f:=l.new R (o:=.arr 3 [fX x]) (by simp)
  simp only[fX,cM] at f
  have T:=f.off _ (abP ..)
  generalize View.set H2 b1 _=H3 at f T ⊢
  have U:=f.set a j
  have W:jE (.ptr c 0 6) (Z a):=by
   rcases U with ⟨_,k,e⟩ | ⟨m,e,hm⟩
   .rw[e];trivial
   .rw[e]
    show c≠m
    rintro rfl
    have:=f.box
    rw[hm] at this;simp at this
  simp(disch:=omega)only[↓wr,seval,wq]
  refine kY U (by simp) (by simp[aL]) (by simp[aF];omega) (by simp[aF];omega) λu' H' y I=>?_
  have X:owner (Z a)≠some C:=λe=>by
   have:=(U.live e).1
   rw[f.jr] at this;simp at this
  have J:=(I C (by rw[f.jr];simp) X).1
  rw[f.jr] at J
  simp(disch:=omega)only[↓wr,seval,wq,J,y.cells,y.dU,gE j]
  refine⟨j,by simp;omega,W,?_⟩
  have h4:=f.Yj j d (u':=u') y I
  exact Ch.drop ⟨_,_,_,_,_,_,h4⟩
 .have d:x∈S a:=by
   rcases u with f | f
   .exact f.1
   .omega
  simp(disch:=omega)only[↓wr,seval,wq]
  have hS:kP S a x=S:=by
   funext b
   simp only[kP,aaL d]
   split
   .rename_i e;rw[e]
   .rfl
  rw[hS] at l ⊢
  exact⟨_,_,_,_,_,_,l⟩
inductive OZ (g:aj) (p:List Int):Int->Nat->Prop
 | start:OZ g p g.start 0
 | step (R:bc) (l1 l2:List Int) (n:Int) (f a:Nat):R∈g.rules->R.right=l1++(-1-n)::l2->OZ g p R.left f->Sp g p l1 f a->OZ g p n a
def Ql (g:aj) (p:List Int) (x:Item):Prop:=∃R,g.rules[x.aB]?=some R/\OZ g p R.left x.en
theorem take_at {l:List Int} {d:Nat} {s:Int} (h:l[d]?=some s):l=l.take d++s::l.drop (d+1):=by
 have h1:=(aaO.1 h)
 obtain⟨a,he⟩:=h1
 rw[<-he]
 simp
theorem Ql.ask {g:aj} {p:List Int} {a:Nat} {x:Item} (h:Ql g p x) (d:Sound g p a x) {R:bc} (c:g.rules[x.aB]?=some R) {s:Int} (e:R.right[x.dot]?=some s):OZ g p (-1-s) a:=by
 obtain⟨j,h1,f⟩:=h
 obtain⟨k,b,_,_,i⟩:=d
 rw[c] at h1 b;simp at h1 b;subst h1;subst b
 refine .step R (R.right.take x.dot) (R.right.drop (x.dot+1)) (-1-s) x.en a (aaV c) ?_ f i
 rw[show -1-(-1-s)=s by omega]
 exact take_at e
def Grow (a:Nat) (S S':Nat->List Item):Prop:=∀b,S b <+: S' b/\(b<a->S' b=S b)
structure Good (g:aj) (p:List Int) (S:Nat->List Item):Prop where
 nodup:∀a,(S a).Nodup
 sound:∀a x,x∈S a->Sound g p a x
 top:∀a x,x∈S a->Ql g p x
 out:∀a,p.length<a->S a=[]
theorem Grow.refl (a:Nat) (S:Nat->List Item):Grow a S S:=λ_=>⟨List.prefix_refl _,λ_=>rfl⟩
theorem Grow.trans {a:Nat} {S d c:Nat->List Item} (h:Grow a S d) (e:Grow a d c):Grow a S c:=λb=>⟨(h b).1.trans (e b).1,λf=>((e b).2 f).trans ((h b).2 f)⟩
theorem Grow.low {a c:Nat} {S d:Nat->List Item} (h:Grow a S d) (e:c<=a):Grow c S d:=λb=>⟨(h b).1,λf=>(h b).2 (by omega)⟩
theorem Grow.mem {a b:Nat} {S c:Nat->List Item} (h:Grow a S c) {x:Item} (d:x∈S b):x∈c b:=(h b).1.subset d
theorem rP {a b:Nat} (S:Nat->List Item) (x:Item) (h:a<=b):Grow a S (kP S b x):=by
 intro d
 unfold kP
 constructor
 .split
  .rename_i e
   subst e
   split
   .exact List.prefix_refl _
   .exact List.prefix_append _ _
  .exact List.prefix_refl _
 .intro c
  rw[aaI (by omega)]
theorem CP (S:Nat->List Item) (a:Nat) (x:Item):x∈kP S a x a:=by
 unfold kP
 rw[aaL rfl]
 split
 .assumption
 .simp
theorem Good.put {g:aj} {p:List Int} {S:Nat->List Item} (h:Good g p S) {a:Nat} {x:Item} (f:Sound g p a x) (i:Ql g p x) (l:a<=p.length):Good g p (kP S a x):=by
 refine⟨λb=>?_,λb y c=>?_,λb y c=>?_,λb j=>?_⟩
 .unfold kP
  split
  .rename_i e
   subst e
   split
   .exact h.nodup _
   .rename_i k
    rw[ab2]
    refine⟨h.nodup _,by simp,λu hu v d=>?_⟩
    simp at d
    rintro rfl
    exact k (d▸hu)
  .exact h.nodup _
 .unfold kP at c
  split at c
  .rename_i e
   subst e
   split at c
   .exact h.sound _ _ c
   .rcases aa0.1 c with c | c
    .exact h.sound _ _ c
    .simp at c;subst c;exact f
  .exact h.sound _ _ c
 .unfold kP at c
  split at c
  .rename_i e
   subst e
   split at c
   .exact h.top _ _ c
   .rcases aa0.1 c with c | c
    .exact h.top _ _ c
    .simp at c;subst c;exact i
  .exact h.top _ _ c
 .unfold kP
  rw[aaI (by omega)]
  exact h.out b j
theorem sB:∀(N:Nat) (l:List Nat),l.Nodup->(∀x∈l,x<N)->l.length<=N
 | 0,l,_,h=>by
  cases l with
  | nil=>simp
  | cons x l=>exact absurd (h x (by simp)) (by omega)
 | N+1,l,b,h=>by
  by_cases e:N∈l
  .have h1:=sB N (l.erase N) (b.erase N) λx a=>by
    have c:=(b.mem_erase_iff).1 a
    have:=h x c.2
    have:=c.1
    omega
   rw[List.length_erase_of_mem e] at h1
   omega
  .have:=sB N l b λx a=>by
    have:=h x a
    have:x≠N:=by rintro rfl;exact e a
    omega
   omega
theorem I2 {α:Type} {f:α->Nat}:∀ {l:List α},l.Nodup->(∀x∈l,∀y∈l,f x=f y->x=y)->(l.map f).Nodup
 | [],_,_=>by simp
 | x::l,c,h=>by
  rw[abC] at c
  rw[aba,abC]
  refine⟨λhm=>?_,I2 c.2 λa g b i=>h a (by simp[g]) b (by simp[i])⟩
  obtain⟨y,d,e⟩:=aa4.1 hm
  have:=h y (by simp[d]) x (by simp) e
  exact c.1 (this▸d)
theorem Sound.small {g:aj} (b:g.c5) {p:List Int} {a:Nat} {x:Item} (h:Sound g p a x):x.aB<40/\x.dot<7/\x.en<=a:=by
 obtain⟨R,c,e,d,_⟩:=h
 have h1:=(aaO.1 c).1
 have f:=b.rules
 have i:=b.right R (aaV c)
 omega
theorem Good.len {g:aj} (d:g.c5) {p:List Int} (hp:p.length<=60) {S:Nat->List Item} (h:Good g p S) (a:Nat):(S a).length<=17080:=by
 by_cases f:p.length<a
 .rw[h.out a f];simp
 .have c:∀x∈S a,x.aB<40/\x.dot<7/\x.en<61:=λx b=>by
   have:=(h.sound a x b).small d
   omega
  have:=sB 17080 ((S a).map λx=>x.aB*427+x.dot*61+x.en) (I2 (h.nodup a) λx b y i e=>by
   have h1:=c x b
   have j:=c y i
   cases x;cases y
   simp only at e h1 j
   simp only[Item.mk.injEq]
   omega) (λv k=>by
   obtain⟨x,b,rfl⟩:=aa4.1 k
   have:=c x b
   omega)
  simpa using this
theorem Ch.box {H:View} {c:Nat} {g:aj} {p:List Int} {d:V} {S:Nat->List Item} {B n:Nat} {K:List (Nat × cr)} (h:Ch H c g p d S B n K):
  ∃a b,H c=.arr 8 [[.aZ (g.ax.map dd),encS g.av,.aZ (g.rules.map aO),gi g.start,encI p,d,.sl a 0 n 1,.sl b 0 n 1]]:=by
 obtain⟨a,b,e,f,mm,cl,h⟩:=h
 exact⟨a,b,h.box⟩
theorem Ch.set {H:View} {c:Nat} {g:aj} {p:List Int} {f:V} {S:Nat->List Item} {B n:Nat} {K:List (Nat × cr)} (h:Ch H c g p f S B n K) {a:Nat} (i:a<n):
  ∃(b d:Nat) (e:Nat->V),H c=.arr 8 [[.aZ (g.ax.map dd),encS g.av,.aZ (g.rules.map aO),gi g.start,encI p,f,.sl b 0 n 1,.sl d 0 n 1]]/\H b=.arr 1 ((List.range n).map λj=>[e j])/\aQ H (e a) 3 ((S a).map fX):=by
 obtain⟨b,d,e,k,mm,cl,h⟩:=h
 exact⟨b,d,e,h.box,h.jr,h.set a i⟩
def mz:SC:=
 ai [ag [aS 15 .lss 14 13],bQ 15 (.exit 0),.block 1 (ai [ag [af 16 14,aK 17 3 12 14,aU 18 3 17,((some 7),.op (.alloc [(.val (.int .i64 0)),(.emp 1),(.val (.int .i64 0))])),af 6 16,cz 3 7 18],ag [aw 19 0 7,au 20 19,af 21 2,aS 22 .eql 20 21],aX 22 (ag [af 23 0,af 24 1,af 25 6,af 26 1,((some 27),.op (.build [(.val (.int .i64 0)),(.val (.int .i64 0)),(.val (.int .i64 0))] [(0,1,(.tmp 25)),(1,1,(.val (.val (.int .i64 0)))),(2,1,(.tmp 26))])),aV 28 176 [23,24,27]])]),ag [aH 29 .add 14 1,af 14 29]]
def oA:SF:=⟨ai [ag [af 8 0,fO 9 8,aw 10 0 9,aw 11 2 10,au 12 11,aM 13 12,aT 14 0],bS 0 mz],
 [],30⟩
theorem uo:aJ aa 110 []=some oA:=by kernel_rfl
def lU:SC:=
 ai [ai [ag [af 11 8,af 12 0,fO 13 12,aw 14 6 13,au 15 14,af 16 3,aK 17 1 15 16,au 18 17,aM 19 18,aS 20 .lss 11 19],bQ 20 (.exit 0)],.block 1 (ai [ag [af 23 0,fO 24 23,aw 25 6 24,au 26 25,af 27 3,aK 28 1 26 27,au 29 28,af 30 8,aK 31 3 29 30,aU 32 3 31,((some 9),.op (.alloc [(.val (.int .i64 0)),(.val (.int .i64 0)),(.val (.int .i64 0))])),cz 3 9 32],ag [af 33 0,fO 34 33,aw 35 0 34,aw 36 2 35,au 37 36,aw 38 0 9,au 39 38,aK 40 3 37 39,aw 41 1 40,au 42 41,af 10 42],.region false [⟨none,[aw 43 1 9,au 44 43,af 45 10,aM 46 45,aS 47 .lss 44 46,af 48 47]⟩,⟨(some (48,true)),[af 49 10,aw 50 1 9,au 51 50,aK 52 1 49 51,au 53 52,af 54 2,((some 55),.op (.arith .sub (.val (.val (.int .i64 (-1)))) (.tmp 54))),aS 56 .eql 53 55]⟩,⟨none,[dQ 57 48 56]⟩],aX 57 (ag [af 58 0,af 59 1,aw 60 0 9,au 61 60,aw 62 1 9,au 63 62,aH 64 .add 63 1,aw 65 2 9,au 66 65,((some 67),.op (.build [(.val (.int .i64 0)),(.val (.int .i64 0)),(.val (.int .i64 0))] [(0,1,(.tmp 61)),(1,1,(.tmp 64)),(2,1,(.tmp 66))])),aV 68 176 [58,59,67]])]),ag [af 21 8,aH 22 .add 21 1,af 8 22]]
def nD:SF:=⟨ai [ag [aT 8 0],bS 0 lU],
 [],69⟩
theorem tX:aJ aa 177 []=some nD:=by kernel_rfl
def rJ:SF:=⟨ai [ag [cg 5 2],ag [af 9 0,fO 10 9,aw 11 0 10,aw 12 2 11,au 13 12,aw 14 0 5,au 15 14,aK 16 3 13 15,aU 17 3 16,((some 6),.op (.alloc [(.val (.int .i64 0)),(.emp 1),(.val (.int .i64 0))])),cz 3 6 17],ai [ag [aw 18 1 5,au 19 18,aw 20 1 6,au 21 20,aM 22 21,aS 23 .eql 19 22],aX 23 (ai [ag [af 24 0,af 25 1,aw 26 0 6,au 27 26,aw 28 2 5,au 29 28,aV 30 177 [24,25,27,29]],.ret])],ag [aw 31 0 5,au 32 31,aw 33 1 5,au 34 33,aH 35 .add 34 1,aw 36 2 5,au 37 36,((some 38),.op (.build [(.val (.int .i64 0)),(.val (.int .i64 0)),(.val (.int .i64 0))] [(0,1,(.tmp 32)),(1,1,(.tmp 35)),(2,1,(.tmp 37))])),((some 7),.op (.alloc [(.val (.int .i64 0)),(.val (.int .i64 0)),(.val (.int .i64 0))])),cz 3 7 38],ag [aw 39 1 6,au 40 39,aw 41 1 5,au 42 41,aK 43 1 40 42,au 44 43,af 8 44],.block 0 (ai [ag [af 46 8,aH 47 .geq 46 0,af 45 47],.cond (.tmp 45) (ai [ai [.region false [⟨none,[af 48 1,af 49 0,fO 50 49,aw 51 4 50,au 52 51,aM 53 52,aS 54 .lss 48 53,af 55 54]⟩,⟨(some (55,true)),[af 56 0,fO 57 56,aw 58 4 57,au 59 58,af 60 1,aK 61 1 59 60,au 62 61,af 63 8,aS 64 .eql 62 63,af 65 64]⟩,⟨(some (65,false)),[af 66 0,fO 67 66,aw 68 4 67,au 69 68,af 70 1,aK 71 1 69 70,au 72 71,aH 73 .eql 72 (-1)]⟩,⟨(some (55,true)),[cG 74 65 73]⟩,⟨none,[dQ 75 55 74]⟩],aX 75 (ag [af 76 0,af 77 1,aH 78 .add 77 1,aU 79 3 7,aV 80 176 [76,78,79]])],.ret]) (ai [ag [af 82 0,fO 83 82,aw 84 5 83,au 85 84,af 86 8,((some 87),.op (.arith .sub (.val (.val (.int .i64 (-1)))) (.tmp 86))),aK 88 1 85 87,au 89 88,af 81 89],aX 81 (ag [af 90 0,af 91 1,aU 92 3 7,aV 93 176 [90,91,92]])])]),ag [af 94 0,af 95 1,af 96 8,((some 97),.op (.arith .sub (.val (.val (.int .i64 (-1)))) (.tmp 96))),aV 98 110 [94,95,97]]],
 [],99⟩
theorem xz:aJ aa 111 [5]=some rJ:=by kernel_rfl
theorem z6 (c:Nat) (g:aj) (E:g.c5) (p:List Int) (hp:p.length<=60) (z:V) (S:Nat->List Item) (B a:Nat) (K:List (Nat × cr)) (H:View) (t:Ch H c g p z S B (p.length+1) K) (m:Good g p S) (J:a<=p.length) (U:B+40<1000000000000)
  (eJ:Int) (L:OZ g p eJ a):az aa 110 [.ptr c 0 0,cM a,gi eJ] H λ_ H'=>∃h,Ch H' c g p z h (B+40) (p.length+1) K/\Good g p h/\Grow a S h/\∀i R,g.rules[i]?=some R->R.left=eJ->(⟨i,0,a⟩:Item)∈h a:=by
 have F:=E.rules
 refine az.of mixed uo ?_
 obtain⟨M,N,l⟩:=t.box
 simp(disch:=omega)only[↓wr,seval,wq,oA,l]
 refine aW.up g.rules.length (λi n H'=>(∃h,Ch H' c g p z h (B+i) (p.length+1) K/\Good g p h/\Grow a S h/\∀j R,j<i->g.rules[j]?=some R->R.left=eJ->(⟨j,0,a⟩:Item)∈h a)/\n 0=.ptr c 0 0/\n 1=cM a/\n 2=gi eJ/\n 12=.aZ (g.rules.map aO)/\n 13=cM g.rules.length/\n 14=cM i) ?_ ?_
 .exact⟨⟨S,t,m,.refl _ _,λj R G=>by omega⟩,rfl,rfl,rfl,rfl,rfl,rfl⟩
 clear l t m
 rintro i k n H' hk ⟨⟨w,t,m,q,d⟩,t0,t1,t2,t12,t13,t14⟩
 simp(disch:=omega)only[↓wr,seval,wq,mz,t13,t14]
 apply ao.dec<;>intro O
 .have f:g.rules[i]?=some (g.rules[i]'(by omega)):=aaH (by omega)
  have y:g.rules[i]'(by omega)∈g.rules:=aaP _
  generalize g.rules[i]'(by omega)=R at f y
  simp(disch:=omega)only[↓wr,seval,wq,t2,t12,t14,aO,encI,aaJ,f]
  intro b P
  rw[set_set]
  have s:=t.new P (o:=.arr 3 [[gi R.left,.aZ (R.right.map λx=>[gi x]),gi R.prec]]) (by simp)
  generalize View.set H' b _=W at s ⊢
  have T:=m.len E hp a
  apply ao.eq<;>intro e
  .simp(disch:=omega)only[↓wr,seval,wq,t0,t1]
   refine ay.cw ((Fu c g p z w (B+i) (p.length+1) a ⟨i,0,a⟩ _ _ s (by omega) (by omega) (by omega) (by omega) ⟨by simp;omega,by simp,by simp;omega⟩).mono ?_)
   intro r X A
   simp(disch:=omega)only[↓wr,seval,wq,t14]
   have C:Sound g p a ⟨i,0,a⟩:=⟨R,f,by simp,by simp,by simp;exact .nil _⟩
   refine aE hk (by omega) ⟨⟨_,A.drop,m.put C ⟨R,f,e▸L⟩ J,q.trans (rP w _ (aaQ _)),λj Q G u v=>?_⟩,t0,t1,t2,t12,t13,rfl⟩
   by_cases D:j=i
   .subst D;exact CP _ _ _
   .exact(rP w _ (aaQ a)).mem (d j Q (by omega) u v)
  .simp(disch:=omega)only[↓wr,seval,wq,t14]
   refine aE hk (by omega) ⟨⟨w,s.drop.more (by omega),m,q,λj Q G u v=>?_⟩,t0,t1,t2,t12,t13,rfl⟩
   by_cases D:j=i
   .subst D
    rw[f] at u;simp at u;subst u
    exact absurd v e
   .exact d j Q (by omega) u v
 .simp(disch:=omega)only[↓wr,seval,wq]
  exact⟨w,t.more (by omega),m,q,λi R I v=>d i R (by have:=(aaO.1 I).1;omega) I v⟩
def Qz (g:aj) (eJ:Int) (S:Nat->List Item) (at_:Nat) (x:Item):Prop:=∀R,g.rules[x.aB]?=some R->R.right[x.dot]?=some (-1-eJ)->(⟨x.aB,x.dot+1,x.en⟩:Item)∈S at_
theorem Sound.on {g:aj} {p:List Int} {f a:Nat} {x:Item} (h:Sound g p f x) {R:bc} (e:g.rules[x.aB]?=some R) {s:Int} (i:R.right[x.dot]?=some s) (c:Sp g p [s] f a):Sound g p a ⟨x.aB,x.dot+1,x.en⟩:=by
 obtain⟨l,b,h1,j,k⟩:=h
 rw[e] at b;simp at b;subst b
 have d:=(aaO.1 i).1
 refine⟨R,e,d,abz j c.le,?_⟩
 have:R.right.take (x.dot+1)=R.right.take x.dot++[s]:=by rw[aa2,i];rfl
 rw[this]
 exact k.app c
theorem Mv (c:Nat) (g:aj) (C:g.c5) (p:List Int) (hp:p.length<=60) (nu:V) (S:Nat->List Item) (B d fr:Nat) (K:List (Nat × cr)) (H:View) (J:Ch H c g p nu S B (p.length+1) K) (j:Good g p S) (ha:d<=p.length) (a8:fr<=d) (hB:B+17080<1000000000000)
  (eJ:Int) (hn:0<=eJ/\eJ<1000) (ae:Sp g p [-1-eJ] fr d):az aa 177 [.ptr c 0 0,cM d,gi eJ,cM fr] H λ_ H'=>∃l,Ch H' c g p nu l (B+17080) (p.length+1) K/\Good g p l/\Grow d S l/\∀x∈l fr,Qz g eJ l d x:=by
 have a6:=C.rules
 refine az.of mixed tX ?_
 simp(disch:=omega)only[↓wr,seval,wq,nD]
 refine aW.up 17080 (λi L H'=>(∃l,Ch H' c g p nu l (B+i) (p.length+1) K/\Good g p l/\Grow d S l/\i<=(l fr).length/\∀x∈(l fr).take i,Qz g eJ l d x)/\L 0=.ptr c 0 0/\L 1=cM d/\L 2=gi eJ/\L 3=cM fr/\L 8=cM i) ?_ ?_
 .exact⟨⟨S,J,j,.refl _ _,abY _,λx hx=>by simp at hx⟩,rfl,rfl,rfl,rfl,rfl⟩
 clear J j
 rintro i k L H' hk ⟨⟨f,J,j,w,bd,n⟩,t0,t1,t2,t3,t8⟩
 obtain⟨bl,bn,sv,q,u,ho⟩:=J.set (a:=fr) (by omega)
 have D:fr<p.length+1:=by omega
 simp(disch:=omega)only[↓wr,seval,wq,lU,t0,t3,t8,q,u,gE D,ho.len]
 refine⟨by omega,by simp;omega,?_⟩
 apply ao.dec<;>intro hc
 .obtain⟨m,al,hm⟩:=ho.sl (by simp;omega)
  have E:(f fr)[i]?=some ((f fr)[i]'(by omega)):=aaH (by omega)
  have F:(f fr)[i]'(by omega)∈f fr:=aaP _
  have O:(f fr).take (i+1)=(f fr).take i++[(f fr)[i]'(by omega)]:=by rw[aa2,E];rfl
  generalize (f fr)[i]'(by omega)=x at E F O
  have an:((f fr).map fX).getD i []=[cM x.aB,cM x.dot,cM x.en]:=by simp[E,fX]
  have G:=j.sound _ _ F
  have br:=G.small C
  have P:=G
  obtain⟨R,Q,bs,bx,a7⟩:=G
  simp(disch:=omega)only[↓wr,seval,wq,t0,t3,t8,q,u,gE D,al,hm,an]
  refine⟨D,by simp;omega,by omega,by omega,λb hb=>?_⟩
  have aq:c≠b:=by rintro rfl;rw[q] at hb;simp at hb
  simp only[aaI aq]
  rw[set_set]
  have v:=J.new hb (o:=.arr 3 [[.val (.int .i64 x.aB),.val (.int .i64 x.dot),.val (.int .i64 x.en)]]) (by simp)
  generalize View.set H' b _=H2 at v ⊢
  have z:=v.kept _ (abP ..)
  simp only at z
  have T:=aaV Q
  have b0:=C.right R T
  simp(disch:=omega)only[↓wr,seval,wq,z,aO,encI,aaJ,Q]
  have h:∀M,Grow d f M->(∀I,g.rules[x.aB]?=some I->I.right[x.dot]?=some (-1-eJ)->(⟨x.aB,x.dot+1,x.en⟩:Item)∈M d)->i+1<=(M fr).length/\∀y∈(M fr).take (i+1),Qz g eJ M d y:=by
   intro M U ar
   obtain⟨t,ht⟩:=(U fr).1
   refine⟨by rw[<-ht];simp;omega,?_⟩
   rw[<-ht,List.take_append_of_le_length (by omega),O]
   intro y N
   rcases aa0.1 N with N | N
   .exact λI h1 A=>U.mem (n y N I h1 A)
   .simp at N;subst N;exact ar
  have b1:=j.len C hp fr
  have b2:=j.len C hp d
  apply ao.dec<;>intro h1
  .have hs:R.right[x.dot]?=some (R.right[x.dot]'(by omega)):=aaH (by omega)
   generalize R.right[x.dot]'(by omega)=s at hs
   simp(disch:=omega)only[↓wr,seval,wq,t2,z,hs,aaJ]
   apply ao.eq<;>intro e
   .simp(disch:=omega)only[↓wr,seval,wq,t0,t1,z]
    have W:Sound g p d ⟨x.aB,x.dot+1,x.en⟩:=P.on Q hs (e▸ae)
    have X:=W.small C
    simp only at X
    refine ay.cw ((Fu c g p nu f (B+i) (p.length+1) d ⟨x.aB,x.dot+1,x.en⟩ _ _ v (by omega) (by omega) (by omega) (by omega) ⟨by simp;omega,by simp;omega,by simp;omega⟩).mono ?_)
    intro r H3 a1
    simp(disch:=omega)only[↓wr,seval,wq,t8]
    obtain⟨Y,k2⟩:=h _ (rP f _ (aaQ _)) (λI _ _=>CP _ _ _)
    exact aE hk (by omega) ⟨⟨_,a1.drop,j.put W (j.top _ x F) ha,w.trans (rP f _ (aaQ _)),Y,k2⟩,t0,t1,t2,t3,rfl⟩
   .simp(disch:=omega)only[↓wr,seval,wq,t8]
    obtain⟨Y,k2⟩:=h _ (.refl _ _) (λI A Z=>by
     rw[Q] at A;simp at A;subst A
     rw[hs] at Z;simp at Z
     exact absurd Z e)
    exact aE hk (by omega) ⟨⟨_,v.drop.more (by omega),j,w,Y,k2⟩,t0,t1,t2,t3,rfl⟩
  .simp(disch:=omega)only[↓wr,seval,wq,t8]
   obtain⟨Y,k2⟩:=h _ (.refl _ _) (λI A Z=>by
    rw[Q] at A;simp at A;subst A
    have:=(aaO.1 Z).1
    omega)
   exact aE hk (by omega) ⟨⟨_,v.drop.more (by omega),j,w,Y,k2⟩,t0,t1,t2,t3,rfl⟩
 .simp(disch:=omega)only[↓wr,seval,wq]
  have ab:i=(f fr).length:=by omega
  rw[ab,aca] at n
  exact⟨f,J.more (by have:=j.len C hp fr;omega),j,w,n⟩
structure y7 (g:aj) (p:List Int) (S:Nat->List Item) (a:Nat) (x:Item):Prop where
 term:∀R s,g.rules[x.aB]?=some R->R.right[x.dot]?=some s->0<=s->vJ p a s->(⟨x.aB,x.dot+1,x.en⟩:Item)∈S (a+1)
 pred:∀R s i R',g.rules[x.aB]?=some R->R.right[x.dot]?=some s->s<0->g.rules[i]?=some R'->R'.left = -1-s->(⟨i,0,a⟩:Item)∈S a
 null:∀R s,g.rules[x.aB]?=some R->R.right[x.dot]?=some s->s<0->(bj g false).getD (-1-s).toNat false=true->(⟨x.aB,x.dot+1,x.en⟩:Item)∈S a
 comp:∀R,g.rules[x.aB]?=some R->x.dot=R.right.length->x.en<a->∀y∈S x.en,Qz g R.left S a y
theorem y7.grow {g:aj} {p:List Int} {S k:Nat->List Item} {a:Nat} {x:Item} (h:y7 g p S a x) (e:Grow a S k):y7 g p k a x where
 term:=λR s h1 c b d=>e.mem (h.term R s h1 c b d)
 pred:=λR s i f h1 c b d j=>e.mem (h.pred R s i f h1 c b d j)
 null:=λR s h1 c b d=>e.mem (h.null R s h1 c b d)
 comp:=λR h1 c b y l f d j=>e.mem (h.comp R h1 c b y (by rw[(e x.en).2 b] at l;exact l) f d j)
theorem X0 (c:Nat) (g:aj) (hr:bt g=true) (p:List Int) (hp:p.length<=60) (S:Nat->List Item) (B a:Nat) (x:Item) (K:List (Nat × cr)) (H:View) (hC:Ch H c g p (bX (bj g false)) S B (p.length+1) K) (u:Good g p S) (ha:a<=p.length) (hB:B+17200<1000000000000)
  (Y:x∈S a):az aa 111 [.ptr c 0 0,cM a,.agg (fX x)] H λ_ H'=>∃D,Ch H' c g p (bX (bj g false)) D (B+17200) (p.length+1) K/\Good g p D/\Grow a S D/\y7 g p D a x:=by
 have w:=bF hr
 have L:=u.sound _ _ Y
 have bs:=L.small w
 have m:=L
 obtain⟨R,n,bx,an,G⟩:=L
 have q:=aaV n
 have b0:=w.right R q
 have b1:=w.left R q
 have b2:=w.av
 obtain⟨b4,b5,Z⟩:=hC.box
 refine az.of mixed xz ?_
 simp(disch:=omega)only[↓wr,seval,wq,rJ,fX,Z,aO,encI,aaJ,n]
 refine λb hb=>?_
 rw[set_set]
 have E:=hC.new hb (o:=.arr 3 [[gi R.left,.aZ (R.right.map λx=>[gi x]),gi R.prec]]) (by simp)
 generalize View.set H b _=H2 at E ⊢
 have y:=E.kept _ (abP ..)
 simp only at y
 apply ao.eq<;>intro e
 .have e2:x.dot=R.right.length:=by omega
  have aq:Sp g p [-1-R.left] x.en a:=by
   rw[e2,aca] at G
   exact .eJ _ _ R x.en a a (by omega) q (by omega) G (.nil _)
  simp(disch:=omega)only[↓wr,seval,wq,y]
  refine ay.cw ((Mv c g w p hp _ S B a x.en _ _ E u ha an (by omega) R.left (by omega) aq).mono ?_)
  rintro r H3 ⟨M,d,ar,a1,hw⟩
  simp(disch:=omega)only[↓wr,seval,wq]
  refine⟨M,d.drop.more (by omega),ar,a1,⟨λz s h1 j I A=>?_,λz s i Q h1 j=>?_,λz s h1 j=>?_,λz h1 j I=>?_⟩⟩
  .rw[n] at h1;simp at h1;subst h1
   have:=(aaO.1 j).1
   omega
  .rw[n] at h1;simp at h1;subst h1
   have:=(aaO.1 j).1
   omega
  .rw[n] at h1;simp at h1;subst h1
   have:=(aaO.1 j).1
   omega
  .rw[n] at h1;simp at h1;subst h1
   exact hw
 .have b7:x.dot<R.right.length:=by omega
  have C:R.right[x.dot]?=some (R.right[x.dot]'(by omega)):=aaH (by omega)
  generalize R.right[x.dot]'(by omega)=s at C
  simp(disch:=omega)only[↓wr,seval,wq,y]
  refine λb3 N=>?_
  rw[set_set]
  have d:=E.new N (o:=.arr 3 [[.val (.int .i64 x.aB),.val (.int .i64 (x.dot+1)),.val (.int .i64 x.en)]]) (by simp)
  have a6:b≠b3:=by rintro rfl;rw[y] at N;simp at N
  simp only[aaI a6]
  generalize View.set H2 b3 _=H3 at d ⊢
  have F:=d.kept _ (abP ..)
  simp only at F
  obtain⟨bl,bn,k⟩:=d.box
  have a7:=d.kept (b,_) (aa6 _ (abP ..))
  simp only at a7
  have ab:=λhn:s<0=>w.neg q (aaV C) hn
  have b8:=u.len w hp a
  simp(disch:=omega)only[↓wr,seval,wq,C,aaJ]
  have f:∀M:Nat->List Item,(0<=s->vJ p a s->(⟨x.aB,x.dot+1,x.en⟩:Item)∈M (a+1))->(s<0->∀i z,g.rules[i]?=some z->z.left = -1-s->(⟨i,0,a⟩:Item)∈M a) ->
    (s<0->(bj g false).getD (-1-s).toNat false=true->(⟨x.aB,x.dot+1,x.en⟩:Item)∈M a)->y7 g p M a x:=by
   intro M k1 k2 k3
   refine⟨λz s' h1 j I A=>?_,λz s' i Q h1 j I A O=>?_,λz s' h1 j I A=>?_,λz h1 j I=>?_⟩
   .rw[n] at h1;simp at h1;subst h1
    rw[C] at j;simp at j;subst j
    exact k1 I A
   .rw[n] at h1;simp at h1;subst h1
    rw[C] at j;simp at j;subst j
    exact k2 I i Q A O
   .rw[n] at h1;simp at h1;subst h1
    rw[C] at j;simp at j;subst j
    exact k3 I A
   .rw[n] at h1;simp at h1;subst h1
    omega
  have br:=u.len w hp (a+1)
  apply ao.dec<;>intro h0
  .have J:vJ p a s->a<p.length->az aa 176 [.ptr c 0 0,cM (a+1),.agg (fX ⟨x.aB,x.dot+1,x.en⟩)] H3 λ_ H'=>∃D,Ch H' c g p (bX (bj g false)) D (B+17200) (p.length+1) K/\Good g p D/\Grow a S D/\y7 g p D a x:=by
    intro l b9
    have P:Sound g p (a+1) ⟨x.aB,x.dot+1,x.en⟩:=m.on n C (.term s [] a (a+1) h0 l (.nil _))
    refine(Fu c g p _ S B (p.length+1) (a+1) ⟨x.aB,x.dot+1,x.en⟩ _ _ d (by omega) (by omega) (by omega) (by omega) ⟨by simp;omega,by simp;omega,by simp;omega⟩).mono λr H4 T=>?_
    exact⟨_,T.drop.drop.more (by omega),u.put P (u.top _ x Y) (by omega),rP S _ (by omega),f _ (λ_ _=>CP _ _ _) (λh=>by omega) (λh=>by omega)⟩
   simp(disch:=omega)only[↓wr,seval,wq,k,encI]
   apply ao.dec<;>intro h1
   .have v:p[a]?=some (p[a]'(by omega)):=aaH (by omega)
    generalize p[a]'(by omega)=pc at v
    simp(disch:=omega)only[↓wr,seval,wq,k,encI,v,aaJ]
    apply ao.eq<;>intro e1
    .simp(disch:=omega)only[↓wr,seval,wq,F]
     refine ay.cw ((J ⟨pc,v,.inl e1⟩ (by omega)).mono λr H4 A=>?_)
     simp(disch:=omega)only[↓wr,seval,wq]
     exact A
    .simp(disch:=omega)only[↓wr,seval,wq,k,encI,v,aaJ]
     apply ao.eq<;>intro e2
     .simp(disch:=omega)only[↓wr,seval,wq,F]
      refine ay.cw ((J ⟨pc,v,.inr e2⟩ (by omega)).mono λr H4 A=>?_)
      simp(disch:=omega)only[↓wr,seval,wq]
      exact A
     .simp(disch:=omega)only[↓wr,seval,wq]
      refine⟨S,d.drop.drop.more (by omega),u,.refl _ _,f _ (λ_ l=>?_) (λh=>by omega) (λh=>by omega)⟩
      obtain⟨a8,O,h6⟩:=l
      rw[v] at O;simp at O;subst O
      omega
   .simp(disch:=omega)only[↓wr,seval,wq]
    refine⟨S,d.drop.drop.more (by omega),u,.refl _ _,f _ (λ_ l=>?_) (λh=>by omega) (λh=>by omega)⟩
    obtain⟨a8,O,h6⟩:=l
    have:=(aaO.1 O).1
    omega
  .have hlen:=jj hr false
   have ca:=ab (by omega)
   have ae:(bj g false)[(-1-s).toNat]?=some ((bj g false).getD (-1-s).toNat false):=by
    simp[show (-1-s).toNat<(bj g false).length by omega]
   generalize al:(bj g false).getD (-1-s).toNat false=nb at ae
   simp(disch:=omega)only[↓wr,seval,wq,k,bX,ae,aaJ]
   apply ao.split<;>intro U
   .have P:Sound g p a ⟨x.aB,x.dot+1,x.en⟩:=m.on n C (by
     obtain⟨Q,hQ,cb,bd⟩:=Pc hr _ (al.trans U)
     have:=(w.left Q hQ).1
     exact .eJ s [] Q a a a (by omega) hQ (by omega) (bd p a) (.nil _))
    simp(disch:=omega)only[↓wr,seval,wq,F]
    refine ay.cw ((Fu c g p _ S B (p.length+1) a ⟨x.aB,x.dot+1,x.en⟩ _ _ d (by omega) (by omega) (by omega) (by omega) ⟨by simp;omega,by simp;omega,by simp;omega⟩).mono λr H4 T=>?_)
    simp(disch:=omega)only[↓wr,seval,wq]
    refine ay.cw ((z6 c g w p hp _ _ _ a _ _ T (u.put P (u.top _ x Y) ha) ha (by omega) (-1-s) ((u.top _ x Y).ask m n C)).mono ?_)
    rintro r2 H5 ⟨S2,V,W,t,X⟩
    simp(disch:=omega)only[↓wr,seval,wq]
    exact⟨S2,V.drop.drop.more (by omega),W,(rP S _ (aaQ _)).trans t,f _ (λh=>by omega) (λ_=>X) (λ_ _=>t.mem (CP _ _ _))⟩
   .simp(disch:=omega)only[↓wr,seval,wq]
    refine ay.cw ((z6 c g w p hp _ _ _ a _ _ d u ha (by omega) (-1-s) ((u.top _ x Y).ask m n C)).mono ?_)
    rintro r2 H5 ⟨S2,V,W,t,X⟩
    simp(disch:=omega)only[↓wr,seval,wq]
    exact⟨S2,V.drop.drop.more (by omega),W,t,f _ (λh=>by omega) (λ_=>X) (λ_ h=>by rw[al,U] at h;simp at h)⟩
structure xX (H:View) (c sid:Nat) (u:V) (mi:Nat->Nat) (g:aj) (p:List Int) (nu:V) (n k:Nat):Prop where
 box:H c=.arr 8 [[.aZ (g.ax.map dd),encS g.av,.aZ (g.rules.map aO),gi g.start,encI p,nu,.sl sid 0 n 1,u]]
 jr:H sid=.arr 1 ((List.range n).map λ_=>[.emp 1])
 seen:aQ H u 1 ((List.range k).map λj=>[.mp (mi j)])
 map:∀j,j<k->H (mi j)=.map [] 0
 inj:∀i j,i<k->j<k->mi i=mi j->i=j
theorem xX.YE {H:View} {c a:Nat} {u:V} {d:Nat->Nat} {g:aj} {p:List Int} {f:V} {n k:Nat} (h:xX H c a u d g p f n k) (i:0<n):owner u≠some a:=λe=>by
 have h1:=(h.seen.live e).1
 rw[h.jr] at h1
 simp only[cr.arr.injEq,true_and] at h1
 have b:=abQ (·[0]?) h1
 simp[i] at b
 by_cases hk:0<k
 .simp[hk] at b
 .have:k=0:=by omega
  subst this
  simp at b
theorem xX.X4 {H:View} {c a:Nat} {u:V} {b:Nat->Nat} {g:aj} {p:List Int} {d:V} {n k:Nat} (h:xX H c a u b g p d n k):owner u≠some c:=λe=>by
 have h1:=(h.seen.live e).1
 rw[h.box] at h1
 simp at h1
theorem xX.Y7 {H:View} {c b:Nat} {u:V} {l:Nat->Nat} {g:aj} {p:List Int} {m:V} {n:Nat} (h:xX H c b u l g p m n n) (r:0<n):Ch H c g p m (λ_=>[]) 0 n []:=by
 obtain⟨f,hu,hm⟩:=h.seen.sl (by simp;omega)
 have a:=h.YE r
 refine⟨b,f,λ_=>.emp 1,l,λ_=>[],λ_=>0,?_,h.jr,hm,λj d=>aQ.nil,λj d=>⟨h.map j d,?_,λx=>⟨λk=>by simp at k,λ_=>rfl⟩⟩,?_,λi j o _ _ h1=>by simp[owner] at h1,λi j hi d e=>h.inj i j hi d e,λq s=>by simp at s⟩
 .have:=h.box
  rw[hu] at this
  simpa using this
 .exact⟨by simp,λx k=>by simp at k⟩
 .rintro rfl
  rw[hu] at a
  exact a rfl
theorem xX.next {H o:View} {c a m:Nat} {u u':V} {b:Nat->Nat} {g:aj} {p:List Int} {q:V} {n k:Nat} (h:xX H c a u b g p q n k) (w:0<n) (hm:H m=.dead) (x:aQ o u' 1 (((List.range k).map λj=>[.mp (b j)])++[[.mp m]])) (r:o m=.map [] 0)
  (s:∀id,H id≠.dead->owner u≠some id->o id=H id/\owner u'≠some id):
  xX (o.set c (.arr 8 [[.aZ (g.ax.map dd),encS g.av,.aZ (g.rules.map aO),gi g.start,encI p,q,.sl a 0 n 1,u']])) c a u' (λj=>if j=k then m else b j) g p q n (k+1):=by
 have y:=s c (by rw[h.box];simp) h.X4
 have z:=s a (by rw[h.jr];simp) (h.YE w)
 have t:a≠c:=by rintro rfl;have:=h.box;rw[h.jr] at this;simp at this
 have f:∀j,j<k->b j≠m:=λj l e=>by have:=h.map j l;rw[e,hm] at this;simp at this
 refine⟨by simp[View.set],?_,?_,λj l=>?_,λi j hi l e=>?_⟩
 .simp only[View.set,aaI t]
  rw[z.1];exact h.jr
 .refine aQ.other ?_ y.2
  have:(List.range (k+1)).map (λj=>[V.mp (if j=k then m else b j)])=(List.range k).map (λj=>[V.mp (b j)])++[[.mp m]]:=by
   rw[ab9,aa8,aba,acg,aaL rfl]
   congr 1
   apply abK
   intro j l
   rw[aaI (by have:=abH.1 l;omega)]
  rw[this];exact x
 .by_cases e:j=k
  .simp only[aaL e]
   have:m≠c:=by rintro rfl;rw[h.box] at hm;simp at hm
   simp only[View.set,aaI this]
   exact r
  .simp only[aaI e]
   have h1:=h.map j (by omega)
   have:b j≠c:=by intro d;rw[d,h.box] at h1;simp at h1
   simp only[View.set,aaI this]
   rw[(s (b j) (by rw[h1];simp) (λd=>by have:=(h.seen.live d).1;rw[h1] at this;simp at this)).1]
   exact h1
 .by_cases v:i=k
  .by_cases d:j=k
   .omega
   .simp only[aaL v,aaI d] at e
    exact absurd e.symm (f j (by omega))
  .by_cases d:j=k
   .simp only[aaI v,aaL d] at e
    exact absurd e (f i (by omega))
   .simp only[aaI v,aaI d] at e
    exact h.inj i j (by omega) (by omega) e
def xc:SC:=
 ai [ag [aS 22 .lss 21 20],bQ 22 (.exit 0),.block 1 (ag [af 23 6,af 24 6,fO 25 24,aw 26 7 25,au 27 26,((some 28),.op (.qW)),((some 29),.op (.bO 1 1 [(.val (.map none))] [(0,(.tmp 28))])),fP 30 1 8 27 29,fO 31 23,aw 32 7 31,cz 1 32 30]),ag [aH 33 .add 21 1,af 21 33]]
def xe:SC:=
 ai [ai [ag [af 42 8,af 43 6,fO 44 43,aw 45 6 44,au 46 45,af 47 7,aK 48 1 46 47,au 49 48,aM 50 49,aS 51 .lss 42 50],bQ 51 (.exit 4)],.block 5 (ag [af 54 6,af 55 7,af 56 6,fO 57 56,aw 58 6 57,au 59 58,af 60 7,aK 61 1 59 60,au 62 61,af 63 8,aK 64 3 62 63,aU 65 3 64,aV 66 111 [54,55,65]]),ag [af 52 8,aH 53 .add 52 1,af 8 53]]
def xj:SC:=
 ai [ag [aS 40 .lss 39 38],bQ 40 (.exit 2),.block 3 (ai [ag [af 41 39,af 7 41],ag [aT 8 0],bS 4 xe]),ag [aH 67 .add 39 1,af 39 67]]
def AL:SF:=⟨ai [ag [cg 2 0,((some 4),.op (.eR (.val (.val (.pointer none)))))],ag [af 9 1,aM 10 9,aH 11 .add 10 1,af 5 11],.region true [⟨none,[aU 12 4 2,af 13 1,aU 14 4 2,aV 15 109 [14],af 16 5,((some 17),.op (.make 1 24 [(.emp 1)] (.tmp 16) (.tmp 16))),((some 18),.op (.build [(.emp 1),(.emp 1),(.emp 1),(.val (.int .i64 0)),(.emp 1),(.emp 1),(.emp 1),(.emp 1)] [(0,4,(.tmp 12)),(4,1,(.tmp 13)),(5,1,(.tmp 15)),(6,1,(.tmp 17))])),((some 19),.op (.box (.tmp 18))),af 6 19]⟩],ai [ag [af 20 5,aT 21 0],bS 0 xc],ag [af 34 6,aw 35 3 2,au 36 35,qh 37 110 [(.tmp 34),(.val (.val (.int .i64 0))),(.tmp 36)]],ai [ag [af 38 5,aT 39 0],bS 2 xj],ag [af 68 6,af 4 68],.ret],
 [.tmp 4],69⟩
theorem Eo:aJ aa 53 [2]=some AL:=by kernel_rfl
theorem XS (g:aj) (hg:g.Ok) (hr:bt g=true) (an:g.Small) (p:List Int) (hp:p.length<=60) (H:View):az aa 53 [.agg (ak g),encI p] H λr H'=>∃c S B,r=.ptr c 0 0/\Ch H' c g p (bX (bj g false)) S B (p.length+1) []/\Good g p S/\FL g p S:=by
 have hf:=bF hr
 refine az.of mixed Eo ?_
 simp(disch:=omega)only[↓wr,seval,wq,AL,ak,encI]
 have T:=(Lo g hg an).pure
 simp only[ak] at T
 refine⟨rfl,ay.pure T ?_⟩
 have hM:((p.length:Int)+1).toNat=p.length+1:=by omega
 have aq:aL (encS g.av)=true:=rfl
 simp(disch:=omega)only[↓wr,seval,wq,hM,bX,aq]
 refine⟨⟨aaQ _,by unfold aF;omega,by unfold aF;omega⟩,λU W=>?_⟩
 intro c hc
 obtain⟨J,ar⟩:=cn hc (by simp)
 refine aW.up (p.length+1) (λk f H'=>(∃u mi,xX H' c U u mi g p (bX (bj g false)) (p.length+1) k)/\f 2=.aP (ak g) 0/\f 5=gi (p.length+1)/\f 6=.ptr c 0 0/\f 20=gi (p.length+1)/\f 21=gi k) ?_ ?_
 .refine⟨⟨.emp 1,λ_=>0,⟨by simp[View.set,bX,encI],?_,aQ.nil,λj hj=>by omega,λi j hi=>by omega⟩⟩,rfl,rfl,rfl,rfl,rfl⟩
  simp[View.set,Ne.symm J]
  apply abB (by simp)
  intro n h1 v
  cases n<;>simp
 clear hc ar W
 rintro k m f H' hk ⟨⟨u,mi,D⟩,t2,t5,t6,t20,t21⟩
 simp(disch:=omega)only[↓wr,seval,wq,xc,t20,t21]
 apply ao.dec<;>intro K
 .simp(disch:=omega)only[↓wr,seval,wq,t6,D.box]
  intro m1 E b1 F
  obtain⟨L,F⟩:=cn F (by simp)
  rw[bE]
  have ho:=(D.seen.fresh (o:=.map [] 0) E).fresh (o:=.arr 1 [[.mp m1]]) (m:=b1) (by simp[View.set,L,F])
  simp(disch:=omega)only[↓wr,seval,wq]
  refine kY ho (by simp) (by simp[aL]) (by simp[aF];omega) (by simp[aF];omega) λu' H3 M X=>?_
  have Y:∀id,H' id≠.dead->owner u≠some id->H3 id=H' id/\owner u'≠some id:=λid h1 v=>by
   have n1:id≠m1:=by rintro rfl;exact h1 E
   have n2:id≠b1:=by rintro rfl;exact h1 F
   have:=X id (by simp[View.set,n1,n2,h1]) v
   rw[this.1]
   exact⟨by simp[View.set,n1,n2],this.2⟩
  have Z:=(Y c (by rw[D.box];simp) D.X4).1
  rw[D.box] at Z
  have a1:H3 m1=.map [] 0:=by
   have n3:owner u≠some m1:=D.seen.ne E
   rw[(X m1 (by simp[View.set,Ne.symm L]) n3).1]
   simp[View.set,Ne.symm L]
  simp(disch:=omega)only[↓wr,seval,wq,Z,M.cells,M.dU,t21]
  exact aE hk (by omega) ⟨⟨u',_,D.next (by omega) E M a1 Y⟩,t2,t5,t6,t20,rfl⟩
 .have a6:k=p.length+1:=by omega
  subst a6
  have w:=D.Y7 (by omega)
  clear D t20 t21
  simp(disch:=omega)only[↓wr,seval,wq,t2,t6,ak]
  have a7:Good g p (λ_=>[]):=⟨λ_=>by simp,λa x d=>by simp at d,λa x d=>by simp at d,λ_ _=>rfl⟩
  refine ay.cw ((z6 c g hf p hp _ _ _ 0 _ _ w a7 (by omega) (by omega) g.start .start).mono ?_)
  rintro r0 H2 ⟨S0,w,z,a8,q⟩
  simp(disch:=omega)only[↓wr,seval,wq,t5]
  refine aW.up (p.length+1) (λa f H'=>(∃S,Ch H' c g p (bX (bj g false)) S (40+a*293776000) (p.length+1) []/\Good g p S/\(∀i R,g.rules[i]?=some R->R.left=g.start->(⟨i,0,0⟩:Item)∈S 0)/\∀b,b<a->∀x∈S b,y7 g p S b x)/\f 5=gi (p.length+1)/\f 6=.ptr c 0 0/\f 38=gi (p.length+1)/\f 39=gi a) ?_ ?_
  .exact⟨⟨S0,w.more (by omega),z,q,λb hb=>by omega⟩,t5,t6,rfl,rfl⟩
  clear w z a8 q t2 t5 t6
  rintro a m f H hk ⟨⟨S,w,z,q,h⟩,t5,t6,t38,t39⟩
  simp(disch:=omega)only[↓wr,seval,wq,xj,t38,t39]
  apply ao.dec<;>intro K
  .simp(disch:=omega)only[↓wr,seval,wq,t39]
   refine aW.up 17080 (λi f H'=>(∃S,Ch H' c g p (bX (bj g false)) S (40+a*293776000+i*17200) (p.length+1) []/\Good g p S/\(∀i R,g.rules[i]?=some R->R.left=g.start->(⟨i,0,0⟩:Item)∈S 0)/\(∀b,b<a->∀x∈S b,y7 g p S b x)/\i<=(S a).length/\∀x∈(S a).take i,y7 g p S a x)/\f 5=gi (p.length+1)/\f 6=.ptr c 0 0/\f 7=gi a/\f 8=gi i/\f 38=gi (p.length+1)/\f 39=gi a) ?_ ?_
   .exact⟨⟨S,w.more (by omega),z,q,h,abY _,λx d=>by simp at d⟩,t5,t6,rfl,rfl,t38,t39⟩
   clear w z q h t5 t6 t38 t39
   rintro i k f H hi ⟨⟨S,w,z,q,h,b0,N⟩,t5,t6,t7,t8,t38,t39⟩
   have A:a<p.length+1:=by omega
   obtain⟨U,b2,sv,G,C,ho⟩:=w.set (a:=a) A
   simp(disch:=omega)only[↓wr,seval,wq,xe,t6,t7,t8,G,C,gE A,ho.len]
   refine⟨A,by simp;omega,?_⟩
   have b3:=z.len hf hp a
   apply ao.dec<;>intro hc
   .obtain⟨m,bd,hm⟩:=ho.sl (by simp;omega)
    have O:(S a)[i]?=some ((S a)[i]'(by omega)):=aaH (by omega)
    have ab:(S a)[i]'(by omega)∈S a:=aaP _
    have ae:(S a).take (i+1)=(S a).take i++[(S a)[i]'(by omega)]:=by rw[aa2,O];rfl
    generalize (S a)[i]'(by omega)=x at O ab ae
    have bl:((S a).map fX).getD i []=[cM x.aB,cM x.dot,cM x.en]:=by simp[O,fX]
    simp(disch:=omega)only[↓wr,seval,wq,t6,t7,t8,G,C,gE A,bd,hm,bl]
    refine⟨A,by simp;omega,by omega,by omega,?_⟩
    refine ay.cw ((X0 c g hr p hp S _ a x _ _ w z (by omega) (by omega) ab).mono ?_)
    rintro r1 H4 ⟨S',bn,br,l,bs⟩
    simp(disch:=omega)only[↓wr,seval,wq,t8]
    refine aE hi (by omega) ⟨⟨S',bn.more (by omega),br,λj R h1 v=>l.mem (q j R h1 v),λb hb x d=>(h b hb x (by rw[(l b).2 hb] at d;exact d)).grow (l.low (by omega)),?_,?_⟩,t5,t6,t7,rfl,t38,t39⟩
    .have:=(l a).1.length_le
     omega
    .obtain⟨t,ht⟩:=(l a).1
     rw[<-ht,List.take_append_of_le_length (by omega),ae]
     intro y I
     rcases aa0.1 I with I | I
     .exact(N y I).grow l
     .simp at I;subst I;exact bs
   .simp(disch:=omega)only[↓wr,seval,wq,t6,t39]
    have al:i=(S a).length:=by omega
    rw[al,aca] at N
    refine aE hk (by omega) ⟨⟨S,w.more (by omega),z,q,λb hb x d=>?_⟩,t5,t6,t38,rfl⟩
    by_cases e:b=a
    .subst e;exact N x d
    .exact h b (by omega) x d
  .simp(disch:=omega)only[↓wr,seval,wq,t6]
   have bx:∀b x,x∈S b->b<=p.length:=λb x d=>by
    apply ack
    intro hn
    rw[z.out b (by omega)] at d
    simp at d
   have hd:=λb x (d:x∈S b)=>h b (by have:=bx b x d;omega) x d
   refine⟨c,S,_,rfl,w,z,⟨q,λa x R s d h1 v P Q=>(hd a x d).term R s h1 v P Q,λa x R s i R' d h1 v P Q h5 _=>(hd a x d).pred R s i R' h1 v P Q h5,λa x R s d h1 v P Q _=>(hd a x d).null R s h1 v P Q,λa y R' x R s I h1 v P d Q h5 h6 h7 _=>?_⟩⟩
   refine(hd a y I).comp R' h1 v P x d R Q ?_
   rw[h5,h7]
   congr 1
   omega
def nY (g:aj) (x:Item):Bool:=match g.rules[x.aB]? with
 | some R=>decide (R.left=g.start)&&decide (x.en=0)&&decide (x.dot=R.right.length)
 | none=>false
def Kept (H H':View):Prop:=∀id,H id≠.dead->H' id=H id
theorem Kept.refl (H:View):Kept H H:=λ_ _=>rfl
theorem Kept.trans {H H' b:View} (h:Kept H H') (c:Kept H' b):Kept H b:=λid a=>by
 have h1:=h id a
 rw[<-h1] at a
 rw[c id a,h1]
theorem Kept.new {H:View} {b:Nat} {o:cr} (c:H b=.dead):Kept H (H.set b o):=λid a=>by
 have:id≠b:=by rintro rfl;exact a c
 simp[View.set,this]
def Hz (H:View) (c:Nat) (g:aj) (p:List Int):Prop:=∃nu sid mid n,H c=.arr 8 [[.aZ (g.ax.map dd),encS g.av,.aZ (g.rules.map aO),gi g.start,encI p,nu,.sl sid 0 n 1,.sl mid 0 n 1]]
theorem Hz.keep {H H':View} {c:Nat} {g:aj} {p:List Int} (h:Hz H c g p) (d:Kept H H'):Hz H' c g p:=by
 obtain⟨e,a,b,n,h⟩:=h
 exact⟨e,a,b,n,by rw[d c (by rw[h];simp)];exact h⟩
def nS:SF:=⟨ai [ag [cg 2 0,bh 3 false],ag [au 5 1,fO 6 5,aw 7 0 6,aw 8 2 7,au 9 8,aw 10 0 2,au 11 10,aK 12 3 9 11,aU 13 3 12,((some 4),.op (.alloc [(.val (.int .i64 0)),(.emp 1),(.val (.int .i64 0))])),cz 3 4 13],.region false [⟨none,[aw 14 0 4,au 15 14,au 16 1,fO 17 16,aw 18 0 17,aw 19 3 18,au 20 19,aS 21 .eql 15 20,af 22 21]⟩,⟨(some (22,true)),[aw 23 2 2,au 24 23,aH 25 .eql 24 0]⟩,⟨none,[dQ 26 22 25,af 27 26]⟩,⟨(some (27,true)),[aw 28 1 2,au 29 28,aw 30 1 4,au 31 30,aM 32 31,aS 33 .eql 29 32]⟩,⟨none,[dQ 34 27 33,af 3 34]⟩],.ret],
 [.tmp 3],35⟩
theorem um:aJ aa 113 [2]=some nS:=by kernel_rfl
def fK:SC:=
 ai [ag [aS 9 .lss 8 7],bQ 9 (.exit 0),.block 1 (ai [ag [af 10 8,af 5 10],ag [af 11 1,af 12 0,af 13 5,aK 14 3 12 13,aU 15 3 14,((some 16),.call (.tmp 11) [(.tmp 15)])],aX 16 (ai [ag [af 17 5,af 4 17],.ret])]),ag [aH 18 .add 8 1,af 8 18]]
def fS:SF:=⟨ai [ag [aT 4 0],ai [ag [af 6 0,aM 7 6,aT 8 0],bS 0 fK],ag [aT 4 (-1)],.ret],
 [.tmp 4],19⟩
theorem jy:aJ aa 178 []=some fS:=by kernel_rfl
def fF:SF:=⟨ai [ag [bh 4 false],ag [af 5 0,af 6 1,aV 7 178 [5,6],aH 8 .geq 7 0,af 4 8],.ret],
 [.tmp 4],9⟩
theorem iU:aJ aa 112 []=some fF:=by kernel_rfl
def ql:SF:=⟨ai [ag [cg 1 0,bh 2 false],ag [au 3 1,fO 4 3,aw 5 6 4,au 6 5,au 7 1,fO 8 7,aw 9 4 8,au 10 9,aM 11 10,aK 12 1 6 11,au 13 12,((some 14),.op (.tQ 113 [] [(.tmp 1)])),aV 15 112 [13,14],af 2 15],.ret],
 [.tmp 2],16⟩
theorem vW:aJ aa 54 [1]=some ql:=by kernel_rfl
theorem Um (c:Nat) (g:aj) (p:List Int) (x:Item) (H:View) (d:Hz H c g p) (f:x.aB<g.rules.length):az aa 113 [.agg (fX x),.aP [.ptr c 0 0] 0] H λr H'=>r=gb (nY g x)/\Kept H H':=by
 obtain⟨m,j,k,n,a⟩:=d
 have h:g.rules[x.aB]?=some (g.rules[x.aB]'f):=aaH f
 generalize g.rules[x.aB]'f=R at h
 have hw:nY g x=(decide (R.left=g.start)&&decide (x.en=0)&&decide (x.dot=R.right.length)):=by unfold nY;rw[h]
 refine az.of mixed um ?_
 simp(disch:=omega)only[↓wr,seval,wq,nS,fX,a,aO,encI,aaJ,h]
 intro b d
 have i:c≠b:=by rintro rfl;rw[a] at d;simp at d
 simp only[aaI i]
 simp(disch:=omega)only[↓wr,seval,wq]
 apply ao.eq<;>intro e
 .simp(disch:=omega)only[↓wr,seval,wq]
  apply ao.eq<;>intro l
  .simp(disch:=omega)only[↓wr,seval,wq]
   refine⟨?_,?_⟩
   .rw[hw,abj e,abj (show x.en=0 by omega),gb]
    congr 2
    rw[aby]
    simp
    omega
   .rw[set_set];exact Kept.new d
  .simp(disch:=omega)only[↓wr,seval,wq]
   refine⟨?_,?_⟩
   .rw[hw,abj e,decide_eq_false (show ¬ x.en=0 by omega)];rfl
   .rw[set_set];exact Kept.new d
 .simp(disch:=omega)only[↓wr,seval,wq]
  refine⟨?_,?_⟩
  .rw[hw,decide_eq_false e];rfl
  .rw[set_set];exact Kept.new d
theorem Ry (c:Nat) (g:aj) (p:List Int) (u:V) (l:List Item) (H:View) (A:Hz H c g p) (q:aQ H u 3 (l.map fX)) (B:∀x∈l,x.aB<g.rules.length) (C:l.length<1000000):
  az aa 178 [u,.fn 113 [] [.aP [.ptr c 0 0] 0]] H λr H'=>∃k:Int,r=gi k/\-1<=k/\k<1000000/\(0<=k↔l.any (nY g)=true)/\Kept H H':=by
 refine az.of mixed jy ?_
 simp(disch:=omega)only[↓wr,seval,wq,fS,q.len]
 refine aW.up l.length (λi j H'=>Kept H H'/\(l.take i).any (nY g)=false/\j 0=u/\j 1=.fn 113 [] [.aP [.ptr c 0 0] 0]/\j 7=cM l.length/\j 8=cM i) ?_ ?_
 .exact⟨.refl _,by simp,rfl,rfl,rfl,rfl⟩
 rintro i k j H' hk ⟨a,b,t0,t1,t7,t8⟩
 have s:=A.keep a
 have t:aQ H' u 3 (l.map fX):=q.keep λid v=>a id (by rw[(q.live v).1];simp)
 simp(disch:=omega)only[↓wr,seval,wq,fK,t7,t8]
 apply ao.dec<;>intro D
 .obtain⟨m,w,hm⟩:=t.sl (by simp;omega)
  have d:l[i]?=some (l[i]'(by omega)):=aaH (by omega)
  have f:l[i]'(by omega)∈l:=aaP _
  have n:l.take (i+1)=l.take i++[l[i]'(by omega)]:=by rw[aa2,d];rfl
  generalize l[i]'(by omega)=x at d f n
  have y:(l.map fX).getD i []=[cM x.aB,cM x.dot,cM x.en]:=by simp[d,fX]
  have z:=B x f
  simp(disch:=omega)only[↓wr,seval,wq,t0,t1,t8,w,hm,y]
  refine⟨by omega,by omega,?_⟩
  refine ay.cw ((Um c g p x H' s z).mono ?_)
  rintro r E ⟨rfl,o⟩
  simp(disch:=omega)only[↓wr,seval,wq]
  apply ao.split<;>intro e
  .simp(disch:=omega)only[↓wr,seval,wq,t8]
   refine⟨(i:Int),rfl,by omega,by omega,⟨λ_=>abU.2 ⟨x,f,e⟩,λ_=>by omega⟩,a.trans o⟩
  .simp(disch:=omega)only[↓wr,seval,wq,t8]
   exact aE hk (by omega) ⟨a.trans o,by rw[n,List.any_append,b];simp[e],t0.trans rfl,t1,t7,rfl⟩
 .simp(disch:=omega)only[↓wr,seval,wq]
  have:i=l.length:=by omega
  subst this
  rw[aca] at b
  exact⟨-1,rfl,by omega,by omega,⟨λh=>by omega,λh=>by rw[b] at h;simp at h⟩,a⟩
theorem LP (c:Nat) (g:aj) (p:List Int) (u:V) (l:List Item) (H:View) (b:Hz H c g p) (d:aQ H u 3 (l.map fX)) (e:∀x∈l,x.aB<g.rules.length) (a:l.length<1000000):
  az aa 112 [u,.fn 113 [] [.aP [.ptr c 0 0] 0]] H λr H'=>r=gb (l.any (nY g))/\Kept H H':=by
 refine az.of mixed iU ?_
 simp(disch:=omega)only[↓wr,seval,wq,fF]
 refine ay.cw ((Ry c g p u l H b d e a).mono ?_)
 rintro r i ⟨k,rfl,h1,j,f,h⟩
 simp(disch:=omega)only[↓wr,seval,wq]
 refine⟨?_,h⟩
 rw[gb]
 congr 2
 rw[aby,<-f]
 simp
theorem Vu (c:Nat) (g:aj) (f:g.c5) (p:List Int) (hp:p.length<=60) (i:V) (S:Nat->List Item) (B:Nat) (K:List (Nat × cr)) (H:View) (j:Ch H c g p i S B (p.length+1) K) (h:Good g p S):
  az aa 54 [.ptr c 0 0] H λr _=>r=gb ((S p.length).any (nY g)):=by
 obtain⟨k,l,m,b,d,n⟩:=j.set (a:=p.length) (by omega)
 have e:p.length<p.length+1:=by omega
 have hr:=f.rules
 refine az.of mixed vW ?_
 simp(disch:=omega)only[↓wr,seval,wq,ql,b,encI,d,gE e]
 refine⟨by omega,by simp,?_⟩
 refine ay.cw ((LP c g p (m p.length) (S p.length) H ⟨_,_,_,_,b⟩ n (λx o=>?_) (by have:=h.len f hp p.length;omega)).mono ?_)
 .obtain⟨R,q,_⟩:=h.sound _ _ o
  exact(aaO.1 q).1
 rintro r s ⟨rfl,_⟩
 simp(disch:=omega)only[↓wr,seval,wq]
theorem QQ {g:aj} (hr:bt g=true) {p:List Int} {S:Nat->List Item} (c:Good g p S) (d:FL g p S):(S p.length).any (nY g)=nN g p:=by
 rw[aby,Eh hr,<-SU hr d c.sound,abU]
 constructor
 .rintro⟨x,a,hw⟩
  refine⟨x,a,?_⟩
  unfold nY at hw
  split at hw
  .rename_i R b
   simp only[aaR,aaX] at hw
   exact⟨R,b,hw.1.1,hw.1.2,hw.2⟩
  .simp at hw
 .rintro⟨x,a,R,b,h1,e,f⟩
  refine⟨x,a,?_⟩
  unfold nY
  rw[b]
  simp only[aaR,aaX]
  exact⟨⟨h1,e⟩,f⟩
def Bv:SF:=⟨ai [ag [cg 2 0,bh 4 false,aT 5 0],ai [ag [aU 6 4 2,af 7 1,aV 8 52 [6,7],cX 9 8],aX 9 (ai [ag [bh 4 false,aT 5 1],.ret])],ag [aU 10 4 2,af 11 1,aV 12 53 [10,11],aV 13 54 [12],af 4 13,aT 5 0],.ret],
 [.tmp 4,.tmp 5],14⟩
theorem FT:aJ aa 19 [2]=some Bv:=by kernel_rfl
theorem Xb (g:aj) (e:g.Ok) (f:g.Small) (w:List Int) (hw:aI w) (j:∀x∈w,bp x):aC aa 19 [.agg (ak g),encI w] (B1 (k5 g w)):=by
 refine aC.tree (Ab g w) (Cc _) λH=>?_
 refine az.of mixed FT ?_
 simp(disch:=omega)only[↓wr,seval,wq,Bv,ak,encS]
 have b:=KV g e f w hw j
 simp only[ak,encS] at b
 refine ay.pure b ?_
 simp(disch:=omega)only[↓wr,seval,wq]
 apply ao.split<;>intro h
 .have a:=h
  simp only[jb,aaR,aaX] at a
  simp(disch:=omega)only[↓wr,seval,wq]
  have d:=XS g e a.1.1 f w a.1.2 H
  simp only[ak,encS] at d
  refine ay.cw (d.mono ?_)
  rintro r H1 ⟨c,S,B,rfl,k,i,l⟩
  simp(disch:=omega)only[↓wr,seval,wq]
  refine ay.cw ((Vu c g (bF a.1.1) w a.1.2 _ S B _ H1 k i).mono ?_)
  rintro r m rfl
  simp(disch:=omega)only[↓wr,seval,wq]
  rw[k5,aaL h,QQ a.1.1 i l];rfl
 .simp(disch:=omega)only[↓wr,seval,wq]
  rw[k5,h];rfl
def WL:List Int:=[37,37,32,115,32,58,32,39,97,39,32,115,32,124,32,59]
def kD:aj:=⟨[⟨⟨#[39,97,39]⟩,0,0⟩],[⟨#[115]⟩],[⟨0,[0,(-1)],0⟩,⟨0,[],(-1)⟩],0⟩
theorem Zn:cd aa 44 [Eg WL] (uR kD):=NK (by kernel_rfl)
section
variable {g:aj} {p:List Int} {T:Tb} {N:Nat}
end
theorem cq.xE {H:View} {u:V} {l:List Int} (h:aQ H u 1 (aR l)):cq H u (encI l):=cq.own h λe he v a=>by
 obtain⟨x,_,rfl⟩:=aa4.1 he
 simp at a;subst a;exact .val _
section
variable {g r:aj} {p q:List Bool} {o:List Int}
end
def pad (h:List Int) (k:Nat):List Int:=h++List.replicate k (-1)
def JM (fit:List Int->Bool) (T:Nat):Nat->List Int->List (List Int)
 | 0,h=>if fit (pad h 0)=true then [h] else []
 | k+1,h=>if fit (pad h (k+1))=true then (List.range T).flatMap λ(t:Nat)=>JM fit T k (h++[(t:Int)]) else []
section
variable {fit:List Int->Bool} {T b:Nat}
theorem Mf:∀(k:Nat) (h w:List Int),w∈JM fit T k h->fit w=true/\∃s,w=h++s/\s.length=k/\∀x∈s,0<=x/\x<(T:Int)
 | 0,h,w,hm=>by
  rw[JM] at hm
  split at hm
  .rename_i b
   simp at hm;subst hm
   exact⟨by simpa [pad] using b,[],by simp,rfl,by simp⟩
  .simp at hm
 | k+1,h,w,hm=>by
  rw[JM] at hm
  split at hm
  .rename_i b
   rw[acB] at hm
   obtain⟨t,c,hm⟩:=hm
   obtain⟨h1,s,rfl,d,e⟩:=Mf k _ w hm
   rw[abH] at c
   refine⟨h1,(t:Int)::s,by simp,by simp[d],λx a=>?_⟩
   rcases aa1.1 a with rfl | a
   .omega
   .exact e x a
  .simp at hm
end
def EV (l:List (List Int)):V:=.aZ (l.map λw=>[encI w])
def aaj (H:View) (v:V) (p:List Int):Prop:=v=encI p∨(p≠[]/\∃n,v=.sl n 0 p.length 1/\H n=.arr 1 (aR p))
theorem tw (l:List Int) (b:l.length<=100000) (v:V) (H:View) (c:aaj H v l):az aa 140 [v] H λr H'=>aQ H' r 1 (aR l)/\ct H H' r:=by
 rcases c with rfl | ⟨a,n,rfl,d⟩
 .exact Ic l b H
 .cases l with
  | nil=>exact absurd rfl a
  | cons p r =>
   refine az.of mixed er ?_
   simp only[aaS] at b ⊢
   have he:bM H (.sl n 0 (r.length+1) 1)=some (aR (p::r),[n]):=by
    rw[j7 _ n 0 r.length 1 1 _ d (by simp),abI,aaY (by simp)]
   simp(disch:=omega)only[↓wr,seval,wq,ed,he]
   refine⟨by simp[aL],by unfold aF;simp;omega,λm hm=>?_⟩
   simp(disch:=omega)only[↓wr,seval,wq]
   have:=aQ.new (H:=H) (n:=m) (sz:=1) (es:=aR (p::r))
   simp only[aaM,aaS] at this
   exact⟨by simpa using this,.new hm⟩
section
variable {P:Program} {T:Env} {H:View} {K:V->View->Prop} {w:c9 (T,H,K)} {t t1 e ty:TypeId}
theorem RJ {x:Operand} {k:Nat} (he:de P t=some e) (a:ev T x=.emp k) (hk:K (cM 0) H):jM P (.call { callee:=.builtin .cap,args:=#[x],argTypes:=#[t] }) ty T H K w:=by
 intro n _
 refine⟨cM 0,.none,[],?_,hk⟩
 simp[sI,cL,oper,He,he,a]
theorem Xp {s x:Operand} {k l sz bytes:Nat} {z:List V} (he:pR P t=some (sz,bytes,z)) (g:qQ P t1=false) (hi:isInt P t1=true) (h:ev T s=.emp k) (i:ev T x=cM l) (j:l≠0)
  (h1:l*bytes<aF) (m:l<aF) (hk:∀n,H n=.dead->K (.sl n 0 l sz) (H.set n (.arr sz (List.replicate l z)))):
  jM P (.call { callee:=.builtin .append,args:=#[s,x],argTypes:=#[t,t1] }) ty T H K w:=by
 obtain⟨e,ti,b,_,c,o,d,a,f,rfl,rfl⟩:=lz he
 intro n p
 refine⟨.sl n 0 l ti.size,.new (.arr ti.size (List.replicate l z)),[],?_,hk n p⟩
 have q:asNat (cM l)=some l:=by simp[asNat,cM]
 have key:uD P t (.emp k) (cM l) n=some (.sl n 0 l ti.size,.new (.arr ti.size (List.replicate l z)),[]):=by
  unfold uD
  rw[b,q]
  simp only[c,o,aaI j]
  rw[aaL ⟨d,a,f,h1,m⟩]
 simp[sI,cL,oper,g,hi,h,i,key]
end
def mq:SF:=⟨ai [ag [bU 4 1],ai [ag [af 5 1,aH 6 .lss 5 0],aX 6 (.region false [⟨none,[((some 7),.op (.old (.makeInterface 9 (.const (.string ⟨#[99,97,110,110,111,116,32,98,101,32,110,101,103,97,116,105,118,101]⟩))) 20)),(none,.op (.old (.panic (.tmp 7)) 0))]⟩])],ai [ag [af 8 1,af 9 0,((some 10),.op (.old (.call { callee:=.builtin .cap,args:=#[(.tmp 9)],argTypes:=#[27] }) 3)),af 11 0,aM 12 11,aS 13 .sub 10 12,aS 14 .sub 8 13,af 1 14],ag [af 15 1,aH 16 .gtr 15 0],aX 16 (ag [af 17 0,af 18 0,((some 19),.op (.old (.call { callee:=.builtin .cap,args:=#[(.tmp 18)],argTypes:=#[27] }) 3)),((some 20),.op (.slice 1 (.tmp 17) none (some (.tmp 19)))),af 21 1,((some 22),.op (.old (.call { callee:=.builtin .append,args:=#[(.tmp 20),(.tmp 21)],argTypes:=#[27,3] }) 27)),af 23 0,aM 24 23,((some 25),.op (.slice 1 (.tmp 22) none (some (.tmp 24)))),af 0 25])],ag [af 26 0,af 4 26],.ret],
 [.tmp 4],27⟩
theorem tq:aJ aa 132 []=some mq:=by kernel_rfl
def kK:SC:=
 ai [ag [aS 12 .lss 11 10],bQ 12 (.exit 0),.block 1 (ai [ag [aK 13 1 9 11,au 14 13,af 5 14],ag [af 15 3,af 16 5,aM 17 16,aS 18 .add 15 17,af 3 18],ag [af 19 3,aH 20 .lss 19 0],aX 20 (.region false [⟨none,[((some 21),.op (.old (.makeInterface 9 (.const (.string ⟨#[108,101,110,32,111,117,116,32,111,102,32,114,97,110,103,101]⟩))) 20)),(none,.op (.old (.panic (.tmp 21)) 0))]⟩])]),ag [aH 22 .add 11 1,af 11 22]]
def kQ:SC:=
 ai [ag [aS 28 .lss 27 26],bQ 28 (.exit 2),.block 3 (ai [ag [aK 29 1 25 27,au 30 29,af 8 30],ag [af 31 6,af 32 8,fP 33 1 8 31 32,af 6 33]]),ag [aH 34 .add 27 1,af 27 34]]
def lH:SF:=⟨ai [ag [bU 2 1],ag [aT 3 0],ai [ag [af 9 0,aM 10 9,aT 11 0],bS 0 kK],ag [af 23 3,qh 24 132 [(.val (.emp 1)),(.tmp 23)],af 6 24],ai [ag [af 25 0,aM 26 25,aT 27 0],bS 2 kQ],ag [af 35 6,af 2 35],.ret],
 [.tmp 2],36⟩
theorem qZ:aJ aa 68 []=some lH:=by kernel_rfl
theorem Qw (n:Nat) (a:n<=1000000) (H:View):az aa 132 [.emp 1,gi n] H λr H'=>(n=0/\r=.emp 1/\H'=H)∨(0<n/\∃m es,H m=.dead/\r=.sl m 0 0 1/\H'=H.set m (.arr 1 es)):=by
 refine az.of mixed tq ?_
 simp(disch:=omega)only[↓wr,seval,wq,mq]
 refine ao.dec (λh=>absurd h (by omega)) (λ_=>?_)
 simp(disch:=omega)only[↓wr,seval,wq]
 refine RJ (k:=1) (e:=3) (by kernel_rfl) (by simp(disch:=omega)only[↓wr,seval]) ?_
 simp(disch:=omega)only[↓wr,seval,wq]
 apply ao.dec<;>intro h
 .simp(disch:=omega)only[↓wr,seval,wq]
  refine RJ (k:=1) (e:=3) (by kernel_rfl) (by simp(disch:=omega)only[↓wr,seval]) ?_
  simp(disch:=omega)only[↓wr,seval,wq]
  first | rw[show c8 1 (.emp 1) none (some (.val (.int .i64 ((0:Nat):Int))))=some (.emp 1,.none,[]) from rfl] | rw[show c8 1 (.emp 1) none (some (.val (.int .i64 0)))=some (.emp 1,.none,[]) from rfl]
  simp(disch:=omega)only[↓wr,seval,wq]
  refine Xp (k:=1) (l:=n) (sz:=1) (bytes:=8) (z:=[gi 0]) (by kernel_rfl) (by kernel_rfl) (by kernel_rfl) (by simp(disch:=omega)only[↓wr,seval]) (by simp(disch:=omega)only[↓wr,seval,wq];simp) (by omega) (by unfold aF;omega) (by unfold aF;omega) ?_
  intro m hm
  simp(disch:=omega)only[↓wr,seval,wq]
  first | rw[show c8 1 (.sl m 0 n 1) none (some (.val (.int .i64 ((0:Nat):Int))))=some (.sl m 0 0 1,.none,[]) by simp[c8,bound,asNat]] | rw[show c8 1 (.sl m 0 n 1) none (some (.val (.int .i64 0)))=some (.sl m 0 0 1,.none,[]) by simp[c8,bound,asNat]]
  simp(disch:=omega)only[↓wr,seval,wq]
  exact .inr ⟨by omega,m,_,hm,rfl,rfl⟩
 .simp(disch:=omega)only[↓wr,seval,wq]
  exact .inl (by omega)
def JL (H:View) (u:V) (l:List Int):Prop:=aQ H u 1 (aR l)∨(l=[]/\∃m es,u=.sl m 0 0 1/\H m=.arr 1 es)
theorem Qd {bytes:Nat} {u:V} {l xs:List Int} {H:View} {K:V->View->Prop} {w:c9 (H,K)} (a:JL H u l) (d:(l.length+xs.length)*bytes<aF) (b:l.length+xs.length<aF) (j:bytes=8)
  (hk:∀u' H',JL H' u' (l++xs)->(aQ H u 1 (aR l)->aQ H' u' 1 (aR (l++xs)))->Left H H' u u'->K u' H'):mO 1 bytes u (aR xs) H K w:=by
 rcases a with a | ⟨rfl,m,es,rfl,hm⟩
 .exact fE a (by simp[aL]) (by simpa using d) (by simpa using b) λu' H' h1 f=>hk u' H' (.inl (by simpa using h1)) (λ_=>by simpa using h1) f
 .cases xs with
  | nil=>exact hk _ _ (.inr ⟨rfl,m,es,rfl,hm⟩) (λh=>by simpa using h) .refl
  | cons x xs =>
   rw[vS _ _ _ _ _ _ _ _ _ _ (by simp),hm]
   refine⟨by simp[aL],⟨by simp,rfl,by simpa using d,by simpa using b⟩,λn g=>hk _ _ (.inl (.inr ⟨n,by simp,by simp[View.set]⟩)) (λ_=>.inr ⟨n,by simp,by simp[View.set]⟩) λid c a=>?_⟩
   have e:id≠n:=by rintro rfl;exact c g
   have i:id≠m:=by rintro rfl;exact a rfl
   exact⟨by simp[View.set,e,i],by simp[owner,Ne.symm e]⟩
end Gv
