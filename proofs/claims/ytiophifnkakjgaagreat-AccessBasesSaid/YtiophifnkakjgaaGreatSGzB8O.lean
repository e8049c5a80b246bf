/-
  Part 15 of the proof: what the machine does and what the functions answer.
  Conditions: those that each lemma names.
-/
import Derived.Test.YtiophifnkakjgaaGreatSGzB8N
set_option linter.unusedSimpArgs false
set_option linter.unusedVariables false
set_option maxRecDepth 100000
set_option maxHeartbeats 20000000
namespace Gv
open Go Go.Proofs
def hD (l:List UInt8):Value:=.string ⟨l.toArray⟩
theorem GV {a b:List UInt8} : ((⟨a.toArray⟩:ByteArray) == ⟨b.toArray⟩)=(a == b):=by
 show (a.toArray == b.toArray)=_
 simp
theorem HH {P:Program} {kt:TypeId} (h:P.underlying kt=some .string):AI P kt hD where
 ty:=⟨_,h,λa b=>by simp only[Instr.sameNow,hD,GV],λa e=>AP h trivial e 9999 _⟩
 bits:=λa b c=>by
  have:a=b:=by simpa using c
  subst this
  show ((⟨a.toArray⟩:ByteArray) == ⟨a.toArray⟩)=true
  rw[GV];simp
def pR (l:List aE):List Int:=l.flatMap λx=>[x.ax+1,x.dot]
theorem OX (l:List aE):(pR l).length=2 * l.length:=by
 induction l with
 | nil=>rfl
 | cons x l a=>simp only[pR,List.flatMap_cons,UY,UE,UU] at a ⊢;omega
theorem BC:∀ l:List aE,kE ((pR l).map λn=>[gy n])=some (fS l)
 | []=>rfl
 | x :: l=>by
  have a:=BC l
  simp only[pR,fS,List.flatMap_cons,Va,Vk,U2,kE] at a ⊢
  rw[a];rfl
theorem Qy {x:Int} (h1:0<=x) (c:x < 256):IntKind.wrap .u8 x=x:=by
 unfold IntKind.wrap
 have a:(2:Int) ^ IntKind.u8.bits=256:=by rfl
 have b:IntKind.u8.signed=false:=by rfl
 simp only[a,b,VM,UX,if_false]
 omega
theorem R7 {P:Program} {T:Env} {H:View} {K:V->View->Prop} {w:cG (T,H,K)} {t e d ty:TypeId} {x:Operand} {u:V} {xs:List (List V)} {rd:List Nat} {l:List UInt8} {k:Nat} (hu:P.underlying t=some (.slice e)) (he:P.underlying e=some (.int .u8)) (a:P.underlying d=some .string)
  (b:ev T x=u) (c:bC H u=some (xs,rd)) (f:cd u=some k) (g:kE xs=some l) (hk:K (.val (hD l)) H):iW P (.convert t d x) ty T H K w:=by
 intro n _
 have h:kI P t d=true:=by simp[kI,hu]
 refine⟨.val (hD l),.none,rd,?_,hk⟩
 simp only[sI,ca,oper]
 rw[Uz h,b]
 simp[mK,hu,he,a,c,f,g,hD]
def uV:SC :=
 ae [ab [aR 15 .lss 14 13],bX 15 (.exit 0),.block 1 (ae [ab [aO 16 2 12 14,aS 17 2 16,((some 7),.op (.alloc [(.val (.int .i64 0)),(.val (.int .i64 0))])),cg 2 7 17],ab [aS 19 4 2,aS 20 2 7,aX 21 187 [19,20],aa 18 21,du 22 0 18,du 23 1 18,aa 8 22,aa 9 23],ab [aa 24 9],ba 24 (ae [ab [aS 25 4 2,aa 26 8,aX 27 188 [25,26],aa 10 27],ab [aa 28 5,aa 29 10,aa 30 5,aa 31 10,((some 32),.op (.old (.lookup 209 (.tmp 30) (.tmp 31) false) 103)),al 33 0 7,ak 34 33,al 35 1 7,ak 36 35,aG 37 .add 36 1,((some 38),.op (.build [(.val (.int .i64 0)),(.val (.int .i64 0))] [(0,1,(.tmp 34)),(1,1,(.tmp 37))])),((some 39),.op (.bP 1 2 [(.val (.int .i64 0)),(.val (.int .i64 0))] [(0,(.tmp 38))])),fk 40 2 16 32 39,(none,.op (.old (.mapUpdate 209 (.tmp 28) (.tmp 29) (.tmp 40)) 0))]])]),ab [aG 41 .add 14 1,aa 14 41]]
def xY:SF:=⟨ae [ab [cw 2 0,((some 4),.op (.eU (.val (.val (.map none)))))],ab [((some 11),.op (.qb)),aa 5 11],ae [ab [aa 12 1,aM 13 12,aN 14 0],bY 0 uV],ab [aa 42 5,aa 4 42],.ret],
 [.tmp 4],43⟩
theorem BB:aH Tryz.prog 122 [2]=some xY:=by kernel_rfl
def x6:SC :=
 ae [ab [aR 9 .lss 8 7],bX 9 (.exit 0),.block 1 (ae [ab [aO 10 2 6 8,aS 11 2 10,((some 5),.op (.alloc [(.val (.int .i64 0)),(.val (.int .i64 0))])),cg 2 5 11],ab [aa 12 3,al 13 0 5,ak 14 13,aG 15 .add 14 1,((some 16),.op (.conv .u8 (.tmp 15))),al 17 1 5,ak 18 17,((some 19),.op (.conv .u8 (.tmp 18))),((some 20),.op (.bP 2 1 [(.val (.int .u8 0))] [(0,(.tmp 16)),(1,(.tmp 19))])),fk 21 1 1 12 20,aa 3 21]]),ab [aG 22 .add 8 1,aa 8 22]]
def CC:SF:=⟨ae [.region false [⟨none,[((some 2),.op (.eU (.val (.val (.string ⟨#[]⟩)))))]⟩],ab [bI 3 1],ae [ab [aa 6 0,aM 7 6,aN 8 0],bY 0 x6],ab [aa 23 3,((some 24),.op (.old (.convert 90 9 (.tmp 23)) 9)),aa 2 24],.ret],
 [.tmp 2],25⟩
theorem E5:aH Tryz.prog 121 []=some CC:=by kernel_rfl
theorem FX (g:ag) (K:g.cX) (l:List aE) (M:∀ x∈l,cq g x) (C:l.length<=10000) (u:V) (H:View) (L:aK H u 2 (aT l)):av Tryz.prog 121 [u] H λr H'=>r=.val (hD (fS l))/\∀ id,H id≠.dead->H' id=H id:=by
 refine av.of mixed E5 ?_
 have hlen:cd u=some l.length:=by rw[L.len,bE]
 have N:=K.rules
 simp(disch:=omega)only[↓wr,seval,wq,CC,hlen]
 refine aV.up l.length (λi T H'=>∃ b:V,aK H' b 1 ((pR (l.take i)).map λn=>[gy n])/\b3 H H' b/\T 3=b/\T 6=u/\T 7=gi l.length/\T 8=gi i) ⟨.emp 1,.nil,.emp,rfl,rfl,rfl,rfl⟩ ?_
 rintro i k T H' hk ⟨b,v,w,t3,t6,t7,t8⟩
 simp(disch:=omega)only[↓wr,seval,wq,x6,t3,t6,t7,t8]
 apply ai.dec<;>intro O
 .have D:l[i]?=some (l[i]'(by omega)):=Uv (by omega)
  have f:=M _ (UC (show i < l.length by omega))
  have z:l.take (i+1)=l.take i ++ [l[i]'(by omega)]:=by rw[UW,D];rfl
  generalize l[i]'(by omega)=x at D f z
  have P:=dD K f.1
  have Q:=f.1
  have R:=f.2
  obtain⟨id,hu,a⟩:=L.sl (by rw[bE];omega)
  have A:H' id=.arr 2 (aT l):=by rw[(w id (by rw[a];simp)).1,a]
  rw[bE] at hu
  subst hu
  have E:=OX (l.take i)
  rw[Vj] at E
  simp(disch:=omega)only[↓wr,seval,wq,t3,t6,t7,t8,A,qP D,Qy (x:=x.ax+1) (by omega) (by omega),Qy (x:=x.dot) (by omega) (by omega)]
  refine⟨by omega,by rw[bE];omega,?_⟩
  intro q B o F
  obtain⟨G,p⟩:=bU F (by simp)
  rw[Ux G] at p
  have I:∀ j,H j≠.dead->j≠q/\j≠o:=λj c=>by
   have h1:=(w j c).1
   exact⟨λe=>c (by rw[e] at h1 ⊢;rw[<-h1,B]),λe=>c (by rw[e] at h1 ⊢;rw[<-h1,p])⟩
  have J:∀ a0 h a2,aK (((H'.set q a0).set q h).set o a2) b 1 ((pR (l.take i)).map λn=>[gy n]):=λa0 h a2=>v.keep λid a=>by
   have h1:=(v.live a).1
   have s:id≠q:=by rintro rfl;rw[B] at h1;simp at h1
   have t:id≠o:=by rintro rfl;rw[p] at h1;simp at h1
   simp[View.set,s,t]
  have m:∀ a0 h a2 j,H j≠.dead->(((H'.set q a0).set q h).set o a2) j=H j:=λa0 h a2 j c=>by
   obtain⟨s,t⟩:=I j c
   simp[View.set,s,t,(w j c).1]
  have d:∀ (a0 h:dB) (s t:List V),bC (((H'.set q a0).set q h).set o (.arr 1 [s,t])) (.sl o 0 2 1)=some ([s,t],[o]):=λa0 h s t=>by simp[bC,View.set]
  simp(disch:=omega)only[↓wr,seval,wq,d,t3]
  refine eo (J _ _ _) (by simp[aF]) (by unfold aB;simp;omega) (by unfold aB;simp;omega) ?_
  intro S Y U W
  simp(disch:=omega)only[↓wr,seval,wq,t6,t7,t8]
  refine aD hk (by omega) ⟨S,?_,λj c=>?_,rfl,t6,t7,rfl⟩
  .have:(pR (l.take (i+1))).map (λn=>[gy n])=(pR (l.take i)).map (λn=>[gy n]) ++ [[gy (x.ax+1)],[gy x.dot]]:=by
    rw[z];simp[pR]
   rw[this];exact U
  .obtain⟨X,k2⟩:=W j (by rw[m _ _ _ j c];exact c) (w j c).2
   exact⟨by rw[X,m _ _ _ j c],k2⟩
 .rw[UK (by omega)] at v
  simp(disch:=omega)only[↓wr,seval,wq,t3]
  have d:∃ rd,bC H' b=some ((pR l).map (λn=>[gy n]),rd):=by
   rcases v with ⟨e,k,rfl⟩ | ⟨n,rfl,C⟩
   .exact⟨[],by rw[e];rfl⟩
   .rcases B:(pR l).map (λn=>[gy n]) with _ | ⟨y,ys⟩
    .exact⟨[],by simp[bC]⟩
    .rw[B] at C
     exact⟨[n],by
      have:=jO (H:=H') n 0 ys.length 1 1 (y :: ys) C (by simp)
      rw[UE,this];simp⟩
  obtain⟨rd,d⟩:=d
  refine R7 (u:=b) (xs:=(pR l).map λn=>[gy n]) (rd:=rd) (k:=((pR l).map λn=>[gy n]).length) (l:=fS l) Tryz.underlying90 Tryz.underlying5 Tryz.underlying9 (by simp(disch:=omega)only[↓wr,seval,wq];exact t3) d v.len (BC l) ?_
  simp(disch:=omega)only[↓wr,seval,wq]
  exact λid a=>(w id a).1
theorem xK (g:ag) (p:List aE) (y:aE) (s:Int):bh g (p ++ [y]) s=if bw g y=(s,true) then bh g p s ++ [⟨y.ax,y.dot+1⟩] else bh g p s:=by
 unfold bh
 rw[Wa,UT]
 split
 .rename_i h;simp[h]
 .rename_i h;simp[h]
def iX (g:ag) (p:List aE) (A:cB Int):List dN:=A.map λx=>(x.2.1,2,aT (bh g p (aU g x.1.toNat)))
structure ta (g:ag) (p:List aE) (H0 H:View) (q:Nat) (A:cB Int):Prop where
 mp:∃ c,H q=.map (cn (Value.int .i64) A) c
 nd:(A.map (·.1)).Nodup
 own:bc H (iX g p A)
 ne:∀ x∈A,0<=x.1/\bh g p (aU g x.1.toNat)≠[]
 all:∀ k:Nat,bh g p (aU g k)≠[]->((k:Nat):Int)∈A.map (·.1)
 old:∀ id,H0 id≠.dead->H id=H0 id
 q0:H0 q=.dead
 new:∀ x∈A,∀ id,owner x.2.1=some id->H0 id=.dead
theorem getM_none {A:cB Int} {k:Int} : getM A k=none↔k ∉ A.map (·.1):=by
 induction A with
 | nil=>simp[getM]
 | cons x A a =>
  unfold getM at a ⊢
  rw[Wm]
  by_cases h:k=x.1
  .simp[h]
  .simp only[beq_eq_false_iff_ne.2 h,U2,UO,not_or]
   rw[a]
   simp[h]
theorem wE {A:cB Int} {k:Int} {v:V} (h:getM A k=some v):∃ a d b,A=a ++ (k,v,b) :: d/\k ∉ a.map (·.1)/\∀ v' c,bL k v' c A=a ++ (k,v',b) :: d:=by
 induction A with
 | nil=>simp[getM] at h
 | cons x A f =>
  unfold getM at h f
  rw[Wm] at h
  by_cases e:k=x.1
  .simp only[e,Wh,UH,Uw] at h
   refine⟨[],A,x.2.2,by rw[e,<-h];rfl,by simp,λv' c=>?_⟩
   rw[bL,e,Wh,Uz rfl];rfl
  .rw[beq_eq_false_iff_ne.2 e] at h
   obtain⟨a,d,b,rfl,g,i⟩:=f h
   refine⟨x :: a,d,b,rfl,by simp only[U2,UO,not_or];exact⟨e,g⟩,λv' c=>?_⟩
   rw[bL,beq_eq_false_iff_ne.2 e,i];rfl
theorem PY {A:cB Int} {k:Int} (h:k ∉ A.map (·.1)) (v:V) (c:Nat):bL k v c A=A ++ [(k,v,c)]:=by
 induction A with
 | nil=>rfl
 | cons x A a =>
  simp only[U2,UO,not_or] at h
  rw[bL,beq_eq_false_iff_ne.2 h.1,a h.2];rfl
theorem ta.skip {g:ag} {p:List aE} {a H:View} {q:Nat} {A:cB Int} (h:ta g p a H q A) {y:aE} (b:(bw g y).2=false):ta g (p ++ [y]) a H q A:=by
 have e:∀ s,bh g (p ++ [y]) s=bh g p s:=λs=>by rw[xK,Ux (λh=>by rw[h] at b;simp at b)]
 have c:iX g (p ++ [y]) A=iX g p A:=by simp only[iX,e]
 exact⟨h.mp,h.nd,by rw[c];exact h.own,λx d=>by rw[e];exact h.ne x d,λk hk=>by rw[e] at hk;exact h.all k hk,h.old,h.q0,h.new⟩
theorem ta.val {g:ag} {p:List aE} {d H:View} {q:Nat} {A:cB Int} (h:ta g p d H q A) (r:Nat):aK H ((getM A r).getD (.emp 1)) 2 (aT (bh g p (aU g r))):=by
 cases c:getM A r with
 | none =>
  have e:=getM_none.1 c
  have:bh g p (aU g r)=[]:=Decidable.byContradiction λa=>e (h.all r a)
  rw[this];exact .nil
 | some v =>
  obtain⟨f,i,b,rfl,_,_⟩:=wE c
  have:=h.own.1 (v,2,aT (bh g p (aU g r))) (by simp[iX])
  exact this
theorem ta.put {g:ag} {p:List aE} {B H:View} {q:Nat} {A:cB Int} (h:ta g p B H q A) {y:aE} {r:Nat} (W:bw g y=(aU g r,true)) {H1:View} {v':V} (X:aK H1 v' 2 (aT (bh g p (aU g r) ++ [⟨y.ax,y.dot+1⟩]))) (w:Left H H1 ((getM A r).getD (.emp 1)) v') (c C:Nat) :
  ta g (p ++ [y]) B (H1.set q (.map (cn (Value.int .i64) (bL (r:Int) v' c A)) C)) q (bL (r:Int) v' c A):=by
 obtain⟨c0,O⟩:=h.mp
 have hr:bh g (p ++ [y]) (aU g r)=bh g p (aU g r) ++ [⟨y.ax,y.dot+1⟩]:=by rw[xK,Uz W]
 have i:∀ x:Int × V × Nat,0<=x.1->x.1≠r->bh g (p ++ [y]) (aU g x.1.toNat)=bh g p (aU g x.1.toNat):=λx Q d=>by
  rw[xK,Ux]
  intro e
  rw[W] at e
  simp only[UA,and_true] at e
  have h1:=vI g r
  rw[e,vI] at h1
  omega
 have D:owner ((getM A r).getD (.emp 1))≠some q:=λe=>by
  have:=((h.val r).live e).1
  rw[O] at this;simp at this
 have E:H1 q≠.dead/\owner v'≠some q:=by
  obtain⟨k1,k2⟩:=w q (by rw[O];simp) D
  exact⟨by rw[k1,O];simp,k2⟩
 have hold:∀ id,B id≠.dead->id≠q/\owner ((getM A r).getD (.emp 1))≠some id:=λid f=>by
  refine⟨λe=>f (by rw[e];exact h.q0),λe=>?_⟩
  cases t:getM A r with
  | none=>rw[t] at e;simp[owner] at e
  | some v =>
   rw[t] at e
   obtain⟨s,l,b,rfl,_,_⟩:=wE t
   exact f (h.new (r,v,b) (by simp) id e)
 have m:∀ id,B id≠.dead->(H1.set q (.map (cn (Value.int .i64) (bL (r:Int) v' c A)) C)) id=B id:=λid f=>by
  simp only[View.set]
  rw[Ux (hold id f).1,(w id (by rw[h.old id f];exact f) (hold id f).2).1,h.old id f]
 have F:∀ id,owner v'=some id->B id=.dead:=λid e=>VH λf=>(w id (by rw[h.old id f];exact f) (hold id f).2).2 e
 have u:∀ {L:List dN},bc H1 L->(∀ x∈L,owner x.1≠some q)->bc (H1.set q (.map (cn (Value.int .i64) (bL (r:Int) v' c A)) C)) L:=λY d=>⟨λx G=>(Y.1 x G).other (d x G),Y.2⟩
 have j:∀ x∈A,owner x.2.1≠some q:=λx d=>h.own.Fi O _ (U0.2 ⟨x,d,rfl⟩)
 cases t:getM A r with
 | none =>
  have P:=getM_none.1 t
  rw[t] at w
  rw[PY P] at *
  have R:iX g (p ++ [y]) (A ++ [((r:Int),v',c)])=iX g p A ++ [(v',2,aT (bh g p (aU g r) ++ [⟨y.ax,y.dot+1⟩]))]:=by
   simp only[iX,UT,U2,VS,U8,hr]
   congr 1
   refine List.map_congr_left λx d=>?_
   rw[i x (h.ne x d).1 (λe=>P (U0.2 ⟨x,d,e⟩))]
  refine⟨⟨C,by simp[View.set]⟩,?_,?_,λx d=>?_,λk hk=>?_,m,h.q0,λx d id e=>?_⟩
  .rw[UT,VK]
   refine⟨h.nd,by simp,λa ha b Z e=>?_⟩
   simp at Z;subst Z;subst e;exact P ha
  .rw[R]
   have S:bc H1 ((v',2,aT (bh g p (aU g r) ++ [⟨y.ax,y.dot+1⟩])) :: iX g p A):=(h.own.emp (k:=1) (sz:=2)).left (by simpa using X) w
   refine u (S.perm (List.perm_append_comm (l₁:=[_]))) λx d=>?_
   rcases UR.1 d with d | d
   .obtain⟨z,I,rfl⟩:=U0.1 d
    exact j z I
   .simp at d;subst d;exact E.2
  .rcases UR.1 d with d | d
   .rw[i x (h.ne x d).1 (λe=>P (U0.2 ⟨x,d,e⟩))];exact h.ne x d
   .simp at d;subst d;simp[hr]
  .rw[UT,UR]
   by_cases e:k=r
   .right;simp[e]
   .left
    refine h.all k ?_
    have:=i ((k:Int),.any,0) (by simp) (by simp only;omega)
    simp only[U8] at this
    rw[<-this];exact hk
  .rcases UR.1 d with d | d
   .exact h.new x d id e
   .simp at d;subst d;exact F id e
 | some v =>
  obtain⟨s,l,b,rfl,T,J⟩:=wE t
  rw[t] at w
  rw[J] at *
  have K:=h.nd
  rw[UT,U2,VK] at K
  have U:(r:Int) ∉ l.map (·.1):=(Vp.1 K.2.1).1
  have M:∀ x∈s,x.1≠r:=λx d e=>T (U0.2 ⟨x,d,e⟩)
  have N:∀ x∈l,x.1≠r:=λx d e=>U (U0.2 ⟨x,d,e⟩)
  have n:∀ x∈s,x∈s ++ ((r:Int),v,b) :: l:=λx d=>List.mem_append_left _ d
  have o:∀ x∈l,x∈s ++ ((r:Int),v,b) :: l:=λx d=>List.mem_append_right _ (UP _ d)
  have R:iX g (p ++ [y]) (s ++ ((r:Int),v',b) :: l)=iX g p s ++ (v',2,aT (bh g p (aU g r) ++ [⟨y.ax,y.dot+1⟩])) :: iX g p l:=by
   simp only[iX,UT,U2,U8,hr]
   congr 1
   .refine List.map_congr_left λx d=>?_
    rw[i x (h.ne x (n x d)).1 (M x d)]
   .congr 1
    refine List.map_congr_left λx d=>?_
    rw[i x (h.ne x (o x d)).1 (N x d)]
  have e0:iX g p (s ++ ((r:Int),v,b) :: l)=iX g p s ++ (v,2,aT (bh g p (aU g r))) :: iX g p l:=by
   simp only[iX,UT,U2,U8]
  refine⟨⟨C,by simp[View.set]⟩,by simpa using h.nd,?_,λx d=>?_,λk hk=>?_,m,h.q0,λx d id e=>?_⟩
  .rw[R]
   have Q:=h.own
   rw[e0] at Q
   have S:bc H1 ((v',2,aT (bh g p (aU g r) ++ [⟨y.ax,y.dot+1⟩])) :: (iX g p s ++ iX g p l)):=(Q.perm Wj).left X w
   refine u (S.perm Wj.symm) λx d=>?_
   rcases UR.1 d with d | d
   .obtain⟨z,I,rfl⟩:=U0.1 d
    exact j z (n z I)
   .rcases UO.1 d with rfl | d
    .exact E.2
    .obtain⟨z,I,rfl⟩:=U0.1 d
     exact j z (o z I)
  .rcases UR.1 d with d | d
   .rw[i x (h.ne x (n x d)).1 (M x d)];exact h.ne x (n x d)
   .rcases UO.1 d with rfl | d
    .simp[hr]
    .rw[i x (h.ne x (o x d)).1 (N x d)];exact h.ne x (o x d)
  .by_cases e:k=r
   .subst e;simp
   .have:=i ((k:Int),.any,0) (by simp) (by simp only;omega)
    simp only[U8] at this
    rw[this] at hk
    have:=h.all k hk
    simpa using this
  .rcases UR.1 d with d | d
   .exact h.new x (n x d) id e
   .rcases UO.1 d with rfl | d
    .exact F id e
    .exact h.new x (o x d) id e
theorem ta.fresh {g:ag} {p:List aE} {e H:View} {q:Nat} {A:cB Int} (h:ta g p e H q A) {n:Nat} (b:H n=.dead) (o:dB):ta g p e (H.set n o) q A:=by
 obtain⟨c,d⟩:=h.mp
 have f:q≠n:=by rintro rfl;rw[b] at d;simp at d
 refine⟨⟨c,by simp[View.set,f,d]⟩,h.nd,h.own.fresh b,h.ne,h.all,λid a=>?_,h.q0,h.new⟩
 have i:id≠n:=by rintro rfl;rw[h.old id a] at b;exact a b
 simp[View.set,i,h.old id a]
theorem Pg (g:ag) (w:g.cX) (l:List aE) (hl:∀ x∈l,cq g x) (L:l.length<=10000) (u:V) (H:View) (ho:aK H u 2 (aT l)):av Tryz.prog 122 [.agg (af g),u] H λr H'=>∃ q A,r=.mp q/\ta g l H H' q A:=by
 refine av.of mixed BB ?_
 have hlen:cd u=some l.length:=by rw[ho.len,bE]
 have hT:=w.au
 have hN:=w.aj
 simp(disch:=omega)only[↓wr,seval,wq,xY,af,encS,hlen]
 intro q M
 have N:ta g [] H (H.set q (.map [] 0)) q []:=⟨⟨0,by simp[View.set,cn]⟩,by simp,⟨by simp[iX],by simp[iX]⟩,by simp,λk hk=>absurd rfl hk,λid j=>by
  have:id≠q:=by rintro rfl;exact j M
  simp[View.set,this],M,by simp⟩
 generalize H.set q (.map [] 0)=H1 at N
 try simp(disch:=omega)only[↓wr,seval,wq]
 refine aV.up l.length (λi T H'=>∃ A,ta g (l.take i) H H' q A/\T 2=.aJ (af g) 0/\T 5=.mp q/\T 12=u/\T 13=gi l.length/\T 14=gi i) ⟨[],N,rfl,rfl,rfl,rfl,rfl⟩ ?_
 clear N M
 rintro i k T H' hk ⟨A,D,t2,t5,t12,t13,t14⟩
 simp(disch:=omega)only[↓wr,seval,wq,uV,t2,t5,t12,t13,t14]
 apply ai.dec<;>intro hc
 .have O:l[i]?=some (l[i]'(by omega)):=Uv (by omega)
  have a:=hl _ (UC (show i < l.length by omega))
  have B:l.take (i+1)=l.take i ++ [l[i]'(by omega)]:=by rw[UW,O];rfl
  generalize l[i]'(by omega)=x at O a B
  have h1:=Gg g w x a
  cases b:bw g x with
  | mk s P =>
  have Q:=vE w a b
  rw[b] at h1
  have aq:=dD w a.1
  have ar:=a.2
  obtain⟨id,hu,j⟩:=ho.sl (by rw[bE];omega)
  have p:H' id=.arr 2 (aT l):=by rw[D.old id (by rw[j];simp),j]
  rw[bE] at hu
  subst hu
  simp only[af,encS,bA] at h1
  simp(disch:=omega)only[↓wr,seval,wq,t2,t5,t12,t13,t14,p,qP O]
  refine⟨by omega,by rw[bE];omega,?_⟩
  intro E F
  rw[set_set]
  have d:(H'.set E (.arr 2 [[gi x.ax,gi x.dot]])) E=.arr 2 [[gi x.ax,gi x.dot]]:=by simp[View.set]
  have f:=D.fresh F (.arr 2 [[gi x.ax,gi x.dot]])
  generalize H'.set E (.arr 2 [[gi x.ax,gi x.dot]])=R at d f
  clear D F p
  try simp(disch:=omega)only[↓wr,seval,wq,t2,t5,d,af,encS]
  refine aw.pure h1 ?_
  cases P with
  | false =>
   simp(disch:=omega)only[↓wr,seval,wq,t2,t5,t12,t13,t14]
   exact aD hk (by omega) ⟨A,by rw[B];exact f.skip (by rw[b]),t2,t5,t12,t13,rfl⟩
  | true =>
  have hh:=sg w a b
  obtain⟨r1,r2⟩:=IT hh
  obtain⟨r3,r4⟩:=He r1
  obtain⟨r,hr⟩:∃ r:Nat,my g s=r:=⟨(my g s).toNat,by omega⟩
  rw[hr,U8] at r4
  have S:=P9 g w s Q
  rw[hr] at S
  simp only[af,encS] at S
  simp(disch:=omega)only[↓wr,seval,wq,t2,t5,af,encS]
  refine aw.pure S ?_
  obtain⟨c,U⟩:=f.mp
  simp(disch:=omega)only[↓wr,seval,wq,t5]
  refine zg (kt:=3) (et:=103) (z:=.emp 1) (by kernel_rfl) (by kernel_rfl) (kU .i64 Tryz.underlying3) (id:=q) (c:=c) (m:=A) (k:=(r:Int)) (by simp(disch:=omega)only[↓wr,seval,wq]) (by simp(disch:=omega)only[↓wr,seval,wq]) U ?_
  have a1:=f.val r
  have an:∀ n o,R n=.dead->(R.set n o) E=.arr 2 [[gi x.ax,gi x.dot]]:=λn o L=>by
   have:E≠n:=by rintro rfl;rw[d] at L;simp at L
   simp[View.set,this,d]
  try simp(disch:=omega)only[↓wr,seval,wq,d]
  intro W X
  have C:=f.fresh X (.arr 2 [[gi x.ax,gi (x.dot+1)]])
  have t:=C.val r
  have Y:bC (R.set W (.arr 2 [[gi x.ax,gi (x.dot+1)]])) (.sl W 0 1 2)=some ([[gi x.ax,gi (x.dot+1)]],[W]):=by simp[bC,View.set]
  simp(disch:=omega)only[↓wr,seval,wq,Y]
  have Z:=se (g:=g) (l:=l.take i) (s:=aU g r)
  rw[Vj] at Z
  refine eo t (by simp[aF]) (by unfold aB;rw[bE];simp;omega) (by unfold aB;rw[bE];simp;omega) ?_
  intro v' H6 o6 l6
  obtain⟨K,h⟩:=C.mp
  have G:owner ((getM A (r:Int)).getD (.emp 1))≠some q:=λe=>by
   have:=(t.live e).1
   rw[h] at this;simp at this
  have I:H6 q=.map (cn (Value.int .i64) A) K:=by
   rw[(l6 q (by rw[h];simp) G).1,h]
  simp(disch:=omega)only[↓wr,seval,wq,t5]
  refine uL (kt:=3) (et:=103) (by kernel_rfl) (kU .i64 Tryz.underlying3) (id:=q) (c:=K) (m:=A) (k:=(r:Int)) (v:=v') (by simp(disch:=omega)only[↓wr,seval,wq]) (by simp(disch:=omega)only[↓wr,seval,wq]) (by simp(disch:=omega)only[↓wr,seval,wq]) I ?_
  intro c'
  simp(disch:=omega)only[↓wr,seval,wq,t2,t5,t12,t13,t14]
  have J:=C.put (y:=x) (r:=r) (by rw[b,r4]) (H1:=H6) (v':=v') (by
   have e:aT (bh g (l.take i) (aU g r) ++ [⟨x.ax,x.dot+1⟩])=aT (bh g (l.take i) (aU g r)) ++ [[gi x.ax,gi (x.dot+1)]]:=by simp[aT,bA]
   rw[e];exact o6) l6 K c'
  exact aD hk (by omega) ⟨bL (r:Int) v' K A,by rw[B];exact J,t2,t5,t12,t13,rfl⟩
 .rw[UK (by omega)] at D
  simp(disch:=omega)only[↓wr,seval,wq,t5]
  exact⟨q,A,rfl,D⟩
theorem aw.still {P:Program} {f:FuncId} {vs:List V} {H:View} {K:V->View->Prop} {w:cG (H,K)} {a:V->View->Prop} (b:av P f vs H a) (c:∀ r H',a r H'->∀ id,H id≠.dead->H' id=H id) (hk:∀ r H',a r H'->K r H'):aw P true f vs H K w:=by
 unfold aw
 simp only[if_true]
 exact(b.mono λr H' h=>⟨c r H' h,hk r H' h⟩).LK
theorem bc.join {H:View} {L M:List dN} (h:bc H L) (k:bc H M) (g:∀ x∈L,∀ y∈M,∀ id,owner x.1=some id->owner y.1≠some id):bc H (L ++ M):=by
 refine⟨λx c=>?_,?_⟩
 .rcases UR.1 c with c | c
  .exact h.1 x c
  .exact k.1 x c
 .rw[List.filterMap_append,VK]
  refine⟨h.2,k.2,λa i b j e=>?_⟩
  obtain⟨x,c,d⟩:=VD.1 i
  obtain⟨y,l,f⟩:=VD.1 j
  subst e
  exact g x c y l a d f
theorem bc.sub {H:View} {L M:List dN} (h:bc H L) (a:M.Sublist L):bc H M :=
 ⟨λx b=>h.1 x (a.subset b),h.2.sublist (a.filterMap _)⟩
theorem My {l:List aE} (g:cb l) (i:l.length<=100000) (u:V) (H:View) (b:aK H u 2 (aT l)):av Tryz.prog 124 [u] H λr H'=>H=H'/\aK H r 2 (aT l)/\(l≠[]->r=u):=by
 refine(JP l i u H b).mono ?_
 rintro r H' ⟨j,k2,a⟩
 rw[Kn g] at k2
 have e:H'=H:=by
  funext id
  by_cases h:owner u=some id
  .rw[(b.live h).1,(k2.live (by rw[a];exact h)).1]
  .exact j id h
 subst e
 refine⟨rfl,k2,λc=>?_⟩
 have hp:0 < (aT l).length:=by rw[bE];exact Wg.2 c
 obtain⟨n,d,_⟩:=b.sl hp
 obtain⟨m,f,_⟩:=k2.sl hp
 rw[d,f] at a
 simp only[owner,Uw] at a
 rw[d,f,a]
def qY (g:ag) (out:List aP) (M:cB (List UInt8)):Prop:=∀ l:List aE,(∀ x∈l,cq g x)->getM M (fS l)=if findD out l < 0 then none else some (gi (findD out l))
theorem Ea:∀ {a b:List aP},a.map aP.bj=b.map aP.bj->∀ k,findD a k=findD b k
 | [],[],_,_=>rfl
 | [],_ :: _,h,_=>by simp at h
 | _ :: _,[],h,_=>by simp at h
 | s :: a,t :: b,h,k=>by
  simp only[U2,List.cons.injEq] at h
  rw[findD,findD,h.1,Ea h.2 k]
theorem Bk:∀ (a:List aP) (s:aP) (k:List aE),findD (a ++ [s]) k=if 0<=findD a k then findD a k else if s.bj=k then (a.length:Int) else -1
 | [],s,k=>by by_cases e:s.bj=k <;> simp[findD,e]
 | t :: a,s,k=>by
  have b:=Bk a s k
  have h1:=sH a k
  rw[Va,findD,findD,b]
  simp only[UE]
  push_cast
  by_cases e:t.bj=k <;> by_cases c:s.bj=k <;> by_cases d:0<=findD a k <;> simp only[e,c,d,if_true,if_false] <;> (repeat' split) <;> omega
theorem qY.same {g:ag} {a b:List aP} {M:cB (List UInt8)} (h:qY g a M) (e:a.map aP.bj=b.map aP.bj):qY g b M:=λl c=>by
 rw[h l c,Ea e]
theorem qY.put {g:ag} (d:g.cX) {out:List aP} {M:cB (List UInt8)} (h:qY g out M) {k:List aE} (hk:∀ x∈k,cq g x) (i:findD out k < 0) (c:Nat):qY g (out ++ [⟨k,[]⟩]) (bL (fS k) (gi out.length) c M):=λl a=>by
 have h1:=Bk out ⟨k,[]⟩ l
 have j:=sH out l
 rw[pI]
 by_cases e:l=k
 .subst e
  rw[Ux (by omega),Uz rfl] at h1
  rw[h1,Wh,Uz rfl,Ux (by omega)]
 .have f:(fS l == fS k)=false:=beq_eq_false_iff_ne.2 λh=>e (Hf d a hk h)
  rw[f,h l a]
  simp only[UX,if_false]
  by_cases b:0<=findD out l
  .rw[Uz b] at h1
   rw[h1]
  .rw[Ux b,Ux (λh=>e h.symm)] at h1
   rw[h1,Uz (by omega),Uz (by omega)]
theorem Hk {A:cB Int} {k:Nat} {v:V} (d:(A.map (·.1)).Nodup) (h:getM A (k:Int)=some v):∃ b,(A.filter (λx=>decide (((k:Nat):Int)<=x.1))).Perm (((k:Int),v,b) :: A.filter (λx=>decide (((k+1:Nat):Int)<=x.1))):=by
 obtain⟨g,f,b,rfl,a,_⟩:=wE h
 rw[UT,U2,VK] at d
 have c:(k:Int) ∉ f.map (·.1):=(Vp.1 d.2.1).1
 have e:∀ B:cB Int,(k:Int) ∉ B.map (·.1)->B.filter (λx=>decide (((k:Nat):Int)<=x.1))=B.filter (λx=>decide (((k+1:Nat):Int)<=x.1)):=λB i=>List.filter_congr λx j=>by
  have:x.1≠(k:Int):=λe=>i (U0.2 ⟨x,j,e⟩)
  rw[decide_eq_decide];omega
 refine⟨b,?_⟩
 rw[Wa,Wa,List.filter_cons,List.filter_cons,Uz (by simp),Ux (by simp only[UN];push_cast;omega),e g a,e f c]
 exact Wj
theorem SP {α:Type} {e u r:α} {S X Y:List α} (h:X.Perm (r :: Y)):(e :: u :: (S ++ X)).Perm (u :: ((S ++ [r,e]) ++ Y)):=by
 refine(List.Perm.swap _ _ _).trans (.cons _ ?_)
 rw[Vs]
 refine((h.append_left S).cons e).trans ?_
 exact Wj.symm.trans ((List.Perm.swap _ _ _).append_left S)
theorem Fg {α:Type} {u k e:α} {S R:List α} : (u :: (S ++ k :: e :: R)).Perm (e :: u :: (S ++ k :: R)):=by
 have h:(S ++ k :: e :: R).Perm (e :: (S ++ k :: R)):=by
  have:=Wj (a:=e) (l₁:=S ++ [k]) (l₂:=R)
  simpa using this
 exact(h.cons u).trans (List.Perm.swap _ _ _)
def uX:SC :=
 ae [ab [aR 49 .lss 48 47],bX 49 (.exit 2),.block 3 (ae [ab [aa 50 48,aa 9 50],ab [aa 51 8,aa 52 9,((some 53),.op (.old (.lookup 209 (.tmp 51) (.tmp 52) false) 103)),aX 54 124 [53],aa 10 54],ae [ab [aa 55 10,aM 56 55,aG 57 .eql 56 0],ba 57 (.exit 3)],ab [aa 58 9,aa 11 58],ae [ab [aa 59 9,al 60 0 1,ak 61 60,aM 62 61,aR 63 .geq 59 62],ba 63 (ab [al 64 0 1,ak 65 64,aM 66 65,aG 67 .sub 66 1,aa 68 9,aR 69 .sub 67 68,aa 11 69])],ab [aa 71 6,aa 72 10,aX 73 121 [72],((some 74),.op (.old (.lookup 208 (.tmp 71) (.tmp 73) true) 66)),aa 70 74,du 75 0 70,du 76 1 70,aa 12 75,aa 13 76],ae [ab [aa 77 13,c7 78 77],ba 78 (ae [ab [aa 79 5,aM 80 79,aa 12 80],ab [aa 81 6,aa 82 10,aX 83 121 [82],aa 84 12,(none,.op (.old (.mapUpdate 208 (.tmp 81) (.tmp 83) (.tmp 84)) 0))],ab [aa 85 5,aa 86 10,((some 87),.op (.build [(.emp 1),(.emp 1)] [(0,1,(.tmp 86))])),((some 88),.op (.bP 1 2 [(.emp 1),(.emp 1)] [(0,(.tmp 87))])),fk 89 2 48 85 88,aa 5 89]])],ab [aa 90 5,aa 91 7,aa 92 5,aa 93 7,aO 94 2 92 93,al 95 1 94,ak 96 95,aa 97 11,aa 98 12,((some 99),.op (.build [(.val (.int .i64 0)),(.val (.int .i64 0))] [(0,1,(.tmp 97)),(1,1,(.tmp 98))])),((some 100),.op (.bP 1 2 [(.val (.int .i64 0)),(.val (.int .i64 0))] [(0,(.tmp 99))])),fk 101 2 16 96 100,aO 102 2 90 91,al 103 1 102,cg 1 103 101]]),ab [aG 104 .add 48 1,aa 48 104]]
def uQ:SC :=
 ae [ae [ab [aa 26 7,aa 27 5,aM 28 27,aR 29 .lss 26 28],bX 29 (.exit 0)],.block 1 (ae [.region true [⟨none,[aS 32 4 1,aS 33 4 1,aa 34 5,aa 35 7,aO 36 2 34 35,al 37 0 36,ak 38 37,aX 39 123 [33,38],aX 40 122 [32,39],aa 8 40]⟩],ae [ab [al 41 0 1,ak 42 41,aM 43 42,al 44 1 1,ak 45 44,aM 46 45,aR 47 .add 43 46,aN 48 0],bY 2 uX],ab [aa 105 5,aM 106 105,aG 107 .gtr 106 300],ba 107 (ae [ab [bI 2 1,aN 3 5],.ret])]),ab [aa 30 7,aG 31 .add 30 1,aa 7 31]]
def yR:SF:=⟨ae [ab [cw 1 0,bI 2 1,aN 3 0],ae [ab [aS 14 4 1,aX 15 82 [14],c7 16 15],ba 16 (ae [ab [bI 2 1,aN 3 1],.ret])],ab [((some 17),.op (.build [(.val (.int .i64 0)),(.val (.int .i64 0))] [(0,1,(.val (.val (.int .i64 (-1)))))])),((some 18),.op (.bP 1 2 [(.val (.int .i64 0)),(.val (.int .i64 0))] [(0,(.tmp 17))])),aa 4 18],ab [aa 19 4,((some 20),.op (.build [(.emp 1),(.emp 1)] [(0,1,(.tmp 19))])),((some 21),.op (.bP 1 2 [(.emp 1),(.emp 1)] [(0,(.tmp 20))])),aa 5 21],ab [((some 22),.op (.qb)),aa 23 4,aX 24 121 [23],(none,.op (.old (.insert 208 (.tmp 22) (.tmp 24) (.const (.int .i64 0))) 0)),aa 25 22,aa 6 25],ae [ab [aN 7 0],bY 0 uQ],ab [aa 108 5,aa 2 108,aN 3 0],.ret],
 [.tmp 2,.tmp 3],109⟩
theorem Ct:aH Tryz.prog 60 [1]=some yR:=by kernel_rfl
def Ui (g:ag) (m:Nat) (T:Env) (H:View):Prop:=∃ (at_:Nat) (u:V) (S:List pn) (out:List aP) (q c:Nat) (M:cB (List UInt8)),m+at_=302/\out=S.map (λx=>x.2.2)/\bc H ((u,2,eQ S) :: lH S)/\dH g at_ 0 out/\1<=out.length/\out.length<=300/\eZ g m at_ out=bS g/\at_<=out.length /\
 H q=.map (cn hD M) c/\qY g out M/\T 1=.aJ (af g) 0/\T 5=u/\T 6=.mp q/\T 7=gi at_
theorem EJ (g:ag) (hg:g.Ok) (gk:g.Small):b6 Tryz.prog 60 [.agg (af g)] (.aY [bM (bS g).1,gi (bS g).2]):=by
 refine b6.of (dO g) ?_
 have ee:=Sd g hg gk
 refine av.of mixed Ct ?_
 simp only[af,encS] at ee
 simp(disch:=omega)only[↓wr,seval,wq,yR,af,encS]
 refine aw.pure ee ?_
 simp(disch:=omega)only[↓wr,seval,wq]
 apply ai.split<;>intro hr
 rotate_left
 .simp(disch:=omega)only[↓wr,seval,wq]
  intro h' _
  have e:bS g=([],1):=by unfold bS;rw[Ux (by rw[hr];simp)]
  rw[e]
  exact kb (.emp _)
 have N:g.cX:=rM hr
 have e0:eZ g 302 0 dM=bS g:=by unfold bS;rw[Uz hr]
 have hT:=N.au;have hN:=N.aj
 simp(disch:=omega)only[↓wr,seval,wq]
 intro Y q2 O q3 eg
 have cj:cq g ⟨-1,0⟩:=(kW (g:=g)).bj ⟨[⟨-1,0⟩],[]⟩ (by simp[dM]) |>.2.2 _ (by simp)
 have o0:bc (((View.set (λ_=>dB.dead) Y (.arr 2 [[gi (-1),gi 0]])).set q2 (.arr 2 [[.sl Y 0 1 2,.emp 1]]))) ((.sl q2 0 1 2,2,eQ [(.sl Y 0 1 2,.emp 1,⟨[⟨-1,0⟩],[]⟩)]) :: lH [(.sl Y 0 1 2,.emp 1,⟨[⟨-1,0⟩],[]⟩)]) :=
  (((bc.nil.emp (k:=1) (sz:=2)).new (n:=Y) rfl 2 [[gi (-1),gi 0]]).new (by simpa [View.set] using O) 2 [[.sl Y 0 1 2,.emp 1]])
 have o1:=o0.fresh (n:=q3) (by simpa [View.set] using eg) (o:=.map [] 0)
 have b7:((((View.set (λ_=>dB.dead) Y (.arr 2 [[gi (-1),gi 0]])).set q2 (.arr 2 [[.sl Y 0 1 2,.emp 1]])).set q3 (.map [] 0))) q3=.map (cn hD []) 0:=by simp[View.set,cn]
 generalize (((View.set (λ_=>dB.dead) Y (.arr 2 [[gi (-1),gi 0]])).set q2 (.arr 2 [[.sl Y 0 1 2,.emp 1]])).set q3 (.map [] 0))=H3 at o1 b7 ⊢
 clear o0 O eg
 have ei:aK H3 (.sl Y 0 1 2) 2 (aT [⟨-1,0⟩]):=o1.1 _ (UP _ (V7 ..))
 refine aw.dL ((FX g N [⟨-1,0⟩] (λx Z=>by simp at Z;subst Z;exact cj) (by simp) (.sl Y 0 1 2) H3 ei).mono ?_)
 rintro r H4 ⟨rfl,k4⟩
 have c3:H4 q3=.map (cn hD []) 0:=by rw[k4 q3 (by rw[b7];simp),b7]
 simp(disch:=omega)only[↓wr,seval,wq,Sq]
 refine uL (kt:=9) (et:=3) (by kernel_rfl) (HH Tryz.underlying9) (id:=q3) (c:=0) (m:=[]) (k:=fS [⟨-1,0⟩]) (v:=gi 0) (by simp(disch:=omega)only[↓wr,seval,wq]) (by simp(disch:=omega)only[↓wr,seval,wq]) rfl c3 ?_
 intro L
 have ek:qY g dM (bL (fS [⟨-1,0⟩]) (gi 0) 0 []):=qY.put (out:=[]) N (λl _=>by simp[getM,findD]) (λx Z=>by simp at Z;subst Z;exact cj) (by simp[findD]) 0
 have o2:=(o1.stay k4).BO c3 (o:=.map (cn hD (bL (fS [⟨-1,0⟩]) (gi 0) 0 [])) L)
 have c4:(H4.set q3 (.map (cn hD (bL (fS [⟨-1,0⟩]) (gi 0) 0 [])) L)) q3=.map (cn hD (bL (fS [⟨-1,0⟩]) (gi 0) 0 [])) L:=by simp[View.set]
 generalize H4.set q3 (.map (cn hD (bL (fS [⟨-1,0⟩]) (gi 0) 0 [])) L)=H5 at o2 c4 ⊢
 clear c3 b7 k4 ei o1
 clear H4 H3
 simp(disch:=omega)only[↓wr,seval,wq]
 refine aV.intro (Ui g) 302 ⟨0,_,_,dM,q3,L,_,rfl,rfl,o2,kW,UF _,by simp[dM],e0,by omega,c4,ek,rfl,rfl,rfl,rfl⟩ ?_
 clear o2 c4 ek
 clear H5 Y q2 q3 L
 rintro m T H ⟨at_,u,S,out,q,c,M,hm,rfl,P,hI,h1,ck,hl,hle,w,G,t1,t5,t6,t7⟩
 have a6:cd u=some S.length:=by rw[P.head.len,cY]
 simp only[UB] at h1 ck hle
 simp(disch:=omega)only[↓wr,seval,wq,uQ,t1,t5,t6,t7,a6]
 apply ai.dec<;>intro hc
 rotate_left
 .simp(disch:=omega)only[↓wr,seval,wq,t5]
  have e1:bS g=(S.map (λx=>x.2.2),0):=by
   rw[<-hl]
   cases m with
   | zero=>rfl
   | succ m=>rw[eZ,Ux (by simp;omega)]
  rw[e1]
  rintro h' rfl
  exact kb (C3 P.head λx Z=>⟨P.1 _ (UP _ (np Z).1),P.1 _ (UP _ (np Z).2)⟩)
 obtain⟨m,rfl⟩:∃ q,m=q+1:=⟨m - 1,by omega⟩
 have a7:at_ < S.length:=by omega
 obtain⟨d,x,t,rfl,an,Z⟩:=vO a7
 have da:x∈d ++ x :: t:=by simp
 obtain⟨eH,gl,a8⟩:=hI.bj x.2.2 (List.mem_map_of_mem da)
 have gr:=jT N eH a8
 have hh:aK H u 2 (eQ (d ++ x :: t)):=P.head
 obtain⟨id,hu,C⟩:=hh.sl (by rw[cY];omega)
 have bd:(eQ (d ++ x :: t)).getD at_ []=[x.1,x.2.1]:=by simp[eQ,Uu,<-an]
 have e3:cK g ((List.map (λx=>x.2.2) (d ++ x :: t)).getD at_ bJ).bj=cK g x.2.2.bj:=by
  rw[Uu,Uy,Z];rfl
 have cu:=λn hn=>dH.row (hI.lO N (show at_ < ((d ++ x :: t).map λx=>x.2.2).length by simpa using a7)).1 (hI.lO N (show at_ < ((d ++ x :: t).map λx=>x.2.2).length by simpa using a7)).2 hI n hn
 rw[eZ,Uz (by simpa using a7),tS] at hl
 rw[e3] at hl cu
 have e4:=rI g x.2.2.bj
 have db:∀ y∈cK g x.2.2.bj,cq g y:=λy hy=>((fM N a8).1 hy).has a8
 rw[cY] at hu
 simp(disch:=omega)only[↓wr,seval,wq,t1,t5,t7,hu,C,bd,af,encS]
 refine⟨by omega,by rw[cY];omega,?_⟩
 refine aw.Dr (Io g N x.2.2.bj a8 (by omega) x.1 H (P.1 _ (UP _ (np da).1))) ?_
 intro r H2 or fr
 simp(disch:=omega)only[↓wr,seval,wq,af,encS]
 have hE:=jT N e4 db
 refine aw.still (Pg g N (cK g x.2.2.bj) db (by omega) r H2 or) (λr H' h=>by obtain⟨q,A,_,h⟩:=h;exact h.old) ?_
 rintro r2 H6 ⟨U,A,rfl,D⟩
 have dj:∀ id,H id≠.dead->H6 id=H id:=λid C=>by rw[D.old id (by rw[(fr id C).1];exact C),(fr id C).1]
 have cv:H6 q=.map (cn hD M) c:=by rw[dj q (by rw[w];simp),w]
 have o6:bc H6 ((u,2,eQ (d ++ x :: t)) :: (lH (d ++ x :: t) ++ iX g (cK g x.2.2.bj) (A.filter λy=>decide (((0:Nat):Int)<=y.1)))):=by
  have hA:A.filter (λy=>decide (((0:Nat):Int)<=y.1))=A:=List.filter_eq_self.2 λy hy=>by simpa using (D.ne y hy).1
  rw[hA]
  refine(P.stay dj).join (M:=iX g (cK g x.2.2.bj) A) D.own λa ha b hb id h1 h2=>?_
  obtain⟨y,hy,rfl⟩:=U0.1 hb
  have h3:=D.new y hy id h2
  have h4:=P.live ha h1
  rw[(fr id h4).1] at h3
  exact h4 h3
 obtain⟨cA,Q⟩:=D.mp
 have hAnd:=D.nd
 have hd:U≠q:=by
  rintro rfl
  have:=D.q0
  rw[(fr _ (by rw[w];simp)).1,w] at this;simp at this
 have bl:∀ k:Nat,(getM A (k:Int)=none->bh g (cK g x.2.2.bj) (aU g k)=[]):=λk h=>Decidable.byContradiction λaq=>getM_none.1 h (D.all k aq)
 clear or fr C bd e3 Z dj D w
 generalize cK g x.2.2.bj=cl at *
 generalize E:(d ++ x :: t).map (λx=>x.2.2)=bn at *
 have e5:bn.length=(d ++ x :: t).length:=by rw[<-E];simp
 simp(disch:=omega)only[↓wr,seval,wq,t1,t5,t6,t7,af,encS]
 refine aV.up (g.au.length+g.aj.length) (λi T H'=>∃ (u:V) (S:List pn) (M:cB (List UInt8)) (c:Nat),S.map (λx=>x.2.2)=(List.range i).foldl (cU g cl at_) bn/\bc H' ((u,2,eQ S) :: (lH S ++ iX g cl (A.filter λy=>decide (((i:Nat):Int)<=y.1)))) /\
  H' U=.map (cn (Value.int .i64) A) cA/\H' q=.map (cn hD M) c/\qY g (S.map λx=>x.2.2) M/\T 1=.aJ (af g) 0/\T 5=u/\T 6=.mp q/\T 7=gi at_/\T 8=.mp U/\T 47=gi ((g.au.length+g.aj.length:Nat):Int)/\T 48=gi i)
  ⟨u,_,M,c,E,o6,Q,cv,by rw[E];exact G,t1,by rw[<-hu];exact t5,t6,t7,rfl,?_,rfl⟩ ?_
 .push_cast;rfl
 rw[<-e5] at h1 ck hle a7
 clear o6 P hh hu t1 t5 t6 t7 a6 E da e5 hc eH gl a8 gr an Q cv G
 clear u H H2 H6 T id d x t M c r
 rintro i k T H' hk ⟨u,S,M,c,hA,P,Q,w,G,t1,t5,t6,t7,t8,t47,t48⟩
 obtain⟨iI,e6,e7⟩:=cu i (by omega)
 rw[<-hA] at iI e6 e7
 rw[UB] at e6 e7
 have a6:cd u=some S.length:=by rw[P.head.len,cY]
 simp(disch:=omega)only[↓wr,seval,wq,uX,t1,t5,t6,t7,t8,t47,t48]
 apply ai.dec<;>intro hc
 rotate_left
 .have hi:i=g.au.length+g.aj.length:=by omega
  subst hi
  rw[<-hA] at hl
  simp(disch:=omega)only[↓wr,seval,wq,t1,t5,t6,t7,a6]
  apply ai.dec<;>intro h3
  .simp(disch:=omega)only[↓wr,seval,wq]
   intro h' _
   rw[Uz (by rw[UB];omega)] at hl
   rw[<-hl]
   exact kb (.emp _)
  .simp(disch:=omega)only[↓wr,seval,wq,t1,t5,t6,t7]
   rw[Ux (by rw[UB];omega)] at hl
   exact⟨m,by omega,at_+1,u,S,_,q,c,M,by omega,rfl,P.sub (List.Sublist.cons_cons _ (List.sublist_append_left _ _)),iI.next,by rw[UB];omega,by rw[UB];omega,hl,by rw[UB];omega,w,G,t1,t5,t6,rfl⟩
 have hj:i < g.au.length+g.aj.length:=by omega
 have hF:=Ch N hj
 have br:(List.range (i+1)).foldl (cU g cl at_) bn=cU g cl at_ (S.map λx=>x.2.2) i:=by rw[V1,VT,<-hA];rfl
 have e8:aK H' ((getM A (i:Int)).getD (.emp 1)) 2 (aT (bh g cl (aU g i))):=by
  cases hg:getM A (i:Int) with
  | none=>rw[bl i hg];exact .nil
  | some v =>
   obtain⟨b,hp⟩:=Hk hAnd hg
   refine P.1 (v,2,aT (bh g cl (aU g i))) (UP _ (List.mem_append_right _ (U0.2 ⟨((i:Int),v,b),hp.mem_iff.2 (by simp),?_⟩)))
   simp
 have cC:(iX g cl (A.filter λy=>decide (((i+1:Nat):Int)<=y.1))).Sublist (iX g cl (A.filter λy=>decide (((i:Nat):Int)<=y.1))):=by
  have:A.filter (λy=>decide (((i+1:Nat):Int)<=y.1))=(A.filter (λy=>decide (((i:Nat):Int)<=y.1))).filter (λy=>decide (((i+1:Nat):Int)<=y.1)):=by
   rw[List.filter_filter]
   refine List.filter_congr λy _=>?_
   rw[<-Bool.decide_and,decide_eq_decide];omega
  rw[this]
  exact(List.filter_sublist).map _
 simp(disch:=omega)only[↓wr,seval,wq,t8,t48]
 refine zg (kt:=3) (et:=103) (z:=.emp 1) (by kernel_rfl) (by kernel_rfl) (kU .i64 Tryz.underlying3) (id:=U) (c:=cA) (m:=A) (k:=(i:Int)) (by simp(disch:=omega)only[↓wr,seval,wq]) (by simp(disch:=omega)only[↓wr,seval,wq]) Q ?_
 simp(disch:=omega)only[↓wr,seval,wq]
 refine aw.dL ((My (DM (aU g i) e4) (by have:=se (g:=g) (l:=cl) (s:=aU g i);omega) _ H' e8).mono ?_)
 rintro r _ ⟨rfl,or,e9⟩
 have hG:=se (g:=g) (l:=cl) (s:=aU g i)
 have b8:=Gl (s:=aU g i) db
 have hq:cd r=some (bh g cl (aU g i)).length:=by rw[or.len,bE]
 simp(disch:=omega)only[↓wr,seval,wq,hq]
 apply ai.eq<;>intro he
 .have fb:bh g cl (aU g i)=[]:=VY.1 (by omega)
  simp(disch:=omega)only[↓wr,seval,wq,t1,t5,t6,t7,t8,t47,t48]
  exact aD hk (by omega) ⟨u,S,M,c,by rw[br,cU,Uz fb],P.sub (List.Sublist.cons_cons _ (cC.append_left _)),Q,w,G,t1,t5,t6,t7,t8,t47,rfl⟩
 have aq:bh g cl (aU g i)≠[]:=λe=>he (by rw[e];rfl)
 have ht:∃ v,getM A (i:Int)=some v:=by
  cases hg:getM A (i:Int) with
  | none=>exact absurd (bl i hg) aq
  | some v=>exact⟨v,rfl⟩
 obtain⟨v,hg⟩:=ht
 have dm:=e9 aq
 rw[hg] at dm
 simp only[UM] at dm
 obtain⟨b,ds⟩:=Hk hAnd hg
 have b9:(iX g cl (A.filter λy=>decide (((i:Nat):Int)<=y.1))).Perm ((r,2,aT (bh g cl (aU g i))) :: iX g cl (A.filter λy=>decide (((i+1:Nat):Int)<=y.1))):=by
  have:=ds.map (λx:Int × V × Nat=>((x.2.1,2,aT (bh g cl (aU g x.1.toNat))):dN))
  simp only[U2,U8] at this
  rw[dm];exact this
 have hv:=wU (S.map λx=>x.2.2) (bh g cl (aU g i))
 have hJ:=sH (S.map λx=>x.2.2) (bh g cl (aU g i))
 rw[UB] at hv
 have cc:=G (bh g cl (aU g i)) b8
 have ff:at_ < S.length:=by omega
 obtain⟨d,x,t,I,an,Z⟩:=vO ff
 have hK:x.2.2.b5.length<=40:=(iI.b5 at_ x.2.2 (by rw[Uy,Z];rfl)).1
 have bd:∀ B,(eQ (d ++ x :: B)).getD at_ []=[x.1,x.2.1]:=λB=>by simp[eQ,Uu,<-an]
 have fl:∀ (B:List pn) (c:fe),((d ++ x :: B).map λx=>x.2.2).modify at_ (λs=>(⟨s.bj,s.b5 ++ [c]⟩:aP))=(d ++ (x.1,x.2.1,(⟨x.2.2.bj,x.2.2.b5 ++ [c]⟩:aP)) :: B).map λx=>x.2.2:=λB c=>by
  rw[UT,U2,<-an,<-UB (f:=λx:pn=>x.2.2),Bx,UT,U2]
 simp(disch:=omega)only[↓wr,seval,wq,t1,t5,t6,t7,t8,af,encS]
 apply ai.dec<;>intro hz
 simp(disch:=omega)only[↓wr,seval,wq,t1,t5,t6,t7,t8,af,encS]
 have hs:aU g i=(g.au.length:Int) - 1 - i:=by unfold aU;rw[Ux (by omega)];omega
 generalize (g.au.length:Int) - 1 - (i:Int)=sv at hs ⊢
 rotate_left
 simp(disch:=omega)only[↓wr,seval,wq,t1,t5,t6,t7,t8,af,encS]
 have hs:aU g i=(i:Int):=by unfold aU;rw[Uz (by omega)]
 generalize ((i:Nat):Int)=sv at hs ⊢
 all_goals (
  refine aw.dL ((FX g N (bh g cl (aU g i)) b8 (by omega) r H' or).mono ?_)
  rintro rk H3 ⟨rfl,k3⟩
  have W:H3 q=.map (cn hD M) c:=by rw[k3 q (by rw[w];simp),w]
  have bs:H3 U=.map (cn (Value.int .i64) A) cA:=by rw[k3 U (by rw[Q];simp),Q]
  have o3:=P.stay k3
  have hB:aK H3 r 2 (aT (bh g cl (aU g i))):=or.keep λid C=>k3 id (by rw[(or.live C).1];simp)
  simp(disch:=omega)only[↓wr,seval,wq,t6]
  refine QK (kt:=9) (et:=3) (z:=gi 0) (by kernel_rfl) (by kernel_rfl) (HH Tryz.underlying9) (id:=q) (c:=c) (m:=M) (k:=fS (bh g cl (aU g i))) (by simp(disch:=omega)only[↓wr,seval,wq]) (by simp(disch:=omega)only[↓wr,seval,wq]) W ?_
  by_cases J:findD (S.map λx=>x.2.2) (bh g cl (aU g i)) < 0
  rw[Uz J] at cc
  rw[cc]
  simp only[Option.getD_none,Option.isSome_none]
  simp(disch:=omega)only[↓wr,seval,wq,t1,t5,t6,t7,t8,a6]
  refine aw.dL ((FX g N (bh g cl (aU g i)) b8 (by omega) r H3 hB).mono ?_)
  rintro hL H4 ⟨rfl,k4⟩
  have bx:H4 q=.map (cn hD M) c:=by rw[k4 q (by rw[W];simp),W]
  have cN:H4 U=.map (cn (Value.int .i64) A) cA:=by rw[k4 U (by rw[bs];simp),bs]
  have o4:=o3.stay k4
  simp(disch:=omega)only[↓wr,seval,wq,t6]
  refine uL (kt:=9) (et:=3) (by kernel_rfl) (HH Tryz.underlying9) (id:=q) (c:=c) (m:=M) (k:=fS (bh g cl (aU g i))) (v:=gi S.length) (by simp(disch:=omega)only[↓wr,seval,wq]) (by simp(disch:=omega)only[↓wr,seval,wq]) (by simp(disch:=omega)only[↓wr,seval,wq]) bx ?_
  intro L
  have R:qY g ((d ++ x :: (t ++ [(r,.emp 1,(⟨bh g cl (aU g i),[]⟩:aP))])).map λx=>x.2.2) (bL (fS (bh g cl (aU g i))) (gi S.length) c M):=by
   have:=qY.put N G b8 J c
   rw[UB] at this
   refine this.same ?_
   rw[I];simp
  have K:(H4.set q (.map (cn hD (bL (fS (bh g cl (aU g i))) (gi S.length) c M)) L)) q=.map (cn hD (bL (fS (bh g cl (aU g i))) (gi S.length) c M)) L:=by simp[View.set]
  have X:(H4.set q (.map (cn hD (bL (fS (bh g cl (aU g i))) (gi S.length) c M)) L)) U=.map (cn (Value.int .i64) A) cA:=by
   simp only[View.set];rw[Ux hd];exact cN
  have o5:=o4.BO bx (o:=.map (cn hD (bL (fS (bh g cl (aU g i))) (gi S.length) c M)) L)
  generalize H4.set q (.map (cn hD (bL (fS (bh g cl (aU g i))) (gi S.length) c M)) L)=H5 at K X o5 ⊢
  clear bx cN o4 k4
  generalize bL (fS (bh g cl (aU g i))) (gi S.length) c M=M2 at R K
  simp(disch:=omega)only[↓wr,seval,wq,t1,t5,t6,t7,t8,or.cells,or.er]
  intro q5 b0
  simp(disch:=omega)only[↓wr,seval,wq,bH]
  have ar:∀ b,H5 b≠.dead->b≠q5:=λb hb e=>hb (by rw[e];exact b0)
  refine cx (o5.fresh b0) (by simp[or.er,zp]) (by unfold aB;rw[cY];simp;omega) (by unfold aB;rw[cY];simp;omega) ?_
  intro u2 cf fm dv
  have j:=dv.map (o5.fresh (o:=.arr 2 [[r,.emp 1]]) b0).head (b:=q) (c:=L) (es:=cn hD M2) (by simp only[View.set];rw[Ux (ar q (by rw[K];simp)),K])
  have F:=dv.map (o5.fresh (o:=.arr 2 [[r,.emp 1]]) b0).head (b:=U) (c:=cA) (es:=cn (Value.int .i64) A) (by simp only[View.set];rw[Ux (ar U (by rw[X];simp)),X])
  have fs:=(fm.emp (k:=1) (sz:=2)).perm (SP b9)
  have a1:cU g cl at_ (S.map λx=>x.2.2) i=((d ++ x :: (t ++ [(r,.emp 1,(⟨bh g cl (aU g i),[]⟩:aP))])).map λx=>x.2.2).modify at_ (λs=>(⟨s.bj,s.b5 ++ [⟨aU g i,(S.length:Int)⟩]⟩:aP)):=by
   rw[cU,Ux aq,Uz J,UB]
   congr 1
   rw[I];simp
  have p:bc cf ((u2,2,eQ (d ++ x :: (t ++ [(r,.emp 1,(⟨bh g cl (aU g i),[]⟩:aP))]))) :: (lH (d ++ x :: (t ++ [(r,.emp 1,(⟨bh g cl (aU g i),[]⟩:aP))])) ++ iX g cl (A.filter λy=>decide (((i+1:Nat):Int)<=y.1)))):=by
   have e1:eQ (d ++ x :: (t ++ [(r,.emp 1,(⟨bh g cl (aU g i),[]⟩:aP))]))=eQ S ++ [[r,.emp 1]]:=by rw[I];simp[eQ]
   have e2:lH (d ++ x :: (t ++ [(r,.emp 1,(⟨bh g cl (aU g i),[]⟩:aP))]))=lH S ++ [(r,2,aT (bh g cl (aU g i))),(.emp 1,2,[])]:=by rw[I];simp[lH];rfl
   rw[e1,e2]
   exact fs
  have ea:(d ++ x :: (t ++ [(r,V.emp 1,(⟨bh g cl (aU g i),[]⟩:aP))])).length<=400:=by
   have:=congrArg List.length I
   simp at this ⊢;omega
  generalize (t ++ [(r,V.emp 1,(⟨bh g cl (aU g i),[]⟩:aP))])=B at a1 p R ea
  generalize (S.length:Int)=to at a1 ⊢
  clear fm fs dv K X o5 ar b0
  rotate_left
  rw[Ux J] at cc
  rw[cc]
  simp only[UM,Option.isSome_some]
  simp(disch:=omega)only[↓wr,seval,wq,t1,t5,t6,t7,t8]
  have a1:cU g cl at_ (S.map λx=>x.2.2) i=((d ++ x :: t).map λx=>x.2.2).modify at_ (λs=>(⟨s.bj,s.b5 ++ [⟨aU g i,findD (S.map λx=>x.2.2) (bh g cl (aU g i))⟩]⟩:aP)):=by
   rw[cU,Ux aq,Ux J,<-I]
  have p:=o3.sub (List.Sublist.cons_cons _ (cC.append_left _))
  have R:=G
  have ea:(d ++ x :: t).length<=400:=by rw[<-I];omega
  have j:=W
  have F:=bs
  generalize H3=cf at p j F ⊢
  generalize u=u2 at p t5 ⊢
  rw[I] at p R
  generalize findD (S.map λx=>x.2.2) (bh g cl (aU g i))=to at a1 ⊢
  generalize t=B at a1 p R ea
  generalize M=M2 at j R
  generalize c=L at j
  all_goals (
   obtain⟨id,hu,C⟩:=(show aK cf u2 2 (eQ (d ++ x :: B)) from p.head).sl (by rw[cY];simp;omega)
   rw[cY] at hu
   rw[zq] at p
   simp only[Vs,Va] at p
   simp(disch:=omega)only[↓wr,seval,wq,t1,t5,t6,t7,t8,hu,C,bd B]
   refine⟨by simp;omega,by rw[cY];simp;omega,?_⟩
   intro q2 O
   have ar:∀ b,cf b≠.dead->b≠q2:=λb hb e=>hb (by rw[e];exact O)
   simp(disch:=omega)only[↓wr,seval,wq,bH]
   refine cx ((p.perm Fg).fresh O) (by simp[aF]) (by unfold aB;simp[jG];omega) (by unfold aB;simp[jG];omega) ?_
   intro e2 ft ch fx
   have b1:=fx.map ((p.perm Fg).fresh (o:=.arr 2 [[gi sv,gi to]]) O).head (b:=q) (c:=L) (es:=cn hD M2) (by simp only[View.set];rw[Ux (ar q (by rw[j];simp)),j])
   have b2:=fx.map ((p.perm Fg).fresh (o:=.arr 2 [[gi sv,gi to]]) O).head (b:=U) (c:=cA) (es:=cn (Value.int .i64) A) (by simp only[View.set];rw[Ux (ar U (by rw[F];simp)),F])
   have cS:ft id=.arr 2 (eQ (d ++ x :: B)):=((ch.own 1 rfl).live (by rw[hu];rfl)).1
   simp(disch:=omega)only[↓wr,seval,wq,t1,t5,t6,t7,t8,t47,t48,hu,cS,bd B,ch.head.cells,ch.head.er]
   have fz:(eQ (d ++ x :: B)).set at_ [x.1,e2]=eQ (d ++ (x.1,e2,(⟨x.2.2.bj,x.2.2.b5 ++ [⟨aU g i,to⟩]⟩:aP)) :: B):=by
    rw[<-an];simp[eQ]
   have hC:jG (x.2.2.b5 ++ [⟨aU g i,to⟩])=jG x.2.2.b5 ++ [[gi sv,gi to]]:=by rw[hs];simp[jG,ki]
   have gd:=ch.perm (.swap _ _ _)
   rw[hu] at gd
   have eb:=((gd.put (es':=eQ (d ++ (x.1,e2,(⟨x.2.2.bj,x.2.2.b5 ++ [⟨aU g i,to⟩]⟩:aP)) :: B)) (by rw[cY,cY];simp) (by rw[cY])).perm (.swap _ _ _)).perm Fg.symm
   rw[<-hC] at eb
   rw[<-hu] at eb
   rw[fz]
   have cV:∀ b c es,ft b=.map es c->b≠id:=λb c es hb e=>by rw[e,cS] at hb;simp at hb
   refine⟨by simp;omega,by rw[cY];simp;omega,aD hk (by omega) ⟨u2,_,M2,L,?_,by rw[zq];simp only[Vs,Va];exact eb,?_,?_,?_,t1,by first | rfl | exact t5 | exact hu.symm,t6,t7,t8,t47,rfl⟩⟩
   .rw[br,a1,fl];simp
   .simp only[View.set];rw[Ux (cV U _ _ b2)];exact b2
   .simp only[View.set];rw[Ux (cV q _ _ b1)];exact b1
   .refine R.same ?_
    simp))
abbrev qx (g:ag) (a:List aP) (q:Nat) (us uf:V):List V:=[V.aQ (g.au.map cP),.aQ (g.aj.map λs=>[gs s]),.aQ (g.rules.map aI),gi g.start,bM a,.mp q,us,uf]
def td (H:View) (u:V) (l:List Int):Prop:=u=encI l∨∃ n x d,u=.sl n d l.length 1/\H n=.arr 1 [[gi x]]/\d<=1/\l=[x].drop d
theorem td.jR {H:View} {u:V} {l:List Int} (h:td H u l):cm H u (encI l):=by
 rcases h with rfl | ⟨n,x,d,rfl,c,f,a⟩
 .exact .tree (bQ l)
 .have g:l.length=1 - d:=by rw[a];simp
  have:=cm.sl (off:=d) (len:=l.length) (esz:=1) c (by simp;omega) (by intro e he v b;simp at he;subst he;simp at b;subst b;exact .val _)
  rw[show (List.drop d [[gi x]]).take l.length=bt l by
   rw[a]
   match d,f with
   | 0,_=>rfl
   | 1,_=>rfl] at this
  exact this
theorem td.keep {H H':View} {u:V} {l:List Int} (h:td H u l) (hk:∀ id,H id≠.dead->H' id=H id):td H' u l:=by
 rcases h with rfl | ⟨n,x,d,h1,a,b,c⟩
 .exact .inl rfl
 .exact .inr ⟨n,x,d,h1,by rw[hk n (by rw[a];simp)];exact a,b,c⟩
def nV:SF:=⟨ae [ab [cw 3 1,bI 4 1],ae [ab [al 5 0 3,ak 6 5,aG 7 .lss 6 0],ba 7 (ae [ab [aa 8 0,kN 9 8,al 10 0 9,al 11 3 10,ak 12 11,((some 13),.op (.arith .sub (.val (.val (.int .i64 (-1)))) (.tmp 12))),((some 14),.op (.bP 1 1 [(.val (.int .i64 0))] [(0,(.tmp 13))])),al 15 1 3,ak 16 15,((some 17),.op (.slice 1 (.tmp 14) (some (.tmp 16)) none)),aa 4 17],.ret])],ab [aa 18 0,kN 19 18,al 20 0 19,al 21 2 20,ak 22 21,al 23 0 3,ak 24 23,aO 25 3 22 24,al 26 1 25,ak 27 26,al 28 1 3,ak 29 28,((some 30),.op (.slice 1 (.tmp 27) (some (.tmp 29)) none)),aa 4 30],.ret],
 [.tmp 4],31⟩
theorem sP:aH Tryz.prog 127 [3]=some nV:=by kernel_rfl
def nW:SF:=⟨ae [ab [cw 3 1],ae [.y6 (212,7,9) [] [⟨none,[aa 4 0,kN 5 4,al 6 5 5,ak 7 6,al 8 0 3,aS 9 3 8,((some 10),.op (.old (.lookup 212 (.tmp 7) (.tmp 9) false) 3)),aG 11 .add 10 1,((some 12),.op (.old (.mapEntry 212 (.tmp 7) (.tmp 9)) 0)),du 13 1 12,(none,.op (.old (.entryStore 212 (.tmp 7) (.tmp 13) (.tmp 11)) 0))]⟩],ab [aa 14 0,kN 15 14,al 16 5 15,ak 17 16,al 18 0 3,aS 19 3 18,((some 20),.op (.old (.lookup 212 (.tmp 17) (.tmp 19) false) 3)),aG 21 .gtr 20 1],ba 21 (.ret)],ae [ab [aa 22 0,kN 23 22,al 24 7 23,ak 25 24,al 26 0 3,al 27 0 26,ak 28 27,aO 29 1 25 28,ak 30 29,aG 31 .lss 30 0],ba 31 (ab [aa 32 0,kN 33 32,al 34 7 33,ak 35 34,al 36 0 3,al 37 0 36,ak 38 37,aa 39 0,kN 40 39,al 41 6 40,ak 42 41,aM 43 42,aO 44 1 35 38,cg 1 44 43])],ab [aa 45 0,aa 46 0,kN 47 46,al 48 6 47,ak 49 48,aS 50 5 3,((some 51),.op (.bP 1 5 [(.val (.int .i64 0)),(.val (.int .i64 0)),(.val (.int .i64 0)),(.emp 1),(.emp 1)] [(0,(.tmp 50))])),fk 52 5 72 49 51,kN 53 45,al 54 6 53,cg 1 54 52]],
 [],55⟩
theorem sR:aH Tryz.prog 125 [3,100000]=some nW:=by kernel_rfl
theorem Iw (g:ag) (o:bO (-1 - g.start)) (a:List aP) (q:Nat) (us p:V) (b:Nat) (H:View) (j:H b=.arr 8 [qx g a q us p]) (x:aE) (s:cq g x) :
  av Tryz.prog 127 [.ptr b 0 0,.agg (bA x)] H λr H'=>td H' r (dd g x)/\b3 H H' r:=by
 obtain⟨⟨v,w⟩,y,c⟩:=s
 unfold bO at o
 refine av.of mixed sP ?_
 simp(disch:=omega)only[↓wr,seval,wq,nV,bA]
 obtain⟨d,f⟩:∃ d:Nat,x.dot=d:=⟨x.dot.toNat,by omega⟩
 unfold dd
 unfold bG at c ⊢
 rw[f] at c ⊢
 rw[U8]
 apply ai.dec<;>intro h1
 .rw[Uz (by omega)] at c ⊢
  simp at c
  simp(disch:=omega)only[↓wr,seval,wq,bA,j,f]
  intro n t
  simp(disch:=omega)only[↓wr,seval,wq,bA,f,oo (sz:=1) (id:=n) (off:=0) (k:=1) (m:=d) (by omega)]
  refine⟨.inr ⟨n,-1 - g.start,d,?_,by simp[View.set],by omega,rfl⟩,λid h=>?_⟩
  .simp
  .have e:¬ id=n:=by rintro rfl;exact h t
   exact⟨by simp[View.set,e],by simp[owner,Ne.symm e]⟩
 .rw[Ux (by omega)] at c ⊢
  have u:g.rules[x.ax.toNat]?=some (bN g x.ax):=by unfold bN;exact getD_some (by omega)
  have i:=rG (l:=(bN g x.ax).right) (k:=d) (by omega)
  simp(disch:=omega)only[↓wr,seval,wq,bA,j,f,aI,encI,Uy,u,UH,i]
  exact⟨.inl rfl,λ_ _=>⟨rfl,by simp[owner]⟩⟩
def Fl (m:cB vM) (l:List bB) (B:Nat):Prop:=∀ k:vM,∃ n:Nat,(getM m k).getD (gi 0)=gi n/\n<=B/\(n=0↔∀ x∈l,ir x≠k)
def eE (a:List aP) (l:List bB):List Int:=(List.range a.length).map λ(i:Nat)=>fU l i 0
structure Ua (H:View) (b:Nat) (g:ag) (a:List aP) (l:List bB) (B:Nat) (q:Nat) (us uf:V) (S:List dU) (m:cB vM) (c:Nat) (K:List dN):Prop where
 own:bc H ((us,5,S.map dc) :: (uf,1,bt (eE a l)) :: (.sl b 0 1 8,8,[qx g a q us uf]) :: K)
 map:H q=.map (cT sM m) c
 born:k6 m c
 seen:Fl m l B
 is:S.map dU.n=l
 ok:∀ y∈S,y.Ok
def eT (H:View) (b:Nat) (g:ag) (a:List aP) (l:List bB) (B:Nat) (K:List dN):Prop:=∃ q us uf S m c,Ua H b g a l B q us uf S m c K
theorem wu (i:Int):∀ (l:List bB) (n:Nat),fU l i n < 0->fU l i n = -1
 | [],_,_=>rfl
 | x :: l,n,h=>by
  rw[fU] at h ⊢
  split
  .rename_i e;rw[Uz e] at h;omega
  .rename_i e;rw[Ux e] at h;exact wu i l (n+1) h
theorem Ef (i:Int):∀ (l:List bB) (n:Nat),fU l i n < (n+l.length:Nat)
 | [],n=>by rw[fU];omega
 | x :: l,n=>by
  rw[fU]
  split
  .simp only[UE];omega
  .have:=Ef i l (n+1)
   simp only[UE];omega
theorem Gy {l:List bB} {x:bB} : l.any (iv x)=true↔∃ y∈l,ir y=ir x:=by
 rw[VV]
 refine⟨λ⟨y,a,h⟩=>⟨y,a,?_⟩,λ⟨y,a,h⟩=>⟨y,a,?_⟩⟩
 .rw[<-EA,Vr] at h;exact h.symm
 .rw[<-EA,Vr];exact h.symm
theorem Fl.put {m:cB vM} {l:List bB} {B c c0:Nat} (h:Fl m l B) (x:bB) {n:Nat} (g:(getM m (ir x)).getD (gi 0)=gi n) (v:V):Fl (bL (ir x) (gi (n+1:Nat)) c0 (bL (ir x) v c m)) (gY l x) (B+1):=by
 intro k
 obtain⟨j,h1,p,i⟩:=h k
 rw[pI]
 have hm:∀ z,z∈gY l x↔z∈l∨(z=x/\l.any (iv x)=false):=λz=>by
  unfold gY
  split
  .rename_i e;rw[e];simp
  .rename_i e;simp only[Bool.not_eq_true] at e;rw[e];simp
 by_cases e:k=ir x
 .subst e
  refine⟨n+1,by simp,?_,⟨λe=>by omega,λe=>?_⟩⟩
  .rw[g] at h1
   simp at h1
   omega
  .exfalso
   by_cases d:l.any (iv x)=true
   .obtain⟨y,o,hk⟩:=Gy.1 d
    exact e y ((hm y).2 (.inl o)) hk
   .exact e x ((hm x).2 (.inr ⟨rfl,by simpa using d⟩)) rfl
 .have f:(k == ir x)=false:=by simpa using e
  refine⟨j,?_,by omega,i.trans ⟨λb z a=>?_,λb z a=>b z ((hm z).2 (.inl a))⟩⟩
  .rw[f]
   simp only[UX,if_false]
   rw[pI,f]
   simpa using h1
  .rcases (hm z).1 a with a | ⟨rfl,_⟩
   .exact b z a
   .exact Ne.symm e
theorem LH {a:List aP} {l:List bB} {x:bB} : eE a (l ++ [x])=if fU l x.st 0 < 0 then (eE a l).set x.st l.length else eE a l:=by
 unfold eE
 apply List.ext_getElem?
 intro i
 rw[Uy]
 by_cases hi:i < a.length
 .rw[VI hi,UH,BL,Vm]
  split
  .rename_i b
   by_cases e:x.st=i
   .subst e
    rw[Uz rfl,Uz b,List.getElem?_set_self (by simpa using hi)]
   .rw[Ux (by omega)]
    split
    .rw[List.getElem?_set_ne e,Uy,VI hi,UH,wu _ _ _ b]
    .rw[Uy,VI hi,UH,wu _ _ _ b]
  .rename_i c
   split
   .rename_i d
    have e:x.st≠i:=by rintro rfl;exact c d
    rw[List.getElem?_set_ne e,Uy,VI hi,UH]
   .rw[Uy,VI hi,UH]
 .rw[U6 (by simpa using hi)]
  split
  .rw[U6 (by simpa using hi)];rfl
  .rw[U6 (by simpa using hi)];rfl
theorem N6 {H:View} {L:List dN} (h:bc H L) {q c:Nat} {es:List (V × V × Nat)} (a:H q=.map es c) {n k sz:Nat} {xs:List (List V)} (hm:(.sl n 0 k sz,sz,xs)∈L):n≠q:=by
 rintro rfl
 exact h.Fi a _ hm rfl
theorem CN (g:ag) (a:List aP) (b:Nat) (l:List bB) (B:Nat) (hB:B < 1000000000000) (hl:l.length<=90000) (x:dU) (hx:x.Ok) (an:x.n.st < a.length) (K:List dN) (H:View) (hW:eT H b g a l B K) :
  av Tryz.prog 125 [.ptr b 0 0,.agg (dc x)] H λ_ H'=>eT H' b g a (gY l x.n) (B+1) K:=by
 obtain⟨q,us,uf,S,m,c,w⟩:=hW
 have D:ez Tryz.prog 212=some (218,3):=by kernel_rfl
 have hz:zeroV Tryz.prog 3=some (gi 0):=by kernel_rfl
 have j:=PF
 have O:=Mz hx
 obtain⟨⟨P,aq,_⟩,⟨Q,ar,_⟩⟩:=And.intro hx.a.er hx.b.er
 simp only[dc] at O
 obtain⟨n,d,bn,a1⟩:=w.seen (ir x.n)
 have hb:=w.own.is 2 rfl (by simp)
 have R:=w.map
 have T:¬ b=q:=λe=>by rw[e,R] at hb;simp at hb
 refine av.of mixed sR ?_
 simp(disch:=omega)only[↓wr,seval,wq,nW,dc,P,aq,Q,ar,hb]
 refine QD (kv:=sM) (kt:=218) (et:=3) (z:=gi 0) D hz j (id:=q) (c:=c) (m:=m) (k:=ir x.n) (by first | rfl | simp(disch:=omega)only[↓wr,seval,wq]) (by first | rfl | (simp(disch:=omega)only[↓wr,seval,wq];rfl)) R ?_
 rw[d]
 simp(disch:=omega)only[↓wr,seval,wq]
 refine Sr (kv:=sM) (kt:=218) (et:=3) (z:=gi 0) D hz j (id:=q) (c:=c) (m:=m) (k:=ir x.n) (by first | rfl | simp(disch:=omega)only[↓wr,seval,wq]) (by first | rfl | (simp(disch:=omega)only[↓wr,seval,wq];rfl)) R w.born λb1 p J L=>?_
 rw[d] at J L ⊢
 simp(disch:=omega)only[↓wr,seval,wq]
 have ek:V.val (.int .i64 ((n:Int)+1))=gi (n+1:Nat):=by simp
 refine Sw (kv:=sM) (id:=q) (c:=p) (b:=b1) (m:=bL (ir x.n) (gi n) c m) (k:=ir x.n) (v:=gi (n+1:Nat)) (by first | rfl | simp(disch:=omega)only[↓wr,seval,wq]) (by first | rfl | simp(disch:=omega)only[↓wr,seval,wq]) (by first | exact ek | (simp(disch:=omega)only[↓wr,seval,wq];exact ek)) (by simp[View.set]) J L λc0=>?_
 simp(disch:=omega)only[↓wr,seval,wq]
 refine⟨TK (kv:=sM) (k:=ir x.n) D hz j R w.born,?_⟩
 rw[set_set]
 have r:=w.seen.put (c:=c) (c0:=c0) x.n d (gi n)
 have M:=J.RO L (gi (n+1:Nat)) c0
 have G:getM (bL (ir x.n) (gi (n+1:Nat)) c0 (bL (ir x.n) (gi n) c m)) (ir x.n)=some (gi (n+1:Nat)):=by rw[pI];simp
 generalize bL (ir x.n) (gi (n+1:Nat)) c0 (bL (ir x.n) (gi n) c m)=m2 at r M G ⊢
 have s:=w.own.BO R (o:=.map (cT sM m2) p)
 have i:(H.set q (.map (cT sM m2) p)) q=.map (cT sM m2) p:=by simp[View.set]
 generalize View.set H q (.map (cT sM m2) p)=H2 at s i ⊢
 have E:=s.is 2 rfl (by simp)
 simp only[Ux T,hb]
 simp(disch:=omega)only[↓wr,seval,wq,E]
 refine QD (kv:=sM) (kt:=218) (et:=3) (z:=gi 0) D hz j (id:=q) (c:=p) (m:=m2) (k:=ir x.n) (by first | rfl | simp(disch:=omega)only[↓wr,seval,wq]) (by first | rfl | (simp(disch:=omega)only[↓wr,seval,wq];rfl)) i ?_
 rw[G,UM]
 simp(disch:=omega)only[↓wr,seval,wq]
 have I:l.any (iv x.n)=true↔¬ n=0:=by
  rw[Gy,a1]
  constructor
  .rintro⟨y,C,e⟩ h;exact h y C e
  .intro h
   refine VH λU=>h λy C e=>U ⟨y,C,e⟩
 apply ai.dec<;>intro h1
 .simp(disch:=omega)only[↓wr,seval,wq]
  have t:gY l x.n=l:=Uz (I.2 (by omega))
  rw[t] at r ⊢
  exact⟨q,us,uf,S,m2,p,s,i,M,r,w.is,w.ok⟩
 have t:gY l x.n=l ++ [x.n]:=Ux (λe=>by have:=I.1 e;omega)
 rw[t] at r ⊢
 have hlen:S.length=l.length:=by rw[<-w.is,UB]
 have u:(eE a l).length=a.length:=by simp[eE]
 obtain⟨N,W,hF⟩:=(s.own 1 rfl).sl (by simp[u];omega)
 rw[UB,u] at W
 subst W
 have X:(bt (eE a l)).getD x.n.st []=[gi (fU l x.n.st 0)]:=by
  rw[bt,Uu,Uy,eE,Uy,VI an];rfl
 have br:=Ef x.n.st l 0
 have f:=LH (a:=a) (l:=l) (x:=x.n)
 simp(disch:=omega)only[↓wr,seval,wq,E,hF,X,dc]
 refine⟨by omega,by simp[u];omega,?_⟩
 have a6:cd us=some S.length:=by rw[(s.own 0 rfl).len,UB]
 apply ai.dec<;>intro U
 focus
  rw[Uz U] at f
  simp(disch:=omega)only[↓wr,seval,wq,E,hF,X,dc,a6]
  refine⟨by omega,by simp[u];omega,?_⟩
  have Y:¬ b=N:=s.J3 2 1 rfl rfl (by decide)
  have F:=((s.at 1 (by simp)).put (es':=bt ((eE a l).set x.n.st l.length)) (by simp) (by simp[u]))
  rw[<-f] at F
  have A:(H2.set N (.arr 1 (bt (eE a (l ++ [x.n]))))) q=.map (cT sM m2) p:=by
   have:=N6 s i (UP _ (V7 ..))
   simp[View.set,Ne.symm this,i]
  rw[hlen,show (bt (eE a l)).set x.n.st [gi (l.length:Int)]=bt (eE a (l ++ [x.n])) by rw[f];exact List.map_set.symm]
  simp only[List.getElem_cons_succ,List.getElem_cons_zero,Vb,Vc] at F
  generalize View.set H2 N (.arr 1 (bt (eE a (l ++ [x.n]))))=H3 at F A ⊢
  replace F:=F.perm (.swap _ _ _)
  simp only[Ux Y,E]
 rotate_left
 focus
  rw[Ux U] at f
  simp(disch:=omega)only[↓wr,seval,wq]
  rw[<-f] at s
  have F:=s
  have A:=i
  clear s i
  generalize H2=H3 at F A ⊢
 all_goals (
  have Z:=F.is 2 rfl (by simp)
  simp(disch:=omega)only[↓wr,seval,wq,Z,dc,P,Q]
  intro n1 d
  have bs:¬ b=n1:=by rintro rfl;rw[Z] at d;simp at d
  have a7:¬ q=n1:=by rintro rfl;rw[A] at d;simp at d
  have o4:=F.fresh (o:=.arr 5 [[gi x.n.st,gi x.n.it.ax,gi x.n.it.dot,x.a,x.b]]) d
  simp(disch:=omega)only[↓wr,seval,wq,bH]
  refine cx o4 O (by unfold aB;simp;omega) (by unfold aB;simp;omega) ?_
  intro u5 H5 o5 l5
  have a8:=o5.is 2 rfl (by simp)
  have bd:H5 q=.map (cT sM m2) p:=l5.map (o4.own 0 rfl) (by simp[View.set,a7,A])
  have cu:=(o5.own 0 rfl).cells
  have ku:=(o5.own 0 rfl).er
  simp(disch:=omega)only[↓wr,seval,wq,a8,cu,ku]
  have o6:=((o5.at 2 (by simp)).put (es':=[qx g a q u5 (.sl N 0 a.length 1)]) rfl rfl)
  have bl:(H5.set b (.arr 8 [qx g a q u5 (.sl N 0 a.length 1)])) q=.map (cT sM m2) p:=by
   simp[View.set,Ne.symm T,bd]
  simp only[List.getElem_cons_succ,List.getElem_cons_zero,Vb,Vc] at o6
  refine⟨q,u5,.sl N 0 a.length 1,S ++ [x],m2,p,?_,bl,M,r,by rw[UT,w.is];rfl,λy C=>?_⟩
  .rw[UT]
   exact o6.perm (List.Perm.trans (.swap _ _ _) (.cons _ (.swap _ _ _)))
  .rcases UR.1 C with C | C
   .exact w.ok y C
   .simp at C;subst C;exact hx)
theorem cm.two {H:View} {q:Nat} {v1 v2 t1 t2:V} (b:H q=.arr 1 [[v1],[v2]]) (h1:cm H v1 t1) (c:cm H v2 t2):cm H (.sl q 0 2 1) (.aQ [[t1],[t2]]):=by
 rintro h rfl
 refine .sl q 0 2 1 1 [[v1],[v2]] [[t1],[t2]] b (by simp) rfl (λi hi=>?_) (λi j hi a=>?_)
 .match i,hi with
  | 0,_=>rfl
  | 1,_=>rfl
 .match i,hi with
  | 0,_ =>
   have:j=0:=by simp at a;omega
   subst this
   exact h1 h rfl
  | 1,_ =>
   have:j=0:=by simp at a;omega
   subst this
   exact c h rfl
theorem ry (x y:List Int) (a:x.length+y.length<=1000000):b6 Tryz.prog 68 [.aQ [[encI x],[encI y]]] (encI (x ++ y)):=by
 have:=OS [x,y] (by simp;omega) (by simp)
 simpa using this
theorem dT.QI {g:ag} {a:List aP} (b:dT g a) (d:a.length<=300):∀ s∈a,aL s.b5/\∀ e∈s.b5,bO e.sym/\bO e.to:=λs c=>⟨by have:=b.ok.b5 s c;unfold aL;omega,λe he=>by
 have h1:=b.ok.sym s c e he
 have f:=b.ok.to s c e he
 unfold bO;omega⟩
theorem eT.up {H:View} {b:Nat} {g:ag} {a:List aP} {l:List bB} {B B':Nat} {K:List dN} (h:eT H b g a l B K) (f:B<=B'):eT H b g a l B' K:=by
 obtain⟨q,us,d,S,m,c,w⟩:=h
 exact⟨q,us,d,S,m,c,w.own,w.map,w.born,λk=>by
  obtain⟨n,h1,i,e⟩:=w.seen k
  exact⟨n,h1,by omega,e⟩,w.is,w.ok⟩
theorem eT.fresh {H:View} {b:Nat} {g:ag} {a:List aP} {l:List bB} {B:Nat} {K:List dN} (h:eT H b g a l B K) {n:Nat} (d:H n=.dead) {o:dB} : eT (H.set n o) b g a l B K:=by
 obtain⟨q,us,e,S,m,c,w⟩:=h
 refine⟨q,us,e,S,m,c,w.own.fresh d,?_,w.born,w.seen,w.is,w.ok⟩
 have:¬ q=n:=by rintro rfl;have:=w.map;rw[d] at this;simp at this
 simp[View.set,this,w.map]
theorem eT.stay {H H':View} {b:Nat} {g:ag} {a:List aP} {l:List bB} {B:Nat} {K:List dN} (h:eT H b g a l B K) (hk:∀ id,H id≠.dead->H' id=H id):eT H' b g a l B K:=by
 obtain⟨q,us,d,S,m,c,w⟩:=h
 exact⟨q,us,d,S,m,c,w.own.stay hk,by rw[hk q (by rw[w.map];simp)];exact w.map,w.born,w.seen,w.is,w.ok⟩
theorem Cv {α:Type} {x y z e:α} {K:List α} : (x :: y :: z :: e :: K).Perm (e :: x :: y :: z :: K):=Wj (l₁:=[x,y,z])
theorem eT.drop {H:View} {b:Nat} {g:ag} {a:List aP} {l:List bB} {B:Nat} {e:dN} {K:List dN} (h:eT H b g a l B (e :: K)):eT H b g a l B K:=by
 obtain⟨q,us,d,S,m,c,w⟩:=h
 exact⟨q,us,d,S,m,c,(w.own.perm Cv).tail,w.map,w.born,w.seen,w.is,w.ok⟩
theorem eT.add {H:View} {b:Nat} {g:ag} {a:List aP} {l:List bB} {B:Nat} {K:List dN} (h:eT H b g a l B K) {H':View} {u:V} {sz:Nat} {es:List (List V)} (e:aK H' u sz es) (d:b3 H H' u):eT H' b g a l B ((u,sz,es) :: K):=by
 obtain⟨q,us,f,S,m,c,w⟩:=h
 exact⟨q,us,f,S,m,c,(w.own.Af e d).perm Cv.symm,by rw[(d q (by rw[w.map];simp)).1];exact w.map,w.born,w.seen,w.is,w.ok⟩
theorem eT.box {H:View} {b:Nat} {g:ag} {a:List aP} {l:List bB} {B:Nat} {K:List dN} (h:eT H b g a l B K):∃ q us d,H b=.arr 8 [qx g a q us d]:=by
 obtain⟨q,us,d,S,m,c,w⟩:=h
 exact⟨q,us,d,w.own.is 2 rfl (by simp)⟩
def lG:SC :=
 ae [ab [aR 66 .lss 65 64],bX 66 (.exit 0),.block 1 (ae [ab [aa 67 65,aO 68 3 63 65,aS 69 3 68,((some 10),.op (.alloc [(.val (.int .i64 0)),(.emp 1),(.val (.int .i64 0))])),aa 9 67,cg 3 10 69],ab [al 70 0 10,ak 71 70,aa 72 5,((some 73),.op (.arith .sub (.val (.val (.int .i64 (-1)))) (.tmp 72))),aR 74 .eql 71 73],ba 74 (ab [aa 75 0,al 76 0 3,al 77 0 76,ak 78 77,aa 79 9,((some 80),.op (.build [(.val (.int .i64 0)),(.val (.int .i64 0))] [(0,1,(.tmp 79))])),((some 81),.op (.build [(.val (.int .i64 0)),(.val (.int .i64 0)),(.val (.int .i64 0))] [(0,1,(.tmp 78)),(1,2,(.tmp 80))])),al 82 3 3,ak 83 82,aa 84 4,((some 85),.op (.slice 1 (.tmp 84) (some (.val (.val (.int .i64 1)))) none)),al 86 4 3,ak 87 86,((some 88),.op (.bP 2 1 [(.emp 1)] [(0,(.tmp 85)),(1,(.tmp 87))])),((some 89),.oG (.val (.fn 68 [] [])) [(.tmp 88)]),((some 90),.op (.build [(.val (.int .i64 0)),(.val (.int .i64 0)),(.val (.int .i64 0)),(.emp 1),(.emp 1)] [(0,3,(.tmp 81)),(3,1,(.tmp 83)),(4,1,(.tmp 89))])),aX 91 125 [75,90]])]),ab [aG 92 .add 65 1,aa 65 92]]
def mT:SF:=⟨ae [ab [cw 3 1],ab [aa 11 0,al 12 0 3,al 13 1 12,aS 14 2 13,aX 15 127 [11,14],aa 4 15],ae [ab [aa 16 4,aM 17 16,aG 18 .eql 17 0],ba 18 (.ret)],ab [aa 19 4,((some 20),.op (.idx 1 (.tmp 19) (.val (.val (.int .i64 0))))),ak 21 20,aa 5 21],ab [aa 23 0,kN 24 23,al 25 4 24,ak 26 25,al 27 0 3,al 28 0 27,ak 29 28,aa 30 4,((some 31),.op (.slice 1 (.tmp 30) none (some (.val (.val (.int .i64 1)))))),aX 32 193 [26,29,31],aa 22 32,du 33 0 22,du 34 1 22,aa 6 33,aa 7 34],ab [al 35 0 3,al 36 1 35,al 37 0 36,ak 38 37,al 39 0 3,al 40 1 39,al 41 1 40,ak 42 41,aG 43 .add 42 1,((some 44),.op (.build [(.val (.int .i64 0)),(.val (.int .i64 0))] [(0,1,(.tmp 38)),(1,1,(.tmp 43))])),((some 8),.op (.alloc [(.val (.int .i64 0)),(.val (.int .i64 0))])),cg 2 8 44],ab [aa 45 0,aa 46 6,aS 47 2 8,((some 48),.op (.build [(.val (.int .i64 0)),(.val (.int .i64 0)),(.val (.int .i64 0))] [(0,1,(.tmp 46)),(1,2,(.tmp 47))])),al 49 3 3,ak 50 49,aa 51 4,((some 52),.op (.slice 1 (.tmp 51) none (some (.val (.val (.int .i64 1)))))),((some 53),.op (.bP 2 1 [(.emp 1)] [(0,(.tmp 50)),(1,(.tmp 52))])),((some 54),.oG (.val (.fn 68 [] [])) [(.tmp 53)]),al 55 4 3,ak 56 55,((some 57),.op (.build [(.val (.int .i64 0)),(.val (.int .i64 0)),(.val (.int .i64 0)),(.emp 1),(.emp 1)] [(0,3,(.tmp 48)),(3,1,(.tmp 54)),(4,1,(.tmp 56))])),aX 58 125 [45,57]],ab [aa 59 0,kN 60 59,al 61 0 60,al 62 2 61,ak 63 62,aM 64 63,aN 65 0],bY 0 lG],
 [],93⟩
theorem si:aH Tryz.prog 126 [3,200054,200089]=some mT:=by kernel_rfl
theorem Pl (g:ag) (hg:g.Ok) (a:List aP) (D:dT g a) (h3:a.length<=300) (b:Nat) (l:List bB) (hl:iN g a l) (s:dU) (hs:s.Ok) (i:Nat) (hi:l[i]?=some s.n) (B:Nat) (hB:B < 100000000) (K:List dN) (H:View) (hW:eT H b g a l B K) :
  av Tryz.prog 126 [.ptr b 0 0,.agg (dc s)] H λ_ H'=>eT H' b g a (fu g a l s.n) (B+41) K:=by
 have U:=D.gU
 have hT:=U.au;have hN:=U.aj;have da:=U.rules
 have f:=hl.nd s.n (UL hi)
 have A:=D.has f.lt f.it
 have dm:=hl.len i s.n hi
 have ds:=(UI.1 hi).1
 have dv:=hl.short D h3
 have ea:=f.small D
 have db:=iY U
 have b8:=A
 obtain⟨⟨eb,ee⟩,eg,ei⟩:=b8
 obtain⟨⟨E,F,ek⟩,⟨W,X,eH⟩⟩:=And.intro hs.a.er hs.b.er
 obtain⟨q,us,uf,hb⟩:=hW.box
 have p:=Iw g (by unfold bO;omega) a q us uf b H hb s.n.it A
 simp only[bA] at p
 have G:aL a:=by unfold aL;omega
 refine av.of mixed si ?_
 simp(disch:=omega)only[↓wr,seval,wq,mT,dc,E,F,W,X]
 refine aw.dL (p.mono ?_)
 clear p
 rintro u H1 ⟨hu,Y⟩
 have a7:cd u=some (dd g s.n.it).length:=by
  rcases hu with rfl | ⟨n,x,d,rfl,_⟩
  .simp[encI,cd]
  .rfl
 have a8:(dd g s.n.it).length=(bG g s.n.it.ax).length - s.n.it.dot.toNat:=by unfold dd;simp
 simp(disch:=omega)only[↓wr,seval,wq,a7]
 apply ai.eq<;>intro he
 .simp(disch:=omega)only[↓wr,seval,wq]
  have J:(bw g s.n.it).2=false:=by
   unfold bw
   rw[Uz (by omega)]
  have:fu g a l s.n=l:=by
   unfold fu
   rw[Ux (by rw[J];simp)]
  rw[this]
  exact(hW.stay λid Z=>(Y id Z).1).up (by omega)
 obtain⟨y,J⟩:∃ y,bw g s.n.it=(y,true):=by
  unfold bw
  rw[Ux (by omega)]
  exact⟨_,rfl⟩
 obtain⟨f1,f2⟩:=nt A J
 have b9:fu g a l s.n=jd g s.n y g.rules.length (gY l ⟨ia a s.n.st y,⟨s.n.it.ax,s.n.it.dot+1⟩,s.n.ah ++ [y],s.n.be⟩):=by
  unfold fu
  rw[J,Uz rfl]
 rw[b9]
 rw[f1] at hu a7 a8
 obtain⟨s1,s2,s3,s4⟩:=D.step f.lt f.it J
 obtain⟨_,_,_,_,_,cc⟩:=D.ia s1
 have an:dI g y=true:=sg U A J
 have cf : -100<=y/\y<=100:=by
  unfold dI at an
  split at an <;> simp at an <;> omega
 have dj:(fX g s.n.it).length<=6:=by
  have:=dD U (r:=s.n.it.ax) ⟨by omega,by omega⟩
  simp only[UE] at a8
  omega
 obtain⟨m1,m2,m3⟩:=BI D hl (f.move D J) (by simp only[UY,UE,UU];omega) (by simp only;omega)
 have hle:l.length<=(gY l ⟨ia a s.n.st y,⟨s.n.it.ax,s.n.it.dot+1⟩,s.n.ah ++ [y],s.n.be⟩).length:=by obtain⟨t,ht⟩:=m2;rw[ht];simp
 have ch:=λk hk=>Cy D f J k _ hk m1 (by omega) (by omega)
 have aq:=Pf a G (D.QI h3) s.n.st [y] (by unfold aL;simp)
 rw[cc] at aq
 have L:=ry s.n.ah [y] (by simp;omega)
 have M:=ry (fX g s.n.it) s.n.be (by omega)
 generalize bd:fX g s.n.it=rs at *
 have ar:∃ N O P,(u=encI (y :: rs)∨∃ n,u=.sl n 0 1 1/\H1 n=.arr 1 [[gi y]])/\cJ 1 u none (some (gi 1))=some (O,.none,[])/\cJ 1 u (some (gi 1)) none=some (P,.none,[])/\aF O=true/\V.cells O=[O]/\aF P=true/\V.cells P=[P] /\
   (∀ H' e1 e2 e3,bc H' (e1 :: e2 :: e3 :: N)->cm H' O (encI [y])/\cm H' P (encI rs))/\(∀ H' l B,eT H' b g a l B N->eT H' b g a l B K)/\eT H1 b g a l B N:=by
  rcases hu with rfl | ⟨n,x,d,rfl,h2,h4,h5⟩
  .refine⟨K,encI [y],encI rs,.inl rfl,?_,?_,rfl,rfl,rfl,rfl,λH' _ _ _ _=>⟨.tree (bQ _),.tree (bQ _)⟩,λ_ _ _ h=>h,hW.stay λid Z=>(Y id Z).1⟩
   .exact KA (l:=y :: rs) (k:=1) (by simp)
   .exact rG (l:=y :: rs) (k:=1) (by simp)
  .match d,h4 with
   | 0,_ =>
    simp only[Vv,List.cons.injEq] at h5
    obtain⟨rfl,rfl⟩:=h5
    refine⟨(.sl n 0 1 1,1,[[gi y]]) :: K,.sl n 0 1 1,.sl n 1 0 1,.inr ⟨n,rfl,h2⟩,?_,?_,rfl,rfl,rfl,rfl,λH' e1 e2 e3 ho=>?_,λ_ _ _ h=>h.drop,hW.add (.inr ⟨n,rfl,h2⟩) Y⟩
    .exact oH (sz:=1) (id:=n) (off:=0) (k:=1) (m:=1) (by omega)
    .exact oo (sz:=1) (id:=n) (off:=0) (k:=1) (m:=1) (by omega)
    .have hH:=ho.is 3 rfl (by simp)
     have t:∀ e∈[[gi y]],∀ v∈e,Tree v:=by intro e he v hv;simp at he;subst he;simp at hv;subst hv;exact .val _
     have r1:td H' (.sl n 0 [y].length 1) [y]:=.inr ⟨n,y,0,rfl,hH,by omega,rfl⟩
     have r2:td H' (.sl n 1 ([]:List Int).length 1) []:=.inr ⟨n,y,1,rfl,hH,by omega,rfl⟩
     exact⟨r1.jR,r2.jR⟩
   | 1,_=>simp at h5
 obtain⟨N,O,P,cj,I,bl,c1,c2,c3,c4,ck,bn,a1⟩:=ar
 clear hW hu
 obtain⟨q1,e0,e4,br⟩:=a1.box
 have z:∀ H' l B,eT H' b g a l B N->cm H' O (encI [y])/\cm H' P (encI rs):=λH' l B h=>by
  obtain⟨q,us,uf,S,m,c,w⟩:=h
  exact ck H' _ _ _ w.own
 have cu:dU.Ok ⟨⟨ia a s.n.st y,⟨s.n.it.ax,s.n.it.dot+1⟩,s.n.ah ++ [y],s.n.be⟩,encI (s.n.ah ++ [y]),s.b⟩:=⟨.inl rfl,hs.b⟩
 have cv:∀ k:Nat,dU.Ok ⟨⟨s.n.st,⟨k,0⟩,s.n.ah,rs ++ s.n.be⟩,s.a,encI (rs ++ s.n.be)⟩:=λk=>⟨hs.a,.inl rfl⟩
 have Q:=bl
 obtain⟨u',bs⟩:∃ u',u=u':=⟨u,rfl⟩
 rw[bs] at Q
 have a6:∀ (x:Int) (t:Bool),wC (.aY [gi x,gb t]):=λx t=>.aY _ λi hi=>by
  match i,hi with
  | 0,_=>exact⟨_,rfl⟩
  | 1,_=>exact⟨_,rfl⟩
 have cA:∀ k:Nat,k < g.rules.length->g.rules[k]?=some (bN g k):=λk hk=>by unfold bN;exact getD_some (by simpa using hk)
 simp only[encI] at aq L M
 rcases cj with rfl | ⟨n,rfl,cC⟩
 focus
  simp only[encI,bt,U2] at I bl
  simp(disch:=omega)only[↓wr,seval,wq,dc,encI,br,I,U1]
 rotate_left
 focus
  simp(disch:=omega)only[↓wr,seval,wq,dc,encI,br,cC,I]
 all_goals (
  refine aw.G7 aq (by kernel_rfl) (a6 _ _) ⟨.tree (lX a),.tree (.val _),(z _ _ _ a1).1,trivial⟩ ?_
  simp(disch:=omega)only[↓wr,seval,wq,dc]
  intro n8 bx
  have w2:=a1.fresh (o:=.arr 2 [[gi s.n.it.ax,gi (s.n.it.dot+1)]]) bx
  simp(disch:=omega)only[↓wr,seval,wq,dc,I,c1,c2,E,F]
  rw[set_set]
  intro n9 C
  obtain⟨cN,C⟩:=bU C bR
  obtain⟨_,C⟩:=bU C bR
  have w3:=w2.fresh (n:=n9) (o:=.arr 1 [[s.a],[O]]) (by simp[View.set,cN,C])
  try simp(disch:=omega)only[↓wr,seval,wq,dc]
  refine aw.j0 L (by kernel_rfl) ⟨cm.two (by simp[View.set]) hs.a.jR (z _ _ _ w3).1,trivial⟩ ?_
  simp(disch:=omega)only[↓wr,seval,wq,dc,W,X]
  have hm:=CN g a b l B (by omega) (by omega) _ cu s4 N _ w3
  simp only[dc,encI] at hm
  refine aw.dL (hm.mono ?_)
  clear hm
  rintro _ H5 w5
  obtain⟨q5,e5,e6,b0⟩:=w5.box
  simp(disch:=omega)only[↓wr,seval,wq,b0]
  refine aV.up g.rules.length (λk T H'=>eT H' b g a (jd g s.n y k (gY l ⟨ia a s.n.st y,⟨s.n.it.ax,s.n.it.dot+1⟩,s.n.ah ++ [y],s.n.be⟩)) (B+1+k) N/\T 0=.ptr b 0 0/\T 3=.aJ (dc s) 0/\T 4=u'/\T 5=gi y/\T 63=.aQ (g.rules.map aI)/\T 64=gi g.rules.length/\T 65=gi k)
   ⟨w5,rfl,rfl,bs,rfl,rfl,rfl,rfl⟩ ?_
  clear w2 w3 w5 b0 bx C
  rintro k kk T H6 b1 ⟨w6,t0,t3,t4,t5,t63,t64,t65⟩
  simp(disch:=omega)only[↓wr,seval,wq,lG,t0,t3,t4,t5,t63,t64,t65]
  apply ai.dec<;>intro hc
  .have hR:=cA k (by omega)
   have cS:=U.left _ (UL hR)
   generalize b2:bN g k=R at hR cS
   simp(disch:=omega)only[↓wr,seval,wq,t0,t3,t4,t5,t63,t64,t65,Uy,hR,UH,aI,encI]
   intro n10 b7
   have w7:=w6.fresh (o:=.arr 3 [aI R]) b7
   apply ai.eq<;>intro e
   .simp(disch:=omega)only[↓wr,seval,wq,t0,t3,t4,t5,t63,t64,t65,Q,dc,E,F,W,X,c3,c4]
    intro n11 j
    obtain⟨cV,j⟩:=bU j bR
    obtain⟨_,j⟩:=bU j bR
    have w8:=w7.fresh (n:=n11) (o:=.arr 1 [[P],[s.b]]) (by simp[View.set,cV,j])
    rw[set_set]
    try simp(disch:=omega)only[↓wr,seval,wq,t0,t3,t4,t5,t63,t64,t65,dc]
    refine aw.j0 M (by kernel_rfl) ⟨cm.two (by simp[View.set]) (z _ _ _ w8).2 hs.b.jR,trivial⟩ ?_
    simp(disch:=omega)only[↓wr,seval,wq,t0,t3,t4,t5,t63,t64,t65,dc,E,F]
    obtain⟨r1,_,_⟩:=ch k (by omega)
    have e7:=r1.short D h3
    have hm:=CN g a b _ (B+1+k) (by omega) (by omega) _ (cv k) f.lt N _ w8
    simp only[dc,encI] at hm
    refine aw.dL (hm.mono ?_)
    clear hm
    rintro _ H9 w9
    simp(disch:=omega)only[↓wr,seval,wq,t0,t3,t4,t5,t63,t64,t65]
    refine aD b1 (by omega) ⟨?_,t0,t3,t4,t5,t63,t64,rfl⟩
    rw[jd,Uz (by rw[b2];exact e),bd]
    exact w9
   .simp(disch:=omega)only[↓wr,seval,wq,t0,t3,t4,t5,t63,t64,t65]
    refine aD b1 (by omega) ⟨?_,t0,t3,t4,t5,t63,t64,rfl⟩
    rw[jd,Ux (by rw[b2];exact e)]
    have w9:=w7.up (B':=B+1+(k+1)) (by omega)
    try rw[set_set]
    exact w9
  .simp(disch:=omega)only[↓wr,seval,wq,t0]
   obtain rfl:k=g.rules.length:=by omega
   exact(bn _ _ _ w6).up (by omega))
section
variable {P:Program} {T:Env} {H:View} {K:V->View->Prop} {w:cG (T,H,K)} {t t1 e ty:TypeId}
theorem Jr {d x:Operand} {id off len sz bytes s:Nat} {z:List V} {es xs:List (List V)} {rd:List Nat} (he:oC P t=some (sz,bytes,z)) (g:ev T d=.sl id off len sz) (h:bC H (ev T x)=some (xs,rd)) (hH:H id=.arr s es) (i:off+len<=es.length)
  (j:(xs.all λe=>e.length == sz && e.all aF)=true) (k:(xs.take len).isEmpty=false) (hk:K (fO (xs.take len).length) (H.set id (.arr sz (dY es off (xs.take len))))) :
  iW P (.call { callee:=.builtin .copy,args:=#[d,x],argTypes:=#[t,t1] }) ty T H K w:=by
 obtain⟨e,ti,a,hi,b,m,l,f,c,rfl,rfl⟩:=jY he
 intro n _
 refine⟨fO (xs.take len).length,.fi id (.arr ti.size (dY es off (xs.take len))),id :: rd,?_,hk⟩
 simp only[sI,ca,oper]
 simp[wQ,a,g,h,cd,b,k,hH,i,c,j]
theorem PV {d x:Operand} {k:Nat} {sz bytes:Nat} {z:List V} {xs:List (List V)} {rd:List Nat} (he:oC P t=some (sz,bytes,z)) (f:ev T d=.emp k) (g:bC H (ev T x)=some (xs,rd)) (hk:K (fO 0) H) :
  iW P (.call { callee:=.builtin .copy,args:=#[d,x],argTypes:=#[t,t1] }) ty T H K w:=by
 obtain⟨e,ti,a,hi,b,j,h,c,i,rfl,rfl⟩:=jY he
 intro n _
 refine⟨fO 0,.none,[],?_,hk⟩
 simp only[sI,ca,oper]
 simp[wQ,a,f,g,cd,b]
end
theorem tO:∀ (xs A B:List (List V)),xs.length<=B.length->dY (A ++ B) A.length xs=A ++ xs ++ B.drop xs.length
 | [],A,B,_=>by simp[dY]
 | x :: r,A,[],h=>by simp at h
 | x :: r,A,b :: B,h=>by
  rw[dY,List.set_append_right _ _ (UF _),Nat.sub_self,List.set_cons_zero]
  have:=tO r (A ++ [x]) B (by simpa using h)
  simpa using this
theorem Ia {id off k m:Nat} (hm:m<=k):cJ 1 (.sl id off k 1) (some (gi m)) none=some (.sl id (off+m) (k - m) 1,.none,[]):=by
 simp[cJ,bound,asNat,hm]
def u64 (n:Int):V:=.val (.int .u64 n)
noncomputable def M7:List (FuncId × DF):=vB Tryz.prog [(180,[]),(237,[])]
theorem Mv:p0 Tryz.prog M7:=sD _ _
noncomputable def Sb (n:Nat):Bool:=match rT Tryz.prog M7 (Li []) 180 [u64 1,u64 n] with
 | some (.aY [.val (.int .u64 a),.val (.int .u64 b)])=>a == 0 && b == n
 | _=>false
theorem Rh:(List.range 321).all Sb=true:=by kernel_rfl
theorem Ry {n:Nat} (h:n<=320):az Tryz.prog 180 [u64 1,u64 n] (.aY [u64 0,u64 n]):=by
 have c:=U3.1 Rh n (VC.2 (by omega))
 unfold Sb at c
 split at c
 .rename_i a b he
  simp only[UJ,Vr] at c
  obtain⟨rfl,rfl⟩:=c
  exact(oA mixed Mv (F8 (l:=[]) (by simp)) (by intro v d;simp at d;rcases d with rfl | rfl <;> exact .val _) he).pure
 .simp at c
def gf:SC :=
 ae [ae [ab [aa 34 8,aa 35 7,aM 36 35,aR 37 .lss 34 36],bX 37 (.exit 0)],.block 1 (ab [aa 38 8,aa 39 7,aa 40 8,((some 41),.op (.slice 1 (.tmp 39) (some (.tmp 40)) none)),aa 42 7,aa 43 8,((some 44),.op (.slice 1 (.tmp 42) none (some (.tmp 43)))),((some 45),.op (.old (.call { callee:=.builtin .copy,args:=#[(.tmp 41),(.tmp 44)],argTypes:=#[27,27] }) 3)),aR 46 .add 38 45,aa 8 46])]
def j5:SF:=⟨ae [ab [bI 4 1],ae [ab [aa 9 1,aG 10 .lss 9 0],ba 10 (.region false [⟨none,[((some 11),.op (.old (.makeInterface 9 (.const (.string ⟨#[99,97,110,110,111,116,32,98,101,32,110,101,103,97,116,105,118,101]⟩))) 20)),(none,.op (.old (.panic (.tmp 11)) 0))]⟩])],ab [aa 13 0,aM 14 13,((some 15),.op (.conv .u64 (.tmp 14))),aa 16 1,((some 17),.op (.conv .u64 (.tmp 16))),aX 18 180 [15,17],aa 12 18,du 19 0 12,du 20 1 12,aa 5 19,aa 6 20],ae [.region false [⟨none,[aa 21 5,((some 22),.op (.arith .gtr (.tmp 21) (.val (.val (.int .u64 0))))),aa 23 22]⟩,⟨(some (23,false)),[aa 24 6,((some 25),.op (.arith .gtr (.tmp 24) (.val (.val (.int .u64 9223372036854775807)))))]⟩,⟨none,[cM 26 23 25]⟩],ba 26 (.region false [⟨none,[((some 27),.op (.old (.makeInterface 9 (.const (.string ⟨#[116,104,101,32,114,101,115,117,108,116,32,111,102,32,40,108,101,110,40,120,41,32,42,32,99,111,117,110,116,41,32,111,118,101,114,102,108,111,119,115]⟩))) 20)),(none,.op (.old (.panic (.tmp 27)) 0))]⟩])],ab [aa 28 6,((some 29),.op (.conv .i64 (.tmp 28))),((some 30),.op (.make 1 8 [(.val (.int .i64 0))] (.tmp 29) (.tmp 29))),aa 7 30],ab [aa 31 7,aa 32 0,((some 33),.op (.old (.call { callee:=.builtin .copy,args:=#[(.tmp 31),(.tmp 32)],argTypes:=#[27,27] }) 3)),aa 8 33],bY 0 gf,ab [aa 47 7,aa 4 47],.ret],
 [.tmp 4],48⟩
theorem oQ:aH Tryz.prog 115 []=some j5:=by kernel_rfl
theorem Lt (n:Nat) (v:n<=320) (m:Nat) (H:View) (hm:H m=.arr 1 [[gi (-1)]]):av Tryz.prog 115 [.sl m 0 1 1,gi n] H λr H'=>aK H' r 1 (bt (List.replicate n (-1)))/\b3 H H' r:=by
 refine av.of mixed oQ ?_
 have hmul:=Ry v
 unfold u64 at hmul
 have i:IntKind.u64.wrap 1=1:=by decide
 have j:IntKind.u64.wrap (n:Int)=n:=by
  unfold IntKind.wrap
  have w:(2:Int) ^ IntKind.u64.bits=18446744073709551616:=by rfl
  have x:IntKind.u64.signed=false:=by rfl
  simp only[w,x,VM,UN]
  simp
  omega
 have f:IntKind.i64.wrap (n:Int)=n:=wrap64 (by omega) (by omega)
 simp(disch:=omega)only[↓wr,seval,wq,j5]
 refine ai.dec (λh=>absurd h (by omega)) (λ_=>?_)
 simp(disch:=omega)only[↓wr,seval,wq]
 rw[i,j]
 refine aw.pure hmul ?_
 simp(disch:=omega)only[↓wr,seval,wq,f]
 refine ai.dec (λh=>absurd h (by omega)) (λ_=>?_)
 simp(disch:=omega)only[↓wr,seval,wq,f]
 refine⟨⟨by omega,by unfold aB;omega,by unfold aB;omega⟩,λp=>?_,λp b g=>?_⟩
 .refine PV (k:=2) (sz:=1) (bytes:=8) (z:=[gi 0]) (xs:=[[gi (-1)]]) (rd:=[m]) (by kernel_rfl) (by simp(disch:=omega)only[↓wr,seval,wq]) (by simp(disch:=omega)only[↓wr,seval,wq];simp[bC,hm]) ?_
  simp(disch:=omega)only[↓wr,seval,wq]
  refine aV.intro (λk T H'=>H'=H/\T 7=.emp 2/\T 8=fO 0) 0 ⟨rfl,rfl,rfl⟩ ?_
  rintro k T _ ⟨rfl,t7,t8⟩
  simp(disch:=omega)only[↓wr,seval,wq,gf,t7,t8]
  refine⟨?_,λid a=>⟨rfl,by simp[owner]⟩⟩
  rw[p];exact .nil
 have l:¬ m=b:=by rintro rfl;rw[hm] at g;simp at g
 refine Jr (id:=b) (off:=0) (len:=n) (sz:=1) (bytes:=8) (z:=[gi 0]) (s:=1) (es:=List.replicate n [gi 0]) (xs:=[[gi (-1)]]) (rd:=[m]) (by kernel_rfl) (by simp(disch:=omega)only[↓wr,seval,wq]) (by simp(disch:=omega)only[↓wr,seval,wq];simp[bC,View.set,l,hm]) (by simp[View.set]) (by simp) (by simp[aF]) (by obtain⟨q,rfl⟩:∃ q,n=q+1:=⟨n - 1,by omega⟩;rfl) ?_
 rw[show ([[gi (-1)]]:List (List V)).take n=List.replicate 1 [gi (-1)] by obtain⟨q,rfl⟩:∃ q,n=q+1:=⟨n - 1,by omega⟩;simp,
  show dY (List.replicate n [gi 0]) 0 (List.replicate 1 [gi (-1)])=List.replicate 1 [gi (-1)] ++ List.replicate (n - 1) [gi 0] by
   have:=tO (List.replicate 1 [gi (-1)]) [] (List.replicate n [gi 0]) (by simp;omega)
   simpa using this,V8]
 simp(disch:=omega)only[↓wr,seval,wq]
 rw[set_set]
 refine aV.intro (λk T H'=>∃ c:Nat,1<=c/\c+k=n/\H' b=.arr 1 (List.replicate c [gi (-1)] ++ List.replicate (n - c) [gi 0])/\(∀ id,H id≠.dead->H' id=H id)/\T 7=.sl b 0 n 1/\T 8=gi c) (n - 1) ⟨1,by omega,by omega,by simp[View.set],λid a=>?_,rfl,rfl⟩ ?_
 .have:¬ id=b:=by rintro rfl;exact a g
  simp[View.set,this]
 rintro k T H' ⟨c,c1,B,hH,e,t7,t8⟩
 simp(disch:=omega)only[↓wr,seval,wq,gf,t7,t8]
 apply ai.dec<;>intro y
 .simp(disch:=omega)only[↓wr,seval,wq,t7,t8,Ia (id:=b) (off:=0) (k:=n) (m:=c) (by omega),HZ (id:=b) (off:=0) (k:=n) (m:=c) (by omega)]
  have o:bC H' (.sl b 0 c 1)=some (List.replicate c [gi (-1)],[b]):=by
   obtain⟨q,rfl⟩:∃ q,c=q+1:=⟨c - 1,by omega⟩
   simp only[bC,hH]
   rw[Uz (by simp)]
   simp
  obtain⟨d,t⟩:∃ d,d=min (n - c) c:=⟨_,rfl⟩
  refine Jr (id:=b) (off:=c) (len:=n - c) (sz:=1) (bytes:=8) (z:=[gi 0]) (s:=1) (es:=List.replicate c [gi (-1)] ++ List.replicate (n - c) [gi 0]) (xs:=List.replicate c [gi (-1)]) (rd:=[b]) (by kernel_rfl) (by simp(disch:=omega)only[↓wr,seval,wq]) (by simp(disch:=omega)only[↓wr,seval,wq];exact o) hH (by simp) (by simp[aF]) ?_ ?_
  .rw[List.take_replicate,<-t]
   obtain⟨q,A⟩:∃ q,d=q+1:=⟨d - 1,by omega⟩
   rw[A];rfl
  have u:=tO (List.replicate d [gi (-1)]) (List.replicate c [gi (-1)]) (List.replicate (n - c) [gi 0]) (by simp;omega)
  rw[V8] at u
  rw[List.take_replicate,<-t,u,V8]
  simp(disch:=omega)only[↓wr,seval,wq,t7,t8]
  refine⟨n - (c+d),by omega,c+d,by omega,by omega,?_,λid a=>?_,rfl⟩
  .simp[View.set,List.drop_replicate,<-List.replicate_append_replicate,show n - c - d=n - (c+d) by omega]
  .have:¬ id=b:=by rintro rfl;exact a g
   simp[View.set,this];exact e id a
 .simp(disch:=omega)only[↓wr,seval,wq,t7]
  obtain rfl:c=n:=by omega
  refine⟨.inr ⟨b,by simp,by rw[hH];simp[bt]⟩,λid a=>⟨e id a,?_⟩⟩
  simp only[owner,ne_eq,Uw]
  rintro rfl;exact a g
section
variable {g:ag} {a:List aP}
def mA (g:ag) (l:List bB):Prop:=∀ x∈l,∀ s∈x.ah ++ x.be,dI g s=true
theorem MR (b:g.cX) {r:Int} (hr : -1<=r/\r < g.rules.length):∀ s∈bG g r,dI g s=true:=by
 unfold bG
 split
 .intro s a
  simp at a
  subst a
  have:=b.oh;have:=b.start
  unfold dI
  rw[Ux (by omega)]
  simp only[UN];omega
 .intro s a
  have c:g.rules[r.toNat]?=some (bN g r):=by unfold bN;exact getD_some (by omega)
  exact b.sym _ (UL c) s a
theorem Fp (a:g.cX) {x:aE} (b:cq g x):∀ s∈dd g x,dI g s=true:=λs c=>MR a b.1 s (List.mem_of_mem_drop c)
theorem mA.met {l:List bB} (h:mA g l) {x:bB} (b:∀ s∈x.ah ++ x.be,dI g s=true):mA g (gY l x):=by
 unfold gY
 split
 .exact h
 .intro y a
  rcases UR.1 a with a | a
  .exact h y a
  .simp at a;subst a;exact b
theorem mA.R2 {x:bB} (a:∀ s∈x.ah ++ (fX g x.it ++ x.be),dI g s=true) (s:Int):∀ (k:Nat) (l:List bB),mA g l->mA g (jd g x s k l)
 | 0,_,h=>h
 | k+1,l,h=>by
  rw[jd]
  split
  .exact(mA.R2 a s k l h).met a
  .exact mA.R2 a s k l h
theorem mA.leave (f:dT g a) {l:List bB} (j:iN g a l) (h:mA g l) {x:bB} (i:x∈l):mA g (fu g a l x):=by
 unfold fu
 split
 .rename_i k
  have m:bw g x.it=((bw g x.it).1,true):=by rw[<-k]
  have e:=j.nd x i
  have hH:=f.has e.lt e.it
  obtain⟨f1,_⟩:=nt hH m
  have d:=Fp f.gU hH
  rw[f1] at d
  have c:=h x i
  refine mA.R2 (λs b=>?_) _ _ _ (h.met λs b=>?_)
  .simp only[UR] at b c
   rcases b with b | b | b
   .exact c s (.inl b)
   .exact d s (UP _ b)
   .exact c s (.inr b)
  .simp only[UR,Vq] at b c
   rcases b with (b | rfl) | b
   .exact c s (.inl b)
   .exact d _ (V7 ..)
   .exact c s (.inr b)
 .exact h
theorem Cp (b:dT g a):∀ (f i:Nat) (l:List bB),iN g a l->mA g l->mA g (gS g a f i l)
 | 0,_,_,_,h=>h
 | f+1,i,l,c,h=>by
  rw[gS]
  cases e:l[i]? with
  | none=>exact h
  | some x=>exact Cp b f (i+1) _ (vS b c e).1 (h.leave b c (UL e))
theorem M8 (b:dT g a):mA g (ct g a):=Cp b _ _ _ (vW b) λx c s d=>by
 simp[kL] at c
 subst c
 simp at d
theorem s6 (a:g.cX) {s:Int} (h:dI g s=true):bO s:=by
 have:=a.au;have:=a.aj
 unfold dI at h
 unfold bO
 split at h <;> simp only[UN] at h <;> omega
theorem xG (c:dT g a) (d:a.length<=300) {i:Nat} (hi:i < a.length):cq g (c9 (ct g a) i).it/\(c9 (ct g a) i).ah.length<=86100/\(c9 (ct g a) i).be.length<=516600/\(dd g (c9 (ct g a) i).it).length<=6 /\
  (∀ s∈(c9 (ct g a) i).ah,bO s)/\(∀ s∈(c9 (ct g a) i).ah ++ (dd g (c9 (ct g a) i).it ++ (c9 (ct g a) i).be),bO s):=by
 obtain⟨f1,f2,f3⟩:=AH c d hi
 obtain⟨h,_,_⟩:=wX c d
 have hH:=c.has f3.lt f3.it
 obtain⟨j,k⟩:=List.getElem?_of_mem f1
 have m:=h.len j _ k
 have b:=h.short c d
 have l:=(UI.1 k).1
 have e:=M8 c _ f1
 have f:=Fp c.gU hH
 refine⟨hH,by omega,by omega,?_,λs b=>s6 c.gU (e s (UR.2 (.inl b))),λs b=>?_⟩
 .have:=dD c.gU hH.1
  unfold dd
  simp;omega
 .rcases UR.1 b with b | b
  .exact s6 c.gU (e s (UR.2 (.inl b)))
  .rcases UR.1 b with b | b
   .exact s6 c.gU (f s b)
   .exact s6 c.gU (e s (UR.2 (.inr b)))
end
def tb:SC :=
 ae [ae [ab [aa 21 6,aa 22 5,kN 23 22,al 24 6 23,ak 25 24,aM 26 25,aR 27 .lss 21 26],bX 27 (.exit 0)],.block 1 (ab [aa 30 5,aa 31 5,kN 32 31,al 33 6 32,ak 34 33,aa 35 6,aO 36 5 34 35,aS 37 5 36,aX 38 126 [30,37]]),ab [aa 28 6,aG 29 .add 28 1,aa 6 29]]
def xt:SF:=⟨ae [ab [cw 2 0,((some 4),.op (.eU (.val (.val (.pointer none)))))],.region true [⟨none,[aS 7 4 2,aa 8 1,((some 9),.op (.qb)),((some 10),.op (.bP 1 1 [(.val (.int .i64 0))] [(0,(.val (.val (.int .i64 (-1)))))])),aa 11 1,aM 12 11,aX 13 115 [10,12],((some 14),.op (.build [(.emp 1),(.emp 1),(.emp 1),(.val (.int .i64 0)),(.emp 1),(.val (.map none)),(.emp 1),(.emp 1)] [(0,4,(.tmp 7)),(4,1,(.tmp 8)),(5,1,(.tmp 9)),(7,1,(.tmp 13))])),((some 15),.op (.box (.tmp 14))),aa 5 15]⟩],ab [aa 16 5,((some 17),.op (.build [(.val (.int .i64 0)),(.val (.int .i64 0))] [(0,1,(.val (.val (.int .i64 (-1)))))])),((some 18),.op (.build [(.val (.int .i64 0)),(.val (.int .i64 0)),(.val (.int .i64 0))] [(0,1,(.val (.val (.int .i64 0)))),(1,2,(.tmp 17))])),((some 19),.op (.build [(.val (.int .i64 0)),(.val (.int .i64 0)),(.val (.int .i64 0)),(.emp 1),(.emp 1)] [(0,3,(.tmp 18))])),aX 20 125 [16,19]],ae [ab [aN 6 0],bY 0 tb],ab [aa 39 5,aa 4 39],.ret],
 [.tmp 4],40⟩
theorem z8:aH Tryz.prog 61 [2]=some xt:=by kernel_rfl
theorem HM (a:List aP):eE a []=List.replicate a.length (-1):=by
 unfold eE
 apply List.ext_getElem?
 intro i
 rw[Uy,VP]
 by_cases h:i < a.length
 .rw[VI h,Uz h];rfl
 .rw[U6 (by simpa using h),Ux h];rfl
theorem zN {g:ag} {a:List aP} {f i:Nat} {l:List bB} (h:l.length<=i):gS g a f i l=l:=by
 cases f with
 | zero=>rfl
 | succ f=>rw[gS,U6 h]
theorem Kf (g:ag) (X:g.Ok) (a:List aP) (x:dT g a) (F:a.length<=300) (H:View) :
  av Tryz.prog 61 [.agg (af g),bM a] H λr H'=>∃ b,r=.ptr b 0 0/\eT H' b g a (ct g a) 100000000 []:=by
 have z:=x.pos
 have G:cd (bM a)=some a.length:=by simp[bM,cd]
 have d:aF (bM a)=true/\V.cells (bM a)=[bM a]:=⟨rfl,rfl⟩
 refine av.of mixed z8 ?_
 simp(disch:=omega)only[↓wr,seval,wq,xt,af,encS,G,d.1,d.2]
 intro o Y O A
 obtain⟨I,A⟩:=bU A (by simp)
 refine aw.Dr (Lt a.length (by omega) O _ (by simp[View.set])) ?_
 intro r P hr p
 have s:P o=.map [] 0:=by
  have e:¬ o=O:=λe=>I e.symm
  rw[(p o (by simp[View.set,e])).1]
  simp[View.set,e]
 simp(disch:=omega)only[↓wr,seval,wq,hr.cells,hr.er,d.1,d.2]
 intro j f
 have J:¬ o=j:=by rintro rfl;rw[s] at f;simp at f
 have Q:=(((bc.nil.Af hr p).new f 8 [qx g a o (.emp 1) r]).emp (k:=1) (sz:=5)).perm (.cons _ (.swap _ _ _))
 have R:eT (P.set j (.arr 8 [qx g a o (.emp 1) r])) j g a [] 0 []:=by
  refine⟨o,.emp 1,r,[],[],0,?_,by simp[View.set,J,s,cT],⟨by simp,by simp⟩,λk=>⟨0,rfl,UF _,by simp⟩,rfl,by simp⟩
  rw[HM]
  exact Q
 try simp(disch:=omega)only[↓wr,seval,wq]
 have hm:=CN g a j [] 0 (by omega) (by simp) ⟨⟨0,⟨-1,0⟩,[],[]⟩,.emp 1,.emp 1⟩ ⟨.inr ⟨rfl,rfl⟩,.inr ⟨rfl,rfl⟩⟩ z [] _ R
 refine aw.dL (hm.mono ?_)
 rintro _ H4 U
 simp(disch:=omega)only[↓wr,seval,wq]
 refine aV.up 86101 (λi T H'=>∃ (l:List bB),i<=l.length/\iN g a l/\gS g a (90000 - i) i l=ct g a/\eT H' j g a l (1+41 * i) []/\T 5=.ptr j 0 0/\T 6=gi i) ⟨kL,by simp,vW x,rfl,U,rfl,rfl⟩ ?_
 clear U R Q hm s f hr p
 rintro i k T Z hk ⟨l,an,h,u,K,t5,t6⟩
 obtain⟨q,us,uf,S,m,c,w⟩:=id K
 have W:=w.own.is 2 rfl (by simp)
 have L:S.length=l.length:=by rw[<-w.is,UB]
 have M:cd us=some l.length:=by rw[(w.own.own 0 rfl).len,UB,L]
 simp(disch:=omega)only[↓wr,seval,wq,tb,t5,t6,W,M]
 apply ai.dec<;>intro hc
 .have N:S[i]?=some (S[i]'(by omega)):=Uv (by omega)
  have B:=UC (show i < S.length by omega)
  generalize S[i]'(by omega)=y at N B
  have v:l[i]?=some y.n:=by rw[<-w.is,Uy,N];rfl
  obtain⟨n,C,hH⟩:=(w.own.own 0 rfl).sl (by simp;omega)
  rw[UB] at C
  have D:(S.map dc).getD i []=dc y:=by simp[Uu,N]
  have hs:=h.short x F
  have E:=Pl g X a x F j l h y (w.ok y B) i v (1+41 * i) (by omega) [] Z K
  simp only[dc] at E D
  simp(disch:=omega)only[↓wr,seval,wq,t5,t6,W,C,hH,D]
  refine⟨by omega,by first | omega | (simp;omega),?_⟩
  refine aw.dL (E.mono ?_)
  rintro _ H6 w6
  simp(disch:=omega)only[↓wr,seval,wq,t5,t6]
  obtain⟨l1,⟨t,ht⟩,_⟩:=vS x h v
  refine aD hk (by omega) ⟨fu g a l y.n,by rw[ht,UY];omega,l1,?_,w6.up (B':=1+41 * (i+1)) (by omega),t5,rfl⟩
  rw[<-u,show 90000 - i=90000 - (i+1)+1 by omega,gS,v]
 .simp(disch:=omega)only[↓wr,seval,wq,t5]
  rw[zN (by omega)] at u
  subst u
  have hs:=h.short x F
  exact⟨j,rfl,K.up (B':=100000000) (by omega)⟩
end Gv
