/-
  Part 11 of the proof: what the machine does and what the functions answer.
  Conditions: those that each lemma names.
-/
import Derived.Test.YtiophifnkakjgaaGreatSGzC1J
set_option linter.unusedSimpArgs false
set_option linter.unusedVariables false
set_option maxRecDepth 100000
set_option maxHeartbeats 20000000
namespace Gv
open Go Go.Proofs
theorem HM {P:List bK} {x:Int} {l:List Int} {s:bK} (h:0<=x):cb P (x :: l) s=cb P l ⟨s.au,s.cE,s.rules,min 1048576 (s.ai+1)⟩:=by rw[cb,aaF h]
theorem J6 {P:List bK} {x:Int} {l:List Int} {s:bK} (h:¬ 0<=x) (hk:¬ (bW P (du x)).au < 0):cb P (x :: l) s=cb P l ⟨s.au,max s.cE (bW P (du x)).cE,min 1048576 (s.rules+(bW P (du x)).rules),min 1048576 (s.ai+(bW P (du x)).ai)⟩:=by rw[cb,aaD h,aaD hk]
theorem SM {P:List bK} {x:Int} {l:List Int} {s:bK} (h:¬ 0<=x) (hk:(bW P (du x)).au < 0):cb P (x :: l) s=(s,false):=by rw[cb,aaD h,aaF hk]
def gS (p:bK):Prop:=(0<=p.rules/\p.rules<=1048576)/\(0<=p.ai/\p.ai<=1048576)
theorem uQ {P:List bK} (a:∀ m,gS (bW P m)):∀ (l:List Int) (s:bK),gS s->gS (cb P l s).1
 | [],s,h=>h
 | x :: l,s,h=>by
  have b:=a (du x)
  unfold gS at h b
  simp only[cb]
  split
  .exact uQ a l _ (by unfold gS;simp only;omega)
  .split
   .exact h
   .exact uQ a l _ (by unfold gS;simp only;omega)
theorem kO:gS bF:=by unfold gS;simp[bF]
theorem QV:gS nI:=by unfold gS;simp[nI]
theorem sy (g:af):∀ k m,gS (bW (aH g k) m)
 | 0,m=>by
  have:bW (aH g 0) m=nI:=by
   simp only[aH,iter,bW,aaA,abV]
   split <;> rfl
  rw[this];exact QV
 | k+1,m=>by
  by_cases h:cG (aH g (k+1)) m
  .by_cases a:cG (aH g k) m
   .rw[(iK a (Nat.le_succ k)).1];exact sy g k m
   .obtain⟨i,r,_,_,_,hp,_⟩:=lZ (Bo a h)
    rw[hp]
    have:=uQ (sy g k) r.right bF kO
    unfold gS at this ⊢
    simp only[iF];omega
  .rw[rA h];exact QV
def FF (g:af) (i:Int):List Int:=(g.rules.getD i.toNat ⟨0,[],0⟩).right
def eA (g:af) (P:List bK):Nat->List Int->List Int
 | 0,l=>l.flatMap λx=>if 0<=x then [x] else []
 | f+1,l=>l.flatMap λx=>if 0<=x then [x] else eA g P f (FF g (bW P (du x)).au)
def fj (g:af) (P:List bK):Nat->List Int->List Int
 | 0,_=>[]
 | f+1,l=>l.flatMap λx=>if 0<=x then [] else (bW P (du x)).au :: fj g P f (FF g (bW P (du x)).au)
def EB (P:List bK) (f:Nat) (l:List Int):Prop:=∀ x∈l,x < 0->cG P (du x)/\(bW P (du x)).cE<=f
theorem sV (g:af) (P:List bK) (f:Nat):eA g P f []=[]:=by cases f <;> rfl
theorem wi (g:af) (P:List bK) (f:Nat):fj g P f []=[]:=by cases f <;> rfl
theorem jb (g:af) (P:List bK) (f:Nat) (a b:List Int):eA g P f (a ++ b)=eA g P f a ++ eA g P f b:=by cases f <;> simp[eA]
theorem jD (g:af) (P:List bK) (f:Nat) (a b:List Int):fj g P f (a ++ b)=fj g P f a ++ fj g P f b:=by cases f <;> simp[fj]
theorem mV {g:af} {P:List bK} {f:Nat} {x:Int} (h:0<=x):eA g P f [x]=[x]:=by cases f <;> simp[eA,h]
theorem pX {g:af} {P:List bK} {f:Nat} {x:Int} (h:0<=x):fj g P f [x]=[]:=by cases f <;> simp[fj,h]
theorem pv {g:af} {P:List bK} {f:Nat} {x:Int} (h:x < 0):eA g P (f+1) [x]=eA g P f (FF g (bW P (du x)).au):=by
 simp[eA,show ¬ 0<=x by omega]
theorem pr {g:af} {P:List bK} {f:Nat} {x:Int} (h:x < 0):fj g P (f+1) [x]=(bW P (du x)).au :: fj g P f (FF g (bW P (du x)).au):=by
 simp[fj,show ¬ 0<=x by omega]
theorem Gf {g:af} {l:List Int} (h:EB (aD g) 0 l):∀ x∈l,0<=x:=λx c=>by
 rcases Int.lt_or_le x 0 with h1 | h1
 .obtain⟨a,b⟩:=h x c h1
  have:=(xC a).1
  simp at b;omega
 .exact h1
theorem yK {g:af} {f:Nat} {m:Nat} (h:cG (aD g) m) (d:(bW (aD g) m).cE<=(f:Int)+1):∃ (i:Nat) (r:aX),(bW (aD g) m).au=i/\g.rules[i]?=some r/\FF g (bW (aD g) m).au=r.right/\EB (aD g) f r.right/\bW (aD g) m=iF (aD g) i r:=by
 obtain⟨i,r,hr,e,a,hp,_⟩:=Da h
 have hi:(bW (aD g) m).au=i:=by rw[hp];rfl
 have j:(bW (aD g) m).cE=(cb (aD g) r.right bF).1.cE+1:=by rw[hp];rfl
 have h1:=((j4 (aD g) f r.right bF a).1 (by omega)).2
 refine⟨i,r,hi,hr,?_,λx b c=>⟨a x b c,h1 x b c⟩,hp⟩
 rw[hi];simp[FF,aaA,hr]
theorem mG {g:af} {f:Nat} (c:∀ x,x < 0->cG (aD g) (du x)->(bW (aD g) (du x)).cE<=f->(bW (aD g) (du x)).rules=min 1048576 ((fj g (aD g) f [x]).length:Int)/\(bW (aD g) (du x)).ai=min 1048576 ((eA g (aD g) f [x]).length:Int)) :
  ∀ (l:List Int) (s:bK),EB (aD g) f l->gS s->(cb (aD g) l s).1.rules=min 1048576 (s.rules+(fj g (aD g) f l).length)/\(cb (aD g) l s).1.ai=min 1048576 (s.ai+(eA g (aD g) f l).length)
 | [],s,_,d=>by
  unfold gS at d
  rw[sV,wi]
  simp only[cb,aa8];omega
 | x :: l,s,hu,d=>by
  have a:EB (aD g) f l:=λy i=>hu y (by simp[i])
  have e:=jb g (aD g) f [x] l
  have h:=jD g (aD g) f [x] l
  rw[List.singleton_append] at e h
  rw[e,h,aa4,aa4]
  have j:gS (bW (aD g) (du x)):=sy g g.al.length (du x)
  unfold gS at d j
  by_cases b:0<=x
  .obtain⟨i1,i2⟩:=mG c l ⟨s.au,s.cE,s.rules,min 1048576 (s.ai+1)⟩ a (by unfold gS;simp only;omega)
   rw[HM b,i1,i2,mV b,pX b]
   simp only[aaN,aa8]
   omega
  .obtain⟨hk,k⟩:=hu x (by simp) (by omega)
   obtain⟨m,k2⟩:=c x (by omega) hk k
   obtain⟨i1,i2⟩:=mG c l ⟨s.au,max s.cE (bW (aD g) (du x)).cE,min 1048576 (s.rules+(bW (aD g) (du x)).rules),min 1048576 (s.ai+(bW (aD g) (du x)).ai)⟩ a (by unfold gS;simp only;omega)
   unfold cG at hk
   rw[J6 b (by omega),i1,i2,m,k2]
   push_cast
   omega
theorem pc (g:af):∀ (f:Nat) (l:List Int) (s:bK),EB (aD g) f l->gS s ->
  (cb (aD g) l s).1.rules=min 1048576 (s.rules+(fj g (aD g) f l).length)/\(cb (aD g) l s).1.ai=min 1048576 (s.ai+(eA g (aD g) f l).length)
 | 0,l,s,hu,b=>mG (λx c hk a=>by have:=(xC hk).1;simp only[Int.natCast_zero] at a;omega) l s hu b
 | f+1,l,s,hu,b=>mG (λx c hk a=>by
   obtain⟨i,r,hi,hr,d,e,hp⟩:=yK (f:=f) hk (by push_cast at a;exact a)
   obtain⟨h,j⟩:=pc g f r.right bF e kO
   have k:(bW (aD g) (du x)).rules=min 1048576 ((cb (aD g) r.right bF).1.rules+1):=by rw[hp];rfl
   have k2:(bW (aD g) (du x)).ai=(cb (aD g) r.right bF).1.ai:=by rw[hp];rfl
   rw[pv c,pr c,d,k,k2,h,j]
   simp only[aaN,bF]
   push_cast
   omega) l s hu b
theorem rK {g:af} {f:Nat} (a:∀ x,x < 0->(eA g (aD g) f [x]).length<=6 * (fj g (aD g) f [x]).length):∀ (l:List Int),(eA g (aD g) f l).length<=l.length+6 * (fj g (aD g) f l).length
 | []=>by rw[sV];simp
 | x :: l=>by
  have b:=jb g (aD g) f [x] l
  have c:=jD g (aD g) f [x] l
  rw[List.singleton_append] at b c
  rw[b,c,aa4,aa4]
  have e:=rK a l
  by_cases d:0<=x
  .rw[mV d,pX d]
   simp only[aaN,aa8];omega
  .have:=a x (by omega)
   simp only[aaN];omega
theorem XL {g:af} (a:∀ r∈g.rules,r.right.length<=6) (i:Int):(FF g i).length<=6:=by
 simp only[FF,aaA]
 cases hr:g.rules[i.toNat]? with
 | none=>simp
 | some r=>simpa using a r (aaI hr)
theorem Im {g:af} (b:∀ r∈g.rules,r.right.length<=6):∀ (f:Nat) (l:List Int),(eA g (aD g) f l).length<=l.length+6 * (fj g (aD g) f l).length
 | 0,l=>rK (λx a=>by simp[eA,show ¬ 0<=x by omega]) l
 | f+1,l=>rK (λx a=>by
  have i2:=Im b f (FF g (bW (aD g) (du x)).au)
  have:=XL b (bW (aD g) (du x)).au
  rw[pv a,pr a]
  simp only[aaN];omega) l
def dy (g:af) (l:List Int):List Int × Int :=
 if (bp g && l.all (dL g))=true then
  (if (cb (aD g) l bF).2=false then ([],9) else if 300 < (cb (aD g) l bF).1.rules∨60 < (cb (aD g) l bF).1.ai then ([],13) else (eA g (aD g) g.al.length l,0))
 else ([],1)
inductive Et (g:af):List Int->List Int->List Int->Prop
 | nil:Et g [] [] []
 | term (s:Int) (l t w:List Int):0<=s->Et g l t w->Et g (s :: l) t (s :: w)
 | vZ (s:Int) (l:List Int) (k:Nat) (R:aX) (t1 w1 t w:List Int):s < 0->g.rules[k]?=some R->R.left = -1 - s->Et g R.right t1 w1->Et g l t w->Et g (s :: l) (((k:Int) :: t1) ++ t) (w1 ++ w)
theorem YT {g:af} {l t w:List Int} (h:Et g l t w):∀ (a b:List Int),Sp g (a ++ w ++ b) l a.length (a.length+w.length):=by
 induction h with
 | nil=>exact λa b=>.nil _
 | term s l t w c _ m =>
  intro a b
  refine .term s l a.length _ c ⟨s,by simp,.inl rfl⟩ ?_
  have:=m (a ++ [s]) b
  simp only[aa4,aaN,aa8,abq,abl,abk,abG] at this ⊢
  rw[show a.length+(w.length+1)=a.length+1+w.length by omega]
  exact this
 | vZ s l k R t1 f t w c n o _ _ d e =>
  intro a b
  have i:=d a (w ++ b)
  have j:=e (a ++ f) b
  simp only[aa4,abl] at i j ⊢
  rw[<-aca]
  exact .vZ s l R a.length (a.length+f.length) _ c (aaI n) o i j
theorem Rm {g:af} (a:∀ r∈g.rules,0<=r.left):∀ (f:Nat) (l:List Int),EB (aD g) f l->Et g l (fj g (aD g) f l) (eA g (aD g) f l):=by
 intro f
 induction f with
 | zero =>
  intro l
  induction l with
  | nil=>intro _;rw[wi,sV];exact .nil
  | cons s l j =>
   intro h
   have b:=Gf h s (by simp)
   have d:=jD g (aD g) 0 [s] l
   have e:=jb g (aD g) 0 [s] l
   rw[List.singleton_append] at d e
   rw[d,e,pX b,mV b]
   exact .term s l _ _ b (j λx k=>h x (by simp[k]))
 | succ f m =>
  intro l
  induction l with
  | nil=>intro _;rw[wi,sV];exact .nil
  | cons s l j =>
   intro h
   have v:=j λx k=>h x (by simp[k])
   have d:=jD g (aD g) (f+1) [s] l
   have e:=jb g (aD g) (f+1) [s] l
   rw[List.singleton_append] at d e
   rw[d,e]
   by_cases b:0<=s
   .rw[pX b,mV b]
    exact .term s l _ _ b v
   .obtain⟨hk,w⟩:=h s (by simp) (by omega)
    obtain⟨i,R,hi,n,o,p,z⟩:=yK (f:=f) hk (by push_cast at w;exact w)
    rw[pr (by omega),pv (by omega),o,hi]
    have q:R.left = -1 - s:=by
     obtain⟨y,A,c,t,_,u,_⟩:=Da hk
     have:(y:Int)=i:=by rw[<-hi,u];rfl
     have:y=i:=by omega
     subst this
     rw[n] at c
     simp at c;subst c
     have:=a R (aaI n)
     unfold du at t
     omega
    exact .vZ s l i R _ _ _ _ (by omega) n q (m R.right p) v
theorem Tx {g:af} (d:∀ r∈g.rules,∀ s∈r.right,dL g s=true) {l t w:List Int} (h:Et g l t w):(∀ s∈l,dL g s=true)->∀ x∈w,0<=x/\x < g.ai.length:=by
 induction h with
 | nil=>simp
 | term s l t w e _ m =>
  intro c x a
  rcases aaT.1 a with rfl | a
  .have:=c x (by simp)
   unfold dL at this
   rw[aaF e] at this
   exact⟨e,by simpa using this⟩
  .exact m (λs d=>c s (by simp[d])) x a
 | vZ s l k R t1 o t w e n c _ _ f i =>
  intro c x a
  rcases aa1.1 a with a | a
  .exact f (λj b=>d R (aaI n) j b) x a
  .exact i (λj b=>c j (by simp[b])) x a
theorem YF:tC.Ok:=by
 refine⟨by unfold aK;decide,by unfold aK;decide,by unfold aK;decide,by unfold bM;decide,?_,?_⟩
 .intro t a;simp[tC] at a
 .intro r hr;simp[tC] at hr
section
variable {g r:af} {p q:List Bool} {o:List Int}
end
theorem bytes_beq (a b:ByteArray):(a == b)=decide (a=b):=by
 cases a with | mk a=>cases b with | mk b =>
 rw[abD]
 show (ByteArray.beq ⟨a⟩ ⟨b⟩=true)↔_
 simp only[ByteArray.beq]
 simp
theorem HX (a b:ByteArray):jT a b=decide (a=b):=by
 cases a with | mk a=>cases b with | mk b =>
 rw[abD]
 simp[jT]
theorem rv {α:Type} {a b:List α} {i:Nat} {x y:α} (c:a[i]?=some x) (d:b[i]?=some y) (h:a.take i=b.take i) (e:x=y):a.take (i+1)=b.take (i+1):=by
 rw[aa3,aa3,h,c,d,e]
theorem uE {α:Type} {a b:List α} {i:Nat} (c:a.length<=i) (d:b.length<=i) (h:a.take i=b.take i):a=b:=by
 rwa [aaS c,aaS d] at h
theorem zM {α:Type} {a b:List α} {i:Nat} {x y:α} (d:a[i]?=some x) (c:b[i]?=some y) (e:x≠y):a≠b:=by
 rintro rfl;rw[d] at c;exact e (by simpa using c)
theorem uF {α:Type} {a b:List α} (h:¬ a.length=b.length):a≠b:=λe=>h (by rw[e])
theorem C7 (x y:Term):iA Tryz.prog 9998 #[.string x.name,.int .i64 x.level,.int .i64 x.assoc] #[.string y.name,.int .i64 y.level,.int .i64 y.assoc]
  [{ name:= "Name",type:=9,offset:=0,embedded:=false,tag:= "",pkgPath:= "",byteOffset:=0 },{ name:= "Level",type:=3,offset:=1,embedded:=false,tag:= "",pkgPath:= "",byteOffset:=16 },
   { name:= "Assoc",type:=3,offset:=2,embedded:=false,tag:= "",pkgPath:= "",byteOffset:=24 }] (x.name == y.name && (x.level == y.level && (x.assoc == y.assoc && true))) :=
 .str _ _ _ _ _ (by decide) Tryz.underlying9 rfl rfl (.int _ _ _ _ _ _ (by decide) Tryz.underlying3 rfl rfl (.int _ _ _ _ _ _ (by decide) Tryz.underlying3 rfl rfl .nil))
theorem Oj (x y:Term):(x.name == y.name && (x.level == y.level && (x.assoc == y.assoc && true)))=decide (x=y):=by
 rw[bytes_beq,abD]
 cases x;cases y
 simp
theorem WX (a b:Int):(a == b)=decide (a=b):=by rw[abD];simp
theorem Vd (x y:aX):decide (x=y)=(decide (x.left=y.left) && (decide (x.prec=y.prec) && decide (x.right=y.right))):=by
 cases x;cases y
 rw[abD]
 simp[and_comm]
theorem JQ (x y:af):decide (x=y)=(decide (x.ai=y.ai) && (decide (x.al=y.al) && (decide (x.rules=y.rules) && decide (x.start=y.start)))):=by
 cases x;cases y
 rw[abD]
 simp
theorem HL (g k:af):∀ v∈[V.agg (ag g),V.agg (ag k)],Tree v:=by
 intro v a;simp at a
 rcases a with rfl | rfl <;> exact bL _ (cd _)
def pD:SC :=
 ae [ae [ab [aa 42 5,ao 43 0 2,ak 44 43,aN 45 44,aQ 46 .lss 42 45],bX 46 (.exit 0)],.block 1 (ae [ab [ao 49 0 2,ak 50 49,aa 51 5,aO 52 3 50 51,aZ 53 3 52,ao 54 0 3,ak 55 54,aa 56 5,aO 57 3 55 56,aZ 58 3 57,((some 59),.op (.old (.binOp .neq 130 (.tmp 53) (.tmp 58) 130) 4))],bb 59 (ae [ab [bB 4 false],.ret])]),ab [aa 47 5,aF 48 .add 47 1,aa 5 48]]
def qh:SC :=
 ae [ae [ab [aa 60 6,ao 61 1 2,ak 62 61,aN 63 62,aQ 64 .lss 60 63],bX 64 (.exit 2)],.block 3 (ae [ab [ao 67 1 2,ak 68 67,aa 69 6,aO 70 1 68 69,ak 71 70,ao 72 1 3,ak 73 72,aa 74 6,aO 75 1 73 74,ak 76 75,((some 77),.op (.Ae .neq (.tmp 71) (.tmp 76)))],bb 77 (ae [ab [bB 4 false],.ret])]),ab [aa 65 6,aF 66 .add 65 1,aa 6 66]]
def qk:SC :=
 ae [ae [ab [aa 78 7,ao 79 2 2,ak 80 79,aN 81 80,aQ 82 .lss 78 81],bX 82 (.exit 4)],.block 5 (ae [ab [ao 85 2 2,ak 86 85,aa 87 7,aO 88 3 86 87,aZ 89 3 88,ao 90 2 3,ak 91 90,aa 92 7,aO 93 3 91 92,aZ 94 3 93,((some 8),.op (.alloc [(.val (.int .i64 0)),(.emp 1),(.val (.int .i64 0))])),((some 9),.op (.alloc [(.val (.int .i64 0)),(.emp 1),(.val (.int .i64 0))])),cD 3 8 89,cD 3 9 94],.region false [⟨none,[ao 95 0 8,ak 96 95,ao 97 0 9,ak 98 97,aQ 99 .neq 96 98,aa 100 99]⟩,⟨(some (100,false)),[ao 101 2 8,ak 102 101,ao 103 2 9,ak 104 103,aQ 105 .neq 102 104]⟩,⟨none,[cy 106 100 105,aa 107 106]⟩,⟨(some (107,false)),[ao 108 1 8,ak 109 108,ao 110 1 9,ak 111 110,bk 112 26 [109,111],c9 113 112]⟩,⟨none,[cy 114 107 113]⟩],bb 114 (ae [ab [bB 4 false],.ret])]),ab [aa 83 7,aF 84 .add 83 1,aa 7 84]]
def sR:SF:=⟨ae [ab [cF 2 0,cF 3 1,bB 4 false],ae [.region false [⟨none,[ao 10 0 2,ak 11 10,aN 12 11,ao 13 0 3,ak 14 13,aN 15 14,aQ 16 .neq 12 15,aa 17 16]⟩,⟨(some (17,false)),[ao 18 1 2,ak 19 18,aN 20 19,ao 21 1 3,ak 22 21,aN 23 22,aQ 24 .neq 20 23]⟩,⟨none,[cy 25 17 24,aa 26 25]⟩,⟨(some (26,false)),[ao 27 2 2,ak 28 27,aN 29 28,ao 30 2 3,ak 31 30,aN 32 31,aQ 33 .neq 29 32]⟩,⟨none,[cy 34 26 33,aa 35 34]⟩,⟨(some (35,false)),[ao 36 3 2,ak 37 36,ao 38 3 3,ak 39 38,aQ 40 .neq 37 39]⟩,⟨none,[cy 41 35 40]⟩],bb 41 (ae [ab [bB 4 false],.ret])],ae [ab [aR 5 0],bZ 0 pD],ae [ab [aR 6 0],bZ 2 qh],ae [ab [aR 7 0],bZ 4 qk],ab [bB 4 true],.ret],
 [.tmp 4],115⟩
theorem yk:aP Tryz.prog 31 [2,3]=some sR:=by kernel_rfl
theorem SS (g k:af) (o:g.Ok):az Tryz.prog 31 [.agg (ag g),.agg (ag k)] (gb (decide (g=k))):=by
 refine az.val (HL g k) λH=>?_
 rw[JQ]
 refine aw.of mixed yk ?_
 have h1:=o.ai
 have v:=o.al
 have w:=o.rules
 unfold aK at h1 v w
 simp(disch:=omega)only[↓wr,seval,wq,sR,ag,encS]
 repeat' (first | ((first|apply aj.dec|apply aj.eq|apply aj.ne|apply aj.split)<;>intro)|(simp(disch:=omega)only[↓wr,seval,wq,ag,encS]))
 .rename_i e;rw[decide_eq_false (uF (by omega))];rfl
 .rename_i e;rw[decide_eq_false (p:=g.al=k.al) (uF (by omega))];simp
 .rename_i e;rw[decide_eq_false (p:=g.rules=k.rules) (uF (by omega))];simp
 .rename_i e;rw[decide_eq_false e];simp
 rename_i A B C z
 refine ba.up g.ai.length (λi T _=>g.ai.take i=k.ai.take i/\T 2=.aL (ag g) 0/\T 3=.aL (ag k) 0/\T 5=gi i) ⟨by simp,rfl,rfl,rfl⟩ ?_
 rintro i m T H hm ⟨hi,t2,t3,t5⟩
 simp(disch:=omega)only[↓wr,seval,wq,pD,t2,t3,t5,ag,encS]
 apply aj.dec<;>intro d
 .have a:=aaB (l:=g.ai) (i:=i) (by omega)
  have b:=aaB (l:=k.ai) (i:=i) (by omega)
  generalize g.ai[i]'(by omega)=x at a
  generalize k.ai[i]'(by omega)=y at b
  simp(disch:=omega)only[↓wr,seval,wq,t2,t3,t5,aaE,a,b,dg,ag,encS]
  refine jd (xs:=#[.string x.name,.int .i64 x.level,.int .i64 x.assoc]) (ys:=#[.string y.name,.int .i64 y.level,.int .i64 y.assoc]) Tryz.underlying130 (by kernel_rfl) (by kernel_rfl) ?_ ?_ (C7 x y) (.inr ⟨rfl,rfl⟩) ?_
  .rfl
  .rfl
  rw[Oj]
  simp(disch:=omega)only[↓wr,seval,wq,t2,t3,t5]
  apply aj.split<;>intro e
  .simp(disch:=omega)only[↓wr,seval,wq,t2,t3,t5]
   exact aG hm (by omega) ⟨rv a b hi (by simpa using e),t2,t3,rfl⟩
  .simp(disch:=omega)only[↓wr,seval,wq,t2,t3,t5]
   rw[decide_eq_false (zM a b (by simpa using e))];rfl
 have s:g.ai=k.ai:=uE (by omega) (by omega) hi
 simp(disch:=omega)only[↓wr,seval,wq,t2,t3,t5]
 clear hi d hm
 refine ba.up g.al.length (λi T _=>g.al.take i=k.al.take i/\T 2=.aL (ag g) 0/\T 3=.aL (ag k) 0/\T 6=gi i) ⟨by simp,t2,t3,rfl⟩ ?_
 clear t2 t3 t5 T H i m
 rintro i m T H hm ⟨hi,t2,t3,t5⟩
 simp(disch:=omega)only[↓wr,seval,wq,qh,t2,t3,t5,ag,encS]
 apply aj.dec<;>intro d
 .have a:=aaB (l:=g.al) (i:=i) (by omega)
  have b:=aaB (l:=k.al) (i:=i) (by omega)
  generalize g.al[i]'(by omega)=x at a
  generalize k.al[i]'(by omega)=y at b
  simp(disch:=omega)only[↓wr,seval,wq,t2,t3,t5,aaE,a,b,dg,ag,encS,HX]
  apply aj.split<;>intro e
  .simp(disch:=omega)only[↓wr,seval,wq,t2,t3,t5]
   exact aG hm (by omega) ⟨rv a b hi (by simpa using e),t2,t3,rfl⟩
  .simp(disch:=omega)only[↓wr,seval,wq,t2,t3,t5]
   rw[decide_eq_false (p:=g.al=k.al) (zM a b (by simpa using e))];simp
 have t:g.al=k.al:=uE (by omega) (by omega) hi
 simp(disch:=omega)only[↓wr,seval,wq,t2,t3,t5]
 clear hi d hm
 refine ba.up g.rules.length (λi T _=>g.rules.take i=k.rules.take i/\T 2=.aL (ag g) 0/\T 3=.aL (ag k) 0/\T 7=gi i) ⟨by simp,t2,t3,rfl⟩ ?_
 clear t2 t3 t5 T H i m
 rintro i m T H hm ⟨hi,t2,t3,t5⟩
 simp(disch:=omega)only[↓wr,seval,wq,qk,t2,t3,t5,ag,encS]
 apply aj.dec<;>intro d
 .have a:=aaB (l:=g.rules) (i:=i) (by omega)
  have b:=aaB (l:=k.rules) (i:=i) (by omega)
  have j:g.rules[i]'(by omega)∈g.rules:=aaL _
  generalize g.rules[i]'(by omega)=x at a j
  generalize k.rules[i]'(by omega)=y at b
  have q:=(o.au x j).2.2.1
  simp(disch:=omega)only[↓wr,seval,wq,t2,t3,t5,aaE,a,b,bg,encI,ag,encS]
  intro n D
  try simp(disch:=omega)only[↓wr,seval,wq,t2,t3,t5,bg,encI]
  intro E r
  have c:=(cq r cm).1
  try simp(disch:=omega)only[↓wr,seval,wq,t2,t3,t5,bg,encI,c,c.symm]
  have f:x≠y->V.val (Value.bool false)=V.val (Value.bool (decide (g.ai=k.ai) && (decide (g.al=k.al) && (decide (g.rules=k.rules) && decide (g.start=k.start))))):=λe=>by
   rw[decide_eq_false (p:=g.rules=k.rules) (zM a b e)];simp
  repeat' (first | ((first|apply aj.dec|apply aj.eq|apply aj.ne|apply aj.split)<;>intro)|(refine ax.pure (Xd x.right y.right q) ?_)|(simp(disch:=omega)only[↓wr,seval,wq,t2,t3,t5,bg,encI,c,c.symm]))
  .rename_i e;exact f λh=>e (by rw[h])
  .rename_i e;exact f λh=>e (by rw[h])
  .rename_i u t s
   refine aG hm (by omega) ⟨rv a b hi ?_,t2,t3,rfl⟩
   cases x;cases y
   simp_all
  .rename_i e;exact f λh=>by rw[h] at e;simp at e
 .have u:g.rules=k.rules:=uE (by omega) (by omega) hi
  simp(disch:=omega)only[↓wr,seval,wq,t2,t3,t5]
  simp[s,t,u,z]
def gX:SC :=
 ae [ab [aQ 14 .lss 13 12],bX 14 (.exit 0),.block 1 (ae [ab [aa 15 13,aa 5 15],ab [aa 16 0,aa 17 5,aO 18 3 16 17,aZ 19 3 18,aa 20 1,aa 21 5,aO 22 3 20 21,aZ 23 3 22,((some 24),.op (.old (.binOp .neq 130 (.tmp 19) (.tmp 23) 130) 4))],bb 24 (ae [ab [bB 4 false],.ret])]),ab [aF 25 .add 13 1,aa 13 25]]
def iv:SF:=⟨ae [ab [bB 4 false],ae [ab [aa 6 0,aN 7 6,aa 8 1,aN 9 8,aQ 10 .neq 7 9],bb 10 (ae [ab [bB 4 false],.ret])],ae [ab [aa 11 0,aN 12 11,aR 13 0],bZ 0 gX],ab [bB 4 true],.ret],
 [.tmp 4],26⟩
theorem lC:aP Tryz.prog 203 []=some iv:=by kernel_rfl
def iZ:SC :=
 ae [ab [aQ 14 .lss 13 12],bX 14 (.exit 0),.block 1 (ae [ab [aa 15 13,aa 5 15],ab [aa 16 0,aa 17 5,aO 18 1 16 17,ak 19 18,aa 20 1,aa 21 5,aO 22 1 20 21,ak 23 22,((some 24),.op (.Ae .neq (.tmp 19) (.tmp 23)))],bb 24 (ae [ab [bB 4 false],.ret])]),ab [aF 25 .add 13 1,aa 13 25]]
def ju:SF:=⟨ae [ab [bB 4 false],ae [ab [aa 6 0,aN 7 6,aa 8 1,aN 9 8,aQ 10 .neq 7 9],bb 10 (ae [ab [bB 4 false],.ret])],ae [ab [aa 11 0,aN 12 11,aR 13 0],bZ 0 iZ],ab [bB 4 true],.ret],
 [.tmp 4],26⟩
theorem nt:aP Tryz.prog 204 []=some ju:=by kernel_rfl
def kH:SC :=
 ae [ab [aQ 14 .lss 13 12],bX 14 (.exit 0),.block 1 (ae [ab [aa 15 13,aa 5 15],ab [aa 16 0,aa 17 5,aO 18 1 16 17,ak 19 18,aa 20 1,aa 21 5,aO 22 1 20 21,ak 23 22,aQ 24 .neq 19 23],bb 24 (ae [ab [bB 4 false],.ret])]),ab [aF 25 .add 13 1,aa 13 25]]
def lI:SF:=⟨ae [ab [bB 4 false],ae [ab [aa 6 0,aN 7 6,aa 8 1,aN 9 8,aQ 10 .neq 7 9],bb 10 (ae [ab [bB 4 false],.ret])],ae [ab [aa 11 0,aN 12 11,aR 13 0],bZ 0 kH],ab [bB 4 true],.ret],
 [.tmp 4],26⟩
theorem rF:aP Tryz.prog 254 []=some lI:=by kernel_rfl
def CX:SF:=⟨ae [ab [cF 2 0,cF 3 1,bB 4 false],.region false [⟨none,[ao 5 0 2,ak 6 5,ao 7 0 3,ak 8 7,aQ 9 .eql 6 8,aa 10 9]⟩,⟨(some (10,true)),[ao 11 2 2,ak 12 11,ao 13 2 3,ak 14 13,aQ 15 .eql 12 14]⟩,⟨none,[eO 16 10 15,aa 17 16]⟩,⟨(some (17,true)),[ao 18 1 2,ak 19 18,ao 20 1 3,ak 21 20,bk 22 254 [19,21]]⟩,⟨none,[eO 23 17 22,aa 4 23]⟩],.ret],
 [.tmp 4],24⟩
theorem GG:aP Tryz.prog 206 [2,3]=some CX:=by kernel_rfl
def dV:SC :=
 ae [ab [aQ 18 .lss 17 16],bX 18 (.exit 0),.block 1 (ae [ab [aa 19 17,aO 20 3 15 17,aZ 21 3 20,((some 8),.op (.alloc [(.val (.int .i64 0)),(.emp 1),(.val (.int .i64 0))])),aa 7 19,cD 3 8 21],ab [aa 22 1,aa 23 7,aO 24 3 22 23,aZ 25 3 24,((some 9),.op (.alloc [(.val (.int .i64 0)),(.emp 1),(.val (.int .i64 0))])),cD 3 9 25],ab [aa 26 2,aZ 27 3 8,aZ 28 3 9,((some 29),.call (.tmp 26) [(.tmp 27),(.tmp 28)]),c9 30 29],bb 30 (ae [ab [bB 6 false],.ret])]),ab [aF 31 .add 17 1,aa 17 31]]
def dY:SF:=⟨ae [ab [bB 6 false],ae [ab [aa 10 0,aN 11 10,aa 12 1,aN 13 12,aQ 14 .neq 11 13],bb 14 (ae [ab [bB 6 false],.ret])],ae [ab [aa 15 0,aN 16 15,aR 17 0],bZ 0 dV],ab [bB 6 true],.ret],
 [.tmp 6],32⟩
theorem gn:aP Tryz.prog 205 []=some dY:=by kernel_rfl
def En:SF:=⟨ae [ab [cF 2 0,cF 3 1,bB 4 false],.region false [⟨none,[ao 5 0 2,ak 6 5,ao 7 0 3,ak 8 7,bk 9 203 [6,8],aa 10 9]⟩,⟨(some (10,true)),[ao 11 1 2,ak 12 11,ao 13 1 3,ak 14 13,bk 15 204 [12,14]]⟩,⟨none,[eO 16 10 15,aa 17 16]⟩,⟨(some (17,true)),[ao 18 2 2,ak 19 18,ao 20 2 3,ak 21 20,qw 22 205 [(.tmp 19),(.tmp 21),(.val (.fn 206 [] []))]]⟩,⟨none,[eO 23 17 22,aa 24 23]⟩,⟨(some (24,true)),[ao 25 3 2,ak 26 25,ao 27 3 3,ak 28 27,aQ 29 .eql 26 28]⟩,⟨none,[eO 30 24 29,aa 4 30]⟩],.ret],
 [.tmp 4],31⟩
theorem IZ:aP Tryz.prog 143 [2,3]=some En:=by kernel_rfl
theorem Ue {α:Type} {f g:α->List V} {a b:List α} (d:∀ x,∀ v∈f x,Tree v) (e:∀ x,∀ v∈g x,Tree v):∀ v∈[V.aU (a.map f),V.aU (b.map g)],Tree v:=by
 intro v c;simp at c
 rcases c with rfl | rfl
 .exact ew _ _ λx _=>d x
 .exact ew _ _ λx _=>e x
theorem SH (a b:List Term) (l:aK a) (H:View):aw Tryz.prog 203 [.aU (a.map dg),.aU (b.map dg)] H λr _=>r=gb (decide (a=b)):=by
 refine aw.of mixed lC ?_
 unfold aK at l
 simp(disch:=omega)only[↓wr,seval,wq,iv]
 apply aj.ne<;>intro h
 .simp(disch:=omega)only[↓wr,seval,wq]
  rw[decide_eq_false (uF (by omega))]
 .simp(disch:=omega)only[↓wr,seval,wq]
  refine ba.up a.length (λi T _=>a.take i=b.take i/\T 0=.aU (a.map dg)/\T 1=.aU (b.map dg)/\T 12=gi a.length/\T 13=gi i) ⟨by simp,rfl,rfl,rfl,rfl⟩ ?_
  rintro i k T H hk ⟨hi,c,h1,d,f⟩
  simp(disch:=omega)only[↓wr,seval,wq,gX,c,h1,d,f]
  apply aj.dec<;>intro m
  .have g:a[i]?=some (a[i]'(by omega)):=aaB (by omega)
   have j:b[i]?=some (b[i]'(by omega)):=aaB (by omega)
   generalize a[i]'(by omega)=x at g
   generalize b[i]'(by omega)=y at j
   simp(disch:=omega)only[↓wr,seval,wq,c,h1,d,f,aaE,g,j,dg]
   refine jd (xs:=#[.string x.name,.int .i64 x.level,.int .i64 x.assoc]) (ys:=#[.string y.name,.int .i64 y.level,.int .i64 y.assoc]) Tryz.underlying130 (by kernel_rfl) (by kernel_rfl) ?_ ?_ (C7 x y) (.inr ⟨rfl,rfl⟩) ?_
   .rfl
   .rfl
   rw[Oj]
   simp(disch:=omega)only[↓wr,seval,wq,c,h1,d,f]
   apply aj.split<;>intro e
   .simp(disch:=omega)only[↓wr,seval,wq,c,h1,d,f]
    exact aG hk (by omega) ⟨rv g j hi (by simpa using e),c,h1,d,rfl⟩
   .simp(disch:=omega)only[↓wr,seval,wq,c,h1,d,f]
    rw[decide_eq_false (zM g j (by simpa using e))]
  .simp(disch:=omega)only[↓wr,seval,wq,c,h1,d,f]
   rw[ack (uE (by omega) (by omega) hi)]
theorem RT (a b:List ByteArray) (l:aK a) (H:View):aw Tryz.prog 204 [encS a,encS b] H λr _=>r=gb (decide (a=b)):=by
 refine aw.of mixed nt ?_
 unfold aK at l
 simp(disch:=omega)only[↓wr,seval,wq,ju,encS]
 apply aj.ne<;>intro h
 .simp(disch:=omega)only[↓wr,seval,wq]
  rw[decide_eq_false (uF (by omega))]
 .simp(disch:=omega)only[↓wr,seval,wq]
  refine ba.up a.length (λi T _=>a.take i=b.take i/\T 0=encS a/\T 1=encS b/\T 12=gi a.length/\T 13=gi i) ⟨by simp,rfl,rfl,rfl,rfl⟩ ?_
  rintro i k T H hk ⟨hi,c,h1,d,f⟩
  simp(disch:=omega)only[↓wr,seval,wq,iZ,c,h1,d,f,encS]
  apply aj.dec<;>intro m
  .have g:a[i]?=some (a[i]'(by omega)):=aaB (by omega)
   have j:b[i]?=some (b[i]'(by omega)):=aaB (by omega)
   generalize a[i]'(by omega)=x at g
   generalize b[i]'(by omega)=y at j
   simp(disch:=omega)only[↓wr,seval,wq,c,h1,d,f,encS,aaE,g,j,HX]
   apply aj.split<;>intro e
   .simp(disch:=omega)only[↓wr,seval,wq,c,h1,d,f]
    exact aG hk (by omega) ⟨rv g j hi (by simpa using e),c,h1,d,rfl⟩
   .simp(disch:=omega)only[↓wr,seval,wq,c,h1,d,f]
    rw[decide_eq_false (zM g j (by simpa using e))]
  .simp(disch:=omega)only[↓wr,seval,wq,c,h1,d,f]
   rw[ack (uE (by omega) (by omega) hi)]
theorem Ul (a b:List Int) (l:aK a) (H:View):aw Tryz.prog 254 [encI a,encI b] H λr _=>r=gb (decide (a=b)):=by
 refine aw.of mixed rF ?_
 unfold aK at l
 simp(disch:=omega)only[↓wr,seval,wq,lI,encI]
 apply aj.ne<;>intro h
 .simp(disch:=omega)only[↓wr,seval,wq]
  rw[decide_eq_false (uF (by omega))]
 .simp(disch:=omega)only[↓wr,seval,wq]
  refine ba.up a.length (λi T _=>a.take i=b.take i/\T 0=encI a/\T 1=encI b/\T 12=gi a.length/\T 13=gi i) ⟨by simp,rfl,rfl,rfl,rfl⟩ ?_
  rintro i k T H hk ⟨hi,c,h1,d,f⟩
  simp(disch:=omega)only[↓wr,seval,wq,kH,c,h1,d,f,encI]
  apply aj.dec<;>intro m
  .have g:a[i]?=some (a[i]'(by omega)):=aaB (by omega)
   have j:b[i]?=some (b[i]'(by omega)):=aaB (by omega)
   generalize a[i]'(by omega)=x at g
   generalize b[i]'(by omega)=y at j
   simp(disch:=omega)only[↓wr,seval,wq,c,h1,d,f,encI,aaE,g,j]
   apply aj.ne<;>intro e
   .simp(disch:=omega)only[↓wr,seval,wq,c,h1,d,f]
    rw[decide_eq_false (zM g j e)]
   .simp(disch:=omega)only[↓wr,seval,wq,c,h1,d,f]
    exact aG hk (by omega) ⟨rv g j hi e,c,h1,d,rfl⟩
  .simp(disch:=omega)only[↓wr,seval,wq,c,h1,d,f]
   rw[ack (uE (by omega) (by omega) hi)]
theorem Rp (a b:List Term) (c:aK a):az Tryz.prog 203 [.aU (a.map dg),.aU (b.map dg)] (gb (decide (a=b))):=az.val (Ue vK vK) (SH a b c)
theorem Tq (a b:List ByteArray) (d:aK a):az Tryz.prog 204 [encS a,encS b] (gb (decide (a=b))):=az.val (by
 intro v c;simp at c
 rcases c with rfl | rfl <;> exact BC _) (RT a b d)
theorem Tv (a b:List Int) (d:aK a):az Tryz.prog 254 [encI a,encI b] (gb (decide (a=b))):=az.val (by
 intro v c;simp at c
 rcases c with rfl | rfl <;> exact cx _) (Ul a b d)
theorem UH (x y:aX) (b:aK x.right):az Tryz.prog 206 [.agg (bg x),.agg (bg y)] (gb (decide (x=y))):=by
 refine az.val (by
  intro v a;simp at a
  rcases a with rfl | rfl <;> exact bL _ (ja _)) λH=>?_
 rw[Vd]
 refine aw.of mixed GG ?_
 simp(disch:=omega)only[↓wr,seval,wq,CX,bg,encI]
 repeat' (first | ((first|apply aj.dec|apply aj.eq|apply aj.ne|apply aj.split)<;>intro)|(refine ax.pure (Tv x.right y.right b) ?_)|(simp(disch:=omega)only[↓wr,seval,wq,bg]))
 all_goals simp[*]
theorem Ji (a b:List aX) (s:aK a) (hr:∀ r∈a,aK r.right) (H:View):aw Tryz.prog 205 [.aU (a.map bg),.aU (b.map bg),.fn 206 [] []] H λr _=>r=gb (decide (a=b)):=by
 refine aw.of mixed gn ?_
 unfold aK at s
 simp(disch:=omega)only[↓wr,seval,wq,dY]
 apply aj.ne<;>intro h
 .simp(disch:=omega)only[↓wr,seval,wq]
  rw[decide_eq_false (uF (by omega))]
 .simp(disch:=omega)only[↓wr,seval,wq]
  refine ba.up a.length (λi T _=>a.take i=b.take i/\T 15=.aU (a.map bg)/\T 1=.aU (b.map bg)/\T 2=.fn 206 [] []/\T 16=gi a.length/\T 17=gi i) ⟨by simp,rfl,rfl,rfl,rfl,rfl⟩ ?_
  rintro i k T H hk ⟨hi,c,h1,d,f,g⟩
  simp(disch:=omega)only[↓wr,seval,wq,dV,c,h1,d,f,g]
  apply aj.dec<;>intro t
  .have j:a[i]?=some (a[i]'(by omega)):=aaB (by omega)
   have l:b[i]?=some (b[i]'(by omega)):=aaB (by omega)
   have hm:a[i]'(by omega)∈a:=aaL _
   generalize a[i]'(by omega)=x at j hm
   generalize b[i]'(by omega)=y at l
   have p:=hr x hm
   simp(disch:=omega)only[↓wr,seval,wq,c,h1,d,f,g,aaE,j,l,bg,encI]
   intro n u
   try simp(disch:=omega)only[↓wr,seval,wq,c,h1,d,f,g,aaE,j,l,bg,encI]
   intro m q
   have o:=(cq q cm).1
   try simp(disch:=omega)only[↓wr,seval,wq,c,h1,d,f,g,aaE,j,l,bg,encI,o,o.symm]
   refine ax.pure (UH x y p) ?_
   simp(disch:=omega)only[↓wr,seval,wq,c,h1,d,f,g]
   apply aj.split<;>intro e
   .simp(disch:=omega)only[↓wr,seval,wq,c,h1,d,f,g]
    exact aG hk (by omega) ⟨rv j l hi (by simpa using e),c,h1,d,f,rfl⟩
   .simp(disch:=omega)only[↓wr,seval,wq,c,h1,d,f,g]
    rw[decide_eq_false (zM j l (by simpa using e))]
  .simp(disch:=omega)only[↓wr,seval,wq,c,h1,d,f,g]
   rw[ack (uE (by omega) (by omega) hi)]
theorem Lc (a b:List aX) (d:aK a) (hr:∀ r∈a,aK r.right):az Tryz.prog 205 [.aU (a.map bg),.aU (b.map bg),.fn 206 [] []] (gb (decide (a=b))):=az.val (by
 intro v c;simp at c
 rcases c with rfl | rfl | rfl
 .exact ew _ _ λx _=>ja x
 .exact ew _ _ λx _=>ja x
 .exact GR (by simp) (by simp)) (Ji a b d hr)
theorem VH (g k:af) (a:g.Ok):az Tryz.prog 143 [.agg (ag g),.agg (ag k)] (gb (decide (g=k))):=by
 refine az.val (HL g k) λH=>?_
 rw[JQ]
 refine aw.of mixed IZ ?_
 simp(disch:=omega)only[↓wr,seval,wq,En,ag,encS]
 repeat' (first | ((first|apply aj.dec|apply aj.eq|apply aj.ne|apply aj.split)<;>intro)|(refine ax.pure (Rp g.ai k.ai a.ai) ?_)|(refine ax.pure (Tq g.al k.al a.al) ?_)|(refine ax.pure (Lc g.rules k.rules a.rules (λr hr=>(a.au r hr).2.2.1)) ?_)|(simp(disch:=omega)only[↓wr,seval,wq,ag,encS]))
 all_goals simp_all [WX]
def II:SF:=⟨ae [ab [cF 1 0,bB 2 false],ab [aZ 7 4 1,bk 8 92 [7],aa 6 8,dr 9 0 6,dr 10 1 6,dr 11 2 6,((some 3),.op (.alloc [(.emp 1),(.emp 1),(.emp 1),(.val (.int .i64 0))])),cD 4 3 9,aa 4 10,aa 5 11],.region false [⟨none,[aa 12 5,aF 13 .eql 12 0,aa 14 13]⟩,⟨(some (14,true)),[aZ 15 4 1,aZ 16 4 3,bk 17 143 [15,16]]⟩,⟨none,[eO 18 14 17,aa 2 18]⟩],.ret],
 [.tmp 2],19⟩
theorem JX:aP Tryz.prog 82 [1]=some II:=by kernel_rfl
def uN:SF:=⟨ae [ab [cF 1 0,bB 2 false],ab [aZ 7 4 1,bk 8 47 [7],aa 6 8,dr 9 0 6,dr 10 1 6,dr 11 2 6,((some 3),.op (.alloc [(.emp 1),(.emp 1),(.emp 1),(.val (.int .i64 0))])),cD 4 3 9,aa 4 10,aa 5 11],.region false [⟨none,[aa 12 5,aF 13 .eql 12 0,aa 14 13]⟩,⟨(some (14,true)),[aZ 15 4 1,aZ 16 4 3,bk 17 31 [15,16]]⟩,⟨none,[eO 18 14 17,aa 2 18]⟩],.ret],
 [.tmp 2],19⟩
theorem Ax:aP Tryz.prog 15 [1]=some uN:=by kernel_rfl
theorem YU (g:af) (a:g.Ok) (b:g.Small):az Tryz.prog 82 [.agg (ag g)] (gb (isRed g)):=by
 refine az.val (eK g) λH=>?_
 refine aw.of mixed JX ?_
 simp(disch:=omega)only[↓wr,seval,wq,II,ag,encS]
 refine ax.pure (P5 g a b).pure ?_
 unfold isRed
 generalize gv g=x
 obtain⟨k,il,e⟩:=x
 simp(disch:=omega)only[↓wr,seval,wq,zL,ag,encS]
 intro n c
 apply aj.eq<;>intro h
 .simp(disch:=omega)only[↓wr,seval,wq,zL,ag,encS]
  refine ax.pure (VH g k a) ?_
  simp(disch:=omega)only[↓wr,seval,wq]
  simp[h]
 .simp(disch:=omega)only[↓wr,seval,wq]
  simp[h]
theorem Yr (g:af) (a:g.Ok):az Tryz.prog 15 [.agg (ag g)] (gb (isRed g)):=by
 refine az.val (eK g) λH=>?_
 refine aw.of mixed Ax ?_
 simp(disch:=omega)only[↓wr,seval,wq,uN,ag,encS]
 refine ax.pure (Ma g a).pure ?_
 unfold isRed
 generalize gv g=x
 obtain⟨k,il,e⟩:=x
 simp(disch:=omega)only[↓wr,seval,wq,zL,ag,encS]
 intro n b
 apply aj.eq<;>intro h
 .simp(disch:=omega)only[↓wr,seval,wq,zL,ag,encS]
  refine ax.pure (SS g k a) ?_
  simp(disch:=omega)only[↓wr,seval,wq]
  simp[h]
 .simp(disch:=omega)only[↓wr,seval,wq]
  simp[h]
def Y1:af:=⟨[⟨⟨#[39,97,39]⟩,0,0⟩,⟨⟨#[39,98,39]⟩,0,0⟩,⟨⟨#[39,99,39]⟩,0,0⟩,⟨⟨#[39,100,39]⟩,0,0⟩],[⟨#[115]⟩,⟨#[117]⟩,⟨#[118]⟩],[⟨0,[0,(-2)],0⟩,⟨0,[1],1⟩,⟨0,[],(-1)⟩,⟨1,[(-2),2],2⟩,⟨2,[3,(-1)],3⟩],0⟩
def YH:af:=⟨Y1.ai,[⟨#[115]⟩],[⟨0,[1],1⟩,⟨0,[],(-1)⟩],0⟩
theorem rp:isRed YH=true:=by kernel_rfl
theorem cM.fr {h:aE} {v t:V} (f:cM h v t):Fr h v t:=by
 induction f with
 | val v=>exact .tree _ (.val _)
 | emp k=>exact .emp k
 | sl id off len esz z es es' h1 c d e _ b=>exact .sl id off len esz z es es' h1 c d e b
 | agg cs a h1 _ b=>exact .agg cs a h1 b
 | bf cs a h1 _ b=>exact .bf cs a h1 b
noncomputable def Sf:List (FuncId × DF):=zf Tryz.prog [(251,[]),(180,[]),(236,[]),(237,[])]
theorem Sa:rW Tryz.prog Sf:=uR _ _
def ct (p:bK):List V:=[gi p.au,gi p.cE,gi p.rules,gi p.ai]
abbrev jM (P:List bK):V:=.aU (P.map ct)
theorem tX (P:List bK):Tree (jM P):=ew _ _ λx _ v a=>by
 simp[ct] at a
 rcases a with rfl | rfl | rfl | rfl <;> exact .val _
theorem XX {n:Nat} (h:uy Tryz.prog Sf (λ_ _ _=>none) 251 [jM [nI],gi n]=some (jM (List.replicate n nI))):cK Tryz.prog 251 [jM [nI],gi n] (jM (List.replicate n nI)) :=
 pL mixed Sa (PX _) (by
  intro v a;simp at a
  rcases a with rfl | rfl
  .exact tX [nI]
  .exact .val _) h
theorem QE {n:Nat} (h1:1<=n) (a:n<=16):cK Tryz.prog 251 [jM [nI],gi n] (jM (List.replicate n nI)):=by
 have:n=1∨n=2∨n=3∨n=4∨n=5∨n=6∨n=7∨n=8∨n=9∨n=10∨n=11∨n=12∨n=13∨n=14∨n=15∨n=16:=by omega
 rcases this with rfl | rfl | rfl | rfl | rfl | rfl | rfl | rfl | rfl | rfl | rfl | rfl | rfl | rfl | rfl | rfl <;> exact XX (by kernel_rfl)
theorem EU (p:bK):∀ v∈ct p,Tree v:=by
 intro v a;simp[ct] at a
 rcases a with rfl | rfl | rfl | rfl <;> exact .val _
theorem YD (h:aE) (p:bK):cM h (.agg (ct p)) (.agg (ct p)):=.agg _ _ rfl λi hi=>by
 match i,hi with
 | 0,_=>exact .val _
 | 1,_=>exact .val _
 | 2,_=>exact .val _
 | 3,_=>exact .val _
 | n+4,h=>exact absurd h (by simp[ct])
def C3 (p:bK):Prop:=gS p/\(-1<=p.au/\p.au<=1000000)/\0<=p.cE/\p.cE<=1000000
theorem VS:C3 bF:=by unfold C3 gS bF;decide
theorem Ll {x:Int} : (if x < 1048576 then x else 1048576)=min 1048576 x:=by omega
theorem XQ {x y:Int} : (if y > x then y else x)=max x y:=by omega
def Ad:SC :=
 ae [ab [aQ 12 .lss 11 10],bX 12 (.exit 0),.block 1 (ae [ab [aO 13 1 9 11,ak 14 13,aa 7 14],ae [ab [aa 15 7,aF 16 .geq 15 0],bb 16 (ae [ab [ao 17 3 4,ak 18 17,aF 19 .add 18 1,((some 20),.op (.mm false (.val (.val (.int .i64 1048576))) (.tmp 19))),ao 21 3 4,cD 1 21 20],.exit 1])],ab [aa 22 1,aa 23 7,((some 24),.op (.arith .sub (.val (.val (.int .i64 (-1)))) (.tmp 23))),aO 25 4 22 24,aZ 26 4 25,((some 8),.op (.alloc [(.val (.int .i64 0)),(.val (.int .i64 0)),(.val (.int .i64 0)),(.val (.int .i64 0))])),cD 4 8 26],ae [ab [ao 27 0 8,ak 28 27,aF 29 .lss 28 0],bb 29 (ae [ab [aZ 30 4 4,cD 4 4 30,bB 5 false],.ret])],ab [ao 31 1 4,ak 32 31,ao 33 1 8,ak 34 33,((some 35),.op (.mm true (.tmp 32) (.tmp 34))),ao 36 1 4,cD 1 36 35],.rL [(45,49)] [⟨none,[ao 37 2 4,ak 38 37,ao 39 2 8,ak 40 39,aQ 41 .add 38 40,((some 42),.op (.mm false (.val (.val (.int .i64 1048576))) (.tmp 41))),ao 43 3 4,ak 44 43,ao 45 3 8,ak 46 45,aQ 47 .add 44 46,((some 48),.op (.mm false (.val (.val (.int .i64 1048576))) (.tmp 47))),ao 49 2 4,cD 1 49 42,ao 50 3 4,cD 1 50 48]⟩]]),ab [aF 51 .add 11 1,aa 11 51]]
def CJ:SF:=⟨ae [ab [((some 4),.op (.alloc [(.val (.int .i64 0)),(.val (.int .i64 0)),(.val (.int .i64 0)),(.val (.int .i64 0))])),bB 5 false],ae [ab [aa 9 0,aN 10 9,aR 11 0],bZ 0 Ad],ab [aZ 52 4 4,cD 4 4 52,bB 5 true],.ret],
 [.cell 4 (some 4),.tmp 5],53⟩
theorem GA:aP Tryz.prog 196 []=some CJ:=by kernel_rfl
theorem B8 {P:List bK} {m:Nat} (h:m < P.length):(P.map ct)[m]?=some (ct (bW P m)):=by
 simp[bW,aaA,h]
theorem R3 (P:List bK) (o:∀ m,C3 (bW P m)) (l:List Int) (p:aK l) (t:∀ x∈l,bM x/\(x < 0->-1 - x < P.length)) :
  cK Tryz.prog 196 [encI l,jM P] (.bf [.agg (ct (cb P l bF).1),gb (cb P l bF).2]):=by
 have key:∀ H,aw Tryz.prog 196 [encI l,jM P] H λr _=>r=.bf [.agg (ct (cb P l bF).1),gb (cb P l bF).2]:=?_
 .refine cK.of (by
   intro v g;simp at g
   rcases g with rfl | rfl
   .exact cx l
   .exact tX P) ((key _).mono λr H' e A _=>?_)
  rw[e];exact Lb (YD _ _) (.val _)
 intro H
 refine aw.of mixed GA ?_
 unfold aK at p
 simp(disch:=omega)only[↓wr,seval,wq,CJ,encI]
 intro m hm
 try simp(disch:=omega)only[↓wr,seval,wq,encI]
 refine ba.up l.length (λi T H'=>∃ s:bK,C3 s/\s.au=0/\cb P (l.drop i) s=cb P l bF/\H' m=.arr 4 [ct s]/\T 1=jM P/\T 4=.ptr m 0 0/\T 9=encI l/\T 10=gi l.length/\T 11=gi i) ?_ ?_
 .exact⟨bF,VS,rfl,rfl,by simp[View.set,ct,bF],rfl,rfl,rfl,rfl,rfl⟩
 rintro i k T H hk ⟨s,u,d,a,hH,t1,t4,t9,t10,t11⟩
 unfold C3 gS at u
 simp(disch:=omega)only[↓wr,seval,wq,Ad,t1,t4,t9,t10,t11,encI]
 apply aj.dec<;>intro w
 .have h:l[i]?=some (l[i]'(by omega)):=aaB (by omega)
  have c:l[i]'(by omega)∈l:=aaL _
  rw[fq (show i < l.length by omega)] at a
  generalize l[i]'(by omega)=x at h c a
  obtain⟨⟨y,z⟩,f⟩:=t x c
  simp(disch:=omega)only[↓wr,seval,wq,t1,t4,t9,t10,t11,encI,aaE,h]
  apply aj.dec<;>intro j
  .simp(disch:=omega)only[↓wr,seval,wq,t1,t4,t9,t10,t11,encI,hH,ct,Ll]
   rw[HM (show 0<=x from j)] at a
   refine aG hk (by omega) ⟨_,?_,?_,a,?_,t1,t4,t9,t10,rfl⟩
   .unfold C3 gS;simp only;omega
   .exact d
   .simp[View.set]
  .have hm:(du x) < P.length:=by have:=f (by omega);unfold du;omega
   have hp:=o (du x)
   unfold C3 gS at hp
   simp(disch:=omega)only[↓wr,seval,wq,t1,t4,t9,t10,t11,encI,hH,B8 hm]
   simp(disch:=omega)only[↓wr,seval,wq,t1,t4,t9,t10,t11,encI,hH,ct]
   intro q n
   have b:m≠q:=by rintro rfl;rw[hH] at n;simp at n
   try simp(disch:=omega)only[↓wr,seval,wq,t1,t4,t9,t10,t11,encI,hH,b,b.symm,ct]
   apply aj.dec<;>intro he
   .simp(disch:=omega)only[↓wr,seval,wq,t1,t4,t9,t10,t11,encI,hH,b,b.symm,ct]
    rw[SM (by omega) he] at a
    rw[<-a]
   .simp(disch:=omega)only[↓wr,seval,wq,t1,t4,t9,t10,t11,encI,hH,b,b.symm,ct,Ll,XQ]
    rw[J6 (by omega) he] at a
    refine aG hk (by omega) ⟨_,?_,?_,a,?_,t1,t4,t9,t10,rfl⟩
    .unfold C3 gS;simp only;omega
    .exact d
    .simp[View.set,b]
 .simp(disch:=omega)only[↓wr,seval,wq,t1,t4,t9,t10,t11,hH,ct]
  rw[aa7 (by omega)] at a
  rw[<-a];try rfl
def eR:SF:=⟨ae [ab [bT 2 1],ae [ab [aa 3 0,((some 4),.op (.nil true 0 (.tmp 3) (.val (.emp 1))))],bb 4 (ae [ab [bT 2 1],.ret])],ab [bT 5 2,aa 6 0,fD 7 4 32 5 6,aa 2 7],.ret],
 [.tmp 2],8⟩
theorem kB:aP Tryz.prog 252 []=some eR:=by kernel_rfl
theorem Pd (P:List bK) (c:P.length<=100000) (h1:1<=P.length) (u:V) (H:View) (hu:u=jM P∨aT H u 4 (P.map ct)) :
  aw Tryz.prog 252 [u] H λr H'=>aT H' r 4 (P.map ct)/\c8 H H' r:=by
 have a:((P.map ct).all λe=>e.length == 4 && e.all aI)=true:=by simp[acg,ct,aI]
 refine aw.of mixed kB ?_
 cases P with
 | nil=>simp at h1
 | cons p r =>
  simp only[aaN] at c
  rcases hu with rfl | hu
  .simp(disch:=omega)only[↓wr,seval,wq,eR,jM]
   refine⟨by simpa using a,by unfold aC;simp;omega,λm hm=>?_⟩
   simp(disch:=omega)only[↓wr,seval,wq]
   have:=aT.new (H:=H) (n:=m) (sz:=4) (es:=(p :: r).map ct)
   simp only[aaJ,aaN] at this
   exact⟨by simpa using this,.new hm⟩
  .obtain⟨n,rfl,b⟩:=hu.sl (by simp)
   simp only[aaJ,aaN] at b ⊢
   have he:bR H (.sl n 0 (r.length+1) 4)=some ((p :: r).map ct,[n]):=by
    rw[p0 _ n 0 r.length 4 4 _ b (by simp),abP,aaS (by simp)]
   simp(disch:=omega)only[↓wr,seval,wq,eR,he]
   refine⟨by simpa using a,by unfold aC;simp;omega,λm hm=>?_⟩
   simp(disch:=omega)only[↓wr,seval,wq]
   have:=aT.new (H:=H) (n:=m) (sz:=4) (es:=(p :: r).map ct)
   simp only[aaJ,aaN] at this
   exact⟨by simpa using this,.new hm⟩
theorem JS {g:af} (hr:g.rules.length<=40) {k:Nat} (hk:k<=16) (m:Nat):C3 (bW (aH g k) m):=by
 refine⟨sy g k m,?_⟩
 by_cases h:cG (aH g k) m
 .obtain⟨a,b,_⟩:=ik g k m h
  obtain⟨j,f,d,l,e⟩:=yZ h
  obtain⟨i,r,c,_,_,hp,_⟩:=lZ e
  have hi:i < g.rules.length:=(aaR.1 c).1
  have:(bW (aH g k) m).au=i:=by rw[hp];simp[iF]
  omega
 .rw[rA h];unfold nI;decide
def wL (H:View) (u:V) (P:List bK):Prop:=u=jM P∨aT H u 4 (P.map ct)
theorem wL.pK {H:View} {u:V} {P:List bK} (h:wL H u P):cR H u (jM P):=by
 rcases h with rfl | h
 .exact cR.tree (tX P)
 .exact cR.own h λe he v a=>by
   obtain⟨p,_,rfl⟩:=aaX.1 he
   exact EU p v a
theorem wL.keep {H H':View} {u:V} {P:List bK} (h:wL H u P) (hk:∀ id,owner u=some id->H' id=H id):wL H' u P:=h.imp id λh=>h.keep hk
theorem wL.live {H:View} {u:V} {P:List bK} (h:wL H u P) {id:Nat} (a:owner u=some id):H id≠.dead:=by
 rcases h with rfl | h
 .simp[owner] at a
 .rw[(h.live a).1];simp
theorem Sv {N:List bK} {i m:Nat} {p:bK} (hp:0<=p.au) (h:cG N m):cG (N.set i p) m:=by
 have hm:=KG h
 unfold cG at h ⊢
 rw[Cu hm];split
 .exact hp
 .exact h
def wu:SC :=
 ae [ab [aQ 24 .lss 23 22],bX 24 (.exit 2),.block 3 (ae [ab [aa 25 23,aO 26 3 21 23,aZ 27 3 26,((some 7),.op (.alloc [(.val (.int .i64 0)),(.emp 1),(.val (.int .i64 0))])),aa 6 25,cD 3 7 27],ae [ab [aa 28 5,ao 29 0 7,ak 30 29,aO 31 4 28 30,ao 32 0 31,ak 33 32,aF 34 .geq 33 0],bb 34 (.exit 3)],ab [ao 36 1 7,ak 37 36,aa 38 3,bk 39 196 [37,38],aa 35 39,dr 40 0 35,dr 41 1 35,((some 8),.op (.alloc [(.val (.int .i64 0)),(.val (.int .i64 0)),(.val (.int .i64 0)),(.val (.int .i64 0))])),cD 4 8 40,aa 9 41],ab [aa 42 9],bb 42 (ae [ab [aa 43 5,ao 44 0 7,ak 45 44,aa 46 6,ao 47 1 8,ak 48 47,aF 49 .add 48 1,ao 50 2 8,ak 51 50,aF 52 .add 51 1,((some 53),.op (.mm false (.val (.val (.int .i64 1048576))) (.tmp 52))),ao 54 3 8,ak 55 54,((some 56),.op (.build [(.val (.int .i64 0)),(.val (.int .i64 0)),(.val (.int .i64 0)),(.val (.int .i64 0))] [(0,1,(.tmp 46)),(1,1,(.tmp 49)),(2,1,(.tmp 53)),(3,1,(.tmp 55))])),aO 57 4 43 45,cD 4 57 56],ab [bB 4 false]])]),ab [aF 58 .add 23 1,aa 23 58]]
def pM:SC :=
 ae [ae [ab [aa 16 4,c9 17 16],bX 17 (.exit 0)],.block 1 (ae [ab [bB 4 true],ab [aa 18 3,bk 19 252 [18],aa 5 19],ae [ab [ao 20 2 1,ak 21 20,aN 22 21,aR 23 0],bZ 2 wu],ab [aa 59 5,aa 3 59]])]
def Ar:SF:=⟨ae [ab [cF 1 0,bT 2 1],ab [((some 10),.op (.build [(.val (.int .i64 0)),(.val (.int .i64 0)),(.val (.int .i64 0)),(.val (.int .i64 0))] [(0,1,(.val (.val (.int .i64 (-1)))))])),((some 11),.op (.bJ 1 4 [(.val (.int .i64 0)),(.val (.int .i64 0)),(.val (.int .i64 0)),(.val (.int .i64 0))] [(0,(.tmp 10))])),ao 12 1 1,ak 13 12,aN 14 13,bk 15 251 [11,14],aa 3 15],ae [ab [bB 4 false],bZ 0 pM],ab [aa 60 3,aa 2 60],.ret],
 [.tmp 2],61⟩
theorem Dd:aP Tryz.prog 195 [1]=some Ar:=by kernel_rfl
def Y7 (g:af) (H0:View) (P:List bK) (d i:Nat) (T:Env) (H:View):Prop :=
 ∃ (N:List bK) (u:V),N.length=g.al.length/\nU P i N (g.rules.drop i)=AR g.rules P/\(∀ m,cG P m->cG N m)/\wL H u P/\owner u≠some d/\H d=.arr 4 (N.map ct) /\
  (∀ id,H0 id≠.dead->H id=H0 id/\id≠d)/\((T 4=gb true/\N=P)∨(T 4=gb false/\∃ m,¬ cG P m/\cG N m)) /\
  T 1=.aL (ag g) 0/\T 3=u/\T 5=.sl d 0 g.al.length 4/\T 21=.aU (g.rules.map bg)/\T 22=gi g.rules.length/\T 23=gi i
theorem Vj (g:af) (hg:g.Ok) (M:g.cY) (H:View):aw Tryz.prog 195 [.agg (ag g)] H λr H'=>aT H' r 4 ((aD g).map ct)/\c8 H H' r:=by
 refine aw.of mixed Dd ?_
 have z1:=M.sm
 have z2:=M.al
 have z3:=M.rules
 simp(disch:=omega)only[↓wr,seval,wq,Ar,ag,encS]
 intro n1 O
 try simp(disch:=omega)only[↓wr,seval,wq]
 refine ax.ub (QE z1 z2) (by kernel_rfl) ⟨cR.sl (off:=0) (len:=1) (esz:=4) (z:=4) (es:=[ct nI]) (by simp[View.set,ct,nI]) (by simp) (λe he v hv=>by simp at he;subst he;exact EU _ v hv),cR.tree (.val _),trivial⟩ ?_
 simp(disch:=omega)only[↓wr,seval,wq]
 refine ba.intro (λk T H'=>∃ (j:Nat) (u:V),j<=g.al.length/\j<=dQ (uJ (aH g j))/\wL H' u (aH g j)/\c8 H H' u/\T 1=.aL (ag g) 0/\T 3=u /\
   ((T 4=gb false/\j+k=g.al.length+1)∨(T 4=gb true/\aH g j=aD g/\aT H' u 4 ((aD g).map ct)))) (g.al.length+1) ?_ ?_
 .refine⟨0,_,by omega,by omega,.inl rfl,λid a=>⟨?_,by simp[owner]⟩,rfl,rfl,.inl ⟨rfl,by omega⟩⟩
  have e:id≠n1:=by rintro rfl;exact a O
  simp[View.set,e]
 clear O
 rintro k T H1 ⟨j,u,hj,P,hu,f,t1,t3,E⟩
 rcases E with ⟨t4,bn⟩ | ⟨t4,A,s⟩
 .have hlen:=ij g j
  simp(disch:=omega)only[↓wr,seval,wq,pM,t1,t3,t4,ag,encS]
  refine ax.eM ((Pd (aH g j) (by omega) (by omega) u H1 hu).mono ?_)
  rintro v H2 ⟨hv,F⟩
  obtain⟨d,rfl,p⟩:=hv.sl (by simp;omega)
  simp only[aaJ,hlen]
  simp(disch:=omega)only[↓wr,seval,wq,t1,t3,t4,ag,encS]
  refine ba.up g.rules.length (Y7 g H (aH g j) d) ?_ ?_
  .refine⟨aH g j,u,hlen,rfl,λ_ h=>h,hu.keep λid a=>(F id (hu.live a)).1,λe=>?_,p,λid a=>?_,.inl ⟨rfl,rfl⟩,t1,t3,rfl,rfl,rfl,rfl⟩
   .exact(F d (hu.live e)).2 rfl
   .have h1:=f id a
    have h2:=F id (by rw[h1.1];exact a)
    exact⟨by rw[h2.1,h1.1],λe=>h2.2 (by rw[e];rfl)⟩
  clear t1 t3 t4 hu f F p hv
  rintro i q T H3 hq ⟨N,u,hN,b,hle,hu,G,p,f,E,t1,t3,t5,t21,t22,t23⟩
  simp(disch:=omega)only[↓wr,seval,wq,wu,t1,t3,t5,t21,t22,t23]
  apply aj.dec<;>intro hc
  .have Q:g.rules[i]?=some (g.rules[i]'(by omega)):=aaB (by omega)
   have y:g.rules[i]'(by omega)∈g.rules:=aaL _
   rw[fq (show i < g.rules.length by omega)] at b
   generalize g.rules[i]'(by omega)=r at Q y b
   have hl:=M.left r y
   have R:=hg.au r y
   have S:r.left.toNat < N.length:=by omega
   have U:(N.map ct).getD r.left.toNat []=ct (bW N r.left.toNat):=by simp[bW,aaA,S]
   have hP:=λm=>JS (g:=g) z3 (show j<=16 by omega) m
   simp(disch:=omega)only[↓wr,seval,wq,t1,t3,t5,t21,t22,t23,aaE,Q,bg,encI]
   intro n t
   have c:d≠n:=by rintro rfl;rw[p] at t;simp at t
   have W:∀ o,wL (H3.set n o) u (aH g j):=λo=>hu.keep λid a=>by
    have:id≠n:=by rintro rfl;exact hu.live a t
    simp[View.set,this]
   have X:∀ o,∀ id,H id≠.dead->(H3.set n o) id=H id/\id≠d:=λo id a=>by
    have h1:=f id a
    have:id≠n:=by rintro rfl;rw[h1.1] at t;exact a t
    exact⟨by simp[View.set,this,h1.1],h1.2⟩
   try simp(disch:=omega)only[↓wr,seval,wq,t1,t3,t5,t21,t22,t23,p,c,c.symm]
   refine⟨by omega,by omega,?_⟩
   try simp(disch:=omega)only[↓wr,seval,wq,t1,t3,t5,t21,t22,t23,p,c,c.symm,U,ct]
   have Y:=wg (aH g j) r.right bF
   apply aj.dec<;>intro hk
   .simp(disch:=omega)only[↓wr,seval,wq,t1,t3,t5,t21,t22,t23,p,c,c.symm]
    have A:si (aH g j) i N r=N:=by unfold si;rw[aaF hk]
    rw[nU,A] at b
    rw[set_set]
    exact aG hq (by omega) ⟨N,u,hN,b,hle,W _,G,by simp[View.set,c,p],X _,E,t1,t3,t5,t21,t22,rfl⟩
   .simp(disch:=omega)only[↓wr,seval,wq,t1,t3,t5,t21,t22,t23,p,c,c.symm]
    refine ax.ub (R3 (aH g j) hP r.right R.2.2.1 λx hx=>⟨R.2.2.2 x hx,λt=>by rw[hlen];exact M.neg y hx t⟩) (by kernel_rfl) ⟨cR.tree (cx r.right),by rw[set_set];exact(W _).pK,trivial⟩ ?_
    have Z:=uQ (λm=>sy g j m) r.right bF kO
    have a8:(0:Int)<=(cb (aH g j) r.right bF).1.cE:=Y
    have an:lW (aH g j) r.right->(cb (aH g j) r.right bF).1.cE<=16:=λha=>(j4 (aH g j) 16 r.right bF ha).2 ⟨by simp[bF],λx hx t=>by have:=(ik g j _ (ha x hx t)).2.1;omega⟩
    have aq:=kn (aH g j) r.right bF
    generalize I:cb (aH g j) r.right bF=sp at Z a8 an aq
    unfold gS at Z
    simp(disch:=omega)only[↓wr,seval,wq,t1,t3,t5,t21,t22,t23,p,c,c.symm,ct]
    intro q2 ar
    have B:=(cq ar cm).1
    have l:=(cq (cq ar cm).2 cm).2
    have w:d≠q2:=by rintro rfl;rw[p] at l;simp at l
    try simp(disch:=omega)only[↓wr,seval,wq,t1,t3,t5,t21,t22,t23,p,c,c.symm,B,B.symm,w,w.symm,ct]
    apply aj.split<;>intro hb
    .have br:=an (aq.1 hb)
     simp(disch:=omega)only[↓wr,seval,wq,t1,t3,t5,t21,t22,t23,p,c,c.symm,B,B.symm,w,w.symm,ct]
     refine⟨by omega,by omega,?_⟩
     have A:si (aH g j) i N r=N.set r.left.toNat (iF (aH g j) i r):=by unfold si;rw[aaD hk,I,aaF hb]
     rw[nU,A] at b
     have C:(iF (aH g j) i r)=⟨i,sp.1.cE+1,min 1048576 (sp.1.rules+1),sp.1.ai⟩:=by rw[iF,I]
     have a1:0<=(iF (aH g j) i r).au:=by rw[C];simp only;omega
     have a6:¬ cG N r.left.toNat:=hk
     refine aG hq (by omega) ⟨_,u,by simp[hN],b,λm hm=>Sv a1 (hle m hm),?_,G,?_,?_,.inr ⟨rfl,r.left.toNat,λbd=>a6 (hle _ bd),?_⟩,t1,t3,t5,t21,t22,rfl⟩
     .refine hu.keep λid a=>?_
      have J:id≠n:=by rintro rfl;exact hu.live a t
      have K:id≠q2:=by rintro rfl;exact hu.live a l
      have e3:id≠d:=by rintro rfl;exact G a
      simp[View.set,J,K,e3]
     .simp only[View.set,if_true]
      rw[acC,C,U];simp only[ct,List.drop_succ_cons,List.drop_nil,abP,Ll]
     .intro id a
      have h1:=f id a
      have J:id≠n:=by rintro rfl;rw[h1.1] at t;exact a t
      have K:id≠q2:=by rintro rfl;rw[h1.1] at l;exact a l
      exact⟨by simp[View.set,J,K,h1.2,h1.1],h1.2⟩
     .unfold cG;rw[Cu S,aaF rfl];exact a1
    .simp(disch:=omega)only[↓wr,seval,wq,t1,t3,t5,t21,t22,t23,p,c,c.symm,B,B.symm,w,w.symm,ct]
     have A:si (aH g j) i N r=N:=by unfold si;rw[aaD hk,I,aaD (by rw[hb];simp)]
     rw[nU,A] at b
     refine aG hq (by omega) ⟨N,u,hN,b,hle,?_,G,by simp[View.set,c,w,p],?_,E,t1,t3,t5,t21,t22,rfl⟩
     .refine hu.keep λid a=>?_
      have J:id≠n:=by rintro rfl;exact hu.live a t
      have K:id≠q2:=by rintro rfl;exact hu.live a l
      simp[View.set,J,K]
     .intro id a
      have h1:=f id a
      have J:id≠n:=by rintro rfl;rw[h1.1] at t;exact a t
      have K:id≠q2:=by rintro rfl;rw[h1.1] at l;exact a l
      exact⟨by simp[View.set,J,K,h1.1],h1.2⟩
  .simp(disch:=omega)only[↓wr,seval,wq,t1,t3,t5,t21,t22,t23]
   rw[aa7 (by omega),nU,<-qd] at b
   have s:aT H3 (.sl d 0 g.al.length 4) 4 (N.map ct):=.inr ⟨d,by simp[hN],p⟩
   have a7:c8 H H3 (.sl d 0 g.al.length 4):=λid a=>⟨(f id a).1,λe=>(f id a).2 (by simp[owner] at e;exact e.symm)⟩
   rw[b] at s
   rcases E with ⟨E,he⟩ | ⟨E,m,bl,L⟩
   .have D:aH g (j+1)=aH g j:=by rw[<-b,he]
    have C:=Uy hj D
    rw[D] at s
    exact⟨0,by omega,j,_,hj,P,.inr s,a7,rfl,rfl,.inr ⟨E,C,by rw[<-C];exact s⟩⟩
   .rw[b] at L
    rcases O9 P with e | e
    .rw[e] at L;exact absurd L bl
    .have:=Mt g (j+1)
     exact⟨k - 1,by omega,j+1,_,by omega,e,.inr s,a7,rfl,rfl,.inl ⟨E,by omega⟩⟩
 .simp(disch:=omega)only[↓wr,seval,wq,pM,t1,t3,t4]
  exact⟨s,f⟩
theorem Ry {h:aE} {u:V} {P:List bK} (b:aT h.view u 4 (P.map ct)):cM h u (jM P):=by
 refine cM.own b rfl (λi _=>rfl) (λi j hi a=>?_)
 simp only[aaJ] at hi
 have e:(P.map ct).getD i []=ct P[i]:=by simp[aaA,hi]
 rw[e] at a ⊢
 match j,a with
 | 0,_=>exact .val _
 | 1,_=>exact .val _
 | 2,_=>exact .val _
 | 3,_=>exact .val _
 | n+4,h=>exact absurd h (by simp[ct])
theorem Vk (g:af) (a:g.Ok) (b:g.cY):cK Tryz.prog 195 [.agg (ag g)] (jM (aD g)) :=
 cK.of (eK g) ((Vj g a b _).mono λr H' h d c=>Ry (by rw[c];exact h.1))
theorem S4 (g:af) (f:Nat) (l:List Int) (i:Nat):(fj g (aD g) f (l.take i)).length<=(fj g (aD g) f l).length:=by
 have:=jD g (aD g) f (l.take i) (l.drop i)
 rw[acA] at this
 rw[this];simp
theorem Rh (g:af) (f:Nat) (l:List Int) (i:Nat):(eA g (aD g) f (l.take i)).length<=(eA g (aD g) f l).length:=by
 have:=jb g (aD g) f (l.take i) (l.drop i)
 rw[acA] at this
 rw[this];simp
def PJ (x:List Int × Int):V:=.bf [encI x.1,gi x.2]
theorem yX {h:aE} {u:V} {x:List Int × Int} (hu:cM h u (encI x.1)):cM h (.bf [u,gi x.2]) (PJ x):=Lb hu (.val _)
theorem uI {g:af} {l:List Int} (h:lW (aD g) l):EB (aD g) g.al.length l:=λx a b=>⟨h x a b,(xC (h x a b)).2⟩
theorem QU {g:af} {l:List Int} (h:lW (aD g) l) (a:(cb (aD g) l bF).1.rules<=300):((fj g (aD g) g.al.length l).length:Int)=(cb (aD g) l bF).1.rules:=by
 have:=(pc g g.al.length l bF (uI h) kO).1
 simp only[bF] at this a ⊢
 omega
theorem QS {g:af} {l:List Int} (h:lW (aD g) l) (a:(cb (aD g) l bF).1.ai<=60):((eA g (aD g) g.al.length l).length:Int)=(cb (aD g) l bF).1.ai:=by
 have:=(pc g g.al.length l bF (uI h) kO).2
 simp only[bF] at this a ⊢
 omega
def dx {κ:Type} (kv:κ->V) (m:cZ κ):List (V × V × Nat):=m.map λx=>(kv x.1,x.2.1,x.2.2)
structure GX {κ:Type} [BEq κ] (P:Program) (kt:TypeId) (kv:κ->V):Prop where
 find:∀ k e m,n0 P kt (kv k) e (dx kv m)=some (ig k m)
 same:∀ k,sameKey (kv k) (kv k)=true
def mP {κ:Type} (m:cZ κ) (c:Nat):Prop:=(m.map (·.2.2)).Nodup/\∀ x∈m,x.2.2 < c
def kT {κ:Type} [BEq κ] (m:cZ κ) (k:κ):Option Nat:=(m.find? λx=>k == x.1).map (·.2.2)
section
variable {κ:Type} [BEq κ] [LawfulBEq κ] {kv:κ->V}
theorem oh (k:κ):∀ m:cZ κ,match ig k m with
  | some i=>∃ x,m[i]?=some x/\x.1=k/\getM m k=some x.2.1/\kT m k=some x.2.2/\(dx kv m)[i]?=some (kv k,x.2.1,x.2.2)/\∀ v c,(dx kv m).set i (kv k,v,x.2.2)=dx kv (bV k v c m)/\kT (bV k v c m) k=some x.2.2/\(bV k v c m).map (·.2.2)=m.map (·.2.2)
  | none=>getM m k=none/\kT m k=none/\∀ v c,dx kv m ++ [(kv k,v,c)]=dx kv (bV k v c m)/\kT (bV k v c m) k=some c/\(bV k v c m).map (·.2.2)=m.map (·.2.2) ++ [c]
 | []=>⟨rfl,rfl,λv c=>⟨rfl,by simp[bV,kT],rfl⟩⟩
 | x :: r=>by
  have a:=oh k r
  simp only[ig]
  cases hk:k == x.1 with
  | true =>
   have b:x.1=k:=(eq_of_beq hk).symm
   exact⟨x,rfl,b,by simp[getM,hk],by simp[kT,hk],by simp[dx,b],λv c=>by simp[bV,hk,dx,kT]⟩
  | false =>
   simp only[aba,if_false]
   cases hi:ig k r with
   | some i =>
    rw[hi] at a
    obtain⟨y,h1,d,e,f,g,h⟩:=a
    refine⟨y,by simpa using h1,d,by simpa [getM,hk] using e,by simpa [kT,hk] using f,by simpa [dx] using g,λv c=>?_⟩
    obtain⟨g1,g2,g3⟩:=h v c
    exact⟨by simp only[dx] at g1 ⊢;simp[bV,hk,g1],by simpa [bV,hk,kT] using g2,by simp[bV,hk,g3]⟩
   | none =>
    rw[hi] at a
    refine⟨by simpa [getM,hk] using a.1,by simpa [kT,hk] using a.2.1,λv c=>?_⟩
    obtain⟨g1,g2,g3⟩:=a.2.2 v c
    exact⟨by simp only[dx] at g1 ⊢;simp[bV,hk,g1],by simpa [bV,hk,kT] using g2,by simp[bV,hk,g3]⟩
theorem mP.put {m:cZ κ} {c:Nat} (h:mP m c) (k:κ) (v:V):mP (bV k v c m) (c+1):=by
 have f:=oh (kv:=λ_=>V.any) k m
 cases i:ig k m with
 | some j =>
  rw[i] at f
  obtain⟨y,_,_,_,_,_,n⟩:=f
  have e:=(n v c).2.2
  refine⟨by rw[e];exact h.1,λx g=>?_⟩
  have:x.2.2∈m.map (·.2.2):=by rw[<-e];exact aaX.2 ⟨x,g,rfl⟩
  obtain⟨y,d,o⟩:=aaX.1 this
  have:=h.2 y d
  omega
 | none =>
  rw[i] at f
  have e:=(f.2.2 v c).2.2
  refine⟨?_,λx g=>?_⟩
  .rw[e,ab9]
   refine⟨h.1,by simp,λa p b l=>?_⟩
   simp at l;subst l
   obtain⟨y,d,rfl⟩:=aaX.1 p
   have:=h.2 y d
   omega
  .have:x.2.2∈m.map (·.2.2) ++ [c]:=by rw[<-e];exact aaX.2 ⟨x,g,rfl⟩
   rcases aa1.1 this with h1 | h1
   .obtain⟨y,d,o⟩:=aaX.1 h1
    have:=h.2 y d
    omega
   .simp at h1;omega
theorem mP.X5 {m:cZ κ} {c:Nat} (h:mP m c) {k:κ} {b:Nat} (d:kT m k=some b) (v:V) (f:Nat):mP (bV k v f m) c:=by
 have a:=oh (kv:=λ_=>V.any) k m
 cases g:ig k m with
 | some j =>
  rw[g] at a
  obtain⟨y,_,_,_,_,_,i⟩:=a
  have e:=(i v f).2.2
  refine⟨by rw[e];exact h.1,λx l=>?_⟩
  have:x.2.2∈m.map (·.2.2):=by rw[<-e];exact aaX.2 ⟨x,l,rfl⟩
  obtain⟨y,n,o⟩:=aaX.1 this
  have:=h.2 y n
  omega
 | none =>
  rw[g] at a
  rw[a.2.1] at d;simp at d
omit [BEq κ] [LawfulBEq κ] in
theorem find_born (b:Nat):∀ (m:cZ κ) (i:Nat) (x:κ × V × Nat),(m.map (·.2.2)).Nodup->m[i]?=some x->x.2.2=b->(dx kv m).findIdx? (λe=>e.2.2 == b)=some i
 | [],i,x,_,h,_=>by simp at h
 | y :: m,0,x,a,h,e=>by
  simp at h;subst h
  simp[dx,List.findIdx?_cons,e]
 | y :: m,i+1,x,a,h,e=>by
  simp only[aa9,abK] at a
  have h:m[i]?=some x:=by simpa using h
  have f:x∈m:=aaI h
  have c:¬ y.2.2=b:=λg=>a.1 (by rw[g,<-e];exact aaX.2 ⟨x,f,rfl⟩)
  have d:=find_born b m i x a.2 h e
  simp only[dx] at d
  simp[dx,List.findIdx?_cons,c,d]
variable {P:Program} {T:Env} {H:View} {kt et t ty:TypeId}
theorem Wd {K:V->View->Prop} {w:cX (T,H,K)} {x i:Operand} {z:V} {id c:Nat} {m:cZ κ} {k:κ} (hm:fc P t=some (kt,et)) (d:zeroV P et=some z) (hk:GX P kt kv)
  (e:ev T x=.mp id) (hi:ev T i=kv k) (hH:H id=.map (dx kv m) c) (h:K ((getM m k).getD z) H):jI P (.lookup t x i false) ty T H K w:=by
 intro n _
 have f:=hk.find k (dx kv m).isEmpty m
 have a:=oh (kv:=kv) k m
 refine⟨(getM m k).getD z,.none,[id],?_,h⟩
 simp only[sI,cH,oper,fS,hm,d,e,hi,hH,f]
 cases b:ig k m with
 | some j =>
  rw[b] at a
  obtain⟨y,h1,o,g,p,l,_⟩:=a
  simp[l,g]
 | none =>
  rw[b] at a
  simp[a.1]
theorem G9 {z:V} {id c:Nat} {m:cZ κ} {k:κ} (hm:fc P t=some (kt,et)) (l:zeroV P et=some z) (hk:GX P kt kv) (hH:H id=.map (dx kv m) c) (e:mP m c) :
  ∃ b f,eY P t (.mp id) (kv k) H=some (.bf [(getM m k).getD z,gG b],.fU id (.map (dx kv (bV k ((getM m k).getD z) c m)) f),[id])/\mP (bV k ((getM m k).getD z) c m) f/\kT (bV k ((getM m k).getD z) c m) k=some b:=by
 have d:=hk.find k false m
 have a:=oh (kv:=kv) k m
 cases g:ig k m with
 | some j =>
  rw[g] at a d
  obtain⟨y,h1,p,h,n,o,i⟩:=a
  refine⟨y.2.2,c,?_,?_,?_⟩
  .simp only[eY,hm,hH,d,o,hk.same k,if_true,h,aaU]
   rw[(i y.2.1 c).1]
  .exact e.X5 n _ _
  .rw[h];exact(i _ c).2.1
 | none =>
  rw[g] at a d
  refine⟨c,c+1,?_,e.put k _,?_⟩
  .simp only[eY,hm,hH,d,l,a.1,Option.getD_none]
   rw[(a.2.2 z c).1]
  .rw[a.1];exact(a.2.2 _ c).2.1
theorem Yu {K:V->View->Prop} {w:cX (T,H,K)} {x i:Operand} {z:V} {id c:Nat} {m:cZ κ} {k:κ} (hm:fc P t=some (kt,et)) (d:zeroV P et=some z) (hk:GX P kt kv)
  (e:ev T x=.mp id) (hi:ev T i=kv k) (hH:H id=.map (dx kv m) c) (f:mP m c)
  (h:∀ b a,mP (bV k ((getM m k).getD z) c m) a->kT (bV k ((getM m k).getD z) c m) k=some b->K (.bf [(getM m k).getD z,gG b]) (H.set id (.map (dx kv (bV k ((getM m k).getD z) c m)) a))):jI P (.mapEntry t x i) ty T H K w:=by
 intro n _
 obtain⟨b,a,h1,g,j⟩:=G9 (k:=k) hm d hk hH f
 refine⟨.bf [(getM m k).getD z,gG b],.fU id (.map (dx kv (bV k ((getM m k).getD z) c m)) a),[id],?_,h b a g j⟩
 simp only[sI,cH,oper,e,hi]
 exact h1
theorem Yn {K:V->View->Prop} {w:cX (T,H,K)} {x s y:Operand} {id c b:Nat} {m:cZ κ} {k:κ} {v:V} (i:ev T x=.mp id) (l:ev T s=gG b) (o:ev T y=v) (hH:H id=.map (dx kv m) c) (p:mP m c) (a:kT m k=some b)
  (h:∀ c0,K .any (H.set id (.map (dx kv (bV k v c0 m)) c))):jI P (.entryStore t x s y) ty T H K w:=by
 intro n _
 have d:=oh (kv:=kv) k m
 cases g:ig k m with
 | none=>rw[g] at d;rw[d.2.1] at a;simp at a
 | some j =>
  rw[g] at d
  obtain⟨z,h1,B,C,f,q,r⟩:=d
  rw[a] at f
  have e:z.2.2=b:=by simp at f;exact f.symm
  have u:=find_born (kv:=kv) b m j z p.1 h1 e
  refine⟨.any,.fU id (.map (dx kv (bV k v c m)) c),[id],?_,h c⟩
  have A:asNat (gG b)=some b:=by simp[asNat,gG]
  simp only[sI,cH,oper,i,l,o,lh,A,hH,u,q]
  rw[(r v c).1]
theorem ZN {z:V} {id c:Nat} {m:cZ κ} {k:κ} (hm:fc P t=some (kt,et)) (f:zeroV P et=some z) (hk:GX P kt kv) (hH:H id=.map (dx kv m) c) (i:mP m c):Jx P t (.mp id) (kv k) H:=by
 refine⟨⟨_,_,hH⟩,λv obj rd he=>?_⟩
 obtain⟨b,l,h1,n,g⟩:=G9 (k:=k) hm f hk hH i
 rw[he] at h1
 simp only[aaC,aaG,bE.fU.injEq] at h1
 obtain⟨_,⟨_,rfl⟩,_⟩:=h1
 have key:∀ (a:cZ κ) (c2:Nat) (H':View),H' id=.map (dx kv a) c2->fS P t (.mp id) (kv k) false H'=some ((getM a k).getD z,.none,[id]):=by
  intro a c2 H' e
  have o:=hk.find k (dx kv a).isEmpty a
  have d:=oh (kv:=kv) k a
  simp only[fS,hm,f,e,o]
  cases h:ig k a with
  | some j =>
   rw[h] at d
   obtain⟨y,h1,n,g,q,p,_⟩:=d
   simp[p,g]
  | none =>
   rw[h] at d
   simp[d.1]
 rw[key (bV k ((getM m k).getD z) c m) l _ (by simp[View.set]),key m c H hH,ry]
 simp
end
theorem Lf {P:Program} {α:Type} (x:α):bw P (pure x:Sem α)=some x:=rfl
theorem wQ:∀ (N:Nat) (l:List Nat),l.Nodup->(∀ x∈l,x < N)->l.length<=N
 | 0,l,_,h=>by
  cases l with
  | nil=>simp
  | cons x l=>exact absurd (h x (by simp)) (by omega)
 | N+1,l,b,h=>by
  by_cases e:N∈l
  .have h1:=wQ N (l.erase N) (b.erase N) λx a=>by
    have c:=(b.mem_erase_iff).1 a
    have:=h x c.2
    have:=c.1
    omega
   rw[List.length_erase_of_mem e] at h1
   omega
  .have:=wQ N l b λx a=>by
    have:=h x a
    have:x≠N:=by rintro rfl;exact e a
    omega
   omega
def Wb:List Int:=[37,37,32,115,32,58,32,39,97,39,32,115,32,124,32,59]
def jV:af:=⟨[⟨⟨#[39,97,39]⟩,0,0⟩],[⟨#[115]⟩],[⟨0,[0,(-1)],0⟩,⟨0,[],(-1)⟩],0⟩
theorem Y3:cK Tryz.prog 44 [KP Wb] (Cz jV):=XN (by kernel_rfl)
section
variable {g:af} {p:List Int} {T:Tb} {N:Nat}
end
section
variable {g r:af} {p q:List Bool} {o:List Int}
end
section
variable {fit:List Int->Bool} {T b:Nat}
end
def Y4 (l:List (List Int)):V:=.aU (l.map λw=>[encI w])
abbrev Zp:=List (V × List Int)
def Gs (b:Zp):List (List V):=b.map λx=>[x.1]
def Vr (H:View) (u:V) (out:List (List Int)):Prop:=∃ b:Zp,b.map (·.2)=out/\aT H u 1 (Gs b)/\∀ x∈b,aT H x.1 1 (bH x.2)
theorem Vr.frn {h:aE} {u:V} {out:List (List Int)} (d:Vr h.view u out):cM h u (Y4 out):=by
 obtain⟨b,rfl,d,f⟩:=d
 have c:∀ i (hi:i < b.length),(Gs b).getD i []=[(b[i]).1]/\(((b.map (·.2)).map λw=>[encI w]).getD i [])=[encI (b[i]).2]:=λi hi=>by
  simp[Gs,aaA,hi]
 refine cM.own d (by simp[Gs]) (λi hi=>?_) (λi j hi e=>?_)
 .have a:i < b.length:=by simpa [Gs] using hi
  rw[(c i a).1,(c i a).2];rfl
 .have a:i < b.length:=by simpa [Gs] using hi
  rw[(c i a).2] at e ⊢
  rw[(c i a).1]
  have:j=0:=by simp at e;omega
  subst this
  simp only[abE]
  exact cM.Jh (f _ (aaL a))
section
variable {P:Program} {T:Env} {H:View} {K:V->View->Prop} {w:cX (T,H,K)} {t t1 e ty:TypeId}
theorem SP {x:Operand} {k:Nat} (he:dd P t=some e) (a:ev T x=.emp k) (hk:K (gG 0) H):jI P (.call { callee:=.builtin .cap,args:=#[x],argTypes:=#[t] }) ty T H K w:=by
 intro n _
 refine⟨gG 0,.none,[],?_,hk⟩
 simp[sI,cH,oper,F5,he,a]
theorem Xz {s x:Operand} {k l sz bytes:Nat} {z:List V} (he:qD P t=some (sz,bytes,z)) (g:p7 P t1=false) (hi:isInt P t1=true) (h:ev T s=.emp k) (i:ev T x=gG l) (j:l≠0)
  (h1:l * bytes < aC) (m:l < aC) (hk:∀ n,H n=.dead->K (.sl n 0 l sz) (H.set n (.arr sz (List.replicate l z)))) :
  jI P (.call { callee:=.builtin .append,args:=#[s,x],argTypes:=#[t,t1] }) ty T H K w:=by
 obtain⟨e,ti,b,_,c,o,d,a,f,rfl,rfl⟩:=kY he
 intro n p
 refine⟨.sl n 0 l ti.size,.new (.arr ti.size (List.replicate l z)),[],?_,hk n p⟩
 have q:asNat (gG l)=some l:=by simp[asNat,gG]
 have key:tL P t (.emp k) (gG l) n=some (.sl n 0 l ti.size,.new (.arr ti.size (List.replicate l z)),[]):=by
  unfold tL
  rw[b,q]
  simp only[c,o,aaD j]
  rw[aaF ⟨d,a,f,h1,m⟩]
 simp[sI,cH,oper,g,hi,h,i,key]
end
def lV:SF:=⟨ae [ab [bT 4 1],ae [ab [aa 5 1,aF 6 .lss 5 0],bb 6 (.region false [⟨none,[((some 7),.op (.old (.makeInterface 9 (.const (.string ⟨#[99,97,110,110,111,116,32,98,101,32,110,101,103,97,116,105,118,101]⟩))) 20)),(none,.op (.old (.panic (.tmp 7)) 0))]⟩])],ae [ab [aa 8 1,aa 9 0,((some 10),.op (.old (.call { callee:=.builtin .cap,args:=#[(.tmp 9)],argTypes:=#[27] }) 3)),aa 11 0,aN 12 11,aQ 13 .sub 10 12,aQ 14 .sub 8 13,aa 1 14],ab [aa 15 1,aF 16 .gtr 15 0],bb 16 (ab [aa 17 0,aa 18 0,((some 19),.op (.old (.call { callee:=.builtin .cap,args:=#[(.tmp 18)],argTypes:=#[27] }) 3)),((some 20),.op (.slice 1 (.tmp 17) none (some (.tmp 19)))),aa 21 1,((some 22),.op (.old (.call { callee:=.builtin .append,args:=#[(.tmp 20),(.tmp 21)],argTypes:=#[27,3] }) 27)),aa 23 0,aN 24 23,((some 25),.op (.slice 1 (.tmp 22) none (some (.tmp 24)))),aa 0 25])],ab [aa 26 0,aa 4 26],.ret],
 [.tmp 4],27⟩
theorem s7:aP Tryz.prog 132 []=some lV:=by kernel_rfl
def kq:SC :=
 ae [ab [aQ 12 .lss 11 10],bX 12 (.exit 0),.block 1 (ae [ab [aO 13 1 9 11,ak 14 13,aa 5 14],ab [aa 15 3,aa 16 5,aN 17 16,aQ 18 .add 15 17,aa 3 18],ab [aa 19 3,aF 20 .lss 19 0],bb 20 (.region false [⟨none,[((some 21),.op (.old (.makeInterface 9 (.const (.string ⟨#[108,101,110,32,111,117,116,32,111,102,32,114,97,110,103,101]⟩))) 20)),(none,.op (.old (.panic (.tmp 21)) 0))]⟩])]),ab [aF 22 .add 11 1,aa 11 22]]
def kC:SC :=
 ae [ab [aQ 28 .lss 27 26],bX 28 (.exit 2),.block 3 (ae [ab [aO 29 1 25 27,ak 30 29,aa 8 30],ab [aa 31 6,aa 32 8,fD 33 1 8 31 32,aa 6 33]]),ab [aF 34 .add 27 1,aa 27 34]]
def k5:SF:=⟨ae [ab [bT 2 1],ab [aR 3 0],ae [ab [aa 9 0,aN 10 9,aR 11 0],bZ 0 kq],ab [aa 23 3,qw 24 132 [(.val (.emp 1)),(.tmp 23)],aa 6 24],ae [ab [aa 25 0,aN 26 25,aR 27 0],bZ 2 kC],ab [aa 35 6,aa 2 35],.ret],
 [.tmp 2],36⟩
theorem qG:aP Tryz.prog 68 []=some k5:=by kernel_rfl
theorem Qr (n:Nat) (a:n<=1000000) (H:View):aw Tryz.prog 132 [.emp 1,gi n] H λr H'=>(n=0/\r=.emp 1/\H'=H)∨(0 < n/\∃ m es,H m=.dead/\r=.sl m 0 0 1/\H'=H.set m (.arr 1 es)):=by
 refine aw.of mixed s7 ?_
 simp(disch:=omega)only[↓wr,seval,wq,lV]
 refine aj.dec (λh=>absurd h (by omega)) (λ_=>?_)
 simp(disch:=omega)only[↓wr,seval,wq]
 refine SP (k:=1) (e:=3) (by kernel_rfl) (by simp(disch:=omega)only[↓wr,seval,wq]) ?_
 simp(disch:=omega)only[↓wr,seval,wq]
 apply aj.dec<;>intro h
 .simp(disch:=omega)only[↓wr,seval,wq]
  refine SP (k:=1) (e:=3) (by kernel_rfl) (by simp(disch:=omega)only[↓wr,seval,wq]) ?_
  simp(disch:=omega)only[↓wr,seval,wq]
  first | rw[show dA 1 (.emp 1) none (some (.val (.int .i64 ((0:Nat):Int))))=some (.emp 1,.none,[]) from rfl] | rw[show dA 1 (.emp 1) none (some (.val (.int .i64 0)))=some (.emp 1,.none,[]) from rfl]
  simp(disch:=omega)only[↓wr,seval,wq]
  refine Xz (k:=1) (l:=n) (sz:=1) (bytes:=8) (z:=[gi 0]) (by kernel_rfl) (by kernel_rfl) (by kernel_rfl) (by simp(disch:=omega)only[↓wr,seval,wq]) (by simp(disch:=omega)only[↓wr,seval,wq];simp) (by omega) (by unfold aC;omega) (by unfold aC;omega) ?_
  intro m hm
  simp(disch:=omega)only[↓wr,seval,wq]
  first | rw[show dA 1 (.sl m 0 n 1) none (some (.val (.int .i64 ((0:Nat):Int))))=some (.sl m 0 0 1,.none,[]) by simp[dA,bound,asNat]] | rw[show dA 1 (.sl m 0 n 1) none (some (.val (.int .i64 0)))=some (.sl m 0 0 1,.none,[]) by simp[dA,bound,asNat]]
  simp(disch:=omega)only[↓wr,seval,wq]
  exact .inr ⟨by omega,m,_,hm,rfl,rfl⟩
 .simp(disch:=omega)only[↓wr,seval,wq]
  exact .inl (by omega)
def I3 (H:View) (u:V) (l:List Int):Prop:=aT H u 1 (bH l)∨(l=[]/\∃ m es,u=.sl m 0 0 1/\H m=.arr 1 es)
theorem PG {bytes:Nat} {u:V} {l xs:List Int} {H:View} {K:V->View->Prop} {w:cX (H,K)} (b:I3 H u l) (f:(l.length+xs.length) * bytes < aC) (c:l.length+xs.length < aC) (k:bytes=8)
  (hk:∀ a H',I3 H' a (l ++ xs)->(aT H u 1 (bH l)->aT H' a 1 (bH (l ++ xs)))->Left H H' u a->K a H'):lK 1 bytes u (bH xs) H K w:=by
 rcases b with b | ⟨rfl,m,es,rfl,hm⟩
 .exact gF b (by simp[acg,aI]) (by simpa using f) (by simpa using c) λa H' h1 g=>hk a H' (.inl (by simpa using h1)) (λ_=>by simpa using h1) g
 .cases xs with
  | nil=>exact hk _ _ (.inr ⟨rfl,m,es,rfl,hm⟩) (λh=>by simpa using h) .refl
  | cons x xs =>
   rw[rB _ _ _ _ _ _ _ _ _ _ (by simp),hm]
   refine⟨by simp[acg,aI],⟨by simp,rfl,by simpa using f,by simpa using c⟩,λn i=>hk _ _ (.inl (.inr ⟨n,by simp,by simp[View.set]⟩)) (λ_=>.inr ⟨n,by simp,by simp[View.set]⟩) λid d b=>?_⟩
   have e:id≠n:=by rintro rfl;exact d i
   have j:id≠m:=by rintro rfl;exact b rfl
   exact⟨by simp[View.set,e,j],by simp[owner,Ne.symm e]⟩
end Gv
