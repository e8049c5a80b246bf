/-
  Part 15 of the proof: what the machine does and what the functions answer.
  Conditions: those that each lemma names.
-/
import Derived.Test.YtihmlbdfcmfbdaaGreatSGzB3N
set_option linter.unusedSimpArgs false
set_option linter.unusedVariables false
set_option maxRecDepth 100000
set_option maxHeartbeats 20000000
namespace Gv
open Go Go.Proofs
section
variable {g:aj} {a:List aM}
theorem iE {i:Nat} {x:aB} : x∈(aY g a).getD i []↔i < a.length/\x∈kp g a i:=by
 unfold aY
 rw[Zi,Zm]
 rcases ZI i a.length with h | h
 .rw[Zj h]
  simp[h,kp,Zi,Zj h]
 .rw[ZT h]
  simp;omega
theorem uj {x:aB} {s:Int} (a:cB g x) (h:bA g x=(s,true)):∃ d:Nat,x.dot=d/\(aW g x.aw).drop d=s :: dG g x/\(aW g x.aw).drop (d+1)=dG g x:=by
 obtain⟨d,h1,b,f⟩:=xN a h
 have e:(aW g x.aw).drop (d+1)=dG g x:=by
  unfold dG
  by_cases c:0<=x.aw
  .rw[Zn c,h1,aW,Zk (by omega)];rfl
  .rw[Zk c]
   have hr:x.aw = -1:=by have:=a.1;omega
   rw[hr] at b ⊢
   simp only[aW,if_true] at b ⊢
   exact ZQ (by simp)
 exact⟨d,h1,by rw[f,e],e⟩
theorem yH {null:List Bool} {a:List BV} {s:Int} {l:List Int} {u:Nat} : (eR null a 0 (s :: l)).getLsbD u=true↔(0<=s/\(dQ s).getLsbD u=true)∨(s < 0/\((a.getD (-1 - s).toNat 0).getLsbD u=true∨(null.getD (-1 - s).toNat false=true/\(eR null a 0 l).getLsbD u=true))):=by
 rw[eR]
 by_cases b:0<=s
 .rw[Zn b]
  constructor
  .intro h;exact .inl ⟨b,h⟩
  .rintro (h | h)
   .exact h.2
   .omega
 .rw[Zk b]
  split
  .rename_i c
   rw[Z5,aam]
   constructor
   .rintro (h | h)
    .exact .inr ⟨by omega,.inl h⟩
    .exact .inr ⟨by omega,.inr ⟨c,h⟩⟩
   .rintro (h | ⟨_,h | h⟩)
    .omega
    .exact .inl h
    .exact .inr h.2
  .rename_i c
   constructor
   .intro h;exact .inr ⟨by omega,.inl h⟩
   .rintro (h | ⟨_,h | h⟩)
    .omega
    .exact h
    .exact absurd h.1 c
def Nj (g:aj) (a:List aM) (q u:Nat):Prop:=(u < g.af.length/\fa a q u)∨∃ C:Int,0<=C/\fa a q (-1 - C)/\(av g false).getD C.toNat false=true/\qx g a q C u
theorem Nj.read {p u:Nat} {B:Int} (h:Nj g a (eK a p (-1 - B)) u):qx g a p B u:=by
 rcases h with ⟨h1,b⟩ | ⟨C,h1,b,c,d⟩
 .exact .term h1 b
 .exact .null h1 b c d
def wm (g:aj) (a:List aM) (fs:List BV):Prop:=∀ (C:Int) (q u:Nat),0<=C->(fs.getD C.toNat 0).getLsbD u=true->fa a q (-1 - C)->Nj g a q u
theorem OF (b:cL g a) {c:List BV} (f:wm g a c) {r:Int} {u:Nat} : ∀ (l:List Int) (d q:Nat),q < a.length->(⟨r,d⟩:aB)∈kp g a q->(aW g r).drop d=l->(eR (av g false) c 0 l).getLsbD u=true->Nj g a q u
 | [],_,_,_,_,_,h=>by simp[eR] at h
 | s :: l,d,q,hq,i,hl,h=>by
  obtain⟨j,m,v⟩:=uu hl
  obtain⟨s1,s2,n,o⟩:=b.step hq i j
  rcases yH.1 h with ⟨p,h1⟩ | ⟨p,h1⟩
  .have k:=rl (om b.dq (b.has hq i) j)
   have:=b.dq.af
   obtain⟨t,rfl⟩:∃ t:Nat,s=t:=⟨s.toNat,by omega⟩
   have:=(vu (by omega) u).1 h1
   subst this
   exact .inl ⟨by omega,s1⟩
  .have e : -1 - (-1 - s)=s:=by omega
   rcases h1 with h1 | ⟨h1,k⟩
   .exact f (-1 - s) q u (by omega) h1 (by rw[e];exact s1)
   .refine .inr ⟨-1 - s,by omega,by rw[e];exact s1,h1,Nj.read ?_⟩
    rw[e]
    exact OF b f l (d+1) _ o (by simpa using n) m k
theorem oP (b:cL g a) {q:Nat} (hq:q < a.length) {C:Int} {k:Nat} (f:0<=C) (hk:k < g.rules.length) (hl:(ay g k).left=C) (he:fa a q (-1 - C)):(⟨k,0⟩:aB)∈kp g a q:=by
 obtain⟨x,c,d⟩:=(b.oC hq).1 he
 have e:g.rules[k]?=some (ay g k):=by unfold ay;exact getD_some hk
 exact(df b.dq (b.bf hq)).2 (.step ((df b.dq (b.bf hq)).1 c) d (by omega) e (by omega))
theorem PJ (b:cL g a) {e:List BV} (c:wm g a e) {k:Nat} (hk:k < g.rules.length):wm g a (lF (av g false) e (ay g k)):=by
 intro C q u d hu he
 have f:g.rules[k]?=some (ay g k):=by unfold ay;exact getD_some hk
 have h:=(b.dq.left _ (Zp f)).1
 unfold lF at hu
 rw[eS] at hu
 split at hu
 .rename_i i
  rw[Z5,aam] at hu
  have hl:(ay g k).left=C:=by omega
  rcases hu with hu | hu
  .exact c C q u d (by rw[<-hl];exact hu) he
  .have hq:=ib he
   have hm:=oP b hq d hk hl he
   refine OF b c _ 0 q hq hm ?_ hu
   rw[aaE,aW,Zk (by omega)]
 .exact c C q u d hu he
theorem Ih (c:cL g a):∀ (l:List bu) (b:List BV),(∀ R∈l,R∈g.rules)->wm g a b->wm g a (l.foldl (lF (av g false)) b)
 | [],_,_,h=>h
 | R :: l,b,hl,h=>by
  obtain⟨k,hk,e⟩:=aaA.1 (hl R (by simp))
  have f:R=ay g k:=by
   have d:g.rules[k]?=some (ay g k):=by unfold ay;exact getD_some hk
   rw[Zj hk,e] at d
   simpa using d
  rw[ZS]
  refine Ih c l _ (λx i=>hl x (by simp[i])) ?_
  rw[f]
  exact PJ c h hk
theorem HT (c:cL g a):∀ (n:Nat) (b:List BV),wm g a b->wm g a (iter (ve g (av g false)) n b)
 | 0,_,h=>h
 | n+1,b,h=>by
  rw[iter]
  exact HT c n _ (Ih c g.rules b (λ_ h=>h) h)
theorem Ph (b:cL g a):wm g a (eL g (av g false)):=by
 refine HT b _ _ λC q u c hu he=>?_
 simp only[Zi,aaO] at hu
 split at hu <;> simp at hu
theorem W7 (b:cL g a) {i:Nat} {x:aB} {t:Nat} (h:lB g (av g false) a (aY g a) i x t) :
  (x.aw < 0->t=g.af.length)/\(0<=x.aw->∃ p,jB a p ((aW g x.aw).take x.dot.toNat) i/\fa a p (-1 - (ay g x.aw).left)/\zE g a p (ay g x.aw).left t):=by
 induction h with
 | start=>exact⟨λ_=>rfl,λh=>by simp at h⟩
 | @move i x t s hl c hm l =>
  obtain⟨hi,f⟩:=iE.1 hl.mem
  have hH:=b.has hi f
  refine⟨l.1,λm=>?_⟩
  obtain⟨p,j,r,v⟩:=l.2 m
  obtain⟨d,d1,d2,d3⟩:=uj hH c
  refine⟨p,?_,r,v⟩
  have hE:=((b.oC hi).2 ⟨x,f,c⟩)
  have:=j.snoc hE
  rw[d1] at this ⊢
  rw[show ((d:Int)+1).toNat=d+1 by omega,ZG]
  have N:(aW g x.aw)[d]?=some s:=by
   have:=aau (·[0]?) d2
   simpa using this
  rw[N]
  exact this
 | @begin i x t u s k hl c H hk I hm hu l =>
  obtain⟨hi,f⟩:=iE.1 hl.mem
  have hH:=b.has hi f
  refine⟨λh=>by simp only at h;omega,λ_=>?_⟩
  obtain⟨d,d1,d2,d3⟩:=uj hH c
  obtain⟨s1,s2,J,O⟩:=b.step hi f c
  have e : -1 - (-1 - s)=s:=by omega
  refine⟨i,by simpa using jB.nil,by simp only;rw[I,e];exact s1,?_⟩
  simp only
  rw[I]
  rcases (vW _ _ _ _ _).1 hu with h1 | ⟨h1,K⟩
  .refine .read (Nj.read ?_)
   rw[e]
   refine OF b (Ph b) (dG g x) (d+1) _ O (by rw[d1] at J;simpa using J) d3 h1
  .have w:u=t:=by
    rw[aaN] at K
    simp at K;omega
   subst w
   by_cases m:0<=x.aw
   .obtain⟨p,j,r,v⟩:=l.2 m
    obtain⟨n,z⟩:∃ n:Nat,x.aw=n:=⟨x.aw.toNat,by omega⟩
    have A:n < g.rules.length:=by have:=hH.1;omega
    rw[z] at j r v d2 d3
    have B:aW g (n:Int)=(ay g n).right:=by rw[aW,Zk (by omega)]
    rw[B] at j d2 d3
    rw[d1] at j
    refine .Ot v A r (by omega) (d:=d) ?_ (by simpa using j) (by rw[d3];exact h1)
    have:=aau (·[0]?) d2
    rw[e]
    simpa using this
   .have P:=l.1 (by omega)
    have hr:x.aw = -1:=by have:=hH.1;omega
    have C:=((df b.dq (b.bf hi)).1 f).bf (.inr (by omega))
    have D:i=0:=Nat.eq_zero_of_not_pos λm=>by
     obtain⟨p,y,V,_,Q,R,S,L,W,X⟩:=b.prev hi C m
     have o:=aau aB.aw L
     have E:=aau aB.dot L
     simp only at o E
     obtain⟨Y,Z,M,e3⟩:=xN (b.has Q R) S
     obtain⟨F,T,q,U⟩:=xN hH c
     rw[<-o,hr] at M
     rw[hr] at q
     simp only[aW,if_true,List.length_singleton] at M q
     omega
    have G:d=0:=by
     obtain⟨F,T,q,U⟩:=xN hH c
     rw[hr] at q
     simp only[aW,if_true,List.length_singleton] at q
     omega
    subst G
    rw[hr] at d2
    simp only[aW,if_true,aaE,abr] at d2
    rw[D,P,show -1 - s=g.start by omega]
    exact .read .fin
theorem R8 (f:cL g a) {q:Nat} (hq:q < a.length) {u:Nat} {z:aB} (m:z∈kp g a q):∀ d:Nat,z.dot=d->(eR (av g false) (eL g (av g false)) 0 ((aW g z.aw).drop d)).getLsbD u=true ->
  ∃ (y:aB) (e:Nat),y∈(a.getD q bg).bf/\y.dot=e/\(eR (av g false) (eL g (av g false)) 0 ((aW g y.aw).drop e)).getLsbD u=true:=by
 have i:=(df f.dq (f.bf hq)).1 m
 clear m
 induction i with
 | base h=>exact λd h1 b=>⟨_,d,h,h1,b⟩
 | @step x s k R n o c j hl p =>
  intro d h1 b
  have hd:d=0:=by simp only at h1;omega
  subst hd
  obtain⟨r,t,v,w⟩:=uj (n.has (f.bf hq)) o
  refine p r t ?_
  rw[v]
  refine yH.2 (.inr ⟨c,.inl ?_⟩)
  have hk:k < g.rules.length:=(Zy.1 j).1
  have l:ay g k=R:=by unfold ay;rw[Zi,ZK,j];rfl
  rw[<-hl]
  refine Bp f.dq _ (Zp j) u ?_
  rw[aaE,aW,Zk (by simp only;omega)] at b
  simp only at b
  rw[l] at b
  exact b
theorem GV (b:cL g a) {p:Nat} {s:Int} {u:Nat} (he:fa a p s) (h:∃ y∈kp g a (eK a p s),∃ d:Nat,y.dot=d/\(eR (av g false) (eL g (av g false)) 0 ((aW g y.aw).drop d)).getLsbD u=true) :
  ∃ x∈kp g a p,bA g x=(s,true)/\(eR (av g false) (eL g (av g false)) 0 (dG g x)).getLsbD u=true:=by
 obtain⟨y,j,d,h1,k⟩:=h
 obtain⟨_,_,_,_,hl,_⟩:=b.eK he
 obtain⟨z,e,c,z2,z3⟩:=R8 b hl j d h1 k
 rw[b.Uu he] at c
 obtain⟨x,f,i,rfl⟩:=mf.1 c
 refine⟨x,f,i,?_⟩
 obtain⟨l,n,o,m⟩:=uj (b.has (ib he) f) i
 simp only at z2 z3
 rw[<-m,show l+1=e by omega]
 exact z3
theorem Oo (b:cL g a) {p u:Nat} {B:Int} (h:qx g a p B u):fa a p (-1 - B)->(p=0/\B=g.start/\u=g.af.length)∨∃ x∈kp g a p,bA g x=(-1 - B,true)/\(eR (av g false) (eL g (av g false)) 0 (dG g x)).getLsbD u=true:=by
 induction h with
 | fin=>exact λ_=>.inl ⟨rfl,rfl,rfl⟩
 | @term p B t q he =>
  intro c
  right
  refine GV b c ?_
  have hq:=ib he
  obtain⟨y,j,e⟩:=(b.oC hq).1 he
  obtain⟨d,f,i,l⟩:=uj (b.has hq j) e
  refine⟨y,j,d,f,?_⟩
  have:=b.dq.af
  rw[i]
  exact yH.2 (.inl ⟨by omega,(vu (by omega) _).2 rfl⟩)
 | @null p B C t r he e hr m =>
  intro c
  rcases m he with ⟨h1,_,_⟩ | ⟨y,k,n,o⟩
  .exact absurd h1 (b.Y1 c)
  .right
   refine GV b c ?_
   obtain⟨d,f,i,l⟩:=uj (b.has (ib he) k) n
   refine⟨y,k,d,f,?_⟩
   rw[i]
   refine yH.2 (.inr ⟨by omega,.inr ⟨?_,o⟩⟩)
   rw[show -1 - (-1 - C)=C by omega];exact e
theorem VG (b:cL g a) (hr:isRed g=true):∀ (n i:Nat),i < n->i < a.length->∀ x∈kp g a i,∃ t,t < 32/\lB g (av g false) a (aY g a) i x t
 | 0,_,h,_,_,_=>by omega
 | n+1,i,_,hi,x,d=>by
  have j:=(df b.dq (b.bf hi)).1 d
  clear d
  induction j with
  | @base x h =>
   by_cases v:0 < i
   .obtain⟨p,y,s,I,w,z,A,C,J,D⟩:=b.prev hi h v
    obtain⟨t,l,m⟩:=VG b hr n p (by omega) w y z
    refine⟨t,l,?_⟩
    obtain⟨s1,s2,E,F⟩:=b.step w z A
    have hm:(⟨y.aw,y.dot+1⟩:aB)∈(aY g a).getD (dY a p [s]).1.toNat []:=iE.2 ⟨F,E⟩
    have:=lB.move m A hm
    rw[C,<-D]
    exact this
   .have o:i=0:=by omega
    subst o
    rw[b.e.first] at h
    simp at h;subst h
    have:=b.dq.af
    exact⟨g.af.length,by omega,.start (iE.2 ⟨hi,(df b.dq (b.bf hi)).2 (.base (by rw[b.e.first];simp))⟩)⟩
  | @step x s k R d B c q hl G =>
   obtain⟨t,l,m⟩:=G
   have hH:=d.has (b.bf hi)
   have hk:k < g.rules.length:=(Zy.1 q).1
   have r:ay g k=R:=by unfold ay;rw[Zi,ZK,q];rfl
   obtain⟨u,hu⟩:=E9 hr l (dG g x) (λs hs=>by
    unfold dG at hs
    split at hs
    .rename_i v
     have H:g.rules[x.aw.toNat]?=some (ay g x.aw):=by
      have:=hH.1
      unfold ay;exact getD_some (by omega)
     exact b.dq.sym _ (Zp H) s (List.mem_of_mem_drop hs)
    .simp at hs)
   have f:u < 32:=Nat.lt_of_not_le λh=>by rw[BitVec.getLsbD_of_ge _ _ h] at hu;simp at hu
   exact⟨u,f,.begin m B c hk (by rw[r];omega) (iE.2 ⟨hi,(df b.dq (b.bf hi)).2 (.step d B c q hl)⟩) hu⟩
theorem I0 (b:cL g a) {k:Nat} {t:Nat} : ∀ (X:List Int) (d p i:Nat),jB a p X i->lB g (av g false) a (aY g a) p ⟨k,d⟩ t->(∃ l,(aW g k).drop d=X ++ l)->lB g (av g false) a (aY g a) i ⟨k,((d+X.length:Nat):Int)⟩ t
 | [],d,p,i,hw,h,_=>by cases hw;simpa using h
 | s :: X,d,p,i,hw,h,⟨l,hl⟩=>by
  cases hw with
  | cons h1 e =>
   obtain⟨c,f,r⟩:=uu hl
   obtain⟨hp,j⟩:=iE.1 h.mem
   obtain⟨s1,s2,m,n⟩:=b.step hp j c
   have hm:(⟨(⟨k,d⟩:aB).aw,(⟨k,d⟩:aB).dot+1⟩:aB)∈(aY g a).getD (dY a p [s]).1.toNat []:=iE.2 ⟨n,m⟩
   have o:=lB.move h c hm
   have q:=I0 b X (d+1) _ i e (by rw[show (((d+1:Nat):Int))=(d:Int)+1 by omega];exact o) ⟨l,f⟩
   rw[show d+(s :: X).length=d+1+X.length by simp;omega]
   exact q
theorem Xh (b:cL g a) (hr:isRed g=true) {p t:Nat} {B:Int} (h:zE g a p B t):0<=B->fa a p (-1 - B)->∀ k:Nat,k < g.rules.length->(ay g k).left=B->lB g (av g false) a (aY g a) p ⟨k,0⟩ t:=by
 induction h with
 | @read p B t h =>
  intro q he k hk hl
  have hp:=ib he
  have hm:=iE.2 ⟨hp,oP b hp q hk hl he⟩
  rcases Oo b h he with ⟨rfl,rfl,rfl⟩ | ⟨x,y,z,A⟩
  .have C:(⟨-1,0⟩:aB)∈kp g a 0:=(df b.dq (b.bf hp)).2 (.base (by rw[b.e.first];simp))
   refine .begin (.start (iE.2 ⟨hp,C⟩)) (s:=-1 - g.start) ?_ (by omega) hk (by omega) hm ?_
   .unfold bA;rw[Zk (by simp[aW])];simp[aW]
   .have:=b.dq.af
    rw[dG,Zk (by simp),eR,aaN]
    simp;omega
  .obtain⟨t0,w,D⟩:=VG b hr (p+1) p (by omega) hp x y
   refine .begin D z (by omega) hk (by omega) hm ((vW _ _ _ _ _).2 (.inl A))
 | @Ot p E c d B t H j r F hd hw f u =>
  intro q he k hk hl
  have G:g.rules[c]?=some (ay g c):=by unfold ay;exact getD_some j
  have h1:=u (b.dq.left _ (Zp G)).1 r c j rfl
  have m:aW g (c:Int)=(ay g c).right:=by rw[aW,Zk (by omega)]
  have n:=(Zy.1 hd).1
  have o:=I0 b _ 0 E p hw (by simpa using h1) ⟨(ay g c).right.drop d,by rw[m,aaE,List.take_append_drop]⟩
  rw[Z6,aaw,Nat.min_eq_left (by omega)] at o
  have hp:=ib he
  have v:bA g ⟨c,d⟩=(-1 - B,true):=(uu (l:=(ay g c).right.drop (d+1)) (by
   rw[m,aad n]
   congr 1
   rw[Zj n] at hd
   simpa using hd)).1
  refine .begin o v (by omega) hk (by omega) (iE.2 ⟨hp,oP b hp q hk hl he⟩) ((vW _ _ _ _ _).2 (.inr ⟨?_,?_⟩))
  .rw[dG,Zn (by simp only;omega)]
   simpa using f
  .obtain⟨i3,_⟩:=iE.1 o.mem
   have w:t < 32:=by
    have key:∀ {i:Nat} {x:aB} {t:Nat},lB g (av g false) a (aY g a) i x t->t < 32:=by
     intro i x t h
     have:=b.dq.af
     induction h with
     | start=>omega
     | move _ _ _ u=>exact u
     | begin _ _ _ _ _ _ hu _=>exact Nat.lt_of_not_le λh=>by rw[BitVec.getLsbD_of_ge _ _ h] at hu;simp at hu
    exact key o
   rw[aaN]
   simp[w]
theorem WU (d:cL g a) (hr:isRed g=true) {i k t:Nat} (hk:k < g.rules.length):lB g (av g false) a (aY g a) i ⟨k,((ay g k).right.length:Nat)⟩ t↔∃ p,jB a p (ay g k).right i/\fa a p (-1 - (ay g k).left)/\zE g a p (ay g k).left t:=by
 have l:g.rules[k]?=some (ay g k):=by unfold ay;exact getD_some hk
 have b:aW g (k:Int)=(ay g k).right:=by rw[aW,Zk (by omega)]
 constructor
 .intro h
  obtain⟨p,c,e,f⟩:=(W7 d h).2 (by simp only;omega)
  simp only at c e f
  rw[b,ZK,List.take_length] at c
  exact⟨p,c,e,f⟩
 .rintro⟨p,c,e,f⟩
  have h1:=Xh d hr f (d.dq.left _ (Zp l)).1 e k hk rfl
  have j:=I0 d _ 0 p i c (by simpa using h1) ⟨[],by rw[b];simp⟩
  rw[aaw] at j
  exact j
theorem Xq (b:cL g a) {i k:Nat} (hi:i < a.length) (hk:k < g.rules.length):(⟨k,((ay g k).right.length:Nat)⟩:aB)∈kp g a i↔∃ p,jB a p (ay g k).right i/\fa a p (-1 - (ay g k).left):=by
 have l:g.rules[k]?=some (ay g k):=by unfold ay;exact getD_some hk
 have f:aW g (k:Int)=(ay g k).right:=by rw[aW,Zk (by omega)]
 constructor
 .intro h
  obtain⟨p,d,j,n⟩:=b.bwd k _ i hi h
  rw[f,List.take_length] at j
  refine⟨p,j,?_⟩
  cases (df b.dq (b.bf d)).1 n with
  | base h =>
   exfalso
   by_cases o:0 < p
   .obtain⟨_,y,s,B,r,t,C,u,_,_⟩:=b.prev d h o
    have:=aau aB.dot u
    simp only at this
    have:=(b.has r t).2
    omega
   .have:p=0:=by omega
    subst this
    rw[b.e.first] at h
    simp at h
  | @step x s k2 R v w m c hl =>
   rw[l] at c
   simp only[Zl] at c
   rw[c,hl,show -1 - (-1 - s)=s by omega]
   exact(b.oC d).2 ⟨x,(df b.dq (b.bf d)).2 v,w⟩
 .rintro⟨p,d,j⟩
  have hp:=ib j
  have hm:=oP b hp (b.dq.left _ (Zp l)).1 hk rfl j
  obtain⟨q,D,z,A⟩:=b.fwd k (ay g k).right 0 p hp hm ⟨[],by rw[f];simp⟩
  rw[d.one z]
  simpa using A
end
section
variable {g:aj} {a:List aM}
end
def fI (z:List Cell) (e:cn):List Cell:=if e.sym < 0 then z else z.set e.sym.toNat ⟨1,e.to⟩
def iQ (z:List Int) (e:cn):List Int:=if e.sym < 0 then z.set (-1 - e.sym).toNat e.to else z
theorem Eu (z:List Cell) (e:cn):(fI z e).length=z.length:=by unfold fI;split <;> simp
theorem Et (z:List Int) (e:cn):(iQ z e).length=z.length:=by unfold iQ;split <;> simp
theorem pU:∀ (l:List cn) (z:List Cell),(l.foldl fI z).length=z.length
 | [],_=>rfl
 | e :: l,z=>by rw[ZS,pU l,Eu]
theorem zH:∀ (l:List cn) (z:List Int),(l.foldl iQ z).length=z.length
 | [],_=>rfl
 | e :: l,z=>by rw[ZS,zH l,Et]
theorem Dw {l:List cn} {s:Int} (h:s ∉ l.map cn.sym):gR l s=none:=by
 cases a:gR l s with
 | none=>rfl
 | some c =>
  obtain⟨e,he,h1,_⟩:=TN a
  exact absurd (ZF.2 ⟨e,he,h1⟩) h
def Hc (c:Option Cell) (d:Cell):Cell:=match c with
 | some c=>c
 | none=>d
theorem EV:∀ (l:List cn) (z:List Cell) (k:Nat),(l.map cn.sym).Nodup->k < z.length->(l.foldl fI z).getD k ⟨0,0⟩=Hc (gR l k) (z.getD k ⟨0,0⟩)
 | [],z,k,_,_=>rfl
 | e :: l,z,k,a,hk=>by
  rw[ZJ,aah] at a
  rw[ZS,EV l _ k a.2 (by rw[Eu];exact hk),gR]
  by_cases h:e.sym=k
  .rw[Zn h,Dw (h ▸ a.1)]
   simp only[Hc,fI]
   rw[Zk (by omega),eS,Zn ⟨by omega,by omega⟩]
  .rw[Zk h]
   congr 1
   unfold fI
   split
   .rfl
   .rw[eS,Zk (by omega)]
theorem EX:∀ (l:List cn) (z:List Int) (k:Nat),(l.map cn.sym).Nodup->k < z.length->(l.foldl iQ z).getD k (-1)=(Hc (gR l (-1 - k)) ⟨1,z.getD k (-1)⟩).n
 | [],z,k,_,_=>rfl
 | e :: l,z,k,a,hk=>by
  rw[ZJ,aah] at a
  rw[ZS,EX l _ k a.2 (by rw[Et];exact hk),gR]
  by_cases h:e.sym = -1 - k
  .rw[Zn h,Dw (h ▸ a.1)]
   simp only[Hc,iQ]
   rw[Zn (by omega),eS,Zn ⟨by omega,by omega⟩]
  .rw[Zk h]
   congr 2
   unfold iQ
   split
   .rw[eS,Zk (by omega)]
   .rfl
theorem GX (s:Int):∀ l:List cn,dI l s=(Hc (gR l s) ⟨1,-1⟩).n
 | []=>rfl
 | e :: l=>by
  rw[dI,gR]
  split
  .rfl
  .exact GX s l
section
variable {g:aj} {a:List aM}
theorem V0 (b:wo g a) {i:Nat} (hi:i < a.length) (k:Int):we a i k=(Hc (gR (a.getD i bg).aK (-1 - k)) ⟨1,-1⟩).n:=by
 have d:dY a i [-1 - k]=fU a i [-1 - k]:=by unfold dY;rw[Zk (by omega)]
 have f:fU a i [-1 - k]=if 0<=dI (a.getD i bg).aK (-1 - k)/\dI (a.getD i bg).aK (-1 - k) < a.length then (dI (a.getD i bg).aK (-1 - k),true) else (0,false):=by
  rw[fU,ZK];simp only[fU]
 rw[we,d,f,<-GX]
 by_cases h:0<=dI (a.getD i bg).aK (-1 - k)
 .obtain⟨e,he,_,o⟩:=Ud h
  have:=b.to _ (Zp (getD_some hi)) e he
  rw[Zn (c:=0<=dI (a.getD i bg).aK (-1 - k)/\_) ⟨h,by omega⟩]
  simp
 .rw[Zk (c:=0<=dI (a.getD i bg).aK (-1 - k)/\_) (λq=>h q.1)]
  simp only[ZM,if_false]
  have:∀ l:List cn,(∀ e∈l,0<=e.to)->-1<=dI l (-1 - k):=λl=>by
   induction l with
   | nil=>intro _;simp[dI]
   | cons e l j =>
    intro hl
    rw[dI]
    split
    .have:=hl e (by simp);omega
    .exact j λx m=>hl x (by simp[m])
  have:=this (a.getD i bg).aK λe he=>(b.to _ (Zp (getD_some hi)) e he).1
  omega
theorem X8 (b:wo g a) {i:Nat} (hi:i < a.length) (c:((a.getD i bg).aK.map cn.sym).Nodup):(a.getD i bg).aK.foldl iQ (List.replicate g.ak.length (-1))=qg g a i:=by
 refine List.ext_getElem (by rw[zH];simp[qg]) λk h1 d=>?_
 have hk:k < g.ak.length:=by simpa [qg] using d
 have e:=EX (a.getD i bg).aK (List.replicate g.ak.length (-1)) k c (by simpa using hk)
 rw[Zi,Zj h1] at e
 simp only[ZC] at e
 rw[e]
 simp only[qg,List.getElem_map,List.getElem_range,V0 b hi]
 congr 3
 simp[Zi,aaO,hk]
def Cb (g:aj) (s:aM):List Cell:=if (⟨-1,1⟩:aB)∈s.bf then (s.aK.foldl fI (List.replicate (g.af.length+1) ⟨0,0⟩)).set g.af.length ⟨3,0⟩ else s.aK.foldl fI (List.replicate (g.af.length+1) ⟨0,0⟩)
theorem HG (g:aj) (s:aM):(Cb g s).length=g.af.length+1:=by
 unfold Cb
 split
 .rw[aa1,pU];simp
 .rw[pU];simp
theorem Ru {g:aj} {s:aM} (b:(s.aK.map cn.sym).Nodup) (f:∀ e∈s.aK,e.sym < g.af.length) {k:Nat} (hk:k < g.af.length+1):(Cb g s)[k]?=some (gA g s k):=by
 have e:=EV s.aK (List.replicate (g.af.length+1) ⟨0,0⟩) k b (by simpa using hk)
 have i:(List.replicate (g.af.length+1) (⟨0,0⟩:Cell)).getD k ⟨0,0⟩=⟨0,0⟩:=by simp[Zi,aaO,hk]
 rw[i] at e
 rw[getD_some (d:=⟨0,0⟩) (by rw[HG];exact hk)]
 congr 1
 have j:gR s.aK (g.af.length:Nat)=none:=Dw λh=>by
  obtain⟨x,l,h1⟩:=ZF.1 h
  have:=f x l;omega
 unfold Cb gA
 split
 .rename_i hm
  rw[eS,pU,aaq]
  by_cases a:k=g.af.length
  .subst a
   rw[Zn ⟨rfl,by omega⟩,j]
   simp only
   rw[Zn ⟨trivial,hm⟩]
  .rw[Zk (λh=>a h.1.symm),e]
   cases gR s.aK k with
   | some c=>rfl
   | none=>simp only[Hc];rw[Zk (λh=>a (by have:=h.1;omega))]
 .rename_i hm
  rw[e]
  cases gR s.aK k with
  | some c=>rfl
  | none=>simp only[Hc];rw[Zk (λh=>hm h.2)]
theorem UZ {g:aj} {s:aM} (a:(s.aK.map cn.sym).Nodup) (b:∀ e∈s.aK,e.sym < g.af.length):Cb g s=(List.range (g.af.length+1)).map λ(k:Nat)=>gA g s k:=by
 refine List.ext_getElem? λk=>?_
 by_cases hk:k < g.af.length+1
 .rw[Ru a b hk,Zm,abl hk];rfl
 .rw[ZT (by rw[HG];omega),ZT (by simp;omega)]
end
section
variable {P:Program} {T:Env} {H:View} {K:V->View->Prop} {w:cO (T,H,K)} {t t1 e ty:TypeId}
theorem M0 {d x:Operand} {id off len sz bytes s:Nat} {z:List V} {es xs:List (List V)} {rd:List Nat} (he:rL P t=some (sz,bytes,z)) (hd:ev T d=.sl id off len sz) (g:bR H (ev T x)=some (xs,rd)) (hH:H id=.arr s es) (hl:off+len<=es.length)
  (h:(xs.all λe=>e.length == sz && e.all aL)=true) (i:(xs.take len).isEmpty=false) (hk:K (jd (xs.take len).length) (H.set id (.arr sz (eC es off (xs.take len))))) :
  j5 P (.call { callee:=.builtin .copy,args:=#[d,x],argTypes:=#[t,t1] }) ty T H K w:=by
 obtain⟨e,ti,a,hi,b,k,j,f,c,rfl,rfl⟩:=mc he
 intro n _
 refine⟨jd (xs.take len).length,.fK id (.arr ti.size (eC es off (xs.take len))),id :: rd,?_,hk⟩
 simp only[sI,cx,oper]
 simp[zk,a,hd,g,cT,b,i,hH,hl,c,h]
theorem T8 {d x:Operand} {k:Nat} {sz bytes:Nat} {z:List V} {xs:List (List V)} {rd:List Nat} (he:rL P t=some (sz,bytes,z)) (hd:ev T d=.emp k) (f:bR H (ev T x)=some (xs,rd)) (hk:K (jd 0) H) :
  j5 P (.call { callee:=.builtin .copy,args:=#[d,x],argTypes:=#[t,t1] }) ty T H K w:=by
 obtain⟨e,ti,a,hi,b,i,g,c,h,rfl,rfl⟩:=mc he
 intro n _
 refine⟨jd 0,.none,[],?_,hk⟩
 simp only[sI,cx,oper]
 simp[zk,a,hd,f,cT,b]
end
theorem wU:∀ (xs A B:List (List V)),xs.length<=B.length->eC (A ++ B) A.length xs=A ++ xs ++ B.drop xs.length
 | [],A,B,_=>by simp[eC]
 | x :: r,A,[],h=>by simp at h
 | x :: r,A,b :: B,h=>by
  rw[eC,List.set_append_right _ _ (Zt _),Nat.sub_self,List.set_cons_zero]
  have:=wU r (A ++ [x]) B (by simpa using h)
  simpa using this
theorem LV {id off k m:Nat} (hm:m<=k):dE 1 (.sl id off k 1) (some (gi m)) none=some (.sl id (off+m) (k - m) 1,.none,[]):=by
 simp[dE,bound,asNat,hm]
def u64 (n:Int):V:=.val (.int .u64 n)
noncomputable def Rs:List (FuncId × DF):=Cm Tryz.prog [(174,[]),(211,[])]
theorem PI:tN Tryz.prog Rs:=zf _ _
theorem Wi {n:Nat} (h:n<=16):az Tryz.prog 174 [u64 1,u64 n] (.bt [u64 0,u64 n]):=by
 have key:∀ {n:Nat},x7 Tryz.prog Rs (Ov []) 174 [u64 1,u64 n]=some (.bt [u64 0,u64 n])->az Tryz.prog 174 [u64 1,u64 n] (.bt [u64 0,u64 n]):=λh =>
  (tV mixed PI (K7 (l:=[]) (by simp)) (by intro v a;simp at a;rcases a with rfl | rfl <;> exact .val _) h).pure
 have:n=0∨n=1∨n=2∨n=3∨n=4∨n=5∨n=6∨n=7∨n=8∨n=9∨n=10∨n=11∨n=12∨n=13∨n=14∨n=15∨n=16:=by omega
 rcases this with rfl | rfl | rfl | rfl | rfl | rfl | rfl | rfl | rfl | rfl | rfl | rfl | rfl | rfl | rfl | rfl | rfl <;> exact key (by kernel_rfl)
def ia:SC :=
 ae [ae [ab [aa 34 8,aa 35 7,aP 36 35,aS 37 .lss 34 36],bT 37 (.exit 0)],.block 1 (ab [aa 38 8,aa 39 7,aa 40 8,((some 41),.op (.slice 1 (.tmp 39) (some (.tmp 40)) none)),aa 42 7,aa 43 8,((some 44),.op (.slice 1 (.tmp 42) none (some (.tmp 43)))),((some 45),.op (.old (.call { callee:=.builtin .copy,args:=#[(.tmp 41),(.tmp 44)],argTypes:=#[43,43] }) 3)),aS 46 .add 38 45,aa 8 46])]
def kT:SF:=⟨ae [ab [cq 4 1],ae [ab [aa 9 1,aG 10 .lss 9 0],bc 10 (.region false [⟨none,[((some 11),.op (.old (.makeInterface 9 (.const (.string ⟨#[99,97,110,110,111,116,32,98,101,32,110,101,103,97,116,105,118,101]⟩))) 20)),(none,.op (.old (.panic (.tmp 11)) 0))]⟩])],ab [aa 13 0,aP 14 13,((some 15),.op (.conv .u64 (.tmp 14))),aa 16 1,((some 17),.op (.conv .u64 (.tmp 16))),bh 18 174 [15,17],aa 12 18,dW 19 0 12,dW 20 1 12,aa 5 19,aa 6 20],ae [.region false [⟨none,[aa 21 5,((some 22),.op (.arith .gtr (.tmp 21) (.val (.val (.int .u64 0))))),aa 23 22]⟩,⟨(some (23,false)),[aa 24 6,((some 25),.op (.arith .gtr (.tmp 24) (.val (.val (.int .u64 9223372036854775807)))))]⟩,⟨none,[cD 26 23 25]⟩],bc 26 (.region false [⟨none,[((some 27),.op (.old (.makeInterface 9 (.const (.string ⟨#[116,104,101,32,114,101,115,117,108,116,32,111,102,32,40,108,101,110,40,120,41,32,42,32,99,111,117,110,116,41,32,111,118,101,114,102,108,111,119,115]⟩))) 20)),(none,.op (.old (.panic (.tmp 27)) 0))]⟩])],ab [aa 28 6,((some 29),.op (.conv .i64 (.tmp 28))),((some 30),.op (.make 1 8 [(.val (.int .i64 0))] (.tmp 29) (.tmp 29))),aa 7 30],ab [aa 31 7,aa 32 0,((some 33),.op (.old (.call { callee:=.builtin .copy,args:=#[(.tmp 31),(.tmp 32)],argTypes:=#[43,43] }) 3)),aa 8 33],bU 0 ia,ab [aa 47 7,aa 4 47],.ret],
 [.tmp 4],48⟩
theorem qC:aN Tryz.prog 127 []=some kT:=by kernel_rfl
theorem Og (n:Nat) (t:n<=16) (m:Nat) (H:View) (hm:H m=.arr 1 [[gi (-1)]]):au Tryz.prog 127 [.sl m 0 1 1,gi n] H λr H'=>aV H' r 1 (bF (List.replicate n (-1)))/\dt H H' r:=by
 refine au.of mixed qC ?_
 have hmul:=Wi t
 unfold u64 at hmul
 have i:IntKind.u64.wrap 1=1:=by decide
 have j:IntKind.u64.wrap (n:Int)=n:=by
  have:n=0∨n=1∨n=2∨n=3∨n=4∨n=5∨n=6∨n=7∨n=8∨n=9∨n=10∨n=11∨n=12∨n=13∨n=14∨n=15∨n=16:=by omega
  rcases this with rfl | rfl | rfl | rfl | rfl | rfl | rfl | rfl | rfl | rfl | rfl | rfl | rfl | rfl | rfl | rfl | rfl <;> decide
 have f:IntKind.i64.wrap (n:Int)=n:=by
  have:n=0∨n=1∨n=2∨n=3∨n=4∨n=5∨n=6∨n=7∨n=8∨n=9∨n=10∨n=11∨n=12∨n=13∨n=14∨n=15∨n=16:=by omega
  rcases this with rfl | rfl | rfl | rfl | rfl | rfl | rfl | rfl | rfl | rfl | rfl | rfl | rfl | rfl | rfl | rfl | rfl <;> decide
 simp(disch:=omega)only[↓wr,seval,wq,kT]
 refine ah.dec (λh=>absurd h (by omega)) (λ_=>?_)
 simp(disch:=omega)only[↓wr,seval,wq]
 rw[i,j]
 refine ax.pure hmul ?_
 simp(disch:=omega)only[↓wr,seval,wq,f]
 refine ah.dec (λh=>absurd h (by omega)) (λ_=>?_)
 simp(disch:=omega)only[↓wr,seval,wq,f]
 refine⟨⟨by omega,by unfold aA;omega,by unfold aA;omega⟩,λp=>?_,λp b g=>?_⟩
 .refine T8 (k:=2) (sz:=1) (bytes:=8) (z:=[gi 0]) (xs:=[[gi (-1)]]) (rd:=[m]) (by kernel_rfl) (by simp(disch:=omega)only[↓wr,seval,wq]) (by simp(disch:=omega)only[↓wr,seval,wq];simp[bR,hm]) ?_
  simp(disch:=omega)only[↓wr,seval,wq]
  refine aR.intro (λk T H'=>H'=H/\T 7=.emp 2/\T 8=jd 0) 0 ⟨rfl,rfl,rfl⟩ ?_
  rintro k T _ ⟨rfl,t7,t8⟩
  simp(disch:=omega)only[↓wr,seval,wq,ia,t7,t8]
  refine⟨?_,λid a=>⟨rfl,by simp[owner]⟩⟩
  rw[p];exact .nil
 have l:¬ m=b:=by rintro rfl;rw[hm] at g;simp at g
 refine M0 (id:=b) (off:=0) (len:=n) (sz:=1) (bytes:=8) (z:=[gi 0]) (s:=1) (es:=List.replicate n [gi 0]) (xs:=[[gi (-1)]]) (rd:=[m]) (by kernel_rfl) (by simp(disch:=omega)only[↓wr,seval,wq]) (by simp(disch:=omega)only[↓wr,seval,wq];simp[bR,View.set,l,hm]) (by simp[View.set]) (by simp) (by simp[aL]) (by obtain⟨q,rfl⟩:∃ q,n=q+1:=⟨n - 1,by omega⟩;rfl) ?_
 rw[show ([[gi (-1)]]:List (List V)).take n=List.replicate 1 [gi (-1)] by obtain⟨q,rfl⟩:∃ q,n=q+1:=⟨n - 1,by omega⟩;simp,
  show eC (List.replicate n [gi 0]) 0 (List.replicate 1 [gi (-1)])=List.replicate 1 [gi (-1)] ++ List.replicate (n - 1) [gi 0] by
   have:=wU (List.replicate 1 [gi (-1)]) [] (List.replicate n [gi 0]) (by simp;omega)
   simpa using this,aaq]
 simp(disch:=omega)only[↓wr,seval,wq]
 rw[set_set]
 refine aR.intro (λk T H'=>∃ c:Nat,1<=c/\c+k=n/\H' b=.arr 1 (List.replicate c [gi (-1)] ++ List.replicate (n - c) [gi 0])/\(∀ id,H id≠.dead->H' id=H id)/\T 7=.sl b 0 n 1/\T 8=gi c) (n - 1) ⟨1,by omega,by omega,by simp[View.set],λid a=>?_,rfl,rfl⟩ ?_
 .have:¬ id=b:=by rintro rfl;exact a g
  simp[View.set,this]
 rintro k T H' ⟨c,c1,v,hH,e,t7,t8⟩
 simp(disch:=omega)only[↓wr,seval,wq,ia,t7,t8]
 apply ah.dec<;>intro u
 .simp(disch:=omega)only[↓wr,seval,wq,t7,t8,LV (id:=b) (off:=0) (k:=n) (m:=c) (by omega),LC (id:=b) (off:=0) (k:=n) (m:=c) (by omega)]
  have o:bR H' (.sl b 0 c 1)=some (List.replicate c [gi (-1)],[b]):=by
   obtain⟨q,rfl⟩:∃ q,c=q+1:=⟨c - 1,by omega⟩
   simp only[bR,hH]
   rw[Zn (by simp)]
   simp
  obtain⟨d,hd⟩:∃ d,d=min (n - c) c:=⟨_,rfl⟩
  refine M0 (id:=b) (off:=c) (len:=n - c) (sz:=1) (bytes:=8) (z:=[gi 0]) (s:=1) (es:=List.replicate c [gi (-1)] ++ List.replicate (n - c) [gi 0]) (xs:=List.replicate c [gi (-1)]) (rd:=[b]) (by kernel_rfl) (by simp(disch:=omega)only[↓wr,seval,wq]) (by simp(disch:=omega)only[↓wr,seval,wq];exact o) hH (by simp) (by simp[aL]) ?_ ?_
  .rw[List.take_replicate,<-hd]
   obtain⟨q,hq⟩:∃ q,d=q+1:=⟨d - 1,by omega⟩
   rw[hq];rfl
  have hs:=wU (List.replicate d [gi (-1)]) (List.replicate c [gi (-1)]) (List.replicate (n - c) [gi 0]) (by simp;omega)
  rw[aaq] at hs
  rw[List.take_replicate,<-hd,hs,aaq]
  simp(disch:=omega)only[↓wr,seval,wq,t7,t8]
  refine⟨n - (c+d),by omega,c+d,by omega,by omega,?_,λid a=>?_,rfl⟩
  .simp[View.set,List.drop_replicate,<-List.replicate_append_replicate,show n - c - d=n - (c+d) by omega]
  .have:¬ id=b:=by rintro rfl;exact a g
   simp[View.set,this];exact e id a
 .simp(disch:=omega)only[↓wr,seval,wq,t7]
  obtain rfl:c=n:=by omega
  refine⟨.inr ⟨b,by simp,by rw[hH];simp[bF]⟩,λid a=>⟨e id a,?_⟩⟩
  simp only[owner,ne_eq,Zl]
  rintro rfl;exact a g
def GP:SF:=⟨ae [ab [((some 2),.op (.er (.val (.val (.int .u32 0)))))],ae [.region false [⟨none,[aa 3 0,aG 4 .lss 3 0,aa 5 4]⟩,⟨(some (5,false)),[aa 6 0,aG 7 .geq 6 32]⟩,⟨none,[cD 8 5 7]⟩],bc 8 (ae [ab [((some 2),.op (.er (.val (.val (.int .u32 0)))))],.ret])],ab [aa 9 0,((some 10),.op (.sh true (.val (.val (.int .u32 1))) (.tmp 9))),aa 2 10],.ret],
 [.tmp 2],11⟩
theorem I6:aN Tryz.prog 124 []=some GP:=by kernel_rfl
def Hd:SF:=⟨ae [ab [bz 4 false],ab [aa 5 0,aa 6 1,bh 7 124 [6],aS 8 .and 5 7,((some 9),.op (.arith .neq (.tmp 8) (.val (.val (.int .u32 0))))),aa 4 9],.ret],
 [.tmp 4],10⟩
theorem IX:aN Tryz.prog 79 []=some Hd:=by kernel_rfl
def yf:SC :=
 ae [ab [aS 10 .lss 9 8],bT 10 (.exit 0),.block 1 (ae [ab [aH 11 2 7 9,aT 12 2 11,((some 6),.op (.alloc [(.val (.int .i64 0)),(.val (.int .u32 0))])),bK 2 6 12],ab [ao 13 1 6,ai 14 13,aa 15 1,bh 16 79 [14,15]],bc 16 (ab [aa 17 4,ao 18 0 6,ai 19 18,((some 20),.op (.bO 1 1 [(.val (.int .i64 0))] [(0,(.tmp 19))])),eE 21 1 8 17 20,aa 4 21])]),ab [aG 22 .add 9 1,aa 9 22]]
def B5:SF:=⟨ae [ab [cq 4 1],ae [ab [aa 7 0,aP 8 7,aQ 9 0],bU 0 yf],ab [aa 23 4,aa 4 23],.ret],
 [.tmp 4],24⟩
theorem Fu:aN Tryz.prog 38 []=some B5:=by kernel_rfl
theorem GK (n:Int):az Tryz.prog 124 [gi n] (gw (dQ n)):=by
 refine az.val (by intro v b;simp at b;subst b;exact .val _) λH=>?_
 have bad:¬ (0<=n/\n<=31)->dQ n=0:=λh=>by rw[dQ,Zk h]
 refine au.of mixed I6 ?_
 simp(disch:=omega)only[↓wr,seval,wq,GP]
 apply ah.dec<;>intro h1
 .simp(disch:=omega)only[↓wr,seval,wq]
  rw[bad (by omega)];rfl
 simp(disch:=omega)only[↓wr,seval,wq]
 apply ah.dec<;>intro c
 .simp(disch:=omega)only[↓wr,seval,wq]
  rw[bad (by omega)];rfl
 simp(disch:=omega)only[↓wr,seval,wq]
 have a:(2:Nat) ^ n.toNat<=2 ^ 31:=Nat.pow_le_pow_right (by omega) (by omega)
 have e:GH true .u32 1 n=(((dQ n).toNat:Nat):Int):=by
  rw[Js (by omega)]
  unfold GH
  rw[Zn rfl,show min n.toNat IntKind.u32.bits=n.toNat by rw[show IntKind.u32.bits=32 from rfl];omega]
  have d:((1:Int) * 2 ^ n.toNat)=((2 ^ n.toNat:Nat):Int):=by rw[Int.one_mul];push_cast;rfl
  rw[d]
  generalize (2:Nat) ^ n.toNat=z at a
  exact O4 (by omega) (by omega)
 rw[e]
 first | rfl | exact⟨by omega,rfl⟩
theorem Rx (s:BV) (n:Int):az Tryz.prog 79 [gw s,gi n] (gb (hasB s n)):=by
 refine az.val (by
  intro v a;simp at a
  rcases a with rfl | rfl <;> exact .val _) λH=>?_
 refine au.of mixed IX ?_
 simp(disch:=omega)only[↓wr,seval,wq,Hd]
 refine ax.pure (GK n) ?_
 simp(disch:=omega)only[↓wr,seval,wq,Vw]
 congr 2
 unfold hasB
 rw[aan]
 simp only[abo,ne_eq,ZA,toNat_zero]
theorem LS {l:List cz} {i:Nat} {x:cz} (a:l[i]?=some x) (n:Int):eZ (l.take (i+1)) n=if hasB x.set n=true then eZ (l.take i) n ++ [x.aw] else eZ (l.take i) n:=by
 unfold eZ
 rw[wA a]
 split <;> simp
theorem Sw (l:List cz) (i:Nat) (n:Int):(eZ (l.take i) n).length<=i:=by
 unfold eZ
 have:=aac (λx:cz=>hasB x.set n) (l.take i)
 simp only[Zr,Z6] at this ⊢
 omega
theorem OA (l:List cz) (hl:l.length<=10000) (n:Int):cE Tryz.prog 38 [.aD (gJ l),gi n] (encI (eZ l n)):=by
 refine cE.of (by
  intro v f;simp at f
  rcases f with rfl | rfl
  .exact F1 _
  .exact .val _) ?_
 refine au.of mixed Fu ?_
 simp(disch:=omega)only[↓wr,seval,wq,B5,gJ]
 refine aR.up l.length (λi T H'=>∃ u:V,aV H' u 1 (bF (eZ (l.take i) n))/\T 1=gi n/\T 4=u/\T 7=.aD (gJ l)/\T 8=gi l.length/\T 9=gi i) ⟨.emp 1,.nil,rfl,rfl,rfl,rfl,rfl⟩ ?_
 rintro i k T H hk ⟨u,b,t1,t4,t7,t8,t9⟩
 simp(disch:=omega)only[↓wr,seval,wq,yf,t1,t4,t7,t8,t9,gJ]
 apply ah.dec<;>intro g
 .have d:l[i]?=some (l[i]'(by omega)):=Zj (by omega)
  generalize l[i]'(by omega)=x at d
  have a:=LS d n
  have h:=Sw l i n
  simp(disch:=omega)only[↓wr,seval,wq,t1,t4,t7,t8,t9,gJ,Zm,d,Zq,zK]
  intro q hq
  rw[set_set]
  have c:(H.set q (.arr 2 [[gi x.aw,gw x.set]])) q=.arr 2 [[gi x.aw,gw x.set]]:=by simp[View.set]
  have b:=b.fresh (o:=.arr 2 [[gi x.aw,gw x.set]]) hq
  generalize H.set q (.arr 2 [[gi x.aw,gw x.set]])=p at c b
  refine ax.pure (Rx x.set n) ?_
  simp(disch:=omega)only[↓wr,seval,wq,t1,t4,t7,t8,t9]
  apply ah.split<;>intro he
  .simp(disch:=omega)only[↓wr,seval,wq,t1,t4,c]
   intro r e
   simp(disch:=omega)only[↓wr,seval,wq,bm]
   refine gh (b.fresh e) (by simp[aL]) (by unfold aA;simp;omega) (by unfold aA;simp;omega) ?_
   intro j s m _
   simp(disch:=omega)only[↓wr,seval,wq,t1,t7,t8,t9]
   rw[Zn he] at a
   exact aE hk (by omega) ⟨j,by rw[a];simpa using m,t1,rfl,t7,t8,rfl⟩
  .simp(disch:=omega)only[↓wr,seval,wq,t1,t4,t7,t8,t9]
   rw[Zk (by rw[he];simp)] at a
   exact aE hk (by omega) ⟨u,by rw[a];exact b,t1,t4,t7,t8,rfl⟩
 .rw[Zx (by omega)] at b
  simp(disch:=omega)only[↓wr,seval,wq,t4]
  rintro t rfl
  exact kM b
def ie:SC :=
 ae [ab [aS 9 .lss 8 7],bT 9 (.exit 0),.block 1 (ae [ab [aa 10 8,aa 5 10],ab [aT 11 2 3,aa 12 0,aa 13 5,aH 14 2 12 13,aT 15 2 14,((some 16),.op (.old (.binOp .eql 33 (.tmp 11) (.tmp 15) 33) 4))],bc 16 (ae [ab [aa 17 5,aa 4 17],.ret])]),ab [aG 18 .add 8 1,aa 8 18]]
def iK:SF:=⟨ae [ab [cw 3 1,aQ 4 0],ae [ab [aa 6 0,aP 7 6,aQ 8 0],bU 0 ie],ab [aQ 4 (-1)],.ret],
 [.tmp 4],19⟩
theorem ll:aN Tryz.prog 175 [3]=some iK:=by kernel_rfl
def gT:SF:=⟨ae [ab [cw 3 1,bz 4 false],ab [aa 5 0,aT 6 2 3,bh 7 175 [5,6],aG 8 .geq 7 0,aa 4 8],.ret],
 [.tmp 4],9⟩
theorem ko:aN Tryz.prog 128 [3]=some gT:=by kernel_rfl
def wg:List aB->aB->Int->Int
 | [],_,_=>-1
 | y :: l,x,i=>if x=y then i else wg l x (i+1)
theorem Hr:∀ (l:List aB) (x:aB) (i:Int),0<=i->(0<=wg l x i↔x∈l)
 | [],x,i,_=>by simp[wg]
 | y :: l,x,i,h=>by
  rw[wg]
  split
  .rename_i e;subst e;simp[h]
  .rename_i e;rw[Hr l x (i+1) (by omega)];simp[e]
theorem OH (l:List aB) (hl:aJ l) (x:aB):az Tryz.prog 175 [.aD (aU l),.agg [gi x.aw,gi x.dot]] (gi (wg l x 0)):=by
 unfold aJ at hl
 refine az.val (by
  intro v a;simp at a
  rcases a with rfl | rfl
  .exact uq l
  .exact cb _ λv a=>by simp at a;rcases a with rfl | rfl <;> exact .val _) λH=>?_
 refine au.of mixed ll ?_
 simp(disch:=omega)only[↓wr,seval,wq,iK,bJ]
 refine aR.up l.length (λi T H'=>T 0=.aD (aU l)/\T 3=.aI [gi x.aw,gi x.dot] 0/\T 7=gi l.length/\T 8=gi i/\wg l x 0=wg (l.drop i) x i) ⟨rfl,rfl,rfl,rfl,by simp⟩ ?_
 rintro i k T H' hk ⟨t0,t3,t7,t8,hi⟩
 simp(disch:=omega)only[↓wr,seval,wq,ie,t0,t3,t7,t8]
 apply ah.dec<;>intro c
 .have b:l[i]?=some (l[i]'(by omega)):=Zj (by omega)
  rw[aad (by omega:i < l.length),wg] at hi
  generalize l[i]'(by omega)=y at b hi
  simp(disch:=omega)only[↓wr,seval,wq,t0,t3,t7,t8,aU,Zm,b,Zq,bE]
  refine fQ (xs:=#[.int .i64 x.aw,.int .i64 x.dot]) (ys:=#[.int .i64 y.aw,.int .i64 y.dot]) Tryz.underlying33 (by kernel_rfl) (by kernel_rfl) ?_ ?_ (mr x y) (.inl ⟨rfl,rfl⟩) ?_
  .rfl
  .rfl
  rw[uV]
  simp(disch:=omega)only[↓wr,seval,wq]
  apply ah.dec<;>intro e
  .simp(disch:=omega)only[↓wr,seval,wq]
   rw[Zn e] at hi
   rw[hi]
  .simp(disch:=omega)only[↓wr,seval,wq,t0,t3,t7,t8]
   rw[Zk e] at hi
   exact aE hk (by omega) ⟨t0,t3,t7,rfl,hi⟩
 .simp(disch:=omega)only[↓wr,seval,wq]
  rw[hi,ZQ (by omega)]
  rfl
theorem IE (l:List aB) (hl:aJ l) (x:aB):az Tryz.prog 128 [.aD (aU l),.agg [gi x.aw,gi x.dot]] (gb (decide (x∈l))):=by
 refine az.val (by
  intro v a;simp at a
  rcases a with rfl | rfl
  .exact uq l
  .exact cb _ λv a=>by simp at a;rcases a with rfl | rfl <;> exact .val _) λH=>?_
 refine au.of mixed ko ?_
 simp(disch:=omega)only[↓wr,seval,wq,gT]
 refine ax.pure (OH l hl x) ?_
 simp(disch:=omega)only[↓wr,seval,wq]
 congr 2
 rw[aan]
 simp only[ZA,ge_iff_le]
 exact Hr l x 0 (Int.le_refl _)
def ni:SC :=
 ae [ab [aS 35 .lss 34 33],bT 35 (.exit 0),.block 1 (ae [ab [aH 36 2 32 34,aT 37 2 36,((some 11),.op (.alloc [(.val (.int .i64 0)),(.val (.int .i64 0))])),bK 2 11 37],ab [ao 38 0 11,ai 39 38,aG 40 .lss 39 0],.cond (.tmp 40) (ab [aa 41 9,ao 42 0 11,ai 43 42,((some 44),.op (.arith .sub (.val (.val (.int .i64 (-1)))) (.tmp 43))),ao 45 1 11,ai 46 45,aH 47 1 41 44,bK 1 47 46]) (ab [aa 48 8,ao 49 0 11,ai 50 49,ao 51 1 11,ai 52 51,((some 53),.op (.build [(.val (.int .i64 0)),(.val (.int .i64 0))] [(0,1,(.val (.val (.int .i64 1)))),(1,1,(.tmp 52))])),aH 54 2 48 50,bK 2 54 53])]),ab [aG 55 .add 34 1,aa 34 55]]
def mX:SC :=
 ae [ab [aS 75 .lss 74 73],bT 75 (.exit 2),.block 3 (ae [ab [aa 76 74,aH 77 2 72 74,aT 78 2 77,((some 14),.op (.alloc [(.val (.int .i64 0)),(.val (.int .i64 0))])),aa 13 76,bK 2 14 78],ab [aa 79 12,aa 80 13,aa 81 0,aa 82 1,aa 83 13,aa 84 3,aa 85 13,((some 86),.yG (.val (.fn 38 [] [])) [(.tmp 84),(.tmp 85)]),aT 87 2 14,bh 88 129 [81,82,83,86,87],aH 89 2 79 80,bK 2 89 88]]),ab [aG 90 .add 74 1,aa 74 90]]
def py:SF:=⟨ae [ab [cw 6 2],ab [aa 15 0,cQ 16 15,ao 17 0 16,ao 18 0 17,ai 19 18,aP 20 19,aG 21 .add 20 1,((some 22),.op (.make 2 16 [(.val (.int .i64 0)),(.val (.int .i64 0))] (.tmp 21) (.tmp 21))),aa 8 22],ab [((some 23),.op (.bO 1 1 [(.val (.int .i64 0))] [(0,(.val (.val (.int .i64 (-1)))))])),aa 24 0,cQ 25 24,ao 26 0 25,ao 27 1 26,ai 28 27,aP 29 28,bh 30 127 [23,29],aa 9 30],ae [ab [ao 31 1 6,ai 32 31,aP 33 32,aQ 34 0],bU 0 ni],ae [ab [ao 56 0 6,ai 57 56,((some 58),.op (.build [(.val (.int .i64 0)),(.val (.int .i64 0))] [(0,1,(.val (.val (.int .i64 (-1))))),(1,1,(.val (.val (.int .i64 1))))])),bh 59 128 [57,58]],bc 59 (ab [aa 60 8,aa 61 0,cQ 62 61,ao 63 0 62,ao 64 0 63,ai 65 64,aP 66 65,((some 67),.op (.build [(.val (.int .i64 0)),(.val (.int .i64 0))] [(0,1,(.val (.val (.int .i64 3))))])),aH 68 2 60 66,bK 2 68 67])],ab [aa 69 8,aP 70 69,((some 71),.op (.make 2 16 [(.val (.int .i64 0)),(.val (.int .i64 0))] (.tmp 70) (.tmp 70))),aa 12 71],ae [ab [aa 72 8,aP 73 72,aQ 74 0],bU 2 mX],.kU [(104,97)] [⟨none,[aa 91 0,aa 92 0,aa 93 0,cQ 94 93,ao 95 4 94,ao 96 0 95,ai 97 96,aa 98 12,((some 99),.op (.bO 1 1 [(.emp 1)] [(0,(.tmp 98))])),eE 100 1 24 97 99,aa 101 0,cQ 102 101,ao 103 4 102,ao 104 1 103,ai 105 104,aa 106 9,((some 107),.op (.bO 1 1 [(.emp 1)] [(0,(.tmp 106))])),eE 108 1 24 105 107,cQ 109 91,ao 110 4 109,ao 111 0 110,bK 1 111 100,cQ 112 92,ao 113 4 112,ao 114 1 113,bK 1 114 108]⟩]],
 [],115⟩
theorem uC:aN Tryz.prog 85 [6,100000,200086]=some py:=by kernel_rfl
theorem VW (l:List cn):(fc l).length=l.length:=by simp[fc]
abbrev fH (l:List Cell):List (List V):=l.map λc=>[gi c.kind,gi c.n]
def Ye (g:aj) (a:List aM) (b i:Nat) (s:aM) (l:List cz) (C:List iV) (ua ug:V) (nk m n:Nat) (BB:List ct) (j:Nat) (T:Env) (H:View):Prop:=∃ uc,aX H ((.sl n 0 (g.af.length+1) 2,2,fH (ed g s l i j ++ List.replicate (g.af.length+1 - j) ⟨0,0⟩)) :: (.sl m 0 (g.af.length+1) 2,2,fH ((List.range (g.af.length+1)).map λ(k:Nat)=>gA g s k)) :: (uc,5,fM (C ++ tf g s l i j)) ::
 (.sl b 0 1 7,7,[eD g ua ug uc]) :: (.sl nk 0 g.ak.length 1,1,bF (qg g a i)) :: BB)/\T 0=.ptr b 0 0/\T 1=gi i/\T 3=.aD (gJ l)/\T 9=.sl nk 0 g.ak.length 1/\T 12=.sl n 0 (g.af.length+1) 2/\T 72=.sl m 0 (g.af.length+1) 2/\T 73=gi ((g.af.length+1:Nat))/\T 74=gi j
theorem SU {α:Type} {n m u b:α} {L:List α} : (n :: m :: u :: b :: L).Perm (u :: b :: n :: m :: L):=(List.perm_append_comm (l₁:=[n,m]) (l₂:=[u,b])).append_right L
theorem VS {α:Type} {b g a n u k:α} {C I:List α} : (b :: g :: a :: n :: u :: k :: (C ++ I)).Perm (u :: b :: a :: g :: ((C ++ [n]) ++ (I ++ [k]))) :=
 (ZY (a:=u) (l₁:=[b,g,a,n])).trans (.cons u (.cons b ((List.Perm.swap _ _ _).trans (.cons a (.cons g ((List.Perm.swap _ _ _).trans Rm))))))
theorem VO {α:Type} {k u b:α} {L:List α} : (k :: u :: b :: L).Perm (u :: b :: k :: L):=(ZY (l₁:=[u,b])).symm
theorem yI (l:List Cell) (k:Nat) (c:Cell):fH (l.set k c)=(fH l).set k [gi c.kind,gi c.n]:=aaR
theorem Qv (g:aj) (hg:g.Ok) (b2:g.Small) (hr:bI g=true) (a:List aM) (hO:wo g a) (i:Nat) (hi:i < a.length) (S:((a.getD i bg).aK.map cn.sym).Nodup) (a1:∀ e∈(a.getD i bg).aK,fT g e.sym=true) (b3:aJ (a.getD i bg).bf) (l:List cz) (hl:l.length<=10000)
  (X Y B:V) (A:ET) (G:IN) (C:List iV) (c5:A.length<=300) (c9:G.length<=300) (hC:C.length<=75000000) (b:Nat) (L:List ct) (H:View)
  (p:aX H ((B,5,fM C) :: (.sl b 0 1 7,7,[eD g X Y B]) :: (X,1,aZ A) :: (Y,1,aZ G) :: (rP A ++ rS G ++ L))) :
  au Tryz.prog 85 [.ptr b 0 0,gi i,.agg (dy (a.getD i bg)),.aD (gJ l)] H λ_ H'=>∃ a6 a7 a8 ur uk,
   aX H' ((a8,5,fM (C ++ tf g (a.getD i bg) l i (g.af.length+1))) :: (.sl b 0 1 7,7,[eD g a6 a7 a8]) :: (a6,1,aZ (A ++ [(ur,ed g (a.getD i bg) l i (g.af.length+1))])) :: (a7,1,aZ (G ++ [(uk,qg g a i)])) ::
    (rP (A ++ [(ur,ed g (a.getD i bg) l i (g.af.length+1))]) ++ rS (G ++ [(uk,qg g a i)]) ++ L)):=by
 have hf:=bD hr
 have hT:=hf.af;have hN:=hf.ak;have da:=hf.pM
 have Z:a[i]?=some (a.getD i bg):=getD_some hi
 have db:=hO.aK _ (Zp Z)
 have b4:=hO.to _ (Zp Z)
 clear Z
 have D:=X8 (g:=g) hO hi S
 have bb:∀ e∈(a.getD i bg).aK,e.sym < g.af.length:=λe he=>by
  have:=a1 e he
  unfold fT at this
  split at this
  .simpa using this
  .omega
 have h:=UZ S bb
 have O:=p.is 1 rfl (by simp)
 refine au.of mixed uC ?_
 generalize (a.getD i bg)=s at *
 generalize b5:((X,1,aZ A) :: (Y,1,aZ G) :: (rP A ++ rS G ++ L):List ct)=BB at p
 simp(disch:=omega)only[↓wr,seval,wq,py,dy,O,eD]
 refine⟨⟨by omega,by unfold aA;omega,by unfold aA;omega⟩,λhz=>absurd hz (by omega),λ_ m hm=>?_⟩
 rw[show ((g.af.length:Int)+1).toNat=g.af.length+1 by omega]
 have b7:¬ b=m:=by rintro rfl;rw[O] at hm;simp at hm
 intro q hq
 obtain⟨P,hq⟩:=cP hq cI
 have b8:¬ b=q:=by rintro rfl;rw[O] at hq;simp at hq
 have f:=(p.new hm 2 (fH (List.replicate (g.af.length+1) ⟨0,0⟩))).fresh (n:=q) (o:=.arr 1 [[gi (-1)]]) (by simp[View.set,P,hq])
 rw[show fH (List.replicate (g.af.length+1) ⟨0,0⟩)=List.replicate (g.af.length+1) [gi 0,gi 0] by simp[fH]] at f
 simp(disch:=omega)only[↓wr,seval,wq,b8,b7]
 have E:((H.set m (.arr 2 (List.replicate (g.af.length+1) [gi 0,gi 0]))).set q (.arr 1 [[gi (-1)]])) q=.arr 1 [[gi (-1)]]:=by simp[View.set]
 generalize ((H.set m (.arr 2 (List.replicate (g.af.length+1) [gi 0,gi 0]))).set q (.arr 1 [[gi (-1)]]))=H2 at f E ⊢
 refine ax.dJ ((Og g.ak.length (by omega) q H2 E).mono ?_)
 rintro uk H3 ⟨bd,bl⟩
 have N:=f.Gg bd bl
 rw[show List.replicate (g.af.length+1) [gi 0,gi 0]=fH (s.aK.take 0 |>.foldl fI (List.replicate (g.af.length+1) ⟨0,0⟩)) by simp[fH],show List.replicate g.ak.length (-1)=(s.aK.take 0).foldl iQ (List.replicate g.ak.length (-1)) from rfl] at N
 clear O p f bd bl hm hq E
 generalize bn:List.replicate (g.af.length+1) (⟨0,0⟩:Cell)=z at N
 have bq:z.length=g.af.length+1:=by rw[<-bn];simp
 generalize b9:List.replicate g.ak.length (-1:Int)=zg at N D
 have F:zg.length=g.ak.length:=by rw[<-b9];simp
 obtain⟨nk,br,_⟩:=(N.own 0 rfl).sl (by simp[bF,F];omega)
 rw[show (bF ((s.aK.take 0).foldl iQ zg)).length=g.ak.length by simp[bF,F]] at br
 rw[show (fH ((s.aK.take 0).foldl fI z)).length=g.af.length+1 by simp[bq]] at N
 subst br
 simp(disch:=omega)only[↓wr,seval,wq,VW]
 refine aR.up s.aK.length (λj T H'=>aX H' ((.sl nk 0 g.ak.length 1,1,bF ((s.aK.take j).foldl iQ zg)) :: (.sl m 0 (g.af.length+1) 2,2,fH ((s.aK.take j).foldl fI z)) :: (B,5,fM C) :: (.sl b 0 1 7,7,[eD g X Y B]) :: BB) /\
  T 0=.ptr b 0 0/\T 1=gi i/\T 3=.aD (gJ l)/\T 6=.aI (dy s) 0/\T 8=.sl m 0 (g.af.length+1) 2/\T 9=.sl nk 0 g.ak.length 1/\T 32=.aD (fc s.aK)/\T 33=gi s.aK.length/\T 34=gi j) ⟨N,rfl,rfl,rfl,rfl,rfl,rfl,rfl,rfl,rfl⟩ ?_
 clear N
 rintro j k T H4 hk ⟨p,t0,t1,t3,t6,t8,t9,t32,t33,t34⟩
 simp(disch:=omega)only[↓wr,seval,wq,ni,t0,t1,t3,t6,t8,t9,t32,t33,t34]
 have I:∀ j:Nat,((s.aK.take j).foldl iQ zg).length=g.ak.length:=λj=>by rw[zH];exact F
 have t:∀ j:Nat,((s.aK.take j).foldl fI z).length=g.af.length+1:=λj=>by rw[pU];exact bq
 have hK:=p.is 0 rfl (by simp[bF,I];omega)
 have U:=p.is 1 rfl (by simp[t])
 apply ah.dec<;>intro hc
 .have hy:s.aK[j]?=some (s.aK[j]'(by omega)):=Zj (by omega)
  have Q:=Zs (show j < s.aK.length by omega)
  have an:s.aK.take (j+1)=s.aK.take j ++ [s.aK[j]'(by omega)]:=by rw[ZG,hy];rfl
  generalize s.aK[j]'(by omega)=y at hy Q an
  have u:=a1 y Q;have dj:=b4 y Q
  have J:(s.aK.take (j+1)).foldl iQ zg=iQ ((s.aK.take j).foldl iQ zg) y:=by rw[an,Z7];rfl
  have K:(s.aK.take (j+1)).foldl fI z=fI ((s.aK.take j).foldl fI z) y:=by rw[an,Z7];rfl
  have l1:=I j;have l2:=t j
  generalize (s.aK.take j).foldl iQ zg=w at *
  generalize (s.aK.take j).foldl fI z=r at *
  rw[iQ] at J
  rw[fI] at K
  have ca : -1000<=y.sym/\y.sym<=1000:=by
   unfold fT at u
   split at u <;> simp at u <;> omega
  simp(disch:=omega)only[↓wr,seval,wq,t0,t1,t3,t6,t8,t9,t32,t33,t34,fc,Zm,hy,Zq,iX]
  intro q hq
  have bs:¬ nk=q:=by rintro rfl;rw[hK] at hq;simp at hq
  have P:¬ m=q:=by rintro rfl;rw[U] at hq;simp at hq
  have W:=p.fresh hq (o:=.arr 2 [[gi y.sym,gi y.to]])
  apply ah.dec<;>intro M
  .rw[Zn M] at J K
   have cc:(-1 - y.sym).toNat < g.ak.length:=by
    unfold fT at u
    rw[Zk (by omega)] at u
    simp at u;omega
   have x:(bF w).getD (-1 - y.sym).toNat []=[gi (w.getD (-1 - y.sym).toNat 0)]:=by rw[bF,Zi,Zm,getD_some (d:=0) (show (-1 - y.sym).toNat < w.length by omega)];rfl
   simp(disch:=omega)only[↓wr,seval,wq,t0,t1,t3,t6,t8,t9,t32,t33,t34,bs,P,hK,U,x]
   refine⟨by omega,by omega,aE hk (by omega) ⟨?_,t0,t1,t3,t6,t8,t9,t32,t33,rfl⟩⟩
   have f:=W.put (es':=bF (w.set (-1 - y.sym).toNat y.to)) (by simp[bF]) (by simp[bF,l1])
   rw[set_set,J,K]
   rw[show bF (w.set (-1 - y.sym).toNat y.to)=(bF w).set (-1 - y.sym).toNat [gi y.to] from aaR] at f ⊢
   exact f
  .rw[Zk M] at J K
   have cc:=bb y Q
   have x:(fH r).getD y.sym.toNat []=[gi (r.getD y.sym.toNat ⟨0,0⟩).kind,gi (r.getD y.sym.toNat ⟨0,0⟩).n]:=by rw[Zi,Zm,getD_some (d:=⟨0,0⟩) (show y.sym.toNat < r.length by omega)];rfl
   simp(disch:=omega)only[↓wr,seval,wq,t0,t1,t3,t6,t8,t9,t32,t33,t34,bs,P,hK,U,x]
   refine⟨by omega,by omega,aE hk (by omega) ⟨?_,t0,t1,t3,t6,t8,t9,t32,t33,rfl⟩⟩
   have f:=((W.perm (.swap _ _ _)).put (es':=fH (r.set y.sym.toNat ⟨1,y.to⟩)) (by simp) (by simp[l2])).perm (.swap _ _ _)
   rw[set_set,J,K]
   rw[show fH (r.set y.sym.toNat ⟨1,y.to⟩)=(fH r).set y.sym.toNat [gi 1,gi y.to] from aaR] at f ⊢
   exact f
 .rw[Zx (by omega),D] at p
  have l2:=t s.aK.length
  rw[List.take_length] at l2
  rw[Zx (by omega)] at U
  simp(disch:=omega)only[↓wr,seval,wq,t0,t1,t3,t6,t8,t9,dy]
  refine ax.pure (IE s.bf b3 ⟨-1,1⟩) ?_
  have O:=p.is 3 rfl (by simp)
  simp(disch:=omega)only[↓wr,seval,wq]
  have e0:fH (ed g s l i 0 ++ List.replicate (g.af.length+1 - 0) ⟨0,0⟩)=List.replicate (g.af.length+1) [gi 0,gi 0]:=by simp[ed,fH]
  have e1:tf g s l i 0=[]:=rfl
  unfold Cb at h
  rw[bn] at h
  have x:(fH (s.aK.foldl fI z)).getD g.af.length []=[gi ((s.aK.foldl fI z).getD g.af.length ⟨0,0⟩).kind,gi ((s.aK.foldl fI z).getD g.af.length ⟨0,0⟩).n]:=by rw[Zi,Zm,getD_some (d:=⟨0,0⟩) (show g.af.length < (s.aK.foldl fI z).length by omega)];rfl
  apply ah.dec<;>intro hm
  focus
   rw[Zn hm] at h
   simp(disch:=omega)only[↓wr,seval,wq,t0,t8,O,eD,U,x]
   refine⟨by omega,by omega,?_⟩
   have W:=((p.perm (.swap _ _ _)).put (es':=fH ((s.aK.foldl fI z).set g.af.length ⟨3,0⟩)) (by simp) (by simp[l2]))
   rw[yI] at W
   refine⟨⟨by omega,by unfold aA;omega,by unfold aA;omega⟩,λn S=>?_⟩
   have f:=W.new (n:=n) (by simpa [View.set] using S) 2 (List.replicate (g.af.length+1) [gi 0,gi 0])
   rw[aaq] at f
   refine aR.up (g.af.length+1) (Ye g a b i s l C X Y nk m n BB) ⟨B,?_,t0,t1,t3,t9,rfl,rfl,rfl,rfl⟩ ?_
   .rw[e0,e1,aav,<-h,yI]
    exact f.perm (.cons _ (.cons _ VO))
   clear W f S
  rotate_left
  focus
   rw[Zk hm] at h
   simp(disch:=omega)only[↓wr,seval,wq,t0,t8]
   refine⟨⟨by omega,by unfold aA;omega,by unfold aA;omega⟩,λn S=>?_⟩
   have f:=(p.perm (.swap _ _ _)).new S 2 (List.replicate (g.af.length+1) [gi 0,gi 0])
   rw[aaq] at f
   refine aR.up (g.af.length+1) (Ye g a b i s l C X Y nk m n BB) ⟨B,?_,t0,t1,t3,t9,rfl,rfl,rfl,rfl⟩ ?_
   .rw[e0,e1,aav,<-h]
    exact f.perm (.cons _ (.cons _ VO))
   clear f S
  all_goals (
   clear p t0 t1 t3 t6 t8 t9 t32 t33 t34 O U I t hK x l2 h D e0 e1 B
   rintro j k T H5 hk ⟨B,p,t0,t1,t3,t9,t12,t72,t73,t74⟩
   simp(disch:=omega)only[↓wr,seval,wq,mX,t0,t1,t3,t9,t12,t72,t73,t74]
   apply ah.dec<;>intro hc
   .have U:=p.is 1 rfl (by simp)
    have cg:(fH ((List.range (g.af.length+1)).map λ(k:Nat)=>gA g s k)).getD j []=[gi (gA g s j).kind,gi (gA g s j).n]:=by
     rw[Zi,Zm,Zm,abl (by omega)];rfl
    have ch:=QS g s l i j
    have aq:=FB g s l i j
    have ar:=BM g s l i j
    have dm:=yQ (g:=g) (s:=s) (st:=i) hl j
    have R:(ed g s l i j).length=j:=by simp[ed]
    simp(disch:=omega)only[↓wr,seval,wq,t0,t1,t3,t9,t12,t72,t73,t74,U,cg]
    have ds:=zP l (j:Int)
    refine⟨by omega,by simp;omega,λq hq=>?_⟩
    refine ax.pure (OA l hl j).pure ?_
    rw[set_set]
    have W:=(p.fresh hq (o:=.arr 2 [[gi (gA g s j).kind,gi (gA g s j).n]])).perm SU
    simp(disch:=omega)only[↓wr,seval,wq]
    refine ax.dJ ((Uo g hg b2 X Y B _ b _ _ W (by rw[aab];omega) i j (eZ l j) (by omega) (gA g s j)).mono ?_)
    rintro v H7 ⟨rfl,cj,f⟩
    rw[<-ch] at f ⊢
    generalize kd g s l i j=ce at f aq ar ⊢
    obtain⟨c,cf⟩:=ce
    simp only at f aq ar ⊢
    have ck:=f.is 2 rfl (by simp;omega)
    have bx:List.replicate (g.af.length+1 - j) (⟨0,0⟩:Cell)=⟨0,0⟩ :: List.replicate (g.af.length+1 - (j+1)) ⟨0,0⟩:=by rw[<-List.replicate_succ];congr 1;omega
    have cr:(ed g s l i j ++ List.replicate (g.af.length+1 - j) (⟨0,0⟩:Cell)).set j c=ed g s l i (j+1) ++ List.replicate (g.af.length+1 - (j+1)) ⟨0,0⟩:=by
     rw[aq,bx,List.set_append_right _ _ (by omega),R,Nat.sub_self,List.set_cons_zero,Z2];rfl
    have cu:(fH (ed g s l i j ++ List.replicate (g.af.length+1 - j) ⟨0,0⟩)).getD j []=[gi 0,gi 0]:=by
     rw[bx,Zi,Zm,Z3 (by omega),R,Nat.sub_self];rfl
    have cv:(ed g s l i j ++ List.replicate (g.af.length+1 - j) (⟨0,0⟩:Cell)).length=g.af.length+1:=by simp[R];omega
    simp(disch:=omega)only[↓wr,seval,wq,t0,t1,t3,t9,t12,t72,t73,t74,ck,cu]
    refine⟨by omega,by omega,aE hk (by omega) ⟨cj,?_,t0,t1,t3,t9,t12,t72,t73,rfl⟩⟩
    have N:=((f.perm SU).put (es':=fH ((ed g s l i j ++ List.replicate (g.af.length+1 - j) (⟨0,0⟩:Cell)).set j c)) (by simp) (by rw[Zr];exact cv.symm))
    rw[ar,<-cr,<-Z2]
    rw[yI] at N ⊢
    exact N
   .obtain rfl:j=g.af.length+1:=by omega
    rw[Nat.sub_self,List.replicate_zero,aav] at p
    have R:(ed g s l i (g.af.length+1)).length=g.af.length+1:=by simp[ed]
    subst b5
    have O:=p.is 3 rfl (by simp)
    simp(disch:=omega)only[↓wr,seval,wq,t0,t1,t3,t9,t12,O,eD]
    intro q hq
    simp(disch:=omega)only[↓wr,seval,wq,bm,t0,t1,t3,t9,t12]
    have o4:=(p.fresh (o:=.arr 1 [[.sl n 0 (g.af.length+1) 2]]) hq).at 5 (by simp)
    refine bL o4 (by simp[aL]) (by unfold aA;simp[aZ];omega) (by unfold aA;simp[aZ];omega) ?_
    intro b0 H6 o5 _
    simp only[ZR,ZO,ZU,ZV] at o5
    have cA:=o5.is 4 rfl (by simp)
    simp(disch:=omega)only[↓wr,seval,wq,t0,t1,t3,t9,t12,cA,eD]
    intro q2 E
    simp(disch:=omega)only[↓wr,seval,wq,bm,t0,t1,t3,t9,t12]
    have o6:=(o5.fresh (o:=.arr 1 [[.sl nk 0 g.ak.length 1]]) E).at 6 (by simp)
    refine bL o6 (by simp[aL]) (by unfold aA;simp[aZ];omega) (by unfold aA;simp[aZ];omega) ?_
    intro b1 H7 o7 _
    simp only[ZR,ZO,ZU,ZV] at o7
    have cC:=o7.is 5 rfl (by simp)
    have cN:=(o7.own 1 rfl).cells
    have cS:=(o7.own 1 rfl).fj
    have cV:=(o7.own 0 rfl).cells
    have c3:=(o7.own 0 rfl).fj
    simp(disch:=omega)only[↓wr,seval,wq,t0,t1,t3,t9,t12,cC,cN,cS,cV,c3,eD]
    refine⟨MV (p.own 5 rfl) ((p.at 3 (by simp)).off rfl _ (Zp (i:=4) rfl)),?_⟩
    rw[set_set]
    refine⟨b0,b1,B,.sl n 0 (g.af.length+1) 2,.sl nk 0 g.ak.length 1,?_⟩
    have o8:=(((o7.at 5 (by simp)).put (es':=[eD g b0 b1 B]) rfl rfl).at 4 (by simp)).tail
    simp only[ZR,ZO,ZU,ZV] at o8
    simp only[aZ,rP,rS,ZD,ZJ,aaK]
    exact o8.perm (VS.append_right L))
abbrev fy:Int:=1073741824
inductive jO (E:Nat->List Nat):Nat->Nat->Prop
 | refl {x:Nat} : jO E x x
 | step {x y z:Nat} : y∈E x->jO E y z->jO E x z
theorem jO.trans {E:Nat->List Nat} {x y z:Nat} (h:jO E x y) (k:jO E y z):jO E x z:=by
 induction h with
 | refl=>exact k
 | step h1 _ a=>exact .step h1 (a k)
def mF (E:Nat->List Nat) (S0:Nat->BV) (z t:Nat):Prop:=∃ w,jO E z w/\(S0 w).getLsbD t=true
theorem mF.up {E:Nat->List Nat} {S0:Nat->BV} {x y t:Nat} (h:mF E S0 y t) (k:jO E x y):mF E S0 x t:=by
 obtain⟨w,h1,a⟩:=h
 exact⟨w,k.trans h1,a⟩
def ki {α:Type} (f:Nat->α) (x:Nat) (v:α):Nat->α:=λz=>if z=x then v else f z
theorem fo {α:Type} {f:Nat->α} {x:Nat} {v:α} : ki f x v x=v:=by simp[ki]
theorem nO {α:Type} {f:Nat->α} {x z:Nat} {v:α} (h:z≠x):ki f x v z=f z:=by simp[ki,h]
structure pW (n:Nat) (E:Nat->List Nat) (S0:Nat->BV) (D:Nat->Int) (St:List Nat) (S:Nat->BV):Prop where
 nd:St.Nodup
 lt:∀ z∈St,z < n
 zero:∀ z,z < n->D z=0->S z=S0 z/\z ∉ St
 Ii:∀ z,z < n->D z=fy->z ∉ St/\(∀ t,mF E S0 z t->(S z).getLsbD t=true)/\∀ y∈E z,D y=fy
 on:∀ z,z < n->D z≠0->D z≠fy->∃ p:Nat,St[p]?=some z/\1<=D z/\D z<=(p:Int)+1/\∃ w,St[(D z - 1).toNat]?=some w/\jO E z w
 sound:∀ z t,z < n->(S z).getLsbD t=true->mF E S0 z t
 base:∀ z,z < n->iT (S0 z) (S z)
def MG (D:Nat->Int) (St:List Nat) (S:Nat->BV) (z y:Nat):Prop:=(D y=fy/\iT (S y) (S z))∨∃ q:Nat,St[q]?=some y/\D z<=(q:Int)+1
def Po (E:Nat->List Nat) (D:Nat->Int) (St:List Nat) (S:Nat->BV) (z:Nat):Prop:=(∃ p:Nat,St[p]?=some z/\D z < (p:Int)+1)/\∀ y∈E z,MG D St S z y
def Bt (n:Nat) (E:Nat->List Nat) (S0:Nat->BV) (D:Nat->Int) (St:List Nat) (S:Nat->BV) (x:Nat) (D':Nat->Int) (St':List Nat) (S':Nat->BV):Prop :=
 pW n E S0 D' St' S'/\(∀ z,D z≠0->D' z=D z/\S' z=S z)/\((St'=St/\D' x=fy)∨∃ T,St'=St ++ x :: T/\D' x<=St.length/\∀ z∈x :: T,Po E D' St' S' z/\D' x<=D' z/\iT (S' z) (S' x))
structure iw (n:Nat) (E:Nat->List Nat) (S0:Nat->BV) (D0:Nat->Int) (St:List Nat) (S1:Nat->BV) (x:Nat) (done:List Nat) (D:Nat->Int) (T:List Nat) (S:Nat->BV):Prop where
 g:pW n E S0 D (St ++ x :: T) S
 old:∀ z,D0 z≠0->D z=D0 z/\S z=S1 z
 own:1<=D x/\D x<=(St.length:Int)+1
 fin:∀ z∈T,Po E D (St ++ x :: T) S z/\D x<=D z/\iT (S z) (S x)
 Qp:∀ y∈done,MG D (St ++ x :: T) S x y
section
variable {n:Nat} {E:Nat->List Nat} {S0:Nat->BV} {D0 D:Nat->Int} {St T:List Nat} {S1 S:Nat->BV} {x:Nat} {done:List Nat}
theorem Fh (h:St.Nodup) (k:∀ z∈St,z < n):St.length<=n:=by
 have:∀ (l r:List Nat),l.Nodup->(∀ z∈l,z∈r)->l.length<=r.length:=by
  intro l
  induction l with
  | nil=>intro r _ _;simp
  | cons a l d =>
   intro r c hs
   rw[aah] at c
   obtain⟨e,f,rfl⟩:=List.append_of_mem (hs a (by simp))
   have:=d (e ++ f) c.2 λz b=>by
    have h1:=hs z (by simp[b])
    rw[ZN,Zz] at h1
    rw[ZN]
    rcases h1 with h1 | h1 | h1
    .exact .inl h1
    .exact absurd (h1 ▸ b) c.1
    .exact .inr h1
   simp only[aab,ZB] at this ⊢
   omega
 have h1:=this St (List.range n) h λz b=>aap.2 (k z b)
 simpa using h1
theorem pW.ne (_:(n:Int) < fy) (h:pW n E S0 D St S) {z:Nat} (a:z∈St):D z≠0/\D z≠fy:=by
 have hl:=h.lt z a
 refine⟨λe=>(h.zero z hl e).2 a,λe=>(h.Ii z hl e).1 a⟩
theorem iw.start (_:(n:Int) < fy) (h:pW n E S0 D St S) (g:x < n) (i:D x=0):iw n E S0 D St S x [] (ki D x ((St.length:Int)+1)) [] S:=by
 have f:=(h.zero x g i).2
 have hl:=Fh (St:=x :: St) (n:=n) (aah.2 ⟨f,h.nd⟩) λz c=>by
  rcases Zz.1 c with rfl | c
  .exact g
  .exact h.lt z c
 simp only[ZB] at hl
 refine⟨⟨?_,λz c=>?_,λz c h1=>?_,λz c h1=>?_,λz c h1 k=>?_,h.sound,h.base⟩,λz c=>⟨nO λe=>c (by rw[e,i]),rfl⟩,by rw[fo];omega,by simp,by simp⟩
 .rw[aak]
  refine⟨h.nd,by simp,λa o b l e=>?_⟩
  simp at l
  exact f (by rw[<-l,<-e];exact o)
 .rcases ZN.1 c with c | c
  .exact h.lt z c
  .simp at c;subst c;exact g
 .by_cases e:z=x
  .rw[e,fo] at h1;omega
  .rw[nO e] at h1
   obtain⟨d,k2⟩:=h.zero z c h1
   exact⟨d,by simp[k2,e]⟩
 .by_cases e:z=x
  .rw[e,fo] at h1;unfold fy at *;omega
  .rw[nO e] at h1
   obtain⟨d,k2,j⟩:=h.Ii z c h1
   refine⟨by simp[d,e],k2,λy q=>?_⟩
   have:=j y q
   rw[nO λr=>by rw[r,i] at this;unfold fy at this;omega];exact this
 .by_cases e:z=x
  .subst e
   rw[fo]
   refine⟨St.length,by simp,by omega,Int.le_refl _,z,?_,.refl⟩
   rw[show ((St.length:Int)+1 - 1).toNat=St.length by omega];simp
  .rw[nO e] at h1 k ⊢
   obtain⟨p,d,k2,j,w,m,s⟩:=h.on z c h1 k
   exact⟨p,by rw[ZP (Zy.1 d).1];exact d,k2,j,w,by rw[ZP (Zy.1 m).1];exact m,s⟩
theorem iw.put (hE:∀ x,x < n->∀ y∈E x,y < n) (L:(n:Int) < fy) (M:x < n) {y:Nat} (H:y∈E x) (d:pW n E S0 D (St ++ x :: T) S) (hold:∀ z,D0 z≠0->D z=D0 z/\S z=S1 z) (Q:D0 x=0) (N:1<=D x/\D x<=(St.length:Int)+1) (I:D y≠0)
  (v:∀ z∈T,Po E D (St ++ x :: T) S z/\(D x<=D z/\iT (S z) (S x)∨D y<=D z/\iT (S z) (S y))) (A:∀ z∈done,MG D (St ++ x :: T) S x z) :
  iw n E S0 D0 St S1 x (done ++ [y]) (ki D x (min (D x) (D y))) T (ki S x (S x ||| S y)):=by
 have B:=hE x M y H
 have C:x∈St ++ x :: T:=by simp
 have g:=d.ne L C
 have i:∀ z,z≠x->ki D x (min (D x) (D y)) z=D z:=λz e=>nO e
 have l:∀ z,z≠x->ki S x (S x ||| S y) z=S z:=λz e=>nO e
 have hle:ki D x (min (D x) (D y)) x<=D x:=by rw[fo];omega
 have j:iT (S x) (ki S x (S x ||| S y) x):=λt m=>by rw[fo,Z5,m];rfl
 have k:iT (S y) (ki S x (S x ||| S y) x):=λt m=>by rw[fo,Z5,m,Bool.or_true]
 have F:∀ z,iT (S z) (ki S x (S x ||| S y) z):=λz=>by
  by_cases e:z=x
  .rw[e];exact j
  .rw[l z e];exact λ_ h=>h
 have a:∀ z,D z=fy->z≠x:=λz h e=>g.2 (by rw[<-e];exact h)
 have s:1<=D y/\((D y=fy)∨∃ p:Nat,(St ++ x :: T)[p]?=some y/\D y<=(p:Int)+1/\∃ w,(St ++ x :: T)[(D y - 1).toNat]?=some w/\jO E y w):=by
  by_cases o:D y=fy
  .exact⟨by rw[o];decide,.inl o⟩
  .obtain⟨p,r,k2,f,J⟩:=d.on y B I o
   exact⟨k2,.inr ⟨p,r,f,J⟩⟩
 obtain⟨O,K,R,U,V⟩:=d.on x M g.1 g.2
 have W:D x < fy:=by
  have:=Fh d.nd d.lt
  have:=(Zy.1 K).1
  omega
 refine⟨⟨d.nd,d.lt,λz b h1=>?_,λz b h1=>?_,λz b h1 P=>?_,λz t b h1=>?_,λz b t h1=>F z t (d.base z b t h1)⟩,λz b=>?_,?_,λz b=>?_,λz b=>?_⟩
 .by_cases e:z=x
  .rw[e,fo] at h1;omega
  .rw[i z e] at h1
   rw[l z e];exact d.zero z b h1
 .by_cases e:z=x
  .rw[e,fo] at h1
   have:=d.ne L C
   omega
  .rw[i z e] at h1
   obtain⟨r,k2,f⟩:=d.Ii z b h1
   rw[l z e]
   exact⟨r,k2,λu hu=>by rw[i u (a u (f u hu))];exact f u hu⟩
 .by_cases e:z=x
  .subst e
   rw[fo]
   rcases Int.le_total (D z) (D y) with G | G
   .rw[Int.min_eq_left G]
    exact⟨O,K,R,U,V⟩
   .rw[Int.min_eq_right G]
    rcases s.2 with o | ⟨p,r,f,w,J,X⟩
    .rw[o] at G;omega
    .exact⟨O,K,s.1,by omega,w,J,.step H X⟩
  .rw[i z e] at h1 P ⊢
   exact d.on z b h1 P
 .by_cases e:z=x
  .subst e
   rw[fo,Z5,aam] at h1
   rcases h1 with h1 | h1
   .exact d.sound z t b h1
   .exact(d.sound y t B h1).up (.step H .refl)
  .rw[l z e] at h1;exact d.sound z t b h1
 .have e:z≠x:=λe=>b (by rw[e];exact Q)
  rw[i z e,l z e];exact hold z b
 .rw[fo];omega
 .have c:z≠x:=λe=>by
   have h1:=d.nd
   rw[aak] at h1
   exact(aah.1 h1.2.1).1 (e ▸ b)
  obtain⟨⟨r,k2⟩,f⟩:=v z b
  rw[i z c,l z c]
  refine⟨⟨by rw[i z c];exact r,λu hu=>?_⟩,?_,?_⟩
  .rcases k2 u hu with ⟨m1,m2⟩ | ⟨q,m1,m2⟩
   .left
    rw[i u (a u m1),l u (a u m1),l z c];exact⟨m1,m2⟩
   .right
    rw[i z c];exact⟨q,m1,m2⟩
  .rw[fo]
   rcases f with f | f <;> omega
  .rcases f with f | f
   .exact λt m=>j t (f.2 t m)
   .exact λt m=>k t (f.2 t m)
 .rcases ZN.1 b with b | b
  .rcases A z b with ⟨m1,m2⟩ | ⟨q,m1,m2⟩
   .left
    rw[i z (a z m1),l z (a z m1)]
    exact⟨m1,λt m=>j t (m2 t m)⟩
   .right
    exact⟨q,m1,by omega⟩
  .rw[aaj] at b
   subst b
   rcases s.2 with o | ⟨p,r,f,_⟩
   .left
    rw[i z (a z o),l z (a z o)]
    exact⟨o,k⟩
   .right
    exact⟨p,r,by rw[fo];omega⟩
theorem iw.TR (hE:∀ x,x < n->∀ y∈E x,y < n) (c:(n:Int) < fy) (d:x < n) (e:D0 x=0) (h:iw n E S0 D0 St S1 x done D T S) {y:Nat} (f:y∈E x) (a:D y≠0) :
  iw n E S0 D0 St S1 x (done ++ [y]) (ki D x (min (D x) (D y))) T (ki S x (S x ||| S y)) :=
 iw.put hE c d f h.g h.old e h.own a (λz b=>⟨(h.fin z b).1,.inl (h.fin z b).2⟩) h.Qp
theorem Mz {l r:List Nat} {p z:Nat} (h:l[p]?=some z):(l ++ r)[p]?=some z:=by
 rw[ZP (Zy.1 h).1];exact h
theorem iw.Dq (hE:∀ x,x < n->∀ y∈E x,y < n) (i:(n:Int) < fy) (B:x < n) (C:D0 x=0) (h:iw n E S0 D0 St S1 x done D T S) {y:Nat} (F:y∈E x) (_:D y=0) {D':Nat->Int} {j:List Nat} {S':Nat->BV} (J:Bt n E S0 D (St ++ x :: T) S y D' j S') :
  ∃ G,j=St ++ x :: G/\iw n E S0 D0 St S1 x (done ++ [y]) (ki D' x (min (D' x) (D' y))) G (ki S' x (S' x ||| S' y)):=by
 obtain⟨o,hold,K⟩:=J
 have t:x∈St ++ x :: T:=by simp
 have b:=h.g.ne i t
 obtain⟨v,L⟩:=hold x b.1
 have k:∀ z,D0 z≠0->D' z=D0 z/\S' z=S1 z:=λz a=>by
  obtain⟨H,k2⟩:=h.old z a
  obtain⟨w,A⟩:=hold z (by rw[H];exact a)
  exact⟨w.trans H,A.trans k2⟩
 have f:∀ (r:List Nat) (z u:Nat),D z≠0->MG D (St ++ x :: T) S z u->MG D' (St ++ x :: T ++ r) S' z u:=λr z u a hu=>by
  obtain⟨s,z2⟩:=hold z a
  rcases hu with ⟨m1,m2⟩ | ⟨q,m1,m2⟩
  .left
   obtain⟨M,N⟩:=hold u (by rw[m1];decide)
   rw[M,N,z2];exact⟨m1,m2⟩
  .right
   exact⟨q,Mz m1,by rw[s];exact m2⟩
 have I:∀ z∈T,D z≠0:=λz a=>(h.g.ne i (by simp[a])).1
 have d:∀ (r:List Nat),∀ z∈T,Po E D' (St ++ x :: T ++ r) S' z/\(D' x<=D' z/\iT (S' z) (S' x)):=λr z a=>by
  obtain⟨⟨⟨p,O,P⟩,k2⟩,w,A⟩:=h.fin z a
  obtain⟨s,z2⟩:=hold z (I z a)
  exact⟨⟨⟨p,Mz O,by rw[s];exact P⟩,λu hu=>f r z u (I z a) (k2 u hu)⟩,by rw[v,s];exact w,by rw[L,z2];exact A⟩
 rcases K with ⟨rfl,Q⟩ | ⟨l,rfl,hle,c⟩
 .refine⟨T,rfl,iw.put hE i B F o k C (by rw[v];exact h.own) (by rw[Q];decide) (λz a=>?_) (λz a=>?_)⟩
  .have:=d [] z a
   rw[aav] at this
   exact⟨this.1,.inl this.2⟩
  .have:=f [] x z b.1 (h.Qp z a)
   rwa [aav] at this
 .have e:St ++ x :: T ++ y :: l=St ++ x :: (T ++ y :: l):=by simp
  refine⟨T ++ y :: l,e,?_⟩
  rw[e] at o c
  have m:=o.ne i (z:=y) (by simp)
  refine iw.put hE i B F o k C (by rw[v];exact h.own) m.1 (λz a=>?_) (λz a=>?_)
  .rcases ZN.1 a with a | a
   .have:=d (y :: l) z a
    rw[e] at this
    exact⟨this.1,.inl this.2⟩
   .exact⟨(c z a).1,.inr (c z a).2⟩
  .have:=f (y :: l) x z b.1 (h.Qp z a)
   rwa [e] at this
theorem iw.keep (h:iw n E S0 D0 St S1 x (E x) D T S) (b:D x≠(St.length:Int)+1):Bt n E S0 D0 St S1 x D (St ++ x :: T) S:=by
 have:=h.own
 refine⟨h.g,h.old,.inr ⟨T,rfl,by omega,λz a=>?_⟩⟩
 rcases Zz.1 a with rfl | a
 .exact⟨⟨⟨St.length,by simp,by omega⟩,h.Qp⟩,Int.le_refl _,λ_ h=>h⟩
 .exact h.fin z a
theorem iw.pop (hE:∀ x,x < n->∀ y∈E x,y < n) (K:(n:Int) < fy) (M:x < n) (N:∀ z∈x :: T,D0 z=0) (h:iw n E S0 D0 St S1 x (E x) D T S) (he:D x=(St.length:Int)+1) :
  Bt n E S0 D0 St S1 x (λz=>if z∈x :: T then fy else D z) St (λz=>if z∈x :: T then S x else S z):=by
 have c:=h.g
 have b:∀ z∈x :: T,z∈St ++ x :: T:=λz a=>aaX _ a
 have o:=c.nd
 rw[aak] at o
 have f:∀ (q u:Nat),(St ++ x :: T)[q]?=some u->St.length<=q->u∈x :: T:=λq u hq hl=>by
  rw[Z3 hl] at hq
  exact Zp hq
 have r:∀ z∈x :: T,iT (S z) (S x)/\D x<=D z/\∀ y∈E z,MG D (St ++ x :: T) S z y:=λz a=>by
  rcases Zz.1 a with rfl | a
  .exact⟨λ_ h=>h,Int.le_refl _,h.Qp⟩
  .obtain⟨d,k2,j⟩:=h.fin z a
   exact⟨j,k2,d.2⟩
 have i:∀ z∈x :: T,∀ y∈E z,y∈x :: T∨(D y=fy/\iT (S y) (S x)):=λz a y l=>by
  obtain⟨d,k2,j⟩:=r z a
  rcases j y l with ⟨m1,m2⟩ | ⟨q,m1,m2⟩
  .exact .inr ⟨m1,λt B=>d t (m2 t B)⟩
  .exact .inl (f q y m1 (by omega))
 have s:∀ z w:Nat,jO E z w->z∈x :: T->∀ t,(S0 w).getLsbD t=true->(S x).getLsbD t=true:=by
  intro z w hr
  induction hr with
  | @refl z =>
   intro a t B
   exact(r z a).1 t (c.base z (c.lt z (b z a)) t B)
  | @step z y w l hr F =>
   intro a t B
   rcases i z a y l with k | ⟨d,k2⟩
   .exact F k t B
   .have v:=hE z (c.lt z (b z a)) y l
    exact k2 t ((c.Ii y v d).2.1 t ⟨w,hr,B⟩)
 have A:∀ (m p z:Nat),p < m->(St ++ x :: T)[p]?=some z->z∈x :: T->jO E z x:=by
  intro m
  induction m with
  | zero=>intro p z h;omega
  | succ m F =>
   intro p z hp G a
   by_cases e:z=x
   .rw[e];exact .refl
   .have H:z∈T:=(Zz.1 a).resolve_left e
    obtain⟨⟨⟨O,d,k2⟩,_⟩,j,_⟩:=h.fin z H
    have I:=c.lt z (b z a)
    obtain⟨z0,P⟩:=c.ne K (b z a)
    obtain⟨U,m1,m2,m3,w,m4,m5⟩:=c.on z I z0 P
    have Q:O=p:=(List.getElem?_inj (Zy.1 d).1 c.nd).1 (d.trans G.symm)
    have hw:=f _ w m4 (by omega)
    exact m5.trans (F (D z - 1).toNat w (by omega) m4 hw)
 have J:∀ z,D z=fy->z ∉ x :: T:=λz a hm=>(c.ne K (b z hm)).2 a
 refine⟨⟨o.1,λz a=>c.lt z (aaT _ a),λz a h1=>?_,λz a h1=>?_,λz a h1 C=>?_,λz t a h1=>?_,λz a t h1=>?_⟩,λz a=>?_,.inl ⟨rfl,by simp⟩⟩
 .split at h1
  .simp[fy] at h1
  .rename_i hm
   rw[Zk hm]
   obtain⟨d,k2⟩:=c.zero z a h1
   exact⟨d,λhs=>k2 (aaT _ hs)⟩
 .by_cases hm:z∈x :: T
  .rw[Zn hm]
   refine⟨λhs=>o.2.2 z hs z hm rfl,λt ⟨w,d,k2⟩=>s z w d hm t k2,λy l=>?_⟩
   split
   .rfl
   .rename_i v
    exact((i z hm y l).resolve_left v).1
  .rw[Zk hm] at h1 ⊢
   obtain⟨d,k2,j⟩:=c.Ii z a h1
   refine⟨λhs=>d (aaT _ hs),k2,λy l=>?_⟩
   split
   .rfl
   .exact j y l
 .by_cases hm:z∈x :: T
  .rw[Zn hm] at C;exact absurd rfl C
  .rw[Zk hm] at h1 C ⊢
   obtain⟨p,d,k2,j,w,L,R⟩:=c.on z a h1 C
   have hp:p < St.length:=Nat.lt_of_not_le λhp=>hm (f p z d hp)
   rw[ZP hp] at d
   rw[ZP (by omega)] at L
   exact⟨p,d,k2,j,w,L,R⟩
 .by_cases hm:z∈x :: T
  .rw[Zn hm] at h1
   obtain⟨p,hp,e⟩:=aaA.1 (b z hm)
   exact(c.sound x t M h1).up (A (p+1) p z (by omega) (by rw[Zj hp,e]) hm)
  .rw[Zk hm] at h1
   exact c.sound z t a h1
 .by_cases hm:z∈x :: T
  .rw[Zn hm]
   exact(r z hm).1 t (c.base z a t h1)
  .rw[Zk hm];exact c.base z a t h1
 .have hm:z ∉ x :: T:=λhm=>a (N z hm)
  simp only[Zk hm];exact h.old z a
theorem iw.fresh (f:(n:Int) < fy) (i:pW n E S0 D0 St S1) (h:iw n E S0 D0 St S1 x done D T S):∀ z∈x :: T,D0 z=0:=λz d=>by
 refine aay λa=>?_
 have hm:z∈St ++ x :: T:=aaX _ d
 have c:=h.g.lt z hm
 have b:=h.g.nd
 rw[aak] at b
 by_cases e:D0 z=fy
 .exact(h.g.ne f hm).2 ((h.old z a).1.trans e)
 .obtain⟨p,j,_⟩:=i.on z c a e
  exact b.2.2 z (Zp j) z d rfl
theorem pW.all (h:pW n E S0 D St S) (hd:∀ z,z < n->D z=fy) {z t:Nat} (a:z < n):(S z).getLsbD t=true↔mF E S0 z t:=⟨h.sound z t a,(h.Ii z a (hd z a)).2.1 t⟩
theorem Bt.top {D':Nat->Int} {a:List Nat} {S':Nat->BV} (h:Bt n E S0 D [] S x D' a S') (b:x < n):a=[]/\D' x=fy:=by
 obtain⟨g,_,⟨h1,c⟩ | ⟨T,h1,c,f⟩⟩:=h
 .exact⟨h1,c⟩
 .exfalso
  simp only[ZW] at c
  obtain⟨⟨⟨p,i,k2⟩,_⟩,_⟩:=f x (by simp)
  have hm:x∈a:=Zp i
  by_cases d:D' x=0
  .exact(g.zero x b d).2 hm
  .by_cases e:D' x=fy
   .exact(g.Ii x b e).1 hm
   .obtain⟨_,_,j,_⟩:=g.on x b d e
    omega
end
section
variable {P:Program} {T:Env} {H:View} {K:V->View->Prop} {w:cO (T,H,K)} {t ty:TypeId}
theorem Vc {d:Operand} {id off len sz bytes s:Nat} {z:List V} {es:List (List V)} (he:rL P t=some (sz,bytes,z)) (hd:ev T d=.sl id off len sz) (hH:H id=.arr s es) (hl:off+len<=es.length) (h:len≠0)
  (hk:K (.bt []) (H.set id (.arr sz (eC es off (List.replicate len z))))):j5 P (.call { callee:=.builtin .clear,args:=#[d],argTypes:=#[t] }) ty T H K w:=by
 obtain⟨e,ti,b,hi,c,i,f,a,g,rfl,rfl⟩:=mc he
 intro n _
 refine⟨.bt [],.fK id (.arr ti.size (eC es off (List.replicate len z))),[id],?_,hk⟩
 simp only[sI,cx,oper]
 simp only[ZZ] at a
 simp[yp,b,hd,cT,c,h,hH,hl,g,i,f,a]
 exact a
end
theorem Bo:∀ (xs A B:List (List V)),xs.length<=B.length->eC (A ++ B) A.length xs=A ++ xs ++ B.drop xs.length
 | [],A,B,_=>by simp[eC]
 | x :: r,A,[],h=>by simp at h
 | x :: r,A,b :: B,h=>by
  rw[eC,List.set_append_right _ _ (Zt _),Nat.sub_self,List.set_cons_zero]
  have:=Bo r (A ++ [x]) B (by simpa using h)
  simpa using this
theorem B3 {id off k m:Nat} (hm:m<=k):dE 2 (.sl id off k 2) (some (gi m)) none=some (.sl id (off+m) (k - m) 2,.none,[]):=by
 simp[dE,bound,asNat,hm]
theorem JZ {id off k m:Nat} (hm:m<=k):dE 2 (.sl id off k 2) none (some (gi m))=some (.sl id off m 2,.none,[]):=by
 simp[dE,bound,asNat,hm]
def gI:SC :=
 ae [ae [ab [aa 29 5,aa 30 4,aP 31 30,aS 32 .lss 29 31],bT 32 (.exit 2)],.block 3 (ae [ab [aa 35 4,aa 36 5,aH 37 2 35 36,aT 38 2 37,aa 39 4,aa 40 5,aG 41 .sub 40 1,aH 42 2 39 41,aT 43 2 42,((some 44),.op (.old (.binOp .neq 33 (.tmp 38) (.tmp 43) 33) 4))],bc 44 (ae [ab [aa 45 0,aa 46 3,aa 47 4,aa 48 5,aH 49 2 47 48,aT 50 2 49,aH 51 2 45 46,bK 2 51 50],ab [aa 52 3,aG 53 .add 52 1,aa 3 53]])]),ab [aa 33 5,aG 34 .add 33 1,aa 5 34]]
def gL:SC :=
 ae [ae [ab [aa 10 3,aa 11 0,aP 12 11,aS 13 .lss 10 12],bT 13 (.exit 0)],.block 1 (ae [ab [aa 16 0,aa 17 3,aH 18 2 16 17,aT 19 2 18,aa 20 0,aa 21 3,aG 22 .sub 21 1,aH 23 2 20 22,aT 24 2 23,((some 25),.op (.old (.binOp .eql 33 (.tmp 19) (.tmp 24) 33) 4))],bc 25 (ae [ab [aa 26 0,aa 27 3,((some 28),.op (.slice 2 (.tmp 26) (some (.tmp 27)) none)),aa 4 28],ae [ab [aQ 5 1],bU 2 gI],ab [aa 54 0,aa 55 3,((some 56),.op (.slice 2 (.tmp 54) (some (.tmp 55)) none)),(none,.op (.old (.call { callee:=.builtin .clear,args:=#[(.tmp 56)],argTypes:=#[27] }) 0))],ab [aa 57 0,aa 58 3,((some 59),.op (.slice 2 (.tmp 57) none (some (.tmp 58)))),aa 2 59],.ret])]),ab [aa 14 3,aG 15 .add 14 1,aa 3 15]]
def ig:SF:=⟨ae [ab [cq 2 1],ae [ab [aa 6 0,aP 7 6,aG 8 .lss 7 2],bc 8 (ae [ab [aa 9 0,aa 2 9],.ret])],ae [ab [aQ 3 1],bU 0 gL],ab [aa 60 0,aa 2 60],.ret],
 [.tmp 2],61⟩
theorem kC:aN Tryz.prog 114 []=some ig:=by kernel_rfl
def Cz:SF:=⟨ae [ab [cq 2 1],ab [aa 3 0,qb 4 112 [(.tmp 3),(.val (.fn 113 [] []))]],ab [aa 5 0,bh 6 114 [5],aa 2 6],.ret],
 [.tmp 2],7⟩
theorem Gw:aN Tryz.prog 64 []=some Cz:=by kernel_rfl
theorem uh {l:List aB} {i:Nat} (h:i < l.length):(aU l).getD i []=[gi (l.getD i iN).aw,gi (l.getD i iN).dot]:=r7 (getD_some h)
theorem O2 (l:List aB) (i j:Nat) (x d:aB) (hi:i < l.length):(l.set i x).getD j d=if i=j then x else l.getD j d:=by
 rw[eS]
 by_cases e:i=j
 .rw[Zn ⟨e,hi⟩,Zn e]
 .rw[Zk (λh=>e h.1),Zk e]
theorem Pr (l:List aB) (U:l.length<=100000) (u:V) (H:View) (C:aV H u 2 (aU l)):au Tryz.prog 114 [u] H λr H'=>(∀ id,owner u≠some id->H' id=H id)/\aV H' r 2 (aU (gp l l.length))/\owner r=owner u:=by
 refine au.cut (K:=λr H'=>(H'=H/\r=u/\gp l l.length=l)∨∃ id rest,u=.sl id 0 l.length 2/\r=.sl id 0 (gp l l.length).length 2/\H'=H.set id (.arr 2 (aU (gp l l.length) ++ rest))) ?_ ?_
 rotate_left
 .rintro r H' (⟨rfl,rfl,e⟩ | ⟨id,rest,rfl,rfl,rfl⟩)
  .exact .inl ⟨λ_ _=>rfl,by rw[e];exact C,rfl⟩
  .refine .inr ⟨id,2,aU (gp l l.length),rest,by simp[View.set],λj L=>?_,?_,rfl⟩
   .rw[set_set]
    simp only[View.set]
    rw[Zk (λe=>L (by rw[e];rfl))]
   .rw[set_set]
    exact .inr ⟨id,by rw[bJ],by simp[View.set]⟩
 refine au.of mixed kC ?_
 have hlen:cT u=some l.length:=by rw[C.len,bJ]
 simp(disch:=omega)only[↓wr,seval,wq,ig,hlen]
 apply ah.dec<;>intro n
 .simp(disch:=omega)only[↓wr,seval,wq]
  left
  try refine⟨rfl,rfl,?_⟩
  match l,n with
  | [],_=>rfl
  | [x],_=>rfl
  | _ :: _ :: _,n=>simp at n;omega
 obtain⟨id,hu,t⟩:=C.sl (by rw[bJ];omega)
 rw[bJ] at hu
 subst hu
 simp(disch:=omega)only[↓wr,seval,wq]
 refine aR.up (l.length - 1) (λi T H'=>H=H'/\(∀ j,0 < j->j < i+1->l.getD j iN≠l.getD (j - 1) iN)/\T 0=.sl id 0 l.length 2/\T 3=gi ((i+1:Nat):Int)) ⟨rfl,λj h1 n=>by omega,rfl,rfl⟩ ?_
 rintro i k T _ hk ⟨rfl,o,t0,t3⟩
 simp(disch:=omega)only[↓wr,seval,wq,gL,t0,t3]
 apply ah.dec<;>intro O
 rotate_left
 .simp(disch:=omega)only[↓wr,seval,wq,t0]
  left
  try refine⟨rfl,rfl,?_⟩
  rw[AT l _ (Zt _) (λj h1 n=>o j h1 (by omega)),List.take_length]
 have D:i+1 < l.length:=by omega
 have P:(((i+1:Nat):Int) - 1)=(i:Int):=by omega
 simp(disch:=omega)only[↓wr,seval,wq,t0,t3,t,uh D,uh (show i < l.length by omega),P]
 refine⟨by omega,by rw[bJ];omega,?_⟩
 refine⟨by omega,by rw[bJ];omega,?_⟩
 generalize M:l.getD (i+1) iN=x
 generalize N:l.getD i iN=y
 refine fQ (xs:=#[.int .i64 x.aw,.int .i64 x.dot]) (ys:=#[.int .i64 y.aw,.int .i64 y.dot]) Tryz.underlying33 (by kernel_rfl) (by kernel_rfl) ?_ ?_ (mr x y) (.inl ⟨rfl,rfl⟩) ?_
 .rfl
 .rfl
 rw[uV]
 simp(disch:=omega)only[↓wr,seval,wq,t0,t3]
 apply ah.dec<;>intro heq
 rotate_left
 .simp(disch:=omega)only[↓wr,seval,wq,t0,t3]
  refine aE hk (by omega) ⟨rfl,λj h1 n=>?_,t0,by push_cast;rfl⟩
  rcases ZI j (i+1) with q | q
  .exact o j h1 q
  .have:j=i+1:=by omega
   subst this
   rw[Nat.add_sub_cancel,M,N];exact heq
 have g:gp l (i+1+1)=l.take (i+1):=by
  rw[gp,Zk,AT l (i+1) (by omega) o]
  rw[Nat.add_sub_cancel,M,N]
  simp[heq]
 simp(disch:=omega)only[↓wr,seval,wq,t0,t3,B3 (id:=id) (off:=0) (k:=l.length) (m:=i+1) (by omega)]
 refine aR.up (l.length - (i+1) - 1) (λi2 T H'=>∃ (a:Nat) (cur:List aB),H'=H.set id (.arr 2 (aU cur))/\cur.length=l.length/\i+1<=a/\a<=i+1+i2/\cur.take a=gp l (i+1+(i2+1))/\(∀ j,a<=j->cur.getD j iN=l.getD j iN) /\
  T 0=.sl id 0 l.length 2/\T 3=gi a/\T 4=.sl id (i+1) (l.length - (i+1)) 2/\T 5=gi ((i2+1:Nat):Int)) ⟨i+1,l,?_,rfl,Zt _,by omega,by rw[g],λ_ _=>rfl,t0,t3,?_,rfl⟩ ?_
 .funext j;simp only[View.set];split
  .rename_i e;rw[e,t]
  .rfl
 .rfl
 clear t0 t3 hk
 rintro i2 k2 W _ v ⟨a,cur,rfl,w,Q,X,c,d,t0,t3,t4,t5⟩
 have b:(H.set id (.arr 2 (aU cur))) id=.arr 2 (aU cur):=by simp[View.set]
 simp(disch:=omega)only[↓wr,seval,wq,gI,t0,t3,t4,t5]
 apply ah.dec<;>intro E
 .have hp:i+1+(i2+1) < l.length:=by omega
  have R:(((i2+1:Nat):Int) - 1)=(i2:Int):=by omega
  simp(disch:=omega)only[↓wr,seval,wq,t0,t3,t4,t5,b,R,uh (l:=cur) (show i+1+(i2+1) < cur.length by omega),uh (l:=cur) (show i+1+i2 < cur.length by omega)]
  refine⟨by omega,by rw[bJ];omega,?_⟩
  refine⟨by omega,by rw[bJ];omega,?_⟩
  rw[d _ (show a<=i+1+(i2+1) by omega),d _ (show a<=i+1+i2 by omega)]
  generalize A:l.getD (i+1+(i2+1)) iN=f
  generalize F:l.getD (i+1+i2) iN=B
  refine fQ (xs:=#[.int .i64 f.aw,.int .i64 f.dot]) (ys:=#[.int .i64 B.aw,.int .i64 B.dot]) Tryz.underlying33 (by kernel_rfl) (by kernel_rfl) ?_ ?_ (mr f B) (.inr ⟨rfl,rfl⟩) ?_
  .rfl
  .rfl
  rw[uV]
  simp(disch:=omega)only[↓wr,seval,wq,t0,t3,t4,t5]
  have h:gp l (i+1+(i2+1+1))=if f=B then gp l (i+1+(i2+1)) else gp l (i+1+(i2+1)) ++ [f]:=by
   rw[show i+1+(i2+1+1)=(i+1+(i2+1))+1 by omega,gp,A,show i+1+(i2+1) - 1=i+1+i2 by omega,F]
   by_cases e:f=B
   .rw[Zn e,Zk (by simp[e])]
   .rw[Zk e,Zn (.inr e)]
  apply ah.dec<;>intro he
  .simp(disch:=omega)only[↓wr,seval,wq,t0,t3,t4,t5]
   rw[Zn he] at h
   exact aE v (by omega) ⟨a,cur,rfl,w,Q,by omega,by rw[h];exact c,d,t0,t3,t4,by push_cast;rfl⟩
  .simp(disch:=omega)only[↓wr,seval,wq,t0,t3,t4,t5,b,uh (l:=cur) (show i+1+(i2+1) < cur.length by omega)]
   rw[d _ (show a<=i+1+(i2+1) by omega),A]
   have p:(aU cur).getD a []=[gi (cur.getD a iN).aw,gi (cur.getD a iN).dot]:=uh (by omega)
   have G:(aU cur).set a [gi f.aw,gi f.dot]=aU (cur.set a f):=by simp[aU,aaR,bE]
   simp(disch:=omega)only[↓wr,seval,wq,t0,t3,t4,t5,b,p,G]
   rw[set_set]
   rw[Zk he] at h
   refine⟨by omega,by rw[bJ];omega,?_⟩
   refine⟨by omega,by rw[bJ];omega,?_⟩
   refine aE v (by omega) ⟨a+1,cur.set a f,rfl,by simp[w],by omega,by omega,?_,λj L=>?_,t0,by push_cast;rfl,t4,by push_cast;rfl⟩
   .rw[h,<-c,ZG,List.take_set_of_le (Zt _),abb (by omega)];rfl
   .rw[O2 _ _ _ _ _ (by omega),Zk (by omega)]
    exact d j (by omega)
 .have I:i+1+(i2+1)=l.length:=by omega
  rw[I] at c
  have S:l.length - a≠0:=by omega
  have p:a=(gp l l.length).length:=by rw[<-c,Z6];omega
  simp(disch:=omega)only[↓wr,seval,wq,t0,t3,B3 (id:=id) (off:=0) (k:=l.length) (m:=a) (by omega)]
  refine Vc (id:=id) (off:=a) (len:=l.length - a) (sz:=2) (bytes:=16) (s:=2) (z:=[gi 0,gi 0]) (es:=aU cur) (by kernel_rfl) (by simp(disch:=omega)only[↓wr,seval,wq];try rw[aaw]) b (by rw[bJ];omega) S ?_
  rw[set_set]
  have J:eC (aU cur) a (List.replicate (l.length - a) [gi 0,gi 0])=aU (gp l l.length) ++ List.replicate (l.length - a) [gi 0,gi 0]:=by
   have h1:=Bo (List.replicate (l.length - a) [gi 0,gi 0]) (aU (cur.take a)) (aU (cur.drop a)) (by simp[aU];omega)
   rw[show aU (cur.take a) ++ aU (cur.drop a)=aU cur by rw[aU,aU,<-ZD,List.take_append_drop];rfl] at h1
   rw[show (aU (cur.take a)).length=a by rw[bJ,Z6];omega] at h1
   rw[h1,c,ZQ (by simp[aU];omega),aav]
  rw[J]
  simp(disch:=omega)only[↓wr,seval,wq,t0,t3,JZ (id:=id) (off:=0) (k:=l.length) (m:=a) (by omega)]
  right
  exact⟨id,List.replicate (l.length - a) [gi 0,gi 0],rfl,by rw[p],rfl⟩
theorem L7 (l:List aB) (h:l.length<=100000) (u:V) (H:View) (c:aV H u 2 (aU l)):au Tryz.prog 64 [u] H λr H'=>(∀ id,owner u≠some id->H' id=H id)/\aV H' r 2 (aU (B9 l))/\owner r=owner u:=by
 refine au.of mixed Gw ?_
 simp(disch:=omega)only[↓wr,seval,wq,Cz]
 refine ax.dJ ((TL l (by omega) u H c).mono ?_)
 rintro r d ⟨rfl,k2,e⟩
 simp(disch:=omega)only[↓wr,seval,wq]
 refine ax.dJ ((Pr (eY l) (by rw[jK];omega) u d e).mono ?_)
 rintro r i ⟨f,b,g⟩
 simp(disch:=omega)only[↓wr,seval,wq]
 rw[jK] at b
 exact⟨λid a=>by rw[f id a,k2 id a],b,g⟩
end Gv
