/-
  Part 13 of the proof: what the machine does and what the functions answer.
  Conditions: those that each lemma names.
-/
import Derived.Test.YtihmlbdfcmfbdaaGreatSGzB2L
set_option linter.unusedSimpArgs false
set_option linter.unusedVariables false
set_option maxRecDepth 100000
namespace Gv
open Go Go.Proofs
def fY (null:List Bool) (first:List BV) (R:aW) (out:List BV) (k:Nat):List BV :=
 if R.right.getD k 0 < 0 then out.set (-1 - R.right.getD k 0).toNat (out.getD (-1 - R.right.getD k 0).toNat 0 ||| fe null first (out.getD R.left.toNat 0) (R.right.drop (k+1))) else out
def iT (null:List Bool) (first:List BV) (out:List BV) (R:aW):List BV:=(List.range R.right.length).foldl (fY null first R) out
def mU (g:aw) (null:List Bool) (first:List BV) (out:List BV):List BV:=g.rules.foldl (iT null first) out
def jL (g:aw):List BV:=(List.replicate g.ax.length 0).set g.start.toNat (eo g.az.length)
def fG (g:aw) (null:List Bool):List BV:=iter (mU g null (cJ g null)) g.ax.length (jL g)
theorem KT (null:List Bool) (first:List BV) (R:aW) (out:List BV) (k:Nat):(fY null first R out k).length=out.length:=by
 unfold fY; split <;> simp
theorem vB (null:List Bool) (first:List BV) (R:aW):∀ (l:List Nat) (out:List BV),(l.foldl (fY null first R) out).length=out.length
 | [],_=>rfl
 | k :: l,out=>by rw[Uu,vB null first R l,KT]
theorem p8 (null:List Bool) (first:List BV):∀ (l:List aW) (out:List BV),(l.foldl (iT null first) out).length=out.length
 | [],_=>rfl
 | R :: l,out=>by rw[Uu,p8 null first l,iT,vB]
theorem pO (g:aw) (null:List Bool):(fG g null).length=g.ax.length:=by
 rw[fG,yS (f:=mU g null (cJ g null)) fun l=>p8 _ _ g.rules l]; simp[jL]
theorem sm {α:Type} {F:List Bool→α→List Bool} (hF:∀ is x,fq is (F is x)):∀ (l:List α) (is:List Bool),fq is (l.foldl F is)
 | [],is=>.refl _
 | x :: l,is=>(hF is x).trans (sm hF l _)
theorem yP {α:Type} {F:List Bool→α→List Bool} (hF:∀ is x,fq is (F is x)):∀ {l:List α} {is:List Bool},l.foldl F is=is→∀ x∈l,F is x=is
 | [],_,_,_,h=>by simp at h
 | y :: l,is,h,x,hx=>by
  rw[Uu] at h
  have h1:=sm hF l (F is y)
  rw[h] at h1
  have h2:=h1.G4 (hF is y)
  rcases Uk.1 hx with rfl | hx
  ·exact h2
  ·rw[h2] at h; exact yP hF h x hx
def qa (null:List Bool) (first:List BV) (t:Nat) (R:aW) (is:List Bool) (k:Nat):List Bool :=
 if R.right.getD k 0 < 0 then is.set (-1 - R.right.getD k 0).toNat (is.getD (-1 - R.right.getD k 0).toNat false || ((fe null first 0 (R.right.drop (k+1))).getLsbD t || (cz (R.right.drop (k+1)) null false && is.getD R.left.toNat false))) else is
theorem Mx (null:List Bool) (first:List BV) (t:Nat) (R:aW) (out:List BV) (k:Nat):pt t (fY null first R out k)=qa null first t R (pt t out) k:=by
 unfold fY qa
 have e:∀ b:BV,(fe null first b (R.right.drop (k+1))).getLsbD t=((fe null first 0 (R.right.drop (k+1))).getLsbD t || (cz (R.right.drop (k+1)) null false && b.getLsbD t)):=fun b=>by
  rw[Vc,mK]; simp
 split
 ·rw[qF,qF,← e,← UU]
  simp[pt,Vp]
 ·rfl
theorem D2 (null:List Bool) (first:List BV) (t:Nat) (R:aW):∀ (l:List Nat) (out:List BV),pt t (l.foldl (fY null first R) out)=l.foldl (qa null first t R) (pt t out)
 | [],_=>rfl
 | k :: l,out=>by rw[Uu,D2 null first t R l,Mx]; rfl
def Gb (null:List Bool) (first:List BV) (t:Nat) (is:List Bool) (R:aW):List Bool:=(List.range R.right.length).foldl (qa null first t R) is
theorem CF (null:List Bool) (first:List BV) (t:Nat):∀ (l:List aW) (out:List BV),pt t (l.foldl (iT null first) out)=l.foldl (Gb null first t) (pt t out)
 | [],_=>rfl
 | R :: l,out=>by rw[Uu,CF null first t l,iT,D2]; rfl
theorem E1 (g:aw) (null:List Bool) (first:List BV) (t:Nat):∀ (n:Nat) (out:List BV),pt t (iter (mU g null first) n out)=iter (fun is=>g.rules.foldl (Gb null first t) is) n (pt t out)
 | 0,_=>rfl
 | n+1,out=>by rw[iter,iter,E1 g null first t n]; exact Vl _ (CF null first t g.rules out)
theorem xT (null:List Bool) (first:List BV) (t:Nat) (R:aW) (is:List Bool) (k:Nat):fq is (qa null first t R is k):=by
 unfold qa
 split
 ·refine ⟨by simp,fun i hi=>?_⟩
  simp only[T0,Vm] at hi ⊢
  split
  ·rename_i e
   subst e
   split
   ·simp[hi]
   ·rename_i h; rw[UF (by omega)] at hi; simp at hi
  ·exact hi
 ·exact .refl _
theorem w7 {g:aw} (hf:g.dt) (null:List Bool) {R:aW} (hR:R∈g.rules) {k:Nat} {s:Int} (hk:R.right[k]?=some s) (hs:s < 0) {t:Nat}
  (h:(fe null (cJ g null) 0 (R.right.drop (k+1))).getLsbD t=true∨(cz (R.right.drop (k+1)) null false=true∧((fG g null).getD R.left.toNat 0).getLsbD t=true)):((fG g null).getD (-1 - s).toNat 0).getLsbD t=true:=by
 have e:=E1 g null (cJ g null) t g.ax.length (jL g)
 have hfix:=xQ (F:=fun is=>g.rules.foldl (Gb null (cJ g null) t) is) (fun is=>sm (fun is R=>sm (fun is k=>xT _ _ _ _ _ _) _ _) g.rules is) g.ax.length (pt t (jL g)) (by simp[pt,jL])
 rw[← e] at hfix
 have h1:=yP (fun is R=>sm (fun is k=>xT null (cJ g null) t R _ _) _ _) hfix R hR
 have hkl:=(Uj.1 hk).1
 have h2:=yP (fun is k=>xT null (cJ g null) t R _ _) h1 k (UR.2 hkl)
 have hg:R.right.getD k 0=s:=by rw[T0,hk]; rfl
 change qa null (cJ g null) t R (pt t (fG g null)) k=pt t (fG g null) at h2
 have hn:=hf.neg hR (Ub hk) hs
 rw[← qF,← h2]
 unfold qa
 rw[hg,T9 hs,T0,VN (by simp[pt,pO]; omega)]
 simp only[Un,U8,Uh]
 rw[qF t _ R.left.toNat]
 exact .inr h
theorem Im {out:List BV} {a i t:Nat} {x:BV} (h:(out.getD i 0).getLsbD t=true):((out.set a (out.getD a 0 ||| x)).getD i 0).getLsbD t=true:=by
 rw[fI]
 split
 ·rename_i e
  rw[UU,e.1,h]; rfl
 ·exact h
theorem HH {g:aw} (hf:g.dt) (null:List Bool):((fG g null).getD g.start.toNat 0).getLsbD g.az.length=true:=by
 have h0:((jL g).getD g.start.toNat 0).getLsbD g.az.length=true:=by
  unfold jL
  have:=hf.start; have:=hf.iX
  rw[fI,T9 ⟨rfl,by simp; omega⟩]
  have:=hf.az
  exact (oB (by omega) _).2 rfl
 have hR:∀ (R:aW) (l:List Nat) (out:List BV),(out.getD g.start.toNat 0).getLsbD g.az.length=true→((l.foldl (fY null (cJ g null) R) out).getD g.start.toNat 0).getLsbD g.az.length=true:=fun R l=>by
  induction l with
  | nil=>exact fun _ h=>h
  | cons k l ih =>
   intro out h
   rw[Uu]
   refine ih _ ?_
   unfold fY
   split
   ·exact Im h
   ·exact h
 have hL:∀ (l:List aW) (out:List BV),(out.getD g.start.toNat 0).getLsbD g.az.length=true→((l.foldl (iT null (cJ g null)) out).getD g.start.toNat 0).getLsbD g.az.length=true:=fun l=>by
  induction l with
  | nil=>exact fun _ h=>h
  | cons R l ih=>exact fun out h=>ih _ (hR R _ out h)
 have hI:∀ (n:Nat) (out:List BV),(out.getD g.start.toNat 0).getLsbD g.az.length=true→((iter (mU g null (cJ g null)) n out).getD g.start.toNat 0).getLsbD g.az.length=true:=fun n=>by
  induction n with
  | zero=>exact fun _ h=>h
  | succ n ih=>exact fun out h=>ih _ (hL g.rules out h)
 exact hI _ _ h0
theorem Hf {g:aw} (hf:g.dt) (null:List Bool) {t:Nat} {Q:Nat→Prop} (h0:t=g.az.length→Q g.start.toNat)
  (h1:∀ R∈g.rules,∀ (k:Nat) (s:Int),R.right[k]?=some s→s < 0→((fe null (cJ g null) 0 (R.right.drop (k+1))).getLsbD t=true∨(cz (R.right.drop (k+1)) null false=true∧Q R.left.toNat))→Q (-1 - s).toNat) :
  ∀ i,((fG g null).getD i 0).getLsbD t=true→Q i:=by
 have hS:∀ i,((jL g).getD i 0).getLsbD t=true→Q i:=fun i h=>by
  unfold jL at h
  rw[fI] at h
  split at h
  ·rename_i e
   have:=hf.az
   have:=(oB (by omega) _).1 h
   rw[← e.1]
   exact h0 this
  ·simp only[T0,Vx] at h
   split at h <;> simp at h
 have hR:∀ R∈g.rules,∀ (l:List Nat),(∀ k∈l,k < R.right.length)→∀ out:List BV,(∀ i,(out.getD i 0).getLsbD t=true→Q i)→∀ i,((l.foldl (fY null (cJ g null) R) out).getD i 0).getLsbD t=true→Q i:=fun R hm l=>by
  induction l with
  | nil=>exact fun _ _ h=>h
  | cons k l ih =>
   intro hl out h
   rw[Uu]
   refine ih (fun k hk=>hl k (by simp[hk])) _ fun i hi=>?_
   have hk:R.right[k]?=some (R.right.getD k 0):=getD_some (hl k (by simp))
   unfold fY at hi
   split at hi
   ·rename_i hs
    rw[fI] at hi
    split at hi
    ·rename_i e
     rw[UU,U8] at hi
     rcases hi with hi | hi
     ·rw[← e.1]; exact h _ hi
     ·rw[← e.1]
      refine h1 R hm k _ hk hs ?_
      rcases (mK _ _ _ _ _).1 hi with hi | ⟨h2,h3⟩
      ·exact .inl hi
      ·exact .inr ⟨h2,h _ h3⟩
    ·exact h i hi
   ·exact h i hi
 have hL:∀ (l:List aW),(∀ R∈l,R∈g.rules)→∀ out:List BV,(∀ i,(out.getD i 0).getLsbD t=true→Q i)→∀ i,((l.foldl (iT null (cJ g null)) out).getD i 0).getLsbD t=true→Q i:=fun l=>by
  induction l with
  | nil=>exact fun _ _ h=>h
  | cons R l ih=>exact fun hl out h=>ih (fun R hR=>hl R (by simp[hR])) _ (hR R (hl R (by simp)) _ (fun k hk=>UR.1 hk) out h)
 have hI:∀ (n:Nat) (out:List BV),(∀ i,(out.getD i 0).getLsbD t=true→Q i)→∀ i,((iter (mU g null (cJ g null)) n out).getD i 0).getLsbD t=true→Q i:=fun n=>by
  induction n with
  | zero=>exact fun _ h=>h
  | succ n ih=>exact fun out h=>ih _ (hL g.rules (fun _ h=>h) out h)
 exact hI _ _ hS
theorem Oh {g:aw} (h:isRed g=true):∀ i:Nat,i < g.ax.length→nY g (aA g true) i:=by
 have hr:=fv h
 unfold isRed at h
 simp only[Uh,Va,Ul] at h
 obtain ⟨h1,h2⟩:=h
 have hp:(aA g true).getD g.start.toNat false=true:=by
  refine U7 fun hn=>?_
  rw[kK hr,T6 hn] at h1
  simp at h1
 have hred:=Mz hr hp
 have e:(fy g).1=pF g (bQ (cn (aA g true) (bS g) g.rules)) (aA g true) (bS g):=by rw[kK hr,T9 hp]
 rw[← e,← h2] at hred
 intro i hi
 rw[hred.len] at hi
 exact yj hr i (hred.LR hi)
section
variable {g:aw} {a:List aT}
theorem PM (hA:ca g a) (hr:isRed g=true) {x:Int} (h:nY g (aA g true) x):∃ p,dJ a p (-1 - x):=by
 have hp:=hA.pos
 induction h with
 | start =>
  refine ⟨0,(hA.kI (by omega)).2 ⟨⟨-1,0⟩,(c7 hA.cD (hA.bh (by omega))).2 (.base (by rw[hA.e.first]; simp)),?_⟩⟩
  unfold bL; rw[T6 (by simp[aM])]; simp[aM]
 | next R s hR _ _ hs hn ih =>
  obtain ⟨p,hE⟩:=ih
  obtain ⟨k,hk,e⟩:=U6.1 hR
  have hRk:aB g k=R:=by unfold aB; rw[T0,Uq,T4 hk,e]; rfl
  obtain ⟨d,hd,e2⟩:=U6.1 hs
  have hpl:=ed hE
  have hrt:aM g (k:Int)=R.right:=by rw[aM,T6 (by omega),hRk]
  have hm:=ji hA hpl (hA.cD.left _ hR).1 hk (by rw[hRk]) hE
  obtain ⟨q,q1,q2,q3⟩:=hA.fwd k (R.right.take d) 0 p hpl hm ⟨R.right.drop d,by rw[hrt]; simp⟩
  have hnx:bL g ⟨k,((0+(R.right.take d).length:Nat):Int)⟩=(s,true):=(mX (l:=R.right.drop (d+1)) (by
   rw[hrt,U3,UN,V2 (by omega),UO hd,e2])).1
  refine ⟨q,?_⟩
  rw[show -1 - (-1 - s)=s by omega]
  exact (hA.kI q1).2 ⟨_,q3,hnx⟩
theorem Lj (hA:ca g a) {p t:Nat} {B:Int} (h:qR g a p B t):0≤B→dJ a p (-1 - B)→((fG g (aA g false)).getD B.toNat 0).getLsbD t=true:=by
 induction h with
 | @read p B t h =>
  intro hB he
  rcases Cd hA h he with ⟨_,rfl,rfl⟩ | ⟨x,x1,x2,x3⟩
  ·exact HH hA.cD _
  ·by_cases h0:0≤x.aH
   ·have hH:=hA.has (ed he) x1
    obtain ⟨d,d1,d2,d3⟩:=pC hH x2
    rw[aM,T6 (by omega)] at d2 d3
    have hk:x.aH.toNat < g.rules.length:=by have:=hH.1; omega
    have hR:g.rules[x.aH.toNat]?=some (aB g x.aH):=by unfold aB; exact getD_some hk
    have hd:(aB g x.aH).right[d]?=some (-1 - B):=by
     have:=Vl (·[0]?) d2
     simpa using this
    have:=w7 hA.cD (aA g false) (Ub hR) hd (by omega) (t:=t) (.inl (by rw[d3]; exact x3))
    rw[show -1 - (-1 - B)=B by omega] at this
    exact this
   ·rw[jh,T6 h0] at x3
    simp[fe] at x3
 | @CQ p p' k d B t hF hk he' hB' hd hw hnull ih =>
  intro hB he
  have hR:g.rules[k]?=some (aB g k):=by unfold aB; exact getD_some hk
  have h1:=ih (hA.cD.left _ (Ub hR)).1 he'
  have:=w7 hA.cD (aA g false) (Ub hR) hd (by omega) (t:=t) (.inr ⟨hnull,h1⟩)
  rw[show -1 - (-1 - B)=B by omega] at this
  exact this
theorem KE (hA:ca g a) (hr:isRed g=true) {t i:Nat} (h:((fG g (aA g false)).getD i 0).getLsbD t=true):∃ p,dJ a p (-1 - (i:Int))∧qR g a p i t:=by
 have hp:=hA.pos
 refine Hf hA.cD (aA g false) (t:=t) (Q:=fun i=>∃ p,dJ a p (-1 - (i:Int))∧qR g a p i t) (fun ht=>?_) (fun R hR d s hd hs hc=>?_) i h
 ·have h0:=hA.cD.iX
  rw[show ((g.start.toNat:Nat):Int)=g.start by omega]
  refine ⟨0,(hA.kI (by omega)).2 ⟨⟨-1,0⟩,(c7 hA.cD (hA.bh (by omega))).2 (.base (by rw[hA.e.first]; simp)),?_⟩,ht ▸ .read .fin⟩
  unfold bL; rw[T6 (by simp[aM])]; simp[aM]
 ·obtain ⟨k,hk,e⟩:=U6.1 hR
  have hRk:aB g k=R:=by unfold aB; rw[T0,Uq,T4 hk,e]; rfl
  have hl:=hA.cD.left _ hR
  have hdl:=(Uj.1 hd).1
  have hrt:aM g (k:Int)=R.right:=by rw[aM,T6 (by omega),hRk]
  have way:∀ p',dJ a p' (-1 - R.left)→∃ q,q < a.length∧gZ a p' (R.right.take d) q∧(⟨k,d⟩:aI)∈iw g a q:=fun p' hE=>by
   have hm:=ji hA (ed hE) hl.1 hk (by rw[hRk]) hE
   obtain ⟨q,q1,q2,q3⟩:=hA.fwd k (R.right.take d) 0 p' (ed hE) hm ⟨R.right.drop d,by rw[hrt]; simp⟩
   rw[U3,UN,V2 (by omega)] at q3
   exact ⟨q,q1,q2,q3⟩
  have hdr:(aM g (k:Int)).drop d=s :: R.right.drop (d+1):=by
   rw[hrt,UO hdl]
   congr 1
   rw[T4 hdl] at hd
   simpa using hd
  obtain ⟨n1,n2,n3⟩:=mX hdr
  have hneg:=hA.cD.neg hR (Ub hd) hs
  have es : -1 - (((-1 - s).toNat:Nat):Int)=s:=by omega
  have es2:(((-1 - s).toNat:Nat):Int) = -1 - s:=by omega
  simp only[es2,show -1 - (-1 - s)=s by omega]
  rcases hc with hc | ⟨h1,p',h2,h3⟩
  ·obtain ⟨p',hE⟩:=PM hA hr (Oh hr R.left.toNat (by omega))
   rw[show ((R.left.toNat:Nat):Int)=R.left by omega] at hE
   obtain ⟨q,q1,q2,q3⟩:=way p' hE
   obtain ⟨s1,s2,s3,s4⟩:=hA.step q1 q3 n1
   refine ⟨q,s1,.read (F5.read ?_)⟩
   rw[show -1 - (-1 - s)=s by omega]
   exact Fm hA (Cr hA) _ (d+1) _ s4 (by simpa using s3) n2 hc
  ·rw[show ((R.left.toNat:Nat):Int)=R.left by omega] at h2 h3
   obtain ⟨q,q1,q2,q3⟩:=way p' h2
   obtain ⟨s1,s2,s3,s4⟩:=hA.step q1 q3 n1
   refine ⟨q,s1,.CQ (k:=k) (d:=d) (by rw[hRk]; exact h3) hk (by rw[hRk]; exact h2) (by omega) ?_ (by rw[hRk]; exact q2) (by rw[hRk]; exact h1)⟩
   rw[hRk,show -1 - (-1 - s)=s by omega]
   exact hd
end
def lV:SC :=
 .seq (.seq (ao [aj 49 9,aD 50 1 8,ay 51 50,aV 52 51,bg 53 .lss 49 52]) <|
 .cond (.tmp 53) (.skip) (.exit 4)) <|
 .seq (.block 5 (.seq (ao [aD 56 1 8,ay 57 56,aj 58 9,aR 59 1 57 58,ay 60 59,aQ 61 .lss 60 0]) <|
 .cond (.tmp 61) (.seq (ao [aD 62 1 8,ay 63 62,aj 64 9,aR 65 1 63 64,ay 66 65,((some 67),.op (.arith .sub (.val (.val (.int .i64 (-1)))) (.tmp 66))),aj 10 67]) <|
 .region true [⟨none,[aj 68 5,aj 69 10,aj 70 5,aj 71 10,aR 72 1 70 71,ay 73 72,aD 74 1 8,ay 75 74,aj 76 9,aQ 77 .add 76 1,((some 78),.op (.slice 1 (.tmp 75) (some (.tmp 77)) none)),aj 79 3,aj 80 4,aj 81 5,aD 82 0 8,ay 83 82,aR 84 1 81 83,ay 85 84,bD 86 83 [78,79,80,85],bg 87 .or 73 86,aR 88 1 68 69,(none,.op (.store 1 (.tmp 88) (.tmp 87)))]⟩]) (.skip))) <|
 ao [aj 54 9,aQ 55 .add 54 1,aj 9 55]
def lX:SC :=
 .seq (.seq (ao [aj 37 7,aD 38 2 1,ay 39 38,aV 40 39,bg 41 .lss 37 40]) <|
 .cond (.tmp 41) (.skip) (.exit 2)) <|
 .seq (.block 3 (.seq (ao [aD 44 2 1,ay 45 44,aj 46 7,aR 47 3 45 46,bp 48 3 47,((some 8),.op (.alloc [(.val (.int .i64 0)),(.emp 1),(.val (.int .i64 0))])),(none,.op (.store 3 (.tmp 8) (.tmp 48)))]) <|
 .seq (ao [bj 9 0]) <|
 .block 4 (.loop lV))) <|
 ao [aj 42 7,aQ 43 .add 42 1,aj 7 43]
def lM:SC :=
 .seq (.seq (ao [aj 30 6,aD 31 1 1,ay 32 31,aV 33 32,bg 34 .lss 30 33]) <|
 .cond (.tmp 34) (.skip) (.exit 0)) <|
 .seq (.block 1 (.seq (ao [bj 7 0]) <|
 .block 2 (.loop lX))) <|
 ao [aj 35 6,aQ 36 .add 35 1,aj 6 36]
def nM:SF:=⟨.seq (ao [cO 1 0,((some 2),.op (.bP (.val (.emp 1))))]) <|
 .seq (.seq (ao [bp 11 4 1,bD 12 54 [11],dp 13 12]) <|
 .cond (.tmp 13) (.seq (ao [((some 2),.op (.bP (.val (.emp 1))))]) <|
 .ret) (.skip)) <|
 .seq (.region true [⟨none,[bp 14 4 1,bD 15 81 [14],bp 16 4 1,bD 17 82 [16],aj 3 15,aj 4 17]⟩]) <|
 .seq (ao [aD 18 1 1,ay 19 18,aV 20 19,((some 21),.op (.make 1 4 [(.val (.int .u32 0))] (.tmp 20) (.tmp 20))),aj 5 21]) <|
 .seq (.region true [⟨none,[aj 22 5,aD 23 3 1,ay 24 23,aD 25 0 1,ay 26 25,aV 27 26,bD 28 77 [27],aR 29 1 22 24,(none,.op (.store 1 (.tmp 29) (.tmp 28)))]⟩]) <|
 .seq (.seq (ao [bj 6 0]) <|
 .block 0 (.loop lM)) <|
 .seq (ao [aj 89 5,aj 2 89]) <|
 .ret,
 [.tmp 2],90⟩
theorem sS:aU Tryz.prog 40 [1]=some nM:=by kernel_rfl
def CM (g:aw):List BV:=if bR g=true then fG g (aA g false) else []
theorem Ib (null:List Bool) (first:List BV) (l:List aW) (R:aW) (out:List BV):(l ++ [R]).foldl (iT null first) out=iT null first (l.foldl (iT null first) out) R:=by rw[UM]; rfl
theorem Ld (null:List Bool) (first:List BV) (R:aW) (k:Nat) (out:List BV):(List.range (k+1)).foldl (fY null first R) out=fY null first R ((List.range k).foldl (fY null first R) out) k:=by rw[U4,UM]; rfl
set_option maxHeartbeats 16000000 in
theorem Ia (g:aw) (hg:g.Ok):cX Tryz.prog 40 [.agg (au g)] (lD (CM g)):=by
 refine cX.of (ef g) ?_
 have hr9:=kY g hg
 have hnl:=wV g hg
 have hfi:=(KA g hg).pure
 refine aC.of mixed sS ?_
 simp only[au,encS] at hr9 hnl hfi
 simp (disch:=omega) only [↓wr,seval,wq,ah,ag,ak,aa,ab,af,ai,ae,nM,au,encS]
 refine aE.pure hr9 (by kernel_rfl) ?_
 unfold CM
 simp (disch:=omega) only [↓wr,seval,wq,ah,ag,ak,aa,ab,af,ai,ae]
 refine av.split (fun hr=>?_) (fun hr=>?_)
 rotate_left
 ·simp (disch:=omega) only [↓wr,seval,wq,ah,ag,ak,aa,ab,af,ai,ae]
  rintro h' _
  rw[T6 (by rw[hr]; simp)]
  exact .emp _
 have hf:=bM hr
 have hN:=hf.ax; have hN1:=hf.mc; have hT:=hf.az; have hS0:=hf.iX; have hS1:=hf.start
 rw[T9 hr]
 have hnlen:=eV hr false
 have hflen:=BD g (aA g false)
 rw[HI,T9 hr] at hfi
 simp (disch:=omega) only [↓wr,seval,wq,ah,ag,ak,aa,ab,af,ai,ae,au,encS]
 refine aE.pure hnl (by kernel_rfl) ?_
 simp (disch:=omega) only [↓wr,seval,wq,ah,ag,ak,aa,ab,af,ai,ae,au,encS]
 refine aE.pure hfi (by kernel_rfl) ?_
 unfold fG
 generalize aA g false=null at *
 generalize cJ g null=first at *
 simp (disch:=omega) only [↓wr,seval,wq,ah,ag,ak,aa,ab,af,ai,ae,au,encS]
 refine ⟨⟨by omega,by unfold aK; omega,by unfold aK; omega⟩,fun hz=>absurd hz (by omega),fun _ m=>?_⟩
 have hrep:List.replicate g.ax.length [V.val (Value.int IntKind.u32 0)]=bY (List.replicate g.ax.length (0:BV)):=by simp
 rw[hrep]
 refine aE.pure (Gs (g.az.length:Int)) (by kernel_rfl) ?_
 unfold jL
 have hz0:(List.replicate g.ax.length (0:BV)).length=g.ax.length:=by simp
 generalize List.replicate g.ax.length (0:BV)=z at hz0 ⊢
 have hz1:z[g.start.toNat]?=some (z.getD g.start.toNat 0):=getD_some (by omega)
 simp (disch:=omega) only [↓wr,seval,wq,ah,ag,ak,aa,ab,af,ai,ae,r6 hz1]
 refine ⟨by omega,by simp[hz0]; omega,?_⟩
 have hst:bY (z.set g.start.toNat (eo g.az.length))=(bY z).set g.start.toNat [gw (eo g.az.length)]:=Vp
 have h0l:(z.set g.start.toNat (eo g.az.length)).length=g.ax.length:=by simp[hz0]
 generalize z.set g.start.toNat (eo g.az.length)=fs0 at h0l hst ⊢
 refine bc.intro (fun k T H'=>∃ (i:Nat) (fs:List BV),i+k=g.ax.length∧fs.length=g.ax.length∧iter (mU g null first) k fs=iter (mU g null first) g.ax.length fs0∧T 1=.aO (au g) 0∧T 3=bI null∧T 4=lD first∧T 5=.sl m 0 g.ax.length 1∧H' m=.arr 1 (bY fs)∧T 6=gi i) g.ax.length
  ⟨0,fs0,by omega,h0l,rfl,rfl,rfl,rfl,rfl,by rw[hst]; simp[View.set],rfl⟩ ?_
 rintro k T H' ⟨i,fs,hk,hlen,hi,t1,t3,t4,t5,tm,t6⟩
 simp (disch:=omega) only [↓wr,seval,wq,ah,ag,ak,aa,ab,af,ai,ae,lM,t1,t3,t4,t5,t6,au,encS]
 refine av.dec (fun hc=>?_) (fun hc=>?_)
 ·simp (disch:=omega) only [↓wr,seval,wq,ah,ag,ak,aa,ab,af,ai,ae,t1,t3,t4,t5,t6]
  refine bc.up g.rules.length (fun j T H'=>T 1=.aO (au g) 0∧T 3=bI null∧T 4=lD first∧T 5=.sl m 0 g.ax.length 1∧H' m=.arr 1 (bY ((g.rules.take j).foldl (iT null first) fs))∧T 6=gi i∧T 7=gi j)
   ⟨t1,t3,t4,t5,tm,t6,rfl⟩ ?_
  clear t1 t3 t4 tm t5 t6
  rintro j k2 T2 H2 hk2 ⟨t1,t3,t4,t5,tm,t6,t7⟩
  simp (disch:=omega) only [↓wr,seval,wq,ah,ag,ak,aa,ab,af,ai,ae,lX,t1,t3,t4,t5,t6,t7,au]
  refine av.dec (fun hd=>?_) (fun hd=>?_)
  ·have hru:=hf.rules
   have hg2:g.rules[j]?=some (g.rules[j]'(by omega)):=T4 (by omega)
   have htk:g.rules.take (j+1)=g.rules.take j ++ [g.rules[j]'(by omega)]:=by rw[Uw,hg2]; rfl
   have hmem:g.rules[j]'(by omega)∈g.rules:=Ud _
   generalize g.rules[j]'(by omega)=R at hg2 hmem htk
   have hfl':((g.rules.take j).foldl (iT null first) fs).length=g.ax.length:=by rw[p8]; exact hlen
   have happ:=Ib null first (g.rules.take j) R fs
   rw[← htk] at happ
   generalize (g.rules.take j).foldl (iT null first) fs=fs' at tm hfl' happ
   obtain ⟨hl1,hl2⟩:=hf.left R hmem
   obtain ⟨_,_,hs1,hs2⟩:=hg.aH R hmem
   have hr6:=hf.right R hmem
   simp (disch:=omega) only [↓wr,seval,wq,ah,ag,ak,aa,ab,af,ai,ae,t1,t3,t4,t5,t6,t7,au,encS,aP,T8,hg2,Ue]
   intro b hb
   have hbm:¬ m=b:=by rintro rfl; rw[tm] at hb; simp at hb
   rw[set_set]
   refine ⟨rfl,bc.up R.right.length (fun x T H'=>T 1=.aO (au g) 0∧T 3=bI null∧T 4=lD first∧T 5=.sl m 0 g.ax.length 1∧H' m=.arr 1 (bY ((List.range x).foldl (fY null first R) fs'))∧H' b=.arr 3 [aP R]∧T 6=gi i∧T 7=gi j∧T 8=.ptr b 0 0∧T 9=gi x)
    ⟨t1,t3,t4,t5,by simp[View.set,hbm]; exact tm,by simp[View.set,aP],t6,t7,rfl,rfl⟩ ?_⟩
   clear t1 t3 t4 tm t5 t6 t7 hb
   rintro x k3 T3 H3 hk3 ⟨t1,t3,t4,t5,tm,tb,t6,t7,t8,t9⟩
   simp (disch:=omega) only [↓wr,seval,wq,ah,ag,ak,aa,ab,af,ai,ae,lV,t1,t3,t4,t5,t6,t7,t8,t9,tb,aP,encI]
   refine av.dec (fun he=>?_) (fun he=>?_)
   ·have hy:R.right[x]?=some (R.right.getD x 0):=getD_some (by omega)
    have hym:=Ub hy
    have hsy:=hs2 _ hym
    have hfl3:((List.range x).foldl (fY null first R) fs').length=g.ax.length:=by rw[vB]; exact hfl'
    have happ2:=Ld null first R x fs'
    generalize (List.range x).foldl (fY null first R) fs'=fx at tm hfl3 happ2
    rw[fY] at happ2
    generalize R.right.getD x 0=y at hy hym hsy happ2
    simp (disch:=omega) only [↓wr,seval,wq,ah,ag,ak,aa,ab,af,ai,ae,t1,t3,t4,t5,t6,t7,t8,t9,tb,aP,encI,T8,hy,Ue]
    refine av.dec (fun hn=>?_) (fun hn=>?_)
    ·rw[T9 hn] at happ2
     have hng:=hf.neg hmem hym hn
     unfold cp at hsy
     have hsl:=Bf (l:=R.right) (k:=x+1) (by omega)
     rw[show (((x+1:Nat):Int))=(x:Int)+1 by omega] at hsl
     have hof:=IQ (R.right.drop (x+1)) null first (fx.getD R.left.toNat 0) (by unfold aY at hs1 ⊢; simp; omega) fun s hs=>⟨hs2 s (List.mem_of_mem_drop hs),fun hn=>by have:=hf.neg hmem (List.mem_of_mem_drop hs) hn; omega⟩
     have hg1:fx[R.left.toNat]?=some (fx.getD R.left.toNat 0):=getD_some (by omega)
     have hg3:fx[(-1 - y).toNat]?=some (fx.getD (-1 - y).toNat 0):=getD_some (by omega)
     simp (disch:=omega) only [↓wr,seval,wq,ah,ag,ak,aa,ab,af,ai,ae,t1,t3,t4,t5,t6,t7,t8,t9,tb,tm,aP,encI,T8,hy,Ue,hsl,r6 hg1,r6 hg3]
     refine ⟨by omega,by omega,by omega,by omega,aE.pure hof (by kernel_rfl) ?_⟩
     simp (disch:=omega) only [↓wr,seval,wq,ah,ag,ak,aa,ab,af,ai,ae,t1,t3,t4,t5,t6,t7,t8,t9,qO,tm,r6 hg3]
     have hmb:¬ b=m:=by rintro rfl; rw[tm] at tb; simp[bY] at tb
     refine ⟨by omega,by first | omega | (simp; omega),aN hk3 (by omega) ⟨t1,t3,t4,t5,?_,by simp[View.set,hmb]; exact tb,t6,t7,t8,rfl⟩⟩
     rw[happ2]
     simp[View.set,bY,Vp]
     rfl
    ·rw[T6 hn] at happ2
     simp (disch:=omega) only [↓wr,seval,wq,ah,ag,ak,aa,ab,af,ai,ae,t1,t3,t4,t5,t6,t7,t8,t9]
     exact aN hk3 (by omega) ⟨t1,t3,t4,t5,by rw[happ2]; exact tm,tb,t6,t7,t8,rfl⟩
   ·have hxe:x=R.right.length:=by omega
    subst hxe
    simp (disch:=omega) only [↓wr,seval,wq,ah,ag,ak,aa,ab,af,ai,ae,t1,t3,t4,t5,t6,t7]
    exact aN hk2 (by omega) ⟨t1,t3,t4,t5,by rw[happ,iT]; exact tm,t6,rfl⟩
  ·rw[Uo (by omega)] at tm
   simp (disch:=omega) only [↓wr,seval,wq,ah,ag,ak,aa,ab,af,ai,ae,t1,t3,t4,t5,t6]
   obtain ⟨q,rfl⟩:∃ q,k=q+1:=⟨k - 1,by omega⟩
   exact ⟨q,by omega,i+1,_,by omega,by rw[mU,p8]; exact hlen,hi,rfl,tm,rfl⟩
 ·simp (disch:=omega) only [↓wr,seval,wq,ah,ag,ak,aa,ab,af,ai,ae,t5]
  have:k=0:=by omega
  subst this
  rintro h' rfl
  rw[← hi,← hlen]
  exact El (.inr ⟨m,by simp[iter],tm⟩)
section
variable {g:aw} {a:List aT}
theorem RF (k:Nat):bL g ⟨k,((aB g k).right.length:Nat)⟩=(0,false):=by
 have hrt:aM g (k:Int)=(aB g k).right:=by rw[aM,T6 (by omega)]
 unfold bL; simp only[hrt,if_true]
theorem Qx {x:aI} (hx:cq g x) (hn:(bL g x).2=false) (h0:0≤x.aH):∃ k:Nat,k < g.rules.length∧x=⟨k,((aB g k).right.length:Nat)⟩:=by
 obtain ⟨k,hk⟩:∃ k:Nat,x.aH=k:=⟨x.aH.toNat,by omega⟩
 have hkl:k < g.rules.length:=by have:=hx.1; omega
 refine ⟨k,hkl,?_⟩
 have hrt:aM g (k:Int)=(aB g k).right:=by rw[aM,T6 (by omega)]
 unfold bL at hn
 rw[hk,hrt] at hn
 split at hn
 ·rename_i h
  cases x
  simp only at hk h
  rw[hk,h]
 ·simp at hn
theorem FF (hA:ca g a) {i:Nat} (hi:i < a.length) {x:eP} : x∈gK g a i↔∃ k:Nat,k < g.rules.length∧(⟨k,((aB g k).right.length:Nat)⟩:aI)∈iw g a i∧x=⟨k,uo g a i ⟨k,((aB g k).right.length:Nat)⟩⟩:=by
 have hcl:(gL g a).getD i []=iw g a i:=by
  unfold gL iw
  simp[T0,T4 hi]
 rw[gK,hcl,Vd]
 constructor
 ·rintro ⟨y,hy,h⟩
  split at h
  ·rename_i hc
   obtain ⟨k,hk,rfl⟩:=Qx (hA.has hi hy) hc.1 hc.2
   exact ⟨k,hk,hy,by simpa using h.symm⟩
  ·simp at h
 ·rintro ⟨k,hk,hy,rfl⟩
  exact ⟨_,hy,by rw[T9 ⟨by rw[RF],by simp only; omega⟩]⟩
theorem Dr {i k t:Nat} (ht:t < 32):(uo g a i ⟨k,((aB g k).right.length:Nat)⟩).getLsbD t=true↔oM g (aA g false) a (gL g a) i ⟨k,((aB g k).right.length:Nat)⟩ t:=by
 rw[uo,Au _ 32 t (Ug _)]
 simp[ht]
theorem N0 (hA:ca g a) (hr:isRed g=true) {i:Nat} (hi:i < a.length) {x:eP} (hx:x∈gK g a i) :
  (0≤x.aH∧x.aH < g.rules.length)∧x.set≠0∧nB x.set ((fG g (aA g false)).getD (aB g x.aH).left.toNat 0):=by
 obtain ⟨k,hk,hm,rfl⟩:=(FF hA hi).1 hx
 have hR:g.rules[k]?=some (aB g k):=by unfold aB; exact getD_some hk
 refine ⟨by simp only; omega,fun e=>?_,fun t ht=>?_⟩
 ·obtain ⟨t,ht,hL⟩:=K0 hA hr (i+1) i (by omega) hi _ hm
  have:=(Dr ht).2 hL
  simp only at e
  rw[e] at this
  simp at this
 ·have hl:t < 32:=BitVec.lt_of_getLsbD ht
  obtain ⟨p,q1,q2,q3⟩:=(Ge hA hr hk).1 ((Dr hl).1 ht)
  exact Lj hA q3 (hA.cD.left _ (Ub hR)).1 q2
theorem Rv (hA:ca g a) {p k:Nat} (hk:k < g.rules.length) (hE:dJ a p (-1 - (aB g k).left)):∃ q,q < a.length∧gZ a p (aB g k).right q∧(⟨k,((aB g k).right.length:Nat)⟩:aI)∈iw g a q:=by
 have hR:g.rules[k]?=some (aB g k):=by unfold aB; exact getD_some hk
 have hrt:aM g (k:Int)=(aB g k).right:=by rw[aM,T6 (by omega)]
 have hm:=ji hA (ed hE) (hA.cD.left _ (Ub hR)).1 hk rfl hE
 obtain ⟨q,q1,q2,q3⟩:=hA.fwd k (aB g k).right 0 p (ed hE) hm ⟨[],by rw[hrt]; simp⟩
 rw[U3] at q3
 exact ⟨q,q1,q2,q3⟩
theorem HW (hA:ca g a) (hr:isRed g=true) {B t:Nat} (hB:B < g.ax.length) (h:((fG g (aA g false)).getD B 0).getLsbD t=true):∃ i,i < a.length∧∃ x∈gK g a i,(aB g x.aH).left=B∧x.set.getLsbD t=true:=by
 obtain ⟨p,hE,hF⟩:=KE hA hr h
 have ht:t < 32:=BitVec.lt_of_getLsbD h
 have hd:=sw (fv hr) B (DR hr B hB)
 obtain ⟨k,hk,hl⟩:∃ k,k < g.rules.length∧(aB g k).left=B:=by
  generalize hb:((B:Nat):Int)=b at hd
  cases hd with
  | mk R hR _ =>
   obtain ⟨k,hk,e⟩:=U6.1 hR
   refine ⟨k,hk,?_⟩
   unfold aB
   rw[T0,Uq,T4 hk,e]; rfl
 rw[← hl] at hE hF
 obtain ⟨q,q1,q2,q3⟩:=Rv hA hk hE
 exact ⟨q,q1,_,(FF hA q1).2 ⟨k,hk,q3,rfl⟩,hl,(Dr ht).2 ((Ge hA hr hk).2 ⟨p,q2,hE,hF⟩)⟩
end
theorem J1 {α:Type} {l:List α} {i:Nat} {d:α} (h:i < l.length):l.getD i d=l[i]:=by simp[T0,h]
def ij (g:aw) (z:List BV) (x:eP):List BV:=z.set (aB g x.aH).left.toNat (z.getD (aB g x.aH).left.toNat 0 ||| x.set)
theorem tU (g:aw):∀ (l:List eP) (z:List BV),(l.foldl (ij g) z).length=z.length
 | [],_=>rfl
 | x :: l,z=>by rw[Uu,tU g l]; simp[ij]
theorem JT {g:aw} {B t:Nat} : ∀ (l:List eP) (z:List BV),B < z.length→(((l.foldl (ij g) z).getD B 0).getLsbD t=true↔(z.getD B 0).getLsbD t=true∨∃ x∈l,(aB g x.aH).left.toNat=B∧x.set.getLsbD t=true)
 | [],z,_=>by simp
 | x :: l,z,h=>by
  rw[Uu,JT l _ (by simp[ij]; exact h),ij,fI]
  simp only[Uk,exists_eq_or_imp]
  split
  ·rename_i e
   rw[UU,U8,e.1]
   simp only[true_and]
   exact or_assoc
  ·rename_i e
   have:¬ (aB g x.aH).left.toNat=B:=fun q=>e ⟨q,by omega⟩
   simp[this]
theorem Lh {g:aw} {a:List aT} (hA:ca g a) (hr:isRed g=true):((List.range a.length).flatMap (gK g a)).foldl (ij g) (List.replicate g.ax.length 0)=fG g (aA g false):=by
 refine List.ext_getElem (by rw[tU,pO]; simp) fun B h1 h2=>?_
 have hB:B < g.ax.length:=by rw[pO] at h2; exact h2
 rw[← J1 (d:=(0:BV)) h1,← J1 (d:=(0:BV)) h2]
 refine Mm fun t _=>?_
 rw[Vc,JT _ _ (by simpa using hB)]
 constructor
 ·rintro (h | ⟨x,hx,hl,hb⟩)
  ·simp only[T0,Vx,hB,if_true] at h
   simp at h
  ·simp only[VQ,UR] at hx
   obtain ⟨i,hi,hx⟩:=hx
   rw[← hl]
   exact (N0 hA hr hi hx).2.2 t hb
 ·intro h
  obtain ⟨i,hi,x,hx,hl,hb⟩:=HW hA hr hB h
  exact .inr ⟨x,VQ.2 ⟨i,UR.2 hi,hx⟩,by omega,hb⟩
theorem QX {g:aw} (h:(cy g).2=0):isRed g=true∧ca g (cy g).1∧(cy g).1.length≤300:=by
 have hr:isRed g=true:=by
  rcases yF g with ⟨_,hr⟩ | ⟨h2,hr⟩ | ⟨h2,hr⟩
  ·exact hr
  ·exact hr
  ·rw[h2] at h; simp at h
 have hf:=nO hr
 obtain ⟨o1,o2,o3⟩:=GK hf h
 exact ⟨hr,⟨hf,o1,Bx hf h,CB hf h,o2⟩,o3⟩
abbrev eL:Int:=1073741824
inductive iU (E:Nat→List Nat):Nat→Nat→Prop
 | refl {x:Nat} : iU E x x
 | step {x y z:Nat} : y∈E x→iU E y z→iU E x z
theorem iU.trans {E:Nat→List Nat} {x y z:Nat} (h:iU E x y) (k:iU E y z):iU E x z:=by
 induction h with
 | refl=>exact k
 | step h1 _ ih=>exact .step h1 (ih k)
def lg (E:Nat→List Nat) (S0:Nat→BV) (z t:Nat):Prop:=∃ w,iU E z w∧(S0 w).getLsbD t=true
theorem lg.up {E:Nat→List Nat} {S0:Nat→BV} {x y t:Nat} (h:lg E S0 y t) (k:iU E x y):lg E S0 x t:=by
 obtain ⟨w,h1,h2⟩:=h
 exact ⟨w,k.trans h1,h2⟩
def jq {α:Type} (f:Nat→α) (x:Nat) (v:α):Nat→α:=fun z=>if z=x then v else f z
theorem eD {α:Type} {f:Nat→α} {x:Nat} {v:α} : jq f x v x=v:=by simp[jq]
theorem lN {α:Type} {f:Nat→α} {x z:Nat} {v:α} (h:z≠x):jq f x v z=f z:=by simp[jq,h]
structure ow (n:Nat) (E:Nat→List Nat) (S0:Nat→BV) (D:Nat→Int) (St:List Nat) (S:Nat→BV):Prop where
 nd:St.Nodup
 lt:∀ z∈St,z < n
 zero:∀ z,z < n→D z=0→S z=S0 z∧z ∉ St
 Ec:∀ z,z < n→D z=eL→z ∉ St∧(∀ t,lg E S0 z t→(S z).getLsbD t=true)∧∀ y∈E z,D y=eL
 on:∀ z,z < n→D z≠0→D z≠eL→∃ p:Nat,St[p]?=some z∧1≤D z∧D z≤(p:Int)+1∧∃ w,St[(D z - 1).toNat]?=some w∧iU E z w
 sound:∀ z t,z < n→(S z).getLsbD t=true→lg E S0 z t
 base:∀ z,z < n→nB (S0 z) (S z)
def JB (D:Nat→Int) (St:List Nat) (S:Nat→BV) (z y:Nat):Prop:=(D y=eL∧nB (S y) (S z))∨∃ q:Nat,St[q]?=some y∧D z≤(q:Int)+1
def Lm (E:Nat→List Nat) (D:Nat→Int) (St:List Nat) (S:Nat→BV) (z:Nat):Prop:=(∃ p:Nat,St[p]?=some z∧D z < (p:Int)+1)∧∀ y∈E z,JB D St S z y
def yW (n:Nat) (E:Nat→List Nat) (S0:Nat→BV) (D:Nat→Int) (St:List Nat) (S:Nat→BV) (x:Nat) (D':Nat→Int) (St':List Nat) (S':Nat→BV):Prop :=
 ow n E S0 D' St' S'∧(∀ z,D z≠0→D' z=D z∧S' z=S z)∧((St'=St∧D' x=eL)∨∃ T,St'=St ++ x :: T∧D' x≤St.length∧∀ z∈x :: T,Lm E D' St' S' z∧D' x≤D' z∧nB (S' z) (S' x))
structure gu (n:Nat) (E:Nat→List Nat) (S0:Nat→BV) (D0:Nat→Int) (St:List Nat) (S1:Nat→BV) (x:Nat) (done:List Nat) (D:Nat→Int) (T:List Nat) (S:Nat→BV):Prop where
 g:ow n E S0 D (St ++ x :: T) S
 old:∀ z,D0 z≠0→D z=D0 z∧S z=S1 z
 own:1≤D x∧D x≤(St.length:Int)+1
 fin:∀ z∈T,Lm E D (St ++ x :: T) S z∧D x≤D z∧nB (S z) (S x)
 Ny:∀ y∈done,JB D (St ++ x :: T) S x y
section
variable {n:Nat} {E:Nat→List Nat} {S0:Nat→BV} {D0 D:Nat→Int} {St T:List Nat} {S1 S:Nat→BV} {x:Nat} {done:List Nat}
theorem BZ (h:St.Nodup) (k:∀ z∈St,z < n):St.length≤n:=by
 have:∀ (l r:List Nat),l.Nodup→(∀ z∈l,z∈r)→l.length≤r.length:=by
  intro l
  induction l with
  | nil=>intro r _ _; simp
  | cons a l ih =>
   intro r hn hs
   rw[U1] at hn
   obtain ⟨r1,r2,rfl⟩:=List.append_of_mem (hs a (by simp))
   have:=ih (r1 ++ r2) hn.2 fun z hz=>by
    have h1:=hs z (by simp[hz])
    rw[Uy,Uk] at h1
    rw[Uy]
    rcases h1 with h1 | h1 | h1
    ·exact .inl h1
    ·exact absurd (h1 ▸ hz) hn.1
    ·exact .inr h1
   simp only[UX,Um] at this ⊢
   omega
 have h1:=this St (List.range n) h fun z hz=>UR.2 (k z hz)
 simpa using h1
theorem ow.ne (_:(n:Int) < eL) (h:ow n E S0 D St S) {z:Nat} (hz:z∈St):D z≠0∧D z≠eL:=by
 have hl:=h.lt z hz
 refine ⟨fun e=>(h.zero z hl e).2 hz,fun e=>(h.Ec z hl e).1 hz⟩
theorem gu.start (_:(n:Int) < eL) (h:ow n E S0 D St S) (hx:x < n) (h0:D x=0):gu n E S0 D St S x [] (jq D x ((St.length:Int)+1)) [] S:=by
 have hxs:=(h.zero x hx h0).2
 have hl:=BZ (St:=x :: St) (n:=n) (U1.2 ⟨hxs,h.nd⟩) fun z hz=>by
  rcases Uk.1 hz with rfl | hz
  ·exact hx
  ·exact h.lt z hz
 simp only[Um] at hl
 refine ⟨⟨?_,fun z hz=>?_,fun z hz h1=>?_,fun z hz h1=>?_,fun z hz h1 h2=>?_,h.sound,h.base⟩,fun z hz=>⟨lN fun e=>hz (by rw[e,h0]),rfl⟩,by rw[eD]; omega,by simp,by simp⟩
 ·rw[UY]
  refine ⟨h.nd,by simp,fun a ha b hb e=>?_⟩
  simp at hb
  exact hxs (by rw[← hb,← e]; exact ha)
 ·rcases Uy.1 hz with hz | hz
  ·exact h.lt z hz
  ·simp at hz; subst hz; exact hx
 ·by_cases e:z=x
  ·rw[e,eD] at h1; omega
  ·rw[lN e] at h1
   obtain ⟨k1,k2⟩:=h.zero z hz h1
   exact ⟨k1,by simp[k2,e]⟩
 ·by_cases e:z=x
  ·rw[e,eD] at h1; unfold eL at *; omega
  ·rw[lN e] at h1
   obtain ⟨k1,k2,k3⟩:=h.Ec z hz h1
   refine ⟨by simp[k1,e],k2,fun y hy=>?_⟩
   have:=k3 y hy
   rw[lN fun e2=>by rw[e2,h0] at this; unfold eL at this; omega]; exact this
 ·by_cases e:z=x
  ·subst e
   rw[eD]
   refine ⟨St.length,by simp,by omega,Int.le_refl _,z,?_,.refl⟩
   rw[show ((St.length:Int)+1 - 1).toNat=St.length by omega]; simp
  ·rw[lN e] at h1 h2 ⊢
   obtain ⟨p,k1,k2,k3,w,k4,k5⟩:=h.on z hz h1 h2
   exact ⟨p,by rw[Us (Uj.1 k1).1]; exact k1,k2,k3,w,by rw[Us (Uj.1 k4).1]; exact k4,k5⟩
theorem gu.put (hE:∀ x,x < n→∀ y∈E x,y < n) (hn:(n:Int) < eL) (hx:x < n) {y:Nat} (hy:y∈E x) (hg:ow n E S0 D (St ++ x :: T) S) (hold:∀ z,D0 z≠0→D z=D0 z∧S z=S1 z) (h0:D0 x=0) (hown:1≤D x∧D x≤(St.length:Int)+1) (hy0:D y≠0)
  (hfin:∀ z∈T,Lm E D (St ++ x :: T) S z∧(D x≤D z∧nB (S z) (S x)∨D y≤D z∧nB (S z) (S y))) (hsuc:∀ z∈done,JB D (St ++ x :: T) S x z) :
  gu n E S0 D0 St S1 x (done ++ [y]) (jq D x (min (D x) (D y))) T (jq S x (S x ||| S y)):=by
 have hyn:=hE x hx y hy
 have hxm:x∈St ++ x :: T:=by simp
 have hxne:=hg.ne hn hxm
 have hD:∀ z,z≠x→jq D x (min (D x) (D y)) z=D z:=fun z e=>lN e
 have hS:∀ z,z≠x→jq S x (S x ||| S y) z=S z:=fun z e=>lN e
 have hle:jq D x (min (D x) (D y)) x≤D x:=by rw[eD]; omega
 have hSle:nB (S x) (jq S x (S x ||| S y) x):=fun t ht=>by rw[eD,UU,ht]; rfl
 have hSle2:nB (S y) (jq S x (S x ||| S y) x):=fun t ht=>by rw[eD,UU,ht,Bool.or_true]
 have hSup:∀ z,nB (S z) (jq S x (S x ||| S y) z):=fun z=>by
  by_cases e:z=x
  ·rw[e]; exact hSle
  ·rw[hS z e]; exact fun _ h=>h
 have hfarx:∀ z,D z=eL→z≠x:=fun z h e=>hxne.2 (by rw[← e]; exact h)
 have hyD:1≤D y∧((D y=eL)∨∃ p:Nat,(St ++ x :: T)[p]?=some y∧D y≤(p:Int)+1∧∃ w,(St ++ x :: T)[(D y - 1).toNat]?=some w∧iU E y w):=by
  by_cases hf:D y=eL
  ·exact ⟨by rw[hf]; decide,.inl hf⟩
  ·obtain ⟨p,k1,k2,k3,k4⟩:=hg.on y hyn hy0 hf
   exact ⟨k2,.inr ⟨p,k1,k3,k4⟩⟩
 obtain ⟨p0,q1,q2,q3,q4⟩:=hg.on x hx hxne.1 hxne.2
 have hDx:D x < eL:=by
  have:=BZ hg.nd hg.lt
  have:=(Uj.1 q1).1
  omega
 refine ⟨⟨hg.nd,hg.lt,fun z hz h1=>?_,fun z hz h1=>?_,fun z hz h1 h2=>?_,fun z t hz h1=>?_,fun z hz t h1=>hSup z t (hg.base z hz t h1)⟩,fun z hz=>?_,?_,fun z hz=>?_,fun z hz=>?_⟩
 ·by_cases e:z=x
  ·rw[e,eD] at h1; omega
  ·rw[hD z e] at h1
   rw[hS z e]; exact hg.zero z hz h1
 ·by_cases e:z=x
  ·rw[e,eD] at h1
   have:=hg.ne hn hxm
   omega
  ·rw[hD z e] at h1
   obtain ⟨k1,k2,k3⟩:=hg.Ec z hz h1
   rw[hS z e]
   exact ⟨k1,k2,fun u hu=>by rw[hD u (hfarx u (k3 u hu))]; exact k3 u hu⟩
 ·by_cases e:z=x
  ·subst e
   rw[eD]
   rcases Int.le_total (D z) (D y) with hc | hc
   ·rw[Int.min_eq_left hc]
    exact ⟨p0,q1,q2,q3,q4⟩
   ·rw[Int.min_eq_right hc]
    rcases hyD.2 with hf | ⟨p,k1,k3,w,k4,k5⟩
    ·rw[hf] at hc; omega
    ·exact ⟨p0,q1,hyD.1,by omega,w,k4,.step hy k5⟩
  ·rw[hD z e] at h1 h2 ⊢
   exact hg.on z hz h1 h2
 ·by_cases e:z=x
  ·subst e
   rw[eD,UU,U8] at h1
   rcases h1 with h1 | h1
   ·exact hg.sound z t hz h1
   ·exact (hg.sound y t hyn h1).up (.step hy .refl)
  ·rw[hS z e] at h1; exact hg.sound z t hz h1
 ·have e:z≠x:=fun e=>hz (by rw[e]; exact h0)
  rw[hD z e,hS z e]; exact hold z hz
 ·rw[eD]; omega
 ·have hzne:z≠x:=fun e=>by
   have h1:=hg.nd
   rw[UY] at h1
   exact (U1.1 h1.2.1).1 (e ▸ hz)
  obtain ⟨⟨k1,k2⟩,k3⟩:=hfin z hz
  rw[hD z hzne,hS z hzne]
  refine ⟨⟨by rw[hD z hzne]; exact k1,fun u hu=>?_⟩,?_,?_⟩
  ·rcases k2 u hu with ⟨m1,m2⟩ | ⟨q,m1,m2⟩
   ·left
    rw[hD u (hfarx u m1),hS u (hfarx u m1),hS z hzne]; exact ⟨m1,m2⟩
   ·right
    rw[hD z hzne]; exact ⟨q,m1,m2⟩
  ·rw[eD]
   rcases k3 with k3 | k3 <;> omega
  ·rcases k3 with k3 | k3
   ·exact fun t ht=>hSle t (k3.2 t ht)
   ·exact fun t ht=>hSle2 t (k3.2 t ht)
 ·rcases Uy.1 hz with hz | hz
  ·rcases hsuc z hz with ⟨m1,m2⟩ | ⟨q,m1,m2⟩
   ·left
    rw[hD z (hfarx z m1),hS z (hfarx z m1)]
    exact ⟨m1,fun t ht=>hSle t (m2 t ht)⟩
   ·right
    exact ⟨q,m1,by omega⟩
  ·rw[UT] at hz
   subst hz
   rcases hyD.2 with hf | ⟨p,k1,k3,_⟩
   ·left
    rw[hD z (hfarx z hf),hS z (hfarx z hf)]
    exact ⟨hf,hSle2⟩
   ·right
    exact ⟨p,k1,by rw[eD]; omega⟩
theorem gu.PO (hE:∀ x,x < n→∀ y∈E x,y < n) (hn:(n:Int) < eL) (hx:x < n) (h0:D0 x=0) (h:gu n E S0 D0 St S1 x done D T S) {y:Nat} (hy:y∈E x) (hy0:D y≠0) :
  gu n E S0 D0 St S1 x (done ++ [y]) (jq D x (min (D x) (D y))) T (jq S x (S x ||| S y)) :=
 gu.put hE hn hx hy h.g h.old h0 h.own hy0 (fun z hz=>⟨(h.fin z hz).1,.inl (h.fin z hz).2⟩) h.Ny
theorem JN {l r:List Nat} {p z:Nat} (h:l[p]?=some z):(l ++ r)[p]?=some z:=by
 rw[Us (Uj.1 h).1]; exact h
theorem gu.AN (hE:∀ x,x < n→∀ y∈E x,y < n) (hn:(n:Int) < eL) (hx:x < n) (h0:D0 x=0) (h:gu n E S0 D0 St S1 x done D T S) {y:Nat} (hy:y∈E x) (_:D y=0) {D':Nat→Int} {St':List Nat} {S':Nat→BV} (hv:yW n E S0 D (St ++ x :: T) S y D' St' S') :
  ∃ T',St'=St ++ x :: T'∧gu n E S0 D0 St S1 x (done ++ [y]) (jq D' x (min (D' x) (D' y))) T' (jq S' x (S' x ||| S' y)):=by
 obtain ⟨g',hold,hc⟩:=hv
 have hxm:x∈St ++ x :: T:=by simp
 have hxne:=h.g.ne hn hxm
 obtain ⟨x1,x2⟩:=hold x hxne.1
 have hdd:∀ z,D0 z≠0→D' z=D0 z∧S' z=S1 z:=fun z hz=>by
  obtain ⟨k1,k2⟩:=h.old z hz
  obtain ⟨k3,k4⟩:=hold z (by rw[k1]; exact hz)
  exact ⟨k3.trans k1,k4.trans k2⟩
 have hok:∀ (r:List Nat) (z u:Nat),D z≠0→JB D (St ++ x :: T) S z u→JB D' (St ++ x :: T ++ r) S' z u:=fun r z u hz hu=>by
  obtain ⟨z1,z2⟩:=hold z hz
  rcases hu with ⟨m1,m2⟩ | ⟨q,m1,m2⟩
  ·left
   obtain ⟨u1,u2⟩:=hold u (by rw[m1]; decide)
   rw[u1,u2,z2]; exact ⟨m1,m2⟩
  ·right
   exact ⟨q,JN m1,by rw[z1]; exact m2⟩
 have hT:∀ z∈T,D z≠0:=fun z hz=>(h.g.ne hn (by simp[hz])).1
 have hfin:∀ (r:List Nat),∀ z∈T,Lm E D' (St ++ x :: T ++ r) S' z∧(D' x≤D' z∧nB (S' z) (S' x)):=fun r z hz=>by
  obtain ⟨⟨⟨p,p1,p2⟩,k2⟩,k3,k4⟩:=h.fin z hz
  obtain ⟨z1,z2⟩:=hold z (hT z hz)
  exact ⟨⟨⟨p,JN p1,by rw[z1]; exact p2⟩,fun u hu=>hok r z u (hT z hz) (k2 u hu)⟩,by rw[x1,z1]; exact k3,by rw[x2,z2]; exact k4⟩
 rcases hc with ⟨rfl,hf⟩ | ⟨Ty,rfl,hle,hall⟩
 ·refine ⟨T,rfl,gu.put hE hn hx hy g' hdd h0 (by rw[x1]; exact h.own) (by rw[hf]; decide) (fun z hz=>?_) (fun z hz=>?_)⟩
  ·have:=hfin [] z hz
   rw[VB] at this
   exact ⟨this.1,.inl this.2⟩
  ·have:=hok [] x z hxne.1 (h.Ny z hz)
   rwa [VB] at this
 ·have e:St ++ x :: T ++ y :: Ty=St ++ x :: (T ++ y :: Ty):=by simp
  refine ⟨T ++ y :: Ty,e,?_⟩
  rw[e] at g' hall
  have hyne:=g'.ne hn (z:=y) (by simp)
  refine gu.put hE hn hx hy g' hdd h0 (by rw[x1]; exact h.own) hyne.1 (fun z hz=>?_) (fun z hz=>?_)
  ·rcases Uy.1 hz with hz | hz
   ·have:=hfin (y :: Ty) z hz
    rw[e] at this
    exact ⟨this.1,.inl this.2⟩
   ·exact ⟨(hall z hz).1,.inr (hall z hz).2⟩
  ·have:=hok (y :: Ty) x z hxne.1 (h.Ny z hz)
   rwa [e] at this
theorem gu.keep (h:gu n E S0 D0 St S1 x (E x) D T S) (hne:D x≠(St.length:Int)+1):yW n E S0 D0 St S1 x D (St ++ x :: T) S:=by
 have:=h.own
 refine ⟨h.g,h.old,.inr ⟨T,rfl,by omega,fun z hz=>?_⟩⟩
 rcases Uk.1 hz with rfl | hz
 ·exact ⟨⟨⟨St.length,by simp,by omega⟩,h.Ny⟩,Int.le_refl _,fun _ h=>h⟩
 ·exact h.fin z hz
theorem gu.pop (hE:∀ x,x < n→∀ y∈E x,y < n) (hn:(n:Int) < eL) (hx:x < n) (h0:∀ z∈x :: T,D0 z=0) (h:gu n E S0 D0 St S1 x (E x) D T S) (he:D x=(St.length:Int)+1) :
  yW n E S0 D0 St S1 x (fun z=>if z∈x :: T then eL else D z) St (fun z=>if z∈x :: T then S x else S z):=by
 have hg:=h.g
 have hmem:∀ z∈x :: T,z∈St ++ x :: T:=fun z hz=>VC _ hz
 have hnd:=hg.nd
 rw[UY] at hnd
 have hidx:∀ (q u:Nat),(St ++ x :: T)[q]?=some u→St.length≤q→u∈x :: T:=fun q u hq hl=>by
  rw[UH hl] at hq
  exact Ub hq
 have hsx:∀ z∈x :: T,nB (S z) (S x)∧D x≤D z∧∀ y∈E z,JB D (St ++ x :: T) S z y:=fun z hz=>by
  rcases Uk.1 hz with rfl | hz
  ·exact ⟨fun _ h=>h,Int.le_refl _,h.Ny⟩
  ·obtain ⟨k1,k2,k3⟩:=h.fin z hz
   exact ⟨k3,k2,k1.2⟩
 have hsucc:∀ z∈x :: T,∀ y∈E z,y∈x :: T∨(D y=eL∧nB (S y) (S x)):=fun z hz y hy=>by
  obtain ⟨k1,k2,k3⟩:=hsx z hz
  rcases k3 y hy with ⟨m1,m2⟩ | ⟨q,m1,m2⟩
  ·exact .inr ⟨m1,fun t ht=>k1 t (m2 t ht)⟩
  ·exact .inl (hidx q y m1 (by omega))
 have hfull:∀ z w:Nat,iU E z w→z∈x :: T→∀ t,(S0 w).getLsbD t=true→(S x).getLsbD t=true:=by
  intro z w hr
  induction hr with
  | @refl z =>
   intro hz t ht
   exact (hsx z hz).1 t (hg.base z (hg.lt z (hmem z hz)) t ht)
  | @step z y w hy hr ih =>
   intro hz t ht
   rcases hsucc z hz y hy with k | ⟨k1,k2⟩
   ·exact ih k t ht
   ·have hyn:=hE z (hg.lt z (hmem z hz)) y hy
    exact k2 t ((hg.Ec y hyn k1).2.1 t ⟨w,hr,ht⟩)
 have hback:∀ (m p z:Nat),p < m→(St ++ x :: T)[p]?=some z→z∈x :: T→iU E z x:=by
  intro m
  induction m with
  | zero=>intro p z h; omega
  | succ m ih =>
   intro p z hp hpz hz
   by_cases e:z=x
   ·rw[e]; exact .refl
   ·have hzT:z∈T:=(Uk.1 hz).resolve_left e
    obtain ⟨⟨⟨p1,k1,k2⟩,_⟩,k3,_⟩:=h.fin z hzT
    have hzn:=hg.lt z (hmem z hz)
    obtain ⟨z0,z1⟩:=hg.ne hn (hmem z hz)
    obtain ⟨p2,m1,m2,m3,w,m4,m5⟩:=hg.on z hzn z0 z1
    have hpp:p1=p:=(List.getElem?_inj (Uj.1 k1).1 hg.nd).1 (k1.trans hpz.symm)
    have hw:=hidx _ w m4 (by omega)
    exact m5.trans (ih (D z - 1).toNat w (by omega) m4 hw)
 have hfarO:∀ z,D z=eL→z ∉ x :: T:=fun z hz hm=>(hg.ne hn (hmem z hm)).2 hz
 refine ⟨⟨hnd.1,fun z hz=>hg.lt z (Vz _ hz),fun z hz h1=>?_,fun z hz h1=>?_,fun z hz h1 h2=>?_,fun z t hz h1=>?_,fun z hz t h1=>?_⟩,fun z hz=>?_,.inl ⟨rfl,by simp⟩⟩
 ·split at h1
  ·simp[eL] at h1
  ·rename_i hm
   rw[T6 hm]
   obtain ⟨k1,k2⟩:=hg.zero z hz h1
   exact ⟨k1,fun hs=>k2 (Vz _ hs)⟩
 ·by_cases hm:z∈x :: T
  ·rw[T9 hm]
   refine ⟨fun hs=>hnd.2.2 z hs z hm rfl,fun t ⟨w,k1,k2⟩=>hfull z w k1 hm t k2,fun y hy=>?_⟩
   split
   ·rfl
   ·rename_i hyn
    exact ((hsucc z hm y hy).resolve_left hyn).1
  ·rw[T6 hm] at h1 ⊢
   obtain ⟨k1,k2,k3⟩:=hg.Ec z hz h1
   refine ⟨fun hs=>k1 (Vz _ hs),k2,fun y hy=>?_⟩
   split
   ·rfl
   ·exact k3 y hy
 ·by_cases hm:z∈x :: T
  ·rw[T9 hm] at h2; exact absurd rfl h2
  ·rw[T6 hm] at h1 h2 ⊢
   obtain ⟨p,k1,k2,k3,w,k4,k5⟩:=hg.on z hz h1 h2
   have hp:p < St.length:=Nat.lt_of_not_le fun hp=>hm (hidx p z k1 hp)
   rw[Us hp] at k1
   rw[Us (by omega)] at k4
   exact ⟨p,k1,k2,k3,w,k4,k5⟩
 ·by_cases hm:z∈x :: T
  ·rw[T9 hm] at h1
   obtain ⟨p,hp,e⟩:=U6.1 (hmem z hm)
   exact (hg.sound x t hx h1).up (hback (p+1) p z (by omega) (by rw[T4 hp,e]) hm)
  ·rw[T6 hm] at h1
   exact hg.sound z t hz h1
 ·by_cases hm:z∈x :: T
  ·rw[T9 hm]
   exact (hsx z hm).1 t (hg.base z hz t h1)
  ·rw[T6 hm]; exact hg.base z hz t h1
 ·have hm:z ∉ x :: T:=fun hm=>hz (h0 z hm)
  simp only[T6 hm]; exact h.old z hz
theorem gu.fresh (hn:(n:Int) < eL) (hG:ow n E S0 D0 St S1) (h:gu n E S0 D0 St S1 x done D T S):∀ z∈x :: T,D0 z=0:=fun z hz=>by
 refine U7 fun hne=>?_
 have hm:z∈St ++ x :: T:=VC _ hz
 have hzn:=h.g.lt z hm
 have hnd:=h.g.nd
 rw[UY] at hnd
 by_cases hf:D0 z=eL
 ·exact (h.g.ne hn hm).2 ((h.old z hne).1.trans hf)
 ·obtain ⟨p,k1,_⟩:=hG.on z hzn hne hf
  exact hnd.2.2 z (Ub k1) z hz rfl
theorem ow.all (h:ow n E S0 D St S) (hd:∀ z,z < n→D z=eL) {z t:Nat} (hz:z < n):(S z).getLsbD t=true↔lg E S0 z t:=⟨h.sound z t hz,(h.Ec z hz (hd z hz)).2.1 t⟩
theorem yW.top {D':Nat→Int} {St':List Nat} {S':Nat→BV} (h:yW n E S0 D [] S x D' St' S') (hx:x < n):St'=[]∧D' x=eL:=by
 obtain ⟨g,_,⟨h1,h2⟩ | ⟨T,h1,h2,h3⟩⟩:=h
 ·exact ⟨h1,h2⟩
 ·exfalso
  simp only[UG] at h2
  obtain ⟨⟨⟨p,k1,k2⟩,_⟩,_⟩:=h3 x (by simp)
  have hm:x∈St':=Ub k1
  by_cases hz:D' x=0
  ·exact (g.zero x hx hz).2 hm
  ·by_cases hf:D' x=eL
   ·exact (g.Ec x hx hf).1 hm
   ·obtain ⟨_,_,k3,_⟩:=g.on x hx hz hf
    omega
end
section
variable {P:Program} {T:Env} {H:View} {K:V→View→Prop} {w:cE (T,H,K)} {t ty:TypeId}
theorem Pg {d:Operand} {id off len sz bytes s:Nat} {z:List V} {es:List (List V)} (he:te P t=some (sz,bytes,z)) (hd:ev T d=.sl id off len sz) (hH:H id=.arr s es) (hl:off+len≤es.length) (h0:len≠0)
  (hk:K (.bE []) (H.set id (.arr sz (gj es off (List.replicate len z))))):kb P (.call { callee:=.builtin .clear,args:=#[d],argTypes:=#[t] }) ty T H K w:=by
 obtain ⟨e,ti,hse,hi,hti,hz,hzl,hzok,hs0,rfl,rfl⟩:=pB he
 intro n _
 refine ⟨.bE [],.eW id (.arr ti.size (gj es off (List.replicate len z))),[id],?_,hk⟩
 simp only[sI,cm,oper]
 simp only[UE] at hzok
 simp[uO,hse,hd,cG,hti,h0,hH,hl,hs0,hz,hzl,hzok]
 exact hzok
end
theorem yH:∀ (xs A B:List (List V)),xs.length≤B.length→gj (A ++ B) A.length xs=A ++ xs ++ B.drop xs.length
 | [],A,B,_=>by simp[gj]
 | x :: r,A,[],h=>by simp at h
 | x :: r,A,b :: B,h=>by
  rw[gj,List.set_append_right _ _ (Ug _),Nat.sub_self,List.set_cons_zero]
  have:=yH r (A ++ [x]) B (by simpa using h)
  simpa using this
theorem x7 {id off k m:Nat} (hm:m≤k):dQ 2 (.sl id off k 2) (some (gi m)) none=some (.sl id (off+m) (k - m) 2,.none,[]):=by
 simp[dQ,bound,asNat,hm]
theorem GW {id off k m:Nat} (hm:m≤k):dQ 2 (.sl id off k 2) none (some (gi m))=some (.sl id off m 2,.none,[]):=by
 simp[dQ,bound,asNat,hm]
def fJ:SC :=
 .seq (.seq (ao [aj 29 5,aj 30 4,aV 31 30,bg 32 .lss 29 31]) <|
 .cond (.tmp 32) (.skip) (.exit 2)) <|
 .seq (.block 3 (.seq (ao [aj 35 4,aj 36 5,aR 37 2 35 36,bp 38 2 37,aj 39 4,aj 40 5,aQ 41 .sub 40 1,aR 42 2 39 41,bp 43 2 42,((some 44),.op (.old (.binOp .neq 33 (.tmp 38) (.tmp 43) 33) 4))]) <|
 .cond (.tmp 44) (.seq (ao [aj 45 0,aj 46 3,aj 47 4,aj 48 5,aR 49 2 47 48,bp 50 2 49,aR 51 2 45 46,(none,.op (.store 2 (.tmp 51) (.tmp 50)))]) <|
 ao [aj 52 3,aQ 53 .add 52 1,aj 3 53]) (.skip))) <|
 ao [aj 33 5,aQ 34 .add 33 1,aj 5 34]
def fH:SC :=
 .seq (.seq (ao [aj 10 3,aj 11 0,aV 12 11,bg 13 .lss 10 12]) <|
 .cond (.tmp 13) (.skip) (.exit 0)) <|
 .seq (.block 1 (.seq (ao [aj 16 0,aj 17 3,aR 18 2 16 17,bp 19 2 18,aj 20 0,aj 21 3,aQ 22 .sub 21 1,aR 23 2 20 22,bp 24 2 23,((some 25),.op (.old (.binOp .eql 33 (.tmp 19) (.tmp 24) 33) 4))]) <|
 .cond (.tmp 25) (.seq (ao [aj 26 0,aj 27 3,((some 28),.op (.slice 2 (.tmp 26) (some (.tmp 27)) none)),aj 4 28]) <|
 .seq (.seq (ao [bj 5 1]) <|
 .block 2 (.loop fJ)) <|
 .seq (ao [aj 54 0,aj 55 3,((some 56),.op (.slice 2 (.tmp 54) (some (.tmp 55)) none)),(none,.op (.old (.call { callee:=.builtin .clear,args:=#[(.tmp 56)],argTypes:=#[27] }) 0))]) <|
 .seq (ao [aj 57 0,aj 58 3,((some 59),.op (.slice 2 (.tmp 57) none (some (.tmp 58)))),aj 2 59]) <|
 .ret) (.skip))) <|
 ao [aj 14 3,aQ 15 .add 14 1,aj 3 15]
def gp:SF:=⟨.seq (ao [((some 2),.op (.bP (.val (.emp 1))))]) <|
 .seq (.seq (ao [aj 6 0,aV 7 6,aQ 8 .lss 7 2]) <|
 .cond (.tmp 8) (.seq (ao [aj 9 0,aj 2 9]) <|
 .ret) (.skip)) <|
 .seq (.seq (ao [bj 3 1]) <|
 .block 0 (.loop fH)) <|
 .seq (ao [aj 60 0,aj 2 60]) <|
 .ret,
 [.tmp 2],61⟩
theorem jv:aU Tryz.prog 114 []=some gp:=by kernel_rfl
def zI:SF:=⟨.seq (ao [((some 2),.op (.bP (.val (.emp 1))))]) <|
 .seq (ao [aj 3 0,pc 4 112 [(.tmp 3),(.val (.fn 113 [] []))]]) <|
 .seq (ao [aj 5 0,bD 6 114 [5],aj 2 6]) <|
 .ret,
 [.tmp 2],7⟩
theorem C6:aU Tryz.prog 64 []=some zI:=by kernel_rfl
theorem rM {l:List aI} {i:Nat} (h:i < l.length):(aS l).getD i []=[gi (l.getD i gQ).aH,gi (l.getD i gQ).dot]:=qc (getD_some h)
theorem K2 (l:List aI) (i j:Nat) (x d:aI) (hi:i < l.length):(l.set i x).getD j d=if i=j then x else l.getD j d:=by
 rw[fI]
 by_cases e:i=j
 ·rw[T9 ⟨e,hi⟩,T9 e]
 ·rw[T6 (fun h=>e h.1),T6 e]
set_option maxHeartbeats 16000000 in
theorem Kc (l:List aI) (hn:l.length≤100000) (u:V) (H:View) (ho:bf H u 2 (aS l)):aC Tryz.prog 114 [u] H fun r H'=>(∀ id,owner u≠some id→H' id=H id)∧bf H' r 2 (aS (fj l l.length))∧owner r=owner u:=by
 refine aC.cut (K:=fun r H'=>(H'=H∧r=u∧fj l l.length=l)∨∃ id rest,u=.sl id 0 l.length 2∧r=.sl id 0 (fj l l.length).length 2∧H'=H.set id (.arr 2 (aS (fj l l.length) ++ rest))) ?_ ?_
 rotate_left
 ·rintro r H' (⟨rfl,rfl,e⟩ | ⟨id,rest,rfl,rfl,rfl⟩)
  ·exact .inl ⟨fun _ _=>rfl,by rw[e]; exact ho,rfl⟩
  ·refine .inr ⟨id,2,aS (fj l l.length),rest,by simp[View.set],fun j hj=>?_,?_,rfl⟩
   ·rw[set_set]
    simp only[View.set]
    rw[T6 (fun e=>hj (by rw[e]; rfl))]
   ·rw[set_set]
    exact .inr ⟨id,by rw[bF],by simp[View.set]⟩
 refine aC.of mixed jv ?_
 have hlen:cG u=some l.length:=by rw[ho.len,bF]
 simp (disch:=omega) only [↓wr,seval,wq,ah,ag,ak,aa,ab,af,ai,ae,gp,hlen]
 refine av.dec (fun h2=>?_) (fun h2=>?_)
 ·simp (disch:=omega) only [↓wr,seval,wq,ah,ag,ak,aa,ab,af,ai,ae]
  left
  try refine ⟨rfl,rfl,?_⟩
  match l,h2 with
  | [],_=>rfl
  | [x],_=>rfl
  | _ :: _ :: _,h2=>simp at h2; omega
 obtain ⟨id,hu,hid⟩:=ho.sl (by rw[bF]; omega)
 rw[bF] at hu
 subst hu
 simp (disch:=omega) only [↓wr,seval,wq,ah,ag,ak,aa,ab,af,ai,ae]
 refine bc.up (l.length - 1) (fun i T H'=>H=H'∧(∀ j,0 < j→j < i+1→l.getD j gQ≠l.getD (j - 1) gQ)∧T 0=.sl id 0 l.length 2∧T 3=gi ((i+1:Nat):Int)) ⟨rfl,fun j h1 h2=>by omega,rfl,rfl⟩ ?_
 rintro i k T _ hk ⟨rfl,hne,t0,t3⟩
 simp (disch:=omega) only [↓wr,seval,wq,ah,ag,ak,aa,ab,af,ai,ae,fH,t0,t3]
 refine av.dec (fun hc=>?_) (fun hc=>?_)
 rotate_left
 ·simp (disch:=omega) only [↓wr,seval,wq,ah,ag,ak,aa,ab,af,ai,ae,t0]
  left
  try refine ⟨rfl,rfl,?_⟩
  rw[xI l _ (Ug _) (fun j h1 h2=>hne j h1 (by omega)),List.take_length]
 have hi1:i+1 < l.length:=by omega
 have e1:(((i+1:Nat):Int) - 1)=(i:Int):=by omega
 simp (disch:=omega) only [↓wr,seval,wq,ah,ag,ak,aa,ab,af,ai,ae,t0,t3,hid,rM hi1,rM (show i < l.length by omega),e1]
 refine ⟨by omega,by rw[bF]; omega,?_⟩
 refine ⟨by omega,by rw[bF]; omega,?_⟩
 generalize hx:l.getD (i+1) gQ=x
 generalize hy:l.getD i gQ=y
 refine jT (xs:=#[.int .i64 x.aH,.int .i64 x.dot]) (ys:=#[.int .i64 y.aH,.int .i64 y.dot]) Tryz.underlying33 (by kernel_rfl) (by kernel_rfl) ?_ ?_ (tF x y) (.inl ⟨rfl,rfl⟩) ?_
 ·rfl
 ·rfl
 rw[Cb]
 simp (disch:=omega) only [↓wr,seval,wq,ah,ag,ak,aa,ab,af,ai,ae,t0,t3]
 refine av.dec (fun heq=>?_) (fun heq=>?_)
 rotate_left
 ·simp (disch:=omega) only [↓wr,seval,wq,ah,ag,ak,aa,ab,af,ai,ae,t0,t3]
  refine aN hk (by omega) ⟨rfl,fun j h1 h2=>?_,t0,by push_cast; rfl⟩
  rcases Uv j (i+1) with q | q
  ·exact hne j h1 q
  ·have:j=i+1:=by omega
   subst this
   rw[Nat.add_sub_cancel,hx,hy]; exact heq
 have hstart:fj l (i+1+1)=l.take (i+1):=by
  rw[fj,T6,xI l (i+1) (by omega) hne]
  rw[Nat.add_sub_cancel,hx,hy]
  simp[heq]
 simp (disch:=omega) only [↓wr,seval,wq,ah,ag,ak,aa,ab,af,ai,ae,t0,t3,x7 (id:=id) (off:=0) (k:=l.length) (m:=i+1) (by omega)]
 refine bc.up (l.length - (i+1) - 1) (fun i2 T H'=>∃ (kk:Nat) (cur:List aI),H'=H.set id (.arr 2 (aS cur))∧cur.length=l.length∧i+1≤kk∧kk≤i+1+i2∧cur.take kk=fj l (i+1+(i2+1))∧(∀ j,kk≤j→cur.getD j gQ=l.getD j gQ) ∧
  T 0=.sl id 0 l.length 2∧T 3=gi kk∧T 4=.sl id (i+1) (l.length - (i+1)) 2∧T 5=gi ((i2+1:Nat):Int)) ⟨i+1,l,?_,rfl,Ug _,by omega,by rw[hstart],fun _ _=>rfl,t0,t3,?_,rfl⟩ ?_
 ·funext j; simp only[View.set]; split
  ·rename_i e; rw[e,hid]
  ·rfl
 ·rfl
 clear t0 t3 hk
 rintro i2 k2 T2 _ hk2 ⟨kk,cur,rfl,hcl,k1,k3,hct,hcj,t0,t3,t4,t5⟩
 have hset:(H.set id (.arr 2 (aS cur))) id=.arr 2 (aS cur):=by simp[View.set]
 simp (disch:=omega) only [↓wr,seval,wq,ah,ag,ak,aa,ab,af,ai,ae,fJ,t0,t3,t4,t5]
 refine av.dec (fun hc2=>?_) (fun hc2=>?_)
 ·have hp:i+1+(i2+1) < l.length:=by omega
  have e2:(((i2+1:Nat):Int) - 1)=(i2:Int):=by omega
  simp (disch:=omega) only [↓wr,seval,wq,ah,ag,ak,aa,ab,af,ai,ae,t0,t3,t4,t5,hset,e2,rM (l:=cur) (show i+1+(i2+1) < cur.length by omega),rM (l:=cur) (show i+1+i2 < cur.length by omega)]
  refine ⟨by omega,by rw[bF]; omega,?_⟩
  refine ⟨by omega,by rw[bF]; omega,?_⟩
  rw[hcj _ (show kk≤i+1+(i2+1) by omega),hcj _ (show kk≤i+1+i2 by omega)]
  generalize hx2:l.getD (i+1+(i2+1)) gQ=x2
  generalize hy2:l.getD (i+1+i2) gQ=y2
  refine jT (xs:=#[.int .i64 x2.aH,.int .i64 x2.dot]) (ys:=#[.int .i64 y2.aH,.int .i64 y2.dot]) Tryz.underlying33 (by kernel_rfl) (by kernel_rfl) ?_ ?_ (tF x2 y2) (.inr ⟨rfl,rfl⟩) ?_
  ·rfl
  ·rfl
  rw[Cb]
  simp (disch:=omega) only [↓wr,seval,wq,ah,ag,ak,aa,ab,af,ai,ae,t0,t3,t4,t5]
  have hcu:fj l (i+1+(i2+1+1))=if x2=y2 then fj l (i+1+(i2+1)) else fj l (i+1+(i2+1)) ++ [x2]:=by
   rw[show i+1+(i2+1+1)=(i+1+(i2+1))+1 by omega,fj,hx2,show i+1+(i2+1) - 1=i+1+i2 by omega,hy2]
   by_cases e:x2=y2
   ·rw[T9 e,T6 (by simp[e])]
   ·rw[T6 e,T9 (.inr e)]
  refine av.dec (fun he=>?_) (fun he=>?_)
  ·simp (disch:=omega) only [↓wr,seval,wq,ah,ag,ak,aa,ab,af,ai,ae,t0,t3,t4,t5]
   rw[T9 he] at hcu
   exact aN hk2 (by omega) ⟨kk,cur,rfl,hcl,k1,by omega,by rw[hcu]; exact hct,hcj,t0,t3,t4,by push_cast; rfl⟩
  ·simp (disch:=omega) only [↓wr,seval,wq,ah,ag,ak,aa,ab,af,ai,ae,t0,t3,t4,t5,hset,rM (l:=cur) (show i+1+(i2+1) < cur.length by omega)]
   rw[hcj _ (show kk≤i+1+(i2+1) by omega),hx2]
   have hkl:(aS cur).getD kk []=[gi (cur.getD kk gQ).aH,gi (cur.getD kk gQ).dot]:=rM (by omega)
   have hse:(aS cur).set kk [gi x2.aH,gi x2.dot]=aS (cur.set kk x2):=by simp[aS,Vp,bK]
   simp (disch:=omega) only [↓wr,seval,wq,ah,ag,ak,aa,ab,af,ai,ae,t0,t3,t4,t5,hset,hkl,hse]
   rw[set_set]
   rw[T6 he] at hcu
   refine ⟨by omega,by rw[bF]; omega,?_⟩
   refine ⟨by omega,by rw[bF]; omega,?_⟩
   refine aN hk2 (by omega) ⟨kk+1,cur.set kk x2,rfl,by simp[hcl],by omega,by omega,?_,fun j hj=>?_,t0,by push_cast; rfl,t4,by push_cast; rfl⟩
   ·rw[hcu,← hct,Uw,List.take_set_of_le (Ug _),VN (by omega)]; rfl
   ·rw[K2 _ _ _ _ _ (by omega),T6 (by omega)]
    exact hcj j (by omega)
 ·have hi2:i+1+(i2+1)=l.length:=by omega
  rw[hi2] at hct
  have hz:l.length - kk≠0:=by omega
  have hkl:kk=(fj l l.length).length:=by rw[← hct,UN]; omega
  simp (disch:=omega) only [↓wr,seval,wq,ah,ag,ak,aa,ab,af,ai,ae,t0,t3,x7 (id:=id) (off:=0) (k:=l.length) (m:=kk) (by omega)]
  refine Pg (id:=id) (off:=kk) (len:=l.length - kk) (sz:=2) (bytes:=16) (s:=2) (z:=[gi 0,gi 0]) (es:=aS cur) (by kernel_rfl) (by simp (disch:=omega) only [↓wr,seval,wq,ah,ag,ak,aa,ab,af,ai,ae]; try rw[U3]) hset (by rw[bF]; omega) hz ?_
  rw[set_set]
  have hsr:gj (aS cur) kk (List.replicate (l.length - kk) [gi 0,gi 0])=aS (fj l l.length) ++ List.replicate (l.length - kk) [gi 0,gi 0]:=by
   have h1:=yH (List.replicate (l.length - kk) [gi 0,gi 0]) (aS (cur.take kk)) (aS (cur.drop kk)) (by simp[aS]; omega)
   rw[show aS (cur.take kk) ++ aS (cur.drop kk)=aS cur by rw[aS,aS,← UA,List.take_append_drop]; rfl] at h1
   rw[show (aS (cur.take kk)).length=kk by rw[bF,UN]; omega] at h1
   rw[h1,hct,UB (by simp[aS]; omega),VB]
  rw[hsr]
  simp (disch:=omega) only [↓wr,seval,wq,ah,ag,ak,aa,ab,af,ai,ae,t0,t3,GW (id:=id) (off:=0) (k:=l.length) (m:=kk) (by omega)]
  right
  exact ⟨id,List.replicate (l.length - kk) [gi 0,gi 0],rfl,by rw[hkl],rfl⟩
set_option maxHeartbeats 4000000 in
theorem Jc (l:List aI) (hn:l.length≤100000) (u:V) (H:View) (ho:bf H u 2 (aS l)):aC Tryz.prog 64 [u] H fun r H'=>(∀ id,owner u≠some id→H' id=H id)∧bf H' r 2 (aS (zg l))∧owner r=owner u:=by
 refine aC.of mixed C6 ?_
 simp (disch:=omega) only [↓wr,seval,wq,ah,ag,ak,aa,ab,af,ai,ae,zI]
 refine aE.ez ((Pk l (by omega) u H ho).mono ?_)
 rintro r H2 ⟨rfl,k2,o2⟩
 simp (disch:=omega) only [↓wr,seval,wq,ah,ag,ak,aa,ab,af,ai,ae]
 refine aE.ez ((Kc (ew l) (by rw[iL]; omega) u H2 o2).mono ?_)
 rintro r H3 ⟨k3,o3,e3⟩
 simp (disch:=omega) only [↓wr,seval,wq,ah,ag,ak,aa,ab,af,ai,ae]
 rw[iL] at o3
 exact ⟨fun id hid=>by rw[k3 id hid,k2 id hid],o3,e3⟩
def nf:SC :=
 .seq (ao [bg 30 .lss 29 28]) <|
 .seq (.cond (.tmp 30) (.skip) (.exit 0)) <|
 .seq (.block 1 (.seq (ao [aR 31 1 27 29,ay 32 31,aj 8 32]) <|
 .seq (.seq (ao [ay 33 2,aj 34 8,aR 35 1 33 34,ay 36 35,aQ 37 .eql 36 0]) <|
 .cond (.tmp 37) (ao [ay 38 4,aj 39 8,((some 40),.call (.tmp 38) [(.tmp 39)])]) (.skip)) <|
 .seq (ao [ay 41 2,aj 42 0,ay 43 2,aj 44 0,aR 45 1 43 44,ay 46 45,ay 47 2,aj 48 8,aR 49 1 47 48,ay 50 49,((some 51),.op (.mm false (.tmp 46) (.tmp 50))),aR 52 1 41 42,(none,.op (.store 1 (.tmp 52) (.tmp 51)))]) <|
 ao [ay 53 3,fZ 54 53,aD 55 8 54,ay 56 55,aj 57 0,aR 58 1 56 57,ay 59 58,ay 60 3,fZ 61 60,aD 62 8 61,ay 63 62,aj 64 8,aR 65 1 63 64,ay 66 65,bg 67 .or 59 66,aR 68 1 56 57,(none,.op (.store 1 (.tmp 68) (.tmp 67)))])) <|
 ao [aQ 69 .add 29 1,aj 29 69]
def mZ:SC :=
 .seq (ao [bg 82 .lss 81 80]) <|
 .seq (.cond (.tmp 82) (.skip) (.exit 2)) <|
 .seq (.block 3 (.seq (ao [aR 83 1 79 81,ay 84 83,aj 10 84]) <|
 .seq (ao [ay 85 2,aj 86 10,aR 87 1 85 86,(none,.op (.store 1 (.tmp 87) (.val (.val (.int .i64 1073741824)))))]) <|
 ao [ay 88 3,fZ 89 88,aD 90 8 89,ay 91 90,aj 92 10,ay 93 3,fZ 94 93,aD 95 8 94,ay 96 95,aj 97 0,aR 98 1 96 97,ay 99 98,aR 100 1 91 92,(none,.op (.store 1 (.tmp 100) (.tmp 99)))])) <|
 ao [aQ 101 .add 81 1,aj 81 101]
def oX:SF:=⟨.seq (ao [ay 11 1,aj 12 0,((some 13),.op (.cw 1 1 [(.val (.int .i64 0))] [(0,(.tmp 12))])),((some 14),.op (.app 1 8 (.tmp 11) (.tmp 13))),(none,.op (.store 1 (.tmp 1) (.tmp 14)))]) <|
 .seq (ao [ay 15 1,aV 16 15,aj 6 16]) <|
 .seq (ao [ay 17 2,aj 18 0,aj 19 6,aR 20 1 17 18,(none,.op (.store 1 (.tmp 20) (.tmp 19)))]) <|
 .seq (.seq (ao [ay 21 3,fZ 22 21,aD 23 9 22,ay 24 23,aj 25 0,aR 26 1 24 25,ay 27 26,aV 28 27,bj 29 0]) <|
 .block 0 (.loop nf)) <|
 .seq (.seq (ao [ay 70 2,aj 71 0,aR 72 1 70 71,ay 73 72,aj 74 6,bg 75 .neq 73 74]) <|
 .cond (.tmp 75) (.ret) (.skip)) <|
 .seq (.seq (ao [ay 76 1,aj 77 6,aQ 78 .sub 77 1,((some 79),.op (.slice 1 (.tmp 76) (some (.tmp 78)) none)),aV 80 79,bj 81 0]) <|
 .block 2 (.loop mZ)) <|
 ao [ay 102 1,aj 103 6,aQ 104 .sub 103 1,((some 105),.op (.slice 1 (.tmp 102) none (some (.tmp 104)))),(none,.op (.store 1 (.tmp 1) (.tmp 105)))],
 [],106⟩
theorem tT:aU Tryz.prog 122 []=some oX:=by kernel_rfl
def oR:SC :=
 .seq (ao [bg 19 .lss 18 17]) <|
 .seq (.cond (.tmp 19) (.skip) (.exit 0)) <|
 .seq (.block 1 (.seq (ao [aj 20 18,aj 5 20]) <|
 .seq (ao [ay 21 2,aj 22 5,aR 23 1 21 22,ay 24 23,aQ 25 .eql 24 0]) <|
 .cond (.tmp 25) (ao [ay 26 4,aj 27 5,((some 28),.call (.tmp 26) [(.tmp 27)])]) (.skip))) <|
 ao [aQ 29 .add 18 1,aj 18 29]
def qX:SF:=⟨.seq (ao [cO 1 0]) <|
 .seq (ao [ay 6 1,fZ 7 6,aD 8 7 7,ay 9 8,aV 10 9,((some 11),.op (.make 1 8 [(.val (.int .i64 0))] (.tmp 10) (.tmp 10))),((some 2),.op (.alloc [(.emp 1)])),(none,.op (.store 1 (.tmp 2) (.tmp 11)))]) <|
 .seq (ao [((some 3),.op (.alloc [(.emp 1)]))]) <|
 .seq (ao [((some 4),.op (.alloc [(.val .nilFunc)]))]) <|
 .seq (ao [((some 12),.op (.sL 122 [] [(.tmp 3),(.tmp 2),(.tmp 1),(.tmp 4)])),(none,.op (.store 1 (.tmp 4) (.tmp 12)))]) <|
 .seq (ao [ay 13 1,fZ 14 13,aD 15 7 14,ay 16 15,aV 17 16,bj 18 0]) <|
 .block 0 (.loop oR),
 [],30⟩
theorem wC:aU Tryz.prog 75 [1]=some qX:=by kernel_rfl
abbrev fa (l:List Nat):List (List V):=l.map fun (z:Nat)=>[gi (z:Int)]
structure CC where
 (qs qd qv W d s e:Nat)
 (f0 f1 f2 f3 f4 f5 f6 f7:V)
 us:List V
 H0:View
def CC.fn (c:CC):V:=.fn 122 [] [.ptr c.qs 0 0,.ptr c.qd 0 0,.aO [.ptr c.W 0 0] 0,.ptr c.qv 0 0]
structure Bn (c:CC) (n:Nat) (E:Nat→List Nat):Prop where
 j8:c.H0 c.qd=.arr 1 [[.sl c.d 0 n 1]]
 xc:c.H0 c.qv=.arr 1 [[c.fn]]
 hW:c.H0 c.W=.arr 10 [[c.f0,c.f1,c.f2,c.f3,c.f4,c.f5,c.f6,c.f7,.sl c.s 0 n 1,.sl c.e 0 n 1]]
 he:c.H0 c.e=.arr 1 (c.us.map fun u=>[u])
 hl:c.us.length=n
 hu:∀ x,x < n→bf c.H0 (c.us.getD x .any) 1 (fa (E x))
 hE:∀ x,x < n→(E x).length≤1000000000∧∀ y∈E x,y < n
 live:c.H0 c.qs≠.dead∧c.H0 c.d≠.dead∧c.H0 c.s≠.dead
 ne:c.qs≠c.d∧c.qs≠c.s∧c.d≠c.s
 vJ:∀ id,(id=c.qd∨id=c.qv∨id=c.W∨id=c.e∨∃ x,x < n∧owner (c.us.getD x .any)=some id)→id≠c.qs∧id≠c.d∧id≠c.s
structure lB (c:CC) (n:Nat) (H:View) (Dl:List Int) (St:List Nat) (Sl:List BV) (u:V):Prop where
 dl:Dl.length=n
 sl:Sl.length=n
 hd:H c.d=.arr 1 (bZ Dl)
 hs:H c.s=.arr 1 (bY Sl)
 hq:H c.qs=.arr 1 [[u]]
 own:bf H u 1 (fa St)
 new:∀ id,owner u=some id→c.H0 id=.dead
 keep:∀ id,c.H0 id≠.dead→id≠c.qs→id≠c.d→id≠c.s→H id=c.H0 id
def dF (l:List Int):Nat→Int:=fun z=>l.getD z 0
def sF (l:List BV):Nat→BV:=fun z=>l.getD z 0
theorem B5 {l:List Int} {x:Nat} {v:Int} (h:x < l.length):dF (l.set x v)=jq (dF l) x v:=by
 funext z
 simp only[dF,jq,fI]
 by_cases e:x=z
 ·subst e; simp[h]
 ·rw[T6 (fun h=>e h.1),T6 (fun h=>e h.symm)]
theorem HQ {l:List BV} {x:Nat} {v:BV} (h:x < l.length):sF (l.set x v)=jq (sF l) x v:=by
 funext z
 simp only[sF,jq,fI]
 by_cases e:x=z
 ·subst e; simp[h]
 ·rw[T6 (fun h=>e h.1),T6 (fun h=>e h.symm)]
section
variable {c:CC} {n:Nat} {E:Nat→List Nat} {H:View} {Dl:List Int} {St:List Nat} {Sl:List BV} {u:V}
theorem lB.Kf (h:lB c n H Dl St Sl u) (hC:Bn c n E) {Dl':List Int} (hl:Dl'.length=n):lB c n (H.set c.d (.arr 1 (bZ Dl'))) Dl' St Sl u:=by
 obtain ⟨n1,n2,n3⟩:=hC.ne
 refine ⟨hl,h.sl,by simp[View.set],?_,?_,?_,h.new,fun id h1 h2 h3 h4=>?_⟩
 ·simp only[View.set]; rw[T6 (Ne.symm n3)]; exact h.hs
 ·simp only[View.set]; rw[T6 n1]; exact h.hq
 ·rcases h.own with k | ⟨m,k1,k2⟩
  ·exact .inl k
  ·refine .inr ⟨m,k1,?_⟩
   simp only[View.set]
   rw[T6 (fun e=>hC.live.2.1 (by rw[← e]; exact h.new m (by rw[k1]; rfl)))]; exact k2
 ·simp only[View.set]; rw[T6 h3]; exact h.keep id h1 h2 h3 h4
theorem lB.xC (h:lB c n H Dl St Sl u) (hC:Bn c n E) {Sl':List BV} (hl:Sl'.length=n):lB c n (H.set c.s (.arr 1 (bY Sl'))) Dl St Sl' u:=by
 obtain ⟨n1,n2,n3⟩:=hC.ne
 refine ⟨h.dl,hl,?_,by simp[View.set],?_,?_,h.new,fun id h1 h2 h3 h4=>?_⟩
 ·simp only[View.set]; rw[T6 n3]; exact h.hd
 ·simp only[View.set]; rw[T6 n2]; exact h.hq
 ·rcases h.own with k | ⟨m,k1,k2⟩
  ·exact .inl k
  ·refine .inr ⟨m,k1,?_⟩
   simp only[View.set]
   rw[T6 (fun e=>hC.live.2.2 (by rw[← e]; exact h.new m (by rw[k1]; rfl)))]; exact k2
 ·simp only[View.set]; rw[T6 h4]; exact h.keep id h1 h2 h3 h4
theorem lB.live (h:lB c n H Dl St Sl u) {id:Nat} (h0:c.H0 id≠.dead):H id≠.dead:=by
 by_cases e1:id=c.qs
 ·rw[e1,h.hq]; simp
 ·by_cases e2:id=c.d
  ·rw[e2,h.hd]; simp
  ·by_cases e3:id=c.s
   ·rw[e3,h.hs]; simp
   ·rw[h.keep id h0 e1 e2 e3]; exact h0
theorem lB.push (h:lB c n H Dl St Sl u) (hC:Bn c n E) {q x:Nat} (hq:H q=.dead) {o:dy} {u2:V} {H2:View} (o2:bf H2 u2 1 (fa St ++ [[gi (x:Int)]])) (l2:Left (H.set q o) H2 u u2):lB c n (H2.set c.qs (.arr 1 [[u2]])) Dl (St ++ [x]) Sl u2:=by
 obtain ⟨n1,n2,n3⟩:=hC.ne
 have hid:∀ id,c.H0 id≠.dead→H2 id=H id∧owner u2≠some id:=fun id h0=>by
  have h1:=h.live h0
  have hne:id≠q:=fun e=>h1 (by rw[e]; exact hq)
  have hs:(H.set q o) id=H id:=by simp only[View.set]; rw[T6 hne]
  have:=l2 id (by rw[hs]; exact h1) (fun e=>h0 (h.new id e))
  rw[hs] at this; exact this
 refine ⟨h.dl,h.sl,?_,?_,by simp[View.set],?_,fun id h1=>?_,fun id h1 h2 h3 h4=>?_⟩
 ·simp only[View.set]; rw[T6 (Ne.symm n1),(hid _ hC.live.2.1).1]; exact h.hd
 ·simp only[View.set]; rw[T6 (Ne.symm n2),(hid _ hC.live.2.2).1]; exact h.hs
 ·have e:fa (St ++ [x])=fa St ++ [[gi (x:Int)]]:=by simp
  rw[e]
  rcases o2 with k | ⟨m,k1,k2⟩
  ·exact .inl k
  ·refine .inr ⟨m,k1,?_⟩
   simp only[View.set]
   rw[T6 (fun e=>(hid _ hC.live.1).2 (by rw[k1,← e]; rfl))]; exact k2
 ·exact Vs fun h2=>(hid id h2).2 h1
 ·simp only[View.set]; rw[T6 h2,(hid id h1).1]; exact h.keep id h1 h2 h3 h4
theorem lB.at (h:lB c n H Dl St Sl u) (hC:Bn c n E):H c.qd=.arr 1 [[.sl c.d 0 n 1]]∧H c.qv=.arr 1 [[c.fn]]∧H c.W=.arr 10 [[c.f0,c.f1,c.f2,c.f3,c.f4,c.f5,c.f6,c.f7,.sl c.s 0 n 1,.sl c.e 0 n 1]]∧H c.e=.arr 1 (c.us.map fun u=>[u]):=by
 have k:∀ id,(id=c.qd∨id=c.qv∨id=c.W∨id=c.e∨∃ x,x < n∧owner (c.us.getD x .any)=some id)→c.H0 id≠.dead→H id=c.H0 id:=fun id h1 h2=>h.keep id h2 (hC.vJ id h1).1 (hC.vJ id h1).2.1 (hC.vJ id h1).2.2
 refine ⟨?_,?_,?_,?_⟩
 ·rw[k c.qd (by simp) (by rw[hC.j8]; simp),hC.j8]
 ·rw[k c.qv (by simp) (by rw[hC.xc]; simp),hC.xc]
 ·rw[k c.W (by simp) (by rw[hC.hW]; simp),hC.hW]
 ·rw[k c.e (by simp) (by rw[hC.he]; simp),hC.he]
theorem Bn.TN (hC:Bn c n E):(c.qd≠c.qs∧c.qd≠c.d∧c.qd≠c.s)∧(c.qv≠c.qs∧c.qv≠c.d∧c.qv≠c.s)∧(c.W≠c.qs∧c.W≠c.d∧c.W≠c.s)∧(c.e≠c.qs∧c.e≠c.d∧c.e≠c.s)∧(c.d≠c.qs∧c.s≠c.qs∧c.d≠c.s∧c.s≠c.d) :=
 ⟨hC.vJ _ (by simp),hC.vJ _ (by simp),hC.vJ _ (by simp),hC.vJ _ (by simp),Ne.symm hC.ne.1,Ne.symm hC.ne.2.1,hC.ne.2.2,Ne.symm hC.ne.2.2⟩
theorem lB.row (h:lB c n H Dl St Sl u) (hC:Bn c n E) {x:Nat} (hx:x < n):bf H (c.us.getD x .any) 1 (fa (E x)):=by
 rcases hC.hu x hx with k | ⟨m,k1,k2⟩
 ·exact .inl k
 ·refine .inr ⟨m,k1,?_⟩
  have ha:=hC.vJ m (.inr (.inr (.inr (.inr ⟨x,hx,by rw[k1]; rfl⟩))))
  rw[h.keep m (by rw[k2]; simp) ha.1 ha.2.1 ha.2.2]; exact k2
end
theorem Af {l:List Nat} {i y:Nat} (h:l[i]?=some y):(fa l).getD i []=[gi (y:Int)]:=by
 simp[T0,h]
theorem NM (a b:Int):(if b < a then b else a)=min a b:=by split <;> omega
theorem nZ {l:List Int} {i:Nat} (h:i < l.length):(bZ l).getD i []=[gi (dF l i)]:=by
 simp[dF,T0,h]
theorem oG {l:List BV} {i:Nat} (h:i < l.length):(bY l).getD i []=[gw (sF l i)]:=by
 simp[sF,T0,h]
theorem Rm {l:List V} {i:Nat} (h:i < l.length):(l.map fun u=>[u]).getD i []=[l.getD i .any]:=by
 simp[T0,h]
theorem Hm {id off k m:Nat} (hm:m≤k):dQ 1 (.sl id off k 1) (some (gi m)) none=some (.sl id (off+m) (k - m) 1,.none,[]):=by
 simp[dQ,bound,asNat,hm]
theorem Ha {id off k m:Nat} (hm:m≤k):dQ 1 (.sl id off k 1) none (some (gi m))=some (.sl id off m 1,.none,[]):=by
 simp[dQ,bound,asNat,hm]
def Fu (n:Nat) (D:Nat→Int):Nat:=((List.range n).filter fun z=>decide (D z=0)).length
theorem filter_le {α:Type} {p q:α→Bool} : ∀ {l:List α},(∀ x∈l,p x=true→q x=true)→(l.filter p).length≤(l.filter q).length
 | [],_=>Ug _
 | a :: l,h=>by
  have ih:=filter_le (p:=p) (q:=q) (l:=l) fun x hx=>h x (by simp[hx])
  have ha:=h a (by simp)
  rw[VS,VS]
  cases hp:p a with
  | true=>rw[ha hp]; simp; exact ih
  | false =>
   cases hq:q a with
   | true=>simp; omega
   | false=>simpa using ih
theorem filter_lt {α:Type} {p q:α→Bool} : ∀ {l:List α},(∀ x∈l,p x=true→q x=true)→(∃ x∈l,p x=false∧q x=true)→(l.filter p).length < (l.filter q).length
 | [],_,⟨x,h,_⟩=>by simp at h
 | a :: l,h,⟨x,hx,k1,k2⟩=>by
  have ha:=h a (by simp)
  rw[VS,VS]
  rcases Uk.1 hx with rfl | hx
  ·have:=filter_le (p:=p) (q:=q) (l:=l) fun y hy=>h y (by simp[hy])
   rw[k1,k2]; simp; omega
  ·have ih:=filter_lt (p:=p) (q:=q) (l:=l) (fun y hy=>h y (by simp[hy])) ⟨x,hx,k1,k2⟩
   cases hp:p a with
   | true=>rw[ha hp]; simp; exact ih
   | false =>
    cases hq:q a with
    | true=>simp; omega
    | false=>simpa using ih
theorem FN {n:Nat} {D D':Nat→Int} (h:∀ z,D z≠0→D' z≠0) {x:Nat} (hx:x < n) (h0:D x=0) (h1:D' x≠0):Fu n D' < Fu n D :=
 filter_lt (fun z _ hz=>by
  simp only[Ul] at hz ⊢
  exact U7 fun k=>h z k hz) ⟨x,UR.2 hx,by simp[h1],by simp[h0]⟩
set_option maxHeartbeats 16000000 in
theorem Pj {c:CC} {n:Nat} {E:Nat→List Nat} (hC:Bn c n E) (hn:n≤100000) (S0:Nat→BV):∀ (m:Nat) (H:View) (Dl:List Int) (St:List Nat) (Sl:List BV) (x:Nat),Fu n (dF Dl)≤m→(∃ u,lB c n H Dl St Sl u)→ow n E S0 (dF Dl) St (sF Sl)→x < n→dF Dl x=0 →
  aC Tryz.prog 122 [gi x,.ptr c.qs 0 0,.ptr c.qd 0 0,.aO [.ptr c.W 0 0] 0,.ptr c.qv 0 0] H fun _ H'=>∃ (Dl':List Int) (St':List Nat) (Sl':List BV),(∃ u,lB c n H' Dl' St' Sl' u)∧yW n E S0 (dF Dl) St (sF Sl) x (dF Dl') St' (sF Sl'):=by
 intro m
 induction m with
 | zero =>
  intro H Dl St Sl x hm _ _ hx h0
  have:=FN (n:=n) (D:=dF Dl) (D':=fun _=>1) (fun _ _=>by simp) hx h0 (by simp)
  omega
 | succ m ih =>
 rintro H Dl St Sl x hm ⟨u,hJ⟩ hG hx h0
 have hEn:∀ x,x < n→∀ y∈E x,y < n:=fun x hx=>(hC.hE x hx).2
 have hnf:(n:Int) < eL:=by unfold eL; omega
 have hLs:=gu.start hnf hG hx h0
 have hstl:=BZ hLs.g.nd hLs.g.lt
 simp only[UX,Um,UG] at hstl
 refine aC.cut (K:=fun _ H'=>(∃ (Dl':List Int) (St':List Nat) (Sl':List BV),(∃ u,lB c n H' Dl' St' Sl' u)∧yW n E S0 (dF Dl) St (sF Sl) x (dF Dl') St' (sF Sl'))∨∃ (Dl':List Int) (Sl':List BV) (st:Nat) (rest:List (List V)),Dl'.length=n∧Sl'.length=n∧H' c.d=.arr 1 (bZ Dl')∧H' c.s=.arr 1 (bY Sl') ∧
  H' c.qs=.arr 1 [[.sl st 0 St.length 1]]∧H' st=.arr 1 (fa St ++ rest)∧c.H0 st=.dead∧(∀ id,c.H0 id≠.dead→id≠c.qs→id≠c.d→id≠c.s→H' id=c.H0 id)∧yW n E S0 (dF Dl) St (sF Sl) x (dF Dl') St (sF Sl')) ?_ ?_
 rotate_left
 ·rintro r H' (h | ⟨Dl',Sl',st,rest,k1,k2,k3,k4,k5,k6,k7,k8,k9⟩)
  ·exact .inl h
  ·have hne:∀ id,c.H0 id≠.dead→id≠st:=fun id h e=>h (by rw[e]; exact k7)
   refine .inr ⟨st,1,fa St,rest,k6,Dl',St,Sl',⟨.sl st 0 St.length 1,k1,k2,?_,?_,?_,.inr ⟨st,by simp,by simp[View.set]⟩,fun id h=>?_,fun id h1 h2 h3 h4=>?_⟩,k9⟩
   ·simp only[View.set]; rw[T6 (hne _ hC.live.2.1)]; exact k3
   ·simp only[View.set]; rw[T6 (hne _ hC.live.2.2)]; exact k4
   ·simp only[View.set]; rw[T6 (hne _ hC.live.1)]; exact k5
   ·simp only[owner,T7] at h; rw[← h]; exact k7
   ·simp only[View.set]; rw[T6 (hne _ h1)]; exact k8 id h1 h2 h3 h4
 refine aC.of mixed tT ?_
 obtain ⟨a1,a2,a3,a4⟩:=hJ.at hC
 have hq:=hJ.hq
 have hus:cG u=some St.length:=by rw[hJ.own.len,Uc]
 simp (disch:=omega) only [↓wr,seval,wq,ah,ag,ak,aa,ab,af,ai,ae,oX,hq]
 intro q j8
 simp (disch:=omega) only [↓wr,seval,wq,ah,ag,ak,aa,ab,af,ai,ae,cb]
 refine ib (hJ.own.fresh j8) (by simp[aX]) (by unfold aK; simp; omega) (by unfold aK; simp; omega) ?_
 intro u2 H2 o2 l2
 have hlen:(fa St ++ [[gi (x:Int)]]).length=St.length+1:=by simp
 obtain ⟨st,hu2,_⟩:=o2.sl (by rw[hlen]; omega)
 rw[hlen] at hu2
 subst hu2
 have hJ2:=hJ.push hC j8 o2 l2
 have hq2:H2 c.qs=.arr 1 [[u]]:=by
  have hne:c.qs≠q:=fun e=>hJ.live hC.live.1 (by rw[e]; exact j8)
  have hs:(H.set q (.arr 1 [[gi (x:Int)]])) c.qs=H c.qs:=by simp only[View.set]; rw[T6 hne]
  have:=(l2 c.qs (by rw[hs,hq]; simp) (fun e=>hC.live.1 (hJ.new _ e))).1
  rw[this,hs,hq]
 obtain ⟨⟨m1,m2,m3⟩,⟨m4,m5,m6⟩,⟨m7,m8,m9⟩,⟨m10,m11,m12⟩,m13,m14,m15,m16⟩:=hC.TN
 obtain ⟨b1,b2,b3,b4⟩:=hJ2.at hC
 have b5:=hJ2.hd
 simp only[View.set,T6 m1] at b1
 simp only[View.set,T6 m7] at b3
 simp only[View.set,T6 m10] at b4
 simp only[View.set,T6 m13] at b5
 have hdl:=hJ2.dl
 have hset:(bZ Dl).set x [gi ((St.length:Int)+1)]=bZ (Dl.set x ((St.length:Int)+1)):=ints_set _ _ _
 have hset2:(bZ Dl).set x [gi ((St.length+1:Nat):Int)]=bZ (Dl.set x ((St.length:Int)+1)):=ints_set _ _ _
 have hex:=Rm (l:=c.us) (i:=x) (by rw[hC.hl]; exact hx)
 have hux:cG (c.us.getD x .any)=some (E x).length:=by rw[(hC.hu x hx).len,Uc]
 have hus2:=hC.hl
 simp (disch:=omega) only [↓wr,seval,wq,ah,ag,ak,aa,ab,af,ai,ae,hq2,b1,b3,b4,b5,m1,m2,m7,m8,m10,m11,m13,hset,hset2,nZ (l:=Dl) (i:=x) (by omega),hex,hux]
 refine ⟨hx,by omega,hx,by omega,?_⟩
 refine bc.up (E x).length (fun i T H'=>∃ (Dl':List Int) (Tl:List Nat) (Sl':List BV) (st:Nat),lB c n H' Dl' (St ++ x :: Tl) Sl' (.sl st 0 (St ++ x :: Tl).length 1)∧gu n E S0 (dF Dl) St (sF Sl) x ((E x).take i) (dF Dl') Tl (sF Sl')∧T 0=gi x∧T 1=.ptr c.qs 0 0∧T 2=.ptr c.qd 0 0∧T 3=.aO [.ptr c.W 0 0] 0∧T 4=.ptr c.qv 0 0∧T 6=gi ((St.length+1:Nat):Int)∧T 27=c.us.getD x .any∧T 28=gi (E x).length∧T 29=gi i)
  ⟨Dl.set x ((St.length:Int)+1),[],Sl,st,by simpa using hJ2.Kf hC (Dl':=Dl.set x ((St.length:Int)+1)) (by simp[hdl]),by rw[B5 (by omega)]; exact hLs,rfl,rfl,rfl,rfl,rfl,rfl,rfl,rfl,rfl⟩ ?_
 clear b1 b2 b3 b4 b5 hJ2 hq2 j8 l2 o2 hus hq a1 a2 a3 a4
 rintro i k T H' hk ⟨Dl',Tl,Sl',st,hJ',hL,t0,t1,t2,t3,t4,t6,t27,t28,t29⟩
 have hEx:=(hC.hE x hx).1
 have hdl':=hJ'.dl
 have hsl':=hJ'.sl
 obtain ⟨a1,a2,a3,a4⟩:=hJ'.at hC
 simp (disch:=omega) only [↓wr,seval,wq,ah,ag,ak,aa,ab,af,ai,ae,nf,t0,t1,t2,t3,t4,t6,t27,t28,t29]
 refine av.dec (fun hc=>?_) (fun hc=>?_)
 ·have hy:(E x)[i]?=some ((E x)[i]'(by omega)):=T4 (by omega)
  have hym:=Ud (show i < (E x).length by omega)
  have htk:(E x).take (i+1)=(E x).take i ++ [(E x)[i]'(by omega)]:=by rw[Uw,hy]; rfl
  generalize (E x)[i]'(by omega)=y at hy hym htk
  have hny:=Af hy
  have hyn:=hEn x hx y hym
  obtain ⟨id,hu,hid⟩:=(hJ'.row hC hx).sl (by simp; omega)
  rw[Uc] at hu
  simp (disch:=omega) only [↓wr,seval,wq,ah,ag,ak,aa,ab,af,ai,ae,t0,t1,t2,t3,t4,t6,t27,t28,t29,hu,hid,hny,a1,hJ'.hd,nZ (l:=Dl') (i:=y) (by omega)]
  refine ⟨by omega,by first | omega | (simp; omega),hyn,by omega,?_⟩
  refine av.eq (fun hz=>?_) (fun hz=>?_)
  ·have hmm:=FN (n:=n) (D:=dF Dl) (D':=dF Dl') (fun z hz=>by rw[(hL.old z hz).1]; exact hz) hx h0 (by have:=hL.own.1; omega)
   simp (disch:=omega) only [↓wr,seval,wq,ah,ag,ak,aa,ab,af,ai,ae,t4,t6,a2,CC.fn]
   refine aE.ez ((ih H' Dl' (St ++ x :: Tl) Sl' y (by omega) ⟨_,hJ'⟩ hL.g hyn hz).mono ?_)
   rintro r H5 ⟨Dl5,St5,Sl5,⟨u5,hJ5⟩,hV⟩
   obtain ⟨T5,rfl,hL5⟩:=hL.AN hEn hnf hx h0 hym hz hV
   obtain ⟨st5,hu5,_⟩:=hJ5.own.sl (by simp; omega)
   rw[Uc] at hu5
   subst hu5
   obtain ⟨a1,a2,a3,a4⟩:=hJ5.at hC
   have hdl5:=hJ5.dl
   have hsl5:=hJ5.sl
   have e1:(bZ Dl5).set x [gi (min (dF Dl5 x) (dF Dl5 y))]=bZ (Dl5.set x (min (dF Dl5 x) (dF Dl5 y))):=ints_set _ _ _
   have e2:(bY Sl5).set x [gw (sF Sl5 x ||| sF Sl5 y)]=bY (Sl5.set x (sF Sl5 x ||| sF Sl5 y)):=by simp[Vp]
   simp (disch:=omega) only [↓wr,seval,wq,ah,ag,ak,aa,ab,af,ai,ae,t0,t1,t2,t3,t4,t6,t27,t28,t29,a1,a3,hJ5.hd,hJ5.hs,nZ (l:=Dl5) (i:=x) (by omega),nZ (l:=Dl5) (i:=y) (by omega),oG (l:=Sl5) (i:=x) (by omega),oG (l:=Sl5) (i:=y) (by omega),NM,e1,e2,m1,m2,m3,m7,m8,m9,m13,m14,m15,m16,qO]
   refine ⟨hx,by omega,hyn,by omega,hx,by omega,hx,by omega,hyn,by omega,hx,by omega,?_⟩
   exact aN hk (by omega) ⟨Dl5.set x (min (dF Dl5 x) (dF Dl5 y)),T5,Sl5.set x (sF Sl5 x ||| sF Sl5 y),st5,(hJ5.Kf hC (by simp[hdl5])).xC hC (by simp[hsl5]),by rw[htk,B5 (by omega),HQ (by omega)]; exact hL5,t0,t1,t2,t3,t4,t6,by first | exact t27 | (rw[hu]; exact t27),t28,rfl⟩
  ·have hL5:=hL.PO hEn hnf hx h0 hym hz
   obtain ⟨a1,a2,a3,a4⟩:=hJ'.at hC
   have hdl6:=hJ'.dl
   have hsl6:=hJ'.sl
   have e1:(bZ Dl').set x [gi (min (dF Dl' x) (dF Dl' y))]=bZ (Dl'.set x (min (dF Dl' x) (dF Dl' y))):=ints_set _ _ _
   have e2:(bY Sl').set x [gw (sF Sl' x ||| sF Sl' y)]=bY (Sl'.set x (sF Sl' x ||| sF Sl' y)):=by simp[Vp]
   simp (disch:=omega) only [↓wr,seval,wq,ah,ag,ak,aa,ab,af,ai,ae,t0,t1,t2,t3,t4,t6,t27,t28,t29,a1,a3,hJ'.hd,hJ'.hs,nZ (l:=Dl') (i:=x) (by omega),nZ (l:=Dl') (i:=y) (by omega),oG (l:=Sl') (i:=x) (by omega),oG (l:=Sl') (i:=y) (by omega),NM,e1,e2,m1,m2,m3,m7,m8,m9,m13,m14,m15,m16,qO]
   refine ⟨hx,by omega,hyn,by omega,hx,by omega,hx,by omega,hyn,by omega,hx,by omega,?_⟩
   exact aN hk (by omega) ⟨Dl'.set x (min (dF Dl' x) (dF Dl' y)),Tl,Sl'.set x (sF Sl' x ||| sF Sl' y),st,(hJ'.Kf hC (by simp[hdl6])).xC hC (by simp[hsl6]),by rw[htk,B5 (by omega),HQ (by omega)]; exact hL5,t0,t1,t2,t3,t4,t6,by first | exact t27 | (rw[hu]; exact t27),t28,rfl⟩
 ·rw[Uo (by omega)] at hL
  simp (disch:=omega) only [↓wr,seval,wq,ah,ag,ak,aa,ab,af,ai,ae,t0,t1,t2,t6,a1,hJ'.hd,nZ (l:=Dl') (i:=x) (by omega)]
  refine ⟨hx,by omega,?_⟩
  refine av.ne (fun hne=>?_) (fun heq=>?_)
  ·simp (disch:=omega) only [↓wr,seval,wq,ah,ag,ak,aa,ab,af,ai,ae]
   exact .inl ⟨Dl',St ++ x :: Tl,Sl',⟨_,hJ'⟩,hL.keep (by omega)⟩
  ·have hq:=hJ'.hq
   have e3:((St.length+1:Nat):Int) - 1=(St.length:Int):=by omega
   have hLl:(St ++ x :: Tl).length=St.length+(x :: Tl).length:=UX
   have hst:H' st=.arr 1 (fa (St ++ x :: Tl)):=by
    rcases hJ'.own with ⟨k1,k2,k3⟩ | ⟨w,k1,k2⟩
    ·simp at k3
    ·simp only[V.sl.injEq] at k1
     rw[k1.1]; exact k2
   have hnewst:=hJ'.new st rfl
   have hsl:dQ 1 (.sl st 0 (St ++ x :: Tl).length 1) (some (gi (St.length:Int))) none=some (.sl st St.length (x :: Tl).length 1,.none,[]):=by
    rw[Hm (by omega),hLl]
    congr 3 <;> omega
   have hsh:dQ 1 (.sl st 0 (St ++ x :: Tl).length 1) none (some (gi (St.length:Int)))=some (.sl st 0 St.length 1,.none,[]):=Ha (by omega)
   have hlst:=BZ hL.g.nd hL.g.lt
   have hfr:=hL.fresh hnf hG
   have hpop:=hL.pop hEn hnf hx hfr (by omega)
   simp (disch:=omega) only [↓wr,seval,wq,ah,ag,ak,aa,ab,af,ai,ae,t0,t1,t2,t3,t6,hq,e3,hsl]
   refine bc.up (Tl.length+1) (fun j T H'=>∃ (Dj:List Int) (Sj:List BV),lB c n H' Dj (St ++ x :: Tl) Sj (.sl st 0 (St ++ x :: Tl).length 1)∧dF Dj=(fun z=>if z∈(x :: Tl).take j then eL else dF Dl' z)∧sF Sj=(fun z=>if z∈(x :: Tl).take j then sF Sl' x else sF Sl' z) ∧
    T 0=gi x∧T 1=.ptr c.qs 0 0∧T 2=.ptr c.qd 0 0∧T 3=.aO [.ptr c.W 0 0] 0∧T 6=gi ((St.length+1:Nat):Int)∧T 79=.sl st St.length (Tl.length+1) 1∧T 80=gi ((Tl.length+1:Nat):Int)∧T 81=gi j) ⟨Dl',Sl',hJ',by simp,by simp,t0,t1,t2,t3,t6,rfl,rfl,rfl⟩ ?_
   clear t0 t1 t2 t3 t4 t6 t27 t28 t29 a1 a2 a3 a4 hq hst hJ' hsl
   rintro j k2 T H6 hk2 ⟨Dj,Sj,hJ6,hDj,hSj,t0,t1,t2,t3,t6,t79,t80,t81⟩
   obtain ⟨a1,a2,a3,a4⟩:=hJ6.at hC
   have hst:H6 st=.arr 1 (fa (St ++ x :: Tl)):=by
    rcases hJ6.own with ⟨k1,k2,k3⟩ | ⟨w,k1,k2⟩
    ·simp at k3
    ·simp only[V.sl.injEq] at k1
     rw[k1.1]; exact k2
   have hdlj:=hJ6.dl
   have hslj:=hJ6.sl
   simp (disch:=omega) only [↓wr,seval,wq,ah,ag,ak,aa,ab,af,ai,ae,mZ,t0,t1,t2,t3,t6,t79,t80,t81]
   refine av.dec (fun hc2=>?_) (fun hc2=>?_)
   ·have hjl:j < (x :: Tl).length:=by simp; omega
    have hy:(x :: Tl)[j]?=some ((x :: Tl)[j]'hjl):=T4 hjl
    have htk:(x :: Tl).take (j+1)=(x :: Tl).take j ++ [(x :: Tl)[j]'hjl]:=by rw[Uw,hy]; rfl
    generalize (x :: Tl)[j]'hjl=y at hy htk
    have hyn:=hL.g.lt y (VC _ (Ub hy))
    have hys:(fa (St ++ x :: Tl)).getD (St.length+j) []=[gi (y:Int)]:=Af (by rw[UH (by omega),Nat.add_sub_cancel_left]; exact hy)
    have hsx:sF Sj x=sF Sl' x:=by rw[hSj]; simp only; split <;> rfl
    have e1:(bZ Dj).set y [gi 1073741824]=bZ (Dj.set y eL):=ints_set _ _ _
    have e2:(bY Sj).set y [gw (sF Sj x)]=bY (Sj.set y (sF Sj x)):=by simp[Vp]
    simp (disch:=omega) only [↓wr,seval,wq,ah,ag,ak,aa,ab,af,ai,ae,t0,t1,t2,t3,t6,t79,t80,t81,hst,hys,a1,a3,hJ6.hd,hJ6.hs,nZ (l:=Dj) (i:=y) (by omega),oG (l:=Sj) (i:=x) (by omega),oG (l:=Sj) (i:=y) (by omega),e1,e2,m1,m2,m3,m7,m8,m9,m13,m14,m15,m16]
    refine ⟨by omega,by omega,hyn,by omega,hx,by omega,hyn,by omega,?_⟩
    have hmem:∀ z,z∈(x :: Tl).take (j+1)↔z=y∨z∈(x :: Tl).take j:=fun z=>by rw[htk,Uy,UT]; exact Or.comm
    refine aN hk2 (by omega) ⟨Dj.set y eL,Sj.set y (sF Sj x),(hJ6.Kf hC (by simp[hdlj])).xC hC (by simp[hslj]),?_,?_,t0,t1,t2,t3,t6,t79,t80,rfl⟩
    ·rw[B5 (by omega),hDj]
     funext z
     simp only[jq,hmem]
     by_cases q1:z=y
     ·rw[T9 q1,T9 (.inl q1)]
     ·by_cases q2:z∈(x :: Tl).take j
      ·rw[T6 q1,T9 q2,T9 (.inr q2)]
      ·rw[T6 q1,T6 q2,T6 (fun h=>h.elim q1 q2)]
    ·rw[HQ (by omega),hsx,hSj]
     funext z
     simp only[jq,hmem]
     by_cases q1:z=y
     ·rw[T9 q1,T9 (.inl q1)]
     ·by_cases q2:z∈(x :: Tl).take j
      ·rw[T6 q1,T9 q2,T9 (.inr q2)]
      ·rw[T6 q1,T6 q2,T6 (fun h=>h.elim q1 q2)]
   ·have hj:j=Tl.length+1:=by omega
    rw[Uo (by simp; omega)] at hDj hSj
    simp (disch:=omega) only [↓wr,seval,wq,ah,ag,ak,aa,ab,af,ai,ae,t1,t6,hJ6.hq,e3,hsh]
    refine .inr ⟨Dj,Sj,st,fa (x :: Tl),hdlj,hslj,?_,?_,?_,?_,hnewst,fun id h1 h2 h3 h4=>?_,by rw[hDj,hSj]; exact hpop⟩
    ·show (H6.set c.qs _) c.d=_
     simp only[View.set]; rw[T6 m13]; exact hJ6.hd
    ·show (H6.set c.qs _) c.s=_
     simp only[View.set]; rw[T6 m14]; exact hJ6.hs
    ·simp[View.set]
    ·show (H6.set c.qs _) st=_
     simp only[View.set]; rw[T6 (fun e=>hC.live.1 (by rw[← e]; exact hnewst)),hst]; exact Vl (dy.arr 1) UA
    ·show (H6.set c.qs _) id=_
     simp only[View.set]; rw[T6 h2]; exact hJ6.keep id h1 h2 h3 h4
def fu:SC :=
 .seq (ao [bg 9 .lss 8 7]) <|
 .seq (.cond (.tmp 9) (.skip) (.exit 0)) <|
 .seq (.block 1 (.seq (ao [aj 10 8,aj 5 10]) <|
 .seq (ao [aj 11 1,aj 12 0,aj 13 5,aR 14 2 12 13,bp 15 2 14,((some 16),.call (.tmp 11) [(.tmp 15)])]) <|
 .cond (.tmp 16) (.seq (ao [aj 17 5,aj 4 17]) <|
 .ret) (.skip))) <|
 ao [aQ 18 .add 8 1,aj 8 18]
def fL:SF:=⟨.seq (ao [bj 4 0]) <|
 .seq (.seq (ao [aj 6 0,aV 7 6,bj 8 0]) <|
 .block 0 (.loop fu)) <|
 .seq (ao [bj 4 (-1)]) <|
 .ret,
 [.tmp 4],19⟩
theorem jj:aU Tryz.prog 68 []=some fL:=by kernel_rfl
def xh:SF:=⟨.seq (ao [cO 2 0,bH 3 false]) <|
 .seq (ao [aD 4 0 2,ay 5 4,ay 6 1,bg 7 .eql 5 6,aj 3 7]) <|
 .ret,
 [.tmp 3],8⟩
theorem Ay:aU Tryz.prog 69 [2]=some xh:=by kernel_rfl
def wU:SC :=
 .seq (ao [bg 24 .lss 23 22]) <|
 .seq (.cond (.tmp 24) (.skip) (.exit 0)) <|
 .seq (.block 1 (.seq (ao [aR 25 1 21 23,ay 26 25,((some 10),.op (.alloc [(.val (.int .i64 0))])),(none,.op (.store 1 (.tmp 10) (.tmp 26)))]) <|
 .seq (ao [aj 27 0,aj 28 8,aR 29 2 27 28,aD 30 1 29,ay 31 30,((some 32),.op (.sL 69 [] [(.tmp 10)])),bD 33 68 [31,32],aj 11 33]) <|
 .seq (.seq (ao [aj 34 11,aQ 35 .lss 34 0]) <|
 .cond (.tmp 35) (.seq (ao [bj 6 0,bH 7 false]) <|
 .ret) (.skip)) <|
 .seq (ao [aj 36 0,aj 37 8,aR 38 2 36 37,aD 39 1 38,ay 40 39,aj 41 11,aR 42 2 40 41,aD 43 1 42,ay 44 43,aj 8 44]) <|
 .seq (.region false [⟨none,[aj 45 8,aQ 46 .lss 45 0,aj 47 46]⟩,⟨(some (47,false)),[aj 48 8,aj 49 0,aV 50 49,bg 51 .geq 48 50]⟩,⟨none,[cU 52 47 51]⟩]) <|
 .cond (.tmp 52) (.seq (ao [bj 6 0,bH 7 false]) <|
 .ret) (.skip))) <|
 ao [aQ 53 .add 23 1,aj 23 53]
def zM:SF:=⟨.seq (ao [bj 6 0,bH 7 false]) <|
 .seq (ao [aj 12 1,aj 8 12]) <|
 .seq (.seq (.region false [⟨none,[aj 13 8,aQ 14 .lss 13 0,aj 15 14]⟩,⟨(some (15,false)),[aj 16 8,aj 17 0,aV 18 17,bg 19 .geq 16 18]⟩,⟨none,[cU 20 15 19]⟩]) <|
 .cond (.tmp 20) (.seq (ao [bj 6 0,bH 7 false]) <|
 .ret) (.skip)) <|
 .seq (.seq (ao [aj 21 2,aV 22 21,bj 23 0]) <|
 .block 0 (.loop wU)) <|
 .seq (ao [aj 54 8,aj 6 54,bH 7 true]) <|
 .ret,
 [.tmp 6,.tmp 7],55⟩
theorem Dg:aU Tryz.prog 28 []=some zM:=by kernel_rfl
set_option maxHeartbeats 2000000 in
theorem Kg (l:List dC) (hl:aY l) (f:FuncId) (cap:List V) (p:dC→Bool) (H:View) (hf:∀ x∈l,aC Tryz.prog f (.agg (kd x) :: cap) H fun r H'=>r=gb (p x)∧H'=H) :
  aC Tryz.prog 68 [.aL (fW l),.fn f [] cap] H fun r H'=>r=gi (cB p l 0)∧H'=H:=by
 refine aC.of mixed jj ?_
 unfold aY at hl
 simp (disch:=omega) only [↓wr,seval,wq,ah,ag,ak,aa,ab,af,ai,ae,fL,fW]
 refine bc.up l.length (fun i T H'=>H=H'∧cB p (l.drop i) i=cB p l 0∧T 0=.aL (l.map kd)∧T 1=.fn f [] cap∧T 7=gi l.length∧T 8=gi i) ⟨rfl,rfl,rfl,rfl,rfl,rfl⟩ ?_
 rintro i k T _ hk ⟨rfl,hi,h0,h1,h7,h8⟩
 simp (disch:=omega) only [↓wr,seval,wq,ah,ag,ak,aa,ab,af,ai,ae,fu,h0,h1,h7,h8]
 refine av.dec (fun hc=>?_) (fun hc=>?_)
 ·have hg:l[i]?=some (l[i]'(by omega)):=T4 (by omega)
  have hm:l[i]'(by omega)∈l:=Ud _
  rw[eM (show i < l.length by omega)] at hi
  generalize l[i]'(by omega)=x at hg hm hi
  simp (disch:=omega) only [↓wr,seval,wq,ah,ag,ak,aa,ab,af,ai,ae,h0,h1,h7,h8,T8,hg,Ue,kd]
  have hcall:=hf x hm
  simp only[kd] at hcall
  refine aE.ez (hcall.mono ?_)
  rintro r H2 ⟨rfl,rfl⟩
  simp only[cB] at hi
  simp (disch:=omega) only [↓wr,seval,wq,ah,ag,ak,aa,ab,af,ai,ae]
  refine av.split (fun hp=>?_) (fun hp=>?_)
  ·simp (disch:=omega) only [↓wr,seval,wq,ah,ag,ak,aa,ab,af,ai,ae,h0,h1,h7,h8]
   rw[← hi,T9 hp]
  ·simp (disch:=omega) only [↓wr,seval,wq,ah,ag,ak,aa,ab,af,ai,ae,h0,h1,h7,h8]
   refine aN hk (by omega) ⟨rfl,?_,h0,h1,h7,rfl⟩
   rw[T6 (by simp[hp])] at hi
   push_cast; exact hi
 ·rw[UB (by omega)] at hi
  simp (disch:=omega) only [↓wr,seval,wq,ah,ag,ak,aa,ab,af,ai,ae,h0,h1,h7,h8]
  rw[← hi]; rfl
theorem PB (x:dC) (s:Int) (q:Nat) (H:View) (hq:H q=.arr 1 [[gi s]]):aC Tryz.prog 69 [.agg (kd x),.ptr q 0 0] H fun r H'=>r=gb (decide (x.sym=s))∧H'=H:=by
 refine aC.of mixed Ay ?_
 simp (disch:=omega) only [↓wr,seval,wq,ah,ag,ak,aa,ab,af,ai,ae,xh,kd,hq]
 congr 2
theorem HN (s:Int):∀ (l:List dC) (i:Int),0≤i→(cB (fun e=>decide (e.sym=s)) l i < 0→kg l s = -1)∧(0≤cB (fun e=>decide (e.sym=s)) l i→∃ (k:Nat) (e:dC),cB (fun e=>decide (e.sym=s)) l i=i+k∧l[k]?=some e∧kg l s=e.to)
 | [],i,_=>⟨fun _=>rfl,fun h=>by simp[cB] at h⟩
 | x :: l,i,h0=>by
  simp only[cB,kg,Ul]
  by_cases h:x.sym=s
  ·rw[T9 h,T9 h]
   exact ⟨fun h=>by omega,fun _=>⟨0,x,by simp,rfl,rfl⟩⟩
  ·rw[T6 h,T6 h]
   obtain ⟨h1,h2⟩:=HN s l (i+1) (by omega)
   refine ⟨h1,fun h=>?_⟩
   obtain ⟨k,e,k1,k2,k3⟩:=h2 h
   exact ⟨k+1,e,by rw[k1]; push_cast; omega,by simpa using k2,k3⟩
theorem L3 {l:List dC} (h:∀ e∈l,cp e.to) (s:Int):cp (kg l s):=by
 induction l with
 | nil=>unfold cp; simp[kg]
 | cons e l ih =>
  rw[kg]; split
  ·exact h e (by simp)
  ·exact ih fun x hx=>h x (by simp[hx])
set_option maxHeartbeats 8000000 in
theorem Pd (a:List aT) (_:aY a) (he:∀ s∈a,aY s.bm∧∀ e∈s.bm,cp e.sym∧cp e.to) (fr:Int) (syms:List Int) (hs:aY syms):aG Tryz.prog 28 [bO a,gi fr,encI syms] (.bE [gi (jY a fr syms).1,gb (jY a fr syms).2]):=by
 unfold aY at hs
 refine aG.tree (by
  intro v hv; simp at hv
  rcases hv with rfl | rfl | rfl
  ·exact uh _
  ·exact .val _
  ·exact fM _) (D3 (.val _) (.val _)) fun H=>?_
 refine aC.of mixed Dg ?_
 unfold jY
 simp (disch:=omega) only [↓wr,seval,wq,ah,ag,ak,aa,ab,af,ai,ae,zM,bO,encI]
 refine av.dec (fun h1=>?_) (fun h1=>?_)
 ·simp (disch:=omega) only [↓wr,seval,wq,ah,ag,ak,aa,ab,af,ai,ae]
  rw[T9 (by omega)]
 simp (disch:=omega) only [↓wr,seval,wq,ah,ag,ak,aa,ab,af,ai,ae,bO]
 refine av.dec (fun h2=>?_) (fun h2=>?_)
 ·simp (disch:=omega) only [↓wr,seval,wq,ah,ag,ak,aa,ab,af,ai,ae]
  rw[T9 (by omega)]
 rw[T6 (by omega)]
 simp (disch:=omega) only [↓wr,seval,wq,ah,ag,ak,aa,ab,af,ai,ae]
 refine bc.up syms.length (fun i T H'=>∃ at_:Int,0≤at_∧at_ < a.length∧lJ a at_ (syms.drop i)=lJ a fr syms∧T 0=bO a∧T 8=gi at_∧T 21=encI syms∧T 22=gi syms.length∧T 23=gi i) ⟨fr,by omega,by omega,rfl,rfl,rfl,rfl,rfl,rfl⟩ ?_
 rintro i k T H' hk ⟨at_,q1,q2,hw,t0,t8,t21,t22,t23⟩
 simp (disch:=omega) only [↓wr,seval,wq,ah,ag,ak,aa,ab,af,ai,ae,wU,t0,t8,t21,t22,t23,encI]
 refine av.dec (fun hc=>?_) (fun hc=>?_)
 ·have hx:syms[i]?=some (syms[i]'(by omega)):=T4 (by omega)
  rw[UO (show i < syms.length by omega)] at hw
  generalize syms[i]'(by omega)=x at hx hw
  have hS:a[at_.toNat]?=some (a.getD at_.toNat bz):=getD_some (by omega)
  obtain ⟨hE1,hE2⟩:=he _ (Ub hS)
  rw[lJ] at hw
  have hb:=L3 (fun e h=>(hE2 e h).2) x
  generalize a.getD at_.toNat bz=S at hS hE1 hE2 hw hb
  simp (disch:=omega) only [↓wr,seval,wq,ah,ag,ak,aa,ab,af,ai,ae,t0,t8,t21,t22,t23,encI,T8,hx,Ue]
  intro q hq
  rw[set_set]
  have hqq:(H'.set q (.arr 1 [[gi x]])) q=.arr 1 [[gi x]]:=by simp[View.set]
  generalize H'.set q (.arr 1 [[gi x]])=H4 at hqq
  simp (disch:=omega) only [↓wr,seval,wq,ah,ag,ak,aa,ab,af,ai,ae,t0,t8,bO,T8,hS,Ue,j6]
  refine aE.ez ((Kg S.bm hE1 69 [.ptr q 0 0] (fun e=>decide (e.sym=x)) H4 (fun e _=>PB e x q H4 hqq)).mono ?_)
  rintro r H5 ⟨rfl,rfl⟩
  obtain ⟨i1,i2⟩:=HN x S.bm 0 (by omega)
  unfold aY at hE1
  simp (disch:=omega) only [↓wr,seval,wq,ah,ag,ak,aa,ab,af,ai,ae]
  refine av.dec (fun h3=>?_) (fun h3=>?_)
  ·simp (disch:=omega) only [↓wr,seval,wq,ah,ag,ak,aa,ab,af,ai,ae]
   rw[← hw,i1 h3,T6 (by omega)]
  ·obtain ⟨j,e,j1,j2,j3⟩:=i2 (by omega)
   have jl:=(Uj.1 j2).1
   rw[j1]
   have hj:((0:Int)+(j:Int))=(j:Int):=by omega
   rw[hj]
   rw[j3] at hw hb
   unfold cp at hb
   simp (disch:=omega) only [↓wr,seval,wq,ah,ag,ak,aa,ab,af,ai,ae,t0,t8,bO,T8,hS,Ue,j6,fW,j2,kd]
   refine av.dec (fun h4=>?_) (fun h4=>?_)
   ·simp (disch:=omega) only [↓wr,seval,wq,ah,ag,ak,aa,ab,af,ai,ae]
    rw[← hw,T6 (by omega)]
   ·simp (disch:=omega) only [↓wr,seval,wq,ah,ag,ak,aa,ab,af,ai,ae,t0,bO]
    refine av.dec (fun h5=>?_) (fun h5=>?_)
    ·simp (disch:=omega) only [↓wr,seval,wq,ah,ag,ak,aa,ab,af,ai,ae]
     rw[← hw,T6 (by omega)]
    ·simp (disch:=omega) only [↓wr,seval,wq,ah,ag,ak,aa,ab,af,ai,ae,t0,t21,t22,t23]
     rw[T9 ⟨by omega,by omega⟩] at hw
     exact aN hk (by omega) ⟨e.to,by omega,by omega,hw,t0,rfl,t21,t22,rfl⟩
 ·simp (disch:=omega) only [↓wr,seval,wq,ah,ag,ak,aa,ab,af,ai,ae,t8]
  rw[UB (by omega),lJ] at hw
  rw[← hw]
theorem ow.start {n:Nat} {E:Nat→List Nat} {S0:Nat→BV} : ow n E S0 (fun _=>0) [] S0 where
 nd:=.nil
 lt:=fun _ h=>by simp at h
 zero:=fun _ _ _=>⟨rfl,by simp⟩
 Ec:=fun _ _ h=>by simp[eL] at h
 on:=fun _ _ h=>absurd rfl h
 sound:=fun z t _ h=>⟨z,.refl,h⟩
 base:=fun _ _ _ h=>h
theorem Rg (n:Nat):dF (List.replicate n 0)=fun _=>0:=by
 funext z
 simp only[dF,T0,Vx]
 split <;> rfl
theorem iq {p:Prop} [Decidable p] {k:Nat} {es:List (List V)} {o:dy} (h:(if p then dy.arr k es else o)=.dead):¬ p∧o=.dead:=by
 split at h
 ·simp at h
 ·rename_i hp; exact ⟨hp,h⟩
structure RY (n:Nat) (E:Nat→List Nat) (H:View) (W s e:Nat) (us:List V) (fs:V × V × V × V × V × V × V × V):Prop where
 hW:H W=.arr 10 [[fs.1,fs.2.1,fs.2.2.1,fs.2.2.2.1,fs.2.2.2.2.1,fs.2.2.2.2.2.1,fs.2.2.2.2.2.2.1,fs.2.2.2.2.2.2.2,.sl s 0 n 1,.sl e 0 n 1]]
 he:H e=.arr 1 (us.map fun u=>[u])
 hl:us.length=n
 hu:∀ x,x < n→bf H (us.getD x .any) 1 (fa (E x))
 hE:∀ x,x < n→(E x).length≤1000000000∧∀ y∈E x,y < n
 hw:cG fs.2.2.2.2.2.2.2=some n
 ns:W≠s∧e≠s∧∀ x,x < n→owner (us.getD x .any)≠some s
set_option maxHeartbeats 16000000 in
theorem EB {n:Nat} {E:Nat→List Nat} {H:View} {W s e:Nat} {us:List V} {fs:V × V × V × V × V × V × V × V} (hC:RY n E H W s e us fs) (h1:1≤n) (hn:n≤100000) (Sl:List BV) (hs:H s=.arr 1 (bY Sl)) (hsl:Sl.length=n) :
  aC Tryz.prog 75 [.ptr W 0 0] H fun _ H'=>∃ Sl':List BV,Sl'.length=n∧H' s=.arr 1 (bY Sl')∧(∀ z t,z < n→((sF Sl' z).getLsbD t=true↔lg E (sF Sl) z t))∧∀ id,H id≠.dead→id≠s→H' id=H id:=by
 obtain ⟨f0,f1,f2,f3,f4,f5,f6,f7⟩:=fs
 refine aC.of mixed wC ?_
 have hW:=hC.hW
 have hw:=hC.hw
 simp only at hW hw
 simp (disch:=omega) only [↓wr,seval,wq,ah,ag,ak,aa,ab,af,ai,ae,qX,hW,hw]
 refine ⟨⟨by omega,by unfold aK; omega,by unfold aK; omega⟩,fun h0=>by omega,fun _ d hdd=>?_⟩
 intro qd j8 qs hqs qv xc
 obtain ⟨a1,j8⟩:=iq j8
 obtain ⟨a2,hqs⟩:=iq hqs
 rw[T6 a2] at hqs
 obtain ⟨a3,hqs⟩:=iq hqs
 obtain ⟨a4,xc⟩:=iq xc
 obtain ⟨a5,xc⟩:=iq xc
 rw[T6 a5] at xc
 obtain ⟨a6,xc⟩:=iq xc
 have lw:∀ {id k es},H id=.arr k es→id≠d∧id≠qd∧id≠qs∧id≠qv:=fun {id k es} h=>by
  refine ⟨fun e=>?_,fun e=>?_,fun e=>?_,fun e=>?_⟩ <;> rw[e] at h <;> simp_all
 obtain ⟨w1,w2,w3,w4⟩:=lw hW
 obtain ⟨s1,s2,s3,s4⟩:=lw hs
 obtain ⟨e1,e2,e3,e4⟩:=lw hC.he
 simp (disch:=omega) only [↓wr,seval,wq,ah,ag,ak,aa,ab,af,ai,ae,w1,w2,w3,w4,hw]
 generalize hH0:View.set (View.set _ _ _) qv (dy.arr 1 [[V.fn _ _ _]])=H0
 have hk:∀ id,id≠d→id≠qd→id≠qs→id≠qv→H0 id=H id:=fun id k1 k2 k3 k4=>by
  rw[← hH0]; simp only[View.set]; rw[T6 k4,T6 k4,T6 k3,T6 k2,T6 k2,T6 k1]
 have hqv0:H0 qv=.arr 1 [[.fn 122 [] [.ptr qs 0 0,.ptr qd 0 0,.aO [.ptr W 0 0] 0,.ptr qv 0 0]]]:=by rw[← hH0]; simp[View.set]
 have hqs0:H0 qs=.arr 1 [[.emp 1]]:=by rw[← hH0]; simp only[View.set]; rw[T6 (Ne.symm a4),T6 (Ne.symm a4)]; simp
 have hqd0:H0 qd=.arr 1 [[.sl d 0 n 1]]:=by rw[← hH0]; simp only[View.set]; rw[T6 (Ne.symm a5),T6 (Ne.symm a5),T6 (Ne.symm a2)]; simp
 have hd0:H0 d=.arr 1 (bZ (List.replicate n 0)):=by rw[← hH0]; simp only[View.set]; rw[T6 (Ne.symm a6),T6 (Ne.symm a6),T6 (Ne.symm a3),T6 (Ne.symm a1),T6 (Ne.symm a1)]; simp
 clear hH0
 let c:CC:=⟨qs,qd,qv,W,d,s,e,f0,f1,f2,f3,f4,f5,f6,f7,us,H0⟩
 have hou:∀ x,x < n→∀ id,owner (us.getD x .any)=some id→id≠d∧id≠qd∧id≠qs∧id≠qv:=fun x hx id ho=>by
  rcases hC.hu x hx with ⟨_,k,k2⟩ | ⟨m,k1,k2⟩
  ·rw[k2] at ho; simp[owner] at ho
  ·rw[k1] at ho; simp only[owner,T7] at ho
   rw[← ho]; exact lw k2
 have hSC:Bn c n E:={
  j8:=hqd0
  xc:=hqv0
  hW:=by rw[← hW]; exact hk W w1 w2 w3 w4
  he:=by rw[← hC.he]; exact hk e e1 e2 e3 e4
  hl:=hC.hl
  hu:=fun x hx=>by
   rcases hC.hu x hx with h | ⟨m,k1,k2⟩
   ·exact .inl h
   ·refine .inr ⟨m,k1,?_⟩
    obtain ⟨q1,q2,q3,q4⟩:=lw k2
    rw[← k2]; exact hk m q1 q2 q3 q4
  hE:=hC.hE
  live:=⟨by simp only[c]; rw[hqs0]; simp,by simp only[c]; rw[hd0]; simp,by simp only[c]; rw[hk s s1 s2 s3 s4,hs]; simp⟩
  ne:=⟨a3,Ne.symm s3,Ne.symm s1⟩
  vJ:=fun id h=>by
   obtain ⟨n1,n2,n3⟩:=hC.ns
   rcases h with rfl | rfl | rfl | rfl | ⟨x,hx,ho⟩
   ·exact ⟨Ne.symm a2,a1,Ne.symm s2⟩
   ·exact ⟨a4,a6,Ne.symm s4⟩
   ·exact ⟨w3,w1,n1⟩
   ·exact ⟨e3,e1,n2⟩
   ·obtain ⟨q1,q2,q3,q4⟩:=hou x hx id ho
    exact ⟨q3,q1,fun e=>n3 x hx (by have e2:id=s:=e; rw[← e2]; exact ho)⟩ }
 have hJ0:lB c n H0 (List.replicate n 0) [] Sl (.emp 1):=⟨by simp,hsl,hd0,by simp only[c]; rw[hk s s1 s2 s3 s4,hs],hqs0,.nil,fun id h=>by simp[owner] at h,fun id _ _ _ _=>rfl⟩
 refine bc.up n (fun i T H'=>∃ (Dl:List Int) (Sx:List BV) (u:V),lB c n H' Dl [] Sx u∧ow n E (sF Sl) (dF Dl) [] (sF Sx)∧(∀ z,z < i→dF Dl z=eL)∧T 2=.ptr qd 0 0∧T 4=.ptr qv 0 0∧T 17=gi n∧T 18=gi i) ⟨List.replicate n 0,Sl,.emp 1,hJ0,by rw[Rg]; exact ow.start,fun z hz=>by omega,rfl,rfl,rfl,rfl⟩ ?_
 rintro i k T H' hk2 ⟨Dl,Sx,u,hJ,hG,hall,t2,t4,t17,t18⟩
 obtain ⟨b1,b2,b3,b4⟩:=hJ.at hSC
 have hdl:=hJ.dl
 have hd:=hJ.hd
 simp only[c,CC.fn] at b1 b2 hd
 simp (disch:=omega) only [↓wr,seval,wq,ah,ag,ak,aa,ab,af,ai,ae,oR,t2,t4,t17,t18]
 refine av.dec (fun hc=>?_) (fun hc=>?_)
 ·have hi:i < n:=by omega
  simp (disch:=omega) only [↓wr,seval,wq,ah,ag,ak,aa,ab,af,ai,ae,t2,t4,t17,t18,b1,hd,nZ (l:=Dl) (i:=i) (by omega)]
  refine ⟨hi,by omega,?_⟩
  refine av.eq (fun hz=>?_) (fun hz=>?_)
  ·simp (disch:=omega) only [↓wr,seval,wq,ah,ag,ak,aa,ab,af,ai,ae,t4,b2]
   refine aE.ez ((Pj hSC hn (sF Sl) (Fu n (dF Dl)) H' Dl [] Sx i (Ug _) ⟨u,hJ⟩ hG hi hz).mono ?_)
   rintro r H5 ⟨Dl5,St5,Sl5,⟨u5,hJ5⟩,hV⟩
   obtain ⟨rfl,hfar⟩:=hV.top hi
   simp (disch:=omega) only [↓wr,seval,wq,ah,ag,ak,aa,ab,af,ai,ae,t2,t4,t17,t18]
   refine aN hk2 (by omega) ⟨Dl5,Sl5,u5,hJ5,hV.1,fun z hz2=>?_,t2,t4,t17,rfl⟩
   by_cases e:z=i
   ·rw[e]; exact hfar
   ·have:=hall z (by omega)
    rw[(hV.2.1 z (by rw[this]; decide)).1]; exact this
  ·simp (disch:=omega) only [↓wr,seval,wq,ah,ag,ak,aa,ab,af,ai,ae,t2,t4,t17,t18]
   refine aN hk2 (by omega) ⟨Dl,Sx,u,hJ,hG,fun z hz2=>?_,t2,t4,t17,rfl⟩
   by_cases e:z=i
   ·rw[e]
    refine U7 fun hf=>?_
    obtain ⟨p,k1,_⟩:=hG.on i hi hz hf
    simp at k1
   ·exact hall z (by omega)
 ·simp (disch:=omega) only [↓wr,seval,wq,ah,ag,ak,aa,ab,af,ai,ae]
  refine ⟨Sx,hJ.sl,hJ.hs,fun z t hz=>hG.all (fun z hz=>hall z (by omega)) hz,fun id h1 h2=>?_⟩
  have q:id≠d∧id≠qd∧id≠qs∧id≠qv:=⟨fun e=>h1 (by rw[e]; exact hdd),fun e=>h1 (by rw[e]; exact j8),fun e=>h1 (by rw[e]; exact hqs),fun e=>h1 (by rw[e]; exact xc)⟩
  obtain ⟨q1,q2,q3,q4⟩:=q
  have hkk:=hk id q1 q2 q3 q4
  rw[← hkk]
  exact hJ.keep id (by simp only[c]; rw[hkk]; exact h1) q3 q1 h2
end Gv
