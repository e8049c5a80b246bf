/-
  Part 11 of the proof: what the machine does and what the functions answer.
  Conditions: those that each lemma names.
-/
import Derived.Test.YtihmlbdfcmfbdaaGreatSGzB1J
set_option linter.unusedSimpArgs false
set_option linter.unusedVariables false
set_option maxRecDepth 100000
namespace Gv
open Go Go.Proofs
def dx (a:List aP) (p:Nat) (s:Int):Nat:=(jB a p [s]).1.toNat
def dq (a:List aP) (p:Nat) (s:Int):Prop:=∃ e∈(a.getD p bm).aX,e.sym=s
noncomputable abbrev gC (g:ao) (a:List aP) (p:Nat):List aJ:=cQ g (a.getD p bm).bh
inductive gS (a:List aP):Nat→List Int→Nat→Prop
 | nil {p:Nat} : gS a p [] p
 | cons {p q:Nat} {s:Int} {X:List Int} : dq a p s→gS a (dx a p s) X q→gS a p (s :: X) q
theorem gS.snoc {a:List aP} {p q:Nat} {X:List Int} (h:gS a p X q) {s:Int} (he:dq a q s):gS a p (X ++ [s]) (dx a q s):=by
 induction h with
 | nil=>exact .cons he .nil
 | cons h1 _ ih=>exact .cons h1 (ih he)
theorem gS.one {a:List aP} {p q r:Nat} {X:List Int} (h:gS a p X q) (k:gS a p X r):q=r:=by
 induction h with
 | nil=>cases k; rfl
 | cons h1 _ ih=>cases k with | cons _ k=>exact ih k
theorem ec {a:List aP} {p:Nat} {s:Int} (h:dq a p s):p < a.length:=by
 obtain ⟨e,he,_⟩:=h; exact (xf he).1
theorem F1 {l:List c8} {s:Int} (h:∃ e∈l,e.sym=s):∃ e∈l,e.sym=s∧jH l s=e.to:=by
 induction l with
 | nil=>obtain ⟨e,he,_⟩:=h; simp at he
 | cons e l ih =>
  rw[jH]
  by_cases hs:e.sym=s
  ·rw[Ra hs]; exact ⟨e,by simp,hs,rfl⟩
  ·rw[Q9 hs]
   obtain ⟨e2,h1,h2⟩:=h
   rcases Rm.1 h1 with rfl | h1
   ·exact absurd h2 hs
   ·obtain ⟨e3,k1,k2⟩:=ih ⟨e2,h1,h2⟩
    exact ⟨e3,by simp[k1],k2⟩
theorem MD {g:ao} {i j:Nat} (h:aZ g i=aZ g j):i=j:=by
 have h1:=tP g i
 rw[h,tP] at h1
 omega
theorem xo (g:ao) (l:List aJ) (n:Nat):(jz g l n).Nodup:=by
 unfold jz
 unfold List.Nodup
 rw[Tm]
 exact ((List.nodup_range (n:=n)).filter _).imp fun hij e=>hij (MD e)
theorem Mr {l:List c8} (h:(l.map c8.sym).Nodup) {e:c8} (he:e∈l):jH l e.sym=e.to:=by
 induction l with
 | nil=>simp at he
 | cons x l ih =>
  simp only[RE,RW] at h
  rw[jH]
  rcases Rm.1 he with rfl | he
  ·rw[Ra rfl]
  ·rw[Q9 (fun e2=>h.1 (by rw[e2]; exact List.mem_map_of_mem he))]
   exact ih h.2 he
structure bU (g:ao) (a:List aP):Prop where
 b7:g.dL
 ok:Da g a
 e:jd g a
 x:Nh g a
 pos:1≤a.length
section
variable {g:ao} {a:List aP}
theorem bU.bh (h:bU g a) {p:Nat} (hp:p < a.length):∀ x∈(a.getD p bm).bh,dc g x:=(h.ok.bh _ (Re (getD_some hp))).2.2
theorem bU.has (h:bU g a) {p:Nat} (hp:p < a.length) {x:aJ} (hx:x∈gC g a p):dc g x:=((df h.b7 (h.bh hp)).1 hx).has (h.bh hp)
theorem bU.kB (h:bU g a) {p:Nat} (hp:p < a.length) {s:Int} : dq a p s↔∃ x∈gC g a p,bO g x=(s,true):=by
 have hs:=h.x.all _ (Re (getD_some (d:=bm) hp))
 have hmm:dq a p s↔s∈((a.getD p bm).aX.map c8.sym):=by
  simp only[dq,Rv]
 rw[hmm,hs]
 simp only[jz,Rv,RQ,R3,Rn]
 constructor
 ·rintro ⟨i,⟨hi,hne⟩,rfl⟩
  obtain ⟨y,hy⟩:=List.exists_mem_of_ne_nil _ hne
  obtain ⟨x,hx,hn,_⟩:=lE.1 hy
  exact ⟨x,hx,hn⟩
 ·rintro ⟨x,hx,hn⟩
  obtain ⟨r1,r2⟩:=nM (nF h.b7 (h.has hp hx) hn)
  obtain ⟨r3,r4⟩:=E3 r1
  refine ⟨(ji g s).toNat,⟨by omega,?_⟩,r4⟩
  rw[r4]
  exact List.ne_nil_of_mem (lE.2 ⟨x,hx,hn,rfl⟩)
theorem bU.dx (h:bU g a) {p:Nat} {s:Int} (he:dq a p s):∃ e∈(a.getD p bm).aX,e.sym=s∧e.to=dx a p s∧dx a p s < a.length∧jB a p [s]=((dx a p s:Int),true):=by
 have hp:=ec he
 have hm:=Re (getD_some (d:=bm) hp)
 obtain ⟨e,h1,h2,h3⟩:=F1 he
 obtain ⟨t1,t2⟩:=h.ok.to _ hm _ h1
 have hw:jB a p [s]=(e.to,true):=by
  unfold jB
  rw[Q9 (by omega),kI,Rs,h3,Ra ⟨t1,t2⟩,kI]
 have hg:((Gv.dx a p s:Nat):Int)=e.to:=by unfold Gv.dx; rw[hw]; simp; omega
 exact ⟨e,h1,h2,hg.symm,by omega,by rw[hw,hg]⟩
theorem bU.L8 (h:bU g a) {p:Nat} {s:Int} (he:dq a p s):(a.getD (Gv.dx a p s) bm).bh=bC g (gC g a p) s:=by
 have hm:=Re (getD_some (d:=bm) (ec he))
 obtain ⟨e,h1,h2,h3,_⟩:=h.dx he
 have:=h.e.kB _ hm e h1
 rw[h3,Rs,h2] at this
 exact this
theorem bU.step (h:bU g a) {p:Nat} (hp:p < a.length) {x:aJ} (hx:x∈gC g a p) {s:Int} (hn:bO g x=(s,true)):dq a p s∧(⟨x.aD,x.dot+1⟩:aJ)∈(a.getD (Gv.dx a p s) bm).bh∧(⟨x.aD,x.dot+1⟩:aJ)∈gC g a (Gv.dx a p s)∧Gv.dx a p s < a.length:=by
 have he:=(h.kB hp).2 ⟨x,hx,hn⟩
 obtain ⟨_,_,_,_,hl,_⟩:=h.dx he
 have hk:(⟨x.aD,x.dot+1⟩:aJ)∈(a.getD (Gv.dx a p s) bm).bh:=by
  rw[h.L8 he]; exact lE.2 ⟨x,hx,hn,rfl⟩
 exact ⟨he,hk,(df h.b7 (h.bh hl)).2 (.base hk),hl⟩
theorem bU.QI (h:bU g a) {p:Nat} {s:Int} (he:dq a p s):∀ y∈(a.getD (Gv.dx a p s) bm).bh,1≤y.dot:=by
 intro y hy
 rw[h.L8 he] at hy
 obtain ⟨x,hx,_,rfl⟩:=lE.1 hy
 have:=(h.has (ec he) hx).2
 simp only; omega
theorem bU.QX (h:bU g a) {p:Nat} {s:Int} (he:dq a p s):Gv.dx a p s≠0:=fun e=>by
 have:=h.QI he ⟨-1,0⟩ (by rw[e,h.e.first]; simp)
 simp at this
theorem bU.prev (h:bU g a) {i:Nat} (hi:i < a.length) {x:aJ} (hx:x∈(a.getD i bm).bh) (h0:0 < i):∃ (p:Nat) (y:aJ) (s:Int),p < i∧p < a.length∧y∈gC g a p∧bO g y=(s,true)∧x=⟨y.aD,y.dot+1⟩∧dq a p s∧Gv.dx a p s=i:=by
 obtain ⟨p,e,hp,he,ht⟩:=h.x.back i h0 hi
 obtain ⟨hpl,hm⟩:=xf he
 have hk:=h.e.kB _ hm e he
 rw[ht,Rs] at hk
 rw[hk] at hx
 obtain ⟨y,hy,hn,rfl⟩:=lE.1 hx
 have hE:dq a p e.sym:=⟨e,he,rfl⟩
 refine ⟨p,y,e.sym,hp,hpl,hy,hn,rfl,hE,?_⟩
 have h1:=Mr (by rw[h.x.all _ hm]; exact xo _ _ _) he
 have hw:jB a p [e.sym]=(e.to,true):=by
  have:=h.ok.to _ hm _ he
  unfold jB
  rw[Q9 (by omega),kI,Rs,h1,Ra this,kI]
 unfold Gv.dx
 rw[hw,ht]; rfl
theorem sU {x:aJ} {s:Int} (hx:dc g x) (h:bO g x=(s,true)):∃ d:Nat,x.dot=d∧d < (aI g x.aD).length∧(aI g x.aD).drop d=s :: (aI g x.aD).drop (d+1):=by
 obtain ⟨h1,h2⟩:=rV h
 have:=hx.2
 refine ⟨x.dot.toNat,by omega,by omega,?_⟩
 rw[RX (show x.dot.toNat < (aI g x.aD).length by omega)]
 rw[Q6,Q7 (show x.dot.toNat < (aI g x.aD).length by omega)] at h2
 simp at h2
 rw[h2]
theorem nS {r:Int} {d:Nat} {s:Int} {l:List Int} (h:(aI g r).drop d=s :: l):bO g ⟨r,d⟩=(s,true)∧(aI g r).drop (d+1)=l∧d < (aI g r).length:=by
 have hlt:d < (aI g r).length:=by
  rcases Rw d (aI g r).length with q | q
  ·exact q
  ·rw[RB q] at h; simp at h
 rw[RX hlt] at h
 simp only[Tu] at h
 refine ⟨?_,h.2,hlt⟩
 unfold bO
 rw[Q9 (by simp only; omega)]
 simp only[Rs,Q6,Q7 hlt,Rq,h.1]
theorem bU.fwd (h:bU g a) (r:Int):∀ (X:List Int) (d:Nat) (p:Nat),p < a.length→(⟨r,d⟩:aJ)∈gC g a p→(∃ l,(aI g r).drop d=X ++ l)→∃ q,q < a.length∧gS a p X q∧(⟨r,((d+X.length:Nat):Int)⟩:aJ)∈gC g a q
 | [],d,p,hp,hx,_=>⟨p,hp,.nil,by simpa using hx⟩
 | s :: X,d,p,hp,hx,⟨l,hl⟩=>by
  obtain ⟨n1,n2,n3⟩:=nS hl
  obtain ⟨s1,s2,s3,s4⟩:=h.step hp hx n1
  obtain ⟨q,q1,q2,q3⟩:=bU.fwd h r X (d+1) (Gv.dx a p s) s4 (by simpa using s3) ⟨l,n2⟩
  refine ⟨q,q1,.cons s1 q2,?_⟩
  rw[show d+(s :: X).length=d+1+X.length by simp; omega]
  exact q3
theorem bU.bwd (h:bU g a) (r:Int):∀ (d:Nat) (i:Nat),i < a.length→(⟨r,d⟩:aJ)∈gC g a i→∃ p,p < a.length∧gS a p ((aI g r).take d) i∧(⟨r,0⟩:aJ)∈gC g a p
 | 0,i,hi,hx=>⟨i,hi,by simpa using gS.nil,hx⟩
 | d+1,i,hi,hx=>by
  have hk:=((df h.b7 (h.bh hi)).1 hx).bh (.inl (by simp only; omega))
  have h0:0 < i:=Nat.pos_of_ne_zero fun e=>by
   subst e
   rw[h.e.first] at hk
   simp at hk
   omega
  obtain ⟨p,y,s,_,q2,q3,q4,q5,q6,q7⟩:=h.prev hi hk h0
  simp only[aJ.mk.injEq] at q5
  obtain ⟨yr,yd⟩:=y
  simp only at q5
  obtain ⟨rfl,q5⟩:=q5
  have hyd:yd=(d:Int):=by omega
  subst hyd
  obtain ⟨p',k1,k2,k3⟩:=bU.bwd h r d p q2 q3
  obtain ⟨d',e1,e2,e3⟩:=sU (h.has q2 q3) q4
  simp only at e1 e2 e3
  have:d'=d:=by omega
  subst this
  refine ⟨p',k1,?_,k3⟩
  have ht:(aI g r).take (d'+1)=(aI g r).take d' ++ [s]:=by
   rw[RG]
   congr 1
   have:=Sp (·[0]?) e3
   simp at this
   simp[this]
  rw[ht,← q7]
  exact k2.snoc q6
end
inductive mg (g:ao) (a:List aP):Nat→Int→Nat→Prop
 | fin:mg g a 0 g.start g.av.length
 | term {p:Nat} {B:Int} {t:Nat} : t < g.av.length→dq a (dx a p (-1 - B)) t→mg g a p B t
 | null {p:Nat} {B C:Int} {t:Nat} : 0≤C→dq a (dx a p (-1 - B)) (-1 - C)→(au g false).getD C.toNat false=true→mg g a (dx a p (-1 - B)) C t→mg g a p B t
inductive rN (g:ao) (a:List aP):Nat→Int→Nat→Prop
 | read {p:Nat} {B:Int} {t:Nat} : mg g a p B t→rN g a p B t
 | Eh {p p' k d:Nat} {B:Int} {t:Nat} : rN g a p' (ax g k).left t→k < g.rules.length→dq a p' (-1 - (ax g k).left)→0≤B→(ax g k).right[d]?=some (-1 - B)→gS a p' ((ax g k).right.take d) p→bZ ((ax g k).right.drop (d+1)) (au g false) false=true→rN g a p B t
theorem oG (null:List Bool) (first:List BV) (b:BV):∀ (l:List Int) (t:Nat),(eN null first b l).getLsbD t=true↔(eN null first 0 l).getLsbD t=true∨(bZ l null false=true∧b.getLsbD t=true)
 | [],t=>by simp[eN,bZ]
 | s :: l,t=>by
  have ih:=oG null first b l t
  rw[eN,eN]
  by_cases h0:0≤s
  ·rw[Ra h0,Ra h0]; simp[bZ,h0]
  ·rw[Q9 h0,Q9 h0]
   by_cases h1:null.getD (-1 - s).toNat false=true
   ·rw[Ra h1,Ra h1,R4,R4,Se,Se,ih]
    have:bZ (s :: l) null false=bZ l null false:=by
     rw[bZ,Sn,Q9 h0,h1]; rfl
    rw[this]
    constructor
    ·rintro (h | h | h)
     ·exact .inl (.inl h)
     ·exact .inl (.inr h)
     ·exact .inr h
    ·rintro ((h | h) | h)
     ·exact .inl h
     ·exact .inr (.inl h)
     ·exact .inr (.inr h)
   ·rw[Q9 h1,Q9 h1]
    have:bZ (s :: l) null false=false:=by
     rw[bZ,Sn,Q9 h0]
     simp only[Bool.not_eq_true] at h1
     rw[h1]; rfl
    rw[this]; simp
theorem wP {F:List Bool→List Bool} (hF:∀ is,eM is (F is)):∀ (k:Nat) (is:List Bool),is.length≤dE is+k→F (iter F k is)=iter F k is
 | 0,is,h=>by
  have h1:=hF is
  have h2:=qm (F is)
  have h3:=h1.dE
  rw[← h1.1] at h2
  have h4:=qm is
  exact (h3.2 (by omega)).symm
 | k+1,is,h=>by
  rw[iter]
  by_cases e:F is=is
  ·rw[e]
   have:iter F k is=is:=tF e k
   rw[this,e]
  ·refine wP hF k (F is) ?_
   have h1:=hF is
   have h3:=h1.dE
   have:dE is≠dE (F is):=fun q=>e (h3.2 q).symm
   rw[← h1.1]; omega
def pt (t:Nat) (fs:List BV):List Bool:=fs.map fun b=>b.getLsbD t
def KX (null:List Bool) (t:Nat) (is:List Bool):List Int→Bool
 | []=>false
 | s :: l=>if 0≤s then (dI s).getLsbD t else if null.getD (-1 - s).toNat false=true then is.getD (-1 - s).toNat false || KX null t is l else is.getD (-1 - s).toNat false
theorem oH (t:Nat) (fs:List BV) (i:Nat):(pt t fs).getD i false=(fs.getD i 0).getLsbD t:=by
 simp only[pt,Q6,Rc]
 cases fs[i]? with
 | none=>simp
 | some x=>rfl
theorem Eu (null:List Bool) (t:Nat) (fs:List BV):∀ l:List Int,(eN null fs 0 l).getLsbD t=KX null t (pt t fs) l
 | []=>by simp[eN,KX]
 | s :: l=>by
  rw[eN,KX]
  split
  ·rfl
  ·split
   ·rw[R4,Eu null t fs l,oH]
   ·rw[oH]
def jK (null:List Bool) (t:Nat) (is:List Bool) (r:aM):List Bool:=is.set r.left.toNat (is.getD r.left.toNat false || KX null t is r.right)
theorem Nl (null:List Bool) (t:Nat) (fs:List BV) (r:aM):pt t (jI null fs r)=jK null t (pt t fs) r:=by
 unfold jI jK
 rw[oH,← Eu,← R4]
 simp[pt,Sr]
theorem DO (null:List Bool) (t:Nat):∀ (l:List aM) (fs:List BV),pt t (l.foldl (jI null) fs)=l.foldl (jK null t) (pt t fs)
 | [],_=>rfl
 | r :: l,fs=>by rw[Rx,DO null t l,Nl]; rfl
theorem EG (g:ao) (null:List Bool) (t:Nat):∀ (n:Nat) (fs:List BV),pt t (iter (qy g null) n fs)=iter (fun is=>g.rules.foldl (jK null t) is) n (pt t fs)
 | 0,_=>rfl
 | n+1,fs=>by rw[iter,iter,EG g null t n]; exact Sp _ (DO null t g.rules fs)
theorem E4 (null:List Bool) (t:Nat) (is:List Bool) (r:aM):eM is (jK null t is r):=by
 refine ⟨by simp[jK],fun i hi=>?_⟩
 unfold jK
 simp only[Q6,Sz] at hi ⊢
 split
 ·rename_i e
  subst e
  split
  ·simp[hi]
  ·rename_i h; rw[RH (by omega)] at hi; simp at hi
 ·exact hi
theorem yj (null:List Bool) (t:Nat):∀ (l:List aM) (is:List Bool),eM is (l.foldl (jK null t) is)
 | [],is=>.refl _
 | r :: l,is=>(E4 null t is r).trans (yj null t l _)
theorem Cx {null:List Bool} {t:Nat} : ∀ {l:List aM} {is:List Bool},l.foldl (jK null t) is=is→∀ R∈l,jK null t is R=is
 | [],_,_,_,h=>by simp at h
 | R :: l,is,h,x,hx=>by
  rw[Rx] at h
  have h1:=yj null t l (jK null t is R)
  rw[h] at h1
  have h2:=(h1.EC (E4 null t is R))
  rcases Rm.1 hx with rfl | hx
  ·exact h2
  ·rw[h2] at h; exact Cx h x hx
theorem vF {g:ao} (hf:g.dL) (null:List Bool) {R:aM} (hR:R∈g.rules):j5 (eN null (cD g null) 0 R.right) ((cD g null).getD R.left.toNat 0):=by
 intro t ht
 have e:=EG g null t g.az.length (List.replicate g.az.length 0)
 have hfix:=wP (F:=fun is=>g.rules.foldl (jK null t) is) (fun is=>yj null t g.rules is) g.az.length (pt t (List.replicate g.az.length 0)) (by simp[pt])
 rw[← e] at hfix
 have h1:=Cx hfix R hR
 rw[Eu] at ht
 rw[← oH]
 have hb:=hf.left R hR
 have hl:R.left.toNat < (pt t (cD g null)).length:=by simp[pt,yL]; omega
 change jK null t (pt t (cD g null)) R=pt t (cD g null) at h1
 rw[← h1]
 unfold jK
 rw[Q6,S7 hl,ht,Bool.or_true]; rfl
theorem oP {t:Nat} (h:t≤31) (i:Nat):(dI (t:Int)).getLsbD i=true↔i=t:=by
 unfold dI
 rw[Ra ⟨by omega,by omega⟩,Tg,Rs]
 simp only[Rg,Rn]
 omega
theorem LQ {g:ao} (h:isRed g=true):∀ i:Nat,i < g.az.length→(au g true).getD i false=true:=by
 have hr:=iC h
 unfold isRed at h
 simp only[Rg,Sd,Rn] at h
 obtain ⟨h1,h2⟩:=h
 have hp:(au g true).getD g.start.toNat false=true:=by
  refine RY fun hn=>?_
  rw[mF hr,Q9 hn] at h1
  simp at h1
 have hred:=JN hr hp
 have e:(gL g).1=oX g (cE (dr (au g true) (bP g) g.rules)) (au g true) (bP g):=by rw[mF hr,Ra hp]
 rw[← e,← h2] at hred
 intro i hi
 rw[hred.len] at hi
 exact hred.Cy hi
theorem IX {g:ao} (h:isRed g=true) {x:Int} (hd:rv g x):(au g false).getD x.toNat false=true∨∃ t,((cD g (au g false)).getD x.toNat 0).getLsbD t=true:=by
 have hr:=iC h
 have hf:=bL hr
 induction hd with
 | mk R hR _ ih =>
  have key:∀ l:List Int,(∀ s∈l,s∈R.right)→bZ l (au g false) false=true∨∃ t,(eN (au g false) (cD g (au g false)) 0 l).getLsbD t=true:=by
   intro l
   induction l with
   | nil=>intro _; exact .inl rfl
   | cons s l il =>
    intro hs
    rw[eN]
    by_cases h0:0≤s
    ·rw[Ra h0]
     have h1:=hf.sym R hR s (hs s (by simp))
     have:=hf.av
     unfold gP at h1
     rw[Ra h0] at h1
     simp at h1
     obtain ⟨t,rfl⟩:∃ t:Nat,s=t:=⟨s.toNat,by omega⟩
     exact .inr ⟨t,(oP (by omega) t).2 rfl⟩
    ·rw[Q9 h0]
     rcases ih s (hs s (by simp)) (by omega) with h1 | ⟨t,ht⟩
     ·rw[Ra h1]
      rcases il fun x hx=>hs x (by simp[hx]) with h2 | ⟨t,ht⟩
      ·left
       rw[bZ,Sn,Q9 h0,h1]; exact h2
      ·exact .inr ⟨t,by rw[R4,ht,Bool.or_true]⟩
     ·right
      split
      ·exact ⟨t,by rw[R4,ht,Bool.true_or]⟩
      ·exact ⟨t,ht⟩
  rcases key R.right (fun _ h=>h) with h1 | ⟨t,ht⟩
  ·exact .inl (qg hr hR h1)
  ·exact .inr ⟨t,vF hf _ hR t ht⟩
theorem Aa {g:ao} (h:isRed g=true) {t0:Nat} (ht:t0 < 32):∀ l:List Int,(∀ s∈l,gP g s=true)→∃ t,(eN (au g false) (cD g (au g false)) (BitVec.twoPow 32 t0) l).getLsbD t=true
 | [],_=>⟨t0,by rw[eN,Tg]; simp[ht]⟩
 | s :: l,hs=>by
  have hr:=iC h
  have hf:=bL hr
  have h1:=hs s (by simp)
  have:=hf.av
  rw[eN]
  unfold gP at h1
  by_cases h0:0≤s
  ·rw[Ra h0]
   rw[Ra h0] at h1
   simp at h1
   obtain ⟨t,rfl⟩:∃ t:Nat,s=t:=⟨s.toNat,by omega⟩
   exact ⟨t,(oP (by omega) t).2 rfl⟩
  ·rw[Q9 h0]
   rw[Q9 h0] at h1
   simp at h1
   have hd:=uS hr (-1 - s).toNat (LQ h _ (by omega))
   obtain ⟨t2,ht2⟩:=Aa h ht l fun x hx=>hs x (by simp[hx])
   split
   ·exact ⟨t2,by rw[R4,ht2,Bool.or_true]⟩
   ·rename_i hn
    rcases IX h hd with h2 | ⟨t,h2⟩
    ·rw[Rs] at h2; exact absurd h2 hn
    ·rw[Rs] at h2; exact ⟨t,h2⟩
section
variable {g:ao} {a:List aP}
theorem fM {i:Nat} {x:aJ} : x∈(fj g a).getD i []↔i < a.length∧x∈gC g a i:=by
 unfold fj
 rw[Q6,Rc]
 rcases Rw i a.length with h | h
 ·rw[Q7 h]
  simp[h,gC,Q6,Q7 h]
 ·rw[RH h]
  simp; omega
theorem nA {x:aJ} {s:Int} (hx:dc g x) (h:bO g x=(s,true)):∃ d:Nat,x.dot=d∧(aI g x.aD).drop d=s :: iS g x∧(aI g x.aD).drop (d+1)=iS g x:=by
 obtain ⟨d,h1,h2,h3⟩:=sU hx h
 have e:(aI g x.aD).drop (d+1)=iS g x:=by
  unfold iS
  by_cases h0:0≤x.aD
  ·rw[Ra h0,h1,aI,Q9 (by omega)]; rfl
  ·rw[Q9 h0]
   have hr:x.aD = -1:=by have:=hx.1; omega
   rw[hr] at h2 ⊢
   simp only[aI,if_true] at h2 ⊢
   exact RB (by simp)
 exact ⟨d,h1,by rw[h3,e],e⟩
theorem tV {null:List Bool} {fs:List BV} {s:Int} {l:List Int} {u:Nat} : (eN null fs 0 (s :: l)).getLsbD u=true↔(0≤s∧(dI s).getLsbD u=true)∨(s < 0∧((fs.getD (-1 - s).toNat 0).getLsbD u=true∨(null.getD (-1 - s).toNat false=true∧(eN null fs 0 l).getLsbD u=true))):=by
 rw[eN]
 by_cases h0:0≤s
 ·rw[Ra h0]
  constructor
  ·intro h; exact .inl ⟨h0,h⟩
  ·rintro (h | h)
   ·exact h.2
   ·omega
 ·rw[Q9 h0]
  split
  ·rename_i hn
   rw[R4,Se]
   constructor
   ·rintro (h | h)
    ·exact .inr ⟨by omega,.inl h⟩
    ·exact .inr ⟨by omega,.inr ⟨hn,h⟩⟩
   ·rintro (h | ⟨_,h | h⟩)
    ·omega
    ·exact .inl h
    ·exact .inr h.2
  ·rename_i hn
   constructor
   ·intro h; exact .inr ⟨by omega,.inl h⟩
   ·rintro (h | ⟨_,h | h⟩)
    ·omega
    ·exact h
    ·exact absurd h.1 hn
def Hz (g:ao) (a:List aP) (q u:Nat):Prop:=(u < g.av.length∧dq a q u)∨∃ C:Int,0≤C∧dq a q (-1 - C)∧(au g false).getD C.toNat false=true∧mg g a q C u
theorem Hz.read {p u:Nat} {B:Int} (h:Hz g a (dx a p (-1 - B)) u):mg g a p B u:=by
 rcases h with ⟨h1,h2⟩ | ⟨C,h1,h2,h3,h4⟩
 ·exact .term h1 h2
 ·exact .null h1 h2 h3 h4
def qY (g:ao) (a:List aP) (fs:List BV):Prop:=∀ (C:Int) (q u:Nat),0≤C→(fs.getD C.toNat 0).getLsbD u=true→dq a q (-1 - C)→Hz g a q u
theorem Ip (hA:bU g a) {fs:List BV} (hG:qY g a fs) {r:Int} {u:Nat} : ∀ (l:List Int) (d q:Nat),q < a.length→(⟨r,d⟩:aJ)∈gC g a q→(aI g r).drop d=l→(eN (au g false) fs 0 l).getLsbD u=true→Hz g a q u
 | [],_,_,_,_,_,h=>by simp[eN] at h
 | s :: l,d,q,hq,hx,hl,h=>by
  obtain ⟨n1,n2,n3⟩:=nS hl
  obtain ⟨s1,s2,s3,s4⟩:=hA.step hq hx n1
  rcases tV.1 h with ⟨h0,h1⟩ | ⟨h0,h1⟩
  ·have h2:=nM (nF hA.b7 (hA.has hq hx) n1)
   have:=hA.b7.av
   obtain ⟨t,rfl⟩:∃ t:Nat,s=t:=⟨s.toNat,by omega⟩
   have:=(oP (by omega) u).1 h1
   subst this
   exact .inl ⟨by omega,s1⟩
  ·have e : -1 - (-1 - s)=s:=by omega
   rcases h1 with h1 | ⟨h1,h2⟩
   ·exact hG (-1 - s) q u (by omega) h1 (by rw[e]; exact s1)
   ·refine .inr ⟨-1 - s,by omega,by rw[e]; exact s1,h1,Hz.read ?_⟩
    rw[e]
    exact Ip hA hG l (d+1) _ s4 (by simpa using s3) n2 h2
theorem jn (hA:bU g a) {q:Nat} (hq:q < a.length) {C:Int} {k:Nat} (hC:0≤C) (hk:k < g.rules.length) (hl:(ax g k).left=C) (he:dq a q (-1 - C)):(⟨k,0⟩:aJ)∈gC g a q:=by
 obtain ⟨x,hx,hn⟩:=(hA.kB hq).1 he
 have hR:g.rules[k]?=some (ax g k):=by unfold ax; exact getD_some hk
 exact (df hA.b7 (hA.bh hq)).2 (.step ((df hA.b7 (hA.bh hq)).1 hx) hn (by omega) hR (by omega))
theorem JM (hA:bU g a) {fs:List BV} (hG:qY g a fs) {k:Nat} (hk:k < g.rules.length):qY g a (jI (au g false) fs (ax g k)):=by
 intro C q u hC hu he
 have hR:g.rules[k]?=some (ax g k):=by unfold ax; exact getD_some hk
 have h0:=(hA.b7.left _ (Re hR)).1
 unfold jI at hu
 rw[gz] at hu
 split at hu
 ·rename_i hc
  rw[R4,Se] at hu
  have hl:(ax g k).left=C:=by omega
  rcases hu with hu | hu
  ·exact hG C q u hC (by rw[← hl]; exact hu) he
  ·have hq:=ec he
   have hm:=jn hA hq hC hk hl he
   refine Ip hA hG _ 0 q hq hm ?_ hu
   rw[SK,aI,Q9 (by omega)]
 ·exact hG C q u hC hu he
theorem BY (hA:bU g a):∀ (l:List aM) (fs:List BV),(∀ R∈l,R∈g.rules)→qY g a fs→qY g a (l.foldl (jI (au g false)) fs)
 | [],_,_,h=>h
 | R :: l,fs,hl,h=>by
  obtain ⟨k,hk,e⟩:=Sk.1 (hl R (by simp))
  have hR:R=ax g k:=by
   have h2:g.rules[k]?=some (ax g k):=by unfold ax; exact getD_some hk
   rw[Q7 hk,e] at h2
   simpa using h2
  rw[Rx]
  refine BY hA l _ (fun x hx=>hl x (by simp[hx])) ?_
  rw[hR]
  exact JM hA h hk
theorem B5 (hA:bU g a):∀ (n:Nat) (fs:List BV),qY g a fs→qY g a (iter (qy g (au g false)) n fs)
 | 0,_,h=>h
 | n+1,fs,h=>by
  rw[iter]
  exact B5 hA n _ (BY hA g.rules fs (fun _ h=>h) h)
theorem Jf (hA:bU g a):qY g a (cD g (au g false)):=by
 refine B5 hA _ _ fun C q u hC hu he=>?_
 simp only[Q6,Tn] at hu
 split at hu <;> simp at hu
theorem PG (hA:bU g a) {i:Nat} {x:aJ} {t:Nat} (h:nt g (au g false) a (fj g a) i x t) :
  (x.aD < 0→t=g.av.length)∧(0≤x.aD→∃ p,gS a p ((aI g x.aD).take x.dot.toNat) i∧dq a p (-1 - (ax g x.aD).left)∧rN g a p (ax g x.aD).left t):=by
 induction h with
 | start=>exact ⟨fun _=>rfl,fun h=>by simp at h⟩
 | @move i x t s hl hn hm ih =>
  obtain ⟨hi,hx⟩:=fM.1 hl.mem
  have hH:=hA.has hi hx
  refine ⟨ih.1,fun h0=>?_⟩
  obtain ⟨p,q1,q2,q3⟩:=ih.2 h0
  obtain ⟨d,d1,d2,d3⟩:=nA hH hn
  refine ⟨p,?_,q2,q3⟩
  have hE:=((hA.kB hi).2 ⟨x,hx,hn⟩)
  have:=q1.snoc hE
  rw[d1] at this ⊢
  rw[show ((d:Int)+1).toNat=d+1 by omega,RG]
  have hg:(aI g x.aD)[d]?=some s:=by
   have:=Sp (·[0]?) d2
   simpa using this
  rw[hg]
  exact this
 | @begin i x t u s k hl hn hneg hk hL hm hu ih =>
  obtain ⟨hi,hx⟩:=fM.1 hl.mem
  have hH:=hA.has hi hx
  refine ⟨fun h=>by simp only at h; omega,fun _=>?_⟩
  obtain ⟨d,d1,d2,d3⟩:=nA hH hn
  obtain ⟨s1,s2,s3,s4⟩:=hA.step hi hx hn
  have e : -1 - (-1 - s)=s:=by omega
  refine ⟨i,by simpa using gS.nil,by simp only; rw[hL,e]; exact s1,?_⟩
  simp only
  rw[hL]
  rcases (oG _ _ _ _ _).1 hu with h1 | ⟨h1,h2⟩
  ·refine .read (Hz.read ?_)
   rw[e]
   refine Ip hA (Jf hA) (iS g x) (d+1) _ s4 (by rw[d1] at s3; simpa using s3) d3 h1
  ·have htu:u=t:=by
    rw[Tg] at h2
    simp at h2; omega
   subst htu
   by_cases h0:0≤x.aD
   ·obtain ⟨p,q1,q2,q3⟩:=ih.2 h0
    obtain ⟨k',hk'⟩:∃ k':Nat,x.aD=k':=⟨x.aD.toNat,by omega⟩
    have hkl:k' < g.rules.length:=by have:=hH.1; omega
    rw[hk'] at q1 q2 q3 d2 d3
    have hrt:aI g (k':Int)=(ax g k').right:=by rw[aI,Q9 (by omega)]
    rw[hrt] at q1 d2 d3
    rw[d1] at q1
    refine .Eh q3 hkl q2 (by omega) (d:=d) ?_ (by simpa using q1) (by rw[d3]; exact h1)
    have:=Sp (·[0]?) d2
    rw[e]
    simpa using this
   ·have ht:=ih.1 (by omega)
    have hr:x.aD = -1:=by have:=hH.1; omega
    have hk0:=((df hA.b7 (hA.bh hi)).1 hx).bh (.inr (by omega))
    have hi0:i=0:=Nat.eq_zero_of_not_pos fun h0=>by
     obtain ⟨p,y,s',_,y2,y3,y4,y5,y6,y7⟩:=hA.prev hi hk0 h0
     have hyr:=Sp aJ.aD y5
     have hyd:=Sp aJ.dot y5
     simp only at hyr hyd
     obtain ⟨d',e1,e2,e3⟩:=sU (hA.has y2 y3) y4
     obtain ⟨d'',e4,e5,e6⟩:=sU hH hn
     rw[← hyr,hr] at e2
     rw[hr] at e5
     simp only[aI,if_true,List.length_singleton] at e2 e5
     omega
    have hd0:d=0:=by
     obtain ⟨d'',e4,e5,e6⟩:=sU hH hn
     rw[hr] at e5
     simp only[aI,if_true,List.length_singleton] at e5
     omega
    subst hd0
    rw[hr] at d2
    simp only[aI,if_true,SK,Tu] at d2
    rw[hi0,ht,show -1 - s=g.start by omega]
    exact .read .fin
theorem Jo (hA:bU g a) {q:Nat} (hq:q < a.length) {u:Nat} {z:aJ} (hz:z∈gC g a q):∀ d:Nat,z.dot=d→(eN (au g false) (cD g (au g false)) 0 ((aI g z.aD).drop d)).getLsbD u=true →
  ∃ (y:aJ) (e:Nat),y∈(a.getD q bm).bh∧y.dot=e∧(eN (au g false) (cD g (au g false)) 0 ((aI g y.aD).drop e)).getLsbD u=true:=by
 have hz2:=(df hA.b7 (hA.bh hq)).1 hz
 clear hz
 induction hz2 with
 | base h=>exact fun d h1 h2=>⟨_,d,h,h1,h2⟩
 | @step x s k R hx hn hneg hR hl ih =>
  intro d h1 h2
  have hd:d=0:=by simp only at h1; omega
  subst hd
  obtain ⟨d',e1,e2,e3⟩:=nA (hx.has (hA.bh hq)) hn
  refine ih d' e1 ?_
  rw[e2]
  refine tV.2 (.inr ⟨hneg,.inl ?_⟩)
  have hk:k < g.rules.length:=(Rl.1 hR).1
  have hRk:ax g k=R:=by unfold ax; rw[Q6,Rs,hR]; rfl
  rw[← hl]
  refine vF hA.b7 _ (Re hR) u ?_
  rw[SK,aI,Q9 (by simp only; omega)] at h2
  simp only at h2
  rw[hRk] at h2
  exact h2
theorem CA (hA:bU g a) {p:Nat} {s:Int} {u:Nat} (he:dq a p s) (h:∃ y∈gC g a (dx a p s),∃ d:Nat,y.dot=d∧(eN (au g false) (cD g (au g false)) 0 ((aI g y.aD).drop d)).getLsbD u=true) :
  ∃ x∈gC g a p,bO g x=(s,true)∧(eN (au g false) (cD g (au g false)) 0 (iS g x)).getLsbD u=true:=by
 obtain ⟨y,hy,d,h1,h2⟩:=h
 obtain ⟨_,_,_,_,hl,_⟩:=hA.dx he
 obtain ⟨z,e,z1,z2,z3⟩:=Jo hA hl hy d h1 h2
 rw[hA.L8 he] at z1
 obtain ⟨x,hx,hn,rfl⟩:=lE.1 z1
 refine ⟨x,hx,hn,?_⟩
 obtain ⟨d',e1,e2,e3⟩:=nA (hA.has (ec he) hx) hn
 simp only at z2 z3
 rw[← e3,show d'+1=e by omega]
 exact z3
theorem z8 (hA:bU g a) {p u:Nat} {B:Int} (h:mg g a p B u):dq a p (-1 - B)→(p=0∧B=g.start∧u=g.av.length)∨∃ x∈gC g a p,bO g x=(-1 - B,true)∧(eN (au g false) (cD g (au g false)) 0 (iS g x)).getLsbD u=true:=by
 induction h with
 | fin=>exact fun _=>.inl ⟨rfl,rfl,rfl⟩
 | @term p B t ht he =>
  intro hB
  right
  refine CA hA hB ?_
  have hq:=ec he
  obtain ⟨y,hy,hn⟩:=(hA.kB hq).1 he
  obtain ⟨d,e1,e2,e3⟩:=nA (hA.has hq hy) hn
  refine ⟨y,hy,d,e1,?_⟩
  have:=hA.b7.av
  rw[e2]
  exact tV.2 (.inl ⟨by omega,(oP (by omega) _).2 rfl⟩)
 | @null p B C t hC he hn hr ih =>
  intro hB
  rcases ih he with ⟨h1,_,_⟩ | ⟨y,y1,y2,y3⟩
  ·exact absurd h1 (hA.QX hB)
  ·right
   refine CA hA hB ?_
   obtain ⟨d,e1,e2,e3⟩:=nA (hA.has (ec he) y1) y2
   refine ⟨y,y1,d,e1,?_⟩
   rw[e2]
   refine tV.2 (.inr ⟨by omega,.inr ⟨?_,y3⟩⟩)
   rw[show -1 - (-1 - C)=C by omega]; exact hn
theorem HP (hA:bU g a) (hr:isRed g=true):∀ (n i:Nat),i < n→i < a.length→∀ x∈gC g a i,∃ t,t < 32∧nt g (au g false) a (fj g a) i x t
 | 0,_,h,_,_,_=>by omega
 | n+1,i,_,hi,x,hx=>by
  have hx2:=(df hA.b7 (hA.bh hi)).1 hx
  clear hx
  induction hx2 with
  | @base x h =>
   by_cases h0:0 < i
   ·obtain ⟨p,y,s,y1,y2,y3,y4,y5,y6,y7⟩:=hA.prev hi h h0
    obtain ⟨t,ht,hL⟩:=HP hA hr n p (by omega) y2 y y3
    refine ⟨t,ht,?_⟩
    obtain ⟨s1,s2,s3,s4⟩:=hA.step y2 y3 y4
    have hm:(⟨y.aD,y.dot+1⟩:aJ)∈(fj g a).getD (jB a p [s]).1.toNat []:=fM.2 ⟨s4,s3⟩
    have:=nt.move hL y4 hm
    rw[y5,← y7]
    exact this
   ·have hi0:i=0:=by omega
    subst hi0
    rw[hA.e.first] at h
    simp at h; subst h
    have:=hA.b7.av
    exact ⟨g.av.length,by omega,.start (fM.2 ⟨hi,(df hA.b7 (hA.bh hi)).2 (.base (by rw[hA.e.first]; simp))⟩)⟩
  | @step x s k R hx hn hneg hR hl ih =>
   obtain ⟨t,ht,hL⟩:=ih
   have hH:=hx.has (hA.bh hi)
   have hk:k < g.rules.length:=(Rl.1 hR).1
   have hRk:ax g k=R:=by unfold ax; rw[Q6,Rs,hR]; rfl
   obtain ⟨u,hu⟩:=Aa hr ht (iS g x) (fun s hs=>by
    unfold iS at hs
    split at hs
    ·rename_i h0
     have h2:g.rules[x.aD.toNat]?=some (ax g x.aD):=by
      have:=hH.1
      unfold ax; exact getD_some (by omega)
     exact hA.b7.sym _ (Re h2) s (List.mem_of_mem_drop hs)
    ·simp at hs)
   have hu32:u < 32:=Nat.lt_of_not_le fun h=>by rw[BitVec.getLsbD_of_ge _ _ h] at hu; simp at hu
   exact ⟨u,hu32,.begin hL hn hneg hk (by rw[hRk]; omega) (fM.2 ⟨hi,(df hA.b7 (hA.bh hi)).2 (.step hx hn hneg hR hl)⟩) hu⟩
theorem Fe (hA:bU g a) {k:Nat} {t:Nat} : ∀ (X:List Int) (d p i:Nat),gS a p X i→nt g (au g false) a (fj g a) p ⟨k,d⟩ t→(∃ l,(aI g k).drop d=X ++ l)→nt g (au g false) a (fj g a) i ⟨k,((d+X.length:Nat):Int)⟩ t
 | [],d,p,i,hw,h,_=>by cases hw; simpa using h
 | s :: X,d,p,i,hw,h,⟨l,hl⟩=>by
  cases hw with
  | cons h1 h2 =>
   obtain ⟨n1,n2,n3⟩:=nS hl
   obtain ⟨hp,hx⟩:=fM.1 h.mem
   obtain ⟨s1,s2,s3,s4⟩:=hA.step hp hx n1
   have hm:(⟨(⟨k,d⟩:aJ).aD,(⟨k,d⟩:aJ).dot+1⟩:aJ)∈(fj g a).getD (jB a p [s]).1.toNat []:=fM.2 ⟨s4,s3⟩
   have h3:=nt.move h n1 hm
   have h4:=Fe hA X (d+1) _ i h2 (by rw[show (((d+1:Nat):Int))=(d:Int)+1 by omega]; exact h3) ⟨l,n2⟩
   rw[show d+(s :: X).length=d+1+X.length by simp; omega]
   exact h4
theorem O3 (hA:bU g a) (hr:isRed g=true) {p t:Nat} {B:Int} (h:rN g a p B t):0≤B→dq a p (-1 - B)→∀ k:Nat,k < g.rules.length→(ax g k).left=B→nt g (au g false) a (fj g a) p ⟨k,0⟩ t:=by
 induction h with
 | @read p B t h =>
  intro hB he k hk hl
  have hp:=ec he
  have hm:=fM.2 ⟨hp,jn hA hp hB hk hl he⟩
  rcases z8 hA h he with ⟨rfl,rfl,rfl⟩ | ⟨x,x1,x2,x3⟩
  ·have h0:(⟨-1,0⟩:aJ)∈gC g a 0:=(df hA.b7 (hA.bh hp)).2 (.base (by rw[hA.e.first]; simp))
   refine .begin (.start (fM.2 ⟨hp,h0⟩)) (s:=-1 - g.start) ?_ (by omega) hk (by omega) hm ?_
   ·unfold bO; rw[Q9 (by simp[aI])]; simp[aI]
   ·have:=hA.b7.av
    rw[iS,Q9 (by simp),eN,Tg]
    simp; omega
  ·obtain ⟨t0,ht,hL⟩:=HP hA hr (p+1) p (by omega) hp x x1
   refine .begin hL x2 (by omega) hk (by omega) hm ((oG _ _ _ _ _).2 (.inl x3))
 | @Eh p p' k' d B t hF hk' he' hB' hd hw hnull ih =>
  intro hB he k hk hl
  have hR:g.rules[k']?=some (ax g k'):=by unfold ax; exact getD_some hk'
  have h1:=ih (hA.b7.left _ (Re hR)).1 he' k' hk' rfl
  have hrt:aI g (k':Int)=(ax g k').right:=by rw[aI,Q9 (by omega)]
  have hdl:=(Rl.1 hd).1
  have h2:=Fe hA _ 0 p' p hw (by simpa using h1) ⟨(ax g k').right.drop d,by rw[hrt,SK,List.take_append_drop]⟩
  rw[Sa,R8,Nat.min_eq_left (by omega)] at h2
  have hp:=ec he
  have hnx:bO g ⟨k',d⟩=(-1 - B,true):=(nS (l:=(ax g k').right.drop (d+1)) (by
   rw[hrt,RX hdl]
   congr 1
   rw[Q7 hdl] at hd
   simpa using hd)).1
  refine .begin h2 hnx (by omega) hk (by omega) (fM.2 ⟨hp,jn hA hp hB hk hl he⟩) ((oG _ _ _ _ _).2 (.inr ⟨?_,?_⟩))
  ·rw[iS,Ra (by simp only; omega)]
   simpa using hnull
  ·obtain ⟨i3,_⟩:=fM.1 h2.mem
   have ht:t < 32:=by
    have key:∀ {i:Nat} {x:aJ} {t:Nat},nt g (au g false) a (fj g a) i x t→t < 32:=by
     intro i x t h
     have:=hA.b7.av
     induction h with
     | start=>omega
     | move _ _ _ ih=>exact ih
     | begin _ _ _ _ _ _ hu _=>exact Nat.lt_of_not_le fun h=>by rw[BitVec.getLsbD_of_ge _ _ h] at hu; simp at hu
    exact key h2
   rw[Tg]
   simp[ht]
theorem JP (hA:bU g a) (hr:isRed g=true) {i k t:Nat} (hk:k < g.rules.length):nt g (au g false) a (fj g a) i ⟨k,((ax g k).right.length:Nat)⟩ t↔∃ p,gS a p (ax g k).right i∧dq a p (-1 - (ax g k).left)∧rN g a p (ax g k).left t:=by
 have hR:g.rules[k]?=some (ax g k):=by unfold ax; exact getD_some hk
 have hrt:aI g (k:Int)=(ax g k).right:=by rw[aI,Q9 (by omega)]
 constructor
 ·intro h
  obtain ⟨p,q1,q2,q3⟩:=(PG hA h).2 (by simp only; omega)
  simp only at q1 q2 q3
  rw[hrt,Rs,List.take_length] at q1
  exact ⟨p,q1,q2,q3⟩
 ·rintro ⟨p,q1,q2,q3⟩
  have h1:=O3 hA hr q3 (hA.b7.left _ (Re hR)).1 q2 k hk rfl
  have h2:=Fe hA _ 0 p i q1 (by simpa using h1) ⟨[],by rw[hrt]; simp⟩
  rw[R8] at h2
  exact h2
theorem PD (hA:bU g a) {i k:Nat} (hi:i < a.length) (hk:k < g.rules.length):(⟨k,((ax g k).right.length:Nat)⟩:aJ)∈gC g a i↔∃ p,gS a p (ax g k).right i∧dq a p (-1 - (ax g k).left):=by
 have hR:g.rules[k]?=some (ax g k):=by unfold ax; exact getD_some hk
 have hrt:aI g (k:Int)=(ax g k).right:=by rw[aI,Q9 (by omega)]
 constructor
 ·intro h
  obtain ⟨p,p1,p2,p3⟩:=hA.bwd k _ i hi h
  rw[hrt,List.take_length] at p2
  refine ⟨p,p2,?_⟩
  cases (df hA.b7 (hA.bh p1)).1 p3 with
  | base h =>
   exfalso
   by_cases h0:0 < p
   ·obtain ⟨_,y,s,y1,y2,y3,y4,y5,_,_⟩:=hA.prev p1 h h0
    have:=Sp aJ.dot y5
    simp only at this
    have:=(hA.has y2 y3).2
    omega
   ·have:p=0:=by omega
    subst this
    rw[hA.e.first] at h
    simp at h
  | @step x s k2 R hx hn hneg hR2 hl =>
   rw[hR] at hR2
   simp only[Q8] at hR2
   rw[hR2,hl,show -1 - (-1 - s)=s by omega]
   exact (hA.kB p1).2 ⟨x,(df hA.b7 (hA.bh p1)).2 hx,hn⟩
 ·rintro ⟨p,p1,p2⟩
  have hp:=ec p2
  have hm:=jn hA hp (hA.b7.left _ (Re hR)).1 hk rfl p2
  obtain ⟨q,q1,q2,q3⟩:=hA.fwd k (ax g k).right 0 p hp hm ⟨[],by rw[hrt]; simp⟩
  rw[p1.one q2]
  simpa using q3
end
def gp (null:List Bool) (first:List BV) (R:aM) (out:List BV) (k:Nat):List BV :=
 if R.right.getD k 0 < 0 then out.set (-1 - R.right.getD k 0).toNat (out.getD (-1 - R.right.getD k 0).toNat 0 ||| eN null first (out.getD R.left.toNat 0) (R.right.drop (k+1))) else out
def iT (null:List Bool) (first:List BV) (out:List BV) (R:aM):List BV:=(List.range R.right.length).foldl (gp null first R) out
def nB (g:ao) (null:List Bool) (first:List BV) (out:List BV):List BV:=g.rules.foldl (iT null first) out
def lL (g:ao):List BV:=(List.replicate g.az.length 0).set g.start.toNat (dI g.av.length)
def fX (g:ao) (null:List Bool):List BV:=iter (nB g null (cD g null)) g.az.length (lL g)
theorem Ig (null:List Bool) (first:List BV) (R:aM) (out:List BV) (k:Nat):(gp null first R out k).length=out.length:=by
 unfold gp; split <;> simp
theorem tZ (null:List Bool) (first:List BV) (R:aM):∀ (l:List Nat) (out:List BV),(l.foldl (gp null first R) out).length=out.length
 | [],_=>rfl
 | k :: l,out=>by rw[Rx,tZ null first R l,Ig]
theorem od (null:List Bool) (first:List BV):∀ (l:List aM) (out:List BV),(l.foldl (iT null first) out).length=out.length
 | [],_=>rfl
 | R :: l,out=>by rw[Rx,od null first l,iT,tZ]
theorem xA (g:ao) (null:List Bool):(fX g null).length=g.az.length:=by
 rw[fX,vC (f:=nB g null (cD g null)) fun l=>od _ _ g.rules l]; simp[lL]
theorem qj {α:Type} {F:List Bool→α→List Bool} (hF:∀ is x,eM is (F is x)):∀ (l:List α) (is:List Bool),eM is (l.foldl F is)
 | [],is=>.refl _
 | x :: l,is=>(hF is x).trans (qj hF l _)
theorem vW {α:Type} {F:List Bool→α→List Bool} (hF:∀ is x,eM is (F is x)):∀ {l:List α} {is:List Bool},l.foldl F is=is→∀ x∈l,F is x=is
 | [],_,_,_,h=>by simp at h
 | y :: l,is,h,x,hx=>by
  rw[Rx] at h
  have h1:=qj hF l (F is y)
  rw[h] at h1
  have h2:=h1.EC (hF is y)
  rcases Rm.1 hx with rfl | hx
  ·exact h2
  ·rw[h2] at h; exact vW hF h x hx
def oN (null:List Bool) (first:List BV) (t:Nat) (R:aM) (is:List Bool) (k:Nat):List Bool :=
 if R.right.getD k 0 < 0 then is.set (-1 - R.right.getD k 0).toNat (is.getD (-1 - R.right.getD k 0).toNat false || ((eN null first 0 (R.right.drop (k+1))).getLsbD t || (bZ (R.right.drop (k+1)) null false && is.getD R.left.toNat false))) else is
theorem JZ (null:List Bool) (first:List BV) (t:Nat) (R:aM) (out:List BV) (k:Nat):pt t (gp null first R out k)=oN null first t R (pt t out) k:=by
 unfold gp oN
 have e:∀ b:BV,(eN null first b (R.right.drop (k+1))).getLsbD t=((eN null first 0 (R.right.drop (k+1))).getLsbD t || (bZ (R.right.drop (k+1)) null false && b.getLsbD t)):=fun b=>by
  rw[Si,oG]; simp
 split
 ·rw[oH,oH,← e,← R4]
  simp[pt,Sr]
 ·rfl
theorem BP (null:List Bool) (first:List BV) (t:Nat) (R:aM):∀ (l:List Nat) (out:List BV),pt t (l.foldl (gp null first R) out)=l.foldl (oN null first t R) (pt t out)
 | [],_=>rfl
 | k :: l,out=>by rw[Rx,BP null first t R l,JZ]; rfl
def Er (null:List Bool) (first:List BV) (t:Nat) (is:List Bool) (R:aM):List Bool:=(List.range R.right.length).foldl (oN null first t R) is
theorem Ar (null:List Bool) (first:List BV) (t:Nat):∀ (l:List aM) (out:List BV),pt t (l.foldl (iT null first) out)=l.foldl (Er null first t) (pt t out)
 | [],_=>rfl
 | R :: l,out=>by rw[Rx,Ar null first t l,iT,BP]; rfl
theorem BM (g:ao) (null:List Bool) (first:List BV) (t:Nat):∀ (n:Nat) (out:List BV),pt t (iter (nB g null first) n out)=iter (fun is=>g.rules.foldl (Er null first t) is) n (pt t out)
 | 0,_=>rfl
 | n+1,out=>by rw[iter,iter,BM g null first t n]; exact Sp _ (Ar null first t g.rules out)
theorem vZ (null:List Bool) (first:List BV) (t:Nat) (R:aM) (is:List Bool) (k:Nat):eM is (oN null first t R is k):=by
 unfold oN
 split
 ·refine ⟨by simp,fun i hi=>?_⟩
  simp only[Q6,Sz] at hi ⊢
  split
  ·rename_i e
   subst e
   split
   ·simp[hi]
   ·rename_i h; rw[RH (by omega)] at hi; simp at hi
  ·exact hi
 ·exact .refl _
theorem uH {g:ao} (hf:g.dL) (null:List Bool) {R:aM} (hR:R∈g.rules) {k:Nat} {s:Int} (hk:R.right[k]?=some s) (hs:s < 0) {t:Nat}
  (h:(eN null (cD g null) 0 (R.right.drop (k+1))).getLsbD t=true∨(bZ (R.right.drop (k+1)) null false=true∧((fX g null).getD R.left.toNat 0).getLsbD t=true)):((fX g null).getD (-1 - s).toNat 0).getLsbD t=true:=by
 have e:=BM g null (cD g null) t g.az.length (lL g)
 have hfix:=wP (F:=fun is=>g.rules.foldl (Er null (cD g null) t) is) (fun is=>qj (fun is R=>qj (fun is k=>vZ _ _ _ _ _ _) _ _) g.rules is) g.az.length (pt t (lL g)) (by simp[pt,lL])
 rw[← e] at hfix
 have h1:=vW (fun is R=>qj (fun is k=>vZ null (cD g null) t R _ _) _ _) hfix R hR
 have hkl:=(Rl.1 hk).1
 have h2:=vW (fun is k=>vZ null (cD g null) t R _ _) h1 k (R3.2 hkl)
 have hg:R.right.getD k 0=s:=by rw[Q6,hk]; rfl
 change oN null (cD g null) t R (pt t (fX g null)) k=pt t (fX g null) at h2
 have hn:=hf.neg hR (Re hk) hs
 rw[← oH,← h2]
 unfold oN
 rw[hg,Ra hs,Q6,S7 (by simp[pt,xA]; omega)]
 simp only[Rq,Se,Rg]
 rw[oH t _ R.left.toNat]
 exact .inr h
theorem FK {out:List BV} {a i t:Nat} {x:BV} (h:(out.getD i 0).getLsbD t=true):((out.set a (out.getD a 0 ||| x)).getD i 0).getLsbD t=true:=by
 rw[gz]
 split
 ·rename_i e
  rw[R4,e.1,h]; rfl
 ·exact h
theorem Ex {g:ao} (hf:g.dL) (null:List Bool):((fX g null).getD g.start.toNat 0).getLsbD g.av.length=true:=by
 have h0:((lL g).getD g.start.toNat 0).getLsbD g.av.length=true:=by
  unfold lL
  have:=hf.start; have:=hf.jT
  rw[gz,Ra ⟨rfl,by simp; omega⟩]
  have:=hf.av
  exact (oP (by omega) _).2 rfl
 have hR:∀ (R:aM) (l:List Nat) (out:List BV),(out.getD g.start.toNat 0).getLsbD g.av.length=true→((l.foldl (gp null (cD g null) R) out).getD g.start.toNat 0).getLsbD g.av.length=true:=fun R l=>by
  induction l with
  | nil=>exact fun _ h=>h
  | cons k l ih =>
   intro out h
   rw[Rx]
   refine ih _ ?_
   unfold gp
   split
   ·exact FK h
   ·exact h
 have hL:∀ (l:List aM) (out:List BV),(out.getD g.start.toNat 0).getLsbD g.av.length=true→((l.foldl (iT null (cD g null)) out).getD g.start.toNat 0).getLsbD g.av.length=true:=fun l=>by
  induction l with
  | nil=>exact fun _ h=>h
  | cons R l ih=>exact fun out h=>ih _ (hR R _ out h)
 have hI:∀ (n:Nat) (out:List BV),(out.getD g.start.toNat 0).getLsbD g.av.length=true→((iter (nB g null (cD g null)) n out).getD g.start.toNat 0).getLsbD g.av.length=true:=fun n=>by
  induction n with
  | zero=>exact fun _ h=>h
  | succ n ih=>exact fun out h=>ih _ (hL g.rules out h)
 exact hI _ _ h0
theorem Jv {g:ao} (h:isRed g=true):∀ i:Nat,i < g.az.length→mj g (au g true) i:=by
 have hr:=iC h
 unfold isRed at h
 simp only[Rg,Sd,Rn] at h
 obtain ⟨h1,h2⟩:=h
 have hp:(au g true).getD g.start.toNat false=true:=by
  refine RY fun hn=>?_
  rw[mF hr,Q9 hn] at h1
  simp at h1
 have hred:=JN hr hp
 have e:(gL g).1=oX g (cE (dr (au g true) (bP g) g.rules)) (au g true) (bP g):=by rw[mF hr,Ra hp]
 rw[← e,← h2] at hred
 intro i hi
 rw[hred.len] at hi
 exact wg hr i (hred.Lr hi)
section
variable {g:ao} {a:List aP}
theorem MB (hA:bU g a) (hr:isRed g=true) {x:Int} (h:mj g (au g true) x):∃ p,dq a p (-1 - x):=by
 have hp:=hA.pos
 induction h with
 | start =>
  refine ⟨0,(hA.kB (by omega)).2 ⟨⟨-1,0⟩,(df hA.b7 (hA.bh (by omega))).2 (.base (by rw[hA.e.first]; simp)),?_⟩⟩
  unfold bO; rw[Q9 (by simp[aI])]; simp[aI]
 | next R s hR _ _ hs hn ih =>
  obtain ⟨p,hE⟩:=ih
  obtain ⟨k,hk,e⟩:=Sk.1 hR
  have hRk:ax g k=R:=by unfold ax; rw[Q6,Rs,Q7 hk,e]; rfl
  obtain ⟨d,hd,e2⟩:=Sk.1 hs
  have hpl:=ec hE
  have hrt:aI g (k:Int)=R.right:=by rw[aI,Q9 (by omega),hRk]
  have hm:=jn hA hpl (hA.b7.left _ hR).1 hk (by rw[hRk]) hE
  obtain ⟨q,q1,q2,q3⟩:=hA.fwd k (R.right.take d) 0 p hpl hm ⟨R.right.drop d,by rw[hrt]; simp⟩
  have hnx:bO g ⟨k,((0+(R.right.take d).length:Nat):Int)⟩=(s,true):=(nS (l:=R.right.drop (d+1)) (by
   rw[hrt,R8,Sa,Nat.min_eq_left (by omega),RX hd,e2])).1
  refine ⟨q,?_⟩
  rw[show -1 - (-1 - s)=s by omega]
  exact (hA.kB q1).2 ⟨_,q3,hnx⟩
theorem HS (hA:bU g a) {p t:Nat} {B:Int} (h:rN g a p B t):0≤B→dq a p (-1 - B)→((fX g (au g false)).getD B.toNat 0).getLsbD t=true:=by
 induction h with
 | @read p B t h =>
  intro hB he
  rcases z8 hA h he with ⟨_,rfl,rfl⟩ | ⟨x,x1,x2,x3⟩
  ·exact Ex hA.b7 _
  ·by_cases h0:0≤x.aD
   ·have hH:=hA.has (ec he) x1
    obtain ⟨d,d1,d2,d3⟩:=nA hH x2
    rw[aI,Q9 (by omega)] at d2 d3
    have hk:x.aD.toNat < g.rules.length:=by have:=hH.1; omega
    have hR:g.rules[x.aD.toNat]?=some (ax g x.aD):=by unfold ax; exact getD_some hk
    have hd:(ax g x.aD).right[d]?=some (-1 - B):=by
     have:=Sp (·[0]?) d2
     simpa using this
    have:=uH hA.b7 (au g false) (Re hR) hd (by omega) (t:=t) (.inl (by rw[d3]; exact x3))
    rw[show -1 - (-1 - B)=B by omega] at this
    exact this
   ·rw[iS,Q9 h0] at x3
    simp[eN] at x3
 | @Eh p p' k d B t hF hk he' hB' hd hw hnull ih =>
  intro hB he
  have hR:g.rules[k]?=some (ax g k):=by unfold ax; exact getD_some hk
  have h1:=ih (hA.b7.left _ (Re hR)).1 he'
  have:=uH hA.b7 (au g false) (Re hR) hd (by omega) (t:=t) (.inr ⟨hnull,h1⟩)
  rw[show -1 - (-1 - B)=B by omega] at this
  exact this
end
def kS:SC :=
 .seq (.seq (an [aj 49 9,aC 50 1 8,ay 51 50,bj 52 51,bz 53 .lss 49 52]) <|
 .cond (.tmp 53) (.skip) (.exit 4)) <|
 .seq (.block 5 (.seq (an [aC 56 1 8,ay 57 56,aj 58 9,aY 59 1 57 58,ay 60 59,aR 61 .lss 60 0]) <|
 .cond (.tmp 61) (.seq (an [aC 62 1 8,ay 63 62,aj 64 9,aY 65 1 63 64,ay 66 65,((some 67),.op (.arith .sub (.val (.val (.int .i64 (-1)))) (.tmp 66))),aj 10 67]) <|
 .region true [⟨none,[aj 68 5,aj 69 10,aj 70 5,aj 71 10,aY 72 1 70 71,ay 73 72,aC 74 1 8,ay 75 74,aj 76 9,aR 77 .add 76 1,((some 78),.op (.slice 1 (.tmp 75) (some (.tmp 77)) none)),aj 79 3,aj 80 4,aj 81 5,aC 82 0 8,ay 83 82,aY 84 1 81 83,ay 85 84,bJ 86 83 [78,79,80,85],bz 87 .or 73 86,aY 88 1 68 69,(none,.op (.store 1 (.tmp 88) (.tmp 87)))]⟩]) (.skip))) <|
 an [aj 54 9,aR 55 .add 54 1,aj 9 55]
def kM:SC :=
 .seq (.seq (an [aj 37 7,aC 38 2 1,ay 39 38,bj 40 39,bz 41 .lss 37 40]) <|
 .cond (.tmp 41) (.skip) (.exit 2)) <|
 .seq (.block 3 (.seq (an [aC 44 2 1,ay 45 44,aj 46 7,aY 47 3 45 46,bM 48 3 47,((some 8),.op (.alloc [(.val (.int .i64 0)),(.emp 1),(.val (.int .i64 0))])),(none,.op (.store 3 (.tmp 8) (.tmp 48)))]) <|
 .seq (an [bA 9 0]) <|
 .block 4 (.loop kS))) <|
 an [aj 42 7,aR 43 .add 42 1,aj 7 43]
def kQ:SC :=
 .seq (.seq (an [aj 30 6,aC 31 1 1,ay 32 31,bj 33 32,bz 34 .lss 30 33]) <|
 .cond (.tmp 34) (.skip) (.exit 0)) <|
 .seq (.block 1 (.seq (an [bA 7 0]) <|
 .block 2 (.loop kM))) <|
 an [aj 35 6,aR 36 .add 35 1,aj 6 36]
def mw:SF:=⟨.seq (an [dN 1 0,((some 2),.op (.bN (.val (.emp 1))))]) <|
 .seq (.seq (an [bM 11 4 1,bJ 12 54 [11],dm 13 12]) <|
 .cond (.tmp 13) (.seq (an [((some 2),.op (.bN (.val (.emp 1))))]) <|
 .ret) (.skip)) <|
 .seq (.region true [⟨none,[bM 14 4 1,bJ 15 81 [14],bM 16 4 1,bJ 17 82 [16],aj 3 15,aj 4 17]⟩]) <|
 .seq (an [aC 18 1 1,ay 19 18,bj 20 19,((some 21),.op (.make 1 4 [(.val (.int .u32 0))] (.tmp 20) (.tmp 20))),aj 5 21]) <|
 .seq (.region true [⟨none,[aj 22 5,aC 23 3 1,ay 24 23,aC 25 0 1,ay 26 25,bj 27 26,bJ 28 77 [27],aY 29 1 22 24,(none,.op (.store 1 (.tmp 29) (.tmp 28)))]⟩]) <|
 .seq (.seq (an [bA 6 0]) <|
 .block 0 (.loop kQ)) <|
 .seq (an [aj 89 5,aj 2 89]) <|
 .ret,
 [.tmp 2],90⟩
theorem qK:aU Tryz.prog 40 [1]=some mw:=by kernel_rfl
def A7 (g:ao):List BV:=if bE g=true then fX g (au g false) else []
theorem F2 (null:List Bool) (first:List BV) (l:List aM) (R:aM) (out:List BV):(l ++ [R]).foldl (iT null first) out=iT null first (l.foldl (iT null first) out) R:=by rw[RR]; rfl
theorem Ja (null:List Bool) (first:List BV) (R:aM) (k:Nat) (out:List BV):(List.range (k+1)).foldl (gp null first R) out=gp null first R ((List.range k).foldl (gp null first R) out) k:=by rw[Sb,RR]; rfl
set_option maxHeartbeats 16000000 in
theorem F8 (g:ao) (hg:g.Ok):de Tryz.prog 40 [.agg (aw g)] (jv (A7 g)):=by
 refine de.of (eU g) ?_
 have hr9:=ud g hg
 have hnl:=uK g hg
 have hfi:=(I0 g hg).pure
 refine aB.of mixed qK ?_
 simp only[aw,encS] at hr9 hnl hfi
 simp (disch:=omega) only [↓wr,seval,wq,ah,ag,ak,aa,ab,af,ai,ae,mw,aw,encS]
 refine aF.pure hr9 (by kernel_rfl) ?_
 unfold A7
 simp (disch:=omega) only [↓wr,seval,wq,ah,ag,ak,aa,ab,af,ai,ae]
 refine aq.split (fun hr=>?_) (fun hr=>?_)
 rotate_left
 ·simp (disch:=omega) only [↓wr,seval,wq,ah,ag,ak,aa,ab,af,ai,ae]
  rintro h' _
  rw[Q9 (by rw[hr]; simp)]
  exact .emp _
 have hf:=bL hr
 have hN:=hf.az; have hN1:=hf.pN; have hT:=hf.av; have hS0:=hf.jT; have hS1:=hf.start
 rw[Ra hr]
 have hnlen:=fG hr false
 have hflen:=yL g (au g false)
 rw[EU,Ra hr] at hfi
 simp (disch:=omega) only [↓wr,seval,wq,ah,ag,ak,aa,ab,af,ai,ae,aw,encS]
 refine aF.pure hnl (by kernel_rfl) ?_
 simp (disch:=omega) only [↓wr,seval,wq,ah,ag,ak,aa,ab,af,ai,ae,aw,encS]
 refine aF.pure hfi (by kernel_rfl) ?_
 unfold fX
 generalize au g false=null at *
 generalize cD g null=first at *
 simp (disch:=omega) only [↓wr,seval,wq,ah,ag,ak,aa,ab,af,ai,ae,aw,encS]
 refine ⟨⟨by omega,by unfold aK; omega,by unfold aK; omega⟩,fun hz=>absurd hz (by omega),fun _ m=>?_⟩
 have hrep:List.replicate g.az.length [V.val (Value.int IntKind.u32 0)]=bQ (List.replicate g.az.length (0:BV)):=by simp
 rw[hrep]
 refine aF.pure (EI (g.av.length:Int)) (by kernel_rfl) ?_
 unfold lL
 have hz0:(List.replicate g.az.length (0:BV)).length=g.az.length:=by simp
 generalize List.replicate g.az.length (0:BV)=z at hz0 ⊢
 have hz1:z[g.start.toNat]?=some (z.getD g.start.toNat 0):=getD_some (by omega)
 simp (disch:=omega) only [↓wr,seval,wq,ah,ag,ak,aa,ab,af,ai,ae,sR hz1]
 refine ⟨by omega,by simp[hz0]; omega,?_⟩
 have hst:bQ (z.set g.start.toNat (dI g.av.length))=(bQ z).set g.start.toNat [gw (dI g.av.length)]:=Sr
 have h0l:(z.set g.start.toNat (dI g.av.length)).length=g.az.length:=by simp[hz0]
 generalize z.set g.start.toNat (dI g.av.length)=fs0 at h0l hst ⊢
 refine bg.intro (fun k T H'=>∃ (i:Nat) (fs:List BV),i+k=g.az.length∧fs.length=g.az.length∧iter (nB g null first) k fs=iter (nB g null first) g.az.length fs0∧T 1=.aL (aw g) 0∧T 3=bG null∧T 4=jv first∧T 5=.sl m 0 g.az.length 1∧H' m=.arr 1 (bQ fs)∧T 6=gi i) g.az.length
  ⟨0,fs0,by omega,h0l,rfl,rfl,rfl,rfl,rfl,by rw[hst]; simp[View.set],rfl⟩ ?_
 rintro k T H' ⟨i,fs,hk,hlen,hi,t1,t3,t4,t5,tm,t6⟩
 simp (disch:=omega) only [↓wr,seval,wq,ah,ag,ak,aa,ab,af,ai,ae,kQ,t1,t3,t4,t5,t6,aw,encS]
 refine aq.dec (fun hc=>?_) (fun hc=>?_)
 ·simp (disch:=omega) only [↓wr,seval,wq,ah,ag,ak,aa,ab,af,ai,ae,t1,t3,t4,t5,t6]
  refine bg.up g.rules.length (fun j T H'=>T 1=.aL (aw g) 0∧T 3=bG null∧T 4=jv first∧T 5=.sl m 0 g.az.length 1∧H' m=.arr 1 (bQ ((g.rules.take j).foldl (iT null first) fs))∧T 6=gi i∧T 7=gi j)
   ⟨t1,t3,t4,t5,tm,t6,rfl⟩ ?_
  clear t1 t3 t4 tm t5 t6
  rintro j k2 T2 H2 hk2 ⟨t1,t3,t4,t5,tm,t6,t7⟩
  simp (disch:=omega) only [↓wr,seval,wq,ah,ag,ak,aa,ab,af,ai,ae,kM,t1,t3,t4,t5,t6,t7,aw]
  refine aq.dec (fun hd=>?_) (fun hd=>?_)
  ·have hru:=hf.rules
   have hg2:g.rules[j]?=some (g.rules[j]'(by omega)):=Q7 (by omega)
   have htk:g.rules.take (j+1)=g.rules.take j ++ [g.rules[j]'(by omega)]:=by rw[RG,hg2]; rfl
   have hmem:g.rules[j]'(by omega)∈g.rules:=Rj _
   generalize g.rules[j]'(by omega)=R at hg2 hmem htk
   have hfl':((g.rules.take j).foldl (iT null first) fs).length=g.az.length:=by rw[od]; exact hlen
   have happ:=F2 null first (g.rules.take j) R fs
   rw[← htk] at happ
   generalize (g.rules.take j).foldl (iT null first) fs=fs' at tm hfl' happ
   obtain ⟨hl1,hl2⟩:=hf.left R hmem
   obtain ⟨_,_,hs1,hs2⟩:=hg.aD R hmem
   have hr6:=hf.right R hmem
   simp (disch:=omega) only [↓wr,seval,wq,ah,ag,ak,aa,ab,af,ai,ae,t1,t3,t4,t5,t6,t7,aw,encS,aO,Rc,hg2,Rk]
   intro b hb
   have hbm:¬ m=b:=by rintro rfl; rw[tm] at hb; simp at hb
   rw[set_set]
   refine ⟨rfl,bg.up R.right.length (fun x T H'=>T 1=.aL (aw g) 0∧T 3=bG null∧T 4=jv first∧T 5=.sl m 0 g.az.length 1∧H' m=.arr 1 (bQ ((List.range x).foldl (gp null first R) fs'))∧H' b=.arr 3 [aO R]∧T 6=gi i∧T 7=gi j∧T 8=.ptr b 0 0∧T 9=gi x)
    ⟨t1,t3,t4,t5,by simp[View.set,hbm]; exact tm,by simp[View.set,aO],t6,t7,rfl,rfl⟩ ?_⟩
   clear t1 t3 t4 tm t5 t6 t7 hb
   rintro x k3 T3 H3 hk3 ⟨t1,t3,t4,t5,tm,tb,t6,t7,t8,t9⟩
   simp (disch:=omega) only [↓wr,seval,wq,ah,ag,ak,aa,ab,af,ai,ae,kS,t1,t3,t4,t5,t6,t7,t8,t9,tb,aO,encI]
   refine aq.dec (fun he=>?_) (fun he=>?_)
   ·have hy:R.right[x]?=some (R.right.getD x 0):=getD_some (by omega)
    have hym:=Re hy
    have hsy:=hs2 _ hym
    have hfl3:((List.range x).foldl (gp null first R) fs').length=g.az.length:=by rw[tZ]; exact hfl'
    have happ2:=Ja null first R x fs'
    generalize (List.range x).foldl (gp null first R) fs'=fx at tm hfl3 happ2
    rw[gp] at happ2
    generalize R.right.getD x 0=y at hy hym hsy happ2
    simp (disch:=omega) only [↓wr,seval,wq,ah,ag,ak,aa,ab,af,ai,ae,t1,t3,t4,t5,t6,t7,t8,t9,tb,aO,encI,Rc,hy,Rk]
    refine aq.dec (fun hn=>?_) (fun hn=>?_)
    ·rw[Ra hn] at happ2
     have hng:=hf.neg hmem hym hn
     unfold cm at hsy
     have hsl:=yM (l:=R.right) (k:=x+1) (by omega)
     rw[show (((x+1:Nat):Int))=(x:Int)+1 by omega] at hsl
     have hof:=HF (R.right.drop (x+1)) null first (fx.getD R.left.toNat 0) (by unfold aV at hs1 ⊢; simp; omega) fun s hs=>⟨hs2 s (List.mem_of_mem_drop hs),fun hn=>by have:=hf.neg hmem (List.mem_of_mem_drop hs) hn; omega⟩
     have hg1:fx[R.left.toNat]?=some (fx.getD R.left.toNat 0):=getD_some (by omega)
     have hg3:fx[(-1 - y).toNat]?=some (fx.getD (-1 - y).toNat 0):=getD_some (by omega)
     simp (disch:=omega) only [↓wr,seval,wq,ah,ag,ak,aa,ab,af,ai,ae,t1,t3,t4,t5,t6,t7,t8,t9,tb,tm,aO,encI,Rc,hy,Rk,hsl,sR hg1,sR hg3]
     refine ⟨by omega,by omega,by omega,by omega,aF.pure hof (by kernel_rfl) ?_⟩
     simp (disch:=omega) only [↓wr,seval,wq,ah,ag,ak,aa,ab,af,ai,ae,t1,t3,t4,t5,t6,t7,t8,t9,qq,tm,sR hg3]
     have hmb:¬ b=m:=by rintro rfl; rw[tm] at tb; simp[bQ] at tb
     refine ⟨by omega,by first | omega | (simp; omega),aQ hk3 (by omega) ⟨t1,t3,t4,t5,?_,by simp[View.set,hmb]; exact tb,t6,t7,t8,rfl⟩⟩
     rw[happ2]
     simp[View.set,bQ,Sr]
     rfl
    ·rw[Q9 hn] at happ2
     simp (disch:=omega) only [↓wr,seval,wq,ah,ag,ak,aa,ab,af,ai,ae,t1,t3,t4,t5,t6,t7,t8,t9]
     exact aQ hk3 (by omega) ⟨t1,t3,t4,t5,by rw[happ2]; exact tm,tb,t6,t7,t8,rfl⟩
   ·have hxe:x=R.right.length:=by omega
    subst hxe
    simp (disch:=omega) only [↓wr,seval,wq,ah,ag,ak,aa,ab,af,ai,ae,t1,t3,t4,t5,t6,t7]
    exact aQ hk2 (by omega) ⟨t1,t3,t4,t5,by rw[happ,iT]; exact tm,t6,rfl⟩
  ·rw[Rz (by omega)] at tm
   simp (disch:=omega) only [↓wr,seval,wq,ah,ag,ak,aa,ab,af,ai,ae,t1,t3,t4,t5,t6]
   obtain ⟨q,rfl⟩:∃ q,k=q+1:=⟨k - 1,by omega⟩
   exact ⟨q,by omega,i+1,_,by omega,by rw[nB,od]; exact hlen,hi,rfl,tm,rfl⟩
 ·simp (disch:=omega) only [↓wr,seval,wq,ah,ag,ak,aa,ab,af,ai,ae,t5]
  have:k=0:=by omega
  subst this
  rintro h' rfl
  rw[← hi,← hlen]
  exact Cw (.inr ⟨m,by simp[iter],tm⟩)
section
variable {g:ao} {a:List aP}
theorem O5 (k:Nat):bO g ⟨k,((ax g k).right.length:Nat)⟩=(0,false):=by
 have hrt:aI g (k:Int)=(ax g k).right:=by rw[aI,Q9 (by omega)]
 unfold bO; simp only[hrt,if_true]
theorem Of {x:aJ} (hx:dc g x) (hn:(bO g x).2=false) (h0:0≤x.aD):∃ k:Nat,k < g.rules.length∧x=⟨k,((ax g k).right.length:Nat)⟩:=by
 obtain ⟨k,hk⟩:∃ k:Nat,x.aD=k:=⟨x.aD.toNat,by omega⟩
 have hkl:k < g.rules.length:=by have:=hx.1; omega
 refine ⟨k,hkl,?_⟩
 have hrt:aI g (k:Int)=(ax g k).right:=by rw[aI,Q9 (by omega)]
 unfold bO at hn
 rw[hk,hrt] at hn
 split at hn
 ·rename_i h
  cases x
  simp only at hk h
  rw[hk,h]
 ·simp at hn
theorem Fj (hA:bU g a) {i:Nat} (hi:i < a.length) {x:eF} : x∈lg g a i↔∃ k:Nat,k < g.rules.length∧(⟨k,((ax g k).right.length:Nat)⟩:aJ)∈gC g a i∧x=⟨k,Bn g a i ⟨k,((ax g k).right.length:Nat)⟩⟩:=by
 have hcl:(fj g a).getD i []=gC g a i:=by
  unfold fj gC
  simp[Q6,Q7 hi]
 rw[lg,hcl,Sf]
 constructor
 ·rintro ⟨y,hy,h⟩
  split at h
  ·rename_i hc
   obtain ⟨k,hk,rfl⟩:=Of (hA.has hi hy) hc.1 hc.2
   exact ⟨k,hk,hy,by simpa using h.symm⟩
  ·simp at h
 ·rintro ⟨k,hk,hy,rfl⟩
  exact ⟨_,hy,by rw[Ra ⟨by rw[O5],by simp only; omega⟩]⟩
theorem Gh {i k t:Nat} (ht:t < 32):(Bn g a i ⟨k,((ax g k).right.length:Nat)⟩).getLsbD t=true↔nt g (au g false) a (fj g a) i ⟨k,((ax g k).right.length:Nat)⟩ t:=by
 rw[Bn,yh _ 32 t (Ri _)]
 simp[ht]
theorem KG (i:Nat):(lg g a i).Pairwise fun x y=>x.aD < y.aD:=by
 have hs:cz ((fj g a).getD i []):=by
  unfold fj
  rw[Q6,Rc]
  cases a[i]? with
  | none=>simp[cz]
  | some s=>exact ki g _
 rw[lg,List.pairwise_filterMap]
 refine hs.imp fun {x y} hxy b hb b' hb'=>?_
 split at hb
 ·rename_i h1
  split at hb'
  ·rename_i h2
   simp only[Q8] at hb hb'
   rw[← hb,← hb']
   simp only
   rw[eu] at hxy
   rcases hxy with h | ⟨h,h3⟩
   ·exact h
   ·exfalso
    have e:∀ z:aJ,(bO g z).2=false→z.dot=(aI g z.aD).length:=fun z hz=>by
     unfold bO at hz
     split at hz
     ·assumption
     ·simp at hz
    have e1:=e x h1.1
    have e2:=e y h2.1
    rw[h] at e1
    omega
  ·simp at hb'
 ·simp at hb
theorem Kp (hA:bU g a) (hr:isRed g=true) {i:Nat} (hi:i < a.length) {x:eF} (hx:x∈lg g a i) :
  (0≤x.aD∧x.aD < g.rules.length)∧x.set≠0∧j5 x.set ((fX g (au g false)).getD (ax g x.aD).left.toNat 0):=by
 obtain ⟨k,hk,hm,rfl⟩:=(Fj hA hi).1 hx
 have hR:g.rules[k]?=some (ax g k):=by unfold ax; exact getD_some hk
 refine ⟨by simp only; omega,fun e=>?_,fun t ht=>?_⟩
 ·obtain ⟨t,ht,hL⟩:=HP hA hr (i+1) i (by omega) hi _ hm
  have:=(Gh ht).2 hL
  simp only at e
  rw[e] at this
  simp at this
 ·have hl:t < 32:=BitVec.lt_of_getLsbD ht
  obtain ⟨p,q1,q2,q3⟩:=(JP hA hr hk).1 ((Gh hl).1 ht)
  exact HS hA q3 (hA.b7.left _ (Re hR)).1 q2
theorem JC (hA:bU g a) (hr:isRed g=true) {k:Nat} (hk:k < g.rules.length):∃ p,dq a p (-1 - (ax g k).left):=by
 have hR:g.rules[k]?=some (ax g k):=by unfold ax; exact getD_some hk
 have hl:=hA.b7.left _ (Re hR)
 have:=MB hA hr (Jv hr (ax g k).left.toNat (by omega))
 rwa [show (((ax g k).left.toNat:Nat):Int)=(ax g k).left by omega] at this
theorem PH (hA:bU g a) {p k:Nat} (hk:k < g.rules.length) (hE:dq a p (-1 - (ax g k).left)):∃ q,q < a.length∧gS a p (ax g k).right q∧(⟨k,((ax g k).right.length:Nat)⟩:aJ)∈gC g a q:=by
 have hR:g.rules[k]?=some (ax g k):=by unfold ax; exact getD_some hk
 have hrt:aI g (k:Int)=(ax g k).right:=by rw[aI,Q9 (by omega)]
 have hm:=jn hA (ec hE) (hA.b7.left _ (Re hR)).1 hk rfl hE
 obtain ⟨q,q1,q2,q3⟩:=hA.fwd k (ax g k).right 0 p (ec hE) hm ⟨[],by rw[hrt]; simp⟩
 rw[R8] at q3
 exact ⟨q,q1,q2,q3⟩
theorem Mz (hA:bU g a) (hr:isRed g=true) {k:Nat} (hk:k < g.rules.length):∃ i,i < a.length∧∃ x∈lg g a i,x.aD=k:=by
 obtain ⟨p,hE⟩:=JC hA hr hk
 obtain ⟨q,q1,_,q3⟩:=PH hA hk hE
 exact ⟨q,q1,_,(Fj hA q1).2 ⟨k,hk,q3,rfl⟩,rfl⟩
end
abbrev dZ:Int:=1073741824
inductive ik (E:Nat→List Nat):Nat→Nat→Prop
 | refl {x:Nat} : ik E x x
 | step {x y z:Nat} : y∈E x→ik E y z→ik E x z
theorem ik.trans {E:Nat→List Nat} {x y z:Nat} (h:ik E x y) (k:ik E y z):ik E x z:=by
 induction h with
 | refl=>exact k
 | step h1 _ ih=>exact .step h1 (ih k)
def kx (E:Nat→List Nat) (S0:Nat→BV) (z t:Nat):Prop:=∃ w,ik E z w∧(S0 w).getLsbD t=true
theorem kx.up {E:Nat→List Nat} {S0:Nat→BV} {x y t:Nat} (h:kx E S0 y t) (k:ik E x y):kx E S0 x t:=by
 obtain ⟨w,h1,h2⟩:=h
 exact ⟨w,k.trans h1,h2⟩
def iP {α:Type} (f:Nat→α) (x:Nat) (v:α):Nat→α:=fun z=>if z=x then v else f z
theorem dV {α:Type} {f:Nat→α} {x:Nat} {v:α} : iP f x v x=v:=by simp[iP]
theorem kK {α:Type} {f:Nat→α} {x z:Nat} {v:α} (h:z≠x):iP f x v z=f z:=by simp[iP,h]
structure mn (n:Nat) (E:Nat→List Nat) (S0:Nat→BV) (D:Nat→Int) (St:List Nat) (S:Nat→BV):Prop where
 nd:St.Nodup
 lt:∀ z∈St,z < n
 zero:∀ z,z < n→D z=0→S z=S0 z∧z ∉ St
 CR:∀ z,z < n→D z=dZ→z ∉ St∧(∀ t,kx E S0 z t→(S z).getLsbD t=true)∧∀ y∈E z,D y=dZ
 on:∀ z,z < n→D z≠0→D z≠dZ→∃ p:Nat,St[p]?=some z∧1≤D z∧D z≤(p:Int)+1∧∃ w,St[(D z - 1).toNat]?=some w∧ik E z w
 sound:∀ z t,z < n→(S z).getLsbD t=true→kx E S0 z t
 base:∀ z,z < n→j5 (S0 z) (S z)
def Gb (D:Nat→Int) (St:List Nat) (S:Nat→BV) (z y:Nat):Prop:=(D y=dZ∧j5 (S y) (S z))∨∃ q:Nat,St[q]?=some y∧D z≤(q:Int)+1
def Ij (E:Nat→List Nat) (D:Nat→Int) (St:List Nat) (S:Nat→BV) (z:Nat):Prop:=(∃ p:Nat,St[p]?=some z∧D z < (p:Int)+1)∧∀ y∈E z,Gb D St S z y
def wQ (n:Nat) (E:Nat→List Nat) (S0:Nat→BV) (D:Nat→Int) (St:List Nat) (S:Nat→BV) (x:Nat) (D':Nat→Int) (St':List Nat) (S':Nat→BV):Prop :=
 mn n E S0 D' St' S'∧(∀ z,D z≠0→D' z=D z∧S' z=S z)∧((St'=St∧D' x=dZ)∨∃ T,St'=St ++ x :: T∧D' x≤St.length∧∀ z∈x :: T,Ij E D' St' S' z∧D' x≤D' z∧j5 (S' z) (S' x))
structure fK (n:Nat) (E:Nat→List Nat) (S0:Nat→BV) (D0:Nat→Int) (St:List Nat) (S1:Nat→BV) (x:Nat) (done:List Nat) (D:Nat→Int) (T:List Nat) (S:Nat→BV):Prop where
 g:mn n E S0 D (St ++ x :: T) S
 old:∀ z,D0 z≠0→D z=D0 z∧S z=S1 z
 own:1≤D x∧D x≤(St.length:Int)+1
 fin:∀ z∈T,Ij E D (St ++ x :: T) S z∧D x≤D z∧j5 (S z) (S x)
 KB:∀ y∈done,Gb D (St ++ x :: T) S x y
section
variable {n:Nat} {E:Nat→List Nat} {S0:Nat→BV} {D0 D:Nat→Int} {St T:List Nat} {S1 S:Nat→BV} {x:Nat} {done:List Nat}
theorem zC (h:St.Nodup) (k:∀ z∈St,z < n):St.length≤n:=by
 have:∀ (l r:List Nat),l.Nodup→(∀ z∈l,z∈r)→l.length≤r.length:=by
  intro l
  induction l with
  | nil=>intro r _ _; simp
  | cons a l ih =>
   intro r hn hs
   rw[RW] at hn
   obtain ⟨r1,r2,rfl⟩:=List.append_of_mem (hs a (by simp))
   have:=ih (r1 ++ r2) hn.2 fun z hz=>by
    have h1:=hs z (by simp[hz])
    rw[Ry,Rm] at h1
    rw[Ry]
    rcases h1 with h1 | h1 | h1
    ·exact .inl h1
    ·exact absurd (h1 ▸ hz) hn.1
    ·exact .inr h1
   simp only[R5,Rp] at this ⊢
   omega
 have h1:=this St (List.range n) h fun z hz=>R3.2 (k z hz)
 simpa using h1
theorem mn.ne (_:(n:Int) < dZ) (h:mn n E S0 D St S) {z:Nat} (hz:z∈St):D z≠0∧D z≠dZ:=by
 have hl:=h.lt z hz
 refine ⟨fun e=>(h.zero z hl e).2 hz,fun e=>(h.CR z hl e).1 hz⟩
theorem fK.start (_:(n:Int) < dZ) (h:mn n E S0 D St S) (hx:x < n) (h0:D x=0):fK n E S0 D St S x [] (iP D x ((St.length:Int)+1)) [] S:=by
 have hxs:=(h.zero x hx h0).2
 have hl:=zC (St:=x :: St) (n:=n) (RW.2 ⟨hxs,h.nd⟩) fun z hz=>by
  rcases Rm.1 hz with rfl | hz
  ·exact hx
  ·exact h.lt z hz
 simp only[Rp] at hl
 refine ⟨⟨?_,fun z hz=>?_,fun z hz h1=>?_,fun z hz h1=>?_,fun z hz h1 h2=>?_,h.sound,h.base⟩,fun z hz=>⟨kK fun e=>hz (by rw[e,h0]),rfl⟩,by rw[dV]; omega,by simp,by simp⟩
 ·rw[RV]
  refine ⟨h.nd,by simp,fun a ha b hb e=>?_⟩
  simp at hb
  exact hxs (by rw[← hb,← e]; exact ha)
 ·rcases Ry.1 hz with hz | hz
  ·exact h.lt z hz
  ·simp at hz; subst hz; exact hx
 ·by_cases e:z=x
  ·rw[e,dV] at h1; omega
  ·rw[kK e] at h1
   obtain ⟨k1,k2⟩:=h.zero z hz h1
   exact ⟨k1,by simp[k2,e]⟩
 ·by_cases e:z=x
  ·rw[e,dV] at h1; unfold dZ at *; omega
  ·rw[kK e] at h1
   obtain ⟨k1,k2,k3⟩:=h.CR z hz h1
   refine ⟨by simp[k1,e],k2,fun y hy=>?_⟩
   have:=k3 y hy
   rw[kK fun e2=>by rw[e2,h0] at this; unfold dZ at this; omega]; exact this
 ·by_cases e:z=x
  ·subst e
   rw[dV]
   refine ⟨St.length,by simp,by omega,Int.le_refl _,z,?_,.refl⟩
   rw[show ((St.length:Int)+1 - 1).toNat=St.length by omega]; simp
  ·rw[kK e] at h1 h2 ⊢
   obtain ⟨p,k1,k2,k3,w,k4,k5⟩:=h.on z hz h1 h2
   exact ⟨p,by rw[Rt (Rl.1 k1).1]; exact k1,k2,k3,w,by rw[Rt (Rl.1 k4).1]; exact k4,k5⟩
theorem fK.put (hE:∀ x,x < n→∀ y∈E x,y < n) (hn:(n:Int) < dZ) (hx:x < n) {y:Nat} (hy:y∈E x) (hg:mn n E S0 D (St ++ x :: T) S) (hold:∀ z,D0 z≠0→D z=D0 z∧S z=S1 z) (h0:D0 x=0) (hown:1≤D x∧D x≤(St.length:Int)+1) (hy0:D y≠0)
  (hfin:∀ z∈T,Ij E D (St ++ x :: T) S z∧(D x≤D z∧j5 (S z) (S x)∨D y≤D z∧j5 (S z) (S y))) (hsuc:∀ z∈done,Gb D (St ++ x :: T) S x z) :
  fK n E S0 D0 St S1 x (done ++ [y]) (iP D x (min (D x) (D y))) T (iP S x (S x ||| S y)):=by
 have hyn:=hE x hx y hy
 have hxm:x∈St ++ x :: T:=by simp
 have hxne:=hg.ne hn hxm
 have hD:∀ z,z≠x→iP D x (min (D x) (D y)) z=D z:=fun z e=>kK e
 have hS:∀ z,z≠x→iP S x (S x ||| S y) z=S z:=fun z e=>kK e
 have hle:iP D x (min (D x) (D y)) x≤D x:=by rw[dV]; omega
 have hSle:j5 (S x) (iP S x (S x ||| S y) x):=fun t ht=>by rw[dV,R4,ht]; rfl
 have hSle2:j5 (S y) (iP S x (S x ||| S y) x):=fun t ht=>by rw[dV,R4,ht,Bool.or_true]
 have hSup:∀ z,j5 (S z) (iP S x (S x ||| S y) z):=fun z=>by
  by_cases e:z=x
  ·rw[e]; exact hSle
  ·rw[hS z e]; exact fun _ h=>h
 have hfarx:∀ z,D z=dZ→z≠x:=fun z h e=>hxne.2 (by rw[← e]; exact h)
 have hyD:1≤D y∧((D y=dZ)∨∃ p:Nat,(St ++ x :: T)[p]?=some y∧D y≤(p:Int)+1∧∃ w,(St ++ x :: T)[(D y - 1).toNat]?=some w∧ik E y w):=by
  by_cases hf:D y=dZ
  ·exact ⟨by rw[hf]; decide,.inl hf⟩
  ·obtain ⟨p,k1,k2,k3,k4⟩:=hg.on y hyn hy0 hf
   exact ⟨k2,.inr ⟨p,k1,k3,k4⟩⟩
 obtain ⟨p0,q1,q2,q3,q4⟩:=hg.on x hx hxne.1 hxne.2
 have hDx:D x < dZ:=by
  have:=zC hg.nd hg.lt
  have:=(Rl.1 q1).1
  omega
 refine ⟨⟨hg.nd,hg.lt,fun z hz h1=>?_,fun z hz h1=>?_,fun z hz h1 h2=>?_,fun z t hz h1=>?_,fun z hz t h1=>hSup z t (hg.base z hz t h1)⟩,fun z hz=>?_,?_,fun z hz=>?_,fun z hz=>?_⟩
 ·by_cases e:z=x
  ·rw[e,dV] at h1; omega
  ·rw[hD z e] at h1
   rw[hS z e]; exact hg.zero z hz h1
 ·by_cases e:z=x
  ·rw[e,dV] at h1
   have:=hg.ne hn hxm
   omega
  ·rw[hD z e] at h1
   obtain ⟨k1,k2,k3⟩:=hg.CR z hz h1
   rw[hS z e]
   exact ⟨k1,k2,fun u hu=>by rw[hD u (hfarx u (k3 u hu))]; exact k3 u hu⟩
 ·by_cases e:z=x
  ·subst e
   rw[dV]
   rcases Int.le_total (D z) (D y) with hc | hc
   ·rw[Int.min_eq_left hc]
    exact ⟨p0,q1,q2,q3,q4⟩
   ·rw[Int.min_eq_right hc]
    rcases hyD.2 with hf | ⟨p,k1,k3,w,k4,k5⟩
    ·rw[hf] at hc; omega
    ·exact ⟨p0,q1,hyD.1,by omega,w,k4,.step hy k5⟩
  ·rw[hD z e] at h1 h2 ⊢
   exact hg.on z hz h1 h2
 ·by_cases e:z=x
  ·subst e
   rw[dV,R4,Se] at h1
   rcases h1 with h1 | h1
   ·exact hg.sound z t hz h1
   ·exact (hg.sound y t hyn h1).up (.step hy .refl)
  ·rw[hS z e] at h1; exact hg.sound z t hz h1
 ·have e:z≠x:=fun e=>hz (by rw[e]; exact h0)
  rw[hD z e,hS z e]; exact hold z hz
 ·rw[dV]; omega
 ·have hzne:z≠x:=fun e=>by
   have h1:=hg.nd
   rw[RV] at h1
   exact (RW.1 h1.2.1).1 (e ▸ hz)
  obtain ⟨⟨k1,k2⟩,k3⟩:=hfin z hz
  rw[hD z hzne,hS z hzne]
  refine ⟨⟨by rw[hD z hzne]; exact k1,fun u hu=>?_⟩,?_,?_⟩
  ·rcases k2 u hu with ⟨m1,m2⟩ | ⟨q,m1,m2⟩
   ·left
    rw[hD u (hfarx u m1),hS u (hfarx u m1),hS z hzne]; exact ⟨m1,m2⟩
   ·right
    rw[hD z hzne]; exact ⟨q,m1,m2⟩
  ·rw[dV]
   rcases k3 with k3 | k3 <;> omega
  ·rcases k3 with k3 | k3
   ·exact fun t ht=>hSle t (k3.2 t ht)
   ·exact fun t ht=>hSle2 t (k3.2 t ht)
 ·rcases Ry.1 hz with hz | hz
  ·rcases hsuc z hz with ⟨m1,m2⟩ | ⟨q,m1,m2⟩
   ·left
    rw[hD z (hfarx z m1),hS z (hfarx z m1)]
    exact ⟨m1,fun t ht=>hSle t (m2 t ht)⟩
   ·right
    exact ⟨q,m1,by omega⟩
  ·rw[RU] at hz
   subst hz
   rcases hyD.2 with hf | ⟨p,k1,k3,_⟩
   ·left
    rw[hD z (hfarx z hf),hS z (hfarx z hf)]
    exact ⟨hf,hSle2⟩
   ·right
    exact ⟨p,k1,by rw[dV]; omega⟩
theorem fK.Nk (hE:∀ x,x < n→∀ y∈E x,y < n) (hn:(n:Int) < dZ) (hx:x < n) (h0:D0 x=0) (h:fK n E S0 D0 St S1 x done D T S) {y:Nat} (hy:y∈E x) (hy0:D y≠0) :
  fK n E S0 D0 St S1 x (done ++ [y]) (iP D x (min (D x) (D y))) T (iP S x (S x ||| S y)) :=
 fK.put hE hn hx hy h.g h.old h0 h.own hy0 (fun z hz=>⟨(h.fin z hz).1,.inl (h.fin z hz).2⟩) h.KB
theorem HK {l r:List Nat} {p z:Nat} (h:l[p]?=some z):(l ++ r)[p]?=some z:=by
 rw[Rt (Rl.1 h).1]; exact h
theorem fK.yA (hE:∀ x,x < n→∀ y∈E x,y < n) (hn:(n:Int) < dZ) (hx:x < n) (h0:D0 x=0) (h:fK n E S0 D0 St S1 x done D T S) {y:Nat} (hy:y∈E x) (_:D y=0) {D':Nat→Int} {St':List Nat} {S':Nat→BV} (hv:wQ n E S0 D (St ++ x :: T) S y D' St' S') :
  ∃ T',St'=St ++ x :: T'∧fK n E S0 D0 St S1 x (done ++ [y]) (iP D' x (min (D' x) (D' y))) T' (iP S' x (S' x ||| S' y)):=by
 obtain ⟨g',hold,hc⟩:=hv
 have hxm:x∈St ++ x :: T:=by simp
 have hxne:=h.g.ne hn hxm
 obtain ⟨x1,x2⟩:=hold x hxne.1
 have hdd:∀ z,D0 z≠0→D' z=D0 z∧S' z=S1 z:=fun z hz=>by
  obtain ⟨k1,k2⟩:=h.old z hz
  obtain ⟨k3,k4⟩:=hold z (by rw[k1]; exact hz)
  exact ⟨k3.trans k1,k4.trans k2⟩
 have hok:∀ (r:List Nat) (z u:Nat),D z≠0→Gb D (St ++ x :: T) S z u→Gb D' (St ++ x :: T ++ r) S' z u:=fun r z u hz hu=>by
  obtain ⟨z1,z2⟩:=hold z hz
  rcases hu with ⟨m1,m2⟩ | ⟨q,m1,m2⟩
  ·left
   obtain ⟨u1,u2⟩:=hold u (by rw[m1]; decide)
   rw[u1,u2,z2]; exact ⟨m1,m2⟩
  ·right
   exact ⟨q,HK m1,by rw[z1]; exact m2⟩
 have hT:∀ z∈T,D z≠0:=fun z hz=>(h.g.ne hn (by simp[hz])).1
 have hfin:∀ (r:List Nat),∀ z∈T,Ij E D' (St ++ x :: T ++ r) S' z∧(D' x≤D' z∧j5 (S' z) (S' x)):=fun r z hz=>by
  obtain ⟨⟨⟨p,p1,p2⟩,k2⟩,k3,k4⟩:=h.fin z hz
  obtain ⟨z1,z2⟩:=hold z (hT z hz)
  exact ⟨⟨⟨p,HK p1,by rw[z1]; exact p2⟩,fun u hu=>hok r z u (hT z hz) (k2 u hu)⟩,by rw[x1,z1]; exact k3,by rw[x2,z2]; exact k4⟩
 rcases hc with ⟨rfl,hf⟩ | ⟨Ty,rfl,hle,hall⟩
 ·refine ⟨T,rfl,fK.put hE hn hx hy g' hdd h0 (by rw[x1]; exact h.own) (by rw[hf]; decide) (fun z hz=>?_) (fun z hz=>?_)⟩
  ·have:=hfin [] z hz
   rw[SM] at this
   exact ⟨this.1,.inl this.2⟩
  ·have:=hok [] x z hxne.1 (h.KB z hz)
   rwa [SM] at this
 ·have e:St ++ x :: T ++ y :: Ty=St ++ x :: (T ++ y :: Ty):=by simp
  refine ⟨T ++ y :: Ty,e,?_⟩
  rw[e] at g' hall
  have hyne:=g'.ne hn (z:=y) (by simp)
  refine fK.put hE hn hx hy g' hdd h0 (by rw[x1]; exact h.own) hyne.1 (fun z hz=>?_) (fun z hz=>?_)
  ·rcases Ry.1 hz with hz | hz
   ·have:=hfin (y :: Ty) z hz
    rw[e] at this
    exact ⟨this.1,.inl this.2⟩
   ·exact ⟨(hall z hz).1,.inr (hall z hz).2⟩
  ·have:=hok (y :: Ty) x z hxne.1 (h.KB z hz)
   rwa [e] at this
theorem fK.keep (h:fK n E S0 D0 St S1 x (E x) D T S) (hne:D x≠(St.length:Int)+1):wQ n E S0 D0 St S1 x D (St ++ x :: T) S:=by
 have:=h.own
 refine ⟨h.g,h.old,.inr ⟨T,rfl,by omega,fun z hz=>?_⟩⟩
 rcases Rm.1 hz with rfl | hz
 ·exact ⟨⟨⟨St.length,by simp,by omega⟩,h.KB⟩,Int.le_refl _,fun _ h=>h⟩
 ·exact h.fin z hz
theorem fK.pop (hE:∀ x,x < n→∀ y∈E x,y < n) (hn:(n:Int) < dZ) (hx:x < n) (h0:∀ z∈x :: T,D0 z=0) (h:fK n E S0 D0 St S1 x (E x) D T S) (he:D x=(St.length:Int)+1) :
  wQ n E S0 D0 St S1 x (fun z=>if z∈x :: T then dZ else D z) St (fun z=>if z∈x :: T then S x else S z):=by
 have hg:=h.g
 have hmem:∀ z∈x :: T,z∈St ++ x :: T:=fun z hz=>SN _ hz
 have hnd:=hg.nd
 rw[RV] at hnd
 have hidx:∀ (q u:Nat),(St ++ x :: T)[q]?=some u→St.length≤q→u∈x :: T:=fun q u hq hl=>by
  rw[RL hl] at hq
  exact Re hq
 have hsx:∀ z∈x :: T,j5 (S z) (S x)∧D x≤D z∧∀ y∈E z,Gb D (St ++ x :: T) S z y:=fun z hz=>by
  rcases Rm.1 hz with rfl | hz
  ·exact ⟨fun _ h=>h,Int.le_refl _,h.KB⟩
  ·obtain ⟨k1,k2,k3⟩:=h.fin z hz
   exact ⟨k3,k2,k1.2⟩
 have hsucc:∀ z∈x :: T,∀ y∈E z,y∈x :: T∨(D y=dZ∧j5 (S y) (S x)):=fun z hz y hy=>by
  obtain ⟨k1,k2,k3⟩:=hsx z hz
  rcases k3 y hy with ⟨m1,m2⟩ | ⟨q,m1,m2⟩
  ·exact .inr ⟨m1,fun t ht=>k1 t (m2 t ht)⟩
  ·exact .inl (hidx q y m1 (by omega))
 have hfull:∀ z w:Nat,ik E z w→z∈x :: T→∀ t,(S0 w).getLsbD t=true→(S x).getLsbD t=true:=by
  intro z w hr
  induction hr with
  | @refl z =>
   intro hz t ht
   exact (hsx z hz).1 t (hg.base z (hg.lt z (hmem z hz)) t ht)
  | @step z y w hy hr ih =>
   intro hz t ht
   rcases hsucc z hz y hy with k | ⟨k1,k2⟩
   ·exact ih k t ht
   ·have hyn:=hE z (hg.lt z (hmem z hz)) y hy
    exact k2 t ((hg.CR y hyn k1).2.1 t ⟨w,hr,ht⟩)
 have hback:∀ (m p z:Nat),p < m→(St ++ x :: T)[p]?=some z→z∈x :: T→ik E z x:=by
  intro m
  induction m with
  | zero=>intro p z h; omega
  | succ m ih =>
   intro p z hp hpz hz
   by_cases e:z=x
   ·rw[e]; exact .refl
   ·have hzT:z∈T:=(Rm.1 hz).resolve_left e
    obtain ⟨⟨⟨p1,k1,k2⟩,_⟩,k3,_⟩:=h.fin z hzT
    have hzn:=hg.lt z (hmem z hz)
    obtain ⟨z0,z1⟩:=hg.ne hn (hmem z hz)
    obtain ⟨p2,m1,m2,m3,w,m4,m5⟩:=hg.on z hzn z0 z1
    have hpp:p1=p:=(List.getElem?_inj (Rl.1 k1).1 hg.nd).1 (k1.trans hpz.symm)
    have hw:=hidx _ w m4 (by omega)
    exact m5.trans (ih (D z - 1).toNat w (by omega) m4 hw)
 have hfarO:∀ z,D z=dZ→z ∉ x :: T:=fun z hz hm=>(hg.ne hn (hmem z hm)).2 hz
 refine ⟨⟨hnd.1,fun z hz=>hg.lt z (SJ _ hz),fun z hz h1=>?_,fun z hz h1=>?_,fun z hz h1 h2=>?_,fun z t hz h1=>?_,fun z hz t h1=>?_⟩,fun z hz=>?_,.inl ⟨rfl,by simp⟩⟩
 ·split at h1
  ·simp[dZ] at h1
  ·rename_i hm
   rw[Q9 hm]
   obtain ⟨k1,k2⟩:=hg.zero z hz h1
   exact ⟨k1,fun hs=>k2 (SJ _ hs)⟩
 ·by_cases hm:z∈x :: T
  ·rw[Ra hm]
   refine ⟨fun hs=>hnd.2.2 z hs z hm rfl,fun t ⟨w,k1,k2⟩=>hfull z w k1 hm t k2,fun y hy=>?_⟩
   split
   ·rfl
   ·rename_i hyn
    exact ((hsucc z hm y hy).resolve_left hyn).1
  ·rw[Q9 hm] at h1 ⊢
   obtain ⟨k1,k2,k3⟩:=hg.CR z hz h1
   refine ⟨fun hs=>k1 (SJ _ hs),k2,fun y hy=>?_⟩
   split
   ·rfl
   ·exact k3 y hy
 ·by_cases hm:z∈x :: T
  ·rw[Ra hm] at h2; exact absurd rfl h2
  ·rw[Q9 hm] at h1 h2 ⊢
   obtain ⟨p,k1,k2,k3,w,k4,k5⟩:=hg.on z hz h1 h2
   have hp:p < St.length:=Nat.lt_of_not_le fun hp=>hm (hidx p z k1 hp)
   rw[Rt hp] at k1
   rw[Rt (by omega)] at k4
   exact ⟨p,k1,k2,k3,w,k4,k5⟩
 ·by_cases hm:z∈x :: T
  ·rw[Ra hm] at h1
   obtain ⟨p,hp,e⟩:=Sk.1 (hmem z hm)
   exact (hg.sound x t hx h1).up (hback (p+1) p z (by omega) (by rw[Q7 hp,e]) hm)
  ·rw[Q9 hm] at h1
   exact hg.sound z t hz h1
 ·by_cases hm:z∈x :: T
  ·rw[Ra hm]
   exact (hsx z hm).1 t (hg.base z hz t h1)
  ·rw[Q9 hm]; exact hg.base z hz t h1
 ·have hm:z ∉ x :: T:=fun hm=>hz (h0 z hm)
  simp only[Q9 hm]; exact h.old z hz
theorem fK.fresh (hn:(n:Int) < dZ) (hG:mn n E S0 D0 St S1) (h:fK n E S0 D0 St S1 x done D T S):∀ z∈x :: T,D0 z=0:=fun z hz=>by
 refine RY fun hne=>?_
 have hm:z∈St ++ x :: T:=SN _ hz
 have hzn:=h.g.lt z hm
 have hnd:=h.g.nd
 rw[RV] at hnd
 by_cases hf:D0 z=dZ
 ·exact (h.g.ne hn hm).2 ((h.old z hne).1.trans hf)
 ·obtain ⟨p,k1,_⟩:=hG.on z hzn hne hf
  exact hnd.2.2 z (Re k1) z hz rfl
theorem mn.all (h:mn n E S0 D St S) (hd:∀ z,z < n→D z=dZ) {z t:Nat} (hz:z < n):(S z).getLsbD t=true↔kx E S0 z t:=⟨h.sound z t hz,(h.CR z hz (hd z hz)).2.1 t⟩
theorem wQ.top {D':Nat→Int} {St':List Nat} {S':Nat→BV} (h:wQ n E S0 D [] S x D' St' S') (hx:x < n):St'=[]∧D' x=dZ:=by
 obtain ⟨g,_,⟨h1,h2⟩ | ⟨T,h1,h2,h3⟩⟩:=h
 ·exact ⟨h1,h2⟩
 ·exfalso
  simp only[RF] at h2
  obtain ⟨⟨⟨p,k1,k2⟩,_⟩,_⟩:=h3 x (by simp)
  have hm:x∈St':=Re k1
  by_cases hz:D' x=0
  ·exact (g.zero x hx hz).2 hm
  ·by_cases hf:D' x=dZ
   ·exact (g.CR x hx hf).1 hm
   ·obtain ⟨_,_,k3,_⟩:=g.on x hx hz hf
    omega
end
section
variable {P:Program} {T:Env} {H:View} {K:V→View→Prop} {w:bX (T,H,K)} {t ty:TypeId}
theorem L6 {d:Operand} {id off len sz bytes s:Nat} {z:List V} {es:List (List V)} (he:qL P t=some (sz,bytes,z)) (hd:ev T d=.sl id off len sz) (hH:H id=.arr s es) (hl:off+len≤es.length) (h0:len≠0)
  (hk:K (.bt []) (H.set id (.arr sz (fw es off (List.replicate len z))))):jD P (.call { callee:=.builtin .clear,args:=#[d],argTypes:=#[t] }) ty T H K w:=by
 obtain ⟨e,ti,hse,hi,hti,hz,hzl,hzok,hs0,rfl,rfl⟩:=nI he
 intro n _
 refine ⟨.bt [],.ep id (.arr ti.size (fw es off (List.replicate len z))),[id],?_,hk⟩
 simp only[sI,bV,oper]
 simp only[RD] at hzok
 simp[sq,hse,hd,cY,hti,h0,hH,hl,hs0,hz,hzl,hzok]
 exact hzok
end
theorem ve:∀ (xs A B:List (List V)),xs.length≤B.length→fw (A ++ B) A.length xs=A ++ xs ++ B.drop xs.length
 | [],A,B,_=>by simp[fw]
 | x :: r,A,[],h=>by simp at h
 | x :: r,A,b :: B,h=>by
  rw[fw,List.set_append_right _ _ (Ri _),Nat.sub_self,List.set_cons_zero]
  have:=ve r (A ++ [x]) B (by simpa using h)
  simpa using this
theorem wh {id off k m:Nat} (hm:m≤k):eQ 2 (.sl id off k 2) (some (gi m)) none=some (.sl id (off+m) (k - m) 2,.none,[]):=by
 simp[eQ,bound,asNat,hm]
theorem FA {id off k m:Nat} (hm:m≤k):eQ 2 (.sl id off k 2) none (some (gi m))=some (.sl id off m 2,.none,[]):=by
 simp[eQ,bound,asNat,hm]
def fa:SC :=
 .seq (.seq (an [aj 29 5,aj 30 4,bj 31 30,bz 32 .lss 29 31]) <|
 .cond (.tmp 32) (.skip) (.exit 2)) <|
 .seq (.block 3 (.seq (an [aj 35 4,aj 36 5,aY 37 2 35 36,bM 38 2 37,aj 39 4,aj 40 5,aR 41 .sub 40 1,aY 42 2 39 41,bM 43 2 42,((some 44),.op (.old (.binOp .neq 33 (.tmp 38) (.tmp 43) 33) 4))]) <|
 .cond (.tmp 44) (.seq (an [aj 45 0,aj 46 3,aj 47 4,aj 48 5,aY 49 2 47 48,bM 50 2 49,aY 51 2 45 46,(none,.op (.store 2 (.tmp 51) (.tmp 50)))]) <|
 an [aj 52 3,aR 53 .add 52 1,aj 3 53]) (.skip))) <|
 an [aj 33 5,aR 34 .add 33 1,aj 5 34]
def eZ:SC :=
 .seq (.seq (an [aj 10 3,aj 11 0,bj 12 11,bz 13 .lss 10 12]) <|
 .cond (.tmp 13) (.skip) (.exit 0)) <|
 .seq (.block 1 (.seq (an [aj 16 0,aj 17 3,aY 18 2 16 17,bM 19 2 18,aj 20 0,aj 21 3,aR 22 .sub 21 1,aY 23 2 20 22,bM 24 2 23,((some 25),.op (.old (.binOp .eql 33 (.tmp 19) (.tmp 24) 33) 4))]) <|
 .cond (.tmp 25) (.seq (an [aj 26 0,aj 27 3,((some 28),.op (.slice 2 (.tmp 26) (some (.tmp 27)) none)),aj 4 28]) <|
 .seq (.seq (an [bA 5 1]) <|
 .block 2 (.loop fa)) <|
 .seq (an [aj 54 0,aj 55 3,((some 56),.op (.slice 2 (.tmp 54) (some (.tmp 55)) none)),(none,.op (.old (.call { callee:=.builtin .clear,args:=#[(.tmp 56)],argTypes:=#[27] }) 0))]) <|
 .seq (an [aj 57 0,aj 58 3,((some 59),.op (.slice 2 (.tmp 57) none (some (.tmp 58)))),aj 2 59]) <|
 .ret) (.skip))) <|
 an [aj 14 3,aR 15 .add 14 1,aj 3 15]
def fE:SF:=⟨.seq (an [((some 2),.op (.bN (.val (.emp 1))))]) <|
 .seq (.seq (an [aj 6 0,bj 7 6,aR 8 .lss 7 2]) <|
 .cond (.tmp 8) (.seq (an [aj 9 0,aj 2 9]) <|
 .ret) (.skip)) <|
 .seq (.seq (an [bA 3 1]) <|
 .block 0 (.loop eZ)) <|
 .seq (an [aj 60 0,aj 2 60]) <|
 .ret,
 [.tmp 2],61⟩
theorem jh:aU Tryz.prog 114 []=some fE:=by kernel_rfl
def xz:SF:=⟨.seq (an [((some 2),.op (.bN (.val (.emp 1))))]) <|
 .seq (an [aj 3 0,p7 4 112 [(.tmp 3),(.val (.fn 113 [] []))]]) <|
 .seq (an [aj 5 0,bJ 6 114 [5],aj 2 6]) <|
 .ret,
 [.tmp 2],7⟩
theorem Bt:aU Tryz.prog 64 []=some xz:=by kernel_rfl
theorem pP {l:List aJ} {i:Nat} (h:i < l.length):(bT l).getD i []=[gi (l.getD i gh).aD,gi (l.getD i gh).dot]:=yX (getD_some h)
theorem I2 (l:List aJ) (i j:Nat) (x d:aJ) (hi:i < l.length):(l.set i x).getD j d=if i=j then x else l.getD j d:=by
 rw[gz]
 by_cases e:i=j
 ·rw[Ra ⟨e,hi⟩,Ra e]
 ·rw[Q9 (fun h=>e h.1),Q9 e]
set_option maxHeartbeats 16000000 in
theorem HX (l:List aJ) (hn:l.length≤100000) (u:V) (H:View) (ho:bc H u 2 (bT l)):aB Tryz.prog 114 [u] H fun r H'=>(∀ id,owner u≠some id→H' id=H id)∧bc H' r 2 (bT (eD l l.length))∧owner r=owner u:=by
 refine aB.cut (K:=fun r H'=>(H'=H∧r=u∧eD l l.length=l)∨∃ id rest,u=.sl id 0 l.length 2∧r=.sl id 0 (eD l l.length).length 2∧H'=H.set id (.arr 2 (bT (eD l l.length) ++ rest))) ?_ ?_
 rotate_left
 ·rintro r H' (⟨rfl,rfl,e⟩ | ⟨id,rest,rfl,rfl,rfl⟩)
  ·exact .inl ⟨fun _ _=>rfl,by rw[e]; exact ho,rfl⟩
  ·refine .inr ⟨id,2,bT (eD l l.length),rest,by simp[View.set],fun j hj=>?_,?_,rfl⟩
   ·rw[set_set]
    simp only[View.set]
    rw[Q9 (fun e=>hj (by rw[e]; rfl))]
   ·rw[set_set]
    exact .inr ⟨id,by rw[bI],by simp[View.set]⟩
 refine aB.of mixed jh ?_
 have hlen:cY u=some l.length:=by rw[ho.len,bI]
 simp (disch:=omega) only [↓wr,seval,wq,ah,ag,ak,aa,ab,af,ai,ae,fE,hlen]
 refine aq.dec (fun h2=>?_) (fun h2=>?_)
 ·simp (disch:=omega) only [↓wr,seval,wq,ah,ag,ak,aa,ab,af,ai,ae]
  left
  try refine ⟨rfl,rfl,?_⟩
  match l,h2 with
  | [],_=>rfl
  | [x],_=>rfl
  | _ :: _ :: _,h2=>simp at h2; omega
 obtain ⟨id,hu,hid⟩:=ho.sl (by rw[bI]; omega)
 rw[bI] at hu
 subst hu
 simp (disch:=omega) only [↓wr,seval,wq,ah,ag,ak,aa,ab,af,ai,ae]
 refine bg.up (l.length - 1) (fun i T H'=>H=H'∧(∀ j,0 < j→j < i+1→l.getD j gh≠l.getD (j - 1) gh)∧T 0=.sl id 0 l.length 2∧T 3=gi ((i+1:Nat):Int)) ⟨rfl,fun j h1 h2=>by omega,rfl,rfl⟩ ?_
 rintro i k T _ hk ⟨rfl,hne,t0,t3⟩
 simp (disch:=omega) only [↓wr,seval,wq,ah,ag,ak,aa,ab,af,ai,ae,eZ,t0,t3]
 refine aq.dec (fun hc=>?_) (fun hc=>?_)
 rotate_left
 ·simp (disch:=omega) only [↓wr,seval,wq,ah,ag,ak,aa,ab,af,ai,ae,t0]
  left
  try refine ⟨rfl,rfl,?_⟩
  rw[wK l _ (Ri _) (fun j h1 h2=>hne j h1 (by omega)),List.take_length]
 have hi1:i+1 < l.length:=by omega
 have e1:(((i+1:Nat):Int) - 1)=(i:Int):=by omega
 simp (disch:=omega) only [↓wr,seval,wq,ah,ag,ak,aa,ab,af,ai,ae,t0,t3,hid,pP hi1,pP (show i < l.length by omega),e1]
 refine ⟨by omega,by rw[bI]; omega,?_⟩
 refine ⟨by omega,by rw[bI]; omega,?_⟩
 generalize hx:l.getD (i+1) gh=x
 generalize hy:l.getD i gh=y
 refine r6 (xs:=#[.int .i64 x.aD,.int .i64 x.dot]) (ys:=#[.int .i64 y.aD,.int .i64 y.dot]) Tryz.underlying33 (by kernel_rfl) (by kernel_rfl) ?_ ?_ (Ci x y) (.inl ⟨rfl,rfl⟩) ?_
 ·rfl
 ·rfl
 rw[JW]
 simp (disch:=omega) only [↓wr,seval,wq,ah,ag,ak,aa,ab,af,ai,ae,t0,t3]
 refine aq.dec (fun heq=>?_) (fun heq=>?_)
 rotate_left
 ·simp (disch:=omega) only [↓wr,seval,wq,ah,ag,ak,aa,ab,af,ai,ae,t0,t3]
  refine aQ hk (by omega) ⟨rfl,fun j h1 h2=>?_,t0,by push_cast; rfl⟩
  rcases Rw j (i+1) with q | q
  ·exact hne j h1 q
  ·have:j=i+1:=by omega
   subst this
   rw[Nat.add_sub_cancel,hx,hy]; exact heq
 have hstart:eD l (i+1+1)=l.take (i+1):=by
  rw[eD,Q9,wK l (i+1) (by omega) hne]
  rw[Nat.add_sub_cancel,hx,hy]
  simp[heq]
 simp (disch:=omega) only [↓wr,seval,wq,ah,ag,ak,aa,ab,af,ai,ae,t0,t3,wh (id:=id) (off:=0) (k:=l.length) (m:=i+1) (by omega)]
 refine bg.up (l.length - (i+1) - 1) (fun i2 T H'=>∃ (kk:Nat) (cur:List aJ),H'=H.set id (.arr 2 (bT cur))∧cur.length=l.length∧i+1≤kk∧kk≤i+1+i2∧cur.take kk=eD l (i+1+(i2+1))∧(∀ j,kk≤j→cur.getD j gh=l.getD j gh) ∧
  T 0=.sl id 0 l.length 2∧T 3=gi kk∧T 4=.sl id (i+1) (l.length - (i+1)) 2∧T 5=gi ((i2+1:Nat):Int)) ⟨i+1,l,?_,rfl,Ri _,by omega,by rw[hstart],fun _ _=>rfl,t0,t3,?_,rfl⟩ ?_
 ·funext j; simp only[View.set]; split
  ·rename_i e; rw[e,hid]
  ·rfl
 ·rfl
 clear t0 t3 hk
 rintro i2 k2 T2 _ hk2 ⟨kk,cur,rfl,hcl,k1,k3,hct,hcj,t0,t3,t4,t5⟩
 have hset:(H.set id (.arr 2 (bT cur))) id=.arr 2 (bT cur):=by simp[View.set]
 simp (disch:=omega) only [↓wr,seval,wq,ah,ag,ak,aa,ab,af,ai,ae,fa,t0,t3,t4,t5]
 refine aq.dec (fun hc2=>?_) (fun hc2=>?_)
 ·have hp:i+1+(i2+1) < l.length:=by omega
  have e2:(((i2+1:Nat):Int) - 1)=(i2:Int):=by omega
  simp (disch:=omega) only [↓wr,seval,wq,ah,ag,ak,aa,ab,af,ai,ae,t0,t3,t4,t5,hset,e2,pP (l:=cur) (show i+1+(i2+1) < cur.length by omega),pP (l:=cur) (show i+1+i2 < cur.length by omega)]
  refine ⟨by omega,by rw[bI]; omega,?_⟩
  refine ⟨by omega,by rw[bI]; omega,?_⟩
  rw[hcj _ (show kk≤i+1+(i2+1) by omega),hcj _ (show kk≤i+1+i2 by omega)]
  generalize hx2:l.getD (i+1+(i2+1)) gh=x2
  generalize hy2:l.getD (i+1+i2) gh=y2
  refine r6 (xs:=#[.int .i64 x2.aD,.int .i64 x2.dot]) (ys:=#[.int .i64 y2.aD,.int .i64 y2.dot]) Tryz.underlying33 (by kernel_rfl) (by kernel_rfl) ?_ ?_ (Ci x2 y2) (.inr ⟨rfl,rfl⟩) ?_
  ·rfl
  ·rfl
  rw[JW]
  simp (disch:=omega) only [↓wr,seval,wq,ah,ag,ak,aa,ab,af,ai,ae,t0,t3,t4,t5]
  have hcu:eD l (i+1+(i2+1+1))=if x2=y2 then eD l (i+1+(i2+1)) else eD l (i+1+(i2+1)) ++ [x2]:=by
   rw[show i+1+(i2+1+1)=(i+1+(i2+1))+1 by omega,eD,hx2,show i+1+(i2+1) - 1=i+1+i2 by omega,hy2]
   by_cases e:x2=y2
   ·rw[Ra e,Q9 (by simp[e])]
   ·rw[Q9 e,Ra (.inr e)]
  refine aq.dec (fun he=>?_) (fun he=>?_)
  ·simp (disch:=omega) only [↓wr,seval,wq,ah,ag,ak,aa,ab,af,ai,ae,t0,t3,t4,t5]
   rw[Ra he] at hcu
   exact aQ hk2 (by omega) ⟨kk,cur,rfl,hcl,k1,by omega,by rw[hcu]; exact hct,hcj,t0,t3,t4,by push_cast; rfl⟩
  ·simp (disch:=omega) only [↓wr,seval,wq,ah,ag,ak,aa,ab,af,ai,ae,t0,t3,t4,t5,hset,pP (l:=cur) (show i+1+(i2+1) < cur.length by omega)]
   rw[hcj _ (show kk≤i+1+(i2+1) by omega),hx2]
   have hkl:(bT cur).getD kk []=[gi (cur.getD kk gh).aD,gi (cur.getD kk gh).dot]:=pP (by omega)
   have hse:(bT cur).set kk [gi x2.aD,gi x2.dot]=bT (cur.set kk x2):=by simp[bT,Sr,gW]
   simp (disch:=omega) only [↓wr,seval,wq,ah,ag,ak,aa,ab,af,ai,ae,t0,t3,t4,t5,hset,hkl,hse]
   rw[set_set]
   rw[Q9 he] at hcu
   refine ⟨by omega,by rw[bI]; omega,?_⟩
   refine ⟨by omega,by rw[bI]; omega,?_⟩
   refine aQ hk2 (by omega) ⟨kk+1,cur.set kk x2,rfl,by simp[hcl],by omega,by omega,?_,fun j hj=>?_,t0,by push_cast; rfl,t4,by push_cast; rfl⟩
   ·rw[hcu,← hct,RG,List.take_set_of_le (Ri _),S7 (by omega)]; rfl
   ·rw[I2 _ _ _ _ _ (by omega),Q9 (by omega)]
    exact hcj j (by omega)
 ·have hi2:i+1+(i2+1)=l.length:=by omega
  rw[hi2] at hct
  have hz:l.length - kk≠0:=by omega
  have hkl:kk=(eD l l.length).length:=by rw[← hct,Sa]; omega
  simp (disch:=omega) only [↓wr,seval,wq,ah,ag,ak,aa,ab,af,ai,ae,t0,t3,wh (id:=id) (off:=0) (k:=l.length) (m:=kk) (by omega)]
  refine L6 (id:=id) (off:=kk) (len:=l.length - kk) (sz:=2) (bytes:=16) (s:=2) (z:=[gi 0,gi 0]) (es:=bT cur) (by kernel_rfl) (by simp (disch:=omega) only [↓wr,seval,wq,ah,ag,ak,aa,ab,af,ai,ae]; try rw[R8]) hset (by rw[bI]; omega) hz ?_
  rw[set_set]
  have hsr:fw (bT cur) kk (List.replicate (l.length - kk) [gi 0,gi 0])=bT (eD l l.length) ++ List.replicate (l.length - kk) [gi 0,gi 0]:=by
   have h1:=ve (List.replicate (l.length - kk) [gi 0,gi 0]) (bT (cur.take kk)) (bT (cur.drop kk)) (by simp[bT]; omega)
   rw[show bT (cur.take kk) ++ bT (cur.drop kk)=bT cur by rw[bT,bT,← RI,List.take_append_drop]; rfl] at h1
   rw[show (bT (cur.take kk)).length=kk by rw[bI,Sa]; omega] at h1
   rw[h1,hct,RB (by simp[bT]; omega),SM]
  rw[hsr]
  simp (disch:=omega) only [↓wr,seval,wq,ah,ag,ak,aa,ab,af,ai,ae,t0,t3,FA (id:=id) (off:=0) (k:=l.length) (m:=kk) (by omega)]
  right
  exact ⟨id,List.replicate (l.length - kk) [gi 0,gi 0],rfl,by rw[hkl],rfl⟩
set_option maxHeartbeats 4000000 in
theorem GH (l:List aJ) (hn:l.length≤100000) (u:V) (H:View) (ho:bc H u 2 (bT l)):aB Tryz.prog 64 [u] H fun r H'=>(∀ id,owner u≠some id→H' id=H id)∧bc H' r 2 (bT (w7 l))∧owner r=owner u:=by
 refine aB.of mixed Bt ?_
 simp (disch:=omega) only [↓wr,seval,wq,ah,ag,ak,aa,ab,af,ai,ae,xz]
 refine aF.eJ ((NB l (by omega) u H ho).mono ?_)
 rintro r H2 ⟨rfl,k2,o2⟩
 simp (disch:=omega) only [↓wr,seval,wq,ah,ag,ak,aa,ab,af,ai,ae]
 refine aF.eJ ((HX (dM l) (by rw[iu]; omega) u H2 o2).mono ?_)
 rintro r H3 ⟨k3,o3,e3⟩
 simp (disch:=omega) only [↓wr,seval,wq,ah,ag,ak,aa,ab,af,ai,ae]
 rw[iu] at o3
 exact ⟨fun id hid=>by rw[k3 id hid,k2 id hid],o3,e3⟩
end Gv
