/-
  Part 13 of the proof: what the machine does and what the functions answer.
  Conditions: those that each lemma names.
-/
import Derived.Test.YtihmlbdfcmfbdaaGreatSGzA9L
set_option linter.unusedSimpArgs false
set_option linter.unusedVariables false
set_option maxRecDepth 100000
namespace Gv
open Go Go.Proofs
def ef (a:List aR) (p:Nat) (s:Int):Nat:=(fh a p [s]).1.toNat
def eK (a:List aR) (p:Nat) (s:Int):Prop:=∃ e∈(a.getD p bH).bk,e.sym=s
noncomputable abbrev jH (g:aw) (a:List aR) (p:Nat):List aH:=cw g (a.getD p bH).bh
inductive iS (a:List aR):Nat→List Int→Nat→Prop
 | nil {p:Nat} : iS a p [] p
 | cons {p q:Nat} {s:Int} {X:List Int} : eK a p s→iS a (ef a p s) X q→iS a p (s :: X) q
theorem iS.snoc {a:List aR} {p q:Nat} {X:List Int} (h:iS a p X q) {s:Int} (he:eK a q s):iS a p (X ++ [s]) (ef a q s):=by
 induction h with
 | nil=>exact .cons he .nil
 | cons h1 _ ih=>exact .cons h1 (ih he)
theorem iS.one {a:List aR} {p q r:Nat} {X:List Int} (h:iS a p X q) (k:iS a p X r):q=r:=by
 induction h with
 | nil=>cases k; rfl
 | cons h1 _ ih=>cases k with | cons _ k=>exact ih k
theorem gn {a:List aR} {p:Nat} {s:Int} (h:eK a p s):p < a.length:=by
 obtain ⟨e,he,_⟩:=h; exact (zY he).1
theorem II {l:List dx} {s:Int} (h:∃ e∈l,e.sym=s):∃ e∈l,e.sym=s∧gH l s=e.to:=by
 induction l with
 | nil=>obtain ⟨e,he,_⟩:=h; simp at he
 | cons e l ih =>
  rw[gH]
  by_cases hs:e.sym=s
  ·rw[Vd hs]; exact ⟨e,by simp,hs,rfl⟩
  ·rw[Va hs]
   obtain ⟨e2,h1,h2⟩:=h
   rcases Vp.1 h1 with rfl | h1
   ·exact absurd h2 hs
   ·obtain ⟨e3,k1,k2⟩:=ih ⟨e2,h1,h2⟩
    exact ⟨e3,by simp[k1],k2⟩
theorem PV {g:aw} {i j:Nat} (h:bf g i=bf g j):i=j:=by
 have h1:=wg g i
 rw[h,wg] at h1
 omega
theorem Ah (g:aw) (l:List aH) (n:Nat):(ko g l n).Nodup:=by
 unfold ko
 unfold List.Nodup
 rw[Xe]
 exact ((List.nodup_range (n:=n)).filter _).imp fun hij e=>hij (PV e)
theorem PF {l:List dx} (h:(l.map dx.sym).Nodup) {e:dx} (he:e∈l):gH l e.sym=e.to:=by
 induction l with
 | nil=>simp at he
 | cons x l ih =>
  simp only[VC,V3] at h
  rw[gH]
  rcases Vp.1 he with rfl | he
  ·rw[Vd rfl]
  ·rw[Va (fun e2=>h.1 (by rw[e2]; exact List.mem_map_of_mem he))]
   exact ih h.2 he
structure cF (g:aw) (a:List aR):Prop where
 dG:g.dK
 ok:BH g a
 e:jY g a
 x:Pw g a
 pos:1≤a.length
section
variable {g:aw} {a:List aR}
theorem cF.bh (h:cF g a) {p:Nat} (hp:p < a.length):∀ x∈(a.getD p bH).bh,cr g x:=(h.ok.bh _ (Vf (getD_some hp))).2.2
theorem cF.has (h:cF g a) {p:Nat} (hp:p < a.length) {x:aH} (hx:x∈jH g a p):cr g x:=((cY h.dG (h.bh hp)).1 hx).has (h.bh hp)
theorem cF.nS (h:cF g a) {p:Nat} (hp:p < a.length) {s:Int} : eK a p s↔∃ x∈jH g a p,bA g x=(s,true):=by
 have hs:=h.x.all _ (Vf (getD_some (d:=bH) hp))
 have hmm:eK a p s↔s∈((a.getD p bH).bk.map dx.sym):=by
  simp only[eK,Vw]
 rw[hmm,hs]
 simp only[ko,Vw,VX,V5,Vo]
 constructor
 ·rintro ⟨i,⟨hi,hne⟩,rfl⟩
  obtain ⟨y,hy⟩:=List.exists_mem_of_ne_nil _ hne
  obtain ⟨x,hx,hn,_⟩:=kN.1 hy
  exact ⟨x,hx,hn⟩
 ·rintro ⟨x,hx,hn⟩
  obtain ⟨r1,r2⟩:=pD (pI h.dG (h.has hp hx) hn)
  obtain ⟨r3,r4⟩:=G1 r1
  refine ⟨(jT g s).toNat,⟨by omega,?_⟩,r4⟩
  rw[r4]
  exact List.ne_nil_of_mem (kN.2 ⟨x,hx,hn,rfl⟩)
theorem cF.ef (h:cF g a) {p:Nat} {s:Int} (he:eK a p s):∃ e∈(a.getD p bH).bk,e.sym=s∧e.to=ef a p s∧ef a p s < a.length∧fh a p [s]=((ef a p s:Int),true):=by
 have hp:=gn he
 have hm:=Vf (getD_some (d:=bH) hp)
 obtain ⟨e,h1,h2,h3⟩:=II he
 obtain ⟨t1,t2⟩:=h.ok.to _ hm _ h1
 have hw:fh a p [s]=(e.to,true):=by
  unfold fh
  rw[Va (by omega),gT,Vv,h3,Vd ⟨t1,t2⟩,gT]
 have hg:((Gv.ef a p s:Nat):Int)=e.to:=by unfold Gv.ef; rw[hw]; simp; omega
 exact ⟨e,h1,h2,hg.symm,by omega,by rw[hw,hg]⟩
theorem cF.Pq (h:cF g a) {p:Nat} {s:Int} (he:eK a p s):(a.getD (Gv.ef a p s) bH).bh=bz g (jH g a p) s:=by
 have hm:=Vf (getD_some (d:=bH) (gn he))
 obtain ⟨e,h1,h2,h3,_⟩:=h.ef he
 have:=h.e.nS _ hm e h1
 rw[h3,Vv,h2] at this
 exact this
theorem cF.step (h:cF g a) {p:Nat} (hp:p < a.length) {x:aH} (hx:x∈jH g a p) {s:Int} (hn:bA g x=(s,true)):eK a p s∧(⟨x.aF,x.dot+1⟩:aH)∈(a.getD (Gv.ef a p s) bH).bh∧(⟨x.aF,x.dot+1⟩:aH)∈jH g a (Gv.ef a p s)∧Gv.ef a p s < a.length:=by
 have he:=(h.nS hp).2 ⟨x,hx,hn⟩
 obtain ⟨_,_,_,_,hl,_⟩:=h.ef he
 have hk:(⟨x.aF,x.dot+1⟩:aH)∈(a.getD (Gv.ef a p s) bH).bh:=by
  rw[h.Pq he]; exact kN.2 ⟨x,hx,hn,rfl⟩
 exact ⟨he,hk,(cY h.dG (h.bh hl)).2 (.base hk),hl⟩
theorem cF.UJ (h:cF g a) {p:Nat} {s:Int} (he:eK a p s):∀ y∈(a.getD (Gv.ef a p s) bH).bh,1≤y.dot:=by
 intro y hy
 rw[h.Pq he] at hy
 obtain ⟨x,hx,_,rfl⟩:=kN.1 hy
 have:=(h.has (gn he) hx).2
 simp only; omega
theorem cF.UP (h:cF g a) {p:Nat} {s:Int} (he:eK a p s):Gv.ef a p s≠0:=fun e=>by
 have:=h.UJ he ⟨-1,0⟩ (by rw[e,h.e.first]; simp)
 simp at this
theorem cF.prev (h:cF g a) {i:Nat} (hi:i < a.length) {x:aH} (hx:x∈(a.getD i bH).bh) (h0:0 < i):∃ (p:Nat) (y:aH) (s:Int),p < i∧p < a.length∧y∈jH g a p∧bA g y=(s,true)∧x=⟨y.aF,y.dot+1⟩∧eK a p s∧Gv.ef a p s=i:=by
 obtain ⟨p,e,hp,he,ht⟩:=h.x.back i h0 hi
 obtain ⟨hpl,hm⟩:=zY he
 have hk:=h.e.nS _ hm e he
 rw[ht,Vv] at hk
 rw[hk] at hx
 obtain ⟨y,hy,hn,rfl⟩:=kN.1 hx
 have hE:eK a p e.sym:=⟨e,he,rfl⟩
 refine ⟨p,y,e.sym,hp,hpl,hy,hn,rfl,hE,?_⟩
 have h1:=PF (by rw[h.x.all _ hm]; exact Ah _ _ _) he
 have hw:fh a p [e.sym]=(e.to,true):=by
  have:=h.ok.to _ hm _ he
  unfold fh
  rw[Va (by omega),gT,Vv,h1,Vd this,gT]
 unfold Gv.ef
 rw[hw,ht]; rfl
theorem vN {x:aH} {s:Int} (hx:cr g x) (h:bA g x=(s,true)):∃ d:Nat,x.dot=d∧d < (aW g x.aF).length∧(aW g x.aF).drop d=s :: (aW g x.aF).drop (d+1):=by
 obtain ⟨h1,h2⟩:=qj h
 have:=hx.2
 refine ⟨x.dot.toNat,by omega,by omega,?_⟩
 rw[VT (show x.dot.toNat < (aW g x.aF).length by omega)]
 rw[U8,U9 (show x.dot.toNat < (aW g x.aF).length by omega)] at h2
 simp at h2
 rw[h2]
theorem se {r:Int} {d:Nat} {s:Int} {l:List Int} (h:(aW g r).drop d=s :: l):bA g ⟨r,d⟩=(s,true)∧(aW g r).drop (d+1)=l∧d < (aW g r).length:=by
 have hlt:d < (aW g r).length:=by
  rcases Vy d (aW g r).length with q | q
  ·exact q
  ·rw[VD q] at h; simp at h
 rw[VT hlt] at h
 simp only[Xl] at h
 refine ⟨?_,h.2,hlt⟩
 unfold bA
 rw[Va (by simp only; omega)]
 simp only[Vv,U8,U9 hlt,Vs,h.1]
theorem cF.fwd (h:cF g a) (r:Int):∀ (X:List Int) (d:Nat) (p:Nat),p < a.length→(⟨r,d⟩:aH)∈jH g a p→(∃ l,(aW g r).drop d=X ++ l)→∃ q,q < a.length∧iS a p X q∧(⟨r,((d+X.length:Nat):Int)⟩:aH)∈jH g a q
 | [],d,p,hp,hx,_=>⟨p,hp,.nil,by simpa using hx⟩
 | s :: X,d,p,hp,hx,⟨l,hl⟩=>by
  obtain ⟨n1,n2,n3⟩:=se hl
  obtain ⟨s1,s2,s3,s4⟩:=h.step hp hx n1
  obtain ⟨q,q1,q2,q3⟩:=cF.fwd h r X (d+1) (Gv.ef a p s) s4 (by simpa using s3) ⟨l,n2⟩
  refine ⟨q,q1,.cons s1 q2,?_⟩
  rw[show d+(s :: X).length=d+1+X.length by simp; omega]
  exact q3
theorem cF.bwd (h:cF g a) (r:Int):∀ (d:Nat) (i:Nat),i < a.length→(⟨r,d⟩:aH)∈jH g a i→∃ p,p < a.length∧iS a p ((aW g r).take d) i∧(⟨r,0⟩:aH)∈jH g a p
 | 0,i,hi,hx=>⟨i,hi,by simpa using iS.nil,hx⟩
 | d+1,i,hi,hx=>by
  have hk:=((cY h.dG (h.bh hi)).1 hx).bh (.inl (by simp only; omega))
  have h0:0 < i:=Nat.pos_of_ne_zero fun e=>by
   subst e
   rw[h.e.first] at hk
   simp at hk
   omega
  obtain ⟨p,y,s,_,q2,q3,q4,q5,q6,q7⟩:=h.prev hi hk h0
  simp only[aH.mk.injEq] at q5
  obtain ⟨yr,yd⟩:=y
  simp only at q5
  obtain ⟨rfl,q5⟩:=q5
  have hyd:yd=(d:Int):=by omega
  subst hyd
  obtain ⟨p',k1,k2,k3⟩:=cF.bwd h r d p q2 q3
  obtain ⟨d',e1,e2,e3⟩:=vN (h.has q2 q3) q4
  simp only at e1 e2 e3
  have:d'=d:=by omega
  subst this
  refine ⟨p',k1,?_,k3⟩
  have ht:(aW g r).take (d'+1)=(aW g r).take d' ++ [s]:=by
   rw[Vx]
   congr 1
   have:=Wj (·[0]?) e3
   simp at this
   simp[this]
  rw[ht,← q7]
  exact k2.snoc q6
end
inductive oH (g:aw) (a:List aR):Nat→Int→Nat→Prop
 | fin:oH g a 0 g.start g.ay.length
 | term {p:Nat} {B:Int} {t:Nat} : t < g.ay.length→eK a (ef a p (-1 - B)) t→oH g a p B t
 | null {p:Nat} {B C:Int} {t:Nat} : 0≤C→eK a (ef a p (-1 - B)) (-1 - C)→(aA g false).getD C.toNat false=true→oH g a (ef a p (-1 - B)) C t→oH g a p B t
inductive wQ (g:aw) (a:List aR):Nat→Int→Nat→Prop
 | read {p:Nat} {B:Int} {t:Nat} : oH g a p B t→wQ g a p B t
 | LC {p p' k d:Nat} {B:Int} {t:Nat} : wQ g a p' (aE g k).left t→k < g.rules.length→eK a p' (-1 - (aE g k).left)→0≤B→(aE g k).right[d]?=some (-1 - B)→iS a p' ((aE g k).right.take d) p→cQ ((aE g k).right.drop (d+1)) (aA g false) false=true→wQ g a p B t
theorem uf (null:List Bool) (first:List BV) (b:BV):∀ (l:List Int) (t:Nat),(ew null first b l).getLsbD t=true↔(ew null first 0 l).getLsbD t=true∨(cQ l null false=true∧b.getLsbD t=true)
 | [],t=>by simp[ew,cQ]
 | s :: l,t=>by
  have ih:=uf null first b l t
  rw[ew,ew]
  by_cases h0:0≤s
  ·rw[Vd h0,Vd h0]; simp[cQ,h0]
  ·rw[Va h0,Va h0]
   by_cases h1:null.getD (-1 - s).toNat false=true
   ·rw[Vd h1,Vd h1,VM,VM,V7,V7,ih]
    have:cQ (s :: l) null false=cQ l null false:=by
     rw[cQ,Wn,Va h0,h1]; rfl
    rw[this]
    constructor
    ·rintro (h | h | h)
     ·exact .inl (.inl h)
     ·exact .inl (.inr h)
     ·exact .inr h
    ·rintro ((h | h) | h)
     ·exact .inl h
     ·exact .inr (.inl h)
     ·exact .inr (.inr h)
   ·rw[Va h1,Va h1]
    have:cQ (s :: l) null false=false:=by
     rw[cQ,Wn,Va h0]
     simp only[Bool.not_eq_true] at h1
     rw[h1]; rfl
    rw[this]; simp
theorem FD {F:List Bool→List Bool} (hF:∀ is,gB is (F is)):∀ (k:Nat) (is:List Bool),is.length≤er is+k→F (iter F k is)=iter F k is
 | 0,is,h=>by
  have h1:=hF is
  have h2:=sx (F is)
  have h3:=h1.er
  rw[← h1.1] at h2
  have h4:=sx is
  exact (h3.2 (by omega)).symm
 | k+1,is,h=>by
  rw[iter]
  by_cases e:F is=is
  ·rw[e]
   have:iter F k is=is:=xl e k
   rw[this,e]
  ·refine FD hF k (F is) ?_
   have h1:=hF is
   have h3:=h1.er
   have:er is≠er (F is):=fun q=>e (h3.2 q).symm
   rw[← h1.1]; omega
def pt (t:Nat) (fs:List BV):List Bool:=fs.map fun b=>b.getLsbD t
def OY (null:List Bool) (t:Nat) (is:List Bool):List Int→Bool
 | []=>false
 | s :: l=>if 0≤s then (dN s).getLsbD t else if null.getD (-1 - s).toNat false=true then is.getD (-1 - s).toNat false || OY null t is l else is.getD (-1 - s).toNat false
theorem Ct (t:Nat) (fs:List BV) (i:Nat):(pt t fs).getD i false=(fs.getD i 0).getLsbD t:=by
 simp only[pt,U8,Vc]
 cases fs[i]? with
 | none=>simp
 | some x=>rfl
theorem HK (null:List Bool) (t:Nat) (fs:List BV):∀ l:List Int,(ew null fs 0 l).getLsbD t=OY null t (pt t fs) l
 | []=>by simp[ew,OY]
 | s :: l=>by
  rw[ew,OY]
  split
  ·rfl
  ·split
   ·rw[VM,HK null t fs l,Ct]
   ·rw[Ct]
def kF (null:List Bool) (t:Nat) (is:List Bool) (r:bw):List Bool:=is.set r.left.toNat (is.getD r.left.toNat false || OY null t is r.right)
theorem QA (null:List Bool) (t:Nat) (fs:List BV) (r:bw):pt t (kB null fs r)=kF null t (pt t fs) r:=by
 unfold kB kF
 rw[Ct,← HK,← VM]
 simp[pt,WQ]
theorem Hj (null:List Bool) (t:Nat):∀ (l:List bw) (fs:List BV),pt t (l.foldl (kB null) fs)=l.foldl (kF null t) (pt t fs)
 | [],_=>rfl
 | r :: l,fs=>by rw[VF,Hj null t l,QA]; rfl
theorem Iv (g:aw) (null:List Bool) (t:Nat):∀ (n:Nat) (fs:List BV),pt t (iter (sn g null) n fs)=iter (fun is=>g.rules.foldl (kF null t) is) n (pt t fs)
 | 0,_=>rfl
 | n+1,fs=>by rw[iter,iter,Iv g null t n]; exact Wj _ (Hj null t g.rules fs)
theorem G0 (null:List Bool) (t:Nat) (is:List Bool) (r:bw):gB is (kF null t is r):=by
 refine ⟨by simp[kF],fun i hi=>?_⟩
 unfold kF
 simp only[U8,WH] at hi ⊢
 split
 ·rename_i e
  subst e
  split
  ·simp[hi]
  ·rename_i h; rw[VI (by omega)] at hi; simp at hi
 ·exact hi
theorem AX (null:List Bool) (t:Nat):∀ (l:List bw) (is:List Bool),gB is (l.foldl (kF null t) is)
 | [],is=>.refl _
 | r :: l,is=>(G0 null t is r).trans (AX null t l _)
theorem Eo {null:List Bool} {t:Nat} : ∀ {l:List bw} {is:List Bool},l.foldl (kF null t) is=is→∀ R∈l,kF null t is R=is
 | [],_,_,_,h=>by simp at h
 | R :: l,is,h,x,hx=>by
  rw[VF] at h
  have h1:=AX null t l (kF null t is R)
  rw[h] at h1
  have h2:=(h1.sU (G0 null t is R))
  rcases Vp.1 hx with rfl | hx
  ·exact h2
  ·rw[h2] at h; exact Eo h x hx
theorem yk {g:aw} (hf:g.dK) (null:List Bool) {R:bw} (hR:R∈g.rules):iq (ew null (en g null) 0 R.right) ((en g null).getD R.left.toNat 0):=by
 intro t ht
 have e:=Iv g null t g.az.length (List.replicate g.az.length 0)
 have hfix:=FD (F:=fun is=>g.rules.foldl (kF null t) is) (fun is=>AX null t g.rules is) g.az.length (pt t (List.replicate g.az.length 0)) (by simp[pt])
 rw[← e] at hfix
 have h1:=Eo hfix R hR
 rw[HK] at ht
 rw[← Ct]
 have hb:=hf.left R hR
 have hl:R.left.toNat < (pt t (en g null)).length:=by simp[pt,Bz]; omega
 change kF null t (pt t (en g null)) R=pt t (en g null) at h1
 rw[← h1]
 unfold kF
 rw[U8,W6 hl,ht,Bool.or_true]; rfl
theorem sB {t:Nat} (h:t≤31) (i:Nat):(dN (t:Int)).getLsbD i=true↔i=t:=by
 unfold dN
 rw[Vd ⟨by omega,by omega⟩,Wz,Vv]
 simp only[Vm,Vo]
 omega
theorem NO {g:aw} (h:isRed g=true):∀ i:Nat,i < g.az.length→(aA g true).getD i false=true:=by
 have hr:=ka h
 unfold isRed at h
 simp only[Vm,Wd,Vo] at h
 obtain ⟨h1,h2⟩:=h
 have hp:(aA g true).getD g.start.toNat false=true:=by
  refine Wc fun hn=>?_
  rw[sK hr,Va hn] at h1
  simp at h1
 have hred:=Sv hr hp
 have e:(gm g).1=rp g (bW (cy (aA g true) (ca g) g.rules)) (aA g true) (ca g):=by rw[sK hr,Vd hp]
 rw[← e,← h2] at hred
 intro i hi
 rw[hred.len] at hi
 exact hred.Mo hi
theorem KS {g:aw} (h:isRed g=true) {x:Int} (hd:um g x):(aA g false).getD x.toNat false=true∨∃ t,((en g (aA g false)).getD x.toNat 0).getLsbD t=true:=by
 have hr:=ka h
 have hf:=bO hr
 induction hd with
 | mk R hR _ ih =>
  have key:∀ l:List Int,(∀ s∈l,s∈R.right)→cQ l (aA g false) false=true∨∃ t,(ew (aA g false) (en g (aA g false)) 0 l).getLsbD t=true:=by
   intro l
   induction l with
   | nil=>intro _; exact .inl rfl
   | cons s l il =>
    intro hs
    rw[ew]
    by_cases h0:0≤s
    ·rw[Vd h0]
     have h1:=hf.sym R hR s (hs s (by simp))
     have:=hf.ay
     unfold gu at h1
     rw[Vd h0] at h1
     simp at h1
     obtain ⟨t,rfl⟩:∃ t:Nat,s=t:=⟨s.toNat,by omega⟩
     exact .inr ⟨t,(sB (by omega) t).2 rfl⟩
    ·rw[Va h0]
     rcases ih s (hs s (by simp)) (by omega) with h1 | ⟨t,ht⟩
     ·rw[Vd h1]
      rcases il fun x hx=>hs x (by simp[hx]) with h2 | ⟨t,ht⟩
      ·left
       rw[cQ,Wn,Va h0,h1]; exact h2
      ·exact .inr ⟨t,by rw[VM,ht,Bool.or_true]⟩
     ·right
      split
      ·exact ⟨t,by rw[VM,ht,Bool.true_or]⟩
      ·exact ⟨t,ht⟩
  rcases key R.right (fun _ h=>h) with h1 | ⟨t,ht⟩
  ·exact .inl (sY hr hR h1)
  ·exact .inr ⟨t,yk hf _ hR t ht⟩
theorem CG {g:aw} (h:isRed g=true) {t0:Nat} (ht:t0 < 32):∀ l:List Int,(∀ s∈l,gu g s=true)→∃ t,(ew (aA g false) (en g (aA g false)) (BitVec.twoPow 32 t0) l).getLsbD t=true
 | [],_=>⟨t0,by rw[ew,Wz]; simp[ht]⟩
 | s :: l,hs=>by
  have hr:=ka h
  have hf:=bO hr
  have h1:=hs s (by simp)
  have:=hf.ay
  rw[ew]
  unfold gu at h1
  by_cases h0:0≤s
  ·rw[Vd h0]
   rw[Vd h0] at h1
   simp at h1
   obtain ⟨t,rfl⟩:∃ t:Nat,s=t:=⟨s.toNat,by omega⟩
   exact ⟨t,(sB (by omega) t).2 rfl⟩
  ·rw[Va h0]
   rw[Va h0] at h1
   simp at h1
   have hd:=yP hr (-1 - s).toNat (NO h _ (by omega))
   obtain ⟨t2,ht2⟩:=CG h ht l fun x hx=>hs x (by simp[hx])
   split
   ·exact ⟨t2,by rw[VM,ht2,Bool.or_true]⟩
   ·rename_i hn
    rcases KS h hd with h2 | ⟨t,h2⟩
    ·rw[Vv] at h2; exact absurd h2 hn
    ·rw[Vv] at h2; exact ⟨t,h2⟩
section
variable {g:aw} {a:List aR}
theorem gM {i:Nat} {x:aH} : x∈(aY g a).getD i []↔i < a.length∧x∈jH g a i:=by
 unfold aY
 rw[U8,Vc]
 rcases Vy i a.length with h | h
 ·rw[U9 h]
  simp[h,jH,U8,U9 h]
 ·rw[VI h]
  simp; omega
theorem sd {x:aH} {s:Int} (hx:cr g x) (h:bA g x=(s,true)):∃ d:Nat,x.dot=d∧(aW g x.aF).drop d=s :: dy g x∧(aW g x.aF).drop (d+1)=dy g x:=by
 obtain ⟨d,h1,h2,h3⟩:=vN hx h
 have e:(aW g x.aF).drop (d+1)=dy g x:=by
  unfold dy
  by_cases h0:0≤x.aF
  ·rw[Vd h0,h1,aW,Va (by omega)]; rfl
  ·rw[Va h0]
   have hr:x.aF = -1:=by have:=hx.1; omega
   rw[hr] at h2 ⊢
   simp only[aW,if_true] at h2 ⊢
   exact VD (by simp)
 exact ⟨d,h1,by rw[h3,e],e⟩
theorem wZ {null:List Bool} {fs:List BV} {s:Int} {l:List Int} {u:Nat} : (ew null fs 0 (s :: l)).getLsbD u=true↔(0≤s∧(dN s).getLsbD u=true)∨(s < 0∧((fs.getD (-1 - s).toNat 0).getLsbD u=true∨(null.getD (-1 - s).toNat false=true∧(ew null fs 0 l).getLsbD u=true))):=by
 rw[ew]
 by_cases h0:0≤s
 ·rw[Vd h0]
  constructor
  ·intro h; exact .inl ⟨h0,h⟩
  ·rintro (h | h)
   ·exact h.2
   ·omega
 ·rw[Va h0]
  split
  ·rename_i hn
   rw[VM,V7]
   constructor
   ·rintro (h | h)
    ·exact .inr ⟨by omega,.inl h⟩
    ·exact .inr ⟨by omega,.inr ⟨hn,h⟩⟩
   ·rintro (h | ⟨_,h | h⟩)
    ·omega
    ·exact .inl h
    ·exact .inr h.2
  ·rename_i hn
   constructor
   ·intro h; exact .inr ⟨by omega,.inl h⟩
   ·rintro (h | ⟨_,h | h⟩)
    ·omega
    ·exact h
    ·exact absurd h.1 hn
def J0 (g:aw) (a:List aR) (q u:Nat):Prop:=(u < g.ay.length∧eK a q u)∨∃ C:Int,0≤C∧eK a q (-1 - C)∧(aA g false).getD C.toNat false=true∧oH g a q C u
theorem J0.read {p u:Nat} {B:Int} (h:J0 g a (ef a p (-1 - B)) u):oH g a p B u:=by
 rcases h with ⟨h1,h2⟩ | ⟨C,h1,h2,h3,h4⟩
 ·exact .term h1 h2
 ·exact .null h1 h2 h3 h4
def tV (g:aw) (a:List aR) (fs:List BV):Prop:=∀ (C:Int) (q u:Nat),0≤C→(fs.getD C.toNat 0).getLsbD u=true→eK a q (-1 - C)→J0 g a q u
theorem Ld (hA:cF g a) {fs:List BV} (hG:tV g a fs) {r:Int} {u:Nat} : ∀ (l:List Int) (d q:Nat),q < a.length→(⟨r,d⟩:aH)∈jH g a q→(aW g r).drop d=l→(ew (aA g false) fs 0 l).getLsbD u=true→J0 g a q u
 | [],_,_,_,_,_,h=>by simp[ew] at h
 | s :: l,d,q,hq,hx,hl,h=>by
  obtain ⟨n1,n2,n3⟩:=se hl
  obtain ⟨s1,s2,s3,s4⟩:=hA.step hq hx n1
  rcases wZ.1 h with ⟨h0,h1⟩ | ⟨h0,h1⟩
  ·have h2:=pD (pI hA.dG (hA.has hq hx) n1)
   have:=hA.dG.ay
   obtain ⟨t,rfl⟩:∃ t:Nat,s=t:=⟨s.toNat,by omega⟩
   have:=(sB (by omega) u).1 h1
   subst this
   exact .inl ⟨by omega,s1⟩
  ·have e : -1 - (-1 - s)=s:=by omega
   rcases h1 with h1 | ⟨h1,h2⟩
   ·exact hG (-1 - s) q u (by omega) h1 (by rw[e]; exact s1)
   ·refine .inr ⟨-1 - s,by omega,by rw[e]; exact s1,h1,J0.read ?_⟩
    rw[e]
    exact Ld hA hG l (d+1) _ s4 (by simpa using s3) n2 h2
theorem nb (hA:cF g a) {q:Nat} (hq:q < a.length) {C:Int} {k:Nat} (hC:0≤C) (hk:k < g.rules.length) (hl:(aE g k).left=C) (he:eK a q (-1 - C)):(⟨k,0⟩:aH)∈jH g a q:=by
 obtain ⟨x,hx,hn⟩:=(hA.nS hq).1 he
 have hR:g.rules[k]?=some (aE g k):=by unfold aE; exact getD_some hk
 exact (cY hA.dG (hA.bh hq)).2 (.step ((cY hA.dG (hA.bh hq)).1 hx) hn (by omega) hR (by omega))
theorem Oy (hA:cF g a) {fs:List BV} (hG:tV g a fs) {k:Nat} (hk:k < g.rules.length):tV g a (kB (aA g false) fs (aE g k)):=by
 intro C q u hC hu he
 have hR:g.rules[k]?=some (aE g k):=by unfold aE; exact getD_some hk
 have h0:=(hA.dG.left _ (Vf hR)).1
 unfold kB at hu
 rw[gJ] at hu
 split at hu
 ·rename_i hc
  rw[VM,V7] at hu
  have hl:(aE g k).left=C:=by omega
  rcases hu with hu | hu
  ·exact hG C q u hC (by rw[← hl]; exact hu) he
  ·have hq:=gn he
   have hm:=nb hA hq hC hk hl he
   refine Ld hA hG _ 0 q hq hm ?_ hu
   rw[Ww,aW,Va (by omega)]
 ·exact hG C q u hC hu he
theorem E9 (hA:cF g a):∀ (l:List bw) (fs:List BV),(∀ R∈l,R∈g.rules)→tV g a fs→tV g a (l.foldl (kB (aA g false)) fs)
 | [],_,_,h=>h
 | R :: l,fs,hl,h=>by
  obtain ⟨k,hk,e⟩:=Wl.1 (hl R (by simp))
  have hR:R=aE g k:=by
   have h2:g.rules[k]?=some (aE g k):=by unfold aE; exact getD_some hk
   rw[U9 hk,e] at h2
   simpa using h2
  rw[VF]
  refine E9 hA l _ (fun x hx=>hl x (by simp[hx])) ?_
  rw[hR]
  exact Oy hA h hk
theorem FB (hA:cF g a):∀ (n:Nat) (fs:List BV),tV g a fs→tV g a (iter (sn g (aA g false)) n fs)
 | 0,_,h=>h
 | n+1,fs,h=>by
  rw[iter]
  exact FB hA n _ (E9 hA g.rules fs (fun _ h=>h) h)
theorem L0 (hA:cF g a):tV g a (en g (aA g false)):=by
 refine FB hA _ _ fun C q u hC hu he=>?_
 simp only[U8,WT] at hu
 split at hu <;> simp at hu
theorem SP (hA:cF g a) {i:Nat} {x:aH} {t:Nat} (h:kj g (aA g false) a (aY g a) i x t) :
  (x.aF < 0→t=g.ay.length)∧(0≤x.aF→∃ p,iS a p ((aW g x.aF).take x.dot.toNat) i∧eK a p (-1 - (aE g x.aF).left)∧wQ g a p (aE g x.aF).left t):=by
 induction h with
 | start=>exact ⟨fun _=>rfl,fun h=>by simp at h⟩
 | @move i x t s hl hn hm ih =>
  obtain ⟨hi,hx⟩:=gM.1 hl.mem
  have hH:=hA.has hi hx
  refine ⟨ih.1,fun h0=>?_⟩
  obtain ⟨p,q1,q2,q3⟩:=ih.2 h0
  obtain ⟨d,d1,d2,d3⟩:=sd hH hn
  refine ⟨p,?_,q2,q3⟩
  have hE:=((hA.nS hi).2 ⟨x,hx,hn⟩)
  have:=q1.snoc hE
  rw[d1] at this ⊢
  rw[show ((d:Int)+1).toNat=d+1 by omega,Vx]
  have hg:(aW g x.aF)[d]?=some s:=by
   have:=Wj (·[0]?) d2
   simpa using this
  rw[hg]
  exact this
 | @begin i x t u s k hl hn hneg hk hL hm hu ih =>
  obtain ⟨hi,hx⟩:=gM.1 hl.mem
  have hH:=hA.has hi hx
  refine ⟨fun h=>by simp only at h; omega,fun _=>?_⟩
  obtain ⟨d,d1,d2,d3⟩:=sd hH hn
  obtain ⟨s1,s2,s3,s4⟩:=hA.step hi hx hn
  have e : -1 - (-1 - s)=s:=by omega
  refine ⟨i,by simpa using iS.nil,by simp only; rw[hL,e]; exact s1,?_⟩
  simp only
  rw[hL]
  rcases (uf _ _ _ _ _).1 hu with h1 | ⟨h1,h2⟩
  ·refine .read (J0.read ?_)
   rw[e]
   refine Ld hA (L0 hA) (dy g x) (d+1) _ s4 (by rw[d1] at s3; simpa using s3) d3 h1
  ·have htu:u=t:=by
    rw[Wz] at h2
    simp at h2; omega
   subst htu
   by_cases h0:0≤x.aF
   ·obtain ⟨p,q1,q2,q3⟩:=ih.2 h0
    obtain ⟨k',hk'⟩:∃ k':Nat,x.aF=k':=⟨x.aF.toNat,by omega⟩
    have hkl:k' < g.rules.length:=by have:=hH.1; omega
    rw[hk'] at q1 q2 q3 d2 d3
    have hrt:aW g (k':Int)=(aE g k').right:=by rw[aW,Va (by omega)]
    rw[hrt] at q1 d2 d3
    rw[d1] at q1
    refine .LC q3 hkl q2 (by omega) (d:=d) ?_ (by simpa using q1) (by rw[d3]; exact h1)
    have:=Wj (·[0]?) d2
    rw[e]
    simpa using this
   ·have ht:=ih.1 (by omega)
    have hr:x.aF = -1:=by have:=hH.1; omega
    have hk0:=((cY hA.dG (hA.bh hi)).1 hx).bh (.inr (by omega))
    have hi0:i=0:=Nat.eq_zero_of_not_pos fun h0=>by
     obtain ⟨p,y,s',_,y2,y3,y4,y5,y6,y7⟩:=hA.prev hi hk0 h0
     have hyr:=Wj aH.aF y5
     have hyd:=Wj aH.dot y5
     simp only at hyr hyd
     obtain ⟨d',e1,e2,e3⟩:=vN (hA.has y2 y3) y4
     obtain ⟨d'',e4,e5,e6⟩:=vN hH hn
     rw[← hyr,hr] at e2
     rw[hr] at e5
     simp only[aW,if_true,List.length_singleton] at e2 e5
     omega
    have hd0:d=0:=by
     obtain ⟨d'',e4,e5,e6⟩:=vN hH hn
     rw[hr] at e5
     simp only[aW,if_true,List.length_singleton] at e5
     omega
    subst hd0
    rw[hr] at d2
    simp only[aW,if_true,Ww,Xl] at d2
    rw[hi0,ht,show -1 - s=g.start by omega]
    exact .read .fin
theorem Nd (hA:cF g a) {q:Nat} (hq:q < a.length) {u:Nat} {z:aH} (hz:z∈jH g a q):∀ d:Nat,z.dot=d→(ew (aA g false) (en g (aA g false)) 0 ((aW g z.aF).drop d)).getLsbD u=true →
  ∃ (y:aH) (e:Nat),y∈(a.getD q bH).bh∧y.dot=e∧(ew (aA g false) (en g (aA g false)) 0 ((aW g y.aF).drop e)).getLsbD u=true:=by
 have hz2:=(cY hA.dG (hA.bh hq)).1 hz
 clear hz
 induction hz2 with
 | base h=>exact fun d h1 h2=>⟨_,d,h,h1,h2⟩
 | @step x s k R hx hn hneg hR hl ih =>
  intro d h1 h2
  have hd:d=0:=by simp only at h1; omega
  subst hd
  obtain ⟨d',e1,e2,e3⟩:=sd (hx.has (hA.bh hq)) hn
  refine ih d' e1 ?_
  rw[e2]
  refine wZ.2 (.inr ⟨hneg,.inl ?_⟩)
  have hk:k < g.rules.length:=(Vn.1 hR).1
  have hRk:aE g k=R:=by unfold aE; rw[U8,Vv,hR]; rfl
  rw[← hl]
  refine yk hA.dG _ (Vf hR) u ?_
  rw[Ww,aW,Va (by simp only; omega)] at h2
  simp only at h2
  rw[hRk] at h2
  exact h2
theorem Et (hA:cF g a) {p:Nat} {s:Int} {u:Nat} (he:eK a p s) (h:∃ y∈jH g a (ef a p s),∃ d:Nat,y.dot=d∧(ew (aA g false) (en g (aA g false)) 0 ((aW g y.aF).drop d)).getLsbD u=true) :
  ∃ x∈jH g a p,bA g x=(s,true)∧(ew (aA g false) (en g (aA g false)) 0 (dy g x)).getLsbD u=true:=by
 obtain ⟨y,hy,d,h1,h2⟩:=h
 obtain ⟨_,_,_,_,hl,_⟩:=hA.ef he
 obtain ⟨z,e,z1,z2,z3⟩:=Nd hA hl hy d h1 h2
 rw[hA.Pq he] at z1
 obtain ⟨x,hx,hn,rfl⟩:=kN.1 z1
 refine ⟨x,hx,hn,?_⟩
 obtain ⟨d',e1,e2,e3⟩:=sd (hA.has (gn he) hx) hn
 simp only at z2 z3
 rw[← e3,show d'+1=e by omega]
 exact z3
theorem LG (hA:cF g a) {p u:Nat} {B:Int} (h:oH g a p B u):eK a p (-1 - B)→(p=0∧B=g.start∧u=g.ay.length)∨∃ x∈jH g a p,bA g x=(-1 - B,true)∧(ew (aA g false) (en g (aA g false)) 0 (dy g x)).getLsbD u=true:=by
 induction h with
 | fin=>exact fun _=>.inl ⟨rfl,rfl,rfl⟩
 | @term p B t ht he =>
  intro hB
  right
  refine Et hA hB ?_
  have hq:=gn he
  obtain ⟨y,hy,hn⟩:=(hA.nS hq).1 he
  obtain ⟨d,e1,e2,e3⟩:=sd (hA.has hq hy) hn
  refine ⟨y,hy,d,e1,?_⟩
  have:=hA.dG.ay
  rw[e2]
  exact wZ.2 (.inl ⟨by omega,(sB (by omega) _).2 rfl⟩)
 | @null p B C t hC he hn hr ih =>
  intro hB
  rcases ih he with ⟨h1,_,_⟩ | ⟨y,y1,y2,y3⟩
  ·exact absurd h1 (hA.UP hB)
  ·right
   refine Et hA hB ?_
   obtain ⟨d,e1,e2,e3⟩:=sd (hA.has (gn he) y1) y2
   refine ⟨y,y1,d,e1,?_⟩
   rw[e2]
   refine wZ.2 (.inr ⟨by omega,.inr ⟨?_,y3⟩⟩)
   rw[show -1 - (-1 - C)=C by omega]; exact hn
theorem Rb (hA:cF g a) (hr:isRed g=true):∀ (n i:Nat),i < n→i < a.length→∀ x∈jH g a i,∃ t,t < 32∧kj g (aA g false) a (aY g a) i x t
 | 0,_,h,_,_,_=>by omega
 | n+1,i,_,hi,x,hx=>by
  have hx2:=(cY hA.dG (hA.bh hi)).1 hx
  clear hx
  induction hx2 with
  | @base x h =>
   by_cases h0:0 < i
   ·obtain ⟨p,y,s,y1,y2,y3,y4,y5,y6,y7⟩:=hA.prev hi h h0
    obtain ⟨t,ht,hL⟩:=Rb hA hr n p (by omega) y2 y y3
    refine ⟨t,ht,?_⟩
    obtain ⟨s1,s2,s3,s4⟩:=hA.step y2 y3 y4
    have hm:(⟨y.aF,y.dot+1⟩:aH)∈(aY g a).getD (fh a p [s]).1.toNat []:=gM.2 ⟨s4,s3⟩
    have:=kj.move hL y4 hm
    rw[y5,← y7]
    exact this
   ·have hi0:i=0:=by omega
    subst hi0
    rw[hA.e.first] at h
    simp at h; subst h
    have:=hA.dG.ay
    exact ⟨g.ay.length,by omega,.start (gM.2 ⟨hi,(cY hA.dG (hA.bh hi)).2 (.base (by rw[hA.e.first]; simp))⟩)⟩
  | @step x s k R hx hn hneg hR hl ih =>
   obtain ⟨t,ht,hL⟩:=ih
   have hH:=hx.has (hA.bh hi)
   have hk:k < g.rules.length:=(Vn.1 hR).1
   have hRk:aE g k=R:=by unfold aE; rw[U8,Vv,hR]; rfl
   obtain ⟨u,hu⟩:=CG hr ht (dy g x) (fun s hs=>by
    unfold dy at hs
    split at hs
    ·rename_i h0
     have h2:g.rules[x.aF.toNat]?=some (aE g x.aF):=by
      have:=hH.1
      unfold aE; exact getD_some (by omega)
     exact hA.dG.sym _ (Vf h2) s (List.mem_of_mem_drop hs)
    ·simp at hs)
   have hu32:u < 32:=Nat.lt_of_not_le fun h=>by rw[BitVec.getLsbD_of_ge _ _ h] at hu; simp at hu
   exact ⟨u,hu32,.begin hL hn hneg hk (by rw[hRk]; omega) (gM.2 ⟨hi,(cY hA.dG (hA.bh hi)).2 (.step hx hn hneg hR hl)⟩) hu⟩
theorem Ii (hA:cF g a) {k:Nat} {t:Nat} : ∀ (X:List Int) (d p i:Nat),iS a p X i→kj g (aA g false) a (aY g a) p ⟨k,d⟩ t→(∃ l,(aW g k).drop d=X ++ l)→kj g (aA g false) a (aY g a) i ⟨k,((d+X.length:Nat):Int)⟩ t
 | [],d,p,i,hw,h,_=>by cases hw; simpa using h
 | s :: X,d,p,i,hw,h,⟨l,hl⟩=>by
  cases hw with
  | cons h1 h2 =>
   obtain ⟨n1,n2,n3⟩:=se hl
   obtain ⟨hp,hx⟩:=gM.1 h.mem
   obtain ⟨s1,s2,s3,s4⟩:=hA.step hp hx n1
   have hm:(⟨(⟨k,d⟩:aH).aF,(⟨k,d⟩:aH).dot+1⟩:aH)∈(aY g a).getD (fh a p [s]).1.toNat []:=gM.2 ⟨s4,s3⟩
   have h3:=kj.move h n1 hm
   have h4:=Ii hA X (d+1) _ i h2 (by rw[show (((d+1:Nat):Int))=(d:Int)+1 by omega]; exact h3) ⟨l,n2⟩
   rw[show d+(s :: X).length=d+1+X.length by simp; omega]
   exact h4
theorem Tp (hA:cF g a) (hr:isRed g=true) {p t:Nat} {B:Int} (h:wQ g a p B t):0≤B→eK a p (-1 - B)→∀ k:Nat,k < g.rules.length→(aE g k).left=B→kj g (aA g false) a (aY g a) p ⟨k,0⟩ t:=by
 induction h with
 | @read p B t h =>
  intro hB he k hk hl
  have hp:=gn he
  have hm:=gM.2 ⟨hp,nb hA hp hB hk hl he⟩
  rcases LG hA h he with ⟨rfl,rfl,rfl⟩ | ⟨x,x1,x2,x3⟩
  ·have h0:(⟨-1,0⟩:aH)∈jH g a 0:=(cY hA.dG (hA.bh hp)).2 (.base (by rw[hA.e.first]; simp))
   refine .begin (.start (gM.2 ⟨hp,h0⟩)) (s:=-1 - g.start) ?_ (by omega) hk (by omega) hm ?_
   ·unfold bA; rw[Va (by simp[aW])]; simp[aW]
   ·have:=hA.dG.ay
    rw[dy,Va (by simp),ew,Wz]
    simp; omega
  ·obtain ⟨t0,ht,hL⟩:=Rb hA hr (p+1) p (by omega) hp x x1
   refine .begin hL x2 (by omega) hk (by omega) hm ((uf _ _ _ _ _).2 (.inl x3))
 | @LC p p' k' d B t hF hk' he' hB' hd hw hnull ih =>
  intro hB he k hk hl
  have hR:g.rules[k']?=some (aE g k'):=by unfold aE; exact getD_some hk'
  have h1:=ih (hA.dG.left _ (Vf hR)).1 he' k' hk' rfl
  have hrt:aW g (k':Int)=(aE g k').right:=by rw[aW,Va (by omega)]
  have hdl:=(Vn.1 hd).1
  have h2:=Ii hA _ 0 p' p hw (by simpa using h1) ⟨(aE g k').right.drop d,by rw[hrt,Ww,List.take_append_drop]⟩
  rw[VQ,Wa,Nat.min_eq_left (by omega)] at h2
  have hp:=gn he
  have hnx:bA g ⟨k',d⟩=(-1 - B,true):=(se (l:=(aE g k').right.drop (d+1)) (by
   rw[hrt,VT hdl]
   congr 1
   rw[U9 hdl] at hd
   simpa using hd)).1
  refine .begin h2 hnx (by omega) hk (by omega) (gM.2 ⟨hp,nb hA hp hB hk hl he⟩) ((uf _ _ _ _ _).2 (.inr ⟨?_,?_⟩))
  ·rw[dy,Vd (by simp only; omega)]
   simpa using hnull
  ·obtain ⟨i3,_⟩:=gM.1 h2.mem
   have ht:t < 32:=by
    have key:∀ {i:Nat} {x:aH} {t:Nat},kj g (aA g false) a (aY g a) i x t→t < 32:=by
     intro i x t h
     have:=hA.dG.ay
     induction h with
     | start=>omega
     | move _ _ _ ih=>exact ih
     | begin _ _ _ _ _ _ hu _=>exact Nat.lt_of_not_le fun h=>by rw[BitVec.getLsbD_of_ge _ _ h] at hu; simp at hu
    exact key h2
   rw[Wz]
   simp[ht]
theorem Te (hA:cF g a) (hr:isRed g=true) {i k t:Nat} (hk:k < g.rules.length):kj g (aA g false) a (aY g a) i ⟨k,((aE g k).right.length:Nat)⟩ t↔∃ p,iS a p (aE g k).right i∧eK a p (-1 - (aE g k).left)∧wQ g a p (aE g k).left t:=by
 have hR:g.rules[k]?=some (aE g k):=by unfold aE; exact getD_some hk
 have hrt:aW g (k:Int)=(aE g k).right:=by rw[aW,Va (by omega)]
 constructor
 ·intro h
  obtain ⟨p,q1,q2,q3⟩:=(SP hA h).2 (by simp only; omega)
  simp only at q1 q2 q3
  rw[hrt,Vv,List.take_length] at q1
  exact ⟨p,q1,q2,q3⟩
 ·rintro ⟨p,q1,q2,q3⟩
  have h1:=Tp hA hr q3 (hA.dG.left _ (Vf hR)).1 q2 k hk rfl
  have h2:=Ii hA _ 0 p i q1 (by simpa using h1) ⟨[],by rw[hrt]; simp⟩
  rw[Wa] at h2
  exact h2
theorem Sr (hA:cF g a) {i k:Nat} (hi:i < a.length) (hk:k < g.rules.length):(⟨k,((aE g k).right.length:Nat)⟩:aH)∈jH g a i↔∃ p,iS a p (aE g k).right i∧eK a p (-1 - (aE g k).left):=by
 have hR:g.rules[k]?=some (aE g k):=by unfold aE; exact getD_some hk
 have hrt:aW g (k:Int)=(aE g k).right:=by rw[aW,Va (by omega)]
 constructor
 ·intro h
  obtain ⟨p,p1,p2,p3⟩:=hA.bwd k _ i hi h
  rw[hrt,List.take_length] at p2
  refine ⟨p,p2,?_⟩
  cases (cY hA.dG (hA.bh p1)).1 p3 with
  | base h =>
   exfalso
   by_cases h0:0 < p
   ·obtain ⟨_,y,s,y1,y2,y3,y4,y5,_,_⟩:=hA.prev p1 h h0
    have:=Wj aH.dot y5
    simp only at this
    have:=(hA.has y2 y3).2
    omega
   ·have:p=0:=by omega
    subst this
    rw[hA.e.first] at h
    simp at h
  | @step x s k2 R hx hn hneg hR2 hl =>
   rw[hR] at hR2
   simp only[Vb] at hR2
   rw[hR2,hl,show -1 - (-1 - s)=s by omega]
   exact (hA.nS p1).2 ⟨x,(cY hA.dG (hA.bh p1)).2 hx,hn⟩
 ·rintro ⟨p,p1,p2⟩
  have hp:=gn p2
  have hm:=nb hA hp (hA.dG.left _ (Vf hR)).1 hk rfl p2
  obtain ⟨q,q1,q2,q3⟩:=hA.fwd k (aE g k).right 0 p hp hm ⟨[],by rw[hrt]; simp⟩
  rw[p1.one q2]
  simpa using q3
end
abbrev eX:Int:=1073741824
inductive jc (E:Nat→List Nat):Nat→Nat→Prop
 | refl {x:Nat} : jc E x x
 | step {x y z:Nat} : y∈E x→jc E y z→jc E x z
theorem jc.trans {E:Nat→List Nat} {x y z:Nat} (h:jc E x y) (k:jc E y z):jc E x z:=by
 induction h with
 | refl=>exact k
 | step h1 _ ih=>exact .step h1 (ih k)
def lp (E:Nat→List Nat) (S0:Nat→BV) (z t:Nat):Prop:=∃ w,jc E z w∧(S0 w).getLsbD t=true
theorem lp.up {E:Nat→List Nat} {S0:Nat→BV} {x y t:Nat} (h:lp E S0 y t) (k:jc E x y):lp E S0 x t:=by
 obtain ⟨w,h1,h2⟩:=h
 exact ⟨w,k.trans h1,h2⟩
def jA {α:Type} (f:Nat→α) (x:Nat) (v:α):Nat→α:=fun z=>if z=x then v else f z
theorem eQ {α:Type} {f:Nat→α} {x:Nat} {v:α} : jA f x v x=v:=by simp[jA]
theorem l0 {α:Type} {f:Nat→α} {x z:Nat} {v:α} (h:z≠x):jA f x v z=f z:=by simp[jA,h]
structure nV (n:Nat) (E:Nat→List Nat) (S0:Nat→BV) (D:Nat→Int) (St:List Nat) (S:Nat→BV):Prop where
 nd:St.Nodup
 lt:∀ z∈St,z < n
 zero:∀ z,z < n→D z=0→S z=S0 z∧z ∉ St
 Fu:∀ z,z < n→D z=eX→z ∉ St∧(∀ t,lp E S0 z t→(S z).getLsbD t=true)∧∀ y∈E z,D y=eX
 on:∀ z,z < n→D z≠0→D z≠eX→∃ p:Nat,St[p]?=some z∧1≤D z∧D z≤(p:Int)+1∧∃ w,St[(D z - 1).toNat]?=some w∧jc E z w
 sound:∀ z t,z < n→(S z).getLsbD t=true→lp E S0 z t
 base:∀ z,z < n→iq (S0 z) (S z)
def Jp (D:Nat→Int) (St:List Nat) (S:Nat→BV) (z y:Nat):Prop:=(D y=eX∧iq (S y) (S z))∨∃ q:Nat,St[q]?=some y∧D z≤(q:Int)+1
def KP (E:Nat→List Nat) (D:Nat→Int) (St:List Nat) (S:Nat→BV) (z:Nat):Prop:=(∃ p:Nat,St[p]?=some z∧D z < (p:Int)+1)∧∀ y∈E z,Jp D St S z y
def yT (n:Nat) (E:Nat→List Nat) (S0:Nat→BV) (D:Nat→Int) (St:List Nat) (S:Nat→BV) (x:Nat) (D':Nat→Int) (St':List Nat) (S':Nat→BV):Prop :=
 nV n E S0 D' St' S'∧(∀ z,D z≠0→D' z=D z∧S' z=S z)∧((St'=St∧D' x=eX)∨∃ T,St'=St ++ x :: T∧D' x≤St.length∧∀ z∈x :: T,KP E D' St' S' z∧D' x≤D' z∧iq (S' z) (S' x))
structure gI (n:Nat) (E:Nat→List Nat) (S0:Nat→BV) (D0:Nat→Int) (St:List Nat) (S1:Nat→BV) (x:Nat) (done:List Nat) (D:Nat→Int) (T:List Nat) (S:Nat→BV):Prop where
 g:nV n E S0 D (St ++ x :: T) S
 old:∀ z,D0 z≠0→D z=D0 z∧S z=S1 z
 own:1≤D x∧D x≤(St.length:Int)+1
 fin:∀ z∈T,KP E D (St ++ x :: T) S z∧D x≤D z∧iq (S z) (S x)
 NJ:∀ y∈done,Jp D (St ++ x :: T) S x y
section
variable {n:Nat} {E:Nat→List Nat} {S0:Nat→BV} {D0 D:Nat→Int} {St T:List Nat} {S1 S:Nat→BV} {x:Nat} {done:List Nat}
theorem Cb (h:St.Nodup) (k:∀ z∈St,z < n):St.length≤n:=by
 have:∀ (l r:List Nat),l.Nodup→(∀ z∈l,z∈r)→l.length≤r.length:=by
  intro l
  induction l with
  | nil=>intro r _ _; simp
  | cons a l ih =>
   intro r hn hs
   rw[V3] at hn
   obtain ⟨r1,r2,rfl⟩:=List.append_of_mem (hs a (by simp))
   have:=ih (r1 ++ r2) hn.2 fun z hz=>by
    have h1:=hs z (by simp[hz])
    rw[VE,Vp] at h1
    rw[VE]
    rcases h1 with h1 | h1 | h1
    ·exact .inl h1
    ·exact absurd (h1 ▸ hz) hn.1
    ·exact .inr h1
   simp only[V6,Vr] at this ⊢
   omega
 have h1:=this St (List.range n) h fun z hz=>V5.2 (k z hz)
 simpa using h1
theorem nV.ne (_:(n:Int) < eX) (h:nV n E S0 D St S) {z:Nat} (hz:z∈St):D z≠0∧D z≠eX:=by
 have hl:=h.lt z hz
 refine ⟨fun e=>(h.zero z hl e).2 hz,fun e=>(h.Fu z hl e).1 hz⟩
theorem gI.start (_:(n:Int) < eX) (h:nV n E S0 D St S) (hx:x < n) (h0:D x=0):gI n E S0 D St S x [] (jA D x ((St.length:Int)+1)) [] S:=by
 have hxs:=(h.zero x hx h0).2
 have hl:=Cb (St:=x :: St) (n:=n) (V3.2 ⟨hxs,h.nd⟩) fun z hz=>by
  rcases Vp.1 hz with rfl | hz
  ·exact hx
  ·exact h.lt z hz
 simp only[Vr] at hl
 refine ⟨⟨?_,fun z hz=>?_,fun z hz h1=>?_,fun z hz h1=>?_,fun z hz h1 h2=>?_,h.sound,h.base⟩,fun z hz=>⟨l0 fun e=>hz (by rw[e,h0]),rfl⟩,by rw[eQ]; omega,by simp,by simp⟩
 ·rw[V2]
  refine ⟨h.nd,by simp,fun a ha b hb e=>?_⟩
  simp at hb
  exact hxs (by rw[← hb,← e]; exact ha)
 ·rcases VE.1 hz with hz | hz
  ·exact h.lt z hz
  ·simp at hz; subst hz; exact hx
 ·by_cases e:z=x
  ·rw[e,eQ] at h1; omega
  ·rw[l0 e] at h1
   obtain ⟨k1,k2⟩:=h.zero z hz h1
   exact ⟨k1,by simp[k2,e]⟩
 ·by_cases e:z=x
  ·rw[e,eQ] at h1; unfold eX at *; omega
  ·rw[l0 e] at h1
   obtain ⟨k1,k2,k3⟩:=h.Fu z hz h1
   refine ⟨by simp[k1,e],k2,fun y hy=>?_⟩
   have:=k3 y hy
   rw[l0 fun e2=>by rw[e2,h0] at this; unfold eX at this; omega]; exact this
 ·by_cases e:z=x
  ·subst e
   rw[eQ]
   refine ⟨St.length,by simp,by omega,Int.le_refl _,z,?_,.refl⟩
   rw[show ((St.length:Int)+1 - 1).toNat=St.length by omega]; simp
  ·rw[l0 e] at h1 h2 ⊢
   obtain ⟨p,k1,k2,k3,w,k4,k5⟩:=h.on z hz h1 h2
   exact ⟨p,by rw[Vz (Vn.1 k1).1]; exact k1,k2,k3,w,by rw[Vz (Vn.1 k4).1]; exact k4,k5⟩
theorem gI.put (hE:∀ x,x < n→∀ y∈E x,y < n) (hn:(n:Int) < eX) (hx:x < n) {y:Nat} (hy:y∈E x) (hg:nV n E S0 D (St ++ x :: T) S) (hold:∀ z,D0 z≠0→D z=D0 z∧S z=S1 z) (h0:D0 x=0) (hown:1≤D x∧D x≤(St.length:Int)+1) (hy0:D y≠0)
  (hfin:∀ z∈T,KP E D (St ++ x :: T) S z∧(D x≤D z∧iq (S z) (S x)∨D y≤D z∧iq (S z) (S y))) (hsuc:∀ z∈done,Jp D (St ++ x :: T) S x z) :
  gI n E S0 D0 St S1 x (done ++ [y]) (jA D x (min (D x) (D y))) T (jA S x (S x ||| S y)):=by
 have hyn:=hE x hx y hy
 have hxm:x∈St ++ x :: T:=by simp
 have hxne:=hg.ne hn hxm
 have hD:∀ z,z≠x→jA D x (min (D x) (D y)) z=D z:=fun z e=>l0 e
 have hS:∀ z,z≠x→jA S x (S x ||| S y) z=S z:=fun z e=>l0 e
 have hle:jA D x (min (D x) (D y)) x≤D x:=by rw[eQ]; omega
 have hSle:iq (S x) (jA S x (S x ||| S y) x):=fun t ht=>by rw[eQ,VM,ht]; rfl
 have hSle2:iq (S y) (jA S x (S x ||| S y) x):=fun t ht=>by rw[eQ,VM,ht,Bool.or_true]
 have hSup:∀ z,iq (S z) (jA S x (S x ||| S y) z):=fun z=>by
  by_cases e:z=x
  ·rw[e]; exact hSle
  ·rw[hS z e]; exact fun _ h=>h
 have hfarx:∀ z,D z=eX→z≠x:=fun z h e=>hxne.2 (by rw[← e]; exact h)
 have hyD:1≤D y∧((D y=eX)∨∃ p:Nat,(St ++ x :: T)[p]?=some y∧D y≤(p:Int)+1∧∃ w,(St ++ x :: T)[(D y - 1).toNat]?=some w∧jc E y w):=by
  by_cases hf:D y=eX
  ·exact ⟨by rw[hf]; decide,.inl hf⟩
  ·obtain ⟨p,k1,k2,k3,k4⟩:=hg.on y hyn hy0 hf
   exact ⟨k2,.inr ⟨p,k1,k3,k4⟩⟩
 obtain ⟨p0,q1,q2,q3,q4⟩:=hg.on x hx hxne.1 hxne.2
 have hDx:D x < eX:=by
  have:=Cb hg.nd hg.lt
  have:=(Vn.1 q1).1
  omega
 refine ⟨⟨hg.nd,hg.lt,fun z hz h1=>?_,fun z hz h1=>?_,fun z hz h1 h2=>?_,fun z t hz h1=>?_,fun z hz t h1=>hSup z t (hg.base z hz t h1)⟩,fun z hz=>?_,?_,fun z hz=>?_,fun z hz=>?_⟩
 ·by_cases e:z=x
  ·rw[e,eQ] at h1; omega
  ·rw[hD z e] at h1
   rw[hS z e]; exact hg.zero z hz h1
 ·by_cases e:z=x
  ·rw[e,eQ] at h1
   have:=hg.ne hn hxm
   omega
  ·rw[hD z e] at h1
   obtain ⟨k1,k2,k3⟩:=hg.Fu z hz h1
   rw[hS z e]
   exact ⟨k1,k2,fun u hu=>by rw[hD u (hfarx u (k3 u hu))]; exact k3 u hu⟩
 ·by_cases e:z=x
  ·subst e
   rw[eQ]
   rcases Int.le_total (D z) (D y) with hc | hc
   ·rw[Int.min_eq_left hc]
    exact ⟨p0,q1,q2,q3,q4⟩
   ·rw[Int.min_eq_right hc]
    rcases hyD.2 with hf | ⟨p,k1,k3,w,k4,k5⟩
    ·rw[hf] at hc; omega
    ·exact ⟨p0,q1,hyD.1,by omega,w,k4,.step hy k5⟩
  ·rw[hD z e] at h1 h2 ⊢
   exact hg.on z hz h1 h2
 ·by_cases e:z=x
  ·subst e
   rw[eQ,VM,V7] at h1
   rcases h1 with h1 | h1
   ·exact hg.sound z t hz h1
   ·exact (hg.sound y t hyn h1).up (.step hy .refl)
  ·rw[hS z e] at h1; exact hg.sound z t hz h1
 ·have e:z≠x:=fun e=>hz (by rw[e]; exact h0)
  rw[hD z e,hS z e]; exact hold z hz
 ·rw[eQ]; omega
 ·have hzne:z≠x:=fun e=>by
   have h1:=hg.nd
   rw[V2] at h1
   exact (V3.1 h1.2.1).1 (e ▸ hz)
  obtain ⟨⟨k1,k2⟩,k3⟩:=hfin z hz
  rw[hD z hzne,hS z hzne]
  refine ⟨⟨by rw[hD z hzne]; exact k1,fun u hu=>?_⟩,?_,?_⟩
  ·rcases k2 u hu with ⟨m1,m2⟩ | ⟨q,m1,m2⟩
   ·left
    rw[hD u (hfarx u m1),hS u (hfarx u m1),hS z hzne]; exact ⟨m1,m2⟩
   ·right
    rw[hD z hzne]; exact ⟨q,m1,m2⟩
  ·rw[eQ]
   rcases k3 with k3 | k3 <;> omega
  ·rcases k3 with k3 | k3
   ·exact fun t ht=>hSle t (k3.2 t ht)
   ·exact fun t ht=>hSle2 t (k3.2 t ht)
 ·rcases VE.1 hz with hz | hz
  ·rcases hsuc z hz with ⟨m1,m2⟩ | ⟨q,m1,m2⟩
   ·left
    rw[hD z (hfarx z m1),hS z (hfarx z m1)]
    exact ⟨m1,fun t ht=>hSle t (m2 t ht)⟩
   ·right
    exact ⟨q,m1,by omega⟩
  ·rw[VY] at hz
   subst hz
   rcases hyD.2 with hf | ⟨p,k1,k3,_⟩
   ·left
    rw[hD z (hfarx z hf),hS z (hfarx z hf)]
    exact ⟨hf,hSle2⟩
   ·right
    exact ⟨p,k1,by rw[eQ]; omega⟩
theorem gI.Qr (hE:∀ x,x < n→∀ y∈E x,y < n) (hn:(n:Int) < eX) (hx:x < n) (h0:D0 x=0) (h:gI n E S0 D0 St S1 x done D T S) {y:Nat} (hy:y∈E x) (hy0:D y≠0) :
  gI n E S0 D0 St S1 x (done ++ [y]) (jA D x (min (D x) (D y))) T (jA S x (S x ||| S y)) :=
 gI.put hE hn hx hy h.g h.old h0 h.own hy0 (fun z hz=>⟨(h.fin z hz).1,.inl (h.fin z hz).2⟩) h.NJ
theorem KG {l r:List Nat} {p z:Nat} (h:l[p]?=some z):(l ++ r)[p]?=some z:=by
 rw[Vz (Vn.1 h).1]; exact h
theorem gI.AQ (hE:∀ x,x < n→∀ y∈E x,y < n) (hn:(n:Int) < eX) (hx:x < n) (h0:D0 x=0) (h:gI n E S0 D0 St S1 x done D T S) {y:Nat} (hy:y∈E x) (_:D y=0) {D':Nat→Int} {St':List Nat} {S':Nat→BV} (hv:yT n E S0 D (St ++ x :: T) S y D' St' S') :
  ∃ T',St'=St ++ x :: T'∧gI n E S0 D0 St S1 x (done ++ [y]) (jA D' x (min (D' x) (D' y))) T' (jA S' x (S' x ||| S' y)):=by
 obtain ⟨g',hold,hc⟩:=hv
 have hxm:x∈St ++ x :: T:=by simp
 have hxne:=h.g.ne hn hxm
 obtain ⟨x1,x2⟩:=hold x hxne.1
 have hdd:∀ z,D0 z≠0→D' z=D0 z∧S' z=S1 z:=fun z hz=>by
  obtain ⟨k1,k2⟩:=h.old z hz
  obtain ⟨k3,k4⟩:=hold z (by rw[k1]; exact hz)
  exact ⟨k3.trans k1,k4.trans k2⟩
 have hok:∀ (r:List Nat) (z u:Nat),D z≠0→Jp D (St ++ x :: T) S z u→Jp D' (St ++ x :: T ++ r) S' z u:=fun r z u hz hu=>by
  obtain ⟨z1,z2⟩:=hold z hz
  rcases hu with ⟨m1,m2⟩ | ⟨q,m1,m2⟩
  ·left
   obtain ⟨u1,u2⟩:=hold u (by rw[m1]; decide)
   rw[u1,u2,z2]; exact ⟨m1,m2⟩
  ·right
   exact ⟨q,KG m1,by rw[z1]; exact m2⟩
 have hT:∀ z∈T,D z≠0:=fun z hz=>(h.g.ne hn (by simp[hz])).1
 have hfin:∀ (r:List Nat),∀ z∈T,KP E D' (St ++ x :: T ++ r) S' z∧(D' x≤D' z∧iq (S' z) (S' x)):=fun r z hz=>by
  obtain ⟨⟨⟨p,p1,p2⟩,k2⟩,k3,k4⟩:=h.fin z hz
  obtain ⟨z1,z2⟩:=hold z (hT z hz)
  exact ⟨⟨⟨p,KG p1,by rw[z1]; exact p2⟩,fun u hu=>hok r z u (hT z hz) (k2 u hu)⟩,by rw[x1,z1]; exact k3,by rw[x2,z2]; exact k4⟩
 rcases hc with ⟨rfl,hf⟩ | ⟨Ty,rfl,hle,hall⟩
 ·refine ⟨T,rfl,gI.put hE hn hx hy g' hdd h0 (by rw[x1]; exact h.own) (by rw[hf]; decide) (fun z hz=>?_) (fun z hz=>?_)⟩
  ·have:=hfin [] z hz
   rw[Wx] at this
   exact ⟨this.1,.inl this.2⟩
  ·have:=hok [] x z hxne.1 (h.NJ z hz)
   rwa [Wx] at this
 ·have e:St ++ x :: T ++ y :: Ty=St ++ x :: (T ++ y :: Ty):=by simp
  refine ⟨T ++ y :: Ty,e,?_⟩
  rw[e] at g' hall
  have hyne:=g'.ne hn (z:=y) (by simp)
  refine gI.put hE hn hx hy g' hdd h0 (by rw[x1]; exact h.own) hyne.1 (fun z hz=>?_) (fun z hz=>?_)
  ·rcases VE.1 hz with hz | hz
   ·have:=hfin (y :: Ty) z hz
    rw[e] at this
    exact ⟨this.1,.inl this.2⟩
   ·exact ⟨(hall z hz).1,.inr (hall z hz).2⟩
  ·have:=hok (y :: Ty) x z hxne.1 (h.NJ z hz)
   rwa [e] at this
theorem gI.keep (h:gI n E S0 D0 St S1 x (E x) D T S) (hne:D x≠(St.length:Int)+1):yT n E S0 D0 St S1 x D (St ++ x :: T) S:=by
 have:=h.own
 refine ⟨h.g,h.old,.inr ⟨T,rfl,by omega,fun z hz=>?_⟩⟩
 rcases Vp.1 hz with rfl | hz
 ·exact ⟨⟨⟨St.length,by simp,by omega⟩,h.NJ⟩,Int.le_refl _,fun _ h=>h⟩
 ·exact h.fin z hz
theorem gI.pop (hE:∀ x,x < n→∀ y∈E x,y < n) (hn:(n:Int) < eX) (hx:x < n) (h0:∀ z∈x :: T,D0 z=0) (h:gI n E S0 D0 St S1 x (E x) D T S) (he:D x=(St.length:Int)+1) :
  yT n E S0 D0 St S1 x (fun z=>if z∈x :: T then eX else D z) St (fun z=>if z∈x :: T then S x else S z):=by
 have hg:=h.g
 have hmem:∀ z∈x :: T,z∈St ++ x :: T:=fun z hz=>WJ _ hz
 have hnd:=hg.nd
 rw[V2] at hnd
 have hidx:∀ (q u:Nat),(St ++ x :: T)[q]?=some u→St.length≤q→u∈x :: T:=fun q u hq hl=>by
  rw[VN hl] at hq
  exact Vf hq
 have hsx:∀ z∈x :: T,iq (S z) (S x)∧D x≤D z∧∀ y∈E z,Jp D (St ++ x :: T) S z y:=fun z hz=>by
  rcases Vp.1 hz with rfl | hz
  ·exact ⟨fun _ h=>h,Int.le_refl _,h.NJ⟩
  ·obtain ⟨k1,k2,k3⟩:=h.fin z hz
   exact ⟨k3,k2,k1.2⟩
 have hsucc:∀ z∈x :: T,∀ y∈E z,y∈x :: T∨(D y=eX∧iq (S y) (S x)):=fun z hz y hy=>by
  obtain ⟨k1,k2,k3⟩:=hsx z hz
  rcases k3 y hy with ⟨m1,m2⟩ | ⟨q,m1,m2⟩
  ·exact .inr ⟨m1,fun t ht=>k1 t (m2 t ht)⟩
  ·exact .inl (hidx q y m1 (by omega))
 have hfull:∀ z w:Nat,jc E z w→z∈x :: T→∀ t,(S0 w).getLsbD t=true→(S x).getLsbD t=true:=by
  intro z w hr
  induction hr with
  | @refl z =>
   intro hz t ht
   exact (hsx z hz).1 t (hg.base z (hg.lt z (hmem z hz)) t ht)
  | @step z y w hy hr ih =>
   intro hz t ht
   rcases hsucc z hz y hy with k | ⟨k1,k2⟩
   ·exact ih k t ht
   ·have hyn:=hE z (hg.lt z (hmem z hz)) y hy
    exact k2 t ((hg.Fu y hyn k1).2.1 t ⟨w,hr,ht⟩)
 have hback:∀ (m p z:Nat),p < m→(St ++ x :: T)[p]?=some z→z∈x :: T→jc E z x:=by
  intro m
  induction m with
  | zero=>intro p z h; omega
  | succ m ih =>
   intro p z hp hpz hz
   by_cases e:z=x
   ·rw[e]; exact .refl
   ·have hzT:z∈T:=(Vp.1 hz).resolve_left e
    obtain ⟨⟨⟨p1,k1,k2⟩,_⟩,k3,_⟩:=h.fin z hzT
    have hzn:=hg.lt z (hmem z hz)
    obtain ⟨z0,z1⟩:=hg.ne hn (hmem z hz)
    obtain ⟨p2,m1,m2,m3,w,m4,m5⟩:=hg.on z hzn z0 z1
    have hpp:p1=p:=(List.getElem?_inj (Vn.1 k1).1 hg.nd).1 (k1.trans hpz.symm)
    have hw:=hidx _ w m4 (by omega)
    exact m5.trans (ih (D z - 1).toNat w (by omega) m4 hw)
 have hfarO:∀ z,D z=eX→z ∉ x :: T:=fun z hz hm=>(hg.ne hn (hmem z hm)).2 hz
 refine ⟨⟨hnd.1,fun z hz=>hg.lt z (WC _ hz),fun z hz h1=>?_,fun z hz h1=>?_,fun z hz h1 h2=>?_,fun z t hz h1=>?_,fun z hz t h1=>?_⟩,fun z hz=>?_,.inl ⟨rfl,by simp⟩⟩
 ·split at h1
  ·simp[eX] at h1
  ·rename_i hm
   rw[Va hm]
   obtain ⟨k1,k2⟩:=hg.zero z hz h1
   exact ⟨k1,fun hs=>k2 (WC _ hs)⟩
 ·by_cases hm:z∈x :: T
  ·rw[Vd hm]
   refine ⟨fun hs=>hnd.2.2 z hs z hm rfl,fun t ⟨w,k1,k2⟩=>hfull z w k1 hm t k2,fun y hy=>?_⟩
   split
   ·rfl
   ·rename_i hyn
    exact ((hsucc z hm y hy).resolve_left hyn).1
  ·rw[Va hm] at h1 ⊢
   obtain ⟨k1,k2,k3⟩:=hg.Fu z hz h1
   refine ⟨fun hs=>k1 (WC _ hs),k2,fun y hy=>?_⟩
   split
   ·rfl
   ·exact k3 y hy
 ·by_cases hm:z∈x :: T
  ·rw[Vd hm] at h2; exact absurd rfl h2
  ·rw[Va hm] at h1 h2 ⊢
   obtain ⟨p,k1,k2,k3,w,k4,k5⟩:=hg.on z hz h1 h2
   have hp:p < St.length:=Nat.lt_of_not_le fun hp=>hm (hidx p z k1 hp)
   rw[Vz hp] at k1
   rw[Vz (by omega)] at k4
   exact ⟨p,k1,k2,k3,w,k4,k5⟩
 ·by_cases hm:z∈x :: T
  ·rw[Vd hm] at h1
   obtain ⟨p,hp,e⟩:=Wl.1 (hmem z hm)
   exact (hg.sound x t hx h1).up (hback (p+1) p z (by omega) (by rw[U9 hp,e]) hm)
  ·rw[Va hm] at h1
   exact hg.sound z t hz h1
 ·by_cases hm:z∈x :: T
  ·rw[Vd hm]
   exact (hsx z hm).1 t (hg.base z hz t h1)
  ·rw[Va hm]; exact hg.base z hz t h1
 ·have hm:z ∉ x :: T:=fun hm=>hz (h0 z hm)
  simp only[Va hm]; exact h.old z hz
theorem gI.fresh (hn:(n:Int) < eX) (hG:nV n E S0 D0 St S1) (h:gI n E S0 D0 St S1 x done D T S):∀ z∈x :: T,D0 z=0:=fun z hz=>by
 refine Wc fun hne=>?_
 have hm:z∈St ++ x :: T:=WJ _ hz
 have hzn:=h.g.lt z hm
 have hnd:=h.g.nd
 rw[V2] at hnd
 by_cases hf:D0 z=eX
 ·exact (h.g.ne hn hm).2 ((h.old z hne).1.trans hf)
 ·obtain ⟨p,k1,_⟩:=hG.on z hzn hne hf
  exact hnd.2.2 z (Vf k1) z hz rfl
theorem nV.all (h:nV n E S0 D St S) (hd:∀ z,z < n→D z=eX) {z t:Nat} (hz:z < n):(S z).getLsbD t=true↔lp E S0 z t:=⟨h.sound z t hz,(h.Fu z hz (hd z hz)).2.1 t⟩
theorem yT.top {D':Nat→Int} {St':List Nat} {S':Nat→BV} (h:yT n E S0 D [] S x D' St' S') (hx:x < n):St'=[]∧D' x=eX:=by
 obtain ⟨g,_,⟨h1,h2⟩ | ⟨T,h1,h2,h3⟩⟩:=h
 ·exact ⟨h1,h2⟩
 ·exfalso
  simp only[VJ] at h2
  obtain ⟨⟨⟨p,k1,k2⟩,_⟩,_⟩:=h3 x (by simp)
  have hm:x∈St':=Vf k1
  by_cases hz:D' x=0
  ·exact (g.zero x hx hz).2 hm
  ·by_cases hf:D' x=eX
   ·exact (g.Fu x hx hf).1 hm
   ·obtain ⟨_,_,k3,_⟩:=g.on x hx hz hf
    omega
end
section
variable {P:Program} {T:Env} {H:View} {K:V→View→Prop} {w:cD (T,H,K)} {t ty:TypeId}
theorem PT {d:Operand} {id off len sz bytes s:Nat} {z:List V} {es:List (List V)} (he:ud P t=some (sz,bytes,z)) (hd:ev T d=.sl id off len sz) (hH:H id=.arr s es) (hl:off+len≤es.length) (h0:len≠0)
  (hk:K (.bI []) (H.set id (.arr sz (gq es off (List.replicate len z))))):kz P (.call { callee:=.builtin .clear,args:=#[d],argTypes:=#[t] }) ty T H K w:=by
 obtain ⟨e,ti,hse,hi,hti,hz,hzl,hzok,hs0,rfl,rfl⟩:=pP he
 intro n _
 refine ⟨.bI [],.fj id (.arr ti.size (gq es off (List.replicate len z))),[id],?_,hk⟩
 simp only[sI,cq,oper]
 simp only[VK] at hzok
 simp[vW,hse,hd,cH,hti,h0,hH,hl,hs0,hz,hzl,hzok]
 exact hzok
end
theorem yV:∀ (xs A B:List (List V)),xs.length≤B.length→gq (A ++ B) A.length xs=A ++ xs ++ B.drop xs.length
 | [],A,B,_=>by simp[gq]
 | x :: r,A,[],h=>by simp at h
 | x :: r,A,b :: B,h=>by
  rw[gq,List.set_append_right _ _ (Vj _),Nat.sub_self,List.set_cons_zero]
  have:=yV r (A ++ [x]) B (by simpa using h)
  simpa using this
theorem yX {id off k m:Nat} (hm:m≤k):dW 2 (.sl id off k 2) (some (gi m)) none=some (.sl id (off+m) (k - m) 2,.none,[]):=by
 simp[dW,bound,asNat,hm]
theorem Ha {id off k m:Nat} (hm:m≤k):dW 2 (.sl id off k 2) none (some (gi m))=some (.sl id off m 2,.none,[]):=by
 simp[dW,bound,asNat,hm]
def fV:SC :=
 .seq (.seq (ao [aj 29 5,aj 30 4,aX 31 30,bc 32 .lss 29 31]) <|
 .cond (.tmp 32) (.skip) (.exit 2)) <|
 .seq (.block 3 (.seq (ao [aj 35 4,aj 36 5,aP 37 2 35 36,bp 38 2 37,aj 39 4,aj 40 5,aQ 41 .sub 40 1,aP 42 2 39 41,bp 43 2 42,((some 44),.op (.old (.binOp .neq 33 (.tmp 38) (.tmp 43) 33) 4))]) <|
 .cond (.tmp 44) (.seq (ao [aj 45 0,aj 46 3,aj 47 4,aj 48 5,aP 49 2 47 48,bp 50 2 49,aP 51 2 45 46,(none,.op (.store 2 (.tmp 51) (.tmp 50)))]) <|
 ao [aj 52 3,aQ 53 .add 52 1,aj 3 53]) (.skip))) <|
 ao [aj 33 5,aQ 34 .add 33 1,aj 5 34]
def fU:SC :=
 .seq (.seq (ao [aj 10 3,aj 11 0,aX 12 11,bc 13 .lss 10 12]) <|
 .cond (.tmp 13) (.skip) (.exit 0)) <|
 .seq (.block 1 (.seq (ao [aj 16 0,aj 17 3,aP 18 2 16 17,bp 19 2 18,aj 20 0,aj 21 3,aQ 22 .sub 21 1,aP 23 2 20 22,bp 24 2 23,((some 25),.op (.old (.binOp .eql 33 (.tmp 19) (.tmp 24) 33) 4))]) <|
 .cond (.tmp 25) (.seq (ao [aj 26 0,aj 27 3,((some 28),.op (.slice 2 (.tmp 26) (some (.tmp 27)) none)),aj 4 28]) <|
 .seq (.seq (ao [bj 5 1]) <|
 .block 2 (.loop fV)) <|
 .seq (ao [aj 54 0,aj 55 3,((some 56),.op (.slice 2 (.tmp 54) (some (.tmp 55)) none)),(none,.op (.old (.call { callee:=.builtin .clear,args:=#[(.tmp 56)],argTypes:=#[27] }) 0))]) <|
 .seq (ao [aj 57 0,aj 58 3,((some 59),.op (.slice 2 (.tmp 57) none (some (.tmp 58)))),aj 2 59]) <|
 .ret) (.skip))) <|
 ao [aj 14 3,aQ 15 .add 14 1,aj 3 15]
def gx:SF:=⟨.seq (ao [((some 2),.op (.bL (.val (.emp 1))))]) <|
 .seq (.seq (ao [aj 6 0,aX 7 6,aQ 8 .lss 7 2]) <|
 .cond (.tmp 8) (.seq (ao [aj 9 0,aj 2 9]) <|
 .ret) (.skip)) <|
 .seq (.seq (ao [bj 3 1]) <|
 .block 0 (.loop fU)) <|
 .seq (ao [aj 60 0,aj 2 60]) <|
 .ret,
 [.tmp 2],61⟩
theorem jI:aV Tryz.prog 114 []=some gx:=by kernel_rfl
def Ar:SF:=⟨.seq (ao [((some 2),.op (.bL (.val (.emp 1))))]) <|
 .seq (ao [aj 3 0,oc 4 112 [(.tmp 3),(.val (.fn 113 [] []))]]) <|
 .seq (ao [aj 5 0,bC 6 114 [5],aj 2 6]) <|
 .ret,
 [.tmp 2],7⟩
theorem Dn:aV Tryz.prog 64 []=some Ar:=by kernel_rfl
theorem sg {l:List aH} {i:Nat} (h:i < l.length):(aT l).getD i []=[gi (l.getD i ia).aF,gi (l.getD i ia).dot]:=qp (getD_some h)
theorem L2 (l:List aH) (i j:Nat) (x d:aH) (hi:i < l.length):(l.set i x).getD j d=if i=j then x else l.getD j d:=by
 rw[gJ]
 by_cases e:i=j
 ·rw[Vd ⟨e,hi⟩,Vd e]
 ·rw[Va (fun h=>e h.1),Va e]
set_option maxHeartbeats 16000000 in
theorem LN (l:List aH) (hn:l.length≤100000) (u:V) (H:View) (ho:ba H u 2 (aT l)):aC Tryz.prog 114 [u] H fun r H'=>(∀ id,owner u≠some id→H' id=H id)∧ba H' r 2 (aT (fE l l.length))∧owner r=owner u:=by
 refine aC.cut (K:=fun r H'=>(H'=H∧r=u∧fE l l.length=l)∨∃ id rest,u=.sl id 0 l.length 2∧r=.sl id 0 (fE l l.length).length 2∧H'=H.set id (.arr 2 (aT (fE l l.length) ++ rest))) ?_ ?_
 rotate_left
 ·rintro r H' (⟨rfl,rfl,e⟩ | ⟨id,rest,rfl,rfl,rfl⟩)
  ·exact .inl ⟨fun _ _=>rfl,by rw[e]; exact ho,rfl⟩
  ·refine .inr ⟨id,2,aT (fE l l.length),rest,by simp[View.set],fun j hj=>?_,?_,rfl⟩
   ·rw[set_set]
    simp only[View.set]
    rw[Va (fun e=>hj (by rw[e]; rfl))]
   ·rw[set_set]
    exact .inr ⟨id,by rw[bJ],by simp[View.set]⟩
 refine aC.of mixed jI ?_
 have hlen:cH u=some l.length:=by rw[ho.len,bJ]
 simp (disch:=omega) only [↓wr,seval,wq,ah,ag,ak,aa,ab,af,ai,ae,gx,hlen]
 refine av.dec (fun h2=>?_) (fun h2=>?_)
 ·simp (disch:=omega) only [↓wr,seval,wq,ah,ag,ak,aa,ab,af,ai,ae]
  left
  try refine ⟨rfl,rfl,?_⟩
  match l,h2 with
  | [],_=>rfl
  | [x],_=>rfl
  | _ :: _ :: _,h2=>simp at h2; omega
 obtain ⟨id,hu,hid⟩:=ho.sl (by rw[bJ]; omega)
 rw[bJ] at hu
 subst hu
 simp (disch:=omega) only [↓wr,seval,wq,ah,ag,ak,aa,ab,af,ai,ae]
 refine aZ.up (l.length - 1) (fun i T H'=>H=H'∧(∀ j,0 < j→j < i+1→l.getD j ia≠l.getD (j - 1) ia)∧T 0=.sl id 0 l.length 2∧T 3=gi ((i+1:Nat):Int)) ⟨rfl,fun j h1 h2=>by omega,rfl,rfl⟩ ?_
 rintro i k T _ hk ⟨rfl,hne,t0,t3⟩
 simp (disch:=omega) only [↓wr,seval,wq,ah,ag,ak,aa,ab,af,ai,ae,fU,t0,t3]
 refine av.dec (fun hc=>?_) (fun hc=>?_)
 rotate_left
 ·simp (disch:=omega) only [↓wr,seval,wq,ah,ag,ak,aa,ab,af,ai,ae,t0]
  left
  try refine ⟨rfl,rfl,?_⟩
  rw[yO l _ (Vj _) (fun j h1 h2=>hne j h1 (by omega)),List.take_length]
 have hi1:i+1 < l.length:=by omega
 have e1:(((i+1:Nat):Int) - 1)=(i:Int):=by omega
 simp (disch:=omega) only [↓wr,seval,wq,ah,ag,ak,aa,ab,af,ai,ae,t0,t3,hid,sg hi1,sg (show i < l.length by omega),e1]
 refine ⟨by omega,by rw[bJ]; omega,?_⟩
 refine ⟨by omega,by rw[bJ]; omega,?_⟩
 generalize hx:l.getD (i+1) ia=x
 generalize hy:l.getD i ia=y
 refine iw (xs:=#[.int .i64 x.aF,.int .i64 x.dot]) (ys:=#[.int .i64 y.aF,.int .i64 y.dot]) Tryz.underlying33 (by kernel_rfl) (by kernel_rfl) ?_ ?_ (qA x y) (.inl ⟨rfl,rfl⟩) ?_
 ·rfl
 ·rfl
 rw[ze]
 simp (disch:=omega) only [↓wr,seval,wq,ah,ag,ak,aa,ab,af,ai,ae,t0,t3]
 refine av.dec (fun heq=>?_) (fun heq=>?_)
 rotate_left
 ·simp (disch:=omega) only [↓wr,seval,wq,ah,ag,ak,aa,ab,af,ai,ae,t0,t3]
  refine aM hk (by omega) ⟨rfl,fun j h1 h2=>?_,t0,by push_cast; rfl⟩
  rcases Vy j (i+1) with q | q
  ·exact hne j h1 q
  ·have:j=i+1:=by omega
   subst this
   rw[Nat.add_sub_cancel,hx,hy]; exact heq
 have hstart:fE l (i+1+1)=l.take (i+1):=by
  rw[fE,Va,yO l (i+1) (by omega) hne]
  rw[Nat.add_sub_cancel,hx,hy]
  simp[heq]
 simp (disch:=omega) only [↓wr,seval,wq,ah,ag,ak,aa,ab,af,ai,ae,t0,t3,yX (id:=id) (off:=0) (k:=l.length) (m:=i+1) (by omega)]
 refine aZ.up (l.length - (i+1) - 1) (fun i2 T H'=>∃ (kk:Nat) (cur:List aH),H'=H.set id (.arr 2 (aT cur))∧cur.length=l.length∧i+1≤kk∧kk≤i+1+i2∧cur.take kk=fE l (i+1+(i2+1))∧(∀ j,kk≤j→cur.getD j ia=l.getD j ia) ∧
  T 0=.sl id 0 l.length 2∧T 3=gi kk∧T 4=.sl id (i+1) (l.length - (i+1)) 2∧T 5=gi ((i2+1:Nat):Int)) ⟨i+1,l,?_,rfl,Vj _,by omega,by rw[hstart],fun _ _=>rfl,t0,t3,?_,rfl⟩ ?_
 ·funext j; simp only[View.set]; split
  ·rename_i e; rw[e,hid]
  ·rfl
 ·rfl
 clear t0 t3 hk
 rintro i2 k2 T2 _ hk2 ⟨kk,cur,rfl,hcl,k1,k3,hct,hcj,t0,t3,t4,t5⟩
 have hset:(H.set id (.arr 2 (aT cur))) id=.arr 2 (aT cur):=by simp[View.set]
 simp (disch:=omega) only [↓wr,seval,wq,ah,ag,ak,aa,ab,af,ai,ae,fV,t0,t3,t4,t5]
 refine av.dec (fun hc2=>?_) (fun hc2=>?_)
 ·have hp:i+1+(i2+1) < l.length:=by omega
  have e2:(((i2+1:Nat):Int) - 1)=(i2:Int):=by omega
  simp (disch:=omega) only [↓wr,seval,wq,ah,ag,ak,aa,ab,af,ai,ae,t0,t3,t4,t5,hset,e2,sg (l:=cur) (show i+1+(i2+1) < cur.length by omega),sg (l:=cur) (show i+1+i2 < cur.length by omega)]
  refine ⟨by omega,by rw[bJ]; omega,?_⟩
  refine ⟨by omega,by rw[bJ]; omega,?_⟩
  rw[hcj _ (show kk≤i+1+(i2+1) by omega),hcj _ (show kk≤i+1+i2 by omega)]
  generalize hx2:l.getD (i+1+(i2+1)) ia=x2
  generalize hy2:l.getD (i+1+i2) ia=y2
  refine iw (xs:=#[.int .i64 x2.aF,.int .i64 x2.dot]) (ys:=#[.int .i64 y2.aF,.int .i64 y2.dot]) Tryz.underlying33 (by kernel_rfl) (by kernel_rfl) ?_ ?_ (qA x2 y2) (.inr ⟨rfl,rfl⟩) ?_
  ·rfl
  ·rfl
  rw[ze]
  simp (disch:=omega) only [↓wr,seval,wq,ah,ag,ak,aa,ab,af,ai,ae,t0,t3,t4,t5]
  have hcu:fE l (i+1+(i2+1+1))=if x2=y2 then fE l (i+1+(i2+1)) else fE l (i+1+(i2+1)) ++ [x2]:=by
   rw[show i+1+(i2+1+1)=(i+1+(i2+1))+1 by omega,fE,hx2,show i+1+(i2+1) - 1=i+1+i2 by omega,hy2]
   by_cases e:x2=y2
   ·rw[Vd e,Va (by simp[e])]
   ·rw[Va e,Vd (.inr e)]
  refine av.dec (fun he=>?_) (fun he=>?_)
  ·simp (disch:=omega) only [↓wr,seval,wq,ah,ag,ak,aa,ab,af,ai,ae,t0,t3,t4,t5]
   rw[Vd he] at hcu
   exact aM hk2 (by omega) ⟨kk,cur,rfl,hcl,k1,by omega,by rw[hcu]; exact hct,hcj,t0,t3,t4,by push_cast; rfl⟩
  ·simp (disch:=omega) only [↓wr,seval,wq,ah,ag,ak,aa,ab,af,ai,ae,t0,t3,t4,t5,hset,sg (l:=cur) (show i+1+(i2+1) < cur.length by omega)]
   rw[hcj _ (show kk≤i+1+(i2+1) by omega),hx2]
   have hkl:(aT cur).getD kk []=[gi (cur.getD kk ia).aF,gi (cur.getD kk ia).dot]:=sg (by omega)
   have hse:(aT cur).set kk [gi x2.aF,gi x2.dot]=aT (cur.set kk x2):=by simp[aT,WQ,bE]
   simp (disch:=omega) only [↓wr,seval,wq,ah,ag,ak,aa,ab,af,ai,ae,t0,t3,t4,t5,hset,hkl,hse]
   rw[set_set]
   rw[Va he] at hcu
   refine ⟨by omega,by rw[bJ]; omega,?_⟩
   refine ⟨by omega,by rw[bJ]; omega,?_⟩
   refine aM hk2 (by omega) ⟨kk+1,cur.set kk x2,rfl,by simp[hcl],by omega,by omega,?_,fun j hj=>?_,t0,by push_cast; rfl,t4,by push_cast; rfl⟩
   ·rw[hcu,← hct,Vx,List.take_set_of_le (Vj _),W6 (by omega)]; rfl
   ·rw[L2 _ _ _ _ _ (by omega),Va (by omega)]
    exact hcj j (by omega)
 ·have hi2:i+1+(i2+1)=l.length:=by omega
  rw[hi2] at hct
  have hz:l.length - kk≠0:=by omega
  have hkl:kk=(fE l l.length).length:=by rw[← hct,VQ]; omega
  simp (disch:=omega) only [↓wr,seval,wq,ah,ag,ak,aa,ab,af,ai,ae,t0,t3,yX (id:=id) (off:=0) (k:=l.length) (m:=kk) (by omega)]
  refine PT (id:=id) (off:=kk) (len:=l.length - kk) (sz:=2) (bytes:=16) (s:=2) (z:=[gi 0,gi 0]) (es:=aT cur) (by kernel_rfl) (by simp (disch:=omega) only [↓wr,seval,wq,ah,ag,ak,aa,ab,af,ai,ae]; try rw[Wa]) hset (by rw[bJ]; omega) hz ?_
  rw[set_set]
  have hsr:gq (aT cur) kk (List.replicate (l.length - kk) [gi 0,gi 0])=aT (fE l l.length) ++ List.replicate (l.length - kk) [gi 0,gi 0]:=by
   have h1:=yV (List.replicate (l.length - kk) [gi 0,gi 0]) (aT (cur.take kk)) (aT (cur.drop kk)) (by simp[aT]; omega)
   rw[show aT (cur.take kk) ++ aT (cur.drop kk)=aT cur by rw[aT,aT,← VB,List.take_append_drop]; rfl] at h1
   rw[show (aT (cur.take kk)).length=kk by rw[bJ,VQ]; omega] at h1
   rw[h1,hct,VD (by simp[aT]; omega),Wx]
  rw[hsr]
  simp (disch:=omega) only [↓wr,seval,wq,ah,ag,ak,aa,ab,af,ai,ae,t0,t3,Ha (id:=id) (off:=0) (k:=l.length) (m:=kk) (by omega)]
  right
  exact ⟨id,List.replicate (l.length - kk) [gi 0,gi 0],rfl,by rw[hkl],rfl⟩
set_option maxHeartbeats 4000000 in
theorem KJ (l:List aH) (hn:l.length≤100000) (u:V) (H:View) (ho:ba H u 2 (aT l)):aC Tryz.prog 64 [u] H fun r H'=>(∀ id,owner u≠some id→H' id=H id)∧ba H' r 2 (aT (zL l))∧owner r=owner u:=by
 refine aC.of mixed Dn ?_
 simp (disch:=omega) only [↓wr,seval,wq,ah,ag,ak,aa,ab,af,ai,ae,Ar]
 refine aD.dP ((P0 l (by omega) u H ho).mono ?_)
 rintro r H2 ⟨rfl,k2,o2⟩
 simp (disch:=omega) only [↓wr,seval,wq,ah,ag,ak,aa,ab,af,ai,ae]
 refine aD.dP ((LN (eD l) (by rw[jb]; omega) u H2 o2).mono ?_)
 rintro r H3 ⟨k3,o3,e3⟩
 simp (disch:=omega) only [↓wr,seval,wq,ah,ag,ak,aa,ab,af,ai,ae]
 rw[jb] at o3
 exact ⟨fun id hid=>by rw[k3 id hid,k2 id hid],o3,e3⟩
def nf:SC :=
 .seq (ao [bc 30 .lss 29 28]) <|
 .seq (.cond (.tmp 30) (.skip) (.exit 0)) <|
 .seq (.block 1 (.seq (ao [aP 31 1 27 29,ax 32 31,aj 8 32]) <|
 .seq (.seq (ao [ax 33 2,aj 34 8,aP 35 1 33 34,ax 36 35,aQ 37 .eql 36 0]) <|
 .cond (.tmp 37) (ao [ax 38 4,aj 39 8,((some 40),.call (.tmp 38) [(.tmp 39)])]) (.skip)) <|
 .seq (ao [ax 41 2,aj 42 0,ax 43 2,aj 44 0,aP 45 1 43 44,ax 46 45,ax 47 2,aj 48 8,aP 49 1 47 48,ax 50 49,((some 51),.op (.mm false (.tmp 46) (.tmp 50))),aP 52 1 41 42,(none,.op (.store 1 (.tmp 52) (.tmp 51)))]) <|
 ao [ax 53 3,dg 54 53,aB 55 8 54,ax 56 55,aj 57 0,aP 58 1 56 57,ax 59 58,ax 60 3,dg 61 60,aB 62 8 61,ax 63 62,aj 64 8,aP 65 1 63 64,ax 66 65,bc 67 .or 59 66,aP 68 1 56 57,(none,.op (.store 1 (.tmp 68) (.tmp 67)))])) <|
 ao [aQ 69 .add 29 1,aj 29 69]
def nH:SC :=
 .seq (ao [bc 82 .lss 81 80]) <|
 .seq (.cond (.tmp 82) (.skip) (.exit 2)) <|
 .seq (.block 3 (.seq (ao [aP 83 1 79 81,ax 84 83,aj 10 84]) <|
 .seq (ao [ax 85 2,aj 86 10,aP 87 1 85 86,(none,.op (.store 1 (.tmp 87) (.val (.val (.int .i64 1073741824)))))]) <|
 ao [ax 88 3,dg 89 88,aB 90 8 89,ax 91 90,aj 92 10,ax 93 3,dg 94 93,aB 95 8 94,ax 96 95,aj 97 0,aP 98 1 96 97,ax 99 98,aP 100 1 91 92,(none,.op (.store 1 (.tmp 100) (.tmp 99)))])) <|
 ao [aQ 101 .add 81 1,aj 81 101]
def ph:SF:=⟨.seq (ao [ax 11 1,aj 12 0,((some 13),.op (.cg 1 1 [(.val (.int .i64 0))] [(0,(.tmp 12))])),((some 14),.op (.app 1 8 (.tmp 11) (.tmp 13))),(none,.op (.store 1 (.tmp 1) (.tmp 14)))]) <|
 .seq (ao [ax 15 1,aX 16 15,aj 6 16]) <|
 .seq (ao [ax 17 2,aj 18 0,aj 19 6,aP 20 1 17 18,(none,.op (.store 1 (.tmp 20) (.tmp 19)))]) <|
 .seq (.seq (ao [ax 21 3,dg 22 21,aB 23 9 22,ax 24 23,aj 25 0,aP 26 1 24 25,ax 27 26,aX 28 27,bj 29 0]) <|
 .block 0 (.loop nf)) <|
 .seq (.seq (ao [ax 70 2,aj 71 0,aP 72 1 70 71,ax 73 72,aj 74 6,bc 75 .neq 73 74]) <|
 .cond (.tmp 75) (.ret) (.skip)) <|
 .seq (.seq (ao [ax 76 1,aj 77 6,aQ 78 .sub 77 1,((some 79),.op (.slice 1 (.tmp 76) (some (.tmp 78)) none)),aX 80 79,bj 81 0]) <|
 .block 2 (.loop nH)) <|
 ao [ax 102 1,aj 103 6,aQ 104 .sub 103 1,((some 105),.op (.slice 1 (.tmp 102) none (some (.tmp 104)))),(none,.op (.store 1 (.tmp 1) (.tmp 105)))],
 [],106⟩
theorem uO:aV Tryz.prog 122 []=some ph:=by kernel_rfl
def px:SC :=
 .seq (ao [bc 19 .lss 18 17]) <|
 .seq (.cond (.tmp 19) (.skip) (.exit 0)) <|
 .seq (.block 1 (.seq (ao [aj 20 18,aj 5 20]) <|
 .seq (ao [ax 21 2,aj 22 5,aP 23 1 21 22,ax 24 23,aQ 25 .eql 24 0]) <|
 .cond (.tmp 25) (ao [ax 26 4,aj 27 5,((some 28),.call (.tmp 26) [(.tmp 27)])]) (.skip))) <|
 ao [aQ 29 .add 18 1,aj 18 29]
def rB:SF:=⟨.seq (ao [cL 1 0]) <|
 .seq (ao [ax 6 1,dg 7 6,aB 8 7 7,ax 9 8,aX 10 9,((some 11),.op (.make 1 8 [(.val (.int .i64 0))] (.tmp 10) (.tmp 10))),((some 2),.op (.alloc [(.emp 1)])),(none,.op (.store 1 (.tmp 2) (.tmp 11)))]) <|
 .seq (ao [((some 3),.op (.alloc [(.emp 1)]))]) <|
 .seq (ao [((some 4),.op (.alloc [(.val .nilFunc)]))]) <|
 .seq (ao [((some 12),.op (.sD 122 [] [(.tmp 3),(.tmp 2),(.tmp 1),(.tmp 4)])),(none,.op (.store 1 (.tmp 4) (.tmp 12)))]) <|
 .seq (ao [ax 13 1,dg 14 13,aB 15 7 14,ax 16 15,aX 17 16,bj 18 0]) <|
 .block 0 (.loop px),
 [],30⟩
theorem wa:aV Tryz.prog 75 [1]=some rB:=by kernel_rfl
abbrev fu (l:List Nat):List (List V):=l.map fun (z:Nat)=>[gi (z:Int)]
structure Cg where
 (qs qd qv W d s e:Nat)
 (f0 f1 f2 f3 f4 f5 f6 f7:V)
 us:List V
 H0:View
def Cg.fn (c:Cg):V:=.fn 122 [] [.ptr c.qs 0 0,.ptr c.qd 0 0,.aN [.ptr c.W 0 0] 0,.ptr c.qv 0 0]
structure B0 (c:Cg) (n:Nat) (E:Nat→List Nat):Prop where
 ky:c.H0 c.qd=.arr 1 [[.sl c.d 0 n 1]]
 xQ:c.H0 c.qv=.arr 1 [[c.fn]]
 hW:c.H0 c.W=.arr 10 [[c.f0,c.f1,c.f2,c.f3,c.f4,c.f5,c.f6,c.f7,.sl c.s 0 n 1,.sl c.e 0 n 1]]
 he:c.H0 c.e=.arr 1 (c.us.map fun u=>[u])
 hl:c.us.length=n
 hu:∀ x,x < n→ba c.H0 (c.us.getD x .any) 1 (fu (E x))
 hE:∀ x,x < n→(E x).length≤1000000000∧∀ y∈E x,y < n
 live:c.H0 c.qs≠.dead∧c.H0 c.d≠.dead∧c.H0 c.s≠.dead
 ne:c.qs≠c.d∧c.qs≠c.s∧c.d≠c.s
 wA:∀ id,(id=c.qd∨id=c.qv∨id=c.W∨id=c.e∨∃ x,x < n∧owner (c.us.getD x .any)=some id)→id≠c.qs∧id≠c.d∧id≠c.s
structure lS (c:Cg) (n:Nat) (H:View) (Dl:List Int) (St:List Nat) (Sl:List BV) (u:V):Prop where
 dl:Dl.length=n
 sl:Sl.length=n
 hd:H c.d=.arr 1 (cb Dl)
 hs:H c.s=.arr 1 (bT Sl)
 hq:H c.qs=.arr 1 [[u]]
 own:ba H u 1 (fu St)
 new:∀ id,owner u=some id→c.H0 id=.dead
 keep:∀ id,c.H0 id≠.dead→id≠c.qs→id≠c.d→id≠c.s→H id=c.H0 id
def dF (l:List Int):Nat→Int:=fun z=>l.getD z 0
def sF (l:List BV):Nat→BV:=fun z=>l.getD z 0
theorem Cy {l:List Int} {x:Nat} {v:Int} (h:x < l.length):dF (l.set x v)=jA (dF l) x v:=by
 funext z
 simp only[dF,jA,gJ]
 by_cases e:x=z
 ·subst e; simp[h]
 ·rw[Va (fun h=>e h.1),Va (fun h=>e h.symm)]
theorem Gb {l:List BV} {x:Nat} {v:BV} (h:x < l.length):sF (l.set x v)=jA (sF l) x v:=by
 funext z
 simp only[sF,jA,gJ]
 by_cases e:x=z
 ·subst e; simp[h]
 ·rw[Va (fun h=>e h.1),Va (fun h=>e h.symm)]
section
variable {c:Cg} {n:Nat} {E:Nat→List Nat} {H:View} {Dl:List Int} {St:List Nat} {Sl:List BV} {u:V}
theorem lS.L5 (h:lS c n H Dl St Sl u) (hC:B0 c n E) {Dl':List Int} (hl:Dl'.length=n):lS c n (H.set c.d (.arr 1 (cb Dl'))) Dl' St Sl u:=by
 obtain ⟨n1,n2,n3⟩:=hC.ne
 refine ⟨hl,h.sl,by simp[View.set],?_,?_,?_,h.new,fun id h1 h2 h3 h4=>?_⟩
 ·simp only[View.set]; rw[Va (Ne.symm n3)]; exact h.hs
 ·simp only[View.set]; rw[Va n1]; exact h.hq
 ·rcases h.own with k | ⟨m,k1,k2⟩
  ·exact .inl k
  ·refine .inr ⟨m,k1,?_⟩
   simp only[View.set]
   rw[Va (fun e=>hC.live.2.1 (by rw[← e]; exact h.new m (by rw[k1]; rfl)))]; exact k2
 ·simp only[View.set]; rw[Va h3]; exact h.keep id h1 h2 h3 h4
theorem lS.yx (h:lS c n H Dl St Sl u) (hC:B0 c n E) {Sl':List BV} (hl:Sl'.length=n):lS c n (H.set c.s (.arr 1 (bT Sl'))) Dl St Sl' u:=by
 obtain ⟨n1,n2,n3⟩:=hC.ne
 refine ⟨h.dl,hl,?_,by simp[View.set],?_,?_,h.new,fun id h1 h2 h3 h4=>?_⟩
 ·simp only[View.set]; rw[Va n3]; exact h.hd
 ·simp only[View.set]; rw[Va n2]; exact h.hq
 ·rcases h.own with k | ⟨m,k1,k2⟩
  ·exact .inl k
  ·refine .inr ⟨m,k1,?_⟩
   simp only[View.set]
   rw[Va (fun e=>hC.live.2.2 (by rw[← e]; exact h.new m (by rw[k1]; rfl)))]; exact k2
 ·simp only[View.set]; rw[Va h4]; exact h.keep id h1 h2 h3 h4
theorem lS.live (h:lS c n H Dl St Sl u) {id:Nat} (h0:c.H0 id≠.dead):H id≠.dead:=by
 by_cases e1:id=c.qs
 ·rw[e1,h.hq]; simp
 ·by_cases e2:id=c.d
  ·rw[e2,h.hd]; simp
  ·by_cases e3:id=c.s
   ·rw[e3,h.hs]; simp
   ·rw[h.keep id h0 e1 e2 e3]; exact h0
theorem lS.push (h:lS c n H Dl St Sl u) (hC:B0 c n E) {q x:Nat} (hq:H q=.dead) {o:cZ} {u2:V} {H2:View} (o2:ba H2 u2 1 (fu St ++ [[gi (x:Int)]])) (l2:Left (H.set q o) H2 u u2):lS c n (H2.set c.qs (.arr 1 [[u2]])) Dl (St ++ [x]) Sl u2:=by
 obtain ⟨n1,n2,n3⟩:=hC.ne
 have hid:∀ id,c.H0 id≠.dead→H2 id=H id∧owner u2≠some id:=fun id h0=>by
  have h1:=h.live h0
  have hne:id≠q:=fun e=>h1 (by rw[e]; exact hq)
  have hs:(H.set q o) id=H id:=by simp only[View.set]; rw[Va hne]
  have:=l2 id (by rw[hs]; exact h1) (fun e=>h0 (h.new id e))
  rw[hs] at this; exact this
 refine ⟨h.dl,h.sl,?_,?_,by simp[View.set],?_,fun id h1=>?_,fun id h1 h2 h3 h4=>?_⟩
 ·simp only[View.set]; rw[Va (Ne.symm n1),(hid _ hC.live.2.1).1]; exact h.hd
 ·simp only[View.set]; rw[Va (Ne.symm n2),(hid _ hC.live.2.2).1]; exact h.hs
 ·have e:fu (St ++ [x])=fu St ++ [[gi (x:Int)]]:=by simp
  rw[e]
  rcases o2 with k | ⟨m,k1,k2⟩
  ·exact .inl k
  ·refine .inr ⟨m,k1,?_⟩
   simp only[View.set]
   rw[Va (fun e=>(hid _ hC.live.1).2 (by rw[k1,← e]; rfl))]; exact k2
 ·exact Wi fun h2=>(hid id h2).2 h1
 ·simp only[View.set]; rw[Va h2,(hid id h1).1]; exact h.keep id h1 h2 h3 h4
theorem lS.at (h:lS c n H Dl St Sl u) (hC:B0 c n E):H c.qd=.arr 1 [[.sl c.d 0 n 1]]∧H c.qv=.arr 1 [[c.fn]]∧H c.W=.arr 10 [[c.f0,c.f1,c.f2,c.f3,c.f4,c.f5,c.f6,c.f7,.sl c.s 0 n 1,.sl c.e 0 n 1]]∧H c.e=.arr 1 (c.us.map fun u=>[u]):=by
 have k:∀ id,(id=c.qd∨id=c.qv∨id=c.W∨id=c.e∨∃ x,x < n∧owner (c.us.getD x .any)=some id)→c.H0 id≠.dead→H id=c.H0 id:=fun id h1 h2=>h.keep id h2 (hC.wA id h1).1 (hC.wA id h1).2.1 (hC.wA id h1).2.2
 refine ⟨?_,?_,?_,?_⟩
 ·rw[k c.qd (by simp) (by rw[hC.ky]; simp),hC.ky]
 ·rw[k c.qv (by simp) (by rw[hC.xQ]; simp),hC.xQ]
 ·rw[k c.W (by simp) (by rw[hC.hW]; simp),hC.hW]
 ·rw[k c.e (by simp) (by rw[hC.he]; simp),hC.he]
theorem B0.UR (hC:B0 c n E):(c.qd≠c.qs∧c.qd≠c.d∧c.qd≠c.s)∧(c.qv≠c.qs∧c.qv≠c.d∧c.qv≠c.s)∧(c.W≠c.qs∧c.W≠c.d∧c.W≠c.s)∧(c.e≠c.qs∧c.e≠c.d∧c.e≠c.s)∧(c.d≠c.qs∧c.s≠c.qs∧c.d≠c.s∧c.s≠c.d) :=
 ⟨hC.wA _ (by simp),hC.wA _ (by simp),hC.wA _ (by simp),hC.wA _ (by simp),Ne.symm hC.ne.1,Ne.symm hC.ne.2.1,hC.ne.2.2,Ne.symm hC.ne.2.2⟩
theorem lS.row (h:lS c n H Dl St Sl u) (hC:B0 c n E) {x:Nat} (hx:x < n):ba H (c.us.getD x .any) 1 (fu (E x)):=by
 rcases hC.hu x hx with k | ⟨m,k1,k2⟩
 ·exact .inl k
 ·refine .inr ⟨m,k1,?_⟩
  have ha:=hC.wA m (.inr (.inr (.inr (.inr ⟨x,hx,by rw[k1]; rfl⟩))))
  rw[h.keep m (by rw[k2]; simp) ha.1 ha.2.1 ha.2.2]; exact k2
end
theorem A7 {l:List Nat} {i y:Nat} (h:l[i]?=some y):(fu l).getD i []=[gi (y:Int)]:=by
 simp[U8,h]
theorem O0 (a b:Int):(if b < a then b else a)=min a b:=by split <;> omega
theorem nP {l:List Int} {i:Nat} (h:i < l.length):(cb l).getD i []=[gi (dF l i)]:=by
 simp[dF,U8,h]
theorem oQ {l:List BV} {i:Nat} (h:i < l.length):(bT l).getD i []=[gw (sF l i)]:=by
 simp[sF,U8,h]
theorem Tt {l:List V} {i:Nat} (h:i < l.length):(l.map fun u=>[u]).getD i []=[l.getD i .any]:=by
 simp[U8,h]
theorem GX {id off k m:Nat} (hm:m≤k):dW 1 (.sl id off k 1) (some (gi m)) none=some (.sl id (off+m) (k - m) 1,.none,[]):=by
 simp[dW,bound,asNat,hm]
theorem Gh {id off k m:Nat} (hm:m≤k):dW 1 (.sl id off k 1) none (some (gi m))=some (.sl id off m 1,.none,[]):=by
 simp[dW,bound,asNat,hm]
def FW (n:Nat) (D:Nat→Int):Nat:=((List.range n).filter fun z=>decide (D z=0)).length
theorem filter_le {α:Type} {p q:α→Bool} : ∀ {l:List α},(∀ x∈l,p x=true→q x=true)→(l.filter p).length≤(l.filter q).length
 | [],_=>Vj _
 | a :: l,h=>by
  have ih:=filter_le (p:=p) (q:=q) (l:=l) fun x hx=>h x (by simp[hx])
  have ha:=h a (by simp)
  rw[Xb,Xb]
  cases hp:p a with
  | true=>rw[ha hp]; simp; exact ih
  | false =>
   cases hq:q a with
   | true=>simp; omega
   | false=>simpa using ih
theorem filter_lt {α:Type} {p q:α→Bool} : ∀ {l:List α},(∀ x∈l,p x=true→q x=true)→(∃ x∈l,p x=false∧q x=true)→(l.filter p).length < (l.filter q).length
 | [],_,⟨x,h,_⟩=>by simp at h
 | a :: l,h,⟨x,hx,k1,k2⟩=>by
  have ha:=h a (by simp)
  rw[Xb,Xb]
  rcases Vp.1 hx with rfl | hx
  ·have:=filter_le (p:=p) (q:=q) (l:=l) fun y hy=>h y (by simp[hy])
   rw[k1,k2]; simp; omega
  ·have ih:=filter_lt (p:=p) (q:=q) (l:=l) (fun y hy=>h y (by simp[hy])) ⟨x,hx,k1,k2⟩
   cases hp:p a with
   | true=>rw[ha hp]; simp; exact ih
   | false =>
    cases hq:q a with
    | true=>simp; omega
    | false=>simpa using ih
theorem Gz {n:Nat} {D D':Nat→Int} (h:∀ z,D z≠0→D' z≠0) {x:Nat} (hx:x < n) (h0:D x=0) (h1:D' x≠0):FW n D' < FW n D :=
 filter_lt (fun z _ hz=>by
  simp only[Vo] at hz ⊢
  exact Wc fun k=>h z k hz) ⟨x,V5.2 hx,by simp[h1],by simp[h0]⟩
set_option maxHeartbeats 16000000 in
theorem Qs {c:Cg} {n:Nat} {E:Nat→List Nat} (hC:B0 c n E) (hn:n≤100000) (S0:Nat→BV):∀ (m:Nat) (H:View) (Dl:List Int) (St:List Nat) (Sl:List BV) (x:Nat),FW n (dF Dl)≤m→(∃ u,lS c n H Dl St Sl u)→nV n E S0 (dF Dl) St (sF Sl)→x < n→dF Dl x=0 →
  aC Tryz.prog 122 [gi x,.ptr c.qs 0 0,.ptr c.qd 0 0,.aN [.ptr c.W 0 0] 0,.ptr c.qv 0 0] H fun _ H'=>∃ (Dl':List Int) (St':List Nat) (Sl':List BV),(∃ u,lS c n H' Dl' St' Sl' u)∧yT n E S0 (dF Dl) St (sF Sl) x (dF Dl') St' (sF Sl'):=by
 intro m
 induction m with
 | zero =>
  intro H Dl St Sl x hm _ _ hx h0
  have:=Gz (n:=n) (D:=dF Dl) (D':=fun _=>1) (fun _ _=>by simp) hx h0 (by simp)
  omega
 | succ m ih =>
 rintro H Dl St Sl x hm ⟨u,hJ⟩ hG hx h0
 have hEn:∀ x,x < n→∀ y∈E x,y < n:=fun x hx=>(hC.hE x hx).2
 have hnf:(n:Int) < eX:=by unfold eX; omega
 have hLs:=gI.start hnf hG hx h0
 have hstl:=Cb hLs.g.nd hLs.g.lt
 simp only[V6,Vr,VJ] at hstl
 refine aC.cut (K:=fun _ H'=>(∃ (Dl':List Int) (St':List Nat) (Sl':List BV),(∃ u,lS c n H' Dl' St' Sl' u)∧yT n E S0 (dF Dl) St (sF Sl) x (dF Dl') St' (sF Sl'))∨∃ (Dl':List Int) (Sl':List BV) (st:Nat) (rest:List (List V)),Dl'.length=n∧Sl'.length=n∧H' c.d=.arr 1 (cb Dl')∧H' c.s=.arr 1 (bT Sl') ∧
  H' c.qs=.arr 1 [[.sl st 0 St.length 1]]∧H' st=.arr 1 (fu St ++ rest)∧c.H0 st=.dead∧(∀ id,c.H0 id≠.dead→id≠c.qs→id≠c.d→id≠c.s→H' id=c.H0 id)∧yT n E S0 (dF Dl) St (sF Sl) x (dF Dl') St (sF Sl')) ?_ ?_
 rotate_left
 ·rintro r H' (h | ⟨Dl',Sl',st,rest,k1,k2,k3,k4,k5,k6,k7,k8,k9⟩)
  ·exact .inl h
  ·have hne:∀ id,c.H0 id≠.dead→id≠st:=fun id h e=>h (by rw[e]; exact k7)
   refine .inr ⟨st,1,fu St,rest,k6,Dl',St,Sl',⟨.sl st 0 St.length 1,k1,k2,?_,?_,?_,.inr ⟨st,by simp,by simp[View.set]⟩,fun id h=>?_,fun id h1 h2 h3 h4=>?_⟩,k9⟩
   ·simp only[View.set]; rw[Va (hne _ hC.live.2.1)]; exact k3
   ·simp only[View.set]; rw[Va (hne _ hC.live.2.2)]; exact k4
   ·simp only[View.set]; rw[Va (hne _ hC.live.1)]; exact k5
   ·simp only[owner,Vb] at h; rw[← h]; exact k7
   ·simp only[View.set]; rw[Va (hne _ h1)]; exact k8 id h1 h2 h3 h4
 refine aC.of mixed uO ?_
 obtain ⟨a1,a2,a3,a4⟩:=hJ.at hC
 have hq:=hJ.hq
 have hus:cH u=some St.length:=by rw[hJ.own.len,Vg]
 simp (disch:=omega) only [↓wr,seval,wq,ah,ag,ak,aa,ab,af,ai,ae,ph,hq]
 intro q ky
 simp (disch:=omega) only [↓wr,seval,wq,ah,ag,ak,aa,ab,af,ai,ae,bV]
 refine gS (hJ.own.fresh ky) (by simp[aU]) (by unfold aJ; simp; omega) (by unfold aJ; simp; omega) ?_
 intro u2 H2 o2 l2
 have hlen:(fu St ++ [[gi (x:Int)]]).length=St.length+1:=by simp
 obtain ⟨st,hu2,_⟩:=o2.sl (by rw[hlen]; omega)
 rw[hlen] at hu2
 subst hu2
 have hJ2:=hJ.push hC ky o2 l2
 have hq2:H2 c.qs=.arr 1 [[u]]:=by
  have hne:c.qs≠q:=fun e=>hJ.live hC.live.1 (by rw[e]; exact ky)
  have hs:(H.set q (.arr 1 [[gi (x:Int)]])) c.qs=H c.qs:=by simp only[View.set]; rw[Va hne]
  have:=(l2 c.qs (by rw[hs,hq]; simp) (fun e=>hC.live.1 (hJ.new _ e))).1
  rw[this,hs,hq]
 obtain ⟨⟨m1,m2,m3⟩,⟨m4,m5,m6⟩,⟨m7,m8,m9⟩,⟨m10,m11,m12⟩,m13,m14,m15,m16⟩:=hC.UR
 obtain ⟨b1,b2,b3,b4⟩:=hJ2.at hC
 have b5:=hJ2.hd
 simp only[View.set,Va m1] at b1
 simp only[View.set,Va m7] at b3
 simp only[View.set,Va m10] at b4
 simp only[View.set,Va m13] at b5
 have hdl:=hJ2.dl
 have hset:(cb Dl).set x [gi ((St.length:Int)+1)]=cb (Dl.set x ((St.length:Int)+1)):=ints_set _ _ _
 have hset2:(cb Dl).set x [gi ((St.length+1:Nat):Int)]=cb (Dl.set x ((St.length:Int)+1)):=ints_set _ _ _
 have hex:=Tt (l:=c.us) (i:=x) (by rw[hC.hl]; exact hx)
 have hux:cH (c.us.getD x .any)=some (E x).length:=by rw[(hC.hu x hx).len,Vg]
 have hus2:=hC.hl
 simp (disch:=omega) only [↓wr,seval,wq,ah,ag,ak,aa,ab,af,ai,ae,hq2,b1,b3,b4,b5,m1,m2,m7,m8,m10,m11,m13,hset,hset2,nP (l:=Dl) (i:=x) (by omega),hex,hux]
 refine ⟨hx,by omega,hx,by omega,?_⟩
 refine aZ.up (E x).length (fun i T H'=>∃ (Dl':List Int) (Tl:List Nat) (Sl':List BV) (st:Nat),lS c n H' Dl' (St ++ x :: Tl) Sl' (.sl st 0 (St ++ x :: Tl).length 1)∧gI n E S0 (dF Dl) St (sF Sl) x ((E x).take i) (dF Dl') Tl (sF Sl')∧T 0=gi x∧T 1=.ptr c.qs 0 0∧T 2=.ptr c.qd 0 0∧T 3=.aN [.ptr c.W 0 0] 0∧T 4=.ptr c.qv 0 0∧T 6=gi ((St.length+1:Nat):Int)∧T 27=c.us.getD x .any∧T 28=gi (E x).length∧T 29=gi i)
  ⟨Dl.set x ((St.length:Int)+1),[],Sl,st,by simpa using hJ2.L5 hC (Dl':=Dl.set x ((St.length:Int)+1)) (by simp[hdl]),by rw[Cy (by omega)]; exact hLs,rfl,rfl,rfl,rfl,rfl,rfl,rfl,rfl,rfl⟩ ?_
 clear b1 b2 b3 b4 b5 hJ2 hq2 ky l2 o2 hus hq a1 a2 a3 a4
 rintro i k T H' hk ⟨Dl',Tl,Sl',st,hJ',hL,t0,t1,t2,t3,t4,t6,t27,t28,t29⟩
 have hEx:=(hC.hE x hx).1
 have hdl':=hJ'.dl
 have hsl':=hJ'.sl
 obtain ⟨a1,a2,a3,a4⟩:=hJ'.at hC
 simp (disch:=omega) only [↓wr,seval,wq,ah,ag,ak,aa,ab,af,ai,ae,nf,t0,t1,t2,t3,t4,t6,t27,t28,t29]
 refine av.dec (fun hc=>?_) (fun hc=>?_)
 ·have hy:(E x)[i]?=some ((E x)[i]'(by omega)):=U9 (by omega)
  have hym:=Vi (show i < (E x).length by omega)
  have htk:(E x).take (i+1)=(E x).take i ++ [(E x)[i]'(by omega)]:=by rw[Vx,hy]; rfl
  generalize (E x)[i]'(by omega)=y at hy hym htk
  have hny:=A7 hy
  have hyn:=hEn x hx y hym
  obtain ⟨id,hu,hid⟩:=(hJ'.row hC hx).sl (by simp; omega)
  rw[Vg] at hu
  simp (disch:=omega) only [↓wr,seval,wq,ah,ag,ak,aa,ab,af,ai,ae,t0,t1,t2,t3,t4,t6,t27,t28,t29,hu,hid,hny,a1,hJ'.hd,nP (l:=Dl') (i:=y) (by omega)]
  refine ⟨by omega,by first | omega | (simp; omega),hyn,by omega,?_⟩
  refine av.eq (fun hz=>?_) (fun hz=>?_)
  ·have hmm:=Gz (n:=n) (D:=dF Dl) (D':=dF Dl') (fun z hz=>by rw[(hL.old z hz).1]; exact hz) hx h0 (by have:=hL.own.1; omega)
   simp (disch:=omega) only [↓wr,seval,wq,ah,ag,ak,aa,ab,af,ai,ae,t4,t6,a2,Cg.fn]
   refine aD.dP ((ih H' Dl' (St ++ x :: Tl) Sl' y (by omega) ⟨_,hJ'⟩ hL.g hyn hz).mono ?_)
   rintro r H5 ⟨Dl5,St5,Sl5,⟨u5,hJ5⟩,hV⟩
   obtain ⟨T5,rfl,hL5⟩:=hL.AQ hEn hnf hx h0 hym hz hV
   obtain ⟨st5,hu5,_⟩:=hJ5.own.sl (by simp; omega)
   rw[Vg] at hu5
   subst hu5
   obtain ⟨a1,a2,a3,a4⟩:=hJ5.at hC
   have hdl5:=hJ5.dl
   have hsl5:=hJ5.sl
   have e1:(cb Dl5).set x [gi (min (dF Dl5 x) (dF Dl5 y))]=cb (Dl5.set x (min (dF Dl5 x) (dF Dl5 y))):=ints_set _ _ _
   have e2:(bT Sl5).set x [gw (sF Sl5 x ||| sF Sl5 y)]=bT (Sl5.set x (sF Sl5 x ||| sF Sl5 y)):=by simp[WQ]
   simp (disch:=omega) only [↓wr,seval,wq,ah,ag,ak,aa,ab,af,ai,ae,t0,t1,t2,t3,t4,t6,t27,t28,t29,a1,a3,hJ5.hd,hJ5.hs,nP (l:=Dl5) (i:=x) (by omega),nP (l:=Dl5) (i:=y) (by omega),oQ (l:=Sl5) (i:=x) (by omega),oQ (l:=Sl5) (i:=y) (by omega),O0,e1,e2,m1,m2,m3,m7,m8,m9,m13,m14,m15,m16,sC]
   refine ⟨hx,by omega,hyn,by omega,hx,by omega,hx,by omega,hyn,by omega,hx,by omega,?_⟩
   exact aM hk (by omega) ⟨Dl5.set x (min (dF Dl5 x) (dF Dl5 y)),T5,Sl5.set x (sF Sl5 x ||| sF Sl5 y),st5,(hJ5.L5 hC (by simp[hdl5])).yx hC (by simp[hsl5]),by rw[htk,Cy (by omega),Gb (by omega)]; exact hL5,t0,t1,t2,t3,t4,t6,by first | exact t27 | (rw[hu]; exact t27),t28,rfl⟩
  ·have hL5:=hL.Qr hEn hnf hx h0 hym hz
   obtain ⟨a1,a2,a3,a4⟩:=hJ'.at hC
   have hdl6:=hJ'.dl
   have hsl6:=hJ'.sl
   have e1:(cb Dl').set x [gi (min (dF Dl' x) (dF Dl' y))]=cb (Dl'.set x (min (dF Dl' x) (dF Dl' y))):=ints_set _ _ _
   have e2:(bT Sl').set x [gw (sF Sl' x ||| sF Sl' y)]=bT (Sl'.set x (sF Sl' x ||| sF Sl' y)):=by simp[WQ]
   simp (disch:=omega) only [↓wr,seval,wq,ah,ag,ak,aa,ab,af,ai,ae,t0,t1,t2,t3,t4,t6,t27,t28,t29,a1,a3,hJ'.hd,hJ'.hs,nP (l:=Dl') (i:=x) (by omega),nP (l:=Dl') (i:=y) (by omega),oQ (l:=Sl') (i:=x) (by omega),oQ (l:=Sl') (i:=y) (by omega),O0,e1,e2,m1,m2,m3,m7,m8,m9,m13,m14,m15,m16,sC]
   refine ⟨hx,by omega,hyn,by omega,hx,by omega,hx,by omega,hyn,by omega,hx,by omega,?_⟩
   exact aM hk (by omega) ⟨Dl'.set x (min (dF Dl' x) (dF Dl' y)),Tl,Sl'.set x (sF Sl' x ||| sF Sl' y),st,(hJ'.L5 hC (by simp[hdl6])).yx hC (by simp[hsl6]),by rw[htk,Cy (by omega),Gb (by omega)]; exact hL5,t0,t1,t2,t3,t4,t6,by first | exact t27 | (rw[hu]; exact t27),t28,rfl⟩
 ·rw[Vq (by omega)] at hL
  simp (disch:=omega) only [↓wr,seval,wq,ah,ag,ak,aa,ab,af,ai,ae,t0,t1,t2,t6,a1,hJ'.hd,nP (l:=Dl') (i:=x) (by omega)]
  refine ⟨hx,by omega,?_⟩
  refine av.ne (fun hne=>?_) (fun heq=>?_)
  ·simp (disch:=omega) only [↓wr,seval,wq,ah,ag,ak,aa,ab,af,ai,ae]
   exact .inl ⟨Dl',St ++ x :: Tl,Sl',⟨_,hJ'⟩,hL.keep (by omega)⟩
  ·have hq:=hJ'.hq
   have e3:((St.length+1:Nat):Int) - 1=(St.length:Int):=by omega
   have hLl:(St ++ x :: Tl).length=St.length+(x :: Tl).length:=V6
   have hst:H' st=.arr 1 (fu (St ++ x :: Tl)):=by
    rcases hJ'.own with ⟨k1,k2,k3⟩ | ⟨w,k1,k2⟩
    ·simp at k3
    ·simp only[V.sl.injEq] at k1
     rw[k1.1]; exact k2
   have hnewst:=hJ'.new st rfl
   have hsl:dW 1 (.sl st 0 (St ++ x :: Tl).length 1) (some (gi (St.length:Int))) none=some (.sl st St.length (x :: Tl).length 1,.none,[]):=by
    rw[GX (by omega),hLl]
    congr 3 <;> omega
   have hsh:dW 1 (.sl st 0 (St ++ x :: Tl).length 1) none (some (gi (St.length:Int)))=some (.sl st 0 St.length 1,.none,[]):=Gh (by omega)
   have hlst:=Cb hL.g.nd hL.g.lt
   have hfr:=hL.fresh hnf hG
   have hpop:=hL.pop hEn hnf hx hfr (by omega)
   simp (disch:=omega) only [↓wr,seval,wq,ah,ag,ak,aa,ab,af,ai,ae,t0,t1,t2,t3,t6,hq,e3,hsl]
   refine aZ.up (Tl.length+1) (fun j T H'=>∃ (Dj:List Int) (Sj:List BV),lS c n H' Dj (St ++ x :: Tl) Sj (.sl st 0 (St ++ x :: Tl).length 1)∧dF Dj=(fun z=>if z∈(x :: Tl).take j then eX else dF Dl' z)∧sF Sj=(fun z=>if z∈(x :: Tl).take j then sF Sl' x else sF Sl' z) ∧
    T 0=gi x∧T 1=.ptr c.qs 0 0∧T 2=.ptr c.qd 0 0∧T 3=.aN [.ptr c.W 0 0] 0∧T 6=gi ((St.length+1:Nat):Int)∧T 79=.sl st St.length (Tl.length+1) 1∧T 80=gi ((Tl.length+1:Nat):Int)∧T 81=gi j) ⟨Dl',Sl',hJ',by simp,by simp,t0,t1,t2,t3,t6,rfl,rfl,rfl⟩ ?_
   clear t0 t1 t2 t3 t4 t6 t27 t28 t29 a1 a2 a3 a4 hq hst hJ' hsl
   rintro j k2 T H6 hk2 ⟨Dj,Sj,hJ6,hDj,hSj,t0,t1,t2,t3,t6,t79,t80,t81⟩
   obtain ⟨a1,a2,a3,a4⟩:=hJ6.at hC
   have hst:H6 st=.arr 1 (fu (St ++ x :: Tl)):=by
    rcases hJ6.own with ⟨k1,k2,k3⟩ | ⟨w,k1,k2⟩
    ·simp at k3
    ·simp only[V.sl.injEq] at k1
     rw[k1.1]; exact k2
   have hdlj:=hJ6.dl
   have hslj:=hJ6.sl
   simp (disch:=omega) only [↓wr,seval,wq,ah,ag,ak,aa,ab,af,ai,ae,nH,t0,t1,t2,t3,t6,t79,t80,t81]
   refine av.dec (fun hc2=>?_) (fun hc2=>?_)
   ·have hjl:j < (x :: Tl).length:=by simp; omega
    have hy:(x :: Tl)[j]?=some ((x :: Tl)[j]'hjl):=U9 hjl
    have htk:(x :: Tl).take (j+1)=(x :: Tl).take j ++ [(x :: Tl)[j]'hjl]:=by rw[Vx,hy]; rfl
    generalize (x :: Tl)[j]'hjl=y at hy htk
    have hyn:=hL.g.lt y (WJ _ (Vf hy))
    have hys:(fu (St ++ x :: Tl)).getD (St.length+j) []=[gi (y:Int)]:=A7 (by rw[VN (by omega),Nat.add_sub_cancel_left]; exact hy)
    have hsx:sF Sj x=sF Sl' x:=by rw[hSj]; simp only; split <;> rfl
    have e1:(cb Dj).set y [gi 1073741824]=cb (Dj.set y eX):=ints_set _ _ _
    have e2:(bT Sj).set y [gw (sF Sj x)]=bT (Sj.set y (sF Sj x)):=by simp[WQ]
    simp (disch:=omega) only [↓wr,seval,wq,ah,ag,ak,aa,ab,af,ai,ae,t0,t1,t2,t3,t6,t79,t80,t81,hst,hys,a1,a3,hJ6.hd,hJ6.hs,nP (l:=Dj) (i:=y) (by omega),oQ (l:=Sj) (i:=x) (by omega),oQ (l:=Sj) (i:=y) (by omega),e1,e2,m1,m2,m3,m7,m8,m9,m13,m14,m15,m16]
    refine ⟨by omega,by omega,hyn,by omega,hx,by omega,hyn,by omega,?_⟩
    have hmem:∀ z,z∈(x :: Tl).take (j+1)↔z=y∨z∈(x :: Tl).take j:=fun z=>by rw[htk,VE,VY]; exact Or.comm
    refine aM hk2 (by omega) ⟨Dj.set y eX,Sj.set y (sF Sj x),(hJ6.L5 hC (by simp[hdlj])).yx hC (by simp[hslj]),?_,?_,t0,t1,t2,t3,t6,t79,t80,rfl⟩
    ·rw[Cy (by omega),hDj]
     funext z
     simp only[jA,hmem]
     by_cases q1:z=y
     ·rw[Vd q1,Vd (.inl q1)]
     ·by_cases q2:z∈(x :: Tl).take j
      ·rw[Va q1,Vd q2,Vd (.inr q2)]
      ·rw[Va q1,Va q2,Va (fun h=>h.elim q1 q2)]
    ·rw[Gb (by omega),hsx,hSj]
     funext z
     simp only[jA,hmem]
     by_cases q1:z=y
     ·rw[Vd q1,Vd (.inl q1)]
     ·by_cases q2:z∈(x :: Tl).take j
      ·rw[Va q1,Vd q2,Vd (.inr q2)]
      ·rw[Va q1,Va q2,Va (fun h=>h.elim q1 q2)]
   ·have hj:j=Tl.length+1:=by omega
    rw[Vq (by simp; omega)] at hDj hSj
    simp (disch:=omega) only [↓wr,seval,wq,ah,ag,ak,aa,ab,af,ai,ae,t1,t6,hJ6.hq,e3,hsh]
    refine .inr ⟨Dj,Sj,st,fu (x :: Tl),hdlj,hslj,?_,?_,?_,?_,hnewst,fun id h1 h2 h3 h4=>?_,by rw[hDj,hSj]; exact hpop⟩
    ·show (H6.set c.qs _) c.d=_
     simp only[View.set]; rw[Va m13]; exact hJ6.hd
    ·show (H6.set c.qs _) c.s=_
     simp only[View.set]; rw[Va m14]; exact hJ6.hs
    ·simp[View.set]
    ·show (H6.set c.qs _) st=_
     simp only[View.set]; rw[Va (fun e=>hC.live.1 (by rw[← e]; exact hnewst)),hst]; exact Wj (cZ.arr 1) VB
    ·show (H6.set c.qs _) id=_
     simp only[View.set]; rw[Va h2]; exact hJ6.keep id h1 h2 h3 h4
def fI:SC :=
 .seq (ao [bc 9 .lss 8 7]) <|
 .seq (.cond (.tmp 9) (.skip) (.exit 0)) <|
 .seq (.block 1 (.seq (ao [aj 10 8,aj 5 10]) <|
 .seq (ao [aj 11 1,aj 12 0,aj 13 5,aP 14 2 12 13,bp 15 2 14,((some 16),.call (.tmp 11) [(.tmp 15)])]) <|
 .cond (.tmp 16) (.seq (ao [aj 17 5,aj 4 17]) <|
 .ret) (.skip))) <|
 ao [aQ 18 .add 8 1,aj 8 18]
def fT:SF:=⟨.seq (ao [bj 4 0]) <|
 .seq (.seq (ao [aj 6 0,aX 7 6,bj 8 0]) <|
 .block 0 (.loop fI)) <|
 .seq (ao [bj 4 (-1)]) <|
 .ret,
 [.tmp 4],19⟩
theorem jv:aV Tryz.prog 68 []=some fT:=by kernel_rfl
def xR:SF:=⟨.seq (ao [cL 2 0,bK 3 false]) <|
 .seq (ao [aB 4 0 2,ax 5 4,ax 6 1,bc 7 .eql 5 6,aj 3 7]) <|
 .ret,
 [.tmp 3],8⟩
theorem Bk:aV Tryz.prog 69 [2]=some xR:=by kernel_rfl
def xH:SC :=
 .seq (ao [bc 24 .lss 23 22]) <|
 .seq (.cond (.tmp 24) (.skip) (.exit 0)) <|
 .seq (.block 1 (.seq (ao [aP 25 1 21 23,ax 26 25,((some 10),.op (.alloc [(.val (.int .i64 0))])),(none,.op (.store 1 (.tmp 10) (.tmp 26)))]) <|
 .seq (ao [aj 27 0,aj 28 8,aP 29 2 27 28,aB 30 1 29,ax 31 30,((some 32),.op (.sD 69 [] [(.tmp 10)])),bC 33 68 [31,32],aj 11 33]) <|
 .seq (.seq (ao [aj 34 11,aQ 35 .lss 34 0]) <|
 .cond (.tmp 35) (.seq (ao [bj 6 0,bK 7 false]) <|
 .ret) (.skip)) <|
 .seq (ao [aj 36 0,aj 37 8,aP 38 2 36 37,aB 39 1 38,ax 40 39,aj 41 11,aP 42 2 40 41,aB 43 1 42,ax 44 43,aj 8 44]) <|
 .seq (.region false [⟨none,[aj 45 8,aQ 46 .lss 45 0,aj 47 46]⟩,⟨(some (47,false)),[aj 48 8,aj 49 0,aX 50 49,bc 51 .geq 48 50]⟩,⟨none,[c6 52 47 51]⟩]) <|
 .cond (.tmp 52) (.seq (ao [bj 6 0,bK 7 false]) <|
 .ret) (.skip))) <|
 ao [aQ 53 .add 23 1,aj 23 53]
def Az:SF:=⟨.seq (ao [bj 6 0,bK 7 false]) <|
 .seq (ao [aj 12 1,aj 8 12]) <|
 .seq (.seq (.region false [⟨none,[aj 13 8,aQ 14 .lss 13 0,aj 15 14]⟩,⟨(some (15,false)),[aj 16 8,aj 17 0,aX 18 17,bc 19 .geq 16 18]⟩,⟨none,[c6 20 15 19]⟩]) <|
 .cond (.tmp 20) (.seq (ao [bj 6 0,bK 7 false]) <|
 .ret) (.skip)) <|
 .seq (.seq (ao [aj 21 2,aX 22 21,bj 23 0]) <|
 .block 0 (.loop xH)) <|
 .seq (ao [aj 54 8,aj 6 54,bK 7 true]) <|
 .ret,
 [.tmp 6,.tmp 7],55⟩
theorem DG:aV Tryz.prog 28 []=some Az:=by kernel_rfl
set_option maxHeartbeats 2000000 in
theorem Lh (l:List dx) (hl:aS l) (f:FuncId) (cap:List V) (p:dx→Bool) (H:View) (hf:∀ x∈l,aC Tryz.prog f (.agg (jo x) :: cap) H fun r H'=>r=gb (p x)∧H'=H) :
  aC Tryz.prog 68 [.aK (fy l),.fn f [] cap] H fun r H'=>r=gi (cE p l 0)∧H'=H:=by
 refine aC.of mixed jv ?_
 unfold aS at hl
 simp (disch:=omega) only [↓wr,seval,wq,ah,ag,ak,aa,ab,af,ai,ae,fT,fy]
 refine aZ.up l.length (fun i T H'=>H=H'∧cE p (l.drop i) i=cE p l 0∧T 0=.aK (l.map jo)∧T 1=.fn f [] cap∧T 7=gi l.length∧T 8=gi i) ⟨rfl,rfl,rfl,rfl,rfl,rfl⟩ ?_
 rintro i k T _ hk ⟨rfl,hi,h0,h1,h7,h8⟩
 simp (disch:=omega) only [↓wr,seval,wq,ah,ag,ak,aa,ab,af,ai,ae,fI,h0,h1,h7,h8]
 refine av.dec (fun hc=>?_) (fun hc=>?_)
 ·have hg:l[i]?=some (l[i]'(by omega)):=U9 (by omega)
  have hm:l[i]'(by omega)∈l:=Vi _
  rw[eW (show i < l.length by omega)] at hi
  generalize l[i]'(by omega)=x at hg hm hi
  simp (disch:=omega) only [↓wr,seval,wq,ah,ag,ak,aa,ab,af,ai,ae,h0,h1,h7,h8,Vc,hg,Vh,jo]
  have hcall:=hf x hm
  simp only[jo] at hcall
  refine aD.dP (hcall.mono ?_)
  rintro r H2 ⟨rfl,rfl⟩
  simp only[cE] at hi
  simp (disch:=omega) only [↓wr,seval,wq,ah,ag,ak,aa,ab,af,ai,ae]
  refine av.split (fun hp=>?_) (fun hp=>?_)
  ·simp (disch:=omega) only [↓wr,seval,wq,ah,ag,ak,aa,ab,af,ai,ae,h0,h1,h7,h8]
   rw[← hi,Vd hp]
  ·simp (disch:=omega) only [↓wr,seval,wq,ah,ag,ak,aa,ab,af,ai,ae,h0,h1,h7,h8]
   refine aM hk (by omega) ⟨rfl,?_,h0,h1,h7,rfl⟩
   rw[Va (by simp[hp])] at hi
   push_cast; exact hi
 ·rw[VD (by omega)] at hi
  simp (disch:=omega) only [↓wr,seval,wq,ah,ag,ak,aa,ab,af,ai,ae,h0,h1,h7,h8]
  rw[← hi]; rfl
theorem PO (x:dx) (s:Int) (q:Nat) (H:View) (hq:H q=.arr 1 [[gi s]]):aC Tryz.prog 69 [.agg (jo x),.ptr q 0 0] H fun r H'=>r=gb (decide (x.sym=s))∧H'=H:=by
 refine aC.of mixed Bk ?_
 simp (disch:=omega) only [↓wr,seval,wq,ah,ag,ak,aa,ab,af,ai,ae,xR,jo,hq]
 congr 2
theorem GI (s:Int):∀ (l:List dx) (i:Int),0≤i→(cE (fun e=>decide (e.sym=s)) l i < 0→gH l s = -1)∧(0≤cE (fun e=>decide (e.sym=s)) l i→∃ (k:Nat) (e:dx),cE (fun e=>decide (e.sym=s)) l i=i+k∧l[k]?=some e∧gH l s=e.to)
 | [],i,_=>⟨fun _=>rfl,fun h=>by simp[cE] at h⟩
 | x :: l,i,h0=>by
  simp only[cE,gH,Vo]
  by_cases h:x.sym=s
  ·rw[Vd h,Vd h]
   exact ⟨fun h=>by omega,fun _=>⟨0,x,by simp,rfl,rfl⟩⟩
  ·rw[Va h,Va h]
   obtain ⟨h1,h2⟩:=GI s l (i+1) (by omega)
   refine ⟨h1,fun h=>?_⟩
   obtain ⟨k,e,k1,k2,k3⟩:=h2 h
   exact ⟨k+1,e,by rw[k1]; push_cast; omega,by simpa using k2,k3⟩
theorem O4 {l:List dx} (h:∀ e∈l,cm e.to) (s:Int):cm (gH l s):=by
 induction l with
 | nil=>unfold cm; simp[gH]
 | cons e l ih =>
  rw[gH]; split
  ·exact h e (by simp)
  ·exact ih fun x hx=>h x (by simp[hx])
set_option maxHeartbeats 8000000 in
theorem PC (a:List aR) (_:aS a) (he:∀ s∈a,aS s.bk∧∀ e∈s.bk,cm e.sym∧cm e.to) (fr:Int) (syms:List Int) (hs:aS syms):aI Tryz.prog 28 [bm a,gi fr,encI syms] (.bI [gi (fh a fr syms).1,gb (fh a fr syms).2]):=by
 unfold aS at hs
 refine aI.tree (by
  intro v hv; simp at hv
  rcases hv with rfl | rfl | rfl
  ·exact mb _
  ·exact .val _
  ·exact eP _) (yG (.val _) (.val _)) fun H=>?_
 refine aC.of mixed DG ?_
 unfold fh
 simp (disch:=omega) only [↓wr,seval,wq,ah,ag,ak,aa,ab,af,ai,ae,Az,bm,encI]
 refine av.dec (fun h1=>?_) (fun h1=>?_)
 ·simp (disch:=omega) only [↓wr,seval,wq,ah,ag,ak,aa,ab,af,ai,ae]
  rw[Vd (by omega)]
 simp (disch:=omega) only [↓wr,seval,wq,ah,ag,ak,aa,ab,af,ai,ae,bm]
 refine av.dec (fun h2=>?_) (fun h2=>?_)
 ·simp (disch:=omega) only [↓wr,seval,wq,ah,ag,ak,aa,ab,af,ai,ae]
  rw[Vd (by omega)]
 rw[Va (by omega)]
 simp (disch:=omega) only [↓wr,seval,wq,ah,ag,ak,aa,ab,af,ai,ae]
 refine aZ.up syms.length (fun i T H'=>∃ at_:Int,0≤at_∧at_ < a.length∧gT a at_ (syms.drop i)=gT a fr syms∧T 0=bm a∧T 8=gi at_∧T 21=encI syms∧T 22=gi syms.length∧T 23=gi i) ⟨fr,by omega,by omega,rfl,rfl,rfl,rfl,rfl,rfl⟩ ?_
 rintro i k T H' hk ⟨at_,q1,q2,hw,t0,t8,t21,t22,t23⟩
 simp (disch:=omega) only [↓wr,seval,wq,ah,ag,ak,aa,ab,af,ai,ae,xH,t0,t8,t21,t22,t23,encI]
 refine av.dec (fun hc=>?_) (fun hc=>?_)
 ·have hx:syms[i]?=some (syms[i]'(by omega)):=U9 (by omega)
  rw[VT (show i < syms.length by omega)] at hw
  generalize syms[i]'(by omega)=x at hx hw
  have hS:a[at_.toNat]?=some (a.getD at_.toNat bH):=getD_some (by omega)
  obtain ⟨hE1,hE2⟩:=he _ (Vf hS)
  rw[gT] at hw
  have hb:=O4 (fun e h=>(hE2 e h).2) x
  generalize a.getD at_.toNat bH=S at hS hE1 hE2 hw hb
  simp (disch:=omega) only [↓wr,seval,wq,ah,ag,ak,aa,ab,af,ai,ae,t0,t8,t21,t22,t23,encI,Vc,hx,Vh]
  intro q hq
  rw[set_set]
  have hqq:(H'.set q (.arr 1 [[gi x]])) q=.arr 1 [[gi x]]:=by simp[View.set]
  generalize H'.set q (.arr 1 [[gi x]])=H4 at hqq
  simp (disch:=omega) only [↓wr,seval,wq,ah,ag,ak,aa,ab,af,ai,ae,t0,t8,bm,Vc,hS,Vh,iO]
  refine aD.dP ((Lh S.bk hE1 69 [.ptr q 0 0] (fun e=>decide (e.sym=x)) H4 (fun e _=>PO e x q H4 hqq)).mono ?_)
  rintro r H5 ⟨rfl,rfl⟩
  obtain ⟨i1,i2⟩:=GI x S.bk 0 (by omega)
  unfold aS at hE1
  simp (disch:=omega) only [↓wr,seval,wq,ah,ag,ak,aa,ab,af,ai,ae]
  refine av.dec (fun h3=>?_) (fun h3=>?_)
  ·simp (disch:=omega) only [↓wr,seval,wq,ah,ag,ak,aa,ab,af,ai,ae]
   rw[← hw,i1 h3,Va (by omega)]
  ·obtain ⟨j,e,j1,j2,j3⟩:=i2 (by omega)
   have jl:=(Vn.1 j2).1
   rw[j1]
   have hj:((0:Int)+(j:Int))=(j:Int):=by omega
   rw[hj]
   rw[j3] at hw hb
   unfold cm at hb
   simp (disch:=omega) only [↓wr,seval,wq,ah,ag,ak,aa,ab,af,ai,ae,t0,t8,bm,Vc,hS,Vh,iO,fy,j2,jo]
   refine av.dec (fun h4=>?_) (fun h4=>?_)
   ·simp (disch:=omega) only [↓wr,seval,wq,ah,ag,ak,aa,ab,af,ai,ae]
    rw[← hw,Va (by omega)]
   ·simp (disch:=omega) only [↓wr,seval,wq,ah,ag,ak,aa,ab,af,ai,ae,t0,bm]
    refine av.dec (fun h5=>?_) (fun h5=>?_)
    ·simp (disch:=omega) only [↓wr,seval,wq,ah,ag,ak,aa,ab,af,ai,ae]
     rw[← hw,Va (by omega)]
    ·simp (disch:=omega) only [↓wr,seval,wq,ah,ag,ak,aa,ab,af,ai,ae,t0,t21,t22,t23]
     rw[Vd ⟨by omega,by omega⟩] at hw
     exact aM hk (by omega) ⟨e.to,by omega,by omega,hw,t0,rfl,t21,t22,rfl⟩
 ·simp (disch:=omega) only [↓wr,seval,wq,ah,ag,ak,aa,ab,af,ai,ae,t8]
  rw[VD (by omega),gT] at hw
  rw[← hw]
theorem nV.start {n:Nat} {E:Nat→List Nat} {S0:Nat→BV} : nV n E S0 (fun _=>0) [] S0 where
 nd:=.nil
 lt:=fun _ h=>by simp at h
 zero:=fun _ _ _=>⟨rfl,by simp⟩
 Fu:=fun _ _ h=>by simp[eX] at h
 on:=fun _ _ h=>absurd rfl h
 sound:=fun z t _ h=>⟨z,.refl,h⟩
 base:=fun _ _ _ h=>h
theorem Si (n:Nat):dF (List.replicate n 0)=fun _=>0:=by
 funext z
 simp only[dF,U8,WT]
 split <;> rfl
theorem iJ {p:Prop} [Decidable p] {k:Nat} {es:List (List V)} {o:cZ} (h:(if p then cZ.arr k es else o)=.dead):¬ p∧o=.dead:=by
 split at h
 ·simp at h
 ·rename_i hp; exact ⟨hp,h⟩
structure Sp (n:Nat) (E:Nat→List Nat) (H:View) (W s e:Nat) (us:List V) (fs:V × V × V × V × V × V × V × V):Prop where
 hW:H W=.arr 10 [[fs.1,fs.2.1,fs.2.2.1,fs.2.2.2.1,fs.2.2.2.2.1,fs.2.2.2.2.2.1,fs.2.2.2.2.2.2.1,fs.2.2.2.2.2.2.2,.sl s 0 n 1,.sl e 0 n 1]]
 he:H e=.arr 1 (us.map fun u=>[u])
 hl:us.length=n
 hu:∀ x,x < n→ba H (us.getD x .any) 1 (fu (E x))
 hE:∀ x,x < n→(E x).length≤1000000000∧∀ y∈E x,y < n
 hw:cH fs.2.2.2.2.2.2.2=some n
 ns:W≠s∧e≠s∧∀ x,x < n→owner (us.getD x .any)≠some s
set_option maxHeartbeats 16000000 in
theorem Fl {n:Nat} {E:Nat→List Nat} {H:View} {W s e:Nat} {us:List V} {fs:V × V × V × V × V × V × V × V} (hC:Sp n E H W s e us fs) (h1:1≤n) (hn:n≤100000) (Sl:List BV) (hs:H s=.arr 1 (bT Sl)) (hsl:Sl.length=n) :
  aC Tryz.prog 75 [.ptr W 0 0] H fun _ H'=>∃ Sl':List BV,Sl'.length=n∧H' s=.arr 1 (bT Sl')∧(∀ z t,z < n→((sF Sl' z).getLsbD t=true↔lp E (sF Sl) z t))∧∀ id,H id≠.dead→id≠s→H' id=H id:=by
 obtain ⟨f0,f1,f2,f3,f4,f5,f6,f7⟩:=fs
 refine aC.of mixed wa ?_
 have hW:=hC.hW
 have hw:=hC.hw
 simp only at hW hw
 simp (disch:=omega) only [↓wr,seval,wq,ah,ag,ak,aa,ab,af,ai,ae,rB,hW,hw]
 refine ⟨⟨by omega,by unfold aJ; omega,by unfold aJ; omega⟩,fun h0=>by omega,fun _ d hdd=>?_⟩
 intro qd ky qs hqs qv xQ
 obtain ⟨a1,ky⟩:=iJ ky
 obtain ⟨a2,hqs⟩:=iJ hqs
 rw[Va a2] at hqs
 obtain ⟨a3,hqs⟩:=iJ hqs
 obtain ⟨a4,xQ⟩:=iJ xQ
 obtain ⟨a5,xQ⟩:=iJ xQ
 rw[Va a5] at xQ
 obtain ⟨a6,xQ⟩:=iJ xQ
 have lw:∀ {id k es},H id=.arr k es→id≠d∧id≠qd∧id≠qs∧id≠qv:=fun {id k es} h=>by
  refine ⟨fun e=>?_,fun e=>?_,fun e=>?_,fun e=>?_⟩ <;> rw[e] at h <;> simp_all
 obtain ⟨w1,w2,w3,w4⟩:=lw hW
 obtain ⟨s1,s2,s3,s4⟩:=lw hs
 obtain ⟨e1,e2,e3,e4⟩:=lw hC.he
 simp (disch:=omega) only [↓wr,seval,wq,ah,ag,ak,aa,ab,af,ai,ae,w1,w2,w3,w4,hw]
 generalize hH0:View.set (View.set _ _ _) qv (cZ.arr 1 [[V.fn _ _ _]])=H0
 have hk:∀ id,id≠d→id≠qd→id≠qs→id≠qv→H0 id=H id:=fun id k1 k2 k3 k4=>by
  rw[← hH0]; simp only[View.set]; rw[Va k4,Va k4,Va k3,Va k2,Va k2,Va k1]
 have hqv0:H0 qv=.arr 1 [[.fn 122 [] [.ptr qs 0 0,.ptr qd 0 0,.aN [.ptr W 0 0] 0,.ptr qv 0 0]]]:=by rw[← hH0]; simp[View.set]
 have hqs0:H0 qs=.arr 1 [[.emp 1]]:=by rw[← hH0]; simp only[View.set]; rw[Va (Ne.symm a4),Va (Ne.symm a4)]; simp
 have hqd0:H0 qd=.arr 1 [[.sl d 0 n 1]]:=by rw[← hH0]; simp only[View.set]; rw[Va (Ne.symm a5),Va (Ne.symm a5),Va (Ne.symm a2)]; simp
 have hd0:H0 d=.arr 1 (cb (List.replicate n 0)):=by rw[← hH0]; simp only[View.set]; rw[Va (Ne.symm a6),Va (Ne.symm a6),Va (Ne.symm a3),Va (Ne.symm a1),Va (Ne.symm a1)]; simp
 clear hH0
 let c:Cg:=⟨qs,qd,qv,W,d,s,e,f0,f1,f2,f3,f4,f5,f6,f7,us,H0⟩
 have hou:∀ x,x < n→∀ id,owner (us.getD x .any)=some id→id≠d∧id≠qd∧id≠qs∧id≠qv:=fun x hx id ho=>by
  rcases hC.hu x hx with ⟨_,k,k2⟩ | ⟨m,k1,k2⟩
  ·rw[k2] at ho; simp[owner] at ho
  ·rw[k1] at ho; simp only[owner,Vb] at ho
   rw[← ho]; exact lw k2
 have hSC:B0 c n E:={
  ky:=hqd0
  xQ:=hqv0
  hW:=by rw[← hW]; exact hk W w1 w2 w3 w4
  he:=by rw[← hC.he]; exact hk e e1 e2 e3 e4
  hl:=hC.hl
  hu:=fun x hx=>by
   rcases hC.hu x hx with h | ⟨m,k1,k2⟩
   ·exact .inl h
   ·refine .inr ⟨m,k1,?_⟩
    obtain ⟨q1,q2,q3,q4⟩:=lw k2
    rw[← k2]; exact hk m q1 q2 q3 q4
  hE:=hC.hE
  live:=⟨by simp only[c]; rw[hqs0]; simp,by simp only[c]; rw[hd0]; simp,by simp only[c]; rw[hk s s1 s2 s3 s4,hs]; simp⟩
  ne:=⟨a3,Ne.symm s3,Ne.symm s1⟩
  wA:=fun id h=>by
   obtain ⟨n1,n2,n3⟩:=hC.ns
   rcases h with rfl | rfl | rfl | rfl | ⟨x,hx,ho⟩
   ·exact ⟨Ne.symm a2,a1,Ne.symm s2⟩
   ·exact ⟨a4,a6,Ne.symm s4⟩
   ·exact ⟨w3,w1,n1⟩
   ·exact ⟨e3,e1,n2⟩
   ·obtain ⟨q1,q2,q3,q4⟩:=hou x hx id ho
    exact ⟨q3,q1,fun e=>n3 x hx (by have e2:id=s:=e; rw[← e2]; exact ho)⟩ }
 have hJ0:lS c n H0 (List.replicate n 0) [] Sl (.emp 1):=⟨by simp,hsl,hd0,by simp only[c]; rw[hk s s1 s2 s3 s4,hs],hqs0,.nil,fun id h=>by simp[owner] at h,fun id _ _ _ _=>rfl⟩
 refine aZ.up n (fun i T H'=>∃ (Dl:List Int) (Sx:List BV) (u:V),lS c n H' Dl [] Sx u∧nV n E (sF Sl) (dF Dl) [] (sF Sx)∧(∀ z,z < i→dF Dl z=eX)∧T 2=.ptr qd 0 0∧T 4=.ptr qv 0 0∧T 17=gi n∧T 18=gi i) ⟨List.replicate n 0,Sl,.emp 1,hJ0,by rw[Si]; exact nV.start,fun z hz=>by omega,rfl,rfl,rfl,rfl⟩ ?_
 rintro i k T H' hk2 ⟨Dl,Sx,u,hJ,hG,hall,t2,t4,t17,t18⟩
 obtain ⟨b1,b2,b3,b4⟩:=hJ.at hSC
 have hdl:=hJ.dl
 have hd:=hJ.hd
 simp only[c,Cg.fn] at b1 b2 hd
 simp (disch:=omega) only [↓wr,seval,wq,ah,ag,ak,aa,ab,af,ai,ae,px,t2,t4,t17,t18]
 refine av.dec (fun hc=>?_) (fun hc=>?_)
 ·have hi:i < n:=by omega
  simp (disch:=omega) only [↓wr,seval,wq,ah,ag,ak,aa,ab,af,ai,ae,t2,t4,t17,t18,b1,hd,nP (l:=Dl) (i:=i) (by omega)]
  refine ⟨hi,by omega,?_⟩
  refine av.eq (fun hz=>?_) (fun hz=>?_)
  ·simp (disch:=omega) only [↓wr,seval,wq,ah,ag,ak,aa,ab,af,ai,ae,t4,b2]
   refine aD.dP ((Qs hSC hn (sF Sl) (FW n (dF Dl)) H' Dl [] Sx i (Vj _) ⟨u,hJ⟩ hG hi hz).mono ?_)
   rintro r H5 ⟨Dl5,St5,Sl5,⟨u5,hJ5⟩,hV⟩
   obtain ⟨rfl,hfar⟩:=hV.top hi
   simp (disch:=omega) only [↓wr,seval,wq,ah,ag,ak,aa,ab,af,ai,ae,t2,t4,t17,t18]
   refine aM hk2 (by omega) ⟨Dl5,Sl5,u5,hJ5,hV.1,fun z hz2=>?_,t2,t4,t17,rfl⟩
   by_cases e:z=i
   ·rw[e]; exact hfar
   ·have:=hall z (by omega)
    rw[(hV.2.1 z (by rw[this]; decide)).1]; exact this
  ·simp (disch:=omega) only [↓wr,seval,wq,ah,ag,ak,aa,ab,af,ai,ae,t2,t4,t17,t18]
   refine aM hk2 (by omega) ⟨Dl,Sx,u,hJ,hG,fun z hz2=>?_,t2,t4,t17,rfl⟩
   by_cases e:z=i
   ·rw[e]
    refine Wc fun hf=>?_
    obtain ⟨p,k1,_⟩:=hG.on i hi hz hf
    simp at k1
   ·exact hall z (by omega)
 ·simp (disch:=omega) only [↓wr,seval,wq,ah,ag,ak,aa,ab,af,ai,ae]
  refine ⟨Sx,hJ.sl,hJ.hs,fun z t hz=>hG.all (fun z hz=>hall z (by omega)) hz,fun id h1 h2=>?_⟩
  have q:id≠d∧id≠qd∧id≠qs∧id≠qv:=⟨fun e=>h1 (by rw[e]; exact hdd),fun e=>h1 (by rw[e]; exact ky),fun e=>h1 (by rw[e]; exact hqs),fun e=>h1 (by rw[e]; exact xQ)⟩
  obtain ⟨q1,q2,q3,q4⟩:=q
  have hkk:=hk id q1 q2 q3 q4
  rw[← hkk]
  exact hJ.keep id (by simp only[c]; rw[hkk]; exact h1) q3 q1 h2
end Gv
