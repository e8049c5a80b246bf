/-
  Part 13 of the proof: what the machine does and what the functions answer.
  Conditions: those that each lemma names.
-/
import Derived.Test.YtiophifnkakjgaaGreatSGzC3L
set_option linter.unusedSimpArgs false
set_option linter.unusedVariables false
set_option maxRecDepth 100000
set_option maxHeartbeats 20000000
namespace Gv
open Go Go.Proofs
abbrev hZ:aK:=⟨0,0⟩
def fw (l:List aK):Nat->List aK
 | 0=>[]
 | n+1=>if n=0∨l.getD n hZ≠l.getD (n - 1) hZ then fw l n ++ [l.getD n hZ] else fw l n
theorem yw (l:List aK):∀ n,n<=l.length->(∀ j,0 < j->j < n->l.getD j hZ≠l.getD (j - 1) hZ)->fw l n=l.take n
 | 0,_,_=>by simp[fw]
 | n+1,c,h=>by
  have a:=yw l n (by omega) λj h1 d=>h j h1 (by omega)
  have b:l[n]?=some (l.getD n hZ):=getD_some (by omega)
  rw[fw,Wv,a,WY,b]
  .rfl
  .by_cases e:n=0
   .exact .inl e
   .exact .inr (h n (by omega) (by omega))
def zw (l:List aK):List aK:=fw (eC l) l.length
theorem vC {l:List aK} (hp:l.Pairwise λx y=>dh y x=false):∀ n,n<=l.length->cR (fw l n)/\(∀ x,x∈fw l n↔∃ i,i < n/\l.getD i hZ=x)
 | 0,_=>by simp[fw,cR]
 | n+1,r=>by
  obtain⟨h1,f⟩:=vC hp n (by omega)
  have d:∀ i j,i < j->j < l.length->dh (l.getD j hZ) (l.getD i hZ)=false:=λi j g k=>by
   have:=List.pairwise_iff_getElem.1 hp i j (by omega) k g
   simpa [Wo,Wp k,Wp (show i < l.length by omega)] using this
  rw[fw]
  split
  .rename_i c
   refine⟨?_,λx=>?_⟩
   .rw[cR,List.pairwise_append]
    refine⟨h1,by simp,λa p b m=>?_⟩
    rw[XB] at m;subst m
    obtain⟨i,hi,rfl⟩:=(f a).1 p
    have c:l.getD n hZ≠l.getD (n - 1) hZ:=c.resolve_left (by omega)
    have o:=vE (d (n - 1) n (by omega) (by omega)) c
    rcases W5 i (n - 1) with h | h
    .have k2:=d i (n - 1) h (by omega)
     have q:¬ dh (l.getD (n - 1) hZ) (l.getD i hZ)=true:=by rw[k2];simp
     rw[gD] at o q ⊢
     omega
    .have:i=n - 1:=by omega
     subst this;exact o
   .rw[WN,f,XB]
    constructor
    .rintro (⟨i,hi,e⟩ | e)
     .exact⟨i,by omega,e⟩
     .exact⟨n,by omega,e.symm⟩
    .rintro⟨i,hi,e⟩
     rcases W5 i n with h | h
     .exact .inl ⟨i,h,e⟩
     .have:i=n:=by omega
      subst this;exact .inr e.symm
  .rename_i c
   simp only[not_or,Yu] at c
   refine⟨h1,λx=>?_⟩
   rw[f]
   constructor
   .rintro⟨i,hi,e⟩;exact⟨i,by omega,e⟩
   .rintro⟨i,hi,e⟩
    rcases W5 i n with h | h
    .exact⟨i,h,e⟩
    .have:i=n:=by omega
     subst this
     exact⟨i - 1,by omega,by rw[<-c.2];exact e⟩
theorem BT (l:List aK):cR (zw l):=(vC (z6 l) _ (by rw[jd];exact Wz _)).1
theorem qd {l:List aK} {x:aK} : x∈zw l↔x∈l:=by
 rw[zw,(vC (z6 l) _ (by rw[jd];exact Wz _)).2,<-(zN l).mem_iff,Ys]
 constructor
 .rintro⟨i,hi,e⟩
  have a:i < (eC l).length:=by rw[jd];exact hi
  exact⟨i,a,by rw[Wo,Wp a] at e;exact e⟩
 .rintro⟨i,hi,e⟩
  exact⟨i,by rw[jd] at hi;exact hi,by rw[Wo,Wp hi];exact e⟩
theorem LG {l:List aK} (h:cR l):zw l=l:=yy (BT l) h λ_=>qd
def mE (g:ag) (s:Int):Int:=if s < 0 then (g.an.length:Int) - 1 - s else s
theorem vJ (g:ag) (k:Nat):mE g (bg g k)=k:=by
 unfold mE bg;split <;> split <;> omega
theorem IY {g:ag} {s:Int} (h1:s < g.an.length):0<=mE g s/\bg g (mE g s).toNat=s:=by
 unfold mE bg;split
 .rw[Ws (by omega)];omega
 .rw[Wv (by omega)];omega
theorem KD {g:ag} {s:Int} (h:dZ g s=true):s < g.an.length/\mE g s < g.an.length+g.ax.length:=by
 unfold dZ at h
 unfold mE
 by_cases a:0<=s
 .rw[Wv a] at h
  rw[Ws (by omega)]
  simp at h
  omega
 .rw[Ws a] at h
  rw[Wv (by omega)]
  simp at h
  omega
def fY (l:List aK):List UInt8:=l.flatMap λx=>[UInt8.ofNat (x.av+1).toNat,UInt8.ofNat x.dot.toNat]
theorem O2 {a b:Nat} (c:a < 256) (d:b < 256) (h:UInt8.ofNat a=UInt8.ofNat b):a=b:=by
 have:=XG UInt8.toNat h
 simp at this
 omega
theorem ID {g:ag} (c:g.cP):∀ {a b:List aK},(∀ x∈a,c7 g x)->(∀ x∈b,c7 g x)->fY a=fY b->a=b
 | [],[],_,_,_=>rfl
 | [],y :: b,_,_,h=>by simp[fY] at h
 | x :: a,[],_,_,h=>by simp[fY] at h
 | x :: a,y :: b,i,j,h=>by
  simp only[fY,List.flatMap_cons,Xh,Xt,List.cons.injEq] at h
  obtain⟨h1,k,l⟩:=h
  have d:=i x (by simp)
  have e:=j y (by simp)
  have hr:=c.rules
  have q:=fg c d.1
  have r:=fg c e.1
  have:=d.1;have:=d.2;have:=e.1;have:=e.2
  have s:=O2 (by omega) (by omega) h1
  have k2:=O2 (by omega) (by omega) k
  have t:=ID c (λz f=>i z (by simp[f])) (λz f=>j z (by simp[f])) l
  obtain⟨m,n⟩:=x
  obtain⟨o,p⟩:=y
  simp only at *
  have:m=o:=by omega
  have:n=p:=by omega
  subst_vars;rfl
structure kc (g:ag) (a:List aR):Prop where
 first:(a.getD 0 bG).bt=[⟨-1,0⟩]
 xR:∀ s∈a,∀ e∈s.cK,(a.getD e.to.toNat bG).bt=bA g (c9 g s.bt) e.sym
theorem lA (l:List aR) (i:Nat) (c:fL) (j:Nat):((l.modify i λx=>(⟨x.bt,x.cK ++ [c]⟩:aR)).getD j bG).bt=(l.getD j bG).bt:=by
 simp only[Wo,List.getElem?_modify]
 cases l[j]? with
 | none=>rfl
 | some x =>
  by_cases e:i=j
  .subst e;simp
  .simp[e]
theorem kc.put {g:ag} {out:List aR} (h:kc g out) {at_:Nat} {s to:Int} (c:(out.getD to.toNat bG).bt=bA g (c9 g (out.getD at_ bG).bt) s):kc g (out.modify at_ λx=>(⟨x.bt,x.cK ++ [⟨s,to⟩]⟩:aR)):=by
 refine⟨by rw[lA];exact h.first,λy a e he=>?_⟩
 rw[lA]
 rcases mem_modify a with a | ⟨x,b,rfl⟩
 .exact h.xR y a e he
 .rcases WN.1 he with he | he
  .exact h.xR x (WI b) e he
  .simp at he;subst he
   rw[c,Wo,b];rfl
theorem kc.add {g:ag} {out:List aR} (h:kc g out) (h1:1<=out.length) (c:∀ s∈out,∀ e∈s.cK,0<=e.to/\e.to < out.length) (k:List aK):kc g (out ++ [⟨k,[]⟩]):=by
 have b:∀ j:Nat,j < out.length->((out ++ [(⟨k,[]⟩:aR)]).getD j bG)=out.getD j bG:=λj d=>by
  simp[Wo,WS d]
 refine⟨by rw[b 0 (by omega)];exact h.first,λy a e he=>?_⟩
 rcases WN.1 a with a | a
 .have:=c y a e he
  rw[b _ (by omega)];exact h.xR y a e he
 .simp at a;subst a;simp at he
theorem Nz (g:ag) (l:List aK) (at_:Nat) (out:List aR) (i:Nat) {j:Nat} (a:j < out.length):((dL g l at_ out i).getD j bG).bt=(out.getD j bG).bt:=by
 unfold dL
 split
 .rfl
 .split
  .rw[lA]
   simp[Wo,WS a]
  .rw[lA]
theorem kc.step {g:ag} {l:List aK} {at_ i:Nat} {out:List aR} (h:kc g out) (hi:dN g at_ i out) (c:at_ < out.length) (a:c9 g (out.getD at_ bG).bt=l):kc g (dL g l at_ out i):=by
 unfold dL
 split
 .exact h
 .split
  .refine(h.add (by omega) hi.to _).put ?_
   rw[W8]
   have d:((out ++ [(⟨bA g l (bg g i),[]⟩:aR)]).getD out.length bG).bt=bA g l (bg g i):=by
    simp[Wo]
   have e:(out ++ [(⟨bA g l (bg g i),[]⟩:aR)]).getD at_ bG=out.getD at_ bG:=by
    simp[Wo,WS c]
   rw[d,e,a]
  .rename_i j
   refine h.put ?_
   obtain⟨n,b⟩:∃ n:Nat,findD out (bA g l (bg g i))=n:=⟨(findD out (bA g l (bg g i))).toNat,by omega⟩
   obtain⟨s,h1,f⟩:=HA _ _ _ b
   rw[b,W8,Wo,h1,a]
   exact f
theorem kc.row {g:ag} (a:g.cP) {at_:Nat} {out:List aR} (h:kc g out) (hi:dN g at_ 0 out) (b:at_ < out.length):∀ n:Nat,n<=40->kc g ((List.range n).foldl (dL g (c9 g (out.getD at_ bG).bt) at_) out)/\(((List.range n).foldl (dL g (c9 g (out.getD at_ bG).bt) at_) out).getD at_ bG).bt=(out.getD at_ bG).bt
 | 0,_=>⟨h,rfl⟩
 | n+1,d=>by
  obtain⟨h1,c⟩:=kc.row a h hi b n (by omega)
  obtain⟨i1,i2,i3⟩:=dN.row (hi.nQ a b).1 (hi.nQ a b).2 hi n (by omega)
  rw[X4,X2]
  simp only[Xz,List.foldl_nil]
  refine⟨h1.step i1 (by omega) (by rw[c]),?_⟩
  rw[Nz _ _ _ _ _ (by omega),c]
theorem CF {g:ag} (a:g.cP):∀ (f at_:Nat) (out:List aR),dN g at_ 0 out->kc g out->(fZ g f at_ out).2=0->kc g (fZ g f at_ out).1
 | 0,_,out,_,h,_=>h
 | f+1,at_,out,hi,h,b=>by
  rw[fZ] at b ⊢
  split
  .rename_i c
   rw[Wv c] at b
   have hr:=dN.row (hi.nQ a c).1 (hi.nQ a c).2 hi (g.an.length+g.ax.length) (by have:=a.an;have:=a.ax;omega)
   have he:=h.row a hi c (g.an.length+g.ax.length) (by have:=a.an;have:=a.ax;omega)
   rw[show (List.range (g.an.length+g.ax.length)).foldl (dL g (c9 g (out.getD at_ bG).bt) at_) out=vZ g at_ out (g.an.length+g.ax.length) from rfl] at hr he
   split
   .rename_i d;rw[Wv d] at b;simp at b
   .rename_i d
    rw[Ws d] at b
    exact CF a f (at_+1) _ hr.1.next he.1 b
  .exact h
theorem Mt {g:ag} (b:g.cP) (h:(cn g).2=0):kc g (cn g).1:=by
 unfold cn at h ⊢
 split
 .rename_i hr
  rw[Wv hr] at h
  exact CF b 302 0 eE mU ⟨rfl,λs a e he=>by simp[eE] at a;subst a;simp at he⟩ h
 .rename_i hr
  rw[Ws hr] at h
  simp at h
theorem KA {a:List aR} {i:Nat} {e:fL} (h:e∈(a.getD i bG).cK):i < a.length/\a.getD i bG∈a:=by
 rcases W5 i a.length with hi | hi
 .exact⟨hi,WI (getD_some hi)⟩
 .rw[Wo,Xa hi] at h;simp at h
def kH (g:ag) (l:List aK) (n:Nat):List Int:=((List.range n).filter λi=>decide (bA g l (bg g i)≠[])).map λ(i:Nat)=>bg g i
theorem C0 (g:ag) (l:List aK) (n:Nat):kH g l (n+1)=if bA g l (bg g n)=[] then kH g l n else kH g l n ++ [bg g n]:=by
 unfold kH
 rw[X4,Yn,W6]
 by_cases h:bA g l (bg g n)=[]
 .rw[Wv h];simp[h]
 .rw[Ws h];simp[h]
structure mS (g:ag) (at_ i:Nat) (out:List aR):Prop where
 one:(out.map aR.bt).Nodup
 back:∀ j:Nat,0 < j->j < out.length->∃ (i:Nat) (e:fL),i < j/\e∈(out.getD i bG).cK/\e.to=j
 done:∀ j:Nat,j < at_->j < out.length->(out.getD j bG).cK.map fL.sym=kH g (c9 g (out.getD j bG).bt) (g.an.length+g.ax.length)
 here:at_ < out.length->(out.getD at_ bG).cK.map fL.sym=kH g (c9 g (out.getD at_ bG).bt) i
theorem rp (l:List aR) (i:Nat) (c:fL) (j:Nat) (hi:i < l.length):((l.modify i λx=>(⟨x.bt,x.cK ++ [c]⟩:aR)).getD j bG).cK=if i=j then (l.getD j bG).cK ++ [c] else (l.getD j bG).cK:=by
 simp only[Wo,List.getElem?_modify]
 by_cases e:i=j
 .subst e;simp[hi]
 .cases l[j]? with
  | none=>simp[e]
  | some x=>simp[e]
theorem Da (l:List aR) (i:Nat) (c:fL):(l.modify i λx=>(⟨x.bt,x.cK ++ [c]⟩:aR)).map aR.bt=l.map aR.bt:=by
 apply List.ext_getElem?
 intro j
 simp only[Ww,List.getElem?_modify]
 cases l[j]? with
 | none=>rfl
 | some x=>by_cases e:i=j <;> simp[e]
theorem mS.put {g:ag} {at_ i:Nat} {out:List aR} {to:Int} (b:at_ < out.length) (h1:(out.map aR.bt).Nodup) (h:∀ j:Nat,0 < j->j < out.length->(∃ (i:Nat) (e:fL),i < j/\e∈(out.getD i bG).cK/\e.to=j)∨(at_ < j/\to=j))
  (l:∀ j:Nat,j < at_->j < out.length->(out.getD j bG).cK.map fL.sym=kH g (c9 g (out.getD j bG).bt) (g.an.length+g.ax.length)) (m:(out.getD at_ bG).cK.map fL.sym=kH g (c9 g (out.getD at_ bG).bt) i)
  (c:bA g (c9 g (out.getD at_ bG).bt) (bg g i)≠[]):mS g at_ (i+1) (out.modify at_ λx=>(⟨x.bt,x.cK ++ [⟨bg g i,to⟩]⟩:aR)):=by
 refine⟨by rw[Da];exact h1,λj d a=>?_,λj d a=>?_,λ_=>?_⟩
 .rw[List.length_modify] at a
  rcases h j d a with ⟨k,e,f,a2,a3⟩ | ⟨f,a2⟩
  .refine⟨k,e,f,?_,a3⟩
   rw[rp _ _ _ _ b]
   split
   .exact List.mem_append_left _ a2
   .exact a2
  .refine⟨at_,⟨bg g i,to⟩,f,?_,a2⟩
   rw[rp _ _ _ _ b,Wv rfl]
   simp
 .rw[List.length_modify] at a
  rw[rp _ _ _ _ b,Ws (by omega),lA]
  exact l j d a
 .rw[rp _ _ _ _ b,Wv rfl,lA,W6,m,C0,Ws c];rfl
theorem mS.step {g:ag} {at_ i:Nat} {out:List aR} (h:mS g at_ i out) (d:at_ < out.length):mS g at_ (i+1) (dL g (c9 g (out.getD at_ bG).bt) at_ out i):=by
 unfold dL
 split
 .rename_i hm
  exact⟨h.one,h.back,h.done,λ_=>by rw[C0,Wv hm];exact h.here d⟩
 .rename_i hm
  split
  .rename_i n
   have f:∀ j:Nat,j < out.length->((out ++ [(⟨bA g (c9 g (out.getD at_ bG).bt) (bg g i),[]⟩:aR)]).getD j bG)=out.getD j bG:=λj c=>by
    simp[Wo,WS c]
   refine mS.put (by simp;omega) ?_ (λj c l=>?_) (λj c l=>?_) ?_ ?_
   .rw[W6,XV]
    refine⟨h.one,by simp,λa o b m=>?_⟩
    obtain⟨s,p,rfl⟩:=WQ.1 o
    simp at m;subst m
    exact Hy _ _ n s p
   .rcases W5 j out.length with q | q
    .obtain⟨k,e,r,a2,a3⟩:=h.back j c q
     exact .inl ⟨k,e,r,by rw[f k (by omega)];exact a2,a3⟩
    .right
     simp at l
     exact⟨by omega,by omega⟩
   .rw[f j (by omega)];exact h.done j c (by omega)
   .rw[f at_ d];exact h.here d
   .rw[f at_ d];exact hm
  .exact mS.put d h.one (λj c l=>.inl (h.back j c l)) h.done (h.here d) hm
theorem mS.row {g:ag} (a:g.cP) {at_:Nat} {out:List aR} (h:mS g at_ 0 out) (hi:dN g at_ 0 out) (he:kc g out) (b:at_ < out.length):∀ n:Nat,n<=40->mS g at_ n ((List.range n).foldl (dL g (c9 g (out.getD at_ bG).bt) at_) out)
 | 0,_=>h
 | n+1,d=>by
  have h1:=mS.row a h hi he b n (by omega)
  obtain⟨i1,i2,i3⟩:=dN.row (hi.nQ a b).1 (hi.nQ a b).2 hi n (by omega)
  obtain⟨e,c⟩:=he.row a hi b n (by omega)
  rw[X4,X2]
  simp only[Xz,List.foldl_nil]
  have:=h1.step (by omega)
  rw[c] at this
  exact this
theorem mS.next {g:ag} {at_:Nat} {out:List aR} (h:mS g at_ (g.an.length+g.ax.length) out) (hi:dN g at_ (g.an.length+g.ax.length) out):mS g (at_+1) 0 out:=by
 refine⟨h.one,h.back,λj b a=>?_,λa=>?_⟩
 .rcases W5 j at_ with q | q
  .exact h.done j q a
  .have:j=at_:=by omega
   subst this
   exact h.here a
 .have:=(hi.cK (at_+1) _ (getD_some (d:=bG) a)).2.2 (by omega)
  rw[this];simp[kH]
structure Q3 (g:ag) (a:List aR):Prop where
 one:(a.map aR.bt).Nodup
 back:∀ j:Nat,0 < j->j < a.length->∃ (i:Nat) (e:fL),i < j/\e∈(a.getD i bG).cK/\e.to=j
 all:∀ s∈a,s.cK.map fL.sym=kH g (c9 g s.bt) (g.an.length+g.ax.length)
theorem Br {g:ag} (a:g.cP):∀ (f at_:Nat) (out:List aR),302<=f+at_->dN g at_ 0 out->kc g out->mS g at_ 0 out->out.length<=300->(fZ g f at_ out).2=0->Q3 g (fZ g f at_ out).1
 | 0,at_,out,n,_,_,h,o,_=>⟨h.one,h.back,λs d=>by
   change s∈out at d
   obtain⟨j,i,e⟩:=Ys.1 d
   have:=h.done j (by omega) i
   rwa [show out.getD j bG=s by rw[Wo,Wp i];exact e] at this⟩
 | f+1,at_,out,n,hi,he,h,o,b=>by
  have p:=a.an
  have q:=a.ax
  rw[fZ] at b ⊢
  split
  .rename_i c
   rw[Wv c] at b
   have hr:=dN.row (hi.nQ a c).1 (hi.nQ a c).2 hi (g.an.length+g.ax.length) (by omega)
   have l:=he.row a hi c (g.an.length+g.ax.length) (by omega)
   have m:=h.row a hi he c (g.an.length+g.ax.length) (by omega)
   rw[show (List.range (g.an.length+g.ax.length)).foldl (dL g (c9 g (out.getD at_ bG).bt) at_) out=vZ g at_ out (g.an.length+g.ax.length) from rfl] at hr l m
   split
   .rename_i k;rw[Wv k] at b;simp at b
   .rename_i k
    rw[Ws k] at b
    exact Br a f (at_+1) _ (by omega) hr.1.next l.1 (m.next hr.1) (by omega) b
  .rename_i c
   exact⟨h.one,h.back,λs d=>by
    change s∈out at d
    obtain⟨j,i,e⟩:=Ys.1 d
    have:=h.done j (by omega) i
    rwa [show out.getD j bG=s by rw[Wo,Wp i];exact e] at this⟩
theorem L5 {g:ag} (b:g.cP) (h:(cn g).2=0):Q3 g (cn g).1:=by
 unfold cn at h ⊢
 split
 .rename_i hr
  rw[Wv hr] at h
  refine Br b 302 0 eE (by omega) mU ⟨rfl,λs a e he=>by simp[eE] at a;subst a;simp at he⟩ ⟨by simp[eE],λj h1 c=>by simp[eE] at c;omega,λj h1=>by omega,λ_=>?_⟩ (by simp[eE]) h
  simp[eE,kH]
 .rename_i hr
  rw[Ws hr] at h
  simp at h
theorem Fq (g:ag):∀ (f at_:Nat) (out:List aR),(fZ g f at_ out).2=0∨fZ g f at_ out=([],5)
 | 0,_,_=>.inl rfl
 | f+1,at_,out=>by
  rw[fZ]
  split
  .split
   .exact .inr rfl
   .exact Fq g f _ _
  .exact .inl rfl
theorem O8 (g:ag):((cn g).2=0/\isRed g=true)∨(cn g=([],5)/\isRed g=true)∨(cn g=([],1)/\isRed g=false):=by
 unfold cn
 cases h:isRed g with
 | false=>exact .inr (.inr ⟨by simp,rfl⟩)
 | true =>
  rw[Wv rfl]
  rcases Fq g 302 0 eE with h | h
  .exact .inl ⟨h,rfl⟩
  .exact .inr (.inl ⟨h,rfl⟩)
theorem wP {g:ag} (a:g.cP) {x:aK} (c:c7 g x) {s:Int} (h:bJ g x=(s,true)):dZ g s=true:=by
 obtain⟨h1,d⟩:=tO h
 have b:x.dot.toNat < (bW g x.av).length:=by have:=c.2;omega
 have hm:s∈bW g x.av:=by
  rw[<-d,Wo,Wp b];exact WA _
 unfold bW at hm
 split at hm
 .simp at hm;subst hm
  have:=a.lX;have:=a.start
  unfold dZ
  rw[Ws (by omega)]
  simp;omega
 .have e:g.rules[x.av.toNat]?=some (bT g x.av):=by unfold bT;exact getD_some (by have:=c.1;omega)
  exact a.sym _ (WI e) s hm
def jX (a:List aR) (p:Nat) (s:Int):Nat:=(rb a p [s]).1.toNat
def qL (a:List aR) (p:Nat) (s:Int):Prop:=∃ e∈(a.getD p bG).cK,e.sym=s
noncomputable abbrev zM (g:ag) (a:List aR) (p:Nat):List aK:=c9 g (a.getD p bG).bt
inductive AY (a:List aR):Nat->List Int->Nat->Prop
 | nil {p:Nat} : AY a p [] p
 | cons {p q:Nat} {s:Int} {X:List Int} : qL a p s->AY a (jX a p s) X q->AY a p (s :: X) q
theorem AY.snoc {a:List aR} {p q:Nat} {X:List Int} (h:AY a p X q) {s:Int} (he:qL a q s):AY a p (X ++ [s]) (jX a q s):=by
 induction h with
 | nil=>exact .cons he .nil
 | cons h1 _ b=>exact .cons h1 (b he)
theorem Lm {a:List aR} {p:Nat} {s:Int} (h:qL a p s):p < a.length:=by
 obtain⟨e,he,_⟩:=h;exact(KA he).1
theorem I0 {l:List fL} {s:Int} (h:∃ e∈l,e.sym=s):∃ e∈l,e.sym=s/\kO l s=e.to:=by
 induction l with
 | nil=>obtain⟨e,he,_⟩:=h;simp at he
 | cons e l c =>
  rw[kO]
  by_cases a:e.sym=s
  .rw[Wv a];exact⟨e,by simp,a,rfl⟩
  .rw[Ws a]
   obtain⟨d,h1,b⟩:=h
   rcases WK.1 h1 with rfl | h1
   .exact absurd b a
   .obtain⟨f,g,k2⟩:=c ⟨d,h1,b⟩
    exact⟨f,by simp[g],k2⟩
theorem Ra {g:ag} {i j:Nat} (h:bg g i=bg g j):i=j:=by
 have h1:=vJ g i
 rw[h,vJ] at h1
 omega
theorem Jm (g:ag) (l:List aK) (n:Nat):(kH g l n).Nodup:=by
 unfold kH
 unfold List.Nodup
 rw[List.pairwise_map]
 exact((List.nodup_range (n:=n)).filter _).imp λa e=>a (Ra e)
theorem Qv {l:List fL} (h:(l.map fL.sym).Nodup) {e:fL} (he:e∈l):kO l e.sym=e.to:=by
 induction l with
 | nil=>simp at he
 | cons x l a =>
  simp only[WZ,Xq] at h
  rw[kO]
  rcases WK.1 he with rfl | he
  .rw[Wv rfl]
  .rw[Ws (λb=>h.1 (by rw[b];exact List.mem_map_of_mem he))]
   exact a h.2 he
structure dU (g:ag) (a:List aR):Prop where
 iS:g.cP
 ok:F1 g a
 e:kc g a
 x:Q3 g a
 pos:1<=a.length
section
variable {g:ag} {a:List aR}
theorem dU.bt (h:dU g a) {p:Nat} (hp:p < a.length):∀ x∈(a.getD p bG).bt,c7 g x:=(h.ok.bt _ (WI (getD_some hp))).2.2
theorem dU.has (h:dU g a) {p:Nat} (hp:p < a.length) {x:aK} (b:x∈zM g a p):c7 g x:=((gO h.iS (h.bt hp)).1 b).has (h.bt hp)
theorem dU.xR (h:dU g a) {p:Nat} (hp:p < a.length) {s:Int} : qL a p s↔∃ x∈zM g a p,bJ g x=(s,true):=by
 have k:=h.x.all _ (WI (getD_some (d:=bG) hp))
 have e:qL a p s↔s∈((a.getD p bG).cK.map fL.sym):=by
  simp only[qL,WQ]
 rw[e,k]
 simp only[kH,WQ,XF,XA,WH]
 constructor
 .rintro⟨i,⟨hi,f⟩,rfl⟩
  obtain⟨y,l⟩:=List.exists_mem_of_ne_nil _ f
  obtain⟨x,b,c,_⟩:=sd.1 l
  exact⟨x,b,c⟩
 .rintro⟨x,b,c⟩
  obtain⟨m,n⟩:=KD (wP h.iS (h.has hp b) c)
  obtain⟨o,j⟩:=IY m
  refine⟨(mE g s).toNat,⟨by omega,?_⟩,j⟩
  rw[j]
  exact List.ne_nil_of_mem (sd.2 ⟨x,b,c,rfl⟩)
theorem dU.jX (h:dU g a) {p:Nat} {s:Int} (he:qL a p s):∃ e∈(a.getD p bG).cK,e.sym=s/\e.to=jX a p s/\jX a p s < a.length/\rb a p [s]=((jX a p s:Int),true):=by
 have hp:=Lm he
 have hm:=WI (getD_some (d:=bG) hp)
 obtain⟨e,h1,c,f⟩:=I0 he
 obtain⟨t1,t2⟩:=h.ok.to _ hm _ h1
 have hw:rb a p [s]=(e.to,true):=by
  unfold rb
  rw[Ws (by omega),l8,W8,f,Wv ⟨t1,t2⟩,l8]
 have b:((Gv.jX a p s:Nat):Int)=e.to:=by unfold Gv.jX;rw[hw];simp;omega
 exact⟨e,h1,c,b.symm,by omega,by rw[hw,b]⟩
theorem dU.VS (h:dU g a) {p:Nat} {s:Int} (he:qL a p s):(a.getD (Gv.jX a p s) bG).bt=bA g (zM g a p) s:=by
 have hm:=WI (getD_some (d:=bG) (Lm he))
 obtain⟨e,h1,b,c,_⟩:=h.jX he
 have:=h.e.xR _ hm e h1
 rw[c,W8,b] at this
 exact this
theorem dU.step (h:dU g a) {p:Nat} (hp:p < a.length) {x:aK} (b:x∈zM g a p) {s:Int} (c:bJ g x=(s,true)):qL a p s/\(⟨x.av,x.dot+1⟩:aK)∈(a.getD (Gv.jX a p s) bG).bt/\(⟨x.av,x.dot+1⟩:aK)∈zM g a (Gv.jX a p s)/\Gv.jX a p s < a.length:=by
 have he:=(h.xR hp).2 ⟨x,b,c⟩
 obtain⟨_,_,_,_,d,_⟩:=h.jX he
 have hk:(⟨x.av,x.dot+1⟩:aK)∈(a.getD (Gv.jX a p s) bG).bt:=by
  rw[h.VS he];exact sd.2 ⟨x,b,c,rfl⟩
 exact⟨he,hk,(gO h.iS (h.bt d)).2 (.base hk),d⟩
theorem dU.prev (h:dU g a) {i:Nat} (hi:i < a.length) {x:aK} (c:x∈(a.getD i bG).bt) (f:0 < i):∃ (p:Nat) (y:aK) (s:Int),p < i/\p < a.length/\y∈zM g a p/\bJ g y=(s,true)/\x=⟨y.av,y.dot+1⟩/\qL a p s/\Gv.jX a p s=i:=by
 obtain⟨p,e,hp,he,d⟩:=h.x.back i f hi
 obtain⟨b,hm⟩:=KA he
 have hk:=h.e.xR _ hm e he
 rw[d,W8] at hk
 rw[hk] at c
 obtain⟨y,j,k,rfl⟩:=sd.1 c
 have l:qL a p e.sym:=⟨e,he,rfl⟩
 refine⟨p,y,e.sym,hp,b,j,k,rfl,l,?_⟩
 have h1:=Qv (by rw[h.x.all _ hm];exact Jm _ _ _) he
 have hw:rb a p [e.sym]=(e.to,true):=by
  have:=h.ok.to _ hm _ he
  unfold rb
  rw[Ws (by omega),l8,W8,h1,Wv this,l8]
 unfold Gv.jX
 rw[hw,d];rfl
theorem TG {x:aK} {s:Int} (b:c7 g x) (h:bJ g x=(s,true)):∃ d:Nat,x.dot=d/\d < (bW g x.av).length/\(bW g x.av).drop d=s :: (bW g x.av).drop (d+1):=by
 obtain⟨h1,a⟩:=tO h
 have:=b.2
 refine⟨x.dot.toNat,by omega,by omega,?_⟩
 rw[XH (show x.dot.toNat < (bW g x.av).length by omega)]
 rw[Wo,Wp (show x.dot.toNat < (bW g x.av).length by omega)] at a
 simp at a
 rw[a]
end
section
variable {g:ag} {a:List aR}
theorem To {x:aK} {s:Int} (a:c7 g x) (h:bJ g x=(s,true)):∃ d:Nat,x.dot=d/\(bW g x.av).drop d=s :: jG g x/\(bW g x.av).drop (d+1)=jG g x:=by
 obtain⟨d,h1,b,f⟩:=TG a h
 have e:(bW g x.av).drop (d+1)=jG g x:=by
  unfold jG
  by_cases c:0<=x.av
  .rw[Wv c,h1,bW,Ws (by omega)];rfl
  .rw[Ws c]
   have hr:x.av = -1:=by have:=a.1;omega
   rw[hr] at b ⊢
   simp only[bW,if_true] at b ⊢
   exact Xb (by simp)
 exact⟨d,h1,by rw[f,e],e⟩
theorem TD (b:dU g a) {q:Nat} (c:q < a.length) {C:Int} {k:Nat} (h:0<=C) (hk:k < g.rules.length) (i:(bT g k).left=C) (he:qL a q (-1 - C)):(⟨k,0⟩:aK)∈zM g a q:=by
 obtain⟨x,d,e⟩:=(b.xR c).1 he
 have f:g.rules[k]?=some (bT g k):=by unfold bT;exact getD_some hk
 exact(gO b.iS (b.bt c)).2 (.step ((gO b.iS (b.bt c)).1 d) e (by omega) f (by omega))
end
section
variable {g:ag} {a:List aR}
end
section
variable {g:ag} {a:List aR}
end
section
variable {g:ag} {a:List aR}
end
theorem J3 {g:ag} (h:(cn g).2=0):isRed g=true/\dU g (cn g).1/\(cn g).1.length<=300:=by
 have hr:isRed g=true:=by
  rcases O8 g with ⟨_,hr⟩ | ⟨b,hr⟩ | ⟨b,hr⟩
  .exact hr
  .exact hr
  .rw[b] at h;simp at h
 have a:=vr hr
 obtain⟨c,d,e⟩:=Re a h
 exact⟨hr,⟨a,c,Mt a h,L5 a h,d⟩,e⟩
section
variable {g:ag} {a:List aR} {L:List (List UO)}
end
section
variable {g:ag} {a:List aR} {w:List Int}
end
section
variable {g:ag} {a:List aR}
end
structure bB where
 st:Nat
 it:aK
 ah:List Int
 be:List Int
def Wg:bB:=⟨0,⟨0,0⟩,[],[]⟩
def rf (x y:bB):Bool:=decide (y.st=x.st) && decide (y.it=x.it)
def kG (l:List bB) (x:bB):List bB:=if l.any (rf x)=true then l else l ++ [x]
def nU (g:ag) (x:bB) (s:Int):Nat->List bB->List bB
 | 0,l=>l
 | k+1,l=>if (bT g k).left = -1 - s then kG (nU g x s k l) ⟨x.st,⟨k,0⟩,x.ah,jG g x.it ++ x.be⟩ else nU g x s k l
def ja (g:ag) (a:List aR) (l:List bB) (x:bB):List bB :=
 if (bJ g x.it).2=true then nU g x (bJ g x.it).1 g.rules.length (kG l ⟨jX a x.st (bJ g x.it).1,⟨x.it.av,x.it.dot+1⟩,x.ah ++ [(bJ g x.it).1],x.be⟩) else l
def jJ (g:ag) (a:List aR):Nat->Nat->List bB->List bB
 | 0,_,l=>l
 | f+1,i,l=>match l[i]? with
  | none=>l
  | some x=>jJ g a f (i+1) (ja g a l x)
def me:List bB:=[⟨0,⟨-1,0⟩,[],[]⟩]
def cq (g:ag) (a:List aR):List bB:=jJ g a 90000 0 me
def en (l:List bB) (i:Nat):bB:=(l.find? λx=>decide (x.st=i)).getD Wg
def fh (g:ag) (x:aK):List Int:=(bW g x.av).drop x.dot.toNat
theorem pZ {g:ag} {x:aK} {s:Int} (a:c7 g x) (h:bJ g x=(s,true)):fh g x=s :: jG g x/\fh g ⟨x.av,x.dot+1⟩=jG g x:=by
 obtain⟨d,h1,b,c⟩:=To a h
 unfold fh
 rw[h1]
 exact⟨by rw[W8];exact b,by simp only;rw[show ((d:Int)+1).toNat=d+1 by omega];exact c⟩
section
variable {g:ag} {a:List aR}
structure Nd (g:ag) (a:List aR) (x:bB):Prop where
 lt:x.st < a.length
 it:x.it∈zM g a x.st
 EL:AY a 0 x.ah x.st
 Vh:∀ w,Sp g w (x.ah ++ (fh g x.it ++ x.be)) 0 w.length->Sp g w [-1 - g.start] 0 w.length
theorem Nd.start (b:dU g a):Nd g a ⟨0,⟨-1,0⟩,[],[]⟩:=by
 refine⟨b.pos,(gO b.iS (b.bt b.pos)).2 (.base (by rw[b.e.first];simp)),.nil,λw h=>?_⟩
 simpa [fh,bW] using h
theorem Nd.move (b:dU g a) {x:bB} (h:Nd g a x) {s:Int} (c:bJ g x.it=(s,true)):Nd g a ⟨jX a x.st s,⟨x.it.av,x.it.dot+1⟩,x.ah ++ [s],x.be⟩:=by
 obtain⟨s1,s2,d,e⟩:=b.step h.lt h.it c
 obtain⟨f1,f2⟩:=pZ (b.has h.lt h.it) c
 refine⟨e,d,h.EL.snoc s1,λw hw=>h.Vh w ?_⟩
 simp only at hw
 rw[f2] at hw
 rw[f1]
 simpa using hw
theorem Nd.av (b:dU g a) {x:bB} (h:Nd g a x) {s:Int} (c:bJ g x.it=(s,true)) {k:Nat} (hk:k < g.rules.length) (d:(bT g k).left = -1 - s):Nd g a ⟨x.st,⟨k,0⟩,x.ah,jG g x.it ++ x.be⟩:=by
 obtain⟨s1,s2,o,p⟩:=b.step h.lt h.it c
 obtain⟨f1,f2⟩:=pZ (b.has h.lt h.it) c
 have f:g.rules[k]?=some (bT g k):=by unfold bT;exact getD_some hk
 have l:=b.iS.left _ (WI f)
 refine⟨h.lt,TD b h.lt l.1 hk rfl (by rw[d];rw[show -1 - (-1 - s)=s by omega];exact s1),h.EL,λw hw=>h.Vh w ?_⟩
 have e:fh g ⟨k,0⟩=(bT g k).right:=by
  unfold fh bW
  rw[Ws (by simp only;omega)];rfl
 simp only at hw
 rw[e] at hw
 rw[f1]
 obtain⟨i,i1,i2⟩:=Sp.split hw
 obtain⟨j,m,n⟩:=Sp.split i2
 exact i1.app (.dQ _ _ _ _ _ _ (by omega) (WI f) d m n)
def G1 (x:bB):Nat:=x.st * 287+((x.it.av+1) * 7+x.it.dot).toNat
theorem Nd.small (b:dU g a) {x:bB} (h:Nd g a x):0<=x.it.av+1/\(x.it.av+1) * 7+x.it.dot < 287/\0<=x.it.dot/\x.it.dot<=6:=by
 have h1:=b.has h.lt h.it
 have:=fg b.iS h1.1
 have:=h1.1;have:=h1.2;have:=b.iS.rules
 omega
theorem key_inj (f:dU g a) {x y:bB} (i:Nd g a x) (j:Nd g a y) (h:G1 x=G1 y):y.st=x.st/\y.it=x.it:=by
 have h1:=i.small f;have l:=j.small f
 unfold G1 at h
 have k:y.st=x.st:=by omega
 have b:y.it.av=x.it.av:=by omega
 have c:y.it.dot=x.it.dot:=by omega
 refine⟨k,?_⟩
 cases d:x.it;cases e:y.it
 rw[d,e] at b c
 simp only at b c
 rw[b,c]
structure jx (g:ag) (a:List aR) (l:List bB):Prop where
 nd:∀ x∈l,Nd g a x
 one:(l.map G1).Nodup
 len:∀ (j:Nat) (x:bB),l[j]?=some x->x.ah.length<=j/\x.be.length<=6 * j
theorem jx.short (b:dU g a) (e:a.length<=300) {l:List bB} (h:jx g a l):l.length<=86100:=by
 have:=pP 86100 _ h.one λn c=>by
  obtain⟨x,d,rfl⟩:=WQ.1 c
  have h1:=h.nd x d
  have:=h1.small b;have:=h1.lt
  unfold G1
  omega
 simpa using this
def rS (l m:List bB):Prop:=∃ t,m=l ++ t
theorem rS.refl {l:List bB} : rS l l:=⟨[],by simp⟩
theorem rS.trans {l m n:List bB} (h:rS l m) (k:rS m n):rS l n:=by
 obtain⟨t,rfl⟩:=h;obtain⟨u,rfl⟩:=k;exact⟨t ++ u,by simp⟩
theorem rS.mem {l m:List bB} (h:rS l m) {x:bB} (a:x∈l):x∈m:=by
 obtain⟨t,rfl⟩:=h;exact WN.2 (.inl a)
theorem rS.at {l m:List bB} (h:rS l m) {i:Nat} (hi:i < l.length):m[i]?=l[i]?/\i < m.length:=by
 obtain⟨t,rfl⟩:=h;exact⟨WS hi,by simp;omega⟩
def CX (l:List bB) (st:Nat) (it:aK):Prop:=∃ y∈l,y.st=st/\y.it=it
theorem CX.up {l m:List bB} (h:rS l m) {st:Nat} {it:aK} (k:CX l st it):CX m st it:=by
 obtain⟨y,a,k⟩:=k;exact⟨y,h.mem a,k⟩
theorem Gk (p:dU g a) {l:List bB} (h:jx g a l) {x:bB} (k:Nd g a x) (h1:x.ah.length<=l.length) (q:x.be.length<=6 * l.length):jx g a (kG l x)/\rS l (kG l x)/\CX (kG l x) x.st x.it:=by
 unfold kG
 split
 .rename_i d
  obtain⟨y,b,o⟩:=XZ.1 d
  simp only[rf,WC,WH] at o
  exact⟨h,.refl,y,b,o⟩
 .rename_i d
  refine⟨⟨λy b=>?_,?_,λj y c=>?_⟩,⟨[x],rfl⟩,x,by simp,rfl,rfl⟩
  .rcases WN.1 b with b | b
   .exact h.nd y b
   .simp at b;subst b;exact k
  .rw[W6,XV]
   refine⟨h.one,by simp,λn r m hm e=>?_⟩
   obtain⟨y,b,rfl⟩:=WQ.1 r
   simp at hm
   subst hm
   have:=key_inj p k (h.nd y b) e.symm
   exact d (XZ.2 ⟨y,b,by simp[rf,this]⟩)
  .by_cases f:j < l.length
   .rw[WS f] at c;exact h.len j y c
   .have i:=(Wy.1 c).1
    simp at i
    have e:j=l.length:=by omega
    subst e
    simp at c
    subst c
    exact⟨h1,q⟩
theorem Ie (c:dU g a) {x:bB} (d:Nd g a x) {s:Int} (f:bJ g x.it=(s,true)):∀ (k:Nat) (l:List bB),k<=g.rules.length->jx g a l->x.ah.length<=l.length->x.be.length+6<=6 * l.length->jx g a (nU g x s k l)/\rS l (nU g x s k l)/\∀ j:Nat,j < k->(bT g j).left = -1 - s->CX (nU g x s k l) x.st ⟨j,0⟩
 | 0,l,_,h,_,_=>⟨h,.refl,λj i=>absurd i (by omega)⟩
 | k+1,l,hk,h,h1,n=>by
  obtain⟨i1,i2,i3⟩:=Ie c d f k l (by omega) h h1 n
  rw[nU]
  have hle:l.length<=(nU g x s k l).length:=by obtain⟨t,o⟩:=i2;rw[o];simp
  split
  .rename_i m
   obtain⟨f1,f2⟩:=pZ (c.has d.lt d.it) f
   have hr:(jG g x.it).length<=6:=by
    have:=fg c.iS (c.has d.lt d.it).1
    have e:=XG List.length f1
    simp[fh] at e
    omega
   obtain⟨m1,m2,m3⟩:=Gk c i1 (d.av c f (by omega) m) (by simp only;omega) (by simp only[WO];omega)
   refine⟨m1,i2.trans m2,λj i b=>?_⟩
   by_cases e:j=k
   .subst e;exact m3
   .exact(i3 j (by omega) b).up m2
  .rename_i m
   refine⟨i1,i2,λj i b=>?_⟩
   have e:j≠k:=by rintro rfl;exact m b
   exact i3 j (by omega) b
def FZ (g:ag) (a:List aR) (l:List bB) (x:bB):Prop:=∀ s,bJ g x.it=(s,true)->CX l (jX a x.st s) ⟨x.it.av,x.it.dot+1⟩/\∀ k:Nat,k < g.rules.length->(bT g k).left = -1 - s->CX l x.st ⟨k,0⟩
theorem AR (c:dU g a) {l:List bB} (h:jx g a l) {i:Nat} {x:bB} (hi:l[i]?=some x):jx g a (ja g a l x)/\rS l (ja g a l x)/\FZ g a (ja g a l x) x:=by
 have j:=h.nd x (WI hi)
 have m:=(Wy.1 hi).1
 have q:=h.len i x hi
 unfold ja
 split
 .rename_i d
  generalize e:(bJ g x.it).1=s
  have f:bJ g x.it=(s,true):=by rw[<-e,<-d]
  obtain⟨m1,m2,m3⟩:=Gk c h (j.move c f) (by simp only[WO,WD,WW];omega) (by simp only;omega)
  have hle:l.length<=(kG l ⟨jX a x.st s,⟨x.it.av,x.it.dot+1⟩,x.ah ++ [s],x.be⟩).length:=by obtain⟨t,n⟩:=m2;rw[n];simp
  obtain⟨o,k,p⟩:=Ie c j f g.rules.length _ (Wz _) m1 (by omega) (by omega)
  refine⟨o,m2.trans k,λr b=>?_⟩
  rw[f] at b
  simp only[Wx,and_true] at b
  subst b
  exact⟨m3.up k,p⟩
 .rename_i d
  exact⟨h,.refl,λs e=>absurd (by rw[e]) d⟩
theorem Cq (d:dU g a) (p:a.length<=300):∀ (f i:Nat) (l:List bB),jx g a l->i<=l.length->86101<=f+i->(∀ (j:Nat) (x:bB),j < i->l[j]?=some x->FZ g a l x)->jx g a (jJ g a f i l)/\rS l (jJ g a f i l)/\∀ x∈jJ g a f i l,FZ g a (jJ g a f i l) x
 | 0,i,l,h,hi,q,hw=>absurd (h.short d p) (by omega)
 | f+1,i,l,h,hi,q,hw=>by
  rw[jJ]
  cases e:l[i]? with
  | none =>
   have:=List.getElem?_eq_none_iff.1 e
   simp only
   refine⟨h,.refl,λx r=>?_⟩
   obtain⟨j,m⟩:=List.getElem?_of_mem r
   have u:=(Wy.1 m).1
   exact hw j x (by omega) m
  | some x =>
   simp only
   have n:=(Wy.1 e).1
   obtain⟨v,b,w⟩:=AR d h e
   have hle:l.length<=(ja g a l x).length:=by obtain⟨t,z⟩:=b;rw[z];simp
   obtain⟨A,B,C⟩:=Cq d p f (i+1) _ v (by omega) (by omega) λj y m c=>by
    by_cases o:j=i
    .subst o
     rw[(b.at n).1,e] at c
     simp at c
     subst c
     exact w
    .rw[(b.at (i:=j) (by omega)).1] at c
     intro s D
     obtain⟨E,F⟩:=hw j y (by omega) c s D
     exact⟨E.up b,λk hk G=>(F k hk G).up b⟩
   exact⟨A,b.trans B,C⟩
theorem Be (d:dU g a):jx g a me:=by
 refine⟨λx c=>?_,by simp[me],λj x b=>?_⟩
 .simp[me] at c;subst c;exact .start d
 .have:=(Wy.1 b).1
  simp[me] at this
  subst this
  simp[me] at b
  subst b
  simp
theorem Bb (b:dU g a) (c:a.length<=300):jx g a (cq g a)/\(∀ x∈cq g a,FZ g a (cq g a) x)/\CX (cq g a) 0 ⟨-1,0⟩:=by
 obtain⟨d,e,f⟩:=Cq b c 90000 0 me (Be b) (XT _) (by omega) λj x h=>absurd h (by omega)
 exact⟨d,f,⟨0,⟨-1,0⟩,[],[]⟩,e.mem (by simp[me]),rfl,rfl⟩
theorem SU (b:dU g a) (r:a.length<=300):∀ n p:Nat,p < n->p < a.length->∀ y∈zM g a p,CX (cq g a) p y:=by
 obtain⟨h1,m,t⟩:=Bb b r
 intro n
 induction n with
 | zero=>intro p hp;omega
 | succ n v =>
  intro p hp c y w
  have A:=(gO b.iS (b.bt c)).1 w
  induction A with
  | base hk =>
   by_cases d:p=0
   .subst d
    rw[b.e.first] at hk
    simp at hk
    subst hk
    exact t
   .obtain⟨q,z,s,I,B,C,D,rfl,J,E⟩:=b.prev c hk (by omega)
    obtain⟨u,hu,f,h⟩:=v q (by omega) B z C
    subst h
    have:=(m u hu s D).1
    rw[f,E] at this
    exact this
  | @step x s k R F G K o H i =>
   have j:=(gO b.iS (b.bt c)).2 F
   obtain⟨u,hu,f,h⟩:=i j
   subst h
   have hk:=(Wy.1 o).1
   have l:bT g k=R:=by unfold bT;rw[W8,Wo,o];rfl
   have:=(m u hu _ G).2 k hk (by rw[l];exact H)
   rw[f] at this
   exact this
theorem GJ (b:dU g a) (f:a.length<=300) {i:Nat} (hi:i < a.length):en (cq g a) i∈cq g a/\(en (cq g a) i).st=i/\Nd g a (en (cq g a) i):=by
 obtain⟨h1,k,l⟩:=Bb b f
 have c:∃ y,y∈zM g a i:=by
  have hk:=(b.ok.bt (a.getD i bG) (WI (getD_some hi))).2.1
  obtain⟨y,d⟩:=List.exists_mem_of_ne_nil _ hk
  exact⟨y,(gO b.iS (b.bt hi)).2 (.base d)⟩
 obtain⟨y,d⟩:=c
 obtain⟨u,hu,j,m⟩:=SU b f _ i (Nat.lt_succ_self i) hi y d
 unfold en
 cases e:(cq g a).find? λx=>decide (x.st=i) with
 | none =>
  have:=List.find?_eq_none.1 e u hu
  simp[j] at this
 | some z =>
  have h:=List.find?_some e
  have z2:=List.mem_of_find?_eq_some e
  simp at h
  exact⟨z2,h,h1.nd z z2⟩
end
theorem As {g:ag} (l:List Int):aC (dK g l).1/\(dK g l).1.length<=60:=by
 unfold dK
 split
 .split
  .unfold aC;simp
  .rename_i hk
   split
   .unfold aC;simp
   .rename_i b
    have a:=(jM (aA g) l bo).1 (by simpa using hk)
    have:=Nu a (by omega)
    unfold aC;simp only;omega
 .unfold aC;simp
theorem vS {g:ag} {a l b:List Int} (h:(dK g (a ++ l ++ b)).2=0):dK g l=(dJ g (aA g) g.ax.length l,0):=by
 unfold dK at h
 split at h
 .rename_i h1
  split at h
  .simp at h
  .rename_i e
   split at h
   .simp at h
   .rename_i f
    simp only[List.all_append,WC] at h1
    have c:=(jM (aA g) (a ++ l ++ b) bo).1 (by simpa using e)
    have d:k8 (aA g) l:=λx i=>c x (by simp[i])
    have t1:=np g g.ax.length (a ++ l ++ b) bo (rK c) j8
    have t2:=np g g.ax.length l bo (rK d) j8
    simp only[jh,iw,WO,bo] at t1 t2
    have j:(bI (aA g) l bo).2=true:=(jM _ _ _).2 d
    simp only[bo] at f
    unfold dK
    rw[Wv (by rw[WC];exact⟨h1.1,h1.2.1.2⟩),Ws (by rw[j];simp),Ws]
    simp only[bo]
    omega
 .simp at h
theorem Q8 {g:ag} {l:List Int} (h:(dK g l).2=0):bq g=true/\Sp g (dK g l).1 l 0 (dK g l).1.length/\(∀ x∈(dK g l).1,0<=x/\x < g.an.length):=by
 have h1:(bq g && l.all (dZ g))=true:=by
  unfold dK at h
  split at h
  .assumption
  .simp at h
 simp only[WC,WU] at h1
 have c:(bI (aA g) l bo).2=true:=by
  unfold dK at h
  split at h
  .split at h
   .simp at h
   .rename_i c;simpa using c
  .simp at h
 have hp:=vS (a:=[]) (l:=l) (b:=[]) (by simpa using h)
 have d:=(jM (aA g) l bo).1 c
 have e:=bK h1.1
 have f:=NM (λr hr=>(e.left r hr).1) g.ax.length l (rK d)
 rw[hp]
 refine⟨h1.1,by simpa using TX f [] [],OK e.sym f h1.2⟩
section
variable {g:ag} {a:List aR}
def Vw (g:ag) (l:List bB) (i:Nat):List Int × List Int:=((en l i).ah,fh g (en l i).it ++ (en l i).be)
def fK (g:ag) (a:List aR) (i:Nat):List Int × List Int:=Vw g (cq g a) i
structure im where
 state:Int
 len:Int
 word:List Int
def zy (g:ag) (a:List aR) (i:Nat):im:=⟨i,((dK g (fK g a i).1).1.length:Int),(dK g ((fK g a i).1 ++ (fK g a i).2)).1⟩
end
theorem Hn {g:ag} {u v:List Int} (h:(dK g (u ++ v)).2=0):(dK g u).2=0/\(dK g u).1.length<=(dK g (u ++ v)).1.length:=by
 have h1:=vS (a:=[]) (l:=u) (b:=v) (by simpa using h)
 have c:=vS (a:=[]) (l:=u ++ v) (b:=[]) (by simpa using h)
 rw[h1,c]
 refine⟨rfl,?_⟩
 simp only
 rw[iw,WO]
 omega
def ey (w:List Int) (p n:Nat) (o:List Int):List Int:=w.take p ++ (o ++ w.drop (p+n))
noncomputable def kC (g:ag) (w:List Int) (most:Int):Bool:=decide ((w.length:Int)<=most) && !(j7 g w).1
noncomputable def iN (g:ag) (w:List Int) (p:Nat) (t most:Int):List Int × Bool :=
 if p < w.length/\w.getD p 0≠t/\kC g (ey w p 1 [t]) most=true then (ey w p 1 [t],true)
 else if kC g (ey w p 0 [t]) most=true then (ey w p 0 [t],true) else ([],false)
noncomputable def gU (g:ag) (w:List Int) (p t most:Int):(List Int × Bool) × Int :=
 if gY g w=true/\(0<=p/\p<=w.length)/\(0<=t/\t < g.an.length)/\(0<=most/\most<=60) then (iN g w p.toNat t most,0) else (([],false),1)
theorem xA {g:ag} {w:List Int} : gY g w=true↔bq g=true/\w.length<=60/\∀ x∈w,0<=x/\x < g.an.length:=by
 unfold gY xH
 simp[and_assoc]
theorem DD {w:List Int} {p n:Nat} {o:List Int} {x:Int} (h:x∈ey w p n o):x∈w∨x∈o:=by
 unfold ey at h
 rcases WN.1 h with h | h
 .exact .inl (Yq h)
 .rcases WN.1 h with h | h
  .exact .inr h
  .exact .inl (List.mem_of_mem_drop h)
theorem C1 {g:ag} {w:List Int} {a:Int} (hr:bq g=true) (hw:∀ x∈w,0<=x/\x < g.an.length) (hm:a<=60) (b:(w.length:Int)<=a):j7 g w=(lV g w,0):=by
 rw[j7,Wv (xA.2 ⟨hr,by omega,hw⟩)]
theorem Ix {g:ag} {w:List Int} {a:Int} (hr:bq g=true) (hw:∀ x∈w,0<=x/\x < g.an.length) (hm:a<=60):kC g w a=true↔(w.length:Int)<=a/\lV g w=false:=by
 unfold kC
 by_cases b:(w.length:Int)<=a
 .rw[C1 hr hw hm b];simp[b]
 .simp[b]
noncomputable def qD (g:ag) (b:im) (most:Int) (n:Nat):List (List Int):=(List.range n).flatMap λ(t:Nat)=>if (iN g b.word b.len.toNat t most).2=true then [(iN g b.word b.len.toNat t most).1] else []
noncomputable def nB (g:ag) (b:im) (most:Int):List (List Int) :=
 qD g b most g.an.length
 ++ (if b.len < b.word.length/\kC g (ey b.word b.len.toNat 1 []) most=true then [ey b.word b.len.toNat 1 []] else [])
 ++ (if b.len+1 < b.word.length/\kC g (b.word.take b.len.toNat) most=true then [b.word.take b.len.toNat] else [])
theorem yF (g:ag) (b:im) (a:Int) (n:Nat):qD g b a (n+1)=qD g b a n ++ (if (iN g b.word b.len.toNat n a).2=true then [(iN g b.word b.len.toNat n a).1] else []):=by
 unfold qD
 rw[X4,List.flatMap_append]
 simp
theorem Ry (g:ag) (b:im) (a:Int):(nB g b a).length<=g.an.length+2:=by
 have h:∀ n,(qD g b a n).length<=n:=λn=>by
  induction n with
  | zero=>simp[qD]
  | succ n c =>
   rw[yF,WO]
   split <;> simp <;> omega
 have:=h g.an.length
 unfold nB
 rw[WO,WO]
 split <;> split <;> simp <;> omega
abbrev Vt:=Option Nat
section
variable {g:ag}
end
abbrev VJ:=List (List Vt)
section
variable {g:ag} {c:VJ}
end
section
variable {g:ag}
end
theorem Dd (l:List Int):((aM l).all λe=>e.length == 1 && e.all aE)=true:=by simp[Yg,aE]
theorem bp {g:ag} (d:g.Ok) {n:Nat} {w:List Int} (hr:bq g=true) (h:n<=10) (hw:w∈H8 (lV g) g.an.length n []):j7 g w=(true,0)/\w.length=n/\aC w/\∀ x∈w,ba x:=by
 obtain⟨h1,s,e,f,c⟩:=Gy _ _ _ hw
 rw[Xt] at e
 subst e
 refine⟨?_,f,by unfold aC;omega,λx a=>?_⟩
 .rw[j7,Wv,h1]
  simp only[gY,WC,WH]
  refine⟨⟨hr,by omega⟩,?_⟩
  unfold xH
  rw[WU]
  intro x a
  have:=c x a
  simpa using this
 .have:=c x a
  have b:=d.an
  unfold aC at b
  unfold ba
  omega
def qO:SF:=⟨ai [af [cJ 3 0,bc 6 false],ai [af [aa 9 1,aQ 10 9,aa 11 2,aZ 12 .gtr 10 11],bf 12 (ai [af [bc 6 false],.ret])],af [bj 14 4 3,aa 15 1,aT 16 35 [14,15],aa 13 16,dO 17 0 13,dO 18 1 13,aa 7 17,aa 8 18],af [aa 19 7,cW 20 19,aa 6 20],.ret],
 [.tmp 6],21⟩
theorem wh:aG Tryz.prog 84 [3]=some qO:=by kernel_rfl
def qS:SF:=⟨ai [af [b7 8 1],af [b7 10 2,aa 11 0,aa 12 1,((some 13),.op (.slice 1 (.tmp 11) none (some (.tmp 12)))),iR 14 1 8 10 13,aa 9 14],af [aa 15 9,aa 16 3,iR 17 1 8 15 16,aa 9 17],af [aa 18 9,aa 19 0,aa 20 1,aa 21 2,aZ 22 .add 20 21,((some 23),.op (.slice 1 (.tmp 19) (some (.tmp 22)) none)),iR 24 1 8 18 23,aa 8 24],.ret],
 [.tmp 8],25⟩
theorem wm:aG Tryz.prog 85 []=some qS:=by kernel_rfl
def nH:SF:=⟨ai [af [cJ 5 0,b7 10 1,bc 11 false],ai [.region true [⟨none,[aa 12 2,aa 13 1,aQ 14 13,aZ 15 .lss 12 14,aa 16 15]⟩,⟨(some (16,true)),[aa 17 1,aa 18 2,aY 19 1 17 18,au 20 19,aa 21 3,aZ 22 .neq 20 21]⟩,⟨none,[fe 23 16 22,aa 24 23]⟩,⟨(some (24,true)),[bj 25 4 5,aa 26 1,aa 27 2,aa 28 3,((some 29),.op (.bS 1 1 [(.val (.int .i64 0))] [(0,(.tmp 28))])),nr 30 85 [(.tmp 26),(.tmp 27),(.val (.val (.int .i64 1))),(.tmp 29)],aa 31 4,aT 32 84 [25,30,31]]⟩,⟨none,[fe 33 24 32]⟩],bf 33 (ai [af [aa 34 1,aa 35 2,aa 36 3,((some 37),.op (.bS 1 1 [(.val (.int .i64 0))] [(0,(.tmp 36))])),nr 38 85 [(.tmp 34),(.tmp 35),(.val (.val (.int .i64 1))),(.tmp 37)],aa 10 38,bc 11 true],.ret])],ai [.region true [⟨none,[bj 39 4 5,aa 40 1,aa 41 2,aa 42 3,((some 43),.op (.bS 1 1 [(.val (.int .i64 0))] [(0,(.tmp 42))])),nr 44 85 [(.tmp 40),(.tmp 41),(.val (.val (.int .i64 0))),(.tmp 43)],aa 45 4,aT 46 84 [39,44,45]]⟩],bf 46 (ai [af [aa 47 1,aa 48 2,aa 49 3,((some 50),.op (.bS 1 1 [(.val (.int .i64 0))] [(0,(.tmp 49))])),nr 51 85 [(.tmp 47),(.tmp 48),(.val (.val (.int .i64 0))),(.tmp 50)],aa 10 51,bc 11 true],.ret])],af [b7 10 1,bc 11 false],.ret],
 [.tmp 10,.tmp 11],52⟩
theorem sx:aG Tryz.prog 81 [5]=some nH:=by kernel_rfl
def qo:SF:=⟨ai [af [cJ 5 0,b7 10 1,bc 11 false,bb 12 0],ai [.region false [⟨none,[bj 15 4 5,aa 16 1,aT 17 17 [15,16],cW 18 17,aa 19 18]⟩,⟨(some (19,false)),[aa 20 2,aF 21 .lss 20 0]⟩,⟨none,[b6 22 19 21,aa 23 22]⟩,⟨(some (23,false)),[aa 24 2,aa 25 1,aQ 26 25,aZ 27 .gtr 24 26]⟩,⟨none,[b6 28 23 27,aa 29 28]⟩,⟨(some (29,false)),[aa 30 3,aF 31 .lss 30 0]⟩,⟨none,[b6 32 29 31,aa 33 32]⟩,⟨(some (33,false)),[aa 34 3,ay 35 0 5,au 36 35,aQ 37 36,aZ 38 .geq 34 37]⟩,⟨none,[b6 39 33 38,aa 40 39]⟩,⟨(some (40,false)),[aa 41 4,aF 42 .lss 41 0]⟩,⟨none,[b6 43 40 42,aa 44 43]⟩,⟨(some (44,false)),[aa 45 4,aF 46 .gtr 45 60]⟩,⟨none,[b6 47 44 46]⟩],bf 47 (ai [af [b7 10 1,bc 11 false,bb 12 1],.ret])],af [bj 49 4 5,aa 50 1,aa 51 2,aa 52 3,aa 53 4,aT 54 81 [49,50,51,52,53],aa 48 54,dO 55 0 48,dO 56 1 48,aa 13 55,aa 14 56],af [aa 57 13,aa 58 14,aa 10 57,aa 11 58,bb 12 0],.ret],
 [.tmp 10,.tmp 11,.tmp 12],59⟩
theorem vd:aG Tryz.prog 39 [5]=some qo:=by kernel_rfl
theorem RD (g:ag) (b:g.Ok) (w:List Int) (hw:aC w) (c:∀ x∈w,ba x) (m:Int):az Tryz.prog 84 [.agg (ak g),encI w,gi m] (gb (kC g w m)):=by
 refine az.val (by
  intro v a;simp at a
  rcases a with rfl | rfl | rfl
  .exact eR g _ (by simp)
  .exact aX _
  .exact .val _) λH=>?_
 have h1:=Q6 g b w hw c
 unfold kC
 generalize j7 g w=x at *
 refine ao.of mixed wh ?_
 unfold aC at hw
 simp only[ak,encS,encI] at h1
 simp(disch:=omega)only[↓wr,seval,wq,qO,encI,ak,encS]
 apply aj.dec<;>intro d
 .rw[decide_eq_false (show ¬ ((w.length:Int)<=m) by omega)]
  simp(disch:=omega)only[↓wr,seval,wq]
  rfl
 .rw[Xc (show ((w.length:Int)<=m) by omega)]
  simp(disch:=omega)only[↓wr,seval,wq,ak,encS]
  refine aq.pure h1 ?_
  simp(disch:=omega)only[↓wr,seval,wq,y7]
  rw[Xj]
theorem Qo (w:List Int) (hw:w.length<=100000) (p n:Nat) (hp:p+n<=w.length) (o:List Int) (q:o.length<=100000):cd Tryz.prog 85 [encI w,gi p,gi n,encI o] (encI (ey w p n o)):=by
 refine cd.of (by
  intro v c;simp at c
  rcases c with rfl | rfl | rfl | rfl
  .exact aX _
  .exact .val _
  .exact .val _
  .exact aX _) ?_
 refine ao.of mixed wm ?_
 have b:=wC (l:=w) (k:=p) (by omega)
 have a:=vw (l:=w) (k:=p+n) (by omega)
 rw[Int.natCast_add] at a
 simp(disch:=omega)only[↓wr,seval,wq,qS,encI,b,a]
 refine iv (es:=[]) .nil (Dd (w.take p)) (by unfold aD;simp;omega) (by unfold aD;simp;omega) ?_
 rintro u H1 d -
 simp(disch:=omega)only[↓wr,seval,wq,b,a]
 refine iv d (Dd o) (by unfold aD;simp;omega) (by unfold aD;simp;omega) ?_
 rintro r s g -
 simp(disch:=omega)only[↓wr,seval,wq,b,a]
 refine iv g (Dd (w.drop (p+n))) (by unfold aD;simp;omega) (by unfold aD;simp;omega) ?_
 rintro h i j -
 simp(disch:=omega)only[↓wr,seval,wq,b,a]
 intro t m
 refine du.DJ (sz:=1) (f:=λx:Int=>.int .i64 x) ?_
 rw[m]
 have e:aM (ey w p n o)=[] ++ aM (w.take p) ++ aM o ++ aM (w.drop (p+n)):=by unfold ey;simp
 show aH i h 1 (aM (ey w p n o))
 rw[e]
 exact j
def HH (x:List Int × Bool):V:=.aO [encI x.1,gb x.2]
theorem s6 (x:List Int × Bool):Tree (HH x):=yE (aX _) (.val _)
theorem OA {w:List Int} {p n:Nat} {t:Int} (a:∀ x∈w,ba x) (b:ba t):∀ x∈ey w p n [t],ba x:=λx c=>by
 rcases DD c with h | h
 .exact a x h
 .simp at h;subst h;exact b
theorem Fi {w:List Int} {p n:Nat} {t:Int} (hw:w.length<=1000):aC (ey w p n [t]):=by
 unfold aC ey
 simp
 omega
theorem zk {h:Heap} {u v:V} {b:Bool} (hu:Fr h u v):Fr h (.aO [u,gb b]) (.aO [v,gb b]):=.aO _ _ rfl λi hi=>by
 match i,hi with
 | 0,_=>exact hu
 | 1,_=>exact .tree _ (.val _)
theorem Jf (g:ag) (u:g.Ok) (w:List Int) (hw:w.length<=1000) (y:∀ x∈w,ba x) (p:Nat) (hp:p<=w.length) (t:Int) (z:ba t) (m:Int) :
  az Tryz.prog 81 [.agg (ak g),encI w,gi p,gi t,gi m] (HH (iN g w p t m)):=by
 refine az.of (by
  intro v r;simp at r
  rcases r with rfl | rfl | rfl | rfl | rfl
  .exact eR g _ (by simp)
  .exact aX _
  .exact .val _
  .exact .val _
  .exact .val _) ?_
 have a:=λn (h:p+n<=w.length)=>Qo w (by omega) p n h [t] (by simp)
 have b:=λn=>RD g u (ey w p n [t]) (Fi hw) (OA y z) m
 have o:p < w.length->w[p]?=some (w.getD p 0):=λh=>getD_some h
 unfold iN
 refine ao.of mixed sx ?_
 simp only[ak,encS] at b
 simp(disch:=omega)only[↓wr,seval,wq,nH,encI,ak,encS]
 apply aj.dec<;>intro A
 .have j:p < w.length:=by omega
  have o:=o j
  generalize w.getD p 0=x at o
  simp(disch:=omega)only[↓wr,seval,wq,encI,Ww,o,WL]
  apply aj.ne<;>intro d
  .simp(disch:=omega)only[↓wr,seval,wq,encI,ak,encS]
   intro q0;try intro B
   refine aq.iM (a 1 (by omega)) (by kernel_rfl) ⟨.tree (aX w),.tree (.val _),.tree (.val _),.kE (l:=[t]) aH.new,trivial⟩ ?_
   simp(disch:=omega)only[↓wr,seval,wq,ak,encS]
   refine aq.pure (b 1) ?_
   simp(disch:=omega)only[↓wr,seval,wq]
   apply aj.split<;>intro e
   .simp(disch:=omega)only[↓wr,seval,wq,encI]
    intro q;try intro f
    refine aq.iM (a 1 (by omega)) (by kernel_rfl) ⟨.tree (aX w),.tree (.val _),.tree (.val _),.kE (l:=[t]) aH.new,trivial⟩ ?_
    simp(disch:=omega)only[↓wr,seval,wq]
    intro i _
    rw[Wv ⟨j,d,e⟩]
    exact .tree _ (s6 (_,true))
   .skip
    simp(disch:=omega)only[↓wr,seval,wq,encI,ak,encS]
    intro s;try intro k
    refine aq.iM (a 0 (by omega)) (by kernel_rfl) ⟨.tree (aX w),.tree (.val _),.tree (.val _),.kE (l:=[t]) aH.new,trivial⟩ ?_
    simp(disch:=omega)only[↓wr,seval,wq,ak,encS]
    refine aq.pure (b 0) ?_
    simp(disch:=omega)only[↓wr,seval,wq]
    apply aj.split<;>intro c
    .simp(disch:=omega)only[↓wr,seval,wq,encI]
     intro q;try intro f
     refine aq.iM (a 0 (by omega)) (by kernel_rfl) ⟨.tree (aX w),.tree (.val _),.tree (.val _),.kE (l:=[t]) aH.new,trivial⟩ ?_
     simp(disch:=omega)only[↓wr,seval,wq]
     intro i _
     rw[Ws (λh=>by rw[e] at h;simp at h),Wv c]
     exact .tree _ (s6 (_,true))
    .simp(disch:=omega)only[↓wr,seval,wq]
     intro i _
     rw[Ws (λh=>by rw[e] at h;simp at h),Ws (by rw[c];simp)]
     exact zk (.emp 1)
  .skip
   simp(disch:=omega)only[↓wr,seval,wq,encI,ak,encS]
   intro s;try intro k
   refine aq.iM (a 0 (by omega)) (by kernel_rfl) ⟨.tree (aX w),.tree (.val _),.tree (.val _),.kE (l:=[t]) aH.new,trivial⟩ ?_
   simp(disch:=omega)only[↓wr,seval,wq,ak,encS]
   refine aq.pure (b 0) ?_
   simp(disch:=omega)only[↓wr,seval,wq]
   apply aj.split<;>intro c
   .simp(disch:=omega)only[↓wr,seval,wq,encI]
    intro q;try intro f
    refine aq.iM (a 0 (by omega)) (by kernel_rfl) ⟨.tree (aX w),.tree (.val _),.tree (.val _),.kE (l:=[t]) aH.new,trivial⟩ ?_
    simp(disch:=omega)only[↓wr,seval,wq]
    intro i _
    rw[Ws (λh=>h.2.1 d),Wv c]
    exact .tree _ (s6 (_,true))
   .simp(disch:=omega)only[↓wr,seval,wq]
    intro i _
    rw[Ws (λh=>h.2.1 d),Ws (by rw[c];simp)]
    exact zk (.emp 1)
 .skip
  simp(disch:=omega)only[↓wr,seval,wq,encI,ak,encS]
  intro s;try intro k
  refine aq.iM (a 0 (by omega)) (by kernel_rfl) ⟨.tree (aX w),.tree (.val _),.tree (.val _),.kE (l:=[t]) aH.new,trivial⟩ ?_
  simp(disch:=omega)only[↓wr,seval,wq,ak,encS]
  refine aq.pure (b 0) ?_
  simp(disch:=omega)only[↓wr,seval,wq]
  apply aj.split<;>intro c
  .simp(disch:=omega)only[↓wr,seval,wq,encI]
   intro q;try intro f
   refine aq.iM (a 0 (by omega)) (by kernel_rfl) ⟨.tree (aX w),.tree (.val _),.tree (.val _),.kE (l:=[t]) aH.new,trivial⟩ ?_
   simp(disch:=omega)only[↓wr,seval,wq]
   intro i _
   rw[Ws (λh=>by omega),Wv c]
   exact .tree _ (s6 (_,true))
  .simp(disch:=omega)only[↓wr,seval,wq]
   intro i _
   rw[Ws (λh=>by omega),Ws (by rw[c];simp)]
   exact zk (.emp 1)
def qG (x:(List Int × Bool) × Int):V:=.aO [encI x.1.1,gb x.1.2,gi x.2]
theorem JX {h:Heap} {u v:V} {b:Bool} {e:Int} (hu:Fr h u v):Fr h (.aO [u,gb b,gi e]) (.aO [v,gb b,gi e]):=.aO _ _ rfl λi hi=>by
 match i,hi with
 | 0,_=>exact hu
 | 1,_=>exact .tree _ (.val _)
 | 2,_=>exact .tree _ (.val _)
theorem NT (g:ag) (c:g.Ok) (w:List Int) (hw:aC w) (e:∀ x∈w,ba x) (p t m:Int) (i:ba t) :
  az Tryz.prog 39 [.agg (ak g),encI w,gi p,gi t,gi m] (qG (gU g w p t m)):=by
 refine az.of (by
  intro v f;simp at f
  rcases f with rfl | rfl | rfl | rfl | rfl
  .exact eR g _ (by simp)
  .exact aX _
  .exact .val _
  .exact .val _
  .exact .val _) ?_
 have h1:=E1 g c w hw e
 have bad:¬ (gY g w=true/\(0<=p/\p<=w.length)/\(0<=t/\t < g.an.length)/\(0<=m/\m<=60))->∀ h:Heap,Fr h (.aO [.emp 1,gb false,gi 1]) (qG (gU g w p t m)):=λj h=>by
  unfold gU
  rw[Ws j]
  exact JX (.emp 1)
 have r:=c.an
 refine ao.of mixed vd ?_
 simp only[ak,encS,encI] at h1
 unfold aC at hw
 simp(disch:=omega)only[↓wr,seval,wq,qo,encI,ak,encS]
 refine aq.pure h1 ?_
 simp(disch:=omega)only[↓wr,seval,wq,ak,encS]
 apply aj.split<;>intro b
 rotate_left
 .simp(disch:=omega)only[↓wr,seval,wq]
  exact λa _=>bad (λh=>by rw[b] at h;simp at h) a
 simp(disch:=omega)only[↓wr,seval,wq,encI,ak,encS]
 apply aj.dec<;>intro c1
 .simp(disch:=omega)only[↓wr,seval,wq]
  exact λa _=>bad (λh=>by omega) a
 simp(disch:=omega)only[↓wr,seval,wq,encI,ak,encS]
 apply aj.dec<;>intro c2
 .simp(disch:=omega)only[↓wr,seval,wq]
  exact λa _=>bad (λh=>by omega) a
 simp(disch:=omega)only[↓wr,seval,wq,encI,ak,encS]
 apply aj.dec<;>intro k
 .simp(disch:=omega)only[↓wr,seval,wq]
  exact λa _=>bad (λh=>by omega) a
 simp(disch:=omega)only[↓wr,seval,wq,encI,ak,encS]
 apply aj.dec<;>intro l
 .simp(disch:=omega)only[↓wr,seval,wq]
  exact λa _=>bad (λh=>by omega) a
 simp(disch:=omega)only[↓wr,seval,wq,encI,ak,encS]
 apply aj.dec<;>intro n
 .simp(disch:=omega)only[↓wr,seval,wq]
  exact λa _=>bad (λh=>by omega) a
 simp(disch:=omega)only[↓wr,seval,wq,encI,ak,encS]
 apply aj.dec<;>intro o
 .simp(disch:=omega)only[↓wr,seval,wq]
  exact λa _=>bad (λh=>by omega) a
 simp(disch:=omega)only[↓wr,seval,wq,encI,ak,encS]
 have q:=(xA.1 b).2.1
 have d:=Jf g c w (by omega) e p.toNat (by omega) t i m
 rw[show ((p.toNat:Nat):Int)=p by omega] at d
 unfold gU
 rw[Wv ⟨b,by omega,by omega,by omega⟩]
 generalize iN g w p.toNat t m=x at *
 simp only[ak,encS,encI] at d
 refine aq.pure d ?_
 simp(disch:=omega)only[↓wr,seval,wq,HH]
 exact λa _=>JX (.tree _ (aX x.1))
def gj:List bB->Int->Nat->Int
 | [],_,_=>-1
 | x :: l,i,n=>if (x.st:Int)=i then n else gj l i (n+1)
theorem BH (i:Int):∀ (l:List bB) (n:Nat) (x:bB),gj (l ++ [x]) i n=if gj l i n < 0 then (if (x.st:Int)=i then ((n+l.length:Nat):Int) else -1) else gj l i n
 | [],n,x=>by simp[gj]
 | y :: l,n,x=>by
  rw[Xh,gj,gj]
  split
  .rw[Ws (by omega)]
  .rw[BH i l (n+1) x]
   split
   .split
    .simp only[WD];congr 1;omega
    .rfl
   .rfl
theorem Al (i:Nat):∀ (l:List bB) (n:Nat),(∃ x∈l,x.st=i)->∃ k:Nat,gj l i n=((n+k:Nat):Int)/\k < l.length/\l[k]?=some (en l i)
 | [],_,h=>by obtain⟨x,a,_⟩:=h;simp at a
 | y :: l,n,h=>by
  rw[gj]
  by_cases e:y.st=i
  .rw[Wv (by omega)]
   exact⟨0,rfl,by simp,by simp[en,e]⟩
  .rw[Ws (by omega)]
   obtain⟨x,a,hi⟩:=h
   have b:x∈l:=by
    rcases WK.1 a with rfl | a
    .exact absurd hi e
    .exact a
   obtain⟨k,h1,d,c⟩:=Al i l (n+1) ⟨x,b,hi⟩
   refine⟨k+1,by rw[h1];congr 1;omega,by simp only[WD];omega,?_⟩
   rw[Xl,c]
   simp[en,e]
theorem Nv (us:List (List Int)) (w:us.flatten.length<=1000000) (hu:us.length<=1000):cd Tryz.prog 68 [.aL (Sv us)] (encI us.flatten):=by
 have d:∀ i,(us.take i).flatten.length<=1000000:=λi=>by
  have:=Yo i us
  have b:us.flatten=(us.take i).flatten ++ (us.drop i).flatten:=by rw[<-List.flatten_append,this]
  rw[b,WO] at w;omega
 refine cd.of (by intro v g;simp at g;subst g;exact eK _ _ λx _ v g=>by simp at g;subst g;exact aX x) ?_
 refine ao.of mixed oP ?_
 simp(disch:=omega)only[↓wr,seval,wq,km]
 refine bk.up us.length (λi T H'=>H'=(λ_=>.dead)/\T 0=.aL (Sv us)/\T 3=gi (us.take i).flatten.length/\T 9=.aL (Sv us)/\T 10=gi us.length/\T 11=gi i) ⟨rfl,rfl,rfl,rfl,rfl,rfl⟩ ?_
 rintro i k T H1 hk ⟨rfl,t0,t3,t9,t10,t11⟩
 simp(disch:=omega)only[↓wr,seval,wq,jO,t0,t3,t9,t10,t11]
 apply aj.dec<;>intro hi
 .have b:us[i]?=some (us[i]'(by omega)):=Wp (by omega)
  have a:us.take (i+1)=us.take i ++ [us[i]'(by omega)]:=by rw[WY,b];rfl
  have c:=d (i+1)
  generalize us[i]'(by omega)=x at b a
  rw[a] at c
  simp only[List.flatten_append,List.flatten_cons,List.flatten_nil,Xe,WO] at c
  simp(disch:=omega)only[↓wr,seval,wq,t0,t3,t9,t10,t11,Ww,b,WL,encI]
  refine aj.dec (λh=>absurd h (by omega)) (λ_=>?_)
  simp(disch:=omega)only[↓wr,seval,wq,t0,t3,t9,t10,t11]
  refine aJ hk (by omega) ⟨rfl,t0,?_,t9,t10,rfl⟩
  rw[a,List.flatten_append,WO,List.flatten_cons,List.flatten_nil,Xe]
  push_cast
  rfl
 .simp(disch:=omega)only[↓wr,seval,wq,t0,t3,t9,t10,t11]
  have e:us.take i=us:=WT (by omega)
  rw[e]
  refine aq.bX ((LX _ w _).mono ?_)
  intro r y hr
  have j:FQ y r []:=by
   rcases hr with ⟨_,rfl,rfl⟩ | ⟨_,m,es,hm,rfl,rfl⟩
   .exact .inl .nil
   .exact .inr ⟨rfl,m,es,rfl,by simp[View.set]⟩
  have l:us.flatten.length=0->aH y r 1 (aM []):=λo=>by
   rcases hr with ⟨_,rfl,_⟩ | ⟨h1,_⟩
   .exact .nil
   .omega
  simp(disch:=omega)only[↓wr,seval,wq,t0,t3,t9,t10,t11]
  refine bk.up us.length (λi T H'=>∃ u,T 6=u/\FQ H' u (us.take i).flatten/\(us.flatten.length=0->aH H' u 1 (aM (us.take i).flatten))/\T 25=.aL (Sv us)/\T 26=gi us.length/\T 27=gi i) ⟨r,rfl,j,l,rfl,rfl,rfl⟩ ?_
  rintro i k T z hk ⟨u,t6,p,q,t25,t26,t27⟩
  simp(disch:=omega)only[↓wr,seval,wq,jQ,t6,t25,t26,t27]
  apply aj.dec<;>intro hi
  .have b:us[i]?=some (us[i]'(by omega)):=Wp (by omega)
   have a:us.take (i+1)=us.take i ++ [us[i]'(by omega)]:=by rw[WY,b];rfl
   have c:=d (i+1)
   generalize us[i]'(by omega)=x at b a
   rw[a,List.flatten_append,WO,List.flatten_cons,List.flatten_nil,Xe] at c
   simp(disch:=omega)only[↓wr,seval,wq,t6,t25,t26,t27,Ww,b,WL,encI,ug]
   refine Mj p (by unfold aD;omega) (by unfold aD;omega) rfl ?_
   intro u' A s t B
   simp(disch:=omega)only[↓wr,seval,wq,t6,t25,t26,t27]
   refine aJ hk (by omega) ⟨u',rfl,?_,λo=>?_,t25,t26,rfl⟩
   .rw[a];simpa using s
   .rw[a];simpa using t (q o)
  .simp(disch:=omega)only[↓wr,seval,wq,t6,t25,t26,t27]
   have e:us.take i=us:=WT (by omega)
   rw[e] at p q
   intro C g
   refine du.DJ (sz:=1) (f:=λn=>.int .i64 n) ?_
   rw[g]
   rcases p with p | ⟨o,m,es,rfl,hm⟩
   .exact p
   .have:=q (by rw[o];rfl)
    rw[o] at this ⊢;exact this
def A6 (v:V) (l:List Int):Prop:=v=encI l∨(l=[]/\v=.emp 1)
theorem A6.mK {v:V} {l:List Int} (h:A6 v l) {H:View} : cg H v (encI l):=by
 rcases h with rfl | ⟨rfl,rfl⟩
 .exact .tree (aX l)
 .exact λ_ _=>.emp 1
theorem A6.fF {v:V} {l:List Int} (h:A6 v l):aE v=true/\V.cells v=[v]/\Tree v:=by
 rcases h with rfl | ⟨rfl,rfl⟩
 .exact⟨rfl,rfl,aX l⟩
 .exact⟨rfl,rfl,.emp 1⟩
structure r7 where
 n:bB
 a:V
 b:V
structure r7.Ok (x:r7):Prop where
 a:A6 x.a x.n.ah
 b:A6 x.b x.n.be
def iY (x:r7):List V:=[gi x.n.st,gi x.n.it.av,gi x.n.it.dot,x.a,x.b]
theorem T9 {x:r7} (c:x.Ok):(([iY x]:List (List V)).all λe=>e.length == 5 && e.all aE)=true:=by
 simp only[iY,XK,List.all_nil,c.a.fF.1,c.b.fF.1];rfl
section
variable {κ:Type} [BEq κ] [LawfulBEq κ] {kv:κ->V} {P:Program} {T:Env} {H:View} {kt et t ty:TypeId}
end
section
variable {H:View} {b:Nat} {g:ag} {a:List aR} {ul us:V} {vs:List V} {ls:List (List aK)} {ss:Sets} {more:Bool} {L:List ed}
end
section
variable {H:View} {b:Nat} {g:ag} {a:List aR} {ul us:V} {vs:List V} {ls:List (List aK)} {ss:Sets} {more:Bool} {L:List ed}
end
section
variable {H:View} {b:Nat} {g:ag} {a:List aR} {ul us:V} {vs:List V} {ls:List (List aK)} {ss:Sets} {more:Bool} {L:List ed}
end
inductive jV (P:Program) (d:Nat) (xs ys:Array Value):List Field->Bool->Prop
 | nil:jV P d xs ys [] true
 | any (f:Field) (l:List Field) (c e:Bool) (a b:Value):(f.name≠ "_")->aP P (part f.type xs f.offset)=some a->aP P (part f.type ys f.offset)=some b->aP P (Op.equalIn (d+1) f.type a b)=some e->jV P d xs ys l c->jV P d xs ys (f :: l) (e && c)
theorem jV.forIn {P:Program} {d e:Nat} {xs ys:Array Value} {l:List Field} {c:Bool} (h:jV P d xs ys l c) (g:e=d+1) :
  aP P (forIn l ((none:Option Bool),()) λf _ =>
   if f.name≠ "_" then do
    let a <-part f.type xs f.offset
    let b <-part f.type ys f.offset
    let e <-Op.equalIn e f.type a b
    if (!e)=true then pure (ForInStep.done (some false,())) else pure (ForInStep.yield (none,()))
   else pure (ForInStep.yield (none,())))=some (if c=true then (none,()) else (some false,())):=by
 subst g
 induction h with
 | nil=>rfl
 | any f l c e a b i j k he _ m =>
  rw[List.forIn_cons,aI,Wv i,aI,j,WV,aI,k,WV,aI,he,WV]
  cases e with
  | false=>rfl
  | true=>exact m
theorem uo {P:Program} {d:Nat} {t:TypeId} {b:Array Field} {xs ys:Array Value} {c:Bool} (hu:P.underlying t=some (.struct b)) (f:P.stoodInHeld t=false) (h:jV P d xs ys b.toList c) :
  aP P (Op.equalIn (d+1+1) t (.agg xs) (.agg ys))=some c:=by
 rw[Op.equalIn,aI,cU hu,WV]
 have a:(aP P program)=some P:=rfl
 rw[aI,a,WV,f]
 simp only[<-Array.forIn_toList,WR,if_false]
 rw[aI,h.forIn (e:=d+1) rfl,WV]
 cases c <;> rfl
theorem tV {P:Program} {d:Nat} {t:TypeId} {k:IntKind} (hu:P.underlying t=some (.int k)) (a b:Int):aP P (Op.equalIn (d+1) t (.int k a) (.int k b))=some (a == b):=by
 simp only[Op.equalIn,aI,cU hu,WV];rfl
theorem S7 {κ:Type} [BEq κ] {P:Program} {kt:TypeId} {kv:κ->V} (val:κ->Value) {n:Array Field} (l:∀ k,cO (kv k)=some (val k)) (hu:P.underlying kt=some (.struct n))
  (heq:∀ a b,aP P (Op.equal kt (val a) (val b))=some (a == b)) (c:∀ k e,aP P (Instr.checkKey e 10000 kt (val k))=some ()) (o:∀ k,sameKey (kv k) (kv k)=true):AB P kt kv where
 same:=o
 find:=by
  have d:∀ m:bQ κ,fN (bZ kv m)=some (m.map λx=>{ key:=val x.1,val:=.nilFunc,born:=x.2.2 }):=by
   intro m
   induction m with
   | nil=>rfl
   | cons x r g =>
    simp only[bZ] at g
    simp[bZ,fN,l,g]
  have f:∀ (k:κ) (m:bQ κ) (i:Nat),aP P (Instr.findAsking kt (val k) (m.map λx=>{ key:=val x.1,val:=.nilFunc,born:=x.2.2 }) i)=some ((fC k m).map λj=>(i+j,.nilFunc)):=by
   intro k m
   induction m with
   | nil=>intro i;rfl
   | cons x r g =>
    intro i
    simp only[WZ,Instr.findAsking,aI,heq,WV,fC]
    cases hk:k == x.1 with
    | true=>simp[rX]
    | false =>
     simp only[WR,if_false,g (i+1),Option.map_map]
     congr 2
     funext j
     simp only[Function.comp]
     congr 1
     omega
  intro k e m
  have h:aP P (underlying kt)=some _:=cU hu
  simp only[lG,l,d,aI,c,WV]
  have:aP P (Instr.findKey kt (val k) (m.map λx=>{ key:=val x.1,val:=.nilFunc,born:=x.2.2 }))=some ((fC k m).map λj=>(0+j,.nilFunc)):=by
   unfold Instr.findKey
   rw[aI,h,WV]
   cases m with
   | nil=>rfl
   | cons x r=>exact f k (x :: r) 0
  rw[this]
  cases fC k m with
  | none=>rfl
  | some j=>simp
abbrev vK:=Int × Int × Int
def sw (x:vK):V:=.agg [gi x.1,gi x.2.1,gi x.2.2]
def zg (x:vK):Value:=.agg #[.int .i64 x.1,.int .i64 x.2.1,.int .i64 x.2.2]
def iL (x:bB):vK:=((x.st:Int),x.it.av,x.it.dot)
theorem EK (x y:bB):(iL x == iL y)=rf x y:=by
 obtain⟨s,⟨r,d⟩,a,b⟩:=x
 obtain⟨f,⟨g,h⟩,i,j⟩:=y
 rw[Xm]
 simp[iL,rf]
 constructor
 .rintro⟨h1,c,e⟩;exact⟨by omega,c.symm,e.symm⟩
 .rintro⟨h1,c,e⟩;exact⟨by omega,c.symm,e.symm⟩
theorem SD (a b c d:Int):jV Tryz.prog 9997 #[.int .i64 a,.int .i64 b] #[.int .i64 c,.int .i64 d]
  [{ name:= "Rule",type:=3,offset:=0,embedded:=false,tag:= "",pkgPath:= "",byteOffset:=0 },{ name:= "Dot",type:=3,offset:=1,embedded:=false,tag:= "",pkgPath:= "",byteOffset:=8 }] ((a == c) && ((b == d) && true)) :=
 .any _ _ _ _ _ _ (by decide) (dE Tryz.underlying3 (.inr ⟨_,rfl⟩) _ _ rfl) (dE Tryz.underlying3 (.inr ⟨_,rfl⟩) _ _ rfl) (tV Tryz.underlying3 _ _)
  (.any _ _ _ _ _ _ (by decide) (dE Tryz.underlying3 (.inr ⟨_,rfl⟩) _ _ rfl) (dE Tryz.underlying3 (.inr ⟨_,rfl⟩) _ _ rfl) (tV Tryz.underlying3 _ _) .nil)
theorem E0 (a b c:Int):aP Tryz.prog (part 120 #[.int .i64 a,.int .i64 b,.int .i64 c] 1)=some (.agg #[.int .i64 b,.int .i64 c]):=by kernel_rfl
theorem LO (x y:vK):aP Tryz.prog (Op.equal 218 (zg x) (zg y))=some (x == y):=by
 rw[j9,zg,zg]
 have h:jV Tryz.prog 9998 #[.int .i64 x.1,.int .i64 x.2.1,.int .i64 x.2.2] #[.int .i64 y.1,.int .i64 y.2.1,.int .i64 y.2.2]
  [{ name:= "state",type:=3,offset:=0,embedded:=false,tag:= "",pkgPath:= "gerund/access",byteOffset:=0 },{ name:= "item",type:=120,offset:=1,embedded:=false,tag:= "",pkgPath:= "gerund/access",byteOffset:=8 }] ((x.1 == y.1) && (((x.2.1 == y.2.1) && ((x.2.2 == y.2.2) && true)) && true)) :=
  .any _ _ _ _ _ _ (by decide) (dE Tryz.underlying3 (.inr ⟨_,rfl⟩) _ _ rfl) (dE Tryz.underlying3 (.inr ⟨_,rfl⟩) _ _ rfl) (tV Tryz.underlying3 _ _)
  (.any _ _ _ _ _ _ (by decide) (E0 _ _ _) (E0 _ _ _) (uo Tryz.underlying120 (by kernel_rfl) (SD x.2.1 x.2.2 y.2.1 y.2.2)) .nil)
 rw[uo Tryz.underlying218 (by kernel_rfl) h]
 obtain⟨a,b,c⟩:=x
 obtain⟨d,e,f⟩:=y
 congr 1
 rw[Xm]
 simp
theorem Ms (x:vK) (e:Bool):aP Tryz.prog (Instr.checkKey e 10000 218 (zg x))=some ():=by
 cases e <;> kernel_rfl
theorem Qx:AB Tryz.prog 218 sw :=
 S7 zg (λ_=>rfl) Tryz.underlying218 LO Ms λk=>by simp[sameKey,show cO (sw k)=some (zg k) from rfl,zg,Instr.sameBits]
def fE:SC :=
 ai [af [aZ 9 .lss 8 7],cp 9 (.exit 0),.block 1 (ai [af [aa 10 8,aa 5 10],af [aa 11 1,aa 12 0,aa 13 5,aY 14 2 12 13,bj 15 2 14,((some 16),.call (.tmp 11) [(.tmp 15)])],bf 16 (ai [af [aa 17 5,aa 4 17],.ret])]),af [aF 18 .add 8 1,aa 8 18]]
def fW:SF:=⟨ai [af [bb 4 0],ai [af [aa 6 0,aQ 7 6,bb 8 0],cz 0 fE],af [bb 4 (-1)],.ret],
 [.tmp 4],19⟩
theorem jD:aG Tryz.prog 249 []=some fW:=by kernel_rfl
def xg:SF:=⟨ai [af [cJ 2 0,bc 3 false],af [ay 4 0 2,au 5 4,au 6 1,aZ 7 .eql 5 6,aa 3 7],.ret],
 [.tmp 3],8⟩
theorem Aw:aG Tryz.prog 250 [2]=some xg:=by kernel_rfl
def wZ:SC :=
 ai [af [aZ 24 .lss 23 22],cp 24 (.exit 0),.block 1 (ai [af [aY 25 1 21 23,au 26 25,((some 10),.op (.alloc [(.val (.int .i64 0))])),df 1 10 26],af [aa 27 0,aa 28 8,aY 29 2 27 28,ay 30 1 29,au 31 30,((some 32),.op (.qH 250 [] [(.tmp 10)])),aT 33 249 [31,32],aa 11 33],ai [af [aa 34 11,aF 35 .lss 34 0],bf 35 (ai [af [bb 6 0,bc 7 false],.ret])],af [aa 36 0,aa 37 8,aY 38 2 36 37,ay 39 1 38,au 40 39,aa 41 11,aY 42 2 40 41,ay 43 1 42,au 44 43,aa 8 44],.region false [⟨none,[aa 45 8,aF 46 .lss 45 0,aa 47 46]⟩,⟨(some (47,false)),[aa 48 8,aa 49 0,aQ 50 49,aZ 51 .geq 48 50]⟩,⟨none,[b6 52 47 51]⟩],bf 52 (ai [af [bb 6 0,bc 7 false],.ret])]),af [aF 53 .add 23 1,aa 23 53]]
def Ar:SF:=⟨ai [af [bb 6 0,bc 7 false],af [aa 12 1,aa 8 12],ai [.region false [⟨none,[aa 13 8,aF 14 .lss 13 0,aa 15 14]⟩,⟨(some (15,false)),[aa 16 8,aa 17 0,aQ 18 17,aZ 19 .geq 16 18]⟩,⟨none,[b6 20 15 19]⟩],bf 20 (ai [af [bb 6 0,bc 7 false],.ret])],ai [af [aa 21 2,aQ 22 21,bb 23 0],cz 0 wZ],af [aa 54 8,aa 6 54,bc 7 true],.ret],
 [.tmp 6,.tmp 7],55⟩
theorem Dc:aG Tryz.prog 193 []=some Ar:=by kernel_rfl
theorem Mo (l:List fL) (g:aC l) (f:FuncId) (cap:List V) (p:fL->Bool) (H:View) (h:∀ x∈l,ao Tryz.prog f (.agg (oJ x) :: cap) H λr H'=>r=gb (p x)/\H'=H) :
  ao Tryz.prog 249 [.aL (p8 l),.fn f [] cap] H λr H'=>r=gi (gq p l 0)/\H'=H:=by
 refine ao.of mixed jD ?_
 unfold aC at g
 simp(disch:=omega)only[↓wr,seval,wq,fW,p8]
 refine bk.up l.length (λi T H'=>H=H'/\gq p (l.drop i) i=gq p l 0/\T 0=.aL (l.map oJ)/\T 1=.fn f [] cap/\T 7=gi l.length/\T 8=gi i) ⟨rfl,rfl,rfl,rfl,rfl,rfl⟩ ?_
 rintro i k T _ hk ⟨rfl,hi,b,h1,c,d⟩
 simp(disch:=omega)only[↓wr,seval,wq,fE,b,h1,c,d]
 apply aj.dec<;>intro j
 .have e:l[i]?=some (l[i]'(by omega)):=Wp (by omega)
  have hm:l[i]'(by omega)∈l:=WA _
  rw[fS (show i < l.length by omega)] at hi
  generalize l[i]'(by omega)=x at e hm hi
  simp(disch:=omega)only[↓wr,seval,wq,b,h1,c,d,Ww,e,WL,oJ]
  have a:=h x hm
  simp only[oJ] at a
  refine aq.bX (a.mono ?_)
  rintro r m ⟨rfl,rfl⟩
  simp only[gq] at hi
  simp(disch:=omega)only[↓wr,seval,wq]
  apply aj.split<;>intro hp
  .simp(disch:=omega)only[↓wr,seval,wq,b,h1,c,d]
   rw[<-hi,Wv hp]
  .simp(disch:=omega)only[↓wr,seval,wq,b,h1,c,d]
   refine aJ hk (by omega) ⟨rfl,?_,b,h1,c,rfl⟩
   rw[Ws (by simp[hp])] at hi
   push_cast;exact hi
 .rw[Xb (by omega)] at hi
  simp(disch:=omega)only[↓wr,seval,wq,b,h1,c,d]
  rw[<-hi];rfl
theorem Ql (x:fL) (s:Int) (q:Nat) (H:View) (a:H q=.arr 1 [[gi s]]):ao Tryz.prog 250 [.agg (oJ x),.ptr q 0 0] H λr H'=>r=gb (decide (x.sym=s))/\H'=H:=by
 refine ao.of mixed Aw ?_
 simp(disch:=omega)only[↓wr,seval,wq,xg,oJ,a]
 congr 2
theorem It (s:Int):∀ (l:List fL) (i:Int),0<=i->(gq (λe=>decide (e.sym=s)) l i < 0->kO l s = -1)/\(0<=gq (λe=>decide (e.sym=s)) l i->∃ (k:Nat) (e:fL),gq (λe=>decide (e.sym=s)) l i=i+k/\l[k]?=some e/\kO l s=e.to)
 | [],i,_=>⟨λ_=>rfl,λh=>by simp[gq] at h⟩
 | x :: l,i,d=>by
  simp only[gq,kO,WH]
  by_cases h:x.sym=s
  .rw[Wv h,Wv h]
   exact⟨λh=>by omega,λ_=>⟨0,x,by simp,rfl,rfl⟩⟩
  .rw[Ws h,Ws h]
   obtain⟨h1,a⟩:=It s l (i+1) (by omega)
   refine⟨h1,λh=>?_⟩
   obtain⟨k,e,b,k2,c⟩:=a h
   exact⟨k+1,e,by rw[b];push_cast;omega,by simpa using k2,c⟩
theorem PQ {l:List fL} (h:∀ e∈l,ba e.to) (s:Int):ba (kO l s):=by
 induction l with
 | nil=>unfold ba;simp[kO]
 | cons e l a =>
  rw[kO];split
  .exact h e (by simp)
  .exact a λx b=>h x (by simp[b])
theorem Qw (a:List aR) (_:aC a) (he:∀ s∈a,aC s.cK/\∀ e∈s.cK,ba e.sym/\ba e.to) (fr:Int) (syms:List Int) (t:aC syms):az Tryz.prog 193 [fH a,gi fr,encI syms] (.aO [gi (rb a fr syms).1,gb (rb a fr syms).2]):=by
 unfold aC at t
 refine az.tree (by
  intro v l;simp at l
  rcases l with rfl | rfl | rfl
  .exact An _
  .exact .val _
  .exact aX _) (yE (.val _) (.val _)) λH=>?_
 refine ao.of mixed Dc ?_
 unfold rb
 simp(disch:=omega)only[↓wr,seval,wq,Ar,fH,encI]
 apply aj.dec<;>intro h1
 .simp(disch:=omega)only[↓wr,seval,wq]
  rw[Wv (by omega)]
 simp(disch:=omega)only[↓wr,seval,wq,fH]
 apply aj.dec<;>intro u
 .simp(disch:=omega)only[↓wr,seval,wq]
  rw[Wv (by omega)]
 rw[Ws (by omega)]
 simp(disch:=omega)only[↓wr,seval,wq]
 refine bk.up syms.length (λi T H'=>∃ at_:Int,0<=at_/\at_ < a.length/\l8 a at_ (syms.drop i)=l8 a fr syms/\T 0=fH a/\T 8=gi at_/\T 21=encI syms/\T 22=gi syms.length/\T 23=gi i) ⟨fr,by omega,by omega,rfl,rfl,rfl,rfl,rfl,rfl⟩ ?_
 rintro i k T H' hk ⟨at_,D,E,hw,t0,t8,t21,t22,t23⟩
 simp(disch:=omega)only[↓wr,seval,wq,wZ,t0,t8,t21,t22,t23,encI]
 apply aj.dec<;>intro w
 .have m:syms[i]?=some (syms[i]'(by omega)):=Wp (by omega)
  rw[XH (show i < syms.length by omega)] at hw
  generalize syms[i]'(by omega)=x at m hw
  have f:a[at_.toNat]?=some (a.getD at_.toNat bG):=getD_some (by omega)
  obtain⟨b,c⟩:=he _ (WI f)
  rw[l8] at hw
  have g:=PQ (λe h=>(c e h).2) x
  generalize a.getD at_.toNat bG=S at f b c hw g
  simp(disch:=omega)only[↓wr,seval,wq,t0,t8,t21,t22,t23,encI,Ww,m,WL]
  intro q F
  rw[set_set]
  have d:(H'.set q (.arr 1 [[gi x]])) q=.arr 1 [[gi x]]:=by simp[View.set]
  generalize H'.set q (.arr 1 [[gi x]])=n at d
  simp(disch:=omega)only[↓wr,seval,wq,t0,t8,fH,Ww,f,WL,sM]
  refine aq.bX ((Mo S.cK b 250 [.ptr q 0 0] (λe=>decide (e.sym=x)) n (λe _=>Ql e x q n d)).mono ?_)
  rintro r G ⟨rfl,rfl⟩
  obtain⟨i1,i2⟩:=It x S.cK 0 (by omega)
  unfold aC at b
  simp(disch:=omega)only[↓wr,seval,wq]
  apply aj.dec<;>intro o
  .simp(disch:=omega)only[↓wr,seval,wq]
   rw[<-hw,i1 o,Ws (by omega)]
  .obtain⟨j,e,y,p,z⟩:=i2 (by omega)
   have I:=(Wy.1 p).1
   rw[y]
   have A:((0:Int)+(j:Int))=(j:Int):=by omega
   rw[A]
   rw[z] at hw g
   unfold ba at g
   simp(disch:=omega)only[↓wr,seval,wq,t0,t8,fH,Ww,f,WL,sM,p8,p,oJ]
   apply aj.dec<;>intro B
   .simp(disch:=omega)only[↓wr,seval,wq]
    rw[<-hw,Ws (by omega)]
   .simp(disch:=omega)only[↓wr,seval,wq,t0,fH]
    apply aj.dec<;>intro C
    .simp(disch:=omega)only[↓wr,seval,wq]
     rw[<-hw,Ws (by omega)]
    .simp(disch:=omega)only[↓wr,seval,wq,t0,t21,t22,t23]
     rw[Wv ⟨by omega,by omega⟩] at hw
     exact aJ hk (by omega) ⟨e.to,by omega,by omega,hw,t0,rfl,t21,t22,rfl⟩
 .simp(disch:=omega)only[↓wr,seval,wq,t8]
  rw[Xb (by omega),l8] at hw
  rw[<-hw]
section
variable {P:Program} {T:Env} {H:View} {K:V->View->Prop} {w:ct (T,H,K)} {t ty:TypeId}
theorem Qm {d:Operand} {id off len sz bytes s:Nat} {z:List V} {es:List (List V)} (he:og P t=some (sz,bytes,z)) (h:ev T d=.sl id off len sz) (hH:H id=.arr s es) (i:off+len<=es.length) (j:len≠0)
  (hk:K (.aO []) (H.set id (.arr sz (dV es off (List.replicate len z))))):iZ P (.call { callee:=.builtin .clear,args:=#[d],argTypes:=#[t] }) ty T H K w:=by
 obtain⟨e,ti,b,hi,c,k,f,a,g,rfl,rfl⟩:=kg he
 intro n _
 refine⟨.aO [],.eP id (.arr ti.size (dV es off (List.replicate len z))),[id],?_,hk⟩
 simp only[sI,bR,oper]
 simp only[WU] at a
 simp[uB,b,h,cT,c,j,hH,i,g,k,f,a]
 exact a
end
theorem yq:∀ (xs A B:List (List V)),xs.length<=B.length->dV (A ++ B) A.length xs=A ++ xs ++ B.drop xs.length
 | [],A,B,_=>by simp[dV]
 | x :: r,A,[],h=>by simp at h
 | x :: r,A,b :: B,h=>by
  rw[dV,List.set_append_right _ _ (Wz _),Nat.sub_self,List.set_cons_zero]
  have:=yq r (A ++ [x]) B (by simpa using h)
  simpa using this
theorem xS {id off k m:Nat} (hm:m<=k):cY 2 (.sl id off k 2) (some (gi m)) none=some (.sl id (off+m) (k - m) 2,.none,[]):=by
 simp[cY,bound,asNat,hm]
theorem IE {id off k m:Nat} (hm:m<=k):cY 2 (.sl id off k 2) none (some (gi m))=some (.sl id off m 2,.none,[]):=by
 simp[cY,bound,asNat,hm]
def fV:SC :=
 ai [ai [af [aa 29 5,aa 30 4,aQ 31 30,aZ 32 .lss 29 31],cp 32 (.exit 2)],.block 3 (ai [af [aa 35 4,aa 36 5,aY 37 2 35 36,bj 38 2 37,aa 39 4,aa 40 5,aF 41 .sub 40 1,aY 42 2 39 41,bj 43 2 42,((some 44),.op (.old (.binOp .neq 120 (.tmp 38) (.tmp 43) 120) 4))],bf 44 (ai [af [aa 45 0,aa 46 3,aa 47 4,aa 48 5,aY 49 2 47 48,bj 50 2 49,aY 51 2 45 46,df 2 51 50],af [aa 52 3,aF 53 .add 52 1,aa 3 53]])]),af [aa 33 5,aF 34 .add 33 1,aa 5 34]]
def fT:SC :=
 ai [ai [af [aa 10 3,aa 11 0,aQ 12 11,aZ 13 .lss 10 12],cp 13 (.exit 0)],.block 1 (ai [af [aa 16 0,aa 17 3,aY 18 2 16 17,bj 19 2 18,aa 20 0,aa 21 3,aF 22 .sub 21 1,aY 23 2 20 22,bj 24 2 23,((some 25),.op (.old (.binOp .eql 120 (.tmp 19) (.tmp 24) 120) 4))],bf 25 (ai [af [aa 26 0,aa 27 3,((some 28),.op (.slice 2 (.tmp 26) (some (.tmp 27)) none)),aa 4 28],ai [af [bb 5 1],cz 2 fV],af [aa 54 0,aa 55 3,((some 56),.op (.slice 2 (.tmp 54) (some (.tmp 55)) none)),(none,.op (.old (.call { callee:=.builtin .clear,args:=#[(.tmp 56)],argTypes:=#[103] }) 0))],af [aa 57 0,aa 58 3,((some 59),.op (.slice 2 (.tmp 57) none (some (.tmp 58)))),aa 2 59],.ret])]),af [aa 14 3,aF 15 .add 14 1,aa 3 15]]
def gx:SF:=⟨ai [af [b7 2 1],ai [af [aa 6 0,aQ 7 6,aF 8 .lss 7 2],bf 8 (ai [af [aa 9 0,aa 2 9],.ret])],ai [af [bb 3 1],cz 0 fT],af [aa 60 0,aa 2 60],.ret],
 [.tmp 2],61⟩
theorem kf:aG Tryz.prog 192 []=some gx:=by kernel_rfl
def Ab:SF:=⟨ai [af [b7 2 1],af [aa 3 0,nr 4 190 [(.tmp 3),(.val (.fn 191 [] []))]],af [aa 5 0,aT 6 192 [5],aa 2 6],.ret],
 [.tmp 2],7⟩
theorem Dj:aG Tryz.prog 124 []=some Ab:=by kernel_rfl
theorem rA {l:List aK} {i:Nat} (h:i < l.length):(bM l).getD i []=[gi (l.getD i hZ).av,gi (l.getD i hZ).dot]:=CG (getD_some h)
theorem Mi (l:List aK) (i j:Nat) (x d:aK) (hi:i < l.length):(l.set i x).getD j d=if i=j then x else l.getD j d:=by
 rw[E2]
 by_cases e:i=j
 .rw[Wv ⟨e,hi⟩,Wv e]
 .rw[Ws (λh=>e h.1),Ws e]
theorem Mk (l:List aK) (U:l.length<=100000) (u:V) (H:View) (C:aH H u 2 (bM l)):ao Tryz.prog 192 [u] H λr H'=>(∀ id,owner u≠some id->H' id=H id)/\aH H' r 2 (bM (fw l l.length))/\owner r=owner u:=by
 refine ao.cut (K:=λr H'=>(H'=H/\r=u/\fw l l.length=l)∨∃ id rest,u=.sl id 0 l.length 2/\r=.sl id 0 (fw l l.length).length 2/\H'=H.set id (.arr 2 (bM (fw l l.length) ++ rest))) ?_ ?_
 rotate_left
 .rintro r H' (⟨rfl,rfl,e⟩ | ⟨id,rest,rfl,rfl,rfl⟩)
  .exact .inl ⟨λ_ _=>rfl,by rw[e];exact C,rfl⟩
  .refine .inr ⟨id,2,bM (fw l l.length),rest,by simp[View.set],λj L=>?_,?_,rfl⟩
   .rw[set_set]
    simp only[View.set]
    rw[Ws (λe=>L (by rw[e];rfl))]
   .rw[set_set]
    exact .inr ⟨id,by rw[bF],by simp[View.set]⟩
 refine ao.of mixed kf ?_
 have hlen:cT u=some l.length:=by rw[C.len,bF]
 simp(disch:=omega)only[↓wr,seval,wq,gx,hlen]
 apply aj.dec<;>intro n
 .simp(disch:=omega)only[↓wr,seval,wq]
  left
  try refine⟨rfl,rfl,?_⟩
  match l,n with
  | [],_=>rfl
  | [x],_=>rfl
  | _ :: _ :: _,n=>simp at n;omega
 obtain⟨id,hu,t⟩:=C.sl (by rw[bF];omega)
 rw[bF] at hu
 subst hu
 simp(disch:=omega)only[↓wr,seval,wq]
 refine bk.up (l.length - 1) (λi T H'=>H=H'/\(∀ j,0 < j->j < i+1->l.getD j hZ≠l.getD (j - 1) hZ)/\T 0=.sl id 0 l.length 2/\T 3=gi ((i+1:Nat):Int)) ⟨rfl,λj h1 n=>by omega,rfl,rfl⟩ ?_
 rintro i k T _ hk ⟨rfl,o,t0,t3⟩
 simp(disch:=omega)only[↓wr,seval,wq,fT,t0,t3]
 apply aj.dec<;>intro O
 rotate_left
 .simp(disch:=omega)only[↓wr,seval,wq,t0]
  left
  try refine⟨rfl,rfl,?_⟩
  rw[yw l _ (Wz _) (λj h1 n=>o j h1 (by omega)),X0]
 have D:i+1 < l.length:=by omega
 have P:(((i+1:Nat):Int) - 1)=(i:Int):=by omega
 simp(disch:=omega)only[↓wr,seval,wq,t0,t3,t,rA D,rA (show i < l.length by omega),P]
 refine⟨by omega,by rw[bF];omega,?_⟩
 refine⟨by omega,by rw[bF];omega,?_⟩
 generalize M:l.getD (i+1) hZ=x
 generalize N:l.getD i hZ=y
 refine tZ (xs:=#[.int .i64 x.av,.int .i64 x.dot]) (ys:=#[.int .i64 y.av,.int .i64 y.dot]) Tryz.underlying120 (by kernel_rfl) (by kernel_rfl) ?_ ?_ (E4 x y) (.inl ⟨rfl,rfl⟩) ?_
 .rfl
 .rfl
 rw[Pk]
 simp(disch:=omega)only[↓wr,seval,wq,t0,t3]
 apply aj.dec<;>intro heq
 rotate_left
 .simp(disch:=omega)only[↓wr,seval,wq,t0,t3]
  refine aJ hk (by omega) ⟨rfl,λj h1 n=>?_,t0,by push_cast;rfl⟩
  rcases W5 j (i+1) with q | q
  .exact o j h1 q
  .have:j=i+1:=by omega
   subst this
   rw[Nat.add_sub_cancel,M,N];exact heq
 have g:fw l (i+1+1)=l.take (i+1):=by
  rw[fw,Ws,yw l (i+1) (by omega) o]
  rw[Nat.add_sub_cancel,M,N]
  simp[heq]
 simp(disch:=omega)only[↓wr,seval,wq,t0,t3,xS (id:=id) (off:=0) (k:=l.length) (m:=i+1) (by omega)]
 refine bk.up (l.length - (i+1) - 1) (λi2 T H'=>∃ (a:Nat) (cur:List aK),H'=H.set id (.arr 2 (bM cur))/\cur.length=l.length/\i+1<=a/\a<=i+1+i2/\cur.take a=fw l (i+1+(i2+1))/\(∀ j,a<=j->cur.getD j hZ=l.getD j hZ) /\
  T 0=.sl id 0 l.length 2/\T 3=gi a/\T 4=.sl id (i+1) (l.length - (i+1)) 2/\T 5=gi ((i2+1:Nat):Int)) ⟨i+1,l,?_,rfl,Wz _,by omega,by rw[g],λ_ _=>rfl,t0,t3,?_,rfl⟩ ?_
 .funext j;simp only[View.set];split
  .rename_i e;rw[e,t]
  .rfl
 .rfl
 clear t0 t3 hk
 rintro i2 k2 W _ v ⟨a,cur,rfl,w,Q,X,c,d,t0,t3,t4,t5⟩
 have b:(H.set id (.arr 2 (bM cur))) id=.arr 2 (bM cur):=by simp[View.set]
 simp(disch:=omega)only[↓wr,seval,wq,fV,t0,t3,t4,t5]
 apply aj.dec<;>intro E
 .have hp:i+1+(i2+1) < l.length:=by omega
  have R:(((i2+1:Nat):Int) - 1)=(i2:Int):=by omega
  simp(disch:=omega)only[↓wr,seval,wq,t0,t3,t4,t5,b,R,rA (l:=cur) (show i+1+(i2+1) < cur.length by omega),rA (l:=cur) (show i+1+i2 < cur.length by omega)]
  refine⟨by omega,by rw[bF];omega,?_⟩
  refine⟨by omega,by rw[bF];omega,?_⟩
  rw[d _ (show a<=i+1+(i2+1) by omega),d _ (show a<=i+1+i2 by omega)]
  generalize A:l.getD (i+1+(i2+1)) hZ=f
  generalize F:l.getD (i+1+i2) hZ=B
  refine tZ (xs:=#[.int .i64 f.av,.int .i64 f.dot]) (ys:=#[.int .i64 B.av,.int .i64 B.dot]) Tryz.underlying120 (by kernel_rfl) (by kernel_rfl) ?_ ?_ (E4 f B) (.inr ⟨rfl,rfl⟩) ?_
  .rfl
  .rfl
  rw[Pk]
  simp(disch:=omega)only[↓wr,seval,wq,t0,t3,t4,t5]
  have h:fw l (i+1+(i2+1+1))=if f=B then fw l (i+1+(i2+1)) else fw l (i+1+(i2+1)) ++ [f]:=by
   rw[show i+1+(i2+1+1)=(i+1+(i2+1))+1 by omega,fw,A,show i+1+(i2+1) - 1=i+1+i2 by omega,F]
   by_cases e:f=B
   .rw[Wv e,Ws (by simp[e])]
   .rw[Ws e,Wv (.inr e)]
  apply aj.dec<;>intro he
  .simp(disch:=omega)only[↓wr,seval,wq,t0,t3,t4,t5]
   rw[Wv he] at h
   exact aJ v (by omega) ⟨a,cur,rfl,w,Q,by omega,by rw[h];exact c,d,t0,t3,t4,by push_cast;rfl⟩
  .simp(disch:=omega)only[↓wr,seval,wq,t0,t3,t4,t5,b,rA (l:=cur) (show i+1+(i2+1) < cur.length by omega)]
   rw[d _ (show a<=i+1+(i2+1) by omega),A]
   have p:(bM cur).getD a []=[gi (cur.getD a hZ).av,gi (cur.getD a hZ).dot]:=rA (by omega)
   have G:(bM cur).set a [gi f.av,gi f.dot]=bM (cur.set a f):=by simp[bM,Yr,fi]
   simp(disch:=omega)only[↓wr,seval,wq,t0,t3,t4,t5,b,p,G]
   rw[set_set]
   rw[Ws he] at h
   refine⟨by omega,by rw[bF];omega,?_⟩
   refine⟨by omega,by rw[bF];omega,?_⟩
   refine aJ v (by omega) ⟨a+1,cur.set a f,rfl,by simp[w],by omega,by omega,?_,λj L=>?_,t0,by push_cast;rfl,t4,by push_cast;rfl⟩
   .rw[h,<-c,WY,List.take_set_of_le (Wz _),Yh (by omega)];rfl
   .rw[Mi _ _ _ _ _ (by omega),Ws (by omega)]
    exact d j (by omega)
 .have I:i+1+(i2+1)=l.length:=by omega
  rw[I] at c
  have S:l.length - a≠0:=by omega
  have p:a=(fw l l.length).length:=by rw[<-c,XD];omega
  simp(disch:=omega)only[↓wr,seval,wq,t0,t3,xS (id:=id) (off:=0) (k:=l.length) (m:=a) (by omega)]
  refine Qm (id:=id) (off:=a) (len:=l.length - a) (sz:=2) (bytes:=16) (s:=2) (z:=[gi 0,gi 0]) (es:=bM cur) (by kernel_rfl) (by simp(disch:=omega)only[↓wr,seval,wq];try rw[Xk]) b (by rw[bF];omega) S ?_
  rw[set_set]
  have J:dV (bM cur) a (List.replicate (l.length - a) [gi 0,gi 0])=bM (fw l l.length) ++ List.replicate (l.length - a) [gi 0,gi 0]:=by
   have h1:=yq (List.replicate (l.length - a) [gi 0,gi 0]) (bM (cur.take a)) (bM (cur.drop a)) (by simp[bM];omega)
   rw[show bM (cur.take a) ++ bM (cur.drop a)=bM cur by rw[bM,bM,<-W6,Yo];rfl] at h1
   rw[show (bM (cur.take a)).length=a by rw[bF,XD];omega] at h1
   rw[h1,c,Xb (by simp[bM];omega),Xe]
  rw[J]
  simp(disch:=omega)only[↓wr,seval,wq,t0,t3,IE (id:=id) (off:=0) (k:=l.length) (m:=a) (by omega)]
  right
  exact⟨id,List.replicate (l.length - a) [gi 0,gi 0],rfl,by rw[p],rfl⟩
theorem K3 (l:List aK) (h:l.length<=100000) (u:V) (H:View) (c:aH H u 2 (bM l)):ao Tryz.prog 124 [u] H λr H'=>(∀ id,owner u≠some id->H' id=H id)/\aH H' r 2 (bM (zw l))/\owner r=owner u:=by
 refine ao.of mixed Dj ?_
 simp(disch:=omega)only[↓wr,seval,wq,Ab]
 refine aq.bX ((Qn l (by omega) u H c).mono ?_)
 rintro r d ⟨rfl,k2,e⟩
 simp(disch:=omega)only[↓wr,seval,wq]
 refine aq.bX ((Mk (eC l) (by rw[jd];omega) u d e).mono ?_)
 rintro r i ⟨f,b,g⟩
 simp(disch:=omega)only[↓wr,seval,wq]
 rw[jd] at b
 exact⟨λid a=>by rw[f id a,k2 id a],b,g⟩
end Gv
