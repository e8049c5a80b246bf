/-
  Part 13 of the proof: what the machine does and what the functions answer.
  Conditions: those that each lemma names.
-/
import Derived.Test.YtiophifnkakjgaaGreatSGzB7L
set_option linter.unusedSimpArgs false
set_option linter.unusedVariables false
set_option maxRecDepth 100000
set_option maxHeartbeats 20000000
namespace Gv
open Go Go.Proofs
structure js (g:af) (a:List aL):Prop where
 first:(a.getD 0 bD).bb=[⟨-1,0⟩]
 xf:∀ s∈a,∀ e∈s.bT,(a.getD e.to.toNat bD).bb=aX g (cE g s.bb) e.sym
theorem kz (l:List aL) (i:Nat) (c:eU) (j:Nat):((l.modify i λx=>(⟨x.bb,x.bT ++ [c]⟩:aL)).getD j bD).bb=(l.getD j bD).bb:=by
 simp only[Sm,List.getElem?_modify]
 cases l[j]? with
 | none=>rfl
 | some x =>
  by_cases e:i=j
  .subst e;simp
  .simp[e]
theorem js.put {g:af} {out:List aL} (h:js g out) {at_:Nat} {s to:Int} (c:(out.getD to.toNat bD).bb=aX g (cE g (out.getD at_ bD).bb) s):js g (out.modify at_ λx=>(⟨x.bb,x.bT ++ [⟨s,to⟩]⟩:aL)):=by
 refine⟨by rw[kz];exact h.first,λy a e he=>?_⟩
 rw[kz]
 rcases mem_modify a with a | ⟨x,b,rfl⟩
 .exact h.xf y a e he
 .rcases SS.1 he with he | he
  .exact h.xf x (SK b) e he
  .simp at he;subst he
   rw[c,Sm,b];rfl
theorem js.add {g:af} {out:List aL} (h:js g out) (h1:1<=out.length) (c:∀ s∈out,∀ e∈s.bT,0<=e.to/\e.to < out.length) (k:List aD):js g (out ++ [⟨k,[]⟩]):=by
 have b:∀ j:Nat,j < out.length->((out ++ [(⟨k,[]⟩:aL)]).getD j bD)=out.getD j bD:=λj d=>by
  simp[Sm,S9 d]
 refine⟨by rw[b 0 (by omega)];exact h.first,λy a e he=>?_⟩
 rcases SS.1 a with a | a
 .have:=c y a e he
  rw[b _ (by omega)];exact h.xf y a e he
 .simp at a;subst a;simp at he
theorem Ld (g:af) (l:List aD) (at_:Nat) (out:List aL) (i:Nat) {j:Nat} (a:j < out.length):((cO g l at_ out i).getD j bD).bb=(out.getD j bD).bb:=by
 unfold cO
 split
 .rfl
 .split
  .rw[kz]
   simp[Sm,S9 a]
  .rw[kz]
theorem js.step {g:af} {l:List aD} {at_ i:Nat} {out:List aL} (h:js g out) (hi:dC g at_ i out) (c:at_ < out.length) (a:cE g (out.getD at_ bD).bb=l):js g (cO g l at_ out i):=by
 unfold cO
 split
 .exact h
 .split
  .refine(h.add (by omega) hi.to _).put ?_
   rw[Tf]
   have d:((out ++ [(⟨aX g l (aN g i),[]⟩:aL)]).getD out.length bD).bb=aX g l (aN g i):=by
    simp[Sm]
   have e:(out ++ [(⟨aX g l (aN g i),[]⟩:aL)]).getD at_ bD=out.getD at_ bD:=by
    simp[Sm,S9 c]
   rw[d,e,a]
  .rename_i j
   refine h.put ?_
   obtain⟨n,b⟩:∃ n:Nat,findD out (aX g l (aN g i))=n:=⟨(findD out (aX g l (aN g i))).toNat,by omega⟩
   obtain⟨s,h1,f⟩:=EM _ _ _ b
   rw[b,Tf,Sm,h1,a]
   exact f
theorem js.row {g:af} (a:g.cZ) {at_:Nat} {out:List aL} (h:js g out) (hi:dC g at_ 0 out) (b:at_ < out.length):∀ n:Nat,n<=40->js g ((List.range n).foldl (cO g (cE g (out.getD at_ bD).bb) at_) out)/\(((List.range n).foldl (cO g (cE g (out.getD at_ bD).bb) at_) out).getD at_ bD).bb=(out.getD at_ bD).bb
 | 0,_=>⟨h,rfl⟩
 | n+1,d=>by
  obtain⟨h1,c⟩:=js.row a h hi b n (by omega)
  obtain⟨i1,i2,i3⟩:=dC.row (hi.k6 a b).1 (hi.k6 a b).2 hi n (by omega)
  rw[Uq,T4]
  simp only[Tp,List.foldl_nil]
  refine⟨h1.step i1 (by omega) (by rw[c]),?_⟩
  rw[Ld _ _ _ _ _ (by omega),c]
theorem zP {g:af} (a:g.cZ):∀ (f at_:Nat) (out:List aL),dC g at_ 0 out->js g out->(eM g f at_ out).2=0->js g (eM g f at_ out).1
 | 0,_,out,_,h,_=>h
 | f+1,at_,out,hi,h,b=>by
  rw[eM] at b ⊢
  split
  .rename_i c
   rw[St c] at b
   have hr:=dC.row (hi.k6 a c).1 (hi.k6 a c).2 hi (g.ao.length+g.aj.length) (by have:=a.ao;have:=a.aj;omega)
   have he:=h.row a hi c (g.ao.length+g.aj.length) (by have:=a.ao;have:=a.aj;omega)
   rw[show (List.range (g.ao.length+g.aj.length)).foldl (cO g (cE g (out.getD at_ bD).bb) at_) out=s0 g at_ out (g.ao.length+g.aj.length) from rfl] at hr he
   split
   .rename_i d;rw[St d] at b;simp at b
   .rename_i d
    rw[Sr d] at b
    exact zP a f (at_+1) _ hr.1.next he.1 b
  .exact h
theorem JW {g:af} (b:g.cZ) (h:(bI g).2=0):js g (bI g).1:=by
 unfold bI at h ⊢
 split
 .rename_i hr
  rw[St hr] at h
  exact zP b 302 0 dI kh ⟨rfl,λs a e he=>by simp[dI] at a;subst a;simp at he⟩ h
 .rename_i hr
  rw[Sr hr] at h
  simp at h
theorem G6 {a:List aL} {i:Nat} {e:eU} (h:e∈(a.getD i bD).bT):i < a.length/\a.getD i bD∈a:=by
 rcases SY i a.length with hi | hi
 .exact⟨hi,SK (getD_some hi)⟩
 .rw[Sm,Te hi] at h;simp at h
def jV (g:af) (l:List aD) (n:Nat):List Int:=((List.range n).filter λi=>decide (aX g l (aN g i)≠[])).map λ(i:Nat)=>aN g i
theorem zJ (g:af) (l:List aD) (n:Nat):jV g l (n+1)=if aX g l (aN g n)=[] then jV g l n else jV g l n ++ [aN g n]:=by
 unfold jV
 rw[Uq,Uo,S0]
 by_cases h:aX g l (aN g n)=[]
 .rw[St h];simp[h]
 .rw[Sr h];simp[h]
structure lV (g:af) (at_ i:Nat) (out:List aL):Prop where
 one:(out.map aL.bb).Nodup
 back:∀ j:Nat,0 < j->j < out.length->∃ (i:Nat) (e:eU),i < j/\e∈(out.getD i bD).bT/\e.to=j
 done:∀ j:Nat,j < at_->j < out.length->(out.getD j bD).bT.map eU.sym=jV g (cE g (out.getD j bD).bb) (g.ao.length+g.aj.length)
 here:at_ < out.length->(out.getD at_ bD).bT.map eU.sym=jV g (cE g (out.getD at_ bD).bb) i
theorem qz (l:List aL) (i:Nat) (c:eU) (j:Nat) (hi:i < l.length):((l.modify i λx=>(⟨x.bb,x.bT ++ [c]⟩:aL)).getD j bD).bT=if i=j then (l.getD j bD).bT ++ [c] else (l.getD j bD).bT:=by
 simp only[Sm,List.getElem?_modify]
 by_cases e:i=j
 .subst e;simp[hi]
 .cases l[j]? with
  | none=>simp[e]
  | some x=>simp[e]
theorem BM (l:List aL) (i:Nat) (c:eU):(l.modify i λx=>(⟨x.bb,x.bT ++ [c]⟩:aL)).map aL.bb=l.map aL.bb:=by
 apply List.ext_getElem?
 intro j
 simp only[Ss,List.getElem?_modify]
 cases l[j]? with
 | none=>rfl
 | some x=>by_cases e:i=j <;> simp[e]
theorem lV.put {g:af} {at_ i:Nat} {out:List aL} {to:Int} (b:at_ < out.length) (h1:(out.map aL.bb).Nodup) (h:∀ j:Nat,0 < j->j < out.length->(∃ (i:Nat) (e:eU),i < j/\e∈(out.getD i bD).bT/\e.to=j)∨(at_ < j/\to=j))
  (l:∀ j:Nat,j < at_->j < out.length->(out.getD j bD).bT.map eU.sym=jV g (cE g (out.getD j bD).bb) (g.ao.length+g.aj.length)) (m:(out.getD at_ bD).bT.map eU.sym=jV g (cE g (out.getD at_ bD).bb) i)
  (c:aX g (cE g (out.getD at_ bD).bb) (aN g i)≠[]):lV g at_ (i+1) (out.modify at_ λx=>(⟨x.bb,x.bT ++ [⟨aN g i,to⟩]⟩:aL)):=by
 refine⟨by rw[BM];exact h1,λj d a=>?_,λj d a=>?_,λ_=>?_⟩
 .rw[List.length_modify] at a
  rcases h j d a with ⟨k,e,f,a2,a3⟩ | ⟨f,a2⟩
  .refine⟨k,e,f,?_,a3⟩
   rw[qz _ _ _ _ b]
   split
   .exact List.mem_append_left _ a2
   .exact a2
  .refine⟨at_,⟨aN g i,to⟩,f,?_,a2⟩
   rw[qz _ _ _ _ b,St rfl]
   simp
 .rw[List.length_modify] at a
  rw[qz _ _ _ _ b,Sr (by omega),kz]
  exact l j d a
 .rw[qz _ _ _ _ b,St rfl,kz,S0,m,zJ,Sr c];rfl
theorem lV.step {g:af} {at_ i:Nat} {out:List aL} (h:lV g at_ i out) (d:at_ < out.length):lV g at_ (i+1) (cO g (cE g (out.getD at_ bD).bb) at_ out i):=by
 unfold cO
 split
 .rename_i hm
  exact⟨h.one,h.back,h.done,λ_=>by rw[zJ,St hm];exact h.here d⟩
 .rename_i hm
  split
  .rename_i n
   have f:∀ j:Nat,j < out.length->((out ++ [(⟨aX g (cE g (out.getD at_ bD).bb) (aN g i),[]⟩:aL)]).getD j bD)=out.getD j bD:=λj c=>by
    simp[Sm,S9 c]
   refine lV.put (by simp;omega) ?_ (λj c l=>?_) (λj c l=>?_) ?_ ?_
   .rw[S0,TT]
    refine⟨h.one,by simp,λa o b m=>?_⟩
    obtain⟨s,p,rfl⟩:=S5.1 o
    simp at m;subst m
    exact Eu _ _ n s p
   .rcases SY j out.length with q | q
    .obtain⟨k,e,r,a2,a3⟩:=h.back j c q
     exact .inl ⟨k,e,r,by rw[f k (by omega)];exact a2,a3⟩
    .right
     simp at l
     exact⟨by omega,by omega⟩
   .rw[f j (by omega)];exact h.done j c (by omega)
   .rw[f at_ d];exact h.here d
   .rw[f at_ d];exact hm
  .exact lV.put d h.one (λj c l=>.inl (h.back j c l)) h.done (h.here d) hm
theorem lV.row {g:af} (a:g.cZ) {at_:Nat} {out:List aL} (h:lV g at_ 0 out) (hi:dC g at_ 0 out) (he:js g out) (b:at_ < out.length):∀ n:Nat,n<=40->lV g at_ n ((List.range n).foldl (cO g (cE g (out.getD at_ bD).bb) at_) out)
 | 0,_=>h
 | n+1,d=>by
  have h1:=lV.row a h hi he b n (by omega)
  obtain⟨i1,i2,i3⟩:=dC.row (hi.k6 a b).1 (hi.k6 a b).2 hi n (by omega)
  obtain⟨e,c⟩:=he.row a hi b n (by omega)
  rw[Uq,T4]
  simp only[Tp,List.foldl_nil]
  have:=h1.step (by omega)
  rw[c] at this
  exact this
theorem lV.next {g:af} {at_:Nat} {out:List aL} (h:lV g at_ (g.ao.length+g.aj.length) out) (hi:dC g at_ (g.ao.length+g.aj.length) out):lV g (at_+1) 0 out:=by
 refine⟨h.one,h.back,λj b a=>?_,λa=>?_⟩
 .rcases SY j at_ with q | q
  .exact h.done j q a
  .have:j=at_:=by omega
   subst this
   exact h.here a
 .have:=(hi.bT (at_+1) _ (getD_some (d:=bD) a)).2.2 (by omega)
  rw[this];simp[jV]
structure NL (g:af) (a:List aL):Prop where
 one:(a.map aL.bb).Nodup
 back:∀ j:Nat,0 < j->j < a.length->∃ (i:Nat) (e:eU),i < j/\e∈(a.getD i bD).bT/\e.to=j
 all:∀ s∈a,s.bT.map eU.sym=jV g (cE g s.bb) (g.ao.length+g.aj.length)
theorem Aj {g:af} (a:g.cZ):∀ (f at_:Nat) (out:List aL),302<=f+at_->dC g at_ 0 out->js g out->lV g at_ 0 out->out.length<=300->(eM g f at_ out).2=0->NL g (eM g f at_ out).1
 | 0,at_,out,n,_,_,h,o,_=>⟨h.one,h.back,λs d=>by
   change s∈out at d
   obtain⟨j,i,e⟩:=TX.1 d
   have:=h.done j (by omega) i
   rwa [show out.getD j bD=s by rw[Sm,Sn i];exact e] at this⟩
 | f+1,at_,out,n,hi,he,h,o,b=>by
  have p:=a.ao
  have q:=a.aj
  rw[eM] at b ⊢
  split
  .rename_i c
   rw[St c] at b
   have hr:=dC.row (hi.k6 a c).1 (hi.k6 a c).2 hi (g.ao.length+g.aj.length) (by omega)
   have l:=he.row a hi c (g.ao.length+g.aj.length) (by omega)
   have m:=h.row a hi he c (g.ao.length+g.aj.length) (by omega)
   rw[show (List.range (g.ao.length+g.aj.length)).foldl (cO g (cE g (out.getD at_ bD).bb) at_) out=s0 g at_ out (g.ao.length+g.aj.length) from rfl] at hr l m
   split
   .rename_i k;rw[St k] at b;simp at b
   .rename_i k
    rw[Sr k] at b
    exact Aj a f (at_+1) _ (by omega) hr.1.next l.1 (m.next hr.1) (by omega) b
  .rename_i c
   exact⟨h.one,h.back,λs d=>by
    change s∈out at d
    obtain⟨j,i,e⟩:=TX.1 d
    have:=h.done j (by omega) i
    rwa [show out.getD j bD=s by rw[Sm,Sn i];exact e] at this⟩
theorem J4 {g:af} (b:g.cZ) (h:(bI g).2=0):NL g (bI g).1:=by
 unfold bI at h ⊢
 split
 .rename_i hr
  rw[St hr] at h
  refine Aj b 302 0 dI (by omega) kh ⟨rfl,λs a e he=>by simp[dI] at a;subst a;simp at he⟩ ⟨by simp[dI],λj h1 c=>by simp[dI] at c;omega,λj h1=>by omega,λ_=>?_⟩ (by simp[dI]) h
  simp[dI,jV]
 .rename_i hr
  rw[Sr hr] at h
  simp at h
theorem Dq (g:af):∀ (f at_:Nat) (out:List aL),(eM g f at_ out).2=0∨eM g f at_ out=([],5)
 | 0,_,_=>.inl rfl
 | f+1,at_,out=>by
  rw[eM]
  split
  .split
   .exact .inr rfl
   .exact Dq g f _ _
  .exact .inl rfl
theorem M6 (g:af):((bI g).2=0/\isRed g=true)∨(bI g=([],5)/\isRed g=true)∨(bI g=([],1)/\isRed g=false):=by
 unfold bI
 cases h:isRed g with
 | false=>exact .inr (.inr ⟨by simp,rfl⟩)
 | true =>
  rw[St rfl]
  rcases Dq g 302 0 dI with h | h
  .exact .inl ⟨h,rfl⟩
  .exact .inr (.inl ⟨h,rfl⟩)
theorem rf {g:af} (a:g.cZ) {x:aD} (c:b6 g x) {s:Int} (h:bo g x=(s,true)):eo g s=true:=by
 obtain⟨h1,d⟩:=sP h
 have b:x.dot.toNat < (bB g x.aw).length:=by have:=c.2;omega
 have hm:s∈bB g x.aw:=by
  rw[<-d,Sm,Sn b];exact Sx _
 unfold bB at hm
 split at hm
 .simp at hm;subst hm
  have:=a.nN;have:=a.start
  unfold eo
  rw[Sr (by omega)]
  simp;omega
 .have e:g.rules[x.aw.toNat]?=some (bH g x.aw):=by unfold bH;exact getD_some (by have:=c.1;omega)
  exact a.sym _ (SK e) s hm
def gS (a:List aL) (p:Nat) (s:Int):Nat:=(lG a p [s]).1.toNat
def qb (a:List aL) (p:Nat) (s:Int):Prop:=∃ e∈(a.getD p bD).bT,e.sym=s
noncomputable abbrev yK (g:af) (a:List aL) (p:Nat):List aD:=cE g (a.getD p bD).bb
inductive yY (a:List aL):Nat->List Int->Nat->Prop
 | nil {p:Nat} : yY a p [] p
 | cons {p q:Nat} {s:Int} {X:List Int} : qb a p s->yY a (gS a p s) X q->yY a p (s :: X) q
theorem yY.snoc {a:List aL} {p q:Nat} {X:List Int} (h:yY a p X q) {s:Int} (he:qb a q s):yY a p (X ++ [s]) (gS a q s):=by
 induction h with
 | nil=>exact .cons he .nil
 | cons h1 _ b=>exact .cons h1 (b he)
theorem Ip {a:List aL} {p:Nat} {s:Int} (h:qb a p s):p < a.length:=by
 obtain⟨e,he,_⟩:=h;exact(G6 he).1
theorem GI {l:List eU} {s:Int} (h:∃ e∈l,e.sym=s):∃ e∈l,e.sym=s/\fX l s=e.to:=by
 induction l with
 | nil=>obtain⟨e,he,_⟩:=h;simp at he
 | cons e l c =>
  rw[fX]
  by_cases a:e.sym=s
  .rw[St a];exact⟨e,by simp,a,rfl⟩
  .rw[Sr a]
   obtain⟨d,h1,b⟩:=h
   rcases SM.1 h1 with rfl | h1
   .exact absurd b a
   .obtain⟨f,g,k2⟩:=c ⟨d,h1,b⟩
    exact⟨f,by simp[g],k2⟩
theorem Of {g:af} {i j:Nat} (h:aN g i=aN g j):i=j:=by
 have h1:=vf g i
 rw[h,vf] at h1
 omega
theorem Gu (g:af) (l:List aD) (n:Nat):(jV g l n).Nodup:=by
 unfold jV
 unfold List.Nodup
 rw[List.pairwise_map]
 exact((List.nodup_range (n:=n)).filter _).imp λa e=>a (Of e)
theorem NN {l:List eU} (h:(l.map eU.sym).Nodup) {e:eU} (he:e∈l):fX l e.sym=e.to:=by
 induction l with
 | nil=>simp at he
 | cons x l a =>
  simp only[S7,Tx] at h
  rw[fX]
  rcases SM.1 he with rfl | he
  .rw[St rfl]
  .rw[Sr (λb=>h.1 (by rw[b];exact List.mem_map_of_mem he))]
   exact a h.2 he
structure dO (g:af) (a:List aL):Prop where
 gM:g.cZ
 ok:DQ g a
 e:js g a
 x:NL g a
 pos:1<=a.length
section
variable {g:af} {a:List aL}
theorem dO.bb (h:dO g a) {p:Nat} (hp:p < a.length):∀ x∈(a.getD p bD).bb,b6 g x:=(h.ok.bb _ (SK (getD_some hp))).2.2
theorem dO.has (h:dO g a) {p:Nat} (hp:p < a.length) {x:aD} (b:x∈yK g a p):b6 g x:=((fD h.gM (h.bb hp)).1 b).has (h.bb hp)
theorem dO.xf (h:dO g a) {p:Nat} (hp:p < a.length) {s:Int} : qb a p s↔∃ x∈yK g a p,bo g x=(s,true):=by
 have k:=h.x.all _ (SK (getD_some (d:=bD) hp))
 have e:qb a p s↔s∈((a.getD p bD).bT.map eU.sym):=by
  simp only[qb,S5]
 rw[e,k]
 simp only[jV,S5,TD,TL,SN]
 constructor
 .rintro⟨i,⟨hi,f⟩,rfl⟩
  obtain⟨y,l⟩:=List.exists_mem_of_ne_nil _ f
  obtain⟨x,b,c,_⟩:=oP.1 l
  exact⟨x,b,c⟩
 .rintro⟨x,b,c⟩
  obtain⟨m,n⟩:=HD (rf h.gM (h.has hp b) c)
  obtain⟨o,j⟩:=EF m
  refine⟨(lI g s).toNat,⟨by omega,?_⟩,j⟩
  rw[j]
  exact List.ne_nil_of_mem (oP.2 ⟨x,b,c,rfl⟩)
theorem dO.gS (h:dO g a) {p:Nat} {s:Int} (he:qb a p s):∃ e∈(a.getD p bD).bT,e.sym=s/\e.to=gS a p s/\gS a p s < a.length/\lG a p [s]=((gS a p s:Int),true):=by
 have hp:=Ip he
 have hm:=SK (getD_some (d:=bD) hp)
 obtain⟨e,h1,c,f⟩:=GI he
 obtain⟨t1,t2⟩:=h.ok.to _ hm _ h1
 have hw:lG a p [s]=(e.to,true):=by
  unfold lG
  rw[Sr (by omega),iw,Tf,f,St ⟨t1,t2⟩,iw]
 have b:((Gv.gS a p s:Nat):Int)=e.to:=by unfold Gv.gS;rw[hw];simp;omega
 exact⟨e,h1,c,b.symm,by omega,by rw[hw,b]⟩
theorem dO.RD (h:dO g a) {p:Nat} {s:Int} (he:qb a p s):(a.getD (Gv.gS a p s) bD).bb=aX g (yK g a p) s:=by
 have hm:=SK (getD_some (d:=bD) (Ip he))
 obtain⟨e,h1,b,c,_⟩:=h.gS he
 have:=h.e.xf _ hm e h1
 rw[c,Tf,b] at this
 exact this
theorem dO.step (h:dO g a) {p:Nat} (hp:p < a.length) {x:aD} (b:x∈yK g a p) {s:Int} (c:bo g x=(s,true)):qb a p s/\(⟨x.aw,x.dot+1⟩:aD)∈(a.getD (Gv.gS a p s) bD).bb/\(⟨x.aw,x.dot+1⟩:aD)∈yK g a (Gv.gS a p s)/\Gv.gS a p s < a.length:=by
 have he:=(h.xf hp).2 ⟨x,b,c⟩
 obtain⟨_,_,_,_,d,_⟩:=h.gS he
 have hk:(⟨x.aw,x.dot+1⟩:aD)∈(a.getD (Gv.gS a p s) bD).bb:=by
  rw[h.RD he];exact oP.2 ⟨x,b,c,rfl⟩
 exact⟨he,hk,(fD h.gM (h.bb d)).2 (.base hk),d⟩
theorem dO.prev (h:dO g a) {i:Nat} (hi:i < a.length) {x:aD} (c:x∈(a.getD i bD).bb) (f:0 < i):∃ (p:Nat) (y:aD) (s:Int),p < i/\p < a.length/\y∈yK g a p/\bo g y=(s,true)/\x=⟨y.aw,y.dot+1⟩/\qb a p s/\Gv.gS a p s=i:=by
 obtain⟨p,e,hp,he,d⟩:=h.x.back i f hi
 obtain⟨b,hm⟩:=G6 he
 have hk:=h.e.xf _ hm e he
 rw[d,Tf] at hk
 rw[hk] at c
 obtain⟨y,j,k,rfl⟩:=oP.1 c
 have l:qb a p e.sym:=⟨e,he,rfl⟩
 refine⟨p,y,e.sym,hp,b,j,k,rfl,l,?_⟩
 have h1:=NN (by rw[h.x.all _ hm];exact Gu _ _ _) he
 have hw:lG a p [e.sym]=(e.to,true):=by
  have:=h.ok.to _ hm _ he
  unfold lG
  rw[Sr (by omega),iw,Tf,h1,St this,iw]
 unfold Gv.gS
 rw[hw,d];rfl
theorem PV {x:aD} {s:Int} (b:b6 g x) (h:bo g x=(s,true)):∃ d:Nat,x.dot=d/\d < (bB g x.aw).length/\(bB g x.aw).drop d=s :: (bB g x.aw).drop (d+1):=by
 obtain⟨h1,a⟩:=sP h
 have:=b.2
 refine⟨x.dot.toNat,by omega,by omega,?_⟩
 rw[To (show x.dot.toNat < (bB g x.aw).length by omega)]
 rw[Sm,Sn (show x.dot.toNat < (bB g x.aw).length by omega)] at a
 simp at a
 rw[a]
end
section
variable {g:af} {a:List aL}
theorem Hz {x:aD} {s:Int} (a:b6 g x) (h:bo g x=(s,true)):∃ d:Nat,x.dot=d/\(bB g x.aw).drop d=s :: fI g x/\(bB g x.aw).drop (d+1)=fI g x:=by
 obtain⟨d,h1,b,f⟩:=PV a h
 have e:(bB g x.aw).drop (d+1)=fI g x:=by
  unfold fI
  by_cases c:0<=x.aw
  .rw[St c,h1,bB,Sr (by omega)];rfl
  .rw[Sr c]
   have hr:x.aw = -1:=by have:=a.1;omega
   rw[hr] at b ⊢
   simp only[bB,if_true] at b ⊢
   exact S4 (by simp)
 exact⟨d,h1,by rw[f,e],e⟩
theorem PL (b:dO g a) {q:Nat} (c:q < a.length) {C:Int} {k:Nat} (h:0<=C) (hk:k < g.rules.length) (i:(bH g k).left=C) (he:qb a q (-1 - C)):(⟨k,0⟩:aD)∈yK g a q:=by
 obtain⟨x,d,e⟩:=(b.xf c).1 he
 have f:g.rules[k]?=some (bH g k):=by unfold bH;exact getD_some hk
 exact(fD b.gM (b.bb c)).2 (.step ((fD b.gM (b.bb c)).1 d) e (by omega) f (by omega))
end
section
variable {g:af} {a:List aL}
end
section
variable {g:af} {a:List aL}
end
section
variable {g:af} {a:List aL}
end
theorem xX {g:af} (h:(bI g).2=0):isRed g=true/\dO g (bI g).1/\(bI g).1.length<=300:=by
 have hr:isRed g=true:=by
  rcases M6 g with ⟨_,hr⟩ | ⟨b,hr⟩ | ⟨b,hr⟩
  .exact hr
  .exact hr
  .rw[b] at h;simp at h
 have a:=qo hr
 obtain⟨c,d,e⟩:=NS a h
 exact⟨hr,⟨a,c,JW a h,J4 a h,d⟩,e⟩
section
variable {g:af} {a:List aL} {L:List (List Q8)}
end
section
variable {g:af} {a:List aL} {w:List Int}
end
section
variable {g:af} {a:List aL}
end
structure bt where
 st:Nat
 it:aD
 ah:List Int
 be:List Int
def R6:bt:=⟨0,⟨0,0⟩,[],[]⟩
def hZ (x y:bt):Bool:=decide (y.st=x.st) && decide (y.it=x.it)
def gH (l:List bt) (x:bt):List bt:=if l.any (hZ x)=true then l else l ++ [x]
def iK (g:af) (x:bt) (s:Int):Nat->List bt->List bt
 | 0,l=>l
 | k+1,l=>if (bH g k).left = -1 - s then gH (iK g x s k l) ⟨x.st,⟨k,0⟩,x.ah,fI g x.it ++ x.be⟩ else iK g x s k l
def fc (g:af) (a:List aL) (l:List bt) (x:bt):List bt :=
 if (bo g x.it).2=true then iK g x (bo g x.it).1 g.rules.length (gH l ⟨gS a x.st (bo g x.it).1,⟨x.it.aw,x.it.dot+1⟩,x.ah ++ [(bo g x.it).1],x.be⟩) else l
def gC (g:af) (a:List aL):Nat->Nat->List bt->List bt
 | 0,_,l=>l
 | f+1,i,l=>match l[i]? with
  | none=>l
  | some x=>gC g a f (i+1) (fc g a l x)
def j7:List bt:=[⟨0,⟨-1,0⟩,[],[]⟩]
def bW (g:af) (a:List aL):List bt:=gC g a 90000 0 j7
def cK (l:List bt) (i:Nat):bt:=(l.find? λx=>decide (x.st=i)).getD R6
def dA (g:af) (x:aD):List Int:=(bB g x.aw).drop x.dot.toNat
theorem mc {g:af} {x:aD} {s:Int} (a:b6 g x) (h:bo g x=(s,true)):dA g x=s :: fI g x/\dA g ⟨x.aw,x.dot+1⟩=fI g x:=by
 obtain⟨d,h1,b,c⟩:=Hz a h
 unfold dA
 rw[h1]
 exact⟨by rw[Tf];exact b,by simp only;rw[show ((d:Int)+1).toNat=d+1 by omega];exact c⟩
section
variable {g:af} {a:List aL}
structure Nd (g:af) (a:List aL) (x:bt):Prop where
 lt:x.st < a.length
 it:x.it∈yK g a x.st
 CN:yY a 0 x.ah x.st
 Ri:∀ w,Sp g w (x.ah ++ (dA g x.it ++ x.be)) 0 w.length->Sp g w [-1 - g.start] 0 w.length
theorem Nd.start (b:dO g a):Nd g a ⟨0,⟨-1,0⟩,[],[]⟩:=by
 refine⟨b.pos,(fD b.gM (b.bb b.pos)).2 (.base (by rw[b.e.first];simp)),.nil,λw h=>?_⟩
 simpa [dA,bB] using h
theorem Nd.move (b:dO g a) {x:bt} (h:Nd g a x) {s:Int} (c:bo g x.it=(s,true)):Nd g a ⟨gS a x.st s,⟨x.it.aw,x.it.dot+1⟩,x.ah ++ [s],x.be⟩:=by
 obtain⟨s1,s2,d,e⟩:=b.step h.lt h.it c
 obtain⟨f1,f2⟩:=mc (b.has h.lt h.it) c
 refine⟨e,d,h.CN.snoc s1,λw hw=>h.Ri w ?_⟩
 simp only at hw
 rw[f2] at hw
 rw[f1]
 simpa using hw
theorem Nd.aw (b:dO g a) {x:bt} (h:Nd g a x) {s:Int} (c:bo g x.it=(s,true)) {k:Nat} (hk:k < g.rules.length) (d:(bH g k).left = -1 - s):Nd g a ⟨x.st,⟨k,0⟩,x.ah,fI g x.it ++ x.be⟩:=by
 obtain⟨s1,s2,o,p⟩:=b.step h.lt h.it c
 obtain⟨f1,f2⟩:=mc (b.has h.lt h.it) c
 have f:g.rules[k]?=some (bH g k):=by unfold bH;exact getD_some hk
 have l:=b.gM.left _ (SK f)
 refine⟨h.lt,PL b h.lt l.1 hk rfl (by rw[d];rw[show -1 - (-1 - s)=s by omega];exact s1),h.CN,λw hw=>h.Ri w ?_⟩
 have e:dA g ⟨k,0⟩=(bH g k).right:=by
  unfold dA bB
  rw[Sr (by simp only;omega)];rfl
 simp only at hw
 rw[e] at hw
 rw[f1]
 obtain⟨i,i1,i2⟩:=Sp.split hw
 obtain⟨j,m,n⟩:=Sp.split i2
 exact i1.app (.Ku _ _ _ _ _ _ (by omega) (SK f) d m n)
def FX (x:bt):Nat:=x.st * 287+((x.it.aw+1) * 7+x.it.dot).toNat
theorem Nd.small (b:dO g a) {x:bt} (h:Nd g a x):0<=x.it.aw+1/\(x.it.aw+1) * 7+x.it.dot < 287/\0<=x.it.dot/\x.it.dot<=6:=by
 have h1:=b.has h.lt h.it
 have:=dy b.gM h1.1
 have:=h1.1;have:=h1.2;have:=b.gM.rules
 omega
theorem key_inj (f:dO g a) {x y:bt} (i:Nd g a x) (j:Nd g a y) (h:FX x=FX y):y.st=x.st/\y.it=x.it:=by
 have h1:=i.small f;have l:=j.small f
 unfold FX at h
 have k:y.st=x.st:=by omega
 have b:y.it.aw=x.it.aw:=by omega
 have c:y.it.dot=x.it.dot:=by omega
 refine⟨k,?_⟩
 cases d:x.it;cases e:y.it
 rw[d,e] at b c
 simp only at b c
 rw[b,c]
structure iG (g:af) (a:List aL) (l:List bt):Prop where
 nd:∀ x∈l,Nd g a x
 one:(l.map FX).Nodup
 len:∀ (j:Nat) (x:bt),l[j]?=some x->x.ah.length<=j/\x.be.length<=6 * j
theorem iG.short (b:dO g a) (e:a.length<=300) {l:List bt} (h:iG g a l):l.length<=86100:=by
 have:=sK 86100 _ h.one λn c=>by
  obtain⟨x,d,rfl⟩:=S5.1 c
  have h1:=h.nd x d
  have:=h1.small b;have:=h1.lt
  unfold FX
  omega
 simpa using this
def q8 (l m:List bt):Prop:=∃ t,m=l ++ t
theorem q8.refl {l:List bt} : q8 l l:=⟨[],by simp⟩
theorem q8.trans {l m n:List bt} (h:q8 l m) (k:q8 m n):q8 l n:=by
 obtain⟨t,rfl⟩:=h;obtain⟨u,rfl⟩:=k;exact⟨t ++ u,by simp⟩
theorem q8.mem {l m:List bt} (h:q8 l m) {x:bt} (a:x∈l):x∈m:=by
 obtain⟨t,rfl⟩:=h;exact SS.2 (.inl a)
theorem q8.at {l m:List bt} (h:q8 l m) {i:Nat} (hi:i < l.length):m[i]?=l[i]?/\i < m.length:=by
 obtain⟨t,rfl⟩:=h;exact⟨S9 hi,by simp;omega⟩
def zK (l:List bt) (st:Nat) (it:aD):Prop:=∃ y∈l,y.st=st/\y.it=it
theorem zK.up {l m:List bt} (h:q8 l m) {st:Nat} {it:aD} (k:zK l st it):zK m st it:=by
 obtain⟨y,a,k⟩:=k;exact⟨y,h.mem a,k⟩
theorem zA (p:dO g a) {l:List bt} (h:iG g a l) {x:bt} (k:Nd g a x) (h1:x.ah.length<=l.length) (q:x.be.length<=6 * l.length):iG g a (gH l x)/\q8 l (gH l x)/\zK (gH l x) x.st x.it:=by
 unfold gH
 split
 .rename_i d
  obtain⟨y,b,o⟩:=Uj.1 d
  simp only[hZ,SE,SN] at o
  exact⟨h,.refl,y,b,o⟩
 .rename_i d
  refine⟨⟨λy b=>?_,?_,λj y c=>?_⟩,⟨[x],rfl⟩,x,by simp,rfl,rfl⟩
  .rcases SS.1 b with b | b
   .exact h.nd y b
   .simp at b;subst b;exact k
  .rw[S0,TT]
   refine⟨h.one,by simp,λn r m hm e=>?_⟩
   obtain⟨y,b,rfl⟩:=S5.1 r
   simp at hm
   subst hm
   have:=key_inj p k (h.nd y b) e.symm
   exact d (Uj.2 ⟨y,b,by simp[hZ,this]⟩)
  .by_cases f:j < l.length
   .rw[S9 f] at c;exact h.len j y c
   .have i:=(SH.1 c).1
    simp at i
    have e:j=l.length:=by omega
    subst e
    simp at c
    subst c
    exact⟨h1,q⟩
theorem AH (c:dO g a) {x:bt} (d:Nd g a x) {s:Int} (f:bo g x.it=(s,true)):∀ (k:Nat) (l:List bt),k<=g.rules.length->iG g a l->x.ah.length<=l.length->x.be.length+6<=6 * l.length->iG g a (iK g x s k l)/\q8 l (iK g x s k l)/\∀ j:Nat,j < k->(bH g j).left = -1 - s->zK (iK g x s k l) x.st ⟨j,0⟩
 | 0,l,_,h,_,_=>⟨h,.refl,λj i=>absurd i (by omega)⟩
 | k+1,l,hk,h,h1,n=>by
  obtain⟨i1,i2,i3⟩:=AH c d f k l (by omega) h h1 n
  rw[iK]
  have hle:l.length<=(iK g x s k l).length:=by obtain⟨t,o⟩:=i2;rw[o];simp
  split
  .rename_i m
   obtain⟨f1,f2⟩:=mc (c.has d.lt d.it) f
   have hr:(fI g x.it).length<=6:=by
    have:=dy c.gM (c.has d.lt d.it).1
    have e:=congrArg List.length f1
    simp[dA] at e
    omega
   obtain⟨m1,m2,m3⟩:=zA c i1 (d.aw c f (by omega) m) (by simp only;omega) (by simp only[SV];omega)
   refine⟨m1,i2.trans m2,λj i b=>?_⟩
   by_cases e:j=k
   .subst e;exact m3
   .exact(i3 j (by omega) b).up m2
  .rename_i m
   refine⟨i1,i2,λj i b=>?_⟩
   have e:j≠k:=by rintro rfl;exact m b
   exact i3 j (by omega) b
def DK (g:af) (a:List aL) (l:List bt) (x:bt):Prop:=∀ s,bo g x.it=(s,true)->zK l (gS a x.st s) ⟨x.it.aw,x.it.dot+1⟩/\∀ k:Nat,k < g.rules.length->(bH g k).left = -1 - s->zK l x.st ⟨k,0⟩
theorem uA (c:dO g a) {l:List bt} (h:iG g a l) {i:Nat} {x:bt} (hi:l[i]?=some x):iG g a (fc g a l x)/\q8 l (fc g a l x)/\DK g a (fc g a l x) x:=by
 have j:=h.nd x (SK hi)
 have m:=(SH.1 hi).1
 have q:=h.len i x hi
 unfold fc
 split
 .rename_i d
  generalize e:(bo g x.it).1=s
  have f:bo g x.it=(s,true):=by rw[<-e,<-d]
  obtain⟨m1,m2,m3⟩:=zA c h (j.move c f) (by simp only[SV,SA,SZ];omega) (by simp only;omega)
  have hle:l.length<=(gH l ⟨gS a x.st s,⟨x.it.aw,x.it.dot+1⟩,x.ah ++ [s],x.be⟩).length:=by obtain⟨t,n⟩:=m2;rw[n];simp
  obtain⟨o,k,p⟩:=AH c j f g.rules.length _ (Sy _) m1 (by omega) (by omega)
  refine⟨o,m2.trans k,λr b=>?_⟩
  rw[f] at b
  simp only[Su,and_true] at b
  subst b
  exact⟨m3.up k,p⟩
 .rename_i d
  exact⟨h,.refl,λs e=>absurd (by rw[e]) d⟩
theorem A5 (d:dO g a) (p:a.length<=300):∀ (f i:Nat) (l:List bt),iG g a l->i<=l.length->86101<=f+i->(∀ (j:Nat) (x:bt),j < i->l[j]?=some x->DK g a l x)->iG g a (gC g a f i l)/\q8 l (gC g a f i l)/\∀ x∈gC g a f i l,DK g a (gC g a f i l) x
 | 0,i,l,h,hi,q,hw=>absurd (h.short d p) (by omega)
 | f+1,i,l,h,hi,q,hw=>by
  rw[gC]
  cases e:l[i]? with
  | none =>
   have:=List.getElem?_eq_none_iff.1 e
   simp only
   refine⟨h,.refl,λx r=>?_⟩
   obtain⟨j,m⟩:=List.getElem?_of_mem r
   have u:=(SH.1 m).1
   exact hw j x (by omega) m
  | some x =>
   simp only
   have n:=(SH.1 e).1
   obtain⟨v,b,w⟩:=uA d h e
   have hle:l.length<=(fc g a l x).length:=by obtain⟨t,z⟩:=b;rw[z];simp
   obtain⟨A,B,C⟩:=A5 d p f (i+1) _ v (by omega) (by omega) λj y m c=>by
    by_cases o:j=i
    .subst o
     rw[(b.at n).1,e] at c
     simp at c
     subst c
     exact w
    .rw[(b.at (i:=j) (by omega)).1] at c
     intro s D
     obtain⟨E,F⟩:=hw j y (by omega) c s D
     exact⟨E.up b,λk hk G=>(F k hk G).up b⟩
   exact⟨A,b.trans B,C⟩
theorem vp (d:dO g a):iG g a j7:=by
 refine⟨λx c=>?_,by simp[j7],λj x b=>?_⟩
 .simp[j7] at c;subst c;exact .start d
 .have:=(SH.1 b).1
  simp[j7] at this
  subst this
  simp[j7] at b
  subst b
  simp
theorem uP (b:dO g a) (c:a.length<=300):iG g a (bW g a)/\(∀ x∈bW g a,DK g a (bW g a) x)/\zK (bW g a) 0 ⟨-1,0⟩:=by
 obtain⟨d,e,f⟩:=A5 b c 90000 0 j7 (vp b) (TP _) (by omega) λj x h=>absurd h (by omega)
 exact⟨d,f,⟨0,⟨-1,0⟩,[],[]⟩,e.mem (by simp[j7]),rfl,rfl⟩
theorem PC (b:dO g a) (r:a.length<=300):∀ n p:Nat,p < n->p < a.length->∀ y∈yK g a p,zK (bW g a) p y:=by
 obtain⟨h1,m,t⟩:=uP b r
 intro n
 induction n with
 | zero=>intro p hp;omega
 | succ n v =>
  intro p hp c y w
  have A:=(fD b.gM (b.bb c)).1 w
  induction A with
  | base hk =>
   by_cases d:p=0
   .subst d
    rw[b.e.first] at hk
    simp at hk
    subst hk
    exact t
   .obtain⟨q,z,s,I,B,C,D,rfl,J,E⟩:=b.prev c hk (by omega)
    obtain⟨u,hu,f,h⟩:=v q (by omega) B z C
    subst h
    have:=(m u hu s D).1
    rw[f,E] at this
    exact this
  | @step x s k R F G K o H i =>
   have j:=(fD b.gM (b.bb c)).2 F
   obtain⟨u,hu,f,h⟩:=i j
   subst h
   have hk:=(SH.1 o).1
   have l:bH g k=R:=by unfold bH;rw[Tf,Sm,o];rfl
   have:=(m u hu _ G).2 k hk (by rw[l];exact H)
   rw[f] at this
   exact this
theorem zg (b:dO g a) (f:a.length<=300) {i:Nat} (hi:i < a.length):cK (bW g a) i∈bW g a/\(cK (bW g a) i).st=i/\Nd g a (cK (bW g a) i):=by
 obtain⟨h1,k,l⟩:=uP b f
 have c:∃ y,y∈yK g a i:=by
  have hk:=(b.ok.bb (a.getD i bD) (SK (getD_some hi))).2.1
  obtain⟨y,d⟩:=List.exists_mem_of_ne_nil _ hk
  exact⟨y,(fD b.gM (b.bb hi)).2 (.base d)⟩
 obtain⟨y,d⟩:=c
 obtain⟨u,hu,j,m⟩:=PC b f _ i (Nat.lt_succ_self i) hi y d
 unfold cK
 cases e:(bW g a).find? λx=>decide (x.st=i) with
 | none =>
  have:=List.find?_eq_none.1 e u hu
  simp[j] at this
 | some z =>
  have h:=List.find?_some e
  have z2:=List.mem_of_find?_eq_some e
  simp at h
  exact⟨z2,h,h1.nd z z2⟩
end
theorem As {g:af} {a l b:List Int} (h:(fG g (a ++ l ++ b)).2=0):fG g l=(dZ g (aA g) g.aj.length l,0):=by
 unfold fG at h
 split at h
 .rename_i h1
  split at h
  .simp at h
  .rename_i e
   split at h
   .simp at h
   .rename_i f
    simp only[List.all_append,SE] at h1
    have c:=(kP (aA g) (a ++ l ++ b) bp).1 (by simpa using e)
    have d:kX (aA g) l:=λx i=>c x (by simp[i])
    have t1:=pQ g g.aj.length (a ++ l ++ b) bp (xF c) ko
    have t2:=pQ g g.aj.length l bp (xF d) ko
    simp only[kq,jh,SV,bp] at t1 t2
    have j:(bL (aA g) l bp).2=true:=(kP _ _ _).2 d
    simp only[bp] at f
    unfold fG
    rw[St (by rw[SE];exact⟨h1.1,h1.2.1.2⟩),Sr (by rw[j];simp),Sr]
    simp only[bp]
    omega
 .simp at h
section
variable {g:af} {a:List aL}
def RK (g:af) (l:List bt) (i:Nat):List Int × List Int:=((cK l i).ah,dA g (cK l i).it ++ (cK l i).be)
def eW (g:af) (a:List aL) (i:Nat):List Int × List Int:=RK g (bW g a) i
structure uy where
 state:Int
 len:Int
 word:List Int
def Jl (g:af) (a:List aL) (i:Nat):uy:=⟨i,((fG g (eW g a i).1).1.length:Int),(fG g ((eW g a i).1 ++ (eW g a i).2)).1⟩
end
theorem No {g:af} {u v:List Int} (h:(fG g (u ++ v)).2=0):(fG g u).2=0/\(fG g u).1.length<=(fG g (u ++ v)).1.length:=by
 have h1:=As (a:=[]) (l:=u) (b:=v) (by simpa using h)
 have c:=As (a:=[]) (l:=u ++ v) (b:=[]) (by simpa using h)
 rw[h1,c]
 refine⟨rfl,?_⟩
 simp only
 rw[jh,SV]
 omega
theorem vV {g:af} {x:bt} {s:Int} (h:∀ k:Nat,k < g.rules.length->(bH g k).left≠-1 - s):∀ (k:Nat) (l:List bt),k<=g.rules.length->iK g x s k l=l
 | 0,_,_=>rfl
 | k+1,l,hk=>by
  rw[iK,Sr (h k (by omega)),vV h k l (by omega)]
def fM:List bt->Int->Nat->Int
 | [],_,_=>-1
 | x :: l,i,n=>if (x.st:Int)=i then n else fM l i (n+1)
theorem Bh (i:Int):∀ (l:List bt) (n:Nat) (x:bt),fM (l ++ [x]) i n=if fM l i n < 0 then (if (x.st:Int)=i then ((n+l.length:Nat):Int) else -1) else fM l i n
 | [],n,x=>by simp[fM]
 | y :: l,n,x=>by
  rw[Th,fM,fM]
  split
  .rw[Sr (by omega)]
  .rw[Bh i l (n+1) x]
   split
   .split
    .simp only[SA];congr 1;omega
    .rfl
   .rfl
theorem yp (i:Nat):∀ (l:List bt) (n:Nat),(∃ x∈l,x.st=i)->∃ k:Nat,fM l i n=((n+k:Nat):Int)/\k < l.length/\l[k]?=some (cK l i)
 | [],_,h=>by obtain⟨x,a,_⟩:=h;simp at a
 | y :: l,n,h=>by
  rw[fM]
  by_cases e:y.st=i
  .rw[St (by omega)]
   exact⟨0,rfl,by simp,by simp[cK,e]⟩
  .rw[Sr (by omega)]
   obtain⟨x,a,hi⟩:=h
   have b:x∈l:=by
    rcases SM.1 a with rfl | a
    .exact absurd hi e
    .exact a
   obtain⟨k,h1,d,c⟩:=yp i l (n+1) ⟨x,b,hi⟩
   refine⟨k+1,by rw[h1];congr 1;omega,by simp only[SA];omega,?_⟩
   rw[Tl,c]
   simp[cK,e]
theorem Mf (us:List (List Int)) (w:us.flatten.length<=1000000) (hu:us.length<=1000):cT Tryz.prog 68 [.aT (O7 us)] (encI us.flatten):=by
 have d:∀ i,(us.take i).flatten.length<=1000000:=λi=>by
  have:=List.take_append_drop i us
  have b:us.flatten=(us.take i).flatten ++ (us.drop i).flatten:=by rw[<-List.flatten_append,this]
  rw[b,SV] at w;omega
 refine cT.of (by intro v g;simp at g;subst g;exact eY _ _ λx _ v g=>by simp at g;subst g;exact bU x) ?_
 refine au.of mixed nO ?_
 simp(disch:=omega)only[↓wr,seval,wq,jB]
 refine aY.up us.length (λi T H'=>H'=(λ_=>.dead)/\T 0=.aT (O7 us)/\T 3=gi (us.take i).flatten.length/\T 9=.aT (O7 us)/\T 10=gi us.length/\T 11=gi i) ⟨rfl,rfl,rfl,rfl,rfl,rfl⟩ ?_
 rintro i k T H1 hk ⟨rfl,t0,t3,t9,t10,t11⟩
 simp(disch:=omega)only[↓wr,seval,wq,iW,t0,t3,t9,t10,t11]
 apply ai.dec<;>intro hi
 .have b:us[i]?=some (us[i]'(by omega)):=Sn (by omega)
  have a:us.take (i+1)=us.take i ++ [us[i]'(by omega)]:=by rw[S6,b];rfl
  have c:=d (i+1)
  generalize us[i]'(by omega)=x at b a
  rw[a] at c
  simp only[List.flatten_append,List.flatten_cons,List.flatten_nil,Ue,SV] at c
  simp(disch:=omega)only[↓wr,seval,wq,t0,t3,t9,t10,t11,Ss,b,SD,encI]
  refine ai.dec (λh=>absurd h (by omega)) (λ_=>?_)
  simp(disch:=omega)only[↓wr,seval,wq,t0,t3,t9,t10,t11]
  refine aH hk (by omega) ⟨rfl,t0,?_,t9,t10,rfl⟩
  rw[a,List.flatten_append,SV,List.flatten_cons,List.flatten_nil,Ue]
  push_cast
  rfl
 .simp(disch:=omega)only[↓wr,seval,wq,t0,t3,t9,t10,t11]
  have e:us.take i=us:=SL (by omega)
  rw[e]
  refine av.dW ((IZ _ w _).mono ?_)
  intro r y hr
  have j:DN y r []:=by
   rcases hr with ⟨_,rfl,rfl⟩ | ⟨_,m,es,hm,rfl,rfl⟩
   .exact .inl .nil
   .exact .inr ⟨rfl,m,es,rfl,by simp[View.set]⟩
  have l:us.flatten.length=0->aJ y r 1 (bC []):=λo=>by
   rcases hr with ⟨_,rfl,_⟩ | ⟨h1,_⟩
   .exact .nil
   .omega
  simp(disch:=omega)only[↓wr,seval,wq,t0,t3,t9,t10,t11]
  refine aY.up us.length (λi T H'=>∃ u,T 6=u/\DN H' u (us.take i).flatten/\(us.flatten.length=0->aJ H' u 1 (bC (us.take i).flatten))/\T 25=.aT (O7 us)/\T 26=gi us.length/\T 27=gi i) ⟨r,rfl,j,l,rfl,rfl,rfl⟩ ?_
  rintro i k T A hk ⟨u,t6,p,q,t25,t26,t27⟩
  simp(disch:=omega)only[↓wr,seval,wq,jc,t6,t25,t26,t27]
  apply ai.dec<;>intro hi
  .have b:us[i]?=some (us[i]'(by omega)):=Sn (by omega)
   have a:us.take (i+1)=us.take i ++ [us[i]'(by omega)]:=by rw[S6,b];rfl
   have c:=d (i+1)
   generalize us[i]'(by omega)=x at b a
   rw[a,List.flatten_append,SV,List.flatten_cons,List.flatten_nil,Ue] at c
   simp(disch:=omega)only[↓wr,seval,wq,t6,t25,t26,t27,Ss,b,SD,encI,lj]
   refine JJ p (by unfold aC;omega) (by unfold aC;omega) rfl ?_
   intro z B s t C
   simp(disch:=omega)only[↓wr,seval,wq,t6,t25,t26,t27]
   refine aH hk (by omega) ⟨z,rfl,?_,λo=>?_,t25,t26,rfl⟩
   .rw[a];simpa using s
   .rw[a];simpa using t (q o)
  .simp(disch:=omega)only[↓wr,seval,wq,t6,t25,t26,t27]
   have e:us.take i=us:=SL (by omega)
   rw[e] at p q
   intro D g
   refine dH.Je (sz:=1) (f:=λn=>.int .i64 n) ?_
   rw[g]
   rcases p with p | ⟨o,m,es,rfl,hm⟩
   .exact p
   .have:=q (by rw[o];rfl)
    rw[o] at this ⊢;exact this
def xH (v:V) (l:List Int):Prop:=v=encI l∨(l=[]/\v=.emp 1)
theorem xH.j4 {v:V} {l:List Int} (h:xH v l) {H:View} : cg H v (encI l):=by
 rcases h with rfl | ⟨rfl,rfl⟩
 .exact .tree (bU l)
 .exact λ_ _=>.emp 1
theorem xH.eL {v:V} {l:List Int} (h:xH v l):aE v=true/\V.cells v=[v]/\Tree v:=by
 rcases h with rfl | ⟨rfl,rfl⟩
 .exact⟨rfl,rfl,bU l⟩
 .exact⟨rfl,rfl,.emp 1⟩
structure dN where
 n:bt
 a:V
 b:V
structure dN.Ok (x:dN):Prop where
 a:xH x.a x.n.ah
 b:xH x.b x.n.be
def df (x:dN):List V:=[gi x.n.st,gi x.n.it.aw,gi x.n.it.dot,x.a,x.b]
def zq (S:List dN) (x:dN):List dN:=if S.any (λy=>hZ x.n y.n)=true then S else S ++ [x]
theorem ML (S:List dN) (x:dN):(zq S x).map dN.n=gH (S.map dN.n) x.n:=by
 unfold zq gH
 rw[List.any_map]
 have e:(hZ x.n∘dN.n)=λy:dN=>hZ x.n y.n:=rfl
 rw[e]
 split <;> simp
theorem H8 {S:List dN} {x:dN} (b:∀ y∈S,y.Ok) (c:x.Ok):∀ y∈zq S x,y.Ok:=by
 unfold zq
 split
 .exact b
 .intro y a
  rcases SS.1 a with a | a
  .exact b y a
  .simp at a;subst a;exact c
def pK:SF:=⟨ae [ab [bQ 4 1],ab [bQ 5 2,aa 6 0,gD 7 1 8 5 6,aa 8 1,gD 9 1 8 7 8,aa 4 9],.ret],
 [.tmp 4],10⟩
theorem te:aI Tryz.prog 65 []=some pK:=by kernel_rfl
def nU:SF:=⟨ae [ab [cG 2 0,bQ 4 1],ae [ab [aa 5 1,aF 6 .lss 5 0],bf 6 (ae [ab [al 7 3 2,ak 8 7,((some 9),.op (.arith .sub (.val (.val (.int .i64 (-1)))) (.tmp 8))),((some 10),.op (.bN 1 1 [(.val (.int .i64 0))] [(0,(.tmp 9))])),aa 4 10],.ret])],ab [al 11 2 2,ak 12 11,aa 13 1,aZ 14 3 12 13,al 15 1 14,ak 16 15,aa 4 16],.ret],
 [.tmp 4],17⟩
theorem sH:aI Tryz.prog 66 [2]=some nU:=by kernel_rfl
def nZ:SC :=
 ae [ae [ab [aa 6 5,aa 7 0,aP 8 7,aU 9 .lss 6 8],cb 9 (.exit 0)],.block 1 (ae [.region false [⟨none,[aa 12 0,aa 13 5,aZ 14 5 12 13,al 15 0 14,ak 16 15,al 17 0 3,ak 18 17,aU 19 .eql 16 18,aa 20 19]⟩,⟨(some (20,true)),[aa 21 0,aa 22 5,aZ 23 5 21 22,al 24 1 23,ba 25 2 24,al 26 1 3,ba 27 2 26,((some 28),.op (.old (.binOp .eql 120 (.tmp 25) (.tmp 27) 120) 4))]⟩,⟨none,[eA 29 20 28]⟩],bf 29 (ae [ab [aa 30 0,aa 4 30],.ret])]),ab [aa 10 5,aF 11 .add 10 1,aa 5 11]]
def qk:SF:=⟨ae [ab [cG 3 1,bQ 4 1],ae [ab [aR 5 0],cd 0 nZ],ab [aa 31 0,ba 32 5 3,((some 33),.op (.bN 1 5 [(.val (.int .i64 0)),(.val (.int .i64 0)),(.val (.int .i64 0)),(.emp 1),(.emp 1)] [(0,(.tmp 32))])),gD 34 5 72 31 33,aa 4 34],.ret],
 [.tmp 4],35⟩
theorem uW:aI Tryz.prog 128 [3]=some qk:=by kernel_rfl
theorem wT (a b:List Int) (e:a.length+b.length<=1000000):cT Tryz.prog 65 [encI a,encI b] (encI (a ++ b)):=by
 refine cT.of (by
  intro v c;simp at c
  rcases c with rfl | rfl <;> exact bU _) ?_
 refine au.of mixed te ?_
 simp(disch:=omega)only[↓wr,seval,wq,pK,encI,lj]
 refine fE (es:=[]) .nil (by simp[T8,aE]) (by unfold aC;simp;omega) (by unfold aC;simp;omega) ?_
 intro u H o _
 simp(disch:=omega)only[↓wr,seval,wq,lj]
 refine fE o (by simp[T8,aE]) (by unfold aC;simp;omega) (by unfold aC;simp;omega) ?_
 intro g h d _
 simp(disch:=omega)only[↓wr,seval,wq]
 intro i c
 refine dH.Je (sz:=1) (f:=λn=>.int .i64 n) ?_
 rw[c]
 simpa using d
theorem AP (g:af) (c:bK (-1 - g.start)) (r:Int) (h : -1<=r/\r < g.rules.length):ay Tryz.prog 66 [.agg (ag g),gi r] (encI (bB g r)):=by
 refine ay.of (by
  intro v a;simp at a
  rcases a with rfl | rfl
  .exact cn _ (cM g)
  .exact .val _) ?_
 unfold bK at c
 refine au.of mixed sH ?_
 simp(disch:=omega)only[↓wr,seval,wq,nU,ag,encS]
 unfold bB
 apply ai.dec<;>intro h1
 .rw[St (by omega)]
  simp(disch:=omega)only[↓wr,seval,wq,ag,encS]
  intro n b a
  exact cg.own (sz:=1) (es:=bC [-1 - g.start]) (.inr ⟨n,rfl,by simp[View.set]⟩) (by intro e he v a;simp at he;subst he;simp at a;subst a;exact .val _) b a
 .rw[Sr (by omega)]
  have d:g.rules[r.toNat]?=some (bH g r):=by unfold bH;exact getD_some (by omega)
  simp(disch:=omega)only[↓wr,seval,wq,ag,encS,aQ,Ss,d,SD]
  intro b _
  exact .tree _ (bU _)
theorem Ln {x:dN} (c:x.Ok):(([df x]:List (List V)).all λe=>e.length == 5 && e.all aE)=true:=by
 simp only[df,TU,List.all_nil,c.a.eL.1,c.b.eL.1];rfl
theorem F5 (S:List dN) (x:dN) (t:x.Ok) (K:S.length<=90000) (u:V) (H:View) (s:aJ H u 5 (S.map df)):au Tryz.prog 128 [u,.agg (df x)] H λr H'=>aJ H' r 5 ((zq S x).map df)/\Left H H' u r:=by
 refine au.of mixed uW ?_
 have hlen:bZ u=some S.length:=by rw[s.len];simp
 have e:=Ln t
 obtain⟨⟨f,v,_⟩,⟨g,w,_⟩⟩:=And.intro t.a.eL t.b.eL
 simp only[df] at e
 simp(disch:=omega)only[↓wr,seval,wq,qk,df,f,v,g,w]
 refine aY.up S.length (λi T H'=>H'=H/\((S.take i).any λy=>hZ x.n y.n)=false/\T 0=u/\T 3=.aG (df x) 0/\T 5=gi i) ⟨rfl,rfl,rfl,rfl,rfl⟩ ?_
 rintro i k T H' hk ⟨E,c,t0,t3,t5⟩
 subst E
 simp(disch:=omega)only[↓wr,seval,wq,nZ,t0,t3,t5,hlen]
 apply ai.dec<;>intro F
 .have z:S[i]?=some (S[i]'(by omega)):=Sn (by omega)
  have h:S.take (i+1)=S.take i ++ [S[i]'(by omega)]:=by rw[S6,z];rfl
  have j:=Sx (show i < S.length by omega)
  generalize S[i]'(by omega)=y at z h j
  obtain⟨id,hu,l⟩:=s.sl (by simp;omega)
  rw[Sv] at hu
  have B:(S.map df).getD i []=df y:=by simp[Sm,z]
  simp(disch:=omega)only[↓wr,seval,wq,t0,t3,t5,hu,l,B,df]
  refine⟨by omega,by first | omega | (simp;omega),?_⟩
  have m:((S.take (i+1)).any λy=>hZ x.n y.n)=hZ x.n y.n:=by
   rw[h,List.any_append,c];simp
  apply ai.eq<;>intro G
  .simp(disch:=omega)only[↓wr,seval,wq,t0,t3,t5,hu,l,B,df]
   refine⟨by omega,by first | omega | (simp;omega),?_⟩
   refine iL (xs:=#[.int .i64 y.n.it.aw,.int .i64 y.n.it.dot]) (ys:=#[.int .i64 x.n.it.aw,.int .i64 x.n.it.dot]) Tryz.underlying120 (by kernel_rfl) (by kernel_rfl) ?_ ?_ (pj y.n.it x.n.it) (.inl ⟨rfl,rfl⟩) ?_
   .rfl
   .rfl
   rw[xx]
   have p:hZ x.n y.n=decide (y.n.it=x.n.it):=by
    unfold hZ
    rw[decide_eq_true (by omega:y.n.st=x.n.st),TC]
   simp(disch:=omega)only[↓wr,seval,wq,t0,t3,t5]
   apply ai.dec<;>intro A
   .simp(disch:=omega)only[↓wr,seval,wq,t0]
    have d:zq S x=S:=St (Uj.2 ⟨y,j,by rw[p];simpa using A⟩)
    rw[d]
    exact⟨s,.refl⟩
   .simp(disch:=omega)only[↓wr,seval,wq,t0,t3,t5]
    refine aH hk (by omega) ⟨rfl,?_,t0,t3,rfl⟩
    rw[m,p];simpa using A
  .simp(disch:=omega)only[↓wr,seval,wq,t0,t3,t5]
   refine aH hk (by omega) ⟨rfl,?_,t0,t3,rfl⟩
   rw[m]
   unfold hZ
   rw[decide_eq_false (by omega:¬ y.n.st=x.n.st),TV]
 .rw[SL (by omega)] at c
  have d:zq S x=S ++ [x]:=Sr (by rw[c];simp)
  simp(disch:=omega)only[↓wr,seval,wq,t0,t3,df,f,g]
  intro q C
  have D:=s.fresh (o:=.arr 5 [df x]) C
  simp only[df] at D
  simp(disch:=omega)only[↓wr,seval,wq,bO,t0,t3]
  refine rO D (by simp) e (by unfold aC;simp;omega) (by unfold aC;simp;omega) ?_
  intro r L I J
  simp(disch:=omega)only[↓wr,seval,wq]
  rw[d]
  refine⟨?_,J.behind C⟩
  rw[S0]
  exact I
section
variable {κ:Type} [BEq κ] [LawfulBEq κ] {kv:κ->V} {P:Program} {T:Env} {H:View} {kt et t ty:TypeId}
end
section
variable {H:View} {b:Nat} {g:af} {a:List aL} {ul us:V} {vs:List V} {ls:List (List aD)} {ss:Sets} {more:Bool} {L:List dG}
end
section
variable {H:View} {b:Nat} {g:af} {a:List aL} {ul us:V} {vs:List V} {ls:List (List aD)} {ss:Sets} {more:Bool} {L:List dG}
end
section
variable {H:View} {b:Nat} {g:af} {a:List aL} {ul us:V} {vs:List V} {ls:List (List aD)} {ss:Sets} {more:Bool} {L:List dG}
end
inductive jj (P:Program) (d:Nat) (xs ys:Array Value):List Field->Bool->Prop
 | nil:jj P d xs ys [] true
 | any (f:Field) (l:List Field) (c e:Bool) (a b:Value):(f.name≠ "_")->aW P (part f.type xs f.offset)=some a->aW P (part f.type ys f.offset)=some b->aW P (Op.equalIn (d+1) f.type a b)=some e->jj P d xs ys l c->jj P d xs ys (f :: l) (e && c)
theorem jj.forIn {P:Program} {d e:Nat} {xs ys:Array Value} {l:List Field} {c:Bool} (h:jj P d xs ys l c) (g:e=d+1) :
  aW P (forIn l ((none:Option Bool),()) λf _ =>
   if f.name≠ "_" then do
    let a <-part f.type xs f.offset
    let b <-part f.type ys f.offset
    let e <-Op.equalIn e f.type a b
    if (!e)=true then pure (ForInStep.done (some false,())) else pure (ForInStep.yield (none,()))
   else pure (ForInStep.yield (none,())))=some (if c=true then (none,()) else (some false,())):=by
 subst g
 induction h with
 | nil=>rfl
 | any f l c e a b i j k he _ m =>
  rw[List.forIn_cons,aO,St i,aO,j,Td,aO,k,Td,aO,he,Td]
  cases e with
  | false=>rfl
  | true=>exact m
theorem tJ {P:Program} {d:Nat} {t:TypeId} {b:Array Field} {xs ys:Array Value} {c:Bool} (hu:P.underlying t=some (.struct b)) (f:P.stoodInHeld t=false) (h:jj P d xs ys b.toList c) :
  aW P (Op.equalIn (d+1+1) t (.agg xs) (.agg ys))=some c:=by
 rw[Op.equalIn,aO,dE hu,Td]
 have a:(aW P program)=some P:=rfl
 rw[aO,a,Td,f]
 simp only[<-Array.forIn_toList,SU,if_false]
 rw[aO,h.forIn (e:=d+1) rfl,Td]
 cases c <;> rfl
theorem sJ {P:Program} {d:Nat} {t:TypeId} {k:IntKind} (hu:P.underlying t=some (.int k)) (a b:Int):aW P (Op.equalIn (d+1) t (.int k a) (.int k b))=some (a == b):=by
 simp only[Op.equalIn,aO,dE hu,Td];rfl
theorem Pj {κ:Type} [BEq κ] {P:Program} {kt:TypeId} {kv:κ->V} (val:κ->Value) {n:Array Field} (l:∀ k,c5 (kv k)=some (val k)) (hu:P.underlying kt=some (.struct n))
  (heq:∀ a b,aW P (Op.equal kt (val a) (val b))=some (a == b)) (c:∀ k e,aW P (Instr.checkKey e 10000 kt (val k))=some ()) (o:∀ k,sameKey (kv k) (kv k)=true):Ca P kt kv where
 same:=o
 find:=by
  have d:∀ m:cp κ,gO (cP kv m)=some (m.map λx=>{ key:=val x.1,val:=.nilFunc,born:=x.2.2 }):=by
   intro m
   induction m with
   | nil=>rfl
   | cons x r g =>
    simp only[cP] at g
    simp[cP,gO,l,g]
  have f:∀ (k:κ) (m:cp κ) (i:Nat),aW P (Instr.findAsking kt (val k) (m.map λx=>{ key:=val x.1,val:=.nilFunc,born:=x.2.2 }) i)=some ((gf k m).map λj=>(i+j,.nilFunc)):=by
   intro k m
   induction m with
   | nil=>intro i;rfl
   | cons x r g =>
    intro i
    simp only[S7,Instr.findAsking,aO,heq,Td,gf]
    cases hk:k == x.1 with
    | true=>simp[EO]
    | false =>
     simp only[SU,if_false,g (i+1),Option.map_map]
     congr 2
     funext j
     simp only[Function.comp]
     congr 1
     omega
  intro k e m
  have h:aW P (underlying kt)=some _:=dE hu
  simp only[lE,l,d,aO,c,Td]
  have:aW P (Instr.findKey kt (val k) (m.map λx=>{ key:=val x.1,val:=.nilFunc,born:=x.2.2 }))=some ((gf k m).map λj=>(0+j,.nilFunc)):=by
   unfold Instr.findKey
   rw[aO,h,Td]
   cases m with
   | nil=>rfl
   | cons x r=>exact f k (x :: r) 0
  rw[this]
  cases gf k m with
  | none=>rfl
  | some j=>simp
abbrev uH:=Int × Int × Int
def qW (x:uH):V:=.agg [gi x.1,gi x.2.1,gi x.2.2]
def xg (x:uH):Value:=.agg #[.int .i64 x.1,.int .i64 x.2.1,.int .i64 x.2.2]
def hQ (x:bt):uH:=((x.st:Int),x.it.aw,x.it.dot)
theorem Cu (x y:bt):(hQ x == hQ y)=hZ x y:=by
 obtain⟨s,⟨r,d⟩,a,b⟩:=x
 obtain⟨f,⟨g,h⟩,i,j⟩:=y
 rw[TE]
 simp[hQ,hZ]
 constructor
 .rintro⟨h1,c,e⟩;exact⟨by omega,c.symm,e.symm⟩
 .rintro⟨h1,c,e⟩;exact⟨by omega,c.symm,e.symm⟩
theorem P0 (a b c d:Int):jj Tryz.prog 9997 #[.int .i64 a,.int .i64 b] #[.int .i64 c,.int .i64 d]
  [{ name:= "Rule",type:=3,offset:=0,embedded:=false,tag:= "",pkgPath:= "",byteOffset:=0 },{ name:= "Dot",type:=3,offset:=1,embedded:=false,tag:= "",pkgPath:= "",byteOffset:=8 }] ((a == c) && ((b == d) && true)) :=
 .any _ _ _ _ _ _ (by decide) (eT Tryz.underlying3 (.inr ⟨_,rfl⟩) _ _ rfl) (eT Tryz.underlying3 (.inr ⟨_,rfl⟩) _ _ rfl) (sJ Tryz.underlying3 _ _)
  (.any _ _ _ _ _ _ (by decide) (eT Tryz.underlying3 (.inr ⟨_,rfl⟩) _ _ rfl) (eT Tryz.underlying3 (.inr ⟨_,rfl⟩) _ _ rfl) (sJ Tryz.underlying3 _ _) .nil)
theorem CP (a b c:Int):aW Tryz.prog (part 120 #[.int .i64 a,.int .i64 b,.int .i64 c] 1)=some (.agg #[.int .i64 b,.int .i64 c]):=by kernel_rfl
theorem Ju (x y:uH):aW Tryz.prog (Op.equal 218 (xg x) (xg y))=some (x == y):=by
 rw[jw,xg,xg]
 have h:jj Tryz.prog 9998 #[.int .i64 x.1,.int .i64 x.2.1,.int .i64 x.2.2] #[.int .i64 y.1,.int .i64 y.2.1,.int .i64 y.2.2]
  [{ name:= "state",type:=3,offset:=0,embedded:=false,tag:= "",pkgPath:= "gerund/access",byteOffset:=0 },{ name:= "item",type:=120,offset:=1,embedded:=false,tag:= "",pkgPath:= "gerund/access",byteOffset:=8 }] ((x.1 == y.1) && (((x.2.1 == y.2.1) && ((x.2.2 == y.2.2) && true)) && true)) :=
  .any _ _ _ _ _ _ (by decide) (eT Tryz.underlying3 (.inr ⟨_,rfl⟩) _ _ rfl) (eT Tryz.underlying3 (.inr ⟨_,rfl⟩) _ _ rfl) (sJ Tryz.underlying3 _ _)
  (.any _ _ _ _ _ _ (by decide) (CP _ _ _) (CP _ _ _) (tJ Tryz.underlying120 (by kernel_rfl) (P0 x.2.1 x.2.2 y.2.1 y.2.2)) .nil)
 rw[tJ Tryz.underlying218 (by kernel_rfl) h]
 obtain⟨a,b,c⟩:=x
 obtain⟨d,e,f⟩:=y
 congr 1
 rw[TE]
 simp
theorem Kk (x:uH) (e:Bool):aW Tryz.prog (Instr.checkKey e 10000 218 (xg x))=some ():=by
 cases e <;> kernel_rfl
theorem Nl:Ca Tryz.prog 218 qW :=
 Pj xg (λ_=>rfl) Tryz.underlying218 Ju Kk λk=>by simp[sameKey,show c5 (qW k)=some (xg k) from rfl,xg,Instr.sameBits]
def fj:SC :=
 ae [ab [aU 9 .lss 8 7],cb 9 (.exit 0),.block 1 (ae [ab [aa 10 8,aa 5 10],ab [aa 11 1,aa 12 0,aa 13 5,aZ 14 2 12 13,ba 15 2 14,((some 16),.call (.tmp 11) [(.tmp 15)])],bf 16 (ae [ab [aa 17 5,aa 4 17],.ret])]),ab [aF 18 .add 8 1,aa 8 18]]
def fC:SF:=⟨ae [ab [aR 4 0],ae [ab [aa 6 0,aP 7 6,aR 8 0],cd 0 fj],ab [aR 4 (-1)],.ret],
 [.tmp 4],19⟩
theorem iX:aI Tryz.prog 249 []=some fC:=by kernel_rfl
def vy:SF:=⟨ae [ab [cG 2 0,bm 3 false],ab [al 4 0 2,ak 5 4,ak 6 1,aU 7 .eql 5 6,aa 3 7],.ret],
 [.tmp 3],8⟩
theorem yR:aI Tryz.prog 250 [2]=some vy:=by kernel_rfl
def vH:SC :=
 ae [ab [aU 24 .lss 23 22],cb 24 (.exit 0),.block 1 (ae [ab [aZ 25 1 21 23,ak 26 25,((some 10),.op (.alloc [(.val (.int .i64 0))])),cL 1 10 26],ab [aa 27 0,aa 28 8,aZ 29 2 27 28,al 30 1 29,ak 31 30,((some 32),.op (.sF 250 [] [(.tmp 10)])),bg 33 249 [31,32],aa 11 33],ae [ab [aa 34 11,aF 35 .lss 34 0],bf 35 (ae [ab [aR 6 0,bm 7 false],.ret])],ab [aa 36 0,aa 37 8,aZ 38 2 36 37,al 39 1 38,ak 40 39,aa 41 11,aZ 42 2 40 41,al 43 1 42,ak 44 43,aa 8 44],.region false [⟨none,[aa 45 8,aF 46 .lss 45 0,aa 47 46]⟩,⟨(some (47,false)),[aa 48 8,aa 49 0,aP 50 49,aU 51 .geq 48 50]⟩,⟨none,[cR 52 47 51]⟩],bf 52 (ae [ab [aR 6 0,bm 7 false],.ret])]),ab [aF 53 .add 23 1,aa 23 53]]
def yB:SF:=⟨ae [ab [aR 6 0,bm 7 false],ab [aa 12 1,aa 8 12],ae [.region false [⟨none,[aa 13 8,aF 14 .lss 13 0,aa 15 14]⟩,⟨(some (15,false)),[aa 16 8,aa 17 0,aP 18 17,aU 19 .geq 16 18]⟩,⟨none,[cR 20 15 19]⟩],bf 20 (ae [ab [aR 6 0,bm 7 false],.ret])],ae [ab [aa 21 2,aP 22 21,aR 23 0],cd 0 vH],ab [aa 54 8,aa 6 54,bm 7 true],.ret],
 [.tmp 6,.tmp 7],55⟩
theorem BS:aI Tryz.prog 193 []=some yB:=by kernel_rfl
theorem Kf (l:List eU) (g:aK l) (f:FuncId) (cap:List V) (p:eU->Bool) (H:View) (h:∀ x∈l,au Tryz.prog f (.agg (jQ x) :: cap) H λr H'=>r=gb (p x)/\H'=H) :
  au Tryz.prog 249 [.aT (ji l),.fn f [] cap] H λr H'=>r=gi (dq p l 0)/\H'=H:=by
 refine au.of mixed iX ?_
 unfold aK at g
 simp(disch:=omega)only[↓wr,seval,wq,fC,ji]
 refine aY.up l.length (λi T H'=>H=H'/\dq p (l.drop i) i=dq p l 0/\T 0=.aT (l.map jQ)/\T 1=.fn f [] cap/\T 7=gi l.length/\T 8=gi i) ⟨rfl,rfl,rfl,rfl,rfl,rfl⟩ ?_
 rintro i k T _ hk ⟨rfl,hi,b,h1,c,d⟩
 simp(disch:=omega)only[↓wr,seval,wq,fj,b,h1,c,d]
 apply ai.dec<;>intro j
 .have e:l[i]?=some (l[i]'(by omega)):=Sn (by omega)
  have hm:l[i]'(by omega)∈l:=Sx _
  rw[eC (show i < l.length by omega)] at hi
  generalize l[i]'(by omega)=x at e hm hi
  simp(disch:=omega)only[↓wr,seval,wq,b,h1,c,d,Ss,e,SD,jQ]
  have a:=h x hm
  simp only[jQ] at a
  refine av.dW (a.mono ?_)
  rintro r m ⟨rfl,rfl⟩
  simp only[dq] at hi
  simp(disch:=omega)only[↓wr,seval,wq]
  apply ai.split<;>intro hp
  .simp(disch:=omega)only[↓wr,seval,wq,b,h1,c,d]
   rw[<-hi,St hp]
  .simp(disch:=omega)only[↓wr,seval,wq,b,h1,c,d]
   refine aH hk (by omega) ⟨rfl,?_,b,h1,c,rfl⟩
   rw[Sr (by simp[hp])] at hi
   push_cast;exact hi
 .rw[S4 (by omega)] at hi
  simp(disch:=omega)only[↓wr,seval,wq,b,h1,c,d]
  rw[<-hi];rfl
theorem On (x:eU) (s:Int) (q:Nat) (H:View) (a:H q=.arr 1 [[gi s]]):au Tryz.prog 250 [.agg (jQ x),.ptr q 0 0] H λr H'=>r=gb (decide (x.sym=s))/\H'=H:=by
 refine au.of mixed yR ?_
 simp(disch:=omega)only[↓wr,seval,wq,vy,jQ,a]
 congr 2
theorem Ej (s:Int):∀ (l:List eU) (i:Int),0<=i->(dq (λe=>decide (e.sym=s)) l i < 0->fX l s = -1)/\(0<=dq (λe=>decide (e.sym=s)) l i->∃ (k:Nat) (e:eU),dq (λe=>decide (e.sym=s)) l i=i+k/\l[k]?=some e/\fX l s=e.to)
 | [],i,_=>⟨λ_=>rfl,λh=>by simp[dq] at h⟩
 | x :: l,i,d=>by
  simp only[dq,fX,SN]
  by_cases h:x.sym=s
  .rw[St h,St h]
   exact⟨λh=>by omega,λ_=>⟨0,x,by simp,rfl,rfl⟩⟩
  .rw[Sr h,Sr h]
   obtain⟨h1,a⟩:=Ej s l (i+1) (by omega)
   refine⟨h1,λh=>?_⟩
   obtain⟨k,e,b,k2,c⟩:=a h
   exact⟨k+1,e,by rw[b];push_cast;omega,by simpa using k2,c⟩
theorem LF {l:List eU} (h:∀ e∈l,bK e.to) (s:Int):bK (fX l s):=by
 induction l with
 | nil=>unfold bK;simp[fX]
 | cons e l a =>
  rw[fX];split
  .exact h e (by simp)
  .exact a λx b=>h x (by simp[b])
theorem NM (a:List aL) (_:aK a) (he:∀ s∈a,aK s.bT/\∀ e∈s.bT,bK e.sym/\bK e.to) (fr:Int) (syms:List Int) (t:aK syms):ay Tryz.prog 193 [bJ a,gi fr,encI syms] (.aS [gi (lG a fr syms).1,gb (lG a fr syms).2]):=by
 unfold aK at t
 refine ay.tree (by
  intro v l;simp at l
  rcases l with rfl | rfl | rfl
  .exact lp _
  .exact .val _
  .exact bU _) (wD (.val _) (.val _)) λH=>?_
 refine au.of mixed BS ?_
 unfold lG
 simp(disch:=omega)only[↓wr,seval,wq,yB,bJ,encI]
 apply ai.dec<;>intro h1
 .simp(disch:=omega)only[↓wr,seval,wq]
  rw[St (by omega)]
 simp(disch:=omega)only[↓wr,seval,wq,bJ]
 apply ai.dec<;>intro u
 .simp(disch:=omega)only[↓wr,seval,wq]
  rw[St (by omega)]
 rw[Sr (by omega)]
 simp(disch:=omega)only[↓wr,seval,wq]
 refine aY.up syms.length (λi T H'=>∃ at_:Int,0<=at_/\at_ < a.length/\iw a at_ (syms.drop i)=iw a fr syms/\T 0=bJ a/\T 8=gi at_/\T 21=encI syms/\T 22=gi syms.length/\T 23=gi i) ⟨fr,by omega,by omega,rfl,rfl,rfl,rfl,rfl,rfl⟩ ?_
 rintro i k T H' hk ⟨at_,D,E,hw,t0,t8,t21,t22,t23⟩
 simp(disch:=omega)only[↓wr,seval,wq,vH,t0,t8,t21,t22,t23,encI]
 apply ai.dec<;>intro w
 .have m:syms[i]?=some (syms[i]'(by omega)):=Sn (by omega)
  rw[To (show i < syms.length by omega)] at hw
  generalize syms[i]'(by omega)=x at m hw
  have f:a[at_.toNat]?=some (a.getD at_.toNat bD):=getD_some (by omega)
  obtain⟨b,c⟩:=he _ (SK f)
  rw[iw] at hw
  have g:=LF (λe h=>(c e h).2) x
  generalize a.getD at_.toNat bD=S at f b c hw g
  simp(disch:=omega)only[↓wr,seval,wq,t0,t8,t21,t22,t23,encI,Ss,m,SD]
  intro q F
  rw[set_set]
  have d:(H'.set q (.arr 1 [[gi x]])) q=.arr 1 [[gi x]]:=by simp[View.set]
  generalize H'.set q (.arr 1 [[gi x]])=n at d
  simp(disch:=omega)only[↓wr,seval,wq,t0,t8,bJ,Ss,f,SD,kA]
  refine av.dW ((Kf S.bT b 250 [.ptr q 0 0] (λe=>decide (e.sym=x)) n (λe _=>On e x q n d)).mono ?_)
  rintro r G ⟨rfl,rfl⟩
  obtain⟨i1,i2⟩:=Ej x S.bT 0 (by omega)
  unfold aK at b
  simp(disch:=omega)only[↓wr,seval,wq]
  apply ai.dec<;>intro o
  .simp(disch:=omega)only[↓wr,seval,wq]
   rw[<-hw,i1 o,Sr (by omega)]
  .obtain⟨j,e,y,p,z⟩:=i2 (by omega)
   have I:=(SH.1 p).1
   rw[y]
   have A:((0:Int)+(j:Int))=(j:Int):=by omega
   rw[A]
   rw[z] at hw g
   unfold bK at g
   simp(disch:=omega)only[↓wr,seval,wq,t0,t8,bJ,Ss,f,SD,kA,ji,p,jQ]
   apply ai.dec<;>intro B
   .simp(disch:=omega)only[↓wr,seval,wq]
    rw[<-hw,Sr (by omega)]
   .simp(disch:=omega)only[↓wr,seval,wq,t0,bJ]
    apply ai.dec<;>intro C
    .simp(disch:=omega)only[↓wr,seval,wq]
     rw[<-hw,Sr (by omega)]
    .simp(disch:=omega)only[↓wr,seval,wq,t0,t21,t22,t23]
     rw[St ⟨by omega,by omega⟩] at hw
     exact aH hk (by omega) ⟨e.to,by omega,by omega,hw,t0,rfl,t21,t22,rfl⟩
 .simp(disch:=omega)only[↓wr,seval,wq,t8]
  rw[S4 (by omega),iw] at hw
  rw[<-hw]
section
variable {P:Program} {T:Env} {H:View} {K:V->View->Prop} {w:cx (T,H,K)} {t ty:TypeId}
theorem Ni {d:Operand} {id off len sz bytes s:Nat} {z:List V} {es:List (List V)} (he:ng P t=some (sz,bytes,z)) (h:ev T d=.sl id off len sz) (hH:H id=.arr s es) (i:off+len<=es.length) (j:len≠0)
  (hk:K (.aS []) (H.set id (.arr sz (dR es off (List.replicate len z))))):iE P (.call { callee:=.builtin .clear,args:=#[d],argTypes:=#[t] }) ty T H K w:=by
 obtain⟨e,ti,b,hi,c,k,f,a,g,rfl,rfl⟩:=jA he
 intro n _
 refine⟨.aS [],.eS id (.arr ti.size (dR es off (List.replicate len z))),[id],?_,hk⟩
 simp only[sI,bY,oper]
 simp only[Tc] at a
 simp[tW,b,h,bZ,c,j,hH,i,g,k,f,a]
 exact a
end
theorem wg:∀ (xs A B:List (List V)),xs.length<=B.length->dR (A ++ B) A.length xs=A ++ xs ++ B.drop xs.length
 | [],A,B,_=>by simp[dR]
 | x :: r,A,[],h=>by simp at h
 | x :: r,A,b :: B,h=>by
  rw[dR,List.set_append_right _ _ (Sy _),Nat.sub_self,List.set_cons_zero]
  have:=wg r (A ++ [x]) B (by simpa using h)
  simpa using this
theorem wi {id off k m:Nat} (hm:m<=k):cz 2 (.sl id off k 2) (some (gi m)) none=some (.sl id (off+m) (k - m) 2,.none,[]):=by
 simp[cz,bound,asNat,hm]
theorem Ei {id off k m:Nat} (hm:m<=k):cz 2 (.sl id off k 2) none (some (gi m))=some (.sl id off m 2,.none,[]):=by
 simp[cz,bound,asNat,hm]
def fv:SC :=
 ae [ae [ab [aa 29 5,aa 30 4,aP 31 30,aU 32 .lss 29 31],cb 32 (.exit 2)],.block 3 (ae [ab [aa 35 4,aa 36 5,aZ 37 2 35 36,ba 38 2 37,aa 39 4,aa 40 5,aF 41 .sub 40 1,aZ 42 2 39 41,ba 43 2 42,((some 44),.op (.old (.binOp .neq 120 (.tmp 38) (.tmp 43) 120) 4))],bf 44 (ae [ab [aa 45 0,aa 46 3,aa 47 4,aa 48 5,aZ 49 2 47 48,ba 50 2 49,aZ 51 2 45 46,cL 2 51 50],ab [aa 52 3,aF 53 .add 52 1,aa 3 53]])]),ab [aa 33 5,aF 34 .add 33 1,aa 5 34]]
def fw:SC :=
 ae [ae [ab [aa 10 3,aa 11 0,aP 12 11,aU 13 .lss 10 12],cb 13 (.exit 0)],.block 1 (ae [ab [aa 16 0,aa 17 3,aZ 18 2 16 17,ba 19 2 18,aa 20 0,aa 21 3,aF 22 .sub 21 1,aZ 23 2 20 22,ba 24 2 23,((some 25),.op (.old (.binOp .eql 120 (.tmp 19) (.tmp 24) 120) 4))],bf 25 (ae [ab [aa 26 0,aa 27 3,((some 28),.op (.slice 2 (.tmp 26) (some (.tmp 27)) none)),aa 4 28],ae [ab [aR 5 1],cd 2 fv],ab [aa 54 0,aa 55 3,((some 56),.op (.slice 2 (.tmp 54) (some (.tmp 55)) none)),(none,.op (.old (.call { callee:=.builtin .clear,args:=#[(.tmp 56)],argTypes:=#[103] }) 0))],ab [aa 57 0,aa 58 3,((some 59),.op (.slice 2 (.tmp 57) none (some (.tmp 58)))),aa 2 59],.ret])]),ab [aa 14 3,aF 15 .add 14 1,aa 3 15]]
def fT:SF:=⟨ae [ab [bQ 2 1],ae [ab [aa 6 0,aP 7 6,aF 8 .lss 7 2],bf 8 (ae [ab [aa 9 0,aa 2 9],.ret])],ae [ab [aR 3 1],cd 0 fw],ab [aa 60 0,aa 2 60],.ret],
 [.tmp 2],61⟩
theorem jo:aI Tryz.prog 192 []=some fT:=by kernel_rfl
def yq:SF:=⟨ae [ab [bQ 2 1],ab [aa 3 0,qe 4 190 [(.tmp 3),(.val (.fn 191 [] []))]],ab [aa 5 0,bg 6 192 [5],aa 2 6],.ret],
 [.tmp 2],7⟩
theorem BR:aI Tryz.prog 124 []=some yq:=by kernel_rfl
theorem qO {l:List aD} {i:Nat} (h:i < l.length):(aM l).getD i []=[gi (l.getD i gB).aw,gi (l.getD i gB).dot]:=pr (getD_some h)
theorem Jv (l:List aD) (i j:Nat) (x d:aD) (hi:i < l.length):(l.set i x).getD j d=if i=j then x else l.getD j d:=by
 rw[CU]
 by_cases e:i=j
 .rw[St ⟨e,hi⟩,St e]
 .rw[Sr (λh=>e h.1),Sr e]
theorem Jq (l:List aD) (U:l.length<=100000) (u:V) (H:View) (C:aJ H u 2 (aM l)):au Tryz.prog 192 [u] H λr H'=>(∀ id,owner u≠some id->H' id=H id)/\aJ H' r 2 (aM (fh l l.length))/\owner r=owner u:=by
 refine au.cut (K:=λr H'=>(H'=H/\r=u/\fh l l.length=l)∨∃ id rest,u=.sl id 0 l.length 2/\r=.sl id 0 (fh l l.length).length 2/\H'=H.set id (.arr 2 (aM (fh l l.length) ++ rest))) ?_ ?_
 rotate_left
 .rintro r H' (⟨rfl,rfl,e⟩ | ⟨id,rest,rfl,rfl,rfl⟩)
  .exact .inl ⟨λ_ _=>rfl,by rw[e];exact C,rfl⟩
  .refine .inr ⟨id,2,aM (fh l l.length),rest,by simp[View.set],λj L=>?_,?_,rfl⟩
   .rw[set_set]
    simp only[View.set]
    rw[Sr (λe=>L (by rw[e];rfl))]
   .rw[set_set]
    exact .inr ⟨id,by rw[bw],by simp[View.set]⟩
 refine au.of mixed jo ?_
 have hlen:bZ u=some l.length:=by rw[C.len,bw]
 simp(disch:=omega)only[↓wr,seval,wq,fT,hlen]
 apply ai.dec<;>intro n
 .simp(disch:=omega)only[↓wr,seval,wq]
  left
  try refine⟨rfl,rfl,?_⟩
  match l,n with
  | [],_=>rfl
  | [x],_=>rfl
  | _ :: _ :: _,n=>simp at n;omega
 obtain⟨id,hu,t⟩:=C.sl (by rw[bw];omega)
 rw[bw] at hu
 subst hu
 simp(disch:=omega)only[↓wr,seval,wq]
 refine aY.up (l.length - 1) (λi T H'=>H=H'/\(∀ j,0 < j->j < i+1->l.getD j gB≠l.getD (j - 1) gB)/\T 0=.sl id 0 l.length 2/\T 3=gi ((i+1:Nat):Int)) ⟨rfl,λj h1 n=>by omega,rfl,rfl⟩ ?_
 rintro i k T _ hk ⟨rfl,o,t0,t3⟩
 simp(disch:=omega)only[↓wr,seval,wq,fw,t0,t3]
 apply ai.dec<;>intro O
 rotate_left
 .simp(disch:=omega)only[↓wr,seval,wq,t0]
  left
  try refine⟨rfl,rfl,?_⟩
  rw[wP l _ (Sy _) (λj h1 n=>o j h1 (by omega)),List.take_length]
 have D:i+1 < l.length:=by omega
 have P:(((i+1:Nat):Int) - 1)=(i:Int):=by omega
 simp(disch:=omega)only[↓wr,seval,wq,t0,t3,t,qO D,qO (show i < l.length by omega),P]
 refine⟨by omega,by rw[bw];omega,?_⟩
 refine⟨by omega,by rw[bw];omega,?_⟩
 generalize M:l.getD (i+1) gB=x
 generalize N:l.getD i gB=y
 refine iL (xs:=#[.int .i64 x.aw,.int .i64 x.dot]) (ys:=#[.int .i64 y.aw,.int .i64 y.dot]) Tryz.underlying120 (by kernel_rfl) (by kernel_rfl) ?_ ?_ (pj x y) (.inl ⟨rfl,rfl⟩) ?_
 .rfl
 .rfl
 rw[xx]
 simp(disch:=omega)only[↓wr,seval,wq,t0,t3]
 apply ai.dec<;>intro heq
 rotate_left
 .simp(disch:=omega)only[↓wr,seval,wq,t0,t3]
  refine aH hk (by omega) ⟨rfl,λj h1 n=>?_,t0,by push_cast;rfl⟩
  rcases SY j (i+1) with q | q
  .exact o j h1 q
  .have:j=i+1:=by omega
   subst this
   rw[Nat.add_sub_cancel,M,N];exact heq
 have g:fh l (i+1+1)=l.take (i+1):=by
  rw[fh,Sr,wP l (i+1) (by omega) o]
  rw[Nat.add_sub_cancel,M,N]
  simp[heq]
 simp(disch:=omega)only[↓wr,seval,wq,t0,t3,wi (id:=id) (off:=0) (k:=l.length) (m:=i+1) (by omega)]
 refine aY.up (l.length - (i+1) - 1) (λi2 T H'=>∃ (a:Nat) (cur:List aD),H'=H.set id (.arr 2 (aM cur))/\cur.length=l.length/\i+1<=a/\a<=i+1+i2/\cur.take a=fh l (i+1+(i2+1))/\(∀ j,a<=j->cur.getD j gB=l.getD j gB) /\
  T 0=.sl id 0 l.length 2/\T 3=gi a/\T 4=.sl id (i+1) (l.length - (i+1)) 2/\T 5=gi ((i2+1:Nat):Int)) ⟨i+1,l,?_,rfl,Sy _,by omega,by rw[g],λ_ _=>rfl,t0,t3,?_,rfl⟩ ?_
 .funext j;simp only[View.set];split
  .rename_i e;rw[e,t]
  .rfl
 .rfl
 clear t0 t3 hk
 rintro i2 k2 W _ v ⟨a,cur,rfl,w,Q,X,c,d,t0,t3,t4,t5⟩
 have b:(H.set id (.arr 2 (aM cur))) id=.arr 2 (aM cur):=by simp[View.set]
 simp(disch:=omega)only[↓wr,seval,wq,fv,t0,t3,t4,t5]
 apply ai.dec<;>intro E
 .have hp:i+1+(i2+1) < l.length:=by omega
  have R:(((i2+1:Nat):Int) - 1)=(i2:Int):=by omega
  simp(disch:=omega)only[↓wr,seval,wq,t0,t3,t4,t5,b,R,qO (l:=cur) (show i+1+(i2+1) < cur.length by omega),qO (l:=cur) (show i+1+i2 < cur.length by omega)]
  refine⟨by omega,by rw[bw];omega,?_⟩
  refine⟨by omega,by rw[bw];omega,?_⟩
  rw[d _ (show a<=i+1+(i2+1) by omega),d _ (show a<=i+1+i2 by omega)]
  generalize A:l.getD (i+1+(i2+1)) gB=f
  generalize F:l.getD (i+1+i2) gB=B
  refine iL (xs:=#[.int .i64 f.aw,.int .i64 f.dot]) (ys:=#[.int .i64 B.aw,.int .i64 B.dot]) Tryz.underlying120 (by kernel_rfl) (by kernel_rfl) ?_ ?_ (pj f B) (.inr ⟨rfl,rfl⟩) ?_
  .rfl
  .rfl
  rw[xx]
  simp(disch:=omega)only[↓wr,seval,wq,t0,t3,t4,t5]
  have h:fh l (i+1+(i2+1+1))=if f=B then fh l (i+1+(i2+1)) else fh l (i+1+(i2+1)) ++ [f]:=by
   rw[show i+1+(i2+1+1)=(i+1+(i2+1))+1 by omega,fh,A,show i+1+(i2+1) - 1=i+1+i2 by omega,F]
   by_cases e:f=B
   .rw[St e,Sr (by simp[e])]
   .rw[Sr e,St (.inr e)]
  apply ai.dec<;>intro he
  .simp(disch:=omega)only[↓wr,seval,wq,t0,t3,t4,t5]
   rw[St he] at h
   exact aH v (by omega) ⟨a,cur,rfl,w,Q,by omega,by rw[h];exact c,d,t0,t3,t4,by push_cast;rfl⟩
  .simp(disch:=omega)only[↓wr,seval,wq,t0,t3,t4,t5,b,qO (l:=cur) (show i+1+(i2+1) < cur.length by omega)]
   rw[d _ (show a<=i+1+(i2+1) by omega),A]
   have p:(aM cur).getD a []=[gi (cur.getD a gB).aw,gi (cur.getD a gB).dot]:=qO (by omega)
   have G:(aM cur).set a [gi f.aw,gi f.dot]=aM (cur.set a f):=by simp[aM,List.map_set,bq]
   simp(disch:=omega)only[↓wr,seval,wq,t0,t3,t4,t5,b,p,G]
   rw[set_set]
   rw[Sr he] at h
   refine⟨by omega,by rw[bw];omega,?_⟩
   refine⟨by omega,by rw[bw];omega,?_⟩
   refine aH v (by omega) ⟨a+1,cur.set a f,rfl,by simp[w],by omega,by omega,?_,λj L=>?_,t0,by push_cast;rfl,t4,by push_cast;rfl⟩
   .rw[h,<-c,S6,List.take_set_of_le (Sy _),List.getElem?_set_self (by omega)];rfl
   .rw[Jv _ _ _ _ _ (by omega),Sr (by omega)]
    exact d j (by omega)
 .have I:i+1+(i2+1)=l.length:=by omega
  rw[I] at c
  have S:l.length - a≠0:=by omega
  have p:a=(fh l l.length).length:=by rw[<-c,Tv];omega
  simp(disch:=omega)only[↓wr,seval,wq,t0,t3,wi (id:=id) (off:=0) (k:=l.length) (m:=a) (by omega)]
  refine Ni (id:=id) (off:=a) (len:=l.length - a) (sz:=2) (bytes:=16) (s:=2) (z:=[gi 0,gi 0]) (es:=aM cur) (by kernel_rfl) (by simp(disch:=omega)only[↓wr,seval,wq];try rw[Tt]) b (by rw[bw];omega) S ?_
  rw[set_set]
  have J:dR (aM cur) a (List.replicate (l.length - a) [gi 0,gi 0])=aM (fh l l.length) ++ List.replicate (l.length - a) [gi 0,gi 0]:=by
   have h1:=wg (List.replicate (l.length - a) [gi 0,gi 0]) (aM (cur.take a)) (aM (cur.drop a)) (by simp[aM];omega)
   rw[show aM (cur.take a) ++ aM (cur.drop a)=aM cur by rw[aM,aM,<-S0,List.take_append_drop];rfl] at h1
   rw[show (aM (cur.take a)).length=a by rw[bw,Tv];omega] at h1
   rw[h1,c,S4 (by simp[aM];omega),Ue]
  rw[J]
  simp(disch:=omega)only[↓wr,seval,wq,t0,t3,Ei (id:=id) (off:=0) (k:=l.length) (m:=a) (by omega)]
  right
  exact⟨id,List.replicate (l.length - a) [gi 0,gi 0],rfl,by rw[p],rfl⟩
theorem HB (l:List aD) (h:l.length<=100000) (u:V) (H:View) (c:aJ H u 2 (aM l)):au Tryz.prog 124 [u] H λr H'=>(∀ id,owner u≠some id->H' id=H id)/\aJ H' r 2 (aM (xV l))/\owner r=owner u:=by
 refine au.of mixed BR ?_
 simp(disch:=omega)only[↓wr,seval,wq,yq]
 refine av.dW ((N6 l (by omega) u H c).mono ?_)
 rintro r d ⟨rfl,k2,e⟩
 simp(disch:=omega)only[↓wr,seval,wq]
 refine av.dW ((Jq (ej l) (by rw[im];omega) u d e).mono ?_)
 rintro r i ⟨f,b,g⟩
 simp(disch:=omega)only[↓wr,seval,wq]
 rw[im] at b
 exact⟨λid a=>by rw[f id a,k2 id a],b,g⟩
end Gv
