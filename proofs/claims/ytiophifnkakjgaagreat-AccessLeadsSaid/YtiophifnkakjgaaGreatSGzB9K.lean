/-
  Part 11 of the proof: what the machine does and what the functions answer.
  Conditions: those that each lemma names.
-/
import Derived.Test.YtiophifnkakjgaaGreatSGzB9J
set_option linter.unusedSimpArgs false
set_option linter.unusedVariables false
set_option maxRecDepth 100000
set_option maxHeartbeats 20000000
namespace Gv
open Go Go.Proofs
def zb (g:ai) (p:List Int):Bool:=p.all λx=>decide (-1<=x) && decide (x < g.au.length)
noncomputable def uB (g:ai) (p:List Int):Bool:=gJ (zZ g p) g.start.toNat 0 p.length
noncomputable def BW (g:ai) (p:List Int):Bool × Int:=if (bM g && decide (p.length<=60) && zb g p)=true then (uB g p,0) else (false,1)
def C1 (x:Bool × Int):V:=.aY [gb x.1,gi x.2]
theorem EF (x:Bool × Int):Tree (C1 x):=y7 (.val _) (.val _)
theorem Qj {g:ai} (hr:bM g=true) (p:List Int):uB g p=true↔Sp g p [-1 - g.start] 0 p.length:=by
 have a:=bX hr
 have b:=a.kT
 have h1:=a.start
 rw[uB,Oz (by omega) (by omega) (by omega)]
 rw[show ((g.start.toNat:Nat):Int)=g.start by omega]
def nT:SC :=
 af [af [ae [aa 15 6,aa 16 1,aN 17 16,aS 18 .lss 15 17],bO 18 (.exit 0)],.block 1 (af [.region false [⟨none,[aa 21 1,aa 22 6,aL 23 1 21 22,al 24 23,aF 25 .lss 24 (-1),aa 26 25]⟩,⟨(some (26,false)),[aa 27 1,aa 28 6,aL 29 1 27 28,al 30 29,av 31 0 2,al 32 31,aN 33 32,aS 34 .geq 30 33]⟩,⟨none,[cx 35 26 34]⟩],aZ 35 (af [ae [bm 4 false,aP 5 1],.ret])]),ae [aa 19 6,aF 20 .add 19 1,aa 6 20]]
def qR:SF:=⟨af [ae [cE 2 0,bm 4 false,aP 5 0],af [.region false [⟨none,[bb 7 4 2,bf 8 50 [7],c5 9 8,aa 10 9]⟩,⟨(some (10,false)),[aa 11 1,aN 12 11,aF 13 .gtr 12 60]⟩,⟨none,[cx 14 10 13]⟩],aZ 14 (af [ae [bm 4 false,aP 5 1],.ret])],af [ae [aP 6 0],bR 0 nT],.region true [⟨none,[bb 36 4 2,aa 37 1,bf 38 139 [36,37],av 39 3 2,al 40 39,aL 41 1 38 40,al 42 41,((some 43),.op (.idx 1 (.tmp 42) (.val (.val (.int .i64 0))))),al 44 43,aa 45 1,aN 46 45,aL 47 1 44 46,al 48 47,aa 4 48,aP 5 0]⟩],.ret],
 [.tmp 4,.tmp 5],49⟩
theorem u6:aM Tryz.prog 78 [2]=some qR:=by kernel_rfl
theorem Oq (g:ai) (q:g.Ok) (p:List Int) (hp:aI p) (E:∀ x∈p,bS x):aB Tryz.prog 78 [.agg (ag g),encI p] (C1 (BW g p)):=by
 refine aB.tree (by
  intro v y;simp at y
  rcases y with rfl | rfl
  .exact bW _ (cw g)
  .exact bI p) (EF _) λH=>?_
 refine aw.of mixed u6 ?_
 unfold aI at hp
 have r:=q.au
 unfold aI at r
 have bad:(bM g && decide (p.length<=60) && zb g p)=false->C1 (BW g p)=.aY [gb false,gi 1]:=λe=>by
  unfold BW;rw[Vs (by rw[e];simp)];rfl
 simp(disch:=omega)only[↓wr,seval,wq,qR,ag,encS,encI]
 refine ax.pure (j9 g q) ?_
 simp(disch:=omega)only[↓wr,seval,wq]
 apply aj.split<;>intro hr
 .have s:=bX hr
  simp(disch:=omega)only[↓wr,seval,wq,encI]
  apply aj.dec<;>intro z
  .simp(disch:=omega)only[↓wr,seval,wq]
   exact(bad (by rw[decide_eq_false (by omega)];simp)).symm
  .simp(disch:=omega)only[↓wr,seval,wq,encI]
   refine aR.up p.length (λi o H'=>zb g (p.take i)=true/\o 1=encI p/\o 2=.aJ (ag g) 0/\o 6=gi i) ⟨rfl,rfl,rfl,rfl⟩ ?_
   rintro i k o H' hk ⟨a,t1,t2,t6⟩
   simp(disch:=omega)only[↓wr,seval,wq,nT,t1,t2,t6,encI]
   apply aj.dec<;>intro A
   .have b:p[i]?=some (p[i]'(by omega)):=Vq (by omega)
    have c:p[i]'(by omega)∈p:=Vw _
    have h:p.take (i+1)=p.take i ++ [p[i]'(by omega)]:=by rw[VP,b];rfl
    generalize p[i]'(by omega)=x at b c h
    have t:zb g (p.take (i+1))=(decide (-1<=x) && decide (x < g.au.length)):=by
     unfold zb at a ⊢
     rw[h,Xx,a];simp
    have j:(decide (-1<=x) && decide (x < g.au.length))=false->zb g p=false:=λe=>by
     unfold zb
     rw[Xo]
     exact⟨x,c,by rw[e];simp⟩
    simp(disch:=omega)only[↓wr,seval,wq,t1,t2,t6,encI,ag,encS,Vt,b]
    apply aj.dec<;>intro h1
    .simp(disch:=omega)only[↓wr,seval,wq,t1,t2,t6]
     exact(bad (by rw[j (by rw[decide_eq_false (by omega)];rfl),WV])).symm
    .simp(disch:=omega)only[↓wr,seval,wq,t1,t2,t6,encI,ag,encS,Vt,b]
     apply aj.dec<;>intro B
     .simp(disch:=omega)only[↓wr,seval,wq,t1,t2,t6]
      exact(bad (by rw[j (by rw[decide_eq_false (show ¬ x < (g.au.length:Int) by omega),WV]),WV])).symm
     .simp(disch:=omega)only[↓wr,seval,wq,t1,t2,t6]
      exact aE hk (by omega) ⟨by rw[t,Wb (by omega),Wb (by omega)];rfl,t1,t2,rfl⟩
   .rw[VG (by omega)] at a
    simp(disch:=omega)only[↓wr,seval,wq,t1,t2,t6,ag,encS]
    have l:=Ug g q s p (by omega)
    simp only[ag,encS] at l
    refine ax.pure l.pure ?_
    have F:=s.kT
    have h1:=s.start
    obtain⟨row,cell,d,f,C,u⟩:=(MX g p).cell (n:=g.start.toNat) (i:=0) (by omega) (by omega)
    have m:cell[p.length]?=some (uB g p):=by
     rw[uB,gJ,u];simp[Vp,show p.length < cell.length by omega]
    have D:BW g p=(uB g p,0):=Vu (by rw[hr,a,Wb (by omega)];rfl)
    generalize zZ g p=S at d ⊢
    have w:cell[(p.length:Int).toNat]?=some (uB g p):=by rw[V2];exact m
    simp(disch:=omega)only[↓wr,seval,wq,t1,t2,t6,encI,ag,encS,my,b5,Vt,d,f,m,w]
    rw[D];rfl
 .simp(disch:=omega)only[↓wr,seval,wq]
  exact(bad (by rw[hr];simp)).symm
def AY (g:ai) (w:List Int):Bool:=w.all λx=>decide (0<=x) && decide (x < g.au.length)
def mL (g:ai) (w:List Int):Bool:=bM g && decide (w.length<=60) && AY g w
theorem FN (g:ai) (w:List Int):∀ v∈[V.agg (ag g),encI w],Tree v:=by
 intro v a;simp at a
 rcases a with rfl | rfl
 .exact bW _ (cw g)
 .exact bI w
def ox:SC :=
 af [af [ae [aa 14 5,aa 15 1,aN 16 15,aS 17 .lss 14 16],bO 17 (.exit 0)],.block 1 (af [.region false [⟨none,[aa 20 1,aa 21 5,aL 22 1 20 21,al 23 22,aF 24 .lss 23 0,aa 25 24]⟩,⟨(some (25,false)),[aa 26 1,aa 27 5,aL 28 1 26 27,al 29 28,av 30 0 2,al 31 30,aN 32 31,aS 33 .geq 29 32]⟩,⟨none,[cx 34 25 33]⟩],aZ 34 (af [ae [bm 4 false],.ret])]),ae [aa 18 5,aF 19 .add 18 1,aa 5 19]]
def q8:SF:=⟨af [ae [cE 2 0,bm 4 false],af [.region false [⟨none,[bb 6 4 2,bf 7 50 [6],c5 8 7,aa 9 8]⟩,⟨(some (9,false)),[aa 10 1,aN 11 10,aF 12 .gtr 11 60]⟩,⟨none,[cx 13 9 12]⟩],aZ 13 (af [ae [bm 4 false],.ret])],af [ae [aP 5 0],bR 0 ox],ae [bm 4 true],.ret],
 [.tmp 4],35⟩
theorem vr:aM Tryz.prog 17 [2]=some q8:=by kernel_rfl
def rH:SF:=⟨af [ae [cE 2 0,bm 4 false,aP 5 0],af [ae [bb 6 4 2,aa 7 1,bf 8 17 [6,7],c5 9 8],aZ 9 (af [ae [bm 4 false,aP 5 1],.ret])],ae [bb 10 4 2,aa 11 1,bf 12 78 [10,11],dJ 13 0 12,dJ 14 1 12,aa 4 13,aa 5 14],.ret],
 [.tmp 4,.tmp 5],15⟩
theorem wi:aM Tryz.prog 35 [2]=some rH:=by kernel_rfl
theorem NB (g:ai) (m:g.Ok) (p:List Int) (hp:aI p) (r:∀ x∈p,bS x):aB Tryz.prog 17 [.agg (ag g),encI p] (gb (mL g p)):=by
 refine aB.val (FN g p) λH=>?_
 refine aw.of mixed vr ?_
 unfold aI at hp
 have j:=m.au
 unfold aI at j
 simp(disch:=omega)only[↓wr,seval,wq,q8,ag,encS,encI]
 refine ax.pure (j9 g m) ?_
 simp(disch:=omega)only[↓wr,seval,wq]
 apply aj.split<;>intro hr
 .simp(disch:=omega)only[↓wr,seval,wq,encI]
  apply aj.dec<;>intro n
  .simp(disch:=omega)only[↓wr,seval,wq]
   rw[mL,decide_eq_false (show ¬ p.length<=60 by omega)];simp
  .simp(disch:=omega)only[↓wr,seval,wq,encI]
   refine aR.up p.length (λi h H'=>AY g (p.take i)=true/\h 1=encI p/\h 2=.aJ (ag g) 0/\h 5=gi i) ⟨rfl,rfl,rfl,rfl⟩ ?_
   rintro i k h H' hk ⟨a,t1,t2,t6⟩
   simp(disch:=omega)only[↓wr,seval,wq,ox,t1,t2,t6,encI]
   apply aj.dec<;>intro o
   .have b:p[i]?=some (p[i]'(by omega)):=Vq (by omega)
    have c:p[i]'(by omega)∈p:=Vw _
    have d:p.take (i+1)=p.take i ++ [p[i]'(by omega)]:=by rw[VP,b];rfl
    generalize p[i]'(by omega)=x at b c d
    have l:AY g (p.take (i+1))=(decide (0<=x) && decide (x < g.au.length)):=by
     unfold AY at a ⊢
     rw[d,Xx,a];simp
    have f:(decide (0<=x) && decide (x < g.au.length))=false->mL g p=false:=λe=>by
     have:AY g p=false:=by
      unfold AY
      rw[Xo]
      exact⟨x,c,by rw[e];simp⟩
     rw[mL,this,WV]
    simp(disch:=omega)only[↓wr,seval,wq,t1,t2,t6,encI,ag,encS,Vt,b]
    apply aj.dec<;>intro h1
    .simp(disch:=omega)only[↓wr,seval,wq,t1,t2,t6]
     rw[f (by rw[decide_eq_false (by omega)];rfl)]
    .simp(disch:=omega)only[↓wr,seval,wq,t1,t2,t6,encI,ag,encS,Vt,b]
     apply aj.dec<;>intro q
     .simp(disch:=omega)only[↓wr,seval,wq,t1,t2,t6]
      rw[f (by rw[decide_eq_false (show ¬ x < (g.au.length:Int) by omega),WV])]
     .simp(disch:=omega)only[↓wr,seval,wq,t1,t2,t6]
      exact aE hk (by omega) ⟨by rw[l,Wb (by omega),Wb (by omega)];rfl,t1,t2,rfl⟩
   .rw[VG (by omega)] at a
    simp(disch:=omega)only[↓wr,seval,wq,t1,t2,t6]
    rw[mL,hr,a,Wb (by omega)];rfl
 .simp(disch:=omega)only[↓wr,seval,wq]
  rw[mL,hr];rfl
noncomputable def Gh (g:ai) (w:List Int):Bool × Int:=if mL g w=true then (uB g w,0) else (false,1)
theorem PO {g:ai} {w:List Int} (h:mL g w=true):BW g w=(uB g w,0):=by
 unfold mL at h
 simp only[VD,VH] at h
 refine Vu ?_
 rw[h.1.1,Wb h.1.2]
 simp only[Wd,zb,VU,VD,VH]
 intro x a
 have:=VU.1 h.2 x a
 simp only[VD,VH] at this
 omega
theorem PG (g:ai) (b:g.Ok) (w:List Int) (hw:aI w) (c:∀ x∈w,bS x):aB Tryz.prog 35 [.agg (ag g),encI w] (C1 (Gh g w)):=by
 refine aB.tree (FN g w) (EF _) λH=>?_
 refine aw.of mixed wi ?_
 simp(disch:=omega)only[↓wr,seval,wq,rH,ag,encS]
 have h1:=NB g b w hw c
 have d:=Oq g b w hw c
 simp only[ag,encS] at h1 d
 refine ax.pure h1 ?_
 simp(disch:=omega)only[↓wr,seval,wq]
 apply aj.split<;>intro a
 .simp(disch:=omega)only[↓wr,seval,wq]
  refine ax.pure d ?_
  rw[PO a]
  simp(disch:=omega)only[↓wr,seval,wq,C1]
  rw[Gh,Vu a]
 .simp(disch:=omega)only[↓wr,seval,wq]
  rw[Gh,Vs (by rw[a];simp)];rfl
structure bp where
 az:Int
 bu:Int
 rules:Int
 au:Int
def iK:bp:=⟨(-1),0,0,0⟩
def aX:bp:=⟨0,0,0,0⟩
def bk (P:List bp) (m:Nat):bp:=P.getD m iK
abbrev bN (x:Int):Nat:=(-1 - x).toNat
def bD (P:List bp):List Int->bp->bp × Bool
 | [],s=>(s,true)
 | x :: l,s=>if 0<=x then bD P l ⟨s.az,s.bu,s.rules,min 1048576 (s.au+1)⟩
  else if (bk P (bN x)).az < 0 then (s,false)
  else bD P l ⟨s.az,max s.bu (bk P (bN x)).bu,min 1048576 (s.rules+(bk P (bN x)).rules),min 1048576 (s.au+(bk P (bN x)).au)⟩
def bz (P:List bp) (m:Nat):Prop:=0<=(bk P m).az
def gK (P:List bp) (l:List Int):Prop:=∀ x∈l,x < 0->bz P (bN x)
theorem fZ (P:List bp):∀ (l:List Int) (s:bp),(bD P l s).2=true↔gK P l
 | [],s=>by simp[bD,gK]
 | x :: l,s=>by
  simp only[bD,gK,VJ]
  by_cases h:0<=x
  .rw[Vu h,fZ P l]
   refine⟨λk y a b=>?_,λk y a=>k y (.inr a)⟩
   rcases a with rfl | a
   .omega
   .exact k y a b
  .rw[Vs h]
   by_cases c:(bk P (bN x)).az < 0
   .rw[Vu c]
    simp only[VR,false_iff]
    intro k
    have:=k x (.inl rfl) (by omega)
    unfold bz at this;omega
   .rw[Vs c,fZ P l]
    refine⟨λk y a b=>?_,λk y a=>k y (.inr a)⟩
    rcases a with rfl | a
    .unfold bz;omega
    .exact k y a b
theorem ic (P:List bp) (k:Int):∀ (l:List Int) (s:bp),gK P l->((bD P l s).1.bu<=k↔s.bu<=k/\∀ x∈l,x < 0->(bk P (bN x)).bu<=k)
 | [],s,_=>by simp[bD]
 | x :: l,s,h=>by
  have e:gK P l:=λy c=>h y (by simp[c])
  simp only[bD,VJ]
  by_cases f:0<=x
  .rw[Vu f,ic P k l _ e]
   refine⟨λ⟨a,b⟩=>⟨a,λy c d=>?_⟩,λ⟨a,b⟩=>⟨a,λy c=>b y (.inr c)⟩⟩
   rcases c with rfl | c
   .omega
   .exact b y c d
  .have:=h x (by simp) (by omega)
   unfold bz at this
   rw[Vs f,Vs (by omega),ic P k l _ e]
   refine⟨λ⟨a,b⟩=>⟨by simp only at a;omega,λy c d=>?_⟩,λ⟨a,b⟩=>⟨by have:=b x (.inl rfl) (by omega);simp only;omega,λy c=>b y (.inr c)⟩⟩
   rcases c with rfl | c
   .simp only at a;omega
   .exact b y c d
theorem CF {P P':List bp} : ∀ (l:List Int) (s:bp),(∀ x∈l,x < 0->bk P (bN x)=bk P' (bN x))->bD P l s=bD P' l s
 | [],s,_=>rfl
 | x :: l,s,h=>by
  have b:=λs=>CF (P:=P) (P':=P') l s λy c=>h y (by simp[c])
  simp only[bD]
  by_cases a:0<=x
  .rw[Vu a,Vu a,b]
  .rw[Vs a,Vs a,h x (by simp) (by omega),b]
theorem rj (P:List bp):∀ (l:List Int) (s:bp),s.bu<=(bD P l s).1.bu
 | [],s=>Int.le_refl _
 | x :: l,s=>by
  simp only[bD]
  split
  .exact rj P l _
  .split
   .exact Int.le_refl _
   .have:=rj P l ⟨s.az,max s.bu (bk P (bN x)).bu,min 1048576 (s.rules+(bk P (bN x)).rules),min 1048576 (s.au+(bk P (bN x)).au)⟩
    simp only at this ⊢;omega
def fq (P:List bp) (i:Nat) (r:ba):bp:=⟨i,(bD P r.right aX).1.bu+1,min 1048576 ((bD P r.right aX).1.rules+1),(bD P r.right aX).1.au⟩
def ql (P:List bp) (i:Nat) (N:List bp) (r:ba):List bp :=
 if 0<=(bk N r.left.toNat).az then N else if (bD P r.right aX).2=true then N.set r.left.toNat (fq P i r) else N
def mA (P:List bp):Nat->List bp->List ba->List bp
 | _,N,[]=>N
 | i,N,r :: l=>mA P (i+1) (ql P i N r) l
def ym (rules:List ba) (P:List bp):List bp:=mA P 0 P rules
def lX (P:List bp) (m:Nat):Nat->List ba->Option bp
 | _,[]=>none
 | i,r :: l=>if r.left.toNat=m/\(bD P r.right aX).2=true then some (fq P i r) else lX P m (i+1) l
theorem zl {N:List bp} {i m:Nat} {p:bp} (hm:m < N.length):bk (N.set i p) m=if i=m then p else bk N m:=by
 simp only[bk,Vp,V9]
 split
 .rename_i e;subst e;simp[hm]
 .rfl
theorem DY (P:List bp) (i:Nat) (N:List bp) (r:ba):(ql P i N r).length=N.length:=by
 unfold ql;split; · rfl
 split <;> simp
theorem E5 (P:List bp):∀ (l:List ba) (i:Nat) (N:List bp),(mA P i N l).length=N.length
 | [],_,_=>rfl
 | r :: l,i,N=>by rw[mA,E5 P l,DY]
theorem G1 (P:List bp) (m:Nat):∀ (l:List ba) (i:Nat) (N:List bp),m < N.length->bk (mA P i N l) m=if 0<=(bk N m).az then bk N m else (lX P m i l).getD (bk N m)
 | [],i,N,hm=>by simp[mA,lX]
 | r :: l,i,N,hm=>by
  rw[mA,G1 P m l (i+1) _ (by rw[DY];exact hm),lX]
  unfold ql
  by_cases h1:0<=(bk N r.left.toNat).az
  .rw[Vu h1]
   by_cases a:r.left.toNat=m
   .subst a
    rw[Vu h1,Vu h1]
   .rw[Vs (c:=r.left.toNat=m/\_) (λe=>a e.1)]
  .rw[Vs h1]
   by_cases b:(bD P r.right aX).2=true
   .rw[Vu b]
    by_cases a:r.left.toNat=m
    .subst a
     rw[zl hm,Vu rfl,Vs h1,Vu (show (0:Int)<=(fq P i r).az by simp only[fq];omega),Vu (c:=r.left.toNat=r.left.toNat/\_) (And.intro rfl b)]
     rfl
    .rw[zl hm,Vs a,Vs (c:=r.left.toNat=m/\_) (λe=>a e.1)]
   .rw[Vs b,Vs (c:=r.left.toNat=m/\_) (λe=>b e.2)]
theorem iP {P:List bp} {m:Nat} : ∀ {l:List ba} {i:Nat} {p:bp},lX P m i l=some p->∃ (j:Nat) (r:ba),l[j]?=some r/\r.left.toNat=m/\gK P r.right/\p=fq P (i+j) r/\∀ (f:Nat) (g:ba),f < j->l[f]?=some g->g.left.toNat=m->¬ gK P g.right
 | [],i,p,h=>by simp[lX] at h
 | r :: l,i,p,h=>by
  rw[lX] at h
  by_cases k:r.left.toNat=m/\(bD P r.right aX).2=true
  .rw[Vu k] at h
   exact⟨0,r,rfl,k.1,(fZ P _ _).1 k.2,by simpa using h.symm,λf g o=>by omega⟩
  .rw[Vs k] at h
   obtain⟨j,q,a,b,c,d,e⟩:=iP h
   refine⟨j+1,q,by simpa using a,b,c,by rw[d];congr 1;omega,λf g o hr n hk=>?_⟩
   cases f with
   | zero =>
    simp at hr;subst hr
    exact k ⟨n,(fZ P _ _).2 hk⟩
   | succ f=>exact e f g (by omega) (by simpa using hr) n hk
theorem yK {P:List bp} {m:Nat} : ∀ {l:List ba} {i:Nat},lX P m i l=none->∀ r∈l,r.left.toNat=m->¬ gK P r.right
 | [],i,h,r,hr,_,_=>by simp at hr
 | r :: l,i,h,c,hr,b,hk=>by
  rw[lX] at h
  by_cases a:r.left.toNat=m/\(bD P r.right aX).2=true
  .rw[Vu a] at h;simp at h
  .rw[Vs a] at h
   rcases VJ.1 hr with rfl | hr
   .exact a ⟨b,(fZ P _ _).2 hk⟩
   .exact yK h c hr b hk
def aA (g:ai) (k:Nat):List bp:=iter (ym g.rules) k (List.replicate g.ak.length iK)
theorem E7 {α:Type} (f:α->α):∀ (k:Nat) (x:α),iter f (k+1) x=f (iter f k x)
 | 0,x=>rfl
 | k+1,x=>by rw[iter,E7 f k,iter]
theorem nZ (g:ai) (k:Nat):aA g (k+1)=ym g.rules (aA g k):=E7 _ _ _
theorem eJ (g:ai):∀ k,(aA g k).length=g.ak.length
 | 0=>by simp[aA,iter]
 | k+1=>by rw[nZ,ym,E5,eJ g k]
theorem vy {P:List bp} {m:Nat} (h:P.length<=m):bk P m=iK:=by simp[bk,Vp,V0 h]
theorem Hj {P:List bp} {m:Nat} (h:bz P m):m < P.length:=by
 rcases VT m P.length with h1 | h1
 .exact h1
 .unfold bz at h;rw[vy h1] at h;simp[iK] at h
theorem pN (g:ai) (k m:Nat):bk (aA g (k+1)) m=if 0<=(bk (aA g k) m).az then bk (aA g k) m else if m < g.ak.length then (lX (aA g k) m 0 g.rules).getD (bk (aA g k) m) else bk (aA g k) m:=by
 by_cases hm:m < g.ak.length
 .rw[nZ,ym,G1 _ _ _ _ _ (by rw[eJ];exact hm),Vu hm]
 .rw[Vs hm,vy (by rw[eJ];omega),vy (by rw[eJ];omega)]
  simp
theorem Bq {g:ai} {k m:Nat} (h:bz (aA g k) m):bk (aA g (k+1)) m=bk (aA g k) m:=by
 rw[pN];unfold bz at h;rw[Vu h]
theorem zS {g:ai} {k m:Nat} (h:bz (aA g k) m):∀ d,bk (aA g (k+d)) m=bk (aA g k) m
 | 0=>rfl
 | d+1=>by
  have a:=zS h d
  have:bz (aA g (k+d)) m:=by unfold bz at h ⊢;rw[a];exact h
  rw[<-a,<-Bq this];rfl
theorem gC {g:ai} {k m j:Nat} (h:bz (aA g k) m) (a:k<=j):bk (aA g j) m=bk (aA g k) m/\bz (aA g j) m:=by
 obtain⟨d,rfl⟩:∃ d,j=k+d:=⟨j - k,by omega⟩
 have:=zS h d
 exact⟨this,by unfold bz at h ⊢;rw[this];exact h⟩
theorem te {g:ai} {k m:Nat} (a:¬ bz (aA g k) m) (h:bz (aA g (k+1)) m):lX (aA g k) m 0 g.rules=some (bk (aA g (k+1)) m):=by
 unfold bz at h a
 rw[pN,Vs a] at h
 rw[pN,Vs a]
 split at h
 .rename_i hm
  rw[Vu hm]
  cases b:lX (aA g k) m 0 g.rules with
  | none=>rw[b] at h;exact absurd h a
  | some p=>rfl
 .exact absurd h a
theorem je {g:ai} {m:Nat} : ∀ {k:Nat},¬ bz (aA g k) m->bk (aA g k) m=iK
 | 0,_=>by
  simp only[aA,iter,bk,Vp,Wj]
  split <;> rfl
 | k+1,h=>by
  have a:¬ bz (aA g k) m:=λe=>h (gC e (by omega)).2
  unfold bz at h a
  rw[pN,Vs a] at h ⊢
  split
  .rename_i hm
   rw[Vu hm] at h
   cases b:lX (aA g k) m 0 g.rules with
   | none=>exact je (k:=k) a
   | some p =>
    rw[b] at h
    obtain⟨j,r,_,_,_,rfl,_⟩:=iP b
    simp only[VI,fq] at h;omega
  .exact je (k:=k) a
theorem eM (g:ai):∀ k:Nat,∀ m,bz (aA g k) m->1<=(bk (aA g k) m).bu/\(bk (aA g k) m).bu<=k/\∀ j:Nat,j<=k->(bk (aA g k) m).bu<=j->bz (aA g j) m
 | 0,m,h=>by
  unfold bz at h
  have:bk (aA g 0) m=iK:=by
   simp only[aA,iter,bk,Vp,Wj]
   split <;> rfl
  rw[this] at h;simp[iK] at h
 | k+1,m,h=>by
  have q:=eM g k
  by_cases f:bz (aA g k) m
  .obtain⟨a,b,c⟩:=q m f
   rw[(gC f (Nat.le_succ k)).1]
   refine⟨a,by push_cast;omega,λj u t=>?_⟩
   rcases VT k j with e | e
   .exact(gC f (by omega)).2
   .exact c j e t
  .have v:=te f h
   obtain⟨i,r,hr,w,hk,hp,_⟩:=iP v
   have t:(bk (aA g (k+1)) m).bu=(bD (aA g k) r.right aX).1.bu+1:=by rw[hp];rfl
   have h1:=rj (aA g k) r.right aX
   have B:=(ic (aA g k) k r.right aX hk).2 ⟨by simp[aX],λx n o=>(q _ (hk x n o)).2.1⟩
   have C:¬ (bD (aA g k) r.right aX).1.bu<=(k:Int) - 1:=by
    intro hle
    have y:(0:Int)<=(bD (aA g k) r.right aX).1.bu:=h1
    obtain⟨d,rfl⟩:∃ d,k=d+1:=⟨k - 1,by omega⟩
    have z:=((ic (aA g (d+1)) _ r.right aX hk).1 hle).2
    have A:gK (aA g d) r.right:=λx n o=>(q _ (hk x n o)).2.2 d (by omega) (by have:=z x n o;push_cast at this;omega)
    apply f
    by_cases s:bz (aA g d) m
    .exact(gC s (by omega)).2
    .unfold bz at s ⊢
     have hm:=Hj h
     rw[eJ] at hm
     rw[pN,Vs s,Vu hm]
     cases l:lX (aA g d) m 0 g.rules with
     | none=>exact absurd A (yK l r (VF hr) w)
     | some p =>
      obtain⟨j,D,_,_,_,rfl,_⟩:=iP l
      simp only[VI,fq];omega
   have y:(0:Int)<=(bD (aA g k) r.right aX).1.bu:=h1
   refine⟨by omega,by push_cast;omega,λj u hle=>?_⟩
   have:j=k+1:=by omega
   subst this;exact h
theorem vX {g:ai} {m:Nat} : ∀ {k:Nat},bz (aA g k) m->∃ j,j < k/\¬ bz (aA g j) m/\(bk (aA g k) m).bu=j+1/\lX (aA g j) m 0 g.rules=some (bk (aA g k) m)
 | 0,h=>by
  have:=(eM g 0 m h)
  simp at this;omega
 | k+1,h=>by
  by_cases f:bz (aA g k) m
  .obtain⟨j,a,b,c,d⟩:=vX f
   rw[(gC f (Nat.le_succ k)).1]
   exact⟨j,by omega,b,c,d⟩
  .refine⟨k,by omega,f,?_,te f h⟩
   obtain⟨a,b,c⟩:=eM g (k+1) m h
   rcases Int.lt_or_le (k:Int) (bk (aA g (k+1)) m).bu with e | e
   .push_cast at b;omega
   .exact absurd (c k (by omega) e) f
def sY (P:List bp):List Bool:=P.map λp=>decide (0<=p.az)
theorem CR (P:List bp) (m:Nat):(sY P).getD m false=true↔bz P m:=by
 simp only[sY,bz,bk,Vp,Vt]
 cases P[m]? with
 | none=>simp[iK]
 | some p=>simp
theorem S9 (g:ai) (k:Nat):hZ (sY (aA g k)) (sY (aA g (k+1))) :=
 ⟨by simp[sY,eJ],λi h=>(CR _ _).2 (gC ((CR _ _).1 h) (by omega)).2⟩
theorem Tg {g:ai} {k:Nat} (h:sY (aA g k)=sY (aA g (k+1))):aA g (k+1)=aA g k:=by
 have hp:∀ m,bk (aA g (k+1)) m=bk (aA g k) m:=λm=>by
  by_cases a:bz (aA g k) m
  .exact Bq a
  .have h1:¬ bz (aA g (k+1)) m:=λe=>a ((CR _ _).1 (by rw[h];exact(CR _ _).2 e))
   rw[je a,je h1]
 apply Wp (by rw[eJ,eJ])
 intro m h1 b
 have:=hp m
 simpa [bk,Vp,h1,b] using this
theorem KS {g:ai} {k:Nat} (hk:k<=cM (sY (aA g k))):aA g (k+1)=aA g k∨k+1<=cM (sY (aA g (k+1))):=by
 have:=(S9 g k).cM
 by_cases e:cM (sY (aA g k))=cM (sY (aA g (k+1)))
 .exact .inl (Tg (this.2 e))
 .exact .inr (by omega)
theorem IK (g:ai) (k:Nat):cM (sY (aA g k))<=g.ak.length:=by
 have:=sH (sY (aA g k))
 simpa [sY,eJ] using this
theorem BT {g:ai} {k:Nat} (h:aA g (k+1)=aA g k):∀ d,aA g (k+d)=aA g k
 | 0=>rfl
 | d+1=>by
  have a:=BT h d
  rw[<-Ws,nZ,a,<-nZ,h]
def ao (g:ai):List bp:=aA g g.ak.length
theorem fP (g:ai):(ao g).length=g.ak.length:=eJ _ _
theorem QL {g:ai} {k:Nat} (hk:k<=g.ak.length) (h:aA g (k+1)=aA g k):aA g k=ao g:=by
 obtain⟨d,a⟩:∃ d,g.ak.length=k+d:=⟨g.ak.length - k,by omega⟩
 rw[ao,a,BT h d]
theorem kj {g:ai} {m:Nat} (h:bz (ao g) m):1<=(bk (ao g) m).bu/\(bk (ao g) m).bu<=g.ak.length:=⟨(eM g _ m h).1,(eM g _ m h).2.1⟩
theorem vN {g:ai} {m:Nat} (h:¬ bz (ao g) m):bk (ao g) m=iK:=je h
theorem mn {g:ai} {m:Nat} (h:bz (ao g) m):∃ (i:Nat) (r:ba),g.rules[i]?=some r/\r.left.toNat=m/\gK (ao g) r.right/\bk (ao g) m=fq (ao g) i r /\
  ∀ (j:Nat) (a:ba),j < i->g.rules[j]?=some a->a.left.toNat=m->gK (ao g) a.right->(bD (ao g) a.right aX).1.bu+1≠(bk (ao g) m).bu:=by
 obtain⟨k,hk,b,p,q⟩:=vX h
 obtain⟨i,r,hr,s,o,hp,e⟩:=iP q
 have c:∀ x∈r.right,x < 0->bk (aA g k) (bN x)=bk (ao g) (bN x):=λx d b=>((gC (o x d b) (by omega)).1).symm
 have t:bD (aA g k) r.right aX=bD (ao g) r.right aX:=CF _ _ c
 refine⟨i,r,hr,s,λx d b=>(gC (o x d b) (by omega)).2,?_,λj a u l n f he=>?_⟩
 .show bk (aA g g.ak.length) m=_
  rw[hp];unfold fq;rw[t,Wc]
 .have h1:(bk (ao g) m).bu=k+1:=p
  refine e j a u l n λx d b=>?_
  have v:=((ic (ao g) k a.right aX f).1 (by omega)).2 x d b
  exact(eM g _ _ (f x d b)).2.2 k (by omega) v
def fD (h:List Int) (m:Nat):Int:=h.getD m 0
def fA (h:List Int):List Int->Int->Int
 | [],top=>top+1
 | x :: l,top=>if 0<=x then fA h l top else if fD h (bN x)=0 then 0 else fA h l (max top (fD h (bN x)))
def kd (old:List Int) (k:Int) (out:List Int) (r:ba):List Int:=if fD out r.left.toNat=0/\fA old r.right 0=k then out.set r.left.toNat k else out
abbrev fg (P:List bp):List Int:=P.map bp.bu
theorem lz (P:List bp) (m:Nat):fD (fg P) m=(bk P m).bu:=by
 simp only[fD,bk,Vp,Vt]
 cases P[m]? <;> rfl
def zj (P:List bp):Prop:=∀ m,(bz P m->1<=(bk P m).bu)/\(¬ bz P m->bk P m=iK)
theorem Ce (g:ai) (k:Nat):zj (aA g k):=λm=>⟨λh=>(eM g k m h).1,je⟩
theorem zj.zero {P:List bp} (h:zj P) (m:Nat):fD (fg P) m=0↔¬ bz P m:=by
 rw[lz]
 constructor
 .intro e k;have:=(h m).1 k;omega
 .intro k;rw[(h m).2 k];rfl
theorem y0 {P:List bp} {x:Int} {l:List Int} {s:bp} (h:0<=x):bD P (x :: l) s=bD P l ⟨s.az,s.bu,s.rules,min 1048576 (s.au+1)⟩:=by rw[bD,Vu h]
theorem AQ {P:List bp} {x:Int} {l:List Int} {s:bp} (h:¬ 0<=x) (hk:¬ (bk P (bN x)).az < 0):bD P (x :: l) s=bD P l ⟨s.az,max s.bu (bk P (bN x)).bu,min 1048576 (s.rules+(bk P (bN x)).rules),min 1048576 (s.au+(bk P (bN x)).au)⟩:=by rw[bD,Vs h,Vs hk]
theorem E4 {P:List bp} {x:Int} {l:List Int} {s:bp} (h:¬ 0<=x) (hk:(bk P (bN x)).az < 0):bD P (x :: l) s=(s,false):=by rw[bD,Vs h,Vu hk]
theorem x5 {P:List bp} (b:zj P):∀ (l:List Int) (s:bp),fA (fg P) l s.bu=if (bD P l s).2=true then (bD P l s).1.bu+1 else 0
 | [],s=>by simp[fA,bD]
 | x :: l,s=>by
  simp only[fA]
  by_cases a:0<=x
  .rw[Vu a,y0 a,<-x5 b l]
  .rw[Vs a]
   by_cases h1:bz P (bN x)
   .have c:=h1
    unfold bz at c
    rw[Vs (λe=>((b.zero _).1 e) h1),AQ a (by omega),<-x5 b l,lz]
   .have c:=h1
    unfold bz at c
    rw[Vu ((b.zero _).2 h1),E4 a (by omega)]
    rfl
theorem q9 {P:List bp} (a:zj P) (l:List Int):(fA (fg P) l 0=0↔¬ gK P l)/\(gK P l->fA (fg P) l 0=(bD P l aX).1.bu+1):=by
 have h:=x5 a l aX
 have h1:=rj P l aX
 have c:(0:Int)<=(bD P l aX).1.bu:=h1
 have b:fA (fg P) l 0=_:=h
 rw[b]
 by_cases hk:gK P l
 .have:=(fZ P l aX).2 hk
  rw[Vu this]
  exact⟨⟨λe=>by omega,λe=>absurd hk e⟩,λ_=>rfl⟩
 .have:=λe=>hk ((fZ P l aX).1 e)
  rw[Vs this]
  exact⟨⟨λ_=>hk,λ_=>rfl⟩,λe=>absurd e hk⟩
theorem R3 {out:List Int} {i m:Nat} {v:Int} (hm:m < out.length):fD (out.set i v) m=if i=m then v else fD out m:=by
 simp only[fD,Vp,V9]
 split
 .rename_i e;subst e;simp[hm]
 .rfl
theorem CB (old:List Int) (k:Int) (out:List Int) (r:ba):(kd old k out r).length=out.length:=by
 unfold kd;split <;> simp
theorem Bw (old:List Int) (k:Int):∀ (l:List ba) (out:List Int),(l.foldl (kd old k) out).length=out.length
 | [],_=>rfl
 | r :: l,out=>by rw[V7,Bw old k l,CB]
theorem Ek (old:List Int) (k:Int) (m:Nat) (hk:k≠0):∀ (l:List ba) (out:List Int),m < out.length ->
  (fD out m≠0->fD (l.foldl (kd old k) out) m=fD out m) /\
  (fD out m=0->(∃ r∈l,r.left.toNat=m/\fA old r.right 0=k)->fD (l.foldl (kd old k) out) m=k) /\
  (fD out m=0->(¬ ∃ r∈l,r.left.toNat=m/\fA old r.right 0=k)->fD (l.foldl (kd old k) out) m=0)
 | [],out,hm=>⟨λ_=>rfl,λ_ ⟨r,hr,_⟩=>by simp at hr,λh _=>h⟩
 | r :: l,out,hm=>by
  obtain⟨i1,i2,i3⟩:=Ek old k m hk l (kd old k out r) (by rw[CB];exact hm)
  rw[V7]
  unfold kd at i1 i2 i3 ⊢
  by_cases d:fD out r.left.toNat=0/\fA old r.right 0=k
  .rw[Vu d] at i1 i2 i3 ⊢
   rw[R3 hm] at i1 i2 i3
   by_cases e:r.left.toNat=m
   .rw[Vu e] at i1 i2 i3
    refine⟨λh=>absurd (e ▸ d.1) h,λ_ _=>i1 hk,λ_ h=>absurd ⟨r,by simp,e,d.2⟩ h⟩
   .rw[Vs e] at i1 i2 i3
    refine⟨i1,λh ⟨c,a,h1,b⟩=>?_,λh h1=>i3 h λ⟨c,a,b⟩=>h1 ⟨c,by simp[a],b⟩⟩
    rcases VJ.1 a with rfl | a
    .exact absurd h1 e
    .exact i2 h ⟨c,a,h1,b⟩
  .rw[Vs d] at i1 i2 i3 ⊢
   refine⟨i1,λh ⟨c,a,h1,b⟩=>?_,λh h1=>i3 h λ⟨c,a,b⟩=>h1 ⟨c,by simp[a],b⟩⟩
   rcases VJ.1 a with rfl | a
   .exact absurd ⟨h1 ▸ h,b⟩ d
   .exact i2 h ⟨c,a,h1,b⟩
theorem RI (g:ai) (k:Nat):g.rules.foldl (kd (fg (aA g k)) ((k:Int)+1)) (fg (aA g k))=fg (aA g (k+1)):=by
 apply Wp (by rw[Bw];simp[eJ])
 intro m h1 t
 have hm:m < g.ak.length:=by simpa [eJ] using t
 have u:∀ {l:List Int} (h:m < l.length),l[m]=fD l m:=λh=>by simp[fD,Vp,h]
 rw[u h1,u t,lz]
 obtain⟨i1,i2,i3⟩:=Ek (fg (aA g k)) ((k:Int)+1) m (by omega) g.rules (fg (aA g k)) (by simp[eJ,hm])
 have n:=Ce g k
 by_cases d:bz (aA g k) m
 .rw[i1 (λe=>(n.zero m).1 e d),lz,(gC d (Nat.le_succ k)).1]
 .have v:=(n.zero m).2 d
  by_cases f:bz (aA g (k+1)) m
  .obtain⟨i,r,hr,o,q,hp,_⟩:=iP (te d f)
   obtain⟨a,b,c⟩:=eM g (k+1) m f
   have he:(bk (aA g (k+1)) m).bu=k+1:=by
    rcases Int.lt_or_le (k:Int) (bk (aA g (k+1)) m).bu with e | e
    .push_cast at b;omega
    .exact absurd (c k (by omega) e) d
   rw[he]
   refine i2 v ⟨r,VF hr,o,?_⟩
   rw[(q9 n r.right).2 q,<-he,hp];rfl
  .rw[je f]
   refine i3 v λ⟨r,hr,o,he⟩=>?_
   have q:gK (aA g k) r.right:=by
    rcases Classical.em (gK (aA g k) r.right) with h | h
    .exact h
    .have:=(q9 n r.right).1.2 h;omega
   unfold bz at d f
   rw[pN,Vs d,Vu hm] at f
   cases s:lX (aA g k) m 0 g.rules with
   | none=>exact yK s r hr o q
   | some p =>
    rw[s] at f
    obtain⟨j,w,_,_,_,rfl,_⟩:=iP s
    simp only[VI,fq] at f;omega
def kB (h:List Int) (m:Nat):List ba->Int->Int
 | [],_=>(-1)
 | r :: l,i=>if r.left=(m:Int)/\0 < fD h m/\fA h r.right 0=fD h m then i else kB h m l (i+1)
theorem Cs {h:List Int} {m:Nat} : ∀ {l:List ba} {i:Int},(∀ r∈l,¬ (r.left=(m:Int)/\0 < fD h m/\fA h r.right 0=fD h m))->kB h m l i=(-1)
 | [],_,_=>rfl
 | r :: l,i,a=>by rw[kB,Vs (a r (by simp)),Cs λr hr=>a r (by simp[hr])]
theorem Bp {h:List Int} {m:Nat} : ∀ {l:List ba} {i:Int} {j:Nat} {r:ba},l[j]?=some r->(r.left=(m:Int)/\0 < fD h m/\fA h r.right 0=fD h m) ->
  (∀ (b:Nat) (a:ba),b < j->l[b]?=some a->¬ (a.left=(m:Int)/\0 < fD h m/\fA h a.right 0=fD h m))->kB h m l i=i+j
 | [],_,_,_,hr,_,_=>by simp at hr
 | e :: l,i,0,r,hr,c,_=>by
  simp at hr;subst hr
  rw[kB,Vu c];simp
 | e :: l,i,j+1,r,hr,c,f=>by
  rw[kB,Vs (f 0 e (by omega) rfl),Bp (l:=l) (i:=i+1) (by simpa using hr) c λb a g d=>f (b+1) a (by omega) (by simpa using d)]
  push_cast;omega
theorem Lp {g:ai} (n:∀ r∈g.rules,0<=r.left) (m:Nat):kB (fg (ao g)) m g.rules 0=(bk (ao g) m).az:=by
 have e:zj (ao g):=Ce g _
 by_cases h:bz (ao g) m
 .obtain⟨i,r,hr,s,o,hp,a⟩:=mn h
  have t:=n r (VF hr)
  have p:fA (fg (ao g)) r.right 0=fD (fg (ao g)) m:=by
   rw[(q9 e _).2 o,lz,hp];rfl
  have b:0 < fD (fg (ao g)) m:=by rw[lz];have:=(kj h).1;omega
  have:=Bp (h:=fg (ao g)) (m:=m) (i:=0) hr ⟨by omega,b,p⟩ λj f q k l=>by
   have c:gK (ao g) f.right:=by
    rcases Classical.em (gK (ao g) f.right) with h | h
    .exact h
    .have:=(q9 e f.right).1.2 h;omega
   have d:=l.2.2
   rw[(q9 e _).2 c,lz] at d
   exact a j f q k (by omega) c d
  rw[this,hp];simp[fq]
 .rw[vN h]
  refine Cs λr hr l=>?_
  have:=(e.zero m).2 h
  omega
def oK (a b:Int × Int):Int × Int:=(min 1000 (a.1+b.1),min 1000 (a.2+b.2))
def kc (S:List (Int × Int)) (m:Nat):Int × Int:=S.getD m (0,0)
def mJ (S:List (Int × Int)):List Int->Int × Int->Int × Int
 | [],s=>s
 | x :: l,s=>mJ S l (oK s (if 0<=x then (0,1) else kc S (bN x)))
def kq (p:bp):Int × Int:=(min 1000 p.rules,min 1000 p.au)
def dW (p:bp):Prop:=(0<=p.rules/\p.rules<=1048576)/\(0<=p.au/\p.au<=1048576)
theorem mQ {P:List bp} (a:∀ m,dW (bk P m)):∀ (l:List Int) (s:bp),dW s->dW (bD P l s).1
 | [],s,h=>h
 | x :: l,s,h=>by
  have b:=a (bN x)
  unfold dW at h b
  simp only[bD]
  split
  .exact mQ a l _ (by unfold dW;simp only;omega)
  .split
   .exact h
   .exact mQ a l _ (by unfold dW;simp only;omega)
theorem gm:dW aX:=by unfold dW;simp[aX]
theorem NJ:dW iK:=by unfold dW;simp[iK]
theorem iV (g:ai):∀ k m,dW (bk (aA g k) m)
 | 0,m=>by
  have:bk (aA g 0) m=iK:=by
   simp only[aA,iter,bk,Vp,Wj]
   split <;> rfl
  rw[this];exact NJ
 | k+1,m=>by
  by_cases h:bz (aA g (k+1)) m
  .by_cases a:bz (aA g k) m
   .rw[(gC a (Nat.le_succ k)).1];exact iV g k m
   .obtain⟨i,r,_,_,_,hp,_⟩:=iP (te a h)
    rw[hp]
    have:=mQ (iV g k) r.right aX gm
    unfold dW at this ⊢
    simp only[fq];omega
  .rw[je h];exact NJ
theorem wz {P:List bp} {S:List (Int × Int)} (e:∀ m,dW (bk P m)):∀ (l:List Int) (s:bp) (t:Int × Int),dW s->gK P l->(∀ x∈l,x < 0->kc S (bN x)=kq (bk P (bN x)))->t=kq s->mJ S l t=kq (bD P l s).1
 | [],s,t,_,_,_,c=>c
 | x :: l,s,t,i,g,h,c=>by
  have j:=e (bN x)
  unfold dW at i j
  have a:gK P l:=λy f=>g y (by simp[f])
  have b:=λy (f:y∈l)=>h y (by simp[f])
  simp only[mJ,bD]
  by_cases d:0<=x
  .rw[Vu d,Vu d]
   refine wz e l _ _ (by unfold dW;simp only;omega) a b ?_
   subst c
   simp only[oK,kq,Vv];omega
  .have hk:=g x (by simp) (by omega)
   unfold bz at hk
   rw[Vs d,Vs d,Vs (by omega),h x (by simp) (by omega)]
   refine wz e l _ _ (by unfold dW;simp only;omega) a b ?_
   subst c
   simp only[oK,kq,Vv];omega
theorem Mv {g:ai} {S:List (Int × Int)} {m:Nat} (h:bz (ao g) m) {i:Nat} {r:ba} (hr:g.rules[i]?=some r) (hi:(bk (ao g) m).az=i)
  (e:∀ k,(bk (ao g) k).bu < (bk (ao g) m).bu->bz (ao g) k->kc S k=kq (bk (ao g) k)):oK (1,0) (mJ S r.right (0,0))=kq (bk (ao g) m):=by
 obtain⟨f,l,a,n,b,hp,_⟩:=mn h
 have:f=i:=by rw[hp] at hi;simp only[fq] at hi;omega
 subst this
 rw[hr] at a;simp at a;subst a
 have o:(bk (ao g) m).bu=(bD (ao g) r.right aX).1.bu+1:=by rw[hp];rfl
 have h1:=((ic (ao g) ((bk (ao g) m).bu - 1) r.right aX b).1 (by omega)).2
 rw[wz (P:=ao g) (λm=>iV g _ m) r.right aX (0,0) gm b (λx c d=>e _ (by have:=h1 x c d;omega) (b x c d)) rfl]
 have:=mQ (iV g g.ak.length) r.right aX gm
 have j:dW (bD (ao g) r.right aX).1:=this
 unfold dW at j
 rw[hp]
 simp only[oK,kq,fq,Vv];omega
def Bn (g:ai) (i:Int):List Int:=(g.rules.getD i.toNat ⟨0,[],0⟩).right
def dz (g:ai) (P:List bp):Nat->List Int->List Int
 | 0,l=>l.flatMap λx=>if 0<=x then [x] else []
 | f+1,l=>l.flatMap λx=>if 0<=x then [x] else dz g P f (Bn g (bk P (bN x)).az)
def ey (g:ai) (P:List bp):Nat->List Int->List Int
 | 0,_=>[]
 | f+1,l=>l.flatMap λx=>if 0<=x then [] else (bk P (bN x)).az :: ey g P f (Bn g (bk P (bN x)).az)
def zV (P:List bp) (f:Nat) (l:List Int):Prop:=∀ x∈l,x < 0->bz P (bN x)/\(bk P (bN x)).bu<=f
theorem nC (g:ai) (P:List bp) (f:Nat):dz g P f []=[]:=by cases f <;> rfl
theorem tC (g:ai) (P:List bp) (f:Nat):ey g P f []=[]:=by cases f <;> rfl
theorem fv (g:ai) (P:List bp) (f:Nat) (a b:List Int):dz g P f (a ++ b)=dz g P f a ++ dz g P f b:=by cases f <;> simp[dz]
theorem iX (g:ai) (P:List bp) (f:Nat) (a b:List Int):ey g P f (a ++ b)=ey g P f a ++ ey g P f b:=by cases f <;> simp[ey]
theorem iF {g:ai} {P:List bp} {f:Nat} {x:Int} (h:0<=x):dz g P f [x]=[x]:=by cases f <;> simp[dz,h]
theorem oV {g:ai} {P:List bp} {f:Nat} {x:Int} (h:0<=x):ey g P f [x]=[]:=by cases f <;> simp[ey,h]
theorem jK {g:ai} {P:List bp} {f:Nat} {x:Int} (h:x < 0):dz g P (f+1) [x]=dz g P f (Bn g (bk P (bN x)).az):=by
 simp[dz,show ¬ 0<=x by omega]
theorem nO {g:ai} {P:List bp} {f:Nat} {x:Int} (h:x < 0):ey g P (f+1) [x]=(bk P (bN x)).az :: ey g P f (Bn g (bk P (bN x)).az):=by
 simp[ey,show ¬ 0<=x by omega]
theorem zB {g:ai} {l:List Int} (h:zV (ao g) 0 l):∀ x∈l,0<=x:=λx c=>by
 rcases Int.lt_or_le x 0 with h1 | h1
 .obtain⟨a,b⟩:=h x c h1
  have:=(kj a).1
  simp at b;omega
 .exact h1
theorem sQ {g:ai} {f:Nat} {m:Nat} (h:bz (ao g) m) (d:(bk (ao g) m).bu<=(f:Int)+1):∃ (i:Nat) (r:ba),(bk (ao g) m).az=i/\g.rules[i]?=some r/\Bn g (bk (ao g) m).az=r.right/\zV (ao g) f r.right/\bk (ao g) m=fq (ao g) i r:=by
 obtain⟨i,r,hr,e,a,hp,_⟩:=mn h
 have hi:(bk (ao g) m).az=i:=by rw[hp];rfl
 have j:(bk (ao g) m).bu=(bD (ao g) r.right aX).1.bu+1:=by rw[hp];rfl
 have h1:=((ic (ao g) f r.right aX a).1 (by omega)).2
 refine⟨i,r,hi,hr,?_,λx b c=>⟨a x b c,h1 x b c⟩,hp⟩
 rw[hi];simp[Bn,Vp,hr]
theorem lF {g:ai} {f:Nat} (c:∀ x,x < 0->bz (ao g) (bN x)->(bk (ao g) (bN x)).bu<=f->(bk (ao g) (bN x)).rules=min 1048576 ((ey g (ao g) f [x]).length:Int)/\(bk (ao g) (bN x)).au=min 1048576 ((dz g (ao g) f [x]).length:Int)) :
  ∀ (l:List Int) (s:bp),zV (ao g) f l->dW s->(bD (ao g) l s).1.rules=min 1048576 (s.rules+(ey g (ao g) f l).length)/\(bD (ao g) l s).1.au=min 1048576 (s.au+(dz g (ao g) f l).length)
 | [],s,_,d=>by
  unfold dW at d
  rw[nC,tC]
  simp only[bD,VS];omega
 | x :: l,s,hu,d=>by
  have a:zV (ao g) f l:=λy i=>hu y (by simp[i])
  have e:=fv g (ao g) f [x] l
  have h:=iX g (ao g) f [x] l
  rw[List.singleton_append] at e h
  rw[e,h,VQ,VQ]
  have j:dW (bk (ao g) (bN x)):=iV g g.ak.length (bN x)
  unfold dW at d j
  by_cases b:0<=x
  .obtain⟨i1,i2⟩:=lF c l ⟨s.az,s.bu,s.rules,min 1048576 (s.au+1)⟩ a (by unfold dW;simp only;omega)
   rw[y0 b,i1,i2,iF b,oV b]
   simp only[Vz,VS]
   omega
  .obtain⟨hk,k⟩:=hu x (by simp) (by omega)
   obtain⟨m,k2⟩:=c x (by omega) hk k
   obtain⟨i1,i2⟩:=lF c l ⟨s.az,max s.bu (bk (ao g) (bN x)).bu,min 1048576 (s.rules+(bk (ao g) (bN x)).rules),min 1048576 (s.au+(bk (ao g) (bN x)).au)⟩ a (by unfold dW;simp only;omega)
   unfold bz at hk
   rw[AQ b (by omega),i1,i2,m,k2]
   push_cast
   omega
theorem nF (g:ai):∀ (f:Nat) (l:List Int) (s:bp),zV (ao g) f l->dW s ->
  (bD (ao g) l s).1.rules=min 1048576 (s.rules+(ey g (ao g) f l).length)/\(bD (ao g) l s).1.au=min 1048576 (s.au+(dz g (ao g) f l).length)
 | 0,l,s,hu,b=>lF (λx c hk a=>by have:=(kj hk).1;simp only[Int.natCast_zero] at a;omega) l s hu b
 | f+1,l,s,hu,b=>lF (λx c hk a=>by
   obtain⟨i,r,hi,hr,d,e,hp⟩:=sQ (f:=f) hk (by push_cast at a;exact a)
   obtain⟨h,j⟩:=nF g f r.right aX e gm
   have k:(bk (ao g) (bN x)).rules=min 1048576 ((bD (ao g) r.right aX).1.rules+1):=by rw[hp];rfl
   have k2:(bk (ao g) (bN x)).au=(bD (ao g) r.right aX).1.au:=by rw[hp];rfl
   rw[jK c,nO c,d,k,k2,h,j]
   simp only[Vz,aX]
   push_cast
   omega) l s hu b
theorem qb {g:ai} {f:Nat} (a:∀ x,x < 0->(dz g (ao g) f [x]).length<=6 * (ey g (ao g) f [x]).length):∀ (l:List Int),(dz g (ao g) f l).length<=l.length+6 * (ey g (ao g) f l).length
 | []=>by rw[nC];simp
 | x :: l=>by
  have b:=fv g (ao g) f [x] l
  have c:=iX g (ao g) f [x] l
  rw[List.singleton_append] at b c
  rw[b,c,VQ,VQ]
  have e:=qb a l
  by_cases d:0<=x
  .rw[iF d,oV d]
   simp only[Vz,VS];omega
  .have:=a x (by omega)
   simp only[Vz];omega
theorem Sm {g:ai} (a:∀ r∈g.rules,r.right.length<=6) (i:Int):(Bn g i).length<=6:=by
 simp only[Bn,Vp]
 cases hr:g.rules[i.toNat]? with
 | none=>simp
 | some r=>simpa using a r (VF hr)
theorem EM {g:ai} (b:∀ r∈g.rules,r.right.length<=6):∀ (f:Nat) (l:List Int),(dz g (ao g) f l).length<=l.length+6 * (ey g (ao g) f l).length
 | 0,l=>qb (λx a=>by simp[dz,show ¬ 0<=x by omega]) l
 | f+1,l=>qb (λx a=>by
  have i2:=EM b f (Bn g (bk (ao g) (bN x)).az)
  have:=Sm b (bk (ao g) (bN x)).az
  rw[jK a,nO a]
  simp only[Vz];omega) l
def dc (g:ai) (l:List Int):List Int × Int :=
 if (bM g && l.all (dw g))=true then
  (if (bD (ao g) l aX).2=false then ([],9) else if 300 < (bD (ao g) l aX).1.rules∨60 < (bD (ao g) l aX).1.au then ([],13) else (dz g (ao g) g.ak.length l,0))
 else ([],1)
inductive CQ (g:ai):List Int->List Int->List Int->Prop
 | nil:CQ g [] [] []
 | term (s:Int) (l t w:List Int):0<=s->CQ g l t w->CQ g (s :: l) t (s :: w)
 | ky (s:Int) (l:List Int) (k:Nat) (R:ba) (t1 w1 t w:List Int):s < 0->g.rules[k]?=some R->R.left = -1 - s->CQ g R.right t1 w1->CQ g l t w->CQ g (s :: l) (((k:Int) :: t1) ++ t) (w1 ++ w)
theorem TL {g:ai} {l t w:List Int} (h:CQ g l t w):∀ (a b:List Int),Sp g (a ++ w ++ b) l a.length (a.length+w.length):=by
 induction h with
 | nil=>exact λa b=>.nil _
 | term s l t w c _ m =>
  intro a b
  refine .term s l a.length _ c ⟨s,by simp,.inl rfl⟩ ?_
  have:=m (a ++ [s]) b
  simp only[VQ,Vz,VS,Wc,We,V4,Wi] at this ⊢
  rw[show a.length+(w.length+1)=a.length+1+w.length by omega]
  exact this
 | ky s l k R t1 f t w c n o _ _ d e =>
  intro a b
  have i:=d a (w ++ b)
  have j:=e (a ++ f) b
  simp only[VQ,We] at i j ⊢
  rw[<-Ws]
  exact .ky s l R a.length (a.length+f.length) _ c (VF n) o i j
theorem Nr {g:ai} (a:∀ r∈g.rules,0<=r.left):∀ (f:Nat) (l:List Int),zV (ao g) f l->CQ g l (ey g (ao g) f l) (dz g (ao g) f l):=by
 intro f
 induction f with
 | zero =>
  intro l
  induction l with
  | nil=>intro _;rw[tC,nC];exact .nil
  | cons s l j =>
   intro h
   have b:=zB h s (by simp)
   have d:=iX g (ao g) 0 [s] l
   have e:=fv g (ao g) 0 [s] l
   rw[List.singleton_append] at d e
   rw[d,e,oV b,iF b]
   exact .term s l _ _ b (j λx k=>h x (by simp[k]))
 | succ f m =>
  intro l
  induction l with
  | nil=>intro _;rw[tC,nC];exact .nil
  | cons s l j =>
   intro h
   have v:=j λx k=>h x (by simp[k])
   have d:=iX g (ao g) (f+1) [s] l
   have e:=fv g (ao g) (f+1) [s] l
   rw[List.singleton_append] at d e
   rw[d,e]
   by_cases b:0<=s
   .rw[oV b,iF b]
    exact .term s l _ _ b v
   .obtain⟨hk,w⟩:=h s (by simp) (by omega)
    obtain⟨i,R,hi,n,o,p,z⟩:=sQ (f:=f) hk (by push_cast at w;exact w)
    rw[nO (by omega),jK (by omega),o,hi]
    have q:R.left = -1 - s:=by
     obtain⟨y,A,c,t,_,u,_⟩:=mn hk
     have:(y:Int)=i:=by rw[<-hi,u];rfl
     have:y=i:=by omega
     subst this
     rw[n] at c
     simp at c;subst c
     have:=a R (VF n)
     unfold bN at t
     omega
    exact .ky s l i R _ _ _ _ (by omega) n q (m R.right p) v
theorem MI {g:ai} (d:∀ r∈g.rules,∀ s∈r.right,dw g s=true) {l t w:List Int} (h:CQ g l t w):(∀ s∈l,dw g s=true)->∀ x∈w,0<=x/\x < g.au.length:=by
 induction h with
 | nil=>simp
 | term s l t w e _ m =>
  intro c x a
  rcases VJ.1 a with rfl | a
  .have:=c x (by simp)
   unfold dw at this
   rw[Vu e] at this
   exact⟨e,by simpa using this⟩
  .exact m (λs d=>c s (by simp[d])) x a
 | ky s l k R t1 o t w e n c _ _ f i =>
  intro c x a
  rcases VM.1 a with a | a
  .exact f (λj b=>d R (VF n) j b) x a
  .exact i (λj b=>c j (by simp[b])) x a
theorem Tw:rK.Ok:=by
 refine⟨by unfold aI;decide,by unfold aI;decide,by unfold aI;decide,by unfold bS;decide,?_,?_⟩
 .intro t a;simp[rK] at a
 .intro r hr;simp[rK] at hr
section
variable {g r:ai} {p q:List Bool} {o:List Int}
end
theorem bytes_beq (a b:ByteArray):(a == b)=decide (a=b):=by
 cases a with | mk a=>cases b with | mk b =>
 rw[Wv]
 show (ByteArray.beq ⟨a⟩ ⟨b⟩=true)↔_
 simp only[ByteArray.beq]
 simp
theorem EX (a b:ByteArray):jb a b=decide (a=b):=by
 cases a with | mk a=>cases b with | mk b =>
 rw[Wv]
 simp[jb]
theorem pZ {α:Type} {a b:List α} {i:Nat} {x y:α} (c:a[i]?=some x) (d:b[i]?=some y) (h:a.take i=b.take i) (e:x=y):a.take (i+1)=b.take (i+1):=by
 rw[VP,VP,h,c,d,e]
theorem sO {α:Type} {a b:List α} {i:Nat} (c:a.length<=i) (d:b.length<=i) (h:a.take i=b.take i):a=b:=by
 rwa [VG c,VG d] at h
theorem vV {α:Type} {a b:List α} {i:Nat} {x y:α} (d:a[i]?=some x) (c:b[i]?=some y) (e:x≠y):a≠b:=by
 rintro rfl;rw[d] at c;exact e (by simpa using c)
theorem sr {α:Type} {a b:List α} (h:¬ a.length=b.length):a≠b:=λe=>h (by rw[e])
theorem zX (x y:Term):gR Tryz.prog 9998 #[.string x.name,.int .i64 x.level,.int .i64 x.assoc] #[.string y.name,.int .i64 y.level,.int .i64 y.assoc]
  [{ name:= "Name",type:=9,offset:=0,embedded:=false,tag:= "",pkgPath:= "",byteOffset:=0 },{ name:= "Level",type:=3,offset:=1,embedded:=false,tag:= "",pkgPath:= "",byteOffset:=16 },
   { name:= "Assoc",type:=3,offset:=2,embedded:=false,tag:= "",pkgPath:= "",byteOffset:=24 }] (x.name == y.name && (x.level == y.level && (x.assoc == y.assoc && true))) :=
 .str _ _ _ _ _ (by decide) Tryz.underlying9 rfl rfl (.int _ _ _ _ _ _ (by decide) Tryz.underlying3 rfl rfl (.int _ _ _ _ _ _ (by decide) Tryz.underlying3 rfl rfl .nil))
theorem Jm (x y:Term):(x.name == y.name && (x.level == y.level && (x.assoc == y.assoc && true)))=decide (x=y):=by
 rw[bytes_beq,Wv]
 cases x;cases y
 simp
theorem Sa (a b:Int):(a == b)=decide (a=b):=by rw[Wv];simp
theorem Qc (x y:ba):decide (x=y)=(decide (x.left=y.left) && (decide (x.prec=y.prec) && decide (x.right=y.right))):=by
 cases x;cases y
 rw[Wv]
 simp[and_comm]
theorem Gg (x y:ai):decide (x=y)=(decide (x.au=y.au) && (decide (x.ak=y.ak) && (decide (x.rules=y.rules) && decide (x.start=y.start)))):=by
 cases x;cases y
 rw[Wv]
 simp
theorem Ew (g k:ai):∀ v∈[V.agg (ag g),V.agg (ag k)],Tree v:=by
 intro v a;simp at a
 rcases a with rfl | rfl <;> exact bW _ (cw _)
def ov:SC :=
 af [af [ae [aa 42 5,av 43 0 2,al 44 43,aN 45 44,aS 46 .lss 42 45],bO 46 (.exit 0)],.block 1 (af [ae [av 49 0 2,al 50 49,aa 51 5,aL 52 3 50 51,bb 53 3 52,av 54 0 3,al 55 54,aa 56 5,aL 57 3 55 56,bb 58 3 57,((some 59),.op (.old (.binOp .neq 130 (.tmp 53) (.tmp 58) 130) 4))],aZ 59 (af [ae [bm 4 false],.ret])]),ae [aa 47 5,aF 48 .add 47 1,aa 5 48]]
def oO:SC :=
 af [af [ae [aa 60 6,av 61 1 2,al 62 61,aN 63 62,aS 64 .lss 60 63],bO 64 (.exit 2)],.block 3 (af [ae [av 67 1 2,al 68 67,aa 69 6,aL 70 1 68 69,al 71 70,av 72 1 3,al 73 72,aa 74 6,aL 75 1 73 74,al 76 75,((some 77),.op (.xl .neq (.tmp 71) (.tmp 76)))],aZ 77 (af [ae [bm 4 false],.ret])]),ae [aa 65 6,aF 66 .add 65 1,aa 6 66]]
def oy:SC :=
 af [af [ae [aa 78 7,av 79 2 2,al 80 79,aN 81 80,aS 82 .lss 78 81],bO 82 (.exit 4)],.block 5 (af [ae [av 85 2 2,al 86 85,aa 87 7,aL 88 3 86 87,bb 89 3 88,av 90 2 3,al 91 90,aa 92 7,aL 93 3 91 92,bb 94 3 93,((some 8),.op (.alloc [(.val (.int .i64 0)),(.emp 1),(.val (.int .i64 0))])),((some 9),.op (.alloc [(.val (.int .i64 0)),(.emp 1),(.val (.int .i64 0))])),cy 3 8 89,cy 3 9 94],.region false [⟨none,[av 95 0 8,al 96 95,av 97 0 9,al 98 97,aS 99 .neq 96 98,aa 100 99]⟩,⟨(some (100,false)),[av 101 2 8,al 102 101,av 103 2 9,al 104 103,aS 105 .neq 102 104]⟩,⟨none,[cx 106 100 105,aa 107 106]⟩,⟨(some (107,false)),[av 108 1 8,al 109 108,av 110 1 9,al 111 110,bf 112 26 [109,111],c5 113 112]⟩,⟨none,[cx 114 107 113]⟩],aZ 114 (af [ae [bm 4 false],.ret])]),ae [aa 83 7,aF 84 .add 83 1,aa 7 84]]
def qz:SF:=⟨af [ae [cE 2 0,cE 3 1,bm 4 false],af [.region false [⟨none,[av 10 0 2,al 11 10,aN 12 11,av 13 0 3,al 14 13,aN 15 14,aS 16 .neq 12 15,aa 17 16]⟩,⟨(some (17,false)),[av 18 1 2,al 19 18,aN 20 19,av 21 1 3,al 22 21,aN 23 22,aS 24 .neq 20 23]⟩,⟨none,[cx 25 17 24,aa 26 25]⟩,⟨(some (26,false)),[av 27 2 2,al 28 27,aN 29 28,av 30 2 3,al 31 30,aN 32 31,aS 33 .neq 29 32]⟩,⟨none,[cx 34 26 33,aa 35 34]⟩,⟨(some (35,false)),[av 36 3 2,al 37 36,av 38 3 3,al 39 38,aS 40 .neq 37 39]⟩,⟨none,[cx 41 35 40]⟩],aZ 41 (af [ae [bm 4 false],.ret])],af [ae [aP 5 0],bR 0 ov],af [ae [aP 6 0],bR 2 oO],af [ae [aP 7 0],bR 4 oy],ae [bm 4 true],.ret],
 [.tmp 4],115⟩
theorem vq:aM Tryz.prog 31 [2,3]=some qz:=by kernel_rfl
theorem OL (g k:ai) (o:g.Ok):aB Tryz.prog 31 [.agg (ag g),.agg (ag k)] (gb (decide (g=k))):=by
 refine aB.val (Ew g k) λH=>?_
 rw[Gg]
 refine aw.of mixed vq ?_
 have h1:=o.au
 have v:=o.ak
 have w:=o.rules
 unfold aI at h1 v w
 simp(disch:=omega)only[↓wr,seval,wq,qz,ag,encS]
 repeat' (first | ((first|apply aj.dec|apply aj.eq|apply aj.ne|apply aj.split)<;>intro)|(simp(disch:=omega)only[↓wr,seval,wq,ag,encS]))
 .rename_i e;rw[decide_eq_false (sr (by omega))];rfl
 .rename_i e;rw[decide_eq_false (p:=g.ak=k.ak) (sr (by omega))];simp
 .rename_i e;rw[decide_eq_false (p:=g.rules=k.rules) (sr (by omega))];simp
 .rename_i e;rw[decide_eq_false e];simp
 rename_i A B C z
 refine aR.up g.au.length (λi T _=>g.au.take i=k.au.take i/\T 2=.aJ (ag g) 0/\T 3=.aJ (ag k) 0/\T 5=gi i) ⟨by simp,rfl,rfl,rfl⟩ ?_
 rintro i m T H hm ⟨hi,t2,t3,t5⟩
 simp(disch:=omega)only[↓wr,seval,wq,ov,t2,t3,t5,ag,encS]
 apply aj.dec<;>intro d
 .have a:=Vq (l:=g.au) (i:=i) (by omega)
  have b:=Vq (l:=k.au) (i:=i) (by omega)
  generalize g.au[i]'(by omega)=x at a
  generalize k.au[i]'(by omega)=y at b
  simp(disch:=omega)only[↓wr,seval,wq,t2,t3,t5,Vt,a,b,dq,ag,encS]
  refine kg (xs:=#[.string x.name,.int .i64 x.level,.int .i64 x.assoc]) (ys:=#[.string y.name,.int .i64 y.level,.int .i64 y.assoc]) Tryz.underlying130 (by kernel_rfl) (by kernel_rfl) ?_ ?_ (zX x y) (.inr ⟨rfl,rfl⟩) ?_
  .rfl
  .rfl
  rw[Jm]
  simp(disch:=omega)only[↓wr,seval,wq,t2,t3,t5]
  apply aj.split<;>intro e
  .simp(disch:=omega)only[↓wr,seval,wq,t2,t3,t5]
   exact aE hm (by omega) ⟨pZ a b hi (by simpa using e),t2,t3,rfl⟩
  .simp(disch:=omega)only[↓wr,seval,wq,t2,t3,t5]
   rw[decide_eq_false (vV a b (by simpa using e))];rfl
 have s:g.au=k.au:=sO (by omega) (by omega) hi
 simp(disch:=omega)only[↓wr,seval,wq,t2,t3,t5]
 clear hi d hm
 refine aR.up g.ak.length (λi T _=>g.ak.take i=k.ak.take i/\T 2=.aJ (ag g) 0/\T 3=.aJ (ag k) 0/\T 6=gi i) ⟨by simp,t2,t3,rfl⟩ ?_
 clear t2 t3 t5 T H i m
 rintro i m T H hm ⟨hi,t2,t3,t5⟩
 simp(disch:=omega)only[↓wr,seval,wq,oO,t2,t3,t5,ag,encS]
 apply aj.dec<;>intro d
 .have a:=Vq (l:=g.ak) (i:=i) (by omega)
  have b:=Vq (l:=k.ak) (i:=i) (by omega)
  generalize g.ak[i]'(by omega)=x at a
  generalize k.ak[i]'(by omega)=y at b
  simp(disch:=omega)only[↓wr,seval,wq,t2,t3,t5,Vt,a,b,dq,ag,encS,EX]
  apply aj.split<;>intro e
  .simp(disch:=omega)only[↓wr,seval,wq,t2,t3,t5]
   exact aE hm (by omega) ⟨pZ a b hi (by simpa using e),t2,t3,rfl⟩
  .simp(disch:=omega)only[↓wr,seval,wq,t2,t3,t5]
   rw[decide_eq_false (p:=g.ak=k.ak) (vV a b (by simpa using e))];simp
 have t:g.ak=k.ak:=sO (by omega) (by omega) hi
 simp(disch:=omega)only[↓wr,seval,wq,t2,t3,t5]
 clear hi d hm
 refine aR.up g.rules.length (λi T _=>g.rules.take i=k.rules.take i/\T 2=.aJ (ag g) 0/\T 3=.aJ (ag k) 0/\T 7=gi i) ⟨by simp,t2,t3,rfl⟩ ?_
 clear t2 t3 t5 T H i m
 rintro i m T H hm ⟨hi,t2,t3,t5⟩
 simp(disch:=omega)only[↓wr,seval,wq,oy,t2,t3,t5,ag,encS]
 apply aj.dec<;>intro d
 .have a:=Vq (l:=g.rules) (i:=i) (by omega)
  have b:=Vq (l:=k.rules) (i:=i) (by omega)
  have j:g.rules[i]'(by omega)∈g.rules:=Vw _
  generalize g.rules[i]'(by omega)=x at a j
  generalize k.rules[i]'(by omega)=y at b
  have q:=(o.az x j).2.2.1
  simp(disch:=omega)only[↓wr,seval,wq,t2,t3,t5,Vt,a,b,aK,encI,ag,encS]
  intro n D
  try simp(disch:=omega)only[↓wr,seval,wq,t2,t3,t5,aK,encI]
  intro E r
  have c:=(cb r b6).1
  try simp(disch:=omega)only[↓wr,seval,wq,t2,t3,t5,aK,encI,c,c.symm]
  have f:x≠y->V.val (Value.bool false)=V.val (Value.bool (decide (g.au=k.au) && (decide (g.ak=k.ak) && (decide (g.rules=k.rules) && decide (g.start=k.start))))):=λe=>by
   rw[decide_eq_false (p:=g.rules=k.rules) (vV a b e)];simp
  repeat' (first | ((first|apply aj.dec|apply aj.eq|apply aj.ne|apply aj.split)<;>intro)|(refine ax.pure (RX x.right y.right q) ?_)|(simp(disch:=omega)only[↓wr,seval,wq,t2,t3,t5,aK,encI,c,c.symm]))
  .rename_i e;exact f λh=>e (by rw[h])
  .rename_i e;exact f λh=>e (by rw[h])
  .rename_i u t s
   refine aE hm (by omega) ⟨pZ a b hi ?_,t2,t3,rfl⟩
   cases x;cases y
   simp_all
  .rename_i e;exact f λh=>by rw[h] at e;simp at e
 .have u:g.rules=k.rules:=sO (by omega) (by omega) hi
  simp(disch:=omega)only[↓wr,seval,wq,t2,t3,t5]
  simp[s,t,u,z]
def gu:SC :=
 af [ae [aS 14 .lss 13 12],bO 14 (.exit 0),.block 1 (af [ae [aa 15 13,aa 5 15],ae [aa 16 0,aa 17 5,aL 18 3 16 17,bb 19 3 18,aa 20 1,aa 21 5,aL 22 3 20 21,bb 23 3 22,((some 24),.op (.old (.binOp .neq 130 (.tmp 19) (.tmp 23) 130) 4))],aZ 24 (af [ae [bm 4 false],.ret])]),ae [aF 25 .add 13 1,aa 13 25]]
def gO:SF:=⟨af [ae [bm 4 false],af [ae [aa 6 0,aN 7 6,aa 8 1,aN 9 8,aS 10 .neq 7 9],aZ 10 (af [ae [bm 4 false],.ret])],af [ae [aa 11 0,aN 12 11,aP 13 0],bR 0 gu],ae [bm 4 true],.ret],
 [.tmp 4],26⟩
theorem kr:aM Tryz.prog 203 []=some gO:=by kernel_rfl
def ia:SC :=
 af [ae [aS 14 .lss 13 12],bO 14 (.exit 0),.block 1 (af [ae [aa 15 13,aa 5 15],ae [aa 16 0,aa 17 5,aL 18 1 16 17,al 19 18,aa 20 1,aa 21 5,aL 22 1 20 21,al 23 22,((some 24),.op (.xl .neq (.tmp 19) (.tmp 23)))],aZ 24 (af [ae [bm 4 false],.ret])]),ae [aF 25 .add 13 1,aa 13 25]]
def iw:SF:=⟨af [ae [bm 4 false],af [ae [aa 6 0,aN 7 6,aa 8 1,aN 9 8,aS 10 .neq 7 9],aZ 10 (af [ae [bm 4 false],.ret])],af [ae [aa 11 0,aN 12 11,aP 13 0],bR 0 ia],ae [bm 4 true],.ret],
 [.tmp 4],26⟩
theorem lU:aM Tryz.prog 204 []=some iw:=by kernel_rfl
def jO:SC :=
 af [ae [aS 14 .lss 13 12],bO 14 (.exit 0),.block 1 (af [ae [aa 15 13,aa 5 15],ae [aa 16 0,aa 17 5,aL 18 1 16 17,al 19 18,aa 20 1,aa 21 5,aL 22 1 20 21,al 23 22,aS 24 .neq 19 23],aZ 24 (af [ae [bm 4 false],.ret])]),ae [aF 25 .add 13 1,aa 13 25]]
def kK:SF:=⟨af [ae [bm 4 false],af [ae [aa 6 0,aN 7 6,aa 8 1,aN 9 8,aS 10 .neq 7 9],aZ 10 (af [ae [bm 4 false],.ret])],af [ae [aa 11 0,aN 12 11,aP 13 0],bR 0 jO],ae [bm 4 true],.ret],
 [.tmp 4],26⟩
theorem pP:aM Tryz.prog 254 []=some kK:=by kernel_rfl
def Af:SF:=⟨af [ae [cE 2 0,cE 3 1,bm 4 false],.region false [⟨none,[av 5 0 2,al 6 5,av 7 0 3,al 8 7,aS 9 .eql 6 8,aa 10 9]⟩,⟨(some (10,true)),[av 11 2 2,al 12 11,av 13 2 3,al 14 13,aS 15 .eql 12 14]⟩,⟨none,[eV 16 10 15,aa 17 16]⟩,⟨(some (17,true)),[av 18 1 2,al 19 18,av 20 1 3,al 21 20,bf 22 254 [19,21]]⟩,⟨none,[eV 23 17 22,aa 4 23]⟩],.ret],
 [.tmp 4],24⟩
theorem DL:aM Tryz.prog 206 [2,3]=some Af:=by kernel_rfl
def dt:SC :=
 af [ae [aS 18 .lss 17 16],bO 18 (.exit 0),.block 1 (af [ae [aa 19 17,aL 20 3 15 17,bb 21 3 20,((some 8),.op (.alloc [(.val (.int .i64 0)),(.emp 1),(.val (.int .i64 0))])),aa 7 19,cy 3 8 21],ae [aa 22 1,aa 23 7,aL 24 3 22 23,bb 25 3 24,((some 9),.op (.alloc [(.val (.int .i64 0)),(.emp 1),(.val (.int .i64 0))])),cy 3 9 25],ae [aa 26 2,bb 27 3 8,bb 28 3 9,((some 29),.call (.tmp 26) [(.tmp 27),(.tmp 28)]),c5 30 29],aZ 30 (af [ae [bm 6 false],.ret])]),ae [aF 31 .add 17 1,aa 17 31]]
def dA:SF:=⟨af [ae [bm 6 false],af [ae [aa 10 0,aN 11 10,aa 12 1,aN 13 12,aS 14 .neq 11 13],aZ 14 (af [ae [bm 6 false],.ret])],af [ae [aa 15 0,aN 16 15,aP 17 0],bR 0 dt],ae [bm 6 true],.ret],
 [.tmp 6],32⟩
theorem fB:aM Tryz.prog 205 []=some dA:=by kernel_rfl
def Bk:SF:=⟨af [ae [cE 2 0,cE 3 1,bm 4 false],.region false [⟨none,[av 5 0 2,al 6 5,av 7 0 3,al 8 7,bf 9 203 [6,8],aa 10 9]⟩,⟨(some (10,true)),[av 11 1 2,al 12 11,av 13 1 3,al 14 13,bf 15 204 [12,14]]⟩,⟨none,[eV 16 10 15,aa 17 16]⟩,⟨(some (17,true)),[av 18 2 2,al 19 18,av 20 2 3,al 21 20,qN 22 205 [(.tmp 19),(.tmp 21),(.val (.fn 206 [] []))]]⟩,⟨none,[eV 23 17 22,aa 24 23]⟩,⟨(some (24,true)),[av 25 3 2,al 26 25,av 27 3 3,al 28 27,aS 29 .eql 26 28]⟩,⟨none,[eV 30 24 29,aa 4 30]⟩],.ret],
 [.tmp 4],31⟩
theorem Fo:aM Tryz.prog 143 [2,3]=some Bk:=by kernel_rfl
theorem M9 {α:Type} {f g:α->List V} {a b:List α} (d:∀ x,∀ v∈f x,Tree v) (e:∀ x,∀ v∈g x,Tree v):∀ v∈[V.aW (a.map f),V.aW (b.map g)],Tree v:=by
 intro v c;simp at c
 rcases c with rfl | rfl
 .exact ep _ _ λx _=>d x
 .exact ep _ _ λx _=>e x
theorem M4 (a b:List Term) (l:aI a) (H:View):aw Tryz.prog 203 [.aW (a.map dq),.aW (b.map dq)] H λr _=>r=gb (decide (a=b)):=by
 refine aw.of mixed kr ?_
 unfold aI at l
 simp(disch:=omega)only[↓wr,seval,wq,gO]
 apply aj.ne<;>intro h
 .simp(disch:=omega)only[↓wr,seval,wq]
  rw[decide_eq_false (sr (by omega))]
 .simp(disch:=omega)only[↓wr,seval,wq]
  refine aR.up a.length (λi T _=>a.take i=b.take i/\T 0=.aW (a.map dq)/\T 1=.aW (b.map dq)/\T 12=gi a.length/\T 13=gi i) ⟨by simp,rfl,rfl,rfl,rfl⟩ ?_
  rintro i k T H hk ⟨hi,c,h1,d,f⟩
  simp(disch:=omega)only[↓wr,seval,wq,gu,c,h1,d,f]
  apply aj.dec<;>intro m
  .have g:a[i]?=some (a[i]'(by omega)):=Vq (by omega)
   have j:b[i]?=some (b[i]'(by omega)):=Vq (by omega)
   generalize a[i]'(by omega)=x at g
   generalize b[i]'(by omega)=y at j
   simp(disch:=omega)only[↓wr,seval,wq,c,h1,d,f,Vt,g,j,dq]
   refine kg (xs:=#[.string x.name,.int .i64 x.level,.int .i64 x.assoc]) (ys:=#[.string y.name,.int .i64 y.level,.int .i64 y.assoc]) Tryz.underlying130 (by kernel_rfl) (by kernel_rfl) ?_ ?_ (zX x y) (.inr ⟨rfl,rfl⟩) ?_
   .rfl
   .rfl
   rw[Jm]
   simp(disch:=omega)only[↓wr,seval,wq,c,h1,d,f]
   apply aj.split<;>intro e
   .simp(disch:=omega)only[↓wr,seval,wq,c,h1,d,f]
    exact aE hk (by omega) ⟨pZ g j hi (by simpa using e),c,h1,d,rfl⟩
   .simp(disch:=omega)only[↓wr,seval,wq,c,h1,d,f]
    rw[decide_eq_false (vV g j (by simpa using e))]
  .simp(disch:=omega)only[↓wr,seval,wq,c,h1,d,f]
   rw[Wb (sO (by omega) (by omega) hi)]
theorem Oe (a b:List ByteArray) (l:aI a) (H:View):aw Tryz.prog 204 [encS a,encS b] H λr _=>r=gb (decide (a=b)):=by
 refine aw.of mixed lU ?_
 unfold aI at l
 simp(disch:=omega)only[↓wr,seval,wq,iw,encS]
 apply aj.ne<;>intro h
 .simp(disch:=omega)only[↓wr,seval,wq]
  rw[decide_eq_false (sr (by omega))]
 .simp(disch:=omega)only[↓wr,seval,wq]
  refine aR.up a.length (λi T _=>a.take i=b.take i/\T 0=encS a/\T 1=encS b/\T 12=gi a.length/\T 13=gi i) ⟨by simp,rfl,rfl,rfl,rfl⟩ ?_
  rintro i k T H hk ⟨hi,c,h1,d,f⟩
  simp(disch:=omega)only[↓wr,seval,wq,ia,c,h1,d,f,encS]
  apply aj.dec<;>intro m
  .have g:a[i]?=some (a[i]'(by omega)):=Vq (by omega)
   have j:b[i]?=some (b[i]'(by omega)):=Vq (by omega)
   generalize a[i]'(by omega)=x at g
   generalize b[i]'(by omega)=y at j
   simp(disch:=omega)only[↓wr,seval,wq,c,h1,d,f,encS,Vt,g,j,EX]
   apply aj.split<;>intro e
   .simp(disch:=omega)only[↓wr,seval,wq,c,h1,d,f]
    exact aE hk (by omega) ⟨pZ g j hi (by simpa using e),c,h1,d,rfl⟩
   .simp(disch:=omega)only[↓wr,seval,wq,c,h1,d,f]
    rw[decide_eq_false (vV g j (by simpa using e))]
  .simp(disch:=omega)only[↓wr,seval,wq,c,h1,d,f]
   rw[Wb (sO (by omega) (by omega) hi)]
theorem OJ (a b:List Int) (l:aI a) (H:View):aw Tryz.prog 254 [encI a,encI b] H λr _=>r=gb (decide (a=b)):=by
 refine aw.of mixed pP ?_
 unfold aI at l
 simp(disch:=omega)only[↓wr,seval,wq,kK,encI]
 apply aj.ne<;>intro h
 .simp(disch:=omega)only[↓wr,seval,wq]
  rw[decide_eq_false (sr (by omega))]
 .simp(disch:=omega)only[↓wr,seval,wq]
  refine aR.up a.length (λi T _=>a.take i=b.take i/\T 0=encI a/\T 1=encI b/\T 12=gi a.length/\T 13=gi i) ⟨by simp,rfl,rfl,rfl,rfl⟩ ?_
  rintro i k T H hk ⟨hi,c,h1,d,f⟩
  simp(disch:=omega)only[↓wr,seval,wq,jO,c,h1,d,f,encI]
  apply aj.dec<;>intro m
  .have g:a[i]?=some (a[i]'(by omega)):=Vq (by omega)
   have j:b[i]?=some (b[i]'(by omega)):=Vq (by omega)
   generalize a[i]'(by omega)=x at g
   generalize b[i]'(by omega)=y at j
   simp(disch:=omega)only[↓wr,seval,wq,c,h1,d,f,encI,Vt,g,j]
   apply aj.ne<;>intro e
   .simp(disch:=omega)only[↓wr,seval,wq,c,h1,d,f]
    rw[decide_eq_false (vV g j e)]
   .simp(disch:=omega)only[↓wr,seval,wq,c,h1,d,f]
    exact aE hk (by omega) ⟨pZ g j hi e,c,h1,d,rfl⟩
  .simp(disch:=omega)only[↓wr,seval,wq,c,h1,d,f]
   rw[Wb (sO (by omega) (by omega) hi)]
theorem Mi (a b:List Term) (c:aI a):aB Tryz.prog 203 [.aW (a.map dq),.aW (b.map dq)] (gb (decide (a=b))):=aB.val (M9 tF tF) (M4 a b c)
theorem Pb (a b:List ByteArray) (d:aI a):aB Tryz.prog 204 [encS a,encS b] (gb (decide (a=b))):=aB.val (by
 intro v c;simp at c
 rcases c with rfl | rfl <;> exact ze _) (Oe a b d)
theorem O4 (a b:List Int) (d:aI a):aB Tryz.prog 254 [encI a,encI b] (gb (decide (a=b))):=aB.val (by
 intro v c;simp at c
 rcases c with rfl | rfl <;> exact bI _) (OJ a b d)
theorem QM (x y:ba) (b:aI x.right):aB Tryz.prog 206 [.agg (aK x),.agg (aK y)] (gb (decide (x=y))):=by
 refine aB.val (by
  intro v a;simp at a
  rcases a with rfl | rfl <;> exact bW _ (fS _)) λH=>?_
 rw[Qc]
 refine aw.of mixed DL ?_
 simp(disch:=omega)only[↓wr,seval,wq,Af,aK,encI]
 repeat' (first | ((first|apply aj.dec|apply aj.eq|apply aj.ne|apply aj.split)<;>intro)|(refine ax.pure (O4 x.right y.right b) ?_)|(simp(disch:=omega)only[↓wr,seval,wq,aK]))
 all_goals simp[*]
theorem GX (a b:List ba) (s:aI a) (hr:∀ r∈a,aI r.right) (H:View):aw Tryz.prog 205 [.aW (a.map aK),.aW (b.map aK),.fn 206 [] []] H λr _=>r=gb (decide (a=b)):=by
 refine aw.of mixed fB ?_
 unfold aI at s
 simp(disch:=omega)only[↓wr,seval,wq,dA]
 apply aj.ne<;>intro h
 .simp(disch:=omega)only[↓wr,seval,wq]
  rw[decide_eq_false (sr (by omega))]
 .simp(disch:=omega)only[↓wr,seval,wq]
  refine aR.up a.length (λi T _=>a.take i=b.take i/\T 15=.aW (a.map aK)/\T 1=.aW (b.map aK)/\T 2=.fn 206 [] []/\T 16=gi a.length/\T 17=gi i) ⟨by simp,rfl,rfl,rfl,rfl,rfl⟩ ?_
  rintro i k T H hk ⟨hi,c,h1,d,f,g⟩
  simp(disch:=omega)only[↓wr,seval,wq,dt,c,h1,d,f,g]
  apply aj.dec<;>intro t
  .have j:a[i]?=some (a[i]'(by omega)):=Vq (by omega)
   have l:b[i]?=some (b[i]'(by omega)):=Vq (by omega)
   have hm:a[i]'(by omega)∈a:=Vw _
   generalize a[i]'(by omega)=x at j hm
   generalize b[i]'(by omega)=y at l
   have p:=hr x hm
   simp(disch:=omega)only[↓wr,seval,wq,c,h1,d,f,g,Vt,j,l,aK,encI]
   intro n u
   try simp(disch:=omega)only[↓wr,seval,wq,c,h1,d,f,g,Vt,j,l,aK,encI]
   intro m q
   have o:=(cb q b6).1
   try simp(disch:=omega)only[↓wr,seval,wq,c,h1,d,f,g,Vt,j,l,aK,encI,o,o.symm]
   refine ax.pure (QM x y p) ?_
   simp(disch:=omega)only[↓wr,seval,wq,c,h1,d,f,g]
   apply aj.split<;>intro e
   .simp(disch:=omega)only[↓wr,seval,wq,c,h1,d,f,g]
    exact aE hk (by omega) ⟨pZ j l hi (by simpa using e),c,h1,d,f,rfl⟩
   .simp(disch:=omega)only[↓wr,seval,wq,c,h1,d,f,g]
    rw[decide_eq_false (vV j l (by simpa using e))]
  .simp(disch:=omega)only[↓wr,seval,wq,c,h1,d,f,g]
   rw[Wb (sO (by omega) (by omega) hi)]
theorem Gy (a b:List ba) (d:aI a) (hr:∀ r∈a,aI r.right):aB Tryz.prog 205 [.aW (a.map aK),.aW (b.map aK),.fn 206 [] []] (gb (decide (a=b))):=aB.val (by
 intro v c;simp at c
 rcases c with rfl | rfl | rfl
 .exact ep _ _ λx _=>fS x
 .exact ep _ _ λx _=>fS x
 .exact C6 (by simp) (by simp)) (GX a b d hr)
theorem Qd (g k:ai) (a:g.Ok):aB Tryz.prog 143 [.agg (ag g),.agg (ag k)] (gb (decide (g=k))):=by
 refine aB.val (Ew g k) λH=>?_
 rw[Gg]
 refine aw.of mixed Fo ?_
 simp(disch:=omega)only[↓wr,seval,wq,Bk,ag,encS]
 repeat' (first | ((first|apply aj.dec|apply aj.eq|apply aj.ne|apply aj.split)<;>intro)|(refine ax.pure (Mi g.au k.au a.au) ?_)|(refine ax.pure (Pb g.ak k.ak a.ak) ?_)|(refine ax.pure (Gy g.rules k.rules a.rules (λr hr=>(a.az r hr).2.2.1)) ?_)|(simp(disch:=omega)only[↓wr,seval,wq,ag,encS]))
 all_goals simp_all [Sa]
def EJ:SF:=⟨af [ae [cE 1 0,bm 2 false],ae [bb 7 4 1,bf 8 92 [7],aa 6 8,dJ 9 0 6,dJ 10 1 6,dJ 11 2 6,((some 3),.op (.alloc [(.emp 1),(.emp 1),(.emp 1),(.val (.int .i64 0))])),cy 4 3 9,aa 4 10,aa 5 11],.region false [⟨none,[aa 12 5,aF 13 .eql 12 0,aa 14 13]⟩,⟨(some (14,true)),[bb 15 4 1,bb 16 4 3,bf 17 143 [15,16]]⟩,⟨none,[eV 18 14 17,aa 2 18]⟩],.ret],
 [.tmp 2],19⟩
theorem Gu:aM Tryz.prog 82 [1]=some EJ:=by kernel_rfl
def sN:SF:=⟨af [ae [cE 1 0,bm 2 false],ae [bb 7 4 1,bf 8 47 [7],aa 6 8,dJ 9 0 6,dJ 10 1 6,dJ 11 2 6,((some 3),.op (.alloc [(.emp 1),(.emp 1),(.emp 1),(.val (.int .i64 0))])),cy 4 3 9,aa 4 10,aa 5 11],.region false [⟨none,[aa 12 5,aF 13 .eql 12 0,aa 14 13]⟩,⟨(some (14,true)),[bb 15 4 1,bb 16 4 3,bf 17 31 [15,16]]⟩,⟨none,[eV 18 14 17,aa 2 18]⟩],.ret],
 [.tmp 2],19⟩
theorem xI:aM Tryz.prog 15 [1]=some sN:=by kernel_rfl
theorem SK (g:ai) (a:g.Ok) (b:g.Small):aB Tryz.prog 82 [.agg (ag g)] (gb (isRed g)):=by
 refine aB.val (eD g) λH=>?_
 refine aw.of mixed Gu ?_
 simp(disch:=omega)only[↓wr,seval,wq,EJ,ag,encS]
 refine ax.pure (Ld g a b).pure ?_
 unfold isRed
 generalize gS g=x
 obtain⟨k,il,e⟩:=x
 simp(disch:=omega)only[↓wr,seval,wq,vR,ag,encS]
 intro n c
 apply aj.eq<;>intro h
 .simp(disch:=omega)only[↓wr,seval,wq,vR,ag,encS]
  refine ax.pure (Qd g k a) ?_
  simp(disch:=omega)only[↓wr,seval,wq]
  simp[h]
 .simp(disch:=omega)only[↓wr,seval,wq]
  simp[h]
theorem S5 (g:ai) (a:g.Ok):aB Tryz.prog 15 [.agg (ag g)] (gb (isRed g)):=by
 refine aB.val (eD g) λH=>?_
 refine aw.of mixed xI ?_
 simp(disch:=omega)only[↓wr,seval,wq,sN,ag,encS]
 refine ax.pure (Ir g a).pure ?_
 unfold isRed
 generalize gS g=x
 obtain⟨k,il,e⟩:=x
 simp(disch:=omega)only[↓wr,seval,wq,vR,ag,encS]
 intro n b
 apply aj.eq<;>intro h
 .simp(disch:=omega)only[↓wr,seval,wq,vR,ag,encS]
  refine ax.pure (OL g k a) ?_
  simp(disch:=omega)only[↓wr,seval,wq]
  simp[h]
 .simp(disch:=omega)only[↓wr,seval,wq]
  simp[h]
def Uf:ai:=⟨[⟨⟨#[39,97,39]⟩,0,0⟩,⟨⟨#[39,98,39]⟩,0,0⟩,⟨⟨#[39,99,39]⟩,0,0⟩,⟨⟨#[39,100,39]⟩,0,0⟩],[⟨#[115]⟩,⟨#[117]⟩,⟨#[118]⟩],[⟨0,[0,(-2)],0⟩,⟨0,[1],1⟩,⟨0,[],(-1)⟩,⟨1,[(-2),2],2⟩,⟨2,[3,(-1)],3⟩],0⟩
def Tt:ai:=⟨Uf.au,[⟨#[115]⟩],[⟨0,[1],1⟩,⟨0,[],(-1)⟩],0⟩
theorem po:isRed Tt=true:=by kernel_rfl
theorem dB.fr {h:aD} {v t:V} (f:dB h v t):Fr h v t:=by
 induction f with
 | val v=>exact .tree _ (.val _)
 | emp k=>exact .emp k
 | sl id off len esz z es es' h1 c d e _ b=>exact .sl id off len esz z es es' h1 c d e b
 | agg cs a h1 _ b=>exact .agg cs a h1 b
 | aY cs a h1 _ b=>exact .aY cs a h1 b
noncomputable def Mr:List (FuncId × DF):=vM Tryz.prog [(251,[]),(180,[]),(236,[]),(237,[])]
theorem Ou:qt Tryz.prog Mr:=sB _ _
def bU (p:bp):List V:=[gi p.az,gi p.bu,gi p.rules,gi p.au]
abbrev iJ (P:List bp):V:=.aW (P.map bU)
theorem sd (P:List bp):Tree (iJ P):=ep _ _ λx _ v a=>by
 simp[bU] at a
 rcases a with rfl | rfl | rfl | rfl <;> exact .val _
theorem Tm {n:Nat} (h:sn Tryz.prog Mr (λ_ _ _=>none) 251 [iJ [iK],gi n]=some (iJ (List.replicate n iK))):ca Tryz.prog 251 [iJ [iK],gi n] (iJ (List.replicate n iK)) :=
 pb mixed Ou (Lx _) (by
  intro v a;simp at a
  rcases a with rfl | rfl
  .exact sd [iK]
  .exact .val _) h
theorem Mp {n:Nat} (h1:1<=n) (a:n<=16):ca Tryz.prog 251 [iJ [iK],gi n] (iJ (List.replicate n iK)):=by
 have:n=1∨n=2∨n=3∨n=4∨n=5∨n=6∨n=7∨n=8∨n=9∨n=10∨n=11∨n=12∨n=13∨n=14∨n=15∨n=16:=by omega
 rcases this with rfl | rfl | rfl | rfl | rfl | rfl | rfl | rfl | rfl | rfl | rfl | rfl | rfl | rfl | rfl | rfl <;> exact Tm (by kernel_rfl)
theorem Cc (p:bp):∀ v∈bU p,Tree v:=by
 intro v a;simp[bU] at a
 rcases a with rfl | rfl | rfl | rfl <;> exact .val _
theorem Te (h:aD) (p:bp):dB h (.agg (bU p)) (.agg (bU p)):=.agg _ _ rfl λi hi=>by
 match i,hi with
 | 0,_=>exact .val _
 | 1,_=>exact .val _
 | 2,_=>exact .val _
 | 3,_=>exact .val _
 | n+4,h=>exact absurd h (by simp[bU])
def Ak (p:bp):Prop:=dW p/\(-1<=p.az/\p.az<=1000000)/\0<=p.bu/\p.bu<=1000000
theorem QC:Ak aX:=by unfold Ak dW aX;decide
theorem Ga {x:Int} : (if x < 1048576 then x else 1048576)=min 1048576 x:=by omega
theorem OY {x y:Int} : (if y > x then y else x)=max x y:=by omega
def xo:SC :=
 af [ae [aS 12 .lss 11 10],bO 12 (.exit 0),.block 1 (af [ae [aL 13 1 9 11,al 14 13,aa 7 14],af [ae [aa 15 7,aF 16 .geq 15 0],aZ 16 (af [ae [av 17 3 4,al 18 17,aF 19 .add 18 1,((some 20),.op (.mm false (.val (.val (.int .i64 1048576))) (.tmp 19))),av 21 3 4,cy 1 21 20],.exit 1])],ae [aa 22 1,aa 23 7,((some 24),.op (.arith .sub (.val (.val (.int .i64 (-1)))) (.tmp 23))),aL 25 4 22 24,bb 26 4 25,((some 8),.op (.alloc [(.val (.int .i64 0)),(.val (.int .i64 0)),(.val (.int .i64 0)),(.val (.int .i64 0))])),cy 4 8 26],af [ae [av 27 0 8,al 28 27,aF 29 .lss 28 0],aZ 29 (af [ae [bb 30 4 4,cy 4 4 30,bm 5 false],.ret])],ae [av 31 1 4,al 32 31,av 33 1 8,al 34 33,((some 35),.op (.mm true (.tmp 32) (.tmp 34))),av 36 1 4,cy 1 36 35],.uZ [(45,49)] [⟨none,[av 37 2 4,al 38 37,av 39 2 8,al 40 39,aS 41 .add 38 40,((some 42),.op (.mm false (.val (.val (.int .i64 1048576))) (.tmp 41))),av 43 3 4,al 44 43,av 45 3 8,al 46 45,aS 47 .add 44 46,((some 48),.op (.mm false (.val (.val (.int .i64 1048576))) (.tmp 47))),av 49 2 4,cy 1 49 42,av 50 3 4,cy 1 50 48]⟩]]),ae [aF 51 .add 11 1,aa 11 51]]
def zN:SF:=⟨af [ae [((some 4),.op (.alloc [(.val (.int .i64 0)),(.val (.int .i64 0)),(.val (.int .i64 0)),(.val (.int .i64 0))])),bm 5 false],af [ae [aa 9 0,aN 10 9,aP 11 0],bR 0 xo],ae [bb 52 4 4,cy 4 4 52,bm 5 true],.ret],
 [.cell 4 (some 4),.tmp 5],53⟩
theorem DJ:aM Tryz.prog 196 []=some zN:=by kernel_rfl
theorem yS {P:List bp} {m:Nat} (h:m < P.length):(P.map bU)[m]?=some (bU (bk P m)):=by
 simp[bk,Vp,h]
theorem On (P:List bp) (o:∀ m,Ak (bk P m)) (l:List Int) (p:aI l) (t:∀ x∈l,bS x/\(x < 0->-1 - x < P.length)) :
  ca Tryz.prog 196 [encI l,iJ P] (.aY [.agg (bU (bD P l aX).1),gb (bD P l aX).2]):=by
 have key:∀ H,aw Tryz.prog 196 [encI l,iJ P] H λr _=>r=.aY [.agg (bU (bD P l aX).1),gb (bD P l aX).2]:=?_
 .refine ca.of (by
   intro v g;simp at g
   rcases g with rfl | rfl
   .exact bI l
   .exact sd P) ((key _).mono λr H' e A _=>?_)
  rw[e];exact HU (Te _ _) (.val _)
 intro H
 refine aw.of mixed DJ ?_
 unfold aI at p
 simp(disch:=omega)only[↓wr,seval,wq,zN,encI]
 intro m hm
 try simp(disch:=omega)only[↓wr,seval,wq,encI]
 refine aR.up l.length (λi T H'=>∃ s:bp,Ak s/\s.az=0/\bD P (l.drop i) s=bD P l aX/\H' m=.arr 4 [bU s]/\T 1=iJ P/\T 4=.ptr m 0 0/\T 9=encI l/\T 10=gi l.length/\T 11=gi i) ?_ ?_
 .exact⟨aX,QC,rfl,rfl,by simp[View.set,bU,aX],rfl,rfl,rfl,rfl,rfl⟩
 rintro i k T H hk ⟨s,u,d,a,hH,t1,t4,t9,t10,t11⟩
 unfold Ak dW at u
 simp(disch:=omega)only[↓wr,seval,wq,xo,t1,t4,t9,t10,t11,encI]
 apply aj.dec<;>intro w
 .have h:l[i]?=some (l[i]'(by omega)):=Vq (by omega)
  have c:l[i]'(by omega)∈l:=Vw _
  rw[dS (show i < l.length by omega)] at a
  generalize l[i]'(by omega)=x at h c a
  obtain⟨⟨y,z⟩,f⟩:=t x c
  simp(disch:=omega)only[↓wr,seval,wq,t1,t4,t9,t10,t11,encI,Vt,h]
  apply aj.dec<;>intro j
  .simp(disch:=omega)only[↓wr,seval,wq,t1,t4,t9,t10,t11,encI,hH,bU,Ga]
   rw[y0 (show 0<=x from j)] at a
   refine aE hk (by omega) ⟨_,?_,?_,a,?_,t1,t4,t9,t10,rfl⟩
   .unfold Ak dW;simp only;omega
   .exact d
   .simp[View.set]
  .have hm:(bN x) < P.length:=by have:=f (by omega);unfold bN;omega
   have hp:=o (bN x)
   unfold Ak dW at hp
   simp(disch:=omega)only[↓wr,seval,wq,t1,t4,t9,t10,t11,encI,hH,yS hm]
   simp(disch:=omega)only[↓wr,seval,wq,t1,t4,t9,t10,t11,encI,hH,bU]
   intro q n
   have b:m≠q:=by rintro rfl;rw[hH] at n;simp at n
   try simp(disch:=omega)only[↓wr,seval,wq,t1,t4,t9,t10,t11,encI,hH,b,b.symm,bU]
   apply aj.dec<;>intro he
   .simp(disch:=omega)only[↓wr,seval,wq,t1,t4,t9,t10,t11,encI,hH,b,b.symm,bU]
    rw[E4 (by omega) he] at a
    rw[<-a]
   .simp(disch:=omega)only[↓wr,seval,wq,t1,t4,t9,t10,t11,encI,hH,b,b.symm,bU,Ga,OY]
    rw[AQ (by omega) he] at a
    refine aE hk (by omega) ⟨_,?_,?_,a,?_,t1,t4,t9,t10,rfl⟩
    .unfold Ak dW;simp only;omega
    .exact d
    .simp[View.set,b]
 .simp(disch:=omega)only[↓wr,seval,wq,t1,t4,t9,t10,t11,hH,bU]
  rw[VN (by omega)] at a
  rw[<-a];try rfl
def dX:SF:=⟨af [ae [bT 2 1],af [ae [aa 3 0,((some 4),.op (.nil true 0 (.tmp 3) (.val (.emp 1))))],aZ 4 (af [ae [bT 2 1],.ret])],ae [bT 5 2,aa 6 0,gp 7 4 32 5 6,aa 2 7],.ret],
 [.tmp 2],8⟩
theorem jt:aM Tryz.prog 252 []=some dX:=by kernel_rfl
theorem Mf (P:List bp) (c:P.length<=100000) (h1:1<=P.length) (u:V) (H:View) (hu:u=iJ P∨aO H u 4 (P.map bU)) :
  aw Tryz.prog 252 [u] H λr H'=>aO H' r 4 (P.map bU)/\bZ H H' r:=by
 have a:((P.map bU).all λe=>e.length == 4 && e.all aH)=true:=by simp[WS,bU,aH]
 refine aw.of mixed jt ?_
 cases P with
 | nil=>simp at h1
 | cons p r =>
  simp only[Vz] at c
  rcases hu with rfl | hu
  .simp(disch:=omega)only[↓wr,seval,wq,dX,iJ]
   refine⟨by simpa using a,by unfold aC;simp;omega,λm hm=>?_⟩
   simp(disch:=omega)only[↓wr,seval,wq]
   have:=aO.new (H:=H) (n:=m) (sz:=4) (es:=(p :: r).map bU)
   simp only[Vx,Vz] at this
   exact⟨by simpa using this,.new hm⟩
  .obtain⟨n,rfl,b⟩:=hu.sl (by simp)
   simp only[Vx,Vz] at b ⊢
   have he:bC H (.sl n 0 (r.length+1) 4)=some ((p :: r).map bU,[n]):=by
    rw[jZ _ n 0 r.length 4 4 _ b (by simp),Ww,VG (by simp)]
   simp(disch:=omega)only[↓wr,seval,wq,dX,he]
   refine⟨by simpa using a,by unfold aC;simp;omega,λm hm=>?_⟩
   simp(disch:=omega)only[↓wr,seval,wq]
   have:=aO.new (H:=H) (n:=m) (sz:=4) (es:=(p :: r).map bU)
   simp only[Vx,Vz] at this
   exact⟨by simpa using this,.new hm⟩
end Gv
