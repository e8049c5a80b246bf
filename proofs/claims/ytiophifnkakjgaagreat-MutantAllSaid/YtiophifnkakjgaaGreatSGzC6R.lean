/-
  Part 18 of the proof: what the machine does and what the functions answer.
  Conditions: those that each lemma names.
-/
import Derived.Shelf.Spec.SlicesInsertGrow
import Derived.Shelf.Slices.Delete
import Derived.Test.YtiophifnkakjgaaGreatSGzC6Q
set_option linter.unusedSimpArgs false
set_option linter.unusedVariables false
set_option maxRecDepth 100000
set_option maxHeartbeats 20000000
namespace Gv
open Go Go.Proofs
def VL (g:aj) (s:Int) (n:Nat) (o:List aO):List aO:=(List.range n).foldl (λo (k:Nat)=>if (bZ g k).left = -1-s then fc o ⟨k,0⟩ else o) o
def Mc (g:aj) (p:List aO) (x:aO):List aO:=if (bI g x).2=true/\(bI g x).1<0 then VL g (bI g x).1 g.rules.length p else p
def GB (g:aj) (l:List aO):List aO:=iter (λo=>o.foldl (Mc g) o) g.rules.length l
def Yr (g:aj) (l o:List aO):Bool:=l.all (λx=>decide (x∈o))&&o.all λx=>!(bI g x).2||decide (0<=(bI g x).1)||(List.range g.rules.length).all λ(k:Nat)=>!decide ((bZ g k).left = -1-(bI g x).1)||decide ((⟨k,0⟩:aO)∈o)
def Lt (g:aj) (l o:List aO):Prop:=cL o/\∀x∈o,oX g l x
theorem Ny {g:aj} {k:Nat} (h:k<g.rules.length):g.rules[k]?=some (bZ g k):=by unfold bZ;rw[abu];exact getD_some h
theorem OY {g:aj} {l:List aO} {x:aO} {s:Int} (c:oX g l x) (d:bI g x=(s,true)) (e:s<0):∀(n:Nat) (o:List aO),n<=g.rules.length->Lt g l o->Lt g l (VL g s n o)
 | 0,_,_,h=>h
 | n+1,o,f,h=>by
  have a:=OY c d e n o (by omega) h
  unfold VL at a ⊢
  rw[acj,acw]
  simp only[abF,acY]
  split
  .rename_i i
   refine⟨qp a.1,λy b=>?_⟩
   rcases jZ.1 b with rfl | b
   .exact .step c d e (Ny (by omega)) i
   .exact a.2 y b
  .exact a
theorem Dw {g:aj} {l:List aO}:∀(q o:List aO),(∀x∈q,oX g l x)->Lt g l o->Lt g l (q.foldl (Mc g) o)
 | [],_,_,h=>h
 | x::q,o,a,h=>by
  refine Dw q _ (λy c=>a y (by simp[c])) ?_
  unfold Mc
  split
  .rename_i b
   exact OY (a x (by simp)) (Prod.ext rfl b.1) b.2 _ _ (aaY _) h
  .exact h
theorem GN {α:Type} {p:α->Prop} {f:α->α} (h:∀x,p x->p (f x)):∀(n:Nat) (x:α),p x->p (iter f n x)
 | 0,_,a=>a
 | n+1,x,a=>GN h n (f x) (h x a)
theorem VR {g:aj} (i:g.c6) {l:List aO} (j:cL l) (m:∀x∈l,cT g x) (h:Yr g l (GB g l)=true):du g l=GB g l:=by
 have d:Lt g l (GB g l):=GN (λo e=>Dw o o e.2 e) _ l ⟨j,λx b=>.base b⟩
 simp only[Yr,aaZ,abj,aa5] at h
 refine El i m d.1 d.2 h.1 λx b s k R n f hk p=>?_
 have h1:=h.2 x b
 obtain⟨a,q⟩:=aaX.1 hk
 rw[Ny a] at hk
 simp only[aaV] at hk
 simp only[n,acU,acC,acG,aa5,abj,abL,ac5,acf] at h1
 rcases h1 with h1 | h1
 .omega
 .rcases h1 k a with c | c
  .exact absurd (by rw[hk];exact p) c
  .exact c
def JC (g:aj) (at_:Nat) (out:List ba):List ba:=(List.range (g.ax.length+g.av.length)).foldl (dB g (GB g (out.getD at_ b6).bz) at_) out
def JR (g:aj):Nat->Nat->List ba->Option (List ba)
 | 0,_,_=>none
 | f+1,at_,out=>if at_<out.length then
   (if Yr g (out.getD at_ b6).bz (GB g (out.getD at_ b6).bz)=true/\(JC g at_ out).length<=300 then JR g f (at_+1) (JC g at_ out) else none)
  else some out
theorem J8 {g:aj} (b:g.c6):∀(f at_:Nat) (out a:List ba),eo g at_ 0 out->JR g f at_ out=some a->∀k:Nat,f<=k->fU g k at_ out=(a,0)
 | 0,_,_,_,_,h,_,_=>by simp[JR] at h
 | f+1,at_,out,a,l,h,k,hk=>by
  obtain⟨j,rfl⟩:∃j,k=j+1:=⟨k-1,by omega⟩
  rw[JR] at h
  rw[fU]
  split at h
  .rename_i c
   rw[aaT c]
   split at h
   .rename_i m
    have hm:=aa1 (getD_some (d:=b6) c)
    have i:=l.bz _ hm
    have e:AZ g at_ out (g.ax.length+g.av.length)=JC g at_ out:=by
     unfold AZ JC
     rw[VR b i.1 i.2.2 m.1]
    have hr:=eo.row (l.nN b c).1 (l.nN b c).2 l (g.ax.length+g.av.length) (by have:=b.ax;have:=b.av;omega)
    rw[show (List.range (g.ax.length+g.av.length)).foldl (dB g (du g (out.getD at_ b6).bz) at_) out=AZ g at_ out (g.ax.length+g.av.length) from rfl] at hr
    rw[e] at hr ⊢
    rw[aaR (by omega)]
    exact J8 b f (at_+1) _ a hr.1.next h j (by omega)
   .simp at h
  .rename_i c
   rw[aaR c]
   simp only[aaV] at h
   rw[h]
theorem vw (g:aj):(cd g).1.length<=300/\∀x∈(cd g).1,x.word.length<=60:=by
 have key:∀a i,∀x∈(cQ g a i).1,x.word.length<=60:=by
  intro a i
  induction i with
  | zero=>simp[cQ]
  | succ i c =>
   rw[cQ]
   split
   .exact c
   .split
    .simp
    .intro x b
     rcases aa7.1 b with b | b
     .exact c x b
     .simp at b
      subst b
      exact(Ds (g:=g) _).2
 unfold cd
 split
 .simp
 .rename_i h
  obtain⟨_,e,d⟩:=CV (acn.1 h)
  have:=uO (g:=g) (a:=(cD g).1) (cD g).1.length
  exact⟨by omega,key _ _⟩
theorem Ee {g:aj} {a:List ba}:∀n,(cQ g a n).2=0->(cQ g a n).1.length=n/\∀i:Nat,i<n->(cQ g a n).1[i]?=some (wT g a i)/\(dp g ((fk g a i).1++(fk g a i).2)).2=0
 | 0,_=>⟨rfl,λi h=>by omega⟩
 | n+1,h=>by
  rw[cQ] at h ⊢
  split at h
  .rename_i h1;exact absurd h h1
  .rename_i h1
   have h1:(cQ g a n).2=0:=acn.1 h1
   obtain⟨i1,i2⟩:=Ee n h1
   split at h
   .rename_i b;exact absurd h b
   .rename_i b
    rw[aaR (by simp[h1]),aaR b]
    refine⟨by simp[i1],λi hi=>?_⟩
    simp only
    by_cases e:i<n
    .rw[abm (by omega)]
     exact i2 i e
    .obtain rfl:i=n:=by omega
     rw[abV (by omega),i1,Nat.sub_self]
     exact⟨rfl,acn.1 b⟩
theorem Gs {g:aj} {a:List ba}:∀n,(cQ g a n).2≠0->(cQ g a n).1=[]
 | 0,h=>absurd rfl h
 | n+1,h=>by
  rw[cQ] at h ⊢
  split
  .rename_i h1
   rw[aaT h1] at h
   exact Gs n h
  .rename_i h1
   rw[aaR h1] at h
   split
   .rfl
   .rename_i b;rw[aaR b] at h;exact absurd rfl h
structure TN (g:aj) (i:Nat) (b:gX):Prop where
 state:b.state=i
 len:0<=b.len/\b.len<=b.word.length
 short:b.word.length<=60
 ax:∀x∈b.word,0<=x/\x<g.ax.length
 right:bt g=true
theorem wZ {g:aj} {i:Nat} {b:gX} (h:(cd g).1[i]?=some b):TN g i b/\(cd g).2=0:=by
 have d:(cD g).2=0:=by
  unfold cd at h
  split at h
  .simp at h
  .rename_i e;exact acn.1 e
 have a:cd g=cQ g (cD g).1 (cD g).1.length:=by
  unfold cd
  rw[aaR (by simp[d])]
 rw[a] at h ⊢
 have he:(cQ g (cD g).1 (cD g).1.length).2=0:=by
  refine acx λc=>?_
  rw[Gs _ c] at h
  simp at h
 refine⟨?_,he⟩
 obtain⟨l,f⟩:=Ee _ he
 have hi:i<(cD g).1.length:=by
  have:=(aaX.1 h).1
  omega
 obtain⟨j,hw⟩:=f i hi
 rw[j] at h
 simp only[aaV] at h
 subst h
 obtain⟨k,_,z3⟩:=UI hw
 have m:=(Ew hw).2
 exact⟨rfl,⟨by simp[wT],by simp only[wT];omega⟩,(Ds (g:=g) _).2,z3,k⟩
theorem Be {g:aj} {b:gX} (h:b∈(cd g).1):∃i,i<300/\TN g i b:=by
 obtain⟨i,hi⟩:=List.mem_iff_getElem?.1 h
 refine⟨i,?_,(wZ hi).1⟩
 have:=(aaX.1 hi).1
 have:=(vw g).1
 omega
theorem N2 {g:aj} (c:g.ax.length<=1000) {b:gX} (h:b∈(cd g).1):b.word.length<=60/\(0<=b.len/\b.len<=b.word.length)/\(∀x∈b.word,bm x)/\bm b.state:=by
 obtain⟨i,hi,o⟩:=Be h
 exact⟨o.short,o.len,λx a=>by have:=o.ax x a;unfold bm;omega,by rw[o.state];unfold bm;omega⟩
theorem UG {g:aj} {m:Int} (hm:m<=60) {b:gX} (h:b∈(cd g).1) {x:List Int} (a:∀y∈x,y∈b.word∨(0<=y/\y<g.ax.length)) (c:(x.length:Int)<=m):(kQ g x).2=0:=by
 obtain⟨i,hi,o⟩:=Be h
 rw[C1 o.right (λy d=>(a y d).elim (o.ax y) id) hm c]
def TT:List Int:=[37,37,32,115,32,58,32,39,40,39,32,115,32,39,41,39,32,124,32,59]
def dr:aj:=⟨[⟨⟨#[39,40,39]⟩,0,0⟩,⟨⟨#[39,41,39]⟩,0,0⟩],[⟨#[115]⟩],[⟨0,[0,-1,1],1⟩,⟨0,[],-1⟩],0⟩
theorem YY:cg aa 44 [D7 TT] (uX dr):=OK (by kernel_rfl)
theorem BQ:dr.Ok:=by
 refine⟨by unfold aI;decide,by unfold aI;decide,by unfold aI;decide,by unfold bm;decide,?_,?_⟩
 .intro t a;simp[dr] at a;rcases a with rfl | rfl<;>unfold bm<;>decide
 .intro r hr;simp[dr] at hr;rcases hr with rfl | rfl<;>unfold bm aI<;>decide
theorem vI:dr.Small:=⟨by decide⟩
theorem Wn:bt dr=true:=by kernel_rfl
def Qb:List ba:=[⟨[⟨-1,0⟩],[⟨0,1⟩,⟨-1,2⟩]⟩,⟨[⟨0,1⟩],[⟨0,1⟩,⟨-1,3⟩]⟩,⟨[⟨-1,1⟩],[]⟩,⟨[⟨0,2⟩],[⟨1,4⟩]⟩,⟨[⟨0,3⟩],[]⟩]
theorem aal:cD dr=(Qb,0):=by
 have hr:isRed dr=true:=by kernel_rfl
 unfold cD
 rw[aaT hr]
 exact J8 (uN hr) 10 0 eu Qb mI (by kernel_rfl) 302 (by omega)
def E9:List gX:=[⟨0,0,[]⟩,⟨1,1,[0,1]⟩,⟨2,0,[]⟩,⟨3,1,[0,1]⟩,⟨4,2,[0,1]⟩]
theorem Xe:cd dr=(E9,0):=by
 unfold cd
 rw[aal]
 have h:cQ dr Qb 5=(E9,0):=by kernel_rfl
 exact h
theorem Zr {g:aj} {p:List Int} (wt:Int->Int) (hr:∀R∈g.rules,wt (-1-R.left)=(R.right.map wt).sum) (hp:∀x∈p,0<=x) {l:List Int} {i j:Nat} (h:Sp g p l i j):(((p.drop i).take (j-i)).map wt).sum=(l.map wt).sum:=by
 induction h with
 | nil i=>simp
 | term s l i j m n o q =>
  obtain⟨x,a,b⟩:=n
  have r:=hp x (aa1 a)
  have c:=(aaX.1 a).1
  have hle:=o.le
  have e:p.drop i=x::p.drop (i+1):=by
   rw[abA c,(aaX.1 a).2]
  rw[e,show j-i=(j-(i+1))+1 by omega,acW,abl,abl,List.sum_cons,List.sum_cons,q]
  rcases b with rfl | rfl
  .rfl
  .omega
 | eJ s l R i k j m t u h1 v d f =>
  have w:=h1.le
  have y:=v.le
  have e:(p.drop i).take (j-i)=(p.drop i).take (k-i)++(p.drop k).take (j-k):=by
   rw[show j-i=(k-i)+(j-k) by omega,List.take_add,List.drop_drop,show i+(k-i)=k by omega]
  rw[e,abh,List.sum_append,d,f,abl,List.sum_cons,<-hr R t,u]
  congr 2
  omega
def UN (s:Int):Int:=if s=0 then 1 else if s=1 then -1 else 0
theorem WH {p:List Int} (hp:∀x∈p,0<=x) (h:(p.map UN).sum≠0):mN dr p=false:=by
 rw[Bool.eq_false_iff,Ne,Eo Wn]
 intro b
 have:=Zr UN (λR a=>by
  simp[dr] at a
  rcases a with rfl | rfl<;>rfl) hp b
 rw[abP,Nat.sub_zero,aca] at this
 exact h this
theorem Z3:mN kz [0,0]=true:=by
 refine(Eo (show bt kz=true by kernel_rfl) _).2 ?_
 have e:∀i j,Sp kz [0,0] [-1] (i+1) j->[(0:Int),0][i]?=some 0->Sp kz [0,0] [-1] i j:=λi j h hi =>
  .eJ (-1) [] ⟨0,[0,-1],0⟩ i j j (by decide) (by simp[kz]) (by decide) (.term 0 [-1] i j (by decide) ⟨0,hi,.inl rfl⟩ h) (.nil _)
 exact e 0 2 (e 1 2 (.eJ (-1) [] ⟨0,[],-1⟩ 2 2 2 (by decide) (by simp[kz]) (by decide) (.nil _) (.nil _)) rfl) rfl
theorem YJ:ni dr [0,1] 1 0 5=(([0,0],true),0):=by
 unfold ni
 rw[aaT ⟨by kernel_rfl,by decide,by decide,by decide⟩]
 have h:iC dr (dH [0,1] 1 1 [0]) 5=true:=(Cr Wn (by decide) (by decide)).2 ⟨by decide,WH (by decide) (by decide)⟩
 rw[show (1:Int).toNat=1 from rfl,fF,aaT ⟨by decide,by decide,h⟩]
 rfl
theorem XB:ni dr [0] 2 0 5=(([],false),1):=by
 unfold ni
 rw[aaR (by rintro⟨_,⟨_,h⟩,_⟩;exact absurd h (by decide))]
theorem Zl:ni kz [0] 0 0 5=(([],false),0):=by
 unfold ni
 rw[aaT ⟨by kernel_rfl,by decide,by decide,by decide⟩]
 have h:iC kz (dH [0] 0 0 [0]) 5=false:=by
  rw[Bool.eq_false_iff,Ne,Cr (show bt kz=true by kernel_rfl) (by decide) (by decide)]
  rintro⟨_,h⟩
  have:mN kz [0,0]=false:=h
  rw[Z3] at this
  simp at this
 rw[show (0:Int).toNat=0 from rfl,fF,aaR (by rintro⟨_,h,_⟩;exact h rfl),aaR (by rw[h];simp)]
theorem Gl {p:List Int} (h1:∀x∈p,0<=x/\x<2) (b:p.length<=9) (h:(p.map UN).sum≠0):iC dr p 9=true:=
 (Cr Wn (λx a=>⟨(h1 x a).1,(h1 x a).2⟩) (by decide)).2 ⟨by omega,WH (λx a=>(h1 x a).1) h⟩
theorem Cj (i:Int):lX dr ⟨i,0,[]⟩ 9=[[0],[1]]/\lX dr ⟨i,1,[0,1]⟩ 9=[[0,0],[0,1,1],[0]]/\lX dr ⟨i,2,[0,1]⟩ 9=[[0,1,0],[0,1,1]]:=by
 have a:iC dr [0] 9=true:=Gl (by decide) (by decide) (by decide)
 have b:iC dr [1] 9=true:=Gl (by decide) (by decide) (by decide)
 have c:iC dr [0,0] 9=true:=Gl (by decide) (by decide) (by decide)
 have d:iC dr [0,1,1] 9=true:=Gl (by decide) (by decide) (by decide)
 have e:iC dr [0,1,0] 9=true:=Gl (by decide) (by decide) (by decide)
 unfold lX tW
 rw[show dr.ax.length=2 from rfl,show List.range 2=[0,1] from rfl]
 simp[fF,dH,a,b,c,d,e]
def Fg:List (Int × List Int):=[(0,[0]),(0,[1]),(1,[0,0]),(1,[0,1,1]),(1,[0]),(2,[0]),(2,[1]),(3,[0,0]),(3,[0,1,1]),(3,[0]),(4,[0,1,0]),(4,[0,1,1])]
theorem Rt:gF dr 9=(Fg,0):=by
 have h:E9.flatMap (fS dr 9)=Fg:=by
  simp[E9,fS,(Cj 0).1,(Cj 1).2.1,(Cj 2).1,(Cj 3).2.1,(Cj 4).2.2,Fg]
 unfold gF
 rw[aaT ⟨by kernel_rfl,by decide,by decide⟩,Xe,h]
 rfl
theorem Y6:gF vh 9=([],1):=by
 unfold gF
 rw[aaR (by rw[show isRed vh=false by kernel_rfl];simp)]
def tH:SF:=⟨ai [ag [cm 2 0,bh 4 false],ai [ag [af 7 1,aN 8 7,aw 9 4 2,au 10 9,aS 11 .gtr 8 10],aX 11 (ai [ag [bh 4 false],.ret])],ag [aw 13 0 2,aU 14 4 13,af 15 1,aV 16 19 [14,15],af 12 16,c7 17 0 12,c7 18 1 12,af 5 17,af 6 18],.region false [⟨none,[af 19 6,aH 20 .eql 19 0,af 21 20]⟩,⟨(some (21,true)),[af 22 5,cR 23 22]⟩,⟨none,[dO 24 21 23,af 4 24]⟩],.ret],
 [.tmp 4],25⟩
theorem yH:aJ aa 141 [2]=some tH:=by kernel_rfl
def Bf:SF:=⟨ai [ag [bh 2 false],.region false [⟨none,[af 3 0,aH 4 .geq 3 0,af 5 4]⟩,⟨(some (5,true)),[af 6 0,aH 7 .leq 6 60]⟩,⟨none,[dO 8 5 7,af 2 8]⟩],.ret],
 [.tmp 2],9⟩
theorem EZ:aJ aa 79 []=some Bf:=by kernel_rfl
def kp (g:aj) (m:Int):List V:=[.aZ (g.ax.map dg),encS g.av,.aZ (g.rules.map aQ),gi g.start,gi m]
theorem mg (g:aj) (m:Int):Tree (.agg (kp g m)):=.agg _ λi hi=>by
 have h:=cx g
 match i,hi with
 | 0,_=>exact h _ (by simp[ak,kp])
 | 1,_=>exact h _ (by simp[ak,kp])
 | 2,_=>exact h _ (by simp[ak,kp])
 | 3,_=>exact .val _
 | 4,_=>exact .val _
theorem Od (g:aj) (b:g.Ok) (c:g.Small) (w:List Int) (hw:aI w) (d:∀x∈w,bm x) (m:Int) (e:(w.length:Int)<=m->(kQ g w).2=0):aC aa 141 [.agg (kp g m),encI w] (gb (iC g w m)):=by
 refine aC.val (by
  intro v a;simp at a
  rcases a with rfl | rfl
  .exact mg g m
  .exact bC _) λH=>?_
 have h1:=XU g b c w hw d
 unfold iC
 generalize kQ g w=x at *
 refine ay.of mixed yH ?_
 unfold aI at hw
 simp only[ak,encS,encI] at h1
 simp(disch:=omega)only[↓wr,seval,wq,tH,encI,kp,encS]
 apply ao.dec<;>intro f
 .rw[decide_eq_false (show ¬ ((w.length:Int)<=m) by omega)]
  simp(disch:=omega)only[↓wr,seval,wq]
  rfl
 .rw[abt (show ((w.length:Int)<=m) by omega)]
  simp(disch:=omega)only[↓wr,seval,wq,encS]
  refine az.pure h1 ?_
  have i:=e (by omega)
  simp(disch:=omega)only[↓wr,seval,wq,zT]
  refine ao.eq (λ_=>?_) (λh=>absurd i h)
  simp(disch:=omega)only[↓wr,seval,wq]
  rw[aby]
theorem OZ (m:Int):aC aa 79 [gi m] (gb (decide (0<=m)&&decide (m<=60))):=by
 refine aC.val (by intro v a;simp at a;subst a;exact .val _) λH=>?_
 refine ay.of mixed EZ ?_
 simp(disch:=omega)only[↓wr,seval,wq,Bf]
 apply ao.dec<;>intro b
 .rw[abt (show 0<=m by omega)]
  simp(disch:=omega)only[↓wr,seval,wq]
  rw[aby]
 .rw[decide_eq_false (show ¬ 0<=m by omega)]
  simp(disch:=omega)only[↓wr,seval,wq]
  rfl
def kr:SC:=
 ai [ai [ag [af 7 2,af 8 3,aS 9 .lss 7 8],bP 9 (.exit 0)],.block 1 (ag [af 14 0,af 15 2,af 16 0,af 17 3,af 18 0,af 19 3,aL 20 1 18 19,au 21 20,af 22 0,af 23 2,aL 24 1 22 23,au 25 24,aL 26 1 14 15,cz 1 26 21,aL 27 1 16 17,cz 1 27 25]),ag [af 10 2,aH 11 .add 10 1,af 12 3,aH 13 .sub 12 1,af 2 11,af 3 13]]
def kW:SF:=⟨ai [ag [af 4 0,aN 5 4,aH 6 .sub 5 1,aT 2 0,af 3 6],bQ 0 kr],
 [],28⟩
theorem qF:aJ aa 285 []=some kW:=by kernel_rfl
def ml:SF:=⟨ai [ag [af 4 0,af 5 1,((some 6),.op (.slice 1 (.tmp 4) none (some (.tmp 5)))),aV 7 285 [6]],ag [af 8 0,af 9 1,((some 10),.op (.slice 1 (.tmp 8) (some (.tmp 9)) none)),aV 11 285 [10]],ag [af 12 0,aV 13 285 [12]]],
 [],14⟩
theorem sZ:aJ aa 253 []=some ml:=by kernel_rfl
def lT:SF:=⟨ag [af 4 0,af 5 0,aN 6 5,af 7 1,aS 8 .sub 6 7,aV 9 253 [4,8]],
 [],10⟩
theorem rY:aJ aa 202 []=some lT:=by kernel_rfl
def zK (l cur:List Int) (off len i:Nat):Prop:=cur.length=l.length/\∀k,k<l.length->cur.getD k 0=if off<=k/\k<off+len/\(k<off+i∨off+len<=k+i) then l.getD (off+(off+len-1)-k) 0 else l.getD k 0
def Md (l cur:List Int) (off len:Nat):Prop:=cur.length=l.length/\∀k,k<l.length->cur.getD k 0=if off<=k/\k<off+len then l.getD (off+(off+len-1)-k) 0 else l.getD k 0
theorem zK.zero (l:List Int) (off len:Nat):zK l l off len 0:=⟨rfl,λk hk=>by rw[aaR (by omega)]⟩
theorem zK.done {l cur:List Int} {off len i:Nat} (h:zK l cur off len i) (hi:len<=2*i+1):Md l cur off len:=⟨h.1,λk hk=>by
 rw[h.2 k hk]
 by_cases a:off<=k/\k<off+len
 .rw[aaT a]
  by_cases b:k<off+i∨off+len<=k+i
  .rw[aaT ⟨a.1,a.2,b⟩]
  .rw[aaR (λh=>b h.2.2),show off+(off+len-1)-k=k by omega]
 .rw[aaR a,aaR (λh=>a ⟨h.1,h.2.1⟩)]⟩
theorem Is (l:List Int) (i j:Nat) (x:Int) (hi:i<l.length):(l.set i x).getD j 0=if i=j then x else l.getD j 0:=by
 simp only[aaP]
 by_cases e:i=j
 .subst e;rw[aaT rfl,acL hi];rfl
 .rw[aaR e,List.getElem?_set_ne e]
theorem zK.next {l cur:List Int} {off len i:Nat} (h:zK l cur off len i) (g:off+len<=l.length) (hi:2*i+1<len):
  zK l ((cur.set (off+i) (cur.getD (off+(len-1-i)) 0)).set (off+(len-1-i)) (cur.getD (off+i) 0)) off len (i+1):=by
 obtain⟨h1,a⟩:=h
 refine⟨by simp[h1],λk hk=>?_⟩
 have b:=a (off+i) (by omega)
 have c:=a (off+(len-1-i)) (by omega)
 rw[aaR (by omega)] at b c
 rw[Is _ _ _ _ (by rw[acy];omega),Is _ _ _ _ (by omega),b,c]
 by_cases d:off+(len-1-i)=k
 .rw[aaT d,aaT (by omega),show off+(off+len-1)-k=off+i by omega]
 .rw[aaR d]
  by_cases e:off+i=k
  .rw[aaT e,aaT (by omega),show off+(off+len-1)-k=off+(len-1-i) by omega]
  .rw[aaR e,a k hk]
   by_cases f:off<=k/\k<off+len/\(k<off+i∨off+len<=k+i)
   .rw[aaT f,aaT (by omega)]
   .rw[aaR f,aaR (by omega)]
theorem Al {l:List Int} {i:Nat} (h:i<l.length):(aM l).getD i []=[gi (l.getD i 0)]:=by
 simp[aaP,aaQ h]
theorem zV {H:View} {id:Nat} {l:List Int} {off len:Nat} (g:H id=.arr 1 (aM l)) (h:off+len<=l.length) (j:aI l):ay aa 285 [.sl id off len 1] H λ_ H'=>∃cur,H' id=.arr 1 (aM cur)/\Md l cur off len/\∀k,k≠id->H' k=H k:=by
 unfold aI at j
 refine ay.of mixed qF ?_
 simp(disch:=omega)only[↓wr,seval,wq,kW]
 refine aW.up len (λi T H'=>(∃cur,H' id=.arr 1 (aM cur)/\zK l cur off len i)/\(∀k,k≠id->H' k=H k)/\T 0=.sl id off len 1/\T 2=gi i/\T 3=.val (.int .i64 ((len:Int)-1-i))) ⟨⟨l,g,zK.zero _ _ _⟩,λ_ _=>rfl,rfl,rfl,by show V.val _=_;congr 2;omega⟩ ?_
 rintro i k T H1 hk ⟨⟨cur,e,c⟩,b,t0,t2,t3⟩
 simp(disch:=omega)only[↓wr,seval,wq,kr,t0,t2,t3]
 apply ao.dec<;>intro m
 .have n:((len:Int)-1-i).toNat=len-1-i:=by omega
  have o:=c.1
  have p:(aM cur).getD (off+i) []=[gi (cur.getD (off+i) 0)]:=by
   simp[aaP,aaQ (show off+i<cur.length by omega)]
  have d:(aM cur).getD (off+(len-1-i)) []=[gi (cur.getD (off+(len-1-i)) 0)]:=by
   simp[aaP,aaQ (show off+(len-1-i)<cur.length by omega)]
  simp(disch:=omega)only[↓wr,seval,wq,t0,t2,t3,e,n,p,d]
  refine⟨by omega,by omega,by omega,by omega,by omega,by omega,by omega,by rw[acy,aaU];omega,aE hk (by omega) ⟨⟨_,?_,c.next h (by omega)⟩,λk hk=>?_,t0,rfl,?_⟩⟩
  .simp only[View.set,if_true]
   congr 1
   have f:∀(L:List Int) (a:Nat) (x:Int),(aM L).set a [gi x]=aM (L.set a x):=λL a x=>acB.symm
   rw[f,Al (by rw[acy];omega)]
   exact f _ _ _
  .simp only[View.set,aaR hk]
   exact b k hk
  .show V.val _=V.val _
   congr 2
   omega
 .simp(disch:=omega)only[↓wr,seval,wq]
  exact⟨cur,e,c.done (by omega),b⟩
def G6 (l cur:List Int) (off len r:Nat):Prop:=cur.length=l.length/\∀k,k<l.length->cur.getD k 0=if off<=k/\k<off+len then (if k+r<off+len then l.getD (k+r) 0 else l.getD (k+r-len) 0) else l.getD k 0
theorem G6.of {l a b c:List Int} {off len r:Nat} (hr:r<=len) (j:off+len<=l.length) (h1:Md l a off r) (g:Md a b (off+r) (len-r)) (i:Md b c off len):G6 l c off len r:=by
 obtain⟨m,a2⟩:=h1
 obtain⟨n,f⟩:=g
 obtain⟨c1,c2⟩:=i
 refine⟨by omega,λk hk=>?_⟩
 rw[c2 k (by omega)]
 by_cases d:off<=k/\k<off+len
 .rw[aaT d,aaT d]
  have e:off+(off+len-1)-k<l.length:=by omega
  rw[f _ (by omega)]
  by_cases h:k+r<off+len
  .rw[aaT h,aaT (by omega),a2 _ (by omega),aaR (by omega)]
   congr 1;omega
  .rw[aaR h,aaR (by omega),a2 _ (by omega),aaT (by omega)]
   congr 1;omega
 .rw[aaR d,aaR d,f k (by omega),aaR (by omega),a2 k hk,aaR (by omega)]
theorem Jq {H:View} {id:Nat} {l:List Int} {off len r:Nat} (g:H id=.arr 1 (aM l)) (h:off+len<=l.length) (hr:r<=len) (e:aI l):ay aa 253 [.sl id off len 1,gi r] H λ_ H'=>∃cur,H' id=.arr 1 (aM cur)/\G6 l cur off len r/\∀k,k≠id->H' k=H k:=by
 have d:=e
 unfold aI at d
 refine ay.of mixed sZ ?_
 have s1:=DN (id:=id) (off:=off) (k:=len) (m:=r) hr
 have s2:=Db (id:=id) (off:=off) (k:=len) (m:=r) hr
 simp(disch:=omega)only[↓wr,seval,wq,ml,s1,s2]
 refine az.cG ((zV g (off:=off) (len:=r) (by omega) e).mono ?_)
 rintro u H1 ⟨a,i,h1,j⟩
 simp(disch:=omega)only[↓wr,seval,wq,s1,s2]
 refine az.cG ((zV i (off:=off+r) (len:=len-r) (by rw[h1.1];omega) (by unfold aI;rw[h1.1];omega)).mono ?_)
 rintro v w ⟨b,n,f,k2⟩
 simp(disch:=omega)only[↓wr,seval,wq,s1,s2]
 have o:=f.1
 have p:=h1.1
 refine az.cG ((zV n (off:=off) (len:=len) (by omega) (by unfold aI;omega)).mono ?_)
 rintro x y ⟨c,q,s,t⟩
 simp(disch:=omega)only[↓wr,seval,wq]
 exact⟨c,q,G6.of hr h h1 f s,λk hk=>by rw[t k hk,k2 k hk,j k hk]⟩
theorem Hk {H:View} {id:Nat} {l:List Int} {off len m:Nat} (c:H id=.arr 1 (aM l)) (d:off+len<=l.length) (hr:m<=len) (b:aI l):ay aa 202 [.sl id off len 1,gi m] H λ_ H'=>∃cur,H' id=.arr 1 (aM cur)/\G6 l cur off len (len-m)/\∀k,k≠id->H' k=H k:=by
 have a:=b
 unfold aI at a
 refine ay.of mixed rY ?_
 have h1:=Jq c d (r:=len-m) (by omega) b
 rw[show ((len-m:Nat):Int)=(len:Int)-m by omega] at h1
 simp(disch:=omega)only[↓wr,seval,wq,lT]
 refine az.cG (h1.mono ?_)
 rintro e H1 h
 simp(disch:=omega)only[↓wr,seval,wq]
 exact h
def CM:Prop:=∀(H:View) (u:V) (v:Nat) (l:List Int) (i:Nat) (t:Int),aP H u 1 (aM l)->H v=.arr 1 [[gi t]]->owner u≠some v->i<=l.length->l.length<=1000 ->
 ay aa 142 [u,gi i,.sl v 0 1 1] H λr H'=>aP H' r 1 (aM (dH l i 0 [t]))/\∀id,H id≠.dead->id≠v->owner u≠some id->H' id=H id/\owner r≠some id
def QH:Prop:=∀(H:View) (u:V) (l:List Int) (p:Nat),aP H u 1 (aM l)->p<l.length->l.length<=1000 ->
 ay aa 144 [u,gi p,gi ((p:Int)+1)] H λr H'=>aP H' r 1 (aM (dH l p 1 []))/\Left H H' u r
def rp:SF:=⟨ai [ag [cm 4 0,bT 8 1,bh 9 false],ai [.region false [⟨none,[af 12 2,af 13 1,aN 14 13,aS 15 .lss 12 14,af 16 15]⟩,⟨(some (16,true)),[af 17 1,af 18 2,aL 19 1 17 18,au 20 19,af 21 3,aS 22 .neq 20 21]⟩,⟨none,[dO 23 16 22]⟩],aX 23 (ai [ag [af 24 1,aV 25 140 [24],af 10 25],ag [af 26 10,af 27 2,af 28 3,aL 29 1 26 27,cz 1 29 28],ag [aU 30 5 4,af 31 10,aV 32 141 [30,31]],aX 32 (ai [ag [af 33 10,af 8 33,bh 9 true],.ret])])],ag [af 34 1,aV 35 140 [34],af 36 2,af 37 3,((some 38),.op (.bN 1 1 [(.val (.int .i64 0))] [(0,(.tmp 37))])),aV 39 142 [35,36,38],af 11 39],ai [ag [aU 40 5 4,af 41 11,aV 42 141 [40,41]],aX 42 (ai [ag [af 43 11,af 8 43,bh 9 true],.ret])],ag [bT 8 1,bh 9 false],.ret],
 [.tmp 8,.tmp 9],44⟩
theorem xT:aJ aa 80 [4]=some rp:=by kernel_rfl
def AB:SF:=⟨ai [ag [cm 5 0,bT 10 1,bh 11 false,aT 12 0],ai [.region false [⟨none,[aU 15 4 5,af 16 1,aV 17 52 [15,16],cR 18 17,af 19 18]⟩,⟨(some (19,false)),[af 20 2,aH 21 .lss 20 0]⟩,⟨none,[cE 22 19 21,af 23 22]⟩,⟨(some (23,false)),[af 24 2,af 25 1,aN 26 25,aS 27 .gtr 24 26]⟩,⟨none,[cE 28 23 27,af 29 28]⟩,⟨(some (29,false)),[af 30 3,aH 31 .lss 30 0]⟩,⟨none,[cE 32 29 31,af 33 32]⟩,⟨(some (33,false)),[af 34 3,aw 35 0 5,au 36 35,aN 37 36,aS 38 .geq 34 37]⟩,⟨none,[cE 39 33 38,af 40 39]⟩,⟨(some (40,false)),[af 41 4,aV 42 79 [41],cR 43 42]⟩,⟨none,[cE 44 40 43]⟩],aX 44 (ai [ag [bT 10 1,bh 11 false,aT 12 1],.ret])],ag [aU 46 4 5,af 47 4,((some 48),.op (.build [(.emp 1),(.emp 1),(.emp 1),(.val (.int .i64 0)),(.val (.int .i64 0))] [(0,4,(.tmp 46)),(4,1,(.tmp 47))])),af 49 1,af 50 2,af 51 3,aV 52 80 [48,49,50,51],af 45 52,c7 53 0 45,c7 54 1 45,af 13 53,af 14 54],ag [af 55 13,af 56 14,af 10 55,af 11 56,aT 12 0],.ret],
 [.tmp 10,.tmp 11,.tmp 12],57⟩
theorem Eu:aJ aa 38 [5]=some AB:=by kernel_rfl
theorem Ow {w:List Int} {p:Nat} {t:Int} (h:p<w.length):dH w p 1 [t]=w.set p t:=by
 unfold dH
 rw[List.set_eq_take_append_cons_drop,aaT h]
 rfl
theorem KF (D:CM) (g:aj) (E:g.Ok) (F:g.Small) (m:Int) (w:List Int) (hw:w.length<=100) (G:∀x∈w,bm x) (p:Nat) (hp:p<=w.length) (t:Int) (I:bm t)
  (J:∀x:List Int,(∀y∈x,y∈w∨y=t)->(x.length:Int)<=m->(kQ g x).2=0) (H:View):
  ay aa 80 [.agg (kp g m),encI w,gi p,gi t] H λr H'=>∃u,r=.bb [u,gb (fF g w p t m).2]/\aP H' u 1 (aM (fF g w p t m).1):=by
 have b:=λn=>Od g E F (dH w p n [t]) (Ur (by omega)) (Sr G I) m (J _ λy K=>(yJ K).imp id λh=>by simpa using h)
 have i:p<w.length->w[p]?=some (w.getD p 0):=λh=>getD_some h
 have j:=λH=>Ce w (by omega) (encI w) H (.inl rfl)
 unfold fF
 refine ay.of mixed xT ?_
 simp only[kp,encS] at b
 simp(disch:=omega)only[↓wr,seval,wq,rp,encI,kp,encS]
 apply ao.dec<;>intro L
 rotate_left
 have c:¬ (p<w.length/\w.getD p 0≠t/\iC g (dH w p 1 [t]) m=true):=λh=>by omega
 rotate_left
 have a:p<w.length:=by omega
 replace i:=i a
 generalize w.getD p 0=x at i
 simp(disch:=omega)only[↓wr,seval,wq,encI,aaS,i,aa2]
 apply ao.ne<;>intro d
 rotate_left
 have c:¬ (p<w.length/\x≠t/\iC g (dH w p 1 [t]) m=true):=λh=>h.2.1 d
 rotate_left 2
 simp(disch:=omega)only[↓wr,seval,wq,encI]
 refine az.cG ((j _).mono ?_)
 rintro Q M ⟨o0,-⟩
 obtain⟨q,rfl,N⟩:=o0.sl (by simp;omega)
 have l:(aM w).getD p []=[gi x]:=by simp[aaP,i]
 simp(disch:=omega)only[↓wr,seval,wq,N,l]
 have O:(aM w).set p [gi t]=aM (dH w p 1 [t]):=by rw[Ow a];exact acB.symm
 have B:aP (M.set q (.arr 1 (aM (dH w p 1 [t])))) (.sl q 0 w.length 1) 1 (aM (dH w p 1 [t])):=.inr ⟨q,by rw[aaU,Ow a,acy],by simp[View.set]⟩
 refine⟨a,a,?_⟩
 rw[show [V.val (Value.int IntKind.i64 t)]=[gi t] from rfl,O]
 refine az.xE (b 1) (by kernel_rfl) (.val _) ⟨.tree (mg g m),.EF B,trivial⟩ ?_
 simp(disch:=omega)only[↓wr,seval,wq]
 apply ao.split<;>intro e
 .simp(disch:=omega)only[↓wr,seval,wq]
  rw[aaT ⟨a,d,e⟩]
  exact⟨_,rfl,B⟩
 have c:¬ (p<w.length/\x≠t/\iC g (dH w p 1 [t]) m=true):=λh=>by rw[e] at h;simp at h
 all_goals (
  simp(disch:=omega)only[↓wr,seval,wq,encI]
  refine az.cG ((j _).mono ?_)
  rintro u H1 ⟨k,-⟩
  have s:=k.ey
  simp(disch:=omega)only[↓wr,seval,wq,s]
  intro v C
  have P:=k.ne C
  have k:=k.fresh (o:=.arr 1 [[gi t]]) C
  refine az.cG ((D _ u v w p t k (by simp[View.set]) P hp (by omega)).mono ?_)
  rintro r R ⟨z,-⟩
  have f:=z.ey
  simp(disch:=omega)only[↓wr,seval,wq,f,encS]
  refine az.xE (b 0) (by kernel_rfl) (.val _) ⟨.tree (mg g m),.EF z,trivial⟩ ?_
  simp(disch:=omega)only[↓wr,seval,wq,f]
  apply ao.split<;>intro A
  .simp(disch:=omega)only[↓wr,seval,wq,f]
   rw[aaR c,aaT A]
   exact⟨_,rfl,z⟩
  .simp(disch:=omega)only[↓wr,seval,wq]
   rw[aaR c,aaR (by rw[A];simp)]
   exact⟨_,rfl,.nil⟩)
theorem US (b:CM) (g:aj) (c:g.Ok) (d:g.Small) (m:Int) (w:List Int) (hw:w.length<=100) (f:∀x∈w,bm x) (p:Nat) (hp:p<=w.length) (t:Int) (h:bm t)
  (i:∀x:List Int,(∀y∈x,y∈w∨y=t)->(x.length:Int)<=m->(kQ g x).2=0):
  aC aa 80 [.agg (kp g m),encI w,gi p,gi t] (Yv (fF g w p t m)):=
 aC.of (by
  intro v a;simp at a
  rcases a with rfl | rfl | rfl | rfl
  .exact mg g m
  .exact bC _
  .exact .val _
  .exact .val _) ((KF b g c d m w hw f p hp t h i _).mono λr H' ⟨u,e,o⟩ j k=>e▸XY (ct.EF o j k))
theorem Ky {h:Heap} {u v:V} {b:Bool} {e:Int} (hu:dD h u v):dD h (.bb [u,gb b,gi e]) (.bb [v,gb b,gi e]):=.bb _ _ rfl λi hi=>by
 match i,hi with
 | 0,_=>exact hu
 | 1,_=>exact .val _
 | 2,_=>exact .val _
theorem Vd (l:CM) (g:aj) (c:g.Ok) (i:g.Small) (w:List Int) (hw:aI w) (j:∀x∈w,bm x) (p t m:Int) (n:bm t):
  cg aa 38 [.agg (ak g),encI w,gi p,gi t,gi m] (EE (ni g w p t m)):=by
 refine cg.of (by
  intro v k;simp at k
  rcases k with rfl | rfl | rfl | rfl | rfl
  .exact dS g _ (by simp)
  .exact bC _
  .exact .val _
  .exact .val _
  .exact .val _) ?_
 have h1:=La g c i w hw j
 have q:=OZ m
 have bad:¬ (je g w=true/\(0<=p/\p<=w.length)/\(0<=t/\t<g.ax.length)/\(0<=m/\m<=60))->∀h:Heap,dD h (.bb [.emp 1,gb false,gi 1]) (EE (ni g w p t m)):=λs h=>by
  unfold ni
  rw[aaR s]
  exact Ky (.emp 1)
 have G:=c.ax
 refine ay.of mixed Eu ?_
 simp only[ak,encS,encI] at h1
 unfold aI at hw
 simp(disch:=omega)only[↓wr,seval,wq,AB,encI,ak,encS]
 refine az.pure h1 ?_
 simp(disch:=omega)only[↓wr,seval,wq,encI,ak,encS]
 apply ao.split<;>intro b
 rotate_left
 .simp(disch:=omega)only[↓wr,seval,wq]
  exact λa _=>bad (λh=>by rw[b] at h;simp at h) a
 simp(disch:=omega)only[↓wr,seval,wq,encI,ak,encS]
 apply ao.dec<;>intro c1
 .simp(disch:=omega)only[↓wr,seval,wq]
  exact λa _=>bad (λh=>by omega) a
 simp(disch:=omega)only[↓wr,seval,wq,encI,ak,encS]
 apply ao.dec<;>intro c2
 .simp(disch:=omega)only[↓wr,seval,wq]
  exact λa _=>bad (λh=>by omega) a
 simp(disch:=omega)only[↓wr,seval,wq,encI,ak,encS]
 apply ao.dec<;>intro z
 .simp(disch:=omega)only[↓wr,seval,wq]
  exact λa _=>bad (λh=>by omega) a
 simp(disch:=omega)only[↓wr,seval,wq,encI,ak,encS]
 apply ao.dec<;>intro A
 .simp(disch:=omega)only[↓wr,seval,wq]
  exact λa _=>bad (λh=>by omega) a
 simp(disch:=omega)only[↓wr,seval,wq,encI,ak,encS]
 refine az.pure q ?_
 simp(disch:=omega)only[↓wr,seval,wq,encI,ak,encS]
 apply ao.split<;>intro hm
 rotate_left
 .simp(disch:=omega)only[↓wr,seval,wq]
  exact λa _=>bad (λh=>by
   rw[abt h.2.2.2.1,abt h.2.2.2.2] at hm
   simp at hm) a
 rw[aaZ,aa5,aa5] at hm
 obtain⟨hr,B,d⟩:=BF.1 b
 have e:=KF l g c i m w (by omega) j p.toNat (by omega) t n (λx C D=>by
  rw[C1 hr (λy E=>?_) hm.2 D]
  rcases C y E with h | rfl
  .exact d y h
  .omega) (λ_=>.dead)
 rw[show ((p.toNat:Nat):Int)=p by omega] at e
 unfold ni
 rw[aaT ⟨b,by omega,by omega,hm⟩]
 generalize fF g w p.toNat t m=x at *
 simp only[kp,encS,encI] at e
 simp(disch:=omega)only[↓wr,seval,wq,encI,ak,encS]
 refine az.cG (e.mono ?_)
 rintro r H1 ⟨u,rfl,o⟩
 have ok:=o.ey
 simp(disch:=omega)only[↓wr,seval,wq,ok]
 exact λa F=>Ky (dD.Lh (sz:=1) (f:=λx:Int=>.int .i64 x) (F▸o))
def o8 (H H':View):Prop:=∀id,H id≠.dead->H' id=H id
theorem o8.refl (H:View):o8 H H:=λ_ _=>rfl
theorem o8.set {H H':View} {n:Nat} {o:cr} (h:o8 H H') (b:H n=.dead):o8 H (H'.set n o):=λid a=>by
 have:id≠n:=by rintro rfl;exact a b
 simp[View.set,this,h id a]
def mf:SC:=
 ai [ag [aS 21 .lss 20 19],bP 21 (.exit 0),.block 1 (ai [ag [af 22 20,af 7 22],ag [aU 24 5 2,af 25 5,af 26 6,af 27 7,aV 28 80 [24,25,26,27],af 23 28,c7 29 0 23,c7 30 1 23,af 8 29,af 9 30],ag [af 31 9],aX 31 (ag [af 32 4,af 33 8,((some 34),.op (.bN 1 1 [(.emp 1)] [(0,(.tmp 33))])),fL 35 1 24 32 34,af 4 35])]),ag [aH 36 .add 20 1,af 20 36]]
def oB:SF:=⟨ai [ag [cm 2 0,cm 3 1,bT 4 1],ag [aw 12 2 3,au 13 12,aw 14 1 3,au 15 14,af 5 13,af 6 15],ai [ag [aw 16 0 2,aw 17 0 16,au 18 17,aN 19 18,aT 20 0],bQ 0 mf],ai [ag [af 37 6,af 38 5,aN 39 38,aS 40 .lss 37 39],aX 40 (ai [ag [af 41 5,aV 42 140 [41],af 43 6,af 44 6,aH 45 .add 44 1,aV 46 144 [42,43,45],af 10 46],ag [aU 47 5 2,af 48 10,aV 49 141 [47,48]],aX 49 (ag [af 50 4,af 51 10,((some 52),.op (.bN 1 1 [(.emp 1)] [(0,(.tmp 51))])),fL 53 1 24 50 52,af 4 53])])],ai [ag [af 54 5,af 55 6,((some 56),.op (.slice 1 (.tmp 54) none (some (.tmp 55)))),aV 57 140 [56],af 11 57],.region false [⟨none,[af 58 6,aH 59 .add 58 1,af 60 5,aN 61 60,aS 62 .lss 59 61,af 63 62]⟩,⟨(some (63,true)),[aU 64 5 2,af 65 11,aV 66 141 [64,65]]⟩,⟨none,[dO 67 63 66]⟩],aX 67 (ag [af 68 4,af 69 11,((some 70),.op (.bN 1 1 [(.emp 1)] [(0,(.tmp 69))])),fL 71 1 24 68 70,af 4 71])],ag [af 72 4,af 4 72],.ret],
 [.tmp 4],73⟩
theorem uC:aJ aa 83 [2,3]=some oB:=by kernel_rfl
def xP (H:View) (v:V) (l:List Int):Prop:=v=encI l∨aP H v 1 (aM l)
def jG (H:View) (u:V) (out:List (List Int)):Prop:=∃S:List (V × List Int),S.map (·.2)=out/\aP H u 1 (S.map λx=>[x.1])/\∀x∈S,xP H x.1 x.2/\∀id,owner x.1=some id->owner u≠some id
theorem xP.keep {H H':View} {v:V} {l:List Int} (h:xP H v l) (hk:∀id,H id≠.dead->owner v=some id->H' id=H id):xP H' v l:=by
 rcases h with h | h
 .exact .inl h
 .exact .inr (h.keep λid a=>hk id (by rw[(h.live a).1];simp) a)
theorem xP.live {H:View} {v:V} {l:List Int} (h:xP H v l) {id:Nat} (a:owner v=some id):H id≠.dead:=by
 rcases h with rfl | h
 .simp[owner,encI] at a
 .rw[(h.live a).1];simp
theorem xP.ok {H:View} {v:V} {l:List Int} (h:xP H v l):aK v=true:=by
 rcases h with rfl | h
 .rfl
 .exact h.ey
theorem jG.nil {H:View} : jG H (.emp 1) []:=⟨[],rfl,.nil,by simp⟩
theorem jG.stay {H H':View} {u:V} {out:List (List Int)} (h:jG H u out) (b:o8 H H'):jG H' u out:=by
 obtain⟨S,h1,c,d⟩:=h
 exact⟨S,h1,c.keep λid a=>b id (by rw[(c.live a).1];simp),λx e=>⟨(d x e).1.keep λid f _=>b id f,(d x e).2⟩⟩
theorem jG.app {H:View} {u v:V} {out:List (List Int)} {w:List Int} {K:V->View->Prop} {z:dd (H,K)} (h:jG H u out) (e:xP H v w) (d:∀id,owner v=some id->owner u≠some id) (k:out.length<=100000)
  (hk:∀u' H',jG H' u' (out++[w])->K u' H'):nq 1 24 u [[v]] H K z:=by
 obtain⟨S,h1,g,i⟩:=h
 have l:S.length=out.length:=by rw[<-h1];simp
 refine jU g (by simp) (by simp[e.ok]) (by unfold aF;simp;omega) (by unfold aF;simp;omega) λu' H' j f=>hk u' H' ⟨S++[(v,w)],by simp[h1],by simpa using j,λx c=>?_⟩
 have a:xP H x.1 x.2/\∀id,owner x.1=some id->owner u≠some id:=by
  rcases aa7.1 c with c | c
  .exact i x c
  .simp at c;subst c;exact⟨e,d⟩
 exact⟨a.1.keep λid d b=>(f id d (a.2 id b)).1,λid b=>(f id (a.1.live b) (a.2 id b)).2⟩
theorem jG.fr {h:Heap} {u:V} {out:List (List Int)} (c:jG h.view u out):Fr h u (Ge out):=by
 obtain⟨S,h1,d,f⟩:=c
 subst h1
 rcases d with ⟨e,k,rfl⟩ | ⟨n,rfl,g⟩
 .have:S=[]:=List.map_eq_nil_iff.1 e
  subst this
  exact .emp k
 .refine .sl n 0 _ 1 1 _ _ g (by simp) (by simp) (λi hi=>?_) (λi j hi b=>?_)
  .simp only[aaU] at hi
   simp[aaP,hi]
  .simp only[aaU] at hi
   have a:j=0:=by
    simp[aaP,hi] at b
    exact b
   subst a
   have l:=(f S[i] (aaW _)).1
   simp only[aaP,abE,aaS,aaQ hi,aa2,aa8,abi]
   rcases l with e | e
   .rw[e];exact .tree _ (bC _)
   .exact ct.EF e h rfl
theorem o8.fresh {H H1:View} {u:V} (h:cn H H1 u):o8 H H1:=λid a=>(h id a).1
theorem o8.left {H H1 d:View} {u r:V} (h1:cn H H1 u) (e:Left H1 d u r):o8 H d:=λid c=>by
 obtain⟨a,b⟩:=h1 id c
 exact((e id (by rw[a];exact c) b).1).trans a
theorem jG.off {H H1:View} {u v:V} {out:List (List Int)} (h:jG H u out) (h1:cn H H1 v):∀id,owner v=some id->owner u≠some id:=λid a hu=>by
 obtain⟨S,_,b,_⟩:=h
 exact(h1 id (by rw[(b.live hu).1];simp)).2 a
theorem jG.ZH {H H1 e:View} {u v r:V} {out:List (List Int)} (h:jG H u out) (h1:cn H H1 v) (f:Left H1 e v r):∀id,owner r=some id->owner u≠some id:=λid c hu=>by
 obtain⟨S,_,g,_⟩:=h
 have d:H id≠.dead:=by rw[(g.live hu).1];simp
 obtain⟨a,b⟩:=h1 id d
 exact(f id (by rw[a];exact d) b).2 c
theorem MR (hI:CM) (R:QH) (g:aj) (hg:g.Ok) (hs:g.Small) (hT:g.ax.length<=1000) (m:Int) (b:gX) (b1:b.word.length<=100) (b2:0<=b.len/\b.len<=b.word.length) (b3:∀x∈b.word,bm x) (ab:bm b.state)
  (h0:∀x:List Int,(∀y∈x,y∈b.word∨(0<=y/\y<g.ax.length))->(x.length:Int)<=m->(kQ g x).2=0):
  aC aa 83 [.agg (kp g m),.agg (fE b)] (Ge (lX g b m)):=by
 refine aC.of (by
  intro v E;simp at E
  rcases E with rfl | rfl
  .exact mg g m
  .exact bW _ λv E=>by
    simp[fE] at E
    rcases E with rfl | rfl | rfl
    .exact .val _
    .exact .val _
    .exact bC _) ?_
 obtain⟨p,hp⟩:∃p:Nat,b.len=p:=⟨b.len.toNat,by omega⟩
 have c:=λ(t:Nat) (ht:t<g.ax.length)=>US hI g hg hs m b.word b1 b3 p (by omega) t (by unfold bm;omega) (λx N hl=>h0 x (λy j=>(N y j).imp id λe=>by omega) hl)
 have d:=λ(x:List Int) (N:∀y∈x,y∈b.word) (hl:x.length<=100)=>Od g hg hs x (by unfold aI;omega) (λy j=>b3 y (N y j)) m (h0 x λy j=>.inl (N y j))
 have F:=λt=>A3 g b m t
 have G:=KU g b m
 unfold lX
 rw[show b.len.toNat=p by omega] at *
 have a:cJ (encI b.word)=some b.word.length:=by simp[cJ,encI]
 have S:cZ 1 (encI b.word) none (some (gi p))=some (encI (b.word.take p),.none,[]):=zq (l:=b.word) (k:=p) (by omega)
 refine ay.of mixed uC ?_
 have H:aK (encI b.word)=true:=rfl
 simp(disch:=omega)only[↓wr,seval,wq,oB,kp,encS,fE,H]
 refine aW.up g.ax.length (λt T H'=>∃u,jG H' u (tW g b m t)/\T 2=.aR (kp g m) 0/\T 4=u/\T 5=encI b.word/\T 6=gi p/\T 19=gi g.ax.length/\T 20=gi t) ⟨.emp 1,by simpa [tW] using jG.nil,rfl,rfl,rfl,by show gi b.len=_;rw[hp],rfl,rfl⟩ ?_
 rintro t kt T H1 I ⟨u,o,t2,t4,t5,t6,t19,t20⟩
 simp(disch:=omega)only[↓wr,seval,wq,mf,t2,t4,t5,t6,t19,t20,kp,encS]
 have U:=G t
 apply ao.dec<;>intro hc
 .have h3:=c t (by omega)
  have n:=F t
  generalize fF g b.word p t m=x at *
  simp only[kp,encS] at h3
  simp(disch:=omega)only[↓wr,seval,wq,t2,t4,t5,t6,t19,t20,kp,encS,H]
  refine az.pure h3 ?_
  simp(disch:=omega)only[↓wr,seval,wq,t2,t4,t5,t6,t19,t20,Yv]
  apply ao.split<;>intro z
  .rw[aaT z] at n
   simp(disch:=omega)only[↓wr,seval,wq,t2,t4,t5,t6,t19,t20]
   intro q A
   simp(disch:=omega)only[↓wr,seval,wq,t4,bG]
   refine jG.app (o.stay ((o8.refl _).set A)) (.inl rfl) (λid V=>by simp[owner,encI] at V) (by omega) ?_
   intro u3 H3 O
   simp(disch:=omega)only[↓wr,seval,wq,t2,t4,t5,t6,t19,t20]
   exact aE I (by omega) ⟨u3,by rw[n];exact O,t2,rfl,t5,t6,t19,rfl⟩
  .rw[aaR (by rw[z];simp),abW] at n
   simp(disch:=omega)only[↓wr,seval,wq,t2,t4,t5,t6,t19,t20]
   exact aE I (by omega) ⟨u,by rw[n];exact o,t2,t4,t5,t6,t19,rfl⟩
 obtain rfl:t=g.ax.length:=by omega
 have f:=d (dH b.word p 1 []) (λy j=>(yJ j).elim id (λh=>by simp at h)) (by unfold dH;simp;omega)
 have i:=d (b.word.take p) (λy j=>acs j) (by simp;omega)
 clear d c F G
 generalize tW g b m g.ax.length=D at o U ⊢
 simp only[kp,encS] at f i
 simp(disch:=omega)only[↓wr,seval,wq,t2,t4,t5,t6,t19,t20,a]
 apply ao.dec<;>intro d1
 rotate_left
 have P:=o
 have J:D++(if b.len<b.word.length/\iC g (dH b.word p 1 []) m=true then [dH b.word p 1 []] else [])=D:=by rw[aaR (λh=>by omega),abW]
 rotate_left
 simp(disch:=omega)only[↓wr,seval,wq,t2,t4,t5,t6,a]
 refine az.cG ((Ce b.word (by omega) (encI b.word) _ (.inl rfl)).mono ?_)
 rintro v H2 ⟨ov,fv⟩
 have W:=ov.ey
 simp(disch:=omega)only[↓wr,seval,wq,t2,t4,t5,t6,a,W]
 refine az.cG ((R _ v b.word p ov (by omega) (by omega)).mono ?_)
 rintro r H3 ⟨or,lr⟩
 have B:=or.ey
 have C:=or.cells
 have K:=o.ZH fv lr
 have O:=o.stay (o8.left fv lr)
 simp(disch:=omega)only[↓wr,seval,wq,t2,t4,t5,t6,a,B,C,kp,encS]
 refine az.xE f (by kernel_rfl) (.val _) ⟨.tree (mg g m),.EF or,trivial⟩ ?_
 simp(disch:=omega)only[↓wr,seval,wq,t2,t4,t5,t6,a,B,C]
 apply ao.split<;>intro X
 rotate_left
 have P:=O
 have J:D++(if b.len<b.word.length/\iC g (dH b.word p 1 []) m=true then [dH b.word p 1 []] else [])=D:=by rw[aaR (λh=>by rw[X] at h;simp at h),abW]
 rotate_left 2
 simp(disch:=omega)only[↓wr,seval,wq,t2,t4,t5,t6,a,B,C]
 intro q A
 simp(disch:=omega)only[↓wr,seval,wq,t4,bG]
 refine jG.app (O.stay ((o8.refl _).set A)) (.inr (or.fresh A)) K (by omega) ?_
 intro u4 H4 P
 have J:D++(if b.len<b.word.length/\iC g (dH b.word p 1 []) m=true then [dH b.word p 1 []] else [])=D++[dH b.word p 1 []]:=by rw[aaT (⟨by omega,X⟩:b.len<b.word.length/\_)]
 all_goals (
  simp(disch:=omega)only[↓wr,seval,wq,t2,t4,t5,t6,a,S]
  refine az.cG ((Ce (b.word.take p) (by simp;omega) (encI (b.word.take p)) _ (.inl rfl)).mono ?_)
  rintro y H5 ⟨Q,fy⟩
  have s:=Q.ey
  have w:=Q.cells
  have L:=P.off fy
  have Y:=P.stay (o8.fresh fy)
  simp(disch:=omega)only[↓wr,seval,wq,t2,t4,t5,t6,a,s,w]
  apply ao.dec<;>intro d2
  .simp(disch:=omega)only[↓wr,seval,wq,t2,t4,t5,t6,a,s,w,kp,encS]
   refine az.xE i (by kernel_rfl) (.val _) ⟨.tree (mg g m),.EF Q,trivial⟩ ?_
   simp(disch:=omega)only[↓wr,seval,wq,t2,t4,t5,t6,a,s,w]
   apply ao.split<;>intro Z
   .simp(disch:=omega)only[↓wr,seval,wq,t2,t4,t5,t6,a,s,w]
    intro q A
    simp(disch:=omega)only[↓wr,seval,wq,t4,bG]
    refine jG.app (Y.stay ((o8.refl _).set A)) (.inr (Q.fresh A)) L (by first | omega | (simp;omega)) ?_
    intro u6 H6 o6
    simp(disch:=omega)only[↓wr,seval,wq,t2,t4,t5,t6]
    intro h' M
    rw[J,aaT (⟨by omega,Z⟩:b.len+1<b.word.length/\_)]
    exact jG.fr (M▸o6)
   .simp(disch:=omega)only[↓wr,seval,wq,t2,t4,t5,t6,a]
    intro h' M
    rw[J,aaR (λh=>by rw[Z] at h;simp at h),abW]
    exact jG.fr (M▸Y)
  .simp(disch:=omega)only[↓wr,seval,wq,t2,t4,t5,t6,a]
   intro h' M
   rw[J,aaR (λh=>by omega),abW]
   exact jG.fr (M▸Y))
def v8:SC:=
 ai [ag [aS 42 .lss 41 40],bP 42 (.exit 2),.block 3 (ai [ag [aL 43 1 39 41,au 44 43,af 12 44],ag [af 45 8,aw 46 0 10,au 47 46,af 48 12,((some 49),.op (.build [(.val (.int .i64 0)),(.val (.int .i64 0)),(.emp 1)] [(0,1,(.val (.val (.int .i64 2)))),(1,1,(.tmp 47)),(2,1,(.tmp 48))])),((some 50),.op (.bN 1 3 [(.val (.int .i64 0)),(.val (.int .i64 0)),(.emp 1)] [(0,(.tmp 49))])),fL 51 3 40 45 50,af 8 51]]),ag [aH 52 .add 41 1,af 41 52]]
def wj:SC:=
 ai [ag [aS 32 .lss 31 30],bP 32 (.exit 0),.block 1 (ai [ag [aL 33 3 29 31,aU 34 3 33,((some 10),.op (.alloc [(.val (.int .i64 0)),(.val (.int .i64 0)),(.emp 1)])),cz 3 10 34],ai [ag [aU 35 4 2,af 36 1,((some 37),.op (.build [(.emp 1),(.emp 1),(.emp 1),(.val (.int .i64 0)),(.val (.int .i64 0))] [(0,4,(.tmp 35)),(4,1,(.tmp 36))])),aU 38 3 10,aV 39 83 [37,38],aN 40 39,aT 41 0],bQ 2 v8],ag [af 53 8,aN 54 53,aH 55 .gtr 54 2000],aX 55 (ai [ag [bT 4 1,aT 5 13],.ret])]),ag [aH 56 .add 31 1,af 31 56]]
def AE:SF:=⟨ai [ag [cm 2 0,bT 4 1,aT 5 0],ai [.region false [⟨none,[aU 13 4 2,aV 14 82 [13],cR 15 14,af 16 15]⟩,⟨(some (16,false)),[af 17 1,aV 18 79 [17],cR 19 18]⟩,⟨none,[cE 20 16 19]⟩],aX 20 (ai [ag [bT 4 1,aT 5 1],.ret])],ag [aU 22 4 2,aV 23 28 [22],af 21 23,c7 24 0 21,c7 25 1 21,af 6 24,af 7 25],ai [ag [af 26 7,aH 27 .neq 26 0],aX 27 (ai [ag [af 28 7,bT 4 1,af 5 28],.ret])],ag [bT 8 1],ai [ag [af 29 6,aN 30 29,aT 31 0],bQ 0 wj],ag [af 57 8,af 4 57,aT 5 0],.ret],
 [.tmp 4,.tmp 5],58⟩
theorem D8:aJ aa 41 [2]=some AE:=by kernel_rfl
theorem VP (W:CM) (X:QH) (g:aj) (G:g.Ok) (H:g.Small) (m:Int) (S:∀b∈(cd g).1,b.word.length<=100/\(0<=b.len/\b.len<=b.word.length)/\(∀x∈b.word,bm x)/\bm b.state) (Y:(cd g).1.length<=1000) (Z:g.ax.length<=1000)
  (B:m<=60->∀b∈(cd g).1,∀x:List Int,(∀y∈x,y∈b.word∨(0<=y/\y<g.ax.length))->(x.length:Int)<=m->(kQ g x).2=0):
  aC aa 41 [.agg (ak g),gi m] (CL (gF g m)):=by
 refine aC.of (by
  intro v D;simp at D
  rcases D with rfl | rfl
  .exact dS g _ (by simp)
  .exact .val _) ?_
 have h1:=Sx g G H
 have I:=Q3 g G H
 have U:=OZ m
 have bad:¬ (isRed g=true/\0<=m/\m<=60)->∀h:Heap,Fr h (.bb [.emp 1,gi 1]) (CL (gF g m)):=λJ h=>by
  unfold gF
  rw[aaR J]
  exact Gw (.emp 1)
 refine ay.of mixed D8 ?_
 simp only[ak,encS] at h1 I
 simp(disch:=omega)only[↓wr,seval,wq,AE,ak,encS]
 refine az.pure h1 ?_
 simp(disch:=omega)only[↓wr,seval,wq,ak,encS]
 apply ao.split<;>intro hi
 rotate_left
 .simp(disch:=omega)only[↓wr,seval,wq]
  exact λn _=>bad (λh=>by rw[hi] at h;simp at h) n
 simp(disch:=omega)only[↓wr,seval,wq]
 refine az.pure U ?_
 simp(disch:=omega)only[↓wr,seval,wq]
 apply ao.split<;>intro hm
 rotate_left
 .simp(disch:=omega)only[↓wr,seval,wq]
  exact λn _=>bad (λh=>by
   rw[abt h.2.1,abt h.2.2] at hm
   simp at hm) n
 rw[aaZ,aa5,aa5] at hm
 simp(disch:=omega)only[↓wr,seval,wq,ak,encS]
 refine az.pure I ?_
 have r:gF g m=if (cd g).2≠0 then ([],(cd g).2) else if 2000<((cd g).1.flatMap (fS g m)).length then ([],13) else ((cd g).1.flatMap (fS g m),0):=by
  unfold gF
  rw[aaT ⟨hi,hm⟩]
 rw[r]
 have B:=B hm.2
 clear bad r h1 I U
 generalize cd g=x at *
 obtain⟨l,e⟩:=x
 simp only at S Y B
 simp(disch:=omega)only[↓wr,seval,wq,Aj]
 apply ao.ne<;>intro he
 .rw[aaT he]
  simp(disch:=omega)only[↓wr,seval,wq]
  exact λn _=>Gw (.emp 1)
 rw[aaR (λh=>h he)]
 simp(disch:=omega)only[↓wr,seval,wq]
 refine aW.up l.length (λi T H'=>∃u,aP H' u 3 (((l.take i).flatMap (fS g m)).map vO)/\((l.take i).flatMap (fS g m)).length<=2000/\T 1=gi m/\T 2=.aR (ak g) 0/\T 8=u/\T 29=.aZ (l.map fE)/\T 30=gi l.length/\T 31=gi i) ⟨.emp 1,.nil,by simp,rfl,rfl,rfl,rfl,rfl,rfl⟩ ?_
 rintro i k T H1 hk ⟨u,a,K,t1,t2,t8,t29,t30,t31⟩
 simp(disch:=omega)only[↓wr,seval,wq,wj,t1,t2,t8,t29,t30,t31]
 apply ao.dec<;>intro J
 rotate_left
 .obtain rfl:i=l.length:=by omega
  rw[aca] at *
  rw[aaR (by omega)]
  simp(disch:=omega)only[↓wr,seval,wq,t1,t2,t8]
  exact λn hh=>Gw (ct.own a (λe he v D=>by
   obtain⟨c,_,rfl⟩:=aba.1 he
   exact Rl c v D) n hh)
 have E:l[i]?=some (l[i]'(by omega)):=aaQ (by omega)
 have d:=aa1 E
 have o:(l.take (i+1)).flatMap (fS g m)=(l.take i).flatMap (fS g m)++fS g m (l[i]'(by omega)):=by
  rw[aa9,E,List.flatMap_append];simp
 have V:((l.take (i+1)).flatMap (fS g m)).length<=(l.flatMap (fS g m)).length:=by
  have:=abY List.length (abY (List.flatMap (fS g m)) (acR (i+1) l))
  rw[List.flatMap_append,abc] at this
  omega
 generalize l[i]'(by omega)=b at E d o
 obtain⟨b1,b2,b3,b5⟩:=S b d
 have p:=MR W X g G H Z m b b1 b2 b3 b5 (B b d)
 have s:fS g m b=WU b.state (lX g b m):=rfl
 have L:=Vk g b m
 generalize lX g b m=M at p s L
 generalize (l.take i).flatMap (fS g m)=C at a K o
 have N:aK (encI b.word)=true:=rfl
 simp only[kp,encS,fE] at p
 simp(disch:=omega)only[↓wr,seval,wq,t1,t2,t8,t29,t30,t31,aaS,E,aa2,fE,ak,encS,N]
 intro y O
 refine az.pure p ?_
 have f:owner u≠some y:=a.ne O
 simp(disch:=omega)only[↓wr,seval,wq,t1,t2,t8,t29,t30,t31,Ge]
 refine aW.up M.length (λj T H'=>∃u,aP H' u 3 ((C++WU b.state (M.take j)).map vO)/\H' y=.arr 3 [fE b]/\owner u≠some y/\T 1=gi m/\T 2=.aR (ak g) 0/\T 8=u/\T 10=.ptr y 0 0/\T 29=.aZ (l.map fE)/\T 30=gi l.length/\T 31=gi i/\T 39=Ge M/\T 40=gi M.length/\T 41=gi j)
  ⟨u,by simpa using (a.fresh O).other f,(by simp[View.set];rfl),f,t1,t2,t8,rfl,t29,t30,t31,rfl,rfl,rfl⟩ ?_
 clear a f O t1 t2 t8 t29 t30 t31
 rintro j kj T H2 P ⟨u,a,F,f,t1,t2,t8,t10,t29,t30,t31,t39,t40,t41⟩
 simp(disch:=omega)only[↓wr,seval,wq,v8,t1,t2,t8,t10,t29,t30,t31,t39,t40,t41]
 apply ao.dec<;>intro Q
 .have hw:M[j]?=some (M[j]'(by omega)):=aaQ (by omega)
  have t:M.take (j+1)=M.take j++[M[j]'(by omega)]:=by rw[aa9,hw];rfl
  generalize M[j]'(by omega)=w at hw t
  simp(disch:=omega)only[↓wr,seval,wq,t1,t2,t8,t10,t29,t30,t31,t39,t40,t41,Ge,aaS,hw,aa2,F,fE,encI]
  intro q R
  have z:q≠y:=by rintro rfl;rw[F] at R;simp at R
  simp(disch:=omega)only[↓wr,seval,wq,t8,bG]
  refine jU (a.fresh R) (by simp) (by simp[aK]) (by unfold aF;simp;omega) (by unfold aF;simp;omega) λu' H' h4 h5=>?_
  simp(disch:=omega)only[↓wr,seval,wq,t1,t2,t8,t10,t29,t30,t31,t39,t40,t41]
  have A:=h5 y (by simp[View.set,Ne.symm z,F]) f
  refine aE P (by omega) ⟨u',?_,(by rw[A.1];simp[View.set,Ne.symm z,F];rfl),A.2,t1,t2,rfl,t10,t29,t30,t31,t39,t40,rfl⟩
  rw[t,Z5]
  exact h4
 obtain rfl:j=M.length:=by omega
 rw[aca] at a
 rw[<-s,<-o] at a
 have hlen:=a.len
 rw[aaU] at hlen
 simp(disch:=omega)only[↓wr,seval,wq,t1,t2,t8,t29,t30,t31,hlen]
 apply ao.dec<;>intro hb
 .rw[aaT (by omega)]
  simp(disch:=omega)only[↓wr,seval,wq]
  exact λn _=>Gw (.emp 1)
 .simp(disch:=omega)only[↓wr,seval,wq,t1,t2,t8,t29,t30,t31]
  exact aE hk (by omega) ⟨u,a,by omega,t1,t2,t8,t29,t30,rfl⟩
open Go Go.Lib
theorem Ej {P:Program} (w:World) (z F e:TypeId) (A:P.underlying z=some (.slice e)) (size:Nat) (B:∀w,(Go.sizeOf e).run P w=.ok size w) (q:size≠0)
  (a b:Addr) (C G:Nat) (r:C≠0) (g:a.block≠b.block) (H I:TypeId) (m n:Nat)
  (h:w.shape? a.block=some (H,m)) (i:w.shape? b.block=some (I,n)) (D:m≠0) (s:n≠0)
  (j:w.frozen? a=false) (t:w.frozen? b=false):
  ∃o E,(E=w∨E=w.drew)/\∀p u,p≠0->(Extern.SlicesOverlaps.overlaps #[z,z] #[F] #[.slice (some a) C G,.slice (some b) p u]).run P w=.ok (.bool o) E:=by
 cases k:w.frozen? { block:=a.block,off:=m } with
 | false=>exact⟨false,w,.inl rfl,λp u _=>run_overlaps_apart w z F e A size B a b C G p u g H I m n h i s j k⟩
 | true =>
  have v:(a.block != b.block)=true:=by simpa using g
  have c:(a.block==b.block)=false:=by simpa using g
  have y:∀(x:TypeDesc) (f:TypeDesc->Sem Value),Sem.bind (pure x) f=f x:=λ_ _=>rfl
  cases n with
  | zero=>exact absurd rfl s
  | succ n =>
   cases m with
   | zero=>exact absurd rfl D
   | succ m =>
    cases d:w.frozen? { block:=b.block,off:=n+1 } with
    | false =>
     refine⟨false,w,.inl rfl,λp u l=>?_⟩
     conv=>lhs;arg 2;whnf
     simp[Sem.bind,y,A,B,r,l,q,v,c,frozen,noView,viewAt,mayBeOne,stringish,shape,Sem.run,h,i,j,t,k,d]
    | true =>
     exact⟨_,w.drew,.inr rfl,λp u l=>by
      conv=>lhs;arg 2;whnf
      simp[Sem.bind,y,A,B,r,l,q,v,c,frozen,noView,viewAt,mayBeOne,stringish,shape,choose,Sem.run,h,i,j,t,k,d]
      rfl⟩
open Go Go.Lib Go.Proofs Go.Shelf Go.RowKit
theorem M1 {P:Program} {ρ:Ren} (L:Lays2.n21 P ρ) (b off n c i vb voff m vc:Nat) (vs:List Value) (w W0:World) (hi:i<n) (hm:0<m) (hroom:n+m<=c) (hc63:n+m<=9223372036854775807) (hvb:vb≠b)
  (hvl:vs.length=m) (hsp:∀j,j<n+m->(w.cell? ⟨b,off+j,none⟩).isSome=true) (hfz:∀j,j<n+m->w.frozen? ⟨b,off+j,none⟩=false)
  (hvs:∀j v,vs[j]?=some v->w.cell? ⟨vb,voff+j,none⟩=some v) (h1v:∀v∈vs,v.oneCell'=true)
  (hov:∀lb cb,lb≠0->(callFunc (ρ.f 27) #[.slice (some ⟨vb,voff,none⟩) m vc,.slice (some ⟨b,off+(i+m),none⟩) lb cb]).run P w=.ok (.value (.bool true)) W0)
  (hW:∀x,W0.cell? x=w.cell? x) (hF:∀x,W0.frozen? x=w.frozen? x) (Q:World->Prop)
  (hrot:Calls P (ρ.f 28) #[.slice (some ⟨b,off+i,none⟩) (n+m-i) (c-i),.int .i64 m] (W0.setCells b (off+n) vs) λe w'=>(∃x,e=.returned x)/\Q w')
  (hrot2:Calls P (ρ.f 28) #[.slice (some ⟨b,off+i,none⟩) (n+m-i) (c-i),.int .i64 m] (W0.drew.setCells b (off+n) vs) λe w'=>(∃x,e=.returned x)/\Q w'):
  Calls P (ρ.f 21) #[.slice (some ⟨b,off,none⟩) n c,.int .i64 i,.slice (some ⟨vb,voff,none⟩) m vc] w λe w' =>
   e=.returned (.slice (some ⟨b,off,none⟩) (n+m) c)/\Q w':=by
 have t0:=L.t0;have a0:=L.a0;have z0:=L.z0;have v0:=L.v0;have t3:=L.t3;have a3:=L.a3;have z3:=L.z3;have v3:=L.v3;have t4:=L.t4;have a4:=L.a4;have z4:=L.z4;have v4:=L.v4;have t22:=L.t22;have a22:=L.a22;have z22:=L.z22;have v22:=L.v22
 have u0:=run_underlying L.t0;have u3:=run_underlying L.t3;have u4:=run_underlying L.t4;have u22:=run_underlying L.t22
 have e28:∀args w,(callFunc (ρ.f 28) args).run P w=.ok (.enter (ρ.f 28) args) w:=enters_of L.f28 (by kernel_rfl) rfl
 have hz1:¬ ((m:Int)=0):=by omega
 have hz2:¬ ((i:Int)=(n:Int)):=by omega
 have hsz:(P.info? (ρ.t 3)).map (·.size)=some 1:=by
  obtain⟨i0,hi0,h0,h1,h2⟩:=info_parts L.i3
  rw[hi0];simp[h1]
 have mixed:=L.mixed
 have hw1:IntKind.i64.wrap ((i:Int)+(m:Int))=(i:Int)+(m:Int):=by rw[IntKind.wrap_i64];omega
 have hb1:(0:Int)<=(i:Int)+(m:Int):=by omega
 have hin:i<=n:=by omega
 have htn:((i:Int)+(m:Int)).toNat=i+m:=by omega
 have hb2:¬ (c=i+m):=by omega
 have hb3:(i:Int)<=(n:Int)+(m:Int):=by omega
 have hb4:¬ (c=i):=by omega
 have hb5:¬ (c=n):=by omega
 have hb6:(n:Int)<=(n:Int)+(m:Int):=by omega
 have hcp:∀(W:World),(∀x,W.cell? x=w.cell? x)->(∀x,W.frozen? x=w.frozen? x)->∀ty dc,(Builtin.copy_ #[(ρ.t 22),(ρ.t 22)] ty #[.slice (some ⟨b,off+n,none⟩) (n+m-n) dc,.slice (some ⟨vb,voff,none⟩) m vc]).run P W=.ok (goInt vs.length) (W.setCells b (off+n) vs):=λW hWc hWf ty dc =>
  run_copy_cells W _ _ ty (ρ.t 3) b (off+n) (n+m-n) dc ⟨vb,voff,none⟩ m vc vs L.t22 hsz (by rw[hvl];simp only[Nat.min_def];split<;>omega)
   (λj v hj=>by
    rw[Addr.add_lit,hWc]
    exact hvs j v hj)
   (λj hj=>by rw[hWc,abx];exact hsp _ (by omega)) (λj hj=>by rw[hWf,abx];exact hfz _ (by omega)) h1v
 have hcp0:∀ty dc,(Builtin.copy_ #[(ρ.t 22),(ρ.t 22)] ty #[.slice (some ⟨b,off+n,none⟩) m dc,.slice (some ⟨vb,voff,none⟩) m vc]).run P W0=.ok (goInt vs.length) (W0.setCells b (off+n) vs):=λty dc=>by
  have:=hcp W0 hW hF ty dc
  rwa [show n+m-n=m by omega] at this
 go_enter L.f21,Body2.n21_ntmps ρ
 go_wp2_with (first
  | (simp(disch:=omega)only[hov])
  | (at_builtin;refine wpList_copy_runI _ rfl _ _ (ρ.t 22) (ρ.t 22) rfl _ _ rfl rfl (hcp0 _ _) ?_)
  | (refine Calls.mono hrot ?_;rintro e w' ⟨⟨x,rfl⟩,hb⟩)
  | (refine Calls.mono hrot2 ?_;rintro e w' ⟨⟨x,rfl⟩,hb⟩))
 go_ret
 exact⟨rfl,hb⟩
theorem KG {P:Program} {ρ:Ren} (L:Lays2.n21 P ρ) (b off n c i vb voff m vc:Nat) (cs vs:List Value) (w W0:World) (hi:i<n) (hm:0<m) (hroom:n+m<=c) (hc63:n+m<=9223372036854775807) (hvb:vb≠b)
  (hcl:cs.length=n) (hvl:vs.length=m) (hcs:∀j v,cs[j]?=some v->w.cell? ⟨b,off+j,none⟩=some v) (hsp:∀j,j<n+m->(w.cell? ⟨b,off+j,none⟩).isSome=true) (hfz:∀j,j<n+m->w.frozen? ⟨b,off+j,none⟩=false)
  (hvs:∀j v,vs[j]?=some v->w.cell? ⟨vb,voff+j,none⟩=some v) (h1c:∀v∈cs,v.oneCell'=true) (h1v:∀v∈vs,v.oneCell'=true)
  (hov:∀lb cb,lb≠0->(callFunc (ρ.f 27) #[.slice (some ⟨vb,voff,none⟩) m vc,.slice (some ⟨b,off+(i+m),none⟩) lb cb]).run P w=.ok (.value (.bool false)) W0)
  (hW:∀x,W0.cell? x=w.cell? x) (hF:∀x,W0.frozen? x=w.frozen? x):
  Calls P (ρ.f 21) #[.slice (some ⟨b,off,none⟩) n c,.int .i64 i,.slice (some ⟨vb,voff,none⟩) m vc] w λe w' =>
   e=.returned (.slice (some ⟨b,off,none⟩) (n+m) c)/\w'=(W0.drew.setCells b (off+(i+m)) (cs.drop i)).setCells b (off+i) vs:=by
 have t0:=L.t0;have a0:=L.a0;have z0:=L.z0;have v0:=L.v0;have t3:=L.t3;have a3:=L.a3;have z3:=L.z3;have v3:=L.v3;have t4:=L.t4;have a4:=L.a4;have z4:=L.z4;have v4:=L.v4;have t22:=L.t22;have a22:=L.a22;have z22:=L.z22;have v22:=L.v22
 have u0:=run_underlying L.t0;have u3:=run_underlying L.t3;have u4:=run_underlying L.t4;have u22:=run_underlying L.t22
 have hz1:¬ ((m:Int)=0):=by omega
 have hz2:¬ ((i:Int)=(n:Int)):=by omega
 have hsz:(P.info? (ρ.t 3)).map (·.size)=some 1:=by
  obtain⟨i0,hi0,h0,h1,h2⟩:=info_parts L.i3
  rw[hi0];simp[h1]
 have hdl:(cs.drop i).length=n-i:=by rw[List.length_drop,hcl]
 have mixed:=L.mixed
 have hw1:IntKind.i64.wrap ((i:Int)+(m:Int))=(i:Int)+(m:Int):=by rw[IntKind.wrap_i64];omega
 have hb1:(0:Int)<=(i:Int)+(m:Int):=by omega
 have hin:i<=n:=by omega
 have htn:((i:Int)+(m:Int)).toNat=i+m:=by omega
 have hb2:¬ (c=i+m):=by omega
 have hb3:(i:Int)<=(n:Int)+(m:Int):=by omega
 have hb4:¬ (c=i):=by omega
 have hcp1:∀ty dc sc,(Builtin.copy_ #[(ρ.t 22),(ρ.t 22)] ty #[.slice (some ⟨b,off+(i+m),none⟩) (n+m-(i+m)) dc,.slice (some ⟨b,off+i,none⟩) (n+m-i) sc]).run P W0.drew=.ok (goInt (cs.drop i).length) (W0.drew.setCells b (off+(i+m)) (cs.drop i)):=λty dc sc =>
  run_copy_cells W0.drew _ _ ty (ρ.t 3) b (off+(i+m)) (n+m-(i+m)) dc ⟨b,off+i,none⟩ (n+m-i) sc (cs.drop i) L.t22 hsz (by rw[hdl];simp only[Nat.min_def];split<;>omega)
   (λj v hj=>by rw[Addr.add_lit,abx];exact(hW _).trans (hcs (i+j) v (by rwa [acg] at hj)))
   (λj hj=>by rw[abx,show W0.drew.cell?=W0.cell? from rfl,hW];exact hsp _ (by omega)) (λj hj=>by rw[abx,show W0.drew.frozen?=W0.frozen? from rfl,hF];exact hfz _ (by omega)) (λv hv=>h1c v (List.mem_of_mem_drop hv))
 obtain⟨W1,hW1⟩:∃W1,W1=W0.drew.setCells b (off+(i+m)) (cs.drop i):=⟨_,rfl⟩
 have hsp1:∀k,k<n+m->(W1.cell? ⟨b,off+k,none⟩).isSome=true:=λk hk=>by
  rw[hW1]
  exact isSome_setCells b _ _ _ (λj hj=>by rw[abx,show W0.drew.cell?=W0.cell? from rfl,hW];exact hsp _ (by omega)) _ (by rw[show W0.drew.cell?=W0.cell? from rfl,hW];exact hsp k hk)
 have hcp2:∀(W:World),(∀x,W.cell? x=W1.cell? x)->(∀x,W.frozen? x=W1.frozen? x)->∀ty dc,(Builtin.copy_ #[(ρ.t 22),(ρ.t 22)] ty #[.slice (some ⟨b,off+i,none⟩) (n+m-i) dc,.slice (some ⟨vb,voff,none⟩) m vc]).run P W=.ok (goInt vs.length) (W.setCells b (off+i) vs):=λW hWc hWf ty dc =>
  run_copy_cells W _ _ ty (ρ.t 3) b (off+i) (n+m-i) dc ⟨vb,voff,none⟩ m vc vs L.t22 hsz (by rw[hvl];simp only[Nat.min_def];split<;>omega)
   (λj v hj=>by
    rw[Addr.add_lit,hWc,hW1,World.cell?_setCells_out b _ _ _ _ (λh _=>absurd h hvb)]
    exact(hW _).trans (hvs j v hj))
   (λj hj=>by rw[hWc,abx];exact hsp1 _ (by omega)) (λj hj=>by rw[hWf,hW1,World.frozen?_setCells,abx,show W0.drew.frozen?=W0.frozen? from rfl,hF];exact hfz _ (by omega)) h1v
 rw[<-hW1] at hcp1
 go_enter L.f21,Body2.n21_ntmps ρ
 go_wp2_with (simp(disch:=omega)only[hov])
 go_region_law_o (refine step_copy_runI rfl _ _ (ρ.t 22) (ρ.t 22) rfl _ _ (by simp[Act.eval,Act.put]) (by simp[Act.eval,Act.put]) (hcp1 _ _ _) ?_)
 go_wp2_with (at_builtin;refine wpList_copy_runI _ rfl _ _ (ρ.t 22) (ρ.t 22) rfl _ _ rfl rfl (hcp2 _ (λ_=>rfl) (λ_=>rfl) _ _) ?_)
 go_ret
 first | exact⟨rfl,rfl⟩ | exact⟨rfl,by rw[hW1]⟩
theorem KB {P:Program} {k:Ren} (L:Lays2.n21 P k) (b off n c i l a m u:Nat) (cs vs:List Value) (w:World) (hi:i<n) (hm:0<m) (g:n+m<=c) (p:n+m<=9223372036854775807) (r:l≠b)
  (F:cs.length=n) (y:vs.length=m) (G:∀j v,cs[j]?=some v->w.cell? ⟨b,off+j,none⟩=some v) (z:∀j,j<n+m->(w.cell? ⟨b,off+j,none⟩).isSome=true) (s:∀j,j<n+m->w.frozen? ⟨b,off+j,none⟩=false)
  (A:∀j v,vs[j]?=some v->w.cell? ⟨l,a+j,none⟩=some v) (H:∀v∈cs,v.oneCell'=true) (B:∀v∈vs,v.oneCell'=true)
  (U V:TypeId) (I J:Nat) (K:w.shape? l=some (U,I)) (M:w.shape? b=some (V,J)) (N:I≠0) (O:J≠0) (R:w.frozen? ⟨l,a,none⟩=false) (Q:World->Prop)
  (Y:∀d,(d=w∨d=w.drew)->Q ((d.drew.setCells b (off+(i+m)) (cs.drop i)).setCells b (off+i) vs))
  (q:∀d,(d=w∨d=w.drew∨d=w.drew.drew)->Calls P (k.f 28) #[.slice (some ⟨b,off+i,none⟩) (n+m-i) (c-i),.int .i64 m] (d.setCells b (off+n) vs) λe w'=>(∃x,e=.returned x)/\Q w'):
  Calls P (k.f 21) #[.slice (some ⟨b,off,none⟩) n c,.int .i64 i,.slice (some ⟨l,a,none⟩) m u] w λe w' =>
   e=.returned (.slice (some ⟨b,off,none⟩) (n+m) c)/\Q w':=by
 obtain⟨o,d,C,h⟩:=Ej w (k.t 22) (k.t 4) (k.t 3) L.t22 1 L.z3 (by decide) ⟨l,a,none⟩ ⟨b,off+(i+m),none⟩ m u (by omega) r U V I J K M N O R (s _ (by omega))
 have D:∀E S,E≠0->(callFunc (k.f 27) #[.slice (some ⟨l,a,none⟩) m u,.slice (some ⟨b,off+(i+m),none⟩) E S]).run P w=.ok (.value (.bool o)) d:=λE S T=>by
  rw[run_callFunc_extern L.f27 (by kernel_rfl) (by kernel_rfl) (by kernel_rfl) (e:=Extern.SlicesOverlaps.overlaps #[(k.t 22),(k.t 22)] #[(k.t 4)]) (by kernel_rfl),h E S T]
  rfl
 have W:∀x,d.cell? x=w.cell? x:=λx=>by rcases C with rfl | rfl<;>rfl
 have X:∀x,d.frozen? x=w.frozen? x:=λx=>by rcases C with rfl | rfl<;>rfl
 cases o with
 | false=>exact(KG L b off n c i l a m u cs vs w d hi hm g p r F y G z s A H B D W X).mono λe w' ⟨h1,Z⟩=>⟨h1,by rw[Z];exact Y d C⟩
 | true=>exact M1 L b off n c i l a m u vs w d hi hm g p r y z s A B D W X Q (q d (C.imp id .inl)) (q d.drew (C.elim (λh=>.inr (.inl (by rw[h]))) (λh=>.inr (.inr (by rw[h])))))
theorem O9 {P:Program} {ρ:Ren} (L:Lays2.n21 P ρ) (b off n c vb voff m vc:Nat) (vs:List Value) (w:World) (hm:0<m) (hroom:n+m<=c) (hc63:n+m<=9223372036854775807)
  (hvl:vs.length=m) (hsp:∀j,j<m->(w.cell? ⟨b,off+n+j,none⟩).isSome=true) (hfz:∀j,j<m->w.frozen? ⟨b,off+n+j,none⟩=false)
  (hvs:∀j v,vs[j]?=some v->w.cell? ⟨vb,voff+j,none⟩=some v) (h1v:∀v∈vs,v.oneCell'=true):
  Calls P (ρ.f 21) #[.slice (some ⟨b,off,none⟩) n c,.int .i64 n,.slice (some ⟨vb,voff,none⟩) m vc] w λe w' =>
   e=.returned (.slice (some ⟨b,off,none⟩) (n+m) c)/\w'=w.setCells b (off+n) vs:=by
 have t0:=L.t0;have a0:=L.a0;have z0:=L.z0;have v0:=L.v0;have t3:=L.t3;have a3:=L.a3;have z3:=L.z3;have v3:=L.v3;have t4:=L.t4;have a4:=L.a4;have z4:=L.z4;have v4:=L.v4;have t22:=L.t22;have a22:=L.a22;have z22:=L.z22;have v22:=L.v22
 have u0:=run_underlying L.t0;have u3:=run_underlying L.t3;have u4:=run_underlying L.t4;have u22:=run_underlying L.t22
 have mixed:=L.mixed
 have hz1:¬ ((m:Int)=0):=by omega
 have hsrc:Src P 1 (ρ.t 22) (.slice (some ⟨vb,voff,none⟩) m vc) m vs w:=Src.ofSlice w L.t22 ⟨vb,voff,none⟩ m vc vs (by omega) (λj u hj=>by rw[Addr.add_lit];exact hvs j u hj) h1v
 go_enter L.f21,Body2.n21_ntmps ρ
 go_wp2_with (at_builtin;refine wpList_append_room1 _ rfl _ _ (ρ.t 22) (ρ.t 22) rfl (ρ.t 3) _ _ L.t22 L.i3 b off n c rfl _ rfl m vs hsrc hroom (by rw[hvl];exact hsp) (by rw[hvl];exact hfz) ?_)
 go_ret
 exact⟨rfl,rfl⟩
open Go Go.Lib Go.Proofs Go.Shelf Go.RowKit Go.Sort
def eR:Ren where
 f:=fun
  | 21=>142
  | 27=>201
  | 28=>202
  | 35=>253
  | 39=>285
  | n=>n
 t:=fun
  | 22=>27
  | 3=>3
  | 4=>4
  | 0=>0
  | n=>n
 g:=λn=>n
theorem Kx:Go.Proofs.Lays2.n21 aa eR where
 mixed:=by kernel_rfl
 f21:=by kernel_rfl
 f27:=by kernel_rfl
 f28:=by kernel_rfl
 f35:=by kernel_rfl
 f39:=by kernel_rfl
 t0:=Tryz.underlying0
 a0:=Tryz.isAgg0
 z0:=Tryz.sizeOf0
 v0:=Tryz.zeroValue0
 t3:=Tryz.underlying3
 a3:=Tryz.isAgg3
 z3:=Tryz.sizeOf3
 v3:=Tryz.zeroValue3
 t4:=Tryz.underlying4
 a4:=Tryz.isAgg4
 z4:=Tryz.sizeOf4
 v4:=Tryz.zeroValue4
 t22:=Tryz.underlying27
 a22:=Tryz.isAgg27
 z22:=Tryz.sizeOf27
 v22:=Tryz.zeroValue27
 i3:=by kernel_rfl
def Vo:Ren where
 f:=fun
  | 23=>144
  | n=>n
 t:=fun
  | 22=>27
  | 3=>3
  | 4=>4
  | 0=>0
  | n=>n
 g:=λn=>n
theorem ZM:Go.Proofs.Lays2.n23 aa Vo where
 mixed:=by kernel_rfl
 f23:=by kernel_rfl
 t0:=Tryz.underlying0
 a0:=Tryz.isAgg0
 z0:=Tryz.sizeOf0
 v0:=Tryz.zeroValue0
 t3:=Tryz.underlying3
 a3:=Tryz.isAgg3
 z3:=Tryz.sizeOf3
 v3:=Tryz.zeroValue3
 t4:=Tryz.underlying4
 a4:=Tryz.isAgg4
 z4:=Tryz.sizeOf4
 v4:=Tryz.zeroValue4
 t22:=Tryz.underlying27
 a22:=Tryz.isAgg27
 z22:=Tryz.sizeOf27
 v22:=Tryz.zeroValue27
 i3:=by kernel_rfl
section
variable {Z:Nat->Prop} {μ:Mu}
theorem Bn {hp:Array Obj} {id b o0:Nat} {l:List Int} {c:Array Value} {e:TypeId} {f:Nat × Nat} (hm:μ id=some (b,o0,1)) (d:hp[b]?=some (.cells c e f)) (g:f.1=f.2∨c.size<=f.1) (k:o0+l.length<=c.size)
  (h:∀j,j<l.length->cellAt hp b (o0+j)=some (.int .i64 (l.getD j 0))):eO Z μ hp id (.arr 1 (aM l)):=by
 intro m n s1 h1
 rw[hm] at h1
 simp only[aaV,abf] at h1
 obtain⟨rfl,rfl,rfl⟩:=h1
 have a:(aM l).length=l.length:=by simp
 refine⟨rfl,⟨c,e,f,d,g,by rw[a];omega⟩,λi hi=>?_,λi j hi o=>?_⟩
 .rw[a] at hi;rw[Al hi];rfl
 .rw[a] at hi
  rw[Al hi]
  obtain rfl:j=0:=by omega
  exact⟨_,by simpa using h i hi,.val _ rfl⟩
theorem Ho {w:World} {H:View} {n b o0:Nat} {l:List Int} (hr:eS Z μ w.heap H) (g:H n=.arr 1 (aM l)) (hm:μ n=some (b,o0,1)):
  ∃c e f,w.heap[b]?=some (.cells c e f)/\(f.1=f.2∨c.size<=f.1)/\o0+l.length<=c.size/\∀j,j<l.length->w.cell? ⟨b,o0+j,none⟩=some (.int .i64 (l.getD j 0)):=by
 have h:=hr.obj n
 rw[g] at h
 obtain⟨_,⟨c,e,f,i,k,m⟩,_,o⟩:=h b o0 1 hm
 refine⟨c,e,f,i,k,by simpa using m,λj a=>?_⟩
 obtain⟨x,p,d⟩:=o j 0 (by simpa using a) (by omega)
 rw[Al a] at d
 cases d
 rw[jq]
 simpa using p
theorem VC {w:World} {b k:Nat} {c:Array Value} {e:TypeId} {f:Nat × Nat} (a:w.heap[b]?=some (.cells c e f)) (d:f.1=f.2∨c.size<=f.1) (hk:k<c.size):w.frozen? ⟨b,k,none⟩=false:=by
 simp only[World.frozen?,a]
 rcases d with e | e
 .simp only[e,Bool.and_eq_false_iff,acf];omega
 .simp only[Bool.and_eq_false_iff,acf];omega
structure fo (w w':World) (b:Nat):Prop where
 same:fa w w'
 old:∀j,j≠b->w'.heap[j]?=w.heap[j]?
 cell:∀c e f,w.heap[b]?=some (.cells c e f)->∃c',w'.heap[b]?=some (.cells c' e f)/\c'.size=c.size
theorem fo.refl (w:World) (b:Nat):fo w w b:=⟨.refl w,λ_ _=>rfl,λc e f h=>⟨c,h,rfl⟩⟩
theorem fo.trans {w a d:World} {b:Nat} (h:fo w a b) (k:fo a d b):fo w d b:=⟨h.same.trans k.same,λj g=>(k.old j g).trans (h.old j g),λc e f i=>by
 obtain⟨c1,h1,s1⟩:=h.cell c e f i
 obtain⟨c2,l,s2⟩:=k.cell c1 e f h1
 exact⟨c2,l,s2.trans s1⟩⟩
theorem fo.drew (w:World) (b:Nat):fo w w.drew b:=⟨⟨rfl,rfl,rfl,aaY _⟩,λ_ _=>rfl,λc e f h=>⟨c,h,rfl⟩⟩
theorem fo.map (w:World) (b:Nat) (g:Array Value->Array Value) (a:∀c,(g c).size=c.size):fo w (mapBlock w b g) b:=by
 refine⟨⟨rfl,rfl,rfl,?_⟩,λj d=>?_,λc e f h=>⟨g c,?_,a c⟩⟩
 .simp[mapBlock]
 .simp only[mapBlock,acz]
  rw[aaR (λe=>d e.symm)]
 .simp only[mapBlock,acz,if_true,h]
  rfl
theorem fo.setCells (b:Nat):∀(vs:List Value) (o:Nat) (w:World),fo w (w.setCells b o vs) b
 | [],_,w=>.refl w b
 | v::r,o,w=>by
  rw[World.setCells]
  refine fo.trans ?_ (fo.setCells b r (o+1) _)
  rw[setCell_eq]
  exact fo.map _ _ _ (λc=>by simp)
theorem fo.ahead (w:World) (b q:Nat):fo w (Sort.ahead w q) b:=⟨⟨rfl,rfl,rfl,aaY _⟩,λ_ _=>rfl,λc e f h=>⟨c,h,rfl⟩⟩
theorem fo.mn {w w':World} {b:Nat} (h:fo w w' b):gj w.heap w'.heap:=λj c e f a=>by
 by_cases d:j=b
 .subst d
  obtain⟨g,h1,i⟩:=h.cell c e f a
  exact⟨g,f,h1,i⟩
 .exact⟨c,f,by rw[h.old j d];exact a,rfl⟩
theorem SA {h:Heap} {F:View} {eff:bp} (b:∀id,id∈eff.wr->h.view id≠.dead):cat (eff.apply h) F=eff.view (cat h F) h.length:=by
 have c:=k8 b
 funext k
 cases eff with
 | none=>rfl
 | new o =>
  have a:(bp.apply h (.new o)).length=h.length+1:=by simp[bp.apply]
  simp only[cat,c,a,bp.view,View.set]
  (repeat' split)<;>first | rfl | omega
 | fR id o =>
  have:=fg (b id (by simp[bp.wr]))
  have a:(bp.apply h (.fR id o)).length=h.length:=by simp[bp.apply]
  simp only[cat,c,a,bp.view,View.set]
  (repeat' split)<;>first | rfl | omega
 | eT id o =>
  have:=fg (b id (by simp[bp.wr]))
  have a:(bp.apply h (.eT id o)).length=h.length+1:=by simp[bp.apply]
  simp only[cat,c,a,bp.view,View.set]
  (repeat' split)<;>first | rfl | omega
theorem CI {μ':Mu} {w w':World} {h:Heap} {F:View} {eff:bp} (hr:eS Z μ w.heap (cat h F)) (he:mR Z μ μ' w.heap w'.heap h.length eff) (c:fa w w') (d:eff.fresh (μ h.length=none)) (b:∀id,id∈eff.wr->h.view id≠.dead):
  eS Z μ' w'.heap (cat (eff.apply h) F)/\Ext Z μ w h.length Z μ' w':=by
 refine⟨?_,(he.ext c d hr.de hr.iK).1⟩
 rw[SA b]
 have f:∀id,h.view id≠.dead->cat h F id≠.dead:=λid a=>by
  simp only[cat];rw[aaT (fg a)];exact a
 exact hr.eff d c.size he (λid o e=>f id (b id (by rw[e];simp[bp.wr]))) (λid o e=>f id (b id (by rw[e];simp[bp.wr])))
theorem Yf {w w':World} {h:Heap} {F:View} {n b o0:Nat} {l l':List Int} (hr:eS Z μ w.heap (cat h F)) (o:h.view n=.arr 1 (aM l)) (a:μ h.length=none) (hm:μ n=some (b,o0,1)) (hp:fo w w' b)
  {c:Array Value} {e:TypeId} {f:Nat × Nat} (p:w.heap[b]?=some (.cells c e f)) (q:f.1=f.2∨c.size<=f.1) (r:o0+l'.length<=c.size) (s:∀j,j<l'.length->w'.cell? ⟨b,o0+j,none⟩=some (.int .i64 (l'.getD j 0))):
  eS Z (μ.set h.length (b,o0,1)) w'.heap (cat (h.set n .dead++[.arr 1 (aM l')]) F)/\Ext Z μ w h.length Z (μ.set h.length (b,o0,1)) w':=by
 obtain⟨t,i,d⟩:=hp.cell c e f p
 refine CI (eff:=.eT n (.arr 1 (aM l'))) hr ?_ hp.same a (λid g=>by
  simp[bp.wr] at g;subst g;rw[o];simp)
 refine⟨b,o0,1,rfl,?_,.inr ⟨⟨o0,1,hm⟩,λj m k=>hp.old j k,hp.mn⟩⟩
 exact Bn (b:=b) (o0:=o0) (by simp[Mu.set]) i (by rw[d];exact q) (by rw[d];exact r) (λj m=>by rw[<-jq];exact s j m)
theorem YE {w w':World} {h:Heap} {F:View} {n b o0:Nat} {l l':List Int} (hr:eS Z μ w.heap (cat h F)) (m:h.view n=.arr 1 (aM l)) (hm:μ n=some (b,o0,1)) (hp:fo w w' b)
  {c:Array Value} {e:TypeId} {f:Nat × Nat} (o:w.heap[b]?=some (.cells c e f)) (p:f.1=f.2∨c.size<=f.1) (q:o0+l'.length<=c.size) (r:∀j,j<l'.length->w'.cell? ⟨b,o0+j,none⟩=some (.int .i64 (l'.getD j 0))):
  eS Z μ w'.heap (cat (h.set n (.arr 1 (aM l'))) F)/\Ext Z μ w h.length Z μ w':=by
 obtain⟨s,g,a⟩:=hp.cell c e f o
 refine CI (eff:=.fR n (.arr 1 (aM l'))) hr ?_ hp.same trivial (λid d=>by
  simp[bp.wr] at d;subst d;rw[m];simp)
 refine⟨b,o0,1,hm,rfl,λj k i=>hp.old j i,hp.mn,?_⟩
 exact Bn hm g (by rw[a];exact p) (by rw[a];exact q) (λj k=>by rw[<-jq];exact r j k)
theorem Hi {w w':World} {h:Heap} {F:View} {l':List Int} (hr:eS Z μ w.heap (cat h F)) (a:μ h.length=none) (g:fa w w') (hold:∀j,j<w.heap.size->w'.heap[j]?=w.heap[j]?)
  {c:Array Value} {e:TypeId} {f:Nat × Nat} (l:w'.heap[w.heap.size]?=some (.cells c e f)) (o:f.1=f.2∨c.size<=f.1) (r:l'.length<=c.size) (p:∀j,j<l'.length->w'.cell? ⟨w.heap.size,j,none⟩=some (.int .i64 (l'.getD j 0)))
  {eff:bp} (he:eff=.new (.arr 1 (aM l'))∨∃n,eff=.eT n (.arr 1 (aM l'))/\h.view n≠.dead):
  eS Z (μ.set h.length (w.heap.size,0,1)) w'.heap (cat (eff.apply h) F)/\Ext Z μ w h.length Z (μ.set h.length (w.heap.size,0,1)) w':=by
 have i:w.heap.size<w'.heap.size:=fK l
 have m:eO Z (μ.set h.length (w.heap.size,0,1)) w'.heap h.length (.arr 1 (aM l')):=Bn (b:=w.heap.size) (o0:=0) (by simp[Mu.set]) l o (by omega) (λj k=>by rw[<-jq,abE];exact p j k)
 rcases he with rfl | ⟨n,rfl,q⟩
 .exact CI hr ⟨_,0,1,aaY _,i,rfl,λj k _=>hold j k,m⟩ g a (λid d=>by simp[bp.wr] at d)
 .exact CI hr ⟨_,0,1,rfl,m,.inl ⟨aaY _,i,λj k _=>hold j k⟩⟩ g a (λid d=>by
   simp[bp.wr] at d;subst d;exact q)
end
theorem x7 {l:List Int} {i:Nat} {t:Int} (hi:i<=l.length) (j:Nat):(dH l i 0 [t]).getD j 0=if j<i then l.getD j 0 else if j=i then t else l.getD (j-1) 0:=by
 unfold dH
 simp only[aaP,List.getElem?_append,abS,Nat.min_eq_left hi,ab3,List.length_singleton,acg]
 by_cases h1:j<i
 .simp[h1]
 .rw[aaR h1,aaR h1]
  by_cases a:j=i
  .subst a;simp
  .rw[aaR (by omega),aaR a]
   congr 2;omega
theorem ki {l:List Int} {i:Nat} {t:Int} (hi:i<=l.length):(dH l i 0 [t]).length=l.length+1:=by
 unfold dH;simp;omega
theorem XQ {l cur:List Int} {i:Nat} {t:Int} (hi:i<=l.length) (h:G6 (l++[t]) cur i (l.length+1-i) (l.length+1-i-1)):cur=dH l i 0 [t]:=by
 obtain⟨h1,c⟩:=h
 simp only[abc,List.length_singleton] at h1 c
 refine abJ (by rw[ki hi,h1]) λk hk a=>?_
 have b:k<l.length+1:=by omega
 have e:=c k b
 have f:=x7 (t:=t) hi k
 have g:cur.getD k 0=cur[k]:=by simp[aaP,aaQ hk]
 have a2:(dH l i 0 [t]).getD k 0=(dH l i 0 [t])[k]:=by simp[aaP,aaQ a]
 rw[<-g,<-a2,e,f]
 have d:∀m,m<l.length->(l++[t]).getD m 0=l.getD m 0:=λm hm=>by simp[aaP,abm hm]
 have j:(l++[t]).getD l.length 0=t:=by simp[aaP]
 by_cases c1:k<i
 .rw[aaR (by omega),aaT c1]
  exact d k (by omega)
 .rw[aaT (by omega),aaR c1]
  by_cases c2:k=i
  .rw[aaT c2,aaT (by omega),show k+(l.length+1-i-1)=l.length by omega,j]
  .rw[aaR c2,aaR (by omega),show k+(l.length+1-i-1)-(l.length+1-i)=k-1 by omega]
   exact d _ (by omega)
open Go Go.Lib Go.Proofs Go.Shelf Go.RowKit Go.Sort
theorem lN {w:World} {b k:Nat} {vs:List Value} {o:Nat} (a:∀j,j<vs.length->(w.cell? ⟨b,o+j,none⟩).isSome=true):
  (w.setCells b o vs).cell? ⟨b,k,none⟩=if o<=k/\k<o+vs.length then vs[k-o]? else w.cell? ⟨b,k,none⟩:=by
 split
 .rename_i h
  have:=World.cell?_setCells_in b vs o w a (k-o) (by omega)
  rw[show o+(k-o)=k by omega] at this
  rw[this,aaQ (by omega)]
 .rename_i h
  exact World.cell?_setCells_out b vs o w _ (λ_ _=>by show k<o∨o+vs.length<=k;omega)
theorem Bb {l:List Int} {j:Nat} (h:j<l.length):(l.map (Value.int .i64))[j]?=some (.int .i64 (l.getD j 0)):=by
 simp[aaP,h]
theorem nR {w:World} {row:Array Value} {e:TypeId} : (w.alloc (.cells row e)).heap[w.heap.size]?=some (.cells row e (0,0)):=World.alloc_heap_new w _
theorem BE {w:World} {o:Obj} {j:Nat} (a:j<w.heap.size):(w.alloc o).heap[j]?=w.heap[j]?:=by
 rw[heap_alloc,acH,aaR (by omega)]
theorem Gf:CM:=by
 intro H u v l i t ho hv cb hi hl
 refine⟨by kernel_rfl,?_⟩
 rintro h rfl
 have bl:v<h.length:=fg (by rw[hv];simp)
 have args:∀ {Z:Nat->Prop} {μ:Mu} {F:View} {w:World} {u:V} {xs:List Value},gG Z μ w.heap [u,gi i,.sl v 0 1 1] xs->eS Z μ w.heap (cat h F) ->
   ∃x B E S,xs=[x,.int .i64 i,.slice (some ⟨B,E,none⟩) 1 S]/\aD Z μ w.heap u x/\μ v=some (B,E,1)/\(∃c e f,w.heap[B]?=some (.cells c e f)/\(f.1=f.2∨c.size<=f.1)/\E+1<=c.size)/\w.cell? ⟨B,E,none⟩=some (.int .i64 t):=by
  intro Z μ F w u xs I hr
  obtain⟨hlen,hx⟩:=I
  obtain⟨x0,x1,x2,rfl⟩:∃x0 x1 x2,xs=[x0,x1,x2]:=by
   match xs,hlen with
   | [a,b,c],_=>exact⟨a,b,c,rfl⟩
  have h0:aD Z μ w.heap u x0:=hx 0 (by simp)
  have h1:aD Z μ w.heap (gi i) x1:=hx 1 (by simp)
  have P:aD Z μ w.heap (.sl v 0 1 1) x2:=hx 2 (by simp)
  have e1:=fe h1
  subst e1
  rcases yq P with ⟨e,_⟩ | ⟨B,E,S,cv,ev,fv,rfl,J,cS,aq,cc⟩
  .omega
  have cf:cat h F v=.arr 1 (aM [t]):=by simp only[cat];rw[aaT bl,hv];rfl
  obtain⟨c,e,f,hc,hf,hs,d⟩:=Ho hr cf J
  exact⟨x0,B,E,S,by simp,h0,J,⟨c,e,f,hc,hf,by simpa using hs⟩,by simpa using d 0 (by simp)⟩
 have T:∀ {w:World} {B E:Nat},w.cell? ⟨B,E,none⟩=some (.int .i64 t)->∀j x,[Value.int .i64 t][j]?=some x->w.cell? ⟨B,E+j,none⟩=some x:=by
  intro w B E d j x p
  match j,p with
  | 0,p=>simp at p;subst p;simpa using d
 have U:∀x∈[Value.int .i64 t],x.oneCell'=true:=by simp;rfl
 have hG:∀(w:World) (n c:Nat),n<=grownCap w n c (eR.t 3):=λw n c=>grownCap_ge w _ _ _
 rcases ho with ⟨he,k,rfl⟩ | ⟨n,rfl,hn⟩
 .obtain rfl:l=[]:=List.map_eq_nil_iff.1 he
  obtain rfl:i=0:=by simpa using hi
  refine⟨.sl h.length 0 1 1,h++[.arr 1 (aM [t])],⟨by simp,λZ μ F w xs I hr z=>?_⟩,λk hk hd=>?_,?_,?_⟩
  rotate_left
  .rw[kY];simp only[View.set];rw[aaR (by omega)];exact hd
  .exact .inr ⟨h.length,rfl,by rw[kY];simp[View.set];rfl⟩
  .intro id C _ _
   have:=fg C
   rw[kY]
   exact⟨by simp only[View.set];rw[aaR (by omega)],by simp[owner];omega⟩
  obtain⟨x,B,E,S,rfl,h0,J,_,d⟩:=args I hr
  have W:=z h.length (aaY _) (by simp)
  cases h0 with
  | emp _ a _ _ =>
   have r:=Any2.slices_Insert_int_end_grow Kx a 0 0 B E 1 S [] [.int .i64 t] w (by omega) (by omega) (by omega) (by omega) rfl rfl (λ_=>rfl) (by simp) (T d) U
   refine Calls.mono (show Calls aa 142 _ w _ from r) ?_
   rintro e w' ⟨rfl,rfl⟩
   have hg:=hG w (0+1) 0
   generalize grownCap w (0+1) 0 (eR.t 3)=G at hg ⊢
   generalize s:(([]++[Value.int .i64 t]).toArray++Builtin.zeroCells (Value.int .i64 0).cells (G-(0+1)))=row
   have bn:row.size=G:=by rw[<-s];simp[Builtin.zeroCells,Value.cells];omega
   obtain⟨k1,k2⟩:=Hi (l':=[t]) (w':=w.drew.alloc (.cells row _)) (eff:=.new (.arr 1 (aM [t]))) hr W (iO _ _) (λj p=>BE (w:=w.drew) p) (nR (w:=w.drew)) (.inl rfl) (by simp;omega) (λj p=>by
    obtain rfl:j=0:=by simpa using p
    have:=World.cell?_alloc_at (w:=w.drew) row (eR.t 3) w.heap.size 0 rfl
    refine this.trans ?_
    rw[<-s,abM (by simp)];rfl) (.inl rfl)
   refine⟨_,Z,_,rfl,?_,k1,k2,λid C=>?_⟩
   .have:=aD.sl (Z:=Z) (μ:=μ.set h.length (w.heap.size,0,1)) (hp:=(w.drew.alloc (.cells row (eR.t 3))).heap) h.length 0 1 1 w.heap.size 0 G row _ (0,0) (by simp[Mu.set]) (by omega) (nR (w:=w.drew)) (by omega)
    simpa using this
   .simp only[Mu.set]
    rw[aaR (by simp at C;omega)]
 .simp only[aaU] at *
  have ar:n<h.length:=fg (by rw[hn];simp)
  have ch:v≠n:=λe=>cb (by rw[e];rfl)
  have e1:Heap.view (h.set n .dead++[.arr 1 (aM (l++[t]))]) h.length=.arr 1 (aM (l++[t])):=by
   have:=kY (h.set n .dead) (.arr 1 (aM (l++[t])))
   rw[this];simp[View.set]
  obtain⟨_,hR⟩:=Hk (H:=Heap.view (h.set n .dead++[.arr 1 (aM (l++[t]))])) (id:=h.length) (l:=l++[t]) (off:=i) (len:=l.length+1-i) (m:=1) e1 (by simp;omega) (by omega) (by unfold aI;simp;omega)
  obtain⟨r2,P,hA,hS,cur,br,bs,a1⟩:=hR _ rfl
  obtain rfl:=XQ hi bs
  have cV:h.length+1<=P.length:=by simpa using hA.1
  have D:∀id,P.view id=if id=h.length then .arr 1 (aM (dH l i 0 [t])) else if id=n then .dead else h.view id:=λid=>by
   by_cases e:id=h.length
   .rw[aaT e,e,br]
   .rw[aaR e,a1 id e,kY,gM ar]
    simp only[View.set,acy]
    rw[aaR e]
  refine⟨.sl h.length 0 (l.length+1) 1,P,⟨by omega,λZ μ F w xs I hr z=>?_⟩,λk hk hd=>?_,?_,?_⟩
  rotate_left
  .rw[D,aaR (by omega),hd];simp
  .exact .inr ⟨h.length,by rw[aaU,ki hi],by rw[D,aaT rfl]⟩
  .intro id C _ hu
   have h3:=fg C
   have h4:id≠n:=λe=>hu (by rw[e];rfl)
   rw[D,aaR (by omega),aaR h4]
   exact⟨rfl,by simp[owner];omega⟩
  obtain⟨x,B,E,S,rfl,h0,J,⟨cv,ev,fv,aq,cj,cc⟩,d⟩:=args I hr
  have W:=z h.length (aaY _) (by omega)
  have bx:cat h F n=.arr 1 (aM l):=by simp only[cat];rw[aaT ar,hn]
  have fin:∀ {w':World} {y:Value} {b o:Nat},eS Z (μ.set h.length (b,o,1)) w'.heap (cat (h.set n .dead++[.arr 1 (aM (dH l i 0 [t]))]) F)/\Ext Z μ w h.length Z (μ.set h.length (b,o,1)) w'->aD Z (μ.set h.length (b,o,1)) w'.heap (.sl h.length 0 (l.length+1) 1) y ->
    ∃A μ',aD A μ' w'.heap (.sl h.length 0 (l.length+1) 1) y/\eS A μ' w'.heap (cat P F)/\Ext Z μ w h.length A μ' w'/\∀id,id<h.length∨P.length<=id->μ' id=μ id:=by
   rintro w' y b o ⟨k1,k2⟩ k3
   refine⟨Z,_,k3,k1.congr λid C=>?_,k2,λid C=>?_⟩
   .have e2:Heap.view (h.set n .dead++[.arr 1 (aM (dH l i 0 [t]))]) id=P.view id:=by
     rw[D,kY,gM ar]
     simp only[View.set,acy]
    simp only[cat,abc,acy,List.length_singleton]
    by_cases c1:id<h.length+1
    .rw[aaT c1,aaT (by omega),e2]
    .rw[aaR c1]
     by_cases c2:id<P.length
     .exact absurd (by simp only[Mu.set];rw[aaR (by omega)];exact z id (by omega) c2) C
     .rw[aaR c2]
   .simp only[Mu.set];rw[aaR (by omega)]
  have live:h.view n≠.dead:=by rw[hn];simp
  have a6:(l.map (Value.int .i64)).length=l.length:=by simp
  have b0:∀x∈l.map (Value.int .i64),x.oneCell'=true:=λx hx=>by
   obtain⟨_,_,rfl⟩:=aba.1 hx
   rfl
  have al:∀(a:Option Addr) (c:Nat),i=l.length->l.length<=c->c<l.length+1->(a=none->l.length=0)->(∀ad,a=some ad->∀j v,(l.map (Value.int .i64))[j]?=some v->w.cell? (ad.add j)=some v) ->
    Calls aa 142 #[.slice a l.length c,.int .i64 l.length,.slice (some ⟨B,E,none⟩) 1 S] w λe w'=>∃x A μ',e=.returned x/\aD A μ' w'.heap (.sl h.length 0 (l.length+1) 1) x/\eS A μ' w'.heap (cat P F)/\Ext Z μ w h.length A μ' w'/\∀id,id<h.length∨P.length<=id->μ' id=μ id:=by
   intro a c K ck c3 b1 X
   have r:=Any2.slices_Insert_int_end_grow Kx a l.length c B E 1 S (l.map (Value.int .i64)) [.int .i64 t] w (by omega) ck (by omega) (by omega) a6 rfl b1 X (T d) U
   refine Calls.mono (show Calls aa 142 _ w _ from r) ?_
   rintro e w' ⟨rfl,rfl⟩
   have hg:=hG w (l.length+1) c
   generalize grownCap w (l.length+1) c (eR.t 3)=G at hg ⊢
   generalize s:((l.map (Value.int .i64)++[Value.int .i64 t]).toArray++Builtin.zeroCells (Value.int .i64 0).cells (G-(l.length+1)))=row
   have bn:row.size=G:=by rw[<-s];simp[Builtin.zeroCells,Value.cells];omega
   have k:=Hi (l':=dH l i 0 [t]) (w':=w.drew.alloc (.cells row (eR.t 3))) (eff:=.eT n (.arr 1 (aM (dH l i 0 [t])))) hr W (iO _ _) (λj p=>BE (w:=w.drew) p) (nR (w:=w.drew)) (.inl rfl) (by rw[ki hi];omega) (λj p=>by
    rw[ki hi] at p
    have:=World.cell?_alloc_at (w:=w.drew) row (eR.t 3) w.heap.size j rfl
    refine this.trans ?_
    rw[<-s,x7 hi,K,abM (by simp;omega),abC]
    by_cases c1:j<l.length
    .rw[aaT c1,abm (by omega),Bb c1]
    .obtain rfl:j=l.length:=by omega
     rw[aaR c1,aaT rfl,abV (by omega)]
     simp) (.inr ⟨n,rfl,live⟩)
   obtain⟨A,μ',f1,f2,f3,f4⟩:=fin k (y:=.slice (some ⟨w.heap.size,0,none⟩) (l.length+1) G) (by
    have:=aD.sl (Z:=Z) (μ:=μ.set h.length (w.heap.size,0,1)) (hp:=(w.drew.alloc (.cells row (eR.t 3))).heap) h.length 0 (l.length+1) 1 w.heap.size 0 G row _ (0,0) (by simp[Mu.set]) (by omega) (nR (w:=w.drew)) (by omega)
    simpa using this)
   exact⟨_,A,μ',rfl,f1,f2,f3,f4⟩
  rcases yq h0 with ⟨e0,a,rfl⟩ | ⟨b,o0,cap,c0,e0,f0,rfl,a7,an,L,c4⟩
  .obtain rfl:l=[]:=ace.1 e0
   obtain rfl:i=0:=by simpa using hi
   exact al a 0 rfl (by simp) (by simp) (λ_=>rfl) (by simp)
  obtain⟨c,e,f,hc,hf,hs,ae⟩:=Ho hr bx a7
  rw[L] at hc
  simp only[aaV,Obj.cells.injEq] at hc
  obtain⟨rfl,rfl,rfl⟩:=hc
  rw[Nat.zero_mul,acp]
  have X:∀j v,(l.map (Value.int .i64))[j]?=some v->w.cell? ⟨b,o0+j,none⟩=some v:=λj x p=>by
   have b2:j<l.length:=by
    have:=(aaX.1 p).1
    simpa using this
   rw[Bb b2] at p
   rw[ae j b2,p]
  by_cases M:l.length+1<=cap
  .have g:∀j,j<l.length+1->(w.cell? ⟨b,o0+j,none⟩).isSome=true:=λj p=>by
    rw[jq,cellAt,L];simp;omega
   have b3:∀j,j<l.length+1->w.frozen? ⟨b,o0+j,none⟩=false:=λj p=>VC L hf (by omega)
   have Y:∀ {w':World},fo w w' b->aD Z (μ.set h.length (b,o0,1)) w'.heap (.sl h.length 0 (l.length+1) 1) (.slice (some ⟨b,o0,none⟩) (l.length+1) cap):=λ{w'} hp=>by
    obtain⟨c',Q,b4⟩:=hp.cell _ _ _ L
    have:=aD.sl (Z:=Z) (μ:=μ.set h.length (b,o0,1)) (hp:=w'.heap) h.length 0 (l.length+1) 1 b o0 cap c' _ _ (by simp[Mu.set]) M Q (by omega)
    simpa using this
   have room:∀ {w':World} {l':List Int},fo w w' b->l'.length=l.length+1->(∀j,j<l.length+1->w'.cell? ⟨b,o0+j,none⟩=some (.int .i64 (l'.getD j 0))) ->
     eS Z (μ.set h.length (b,o0,1)) w'.heap (cat (h.set n .dead++[.arr 1 (aM l')]) F)/\Ext Z μ w h.length Z (μ.set h.length (b,o0,1)) w':=λhp da cu =>
    Yf hr hn W a7 hp L hf (by omega) (λj p=>cu j (by omega))
   by_cases K:i=l.length
   .have r:=O9 Kx b o0 l.length cap B E 1 S [.int .i64 t] w (by omega) M (by omega) rfl (λj p=>by rw[abx];exact g _ (by omega)) (λj p=>by rw[abx];exact b3 _ (by omega)) (T d) U
    rw[K]
    refine Calls.mono (show Calls aa 142 _ w _ from r) ?_
    rintro e w' ⟨rfl,rfl⟩
    have hp:=fo.setCells b [.int .i64 t] (o0+l.length) w
    obtain⟨A,μ',f1,f2,f3,f4⟩:=fin (room hp (ki hi) λj p=>by
     rw[lN (λj p=>by rw[abx];exact g _ (by simp at p;omega)),x7 hi]
     by_cases c1:j<l.length
     .rw[aaR (by omega),aaT (by omega)]
      exact ae j c1
     .obtain rfl:j=l.length:=by omega
      rw[aaT (by simp),aaR (by omega),aaT K.symm]
      simp) (Y hp)
    exact⟨_,A,μ',rfl,f1,f2,f3,f4⟩
   .have cA:B≠b:=λe=>by
     subst e
     rcases hr.inj v n _ _ _ _ _ ch J a7 with q | q
     .simp only[cat] at q;rw[aaT bl,hv] at q;simp at q
     .rw[bx] at q;simp at q
    have cC:w.shape? B=some (ev,cv.size):=by simp only[World.shape?,aq]
    obtain⟨tb,cI⟩:∃tb,w.shape? b=some (tb,c0.size):=⟨_,by unfold World.shape?;rw[L]⟩
    have r:=KB Kx b o0 l.length cap i B E 1 S (l.map (Value.int .i64)) [.int .i64 t] w (by omega) (by omega) M (by omega) cA a6 rfl X g b3 (T d) b0 U _ _ _ _ cC cI (by omega) (by omega) (VC aq cj (by omega))
     (λw'=>∃A μ',aD A μ' w'.heap (.sl h.length 0 (l.length+1) 1) (.slice (some ⟨b,o0,none⟩) (l.length+1) cap)/\eS A μ' w'.heap (cat P F)/\Ext Z μ w h.length A μ' w'/\∀id,id<h.length∨P.length<=id->μ' id=μ id)
     (λR ab=>by
      have a8:fo w R b:=by rcases ab with rfl | rfl<;>first | exact .refl _ _ | exact .drew _ _
      have N:∀x,R.cell? x=w.cell? x:=λx=>by rcases ab with rfl | rfl<;>rfl
      have hp:=(((a8.trans (.drew _ _)).trans (fo.setCells b ((l.map (Value.int .i64)).drop i) (o0+(i+1)) _)).trans (fo.setCells b [.int .i64 t] (o0+i) _))
      refine fin (room hp (ki hi) λj p=>?_) (Y hp)
      have cN:∀k,k<l.length+1->((R.drew.setCells b (o0+(i+1)) ((l.map (Value.int .i64)).drop i)).cell? ⟨b,o0+k,none⟩).isSome=true:=λk hk=>isSome_setCells _ _ _ _ (λq O=>by
        show (R.cell? _).isSome=true
        rw[N,abx];simp at O;exact g _ (by omega)) _ (by show (R.cell? _).isSome=true;rw[N];exact g k hk)
      rw[lN (λq O=>by rw[abx];simp at O;exact cN _ (by omega)),x7 hi]
      by_cases c1:j=i
      .subst c1
       rw[aaT (by simp),aaR (by omega),aaT rfl]
       simp
      .rw[aaR (by simp;omega),lN (λq O=>by
        show (R.cell? _).isSome=true
        rw[N,abx];simp at O;exact g _ (by omega))]
       by_cases c2:j<i
       .rw[aaR (by omega),aaT c2]
        show R.cell? _=_
        rw[N];exact ae j (by omega)
       .rw[aaT (by simp;omega),aaR c2,aaR c1,acg,show i+(o0+j-(o0+(i+1)))=j-1 by omega,Bb (by omega)])
     (λR ab=>by
      have a8:fo w R b:=by rcases ab with rfl | rfl | rfl<;>first | exact .refl _ _ | exact .drew _ _ | exact(fo.drew _ _).trans (.drew _ _)
      have N:∀x,R.cell? x=w.cell? x:=λx=>by rcases ab with rfl | rfl | rfl<;>rfl
      have hp:=a8.trans (fo.setCells b [.int .i64 t] (o0+l.length) R)
      obtain⟨k1,k2⟩:=room (l':=l++[t]) hp (by simp) λj p=>by
       rw[lN (λq O=>by rw[N,abx];simp at O;exact g _ (by omega))]
       by_cases c1:j<l.length
       .rw[aaR (by omega),N,ae j c1]
        simp[aaP,abm c1]
       .obtain rfl:j=l.length:=by omega
        rw[aaT (by simp)]
        simp[aaP]
      obtain⟨c',Q,b4⟩:=hp.cell _ _ _ L
      have ha:=hA.2 Z (μ.set h.length (b,o0,1)) F (R.setCells b (o0+l.length) [.int .i64 t]) [.slice (some ⟨b,o0+i,none⟩) (l.length+1-i) (cap-i),.int .i64 (1:Nat)] ⟨rfl,λq O=>by
        match q,O with
        | 0,_ =>
         have:=aD.sl (Z:=Z) (μ:=μ.set h.length (b,o0,1)) (hp:=(R.setCells b (o0+l.length) [.int .i64 t]).heap) h.length i (l.length+1-i) 1 b o0 (cap-i) c' _ _ (by simp[Mu.set]) (by omega) Q (by omega)
         simpa using this
        | 1,_=>exact .val _ rfl⟩ k1 (λid b5 b7=>by
       simp at b5
       simp only[Mu.set];rw[aaR (by omega)];exact z id (by omega) b7)
      refine Calls.mono ha ?_
      rintro e w' ⟨y,A,μ',rfl,_,g2,g3,g4⟩
      refine⟨⟨y,rfl⟩,A,μ',?_,g2,k2.trans g3 (by simp) hr.lt,λid C=>?_⟩
      .exact(Y hp).mono g3.mono
      .rw[g4 id (by simp;omega)]
       simp only[Mu.set];rw[aaR (by omega)])
    refine Calls.mono (show Calls aa 142 _ w _ from r) ?_
    rintro e w' ⟨rfl,A,μ',f1,f2,f3,f4⟩
    exact⟨_,A,μ',rfl,f1,f2,f3,f4⟩
  .by_cases K:i=l.length
   .rw[K]
    refine al _ cap K an (by omega) (λq=>by simp at q) (λad b8 j x p=>?_)
    simp only[aaV] at b8
    subst b8
    rw[Addr.add_lit]
    exact X j x p
   .have r:=Any2.slices_Insert_int_grow Kx b o0 l.length cap i B E 1 S (l.map (Value.int .i64)) [.int .i64 t] w (by omega) (by omega) an (by omega) (by omega) a6 rfl X (T d) b0 U
    refine Calls.mono (show Calls aa 142 _ w _ from r) ?_
    rintro e w' ⟨rfl,rfl⟩
    have hg:=hG w (l.length+1) cap
    generalize grownCap w (l.length+1) cap (eR.t 3)=G at hg ⊢
    generalize s:(((l.map (Value.int .i64)).take i).toArray++Builtin.zeroCells (Value.int .i64 0).cells (l.length+1-i)++Builtin.zeroCells (Value.int .i64 0).cells (G-(l.length+1)))=row
    have bn:row.size=G:=by rw[<-s];simp[Builtin.zeroCells,Value.cells];omega
    have hp:fo (w.alloc (.cells row (eR.t 3))) ((((w.alloc (.cells row (eR.t 3))).drew.setCells w.heap.size i [.int .i64 t]).drew).setCells w.heap.size (i+1) ((l.map (Value.int .i64)).drop i)) w.heap.size:=
     (((fo.drew _ _).trans (fo.setCells _ _ _ _)).trans (.drew _ _)).trans (fo.setCells _ _ _ _)
    have b9:∀k,(w.alloc (.cells row (eR.t 3))).cell? ⟨w.heap.size,k,none⟩=row[k]?:=λk=>World.cell?_alloc_at (w:=w) row (eR.t 3) w.heap.size k rfl
    have bd:∀k,k<l.length+1->((w.alloc (.cells row (eR.t 3))).cell? ⟨w.heap.size,k,none⟩).isSome=true:=λk hk=>by rw[b9];simp;omega
    obtain⟨c',Q,b4⟩:=hp.cell _ _ _ (nR (w:=w))
    have ca:∀k,k<l.length+1->(((w.alloc (.cells row (eR.t 3))).drew.setCells w.heap.size i [.int .i64 t]).cell? ⟨w.heap.size,k,none⟩).isSome=true:=λk hk=>isSome_setCells _ _ _ ((w.alloc (.cells row (eR.t 3))).drew) (λq O=>bd _ (by simp at O;omega)) _ (bd k hk)
    have k:=Hi (l':=dH l i 0 [t]) (eff:=.eT n (.arr 1 (aM (dH l i 0 [t])))) hr W ((jc _ _).trans hp.same) (λj p=>(hp.old j (by omega)).trans (BE p)) Q (.inl rfl) (by rw[ki hi];omega) (λj p=>by
     rw[ki hi] at p
     rw[lN (λq O=>by simp at O;exact ca _ (by omega)),x7 hi]
     by_cases c1:i+1<=j
     .rw[aaT (by simp;omega),aaR (by omega),aaR (by omega),acg,show i+(j-(i+1))=j-1 by omega,Bb (by omega)]
     .rw[aaR (by omega)]
      show ((w.alloc (.cells row (eR.t 3))).drew.setCells w.heap.size i [.int .i64 t]).cell? _=_
      rw[lN (λq O=>by simp at O;exact bd _ (by omega))]
      by_cases c2:j=i
      .subst c2
       rw[aaT (by simp),aaR (by omega),aaT rfl]
       simp
      .rw[aaR (by simp;omega),aaT (by omega)]
       refine(b9 j).trans ?_
       rw[<-s,Array.append_assoc,abM (by simp;omega),abC,ab3,aaT (by omega),Bb (by omega)]) (.inr ⟨n,rfl,live⟩)
    obtain⟨A,μ',f1,f2,f3,f4⟩:=fin k (y:=.slice (some ⟨w.heap.size,0,none⟩) (l.length+1) G) (by
     have:=aD.sl (Z:=Z) (μ:=μ.set h.length (w.heap.size,0,1)) (hp:=((((w.alloc (.cells row (eR.t 3))).drew.setCells w.heap.size i [.int .i64 t]).drew).setCells w.heap.size (i+1) ((l.map (Value.int .i64)).drop i)).heap) h.length 0 (l.length+1) 1 w.heap.size 0 G c' _ (0,0) (by simp[Mu.set]) (by omega) Q (by omega)
     simpa using this)
    exact⟨_,A,μ',rfl,f1,f2,f3,f4⟩
end Gv
