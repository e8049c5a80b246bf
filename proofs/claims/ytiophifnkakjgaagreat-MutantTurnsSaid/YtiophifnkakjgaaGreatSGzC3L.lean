/-
  Part 12 of the proof: what the machine does and what the functions answer.
  Conditions: those that each lemma names.
-/
import Derived.Shelf.SlSortCmp.NoneTotal
import Derived.Shelf.SlicesG.Cmp
import Derived.StillTailTactics
import Derived.Test.YtiophifnkakjgaaGreatSGzC3K
set_option linter.unusedSimpArgs false
set_option linter.unusedVariables false
set_option maxRecDepth 100000
set_option maxHeartbeats 20000000
namespace Gv
open Go Go.Proofs
def mq (g:ag) (x:Item):Bool:=match g.rules[x.av]? with
 | some R=>decide (R.left=g.start) && decide (x.dB=0) && decide (x.dot=R.right.length)
 | none=>false
def Kept (H H':View):Prop:=∀ id,H id≠.dead->H' id=H id
theorem Kept.refl (H:View):Kept H H:=λ_ _=>rfl
theorem Kept.trans {H H' b:View} (h:Kept H H') (c:Kept H' b):Kept H b:=λid a=>by
 have h1:=h id a
 rw[<-h1] at a
 rw[c id a,h1]
theorem Kept.new {H:View} {b:Nat} {o:bN} (c:H b=.dead):Kept H (H.set b o):=λid a=>by
 have:id≠b:=by rintro rfl;exact a c
 simp[View.set,this]
def DK (H:View) (c:Nat) (g:ag) (p:List Int):Prop:=∃ nu sid mid n,H c=.arr 8 [[.aL (g.an.map dp),encS g.ax,.aL (g.rules.map aU),gi g.start,encI p,nu,.sl sid 0 n 1,.sl mid 0 n 1]]
theorem DK.keep {H H':View} {c:Nat} {g:ag} {p:List Int} (h:DK H c g p) (d:Kept H H'):DK H' c g p:=by
 obtain⟨e,a,b,n,h⟩:=h
 exact⟨e,a,b,n,by rw[d c (by rw[h];simp)];exact h⟩
def mh:SF:=⟨ai [af [cJ 2 0,bc 3 false],af [au 5 1,eW 6 5,ay 7 0 6,ay 8 2 7,au 9 8,ay 10 0 2,au 11 10,aY 12 3 9 11,bj 13 3 12,((some 4),.op (.alloc [(.val (.int .i64 0)),(.emp 1),(.val (.int .i64 0))])),df 3 4 13],.region false [⟨none,[ay 14 0 4,au 15 14,au 16 1,eW 17 16,ay 18 0 17,ay 19 3 18,au 20 19,aZ 21 .eql 15 20,aa 22 21]⟩,⟨(some (22,true)),[ay 23 2 2,au 24 23,aF 25 .eql 24 0]⟩,⟨none,[fe 26 22 25,aa 27 26]⟩,⟨(some (27,true)),[ay 28 1 2,au 29 28,ay 30 1 4,au 31 30,aQ 32 31,aZ 33 .eql 29 32]⟩,⟨none,[fe 34 27 33,aa 3 34]⟩],.ret],
 [.tmp 3],35⟩
theorem rq:aG Tryz.prog 113 [2]=some mh:=by kernel_rfl
def eO:SC :=
 ai [af [aZ 9 .lss 8 7],cp 9 (.exit 0),.block 1 (ai [af [aa 10 8,aa 5 10],af [aa 11 1,aa 12 0,aa 13 5,aY 14 3 12 13,bj 15 3 14,((some 16),.call (.tmp 11) [(.tmp 15)])],bf 16 (ai [af [aa 17 5,aa 4 17],.ret])]),af [aF 18 .add 8 1,aa 8 18]]
def eZ:SF:=⟨ai [af [bb 4 0],ai [af [aa 6 0,aQ 7 6,bb 8 0],cz 0 eO],af [bb 4 (-1)],.ret],
 [.tmp 4],19⟩
theorem iD:aG Tryz.prog 178 []=some eZ:=by kernel_rfl
def eL:SF:=⟨ai [af [bc 4 false],af [aa 5 0,aa 6 1,aT 7 178 [5,6],aF 8 .geq 7 0,aa 4 8],.ret],
 [.tmp 4],9⟩
theorem ib:aG Tryz.prog 112 []=some eL:=by kernel_rfl
def oE:SF:=⟨ai [af [cJ 1 0,bc 2 false],af [au 3 1,eW 4 3,ay 5 6 4,au 6 5,au 7 1,eW 8 7,ay 9 4 8,au 10 9,aQ 11 10,aY 12 1 6 11,au 13 12,((some 14),.op (.qH 113 [] [(.tmp 1)])),aT 15 112 [13,14],aa 2 15],.ret],
 [.tmp 2],16⟩
theorem sy:aG Tryz.prog 54 [1]=some oE:=by kernel_rfl
theorem Qa (c:Nat) (g:ag) (p:List Int) (x:Item) (H:View) (d:DK H c g p) (f:x.av < g.rules.length):ao Tryz.prog 113 [.agg (fk x),.aN [.ptr c 0 0] 0] H λr H'=>r=gb (mq g x)/\Kept H H':=by
 obtain⟨m,j,k,n,a⟩:=d
 have h:g.rules[x.av]?=some (g.rules[x.av]'f):=Wp f
 generalize g.rules[x.av]'f=R at h
 have hw:mq g x=(decide (R.left=g.start) && decide (x.dB=0) && decide (x.dot=R.right.length)):=by unfold mq;rw[h]
 refine ao.of mixed rq ?_
 simp(disch:=omega)only[↓wr,seval,wq,mh,fk,a,aU,encI,Ww,h]
 intro b d
 have i:c≠b:=by rintro rfl;rw[a] at d;simp at d
 simp only[Ws i]
 simp(disch:=omega)only[↓wr,seval,wq,a]
 apply aj.eq<;>intro e
 .simp(disch:=omega)only[↓wr,seval,wq]
  apply aj.eq<;>intro l
  .simp(disch:=omega)only[↓wr,seval,wq]
   refine⟨?_,?_⟩
   .rw[hw,Xc e,Xc (show x.dB=0 by omega),gb]
    congr 2
    rw[Xm]
    simp
    omega
   .rw[set_set];exact Kept.new d
  .simp(disch:=omega)only[↓wr,seval,wq]
   refine⟨?_,?_⟩
   .rw[hw,Xc e,decide_eq_false (show ¬ x.dB=0 by omega)];rfl
   .rw[set_set];exact Kept.new d
 .simp(disch:=omega)only[↓wr,seval,wq]
  refine⟨?_,?_⟩
  .rw[hw,decide_eq_false e];rfl
  .rw[set_set];exact Kept.new d
theorem NP (c:Nat) (g:ag) (p:List Int) (u:V) (l:List Item) (H:View) (A:DK H c g p) (q:aH H u 3 (l.map fk)) (B:∀ x∈l,x.av < g.rules.length) (C:l.length < 1000000) :
  ao Tryz.prog 178 [u,.fn 113 [] [.aN [.ptr c 0 0] 0]] H λr H'=>∃ k:Int,r=gi k/\-1<=k/\k < 1000000/\(0<=k↔l.any (mq g)=true)/\Kept H H':=by
 refine ao.of mixed iD ?_
 simp(disch:=omega)only[↓wr,seval,wq,eZ,q.len]
 refine bk.up l.length (λi j H'=>Kept H H'/\(l.take i).any (mq g)=false/\j 0=u/\j 1=.fn 113 [] [.aN [.ptr c 0 0] 0]/\j 7=bU l.length/\j 8=bU i) ?_ ?_
 .exact⟨.refl _,by simp,rfl,rfl,rfl,rfl⟩
 rintro i k j H' hk ⟨a,b,t0,t1,t7,t8⟩
 have s:=A.keep a
 have t:aH H' u 3 (l.map fk):=q.keep λid v=>a id (by rw[(q.live v).1];simp)
 simp(disch:=omega)only[↓wr,seval,wq,eO,t0,t1,t7,t8]
 apply aj.dec<;>intro D
 .obtain⟨m,w,hm⟩:=t.sl (by simp;omega)
  have d:l[i]?=some (l[i]'(by omega)):=Wp (by omega)
  have f:l[i]'(by omega)∈l:=WA _
  have n:l.take (i+1)=l.take i ++ [l[i]'(by omega)]:=by rw[WY,d];rfl
  generalize l[i]'(by omega)=x at d f n
  have y:(l.map fk).getD i []=[bU x.av,bU x.dot,bU x.dB]:=by simp[Wo,d,fk]
  have z:=B x f
  simp(disch:=omega)only[↓wr,seval,wq,t0,t1,t7,t8,w,hm,y]
  refine⟨by omega,by omega,?_⟩
  refine aq.bX ((Qa c g p x H' s z).mono ?_)
  rintro r E ⟨rfl,o⟩
  simp(disch:=omega)only[↓wr,seval,wq]
  apply aj.split<;>intro e
  .simp(disch:=omega)only[↓wr,seval,wq,t8]
   refine⟨(i:Int),rfl,by omega,by omega,⟨λ_=>XZ.2 ⟨x,f,e⟩,λ_=>by omega⟩,a.trans o⟩
  .simp(disch:=omega)only[↓wr,seval,wq,t8]
   exact aJ hk (by omega) ⟨a.trans o,by rw[n,List.any_append,b];simp[e],t0.trans rfl,t1,t7,rfl⟩
 .simp(disch:=omega)only[↓wr,seval,wq]
  have:i=l.length:=by omega
  subst this
  rw[X0] at b
  exact⟨-1,rfl,by omega,by omega,⟨λh=>by omega,λh=>by rw[b] at h;simp at h⟩,a⟩
theorem Iy (c:Nat) (g:ag) (p:List Int) (u:V) (l:List Item) (H:View) (b:DK H c g p) (d:aH H u 3 (l.map fk)) (e:∀ x∈l,x.av < g.rules.length) (a:l.length < 1000000) :
  ao Tryz.prog 112 [u,.fn 113 [] [.aN [.ptr c 0 0] 0]] H λr H'=>r=gb (l.any (mq g))/\Kept H H':=by
 refine ao.of mixed ib ?_
 simp(disch:=omega)only[↓wr,seval,wq,eL]
 refine aq.bX ((NP c g p u l H b d e a).mono ?_)
 rintro r i ⟨k,rfl,h1,j,f,h⟩
 simp(disch:=omega)only[↓wr,seval,wq]
 refine⟨?_,h⟩
 rw[gb]
 congr 2
 rw[Xm,<-f]
 simp
theorem RC (c:Nat) (g:ag) (f:g.cP) (p:List Int) (hp:p.length<=60) (i:V) (S:Nat->List Item) (B:Nat) (K:List (Nat × bN)) (H:View) (j:Ch H c g p i S B (p.length+1) K) (h:Good g p S) :
  ao Tryz.prog 54 [.ptr c 0 0] H λr _=>r=gb ((S p.length).any (mq g)):=by
 obtain⟨k,l,m,b,d,n⟩:=j.set (a:=p.length) (by omega)
 have e:p.length < p.length+1:=by omega
 have hr:=f.rules
 refine ao.of mixed sy ?_
 simp(disch:=omega)only[↓wr,seval,wq,oE,b,encI,d,fJ e]
 refine⟨by omega,by simp,?_⟩
 refine aq.bX ((Iy c g p (m p.length) (S p.length) H ⟨_,_,_,_,b⟩ n (λx o=>?_) (by have:=h.len f hp p.length;omega)).mono ?_)
 .obtain⟨R,q,_⟩:=h.sound _ _ o
  exact(Wy.1 q).1
 rintro r s ⟨rfl,_⟩
 simp(disch:=omega)only[↓wr,seval,wq]
theorem P8 {g:ag} (hr:bq g=true) {p:List Int} {S:Nat->List Item} (c:Good g p S) (d:BJ g p S):(S p.length).any (mq g)=lV g p:=by
 rw[Xm,AV hr,<-O3 hr d c.sound,XZ]
 constructor
 .rintro⟨x,a,hw⟩
  refine⟨x,a,?_⟩
  unfold mq at hw
  split at hw
  .rename_i R b
   simp only[WC,WH] at hw
   exact⟨R,b,hw.1.1,hw.1.2,hw.2⟩
  .simp at hw
 .rintro⟨x,a,R,b,h1,e,f⟩
  refine⟨x,a,?_⟩
  unfold mq
  rw[b]
  simp only[WC,WH]
  exact⟨⟨h1,e⟩,f⟩
def yV:SF:=⟨ai [af [cJ 2 0,bc 4 false,bb 5 0],ai [af [bj 6 4 2,aa 7 1,aT 8 52 [6,7],cW 9 8],bf 9 (ai [af [bc 4 false,bb 5 1],.ret])],af [bj 10 4 2,aa 11 1,aT 12 53 [10,11],aT 13 54 [12],aa 4 13,bb 5 0],.ret],
 [.tmp 4,.tmp 5],14⟩
theorem BP:aG Tryz.prog 19 [2]=some yV:=by kernel_rfl
theorem TJ (g:ag) (e:g.Ok) (f:g.Small) (w:List Int) (hw:aC w) (j:∀ x∈w,ba x):az Tryz.prog 19 [.agg (ak g),encI w] (y7 (j7 g w)):=by
 refine az.tree (vQ g w) (xG _) λH=>?_
 refine ao.of mixed BP ?_
 simp(disch:=omega)only[↓wr,seval,wq,yV,ak,encS]
 have b:=IB g e f w hw j
 simp only[ak,encS] at b
 refine aq.pure b ?_
 simp(disch:=omega)only[↓wr,seval,wq]
 apply aj.split<;>intro h
 .have a:=h
  simp only[gY,WC,WH] at a
  simp(disch:=omega)only[↓wr,seval,wq]
  have d:=SJ g e a.1.1 f w a.1.2 H
  simp only[ak,encS] at d
  refine aq.bX (d.mono ?_)
  rintro r H1 ⟨c,S,B,rfl,k,i,l⟩
  simp(disch:=omega)only[↓wr,seval,wq]
  refine aq.bX ((RC c g (bK a.1.1) w a.1.2 _ S B _ H1 k i).mono ?_)
  rintro r m rfl
  simp(disch:=omega)only[↓wr,seval,wq]
  rw[j7,Wv h,P8 a.1.1 i l];rfl
 .simp(disch:=omega)only[↓wr,seval,wq]
  rw[j7,h];rfl
def R4:List Int:=[37,37,32,115,32,58,32,39,97,39,32,115,32,124,32,59]
def jv:ag:=⟨[⟨⟨#[39,97,39]⟩,0,0⟩],[⟨#[115]⟩],[⟨0,[0,(-1)],0⟩,⟨0,[],(-1)⟩],0⟩
theorem UZ:cd Tryz.prog 44 [Bc R4] (rG jv):=Kq (by kernel_rfl)
section
variable {g:ag} {p:List Int} {T:Tb} {N:Nat}
end
theorem cg.kE {H:View} {u:V} {l:List Int} (h:aH H u 1 (aM l)):cg H u (encI l):=cg.own h λe he v a=>by
 obtain⟨x,_,rfl⟩:=WQ.1 he
 simp at a;subst a;exact .val _
section
variable {g r:ag} {p q:List Bool} {o:List Int}
end
def pad (h:List Int) (k:Nat):List Int:=h ++ List.replicate k (-1)
def H8 (fit:List Int->Bool) (T:Nat):Nat->List Int->List (List Int)
 | 0,h=>if fit (pad h 0)=true then [h] else []
 | k+1,h=>if fit (pad h (k+1))=true then (List.range T).flatMap λ(t:Nat)=>H8 fit T k (h ++ [(t:Int)]) else []
section
variable {fit:List Int->Bool} {T b:Nat}
theorem Gy:∀ (k:Nat) (h w:List Int),w∈H8 fit T k h->fit w=true/\∃ s,w=h ++ s/\s.length=k/\∀ x∈s,0<=x/\x < (T:Int)
 | 0,h,w,hm=>by
  rw[H8] at hm
  split at hm
  .rename_i b
   simp at hm;subst hm
   exact⟨by simpa [pad] using b,[],by simp,rfl,by simp⟩
  .simp at hm
 | k+1,h,w,hm=>by
  rw[H8] at hm
  split at hm
  .rename_i b
   rw[List.mem_flatMap] at hm
   obtain⟨t,c,hm⟩:=hm
   obtain⟨h1,s,rfl,d,e⟩:=Gy k _ w hm
   rw[XA] at c
   refine⟨h1,(t:Int) :: s,by simp,by simp[d],λx a=>?_⟩
   rcases WK.1 a with rfl | a
   .omega
   .exact e x a
  .simp at hm
end
def Cn (l:List (List Int)):V:=.aL (l.map λw=>[encI w])
def V6 (H:View) (v:V) (p:List Int):Prop:=v=encI p∨(p≠[]/\∃ n,v=.sl n 0 p.length 1/\H n=.arr 1 (aM p))
theorem qf (l:List Int) (b:l.length<=100000) (v:V) (H:View) (c:V6 H v l):ao Tryz.prog 140 [v] H λr H'=>aH H' r 1 (aM l)/\cM H H' r:=by
 rcases c with rfl | ⟨a,n,rfl,d⟩
 .exact Fx l b H
 .cases l with
  | nil=>exact absurd rfl a
  | cons p r =>
   refine ao.of mixed dD ?_
   simp only[WD] at b ⊢
   have he:bD H (.sl n 0 (r.length+1) 1)=some (aM (p :: r),[n]):=by
    rw[rv _ n 0 r.length 1 1 _ d (by simp),X1,WT (by simp)]
   simp(disch:=omega)only[↓wr,seval,wq,dz,he]
   refine⟨by simp[aE,Yg],by unfold aD;simp;omega,λm hm=>?_⟩
   simp(disch:=omega)only[↓wr,seval,wq]
   have:=aH.new (H:=H) (n:=m) (sz:=1) (es:=aM (p :: r))
   simp only[WG,WD] at this
   exact⟨by simpa using this,.new hm⟩
section
variable {P:Program} {T:Env} {H:View} {K:V->View->Prop} {w:ct (T,H,K)} {t t1 e ty:TypeId}
theorem Qb {x:Operand} {k:Nat} (he:cr P t=some e) (a:ev T x=.emp k) (hk:K (bU 0) H):iZ P (.call { callee:=.builtin .cap,args:=#[x],argTypes:=#[t] }) ty T H K w:=by
 intro n _
 refine⟨bU 0,.none,[],?_,hk⟩
 simp[sI,bR,oper,Dz,he,a]
theorem Ti {s x:Operand} {k l sz bytes:Nat} {z:List V} (he:og P t=some (sz,bytes,z)) (g:oe P t1=false) (hi:isInt P t1=true) (h:ev T s=.emp k) (i:ev T x=bU l) (j:l≠0)
  (h1:l * bytes < aD) (m:l < aD) (hk:∀ n,H n=.dead->K (.sl n 0 l sz) (H.set n (.arr sz (List.replicate l z)))) :
  iZ P (.call { callee:=.builtin .append,args:=#[s,x],argTypes:=#[t,t1] }) ty T H K w:=by
 obtain⟨e,ti,b,_,c,o,d,a,f,rfl,rfl⟩:=kg he
 intro n p
 refine⟨.sl n 0 l ti.size,.new (.arr ti.size (List.replicate l z)),[],?_,hk n p⟩
 have q:asNat (bU l)=some l:=by simp[asNat,bU]
 have key:qU P t (.emp k) (bU l) n=some (.sl n 0 l ti.size,.new (.arr ti.size (List.replicate l z)),[]):=by
  unfold qU
  rw[b,q]
  simp only[c,o,Ws j]
  rw[Wv ⟨d,a,f,h1,m⟩]
 simp[sI,bR,oper,g,hi,h,i,key]
end
def k7:SF:=⟨ai [af [b7 4 1],ai [af [aa 5 1,aF 6 .lss 5 0],bf 6 (.region false [⟨none,[((some 7),.op (.old (.makeInterface 9 (.const (.string ⟨#[99,97,110,110,111,116,32,98,101,32,110,101,103,97,116,105,118,101]⟩))) 20)),(none,.op (.old (.panic (.tmp 7)) 0))]⟩])],ai [af [aa 8 1,aa 9 0,((some 10),.op (.old (.call { callee:=.builtin .cap,args:=#[(.tmp 9)],argTypes:=#[27] }) 3)),aa 11 0,aQ 12 11,aZ 13 .sub 10 12,aZ 14 .sub 8 13,aa 1 14],af [aa 15 1,aF 16 .gtr 15 0],bf 16 (af [aa 17 0,aa 18 0,((some 19),.op (.old (.call { callee:=.builtin .cap,args:=#[(.tmp 18)],argTypes:=#[27] }) 3)),((some 20),.op (.slice 1 (.tmp 17) none (some (.tmp 19)))),aa 21 1,((some 22),.op (.old (.call { callee:=.builtin .append,args:=#[(.tmp 20),(.tmp 21)],argTypes:=#[27,3] }) 27)),aa 23 0,aQ 24 23,((some 25),.op (.slice 1 (.tmp 22) none (some (.tmp 24)))),aa 0 25])],af [aa 26 0,aa 4 26],.ret],
 [.tmp 4],27⟩
theorem qj:aG Tryz.prog 132 []=some k7:=by kernel_rfl
def jO:SC :=
 ai [af [aZ 12 .lss 11 10],cp 12 (.exit 0),.block 1 (ai [af [aY 13 1 9 11,au 14 13,aa 5 14],af [aa 15 3,aa 16 5,aQ 17 16,aZ 18 .add 15 17,aa 3 18],af [aa 19 3,aF 20 .lss 19 0],bf 20 (.region false [⟨none,[((some 21),.op (.old (.makeInterface 9 (.const (.string ⟨#[108,101,110,32,111,117,116,32,111,102,32,114,97,110,103,101]⟩))) 20)),(none,.op (.old (.panic (.tmp 21)) 0))]⟩])]),af [aF 22 .add 11 1,aa 11 22]]
def jQ:SC :=
 ai [af [aZ 28 .lss 27 26],cp 28 (.exit 2),.block 3 (ai [af [aY 29 1 25 27,au 30 29,aa 8 30],af [aa 31 6,aa 32 8,iR 33 1 8 31 32,aa 6 33]]),af [aF 34 .add 27 1,aa 27 34]]
def km:SF:=⟨ai [af [b7 2 1],af [bb 3 0],ai [af [aa 9 0,aQ 10 9,bb 11 0],cz 0 jO],af [aa 23 3,nr 24 132 [(.val (.emp 1)),(.tmp 23)],aa 6 24],ai [af [aa 25 0,aQ 26 25,bb 27 0],cz 2 jQ],af [aa 35 6,aa 2 35],.ret],
 [.tmp 2],36⟩
theorem oP:aG Tryz.prog 68 []=some km:=by kernel_rfl
theorem LX (n:Nat) (a:n<=1000000) (H:View):ao Tryz.prog 132 [.emp 1,gi n] H λr H'=>(n=0/\r=.emp 1/\H'=H)∨(0 < n/\∃ m es,H m=.dead/\r=.sl m 0 0 1/\H'=H.set m (.arr 1 es)):=by
 refine ao.of mixed qj ?_
 simp(disch:=omega)only[↓wr,seval,wq,k7]
 refine aj.dec (λh=>absurd h (by omega)) (λ_=>?_)
 simp(disch:=omega)only[↓wr,seval,wq]
 refine Qb (k:=1) (e:=3) (by kernel_rfl) (by simp(disch:=omega)only[↓wr,seval,wq]) ?_
 simp(disch:=omega)only[↓wr,seval,wq]
 apply aj.dec<;>intro h
 .simp(disch:=omega)only[↓wr,seval,wq]
  refine Qb (k:=1) (e:=3) (by kernel_rfl) (by simp(disch:=omega)only[↓wr,seval,wq]) ?_
  simp(disch:=omega)only[↓wr,seval,wq]
  first | rw[show cY 1 (.emp 1) none (some (.val (.int .i64 ((0:Nat):Int))))=some (.emp 1,.none,[]) from rfl] | rw[show cY 1 (.emp 1) none (some (.val (.int .i64 0)))=some (.emp 1,.none,[]) from rfl]
  simp(disch:=omega)only[↓wr,seval,wq]
  refine Ti (k:=1) (l:=n) (sz:=1) (bytes:=8) (z:=[gi 0]) (by kernel_rfl) (by kernel_rfl) (by kernel_rfl) (by simp(disch:=omega)only[↓wr,seval,wq]) (by simp(disch:=omega)only[↓wr,seval,wq];simp) (by omega) (by unfold aD;omega) (by unfold aD;omega) ?_
  intro m hm
  simp(disch:=omega)only[↓wr,seval,wq]
  first | rw[show cY 1 (.sl m 0 n 1) none (some (.val (.int .i64 ((0:Nat):Int))))=some (.sl m 0 0 1,.none,[]) by simp[cY,bound,asNat]] | rw[show cY 1 (.sl m 0 n 1) none (some (.val (.int .i64 0)))=some (.sl m 0 0 1,.none,[]) by simp[cY,bound,asNat]]
  simp(disch:=omega)only[↓wr,seval,wq]
  exact .inr ⟨by omega,m,_,hm,rfl,rfl⟩
 .simp(disch:=omega)only[↓wr,seval,wq]
  exact .inl (by omega)
def FQ (H:View) (u:V) (l:List Int):Prop:=aH H u 1 (aM l)∨(l=[]/\∃ m es,u=.sl m 0 0 1/\H m=.arr 1 es)
theorem Mj {bytes:Nat} {u:V} {l xs:List Int} {H:View} {K:V->View->Prop} {w:ct (H,K)} (a:FQ H u l) (d:(l.length+xs.length) * bytes < aD) (b:l.length+xs.length < aD) (j:bytes=8)
  (hk:∀ u' H',FQ H' u' (l ++ xs)->(aH H u 1 (aM l)->aH H' u' 1 (aM (l ++ xs)))->Left H H' u u'->K u' H'):nS 1 bytes u (aM xs) H K w:=by
 rcases a with a | ⟨rfl,m,es,rfl,hm⟩
 .exact iv a (by simp[Yg,aE]) (by simpa using d) (by simpa using b) λu' H' h1 f=>hk u' H' (.inl (by simpa using h1)) (λ_=>by simpa using h1) f
 .cases xs with
  | nil=>exact hk _ _ (.inr ⟨rfl,m,es,rfl,hm⟩) (λh=>by simpa using h) .refl
  | cons x xs =>
   rw[wg _ _ _ _ _ _ _ _ _ _ (by simp),hm]
   refine⟨by simp[Yg,aE],⟨by simp,rfl,by simpa using d,by simpa using b⟩,λn g=>hk _ _ (.inl (.inr ⟨n,by simp,by simp[View.set]⟩)) (λ_=>.inr ⟨n,by simp,by simp[View.set]⟩) λid c a=>?_⟩
   have e:id≠n:=by rintro rfl;exact c g
   have i:id≠m:=by rintro rfl;exact a rfl
   exact⟨by simp[View.set,e,i],by simp[owner,Ne.symm e]⟩
def gA:SC :=
 ai [af [aZ 10 .lss 9 8],cp 10 (.exit 0),.block 1 (ai [af [aY 11 1 7 9,au 12 11,aa 5 12],ai [af [aa 13 5,aF 14 .geq 13 0],bf 14 (ai [af [aa 15 0,aa 16 0,eW 17 16,ay 18 6 17,au 19 18,aa 20 5,((some 21),.op (.bS 1 1 [(.val (.int .i64 0))] [(0,(.tmp 20))])),iR 22 1 8 19 21,eW 23 15,ay 24 6 23,df 1 24 22],.exit 1])],af [aa 25 0,eW 26 25,ay 27 4 26,au 28 27,aa 29 5,((some 30),.op (.arith .sub (.val (.val (.int .i64 (-1)))) (.tmp 29))),aY 31 4 28 30,ay 32 0 31,au 33 32,aa 6 33],af [aa 34 0,aa 35 0,eW 36 35,ay 37 5 36,au 38 37,aa 39 6,((some 40),.op (.bS 1 1 [(.val (.int .i64 0))] [(0,(.tmp 39))])),iR 41 1 8 38 40,eW 42 34,ay 43 5 42,df 1 43 41],af [aa 44 0,aa 45 0,eW 46 45,ay 47 0 46,ay 48 2 47,au 49 48,aa 50 6,aY 51 3 49 50,ay 52 1 51,au 53 52,aT 54 197 [44,53]]]),af [aF 55 .add 9 1,aa 9 55]]
def ki:SF:=⟨ai [af [aa 7 1,aQ 8 7,bb 9 0],cz 0 gA],
 [],56⟩
theorem lS:aG Tryz.prog 197 []=some ki:=by kernel_rfl
def jm (g:ag) (r w:V):List V:=[.aL (g.an.map dp),.aL (g.ax.map λs=>[gs s]),.aL (g.rules.map aU),gi g.start,jc (aA g),r,w]
def Hp (g:ag) (b:Nat) (R W:List Int) (H:View):Prop:=∃ ur uw,bu H [(.sl b 0 1 7,7,[jm g ur uw]),(ur,1,aM R),(uw,1,aM W)]
theorem IF (g:ag) (hg:g.Ok) (hf:g.cP) (b:Nat):∀ (f:Nat) (l:List Int),aC l->(∀ x∈l,ba x/\(x < 0->-1 - x < g.ax.length))->Bh (aA g) f l->∀ (R W:List Int) (H:View),(R ++ eD g (aA g) f l).length<=100000->(W ++ dJ g (aA g) f l).length<=2000000 ->
  Hp g b R W H->ao Tryz.prog 197 [.ptr b 0 0,encI l] H λ_ H'=>Hp g b (R ++ eD g (aA g) f l) (W ++ dJ g (aA g) f l) H':=by
 intro f
 induction f using Nat.strongRecOn with
 | _ f ih =>
  intro l hl E hu R W H0 F G I
  refine ao.of mixed lS ?_
  unfold aC at hl
  simp(disch:=omega)only[↓wr,seval,wq,ki,encI]
  refine bk.up l.length (λi T H'=>Hp g b (R ++ eD g (aA g) f (l.take i)) (W ++ dJ g (aA g) f (l.take i)) H'/\T 0=.ptr b 0 0/\T 7=encI l/\T 8=gi l.length/\T 9=gi i) ⟨by rw[List.take_zero,tC,ql,Xe,Xe];exact I,rfl,rfl,rfl,rfl⟩ ?_
  rintro i k T H hk ⟨⟨J,K,u⟩,t0,t7,t8,t9⟩
  simp(disch:=omega)only[↓wr,seval,wq,gA,t0,t7,t8,t9,encI]
  apply aj.dec<;>intro hc
  .have q:l[i]?=some (l[i]'(by omega)):=Wp (by omega)
   have a:l[i]'(by omega)∈l:=WA _
   have c:l.take (i+1)=l.take i ++ [l[i]'(by omega)]:=by rw[WY,q];rfl
   have j:=Oo g f l (i+1)
   have d:=NX g f l (i+1)
   generalize l[i]'(by omega)=x at q a c
   obtain⟨⟨ab,ae⟩,L⟩:=E x a
   rw[c,jh] at j
   rw[c,iw] at d
   simp only[WO] at F G j d
   have M:=u.is 0 rfl (by simp)
   simp(disch:=omega)only[↓wr,seval,wq,t0,t7,t8,t9,encI,Ww,q]
   apply aj.dec<;>intro D
   .rw[lE (show 0<=x from D)] at d
    simp only[WD,WW] at d
    simp(disch:=omega)only[↓wr,seval,wq,t0,t7,t8,t9,M,jm]
    intro n s
    rw[bY]
    simp(disch:=omega)only[↓wr,seval,wq,t0,t7,t8,t9]
    refine gE ((u.at 2 (by simp)).fresh s) (by simp[aE]) (by unfold aD;simp;omega) (by unfold aD;simp;omega) ?_
    intro w H1 e _
    simp only[XO,XP] at e
    have t:=e.is 1 rfl (by simp)
    have c1:=e.head.cells
    have N:=e.head.fF
    simp(disch:=omega)only[↓wr,seval,wq,t0,t7,t8,t9,t,jm,c1,N]
    have z:=(e.at 1 (by simp)).put (es':=[jm g J w]) rfl rfl
    simp only[XO,XP] at z
    refine aJ hk (by omega) ⟨⟨J,w,?_⟩,t0,t7,t8,rfl⟩
    rw[c,jh,iw,od (show 0<=x from D),lE (show 0<=x from D),Xe]
    have O:=z.perm (.cons _ (.swap _ _ _))
    simpa [jm] using O
   .obtain⟨f,rfl⟩:∃ f',f=f'+1:=by
     cases f with
     | zero=>have:=DL hu x a;omega
     | succ f=>exact⟨f,rfl⟩
    obtain⟨Q,Y⟩:=hu x a (by omega)
    obtain⟨Z,r,hi,hr,o,S,_⟩:=wH (f:=f) Q (by push_cast at Y;exact Y)
    have A:=zf (P:=aA g) (m:=cH x) (by rw[xZ];have:=L (by omega);unfold cH;omega)
    have B:=WI hr
    have al:Z < g.rules.length:=(Wy.1 hr).1
    have C:=hg.av r B
    rw[nt (by omega),o,hi] at j
    rw[mZ (by omega),o] at d
    simp only[WD] at j
    generalize U:bE (aA g) (cH x)=p at A hi o
    simp(disch:=omega)only[↓wr,seval,wq,t0,t7,t8,t9,M,jm]
    simp(disch:=omega)only[↓wr,seval,wq,t0,t7,t8,t9,M,jm,A,bL,hi]
    intro n s
    rw[bY]
    simp(disch:=omega)only[↓wr,seval,wq,t0,t7,t8,t9]
    refine gE ((u.at 1 (by simp)).fresh s) (by simp[aE]) (by unfold aD;simp;omega) (by unfold aD;simp;omega) ?_
    intro w H1 e _
    simp only[XO,XP] at e
    have t:=e.is 1 rfl (by simp)
    have c1:=e.head.cells
    have N:=e.head.fF
    simp(disch:=omega)only[↓wr,seval,wq,t0,t7,t8,t9,t,jm,c1,N,aU,Ww,hr,encI]
    have z:=(e.at 1 (by simp)).put (es':=[jm g w K]) rfl rfl
    simp only[XO,XP] at z
    have h:=ih f (by omega) r.right C.2.2.1 (λy hy=>⟨C.2.2.2 y hy,λE=>hf.neg B hy E⟩) S (R ++ eD g (aA g) (f+1) (l.take i) ++ [(Z:Int)]) (W ++ dJ g (aA g) (f+1) (l.take i)) _
     (by simp only[WO,WD,WW];omega) (by simp only[WO];omega) ⟨w,K,by simpa using z⟩
    simp only[jm,encI] at h
    refine aq.bX (h.mono ?_)
    rintro v H2 ⟨V,X,O⟩
    simp(disch:=omega)only[↓wr,seval,wq,t0,t7,t8,t9]
    refine aJ hk (by omega) ⟨⟨V,X,?_⟩,t0,t7,t8,rfl⟩
    rw[c,jh,iw,nt (by omega),mZ (by omega),U,hi,<-hi,o,hi]
    simpa using O
  .rw[WT (by omega)] at u
   simp(disch:=omega)only[↓wr,seval,wq,t0,t7,t8,t9]
   exact⟨J,K,u⟩
def yA (H:View) (u:V) (l:List Int):Prop:=u=encI l∨∃ (m:Nat) (x:Int),l=[x]/\x < 0/\u=.sl m 0 1 1/\H m=.arr 1 [[gi x]]
theorem yA.mK {H:View} {u:V} {l:List Int} (h:yA H u l):cg H u (encI l):=by
 rcases h with rfl | ⟨m,x,rfl,_,rfl,hm⟩
 .exact cg.tree (aX l)
 .exact LJ (l:=[x]) hm rfl
theorem yA.keep {H H':View} {u:V} {l:List Int} (h:yA H u l) (hk:∀ id,H id≠.dead->H' id=H id):yA H' u l:=by
 rcases h with rfl | ⟨m,x,rfl,a,rfl,hm⟩
 .exact .inl rfl
 .exact .inr ⟨m,x,rfl,a,rfl,by rw[hk m (by rw[hm];simp)];exact hm⟩
theorem Hg (g:ag) (z:g.Ok) (A:g.cP) (b:Nat) (f:Nat) (l:List Int) (S:aC l) (t:∀ x∈l,ba x/\(x < 0->-1 - x < g.ax.length)) (hu:Bh (aA g) f l) (R W:List Int) (H:View) (c:(R ++ eD g (aA g) f l).length<=100000) (d:(W ++ dJ g (aA g) f l).length<=2000000)
  (hw:Hp g b R W H) (u:V) (hi:yA H u l):ao Tryz.prog 197 [.ptr b 0 0,u] H λ_ H'=>Hp g b (R ++ eD g (aA g) f l) (W ++ dJ g (aA g) f l) H':=by
 rcases hi with rfl | ⟨m,x,rfl,U,rfl,hm⟩
 .exact IF g z A b f l S t hu R W H c d hw
 .obtain⟨⟨X,Y⟩,B⟩:=t x (by simp)
  refine ao.of mixed lS ?_
  simp(disch:=omega)only[↓wr,seval,wq,ki]
  refine bk.up 1 (λi T H'=>((i=0/\H'=H)∨(i=1/\Hp g b (R ++ eD g (aA g) f [x]) (W ++ dJ g (aA g) f [x]) H'))/\T 0=.ptr b 0 0/\T 7=.sl m 0 1 1/\T 8=gi 1/\T 9=gi i) ⟨.inl ⟨rfl,rfl⟩,rfl,rfl,rfl,rfl⟩ ?_
  rintro i k T H1 hk ⟨Z,t0,t7,t8,t9⟩
  rcases Z with ⟨rfl,rfl⟩ | ⟨rfl,w⟩
  .obtain⟨ur,J,w⟩:=hw
   have K:=w.is 0 rfl (by simp)
   simp(disch:=omega)only[↓wr,↓reduceIte,wq,Nat.reduceEqDiff,Nat.reduceAdd,Nat.reduceLT,Nat.reduceLeDiff,Int.reduceNeg,Int.reduceToNat,reduceCtorEq,gA,t0,t7,t8,t9,hm]
   refine aj.dec (λ_=>?_) (λh=>absurd h (by decide))
   simp(disch:=omega)only[↓wr,seval,wq,t0,t7,t8,t9,hm]
   refine aj.dec (λh=>absurd h (by omega)) (λ_=>?_)
   obtain⟨f,rfl⟩:∃ f',f=f'+1:=by
    cases f with
    | zero=>have:=DL hu x (by simp);omega
    | succ f=>exact⟨f,rfl⟩
   obtain⟨C,L⟩:=hu x (by simp) (by omega)
   obtain⟨M,r,hi,hr,e,D,_⟩:=wH (f:=f) C (by push_cast at L;exact L)
   have j:=zf (P:=aA g) (m:=cH x) (by rw[xZ];have:=B (by omega);unfold cH;omega)
   have o:=WI hr
   have ab:M < g.rules.length:=(Wy.1 hr).1
   have q:=z.av r o
   rw[nt (by omega),e,hi] at c ⊢
   rw[mZ (by omega),e] at d ⊢
   simp only[WO,WD] at c d
   generalize ae:bE (aA g) (cH x)=p at j hi e
   simp(disch:=omega)only[↓wr,seval,wq,t0,t7,t8,t9,K,jm]
   simp(disch:=omega)only[↓wr,seval,wq,t0,t7,t8,t9,K,jm,j,bL,hi]
   intro n E
   rw[bY]
   simp(disch:=omega)only[↓wr,seval,wq,t0,t7,t8,t9]
   refine gE ((w.at 1 (by simp)).fresh E) (by simp[aE]) (by unfold aD;simp;omega) (by unfold aD;simp;omega) ?_
   intro N H1 s _
   simp only[XO,XP] at s
   have F:=s.is 1 rfl (by simp)
   have c1:=s.head.cells
   have k1:=s.head.fF
   simp(disch:=omega)only[↓wr,seval,wq,t0,t7,t8,t9,F,jm,c1,k1,aU,Ww,hr,encI]
   have O:=(s.at 1 (by simp)).put (es':=[jm g N J]) rfl rfl
   simp only[XO,XP] at O
   have a:=IF g z A b f r.right q.2.2.1 (λy Q=>⟨q.2.2.2 y Q,λt=>A.neg o Q t⟩) D (R ++ [(M:Int)]) W _
    (by simp only[WO,WD,WW];omega) (by simp only[WO];omega) ⟨N,J,by simpa using O⟩
   simp only[jm,encI] at a
   refine aq.bX (a.mono ?_)
   rintro v H2 ⟨G,I,o3⟩
   simp(disch:=omega)only[↓wr,seval,wq,t0,t7,t8,t9]
   exact⟨0,by omega,1,by omega,.inr ⟨rfl,G,I,by simpa using o3⟩,t0,t7,t8,rfl⟩
  .simp(disch:=omega)only[↓wr,↓reduceIte,wq,Nat.reduceEqDiff,Nat.reduceAdd,Nat.reduceLT,Nat.reduceLeDiff,Int.reduceNeg,Int.reduceToNat,reduceCtorEq,gA,t0,t7,t8,t9]
   refine aj.dec (λh=>absurd h (by decide)) (λ_=>?_)
   simp(disch:=omega)only[↓wr,seval,wq,t0,t7,t8,t9]
   exact w
def sU:SF:=⟨ai [af [cJ 3 0,((some 6),.op (.dX (.val (.val (.pointer none))))),bb 7 0],.region true [⟨none,[bj 11 4 3,bj 12 4 3,aT 13 195 [12],((some 14),.op (.build [(.emp 1),(.emp 1),(.emp 1),(.val (.int .i64 0)),(.emp 1),(.emp 1),(.emp 1)] [(0,4,(.tmp 11)),(4,1,(.tmp 13))])),((some 15),.op (.box (.tmp 14))),aa 8 15]⟩],af [aa 17 1,aa 18 8,eW 19 18,ay 20 4 19,au 21 20,aT 22 196 [17,21],aa 16 22,dO 23 0 16,dO 24 1 16,((some 9),.op (.alloc [(.val (.int .i64 0)),(.val (.int .i64 0)),(.val (.int .i64 0)),(.val (.int .i64 0))])),df 4 9 23,aa 10 24],.block 0 (ai [af [aa 26 10,cW 27 26,aa 25 27],.cond (.tmp 25) (ai [af [((some 6),.op (.dX (.val (.val (.pointer none))))),bb 7 9],.ret]) (ai [.region false [⟨none,[ay 29 2 9,au 30 29,aF 31 .gtr 30 300,aa 32 31]⟩,⟨(some (32,false)),[ay 33 3 9,au 34 33,aa 35 2,aZ 36 .gtr 34 35]⟩,⟨none,[b6 37 32 36,aa 28 37]⟩],bf 28 (ai [af [((some 6),.op (.dX (.val (.val (.pointer none))))),bb 7 13],.ret])])]),af [aa 38 8,aa 39 1,aT 40 197 [38,39]],af [aa 41 8,aa 6 41,bb 7 0],.ret],
 [.tmp 6,.tmp 7],42⟩
theorem xE:aG Tryz.prog 131 [3]=some sU:=by kernel_rfl
def DG:V:=.val (.pointer none)
def Uk (g:ag) (l:List Int) (t:Int) (r:V) (H:View):Prop :=
 ((bI (aA g) l bo).2=false/\r=.aO [DG,gi 9]) ∨
 ((bI (aA g) l bo).2=true/\(300 < (bI (aA g) l bo).1.rules∨t < (bI (aA g) l bo).1.an)/\r=.aO [DG,gi 13]) ∨
 ((bI (aA g) l bo).2=true/\¬ (300 < (bI (aA g) l bo).1.rules∨t < (bI (aA g) l bo).1.an)/\∃ b,r=.aO [.ptr b 0 0,gi 0]/\Hp g b (eD g (aA g) g.ax.length l) (dJ g (aA g) g.ax.length l) H)
theorem LL (g:ag) (A:g.Ok) (d:g.cP) (l:List Int) (L:l.length<=1000000) (z:∀ x∈l,ba x/\(x < 0->-1 - x < g.ax.length)) (t:Int) (u:V) (H:View) (hi:yA H u l) :
  ao Tryz.prog 131 [.agg (ak g),u,gi t] H (Uk g l t):=by
 have e:aC l:=by unfold aC;omega
 have z2:=d.ax
 have z3:=d.rules
 refine ao.of mixed xE ?_
 simp(disch:=omega)only[↓wr,seval,wq,sU,ak,encS]
 refine aq.pure (QX g A d).pure ?_
 simp(disch:=omega)only[↓wr,seval,wq]
 intro b B
 have f:yA (H.set b (.arr 7 [jm g (.emp 1) (.emp 1)])) u l:=hi.keep λid a=>by
  have:id≠b:=by rintro rfl;exact a B
  simp[View.set,this]
 try simp(disch:=omega)only[↓wr,seval,wq]
 have C:∀ m,zY (bE (aA g) m):=λm=>Ho z3 z2 m
 refine aq.iM (P4 (aA g) C l e λx i=>⟨(z x i).1,λh=>by rw[xZ];exact(z x i).2 h⟩) (by kernel_rfl) ⟨f.mK,cg.tree (rl _),trivial⟩ ?_
 have j:=λ(h:k8 (aA g) l)=>And.intro (Ph h) (np g g.ax.length l bo (rK h) j8)
 have p:=jM (aA g) l bo
 have F:=E9 d.right g.ax.length l
 have q:=rW (λm=>(C m).1) l bo j8
 unfold Uk
 generalize G:bI (aA g) l bo=sp at p q j ⊢
 unfold gm at q
 simp(disch:=omega)only[↓wr,seval,wq,bL]
 intro n r
 have s:=(dg r dG).1
 have w:=(dg r dG).2
 try simp(disch:=omega)only[↓wr,seval,wq,bL]
 apply aj.split<;>intro c
 .have y:=p.1 c
  simp(disch:=omega)only[↓wr,seval,wq,bL]
  apply aj.dec<;>intro D
  .simp(disch:=omega)only[↓wr,seval,wq]
   exact .inr (.inl ⟨c,.inl D,rfl⟩)
  .simp(disch:=omega)only[↓wr,seval,wq,bL]
   apply aj.dec<;>intro E
   .simp(disch:=omega)only[↓wr,seval,wq]
    exact .inr (.inl ⟨c,.inr E,rfl⟩)
   .simp(disch:=omega)only[↓wr,seval,wq,bL]
    have I:=(bu.nil (H:=H)).new B 7 [jm g (.emp 1) (.emp 1)]
    have J:=(j y).1 (by omega)
    have i:=Hg g A d b g.ax.length l e z (rK y) [] [] (((H.set b (.arr 7 [jm g (.emp 1) (.emp 1)])).set n (.arr 4 [[gi 0,gi 0,gi 0,gi 0]])).set n (.arr 4 [bL sp.1]))
     (by simp only[Xt];omega) (by simp only[Xt];omega)
     ⟨.emp 1,.emp 1,by
      rw[set_set]
      have K:=I.fresh (n:=n) (o:=.arr 4 [bL sp.1]) (by simp[View.set,s,w])
      exact((K.emp (k:=1) (sz:=1)).emp (k:=1) (sz:=1)).perm (Ug.trans (.swap _ _ _))⟩ u
     (f.keep λid a=>by
      have:id≠n:=by rintro rfl;simp[View.set,s,w] at a
      simp[View.set,this])
    simp only[Xt,jm,bL] at i
    refine aq.bX (i.mono ?_)
    intro v H1 hw
    simp(disch:=omega)only[↓wr,seval,wq]
    exact .inr (.inr ⟨c,by omega,b,rfl,hw⟩)
 .simp(disch:=omega)only[↓wr,seval,wq]
  exact .inl ⟨c,rfl⟩
def vm:SF:=⟨ai [af [bc 3 false],af [bj 4 4 1,aa 5 0,aT 6 130 [4,5],cW 7 6,aa 3 7],.ret],
 [.tmp 3],8⟩
theorem zL:aG Tryz.prog 129 []=some vm:=by kernel_rfl
def yu:SF:=⟨ai [af [cJ 2 0,b7 4 1,bb 5 0],ai [.region false [⟨none,[bj 8 4 2,aT 9 89 [8],cW 10 9,aa 11 10]⟩,⟨(some (11,false)),[aa 12 1,((some 13),.op (.qH 129 [] [(.tmp 2)])),aT 14 90 [12,13]]⟩,⟨none,[b6 15 11 14]⟩],bf 15 (ai [af [b7 4 1,bb 5 1],.ret])],af [bj 17 4 2,aa 18 1,nr 19 131 [(.tmp 17),(.tmp 18),(.val (.val (.int .i64 60)))],aa 16 19,dO 20 0 16,dO 21 1 16,aa 6 20,aa 7 21],ai [af [aa 22 7,aF 23 .neq 22 0],bf 23 (ai [af [aa 24 7,b7 4 1,aa 5 24],.ret])],af [aa 25 6,eW 26 25,ay 27 6 26,au 28 27,aa 4 28,bb 5 0],.ret],
 [.tmp 4,.tmp 5],29⟩
theorem Bx:aG Tryz.prog 67 [2]=some yu:=by kernel_rfl
theorem PJ (g:ag) (x:Int) (b:ba x):az Tryz.prog 129 [gi x,.aN (ak g) 0] (gb (!dZ g x)):=by
 refine az.val (by
  intro v a;simp at a
  rcases a with rfl | rfl
  .exact .val _
  .exact gS (cQ g)) λH=>?_
 refine ao.of mixed zL ?_
 simp(disch:=omega)only[↓wr,seval,wq,vm,ak,encS]
 refine aq.pure (Ks g x b) ?_
 simp(disch:=omega)only[↓wr,seval,wq]
theorem GN (g:ag) (s:g.Ok) (w:g.Small) (l:List Int) (y:l.length<=1000000) (t:∀ x∈l,ba x):cd Tryz.prog 67 [.agg (ak g),encI l] (LP (dK g l)):=by
 have o:aC l:=by unfold aC;omega
 refine cd.of (by
  intro v f;simp at f
  rcases f with rfl | rfl
  .exact cX _ (cQ g)
  .exact aX l) ?_
 refine ao.of mixed Bx ?_
 simp(disch:=omega)only[↓wr,seval,wq,yu,ak,encS]
 refine aq.pure (ni g s w.names) ?_
 have bad:∀ c:Heap,(bq g && l.all (dZ g))=false->du c (.aO [.emp 1,gi 1]) (LP (dK g l)):=λc e=>by
  unfold dK;rw[Ws (by rw[e];simp)];exact vx (x:=([],1)) (.emp _)
 have h:=iJ l o 129 [.aN (ak g) 0] (by intro v f;simp at f;subst f;exact gS (cQ g)) (λx=>!dZ g x) (λx n=>PJ g x (t x n)) (by kernel_rfl)
 simp only[ak,encS] at h
 simp(disch:=omega)only[↓wr,seval,wq,ak,encS]
 apply aj.split<;>intro hr
 .simp(disch:=omega)only[↓wr,seval,wq,ak,encS]
  refine aq.pure h ?_
  have i:l.any (λx=>!dZ g x) = !l.all (dZ g):=by rw[List.not_all_eq_any_not]
  rw[i]
  simp(disch:=omega)only[↓wr,seval,wq,ak,encS]
  apply aj.split<;>intro a
  .have z:=bK hr
   have d:dK g l=_:=Wv (by rw[hr,a];rfl)
   simp(disch:=omega)only[↓wr,seval,wq,ak,encS]
   have p:∀ x∈l,ba x/\(x < 0->-1 - x < g.ax.length):=λx n=>⟨t x n,λA=>by
    have:=WU.1 a x n
    unfold dZ at this
    rw[Ws (by omega)] at this
    simpa using this⟩
   have hw:=LL g s z l y p 60 (encI l) (λ_=>.dead) (.inl rfl)
   simp only[ak,encS] at hw
   refine aq.bX (hw.mono ?_)
   rintro r H1 (⟨j,rfl⟩ | ⟨j,q,rfl⟩ | ⟨j,q,b,rfl,C,D,u⟩)
   .simp(disch:=omega)only[↓wr,↓reduceIte,wq,Nat.reduceEqDiff,Nat.reduceAdd,Nat.reduceLT,Nat.reduceLeDiff,Int.reduceNeg,Int.reduceToNat,reduceCtorEq,DG]
    refine aj.ne (λ_=>?_) (λk=>absurd k (by decide))
    simp(disch:=omega)only[↓wr,seval,wq,DG]
    rw[Wv j] at d
    intro c _
    rw[d];exact vx (x:=([],9)) (.emp _)
   .simp(disch:=omega)only[↓wr,↓reduceIte,wq,Nat.reduceEqDiff,Nat.reduceAdd,Nat.reduceLT,Nat.reduceLeDiff,Int.reduceNeg,Int.reduceToNat,reduceCtorEq,DG]
    refine aj.ne (λ_=>?_) (λk=>absurd k (by decide))
    simp(disch:=omega)only[↓wr,seval,wq,DG]
    rw[Ws (by rw[j];simp),Wv q] at d
    intro c _
    rw[d];exact vx (x:=([],13)) (.emp _)
   .rw[Ws (by rw[j];simp),Ws q] at d
    have m:=u.is 0 rfl (by simp)
    simp(disch:=omega)only[↓wr,↓reduceIte,wq,Nat.reduceEqDiff,Nat.reduceAdd,Nat.reduceLT,Nat.reduceLeDiff,Int.reduceNeg,Int.reduceToNat,reduceCtorEq,m,jm]
    refine aj.ne (λk=>absurd rfl k) (λ_=>?_)
    simp(disch:=omega)only[↓wr,seval,wq,m,jm]
    intro c B
    rw[d];exact vx (x:=(_,0)) (mN (by rw[B];exact u.own 2 rfl))
  .simp(disch:=omega)only[↓wr,seval,wq,ak,encS]
   intro c _
   exact bad c (by rw[a,X8])
 .simp(disch:=omega)only[↓wr,seval,wq,ak,encS]
  intro c _
  exact bad c (by rw[hr,XQ])
abbrev Sv (l:List (List Int)):List (List V):=l.map λw=>[encI w]
theorem zQ {id off k m:Nat} (hm:m<=k):cY 1 (.sl id off k 1) none (some (gi m))=some (.sl id off m 1,.none,[]):=by
 simp[cY,bound,asNat,hm]
def L8:Value->Value->Bool
 | .int k a,.int k' b=>decide (k=k') && decide (a=b)
 | .bool a,.bool b=>a == b
 | .string a,.string b=>iX a b
 | .pointer none,.pointer none=>true
 | _,_=>false
theorem RT:∀ (a b:Value),L8 a b=true->a=b:=by
 intro a b h
 unfold L8 at h
 split at h
 .simp only[WC,WH] at h
  rw[h.1,h.2]
 .rename_i a b
  rw[show a=b by simpa using h]
 .rename_i a b
  obtain⟨a⟩:=a
  obtain⟨b⟩:=b
  simp only[iX,Xw] at h
  rw[show a=b from Array.toList_inj.1 h]
 .rfl
 .simp at h
def Ao (q:V->V->Bool):List V->List V->Bool
 | [],[]=>true
 | a :: l,b :: m=>q a b && Ao q l m
 | _,_=>false
def KE (q:V->V->Bool):List (List V)->List (List V)->Bool
 | [],[]=>true
 | a :: l,b :: m=>Ao q a b && KE q l m
 | _,_=>false
def E7:Nat->V->V->Bool
 | 0,_,_=>false
 | k+1,a,b=>match a,b with
  | .val x,.val y=>L8 x y
  | .aL x,.aL y=>KE (E7 k) x y
  | .agg x,.agg y=>Ao (E7 k) x y
  | .aO x,.aO y=>Ao (E7 k) x y
  | _,_=>false
theorem uL {q:V->V->Bool} (c:∀ a b,q a b=true->a=b):∀ (l m:List V),Ao q l m=true->l=m
 | [],[],_=>rfl
 | a :: l,b :: m,h=>by
  simp only[Ao,WC] at h
  rw[c a b h.1,uL c l m h.2]
 | [],_ :: _,h=>by simp[Ao] at h
 | _ :: _,[],h=>by simp[Ao] at h
theorem Pe {q:V->V->Bool} (c:∀ a b,q a b=true->a=b):∀ (l m:List (List V)),KE q l m=true->l=m
 | [],[],_=>rfl
 | a :: l,b :: m,h=>by
  simp only[KE,WC] at h
  rw[uL c a b h.1,Pe c l m h.2]
 | [],_ :: _,h=>by simp[KE] at h
 | _ :: _,[],h=>by simp[KE] at h
theorem HK:∀ (k:Nat) (a b:V),E7 k a b=true->a=b
 | 0,_,_,h=>by simp[E7] at h
 | k+1,a,b,h=>by
  have c:=HK k
  unfold E7 at h
  split at h
  .rw[RT _ _ h]
  .rw[Pe c _ _ h]
  .rw[uL c _ _ h]
  .rw[uL c _ _ h]
  .simp at h
def sE:Nat->V->Bool
 | 0,_=>false
 | k+1,v=>match v with
  | .val _=>true
  | .emp _=>true
  | .dM=>true
  | .aL es=>es.all λe=>e.all (sE k)
  | .agg cs=>cs.all (sE k)
  | .aO cs=>cs.all (sE k)
  | _=>false
theorem wM {q:V->Bool} {l:List V} (h:l.all q=true) {i:Nat} (hi:i < l.length):q (l.getD i .any)=true:=by
 have e:l.getD i .any=l[i]:=by simp[Wo,hi]
 rw[e]
 exact WU.1 h _ (WA _)
theorem AQ:∀ (k:Nat) (v:V),sE k v=true->Tree v
 | 0,_,h=>by simp[sE] at h
 | k+1,v,h=>by
  have a:=AQ k
  unfold sE at h
  split at h
  .exact .val _
  .exact .emp _
  .exact .dM
  .rename_i es
   refine .aL _ λi j hi b=>a _ ?_
   have e:es.getD i []=es[i]:=by simp[Wo,hi]
   have h1:=WU.1 h _ (WA hi)
   rw[e] at b ⊢
   exact wM h1 b
  .exact .agg _ λi hi=>a _ (wM h hi)
  .exact .aO _ λi hi=>a _ (wM h hi)
  .simp at h
noncomputable def vB (H:View):Nat->V->Option V
 | 0,_=>none
 | k+1,v=>match v with
  | .val x=>some (.val x)
  | .emp _=>some (.aL [])
  | .aL es=>match sE 60 (.aL es) with
   | true=>some (.aL es)
   | false=>none
  | .sl id off len _=>match H id with
   | .arr _ es=>match Nat.ble (off+len) es.length with
    | true=>(Dp (vB H k) ((es.drop off).take len)).map .aL
    | false=>none
   | _=>none
  | .agg cs=>(nI (vB H k) cs).map .agg
  | .aO cs=>(nI (vB H k) cs).map .aO
  | _=>none
theorem C4 (h:Heap):∀ (k:Nat) (v t:V),vB h.view k v=some t->Fr h v t
 | 0,v,t,a=>by simp[vB] at a
 | k+1,v,t,a=>by
  have b:=C4 h k
  simp only[vB] at a
  split at a
  .simp only[Wu] at a;subst a;exact .tree _ (.val _)
  .simp only[Wu] at a;subst a;exact .emp _
  .split at a
   .rename_i d
    simp only[Wu] at a;subst a;exact .tree _ (AQ _ _ d)
   .simp at a
  .rename_i id off len esz
   split at a
   .rename_i z es hH
    split at a
    .rename_i hle
     have hle:=Nat.le_of_ble_eq_true hle
     simp only[WB] at a
     obtain⟨es',he,rfl⟩:=a
     obtain⟨g1,g2⟩:=Dk _ _ he
     have hlen:es'.length=len:=by rw[g1];simp;omega
     have e:∀ i,i < len->((es.drop off).take len).getD i []=es.getD (off+i) []:=λi hi=>by
      simp[Wo,XI,hi]
     have g3:∀ i,i < len->nI (vB h.view k) (es.getD (off+i) [])=some (es'.getD i []):=λi hi=>by
      rw[<-e i hi];exact g2 i (by rw[<-g1,hlen];exact hi)
     exact .sl id off len esz z es es' hH hle hlen (λi hi=>(iA _ _ (g3 i hi)).1) (λi j hi f=>b _ _ ((iA _ _ (g3 i hi)).2 j (by rw[<-(iA _ _ (g3 i hi)).1];exact f)))
    .simp at a
   .simp at a
  .simp only[WB] at a
   obtain⟨l,c,rfl⟩:=a
   obtain⟨g1,g2⟩:=iA _ _ c
   exact .agg _ _ g1 (λi hi=>b _ _ (g2 i hi))
  .simp only[WB] at a
   obtain⟨l,c,rfl⟩:=a
   obtain⟨g1,g2⟩:=iA _ _ c
   exact .aO _ _ g1 (λi hi=>b _ _ (g2 i hi))
  .simp at a
theorem az.seen {P:Program} {f:FuncId} {vs g:List V} {t:V} (p:az P f g t) (q:∀ i,i < vs.length->Tree (vs.getD i .any)) (r:g.length=vs.length) (k:∀ i,i < vs.length->Fr [] (vs.getD i .any) (g.getD i .any)):az P f vs t:=by
 intro Z μ w xs a n
 have l:dT Z (λ_=>none) w.heap (cat [] λ_=>.dead):=by
  rw[C2]
  exact⟨λ_=>trivial,λi j b o s B C _ h=>by simp at h,λid b o s h=>by simp at h,n,λid b o s h=>by simp at h⟩
 have c:∀ b,¬ jr (λ_=>none) b:=λb ⟨_,_,_,h⟩=>by simp at h
 have m:fO (λb=>Z b∨jr (λ_=>none) b) μ w.heap g xs:=⟨by rw[r,a.1],λi hi=>CQ l (k i (by omega)) (vV (a.2 i (by omega)) (q i (by omega)))⟩
 refine(p _ μ w xs m (λb d=>d.elim (n b) (λh=>absurd h (c b)))).mono ?_
 rintro e w' ⟨x,u,rfl,v,y,h1,z,A⟩
 exact⟨x,u,rfl,v,y,λb d=>h1 b (.inl d),λb d=>(z b d).elim (λh=>h.elim .inl (λh=>absurd h (c b))) .inr,A⟩
abbrev C6:=FuncId × List V × V × Bool
def C6.Ok (P:Program) (x:C6):Prop:=dw P x.1=true/\if x.2.2.2=true then az P x.1 x.2.1 x.2.2.1 else (cd P x.1 x.2.1 x.2.2.1∨(az P x.1 x.2.1 x.2.2.1/\x8 x.2.2.1))
noncomputable def Si (g:FuncId) (vs:List V) (H:View) (x:C6):Bool:=Nat.beq x.1 g && (match x.2.2.2 with
 | true=>vs.all (sE 60) && (match nI (vB (λ_=>.dead) 60) vs with
  | some ts=>Ao (E7 60) ts x.2.1
  | none=>false)
 | false=>match nI (vB H 60) vs with
  | some ts=>Ao (E7 60) ts x.2.1
  | none=>false)
noncomputable def LS (l:List C6):xF:=λg vs H=>(l.find? (Si g vs H)).map λx=>x.2.2.1
theorem IM {P:Program} {l:List C6} (o:∀ x∈l,x.Ok P):sn P (LS l):=by
 intro g vs H t h
 unfold LS at h
 simp only[WB] at h
 obtain⟨⟨f,q,r,b⟩,n,rfl⟩:=h
 obtain⟨h1,c⟩:=o _ (List.mem_of_find?_eq_some n)
 have a:=List.find?_some n
 simp only[Si,WC] at a
 obtain⟨k,a⟩:=a
 have k:=Ym k
 simp only at k h1 c a
 subst k
 refine⟨h1,?_⟩
 rintro h rfl
 cases b with
 | true =>
  simp only[WC] at a
  obtain⟨m,d⟩:=a
  split at d
  .rename_i us e
   obtain⟨g1,g2⟩:=iA _ _ e
   have:=uL (HK 60) _ _ d
   subst this
   simp only[if_true] at c
   exact bC.gn (c.seen (λi hi=>AQ _ _ (wM m hi)) g1 λi hi=>C4 [] 60 _ _ (g2 i hi)) h
  .simp at d
 | false =>
  simp only at a
  split at a
  .rename_i us e
   obtain⟨g1,g2⟩:=iA _ _ e
   have:=uL (HK 60) _ _ a
   subst this
   have j:=λi hi=>C4 h 60 _ _ (g2 i hi)
   simp only[WR,if_false] at c
   rcases c with c | ⟨c,p⟩
   .exact bC.uq c g1 j
   .exact bC.borrow c p g1 j
  .simp at a
def tD (x:Int):Bool:=decide (-9223372036854775808<=x) && decide (x<=9223372036854775807)
theorem po {x:Int} (h:tD x=true):ba x:=by
 unfold tD at h
 simp only[WC,WH] at h
 exact h
def okB (g:ag):Bool:=decide (g.an.length<=900) && decide (g.ax.length<=100) && decide (g.rules.length<=900) && tD g.start && g.an.all (λt=>tD t.level && tD t.assoc) && g.rules.all λr=>tD r.left && tD r.prec && decide (r.right.length<=900) && r.right.all tD
theorem Uh {g:ag} (h:okB g=true):g.Ok/\g.Small:=by
 unfold okB at h
 simp only[WC,WH,WU] at h
 obtain⟨⟨⟨⟨⟨h1,f⟩,i⟩,c⟩,a⟩,d⟩:=h
 refine⟨⟨by unfold aC;omega,by unfold aC;omega,by unfold aC;omega,po c,λt b=>⟨po (a t b).1,po (a t b).2⟩,λr hr=>?_⟩,⟨by omega⟩⟩
 have:=d r hr
 exact⟨po this.1.1.1,po this.1.1.2,by unfold aC;have:=this.1.2;omega,λx e=>po (this.2 x e)⟩
theorem Ef:jv.Ok/\jv.Small:=Uh (by kernel_rfl)
theorem Sn {cs:List Value} (h:cs.length=2):cs=[cs.getD 0 undef,cs.getD 1 undef]:=by
 match cs,h with
 | [a,b],_=>rfl
structure fL where
 sym:Int
 to:Int
 deriving DecidableEq
def oJ (x:fL):List V:=[gi x.sym,gi x.to]
structure aK where
 av:Int
 dot:Int
 deriving DecidableEq
def fi (x:aK):List V:=[gi x.av,gi x.dot]
def bM (l:List aK):List (List V):=l.map fi
def dh (a b:aK):Bool:=decide (a.av < b.av) || (decide (a.av=b.av) && decide (a.dot < b.dot))
def mz:List aK->aK->List aK
 | [],x=>[x]
 | y :: l,x=>if dh y x=true then y :: mz l x else if y=x then y :: l else x :: y :: l
theorem E4 (x y:aK):gp Tryz.prog 9998 #[.int .i64 x.av,.int .i64 x.dot] #[.int .i64 y.av,.int .i64 y.dot]
  [{ name:= "Rule",type:=3,offset:=0,embedded:=false,tag:= "",pkgPath:= "",byteOffset:=0 },{ name:= "Dot",type:=3,offset:=1,embedded:=false,tag:= "",pkgPath:= "",byteOffset:=8 }] ((x.av == y.av) && ((x.dot == y.dot) && true)) :=
 .int _ _ _ .i64 _ _ (by decide) Tryz.underlying3 rfl rfl (.int _ _ _ .i64 _ _ (by decide) Tryz.underlying3 rfl rfl .nil)
theorem Pk (x y:aK):((x.av == y.av) && ((x.dot == y.dot) && true))=decide (x=y):=by
 cases x;cases y;rw[Xm];simp
theorem ze {sz id off k m:Nat} (hm:m<=k):cY sz (.sl id off k sz) (some (gi m)) none=some (.sl id (off+m) (k - m) sz,.none,[]):=by
 simp[cY,bound,asNat,hm]
theorem HJ {sz id off k m:Nat} (hm:m<=k):cY sz (.sl id off k sz) none (some (gi m))=some (.sl id off m sz,.none,[]):=by
 simp[cY,bound,asNat,hm]
def bW (g:ag) (r:Int):List Int:=if r = -1 then [-1 - g.start] else (bT g r).right
def bJ (g:ag) (x:aK):Int × Bool:=if x.dot=(bW g x.av).length then (0,false) else ((bW g x.av).getD x.dot.toNat 0,true)
theorem gD {a b:aK} : dh a b=true↔a.av < b.av∨a.av=b.av/\a.dot < b.dot:=by
 simp[dh]
theorem nM {a b c:aK} (h:dh a b=true) (k:dh b c=true):dh a c=true:=by
 rw[gD] at h k ⊢;omega
theorem nP {a:aK} : dh a a=false:=by
 cases h:dh a a with
 | false=>rfl
 | true=>rw[gD] at h;omega
theorem Jt {a b:aK} (h:dh a b=true):dh b a=false:=by
 cases k:dh b a with
 | false=>rfl
 | true=>have:=nM h k;rw[nP] at this;exact absurd this (by simp)
theorem vE {a b:aK} (h:dh a b=false) (c:¬ a=b):dh b a=true:=by
 rw[gD]
 have h1:¬ dh a b=true:=by simp[h]
 rw[gD] at h1
 obtain⟨d,ad⟩:=a
 obtain⟨e,f⟩:=b
 simp only[aK.mk.injEq] at c
 simp only at h1 ⊢
 omega
abbrev cR (l:List aK):Prop:=l.Pairwise λa b=>dh a b=true
theorem sR:∀ {l:List aK} {x y:aK},y∈mz l x↔y=x∨y∈l
 | [],x,y=>by simp[mz]
 | z :: l,x,y=>by
  rw[mz]
  split
  .simp only[WK,sR (l:=l)]
   constructor
   .rintro (h | h | h) <;> simp[h]
   .rintro (h | h | h) <;> simp[h]
  .split
   .rename_i h;subst h;simp
   .simp
theorem wj:∀ {l:List aK} {x:aK},cR l->cR (mz l x)
 | [],x,_=>by simp[mz,cR]
 | z :: l,x,h=>by
  rw[cR,XX] at h
  rw[mz]
  split
  .rename_i c
   rw[cR,XX]
   refine⟨λy a=>?_,wj h.2⟩
   rcases sR.1 a with rfl | a
   .exact c
   .exact h.1 y a
  .rename_i c
   split
   .exact XX.2 h
   .rename_i d
    have b:=vE (by simpa using c) d
    rw[cR,XX]
    refine⟨λy a=>?_,XX.2 h⟩
    rcases WK.1 a with rfl | a
    .exact b
    .exact nM b (h.1 y a)
theorem yy:∀ {a b:List aK},cR a->cR b->(∀ x,x∈a↔x∈b)->a=b
 | [],[],_,_,_=>rfl
 | [],y :: b,_,_,h=>by have:=(h y).2 (by simp);simp at this
 | x :: a,[],_,_,h=>by have:=(h x).1 (by simp);simp at this
 | x :: a,y :: b,d,e,h=>by
  rw[cR,XX] at d e
  have f:x=y:=by
   have h1:=(h x).1 (by simp)
   have c:=(h y).2 (by simp)
   rcases WK.1 h1 with h1 | h1
   .exact h1
   .rcases WK.1 c with c | c
    .exact c.symm
    .have:=nM (d.1 y c) (e.1 x h1)
     rw[nP] at this;exact absurd this (by simp)
  subst f
  congr 1
  refine yy d.2 e.2 λz=>?_
  have g:=h z
  simp only[WK] at g
  constructor
  .intro hm
   rcases g.1 (.inr hm) with rfl | h
   .have:=d.1 z hm;rw[nP] at this;exact absurd this (by simp)
   .exact h
  .intro hm
   rcases g.2 (.inr hm) with rfl | h
   .have:=e.1 z hm;rw[nP] at this;exact absurd this (by simp)
   .exact h
theorem HD:∀ (l:List Int) (a n:Int),l.Pairwise (· < ·)->(∀ x∈l,a<=x/\x < a+n)->0<=n->(l.length:Int)<=n
 | [],a,n,_,_,b=>by simpa using b
 | x :: l,a,n,hp,hm,b=>by
  rw[XX] at hp
  have h1:=hm x (by simp)
  have:=HD l (x+1) (a+n - (x+1)) hp.2 (λy c=>by have:=hp.1 y c;have:=hm y (by simp[c]);omega) (by omega)
  simp only[WD];omega
def c7 (g:ag) (x:aK):Prop:=(-1<=x.av/\x.av < (g.rules.length:Int))/\0<=x.dot/\x.dot<=(bW g x.av).length
theorem fg {g:ag} (a:g.cP) {r:Int} (h : -1<=r/\r < (g.rules.length:Int)):(bW g r).length<=6:=by
 unfold bW
 split
 .simp
 .have b:g.rules[r.toNat]?=some (bT g r):=by unfold bT;exact getD_some (by omega)
  exact a.right _ (WI b)
theorem Hw {g:ag} (f:g.cP) {l:List aK} (i:cR l) (h:∀ x∈l,c7 g x):l.length<=287:=by
 have d:∀ x∈l,0<=x.dot/\x.dot<=6:=λx c=>by
  have h1:=h x c
  have:=fg f h1.1
  exact⟨h1.2.1,by have:=h1.2.2;omega⟩
 have h1:(l.map λx=>(x.av+1) * 7+x.dot).Pairwise (· < ·):=by
  rw[List.pairwise_map]
  refine List.Pairwise.imp_of_mem ?_ i
  intro a b j k e
  rw[gD] at e
  have:=d a j;have:=d b k
  omega
 have:=HD _ 0 287 h1 (λy m=>by
  obtain⟨x,c,rfl⟩:=WQ.1 m
  have n:=(h x c).1
  have:=d x c;have:=f.rules
  omega) (by omega)
 simp at this
 omega
inductive qB (g:ag) (l:List aK):aK->Prop
 | base {x:aK} : x∈l->qB g l x
 | step {x:aK} {s:Int} {k:Nat} {R:aW} : qB g l x->bJ g x=(s,true)->s < 0->g.rules[k]?=some R->R.left = -1 - s->qB g l ⟨k,0⟩
theorem qB.has {g:ag} {l:List aK} (a:∀ x∈l,c7 g x) {x:aK} (h:qB g l x):c7 g x:=by
 induction h with
 | base h=>exact a _ h
 | step _ _ _ hk _ _ =>
  have:=(Wy.1 hk).1
  exact⟨⟨by simp only;omega,by simp only;omega⟩,by simp only;omega,by simp only;omega⟩
def Gf (g:ag):List aK:=(List.range (g.rules.length+1)).flatMap λ(r:Nat)=>(List.range 7).map λ(d:Nat)=>(⟨(r:Int) - 1,(d:Int)⟩:aK)
theorem Ma {g:ag} (a:g.cP) {x:aK} (h:c7 g x):x∈Gf g:=by
 have:=fg a h.1
 obtain⟨⟨h1,b⟩,c,e⟩:=h
 simp only[Gf,List.mem_flatMap,WQ,XA]
 refine⟨(x.av+1).toNat,by omega,x.dot.toNat,by omega,?_⟩
 obtain⟨r,d⟩:=x
 simp only at h1 b c e this
 simp only[aK.mk.injEq];omega
theorem rT:∀ (l a:List aK),cR a->cR (l.foldl mz a)/\∀ x,x∈l.foldl mz a↔x∈a∨x∈l
 | [],a,h=>⟨h,λx=>by simp⟩
 | y :: l,a,h=>by
  obtain⟨h1,b⟩:=rT l (mz a y) (wj h)
  refine⟨h1,λx=>?_⟩
  rw[Xz,b,sR,WK]
  constructor
  .rintro ((h | h) | h) <;> simp[h]
  .rintro (h | h | h) <;> simp[h]
open Classical in
noncomputable def c9 (g:ag) (l:List aK):List aK:=((Gf g).filter λx=>decide (qB g l x)).foldl mz []
theorem vM (g:ag) (l:List aK):cR (c9 g l):=(rT _ [] .nil).1
theorem gO {g:ag} (a:g.cP) {l:List aK} (b:∀ x∈l,c7 g x) {x:aK} : x∈c9 g l↔qB g l x:=by
 classical
 rw[c9,(rT _ [] .nil).2]
 simp only[List.not_mem_nil,false_or,XF,WH]
 exact⟨λh=>h.2,λh=>⟨Ma a (h.has b),h⟩⟩
theorem Gn {g:ag} (b:g.cP) {l o:List aK} (c:∀ x∈l,c7 g x) (a:cR o) (h1:∀ x∈o,qB g l x) (d:∀ x∈l,x∈o)
  (e:∀ x∈o,∀ (s:Int) (k:Nat) (R:aW),bJ g x=(s,true)->s < 0->g.rules[k]?=some R->R.left = -1 - s->(⟨k,0⟩:aK)∈o):c9 g l=o:=by
 refine yy (vM g l) a λx=>?_
 rw[gO b c]
 refine⟨λh=>?_,h1 x⟩
 induction h with
 | base h=>exact d _ h
 | step _ f a hk i j=>exact e _ j _ _ _ f a hk i
def bA (g:ag) (l:List aK) (s:Int):List aK:=(l.filter λx=>decide (bJ g x=(s,true))).map λx=>⟨x.av,x.dot+1⟩
theorem sd {g:ag} {l:List aK} {s:Int} {y:aK} : y∈bA g l s↔∃ x∈l,bJ g x=(s,true)/\y=⟨x.av,x.dot+1⟩:=by
 simp only[bA,WQ,XF,WH]
 constructor
 .rintro⟨x,⟨h1,a⟩,rfl⟩;exact⟨x,h1,a,rfl⟩
 .rintro⟨x,h1,a,rfl⟩;exact⟨x,⟨h1,a⟩,rfl⟩
theorem Fs {g:ag} {l:List aK} (s:Int) (h:cR l):cR (bA g l s):=by
 rw[cR,bA,List.pairwise_map]
 refine(h.filter _).imp ?_
 intro a b c
 rw[gD] at c ⊢
 simp only;omega
theorem tO {g:ag} {x:aK} {s:Int} (h:bJ g x=(s,true)):x.dot≠(bW g x.av).length/\(bW g x.av).getD x.dot.toNat 0=s:=by
 unfold bJ at h
 split at h
 .simp at h
 .rename_i a;exact⟨a,by simpa using h⟩
theorem Ij {g:ag} {l:List aK} {s:Int} (a:∀ x∈l,c7 g x):∀ y∈bA g l s,c7 g y:=by
 intro y b
 obtain⟨x,c,d,rfl⟩:=sd.1 b
 have h1:=a x c
 have e:=(tO d).1
 exact⟨h1.1,by simp only;have:=h1.2;omega,by simp only;have:=h1.2;omega⟩
theorem A5 {g:ag} {l:List aK} {s:Int} : (bA g l s).length<=l.length:=by
 rw[bA,WG];exact List.length_filter_le _ _
structure aR where
 bt:List aK
 cK:List fL
 deriving DecidableEq
abbrev bG:aR:=⟨[],[]⟩
def bg (g:ag) (i:Nat):Int:=if i < g.an.length then i else -1 - ((i:Int) - g.an.length)
def findD:List aR->List aK->Int
 | [],_=>-1
 | s :: l,k=>if s.bt=k then 0 else if findD l k < 0 then -1 else findD l k+1
theorem wL:∀ (l:List aR) (k:List aK),-1<=findD l k
 | [],_=>by simp[findD]
 | s :: l,k=>by
  have:=wL l k
  rw[findD];split
  .omega
  .split <;> omega
theorem AF:∀ (l:List aR) (k:List aK),findD l k < l.length
 | [],_=>by simp[findD]
 | s :: l,k=>by
  have:=AF l k
  rw[findD];simp only[WD];split
  .omega
  .split <;> omega
theorem HA:∀ (l:List aR) (k:List aK) (i:Nat),findD l k=i->∃ s,l[i]?=some s/\s.bt=k
 | [],_,i,h=>by simp[findD] at h
 | s :: l,k,i,h=>by
  rw[findD] at h
  split at h
  .rename_i e
   have:i=0:=by omega
   subst this
   exact⟨s,rfl,e⟩
  .split at h
   .omega
   .obtain⟨j,rfl⟩:∃ j,i=j+1:=⟨i - 1,by omega⟩
    obtain⟨t,h1,a⟩:=HA l k j (by omega)
    exact⟨t,by simpa using h1,a⟩
theorem Hy:∀ (l:List aR) (k:List aK),findD l k < 0->∀ s∈l,s.bt≠k
 | [],_,_,s,a=>by simp at a
 | t :: l,k,h,s,a=>by
  rw[findD] at h
  split at h
  .omega
  .rename_i b
   have c:findD l k < 0:=by
    split at h
    .assumption
    .omega
   rcases WK.1 a with rfl | a
   .exact b
   .exact Hy l k c s a
def dL (g:ag) (l:List aK) (at_:Nat) (out:List aR) (i:Nat):List aR :=
 if bA g l (bg g i)=[] then out else
 if findD out (bA g l (bg g i)) < 0 then (out ++ [(⟨bA g l (bg g i),[]⟩:aR)]).modify at_ λs=>(⟨s.bt,s.cK ++ [⟨bg g i,out.length⟩]⟩:aR)
 else out.modify at_ λs=>(⟨s.bt,s.cK ++ [⟨bg g i,findD out (bA g l (bg g i))⟩]⟩:aR)
noncomputable def vZ (g:ag) (at_:Nat) (out:List aR) (n:Nat):List aR:=(List.range n).foldl (dL g (c9 g (out.getD at_ bG).bt) at_) out
noncomputable def fZ (g:ag):Nat->Nat->List aR->List aR × Int
 | 0,_,out=>(out,0)
 | f+1,at_,out=>if at_ < out.length then
   (if 300 < (vZ g at_ out (g.an.length+g.ax.length)).length then ([],5) else fZ g f (at_+1) (vZ g at_ out (g.an.length+g.ax.length)))
  else (out,0)
def eE:List aR:=[⟨[⟨-1,0⟩],[]⟩]
abbrev BV:=BitVec 32
def kO:List fL->Int->Int
 | [],_=>-1
 | e :: l,s=>if e.sym=s then e.to else kO l s
def l8 (a:List aR):Int->List Int->Int × Bool
 | at_,[]=>(at_,true)
 | at_,s :: l=>if 0<=kO (a.getD at_.toNat bG).cK s/\kO (a.getD at_.toNat bG).cK s < a.length then l8 a (kO (a.getD at_.toNat bG).cK s) l else (0,false)
def rb (a:List aR) (at_:Int) (l:List Int):Int × Bool:=if at_ < 0∨(a.length:Int)<=at_ then (0,false) else l8 a at_ l
abbrev Sets:=List (List BV)
theorem E2 {α:Type} (l:List α) (i j:Nat) (x d:α):(l.set i x).getD j d=if i=j/\i < l.length then x else l.getD j d:=by
 simp only[Wo,Xs]
 by_cases e:i=j
 .subst e
  by_cases h:i < l.length
  .simp[h]
  .simp[h]
 .simp[e]
def jG (g:ag) (x:aK):List Int:=if 0<=x.av then (bT g x.av).right.drop (x.dot+1).toNat else []
section
variable {g:ag} {null:List Bool} {a:List aR} {ls:List (List aK)}
end
theorem rm {g:ag} (a:g.cP) : -100<=g.start/\g.start<=100:=by
 have:=a.lX;have:=a.start;have:=a.ax;omega
theorem CG {l:List aK} {i:Nat} {y:aK} (h:l[i]?=some y):(bM l).getD i []=[gi y.av,gi y.dot]:=by simp[bM,Wo,h,fi]
theorem bF (l:List aK):(bM l).length=l.length:=by simp[bM]
theorem Bv {g:ag} {x:aK} {s:Int} {b:Bool} (d:g.cP) (f:c7 g x) (h:bJ g x=(s,b)) : -1000<=s/\s<=1000:=by
 have a:∀ s∈bW g x.av,-1000<=s/\s<=1000:=by
  intro s c
  unfold bW at c
  split at c
  .simp at c;subst c;have:=rm d;omega
  .have i:g.rules[x.av.toNat]?=some (bT g x.av):=by unfold bT;exact getD_some (by have:=f.1;omega)
   have h1:=d.sym _ (WI i) s c
   have:=d.an;have:=d.ax
   unfold dZ at h1
   split at h1 <;> simp at h1 <;> omega
 unfold bJ at h
 split at h
 .simp at h;omega
 .rename_i j
  simp only[Wx] at h
  have e:x.dot.toNat < (bW g x.av).length:=by have:=f.2;omega
  rw[<-h.1]
  exact a _ (WI (getD_some e))
theorem L7 {g:ag} (a:g.cP) {i:Nat} (hi:i < g.an.length+g.ax.length) : -100<=bg g i/\bg g i<=100:=by
 have:=a.an;have:=a.ax
 unfold bg;split <;> omega
theorem SA (l:List aK):Tree (.aL (bM l)):=eK _ _ λx _ v a=>by simp[fi] at a;rcases a with rfl | rfl <;> exact .val _
structure UO where
 av:Int
 set:BV
 deriving DecidableEq
noncomputable def cn (g:ag):List aR × Int:=if isRed g=true then fZ g 302 0 eE else ([],1)
structure dN (g:ag) (at_ i:Nat) (out:List aR):Prop where
 bt:∀ s∈out,cR s.bt/\s.bt≠[]/\∀ x∈s.bt,c7 g x
 cK:∀ j s,out[j]?=some s->s.cK.length<=40/\(j=at_->s.cK.length<=i)/\(at_ < j->s.cK=[])
 to:∀ s∈out,∀ e∈s.cK,0<=e.to/\e.to < out.length
 sym:∀ s∈out,∀ e∈s.cK,-1000<=e.sym/\e.sym<=1000
theorem mem_modify {α:Type} {l:List α} {i:Nat} {f:α->α} {y:α} (h:y∈l.modify i f):y∈l∨∃ x,l[i]?=some x/\y=f x:=by
 obtain⟨j,a,e⟩:=Ys.1 h
 simp only[List.length_modify] at a
 rw[List.getElem_modify] at e
 split at e
 .rename_i b
  subst b
  exact .inr ⟨l[i],Wp a,e.symm⟩
 .exact .inl (e ▸ WA a)
theorem OF (g:ag) (l:List aK) (at_:Nat) (out:List aR) (i:Nat):out.length<=(dL g l at_ out i).length/\(dL g l at_ out i).length<=out.length+1:=by
 unfold dL
 split
 .omega
 .split
  .simp
  .simp
theorem dN.put {g:ag} {at_ i:Nat} {out:List aR} (h:dN g at_ i out) (hi:i < 40) {s:Int} (c : -1000<=s/\s<=1000) {to:Int} (d:0<=to/\to < out.length):dN g at_ (i+1) (out.modify at_ λx=>(⟨x.bt,x.cK ++ [⟨s,to⟩]⟩:aR)):=by
 refine⟨λy a=>?_,λj y a=>?_,λy a e he=>?_,λy a e he=>?_⟩
 rotate_right
 .rcases mem_modify a with a | ⟨x,b,rfl⟩
  .exact h.sym y a e he
  .rcases WN.1 he with he | he
   .exact h.sym x (WI b) e he
   .simp at he;subst he;exact c
 .rcases mem_modify a with a | ⟨x,b,rfl⟩
  .exact h.bt y a
  .exact h.bt x (WI b)
 .rw[List.getElem?_modify] at a
  cases b:out[j]? with
  | none=>rw[b] at a;simp at a
  | some x =>
   rw[b] at a
   have h1:=h.cK j x b
   by_cases e:at_=j
   .subst e
    simp at a
    subst a
    have:=h1.2.1 rfl
    refine⟨by simp;omega,λ_=>by simp;omega,λh=>by omega⟩
   .simp[e] at a
    subst a
    exact⟨h1.1,λh=>absurd h.symm e,h1.2.2⟩
 .rw[List.length_modify]
  rcases mem_modify a with a | ⟨x,b,rfl⟩
  .exact h.to y a e he
  .rcases WN.1 he with he | he
   .exact h.to x (WI b) e he
   .simp at he;subst he;exact d
theorem dN.up {g:ag} {at_ i:Nat} {out:List aR} (h:dN g at_ i out):dN g at_ (i+1) out :=
 ⟨h.bt,λj s a=>by have:=h.cK j s a;exact⟨this.1,λe=>by have:=this.2.1 e;omega,this.2.2⟩,h.to,h.sym⟩
theorem dN.add {g:ag} {at_ i:Nat} {out:List aR} (h:dN g at_ i out) {k:List aK} (hk:cR k/\k≠[]/\∀ x∈k,c7 g x):dN g at_ i (out ++ [⟨k,[]⟩]):=by
 refine⟨λy a=>?_,λj y a=>?_,λy a e he=>?_,λy a e he=>?_⟩
 rotate_right
 .rcases WN.1 a with a | a
  .exact h.sym y a e he
  .simp at a;subst a;simp at he
 .rcases WN.1 a with a | a
  .exact h.bt y a
  .simp at a;subst a;exact hk
 .rcases W5 j out.length with b | b
  .rw[WS b] at a;exact h.cK j y a
  .rw[Xi b] at a
   cases c:j - out.length with
   | zero=>rw[c] at a;simp at a;subst a;exact⟨by simp,λ_=>by simp,λ_=>rfl⟩
   | succ q=>rw[c] at a;simp at a
 .rcases WN.1 a with a | a
  .have:=h.to y a e he;simp;omega
  .simp at a;subst a;simp at he
theorem dN.step {g:ag} {l:List aK} (c:cR l) (d:∀ x∈l,c7 g x) {at_ i:Nat} {out:List aR} (h:dN g at_ i out) (hi:i < 40):dN g at_ (i+1) (dL g l at_ out i):=by
 unfold dL
 split
 .exact h.up
 .rename_i a
  have b : -1000<=bg g i/\bg g i<=1000:=by unfold bg;split <;> omega
  split
  .exact(h.add ⟨Fs _ c,a,Ij d⟩).put hi b (by simp;omega)
  .have:=AF out (bA g l (bg g i))
   exact h.put hi b ⟨by omega,this⟩
theorem dN.next {g:ag} {at_ i:Nat} {out:List aR} (h:dN g at_ i out):dN g (at_+1) 0 out :=
 ⟨h.bt,λj s a=>by
  have:=h.cK j s a
  exact⟨this.1,λe=>by have:=this.2.2 (by omega);simp[this],λe=>this.2.2 (by omega)⟩,h.to,h.sym⟩
theorem dN.row {g:ag} {l:List aK} (a:cR l) (b:∀ x∈l,c7 g x) {at_:Nat} {out:List aR} (h:dN g at_ 0 out):∀ n:Nat,n<=40->dN g at_ n ((List.range n).foldl (dL g l at_) out)/\out.length<=((List.range n).foldl (dL g l at_) out).length/\((List.range n).foldl (dL g l at_) out).length<=out.length+n
 | 0,_=>⟨h,Wz _,Wz _⟩
 | n+1,c=>by
  obtain⟨h1,d,e⟩:=dN.row a b h n (by omega)
  rw[X4,X2]
  simp only[Xz,List.foldl_nil]
  have:=OF g l at_ ((List.range n).foldl (dL g l at_) out) n
  exact⟨h1.step a b (by omega),by omega,by omega⟩
theorem mU {g:ag} : dN g 0 0 eE:=by
 refine⟨λs a=>?_,λj s a=>?_,λs a e he=>?_,λs a e he=>?_⟩
 rotate_right
 .simp[eE] at a;subst a;simp at he
 .simp[eE] at a;subst a
  refine⟨by simp[cR],by simp,λx b=>?_⟩
  simp at b;subst b
  exact⟨⟨by simp,by simp only;omega⟩,by simp,by simp[bW]⟩
 .have:=WI a
  simp[eE] at this;subst this;simp
 .simp[eE] at a;subst a;simp at he
theorem dN.nQ {g:ag} (a:g.cP) {at_ i:Nat} {out:List aR} (h:dN g at_ i out) {j:Nat} (b:j < out.length):cR (c9 g (out.getD j bG).bt)/\∀ x∈c9 g (out.getD j bG).bt,c7 g x:=by
 have hm:=WI (getD_some (d:=bG) b)
 exact⟨vM _ _,λx c=>((gO a (h.bt _ hm).2.2).1 c).has (h.bt _ hm).2.2⟩
structure F1 (g:ag) (a:List aR):Prop where
 bt:∀ s∈a,cR s.bt/\s.bt≠[]/\∀ x∈s.bt,c7 g x
 cK:∀ s∈a,s.cK.length<=40
 to:∀ s∈a,∀ e∈s.cK,0<=e.to/\e.to < a.length
 sym:∀ s∈a,∀ e∈s.cK,-1000<=e.sym/\e.sym<=1000
theorem dN.ok {g:ag} {at_ i:Nat} {out:List aR} (h:dN g at_ i out):F1 g out :=
 ⟨h.bt,λs a=>by obtain⟨j,b,e⟩:=Ys.1 a;exact(h.cK j s (by rw[Wp b,e])).1,h.to,h.sym⟩
theorem Ha {g:ag} (b:g.cP):∀ (f at_:Nat) (out:List aR),dN g at_ 0 out->1<=out.length->out.length<=300->(fZ g f at_ out).2=0->F1 g (fZ g f at_ out).1/\1<=(fZ g f at_ out).1.length/\(fZ g f at_ out).1.length<=300
 | 0,_,out,h,h1,c,_=>⟨h.ok,h1,c⟩
 | f+1,at_,out,h,h1,c,a=>by
  rw[fZ] at a ⊢
  split
  .rename_i d
   rw[Wv d] at a
   have hr:=dN.row (h.nQ b d).1 (h.nQ b d).2 h (g.an.length+g.ax.length) (by have:=b.an;have:=b.ax;omega)
   rw[show (List.range (g.an.length+g.ax.length)).foldl (dL g (c9 g (out.getD at_ bG).bt) at_) out=vZ g at_ out (g.an.length+g.ax.length) from rfl] at hr
   split
   .rename_i e;rw[Wv e] at a;simp at a
   .rename_i e
    rw[Ws e] at a
    exact Ha b f (at_+1) _ hr.1.next (by omega) (by omega) a
  .exact⟨h.ok,h1,c⟩
theorem Re {g:ag} (a:g.cP) (h:(cn g).2=0):F1 g (cn g).1/\1<=(cn g).1.length/\(cn g).1.length<=300:=by
 unfold cn at h ⊢
 split
 .rename_i hr
  rw[Wv hr] at h
  exact Ha a 302 0 eE mU (by simp[eE]) (by simp[eE]) h
 .rename_i hr
  rw[Ws hr] at h
  simp at h
def p8 (l:List fL):List (List V):=l.map oJ
def sM (s:aR):List V:=[.aL (bM s.bt),.aL (p8 s.cK)]
def fH (a:List aR):V:=.aL (a.map sM)
theorem TC (l:List fL):Tree (.aL (p8 l)):=eK _ _ λx _ v a=>by simp[oJ] at a;rcases a with rfl | rfl <;> exact .val _
theorem MU (s:aR):∀ v∈sM s,Tree v:=by
 intro v a;simp[sM] at a
 rcases a with rfl | rfl
 .exact SA _
 .exact TC _
theorem An (a:List aR):Tree (fH a):=eK _ _ λx _=>MU x
abbrev uV:=V × V × aR
def jR (A:List uV):List (List V):=A.map λx=>[x.1,x.2.1]
def tc (A:List uV):List ed:=A.flatMap λx=>[(x.1,2,bM x.2.2.bt),(x.2.1,2,p8 x.2.2.cK)]
theorem gV (A:List uV):(jR A).length=A.length:=by simp[jR]
theorem DO {A:List uV} {x:uV} (a:x∈A):(x.1,2,bM x.2.2.bt)∈tc A/\(x.2.1,2,p8 x.2.2.cK)∈tc A:=by
 constructor <;> exact List.mem_flatMap.2 ⟨x,a,by simp⟩
theorem Tl {h:Heap} {u:V} {A:List uV} (f:aH h.view u 2 (jR A)) (g:∀ x∈A,aH h.view x.1 2 (bM x.2.2.bt)/\aH h.view x.2.1 2 (p8 x.2.2.cK)):du h u (fH (A.map λx=>x.2.2)):=by
 have c:∀ i (hi:i < A.length),(jR A).getD i []=[(A[i]).1,(A[i]).2.1]/\(((A.map λx=>x.2.2).map sM).getD i [])=sM (A[i]).2.2:=λi hi=>by
  simp[jR,Wo,hi]
 refine du.own f (by simp[jR]) (λi hi=>?_) (λi j hi b=>?_)
 .have a:i < A.length:=by simpa [jR] using hi
  rw[(c i a).1,(c i a).2];rfl
 .have a:i < A.length:=by simpa [jR] using hi
  rw[(c i a).2] at b ⊢
  rw[(c i a).1]
  have d:=g _ (WA a)
  generalize A[i]'a=y at d b
  obtain⟨h1,k⟩:=d
  match j,b with
  | 0,_ =>
   refine du.own h1 rfl (λi _=>rfl) (λi j hi b=>?_)
   rw[bF] at hi
   have e:(bM y.2.2.bt).getD i []=fi y.2.2.bt[i]:=by simp[bM,Wo,hi]
   rw[e] at b ⊢
   match j,b with
   | 0,_=>exact .val _
   | 1,_=>exact .val _
  | 1,_ =>
   refine du.own k rfl (λi _=>rfl) (λi j hi b=>?_)
   simp only[p8,WG] at hi
   have e:(p8 y.2.2.cK).getD i []=oJ y.2.2.cK[i]:=by simp[p8,Wo,hi]
   rw[e] at b ⊢
   match j,b with
   | 0,_=>exact .val _
   | 1,_=>exact .val _
  | n+2,b=>exact absurd b (by simp[sM])
theorem uZ {h:Heap} {u v:V} {e:Int} (h1:du h u v):du h (.aO [u,gi e]) (.aO [v,gi e]):=.aO _ _ rfl λi hi=>by
 match i,hi with
 | 0,_=>exact h1
 | 1,_=>exact .val _
theorem Hs {α:Type} {l:List α} {i:Nat} (h:i < l.length):∃ a x b,l=a ++ x :: b/\a.length=i/\l[i]?=some x :=
 ⟨l.take i,l[i],l.drop (i+1),by rw[<-XH h,Yo],by simp;omega,Wp h⟩
theorem MP {α:Type} (a:List α) (x:α) (b:List α) (f:α->α):(a ++ x :: b).modify a.length f=a ++ f x :: b:=by
 induction a with
 | nil=>rfl
 | cons y a c=>simp only[Xh,WD,List.modify_succ_cons,c]
theorem Jx {g:ag} (h:isRed g=true):bq g=true:=by
 unfold isRed at h
 simp only[WC,Xw,WH] at h
 refine X5 λa=>?_
 have h1:=h.1
 unfold mJ at h1
 simp[a] at h1
theorem vr {g:ag} (h:isRed g=true):g.cP:=bK (Jx h)
theorem K2 (A:List uV) (x:uV) (B:List uV):tc (A ++ x :: B)=tc A ++ (x.1,2,bM x.2.2.bt) :: (x.2.1,2,p8 x.2.2.cK) :: tc B:=by simp[tc]
instance (g:ag) (x:aK):Decidable (c7 g x):=by unfold c7;infer_instance
open Go Go.Proofs Go.Shelf Go.RowKit Go.Sort
theorem bC.cut {P:Program} {f:FuncId} {vs:List V} {h g:Heap} {r:V} (n:bC P f vs h r g) {id sz:Nat} {es rest:List (List V)} (l:g.view id=.arr sz (es ++ rest)):bC P f vs h r (g.set id (.arr sz es)):=by
 have m:id < g.length:=eu (by rw[l];simp)
 refine⟨by simpa using n.1,λZ μ F w xs hr z p=>(n.2 Z μ F w xs hr z (by simpa using p)).mono ?_⟩
 rintro e w' ⟨x,A,μ',rfl,B,a,hex,q⟩
 refine⟨x,A,μ',rfl,B,?_,hex,by simpa using q⟩
 have t:∀ k,cat (g.set id (.arr sz es)) F k=if k=id then .arr sz es else cat g F k:=λk=>by
  simp only[cat,X6]
  by_cases hk:k < g.length
  .rw[Wv hk,Wv hk,fQ m];rfl
  .rw[Ws hk,Ws hk,Ws (by omega)]
 have u:cat g F id=.arr sz (es ++ rest):=by simp only[cat];rw[Wv m,l]
 refine⟨λk=>?_,λi j b o s C D v h1 E=>?_,a.lt,a.cw,a.gR⟩
 .rw[t]
  split
  .rename_i hk
   subst hk
   have d:=a.obj k
   rw[u] at d
   intro b o0 s hm
   obtain⟨G,⟨c,e,f,n,p,H⟩,I,J⟩:=d b o0 s hm
   have y:∀ i,i < es.length->(es ++ rest).getD i []=es.getD i []:=λi hi=>by
    simp[Wo,WS hi]
   refine⟨G,⟨c,e,f,n,p,?_⟩,λi hi=>?_,λi j hi K=>?_⟩
   .rw[WO,Xf] at H;omega
   .rw[<-y i hi];exact I i (by rw[WO];omega)
   .rw[<-y i hi];exact J i j (by rw[WO];omega) K
  .exact a.obj k
 .have d:=a.inj i j b o s C D v h1 E
  rw[t,t]
  rcases d with d | d
  .left
   rw[Ws (λe=>by rw[e,u] at d;simp at d)];exact d
  .right
   rw[Ws (λe=>by rw[e,u] at d;simp at d)];exact d
theorem ao.cut {P:Program} {f:FuncId} {vs:List V} {H:View} {K c:V->View->Prop} (h:ao P f vs H K) (hk:∀ r H',K r H'->c r H'∨∃ id sz es rest,H' id=.arr sz (es ++ rest)/\c r (H'.set id (.arr sz es))):ao P f vs H c:=by
 refine⟨h.1,λm n=>?_⟩
 obtain⟨r,d,j,l,o⟩:=h.2 m n
 rcases hk r _ o with h1 | ⟨id,sz,es,rest,a,h1⟩
 .exact⟨r,d,j,l,h1⟩
 .have b:id < d.length:=eu (by rw[a];simp)
  refine⟨r,d.set id (.arr sz es),j.cut a,λk g p=>?_,by rw[fQ b];exact h1⟩
  have i:=l k g p
  rw[fQ b]
  simp only[View.set]
  rw[Ws (λe=>by rw[e,a] at i;simp at i)]
  exact i
instance:Inhabited aK:=⟨⟨0,0⟩⟩
def iW (x:aK):List Value:=[.int .i64 x.av,.int .i64 x.dot]
def oI (a b:aK):Int:=if Lib.compareInt a.av b.av≠0 then Lib.compareInt a.av b.av else Lib.compareInt a.dot b.dot
theorem Q7 (a b:aK):(Lib.compareInt a.av b.av≠0->oI a b=Lib.compareInt a.av b.av)/\(Lib.compareInt a.av b.av=0->oI a b=Lib.compareInt a.dot b.dot):=by
 unfold oI
 exact⟨λh=>by rw[Wv h],λh=>by rw[Ws (by simp[h])]⟩
theorem rN (a b:aK):ltOf oI a b=dh a b:=by
 have d:∀ x y:Int,(x < y/\Lib.compareInt x y = -1)∨(x=y/\Lib.compareInt x y=0)∨(y < x/\Lib.compareInt x y=1):=λx y=>by
  unfold Lib.compareInt; (repeat' split) <;> omega
 rw[Xm,gD]
 simp only[ltOf,WH,oI]
 rcases d a.av b.av with ⟨h,e⟩ | ⟨h,e⟩ | ⟨h,e⟩ <;> rcases d a.dot b.dot with ⟨k,c⟩ | ⟨k,c⟩ | ⟨k,c⟩ <;> simp[e,c] <;> omega
theorem Mm:SWO (ltOf oI) where
 irrefl x:=by rw[rN];exact nP
 trans x y z h k:=by rw[rN] at *;exact nM h k
 ntrans x y z h k:=by
  rw[rN] at *
  cases e:dh x z with
  | false=>rfl
  | true =>
   have h1:¬ dh x y=true:=by simp[h]
   have a:¬ dh y z=true:=by simp[k]
   rw[gD] at h1 a e
   omega
def eC (l:List aK):List aK:=l.mergeSort λx y=>!dh y x
theorem Oe (l:List aK):(l.toArray.toList.mergeSort λx y=>!(ltOf oI) y x)=eC l:=by
 have e:(λx y=>!(ltOf oI) y x)=λx y=>!dh y x:=by funext x y;rw[rN]
 rw[e];rfl
theorem zN (l:List aK):(eC l).Perm l:=List.mergeSort_perm _ _
theorem jd (l:List aK):(eC l).length=l.length:=(zN l).length_eq
theorem z6 (l:List aK):(eC l).Pairwise λx y=>dh y x=false:=by
 have:=List.pairwise_mergeSort (le:=λx y:aK=>!dh y x) (λa b c h k=>by
  simp only[Yt,Bool.not_eq_false'] at h k ⊢
  cases e:dh c a with
  | false=>simp
  | true =>
   have h1:¬ dh b a=true:=by simpa using h
   have d:¬ dh c b=true:=by simpa using k
   rw[gD] at h1 d e
   omega) (λa b=>by
  cases e:dh b a with
  | false=>simp
  | true=>simp[Jt e]) l
 exact this.imp λh=>by simpa using h
def O5:Ren where
 f:=fun
  | 6=>190
  | 15=>246
  | 14=>245
  | 28=>282
  | 29=>283
  | 20=>274
  | 21=>275
  | 22=>276
  | 23=>277
  | 24=>278
  | 25=>279
  | 26=>280
  | 27=>281
  | 46=>291
  | 47=>292
  | 48=>293
  | 49=>294
  | 50=>295
  | 57=>307
  | n=>n
 t:=fun
  | 22=>103
  | 24=>120
  | 25=>286
  | 3=>3
  | 39=>276
  | 0=>0
  | 53=>50
  | 55=>49
  | 4=>4
  | 46=>356
  | 45=>355
  | 50=>66
  | 5=>5
  | 9=>9
  | 66=>369
  | 70=>373
  | 76=>381
  | 77=>382
  | n=>n
 g:=λn=>n
theorem Sa:Go.Proofs.SlLaysF0.n6 Tryz.prog O5 where
 mixed:=by kernel_rfl
 f6:=⟨Tryz.f190.name,by kernel_rfl,by kernel_rfl⟩
 f14:=⟨Tryz.f245.name,by kernel_rfl,by kernel_rfl⟩
 f15:=by kernel_rfl
 f20:=⟨Tryz.f274.name,by kernel_rfl,by kernel_rfl⟩
 f21:=⟨Tryz.f275.name,by kernel_rfl,by kernel_rfl⟩
 f22:=⟨Tryz.f276.name,by kernel_rfl,by kernel_rfl⟩
 f23:=⟨Tryz.f277.name,by kernel_rfl,by kernel_rfl⟩
 f24:=⟨Tryz.f278.name,by kernel_rfl,by kernel_rfl⟩
 f25:=⟨Tryz.f279.name,by kernel_rfl,by kernel_rfl⟩
 f26:=⟨Tryz.f280.name,by kernel_rfl,by kernel_rfl⟩
 f27:=⟨Tryz.f281.name,by kernel_rfl,by kernel_rfl⟩
 f28:=by kernel_rfl
 f29:=by kernel_rfl
 f46:=⟨Tryz.f291.name,by kernel_rfl,by kernel_rfl⟩
 f47:=by kernel_rfl
 f48:=by kernel_rfl
 f49:=⟨Tryz.f294.name,by kernel_rfl,by kernel_rfl⟩
 f50:=⟨Tryz.f295.name,by kernel_rfl,by kernel_rfl⟩
 f57:=⟨Tryz.f307.name,by kernel_rfl,by kernel_rfl⟩
 t0:=Tryz.underlying0
 a0:=Tryz.isAgg0
 z0:=Tryz.sizeOf0
 v0:=Tryz.zeroValue0
 t3:=Tryz.underlying3
 a3:=Tryz.isAgg3
 z3:=Tryz.sizeOf3
 v3:=Tryz.zeroValue3
 t4:=Tryz.underlying4
 a4:=Tryz.isAgg4
 z4:=Tryz.sizeOf4
 v4:=Tryz.zeroValue4
 t5:=Tryz.underlying5
 a5:=Tryz.isAgg5
 z5:=Tryz.sizeOf5
 v5:=Tryz.zeroValue5
 t9:=Tryz.underlying9
 a9:=Tryz.isAgg9
 z9:=Tryz.sizeOf9
 v9:=Tryz.zeroValue9
 t22:=Tryz.underlying103
 a22:=Tryz.isAgg103
 z22:=Tryz.sizeOf103
 v22:=Tryz.zeroValue103
 t25:=Tryz.underlying286
 a25:=Tryz.isAgg286
 z25:=Tryz.sizeOf286
 v25:=Tryz.zeroValue286
 t39:=Tryz.underlying276
 a39:=Tryz.isAgg276
 z39:=Tryz.sizeOf276
 v39:=Tryz.zeroValue276
 t45:=Tryz.underlying355
 a45:=Tryz.isAgg355
 z45:=Tryz.sizeOf355
 v45:=Tryz.zeroValue355
 t46:=Tryz.underlying356
 a46:=Tryz.isAgg356
 z46:=Tryz.sizeOf356
 v46:=Tryz.zeroValue356
 t50:=Tryz.underlying66
 a50:=Tryz.isAgg66
 z50:=Tryz.sizeOf66
 v50:=Tryz.zeroValue66
 t53:=Tryz.underlying50
 a53:=Tryz.isAgg50
 z53:=Tryz.sizeOf50
 v53:=Tryz.zeroValue50
 t55:=Tryz.underlying49
 a55:=Tryz.isAgg49
 z55:=Tryz.sizeOf49
 v55:=Tryz.zeroValue49
 t66:=Tryz.underlying369
 a66:=Tryz.isAgg369
 z66:=Tryz.sizeOf369
 v66:=Tryz.zeroValue369
 t70:=Tryz.underlying373
 a70:=Tryz.isAgg373
 z70:=Tryz.sizeOf373
 v70:=Tryz.zeroValue373
 t76:=Tryz.underlying381
 a76:=Tryz.isAgg381
 z76:=Tryz.sizeOf381
 v76:=Tryz.zeroValue381
 t77:=Tryz.underlying382
 a77:=Tryz.isAgg382
 z77:=Tryz.sizeOf382
 v77:=Tryz.zeroValue382
def RE:Ren where
 f:=fun
  | 5=>248
  | 7=>284
  | n=>n
 t:=fun
  | 22=>3
  | 3=>3
  | 4=>4
  | n=>n
 g:=λn=>n
theorem UH:Go.Proofs.SlLaysC2.n5 Tryz.prog RE where
 mixed:=by kernel_rfl
 f5:=⟨Tryz.f248.name,by kernel_rfl,by kernel_rfl⟩
 f7:=⟨Tryz.f284.name,by kernel_rfl,by kernel_rfl⟩
 t3:=Tryz.underlying3
 a3:=Tryz.isAgg3
 z3:=Tryz.sizeOf3
 v3:=Tryz.zeroValue3
 t4:=Tryz.underlying4
 a4:=Tryz.isAgg4
 z4:=Tryz.sizeOf4
 v4:=Tryz.zeroValue4
 t22:=Tryz.underlying3
 a22:=Tryz.isAgg3
 z22:=Tryz.sizeOf3
 v22:=Tryz.zeroValue3
section
attribute [local go_sem] Oper.semAt_some
theorem Jc (x y:Int) (b cap:Nat) (W:World) (h0:W.cell? ⟨b,0,none⟩=some (.int .i64 x)) (h1:W.cell? ⟨b,1,none⟩=some (.int .i64 y)) (r:Int) (hr:(x≠0->r=x)/\(x=0->r=y)) :
  Calls Tryz.prog 247 #[.slice (some ⟨b,0,none⟩) 2 cap] W λe w'=>e=.returned (.int .i64 r)/\w'=W:=by
 go_enter Tryz.func247,Tryz.ntmps247
 go_wp2
 refine wp_loop_rounds 3 ?_
 rw[rounds_succ]
 go_wp2
 .rename_i h
  go_ret
  exact⟨by rw[hr.1 (by simpa using h)];rfl,rfl⟩
 .rename_i h
  have hx:x=0:=by simpa using h
  rw[rounds_succ]
  go_wp2
  .rename_i h
   go_ret
   exact⟨by rw[hr.2 hx];rfl,rfl⟩
  .rename_i h
   rw[rounds_succ]
   go_wp2
   go_ret
   exact⟨by rw[hr.2 hx,show y=0 by simpa using h];rfl,rfl⟩
structure Vf (p:Prop):Prop where
 out:p
theorem Jn (x1 x2 y1 y2:Int) (W:World) (r:Int) (hr:(Lib.compareInt x1 y1≠0->r=Lib.compareInt x1 y1)/\(Lib.compareInt x1 y1=0->r=Lib.compareInt x2 y2)) :
  Calls Tryz.prog 191 #[.agg #[.int .i64 x1,.int .i64 x2],.agg #[.int .i64 y1,.int .i64 y2]] W λe w'=>e=.returned (.int .i64 r)/\∃ q os',w'=grow (W.drewN q) os':=by
 have hcon1:=λW'=>AnyG.cmp_Compare_int UH x1 y1 W'
 change ∀ W',Calls Tryz.prog 248 _ _ _ at hcon1
 have hcon2:=λW'=>AnyG.cmp_Compare_int UH x2 y2 W'
 change ∀ W',Calls Tryz.prog 248 _ _ _ at hcon2
 generalize Lib.compareInt x1 y1=c1 at *
 generalize Lib.compareInt x2 y2=c2 at *
 go_enter Tryz.func191,Tryz.ntmps191
 go_wp2_with (first | (go_at_call 248;refine(hcon1 _).mono ?_;rintro e w' ⟨rfl,rfl⟩)|(go_at_call 248;refine(hcon2 _).mono ?_;rintro e w' ⟨rfl,rfl⟩))
 obtain⟨b1,hb1⟩:∃ b1,b1=W.heap.size:=⟨_,rfl⟩
 obtain⟨b2,hb2⟩:∃ b2,b2=W.heap.size+1:=⟨_,rfl⟩
 rw[<-hb2,<-hb1]
 generalize hW1:(W.alloc (Obj.cells #[Value.int IntKind.i64 x1,Value.int IntKind.i64 x2] 120)).alloc (Obj.cells #[Value.int IntKind.i64 y1,Value.int IntKind.i64 y2] 120)=W1
 have hh1:W1.heap[b1]?=some (.cells #[Value.int IntKind.i64 x1,Value.int IntKind.i64 x2] 120 (0,0)):=by
  rw[<-hW1,hb1];exact(Below.heap_alloc _ _ _ (by simp)).trans (World.alloc_heap_new W _)
 have hh2:W1.heap[b2]?=some (.cells #[Value.int IntKind.i64 y1,Value.int IntKind.i64 y2] 120 (0,0)):=by
  rw[<-hW1,hb2]
  have:=World.alloc_heap_new (W.alloc (Obj.cells #[Value.int IntKind.i64 x1,Value.int IntKind.i64 x2] 120)) (Obj.cells #[Value.int IntKind.i64 y1,Value.int IntKind.i64 y2] 120)
  rwa [World.size_alloc] at this
 have k0:W1.cell? ⟨b1,0,none⟩=some (.int .i64 x1):=by unfold World.cell?;rw[hh1];rfl
 have k1:W1.cell? ⟨b1,1,none⟩=some (.int .i64 x2):=by unfold World.cell?;rw[hh1];rfl
 have k2:W1.cell? ⟨b2,0,none⟩=some (.int .i64 y1):=by unfold World.cell?;rw[hh2];rfl
 have k3:W1.cell? ⟨b2,1,none⟩=some (.int .i64 y2):=by unfold World.cell?;rw[hh2];rfl
 clear hh1 hh2
 refine wp_region_still_tail 10 (by kernel_rfl) (by kernel_rfl) ?_
 change wpStill _ _ W1.drew (λa'=>wpList _ _ _ _ a' W1.drew) _ _
 generalize hW2:W1.drew=W2
 replace k0:W2.cell? ⟨b1,0,none⟩=some (.int .i64 x1):=by rw[<-hW2];exact k0
 replace k1:W2.cell? ⟨b1,1,none⟩=some (.int .i64 x2):=by rw[<-hW2];exact k1
 replace k2:W2.cell? ⟨b2,0,none⟩=some (.int .i64 y1):=by rw[<-hW2];exact k2
 replace k3:W2.cell? ⟨b2,1,none⟩=some (.int .i64 y2):=by rw[<-hW2];exact k3
 have hgr:Vf (W2=grow (W.drewN 1) #[Obj.cells #[Value.int IntKind.i64 x1,Value.int IntKind.i64 x2] 120,Obj.cells #[Value.int IntKind.i64 y1,Value.int IntKind.i64 y2] 120]):=by
  refine⟨?_⟩
  rw[<-hW2,<-hW1,alloc_eq_grow,alloc_eq_grow,grow_grow];rfl
 clear hW1 hW2 hb1 hb2
 simp only[List.take_succ_cons,List.take_zero,List.drop_succ_cons,X1]
 iterate 4 still_step
 still_call (hcon1 _)
 iterate 4 still_step
 still_call (hcon2 _)
 refine wpStill_nil ?_
 go_wp2_with (go_at_call 247;refine(Jc c1 c2 _ _ _ ?_ ?_ r hr).mono ?_)
 .unfold World.cell?;rw[World.alloc_heap_new];rfl
 .unfold World.cell?;rw[World.alloc_heap_new];rfl
 .rintro e w' ⟨rfl,rfl⟩
  go_wp2
  go_ret
  refine⟨rfl,1,#[Obj.cells #[Value.int IntKind.i64 x1,Value.int IntKind.i64 x2] 120,Obj.cells #[Value.int IntKind.i64 y1,Value.int IntKind.i64 y2] 120,Obj.cells #[Value.int IntKind.i64 c1,Value.int IntKind.i64 c2] 3],?_⟩
  rw[hgr.out,alloc_eq_grow,grow_grow];rfl
end
theorem G5 {Z:Nat->Prop} {μ:Mu} {hp:Array Obj} {id off len esz:Nat} {x:Value} (h:aw Z μ hp (.sl id off len esz) x) :
  (len=0/\∃ a,x=.slice a 0 0)∨∃ b o0 cap,∃ c:Array Value,∃ e f,x=.slice (some ⟨b,o0+off * esz,none⟩) len cap/\μ id=some (b,o0,esz)/\len<=cap/\hp[b]?=some (.cells c e f)/\o0+(off+cap) * esz<=c.size:=by
 cases h with
 | oB _ _ _ a=>exact .inl ⟨rfl,a,rfl⟩
 | sl _ _ _ _ b o0 cap c e f h1 d g i=>exact .inr ⟨b,o0,cap,c,e,f,rfl,h1,d,g,i⟩
theorem TR {Z:Nat->Prop} {μ:Mu} {hp:Array Obj} {f:FuncId} {x:Value} (h:aw Z μ hp (.fn f [] []) x):x=.func (.func f) #[] #[]:=by
 cases h with
 | fn _ _ _ a c h1 b _ _ =>
  rw[Array.eq_empty_of_size_eq_zero h1.symm,Array.eq_empty_of_size_eq_zero b.symm]
theorem Dr (w:World) (b o0 m:Nat) (d:Array aK) (os:Array Obj) {j:Nat} (a:j < w.heap.size):(sortWorldK iW 2 w b o0 m d os).heap[j]?=if b=j then (w.heap[j]?).map (onCells (putCells id o0 (flatK iW 2 d))) else w.heap[j]?:=by
 unfold sortWorldK grow putRowK putRow mapBlock
 simp only[Sort.ahead]
 rw[Xr (by simpa using a),X7]
theorem Qn (l:List aK) (hl:l.length < 1152921504606846976) (u:V) (H:View) (ho:aH H u 2 (bM l)):ao Tryz.prog 190 [u,.fn 191 [] []] H λr H'=>r=.aO []/\(∀ id,owner u≠some id->H' id=H id)/\aH H' u 2 (bM (eC l)):=by
 refine⟨by kernel_rfl,?_⟩
 rintro h rfl
 have eg:∀ args w,(callFunc 191 args).run Tryz.prog w=.ok (.enter 191 args) w:=enters_of Tryz.func191 (by kernel_rfl) rfl
 by_cases I:l=[]
 .subst I
  refine⟨.aO [],h,⟨Wz _,λZ μ F w xs s hr M=>?_⟩,.refl _,rfl,λ_ _=>rfl,by simpa [eC] using ho⟩
  obtain⟨hlen,N⟩:=s
  obtain⟨x,y,rfl⟩:∃ x y,xs=[x,y]:=by
   match xs,hlen with
   | [x,y],_=>exact⟨x,y,rfl⟩
  have h0:aw Z μ w.heap u x:=N 0 (by simp)
  obtain⟨p,cap,rfl⟩:∃ p cap,x=.slice p 0 cap:=by
   rcases ho with ⟨_,k,rfl⟩ | ⟨n,rfl,_⟩
   .cases h0 with | emp _ a _ _=>exact⟨a,0,rfl⟩
   .rcases G5 h0 with ⟨_,a,e⟩ | ⟨b,o0,cap,c,e,f,e2,_⟩
    .exact⟨a,0,e⟩
    .exact⟨_,cap,e2⟩
  refine(AnyF.slices_SortFunc_none Sa p cap y w).mono ?_
  rintro e w' ⟨rfl,rfl⟩
  exact⟨.tuple #[],Z,μ,rfl,.aO [] #[] rfl (λi hi=>by simp at hi),hr,Ext.refl _ _ _ _,λ_ _=>rfl⟩
 have S:0 < l.length:=Yx.2 I
 obtain⟨n,rfl,hn⟩:=ho.sl (by rw[bF];exact S)
 rw[bF]
 have t:n < h.length:=eu (by rw[hn];simp)
 refine⟨.aO [],h.set n (.arr 2 (bM (eC l))),⟨by simp,λZ μ F w xs s hr M=>?_⟩,λk hk hd=>?_,rfl,λid al=>?_,?_⟩
 rotate_left
 .rw[fQ t]
  simp only[View.set]
  rw[Ws (λe=>by rw[e,hn] at hd;simp at hd)];exact hd
 .rw[fQ t]
  simp only[View.set]
  rw[Ws (λe=>al (by rw[e];rfl))]
 .refine .inr ⟨n,by rw[bF,jd],?_⟩
  rw[fQ t];simp[View.set]
 obtain⟨hlen,N⟩:=s
 obtain⟨x,y,rfl⟩:∃ x y,xs=[x,y]:=by
  match xs,hlen with
  | [x,y],_=>exact⟨x,y,rfl⟩
 have h0:aw Z μ w.heap (.sl n 0 l.length 2) x:=N 0 (by simp)
 have h1:aw Z μ w.heap (.fn 191 [] []) y:=N 1 (by simp)
 have hy:=TR h1
 subst hy
 rcases G5 h0 with ⟨e,_⟩ | ⟨b,o0,cap,c0,e0,f0,rfl,E,a6,_,_⟩
 .omega
 rw[Nat.zero_mul,XW]
 have J:cat h F n=.arr 2 (bM l):=by simp only[cat];rw[Wv t,hn]
 have T:=hr.obj n
 rw[J] at T
 obtain⟨_,⟨c,ty,fz,hc,U,W⟩,hq,z⟩:=T b o0 2 E
 rw[bF] at W hq z
 have O:b < w.heap.size:=hr.lt _ _ _ _ E
 have P:∀ (m:List aK) (i:Nat) (hi:i < m.length),(bM m).getD i []=fi m[i]:=λm i hi=>by simp[bM,Wo,hi]
 have hH:HoldsK iW 2 w b o0 l.toArray:=by
  intro j D
  rw[size_flatK] at D
  have a7:j < l.length * 2:=by simpa using D
  have hi:j / 2 < l.length:=by omega
  obtain⟨x,hx,d⟩:=z (j / 2) (j % 2) hi (by omega)
  rw[show o0+j / 2 * 2+j % 2=o0+j by omega] at hx
  have ar:x=(flatK iW 2 l.toArray)[j]!:=by
   rw[get_flatK _ _ _ _ D]
   rw[P l _ hi] at d
   have e1:l.toArray[j / 2]! = l[j / 2]:=by simp[hi]
   rw[e1]
   rcases W5 (j % 2) 1 with X | X
   .rw[show j % 2=0 by omega] at d ⊢
    simp only[fi,Xx] at d
    cases d;rfl
   .rw[show j % 2=1 by omega] at d ⊢
    simp only[fi,Ye,Xx] at d
    cases d;rfl
  refine⟨by rw[iz,hx,ar];rfl,?_⟩
  simp only[World.frozen?,hc]
  rcases U with e | e
  .simp only[e,Yj,XC];omega
  .simp only[Yj,XC];omega
 have hT:∀ x y,(ltOf oI) x y=false->(ltOf oI) y x=false->x=y:=λx y h1 X=>by
  rw[rN] at h1 X
  exact X5 λA=>by rw[vE h1 A] at X;simp at X
 have K:=AnyQ.slices_SortFunc_total Sa 2 Tryz.isAgg120 Tryz.sizeOf120 iW (λ_=>rfl) (λx v N=>by simp[iW] at N;rcases N with rfl | rfl <;> rfl) oI Mm 191 #[] b o0 cap l.toArray w eg (λ_ _ _ _ x y=>Jn x.av x.dot y.av y.dot _ _ (Q7 x y)) hH O (by simp;omega) hT
 rw[Oe] at K
 refine Calls.mono (show Calls Tryz.prog 190 _ w _ from K) ?_
 rintro e w' ⟨rfl,m,os,rfl⟩
 have Y:=jd l
 have g:=λ{j:Nat} (D:j < w.heap.size)=>Dr w b o0 m (eC l).toArray os D
 have G:HoldsK iW 2 (sortWorldK iW 2 w b o0 m (eC l).toArray os) b o0 (eC l).toArray:=SWK.holds ⟨m,os,rfl⟩ O hH (by simp[Y])
 have B:w.heap.size<=(sortWorldK iW 2 w b o0 m (eC l).toArray os).heap.size:=SWK.le (dk:=(eC l).toArray) ⟨m,os,rfl⟩
 have Q:ep w (sortWorldK iW 2 w b o0 m (eC l).toArray os):=⟨rfl,rfl,rfl,B⟩
 generalize sortWorldK iW 2 w b o0 m (eC l).toArray os=w' at *
 have ab:w'.heap[b]?=some (.cells (putCells id o0 (flatK iW 2 (eC l).toArray) c) ty fz):=by
  rw[g O,Wv rfl,hc];rfl
 have L:lL Z μ μ w.heap w'.heap h.length (.eP n (.arr 2 (bM (eC l)))):=by
  refine⟨b,o0,2,E,rfl,λj D A=>by rw[g D,Ws (λe=>A e.symm)],λj cc ee ff C=>?_,?_⟩
  .have a1:j < w.heap.size:=by
    rcases W5 j w.heap.size with q | q
    .exact q
    .simp[XS q] at C
   by_cases e:b=j
   .subst e
    rw[hc] at C
    simp only[Wu,Obj.cells.injEq] at C
    obtain⟨rfl,rfl,rfl⟩:=C
    exact⟨_,_,ab,by simp[putCells]⟩
   .exact⟨cc,ff,by rw[g a1,Ws e];exact C,rfl⟩
  .intro b1 o1 s1 h1
   rw[E] at h1
   simp only[Wu,Wx] at h1
   obtain⟨rfl,rfl,rfl⟩:=h1
   refine⟨rfl,⟨_,ty,fz,ab,?_,?_⟩,λi hi=>?_,λi j hi D=>?_⟩
   .simpa [putCells] using U
   .rw[bF,Y];simpa [putCells] using W
   .rw[bF] at hi;rw[P _ i hi];rfl
   .rw[bF] at hi
    have:=(G.cell (i:=i) (c:=j) (by simpa using hi) D).1
    rw[iz] at this
    refine⟨_,this,?_⟩
    rw[P _ i hi]
    have e1:(eC l).toArray[i]! = (eC l)[i]:=by simp[hi]
    rw[e1]
    match j,D with
    | 0,_=>exact .val _ rfl
    | 1,_=>exact .val _ rfl
 have A:cat h F n≠.dead:=by rw[J];simp
 have R:=hr.eff (n:=h.length) (eff:=.eP n (.arr 2 (bM (eC l)))) (by trivial) B L (λid o e=>by cases e;exact A) (λid o e=>by cases e)
 obtain⟨ae,a8⟩:=L.ext Q (by trivial) hr.cw hr.gR
 refine⟨.tuple #[],Z,μ,rfl,.aO [] #[] rfl (λi hi=>by simp at hi),?_,ae,λ_ _=>rfl⟩
 have ev:cat (h.set n (.arr 2 (bM (eC l)))) F=aS.view (cat h F) h.length (.eP n (.arr 2 (bM (eC l)))):=by
  funext k
  simp only[cat,aS.view,View.set,X6]
  by_cases hk:k < h.length
  .rw[Wv hk,Wv hk,fQ t];rfl
  .rw[Ws hk,Ws hk,Ws (by omega)]
 rw[ev]
 exact R
end Gv
