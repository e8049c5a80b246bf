/-
  Part 11 of the proof: what the machine does and what the functions answer.
  Conditions: those that each lemma names.
-/
import Derived.Test.YtiophifnkakjgaaGreatSGzC3J
set_option linter.unusedSimpArgs false
set_option linter.unusedVariables false
set_option maxRecDepth 100000
set_option maxHeartbeats 20000000
namespace Gv
open Go Go.Proofs
noncomputable def OS:List (FuncId × DF):=vH Tryz.prog [(251,[]),(180,[]),(236,[]),(237,[])]
theorem N6:pN Tryz.prog OS:=r6 _ _
def bL (p:bw):List V:=[gi p.av,gi p.bO,gi p.rules,gi p.an]
abbrev jc (P:List bw):V:=.aL (P.map bL)
theorem rl (P:List bw):Tree (jc P):=eK _ _ λx _ v a=>by
 simp[bL] at a
 rcases a with rfl | rfl | rfl | rfl <;> exact .val _
theorem Uy {n:Nat} (h:rF Tryz.prog OS (λ_ _ _=>none) 251 [jc [mc],gi n]=some (jc (List.replicate n mc))):cd Tryz.prog 251 [jc [mc],gi n] (jc (List.replicate n mc)) :=
 nR mixed N6 (Lw _) (by
  intro v a;simp at a
  rcases a with rfl | rfl
  .exact rl [mc]
  .exact .val _) h
theorem P1 {n:Nat} (h1:1<=n) (a:n<=16):cd Tryz.prog 251 [jc [mc],gi n] (jc (List.replicate n mc)):=by
 have:n=1∨n=2∨n=3∨n=4∨n=5∨n=6∨n=7∨n=8∨n=9∨n=10∨n=11∨n=12∨n=13∨n=14∨n=15∨n=16:=by omega
 rcases this with rfl | rfl | rfl | rfl | rfl | rfl | rfl | rfl | rfl | rfl | rfl | rfl | rfl | rfl | rfl | rfl <;> exact Uy (by kernel_rfl)
theorem Cr (p:bw):∀ v∈bL p,Tree v:=by
 intro v a;simp[bL] at a
 rcases a with rfl | rfl | rfl | rfl <;> exact .val _
theorem TU (h:Heap) (p:bw):du h (.agg (bL p)) (.agg (bL p)):=.agg _ _ rfl λi hi=>by
 match i,hi with
 | 0,_=>exact .val _
 | 1,_=>exact .val _
 | 2,_=>exact .val _
 | 3,_=>exact .val _
 | n+4,h=>exact absurd h (by simp[bL])
def zY (p:bw):Prop:=gm p/\(-1<=p.av/\p.av<=1000000)/\0<=p.bO/\p.bO<=1000000
theorem QQ:zY bo:=by unfold zY gm bo;decide
theorem Hk {x:Int} : (if x < 1048576 then x else 1048576)=min 1048576 x:=by omega
theorem UA {x y:Int} : (if y > x then y else x)=max x y:=by omega
def xl:SC :=
 ai [af [aZ 12 .lss 11 10],cp 12 (.exit 0),.block 1 (ai [af [aY 13 1 9 11,au 14 13,aa 7 14],ai [af [aa 15 7,aF 16 .geq 15 0],bf 16 (ai [af [ay 17 3 4,au 18 17,aF 19 .add 18 1,((some 20),.op (.mm false (.val (.val (.int .i64 1048576))) (.tmp 19))),ay 21 3 4,df 1 21 20],.exit 1])],af [aa 22 1,aa 23 7,((some 24),.op (.arith .sub (.val (.val (.int .i64 (-1)))) (.tmp 23))),aY 25 4 22 24,bj 26 4 25,((some 8),.op (.alloc [(.val (.int .i64 0)),(.val (.int .i64 0)),(.val (.int .i64 0)),(.val (.int .i64 0))])),df 4 8 26],ai [af [ay 27 0 8,au 28 27,aF 29 .lss 28 0],bf 29 (ai [af [bj 30 4 4,df 4 4 30,bc 5 false],.ret])],af [ay 31 1 4,au 32 31,ay 33 1 8,au 34 33,((some 35),.op (.mm true (.tmp 32) (.tmp 34))),ay 36 1 4,df 1 36 35],.rH [(45,49)] [⟨none,[ay 37 2 4,au 38 37,ay 39 2 8,au 40 39,aZ 41 .add 38 40,((some 42),.op (.mm false (.val (.val (.int .i64 1048576))) (.tmp 41))),ay 43 3 4,au 44 43,ay 45 3 8,au 46 45,aZ 47 .add 44 46,((some 48),.op (.mm false (.val (.val (.int .i64 1048576))) (.tmp 47))),ay 49 2 4,df 1 49 42,ay 50 3 4,df 1 50 48]⟩]]),af [aF 51 .add 11 1,aa 11 51]]
def zZ:SF:=⟨ai [af [((some 4),.op (.alloc [(.val (.int .i64 0)),(.val (.int .i64 0)),(.val (.int .i64 0)),(.val (.int .i64 0))])),bc 5 false],ai [af [aa 9 0,aQ 10 9,bb 11 0],cz 0 xl],af [bj 52 4 4,df 4 4 52,bc 5 true],.ret],
 [.cell 4 (some 4),.tmp 5],53⟩
theorem Dw:aG Tryz.prog 196 []=some zZ:=by kernel_rfl
theorem zf {P:List bw} {m:Nat} (h:m < P.length):(P.map bL)[m]?=some (bL (bE P m)):=by
 simp[bE,Wo,h]
theorem P4 (P:List bw) (o:∀ m,zY (bE P m)) (l:List Int) (p:aC l) (t:∀ x∈l,ba x/\(x < 0->-1 - x < P.length)) :
  cd Tryz.prog 196 [encI l,jc P] (.aO [.agg (bL (bI P l bo).1),gb (bI P l bo).2]):=by
 have key:∀ H,ao Tryz.prog 196 [encI l,jc P] H λr _=>r=.aO [.agg (bL (bI P l bo).1),gb (bI P l bo).2]:=?_
 .refine cd.of (by
   intro v g;simp at g
   rcases g with rfl | rfl
   .exact aX l
   .exact rl P) ((key _).mono λr H' e A _=>?_)
  rw[e];exact G7 (TU _ _) (.val _)
 intro H
 refine ao.of mixed Dw ?_
 unfold aC at p
 simp(disch:=omega)only[↓wr,seval,wq,zZ,encI]
 intro m hm
 try simp(disch:=omega)only[↓wr,seval,wq,encI]
 refine bk.up l.length (λi T H'=>∃ s:bw,zY s/\s.av=0/\bI P (l.drop i) s=bI P l bo/\H' m=.arr 4 [bL s]/\T 1=jc P/\T 4=.ptr m 0 0/\T 9=encI l/\T 10=gi l.length/\T 11=gi i) ?_ ?_
 .exact⟨bo,QQ,rfl,rfl,by simp[View.set,bL,bo],rfl,rfl,rfl,rfl,rfl⟩
 rintro i k T H hk ⟨s,u,d,a,hH,t1,t4,t9,t10,t11⟩
 unfold zY gm at u
 simp(disch:=omega)only[↓wr,seval,wq,xl,t1,t4,t9,t10,t11,encI]
 apply aj.dec<;>intro w
 .have h:l[i]?=some (l[i]'(by omega)):=Wp (by omega)
  have c:l[i]'(by omega)∈l:=WA _
  rw[fS (show i < l.length by omega)] at a
  generalize l[i]'(by omega)=x at h c a
  obtain⟨⟨y,z⟩,f⟩:=t x c
  simp(disch:=omega)only[↓wr,seval,wq,t1,t4,t9,t10,t11,encI,Ww,h]
  apply aj.dec<;>intro j
  .simp(disch:=omega)only[↓wr,seval,wq,t1,t4,t9,t10,t11,encI,hH,bL,Hk]
   rw[E8 (show 0<=x from j)] at a
   refine aJ hk (by omega) ⟨_,?_,?_,a,?_,t1,t4,t9,t10,rfl⟩
   .unfold zY gm;simp only;omega
   .exact d
   .simp[View.set]
  .have hm:(cH x) < P.length:=by have:=f (by omega);unfold cH;omega
   have hp:=o (cH x)
   unfold zY gm at hp
   simp(disch:=omega)only[↓wr,seval,wq,t1,t4,t9,t10,t11,encI,hH,zf hm]
   simp(disch:=omega)only[↓wr,seval,wq,t1,t4,t9,t10,t11,encI,hH,bL]
   intro q n
   have b:m≠q:=by rintro rfl;rw[hH] at n;simp at n
   try simp(disch:=omega)only[↓wr,seval,wq,t1,t4,t9,t10,t11,encI,hH,b,b.symm,bL]
   apply aj.dec<;>intro he
   .simp(disch:=omega)only[↓wr,seval,wq,t1,t4,t9,t10,t11,encI,hH,b,b.symm,bL]
    rw[P2 (by omega) he] at a
    rw[<-a]
   .simp(disch:=omega)only[↓wr,seval,wq,t1,t4,t9,t10,t11,encI,hH,b,b.symm,bL,Hk,UA]
    rw[HX (by omega) he] at a
    refine aJ hk (by omega) ⟨_,?_,?_,a,?_,t1,t4,t9,t10,rfl⟩
    .unfold zY gm;simp only;omega
    .exact d
    .simp[View.set,b]
 .simp(disch:=omega)only[↓wr,seval,wq,t1,t4,t9,t10,t11,hH,bL]
  rw[Xb (by omega)] at a
  rw[<-a];try rfl
def ei:SF:=⟨ai [af [b7 2 1],ai [af [aa 3 0,((some 4),.op (.nil true 0 (.tmp 3) (.val (.emp 1))))],bf 4 (ai [af [b7 2 1],.ret])],af [b7 5 2,aa 6 0,iR 7 4 32 5 6,aa 2 7],.ret],
 [.tmp 2],8⟩
theorem jH:aG Tryz.prog 252 []=some ei:=by kernel_rfl
theorem MM (P:List bw) (c:P.length<=100000) (h1:1<=P.length) (u:V) (H:View) (hu:u=jc P∨aH H u 4 (P.map bL)) :
  ao Tryz.prog 252 [u] H λr H'=>aH H' r 4 (P.map bL)/\cM H H' r:=by
 have a:((P.map bL).all λe=>e.length == 4 && e.all aE)=true:=by simp[Yg,bL,aE]
 refine ao.of mixed jH ?_
 cases P with
 | nil=>simp at h1
 | cons p r =>
  simp only[WD] at c
  rcases hu with rfl | hu
  .simp(disch:=omega)only[↓wr,seval,wq,ei,jc]
   refine⟨by simpa using a,by unfold aD;simp;omega,λm hm=>?_⟩
   simp(disch:=omega)only[↓wr,seval,wq]
   have:=aH.new (H:=H) (n:=m) (sz:=4) (es:=(p :: r).map bL)
   simp only[WG,WD] at this
   exact⟨by simpa using this,.new hm⟩
  .obtain⟨n,rfl,b⟩:=hu.sl (by simp)
   simp only[WG,WD] at b ⊢
   have he:bD H (.sl n 0 (r.length+1) 4)=some ((p :: r).map bL,[n]):=by
    rw[rv _ n 0 r.length 4 4 _ b (by simp),X1,WT (by simp)]
   simp(disch:=omega)only[↓wr,seval,wq,ei,he]
   refine⟨by simpa using a,by unfold aD;simp;omega,λm hm=>?_⟩
   simp(disch:=omega)only[↓wr,seval,wq]
   have:=aH.new (H:=H) (n:=m) (sz:=4) (es:=(p :: r).map bL)
   simp only[WG,WD] at this
   exact⟨by simpa using this,.new hm⟩
theorem Ho {g:ag} (hr:g.rules.length<=40) {k:Nat} (hk:k<=16) (m:Nat):zY (bE (aB g k) m):=by
 refine⟨qb g k m,?_⟩
 by_cases h:bP (aB g k) m
 .obtain⟨a,b,_⟩:=gP g k m h
  obtain⟨j,f,d,l,e⟩:=wy h
  obtain⟨i,r,c,_,_,hp,_⟩:=lq e
  have hi:i < g.rules.length:=(Wy.1 c).1
  have:(bE (aB g k) m).av=i:=by rw[hp];simp[ie]
  omega
 .rw[pf h];unfold mc;decide
def tP (H:View) (u:V) (P:List bw):Prop:=u=jc P∨aH H u 4 (P.map bL)
theorem tP.mK {H:View} {u:V} {P:List bw} (h:tP H u P):cg H u (jc P):=by
 rcases h with rfl | h
 .exact cg.tree (rl P)
 .exact cg.own h λe he v a=>by
   obtain⟨p,_,rfl⟩:=WQ.1 he
   exact Cr p v a
theorem tP.keep {H H':View} {u:V} {P:List bw} (h:tP H u P) (hk:∀ id,owner u=some id->H' id=H id):tP H' u P:=h.imp id λh=>h.keep hk
theorem tP.live {H:View} {u:V} {P:List bw} (h:tP H u P) {id:Nat} (a:owner u=some id):H id≠.dead:=by
 rcases h with rfl | h
 .simp[owner] at a
 .rw[(h.live a).1];simp
theorem OC {N:List bw} {i m:Nat} {p:bw} (hp:0<=p.av) (h:bP N m):bP (N.set i p) m:=by
 have hm:=Hb h
 unfold bP at h ⊢
 rw[zG hm];split
 .exact hp
 .exact h
def sJ:SC :=
 ai [af [aZ 24 .lss 23 22],cp 24 (.exit 2),.block 3 (ai [af [aa 25 23,aY 26 3 21 23,bj 27 3 26,((some 7),.op (.alloc [(.val (.int .i64 0)),(.emp 1),(.val (.int .i64 0))])),aa 6 25,df 3 7 27],ai [af [aa 28 5,ay 29 0 7,au 30 29,aY 31 4 28 30,ay 32 0 31,au 33 32,aF 34 .geq 33 0],bf 34 (.exit 3)],af [ay 36 1 7,au 37 36,aa 38 3,aT 39 196 [37,38],aa 35 39,dO 40 0 35,dO 41 1 35,((some 8),.op (.alloc [(.val (.int .i64 0)),(.val (.int .i64 0)),(.val (.int .i64 0)),(.val (.int .i64 0))])),df 4 8 40,aa 9 41],af [aa 42 9],bf 42 (ai [af [aa 43 5,ay 44 0 7,au 45 44,aa 46 6,ay 47 1 8,au 48 47,aF 49 .add 48 1,ay 50 2 8,au 51 50,aF 52 .add 51 1,((some 53),.op (.mm false (.val (.val (.int .i64 1048576))) (.tmp 52))),ay 54 3 8,au 55 54,((some 56),.op (.build [(.val (.int .i64 0)),(.val (.int .i64 0)),(.val (.int .i64 0)),(.val (.int .i64 0))] [(0,1,(.tmp 46)),(1,1,(.tmp 49)),(2,1,(.tmp 53)),(3,1,(.tmp 55))])),aY 57 4 43 45,df 4 57 56],af [bc 4 false]])]),af [aF 58 .add 23 1,aa 23 58]]
def oD:SC :=
 ai [ai [af [aa 16 4,cW 17 16],cp 17 (.exit 0)],.block 1 (ai [af [bc 4 true],af [aa 18 3,aT 19 252 [18],aa 5 19],ai [af [ay 20 2 1,au 21 20,aQ 22 21,bb 23 0],cz 2 sJ],af [aa 59 5,aa 3 59]])]
def wX:SF:=⟨ai [af [cJ 1 0,b7 2 1],af [((some 10),.op (.build [(.val (.int .i64 0)),(.val (.int .i64 0)),(.val (.int .i64 0)),(.val (.int .i64 0))] [(0,1,(.val (.val (.int .i64 (-1)))))])),((some 11),.op (.bS 1 4 [(.val (.int .i64 0)),(.val (.int .i64 0)),(.val (.int .i64 0)),(.val (.int .i64 0))] [(0,(.tmp 10))])),ay 12 1 1,au 13 12,aQ 14 13,aT 15 251 [11,14],aa 3 15],ai [af [bc 4 false],cz 0 oD],af [aa 60 3,aa 2 60],.ret],
 [.tmp 2],61⟩
theorem Bf:aG Tryz.prog 195 [1]=some wX:=by kernel_rfl
def UQ (g:ag) (H0:View) (P:List bw) (d i:Nat) (T:Env) (H:View):Prop :=
 ∃ (N:List bw) (u:V),N.length=g.ax.length/\mF P i N (g.rules.drop i)=yG g.rules P/\(∀ m,bP P m->bP N m)/\tP H u P/\owner u≠some d/\H d=.arr 4 (N.map bL) /\
  (∀ id,H0 id≠.dead->H id=H0 id/\id≠d)/\((T 4=gb true/\N=P)∨(T 4=gb false/\∃ m,¬ bP P m/\bP N m)) /\
  T 1=.aN (ak g) 0/\T 3=u/\T 5=.sl d 0 g.ax.length 4/\T 21=.aL (g.rules.map aU)/\T 22=gi g.rules.length/\T 23=gi i
theorem Rg (g:ag) (hg:g.Ok) (M:g.cP) (H:View):ao Tryz.prog 195 [.agg (ak g)] H λr H'=>aH H' r 4 ((aA g).map bL)/\cM H H' r:=by
 refine ao.of mixed Bf ?_
 have z1:=M.th
 have z2:=M.ax
 have z3:=M.rules
 simp(disch:=omega)only[↓wr,seval,wq,wX,ak,encS]
 intro n1 O
 try simp(disch:=omega)only[↓wr,seval,wq]
 refine aq.iM (P1 z1 z2) (by kernel_rfl) ⟨cg.sl (off:=0) (len:=1) (esz:=4) (z:=4) (es:=[bL mc]) (by simp[View.set,bL,mc]) (by simp) (λe he v hv=>by simp at he;subst he;exact Cr _ v hv),cg.tree (.val _),trivial⟩ ?_
 simp(disch:=omega)only[↓wr,seval,wq]
 refine bk.intro (λk T H'=>∃ (j:Nat) (u:V),j<=g.ax.length/\j<=cy (r8 (aB g j))/\tP H' u (aB g j)/\cM H H' u/\T 1=.aN (ak g) 0/\T 3=u /\
   ((T 4=gb false/\j+k=g.ax.length+1)∨(T 4=gb true/\aB g j=aA g/\aH H' u 4 ((aA g).map bL)))) (g.ax.length+1) ?_ ?_
 .refine⟨0,_,by omega,by omega,.inl rfl,λid a=>⟨?_,by simp[owner]⟩,rfl,rfl,.inl ⟨rfl,by omega⟩⟩
  have e:id≠n1:=by rintro rfl;exact a O
  simp[View.set,e]
 clear O
 rintro k T H1 ⟨j,u,hj,P,hu,f,t1,t3,E⟩
 rcases E with ⟨t4,bl⟩ | ⟨t4,A,s⟩
 .have hlen:=gL g j
  simp(disch:=omega)only[↓wr,seval,wq,oD,t1,t3,t4,ak,encS]
  refine aq.bX ((MM (aB g j) (by omega) (by omega) u H1 hu).mono ?_)
  rintro v H2 ⟨hv,F⟩
  obtain⟨d,rfl,p⟩:=hv.sl (by simp;omega)
  simp only[WG,hlen]
  simp(disch:=omega)only[↓wr,seval,wq,t1,t3,t4,ak,encS]
  refine bk.up g.rules.length (UQ g H (aB g j) d) ?_ ?_
  .refine⟨aB g j,u,hlen,rfl,λ_ h=>h,hu.keep λid a=>(F id (hu.live a)).1,λe=>?_,p,λid a=>?_,.inl ⟨rfl,rfl⟩,t1,t3,rfl,rfl,rfl,rfl⟩
   .exact(F d (hu.live e)).2 rfl
   .have h1:=f id a
    have h2:=F id (by rw[h1.1];exact a)
    exact⟨by rw[h2.1,h1.1],λe=>h2.2 (by rw[e];rfl)⟩
  clear t1 t3 t4 hu f F p hv
  rintro i q T H3 hq ⟨N,u,hN,b,hle,hu,G,p,f,E,t1,t3,t5,t21,t22,t23⟩
  simp(disch:=omega)only[↓wr,seval,wq,sJ,t1,t3,t5,t21,t22,t23]
  apply aj.dec<;>intro hc
  .have Q:g.rules[i]?=some (g.rules[i]'(by omega)):=Wp (by omega)
   have y:g.rules[i]'(by omega)∈g.rules:=WA _
   rw[fS (show i < g.rules.length by omega)] at b
   generalize g.rules[i]'(by omega)=r at Q y b
   have hl:=M.left r y
   have R:=hg.av r y
   have S:r.left.toNat < N.length:=by omega
   have U:(N.map bL).getD r.left.toNat []=bL (bE N r.left.toNat):=by simp[bE,Wo,S]
   have hP:=λm=>Ho (g:=g) z3 (show j<=16 by omega) m
   simp(disch:=omega)only[↓wr,seval,wq,t1,t3,t5,t21,t22,t23,Ww,Q,aU,encI]
   intro n t
   have c:d≠n:=by rintro rfl;rw[p] at t;simp at t
   have W:∀ o,tP (H3.set n o) u (aB g j):=λo=>hu.keep λid a=>by
    have:id≠n:=by rintro rfl;exact hu.live a t
    simp[View.set,this]
   have X:∀ o,∀ id,H id≠.dead->(H3.set n o) id=H id/\id≠d:=λo id a=>by
    have h1:=f id a
    have:id≠n:=by rintro rfl;rw[h1.1] at t;exact a t
    exact⟨by simp[View.set,this,h1.1],h1.2⟩
   try simp(disch:=omega)only[↓wr,seval,wq,t1,t3,t5,t21,t22,t23,p,c,c.symm]
   refine⟨by omega,by omega,?_⟩
   try simp(disch:=omega)only[↓wr,seval,wq,t1,t3,t5,t21,t22,t23,p,c,c.symm,U,bL]
   have Y:=s8 (aB g j) r.right bo
   apply aj.dec<;>intro hk
   .simp(disch:=omega)only[↓wr,seval,wq,t1,t3,t5,t21,t22,t23,p,c,c.symm]
    have A:pM (aB g j) i N r=N:=by unfold pM;rw[Wv hk]
    rw[mF,A] at b
    rw[set_set]
    exact aJ hq (by omega) ⟨N,u,hN,b,hle,W _,G,by simp[View.set,c,p],X _,E,t1,t3,t5,t21,t22,rfl⟩
   .simp(disch:=omega)only[↓wr,seval,wq,t1,t3,t5,t21,t22,t23,p,c,c.symm]
    refine aq.iM (P4 (aB g j) hP r.right R.2.2.1 λx hx=>⟨R.2.2.2 x hx,λt=>by rw[hlen];exact M.neg y hx t⟩) (by kernel_rfl) ⟨cg.tree (aX r.right),by rw[set_set];exact(W _).mK,trivial⟩ ?_
    have Z:=rW (λm=>qb g j m) r.right bo j8
    have a7:(0:Int)<=(bI (aB g j) r.right bo).1.bO:=Y
    have ab:k8 (aB g j) r.right->(bI (aB g j) r.right bo).1.bO<=16:=λha=>(jn (aB g j) 16 r.right bo ha).2 ⟨by simp[bo],λx hx t=>by have:=(gP g j _ (ha x hx t)).2.1;omega⟩
    have ae:=jM (aB g j) r.right bo
    generalize I:bI (aB g j) r.right bo=sp at Z a7 ab ae
    unfold gm at Z
    simp(disch:=omega)only[↓wr,seval,wq,t1,t3,t5,t21,t22,t23,p,c,c.symm,bL]
    intro q2 al
    have B:=(dg al dG).1
    have l:=(dg (dg al dG).2 dG).2
    have w:d≠q2:=by rintro rfl;rw[p] at l;simp at l
    try simp(disch:=omega)only[↓wr,seval,wq,t1,t3,t5,t21,t22,t23,p,c,c.symm,B,B.symm,w,w.symm,bL]
    apply aj.split<;>intro hb
    .have bn:=ab (ae.1 hb)
     simp(disch:=omega)only[↓wr,seval,wq,t1,t3,t5,t21,t22,t23,p,c,c.symm,B,B.symm,w,w.symm,bL]
     refine⟨by omega,by omega,?_⟩
     have A:pM (aB g j) i N r=N.set r.left.toNat (ie (aB g j) i r):=by unfold pM;rw[Ws hk,I,Wv hb]
     rw[mF,A] at b
     have C:(ie (aB g j) i r)=⟨i,sp.1.bO+1,min 1048576 (sp.1.rules+1),sp.1.an⟩:=by rw[ie,I]
     have ar:0<=(ie (aB g j) i r).av:=by rw[C];simp only;omega
     have a1:¬ bP N r.left.toNat:=hk
     refine aJ hq (by omega) ⟨_,u,by simp[hN],b,λm hm=>OC ar (hle m hm),?_,G,?_,?_,.inr ⟨rfl,r.left.toNat,λa8=>a1 (hle _ a8),?_⟩,t1,t3,t5,t21,t22,rfl⟩
     .refine hu.keep λid a=>?_
      have J:id≠n:=by rintro rfl;exact hu.live a t
      have K:id≠q2:=by rintro rfl;exact hu.live a l
      have e3:id≠d:=by rintro rfl;exact G a
      simp[View.set,J,K,e3]
     .simp only[View.set,if_true]
      rw[Yr,C,U];simp only[bL,List.drop_succ_cons,List.drop_nil,X1,Hk]
     .intro id a
      have h1:=f id a
      have J:id≠n:=by rintro rfl;rw[h1.1] at t;exact a t
      have K:id≠q2:=by rintro rfl;rw[h1.1] at l;exact a l
      exact⟨by simp[View.set,J,K,h1.2,h1.1],h1.2⟩
     .unfold bP;rw[zG S,Wv rfl];exact ar
    .simp(disch:=omega)only[↓wr,seval,wq,t1,t3,t5,t21,t22,t23,p,c,c.symm,B,B.symm,w,w.symm,bL]
     have A:pM (aB g j) i N r=N:=by unfold pM;rw[Ws hk,I,Ws (by rw[hb];simp)]
     rw[mF,A] at b
     refine aJ hq (by omega) ⟨N,u,hN,b,hle,?_,G,by simp[View.set,c,w,p],?_,E,t1,t3,t5,t21,t22,rfl⟩
     .refine hu.keep λid a=>?_
      have J:id≠n:=by rintro rfl;exact hu.live a t
      have K:id≠q2:=by rintro rfl;exact hu.live a l
      simp[View.set,J,K]
     .intro id a
      have h1:=f id a
      have J:id≠n:=by rintro rfl;rw[h1.1] at t;exact a t
      have K:id≠q2:=by rintro rfl;rw[h1.1] at l;exact a l
      exact⟨by simp[View.set,J,K,h1.1],h1.2⟩
  .simp(disch:=omega)only[↓wr,seval,wq,t1,t3,t5,t21,t22,t23]
   rw[Xb (by omega),mF,<-oz] at b
   have s:aH H3 (.sl d 0 g.ax.length 4) 4 (N.map bL):=.inr ⟨d,by simp[hN],p⟩
   have a6:cM H H3 (.sl d 0 g.ax.length 4):=λid a=>⟨(f id a).1,λe=>(f id a).2 (by simp[owner] at e;exact e.symm)⟩
   rw[b] at s
   rcases E with ⟨E,he⟩ | ⟨E,m,bd,L⟩
   .have D:aB g (j+1)=aB g j:=by rw[<-b,he]
    have C:=RB hj D
    rw[D] at s
    exact⟨0,by omega,j,_,hj,P,.inr s,a6,rfl,rfl,.inr ⟨E,C,by rw[<-C];exact s⟩⟩
   .rw[b] at L
    rcases L1 P with e | e
    .rw[e] at L;exact absurd L bd
    .have:=I7 g (j+1)
     exact⟨k - 1,by omega,j+1,_,by omega,e,.inr s,a6,rfl,rfl,.inl ⟨E,by omega⟩⟩
 .simp(disch:=omega)only[↓wr,seval,wq,oD,t1,t3,t4]
  exact⟨s,f⟩
theorem Pp {h:Heap} {u:V} {P:List bw} (b:aH h.view u 4 (P.map bL)):du h u (jc P):=by
 refine du.own b rfl (λi _=>rfl) (λi j hi a=>?_)
 simp only[WG] at hi
 have e:(P.map bL).getD i []=bL P[i]:=by simp[Wo,hi]
 rw[e] at a ⊢
 match j,a with
 | 0,_=>exact .val _
 | 1,_=>exact .val _
 | 2,_=>exact .val _
 | 3,_=>exact .val _
 | n+4,h=>exact absurd h (by simp[bL])
theorem QX (g:ag) (a:g.Ok) (b:g.cP):cd Tryz.prog 195 [.agg (ak g)] (jc (aA g)) :=
 cd.of (eR g) ((Rg g a b _).mono λr H' h d c=>Pp (by rw[c];exact h.1))
theorem Oo (g:ag) (f:Nat) (l:List Int) (i:Nat):(eD g (aA g) f (l.take i)).length<=(eD g (aA g) f l).length:=by
 have:=jh g (aA g) f (l.take i) (l.drop i)
 rw[Yo] at this
 rw[this];simp
theorem NX (g:ag) (f:Nat) (l:List Int) (i:Nat):(dJ g (aA g) f (l.take i)).length<=(dJ g (aA g) f l).length:=by
 have:=iw g (aA g) f (l.take i) (l.drop i)
 rw[Yo] at this
 rw[this];simp
def LP (x:List Int × Int):V:=.aO [encI x.1,gi x.2]
theorem vx {h:Heap} {u:V} {x:List Int × Int} (hu:du h u (encI x.1)):du h (.aO [u,gi x.2]) (LP x):=G7 hu (.val _)
theorem rK {g:ag} {l:List Int} (h:k8 (aA g) l):Bh (aA g) g.ax.length l:=λx a b=>⟨h x a b,(tT (h x a b)).2⟩
theorem Ph {g:ag} {l:List Int} (h:k8 (aA g) l) (a:(bI (aA g) l bo).1.rules<=300):((eD g (aA g) g.ax.length l).length:Int)=(bI (aA g) l bo).1.rules:=by
 have:=(np g g.ax.length l bo (rK h) j8).1
 simp only[bo] at this a ⊢
 omega
theorem Nu {g:ag} {l:List Int} (h:k8 (aA g) l) (a:(bI (aA g) l bo).1.an<=60):((dJ g (aA g) g.ax.length l).length:Int)=(bI (aA g) l bo).1.an:=by
 have:=(np g g.ax.length l bo (rK h) j8).2
 simp only[bo] at this a ⊢
 omega
def bZ {κ:Type} (kv:κ->V) (m:bQ κ):List (V × V × Nat):=m.map λx=>(kv x.1,x.2.1,x.2.2)
structure AB {κ:Type} [BEq κ] (P:Program) (kt:TypeId) (kv:κ->V):Prop where
 find:∀ k e m,lG P kt (kv k) e (bZ kv m)=some (fC k m)
 same:∀ k,sameKey (kv k) (kv k)=true
def j5 {κ:Type} (m:bQ κ) (c:Nat):Prop:=(m.map (·.2.2)).Nodup/\∀ x∈m,x.2.2 < c
def ka {κ:Type} [BEq κ] (m:bQ κ) (k:κ):Option Nat:=(m.find? λx=>k == x.1).map (·.2.2)
section
variable {κ:Type} [BEq κ] [LawfulBEq κ] {kv:κ->V}
theorem mI (k:κ):∀ m:bQ κ,match fC k m with
  | some i=>∃ x,m[i]?=some x/\x.1=k/\getM m k=some x.2.1/\ka m k=some x.2.2/\(bZ kv m)[i]?=some (kv k,x.2.1,x.2.2)/\∀ v c,(bZ kv m).set i (kv k,v,x.2.2)=bZ kv (bz k v c m)/\ka (bz k v c m) k=some x.2.2/\(bz k v c m).map (·.2.2)=m.map (·.2.2)
  | none=>getM m k=none/\ka m k=none/\∀ v c,bZ kv m ++ [(kv k,v,c)]=bZ kv (bz k v c m)/\ka (bz k v c m) k=some c/\(bz k v c m).map (·.2.2)=m.map (·.2.2) ++ [c]
 | []=>⟨rfl,rfl,λv c=>⟨rfl,by simp[bz,ka],rfl⟩⟩
 | x :: r=>by
  have a:=mI k r
  simp only[fC]
  cases hk:k == x.1 with
  | true =>
   have b:x.1=k:=(eq_of_beq hk).symm
   exact⟨x,rfl,b,by simp[getM,hk],by simp[ka,hk],by simp[bZ,b],λv c=>by simp[bz,hk,bZ,ka]⟩
  | false =>
   simp only[WR,if_false]
   cases hi:fC k r with
   | some i =>
    rw[hi] at a
    obtain⟨y,h1,d,e,f,g,h⟩:=a
    refine⟨y,by simpa using h1,d,by simpa [getM,hk] using e,by simpa [ka,hk] using f,by simpa [bZ] using g,λv c=>?_⟩
    obtain⟨g1,g2,g3⟩:=h v c
    exact⟨by simp only[bZ] at g1 ⊢;simp[bz,hk,g1],by simpa [bz,hk,ka] using g2,by simp[bz,hk,g3]⟩
   | none =>
    rw[hi] at a
    refine⟨by simpa [getM,hk] using a.1,by simpa [ka,hk] using a.2.1,λv c=>?_⟩
    obtain⟨g1,g2,g3⟩:=a.2.2 v c
    exact⟨by simp only[bZ] at g1 ⊢;simp[bz,hk,g1],by simpa [bz,hk,ka] using g2,by simp[bz,hk,g3]⟩
theorem j5.put {m:bQ κ} {c:Nat} (h:j5 m c) (k:κ) (v:V):j5 (bz k v c m) (c+1):=by
 have f:=mI (kv:=λ_=>V.any) k m
 cases i:fC k m with
 | some j =>
  rw[i] at f
  obtain⟨y,_,_,_,_,_,n⟩:=f
  have e:=(n v c).2.2
  refine⟨by rw[e];exact h.1,λx g=>?_⟩
  have:x.2.2∈m.map (·.2.2):=by rw[<-e];exact WQ.2 ⟨x,g,rfl⟩
  obtain⟨y,d,o⟩:=WQ.1 this
  have:=h.2 y d
  omega
 | none =>
  rw[i] at f
  have e:=(f.2.2 v c).2.2
  refine⟨?_,λx g=>?_⟩
  .rw[e,XV]
   refine⟨h.1,by simp,λa p b l=>?_⟩
   simp at l;subst l
   obtain⟨y,d,rfl⟩:=WQ.1 p
   have:=h.2 y d
   omega
  .have:x.2.2∈m.map (·.2.2) ++ [c]:=by rw[<-e];exact WQ.2 ⟨x,g,rfl⟩
   rcases WN.1 this with h1 | h1
   .obtain⟨y,d,o⟩:=WQ.1 h1
    have:=h.2 y d
    omega
   .simp at h1;omega
theorem j5.Rp {m:bQ κ} {c:Nat} (h:j5 m c) {k:κ} {b:Nat} (d:ka m k=some b) (v:V) (f:Nat):j5 (bz k v f m) c:=by
 have a:=mI (kv:=λ_=>V.any) k m
 cases g:fC k m with
 | some j =>
  rw[g] at a
  obtain⟨y,_,_,_,_,_,i⟩:=a
  have e:=(i v f).2.2
  refine⟨by rw[e];exact h.1,λx l=>?_⟩
  have:x.2.2∈m.map (·.2.2):=by rw[<-e];exact WQ.2 ⟨x,l,rfl⟩
  obtain⟨y,n,o⟩:=WQ.1 this
  have:=h.2 y n
  omega
 | none =>
  rw[g] at a
  rw[a.2.1] at d;simp at d
omit [BEq κ] [LawfulBEq κ] in
theorem find_born (b:Nat):∀ (m:bQ κ) (i:Nat) (x:κ × V × Nat),(m.map (·.2.2)).Nodup->m[i]?=some x->x.2.2=b->(bZ kv m).findIdx? (λe=>e.2.2 == b)=some i
 | [],i,x,_,h,_=>by simp at h
 | y :: m,0,x,a,h,e=>by
  simp at h;subst h
  simp[bZ,List.findIdx?_cons,e]
 | y :: m,i+1,x,a,h,e=>by
  simp only[WZ,Xq] at a
  have h:m[i]?=some x:=by simpa using h
  have f:x∈m:=WI h
  have c:¬ y.2.2=b:=λg=>a.1 (by rw[g,<-e];exact WQ.2 ⟨x,f,rfl⟩)
  have d:=find_born b m i x a.2 h e
  simp only[bZ] at d
  simp[bZ,List.findIdx?_cons,c,d]
variable {P:Program} {T:Env} {H:View} {kt et t ty:TypeId}
theorem FU {K:V->View->Prop} {w:ct (T,H,K)} {x i:Operand} {z:V} {id c:Nat} {m:bQ κ} {k:κ} (hm:dR P t=some (kt,et)) (d:zeroV P et=some z) (hk:AB P kt kv)
  (e:ev T x=.mp id) (hi:ev T i=kv k) (hH:H id=.map (bZ kv m) c) (h:K ((getM m k).getD z) H):iZ P (.lookup t x i false) ty T H K w:=by
 intro n _
 have f:=hk.find k (bZ kv m).isEmpty m
 have a:=mI (kv:=kv) k m
 refine⟨(getM m k).getD z,.none,[id],?_,h⟩
 simp only[sI,bR,oper,fc,hm,d,e,hi,hH,f]
 cases b:fC k m with
 | some j =>
  rw[b] at a
  obtain⟨y,h1,o,g,p,l,_⟩:=a
  simp[l,g]
 | none =>
  rw[b] at a
  simp[a.1]
theorem Ej {z:V} {id c:Nat} {m:bQ κ} {k:κ} (hm:dR P t=some (kt,et)) (l:zeroV P et=some z) (hk:AB P kt kv) (hH:H id=.map (bZ kv m) c) (e:j5 m c) :
  ∃ b f,ew P t (.mp id) (kv k) H=some (.aO [(getM m k).getD z,bU b],.eP id (.map (bZ kv (bz k ((getM m k).getD z) c m)) f),[id])/\j5 (bz k ((getM m k).getD z) c m) f/\ka (bz k ((getM m k).getD z) c m) k=some b:=by
 have d:=hk.find k false m
 have a:=mI (kv:=kv) k m
 cases g:fC k m with
 | some j =>
  rw[g] at a d
  obtain⟨y,h1,p,h,n,o,i⟩:=a
  refine⟨y.2.2,c,?_,?_,?_⟩
  .simp only[ew,hm,hH,d,o,hk.same k,if_true,h,WJ]
   rw[(i y.2.1 c).1]
  .exact e.Rp n _ _
  .rw[h];exact(i _ c).2.1
 | none =>
  rw[g] at a d
  refine⟨c,c+1,?_,e.put k _,?_⟩
  .simp only[ew,hm,hH,d,l,a.1,Option.getD_none]
   rw[(a.2.2 z c).1]
  .rw[a.1];exact(a.2.2 _ c).2.1
theorem PO {K:V->View->Prop} {w:ct (T,H,K)} {x i:Operand} {z:V} {id c:Nat} {m:bQ κ} {k:κ} (hm:dR P t=some (kt,et)) (d:zeroV P et=some z) (hk:AB P kt kv)
  (e:ev T x=.mp id) (hi:ev T i=kv k) (hH:H id=.map (bZ kv m) c) (f:j5 m c)
  (h:∀ b a,j5 (bz k ((getM m k).getD z) c m) a->ka (bz k ((getM m k).getD z) c m) k=some b->K (.aO [(getM m k).getD z,bU b]) (H.set id (.map (bZ kv (bz k ((getM m k).getD z) c m)) a))):iZ P (.mapEntry t x i) ty T H K w:=by
 intro n _
 obtain⟨b,a,h1,g,j⟩:=Ej (k:=k) hm d hk hH f
 refine⟨.aO [(getM m k).getD z,bU b],.eP id (.map (bZ kv (bz k ((getM m k).getD z) c m)) a),[id],?_,h b a g j⟩
 simp only[sI,bR,oper,e,hi]
 exact h1
theorem NU {K:V->View->Prop} {w:ct (T,H,K)} {x s y:Operand} {id c b:Nat} {m:bQ κ} {k:κ} {v:V} (i:ev T x=.mp id) (l:ev T s=bU b) (o:ev T y=v) (hH:H id=.map (bZ kv m) c) (p:j5 m c) (a:ka m k=some b)
  (h:∀ c0,K .any (H.set id (.map (bZ kv (bz k v c0 m)) c))):iZ P (.entryStore t x s y) ty T H K w:=by
 intro n _
 have d:=mI (kv:=kv) k m
 cases g:fC k m with
 | none=>rw[g] at d;rw[d.2.1] at a;simp at a
 | some j =>
  rw[g] at d
  obtain⟨z,h1,B,C,f,q,r⟩:=d
  rw[a] at f
  have e:z.2.2=b:=by simp at f;exact f.symm
  have u:=find_born (kv:=kv) b m j z p.1 h1 e
  refine⟨.any,.eP id (.map (bZ kv (bz k v c m)) c),[id],?_,h c⟩
  have A:asNat (bU b)=some b:=by simp[asNat,bU]
  simp only[sI,bR,oper,i,l,o,ko,A,hH,u,q]
  rw[(r v c).1]
theorem Us {z:V} {id c:Nat} {m:bQ κ} {k:κ} (hm:dR P t=some (kt,et)) (f:zeroV P et=some z) (hk:AB P kt kv) (hH:H id=.map (bZ kv m) c) (i:j5 m c):Hz P t (.mp id) (kv k) H:=by
 refine⟨⟨_,_,hH⟩,λv obj rd he=>?_⟩
 obtain⟨b,l,h1,n,g⟩:=Ej (k:=k) hm f hk hH i
 rw[he] at h1
 simp only[Wu,Wx,aS.eP.injEq] at h1
 obtain⟨_,⟨_,rfl⟩,_⟩:=h1
 have key:∀ (a:bQ κ) (c2:Nat) (H':View),H' id=.map (bZ kv a) c2->fc P t (.mp id) (kv k) false H'=some ((getM a k).getD z,.none,[id]):=by
  intro a c2 H' e
  have o:=hk.find k (bZ kv a).isEmpty a
  have d:=mI (kv:=kv) k a
  simp only[fc,hm,f,e,o]
  cases h:fC k a with
  | some j =>
   rw[h] at d
   obtain⟨y,h1,n,g,q,p,_⟩:=d
   simp[p,g]
  | none =>
   rw[h] at d
   simp[d.1]
 rw[key (bz k ((getM m k).getD z) c m) l _ (by simp[View.set]),key m c H hH,kh]
 simp
end
def fk (x:Item):List V:=[bU x.av,bU x.dot,bU x.dB]
def qC (x:Item):V:=.agg (fk x)
def lI (x:Item):Value:=.agg #[.int .i64 x.av,.int .i64 x.dot,.int .i64 x.dB]
theorem AX (x:Item):cO (qC x)=some (lI x):=rfl
theorem Bu:∀ m:bQ Item,fN (bZ qC m)=some (m.map λx=>{ key:=lI x.1,val:=.nilFunc,born:=x.2.2 })
 | []=>rfl
 | x :: r=>by
  have:=Bu r
  simp only[bZ] at this
  simp[bZ,fN,AX,this]
structure T3 (P:Program) (kt:TypeId):Prop where
 ty:∃ f0 f1 f2:Field,P.underlying kt=some (.struct #[f0,f1,f2])/\f0.name≠ "_" /\ f1.name≠ "_" /\ f2.name≠ "_" /\ P.underlying f0.type=some (.int .i64)/\P.underlying f1.type=some (.int .i64)/\P.underlying f2.type=some (.int .i64)/\f0.offset=0/\f1.offset=1/\f2.offset=2
 held:P.stoodInHeld kt=false
theorem rX {P:Program} {α:Type} (x:α):aP P (pure x:Sem α)=some x:=rfl
theorem Ut {P:Program} {kt:TypeId} (h:T3 P kt):AB P kt qC where
 same:=λk=>by simp[sameKey,AX,lI,Instr.sameBits]
 find:=by
  obtain⟨f0,f1,f2,hu,t,u,w,f,g,l,o0,n,o⟩:=h.ty
  have heq:∀ a b:Item,aP P (Op.equal kt (lI a) (lI b))=some (a == b):=by
   intro a b
   have y:gp P 9998 #[.int .i64 (a.av:Int),.int .i64 (a.dot:Int),.int .i64 (a.dB:Int)] #[.int .i64 (b.av:Int),.int .i64 (b.dot:Int),.int .i64 (b.dB:Int)] [f0,f1,f2] (((a.av:Int) == b.av) && (((a.dot:Int) == b.dot) && (((a.dB:Int) == b.dB) && true))) :=
    .int f0 _ _ .i64 _ _ t f (by rw[o0];rfl) (by rw[o0];rfl) (.int f1 _ _ .i64 _ _ u g (by rw[n];rfl) (by rw[n];rfl) (.int f2 _ _ .i64 _ _ w l (by rw[o];rfl) (by rw[o];rfl) .nil))
   rw[lI,lI,rU hu h.held y]
   congr 1
   rw[Xm]
   simp only[WC,Xw,Int.natCast_inj,and_true]
   cases a;cases b;simp
  have c:∀ (k:Item) (m:bQ Item) (i:Nat),aP P (Instr.findAsking kt (lI k) (m.map λx=>{ key:=lI x.1,val:=.nilFunc,born:=x.2.2 }) i)=some ((fC k m).map λj=>(i+j,.nilFunc)):=by
   intro k m
   induction m with
   | nil=>intro i;rfl
   | cons x r z =>
    intro i
    simp only[WZ,Instr.findAsking,aI,heq,WV,fC]
    cases hk:k == x.1 with
    | true=>simp[rX]
    | false =>
     simp only[WR,if_false,z (i+1),Option.map_map]
     congr 2
     funext j
     simp only[Function.comp]
     congr 1
     omega
  have hint:∀ (e:Bool) (p:TypeId) (v:Value),P.underlying p=some (.int .i64)->aP P (Instr.checkKey e 9999 p v)=some ():=λe p v q=>we q trivial e 9998 v
  have d:∀ (k:Item) (e:Bool),aP P (Instr.checkKey e 10000 kt (lI k))=some ():=by
   intro k e
   unfold Instr.checkKey lI
   rw[aI,cU hu,WV]
   have A:=dE (P:=P) f (.inr ⟨_,rfl⟩) #[.int .i64 (k.av:Int),.int .i64 (k.dot:Int),.int .i64 (k.dB:Int)] f0.offset (v:=.int .i64 k.av) (by rw[o0];rfl)
   have B:=dE (P:=P) g (.inr ⟨_,rfl⟩) #[.int .i64 (k.av:Int),.int .i64 (k.dot:Int),.int .i64 (k.dB:Int)] f1.offset (v:=.int .i64 k.dot) (by rw[n];rfl)
   have C:=dE (P:=P) l (.inr ⟨_,rfl⟩) #[.int .i64 (k.av:Int),.int .i64 (k.dot:Int),.int .i64 (k.dB:Int)] f2.offset (v:=.int .i64 k.dB) (by rw[o];rfl)
   simp only[<-Array.forIn_toList,List.forIn_cons,List.forIn_nil,Wv t,Wv u,Wv w,aI,A,B,C,hint e _ _ f,hint e _ _ g,hint e _ _ l,WV,rX]
  intro k e m
  have s:aP P (underlying kt)=some _:=cU hu
  simp only[lG,AX,Bu,aI,d,WV]
  have:aP P (Instr.findKey kt (lI k) (m.map λx=>{ key:=lI x.1,val:=.nilFunc,born:=x.2.2 }))=some ((fC k m).map λj=>(0+j,.nilFunc)):=by
   unfold Instr.findKey
   rw[aI,s,WV]
   cases m with
   | nil=>rfl
   | cons x r=>exact c k (x :: r) 0
  rw[this]
  cases fC k m with
  | none=>rfl
  | some j=>simp
def NN (m:bQ Item) (s:List Item) (B:Nat):Prop:=∀ x,(x∈s->∃ k:Nat,getM m x=some (bU k)/\1<=k/\k<=B)/\(x ∉ s->getM m x=none)
structure mj (H:View) (c sid mid:Nat) (sv:Nat->V) (mi:Nat->Nat) (mm:Nat->bQ Item) (cl:Nat->Nat) (g:ag) (p:List Int) (nu:V) (S S1:Nat->List Item) (B n:Nat) (K:List (Nat × bN)):Prop where
 box:H c=.arr 8 [[.aL (g.an.map dp),encS g.ax,.aL (g.rules.map aU),gi g.start,encI p,nu,.sl sid 0 n 1,.sl mid 0 n 1]]
 iG:H sid=.arr 1 ((List.range n).map λj=>[sv j])
 seen:H mid=.arr 1 ((List.range n).map λj=>[.mp (mi j)])
 set:∀ j,j < n->aH H (sv j) 3 ((S j).map fk)
 map:∀ j,j < n->H (mi j)=.map (bZ qC (mm j)) (cl j)/\j5 (mm j) (cl j)/\NN (mm j) (S1 j) B
 ne:sid≠mid
 yL:∀ i j o,i < n->j < n->owner (sv i)=some o->owner (sv j)=some o->i=j
 C9:∀ i j,i < n->j < n->mi i=mi j->i=j
 off:∀ q∈K,H q.1=q.2/\q.2≠.dead/\q.1≠sid/\(∀ j,j < n->q.1≠mi j)/\∀ j,j < n->owner (sv j)≠some q.1
def Ch (H:View) (c:Nat) (g:ag) (p:List Int) (nu:V) (S:Nat->List Item) (B n:Nat) (K:List (Nat × bN)):Prop:=∃ sid mid sv mi mm cl,mj H c sid mid sv mi mm cl g p nu S S B n K
def jB (S:Nat->List Item) (a:Nat) (x:Item):Nat->List Item:=λb=>if b=a then (if x∈S a then S a else S a ++ [x]) else S b
theorem Ch.more {H:View} {c:Nat} {g:ag} {p:List Int} {e:V} {S:Nat->List Item} {B B' n:Nat} {K:List (Nat × bN)} (h:Ch H c g p e S B n K) (o:B<=B'):Ch H c g p e S B' n K:=by
 obtain⟨b,d,f,i,mm,cl,h⟩:=h
 refine⟨b,d,f,i,mm,cl,h.box,h.iG,h.seen,h.set,λj a=>⟨(h.map j a).1,(h.map j a).2.1,λx=>⟨λl=>?_,((h.map j a).2.2 x).2⟩⟩,h.ne,h.yL,h.C9,h.off⟩
 obtain⟨k,h1,m,q⟩:=((h.map j a).2.2 x).1 l
 exact⟨k,h1,m,by omega⟩
theorem Ch.drop {H:View} {c:Nat} {g:ag} {p:List Int} {d:V} {S:Nat->List Item} {B n:Nat} {q:Nat × bN} {K:List (Nat × bN)} (h:Ch H c g p d S B n (q :: K)):Ch H c g p d S B n K:=by
 obtain⟨a,b,e,f,mm,cl,h⟩:=h
 exact⟨a,b,e,f,mm,cl,h.box,h.iG,h.seen,h.set,h.map,h.ne,h.yL,h.C9,λq i=>h.off q (by simp[i])⟩
theorem mj.new {H:View} {c f i:Nat} {m:Nat->V} {r:Nat->Nat} {mm:Nat->bQ Item} {cl:Nat->Nat} {g:ag} {p:List Int} {s:V} {S t:Nat->List Item} {B n:Nat} {K:List (Nat × bN)} (h:mj H c f i m r mm cl g p s S t B n K)
  {b:Nat} {o:bN} (k:H b=.dead) (v:o≠.dead):mj (H.set b o) c f i m r mm cl g p s S t B n ((b,o) :: K):=by
 have keep:∀ id,H id≠.dead->(H.set b o) id=H id:=λid d=>by
  have e:id≠b:=by rintro rfl;exact d k
  simp[View.set,e]
 have live:∀ {id},H id≠.dead->b≠id:=λd e=>d (e ▸ k)
 refine⟨?_,?_,?_,λj a=>?_,λj a=>?_,h.ne,h.yL,h.C9,λq l=>?_⟩
 .rw[keep _ (by rw[h.box];simp)];exact h.box
 .rw[keep _ (by rw[h.iG];simp)];exact h.iG
 .rw[keep _ (by rw[h.seen];simp)];exact h.seen
 .exact(h.set j a).fresh k
 .rw[keep _ (by rw[(h.map j a).1];simp)];exact h.map j a
 .rcases WK.1 l with rfl | l
  .refine⟨by simp[View.set],v,live (by rw[h.iG];simp),λj a=>live (by rw[(h.map j a).1];simp),λj a=>?_⟩
   have:=(h.set j a).ne k
   exact this
  .obtain⟨h1,u,w⟩:=h.off q l
   exact⟨by rw[keep _ (by rw[h1];exact u)];exact h1,u,w⟩
theorem Ch.new {H:View} {c:Nat} {g:ag} {p:List Int} {e:V} {S:Nat->List Item} {B n b:Nat} {o:bN} {K:List (Nat × bN)} (h:Ch H c g p e S B n K) (f:H b=.dead) (i:o≠.dead):Ch (H.set b o) c g p e S B n ((b,o) :: K):=by
 obtain⟨a,d,j,k,mm,cl,h⟩:=h
 exact⟨a,d,j,k,mm,cl,h.new f i⟩
theorem Ch.kept {H:View} {c:Nat} {g:ag} {p:List Int} {a:V} {S:Nat->List Item} {B n:Nat} {K:List (Nat × bN)} (h:Ch H c g p a S B n K):∀ q∈K,H q.1=q.2:=by
 obtain⟨b,d,f,i,mm,cl,h⟩:=h
 exact λq e=>(h.off q e).1
def pW:SF:=⟨ai [af [cJ 5 2],.uP (188,12,13) [] [⟨none,[aa 6 0,eW 7 6,ay 8 7 7,au 9 8,aa 10 1,aY 11 1 9 10,au 12 11,bj 13 3 5,((some 14),.op (.old (.lookup 188 (.tmp 12) (.tmp 13) false) 3)),aF 15 .add 14 1,((some 16),.op (.old (.mapEntry 188 (.tmp 12) (.tmp 13)) 0)),dO 17 1 16,(none,.op (.old (.entryStore 188 (.tmp 12) (.tmp 17) (.tmp 15)) 0))]⟩],af [aa 18 0,eW 19 18,ay 20 7 19,au 21 20,aa 22 1,aY 23 1 21 22,au 24 23,bj 25 3 5,((some 26),.op (.old (.lookup 188 (.tmp 24) (.tmp 25) false) 3)),aF 27 .eql 26 1],bf 27 (.rH [(30,39)] [⟨none,[aa 28 0,eW 29 28,ay 30 6 29,au 31 30,aa 32 1,aa 33 0,eW 34 33,ay 35 6 34,au 36 35,aa 37 1,aY 38 1 36 37,au 39 38,bj 40 3 5,((some 41),.op (.bS 1 3 [(.val (.int .i64 0)),(.val (.int .i64 0)),(.val (.int .i64 0))] [(0,(.tmp 40))])),iR 42 3 24 39 41,aY 43 1 31 32,df 1 43 42]⟩])],
 [],44⟩
theorem ux:aG Tryz.prog 176 [5,100000]=some pW:=by kernel_rfl
theorem RY:T3 Tryz.prog 191 :=
 ⟨⟨⟨ "rule",3,0,false,"","gerund/oracle",0⟩,⟨ "dot",3,1,false,"","gerund/oracle",8⟩,⟨ "from",3,2,false,"","gerund/oracle",16⟩,by kernel_rfl,by decide,by decide,by decide,Tryz.underlying3,Tryz.underlying3,Tryz.underlying3,rfl,rfl,rfl⟩,by kernel_rfl⟩
theorem SP {m:bQ Item} {s:List Item} {B c c0:Nat} {x:Item} (h:NN m s B) (k:Nat) (hk:(x∈s/\getM m x=some (bU k))∨(x ∉ s/\k=0)) (i:k<=B) (z:V):NN (bz x (bU (k+1:Nat)) c0 (bz x z c m)) (if x∈s then s else s ++ [x]) (B+1):=by
 intro y
 rw[kh,kh]
 by_cases e:y=x
 .subst e
  refine⟨λ_=>⟨k+1,by simp,by omega,by omega⟩,λd=>?_⟩
  exfalso
  by_cases a:y∈s
  .rw[Wv a] at d;exact d a
  .rw[Ws a] at d;exact d (by simp)
 .have e':(y == x)=false:=by simpa using e
  simp only[e',WR,if_false]
  have b:(y∈if x∈s then s else s ++ [x])↔y∈s:=by
   split
   .exact Iff.rfl
   .simp[e]
  rw[b]
  refine⟨λa=>?_,(h y).2⟩
  obtain⟨f,h1,g,j⟩:=(h y).1 a
  exact⟨f,h1,g,by omega⟩
theorem mj.wrote {H:View} {c f i:Nat} {v:Nat->V} {d:Nat->Nat} {mm:Nat->bQ Item} {cl:Nat->Nat} {g:ag} {p:List Int} {w:V} {S r:Nat->List Item} {B n:Nat} {K:List (Nat × bN)} (h:mj H c f i v d mm cl g p w S r B n K)
  {a:Nat} (s:a < n) {x:Item} {l:bQ Item} {o:Nat} (D:j5 l o) (E:NN l (jB r a x a) (B+1)) :
  mj (H.set (d a) (.map (bZ qC l) o)) c f i v d (λj=>if j=a then l else mm j) (λj=>if j=a then o else cl j) g p w S (jB r a x) (B+1) n K:=by
 obtain⟨t,F,G⟩:=h.map a s
 have keep:∀ id z es,H id=.arr z es->(H.set (d a) (.map (bZ qC l) o)) id=H id:=λid z es b=>by
  have e:id≠d a:=by rintro rfl;rw[t] at b;simp at b
  simp[View.set,e]
 refine⟨?_,?_,?_,λj m=>?_,λj m=>?_,h.ne,h.yL,h.C9,λq I=>?_⟩
 .rw[keep _ _ _ h.box];exact h.box
 .rw[keep _ _ _ h.iG];exact h.iG
 .rw[keep _ _ _ h.seen];exact h.seen
 .exact(h.set j m).keep λid b=>keep _ _ _ ((h.set j m).live b).1
 .by_cases e:j=a
  .subst e
   simp only[if_true]
   exact⟨by simp[View.set],D,E⟩
  .have J:d j≠d a:=λq=>e (h.C9 j a m s q)
   simp only[Ws e]
   obtain⟨g1,g2,g3⟩:=h.map j m
   refine⟨by simp[View.set,J,g1],g2,?_⟩
   simp only[jB,Ws e]
   intro y
   refine⟨λL=>?_,(g3 y).2⟩
   obtain⟨k,h1,u,A⟩:=(g3 y).1 L
   exact⟨k,h1,u,by omega⟩
 .obtain⟨h1,u,A,C,M⟩:=h.off q I
  exact⟨by simp[View.set,C a s,h1],u,A,C,M⟩
theorem mj.TZ {H H':View} {c d s:Nat} {m:Nat->V} {z:Nat->Nat} {mm:Nat->bQ Item} {cl:Nat->Nat} {g:ag} {p:List Int} {D:V} {S E:Nat->List Item} {B n:Nat} {K:List (Nat × bN)} (h:mj H c d s m z mm cl g p D S E B n K)
  {a:Nat} (v:a < n) {x:Item} (F:¬ x∈S a) {u':V} (G:aH H' u' 3 ((S a).map fk ++ [fk x])) (I:Left H H' (m a) u') :
  mj (H'.set d (.arr 1 (((List.range n).map λj=>[m j]).set a [u']))) c d s (λj=>if j=a then u' else m j) z mm cl g p D (jB S a x) E B n K:=by
 have own:∀ {id},owner (m a)=some id->H id=.arr 3 ((S a).map fk):=λr=>((h.set a v).live r).1
 have J:owner (m a)≠some d:=λe=>by
  have:=own e
  rw[h.iG] at this;simp at this
 have keep:∀ id,H id≠.dead->owner (m a)≠some id->H' id=H id/\owner u'≠some id:=I
 have L:=keep d (by rw[h.iG];simp) J
 have b:∀ id,H id≠.dead->owner (m a)≠some id->id≠d->(H'.set d (.arr 1 (((List.range n).map λj=>[m j]).set a [u']))) id=H id:=λid h1 f w=>by
  simp only[View.set,Ws w];exact(keep id h1 f).1
 have t:∀ {id o},H id=o->o≠.arr 3 ((S a).map fk)->owner (m a)≠some id:=λh1 f e=>f (by rw[<-h1];exact own e)
 refine⟨?_,?_,?_,λj l=>?_,λj l=>?_,h.ne,λi j o hi l h1 f=>?_,h.C9,λq M=>?_⟩
 .rw[b c (by rw[h.box];simp) (t h.box (by simp)) (by rintro rfl;have:=h.box;rw[h.iG] at this;simp at this)];exact h.box
 .simp only[View.set,if_true]
  congr 1
  rw[C8]
  apply Xy
  intro j _
  split <;> rfl
 .rw[b s (by rw[h.seen];simp) (t h.seen (by simp)) h.ne.symm];exact h.seen
 .by_cases e:j=a
  .subst e
   simp only[if_true,jB,Ws F,W6,WZ,Yy]
   exact G.other L.2
  .simp only[Ws e,jB]
   refine(h.set j l).keep λid r=>?_
   have k:=((h.set j l).live r).1
   refine b id (by rw[k];simp) (λu=>e (h.yL j a id l v r u)) ?_
   rintro rfl;rw[h.iG] at k;simp at k
 .obtain⟨g1,g2,g3⟩:=h.map j l
  refine⟨?_,g2,g3⟩
  rw[b (z j) (by rw[g1];simp) (t g1 (by simp)) (by intro e;rw[e,h.iG] at g1;simp at g1)];exact g1
 .by_cases y:i=a
  .by_cases u:j=a
   .omega
   .simp only[Wv y,Ws u] at h1 f
    exfalso
    have k:=((h.set j l).live f).1
    exact(keep o (by rw[k];simp) (λA=>u (h.yL j a o l v f A))).2 h1
  .by_cases u:j=a
   .simp only[Ws y,Wv u] at h1 f
    exfalso
    have k:=((h.set i hi).live h1).1
    exact(keep o (by rw[k];simp) (λA=>y (h.yL i a o hi v h1 A))).2 f
   .simp only[Ws y,Ws u] at h1 f
    exact h.yL i j o hi l h1 f
 .obtain⟨h1,f,w,N,C⟩:=h.off q M
  refine⟨?_,f,w,N,λj l=>?_⟩
  .rw[b q.1 (by rw[h1];exact f) (C a v) w];exact h1
  .by_cases e:j=a
   .simp only[Wv e];exact(keep q.1 (by rw[h1];exact f) (C a v)).2
   .simp only[Ws e];exact C j l
theorem B0 (c:Nat) (g:ag) (p:List Int) (Y:V) (S:Nat->List Item) (B n a:Nat) (x:Item) (K:List (Nat × bN)) (H:View) (hC:Ch H c g p Y S B n K) (j:a < n) (hn:n < 1000) (hB:B < 1000000000000) (hl:(S a).length < 1000000)
  (hx:x.av < 1000/\x.dot < 1000/\x.dB < 1000):ao Tryz.prog 176 [.ptr c 0 0,bU a,.agg (fk x)] H λ_ H'=>Ch H' c g p Y (jB S a x) (B+1) n K:=by
 obtain⟨C,ab,Z,A,mm,cl,h⟩:=hC
 obtain⟨r,D,t⟩:=h.map a j
 have s:dR Tryz.prog 188=some (191,3):=by kernel_rfl
 have L:zeroV Tryz.prog 3=some (gi 0):=by kernel_rfl
 have i:=Ut RY
 have M:∃ k:Nat,(getM (mm a) x).getD (gi 0)=bU k/\k<=B/\((x∈S a/\getM (mm a) x=some (bU k)/\1<=k)∨(¬ x∈S a/\k=0)):=by
  by_cases d:x∈S a
  .obtain⟨k,h1,l,f⟩:=(t x).1 d
   exact⟨k,by rw[h1];rfl,f,.inl ⟨d,h1,l⟩⟩
  .exact⟨0,by rw[(t x).2 d];rfl,by omega,.inr ⟨d,rfl⟩⟩
 obtain⟨k,E,N,u⟩:=M
 refine ao.of mixed ux ?_
 simp(disch:=omega)only[↓wr,seval,wq,pW,h.box,h.seen,fJ j,fk]
 refine⟨j,by simp;omega,?_⟩
 refine FU (kv:=qC) (kt:=191) (et:=3) (z:=gi 0) s L i (id:=A a) (c:=cl a) (m:=mm a) (k:=x) (by simp(disch:=omega)only[↓wr,seval,wq]) (by simp(disch:=omega)only[↓wr,seval,wq];rfl) r ?_
 rw[E]
 simp(disch:=omega)only[↓wr,seval,wq]
 refine PO (kv:=qC) (kt:=191) (et:=3) (z:=gi 0) s L i (id:=A a) (c:=cl a) (m:=mm a) (k:=x) (by simp(disch:=omega)only[↓wr,seval,wq]) (by simp(disch:=omega)only[↓wr,seval,wq];rfl) r D λb O P w=>?_
 rw[E] at P w ⊢
 simp(disch:=omega)only[↓wr,seval,wq]
 have ek:V.val (.int .i64 ((k:Int)+1))=bU (k+1:Nat):=by simp[bU]
 refine NU (kv:=qC) (id:=A a) (c:=O) (b:=b) (m:=bz x (bU k) (cl a) (mm a)) (k:=x) (v:=bU (k+1:Nat)) (by simp(disch:=omega)only[↓wr,seval,wq]) (by simp(disch:=omega)only[↓wr,seval,wq]) (by simp(disch:=omega)only[↓wr,seval,wq];exact ek) (by simp[View.set,bU]) P w λc0=>?_
 simp(disch:=omega)only[↓wr,seval,wq]
 refine⟨Us (kv:=qC) s L i r D,?_⟩
 rw[set_set]
 have F:NN (bz x (bU (k+1:Nat)) c0 (bz x (bU k) (cl a) (mm a))) (jB S a x a) (B+1):=by
  simp only[jB,if_true]
  exact SP t k (u.elim (λh=>.inl ⟨h.1,h.2.1⟩) .inr) N _
 have l:=h.wrote j (P.Rp w (bU (k+1:Nat)) c0) F
 have q:getM (bz x (bU (k+1:Nat)) c0 (bz x (bU k) (cl a) (mm a))) x=some (bU (k+1:Nat)):=by rw[kh];simp
 simp only[bU] at l q ⊢
 generalize bz x (.val (.int .i64 ((k+1:Nat):Int))) c0 (bz x (.val (.int .i64 (k:Int))) (cl a) (mm a))=m2 at l q ⊢
 generalize View.set H (A a) (.map (bZ qC m2) O)=H2 at l ⊢
 have Q:c≠A a:=λe=>by
  have:=h.box
  rw[e,r] at this;simp at this
 simp only[Ws Q,h.box]
 simp(disch:=omega)only[↓wr,seval,wq,l.box,l.seen,fJ j]
 refine⟨j,by simp;omega,?_⟩
 have G:=(l.map a j).1
 simp only[if_true] at G
 refine FU (kv:=qC) (kt:=191) (et:=3) (z:=gi 0) s L i (id:=A a) (c:=O) (m:=m2) (k:=x) (by simp(disch:=omega)only[↓wr,seval,wq]) (by simp(disch:=omega)only[↓wr,seval,wq];rfl) G ?_
 rw[q]
 simp(disch:=omega)only[↓wr,seval,wq,WJ]
 apply aj.eq<;>intro e
 .have d:¬ x∈S a:=by
   rcases u with f | f
   .omega
   .exact f.1
  simp(disch:=omega)only[↓wr,seval,wq,l.box,l.iG,fJ j]
  refine⟨j,by simp;omega,λb1 R=>?_⟩
  rw[bY]
  have f:=l.new R (o:=.arr 3 [fk x]) (by simp)
  simp only[fk,bU] at f
  have T:=f.off _ (XE ..)
  generalize View.set H2 b1 _=H3 at f T ⊢
  have U:=f.set a j
  have W:iO (.ptr c 0 6) (Z a):=by
   rcases U with ⟨_,k,e⟩ | ⟨m,e,hm⟩
   .rw[e];trivial
   .rw[e]
    show c≠m
    rintro rfl
    have:=f.box
    rw[hm] at this;simp at this
  simp(disch:=omega)only[↓wr,seval,wq]
  refine kT U (by simp) (by simp[V.cells,aE]) (by simp[aD];omega) (by simp[aD];omega) λu' H' y I=>?_
  have X:owner (Z a)≠some C:=λe=>by
   have:=(U.live e).1
   rw[f.iG] at this;simp at this
  have J:=(I C (by rw[f.iG];simp) X).1
  rw[f.iG] at J
  simp(disch:=omega)only[↓wr,seval,wq,J,y.cells,y.fF,fJ j]
  refine⟨j,by simp;omega,W,?_⟩
  have h4:=f.TZ j d (u':=u') y I
  exact Ch.drop ⟨_,_,_,_,_,_,h4⟩
 .have d:x∈S a:=by
   rcases u with f | f
   .exact f.1
   .omega
  simp(disch:=omega)only[↓wr,seval,wq]
  have hS:jB S a x=S:=by
   funext b
   simp only[jB,Wv d]
   split
   .rename_i e;rw[e]
   .rfl
  rw[hS] at l ⊢
  exact⟨_,_,_,_,_,_,l⟩
inductive KY (g:ag) (p:List Int):Int->Nat->Prop
 | start:KY g p g.start 0
 | step (R:aW) (l1 l2:List Int) (n:Int) (f a:Nat):R∈g.rules->R.right=l1 ++ (-1 - n) :: l2->KY g p R.left f->Sp g p l1 f a->KY g p n a
def MD (g:ag) (p:List Int) (x:Item):Prop:=∃ R,g.rules[x.av]?=some R/\KY g p R.left x.dB
theorem take_at {l:List Int} {d:Nat} {s:Int} (h:l[d]?=some s):l=l.take d ++ s :: l.drop (d+1):=by
 have h1:=(Wy.1 h)
 obtain⟨a,he⟩:=h1
 rw[<-he]
 simp
theorem MD.ask {g:ag} {p:List Int} {a:Nat} {x:Item} (h:MD g p x) (d:Sound g p a x) {R:aW} (c:g.rules[x.av]?=some R) {s:Int} (e:R.right[x.dot]?=some s):KY g p (-1 - s) a:=by
 obtain⟨j,h1,f⟩:=h
 obtain⟨k,b,_,_,i⟩:=d
 rw[c] at h1 b;simp at h1 b;subst h1;subst b
 refine .step R (R.right.take x.dot) (R.right.drop (x.dot+1)) (-1 - s) x.dB a (WI c) ?_ f i
 rw[show -1 - (-1 - s)=s by omega]
 exact take_at e
def Grow (a:Nat) (S S':Nat->List Item):Prop:=∀ b,S b <+: S' b/\(b < a->S' b=S b)
structure Good (g:ag) (p:List Int) (S:Nat->List Item):Prop where
 nodup:∀ a,(S a).Nodup
 sound:∀ a x,x∈S a->Sound g p a x
 top:∀ a x,x∈S a->MD g p x
 out:∀ a,p.length < a->S a=[]
theorem Grow.refl (a:Nat) (S:Nat->List Item):Grow a S S:=λ_=>⟨List.prefix_refl _,λ_=>rfl⟩
theorem Grow.trans {a:Nat} {S d c:Nat->List Item} (h:Grow a S d) (e:Grow a d c):Grow a S c:=λb=>⟨(h b).1.trans (e b).1,λf=>((e b).2 f).trans ((h b).2 f)⟩
theorem Grow.low {a c:Nat} {S d:Nat->List Item} (h:Grow a S d) (e:c<=a):Grow c S d:=λb=>⟨(h b).1,λf=>(h b).2 (by omega)⟩
theorem Grow.mem {a b:Nat} {S c:Nat->List Item} (h:Grow a S c) {x:Item} (d:x∈S b):x∈c b:=(h b).1.subset d
theorem pk {a b:Nat} (S:Nat->List Item) (x:Item) (h:a<=b):Grow a S (jB S b x):=by
 intro d
 unfold jB
 constructor
 .split
  .rename_i e
   subst e
   split
   .exact List.prefix_refl _
   .exact List.prefix_append _ _
  .exact List.prefix_refl _
 .intro c
  rw[Ws (by omega)]
theorem zB (S:Nat->List Item) (a:Nat) (x:Item):x∈jB S a x a:=by
 unfold jB
 rw[Wv rfl]
 split
 .assumption
 .simp
theorem Good.put {g:ag} {p:List Int} {S:Nat->List Item} (h:Good g p S) {a:Nat} {x:Item} (f:Sound g p a x) (i:MD g p x) (l:a<=p.length):Good g p (jB S a x):=by
 refine⟨λb=>?_,λb y c=>?_,λb y c=>?_,λb j=>?_⟩
 .unfold jB
  split
  .rename_i e
   subst e
   split
   .exact h.nodup _
   .rename_i k
    rw[XV]
    refine⟨h.nodup _,by simp,λu hu v d=>?_⟩
    simp at d
    rintro rfl
    exact k (d ▸ hu)
  .exact h.nodup _
 .unfold jB at c
  split at c
  .rename_i e
   subst e
   split at c
   .exact h.sound _ _ c
   .rcases WN.1 c with c | c
    .exact h.sound _ _ c
    .simp at c;subst c;exact f
  .exact h.sound _ _ c
 .unfold jB at c
  split at c
  .rename_i e
   subst e
   split at c
   .exact h.top _ _ c
   .rcases WN.1 c with c | c
    .exact h.top _ _ c
    .simp at c;subst c;exact i
  .exact h.top _ _ c
 .unfold jB
  rw[Ws (by omega)]
  exact h.out b j
theorem pP:∀ (N:Nat) (l:List Nat),l.Nodup->(∀ x∈l,x < N)->l.length<=N
 | 0,l,_,h=>by
  cases l with
  | nil=>simp
  | cons x l=>exact absurd (h x (by simp)) (by omega)
 | N+1,l,b,h=>by
  by_cases e:N∈l
  .have h1:=pP N (l.erase N) (b.erase N) λx a=>by
    have c:=(b.mem_erase_iff).1 a
    have:=h x c.2
    have:=c.1
    omega
   rw[List.length_erase_of_mem e] at h1
   omega
  .have:=pP N l b λx a=>by
    have:=h x a
    have:x≠N:=by rintro rfl;exact e a
    omega
   omega
theorem Em {α:Type} {f:α->Nat} : ∀ {l:List α},l.Nodup->(∀ x∈l,∀ y∈l,f x=f y->x=y)->(l.map f).Nodup
 | [],_,_=>by simp
 | x :: l,c,h=>by
  rw[Xq] at c
  rw[WZ,Xq]
  refine⟨λhm=>?_,Em c.2 λa g b i=>h a (by simp[g]) b (by simp[i])⟩
  obtain⟨y,d,e⟩:=WQ.1 hm
  have:=h y (by simp[d]) x (by simp) e
  exact c.1 (this ▸ d)
theorem Sound.small {g:ag} (b:g.cP) {p:List Int} {a:Nat} {x:Item} (h:Sound g p a x):x.av < 40/\x.dot < 7/\x.dB<=a:=by
 obtain⟨R,c,e,d,_⟩:=h
 have h1:=(Wy.1 c).1
 have f:=b.rules
 have i:=b.right R (WI c)
 omega
theorem Good.len {g:ag} (d:g.cP) {p:List Int} (hp:p.length<=60) {S:Nat->List Item} (h:Good g p S) (a:Nat):(S a).length<=17080:=by
 by_cases f:p.length < a
 .rw[h.out a f];simp
 .have c:∀ x∈S a,x.av < 40/\x.dot < 7/\x.dB < 61:=λx b=>by
   have:=(h.sound a x b).small d
   omega
  have:=pP 17080 ((S a).map λx=>x.av * 427+x.dot * 61+x.dB) (Em (h.nodup a) λx b y i e=>by
   have h1:=c x b
   have j:=c y i
   cases x;cases y
   simp only at e h1 j
   simp only[Item.mk.injEq]
   omega) (λv k=>by
   obtain⟨x,b,rfl⟩:=WQ.1 k
   have:=c x b
   omega)
  simpa using this
theorem Ch.box {H:View} {c:Nat} {g:ag} {p:List Int} {d:V} {S:Nat->List Item} {B n:Nat} {K:List (Nat × bN)} (h:Ch H c g p d S B n K) :
  ∃ a b,H c=.arr 8 [[.aL (g.an.map dp),encS g.ax,.aL (g.rules.map aU),gi g.start,encI p,d,.sl a 0 n 1,.sl b 0 n 1]]:=by
 obtain⟨a,b,e,f,mm,cl,h⟩:=h
 exact⟨a,b,h.box⟩
theorem Ch.set {H:View} {c:Nat} {g:ag} {p:List Int} {f:V} {S:Nat->List Item} {B n:Nat} {K:List (Nat × bN)} (h:Ch H c g p f S B n K) {a:Nat} (i:a < n) :
  ∃ (b d:Nat) (e:Nat->V),H c=.arr 8 [[.aL (g.an.map dp),encS g.ax,.aL (g.rules.map aU),gi g.start,encI p,f,.sl b 0 n 1,.sl d 0 n 1]]/\H b=.arr 1 ((List.range n).map λj=>[e j])/\aH H (e a) 3 ((S a).map fk):=by
 obtain⟨b,d,e,k,mm,cl,h⟩:=h
 exact⟨b,d,e,h.box,h.iG,h.set a i⟩
def lj:SC :=
 ai [af [aZ 15 .lss 14 13],cp 15 (.exit 0),.block 1 (ai [af [aa 16 14,aY 17 3 12 14,bj 18 3 17,((some 7),.op (.alloc [(.val (.int .i64 0)),(.emp 1),(.val (.int .i64 0))])),aa 6 16,df 3 7 18],af [ay 19 0 7,au 20 19,aa 21 2,aZ 22 .eql 20 21],bf 22 (af [aa 23 0,aa 24 1,aa 25 6,aa 26 1,((some 27),.op (.build [(.val (.int .i64 0)),(.val (.int .i64 0)),(.val (.int .i64 0))] [(0,1,(.tmp 25)),(1,1,(.val (.val (.int .i64 0)))),(2,1,(.tmp 26))])),aT 28 176 [23,24,27]])]),af [aF 29 .add 14 1,aa 14 29]]
def mf:SF:=⟨ai [af [aa 8 0,eW 9 8,ay 10 0 9,ay 11 2 10,au 12 11,aQ 13 12,bb 14 0],cz 0 lj],
 [],30⟩
theorem qZ:aG Tryz.prog 110 []=some mf:=by kernel_rfl
def kI:SC :=
 ai [ai [af [aa 11 8,aa 12 0,eW 13 12,ay 14 6 13,au 15 14,aa 16 3,aY 17 1 15 16,au 18 17,aQ 19 18,aZ 20 .lss 11 19],cp 20 (.exit 0)],.block 1 (ai [af [aa 23 0,eW 24 23,ay 25 6 24,au 26 25,aa 27 3,aY 28 1 26 27,au 29 28,aa 30 8,aY 31 3 29 30,bj 32 3 31,((some 9),.op (.alloc [(.val (.int .i64 0)),(.val (.int .i64 0)),(.val (.int .i64 0))])),df 3 9 32],af [aa 33 0,eW 34 33,ay 35 0 34,ay 36 2 35,au 37 36,ay 38 0 9,au 39 38,aY 40 3 37 39,ay 41 1 40,au 42 41,aa 10 42],.region false [⟨none,[ay 43 1 9,au 44 43,aa 45 10,aQ 46 45,aZ 47 .lss 44 46,aa 48 47]⟩,⟨(some (48,true)),[aa 49 10,ay 50 1 9,au 51 50,aY 52 1 49 51,au 53 52,aa 54 2,((some 55),.op (.arith .sub (.val (.val (.int .i64 (-1)))) (.tmp 54))),aZ 56 .eql 53 55]⟩,⟨none,[fe 57 48 56]⟩],bf 57 (af [aa 58 0,aa 59 1,ay 60 0 9,au 61 60,ay 62 1 9,au 63 62,aF 64 .add 63 1,ay 65 2 9,au 66 65,((some 67),.op (.build [(.val (.int .i64 0)),(.val (.int .i64 0)),(.val (.int .i64 0))] [(0,1,(.tmp 61)),(1,1,(.tmp 64)),(2,1,(.tmp 66))])),aT 68 176 [58,59,67]])]),af [aa 21 8,aF 22 .add 21 1,aa 8 22]]
def lQ:SF:=⟨ai [af [bb 8 0],cz 0 kI],
 [],69⟩
theorem qK:aG Tryz.prog 177 []=some lQ:=by kernel_rfl
def oV:SF:=⟨ai [af [cJ 5 2],af [aa 9 0,eW 10 9,ay 11 0 10,ay 12 2 11,au 13 12,ay 14 0 5,au 15 14,aY 16 3 13 15,bj 17 3 16,((some 6),.op (.alloc [(.val (.int .i64 0)),(.emp 1),(.val (.int .i64 0))])),df 3 6 17],ai [af [ay 18 1 5,au 19 18,ay 20 1 6,au 21 20,aQ 22 21,aZ 23 .eql 19 22],bf 23 (ai [af [aa 24 0,aa 25 1,ay 26 0 6,au 27 26,ay 28 2 5,au 29 28,aT 30 177 [24,25,27,29]],.ret])],af [ay 31 0 5,au 32 31,ay 33 1 5,au 34 33,aF 35 .add 34 1,ay 36 2 5,au 37 36,((some 38),.op (.build [(.val (.int .i64 0)),(.val (.int .i64 0)),(.val (.int .i64 0))] [(0,1,(.tmp 32)),(1,1,(.tmp 35)),(2,1,(.tmp 37))])),((some 7),.op (.alloc [(.val (.int .i64 0)),(.val (.int .i64 0)),(.val (.int .i64 0))])),df 3 7 38],af [ay 39 1 6,au 40 39,ay 41 1 5,au 42 41,aY 43 1 40 42,au 44 43,aa 8 44],.block 0 (ai [af [aa 46 8,aF 47 .geq 46 0,aa 45 47],.cond (.tmp 45) (ai [ai [.region false [⟨none,[aa 48 1,aa 49 0,eW 50 49,ay 51 4 50,au 52 51,aQ 53 52,aZ 54 .lss 48 53,aa 55 54]⟩,⟨(some (55,true)),[aa 56 0,eW 57 56,ay 58 4 57,au 59 58,aa 60 1,aY 61 1 59 60,au 62 61,aa 63 8,aZ 64 .eql 62 63,aa 65 64]⟩,⟨(some (65,false)),[aa 66 0,eW 67 66,ay 68 4 67,au 69 68,aa 70 1,aY 71 1 69 70,au 72 71,aF 73 .eql 72 (-1)]⟩,⟨(some (55,true)),[b6 74 65 73]⟩,⟨none,[fe 75 55 74]⟩],bf 75 (af [aa 76 0,aa 77 1,aF 78 .add 77 1,bj 79 3 7,aT 80 176 [76,78,79]])],.ret]) (ai [af [aa 82 0,eW 83 82,ay 84 5 83,au 85 84,aa 86 8,((some 87),.op (.arith .sub (.val (.val (.int .i64 (-1)))) (.tmp 86))),aY 88 1 85 87,au 89 88,aa 81 89],bf 81 (af [aa 90 0,aa 91 1,bj 92 3 7,aT 93 176 [90,91,92]])])]),af [aa 94 0,aa 95 1,aa 96 8,((some 97),.op (.arith .sub (.val (.val (.int .i64 (-1)))) (.tmp 96))),aT 98 110 [94,95,97]]],
 [],99⟩
theorem ud:aG Tryz.prog 111 [5]=some oV:=by kernel_rfl
theorem wA (c:Nat) (g:ag) (E:g.cP) (p:List Int) (hp:p.length<=60) (z:V) (S:Nat->List Item) (B a:Nat) (K:List (Nat × bN)) (H:View) (t:Ch H c g p z S B (p.length+1) K) (m:Good g p S) (J:a<=p.length) (U:B+40 < 1000000000000)
  (dQ:Int) (L:KY g p dQ a):ao Tryz.prog 110 [.ptr c 0 0,bU a,gi dQ] H λ_ H'=>∃ h,Ch H' c g p z h (B+40) (p.length+1) K/\Good g p h/\Grow a S h/\∀ i R,g.rules[i]?=some R->R.left=dQ->(⟨i,0,a⟩:Item)∈h a:=by
 have F:=E.rules
 refine ao.of mixed qZ ?_
 obtain⟨M,N,l⟩:=t.box
 simp(disch:=omega)only[↓wr,seval,wq,mf,l]
 refine bk.up g.rules.length (λi n H'=>(∃ h,Ch H' c g p z h (B+i) (p.length+1) K/\Good g p h/\Grow a S h/\∀ j R,j < i->g.rules[j]?=some R->R.left=dQ->(⟨j,0,a⟩:Item)∈h a)/\n 0=.ptr c 0 0/\n 1=bU a/\n 2=gi dQ/\n 12=.aL (g.rules.map aU)/\n 13=bU g.rules.length/\n 14=bU i) ?_ ?_
 .exact⟨⟨S,t,m,.refl _ _,λj R G=>by omega⟩,rfl,rfl,rfl,rfl,rfl,rfl⟩
 clear l t m
 rintro i k n H' hk ⟨⟨w,t,m,q,d⟩,t0,t1,t2,t12,t13,t14⟩
 simp(disch:=omega)only[↓wr,seval,wq,lj,t0,t1,t2,t12,t13,t14]
 apply aj.dec<;>intro O
 .have f:g.rules[i]?=some (g.rules[i]'(by omega)):=Wp (by omega)
  have y:g.rules[i]'(by omega)∈g.rules:=WA _
  generalize g.rules[i]'(by omega)=R at f y
  simp(disch:=omega)only[↓wr,seval,wq,t0,t1,t2,t12,t13,t14,aU,encI,Ww,f]
  intro b P
  rw[set_set]
  have s:=t.new P (o:=.arr 3 [[gi R.left,.aL (R.right.map λx=>[gi x]),gi R.prec]]) (by simp)
  generalize View.set H' b _=W at s ⊢
  have T:=m.len E hp a
  apply aj.eq<;>intro e
  .simp(disch:=omega)only[↓wr,seval,wq,t0,t1]
   refine aq.bX ((B0 c g p z w (B+i) (p.length+1) a ⟨i,0,a⟩ _ _ s (by omega) (by omega) (by omega) (by omega) ⟨by simp;omega,by simp,by simp;omega⟩).mono ?_)
   intro r X A
   simp(disch:=omega)only[↓wr,seval,wq,t14]
   have C:Sound g p a ⟨i,0,a⟩:=⟨R,f,by simp,by simp,by simp;exact .nil _⟩
   refine aJ hk (by omega) ⟨⟨_,A.drop,m.put C ⟨R,f,e ▸ L⟩ J,q.trans (pk w _ (Wz _)),λj Q G u v=>?_⟩,t0,t1,t2,t12,t13,rfl⟩
   by_cases D:j=i
   .subst D;exact zB _ _ _
   .exact(pk w _ (Wz a)).mem (d j Q (by omega) u v)
  .simp(disch:=omega)only[↓wr,seval,wq,t14]
   refine aJ hk (by omega) ⟨⟨w,s.drop.more (by omega),m,q,λj Q G u v=>?_⟩,t0,t1,t2,t12,t13,rfl⟩
   by_cases D:j=i
   .subst D
    rw[f] at u;simp at u;subst u
    exact absurd v e
   .exact d j Q (by omega) u v
 .simp(disch:=omega)only[↓wr,seval,wq]
  exact⟨w,t.more (by omega),m,q,λi R I v=>d i R (by have:=(Wy.1 I).1;omega) I v⟩
def Ly (g:ag) (dQ:Int) (S:Nat->List Item) (at_:Nat) (x:Item):Prop:=∀ R,g.rules[x.av]?=some R->R.right[x.dot]?=some (-1 - dQ)->(⟨x.av,x.dot+1,x.dB⟩:Item)∈S at_
theorem Sound.on {g:ag} {p:List Int} {f a:Nat} {x:Item} (h:Sound g p f x) {R:aW} (e:g.rules[x.av]?=some R) {s:Int} (i:R.right[x.dot]?=some s) (c:Sp g p [s] f a):Sound g p a ⟨x.av,x.dot+1,x.dB⟩:=by
 obtain⟨l,b,h1,j,k⟩:=h
 rw[e] at b;simp at b;subst b
 have d:=(Wy.1 i).1
 refine⟨R,e,d,Xo j c.le,?_⟩
 have:R.right.take (x.dot+1)=R.right.take x.dot ++ [s]:=by rw[WY,i];rfl
 rw[this]
 exact k.app c
theorem Jr (c:Nat) (g:ag) (C:g.cP) (p:List Int) (hp:p.length<=60) (nu:V) (S:Nat->List Item) (B d fr:Nat) (K:List (Nat × bN)) (H:View) (J:Ch H c g p nu S B (p.length+1) K) (j:Good g p S) (ha:d<=p.length) (bl:fr<=d) (hB:B+17080 < 1000000000000)
  (dQ:Int) (hn:0<=dQ/\dQ < 1000) (ae:Sp g p [-1 - dQ] fr d):ao Tryz.prog 177 [.ptr c 0 0,bU d,gi dQ,bU fr] H λ_ H'=>∃ l,Ch H' c g p nu l (B+17080) (p.length+1) K/\Good g p l/\Grow d S l/\∀ x∈l fr,Ly g dQ l d x:=by
 have a8:=C.rules
 refine ao.of mixed qK ?_
 simp(disch:=omega)only[↓wr,seval,wq,lQ]
 refine bk.up 17080 (λi L H'=>(∃ l,Ch H' c g p nu l (B+i) (p.length+1) K/\Good g p l/\Grow d S l/\i<=(l fr).length/\∀ x∈(l fr).take i,Ly g dQ l d x)/\L 0=.ptr c 0 0/\L 1=bU d/\L 2=gi dQ/\L 3=bU fr/\L 8=bU i) ?_ ?_
 .exact⟨⟨S,J,j,.refl _ _,XT _,λx hx=>by simp at hx⟩,rfl,rfl,rfl,rfl,rfl⟩
 clear J j
 rintro i k L H' hk ⟨⟨f,J,j,w,bn,n⟩,t0,t1,t2,t3,t8⟩
 obtain⟨br,bs,sv,q,u,ho⟩:=J.set (a:=fr) (by omega)
 have D:fr < p.length+1:=by omega
 simp(disch:=omega)only[↓wr,seval,wq,kI,t0,t1,t2,t3,t8,q,u,fJ D,ho.len]
 refine⟨by omega,by simp;omega,?_⟩
 apply aj.dec<;>intro hc
 .obtain⟨m,al,hm⟩:=ho.sl (by simp;omega)
  have E:(f fr)[i]?=some ((f fr)[i]'(by omega)):=Wp (by omega)
  have F:(f fr)[i]'(by omega)∈f fr:=WA _
  have O:(f fr).take (i+1)=(f fr).take i ++ [(f fr)[i]'(by omega)]:=by rw[WY,E];rfl
  generalize (f fr)[i]'(by omega)=x at E F O
  have ar:((f fr).map fk).getD i []=[bU x.av,bU x.dot,bU x.dB]:=by simp[Wo,E,fk]
  have G:=j.sound _ _ F
  have bx:=G.small C
  have P:=G
  obtain⟨R,Q,b0,b1,bd⟩:=G
  simp(disch:=omega)only[↓wr,seval,wq,t0,t1,t2,t3,t8,q,u,fJ D,al,hm,ar]
  refine⟨D,by simp;omega,by omega,by omega,λb hb=>?_⟩
  have a1:c≠b:=by rintro rfl;rw[q] at hb;simp at hb
  simp only[Ws a1]
  rw[set_set]
  have v:=J.new hb (o:=.arr 3 [[.val (.int .i64 x.av),.val (.int .i64 x.dot),.val (.int .i64 x.dB)]]) (by simp)
  generalize View.set H' b _=H2 at v ⊢
  have z:=v.kept _ (XE ..)
  simp only at z
  have T:=WI Q
  have b2:=C.right R T
  simp(disch:=omega)only[↓wr,seval,wq,t0,t1,t2,t3,t8,z,aU,encI,Ww,Q]
  have h:∀ M,Grow d f M->(∀ I,g.rules[x.av]?=some I->I.right[x.dot]?=some (-1 - dQ)->(⟨x.av,x.dot+1,x.dB⟩:Item)∈M d)->i+1<=(M fr).length/\∀ y∈(M fr).take (i+1),Ly g dQ M d y:=by
   intro M U a6
   obtain⟨t,ht⟩:=(U fr).1
   refine⟨by rw[<-ht];simp;omega,?_⟩
   rw[<-ht,List.take_append_of_le_length (by omega),O]
   intro y N
   rcases WN.1 N with N | N
   .exact λI h1 A=>U.mem (n y N I h1 A)
   .simp at N;subst N;exact a6
  have b3:=j.len C hp fr
  have b4:=j.len C hp d
  apply aj.dec<;>intro h1
  .have hs:R.right[x.dot]?=some (R.right[x.dot]'(by omega)):=Wp (by omega)
   generalize R.right[x.dot]'(by omega)=s at hs
   simp(disch:=omega)only[↓wr,seval,wq,t0,t1,t2,t3,t8,z,hs,Ww]
   apply aj.eq<;>intro e
   .simp(disch:=omega)only[↓wr,seval,wq,t0,t1,t2,t3,t8,z]
    have W:Sound g p d ⟨x.av,x.dot+1,x.dB⟩:=P.on Q hs (e ▸ ae)
    have X:=W.small C
    simp only at X
    refine aq.bX ((B0 c g p nu f (B+i) (p.length+1) d ⟨x.av,x.dot+1,x.dB⟩ _ _ v (by omega) (by omega) (by omega) (by omega) ⟨by simp;omega,by simp;omega,by simp;omega⟩).mono ?_)
    intro r H3 a7
    simp(disch:=omega)only[↓wr,seval,wq,t8]
    obtain⟨Y,k2⟩:=h _ (pk f _ (Wz _)) (λI _ _=>zB _ _ _)
    exact aJ hk (by omega) ⟨⟨_,a7.drop,j.put W (j.top _ x F) ha,w.trans (pk f _ (Wz _)),Y,k2⟩,t0,t1,t2,t3,rfl⟩
   .simp(disch:=omega)only[↓wr,seval,wq,t8]
    obtain⟨Y,k2⟩:=h _ (.refl _ _) (λI A Z=>by
     rw[Q] at A;simp at A;subst A
     rw[hs] at Z;simp at Z
     exact absurd Z e)
    exact aJ hk (by omega) ⟨⟨_,v.drop.more (by omega),j,w,Y,k2⟩,t0,t1,t2,t3,rfl⟩
  .simp(disch:=omega)only[↓wr,seval,wq,t8]
   obtain⟨Y,k2⟩:=h _ (.refl _ _) (λI A Z=>by
    rw[Q] at A;simp at A;subst A
    have:=(Wy.1 Z).1
    omega)
   exact aJ hk (by omega) ⟨⟨_,v.drop.more (by omega),j,w,Y,k2⟩,t0,t1,t2,t3,rfl⟩
 .simp(disch:=omega)only[↓wr,seval,wq]
  have ab:i=(f fr).length:=by omega
  rw[ab,X0] at n
  exact⟨f,J.more (by have:=j.len C hp fr;omega),j,w,n⟩
structure wD (g:ag) (p:List Int) (S:Nat->List Item) (a:Nat) (x:Item):Prop where
 term:∀ R s,g.rules[x.av]?=some R->R.right[x.dot]?=some s->0<=s->r9 p a s->(⟨x.av,x.dot+1,x.dB⟩:Item)∈S (a+1)
 pred:∀ R s i R',g.rules[x.av]?=some R->R.right[x.dot]?=some s->s < 0->g.rules[i]?=some R'->R'.left = -1 - s->(⟨i,0,a⟩:Item)∈S a
 null:∀ R s,g.rules[x.av]?=some R->R.right[x.dot]?=some s->s < 0->(bm g false).getD (-1 - s).toNat false=true->(⟨x.av,x.dot+1,x.dB⟩:Item)∈S a
 comp:∀ R,g.rules[x.av]?=some R->x.dot=R.right.length->x.dB < a->∀ y∈S x.dB,Ly g R.left S a y
theorem wD.grow {g:ag} {p:List Int} {S k:Nat->List Item} {a:Nat} {x:Item} (h:wD g p S a x) (e:Grow a S k):wD g p k a x where
 term:=λR s h1 c b d=>e.mem (h.term R s h1 c b d)
 pred:=λR s i f h1 c b d j=>e.mem (h.pred R s i f h1 c b d j)
 null:=λR s h1 c b d=>e.mem (h.null R s h1 c b d)
 comp:=λR h1 c b y l f d j=>e.mem (h.comp R h1 c b y (by rw[(e x.dB).2 b] at l;exact l) f d j)
theorem Tm (c:Nat) (g:ag) (hr:bq g=true) (p:List Int) (hp:p.length<=60) (S:Nat->List Item) (B a:Nat) (x:Item) (K:List (Nat × bN)) (H:View) (hC:Ch H c g p (cB (bm g false)) S B (p.length+1) K) (u:Good g p S) (ha:a<=p.length) (hB:B+17200 < 1000000000000)
  (Y:x∈S a):ao Tryz.prog 111 [.ptr c 0 0,bU a,.agg (fk x)] H λ_ H'=>∃ D,Ch H' c g p (cB (bm g false)) D (B+17200) (p.length+1) K/\Good g p D/\Grow a S D/\wD g p D a x:=by
 have w:=bK hr
 have L:=u.sound _ _ Y
 have b0:=L.small w
 have m:=L
 obtain⟨R,n,b1,ar,G⟩:=L
 have q:=WI n
 have b2:=w.right R q
 have b4:=w.left R q
 have b5:=w.ax
 obtain⟨b8,b9,Z⟩:=hC.box
 refine ao.of mixed ud ?_
 simp(disch:=omega)only[↓wr,seval,wq,oV,fk,Z,aU,encI,Ww,n]
 refine λb hb=>?_
 rw[set_set]
 have E:=hC.new hb (o:=.arr 3 [[gi R.left,.aL (R.right.map λx=>[gi x]),gi R.prec]]) (by simp)
 generalize View.set H b _=H2 at E ⊢
 have y:=E.kept _ (XE ..)
 simp only at y
 apply aj.eq<;>intro e
 .have e2:x.dot=R.right.length:=by omega
  have a1:Sp g p [-1 - R.left] x.dB a:=by
   rw[e2,X0] at G
   exact .dQ _ _ R x.dB a a (by omega) q (by omega) G (.nil _)
  simp(disch:=omega)only[↓wr,seval,wq,y]
  refine aq.bX ((Jr c g w p hp _ S B a x.dB _ _ E u ha ar (by omega) R.left (by omega) a1).mono ?_)
  rintro r H3 ⟨M,d,a6,a7,hw⟩
  simp(disch:=omega)only[↓wr,seval,wq]
  refine⟨M,d.drop.more (by omega),a6,a7,⟨λz s h1 j I A=>?_,λz s i Q h1 j=>?_,λz s h1 j=>?_,λz h1 j I=>?_⟩⟩
  .rw[n] at h1;simp at h1;subst h1
   have:=(Wy.1 j).1
   omega
  .rw[n] at h1;simp at h1;subst h1
   have:=(Wy.1 j).1
   omega
  .rw[n] at h1;simp at h1;subst h1
   have:=(Wy.1 j).1
   omega
  .rw[n] at h1;simp at h1;subst h1
   exact hw
 .have ca:x.dot < R.right.length:=by omega
  have C:R.right[x.dot]?=some (R.right[x.dot]'(by omega)):=Wp (by omega)
  generalize R.right[x.dot]'(by omega)=s at C
  simp(disch:=omega)only[↓wr,seval,wq,y]
  refine λb3 N=>?_
  rw[set_set]
  have d:=E.new N (o:=.arr 3 [[.val (.int .i64 x.av),.val (.int .i64 (x.dot+1)),.val (.int .i64 x.dB)]]) (by simp)
  have a8:b≠b3:=by rintro rfl;rw[y] at N;simp at N
  simp only[Ws a8]
  generalize View.set H2 b3 _=H3 at d ⊢
  have F:=d.kept _ (XE ..)
  simp only at F
  obtain⟨br,bs,k⟩:=d.box
  have bd:=d.kept (b,_) (W9 _ (XE ..))
  simp only at bd
  have ab:=λhn:s < 0=>w.neg q (WI C) hn
  have cb:=u.len w hp a
  simp(disch:=omega)only[↓wr,seval,wq,y,C,Ww]
  have f:∀ M:Nat->List Item,(0<=s->r9 p a s->(⟨x.av,x.dot+1,x.dB⟩:Item)∈M (a+1))->(s < 0->∀ i z,g.rules[i]?=some z->z.left = -1 - s->(⟨i,0,a⟩:Item)∈M a) ->
    (s < 0->(bm g false).getD (-1 - s).toNat false=true->(⟨x.av,x.dot+1,x.dB⟩:Item)∈M a)->wD g p M a x:=by
   intro M k1 k2 k3
   refine⟨λz s' h1 j I A=>?_,λz s' i Q h1 j I A O=>?_,λz s' h1 j I A=>?_,λz h1 j I=>?_⟩
   .rw[n] at h1;simp at h1;subst h1
    rw[C] at j;simp at j;subst j
    exact k1 I A
   .rw[n] at h1;simp at h1;subst h1
    rw[C] at j;simp at j;subst j
    exact k2 I i Q A O
   .rw[n] at h1;simp at h1;subst h1
    rw[C] at j;simp at j;subst j
    exact k3 I A
   .rw[n] at h1;simp at h1;subst h1
    omega
  have bx:=u.len w hp (a+1)
  apply aj.dec<;>intro h0
  .have J:r9 p a s->a < p.length->ao Tryz.prog 176 [.ptr c 0 0,bU (a+1),.agg (fk ⟨x.av,x.dot+1,x.dB⟩)] H3 λ_ H'=>∃ D,Ch H' c g p (cB (bm g false)) D (B+17200) (p.length+1) K/\Good g p D/\Grow a S D/\wD g p D a x:=by
    intro l cc
    have P:Sound g p (a+1) ⟨x.av,x.dot+1,x.dB⟩:=m.on n C (.term s [] a (a+1) h0 l (.nil _))
    refine(B0 c g p _ S B (p.length+1) (a+1) ⟨x.av,x.dot+1,x.dB⟩ _ _ d (by omega) (by omega) (by omega) (by omega) ⟨by simp;omega,by simp;omega,by simp;omega⟩).mono λr H4 T=>?_
    exact⟨_,T.drop.drop.more (by omega),u.put P (u.top _ x Y) (by omega),pk S _ (by omega),f _ (λ_ _=>zB _ _ _) (λh=>by omega) (λh=>by omega)⟩
   simp(disch:=omega)only[↓wr,seval,wq,k,encI]
   apply aj.dec<;>intro h1
   .have v:p[a]?=some (p[a]'(by omega)):=Wp (by omega)
    generalize p[a]'(by omega)=pc at v
    simp(disch:=omega)only[↓wr,seval,wq,k,encI,v,Ww]
    apply aj.eq<;>intro e1
    .simp(disch:=omega)only[↓wr,seval,wq,F]
     refine aq.bX ((J ⟨pc,v,.inl e1⟩ (by omega)).mono λr H4 A=>?_)
     simp(disch:=omega)only[↓wr,seval,wq]
     exact A
    .simp(disch:=omega)only[↓wr,seval,wq,k,encI,v,Ww]
     apply aj.eq<;>intro e2
     .simp(disch:=omega)only[↓wr,seval,wq,F]
      refine aq.bX ((J ⟨pc,v,.inr e2⟩ (by omega)).mono λr H4 A=>?_)
      simp(disch:=omega)only[↓wr,seval,wq]
      exact A
     .simp(disch:=omega)only[↓wr,seval,wq]
      refine⟨S,d.drop.drop.more (by omega),u,.refl _ _,f _ (λ_ l=>?_) (λh=>by omega) (λh=>by omega)⟩
      obtain⟨bl,O,h6⟩:=l
      rw[v] at O;simp at O;subst O
      omega
   .simp(disch:=omega)only[↓wr,seval,wq]
    refine⟨S,d.drop.drop.more (by omega),u,.refl _ _,f _ (λ_ l=>?_) (λh=>by omega) (λh=>by omega)⟩
    obtain⟨bl,O,h6⟩:=l
    have:=(Wy.1 O).1
    omega
  .have hlen:=ky hr false
   have cf:=ab (by omega)
   have ae:(bm g false)[(-1 - s).toNat]?=some ((bm g false).getD (-1 - s).toNat false):=by
    simp[Wo,show (-1 - s).toNat < (bm g false).length by omega]
   generalize al:(bm g false).getD (-1 - s).toNat false=nb at ae
   simp(disch:=omega)only[↓wr,seval,wq,k,cB,ae,Ww]
   apply aj.split<;>intro U
   .have P:Sound g p a ⟨x.av,x.dot+1,x.dB⟩:=m.on n C (by
     obtain⟨Q,hQ,ch,bn⟩:=MJ hr _ (al.trans U)
     have:=(w.left Q hQ).1
     exact .dQ s [] Q a a a (by omega) hQ (by omega) (bn p a) (.nil _))
    simp(disch:=omega)only[↓wr,seval,wq,F]
    refine aq.bX ((B0 c g p _ S B (p.length+1) a ⟨x.av,x.dot+1,x.dB⟩ _ _ d (by omega) (by omega) (by omega) (by omega) ⟨by simp;omega,by simp;omega,by simp;omega⟩).mono λr H4 T=>?_)
    simp(disch:=omega)only[↓wr,seval,wq]
    refine aq.bX ((wA c g w p hp _ _ _ a _ _ T (u.put P (u.top _ x Y) ha) ha (by omega) (-1 - s) ((u.top _ x Y).ask m n C)).mono ?_)
    rintro r2 H5 ⟨S2,V,W,t,X⟩
    simp(disch:=omega)only[↓wr,seval,wq]
    exact⟨S2,V.drop.drop.more (by omega),W,(pk S _ (Wz _)).trans t,f _ (λh=>by omega) (λ_=>X) (λ_ _=>t.mem (zB _ _ _))⟩
   .simp(disch:=omega)only[↓wr,seval,wq]
    refine aq.bX ((wA c g w p hp _ _ _ a _ _ d u ha (by omega) (-1 - s) ((u.top _ x Y).ask m n C)).mono ?_)
    rintro r2 H5 ⟨S2,V,W,t,X⟩
    simp(disch:=omega)only[↓wr,seval,wq]
    exact⟨S2,V.drop.drop.more (by omega),W,t,f _ (λh=>by omega) (λ_=>X) (λ_ h=>by rw[al,U] at h;simp at h)⟩
structure tY (H:View) (c sid:Nat) (u:V) (mi:Nat->Nat) (g:ag) (p:List Int) (nu:V) (n k:Nat):Prop where
 box:H c=.arr 8 [[.aL (g.an.map dp),encS g.ax,.aL (g.rules.map aU),gi g.start,encI p,nu,.sl sid 0 n 1,u]]
 iG:H sid=.arr 1 ((List.range n).map λ_=>[.emp 1])
 seen:aH H u 1 ((List.range k).map λj=>[.mp (mi j)])
 map:∀ j,j < k->H (mi j)=.map [] 0
 inj:∀ i j,i < k->j < k->mi i=mi j->i=j
theorem tY.UM {H:View} {c a:Nat} {u:V} {d:Nat->Nat} {g:ag} {p:List Int} {f:V} {n k:Nat} (h:tY H c a u d g p f n k) (i:0 < n):owner u≠some a:=λe=>by
 have h1:=(h.seen.live e).1
 rw[h.iG] at h1
 simp only[bN.arr.injEq,true_and] at h1
 have b:=XG (·[0]?) h1
 simp[i] at b
 by_cases hk:0 < k
 .simp[hk] at b
 .have:k=0:=by omega
  subst this
  simp at b
theorem tY.Ua {H:View} {c a:Nat} {u:V} {b:Nat->Nat} {g:ag} {p:List Int} {d:V} {n k:Nat} (h:tY H c a u b g p d n k):owner u≠some c:=λe=>by
 have h1:=(h.seen.live e).1
 rw[h.box] at h1
 simp at h1
theorem tY.US {H:View} {c b:Nat} {u:V} {l:Nat->Nat} {g:ag} {p:List Int} {m:V} {n:Nat} (h:tY H c b u l g p m n n) (r:0 < n):Ch H c g p m (λ_=>[]) 0 n []:=by
 obtain⟨f,hu,hm⟩:=h.seen.sl (by simp;omega)
 have a:=h.UM r
 refine⟨b,f,λ_=>.emp 1,l,λ_=>[],λ_=>0,?_,h.iG,hm,λj d=>aH.nil,λj d=>⟨h.map j d,?_,λx=>⟨λk=>by simp at k,λ_=>rfl⟩⟩,?_,λi j o _ _ h1=>by simp[owner] at h1,λi j hi d e=>h.inj i j hi d e,λq s=>by simp at s⟩
 .have:=h.box
  rw[hu] at this
  simpa using this
 .exact⟨by simp,λx k=>by simp at k⟩
 .rintro rfl
  rw[hu] at a
  exact a rfl
theorem tY.next {H o:View} {c a m:Nat} {u u':V} {b:Nat->Nat} {g:ag} {p:List Int} {q:V} {n k:Nat} (h:tY H c a u b g p q n k) (w:0 < n) (hm:H m=.dead) (x:aH o u' 1 (((List.range k).map λj=>[.mp (b j)]) ++ [[.mp m]])) (r:o m=.map [] 0)
  (s:∀ id,H id≠.dead->owner u≠some id->o id=H id/\owner u'≠some id) :
  tY (o.set c (.arr 8 [[.aL (g.an.map dp),encS g.ax,.aL (g.rules.map aU),gi g.start,encI p,q,.sl a 0 n 1,u']])) c a u' (λj=>if j=k then m else b j) g p q n (k+1):=by
 have y:=s c (by rw[h.box];simp) h.Ua
 have z:=s a (by rw[h.iG];simp) (h.UM w)
 have t:a≠c:=by rintro rfl;have:=h.box;rw[h.iG] at this;simp at this
 have f:∀ j,j < k->b j≠m:=λj l e=>by have:=h.map j l;rw[e,hm] at this;simp at this
 refine⟨by simp[View.set],?_,?_,λj l=>?_,λi j hi l e=>?_⟩
 .simp only[View.set,Ws t]
  rw[z.1];exact h.iG
 .refine aH.other ?_ y.2
  have:(List.range (k+1)).map (λj=>[V.mp (if j=k then m else b j)])=(List.range k).map (λj=>[V.mp (b j)]) ++ [[.mp m]]:=by
   rw[X4,W6,WZ,Yy,Wv rfl]
   congr 1
   apply Xy
   intro j l
   rw[Ws (by have:=XA.1 l;omega)]
  rw[this];exact x
 .by_cases e:j=k
  .simp only[Wv e]
   have:m≠c:=by rintro rfl;rw[h.box] at hm;simp at hm
   simp only[View.set,Ws this]
   exact r
  .simp only[Ws e]
   have h1:=h.map j (by omega)
   have:b j≠c:=by intro d;rw[d,h.box] at h1;simp at h1
   simp only[View.set,Ws this]
   rw[(s (b j) (by rw[h1];simp) (λd=>by have:=(h.seen.live d).1;rw[h1] at this;simp at this)).1]
   exact h1
 .by_cases v:i=k
  .by_cases d:j=k
   .omega
   .simp only[Wv v,Ws d] at e
    exact absurd e.symm (f j (by omega))
  .by_cases d:j=k
   .simp only[Ws v,Wv d] at e
    exact absurd e (f i (by omega))
   .simp only[Ws v,Ws d] at e
    exact h.inj i j (by omega) (by omega) e
def s7:SC :=
 ai [af [aZ 22 .lss 21 20],cp 22 (.exit 0),.block 1 (af [aa 23 6,aa 24 6,eW 25 24,ay 26 7 25,au 27 26,((some 28),.op (.oo)),((some 29),.op (.bS 1 1 [(.val (.map none))] [(0,(.tmp 28))])),iR 30 1 8 27 29,eW 31 23,ay 32 7 31,df 1 32 30]),af [aF 33 .add 21 1,aa 21 33]]
def sW:SC :=
 ai [ai [af [aa 42 8,aa 43 6,eW 44 43,ay 45 6 44,au 46 45,aa 47 7,aY 48 1 46 47,au 49 48,aQ 50 49,aZ 51 .lss 42 50],cp 51 (.exit 4)],.block 5 (af [aa 54 6,aa 55 7,aa 56 6,eW 57 56,ay 58 6 57,au 59 58,aa 60 7,aY 61 1 59 60,au 62 61,aa 63 8,aY 64 3 62 63,bj 65 3 64,aT 66 111 [54,55,65]]),af [aa 52 8,aF 53 .add 52 1,aa 8 53]]
def tw:SC :=
 ai [af [aZ 40 .lss 39 38],cp 40 (.exit 2),.block 3 (ai [af [aa 41 39,aa 7 41],af [bb 8 0],cz 4 sW]),af [aF 67 .add 39 1,aa 39 67]]
def xb:SF:=⟨ai [af [cJ 2 0,((some 4),.op (.dX (.val (.val (.pointer none)))))],af [aa 9 1,aQ 10 9,aF 11 .add 10 1,aa 5 11],.region true [⟨none,[bj 12 4 2,aa 13 1,bj 14 4 2,aT 15 109 [14],aa 16 5,((some 17),.op (.make 1 24 [(.emp 1)] (.tmp 16) (.tmp 16))),((some 18),.op (.build [(.emp 1),(.emp 1),(.emp 1),(.val (.int .i64 0)),(.emp 1),(.emp 1),(.emp 1),(.emp 1)] [(0,4,(.tmp 12)),(4,1,(.tmp 13)),(5,1,(.tmp 15)),(6,1,(.tmp 17))])),((some 19),.op (.box (.tmp 18))),aa 6 19]⟩],ai [af [aa 20 5,bb 21 0],cz 0 s7],af [aa 34 6,ay 35 3 2,au 36 35,nr 37 110 [(.tmp 34),(.val (.val (.int .i64 0))),(.tmp 36)]],ai [af [aa 38 5,bb 39 0],cz 2 tw],af [aa 68 6,aa 4 68],.ret],
 [.tmp 4],69⟩
theorem Av:aG Tryz.prog 53 [2]=some xb:=by kernel_rfl
theorem SJ (g:ag) (hg:g.Ok) (hr:bq g=true) (ar:g.Small) (p:List Int) (hp:p.length<=60) (H:View):ao Tryz.prog 53 [.agg (ak g),encI p] H λr H'=>∃ c S B,r=.ptr c 0 0/\Ch H' c g p (cB (bm g false)) S B (p.length+1) []/\Good g p S/\BJ g p S:=by
 have hf:=bK hr
 refine ao.of mixed Av ?_
 simp(disch:=omega)only[↓wr,seval,wq,xb,ak,encI]
 have T:=(G9 g hg ar).pure
 simp only[ak] at T
 refine⟨rfl,aq.pure T ?_⟩
 have hM:((p.length:Int)+1).toNat=p.length+1:=by omega
 have a1:aE (encS g.ax)=true:=rfl
 simp(disch:=omega)only[↓wr,seval,wq,hM,cB,a1,Bool.and_self]
 refine⟨⟨Wz _,by unfold aD;omega,by unfold aD;omega⟩,λU W=>?_⟩
 intro c hc
 obtain⟨J,a6⟩:=dg hc (by simp)
 refine bk.up (p.length+1) (λk f H'=>(∃ u mi,tY H' c U u mi g p (cB (bm g false)) (p.length+1) k)/\f 2=.aN (ak g) 0/\f 5=gi (p.length+1)/\f 6=.ptr c 0 0/\f 20=gi (p.length+1)/\f 21=gi k) ?_ ?_
 .refine⟨⟨.emp 1,λ_=>0,⟨by simp[View.set,cB,encI],?_,aH.nil,λj hj=>by omega,λi j hi=>by omega⟩⟩,rfl,rfl,rfl,rfl,rfl⟩
  simp[View.set,Ne.symm J]
  apply XL (by simp)
  intro n h1 v
  cases n <;> simp
 clear hc a6 W
 rintro k m f H' hk ⟨⟨u,mi,D⟩,t2,t5,t6,t20,t21⟩
 simp(disch:=omega)only[↓wr,seval,wq,s7,t2,t5,t6,t20,t21]
 apply aj.dec<;>intro K
 .simp(disch:=omega)only[↓wr,seval,wq,t2,t5,t6,t20,t21,D.box]
  intro m1 E b1 F
  obtain⟨L,F⟩:=dg F (by simp)
  rw[bY]
  have ho:=(D.seen.fresh (o:=.map [] 0) E).fresh (o:=.arr 1 [[.mp m1]]) (m:=b1) (by simp[View.set,L,F])
  simp(disch:=omega)only[↓wr,seval,wq]
  refine kT ho (by simp) (by simp[V.cells,aE]) (by simp[aD];omega) (by simp[aD];omega) λu' H3 M X=>?_
  have Y:∀ id,H' id≠.dead->owner u≠some id->H3 id=H' id/\owner u'≠some id:=λid h1 v=>by
   have n1:id≠m1:=by rintro rfl;exact h1 E
   have n2:id≠b1:=by rintro rfl;exact h1 F
   have:=X id (by simp[View.set,n1,n2,h1]) v
   rw[this.1]
   exact⟨by simp[View.set,n1,n2],this.2⟩
  have Z:=(Y c (by rw[D.box];simp) D.Ua).1
  rw[D.box] at Z
  have a7:H3 m1=.map [] 0:=by
   have n3:owner u≠some m1:=D.seen.ne E
   rw[(X m1 (by simp[View.set,Ne.symm L]) n3).1]
   simp[View.set,Ne.symm L]
  simp(disch:=omega)only[↓wr,seval,wq,Z,M.cells,M.fF,t21]
  exact aJ hk (by omega) ⟨⟨u',_,D.next (by omega) E M a7 Y⟩,t2,t5,t6,t20,rfl⟩
 .have a8:k=p.length+1:=by omega
  subst a8
  have w:=D.US (by omega)
  clear D t20 t21
  simp(disch:=omega)only[↓wr,seval,wq,t2,t5,t6,ak]
  have bd:Good g p (λ_=>[]):=⟨λ_=>by simp,λa x d=>by simp at d,λa x d=>by simp at d,λ_ _=>rfl⟩
  refine aq.bX ((wA c g hf p hp _ _ _ 0 _ _ w bd (by omega) (by omega) g.start .start).mono ?_)
  rintro r0 H2 ⟨S0,w,z,bl,q⟩
  simp(disch:=omega)only[↓wr,seval,wq,t2,t5,t6]
  refine bk.up (p.length+1) (λa f H'=>(∃ S,Ch H' c g p (cB (bm g false)) S (40+a * 293776000) (p.length+1) []/\Good g p S/\(∀ i R,g.rules[i]?=some R->R.left=g.start->(⟨i,0,0⟩:Item)∈S 0)/\∀ b,b < a->∀ x∈S b,wD g p S b x)/\f 5=gi (p.length+1)/\f 6=.ptr c 0 0/\f 38=gi (p.length+1)/\f 39=gi a) ?_ ?_
  .exact⟨⟨S0,w.more (by omega),z,q,λb hb=>by omega⟩,t5,t6,rfl,rfl⟩
  clear w z bl q t2 t5 t6
  rintro a m f H hk ⟨⟨S,w,z,q,h⟩,t5,t6,t38,t39⟩
  simp(disch:=omega)only[↓wr,seval,wq,tw,t5,t6,t38,t39]
  apply aj.dec<;>intro K
  .simp(disch:=omega)only[↓wr,seval,wq,t5,t6,t38,t39]
   refine bk.up 17080 (λi f H'=>(∃ S,Ch H' c g p (cB (bm g false)) S (40+a * 293776000+i * 17200) (p.length+1) []/\Good g p S/\(∀ i R,g.rules[i]?=some R->R.left=g.start->(⟨i,0,0⟩:Item)∈S 0)/\(∀ b,b < a->∀ x∈S b,wD g p S b x)/\i<=(S a).length/\∀ x∈(S a).take i,wD g p S a x)/\f 5=gi (p.length+1)/\f 6=.ptr c 0 0/\f 7=gi a/\f 8=gi i/\f 38=gi (p.length+1)/\f 39=gi a) ?_ ?_
   .exact⟨⟨S,w.more (by omega),z,q,h,XT _,λx d=>by simp at d⟩,t5,t6,rfl,rfl,t38,t39⟩
   clear w z q h t5 t6 t38 t39
   rintro i k f H hi ⟨⟨S,w,z,q,h,b3,N⟩,t5,t6,t7,t8,t38,t39⟩
   have A:a < p.length+1:=by omega
   obtain⟨U,b4,sv,G,C,ho⟩:=w.set (a:=a) A
   simp(disch:=omega)only[↓wr,seval,wq,sW,t5,t6,t7,t8,t38,t39,G,C,fJ A,ho.len]
   refine⟨A,by simp;omega,?_⟩
   have b5:=z.len hf hp a
   apply aj.dec<;>intro hc
   .obtain⟨m,bn,hm⟩:=ho.sl (by simp;omega)
    have O:(S a)[i]?=some ((S a)[i]'(by omega)):=Wp (by omega)
    have ab:(S a)[i]'(by omega)∈S a:=WA _
    have ae:(S a).take (i+1)=(S a).take i ++ [(S a)[i]'(by omega)]:=by rw[WY,O];rfl
    generalize (S a)[i]'(by omega)=x at O ab ae
    have br:((S a).map fk).getD i []=[bU x.av,bU x.dot,bU x.dB]:=by simp[Wo,O,fk]
    simp(disch:=omega)only[↓wr,seval,wq,t5,t6,t7,t8,t38,t39,G,C,fJ A,bn,hm,br]
    refine⟨A,by simp;omega,by omega,by omega,?_⟩
    refine aq.bX ((Tm c g hr p hp S _ a x _ _ w z (by omega) (by omega) ab).mono ?_)
    rintro r1 H4 ⟨S',bs,bx,l,b0⟩
    simp(disch:=omega)only[↓wr,seval,wq,t8]
    refine aJ hi (by omega) ⟨⟨S',bs.more (by omega),bx,λj R h1 v=>l.mem (q j R h1 v),λb hb x d=>(h b hb x (by rw[(l b).2 hb] at d;exact d)).grow (l.low (by omega)),?_,?_⟩,t5,t6,t7,rfl,t38,t39⟩
    .have:=(l a).1.length_le
     omega
    .obtain⟨t,ht⟩:=(l a).1
     rw[<-ht,List.take_append_of_le_length (by omega),ae]
     intro y I
     rcases WN.1 I with I | I
     .exact(N y I).grow l
     .simp at I;subst I;exact b0
   .simp(disch:=omega)only[↓wr,seval,wq,t5,t6,t7,t8,t38,t39]
    have al:i=(S a).length:=by omega
    rw[al,X0] at N
    refine aJ hk (by omega) ⟨⟨S,w.more (by omega),z,q,λb hb x d=>?_⟩,t5,t6,t38,rfl⟩
    by_cases e:b=a
    .subst e;exact N x d
    .exact h b (by omega) x d
  .simp(disch:=omega)only[↓wr,seval,wq,t5,t6,t38,t39]
   have b2:∀ b x,x∈S b->b<=p.length:=λb x d=>by
    apply X5
    intro hn
    rw[z.out b (by omega)] at d
    simp at d
   have hd:=λb x (d:x∈S b)=>h b (by have:=b2 b x d;omega) x d
   refine⟨c,S,_,rfl,w,z,⟨q,λa x R s d h1 v P Q=>(hd a x d).term R s h1 v P Q,λa x R s i R' d h1 v P Q h5 _=>(hd a x d).pred R s i R' h1 v P Q h5,λa x R s d h1 v P Q _=>(hd a x d).null R s h1 v P Q,λa y R' x R s I h1 v P d Q h5 h6 h7 _=>?_⟩⟩
   refine(hd a y I).comp R' h1 v P x d R Q ?_
   rw[h5,h7]
   congr 1
   omega
end Gv
