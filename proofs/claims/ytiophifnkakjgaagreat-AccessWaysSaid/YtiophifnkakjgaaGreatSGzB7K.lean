/-
  Part 11 of the proof: what the machine does and what the functions answer.
  Conditions: those that each lemma names.
-/
import Derived.Test.YtiophifnkakjgaaGreatSGzB7J
set_option linter.unusedSimpArgs false
set_option linter.unusedVariables false
set_option maxRecDepth 100000
set_option maxHeartbeats 20000000
namespace Gv
open Go Go.Proofs
noncomputable def Ll:List (FuncId × DF):=um Tryz.prog [(251,[]),(180,[]),(236,[]),(237,[])]
theorem K4:oX Tryz.prog Ll:=qS _ _
def bM (p:bu):List V:=[gi p.aw,gi p.bS,gi p.rules,gi p.ao]
abbrev iD (P:List bu):V:=.aT (P.map bM)
theorem qF (P:List bu):Tree (iD P):=eY _ _ λx _ v a=>by
 simp[bM] at a
 rcases a with rfl | rfl | rfl | rfl <;> exact .val _
theorem QF {n:Nat} (h:qQ Tryz.prog Ll (λ_ _ _=>none) 251 [iD [ll],gi n]=some (iD (List.replicate n ll))):cT Tryz.prog 251 [iD [ll],gi n] (iD (List.replicate n ll)) :=
 nh mixed K4 (Jj _) (by
  intro v a;simp at a
  rcases a with rfl | rfl
  .exact qF [ll]
  .exact .val _) h
theorem Mm {n:Nat} (h1:1<=n) (a:n<=16):cT Tryz.prog 251 [iD [ll],gi n] (iD (List.replicate n ll)):=by
 have:n=1∨n=2∨n=3∨n=4∨n=5∨n=6∨n=7∨n=8∨n=9∨n=10∨n=11∨n=12∨n=13∨n=14∨n=15∨n=16:=by omega
 rcases this with rfl | rfl | rfl | rfl | rfl | rfl | rfl | rfl | rfl | rfl | rfl | rfl | rfl | rfl | rfl | rfl <;> exact QF (by kernel_rfl)
theorem zL (p:bu):∀ v∈bM p,Tree v:=by
 intro v a;simp[bM] at a
 rcases a with rfl | rfl | rfl | rfl <;> exact .val _
theorem Qd (h:az) (p:bu):dH h (.agg (bM p)) (.agg (bM p)):=.agg _ _ rfl λi hi=>by
 match i,hi with
 | 0,_=>exact .val _
 | 1,_=>exact .val _
 | 2,_=>exact .val _
 | 3,_=>exact .val _
 | n+4,h=>exact absurd h (by simp[bM])
def yA (p:bu):Prop:=fP p/\(-1<=p.aw/\p.aw<=1000000)/\0<=p.bS/\p.bS<=1000000
theorem Oc:yA bp:=by unfold yA fP bp;decide
theorem EJ {x:Int} : (if x < 1048576 then x else 1048576)=min 1048576 x:=by omega
theorem Qw {x y:Int} : (if y > x then y else x)=max x y:=by omega
def vG:SC :=
 ae [ab [aU 12 .lss 11 10],cb 12 (.exit 0),.block 1 (ae [ab [aZ 13 1 9 11,ak 14 13,aa 7 14],ae [ab [aa 15 7,aF 16 .geq 15 0],bf 16 (ae [ab [al 17 3 4,ak 18 17,aF 19 .add 18 1,((some 20),.op (.mm false (.val (.val (.int .i64 1048576))) (.tmp 19))),al 21 3 4,cL 1 21 20],.exit 1])],ab [aa 22 1,aa 23 7,((some 24),.op (.arith .sub (.val (.val (.int .i64 (-1)))) (.tmp 23))),aZ 25 4 22 24,ba 26 4 25,((some 8),.op (.alloc [(.val (.int .i64 0)),(.val (.int .i64 0)),(.val (.int .i64 0)),(.val (.int .i64 0))])),cL 4 8 26],ae [ab [al 27 0 8,ak 28 27,aF 29 .lss 28 0],bf 29 (ae [ab [ba 30 4 4,cL 4 4 30,bm 5 false],.ret])],ab [al 31 1 4,ak 32 31,al 33 1 8,ak 34 33,((some 35),.op (.mm true (.tmp 32) (.tmp 34))),al 36 1 4,cL 1 36 35],.tP [(45,49)] [⟨none,[al 37 2 4,ak 38 37,al 39 2 8,ak 40 39,aU 41 .add 38 40,((some 42),.op (.mm false (.val (.val (.int .i64 1048576))) (.tmp 41))),al 43 3 4,ak 44 43,al 45 3 8,ak 46 45,aU 47 .add 44 46,((some 48),.op (.mm false (.val (.val (.int .i64 1048576))) (.tmp 47))),al 49 2 4,cL 1 49 42,al 50 3 4,cL 1 50 48]⟩]]),ab [aF 51 .add 11 1,aa 11 51]]
def yz:SF:=⟨ae [ab [((some 4),.op (.alloc [(.val (.int .i64 0)),(.val (.int .i64 0)),(.val (.int .i64 0)),(.val (.int .i64 0))])),bm 5 false],ae [ab [aa 9 0,aP 10 9,aR 11 0],cd 0 vG],ab [ba 52 4 4,cL 4 4 52,bm 5 true],.ret],
 [.cell 4 (some 4),.tmp 5],53⟩
theorem BT:aI Tryz.prog 196 []=some yz:=by kernel_rfl
theorem wj {P:List bu} {m:Nat} (h:m < P.length):(P.map bM)[m]?=some (bM (bG P m)):=by
 simp[bG,Sm,h]
theorem Mt (P:List bu) (o:∀ m,yA (bG P m)) (l:List Int) (p:aK l) (t:∀ x∈l,bK x/\(x < 0->-1 - x < P.length)) :
  cT Tryz.prog 196 [encI l,iD P] (.aS [.agg (bM (bL P l bp).1),gb (bL P l bp).2]):=by
 have key:∀ H,au Tryz.prog 196 [encI l,iD P] H λr _=>r=.aS [.agg (bM (bL P l bp).1),gb (bL P l bp).2]:=?_
 .refine cT.of (by
   intro v g;simp at g
   rcases g with rfl | rfl
   .exact bU l
   .exact qF P) ((key _).mono λr H' e A _=>?_)
  rw[e];exact Fh (Qd _ _) (.val _)
 intro H
 refine au.of mixed BT ?_
 unfold aK at p
 simp(disch:=omega)only[↓wr,seval,wq,yz,encI]
 intro m hm
 try simp(disch:=omega)only[↓wr,seval,wq,encI]
 refine aY.up l.length (λi T H'=>∃ s:bu,yA s/\s.aw=0/\bL P (l.drop i) s=bL P l bp/\H' m=.arr 4 [bM s]/\T 1=iD P/\T 4=.ptr m 0 0/\T 9=encI l/\T 10=gi l.length/\T 11=gi i) ?_ ?_
 .exact⟨bp,Oc,rfl,rfl,by simp[View.set,bM,bp],rfl,rfl,rfl,rfl,rfl⟩
 rintro i k T H hk ⟨s,u,d,a,hH,t1,t4,t9,t10,t11⟩
 unfold yA fP at u
 simp(disch:=omega)only[↓wr,seval,wq,vG,t1,t4,t9,t10,t11,encI]
 apply ai.dec<;>intro w
 .have h:l[i]?=some (l[i]'(by omega)):=Sn (by omega)
  have c:l[i]'(by omega)∈l:=Sx _
  rw[eC (show i < l.length by omega)] at a
  generalize l[i]'(by omega)=x at h c a
  obtain⟨⟨y,z⟩,f⟩:=t x c
  simp(disch:=omega)only[↓wr,seval,wq,t1,t4,t9,t10,t11,encI,Ss,h]
  apply ai.dec<;>intro j
  .simp(disch:=omega)only[↓wr,seval,wq,t1,t4,t9,t10,t11,encI,hH,bM,EJ]
   rw[Dh (show 0<=x from j)] at a
   refine aH hk (by omega) ⟨_,?_,?_,a,?_,t1,t4,t9,t10,rfl⟩
   .unfold yA fP;simp only;omega
   .exact d
   .simp[View.set]
  .have hm:(cQ x) < P.length:=by have:=f (by omega);unfold cQ;omega
   have hp:=o (cQ x)
   unfold yA fP at hp
   simp(disch:=omega)only[↓wr,seval,wq,t1,t4,t9,t10,t11,encI,hH,wj hm]
   simp(disch:=omega)only[↓wr,seval,wq,t1,t4,t9,t10,t11,encI,hH,bM]
   intro q n
   have b:m≠q:=by rintro rfl;rw[hH] at n;simp at n
   try simp(disch:=omega)only[↓wr,seval,wq,t1,t4,t9,t10,t11,encI,hH,b,b.symm,bM]
   apply ai.dec<;>intro he
   .simp(disch:=omega)only[↓wr,seval,wq,t1,t4,t9,t10,t11,encI,hH,b,b.symm,bM]
    rw[Lv (by omega) he] at a
    rw[<-a]
   .simp(disch:=omega)only[↓wr,seval,wq,t1,t4,t9,t10,t11,encI,hH,b,b.symm,bM,EJ,Qw]
    rw[DY (by omega) he] at a
    refine aH hk (by omega) ⟨_,?_,?_,a,?_,t1,t4,t9,t10,rfl⟩
    .unfold yA fP;simp only;omega
    .exact d
    .simp[View.set,b]
 .simp(disch:=omega)only[↓wr,seval,wq,t1,t4,t9,t10,t11,hH,bM]
  rw[S4 (by omega)] at a
  rw[<-a];try rfl
def dV:SF:=⟨ae [ab [bQ 2 1],ae [ab [aa 3 0,((some 4),.op (.nil true 0 (.tmp 3) (.val (.emp 1))))],bf 4 (ae [ab [bQ 2 1],.ret])],ab [bQ 5 2,aa 6 0,gD 7 4 32 5 6,aa 2 7],.ret],
 [.tmp 2],8⟩
theorem ja:aI Tryz.prog 252 []=some dV:=by kernel_rfl
theorem Jw (P:List bu) (c:P.length<=100000) (h1:1<=P.length) (u:V) (H:View) (hu:u=iD P∨aJ H u 4 (P.map bM)) :
  au Tryz.prog 252 [u] H λr H'=>aJ H' r 4 (P.map bM)/\cw H H' r:=by
 have a:((P.map bM).all λe=>e.length == 4 && e.all aE)=true:=by simp[T8,bM,aE]
 refine au.of mixed ja ?_
 cases P with
 | nil=>simp at h1
 | cons p r =>
  simp only[SA] at c
  rcases hu with rfl | hu
  .simp(disch:=omega)only[↓wr,seval,wq,dV,iD]
   refine⟨by simpa using a,by unfold aC;simp;omega,λm hm=>?_⟩
   simp(disch:=omega)only[↓wr,seval,wq]
   have:=aJ.new (H:=H) (n:=m) (sz:=4) (es:=(p :: r).map bM)
   simp only[Sv,SA] at this
   exact⟨by simpa using this,.new hm⟩
  .obtain⟨n,rfl,b⟩:=hu.sl (by simp)
   simp only[Sv,SA] at b ⊢
   have he:bA H (.sl n 0 (r.length+1) 4)=some ((p :: r).map bM,[n]):=by
    rw[ni _ n 0 r.length 4 4 _ b (by simp),TZ,SL (by simp)]
   simp(disch:=omega)only[↓wr,seval,wq,dV,he]
   refine⟨by simpa using a,by unfold aC;simp;omega,λm hm=>?_⟩
   simp(disch:=omega)only[↓wr,seval,wq]
   have:=aJ.new (H:=H) (n:=m) (sz:=4) (es:=(p :: r).map bM)
   simp only[Sv,SA] at this
   exact⟨by simpa using this,.new hm⟩
theorem FF {g:af} (hr:g.rules.length<=40) {k:Nat} (hk:k<=16) (m:Nat):yA (bG (aB g k) m):=by
 refine⟨pE g k m,?_⟩
 by_cases h:bV (aB g k) m
 .obtain⟨a,b,_⟩:=gm g k m h
  obtain⟨j,f,d,l,e⟩:=uj h
  obtain⟨i,r,c,_,_,hp,_⟩:=j0 e
  have hi:i < g.rules.length:=(SH.1 c).1
  have:(bG (aB g k) m).aw=i:=by rw[hp];simp[gF]
  omega
 .rw[oK h];unfold ll;decide
def sW (H:View) (u:V) (P:List bu):Prop:=u=iD P∨aJ H u 4 (P.map bM)
theorem sW.j4 {H:View} {u:V} {P:List bu} (h:sW H u P):cg H u (iD P):=by
 rcases h with rfl | h
 .exact cg.tree (qF P)
 .exact cg.own h λe he v a=>by
   obtain⟨p,_,rfl⟩:=S5.1 he
   exact zL p v a
theorem sW.keep {H H':View} {u:V} {P:List bu} (h:sW H u P) (hk:∀ id,owner u=some id->H' id=H id):sW H' u P:=h.imp id λh=>h.keep hk
theorem sW.live {H:View} {u:V} {P:List bu} (h:sW H u P) {id:Nat} (a:owner u=some id):H id≠.dead:=by
 rcases h with rfl | h
 .simp[owner] at a
 .rw[(h.live a).1];simp
theorem KQ {N:List bu} {i m:Nat} {p:bu} (hp:0<=p.aw) (h:bV N m):bV (N.set i p) m:=by
 have hm:=Gd h
 unfold bV at h ⊢
 rw[x6 hm];split
 .exact hp
 .exact h
def sg:SC :=
 ae [ab [aU 24 .lss 23 22],cb 24 (.exit 2),.block 3 (ae [ab [aa 25 23,aZ 26 3 21 23,ba 27 3 26,((some 7),.op (.alloc [(.val (.int .i64 0)),(.emp 1),(.val (.int .i64 0))])),aa 6 25,cL 3 7 27],ae [ab [aa 28 5,al 29 0 7,ak 30 29,aZ 31 4 28 30,al 32 0 31,ak 33 32,aF 34 .geq 33 0],bf 34 (.exit 3)],ab [al 36 1 7,ak 37 36,aa 38 3,bg 39 196 [37,38],aa 35 39,dz 40 0 35,dz 41 1 35,((some 8),.op (.alloc [(.val (.int .i64 0)),(.val (.int .i64 0)),(.val (.int .i64 0)),(.val (.int .i64 0))])),cL 4 8 40,aa 9 41],ab [aa 42 9],bf 42 (ae [ab [aa 43 5,al 44 0 7,ak 45 44,aa 46 6,al 47 1 8,ak 48 47,aF 49 .add 48 1,al 50 2 8,ak 51 50,aF 52 .add 51 1,((some 53),.op (.mm false (.val (.val (.int .i64 1048576))) (.tmp 52))),al 54 3 8,ak 55 54,((some 56),.op (.build [(.val (.int .i64 0)),(.val (.int .i64 0)),(.val (.int .i64 0)),(.val (.int .i64 0))] [(0,1,(.tmp 46)),(1,1,(.tmp 49)),(2,1,(.tmp 53)),(3,1,(.tmp 55))])),aZ 57 4 43 45,cL 4 57 56],ab [bm 4 false]])]),ab [aF 58 .add 23 1,aa 23 58]]
def mK:SC :=
 ae [ae [ab [aa 16 4,dp 17 16],cb 17 (.exit 0)],.block 1 (ae [ab [bm 4 true],ab [aa 18 3,bg 19 252 [18],aa 5 19],ae [ab [al 20 2 1,ak 21 20,aP 22 21,aR 23 0],cd 2 sg],ab [aa 59 5,aa 3 59]])]
def vC:SF:=⟨ae [ab [cG 1 0,bQ 2 1],ab [((some 10),.op (.build [(.val (.int .i64 0)),(.val (.int .i64 0)),(.val (.int .i64 0)),(.val (.int .i64 0))] [(0,1,(.val (.val (.int .i64 (-1)))))])),((some 11),.op (.bN 1 4 [(.val (.int .i64 0)),(.val (.int .i64 0)),(.val (.int .i64 0)),(.val (.int .i64 0))] [(0,(.tmp 10))])),al 12 1 1,ak 13 12,aP 14 13,bg 15 251 [11,14],aa 3 15],ae [ab [bm 4 false],cd 0 mK],ab [aa 60 3,aa 2 60],.ret],
 [.tmp 2],61⟩
theorem y5:aI Tryz.prog 195 [1]=some vC:=by kernel_rfl
def Q4 (g:af) (H0:View) (P:List bu) (d i:Nat) (T:Env) (H:View):Prop :=
 ∃ (N:List bu) (u:V),N.length=g.aj.length/\lF P i N (g.rules.drop i)=vZ g.rules P/\(∀ m,bV P m->bV N m)/\sW H u P/\owner u≠some d/\H d=.arr 4 (N.map bM) /\
  (∀ id,H0 id≠.dead->H id=H0 id/\id≠d)/\((T 4=gb true/\N=P)∨(T 4=gb false/\∃ m,¬ bV P m/\bV N m)) /\
  T 1=.aG (ag g) 0/\T 3=u/\T 5=.sl d 0 g.aj.length 4/\T 21=.aT (g.rules.map aQ)/\T 22=gi g.rules.length/\T 23=gi i
theorem Oa (g:af) (hg:g.Ok) (M:g.cZ) (H:View):au Tryz.prog 195 [.agg (ag g)] H λr H'=>aJ H' r 4 ((aA g).map bM)/\cw H H' r:=by
 refine au.of mixed y5 ?_
 have z1:=M.qn
 have z2:=M.aj
 have z3:=M.rules
 simp(disch:=omega)only[↓wr,seval,wq,vC,ag,encS]
 intro n1 O
 try simp(disch:=omega)only[↓wr,seval,wq]
 refine av.lD (Mm z1 z2) (by kernel_rfl) ⟨cg.sl (off:=0) (len:=1) (esz:=4) (z:=4) (es:=[bM ll]) (by simp[View.set,bM,ll]) (by simp) (λe he v hv=>by simp at he;subst he;exact zL _ v hv),cg.tree (.val _),trivial⟩ ?_
 simp(disch:=omega)only[↓wr,seval,wq]
 refine aY.intro (λk T H'=>∃ (j:Nat) (u:V),j<=g.aj.length/\j<=dL (rD (aB g j))/\sW H' u (aB g j)/\cw H H' u/\T 1=.aG (ag g) 0/\T 3=u /\
   ((T 4=gb false/\j+k=g.aj.length+1)∨(T 4=gb true/\aB g j=aA g/\aJ H' u 4 ((aA g).map bM)))) (g.aj.length+1) ?_ ?_
 .refine⟨0,_,by omega,by omega,.inl rfl,λid a=>⟨?_,by simp[owner]⟩,rfl,rfl,.inl ⟨rfl,by omega⟩⟩
  have e:id≠n1:=by rintro rfl;exact a O
  simp[View.set,e]
 clear O
 rintro k T H1 ⟨j,u,hj,P,hu,f,t1,t3,E⟩
 rcases E with ⟨t4,bn⟩ | ⟨t4,A,s⟩
 .have hlen:=ga g j
  simp(disch:=omega)only[↓wr,seval,wq,mK,t1,t3,t4,ag,encS]
  refine av.dW ((Jw (aB g j) (by omega) (by omega) u H1 hu).mono ?_)
  rintro v H2 ⟨hv,F⟩
  obtain⟨d,rfl,p⟩:=hv.sl (by simp;omega)
  simp only[Sv,hlen]
  simp(disch:=omega)only[↓wr,seval,wq,t1,t3,t4,ag,encS]
  refine aY.up g.rules.length (Q4 g H (aB g j) d) ?_ ?_
  .refine⟨aB g j,u,hlen,rfl,λ_ h=>h,hu.keep λid a=>(F id (hu.live a)).1,λe=>?_,p,λid a=>?_,.inl ⟨rfl,rfl⟩,t1,t3,rfl,rfl,rfl,rfl⟩
   .exact(F d (hu.live e)).2 rfl
   .have h1:=f id a
    have h2:=F id (by rw[h1.1];exact a)
    exact⟨by rw[h2.1,h1.1],λe=>h2.2 (by rw[e];rfl)⟩
  clear t1 t3 t4 hu f F p hv
  rintro i q T H3 hq ⟨N,u,hN,b,hle,hu,G,p,f,E,t1,t3,t5,t21,t22,t23⟩
  simp(disch:=omega)only[↓wr,seval,wq,sg,t1,t3,t5,t21,t22,t23]
  apply ai.dec<;>intro hc
  .have Q:g.rules[i]?=some (g.rules[i]'(by omega)):=Sn (by omega)
   have y:g.rules[i]'(by omega)∈g.rules:=Sx _
   rw[eC (show i < g.rules.length by omega)] at b
   generalize g.rules[i]'(by omega)=r at Q y b
   have hl:=M.left r y
   have R:=hg.aw r y
   have S:r.left.toNat < N.length:=by omega
   have U:(N.map bM).getD r.left.toNat []=bM (bG N r.left.toNat):=by simp[bG,Sm,S]
   have hP:=λm=>FF (g:=g) z3 (show j<=16 by omega) m
   simp(disch:=omega)only[↓wr,seval,wq,t1,t3,t5,t21,t22,t23,Ss,Q,aQ,encI]
   intro n t
   have c:d≠n:=by rintro rfl;rw[p] at t;simp at t
   have W:∀ o,sW (H3.set n o) u (aB g j):=λo=>hu.keep λid a=>by
    have:id≠n:=by rintro rfl;exact hu.live a t
    simp[View.set,this]
   have X:∀ o,∀ id,H id≠.dead->(H3.set n o) id=H id/\id≠d:=λo id a=>by
    have h1:=f id a
    have:id≠n:=by rintro rfl;rw[h1.1] at t;exact a t
    exact⟨by simp[View.set,this,h1.1],h1.2⟩
   try simp(disch:=omega)only[↓wr,seval,wq,t1,t3,t5,t21,t22,t23,p,c,c.symm]
   refine⟨by omega,by omega,?_⟩
   try simp(disch:=omega)only[↓wr,seval,wq,t1,t3,t5,t21,t22,t23,p,c,c.symm,U,bM]
   have Y:=sk (aB g j) r.right bp
   apply ai.dec<;>intro hk
   .simp(disch:=omega)only[↓wr,seval,wq,t1,t3,t5,t21,t22,t23,p,c,c.symm]
    have A:oY (aB g j) i N r=N:=by unfold oY;rw[St hk]
    rw[lF,A] at b
    rw[set_set]
    exact aH hq (by omega) ⟨N,u,hN,b,hle,W _,G,by simp[View.set,c,p],X _,E,t1,t3,t5,t21,t22,rfl⟩
   .simp(disch:=omega)only[↓wr,seval,wq,t1,t3,t5,t21,t22,t23,p,c,c.symm]
    refine av.lD (Mt (aB g j) hP r.right R.2.2.1 λx hx=>⟨R.2.2.2 x hx,λt=>by rw[hlen];exact M.neg y hx t⟩) (by kernel_rfl) ⟨cg.tree (bU r.right),by rw[set_set];exact(W _).j4,trivial⟩ ?_
    have Z:=qV (λm=>pE g j m) r.right bp ko
    have a8:(0:Int)<=(bL (aB g j) r.right bp).1.bS:=Y
    have an:kX (aB g j) r.right->(bL (aB g j) r.right bp).1.bS<=16:=λha=>(iP (aB g j) 16 r.right bp ha).2 ⟨by simp[bp],λx hx t=>by have:=(gm g j _ (ha x hx t)).2.1;omega⟩
    have aq:=kP (aB g j) r.right bp
    generalize I:bL (aB g j) r.right bp=sp at Z a8 an aq
    unfold fP at Z
    simp(disch:=omega)only[↓wr,seval,wq,t1,t3,t5,t21,t22,t23,p,c,c.symm,bM]
    intro q2 ar
    have B:=(bR ar bP).1
    have l:=(bR (bR ar bP).2 bP).2
    have w:d≠q2:=by rintro rfl;rw[p] at l;simp at l
    try simp(disch:=omega)only[↓wr,seval,wq,t1,t3,t5,t21,t22,t23,p,c,c.symm,B,B.symm,w,w.symm,bM]
    apply ai.split<;>intro hb
    .have br:=an (aq.1 hb)
     simp(disch:=omega)only[↓wr,seval,wq,t1,t3,t5,t21,t22,t23,p,c,c.symm,B,B.symm,w,w.symm,bM]
     refine⟨by omega,by omega,?_⟩
     have A:oY (aB g j) i N r=N.set r.left.toNat (gF (aB g j) i r):=by unfold oY;rw[Sr hk,I,St hb]
     rw[lF,A] at b
     have C:(gF (aB g j) i r)=⟨i,sp.1.bS+1,min 1048576 (sp.1.rules+1),sp.1.ao⟩:=by rw[gF,I]
     have a1:0<=(gF (aB g j) i r).aw:=by rw[C];simp only;omega
     have a6:¬ bV N r.left.toNat:=hk
     refine aH hq (by omega) ⟨_,u,by simp[hN],b,λm hm=>KQ a1 (hle m hm),?_,G,?_,?_,.inr ⟨rfl,r.left.toNat,λbd=>a6 (hle _ bd),?_⟩,t1,t3,t5,t21,t22,rfl⟩
     .refine hu.keep λid a=>?_
      have J:id≠n:=by rintro rfl;exact hu.live a t
      have K:id≠q2:=by rintro rfl;exact hu.live a l
      have e3:id≠d:=by rintro rfl;exact G a
      simp[View.set,J,K,e3]
     .simp only[View.set,if_true]
      rw[List.map_set,C,U];simp only[bM,List.drop_succ_cons,List.drop_nil,TZ,EJ]
     .intro id a
      have h1:=f id a
      have J:id≠n:=by rintro rfl;rw[h1.1] at t;exact a t
      have K:id≠q2:=by rintro rfl;rw[h1.1] at l;exact a l
      exact⟨by simp[View.set,J,K,h1.2,h1.1],h1.2⟩
     .unfold bV;rw[x6 S,St rfl];exact a1
    .simp(disch:=omega)only[↓wr,seval,wq,t1,t3,t5,t21,t22,t23,p,c,c.symm,B,B.symm,w,w.symm,bM]
     have A:oY (aB g j) i N r=N:=by unfold oY;rw[Sr hk,I,Sr (by rw[hb];simp)]
     rw[lF,A] at b
     refine aH hq (by omega) ⟨N,u,hN,b,hle,?_,G,by simp[View.set,c,w,p],?_,E,t1,t3,t5,t21,t22,rfl⟩
     .refine hu.keep λid a=>?_
      have J:id≠n:=by rintro rfl;exact hu.live a t
      have K:id≠q2:=by rintro rfl;exact hu.live a l
      simp[View.set,J,K]
     .intro id a
      have h1:=f id a
      have J:id≠n:=by rintro rfl;rw[h1.1] at t;exact a t
      have K:id≠q2:=by rintro rfl;rw[h1.1] at l;exact a l
      exact⟨by simp[View.set,J,K,h1.1],h1.2⟩
  .simp(disch:=omega)only[↓wr,seval,wq,t1,t3,t5,t21,t22,t23]
   rw[S4 (by omega),lF,<-mR] at b
   have s:aJ H3 (.sl d 0 g.aj.length 4) 4 (N.map bM):=.inr ⟨d,by simp[hN],p⟩
   have a7:cw H H3 (.sl d 0 g.aj.length 4):=λid a=>⟨(f id a).1,λe=>(f id a).2 (by simp[owner] at e;exact e.symm)⟩
   rw[b] at s
   rcases E with ⟨E,he⟩ | ⟨E,m,bl,L⟩
   .have D:aB g (j+1)=aB g j:=by rw[<-b,he]
    have C:=OO hj D
    rw[D] at s
    exact⟨0,by omega,j,_,hj,P,.inr s,a7,rfl,rfl,.inr ⟨E,C,by rw[<-C];exact s⟩⟩
   .rw[b] at L
    rcases JO P with e | e
    .rw[e] at L;exact absurd L bl
    .have:=Gs g (j+1)
     exact⟨k - 1,by omega,j+1,_,by omega,e,.inr s,a7,rfl,rfl,.inl ⟨E,by omega⟩⟩
 .simp(disch:=omega)only[↓wr,seval,wq,mK,t1,t3,t4]
  exact⟨s,f⟩
theorem Mj {h:az} {u:V} {P:List bu} (b:aJ h.view u 4 (P.map bM)):dH h u (iD P):=by
 refine dH.own b rfl (λi _=>rfl) (λi j hi a=>?_)
 simp only[Sv] at hi
 have e:(P.map bM).getD i []=bM P[i]:=by simp[Sm,hi]
 rw[e] at a ⊢
 match j,a with
 | 0,_=>exact .val _
 | 1,_=>exact .val _
 | 2,_=>exact .val _
 | 3,_=>exact .val _
 | n+4,h=>exact absurd h (by simp[bM])
theorem ON (g:af) (a:g.Ok) (b:g.cZ):cT Tryz.prog 195 [.agg (ag g)] (iD (aA g)) :=
 cT.of (fa g) ((Oa g a b _).mono λr H' h d c=>Mj (by rw[c];exact h.1))
theorem MD (g:af) (f:Nat) (l:List Int) (i:Nat):(er g (aA g) f (l.take i)).length<=(er g (aA g) f l).length:=by
 have:=kq g (aA g) f (l.take i) (l.drop i)
 rw[List.take_append_drop] at this
 rw[this];simp
theorem LL (g:af) (f:Nat) (l:List Int) (i:Nat):(dZ g (aA g) f (l.take i)).length<=(dZ g (aA g) f l).length:=by
 have:=jh g (aA g) f (l.take i) (l.drop i)
 rw[List.take_append_drop] at this
 rw[this];simp
def JK (x:List Int × Int):V:=.aS [encI x.1,gi x.2]
theorem uc {h:az} {u:V} {x:List Int × Int} (hu:dH h u (encI x.1)):dH h (.aS [u,gi x.2]) (JK x):=Fh hu (.val _)
theorem xF {g:af} {l:List Int} (h:kX (aA g) l):C1 (aA g) g.aj.length l:=λx a b=>⟨h x a b,(sS (h x a b)).2⟩
theorem LR {g:af} {l:List Int} (h:kX (aA g) l) (a:(bL (aA g) l bp).1.rules<=300):((er g (aA g) g.aj.length l).length:Int)=(bL (aA g) l bp).1.rules:=by
 have:=(pQ g g.aj.length l bp (xF h) ko).1
 simp only[bp] at this a ⊢
 omega
def cP {κ:Type} (kv:κ->V) (m:cp κ):List (V × V × Nat):=m.map λx=>(kv x.1,x.2.1,x.2.2)
structure Ca {κ:Type} [BEq κ] (P:Program) (kt:TypeId) (kv:κ->V):Prop where
 find:∀ k e m,lE P kt (kv k) e (cP kv m)=some (gf k m)
 same:∀ k,sameKey (kv k) (kv k)=true
def kF {κ:Type} (m:cp κ) (c:Nat):Prop:=(m.map (·.2.2)).Nodup/\∀ x∈m,x.2.2 < c
def jz {κ:Type} [BEq κ] (m:cp κ) (k:κ):Option Nat:=(m.find? λx=>k == x.1).map (·.2.2)
section
variable {κ:Type} [BEq κ] [LawfulBEq κ] {kv:κ->V}
theorem lZ (k:κ):∀ m:cp κ,match gf k m with
  | some i=>∃ x,m[i]?=some x/\x.1=k/\getM m k=some x.2.1/\jz m k=some x.2.2/\(cP kv m)[i]?=some (kv k,x.2.1,x.2.2)/\∀ v c,(cP kv m).set i (kv k,v,x.2.2)=cP kv (bF k v c m)/\jz (bF k v c m) k=some x.2.2/\(bF k v c m).map (·.2.2)=m.map (·.2.2)
  | none=>getM m k=none/\jz m k=none/\∀ v c,cP kv m ++ [(kv k,v,c)]=cP kv (bF k v c m)/\jz (bF k v c m) k=some c/\(bF k v c m).map (·.2.2)=m.map (·.2.2) ++ [c]
 | []=>⟨rfl,rfl,λv c=>⟨rfl,by simp[bF,jz],rfl⟩⟩
 | x :: r=>by
  have a:=lZ k r
  simp only[gf]
  cases hk:k == x.1 with
  | true =>
   have b:x.1=k:=(eq_of_beq hk).symm
   exact⟨x,rfl,b,by simp[getM,hk],by simp[jz,hk],by simp[cP,b],λv c=>by simp[bF,hk,cP,jz]⟩
  | false =>
   simp only[SU,if_false]
   cases hi:gf k r with
   | some i =>
    rw[hi] at a
    obtain⟨y,h1,d,e,f,g,h⟩:=a
    refine⟨y,by simpa using h1,d,by simpa [getM,hk] using e,by simpa [jz,hk] using f,by simpa [cP] using g,λv c=>?_⟩
    obtain⟨g1,g2,g3⟩:=h v c
    exact⟨by simp only[cP] at g1 ⊢;simp[bF,hk,g1],by simpa [bF,hk,jz] using g2,by simp[bF,hk,g3]⟩
   | none =>
    rw[hi] at a
    refine⟨by simpa [getM,hk] using a.1,by simpa [jz,hk] using a.2.1,λv c=>?_⟩
    obtain⟨g1,g2,g3⟩:=a.2.2 v c
    exact⟨by simp only[cP] at g1 ⊢;simp[bF,hk,g1],by simpa [bF,hk,jz] using g2,by simp[bF,hk,g3]⟩
theorem kF.put {m:cp κ} {c:Nat} (h:kF m c) (k:κ) (v:V):kF (bF k v c m) (c+1):=by
 have f:=lZ (kv:=λ_=>V.any) k m
 cases i:gf k m with
 | some j =>
  rw[i] at f
  obtain⟨y,_,_,_,_,_,n⟩:=f
  have e:=(n v c).2.2
  refine⟨by rw[e];exact h.1,λx g=>?_⟩
  have:x.2.2∈m.map (·.2.2):=by rw[<-e];exact S5.2 ⟨x,g,rfl⟩
  obtain⟨y,d,o⟩:=S5.1 this
  have:=h.2 y d
  omega
 | none =>
  rw[i] at f
  have e:=(f.2.2 v c).2.2
  refine⟨?_,λx g=>?_⟩
  .rw[e,TT]
   refine⟨h.1,by simp,λa p b l=>?_⟩
   simp at l;subst l
   obtain⟨y,d,rfl⟩:=S5.1 p
   have:=h.2 y d
   omega
  .have:x.2.2∈m.map (·.2.2) ++ [c]:=by rw[<-e];exact S5.2 ⟨x,g,rfl⟩
   rcases SS.1 this with h1 | h1
   .obtain⟨y,d,o⟩:=S5.1 h1
    have:=h.2 y d
    omega
   .simp at h1;omega
theorem kF.QE {m:cp κ} {c:Nat} (h:kF m c) {k:κ} {b:Nat} (d:jz m k=some b) (v:V) (f:Nat):kF (bF k v f m) c:=by
 have a:=lZ (kv:=λ_=>V.any) k m
 cases g:gf k m with
 | some j =>
  rw[g] at a
  obtain⟨y,_,_,_,_,_,i⟩:=a
  have e:=(i v f).2.2
  refine⟨by rw[e];exact h.1,λx l=>?_⟩
  have:x.2.2∈m.map (·.2.2):=by rw[<-e];exact S5.2 ⟨x,l,rfl⟩
  obtain⟨y,n,o⟩:=S5.1 this
  have:=h.2 y n
  omega
 | none =>
  rw[g] at a
  rw[a.2.1] at d;simp at d
omit [BEq κ] [LawfulBEq κ] in
theorem find_born (b:Nat):∀ (m:cp κ) (i:Nat) (x:κ × V × Nat),(m.map (·.2.2)).Nodup->m[i]?=some x->x.2.2=b->(cP kv m).findIdx? (λe=>e.2.2 == b)=some i
 | [],i,x,_,h,_=>by simp at h
 | y :: m,0,x,a,h,e=>by
  simp at h;subst h
  simp[cP,List.findIdx?_cons,e]
 | y :: m,i+1,x,a,h,e=>by
  simp only[S7,Tx] at a
  have h:m[i]?=some x:=by simpa using h
  have f:x∈m:=SK h
  have c:¬ y.2.2=b:=λg=>a.1 (by rw[g,<-e];exact S5.2 ⟨x,f,rfl⟩)
  have d:=find_born b m i x a.2 h e
  simp only[cP] at d
  simp[cP,List.findIdx?_cons,c,d]
variable {P:Program} {T:Env} {H:View} {kt et t ty:TypeId}
theorem OW {K:V->View->Prop} {w:cx (T,H,K)} {x i:Operand} {z:V} {id c:Nat} {m:cp κ} {k:κ} (hm:ef P t=some (kt,et)) (d:zeroV P et=some z) (hk:Ca P kt kv)
  (e:ev T x=.mp id) (hi:ev T i=kv k) (hH:H id=.map (cP kv m) c) (h:K ((getM m k).getD z) H):iE P (.lookup t x i false) ty T H K w:=by
 intro n _
 have f:=hk.find k (cP kv m).isEmpty m
 have a:=lZ (kv:=kv) k m
 refine⟨(getM m k).getD z,.none,[id],?_,h⟩
 simp only[sI,bY,oper,eQ,hm,d,e,hi,hH,f]
 cases b:gf k m with
 | some j =>
  rw[b] at a
  obtain⟨y,h1,o,g,p,l,_⟩:=a
  simp[l,g]
 | none =>
  rw[b] at a
  simp[a.1]
theorem CW {z:V} {id c:Nat} {m:cp κ} {k:κ} (hm:ef P t=some (kt,et)) (l:zeroV P et=some z) (hk:Ca P kt kv) (hH:H id=.map (cP kv m) c) (e:kF m c) :
  ∃ b f,ec P t (.mp id) (kv k) H=some (.aS [(getM m k).getD z,fA b],.eS id (.map (cP kv (bF k ((getM m k).getD z) c m)) f),[id])/\kF (bF k ((getM m k).getD z) c m) f/\jz (bF k ((getM m k).getD z) c m) k=some b:=by
 have d:=hk.find k false m
 have a:=lZ (kv:=kv) k m
 cases g:gf k m with
 | some j =>
  rw[g] at a d
  obtain⟨y,h1,p,h,n,o,i⟩:=a
  refine⟨y.2.2,c,?_,?_,?_⟩
  .simp only[ec,hm,hH,d,o,hk.same k,if_true,h,SJ]
   rw[(i y.2.1 c).1]
  .exact e.QE n _ _
  .rw[h];exact(i _ c).2.1
 | none =>
  rw[g] at a d
  refine⟨c,c+1,?_,e.put k _,?_⟩
  .simp only[ec,hm,hH,d,l,a.1,Option.getD_none]
   rw[(a.2.2 z c).1]
  .rw[a.1];exact(a.2.2 _ c).2.1
theorem P4 {K:V->View->Prop} {w:cx (T,H,K)} {x i:Operand} {z:V} {id c:Nat} {m:cp κ} {k:κ} (hm:ef P t=some (kt,et)) (d:zeroV P et=some z) (hk:Ca P kt kv)
  (e:ev T x=.mp id) (hi:ev T i=kv k) (hH:H id=.map (cP kv m) c) (f:kF m c)
  (h:∀ b a,kF (bF k ((getM m k).getD z) c m) a->jz (bF k ((getM m k).getD z) c m) k=some b->K (.aS [(getM m k).getD z,fA b]) (H.set id (.map (cP kv (bF k ((getM m k).getD z) c m)) a))):iE P (.mapEntry t x i) ty T H K w:=by
 intro n _
 obtain⟨b,a,h1,g,j⟩:=CW (k:=k) hm d hk hH f
 refine⟨.aS [(getM m k).getD z,fA b],.eS id (.map (cP kv (bF k ((getM m k).getD z) c m)) a),[id],?_,h b a g j⟩
 simp only[sI,bY,oper,e,hi]
 exact h1
theorem QR {K:V->View->Prop} {w:cx (T,H,K)} {x s y:Operand} {id c b:Nat} {m:cp κ} {k:κ} {v:V} (i:ev T x=.mp id) (l:ev T s=fA b) (o:ev T y=v) (hH:H id=.map (cP kv m) c) (p:kF m c) (a:jz m k=some b)
  (h:∀ c0,K .any (H.set id (.map (cP kv (bF k v c0 m)) c))):iE P (.entryStore t x s y) ty T H K w:=by
 intro n _
 have d:=lZ (kv:=kv) k m
 cases g:gf k m with
 | none=>rw[g] at d;rw[d.2.1] at a;simp at a
 | some j =>
  rw[g] at d
  obtain⟨z,h1,B,C,f,q,r⟩:=d
  rw[a] at f
  have e:z.2.2=b:=by simp at f;exact f.symm
  have u:=find_born (kv:=kv) b m j z p.1 h1 e
  refine⟨.any,.eS id (.map (cP kv (bF k v c m)) c),[id],?_,h c⟩
  have A:asNat (fA b)=some b:=by simp[asNat,fA]
  simp only[sI,bY,oper,i,l,o,jE,A,hH,u,q]
  rw[(r v c).1]
theorem RV {z:V} {id c:Nat} {m:cp κ} {k:κ} (hm:ef P t=some (kt,et)) (f:zeroV P et=some z) (hk:Ca P kt kv) (hH:H id=.map (cP kv m) c) (i:kF m c):Fi P t (.mp id) (kv k) H:=by
 refine⟨⟨_,_,hH⟩,λv obj rd he=>?_⟩
 obtain⟨b,l,h1,n,g⟩:=CW (k:=k) hm f hk hH i
 rw[he] at h1
 simp only[Sq,Su,bh.eS.injEq] at h1
 obtain⟨_,⟨_,rfl⟩,_⟩:=h1
 have key:∀ (a:cp κ) (c2:Nat) (H':View),H' id=.map (cP kv a) c2->eQ P t (.mp id) (kv k) false H'=some ((getM a k).getD z,.none,[id]):=by
  intro a c2 H' e
  have o:=hk.find k (cP kv a).isEmpty a
  have d:=lZ (kv:=kv) k a
  simp only[eQ,hm,f,e,o]
  cases h:gf k a with
  | some j =>
   rw[h] at d
   obtain⟨y,h1,n,g,q,p,_⟩:=d
   simp[p,g]
  | none =>
   rw[h] at d
   simp[d.1]
 rw[key (bF k ((getM m k).getD z) c m) l _ (by simp[View.set]),key m c H hH,oO]
 simp
end
theorem EO {P:Program} {α:Type} (x:α):aW P (pure x:Sem α)=some x:=rfl
theorem sK:∀ (N:Nat) (l:List Nat),l.Nodup->(∀ x∈l,x < N)->l.length<=N
 | 0,l,_,h=>by
  cases l with
  | nil=>simp
  | cons x l=>exact absurd (h x (by simp)) (by omega)
 | N+1,l,b,h=>by
  by_cases e:N∈l
  .have h1:=sK N (l.erase N) (b.erase N) λx a=>by
    have c:=(b.mem_erase_iff).1 a
    have:=h x c.2
    have:=c.1
    omega
   rw[List.length_erase_of_mem e] at h1
   omega
  .have:=sK N l b λx a=>by
    have:=h x a
    have:x≠N:=by rintro rfl;exact e a
    omega
   omega
def O3:List Int:=[37,37,32,115,32,58,32,39,97,39,32,115,32,124,32,59]
def iC:af:=⟨[⟨⟨#[39,97,39]⟩,0,0⟩],[⟨#[115]⟩],[⟨0,[0,(-1)],0⟩,⟨0,[],(-1)⟩],0⟩
theorem QY:cT Tryz.prog 44 [EC O3] (xY iC):=Pm (by kernel_rfl)
section
variable {g:af} {p:List Int} {T:Tb} {N:Nat}
end
section
variable {g r:af} {p q:List Bool} {o:List Int}
end
section
variable {fit:List Int->Bool} {T b:Nat}
end
section
variable {P:Program} {T:Env} {H:View} {K:V->View->Prop} {w:cx (T,H,K)} {t t1 e ty:TypeId}
theorem M7 {x:Operand} {k:Nat} (he:cB P t=some e) (a:ev T x=.emp k) (hk:K (fA 0) H):iE P (.call { callee:=.builtin .cap,args:=#[x],argTypes:=#[t] }) ty T H K w:=by
 intro n _
 refine⟨fA 0,.none,[],?_,hk⟩
 simp[sI,bY,oper,BN,he,a]
theorem Ps {s x:Operand} {k l sz bytes:Nat} {z:List V} (he:ng P t=some (sz,bytes,z)) (g:nK P t1=false) (hi:isInt P t1=true) (h:ev T s=.emp k) (i:ev T x=fA l) (j:l≠0)
  (h1:l * bytes < aC) (m:l < aC) (hk:∀ n,H n=.dead->K (.sl n 0 l sz) (H.set n (.arr sz (List.replicate l z)))) :
  iE P (.call { callee:=.builtin .append,args:=#[s,x],argTypes:=#[t,t1] }) ty T H K w:=by
 obtain⟨e,ti,b,_,c,o,d,a,f,rfl,rfl⟩:=jA he
 intro n p
 refine⟨.sl n 0 l ti.size,.new (.arr ti.size (List.replicate l z)),[],?_,hk n p⟩
 have q:asNat (fA l)=some l:=by simp[asNat,fA]
 have key:qv P t (.emp k) (fA l) n=some (.sl n 0 l ti.size,.new (.arr ti.size (List.replicate l z)),[]):=by
  unfold qv
  rw[b,q]
  simp only[c,o,Sr j]
  rw[St ⟨d,a,f,h1,m⟩]
 simp[sI,bY,oper,g,hi,h,i,key]
end
def kd:SF:=⟨ae [ab [bQ 4 1],ae [ab [aa 5 1,aF 6 .lss 5 0],bf 6 (.region false [⟨none,[((some 7),.op (.old (.makeInterface 9 (.const (.string ⟨#[99,97,110,110,111,116,32,98,101,32,110,101,103,97,116,105,118,101]⟩))) 20)),(none,.op (.old (.panic (.tmp 7)) 0))]⟩])],ae [ab [aa 8 1,aa 9 0,((some 10),.op (.old (.call { callee:=.builtin .cap,args:=#[(.tmp 9)],argTypes:=#[27] }) 3)),aa 11 0,aP 12 11,aU 13 .sub 10 12,aU 14 .sub 8 13,aa 1 14],ab [aa 15 1,aF 16 .gtr 15 0],bf 16 (ab [aa 17 0,aa 18 0,((some 19),.op (.old (.call { callee:=.builtin .cap,args:=#[(.tmp 18)],argTypes:=#[27] }) 3)),((some 20),.op (.slice 1 (.tmp 17) none (some (.tmp 19)))),aa 21 1,((some 22),.op (.old (.call { callee:=.builtin .append,args:=#[(.tmp 20),(.tmp 21)],argTypes:=#[27,3] }) 27)),aa 23 0,aP 24 23,((some 25),.op (.slice 1 (.tmp 22) none (some (.tmp 24)))),aa 0 25])],ab [aa 26 0,aa 4 26],.ret],
 [.tmp 4],27⟩
theorem pL:aI Tryz.prog 132 []=some kd:=by kernel_rfl
def iW:SC :=
 ae [ab [aU 12 .lss 11 10],cb 12 (.exit 0),.block 1 (ae [ab [aZ 13 1 9 11,ak 14 13,aa 5 14],ab [aa 15 3,aa 16 5,aP 17 16,aU 18 .add 15 17,aa 3 18],ab [aa 19 3,aF 20 .lss 19 0],bf 20 (.region false [⟨none,[((some 21),.op (.old (.makeInterface 9 (.const (.string ⟨#[108,101,110,32,111,117,116,32,111,102,32,114,97,110,103,101]⟩))) 20)),(none,.op (.old (.panic (.tmp 21)) 0))]⟩])]),ab [aF 22 .add 11 1,aa 11 22]]
def jc:SC :=
 ae [ab [aU 28 .lss 27 26],cb 28 (.exit 2),.block 3 (ae [ab [aZ 29 1 25 27,ak 30 29,aa 8 30],ab [aa 31 6,aa 32 8,gD 33 1 8 31 32,aa 6 33]]),ab [aF 34 .add 27 1,aa 27 34]]
def jB:SF:=⟨ae [ab [bQ 2 1],ab [aR 3 0],ae [ab [aa 9 0,aP 10 9,aR 11 0],cd 0 iW],ab [aa 23 3,qe 24 132 [(.val (.emp 1)),(.tmp 23)],aa 6 24],ae [ab [aa 25 0,aP 26 25,aR 27 0],cd 2 jc],ab [aa 35 6,aa 2 35],.ret],
 [.tmp 2],36⟩
theorem nO:aI Tryz.prog 68 []=some jB:=by kernel_rfl
theorem IZ (n:Nat) (a:n<=1000000) (H:View):au Tryz.prog 132 [.emp 1,gi n] H λr H'=>(n=0/\r=.emp 1/\H'=H)∨(0 < n/\∃ m es,H m=.dead/\r=.sl m 0 0 1/\H'=H.set m (.arr 1 es)):=by
 refine au.of mixed pL ?_
 simp(disch:=omega)only[↓wr,seval,wq,kd]
 refine ai.dec (λh=>absurd h (by omega)) (λ_=>?_)
 simp(disch:=omega)only[↓wr,seval,wq]
 refine M7 (k:=1) (e:=3) (by kernel_rfl) (by simp(disch:=omega)only[↓wr,seval,wq]) ?_
 simp(disch:=omega)only[↓wr,seval,wq]
 apply ai.dec<;>intro h
 .simp(disch:=omega)only[↓wr,seval,wq]
  refine M7 (k:=1) (e:=3) (by kernel_rfl) (by simp(disch:=omega)only[↓wr,seval,wq]) ?_
  simp(disch:=omega)only[↓wr,seval,wq]
  first | rw[show cz 1 (.emp 1) none (some (.val (.int .i64 ((0:Nat):Int))))=some (.emp 1,.none,[]) from rfl] | rw[show cz 1 (.emp 1) none (some (.val (.int .i64 0)))=some (.emp 1,.none,[]) from rfl]
  simp(disch:=omega)only[↓wr,seval,wq]
  refine Ps (k:=1) (l:=n) (sz:=1) (bytes:=8) (z:=[gi 0]) (by kernel_rfl) (by kernel_rfl) (by kernel_rfl) (by simp(disch:=omega)only[↓wr,seval,wq]) (by simp(disch:=omega)only[↓wr,seval,wq];simp) (by omega) (by unfold aC;omega) (by unfold aC;omega) ?_
  intro m hm
  simp(disch:=omega)only[↓wr,seval,wq]
  first | rw[show cz 1 (.sl m 0 n 1) none (some (.val (.int .i64 ((0:Nat):Int))))=some (.sl m 0 0 1,.none,[]) by simp[cz,bound,asNat]] | rw[show cz 1 (.sl m 0 n 1) none (some (.val (.int .i64 0)))=some (.sl m 0 0 1,.none,[]) by simp[cz,bound,asNat]]
  simp(disch:=omega)only[↓wr,seval,wq]
  exact .inr ⟨by omega,m,_,hm,rfl,rfl⟩
 .simp(disch:=omega)only[↓wr,seval,wq]
  exact .inl (by omega)
def DN (H:View) (u:V) (l:List Int):Prop:=aJ H u 1 (bC l)∨(l=[]/\∃ m es,u=.sl m 0 0 1/\H m=.arr 1 es)
theorem JJ {bytes:Nat} {u:V} {l xs:List Int} {H:View} {K:V->View->Prop} {w:cx (H,K)} (b:DN H u l) (f:(l.length+xs.length) * bytes < aC) (c:l.length+xs.length < aC) (k:bytes=8)
  (hk:∀ a H',DN H' a (l ++ xs)->(aJ H u 1 (bC l)->aJ H' a 1 (bC (l ++ xs)))->Left H H' u a->K a H'):lJ 1 bytes u (bC xs) H K w:=by
 rcases b with b | ⟨rfl,m,es,rfl,hm⟩
 .exact fE b (by simp[T8,aE]) (by simpa using f) (by simpa using c) λa H' h1 g=>hk a H' (.inl (by simpa using h1)) (λ_=>by simpa using h1) g
 .cases xs with
  | nil=>exact hk _ _ (.inr ⟨rfl,m,es,rfl,hm⟩) (λh=>by simpa using h) .refl
  | cons x xs =>
   rw[ra _ _ _ _ _ _ _ _ _ _ (by simp),hm]
   refine⟨by simp[T8,aE],⟨by simp,rfl,by simpa using f,by simpa using c⟩,λn i=>hk _ _ (.inl (.inr ⟨n,by simp,by simp[View.set]⟩)) (λ_=>.inr ⟨n,by simp,by simp[View.set]⟩) λid d b=>?_⟩
   have e:id≠n:=by rintro rfl;exact d i
   have j:id≠m:=by rintro rfl;exact b rfl
   exact⟨by simp[View.set,e,j],by simp[owner,Ne.symm e]⟩
def fW:SC :=
 ae [ab [aU 10 .lss 9 8],cb 10 (.exit 0),.block 1 (ae [ab [aZ 11 1 7 9,ak 12 11,aa 5 12],ae [ab [aa 13 5,aF 14 .geq 13 0],bf 14 (ae [ab [aa 15 0,aa 16 0,ka 17 16,al 18 6 17,ak 19 18,aa 20 5,((some 21),.op (.bN 1 1 [(.val (.int .i64 0))] [(0,(.tmp 20))])),gD 22 1 8 19 21,ka 23 15,al 24 6 23,cL 1 24 22],.exit 1])],ab [aa 25 0,ka 26 25,al 27 4 26,ak 28 27,aa 29 5,((some 30),.op (.arith .sub (.val (.val (.int .i64 (-1)))) (.tmp 29))),aZ 31 4 28 30,al 32 0 31,ak 33 32,aa 6 33],ab [aa 34 0,aa 35 0,ka 36 35,al 37 5 36,ak 38 37,aa 39 6,((some 40),.op (.bN 1 1 [(.val (.int .i64 0))] [(0,(.tmp 39))])),gD 41 1 8 38 40,ka 42 34,al 43 5 42,cL 1 43 41],ab [aa 44 0,aa 45 0,ka 46 45,al 47 0 46,al 48 2 47,ak 49 48,aa 50 6,aZ 51 3 49 50,al 52 1 51,ak 53 52,bg 54 197 [44,53]]]),ab [aF 55 .add 9 1,aa 9 55]]
def jy:SF:=⟨ae [ab [aa 7 1,aP 8 7,aR 9 0],cd 0 fW],
 [],56⟩
theorem kV:aI Tryz.prog 197 []=some jy:=by kernel_rfl
def iO (g:af) (r w:V):List V:=[.aT (g.ao.map de),.aT (g.aj.map λs=>[gs s]),.aT (g.rules.map aQ),gi g.start,iD (aA g),r,w]
def D0 (g:af) (b:Nat) (R W:List Int) (H:View):Prop:=∃ ur uw,bc H [(.sl b 0 1 7,7,[iO g ur uw]),(ur,1,bC R),(uw,1,bC W)]
theorem Ek (g:af) (hg:g.Ok) (hf:g.cZ) (b:Nat):∀ (f:Nat) (l:List Int),aK l->(∀ x∈l,bK x/\(x < 0->-1 - x < g.aj.length))->C1 (aA g) f l->∀ (R W:List Int) (H:View),(R ++ er g (aA g) f l).length<=100000->(W ++ dZ g (aA g) f l).length<=2000000 ->
  D0 g b R W H->au Tryz.prog 197 [.ptr b 0 0,encI l] H λ_ H'=>D0 g b (R ++ er g (aA g) f l) (W ++ dZ g (aA g) f l) H':=by
 intro f
 induction f using Nat.strongRecOn with
 | _ f ih =>
  intro l hl E hu R W H0 F G I
  refine au.of mixed kV ?_
  unfold aK at hl
  simp(disch:=omega)only[↓wr,seval,wq,jy,encI]
  refine aY.up l.length (λi T H'=>D0 g b (R ++ er g (aA g) f (l.take i)) (W ++ dZ g (aA g) f (l.take i)) H'/\T 0=.ptr b 0 0/\T 7=encI l/\T 8=gi l.length/\T 9=gi i) ⟨by rw[List.take_zero,Dn,xh,Ue,Ue];exact I,rfl,rfl,rfl,rfl⟩ ?_
  rintro i k T H hk ⟨⟨J,K,u⟩,t0,t7,t8,t9⟩
  simp(disch:=omega)only[↓wr,seval,wq,fW,t0,t7,t8,t9,encI]
  apply ai.dec<;>intro hc
  .have q:l[i]?=some (l[i]'(by omega)):=Sn (by omega)
   have a:l[i]'(by omega)∈l:=Sx _
   have c:l.take (i+1)=l.take i ++ [l[i]'(by omega)]:=by rw[S6,q];rfl
   have j:=MD g f l (i+1)
   have d:=LL g f l (i+1)
   generalize l[i]'(by omega)=x at q a c
   obtain⟨⟨an,aq⟩,L⟩:=E x a
   rw[c,kq] at j
   rw[c,jh] at d
   simp only[SV] at F G j d
   have M:=u.is 0 rfl (by simp)
   simp(disch:=omega)only[↓wr,seval,wq,t0,t7,t8,t9,encI,Ss,q]
   apply ai.dec<;>intro D
   .rw[qq (show 0<=x from D)] at d
    simp only[SA,SZ] at d
    simp(disch:=omega)only[↓wr,seval,wq,t0,t7,t8,t9,M,iO]
    intro n s
    rw[bO]
    simp(disch:=omega)only[↓wr,seval,wq,t0,t7,t8,t9]
    refine c8 ((u.at 2 (by simp)).fresh s) (by simp[aE]) (by unfold aC;simp;omega) (by unfold aC;simp;omega) ?_
    intro w H1 e _
    simp only[TH,TI] at e
    have t:=e.is 1 rfl (by simp)
    have c1:=e.head.cells
    have N:=e.head.eL
    simp(disch:=omega)only[↓wr,seval,wq,t0,t7,t8,t9,t,iO,c1,N]
    have z:=(e.at 1 (by simp)).put (es':=[iO g J w]) rfl rfl
    simp only[TH,TI] at z
    refine aH hk (by omega) ⟨⟨J,w,?_⟩,t0,t7,t8,rfl⟩
    rw[c,kq,jh,uu (show 0<=x from D),qq (show 0<=x from D),Ue]
    have O:=z.perm (.cons _ (.swap _ _ _))
    simpa [iO] using O
   .obtain⟨f,rfl⟩:∃ f',f=f'+1:=by
     cases f with
     | zero=>have:=Ie hu x a;omega
     | succ f=>exact⟨f,rfl⟩
    obtain⟨Q,Y⟩:=hu x a (by omega)
    obtain⟨Z,r,hi,hr,o,S,_⟩:=zn (f:=f) Q (by push_cast at Y;exact Y)
    have A:=wj (P:=aA g) (m:=cQ x) (by rw[wL];have:=L (by omega);unfold cQ;omega)
    have B:=SK hr
    have ar:Z < g.rules.length:=(SH.1 hr).1
    have C:=hg.aw r B
    rw[pC (by omega),o,hi] at j
    rw[pn (by omega),o] at d
    simp only[SA] at j
    generalize U:bG (aA g) (cQ x)=p at A hi o
    simp(disch:=omega)only[↓wr,seval,wq,t0,t7,t8,t9,M,iO]
    simp(disch:=omega)only[↓wr,seval,wq,t0,t7,t8,t9,M,iO,A,bM,hi]
    intro n s
    rw[bO]
    simp(disch:=omega)only[↓wr,seval,wq,t0,t7,t8,t9]
    refine c8 ((u.at 1 (by simp)).fresh s) (by simp[aE]) (by unfold aC;simp;omega) (by unfold aC;simp;omega) ?_
    intro w H1 e _
    simp only[TH,TI] at e
    have t:=e.is 1 rfl (by simp)
    have c1:=e.head.cells
    have N:=e.head.eL
    simp(disch:=omega)only[↓wr,seval,wq,t0,t7,t8,t9,t,iO,c1,N,aQ,Ss,hr,encI]
    have z:=(e.at 1 (by simp)).put (es':=[iO g w K]) rfl rfl
    simp only[TH,TI] at z
    have h:=ih f (by omega) r.right C.2.2.1 (λy hy=>⟨C.2.2.2 y hy,λE=>hf.neg B hy E⟩) S (R ++ er g (aA g) (f+1) (l.take i) ++ [(Z:Int)]) (W ++ dZ g (aA g) (f+1) (l.take i)) _
     (by simp only[SV,SA,SZ];omega) (by simp only[SV];omega) ⟨w,K,by simpa using z⟩
    simp only[iO,encI] at h
    refine av.dW (h.mono ?_)
    rintro v H2 ⟨V,X,O⟩
    simp(disch:=omega)only[↓wr,seval,wq,t0,t7,t8,t9]
    refine aH hk (by omega) ⟨⟨V,X,?_⟩,t0,t7,t8,rfl⟩
    rw[c,kq,jh,pC (by omega),pn (by omega),U,hi,<-hi,o,hi]
    simpa using O
  .rw[SL (by omega)] at u
   simp(disch:=omega)only[↓wr,seval,wq,t0,t7,t8,t9]
   exact⟨J,K,u⟩
def wv (H:View) (u:V) (l:List Int):Prop:=u=encI l∨∃ (m:Nat) (x:Int),l=[x]/\x < 0/\u=.sl m 0 1 1/\H m=.arr 1 [[gi x]]
theorem wv.j4 {H:View} {u:V} {l:List Int} (h:wv H u l):cg H u (encI l):=by
 rcases h with rfl | ⟨m,x,rfl,_,rfl,hm⟩
 .exact cg.tree (bU l)
 .exact Kb (l:=[x]) hm rfl
theorem wv.keep {H H':View} {u:V} {l:List Int} (h:wv H u l) (hk:∀ id,H id≠.dead->H' id=H id):wv H' u l:=by
 rcases h with rfl | ⟨m,x,rfl,a,rfl,hm⟩
 .exact .inl rfl
 .exact .inr ⟨m,x,rfl,a,rfl,by rw[hk m (by rw[hm];simp)];exact hm⟩
theorem DW (g:af) (z:g.Ok) (A:g.cZ) (b:Nat) (f:Nat) (l:List Int) (S:aK l) (t:∀ x∈l,bK x/\(x < 0->-1 - x < g.aj.length)) (hu:C1 (aA g) f l) (R W:List Int) (H:View) (c:(R ++ er g (aA g) f l).length<=100000) (d:(W ++ dZ g (aA g) f l).length<=2000000)
  (hw:D0 g b R W H) (u:V) (hi:wv H u l):au Tryz.prog 197 [.ptr b 0 0,u] H λ_ H'=>D0 g b (R ++ er g (aA g) f l) (W ++ dZ g (aA g) f l) H':=by
 rcases hi with rfl | ⟨m,x,rfl,U,rfl,hm⟩
 .exact Ek g z A b f l S t hu R W H c d hw
 .obtain⟨⟨X,Y⟩,B⟩:=t x (by simp)
  refine au.of mixed kV ?_
  simp(disch:=omega)only[↓wr,seval,wq,jy]
  refine aY.up 1 (λi T H'=>((i=0/\H'=H)∨(i=1/\D0 g b (R ++ er g (aA g) f [x]) (W ++ dZ g (aA g) f [x]) H'))/\T 0=.ptr b 0 0/\T 7=.sl m 0 1 1/\T 8=gi 1/\T 9=gi i) ⟨.inl ⟨rfl,rfl⟩,rfl,rfl,rfl,rfl⟩ ?_
  rintro i k T H1 hk ⟨Z,t0,t7,t8,t9⟩
  rcases Z with ⟨rfl,rfl⟩ | ⟨rfl,w⟩
  .obtain⟨ur,J,w⟩:=hw
   have K:=w.is 0 rfl (by simp)
   simp(disch:=omega)only[↓wr,↓reduceIte,wq,Nat.reduceEqDiff,Nat.reduceAdd,Nat.reduceLT,Nat.reduceLeDiff,Int.reduceNeg,Int.reduceToNat,reduceCtorEq,fW,t0,t7,t8,t9,hm]
   refine ai.dec (λ_=>?_) (λh=>absurd h (by decide))
   simp(disch:=omega)only[↓wr,seval,wq,t0,t7,t8,t9,hm]
   refine ai.dec (λh=>absurd h (by omega)) (λ_=>?_)
   obtain⟨f,rfl⟩:∃ f',f=f'+1:=by
    cases f with
    | zero=>have:=Ie hu x (by simp);omega
    | succ f=>exact⟨f,rfl⟩
   obtain⟨C,L⟩:=hu x (by simp) (by omega)
   obtain⟨M,r,hi,hr,e,D,_⟩:=zn (f:=f) C (by push_cast at L;exact L)
   have j:=wj (P:=aA g) (m:=cQ x) (by rw[wL];have:=B (by omega);unfold cQ;omega)
   have o:=SK hr
   have an:M < g.rules.length:=(SH.1 hr).1
   have q:=z.aw r o
   rw[pC (by omega),e,hi] at c ⊢
   rw[pn (by omega),e] at d ⊢
   simp only[SV,SA] at c d
   generalize aq:bG (aA g) (cQ x)=p at j hi e
   simp(disch:=omega)only[↓wr,seval,wq,t0,t7,t8,t9,K,iO]
   simp(disch:=omega)only[↓wr,seval,wq,t0,t7,t8,t9,K,iO,j,bM,hi]
   intro n E
   rw[bO]
   simp(disch:=omega)only[↓wr,seval,wq,t0,t7,t8,t9]
   refine c8 ((w.at 1 (by simp)).fresh E) (by simp[aE]) (by unfold aC;simp;omega) (by unfold aC;simp;omega) ?_
   intro N H1 s _
   simp only[TH,TI] at s
   have F:=s.is 1 rfl (by simp)
   have c1:=s.head.cells
   have k1:=s.head.eL
   simp(disch:=omega)only[↓wr,seval,wq,t0,t7,t8,t9,F,iO,c1,k1,aQ,Ss,hr,encI]
   have O:=(s.at 1 (by simp)).put (es':=[iO g N J]) rfl rfl
   simp only[TH,TI] at O
   have a:=Ek g z A b f r.right q.2.2.1 (λy Q=>⟨q.2.2.2 y Q,λt=>A.neg o Q t⟩) D (R ++ [(M:Int)]) W _
    (by simp only[SV,SA,SZ];omega) (by simp only[SV];omega) ⟨N,J,by simpa using O⟩
   simp only[iO,encI] at a
   refine av.dW (a.mono ?_)
   rintro v H2 ⟨G,I,o3⟩
   simp(disch:=omega)only[↓wr,seval,wq,t0,t7,t8,t9]
   exact⟨0,by omega,1,by omega,.inr ⟨rfl,G,I,by simpa using o3⟩,t0,t7,t8,rfl⟩
  .simp(disch:=omega)only[↓wr,↓reduceIte,wq,Nat.reduceEqDiff,Nat.reduceAdd,Nat.reduceLT,Nat.reduceLeDiff,Int.reduceNeg,Int.reduceToNat,reduceCtorEq,fW,t0,t7,t8,t9]
   refine ai.dec (λh=>absurd h (by decide)) (λ_=>?_)
   simp(disch:=omega)only[↓wr,seval,wq,t0,t7,t8,t9]
   exact w
def r0:SF:=⟨ae [ab [cG 3 0,((some 6),.op (.eJ (.val (.val (.pointer none))))),aR 7 0],.region true [⟨none,[ba 11 4 3,ba 12 4 3,bg 13 195 [12],((some 14),.op (.build [(.emp 1),(.emp 1),(.emp 1),(.val (.int .i64 0)),(.emp 1),(.emp 1),(.emp 1)] [(0,4,(.tmp 11)),(4,1,(.tmp 13))])),((some 15),.op (.box (.tmp 14))),aa 8 15]⟩],ab [aa 17 1,aa 18 8,ka 19 18,al 20 4 19,ak 21 20,bg 22 196 [17,21],aa 16 22,dz 23 0 16,dz 24 1 16,((some 9),.op (.alloc [(.val (.int .i64 0)),(.val (.int .i64 0)),(.val (.int .i64 0)),(.val (.int .i64 0))])),cL 4 9 23,aa 10 24],.block 0 (ae [ab [aa 26 10,dp 27 26,aa 25 27],.cond (.tmp 25) (ae [ab [((some 6),.op (.eJ (.val (.val (.pointer none))))),aR 7 9],.ret]) (ae [.region false [⟨none,[al 29 2 9,ak 30 29,aF 31 .gtr 30 300,aa 32 31]⟩,⟨(some (32,false)),[al 33 3 9,ak 34 33,aa 35 2,aU 36 .gtr 34 35]⟩,⟨none,[cR 37 32 36,aa 28 37]⟩],bf 28 (ae [ab [((some 6),.op (.eJ (.val (.val (.pointer none))))),aR 7 13],.ret])])]),ab [aa 38 8,aa 39 1,bg 40 197 [38,39]],ab [aa 41 8,aa 6 41,aR 7 0],.ret],
 [.tmp 6,.tmp 7],42⟩
theorem xb:aI Tryz.prog 131 [3]=some r0:=by kernel_rfl
def Br:V:=.val (.pointer none)
def QQ (g:af) (l:List Int) (t:Int) (r:V) (H:View):Prop :=
 ((bL (aA g) l bp).2=false/\r=.aS [Br,gi 9]) ∨
 ((bL (aA g) l bp).2=true/\(300 < (bL (aA g) l bp).1.rules∨t < (bL (aA g) l bp).1.ao)/\r=.aS [Br,gi 13]) ∨
 ((bL (aA g) l bp).2=true/\¬ (300 < (bL (aA g) l bp).1.rules∨t < (bL (aA g) l bp).1.ao)/\∃ b,r=.aS [.ptr b 0 0,gi 0]/\D0 g b (er g (aA g) g.aj.length l) (dZ g (aA g) g.aj.length l) H)
theorem Ka (g:af) (A:g.Ok) (d:g.cZ) (l:List Int) (L:l.length<=1000000) (z:∀ x∈l,bK x/\(x < 0->-1 - x < g.aj.length)) (t:Int) (u:V) (H:View) (hi:wv H u l) :
  au Tryz.prog 131 [.agg (ag g),u,gi t] H (QQ g l t):=by
 have e:aK l:=by unfold aK;omega
 have z2:=d.aj
 have z3:=d.rules
 refine au.of mixed xb ?_
 simp(disch:=omega)only[↓wr,seval,wq,r0,ag,encS]
 refine av.pure (ON g A d).pure ?_
 simp(disch:=omega)only[↓wr,seval,wq]
 intro b B
 have f:wv (H.set b (.arr 7 [iO g (.emp 1) (.emp 1)])) u l:=hi.keep λid a=>by
  have:id≠b:=by rintro rfl;exact a B
  simp[View.set,this]
 try simp(disch:=omega)only[↓wr,seval,wq]
 have C:∀ m,yA (bG (aA g) m):=λm=>FF z3 z2 m
 refine av.lD (Mt (aA g) C l e λx i=>⟨(z x i).1,λh=>by rw[wL];exact(z x i).2 h⟩) (by kernel_rfl) ⟨f.j4,cg.tree (qF _),trivial⟩ ?_
 have j:=λ(h:kX (aA g) l)=>And.intro (LR h) (pQ g g.aj.length l bp (xF h) ko)
 have p:=kP (aA g) l bp
 have F:=C2 d.right g.aj.length l
 have q:=qV (λm=>(C m).1) l bp ko
 unfold QQ
 generalize G:bL (aA g) l bp=sp at p q j ⊢
 unfold fP at q
 simp(disch:=omega)only[↓wr,seval,wq,bM]
 intro n r
 have s:=(bR r bP).1
 have w:=(bR r bP).2
 try simp(disch:=omega)only[↓wr,seval,wq,bM]
 apply ai.split<;>intro c
 .have y:=p.1 c
  simp(disch:=omega)only[↓wr,seval,wq,bM]
  apply ai.dec<;>intro D
  .simp(disch:=omega)only[↓wr,seval,wq]
   exact .inr (.inl ⟨c,.inl D,rfl⟩)
  .simp(disch:=omega)only[↓wr,seval,wq,bM]
   apply ai.dec<;>intro E
   .simp(disch:=omega)only[↓wr,seval,wq]
    exact .inr (.inl ⟨c,.inr E,rfl⟩)
   .simp(disch:=omega)only[↓wr,seval,wq,bM]
    have I:=(bc.nil (H:=H)).new B 7 [iO g (.emp 1) (.emp 1)]
    have J:=(j y).1 (by omega)
    have i:=DW g A d b g.aj.length l e z (xF y) [] [] (((H.set b (.arr 7 [iO g (.emp 1) (.emp 1)])).set n (.arr 4 [[gi 0,gi 0,gi 0,gi 0]])).set n (.arr 4 [bM sp.1]))
     (by simp only[Ty];omega) (by simp only[Ty];omega)
     ⟨.emp 1,.emp 1,by
      rw[set_set]
      have K:=I.fresh (n:=n) (o:=.arr 4 [bM sp.1]) (by simp[View.set,s,w])
      exact((K.emp (k:=1) (sz:=1)).emp (k:=1) (sz:=1)).perm (Fx.trans (.swap _ _ _))⟩ u
     (f.keep λid a=>by
      have:id≠n:=by rintro rfl;simp[View.set,s,w] at a
      simp[View.set,this])
    simp only[Ty,iO,bM] at i
    refine av.dW (i.mono ?_)
    intro v H1 hw
    simp(disch:=omega)only[↓wr,seval,wq]
    exact .inr (.inr ⟨c,by omega,b,rfl,hw⟩)
 .simp(disch:=omega)only[↓wr,seval,wq]
  exact .inl ⟨c,rfl⟩
def tL:SF:=⟨ae [ab [bm 3 false],ab [ba 4 4 1,aa 5 0,bg 6 130 [4,5],dp 7 6,aa 3 7],.ret],
 [.tmp 3],8⟩
theorem yh:aI Tryz.prog 129 []=some tL:=by kernel_rfl
def vT:SF:=⟨ae [ab [cG 2 0,bQ 4 1,aR 5 0],ae [.region false [⟨none,[ba 8 4 2,bg 9 89 [8],dp 10 9,aa 11 10]⟩,⟨(some (11,false)),[aa 12 1,((some 13),.op (.sF 129 [] [(.tmp 2)])),bg 14 90 [12,13]]⟩,⟨none,[cR 15 11 14]⟩],bf 15 (ae [ab [bQ 4 1,aR 5 1],.ret])],ab [ba 17 4 2,aa 18 1,qe 19 131 [(.tmp 17),(.tmp 18),(.val (.val (.int .i64 60)))],aa 16 19,dz 20 0 16,dz 21 1 16,aa 6 20,aa 7 21],ae [ab [aa 22 7,aF 23 .neq 22 0],bf 23 (ae [ab [aa 24 7,bQ 4 1,aa 5 24],.ret])],ab [aa 25 6,ka 26 25,al 27 6 26,ak 28 27,aa 4 28,aR 5 0],.ret],
 [.tmp 4,.tmp 5],29⟩
theorem Ai:aI Tryz.prog 67 [2]=some vT:=by kernel_rfl
theorem KX (g:af) (x:Int) (b:bK x):ay Tryz.prog 129 [gi x,.aG (ag g) 0] (gb (!eo g x)):=by
 refine ay.val (by
  intro v a;simp at a
  rcases a with rfl | rfl
  .exact .val _
  .exact iv (cM g)) λH=>?_
 refine au.of mixed yh ?_
 simp(disch:=omega)only[↓wr,seval,wq,tL,ag,encS]
 refine av.pure (Ii g x b) ?_
 simp(disch:=omega)only[↓wr,seval,wq]
theorem Eo (g:af) (s:g.Ok) (w:g.Small) (l:List Int) (y:l.length<=1000000) (t:∀ x∈l,bK x):cT Tryz.prog 67 [.agg (ag g),encI l] (JK (fG g l)):=by
 have o:aK l:=by unfold aK;omega
 refine cT.of (by
  intro v f;simp at f
  rcases f with rfl | rfl
  .exact cn _ (cM g)
  .exact bU l) ?_
 refine au.of mixed Ai ?_
 simp(disch:=omega)only[↓wr,seval,wq,vT,ag,encS]
 refine av.pure (rR g s w.names) ?_
 have bad:∀ c:az,(ca g && l.all (eo g))=false->dH c (.aS [.emp 1,gi 1]) (JK (fG g l)):=λc e=>by
  unfold fG;rw[Sr (by rw[e];simp)];exact uc (x:=([],1)) (.emp _)
 have h:=lM l o 129 [.aG (ag g) 0] (by intro v f;simp at f;subst f;exact iv (cM g)) (λx=>!eo g x) (λx n=>KX g x (t x n)) (by kernel_rfl)
 simp only[ag,encS] at h
 simp(disch:=omega)only[↓wr,seval,wq,ag,encS]
 apply ai.split<;>intro hr
 .simp(disch:=omega)only[↓wr,seval,wq,ag,encS]
  refine av.pure h ?_
  have i:l.any (λx=>!eo g x) = !l.all (eo g):=by rw[List.not_all_eq_any_not]
  rw[i]
  simp(disch:=omega)only[↓wr,seval,wq,ag,encS]
  apply ai.split<;>intro a
  .have z:=cD hr
   have d:fG g l=_:=St (by rw[hr,a];rfl)
   simp(disch:=omega)only[↓wr,seval,wq,ag,encS]
   have p:∀ x∈l,bK x/\(x < 0->-1 - x < g.aj.length):=λx n=>⟨t x n,λA=>by
    have:=Tc.1 a x n
    unfold eo at this
    rw[Sr (by omega)] at this
    simpa using this⟩
   have hw:=Ka g s z l y p 60 (encI l) (λ_=>.dead) (.inl rfl)
   simp only[ag,encS] at hw
   refine av.dW (hw.mono ?_)
   rintro r H1 (⟨j,rfl⟩ | ⟨j,q,rfl⟩ | ⟨j,q,b,rfl,C,D,u⟩)
   .simp(disch:=omega)only[↓wr,↓reduceIte,wq,Nat.reduceEqDiff,Nat.reduceAdd,Nat.reduceLT,Nat.reduceLeDiff,Int.reduceNeg,Int.reduceToNat,reduceCtorEq,Br]
    refine ai.ne (λ_=>?_) (λk=>absurd k (by decide))
    simp(disch:=omega)only[↓wr,seval,wq,Br]
    rw[St j] at d
    intro c _
    rw[d];exact uc (x:=([],9)) (.emp _)
   .simp(disch:=omega)only[↓wr,↓reduceIte,wq,Nat.reduceEqDiff,Nat.reduceAdd,Nat.reduceLT,Nat.reduceLeDiff,Int.reduceNeg,Int.reduceToNat,reduceCtorEq,Br]
    refine ai.ne (λ_=>?_) (λk=>absurd k (by decide))
    simp(disch:=omega)only[↓wr,seval,wq,Br]
    rw[Sr (by rw[j];simp),St q] at d
    intro c _
    rw[d];exact uc (x:=([],13)) (.emp _)
   .rw[Sr (by rw[j];simp),Sr q] at d
    have m:=u.is 0 rfl (by simp)
    simp(disch:=omega)only[↓wr,↓reduceIte,wq,Nat.reduceEqDiff,Nat.reduceAdd,Nat.reduceLT,Nat.reduceLeDiff,Int.reduceNeg,Int.reduceToNat,reduceCtorEq,m,iO]
    refine ai.ne (λk=>absurd rfl k) (λ_=>?_)
    simp(disch:=omega)only[↓wr,seval,wq,m,iO]
    intro c B
    rw[d];exact uc (x:=(_,0)) (lY (by rw[B];exact u.own 2 rfl))
  .simp(disch:=omega)only[↓wr,seval,wq,ag,encS]
   intro c _
   exact bad c (by rw[a,Bool.and_false])
 .simp(disch:=omega)only[↓wr,seval,wq,ag,encS]
  intro c _
  exact bad c (by rw[hr,TV])
abbrev O7 (l:List (List Int)):List (List V):=l.map λw=>[encI w]
theorem GF {id off k m:Nat} (hm:m<=k):cz 1 (.sl id off k 1) none (some (gi m))=some (.sl id off m 1,.none,[]):=by
 simp[cz,bound,asNat,hm]
def JG:Value->Value->Bool
 | .int k a,.int k' b=>decide (k=k') && decide (a=b)
 | .bool a,.bool b=>a == b
 | .string a,.string b=>iz a b
 | .pointer none,.pointer none=>true
 | _,_=>false
theorem Nx:∀ (a b:Value),JG a b=true->a=b:=by
 intro a b h
 unfold JG at h
 split at h
 .simp only[SE,SN] at h
  rw[h.1,h.2]
 .rename_i a b
  rw[show a=b by simpa using h]
 .rename_i a b
  obtain⟨a⟩:=a
  obtain⟨b⟩:=b
  simp only[iz,TA] at h
  rw[show a=b from Array.toList_inj.1 h]
 .rfl
 .simp at h
def yl (q:V->V->Bool):List V->List V->Bool
 | [],[]=>true
 | a :: l,b :: m=>q a b && yl q l m
 | _,_=>false
def Hl (q:V->V->Bool):List (List V)->List (List V)->Bool
 | [],[]=>true
 | a :: l,b :: m=>yl q a b && Hl q l m
 | _,_=>false
def C9:Nat->V->V->Bool
 | 0,_,_=>false
 | k+1,a,b=>match a,b with
  | .val x,.val y=>JG x y
  | .aT x,.aT y=>Hl (C9 k) x y
  | .agg x,.agg y=>yl (C9 k) x y
  | .aS x,.aS y=>yl (C9 k) x y
  | _,_=>false
theorem tB {q:V->V->Bool} (c:∀ a b,q a b=true->a=b):∀ (l m:List V),yl q l m=true->l=m
 | [],[],_=>rfl
 | a :: l,b :: m,h=>by
  simp only[yl,SE] at h
  rw[c a b h.1,tB c l m h.2]
 | [],_ :: _,h=>by simp[yl] at h
 | _ :: _,[],h=>by simp[yl] at h
theorem Mr {q:V->V->Bool} (c:∀ a b,q a b=true->a=b):∀ (l m:List (List V)),Hl q l m=true->l=m
 | [],[],_=>rfl
 | a :: l,b :: m,h=>by
  simp only[Hl,SE] at h
  rw[tB c a b h.1,Mr c l m h.2]
 | [],_ :: _,h=>by simp[Hl] at h
 | _ :: _,[],h=>by simp[Hl] at h
theorem F9:∀ (k:Nat) (a b:V),C9 k a b=true->a=b
 | 0,_,_,h=>by simp[C9] at h
 | k+1,a,b,h=>by
  have c:=F9 k
  unfold C9 at h
  split at h
  .rw[Nx _ _ h]
  .rw[Mr c _ _ h]
  .rw[tB c _ _ h]
  .rw[tB c _ _ h]
  .simp at h
def rM:Nat->V->Bool
 | 0,_=>false
 | k+1,v=>match v with
  | .val _=>true
  | .emp _=>true
  | .dK=>true
  | .aT es=>es.all λe=>e.all (rM k)
  | .agg cs=>cs.all (rM k)
  | .aS cs=>cs.all (rM k)
  | _=>false
theorem uh {q:V->Bool} {l:List V} (h:l.all q=true) {i:Nat} (hi:i < l.length):q (l.getD i .any)=true:=by
 have e:l.getD i .any=l[i]:=by simp[Sm,hi]
 rw[e]
 exact Tc.1 h _ (Sx _)
theorem y8:∀ (k:Nat) (v:V),rM k v=true->Tree v
 | 0,_,h=>by simp[rM] at h
 | k+1,v,h=>by
  have a:=y8 k
  unfold rM at h
  split at h
  .exact .val _
  .exact .emp _
  .exact .dK
  .rename_i es
   refine .aT _ λi j hi b=>a _ ?_
   have e:es.getD i []=es[i]:=by simp[Sm,hi]
   have h1:=Tc.1 h _ (Sx hi)
   rw[e] at b ⊢
   exact uh h1 b
  .exact .agg _ λi hi=>a _ (uh h hi)
  .exact .aS _ λi hi=>a _ (uh h hi)
  .simp at h
noncomputable def vn (H:View):Nat->V->Option V
 | 0,_=>none
 | k+1,v=>match v with
  | .val x=>some (.val x)
  | .emp _=>some (.aT [])
  | .aT es=>match rM 60 (.aT es) with
   | true=>some (.aT es)
   | false=>none
  | .sl id off len _=>match H id with
   | .arr _ es=>match Nat.ble (off+len) es.length with
    | true=>(BA (vn H k) ((es.drop off).take len)).map .aT
    | false=>none
   | _=>none
  | .agg cs=>(nr (vn H k) cs).map .agg
  | .aS cs=>(nr (vn H k) cs).map .aS
  | _=>none
theorem Bm (h:az):∀ (k:Nat) (v t:V),vn h.view k v=some t->Fr h v t
 | 0,v,t,a=>by simp[vn] at a
 | k+1,v,t,a=>by
  have b:=Bm h k
  simp only[vn] at a
  split at a
  .simp only[Sq] at a;subst a;exact .tree _ (.val _)
  .simp only[Sq] at a;subst a;exact .emp _
  .split at a
   .rename_i d
    simp only[Sq] at a;subst a;exact .tree _ (y8 _ _ d)
   .simp at a
  .rename_i id off len esz
   split at a
   .rename_i z es hH
    split at a
    .rename_i hle
     have hle:=Nat.le_of_ble_eq_true hle
     simp only[Sw] at a
     obtain⟨es',he,rfl⟩:=a
     obtain⟨g1,g2⟩:=BH _ _ he
     have hlen:es'.length=len:=by rw[g1];simp;omega
     have e:∀ i,i < len->((es.drop off).take len).getD i []=es.getD (off+i) []:=λi hi=>by
      simp[Sm,TW,hi]
     have g3:∀ i,i < len->nr (vn h.view k) (es.getD (off+i) [])=some (es'.getD i []):=λi hi=>by
      rw[<-e i hi];exact g2 i (by rw[<-g1,hlen];exact hi)
     exact .sl id off len esz z es es' hH hle hlen (λi hi=>(gW _ _ (g3 i hi)).1) (λi j hi f=>b _ _ ((gW _ _ (g3 i hi)).2 j (by rw[<-(gW _ _ (g3 i hi)).1];exact f)))
    .simp at a
   .simp at a
  .simp only[Sw] at a
   obtain⟨l,c,rfl⟩:=a
   obtain⟨g1,g2⟩:=gW _ _ c
   exact .agg _ _ g1 (λi hi=>b _ _ (g2 i hi))
  .simp only[Sw] at a
   obtain⟨l,c,rfl⟩:=a
   obtain⟨g1,g2⟩:=gW _ _ c
   exact .aS _ _ g1 (λi hi=>b _ _ (g2 i hi))
  .simp at a
theorem ay.seen {P:Program} {f:FuncId} {vs g:List V} {t:V} (p:ay P f g t) (q:∀ i,i < vs.length->Tree (vs.getD i .any)) (r:g.length=vs.length) (k:∀ i,i < vs.length->Fr [] (vs.getD i .any) (g.getD i .any)):ay P f vs t:=by
 intro Z μ w xs a n
 have l:gN Z (λ_=>none) w.heap (cat [] λ_=>.dead):=by
  rw[BU]
  exact⟨λ_=>trivial,λi j b o s B C _ h=>by simp at h,λid b o s h=>by simp at h,n,λid b o s h=>by simp at h⟩
 have c:∀ b,¬ iU (λ_=>none) b:=λb ⟨_,_,_,h⟩=>by simp at h
 have m:fH (λb=>Z b∨iU (λ_=>none) b) μ w.heap g xs:=⟨by rw[r,a.1],λi hi=>zx l (k i (by omega)) (uZ (a.2 i (by omega)) (q i (by omega)))⟩
 refine(p _ μ w xs m (λb d=>d.elim (n b) (λh=>absurd h (c b)))).mono ?_
 rintro e w' ⟨x,u,rfl,v,y,h1,z,A⟩
 exact⟨x,u,rfl,v,y,λb d=>h1 b (.inl d),λb d=>(z b d).elim (λh=>h.elim .inl (λh=>absurd h (c b))) .inr,A⟩
abbrev BF:=FuncId × List V × V × Bool
def BF.Ok (P:Program) (x:BF):Prop:=dw P x.1=true/\if x.2.2.2=true then ay P x.1 x.2.1 x.2.2.1 else (cT P x.1 x.2.1 x.2.2.1∨(ay P x.1 x.2.1 x.2.2.1/\uL x.2.2.1))
noncomputable def Pb (g:FuncId) (vs:List V) (H:View) (x:BF):Bool:=Nat.beq x.1 g && (match x.2.2.2 with
 | true=>vs.all (rM 60) && (match nr (vn (λ_=>.dead) 60) vs with
  | some ts=>yl (C9 60) ts x.2.1
  | none=>false)
 | false=>match nr (vn H 60) vs with
  | some ts=>yl (C9 60) ts x.2.1
  | none=>false)
noncomputable def JA (l:List BF):wE:=λg vs H=>(l.find? (Pb g vs H)).map λx=>x.2.2.1
theorem FA {P:Program} {l:List BF} (o:∀ x∈l,x.Ok P):qZ P (JA l):=by
 intro g vs H t h
 unfold JA at h
 simp only[Sw] at h
 obtain⟨⟨f,q,r,b⟩,n,rfl⟩:=h
 obtain⟨h1,c⟩:=o _ (List.mem_of_find?_eq_some n)
 have a:=List.find?_some n
 simp only[Pb,SE] at a
 obtain⟨k,a⟩:=a
 have k:=Un k
 simp only at k h1 c a
 subst k
 refine⟨h1,?_⟩
 rintro h rfl
 cases b with
 | true =>
  simp only[SE] at a
  obtain⟨m,d⟩:=a
  split at d
  .rename_i us e
   obtain⟨g1,g2⟩:=gW _ _ e
   have:=tB (F9 60) _ _ d
   subst this
   simp only[if_true] at c
   exact bE.fO (c.seen (λi hi=>y8 _ _ (uh m hi)) g1 λi hi=>Bm [] 60 _ _ (g2 i hi)) h
  .simp at d
 | false =>
  simp only at a
  split at a
  .rename_i us e
   obtain⟨g1,g2⟩:=gW _ _ e
   have:=tB (F9 60) _ _ a
   subst this
   have j:=λi hi=>Bm h 60 _ _ (g2 i hi)
   simp only[SU,if_false] at c
   rcases c with c | ⟨c,p⟩
   .exact bE.tC c g1 j
   .exact bE.borrow c p g1 j
  .simp at a
def sd (x:Int):Bool:=decide (-9223372036854775808<=x) && decide (x<=9223372036854775807)
theorem oC {x:Int} (h:sd x=true):bK x:=by
 unfold sd at h
 simp only[SE,SN] at h
 exact h
def okB (g:af):Bool:=decide (g.ao.length<=900) && decide (g.aj.length<=100) && decide (g.rules.length<=900) && sd g.start && g.ao.all (λt=>sd t.level && sd t.assoc) && g.rules.all λr=>sd r.left && sd r.prec && decide (r.right.length<=900) && r.right.all sd
theorem Qc {g:af} (h:okB g=true):g.Ok/\g.Small:=by
 unfold okB at h
 simp only[SE,SN,Tc] at h
 obtain⟨⟨⟨⟨⟨h1,f⟩,i⟩,c⟩,a⟩,d⟩:=h
 refine⟨⟨by unfold aK;omega,by unfold aK;omega,by unfold aK;omega,oC c,λt b=>⟨oC (a t b).1,oC (a t b).2⟩,λr hr=>?_⟩,⟨by omega⟩⟩
 have:=d r hr
 exact⟨oC this.1.1.1,oC this.1.1.2,by unfold aK;have:=this.1.2;omega,λx e=>oC (this.2 x e)⟩
theorem mI:iC.Ok/\iC.Small:=Qc (by kernel_rfl)
structure eU where
 sym:Int
 to:Int
 deriving DecidableEq
def jQ (x:eU):List V:=[gi x.sym,gi x.to]
structure aD where
 aw:Int
 dot:Int
 deriving DecidableEq
def bq (x:aD):List V:=[gi x.aw,gi x.dot]
def aM (l:List aD):List (List V):=l.map bq
def ct (a b:aD):Bool:=decide (a.aw < b.aw) || (decide (a.aw=b.aw) && decide (a.dot < b.dot))
def dY:List aD->aD->List aD
 | [],x=>[x]
 | y :: l,x=>if ct y x=true then y :: dY l x else if y=x then y :: l else x :: y :: l
theorem Pl (a b:aD):∀ v∈[V.agg (bq a),.agg (bq b)],Tree v:=by
 intro v c;simp at c
 rcases c with rfl | rfl <;> exact cn _ λv c=>by simp[bq] at c;rcases c with rfl | rfl <;> exact .val _
def px:SF:=⟨ae [ab [cG 2 0,cG 3 1,bm 4 false],.region false [⟨none,[al 5 0 2,ak 6 5,al 7 0 3,ak 8 7,aU 9 .lss 6 8,aa 10 9]⟩,⟨(some (10,false)),[al 11 0 2,ak 12 11,al 13 0 3,ak 14 13,aU 15 .eql 12 14,aa 16 15]⟩,⟨(some (16,true)),[al 17 1 2,ak 18 17,al 19 1 3,ak 20 19,aU 21 .lss 18 20]⟩,⟨(some (10,false)),[eA 22 16 21]⟩,⟨none,[cR 23 10 22,aa 4 23]⟩],.ret],
 [.tmp 4],24⟩
theorem ua:aI Tryz.prog 198 [2,3]=some px:=by kernel_rfl
def nY:SC :=
 ae [ae [.region false [⟨none,[aa 7 5,aa 8 0,aP 9 8,aU 10 .lss 7 9,aa 11 10]⟩,⟨(some (11,true)),[aa 12 0,aa 13 5,aZ 14 2 12 13,ba 15 2 14,ba 16 2 3,bg 17 198 [15,16]]⟩,⟨none,[eA 18 11 17]⟩],cb 18 (.exit 0)],.block 1 (ab [aa 19 5,aF 20 .add 19 1,aa 5 20])]
def qi:SF:=⟨ae [ab [cG 3 1,bQ 4 1],ab [aR 5 0],cd 0 nY,ae [.region false [⟨none,[aa 21 5,aa 22 0,aP 23 22,aU 24 .lss 21 23,aa 25 24]⟩,⟨(some (25,true)),[aa 26 0,aa 27 5,aZ 28 2 26 27,ba 29 2 28,ba 30 2 3,((some 31),.op (.old (.binOp .eql 120 (.tmp 29) (.tmp 30) 120) 4))]⟩,⟨none,[eA 32 25 31]⟩],bf 32 (ae [ab [aa 33 0,aa 4 33],.ret])],ab [bQ 34 2,aa 35 0,aa 36 5,((some 37),.op (.slice 2 (.tmp 35) (some (.tmp 36)) none)),gD 38 2 16 34 37,aa 6 38],ab [aa 39 0,aa 40 5,((some 41),.op (.slice 2 (.tmp 39) none (some (.tmp 40)))),ba 42 2 3,((some 43),.op (.bN 1 2 [(.val (.int .i64 0)),(.val (.int .i64 0))] [(0,(.tmp 42))])),gD 44 2 16 41 43,aa 45 6,gD 46 2 16 44 45,aa 4 46],.ret],
 [.tmp 4],47⟩
theorem uF:aI Tryz.prog 133 [3]=some qi:=by kernel_rfl
theorem Kr (a b:aD):ay Tryz.prog 198 [.agg (bq a),.agg (bq b)] (gb (ct a b)):=by
 refine ay.val (Pl a b) λH=>?_
 refine au.of mixed ua ?_
 unfold ct
 simp(disch:=omega)only[↓wr,seval,wq,px,bq]
 apply ai.dec<;>intro h1
 .simp(disch:=omega)only[↓wr,seval,wq]
  rw[decide_eq_true h1];rfl
 simp(disch:=omega)only[↓wr,seval,wq,bq]
 apply ai.eq<;>intro c
 .simp(disch:=omega)only[↓wr,seval,wq,bq]
  rw[decide_eq_false h1,decide_eq_true c];rfl
 .simp(disch:=omega)only[↓wr,seval,wq]
  rw[decide_eq_false h1,decide_eq_false c];rfl
def dQ:List aD->aD->Nat
 | [],_=>0
 | y :: l,x=>if ct y x=true then dQ l x+1 else 0
theorem Az:∀ (l:List aD) (x:aD),dQ l x<=l.length
 | [],_=>Sy _
 | y :: l,x=>by
  rw[dQ];split
  .have:=Az l x;simp;omega
  .simp
theorem z7:∀ (l:List aD) (x:aD) (i:Nat) (y:aD),l[i]?=some y->i < dQ l x->ct y x=true
 | [],_,_,_,h,_=>by simp at h
 | z :: l,x,0,y,h,hi=>by
  rw[dQ] at hi;split at hi
  .simp at h;subst h;assumption
  .omega
 | z :: l,x,i+1,y,h,hi=>by
  rw[dQ] at hi;split at hi
  .exact z7 l x i y (by simpa using h) (by omega)
  .omega
theorem Ba:∀ (l:List aD) (x:aD) (y:aD),l[dQ l x]?=some y->ct y x=false
 | [],_,_,h=>by simp at h
 | z :: l,x,y,h=>by
  rw[dQ] at h;split at h
  .exact Ba l x y (by simpa using h)
  .rename_i e;simp at h;subst h;simpa using e
theorem vo:∀ (l:List aD) (x:aD),dY l x=if l[dQ l x]?=some x then l else l.take (dQ l x) ++ [x] ++ l.drop (dQ l x)
 | [],x=>by simp[dY,dQ]
 | y :: l,x=>by
  rw[dY,dQ]
  split
  .have:=vo l x
   simp only[Tl,List.take_succ_cons,List.drop_succ_cons,Th]
   rw[this];split <;> simp
  .simp only[S3,Sq,List.take_zero,TZ,Ty,Th]
theorem pj (x y:aD):gx Tryz.prog 9998 #[.int .i64 x.aw,.int .i64 x.dot] #[.int .i64 y.aw,.int .i64 y.dot]
  [{ name:= "Rule",type:=3,offset:=0,embedded:=false,tag:= "",pkgPath:= "",byteOffset:=0 },{ name:= "Dot",type:=3,offset:=1,embedded:=false,tag:= "",pkgPath:= "",byteOffset:=8 }] ((x.aw == y.aw) && ((x.dot == y.dot) && true)) :=
 .int _ _ _ .i64 _ _ (by decide) Tryz.underlying3 rfl rfl (.int _ _ _ .i64 _ _ (by decide) Tryz.underlying3 rfl rfl .nil)
theorem xx (x y:aD):((x.aw == y.aw) && ((x.dot == y.dot) && true))=decide (x=y):=by
 cases x;cases y;rw[TE];simp
theorem nE {sz id off k m:Nat} (hm:m<=k):cz sz (.sl id off k sz) (some (gi m)) none=some (.sl id (off+m) (k - m) sz,.none,[]):=by
 simp[cz,bound,asNat,hm]
theorem nJ {sz id off k m:Nat} (hm:m<=k):cz sz (.sl id off k sz) none (some (gi m))=some (.sl id off m sz,.none,[]):=by
 simp[cz,bound,asNat,hm]
theorem Kn (l:List aD):((aM l).all λe=>e.length == 2 && e.all aE)=true:=by
 simp[aM,T8,bq,aE]
theorem Lz {H:View} {u:V} {sz:Nat} {es:List (List V)} (h:aJ H u sz es):∃ rd,bA H u=some (es,rd):=by
 rcases h with ⟨rfl,k,rfl⟩ | ⟨n,rfl,a⟩
 .exact⟨_,sT _ k⟩
 .cases es with
  | nil=>exact⟨[],by simp[bA]⟩
  | cons e es =>
   exact⟨_,by rw[show (e :: es).length=es.length+1 from rfl,ni _ n 0 es.length sz sz _ a (by simp),TZ,SL (by simp)]⟩
theorem oT {sz bytes:Nat} {u:V} {es:List (List V)} {H:View} {K:V->View->Prop} {w:cx (H,K)} (a:aJ H u sz es) (h:K u H):lJ sz bytes u [] H K w:=by
 unfold lJ
 rcases a with ⟨_,k,rfl⟩ | ⟨n,rfl,_⟩ <;> simpa using h
theorem Left.behind {H H':View} {q:Nat} {o:dF} {u r:V} (d:H q=.dead) (h:Left (H.set q o) H' u r):Left H H' u r:=λa c b=>by
 have e:¬ a=q:=by rintro rfl;exact c d
 have:=h a (by simp[View.set,e];exact c) b
 simpa [View.set,e] using this
theorem yW (u:V) (l:List aD) (hl:l.length<=100000) (x:aD) (H:View) (v:aJ H u 2 (aM l)):au Tryz.prog 133 [u,.agg (bq x)] H λr H'=>aJ H' r 2 (aM (dY l x))/\Left H H' u r:=by
 refine au.of mixed uF ?_
 have hlen:bZ u=some l.length:=by rw[v.len];simp[aM]
 have hle:=Az l x
 simp(disch:=omega)only[↓wr,seval,wq,qi,bq]
 refine aY.up (dQ l x) (λi T H'=>H'=H/\i<=dQ l x/\T 0=u/\T 3=.aG (bq x) 0/\T 5=gi i) ⟨rfl,by omega,rfl,rfl,rfl⟩ ?_
 rintro i k T H' hk ⟨Z,hi,t0,t3,t5⟩
 subst Z
 simp(disch:=omega)only[↓wr,seval,wq,nY,t0,t3,t5,hlen]
 have stop:i=dQ l x->True:=λ_=>trivial
 apply ai.dec<;>intro K
 .have w:l[i]?=some (l[i]'(by omega)):=Sn (by omega)
  generalize l[i]'(by omega)=y at w
  obtain⟨id,hu,b⟩:=v.sl (by simp[aM];omega)
  have n:(aM l).length=l.length:=by simp[aM]
  have L:(aM l).getD i []=bq y:=by simp[aM,Sm,w]
  have A:=Kr y x
  simp only[bq] at A L
  simp(disch:=omega)only[↓wr,seval,wq,t0,t3,t5,hu,b,L,bq]
  refine⟨by simp[aM];omega,by simp[aM];omega,?_⟩
  refine av.pure A ?_
  simp(disch:=omega)only[↓wr,seval,wq,t0,t3,t5]
  apply ai.split<;>intro e
  .have B:i < dQ l x:=by
    rcases SY i (dQ l x) with h | h
    .exact h
    .have:=Ba l x y (by rw[show dQ l x=i by omega];exact w)
     rw[this] at e;exact absurd e (by simp)
   simp(disch:=omega)only[↓wr,seval,wq,t0,t3,t5]
   exact aH hk B ⟨rfl,B,t0,t3,rfl⟩
  have s:i=dQ l x:=by
   rcases SY i (dQ l x) with h | h
   .rw[z7 l x i y w h] at e;exact absurd e (by simp)
   .omega
  simp(disch:=omega)only[↓wr,seval,wq,t0,t3,t5,hlen]
  refine ai.dec (λ_=>?_) (λh=>absurd K h)
  simp(disch:=omega)only[↓wr,seval,wq,t0,t3,t5,hu,b,L,bq]
  refine⟨by simp[aM];omega,by simp[aM];omega,?_⟩
  refine iL (xs:=#[.int .i64 y.aw,.int .i64 y.dot]) (ys:=#[.int .i64 x.aw,.int .i64 x.dot]) Tryz.underlying120 (by kernel_rfl) (by kernel_rfl) ?_ ?_ (pj y x) (.inl ⟨rfl,rfl⟩) ?_
  .rfl
  .rfl
  rw[xx]
  simp(disch:=omega)only[↓wr,seval,wq,t0,t3,t5]
  apply ai.dec<;>intro M
  .subst M
   simp(disch:=omega)only[↓wr,seval,wq,t0]
   rw[vo,St (by rw[<-s];exact w)]
   exact⟨v,λid b v=>⟨rfl,v⟩⟩
  rw[n] at hu
  have N:bA H' (.sl id i (l.length - i) 2)=some (aM (l.drop i),[id]):=by
   obtain⟨q,d⟩:∃ q,l.length - i=q+1:=⟨l.length - i - 1,by omega⟩
   rw[d,ni H' id i q 2 2 (aM l) b (by rw[n];omega)]
   rw[show (aM l).drop i=aM (l.drop i) from List.map_drop.symm,SL (by simp[aM];omega)]
  simp(disch:=omega)only[↓wr,seval,wq,t0,t3,t5,hu,nE (sz:=2) (id:=id) (off:=0) (k:=l.length) (m:=i) (by omega),N]
  refine fE aJ.nil (Kn _) (by unfold aC aM;simp;omega) (by unfold aC aM;simp;omega) ?_
  intro rest H1 O lr
  simp(disch:=omega)only[↓wr,seval,wq,t0,t3,t5,hu,nJ (sz:=2) (id:=id) (off:=0) (k:=l.length) (m:=i) (by omega),bq]
  intro q d
  have C:owner rest≠some id:=(lr id (by rw[b];simp) (by simp[owner])).2
  have f:H1 id=.arr 2 (aM l):=by rw[(lr id (by rw[b];simp) (by simp[owner])).1,b]
  have D:¬ id=q:=by rintro rfl;rw[f] at d;simp at d
  simp(disch:=omega)only[↓wr,seval,wq,bO]
  rw[ra _ _ _ _ _ _ _ _ _ _ (by rfl)]
  simp(disch:=omega)only[↓wr,seval,wq,D,f,n]
  refine⟨⟨by omega,by unfold aC;omega,by unfold aC;omega⟩,λj c=>?_⟩
  try rw[TZ]
  have E:¬ j=q:=by rintro rfl;simp at c
  rw[Sr E] at c
  have F:¬ j=id:=by rintro rfl;rw[f] at c;simp at c
  have g:=((O.fresh (o:=.arr 2 [[gi x.aw,gi x.dot]]) d).other (o:=.dead) C).fresh (m:=j) (o:=.arr 2 (List.take i (aM l) ++ [[gi x.aw,gi x.dot]])) (by simp[View.set,E,F,c])
  have G:aJ (((H1.set q (.arr 2 [[gi x.aw,gi x.dot]])).set id .dead).set j (.arr 2 (List.take i (aM l) ++ [[gi x.aw,gi x.dot]]))) (.sl j 0 (i+1) 2) 2 (List.take i (aM l) ++ [[gi x.aw,gi x.dot]]):=.inr ⟨j,by simp[n];omega,by simp[View.set]⟩
  have I:∀ a,H' a≠.dead->a≠id->(((H1.set q (.arr 2 [[gi x.aw,gi x.dot]])).set id .dead).set j (.arr 2 (List.take i (aM l) ++ [[gi x.aw,gi x.dot]]))) a=H' a/\a≠j:=λa z P=>by
   have h1:=(lr a z (by simp[owner])).1
   have aq:¬ a=q:=by rintro rfl;rw[d] at h1;exact z h1.symm
   have W:¬ a=j:=by rintro rfl;rw[c] at h1;exact z h1.symm
   exact⟨by simp[View.set,aq,W,P,h1],W⟩
  generalize ((H1.set q (.arr 2 [[gi x.aw,gi x.dot]])).set id .dead).set j (.arr 2 (List.take i (aM l) ++ [[gi x.aw,gi x.dot]]))=H3 at g G I ⊢
  rw[Ty] at g
  obtain⟨rd,he⟩:=Lz g
  simp(disch:=omega)only[↓wr,seval,wq,he]
  refine fE G (Kn _) (by unfold aC aM;simp;omega) (by unfold aC aM;simp;omega) ?_
  intro r X t J
  simp(disch:=omega)only[↓wr,seval,wq]
  refine⟨?_,λa z Q=>?_⟩
  .rw[vo,Sr (by rw[<-s,w];simpa using M),<-s]
   simpa [aM,bq,List.map_take,List.map_drop] using t
  .obtain⟨Y,k2⟩:=I a z (by rintro rfl;exact Q (by rw[hu];rfl))
   have:=J a (by rw[Y];exact z) (by simp[owner];exact λh=>k2 h.symm)
   exact⟨by rw[this.1,Y],this.2⟩
 .simp(disch:=omega)only[↓wr,seval,wq,t0,t3,t5,hlen]
  refine ai.dec (λh=>absurd h K) (λ_=>?_)
  have R:i=l.length:=by omega
  subst R
  have p:aM (dY l x)=aM l ++ [[gi x.aw,gi x.dot]]:=by
   rw[vo,show dQ l x=l.length by omega,Te (Sy _),Sr (by simp),List.take_length,List.drop_length]
   simp[aM,bq]
  rcases v with ⟨e,k0,hu⟩ | ⟨id,hu,b⟩
  .have S:l=[]:=by simpa [aM] using e
   subst S
   simp(disch:=omega)only[↓wr,seval,wq,t0,t3,t5,hu,show ∀ k,cz 2 (.emp k) (some (gi 0)) none=some (.emp k,.none,[]) from λk=>rfl,show ∀ k,cz 2 (.emp k) none (some (gi 0))=some (.emp k,.none,[]) from λk=>rfl]
   refine oT aJ.nil ?_
   simp(disch:=omega)only[↓wr,seval,wq,t0,t3,t5,hu,show ∀ k,cz 2 (.emp k) none (some (gi 0))=some (.emp k,.none,[]) from λk=>rfl,bq]
   intro q d
   simp(disch:=omega)only[↓wr,seval,wq,bO]
   refine fE (sz:=2) (u:=.emp k0) aJ.nil (by simp[aE]) (by unfold aC;simp) (by unfold aC;simp) ?_
   intro r X t J
   simp(disch:=omega)only[↓wr,seval,wq]
   refine oT t ?_
   simp(disch:=omega)only[↓wr,seval,wq]
   exact⟨by rw[p];exact t,hu ▸ Left.behind d J⟩
  .rw[show (aM l).length=l.length by simp[aM]] at hu
   simp(disch:=omega)only[↓wr,seval,wq,t0,t3,t5,hu,nE (sz:=2) (id:=id) (off:=0) (k:=l.length) (m:=l.length) (by omega),nJ (sz:=2) (id:=id) (off:=0) (k:=l.length) (m:=l.length) (by omega)]
   rw[Nat.sub_self,show bA H' (.sl id l.length 0 2)=some ([],[]) from rfl]
   simp(disch:=omega)only[↓wr,seval,wq]
   refine oT aJ.nil ?_
   simp(disch:=omega)only[↓wr,seval,wq,t0,t3,t5,hu,nJ (sz:=2) (id:=id) (off:=0) (k:=l.length) (m:=l.length) (by omega),bq]
   intro q d
   simp(disch:=omega)only[↓wr,seval,wq,bO]
   have U:aJ H' (.sl id 0 l.length 2) 2 (aM l):=.inr ⟨id,by simp[aM],b⟩
   refine fE (sz:=2) (U.fresh d) (by simp[aE]) (by unfold aC aM;simp;omega) (by unfold aC aM;simp;omega) ?_
   intro r X t J
   simp(disch:=omega)only[↓wr,seval,wq]
   refine oT t ?_
   simp(disch:=omega)only[↓wr,seval,wq]
   exact⟨by rw[p];exact t,hu ▸ Left.behind d J⟩
def bB (g:af) (r:Int):List Int:=if r = -1 then [-1 - g.start] else (bH g r).right
def bo (g:af) (x:aD):Int × Bool:=if x.dot=(bB g x.aw).length then (0,false) else ((bB g x.aw).getD x.dot.toNat 0,true)
def nW:SF:=⟨ae [ab [cG 2 0,bQ 4 1],ae [ab [aa 5 1,aF 6 .eql 5 (-1)],bf 6 (ae [ab [al 7 3 2,ak 8 7,((some 9),.op (.arith .sub (.val (.val (.int .i64 (-1)))) (.tmp 8))),((some 10),.op (.bN 1 1 [(.val (.int .i64 0))] [(0,(.tmp 9))])),aa 4 10],.ret])],ab [al 11 2 2,ak 12 11,aa 13 1,aZ 14 3 12 13,al 15 1 14,ak 16 15,aa 4 16],.ret],
 [.tmp 4],17⟩
theorem sD:aI Tryz.prog 199 [2]=some nW:=by kernel_rfl
def pP:SF:=⟨ae [ab [cG 2 0,cG 3 1,aR 4 0,bm 5 false],ab [ba 7 4 2,al 8 0 3,ak 9 8,bg 10 199 [7,9],aa 6 10],ae [ab [al 11 1 3,ak 12 11,aa 13 6,aP 14 13,aU 15 .eql 12 14],bf 15 (ae [ab [aR 4 0,bm 5 false],.ret])],ab [aa 16 6,al 17 1 3,ak 18 17,aZ 19 1 16 18,ak 20 19,aa 4 20,bm 5 true],.ret],
 [.tmp 4,.tmp 5],21⟩
theorem tx:aI Tryz.prog 134 [2,3]=some pP:=by kernel_rfl
theorem zY (g:af) (d : -100<=g.start/\g.start<=100) (r:Int) (hr : -1<=r/\r < (g.rules.length:Int)):ay Tryz.prog 199 [.agg (ag g),gi r] (encI (bB g r)):=by
 refine ay.of (by
  intro v a;simp at a
  rcases a with rfl | rfl
  .exact cn _ (cM g)
  .exact .val _) ?_
 refine au.of mixed sD ?_
 unfold bB
 simp(disch:=omega)only[↓wr,seval,wq,nW,ag,encS]
 apply ai.eq<;>intro h1
 .simp(disch:=omega)only[↓wr,seval,wq,ag,encS]
  intro n
  rw[St h1]
  rintro c a
  refine dH.fr (lY (l:=[-1 - g.start]) (.inr ⟨n,rfl,?_⟩))
  rw[a];simp[View.set]
 .have b:g.rules[r.toNat]?=some (bH g r):=by unfold bH;exact getD_some (by omega)
  rw[Sr h1]
  generalize bH g r=R at b
  simp(disch:=omega)only[↓wr,seval,wq,ag,encS,Ss,b,SD,aQ]
  intro c _
  exact .tree _ (bU R.right)
theorem K2 (g:af) (c : -100<=g.start/\g.start<=100) (x:aD) (d : -1<=x.aw/\x.aw < (g.rules.length:Int)) (e:0<=x.dot/\x.dot<=(bB g x.aw).length) (f:(bB g x.aw).length<=1000) :
  ay Tryz.prog 134 [.agg (ag g),.agg (bq x)] (.aS [gi (bo g x).1,gb (bo g x).2]):=by
 have h1:=zY g c x.aw d
 refine ay.tree (by
  intro v a;simp at a
  rcases a with rfl | rfl
  .exact cn _ (cM g)
  .exact cn _ λv a=>by simp[bq] at a;rcases a with rfl | rfl <;> exact .val _) (.aS _ λi hi=>by
   match i,hi with
   | 0,_=>exact .val _
   | 1,_=>exact .val _) λH=>?_
 refine au.of mixed tx ?_
 simp only[ag,encS,encI] at h1
 unfold bo
 simp(disch:=omega)only[↓wr,seval,wq,pP,ag,encS,bq]
 refine av.pure h1 ?_
 generalize bB g x.aw=R at e f ⊢
 simp(disch:=omega)only[↓wr,seval,wq,bq]
 apply ai.eq<;>intro b
 .simp(disch:=omega)only[↓wr,seval,wq]
  rw[St b]
 .have h:R[x.dot.toNat]?=some (R.getD x.dot.toNat 0):=getD_some (by omega)
  simp(disch:=omega)only[↓wr,seval,wq,bq,Ss,h,SD]
  rw[Sr b]
end Gv
