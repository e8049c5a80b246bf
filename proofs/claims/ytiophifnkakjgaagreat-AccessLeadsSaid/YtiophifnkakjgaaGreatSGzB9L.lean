/-
  Part 12 of the proof: what the machine does and what the functions answer.
  Conditions: those that each lemma names.
-/
import Derived.Test.YtiophifnkakjgaaGreatSGzB9K
set_option linter.unusedSimpArgs false
set_option linter.unusedVariables false
set_option maxRecDepth 100000
set_option maxHeartbeats 20000000
namespace Gv
open Go Go.Proofs
theorem HY {g:ai} (hr:g.rules.length<=40) {k:Nat} (hk:k<=16) (m:Nat):Ak (bk (aA g k) m):=by
 refine⟨iV g k m,?_⟩
 by_cases h:bz (aA g k) m
 .obtain⟨a,b,_⟩:=eM g k m h
  obtain⟨j,f,d,l,e⟩:=vX h
  obtain⟨i,r,c,_,_,hp,_⟩:=iP e
  have hi:i < g.rules.length:=(VC.1 c).1
  have:(bk (aA g k) m).az=i:=by rw[hp];simp[fq]
  omega
 .rw[je h];unfold iK;decide
def uc (H:View) (u:V) (P:List bp):Prop:=u=iJ P∨aO H u 4 (P.map bU)
theorem uc.lY {H:View} {u:V} {P:List bp} (h:uc H u P):cn H u (iJ P):=by
 rcases h with rfl | h
 .exact cn.tree (sd P)
 .exact cn.own h λe he v a=>by
   obtain⟨p,_,rfl⟩:=VO.1 he
   exact Cc p v a
theorem uc.keep {H H':View} {u:V} {P:List bp} (h:uc H u P) (hk:∀ id,owner u=some id->H' id=H id):uc H' u P:=h.imp id λh=>h.keep hk
theorem uc.live {H:View} {u:V} {P:List bp} (h:uc H u P) {id:Nat} (a:owner u=some id):H id≠.dead:=by
 rcases h with rfl | h
 .simp[owner] at a
 .rw[(h.live a).1];simp
theorem Mk {N:List bp} {i m:Nat} {p:bp} (hp:0<=p.az) (h:bz N m):bz (N.set i p) m:=by
 have hm:=Hj h
 unfold bz at h ⊢
 rw[zl hm];split
 .exact hp
 .exact h
def tM:SC :=
 af [ae [aS 24 .lss 23 22],bO 24 (.exit 2),.block 3 (af [ae [aa 25 23,aL 26 3 21 23,bb 27 3 26,((some 7),.op (.alloc [(.val (.int .i64 0)),(.emp 1),(.val (.int .i64 0))])),aa 6 25,cy 3 7 27],af [ae [aa 28 5,av 29 0 7,al 30 29,aL 31 4 28 30,av 32 0 31,al 33 32,aF 34 .geq 33 0],aZ 34 (.exit 3)],ae [av 36 1 7,al 37 36,aa 38 3,bf 39 196 [37,38],aa 35 39,dJ 40 0 35,dJ 41 1 35,((some 8),.op (.alloc [(.val (.int .i64 0)),(.val (.int .i64 0)),(.val (.int .i64 0)),(.val (.int .i64 0))])),cy 4 8 40,aa 9 41],ae [aa 42 9],aZ 42 (af [ae [aa 43 5,av 44 0 7,al 45 44,aa 46 6,av 47 1 8,al 48 47,aF 49 .add 48 1,av 50 2 8,al 51 50,aF 52 .add 51 1,((some 53),.op (.mm false (.val (.val (.int .i64 1048576))) (.tmp 52))),av 54 3 8,al 55 54,((some 56),.op (.build [(.val (.int .i64 0)),(.val (.int .i64 0)),(.val (.int .i64 0)),(.val (.int .i64 0))] [(0,1,(.tmp 46)),(1,1,(.tmp 49)),(2,1,(.tmp 53)),(3,1,(.tmp 55))])),aL 57 4 43 45,cy 4 57 56],ae [bm 4 false]])]),ae [aF 58 .add 23 1,aa 23 58]]
def oM:SC :=
 af [af [ae [aa 16 4,c5 17 16],bO 17 (.exit 0)],.block 1 (af [ae [bm 4 true],ae [aa 18 3,bf 19 252 [18],aa 5 19],af [ae [av 20 2 1,al 21 20,aN 22 21,aP 23 0],bR 2 tM],ae [aa 59 5,aa 3 59]])]
def xA:SF:=⟨af [ae [cE 1 0,bT 2 1],ae [((some 10),.op (.build [(.val (.int .i64 0)),(.val (.int .i64 0)),(.val (.int .i64 0)),(.val (.int .i64 0))] [(0,1,(.val (.val (.int .i64 (-1)))))])),((some 11),.op (.cg 1 4 [(.val (.int .i64 0)),(.val (.int .i64 0)),(.val (.int .i64 0)),(.val (.int .i64 0))] [(0,(.tmp 10))])),av 12 1 1,al 13 12,aN 14 13,bf 15 251 [11,14],aa 3 15],af [ae [bm 4 false],bR 0 oM],ae [aa 60 3,aa 2 60],.ret],
 [.tmp 2],61⟩
theorem Ao:aM Tryz.prog 195 [1]=some xA:=by kernel_rfl
def T9 (g:ai) (H0:View) (P:List bp) (d i:Nat) (T:Env) (H:View):Prop :=
 ∃ (N:List bp) (u:V),N.length=g.ak.length/\mA P i N (g.rules.drop i)=ym g.rules P/\(∀ m,bz P m->bz N m)/\uc H u P/\owner u≠some d/\H d=.arr 4 (N.map bU) /\
  (∀ id,H0 id≠.dead->H id=H0 id/\id≠d)/\((T 4=gb true/\N=P)∨(T 4=gb false/\∃ m,¬ bz P m/\bz N m)) /\
  T 1=.aJ (ag g) 0/\T 3=u/\T 5=.sl d 0 g.ak.length 4/\T 21=.aW (g.rules.map aK)/\T 22=gi g.rules.length/\T 23=gi i
theorem Q1 (g:ai) (hg:g.Ok) (M:g.cU) (H:View):aw Tryz.prog 195 [.agg (ag g)] H λr H'=>aO H' r 4 ((ao g).map bU)/\bZ H H' r:=by
 refine aw.of mixed Ao ?_
 have z1:=M.kC
 have z2:=M.ak
 have z3:=M.rules
 simp(disch:=omega)only[↓wr,seval,wq,xA,ag,encS]
 intro n1 O
 try simp(disch:=omega)only[↓wr,seval,wq]
 refine ax.mK (Mp z1 z2) (by kernel_rfl) ⟨cn.sl (off:=0) (len:=1) (esz:=4) (z:=4) (es:=[bU iK]) (by simp[View.set,bU,iK]) (by simp) (λe he v hv=>by simp at he;subst he;exact Cc _ v hv),cn.tree (.val _),trivial⟩ ?_
 simp(disch:=omega)only[↓wr,seval,wq]
 refine aR.intro (λk T H'=>∃ (j:Nat) (u:V),j<=g.ak.length/\j<=cM (sY (aA g j))/\uc H' u (aA g j)/\bZ H H' u/\T 1=.aJ (ag g) 0/\T 3=u /\
   ((T 4=gb false/\j+k=g.ak.length+1)∨(T 4=gb true/\aA g j=ao g/\aO H' u 4 ((ao g).map bU)))) (g.ak.length+1) ?_ ?_
 .refine⟨0,_,by omega,by omega,.inl rfl,λid a=>⟨?_,by simp[owner]⟩,rfl,rfl,.inl ⟨rfl,by omega⟩⟩
  have e:id≠n1:=by rintro rfl;exact a O
  simp[View.set,e]
 clear O
 rintro k T H1 ⟨j,u,hj,P,hu,f,t1,t3,E⟩
 rcases E with ⟨t4,bl⟩ | ⟨t4,A,s⟩
 .have hlen:=eJ g j
  simp(disch:=omega)only[↓wr,seval,wq,oM,t1,t3,t4,ag,encS]
  refine ax.eA ((Mf (aA g j) (by omega) (by omega) u H1 hu).mono ?_)
  rintro v H2 ⟨hv,F⟩
  obtain⟨d,rfl,p⟩:=hv.sl (by simp;omega)
  simp only[Vx,hlen]
  simp(disch:=omega)only[↓wr,seval,wq,t1,t3,t4,ag,encS]
  refine aR.up g.rules.length (T9 g H (aA g j) d) ?_ ?_
  .refine⟨aA g j,u,hlen,rfl,λ_ h=>h,hu.keep λid a=>(F id (hu.live a)).1,λe=>?_,p,λid a=>?_,.inl ⟨rfl,rfl⟩,t1,t3,rfl,rfl,rfl,rfl⟩
   .exact(F d (hu.live e)).2 rfl
   .have h1:=f id a
    have h2:=F id (by rw[h1.1];exact a)
    exact⟨by rw[h2.1,h1.1],λe=>h2.2 (by rw[e];rfl)⟩
  clear t1 t3 t4 hu f F p hv
  rintro i q T H3 hq ⟨N,u,hN,b,hle,hu,G,p,f,E,t1,t3,t5,t21,t22,t23⟩
  simp(disch:=omega)only[↓wr,seval,wq,tM,t1,t3,t5,t21,t22,t23]
  apply aj.dec<;>intro hc
  .have Q:g.rules[i]?=some (g.rules[i]'(by omega)):=Vq (by omega)
   have y:g.rules[i]'(by omega)∈g.rules:=Vw _
   rw[dS (show i < g.rules.length by omega)] at b
   generalize g.rules[i]'(by omega)=r at Q y b
   have hl:=M.left r y
   have R:=hg.az r y
   have S:r.left.toNat < N.length:=by omega
   have U:(N.map bU).getD r.left.toNat []=bU (bk N r.left.toNat):=by simp[bk,Vp,S]
   have hP:=λm=>HY (g:=g) z3 (show j<=16 by omega) m
   simp(disch:=omega)only[↓wr,seval,wq,t1,t3,t5,t21,t22,t23,Vt,Q,aK,encI]
   intro n t
   have c:d≠n:=by rintro rfl;rw[p] at t;simp at t
   have W:∀ o,uc (H3.set n o) u (aA g j):=λo=>hu.keep λid a=>by
    have:id≠n:=by rintro rfl;exact hu.live a t
    simp[View.set,this]
   have X:∀ o,∀ id,H id≠.dead->(H3.set n o) id=H id/\id≠d:=λo id a=>by
    have h1:=f id a
    have:id≠n:=by rintro rfl;rw[h1.1] at t;exact a t
    exact⟨by simp[View.set,this,h1.1],h1.2⟩
   try simp(disch:=omega)only[↓wr,seval,wq,t1,t3,t5,t21,t22,t23,p,c,c.symm]
   refine⟨by omega,by omega,?_⟩
   try simp(disch:=omega)only[↓wr,seval,wq,t1,t3,t5,t21,t22,t23,p,c,c.symm,U,bU]
   have Y:=rj (aA g j) r.right aX
   apply aj.dec<;>intro hk
   .simp(disch:=omega)only[↓wr,seval,wq,t1,t3,t5,t21,t22,t23,p,c,c.symm]
    have A:ql (aA g j) i N r=N:=by unfold ql;rw[Vu hk]
    rw[mA,A] at b
    rw[set_set]
    exact aE hq (by omega) ⟨N,u,hN,b,hle,W _,G,by simp[View.set,c,p],X _,E,t1,t3,t5,t21,t22,rfl⟩
   .simp(disch:=omega)only[↓wr,seval,wq,t1,t3,t5,t21,t22,t23,p,c,c.symm]
    refine ax.mK (On (aA g j) hP r.right R.2.2.1 λx hx=>⟨R.2.2.2 x hx,λt=>by rw[hlen];exact M.neg y hx t⟩) (by kernel_rfl) ⟨cn.tree (bI r.right),by rw[set_set];exact(W _).lY,trivial⟩ ?_
    have Z:=mQ (λm=>iV g j m) r.right aX gm
    have a7:(0:Int)<=(bD (aA g j) r.right aX).1.bu:=Y
    have ab:gK (aA g j) r.right->(bD (aA g j) r.right aX).1.bu<=16:=λha=>(ic (aA g j) 16 r.right aX ha).2 ⟨by simp[aX],λx hx t=>by have:=(eM g j _ (ha x hx t)).2.1;omega⟩
    have an:=fZ (aA g j) r.right aX
    generalize I:bD (aA g j) r.right aX=sp at Z a7 ab an
    unfold dW at Z
    simp(disch:=omega)only[↓wr,seval,wq,t1,t3,t5,t21,t22,t23,p,c,c.symm,bU]
    intro q2 aq
    have B:=(cb aq b6).1
    have l:=(cb (cb aq b6).2 b6).2
    have w:d≠q2:=by rintro rfl;rw[p] at l;simp at l
    try simp(disch:=omega)only[↓wr,seval,wq,t1,t3,t5,t21,t22,t23,p,c,c.symm,B,B.symm,w,w.symm,bU]
    apply aj.split<;>intro hb
    .have bn:=ab (an.1 hb)
     simp(disch:=omega)only[↓wr,seval,wq,t1,t3,t5,t21,t22,t23,p,c,c.symm,B,B.symm,w,w.symm,bU]
     refine⟨by omega,by omega,?_⟩
     have A:ql (aA g j) i N r=N.set r.left.toNat (fq (aA g j) i r):=by unfold ql;rw[Vs hk,I,Vu hb]
     rw[mA,A] at b
     have C:(fq (aA g j) i r)=⟨i,sp.1.bu+1,min 1048576 (sp.1.rules+1),sp.1.au⟩:=by rw[fq,I]
     have ar:0<=(fq (aA g j) i r).az:=by rw[C];simp only;omega
     have a1:¬ bz N r.left.toNat:=hk
     refine aE hq (by omega) ⟨_,u,by simp[hN],b,λm hm=>Mk ar (hle m hm),?_,G,?_,?_,.inr ⟨rfl,r.left.toNat,λa8=>a1 (hle _ a8),?_⟩,t1,t3,t5,t21,t22,rfl⟩
     .refine hu.keep λid a=>?_
      have J:id≠n:=by rintro rfl;exact hu.live a t
      have K:id≠q2:=by rintro rfl;exact hu.live a l
      have e3:id≠d:=by rintro rfl;exact G a
      simp[View.set,J,K,e3]
     .simp only[View.set,if_true]
      rw[Xm,C,U];simp only[bU,Xs,List.drop_nil,Ww,Ga]
     .intro id a
      have h1:=f id a
      have J:id≠n:=by rintro rfl;rw[h1.1] at t;exact a t
      have K:id≠q2:=by rintro rfl;rw[h1.1] at l;exact a l
      exact⟨by simp[View.set,J,K,h1.2,h1.1],h1.2⟩
     .unfold bz;rw[zl S,Vu rfl];exact ar
    .simp(disch:=omega)only[↓wr,seval,wq,t1,t3,t5,t21,t22,t23,p,c,c.symm,B,B.symm,w,w.symm,bU]
     have A:ql (aA g j) i N r=N:=by unfold ql;rw[Vs hk,I,Vs (by rw[hb];simp)]
     rw[mA,A] at b
     refine aE hq (by omega) ⟨N,u,hN,b,hle,?_,G,by simp[View.set,c,w,p],?_,E,t1,t3,t5,t21,t22,rfl⟩
     .refine hu.keep λid a=>?_
      have J:id≠n:=by rintro rfl;exact hu.live a t
      have K:id≠q2:=by rintro rfl;exact hu.live a l
      simp[View.set,J,K]
     .intro id a
      have h1:=f id a
      have J:id≠n:=by rintro rfl;rw[h1.1] at t;exact a t
      have K:id≠q2:=by rintro rfl;rw[h1.1] at l;exact a l
      exact⟨by simp[View.set,J,K,h1.1],h1.2⟩
  .simp(disch:=omega)only[↓wr,seval,wq,t1,t3,t5,t21,t22,t23]
   rw[VN (by omega),mA,<-nZ] at b
   have s:aO H3 (.sl d 0 g.ak.length 4) 4 (N.map bU):=.inr ⟨d,by simp[hN],p⟩
   have a6:bZ H H3 (.sl d 0 g.ak.length 4):=λid a=>⟨(f id a).1,λe=>(f id a).2 (by simp[owner] at e;exact e.symm)⟩
   rw[b] at s
   rcases E with ⟨E,he⟩ | ⟨E,m,bd,L⟩
   .have D:aA g (j+1)=aA g j:=by rw[<-b,he]
    have C:=QL hj D
    rw[D] at s
    exact⟨0,by omega,j,_,hj,P,.inr s,a6,rfl,rfl,.inr ⟨E,C,by rw[<-C];exact s⟩⟩
   .rw[b] at L
    rcases KS P with e | e
    .rw[e] at L;exact absurd L bd
    .have:=IK g (j+1)
     exact⟨k - 1,by omega,j+1,_,by omega,e,.inr s,a6,rfl,rfl,.inl ⟨E,by omega⟩⟩
 .simp(disch:=omega)only[↓wr,seval,wq,oM,t1,t3,t4]
  exact⟨s,f⟩
theorem Ov {h:aD} {u:V} {P:List bp} (b:aO h.view u 4 (P.map bU)):dB h u (iJ P):=by
 refine dB.own b rfl (λi _=>rfl) (λi j hi a=>?_)
 simp only[Vx] at hi
 have e:(P.map bU).getD i []=bU P[i]:=by simp[Vp,hi]
 rw[e] at a ⊢
 match j,a with
 | 0,_=>exact .val _
 | 1,_=>exact .val _
 | 2,_=>exact .val _
 | 3,_=>exact .val _
 | n+4,h=>exact absurd h (by simp[bU])
theorem Qz (g:ai) (a:g.Ok) (b:g.cU):ca Tryz.prog 195 [.agg (ag g)] (iJ (ao g)) :=
 ca.of (eD g) ((Q1 g a b _).mono λr H' h d c=>Ov (by rw[c];exact h.1))
def gV (g:ai):List Int:=(ao g).map bp.az
def nV:SC :=
 af [af [ae [aa 8 6,av 9 1 2,al 10 9,aN 11 10,aS 12 .lss 8 11],bO 12 (.exit 0)],.block 1 (af [af [ae [av 15 1 2,al 16 15,aa 17 6,aL 18 1 16 17,al 19 18,aF 20 .geq 19 0],aZ 20 (.exit 1)],ae [aa 21 1,av 22 1 2,al 23 22,aa 24 6,aL 25 1 23 24,al 26 25,((some 27),.op (.arith .sub (.val (.val (.int .i64 (-1)))) (.tmp 26))),aL 28 1 21 27,al 29 28,aa 7 29],af [ae [aa 30 7,aF 31 .eql 30 0],aZ 31 (af [ae [aP 4 0],.ret])],ae [aa 32 5,aa 33 7,((some 34),.op (.mm true (.tmp 32) (.tmp 33))),aa 5 34]]),ae [aa 13 6,aF 14 .add 13 1,aa 6 14]]
def qQ:SF:=⟨af [ae [cE 2 0,aP 4 0],ae [aP 5 0],af [ae [aP 6 0],bR 0 nV],ae [aa 35 5,aF 36 .add 35 1,aa 4 36],.ret],
 [.tmp 4],37⟩
theorem vc:aM Tryz.prog 137 [2]=some qQ:=by kernel_rfl
def lM:SC :=
 af [af [ae [aa 25 6,av 26 2 1,al 27 26,aN 28 27,aS 29 .lss 25 28],bO 29 (.exit 2)],.block 3 (af [ae [av 32 2 1,al 33 32,aa 34 6,aL 35 3 33 34,bb 36 3 35,((some 7),.op (.alloc [(.val (.int .i64 0)),(.emp 1),(.val (.int .i64 0))])),cy 3 7 36],.region false [⟨none,[aa 37 3,av 38 0 7,al 39 38,aL 40 1 37 39,al 41 40,aF 42 .eql 41 0,aa 43 42]⟩,⟨(some (43,true)),[bb 44 3 7,aa 45 5,bf 46 137 [44,45],aa 47 4,aS 48 .eql 46 47]⟩,⟨none,[eV 49 43 48]⟩],aZ 49 (ae [aa 50 3,av 51 0 7,al 52 51,aa 53 4,aL 54 1 50 52,cy 1 54 53])]),ae [aa 30 6,aF 31 .add 30 1,aa 6 31]]
def lP:SC :=
 af [af [ae [aa 15 4,av 16 1 1,al 17 16,aN 18 17,aS 19 .leq 15 18],bO 19 (.exit 0)],.block 1 (af [ae [bT 22 2,aa 23 3,gp 24 1 8 22 23,aa 5 24],ae [aP 6 0],bR 2 lM]),ae [aa 20 4,aF 21 .add 20 1,aa 4 21]]
def nJ:SF:=⟨af [ae [cE 1 0,bT 2 1],af [ae [bb 8 4 1,bf 9 50 [8],c5 10 9],aZ 10 (af [ae [bT 2 1],.ret])],ae [av 11 1 1,al 12 11,aN 13 12,((some 14),.op (.make 1 8 [(.val (.int .i64 0))] (.tmp 13) (.tmp 13))),aa 3 14],af [ae [aP 4 1],bR 0 lP],ae [aa 55 3,aa 2 55],.ret],
 [.tmp 2],56⟩
theorem sC:aM Tryz.prog 136 [1]=some nJ:=by kernel_rfl
theorem zA {h:List Int} {m:Nat} (hm:m < h.length):h[m]?=some (fD h m):=by simp[fD,Vp,hm]
theorem Oc {h:List Int} {m:Nat} (hm:m < h.length):(bw h).getD m []=[gi (fD h m)]:=by simp[fD,Vp,hm]
def PQ (h:List Int):Prop:=∀ m,0<=fD h m/\fD h m<=1000
theorem Hi {g:ai} (hr:g.rules.length<=40) {k:Nat} (hk:k<=16):PQ (fg (aA g k)):=λm=>by
 rw[lz]
 by_cases h:bz (aA g k) m
 .obtain⟨a,b,_⟩:=eM g k m h
  omega
 .rw[je h];unfold iK;decide
theorem Ef (r:ba) (h:List Int) (j:PQ h) (l:Cu h.length r):aB Tryz.prog 137 [.agg (aK r),encI h] (gi (fA h r.right 0)):=by
 obtain⟨_,_,_,m,n⟩:=l
 refine aB.val (by
  intro v c;simp at c
  rcases c with rfl | rfl
  .exact bW _ (fS r)
  .exact bI h) λH=>?_
 refine aw.of mixed vc ?_
 simp(disch:=omega)only[↓wr,seval,wq,qQ,aK,encI]
 refine aR.up r.right.length (λi T H'=>∃ top:Int,0<=top/\top<=1000/\fA h (r.right.drop i) top=fA h r.right 0/\T 1=encI h/\T 2=.aJ (aK r) 0/\T 5=gi top/\T 6=gi i) ⟨0,by omega,by omega,rfl,rfl,rfl,rfl,rfl⟩ ?_
 rintro i k T H hk ⟨top,o,h1,a,t1,t2,t5,t6⟩
 simp(disch:=omega)only[↓wr,seval,wq,nV,t1,t2,t5,t6,aK,encI]
 apply aj.dec<;>intro p
 .have e:r.right[i]?=some (r.right[i]'(by omega)):=Vq (by omega)
  have b:r.right[i]'(by omega)∈r.right:=Vw _
  rw[dS (show i < r.right.length by omega)] at a
  generalize r.right[i]'(by omega)=x at e b a
  obtain⟨⟨q,s⟩,f⟩:=n x b
  simp(disch:=omega)only[↓wr,seval,wq,t1,t2,t5,t6,aK,encI,Vt,e]
  apply aj.dec<;>intro g
  .simp(disch:=omega)only[↓wr,seval,wq,t1,t2,t5,t6,aK,encI]
   rw[fA,Vu (show 0<=x from g)] at a
   exact aE hk (by omega) ⟨top,o,h1,a,t1,t2,t5,rfl⟩
  .have hm:bN x < h.length:=by have:=f (by omega);unfold bN;omega
   have d:=zA hm
   have t:=j (bN x)
   rw[fA,Vs g] at a
   generalize fD h (bN x)=v at d t a
   simp(disch:=omega)only[↓wr,seval,wq,t1,t2,t5,t6,aK,encI,Vt,e,d]
   apply aj.eq<;>intro c
   .simp(disch:=omega)only[↓wr,seval,wq,t1,t2,t5,t6]
    rw[Vu c] at a
    rw[<-a]
   .simp(disch:=omega)only[↓wr,seval,wq,t1,t2,t5,t6,OY]
    rw[Vs c] at a
    exact aE hk (by omega) ⟨_,by omega,by omega,a,t1,t2,rfl,rfl⟩
 .simp(disch:=omega)only[↓wr,seval,wq,t1,t2,t5,t6]
  rw[VN (by omega),fA] at a
  rw[a]
def UX (g:ai) (old:List Int) (k:Int) (b d i:Nat) (T:Env) (H:View):Prop :=
 ∃ out:List Int,out.length=g.ak.length/\(g.rules.drop i).foldl (kd old k) out=g.rules.foldl (kd old k) old/\b≠d/\H b=.arr 1 (bw out)/\H d=.arr 1 (bw old) /\
  T 1=.aJ (ag g) 0/\T 3=.sl b 0 g.ak.length 1/\T 4=gi k/\T 5=.sl d 0 g.ak.length 1/\T 6=gi i
theorem yU (g:ai) (D:g.Ok):ca Tryz.prog 136 [.agg (ag g)] (encI (if bM g=true then fg (ao g) else [])):=by
 refine ca.of (eD g) ?_
 refine aw.of mixed sC ?_
 have y:=D.ak
 unfold aI at y
 simp(disch:=omega)only[↓wr,seval,wq,nJ,ag,encS]
 refine ax.pure (j9 g D) ?_
 repeat' (first | ((first|apply aj.dec|apply aj.eq|apply aj.ne|apply aj.split)<;>intro)|(simp(disch:=omega)only[↓wr,seval,wq,ag,encS]))
 .rename_i hr
  have A:=bX hr
  have N:=A.kC
  have z2:=A.ak
  have z3:=A.rules
  rw[Vu hr]
  try simp(disch:=omega)only[↓wr,seval,wq,ag,encS]
  refine⟨⟨by omega,by unfold aC;omega,by unfold aC;omega⟩,λh=>by omega,?_⟩
  intro _ b
  try simp(disch:=omega)only[↓wr,seval,wq,ag,encS]
  refine aR.up g.ak.length (λj T H'=>H' b=.arr 1 (bw (fg (aA g j)))/\T 1=.aJ (ag g) 0/\T 3=.sl b 0 g.ak.length 1/\T 4=gi ((j:Int)+1)) ?_ ?_
  .refine⟨?_,rfl,rfl,rfl⟩
   simp[View.set,aA,iter,iK]
  rintro j k T H hk ⟨f,t1,t3,t4⟩
  simp(disch:=omega)only[↓wr,seval,wq,lP,t1,t3,t4,ag,encS]
  apply aj.dec<;>intro K
  .have hlen:=eJ g j
   obtain⟨nl,v⟩:∃ nl,g.ak.length=nl+1:=⟨g.ak.length - 1,by omega⟩
   have he:bC H (.sl b 0 g.ak.length 1)=some (bw (fg (aA g j)),[b]):=by
    rw[v,jZ _ b 0 nl 1 1 _ f (by simp[hlen,v]),Ww,VG (by simp[hlen,v])]
   have E:(bw (fg (aA g j))).isEmpty=false:=by
    cases L:aA g j with
    | nil=>rw[L] at hlen;simp at hlen;omega
    | cons=>rfl
   simp(disch:=omega)only[↓wr,seval,wq,t1,t3,t4,he,tf _ _ _ _ _ _ _ E,hlen]
   refine⟨by simp[WS,aH],⟨by unfold aC;omega,by unfold aC;omega⟩,λd t=>?_⟩
   have o:b≠d:=by rintro rfl;rw[f] at t;simp at t
   refine aR.up g.rules.length (UX g (fg (aA g j)) ((j:Int)+1) b d) ⟨fg (aA g j),by simp[hlen],rfl,o,by simp[View.set,o,f],by simp[View.set],t1,t3,t4,rfl,rfl⟩ ?_
   clear t1 t3 t4 f he t
   rintro i q T H F ⟨out,w,a,_,f,t,t1,t3,t4,t5,t6⟩
   simp(disch:=omega)only[↓wr,seval,wq,lM,t1,t3,t4,t5,t6,ag]
   apply aj.dec<;>intro G
   .have B:g.rules[i]?=some (g.rules[i]'(by omega)):=Vq (by omega)
    have s:g.rules[i]'(by omega)∈g.rules:=Vw _
    rw[dS (show i < g.rules.length by omega),V7] at a
    generalize g.rules[i]'(by omega)=r at B s a
    have I:=A.qy D s
    have O:=A.left r s
    have p:=Oc (h:=out) (m:=r.left.toNat) (by omega)
    have C:=Hi (g:=g) z3 (show j<=16 by omega)
    have x:(fg (aA g j)).length=g.ak.length:=by simp[hlen]
    unfold kd at a
    generalize fg (aA g j)=old at t C x a ⊢
    simp(disch:=omega)only[↓wr,seval,wq,t1,t3,t4,t5,t6,ag,aK,encI,Vt,B]
    intro n y
    have c:b≠n:=by rintro rfl;rw[f] at y;simp at y
    have u:d≠n:=by rintro rfl;rw[t] at y;simp at y
    try simp(disch:=omega)only[↓wr,seval,wq,t1,t3,t4,t5,t6,ag,aK,encI,f,c,c.symm,p]
    refine⟨by omega,by omega,?_⟩
    apply aj.eq<;>intro J
    .simp(disch:=omega)only[↓wr,seval,wq,t1,t3,t4,t5,t6,ag,aK,encI,f,c,c.symm,p]
     refine ax.KV (Ef r old C (by rw[x];exact I)) (by kernel_rfl) (.val _) ⟨cn.tree (bW _ (fS r)),BU (l:=old) (by simp[View.set,u,t]) x.symm,trivial⟩ ?_
     simp(disch:=omega)only[↓wr,seval,wq,t1,t3,t4,t5,t6,ag,aK,encI,f,c,c.symm,p]
     apply aj.eq<;>intro z
     .simp(disch:=omega)only[↓wr,seval,wq,t1,t3,t4,t5,t6,ag,aK,encI,f,c,c.symm,p]
      refine⟨by omega,by omega,?_⟩
      rw[Vu ⟨J,z⟩] at a
      refine aE F (by omega) ⟨_,by simp[w],a,o,?_,by simp[View.set,o.symm,u,t],t1,t3,t4,t5,rfl⟩
      simp only[View.set,if_true]
      rw[<-Ml]
     .simp(disch:=omega)only[↓wr,seval,wq,t1,t3,t4,t5,t6,ag,aK,encI,f,c,c.symm,p]
      rw[Vs (λe=>z e.2)] at a
      exact aE F (by omega) ⟨out,w,a,o,by simp[View.set,c,f],by simp[View.set,u,t],t1,t3,t4,t5,rfl⟩
    .simp(disch:=omega)only[↓wr,seval,wq,t1,t3,t4,t5,t6,ag,aK,encI,f,c,c.symm,p]
     rw[Vs (λe=>J e.1)] at a
     exact aE F (by omega) ⟨out,w,a,o,by simp[View.set,c,f],by simp[View.set,u,t],t1,t3,t4,t5,rfl⟩
   .simp(disch:=omega)only[↓wr,seval,wq,t1,t3,t4,t5,t6]
    rw[VN (by omega),Xk,RI] at a
    rw[a] at f
    exact aE hk (by omega) ⟨f,t1,t3,rfl⟩
  .simp(disch:=omega)only[↓wr,seval,wq,t1,t3,t4]
   intro M z
   have:j=g.ak.length:=by omega
   subst this
   exact jd (by rw[z];exact .inr ⟨b,by simp[fP],f⟩)
 .rename_i hr
  rw[hr]
  intro M z
  exact .emp _
def nM:SC :=
 af [af [ae [aa 20 7,aF 21 .geq 20 0],bO 21 (.exit 2)],.block 3 (af [.region true [⟨none,[av 24 2 1,al 25 24,aa 26 7,aL 27 3 25 26,av 28 0 27,al 29 28,aa 30 5,aS 31 .eql 29 30,aa 32 31]⟩,⟨(some (32,true)),[aa 33 3,aa 34 5,aL 35 1 33 34,al 36 35,aF 37 .gtr 36 0]⟩,⟨none,[eV 38 32 37,aa 39 38]⟩,⟨(some (39,true)),[av 40 2 1,al 41 40,aa 42 7,aL 43 3 41 42,bb 44 3 43,aa 45 3,bf 46 137 [44,45],aa 47 3,aa 48 5,aL 49 1 47 48,al 50 49,aS 51 .eql 46 50]⟩,⟨none,[eV 52 39 51]⟩],aZ 52 (ae [aa 53 7,aa 6 53])]),ae [aa 22 7,aF 23 .sub 22 1,aa 7 23]]
def jB:SC :=
 af [af [ae [aa 10 5,aa 11 3,aN 12 11,aS 13 .lss 10 12],bO 13 (.exit 0)],.block 1 (af [ae [aP 6 (-1)],af [ae [av 16 2 1,al 17 16,aN 18 17,aF 19 .sub 18 1,aa 7 19],bR 2 nM],ae [aa 54 4,aa 55 6,((some 56),.op (.cg 1 1 [(.val (.int .i64 0))] [(0,(.tmp 55))])),gp 57 1 8 54 56,aa 4 57]]),ae [aa 14 5,aF 15 .add 14 1,aa 5 15]]
def pD:SF:=⟨af [ae [cE 1 0,bT 2 1],ae [bb 8 4 1,bf 9 136 [8],aa 3 9],ae [bT 4 1],af [ae [aP 5 0],bR 0 jB],ae [aa 58 4,aa 2 58],.ret],
 [.tmp 2],59⟩
theorem um:aM Tryz.prog 73 [1]=some pD:=by kernel_rfl
theorem LZ {h:List Int} {m:Nat} {l:List ba} {c:Nat} {r:ba} (hr:l[c]?=some r):kB h m (l.drop c) c=if r.left=(m:Int)/\0 < fD h m/\fA h r.right 0=fD h m then (c:Int) else kB h m (l.drop (c+1)) ((c:Int)+1):=by
 have a:c < l.length:=(VC.1 hr).1
 have he:l[c]=r:=(VC.1 hr).2
 rw[Wl a,he,kB]
def U1 (g:ai) (h:List Int) (u:V) (j c:Nat) (T:Env) (H:View):Prop :=
 c<=g.rules.length/\T 1=.aJ (ag g) 0/\T 3=encI h/\T 4=u/\aO H u 1 (bw ((List.range j).map λm=>kB h m g.rules 0))/\T 5=gi j/\T 6=gi (kB h j (g.rules.drop c) c)/\T 7=gi ((c:Int) - 1)
theorem CJ (g:ai) (A:g.Ok):ca Tryz.prog 73 [.agg (ag g)] (encI (if bM g=true then gV g else [])):=by
 refine ca.of (eD g) ?_
 refine aw.of mixed um ?_
 simp(disch:=omega)only[↓wr,seval,wq,pD,ag,encS]
 refine ax.pure (yU g A).pure ?_
 by_cases hr:bM g=true
 .have l:=bX hr
  have K:=l.kC
  have z2:=l.ak
  have z3:=l.rules
  rw[Vu hr,Vu hr]
  have t:gV g=(List.range g.ak.length).map λm=>kB (fg (ao g)) m g.rules 0:=by
   apply Wp (by simp[gV,fP])
   intro m h1 q
   simp only[gV,Xg,Xv]
   rw[Lp (λr v=>(l.left r v).1)]
   have:m < (ao g).length:=by simpa [gV] using h1
   simp[bk,Vp,this]
  have o:PQ (fg (ao g)):=Hi z3 z2
  have p:(fg (ao g)).length=g.ak.length:=by simp[fP]
  rw[t]
  generalize fg (ao g)=h at o p ⊢
  simp(disch:=omega)only[↓wr,seval,wq,encI,ag,encS]
  refine aR.up g.ak.length (λj T H'=>∃ u,T 4=u/\aO H' u 1 (bw ((List.range j).map λm=>kB h m g.rules 0))/\T 1=.aJ (ag g) 0/\T 3=encI h/\T 5=gi j) ⟨_,rfl,.nil,rfl,rfl,rfl⟩ ?_
  rintro j k T H hk ⟨u,t4,b,t1,t3,t5⟩
  simp(disch:=omega)only[↓wr,seval,wq,jB,t1,t3,t4,t5,encI]
  apply aj.dec<;>intro s
  .have i:=zA (h:=h) (m:=j) (by omega)
   simp(disch:=omega)only[↓wr,seval,wq,t1,t3,t4,t5,encI,ag]
   refine aR.intro (U1 g h u j) g.rules.length ?_ ?_
   .refine⟨by omega,t1,t3,t4,b,t5,?_,rfl⟩
    rw[VN (by omega)];rfl
   clear t1 t3 t4 t5 b
   rintro c T H ⟨D,t1,t3,t4,b,t5,t6,t7⟩
   simp(disch:=omega)only[↓wr,seval,wq,nM,t1,t3,t4,t5,t6,t7,encI,ag]
   apply aj.dec<;>intro w
   .obtain⟨c,rfl⟩:∃ E,c=E+1:=⟨c - 1,by omega⟩
    have a:g.rules[c]?=some (g.rules[c]'(by omega)):=Vq (by omega)
    have f:g.rules[c]'(by omega)∈g.rules:=Vw _
    generalize g.rules[c]'(by omega)=r at a f
    have x:=l.qy A f
    have d:=LZ (h:=h) (m:=j) a
    have B:(((c+1:Nat):Int) - 1)=(c:Int):=by omega
    rw[B] at t7
    try simp only[B]
    rw[show (((c+1:Nat):Int))=(c:Int)+1 by omega] at t6
    simp(disch:=omega)only[↓wr,seval,wq,t1,t3,t4,t5,t6,t7,encI,ag,aK,Vt,a]
    apply aj.eq<;>intro h1
    .simp(disch:=omega)only[↓wr,seval,wq,t1,t3,t4,t5,t6,t7,encI,ag,aK,Vt,a,i]
     apply aj.dec<;>intro q
     .simp(disch:=omega)only[↓wr,seval,wq,t1,t3,t4,t5,t6,t7,encI,ag,aK,Vt,a,i]
      refine ax.pure (Ef r h o (by rw[p];exact x)) ?_
      simp(disch:=omega)only[↓wr,seval,wq,t1,t3,t4,t5,t6,t7,encI,ag,aK,Vt,a,i]
      apply aj.eq<;>intro y
      .simp(disch:=omega)only[↓wr,seval,wq,t1,t3,t4,t5,t6,t7]
       refine⟨c,by omega,by omega,t1,t3,t4,b,t5,?_,rfl⟩
       rw[d,Vu ⟨h1,q,y⟩];rfl
      .simp(disch:=omega)only[↓wr,seval,wq,t1,t3,t4,t5,t6,t7]
       refine⟨c,by omega,by omega,t1,t3,t4,b,t5,?_,rfl⟩
       rw[d,Vs (λe=>y e.2.2)];exact t6
     .simp(disch:=omega)only[↓wr,seval,wq,t1,t3,t4,t5,t6,t7]
      refine⟨c,by omega,by omega,t1,t3,t4,b,t5,?_,rfl⟩
      rw[d,Vs (λe=>q e.2.1)];exact t6
    .simp(disch:=omega)only[↓wr,seval,wq,t1,t3,t4,t5,t6,t7]
     refine⟨c,by omega,by omega,t1,t3,t4,b,t5,?_,rfl⟩
     rw[d,Vs (λe=>h1 e.1)];exact t6
   .have F:c=0:=by omega
    subst F
    simp only[Ww,Int.natCast_zero] at t6
    simp(disch:=omega)only[↓wr,seval,wq,t1,t3,t4,t5,t6,t7]
    intro n G
    rw[bP]
    simp(disch:=omega)only[↓wr,seval,wq,t1,t3,t4,t5,t6,t7]
    refine eL (b.fresh G) (by simp[aH]) (by unfold aC;simp;omega) (by unfold aC;simp;omega) ?_
    intro I H' z _
    simp(disch:=omega)only[↓wr,seval,wq,t1,t3,t4,t5,t6,t7]
    refine aE hk (by omega) ⟨I,rfl,?_,t1,t3,rfl⟩
    rw[WX];simpa using z
  .simp(disch:=omega)only[↓wr,seval,wq,t1,t3,t4,t5]
   intro J C
   have:j=g.ak.length:=by omega
   subst this
   exact jd (by rw[C];exact b)
 .have hr:bM g=false:=by simpa using hr
  rw[hr]
  simp(disch:=omega)only[↓wr,seval,wq,encI,ag,encS]
  refine aR.up 0 (λj T H'=>T 3=.aW []/\T 4=.emp 1/\T 5=gi j) ⟨rfl,rfl,rfl⟩ ?_
  rintro j k T H hk ⟨t3,t4,t5⟩
  simp(disch:=omega)only[↓wr,seval,wq,jB,t3,t4,t5]
  refine aj.dec (λs=>absurd s (by simp)) (λs=>?_)
  simp(disch:=omega)only[↓wr,seval,wq,t3,t4,t5]
  intro J C
  exact .emp _
def eK (s:Int × Int):List V:=[gi s.1,gi s.2]
abbrev Bm (S:List (Int × Int)):V:=.aW (S.map eK)
theorem th (s:Int × Int):∀ v∈eK s,Tree v:=by
 intro v a;simp[eK] at a
 rcases a with rfl | rfl <;> exact .val _
theorem KN (S:List (Int × Int)):Tree (Bm S):=ep _ _ λs _ v a=>th s v a
theorem Rr (h:aD) (s:Int × Int):dB h (.agg (eK s)) (.agg (eK s)):=.agg _ _ rfl λi hi=>by
 match i,hi with
 | 0,_=>exact .val _
 | 1,_=>exact .val _
 | n+2,h=>exact absurd h (by simp[eK])
def ka (s:Int × Int):Prop:=(0<=s.1/\s.1<=1000)/\(0<=s.2/\s.2<=1000)
theorem CX {a b:Int × Int} (c:ka a) (d:ka b):ka (oK a b):=by unfold ka oK at *;simp only;omega
theorem Uc {x:Int} : (if x < 1000 then x else 1000)=min 1000 x:=by omega
def qL:SF:=⟨af [ae [cE 2 0,cE 3 1,((some 4),.op (.alloc [(.val (.int .i64 0)),(.val (.int .i64 0))]))],ae [av 5 0 2,al 6 5,av 7 0 3,al 8 7,aS 9 .add 6 8,((some 10),.op (.mm false (.val (.val (.int .i64 1000))) (.tmp 9))),av 11 1 2,al 12 11,av 13 1 3,al 14 13,aS 15 .add 12 14,((some 16),.op (.mm false (.val (.val (.int .i64 1000))) (.tmp 15))),((some 17),.op (.build [(.val (.int .i64 0)),(.val (.int .i64 0))] [(0,1,(.tmp 10)),(1,1,(.tmp 16))])),cy 2 4 17],.ret],
 [.cell 4 (some 2)],18⟩
theorem uL:aM Tryz.prog 138 [2,3]=some qL:=by kernel_rfl
def oX:SC :=
 af [af [ae [aa 8 6,aa 9 0,aN 10 9,aS 11 .lss 8 10],bO 11 (.exit 0)],.block 1 (af [ae [aa 14 0,aa 15 6,aL 16 1 14 15,al 17 16,aF 18 .geq 17 0],.cond (.tmp 18) (ae [bb 19 2 5,((some 20),.op (.build [(.val (.int .i64 0)),(.val (.int .i64 0))] [(1,1,(.val (.val (.int .i64 1))))])),bf 21 138 [19,20],cy 2 5 21]) (ae [bb 22 2 5,aa 23 1,aa 24 0,aa 25 6,aL 26 1 24 25,al 27 26,((some 28),.op (.arith .sub (.val (.val (.int .i64 (-1)))) (.tmp 27))),aL 29 2 23 28,bb 30 2 29,bf 31 138 [22,30],cy 2 5 31])]),ae [aa 12 6,aF 13 .add 12 1,aa 6 13]]
def qv:SF:=⟨af [ae [((some 4),.op (.alloc [(.val (.int .i64 0)),(.val (.int .i64 0))]))],ae [((some 7),.op (.build [(.val (.int .i64 0)),(.val (.int .i64 0))] [])),((some 5),.op (.alloc [(.val (.int .i64 0)),(.val (.int .i64 0))])),cy 2 5 7],af [ae [aP 6 0],bR 0 oX],ae [bb 32 2 5,cy 2 4 32],.ret],
 [.cell 4 (some 2)],33⟩
theorem ve:aM Tryz.prog 75 []=some qv:=by kernel_rfl
theorem C4 (a b:Int × Int) (d:ka a) (e:ka b):ca Tryz.prog 138 [.agg (eK a),.agg (eK b)] (.agg (eK (oK a b))):=by
 unfold ka at d e
 refine ca.of (by
  intro v c;simp at c
  rcases c with rfl | rfl
  .exact bW _ (th a)
  .exact bW _ (th b)) ?_
 refine aw.of mixed uL ?_
 simp(disch:=omega)only[↓wr,seval,wq,qL,eK,Uc]
 intro n f _
 exact Rr f (oK a b)
theorem Sn {H:View} {id n:Nat} {S:List (Int × Int)} (a:H id=.arr 2 (S.map eK)) (b:n=S.length):cn H (.sl id 0 n 2) (Bm S):=by
 subst b
 exact cn.own (sz:=2) (.inr ⟨id,by simp,a⟩) λe he v a=>by
  obtain⟨x,_,rfl⟩:=VO.1 he
  exact th x v a
theorem R2 {S:List (Int × Int)} {m:Nat} (hm:m < S.length):(S.map eK)[m]?=some (eK (kc S m)):=by simp[kc,Vp,hm]
theorem Je (l:List Int) (S:List (Int × Int)) (y:aI l) (A:∀ m,ka (kc S m)) (B:∀ x∈l,bS x/\(x < 0->-1 - x < S.length)):ca Tryz.prog 75 [encI l,Bm S] (.agg (eK (mJ S l (0,0)))):=by
 unfold aI at y
 refine ca.of (by
  intro v w;simp at w
  rcases w with rfl | rfl
  .exact bI l
  .exact KN S) ?_
 refine aw.of mixed ve ?_
 simp(disch:=omega)only[↓wr,seval,wq,qv,encI]
 intro n o f
 try simp(disch:=omega)only[↓wr,seval,wq,encI]
 have c:n≠o:=λe=>by subst e;simp[View.set] at f
 refine aR.up l.length (λi T H'=>∃ s:Int × Int,ka s/\mJ S (l.drop i) s=mJ S l (0,0)/\H' o=.arr 2 [eK s]/\(∃ z,H' n=.arr 2 [[z,z]])/\T 0=encI l/\T 1=Bm S/\T 4=.ptr n 0 0/\T 5=.ptr o 0 0/\T 6=gi i) ?_ ?_
 .exact⟨(0,0),by unfold ka;simp,rfl,by simp[View.set,eK],⟨gi 0,by simp[View.set,c]⟩,rfl,rfl,rfl,rfl,rfl⟩
 clear f
 rintro i k T H hk ⟨s,g,a,hH,⟨z,p⟩,t0,t1,t4,t5,t6⟩
 have q:=g
 unfold ka at q
 simp(disch:=omega)only[↓wr,seval,wq,oX,t0,t1,t4,t5,t6,encI]
 apply aj.dec<;>intro C
 .have r:l[i]?=some (l[i]'(by omega)):=Vq (by omega)
  have b:l[i]'(by omega)∈l:=Vw _
  rw[dS (show i < l.length by omega),mJ] at a
  generalize l[i]'(by omega)=x at r b a
  obtain⟨⟨D,E⟩,t⟩:=B x b
  simp(disch:=omega)only[↓wr,seval,wq,t0,t1,t4,t5,t6,encI,Vt,r]
  apply aj.dec<;>intro u
  .rw[Vu (show 0<=x from u)] at a
   simp(disch:=omega)only[↓wr,seval,wq,t0,t1,t4,t5,t6,hH,eK]
   refine ax.pure (C4 s (0,1) g (by unfold ka;simp)).pure ?_
   have h:=CX g (show ka (0,1) by unfold ka;simp)
   generalize oK s (0,1)=s2 at a h
   simp(disch:=omega)only[↓wr,seval,wq,t0,t1,t4,t5,t6,hH,eK]
   refine aE hk (by omega) ⟨s2,h,a,by simp[View.set,eK],⟨z,by simp[View.set,c,p]⟩,t0,t1,t4,t5,rfl⟩
  .rw[Vs (show ¬ 0<=x from u)] at a
   have hm:bN x < S.length:=by have:=t (by omega);unfold bN;omega
   have j:=R2 hm
   have d:=A (bN x)
   generalize kc S (bN x)=s1 at a j d
   simp(disch:=omega)only[↓wr,seval,wq,t0,t1,t4,t5,t6,hH,encI,Vt,r,j,eK]
   refine ax.pure (C4 s s1 g d).pure ?_
   have h:=CX g d
   generalize oK s s1=s2 at a h
   simp(disch:=omega)only[↓wr,seval,wq,t0,t1,t4,t5,t6,hH,eK]
   refine aE hk (by omega) ⟨s2,h,a,by simp[View.set,eK],⟨z,by simp[View.set,c,p]⟩,t0,t1,t4,t5,rfl⟩
 .simp(disch:=omega)only[↓wr,seval,wq,t0,t1,t4,t5,t6,hH,p,eK]
  rw[VN (by omega),mJ] at a
  intro F _
  rw[<-a]
  exact Rr F s
def nk:SC :=
 af [af [ae [aa 21 7,aa 22 3,aN 23 22,aS 24 .lss 21 23],bO 24 (.exit 2)],.block 3 (af [ae [aa 27 3,aa 28 7,aL 29 1 27 28,al 30 29,aa 31 6,aS 32 .eql 30 31],aZ 32 (ae [aa 33 5,aa 34 7,((some 35),.op (.build [(.val (.int .i64 0)),(.val (.int .i64 0))] [(0,1,(.val (.val (.int .i64 1))))])),av 36 2 1,al 37 36,aa 38 4,aa 39 7,aL 40 1 38 39,al 41 40,aL 42 3 37 41,av 43 1 42,al 44 43,aa 45 5,bf 46 75 [44,45],bf 47 138 [35,46],aL 48 2 33 34,cy 2 48 47])]),ae [aa 25 7,aF 26 .add 25 1,aa 7 26]]
def nA:SC :=
 af [af [ae [aa 15 6,aa 16 3,aN 17 16,aS 18 .leq 15 17],bO 18 (.exit 0)],.block 1 (af [ae [aP 7 0],bR 2 nk]),ae [aa 19 6,aF 20 .add 19 1,aa 6 20]]
def pB:SF:=⟨af [ae [cE 1 0,bT 2 1],.region true [⟨none,[bb 8 4 1,bf 9 136 [8],bb 10 4 1,bf 11 73 [10],aa 3 9,aa 4 11]⟩],ae [aa 12 3,aN 13 12,((some 14),.op (.make 2 16 [(.val (.int .i64 0)),(.val (.int .i64 0))] (.tmp 13) (.tmp 13))),aa 5 14],af [ae [aP 6 1],bR 0 nA],ae [aa 49 5,aa 2 49],.ret],
 [.tmp 2],50⟩
theorem uu:aM Tryz.prog 76 [1]=some pB:=by kernel_rfl
theorem G8 {S:List (Int × Int)} (a:∀ m,ka (kc S m)):∀ (l:List Int) (s:Int × Int),ka s->ka (mJ S l s)
 | [],_,h=>h
 | x :: l,s,h=>G8 a l _ (CX h (by
  split; · unfold ka;simp
  .exact a _))
def lJ (g:ai):List (Int × Int):=(ao g).map kq
theorem zh:kq iK=(0,0):=by decide
theorem Aq (g:ai) (m:Nat):kc (lJ g) m=kq (bk (ao g) m):=by
 simp only[lJ,kc,bk,Vp,Vt]
 cases (ao g)[m]? <;> rfl
theorem MH (g:ai) (m:Nat):ka (kq (bk (ao g) m)):=by
 have h:dW (bk (ao g) m):=iV g _ m
 unfold dW at h
 unfold ka kq;simp only;omega
def iE (g:ai) (j i:Nat) (S:List (Int × Int)):Prop:=S.length=g.ak.length/\∀ m,kc S m=if (bk (ao g) m).bu<=j∨((bk (ao g) m).bu=j+1/\m < i) then kq (bk (ao g) m) else (0,0)
theorem iE.ok {g:ai} {j i:Nat} {S:List (Int × Int)} (h:iE g j i S) (m:Nat):ka (kc S m):=by
 rw[h.2 m];split
 .exact MH g m
 .unfold ka;simp
theorem R4 {S:List (Int × Int)} {i m:Nat} {v:Int × Int} (hm:m < S.length):kc (S.set i v) m=if i=m then v else kc S m:=by
 simp only[kc,Vp,V9]
 split
 .rename_i e;subst e;simp[hm]
 .rfl
theorem iE.next {g:ai} {j i:Nat} {S:List (Int × Int)} (h:iE g j i S) (hi:(bk (ao g) i).bu≠(j:Int)+1):iE g j (i+1) S:=⟨h.1,λm=>by
 rw[h.2 m]
 by_cases e:m=i
 .subst e
  by_cases h1:(bk (ao g) m).bu<=j
  .rw[Vu (.inl h1),Vu (.inl h1)]
  .rw[Vs (by omega),Vs (by omega)]
 .congr 1
  simp only[eq_iff_iff]
  constructor <;> rintro (h1 | h1) <;> first | exact .inl h1 | exact .inr ⟨h1.1,by omega⟩⟩
theorem iE.put {g:ai} {j i:Nat} {S:List (Int × Int)} (h:iE g j i S) (hi:(bk (ao g) i).bu=(j:Int)+1) (a:i < g.ak.length):iE g j (i+1) (S.set i (kq (bk (ao g) i))):=⟨by simp[h.1],λm=>by
 by_cases hm:m < S.length
 .rw[R4 hm]
  by_cases e:i=m
  .subst e;rw[Vu rfl,Vu (.inr ⟨hi,by omega⟩)]
  .rw[Vs e,h.2 m]
   congr 1
   simp only[eq_iff_iff]
   constructor <;> rintro (h1 | h1) <;> first | exact .inl h1 | exact .inr ⟨h1.1,by omega⟩
 .have:bk (ao g) m=iK:=vy (by rw[fP,<-h.1];omega)
  have e:kc (S.set i (kq (bk (ao g) i))) m=(0,0):=by
   simp only[kc,Vp];rw[V0 (by simp;omega)];rfl
  rw[e,this]
  split <;> simp[zh]⟩
theorem iE.Q5 {g:ai} {j:Nat} {S:List (Int × Int)} (h:iE g j g.ak.length S):iE g (j+1) 0 S:=⟨h.1,λm=>by
 rw[h.2 m]
 by_cases hm:m < g.ak.length
 .congr 1
  simp only[eq_iff_iff]
  push_cast
  constructor
  .rintro (h1 | h1) <;> left <;> omega
  .rintro (h1 | h1)
   .omega
   .omega
 .have:bk (ao g) m=iK:=vy (by rw[fP];omega)
  rw[this];split <;> split <;> simp[zh]⟩
theorem iE.start (g:ai):iE g 0 0 (List.replicate g.ak.length (0,0)):=⟨by simp,λm=>by
 have e:kc (List.replicate g.ak.length (0,0)) m=(0,0):=by
  simp only[kc,Vp,Wj]
  split <;> rfl
 rw[e]
 split
 .rename_i h
  by_cases hk:bz (ao g) m
  .have:=(kj hk).1;omega
  .rw[vN hk];simp[zh]
 .rfl⟩
theorem iE.done {g:ai} {S:List (Int × Int)} (h:iE g g.ak.length 0 S):S=lJ g:=by
 apply Wp (by simp[h.1,lJ,fP])
 intro m h1 a
 have e:S[m]=kc S m:=by simp[kc,Vp,h1]
 have b:(lJ g)[m]=kc (lJ g) m:=by simp[kc,Vp,a]
 rw[e,b,h.2 m,Aq]
 by_cases hk:bz (ao g) m
 .rw[Vu (.inl (kj hk).2)]
 .rw[vN hk];split <;> simp[zh]
theorem Pz (g:ai) (B:g.Ok) (hr:bM g=true):ca Tryz.prog 76 [.agg (ag g)] (Bm (lJ g)):=by
 refine ca.of (eD g) ?_
 refine aw.of mixed uu ?_
 simp(disch:=omega)only[↓wr,seval,wq,pB,ag,encS]
 refine ax.pure (yU g B).pure ?_
 simp(disch:=omega)only[↓wr,seval,wq]
 refine ax.pure (CJ g B).pure ?_
 have A:=bX hr
 have W:=A.kC
 have z2:=A.ak
 have z3:=A.rules
 rw[Vu hr,Vu hr]
 have a:=fP g
 simp(disch:=omega)only[↓wr,seval,wq,encI,ag,encS,a,Vx]
 refine⟨⟨by omega,by unfold aC;omega,by unfold aC;omega⟩,λh=>by omega,?_⟩
 intro _ b
 try simp(disch:=omega)only[↓wr,seval,wq]
 refine aR.up g.ak.length (λj T H'=>∃ S,iE g j 0 S/\H' b=.arr 2 (S.map eK)/\T 1=.aJ (ag g) 0/\T 3=encI (fg (ao g))/\T 4=encI (gV g)/\T 5=.sl b 0 g.ak.length 2/\T 6=gi ((j:Int)+1)) ?_ ?_
 .refine⟨_,.start g,?_,rfl,rfl,rfl,rfl,rfl⟩
  simp[View.set,eK]
 rintro j k T H hk ⟨S,c,d,t1,t3,t4,t5,t6⟩
 simp(disch:=omega)only[↓wr,seval,wq,nA,t1,t3,t4,t5,t6,encI,a,Vx]
 apply aj.dec<;>intro L
 .simp(disch:=omega)only[↓wr,seval,wq,t1,t3,t4,t5,t6,encI,a,Vx]
  refine aR.up g.ak.length (λi T H'=>∃ S,iE g j i S/\H' b=.arr 2 (S.map eK)/\T 1=.aJ (ag g) 0/\T 3=encI (fg (ao g))/\T 4=encI (gV g)/\T 5=.sl b 0 g.ak.length 2/\T 6=gi ((j:Int)+1)/\T 7=gi i) ⟨S,c,d,t1,t3,t4,t5,t6,rfl⟩ ?_
  clear t1 t3 t4 t5 t6 c d
  rintro i q T H I ⟨S,c,d,t1,t3,t4,t5,t6,t7⟩
  simp(disch:=omega)only[↓wr,seval,wq,nk,t1,t3,t4,t5,t6,t7,encI,a,Vx]
  apply aj.dec<;>intro C
  .have p:=zA (h:=fg (ao g)) (m:=i) (by simp;omega)
   rw[lz] at p
   simp(disch:=omega)only[↓wr,seval,wq,t1,t3,t4,t5,t6,t7,encI,Vt,p]
   apply aj.eq<;>intro hi
   .have s:bz (ao g) i:=by
     by_cases h:bz (ao g) i
     .exact h
     .rw[vN h] at hi;simp[iK] at hi;omega
    obtain⟨D,r,f,M,N,E,_⟩:=mn s
    have t:(bk (ao g) i).az=D:=by rw[E];rfl
    have u:=zA (h:=gV g) (m:=i) (by simp[gV,a];omega)
    have F:fD (gV g) i=D:=by
     rw[<-t];simp[gV,fD,bk,Vp,a,show i < g.ak.length by omega]
    rw[F] at u
    have l:=VF f
    have O:D < g.rules.length:=(VC.1 f).1
    have v:=B.az r l
    simp(disch:=omega)only[↓wr,seval,wq,t1,t3,t4,t5,t6,t7,encI,ag,aK,Vt,u,f]
    refine ax.mK (Je r.right S v.2.2.1 c.ok λx J=>⟨v.2.2.2 x J,λP=>by rw[c.1];exact A.neg l J P⟩) (by kernel_rfl) ⟨cn.tree (bI r.right),Sn d c.1.symm,trivial⟩ ?_
    have w:=Mv (S:=S) s f t λk Q R=>by rw[c.2 k,Vu (.inl (by omega))]
    have y:ka (mJ S r.right (0,0)):=G8 c.ok _ _ (by unfold ka;simp)
    generalize mJ S r.right (0,0)=z at w y
    simp(disch:=omega)only[↓wr,seval,wq,t1,t3,t4,t5,t6,t7]
    refine ax.pure (C4 (1,0) z (by unfold ka;simp) y).pure ?_
    rw[w]
    simp(disch:=omega)only[↓wr,seval,wq,t1,t3,t4,t5,t6,t7,d,eK]
    have U:=c.1
    have G:(S.map eK).getD i []=eK (kc S i):=by simp[kc,Vp,show i < S.length by omega]
    refine⟨by omega,by omega,aE I (by omega) ⟨_,c.put hi (by omega),?_,t1,t3,t4,t5,t6,rfl⟩⟩
    simp only[View.set,if_true]
    rw[Xm,G];simp only[eK,Xs,List.drop_nil,Ww]
   .simp(disch:=omega)only[↓wr,seval,wq,t1,t3,t4,t5,t6,t7]
    exact aE I (by omega) ⟨S,c.next hi,d,t1,t3,t4,t5,t6,rfl⟩
  .simp(disch:=omega)only[↓wr,seval,wq,t1,t3,t4,t5,t6,t7]
   have o:i=g.ak.length:=by omega
   subst o
   exact aE hk (by omega) ⟨S,c.Q5,d,t1,t3,t4,t5,rfl⟩
 .simp(disch:=omega)only[↓wr,seval,wq,t1,t3,t4,t5,t6]
  have o:j=g.ak.length:=by omega
  subst o
  rw[c.done] at d
  intro X V
  exact dB.own (sz:=2) (.inr ⟨b,by simp[lJ,a],by rw[V];exact d⟩) rfl (λi _=>rfl) (λi j hi K=>by
   simp only[Vx] at hi
   have e:((lJ g).map eK).getD i []=eK (lJ g)[i]:=by simp[Vp,hi]
   rw[e] at K ⊢
   match j,K with
   | 0,_=>exact .val _
   | 1,_=>exact .val _
   | n+2,h=>exact absurd h (by simp[eK]))
def oL:SC :=
 af [af [ae [aa 9 8,aa 10 1,aN 11 10,aS 12 .lss 9 11],bO 12 (.exit 0)],.block 1 (af [ae [aa 15 1,aa 16 8,aL 17 1 15 16,al 18 17,aF 19 .geq 18 0],.cond (.tmp 19) (ae [aa 20 7,aa 21 1,aa 22 8,aL 23 1 21 22,al 24 23,((some 25),.op (.cg 1 1 [(.val (.int .i64 0))] [(0,(.tmp 24))])),gp 26 1 8 20 25,aa 7 26]) (ae [aa 27 7,bb 28 4 3,av 29 2 3,al 30 29,aa 31 2,aa 32 1,aa 33 8,aL 34 1 32 33,al 35 34,((some 36),.op (.arith .sub (.val (.val (.int .i64 (-1)))) (.tmp 35))),aL 37 1 31 36,al 38 37,aL 39 3 30 38,av 40 1 39,al 41 40,aa 42 2,bf 43 77 [28,41,42],gp 44 1 8 27 43,aa 7 44])]),ae [aa 13 8,aF 14 .add 13 1,aa 8 14]]
def rn:SF:=⟨af [ae [cE 3 0,bT 6 1],ae [bT 7 1],af [ae [aP 8 0],bR 0 oL],ae [aa 45 7,aa 6 45],.ret],
 [.tmp 6],46⟩
theorem vF:aM Tryz.prog 77 [3]=some rn:=by kernel_rfl
theorem Cl {g:ai} {m:Nat} (h:m < g.ak.length):(gV g)[m]?=some (bk (ao g) m).az:=by
 have:m < (ao g).length:=by rw[fP];exact h
 simp[gV,bk,Vp,this]
theorem NY (g:ai) (f:Nat) (l:List Int) (i:Nat):(ey g (ao g) f (l.take i)).length<=(ey g (ao g) f l).length:=by
 have:=iX g (ao g) f (l.take i) (l.drop i)
 rw[List.take_append_drop] at this
 rw[this];simp
theorem Fc (g:ai) (f:Nat) (l:List Int) (i:Nat):(dz g (ao g) f (l.take i)).length<=(dz g (ao g) f l).length:=by
 have:=fv g (ao g) f (l.take i) (l.drop i)
 rw[List.take_append_drop] at this
 rw[this];simp
theorem Pe (g:ai) (L:g.Ok) (M:g.cU):∀ (f:Nat) (l:List Int),aI l->(∀ x∈l,bS x/\(x < 0->-1 - x < g.ak.length))->zV (ao g) f l->(dz g (ao g) f l).length<=100000->∀ H:View,
  aw Tryz.prog 77 [.agg (ag g),encI l,encI (gV g)] H λr H'=>aO H' r 1 (bw (dz g (ao g) f l))/\bZ H H' r:=by
 intro f
 induction f using Nat.strongRecOn with
 | _ f N =>
  intro l O z hu hb P
  refine aw.of mixed vF ?_
  unfold aI at O
  simp(disch:=omega)only[↓wr,seval,wq,rn,encI,ag,encS]
  refine aR.up l.length (λi T H'=>∃ u,T 7=u/\aO H' u 1 (bw (dz g (ao g) f (l.take i)))/\bZ P H' u/\T 1=encI l/\T 2=encI (gV g)/\T 3=.aJ (ag g) 0/\T 8=gi i) ⟨.emp 1,rfl,by rw[List.take_zero,nC];exact .nil,.emp,rfl,rfl,rfl,rfl⟩ ?_
  rintro i k T H hk ⟨u,t7,w,e,t1,t2,t3,t8⟩
  simp(disch:=omega)only[↓wr,seval,wq,oL,t1,t2,t3,t7,t8,encI]
  apply aj.dec<;>intro Q
  .have b:l[i]?=some (l[i]'(by omega)):=Vq (by omega)
   have a:l[i]'(by omega)∈l:=Vw _
   have d:l.take (i+1)=l.take i ++ [l[i]'(by omega)]:=by rw[VP,b];rfl
   have c:=Fc g f l (i+1)
   generalize l[i]'(by omega)=x at b a d
   obtain⟨⟨R,S⟩,A⟩:=z x a
   rw[d,fv] at c
   simp(disch:=omega)only[↓wr,seval,wq,t1,t2,t3,t7,t8,encI,Vt,b]
   apply aj.dec<;>intro B
   .rw[iF (show 0<=x from B)] at c
    simp only[VQ,Vz,VS] at c
    simp(disch:=omega)only[↓wr,seval,wq,t1,t2,t3,t7,t8,encI,Vt,b]
    intro n h
    rw[bP]
    simp(disch:=omega)only[↓wr,seval,wq,t1,t2,t3,t7,t8]
    refine eL (w.fresh h) (by simp[aH]) (by unfold aC;simp;omega) (by unfold aC;simp;omega) ?_
    intro U H1 C D
    simp(disch:=omega)only[↓wr,seval,wq,t1,t2,t3,t7,t8]
    refine aE hk (by omega) ⟨U,rfl,?_,(e.put h).step D,t1,t2,t3,rfl⟩
    rw[d,fv,iF (show 0<=x from B)]
    simpa using C
   .obtain⟨f,rfl⟩:∃ V,f=V+1:=by
     cases f with
     | zero=>have:=zB hu x a;omega
     | succ f=>exact⟨f,rfl⟩
    obtain⟨E,J⟩:=hu x a (by omega)
    obtain⟨W,r,hi,hr,j,F,_⟩:=sQ (f:=f) E (by push_cast at J;exact J)
    have o:=Cl (g:=g) (m:=bN x) (by have:=A (by omega);unfold bN;omega)
    have p:=VF hr
    have X:W < g.rules.length:=(VC.1 hr).1
    have q:=L.az r p
    rw[jK (by omega),j] at c
    rw[hi] at o
    simp only[VQ] at c
    simp(disch:=omega)only[↓wr,seval,wq,t1,t2,t3,t7,t8,encI,ag,aK,encS,Vt,b,o,hr]
    have s:=N f (by omega) r.right q.2.2.1 (λy K=>⟨q.2.2.2 y K,λz=>M.neg p K z⟩) F (by omega) H
    simp only[ag,encI,encS] at s
    refine ax.eA (s.mono ?_)
    rintro v H2 ⟨Y,t⟩
    obtain⟨rd,he⟩:=Y.elems
    simp(disch:=omega)only[↓wr,seval,wq,t1,t2,t3,t7,t8,he]
    refine eL (w.Po t) (by simp[WS,aH]) (by unfold aC;simp;omega) (by unfold aC;simp;omega) ?_
    intro Z H3 G I
    simp(disch:=omega)only[↓wr,seval,wq,t1,t2,t3,t7,t8]
    refine aE hk (by omega) ⟨Z,rfl,?_,(e.call t).step I,t1,t2,t3,rfl⟩
    rw[d,fv,jK (by omega),j]
    simpa using G
  .simp(disch:=omega)only[↓wr,seval,wq,t1,t2,t3,t7,t8]
   rw[VG (by omega)] at w
   exact⟨w,e⟩
def AP (x:List Int × Int):V:=.aY [encI x.1,gi x.2]
theorem j6 {h:aD} {u:V} {x:List Int × Int} (hu:dB h u (encI x.1)):dB h (.aY [u,gi x.2]) (AP x):=HU hu (.val _)
theorem qP {g:ai} {l:List Int} (h:gK (ao g) l):zV (ao g) g.ak.length l:=λx a b=>⟨h x a b,(kj (h x a b)).2⟩
theorem O1 {g:ai} {l:List Int} (h:gK (ao g) l) (a:(bD (ao g) l aX).1.rules<=300):((ey g (ao g) g.ak.length l).length:Int)=(bD (ao g) l aX).1.rules:=by
 have:=(nF g g.ak.length l aX (qP h) gm).1
 simp only[aX] at this a ⊢
 omega
theorem ED {g:ai} {l:List Int} (h:gK (ao g) l) (a:(bD (ao g) l aX).1.au<=60):((dz g (ao g) g.ak.length l).length:Int)=(bD (ao g) l aX).1.au:=by
 have:=(nF g g.ak.length l aX (qP h) gm).2
 simp only[aX] at this a ⊢
 omega
def oU:SC :=
 af [af [ae [aa 15 8,aa 16 1,aN 17 16,aS 18 .lss 15 17],bO 18 (.exit 0)],.block 1 (af [af [ae [bb 21 4 2,aa 22 1,aa 23 8,aL 24 1 22 23,al 25 24,bf 26 74 [21,25],c5 27 26],aZ 27 (af [ae [bT 4 1,aP 5 1],.ret])],.region false [⟨none,[aa 28 7,aa 29 28]⟩,⟨(some (29,false)),[aa 30 1,aa 31 8,aL 32 1 30 31,al 33 32,aF 34 .lss 33 0,aa 35 34]⟩,⟨(some (35,true)),[aa 36 6,aa 37 1,aa 38 8,aL 39 1 37 38,al 40 39,((some 41),.op (.arith .sub (.val (.val (.int .i64 (-1)))) (.tmp 40))),aL 42 1 36 41,al 43 42,aF 44 .lss 43 0]⟩,⟨(some (29,false)),[eV 45 35 44]⟩,⟨none,[cx 46 29 45,aa 7 46]⟩]]),ae [aa 19 8,aF 20 .add 19 1,aa 8 20]]
def qT:SF:=⟨af [ae [cE 2 0,bT 4 1,aP 5 0],af [ae [bb 10 4 2,bf 11 50 [10],c5 12 11],aZ 12 (af [ae [bT 4 1,aP 5 1],.ret])],ae [bb 13 4 2,bf 14 73 [13],aa 6 14],ae [bm 7 false],af [ae [aP 8 0],bR 0 oU],af [ae [aa 47 7],aZ 47 (af [ae [bT 4 1,aP 5 9],.ret])],ae [aa 48 1,bb 49 4 2,bf 50 76 [49],bf 51 75 [48,50],((some 9),.op (.alloc [(.val (.int .i64 0)),(.val (.int .i64 0))])),cy 2 9 51],af [.region false [⟨none,[av 52 0 9,al 53 52,aF 54 .gtr 53 300,aa 55 54]⟩,⟨(some (55,false)),[av 56 1 9,al 57 56,aF 58 .gtr 57 60]⟩,⟨none,[cx 59 55 58]⟩],aZ 59 (af [ae [bT 4 1,aP 5 13],.ret])],ae [bb 60 4 2,aa 61 1,aa 62 6,bf 63 77 [60,61,62],aa 4 63,aP 5 0],.ret],
 [.tmp 4,.tmp 5],64⟩
theorem vw:aM Tryz.prog 34 [2]=some qT:=by kernel_rfl
def l0 (P:List bp) (l:List Int):Bool:=l.any λx=>decide (x < 0) && decide ((bk P (bN x)).az < 0)
theorem KL (P:List bp) (l:List Int) (s:bp):(bD P l s).2 = !l0 P l:=by
 have h:=fZ P l s
 cases a:l0 P l with
 | true =>
  simp only[l0,W5,VD,VH] at a
  obtain⟨x,b,c,hk⟩:=a
  cases d:(bD P l s).2 with
  | true=>have:=h.1 d x b c;unfold bz at this;omega
  | false=>rfl
 | false =>
  rw[Bool.not_false,h]
  intro x b c
  simp only[l0,List.any_eq_false,VD,VH] at a
  have:=a x b
  unfold bz;omega
theorem Pg (g:ai) (D:g.Ok) (l:List Int) (W:l.length<=1000000) (L:∀ x∈l,bS x):ca Tryz.prog 34 [.agg (ag g),encI l] (AP (dc g l)):=by
 have A:aI l:=by unfold aI;omega
 refine ca.of (by
  intro v E;simp at E
  rcases E with rfl | rfl
  .exact bW _ (cw g)
  .exact bI l) ?_
 refine aw.of mixed vw ?_
 simp(disch:=omega)only[↓wr,seval,wq,qT,ag,encS]
 refine ax.pure (j9 g D) ?_
 have bad:∀ p:aD,(bM g && l.all (dw g))=false->dB p (.aY [.emp 1,gi 1]) (AP (dc g l)):=λp e=>by
  unfold dc;rw[Vs (by rw[e];simp)];exact j6 (x:=([],1)) (.emp _)
 repeat' (first | ((first|apply aj.dec|apply aj.eq|apply aj.ne|apply aj.split)<;>intro)|(simp(disch:=omega)only[↓wr,seval,wq,ag,encS]))
 .rename_i hr
  have F:=bX hr
  have X:=F.kC
  have z2:=F.ak
  have z3:=F.rules
  have M:=CJ g D
  rw[Vu hr] at M
  refine ax.pure M.pure ?_
  simp(disch:=omega)only[↓wr,seval,wq,encI]
  refine aR.up l.length (λi T H'=>(l.take i).all (dw g)=true/\T 1=encI l/\T 2=.aJ (ag g) 0/\T 6=encI (gV g)/\T 7=gb (l0 (ao g) (l.take i))/\T 8=gi i) ⟨rfl,rfl,rfl,rfl,rfl,rfl⟩ ?_
  rintro i k T H hk ⟨b,t1,t2,t6,t7,t8⟩
  simp(disch:=omega)only[↓wr,seval,wq,oU,t1,t2,t6,t7,t8,encI]
  apply aj.dec<;>intro O
  .have a:l[i]?=some (l[i]'(by omega)):=Vq (by omega)
   have d:l[i]'(by omega)∈l:=Vw _
   have u:l.take (i+1)=l.take i ++ [l[i]'(by omega)]:=by rw[VP,a];rfl
   generalize l[i]'(by omega)=x at a d u
   have r:=L x d
   have G:=r
   unfold bS at G
   simp(disch:=omega)only[↓wr,seval,wq,t1,t2,t6,t7,t8,encI,ag,encS,Vt,a]
   refine ax.pure (NG g x r) ?_
   have f:l0 (ao g) (l.take (i+1))=(l0 (ao g) (l.take i) || (decide (x < 0) && decide ((bk (ao g) (bN x)).az < 0))):=by
    rw[u];simp[l0]
   have q:(l.take (i+1)).all (dw g)=dw g x:=by
    rw[u,Xx,b];simp
   generalize l0 (ao g) (l.take i)=P at t7 f
   simp(disch:=omega)only[↓wr,seval,wq,t1,t2,t6,t7,t8,encI,ag,encS,Vt,a]
   apply aj.split<;>intro s
   .have I:x < 0->bN x < g.ak.length:=λc=>by
     unfold dw at s
     rw[Vs (by omega)] at s
     simp at s
     unfold bN;omega
    rw[s] at q
    simp(disch:=omega)only[↓wr,seval,wq,t1,t2,t6,t7,t8,encI,ag,encS,Vt,a]
    cases P with
    | true =>
     simp(disch:=omega)only[↓wr,seval,wq,t1,t2,t6,t7,t8,encI,ag,encS,Vt,a]
     exact aE hk (by omega) ⟨q,t1,t2,t6,by rw[f];rfl,rfl⟩
    | false =>
     rw[Xy] at f
     simp(disch:=omega)only[↓wr,seval,wq,t1,t2,t6,t7,t8,encI,ag,encS,Vt,a]
     apply aj.dec<;>intro c
     .have J:=Cl (I c)
      simp(disch:=omega)only[↓wr,seval,wq,t1,t2,t6,t7,t8,encI,ag,encS,Vt,a,J]
      exact aE hk (by omega) ⟨q,t1,t2,t6,by rw[f,Wb c];rfl,rfl⟩
     .simp(disch:=omega)only[↓wr,seval,wq,t1,t2,t6,t7,t8,encI,ag,encS,Vt,a]
      exact aE hk (by omega) ⟨q,t1,t2,t6,by rw[f,decide_eq_false c];rfl,rfl⟩
   .simp(disch:=omega)only[↓wr,seval,wq,t1,t2,t6,t7,t8]
    intro p _
    refine bad p ?_
    rw[Bool.and_eq_false_iff];right
    rw[Xo]
    exact⟨x,d,by simp[s]⟩
  .rw[VG (by omega)] at b t7
   have j:dc g l=_:=Vu (by simp only[hr,b,Bool.and_self])
   have w:=KL (ao g) l aX
   rw[w] at j
   cases N:l0 (ao g) l with
   | true =>
    rw[N] at t7 j
    simp(disch:=omega)only[↓wr,seval,wq,t1,t2,t6,t7,t8]
    intro p _
    rw[j];exact j6 (x:=([],9)) (.emp _)
   | false =>
    rw[N] at t7 j w
    have y:=(fZ (ao g) l aX).1 w
    have z:∀ x∈l,bS x/\(x < 0->-1 - x < g.ak.length):=λx r=>⟨L x r,λc=>by
     have:=VU.1 b x r
     unfold dw at this
     rw[Vs (by omega)] at this
     simpa using this⟩
    simp(disch:=omega)only[↓wr,seval,wq,t1,t2,t6,t7,t8,ag,encS,encI]
    refine ax.pure (Pz g D hr).pure ?_
    simp(disch:=omega)only[↓wr,seval,wq,t1,t2,t6,t7,t8,ag,encS,encI]
    have o:=Je l (lJ g) A (λm=>by rw[Aq];exact MH g m) (λx r=>⟨(z x r).1,λh=>by simp only[lJ,Vx,fP];exact(z x r).2 h⟩)
    have t:∀ m,dW (bk (ao g) m):=λm=>iV g _ m
    have K:=wz t l aX (0,0) gm y (λx _ _=>Aq g _) (S:=lJ g) rfl
    have B:=mQ t l aX gm
    have C:=ED y
    rw[K] at o
    generalize Q:(bD (ao g) l aX).1=sp at j o B C
    unfold dW at B
    refine ax.pure o.pure ?_
    simp(disch:=omega)only[↓wr,seval,wq,t1,t2,t6,t7,t8,eK,kq]
    intro n R
    try simp(disch:=omega)only[↓wr,seval,wq,t1,t2,t6,t7,t8,eK,kq]
    apply aj.dec<;>intro U
    .simp(disch:=omega)only[↓wr,seval,wq,t1,t2,t6,t7,t8]
     rw[Vs (by simp),Vu (.inl (by omega))] at j
     intro p _
     rw[j];exact j6 (x:=([],13)) (.emp _)
    .simp(disch:=omega)only[↓wr,seval,wq,t1,t2,t6,t7,t8]
     apply aj.dec<;>intro V
     .simp(disch:=omega)only[↓wr,seval,wq,t1,t2,t6,t7,t8]
      rw[Vs (by simp),Vu (.inr (by omega))] at j
      intro p _
      rw[j];exact j6 (x:=([],13)) (.emp _)
     .rw[Vs (by simp),Vs (by omega)] at j
      simp(disch:=omega)only[↓wr,seval,wq,t1,t2,t6,t7,t8,encI,ag,encS]
      have hw:=Pe g D F g.ak.length l A z (qP y) (by have:=C (by omega);omega)
      simp only[ag,encI,encS] at hw
      refine ax.eA ((hw _).mono ?_)
      rintro v H1 ⟨E,_⟩
      simp(disch:=omega)only[↓wr,seval,wq,t1,t2,t6,t7,t8]
      intro p s
      rw[j];exact j6 (x:=(_,0)) (jd (by rw[s];exact E))
 .intro p _
  refine bad p ?_
  simp_all
def cX {κ:Type} (kv:κ->V) (m:cF κ):List (V × V × Nat):=m.map λx=>(kv x.1,x.2.1,x.2.2)
structure CZ {κ:Type} [BEq κ] (P:Program) (kt:TypeId) (kv:κ->V):Prop where
 find:∀ k e m,mG P kt (kv k) e (cX kv m)=some (gI k m)
 same:∀ k,sameKey (kv k) (kv k)=true
def lI {κ:Type} (m:cF κ) (c:Nat):Prop:=(m.map (·.2.2)).Nodup/\∀ x∈m,x.2.2 < c
def jY {κ:Type} [BEq κ] (m:cF κ) (k:κ):Option Nat:=(m.find? λx=>k == x.1).map (·.2.2)
section
variable {κ:Type} [BEq κ] [LawfulBEq κ] {kv:κ->V}
theorem mN (k:κ):∀ m:cF κ,match gI k m with
  | some i=>∃ x,m[i]?=some x/\x.1=k/\getM m k=some x.2.1/\jY m k=some x.2.2/\(cX kv m)[i]?=some (kv k,x.2.1,x.2.2)/\∀ v c,(cX kv m).set i (kv k,v,x.2.2)=cX kv (bL k v c m)/\jY (bL k v c m) k=some x.2.2/\(bL k v c m).map (·.2.2)=m.map (·.2.2)
  | none=>getM m k=none/\jY m k=none/\∀ v c,cX kv m ++ [(kv k,v,c)]=cX kv (bL k v c m)/\jY (bL k v c m) k=some c/\(bL k v c m).map (·.2.2)=m.map (·.2.2) ++ [c]
 | []=>⟨rfl,rfl,λv c=>⟨rfl,by simp[bL,jY],rfl⟩⟩
 | x :: r=>by
  have a:=mN k r
  simp only[gI]
  cases hk:k == x.1 with
  | true =>
   have b:x.1=k:=(eq_of_beq hk).symm
   exact⟨x,rfl,b,by simp[getM,hk],by simp[jY,hk],by simp[cX,b],λv c=>by simp[bL,hk,cX,jY]⟩
  | false =>
   simp only[VR,if_false]
   cases hi:gI k r with
   | some i =>
    rw[hi] at a
    obtain⟨y,h1,d,e,f,g,h⟩:=a
    refine⟨y,by simpa using h1,d,by simpa [getM,hk] using e,by simpa [jY,hk] using f,by simpa [cX] using g,λv c=>?_⟩
    obtain⟨g1,g2,g3⟩:=h v c
    exact⟨by simp only[cX] at g1 ⊢;simp[bL,hk,g1],by simpa [bL,hk,jY] using g2,by simp[bL,hk,g3]⟩
   | none =>
    rw[hi] at a
    refine⟨by simpa [getM,hk] using a.1,by simpa [jY,hk] using a.2.1,λv c=>?_⟩
    obtain⟨g1,g2,g3⟩:=a.2.2 v c
    exact⟨by simp only[cX] at g1 ⊢;simp[bL,hk,g1],by simpa [bL,hk,jY] using g2,by simp[bL,hk,g3]⟩
theorem lI.put {m:cF κ} {c:Nat} (h:lI m c) (k:κ) (v:V):lI (bL k v c m) (c+1):=by
 have f:=mN (kv:=λ_=>V.any) k m
 cases i:gI k m with
 | some j =>
  rw[i] at f
  obtain⟨y,_,_,_,_,_,n⟩:=f
  have e:=(n v c).2.2
  refine⟨by rw[e];exact h.1,λx g=>?_⟩
  have:x.2.2∈m.map (·.2.2):=by rw[<-e];exact VO.2 ⟨x,g,rfl⟩
  obtain⟨y,d,o⟩:=VO.1 this
  have:=h.2 y d
  omega
 | none =>
  rw[i] at f
  have e:=(f.2.2 v c).2.2
  refine⟨?_,λx g=>?_⟩
  .rw[e,WO]
   refine⟨h.1,by simp,λa p b l=>?_⟩
   simp at l;subst l
   obtain⟨y,d,rfl⟩:=VO.1 p
   have:=h.2 y d
   omega
  .have:x.2.2∈m.map (·.2.2) ++ [c]:=by rw[<-e];exact VO.2 ⟨x,g,rfl⟩
   rcases VM.1 this with h1 | h1
   .obtain⟨y,d,o⟩:=VO.1 h1
    have:=h.2 y d
    omega
   .simp at h1;omega
theorem lI.Tz {m:cF κ} {c:Nat} (h:lI m c) {k:κ} {b:Nat} (d:jY m k=some b) (v:V) (f:Nat):lI (bL k v f m) c:=by
 have a:=mN (kv:=λ_=>V.any) k m
 cases g:gI k m with
 | some j =>
  rw[g] at a
  obtain⟨y,_,_,_,_,_,i⟩:=a
  have e:=(i v f).2.2
  refine⟨by rw[e];exact h.1,λx l=>?_⟩
  have:x.2.2∈m.map (·.2.2):=by rw[<-e];exact VO.2 ⟨x,l,rfl⟩
  obtain⟨y,n,o⟩:=VO.1 this
  have:=h.2 y n
  omega
 | none =>
  rw[g] at a
  rw[a.2.1] at d;simp at d
omit [BEq κ] [LawfulBEq κ] in
theorem find_born (b:Nat):∀ (m:cF κ) (i:Nat) (x:κ × V × Nat),(m.map (·.2.2)).Nodup->m[i]?=some x->x.2.2=b->(cX kv m).findIdx? (λe=>e.2.2 == b)=some i
 | [],i,x,_,h,_=>by simp at h
 | y :: m,0,x,a,h,e=>by
  simp at h;subst h
  simp[cX,List.findIdx?_cons,e]
 | y :: m,i+1,x,a,h,e=>by
  simp only[VX,Wo] at a
  have h:m[i]?=some x:=by simpa using h
  have f:x∈m:=VF h
  have c:¬ y.2.2=b:=λg=>a.1 (by rw[g,<-e];exact VO.2 ⟨x,f,rfl⟩)
  have d:=find_born b m i x a.2 h e
  simp only[cX] at d
  simp[cX,List.findIdx?_cons,c,d]
variable {P:Program} {T:Env} {H:View} {kt et t ty:TypeId}
theorem Rc {K:V->View->Prop} {w:cL (T,H,K)} {x i:Operand} {z:V} {id c:Nat} {m:cF κ} {k:κ} (hm:er P t=some (kt,et)) (d:zeroV P et=some z) (hk:CZ P kt kv)
  (e:ev T x=.mp id) (hi:ev T i=kv k) (hH:H id=.map (cX kv m) c) (h:K ((getM m k).getD z) H):iO P (.lookup t x i false) ty T H K w:=by
 intro n _
 have f:=hk.find k (cX kv m).isEmpty m
 have a:=mN (kv:=kv) k m
 refine⟨(getM m k).getD z,.none,[id],?_,h⟩
 simp only[sI,cd,oper,fc,hm,d,e,hi,hH,f]
 cases b:gI k m with
 | some j =>
  rw[b] at a
  obtain⟨y,h1,o,g,p,l,_⟩:=a
  simp[l,g]
 | none =>
  rw[b] at a
  simp[a.1]
theorem Eg {z:V} {id c:Nat} {m:cF κ} {k:κ} (hm:er P t=some (kt,et)) (l:zeroV P et=some z) (hk:CZ P kt kv) (hH:H id=.map (cX kv m) c) (e:lI m c) :
  ∃ b f,en P t (.mp id) (kv k) H=some (.aY [(getM m k).getD z,fO b],.fe id (.map (cX kv (bL k ((getM m k).getD z) c m)) f),[id])/\lI (bL k ((getM m k).getD z) c m) f/\jY (bL k ((getM m k).getD z) c m) k=some b:=by
 have d:=hk.find k false m
 have a:=mN (kv:=kv) k m
 cases g:gI k m with
 | some j =>
  rw[g] at a d
  obtain⟨y,h1,p,h,n,o,i⟩:=a
  refine⟨y.2.2,c,?_,?_,?_⟩
  .simp only[en,hm,hH,d,o,hk.same k,if_true,h,VI]
   rw[(i y.2.1 c).1]
  .exact e.Tz n _ _
  .rw[h];exact(i _ c).2.1
 | none =>
  rw[g] at a d
  refine⟨c,c+1,?_,e.put k _,?_⟩
  .simp only[en,hm,hH,d,l,a.1,Option.getD_none]
   rw[(a.2.2 z c).1]
  .rw[a.1];exact(a.2.2 _ c).2.1
theorem TB {K:V->View->Prop} {w:cL (T,H,K)} {x i:Operand} {z:V} {id c:Nat} {m:cF κ} {k:κ} (hm:er P t=some (kt,et)) (d:zeroV P et=some z) (hk:CZ P kt kv)
  (e:ev T x=.mp id) (hi:ev T i=kv k) (hH:H id=.map (cX kv m) c) (f:lI m c)
  (h:∀ b a,lI (bL k ((getM m k).getD z) c m) a->jY (bL k ((getM m k).getD z) c m) k=some b->K (.aY [(getM m k).getD z,fO b]) (H.set id (.map (cX kv (bL k ((getM m k).getD z) c m)) a))):iO P (.mapEntry t x i) ty T H K w:=by
 intro n _
 obtain⟨b,a,h1,g,j⟩:=Eg (k:=k) hm d hk hH f
 refine⟨.aY [(getM m k).getD z,fO b],.fe id (.map (cX kv (bL k ((getM m k).getD z) c m)) a),[id],?_,h b a g j⟩
 simp only[sI,cd,oper,e,hi]
 exact h1
theorem TF {K:V->View->Prop} {w:cL (T,H,K)} {x s y:Operand} {id c b:Nat} {m:cF κ} {k:κ} {v:V} (i:ev T x=.mp id) (l:ev T s=fO b) (o:ev T y=v) (hH:H id=.map (cX kv m) c) (p:lI m c) (a:jY m k=some b)
  (h:∀ c0,K .any (H.set id (.map (cX kv (bL k v c0 m)) c))):iO P (.entryStore t x s y) ty T H K w:=by
 intro n _
 have d:=mN (kv:=kv) k m
 cases g:gI k m with
 | none=>rw[g] at d;rw[d.2.1] at a;simp at a
 | some j =>
  rw[g] at d
  obtain⟨z,h1,B,C,f,q,r⟩:=d
  rw[a] at f
  have e:z.2.2=b:=by simp at f;exact f.symm
  have u:=find_born (kv:=kv) b m j z p.1 h1 e
  refine⟨.any,.fe id (.map (cX kv (bL k v c m)) c),[id],?_,h c⟩
  have A:asNat (fO b)=some b:=by simp[asNat,fO]
  simp only[sI,cd,oper,i,l,o,km,A,hH,u,q]
  rw[(r v c).1]
theorem Us {z:V} {id c:Nat} {m:cF κ} {k:κ} (hm:er P t=some (kt,et)) (f:zeroV P et=some z) (hk:CZ P kt kv) (hH:H id=.map (cX kv m) c) (i:lI m c):Ho P t (.mp id) (kv k) H:=by
 refine⟨⟨_,_,hH⟩,λv obj rd he=>?_⟩
 obtain⟨b,l,h1,n,g⟩:=Eg (k:=k) hm f hk hH i
 rw[he] at h1
 simp only[Vr,Vv,bq.fe.injEq] at h1
 obtain⟨_,⟨_,rfl⟩,_⟩:=h1
 have key:∀ (a:cF κ) (c2:Nat) (H':View),H' id=.map (cX kv a) c2->fc P t (.mp id) (kv k) false H'=some ((getM a k).getD z,.none,[id]):=by
  intro a c2 H' e
  have o:=hk.find k (cX kv a).isEmpty a
  have d:=mN (kv:=kv) k a
  simp only[fc,hm,f,e,o]
  cases h:gI k a with
  | some j =>
   rw[h] at d
   obtain⟨y,h1,n,g,q,p,_⟩:=d
   simp[p,g]
  | none =>
   rw[h] at d
   simp[d.1]
 rw[key (bL k ((getM m k).getD z) c m) l _ (by simp[View.set]),key m c H hH,pT]
 simp
end
theorem F5 {P:Program} {α:Type} (x:α):bg P (pure x:Sem α)=some x:=rfl
theorem uE:∀ (N:Nat) (l:List Nat),l.Nodup->(∀ x∈l,x < N)->l.length<=N
 | 0,l,_,h=>by
  cases l with
  | nil=>simp
  | cons x l=>exact absurd (h x (by simp)) (by omega)
 | N+1,l,b,h=>by
  by_cases e:N∈l
  .have h1:=uE N (l.erase N) (b.erase N) λx a=>by
    have c:=(b.mem_erase_iff).1 a
    have:=h x c.2
    have:=c.1
    omega
   rw[List.length_erase_of_mem e] at h1
   omega
  .have:=uE N l b λx a=>by
    have:=h x a
    have:x≠N:=by rintro rfl;exact e a
    omega
   omega
def Rs:List Int:=[37,37,32,115,32,58,32,39,97,39,32,115,32,124,32,59]
def iR:ai:=⟨[⟨⟨#[39,97,39]⟩,0,0⟩],[⟨#[115]⟩],[⟨0,[0,(-1)],0⟩,⟨0,[],(-1)⟩],0⟩
theorem TR:ca Tryz.prog 44 [H8 Rs] (zt iR):=RF (by kernel_rfl)
section
variable {g:ai} {p:List Int} {T:Tb} {N:Nat}
end
section
variable {g r:ai} {p q:List Bool} {o:List Int}
end
section
variable {fit:List Int->Bool} {T b:Nat}
end
section
variable {P:Program} {T:Env} {H:View} {K:V->View->Prop} {w:cL (T,H,K)} {t t1 e ty:TypeId}
theorem NT {x:Operand} {k:Nat} (he:cK P t=some e) (a:ev T x=.emp k) (hk:K (fO 0) H):iO P (.call { callee:=.builtin .cap,args:=#[x],argTypes:=#[t] }) ty T H K w:=by
 intro n _
 refine⟨fO 0,.none,[],?_,hk⟩
 simp[sI,cd,oper,DE,he,a]
theorem Sr {s x:Operand} {k l sz bytes:Nat} {z:List V} (he:oQ P t=some (sz,bytes,z)) (g:ow P t1=false) (hi:isInt P t1=true) (h:ev T s=.emp k) (i:ev T x=fO l) (j:l≠0)
  (h1:l * bytes < aC) (m:l < aC) (hk:∀ n,H n=.dead->K (.sl n 0 l sz) (H.set n (.arr sz (List.replicate l z)))) :
  iO P (.call { callee:=.builtin .append,args:=#[s,x],argTypes:=#[t,t1] }) ty T H K w:=by
 obtain⟨e,ti,b,_,c,o,d,a,f,rfl,rfl⟩:=jT he
 intro n p
 refine⟨.sl n 0 l ti.size,.new (.arr ti.size (List.replicate l z)),[],?_,hk n p⟩
 have q:asNat (fO l)=some l:=by simp[asNat,fO]
 have key:rS P t (.emp k) (fO l) n=some (.sl n 0 l ti.size,.new (.arr ti.size (List.replicate l z)),[]):=by
  unfold rS
  rw[b,q]
  simp only[c,o,Vs j]
  rw[Vu ⟨d,a,f,h1,m⟩]
 simp[sI,cd,oper,g,hi,h,i,key]
end
def kP:SF:=⟨af [ae [bT 4 1],af [ae [aa 5 1,aF 6 .lss 5 0],aZ 6 (.region false [⟨none,[((some 7),.op (.old (.makeInterface 9 (.const (.string ⟨#[99,97,110,110,111,116,32,98,101,32,110,101,103,97,116,105,118,101]⟩))) 20)),(none,.op (.old (.panic (.tmp 7)) 0))]⟩])],af [ae [aa 8 1,aa 9 0,((some 10),.op (.old (.call { callee:=.builtin .cap,args:=#[(.tmp 9)],argTypes:=#[27] }) 3)),aa 11 0,aN 12 11,aS 13 .sub 10 12,aS 14 .sub 8 13,aa 1 14],ae [aa 15 1,aF 16 .gtr 15 0],aZ 16 (ae [aa 17 0,aa 18 0,((some 19),.op (.old (.call { callee:=.builtin .cap,args:=#[(.tmp 18)],argTypes:=#[27] }) 3)),((some 20),.op (.slice 1 (.tmp 17) none (some (.tmp 19)))),aa 21 1,((some 22),.op (.old (.call { callee:=.builtin .append,args:=#[(.tmp 20),(.tmp 21)],argTypes:=#[27,3] }) 27)),aa 23 0,aN 24 23,((some 25),.op (.slice 1 (.tmp 22) none (some (.tmp 24)))),aa 0 25])],ae [aa 26 0,aa 4 26],.ret],
 [.tmp 4],27⟩
theorem rq:aM Tryz.prog 132 []=some kP:=by kernel_rfl
def jz:SC :=
 af [ae [aS 12 .lss 11 10],bO 12 (.exit 0),.block 1 (af [ae [aL 13 1 9 11,al 14 13,aa 5 14],ae [aa 15 3,aa 16 5,aN 17 16,aS 18 .add 15 17,aa 3 18],ae [aa 19 3,aF 20 .lss 19 0],aZ 20 (.region false [⟨none,[((some 21),.op (.old (.makeInterface 9 (.const (.string ⟨#[108,101,110,32,111,117,116,32,111,102,32,114,97,110,103,101]⟩))) 20)),(none,.op (.old (.panic (.tmp 21)) 0))]⟩])]),ae [aF 22 .add 11 1,aa 11 22]]
def jy:SC :=
 af [ae [aS 28 .lss 27 26],bO 28 (.exit 2),.block 3 (af [ae [aL 29 1 25 27,al 30 29,aa 8 30],ae [aa 31 6,aa 32 8,gp 33 1 8 31 32,aa 6 33]]),ae [aF 34 .add 27 1,aa 27 34]]
def kb:SF:=⟨af [ae [bT 2 1],ae [aP 3 0],af [ae [aa 9 0,aN 10 9,aP 11 0],bR 0 jz],ae [aa 23 3,qN 24 132 [(.val (.emp 1)),(.tmp 23)],aa 6 24],af [ae [aa 25 0,aN 26 25,aP 27 0],bR 2 jy],ae [aa 35 6,aa 2 35],.ret],
 [.tmp 2],36⟩
theorem pg:aM Tryz.prog 68 []=some kb:=by kernel_rfl
theorem LN (n:Nat) (a:n<=1000000) (H:View):aw Tryz.prog 132 [.emp 1,gi n] H λr H'=>(n=0/\r=.emp 1/\H'=H)∨(0 < n/\∃ m es,H m=.dead/\r=.sl m 0 0 1/\H'=H.set m (.arr 1 es)):=by
 refine aw.of mixed rq ?_
 simp(disch:=omega)only[↓wr,seval,wq,kP]
 refine aj.dec (λh=>absurd h (by omega)) (λ_=>?_)
 simp(disch:=omega)only[↓wr,seval,wq]
 refine NT (k:=1) (e:=3) (by kernel_rfl) (by simp(disch:=omega)only[↓wr,seval,wq]) ?_
 simp(disch:=omega)only[↓wr,seval,wq]
 apply aj.dec<;>intro h
 .simp(disch:=omega)only[↓wr,seval,wq]
  refine NT (k:=1) (e:=3) (by kernel_rfl) (by simp(disch:=omega)only[↓wr,seval,wq]) ?_
  simp(disch:=omega)only[↓wr,seval,wq]
  first | rw[show cY 1 (.emp 1) none (some (.val (.int .i64 ((0:Nat):Int))))=some (.emp 1,.none,[]) from rfl] | rw[show cY 1 (.emp 1) none (some (.val (.int .i64 0)))=some (.emp 1,.none,[]) from rfl]
  simp(disch:=omega)only[↓wr,seval,wq]
  refine Sr (k:=1) (l:=n) (sz:=1) (bytes:=8) (z:=[gi 0]) (by kernel_rfl) (by kernel_rfl) (by kernel_rfl) (by simp(disch:=omega)only[↓wr,seval,wq]) (by simp(disch:=omega)only[↓wr,seval,wq];simp) (by omega) (by unfold aC;omega) (by unfold aC;omega) ?_
  intro m hm
  simp(disch:=omega)only[↓wr,seval,wq]
  first | rw[show cY 1 (.sl m 0 n 1) none (some (.val (.int .i64 ((0:Nat):Int))))=some (.sl m 0 0 1,.none,[]) by simp[cY,bound,asNat]] | rw[show cY 1 (.sl m 0 n 1) none (some (.val (.int .i64 0)))=some (.sl m 0 0 1,.none,[]) by simp[cY,bound,asNat]]
  simp(disch:=omega)only[↓wr,seval,wq]
  exact .inr ⟨by omega,m,_,hm,rfl,rfl⟩
 .simp(disch:=omega)only[↓wr,seval,wq]
  exact .inl (by omega)
def FE (H:View) (u:V) (l:List Int):Prop:=aO H u 1 (bw l)∨(l=[]/\∃ m es,u=.sl m 0 0 1/\H m=.arr 1 es)
theorem Lr {bytes:Nat} {u:V} {l xs:List Int} {H:View} {K:V->View->Prop} {w:cL (H,K)} (b:FE H u l) (f:(l.length+xs.length) * bytes < aC) (c:l.length+xs.length < aC) (k:bytes=8)
  (hk:∀ a H',FE H' a (l ++ xs)->(aO H u 1 (bw l)->aO H' a 1 (bw (l ++ xs)))->Left H H' u a->K a H'):mz 1 bytes u (bw xs) H K w:=by
 rcases b with b | ⟨rfl,m,es,rfl,hm⟩
 .exact eL b (by simp[WS,aH]) (by simpa using f) (by simpa using c) λa H' h1 g=>hk a H' (.inl (by simpa using h1)) (λ_=>by simpa using h1) g
 .cases xs with
  | nil=>exact hk _ _ (.inr ⟨rfl,m,es,rfl,hm⟩) (λh=>by simpa using h) .refl
  | cons x xs =>
   rw[sR _ _ _ _ _ _ _ _ _ _ (by simp),hm]
   refine⟨by simp[WS,aH],⟨by simp,rfl,by simpa using f,by simpa using c⟩,λn i=>hk _ _ (.inl (.inr ⟨n,by simp,by simp[View.set]⟩)) (λ_=>.inr ⟨n,by simp,by simp[View.set]⟩) λid d b=>?_⟩
   have e:id≠n:=by rintro rfl;exact d i
   have j:id≠m:=by rintro rfl;exact b rfl
   exact⟨by simp[View.set,e,j],by simp[owner,Ne.symm e]⟩
def gw:SC :=
 af [ae [aS 10 .lss 9 8],bO 10 (.exit 0),.block 1 (af [ae [aL 11 1 7 9,al 12 11,aa 5 12],af [ae [aa 13 5,aF 14 .geq 13 0],aZ 14 (af [ae [aa 15 0,aa 16 0,kW 17 16,av 18 6 17,al 19 18,aa 20 5,((some 21),.op (.cg 1 1 [(.val (.int .i64 0))] [(0,(.tmp 20))])),gp 22 1 8 19 21,kW 23 15,av 24 6 23,cy 1 24 22],.exit 1])],ae [aa 25 0,kW 26 25,av 27 4 26,al 28 27,aa 29 5,((some 30),.op (.arith .sub (.val (.val (.int .i64 (-1)))) (.tmp 29))),aL 31 4 28 30,av 32 0 31,al 33 32,aa 6 33],ae [aa 34 0,aa 35 0,kW 36 35,av 37 5 36,al 38 37,aa 39 6,((some 40),.op (.cg 1 1 [(.val (.int .i64 0))] [(0,(.tmp 39))])),gp 41 1 8 38 40,kW 42 34,av 43 5 42,cy 1 43 41],ae [aa 44 0,aa 45 0,kW 46 45,av 47 0 46,av 48 2 47,al 49 48,aa 50 6,aL 51 3 49 50,av 52 1 51,al 53 52,bf 54 197 [44,53]]]),ae [aF 55 .add 9 1,aa 9 55]]
def jV:SF:=⟨af [ae [aa 7 1,aN 8 7,aP 9 0],bR 0 gw],
 [],56⟩
theorem lO:aM Tryz.prog 197 []=some jV:=by kernel_rfl
def jf (g:ai) (r w:V):List V:=[.aW (g.au.map dq),.aW (g.ak.map λs=>[gs s]),.aW (g.rules.map aK),gi g.start,iJ (ao g),r,w]
def FW (g:ai) (b:Nat) (R W:List Int) (H:View):Prop:=∃ ur uw,bo H [(.sl b 0 1 7,7,[jf g ur uw]),(ur,1,bw R),(uw,1,bw W)]
theorem Gm (g:ai) (hg:g.Ok) (hf:g.cU) (b:Nat):∀ (f:Nat) (l:List Int),aI l->(∀ x∈l,bS x/\(x < 0->-1 - x < g.ak.length))->zV (ao g) f l->∀ (R W:List Int) (H:View),(R ++ ey g (ao g) f l).length<=100000->(W ++ dz g (ao g) f l).length<=2000000 ->
  FW g b R W H->aw Tryz.prog 197 [.ptr b 0 0,encI l] H λ_ H'=>FW g b (R ++ ey g (ao g) f l) (W ++ dz g (ao g) f l) H':=by
 intro f
 induction f using Nat.strongRecOn with
 | _ f ih =>
  intro l hl E hu R W H0 F G I
  refine aw.of mixed lO ?_
  unfold aI at hl
  simp(disch:=omega)only[↓wr,seval,wq,jV,encI]
  refine aR.up l.length (λi T H'=>FW g b (R ++ ey g (ao g) f (l.take i)) (W ++ dz g (ao g) f (l.take i)) H'/\T 0=.ptr b 0 0/\T 7=encI l/\T 8=gi l.length/\T 9=gi i) ⟨by rw[List.take_zero,tC,nC,WW,WW];exact I,rfl,rfl,rfl,rfl⟩ ?_
  rintro i k T H hk ⟨⟨J,K,u⟩,t0,t7,t8,t9⟩
  simp(disch:=omega)only[↓wr,seval,wq,gw,t0,t7,t8,t9,encI]
  apply aj.dec<;>intro hc
  .have q:l[i]?=some (l[i]'(by omega)):=Vq (by omega)
   have a:l[i]'(by omega)∈l:=Vw _
   have c:l.take (i+1)=l.take i ++ [l[i]'(by omega)]:=by rw[VP,q];rfl
   have j:=NY g f l (i+1)
   have d:=Fc g f l (i+1)
   generalize l[i]'(by omega)=x at q a c
   obtain⟨⟨ab,an⟩,L⟩:=E x a
   rw[c,iX] at j
   rw[c,fv] at d
   simp only[VQ] at F G j d
   have M:=u.is 0 rfl (by simp)
   simp(disch:=omega)only[↓wr,seval,wq,t0,t7,t8,t9,encI,Vt,q]
   apply aj.dec<;>intro D
   .rw[iF (show 0<=x from D)] at d
    simp only[Vz,VS] at d
    simp(disch:=omega)only[↓wr,seval,wq,t0,t7,t8,t9,M,jf]
    intro n s
    rw[bP]
    simp(disch:=omega)only[↓wr,seval,wq,t0,t7,t8,t9]
    refine dp ((u.at 2 (by simp)).fresh s) (by simp[aH]) (by unfold aC;simp;omega) (by unfold aC;simp;omega) ?_
    intro w H1 e _
    simp only[WA,WB] at e
    have t:=e.is 1 rfl (by simp)
    have c1:=e.head.cells
    have N:=e.head.gv
    simp(disch:=omega)only[↓wr,seval,wq,t0,t7,t8,t9,t,jf,c1,N]
    have z:=(e.at 1 (by simp)).put (es':=[jf g J w]) rfl rfl
    simp only[WA,WB] at z
    refine aE hk (by omega) ⟨⟨J,w,?_⟩,t0,t7,t8,rfl⟩
    rw[c,iX,fv,oV (show 0<=x from D),iF (show 0<=x from D),WW]
    have O:=z.perm (.cons _ (.swap _ _ _))
    simpa [jf] using O
   .obtain⟨f,rfl⟩:∃ f',f=f'+1:=by
     cases f with
     | zero=>have:=zB hu x a;omega
     | succ f=>exact⟨f,rfl⟩
    obtain⟨Q,Y⟩:=hu x a (by omega)
    obtain⟨Z,r,hi,hr,o,S,_⟩:=sQ (f:=f) Q (by push_cast at Y;exact Y)
    have A:=yS (P:=ao g) (m:=bN x) (by rw[fP];have:=L (by omega);unfold bN;omega)
    have B:=VF hr
    have aq:Z < g.rules.length:=(VC.1 hr).1
    have C:=hg.az r B
    rw[nO (by omega),o,hi] at j
    rw[jK (by omega),o] at d
    simp only[Vz] at j
    generalize U:bk (ao g) (bN x)=p at A hi o
    simp(disch:=omega)only[↓wr,seval,wq,t0,t7,t8,t9,M,jf]
    simp(disch:=omega)only[↓wr,seval,wq,t0,t7,t8,t9,M,jf,A,bU,hi]
    intro n s
    rw[bP]
    simp(disch:=omega)only[↓wr,seval,wq,t0,t7,t8,t9]
    refine dp ((u.at 1 (by simp)).fresh s) (by simp[aH]) (by unfold aC;simp;omega) (by unfold aC;simp;omega) ?_
    intro w H1 e _
    simp only[WA,WB] at e
    have t:=e.is 1 rfl (by simp)
    have c1:=e.head.cells
    have N:=e.head.gv
    simp(disch:=omega)only[↓wr,seval,wq,t0,t7,t8,t9,t,jf,c1,N,aK,Vt,hr,encI]
    have z:=(e.at 1 (by simp)).put (es':=[jf g w K]) rfl rfl
    simp only[WA,WB] at z
    have h:=ih f (by omega) r.right C.2.2.1 (λy hy=>⟨C.2.2.2 y hy,λE=>hf.neg B hy E⟩) S (R ++ ey g (ao g) (f+1) (l.take i) ++ [(Z:Int)]) (W ++ dz g (ao g) (f+1) (l.take i)) _
     (by simp only[VQ,Vz,VS];omega) (by simp only[VQ];omega) ⟨w,K,by simpa using z⟩
    simp only[jf,encI] at h
    refine ax.eA (h.mono ?_)
    rintro v H2 ⟨V,X,O⟩
    simp(disch:=omega)only[↓wr,seval,wq,t0,t7,t8,t9]
    refine aE hk (by omega) ⟨⟨V,X,?_⟩,t0,t7,t8,rfl⟩
    rw[c,iX,fv,nO (by omega),jK (by omega),U,hi,<-hi,o,hi]
    simpa using O
  .rw[VG (by omega)] at u
   simp(disch:=omega)only[↓wr,seval,wq,t0,t7,t8,t9]
   exact⟨J,K,u⟩
def x8 (H:View) (u:V) (l:List Int):Prop:=u=encI l∨∃ (m:Nat) (x:Int),l=[x]/\x < 0/\u=.sl m 0 1 1/\H m=.arr 1 [[gi x]]
theorem x8.lY {H:View} {u:V} {l:List Int} (h:x8 H u l):cn H u (encI l):=by
 rcases h with rfl | ⟨m,x,rfl,_,rfl,hm⟩
 .exact cn.tree (bI l)
 .exact BU (l:=[x]) hm rfl
theorem x8.keep {H H':View} {u:V} {l:List Int} (h:x8 H u l) (hk:∀ id,H id≠.dead->H' id=H id):x8 H' u l:=by
 rcases h with rfl | ⟨m,x,rfl,a,rfl,hm⟩
 .exact .inl rfl
 .exact .inr ⟨m,x,rfl,a,rfl,by rw[hk m (by rw[hm];simp)];exact hm⟩
theorem FX (g:ai) (z:g.Ok) (A:g.cU) (b:Nat) (f:Nat) (l:List Int) (S:aI l) (t:∀ x∈l,bS x/\(x < 0->-1 - x < g.ak.length)) (hu:zV (ao g) f l) (R W:List Int) (H:View) (c:(R ++ ey g (ao g) f l).length<=100000) (d:(W ++ dz g (ao g) f l).length<=2000000)
  (hw:FW g b R W H) (u:V) (hi:x8 H u l):aw Tryz.prog 197 [.ptr b 0 0,u] H λ_ H'=>FW g b (R ++ ey g (ao g) f l) (W ++ dz g (ao g) f l) H':=by
 rcases hi with rfl | ⟨m,x,rfl,U,rfl,hm⟩
 .exact Gm g z A b f l S t hu R W H c d hw
 .obtain⟨⟨X,Y⟩,B⟩:=t x (by simp)
  refine aw.of mixed lO ?_
  simp(disch:=omega)only[↓wr,seval,wq,jV]
  refine aR.up 1 (λi T H'=>((i=0/\H'=H)∨(i=1/\FW g b (R ++ ey g (ao g) f [x]) (W ++ dz g (ao g) f [x]) H'))/\T 0=.ptr b 0 0/\T 7=.sl m 0 1 1/\T 8=gi 1/\T 9=gi i) ⟨.inl ⟨rfl,rfl⟩,rfl,rfl,rfl,rfl⟩ ?_
  rintro i k T H1 hk ⟨Z,t0,t7,t8,t9⟩
  rcases Z with ⟨rfl,rfl⟩ | ⟨rfl,w⟩
  .obtain⟨ur,J,w⟩:=hw
   have K:=w.is 0 rfl (by simp)
   simp(disch:=omega)only[↓wr,↓reduceIte,wq,Nat.reduceEqDiff,Nat.reduceAdd,Nat.reduceLT,Nat.reduceLeDiff,Int.reduceNeg,Int.reduceToNat,reduceCtorEq,gw,t0,t7,t8,t9,hm]
   refine aj.dec (λ_=>?_) (λh=>absurd h (by decide))
   simp(disch:=omega)only[↓wr,seval,wq,t0,t7,t8,t9,hm]
   refine aj.dec (λh=>absurd h (by omega)) (λ_=>?_)
   obtain⟨f,rfl⟩:∃ f',f=f'+1:=by
    cases f with
    | zero=>have:=zB hu x (by simp);omega
    | succ f=>exact⟨f,rfl⟩
   obtain⟨C,L⟩:=hu x (by simp) (by omega)
   obtain⟨M,r,hi,hr,e,D,_⟩:=sQ (f:=f) C (by push_cast at L;exact L)
   have j:=yS (P:=ao g) (m:=bN x) (by rw[fP];have:=B (by omega);unfold bN;omega)
   have o:=VF hr
   have ab:M < g.rules.length:=(VC.1 hr).1
   have q:=z.az r o
   rw[nO (by omega),e,hi] at c ⊢
   rw[jK (by omega),e] at d ⊢
   simp only[VQ,Vz] at c d
   generalize an:bk (ao g) (bN x)=p at j hi e
   simp(disch:=omega)only[↓wr,seval,wq,t0,t7,t8,t9,K,jf]
   simp(disch:=omega)only[↓wr,seval,wq,t0,t7,t8,t9,K,jf,j,bU,hi]
   intro n E
   rw[bP]
   simp(disch:=omega)only[↓wr,seval,wq,t0,t7,t8,t9]
   refine dp ((w.at 1 (by simp)).fresh E) (by simp[aH]) (by unfold aC;simp;omega) (by unfold aC;simp;omega) ?_
   intro N H1 s _
   simp only[WA,WB] at s
   have F:=s.is 1 rfl (by simp)
   have c1:=s.head.cells
   have k1:=s.head.gv
   simp(disch:=omega)only[↓wr,seval,wq,t0,t7,t8,t9,F,jf,c1,k1,aK,Vt,hr,encI]
   have O:=(s.at 1 (by simp)).put (es':=[jf g N J]) rfl rfl
   simp only[WA,WB] at O
   have a:=Gm g z A b f r.right q.2.2.1 (λy Q=>⟨q.2.2.2 y Q,λt=>A.neg o Q t⟩) D (R ++ [(M:Int)]) W _
    (by simp only[VQ,Vz,VS];omega) (by simp only[VQ];omega) ⟨N,J,by simpa using O⟩
   simp only[jf,encI] at a
   refine ax.eA (a.mono ?_)
   rintro v H2 ⟨G,I,o3⟩
   simp(disch:=omega)only[↓wr,seval,wq,t0,t7,t8,t9]
   exact⟨0,by omega,1,by omega,.inr ⟨rfl,G,I,by simpa using o3⟩,t0,t7,t8,rfl⟩
  .simp(disch:=omega)only[↓wr,↓reduceIte,wq,Nat.reduceEqDiff,Nat.reduceAdd,Nat.reduceLT,Nat.reduceLeDiff,Int.reduceNeg,Int.reduceToNat,reduceCtorEq,gw,t0,t7,t8,t9]
   refine aj.dec (λh=>absurd h (by decide)) (λ_=>?_)
   simp(disch:=omega)only[↓wr,seval,wq,t0,t7,t8,t9]
   exact w
end Gv
