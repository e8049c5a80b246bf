/-
  Part 16 of the proof: what the machine does and what the functions answer.
  Conditions: those that each lemma names.
-/
import Derived.Test.YtiophifnkakjgaaGreatSGzB9O
set_option linter.unusedSimpArgs false
set_option linter.unusedVariables false
set_option maxRecDepth 100000
set_option maxHeartbeats 20000000
namespace Gv
open Go Go.Proofs
abbrev rl (g:ai) (a:List aQ) (q:Nat) (us uf:V):List V:=[V.aW (g.au.map dq),.aW (g.ak.map λs=>[gs s]),.aW (g.rules.map aK),gi g.start,b4 a,.mp q,us,uf]
def tK (H:View) (u:V) (l:List Int):Prop:=u=encI l∨∃ n x d,u=.sl n d l.length 1/\H n=.arr 1 [[gi x]]/\d<=1/\l=[x].drop d
theorem tK.lY {H:View} {u:V} {l:List Int} (h:tK H u l):cn H u (encI l):=by
 rcases h with rfl | ⟨n,x,d,rfl,c,f,a⟩
 .exact .tree (bI l)
 .have g:l.length=1 - d:=by rw[a];simp
  have:=cn.sl (off:=d) (len:=l.length) (esz:=1) c (by simp;omega) (by intro e he v b;simp at he;subst he;simp at b;subst b;exact .val _)
  rw[show (List.drop d [[gi x]]).take l.length=bw l by
   rw[a]
   match d,f with
   | 0,_=>rfl
   | 1,_=>rfl] at this
  exact this
theorem tK.keep {H H':View} {u:V} {l:List Int} (h:tK H u l) (hk:∀ id,H id≠.dead->H' id=H id):tK H' u l:=by
 rcases h with rfl | ⟨n,x,d,h1,a,b,c⟩
 .exact .inl rfl
 .exact .inr ⟨n,x,d,h1,by rw[hk n (by rw[a];simp)];exact a,b,c⟩
def od:SF:=⟨af [ae [cE 3 1,bT 4 1],af [ae [av 5 0 3,al 6 5,aF 7 .lss 6 0],aZ 7 (af [ae [aa 8 0,kW 9 8,av 10 0 9,av 11 3 10,al 12 11,((some 13),.op (.arith .sub (.val (.val (.int .i64 (-1)))) (.tmp 12))),((some 14),.op (.cg 1 1 [(.val (.int .i64 0))] [(0,(.tmp 13))])),av 15 1 3,al 16 15,((some 17),.op (.slice 1 (.tmp 14) (some (.tmp 16)) none)),aa 4 17],.ret])],ae [aa 18 0,kW 19 18,av 20 0 19,av 21 2 20,al 22 21,av 23 0 3,al 24 23,aL 25 3 22 24,av 26 1 25,al 27 26,av 28 1 3,al 29 28,((some 30),.op (.slice 1 (.tmp 27) (some (.tmp 29)) none)),aa 4 30],.ret],
 [.tmp 4],31⟩
theorem tb:aM Tryz.prog 127 [3]=some od:=by kernel_rfl
def oI:SF:=⟨af [ae [cE 3 1],af [.zE (212,7,9) [] [⟨none,[aa 4 0,kW 5 4,av 6 5 5,al 7 6,av 8 0 3,bb 9 3 8,((some 10),.op (.old (.lookup 212 (.tmp 7) (.tmp 9) false) 3)),aF 11 .add 10 1,((some 12),.op (.old (.mapEntry 212 (.tmp 7) (.tmp 9)) 0)),dJ 13 1 12,(none,.op (.old (.entryStore 212 (.tmp 7) (.tmp 13) (.tmp 11)) 0))]⟩],ae [aa 14 0,kW 15 14,av 16 5 15,al 17 16,av 18 0 3,bb 19 3 18,((some 20),.op (.old (.lookup 212 (.tmp 17) (.tmp 19) false) 3)),aF 21 .gtr 20 1],aZ 21 (.ret)],af [ae [aa 22 0,kW 23 22,av 24 7 23,al 25 24,av 26 0 3,av 27 0 26,al 28 27,aL 29 1 25 28,al 30 29,aF 31 .lss 30 0],aZ 31 (ae [aa 32 0,kW 33 32,av 34 7 33,al 35 34,av 36 0 3,av 37 0 36,al 38 37,aa 39 0,kW 40 39,av 41 6 40,al 42 41,aN 43 42,aL 44 1 35 38,cy 1 44 43])],ae [aa 45 0,aa 46 0,kW 47 46,av 48 6 47,al 49 48,bb 50 5 3,((some 51),.op (.cg 1 5 [(.val (.int .i64 0)),(.val (.int .i64 0)),(.val (.int .i64 0)),(.emp 1),(.emp 1)] [(0,(.tmp 50))])),gp 52 5 72 49 51,kW 53 45,av 54 6 53,cy 1 54 52]],
 [],55⟩
theorem td:aM Tryz.prog 125 [3,100000]=some oI:=by kernel_rfl
theorem Kg (g:ai) (o:bS (-1 - g.start)) (a:List aQ) (q:Nat) (us p:V) (b:Nat) (H:View) (j:H b=.arr 8 [rl g a q us p]) (x:aG) (s:cD g x) :
  aw Tryz.prog 127 [.ptr b 0 0,.agg (bQ x)] H λr H'=>tK H' r (eT g x)/\bZ H H' r:=by
 obtain⟨⟨v,w⟩,y,c⟩:=s
 unfold bS at o
 refine aw.of mixed tb ?_
 simp(disch:=omega)only[↓wr,seval,wq,od,bQ]
 obtain⟨d,f⟩:∃ d:Nat,x.dot=d:=⟨x.dot.toNat,by omega⟩
 unfold eT
 unfold bV at c ⊢
 rw[f] at c ⊢
 rw[V2]
 apply aj.dec<;>intro h1
 .rw[Vu (by omega)] at c ⊢
  simp at c
  simp(disch:=omega)only[↓wr,seval,wq,bQ,j,f]
  intro n t
  simp(disch:=omega)only[↓wr,seval,wq,bQ,f,oC (sz:=1) (id:=n) (off:=0) (k:=1) (m:=d) (by omega)]
  refine⟨.inr ⟨n,-1 - g.start,d,?_,by simp[View.set],by omega,rfl⟩,λid h=>?_⟩
  .simp
  .have e:¬ id=n:=by rintro rfl;exact h t
   exact⟨by simp[View.set,e],by simp[owner,Ne.symm e]⟩
 .rw[Vs (by omega)] at c ⊢
  have u:g.rules[x.az.toNat]?=some (bY g x.az):=by unfold bY;exact getD_some (by omega)
  have i:=Cj (l:=(bY g x.az).right) (k:=d) (by omega)
  simp(disch:=omega)only[↓wr,seval,wq,bQ,j,f,aK,encI,Vt,u,VE,i]
  exact⟨.inl rfl,λ_ _=>⟨rfl,by simp[owner]⟩⟩
def FB (m:cF wT) (l:List bG) (B:Nat):Prop:=∀ k:wT,∃ n:Nat,(getM m k).getD (gi 0)=gi n/\n<=B/\(n=0↔∀ x∈l,ir x≠k)
def eC (a:List aQ) (l:List bG):List Int:=(List.range a.length).map λ(i:Nat)=>fX l i 0
structure UJ (H:View) (b:Nat) (g:ai) (a:List aQ) (l:List bG) (B:Nat) (q:Nat) (us uf:V) (S:List s8) (m:cF wT) (c:Nat) (K:List dM):Prop where
 own:bo H ((us,5,S.map iM) :: (uf,1,bw (eC a l)) :: (.sl b 0 1 8,8,[rl g a q us uf]) :: K)
 map:H q=.map (cX sP m) c
 born:lI m c
 seen:FB m l B
 is:S.map s8.n=l
 ok:∀ y∈S,y.Ok
def eQ (H:View) (b:Nat) (g:ai) (a:List aQ) (l:List bG) (B:Nat) (K:List dM):Prop:=∃ q us uf S m c,UJ H b g a l B q us uf S m c K
theorem vW (i:Int):∀ (l:List bG) (n:Nat),fX l i n < 0->fX l i n = -1
 | [],_,_=>rfl
 | x :: l,n,h=>by
  rw[fX] at h ⊢
  split
  .rename_i e;rw[Vu e] at h;omega
  .rename_i e;rw[Vs e] at h;exact vW i l (n+1) h
theorem DS (i:Int):∀ (l:List bG) (n:Nat),fX l i n < (n+l.length:Nat)
 | [],n=>by rw[fX];omega
 | x :: l,n=>by
  rw[fX]
  split
  .simp only[Vz];omega
  .have:=DS i l (n+1)
   simp only[Vz];omega
theorem Hr {l:List bG} {x:bG} : l.any (rU x)=true↔∃ y∈l,ir y=ir x:=by
 rw[W5]
 refine⟨λ⟨y,a,h⟩=>⟨y,a,?_⟩,λ⟨y,a,h⟩=>⟨y,a,?_⟩⟩
 .rw[<-D6,Wn] at h;exact h.symm
 .rw[<-D6,Wn];exact h.symm
theorem FB.put {m:cF wT} {l:List bG} {B c c0:Nat} (h:FB m l B) (x:bG) {n:Nat} (g:(getM m (ir x)).getD (gi 0)=gi n) (v:V):FB (bL (ir x) (gi (n+1:Nat)) c0 (bL (ir x) v c m)) (ko l x) (B+1):=by
 intro k
 obtain⟨j,h1,p,i⟩:=h k
 rw[pT]
 have hm:∀ z,z∈ko l x↔z∈l∨(z=x/\l.any (rU x)=false):=λz=>by
  unfold ko
  split
  .rename_i e;rw[e];simp
  .rename_i e;simp only[Bool.not_eq_true] at e;rw[e];simp
 by_cases e:k=ir x
 .subst e
  refine⟨n+1,by simp,?_,⟨λe=>by omega,λe=>?_⟩⟩
  .rw[g] at h1
   simp at h1
   omega
  .exfalso
   by_cases d:l.any (rU x)=true
   .obtain⟨y,o,hk⟩:=Hr.1 d
    exact e y ((hm y).2 (.inl o)) hk
   .exact e x ((hm x).2 (.inr ⟨rfl,by simpa using d⟩)) rfl
 .have f:(k == ir x)=false:=by simpa using e
  refine⟨j,?_,by omega,i.trans ⟨λb z a=>?_,λb z a=>b z ((hm z).2 (.inl a))⟩⟩
  .rw[f]
   simp only[VR,if_false]
   rw[pT,f]
   simpa using h1
  .rcases (hm z).1 a with a | ⟨rfl,_⟩
   .exact b z a
   .exact Ne.symm e
theorem Lt {a:List aQ} {l:List bG} {x:bG} : eC a (l ++ [x])=if fX l x.st 0 < 0 then (eC a l).set x.st l.length else eC a l:=by
 unfold eC
 apply List.ext_getElem?
 intro i
 rw[Vt]
 by_cases hi:i < a.length
 .rw[WM hi,VE,Ch,Wc]
  split
  .rename_i b
   by_cases e:x.st=i
   .subst e
    rw[Vu rfl,Vu b,List.getElem?_set_self (by simpa using hi)]
   .rw[Vs (by omega)]
    split
    .rw[List.getElem?_set_ne e,Vt,WM hi,VE,vW _ _ _ b]
    .rw[Vt,WM hi,VE,vW _ _ _ b]
  .rename_i c
   split
   .rename_i d
    have e:x.st≠i:=by rintro rfl;exact c d
    rw[List.getElem?_set_ne e,Vt,WM hi,VE]
   .rw[Vt,WM hi,VE]
 .rw[V0 (by simpa using hi)]
  split
  .rw[V0 (by simpa using hi)];rfl
  .rw[V0 (by simpa using hi)];rfl
theorem OQ {H:View} {L:List dM} (h:bo H L) {q c:Nat} {es:List (V × V × Nat)} (a:H q=.map es c) {n k sz:Nat} {xs:List (List V)} (hm:(.sl n 0 k sz,sz,xs)∈L):n≠q:=by
 rintro rfl
 exact h.Ft a _ hm rfl
theorem Dz (g:ai) (a:List aQ) (b:Nat) (l:List bG) (B:Nat) (hB:B < 1000000000000) (hl:l.length<=90000) (x:s8) (hx:x.Ok) (ab:x.n.st < a.length) (K:List dM) (H:View) (hW:eQ H b g a l B K) :
  aw Tryz.prog 125 [.ptr b 0 0,.agg (iM x)] H λ_ H'=>eQ H' b g a (ko l x.n) (B+1) K:=by
 obtain⟨q,us,uf,S,m,c,w⟩:=hW
 have D:er Tryz.prog 212=some (218,3):=by kernel_rfl
 have hz:zeroV Tryz.prog 3=some (gi 0):=by kernel_rfl
 have j:=PY
 have O:=Tf hx
 obtain⟨⟨P,an,_⟩,⟨Q,aq,_⟩⟩:=And.intro hx.a.gv hx.b.gv
 simp only[iM] at O
 obtain⟨n,d,bl,ar⟩:=w.seen (ir x.n)
 have hb:=w.own.is 2 rfl (by simp)
 have R:=w.map
 have T:¬ b=q:=λe=>by rw[e,R] at hb;simp at hb
 refine aw.of mixed td ?_
 simp(disch:=omega)only[↓wr,seval,wq,oI,iM,P,an,Q,aq,hb]
 refine Rc (kv:=sP) (kt:=218) (et:=3) (z:=gi 0) D hz j (id:=q) (c:=c) (m:=m) (k:=ir x.n) (by first | rfl | simp(disch:=omega)only[↓wr,seval,wq]) (by first | rfl | (simp(disch:=omega)only[↓wr,seval,wq];rfl)) R ?_
 rw[d]
 simp(disch:=omega)only[↓wr,seval,wq]
 refine TB (kv:=sP) (kt:=218) (et:=3) (z:=gi 0) D hz j (id:=q) (c:=c) (m:=m) (k:=ir x.n) (by first | rfl | simp(disch:=omega)only[↓wr,seval,wq]) (by first | rfl | (simp(disch:=omega)only[↓wr,seval,wq];rfl)) R w.born λb1 p J L=>?_
 rw[d] at J L ⊢
 simp(disch:=omega)only[↓wr,seval,wq]
 have ek:V.val (.int .i64 ((n:Int)+1))=gi (n+1:Nat):=by simp
 refine TF (kv:=sP) (id:=q) (c:=p) (b:=b1) (m:=bL (ir x.n) (gi n) c m) (k:=ir x.n) (v:=gi (n+1:Nat)) (by first | rfl | simp(disch:=omega)only[↓wr,seval,wq]) (by first | rfl | simp(disch:=omega)only[↓wr,seval,wq]) (by first | exact ek | (simp(disch:=omega)only[↓wr,seval,wq];exact ek)) (by simp[View.set]) J L λc0=>?_
 simp(disch:=omega)only[↓wr,seval,wq]
 refine⟨Us (kv:=sP) (k:=ir x.n) D hz j R w.born,?_⟩
 rw[set_set]
 have r:=w.seen.put (c:=c) (c0:=c0) x.n d (gi n)
 have M:=J.Tz L (gi (n+1:Nat)) c0
 have G:getM (bL (ir x.n) (gi (n+1:Nat)) c0 (bL (ir x.n) (gi n) c m)) (ir x.n)=some (gi (n+1:Nat)):=by rw[pT];simp
 generalize bL (ir x.n) (gi (n+1:Nat)) c0 (bL (ir x.n) (gi n) c m)=m2 at r M G ⊢
 have s:=w.own.A9 R (o:=.map (cX sP m2) p)
 have i:(H.set q (.map (cX sP m2) p)) q=.map (cX sP m2) p:=by simp[View.set]
 generalize View.set H q (.map (cX sP m2) p)=H2 at s i ⊢
 have E:=s.is 2 rfl (by simp)
 simp only[Vs T,hb]
 simp(disch:=omega)only[↓wr,seval,wq,E]
 refine Rc (kv:=sP) (kt:=218) (et:=3) (z:=gi 0) D hz j (id:=q) (c:=p) (m:=m2) (k:=ir x.n) (by first | rfl | simp(disch:=omega)only[↓wr,seval,wq]) (by first | rfl | (simp(disch:=omega)only[↓wr,seval,wq];rfl)) i ?_
 rw[G,VI]
 simp(disch:=omega)only[↓wr,seval,wq]
 have I:l.any (rU x.n)=true↔¬ n=0:=by
  rw[Hr,ar]
  constructor
  .rintro⟨y,C,e⟩ h;exact h y C e
  .intro h
   refine WL λU=>h λy C e=>U ⟨y,C,e⟩
 apply aj.dec<;>intro h1
 .simp(disch:=omega)only[↓wr,seval,wq]
  have t:ko l x.n=l:=Vu (I.2 (by omega))
  rw[t] at r ⊢
  exact⟨q,us,uf,S,m2,p,s,i,M,r,w.is,w.ok⟩
 have t:ko l x.n=l ++ [x.n]:=Vs (λe=>by have:=I.1 e;omega)
 rw[t] at r ⊢
 have hlen:S.length=l.length:=by rw[<-w.is,Vx]
 have u:(eC a l).length=a.length:=by simp[eC]
 obtain⟨N,W,hF⟩:=(s.own 1 rfl).sl (by simp[u];omega)
 rw[Vx,u] at W
 subst W
 have X:(bw (eC a l)).getD x.n.st []=[gi (fX l x.n.st 0)]:=by
  rw[bw,Vp,Vt,eC,Vt,WM ab];rfl
 have bn:=DS x.n.st l 0
 have f:=Lt (a:=a) (l:=l) (x:=x.n)
 simp(disch:=omega)only[↓wr,seval,wq,E,hF,X,iM]
 refine⟨by omega,by simp[u];omega,?_⟩
 have a1:ct us=some S.length:=by rw[(s.own 0 rfl).len,Vx]
 apply aj.dec<;>intro U
 focus
  rw[Vu U] at f
  simp(disch:=omega)only[↓wr,seval,wq,E,hF,X,iM,a1]
  refine⟨by omega,by simp[u];omega,?_⟩
  have Y:¬ b=N:=s.Km 2 1 rfl rfl (by decide)
  have F:=((s.at 1 (by simp)).put (es':=bw ((eC a l).set x.n.st l.length)) (by simp) (by simp[u]))
  rw[<-f] at F
  have A:(H2.set N (.arr 1 (bw (eC a (l ++ [x.n]))))) q=.map (cX sP m2) p:=by
   have:=OQ s i (VL _ (Xh ..))
   simp[View.set,Ne.symm this,i]
  rw[hlen,show (bw (eC a l)).set x.n.st [gi (l.length:Int)]=bw (eC a (l ++ [x.n])) by rw[f];exact Xm.symm]
  simp only[List.getElem_cons_succ,List.getElem_cons_zero,WA,WB] at F
  generalize View.set H2 N (.arr 1 (bw (eC a (l ++ [x.n]))))=H3 at F A ⊢
  replace F:=F.perm (.swap _ _ _)
  simp only[Vs Y,E]
 rotate_left
 focus
  rw[Vs U] at f
  simp(disch:=omega)only[↓wr,seval,wq]
  rw[<-f] at s
  have F:=s
  have A:=i
  clear s i
  generalize H2=H3 at F A ⊢
 all_goals (
  have Z:=F.is 2 rfl (by simp)
  simp(disch:=omega)only[↓wr,seval,wq,Z,iM,P,Q]
  intro n1 d
  have br:¬ b=n1:=by rintro rfl;rw[Z] at d;simp at d
  have a6:¬ q=n1:=by rintro rfl;rw[A] at d;simp at d
  have o4:=F.fresh (o:=.arr 5 [[gi x.n.st,gi x.n.it.az,gi x.n.it.dot,x.a,x.b]]) d
  simp(disch:=omega)only[↓wr,seval,wq,bP]
  refine dp o4 O (by unfold aC;simp;omega) (by unfold aC;simp;omega) ?_
  intro u5 H5 o5 l5
  have a7:=o5.is 2 rfl (by simp)
  have a8:H5 q=.map (cX sP m2) p:=l5.map (o4.own 0 rfl) (by simp[View.set,a6,A])
  have cu:=(o5.own 0 rfl).cells
  have ku:=(o5.own 0 rfl).gv
  simp(disch:=omega)only[↓wr,seval,wq,a7,cu,ku]
  have o6:=((o5.at 2 (by simp)).put (es':=[rl g a q u5 (.sl N 0 a.length 1)]) rfl rfl)
  have bd:(H5.set b (.arr 8 [rl g a q u5 (.sl N 0 a.length 1)])) q=.map (cX sP m2) p:=by
   simp[View.set,Ne.symm T,a8]
  simp only[List.getElem_cons_succ,List.getElem_cons_zero,WA,WB] at o6
  refine⟨q,u5,.sl N 0 a.length 1,S ++ [x],m2,p,?_,bd,M,r,by rw[VW,w.is];rfl,λy C=>?_⟩
  .rw[VW]
   exact o6.perm (List.Perm.trans (.swap _ _ _) (.cons _ (.swap _ _ _)))
  .rcases VM.1 C with C | C
   .exact w.ok y C
   .simp at C;subst C;exact hx)
theorem cn.two {H:View} {q:Nat} {v1 v2 t1 t2:V} (b:H q=.arr 1 [[v1],[v2]]) (h1:cn H v1 t1) (c:cn H v2 t2):cn H (.sl q 0 2 1) (.aW [[t1],[t2]]):=by
 rintro h rfl
 refine .sl q 0 2 1 1 [[v1],[v2]] [[t1],[t2]] b (by simp) rfl (λi hi=>?_) (λi j hi a=>?_)
 .match i,hi with
  | 0,_=>rfl
  | 1,_=>rfl
 .match i,hi with
  | 0,_ =>
   have:j=0:=by simp at a;omega
   subst this
   exact h1 h rfl
  | 1,_ =>
   have:j=0:=by simp at a;omega
   subst this
   exact c h rfl
theorem rQ (x y:List Int) (a:x.length+y.length<=1000000):ca Tryz.prog 68 [.aW [[encI x],[encI y]]] (encI (x ++ y)):=by
 have:=MK [x,y] (by simp;omega) (by simp)
 simpa using this
theorem dI.Rm {g:ai} {a:List aQ} (b:dI g a) (d:a.length<=300):∀ s∈a,aI s.b3/\∀ e∈s.b3,bS e.sym/\bS e.to:=λs c=>⟨by have:=b.ok.b3 s c;unfold aI;omega,λe he=>by
 have h1:=b.ok.sym s c e he
 have f:=b.ok.to s c e he
 unfold bS;omega⟩
theorem eQ.up {H:View} {b:Nat} {g:ai} {a:List aQ} {l:List bG} {B B':Nat} {K:List dM} (h:eQ H b g a l B K) (f:B<=B'):eQ H b g a l B' K:=by
 obtain⟨q,us,d,S,m,c,w⟩:=h
 exact⟨q,us,d,S,m,c,w.own,w.map,w.born,λk=>by
  obtain⟨n,h1,i,e⟩:=w.seen k
  exact⟨n,h1,by omega,e⟩,w.is,w.ok⟩
theorem eQ.fresh {H:View} {b:Nat} {g:ai} {a:List aQ} {l:List bG} {B:Nat} {K:List dM} (h:eQ H b g a l B K) {n:Nat} (d:H n=.dead) {o:c7} : eQ (H.set n o) b g a l B K:=by
 obtain⟨q,us,e,S,m,c,w⟩:=h
 refine⟨q,us,e,S,m,c,w.own.fresh d,?_,w.born,w.seen,w.is,w.ok⟩
 have:¬ q=n:=by rintro rfl;have:=w.map;rw[d] at this;simp at this
 simp[View.set,this,w.map]
theorem eQ.stay {H H':View} {b:Nat} {g:ai} {a:List aQ} {l:List bG} {B:Nat} {K:List dM} (h:eQ H b g a l B K) (hk:∀ id,H id≠.dead->H' id=H id):eQ H' b g a l B K:=by
 obtain⟨q,us,d,S,m,c,w⟩:=h
 exact⟨q,us,d,S,m,c,w.own.stay hk,by rw[hk q (by rw[w.map];simp)];exact w.map,w.born,w.seen,w.is,w.ok⟩
theorem By {α:Type} {x y z e:α} {K:List α} : (x :: y :: z :: e :: K).Perm (e :: x :: y :: z :: K):=Xt (l₁:=[x,y,z])
theorem eQ.drop {H:View} {b:Nat} {g:ai} {a:List aQ} {l:List bG} {B:Nat} {e:dM} {K:List dM} (h:eQ H b g a l B (e :: K)):eQ H b g a l B K:=by
 obtain⟨q,us,d,S,m,c,w⟩:=h
 exact⟨q,us,d,S,m,c,(w.own.perm By).tail,w.map,w.born,w.seen,w.is,w.ok⟩
theorem eQ.add {H:View} {b:Nat} {g:ai} {a:List aQ} {l:List bG} {B:Nat} {K:List dM} (h:eQ H b g a l B K) {H':View} {u:V} {sz:Nat} {es:List (List V)} (e:aO H' u sz es) (d:bZ H H' u):eQ H' b g a l B ((u,sz,es) :: K):=by
 obtain⟨q,us,f,S,m,c,w⟩:=h
 exact⟨q,us,f,S,m,c,(w.own.Dc e d).perm By.symm,by rw[(d q (by rw[w.map];simp)).1];exact w.map,w.born,w.seen,w.is,w.ok⟩
theorem eQ.box {H:View} {b:Nat} {g:ai} {a:List aQ} {l:List bG} {B:Nat} {K:List dM} (h:eQ H b g a l B K):∃ q us d,H b=.arr 8 [rl g a q us d]:=by
 obtain⟨q,us,d,S,m,c,w⟩:=h
 exact⟨q,us,d,w.own.is 2 rfl (by simp)⟩
def lQ:SC :=
 af [ae [aS 66 .lss 65 64],bO 66 (.exit 0),.block 1 (af [ae [aa 67 65,aL 68 3 63 65,bb 69 3 68,((some 10),.op (.alloc [(.val (.int .i64 0)),(.emp 1),(.val (.int .i64 0))])),aa 9 67,cy 3 10 69],ae [av 70 0 10,al 71 70,aa 72 5,((some 73),.op (.arith .sub (.val (.val (.int .i64 (-1)))) (.tmp 72))),aS 74 .eql 71 73],aZ 74 (ae [aa 75 0,av 76 0 3,av 77 0 76,al 78 77,aa 79 9,((some 80),.op (.build [(.val (.int .i64 0)),(.val (.int .i64 0))] [(0,1,(.tmp 79))])),((some 81),.op (.build [(.val (.int .i64 0)),(.val (.int .i64 0)),(.val (.int .i64 0))] [(0,1,(.tmp 78)),(1,2,(.tmp 80))])),av 82 3 3,al 83 82,aa 84 4,((some 85),.op (.slice 1 (.tmp 84) (some (.val (.val (.int .i64 1)))) none)),av 86 4 3,al 87 86,((some 88),.op (.cg 2 1 [(.emp 1)] [(0,(.tmp 85)),(1,(.tmp 87))])),((some 89),.tG (.val (.fn 68 [] [])) [(.tmp 88)]),((some 90),.op (.build [(.val (.int .i64 0)),(.val (.int .i64 0)),(.val (.int .i64 0)),(.emp 1),(.emp 1)] [(0,3,(.tmp 81)),(3,1,(.tmp 83)),(4,1,(.tmp 89))])),bf 91 125 [75,90]])]),ae [aF 92 .add 65 1,aa 65 92]]
def np:SF:=⟨af [ae [cE 3 1],ae [aa 11 0,av 12 0 3,av 13 1 12,bb 14 2 13,bf 15 127 [11,14],aa 4 15],af [ae [aa 16 4,aN 17 16,aF 18 .eql 17 0],aZ 18 (.ret)],ae [aa 19 4,((some 20),.op (.idx 1 (.tmp 19) (.val (.val (.int .i64 0))))),al 21 20,aa 5 21],ae [aa 23 0,kW 24 23,av 25 4 24,al 26 25,av 27 0 3,av 28 0 27,al 29 28,aa 30 4,((some 31),.op (.slice 1 (.tmp 30) none (some (.val (.val (.int .i64 1)))))),bf 32 193 [26,29,31],aa 22 32,dJ 33 0 22,dJ 34 1 22,aa 6 33,aa 7 34],ae [av 35 0 3,av 36 1 35,av 37 0 36,al 38 37,av 39 0 3,av 40 1 39,av 41 1 40,al 42 41,aF 43 .add 42 1,((some 44),.op (.build [(.val (.int .i64 0)),(.val (.int .i64 0))] [(0,1,(.tmp 38)),(1,1,(.tmp 43))])),((some 8),.op (.alloc [(.val (.int .i64 0)),(.val (.int .i64 0))])),cy 2 8 44],ae [aa 45 0,aa 46 6,bb 47 2 8,((some 48),.op (.build [(.val (.int .i64 0)),(.val (.int .i64 0)),(.val (.int .i64 0))] [(0,1,(.tmp 46)),(1,2,(.tmp 47))])),av 49 3 3,al 50 49,aa 51 4,((some 52),.op (.slice 1 (.tmp 51) none (some (.val (.val (.int .i64 1)))))),((some 53),.op (.cg 2 1 [(.emp 1)] [(0,(.tmp 50)),(1,(.tmp 52))])),((some 54),.tG (.val (.fn 68 [] [])) [(.tmp 53)]),av 55 4 3,al 56 55,((some 57),.op (.build [(.val (.int .i64 0)),(.val (.int .i64 0)),(.val (.int .i64 0)),(.emp 1),(.emp 1)] [(0,3,(.tmp 48)),(3,1,(.tmp 54)),(4,1,(.tmp 56))])),bf 58 125 [45,57]],ae [aa 59 0,kW 60 59,av 61 0 60,av 62 2 61,al 63 62,aN 64 63,aP 65 0],bR 0 lQ],
 [],93⟩
theorem s7:aM Tryz.prog 126 [3,200054,200089]=some np:=by kernel_rfl
theorem QF (g:ai) (hg:g.Ok) (a:List aQ) (D:dI g a) (h3:a.length<=300) (b:Nat) (l:List bG) (hl:jk g a l) (s:s8) (hs:s.Ok) (i:Nat) (hi:l[i]?=some s.n) (B:Nat) (hB:B < 100000000) (K:List dM) (H:View) (hW:eQ H b g a l B K) :
  aw Tryz.prog 126 [.ptr b 0 0,.agg (iM s)] H λ_ H'=>eQ H' b g a (iQ g a l s.n) (B+41) K:=by
 have U:=D.iy
 have hT:=U.au;have hN:=U.ak;have cS:=U.rules
 have f:=hl.nd s.n (VF hi)
 have A:=D.has f.lt f.it
 have db:=hl.len i s.n hi
 have dj:=(VC.1 hi).1
 have dm:=hl.short D h3
 have ds:=f.small D
 have cV:=pe U
 have b7:=A
 obtain⟨⟨dv,ea⟩,eb,ee⟩:=b7
 obtain⟨⟨E,F,ef⟩,⟨W,X,eg⟩⟩:=And.intro hs.a.gv hs.b.gv
 obtain⟨q,us,uf,hb⟩:=hW.box
 have p:=Kg g (by unfold bS;omega) a q us uf b H hb s.n.it A
 simp only[bQ] at p
 have G:aI a:=by unfold aI;omega
 refine aw.of mixed s7 ?_
 simp(disch:=omega)only[↓wr,seval,wq,np,iM,E,F,W,X]
 refine ax.eA (p.mono ?_)
 clear p
 rintro u H1 ⟨hu,Y⟩
 have a6:ct u=some (eT g s.n.it).length:=by
  rcases hu with rfl | ⟨n,x,d,rfl,_⟩
  .simp[encI,ct]
  .rfl
 have a7:(eT g s.n.it).length=(bV g s.n.it.az).length - s.n.it.dot.toNat:=by unfold eT;simp
 simp(disch:=omega)only[↓wr,seval,wq,a6]
 apply aj.eq<;>intro he
 .simp(disch:=omega)only[↓wr,seval,wq]
  have J:(bB g s.n.it).2=false:=by
   unfold bB
   rw[Vu (by omega)]
  have:iQ g a l s.n=l:=by
   unfold iQ
   rw[Vs (by rw[J];simp)]
  rw[this]
  exact(hW.stay λid Z=>(Y id Z).1).up (by omega)
 obtain⟨y,J⟩:∃ y,bB g s.n.it=(y,true):=by
  unfold bB
  rw[Vs (by omega)]
  exact⟨_,rfl⟩
 obtain⟨f1,f2⟩:=qU A J
 have b8:iQ g a l s.n=oz g s.n y g.rules.length (ko l ⟨jG a s.n.st y,⟨s.n.it.az,s.n.it.dot+1⟩,s.n.ah ++ [y],s.n.be⟩):=by
  unfold iQ
  rw[J,Vu rfl]
 rw[b8]
 rw[f1] at hu a6 a7
 obtain⟨s1,s2,s3,s4⟩:=D.step f.lt f.it J
 obtain⟨_,_,_,_,_,b9⟩:=D.jG s1
 have ab:dw g y=true:=wO U A J
 have cc : -100<=y/\y<=100:=by
  unfold dw at ab
  split at ab <;> simp at ab <;> omega
 have da:(ju g s.n.it).length<=6:=by
  have:=eh U (r:=s.n.it.az) ⟨by omega,by omega⟩
  simp only[Vz] at a7
  omega
 obtain⟨m1,m2,m3⟩:=Hl D hl (f.move D J) (by simp only[VQ,Vz,VS];omega) (by simp only;omega)
 have hle:l.length<=(ko l ⟨jG a s.n.st y,⟨s.n.it.az,s.n.it.dot+1⟩,s.n.ah ++ [y],s.n.be⟩).length:=by obtain⟨t,ht⟩:=m2;rw[ht];simp
 have cf:=λk hk=>HJ D f J k _ hk m1 (by omega) (by omega)
 have an:=Qv a G (D.Rm h3) s.n.st [y] (by unfold aI;simp)
 rw[b9] at an
 have L:=rQ s.n.ah [y] (by simp;omega)
 have M:=rQ (ju g s.n.it) s.n.be (by omega)
 generalize a8:ju g s.n.it=rs at *
 have aq:∃ N O P,(u=encI (y :: rs)∨∃ n,u=.sl n 0 1 1/\H1 n=.arr 1 [[gi y]])/\cY 1 u none (some (gi 1))=some (O,.none,[])/\cY 1 u (some (gi 1)) none=some (P,.none,[])/\aH O=true/\V.cells O=[O]/\aH P=true/\V.cells P=[P] /\
   (∀ H' e1 e2 e3,bo H' (e1 :: e2 :: e3 :: N)->cn H' O (encI [y])/\cn H' P (encI rs))/\(∀ H' l B,eQ H' b g a l B N->eQ H' b g a l B K)/\eQ H1 b g a l B N:=by
  rcases hu with rfl | ⟨n,x,d,rfl,h2,h4,h5⟩
  .refine⟨K,encI [y],encI rs,.inl rfl,?_,?_,rfl,rfl,rfl,rfl,λH' _ _ _ _=>⟨.tree (bI _),.tree (bI _)⟩,λ_ _ _ h=>h,hW.stay λid Z=>(Y id Z).1⟩
   .exact LG (l:=y :: rs) (k:=1) (by simp)
   .exact Cj (l:=y :: rs) (k:=1) (by simp)
  .match d,h4 with
   | 0,_ =>
    simp only[Ww,List.cons.injEq] at h5
    obtain⟨rfl,rfl⟩:=h5
    refine⟨(.sl n 0 1 1,1,[[gi y]]) :: K,.sl n 0 1 1,.sl n 1 0 1,.inr ⟨n,rfl,h2⟩,?_,?_,rfl,rfl,rfl,rfl,λH' e1 e2 e3 ho=>?_,λ_ _ _ h=>h.drop,hW.add (.inr ⟨n,rfl,h2⟩) Y⟩
    .exact oB (sz:=1) (id:=n) (off:=0) (k:=1) (m:=1) (by omega)
    .exact oC (sz:=1) (id:=n) (off:=0) (k:=1) (m:=1) (by omega)
    .have hH:=ho.is 3 rfl (by simp)
     have t:∀ e∈[[gi y]],∀ v∈e,Tree v:=by intro e he v hv;simp at he;subst he;simp at hv;subst hv;exact .val _
     have r1:tK H' (.sl n 0 [y].length 1) [y]:=.inr ⟨n,y,0,rfl,hH,by omega,rfl⟩
     have r2:tK H' (.sl n 1 ([]:List Int).length 1) []:=.inr ⟨n,y,1,rfl,hH,by omega,rfl⟩
     exact⟨r1.lY,r2.lY⟩
   | 1,_=>simp at h5
 obtain⟨N,O,P,ch,I,bd,c1,c2,c3,c4,cj,bl,ar⟩:=aq
 clear hW hu
 obtain⟨q1,ei,ej,bn⟩:=ar.box
 have z:∀ H' l B,eQ H' b g a l B N->cn H' O (encI [y])/\cn H' P (encI rs):=λH' l B h=>by
  obtain⟨q,us,uf,S,m,c,w⟩:=h
  exact cj H' _ _ _ w.own
 have ck:s8.Ok ⟨⟨jG a s.n.st y,⟨s.n.it.az,s.n.it.dot+1⟩,s.n.ah ++ [y],s.n.be⟩,encI (s.n.ah ++ [y]),s.b⟩:=⟨.inl rfl,hs.b⟩
 have cu:∀ k:Nat,s8.Ok ⟨⟨s.n.st,⟨k,0⟩,s.n.ah,rs ++ s.n.be⟩,s.a,encI (rs ++ s.n.be)⟩:=λk=>⟨hs.a,.inl rfl⟩
 have Q:=bd
 obtain⟨u',br⟩:∃ u',u=u':=⟨u,rfl⟩
 rw[br] at Q
 have a1:∀ (x:Int) (t:Bool),yO (.aY [gi x,gb t]):=λx t=>.aY _ λi hi=>by
  match i,hi with
  | 0,_=>exact⟨_,rfl⟩
  | 1,_=>exact⟨_,rfl⟩
 have cv:∀ k:Nat,k < g.rules.length->g.rules[k]?=some (bY g k):=λk hk=>by unfold bY;exact getD_some (by simpa using hk)
 simp only[encI] at an L M
 rcases ch with rfl | ⟨n,rfl,cA⟩
 focus
  simp only[encI,bw,VX] at I bd
  simp(disch:=omega)only[↓wr,seval,wq,iM,encI,bn,I,VV]
 rotate_left
 focus
  simp(disch:=omega)only[↓wr,seval,wq,iM,encI,bn,cA,I]
 all_goals (
  refine ax.KV an (by kernel_rfl) (a1 _ _) ⟨.tree (qj a),.tree (.val _),(z _ _ _ ar).1,trivial⟩ ?_
  simp(disch:=omega)only[↓wr,seval,wq,iM]
  intro n8 bs
  have w2:=ar.fresh (o:=.arr 2 [[gi s.n.it.az,gi (s.n.it.dot+1)]]) bs
  simp(disch:=omega)only[↓wr,seval,wq,iM,I,c1,c2,E,F]
  rw[set_set]
  intro n9 C
  obtain⟨cC,C⟩:=cb C b6
  obtain⟨_,C⟩:=cb C b6
  have w3:=w2.fresh (n:=n9) (o:=.arr 1 [[s.a],[O]]) (by simp[View.set,cC,C])
  try simp(disch:=omega)only[↓wr,seval,wq,iM]
  refine ax.mK L (by kernel_rfl) ⟨cn.two (by simp[View.set]) hs.a.lY (z _ _ _ w3).1,trivial⟩ ?_
  simp(disch:=omega)only[↓wr,seval,wq,iM,W,X]
  have hm:=Dz g a b l B (by omega) (by omega) _ ck s4 N _ w3
  simp only[iM,encI] at hm
  refine ax.eA (hm.mono ?_)
  clear hm
  rintro _ H5 w5
  obtain⟨q5,ek,eH,bx⟩:=w5.box
  simp(disch:=omega)only[↓wr,seval,wq,bx]
  refine aR.up g.rules.length (λk T H'=>eQ H' b g a (oz g s.n y k (ko l ⟨jG a s.n.st y,⟨s.n.it.az,s.n.it.dot+1⟩,s.n.ah ++ [y],s.n.be⟩)) (B+1+k) N/\T 0=.ptr b 0 0/\T 3=.aJ (iM s) 0/\T 4=u'/\T 5=gi y/\T 63=.aW (g.rules.map aK)/\T 64=gi g.rules.length/\T 65=gi k)
   ⟨w5,rfl,rfl,br,rfl,rfl,rfl,rfl⟩ ?_
  clear w2 w3 w5 bx bs C
  rintro k kk T H6 b0 ⟨w6,t0,t3,t4,t5,t63,t64,t65⟩
  simp(disch:=omega)only[↓wr,seval,wq,lQ,t0,t3,t4,t5,t63,t64,t65]
  apply aj.dec<;>intro hc
  .have hR:=cv k (by omega)
   have cI:=U.left _ (VF hR)
   generalize b1:bY g k=R at hR cI
   simp(disch:=omega)only[↓wr,seval,wq,t0,t3,t4,t5,t63,t64,t65,Vt,hR,VE,aK,encI]
   intro n10 b2
   have w7:=w6.fresh (o:=.arr 3 [aK R]) b2
   apply aj.eq<;>intro e
   .simp(disch:=omega)only[↓wr,seval,wq,t0,t3,t4,t5,t63,t64,t65,Q,iM,E,F,W,X,c3,c4]
    intro n11 j
    obtain⟨cN,j⟩:=cb j b6
    obtain⟨_,j⟩:=cb j b6
    have w8:=w7.fresh (n:=n11) (o:=.arr 1 [[P],[s.b]]) (by simp[View.set,cN,j])
    rw[set_set]
    try simp(disch:=omega)only[↓wr,seval,wq,t0,t3,t4,t5,t63,t64,t65,iM]
    refine ax.mK M (by kernel_rfl) ⟨cn.two (by simp[View.set]) (z _ _ _ w8).2 hs.b.lY,trivial⟩ ?_
    simp(disch:=omega)only[↓wr,seval,wq,t0,t3,t4,t5,t63,t64,t65,iM,E,F]
    obtain⟨r1,_,_⟩:=cf k (by omega)
    have e0:=r1.short D h3
    have hm:=Dz g a b _ (B+1+k) (by omega) (by omega) _ (cu k) f.lt N _ w8
    simp only[iM,encI] at hm
    refine ax.eA (hm.mono ?_)
    clear hm
    rintro _ H9 w9
    simp(disch:=omega)only[↓wr,seval,wq,t0,t3,t4,t5,t63,t64,t65]
    refine aE b0 (by omega) ⟨?_,t0,t3,t4,t5,t63,t64,rfl⟩
    rw[oz,Vu (by rw[b1];exact e),a8]
    exact w9
   .simp(disch:=omega)only[↓wr,seval,wq,t0,t3,t4,t5,t63,t64,t65]
    refine aE b0 (by omega) ⟨?_,t0,t3,t4,t5,t63,t64,rfl⟩
    rw[oz,Vs (by rw[b1];exact e)]
    have w9:=w7.up (B':=B+1+(k+1)) (by omega)
    try rw[set_set]
    exact w9
  .simp(disch:=omega)only[↓wr,seval,wq,t0]
   obtain rfl:k=g.rules.length:=by omega
   exact(bl _ _ _ w6).up (by omega))
section
variable {P:Program} {T:Env} {H:View} {K:V->View->Prop} {w:cL (T,H,K)} {t t1 e ty:TypeId}
theorem JF {d x:Operand} {id off len sz bytes s:Nat} {z:List V} {es xs:List (List V)} {rd:List Nat} (he:oQ P t=some (sz,bytes,z)) (g:ev T d=.sl id off len sz) (h:bC H (ev T x)=some (xs,rd)) (hH:H id=.arr s es) (i:off+len<=es.length)
  (j:(xs.all λe=>e.length == sz && e.all aH)=true) (k:(xs.take len).isEmpty=false) (hk:K (fO (xs.take len).length) (H.set id (.arr sz (dU es off (xs.take len))))) :
  iO P (.call { callee:=.builtin .copy,args:=#[d,x],argTypes:=#[t,t1] }) ty T H K w:=by
 obtain⟨e,ti,a,hi,b,m,l,f,c,rfl,rfl⟩:=jT he
 intro n _
 refine⟨fO (xs.take len).length,.fe id (.arr ti.size (dU es off (xs.take len))),id :: rd,?_,hk⟩
 simp only[sI,cd,oper]
 simp[wa,a,g,h,ct,b,k,hH,i,c,j]
theorem Q2 {d x:Operand} {k:Nat} {sz bytes:Nat} {z:List V} {xs:List (List V)} {rd:List Nat} (he:oQ P t=some (sz,bytes,z)) (f:ev T d=.emp k) (g:bC H (ev T x)=some (xs,rd)) (hk:K (fO 0) H) :
  iO P (.call { callee:=.builtin .copy,args:=#[d,x],argTypes:=#[t,t1] }) ty T H K w:=by
 obtain⟨e,ti,a,hi,b,j,h,c,i,rfl,rfl⟩:=jT he
 intro n _
 refine⟨fO 0,.none,[],?_,hk⟩
 simp only[sI,cd,oper]
 simp[wa,a,f,g,ct,b]
end
theorem tY:∀ (xs A B:List (List V)),xs.length<=B.length->dU (A ++ B) A.length xs=A ++ xs ++ B.drop xs.length
 | [],A,B,_=>by simp[dU]
 | x :: r,A,[],h=>by simp at h
 | x :: r,A,b :: B,h=>by
  rw[dU,List.set_append_right _ _ (VA _),Nat.sub_self,List.set_cons_zero]
  have:=tY r (A ++ [x]) B (by simpa using h)
  simpa using this
theorem Iv {id off k m:Nat} (hm:m<=k):cY 1 (.sl id off k 1) (some (gi m)) none=some (.sl id (off+m) (k - m) 1,.none,[]):=by
 simp[cY,bound,asNat,hm]
def u64 (n:Int):V:=.val (.int .u64 n)
noncomputable def Oy:List (FuncId × DF):=vM Tryz.prog [(180,[]),(237,[])]
theorem Ph:qt Tryz.prog Oy:=sB _ _
noncomputable def SU (n:Nat):Bool:=match sn Tryz.prog Oy (Li []) 180 [u64 1,u64 n] with
 | some (.aY [.val (.int .u64 a),.val (.int .u64 b)])=>a == 0 && b == n
 | _=>false
theorem Sg:(List.range 321).all SU=true:=by kernel_rfl
theorem Se {n:Nat} (h:n<=320):aB Tryz.prog 180 [u64 1,u64 n] (.aY [u64 0,u64 n]):=by
 have c:=VU.1 Sg n (Wy.2 (by omega))
 unfold SU at c
 split at c
 .rename_i a b he
  simp only[VD,Wn] at c
  obtain⟨rfl,rfl⟩:=c
  exact(pb mixed Ph (GP (l:=[]) (by simp)) (by intro v d;simp at d;rcases d with rfl | rfl <;> exact .val _) he).pure
 .simp at c
def gf:SC :=
 af [af [ae [aa 34 8,aa 35 7,aN 36 35,aS 37 .lss 34 36],bO 37 (.exit 0)],.block 1 (ae [aa 38 8,aa 39 7,aa 40 8,((some 41),.op (.slice 1 (.tmp 39) (some (.tmp 40)) none)),aa 42 7,aa 43 8,((some 44),.op (.slice 1 (.tmp 42) none (some (.tmp 43)))),((some 45),.op (.old (.call { callee:=.builtin .copy,args:=#[(.tmp 41),(.tmp 44)],argTypes:=#[27,27] }) 3)),aS 46 .add 38 45,aa 8 46])]
def ke:SF:=⟨af [ae [bT 4 1],af [ae [aa 9 1,aF 10 .lss 9 0],aZ 10 (.region false [⟨none,[((some 11),.op (.old (.makeInterface 9 (.const (.string ⟨#[99,97,110,110,111,116,32,98,101,32,110,101,103,97,116,105,118,101]⟩))) 20)),(none,.op (.old (.panic (.tmp 11)) 0))]⟩])],ae [aa 13 0,aN 14 13,((some 15),.op (.conv .u64 (.tmp 14))),aa 16 1,((some 17),.op (.conv .u64 (.tmp 16))),bf 18 180 [15,17],aa 12 18,dJ 19 0 12,dJ 20 1 12,aa 5 19,aa 6 20],af [.region false [⟨none,[aa 21 5,((some 22),.op (.arith .gtr (.tmp 21) (.val (.val (.int .u64 0))))),aa 23 22]⟩,⟨(some (23,false)),[aa 24 6,((some 25),.op (.arith .gtr (.tmp 24) (.val (.val (.int .u64 9223372036854775807)))))]⟩,⟨none,[cx 26 23 25]⟩],aZ 26 (.region false [⟨none,[((some 27),.op (.old (.makeInterface 9 (.const (.string ⟨#[116,104,101,32,114,101,115,117,108,116,32,111,102,32,40,108,101,110,40,120,41,32,42,32,99,111,117,110,116,41,32,111,118,101,114,102,108,111,119,115]⟩))) 20)),(none,.op (.old (.panic (.tmp 27)) 0))]⟩])],ae [aa 28 6,((some 29),.op (.conv .i64 (.tmp 28))),((some 30),.op (.make 1 8 [(.val (.int .i64 0))] (.tmp 29) (.tmp 29))),aa 7 30],ae [aa 31 7,aa 32 0,((some 33),.op (.old (.call { callee:=.builtin .copy,args:=#[(.tmp 31),(.tmp 32)],argTypes:=#[27,27] }) 3)),aa 8 33],bR 0 gf,ae [aa 47 7,aa 4 47],.ret],
 [.tmp 4],48⟩
theorem ph:aM Tryz.prog 115 []=some ke:=by kernel_rfl
theorem L6 (n:Nat) (v:n<=320) (m:Nat) (H:View) (hm:H m=.arr 1 [[gi (-1)]]):aw Tryz.prog 115 [.sl m 0 1 1,gi n] H λr H'=>aO H' r 1 (bw (List.replicate n (-1)))/\bZ H H' r:=by
 refine aw.of mixed ph ?_
 have hmul:=Se v
 unfold u64 at hmul
 have i:IntKind.u64.wrap 1=1:=by decide
 have j:IntKind.u64.wrap (n:Int)=n:=by
  unfold IntKind.wrap
  have w:(2:Int) ^ IntKind.u64.bits=18446744073709551616:=by rfl
  have x:IntKind.u64.signed=false:=by rfl
  simp only[w,x,WG,VH]
  simp
  omega
 have f:IntKind.i64.wrap (n:Int)=n:=wrap64 (by omega) (by omega)
 simp(disch:=omega)only[↓wr,seval,wq,ke]
 refine aj.dec (λh=>absurd h (by omega)) (λ_=>?_)
 simp(disch:=omega)only[↓wr,seval,wq]
 rw[i,j]
 refine ax.pure hmul ?_
 simp(disch:=omega)only[↓wr,seval,wq,f]
 refine aj.dec (λh=>absurd h (by omega)) (λ_=>?_)
 simp(disch:=omega)only[↓wr,seval,wq,f]
 refine⟨⟨by omega,by unfold aC;omega,by unfold aC;omega⟩,λp=>?_,λp b g=>?_⟩
 .refine Q2 (k:=2) (sz:=1) (bytes:=8) (z:=[gi 0]) (xs:=[[gi (-1)]]) (rd:=[m]) (by kernel_rfl) (by simp(disch:=omega)only[↓wr,seval,wq]) (by simp(disch:=omega)only[↓wr,seval,wq];simp[bC,hm]) ?_
  simp(disch:=omega)only[↓wr,seval,wq]
  refine aR.intro (λk T H'=>H'=H/\T 7=.emp 2/\T 8=fO 0) 0 ⟨rfl,rfl,rfl⟩ ?_
  rintro k T _ ⟨rfl,t7,t8⟩
  simp(disch:=omega)only[↓wr,seval,wq,gf,t7,t8]
  refine⟨?_,λid a=>⟨rfl,by simp[owner]⟩⟩
  rw[p];exact .nil
 have l:¬ m=b:=by rintro rfl;rw[hm] at g;simp at g
 refine JF (id:=b) (off:=0) (len:=n) (sz:=1) (bytes:=8) (z:=[gi 0]) (s:=1) (es:=List.replicate n [gi 0]) (xs:=[[gi (-1)]]) (rd:=[m]) (by kernel_rfl) (by simp(disch:=omega)only[↓wr,seval,wq]) (by simp(disch:=omega)only[↓wr,seval,wq];simp[bC,View.set,l,hm]) (by simp[View.set]) (by simp) (by simp[aH]) (by obtain⟨q,rfl⟩:∃ q,n=q+1:=⟨n - 1,by omega⟩;rfl) ?_
 rw[show ([[gi (-1)]]:List (List V)).take n=List.replicate 1 [gi (-1)] by obtain⟨q,rfl⟩:∃ q,n=q+1:=⟨n - 1,by omega⟩;simp,
  show dU (List.replicate n [gi 0]) 0 (List.replicate 1 [gi (-1)])=List.replicate 1 [gi (-1)] ++ List.replicate (n - 1) [gi 0] by
   have:=tY (List.replicate 1 [gi (-1)]) [] (List.replicate n [gi 0]) (by simp;omega)
   simpa using this,Xi]
 simp(disch:=omega)only[↓wr,seval,wq]
 rw[set_set]
 refine aR.intro (λk T H'=>∃ c:Nat,1<=c/\c+k=n/\H' b=.arr 1 (List.replicate c [gi (-1)] ++ List.replicate (n - c) [gi 0])/\(∀ id,H id≠.dead->H' id=H id)/\T 7=.sl b 0 n 1/\T 8=gi c) (n - 1) ⟨1,by omega,by omega,by simp[View.set],λid a=>?_,rfl,rfl⟩ ?_
 .have:¬ id=b:=by rintro rfl;exact a g
  simp[View.set,this]
 rintro k T H' ⟨c,c1,B,hH,e,t7,t8⟩
 simp(disch:=omega)only[↓wr,seval,wq,gf,t7,t8]
 apply aj.dec<;>intro y
 .simp(disch:=omega)only[↓wr,seval,wq,t7,t8,Iv (id:=b) (off:=0) (k:=n) (m:=c) (by omega),IF (id:=b) (off:=0) (k:=n) (m:=c) (by omega)]
  have o:bC H' (.sl b 0 c 1)=some (List.replicate c [gi (-1)],[b]):=by
   obtain⟨q,rfl⟩:∃ q,c=q+1:=⟨c - 1,by omega⟩
   simp only[bC,hH]
   rw[Vu (by simp)]
   simp
  obtain⟨d,t⟩:∃ d,d=min (n - c) c:=⟨_,rfl⟩
  refine JF (id:=b) (off:=c) (len:=n - c) (sz:=1) (bytes:=8) (z:=[gi 0]) (s:=1) (es:=List.replicate c [gi (-1)] ++ List.replicate (n - c) [gi 0]) (xs:=List.replicate c [gi (-1)]) (rd:=[b]) (by kernel_rfl) (by simp(disch:=omega)only[↓wr,seval,wq]) (by simp(disch:=omega)only[↓wr,seval,wq];exact o) hH (by simp) (by simp[aH]) ?_ ?_
  .rw[List.take_replicate,<-t]
   obtain⟨q,A⟩:∃ q,d=q+1:=⟨d - 1,by omega⟩
   rw[A];rfl
  have u:=tY (List.replicate d [gi (-1)]) (List.replicate c [gi (-1)]) (List.replicate (n - c) [gi 0]) (by simp;omega)
  rw[Xi] at u
  rw[List.take_replicate,<-t,u,Xi]
  simp(disch:=omega)only[↓wr,seval,wq,t7,t8]
  refine⟨n - (c+d),by omega,c+d,by omega,by omega,?_,λid a=>?_,rfl⟩
  .simp[View.set,List.drop_replicate,<-List.replicate_append_replicate,show n - c - d=n - (c+d) by omega]
  .have:¬ id=b:=by rintro rfl;exact a g
   simp[View.set,this];exact e id a
 .simp(disch:=omega)only[↓wr,seval,wq,t7]
  obtain rfl:c=n:=by omega
  refine⟨.inr ⟨b,by simp,by rw[hH];simp[bw]⟩,λid a=>⟨e id a,?_⟩⟩
  simp only[owner,ne_eq,Vr]
  rintro rfl;exact a g
section
variable {g:ai} {a:List aQ}
def mX (g:ai) (l:List bG):Prop:=∀ x∈l,∀ s∈x.ah ++ x.be,dw g s=true
theorem Nf (b:g.cU) {r:Int} (hr : -1<=r/\r < g.rules.length):∀ s∈bV g r,dw g s=true:=by
 unfold bV
 split
 .intro s a
  simp at a
  subst a
  have:=b.kT;have:=b.start
  unfold dw
  rw[Vs (by omega)]
  simp only[VH];omega
 .intro s a
  have c:g.rules[r.toNat]?=some (bY g r):=by unfold bY;exact getD_some (by omega)
  exact b.sym _ (VF c) s a
theorem GF (a:g.cU) {x:aG} (b:cD g x):∀ s∈eT g x,dw g s=true:=λs c=>Nf a b.1 s (List.mem_of_mem_drop c)
theorem mX.met {l:List bG} (h:mX g l) {x:bG} (b:∀ s∈x.ah ++ x.be,dw g s=true):mX g (ko l x):=by
 unfold ko
 split
 .exact h
 .intro y a
  rcases VM.1 a with a | a
  .exact h y a
  .simp at a;subst a;exact b
theorem mX.Tq {x:bG} (a:∀ s∈x.ah ++ (ju g x.it ++ x.be),dw g s=true) (s:Int):∀ (k:Nat) (l:List bG),mX g l->mX g (oz g x s k l)
 | 0,_,h=>h
 | k+1,l,h=>by
  rw[oz]
  split
  .exact(mX.Tq a s k l h).met a
  .exact mX.Tq a s k l h
theorem mX.leave (f:dI g a) {l:List bG} (j:jk g a l) (h:mX g l) {x:bG} (i:x∈l):mX g (iQ g a l x):=by
 unfold iQ
 split
 .rename_i k
  have m:bB g x.it=((bB g x.it).1,true):=by rw[<-k]
  have e:=j.nd x i
  have hH:=f.has e.lt e.it
  obtain⟨f1,_⟩:=qU hH m
  have d:=GF f.iy hH
  rw[f1] at d
  have c:=h x i
  refine mX.Tq (λs b=>?_) _ _ _ (h.met λs b=>?_)
  .simp only[VM] at b c
   rcases b with b | b | b
   .exact c s (.inl b)
   .exact d s (VL _ b)
   .exact c s (.inr b)
  .simp only[VM,Wu] at b c
   rcases b with (b | rfl) | b
   .exact c s (.inl b)
   .exact d _ (Xh ..)
   .exact c s (.inr b)
 .exact h
theorem Ca (b:dI g a):∀ (f i:Nat) (l:List bG),jk g a l->mX g l->mX g (jx g a f i l)
 | 0,_,_,_,h=>h
 | f+1,i,l,c,h=>by
  rw[jx]
  cases e:l[i]? with
  | none=>exact h
  | some x=>exact Ca b f (i+1) _ (AD b c e).1 (h.leave b c (VF e))
theorem OD (b:dI g a):mX g (cz g a):=Ca b _ _ _ (AG b) λx c s d=>by
 simp[me] at c
 subst c
 simp at d
theorem tj (a:g.cU) {s:Int} (h:dw g s=true):bS s:=by
 have:=a.au;have:=a.ak
 unfold dw at h
 unfold bS
 split at h <;> simp only[VH] at h <;> omega
theorem xQ (c:dI g a) (d:a.length<=300) {i:Nat} (hi:i < a.length):cD g (dE (cz g a) i).it/\(dE (cz g a) i).ah.length<=86100/\(dE (cz g a) i).be.length<=516600/\(eT g (dE (cz g a) i).it).length<=6 /\
  (∀ s∈(dE (cz g a) i).ah,bS s)/\(∀ s∈(dE (cz g a) i).ah ++ (eT g (dE (cz g a) i).it ++ (dE (cz g a) i).be),bS s):=by
 obtain⟨f1,f2,f3⟩:=vS c d hi
 obtain⟨h,_,_⟩:=As c d
 have hH:=c.has f3.lt f3.it
 obtain⟨j,k⟩:=List.getElem?_of_mem f1
 have m:=h.len j _ k
 have b:=h.short c d
 have l:=(VC.1 k).1
 have e:=OD c _ f1
 have f:=GF c.iy hH
 refine⟨hH,by omega,by omega,?_,λs b=>tj c.iy (e s (VM.2 (.inl b))),λs b=>?_⟩
 .have:=eh c.iy hH.1
  unfold eT
  simp;omega
 .rcases VM.1 b with b | b
  .exact tj c.iy (e s (VM.2 (.inl b)))
  .rcases VM.1 b with b | b
   .exact tj c.iy (f s b)
   .exact tj c.iy (e s (VM.2 (.inr b)))
end
def tH:SC :=
 af [af [ae [aa 21 6,aa 22 5,kW 23 22,av 24 6 23,al 25 24,aN 26 25,aS 27 .lss 21 26],bO 27 (.exit 0)],.block 1 (ae [aa 30 5,aa 31 5,kW 32 31,av 33 6 32,al 34 33,aa 35 6,aL 36 5 34 35,bb 37 5 36,bf 38 126 [30,37]]),ae [aa 28 6,aF 29 .add 28 1,aa 6 29]]
def xG:SF:=⟨af [ae [cE 2 0,((some 4),.op (.eU (.val (.val (.pointer none)))))],.region true [⟨none,[bb 7 4 2,aa 8 1,((some 9),.op (.qq)),((some 10),.op (.cg 1 1 [(.val (.int .i64 0))] [(0,(.val (.val (.int .i64 (-1)))))])),aa 11 1,aN 12 11,bf 13 115 [10,12],((some 14),.op (.build [(.emp 1),(.emp 1),(.emp 1),(.val (.int .i64 0)),(.emp 1),(.val (.map none)),(.emp 1),(.emp 1)] [(0,4,(.tmp 7)),(4,1,(.tmp 8)),(5,1,(.tmp 9)),(7,1,(.tmp 13))])),((some 15),.op (.box (.tmp 14))),aa 5 15]⟩],ae [aa 16 5,((some 17),.op (.build [(.val (.int .i64 0)),(.val (.int .i64 0))] [(0,1,(.val (.val (.int .i64 (-1)))))])),((some 18),.op (.build [(.val (.int .i64 0)),(.val (.int .i64 0)),(.val (.int .i64 0))] [(0,1,(.val (.val (.int .i64 0)))),(1,2,(.tmp 17))])),((some 19),.op (.build [(.val (.int .i64 0)),(.val (.int .i64 0)),(.val (.int .i64 0)),(.emp 1),(.emp 1)] [(0,3,(.tmp 18))])),bf 20 125 [16,19]],af [ae [aP 6 0],bR 0 tH],ae [aa 39 5,aa 4 39],.ret],
 [.tmp 4],40⟩
theorem AB:aM Tryz.prog 61 [2]=some xG:=by kernel_rfl
theorem IP (a:List aQ):eC a []=List.replicate a.length (-1):=by
 unfold eC
 apply List.ext_getElem?
 intro i
 rw[Vt,Wj]
 by_cases h:i < a.length
 .rw[WM h,Vu h];rfl
 .rw[V0 (by simpa using h),Vs h];rfl
theorem Iw {g:ai} {a:List aQ} {f i:Nat} {l:List bG} (h:l.length<=i):jx g a f i l=l:=by
 cases f with
 | zero=>rfl
 | succ f=>rw[jx,V0 h]
theorem Jq (g:ai) (X:g.Ok) (a:List aQ) (x:dI g a) (F:a.length<=300) (H:View) :
  aw Tryz.prog 61 [.agg (ag g),b4 a] H λr H'=>∃ b,r=.ptr b 0 0/\eQ H' b g a (cz g a) 100000000 []:=by
 have z:=x.pos
 have G:ct (b4 a)=some a.length:=by simp[b4,ct]
 have d:aH (b4 a)=true/\V.cells (b4 a)=[b4 a]:=⟨rfl,rfl⟩
 refine aw.of mixed AB ?_
 simp(disch:=omega)only[↓wr,seval,wq,xG,ag,encS,G,d.1,d.2]
 intro o Y O A
 obtain⟨I,A⟩:=cb A (by simp)
 refine ax.CW (L6 a.length (by omega) O _ (by simp[View.set])) ?_
 intro r P hr p
 have s:P o=.map [] 0:=by
  have e:¬ o=O:=λe=>I e.symm
  rw[(p o (by simp[View.set,e])).1]
  simp[View.set,e]
 simp(disch:=omega)only[↓wr,seval,wq,hr.cells,hr.gv,d.1,d.2]
 intro j f
 have J:¬ o=j:=by rintro rfl;rw[s] at f;simp at f
 have Q:=(((bo.nil.Dc hr p).new f 8 [rl g a o (.emp 1) r]).emp (k:=1) (sz:=5)).perm (.cons _ (.swap _ _ _))
 have R:eQ (P.set j (.arr 8 [rl g a o (.emp 1) r])) j g a [] 0 []:=by
  refine⟨o,.emp 1,r,[],[],0,?_,by simp[View.set,J,s,cX],⟨by simp,by simp⟩,λk=>⟨0,rfl,VA _,by simp⟩,rfl,by simp⟩
  rw[IP]
  exact Q
 try simp(disch:=omega)only[↓wr,seval,wq]
 have hm:=Dz g a j [] 0 (by omega) (by simp) ⟨⟨0,⟨-1,0⟩,[],[]⟩,.emp 1,.emp 1⟩ ⟨.inr ⟨rfl,rfl⟩,.inr ⟨rfl,rfl⟩⟩ z [] _ R
 refine ax.eA (hm.mono ?_)
 rintro _ H4 U
 simp(disch:=omega)only[↓wr,seval,wq]
 refine aR.up 86101 (λi T H'=>∃ (l:List bG),i<=l.length/\jk g a l/\jx g a (90000 - i) i l=cz g a/\eQ H' j g a l (1+41 * i) []/\T 5=.ptr j 0 0/\T 6=gi i) ⟨me,by simp,AG x,rfl,U,rfl,rfl⟩ ?_
 clear U R Q hm s f hr p
 rintro i k T Z hk ⟨l,ab,h,u,K,t5,t6⟩
 obtain⟨q,us,uf,S,m,c,w⟩:=id K
 have W:=w.own.is 2 rfl (by simp)
 have L:S.length=l.length:=by rw[<-w.is,Vx]
 have M:ct us=some l.length:=by rw[(w.own.own 0 rfl).len,Vx,L]
 simp(disch:=omega)only[↓wr,seval,wq,tH,t5,t6,W,M]
 apply aj.dec<;>intro hc
 .have N:S[i]?=some (S[i]'(by omega)):=Vq (by omega)
  have B:=Vw (show i < S.length by omega)
  generalize S[i]'(by omega)=y at N B
  have v:l[i]?=some y.n:=by rw[<-w.is,Vt,N];rfl
  obtain⟨n,C,hH⟩:=(w.own.own 0 rfl).sl (by simp;omega)
  rw[Vx] at C
  have D:(S.map iM).getD i []=iM y:=by simp[Vp,N]
  have hs:=h.short x F
  have E:=QF g X a x F j l h y (w.ok y B) i v (1+41 * i) (by omega) [] Z K
  simp only[iM] at E D
  simp(disch:=omega)only[↓wr,seval,wq,t5,t6,W,C,hH,D]
  refine⟨by omega,by first | omega | (simp;omega),?_⟩
  refine ax.eA (E.mono ?_)
  rintro _ H6 w6
  simp(disch:=omega)only[↓wr,seval,wq,t5,t6]
  obtain⟨l1,⟨t,ht⟩,_⟩:=AD x h v
  refine aE hk (by omega) ⟨iQ g a l y.n,by rw[ht,VQ];omega,l1,?_,w6.up (B':=1+41 * (i+1)) (by omega),t5,rfl⟩
  rw[<-u,show 90000 - i=90000 - (i+1)+1 by omega,jx,v]
 .simp(disch:=omega)only[↓wr,seval,wq,t5]
  rw[Iw (by omega)] at u
  subst u
  have hs:=h.short x F
  exact⟨j,rfl,K.up (B':=100000000) (by omega)⟩
def DD (x:(List Int × List Int) × Int):V:=.aY [encI x.1.1,encI x.1.2,gi x.2]
def Cx (b:xe):List V:=[gi b.state,gi b.len,encI b.word]
def FC (x:List xe × Int):V:=.aY [.aW (x.1.map Cx),gi x.2]
noncomputable def xL (g:ai) (s:Int):(List Int × List Int) × Int :=
 if (bA g).2≠0 then (([],[]),(bA g).2) else if s < 0∨((bA g).1.length:Int)<=s then (([],[]),11) else (dH g (bA g).1 s.toNat,0)
def fh (g:ai) (a:List aQ):Nat->List xe × Int
 | 0=>([],0)
 | i+1=>if (fh g a i).2≠0 then fh g a i else if (dc g ((dH g a i).1 ++ (dH g a i).2)).2≠0 then ([],(dc g ((dH g a i).1 ++ (dH g a i).2)).2) else ((fh g a i).1 ++ [K6 g a i],0)
noncomputable def uX (g:ai):List xe × Int:=if (bA g).2≠0 then ([],(bA g).2) else fh g (bA g).1 (bA g).1.length
theorem RG {h:aD} {u v:V} {x y:List Int} (hu:zd u x) (a:Fr h v (encI y)):Fr h (.aY [u,v,gi 0]) (DD ((x,y),0)):=.aY _ _ rfl λi hi=>by
 match i,hi with
 | 0,_=>exact hu.lY h rfl
 | 1,_=>exact a
 | 2,_=>exact .tree _ (.val _)
theorem AL {h:aD} {e:Int} : Fr h (.aY [.emp 1,.emp 1,gi e]) (DD (([],[]),e)):=.aY _ _ rfl λi hi=>by
 match i,hi with
 | 0,_=>exact .emp 1
 | 1,_=>exact .emp 1
 | 2,_=>exact .tree _ (.val _)
theorem F2 (b:xe):∀ v∈Cx b,Tree v:=by
 intro v a
 simp[Cx] at a
 rcases a with rfl | rfl | rfl
 .exact .val _
 .exact .val _
 .exact bI _
theorem zM {g:ai} {a:List aQ} {i:Nat} (h:(fh g a i).2≠0):∀ d,fh g a (i+d)=fh g a i
 | 0=>rfl
 | d+1=>by
  have b:=zM h d
  rw[<-Ws,fh,b,Vu h]
theorem LH {g:ai} {a:List aQ} {i n:Nat} (h:(fh g a i).2≠0) (hi:i<=n):fh g a n=fh g a i:=by
 have:=zM h (n - i)
 rwa [show i+(n - i)=n by omega] at this
theorem CL {g:ai} {a:List aQ} : ∀ i,(fh g a i).1.length<=i
 | 0=>by simp[fh]
 | i+1=>by
  have b:=CL (g:=g) (a:=a) i
  rw[fh]
  split
  .omega
  .split
   .simp
   .simp;omega
def pH:SF:=⟨af [ae [bT 4 1,bT 5 1],ae [aa 7 0,kW 8 7,av 9 6 8,al 10 9,aa 11 0,kW 12 11,av 13 7 12,al 14 13,aa 15 1,aL 16 1 14 15,al 17 16,aL 18 5 10 17,bb 19 5 18,((some 6),.op (.alloc [(.val (.int .i64 0)),(.val (.int .i64 0)),(.val (.int .i64 0)),(.emp 1),(.emp 1)])),cy 5 6 19],.region true [⟨none,[av 20 3 6,al 21 20,aa 22 0,av 23 0 6,av 24 1 23,bb 25 2 24,bf 26 127 [22,25],av 27 4 6,al 28 27,((some 29),.op (.cg 2 1 [(.emp 1)] [(0,(.tmp 26)),(1,(.tmp 28))])),bf 30 68 [29],aa 4 21,aa 5 30]⟩],.ret],
 [.tmp 4,.tmp 5],31⟩
theorem uz:aM Tryz.prog 62 []=some pH:=by kernel_rfl
def yN:SF:=⟨af [ae [cE 2 0,bT 4 1,bT 5 1,aP 6 0],ae [bb 12 4 2,bf 13 60 [12],aa 11 13,dJ 14 0 11,dJ 15 1 11,aa 7 14,aa 8 15],.block 0 (af [ae [aa 17 8,aF 18 .neq 17 0,aa 16 18],.cond (.tmp 16) (af [ae [aa 19 8,bT 4 1,bT 5 1,aa 6 19],.ret]) (af [.region false [⟨none,[aa 21 1,aF 22 .lss 21 0,aa 23 22]⟩,⟨(some (23,false)),[aa 24 1,aa 25 7,aN 26 25,aS 27 .geq 24 26]⟩,⟨none,[cx 28 23 27,aa 20 28]⟩],aZ 20 (af [ae [bT 4 1,bT 5 1,aP 6 11],.ret])])]),ae [bb 30 4 2,aa 31 7,bf 32 61 [30,31],aa 33 1,bf 34 62 [32,33],aa 29 34,dJ 35 0 29,dJ 36 1 29,aa 9 35,aa 10 36],ae [aa 37 9,aa 38 10,aa 4 37,aa 5 38,aP 6 0],.ret],
 [.tmp 4,.tmp 5,.tmp 6],39⟩
theorem BH:aM Tryz.prog 24 [2]=some yN:=by kernel_rfl
def sW:SC :=
 af [ae [aS 28 .lss 27 26],bO 28 (.exit 0),.block 1 (af [ae [aa 29 27,aa 8 29],ae [aa 31 6,aa 32 8,bf 33 62 [31,32],aa 30 33,dJ 34 0 30,dJ 35 1 30,aa 9 34,aa 10 35],.region true [⟨none,[bb 37 4 1,aa 38 9,aa 39 10,((some 40),.op (.cg 2 1 [(.emp 1)] [(0,(.tmp 38)),(1,(.tmp 39))])),bf 41 68 [40],bf 42 67 [37,41],aa 36 42,dJ 43 0 36,dJ 44 1 36,aa 11 43,aa 12 44]⟩],af [ae [aa 45 12,aF 46 .neq 45 0],aZ 46 (af [ae [aa 47 12,bT 2 1,aa 3 47],.ret])],ae [bb 49 4 1,aa 50 9,bf 51 67 [49,50],aa 48 51,dJ 52 0 48,dJ 53 1 48,aa 13 52,aa 12 53],af [ae [aa 54 12,aF 55 .neq 54 0],aZ 55 (af [ae [aa 56 12,bT 2 1,aa 3 56],.ret])],ae [aa 57 7,aa 58 8,aa 59 13,aN 60 59,aa 61 11,((some 62),.op (.build [(.val (.int .i64 0)),(.val (.int .i64 0)),(.emp 1)] [(0,1,(.tmp 58)),(1,1,(.tmp 60)),(2,1,(.tmp 61))])),((some 63),.op (.cg 1 3 [(.val (.int .i64 0)),(.val (.int .i64 0)),(.emp 1)] [(0,(.tmp 62))])),gp 64 3 40 57 63,aa 7 64]]),ae [aF 65 .add 27 1,aa 27 65]]
def vI:SF:=⟨af [ae [cE 1 0,bT 2 1,aP 3 0],ae [bb 15 4 1,bf 16 60 [15],aa 14 16,dJ 17 0 14,dJ 18 1 14,aa 4 17,aa 5 18],af [ae [aa 19 5,aF 20 .neq 19 0],aZ 20 (af [ae [aa 21 5,bT 2 1,aa 3 21],.ret])],ae [bb 22 4 1,aa 23 4,bf 24 61 [22,23],aa 6 24],ae [bT 7 1],af [ae [aa 25 4,aN 26 25,aP 27 0],bR 0 sW],ae [aa 66 7,aa 2 66,aP 3 0],.ret],
 [.tmp 2,.tmp 3],67⟩
theorem zJ:aM Tryz.prog 28 [1]=some vI:=by kernel_rfl
theorem MA (g:ai) (hg:g.Ok) (a:List aQ) (N:dI g a) (h3:a.length<=300) (b:Nat) (B:Nat) (K:List dM) (i:Nat) (hi:i < a.length) (H:View) (hW:eQ H b g a (cz g a) B K) :
  aw Tryz.prog 62 [.ptr b 0 0,gi i] H λr H'=>(∃ v,zd v (dH g a i).1/\r=.aY [v,encI (dH g a i).2])/\∀ id,H id≠.dead->H' id=H id:=by
 have hf:=N.iy
 have an:=pe hf
 obtain⟨f1,f2,f3⟩:=vS N h3 hi
 obtain⟨p1,p2,p3,p4,_,_⟩:=xQ N h3 hi
 obtain⟨k,k1,k2,k3⟩:=Aa i (cz g a) 0 ⟨_,f1,f2⟩
 rw[Wc] at k1
 have O:dH g a i=((dE (cz g a) i).ah,eT g (dE (cz g a) i).it ++ (dE (cz g a) i).be):=rfl
 rw[O]
 obtain⟨q,us,uf,S,m,c,w⟩:=hW
 have aq:S.length=(cz g a).length:=by rw[<-w.is,Vx]
 have P:=w.own.is 2 rfl (by simp)
 have Q:S[k]?=some (S[k]'(by omega)):=Vq (by omega)
 have A:=Vw (show k < S.length by omega)
 generalize S[k]'(by omega)=y at Q A
 have R:y.n=dE (cz g a) i:=by
  have:(S.map s8.n)[k]?=some y.n:=by rw[Vt,Q];rfl
  rw[w.is,k3] at this
  simpa using this.symm
 have j:=w.ok y A
 rw[<-R] at p1 p2 p3 p4 ⊢
 obtain⟨n,C,hH⟩:=(w.own.own 0 rfl).sl (by simp;omega)
 rw[Vx] at C
 have D:(S.map iM).getD k []=iM y:=by simp[Vp,Q]
 have p:(eC a (cz g a)).length=a.length:=by simp[eC]
 obtain⟨nf,E,hF⟩:=(w.own.own 1 rfl).sl (by simp[p];omega)
 rw[Vx,p] at E
 have T:(bw (eC a (cz g a))).getD i []=[gi k]:=by
  rw[bw,Vp,Vt,eC,Vt,WM hi]
  simp[k1]
 obtain⟨⟨U,W,ar⟩,⟨F,G,a1⟩⟩:=And.intro j.a.gv j.b.gv
 have X:=rQ (eT g y.n.it) y.n.be (by omega)
 simp only[iM] at D
 refine aw.of mixed uz ?_
 simp(disch:=omega)only[↓wr,seval,wq,pH,P,C,E,hF,T,hH,D,U,W,F,G]
 refine⟨hi,by rw[p];exact hi,by omega,by omega,λl s=>?_⟩
 rw[set_set]
 have Y:¬ b=l:=by rintro rfl;rw[P] at s;simp at s
 have I:(H.set l (.arr 5 [[gi y.n.st,gi y.n.it.az,gi y.n.it.dot,y.a,y.b]])) b=.arr 8 [rl g a q us uf]:=by simp only[View.set,Vs Y,P]
 have t:(H.set l (.arr 5 [[gi y.n.st,gi y.n.it.az,gi y.n.it.dot,y.a,y.b]])) l=.arr 5 [[gi y.n.st,gi y.n.it.az,gi y.n.it.dot,y.a,y.b]]:=by simp only[View.set,if_true]
 have f:∀ id,H id≠.dead->(H.set l (.arr 5 [[gi y.n.st,gi y.n.it.az,gi y.n.it.dot,y.a,y.b]])) id=H id:=λid e=>by
  have:¬ id=l:=by rintro rfl;exact e s
  simp only[View.set,Vs this]
 generalize View.set H l (.arr 5 [[gi y.n.st,gi y.n.it.az,gi y.n.it.dot,y.a,y.b]])=H1 at I t f ⊢
 have hr:=Kg g (by unfold bS;omega) a q us uf b H1 I y.n.it p1
 simp only[bQ] at hr
 refine ax.still hr (λr H' h id e=>(h.2 id e).1) ?_
 rintro u M ⟨hu,J⟩
 have L:aH u=true/\V.cells u=[u]:=by
  rcases hu with rfl | ⟨n,x,d,rfl,_⟩ <;> exact⟨rfl,rfl⟩
 have Z:M l=.arr 5 [[gi y.n.st,gi y.n.it.az,gi y.n.it.dot,y.a,y.b]]:=by rw[(J l (by rw[t];simp)).1];exact t
 simp(disch:=omega)only[↓wr,seval,wq,Z,L.1,L.2,F,G]
 intro n9 z
 have ab:∀ {o:c7} (id:Nat),M id≠.dead->(M.set n9 o) id=M id:=λ{o} id e=>by
  have:¬ id=n9:=by rintro rfl;exact e z
  simp only[View.set,Vs this]
 refine ax.mK X (by kernel_rfl) ⟨cn.two (by simp only[View.set,if_true]) ((hu.keep λid e=>ab id e).lY) j.b.lY,trivial⟩ ?_
 simp(disch:=omega)only[↓wr,seval,wq]
 refine⟨⟨y.a,j.a,rfl⟩,λid e=>?_⟩
 have h1:=f id e
 have h2:=(J id (by rw[h1];exact e)).1
 have e9:¬ id=n9:=by rintro rfl;rw[h2,h1] at z;exact e z
 rw[Vs e9,h2,h1]
theorem eQ.app {H:View} {b:Nat} {g:ai} {a:List aQ} {l:List bG} {B:Nat} {u:V} {sz:Nat} {es:List (List V)} (h:eQ H b g a l B [(u,sz,es)]):aO H u sz es/\∀ d H' es',aO H' d sz es'->Left H H' u d->eQ H' b g a l B [(d,sz,es')]:=by
 obtain⟨q,us,f,S,m,c,w⟩:=h
 refine⟨w.own.own 3 rfl,λd H' es' i e=>⟨q,us,f,S,m,c,?_,e.map (w.own.own 3 rfl) w.map,w.born,w.seen,w.is,w.ok⟩⟩
 exact((w.own.perm By).left i e).perm By.symm
theorem Qt (g:ai) (i:Int):∀ v∈[V.agg (ag g),gi i],Tree v:=by
 intro v a;simp at a
 rcases a with rfl | rfl
 .exact bW _ (cw g)
 .exact .val _
theorem Dn (g:ai) (f:g.Ok) (j:g.Small) (s:Int):aB Tryz.prog 24 [.agg (ag g),gi s] (DD (xL g s)):=by
 refine aB.of (Qt g s) ?_
 have l:=(Eo g f j).pure
 have d:ct (b4 (bA g).1)=some (bA g).1.length:=by simp[b4,ct]
 refine aw.of mixed BH ?_
 simp only[ag,encS] at l
 simp(disch:=omega)only[↓wr,seval,wq,yN,ag,encS]
 refine ax.pure l ?_
 simp(disch:=omega)only[↓wr,seval,wq]
 unfold xL
 apply aj.ne<;>intro h
 .rw[Vu h]
  simp(disch:=omega)only[↓wr,seval,wq]
  intro k _
  exact AL
 rw[Vs (by omega)]
 obtain⟨_,m,c⟩:=DK h
 generalize (bA g).1=a at *
 simp(disch:=omega)only[↓wr,seval,wq,d]
 apply aj.dec<;>intro h1
 .rw[Vu (by omega)]
  simp(disch:=omega)only[↓wr,seval,wq]
  intro k _
  exact AL
 simp(disch:=omega)only[↓wr,seval,wq,d]
 apply aj.dec<;>intro n
 .rw[Vu (by omega)]
  simp(disch:=omega)only[↓wr,seval,wq]
  intro k _
  exact AL
 rw[Vs (by omega)]
 obtain⟨i,rfl⟩:∃ i:Nat,s=i:=⟨s.toNat,by omega⟩
 have e:=Jq g f a m c (λ_=>.dead)
 simp only[ag,encS] at e
 simp(disch:=omega)only[↓wr,seval,wq,ag,encS]
 refine ax.eA (e.mono ?_)
 rintro _ H1 ⟨b,rfl,w⟩
 simp(disch:=omega)only[↓wr,seval,wq]
 refine ax.eA ((MA g f a m c b _ _ i (by omega) H1 w).mono ?_)
 rintro _ p ⟨⟨v,o,rfl⟩,_⟩
 simp(disch:=omega)only[↓wr,seval,wq]
 intro k _
 exact RG o (.tree _ (bI _))
theorem D7 (g:ai) (m:g.Ok) (d:g.Small):aB Tryz.prog 28 [.agg (ag g)] (FC (uX g)):=by
 refine aB.of (eD g) ?_
 have O:=(Eo g m d).pure
 have z:ct (b4 (bA g).1)=some (bA g).1.length:=by simp[b4,ct]
 refine aw.of mixed zJ ?_
 simp only[ag,encS] at O
 simp(disch:=omega)only[↓wr,seval,wq,vI,ag,encS]
 refine ax.pure O ?_
 simp(disch:=omega)only[↓wr,seval,wq]
 unfold uX
 apply aj.ne<;>intro h
 .rw[Vu h]
  simp(disch:=omega)only[↓wr,seval,wq]
  intro A _
  exact(ng (.emp 1)).PJ
 rw[Vs (by omega)]
 obtain⟨_,B,c⟩:=DK h
 generalize (bA g).1=a at *
 have p:=Jq g m a B c (λ_=>.dead)
 simp only[ag,encS] at p
 simp(disch:=omega)only[↓wr,seval,wq,ag,encS]
 refine ax.eA (p.mono ?_)
 rintro _ H1 ⟨b,rfl,w⟩
 simp(disch:=omega)only[↓wr,seval,wq,z]
 refine aR.up a.length (λi T H'=>∃ (u:V),(fh g a i).2=0/\eQ H' b g a (cz g a) 100000000 [(u,3,(fh g a i).1.map Cx)]/\T 1=.aJ (ag g) 0/\T 6=.ptr b 0 0/\T 7=u/\T 26=gi a.length/\T 27=gi i) ⟨.emp 1,rfl,w.add .nil .emp,rfl,rfl,rfl,rfl,rfl⟩ ?_
 clear w
 rintro i k T H hk ⟨u,he,w,t1,t6,t7,t26,t27⟩
 simp(disch:=omega)only[↓wr,seval,wq,sW,t1,t6,t7,t26,t27]
 apply aj.dec<;>intro R
 .have hi:i < a.length:=by omega
  obtain⟨p1,S,p3,p4,U,W⟩:=xQ B c hi
  have C:dH g a i=((dE (cz g a) i).ah,eT g (dE (cz g a) i).it ++ (dE (cz g a) i).be):=rfl
  have P:(dH g a i).1.length<=86100/\(dH g a i).2.length<=600000/\(∀ s∈(dH g a i).1,bS s)/\(∀ s∈(dH g a i).1 ++ (dH g a i).2,bS s):=by
   rw[C]
   exact⟨S,by simp only[VQ];omega,U,W⟩
  obtain⟨P,q2,X,Y⟩:=P
  have hw:=MA g m a B c b _ _ i hi H w
  have l:fh g a (i+1)=if (dc g ((dH g a i).1 ++ (dH g a i).2)).2≠0 then ([],(dc g ((dH g a i).1 ++ (dH g a i).2)).2) else ((fh g a i).1 ++ [K6 g a i],0):=by
   rw[fh,Vs (by rw[he];simp)]
  have D:K6 g a i=⟨i,((dc g (dH g a i).1).1.length:Int),(dc g ((dH g a i).1 ++ (dH g a i).2)).1⟩:=rfl
  have E:=λh=>(PN (g:=g) (u:=(dH g a i).1) (v:=(dH g a i).2) h).1
  generalize (dH g a i).1=x at *
  generalize (dH g a i).2=y at *
  have F:=rQ x y (by omega)
  have q:=(Gf g m d (x ++ y) (by simp;omega) Y).pure
  have r:=Gf g m d x (by omega) X
  simp only[ag,encS,AP] at q r
  have Z:=CL (g:=g) (a:=a) i
  generalize dc g (x ++ y)=G at *
  generalize dc g x=Q at *
  simp(disch:=omega)only[↓wr,seval,wq,t1,t6,t7,t26,t27]
  refine ax.eA (hw.mono ?_)
  rintro _ H2 ⟨⟨v,f,rfl⟩,I⟩
  have w2:=w.stay I
  obtain⟨J,K,_⟩:=f.gv
  simp(disch:=omega)only[↓wr,seval,wq,t1,t6,t7,t26,t27,ag,encS,J,K]
  intro n9 L
  have w3:=w2.fresh (o:=.arr 1 [[v],[encI y]]) L
  try simp(disch:=omega)only[↓wr,seval,wq,t1,t6,t7,t26,t27]
  refine ax.mK F (by kernel_rfl) ⟨cn.two (by simp only[View.set,if_true];rfl) f.lY (.tree (bI y)),trivial⟩ ?_
  simp(disch:=omega)only[↓wr,seval,wq,t1,t6,t7,t26,t27,ag,encS]
  refine ax.pure q ?_
  simp(disch:=omega)only[↓wr,seval,wq,t1,t6,t7,t26,t27,ag,encS]
  apply aj.ne<;>intro h1
  .rw[Vu h1] at l
   simp(disch:=omega)only[↓wr,seval,wq]
   intro A _
   rw[LH (i:=i+1) (by rw[l];exact h1) (by omega),l]
   exact(ng (.emp 1)).PJ
  rw[Vs (by omega)] at l
  have h2:Q.2=0:=E (by omega)
  simp(disch:=omega)only[↓wr,seval,wq,t1,t6,t7,t26,t27,ag,encS]
  refine ax.mK r (by kernel_rfl) ⟨.tree (bW _ (cw g)),f.lY,trivial⟩ ?_
  simp(disch:=omega)only[↓wr,seval,wq,t1,t6,t7,t26,t27]
  refine aj.ne (λh=>absurd h2 h) (λ_=>?_)
  simp(disch:=omega)only[↓wr,seval,wq,t1,t6,t7,t26,t27,encI]
  intro n10 t
  have w4:=w3.fresh (n:=n10) (o:=.arr 3 [[gi i,gi Q.1.length,encI G.1]]) t
  obtain⟨M,wk⟩:=w4.app
  simp(disch:=omega)only[↓wr,seval,wq,bP]
  refine eL (es:=(fh g a i).1.map Cx) M (by simp[aH]) (by unfold aC;simp;omega) (by unfold aC;simp;omega) ?_
  intro u5 H5 o5 l5
  have w5:=wk _ _ _ o5 l5
  simp(disch:=omega)only[↓wr,seval,wq,t1,t6,t26,t27]
  refine aE hk hi ⟨u5,by rw[l],?_,t1,t6,rfl,t26,rfl⟩
  rw[l,D,VW]
  exact w5
 .obtain rfl:i=a.length:=by omega
  simp(disch:=omega)only[↓wr,seval,wq,t7]
  intro A f
  obtain⟨M,_⟩:=w.app
  have N:=cn.own M (λe he v f=>by
   obtain⟨x,_,rfl⟩:=VO.1 he
   exact F2 x v f) A f
  unfold FC
  rw[he]
  exact .aY _ _ rfl λj hj=>by
   match j,hj with
   | 0,_=>exact N
   | 1,_=>exact .tree _ (.val _)
def QP (g:ai) (s:Int) (n:Nat) (o:List aG):List aG:=(List.range n).foldl (λo (k:Nat)=>if (bY g k).left = -1 - s then ed o ⟨k,0⟩ else o) o
def HN (g:ai) (p:List aG) (x:aG):List aG:=if (bB g x).2=true/\(bB g x).1 < 0 then QP g (bB g x).1 g.rules.length p else p
def Cy (g:ai) (l:List aG):List aG:=iter (λo=>o.foldl (HN g) o) g.rules.length l
def TD (g:ai) (l o:List aG):Bool:=l.all (λx=>decide (x∈o)) && o.all λx=>!(bB g x).2 || decide (0<=(bB g x).1) || (List.range g.rules.length).all λ(k:Nat)=>!decide ((bY g k).left = -1 - (bB g x).1) || decide ((⟨k,0⟩:aG)∈o)
def GQ (g:ai) (l o:List aG):Prop:=cm o/\∀ x∈o,mY g l x
theorem I0 {g:ai} {k:Nat} (h:k < g.rules.length):g.rules[k]?=some (bY g k):=by unfold bY;rw[V2];exact getD_some h
theorem J3 {g:ai} {l:List aG} {x:aG} {s:Int} (c:mY g l x) (d:bB g x=(s,true)) (e:s < 0):∀ (n:Nat) (o:List aG),n<=g.rules.length->GQ g l o->GQ g l (QP g s n o)
 | 0,_,_,h=>h
 | n+1,o,f,h=>by
  have a:=J3 c d e n o (by omega) h
  unfold QP at a ⊢
  rw[WX,WQ]
  simp only[V7,Xk]
  split
  .rename_i i
   refine⟨oF a.1,λy b=>?_⟩
   rcases iS.1 b with rfl | b
   .exact .step c d e (I0 (by omega)) i
   .exact a.2 y b
  .exact a
theorem Al {g:ai} {l:List aG} : ∀ (q o:List aG),(∀ x∈q,mY g l x)->GQ g l o->GQ g l (q.foldl (HN g) o)
 | [],_,_,h=>h
 | x :: q,o,a,h=>by
  rw[V7]
  refine Al q _ (λy c=>a y (by simp[c])) ?_
  unfold HN
  split
  .rename_i b
   exact J3 (a x (by simp)) (Prod.ext rfl b.1) b.2 _ _ (VA _) h
  .exact h
theorem Br {α:Type} {p:α->Prop} {f:α->α} (h:∀ x,p x->p (f x)):∀ (n:Nat) (x:α),p x->p (iter f n x)
 | 0,_,a=>a
 | n+1,x,a=>Br h n (f x) (h x a)
theorem Qg {g:ai} (i:g.cU) {l:List aG} (j:cm l) (m:∀ x∈l,cD g x) (h:TD g l (Cy g l)=true):cP g l=Cy g l:=by
 have d:GQ g l (Cy g l):=Br (λo e=>Al o o e.2 e) _ l ⟨j,λx b=>.base b⟩
 simp only[TD,VD,VU,VH] at h
 refine AW i m d.1 d.2 h.1 λx b s k R n f hk p=>?_
 have h1:=h.2 x b
 obtain⟨a,q⟩:=VC.1 hk
 rw[I0 a] at hk
 simp only[Vr] at hk
 simp only[n,Xq,Xy,Xb,VH,VU,Wy,Xn,WD] at h1
 rcases h1 with h1 | h1
 .omega
 .rcases h1 k a with c | c
  .exact absurd (by rw[hk];exact p) c
  .exact c
def Fy (g:ai) (at_:Nat) (out:List aQ):List aQ:=(List.range (g.au.length+g.ak.length)).foldl (cW g (Cy g (out.getD at_ bJ).bj) at_) out
def Fw (g:ai):Nat->Nat->List aQ->Option (List aQ)
 | 0,_,_=>none
 | f+1,at_,out=>if at_ < out.length then
   (if TD g (out.getD at_ bJ).bj (Cy g (out.getD at_ bJ).bj)=true/\(Fy g at_ out).length<=300 then Fw g f (at_+1) (Fy g at_ out) else none)
  else some out
theorem HW {g:ai} (b:g.cU):∀ (f at_:Nat) (out a:List aQ),dG g at_ 0 out->Fw g f at_ out=some a->∀ k:Nat,f<=k->eW g k at_ out=(a,0)
 | 0,_,_,_,_,h,_,_=>by simp[Fw] at h
 | f+1,at_,out,a,l,h,k,hk=>by
  obtain⟨j,rfl⟩:∃ j,k=j+1:=⟨k - 1,by omega⟩
  rw[Fw] at h
  rw[eW]
  split at h
  .rename_i c
   rw[Vu c]
   split at h
   .rename_i m
    have hm:=VF (getD_some (d:=bJ) c)
    have i:=l.bj _ hm
    have e:ua g at_ out (g.au.length+g.ak.length)=Fy g at_ out:=by
     unfold ua Fy
     rw[Qg b i.1 i.2.2 m.1]
    have hr:=dG.row (l.lV b c).1 (l.lV b c).2 l (g.au.length+g.ak.length) (by have:=b.au;have:=b.ak;omega)
    rw[show (List.range (g.au.length+g.ak.length)).foldl (cW g (cP g (out.getD at_ bJ).bj) at_) out=ua g at_ out (g.au.length+g.ak.length) from rfl] at hr
    rw[e] at hr ⊢
    rw[Vs (by omega)]
    exact HW b f (at_+1) _ a hr.1.next h j (by omega)
   .simp at h
  .rename_i c
   rw[Vs c]
   simp only[Vr] at h
   rw[h]
theorem NW {g:ai} {w:List Int} : mL g w=true↔bM g=true/\w.length<=60/\∀ x∈w,0<=x/\x < g.au.length:=by
 unfold mL AY
 simp[and_assoc]
def LY:List aQ:=[⟨[⟨-1,0⟩],[⟨0,1⟩,⟨-1,2⟩]⟩,⟨[⟨0,1⟩],[⟨0,1⟩,⟨-1,3⟩]⟩,⟨[⟨-1,1⟩],[]⟩,⟨[⟨0,2⟩],[]⟩]
theorem Td:bA iR=(LY,0):=by
 have hr:isRed iR=true:=by kernel_rfl
 unfold bA
 rw[Vu hr]
 exact HW (oA hr) 10 0 dN LY kV (by kernel_rfl) 302 (by omega)
theorem Ve:bA rK=([],1):=by
 unfold bA
 rw[Vs (by rw[show isRed rK=false by kernel_rfl];simp)]
theorem TM:xL iR 1=(([0],[-1]),0):=by
 unfold xL
 rw[Td]
 have h:dH iR LY 1=([0],[-1]):=by kernel_rfl
 exact Prod.ext h rfl
theorem Ua:xL iR 4=(([],[]),11):=by
 unfold xL
 rw[Td]
 rfl
def LB:List xe:=[⟨0,0,[]⟩,⟨1,1,[0]⟩,⟨2,0,[]⟩,⟨3,1,[0]⟩]
theorem SH:uX iR=(LB,0):=by
 unfold uX
 rw[Td]
 have h:fh iR LY 4=(LB,0):=by kernel_rfl
 exact h
theorem TA:uX rK=([],1):=by
 unfold uX
 rw[Ve]
 rfl
noncomputable def RR:List (FuncId × DF):=vM Tryz.prog [(23,[]),(26,[])]
theorem Ln:qt Tryz.prog RR:=sB _ _
noncomputable def Rt:List Da:=[(44,[H8 Rs],zt iR,false),(24,[.agg (ag iR),gi 1],DD (([0],[-1]),0),true),(24,[.agg (ag iR),gi 4],DD (([],[]),11),true),
 (28,[.agg (ag iR)],FC (LB,0),true),(28,[.agg (ag rK)],FC ([],1),true)]
theorem QJ:∀ x∈Rt,x.Ok Tryz.prog:=by
 intro x a
 simp only[Rt,VJ,List.not_mem_nil,or_false] at a
 rcases a with rfl | rfl | rfl | rfl | rfl
 .exact⟨by kernel_rfl,.inl TR⟩
 .exact⟨by kernel_rfl,TM ▸ Dn iR nH.1 nH.2 1⟩
 .exact⟨by kernel_rfl,Ua ▸ Dn iR nH.1 nH.2 4⟩
 .exact⟨by kernel_rfl,SH ▸ D7 iR nH.1 nH.2⟩
 .exact⟨by kernel_rfl,TA ▸ D7 rK Tw ⟨by decide⟩⟩
theorem LU:aB Tryz.prog 23 [] (gb true) :=
 (pb mixed Ln (GP QJ) (by simp) (by kernel_rfl)).pure
def kE:SF:=⟨af [ae [cE 2 0,bm 4 false],af [ae [bf 17 23 [],c5 18 17],aZ 18 (af [ae [bm 4 false],.ret])],af [ae [bb 19 4 2,bf 20 14 [19]],aZ 20 (af [ae [bm 4 true],.ret])],ae [bb 22 4 2,bf 23 32 [22],aa 21 23,dJ 24 0 21,dJ 25 1 21,aa 5 24,aa 6 25],af [ae [aa 26 6,aF 27 .neq 26 0],aZ 27 (af [ae [bm 4 true],.ret])],ae [aa 28 1,((some 29),.op (.conv .i64 (.tmp 28))),aa 30 5,aN 31 30,aS 32 .rem 29 31,aa 7 32],ae [bb 34 4 2,aa 35 7,bf 36 24 [34,35],aa 33 36,dJ 37 0 33,dJ 38 1 33,dJ 39 2 33,aa 8 37,aa 9 38,aa 10 39],ae [aa 41 5,aa 42 8,qN 43 33 [(.tmp 41),(.val (.val (.int .i64 0))),(.tmp 42)],aa 40 43,dJ 44 0 40,dJ 45 1 40,aa 11 44,aa 12 45],af [.region false [⟨none,[aa 46 10,aF 47 .neq 46 0,aa 48 47]⟩,⟨(some (48,false)),[aa 49 12,c5 50 49]⟩,⟨none,[cx 51 48 50,aa 52 51]⟩,⟨(some (52,false)),[aa 53 11,aa 54 7,aS 55 .neq 53 54]⟩,⟨none,[cx 56 52 55]⟩],aZ 56 (af [ae [bm 4 false],.ret])],ae [((some 58),.op (.xg (some 4) (.tmp 2))),bT 59 2,aa 60 8,gp 61 1 8 59 60,aa 62 9,gp 63 1 8 61 62,bf 64 34 [58,63],aa 57 64,dJ 65 0 57,dJ 66 1 57,aa 13 65,aa 14 66],af [.region false [⟨none,[aa 67 14,aF 68 .neq 67 0,aa 69 68]⟩,⟨(some (69,false)),[aa 70 13,aN 71 70,aF 72 .gtr 71 10]⟩,⟨none,[cx 73 69 72]⟩],aZ 73 (af [ae [bm 4 true],.ret])],ae [bb 75 4 2,aa 76 13,bf 77 35 [75,76],aa 74 77,dJ 78 0 74,dJ 79 1 74,aa 15 78,aa 16 79],.region false [⟨none,[aa 80 15,aa 81 80]⟩,⟨(some (81,true)),[aa 82 16,aF 83 .eql 82 0]⟩,⟨none,[eV 84 81 83,aa 4 84]⟩],.ret],
 [.tmp 4],85⟩
theorem pY:aM Tryz.prog 7 [2]=some kE:=by kernel_rfl
theorem RO (g:ai) (k:IntKind) (y:Int):∀ v∈[V.agg (ag g),.val (.int k y)],Tree v:=by
 intro v a;simp at a
 rcases a with rfl | rfl
 .exact bW _ (cw g)
 .exact .val _
theorem De (g:ai) (k:g.Ok) (n:Int) (m:0<=n) (J:n<=65535):aB Tryz.prog 7 [.agg (ag g),.val (.int .u16 n)] (gb true):=by
 refine aB.val (RO g .u16 n) λH=>?_
 refine aw.of mixed pY ?_
 simp(disch:=omega)only[↓wr,seval,wq,kE,ag,encS]
 refine ax.pure LU ?_
 simp(disch:=omega)only[↓wr,seval,wq,ag,encS]
 refine ax.pure (P8 g) ?_
 simp(disch:=omega)only[↓wr,seval,wq]
 apply aj.split<;>intro e
 .simp(disch:=omega)only[↓wr,seval,wq]
 have o:=IV e
 have E:=(LL g k).pure
 simp only[ag,encS] at E
 simp(disch:=omega)only[↓wr,seval,wq,ag,encS]
 refine ax.pure E ?_
 simp(disch:=omega)only[↓wr,seval,wq]
 apply aj.ne<;>intro h
 .simp(disch:=omega)only[↓wr,seval,wq]
 obtain⟨hr,f,b⟩:=DK h
 have K:=zY hr
 have F:=f.pos
 have p:ct (b4 (bA g).1)=some (bA g).1.length:=by simp[b4,ct]
 obtain⟨i,hk,hi⟩:∃ i:Nat,n.tmod ((bA g).1.length:Int)=i/\i < (bA g).1.length:=by
  have h1:=Int.tmod_nonneg ((bA g).1.length:Int) m
  have Y:=Int.tmod_lt_of_pos n (show (0:Int) < ((bA g).1.length:Int) by omega)
  exact⟨(n.tmod ((bA g).1.length:Int)).toNat,by omega,by omega⟩
 have hw:xL g i=(dH g (bA g).1 i,0):=by
  unfold xL
  rw[Vs (by omega),Vs (by omega),V2]
 have h1:=Dn g k o i
 rw[hw] at h1
 obtain⟨Z,L,p3,p4,p5,M⟩:=xQ f b hi
 have G:(dH g (bA g).1 i).1.length<=86100/\(dH g (bA g).1 i).2.length<=600000/\(∀ s∈(dH g (bA g).1 i).1 ++ (dH g (bA g).1 i).2,bS s):=by
  have q:dH g (bA g).1 i=((dE (cz g (bA g).1) i).ah,eT g (dE (cz g (bA g).1) i).it ++ (dE (cz g (bA g).1) i).be):=rfl
  rw[q]
  exact⟨L,by simp only[VQ];omega,M⟩
 obtain⟨G,q2,N⟩:=G
 have r:=N0 f b hi
 have t:=PM f b hi
 have c:=Pp (bA g).1 (by unfold aI;omega) (f.Rm b) 0 (dH g (bA g).1 i).1 (by unfold aI;omega)
 rw[r] at c
 generalize (bA g).1=a at *
 generalize dH g a i=O at *
 obtain⟨x,y⟩:=O
 simp only at *
 have P:=Pg g k (x ++ y) (by simp;omega) N
 have u:=λh=>GZ (g:=g) (l:=x ++ y) h
 have A:=(IH (g:=g) (x ++ y)).2
 generalize dc g (x ++ y)=w at *
 obtain⟨w,Q⟩:=w
 simp only at *
 have B:=PG g k w (by unfold aI;omega)
 simp only[ag,encS] at h1
 simp only[encI] at c
 simp(disch:=omega)only[↓wr,seval,wq,p,ag,encS]
 rw[Vs (by omega),hk]
 simp(disch:=omega)only[↓wr,seval,wq,ag,encS]
 refine ax.pure h1 ?_
 simp(disch:=omega)only[↓wr,seval,wq,DD,encI]
 refine ax.pure c ?_
 simp(disch:=omega)only[↓wr,seval,wq]
 refine aj.ne (λh=>absurd rfl h) (λ_=>?_)
 simp(disch:=omega)only[↓wr,seval,wq,ag,encS,encI,mr]
 refine eL (es:=[]) .nil (by simp[WS,aH]) (by unfold aC;simp;omega) (by unfold aC;simp;omega) ?_
 intro u1 H1 R _
 simp(disch:=omega)only[↓wr,seval,wq,mr]
 refine eL R (by simp[WS,aH]) (by unfold aC;simp;omega) (by unfold aC;simp;omega) ?_
 intro S T U _
 have V:aO T S 1 (bw (x ++ y)):=by simpa using U
 simp(disch:=omega)only[↓wr,seval,wq,ag,encS]
 refine ax.mK P (by kernel_rfl) ⟨.tree (bW _ (cw g)),cn.own V (by
  intro e he v I
  obtain⟨z,_,rfl⟩:=VO.1 he
  simp at I;subst I;exact .val _),trivial⟩ ?_
 simp(disch:=omega)only[↓wr,seval,wq,AP,encI]
 apply aj.ne<;>intro h
 .simp(disch:=omega)only[↓wr,seval,wq]
 obtain rfl:Q=0:=h
 obtain⟨W,z2,z3⟩:=u rfl
 have C:mL g w=true:=NW.2 ⟨W,A,z3⟩
 have hT:=(oA hr).au
 have d:=B λz X=>by have:=z3 z X;unfold bS;omega
 have j:Gh g w=(true,0):=by rw[Gh,Vu C,t rfl]
 rw[j] at d
 simp only[ag,encS,encI,C1] at d
 simp(disch:=omega)only[↓wr,seval,wq]
 apply aj.dec<;>intro D
 .simp(disch:=omega)only[↓wr,seval,wq]
 simp(disch:=omega)only[↓wr,seval,wq,ag,encS]
 refine ax.pure d ?_
 simp(disch:=omega)only[↓wr,seval,wq]
end Gv
