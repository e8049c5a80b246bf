/-
  Part 17 of the proof: what the machine does and what the functions answer.
  Conditions: those that each lemma names.
-/
import Derived.Test.YtiophifnkakjgaaGreatSGzC4P
set_option linter.unusedSimpArgs false
set_option linter.unusedVariables false
set_option maxRecDepth 100000
set_option maxHeartbeats 20000000
namespace Gv
noncomputable section
open Go Go.Proofs
abbrev tH (g:ak) (a:List ba) (q:Nat) (us uf:V):List V:=[V.aY (g.ax.map df),.aY (g.av.map λs=>[gs s]),.aY (g.rules.map aQ),gi g.start,cq a,.mp q,us,uf]
def xw (H:View) (u:V) (l:List Int):Prop:=u=encI l∨∃n x d,u=.sl n d l.length 1/\H n=.arr 1 [[gi x]]/\d<=1/\l=[x].drop d
theorem xw.kI {H:View} {u:V} {l:List Int} (h:xw H u l):cm H u (encI l):=by
 rcases h with rfl | ⟨n,x,d,rfl,c,f,a⟩
 .exact .tree (bg l)
 .have g:l.length=1-d:=by rw[a];simp
  have:=cm.sl (off:=d) (len:=l.length) (esz:=1) c (by simp;omega) (by intro e he v b;simp at he;subst he;simp at b;subst b;exact .val _)
  rw[show (List.drop d [[gi x]]).take l.length=aO l by
   rw[a]
   match d,f with
   | 0,_=>rfl
   | 1,_=>rfl] at this
  exact this
theorem xw.keep {H H':View} {u:V} {l:List Int} (h:xw H u l) (hk:∀id,H id≠.dead->H' id=H id):xw H' u l:=by
 rcases h with rfl | ⟨n,x,d,h1,a,b,c⟩
 .exact .inl rfl
 .exact .inr ⟨n,x,d,h1,by rw[hk n (by rw[a];simp)];exact a,b,c⟩
def qK:SF:=⟨ai [ag [bZ 3 1,bL 4 1],ai [ag [aw 5 0 3,au 6 5,aI 7 .lss 6 0],aX 7 (ai [ag [af 8 0,fU 9 8,aw 10 0 9,aw 11 3 10,au 12 11,((some 13),.op (.arith .sub (.val (.val (.int .i64 (-1)))) (.tmp 12))),((some 14),.op (.bH 1 1 [(.val (.int .i64 0))] [(0,(.tmp 13))])),aw 15 1 3,au 16 15,((some 17),.op (.slice 1 (.tmp 14) (some (.tmp 16)) none)),af 4 17],.ret])],ag [af 18 0,fU 19 18,aw 20 0 19,aw 21 2 20,au 22 21,aw 23 0 3,au 24 23,aL 25 3 22 24,aw 26 1 25,au 27 26,aw 28 1 3,au 29 28,((some 30),.op (.slice 1 (.tmp 27) (some (.tmp 29)) none)),af 4 30],.ret],
 [.tmp 4],31⟩
theorem wy:aJ aa 127 [3]=some qK:=by kernel_rfl
def qg:SF:=⟨ai [ag [bZ 3 1],ai [.yj (212,7,9) [] [⟨none,[af 4 0,fU 5 4,aw 6 5 5,au 7 6,aw 8 0 3,aV 9 3 8,((some 10),.op (.old (.lookup 212 (.tmp 7) (.tmp 9) false) 3)),aI 11 .add 10 1,((some 12),.op (.old (.mapEntry 212 (.tmp 7) (.tmp 9)) 0)),c7 13 1 12,(none,.op (.old (.entryStore 212 (.tmp 7) (.tmp 13) (.tmp 11)) 0))]⟩],ag [af 14 0,fU 15 14,aw 16 5 15,au 17 16,aw 18 0 3,aV 19 3 18,((some 20),.op (.old (.lookup 212 (.tmp 17) (.tmp 19) false) 3)),aI 21 .gtr 20 1],aX 21 (.ret)],ai [ag [af 22 0,fU 23 22,aw 24 7 23,au 25 24,aw 26 0 3,aw 27 0 26,au 28 27,aL 29 1 25 28,au 30 29,aI 31 .lss 30 0],aX 31 (ag [af 32 0,fU 33 32,aw 34 7 33,au 35 34,aw 36 0 3,aw 37 0 36,au 38 37,af 39 0,fU 40 39,aw 41 6 40,au 42 41,aM 43 42,aL 44 1 35 38,cz 1 44 43])],ag [af 45 0,af 46 0,fU 47 46,aw 48 6 47,au 49 48,aV 50 5 3,((some 51),.op (.bH 1 5 [(.val (.int .i64 0)),(.val (.int .i64 0)),(.val (.int .i64 0)),(.emp 1),(.emp 1)] [(0,(.tmp 50))])),eZ 52 5 72 49 51,fU 53 45,aw 54 6 53,cz 1 54 52]],
 [],55⟩
theorem wv:aJ aa 125 [3,100000]=some qg:=by kernel_rfl
theorem Oo (g:ak) (o:bm (-1-g.start)) (a:List ba) (q:Nat) (us p:V) (b:Nat) (H:View) (j:H b=.arr 8 [tH g a q us p]) (x:aP) (s:cW g x):
  az aa 127 [.ptr b 0 0,.agg (bM x)] H λr H'=>xw H' r (dJ g x)/\cn H H' r:=by
 obtain⟨⟨v,w⟩,y,c⟩:=s
 unfold bm at o
 refine az.of mixed wy ?_
 simp(disch:=omega)only[↓wr,seval,wq,qK,bM]
 obtain⟨d,f⟩:∃d:Nat,x.dot=d:=⟨x.dot.toNat,by omega⟩
 unfold dJ
 unfold bV at c ⊢
 rw[f] at c ⊢
 rw[abM]
 apply ao.dec<;>intro h1
 .rw[abb (by omega)] at c ⊢
  simp at c
  simp(disch:=omega)only[↓wr,seval,wq,j]
  intro n t
  simp(disch:=omega)only[↓wr,seval,wq,pU (sz:=1) (id:=n) (off:=0) (k:=1) (m:=d) (by omega)]
  refine⟨.inr ⟨n,-1-g.start,d,?_,by simp[View.set],by omega,rfl⟩,λid h=>?_⟩
  .simp
  .have e:¬ id=n:=by rintro rfl;exact h t
   exact⟨by simp[View.set,e],by simp[owner,Ne.symm e]⟩
 .rw[aa9 (by omega)] at c ⊢
  have u:g.rules[x.aB.toNat]?=some (cd g x.aB):=by unfold cd;exact getD_some (by omega)
  have i:=qM (l:=(cd g x.aB).right) (k:=d) (by omega)
  simp(disch:=omega)only[↓wr,seval,wq,j,aQ,encI,aba,u,i]
  exact⟨.inl rfl,λ_ _=>⟨rfl,by simp[owner]⟩⟩
def J7 (m:cH An) (l:List bN) (B:Nat):Prop:=∀k:An,∃n:Nat,(getM m k).getD (gi 0)=gi n/\n<=B/\(n=0↔∀x∈l,jx x≠k)
def fC (a:List ba) (l:List bN):List Int:=(List.range a.length).map λ(i:Nat)=>gX l i 0
structure aai (H:View) (b:Nat) (g:ak) (a:List ba) (l:List bN) (B:Nat) (q:Nat) (us uf:V) (S:List eK) (m:cH An) (c:Nat) (K:List ez):Prop where
 own:bw H ((us,5,S.map dM)::(uf,1,aO (fC a l))::(.sl b 0 1 8,8,[tH g a q us uf])::K)
 map:H q=.map (cY vX m) c
 born:lg m c
 seen:J7 m l B
 is:S.map eK.n=l
 ok:∀y∈S,y.Ok
def fN (H:View) (b:Nat) (g:ak) (a:List ba) (l:List bN) (B:Nat) (K:List ez):Prop:=∃q us uf S m c,aai H b g a l B q us uf S m c K
theorem Ar (i:Int):∀(l:List bN) (n:Nat),gX l i n<0->gX l i n = -1
 | [],_,_=>rfl
 | x::l,n,h=>by
  rw[gX] at h ⊢
  split
  .rename_i e;rw[abb e] at h;omega
  .rename_i e;rw[aa9 e] at h;exact Ar i l (n+1) h
theorem Jx (i:Int):∀(l:List bN) (n:Nat),gX l i n<(n+l.length:Nat)
 | [],n=>by rw[gX];omega
 | x::l,n=>by
  rw[gX]
  split
  .simp only[abl];omega
  .have:=Jx i l (n+1)
   simp only[abl];omega
theorem Ks {l:List bN} {x:bN} : l.any (jA x)=true↔∃y∈l,jx y=jx x:=by
 rw[acE]
 refine⟨λ⟨y,a,h⟩=>⟨y,a,?_⟩,λ⟨y,a,h⟩=>⟨y,a,?_⟩⟩
 .rw[<-IH,ab9] at h;exact h.symm
 .rw[<-IH,ab9];exact h.symm
theorem J7.put {m:cH An} {l:List bN} {B c c0:Nat} (h:J7 m l B) (x:bN) {n:Nat} (g:(getM m (jx x)).getD (gi 0)=gi n) (v:V):J7 (bP (jx x) (gi (n+1:Nat)) c0 (bP (jx x) v c m)) (iY l x) (B+1):=by
 intro k
 obtain⟨j,h1,p,i⟩:=h k
 rw[lz]
 have hm:∀z,z∈iY l x↔z∈l∨(z=x/\l.any (jA x)=false):=λz=>by
  unfold iY
  split
  .rename_i e;rw[e];simp
  .rename_i e;simp only[Bool.not_eq_true] at e;rw[e];simp
 by_cases e:k=jx x
 .subst e
  refine⟨n+1,by simp,?_,⟨λe=>by omega,λe=>?_⟩⟩
  .rw[g] at h1
   simp at h1
   omega
  .exfalso
   by_cases d:l.any (jA x)=true
   .obtain⟨y,o,hk⟩:=Ks.1 d
    exact e y ((hm y).2 (.inl o)) hk
   .exact e x ((hm x).2 (.inr ⟨rfl,by simpa using d⟩)) rfl
 .have f:(k==jx x)=false:=by simpa using e
  refine⟨j,?_,by omega,i.trans ⟨λb z a=>?_,λb z a=>b z ((hm z).2 (.inl a))⟩⟩
  .rw[f]
   simp only[abI,if_false]
   rw[lz,f]
   simpa using h1
  .rcases (hm z).1 a with a | ⟨rfl,_⟩
   .exact b z a
   .exact Ne.symm e
theorem P9 {a:List ba} {l:List bN} {x:bN} : fC a (l++[x])=if gX l x.st 0<0 then (fC a l).set x.st l.length else fC a l:=by
 unfold fC
 apply List.ext_getElem?
 intro i
 rw[aba]
 by_cases hi:i<a.length
 .rw[acG hi,abk,F4,abX]
  split
  .rename_i b
   by_cases e:x.st=i
   .subst e
    rw[abb rfl,abb b,ac1 (by simpa using hi)]
   .rw[aa9 (by omega)]
    split
    .rw[List.getElem?_set_ne e,aba,acG hi,abk,Ar _ _ _ b]
    .rw[aba,acG hi,abk,Ar _ _ _ b]
  .rename_i c
   split
   .rename_i d
    have e:x.st≠i:=by rintro rfl;exact c d
    rw[List.getElem?_set_ne e,aba,acG hi,abk]
   .rw[aba,acG hi,abk]
 .rw[abL (by simpa using hi)]
  split
  .rw[abL (by simpa using hi)];rfl
  .rw[abL (by simpa using hi)];rfl
theorem SE {H:View} {L:List ez} (h:bw H L) {q c:Nat} {es:List (V × V × Nat)} (a:H q=.map es c) {n k sz:Nat} {xs:List (List V)} (hm:(.sl n 0 k sz,sz,xs)∈L):n≠q:=by
 rintro rfl
 exact h.JY a _ hm rfl
theorem Ia (g:ak) (a:List ba) (b:Nat) (l:List bN) (B:Nat) (hB:B<1000000000000) (hl:l.length<=90000) (x:eK) (hx:x.Ok) (ab:x.n.st<a.length) (K:List ez) (H:View) (hW:fN H b g a l B K):
  az aa 125 [.ptr b 0 0,.agg (dM x)] H λ_ H'=>fN H' b g a (iY l x.n) (B+1) K:=by
 obtain⟨q,us,uf,S,m,c,w⟩:=hW
 have D:eR aa 212=some (218,3):=by kernel_rfl
 have hz:zeroV aa 3=some (gi 0):=by kernel_rfl
 have j:=VV
 have O:=TI hx
 obtain⟨⟨P,ae,_⟩,⟨Q,al,_⟩⟩:=And.intro hx.a.eL hx.b.eL
 simp only[dM] at O
 obtain⟨n,d,a8,an⟩:=w.seen (jx x.n)
 have hb:=w.own.is 2 rfl (by simp)
 have R:=w.map
 have T:¬ b=q:=λe=>by rw[e,R] at hb;simp at hb
 refine az.of mixed wv ?_
 simp(disch:=omega)only[↓wr,seval,wq,qg,dM,P,Q,hb]
 refine J0 (kv:=vX) (kt:=218) (et:=3) (z:=gi 0) D hz j (id:=q) (c:=c) (m:=m) (k:=jx x.n) (by first | rfl | simp(disch:=omega)only[↓wr,seval,wq]) (by first | rfl | (simp(disch:=omega)only[↓wr,seval,wq];rfl)) R ?_
 rw[d]
 simp(disch:=omega)only[↓wr,seval,wq]
 refine Rh (kv:=vX) (kt:=218) (et:=3) (z:=gi 0) D hz j (id:=q) (c:=c) (m:=m) (k:=jx x.n) (by first | rfl | simp(disch:=omega)only[↓wr,seval,wq]) (by first | rfl | (simp(disch:=omega)only[↓wr,seval,wq];rfl)) R w.born λb1 p J L=>?_
 rw[d] at J L ⊢
 simp(disch:=omega)only[↓wr,seval,wq]
 have ek:V.val (.int .i64 ((n:Int)+1))=gi (n+1:Nat):=by simp
 refine R8 (kv:=vX) (id:=q) (c:=p) (b:=b1) (m:=bP (jx x.n) (gi n) c m) (k:=jx x.n) (v:=gi (n+1:Nat)) (by first | rfl | simp(disch:=omega)only[↓wr,seval,wq]) (by first | rfl | simp(disch:=omega)only[↓wr,seval,wq]) (by first | exact ek | (simp(disch:=omega)only[↓wr,seval,wq];exact ek)) (by simp[View.set]) J L λc0=>?_
 simp(disch:=omega)only[↓wr,seval,wq]
 refine⟨YB (kv:=vX) (k:=jx x.n) D hz j R w.born,?_⟩
 rw[set_set]
 have r:=w.seen.put (c:=c) (c0:=c0) x.n d (gi n)
 have M:=J.Vz L (gi (n+1:Nat)) c0
 have G:getM (bP (jx x.n) (gi (n+1:Nat)) c0 (bP (jx x.n) (gi n) c m)) (jx x.n)=some (gi (n+1:Nat)):=by rw[lz];simp
 generalize bP (jx x.n) (gi (n+1:Nat)) c0 (bP (jx x.n) (gi n) c m)=m2 at r M G ⊢
 have s:=w.own.F5 R (o:=.map (cY vX m2) p)
 have i:(H.set q (.map (cY vX m2) p)) q=.map (cY vX m2) p:=by simp[View.set]
 generalize View.set H q (.map (cY vX m2) p)=H2 at s i ⊢
 have E:=s.is 2 rfl (by simp)
 simp only[aa9 T,hb]
 simp(disch:=omega)only[↓wr,seval,wq]
 refine J0 (kv:=vX) (kt:=218) (et:=3) (z:=gi 0) D hz j (id:=q) (c:=p) (m:=m2) (k:=jx x.n) (by first | rfl | simp(disch:=omega)only[↓wr,seval,wq]) (by first | rfl | (simp(disch:=omega)only[↓wr,seval,wq];rfl)) i ?_
 rw[G,abp]
 simp(disch:=omega)only[↓wr,seval,wq]
 have I:l.any (jA x.n)=true↔¬ n=0:=by
  rw[Ks,an]
  constructor
  .rintro⟨y,C,e⟩ h;exact h y C e
  .intro h
   refine acF λU=>h λy C e=>U ⟨y,C,e⟩
 apply ao.dec<;>intro h1
 .simp(disch:=omega)only[↓wr,seval,wq]
  have t:iY l x.n=l:=abb (I.2 (by omega))
  rw[t] at r ⊢
  exact⟨q,us,uf,S,m2,p,s,i,M,r,w.is,w.ok⟩
 have t:iY l x.n=l++[x.n]:=aa9 (λe=>by have:=I.1 e;omega)
 rw[t] at r ⊢
 have hlen:S.length=l.length:=by rw[<-w.is,abc]
 have u:(fC a l).length=a.length:=by simp[fC]
 obtain⟨N,W,hF⟩:=(s.own 1 rfl).sl (by simp[u];omega)
 rw[abc,u] at W
 subst W
 have X:(aO (fC a l)).getD x.n.st []=[gi (gX l x.n.st 0)]:=by
  rw[aO,aa7,aba,fC,aba,acG ab];rfl
 have bd:=Jx x.n.st l 0
 have f:=P9 (a:=a) (l:=l) (x:=x.n)
 simp(disch:=omega)only[↓wr,seval,wq,E,hF,X]
 refine⟨by omega,by simp[u];omega,?_⟩
 have aq:cE us=some S.length:=by rw[(s.own 0 rfl).len,abc]
 apply ao.dec<;>intro U
 focus
  rw[abb U] at f
  simp(disch:=omega)only[↓wr,seval,wq,E,hF,X,aq]
  refine⟨by omega,by simp[u];omega,?_⟩
  have Y:¬ b=N:=s.OT 2 1 rfl rfl (by decide)
  have F:=((s.at 1 (by simp)).put (es':=aO ((fC a l).set x.n.st l.length)) (by simp) (by simp[u]))
  rw[<-f] at F
  have A:(H2.set N (.arr 1 (aO (fC a (l++[x.n]))))) q=.map (cY vX m2) p:=by
   have:=SE s i (abx _ (acg ..))
   simp[View.set,Ne.symm this,i]
  rw[hlen,show (aO (fC a l)).set x.n.st [gi (l.length:Int)]=aO (fC a (l++[x.n])) by rw[f];exact acR.symm]
  simp only[ack,acm] at F
  generalize View.set H2 N (.arr 1 (aO (fC a (l++[x.n]))))=H3 at F A ⊢
  replace F:=F.perm (.swap _ _ _)
  simp only[aa9 Y]
 rotate_left
 focus
  rw[aa9 U] at f
  simp(disch:=omega)only[↓wr,seval,wq]
  rw[<-f] at s
  have F:=s
  have A:=i
  clear s i
  generalize H2=H3 at F A ⊢
 all_goals (
  have Z:=F.is 2 rfl (by simp)
  simp(disch:=omega)only[↓wr,seval,wq,Z,P,Q]
  intro n1 d
  have bl:¬ b=n1:=by rintro rfl;rw[Z] at d;simp at d
  have ar:¬ q=n1:=by rintro rfl;rw[A] at d;simp at d
  have o4:=F.fresh (o:=.arr 5 [[gi x.n.st,gi x.n.it.aB,gi x.n.it.dot,x.a,x.b]]) d
  simp(disch:=omega)only[↓wr,seval,wq,bD]
  refine dC o4 O (by unfold aE;simp;omega) (by unfold aE;simp;omega) ?_
  intro u5 H5 o5 l5
  have a1:=o5.is 2 rfl (by simp)
  have a6:H5 q=.map (cY vX m2) p:=l5.map (o4.own 0 rfl) (by simp[View.set,ar,A])
  have cu:=(o5.own 0 rfl).cells
  have ku:=(o5.own 0 rfl).eL
  simp(disch:=omega)only[↓wr,seval,wq,a1,cu,ku]
  have o6:=((o5.at 2 (by simp)).put (es':=[tH g a q u5 (.sl N 0 a.length 1)]) rfl rfl)
  have a7:(H5.set b (.arr 8 [tH g a q u5 (.sl N 0 a.length 1)])) q=.map (cY vX m2) p:=by
   simp[View.set,Ne.symm T,a6]
  simp only[ack,acm] at o6
  refine⟨q,u5,.sl N 0 a.length 1,S++[x],m2,p,?_,a7,M,r,by rw[abA,w.is];rfl,λy C=>?_⟩
  .rw[abA]
   exact o6.perm (List.Perm.trans (.swap _ _ _) (.cons _ (.swap _ _ _)))
  .rcases abq.1 C with C | C
   .exact w.ok y C
   .simp at C;subst C;exact hx)
theorem cm.two {H:View} {q:Nat} {v1 v2 t1 t2:V} (b:H q=.arr 1 [[v1],[v2]]) (h1:cm H v1 t1) (c:cm H v2 t2):cm H (.sl q 0 2 1) (.aY [[t1],[t2]]):=by
 rintro h rfl
 refine .sl q 0 2 1 1 [[v1],[v2]] [[t1],[t2]] b (by simp) rfl (λi hi=>?_) (λi j hi a=>?_)
 .match i,hi with
  | 0,_=>rfl
  | 1,_=>rfl
 .match i,hi with
  | 0,_ =>
   have:j=0:=by simp at a;omega
   subst this
   exact h1 h rfl
  | 1,_ =>
   have:j=0:=by simp at a;omega
   subst this
   exact c h rfl
theorem uJ (x y:List Int) (a:x.length+y.length<=1000000):bX aa 68 [.aY [[encI x],[encI y]]] (encI (x++y)):=by
 have:=TC [x,y] (by simp;omega) (by simp)
 simpa using this
theorem eJ.Xr {g:ak} {a:List ba} (b:eJ g a) (d:a.length<=300):∀s∈a,aG s.cG/\∀e∈s.cG,bm e.sym/\bm e.to:=λs c=>⟨by have:=b.ok.cG s c;unfold aG;omega,λe he=>by
 have h1:=b.ok.sym s c e he
 have f:=b.ok.to s c e he
 unfold bm;omega⟩
theorem fN.up {H:View} {b:Nat} {g:ak} {a:List ba} {l:List bN} {B B':Nat} {K:List ez} (h:fN H b g a l B K) (f:B<=B'):fN H b g a l B' K:=by
 obtain⟨q,us,d,S,m,c,w⟩:=h
 exact⟨q,us,d,S,m,c,w.own,w.map,w.born,λk=>by
  obtain⟨n,h1,i,e⟩:=w.seen k
  exact⟨n,h1,by omega,e⟩,w.is,w.ok⟩
theorem fN.fresh {H:View} {b:Nat} {g:ak} {a:List ba} {l:List bN} {B:Nat} {K:List ez} (h:fN H b g a l B K) {n:Nat} (d:H n=.dead) {o:ct} : fN (H.set n o) b g a l B K:=by
 obtain⟨q,us,e,S,m,c,w⟩:=h
 refine⟨q,us,e,S,m,c,w.own.fresh d,?_,w.born,w.seen,w.is,w.ok⟩
 have:¬ q=n:=by rintro rfl;have:=w.map;rw[d] at this;simp at this
 simp[View.set,this,w.map]
theorem fN.stay {H H':View} {b:Nat} {g:ak} {a:List ba} {l:List bN} {B:Nat} {K:List ez} (h:fN H b g a l B K) (hk:∀id,H id≠.dead->H' id=H id):fN H' b g a l B K:=by
 obtain⟨q,us,d,S,m,c,w⟩:=h
 exact⟨q,us,d,S,m,c,w.own.stay hk,by rw[hk q (by rw[w.map];simp)];exact w.map,w.born,w.seen,w.is,w.ok⟩
theorem FY {α:Type} {x y z e:α} {K:List α} : (x::y::z::e::K).Perm (e::x::y::z::K):=adj (l₁:=[x,y,z])
theorem fN.drop {H:View} {b:Nat} {g:ak} {a:List ba} {l:List bN} {B:Nat} {e:ez} {K:List ez} (h:fN H b g a l B (e::K)):fN H b g a l B K:=by
 obtain⟨q,us,d,S,m,c,w⟩:=h
 exact⟨q,us,d,S,m,c,(w.own.perm FY).tail,w.map,w.born,w.seen,w.is,w.ok⟩
theorem fN.add {H:View} {b:Nat} {g:ak} {a:List ba} {l:List bN} {B:Nat} {K:List ez} (h:fN H b g a l B K) {H':View} {u:V} {sz:Nat} {es:List (List V)} (e:aN H' u sz es) (d:cn H H' u):fN H' b g a l B ((u,sz,es)::K):=by
 obtain⟨q,us,f,S,m,c,w⟩:=h
 exact⟨q,us,f,S,m,c,(w.own.Hs e d).perm FY.symm,by rw[(d q (by rw[w.map];simp)).1];exact w.map,w.born,w.seen,w.is,w.ok⟩
theorem fN.box {H:View} {b:Nat} {g:ak} {a:List ba} {l:List bN} {B:Nat} {K:List ez} (h:fN H b g a l B K):∃q us d,H b=.arr 8 [tH g a q us d]:=by
 obtain⟨q,us,d,S,m,c,w⟩:=h
 exact⟨q,us,d,w.own.is 2 rfl (by simp)⟩
def nF:SC:=
 ai [ag [aS 66 .lss 65 64],bO 66 (.exit 0),.block 1 (ai [ag [af 67 65,aL 68 3 63 65,aV 69 3 68,((some 10),.op (.alloc [(.val (.int .i64 0)),(.emp 1),(.val (.int .i64 0))])),af 9 67,cz 3 10 69],ag [aw 70 0 10,au 71 70,af 72 5,((some 73),.op (.arith .sub (.val (.val (.int .i64 (-1)))) (.tmp 72))),aS 74 .eql 71 73],aX 74 (ag [af 75 0,aw 76 0 3,aw 77 0 76,au 78 77,af 79 9,((some 80),.op (.build [(.val (.int .i64 0)),(.val (.int .i64 0))] [(0,1,(.tmp 79))])),((some 81),.op (.build [(.val (.int .i64 0)),(.val (.int .i64 0)),(.val (.int .i64 0))] [(0,1,(.tmp 78)),(1,2,(.tmp 80))])),aw 82 3 3,au 83 82,af 84 4,((some 85),.op (.slice 1 (.tmp 84) (some (.val (.val (.int .i64 1)))) none)),aw 86 4 3,au 87 86,((some 88),.op (.bH 2 1 [(.emp 1)] [(0,(.tmp 85)),(1,(.tmp 87))])),((some 89),.qb (.val (.fn 68 [] [])) [(.tmp 88)]),((some 90),.op (.build [(.val (.int .i64 0)),(.val (.int .i64 0)),(.val (.int .i64 0)),(.emp 1),(.emp 1)] [(0,3,(.tmp 81)),(3,1,(.tmp 83)),(4,1,(.tmp 89))])),aU 91 125 [75,90]])]),ag [aI 92 .add 65 1,af 65 92]]
def pN:SF:=⟨ai [ag [bZ 3 1],ag [af 11 0,aw 12 0 3,aw 13 1 12,aV 14 2 13,aU 15 127 [11,14],af 4 15],ai [ag [af 16 4,aM 17 16,aI 18 .eql 17 0],aX 18 (.ret)],ag [af 19 4,((some 20),.op (.idx 1 (.tmp 19) (.val (.val (.int .i64 0))))),au 21 20,af 5 21],ag [af 23 0,fU 24 23,aw 25 4 24,au 26 25,aw 27 0 3,aw 28 0 27,au 29 28,af 30 4,((some 31),.op (.slice 1 (.tmp 30) none (some (.val (.val (.int .i64 1)))))),aU 32 193 [26,29,31],af 22 32,c7 33 0 22,c7 34 1 22,af 6 33,af 7 34],ag [aw 35 0 3,aw 36 1 35,aw 37 0 36,au 38 37,aw 39 0 3,aw 40 1 39,aw 41 1 40,au 42 41,aI 43 .add 42 1,((some 44),.op (.build [(.val (.int .i64 0)),(.val (.int .i64 0))] [(0,1,(.tmp 38)),(1,1,(.tmp 43))])),((some 8),.op (.alloc [(.val (.int .i64 0)),(.val (.int .i64 0))])),cz 2 8 44],ag [af 45 0,af 46 6,aV 47 2 8,((some 48),.op (.build [(.val (.int .i64 0)),(.val (.int .i64 0)),(.val (.int .i64 0))] [(0,1,(.tmp 46)),(1,2,(.tmp 47))])),aw 49 3 3,au 50 49,af 51 4,((some 52),.op (.slice 1 (.tmp 51) none (some (.val (.val (.int .i64 1)))))),((some 53),.op (.bH 2 1 [(.emp 1)] [(0,(.tmp 50)),(1,(.tmp 52))])),((some 54),.qb (.val (.fn 68 [] [])) [(.tmp 53)]),aw 55 4 3,au 56 55,((some 57),.op (.build [(.val (.int .i64 0)),(.val (.int .i64 0)),(.val (.int .i64 0)),(.emp 1),(.emp 1)] [(0,3,(.tmp 48)),(3,1,(.tmp 54)),(4,1,(.tmp 56))])),aU 58 125 [45,57]],ag [af 59 0,fU 60 59,aw 61 0 60,aw 62 2 61,au 63 62,aM 64 63,aT 65 0],bR 0 nF],
 [],93⟩
theorem vQ:aJ aa 126 [3,200054,200089]=some pN:=by kernel_rfl
theorem Vr (g:ak) (hg:g.Ok) (a:List ba) (D:eJ g a) (h3:a.length<=300) (b:Nat) (l:List bN) (hl:kc g a l) (s:eK) (hs:s.Ok) (i:Nat) (hi:l[i]?=some s.n) (B:Nat) (hB:B<100000000) (K:List ez) (H:View) (hW:fN H b g a l B K):
  az aa 126 [.ptr b 0 0,.agg (dM s)] H λ_ H'=>fN H' b g a (gq g a l s.n) (B+41) K:=by
 have U:=D.jf
 have hT:=U.ax;have hN:=U.av;have ck:=U.rules
 have f:=hl.nd s.n (abi hi)
 have A:=D.has f.lt f.it
 have cA:=hl.len i s.n hi
 have cC:=(abf.1 hi).1
 have cI:=hl.short D h3
 have cN:=f.small D
 have cu:=j8 U
 have b1:=A
 obtain⟨⟨cS,cV⟩,da,db⟩:=b1
 obtain⟨⟨E,F,dc⟩,⟨W,X,dj⟩⟩:=And.intro hs.a.eL hs.b.eL
 obtain⟨q,us,uf,hb⟩:=hW.box
 have p:=Oo g (by unfold bm;omega) a q us uf b H hb s.n.it A
 simp only[bM] at p
 have G:aG a:=by unfold aG;omega
 refine az.of mixed vQ ?_
 simp(disch:=omega)only[↓wr,seval,wq,pN,dM,E,W]
 refine ay.cF (p.mono ?_)
 clear p
 rintro u H1 ⟨hu,Y⟩
 have ar:cE u=some (dJ g s.n.it).length:=by
  rcases hu with rfl | ⟨n,x,d,rfl,_⟩
  .simp[encI,cE]
  .rfl
 have a1:(dJ g s.n.it).length=(bV g s.n.it.aB).length-s.n.it.dot.toNat:=by unfold dJ;simp
 simp(disch:=omega)only[↓wr,seval,wq,ar]
 apply ao.eq<;>intro he
 .simp(disch:=omega)only[↓wr,seval,wq]
  have J:(bI g s.n.it).2=false:=by
   unfold bI
   rw[abb (by omega)]
  have:gq g a l s.n=l:=by
   unfold gq
   rw[aa9 (by rw[J];simp)]
  rw[this]
  exact(hW.stay λid Z=>(Y id Z).1).up (by omega)
 obtain⟨y,J⟩:∃y,bI g s.n.it=(y,true):=by
  unfold bI
  rw[aa9 (by omega)]
  exact⟨_,rfl⟩
 obtain⟨f1,f2⟩:=pn A J
 have b2:gq g a l s.n=kg g s.n y g.rules.length (iY l ⟨jk a s.n.st y,⟨s.n.it.aB,s.n.it.dot+1⟩,s.n.ah++[y],s.n.be⟩):=by
  unfold gq
  rw[J,abb rfl]
 rw[b2]
 rw[f1] at hu ar a1
 obtain⟨s1,s2,s3,s4⟩:=D.step f.lt f.it J
 obtain⟨_,_,_,_,_,b3⟩:=D.jk s1
 have ab:dS g y=true:=vA U A J
 have b4 : -100<=y/\y<=100:=by
  unfold dS at ab
  split at ab<;>simp at ab<;>omega
 have cv:(gY g s.n.it).length<=6:=by
  have:=ed U (r:=s.n.it.aB) ⟨by omega,by omega⟩
  simp only[abl] at a1
  omega
 obtain⟨m1,m2,m3⟩:=Fo D hl (f.move D J) (by simp only[abv,abl,abG];omega) (by simp only;omega)
 have hle:l.length<=(iY l ⟨jk a s.n.st y,⟨s.n.it.aB,s.n.it.dot+1⟩,s.n.ah++[y],s.n.be⟩).length:=by obtain⟨t,ht⟩:=m2;rw[ht];simp
 have b5:=λk hk=>GM D f J k _ hk m1 (by omega) (by omega)
 have ae:=Wg a G (D.Xr h3) s.n.st [y] (by unfold aG;simp)
 rw[b3] at ae
 have L:=uJ s.n.ah [y] (by simp;omega)
 have M:=uJ (gY g s.n.it) s.n.be (by omega)
 generalize a6:gY g s.n.it=rs at *
 have al:∃N O P,(u=encI (y::rs)∨∃n,u=.sl n 0 1 1/\H1 n=.arr 1 [[gi y]])/\c6 1 u none (some (gi 1))=some (O,.none,[])/\c6 1 u (some (gi 1)) none=some (P,.none,[])/\aK O=true/\V.cells O=[O]/\aK P=true/\V.cells P=[P] /\
   (∀H' e1 e2 e3,bw H' (e1::e2::e3::N)->cm H' O (encI [y])/\cm H' P (encI rs))/\(∀H' l B,fN H' b g a l B N->fN H' b g a l B K)/\fN H1 b g a l B N:=by
  rcases hu with rfl | ⟨n,x,d,rfl,h2,h4,h5⟩
  .refine⟨K,encI [y],encI rs,.inl rfl,?_,?_,rfl,rfl,rfl,rfl,λH' _ _ _ _=>⟨.tree (bg _),.tree (bg _)⟩,λ_ _ _ h=>h,hW.stay λid Z=>(Y id Z).1⟩
   .exact uU (l:=y::rs) (k:=1) (by simp)
   .exact qM (l:=y::rs) (k:=1) (by simp)
  .match d,h4 with
   | 0,_ =>
    simp only[ab8,List.cons.injEq] at h5
    obtain⟨rfl,rfl⟩:=h5
    refine⟨(.sl n 0 1 1,1,[[gi y]])::K,.sl n 0 1 1,.sl n 1 0 1,.inr ⟨n,rfl,h2⟩,?_,?_,rfl,rfl,rfl,rfl,λH' e1 e2 e3 ho=>?_,λ_ _ _ h=>h.drop,hW.add (.inr ⟨n,rfl,h2⟩) Y⟩
    .exact pZ (sz:=1) (id:=n) (off:=0) (k:=1) (m:=1) (by omega)
    .exact pU (sz:=1) (id:=n) (off:=0) (k:=1) (m:=1) (by omega)
    .have hH:=ho.is 3 rfl (by simp)
     have t:∀e∈[[gi y]],∀v∈e,Tree v:=by intro e he v hv;simp at he;subst he;simp at hv;subst hv;exact .val _
     have r1:xw H' (.sl n 0 [y].length 1) [y]:=.inr ⟨n,y,0,rfl,hH,by omega,rfl⟩
     have r2:xw H' (.sl n 1 ([]:List Int).length 1) []:=.inr ⟨n,y,1,rfl,hH,by omega,rfl⟩
     exact⟨r1.kI,r2.kI⟩
   | 1,_=>simp at h5
 obtain⟨N,O,P,b7,I,a7,c1,c2,c3,c4,b8,a8,an⟩:=al
 clear hW hu
 obtain⟨q1,dm,ds,bd⟩:=an.box
 have z:∀H' l B,fN H' b g a l B N->cm H' O (encI [y])/\cm H' P (encI rs):=λH' l B h=>by
  obtain⟨q,us,uf,S,m,c,w⟩:=h
  exact b8 H' _ _ _ w.own
 have b9:eK.Ok ⟨⟨jk a s.n.st y,⟨s.n.it.aB,s.n.it.dot+1⟩,s.n.ah++[y],s.n.be⟩,encI (s.n.ah++[y]),s.b⟩:=⟨.inl rfl,hs.b⟩
 have ca:∀k:Nat,eK.Ok ⟨⟨s.n.st,⟨k,0⟩,s.n.ah,rs++s.n.be⟩,s.a,encI (rs++s.n.be)⟩:=λk=>⟨hs.a,.inl rfl⟩
 have Q:=a7
 obtain⟨u',bl⟩:∃u',u=u':=⟨u,rfl⟩
 rw[bl] at Q
 have aq:∀(x:Int) (t:Bool),Ay (.bc [gi x,gb t]):=λx t=>.bc _ λi hi=>by
  match i,hi with
  | 0,_=>exact⟨_,rfl⟩
  | 1,_=>exact⟨_,rfl⟩
 have cb:∀k:Nat,k<g.rules.length->g.rules[k]?=some (cd g k):=λk hk=>by unfold cd;exact getD_some (by simpa using hk)
 simp only[encI] at ae L M
 rcases b7 with rfl | ⟨n,rfl,cc⟩
 focus
  simp only[encI,abE] at I a7
  simp(disch:=omega)only[↓wr,seval,wq,encI,bd,I,abB]
 rotate_left
 focus
  simp(disch:=omega)only[↓wr,seval,wq,bd,cc,I]
 all_goals (
  refine ay.Av ae (by kernel_rfl) (aq _ _) ⟨.tree (nR a),.tree (.val _),(z _ _ _ an).1,trivial⟩ ?_
  simp(disch:=omega)only[↓wr,seval,wq]
  intro n8 bn
  have w2:=an.fresh (o:=.arr 2 [[gi s.n.it.aB,gi (s.n.it.dot+1)]]) bn
  simp(disch:=omega)only[↓wr,seval,wq,I,c1,c2,E,F]
  rw[set_set]
  intro n9 C
  obtain⟨cf,C⟩:=cp C cw
  obtain⟨_,C⟩:=cp C cw
  have w3:=w2.fresh (n:=n9) (o:=.arr 1 [[s.a],[O]]) (by simp[View.set,cf,C])
  try simp(disch:=omega)only[↓wr,seval,wq,dM]
  refine ay.gV L (by kernel_rfl) ⟨cm.two (by simp[View.set]) hs.a.kI (z _ _ _ w3).1,trivial⟩ ?_
  simp(disch:=omega)only[↓wr,seval,wq,W,X]
  have hm:=Ia g a b l B (by omega) (by omega) _ b9 s4 N _ w3
  simp only[dM,encI] at hm
  refine ay.cF (hm.mono ?_)
  clear hm
  rintro _ H5 w5
  obtain⟨q5,dv,ea,br⟩:=w5.box
  simp(disch:=omega)only[↓wr,seval,wq,br]
  refine aW.up g.rules.length (λk T H'=>fN H' b g a (kg g s.n y k (iY l ⟨jk a s.n.st y,⟨s.n.it.aB,s.n.it.dot+1⟩,s.n.ah++[y],s.n.be⟩)) (B+1+k) N/\T 0=.ptr b 0 0/\T 3=.aR (dM s) 0/\T 4=u'/\T 5=gi y/\T 63=.aY (g.rules.map aQ)/\T 64=gi g.rules.length/\T 65=gi k)
   ⟨w5,rfl,rfl,bl,rfl,rfl,rfl,rfl⟩ ?_
  clear w2 w3 w5 br bn C
  rintro k kk T H6 bs ⟨w6,t0,t3,t4,t5,t63,t64,t65⟩
  simp(disch:=omega)only[↓wr,seval,wq,nF,t64,t65]
  apply ao.dec<;>intro hc
  .have hR:=cb k (by omega)
   have ch:=U.left _ (abi hR)
   generalize bx:cd g k=R at hR ch
   simp(disch:=omega)only[↓wr,seval,wq,t5,t63,t65,aba,hR,aQ,encI]
   intro n10 b0
   have w7:=w6.fresh (o:=.arr 3 [aQ R]) b0
   apply ao.eq<;>intro e
   .simp(disch:=omega)only[↓wr,seval,wq,t0,t3,t4,Q,dM,W,X,c3,c4]
    intro n11 j
    obtain⟨cj,j⟩:=cp j cw
    obtain⟨_,j⟩:=cp j cw
    have w8:=w7.fresh (n:=n11) (o:=.arr 1 [[P],[s.b]]) (by simp[View.set,cj,j])
    rw[set_set]
    try simp(disch:=omega)only[↓wr,seval,wq,t0,t3,t4,t5,t63,t64,t65,dM]
    refine ay.gV M (by kernel_rfl) ⟨cm.two (by simp[View.set]) (z _ _ _ w8).2 hs.b.kI,trivial⟩ ?_
    simp(disch:=omega)only[↓wr,seval,wq,E,F]
    obtain⟨r1,_,_⟩:=b5 k (by omega)
    have eb:=r1.short D h3
    have hm:=Ia g a b _ (B+1+k) (by omega) (by omega) _ (ca k) f.lt N _ w8
    simp only[dM,encI] at hm
    refine ay.cF (hm.mono ?_)
    clear hm
    rintro _ H9 w9
    simp(disch:=omega)only[↓wr,seval,wq,t65]
    refine aF bs (by omega) ⟨?_,t0,t3,t4,t5,t63,t64,rfl⟩
    rw[kg,abb (by rw[bx];exact e),a6]
    exact w9
   .simp(disch:=omega)only[↓wr,seval,wq,t65]
    refine aF bs (by omega) ⟨?_,t0,t3,t4,t5,t63,t64,rfl⟩
    rw[kg,aa9 (by rw[bx];exact e)]
    have w9:=w7.up (B':=B+1+(k+1)) (by omega)
    try rw[set_set]
    exact w9
  .simp(disch:=omega)only[↓wr,seval,wq]
   obtain rfl:k=g.rules.length:=by omega
   exact(a8 _ _ _ w6).up (by omega))
section
variable {P:Program} {T:Env} {H:View} {K:V->View->Prop} {w:dd (T,H,K)} {t t1 e ty:TypeId}
theorem OX {d x:Operand} {id off len sz bytes s:Nat} {z:List V} {es xs:List (List V)} {rd:List Nat} (he:pV P t=some (sz,bytes,z)) (g:ev T d=.sl id off len sz) (h:bQ H (ev T x)=some (xs,rd)) (hH:H id=.arr s es) (i:off+len<=es.length)
  (j:(xs.all λe=>e.length==sz&&e.all aK)=true) (k:(xs.take len).isEmpty=false) (hk:K (cP (xs.take len).length) (H.set id (.arr sz (eS es off (xs.take len))))):
  kb P (.call { callee:=.builtin .copy,args:=#[d,x],argTypes:=#[t,t1] }) ty T H K w:=by
 obtain⟨e,ti,a,hi,b,m,l,f,c,rfl,rfl⟩:=lA he
 intro n _
 refine⟨cP (xs.take len).length,.fP id (.arr ti.size (eS es off (xs.take len))),id::rd,?_,hk⟩
 simp only[sI,cL,oper]
 simp[zP,a,g,h,cE,b,k,hH,i,c,j]
theorem Wo {d x:Operand} {k:Nat} {sz bytes:Nat} {z:List V} {xs:List (List V)} {rd:List Nat} (he:pV P t=some (sz,bytes,z)) (f:ev T d=.emp k) (g:bQ H (ev T x)=some (xs,rd)) (hk:K (cP 0) H):
  kb P (.call { callee:=.builtin .copy,args:=#[d,x],argTypes:=#[t,t1] }) ty T H K w:=by
 obtain⟨e,ti,a,hi,b,j,h,c,i,rfl,rfl⟩:=lA he
 intro n _
 refine⟨cP 0,.none,[],?_,hk⟩
 simp only[sI,cL,oper]
 simp[zP,a,f,g,cE,b]
end
theorem xJ:∀(xs A B:List (List V)),xs.length<=B.length->eS (A++B) A.length xs=A++xs++B.drop xs.length
 | [],A,B,_=>by simp[eS]
 | x::r,A,[],h=>by simp at h
 | x::r,A,b::B,h=>by
  rw[eS,List.set_append_right _ _ (abg _),Nat.sub_self,List.set_cons_zero]
  have:=xJ r (A++[x]) B (by simpa using h)
  simpa using this
theorem Dp {id off k m:Nat} (hm:m<=k):c6 1 (.sl id off k 1) (some (gi m)) none=some (.sl id (off+m) (k-m) 1,.none,[]):=by
 simp[c6,bound,asNat,hm]
def u64 (n:Int):V:=.val (.int .u64 n)
def Tx:List (FuncId × DF):=C3 aa [(180,[]),(237,[])]
theorem Tl:sG aa Tx:=vO _ _
def Zd (n:Nat):Bool:=match vl aa Tx (Qc []) 180 [u64 1,u64 n] with
 | some (.bc [.val (.int .u64 a),.val (.int .u64 b)])=>a==0&&b==n
 | _=>false
theorem XZ:(List.range 321).all Zd=true:=by kernel_rfl
theorem Ys {n:Nat} (h:n<=320):aC aa 180 [u64 1,u64 n] (.bc [u64 0,u64 n]):=by
 have c:=abC.1 XZ n (ab7.2 (by omega))
 unfold Zd at c
 split at c
 .rename_i a b he
  simp only[abh,ab9] at c
  obtain⟨rfl,rfl⟩:=c
  exact(qT mixed Tl (Le (l:=[]) (by simp)) (by intro v d;simp at d;rcases d with rfl | rfl<;>exact .val _) he).pure
 .simp at c
def ib:SC:=
 ai [ai [ag [af 34 8,af 35 7,aM 36 35,aS 37 .lss 34 36],bO 37 (.exit 0)],.block 1 (ag [af 38 8,af 39 7,af 40 8,((some 41),.op (.slice 1 (.tmp 39) (some (.tmp 40)) none)),af 42 7,af 43 8,((some 44),.op (.slice 1 (.tmp 42) none (some (.tmp 43)))),((some 45),.op (.old (.call { callee:=.builtin .copy,args:=#[(.tmp 41),(.tmp 44)],argTypes:=#[27,27] }) 3)),aS 46 .add 38 45,af 8 46])]
def lH:SF:=⟨ai [ag [bL 4 1],ai [ag [af 9 1,aI 10 .lss 9 0],aX 10 (.region false [⟨none,[((some 11),.op (.old (.makeInterface 9 (.const (.string ⟨#[99,97,110,110,111,116,32,98,101,32,110,101,103,97,116,105,118,101]⟩))) 20)),(none,.op (.old (.panic (.tmp 11)) 0))]⟩])],ag [af 13 0,aM 14 13,((some 15),.op (.conv .u64 (.tmp 14))),af 16 1,((some 17),.op (.conv .u64 (.tmp 16))),aU 18 180 [15,17],af 12 18,c7 19 0 12,c7 20 1 12,af 5 19,af 6 20],ai [.region false [⟨none,[af 21 5,((some 22),.op (.arith .gtr (.tmp 21) (.val (.val (.int .u64 0))))),af 23 22]⟩,⟨(some (23,false)),[af 24 6,((some 25),.op (.arith .gtr (.tmp 24) (.val (.val (.int .u64 9223372036854775807)))))]⟩,⟨none,[cJ 26 23 25]⟩],aX 26 (.region false [⟨none,[((some 27),.op (.old (.makeInterface 9 (.const (.string ⟨#[116,104,101,32,114,101,115,117,108,116,32,111,102,32,40,108,101,110,40,120,41,32,42,32,99,111,117,110,116,41,32,111,118,101,114,102,108,111,119,115]⟩))) 20)),(none,.op (.old (.panic (.tmp 27)) 0))]⟩])],ag [af 28 6,((some 29),.op (.conv .i64 (.tmp 28))),((some 30),.op (.make 1 8 [(.val (.int .i64 0))] (.tmp 29) (.tmp 29))),af 7 30],ag [af 31 7,af 32 0,((some 33),.op (.old (.call { callee:=.builtin .copy,args:=#[(.tmp 31),(.tmp 32)],argTypes:=#[27,27] }) 3)),af 8 33],bR 0 ib,ag [af 47 7,af 4 47],.ret],
 [.tmp 4],48⟩
theorem re:aJ aa 115 []=some lH:=by kernel_rfl
theorem PY (n:Nat) (v:n<=320) (m:Nat) (H:View) (hm:H m=.arr 1 [[gi (-1)]]):az aa 115 [.sl m 0 1 1,gi n] H λr H'=>aN H' r 1 (aO (List.replicate n (-1)))/\cn H H' r:=by
 refine az.of mixed re ?_
 have hmul:=Ys v
 unfold u64 at hmul
 have i:IntKind.u64.wrap 1=1:=by decide
 have j:IntKind.u64.wrap (n:Int)=n:=by
  unfold IntKind.wrap
  have w:(2:Int) ^ IntKind.u64.bits=18446744073709551616:=by rfl
  have x:IntKind.u64.signed=false:=by rfl
  simp only[w,x,acq]
  simp
  omega
 have f:IntKind.i64.wrap (n:Int)=n:=wrap64 (by omega) (by omega)
 simp(disch:=omega)only[↓wr,seval,wq,lH]
 refine ao.dec (λh=>absurd h (by omega)) (λ_=>?_)
 simp(disch:=omega)only[↓wr,seval,wq]
 rw[i,j]
 refine ay.pure hmul ?_
 simp(disch:=omega)only[↓wr,seval,wq]
 refine ao.dec (λh=>absurd h (by omega)) (λ_=>?_)
 simp(disch:=omega)only[↓wr,seval,wq,f]
 refine⟨⟨by omega,by unfold aE;omega,by unfold aE;omega⟩,λp=>?_,λp b g=>?_⟩
 .refine Wo (k:=2) (sz:=1) (bytes:=8) (z:=[gi 0]) (xs:=[[gi (-1)]]) (rd:=[m]) (by kernel_rfl) (by simp(disch:=omega)only[↓wr,seval]) (by simp(disch:=omega)only[↓wr,seval];simp[bQ,hm]) ?_
  simp(disch:=omega)only[↓wr,seval,wq]
  refine aW.intro (λk T H'=>H'=H/\T 7=.emp 2/\T 8=cP 0) 0 ⟨rfl,rfl,rfl⟩ ?_
  rintro k T _ ⟨rfl,t7,t8⟩
  simp(disch:=omega)only[↓wr,seval,wq,ib,t7,t8]
  refine⟨?_,λid a=>⟨rfl,by simp[owner]⟩⟩
  rw[p];exact .nil
 have l:¬ m=b:=by rintro rfl;rw[hm] at g;simp at g
 refine OX (id:=b) (off:=0) (len:=n) (sz:=1) (bytes:=8) (z:=[gi 0]) (s:=1) (es:=List.replicate n [gi 0]) (xs:=[[gi (-1)]]) (rd:=[m]) (by kernel_rfl) (by simp(disch:=omega)only[↓wr,seval]) (by simp(disch:=omega)only[↓wr,seval];simp[bQ,View.set,l,hm]) (by simp[View.set]) (by simp) (by simp[aK]) (by obtain⟨q,rfl⟩:∃q,n=q+1:=⟨n-1,by omega⟩;rfl) ?_
 rw[show ([[gi (-1)]]:List (List V)).take n=List.replicate 1 [gi (-1)] by obtain⟨q,rfl⟩:∃q,n=q+1:=⟨n-1,by omega⟩;simp,
  show eS (List.replicate n [gi 0]) 0 (List.replicate 1 [gi (-1)])=List.replicate 1 [gi (-1)]++List.replicate (n-1) [gi 0] by
   have:=xJ (List.replicate 1 [gi (-1)]) [] (List.replicate n [gi 0]) (by simp;omega)
   simpa using this,ac6]
 simp(disch:=omega)only[↓wr,seval,wq]
 rw[set_set]
 refine aW.intro (λk T H'=>∃c:Nat,1<=c/\c+k=n/\H' b=.arr 1 (List.replicate c [gi (-1)]++List.replicate (n-c) [gi 0])/\(∀id,H id≠.dead->H' id=H id)/\T 7=.sl b 0 n 1/\T 8=gi c) (n-1) ⟨1,by omega,by omega,by simp[View.set],λid a=>?_,rfl,rfl⟩ ?_
 .have:¬ id=b:=by rintro rfl;exact a g
  simp[View.set,this]
 rintro k T H' ⟨c,c1,B,hH,e,t7,t8⟩
 simp(disch:=omega)only[↓wr,seval,wq,ib,t7,t8]
 apply ao.dec<;>intro y
 .simp(disch:=omega)only[↓wr,seval,wq,t7,t8,Dp (id:=b) (off:=0) (k:=n) (m:=c) (by omega),DO (id:=b) (off:=0) (k:=n) (m:=c) (by omega)]
  have o:bQ H' (.sl b 0 c 1)=some (List.replicate c [gi (-1)],[b]):=by
   obtain⟨q,rfl⟩:∃q,c=q+1:=⟨c-1,by omega⟩
   simp only[bQ,hH]
   rw[abb (by simp)]
   simp
  obtain⟨d,t⟩:∃d,d=min (n-c) c:=⟨_,rfl⟩
  refine OX (id:=b) (off:=c) (len:=n-c) (sz:=1) (bytes:=8) (z:=[gi 0]) (s:=1) (es:=List.replicate c [gi (-1)]++List.replicate (n-c) [gi 0]) (xs:=List.replicate c [gi (-1)]) (rd:=[b]) (by kernel_rfl) (by simp(disch:=omega)only[↓wr,seval]) (by simp(disch:=omega)only[↓wr,seval];exact o) hH (by simp) (by simp[aK]) ?_ ?_
  .rw[List.take_replicate,<-t]
   obtain⟨q,A⟩:∃q,d=q+1:=⟨d-1,by omega⟩
   rw[A];rfl
  have u:=xJ (List.replicate d [gi (-1)]) (List.replicate c [gi (-1)]) (List.replicate (n-c) [gi 0]) (by simp;omega)
  rw[ac6] at u
  rw[List.take_replicate,<-t,u,ac6]
  simp(disch:=omega)only[↓wr,seval,wq,t7]
  refine⟨n-(c+d),by omega,c+d,by omega,by omega,?_,λid a=>?_,rfl⟩
  .simp[List.drop_replicate,<-List.replicate_append_replicate,show n-c-d=n-(c+d) by omega]
  .have:¬ id=b:=by rintro rfl;exact a g
   simp[this];exact e id a
 .simp(disch:=omega)only[↓wr,seval,wq,t7]
  obtain rfl:c=n:=by omega
  refine⟨.inr ⟨b,by simp,by rw[hH];simp[aO]⟩,λid a=>⟨e id a,?_⟩⟩
  simp only[owner,ne_eq,abd]
  rintro rfl;exact a g
section
variable {g:ak} {a:List ba}
def oR (g:ak) (l:List bN):Prop:=∀x∈l,∀s∈x.ah++x.be,dS g s=true
theorem Rk (b:g.c5) {r:Int} (hr : -1<=r/\r<g.rules.length):∀s∈bV g r,dS g s=true:=by
 unfold bV
 split
 .intro s a
  simp at a
  subst a
  have:=b.lB;have:=b.start
  unfold dS
  rw[aa9 (by omega)]
  simp only[abn];omega
 .intro s a
  have c:g.rules[r.toNat]?=some (cd g r):=by unfold cd;exact getD_some (by omega)
  exact b.sym _ (abi c) s a
theorem KY (a:g.c5) {x:aP} (b:cW g x):∀s∈dJ g x,dS g s=true:=λs c=>Rk a b.1 s (List.mem_of_mem_drop c)
theorem oR.met {l:List bN} (h:oR g l) {x:bN} (b:∀s∈x.ah++x.be,dS g s=true):oR g (iY l x):=by
 unfold iY
 split
 .exact h
 .intro y a
  rcases abq.1 a with a | a
  .exact h y a
  .simp at a;subst a;exact b
theorem oR.Za {x:bN} (a:∀s∈x.ah++(gY g x.it++x.be),dS g s=true) (s:Int):∀(k:Nat) (l:List bN),oR g l->oR g (kg g x s k l)
 | 0,_,h=>h
 | k+1,l,h=>by
  rw[kg]
  split
  .exact(oR.Za a s k l h).met a
  .exact oR.Za a s k l h
theorem oR.leave (f:eJ g a) {l:List bN} (j:kc g a l) (h:oR g l) {x:bN} (i:x∈l):oR g (gq g a l x):=by
 unfold gq
 split
 .rename_i k
  have m:bI g x.it=((bI g x.it).1,true):=by rw[<-k]
  have e:=j.nd x i
  have hH:=f.has e.lt e.it
  obtain⟨f1,_⟩:=pn hH m
  have d:=KY f.jf hH
  rw[f1] at d
  have c:=h x i
  refine oR.Za (λs b=>?_) _ _ _ (h.met λs b=>?_)
  .simp only[abq] at b c
   rcases b with b | b | b
   .exact c s (.inl b)
   .exact d s (abx _ b)
   .exact c s (.inr b)
  .simp only[abq,ab5] at b c
   rcases b with (b | rfl) | b
   .exact c s (.inl b)
   .exact d _ (acg ..)
   .exact c s (.inr b)
 .exact h
theorem FM (b:eJ g a):∀(f i:Nat) (l:List bN),kc g a l->oR g l->oR g (iU g a f i l)
 | 0,_,_,_,h=>h
 | f+1,i,l,c,h=>by
  rw[iU]
  cases e:l[i]? with
  | none=>exact h
  | some x=>exact FM b f (i+1) _ (Am b c e).1 (h.leave b c (abi e))
theorem U0 (b:eJ g a):oR g (cX g a):=FM b _ _ _ (Au b) λx c s d=>by
 simp[me] at c
 subst c
 simp at d
theorem wz (a:g.c5) {s:Int} (h:dS g s=true):bm s:=by
 have:=a.ax;have:=a.av
 unfold dS at h
 unfold bm
 split at h<;>simp only[abn] at h<;>omega
theorem CI (c:eJ g a) (d:a.length<=300) {i:Nat} (hi:i<a.length):cW g (dK (cX g a) i).it/\(dK (cX g a) i).ah.length<=86100/\(dK (cX g a) i).be.length<=516600/\(dJ g (dK (cX g a) i).it).length<=6 /\
  (∀s∈(dK (cX g a) i).ah,bm s)/\(∀s∈(dK (cX g a) i).ah++(dJ g (dK (cX g a) i).it++(dK (cX g a) i).be),bm s):=by
 obtain⟨f1,f2,f3⟩:=ET c d hi
 obtain⟨h,_,_⟩:=Ah c d
 have hH:=c.has f3.lt f3.it
 obtain⟨j,k⟩:=List.getElem?_of_mem f1
 have m:=h.len j _ k
 have b:=h.short c d
 have l:=(abf.1 k).1
 have e:=U0 c _ f1
 have f:=KY c.jf hH
 refine⟨hH,by omega,by omega,?_,λs b=>wz c.jf (e s (abq.2 (.inl b))),λs b=>?_⟩
 .have:=ed c.jf hH.1
  unfold dJ
  simp;omega
 .rcases abq.1 b with b | b
  .exact wz c.jf (e s (abq.2 (.inl b)))
  .rcases abq.1 b with b | b
   .exact wz c.jf (f s b)
   .exact wz c.jf (e s (abq.2 (.inr b)))
end
def wV:SC:=
 ai [ai [ag [af 21 6,af 22 5,fU 23 22,aw 24 6 23,au 25 24,aM 26 25,aS 27 .lss 21 26],bO 27 (.exit 0)],.block 1 (ag [af 30 5,af 31 5,fU 32 31,aw 33 6 32,au 34 33,af 35 6,aL 36 5 34 35,aV 37 5 36,aU 38 126 [30,37]]),ag [af 28 6,aI 29 .add 28 1,af 6 29]]
def AS:SF:=⟨ai [ag [bZ 2 0,((some 4),.op (.eW (.val (.val (.pointer none)))))],.region true [⟨none,[aV 7 4 2,af 8 1,((some 9),.op (.ra)),((some 10),.op (.bH 1 1 [(.val (.int .i64 0))] [(0,(.val (.val (.int .i64 (-1)))))])),af 11 1,aM 12 11,aU 13 115 [10,12],((some 14),.op (.build [(.emp 1),(.emp 1),(.emp 1),(.val (.int .i64 0)),(.emp 1),(.val (.map none)),(.emp 1),(.emp 1)] [(0,4,(.tmp 7)),(4,1,(.tmp 8)),(5,1,(.tmp 9)),(7,1,(.tmp 13))])),((some 15),.op (.box (.tmp 14))),af 5 15]⟩],ag [af 16 5,((some 17),.op (.build [(.val (.int .i64 0)),(.val (.int .i64 0))] [(0,1,(.val (.val (.int .i64 (-1)))))])),((some 18),.op (.build [(.val (.int .i64 0)),(.val (.int .i64 0)),(.val (.int .i64 0))] [(0,1,(.val (.val (.int .i64 0)))),(1,2,(.tmp 17))])),((some 19),.op (.build [(.val (.int .i64 0)),(.val (.int .i64 0)),(.val (.int .i64 0)),(.emp 1),(.emp 1)] [(0,3,(.tmp 18))])),aU 20 125 [16,19]],ai [ag [aT 6 0],bR 0 wV],ag [af 39 5,af 4 39],.ret],
 [.tmp 4],40⟩
theorem DZ:aJ aa 61 [2]=some AS:=by kernel_rfl
theorem Ng (a:List ba):fC a []=List.replicate a.length (-1):=by
 unfold fC
 apply List.ext_getElem?
 intro i
 rw[aba,ab0]
 by_cases h:i<a.length
 .rw[acG h,abb h];rfl
 .rw[abL (by simpa using h),aa9 h];rfl
theorem DV {g:ak} {a:List ba} {f i:Nat} {l:List bN} (h:l.length<=i):iU g a f i l=l:=by
 cases f with
 | zero=>rfl
 | succ f=>rw[iU,abL h]
theorem Yt (g:ak) (X:g.Ok) (a:List ba) (x:eJ g a) (F:a.length<=300) (H:View):
  az aa 61 [.agg (aj g),cq a] H λr H'=>∃b,r=.ptr b 0 0/\fN H' b g a (cX g a) 100000000 []:=by
 have z:=x.pos
 have G:cE (cq a)=some a.length:=by simp[cq,cE]
 have d:aK (cq a)=true/\V.cells (cq a)=[cq a]:=⟨rfl,rfl⟩
 refine az.of mixed DZ ?_
 simp(disch:=omega)only[↓wr,seval,wq,AS,aj,encS,G]
 intro o Y O A
 obtain⟨I,A⟩:=cp A (by simp)
 refine ay.Hn (PY a.length (by omega) O _ (by simp[View.set])) ?_
 intro r P hr p
 have s:P o=.map [] 0:=by
  have e:¬ o=O:=λe=>I e.symm
  rw[(p o (by simp[View.set,e])).1]
  simp[View.set,e]
 simp(disch:=omega)only[↓wr,seval,wq,hr.cells,hr.eL,d.1,d.2]
 intro j f
 have J:¬ o=j:=by rintro rfl;rw[s] at f;simp at f
 have Q:=(((bw.nil.Hs hr p).new f 8 [tH g a o (.emp 1) r]).emp (k:=1) (sz:=5)).perm (.cons _ (.swap _ _ _))
 have R:fN (P.set j (.arr 8 [tH g a o (.emp 1) r])) j g a [] 0 []:=by
  refine⟨o,.emp 1,r,[],[],0,?_,by simp[View.set,J,s,cY],⟨by simp,by simp⟩,λk=>⟨0,rfl,abg _,by simp⟩,rfl,by simp⟩
  rw[Ng]
  exact Q
 try simp(disch:=omega)only[↓wr,seval,wq]
 have hm:=Ia g a j [] 0 (by omega) (by simp) ⟨⟨0,⟨-1,0⟩,[],[]⟩,.emp 1,.emp 1⟩ ⟨.inr ⟨rfl,rfl⟩,.inr ⟨rfl,rfl⟩⟩ z [] _ R
 refine ay.cF (hm.mono ?_)
 rintro _ H4 U
 simp(disch:=omega)only[↓wr,seval,wq]
 refine aW.up 86101 (λi T H'=>∃(l:List bN),i<=l.length/\kc g a l/\iU g a (90000-i) i l=cX g a/\fN H' j g a l (1+41*i) []/\T 5=.ptr j 0 0/\T 6=gi i) ⟨me,by simp,Au x,rfl,U,rfl,rfl⟩ ?_
 clear U R Q hm s f hr p
 rintro i k T Z hk ⟨l,ab,h,u,K,t5,t6⟩
 obtain⟨q,us,uf,S,m,c,w⟩:=id K
 have W:=w.own.is 2 rfl (by simp)
 have L:S.length=l.length:=by rw[<-w.is,abc]
 have M:cE us=some l.length:=by rw[(w.own.own 0 rfl).len,abc,L]
 simp(disch:=omega)only[↓wr,seval,wq,wV,t5,t6,W,M]
 apply ao.dec<;>intro hc
 .have N:S[i]?=some (S[i]'(by omega)):=aa8 (by omega)
  have B:=abe (show i<S.length by omega)
  generalize S[i]'(by omega)=y at N B
  have v:l[i]?=some y.n:=by rw[<-w.is,aba,N];rfl
  obtain⟨n,C,hH⟩:=(w.own.own 0 rfl).sl (by simp;omega)
  rw[abc] at C
  have D:(S.map dM).getD i []=dM y:=by simp[N]
  have hs:=h.short x F
  have E:=Vr g X a x F j l h y (w.ok y B) i v (1+41*i) (by omega) [] Z K
  simp only[dM] at E D
  simp(disch:=omega)only[↓wr,seval,wq,t5,t6,W,C,hH,D]
  refine⟨by omega,by first | omega | (simp;omega),?_⟩
  refine ay.cF (E.mono ?_)
  rintro _ H6 w6
  simp(disch:=omega)only[↓wr,seval,wq,t5,t6]
  obtain⟨l1,⟨t,ht⟩,_⟩:=Am x h v
  refine aF hk (by omega) ⟨gq g a l y.n,by rw[ht,abv];omega,l1,?_,w6.up (B':=1+41*(i+1)) (by omega),t5,rfl⟩
  rw[<-u,show 90000-i=90000-(i+1)+1 by omega,iU,v]
 .simp(disch:=omega)only[↓wr,seval,wq,t5]
  rw[DV (by omega)] at u
  subst u
  have hs:=h.short x F
  exact⟨j,rfl,K.up (B':=100000000) (by omega)⟩
def iw (b:ix):List V:=[gi b.state,gi b.len,encI b.word]
def zq (x:List ix × Int):V:=.bc [.aY (x.1.map iw),gi x.2]
def cR (g:ak) (a:List ba):Nat->List ix × Int
 | 0=>([],0)
 | i+1=>if (cR g a i).2≠0 then cR g a i else if (dh g ((fq g a i).1++(fq g a i).2)).2≠0 then ([],(dh g ((fq g a i).1++(fq g a i).2)).2) else ((cR g a i).1++[xC g a i],0)
def cB (g:ak):List ix × Int:=if (cD g).2≠0 then ([],(cD g).2) else cR g (cD g).1 (cD g).1.length
theorem Cz (b:ix):∀v∈iw b,Tree v:=by
 intro v a
 simp[iw] at a
 rcases a with rfl | rfl | rfl
 .exact .val _
 .exact .val _
 .exact bg _
theorem Dt {g:ak} {a:List ba} {i:Nat} (h:(cR g a i).2≠0):∀d,cR g a (i+d)=cR g a i
 | 0=>rfl
 | d+1=>by
  have b:=Dt h d
  rw[<-abP,cR,b,abb h]
theorem FE {g:ak} {a:List ba} {i n:Nat} (h:(cR g a i).2≠0) (hi:i<=n):cR g a n=cR g a i:=by
 have:=Dt h (n-i)
 rwa [show i+(n-i)=n by omega] at this
theorem uY {g:ak} {a:List ba}:∀i,(cR g a i).1.length<=i
 | 0=>by simp[cR]
 | i+1=>by
  have b:=uY (g:=g) (a:=a) i
  rw[cR]
  split
  .omega
  .split
   .simp
   .simp;omega
def rO:SF:=⟨ai [ag [bL 4 1,bL 5 1],ag [af 7 0,fU 8 7,aw 9 6 8,au 10 9,af 11 0,fU 12 11,aw 13 7 12,au 14 13,af 15 1,aL 16 1 14 15,au 17 16,aL 18 5 10 17,aV 19 5 18,((some 6),.op (.alloc [(.val (.int .i64 0)),(.val (.int .i64 0)),(.val (.int .i64 0)),(.emp 1),(.emp 1)])),cz 5 6 19],.region true [⟨none,[aw 20 3 6,au 21 20,af 22 0,aw 23 0 6,aw 24 1 23,aV 25 2 24,aU 26 127 [22,25],aw 27 4 6,au 28 27,((some 29),.op (.bH 2 1 [(.emp 1)] [(0,(.tmp 26)),(1,(.tmp 28))])),aU 30 68 [29],af 4 21,af 5 30]⟩],.ret],
 [.tmp 4,.tmp 5],31⟩
theorem xW:aJ aa 62 []=some rO:=by kernel_rfl
def vF:SC:=
 ai [ag [aS 28 .lss 27 26],bO 28 (.exit 0),.block 1 (ai [ag [af 29 27,af 8 29],ag [af 31 6,af 32 8,aU 33 62 [31,32],af 30 33,c7 34 0 30,c7 35 1 30,af 9 34,af 10 35],.region true [⟨none,[aV 37 4 1,af 38 9,af 39 10,((some 40),.op (.bH 2 1 [(.emp 1)] [(0,(.tmp 38)),(1,(.tmp 39))])),aU 41 68 [40],aU 42 67 [37,41],af 36 42,c7 43 0 36,c7 44 1 36,af 11 43,af 12 44]⟩],ai [ag [af 45 12,aI 46 .neq 45 0],aX 46 (ai [ag [af 47 12,bL 2 1,af 3 47],.ret])],ag [aV 49 4 1,af 50 9,aU 51 67 [49,50],af 48 51,c7 52 0 48,c7 53 1 48,af 13 52,af 12 53],ai [ag [af 54 12,aI 55 .neq 54 0],aX 55 (ai [ag [af 56 12,bL 2 1,af 3 56],.ret])],ag [af 57 7,af 58 8,af 59 13,aM 60 59,af 61 11,((some 62),.op (.build [(.val (.int .i64 0)),(.val (.int .i64 0)),(.emp 1)] [(0,1,(.tmp 58)),(1,1,(.tmp 60)),(2,1,(.tmp 61))])),((some 63),.op (.bH 1 3 [(.val (.int .i64 0)),(.val (.int .i64 0)),(.emp 1)] [(0,(.tmp 62))])),eZ 64 3 40 57 63,af 7 64]]),ag [aI 65 .add 27 1,af 27 65]]
def yx:SF:=⟨ai [ag [bZ 1 0,bL 2 1,aT 3 0],ag [aV 15 4 1,aU 16 60 [15],af 14 16,c7 17 0 14,c7 18 1 14,af 4 17,af 5 18],ai [ag [af 19 5,aI 20 .neq 19 0],aX 20 (ai [ag [af 21 5,bL 2 1,af 3 21],.ret])],ag [aV 22 4 1,af 23 4,aU 24 61 [22,23],af 6 24],ag [bL 7 1],ai [ag [af 25 4,aM 26 25,aT 27 0],bR 0 vF],ag [af 66 7,af 2 66,aT 3 0],.ret],
 [.tmp 2,.tmp 3],67⟩
theorem Dg:aJ aa 28 [1]=some yx:=by kernel_rfl
theorem Zi (g:ak) (hg:g.Ok) (a:List ba) (N:eJ g a) (h3:a.length<=300) (b:Nat) (B:Nat) (K:List ez) (i:Nat) (hi:i<a.length) (H:View) (hW:fN H b g a (cX g a) B K):
  az aa 62 [.ptr b 0 0,gi i] H λr H'=>(∃v,EC v (fq g a i).1/\r=.bc [v,encI (fq g a i).2])/\∀id,H id≠.dead->H' id=H id:=by
 have hf:=N.jf
 have ae:=j8 hf
 obtain⟨f1,f2,f3⟩:=ET N h3 hi
 obtain⟨p1,p2,p3,p4,_,_⟩:=CI N h3 hi
 obtain⟨k,k1,k2,k3⟩:=Ds i (cX g a) 0 ⟨_,f1,f2⟩
 rw[abX] at k1
 have O:fq g a i=((dK (cX g a) i).ah,dJ g (dK (cX g a) i).it++(dK (cX g a) i).be):=rfl
 rw[O]
 obtain⟨q,us,uf,S,m,c,w⟩:=hW
 have al:S.length=(cX g a).length:=by rw[<-w.is,abc]
 have P:=w.own.is 2 rfl (by simp)
 have Q:S[k]?=some (S[k]'(by omega)):=aa8 (by omega)
 have A:=abe (show k<S.length by omega)
 generalize S[k]'(by omega)=y at Q A
 have R:y.n=dK (cX g a) i:=by
  have:(S.map eK.n)[k]?=some y.n:=by rw[aba,Q];rfl
  rw[w.is,k3] at this
  simpa using this.symm
 have j:=w.ok y A
 rw[<-R] at p1 p2 p3 p4 ⊢
 obtain⟨n,C,hH⟩:=(w.own.own 0 rfl).sl (by simp;omega)
 rw[abc] at C
 have D:(S.map dM).getD k []=dM y:=by simp[Q]
 have p:(fC a (cX g a)).length=a.length:=by simp[fC]
 obtain⟨nf,E,hF⟩:=(w.own.own 1 rfl).sl (by simp[p];omega)
 rw[abc,p] at E
 have T:(aO (fC a (cX g a))).getD i []=[gi k]:=by
  rw[aO,aa7,aba,fC,aba,acG hi]
  simp[k1]
 obtain⟨⟨U,W,an⟩,⟨F,G,aq⟩⟩:=And.intro j.a.eL j.b.eL
 have X:=uJ (dJ g y.n.it) y.n.be (by omega)
 simp only[dM] at D
 refine az.of mixed xW ?_
 simp(disch:=omega)only[↓wr,seval,wq,rO,P,C,E,hF,T,hH,D,U,F]
 refine⟨hi,by rw[p];exact hi,by omega,by omega,λl s=>?_⟩
 rw[set_set]
 have Y:¬ b=l:=by rintro rfl;rw[P] at s;simp at s
 have I:(H.set l (.arr 5 [[gi y.n.st,gi y.n.it.aB,gi y.n.it.dot,y.a,y.b]])) b=.arr 8 [tH g a q us uf]:=by simp only[View.set,aa9 Y,P]
 have t:(H.set l (.arr 5 [[gi y.n.st,gi y.n.it.aB,gi y.n.it.dot,y.a,y.b]])) l=.arr 5 [[gi y.n.st,gi y.n.it.aB,gi y.n.it.dot,y.a,y.b]]:=by simp only[View.set,if_true]
 have f:∀id,H id≠.dead->(H.set l (.arr 5 [[gi y.n.st,gi y.n.it.aB,gi y.n.it.dot,y.a,y.b]])) id=H id:=λid e=>by
  have:¬ id=l:=by rintro rfl;exact e s
  simp only[View.set,aa9 this]
 generalize View.set H l (.arr 5 [[gi y.n.st,gi y.n.it.aB,gi y.n.it.dot,y.a,y.b]])=H1 at I t f ⊢
 have hr:=Oo g (by unfold bm;omega) a q us uf b H1 I y.n.it p1
 simp only[bM] at hr
 refine ay.still hr (λr H' h id e=>(h.2 id e).1) ?_
 rintro u M ⟨hu,J⟩
 have L:aK u=true/\V.cells u=[u]:=by
  rcases hu with rfl | ⟨n,x,d,rfl,_⟩<;>exact⟨rfl,rfl⟩
 have Z:M l=.arr 5 [[gi y.n.st,gi y.n.it.aB,gi y.n.it.dot,y.a,y.b]]:=by rw[(J l (by rw[t];simp)).1];exact t
 simp(disch:=omega)only[↓wr,seval,wq,Z,L.1,L.2,F,G]
 intro n9 z
 have ab:∀ {o:ct} (id:Nat),M id≠.dead->(M.set n9 o) id=M id:=λ{o} id e=>by
  have:¬ id=n9:=by rintro rfl;exact e z
  simp only[View.set,aa9 this]
 refine ay.gV X (by kernel_rfl) ⟨cm.two (by simp only[View.set,if_true]) ((hu.keep λid e=>ab id e).kI) j.b.kI,trivial⟩ ?_
 simp(disch:=omega)only[↓wr,seval,wq]
 refine⟨⟨y.a,j.a,rfl⟩,λid e=>?_⟩
 have h1:=f id e
 have h2:=(J id (by rw[h1];exact e)).1
 have e9:¬ id=n9:=by rintro rfl;rw[h2,h1] at z;exact e z
 rw[aa9 e9,h2,h1]
theorem fN.app {H:View} {b:Nat} {g:ak} {a:List ba} {l:List bN} {B:Nat} {u:V} {sz:Nat} {es:List (List V)} (h:fN H b g a l B [(u,sz,es)]):aN H u sz es/\∀u' H' es',aN H' u' sz es'->Left H H' u u'->fN H' b g a l B [(u',sz,es')]:=by
 obtain⟨q,us,e,S,m,c,w⟩:=h
 refine⟨w.own.own 3 rfl,λu' H' es' f d=>⟨q,us,e,S,m,c,?_,d.map (w.own.own 3 rfl) w.map,w.born,w.seen,w.is,w.ok⟩⟩
 exact((w.own.perm FY).left f d).perm FY.symm
theorem VN (g:ak) (i:Int):∀v∈[V.agg (aj g),gi i],Tree v:=by
 intro v a;simp at a
 rcases a with rfl | rfl
 .exact bW _ (cy g)
 .exact .val _
theorem Rt (g:ak) (m:g.Ok) (d:g.Small):aC aa 28 [.agg (aj g)] (zq (cB g)):=by
 refine aC.of (dy g) ?_
 have O:=(R9 g m d).pure
 have z:cE (cq (cD g).1)=some (cD g).1.length:=by simp[cq,cE]
 refine az.of mixed Dg ?_
 simp only[aj,encS] at O
 simp(disch:=omega)only[↓wr,seval,wq,yx,aj,encS]
 refine ay.pure O ?_
 simp(disch:=omega)only[↓wr,seval,wq]
 unfold cB
 apply ao.ne<;>intro h
 .rw[abb h]
  simp(disch:=omega)only[↓wr,seval,wq]
  intro A _
  exact(lL (.emp 1)).LR
 rw[aa9 (by omega)]
 obtain⟨_,B,c⟩:=H8 h
 generalize (cD g).1=a at *
 have p:=Yt g m a B c (λ_=>.dead)
 simp only[aj,encS] at p
 simp(disch:=omega)only[↓wr,seval,wq]
 refine ay.cF (p.mono ?_)
 rintro _ H1 ⟨b,rfl,w⟩
 simp(disch:=omega)only[↓wr,seval,wq,z]
 refine aW.up a.length (λi T H'=>∃(u:V),(cR g a i).2=0/\fN H' b g a (cX g a) 100000000 [(u,3,(cR g a i).1.map iw)]/\T 1=.aR (aj g) 0/\T 6=.ptr b 0 0/\T 7=u/\T 26=gi a.length/\T 27=gi i) ⟨.emp 1,rfl,w.add .nil .emp,rfl,rfl,rfl,rfl,rfl⟩ ?_
 clear w
 rintro i k T H hk ⟨u,he,w,t1,t6,t7,t26,t27⟩
 simp(disch:=omega)only[↓wr,seval,wq,vF,t26,t27]
 apply ao.dec<;>intro R
 .have hi:i<a.length:=by omega
  obtain⟨p1,S,p3,p4,U,W⟩:=CI B c hi
  have C:fq g a i=((dK (cX g a) i).ah,dJ g (dK (cX g a) i).it++(dK (cX g a) i).be):=rfl
  have P:(fq g a i).1.length<=86100/\(fq g a i).2.length<=600000/\(∀s∈(fq g a i).1,bm s)/\(∀s∈(fq g a i).1++(fq g a i).2,bm s):=by
   rw[C]
   exact⟨S,by simp only[abv];omega,U,W⟩
  obtain⟨P,q2,X,Y⟩:=P
  have hw:=Zi g m a B c b _ _ i hi H w
  have l:cR g a (i+1)=if (dh g ((fq g a i).1++(fq g a i).2)).2≠0 then ([],(dh g ((fq g a i).1++(fq g a i).2)).2) else ((cR g a i).1++[xC g a i],0):=by
   rw[cR,aa9 (by rw[he];simp)]
  have D:xC g a i=⟨i,((dh g (fq g a i).1).1.length:Int),(dh g ((fq g a i).1++(fq g a i).2)).1⟩:=rfl
  have E:=λh=>(EJ (g:=g) (u:=(fq g a i).1) (v:=(fq g a i).2) h).1
  generalize (fq g a i).1=x at *
  generalize (fq g a i).2=y at *
  have F:=uJ x y (by omega)
  have q:=(Lo g m d (x++y) (by simp;omega) Y).pure
  have r:=Lo g m d x (by omega) X
  simp only[aj,encS,Ey] at q r
  have Z:=uY (g:=g) (a:=a) i
  generalize dh g (x++y)=G at *
  generalize dh g x=Q at *
  simp(disch:=omega)only[↓wr,seval,wq,t6,t27]
  refine ay.cF (hw.mono ?_)
  rintro _ H2 ⟨⟨v,f,rfl⟩,I⟩
  have w2:=w.stay I
  obtain⟨J,K,_⟩:=f.eL
  simp(disch:=omega)only[↓wr,seval,wq,t1,aj,encS,J,K]
  intro n9 L
  have w3:=w2.fresh (o:=.arr 1 [[v],[encI y]]) L
  try simp(disch:=omega)only[↓wr,seval,wq]
  refine ay.gV F (by kernel_rfl) ⟨cm.two (by simp only[View.set,if_true];rfl) f.kI (.tree (bg y)),trivial⟩ ?_
  simp(disch:=omega)only[↓wr,seval,wq]
  refine ay.pure q ?_
  simp(disch:=omega)only[↓wr,seval,wq]
  apply ao.ne<;>intro h1
  .rw[abb h1] at l
   simp(disch:=omega)only[↓wr,seval,wq]
   intro A _
   rw[FE (i:=i+1) (by rw[l];exact h1) (by omega),l]
   exact(lL (.emp 1)).LR
  rw[aa9 (by omega)] at l
  have h2:Q.2=0:=E (by omega)
  simp(disch:=omega)only[↓wr,seval,wq,t1,aj,encS]
  refine ay.gV r (by kernel_rfl) ⟨.tree (bW _ (cy g)),f.kI,trivial⟩ ?_
  simp(disch:=omega)only[↓wr,seval,wq]
  refine ao.ne (λh=>absurd h2 h) (λ_=>?_)
  simp(disch:=omega)only[↓wr,seval,wq,t7,encI]
  intro n10 t
  have w4:=w3.fresh (n:=n10) (o:=.arr 3 [[gi i,gi Q.1.length,encI G.1]]) t
  obtain⟨M,wk⟩:=w4.app
  simp(disch:=omega)only[↓wr,seval,wq,bD]
  refine dw (es:=(cR g a i).1.map iw) M (by simp[aK]) (by unfold aE;simp;omega) (by unfold aE;simp;omega) ?_
  intro u5 H5 o5 l5
  have w5:=wk _ _ _ o5 l5
  simp(disch:=omega)only[↓wr,seval,wq,t27]
  refine aF hk hi ⟨u5,by rw[l],?_,t1,t6,rfl,t26,rfl⟩
  rw[l,D,abA]
  exact w5
 .obtain rfl:i=a.length:=by omega
  simp(disch:=omega)only[↓wr,seval,wq,t7]
  intro A f
  obtain⟨M,_⟩:=w.app
  have N:=cm.own M (λe he v f=>by
   obtain⟨x,_,rfl⟩:=abt.1 he
   exact Cz x v f) A f
  unfold zq
  rw[he]
  exact .bc _ _ rfl λj hj=>by
   match j,hj with
   | 0,_=>exact N
   | 1,_=>exact .tree _ (.val _)
def pf:SC:=
 ai [ai [.region false [⟨none,[af 63 12,aw 64 2 2,au 65 64,aM 66 65,aS 67 .lss 63 66,af 68 67]⟩,⟨(some (68,true)),[af 69 8,aI 70 .lss 69 0]⟩,⟨none,[dA 71 68 70]⟩],bO 71 (.exit 2)],.block 3 (ai [ag [aw 74 2 2,au 75 74,af 76 12,aL 77 3 75 76,aw 78 0 77,au 79 78,af 80 8,((some 81),.op (.arith .sub (.val (.val (.int .i64 (-1)))) (.tmp 80))),aS 82 .eql 79 81],aX 82 (ag [af 83 5,aw 84 0 7,au 85 84,af 86 12,((some 87),.op (.build [(.val (.int .i64 0)),(.val (.int .i64 0))] [(0,1,(.tmp 86))])),aw 88 3 7,au 89 88,aV 90 4 2,aw 91 1 7,aw 92 0 91,au 93 92,((some 94),.qb (.val (.fn 66 [] [])) [(.tmp 90),(.tmp 93)]),aw 95 1 7,aw 96 1 95,au 97 96,aI 98 .add 97 1,((some 99),.op (.slice 1 (.tmp 94) (some (.tmp 98)) none)),aw 100 4 7,au 101 100,((some 102),.qb (.val (.fn 65 [] [])) [(.tmp 99),(.tmp 101)]),((some 103),.op (.build [(.val (.int .i64 0)),(.val (.int .i64 0)),(.val (.int .i64 0)),(.emp 1),(.emp 1)] [(0,1,(.tmp 85)),(1,2,(.tmp 87)),(3,1,(.tmp 89)),(4,1,(.tmp 102))])),aU 104 128 [83,103],af 5 104])]),ag [af 72 12,aI 73 .add 72 1,af 12 73]]
def pt:SC:=
 ai [ai [ag [af 16 6,af 17 5,aM 18 17,aS 19 .lss 16 18],bO 19 (.exit 0)],.block 1 (ai [ag [af 22 5,af 23 6,aL 24 5 22 23,aV 25 5 24,((some 7),.op (.alloc [(.val (.int .i64 0)),(.val (.int .i64 0)),(.val (.int .i64 0)),(.emp 1),(.emp 1)])),cz 5 7 25],ag [aV 27 4 2,aw 28 1 7,aV 29 2 28,aU 30 100 [27,29],af 26 30,c7 31 0 26,c7 32 1 26,af 8 31,af 9 32],ai [ag [af 33 9,cO 34 33],aX 34 (.exit 1)],ag [af 36 1,aw 37 0 7,au 38 37,af 39 8,((some 40),.op (.bH 1 1 [(.val (.int .i64 0))] [(0,(.tmp 39))])),aU 41 33 [36,38,40],af 35 41,c7 42 0 35,c7 43 1 35,af 10 42,af 11 43],ag [af 44 5,af 45 10,aw 46 1 7,aw 47 0 46,au 48 47,aw 49 1 7,aw 50 1 49,au 51 50,aI 52 .add 51 1,((some 53),.op (.build [(.val (.int .i64 0)),(.val (.int .i64 0))] [(0,1,(.tmp 48)),(1,1,(.tmp 52))])),aw 54 3 7,au 55 54,af 56 8,((some 57),.op (.bH 1 1 [(.val (.int .i64 0))] [(0,(.tmp 56))])),((some 58),.qb (.val (.fn 65 [] [])) [(.tmp 55),(.tmp 57)]),aw 59 4 7,au 60 59,((some 61),.op (.build [(.val (.int .i64 0)),(.val (.int .i64 0)),(.val (.int .i64 0)),(.emp 1),(.emp 1)] [(0,1,(.tmp 45)),(1,2,(.tmp 53)),(3,1,(.tmp 58)),(4,1,(.tmp 60))])),aU 62 128 [44,61],af 5 62],ag [aT 12 0],bR 2 pf]),ag [af 20 6,aI 21 .add 20 1,af 6 21]]
def rC:SF:=⟨ai [ag [bZ 2 0,bL 4 1],ag [((some 13),.op (.build [(.val (.int .i64 0)),(.val (.int .i64 0))] [(0,1,(.val (.val (.int .i64 (-1)))))])),((some 14),.op (.build [(.val (.int .i64 0)),(.val (.int .i64 0)),(.val (.int .i64 0)),(.emp 1),(.emp 1)] [(1,2,(.tmp 13))])),((some 15),.op (.bH 1 5 [(.val (.int .i64 0)),(.val (.int .i64 0)),(.val (.int .i64 0)),(.emp 1),(.emp 1)] [(0,(.tmp 14))])),af 5 15],ai [ag [aT 6 0],bR 0 pt],ag [af 105 5,af 4 105],.ret],
 [.tmp 4],106⟩
theorem yc:aJ aa 64 [2,200058,200094,200102]=some rC:=by kernel_rfl
theorem bw.one {H:View} {u:V} {sz:Nat} {es:List (List V)} (h:aN H u sz es):bw H [(u,sz,es)]:=by
 refine⟨λx a=>by simp at a;subst a;exact h,?_⟩
 cases hu:owner u<;>simp[hu]
theorem Mt {H:View} {n:Nat} {y:Int} (h:H n=.arr 1 [[gi y]]):cm H (.sl n 0 1 1) (encI [y]):=
 cm.own (sz:=1) (es:=aO [y]) (.inr ⟨n,rfl,h⟩) (by intro e he v a;simp at he;subst he;simp at a;subst a;exact .val _)
theorem QK (g:ak) (hg:g.Ok) (hr:bu g=true) (a:List ba) (p:eJ g a) (h3:a.length<=300) (H:View):
  az aa 64 [.agg (aj g),cq a] H λr H'=>∃S:List eK,aN H' r 5 (S.map dM)/\S.map eK.n=cX g a/\∀y∈S,y.Ok:=by
 have K:=p.jf
 have hT:=K.ax;have hN:=K.av;have cC:=K.rules
 have cI:=j8 K
 have B:aG a:=by unfold aG;omega
 have cV:aK (cq a)=true/\V.cells (cq a)=[cq a]:=⟨rfl,rfl⟩
 have M:∀(x:Int) (t:Bool),Ay (.bc [gi x,gb t]):=λx t=>.bc _ λi hi=>by
  match i,hi with
  | 0,_=>exact⟨_,rfl⟩
  | 1,_=>exact⟨_,rfl⟩
 refine az.of mixed yc ?_
 simp(disch:=omega)only[↓wr,seval,wq,rC,aj,encS]
 intro n0 b0
 refine aW.up 86101 (λi T H'=>∃(l:List bN) (S:List eK) (u:V),i<=l.length/\kc g a l/\iU g a (90000-i) i l=cX g a/\S.map eK.n=l/\(∀y∈S,y.Ok)/\aN H' u 5 (S.map dM)/\T 1=cq a/\T 2=.aR (aj g) 0/\T 5=u/\T 6=gi i)
  ⟨me,[⟨⟨0,⟨-1,0⟩,[],[]⟩,.emp 1,.emp 1⟩],.sl n0 0 1 5,by simp,Au p,rfl,rfl,?_,.inr ⟨n0,rfl,by simp[View.set];rfl⟩,rfl,rfl,rfl,rfl⟩ ?_
 .intro y U
  simp at U
  subst U
  exact⟨.inr ⟨rfl,rfl⟩,.inr ⟨rfl,rfl⟩⟩
 clear b0
 rintro i kk T H1 N ⟨l,S,u,c3,v,O,Y,C,ho,t1,t2,t5,t6⟩
 have b1:S.length=l.length:=by rw[<-Y,abc]
 have b2:cE u=some l.length:=by rw[ho.len,abc,b1]
 have c4:=v.short p h3
 simp(disch:=omega)only[↓wr,seval,wq,pt,t5,t6,b2]
 apply ao.dec<;>intro hc
 rotate_left
 .simp(disch:=omega)only[↓wr,seval,wq,t5]
  rw[DV (by omega)] at O
  exact⟨S,ho,by rw[Y,O],C⟩
 have U:S[i]?=some (S[i]'(by omega)):=aa8 (by omega)
 have Z:=abe (show i<S.length by omega)
 generalize S[i]'(by omega)=s at U Z
 have W:=C s Z
 have hi:l[i]?=some s.n:=by rw[<-Y,aba,U];rfl
 obtain⟨l1,⟨tl,b3⟩,_⟩:=Am p v hi
 have w:iU g a (90000-(i+1)) (i+1) (gq g a l s.n)=cX g a:=by
  rw[<-O,show 90000-i=90000-(i+1)+1 by omega,iU,hi]
 have A:i+1<=(gq g a l s.n).length:=by rw[b3,abv];omega
 obtain⟨n,ab,hH⟩:=ho.sl (by simp;omega)
 rw[abc] at ab
 have ae:(S.map dM).getD i []=dM s:=by simp[U]
 have j:=v.nd s.n (abi hi)
 have f:=p.has j.lt j.it
 obtain⟨⟨da,cN⟩,db,dc⟩:=And.intro f.1 f.2
 have dj:=v.len i s.n hi
 have dm:=j.small p
 obtain⟨⟨al,an,ds⟩,⟨aq,ar,dv⟩⟩:=And.intro W.a.eL W.b.eL
 have b4:JX g s.n.it=bI g s.n.it:=abb (GI.2 ⟨hr,f⟩)
 have D:=Sb g hg s.n.it ⟨by unfold bm;omega,by unfold bm;omega⟩
 rw[b4] at D
 simp only[aj,encS,bM] at D
 simp only[dM] at ae
 simp(disch:=omega)only[↓wr,seval,wq,t2,t5,t6,ab,hH,ae,al,aq,aj,encS]
 refine⟨by omega,by first | omega | (simp;omega),λn7 b5=>?_⟩
 rw[set_set]
 have X:=(bw.one ho).new b5 5 [dM s]
 have c:=X.is 0 rfl (by simp)
 simp only[dM] at c X
 generalize View.set H1 n7 (.arr 5 [[gi s.n.st,gi s.n.it.aB,gi s.n.it.dot,s.a,s.b]])=H2 at X c ⊢
 refine ay.pure D ?_
 cases E:bI g s.n.it with
 | mk y t =>
 rw[E] at D
 cases t with
 | false =>
  have P:gq g a l s.n=l:=by unfold gq;rw[E];rfl
  simp(disch:=omega)only[↓wr,seval,wq,t5,t6]
  rw[P] at l1 w A
  exact aF N (by omega) ⟨l,S,u,A,l1,w,Y,C,X.own 1 rfl,t1,t2,t5,rfl⟩
 | true =>
  obtain⟨f1,f2⟩:=pn f E
  have P:gq g a l s.n=kg g s.n y g.rules.length (iY l ⟨jk a s.n.st y,⟨s.n.it.aB,s.n.it.dot+1⟩,s.n.ah++[y],s.n.be⟩):=by
   unfold gq
   rw[E,abb rfl]
  rw[P] at l1 w A
  obtain⟨s1,s2,s3,s4⟩:=p.step j.lt j.it E
  obtain⟨_,_,_,_,_,b7⟩:=p.jk s1
  have Q:dS g y=true:=vA K f E
  have b8 : -100<=y/\y<=100:=by
   unfold dS at Q
   split at Q<;>simp at Q<;>omega
  have a1:(dJ g s.n.it).length<=6:=by
   have:=ed K (r:=s.n.it.aB) ⟨by omega,by omega⟩
   unfold dJ
   simp;omega
  have cS:(gY g s.n.it).length<=6:=by
   rw[f1] at a1
   simp only[abl] at a1
   omega
  obtain⟨m1,m2,m3⟩:=Fo p v (j.move p E) (by simp only[abv,abl,abG];omega) (by simp only;omega)
  have hle:l.length<=(iY l ⟨jk a s.n.st y,⟨s.n.it.aB,s.n.it.dot+1⟩,s.n.ah++[y],s.n.be⟩).length:=by obtain⟨t,ht⟩:=m2;rw[ht];simp
  have b9:=λk hk=>GM p j E k _ hk m1 (by omega) (by omega)
  have a6:=TS a B (p.Xr h3) s.n.st [y] (by unfold aG;simp)
  rw[b7] at a6
  have ca:=xp s.n.ah [y] (by simp;omega)
  have cb:=xp (gY g s.n.it) s.n.be (by omega)
  have a7:=FT g (by unfold bm;omega) s.n.it.aB ⟨by omega,by omega⟩
  have cc:c6 1 (encI (bV g s.n.it.aB)) (some (gi (s.n.it.dot+1))) none=some (encI (gY g s.n.it),.none,[]):=by
   obtain⟨d,hd,cf,ch⟩:=O8 f E
   rw[hd]
   have hlen:d+1<=(bV g s.n.it.aB).length:=by
    have:=ach List.length cf
    simp at this;omega
   have:=qM (l:=bV g s.n.it.aB) (k:=d+1) hlen
   rw[ch] at this
   push_cast at this
   exact this
  have a8:∀k:Nat,k<g.rules.length->g.rules[k]?=some (cd g k):=λk hk=>by unfold cd;exact getD_some (by simpa using hk)
  have bd:eK.Ok ⟨⟨jk a s.n.st y,⟨s.n.it.aB,s.n.it.dot+1⟩,s.n.ah++[y],s.n.be⟩,encI (s.n.ah++[y]),s.b⟩:=⟨.inl rfl,W.b⟩
  have bl:∀k:Nat,eK.Ok ⟨⟨s.n.st,⟨k,0⟩,s.n.ah,gY g s.n.it++s.n.be⟩,s.a,encI (gY g s.n.it++s.n.be)⟩:=λk=>⟨W.a,.inl rfl⟩
  simp only[aj,encS] at a7
  simp(disch:=omega)only[↓wr,seval,wq,t1,c]
  intro n8 F
  have bn:¬ n7=n8:=by rintro rfl;rw[c] at F;simp at F
  have o3:=X.fresh (o:=.arr 1 [[gi y]]) F
  refine ay.Av a6 (by kernel_rfl) (M _ _) ⟨.tree (nR a),.tree (.val _),Mt (by simp only[View.set,if_true]),trivial⟩ ?_
  simp(disch:=omega)only[↓wr,seval,wq,t5,c,bn]
  intro n9 q
  obtain⟨cj,q⟩:=cp q cw
  have o4:=o3.fresh (n:=n9) (o:=.arr 1 [[gi y]]) (by simp only[View.set,aa9 cj];exact q)
  try simp(disch:=omega)only[↓wr,seval,wq,t1,t2,t5,t6]
  refine ay.gV ca (by kernel_rfl) ⟨W.a.kI,Mt (by simp only[View.set,if_true]),trivial⟩ ?_
  have ck:¬ n7=n9:=by rintro rfl;rw[c] at q;simp at q
  simp(disch:=omega)only[↓wr,seval,wq,c,bn,ck,aq,ar,encI]
  have hm:=LQ S _ bd (by omega) u _ (o4.own 1 rfl)
  simp only[dM,encI] at hm
  refine ay.cF (hm.mono ?_)
  clear hm
  rintro r H5 ⟨o5,l5⟩
  have G:=(o4.perm (.swap _ _ _)).left o5 l5
  simp(disch:=omega)only[↓wr,seval,wq]
  refine aW.up g.rules.length (λk T H'=>∃(I:List eK) (u':V),I.map eK.n=kg g s.n y k (iY l ⟨jk a s.n.st y,⟨s.n.it.aB,s.n.it.dot+1⟩,s.n.ah++[y],s.n.be⟩)/\(∀z∈I,z.Ok)/\bw H' [(u',5,I.map dM),(.sl n7 0 1 5,5,[dM s])] /\
   T 1=cq a/\T 2=.aR (aj g) 0/\T 5=u'/\T 6=gi i/\T 7=.ptr n7 0 0/\T 8=gi y/\T 12=gi k) ⟨_,r,by rw[SH,Y];rfl,Oi C bd,G,t1,t2,rfl,t6,rfl,rfl,rfl⟩ ?_
  clear X o3 o4 o5 G F q c t1 t2 t5 t6
  rintro k k2 T H6 br ⟨I,u',J,m,G,t1,t2,t5,t6,t7,t8,t12⟩
  have c:=G.is 1 rfl (by simp)
  simp only[dM] at c
  have L:(¬ k<g.rules.length∨0<=y)->I.map eK.n=kg g s.n y g.rules.length (iY l ⟨jk a s.n.st y,⟨s.n.it.aB,s.n.it.dot+1⟩,s.n.ah++[y],s.n.be⟩):=λh=>by
   rw[J]
   rcases h with h | h
   .rw[show k=g.rules.length by omega]
   .have bs:∀k:Nat,k<g.rules.length->(cd g k).left≠-1-y:=λk hk e=>by
     have:=K.left _ (abi (a8 k hk))
     omega
    rw[Bz bs k _ (by omega),Bz bs _ _ (abg _)]
  simp(disch:=omega)only[↓wr,seval,wq,pf,t2,t12,aj]
  apply ao.dec<;>intro hc
  rotate_left
  .simp(disch:=omega)only[↓wr,seval,wq,t5,t6]
   exact aF N (by omega) ⟨_,I,u',A,l1,w,L (.inl (by omega)),m,G.own 0 rfl,t1,t2,t5,rfl⟩
  simp(disch:=omega)only[↓wr,seval,wq,t8]
  apply ao.dec<;>intro cu
  rotate_left
  .simp(disch:=omega)only[↓wr,seval,wq,t5,t6]
   exact aF N (by omega) ⟨_,I,u',A,l1,w,L (.inr (by omega)),m,G.own 0 rfl,t1,t2,t5,rfl⟩
  have hR:=a8 k (by omega)
  have cv:=K.left _ (abi hR)
  generalize bx:cd g k=R at hR cv
  simp(disch:=omega)only[↓wr,seval,wq,t2,t8,t12,aj,aba,hR,aQ]
  apply ao.eq<;>intro e
  .simp(disch:=omega)only[↓wr,seval,wq,t2,t5,t7,t12,aj,encS,c]
   refine ay.pure a7 ?_
   simp(disch:=omega)only[↓wr,seval,wq,t7,c,cc]
   refine ay.gV cb (by kernel_rfl) ⟨.tree (bg _),W.b.kI,trivial⟩ ?_
   simp(disch:=omega)only[↓wr,seval,wq,al,an,encI]
   obtain⟨r1,_,_⟩:=b9 k (by omega)
   have cA:=r1.short p h3
   rw[<-J,abc] at cA
   have hm:=LQ I _ (bl k) (by omega) u' _ (G.own 0 rfl)
   simp only[dM,encI] at hm
   refine ay.cF (hm.mono ?_)
   clear hm
   rintro r7 H7 ⟨o7,l7⟩
   simp(disch:=omega)only[↓wr,seval,wq,t6,t12]
   refine aF br (by omega) ⟨_,r7,?_,Oi m (bl k),G.left o7 l7,t1,t2,rfl,t6,t7,t8,rfl⟩
   rw[SH,J,kg,abb (by rw[bx];exact e)]
  .simp(disch:=omega)only[↓wr,seval,wq,t5,t6,t12]
   refine aF br (by omega) ⟨I,u',?_,m,G,t1,t2,t5,t6,t7,t8,rfl⟩
   rw[J,kg,aa9 (by rw[bx];exact e)]
def pr:SC:=
 ai [ai [ag [af 6 5,af 7 0,aM 8 7,aS 9 .lss 6 8],bO 9 (.exit 0)],.block 1 (ai [ag [af 12 0,af 13 5,aL 14 5 12 13,aw 15 0 14,au 16 15,af 17 1,aS 18 .eql 16 17],aX 18 (ai [ag [af 19 0,af 20 5,aL 21 5 19 20,aV 22 5 21,cz 5 4 22],.ret])]),ag [af 10 5,aI 11 .add 10 1,af 5 11]]
def rL:SF:=⟨ai [ag [((some 4),.op (.alloc [(.val (.int .i64 0)),(.val (.int .i64 0)),(.val (.int .i64 0)),(.emp 1),(.emp 1)]))],ai [ag [aT 5 0],bR 0 pr],ag [((some 23),.op (.build [(.val (.int .i64 0)),(.val (.int .i64 0)),(.val (.int .i64 0)),(.emp 1),(.emp 1)] [])),cz 5 4 23],.ret],
 [.cell 4 (some 5)],24⟩
theorem xF:aJ aa 63 []=some rL:=by kernel_rfl
def pw:SC:=
 ai [ai [ag [af 25 8,af 26 4,aM 27 26,aS 28 .lss 25 27],bO 28 (.exit 0)],.block 1 (ai [ag [af 31 6,af 32 8,aU 33 63 [31,32],((some 9),.op (.alloc [(.val (.int .i64 0)),(.val (.int .i64 0)),(.val (.int .i64 0)),(.emp 1),(.emp 1)])),cz 5 9 33],.region true [⟨none,[aV 35 4 1,aw 36 3 9,au 37 36,aV 38 4 1,aw 39 1 9,aw 40 0 39,au 41 40,aU 42 66 [38,41],aw 43 1 9,aw 44 1 43,au 45 44,((some 46),.op (.slice 1 (.tmp 42) (some (.tmp 45)) none)),aw 47 4 9,au 48 47,aU 49 65 [46,48],aU 50 65 [37,49],aU 51 34 [35,50],af 34 51,c7 52 0 34,c7 53 1 34,af 10 52,af 11 53]⟩],ai [ag [af 54 11,aI 55 .neq 54 0],aX 55 (ai [ag [af 56 11,bL 2 1,af 3 56],.ret])],ag [aV 58 4 1,aw 59 3 9,au 60 59,aU 61 34 [58,60],af 57 61,c7 62 0 57,c7 63 1 57,af 12 62,af 13 63],ag [af 64 7,af 65 8,af 66 12,aM 67 66,af 68 10,((some 69),.op (.build [(.val (.int .i64 0)),(.val (.int .i64 0)),(.emp 1)] [(0,1,(.tmp 65)),(1,1,(.tmp 67)),(2,1,(.tmp 68))])),((some 70),.op (.bH 1 3 [(.val (.int .i64 0)),(.val (.int .i64 0)),(.emp 1)] [(0,(.tmp 69))])),eZ 71 3 40 64 70,af 7 71]]),ag [af 29 8,aI 30 .add 29 1,af 8 30]]
def rA:SF:=⟨ai [ag [bZ 1 0,bL 2 1,aT 3 0],ag [aV 15 4 1,aU 16 32 [15],af 14 16,c7 17 0 14,c7 18 1 14,af 4 17,af 5 18],ai [ag [af 19 5,aI 20 .neq 19 0],aX 20 (ai [ag [af 21 5,bL 2 1,af 3 21],.ret])],ag [aV 22 4 1,af 23 4,aU 24 64 [22,23],af 6 24],ag [bL 7 1],ai [ag [aT 8 0],bR 0 pw],ag [af 72 7,af 2 72,aT 3 0],.ret],
 [.tmp 2,.tmp 3],73⟩
theorem xO:aJ aa 29 [1]=some rA:=by kernel_rfl
theorem Nk {l:List bN} {i k:Nat} {x:bN} (h:l[k]?=some x):dK (l.drop k) i=if x.st=i then x else dK (l.drop (k+1)) i:=by
 obtain⟨hk,he⟩:=abf.1 h
 unfold dK
 rw[abS hk,he,ado]
 by_cases e:x.st=i
 .simp[e]
 .simp[e]
theorem PX (S:List eK) (v:∀y∈S,y.Ok) (O:S.length<=90000) (i:Nat) (hi:∃y∈S.map eK.n,y.st=i) (u:V) (H:View) (w:aN H u 5 (S.map dM)):
  az aa 63 [u,gi i] H λr H'=>(∃y∈S,r=.agg (dM y)/\y.n=dK (S.map eK.n) i)/\∀id,H id≠.dead->H' id=H id:=by
 have x:cE u=some S.length:=by rw[w.len,abc]
 refine az.of mixed xF ?_
 simp(disch:=omega)only[↓wr,seval,wq,rL]
 intro j l
 have A:∀ {o:ct} (id:Nat),H id≠.dead->(H.set j o) id=H id:=λ{o} id c=>by
  have:¬ id=j:=by rintro rfl;exact c l
  simp only[View.set,aa9 this]
 refine aW.up S.length (λk T H'=>dK ((S.map eK.n).drop k) i=dK (S.map eK.n) i/\(∃y∈(S.map eK.n).drop k,y.st=i)/\H' j=.arr 5 [[gi 0,gi 0,gi 0,.emp 1,.emp 1]]/\(∀id,H id≠.dead->H' id=H id)/\T 0=u/\T 1=gi i/\T 4=.ptr j 0 0/\T 5=gi k)
  ⟨rfl,hi,by simp[View.set],λid c=>A id c,rfl,rfl,rfl,rfl⟩ ?_
 rintro k P T H1 hk ⟨J,hex,K,d,t0,t1,t4,t5⟩
 have B:aN H1 u 5 (S.map dM):=w.keep λid c=>d id (by rw[(w.live c).1];simp)
 simp(disch:=omega)only[↓wr,seval,wq,pr,t0,t5,x]
 apply ao.dec<;>intro L
 rotate_left
 .exfalso
  rw[aby (by simp;omega)] at hex
  obtain⟨y,m,_⟩:=hex
  simp at m
 have m:S[k]?=some (S[k]'(by omega)):=aa8 (by omega)
 have f:=abe (show k<S.length by omega)
 generalize S[k]'(by omega)=y at m f
 have p:(S.map eK.n)[k]?=some y.n:=by rw[aba,m];rfl
 have q:=Nk (i:=i) p
 obtain⟨n,g,hH⟩:=B.sl (by simp;omega)
 rw[abc] at g
 have h:(S.map dM).getD k []=dM y:=by simp[m]
 simp only[dM] at h
 have s:=v y f
 obtain⟨⟨C,D,M⟩,⟨E,F,N⟩⟩:=And.intro s.a.eL s.b.eL
 simp(disch:=omega)only[↓wr,seval,wq,t0,t1,t5,g,hH,h]
 refine⟨by omega,by first | omega | (simp;omega),?_⟩
 apply ao.eq<;>intro e
 .simp(disch:=omega)only[↓wr,seval,wq,t0,t4,t5,g,hH,h,K,C,E]
  refine⟨by omega,by first | omega | (simp;omega),?_⟩
  refine⟨⟨y,f,rfl,?_⟩,λid c=>?_⟩
  .rw[<-J,q,abb (by omega)]
  .have:¬ id=j:=by rintro rfl;exact c l
   simp only[aa9 this]
   exact d id c
 .simp(disch:=omega)only[↓wr,seval,wq,t4,t5]
  refine aF hk (by omega) ⟨?_,?_,K,d,t0,t1,t4,rfl⟩
  .rw[<-J,q,aa9 (by omega)]
  .obtain⟨z,t,G⟩:=hex
   obtain⟨I,he⟩:=abf.1 p
   rw[abS I,he] at t
   rcases abw.1 t with rfl | t
   .omega
   .exact⟨z,t,G⟩
theorem FX (g:ak) (C:g.Ok):aC aa 29 [.agg (aj g)] (zq (cB g)):=by
 refine aC.of (dy g) ?_
 have hB:=(PI g C).pure
 have E:cE (cq (cD g).1)=some (cD g).1.length:=by simp[cq,cE]
 refine az.of mixed xO ?_
 simp only[aj,encS] at hB
 simp(disch:=omega)only[↓wr,seval,wq,rA,aj,encS]
 refine ay.pure hB ?_
 simp(disch:=omega)only[↓wr,seval,wq]
 unfold cB
 apply ao.ne<;>intro h
 .rw[abb h]
  simp(disch:=omega)only[↓wr,seval,wq]
  intro F _
  exact(lL (.emp 1)).LR
 rw[aa9 (by omega)]
 obtain⟨hr,r,c⟩:=H8 h
 have G:=Dj hr
 generalize (cD g).1=a at *
 have ae:=j8 r.jf
 obtain⟨n1,_,_⟩:=Ah r c
 have al:=n1.short r c
 have s:=QK g C G a r c (λ_=>.dead)
 simp only[aj,encS] at s
 simp(disch:=omega)only[↓wr,seval,wq]
 refine ay.cF (s.mono ?_)
 rintro u H1 ⟨S,ho,I,t⟩
 have an:S.length=(cX g a).length:=by rw[<-I,abc]
 simp(disch:=omega)only[↓wr,seval,wq]
 refine aW.up a.length (λi T H'=>∃(v:V),(cR g a i).2=0/\bw H' [(v,3,(cR g a i).1.map iw),(u,5,S.map dM)]/\T 1=.aR (aj g) 0/\T 4=cq a/\T 6=u/\T 7=v/\T 8=gi i) ⟨.emp 1,rfl,(bw.one ho).emp,rfl,rfl,rfl,rfl,rfl⟩ ?_
 clear ho
 rintro i k T H hk ⟨v,he,o,t1,t4,t6,t7,t8⟩
 simp(disch:=omega)only[↓wr,seval,wq,pw,t4,t8,E]
 apply ao.dec<;>intro hc
 .have hi:i<a.length:=by omega
  obtain⟨f1,f2,f3⟩:=ET r c hi
  obtain⟨D,p2,p3,p4,p5,p6⟩:=CI r c hi
  have f:cR g a (i+1)=if (dh g ((fq g a i).1++(fq g a i).2)).2≠0 then ([],(dh g ((fq g a i).1++(fq g a i).2)).2) else ((cR g a i).1++[xC g a i],0):=by
   rw[cR,aa9 (by rw[he];simp)]
  have p:xC g a i=⟨i,((dh g (fq g a i).1).1.length:Int),(dh g ((fq g a i).1++(fq g a i).2)).1⟩:=rfl
  simp(disch:=omega)only[↓wr,seval,wq,t6,t8]
  refine ay.cF ((PX S t (by omega) i ⟨_,by rw[I];exact f1,f2⟩ u H (o.own 1 rfl)).mono ?_)
  rintro _ H2 ⟨⟨y,J,rfl,q⟩,K⟩
  rw[I] at q
  have o2:=o.stay K
  have m:=t y J
  obtain⟨⟨L,M,aq⟩,⟨N,O,ar⟩⟩:=And.intro m.a.eL m.b.eL
  have P:fq g a i=(y.n.ah,dJ g y.n.it++y.n.be):=by rw[q];rfl
  rw[<-q] at D p2 p3 p4 p5 p6
  rw[P] at f p
  simp only at f p
  have Q:=xp (dJ g y.n.it) y.n.be (by omega)
  have R:=xp y.n.ah (dJ g y.n.it++y.n.be) (by simp;omega)
  have w:=FT g (by unfold bm;omega) y.n.it.aB D.1
  have U:c6 1 (encI (bV g y.n.it.aB)) (some (gi y.n.it.dot)) none=some (encI (dJ g y.n.it),.none,[]):=by
   obtain⟨d,hd⟩:∃d:Nat,y.n.it.dot=d:=⟨y.n.it.dot.toNat,by have:=D.2;omega⟩
   have h2:=D.2
   unfold dJ
   rw[hd] at h2 ⊢
   rw[abM]
   exact qM (by omega)
  have z:=(Jp g C (y.n.ah++(dJ g y.n.it++y.n.be)) (by simp;omega) p6).pure
  have A:=Jp g C y.n.ah (by omega) p5
  have a1:=uY (g:=g) (a:=a) i
  have W:=λh=>(EJ (g:=g) (u:=y.n.ah) (v:=dJ g y.n.it++y.n.be) h).1
  simp only[aj,encS,Ey] at z A
  simp only[aj,encS] at w
  generalize dh g (y.n.ah++(dJ g y.n.it++y.n.be))=X at *
  generalize dh g y.n.ah=wx at *
  simp(disch:=omega)only[↓wr,seval,wq,dM,L,N]
  intro n9 Y
  have o3:=o2.fresh (n:=n9) (o:=.arr 5 [dM y]) Y
  try rw[set_set]
  simp(disch:=omega)only[↓wr,seval,wq,t1,aj,encS]
  refine ay.pure w ?_
  simp(disch:=omega)only[↓wr,seval,wq,U]
  refine ay.gV Q (by kernel_rfl) ⟨.tree (bg _),m.b.kI,trivial⟩ ?_
  simp(disch:=omega)only[↓wr,seval,wq]
  refine ay.gV R (by kernel_rfl) ⟨m.a.kI,.tree (bg _),trivial⟩ ?_
  simp(disch:=omega)only[↓wr,seval,wq]
  refine ay.pure z ?_
  simp(disch:=omega)only[↓wr,seval,wq]
  apply ao.ne<;>intro h1
  .rw[abb h1] at f
   simp(disch:=omega)only[↓wr,seval,wq]
   intro F _
   rw[FE (i:=i+1) (by rw[f];exact h1) (by omega),f]
   exact(lL (.emp 1)).LR
  rw[aa9 (by omega)] at f
  have h2:wx.2=0:=W (by omega)
  simp(disch:=omega)only[↓wr,seval,wq,t1,aj,encS]
  refine ay.gV A (by kernel_rfl) ⟨.tree (bW _ (cy g)),m.a.kI,trivial⟩ ?_
  simp(disch:=omega)only[↓wr,seval,wq,t7,t8,encI]
  intro n10 l
  obtain⟨B,l⟩:=cp l cw
  have o4:=o3.fresh (n:=n10) (o:=.arr 3 [[gi i,gi wx.1.length,encI X.1]]) (by
   simp only[View.set,aa9 B]
   first | exact l | exact(cp l cw).2)
  simp(disch:=omega)only[↓wr,seval,wq,bD]
  refine dC (es:=(cR g a i).1.map iw) o4 (by simp[aK]) (by unfold aE;simp;omega) (by unfold aE;simp;omega) ?_
  intro u5 H5 o5 l5
  simp(disch:=omega)only[↓wr,seval,wq,t8]
  refine aF hk hi ⟨u5,by rw[f],?_,t1,t4,t6,rfl,rfl⟩
  rw[f,p,abA]
  exact o5
 .obtain rfl:i=a.length:=by omega
  simp(disch:=omega)only[↓wr,seval,wq,t7]
  intro F Z
  have ab:=cm.own (o.own 0 rfl) (λe he v Z=>by
   obtain⟨x,_,rfl⟩:=abt.1 he
   exact Cz x v Z) F Z
  unfold zq
  rw[he]
  exact .bc _ _ rfl λj Q=>by
   match j,Q with
   | 0,_=>exact ab
   | 1,_=>exact .tree _ (.val _)
abbrev LB:Nat:=4294967296
def TH:Nat->Nat->List Nat
 | 0,_=>[]
 | f+1,n=>if n=0 then [] else n % LB::TH f (n / LB)
def aa5 (n:Nat):List Nat:=TH 70 n
abbrev gl (n:Nat):V:=.val (.int .u64 (n:Int))
theorem s7 {h:Heap} {u v:V} {e:Int} (hu:Fr h u v):Fr h (.bc [u,gi e]) (.bc [v,gi e]):=.bc _ _ rfl λi hi=>by
 match i,hi with
 | 0,_=>exact hu
 | 1,_=>exact .tree _ (.val _)
end
end Gv
