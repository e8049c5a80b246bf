/-
  Part 17 of the proof: what the machine does and what the functions answer.
  Conditions: those that each lemma names.
-/
import Derived.Test.YtihmlbdfcmfbdaaGreatSGzB5P
set_option linter.unusedSimpArgs false
set_option linter.unusedVariables false
set_option maxRecDepth 100000
set_option maxHeartbeats 20000000
namespace Gv
open Go Go.Proofs
theorem ay.still {P:Program} {f:FuncId} {vs:List V} {H:View} {K:V->View->Prop} {w:cO (H,K)} {a:V->View->Prop} (b:av P f vs H a) (hs:∀ r H',a r H'->∀ id,H id≠.dead->H' id=H id) (hk:∀ r H',a r H'->K r H'):ay P true f vs H K w:=by
 unfold ay
 simp only[if_true]
 exact(b.mono λr H' h=>⟨hs r H' h,hk r H' h⟩).Pr
theorem bk.join {H:View} {L M:List cx} (h:bk H L) (k:bk H M) (hd:∀ x∈L,∀ y∈M,∀ id,owner x.1=some id->owner y.1≠some id):bk H (L ++ M):=by
 refine⟨λx c=>?_,?_⟩
 .rcases aaZ.1 c with c | c
  .exact h.1 x c
  .exact k.1 x c
 .rw[List.filterMap_append,abr]
  refine⟨h.2,k.2,λa g b i e=>?_⟩
  obtain⟨x,c,d⟩:=abJ.1 g
  obtain⟨y,j,f⟩:=abJ.1 i
  subst e
  exact hd x c y j a d f
theorem bk.sub {H:View} {L M:List cx} (h:bk H L) (hs:M.Sublist L):bk H M :=
 ⟨λx a=>h.1 x (hs.subset a),h.2.sublist (hs.filterMap _)⟩
theorem RK {l:List aA} (hs:cB l) (g:l.length<=100000) (u:V) (H:View) (b:ba H u 2 (aV l)):av Tryz.prog 64 [u] H λr H'=>H=H'/\ba H r 2 (aV l)/\(l≠[]->r=u):=by
 refine(Ng l g u H b).mono ?_
 rintro r H' ⟨i,k2,a⟩
 rw[Pw hs] at k2
 have e:H'=H:=by
  funext id
  by_cases h:owner u=some id
  .rw[(b.live h).1,(k2.live (by rw[a];exact h)).1]
  .exact i id h
 subst e
 refine⟨rfl,k2,λc=>?_⟩
 have hp:0 < (aV l).length:=by rw[bI];exact acv.2 c
 obtain⟨n,d,_⟩:=b.sl hp
 obtain⟨m,f,_⟩:=k2.sl hp
 rw[d,f] at a
 simp only[owner,aau] at a
 rw[d,f,a]
def tJ (g:ai) (out:List aL) (M:bY (List UInt8)):Prop:=∀ l:List aA,(∀ x∈l,cG g x)->getM M (gV l)=if findD out l < 0 then none else some (gi (findD out l))
theorem IQ:∀ {a b:List aL},a.map aL.bc=b.map aL.bc->∀ k,findD a k=findD b k
 | [],[],_,_=>rfl
 | [],_ :: _,h,_=>by simp at h
 | _ :: _,[],h,_=>by simp at h
 | s :: a,t :: b,h,k=>by
  simp only[aaW,acr] at h
  rw[findD,findD,h.1,IQ h.2 k]
theorem FW:∀ (a:List aL) (s:aL) (k:List aA),findD (a ++ [s]) k=if 0<=findD a k then findD a k else if s.bc=k then (a.length:Int) else -1
 | [],s,k=>by by_cases e:s.bc=k <;> simp[findD,e]
 | t :: a,s,k=>by
  have b:=FW a s k
  have h1:=vn a k
  rw[aa9,findD,findD,b]
  simp only[aaK]
  push_cast
  by_cases e:t.bc=k <;> by_cases c:s.bc=k <;> by_cases d:0<=findD a k <;> simp only[e,c,d,if_true,if_false] <;> (repeat' split) <;> omega
theorem tJ.same {g:ai} {a b:List aL} {M:bY (List UInt8)} (h:tJ g a M) (e:a.map aL.bc=b.map aL.bc):tJ g b M:=λl hl=>by
 rw[h l hl,IQ e]
theorem tJ.put {g:ai} (b:g.dM) {out:List aL} {M:bY (List UInt8)} (h:tJ g out M) {k:List aA} (hk:∀ x∈k,cG g x) (f:findD out k < 0) (c:Nat):tJ g (out ++ [⟨k,[]⟩]) (bN (gV k) (gi out.length) c M):=λl hl=>by
 have h1:=FW out ⟨k,[]⟩ l
 have i:=vn out l
 rw[r5]
 by_cases e:l=k
 .subst e
  rw[aat (by omega),aaw rfl] at h1
  rw[h1,ab1,aaw rfl,aat (by omega)]
 .have d:(gV l == gV k)=false:=beq_eq_false_iff_ne.2 λh=>e (Ks b hl hk h)
  rw[d,h l hl]
  simp only[aaU,if_false]
  by_cases a:0<=findD out l
  .rw[aaw a] at h1
   rw[h1]
  .rw[aat a,aat (λh=>e h.symm)] at h1
   rw[h1,aaw (by omega),aaw (by omega)]
theorem Jy {A:bY Int} {k:Nat} {v:V} (d:(A.map (·.1)).Nodup) (h:getM A (k:Int)=some v):∃ b,(A.filter (λx=>decide (((k:Nat):Int)<=x.1))).Perm (((k:Int),v,b) :: A.filter (λx=>decide (((k+1:Nat):Int)<=x.1))):=by
 obtain⟨g,f,b,rfl,a,_⟩:=zq h
 rw[aaS,aaW,abr] at d
 have c:(k:Int) ∉ f.map (·.1):=(abo.1 d.2.1).1
 have e:∀ B:bY Int,(k:Int) ∉ B.map (·.1)->B.filter (λx=>decide (((k:Nat):Int)<=x.1))=B.filter (λx=>decide (((k+1:Nat):Int)<=x.1)):=λB i=>List.filter_congr λx j=>by
  have:x.1≠(k:Int):=λe=>i (aaM.2 ⟨x,j,e⟩)
  rw[decide_eq_decide];omega
 refine⟨b,?_⟩
 rw[abN,abN,acp,acp,aaw (by simp),aat (by simp only[aaE];push_cast;omega),e g a,e f c]
 exact aba
theorem Y5 {α:Type} {e u r:α} {S X Y:List α} (h:X.Perm (r :: Y)):(e :: u :: (S ++ X)).Perm (u :: ((S ++ [r,e]) ++ Y)):=by
 refine(List.Perm.swap _ _ _).trans (.cons _ ?_)
 rw[aa6]
 refine((h.append_left S).cons e).trans ?_
 exact aba.symm.trans ((List.Perm.swap _ _ _).append_left S)
theorem Jo {α:Type} {u k e:α} {S R:List α} : (u :: (S ++ k :: e :: R)).Perm (e :: u :: (S ++ k :: R)):=by
 have h:(S ++ k :: e :: R).Perm (e :: (S ++ k :: R)):=by
  have:=aba (a:=e) (l₁:=S ++ [k]) (l₂:=R)
  simpa using this
 exact(h.cons u).trans (List.Perm.swap _ _ _)
def ym:SC :=
 ae [ab [aQ 49 .lss 48 47],bS 49 (.exit 2),.block 3 (ae [ab [aa 50 48,aa 9 50],ab [aa 51 8,aa 52 9,((some 53),.op (.old (.lookup 98 (.tmp 51) (.tmp 52) false) 27)),bm 54 64 [53],aa 10 54],ae [ab [aa 55 10,aM 56 55,aF 57 .eql 56 0],bf 57 (.exit 3)],ab [aa 58 9,aa 11 58],ae [ab [aa 59 9,ao 60 0 1,aj 61 60,aM 62 61,aQ 63 .geq 59 62],bf 63 (ab [ao 64 0 1,aj 65 64,aM 66 65,aF 67 .sub 66 1,aa 68 9,aQ 69 .sub 67 68,aa 11 69])],ab [aa 71 6,aa 72 10,bm 73 62 [72],((some 74),.op (.old (.lookup 97 (.tmp 71) (.tmp 73) true) 30)),aa 70 74,eP 75 0 70,eP 76 1 70,aa 12 75,aa 13 76],ae [ab [aa 77 13,c4 78 77],bf 78 (ae [ab [aa 79 5,aM 80 79,aa 12 80],ab [aa 81 6,aa 82 10,bm 83 62 [82],aa 84 12,(none,.op (.old (.mapUpdate 97 (.tmp 81) (.tmp 83) (.tmp 84)) 0))],ab [aa 85 5,aa 86 10,((some 87),.op (.build [(.emp 1),(.emp 1)] [(0,1,(.tmp 86))])),((some 88),.op (.bW 1 2 [(.emp 1),(.emp 1)] [(0,(.tmp 87))])),gx 89 2 48 85 88,aa 5 89]])],ab [aa 90 5,aa 91 7,aa 92 5,aa 93 7,aI 94 2 92 93,ao 95 1 94,aj 96 95,aa 97 11,aa 98 12,((some 99),.op (.build [(.val (.int .i64 0)),(.val (.int .i64 0))] [(0,1,(.tmp 97)),(1,1,(.tmp 98))])),((some 100),.op (.bW 1 2 [(.val (.int .i64 0)),(.val (.int .i64 0))] [(0,(.tmp 99))])),gx 101 2 16 96 100,aI 102 2 90 91,ao 103 1 102,bZ 1 103 101]]),ab [aF 104 .add 48 1,aa 48 104]]
def yj:SC :=
 ae [ae [ab [aa 26 7,aa 27 5,aM 28 27,aQ 29 .lss 26 28],bS 29 (.exit 0)],.block 1 (ae [.region true [⟨none,[aY 32 4 1,aY 33 4 1,aa 34 5,aa 35 7,aI 36 2 34 35,ao 37 0 36,aj 38 37,bm 39 56 [33,38],bm 40 63 [32,39],aa 8 40]⟩],ae [ab [ao 41 0 1,aj 42 41,aM 43 42,ao 44 1 1,aj 45 44,aM 46 45,aQ 47 .add 43 46,aT 48 0],bX 2 ym],ab [aa 105 5,aM 106 105,aF 107 .gtr 106 300],bf 107 (ae [ab [cT 2 1,aT 3 5],.ret])]),ab [aa 30 7,aF 31 .add 30 1,aa 7 31]]
def B7:SF:=⟨ae [ab [cy 1 0,cT 2 1,aT 3 0],ae [ab [aY 14 4 1,bm 15 61 [14],c4 16 15],bf 16 (ae [ab [cT 2 1,aT 3 1],.ret])],ab [((some 17),.op (.build [(.val (.int .i64 0)),(.val (.int .i64 0))] [(0,1,(.val (.val (.int .i64 (-1)))))])),((some 18),.op (.bW 1 2 [(.val (.int .i64 0)),(.val (.int .i64 0))] [(0,(.tmp 17))])),aa 4 18],ab [aa 19 4,((some 20),.op (.build [(.emp 1),(.emp 1)] [(0,1,(.tmp 19))])),((some 21),.op (.bW 1 2 [(.emp 1),(.emp 1)] [(0,(.tmp 20))])),aa 5 21],ab [((some 22),.op (.p9)),aa 23 4,bm 24 62 [23],(none,.op (.old (.insert 97 (.tmp 22) (.tmp 24) (.const (.int .i64 0))) 0)),aa 25 22,aa 6 25],ae [ab [aT 7 0],bX 0 yj],ab [aa 108 5,aa 2 108,aT 3 0],.ret],
 [.tmp 2,.tmp 3],109⟩
theorem EI:aO Tryz.prog 24 [1]=some B7:=by kernel_rfl
def AbI (g:ai) (m:Nat) (T:Env) (H:View):Prop:=∃ (at_:Nat) (u:V) (S:List ry) (out:List aL) (q c:Nat) (M:bY (List UInt8)),m+at_=302/\out=S.map (λx=>x.2.2)/\bk H ((u,2,fD S) :: nN S)/\ey g at_ 0 out/\1<=out.length/\out.length<=300/\gz g m at_ out=bJ g/\at_<=out.length /\
 H q=.map (cI jn M) c/\tJ g out M/\T 1=.aH (ag g) 0/\T 5=u/\T 6=.mp q/\T 7=gi at_
theorem IT (g:ai) (hg:g.Ok) (e6:g.Small):cW Tryz.prog 24 [.agg (ag g)] (.bD [aW (bJ g).1,gi (bJ g).2]):=by
 refine cW.of (eK g) ?_
 have c9:=Rp g hg e6
 refine av.of mixed EI ?_
 simp only[ag,encS] at c9
 simp(disch:=omega)only[↓wr,seval,wq,B7,ag,encS]
 refine ay.pure c9 ?_
 simp(disch:=omega)only[↓wr,seval,wq]
 apply ah.split<;>intro hr
 rotate_left
 .simp(disch:=omega)only[↓wr,seval,wq]
  intro h' _
  have e:bJ g=([],1):=by unfold bJ;rw[aat (by rw[hr];simp)]
  rw[e]
  exact lB (.emp _)
 have L:g.dM:=nr hr
 have e0:gz g 302 0 eA=bJ g:=by unfold bJ;rw[aaw hr]
 have hT:=L.af;have hN:=L.ak
 simp(disch:=omega)only[↓wr,seval,wq]
 intro X q2 N q3 da
 have b7:cG g ⟨-1,0⟩:=(pO (g:=g)).bc ⟨[⟨-1,0⟩],[]⟩ (by simp[eA]) |>.2.2 _ (by simp)
 have o0:bk (((View.set (λ_=>di.dead) X (.arr 2 [[gi (-1),gi 0]])).set q2 (.arr 2 [[.sl X 0 1 2,.emp 1]]))) ((.sl q2 0 1 2,2,fD [(.sl X 0 1 2,.emp 1,⟨[⟨-1,0⟩],[]⟩)]) :: nN [(.sl X 0 1 2,.emp 1,⟨[⟨-1,0⟩],[]⟩)]) :=
  (((bk.nil.emp (k:=1) (sz:=2)).new (n:=X) rfl 2 [[gi (-1),gi 0]]).new (by simpa [View.set] using N) 2 [[.sl X 0 1 2,.emp 1]])
 have o1:=o0.fresh (n:=q3) (by simpa [View.set] using da) (o:=.map [] 0)
 have b0:((((View.set (λ_=>di.dead) X (.arr 2 [[gi (-1),gi 0]])).set q2 (.arr 2 [[.sl X 0 1 2,.emp 1]])).set q3 (.map [] 0))) q3=.map (cI jn []) 0:=by simp[View.set,cI]
 generalize (((View.set (λ_=>di.dead) X (.arr 2 [[gi (-1),gi 0]])).set q2 (.arr 2 [[.sl X 0 1 2,.emp 1]])).set q3 (.map [] 0))=H3 at o1 b0 ⊢
 clear o0 N da
 have db:ba H3 (.sl X 0 1 2) 2 (aV [⟨-1,0⟩]):=o1.1 _ (aaO _ (acA ..))
 refine ay.dr ((Kb g L [⟨-1,0⟩] (λx Y=>by simp at Y;subst Y;exact b7) (by simp) (.sl X 0 1 2) H3 db).mono ?_)
 rintro r H4 ⟨rfl,k4⟩
 have cj:H4 q3=.map (cI jn []) 0:=by rw[k4 q3 (by rw[b0];simp),b0]
 simp(disch:=omega)only[↓wr,seval,wq,XZ]
 refine ye (kt:=9) (et:=3) (by kernel_rfl) (Ly Tryz.underlying9) (id:=q3) (c:=0) (m:=[]) (k:=gV [⟨-1,0⟩]) (v:=gi 0) (by simp(disch:=omega)only[↓wr,seval,wq]) (by simp(disch:=omega)only[↓wr,seval,wq]) rfl cj ?_
 intro K
 have dc:tJ g eA (bN (gV [⟨-1,0⟩]) (gi 0) 0 []):=tJ.put (out:=[]) L (λl _=>by simp[getM,findD]) (λx Y=>by simp at Y;subst Y;exact b7) (by simp[findD]) 0
 have o2:=(o1.stay k4).xM cj (o:=.map (cI jn (bN (gV [⟨-1,0⟩]) (gi 0) 0 [])) K)
 have ck:(H4.set q3 (.map (cI jn (bN (gV [⟨-1,0⟩]) (gi 0) 0 [])) K)) q3=.map (cI jn (bN (gV [⟨-1,0⟩]) (gi 0) 0 [])) K:=by simp[View.set]
 generalize H4.set q3 (.map (cI jn (bN (gV [⟨-1,0⟩]) (gi 0) 0 [])) K)=H5 at o2 ck ⊢
 clear cj b0 k4 db o1
 clear H4 H3
 simp(disch:=omega)only[↓wr,seval,wq]
 refine aS.intro (AbI g) 302 ⟨0,_,_,eA,q3,K,_,rfl,rfl,o2,pO,aaD _,by simp[eA],e0,by omega,ck,dc,rfl,rfl,rfl,rfl⟩ ?_
 clear o2 ck dc
 clear H5 X q2 q3 K
 rintro m T H ⟨at_,u,S,out,q,c,M,hm,rfl,O,hI,h1,b8,hl,hle,t,F,t1,t5,t6,t7⟩
 have a1:cU u=some S.length:=by rw[O.head.len,du]
 simp only[aaA] at h1 b8 hle
 simp(disch:=omega)only[↓wr,seval,wq,yj,t1,t5,t6,t7,a1]
 apply ah.dec<;>intro hc
 rotate_left
 .simp(disch:=omega)only[↓wr,seval,wq,t5]
  have e1:bJ g=(S.map (λx=>x.2.2),0):=by
   rw[<-hl]
   cases m with
   | zero=>rfl
   | succ m=>rw[gz,aat (by simp;omega)]
  rw[e1]
  rintro h' rfl
  exact lB (Gu O.head λx Y=>⟨O.1 _ (aaO _ (pk Y).1),O.1 _ (aaO _ (pk Y).2)⟩)
 obtain⟨m,rfl⟩:∃ q,m=q+1:=⟨m - 1,by omega⟩
 have a6:at_ < S.length:=by omega
 obtain⟨S1,x,p,rfl,Z,Y⟩:=oT a6
 have cu:x∈S1 ++ x :: p:=by simp
 obtain⟨dj,e7,a7⟩:=hI.bc x.2.2 (List.mem_map_of_mem cu)
 have e8:=gK L dj a7
 have hh:ba H u 2 (fD (S1 ++ x :: p)):=O.head
 obtain⟨id,hu,w⟩:=hh.sl (by rw[du];omega)
 have a8:(fD (S1 ++ x :: p)).getD at_ []=[x.1,x.2.1]:=by simp[fD,aaq,<-Z]
 have dm:cL g ((List.map (λx=>x.2.2) (S1 ++ x :: p)).getD at_ aN).bc=cL g x.2.2.bc:=by
  rw[aaq,aav,Y];rfl
 have b9:=λn hn=>ey.row (hI.qp L (show at_ < ((S1 ++ x :: p).map λx=>x.2.2).length by simpa using a6)).1 (hI.qp L (show at_ < ((S1 ++ x :: p).map λx=>x.2.2).length by simpa using a6)).2 hI n hn
 rw[gz,aaw (by simpa using a6),DY] at hl
 rw[dm] at hl b9
 have ds:=jk g x.2.2.bc
 have cv:∀ y∈cL g x.2.2.bc,cG g y:=λy hy=>((c6 L a7).1 hy).has a7
 rw[du] at hu
 simp(disch:=omega)only[↓wr,seval,wq,t1,t5,t7,hu,w,a8,ag,encS]
 refine⟨by omega,by rw[du];omega,?_⟩
 refine ay.NZ (L6 g L x.2.2.bc a7 (by omega) x.1 H (O.1 _ (aaO _ (pk cu).1))) ?_
 intro r H2 or fr
 simp(disch:=omega)only[↓wr,seval,wq,ag,encS]
 have fB:=gK L ds cv
 refine ay.still (Vn g L (cL g x.2.2.bc) cv (by omega) r H2 or) (λr H' h=>by obtain⟨q,A,_,h⟩:=h;exact h.old) ?_
 rintro r2 H6 ⟨R,A,rfl,C⟩
 have cC:∀ id,H id≠.dead->H6 id=H id:=λid w=>by rw[C.old id (by rw[(fr id w).1];exact w),(fr id w).1]
 have ca:H6 q=.map (cI jn M) c:=by rw[cC q (by rw[t];simp),t]
 have o6:bk H6 ((u,2,fD (S1 ++ x :: p)) :: (nN (S1 ++ x :: p) ++ j9 g (cL g x.2.2.bc) (A.filter λy=>decide (((0:Nat):Int)<=y.1)))):=by
  have hA:A.filter (λy=>decide (((0:Nat):Int)<=y.1))=A:=List.filter_eq_self.2 λy hy=>by simpa using (C.ne y hy).1
  rw[hA]
  refine(O.stay cC).join (M:=j9 g (cL g x.2.2.bc) A) C.own λa ha b hb id h1 h2=>?_
  obtain⟨y,hy,rfl⟩:=aaM.1 hb
  have h3:=C.new y hy id h2
  have h4:=O.live ha h1
  rw[(fr id h4).1] at h3
  exact h4 h3
 obtain⟨cA,P⟩:=C.mp
 have hAnd:=C.nd
 have fb:R≠q:=by
  rintro rfl
  have:=C.q0
  rw[(fr _ (by rw[t];simp)).1,t] at this;simp at this
 have bb:∀ k:Nat,(getM A (k:Int)=none->bA g (cL g x.2.2.bc) (bh g k)=[]):=λk h=>abB λan=>getM_none.1 h (C.all k an)
 clear or fr w a8 dm Y cC C t
 generalize cL g x.2.2.bc=cl at *
 generalize D:(S1 ++ x :: p).map (λx=>x.2.2)=bd at *
 have dv:bd.length=(S1 ++ x :: p).length:=by rw[<-D];simp
 simp(disch:=omega)only[↓wr,seval,wq,t1,t5,t6,t7,ag,encS]
 refine aS.up (g.af.length+g.ak.length) (λi T H'=>∃ (u:V) (S:List ry) (M:bY (List UInt8)) (c:Nat),S.map (λx=>x.2.2)=(List.range i).foldl (dA g cl at_) bd/\bk H' ((u,2,fD S) :: (nN S ++ j9 g cl (A.filter λy=>decide (((i:Nat):Int)<=y.1)))) /\
  H' R=.map (cI (Value.int .i64) A) cA/\H' q=.map (cI jn M) c/\tJ g (S.map λx=>x.2.2) M/\T 1=.aH (ag g) 0/\T 5=u/\T 6=.mp q/\T 7=gi at_/\T 8=.mp R/\T 47=gi ((g.af.length+g.ak.length:Nat):Int)/\T 48=gi i)
  ⟨u,_,M,c,D,o6,P,ca,by rw[D];exact F,t1,by rw[<-hu];exact t5,t6,t7,rfl,?_,rfl⟩ ?_
 .push_cast;rfl
 rw[<-dv] at h1 b8 hle a6
 clear o6 O hh hu t1 t5 t6 t7 a1 D cu dv hc dj e7 a7 e8 Z P ca F
 clear u H H2 H6 T id S1 x p M c r
 rintro i k T H' hk ⟨u,S,M,c,hA,O,P,t,F,t1,t5,t6,t7,t8,t47,t48⟩
 obtain⟨iI,dy,ea⟩:=b9 i (by omega)
 rw[<-hA] at iI dy ea
 rw[aaA] at dy ea
 have a1:cU u=some S.length:=by rw[O.head.len,du]
 simp(disch:=omega)only[↓wr,seval,wq,ym,t1,t5,t6,t7,t8,t47,t48]
 apply ah.dec<;>intro hc
 rotate_left
 .have hi:i=g.af.length+g.ak.length:=by omega
  subst hi
  rw[<-hA] at hl
  simp(disch:=omega)only[↓wr,seval,wq,t1,t5,t6,t7,a1]
  apply ah.dec<;>intro h3
  .simp(disch:=omega)only[↓wr,seval,wq]
   intro h' _
   rw[aaw (by rw[aaA];omega)] at hl
   rw[<-hl]
   exact lB (.emp _)
  .simp(disch:=omega)only[↓wr,seval,wq,t1,t5,t6,t7]
   rw[aat (by rw[aaA];omega)] at hl
   exact⟨m,by omega,at_+1,u,S,_,q,c,M,by omega,rfl,O.sub (List.Sublist.cons_cons _ (List.sublist_append_left _ _)),iI.next,by rw[aaA];omega,by rw[aaA];omega,hl,by rw[aaA];omega,t,F,t1,t5,t6,rfl⟩
 have ff:i < g.af.length+g.ak.length:=by omega
 have fS:=Gf L ff
 have bl:(List.range (i+1)).foldl (dA g cl at_) bd=dA g cl at_ (S.map λx=>x.2.2) i:=by rw[abi,abe,<-hA];rfl
 have eb:ba H' ((getM A (i:Int)).getD (.emp 1)) 2 (aV (bA g cl (bh g i))):=by
  cases hg:getM A (i:Int) with
  | none=>rw[bb i hg];exact .nil
  | some v =>
   obtain⟨b,hp⟩:=Jy hAnd hg
   refine O.1 (v,2,aV (bA g cl (bh g i))) (aaO _ (ab4 _ (aaM.2 ⟨((i:Int),v,b),hp.mem_iff.2 (by simp),?_⟩)))
   simp
 have cc:(j9 g cl (A.filter λy=>decide (((i+1:Nat):Int)<=y.1))).Sublist (j9 g cl (A.filter λy=>decide (((i:Nat):Int)<=y.1))):=by
  have:A.filter (λy=>decide (((i+1:Nat):Int)<=y.1))=(A.filter (λy=>decide (((i:Nat):Int)<=y.1))).filter (λy=>decide (((i+1:Nat):Int)<=y.1)):=by
   rw[List.filter_filter]
   refine List.filter_congr λy _=>?_
   rw[<-Bool.decide_and,decide_eq_decide];omega
  rw[this]
  exact(List.filter_sublist).map _
 simp(disch:=omega)only[↓wr,seval,wq,t8,t48]
 refine Cx (kt:=3) (et:=27) (z:=.emp 1) (by kernel_rfl) (by kernel_rfl) (mA .i64 Tryz.underlying3) (id:=R) (c:=cA) (m:=A) (k:=(i:Int)) (by simp(disch:=omega)only[↓wr,seval,wq]) (by simp(disch:=omega)only[↓wr,seval,wq]) P ?_
 simp(disch:=omega)only[↓wr,seval,wq]
 refine ay.dr ((RK (Ht (bh g i) ds) (by have:=vL (g:=g) (l:=cl) (s:=bh g i);omega) _ H' eb).mono ?_)
 rintro r _ ⟨rfl,or,ec⟩
 have gd:=vL (g:=g) (l:=cl) (s:=bh g i)
 have b1:=J4 (s:=bh g i) cv
 have fl:cU r=some (bA g cl (bh g i)).length:=by rw[or.len,bI]
 simp(disch:=omega)only[↓wr,seval,wq,fl]
 apply ah.eq<;>intro he
 .have ee:bA g cl (bh g i)=[]:=abQ.1 (by omega)
  simp(disch:=omega)only[↓wr,seval,wq,t1,t5,t6,t7,t8,t47,t48]
  exact aC hk (by omega) ⟨u,S,M,c,by rw[bl,dA,aaw ee],O.sub (List.Sublist.cons_cons _ (cc.append_left _)),P,t,F,t1,t5,t6,t7,t8,t47,rfl⟩
 have an:bA g cl (bh g i)≠[]:=λe=>he (by rw[e];rfl)
 have fm:∃ v,getM A (i:Int)=some v:=by
  cases hg:getM A (i:Int) with
  | none=>exact absurd (bb i hg) an
  | some v=>exact⟨v,rfl⟩
 obtain⟨v,hg⟩:=fm
 have cN:=ec an
 rw[hg] at cN
 simp only[aaL] at cN
 obtain⟨b,cS⟩:=Jy hAnd hg
 have b2:(j9 g cl (A.filter λy=>decide (((i:Nat):Int)<=y.1))).Perm ((r,2,aV (bA g cl (bh g i))) :: j9 g cl (A.filter λy=>decide (((i+1:Nat):Int)<=y.1))):=by
  have:=cS.map (λx:Int × V × Nat=>((x.2.1,2,aV (bA g cl (bh g x.1.toNat))):cx))
  simp only[aaW,aaN] at this
  rw[cN];exact this
 have fs:=zp (S.map λx=>x.2.2) (bA g cl (bh g i))
 have gk:=vn (S.map λx=>x.2.2) (bA g cl (bh g i))
 rw[aaA] at fs
 have b3:=F (bA g cl (bh g i)) b1
 have eg:at_ < S.length:=by omega
 obtain⟨S1,x,p,G,Z,Y⟩:=oT eg
 have gl:x.2.2.aJ.length<=40:=(iI.aJ at_ x.2.2 (by rw[aav,Y];rfl)).1
 have a8:∀ B,(fD (S1 ++ x :: B)).getD at_ []=[x.1,x.2.1]:=λB=>by simp[fD,aaq,<-Z]
 have ei:∀ (B:List ry) (c:cr),((S1 ++ x :: B).map λx=>x.2.2).modify at_ (λs=>(⟨s.bc,s.aJ ++ [c]⟩:aL))=(S1 ++ (x.1,x.2.1,(⟨x.2.2.bc,x.2.2.aJ ++ [c]⟩:aL)) :: B).map λx=>x.2.2:=λB c=>by
  rw[aaS,aaW,<-Z,<-aaA (f:=λx:ry=>x.2.2),F4,aaS,aaW]
 simp(disch:=omega)only[↓wr,seval,wq,t1,t5,t6,t7,t8,ag,encS]
 apply ah.dec<;>intro ft
 simp(disch:=omega)only[↓wr,seval,wq,t1,t5,t6,t7,t8,ag,encS]
 have hs:bh g i=(g.af.length:Int) - 1 - i:=by unfold bh;rw[aat (by omega)];omega
 generalize (g.af.length:Int) - 1 - (i:Int)=sv at hs ⊢
 rotate_left
 simp(disch:=omega)only[↓wr,seval,wq,t1,t5,t6,t7,t8,ag,encS]
 have hs:bh g i=(i:Int):=by unfold bh;rw[aaw (by omega)]
 generalize ((i:Nat):Int)=sv at hs ⊢
 all_goals (
  refine ay.dr ((Kb g L (bA g cl (bh g i)) b1 (by omega) r H' or).mono ?_)
  rintro rk H3 ⟨rfl,k3⟩
  have U:H3 q=.map (cI jn M) c:=by rw[k3 q (by rw[t];simp),t]
  have bn:H3 R=.map (cI (Value.int .i64) A) cA:=by rw[k3 R (by rw[P];simp),P]
  have o3:=O.stay k3
  have fx:ba H3 r 2 (aV (bA g cl (bh g i))):=or.keep λid w=>k3 id (by rw[(or.live w).1];simp)
  simp(disch:=omega)only[↓wr,seval,wq,t6]
  refine WH (kt:=9) (et:=3) (z:=gi 0) (by kernel_rfl) (by kernel_rfl) (Ly Tryz.underlying9) (id:=q) (c:=c) (m:=M) (k:=gV (bA g cl (bh g i))) (by simp(disch:=omega)only[↓wr,seval,wq]) (by simp(disch:=omega)only[↓wr,seval,wq]) U ?_
  by_cases I:findD (S.map λx=>x.2.2) (bA g cl (bh g i)) < 0
  rw[aaw I] at b3
  rw[b3]
  simp only[Option.getD_none,Option.isSome_none]
  simp(disch:=omega)only[↓wr,seval,wq,t1,t5,t6,t7,t8,a1]
  refine ay.dr ((Kb g L (bA g cl (bh g i)) b1 (by omega) r H3 fx).mono ?_)
  rintro gr H4 ⟨rfl,k4⟩
  have bq:H4 q=.map (cI jn M) c:=by rw[k4 q (by rw[U];simp),U]
  have cf:H4 R=.map (cI (Value.int .i64) A) cA:=by rw[k4 R (by rw[bn];simp),bn]
  have o4:=o3.stay k4
  simp(disch:=omega)only[↓wr,seval,wq,t6]
  refine ye (kt:=9) (et:=3) (by kernel_rfl) (Ly Tryz.underlying9) (id:=q) (c:=c) (m:=M) (k:=gV (bA g cl (bh g i))) (v:=gi S.length) (by simp(disch:=omega)only[↓wr,seval,wq]) (by simp(disch:=omega)only[↓wr,seval,wq]) (by simp(disch:=omega)only[↓wr,seval,wq]) bq ?_
  intro K
  have Q:tJ g ((S1 ++ x :: (p ++ [(r,.emp 1,(⟨bA g cl (bh g i),[]⟩:aL))])).map λx=>x.2.2) (bN (gV (bA g cl (bh g i))) (gi S.length) c M):=by
   have:=tJ.put L F b1 I c
   rw[aaA] at this
   refine this.same ?_
   rw[G];simp
  have J:(H4.set q (.map (cI jn (bN (gV (bA g cl (bh g i))) (gi S.length) c M)) K)) q=.map (cI jn (bN (gV (bA g cl (bh g i))) (gi S.length) c M)) K:=by simp[View.set]
  have W:(H4.set q (.map (cI jn (bN (gV (bA g cl (bh g i))) (gi S.length) c M)) K)) R=.map (cI (Value.int .i64) A) cA:=by
   simp only[View.set];rw[aat fb];exact cf
  have o5:=o4.xM bq (o:=.map (cI jn (bN (gV (bA g cl (bh g i))) (gi S.length) c M)) K)
  generalize H4.set q (.map (cI jn (bN (gV (bA g cl (bh g i))) (gi S.length) c M)) K)=H5 at J W o5 ⊢
  clear bq cf o4 k4
  generalize bN (gV (bA g cl (bh g i))) (gi S.length) c M=M2 at Q J
  simp(disch:=omega)only[↓wr,seval,wq,t1,t5,t6,t7,t8,or.cells,or.iO]
  intro q5 br
  simp(disch:=omega)only[↓wr,seval,wq,bM]
  have aq:∀ b,H5 b≠.dead->b≠q5:=λb hb e=>hb (by rw[e];exact br)
  refine ct (o5.fresh br) (by simp[or.iO,Cw]) (by unfold aD;rw[du];simp;omega) (by unfold aD;rw[du];simp;omega) ?_
  intro u2 b4 ek cV
  have d:=cV.map (o5.fresh (o:=.arr 2 [[r,.emp 1]]) br).head (b:=q) (c:=K) (es:=cI jn M2) (by simp only[View.set];rw[aat (aq q (by rw[J];simp)),J])
  have E:=cV.map (o5.fresh (o:=.arr 2 [[r,.emp 1]]) br).head (b:=R) (c:=cA) (es:=cI (Value.int .i64) A) (by simp only[View.set];rw[aat (aq R (by rw[W];simp)),W])
  have en:=(ek.emp (k:=1) (sz:=2)).perm (Y5 b2)
  have ar:dA g cl at_ (S.map λx=>x.2.2) i=((S1 ++ x :: (p ++ [(r,.emp 1,(⟨bA g cl (bh g i),[]⟩:aL))])).map λx=>x.2.2).modify at_ (λs=>(⟨s.bc,s.aJ ++ [⟨bh g i,(S.length:Int)⟩]⟩:aL)):=by
   rw[dA,aat an,aaw I,aaA]
   congr 1
   rw[G];simp
  have j:bk b4 ((u2,2,fD (S1 ++ x :: (p ++ [(r,.emp 1,(⟨bA g cl (bh g i),[]⟩:aL))]))) :: (nN (S1 ++ x :: (p ++ [(r,.emp 1,(⟨bA g cl (bh g i),[]⟩:aL))])) ++ j9 g cl (A.filter λy=>decide (((i+1:Nat):Int)<=y.1)))):=by
   have e1:fD (S1 ++ x :: (p ++ [(r,.emp 1,(⟨bA g cl (bh g i),[]⟩:aL))]))=fD S ++ [[r,.emp 1]]:=by rw[G];simp[fD]
   have e2:nN (S1 ++ x :: (p ++ [(r,.emp 1,(⟨bA g cl (bh g i),[]⟩:aL))]))=nN S ++ [(r,2,aV (bA g cl (bh g i))),(.emp 1,2,[])]:=by rw[G];simp[nN];rfl
   rw[e1,e2]
   exact en
  have c3:(S1 ++ x :: (p ++ [(r,V.emp 1,(⟨bA g cl (bh g i),[]⟩:aL))])).length<=400:=by
   have:=abk List.length G
   simp at this ⊢;omega
  generalize (p ++ [(r,V.emp 1,(⟨bA g cl (bh g i),[]⟩:aL))])=B at ar j Q c3
  generalize (S.length:Int)=to at ar ⊢
  clear ek en cV J W o5 aq br
  rotate_left
  rw[aat I] at b3
  rw[b3]
  simp only[aaL,Option.isSome_some]
  simp(disch:=omega)only[↓wr,seval,wq,t1,t5,t6,t7,t8]
  have ar:dA g cl at_ (S.map λx=>x.2.2) i=((S1 ++ x :: p).map λx=>x.2.2).modify at_ (λs=>(⟨s.bc,s.aJ ++ [⟨bh g i,findD (S.map λx=>x.2.2) (bA g cl (bh g i))⟩]⟩:aL)):=by
   rw[dA,aat an,aat I,<-G]
  have j:=o3.sub (List.Sublist.cons_cons _ (cc.append_left _))
  have Q:=F
  have c3:(S1 ++ x :: p).length<=400:=by rw[<-G];omega
  have d:=U
  have E:=bn
  generalize H3=b4 at j d E ⊢
  generalize u=u2 at j t5 ⊢
  rw[G] at j Q
  generalize findD (S.map λx=>x.2.2) (bA g cl (bh g i))=to at ar ⊢
  generalize p=B at ar j Q c3
  generalize M=M2 at d Q
  generalize c=K at d
  all_goals (
   obtain⟨id,hu,w⟩:=(show ba b4 u2 2 (fD (S1 ++ x :: B)) from j.head).sl (by rw[du];simp;omega)
   rw[du] at hu
   rw[CO] at j
   simp only[aa6,aa9] at j
   simp(disch:=omega)only[↓wr,seval,wq,t1,t5,t6,t7,t8,hu,w,a8 B]
   refine⟨by simp;omega,by rw[du];simp;omega,?_⟩
   intro q2 N
   have aq:∀ b,b4 b≠.dead->b≠q2:=λb hb e=>hb (by rw[e];exact N)
   simp(disch:=omega)only[↓wr,seval,wq,bM]
   refine ct ((j.perm Jo).fresh N) (by simp[aR]) (by unfold aD;simp[fN];omega) (by unfold aD;simp[fN];omega) ?_
   intro e2 eH b5 e3
   have bs:=e3.map ((j.perm Jo).fresh (o:=.arr 2 [[gi sv,gi to]]) N).head (b:=q) (c:=K) (es:=cI jn M2) (by simp only[View.set];rw[aat (aq q (by rw[d];simp)),d])
   have bx:=e3.map ((j.perm Jo).fresh (o:=.arr 2 [[gi sv,gi to]]) N).head (b:=R) (c:=cA) (es:=cI (Value.int .i64) A) (by simp only[View.set];rw[aat (aq R (by rw[E];simp)),E])
   have cg:eH id=.arr 2 (fD (S1 ++ x :: B)):=((b5.own 1 rfl).live (by rw[hu];rfl)).1
   simp(disch:=omega)only[↓wr,seval,wq,t1,t5,t6,t7,t8,t47,t48,hu,cg,a8 B,b5.head.cells,b5.head.iO]
   have e4:(fD (S1 ++ x :: B)).set at_ [x.1,e2]=fD (S1 ++ (x.1,e2,(⟨x.2.2.bc,x.2.2.aJ ++ [⟨bh g i,to⟩]⟩:aL)) :: B):=by
    rw[<-Z];simp[fD]
   have fz:fN (x.2.2.aJ ++ [⟨bh g i,to⟩])=fN x.2.2.aJ ++ [[gi sv,gi to]]:=by rw[hs];simp[fN,kc]
   have e5:=b5.perm (.swap _ _ _)
   rw[hu] at e5
   have c5:=((e5.put (es':=fD (S1 ++ (x.1,e2,(⟨x.2.2.bc,x.2.2.aJ ++ [⟨bh g i,to⟩]⟩:aL)) :: B)) (by rw[du,du];simp) (by rw[du])).perm (.swap _ _ _)).perm Jo.symm
   rw[<-fz] at c5
   rw[<-hu] at c5
   rw[e4]
   have ch:∀ b c es,eH b=.map es c->b≠id:=λb c es hb e=>by rw[e,cg] at hb;simp at hb
   refine⟨by simp;omega,by rw[du];simp;omega,aC hk (by omega) ⟨u2,_,M2,K,?_,by rw[CO];simp only[aa6,aa9];exact c5,?_,?_,?_,t1,by first | rfl | exact t5 | exact hu.symm,t6,t7,t8,t47,rfl⟩⟩
   .rw[bl,ar,ei];simp
   .simp only[View.set];rw[aat (ch R _ _ bx)];exact bx
   .simp only[View.set];rw[aat (ch q _ _ bs)];exact bs
   .refine Q.same ?_
    simp))
def nO:SC :=
 ae [ab [aQ 73 .lss 72 71],bS 73 (.exit 2),.block 3 (ae [ab [aI 74 2 70 72,aY 75 2 74,((some 6),.op (.alloc [(.val (.int .i64 0)),(.val (.int .i64 0))])),bZ 2 6 75],ab [ao 76 0 6,aj 77 76,aF 78 .geq 77 0],.cond (.tmp 78) (.region true [⟨none,[aa 79 0,cR 80 79,ao 81 8 80,aj 82 81,aa 83 2,aI 84 1 82 83,aj 85 84,ao 86 0 6,aj 87 86,((some 88),.op (.bW 1 1 [(.val (.int .i64 0))] [(0,(.tmp 87))])),bm 89 120 [88],aQ 90 .or 85 89,aI 91 1 82 83,bZ 1 91 90]⟩]) (ae [ab [aa 92 0,cR 93 92,ao 94 5 93,aj 95 94,ao 96 0 6,aj 97 96,((some 98),.op (.arith .sub (.val (.val (.int .i64 (-1)))) (.tmp 97))),aI 99 1 95 98,aj 100 99],bf 100 (.pv [(103,112)] [⟨none,[aa 101 0,cR 102 101,ao 103 9 102,aj 104 103,aa 105 2,aa 106 0,cR 107 106,ao 108 9 107,aj 109 108,aa 110 2,aI 111 1 109 110,aj 112 111,aa 113 0,cR 114 113,ao 115 6 114,aj 116 115,aa 117 4,ao 118 0 6,aj 119 118,((some 120),.op (.arith .sub (.val (.val (.int .i64 (-1)))) (.tmp 119))),((some 121),.op (.build [(.val (.int .i64 0)),(.val (.int .i64 0))] [(0,1,(.tmp 117)),(1,1,(.tmp 120))])),((some 122),.op (.old (.lookup 110 (.tmp 116) (.tmp 121) false) 3)),((some 123),.op (.bW 1 1 [(.val (.int .i64 0))] [(0,(.tmp 122))])),gx 124 1 8 112 123,aI 125 1 104 105,bZ 1 125 124]⟩])])]),ab [aF 126 .add 72 1,aa 72 126]]
def tR:SC :=
 ae [ab [aQ 22 .lss 21 20],bS 22 (.exit 0),.block 1 (ae [ab [aa 23 21,aI 24 2 19 21,aY 25 2 24,((some 3),.op (.alloc [(.val (.int .i64 0)),(.val (.int .i64 0))])),aa 2 23,bZ 2 3 25],ab [aa 26 0,ao 27 0 3,aj 28 27,ao 29 1 3,aj 30 29,((some 31),.op (.arith .sub (.val (.val (.int .i64 (-1)))) (.tmp 30))),bm 32 119 [26,28,31],aa 4 32],ae [.region false [⟨none,[ao 33 0 3,aj 34 33,aF 35 .eql 34 0,aa 36 35]⟩,⟨(some (36,true)),[ao 37 1 3,aj 38 37,aa 39 0,cR 40 39,ao 41 0 40,ao 42 3 41,aj 43 42,aQ 44 .eql 38 43]⟩,⟨none,[eC 45 36 44]⟩],bf 45 (.region true [⟨none,[aa 46 0,cR 47 46,ao 48 8 47,aj 49 48,aa 50 2,aI 51 1 49 50,aj 52 51,aa 53 0,cR 54 53,ao 55 0 54,ao 56 0 55,aj 57 56,aM 58 57,((some 59),.op (.bW 1 1 [(.val (.int .i64 0))] [(0,(.tmp 58))])),bm 60 120 [59],aQ 61 .or 52 60,aI 62 1 49 50,bZ 1 62 61]⟩])],ab [aa 63 0,cR 64 63,ao 65 4 64,aj 66 65,aa 67 4,aI 68 2 66 67,ao 69 1 68,aj 70 69,aM 71 70,aT 72 0],bX 2 nO]),ab [aF 127 .add 21 1,aa 21 127]]
def wi:SF:=⟨ae [ab [aa 7 0,aa 8 0,cR 9 8,ao 10 7 9,aj 11 10,aM 12 11,((some 13),.op (.make 1 24 [(.emp 1)] (.tmp 12) (.tmp 12))),cR 14 7,ao 15 9 14,bZ 1 15 13],ae [ab [aa 16 0,cR 17 16,ao 18 7 17,aj 19 18,aM 20 19,aT 21 0],bX 0 tR],ab [aa 128 0,bm 129 75 [128]]],
 [],130⟩
theorem AT:aO Tryz.prog 73 [100000]=some wi:=by kernel_rfl
theorem Wk {α:Type} {a b c d r:α} {X Y:List α} : (a :: b :: c :: d :: (X ++ r :: Y)).Perm (r :: d :: a :: b :: c :: (X ++ Y)) :=
 (aba (l₁:=a :: b :: c :: d :: X) (a:=r) (l₂:=Y)).trans (.cons _ (aba (l₁:=[a,b,c]) (a:=d) (l₂:=X ++ Y)))
section
variable {g:ai} {a:List aL} {H:View} {W qn cM:Nat} {M:bY (Int × Int)} {uw:V} {s e:Nat} {ws:List (Int × Int)} {Sl:List BV} {A:List (V × List Nat)} {L:List cx}
theorem dh.stay (h:dh g a H W qn cM M uw s e ws Sl A L) {H':View} (b:∀ id,H id≠.dead->H' id=H id):dh g a H' W qn cM M uw s e ws Sl A L :=
 ⟨h.own.stay b,by rw[b qn (by rw[h.mp];simp)];exact h.mp,h.bo,h.num,h.sl,h.al⟩
theorem dh.fresh (h:dh g a H W qn cM M uw s e ws Sl A L) {q:Nat} (hq:H q=.dead) {o:di} : dh g a (H.set q o) W qn cM M uw s e ws Sl A L :=
 h.stay λid b=>by simp only[View.set];rw[aat (λe=>b (by rw[e];exact hq))]
theorem dh.at (h:dh g a H W qn cM M uw s e ws Sl A L) (f:1<=ws.length):H W=.arr 10 [[.aE (g.af.map cm),.aE (g.ak.map λs=>[gs s]),.aE (g.rules.map aU),gi g.start,aW a,bO (au g false),.mp qn,uw,.sl s 0 ws.length 1,.sl e 0 ws.length 1]] /\
  (∃ w,uw=.sl w 0 ws.length 2/\H w=.arr 2 (oF ws))/\H s=.arr 1 (bV Sl)/\H e=.arr 1 (bt A)/\W≠s/\W≠e/\s≠e:=by
 have b:=h.sl
 have c:=h.al
 refine⟨h.own.is 0 rfl (by simp),?_,h.own.is 2 rfl (by simp;omega),h.own.is 3 rfl (by simp[bt];omega),h.own.Ih 0 2 rfl rfl (by decide),h.own.Ih 0 3 rfl rfl (by decide),h.own.Ih 2 3 rfl rfl (by decide)⟩
 obtain⟨w,h1,d⟩:=(h.own.own 1 rfl).sl (by simp;omega)
 exact⟨w,by rw[h1,aaA],d⟩
theorem dh.AS (h:dh g a H W qn cM M uw s e ws Sl A L) {Sl':List BV} (hl:Sl'.length=ws.length):dh g a (H.set s (.arr 1 (bV Sl'))) W qn cM M uw s e ws Sl' A L:=by
 have p:∀ x y z:cx,∀ L:List cx,(x :: y :: z :: L).Perm (z :: x :: y :: L):=λx y z L=>aba (l₁:=[x,y]) (a:=z) (l₂:=L)
 refine⟨((h.own.perm (p _ _ _ _)).put (es':=bV Sl') (by simp[hl,h.sl]) (by simp[h.sl])).perm (p _ _ _ _).symm,?_,h.bo,h.num,hl,h.al⟩
 have:=h.own.CT h.mp (.sl s 0 ws.length 1,1,bV Sl) (by simp)
 simp only[View.set];rw[aat (λe=>this (by rw[e];rfl))];exact h.mp
theorem dh.row (h:dh g a H W qn cM M uw s e ws Sl A L) {b c:List (V × List Nat)} {u:V} {l:List Nat} (d:A=b ++ (u,l) :: c):bk H ((u,1,gp l) :: (.sl e 0 ws.length 1,1,bt A) :: (.sl W 0 1 10,10,[[.aE (g.af.map cm),.aE (g.ak.map λs=>[gs s]),.aE (g.rules.map aU),gi g.start,aW a,bO (au g false),.mp qn,uw,.sl s 0 ws.length 1,.sl e 0 ws.length 1]]) :: (uw,2,oF ws) :: (.sl s 0 ws.length 1,1,bV Sl) :: (jK b ++ (jK c ++ L))):=by
 have h1:=h.own
 rw[show jK A ++ L=jK b ++ (u,1,gp l) :: (jK c ++ L) by rw[d];simp[jK]] at h1
 exact h1.perm Wk
theorem dh.Yf (h:dh g a H W qn cM M uw s e ws Sl A L) {b c:List (V × List Nat)} {u d:V} {l l':List Nat} (j:A=b ++ (u,l) :: c) {H':View} {es:List (List V)} (i:es=gp l')
  (k:bk H' ((d,1,es) :: (.sl e 0 ws.length 1,1,bt A) :: (.sl W 0 1 10,10,[[.aE (g.af.map cm),.aE (g.ak.map λs=>[gs s]),.aE (g.rules.map aU),gi g.start,aW a,bO (au g false),.mp qn,uw,.sl s 0 ws.length 1,.sl e 0 ws.length 1]]) :: (uw,2,oF ws) :: (.sl s 0 ws.length 1,1,bV Sl) :: (jK b ++ (jK c ++ L))))
  (hm:H' qn=.map (bP fE M) cM):dh g a (H'.set e (.arr 1 (bt (b ++ (d,l') :: c)))) W qn cM M uw s e ws Sl (b ++ (d,l') :: c) L:=by
 have f:=h.al
 have h1:=((k.perm (.swap _ _ _)).put (es':=bt (b ++ (d,l') :: c)) (by rw[j];simp[bt]) (by rw[bt,aaA,f])).perm (.swap _ _ _)
 rw[i] at h1
 refine⟨?_,?_,h.bo,h.num,h.sl,by rw[<-f,j];simp⟩
 .rw[show jK (b ++ (d,l') :: c) ++ L=jK b ++ (d,1,gp l') :: (jK c ++ L) by simp[jK]]
  exact h1.perm Wk.symm
 .have:=k.CT hm (.sl e 0 ws.length 1,1,bt A) (by simp)
  simp only[View.set];rw[aat (λe=>this (by rw[e];rfl))];exact hm
theorem dh.WJ (h:dh g a H W qn cM M uw s e ws Sl A L) {b:Nat} (hq:H b=.dead):dh g a ((H.set b (.arr 1 (List.replicate ws.length [.emp 1]))).set W (.arr 10 [[.aE (g.af.map cm),.aE (g.ak.map λs=>[gs s]),.aE (g.rules.map aU),gi g.start,aW a,bO (au g false),.mp qn,uw,.sl s 0 ws.length 1,.sl b 0 ws.length 1]])) W qn cM M uw s b ws Sl (List.replicate ws.length (.emp 1,[])) L:=by
 have h1:bk H ((.sl W 0 1 10,10,[[.aE (g.af.map cm),.aE (g.ak.map λs=>[gs s]),.aE (g.rules.map aU),gi g.start,aW a,bO (au g false),.mp qn,uw,.sl s 0 ws.length 1,.sl e 0 ws.length 1]]) :: (uw,2,oF ws) :: (.sl s 0 ws.length 1,1,bV Sl) :: L) :=
  h.own.sub (.cons_cons _ (.cons_cons _ (.cons_cons _ (.cons _ (List.sublist_append_right _ _)))))
 have i:=h1.new hq 1 (List.replicate ws.length [V.emp 1])
 have j:=(i.perm (.swap _ _ _)).put (es':=[[.aE (g.af.map cm),.aE (g.ak.map λs=>[gs s]),.aE (g.rules.map aU),gi g.start,aW a,bO (au g false),.mp qn,uw,.sl s 0 ws.length 1,.sl b 0 ws.length 1]]) rfl rfl
 have f:=((j.perm (.cons _ (aba (l₁:=[_,_]) (l₂:=L)).symm)).UC ws.length).perm (.cons _ (.cons _ (.cons _ (.cons _ List.perm_append_comm))))
 have c:List.replicate ws.length [V.emp 1]=bt (List.replicate ws.length ((V.emp 1,[]):V × List Nat)):=by simp[bt]
 rw[abC] at f
 refine⟨?_,?_,h.bo,h.num,h.sl,by simp⟩
 .rw[<-c];exact f
 .have d:=h.own.CT h.mp _ (acA ..)
  simp only[View.set]
  rw[aat (λe=>d (by rw[e];rfl)),aat (λe=>by have:=h.mp;rw[e,hq] at this;simp at this)]
  exact h.mp
theorem IM {A:List (V × List Nat)} {x:Nat} (a:x < A.length):((A.getD x (.any,[])).1,1,gp (A.getD x (.any,[])).2)∈jK A:=by
 have h:A[x]?=some (A.getD x (.any,[])):=getD_some a
 exact aaM.2 ⟨_,aax h,rfl⟩
theorem dh.Ya (h:dh g a H W qn cM M uw s e ws Sl A L) (i:1<=ws.length) {E:Nat->List Nat} (hE:∀ x,x < ws.length->(A.getD x (.any,[])).2=E x) (c:∀ x,x < ws.length->(E x).length<=1000000000/\∀ y∈E x,y < ws.length) :
  YN ws.length E H W s e (A.map (·.1)) (.aE (g.af.map cm),.aE (g.ak.map λs=>[gs s]),.aE (g.rules.map aU),gi g.start,aW a,bO (au g false),.mp qn,uw):=by
 obtain⟨hW,⟨w,d,hw⟩,hs,he,n1,k,j⟩:=h.at i
 have f:=h.al
 have hu:∀ x,x < ws.length->(A.map (·.1)).getD x .any=(A.getD x (.any,[])).1:=λx b=>by
  simp[aaq,aar (show x < A.length by omega)]
 refine⟨hW,by rw[he];simp[bt],by simpa using f,λx b=>?_,c,by rw[d];rfl,n1,Ne.symm j,λx b=>?_⟩
 .rw[hu x b,<-hE x b]
  exact h.own.1 _ (by simp only[aaI];exact .inr (.inr (.inr (.inr (abZ _ (IM (x:=x) (by omega)))))))
 .rw[hu x b]
  have p:∀ x y z:cx,∀ L:List cx,(x :: y :: z :: L).Perm (z :: x :: y :: L):=λx y z L=>aba (l₁:=[x,y]) (a:=z) (l₂:=L)
  exact(h.own.perm (p _ _ _ _)).off rfl _ (by simp only[aaI];exact .inr (.inr (.inr (abZ _ (IM (x:=x) (by omega))))))
end
def TW (n:Nat) (Sl:List BV) (A:List (V × List Nat)) (fS:Nat->BV) (fA:Nat->List Nat):Prop:=∀ y,y < n->Sl.getD y 0=fS y/\(A.getD y (.any,[])).2=fA y
theorem DN {α:Type} {l r:List α} {x y d:α} {z:Nat} (h:z≠l.length):(l ++ x :: r).getD z d=(l ++ y :: r).getD z d:=by
 simp only[aaq]
 rcases aaT z l.length with q | q
 .rw[aaY q,aaY q]
 .rw[aa7 q,aa7 q]
  obtain⟨k,hk⟩:∃ k,z - l.length=k+1:=⟨z - l.length - 1,by omega⟩
  rw[hk,abm,abm]
theorem FN (b:BV) (l:List cr) (e:cr):pW b (l ++ [e])=if 0<=e.sym then pW b l ||| dT e.sym else pW b l:=by
 unfold pW;rw[abe];rfl
theorem HU (g:ai) (ws:List (Int × Int)) (q:Nat) (l:List cr) (e:cr):vw g ws q (l ++ [e])=if e.sym < 0/\(au g false).getD (-1 - e.sym).toNat false=true then vw g ws q l ++ [xn ws ((q:Int),-1 - e.sym)] else vw g ws q l:=by
 unfold vw
 rw[abN,aaS]
 by_cases h:e.sym < 0/\(au g false).getD (-1 - e.sym).toNat false=true
 .rw[aaw h,List.filter_cons_of_pos (by simp only[h.1,h.2];rfl)];simp
 .rw[aat h]
  have:(decide (e.sym < 0) && (au g false).getD (-1 - e.sym).toNat false)=false:=by
   rw[acG];simpa using h
  rw[List.filter_cons_of_neg (by simp only[this];simp)]
  simp
theorem yY {g:ai} {a:List aL} (B:cq g a) (bn:bC g=true) (ha:a.length<=300) {W qn cM:Nat} {M:bY (Int × Int)} {uw:V} {s e2:Nat} {i q:Nat} (hi:i < (bj a).length) (hq:q < a.length) (S0:BV) (fS:Nat->BV) (fA:Nat->List Nat) {T:Env} {H:View} {Q:Exit->Env->View->Prop} {v:cO (T,H,Q)}
  (hJ:∃ (Sl:List BV) (A:List (V × List Nat)),dh g a H W qn cM M uw s e2 (bj a) Sl A []/\TW (bj a).length Sl A (λy=>if y=i then S0 else fS y) (λy=>if y=i then [] else fA y))
  (ht:T 0=.ptr W 0 0/\T 2=gi i/\T 4=gi q/\T 19=uw/\T 20=gi (bj a).length/\T 21=gi i/\T 70=.aE (fN (a.getD q aN).aJ)/\T 71=gi (a.getD q aN).aJ.length/\T 72=gi 0)
  (hQ:∀ (R:Env) (H':View),(∃ (Sl:List BV) (A:List (V × List Nat)),dh g a H' W qn cM M uw s e2 (bj a) Sl A []/\TW (bj a).length Sl A (λy=>if y=i then pW S0 (a.getD q aN).aJ else fS y) (λy=>if y=i then vw g (bj a) q (a.getD q aN).aJ else fA y)) ->
   R 0=.ptr W 0 0->R 19=uw->R 20=gi (bj a).length->R 21=gi i->Q (.exit 2) R H'):aS Tryz.prog nO T H Q v:=by
 have S:=rO B
 have ca:(bj a).length<=40 * a.length:=nz B.ok.aJ a.length
 have U:=aax (getD_some (d:=aN) hq)
 have cc:=B.ok.aJ _ U
 have bq:=B.ok.sym _ U
 have X:∀ e∈(a.getD q aN).aJ,ez a q e.sym:=λe he=>⟨e,he,rfl⟩
 have Y:∀ e∈(a.getD q aN).aJ,fP g e.sym=true:=λe he=>by
  obtain⟨y,hy,hn⟩:=(B.mh hq).1 (X e he)
  exact oS B.cQ (B.has hq hy) hn
 generalize a.getD q aN=Z at *
 obtain⟨br,A0,an,G⟩:=hJ
 obtain⟨t0,t2,t4,t19,t20,t21,t70,t71,t72⟩:=ht
 refine aS.up Z.aJ.length (λj T H'=>∃ (Sl:List BV) (A:List (V × List Nat)),dh g a H' W qn cM M uw s e2 (bj a) Sl A []/\TW (bj a).length Sl A (λy=>if y=i then pW S0 (Z.aJ.take j) else fS y) (λy=>if y=i then vw g (bj a) q (Z.aJ.take j) else fA y) /\
  T 0=.ptr W 0 0/\T 2=gi i/\T 4=gi q/\T 19=uw/\T 20=gi (bj a).length/\T 21=gi i/\T 70=.aE (fN Z.aJ)/\T 71=gi Z.aJ.length/\T 72=gi j) ⟨br,A0,an,by simpa [pW,vw] using G,t0,t2,t4,t19,t20,t21,t70,t71,t72⟩ ?_
 clear an G t0 t2 t4 t19 t20 t21 t70 t71 t72
 rintro j k T H1 hk ⟨Sl,A,hI,t,t0,t2,t4,t19,t20,t21,t70,t71,t72⟩
 simp(disch:=omega)only[↓wr,seval,wq,nO,t0,t2,t4,t70,t71,t72]
 apply ah.dec<;>intro hc
 rotate_left
 .simp(disch:=omega)only[↓wr,seval,wq]
  rw[aaJ (by omega)] at t
  exact hQ _ _ ⟨Sl,A,hI,t⟩ t0 t19 t20 t21
 have hy:Z.aJ[j]?=some (Z.aJ[j]'(by omega)):=aar (by omega)
 have C:=aaC (show j < Z.aJ.length by omega)
 have D:Z.aJ.take (j+1)=Z.aJ.take j ++ [Z.aJ[j]'(by omega)]:=by rw[aaQ,hy];rfl
 generalize Z.aJ[j]'(by omega)=y at hy C D
 have cf:=bq y C
 have bs:=X y C
 have aq:=rH (Y y C)
 have hT:=B.cQ.af
 have hN:=B.cQ.ak
 have E:=t i hi
 simp only[if_true] at E
 simp(disch:=omega)only[↓wr,seval,wq,t0,t2,t4,t70,t71,t72,fN,aav,hy,aaz,kc]
 intro q6 ar
 have f:=hI.fresh ar (o:=.arr 2 [[gi y.sym,gi y.to]])
 have r:(H1.set q6 (.arr 2 [[gi y.sym,gi y.to]])) q6=.arr 2 [[gi y.sym,gi y.to]]:=by simp[View.set]
 rw[set_set]
 generalize H1.set q6 (.arr 2 [[gi y.sym,gi y.to]])=H6 at f r ⊢
 clear hI ar
 obtain⟨hW,⟨w2,b9,hw⟩,hs,he,n1,n2,n3⟩:=f.at S
 have bx:=f.sl
 have a1:=qG (l:=Sl) (i:=i) (by omega)
 apply ah.dec<;>intro h0
 .simp(disch:=omega)only[↓wr,seval,wq,t0,t2,hW,hs,a1,r]
  refine⟨hi,by omega,λq7 b0=>?_⟩
  refine ay.xB (Ix y.sym) (by kernel_rfl) (.val _) ⟨ew.U9 (l:=[y.sym]) (.inr ⟨q7,rfl,by simp[View.set]⟩),trivial⟩ ?_
  have I:=f.fresh b0 (o:=.arr 1 [[gi y.sym]])
  generalize H6.set q7 (.arr 1 [[V.val (.int .i64 y.sym)]])=H7 at I ⊢
  obtain⟨-,-,b1,-⟩:=I.at S
  have e1:(bV Sl).set i [gw (sF Sl i ||| dT y.sym)]=bV (Sl.set i (sF Sl i ||| dT y.sym)):=by simp[abR]
  simp(disch:=omega)only[↓wr,seval,wq,t0,t2,t4,t19,t20,t21,t70,t71,t72,b1,a1,e1,uR]
  refine⟨hi,by omega,?_⟩
  refine aC hk (by omega) ⟨Sl.set i (sF Sl i ||| dT y.sym),A,I.AS (by simp[bx]),λz J=>?_,t0,t2,t4,t19,t20,t21,t70,t71,by first | rfl | (congr 2)⟩
  have n:=t z J
  rw[D,FN,HU,aaw h0,aat (λh=>by omega),dZ]
  refine⟨?_,n.2⟩
  by_cases e:z=i
  .subst e
   rw[aaw ⟨rfl,by omega⟩]
   simp only[if_true]
   rw[sF,E.1]
  .rw[aat (λh=>e h.1.symm)]
   simp only[aat e] at n ⊢
   exact n.1
 .have a6:(-1 - y.sym).toNat < (au g false).length:=by
   rw[fZ bn]
   unfold kW at aq
   rw[aaw (by omega)] at aq
   omega
  have a7:(au g false)[(-1 - y.sym).toNat]?=some ((au g false).getD (-1 - y.sym).toNat false):=getD_some a6
  have p:=HU g (bj a) q (Z.aJ.take j) y
  rw[<-D] at p
  have K:=FN S0 (Z.aJ.take j) y
  rw[<-D,aat h0] at K
  generalize hb:(au g false).getD (-1 - y.sym).toNat false=b at a7 p
  simp(disch:=omega)only[↓wr,seval,wq,t0,hW,r,bO,aav,a7,aaz]
  apply ah.split<;>intro L
  rotate_left
  .simp(disch:=omega)only[↓wr,seval,wq,t0,t2,t4,t19,t20,t21,t70,t71,t72]
   rw[L,aat (by simp)] at p
   exact aC hk (by omega) ⟨Sl,A,f,λz J=>by rw[K,p];exact t z J,t0,t2,t4,t19,t20,t21,t70,t71,by first | rfl | (congr 2)⟩
  rw[L,aaw ⟨by omega,rfl⟩] at p
  have b2:=f.al
  obtain⟨O,⟨u,l⟩,P,rfl,w,_⟩:=oT (l:=A) (i:=i) (by omega)
  have x:=f.row rfl
  have a8:(bt (O ++ (u,l) :: P)).getD i []=[u]:=by rw[<-w];simp[bt]
  have bb:((O ++ (u,l) :: P).getD i (V.any,([]:List Nat))).2=l:=by rw[<-w];simp
  have b3:(bt (O ++ (u,l) :: P)).length=(bj a).length:=by rw[bt,aaA];exact b2
  have N:(bj a)[xn (bj a) ((q:Int),-1 - y.sym)]?=some ((q:Int),-1 - y.sym):=kV (dL.2 ⟨by omega,by rw[show -1 - (-1 - y.sym)=y.sym by omega];exact bs⟩)
  have bd:=f.num _ _ N
  have bl:=(aaG.1 N).1
  generalize xn (bj a) ((q:Int),-1 - y.sym)=kn at N bd bl p
  simp(disch:=omega)only[↓wr,seval,wq,t0,t2,t4,hW,he,a8,r]
  refine⟨hi,by omega,?_⟩
  have b4:dQ Tryz.prog 110=some (116,3):=by kernel_rfl
  have J:zeroV Tryz.prog 3=some (gi 0):=by kernel_rfl
  refine Jm (kv:=fE) (kt:=116) (et:=3) (z:=gi 0) (id:=qn) (c:=cM) (m:=M) (k:=((q:Int),-1 - y.sym)) b4 J (CH yK) (by first | rfl | simp(disch:=omega)only[↓wr,seval,wq]) (by first | rfl | (simp(disch:=omega)only[↓wr,seval,wq];rfl)) f.mp ?_
  rw[bd,aaL]
  have cg:l.length<=40:=by
   rw[<-bb,E.2]
   unfold vw
   rw[aaA]
   have h1:=abh (λe=>decide (e.sym < 0) && (au g false).getD (-1 - e.sym).toNat false) (Z.aJ.take j)
   rw[abc] at h1
   omega
  simp(disch:=omega)only[↓wr,seval,wq]
  intro q8 F
  simp(disch:=omega)only[↓wr,seval,wq,bM]
  refine ct (x.fresh F) (by simp[aR]) (by unfold aD;simp;omega) (by unfold aD;simp;omega) ?_
  intro u2 H8 o8 l8
  have b5:=o8.is 1 rfl (by rw[b3];omega)
  have b7:=l8.map (x.fresh F).head (b:=qn) (c:=cM) (es:=bP fE M) (by
   have:=f.mp
   simp only[View.set];rw[aat (λe=>by rw[<-e,this] at F;simp at F)];exact this)
  have b8:(bt (O ++ (u,l) :: P)).set i [u2]=bt (O ++ (u2,l ++ [kn]) :: P):=by rw[<-w];simp[bt]
  simp(disch:=omega)only[↓wr,seval,wq,t0,t2,t4,t19,t20,t21,t70,t71,t72,b5,a8,o8.head.cells,o8.head.iO,b8]
  refine⟨hi,by omega,?_,?_⟩
  .rcases x.head with ⟨_,kk,h⟩ | ⟨m,h,hm⟩
   .rw[show u=.emp kk from h,zt];trivial
   .rw[show u=.sl m 0 _ 1 from h,CU]
    intro e
    rw[<-e,hW] at hm;simp at hm
  .refine aC hk (by omega) ⟨Sl,O ++ (u2,l ++ [kn]) :: P,f.Yf rfl (l':=l ++ [kn]) (es:=gp l ++ [[gi (kn:Int)]]) (by simp) o8 b7,λz J=>?_,t0,t2,t4,t19,t20,t21,t70,t71,by first | rfl | (congr 2)⟩
   have n:=t z J
   rw[K,p]
   refine⟨n.1,?_⟩
   by_cases e:z=i
   .subst e
    simp only[if_true]
    rw[<-E.2,bb,<-w]
    simp
   .rw[DN (y:=(u,l)) (by rw[w];exact e)]
    simp only[aat e] at n ⊢
    exact n.2
theorem nt.congr {n:Nat} {E:Nat->List Nat} {S S':Nat->BV} (hE:∀ x,x < n->∀ y∈E x,y < n) (c:∀ x,x < n->S x=S' x) {z t:Nat} (a:z < n):nt E S z t↔nt E S' z t:=by
 have key:∀ {z w:Nat},kb E z w->z < n->w < n:=by
  intro z w h
  induction h with
  | refl=>exact id
  | step h1 _ d=>exact λa=>d (hE _ a _ h1)
 constructor
 .rintro⟨w,h1,b⟩
  exact⟨w,h1,by rw[<-c w (key h1 a)];exact b⟩
 .rintro⟨w,h1,b⟩
  exact⟨w,h1,by rw[c w (key h1 a)];exact b⟩
theorem U0 {g:ai} {a:List aL} (h:∀ s∈a,s.aJ.length<=40) (x:Int × Int):(oL g a x).length<=40:=by
 unfold oL vw
 rw[aaA]
 refine abp (abh _ _) ?_
 generalize eT a x.1.toNat (-1 - x.2)=q
 rcases aaT q a.length with k | k
 .exact h _ (aax (getD_some k))
 .rw[aaq,aa1 k];simp[aN]
theorem WZ {g:ai} {a:List aL} (f:cq g a) (aq:bC g=true) (ha:a.length<=300) {H:View} {W qn cM:Nat} {M:bY (Int × Int)} {uw:V} {s e:Nat} (R:dh g a H W qn cM M uw s e (bj a) (List.replicate (bj a).length 0) (List.replicate (bj a).length (.emp 1,[])) []) :
  av Tryz.prog 73 [.ptr W 0 0] H λ_ H'=>∃ (e':Nat) (Sl:List BV) (A:List (V × List Nat)),dh g a H' W qn cM M uw s e' (bj a) Sl A []/\∀ (x p t:Nat) (B:Int),(bj a)[x]?=some ((p:Int),B)->((sF Sl x).getLsbD t=true↔qk g a p B t):=by
 refine av.of mixed AT ?_
 have d:=rO f
 have ch:(bj a).length<=40 * a.length:=nz f.ok.aJ a.length
 obtain⟨hW,⟨w,ar,hw⟩,hs,he,n1,n2,n3⟩:=R.at d
 have bn:cU uw=some (bj a).length:=by rw[ar];rfl
 have bq:∀ q,H q=.dead->W≠q:=λq hq e=>by rw[e,hq] at hW;simp at hW
 simp(disch:=omega)only[↓wr,seval,wq,wi,hW,bn]
 refine⟨⟨by omega,by unfold aD;omega,by unfold aD;omega⟩,λh0=>by omega,λ_ e2 a1=>?_⟩
 have w1:=bq e2 a1
 simp(disch:=omega)only[↓wr,seval,wq,w1,bn]
 have a6:=R.WJ a1
 generalize ((H.set e2 (.arr 1 (List.replicate (bj a).length [V.emp 1]))).set W (.arr 10 [[V.aE (g.af.map cm),.aE (g.ak.map λs=>[gs s]),.aE (g.rules.map aU),gi g.start,aW a,bO (au g false),.mp qn,uw,.sl s 0 (bj a).length 1,.sl e2 0 (bj a).length 1]]))=H2 at a6 ⊢
 refine aS.up (bj a).length (λi T H'=>∃ (Sl:List BV) (A:List (V × List Nat)),dh g a H' W qn cM M uw s e2 (bj a) Sl A []/\TW (bj a).length Sl A (λy=>if y < i then tH g a (dK a y) else 0) (λy=>if y < i then oL g a (dK a y) else [])/\T 0=.ptr W 0 0/\T 19=uw/\T 20=gi (bj a).length/\T 21=gi i)
  ⟨_,_,a6,λy hy=>by simp[aaq,hy],rfl,rfl,rfl,rfl⟩ ?_
 clear a6 R a1 hW hw hs he n1 n2 n3 bq w1
 rintro i k T H' hk ⟨Sl,A,R,v,t0,t19,t20,t21⟩
 obtain⟨hW,⟨w',C,hw⟩,hs,he,n1,n2,n3⟩:=R.at d
 have b4:w'=w:=by rw[ar] at C;simp only[V.sl.injEq] at C;exact C.1.symm
 subst b4
 simp(disch:=omega)only[↓wr,seval,wq,tR,t0,t19,t20,t21]
 apply ah.dec<;>intro hc
 rotate_left
 .have hi:i=(bj a).length:=by omega
  subst hi
  have Z:TW (bj a).length Sl A (λy=>tH g a (dK a y)) (λy=>oL g a (dK a y)):=λy hy=>by
   have:=v y hy
   simpa only [hy,if_true] using this
  have b5:=R.Ya d (E:=λy=>oL g a (dK a y)) (λx m=>(Z x m).2) (λx m=>⟨abp (U0 f.ok.aJ _) (by omega),M1 f m⟩)
  simp(disch:=omega)only[↓wr,seval,wq,t0]
  refine ay.dr ((Hu b5 d (by omega) Sl hs R.sl).mono ?_)
  rintro r H5 ⟨Sl',k1,k2,k3,k4⟩
  simp(disch:=omega)only[↓wr,seval,wq]
  have D:=(R.AS (Sl':=Sl') k1).stay (H':=H5) λid a7=>by
   simp only[View.set] at a7 ⊢
   by_cases e:id=s
   .rw[aaw e,e];exact k2
   .rw[aat e] at a7 ⊢
    exact k4 id a7 e
  refine⟨e2,Sl',A,D,λx p t B m=>?_⟩
  have br:=(aaG.1 m).1
  rw[k3 x t br,nt.congr (S:=sF Sl) (λx m=>M1 f m) (S':=λy=>tH g a (dK a y)) (λz n=>(Z z n).1) br]
  exact Tx f m
 have m:(bj a)[i]?=some (dK a i):=getD_some (by omega)
 obtain⟨p,hp⟩:=vi (aax m)
 have an:=aax m
 have F:=v i (by omega)
 generalize a8:dK a i=x at m hp an
 obtain⟨x1,B⟩:=x
 simp only at hp
 have b7:x1=p:=by simpa using abk Prod.fst hp
 subst b7
 clear hp
 obtain⟨cj,hE⟩:=dL.1 an
 obtain⟨_,_,_,ck,u,b8⟩:=f.eT hE
 have cu:=fK hE
 have b9:(oF (bj a)).getD i []=[gi (p:Int),gi B]:=by
  simp[aaq,m]
 have cv:B<=1000:=by
  obtain⟨e,h1,h2⟩:=hE
  have:=f.ok.sym _ (CD h1).2 e h1
  omega
 have U:aK a:=by unfold aK;omega
 have bs:∀ s∈a,aK s.aJ/\∀ e∈s.aJ,b6 e.sym/\b6 e.to:=λs hs=>⟨by have:=f.ok.aJ s hs;unfold aK;omega,λe he=>by
  have h1:=f.ok.sym s hs e he
  have h2:=f.ok.to s hs e he
  unfold b6;omega⟩
 simp(disch:=omega)only[↓wr,seval,wq,t0,t19,t20,t21,ar,hw,b9]
 refine⟨by omega,by omega,λq1 bx=>?_⟩
 rw[set_set]
 have X:=R.fresh bx (o:=.arr 2 [[gi (p:Int),gi B]])
 have j:(H'.set q1 (.arr 2 [[gi (p:Int),gi B]])) q1=.arr 2 [[gi (p:Int),gi B]]:=by simp[View.set]
 generalize H'.set q1 (.arr 2 [[gi (p:Int),gi B]])=H1 at X j ⊢
 refine ay.dr ((Jn (X.at d).1 U bs p (-1 - B)).mono ?_)
 rintro r H3 ⟨rfl,bb⟩
 have G:=X.stay bb
 have b0:H3 q1=.arr 2 [[gi (p:Int),gi B]]:=by rw[bb q1 (by rw[j];simp)];exact j
 clear R X j bb bx hW hw hs he n1 n2 n3
 clear H1 H'
 obtain⟨hW,⟨w2,b1,hw⟩,hs,he,n1,n2,n3⟩:=G.at d
 clear b1
 have ca:=G.sl
 have b2:=qG (l:=Sl) (i:=i) (by omega)
 rw[b8]
 simp only[Nat.lt_irrefl,if_false] at F
 have cc:sF Sl i=0:=F.1
 simp(disch:=omega)only[↓wr,seval,wq,t0,t19,t20,t21,b0]
 apply ah.eq<;>intro bd
 .simp(disch:=omega)only[↓wr,seval,wq,t0,b0,hW]
  apply ah.eq<;>intro bl
  .simp(disch:=omega)only[↓wr,seval,wq,t0,hW,hs,b2]
   refine⟨by omega,by omega,λq5 cf=>?_⟩
   refine ay.xB (Ix (g.af.length:Int)) (by kernel_rfl) (.val _) ⟨ew.U9 (l:=[(g.af.length:Int)]) (.inr ⟨q5,rfl,by simp[View.set]⟩),trivial⟩ ?_
   have D:=G.fresh cf (o:=.arr 1 [[gi (g.af.length:Int)]])
   generalize H3.set q5 (.arr 1 [[V.val (.int .i64 (g.af.length:Int))]])=H5 at D ⊢
   obtain⟨b3,-,cg,-⟩:=D.at d
   have e1:(bV Sl).set i [gw (sF Sl i ||| dT (g.af.length:Int))]=bV (Sl.set i (sF Sl i ||| dT (g.af.length:Int))):=by simp[abR]
   have I:=D.AS (Sl':=Sl.set i (sF Sl i ||| dT (g.af.length:Int))) (by simp[ca])
   have Y:=b3
   have J:a[eT a p (-1 - B)]?=some (a.getD (eT a p (-1 - B)) aN):=getD_some u
   simp(disch:=omega)only[↓wr,seval,wq,cg,b2,e1,uR,b3,n1,t0,aW,aav,J,aaz,eu]
   refine⟨by omega,by omega,?_⟩
   refine yY f aq ha (by omega) u (qF g ((p:Int),B)) (λy=>if y < i then tH g a (dK a y) else 0) (λy=>if y < i then oL g a (dK a y) else []) ⟨_,A,I,λz n=>?_⟩ ⟨t0,rfl,rfl,t19,t20,t21,rfl,by show gi ((fN _).length:Int)=_;simp[fN],rfl⟩ (λT' H' hF u0 b c K=>?_)
   .have L:=v z n
    have N:qF g ((p:Int),B)=dT (g.af.length:Int):=by
     unfold qF
     exact aaw ⟨bd,bl⟩
    rw[dZ]
    by_cases e:z=i
    .subst e
     rw[aaw ⟨rfl,by omega⟩]
     simp only[if_true]
     rw[N,cc]
     exact⟨by simp,F.2⟩
    .rw[aat (λh=>e h.1.symm)]
     simp only[aat e]
     exact L
   .obtain⟨O,A9,P,Q⟩:=hF
    simp(disch:=omega)only[↓wr,seval,wq,u0,b,c,K]
    refine aC hk (by omega) ⟨O,A9,P,λz n=>?_,u0,b,c,by first | rfl | (congr 2)⟩
    have:=Q z n
    by_cases e:z=i
    .subst e
     simp only[if_true,Nat.lt_succ_self] at this ⊢
     rw[a8]
     simp only[tH,oL,aaN]
     exact this
    .simp only[aat e,show z < i+1↔z < i by omega] at this ⊢
     exact this
  .have I:=G
   have Y:=hW
   have J:a[eT a p (-1 - B)]?=some (a.getD (eT a p (-1 - B)) aN):=getD_some u
   simp(disch:=omega)only[↓wr,seval,wq,t0,Y,aW,aav,J,aaz,eu]
   refine yY f aq ha (by omega) u (qF g ((p:Int),B)) (λy=>if y < i then tH g a (dK a y) else 0) (λy=>if y < i then oL g a (dK a y) else []) ⟨_,A,I,λz n=>?_⟩ ⟨t0,rfl,rfl,t19,t20,t21,rfl,by show gi ((fN _).length:Int)=_;simp[fN],rfl⟩ (λT' H' hF u0 b c K=>?_)
   .have L:=v z n
    have N:qF g ((p:Int),B)=0:=by
     unfold qF
     exact aat λh=>bl h.2
    by_cases e:z=i
    .subst e
     simp only[if_true]
     rw[N];exact F
    .simp only[aat e]
     exact L
   .obtain⟨O,A9,P,Q⟩:=hF
    simp(disch:=omega)only[↓wr,seval,wq,u0,b,c,K]
    refine aC hk (by omega) ⟨O,A9,P,λz n=>?_,u0,b,c,by first | rfl | (congr 2)⟩
    have:=Q z n
    by_cases e:z=i
    .subst e
     simp only[if_true,Nat.lt_succ_self] at this ⊢
     rw[a8]
     simp only[tH,oL,aaN]
     exact this
    .simp only[aat e,show z < i+1↔z < i by omega] at this ⊢
     exact this
 .have I:=G
  have Y:=hW
  have J:a[eT a p (-1 - B)]?=some (a.getD (eT a p (-1 - B)) aN):=getD_some u
  simp(disch:=omega)only[↓wr,seval,wq,t0,Y,aW,aav,J,aaz,eu]
  refine yY f aq ha (by omega) u (qF g ((p:Int),B)) (λy=>if y < i then tH g a (dK a y) else 0) (λy=>if y < i then oL g a (dK a y) else []) ⟨_,A,I,λz n=>?_⟩ ⟨t0,rfl,rfl,t19,t20,t21,rfl,by show gi ((fN _).length:Int)=_;simp[fN],rfl⟩ (λT' H' hF u0 b c K=>?_)
  .have L:=v z n
   have N:qF g ((p:Int),B)=0:=by
    unfold qF
    exact aat λh=>bd h.1
   by_cases e:z=i
   .subst e
    simp only[if_true]
    rw[N];exact F
   .simp only[aat e]
    exact L
  .obtain⟨O,A9,P,Q⟩:=hF
   simp(disch:=omega)only[↓wr,seval,wq,u0,b,c,K]
   refine aC hk (by omega) ⟨O,A9,P,λz n=>?_,u0,b,c,by first | rfl | (congr 2)⟩
   have:=Q z n
   by_cases e:z=i
   .subst e
    simp only[if_true,Nat.lt_succ_self] at this ⊢
    rw[a8]
    simp only[tH,oL,aaN]
    exact this
   .simp only[aat e,show z < i+1↔z < i by omega] at this ⊢
    exact this
def tn:SC :=
 ae [ab [aQ 17 .lss 16 15],bS 17 (.exit 0),.block 1 (ae [ab [aa 18 16,aI 19 1 14 16,aj 20 19,aa 8 18,aa 9 20],ae [.region false [⟨none,[aa 21 9,aF 22 .lss 21 0,aa 23 22]⟩,⟨(some (23,true)),[aa 24 0,ao 25 1 5,aj 26 25,aa 27 8,aF 28 .add 27 1,((some 29),.op (.slice 1 (.tmp 26) (some (.tmp 28)) none)),bm 30 121 [24,29]]⟩,⟨none,[eC 31 23 30]⟩],bf 31 (ae [ab [aa 32 0,cR 33 32,ao 34 6 33,aj 35 34,aa 36 7,aa 37 9,((some 38),.op (.arith .sub (.val (.val (.int .i64 (-1)))) (.tmp 37))),((some 39),.op (.build [(.val (.int .i64 0)),(.val (.int .i64 0))] [(0,1,(.tmp 36)),(1,1,(.tmp 38))])),((some 40),.op (.old (.lookup 110 (.tmp 35) (.tmp 39) false) 3)),aa 10 40],.pv [(43,52)] [⟨none,[aa 41 0,cR 42 41,ao 43 9 42,aj 44 43,aa 45 10,aa 46 0,cR 47 46,ao 48 9 47,aj 49 48,aa 50 10,aI 51 1 49 50,aj 52 51,aa 53 0,cR 54 53,ao 55 6 54,aj 56 55,aY 57 2 4,((some 58),.op (.old (.lookup 110 (.tmp 56) (.tmp 57) false) 3)),((some 59),.op (.bW 1 1 [(.val (.int .i64 0))] [(0,(.tmp 58))])),gx 60 1 8 52 59,aI 61 1 44 45,bZ 1 61 60]⟩]])],ab [aa 62 0,aa 63 7,aa 64 9,bm 65 119 [62,63,64],aa 7 65]]),ab [aF 66 .add 16 1,aa 16 66]]
def vd:SF:=⟨ae [ab [cy 4 1,cy 5 2,aT 6 0],ab [ao 11 0 4,aj 12 11,aa 7 12],ae [ab [ao 13 1 5,aj 14 13,aM 15 14,aT 16 0],bX 0 tn],ab [aa 67 7,aa 6 67],.ret],
 [.tmp 6],68⟩
theorem AO:aO Tryz.prog 74 [4,5,100000]=some vd:=by kernel_rfl
def qb (g:ai) (a:List aL):Nat->List Int->List Nat
 | _,[]=>[]
 | q,s :: l=>(if s < 0/\cP l (au g false) false=true then [xn (bj a) ((q:Int),-1 - s)] else []) ++ qb g a (eT a q s) l
def lM (a:List aL):Nat->List Int->Nat
 | q,[]=>q
 | q,s :: l=>lM a (eT a q s) l
def kZ (f:Nat->List Nat) (x:Nat) (ys:List Nat):Nat->List Nat:=ys.foldl (λf y=>kx f y (f y ++ [x])) f
theorem RY (f:Nat->List Nat) (x:Nat) (ys a:List Nat):kZ f x (ys ++ a)=kZ (kZ f x ys) x a:=by
 unfold kZ;rw[abe]
theorem Ib {x:Nat} : ∀ {ys:List Nat} {f:Nat->List Nat} {y z:Nat},z∈kZ f x ys y↔z∈f y∨(z=x/\y∈ys)
 | [],f,y,z=>by simp[kZ]
 | w :: ys,f,y,z=>by
  have a:=Ib (x:=x) (ys:=ys) (f:=kx f w (f w ++ [x])) (y:=y) (z:=z)
  unfold kZ at a ⊢
  rw[aaR,a]
  by_cases e:y=w
  .subst e
   rw[fw,aaZ,abq]
   simp only[aaI,true_or,and_true]
   constructor
   .rintro ((h | h) | h)
    .exact .inl h
    .exact .inr h
    .exact .inr h.1
   .rintro (h | h)
    .exact .inl (.inl h)
    .exact .inl (.inr h)
  .rw[ow e]
   simp only[aaI,e,false_or]
theorem B5 {x c:Nat} : ∀ {ys:List Nat} {f:Nat->List Nat},(∀ z,(f z).length<=c)->∀ z,(kZ f x ys z).length<=c+ys.length
 | [],f,h,z=>by simpa [kZ] using h z
 | w :: ys,f,h,z=>by
  have a:=B5 (x:=x) (c:=c+1) (ys:=ys) (f:=kx f w (f w ++ [x])) (λz=>by
   by_cases e:z=w
   .subst e;rw[fw,abd];have:=h z;simp;omega
   .rw[ow e];have:=h z;omega) z
  unfold kZ at a ⊢
  rw[aaR,aaK]
  omega
theorem Ou (g:ai) (a:List aL):∀ (l:List Int) (q:Nat),(qb g a q l).length<=l.length
 | [],_=>by simp[qb]
 | s :: l,q=>by
  have b:=Ou g a l (eT a q s)
  rw[qb,abd,aaK]
  split <;> simp <;> omega
theorem Up {g:ai} {a:List aL} (D:cq g a) (bq:bC g=true) (ha:a.length<=300) {H:View} {W qn cM:Nat} {M:bY (Int × Int)} {uw:V} {s e:Nat} {Sl:List BV} {A:List (V × List Nat)} {L:List cx} (t:dh g a H W qn cM M uw s e (bj a) Sl A L)
  {fA:Nat->List Nat} {c:Nat} (Z:∀ z,z < (bj a).length->(A.getD z (.any,[])).2=fA z) (br:∀ z,(fA z).length<=c) (hc:c<=100000000) {x p k:Nat} {B:Int} (hx:(bj a)[x]?=some ((p:Int),B)) (hk:k < g.rules.length) (bs:(aw g k).left=B) :
  av Tryz.prog 74 [.ptr W 0 0,.agg [gi p,gi B],.agg (aU (aw g k))] H λr H'=>r=gi (lM a p (aw g k).right)/\(∃ A',dh g a H' W qn cM M uw s e (bj a) Sl A' L/\∀ z,z < (bj a).length->(A'.getD z (.any,[])).2=kZ fA x (qb g a p (aw g k).right) z)/\∀ b c es,H b=.map es c->H' b=.map es c:=by
 have an:=rO D
 have cg:(bj a).length<=40 * a.length:=nz D.ok.aJ a.length
 obtain⟨bx,hE⟩:=dL.1 (aax hx)
 have aq:=fK hE
 have b0:=lK D aq bx hk bs hE
 have hR:g.rules[k]?=some (aw g k):=by unfold aw;exact getD_some hk
 have b1:aP g (k:Int)=(aw g k).right:=by rw[aP,aat (by omega)]
 have ch:=D.cQ.right _ (aax hR)
 have ar:=D.cQ.sym _ (aax hR)
 have b2:=t.num _ _ hx
 generalize aw g k=R at *
 refine av.of mixed AO ?_
 simp(disch:=omega)only[↓wr,seval,wq,vd,aU,encI]
 refine aS.up R.right.length (λi T H'=>∃ (q:Nat) (ys:List Nat) (A':List (V × List Nat)),dh g a H' W qn cM M uw s e (bj a) Sl A' L/\(∀ z,z < (bj a).length->(A'.getD z (.any,[])).2=kZ fA x ys z)/\(∀ b c es,H b=.map es c->H' b=.map es c) /\
  ys.length<=i/\qb g a p R.right=ys ++ qb g a q (R.right.drop i)/\lM a p R.right=lM a q (R.right.drop i)/\q < a.length/\(⟨k,i⟩:aA)∈jq g a q /\
  T 0=.ptr W 0 0/\T 4=.aH [gi p,gi B] 0/\T 5=.aH (aU R) 0/\T 7=gi q/\T 14=encI R.right/\T 15=gi R.right.length/\T 16=gi i)
  ⟨p,[],A,t,Z,λ_ _ _ h=>h,by simp,by simp,by simp,aq,b0,rfl,rfl,rfl,rfl,rfl,rfl,rfl⟩ ?_
 clear t Z
 rintro i m T H1 hm ⟨q,ys,A1,t,f,w,cj,n,C,b3,b4,t0,t4,t5,t7,t14,t15,t16⟩
 simp(disch:=omega)only[↓wr,seval,wq,tn,t0,t4,t5,t7,t14,t15,t16]
 apply ah.dec<;>intro b5
 rotate_left
 .simp(disch:=omega)only[↓wr,seval,wq,t7]
  rw[aaV (by omega)] at n C
  rw[n,C]
  refine⟨rfl,⟨A1,t,?_⟩,w⟩
  simpa [qb] using f
 have hy:R.right[i]?=some (R.right[i]'(by omega)):=aar (by omega)
 have a1:=aaC (show i < R.right.length by omega)
 have K:R.right.drop i=R.right[i]'(by omega) :: R.right.drop (i+1):=abg (by omega)
 generalize R.right[i]'(by omega)=y at hy a1 K
 obtain⟨n1,n2,n3⟩:=rV (g:=g) (r:=k) (d:=i) (s:=y) (l:=R.right.drop (i+1)) (by rw[b1,K])
 obtain⟨s1,s2,s3,s4⟩:=D.step b3 b4 n1
 obtain⟨_,_,_,_,_,Q⟩:=D.eT s1
 have a6:=rH (ar y a1)
 have hT:=D.cQ.af
 have hN:=D.cQ.ak
 have cc : -100<=y:=by
  unfold kW at a6
  split at a6 <;> omega
 rw[K,qb] at n
 rw[K,lM] at C
 obtain⟨hW,⟨w2,cf,hw⟩,hs,he,q1,q2,q3⟩:=t.at an
 have j:aK a:=by unfold aK;omega
 have E:∀ s∈a,aK s.aJ/\∀ e∈s.aJ,b6 e.sym/\b6 e.to:=λs hs=>⟨by have:=D.ok.aJ s hs;unfold aK;omega,λe he=>by
  have h1:=D.ok.sym s hs e he
  have h2:=D.ok.to s hs e he
  unfold b6;omega⟩
 simp(disch:=omega)only[↓wr,seval,wq,t0,t4,t5,t7,t14,t15,t16,encI,aav,hy,aaz]
 apply ah.dec<;>intro h0
 .have b7:dO 1 (V.aE (List.map (λ(x:Int)=>[gi x]) R.right)) (some (V.val (.int .i64 ((i:Int)+1)))) none=some (.aE (List.map (λ(x:Int)=>[gi x]) (R.right.drop (i+1))),.none,[]):=by
   have:=zu (l:=R.right) (k:=i+1) (by omega)
   push_cast at this
   exact this
  simp(disch:=omega)only[↓wr,seval,wq,t0,t5,aU,encI,b7]
  refine ay.dr ((UE hW (R.right.drop (i+1)) (by unfold aK;simp;omega) (λz S=>by
   have h1:=rH (ar z (List.mem_of_mem_drop S))
   unfold kW at h1
   rw[fZ bq]
   unfold b6
   split at h1 <;> omega)).mono ?_)
  rintro r H5 ⟨rfl,rfl⟩
  cases hb:cP (R.right.drop (i+1)) (au g false) false with
  | false =>
   simp(disch:=omega)only[↓wr,seval,wq,t0,t7]
   refine ay.dr ((Jn hW j E q y).mono ?_)
   rintro r H6 ⟨rfl,o⟩
   rw[Q]
   simp(disch:=omega)only[↓wr,seval,wq,t0,t4,t5,t7,t14,t15,t16]
   exact aC hm (by omega) ⟨eT a q y,ys,A1,t.stay o,f,λb c es h=>by rw[o b (by rw[w b c es h];simp)];exact w b c es h,by omega,by rw[n,aat (λh=>by rw[hb] at h;simp at h),abF],C,s4,by push_cast;exact s3,t0,t4,t5,rfl,t14,t15,by first | rfl | (congr 2)⟩
  | true =>
   have U:(bj a)[xn (bj a) ((q:Int),-1 - y)]?=some ((q:Int),-1 - y):=kV (dL.2 ⟨by omega,by rw[show -1 - (-1 - y)=y by omega];exact s1⟩)
   have a7:=t.num _ _ U
   have v:=(aaG.1 U).1
   rw[aaw ⟨h0,hb⟩] at n
   generalize xn (bj a) ((q:Int),-1 - y)=J at U a7 v n
   have a8:dQ Tryz.prog 110=some (116,3):=by kernel_rfl
   have S:zeroV Tryz.prog 3=some (gi 0):=by kernel_rfl
   simp(disch:=omega)only[↓wr,seval,wq,t0,t7,hW]
   refine Jm (kv:=fE) (kt:=116) (et:=3) (z:=gi 0) (id:=qn) (c:=cM) (m:=M) (k:=((q:Int),-1 - y)) a8 S (CH yK) (by first | rfl | simp(disch:=omega)only[↓wr,seval,wq]) (by first | rfl | (simp(disch:=omega)only[↓wr,seval,wq];rfl)) t.mp ?_
   rw[a7,aaL]
   have b8:=t.al
   obtain⟨O,⟨u,l⟩,P,rfl,F,_⟩:=oT (l:=A1) (i:=J) (by omega)
   have G:=t.row rfl
   have bb:(bt (O ++ (u,l) :: P)).getD J []=[u]:=by rw[<-F];simp[bt]
   have bd:((O ++ (u,l) :: P).getD J (V.any,([]:List Nat))).2=l:=by rw[<-F];simp
   have b9:(bt (O ++ (u,l) :: P)).length=(bj a).length:=by rw[bt,aaA];exact b8
   have ck:l.length<=100000010:=by
    rw[<-bd,f J v]
    have:=B5 (x:=x) (ys:=ys) br J
    omega
   simp(disch:=omega)only[↓wr,seval,wq,t0,t4,hW,he,bb]
   refine⟨v,by omega,?_⟩
   refine Jm (kv:=fE) (kt:=116) (et:=3) (z:=gi 0) (id:=qn) (c:=cM) (m:=M) (k:=((p:Int),B)) a8 S (CH yK) (by first | rfl | simp(disch:=omega)only[↓wr,seval,wq]) (by first | rfl | (simp(disch:=omega)only[↓wr,seval,wq];rfl)) t.mp ?_
   rw[b2,aaL]
   simp(disch:=omega)only[↓wr,seval,wq]
   intro q8 N
   simp(disch:=omega)only[↓wr,seval,wq,bM]
   refine ct (G.fresh N) (by simp[aR]) (by unfold aD;simp;omega) (by unfold aD;simp;omega) ?_
   intro u2 H8 o8 l8
   have X:=o8.is 1 rfl (by rw[b9];omega)
   have bl:∀ b c es,H5 b=.map es c->H8 b=.map es c:=λb c es h=>l8.map (G.fresh N).head (b:=b) (c:=c) (es:=es) (by
    simp only[View.set];rw[aat (λe=>by rw[<-e,h] at N;simp at N)];exact h)
   have ca:(bt (O ++ (u,l) :: P)).set J [u2]=bt (O ++ (u2,l ++ [x]) :: P):=by rw[<-F];simp[bt]
   have Y:=t.Yf rfl (l':=l ++ [x]) (es:=gp l ++ [[gi (x:Int)]]) (by simp) o8 (bl _ _ _ t.mp)
   have I:∀ b c es,H b=.map es c->(H8.set e (.arr 1 (bt (O ++ (u2,l ++ [x]) :: P)))) b=.map es c:=λb c es h=>by
    have h8:=bl b c es (w b c es h)
    simp only[View.set];rw[aat (λe=>by rw[<-e,h8] at X;simp at X)];exact h8
   simp(disch:=omega)only[↓wr,seval,wq,t0,t4,t5,t7,t14,t15,t16,X,bb,o8.head.cells,o8.head.iO,ca]
   refine⟨v,by omega,?_,?_⟩
   .rcases G.head with ⟨_,kk,h⟩ | ⟨m,h,bn⟩
    .rw[show u=.emp kk from h,zt];trivial
    .rw[show u=.sl m 0 _ 1 from h,CU]
     intro e
     rw[<-e,hW] at bn;simp at bn
   .generalize H8.set e (.arr 1 (bt (O ++ (u2,l ++ [x]) :: P)))=H9 at Y I ⊢
    refine ay.dr ((Jn (Y.at an).1 j E q y).mono ?_)
    rintro r H6 ⟨rfl,o⟩
    rw[Q]
    simp(disch:=omega)only[↓wr,seval,wq,t0,t4,t5,t7,t14,t15,t16]
    refine aC hm (by omega) ⟨eT a q y,ys ++ [J],O ++ (u2,l ++ [x]) :: P,Y.stay o,λz S=>?_,λb c es h=>by rw[o b (by rw[I b c es h];simp)];exact I b c es h,by rw[abd];simp;omega,by rw[n,aa6],C,s4,by push_cast;exact s3,t0,t4,t5,rfl,t14,t15,by first | rfl | (congr 2)⟩
    rw[RY]
    show _=kx (kZ fA x ys) J (kZ fA x ys J ++ [x]) z
    by_cases e:z=J
    .subst e
     rw[fw,<-f z S,bd,<-F]
     simp
    .rw[ow e,DN (y:=(u,l)) (by rw[F];exact e)]
     exact f z S
 .simp(disch:=omega)only[↓wr,seval,wq,t0,t7]
  refine ay.dr ((Jn hW j E q y).mono ?_)
  rintro r H6 ⟨rfl,o⟩
  rw[Q]
  simp(disch:=omega)only[↓wr,seval,wq,t0,t4,t5,t7,t14,t15,t16]
  exact aC hm (by omega) ⟨eT a q y,ys,A1,t.stay o,f,λb c es h=>by rw[o b (by rw[w b c es h];simp)];exact w b c es h,by omega,by rw[n,aat (λh=>h0 h.1),abF],C,s4,by push_cast;exact s3,t0,t4,t5,rfl,t14,t15,by first | rfl | (congr 2)⟩
section
variable {g:ai} {a:List aL}
theorem GY (n:cq g a) {k y:Nat} (hk:k < g.rules.length):∀ (l:List Int) (d q:Nat),q < a.length->(⟨k,d⟩:aA)∈jq g a q->(aw g k).right.drop d=l ->
  (y∈qb g a q l↔∃ (j c:Nat) (C:Int),l[j]?=some (-1 - C)/\0<=C/\jz a q (l.take j) c/\cP (l.drop (j+1)) (au g false) false=true/\(bj a)[y]?=some ((c:Int),C))
 | [],d,q,hq,p,hl=>by simp[qb]
 | s :: l,d,q,hq,p,hl=>by
  have f:aP g (k:Int)=(aw g k).right:=by rw[aP,aat (by omega)]
  obtain⟨n1,t,z⟩:=rV (g:=g) (r:=k) (d:=d) (s:=s) (l:=l) (by rw[f,hl])
  obtain⟨s1,s2,u,v⟩:=n.step hq p n1
  have w:=GY n hk (y:=y) l (d+1) (eT a q s) v (by push_cast;exact u) (by rw[f] at t;exact t)
  rw[qb,aaZ,w]
  constructor
  .rintro (h | ⟨j,c,C,h1,o,b,i,m⟩)
   .split at h
    .rename_i x
     rw[abq] at h
     subst h
     have e : -1 - (-1 - s)=s:=by omega
     exact⟨0,q,-1 - s,by simp[e],by omega,.nil,by simpa using x.2,kV (dL.2 ⟨by omega,by rw[e];exact s1⟩)⟩
    .simp at h
   .exact⟨j+1,c,C,by simpa using h1,o,.cons s1 b,by simpa using i,m⟩
  .rintro⟨j,c,C,h1,o,b,i,m⟩
   cases j with
   | zero =>
    left
    simp only[List.take_zero] at b
    cases b
    have hs:s = -1 - C:=by simpa using h1
    rw[aaw ⟨by omega,by simpa using i⟩,abq]
    rw[hs,show -1 - (-1 - C)=C by omega]
    exact(Ku (By n) m).symm
   | succ j =>
    right
    rw[ach] at b
    cases b with
    | cons _ b=>exact⟨j,c,C,by simpa using h1,o,b,by simpa using i,m⟩
def sg (g:ai) (a:List aL) (x:Nat) (f:Nat->List Nat) (k:Nat):Nat->List Nat:=if (aw g k).left=(dK a x).2 then kZ f x (qb g a (dK a x).1.toNat (aw g k).right) else f
def PR (g:ai) (a:List aL) (f:Nat->List Nat) (x:Nat):Nat->List Nat:=(List.range g.rules.length).foldl (sg g a x) f
def kM (g:ai) (a:List aL) (n:Nat):Nat->List Nat:=(List.range n).foldl (PR g a) λ_=>[]
theorem IX {x y z:Nat} : ∀ (n:Nat) (f:Nat->List Nat),z∈(List.range n).foldl (sg g a x) f y↔z∈f y∨(z=x/\∃ k,k < n/\(aw g k).left=(dK a x).2/\y∈qb g a (dK a x).1.toNat (aw g k).right)
 | 0,f=>by simp
 | n+1,f=>by
  have d:=IX (x:=x) (y:=y) (z:=z) n f
  rw[abi,abe,aaR,abL,sg]
  have key:∀ k,(k < n+1/\(aw g k).left=(dK a x).2/\y∈qb g a (dK a x).1.toNat (aw g k).right)↔(k < n/\(aw g k).left=(dK a x).2/\y∈qb g a (dK a x).1.toNat (aw g k).right)∨(k=n/\(aw g k).left=(dK a x).2/\y∈qb g a (dK a x).1.toNat (aw g k).right):=λk=>by
   constructor
   .rintro⟨h1,b⟩
    rcases aaT k n with q | q
    .exact .inl ⟨q,b⟩
    .exact .inr ⟨by omega,b⟩
   .rintro (⟨h1,b⟩ | ⟨h1,b⟩)
    .exact⟨by omega,b⟩
    .exact⟨by omega,b⟩
  split
  .rename_i c
   rw[Ib,d]
   constructor
   .rintro ((h | ⟨h,k,h1⟩) | ⟨h,h1⟩)
    .exact .inl h
    .exact .inr ⟨h,k,(key k).2 (.inl h1)⟩
    .exact .inr ⟨h,n,by omega,c,h1⟩
   .rintro (h | ⟨h,k,h1⟩)
    .exact .inl (.inl h)
    .rcases (key k).1 h1 with h1 | ⟨rfl,_,h1⟩
     .exact .inl (.inr ⟨h,k,h1⟩)
     .exact .inr ⟨h,h1⟩
  .rename_i c
   rw[d]
   constructor
   .rintro (h | ⟨h,k,h1⟩)
    .exact .inl h
    .exact .inr ⟨h,k,(key k).2 (.inl h1)⟩
   .rintro (h | ⟨h,k,h1⟩)
    .exact .inl h
    .rcases (key k).1 h1 with h1 | ⟨rfl,b,_⟩
     .exact .inr ⟨h,k,h1⟩
     .exact absurd b c
theorem D5 {y z:Nat} : ∀ n:Nat,z∈kM g a n y↔z < n/\∃ k,k < g.rules.length/\(aw g k).left=(dK a z).2/\y∈qb g a (dK a z).1.toNat (aw g k).right
 | 0=>by simp[kM]
 | n+1=>by
  have c:=D5 (y:=y) (z:=z) n
  unfold kM at c ⊢
  rw[abi,abe,aaR,abL,PR,IX,c]
  constructor
  .rintro (⟨h1,b⟩ | ⟨rfl,b⟩)
   .exact⟨by omega,b⟩
   .exact⟨by omega,b⟩
  .rintro⟨h1,b⟩
   by_cases e:z=n
   .subst e;exact .inr ⟨rfl,b⟩
   .exact .inl ⟨by omega,b⟩
theorem xG {x:Nat} {y:Int × Int} (h:(bj a)[x]?=some y):dK a x=y:=by
 rw[dK,aaq,h];rfl
theorem Nq (m:cq g a) {x z p:Nat} {B:Int} (n:(bj a)[x]?=some ((p:Int),B)):z∈kM g a (bj a).length x↔∃ (e k d:Nat),k < g.rules.length/\(bj a)[z]?=some ((e:Int),(aw g k).left)/\(aw g k).right[d]?=some (-1 - B)/\jz a e ((aw g k).right.take d) p/\cP ((aw g k).right.drop (d+1)) (au g false) false=true:=by
 rw[D5]
 constructor
 .rintro⟨h,k,hk,hl,hm⟩
  have c:(bj a)[z]?=some (dK a z):=getD_some h
  obtain⟨e,i⟩:=vi (aax c)
  have l:=aax c
  rw[i] at l c
  obtain⟨f,hE⟩:=dL.1 l
  have b:=fK hE
  rw[i] at hm
  simp only[aaN] at hm
  obtain⟨j,v,C,h1,s,o,t,q⟩:=(GY m hk _ 0 e b (lK m b f hk hl hE) (by rw[abO])).1 hm
  rw[n] at q
  simp only[aau,aay,Int.natCast_inj] at q
  obtain⟨rfl,rfl⟩:=q
  exact⟨e,k,j,hk,by rw[hl];exact c,h1,o,t⟩
 .rintro⟨e,k,d,hk,h,h1,s,o⟩
  have r:=(aaG.1 h).1
  obtain⟨f,hE⟩:=dL.1 (aax h)
  have b:=fK hE
  have u:=(dL.1 (aax n)).1
  refine⟨r,k,hk,by rw[xG h],?_⟩
  rw[xG h]
  simp only[aaN]
  exact(GY m hk _ 0 e b (lK m b f hk rfl hE) (by rw[abO])).2 ⟨d,p,B,h1,u,s,o,n⟩
theorem Uq (c:cq g a) {S1:Nat->BV} (f:∀ (x p t:Nat) (B:Int),(bj a)[x]?=some ((p:Int),B)->((S1 x).getLsbD t=true↔qk g a p B t)) {x p t:Nat} {B:Int} (b:(bj a)[x]?=some ((p:Int),B)) :
  nt (kM g a (bj a).length) S1 x t↔xj g a p B t:=by
 constructor
 .rintro⟨w,hr,hw⟩
  induction hr generalizing p B with
  | refl=>exact .read ((f _ _ _ _ b).1 hw)
  | @step x y w n hr e =>
   obtain⟨i,k,d,h1,j,o,q,r⟩:=(Nq c b).1 n
   have hE:=(dL.1 (aax j)).2
   have l:=(dL.1 (aax b)).1
   exact .LI (e j hw) h1 hE l o q r
 .intro h
  induction h generalizing x with
  | read h=>exact⟨x,.refl,(f _ _ _ _ b).2 h⟩
  | @LI p i k d B t z hk hE l hd hw s e =>
   have u:g.rules[k]?=some (aw g k):=by unfold aw;exact getD_some hk
   have m:=kV (dL.2 ⟨(c.cQ.left _ (aax u)).1,hE⟩)
   obtain⟨w,v,k2⟩:=e m
   exact⟨w,.step ((Nq c b).2 ⟨i,k,d,hk,m,hd,hw,s⟩) v,k2⟩
end
section
variable {g:ai} {a:List aL}
theorem JM {q:Nat} : ∀ {l:List Int} {b:Nat},jz a q l b->lM a q l=b:=λ{l b} h=>by
 induction h with
 | nil=>rfl
 | cons _ _ c=>rw[lM];exact c
def jI (g:ai) (a:List aL) (n k i:Nat):List Nat:=(List.range n).filter λx=>decide ((aw g k).left=(dK a x).2/\lM a (dK a x).1.toNat (aw g k).right=i)
theorem wP (h:cq g a) {k i x:Nat} (hk:k < g.rules.length):x∈jI g a (bj a).length k i↔∃ p:Nat,(bj a)[x]?=some ((p:Int),(aw g k).left)/\jz a p (aw g k).right i:=by
 unfold jI
 simp only[abj,abl,aaE]
 have e:aP g (k:Int)=(aw g k).right:=by rw[aP,aat (by omega)]
 constructor
 .rintro⟨l,h1,b⟩
  have d:(bj a)[x]?=some (dK a x):=getD_some l
  have hm:=aax d
  obtain⟨p,hp⟩:=vi hm
  rw[hp] at d hm
  rw[<-h1] at d hm
  obtain⟨f,hE⟩:=dL.1 hm
  have c:=fK hE
  obtain⟨q,m,j,n⟩:=h.fwd k (aw g k).right 0 p c (lK h c f hk rfl hE) ⟨[],by rw[e];simp⟩
  rw[hp] at b
  simp only[aaN] at b
  rw[JM j] at b
  subst b
  exact⟨p,d,j⟩
 .rintro⟨p,h1,b⟩
  refine⟨(aaG.1 h1).1,by rw[xG h1],?_⟩
  rw[xG h1]
  simp only[aaN]
  exact JM b
def nW (S:Nat->BV) (l:List Nat):BV:=l.foldl (λb x=>b ||| S x) 0
theorem Ny {S:Nat->BV} {t:Nat} : ∀ (l:List Nat) (b:BV),(l.foldl (λb x=>b ||| S x) b).getLsbD t=true↔b.getLsbD t=true∨∃ x∈l,(S x).getLsbD t=true
 | [],b=>by simp
 | x :: l,b=>by
  rw[aaR,Ny l,aa5,abt]
  simp only[aaI,exists_eq_or_imp]
  exact or_assoc
def kd (g:ai) (a:List aL) (S:Nat->BV) (i k:Nat):Option cb:=if jI g a (bj a).length k i=[] then none else some ⟨k,nW S (jI g a (bj a).length k i)⟩
def CJ (g:ai) (a:List aL) (S:Nat->BV) (i:Nat):List cb:=(List.range g.rules.length).filterMap (kd g a S i)
theorem HC:∀ {l m:List cb},l.Pairwise (λx y=>x.ax < y.ax)->m.Pairwise (λx y=>x.ax < y.ax)->(∀ x,x∈l↔x∈m)->l=m
 | [],[],_,_,_=>rfl
 | [],y :: m,_,_,h=>by have:=(h y).2 (by simp);simp at this
 | x :: l,[],_,_,h=>by have:=(h x).1 (by simp);simp at this
 | x :: l,y :: m,h1,c,h=>by
  rw[abM] at h1 c
  have e:x=y:=by
   rcases aaI.1 ((h x).1 (by simp)) with e | d
   .exact e
   .rcases aaI.1 ((h y).2 (by simp)) with e | f
    .exact e.symm
    .have:=h1.1 y f
     have:=c.1 x d
     omega
  subst e
  rw[HC h1.2 c.2 λz=>?_]
  constructor
  .intro b
   rcases aaI.1 ((h z).1 (by simp[b])) with e | a
   .have:=h1.1 z b;rw[e] at this;omega
   .exact a
  .intro b
   rcases aaI.1 ((h z).2 (by simp[b])) with e | a
   .have:=c.1 z b;rw[e] at this;omega
   .exact a
theorem VK {x:aA} (d:cG g x) (a:(bp g x).2=false) (e:0<=x.ax):∃ k:Nat,k < g.rules.length/\x=⟨k,((aw g k).right.length:Nat)⟩:=by
 obtain⟨k,hk⟩:∃ k:Nat,x.ax=k:=⟨x.ax.toNat,by omega⟩
 have b:k < g.rules.length:=by have:=d.1;omega
 refine⟨k,b,?_⟩
 have c:aP g (k:Int)=(aw g k).right:=by rw[aP,aat (by omega)]
 unfold bp at a
 rw[hk,c] at a
 split at a
 .rename_i h
  cases x
  simp only at hk h
  rw[hk,h]
 .simp at a
theorem Vy (f:cq g a) (hr:isRed g=true) {S:Nat->BV} (w:∀ (x p t:Nat) (B:Int),(bj a)[x]?=some ((p:Int),B)->((S x).getLsbD t=true↔xj g a p B t)) {i:Nat} (hi:i < a.length):CJ g a S i=gB g a i:=by
 have r:∀ k:Nat,aP g (k:Int)=(aw g k).right:=λk=>by rw[aP,aat (by omega)]
 have s:∀ k:Nat,bp g ⟨k,((aw g k).right.length:Nat)⟩=(0,false):=λk=>by
  unfold bp;simp only[r,if_true]
 have n:(aX g a).getD i []=jq g a i:=by
  unfold aX jq
  simp[aaq,aar hi]
 have o:∀ k:Nat,k < g.rules.length->(jI g a (bj a).length k i≠[]↔(⟨k,((aw g k).right.length:Nat)⟩:aA)∈jq g a i):=λk hk=>by
  have u:g.rules[k]?=some (aw g k):=by unfold aw;exact getD_some hk
  rw[Ym f hi hk]
  constructor
  .intro h
   obtain⟨x,v⟩:=List.exists_mem_of_ne_nil _ h
   obtain⟨p,h1,m⟩:=(wP f hk).1 v
   exact⟨p,m,(dL.1 (aax h1)).2⟩
  .rintro⟨p,h1,m⟩
   have j:=kV (dL.2 ⟨(f.cQ.left _ (aax u)).1,m⟩)
   exact List.ne_nil_of_mem ((wP f hk).2 ⟨p,j,h1⟩)
 have l:∀ k:Nat,k < g.rules.length->nW S (jI g a (bj a).length k i)=oX g a i ⟨k,((aw g k).right.length:Nat)⟩:=λk hk=>by
  have u:g.rules[k]?=some (aw g k):=by unfold aw;exact getD_some hk
  refine yB λt D=>?_
  rw[abu,nW,Ny,oX,yI _ 32 t (aaD _)]
  simp only[aaE]
  rw[T6 f hr hk]
  constructor
  .rintro (h | ⟨x,v,d⟩)
   .simp at h
   .obtain⟨p,h1,m⟩:=(wP f hk).1 v
    exact⟨D,p,m,(dL.1 (aax h1)).2,(w x p t _ h1).1 d⟩
  .rintro⟨_,p,E,F,G⟩
   have j:=kV (dL.2 ⟨(f.cQ.left _ (aax u)).1,F⟩)
   exact .inr ⟨_,(wP f hk).2 ⟨p,j,E⟩,(w _ _ _ _ j).2 G⟩
 refine HC ?_ ?_ λx=>?_
 .rw[CJ,List.pairwise_filterMap]
  refine List.pairwise_lt_range.imp λ{k K} H b d I c=>?_
  unfold kd at d c
  split at d
  .simp at d
  .split at c
   .simp at c
   .simp only[aau] at d c
    rw[<-d,<-c]
    simp only
    omega
 .rw[gB,n,List.pairwise_filterMap]
  refine(jk g _).imp λ{x y} q b d I c=>?_
  split at d
  .rename_i h1
   split at c
   .rename_i m
    simp only[aau] at d c
    rw[<-d,<-c]
    simp only
    rw[fo] at q
    rcases q with h | ⟨h,L⟩
    .exact h
    .exfalso
     have e:∀ z:aA,(bp g z).2=false->z.dot=(aP g z.ax).length:=λz j=>by
      unfold bp at j
      split at j
      .assumption
      .simp at j
     have J:=e x h1.1
     have M:=e y m.1
     rw[h] at J
     omega
   .simp at c
  .simp at d
 .rw[CJ,gB,n,abJ,abJ]
  constructor
  .rintro⟨k,hk,h⟩
   have hk:=abl.1 hk
   unfold kd at h
   split at h
   .simp at h
   .rename_i d
    refine⟨_,(o k hk).1 d,?_⟩
    rw[aaw ⟨by rw[s],by simp only;omega⟩,<-l k hk]
    exact h
  .rintro⟨y,A,h⟩
   split at h
   .rename_i C
    obtain⟨k,hk,rfl⟩:=VK (f.has hi A) C.1 C.2
    refine⟨k,abl.2 hk,?_⟩
    unfold kd
    rw[aat ((o k hk).2 A),l k hk]
    exact h
   .simp at h
end
end Gv
