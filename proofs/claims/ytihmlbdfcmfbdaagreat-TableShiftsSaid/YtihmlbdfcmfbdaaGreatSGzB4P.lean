/-
  Part 16 of the proof: what the machine does and what the functions answer.
  Conditions: those that each lemma names.
-/
import Derived.Test.YtihmlbdfcmfbdaaGreatSGzB4O
set_option linter.unusedSimpArgs false
set_option linter.unusedVariables false
set_option maxRecDepth 100000
set_option maxHeartbeats 20000000
namespace Gv
open Go Go.Proofs
theorem ay.still {P:Program} {f:FuncId} {vs:List V} {H:View} {K:V→View→Prop} {w:cD (H,K)} {a:V→View→Prop} (b:aw P f vs H a) (hs:∀ r H',a r H'→∀ id,H id≠.dead→H' id=H id) (hk:∀ r H',a r H'→K r H'):ay P true f vs H K w:=by
 unfold ay
 simp only[if_true]
 exact (b.mono fun r H' h=>⟨hs r H' h,hk r H' h⟩).M0
theorem ba.join {H:View} {L M:List cw} (h:ba H L) (k:ba H M) (hd:∀ x∈L,∀ y∈M,∀ id,owner x.1=some id→owner y.1≠some id):ba H (L ++ M):=by
 refine ⟨fun x c=>?_,?_⟩
 ·rcases XE.1 c with c | c
  ·exact h.1 x c
  ·exact k.1 x c
 ·rw[List.filterMap_append,Yc]
  refine ⟨h.2,k.2,fun a g b i e=>?_⟩
  obtain ⟨x,c,d⟩:=Yr.1 g
  obtain ⟨y,j,f⟩:=Yr.1 i
  subst e
  exact hd x c y j a d f
theorem ba.sub {H:View} {L M:List cw} (h:ba H L) (hs:M.Sublist L):ba H M :=
 ⟨fun x a=>h.1 x (hs.subset a),h.2.sublist (hs.filterMap _)⟩
theorem QN {l:List aD} (hs:cm l) (g:l.length≤100000) (u:V) (H:View) (b:aX H u 2 (aT l)):aw Tryz.prog 64 [u] H fun r H'=>H=H'∧aX H r 2 (aT l)∧(l≠[]→r=u):=by
 refine (KP l g u H b).mono ?_
 rintro r H' ⟨i,k2,a⟩
 rw[M8 hs] at k2
 have e:H'=H:=by
  funext id
  by_cases h:owner u=some id
  ·rw[(b.live h).1,(k2.live (by rw[a]; exact h)).1]
  ·exact i id h
 subst e
 refine ⟨rfl,k2,fun c=>?_⟩
 have hp:0 < (aT l).length:=by rw[bM]; exact Zc.2 c
 obtain ⟨n,d,_⟩:=b.sl hp
 obtain ⟨m,f,_⟩:=k2.sl hp
 rw[d,f] at a
 simp only[owner,Xe] at a
 rw[d,f,a]
def rU (g:ag) (out:List aI) (M:bQ (List UInt8)):Prop:=∀ l:List aD,(∀ x∈l,cU g x)→getM M (gv l)=if findD out l < 0 then none else some (gi (findD out l))
theorem Gw:∀ {a b:List aI},a.map aI.bc=b.map aI.bc→∀ k,findD a k=findD b k
 | [],[],_,_=>rfl
 | [],_ :: _,h,_=>by simp at h
 | _ :: _,[],h,_=>by simp at h
 | s :: a,t :: b,h,k=>by
  simp only[XF,Zg] at h
  rw[findD,findD,h.1,Gw h.2 k]
theorem CN:∀ (a:List aI) (s:aI) (k:List aD),findD (a ++ [s]) k=if 0≤findD a k then findD a k else if s.bc=k then (a.length:Int) else -1
 | [],s,k=>by by_cases e:s.bc=k <;> simp[findD,e]
 | t :: a,s,k=>by
  have b:=CN a s k
  have h1:=tJ a k
  rw[XQ,findD,findD,b]
  simp only[Xt]
  push_cast
  by_cases e:t.bc=k <;> by_cases c:s.bc=k <;> by_cases d:0≤findD a k <;> simp only[e,c,d,if_true,if_false] <;> (repeat' split) <;> omega
theorem rU.same {g:ag} {a b:List aI} {M:bQ (List UInt8)} (h:rU g a M) (e:a.map aI.bc=b.map aI.bc):rU g b M:=fun l hl=>by
 rw[h l hl,Gw e]
theorem rU.put {g:ag} (b:g.dD) {out:List aI} {M:bQ (List UInt8)} (h:rU g out M) {k:List aD} (hk:∀ x∈k,cU g x) (f:findD out k < 0) (c:Nat):rU g (out ++ [⟨k,[]⟩]) (bF (gv k) (gi out.length) c M):=fun l hl=>by
 have h1:=CN out ⟨k,[]⟩ l
 have i:=tJ out l
 rw[qg]
 by_cases e:l=k
 ·subst e
  rw[Xd (by omega),Xg rfl] at h1
  rw[h1,YQ,Xg rfl,Xd (by omega)]
 ·have d:(gv l == gv k)=false:=beq_eq_false_iff_ne.2 fun h=>e (IB b hl hk h)
  rw[d,h l hl]
  simp only[Xz,if_false]
  by_cases a:0≤findD out l
  ·rw[Xg a] at h1
   rw[h1]
  ·rw[Xd a,Xd (fun h=>e h.symm)] at h1
   rw[h1,Xg (by omega),Xg (by omega)]
theorem Hw {A:bQ Int} {k:Nat} {v:V} (d:(A.map (·.1)).Nodup) (h:getM A (k:Int)=some v):∃ b,(A.filter (fun x=>decide (((k:Nat):Int)≤x.1))).Perm (((k:Int),v,b) :: A.filter (fun x=>decide (((k+1:Nat):Int)≤x.1))):=by
 obtain ⟨g,f,b,rfl,a,_⟩:=w8 h
 rw[XD,XF,Yc] at d
 have c:(k:Int) ∉ f.map (·.1):=(X6.1 d.2.1).1
 have e:∀ B:bQ Int,(k:Int) ∉ B.map (·.1)→B.filter (fun x=>decide (((k:Nat):Int)≤x.1))=B.filter (fun x=>decide (((k+1:Nat):Int)≤x.1)):=fun B i=>List.filter_congr fun x j=>by
  have:x.1≠(k:Int):=fun e=>i (Xw.2 ⟨x,j,e⟩)
  rw[decide_eq_decide]; omega
 refine ⟨b,?_⟩
 rw[YG,YG,Y7,Y7,Xg (by simp),Xd (by simp only[Xr]; push_cast; omega),e g a,e f c]
 exact XT
theorem VR {α:Type} {e u r:α} {S X Y:List α} (h:X.Perm (r :: Y)):(e :: u :: (S ++ X)).Perm (u :: ((S ++ [r,e]) ++ Y)):=by
 refine (List.Perm.swap _ _ _).trans (.cons _ ?_)
 rw[XO]
 refine ((h.append_left S).cons e).trans ?_
 exact XT.symm.trans ((List.Perm.swap _ _ _).append_left S)
theorem GW {α:Type} {u k e:α} {S R:List α} : (u :: (S ++ k :: e :: R)).Perm (e :: u :: (S ++ k :: R)):=by
 have h:(S ++ k :: e :: R).Perm (e :: (S ++ k :: R)):=by
  have:=XT (a:=e) (l₁:=S ++ [k]) (l₂:=R)
  simpa using this
 exact (h.cons u).trans (List.Perm.swap _ _ _)
def vz:SC :=
 ae [ab [aV 49 .lss 48 47],bY 49 (.exit 2),.block 3 (ae [ab [aa 50 48,aa 9 50],ab [aa 51 8,aa 52 9,((some 53),.op (.old (.lookup 98 (.tmp 51) (.tmp 52) false) 27)),bz 54 64 [53],aa 10 54],ae [ab [aa 55 10,aN 56 55,aH 57 .eql 56 0],bf 57 (.exit 3)],ab [aa 58 9,aa 11 58],ae [ab [aa 59 9,ao 60 0 1,aj 61 60,aN 62 61,aV 63 .geq 59 62],bf 63 (ab [ao 64 0 1,aj 65 64,aN 66 65,aH 67 .sub 66 1,aa 68 9,aV 69 .sub 67 68,aa 11 69])],ab [aa 71 6,aa 72 10,bz 73 62 [72],((some 74),.op (.old (.lookup 97 (.tmp 71) (.tmp 73) true) 30)),aa 70 74,fI 75 0 70,fI 76 1 70,aa 12 75,aa 13 76],ae [ab [aa 77 13,de 78 77],bf 78 (ae [ab [aa 79 5,aN 80 79,aa 12 80],ab [aa 81 6,aa 82 10,bz 83 62 [82],aa 84 12,(none,.op (.old (.mapUpdate 97 (.tmp 81) (.tmp 83) (.tmp 84)) 0))],ab [aa 85 5,aa 86 10,((some 87),.op (.build [(.emp 1),(.emp 1)] [(0,1,(.tmp 86))])),((some 88),.op (.bV 1 2 [(.emp 1),(.emp 1)] [(0,(.tmp 87))])),gY 89 2 48 85 88,aa 5 89]])],ab [aa 90 5,aa 91 7,aa 92 5,aa 93 7,aQ 94 2 92 93,ao 95 1 94,aj 96 95,aa 97 11,aa 98 12,((some 99),.op (.build [(.val (.int .i64 0)),(.val (.int .i64 0))] [(0,1,(.tmp 97)),(1,1,(.tmp 98))])),((some 100),.op (.bV 1 2 [(.val (.int .i64 0)),(.val (.int .i64 0))] [(0,(.tmp 99))])),gY 101 2 16 96 100,aQ 102 2 90 91,ao 103 1 102,bU 1 103 101]]),ab [aH 104 .add 48 1,aa 48 104]]
def vS:SC :=
 ae [ae [ab [aa 26 7,aa 27 5,aN 28 27,aV 29 .lss 26 28],bY 29 (.exit 0)],.block 1 (ae [.region true [⟨none,[bg 32 4 1,bg 33 4 1,aa 34 5,aa 35 7,aQ 36 2 34 35,ao 37 0 36,aj 38 37,bz 39 56 [33,38],bz 40 63 [32,39],aa 8 40]⟩],ae [ab [ao 41 0 1,aj 42 41,aN 43 42,ao 44 1 1,aj 45 44,aN 46 45,aV 47 .add 43 46,aS 48 0],b6 2 vz],ab [aa 105 5,aN 106 105,aH 107 .gtr 106 300],bf 107 (ae [ab [df 2 1,aS 3 5],.ret])]),ab [aa 30 7,aH 31 .add 30 1,aa 7 31]]
def zy:SF:=⟨ae [ab [cI 1 0,df 2 1,aS 3 0],ae [ab [bg 14 4 1,bz 15 61 [14],de 16 15],bf 16 (ae [ab [df 2 1,aS 3 1],.ret])],ab [((some 17),.op (.build [(.val (.int .i64 0)),(.val (.int .i64 0))] [(0,1,(.val (.val (.int .i64 (-1)))))])),((some 18),.op (.bV 1 2 [(.val (.int .i64 0)),(.val (.int .i64 0))] [(0,(.tmp 17))])),aa 4 18],ab [aa 19 4,((some 20),.op (.build [(.emp 1),(.emp 1)] [(0,1,(.tmp 19))])),((some 21),.op (.bV 1 2 [(.emp 1),(.emp 1)] [(0,(.tmp 20))])),aa 5 21],ab [((some 22),.op (.pD)),aa 23 4,bz 24 62 [23],(none,.op (.old (.insert 97 (.tmp 22) (.tmp 24) (.const (.int .i64 0))) 0)),aa 25 22,aa 6 25],ae [ab [aS 7 0],b6 0 vS],ab [aa 108 5,aa 2 108,aS 3 0],.ret],
 [.tmp 2,.tmp 3],109⟩
theorem Dc:aR Tryz.prog 24 [1]=some zy:=by kernel_rfl
def W4 (g:ag) (m:Nat) (T:Env) (H:View):Prop:=∃ (at_:Nat) (u:V) (S:List pJ) (out:List aI) (q c:Nat) (M:bQ (List UInt8)),m+at_=302∧out=S.map (fun x=>x.2.2)∧ba H ((u,2,eS S) :: mq S)∧dU g at_ 0 out∧1≤out.length∧out.length≤300∧fM g m at_ out=bR g∧at_≤out.length ∧
 H q=.map (cx iE M) c∧rU g out M∧T 1=.aJ (ai g) 0∧T 5=u∧T 6=.mp q∧T 7=gi at_
theorem EZ (g:ag) (hg:g.Ok) (e8:g.Small):dc Tryz.prog 24 [.agg (ai g)] (.bp [bj (bR g).1,gi (bR g).2]):=by
 refine dc.of (fu g) ?_
 have c9:=Oc g hg e8
 refine aw.of mixed Dc ?_
 simp only[ai,encS] at c9
 simp (disch:=omega)only[↓wr,seval,wq,zy,ai,encS]
 refine ay.pure c9 ?_
 simp (disch:=omega)only[↓wr,seval,wq]
 apply ah.split<;>intro hr
 rotate_left
 ·simp (disch:=omega)only[↓wr,seval,wq]
  intro h' _
  have e:bR g=([],1):=by unfold bR; rw[Xd (by rw[hr]; simp)]
  rw[e]
  exact nR (.emp _)
 have L:g.dD:=pF hr
 have e0:fM g 302 0 dV=bR g:=by unfold bR; rw[Xg hr]
 have hT:=L.af; have hN:=L.ak
 simp (disch:=omega)only[↓wr,seval,wq]
 intro X q2 N q3 da
 have b7:cU g ⟨-1,0⟩:=(oh (g:=g)).bc ⟨[⟨-1,0⟩],[]⟩ (by simp[dV]) |>.2.2 _ (by simp)
 have o0:ba (((View.set (fun _=>c6.dead) X (.arr 2 [[gi (-1),gi 0]])).set q2 (.arr 2 [[.sl X 0 1 2,.emp 1]]))) ((.sl q2 0 1 2,2,eS [(.sl X 0 1 2,.emp 1,⟨[⟨-1,0⟩],[]⟩)]) :: mq [(.sl X 0 1 2,.emp 1,⟨[⟨-1,0⟩],[]⟩)]) :=
  (((ba.nil.emp (k:=1) (sz:=2)).new (n:=X) rfl 2 [[gi (-1),gi 0]]).new (by simpa [View.set] using N) 2 [[.sl X 0 1 2,.emp 1]])
 have o1:=o0.fresh (n:=q3) (by simpa [View.set] using da) (o:=.map [] 0)
 have b0:((((View.set (fun _=>c6.dead) X (.arr 2 [[gi (-1),gi 0]])).set q2 (.arr 2 [[.sl X 0 1 2,.emp 1]])).set q3 (.map [] 0))) q3=.map (cx iE []) 0:=by simp[View.set,cx]
 generalize (((View.set (fun _=>c6.dead) X (.arr 2 [[gi (-1),gi 0]])).set q2 (.arr 2 [[.sl X 0 1 2,.emp 1]])).set q3 (.map [] 0))=H3 at o1 b0 ⊢
 clear o0 N da
 have db:aX H3 (.sl X 0 1 2) 2 (aT [⟨-1,0⟩]):=o1.1 _ (XJ _ (Zf ..))
 refine ay.dZ ((IQ g L [⟨-1,0⟩] (fun x Y=>by simp at Y; subst Y; exact b7) (by simp) (.sl X 0 1 2) H3 db).mono ?_)
 rintro r H4 ⟨rfl,k4⟩
 have cj:H4 q3=.map (cx iE []) 0:=by rw[k4 q3 (by rw[b0]; simp),b0]
 simp (disch:=omega)only[↓wr,seval,wq,Vq]
 refine vQ (kt:=9) (et:=3) (by kernel_rfl) (Ik Tryz.underlying9) (id:=q3) (c:=0) (m:=[]) (k:=gv [⟨-1,0⟩]) (v:=gi 0) (by simp (disch:=omega)only[↓wr,seval,wq]) (by simp (disch:=omega)only[↓wr,seval,wq]) rfl cj ?_
 intro K
 have dj:rU g dV (bF (gv [⟨-1,0⟩]) (gi 0) 0 []):=rU.put (out:=[]) L (fun l _=>by simp[getM,findD]) (fun x Y=>by simp at Y; subst Y; exact b7) (by simp[findD]) 0
 have o2:=(o1.stay k4).wj cj (o:=.map (cx iE (bF (gv [⟨-1,0⟩]) (gi 0) 0 [])) K)
 have ck:(H4.set q3 (.map (cx iE (bF (gv [⟨-1,0⟩]) (gi 0) 0 [])) K)) q3=.map (cx iE (bF (gv [⟨-1,0⟩]) (gi 0) 0 [])) K:=by simp[View.set]
 generalize H4.set q3 (.map (cx iE (bF (gv [⟨-1,0⟩]) (gi 0) 0 [])) K)=H5 at o2 ck ⊢
 clear cj b0 k4 db o1
 clear H4 H3
 simp (disch:=omega)only[↓wr,seval,wq]
 refine aU.intro (W4 g) 302 ⟨0,_,_,dV,q3,K,_,rfl,rfl,o2,oh,Xo _,by simp[dV],e0,by omega,ck,dj,rfl,rfl,rfl,rfl⟩ ?_
 clear o2 ck dj
 clear H5 X q2 q3 K
 rintro m T H ⟨at_,u,S,out,q,c,M,hm,rfl,O,hI,h1,b8,hl,hle,t,F,t1,t5,t6,t7⟩
 have a1:cH u=some S.length:=by rw[O.head.len,cZ]
 simp only[Xj] at h1 b8 hle
 simp (disch:=omega)only[↓wr,seval,wq,vS,t1,t5,t6,t7,a1]
 apply ah.dec<;>intro hc
 rotate_left
 ·simp (disch:=omega)only[↓wr,seval,wq,t5]
  have e1:bR g=(S.map (fun x=>x.2.2),0):=by
   rw[← hl]
   cases m with
   | zero=>rfl
   | succ m=>rw[fM,Xd (by simp; omega)]
  rw[e1]
  rintro h' rfl
  exact nR (Ee O.head fun x Y=>⟨O.1 _ (XJ _ (nV Y).1),O.1 _ (XJ _ (nV Y).2)⟩)
 obtain ⟨m,rfl⟩:∃ q,m=q+1:=⟨m - 1,by omega⟩
 have a6:at_ < S.length:=by omega
 obtain ⟨S1,x,p,rfl,Z,Y⟩:=nB a6
 have cu:x∈S1 ++ x :: p:=by simp
 obtain ⟨dm,fb,a7⟩:=hI.bc x.2.2 (List.mem_map_of_mem cu)
 have ff:=iu L dm a7
 have hh:aX H u 2 (eS (S1 ++ x :: p)):=O.head
 obtain ⟨id,hu,w⟩:=hh.sl (by rw[cZ]; omega)
 have a8:(eS (S1 ++ x :: p)).getD at_ []=[x.1,x.2.1]:=by simp[eS,Xb,← Z]
 have ds:cR g ((List.map (fun x=>x.2.2) (S1 ++ x :: p)).getD at_ aM).bc=cR g x.2.2.bc:=by
  rw[Xb,Xf,Y]; rfl
 have b9:=fun n hn=>dU.row (hI.pb L (show at_ < ((S1 ++ x :: p).map fun x=>x.2.2).length by simpa using a6)).1 (hI.pb L (show at_ < ((S1 ++ x :: p).map fun x=>x.2.2).length by simpa using a6)).2 hI n hn
 rw[fM,Xg (by simpa using a6),BO] at hl
 rw[ds] at hl b9
 have dv:=jt g x.2.2.bc
 have cv:∀ y∈cR g x.2.2.bc,cU g y:=fun y hy=>((dt L a7).1 hy).has a7
 rw[cZ] at hu
 simp (disch:=omega)only[↓wr,seval,wq,t1,t5,t7,hu,w,a8,ai,encS]
 refine ⟨by omega,by rw[cZ]; omega,?_⟩
 refine ay.KE (JV g L x.2.2.bc a7 (by omega) x.1 H (O.1 _ (XJ _ (nV cu).1))) ?_
 intro r H2 or fr
 simp (disch:=omega)only[↓wr,seval,wq,ai,encS]
 have gd:=iu L dv cv
 refine ay.still (RD g L (cR g x.2.2.bc) cv (by omega) r H2 or) (fun r H' h=>by obtain ⟨q,A,_,h⟩:=h; exact h.old) ?_
 rintro r2 H6 ⟨R,A,rfl,C⟩
 have cC:∀ id,H id≠.dead→H6 id=H id:=fun id w=>by rw[C.old id (by rw[(fr id w).1]; exact w),(fr id w).1]
 have ca:H6 q=.map (cx iE M) c:=by rw[cC q (by rw[t]; simp),t]
 have o6:ba H6 ((u,2,eS (S1 ++ x :: p)) :: (mq (S1 ++ x :: p) ++ jm g (cR g x.2.2.bc) (A.filter fun y=>decide (((0:Nat):Int)≤y.1)))):=by
  have hA:A.filter (fun y=>decide (((0:Nat):Int)≤y.1))=A:=List.filter_eq_self.2 fun y hy=>by simpa using (C.ne y hy).1
  rw[hA]
  refine (O.stay cC).join (M:=jm g (cR g x.2.2.bc) A) C.own fun a ha b hb id h1 h2=>?_
  obtain ⟨y,hy,rfl⟩:=Xw.1 hb
  have h3:=C.new y hy id h2
  have h4:=O.live ha h1
  rw[(fr id h4).1] at h3
  exact h4 h3
 obtain ⟨cA,P⟩:=C.mp
 have hAnd:=C.nd
 have fl:R≠q:=by
  rintro rfl
  have:=C.q0
  rw[(fr _ (by rw[t]; simp)).1,t] at this; simp at this
 have bb:∀ k:Nat,(getM A (k:Int)=none→bk g (cR g x.2.2.bc) (aY g k)=[]):=fun k h=>Yj fun an=>getM_none.1 h (C.all k an)
 clear or fr w a8 ds Y cC C t
 generalize cR g x.2.2.bc=cl at *
 generalize D:(S1 ++ x :: p).map (fun x=>x.2.2)=bd at *
 have ea:bd.length=(S1 ++ x :: p).length:=by rw[← D]; simp
 simp (disch:=omega)only[↓wr,seval,wq,t1,t5,t6,t7,ai,encS]
 refine aU.up (g.af.length+g.ak.length) (fun i T H'=>∃ (u:V) (S:List pJ) (M:bQ (List UInt8)) (c:Nat),S.map (fun x=>x.2.2)=(List.range i).foldl (dd g cl at_) bd∧ba H' ((u,2,eS S) :: (mq S ++ jm g cl (A.filter fun y=>decide (((i:Nat):Int)≤y.1)))) ∧
  H' R=.map (cx (Value.int .i64) A) cA∧H' q=.map (cx iE M) c∧rU g (S.map fun x=>x.2.2) M∧T 1=.aJ (ai g) 0∧T 5=u∧T 6=.mp q∧T 7=gi at_∧T 8=.mp R∧T 47=gi ((g.af.length+g.ak.length:Nat):Int)∧T 48=gi i)
  ⟨u,_,M,c,D,o6,P,ca,by rw[D]; exact F,t1,by rw[← hu]; exact t5,t6,t7,rfl,?_,rfl⟩ ?_
 ·push_cast; rfl
 rw[← ea] at h1 b8 hle a6
 clear o6 O hh hu t1 t5 t6 t7 a1 D cu ea hc dm fb a7 ff Z P ca F
 clear u H H2 H6 T id S1 x p M c r
 rintro i k T H' hk ⟨u,S,M,c,hA,O,P,t,F,t1,t5,t6,t7,t8,t47,t48⟩
 obtain ⟨iI,eb,ec⟩:=b9 i (by omega)
 rw[← hA] at iI eb ec
 rw[Xj] at eb ec
 have a1:cH u=some S.length:=by rw[O.head.len,cZ]
 simp (disch:=omega)only[↓wr,seval,wq,vz,t1,t5,t6,t7,t8,t47,t48]
 apply ah.dec<;>intro hc
 rotate_left
 ·have hi:i=g.af.length+g.ak.length:=by omega
  subst hi
  rw[← hA] at hl
  simp (disch:=omega)only[↓wr,seval,wq,t1,t5,t6,t7,a1]
  apply ah.dec<;>intro h3
  ·simp (disch:=omega)only[↓wr,seval,wq]
   intro h' _
   rw[Xg (by rw[Xj]; omega)] at hl
   rw[← hl]
   exact nR (.emp _)
  ·simp (disch:=omega)only[↓wr,seval,wq,t1,t5,t6,t7]
   rw[Xd (by rw[Xj]; omega)] at hl
   exact ⟨m,by omega,at_+1,u,S,_,q,c,M,by omega,rfl,O.sub (List.Sublist.cons_cons _ (List.sublist_append_left _ _)),iI.next,by rw[Xj]; omega,by rw[Xj]; omega,hl,by rw[Xj]; omega,t,F,t1,t5,t6,rfl⟩
 have fm:i < g.af.length+g.ak.length:=by omega
 have gk:=Cw L fm
 have bl:(List.range (i+1)).foldl (dd g cl at_) bd=dd g cl at_ (S.map fun x=>x.2.2) i:=by rw[Ya,XZ,← hA]; rfl
 have ee:aX H' ((getM A (i:Int)).getD (.emp 1)) 2 (aT (bk g cl (aY g i))):=by
  cases hg:getM A (i:Int) with
  | none=>rw[bb i hg]; exact .nil
  | some v =>
   obtain ⟨b,hp⟩:=Hw hAnd hg
   refine O.1 (v,2,aT (bk g cl (aY g i))) (XJ _ (YT _ (Xw.2 ⟨((i:Int),v,b),hp.mem_iff.2 (by simp),?_⟩)))
   simp
 have cc:(jm g cl (A.filter fun y=>decide (((i+1:Nat):Int)≤y.1))).Sublist (jm g cl (A.filter fun y=>decide (((i:Nat):Int)≤y.1))):=by
  have:A.filter (fun y=>decide (((i+1:Nat):Int)≤y.1))=(A.filter (fun y=>decide (((i:Nat):Int)≤y.1))).filter (fun y=>decide (((i+1:Nat):Int)≤y.1)):=by
   rw[List.filter_filter]
   refine List.filter_congr fun y _=>?_
   rw[← Bool.decide_and,decide_eq_decide]; omega
  rw[this]
  exact (List.filter_sublist).map _
 simp (disch:=omega)only[↓wr,seval,wq,t8,t48]
 refine Ar (kt:=3) (et:=27) (z:=.emp 1) (by kernel_rfl) (by kernel_rfl) (lq .i64 Tryz.underlying3) (id:=R) (c:=cA) (m:=A) (k:=(i:Int)) (by simp (disch:=omega)only[↓wr,seval,wq]) (by simp (disch:=omega)only[↓wr,seval,wq]) P ?_
 simp (disch:=omega)only[↓wr,seval,wq]
 refine ay.dZ ((QN (FT (aY g i) dv) (by have:=te (g:=g) (l:=cl) (s:=aY g i); omega) _ H' ee).mono ?_)
 rintro r _ ⟨rfl,or,eg⟩
 have gl:=te (g:=g) (l:=cl) (s:=aY g i)
 have b1:=HA (s:=aY g i) cv
 have fs:cH r=some (bk g cl (aY g i)).length:=by rw[or.len,bM]
 simp (disch:=omega)only[↓wr,seval,wq,fs]
 apply ah.eq<;>intro he
 ·have ei:bk g cl (aY g i)=[]:=YD.1 (by omega)
  simp (disch:=omega)only[↓wr,seval,wq,t1,t5,t6,t7,t8,t47,t48]
  exact aF hk (by omega) ⟨u,S,M,c,by rw[bl,dd,Xg ei],O.sub (List.Sublist.cons_cons _ (cc.append_left _)),P,t,F,t1,t5,t6,t7,t8,t47,rfl⟩
 have an:bk g cl (aY g i)≠[]:=fun e=>he (by rw[e]; rfl)
 have ft:∃ v,getM A (i:Int)=some v:=by
  cases hg:getM A (i:Int) with
  | none=>exact absurd (bb i hg) an
  | some v=>exact ⟨v,rfl⟩
 obtain ⟨v,hg⟩:=ft
 have cN:=eg an
 rw[hg] at cN
 simp only[Xu] at cN
 obtain ⟨b,cS⟩:=Hw hAnd hg
 have b2:(jm g cl (A.filter fun y=>decide (((i:Nat):Int)≤y.1))).Perm ((r,2,aT (bk g cl (aY g i))) :: jm g cl (A.filter fun y=>decide (((i+1:Nat):Int)≤y.1))):=by
  have:=cS.map (fun x:Int × V × Nat=>((x.2.1,2,aT (bk g cl (aY g x.1.toNat))):cw))
  simp only[XF,Xy] at this
  rw[cN]; exact this
 have fx:=xD (S.map fun x=>x.2.2) (bk g cl (aY g i))
 have gr:=tJ (S.map fun x=>x.2.2) (bk g cl (aY g i))
 rw[Xj] at fx
 have b3:=F (bk g cl (aY g i)) b1
 have ek:at_ < S.length:=by omega
 obtain ⟨S1,x,p,G,Z,Y⟩:=nB ek
 have hj:x.2.2.aG.length≤40:=(iI.aG at_ x.2.2 (by rw[Xf,Y]; rfl)).1
 have a8:∀ B,(eS (S1 ++ x :: B)).getD at_ []=[x.1,x.2.1]:=fun B=>by simp[eS,Xb,← Z]
 have en:∀ (B:List pJ) (c:bX),((S1 ++ x :: B).map fun x=>x.2.2).modify at_ (fun s=>(⟨s.bc,s.aG ++ [c]⟩:aI))=(S1 ++ (x.1,x.2.1,(⟨x.2.2.bc,x.2.2.aG ++ [c]⟩:aI)) :: B).map fun x=>x.2.2:=fun B c=>by
  rw[XD,XF,← Z,← Xj (f:=fun x:pJ=>x.2.2),Cn,XD,XF]
 simp (disch:=omega)only[↓wr,seval,wq,t1,t5,t6,t7,t8,ai,encS]
 apply ah.dec<;>intro fz
 simp (disch:=omega)only[↓wr,seval,wq,t1,t5,t6,t7,t8,ai,encS]
 have hs:aY g i=(g.af.length:Int) - 1 - i:=by unfold aY; rw[Xd (by omega)]; omega
 generalize (g.af.length:Int) - 1 - (i:Int)=sv at hs ⊢
 rotate_left
 simp (disch:=omega)only[↓wr,seval,wq,t1,t5,t6,t7,t8,ai,encS]
 have hs:aY g i=(i:Int):=by unfold aY; rw[Xg (by omega)]
 generalize ((i:Nat):Int)=sv at hs ⊢
 all_goals (
  refine ay.dZ ((IQ g L (bk g cl (aY g i)) b1 (by omega) r H' or).mono ?_)
  rintro rk H3 ⟨rfl,k3⟩
  have U:H3 q=.map (cx iE M) c:=by rw[k3 q (by rw[t]; simp),t]
  have bn:H3 R=.map (cx (Value.int .i64) A) cA:=by rw[k3 R (by rw[P]; simp),P]
  have o3:=O.stay k3
  have fB:aX H3 r 2 (aT (bk g cl (aY g i))):=or.keep fun id w=>k3 id (by rw[(or.live w).1]; simp)
  simp (disch:=omega)only[↓wr,seval,wq,t6]
  refine Tc (kt:=9) (et:=3) (z:=gi 0) (by kernel_rfl) (by kernel_rfl) (Ik Tryz.underlying9) (id:=q) (c:=c) (m:=M) (k:=gv (bk g cl (aY g i))) (by simp (disch:=omega)only[↓wr,seval,wq]) (by simp (disch:=omega)only[↓wr,seval,wq]) U ?_
  by_cases I:findD (S.map fun x=>x.2.2) (bk g cl (aY g i)) < 0
  rw[Xg I] at b3
  rw[b3]
  simp only[Option.getD_none,Option.isSome_none]
  simp (disch:=omega)only[↓wr,seval,wq,t1,t5,t6,t7,t8,a1]
  refine ay.dZ ((IQ g L (bk g cl (aY g i)) b1 (by omega) r H3 fB).mono ?_)
  rintro ht H4 ⟨rfl,k4⟩
  have bq:H4 q=.map (cx iE M) c:=by rw[k4 q (by rw[U]; simp),U]
  have cf:H4 R=.map (cx (Value.int .i64) A) cA:=by rw[k4 R (by rw[bn]; simp),bn]
  have o4:=o3.stay k4
  simp (disch:=omega)only[↓wr,seval,wq,t6]
  refine vQ (kt:=9) (et:=3) (by kernel_rfl) (Ik Tryz.underlying9) (id:=q) (c:=c) (m:=M) (k:=gv (bk g cl (aY g i))) (v:=gi S.length) (by simp (disch:=omega)only[↓wr,seval,wq]) (by simp (disch:=omega)only[↓wr,seval,wq]) (by simp (disch:=omega)only[↓wr,seval,wq]) bq ?_
  intro K
  have Q:rU g ((S1 ++ x :: (p ++ [(r,.emp 1,(⟨bk g cl (aY g i),[]⟩:aI))])).map fun x=>x.2.2) (bF (gv (bk g cl (aY g i))) (gi S.length) c M):=by
   have:=rU.put L F b1 I c
   rw[Xj] at this
   refine this.same ?_
   rw[G]; simp
  have J:(H4.set q (.map (cx iE (bF (gv (bk g cl (aY g i))) (gi S.length) c M)) K)) q=.map (cx iE (bF (gv (bk g cl (aY g i))) (gi S.length) c M)) K:=by simp[View.set]
  have W:(H4.set q (.map (cx iE (bF (gv (bk g cl (aY g i))) (gi S.length) c M)) K)) R=.map (cx (Value.int .i64) A) cA:=by
   simp only[View.set]; rw[Xd fl]; exact cf
  have o5:=o4.wj bq (o:=.map (cx iE (bF (gv (bk g cl (aY g i))) (gi S.length) c M)) K)
  generalize H4.set q (.map (cx iE (bF (gv (bk g cl (aY g i))) (gi S.length) c M)) K)=H5 at J W o5 ⊢
  clear bq cf o4 k4
  generalize bF (gv (bk g cl (aY g i))) (gi S.length) c M=M2 at Q J
  simp (disch:=omega)only[↓wr,seval,wq,t1,t5,t6,t7,t8,or.cells,or.iO]
  intro q5 br
  simp (disch:=omega)only[↓wr,seval,wq,bT]
  have aq:∀ b,H5 b≠.dead→b≠q5:=fun b hb e=>hb (by rw[e]; exact br)
  refine cB (o5.fresh br) (by simp[or.iO,Av]) (by unfold aB; rw[cZ]; simp; omega) (by unfold aB; rw[cZ]; simp; omega) ?_
  intro u2 b4 eH cV
  have d:=cV.map (o5.fresh (o:=.arr 2 [[r,.emp 1]]) br).head (b:=q) (c:=K) (es:=cx iE M2) (by simp only[View.set]; rw[Xd (aq q (by rw[J]; simp)),J])
  have E:=cV.map (o5.fresh (o:=.arr 2 [[r,.emp 1]]) br).head (b:=R) (c:=cA) (es:=cx (Value.int .i64) A) (by simp only[View.set]; rw[Xd (aq R (by rw[W]; simp)),W])
  have e3:=(eH.emp (k:=1) (sz:=2)).perm (VR b2)
  have ar:dd g cl at_ (S.map fun x=>x.2.2) i=((S1 ++ x :: (p ++ [(r,.emp 1,(⟨bk g cl (aY g i),[]⟩:aI))])).map fun x=>x.2.2).modify at_ (fun s=>(⟨s.bc,s.aG ++ [⟨aY g i,(S.length:Int)⟩]⟩:aI)):=by
   rw[dd,Xd an,Xg I,Xj]
   congr 1
   rw[G]; simp
  have j:ba b4 ((u2,2,eS (S1 ++ x :: (p ++ [(r,.emp 1,(⟨bk g cl (aY g i),[]⟩:aI))]))) :: (mq (S1 ++ x :: (p ++ [(r,.emp 1,(⟨bk g cl (aY g i),[]⟩:aI))])) ++ jm g cl (A.filter fun y=>decide (((i+1:Nat):Int)≤y.1)))):=by
   have e1:eS (S1 ++ x :: (p ++ [(r,.emp 1,(⟨bk g cl (aY g i),[]⟩:aI))]))=eS S ++ [[r,.emp 1]]:=by rw[G]; simp[eS]
   have e2:mq (S1 ++ x :: (p ++ [(r,.emp 1,(⟨bk g cl (aY g i),[]⟩:aI))]))=mq S ++ [(r,2,aT (bk g cl (aY g i))),(.emp 1,2,[])]:=by rw[G]; simp[mq]; rfl
   rw[e1,e2]
   exact e3
  have c3:(S1 ++ x :: (p ++ [(r,V.emp 1,(⟨bk g cl (aY g i),[]⟩:aI))])).length≤400:=by
   have:=YA List.length G
   simp at this ⊢; omega
  generalize (p ++ [(r,V.emp 1,(⟨bk g cl (aY g i),[]⟩:aI))])=B at ar j Q c3
  generalize (S.length:Int)=to at ar ⊢
  clear eH e3 cV J W o5 aq br
  rotate_left
  rw[Xd I] at b3
  rw[b3]
  simp only[Xu,Option.isSome_some]
  simp (disch:=omega)only[↓wr,seval,wq,t1,t5,t6,t7,t8]
  have ar:dd g cl at_ (S.map fun x=>x.2.2) i=((S1 ++ x :: p).map fun x=>x.2.2).modify at_ (fun s=>(⟨s.bc,s.aG ++ [⟨aY g i,findD (S.map fun x=>x.2.2) (bk g cl (aY g i))⟩]⟩:aI)):=by
   rw[dd,Xd an,Xd I,← G]
  have j:=o3.sub (List.Sublist.cons_cons _ (cc.append_left _))
  have Q:=F
  have c3:(S1 ++ x :: p).length≤400:=by rw[← G]; omega
  have d:=U
  have E:=bn
  generalize H3=b4 at j d E ⊢
  generalize u=u2 at j t5 ⊢
  rw[G] at j Q
  generalize findD (S.map fun x=>x.2.2) (bk g cl (aY g i))=to at ar ⊢
  generalize p=B at ar j Q c3
  generalize M=M2 at d Q
  generalize c=K at d
  all_goals (
   obtain ⟨id,hu,w⟩:=(show aX b4 u2 2 (eS (S1 ++ x :: B)) from j.head).sl (by rw[cZ]; simp; omega)
   rw[cZ] at hu
   rw[Ao] at j
   simp only[XO,XQ] at j
   simp (disch:=omega)only[↓wr,seval,wq,t1,t5,t6,t7,t8,hu,w,a8 B]
   refine ⟨by simp; omega,by rw[cZ]; simp; omega,?_⟩
   intro q2 N
   have aq:∀ b,b4 b≠.dead→b≠q2:=fun b hb e=>hb (by rw[e]; exact N)
   simp (disch:=omega)only[↓wr,seval,wq,bT]
   refine cB ((j.perm GW).fresh N) (by simp[aO]) (by unfold aB; simp[fc]; omega) (by unfold aB; simp[fc]; omega) ?_
   intro e2 e4 b5 e5
   have bs:=e5.map ((j.perm GW).fresh (o:=.arr 2 [[gi sv,gi to]]) N).head (b:=q) (c:=K) (es:=cx iE M2) (by simp only[View.set]; rw[Xd (aq q (by rw[d]; simp)),d])
   have bx:=e5.map ((j.perm GW).fresh (o:=.arr 2 [[gi sv,gi to]]) N).head (b:=R) (c:=cA) (es:=cx (Value.int .i64) A) (by simp only[View.set]; rw[Xd (aq R (by rw[E]; simp)),E])
   have cg:e4 id=.arr 2 (eS (S1 ++ x :: B)):=((b5.own 1 rfl).live (by rw[hu]; rfl)).1
   simp (disch:=omega)only[↓wr,seval,wq,t1,t5,t6,t7,t8,t47,t48,hu,cg,a8 B,b5.head.cells,b5.head.iO]
   have e6:(eS (S1 ++ x :: B)).set at_ [x.1,e2]=eS (S1 ++ (x.1,e2,(⟨x.2.2.bc,x.2.2.aG ++ [⟨aY g i,to⟩]⟩:aI)) :: B):=by
    rw[← Z]; simp[eS]
   have fS:fc (x.2.2.aG ++ [⟨aY g i,to⟩])=fc x.2.2.aG ++ [[gi sv,gi to]]:=by rw[hs]; simp[fc,jq]
   have e7:=b5.perm (.swap _ _ _)
   rw[hu] at e7
   have c5:=((e7.put (es':=eS (S1 ++ (x.1,e2,(⟨x.2.2.bc,x.2.2.aG ++ [⟨aY g i,to⟩]⟩:aI)) :: B)) (by rw[cZ,cZ]; simp) (by rw[cZ])).perm (.swap _ _ _)).perm GW.symm
   rw[← fS] at c5
   rw[← hu] at c5
   rw[e6]
   have ch:∀ b c es,e4 b=.map es c→b≠id:=fun b c es hb e=>by rw[e,cg] at hb; simp at hb
   refine ⟨by simp; omega,by rw[cZ]; simp; omega,aF hk (by omega) ⟨u2,_,M2,K,?_,by rw[Ao]; simp only[XO,XQ]; exact c5,?_,?_,?_,t1,by first | rfl | exact t5 | exact hu.symm,t6,t7,t8,t47,rfl⟩⟩
   ·rw[bl,ar,en]; simp
   ·simp only[View.set]; rw[Xd (ch R _ _ bx)]; exact bx
   ·simp only[View.set]; rw[Xd (ch q _ _ bs)]; exact bs
   ·refine Q.same ?_
    simp))
def mB:SC :=
 ae [ab [aV 73 .lss 72 71],bY 73 (.exit 2),.block 3 (ae [ab [aQ 74 2 70 72,bg 75 2 74,((some 6),.op (.alloc [(.val (.int .i64 0)),(.val (.int .i64 0))])),bU 2 6 75],ab [ao 76 0 6,aj 77 76,aH 78 .geq 77 0],.cond (.tmp 78) (.region true [⟨none,[aa 79 0,ep 80 79,ao 81 8 80,aj 82 81,aa 83 2,aQ 84 1 82 83,aj 85 84,ao 86 0 6,aj 87 86,((some 88),.op (.bV 1 1 [(.val (.int .i64 0))] [(0,(.tmp 87))])),bz 89 120 [88],aV 90 .or 85 89,aQ 91 1 82 83,bU 1 91 90]⟩]) (ae [ab [aa 92 0,ep 93 92,ao 94 5 93,aj 95 94,ao 96 0 6,aj 97 96,((some 98),.op (.arith .sub (.val (.val (.int .i64 (-1)))) (.tmp 97))),aQ 99 1 95 98,aj 100 99],bf 100 (.nT [(103,112)] [⟨none,[aa 101 0,ep 102 101,ao 103 9 102,aj 104 103,aa 105 2,aa 106 0,ep 107 106,ao 108 9 107,aj 109 108,aa 110 2,aQ 111 1 109 110,aj 112 111,aa 113 0,ep 114 113,ao 115 6 114,aj 116 115,aa 117 4,ao 118 0 6,aj 119 118,((some 120),.op (.arith .sub (.val (.val (.int .i64 (-1)))) (.tmp 119))),((some 121),.op (.build [(.val (.int .i64 0)),(.val (.int .i64 0))] [(0,1,(.tmp 117)),(1,1,(.tmp 120))])),((some 122),.op (.old (.lookup 110 (.tmp 116) (.tmp 121) false) 3)),((some 123),.op (.bV 1 1 [(.val (.int .i64 0))] [(0,(.tmp 122))])),gY 124 1 8 112 123,aQ 125 1 104 105,bU 1 125 124]⟩])])]),ab [aH 126 .add 72 1,aa 72 126]]
def si:SC :=
 ae [ab [aV 22 .lss 21 20],bY 22 (.exit 0),.block 1 (ae [ab [aa 23 21,aQ 24 2 19 21,bg 25 2 24,((some 3),.op (.alloc [(.val (.int .i64 0)),(.val (.int .i64 0))])),aa 2 23,bU 2 3 25],ab [aa 26 0,ao 27 0 3,aj 28 27,ao 29 1 3,aj 30 29,((some 31),.op (.arith .sub (.val (.val (.int .i64 (-1)))) (.tmp 30))),bz 32 119 [26,28,31],aa 4 32],ae [.region false [⟨none,[ao 33 0 3,aj 34 33,aH 35 .eql 34 0,aa 36 35]⟩,⟨(some (36,true)),[ao 37 1 3,aj 38 37,aa 39 0,ep 40 39,ao 41 0 40,ao 42 3 41,aj 43 42,aV 44 .eql 38 43]⟩,⟨none,[eJ 45 36 44]⟩],bf 45 (.region true [⟨none,[aa 46 0,ep 47 46,ao 48 8 47,aj 49 48,aa 50 2,aQ 51 1 49 50,aj 52 51,aa 53 0,ep 54 53,ao 55 0 54,ao 56 0 55,aj 57 56,aN 58 57,((some 59),.op (.bV 1 1 [(.val (.int .i64 0))] [(0,(.tmp 58))])),bz 60 120 [59],aV 61 .or 52 60,aQ 62 1 49 50,bU 1 62 61]⟩])],ab [aa 63 0,ep 64 63,ao 65 4 64,aj 66 65,aa 67 4,aQ 68 2 66 67,ao 69 1 68,aj 70 69,aN 71 70,aS 72 0],b6 2 mB]),ab [aH 127 .add 21 1,aa 21 127]]
def uy:SF:=⟨ae [ab [aa 7 0,aa 8 0,ep 9 8,ao 10 7 9,aj 11 10,aN 12 11,((some 13),.op (.make 1 24 [(.emp 1)] (.tmp 12) (.tmp 12))),ep 14 7,ao 15 9 14,bU 1 15 13],ae [ab [aa 16 0,ep 17 16,ao 18 7 17,aj 19 18,aN 20 19,aS 21 0],b6 0 si],ab [aa 128 0,bz 129 75 [128]]],
 [],130⟩
theorem zI:aR Tryz.prog 73 [100000]=some uy:=by kernel_rfl
theorem Tq {α:Type} {a b c d r:α} {X Y:List α} : (a :: b :: c :: d :: (X ++ r :: Y)).Perm (r :: d :: a :: b :: c :: (X ++ Y)) :=
 (XT (l₁:=a :: b :: c :: d :: X) (a:=r) (l₂:=Y)).trans (.cons _ (XT (l₁:=[a,b,c]) (a:=d) (l₂:=X ++ Y)))
section
variable {g:ag} {a:List aI} {H:View} {W qn cM:Nat} {M:bQ (Int × Int)} {uw:V} {s e:Nat} {ws:List (Int × Int)} {Sl:List BV} {A:List (V × List Nat)} {L:List cw}
theorem cX.stay (h:cX g a H W qn cM M uw s e ws Sl A L) {H':View} (b:∀ id,H id≠.dead→H' id=H id):cX g a H' W qn cM M uw s e ws Sl A L :=
 ⟨h.own.stay b,by rw[b qn (by rw[h.mp]; simp)]; exact h.mp,h.bo,h.num,h.sl,h.al⟩
theorem cX.fresh (h:cX g a H W qn cM M uw s e ws Sl A L) {q:Nat} (hq:H q=.dead) {o:c6} : cX g a (H.set q o) W qn cM M uw s e ws Sl A L :=
 h.stay fun id b=>by simp only[View.set]; rw[Xd (fun e=>b (by rw[e]; exact hq))]
theorem cX.at (h:cX g a H W qn cM M uw s e ws Sl A L) (f:1≤ws.length):H W=.arr 10 [[.aE (g.af.map bW),.aE (g.ak.map fun s=>[gs s]),.aE (g.rules.map aP),gi g.start,bj a,bO (au g false),.mp qn,uw,.sl s 0 ws.length 1,.sl e 0 ws.length 1]] ∧
  (∃ w,uw=.sl w 0 ws.length 2∧H w=.arr 2 (ng ws))∧H s=.arr 1 (dL Sl)∧H e=.arr 1 (bm A)∧W≠s∧W≠e∧s≠e:=by
 have b:=h.sl
 have c:=h.al
 refine ⟨h.own.is 0 rfl (by simp),?_,h.own.is 2 rfl (by simp; omega),h.own.is 3 rfl (by simp[bm]; omega),h.own.FD 0 2 rfl rfl (by decide),h.own.FD 0 3 rfl rfl (by decide),h.own.FD 2 3 rfl rfl (by decide)⟩
 obtain ⟨w,h1,d⟩:=(h.own.own 1 rfl).sl (by simp; omega)
 exact ⟨w,by rw[h1,Xj],d⟩
theorem cX.Ac (h:cX g a H W qn cM M uw s e ws Sl A L) {Sl':List BV} (hl:Sl'.length=ws.length):cX g a (H.set s (.arr 1 (dL Sl'))) W qn cM M uw s e ws Sl' A L:=by
 have p:∀ x y z:cw,∀ L:List cw,(x :: y :: z :: L).Perm (z :: x :: y :: L):=fun x y z L=>XT (l₁:=[x,y]) (a:=z) (l₂:=L)
 refine ⟨((h.own.perm (p _ _ _ _)).put (es':=dL Sl') (by simp[hl,h.sl]) (by simp[h.sl])).perm (p _ _ _ _).symm,?_,h.bo,h.num,hl,h.al⟩
 have:=h.own.AF h.mp (.sl s 0 ws.length 1,1,dL Sl) (by simp)
 simp only[View.set]; rw[Xd (fun e=>this (by rw[e]; rfl))]; exact h.mp
theorem cX.row (h:cX g a H W qn cM M uw s e ws Sl A L) {b c:List (V × List Nat)} {u:V} {l:List Nat} (d:A=b ++ (u,l) :: c):ba H ((u,1,fF l) :: (.sl e 0 ws.length 1,1,bm A) :: (.sl W 0 1 10,10,[[.aE (g.af.map bW),.aE (g.ak.map fun s=>[gs s]),.aE (g.rules.map aP),gi g.start,bj a,bO (au g false),.mp qn,uw,.sl s 0 ws.length 1,.sl e 0 ws.length 1]]) :: (uw,2,ng ws) :: (.sl s 0 ws.length 1,1,dL Sl) :: (jb b ++ (jb c ++ L))):=by
 have h1:=h.own
 rw[show jb A ++ L=jb b ++ (u,1,fF l) :: (jb c ++ L) by rw[d]; simp[jb]] at h1
 exact h1.perm Tq
theorem cX.UN (h:cX g a H W qn cM M uw s e ws Sl A L) {b c:List (V × List Nat)} {u d:V} {l l':List Nat} (j:A=b ++ (u,l) :: c) {H':View} {es:List (List V)} (i:es=fF l')
  (k:ba H' ((d,1,es) :: (.sl e 0 ws.length 1,1,bm A) :: (.sl W 0 1 10,10,[[.aE (g.af.map bW),.aE (g.ak.map fun s=>[gs s]),.aE (g.rules.map aP),gi g.start,bj a,bO (au g false),.mp qn,uw,.sl s 0 ws.length 1,.sl e 0 ws.length 1]]) :: (uw,2,ng ws) :: (.sl s 0 ws.length 1,1,dL Sl) :: (jb b ++ (jb c ++ L))))
  (hm:H' qn=.map (bH eR M) cM):cX g a (H'.set e (.arr 1 (bm (b ++ (d,l') :: c)))) W qn cM M uw s e ws Sl (b ++ (d,l') :: c) L:=by
 have f:=h.al
 have h1:=((k.perm (.swap _ _ _)).put (es':=bm (b ++ (d,l') :: c)) (by rw[j]; simp[bm]) (by rw[bm,Xj,f])).perm (.swap _ _ _)
 rw[i] at h1
 refine ⟨?_,?_,h.bo,h.num,h.sl,by rw[← f,j]; simp⟩
 ·rw[show jb (b ++ (d,l') :: c) ++ L=jb b ++ (d,1,fF l') :: (jb c ++ L) by simp[jb]]
  exact h1.perm Tq.symm
 ·have:=k.AF hm (.sl e 0 ws.length 1,1,bm A) (by simp)
  simp only[View.set]; rw[Xd (fun e=>this (by rw[e]; rfl))]; exact hm
theorem cX.Td (h:cX g a H W qn cM M uw s e ws Sl A L) {b:Nat} (hq:H b=.dead):cX g a ((H.set b (.arr 1 (List.replicate ws.length [.emp 1]))).set W (.arr 10 [[.aE (g.af.map bW),.aE (g.ak.map fun s=>[gs s]),.aE (g.rules.map aP),gi g.start,bj a,bO (au g false),.mp qn,uw,.sl s 0 ws.length 1,.sl b 0 ws.length 1]])) W qn cM M uw s b ws Sl (List.replicate ws.length (.emp 1,[])) L:=by
 have h1:ba H ((.sl W 0 1 10,10,[[.aE (g.af.map bW),.aE (g.ak.map fun s=>[gs s]),.aE (g.rules.map aP),gi g.start,bj a,bO (au g false),.mp qn,uw,.sl s 0 ws.length 1,.sl e 0 ws.length 1]]) :: (uw,2,ng ws) :: (.sl s 0 ws.length 1,1,dL Sl) :: L) :=
  h.own.sub (.cons_cons _ (.cons_cons _ (.cons_cons _ (.cons _ (List.sublist_append_right _ _)))))
 have i:=h1.new hq 1 (List.replicate ws.length [V.emp 1])
 have j:=(i.perm (.swap _ _ _)).put (es':=[[.aE (g.af.map bW),.aE (g.ak.map fun s=>[gs s]),.aE (g.rules.map aP),gi g.start,bj a,bO (au g false),.mp qn,uw,.sl s 0 ws.length 1,.sl b 0 ws.length 1]]) rfl rfl
 have f:=((j.perm (.cons _ (XT (l₁:=[_,_]) (l₂:=L)).symm)).Sc ws.length).perm (.cons _ (.cons _ (.cons _ (.cons _ List.perm_append_comm))))
 have c:List.replicate ws.length [V.emp 1]=bm (List.replicate ws.length ((V.emp 1,[]):V × List Nat)):=by simp[bm]
 rw[Ym] at f
 refine ⟨?_,?_,h.bo,h.num,h.sl,by simp⟩
 ·rw[← c]; exact f
 ·have d:=h.own.AF h.mp _ (Zf ..)
  simp only[View.set]
  rw[Xd (fun e=>d (by rw[e]; rfl)),Xd (fun e=>by have:=h.mp; rw[e,hq] at this; simp at this)]
  exact h.mp
theorem FK {A:List (V × List Nat)} {x:Nat} (a:x < A.length):((A.getD x (.any,[])).1,1,fF (A.getD x (.any,[])).2)∈jb A:=by
 have h:A[x]?=some (A.getD x (.any,[])):=getD_some a
 exact Xw.2 ⟨_,Xi h,rfl⟩
theorem cX.U7 (h:cX g a H W qn cM M uw s e ws Sl A L) (i:1≤ws.length) {E:Nat→List Nat} (hE:∀ x,x < ws.length→(A.getD x (.any,[])).2=E x) (c:∀ x,x < ws.length→(E x).length≤1000000000∧∀ y∈E x,y < ws.length) :
  UE ws.length E H W s e (A.map (·.1)) (.aE (g.af.map bW),.aE (g.ak.map fun s=>[gs s]),.aE (g.rules.map aP),gi g.start,bj a,bO (au g false),.mp qn,uw):=by
 obtain ⟨hW,⟨w,d,hw⟩,hs,he,n1,k,j⟩:=h.at i
 have f:=h.al
 have hu:∀ x,x < ws.length→(A.map (·.1)).getD x .any=(A.getD x (.any,[])).1:=fun x b=>by
  simp[Xb,Xc (show x < A.length by omega)]
 refine ⟨hW,by rw[he]; simp[bm],by simpa using f,fun x b=>?_,c,by rw[d]; rfl,n1,Ne.symm j,fun x b=>?_⟩
 ·rw[hu x b,← hE x b]
  exact h.own.1 _ (by simp only[Xs]; exact .inr (.inr (.inr (.inr (YR _ (FK (x:=x) (by omega)))))))
 ·rw[hu x b]
  have p:∀ x y z:cw,∀ L:List cw,(x :: y :: z :: L).Perm (z :: x :: y :: L):=fun x y z L=>XT (l₁:=[x,y]) (a:=z) (l₂:=L)
  exact (h.own.perm (p _ _ _ _)).off rfl _ (by simp only[Xs]; exact .inr (.inr (.inr (YR _ (FK (x:=x) (by omega))))))
end
def OF (n:Nat) (Sl:List BV) (A:List (V × List Nat)) (fS:Nat→BV) (fA:Nat→List Nat):Prop:=∀ y,y < n→Sl.getD y 0=fS y∧(A.getD y (.any,[])).2=fA y
theorem BD {α:Type} {l r:List α} {x y d:α} {z:Nat} (h:z≠l.length):(l ++ x :: r).getD z d=(l ++ y :: r).getD z d:=by
 simp only[Xb]
 rcases XB z l.length with q | q
 ·rw[XA q,XA q]
 ·rw[XP q,XP q]
  obtain ⟨k,hk⟩:∃ k,z - l.length=k+1:=⟨z - l.length - 1,by omega⟩
  rw[hk,XX,XX]
theorem Cs (b:BV) (l:List bX) (e:bX):pj b (l ++ [e])=if 0≤e.sym then pj b l ||| fG e.sym else pj b l:=by
 unfold pj; rw[XZ]; rfl
theorem Ga (g:ag) (ws:List (Int × Int)) (q:Nat) (l:List bX) (e:bX):tA g ws q (l ++ [e])=if e.sym < 0∧(au g false).getD (-1 - e.sym).toNat false=true then tA g ws q l ++ [vq ws ((q:Int),-1 - e.sym)] else tA g ws q l:=by
 unfold tA
 rw[YG,XD]
 by_cases h:e.sym < 0∧(au g false).getD (-1 - e.sym).toNat false=true
 ·rw[Xg h,List.filter_cons_of_pos (by simp only[h.1,h.2]; rfl)]; simp
 ·rw[Xd h]
  have:(decide (e.sym < 0) && (au g false).getD (-1 - e.sym).toNat false)=false:=by
   rw[Bool.eq_false_iff]; simpa using h
  rw[List.filter_cons_of_neg (by simp only[this]; simp)]
  simp
theorem xI {g:ag} {a:List aI} (B:bZ g a) (bn:bG g=true) (ha:a.length≤300) {W qn cM:Nat} {M:bQ (Int × Int)} {uw:V} {s e2:Nat} {i q:Nat} (hi:i < (aZ a).length) (hq:q < a.length) (S0:BV) (fS:Nat→BV) (fA:Nat→List Nat) {T:Env} {H:View} {Q:Exit→Env→View→Prop} {v:cD (T,H,Q)}
  (hJ:∃ (Sl:List BV) (A:List (V × List Nat)),cX g a H W qn cM M uw s e2 (aZ a) Sl A []∧OF (aZ a).length Sl A (fun y=>if y=i then S0 else fS y) (fun y=>if y=i then [] else fA y))
  (ht:T 0=.ptr W 0 0∧T 2=gi i∧T 4=gi q∧T 19=uw∧T 20=gi (aZ a).length∧T 21=gi i∧T 70=.aE (fc (a.getD q aM).aG)∧T 71=gi (a.getD q aM).aG.length∧T 72=gi 0)
  (hQ:∀ (R:Env) (H':View),(∃ (Sl:List BV) (A:List (V × List Nat)),cX g a H' W qn cM M uw s e2 (aZ a) Sl A []∧OF (aZ a).length Sl A (fun y=>if y=i then pj S0 (a.getD q aM).aG else fS y) (fun y=>if y=i then tA g (aZ a) q (a.getD q aM).aG else fA y)) →
   R 0=.ptr W 0 0→R 19=uw→R 20=gi (aZ a).length→R 21=gi i→Q (.exit 2) R H'):aU Tryz.prog mB T H Q v:=by
 have S:=qo B
 have ca:(aZ a).length≤40 * a.length:=lY B.ok.aG a.length
 have U:=Xi (getD_some (d:=aM) hq)
 have cc:=B.ok.aG _ U
 have bq:=B.ok.sym _ U
 have X:∀ e∈(a.getD q aM).aG,dT a q e.sym:=fun e he=>⟨e,he,rfl⟩
 have Y:∀ e∈(a.getD q aM).aG,gu g e.sym=true:=fun e he=>by
  obtain ⟨y,hy,hn⟩:=(B.lJ hq).1 (X e he)
  exact nr B.cF (B.has hq hy) hn
 generalize a.getD q aM=Z at *
 obtain ⟨br,A0,an,G⟩:=hJ
 obtain ⟨t0,t2,t4,t19,t20,t21,t70,t71,t72⟩:=ht
 refine aU.up Z.aG.length (fun j T H'=>∃ (Sl:List BV) (A:List (V × List Nat)),cX g a H' W qn cM M uw s e2 (aZ a) Sl A []∧OF (aZ a).length Sl A (fun y=>if y=i then pj S0 (Z.aG.take j) else fS y) (fun y=>if y=i then tA g (aZ a) q (Z.aG.take j) else fA y) ∧
  T 0=.ptr W 0 0∧T 2=gi i∧T 4=gi q∧T 19=uw∧T 20=gi (aZ a).length∧T 21=gi i∧T 70=.aE (fc Z.aG)∧T 71=gi Z.aG.length∧T 72=gi j) ⟨br,A0,an,by simpa [pj,tA] using G,t0,t2,t4,t19,t20,t21,t70,t71,t72⟩ ?_
 clear an G t0 t2 t4 t19 t20 t21 t70 t71 t72
 rintro j k T H1 hk ⟨Sl,A,hI,t,t0,t2,t4,t19,t20,t21,t70,t71,t72⟩
 simp (disch:=omega)only[↓wr,seval,wq,mB,t0,t2,t4,t70,t71,t72]
 apply ah.dec<;>intro hc
 rotate_left
 ·simp (disch:=omega)only[↓wr,seval,wq]
  rw[Xv (by omega)] at t
  exact hQ _ _ ⟨Sl,A,hI,t⟩ t0 t19 t20 t21
 have hy:Z.aG[j]?=some (Z.aG[j]'(by omega)):=Xc (by omega)
 have C:=Xm (show j < Z.aG.length by omega)
 have D:Z.aG.take (j+1)=Z.aG.take j ++ [Z.aG[j]'(by omega)]:=by rw[XH,hy]; rfl
 generalize Z.aG[j]'(by omega)=y at hy C D
 have cf:=bq y C
 have bs:=X y C
 have aq:=qC (Y y C)
 have hT:=B.cF.af
 have hN:=B.cF.ak
 have E:=t i hi
 simp only[if_true] at E
 simp (disch:=omega)only[↓wr,seval,wq,t0,t2,t4,t70,t71,t72,fc,Xf,hy,Xk,jq]
 intro q6 ar
 have f:=hI.fresh ar (o:=.arr 2 [[gi y.sym,gi y.to]])
 have r:(H1.set q6 (.arr 2 [[gi y.sym,gi y.to]])) q6=.arr 2 [[gi y.sym,gi y.to]]:=by simp[View.set]
 rw[set_set]
 generalize H1.set q6 (.arr 2 [[gi y.sym,gi y.to]])=H6 at f r ⊢
 clear hI ar
 obtain ⟨hW,⟨w2,b9,hw⟩,hs,he,n1,n2,n3⟩:=f.at S
 have bx:=f.sl
 have a1:=pz (l:=Sl) (i:=i) (by omega)
 apply ah.dec<;>intro h0
 ·simp (disch:=omega)only[↓wr,seval,wq,t0,t2,hW,hs,a1,r]
  refine ⟨hi,by omega,fun q7 b0=>?_⟩
  refine ay.Bx (Fx y.sym) (by kernel_rfl) (.val _) ⟨eO.Sh (l:=[y.sym]) (.inr ⟨q7,rfl,by simp[View.set]⟩),trivial⟩ ?_
  have I:=f.fresh b0 (o:=.arr 1 [[gi y.sym]])
  generalize H6.set q7 (.arr 1 [[V.val (.int .i64 y.sym)]])=H7 at I ⊢
  obtain ⟨-,-,b1,-⟩:=I.at S
  have e1:(dL Sl).set i [gw (sF Sl i ||| fG y.sym)]=dL (Sl.set i (sF Sl i ||| fG y.sym)):=by simp[YL]
  simp (disch:=omega)only[↓wr,seval,wq,t0,t2,t4,t19,t20,t21,t70,t71,t72,b1,a1,e1,Ec]
  refine ⟨hi,by omega,?_⟩
  refine aF hk (by omega) ⟨Sl.set i (sF Sl i ||| fG y.sym),A,I.Ac (by simp[bx]),fun z J=>?_,t0,t2,t4,t19,t20,t21,t70,t71,by first | rfl | (congr 2)⟩
  have n:=t z J
  rw[D,Cs,Ga,Xg h0,Xd (fun h=>by omega),fj]
  refine ⟨?_,n.2⟩
  by_cases e:z=i
  ·subst e
   rw[Xg ⟨rfl,by omega⟩]
   simp only[if_true]
   rw[sF,E.1]
  ·rw[Xd (fun h=>e h.1.symm)]
   simp only[Xd e] at n ⊢
   exact n.1
 ·have a6:(-1 - y.sym).toNat < (au g false).length:=by
   rw[gT bn]
   unfold kb at aq
   rw[Xg (by omega)] at aq
   omega
  have a7:(au g false)[(-1 - y.sym).toNat]?=some ((au g false).getD (-1 - y.sym).toNat false):=getD_some a6
  have p:=Ga g (aZ a) q (Z.aG.take j) y
  rw[← D] at p
  have K:=Cs S0 (Z.aG.take j) y
  rw[← D,Xd h0] at K
  generalize hb:(au g false).getD (-1 - y.sym).toNat false=b at a7 p
  simp (disch:=omega)only[↓wr,seval,wq,t0,hW,r,bO,Xf,a7,Xk]
  apply ah.split<;>intro L
  rotate_left
  ·simp (disch:=omega)only[↓wr,seval,wq,t0,t2,t4,t19,t20,t21,t70,t71,t72]
   rw[L,Xd (by simp)] at p
   exact aF hk (by omega) ⟨Sl,A,f,fun z J=>by rw[K,p]; exact t z J,t0,t2,t4,t19,t20,t21,t70,t71,by first | rfl | (congr 2)⟩
  rw[L,Xg ⟨by omega,rfl⟩] at p
  have b2:=f.al
  obtain ⟨O,⟨u,l⟩,P,rfl,w,_⟩:=nB (l:=A) (i:=i) (by omega)
  have x:=f.row rfl
  have a8:(bm (O ++ (u,l) :: P)).getD i []=[u]:=by rw[← w]; simp[bm]
  have bb:((O ++ (u,l) :: P).getD i (V.any,([]:List Nat))).2=l:=by rw[← w]; simp
  have b3:(bm (O ++ (u,l) :: P)).length=(aZ a).length:=by rw[bm,Xj]; exact b2
  have N:(aZ a)[vq (aZ a) ((q:Int),-1 - y.sym)]?=some ((q:Int),-1 - y.sym):=km (du.2 ⟨by omega,by rw[show -1 - (-1 - y.sym)=y.sym by omega]; exact bs⟩)
  have bd:=f.num _ _ N
  have bl:=(Xq.1 N).1
  generalize vq (aZ a) ((q:Int),-1 - y.sym)=kn at N bd bl p
  simp (disch:=omega)only[↓wr,seval,wq,t0,t2,t4,hW,he,a8,r]
  refine ⟨hi,by omega,?_⟩
  have b4:dA Tryz.prog 110=some (116,3):=by kernel_rfl
  have J:zeroV Tryz.prog 3=some (gi 0):=by kernel_rfl
  refine GP (kv:=eR) (kt:=116) (et:=3) (z:=gi 0) (id:=qn) (c:=cM) (m:=M) (k:=((q:Int),-1 - y.sym)) b4 J (AL xK) (by first | rfl | simp (disch:=omega)only[↓wr,seval,wq]) (by first | rfl | (simp (disch:=omega)only[↓wr,seval,wq]; rfl)) f.mp ?_
  rw[bd,Xu]
  have cg:l.length≤40:=by
   rw[← bb,E.2]
   unfold tA
   rw[Xj]
   have h1:=X9 (fun e=>decide (e.sym < 0) && (au g false).getD (-1 - e.sym).toNat false) (Z.aG.take j)
   rw[X0] at h1
   omega
  simp (disch:=omega)only[↓wr,seval,wq]
  intro q8 F
  simp (disch:=omega)only[↓wr,seval,wq,bT]
  refine cB (x.fresh F) (by simp[aO]) (by unfold aB; simp; omega) (by unfold aB; simp; omega) ?_
  intro u2 H8 o8 l8
  have b5:=o8.is 1 rfl (by rw[b3]; omega)
  have b7:=l8.map (x.fresh F).head (b:=qn) (c:=cM) (es:=bH eR M) (by
   have:=f.mp
   simp only[View.set]; rw[Xd (fun e=>by rw[← e,this] at F; simp at F)]; exact this)
  have b8:(bm (O ++ (u,l) :: P)).set i [u2]=bm (O ++ (u2,l ++ [kn]) :: P):=by rw[← w]; simp[bm]
  simp (disch:=omega)only[↓wr,seval,wq,t0,t2,t4,t19,t20,t21,t70,t71,t72,b5,a8,o8.head.cells,o8.head.iO,b8]
  refine ⟨hi,by omega,?_,?_⟩
  ·rcases x.head with ⟨_,kk,h⟩ | ⟨m,h,hm⟩
   ·rw[show u=.emp kk from h,w7]; trivial
   ·rw[show u=.sl m 0 _ 1 from h,AK]
    intro e
    rw[← e,hW] at hm; simp at hm
  ·refine aF hk (by omega) ⟨Sl,O ++ (u2,l ++ [kn]) :: P,f.UN rfl (l':=l ++ [kn]) (es:=fF l ++ [[gi (kn:Int)]]) (by simp) o8 b7,fun z J=>?_,t0,t2,t4,t19,t20,t21,t70,t71,by first | rfl | (congr 2)⟩
   have n:=t z J
   rw[K,p]
   refine ⟨n.1,?_⟩
   by_cases e:z=i
   ·subst e
    simp only[if_true]
    rw[← E.2,bb,← w]
    simp
   ·rw[BD (y:=(u,l)) (by rw[w]; exact e)]
    simp only[Xd e] at n ⊢
    exact n.2
theorem lV.congr {n:Nat} {E:Nat→List Nat} {S S':Nat→BV} (hE:∀ x,x < n→∀ y∈E x,y < n) (c:∀ x,x < n→S x=S' x) {z t:Nat} (a:z < n):lV E S z t↔lV E S' z t:=by
 have key:∀ {z w:Nat},jv E z w→z < n→w < n:=by
  intro z w h
  induction h with
  | refl=>exact id
  | step h1 _ d=>exact fun a=>d (hE _ a _ h1)
 constructor
 ·rintro ⟨w,h1,b⟩
  exact ⟨w,h1,by rw[← c w (key h1 a)]; exact b⟩
 ·rintro ⟨w,h1,b⟩
  exact ⟨w,h1,by rw[c w (key h1 a)]; exact b⟩
theorem Q9 {g:ag} {a:List aI} (h:∀ s∈a,s.aG.length≤40) (x:Int × Int):(nu g a x).length≤40:=by
 unfold nu tA
 rw[Xj]
 refine X7 (X9 _ _) ?_
 generalize eu a x.1.toNat (-1 - x.2)=q
 rcases XB q a.length with k | k
 ·exact h _ (Xi (getD_some k))
 ·rw[Xb,XL k]; simp[aM]
theorem TN {g:ag} {a:List aI} (f:bZ g a) (aq:bG g=true) (ha:a.length≤300) {H:View} {W qn cM:Nat} {M:bQ (Int × Int)} {uw:V} {s e:Nat} (R:cX g a H W qn cM M uw s e (aZ a) (List.replicate (aZ a).length 0) (List.replicate (aZ a).length (.emp 1,[])) []) :
  aw Tryz.prog 73 [.ptr W 0 0] H fun _ H'=>∃ (e':Nat) (Sl:List BV) (A:List (V × List Nat)),cX g a H' W qn cM M uw s e' (aZ a) Sl A []∧∀ (x p t:Nat) (B:Int),(aZ a)[x]?=some ((p:Int),B)→((sF Sl x).getLsbD t=true↔oE g a p B t):=by
 refine aw.of mixed zI ?_
 have d:=qo f
 have ch:(aZ a).length≤40 * a.length:=lY f.ok.aG a.length
 obtain ⟨hW,⟨w,ar,hw⟩,hs,he,n1,n2,n3⟩:=R.at d
 have bn:cH uw=some (aZ a).length:=by rw[ar]; rfl
 have bq:∀ q,H q=.dead→W≠q:=fun q hq e=>by rw[e,hq] at hW; simp at hW
 simp (disch:=omega)only[↓wr,seval,wq,uy,hW,bn]
 refine ⟨⟨by omega,by unfold aB; omega,by unfold aB; omega⟩,fun h0=>by omega,fun _ e2 a1=>?_⟩
 have w1:=bq e2 a1
 simp (disch:=omega)only[↓wr,seval,wq,w1,bn]
 have a6:=R.Td a1
 generalize ((H.set e2 (.arr 1 (List.replicate (aZ a).length [V.emp 1]))).set W (.arr 10 [[V.aE (g.af.map bW),.aE (g.ak.map fun s=>[gs s]),.aE (g.rules.map aP),gi g.start,bj a,bO (au g false),.mp qn,uw,.sl s 0 (aZ a).length 1,.sl e2 0 (aZ a).length 1]]))=H2 at a6 ⊢
 refine aU.up (aZ a).length (fun i T H'=>∃ (Sl:List BV) (A:List (V × List Nat)),cX g a H' W qn cM M uw s e2 (aZ a) Sl A []∧OF (aZ a).length Sl A (fun y=>if y < i then rV g a (dw a y) else 0) (fun y=>if y < i then nu g a (dw a y) else [])∧T 0=.ptr W 0 0∧T 19=uw∧T 20=gi (aZ a).length∧T 21=gi i)
  ⟨_,_,a6,fun y hy=>by simp[Xb,hy],rfl,rfl,rfl,rfl⟩ ?_
 clear a6 R a1 hW hw hs he n1 n2 n3 bq w1
 rintro i k T H' hk ⟨Sl,A,R,v,t0,t19,t20,t21⟩
 obtain ⟨hW,⟨w',C,hw⟩,hs,he,n1,n2,n3⟩:=R.at d
 have b4:w'=w:=by rw[ar] at C; simp only[V.sl.injEq] at C; exact C.1.symm
 subst b4
 simp (disch:=omega)only[↓wr,seval,wq,si,t0,t19,t20,t21]
 apply ah.dec<;>intro hc
 rotate_left
 ·have hi:i=(aZ a).length:=by omega
  subst hi
  have Z:OF (aZ a).length Sl A (fun y=>rV g a (dw a y)) (fun y=>nu g a (dw a y)):=fun y hy=>by
   have:=v y hy
   simpa only [hy,if_true] using this
  have b5:=R.U7 d (E:=fun y=>nu g a (dw a y)) (fun x m=>(Z x m).2) (fun x m=>⟨X7 (Q9 f.ok.aG _) (by omega),LO f m⟩)
  simp (disch:=omega)only[↓wr,seval,wq,t0]
  refine ay.dZ ((FA b5 d (by omega) Sl hs R.sl).mono ?_)
  rintro r H5 ⟨Sl',k1,k2,k3,k4⟩
  simp (disch:=omega)only[↓wr,seval,wq]
  have D:=(R.Ac (Sl':=Sl') k1).stay (H':=H5) fun id a7=>by
   simp only[View.set] at a7 ⊢
   by_cases e:id=s
   ·rw[Xg e,e]; exact k2
   ·rw[Xd e] at a7 ⊢
    exact k4 id a7 e
  refine ⟨e2,Sl',A,D,fun x p t B m=>?_⟩
  have br:=(Xq.1 m).1
  rw[k3 x t br,lV.congr (S:=sF Sl) (fun x m=>LO f m) (S':=fun y=>rV g a (dw a y)) (fun z n=>(Z z n).1) br]
  exact OP f m
 have m:(aZ a)[i]?=some (dw a i):=getD_some (by omega)
 obtain ⟨p,hp⟩:=s7 (Xi m)
 have an:=Xi m
 have F:=v i (by omega)
 generalize a8:dw a i=x at m hp an
 obtain ⟨x1,B⟩:=x
 simp only at hp
 have b7:x1=p:=by simpa using YA Prod.fst hp
 subst b7
 clear hp
 obtain ⟨cj,hE⟩:=du.1 an
 obtain ⟨_,_,_,ck,u,b8⟩:=f.eu hE
 have cu:=eY hE
 have b9:(ng (aZ a)).getD i []=[gi (p:Int),gi B]:=by
  simp[Xb,m]
 have cv:B≤1000:=by
  obtain ⟨e,h1,h2⟩:=hE
  have:=f.ok.sym _ (AO h1).2 e h1
  omega
 have U:aL a:=by unfold aL; omega
 have bs:∀ s∈a,aL s.aG∧∀ e∈s.aG,cy e.sym∧cy e.to:=fun s hs=>⟨by have:=f.ok.aG s hs; unfold aL; omega,fun e he=>by
  have h1:=f.ok.sym s hs e he
  have h2:=f.ok.to s hs e he
  unfold cy; omega⟩
 simp (disch:=omega)only[↓wr,seval,wq,t0,t19,t20,t21,ar,hw,b9]
 refine ⟨by omega,by omega,fun q1 bx=>?_⟩
 rw[set_set]
 have X:=R.fresh bx (o:=.arr 2 [[gi (p:Int),gi B]])
 have j:(H'.set q1 (.arr 2 [[gi (p:Int),gi B]])) q1=.arr 2 [[gi (p:Int),gi B]]:=by simp[View.set]
 generalize H'.set q1 (.arr 2 [[gi (p:Int),gi B]])=H1 at X j ⊢
 refine ay.dZ ((GU (X.at d).1 U bs p (-1 - B)).mono ?_)
 rintro r H3 ⟨rfl,bb⟩
 have G:=X.stay bb
 have b0:H3 q1=.arr 2 [[gi (p:Int),gi B]]:=by rw[bb q1 (by rw[j]; simp)]; exact j
 clear R X j bb bx hW hw hs he n1 n2 n3
 clear H1 H'
 obtain ⟨hW,⟨w2,b1,hw⟩,hs,he,n1,n2,n3⟩:=G.at d
 clear b1
 have ca:=G.sl
 have b2:=pz (l:=Sl) (i:=i) (by omega)
 rw[b8]
 simp only[Nat.lt_irrefl,if_false] at F
 have cc:sF Sl i=0:=F.1
 simp (disch:=omega)only[↓wr,seval,wq,t0,t19,t20,t21,b0]
 apply ah.eq<;>intro bd
 ·simp (disch:=omega)only[↓wr,seval,wq,t0,b0,hW]
  apply ah.eq<;>intro bl
  ·simp (disch:=omega)only[↓wr,seval,wq,t0,hW,hs,b2]
   refine ⟨by omega,by omega,fun q5 cf=>?_⟩
   refine ay.Bx (Fx (g.af.length:Int)) (by kernel_rfl) (.val _) ⟨eO.Sh (l:=[(g.af.length:Int)]) (.inr ⟨q5,rfl,by simp[View.set]⟩),trivial⟩ ?_
   have D:=G.fresh cf (o:=.arr 1 [[gi (g.af.length:Int)]])
   generalize H3.set q5 (.arr 1 [[V.val (.int .i64 (g.af.length:Int))]])=H5 at D ⊢
   obtain ⟨b3,-,cg,-⟩:=D.at d
   have e1:(dL Sl).set i [gw (sF Sl i ||| fG (g.af.length:Int))]=dL (Sl.set i (sF Sl i ||| fG (g.af.length:Int))):=by simp[YL]
   have I:=D.Ac (Sl':=Sl.set i (sF Sl i ||| fG (g.af.length:Int))) (by simp[ca])
   have Y:=b3
   have J:a[eu a p (-1 - B)]?=some (a.getD (eu a p (-1 - B)) aM):=getD_some u
   simp (disch:=omega)only[↓wr,seval,wq,cg,b2,e1,Ec,b3,n1,t0,bj,Xf,J,Xk,fZ]
   refine ⟨by omega,by omega,?_⟩
   refine xI f aq ha (by omega) u (oN g ((p:Int),B)) (fun y=>if y < i then rV g a (dw a y) else 0) (fun y=>if y < i then nu g a (dw a y) else []) ⟨_,A,I,fun z n=>?_⟩ ⟨t0,rfl,rfl,t19,t20,t21,rfl,by show gi ((fc _).length:Int)=_; simp[fc],rfl⟩ (fun T' H' hF u0 b c K=>?_)
   ·have L:=v z n
    have N:oN g ((p:Int),B)=fG (g.af.length:Int):=by
     unfold oN
     exact Xg ⟨bd,bl⟩
    rw[fj]
    by_cases e:z=i
    ·subst e
     rw[Xg ⟨rfl,by omega⟩]
     simp only[if_true]
     rw[N,cc]
     exact ⟨by simp,F.2⟩
    ·rw[Xd (fun h=>e h.1.symm)]
     simp only[Xd e]
     exact L
   ·obtain ⟨O,A9,P,Q⟩:=hF
    simp (disch:=omega)only[↓wr,seval,wq,u0,b,c,K]
    refine aF hk (by omega) ⟨O,A9,P,fun z n=>?_,u0,b,c,by first | rfl | (congr 2)⟩
    have:=Q z n
    by_cases e:z=i
    ·subst e
     simp only[if_true,Nat.lt_succ_self] at this ⊢
     rw[a8]
     simp only[rV,nu,Xy]
     exact this
    ·simp only[Xd e,show z < i+1↔z < i by omega] at this ⊢
     exact this
  ·have I:=G
   have Y:=hW
   have J:a[eu a p (-1 - B)]?=some (a.getD (eu a p (-1 - B)) aM):=getD_some u
   simp (disch:=omega)only[↓wr,seval,wq,t0,Y,bj,Xf,J,Xk,fZ]
   refine xI f aq ha (by omega) u (oN g ((p:Int),B)) (fun y=>if y < i then rV g a (dw a y) else 0) (fun y=>if y < i then nu g a (dw a y) else []) ⟨_,A,I,fun z n=>?_⟩ ⟨t0,rfl,rfl,t19,t20,t21,rfl,by show gi ((fc _).length:Int)=_; simp[fc],rfl⟩ (fun T' H' hF u0 b c K=>?_)
   ·have L:=v z n
    have N:oN g ((p:Int),B)=0:=by
     unfold oN
     exact Xd fun h=>bl h.2
    by_cases e:z=i
    ·subst e
     simp only[if_true]
     rw[N]; exact F
    ·simp only[Xd e]
     exact L
   ·obtain ⟨O,A9,P,Q⟩:=hF
    simp (disch:=omega)only[↓wr,seval,wq,u0,b,c,K]
    refine aF hk (by omega) ⟨O,A9,P,fun z n=>?_,u0,b,c,by first | rfl | (congr 2)⟩
    have:=Q z n
    by_cases e:z=i
    ·subst e
     simp only[if_true,Nat.lt_succ_self] at this ⊢
     rw[a8]
     simp only[rV,nu,Xy]
     exact this
    ·simp only[Xd e,show z < i+1↔z < i by omega] at this ⊢
     exact this
 ·have I:=G
  have Y:=hW
  have J:a[eu a p (-1 - B)]?=some (a.getD (eu a p (-1 - B)) aM):=getD_some u
  simp (disch:=omega)only[↓wr,seval,wq,t0,Y,bj,Xf,J,Xk,fZ]
  refine xI f aq ha (by omega) u (oN g ((p:Int),B)) (fun y=>if y < i then rV g a (dw a y) else 0) (fun y=>if y < i then nu g a (dw a y) else []) ⟨_,A,I,fun z n=>?_⟩ ⟨t0,rfl,rfl,t19,t20,t21,rfl,by show gi ((fc _).length:Int)=_; simp[fc],rfl⟩ (fun T' H' hF u0 b c K=>?_)
  ·have L:=v z n
   have N:oN g ((p:Int),B)=0:=by
    unfold oN
    exact Xd fun h=>bd h.1
   by_cases e:z=i
   ·subst e
    simp only[if_true]
    rw[N]; exact F
   ·simp only[Xd e]
    exact L
  ·obtain ⟨O,A9,P,Q⟩:=hF
   simp (disch:=omega)only[↓wr,seval,wq,u0,b,c,K]
   refine aF hk (by omega) ⟨O,A9,P,fun z n=>?_,u0,b,c,by first | rfl | (congr 2)⟩
   have:=Q z n
   by_cases e:z=i
   ·subst e
    simp only[if_true,Nat.lt_succ_self] at this ⊢
    rw[a8]
    simp only[rV,nu,Xy]
    exact this
   ·simp only[Xd e,show z < i+1↔z < i by omega] at this ⊢
    exact this
def ri:SC :=
 ae [ab [aV 17 .lss 16 15],bY 17 (.exit 0),.block 1 (ae [ab [aa 18 16,aQ 19 1 14 16,aj 20 19,aa 8 18,aa 9 20],ae [.region false [⟨none,[aa 21 9,aH 22 .lss 21 0,aa 23 22]⟩,⟨(some (23,true)),[aa 24 0,ao 25 1 5,aj 26 25,aa 27 8,aH 28 .add 27 1,((some 29),.op (.slice 1 (.tmp 26) (some (.tmp 28)) none)),bz 30 121 [24,29]]⟩,⟨none,[eJ 31 23 30]⟩],bf 31 (ae [ab [aa 32 0,ep 33 32,ao 34 6 33,aj 35 34,aa 36 7,aa 37 9,((some 38),.op (.arith .sub (.val (.val (.int .i64 (-1)))) (.tmp 37))),((some 39),.op (.build [(.val (.int .i64 0)),(.val (.int .i64 0))] [(0,1,(.tmp 36)),(1,1,(.tmp 38))])),((some 40),.op (.old (.lookup 110 (.tmp 35) (.tmp 39) false) 3)),aa 10 40],.nT [(43,52)] [⟨none,[aa 41 0,ep 42 41,ao 43 9 42,aj 44 43,aa 45 10,aa 46 0,ep 47 46,ao 48 9 47,aj 49 48,aa 50 10,aQ 51 1 49 50,aj 52 51,aa 53 0,ep 54 53,ao 55 6 54,aj 56 55,bg 57 2 4,((some 58),.op (.old (.lookup 110 (.tmp 56) (.tmp 57) false) 3)),((some 59),.op (.bV 1 1 [(.val (.int .i64 0))] [(0,(.tmp 58))])),gY 60 1 8 52 59,aQ 61 1 44 45,bU 1 61 60]⟩]])],ab [aa 62 0,aa 63 7,aa 64 9,bz 65 119 [62,63,64],aa 7 65]]),ab [aH 66 .add 16 1,aa 16 66]]
def tw:SF:=⟨ae [ab [cI 4 1,cI 5 2,aS 6 0],ab [ao 11 0 4,aj 12 11,aa 7 12],ae [ab [ao 13 1 5,aj 14 13,aN 15 14,aS 16 0],b6 0 ri],ab [aa 67 7,aa 6 67],.ret],
 [.tmp 6],68⟩
theorem yz:aR Tryz.prog 74 [4,5,100000]=some tw:=by kernel_rfl
def oH (g:ag) (a:List aI):Nat→List Int→List Nat
 | _,[]=>[]
 | q,s :: l=>(if s < 0∧cE l (au g false) false=true then [vq (aZ a) ((q:Int),-1 - s)] else []) ++ oH g a (eu a q s) l
def kJ (a:List aI):Nat→List Int→Nat
 | q,[]=>q
 | q,s :: l=>kJ a (eu a q s) l
def ki (f:Nat→List Nat) (x:Nat) (ys:List Nat):Nat→List Nat:=ys.foldl (fun f y=>jV f y (f y ++ [x])) f
theorem O2 (f:Nat→List Nat) (x:Nat) (ys a:List Nat):ki f x (ys ++ a)=ki (ki f x ys) x a:=by
 unfold ki; rw[XZ]
theorem FE {x:Nat} : ∀ {ys:List Nat} {f:Nat→List Nat} {y z:Nat},z∈ki f x ys y↔z∈f y∨(z=x∧y∈ys)
 | [],f,y,z=>by simp[ki]
 | w :: ys,f,y,z=>by
  have a:=FE (x:=x) (ys:=ys) (f:=jV f w (f w ++ [x])) (y:=y) (z:=z)
  unfold ki at a ⊢
  rw[XC,a]
  by_cases e:y=w
  ·subst e
   rw[eP,XE,X8]
   simp only[Xs,true_or,and_true]
   constructor
   ·rintro ((h | h) | h)
    ·exact .inl h
    ·exact .inr h
    ·exact .inr h.1
   ·rintro (h | h)
    ·exact .inl (.inl h)
    ·exact .inl (.inr h)
  ·rw[mI e]
   simp only[Xs,e,false_or]
theorem yY {x c:Nat} : ∀ {ys:List Nat} {f:Nat→List Nat},(∀ z,(f z).length≤c)→∀ z,(ki f x ys z).length≤c+ys.length
 | [],f,h,z=>by simpa [ki] using h z
 | w :: ys,f,h,z=>by
  have a:=yY (x:=x) (c:=c+1) (ys:=ys) (f:=jV f w (f w ++ [x])) (fun z=>by
   by_cases e:z=w
   ·subst e; rw[eP,XV]; have:=h z; simp; omega
   ·rw[mI e]; have:=h z; omega) z
  unfold ki at a ⊢
  rw[XC,Xt]
  omega
theorem J9 (g:ag) (a:List aI):∀ (l:List Int) (q:Nat),(oH g a q l).length≤l.length
 | [],_=>by simp[oH]
 | s :: l,q=>by
  have b:=J9 g a l (eu a q s)
  rw[oH,XV,Xt]
  split <;> simp <;> omega
theorem RL {g:ag} {a:List aI} (D:bZ g a) (bq:bG g=true) (ha:a.length≤300) {H:View} {W qn cM:Nat} {M:bQ (Int × Int)} {uw:V} {s e:Nat} {Sl:List BV} {A:List (V × List Nat)} {L:List cw} (t:cX g a H W qn cM M uw s e (aZ a) Sl A L)
  {fA:Nat→List Nat} {c:Nat} (Z:∀ z,z < (aZ a).length→(A.getD z (.any,[])).2=fA z) (br:∀ z,(fA z).length≤c) (hc:c≤100000000) {x p k:Nat} {B:Int} (hx:(aZ a)[x]?=some ((p:Int),B)) (hk:k < g.rules.length) (bs:(av g k).left=B) :
  aw Tryz.prog 74 [.ptr W 0 0,.agg [gi p,gi B],.agg (aP (av g k))] H fun r H'=>r=gi (kJ a p (av g k).right)∧(∃ A',cX g a H' W qn cM M uw s e (aZ a) Sl A' L∧∀ z,z < (aZ a).length→(A'.getD z (.any,[])).2=ki fA x (oH g a p (av g k).right) z)∧∀ b c es,H b=.map es c→H' b=.map es c:=by
 have an:=qo D
 have cg:(aZ a).length≤40 * a.length:=lY D.ok.aG a.length
 obtain ⟨bx,hE⟩:=du.1 (Xi hx)
 have aq:=eY hE
 have b0:=kF D aq bx hk bs hE
 have hR:g.rules[k]?=some (av g k):=by unfold av; exact getD_some hk
 have b1:aK g (k:Int)=(av g k).right:=by rw[aK,Xd (by omega)]
 have ch:=D.cF.right _ (Xi hR)
 have ar:=D.cF.sym _ (Xi hR)
 have b2:=t.num _ _ hx
 generalize av g k=R at *
 refine aw.of mixed yz ?_
 simp (disch:=omega)only[↓wr,seval,wq,tw,aP,encI]
 refine aU.up R.right.length (fun i T H'=>∃ (q:Nat) (ys:List Nat) (A':List (V × List Nat)),cX g a H' W qn cM M uw s e (aZ a) Sl A' L∧(∀ z,z < (aZ a).length→(A'.getD z (.any,[])).2=ki fA x ys z)∧(∀ b c es,H b=.map es c→H' b=.map es c) ∧
  ys.length≤i∧oH g a p R.right=ys ++ oH g a q (R.right.drop i)∧kJ a p R.right=kJ a q (R.right.drop i)∧q < a.length∧(⟨k,i⟩:aD)∈iR g a q ∧
  T 0=.ptr W 0 0∧T 4=.aJ [gi p,gi B] 0∧T 5=.aJ (aP R) 0∧T 7=gi q∧T 14=encI R.right∧T 15=gi R.right.length∧T 16=gi i)
  ⟨p,[],A,t,Z,fun _ _ _ h=>h,by simp,by simp,by simp,aq,b0,rfl,rfl,rfl,rfl,rfl,rfl,rfl⟩ ?_
 clear t Z
 rintro i m T H1 hm ⟨q,ys,A1,t,f,w,cj,n,C,b3,b4,t0,t4,t5,t7,t14,t15,t16⟩
 simp (disch:=omega)only[↓wr,seval,wq,ri,t0,t4,t5,t7,t14,t15,t16]
 apply ah.dec<;>intro b5
 rotate_left
 ·simp (disch:=omega)only[↓wr,seval,wq,t7]
  rw[XK (by omega)] at n C
  rw[n,C]
  refine ⟨rfl,⟨A1,t,?_⟩,w⟩
  simpa [oH] using f
 have hy:R.right[i]?=some (R.right[i]'(by omega)):=Xc (by omega)
 have a1:=Xm (show i < R.right.length by omega)
 have K:R.right.drop i=R.right[i]'(by omega) :: R.right.drop (i+1):=XW (by omega)
 generalize R.right[i]'(by omega)=y at hy a1 K
 obtain ⟨n1,n2,n3⟩:=qh (g:=g) (r:=k) (d:=i) (s:=y) (l:=R.right.drop (i+1)) (by rw[b1,K])
 obtain ⟨s1,s2,s3,s4⟩:=D.step b3 b4 n1
 obtain ⟨_,_,_,_,_,Q⟩:=D.eu s1
 have a6:=qC (ar y a1)
 have hT:=D.cF.af
 have hN:=D.cF.ak
 have cc : -100≤y:=by
  unfold kb at a6
  split at a6 <;> omega
 rw[K,oH] at n
 rw[K,kJ] at C
 obtain ⟨hW,⟨w2,cf,hw⟩,hs,he,q1,q2,q3⟩:=t.at an
 have j:aL a:=by unfold aL; omega
 have E:∀ s∈a,aL s.aG∧∀ e∈s.aG,cy e.sym∧cy e.to:=fun s hs=>⟨by have:=D.ok.aG s hs; unfold aL; omega,fun e he=>by
  have h1:=D.ok.sym s hs e he
  have h2:=D.ok.to s hs e he
  unfold cy; omega⟩
 simp (disch:=omega)only[↓wr,seval,wq,t0,t4,t5,t7,t14,t15,t16,encI,Xf,hy,Xk]
 apply ah.dec<;>intro h0
 ·have b7:dx 1 (V.aE (List.map (fun (x:Int)=>[gi x]) R.right)) (some (V.val (.int .i64 ((i:Int)+1)))) none=some (.aE (List.map (fun (x:Int)=>[gi x]) (R.right.drop (i+1))),.none,[]):=by
   have:=Ds (l:=R.right) (k:=i+1) (by omega)
   push_cast at this
   exact this
  simp (disch:=omega)only[↓wr,seval,wq,t0,t5,aP,encI,b7]
  refine ay.dZ ((RR hW (R.right.drop (i+1)) (by unfold aL; simp; omega) (fun z S=>by
   have h1:=qC (ar z (List.mem_of_mem_drop S))
   unfold kb at h1
   rw[gT bq]
   unfold cy
   split at h1 <;> omega)).mono ?_)
  rintro r H5 ⟨rfl,rfl⟩
  cases hb:cE (R.right.drop (i+1)) (au g false) false with
  | false =>
   simp (disch:=omega)only[↓wr,seval,wq,t0,t7]
   refine ay.dZ ((GU hW j E q y).mono ?_)
   rintro r H6 ⟨rfl,o⟩
   rw[Q]
   simp (disch:=omega)only[↓wr,seval,wq,t0,t4,t5,t7,t14,t15,t16]
   exact aF hm (by omega) ⟨eu a q y,ys,A1,t.stay o,f,fun b c es h=>by rw[o b (by rw[w b c es h]; simp)]; exact w b c es h,by omega,by rw[n,Xd (fun h=>by rw[hb] at h; simp at h),Yq],C,s4,by push_cast; exact s3,t0,t4,t5,rfl,t14,t15,by first | rfl | (congr 2)⟩
  | true =>
   have U:(aZ a)[vq (aZ a) ((q:Int),-1 - y)]?=some ((q:Int),-1 - y):=km (du.2 ⟨by omega,by rw[show -1 - (-1 - y)=y by omega]; exact s1⟩)
   have a7:=t.num _ _ U
   have v:=(Xq.1 U).1
   rw[Xg ⟨h0,hb⟩] at n
   generalize vq (aZ a) ((q:Int),-1 - y)=J at U a7 v n
   have a8:dA Tryz.prog 110=some (116,3):=by kernel_rfl
   have S:zeroV Tryz.prog 3=some (gi 0):=by kernel_rfl
   simp (disch:=omega)only[↓wr,seval,wq,t0,t7,hW]
   refine GP (kv:=eR) (kt:=116) (et:=3) (z:=gi 0) (id:=qn) (c:=cM) (m:=M) (k:=((q:Int),-1 - y)) a8 S (AL xK) (by first | rfl | simp (disch:=omega)only[↓wr,seval,wq]) (by first | rfl | (simp (disch:=omega)only[↓wr,seval,wq]; rfl)) t.mp ?_
   rw[a7,Xu]
   have b8:=t.al
   obtain ⟨O,⟨u,l⟩,P,rfl,F,_⟩:=nB (l:=A1) (i:=J) (by omega)
   have G:=t.row rfl
   have bb:(bm (O ++ (u,l) :: P)).getD J []=[u]:=by rw[← F]; simp[bm]
   have bd:((O ++ (u,l) :: P).getD J (V.any,([]:List Nat))).2=l:=by rw[← F]; simp
   have b9:(bm (O ++ (u,l) :: P)).length=(aZ a).length:=by rw[bm,Xj]; exact b8
   have ck:l.length≤100000010:=by
    rw[← bd,f J v]
    have:=yY (x:=x) (ys:=ys) br J
    omega
   simp (disch:=omega)only[↓wr,seval,wq,t0,t4,hW,he,bb]
   refine ⟨v,by omega,?_⟩
   refine GP (kv:=eR) (kt:=116) (et:=3) (z:=gi 0) (id:=qn) (c:=cM) (m:=M) (k:=((p:Int),B)) a8 S (AL xK) (by first | rfl | simp (disch:=omega)only[↓wr,seval,wq]) (by first | rfl | (simp (disch:=omega)only[↓wr,seval,wq]; rfl)) t.mp ?_
   rw[b2,Xu]
   simp (disch:=omega)only[↓wr,seval,wq]
   intro q8 N
   simp (disch:=omega)only[↓wr,seval,wq,bT]
   refine cB (G.fresh N) (by simp[aO]) (by unfold aB; simp; omega) (by unfold aB; simp; omega) ?_
   intro u2 H8 o8 l8
   have X:=o8.is 1 rfl (by rw[b9]; omega)
   have bl:∀ b c es,H5 b=.map es c→H8 b=.map es c:=fun b c es h=>l8.map (G.fresh N).head (b:=b) (c:=c) (es:=es) (by
    simp only[View.set]; rw[Xd (fun e=>by rw[← e,h] at N; simp at N)]; exact h)
   have ca:(bm (O ++ (u,l) :: P)).set J [u2]=bm (O ++ (u2,l ++ [x]) :: P):=by rw[← F]; simp[bm]
   have Y:=t.UN rfl (l':=l ++ [x]) (es:=fF l ++ [[gi (x:Int)]]) (by simp) o8 (bl _ _ _ t.mp)
   have I:∀ b c es,H b=.map es c→(H8.set e (.arr 1 (bm (O ++ (u2,l ++ [x]) :: P)))) b=.map es c:=fun b c es h=>by
    have h8:=bl b c es (w b c es h)
    simp only[View.set]; rw[Xd (fun e=>by rw[← e,h8] at X; simp at X)]; exact h8
   simp (disch:=omega)only[↓wr,seval,wq,t0,t4,t5,t7,t14,t15,t16,X,bb,o8.head.cells,o8.head.iO,ca]
   refine ⟨v,by omega,?_,?_⟩
   ·rcases G.head with ⟨_,kk,h⟩ | ⟨m,h,bn⟩
    ·rw[show u=.emp kk from h,w7]; trivial
    ·rw[show u=.sl m 0 _ 1 from h,AK]
     intro e
     rw[← e,hW] at bn; simp at bn
   ·generalize H8.set e (.arr 1 (bm (O ++ (u2,l ++ [x]) :: P)))=H9 at Y I ⊢
    refine ay.dZ ((GU (Y.at an).1 j E q y).mono ?_)
    rintro r H6 ⟨rfl,o⟩
    rw[Q]
    simp (disch:=omega)only[↓wr,seval,wq,t0,t4,t5,t7,t14,t15,t16]
    refine aF hm (by omega) ⟨eu a q y,ys ++ [J],O ++ (u2,l ++ [x]) :: P,Y.stay o,fun z S=>?_,fun b c es h=>by rw[o b (by rw[I b c es h]; simp)]; exact I b c es h,by rw[XV]; simp; omega,by rw[n,XO],C,s4,by push_cast; exact s3,t0,t4,t5,rfl,t14,t15,by first | rfl | (congr 2)⟩
    rw[O2]
    show _=jV (ki fA x ys) J (ki fA x ys J ++ [x]) z
    by_cases e:z=J
    ·subst e
     rw[eP,← f z S,bd,← F]
     simp
    ·rw[mI e,BD (y:=(u,l)) (by rw[F]; exact e)]
     exact f z S
 ·simp (disch:=omega)only[↓wr,seval,wq,t0,t7]
  refine ay.dZ ((GU hW j E q y).mono ?_)
  rintro r H6 ⟨rfl,o⟩
  rw[Q]
  simp (disch:=omega)only[↓wr,seval,wq,t0,t4,t5,t7,t14,t15,t16]
  exact aF hm (by omega) ⟨eu a q y,ys,A1,t.stay o,f,fun b c es h=>by rw[o b (by rw[w b c es h]; simp)]; exact w b c es h,by omega,by rw[n,Xd (fun h=>h0 h.1),Yq],C,s4,by push_cast; exact s3,t0,t4,t5,rfl,t14,t15,by first | rfl | (congr 2)⟩
section
variable {g:ag} {a:List aI}
theorem Ea (n:bZ g a) {k y:Nat} (hk:k < g.rules.length):∀ (l:List Int) (d q:Nat),q < a.length→(⟨k,d⟩:aD)∈iR g a q→(av g k).right.drop d=l →
  (y∈oH g a q l↔∃ (j c:Nat) (C:Int),l[j]?=some (-1 - C)∧0≤C∧iY a q (l.take j) c∧cE (l.drop (j+1)) (au g false) false=true∧(aZ a)[y]?=some ((c:Int),C))
 | [],d,q,hq,p,hl=>by simp[oH]
 | s :: l,d,q,hq,p,hl=>by
  have f:aK g (k:Int)=(av g k).right:=by rw[aK,Xd (by omega)]
  obtain ⟨n1,t,z⟩:=qh (g:=g) (r:=k) (d:=d) (s:=s) (l:=l) (by rw[f,hl])
  obtain ⟨s1,s2,u,v⟩:=n.step hq p n1
  have w:=Ea n hk (y:=y) l (d+1) (eu a q s) v (by push_cast; exact u) (by rw[f] at t; exact t)
  rw[oH,XE,w]
  constructor
  ·rintro (h | ⟨j,c,C,h1,o,b,i,m⟩)
   ·split at h
    ·rename_i x
     rw[X8] at h
     subst h
     have e : -1 - (-1 - s)=s:=by omega
     exact ⟨0,q,-1 - s,by simp[e],by omega,.nil,by simpa using x.2,km (du.2 ⟨by omega,by rw[e]; exact s1⟩)⟩
    ·simp at h
   ·exact ⟨j+1,c,C,by simpa using h1,o,.cons s1 b,by simpa using i,m⟩
  ·rintro ⟨j,c,C,h1,o,b,i,m⟩
   cases j with
   | zero =>
    left
    simp only[List.take_zero] at b
    cases b
    have hs:s = -1 - C:=by simpa using h1
    rw[Xg ⟨by omega,by simpa using i⟩,X8]
    rw[hs,show -1 - (-1 - C)=C by omega]
    exact (HC (y8 n) m).symm
   | succ j =>
    right
    rw[YZ] at b
    cases b with
    | cons _ b=>exact ⟨j,c,C,by simpa using h1,o,b,by simpa using i,m⟩
def qH (g:ag) (a:List aI) (x:Nat) (f:Nat→List Nat) (k:Nat):Nat→List Nat:=if (av g k).left=(dw a x).2 then ki f x (oH g a (dw a x).1.toNat (av g k).right) else f
def Ng (g:ag) (a:List aI) (f:Nat→List Nat) (x:Nat):Nat→List Nat:=(List.range g.rules.length).foldl (qH g a x) f
def ke (g:ag) (a:List aI) (n:Nat):Nat→List Nat:=(List.range n).foldl (Ng g a) fun _=>[]
theorem Gx {x y z:Nat} : ∀ (n:Nat) (f:Nat→List Nat),z∈(List.range n).foldl (qH g a x) f y↔z∈f y∨(z=x∧∃ k,k < n∧(av g k).left=(dw a x).2∧y∈oH g a (dw a x).1.toNat (av g k).right)
 | 0,f=>by simp
 | n+1,f=>by
  have d:=Gx (x:=x) (y:=y) (z:=z) n f
  rw[Ya,XZ,XC,YF,qH]
  have key:∀ k,(k < n+1∧(av g k).left=(dw a x).2∧y∈oH g a (dw a x).1.toNat (av g k).right)↔(k < n∧(av g k).left=(dw a x).2∧y∈oH g a (dw a x).1.toNat (av g k).right)∨(k=n∧(av g k).left=(dw a x).2∧y∈oH g a (dw a x).1.toNat (av g k).right):=fun k=>by
   constructor
   ·rintro ⟨h1,b⟩
    rcases XB k n with q | q
    ·exact .inl ⟨q,b⟩
    ·exact .inr ⟨by omega,b⟩
   ·rintro (⟨h1,b⟩ | ⟨h1,b⟩)
    ·exact ⟨by omega,b⟩
    ·exact ⟨by omega,b⟩
  split
  ·rename_i c
   rw[FE,d]
   constructor
   ·rintro ((h | ⟨h,k,h1⟩) | ⟨h,h1⟩)
    ·exact .inl h
    ·exact .inr ⟨h,k,(key k).2 (.inl h1)⟩
    ·exact .inr ⟨h,n,by omega,c,h1⟩
   ·rintro (h | ⟨h,k,h1⟩)
    ·exact .inl (.inl h)
    ·rcases (key k).1 h1 with h1 | ⟨rfl,_,h1⟩
     ·exact .inl (.inr ⟨h,k,h1⟩)
     ·exact .inr ⟨h,h1⟩
  ·rename_i c
   rw[d]
   constructor
   ·rintro (h | ⟨h,k,h1⟩)
    ·exact .inl h
    ·exact .inr ⟨h,k,(key k).2 (.inl h1)⟩
   ·rintro (h | ⟨h,k,h1⟩)
    ·exact .inl h
    ·rcases (key k).1 h1 with h1 | ⟨rfl,b,_⟩
     ·exact .inr ⟨h,k,h1⟩
     ·exact absurd b c
theorem B9 {y z:Nat} : ∀ n:Nat,z∈ke g a n y↔z < n∧∃ k,k < g.rules.length∧(av g k).left=(dw a z).2∧y∈oH g a (dw a z).1.toNat (av g k).right
 | 0=>by simp[ke]
 | n+1=>by
  have c:=B9 (y:=y) (z:=z) n
  unfold ke at c ⊢
  rw[Ya,XZ,XC,YF,Ng,Gx,c]
  constructor
  ·rintro (⟨h1,b⟩ | ⟨rfl,b⟩)
   ·exact ⟨by omega,b⟩
   ·exact ⟨by omega,b⟩
  ·rintro ⟨h1,b⟩
   by_cases e:z=n
   ·subst e; exact .inr ⟨rfl,b⟩
   ·exact .inl ⟨by omega,b⟩
theorem vM {x:Nat} {y:Int × Int} (h:(aZ a)[x]?=some y):dw a x=y:=by
 rw[dw,Xb,h]; rfl
theorem Kk (m:bZ g a) {x z p:Nat} {B:Int} (n:(aZ a)[x]?=some ((p:Int),B)):z∈ke g a (aZ a).length x↔∃ (e k d:Nat),k < g.rules.length∧(aZ a)[z]?=some ((e:Int),(av g k).left)∧(av g k).right[d]?=some (-1 - B)∧iY a e ((av g k).right.take d) p∧cE ((av g k).right.drop (d+1)) (au g false) false=true:=by
 rw[B9]
 constructor
 ·rintro ⟨h,k,hk,hl,hm⟩
  have c:(aZ a)[z]?=some (dw a z):=getD_some h
  obtain ⟨e,i⟩:=s7 (Xi c)
  have l:=Xi c
  rw[i] at l c
  obtain ⟨f,hE⟩:=du.1 l
  have b:=eY hE
  rw[i] at hm
  simp only[Xy] at hm
  obtain ⟨j,v,C,h1,s,o,t,q⟩:=(Ea m hk _ 0 e b (kF m b f hk hl hE) (by rw[Yt])).1 hm
  rw[n] at q
  simp only[Xe,Xh,Int.natCast_inj] at q
  obtain ⟨rfl,rfl⟩:=q
  exact ⟨e,k,j,hk,by rw[hl]; exact c,h1,o,t⟩
 ·rintro ⟨e,k,d,hk,h,h1,s,o⟩
  have r:=(Xq.1 h).1
  obtain ⟨f,hE⟩:=du.1 (Xi h)
  have b:=eY hE
  have u:=(du.1 (Xi n)).1
  refine ⟨r,k,hk,by rw[vM h],?_⟩
  rw[vM h]
  simp only[Xy]
  exact (Ea m hk _ 0 e b (kF m b f hk rfl hE) (by rw[Yt])).2 ⟨d,p,B,h1,u,s,o,n⟩
theorem QX (c:bZ g a) {S1:Nat→BV} (f:∀ (x p t:Nat) (B:Int),(aZ a)[x]?=some ((p:Int),B)→((S1 x).getLsbD t=true↔oE g a p B t)) {x p t:Nat} {B:Int} (b:(aZ a)[x]?=some ((p:Int),B)) :
  lV (ke g a (aZ a).length) S1 x t↔vd g a p B t:=by
 constructor
 ·rintro ⟨w,hr,hw⟩
  induction hr generalizing p B with
  | refl=>exact .read ((f _ _ _ _ b).1 hw)
  | @step x y w n hr e =>
   obtain ⟨i,k,d,h1,j,o,q,r⟩:=(Kk c b).1 n
   have hE:=(du.1 (Xi j)).2
   have l:=(du.1 (Xi b)).1
   exact .HT (e j hw) h1 hE l o q r
 ·intro h
  induction h generalizing x with
  | read h=>exact ⟨x,.refl,(f _ _ _ _ b).2 h⟩
  | @HT p i k d B t z hk hE l hd hw s e =>
   have u:g.rules[k]?=some (av g k):=by unfold av; exact getD_some hk
   have m:=km (du.2 ⟨(c.cF.left _ (Xi u)).1,hE⟩)
   obtain ⟨w,v,k2⟩:=e m
   exact ⟨w,.step ((Kk c b).2 ⟨i,k,d,hk,m,hd,hw,s⟩) v,k2⟩
end
section
variable {g:ag} {a:List aI}
theorem HU {q:Nat} : ∀ {l:List Int} {b:Nat},iY a q l b→kJ a q l=b:=fun {l b} h=>by
 induction h with
 | nil=>rfl
 | cons _ _ c=>rw[kJ]; exact c
def jd (g:ag) (a:List aI) (n k i:Nat):List Nat:=(List.range n).filter fun x=>decide ((av g k).left=(dw a x).2∧kJ a (dw a x).1.toNat (av g k).right=i)
theorem uu (h:bZ g a) {k i x:Nat} (hk:k < g.rules.length):x∈jd g a (aZ a).length k i↔∃ p:Nat,(aZ a)[x]?=some ((p:Int),(av g k).left)∧iY a p (av g k).right i:=by
 unfold jd
 simp only[XY,XU,Xr]
 have e:aK g (k:Int)=(av g k).right:=by rw[aK,Xd (by omega)]
 constructor
 ·rintro ⟨l,h1,b⟩
  have d:(aZ a)[x]?=some (dw a x):=getD_some l
  have hm:=Xi d
  obtain ⟨p,hp⟩:=s7 hm
  rw[hp] at d hm
  rw[← h1] at d hm
  obtain ⟨f,hE⟩:=du.1 hm
  have c:=eY hE
  obtain ⟨q,m,j,n⟩:=h.fwd k (av g k).right 0 p c (kF h c f hk rfl hE) ⟨[],by rw[e]; simp⟩
  rw[hp] at b
  simp only[Xy] at b
  rw[HU j] at b
  subst b
  exact ⟨p,d,j⟩
 ·rintro ⟨p,h1,b⟩
  refine ⟨(Xq.1 h1).1,by rw[vM h1],?_⟩
  rw[vM h1]
  simp only[Xy]
  exact HU b
def mV (S:Nat→BV) (l:List Nat):BV:=l.foldl (fun b x=>b ||| S x) 0
theorem Lg {S:Nat→BV} {t:Nat} : ∀ (l:List Nat) (b:BV),(l.foldl (fun b x=>b ||| S x) b).getLsbD t=true↔b.getLsbD t=true∨∃ x∈l,(S x).getLsbD t=true
 | [],b=>by simp
 | x :: l,b=>by
  rw[XC,Lg l,Ye,Yp]
  simp only[Xs,exists_eq_or_imp]
  exact or_assoc
def jx (g:ag) (a:List aI) (S:Nat→BV) (i k:Nat):Option cd:=if jd g a (aZ a).length k i=[] then none else some ⟨k,mV S (jd g a (aZ a).length k i)⟩
def AH (g:ag) (a:List aI) (S:Nat→BV) (i:Nat):List cd:=(List.range g.rules.length).filterMap (jx g a S i)
theorem FN:∀ {l m:List cd},l.Pairwise (fun x y=>x.ax < y.ax)→m.Pairwise (fun x y=>x.ax < y.ax)→(∀ x,x∈l↔x∈m)→l=m
 | [],[],_,_,_=>rfl
 | [],y :: m,_,_,h=>by have:=(h y).2 (by simp); simp at this
 | x :: l,[],_,_,h=>by have:=(h x).1 (by simp); simp at this
 | x :: l,y :: m,h1,c,h=>by
  rw[Yy] at h1 c
  have e:x=y:=by
   rcases Xs.1 ((h x).1 (by simp)) with e | d
   ·exact e
   ·rcases Xs.1 ((h y).2 (by simp)) with e | f
    ·exact e.symm
    ·have:=h1.1 y f
     have:=c.1 x d
     omega
  subst e
  rw[FN h1.2 c.2 fun z=>?_]
  constructor
  ·intro b
   rcases Xs.1 ((h z).1 (by simp[b])) with e | a
   ·have:=h1.1 z b; rw[e] at this; omega
   ·exact a
  ·intro b
   rcases Xs.1 ((h z).2 (by simp[b])) with e | a
   ·have:=c.1 z b; rw[e] at this; omega
   ·exact a
theorem SE {x:aD} (d:cU g x) (a:(bK g x).2=false) (e:0≤x.ax):∃ k:Nat,k < g.rules.length∧x=⟨k,((av g k).right.length:Nat)⟩:=by
 obtain ⟨k,hk⟩:∃ k:Nat,x.ax=k:=⟨x.ax.toNat,by omega⟩
 have b:k < g.rules.length:=by have:=d.1; omega
 refine ⟨k,b,?_⟩
 have c:aK g (k:Int)=(av g k).right:=by rw[aK,Xd (by omega)]
 unfold bK at a
 rw[hk,c] at a
 split at a
 ·rename_i h
  cases x
  simp only at hk h
  rw[hk,h]
 ·simp at a
theorem RQ (f:bZ g a) (hr:isRed g=true) {S:Nat→BV} (w:∀ (x p t:Nat) (B:Int),(aZ a)[x]?=some ((p:Int),B)→((S x).getLsbD t=true↔vd g a p B t)) {i:Nat} (hi:i < a.length):AH g a S i=iF g a i:=by
 have r:∀ k:Nat,aK g (k:Int)=(av g k).right:=fun k=>by rw[aK,Xd (by omega)]
 have s:∀ k:Nat,bK g ⟨k,((av g k).right.length:Nat)⟩=(0,false):=fun k=>by
  unfold bK; simp only[r,if_true]
 have n:(fY g a).getD i []=iR g a i:=by
  unfold fY iR
  simp[Xb,Xc hi]
 have o:∀ k:Nat,k < g.rules.length→(jd g a (aZ a).length k i≠[]↔(⟨k,((av g k).right.length:Nat)⟩:aD)∈iR g a i):=fun k hk=>by
  have u:g.rules[k]?=some (av g k):=by unfold av; exact getD_some hk
  rw[UF f hi hk]
  constructor
  ·intro h
   obtain ⟨x,v⟩:=List.exists_mem_of_ne_nil _ h
   obtain ⟨p,h1,m⟩:=(uu f hk).1 v
   exact ⟨p,m,(du.1 (Xi h1)).2⟩
  ·rintro ⟨p,h1,m⟩
   have j:=km (du.2 ⟨(f.cF.left _ (Xi u)).1,m⟩)
   exact List.ne_nil_of_mem ((uu f hk).2 ⟨p,j,h1⟩)
 have l:∀ k:Nat,k < g.rules.length→mV S (jd g a (aZ a).length k i)=EJ g a i ⟨k,((av g k).right.length:Nat)⟩:=fun k hk=>by
  have u:g.rules[k]?=some (av g k):=by unfold av; exact getD_some hk
  refine Ve fun t D=>?_
  rw[Yl,mV,Lg,EJ,BY _ 32 t (Xo _)]
  simp only[Xr]
  rw[PH f hr hk]
  constructor
  ·rintro (h | ⟨x,v,d⟩)
   ·simp at h
   ·obtain ⟨p,h1,m⟩:=(uu f hk).1 v
    exact ⟨D,p,m,(du.1 (Xi h1)).2,(w x p t _ h1).1 d⟩
  ·rintro ⟨_,p,E,F,G⟩
   have j:=km (du.2 ⟨(f.cF.left _ (Xi u)).1,F⟩)
   exact .inr ⟨_,(uu f hk).2 ⟨p,j,E⟩,(w _ _ _ _ j).2 G⟩
 refine FN ?_ ?_ fun x=>?_
 ·rw[AH,List.pairwise_filterMap]
  refine List.pairwise_lt_range.imp fun {k K} H b d I c=>?_
  unfold jx at d c
  split at d
  ·simp at d
  ·split at c
   ·simp at c
   ·simp only[Xe] at d c
    rw[← d,← c]
    simp only
    omega
 ·rw[iF,n,List.pairwise_filterMap]
  refine (jt g _).imp fun {x y} q b d I c=>?_
  split at d
  ·rename_i h1
   split at c
   ·rename_i m
    simp only[Xe] at d c
    rw[← d,← c]
    simp only
    rw[eU] at q
    rcases q with h | ⟨h,L⟩
    ·exact h
    ·exfalso
     have e:∀ z:aD,(bK g z).2=false→z.dot=(aK g z.ax).length:=fun z j=>by
      unfold bK at j
      split at j
      ·assumption
      ·simp at j
     have J:=e x h1.1
     have M:=e y m.1
     rw[h] at J
     omega
   ·simp at c
  ·simp at d
 ·rw[AH,iF,n,Yr,Yr]
  constructor
  ·rintro ⟨k,hk,h⟩
   have hk:=XU.1 hk
   unfold jx at h
   split at h
   ·simp at h
   ·rename_i d
    refine ⟨_,(o k hk).1 d,?_⟩
    rw[Xg ⟨by rw[s],by simp only; omega⟩,← l k hk]
    exact h
  ·rintro ⟨y,A,h⟩
   split at h
   ·rename_i C
    obtain ⟨k,hk,rfl⟩:=SE (f.has hi A) C.1 C.2
    refine ⟨k,XU.2 hk,?_⟩
    unfold jx
    rw[Xd ((o k hk).2 A),l k hk]
    exact h
   ·simp at h
end
end Gv
