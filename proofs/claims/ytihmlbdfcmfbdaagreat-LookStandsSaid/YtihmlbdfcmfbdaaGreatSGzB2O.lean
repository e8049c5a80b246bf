/-
  Part 15 of the proof: what the machine does and what the functions answer.
  Conditions: those that each lemma names.
-/
import Derived.Test.YtihmlbdfcmfbdaaGreatSGzB2N
set_option linter.unusedSimpArgs false
set_option linter.unusedVariables false
set_option maxRecDepth 100000
namespace Gv
open Go Go.Proofs
theorem aE.still {P:Program} {f:FuncId} {vs:List V} {H:View} {K:V→View→Prop} {w:cE (H,K)} {Φ:V→View→Prop} (hc:aC P f vs H Φ) (hs:∀ r H',Φ r H'→∀ id,H id≠.dead→H' id=H id) (hk:∀ r H',Φ r H'→K r H'):aE P true f vs H K w:=by
 unfold aE
 simp only[if_true]
 exact (hc.mono fun r H' h=>⟨hs r H' h,hk r H' h⟩).Ku
theorem bt.join {H:View} {L M:List cF} (h:bt H L) (k:bt H M) (hd:∀ x∈L,∀ y∈M,∀ id,owner x.1=some id→owner y.1≠some id):bt H (L ++ M):=by
 refine ⟨fun x hx=>?_,?_⟩
 ·rcases Uy.1 hx with hx | hx
  ·exact h.1 x hx
  ·exact k.1 x hx
 ·rw[List.filterMap_append,UY]
  refine ⟨h.2,k.2,fun a ha b hb e=>?_⟩
  obtain ⟨x,hx,hxa⟩:=Vd.1 ha
  obtain ⟨y,hy,hyb⟩:=Vd.1 hb
  subst e
  exact hd x hx y hy a hxa hyb
theorem bt.sub {H:View} {L M:List cF} (h:bt H L) (hs:M.Sublist L):bt H M :=
 ⟨fun x hx=>h.1 x (hs.subset hx),h.2.sublist (hs.filterMap _)⟩
theorem No {l:List aI} (hs:cx l) (hn:l.length≤100000) (u:V) (H:View) (ho:bf H u 2 (aS l)):aC Tryz.prog 64 [u] H fun r H'=>H=H'∧bf H r 2 (aS l)∧(l≠[]→r=u):=by
 refine (Jc l hn u H ho).mono ?_
 rintro r H' ⟨k1,k2,k3⟩
 rw[Kj hs] at k2
 have e:H'=H:=by
  funext id
  by_cases h:owner u=some id
  ·rw[(ho.live h).1,(k2.live (by rw[k3]; exact h)).1]
  ·exact k1 id h
 subst e
 refine ⟨rfl,k2,fun hne=>?_⟩
 have hp:0 < (aS l).length:=by rw[bF]; exact VY.2 hne
 obtain ⟨n,e1,_⟩:=ho.sl hp
 obtain ⟨m,e2,_⟩:=k2.sl hp
 rw[e1,e2] at k3
 simp only[owner,T7] at k3
 rw[e1,e2,k3]
def qM (g:aw) (out:List aT) (M:bV (List UInt8)):Prop:=∀ l:List aI,(∀ x∈l,cq g x)→getM M (fP l)=if findD out l < 0 then none else some (gi (findD out l))
theorem Ez:∀ {a b:List aT},a.map aT.bh=b.map aT.bh→∀ k,findD a k=findD b k
 | [],[],_,_=>rfl
 | [],_ :: _,h,_=>by simp at h
 | _ :: _,[],h,_=>by simp at h
 | s :: a,t :: b,h,k=>by
  simp only[Uz,V3] at h
  rw[findD,findD,h.1,Ez h.2 k]
theorem Bz:∀ (a:List aT) (s:aT) (k:List aI),findD (a ++ [s]) k=if 0≤findD a k then findD a k else if s.bh=k then (a.length:Int) else -1
 | [],s,k=>by by_cases e:s.bh=k <;> simp[findD,e]
 | t :: a,s,k=>by
  have ih:=Bz a s k
  have h1:=sx a k
  rw[UI,findD,findD,ih]
  simp only[Um]
  push_cast
  by_cases e:t.bh=k <;> by_cases e2:s.bh=k <;> by_cases h0:0≤findD a k <;> simp only[e,e2,h0,if_true,if_false] <;> (repeat' split) <;> omega
theorem qM.same {g:aw} {a b:List aT} {M:bV (List UInt8)} (h:qM g a M) (e:a.map aT.bh=b.map aT.bh):qM g b M:=fun l hl=>by
 rw[h l hl,Ez e]
theorem qM.put {g:aw} (hf:g.dt) {out:List aT} {M:bV (List UInt8)} (h:qM g out M) {k:List aI} (hk:∀ x∈k,cq g x) (hn:findD out k < 0) (c:Nat):qM g (out ++ [⟨k,[]⟩]) (bJ (fP k) (gi out.length) c M):=fun l hl=>by
 have h1:=Bz out ⟨k,[]⟩ l
 have h2:=sx out l
 rw[pA]
 by_cases e:l=k
 ·subst e
  rw[T6 (by omega),T9 rfl] at h1
  rw[h1,Vy,T9 rfl,T6 (by omega)]
 ·have e2:(fP l == fP k)=false:=beq_eq_false_iff_ne.2 fun h=>e (Gd hf hl hk h)
  rw[e2,h l hl]
  simp only[Ut,if_false]
  by_cases h0:0≤findD out l
  ·rw[T9 h0] at h1
   rw[h1]
  ·rw[T6 h0,T6 (fun h=>e h.symm)] at h1
   rw[h1,T9 (by omega),T9 (by omega)]
theorem GC {A:bV Int} {k:Nat} {v:V} (hn:(A.map (·.1)).Nodup) (h:getM A (k:Int)=some v):∃ b,(A.filter (fun x=>decide (((k:Nat):Int)≤x.1))).Perm (((k:Int),v,b) :: A.filter (fun x=>decide (((k+1:Nat):Int)≤x.1))):=by
 obtain ⟨A1,A2,b,rfl,hn1,_⟩:=wP h
 rw[UA,Uz,UY] at hn
 have hn2:(k:Int) ∉ A2.map (·.1):=(U1.1 hn.2.1).1
 have e:∀ B:bV Int,(k:Int) ∉ B.map (·.1)→B.filter (fun x=>decide (((k:Nat):Int)≤x.1))=B.filter (fun x=>decide (((k+1:Nat):Int)≤x.1)):=fun B hB=>List.filter_congr fun x hx=>by
  have:x.1≠(k:Int):=fun e=>hB (Ur.2 ⟨x,hx,e⟩)
  rw[decide_eq_decide]; omega
 refine ⟨b,?_⟩
 rw[Vq,Vq,VS,VS,T9 (by simp),T6 (by simp only[Ul]; push_cast; omega),e A1 hn1,e A2 hn2]
 exact UZ
theorem R8 {α:Type} {e u r:α} {S X Y:List α} (h:X.Perm (r :: Y)):(e :: u :: (S ++ X)).Perm (u :: ((S ++ [r,e]) ++ Y)):=by
 refine (List.Perm.swap _ _ _).trans (.cons _ ?_)
 rw[UL]
 refine ((h.append_left S).cons e).trans ?_
 exact UZ.symm.trans ((List.Perm.swap _ _ _).append_left S)
theorem Fp {α:Type} {u k e:α} {S R:List α} : (u :: (S ++ k :: e :: R)).Perm (e :: u :: (S ++ k :: R)):=by
 have h:(S ++ k :: e :: R).Perm (e :: (S ++ k :: R)):=by
  have:=UZ (a:=e) (l₁:=S ++ [k]) (l₂:=R)
  simpa using this
 exact (h.cons u).trans (List.Perm.swap _ _ _)
def uL:SC :=
 .seq (ao [bg 49 .lss 48 47]) <|
 .seq (.cond (.tmp 49) (.skip) (.exit 2)) <|
 .seq (.block 3 (.seq (ao [aj 50 48,aj 9 50]) <|
 .seq (ao [aj 51 8,aj 52 9,((some 53),.op (.old (.lookup 98 (.tmp 51) (.tmp 52) false) 27)),bD 54 64 [53],aj 10 54]) <|
 .seq (.seq (ao [aj 55 10,aV 56 55,aQ 57 .eql 56 0]) <|
 .cond (.tmp 57) (.exit 3) (.skip)) <|
 .seq (ao [aj 58 9,aj 11 58]) <|
 .seq (.seq (ao [aj 59 9,aD 60 0 1,ay 61 60,aV 62 61,bg 63 .geq 59 62]) <|
 .cond (.tmp 63) (ao [aD 64 0 1,ay 65 64,aV 66 65,aQ 67 .sub 66 1,aj 68 9,bg 69 .sub 67 68,aj 11 69]) (.skip)) <|
 .seq (ao [aj 71 6,aj 72 10,bD 73 62 [72],((some 74),.op (.old (.lookup 97 (.tmp 71) (.tmp 73) true) 30)),aj 70 74,gP 75 0 70,gP 76 1 70,aj 12 75,aj 13 76]) <|
 .seq (.seq (ao [aj 77 13,dp 78 77]) <|
 .cond (.tmp 78) (.seq (ao [aj 79 5,aV 80 79,aj 12 80]) <|
 .seq (ao [aj 81 6,aj 82 10,bD 83 62 [82],aj 84 12,(none,.op (.old (.mapUpdate 97 (.tmp 81) (.tmp 83) (.tmp 84)) 0))]) <|
 ao [aj 85 5,aj 86 10,((some 87),.op (.build [(.emp 1),(.emp 1)] [(0,1,(.tmp 86))])),((some 88),.op (.cw 1 2 [(.emp 1),(.emp 1)] [(0,(.tmp 87))])),((some 89),.op (.app 2 48 (.tmp 85) (.tmp 88))),aj 5 89]) (.skip)) <|
 ao [aj 90 5,aj 91 7,aj 92 5,aj 93 7,aR 94 2 92 93,aD 95 1 94,ay 96 95,aj 97 11,aj 98 12,((some 99),.op (.build [(.val (.int .i64 0)),(.val (.int .i64 0))] [(0,1,(.tmp 97)),(1,1,(.tmp 98))])),((some 100),.op (.cw 1 2 [(.val (.int .i64 0)),(.val (.int .i64 0))] [(0,(.tmp 99))])),((some 101),.op (.app 2 16 (.tmp 96) (.tmp 100))),aR 102 2 90 91,aD 103 1 102,(none,.op (.store 1 (.tmp 103) (.tmp 101)))])) <|
 ao [aQ 104 .add 48 1,aj 48 104]
def uR:SC :=
 .seq (.seq (ao [aj 26 7,aj 27 5,aV 28 27,bg 29 .lss 26 28]) <|
 .cond (.tmp 29) (.skip) (.exit 0)) <|
 .seq (.block 1 (.seq (.region true [⟨none,[bp 32 4 1,bp 33 4 1,aj 34 5,aj 35 7,aR 36 2 34 35,aD 37 0 36,ay 38 37,bD 39 56 [33,38],bD 40 63 [32,39],aj 8 40]⟩]) <|
 .seq (.seq (ao [aD 41 0 1,ay 42 41,aV 43 42,aD 44 1 1,ay 45 44,aV 46 45,bg 47 .add 43 46,bj 48 0]) <|
 .block 2 (.loop uL)) <|
 .seq (ao [aj 105 5,aV 106 105,aQ 107 .gtr 106 300]) <|
 .cond (.tmp 107) (.seq (ao [((some 2),.op (.bP (.val (.emp 1)))),bj 3 5]) <|
 .ret) (.skip))) <|
 ao [aj 30 7,aQ 31 .add 30 1,aj 7 31]
def yA:SF:=⟨.seq (ao [cO 1 0,((some 2),.op (.bP (.val (.emp 1)))),bj 3 0]) <|
 .seq (.seq (ao [bp 14 4 1,bD 15 61 [14],dp 16 15]) <|
 .cond (.tmp 16) (.seq (ao [((some 2),.op (.bP (.val (.emp 1)))),bj 3 1]) <|
 .ret) (.skip)) <|
 .seq (ao [((some 17),.op (.build [(.val (.int .i64 0)),(.val (.int .i64 0))] [(0,1,(.val (.val (.int .i64 (-1)))))])),((some 18),.op (.cw 1 2 [(.val (.int .i64 0)),(.val (.int .i64 0))] [(0,(.tmp 17))])),aj 4 18]) <|
 .seq (ao [aj 19 4,((some 20),.op (.build [(.emp 1),(.emp 1)] [(0,1,(.tmp 19))])),((some 21),.op (.cw 1 2 [(.emp 1),(.emp 1)] [(0,(.tmp 20))])),aj 5 21]) <|
 .seq (ao [((some 22),.op (.nR)),aj 23 4,bD 24 62 [23],(none,.op (.old (.insert 97 (.tmp 22) (.tmp 24) (.const (.int .i64 0))) 0)),aj 25 22,aj 6 25]) <|
 .seq (.seq (ao [bj 7 0]) <|
 .block 0 (.loop uR)) <|
 .seq (ao [aj 108 5,aj 2 108,bj 3 0]) <|
 .ret,
 [.tmp 2,.tmp 3],109⟩
theorem Ck:aU Tryz.prog 24 [1]=some yA:=by kernel_rfl
def TH (g:aw) (m:Nat) (T:Env) (H:View):Prop:=∃ (at_:Nat) (u:V) (S:List oW) (out:List aT) (q c:Nat) (M:bV (List UInt8)),m+at_=302∧out=S.map (fun x=>x.2.2)∧bt H ((u,2,eJ S) :: lp S)∧dN g at_ 0 out∧1≤out.length∧out.length≤300∧fh g m at_ out=cy g∧at_≤out.length ∧
 H q=.map (ct gX M) c∧qM g out M∧T 1=.aO (au g) 0∧T 5=u∧T 6=.mp q∧T 7=gi at_
set_option maxHeartbeats 32000000 in
theorem LG (g:aw) (hg:g.Ok) (hsm:g.Small):cX Tryz.prog 24 [.agg (au g)] (.bE [bO (cy g).1,gi (cy g).2]):=by
 refine cX.of (ef g) ?_
 have hIs:=L2 g hg hsm
 refine aC.of mixed Ck ?_
 simp only[au,encS] at hIs
 simp (disch:=omega) only [↓wr,seval,wq,ah,ag,ak,aa,ab,af,ai,ae,yA,au,encS]
 refine aE.pure hIs (by kernel_rfl) ?_
 simp (disch:=omega) only [↓wr,seval,wq,ah,ag,ak,aa,ab,af,ai,ae]
 refine av.split (fun hr=>?_) (fun hr=>?_)
 rotate_left
 ·simp (disch:=omega) only [↓wr,seval,wq,ah,ag,ak,aa,ab,af,ai,ae]
  intro h' _
  have e:cy g=([],1):=by unfold cy; rw[T6 (by rw[hr]; simp)]
  rw[e]
  exact nA (.emp _)
 have hf:g.dt:=nO hr
 have e0:fh g 302 0 dO=cy g:=by unfold cy; rw[T9 hr]
 have hT:=hf.az; have hN:=hf.ax
 simp (disch:=omega) only [↓wr,seval,wq,ah,ag,ak,aa,ab,af,ai,ae]
 intro q1 q2 hq2 q3 hq3
 have hst1:cq g ⟨-1,0⟩:=(mM (g:=g)).bh ⟨[⟨-1,0⟩],[]⟩ (by simp[dO]) |>.2.2 _ (by simp)
 have o0:bt (((View.set (fun _=>dy.dead) q1 (.arr 2 [[gi (-1),gi 0]])).set q2 (.arr 2 [[.sl q1 0 1 2,.emp 1]]))) ((.sl q2 0 1 2,2,eJ [(.sl q1 0 1 2,.emp 1,⟨[⟨-1,0⟩],[]⟩)]) :: lp [(.sl q1 0 1 2,.emp 1,⟨[⟨-1,0⟩],[]⟩)]) :=
  (((bt.nil.emp (k:=1) (sz:=2)).new (n:=q1) rfl 2 [[gi (-1),gi 0]]).new (by simpa [View.set] using hq2) 2 [[.sl q1 0 1 2,.emp 1]])
 have o1:=o0.fresh (n:=q3) (by simpa [View.set] using hq3) (o:=.map [] 0)
 have hm3:((((View.set (fun _=>dy.dead) q1 (.arr 2 [[gi (-1),gi 0]])).set q2 (.arr 2 [[.sl q1 0 1 2,.emp 1]])).set q3 (.map [] 0))) q3=.map (ct gX []) 0:=by simp[View.set,ct]
 generalize (((View.set (fun _=>dy.dead) q1 (.arr 2 [[gi (-1),gi 0]])).set q2 (.arr 2 [[.sl q1 0 1 2,.emp 1]])).set q3 (.map [] 0))=H3 at o1 hm3 ⊢
 clear o0 hq2 hq3
 have ok1:bf H3 (.sl q1 0 1 2) 2 (aS [⟨-1,0⟩]):=o1.1 _ (Ux _ (V1 ..))
 refine aE.ez ((GM g hf [⟨-1,0⟩] (fun x hx=>by simp at hx; subst hx; exact hst1) (by simp) (.sl q1 0 1 2) H3 ok1).mono ?_)
 rintro r H4 ⟨rfl,k4⟩
 have hm4:H4 q3=.map (ct gX []) 0:=by rw[k4 q3 (by rw[hm3]; simp),hm3]
 simp (disch:=omega) only [↓wr,seval,wq,ah,ag,ak,aa,ab,af,ai,ae,RX]
 refine uU (kt:=9) (et:=3) (by kernel_rfl) (Hd Tryz.underlying9) (id:=q3) (c:=0) (m:=[]) (k:=fP [⟨-1,0⟩]) (v:=gi 0) (by simp (disch:=omega) only [↓wr,seval,wq,ah,ag,ak,aa,ab,af,ai,ae]) (by simp (disch:=omega) only [↓wr,seval,wq,ah,ag,ak,aa,ab,af,ai,ae]) rfl hm4 ?_
 intro c'
 have hN0:qM g dO (bJ (fP [⟨-1,0⟩]) (gi 0) 0 []):=qM.put (out:=[]) hf (fun l _=>by simp[getM,findD]) (fun x hx=>by simp at hx; subst hx; exact hst1) (by simp[findD]) 0
 have o2:=(o1.stay k4).uM hm4 (o:=.map (ct gX (bJ (fP [⟨-1,0⟩]) (gi 0) 0 [])) c')
 have hm5:(H4.set q3 (.map (ct gX (bJ (fP [⟨-1,0⟩]) (gi 0) 0 [])) c')) q3=.map (ct gX (bJ (fP [⟨-1,0⟩]) (gi 0) 0 [])) c':=by simp[View.set]
 generalize H4.set q3 (.map (ct gX (bJ (fP [⟨-1,0⟩]) (gi 0) 0 [])) c')=H5 at o2 hm5 ⊢
 clear hm4 hm3 k4 ok1 o1
 clear H4 H3
 simp (disch:=omega) only [↓wr,seval,wq,ah,ag,ak,aa,ab,af,ai,ae]
 refine bc.intro (TH g) 302 ⟨0,_,_,dO,q3,c',_,rfl,rfl,o2,mM,Ug _,by simp[dO],e0,by omega,hm5,hN0,rfl,rfl,rfl,rfl⟩ ?_
 clear o2 hm5 hN0
 clear H5 q1 q2 q3 c'
 rintro m T H ⟨at_,u,S,out,q,c,M,hm,rfl,ho,hI,h1,h300,hl,hle,hmq,hNM,t1,t5,t6,t7⟩
 have hlu:cG u=some S.length:=by rw[ho.head.len,cY]
 simp only[Uc] at h1 h300 hle
 simp (disch:=omega) only [↓wr,seval,wq,ah,ag,ak,aa,ab,af,ai,ae,uR,t1,t5,t6,t7,hlu]
 refine av.dec (fun hc=>?_) (fun hc=>?_)
 rotate_left
 ·simp (disch:=omega) only [↓wr,seval,wq,ah,ag,ak,aa,ab,af,ai,ae,t5]
  have e1:cy g=(S.map (fun x=>x.2.2),0):=by
   rw[← hl]
   cases m with
   | zero=>rfl
   | succ m=>rw[fh,T6 (by simp; omega)]
  rw[e1]
  rintro h' rfl
  exact nA (De ho.head fun x hx=>⟨ho.1 _ (Ux _ (mY hx).1),ho.1 _ (Ux _ (mY hx).2)⟩)
 obtain ⟨m,rfl⟩:∃ q,m=q+1:=⟨m - 1,by omega⟩
 have hat:at_ < S.length:=by omega
 obtain ⟨S1,x,S2,rfl,hS1,hx⟩:=mo hat
 have hxm:x∈S1 ++ x :: S2:=by simp
 obtain ⟨hk1,hk2,hk3⟩:=hI.bh x.2.2 (List.mem_map_of_mem hxm)
 have hkl:=iv hf hk1 hk3
 have hh:bf H u 2 (eJ (S1 ++ x :: S2)):=ho.head
 obtain ⟨id,hu,hid⟩:=hh.sl (by rw[cY]; omega)
 have hgx:(eJ (S1 ++ x :: S2)).getD at_ []=[x.1,x.2.1]:=by simp[eJ,T0,← hS1]
 have hcl:cr g ((List.map (fun x=>x.2.2) (S1 ++ x :: S2)).getD at_ bz).bh=cr g x.2.2.bh:=by
  rw[T0,T8,hx]; rfl
 have hrow:=fun n hn=>dN.row (hI.nU hf (show at_ < ((S1 ++ x :: S2).map fun x=>x.2.2).length by simpa using hat)).1 (hI.nU hf (show at_ < ((S1 ++ x :: S2).map fun x=>x.2.2).length by simpa using hat)).2 hI n hn
 rw[fh,T9 (by simpa using hat),AW] at hl
 rw[hcl] at hl hrow
 have hcs:=lh g x.2.2.bh
 have hch:∀ y∈cr g x.2.2.bh,cq g y:=fun y hy=>((c7 hf hk3).1 hy).has hk3
 rw[cY] at hu
 simp (disch:=omega) only [↓wr,seval,wq,ah,ag,ak,aa,ab,af,ai,ae,t1,t5,t7,hu,hid,hgx,au,encS]
 refine ⟨by omega,by rw[cY]; omega,?_⟩
 refine aE.Ji (Ip g hf x.2.2.bh hk3 (by omega) x.1 H (ho.1 _ (Ux _ (mY hxm).1))) ?_
 intro r H2 or fr
 simp (disch:=omega) only [↓wr,seval,wq,ah,ag,ak,aa,ab,af,ai,ae,au,encS]
 have hcl':=iv hf hcs hch
 refine aE.still (Pw g hf (cr g x.2.2.bh) hch (by omega) r H2 or) (fun r H' h=>by obtain ⟨q,A,_,h⟩:=h; exact h.old) ?_
 rintro r2 H6 ⟨q',A,rfl,hMv⟩
 have hfr:∀ id,H id≠.dead→H6 id=H id:=fun id hid=>by rw[hMv.old id (by rw[(fr id hid).1]; exact hid),(fr id hid).1]
 have hmq6:H6 q=.map (ct gX M) c:=by rw[hfr q (by rw[hmq]; simp),hmq]
 have o6:bt H6 ((u,2,eJ (S1 ++ x :: S2)) :: (lp (S1 ++ x :: S2) ++ iR g (cr g x.2.2.bh) (A.filter fun y=>decide (((0:Nat):Int)≤y.1)))):=by
  have hA:A.filter (fun y=>decide (((0:Nat):Int)≤y.1))=A:=List.filter_eq_self.2 fun y hy=>by simpa using (hMv.ne y hy).1
  rw[hA]
  refine (ho.stay hfr).join (M:=iR g (cr g x.2.2.bh) A) hMv.own fun a ha b hb id h1 h2=>?_
  obtain ⟨y,hy,rfl⟩:=Ur.1 hb
  have h3:=hMv.new y hy id h2
  have h4:=ho.live ha h1
  rw[(fr id h4).1] at h3
  exact h4 h3
 obtain ⟨cA,hmA⟩:=hMv.mp
 have hAnd:=hMv.nd
 have hqq:q'≠q:=by
  rintro rfl
  have:=hMv.q0
  rw[(fr _ (by rw[hmq]; simp)).1,hmq] at this; simp at this
 have hAval:∀ k:Nat,(getM A (k:Int)=none→bu g (cr g x.2.2.bh) (aZ g k)=[]):=fun k h=>U7 fun hne=>getM_none.1 h (hMv.all k hne)
 clear or fr hid hgx hcl hx hfr hMv hmq
 generalize cr g x.2.2.bh=cl at *
 generalize hout0:(S1 ++ x :: S2).map (fun x=>x.2.2)=out0 at *
 have hol:out0.length=(S1 ++ x :: S2).length:=by rw[← hout0]; simp
 simp (disch:=omega) only [↓wr,seval,wq,ah,ag,ak,aa,ab,af,ai,ae,t1,t5,t6,t7,au,encS]
 refine bc.up (g.az.length+g.ax.length) (fun i T H'=>∃ (u:V) (S:List oW) (M:bV (List UInt8)) (c:Nat),S.map (fun x=>x.2.2)=(List.range i).foldl (c8 g cl at_) out0∧bt H' ((u,2,eJ S) :: (lp S ++ iR g cl (A.filter fun y=>decide (((i:Nat):Int)≤y.1)))) ∧
  H' q'=.map (ct (Value.int .i64) A) cA∧H' q=.map (ct gX M) c∧qM g (S.map fun x=>x.2.2) M∧T 1=.aO (au g) 0∧T 5=u∧T 6=.mp q∧T 7=gi at_∧T 8=.mp q'∧T 47=gi ((g.az.length+g.ax.length:Nat):Int)∧T 48=gi i)
  ⟨u,_,M,c,hout0,o6,hmA,hmq6,by rw[hout0]; exact hNM,t1,by rw[← hu]; exact t5,t6,t7,rfl,?_,rfl⟩ ?_
 ·push_cast; rfl
 rw[← hol] at h1 h300 hle hat
 clear o6 ho hh hu t1 t5 t6 t7 hlu hout0 hxm hol hc hk1 hk2 hk3 hkl hS1 hmA hmq6 hNM
 clear u H H2 H6 T id S1 x S2 M c r
 rintro i k T H' hk ⟨u,S,M,c,hA,ho,hmA,hmq,hNM,t1,t5,t6,t7,t8,t47,t48⟩
 obtain ⟨iI,il1,il2⟩:=hrow i (by omega)
 rw[← hA] at iI il1 il2
 rw[Uc] at il1 il2
 have hlu:cG u=some S.length:=by rw[ho.head.len,cY]
 simp (disch:=omega) only [↓wr,seval,wq,ah,ag,ak,aa,ab,af,ai,ae,uL,t1,t5,t6,t7,t8,t47,t48]
 refine av.dec (fun hc=>?_) (fun hc=>?_)
 rotate_left
 ·have hi:i=g.az.length+g.ax.length:=by omega
  subst hi
  rw[← hA] at hl
  simp (disch:=omega) only [↓wr,seval,wq,ah,ag,ak,aa,ab,af,ai,ae,t1,t5,t6,t7,hlu]
  refine av.dec (fun h3=>?_) (fun h3=>?_)
  ·simp (disch:=omega) only [↓wr,seval,wq,ah,ag,ak,aa,ab,af,ai,ae]
   intro h' _
   rw[T9 (by rw[Uc]; omega)] at hl
   rw[← hl]
   exact nA (.emp _)
  ·simp (disch:=omega) only [↓wr,seval,wq,ah,ag,ak,aa,ab,af,ai,ae,t1,t5,t6,t7]
   rw[T6 (by rw[Uc]; omega)] at hl
   exact ⟨m,by omega,at_+1,u,S,_,q,c,M,by omega,rfl,ho.sub (List.Sublist.cons_cons _ (List.sublist_append_left _ _)),iI.next,by rw[Uc]; omega,by rw[Uc]; omega,hl,by rw[Uc]; omega,hmq,hNM,t1,t5,t6,rfl⟩
 have hcN:i < g.az.length+g.ax.length:=by omega
 have hsb:=BW hf hcN
 have hstep:(List.range (i+1)).foldl (c8 g cl at_) out0=c8 g cl at_ (S.map fun x=>x.2.2) i:=by rw[U4,UM,← hA]; rfl
 have hval:bf H' ((getM A (i:Int)).getD (.emp 1)) 2 (aS (bu g cl (aZ g i))):=by
  cases hg:getM A (i:Int) with
  | none=>rw[hAval i hg]; exact .nil
  | some v =>
   obtain ⟨b,hp⟩:=GC hAnd hg
   refine ho.1 (v,2,aS (bu g cl (aZ g i))) (Ux _ (VC _ (Ur.2 ⟨((i:Int),v,b),hp.mem_iff.2 (by simp),?_⟩)))
   simp
 have hsub:(iR g cl (A.filter fun y=>decide (((i+1:Nat):Int)≤y.1))).Sublist (iR g cl (A.filter fun y=>decide (((i:Nat):Int)≤y.1))):=by
  have:A.filter (fun y=>decide (((i+1:Nat):Int)≤y.1))=(A.filter (fun y=>decide (((i:Nat):Int)≤y.1))).filter (fun y=>decide (((i+1:Nat):Int)≤y.1)):=by
   rw[List.filter_filter]
   refine List.filter_congr fun y _=>?_
   rw[← Bool.decide_and,decide_eq_decide]; omega
  rw[this]
  exact (List.filter_sublist).map _
 simp (disch:=omega) only [↓wr,seval,wq,ah,ag,ak,aa,ab,af,ai,ae,t8,t48]
 refine zu (kt:=3) (et:=27) (z:=.emp 1) (by kernel_rfl) (by kernel_rfl) (kx .i64 Tryz.underlying3) (id:=q') (c:=cA) (m:=A) (k:=(i:Int)) (by simp (disch:=omega) only [↓wr,seval,wq,ah,ag,ak,aa,ab,af,ai,ae]) (by simp (disch:=omega) only [↓wr,seval,wq,ah,ag,ak,aa,ab,af,ai,ae]) hmA ?_
 simp (disch:=omega) only [↓wr,seval,wq,ah,ag,ak,aa,ab,af,ai,ae]
 refine aE.ez ((No (Eo (aZ g i) hcs) (by have:=sB (g:=g) (l:=cl) (s:=aZ g i); omega) _ H' hval).mono ?_)
 rintro r _ ⟨rfl,or,hreq⟩
 have hml:=sB (g:=g) (l:=cl) (s:=aZ g i)
 have hmh:=Hk (s:=aZ g i) hch
 have hl9:cG r=some (bu g cl (aZ g i)).length:=by rw[or.len,bF]
 simp (disch:=omega) only [↓wr,seval,wq,ah,ag,ak,aa,ab,af,ai,ae,hl9]
 refine av.eq (fun he=>?_) (fun he=>?_)
 ·have hnil:bu g cl (aZ g i)=[]:=Vn.1 (by omega)
  simp (disch:=omega) only [↓wr,seval,wq,ah,ag,ak,aa,ab,af,ai,ae,t1,t5,t6,t7,t8,t47,t48]
  exact aN hk (by omega) ⟨u,S,M,c,by rw[hstep,c8,T9 hnil],ho.sub (List.Sublist.cons_cons _ (hsub.append_left _)),hmA,hmq,hNM,t1,t5,t6,t7,t8,t47,rfl⟩
 have hne:bu g cl (aZ g i)≠[]:=fun e=>he (by rw[e]; rfl)
 have hgs:∃ v,getM A (i:Int)=some v:=by
  cases hg:getM A (i:Int) with
  | none=>exact absurd (hAval i hg) hne
  | some v=>exact ⟨v,rfl⟩
 obtain ⟨v,hg⟩:=hgs
 have hrv:=hreq hne
 rw[hg] at hrv
 simp only[Un] at hrv
 obtain ⟨b,hperm⟩:=GC hAnd hg
 have hperm2:(iR g cl (A.filter fun y=>decide (((i:Nat):Int)≤y.1))).Perm ((r,2,aS (bu g cl (aZ g i))) :: iR g cl (A.filter fun y=>decide (((i+1:Nat):Int)≤y.1))):=by
  have:=hperm.map (fun x:Int × V × Nat=>((x.2.1,2,aS (bu g cl (aZ g x.1.toNat))):cF))
  simp only[Uz,Uq] at this
  rw[hrv]; exact this
 have hfl:=wb (S.map fun x=>x.2.2) (bu g cl (aZ g i))
 have hfg:=sx (S.map fun x=>x.2.2) (bu g cl (aZ g i))
 rw[Uc] at hfl
 have hNk:=hNM (bu g cl (aZ g i)) hmh
 have hat2:at_ < S.length:=by omega
 obtain ⟨S1,x,S2,hSs,hS1,hx⟩:=mo hat2
 have hxe:x.2.2.bm.length≤40:=(iI.bm at_ x.2.2 (by rw[T8,hx]; rfl)).1
 have hgx:∀ B,(eJ (S1 ++ x :: B)).getD at_ []=[x.1,x.2.1]:=fun B=>by simp[eJ,T0,← hS1]
 have hput:∀ (B:List oW) (c:dC),((S1 ++ x :: B).map fun x=>x.2.2).modify at_ (fun s=>(⟨s.bh,s.bm ++ [c]⟩:aT))=(S1 ++ (x.1,x.2.1,(⟨x.2.2.bh,x.2.2.bm ++ [c]⟩:aT)) :: B).map fun x=>x.2.2:=fun B c=>by
  rw[UA,Uz,← hS1,← Uc (f:=fun x:oW=>x.2.2),Ct,UA,Uz]
 simp (disch:=omega) only [↓wr,seval,wq,ah,ag,ak,aa,ab,af,ai,ae,t1,t5,t6,t7,t8,au,encS]
 refine av.dec (fun hge=>?_) (fun hge=>?_)
 simp (disch:=omega) only [↓wr,seval,wq,ah,ag,ak,aa,ab,af,ai,ae,t1,t5,t6,t7,t8,au,encS]
 have hs:aZ g i=(g.az.length:Int) - 1 - i:=by unfold aZ; rw[T6 (by omega)]; omega
 generalize (g.az.length:Int) - 1 - (i:Int)=sv at hs ⊢
 rotate_left
 simp (disch:=omega) only [↓wr,seval,wq,ah,ag,ak,aa,ab,af,ai,ae,t1,t5,t6,t7,t8,au,encS]
 have hs:aZ g i=(i:Int):=by unfold aZ; rw[T9 (by omega)]
 generalize ((i:Nat):Int)=sv at hs ⊢
 all_goals (
  refine aE.ez ((GM g hf (bu g cl (aZ g i)) hmh (by omega) r H' or).mono ?_)
  rintro rk H3 ⟨rfl,k3⟩
  have hmq3:H3 q=.map (ct gX M) c:=by rw[k3 q (by rw[hmq]; simp),hmq]
  have hmA3:H3 q'=.map (ct (Value.int .i64) A) cA:=by rw[k3 q' (by rw[hmA]; simp),hmA]
  have o3:=ho.stay k3
  have or3:bf H3 r 2 (aS (bu g cl (aZ g i))):=or.keep fun id hid=>k3 id (by rw[(or.live hid).1]; simp)
  simp (disch:=omega) only [↓wr,seval,wq,ah,ag,ak,aa,ab,af,ai,ae,t6]
  refine P3 (kt:=9) (et:=3) (z:=gi 0) (by kernel_rfl) (by kernel_rfl) (Hd Tryz.underlying9) (id:=q) (c:=c) (m:=M) (k:=fP (bu g cl (aZ g i))) (by simp (disch:=omega) only [↓wr,seval,wq,ah,ag,ak,aa,ab,af,ai,ae]) (by simp (disch:=omega) only [↓wr,seval,wq,ah,ag,ak,aa,ab,af,ai,ae]) hmq3 ?_
  by_cases hneg:findD (S.map fun x=>x.2.2) (bu g cl (aZ g i)) < 0
  rw[T9 hneg] at hNk
  rw[hNk]
  simp only[Option.getD_none,Option.isSome_none]
  simp (disch:=omega) only [↓wr,seval,wq,ah,ag,ak,aa,ab,af,ai,ae,t1,t5,t6,t7,t8,hlu]
  refine aE.ez ((GM g hf (bu g cl (aZ g i)) hmh (by omega) r H3 or3).mono ?_)
  rintro rk2 H4 ⟨rfl,k4⟩
  have hmq4:H4 q=.map (ct gX M) c:=by rw[k4 q (by rw[hmq3]; simp),hmq3]
  have hmA4:H4 q'=.map (ct (Value.int .i64) A) cA:=by rw[k4 q' (by rw[hmA3]; simp),hmA3]
  have o4:=o3.stay k4
  simp (disch:=omega) only [↓wr,seval,wq,ah,ag,ak,aa,ab,af,ai,ae,t6]
  refine uU (kt:=9) (et:=3) (by kernel_rfl) (Hd Tryz.underlying9) (id:=q) (c:=c) (m:=M) (k:=fP (bu g cl (aZ g i))) (v:=gi S.length) (by simp (disch:=omega) only [↓wr,seval,wq,ah,ag,ak,aa,ab,af,ai,ae]) (by simp (disch:=omega) only [↓wr,seval,wq,ah,ag,ak,aa,ab,af,ai,ae]) (by simp (disch:=omega) only [↓wr,seval,wq,ah,ag,ak,aa,ab,af,ai,ae]) hmq4 ?_
  intro c'
  have hN2:qM g ((S1 ++ x :: (S2 ++ [(r,.emp 1,(⟨bu g cl (aZ g i),[]⟩:aT))])).map fun x=>x.2.2) (bJ (fP (bu g cl (aZ g i))) (gi S.length) c M):=by
   have:=qM.put hf hNM hmh hneg c
   rw[Uc] at this
   refine this.same ?_
   rw[hSs]; simp
  have hmq5:(H4.set q (.map (ct gX (bJ (fP (bu g cl (aZ g i))) (gi S.length) c M)) c')) q=.map (ct gX (bJ (fP (bu g cl (aZ g i))) (gi S.length) c M)) c':=by simp[View.set]
  have hmA5:(H4.set q (.map (ct gX (bJ (fP (bu g cl (aZ g i))) (gi S.length) c M)) c')) q'=.map (ct (Value.int .i64) A) cA:=by
   simp only[View.set]; rw[T6 hqq]; exact hmA4
  have o5:=o4.uM hmq4 (o:=.map (ct gX (bJ (fP (bu g cl (aZ g i))) (gi S.length) c M)) c')
  generalize H4.set q (.map (ct gX (bJ (fP (bu g cl (aZ g i))) (gi S.length) c M)) c')=H5 at hmq5 hmA5 o5 ⊢
  clear hmq4 hmA4 o4 k4
  generalize bJ (fP (bu g cl (aZ g i))) (gi S.length) c M=M2 at hN2 hmq5
  simp (disch:=omega) only [↓wr,seval,wq,ah,ag,ak,aa,ab,af,ai,ae,t1,t5,t6,t7,t8,or.cells,or.jt]
  intro q5 hq5
  simp (disch:=omega) only [↓wr,seval,wq,ah,ag,ak,aa,ab,af,ai,ae,cb]
  have hnq:∀ b,H5 b≠.dead→b≠q5:=fun b hb e=>hb (by rw[e]; exact hq5)
  refine c6 (o5.fresh hq5) (by simp[or.jt,zk]) (by unfold aK; rw[cY]; simp; omega) (by unfold aK; rw[cY]; simp; omega) ?_
  intro u2 H10 o11 l11
  have hmq10:=l11.map (o5.fresh (o:=.arr 2 [[r,.emp 1]]) hq5).head (b:=q) (c:=c') (es:=ct gX M2) (by simp only[View.set]; rw[T6 (hnq q (by rw[hmq5]; simp)),hmq5])
  have hmA10:=l11.map (o5.fresh (o:=.arr 2 [[r,.emp 1]]) hq5).head (b:=q') (c:=cA) (es:=ct (Value.int .i64) A) (by simp only[View.set]; rw[T6 (hnq q' (by rw[hmA5]; simp)),hmA5])
  have o12:=(o11.emp (k:=1) (sz:=2)).perm (R8 hperm2)
  have hst:c8 g cl at_ (S.map fun x=>x.2.2) i=((S1 ++ x :: (S2 ++ [(r,.emp 1,(⟨bu g cl (aZ g i),[]⟩:aT))])).map fun x=>x.2.2).modify at_ (fun s=>(⟨s.bh,s.bm ++ [⟨aZ g i,(S.length:Int)⟩]⟩:aT)):=by
   rw[c8,T6 hne,T9 hneg,Uc]
   congr 1
   rw[hSs]; simp
  have o13:bt H10 ((u2,2,eJ (S1 ++ x :: (S2 ++ [(r,.emp 1,(⟨bu g cl (aZ g i),[]⟩:aT))]))) :: (lp (S1 ++ x :: (S2 ++ [(r,.emp 1,(⟨bu g cl (aZ g i),[]⟩:aT))])) ++ iR g cl (A.filter fun y=>decide (((i+1:Nat):Int)≤y.1)))):=by
   have e1:eJ (S1 ++ x :: (S2 ++ [(r,.emp 1,(⟨bu g cl (aZ g i),[]⟩:aT))]))=eJ S ++ [[r,.emp 1]]:=by rw[hSs]; simp[eJ]
   have e2:lp (S1 ++ x :: (S2 ++ [(r,.emp 1,(⟨bu g cl (aZ g i),[]⟩:aT))]))=lp S ++ [(r,2,aS (bu g cl (aZ g i))),(.emp 1,2,[])]:=by rw[hSs]; simp[lp]; rfl
   rw[e1,e2]
   exact o12
  have hBl:(S1 ++ x :: (S2 ++ [(r,V.emp 1,(⟨bu g cl (aZ g i),[]⟩:aT))])).length≤400:=by
   have:=Vl List.length hSs
   simp at this ⊢; omega
  generalize (S2 ++ [(r,V.emp 1,(⟨bu g cl (aZ g i),[]⟩:aT))])=B at hst o13 hN2 hBl
  generalize (S.length:Int)=to at hst ⊢
  clear o11 o12 l11 hmq5 hmA5 o5 hnq hq5
  rotate_left
  rw[T6 hneg] at hNk
  rw[hNk]
  simp only[Un,Option.isSome_some]
  simp (disch:=omega) only [↓wr,seval,wq,ah,ag,ak,aa,ab,af,ai,ae,t1,t5,t6,t7,t8]
  have hst:c8 g cl at_ (S.map fun x=>x.2.2) i=((S1 ++ x :: S2).map fun x=>x.2.2).modify at_ (fun s=>(⟨s.bh,s.bm ++ [⟨aZ g i,findD (S.map fun x=>x.2.2) (bu g cl (aZ g i))⟩]⟩:aT)):=by
   rw[c8,T6 hne,T6 hneg,← hSs]
  have o13:=o3.sub (List.Sublist.cons_cons _ (hsub.append_left _))
  have hN2:=hNM
  have hBl:(S1 ++ x :: S2).length≤400:=by rw[← hSs]; omega
  have hmq10:=hmq3
  have hmA10:=hmA3
  generalize H3=H10 at o13 hmq10 hmA10 ⊢
  generalize u=u2 at o13 t5 ⊢
  rw[hSs] at o13 hN2
  generalize findD (S.map fun x=>x.2.2) (bu g cl (aZ g i))=to at hst ⊢
  generalize S2=B at hst o13 hN2 hBl
  generalize M=M2 at hmq10 hN2
  generalize c=c' at hmq10
  all_goals (
   obtain ⟨id,hu,hid⟩:=(show bf H10 u2 2 (eJ (S1 ++ x :: B)) from o13.head).sl (by rw[cY]; simp; omega)
   rw[cY] at hu
   rw[zj] at o13
   simp only[UL,UI] at o13
   simp (disch:=omega) only [↓wr,seval,wq,ah,ag,ak,aa,ab,af,ai,ae,t1,t5,t6,t7,t8,hu,hid,hgx B]
   refine ⟨by simp; omega,by rw[cY]; simp; omega,?_⟩
   intro q2 hq2
   have hnq:∀ b,H10 b≠.dead→b≠q2:=fun b hb e=>hb (by rw[e]; exact hq2)
   simp (disch:=omega) only [↓wr,seval,wq,ah,ag,ak,aa,ab,af,ai,ae,cb]
   refine c6 ((o13.perm Fp).fresh hq2) (by simp[aX]) (by unfold aK; simp[fW]; omega) (by unfold aK; simp[fW]; omega) ?_
   intro e2 H11 o14 l14
   have hmq11:=l14.map ((o13.perm Fp).fresh (o:=.arr 2 [[gi sv,gi to]]) hq2).head (b:=q) (c:=c') (es:=ct gX M2) (by simp only[View.set]; rw[T6 (hnq q (by rw[hmq10]; simp)),hmq10])
   have hmA11:=l14.map ((o13.perm Fp).fresh (o:=.arr 2 [[gi sv,gi to]]) hq2).head (b:=q') (c:=cA) (es:=ct (Value.int .i64) A) (by simp only[View.set]; rw[T6 (hnq q' (by rw[hmA10]; simp)),hmA10])
   have hid2:H11 id=.arr 2 (eJ (S1 ++ x :: B)):=((o14.own 1 rfl).live (by rw[hu]; rfl)).1
   simp (disch:=omega) only [↓wr,seval,wq,ah,ag,ak,aa,ab,af,ai,ae,t1,t5,t6,t7,t8,t47,t48,hu,hid2,hgx B,o14.head.cells,o14.head.jt]
   have hset:(eJ (S1 ++ x :: B)).set at_ [x.1,e2]=eJ (S1 ++ (x.1,e2,(⟨x.2.2.bh,x.2.2.bm ++ [⟨aZ g i,to⟩]⟩:aT)) :: B):=by
    rw[← hS1]; simp[eJ]
   have hpd:fW (x.2.2.bm ++ [⟨aZ g i,to⟩])=fW x.2.2.bm ++ [[gi sv,gi to]]:=by rw[hs]; simp[fW,kd]
   have o15:=o14.perm (.swap _ _ _)
   rw[hu] at o15
   have o16:=((o15.put (es':=eJ (S1 ++ (x.1,e2,(⟨x.2.2.bh,x.2.2.bm ++ [⟨aZ g i,to⟩]⟩:aT)) :: B)) (by rw[cY,cY]; simp) (by rw[cY])).perm (.swap _ _ _)).perm Fp.symm
   rw[← hpd] at o16
   rw[← hu] at o16
   rw[hset]
   have hnid:∀ b c es,H11 b=.map es c→b≠id:=fun b c es hb e=>by rw[e,hid2] at hb; simp at hb
   refine ⟨by simp; omega,by rw[cY]; simp; omega,aN hk (by omega) ⟨u2,_,M2,c',?_,by rw[zj]; simp only[UL,UI]; exact o16,?_,?_,?_,t1,by first | rfl | exact t5 | exact hu.symm,t6,t7,t8,t47,rfl⟩⟩
   ·rw[hstep,hst,hput]; simp
   ·simp only[View.set]; rw[T6 (hnid q' _ _ hmA11)]; exact hmA11
   ·simp only[View.set]; rw[T6 (hnid q _ _ hmq11)]; exact hmq11
   ·refine hN2.same ?_
    simp))
def lH:SC :=
 .seq (ao [bg 73 .lss 72 71]) <|
 .seq (.cond (.tmp 73) (.skip) (.exit 2)) <|
 .seq (.block 3 (.seq (ao [aR 74 2 70 72,bp 75 2 74,((some 6),.op (.alloc [(.val (.int .i64 0)),(.val (.int .i64 0))])),(none,.op (.store 2 (.tmp 6) (.tmp 75)))]) <|
 .seq (ao [aD 76 0 6,ay 77 76,aQ 78 .geq 77 0]) <|
 .cond (.tmp 78) (.region true [⟨none,[aj 79 0,fZ 80 79,aD 81 8 80,ay 82 81,aj 83 2,aR 84 1 82 83,ay 85 84,aD 86 0 6,ay 87 86,((some 88),.op (.cw 1 1 [(.val (.int .i64 0))] [(0,(.tmp 87))])),bD 89 120 [88],bg 90 .or 85 89,aR 91 1 82 83,(none,.op (.store 1 (.tmp 91) (.tmp 90)))]⟩]) (.seq (ao [aj 92 0,fZ 93 92,aD 94 5 93,ay 95 94,aD 96 0 6,ay 97 96,((some 98),.op (.arith .sub (.val (.val (.int .i64 (-1)))) (.tmp 97))),aR 99 1 95 98,ay 100 99]) <|
 .cond (.tmp 100) (.rO [(103,112)] [⟨none,[aj 101 0,fZ 102 101,aD 103 9 102,ay 104 103,aj 105 2,aj 106 0,fZ 107 106,aD 108 9 107,ay 109 108,aj 110 2,aR 111 1 109 110,ay 112 111,aj 113 0,fZ 114 113,aD 115 6 114,ay 116 115,aj 117 4,aD 118 0 6,ay 119 118,((some 120),.op (.arith .sub (.val (.val (.int .i64 (-1)))) (.tmp 119))),((some 121),.op (.build [(.val (.int .i64 0)),(.val (.int .i64 0))] [(0,1,(.tmp 117)),(1,1,(.tmp 120))])),((some 122),.op (.old (.lookup 110 (.tmp 116) (.tmp 121) false) 3)),((some 123),.op (.cw 1 1 [(.val (.int .i64 0))] [(0,(.tmp 122))])),((some 124),.op (.app 1 8 (.tmp 112) (.tmp 123))),aR 125 1 104 105,(none,.op (.store 1 (.tmp 125) (.tmp 124)))]⟩]) (.skip)))) <|
 ao [aQ 126 .add 72 1,aj 72 126]
def qZ:SC :=
 .seq (ao [bg 22 .lss 21 20]) <|
 .seq (.cond (.tmp 22) (.skip) (.exit 0)) <|
 .seq (.block 1 (.seq (ao [aj 23 21,aR 24 2 19 21,bp 25 2 24,((some 3),.op (.alloc [(.val (.int .i64 0)),(.val (.int .i64 0))])),aj 2 23,(none,.op (.store 2 (.tmp 3) (.tmp 25)))]) <|
 .seq (ao [aj 26 0,aD 27 0 3,ay 28 27,aD 29 1 3,ay 30 29,((some 31),.op (.arith .sub (.val (.val (.int .i64 (-1)))) (.tmp 30))),bD 32 119 [26,28,31],aj 4 32]) <|
 .seq (.seq (.region false [⟨none,[aD 33 0 3,ay 34 33,aQ 35 .eql 34 0,aj 36 35]⟩,⟨(some (36,true)),[aD 37 1 3,ay 38 37,aj 39 0,fZ 40 39,aD 41 0 40,aD 42 3 41,ay 43 42,bg 44 .eql 38 43]⟩,⟨none,[eS 45 36 44]⟩]) <|
 .cond (.tmp 45) (.region true [⟨none,[aj 46 0,fZ 47 46,aD 48 8 47,ay 49 48,aj 50 2,aR 51 1 49 50,ay 52 51,aj 53 0,fZ 54 53,aD 55 0 54,aD 56 0 55,ay 57 56,aV 58 57,((some 59),.op (.cw 1 1 [(.val (.int .i64 0))] [(0,(.tmp 58))])),bD 60 120 [59],bg 61 .or 52 60,aR 62 1 49 50,(none,.op (.store 1 (.tmp 62) (.tmp 61)))]⟩]) (.skip)) <|
 .seq (ao [aj 63 0,fZ 64 63,aD 65 4 64,ay 66 65,aj 67 4,aR 68 2 66 67,aD 69 1 68,ay 70 69,aV 71 70,bj 72 0]) <|
 .block 2 (.loop lH))) <|
 ao [aQ 127 .add 21 1,aj 21 127]
def tw:SF:=⟨.seq (ao [aj 7 0,aj 8 0,fZ 9 8,aD 10 7 9,ay 11 10,aV 12 11,((some 13),.op (.make 1 24 [(.emp 1)] (.tmp 12) (.tmp 12))),fZ 14 7,aD 15 9 14,(none,.op (.store 1 (.tmp 15) (.tmp 13)))]) <|
 .seq (.seq (ao [aj 16 0,fZ 17 16,aD 18 7 17,ay 19 18,aV 20 19,bj 21 0]) <|
 .block 0 (.loop qZ)) <|
 ao [aj 128 0,bD 129 75 [128]],
 [],130⟩
theorem yl:aU Tryz.prog 73 [100000]=some tw:=by kernel_rfl
theorem Qp {α:Type} {a b c d r:α} {X Y:List α} : (a :: b :: c :: d :: (X ++ r :: Y)).Perm (r :: d :: a :: b :: c :: (X ++ Y)) :=
 (UZ (l₁:=a :: b :: c :: d :: X) (a:=r) (l₂:=Y)).trans (.cons _ (UZ (l₁:=[a,b,c]) (a:=d) (l₂:=X ++ Y)))
section
variable {g:aw} {a:List aT} {H:View} {W qn cM:Nat} {M:bV (Int × Int)} {uw:V} {s e:Nat} {ws:List (Int × Int)} {Sl:List BV} {A:List (V × List Nat)} {L:List cF}
theorem cR.stay (h:cR g a H W qn cM M uw s e ws Sl A L) {H':View} (hf:∀ id,H id≠.dead→H' id=H id):cR g a H' W qn cM M uw s e ws Sl A L :=
 ⟨h.own.stay hf,by rw[hf qn (by rw[h.mp]; simp)]; exact h.mp,h.bo,h.num,h.sl,h.al⟩
theorem cR.fresh (h:cR g a H W qn cM M uw s e ws Sl A L) {q:Nat} (hq:H q=.dead) {o:dy} : cR g a (H.set q o) W qn cM M uw s e ws Sl A L :=
 h.stay fun id hid=>by simp only[View.set]; rw[T6 (fun e=>hid (by rw[e]; exact hq))]
theorem cR.at (h:cR g a H W qn cM M uw s e ws Sl A L) (hn:1≤ws.length):H W=.arr 10 [[.aL (g.az.map cg),.aL (g.ax.map fun s=>[gs s]),.aL (g.rules.map aP),gi g.start,bO a,bI (aA g false),.mp qn,uw,.sl s 0 ws.length 1,.sl e 0 ws.length 1]] ∧
  (∃ w,uw=.sl w 0 ws.length 2∧H w=.arr 2 (mf ws))∧H s=.arr 1 (bY Sl)∧H e=.arr 1 (bU A)∧W≠s∧W≠e∧s≠e:=by
 have hsl:=h.sl
 have hal:=h.al
 refine ⟨h.own.is 0 rfl (by simp),?_,h.own.is 2 rfl (by simp; omega),h.own.is 3 rfl (by simp[bU]; omega),h.own.DB 0 2 rfl rfl (by decide),h.own.DB 0 3 rfl rfl (by decide),h.own.DB 2 3 rfl rfl (by decide)⟩
 obtain ⟨w,h1,h2⟩:=(h.own.own 1 rfl).sl (by simp; omega)
 exact ⟨w,by rw[h1,Uc],h2⟩
theorem cR.xC (h:cR g a H W qn cM M uw s e ws Sl A L) {Sl':List BV} (hl:Sl'.length=ws.length):cR g a (H.set s (.arr 1 (bY Sl'))) W qn cM M uw s e ws Sl' A L:=by
 have p:∀ x y z:cF,∀ L:List cF,(x :: y :: z :: L).Perm (z :: x :: y :: L):=fun x y z L=>UZ (l₁:=[x,y]) (a:=z) (l₂:=L)
 refine ⟨((h.own.perm (p _ _ _ _)).put (es':=bY Sl') (by simp[hl,h.sl]) (by simp[h.sl])).perm (p _ _ _ _).symm,?_,h.bo,h.num,hl,h.al⟩
 have:=h.own.zf h.mp (.sl s 0 ws.length 1,1,bY Sl) (by simp)
 simp only[View.set]; rw[T6 (fun e=>this (by rw[e]; rfl))]; exact h.mp
theorem cR.row (h:cR g a H W qn cM M uw s e ws Sl A L) {A1 A2:List (V × List Nat)} {u:V} {l:List Nat} (hA:A=A1 ++ (u,l) :: A2):bt H ((u,1,fa l) :: (.sl e 0 ws.length 1,1,bU A) :: (.sl W 0 1 10,10,[[.aL (g.az.map cg),.aL (g.ax.map fun s=>[gs s]),.aL (g.rules.map aP),gi g.start,bO a,bI (aA g false),.mp qn,uw,.sl s 0 ws.length 1,.sl e 0 ws.length 1]]) :: (uw,2,mf ws) :: (.sl s 0 ws.length 1,1,bY Sl) :: (iB A1 ++ (iB A2 ++ L))):=by
 have h1:=h.own
 rw[show iB A ++ L=iB A1 ++ (u,1,fa l) :: (iB A2 ++ L) by rw[hA]; simp[iB]] at h1
 exact h1.perm Qp
theorem cR.RG (h:cR g a H W qn cM M uw s e ws Sl A L) {A1 A2:List (V × List Nat)} {u u':V} {l l':List Nat} (hA:A=A1 ++ (u,l) :: A2) {H':View} {es:List (List V)} (hes:es=fa l')
  (ho:bt H' ((u',1,es) :: (.sl e 0 ws.length 1,1,bU A) :: (.sl W 0 1 10,10,[[.aL (g.az.map cg),.aL (g.ax.map fun s=>[gs s]),.aL (g.rules.map aP),gi g.start,bO a,bI (aA g false),.mp qn,uw,.sl s 0 ws.length 1,.sl e 0 ws.length 1]]) :: (uw,2,mf ws) :: (.sl s 0 ws.length 1,1,bY Sl) :: (iB A1 ++ (iB A2 ++ L))))
  (hm:H' qn=.map (bN eK M) cM):cR g a (H'.set e (.arr 1 (bU (A1 ++ (u',l') :: A2)))) W qn cM M uw s e ws Sl (A1 ++ (u',l') :: A2) L:=by
 have hal:=h.al
 have h1:=((ho.perm (.swap _ _ _)).put (es':=bU (A1 ++ (u',l') :: A2)) (by rw[hA]; simp[bU]) (by rw[bU,Uc,hal])).perm (.swap _ _ _)
 rw[hes] at h1
 refine ⟨?_,?_,h.bo,h.num,h.sl,by rw[← hal,hA]; simp⟩
 ·rw[show iB (A1 ++ (u',l') :: A2) ++ L=iB A1 ++ (u',1,fa l') :: (iB A2 ++ L) by simp[iB]]
  exact h1.perm Qp.symm
 ·have:=ho.zf hm (.sl e 0 ws.length 1,1,bU A) (by simp)
  simp only[View.set]; rw[T6 (fun e=>this (by rw[e]; rfl))]; exact hm
theorem cR.Ql (h:cR g a H W qn cM M uw s e ws Sl A L) {e2:Nat} (hq:H e2=.dead):cR g a ((H.set e2 (.arr 1 (List.replicate ws.length [.emp 1]))).set W (.arr 10 [[.aL (g.az.map cg),.aL (g.ax.map fun s=>[gs s]),.aL (g.rules.map aP),gi g.start,bO a,bI (aA g false),.mp qn,uw,.sl s 0 ws.length 1,.sl e2 0 ws.length 1]])) W qn cM M uw s e2 ws Sl (List.replicate ws.length (.emp 1,[])) L:=by
 have h1:bt H ((.sl W 0 1 10,10,[[.aL (g.az.map cg),.aL (g.ax.map fun s=>[gs s]),.aL (g.rules.map aP),gi g.start,bO a,bI (aA g false),.mp qn,uw,.sl s 0 ws.length 1,.sl e 0 ws.length 1]]) :: (uw,2,mf ws) :: (.sl s 0 ws.length 1,1,bY Sl) :: L) :=
  h.own.sub (.cons_cons _ (.cons_cons _ (.cons_cons _ (.cons _ (List.sublist_append_right _ _)))))
 have o3:=h1.new hq 1 (List.replicate ws.length [V.emp 1])
 have o4:=(o3.perm (.swap _ _ _)).put (es':=[[.aL (g.az.map cg),.aL (g.ax.map fun s=>[gs s]),.aL (g.rules.map aP),gi g.start,bO a,bI (aA g false),.mp qn,uw,.sl s 0 ws.length 1,.sl e2 0 ws.length 1]]) rfl rfl
 have o5:=((o4.perm (.cons _ (UZ (l₁:=[_,_]) (l₂:=L)).symm)).Pu ws.length).perm (.cons _ (.cons _ (.cons _ (.cons _ List.perm_append_comm))))
 have e2':List.replicate ws.length [V.emp 1]=bU (List.replicate ws.length ((V.emp 1,[]):V × List Nat)):=by simp[bU]
 rw[VT] at o5
 refine ⟨?_,?_,h.bo,h.num,h.sl,by simp⟩
 ·rw[← e2']; exact o5
 ·have hWm:=h.own.zf h.mp _ (V1 ..)
  simp only[View.set]
  rw[T6 (fun e=>hWm (by rw[e]; rfl)),T6 (fun e=>by have:=h.mp; rw[e,hq] at this; simp at this)]
  exact h.mp
theorem D5 {A:List (V × List Nat)} {x:Nat} (hx:x < A.length):((A.getD x (.any,[])).1,1,fa (A.getD x (.any,[])).2)∈iB A:=by
 have h:A[x]?=some (A.getD x (.any,[])):=getD_some hx
 exact Ur.2 ⟨_,Ub h,rfl⟩
theorem cR.Ro (h:cR g a H W qn cM M uw s e ws Sl A L) (hn:1≤ws.length) {E:Nat→List Nat} (hE:∀ x,x < ws.length→(A.getD x (.any,[])).2=E x) (hE2:∀ x,x < ws.length→(E x).length≤1000000000∧∀ y∈E x,y < ws.length) :
  RY ws.length E H W s e (A.map (·.1)) (.aL (g.az.map cg),.aL (g.ax.map fun s=>[gs s]),.aL (g.rules.map aP),gi g.start,bO a,bI (aA g false),.mp qn,uw):=by
 obtain ⟨hW,⟨w,huw,hw⟩,hs,he,n1,n2,n3⟩:=h.at hn
 have hal:=h.al
 have hu:∀ x,x < ws.length→(A.map (·.1)).getD x .any=(A.getD x (.any,[])).1:=fun x hx=>by
  simp[T0,T4 (show x < A.length by omega)]
 refine ⟨hW,by rw[he]; simp[bU],by simpa using hal,fun x hx=>?_,hE2,by rw[huw]; rfl,n1,Ne.symm n3,fun x hx=>?_⟩
 ·rw[hu x hx,← hE x hx]
  exact h.own.1 _ (by simp only[Uk]; exact .inr (.inr (.inr (.inr (Vz _ (D5 (x:=x) (by omega)))))))
 ·rw[hu x hx]
  have p:∀ x y z:cF,∀ L:List cF,(x :: y :: z :: L).Perm (z :: x :: y :: L):=fun x y z L=>UZ (l₁:=[x,y]) (a:=z) (l₂:=L)
  exact (h.own.perm (p _ _ _ _)).off rfl _ (by simp only[Uk]; exact .inr (.inr (.inr (Vz _ (D5 (x:=x) (by omega))))))
end
def Oc (n:Nat) (Sl:List BV) (A:List (V × List Nat)) (fS:Nat→BV) (fA:Nat→List Nat):Prop:=∀ y,y < n→Sl.getD y 0=fS y∧(A.getD y (.any,[])).2=fA y
theorem AL {α:Type} {l r:List α} {x y d:α} {z:Nat} (h:z≠l.length):(l ++ x :: r).getD z d=(l ++ y :: r).getD z d:=by
 simp only[T0]
 rcases Uv z l.length with q | q
 ·rw[Us q,Us q]
 ·rw[UH q,UH q]
  obtain ⟨k,hk⟩:∃ k,z - l.length=k+1:=⟨z - l.length - 1,by omega⟩
  rw[hk,UP,UP]
theorem Bt (b:BV) (l:List dC) (e:dC):oc b (l ++ [e])=if 0≤e.sym then oc b l ||| eo e.sym else oc b l:=by
 unfold oc; rw[UM]; rfl
theorem DM (g:aw) (ws:List (Int × Int)) (q:Nat) (l:List dC) (e:dC):rZ g ws q (l ++ [e])=if e.sym < 0∧(aA g false).getD (-1 - e.sym).toNat false=true then rZ g ws q l ++ [tW ws ((q:Int),-1 - e.sym)] else rZ g ws q l:=by
 unfold rZ
 rw[Vq,UA]
 by_cases h:e.sym < 0∧(aA g false).getD (-1 - e.sym).toNat false=true
 ·rw[T9 h,List.filter_cons_of_pos (by simp only[h.1,h.2]; rfl)]; simp
 ·rw[T6 h]
  have:(decide (e.sym < 0) && (aA g false).getD (-1 - e.sym).toNat false)=false:=by
   rw[Bool.eq_false_iff]; simpa using h
  rw[List.filter_cons_of_neg (by simp only[this]; simp)]
  simp
set_option maxHeartbeats 16000000 in
theorem vx {g:aw} {a:List aT} (hA:ca g a) (hr9:bR g=true) (ha:a.length≤300) {W qn cM:Nat} {M:bV (Int × Int)} {uw:V} {s e2:Nat} {i q:Nat} (hi:i < (ba a).length) (hq:q < a.length) (S0:BV) (fS:Nat→BV) (fA:Nat→List Nat) {T:Env} {H:View} {Q:Exit→Env→View→Prop} {v:cE (T,H,Q)}
  (hJ:∃ (Sl:List BV) (A:List (V × List Nat)),cR g a H W qn cM M uw s e2 (ba a) Sl A []∧Oc (ba a).length Sl A (fun y=>if y=i then S0 else fS y) (fun y=>if y=i then [] else fA y))
  (ht:T 0=.ptr W 0 0∧T 2=gi i∧T 4=gi q∧T 19=uw∧T 20=gi (ba a).length∧T 21=gi i∧T 70=.aL (fW (a.getD q bz).bm)∧T 71=gi (a.getD q bz).bm.length∧T 72=gi 0)
  (hQ:∀ (T':Env) (H':View),(∃ (Sl:List BV) (A:List (V × List Nat)),cR g a H' W qn cM M uw s e2 (ba a) Sl A []∧Oc (ba a).length Sl A (fun y=>if y=i then oc S0 (a.getD q bz).bm else fS y) (fun y=>if y=i then rZ g (ba a) q (a.getD q bz).bm else fA y)) →
   T' 0=.ptr W 0 0→T' 19=uw→T' 20=gi (ba a).length→T' 21=gi i→Q (.exit 2) T' H'):bc Tryz.prog lH T H Q v:=by
 have hn1:=pK hA
 have hnl:(ba a).length≤40 * a.length:=ll hA.ok.bm a.length
 have hZm:=Ub (getD_some (d:=bz) hq)
 have hZe:=hA.ok.bm _ hZm
 have hZs:=hA.ok.sym _ hZm
 have hEd:∀ e∈(a.getD q bz).bm,dJ a q e.sym:=fun e he=>⟨e,he,rfl⟩
 have hhas:∀ e∈(a.getD q bz).bm,iz g e.sym=true:=fun e he=>by
  obtain ⟨y,hy,hn⟩:=(hA.kI hq).1 (hEd e he)
  exact pr hA.cD (hA.has hq hy) hn
 generalize a.getD q bz=Z at *
 obtain ⟨Sl0,A0,hI0,hSA0⟩:=hJ
 obtain ⟨t0,t2,t4,t19,t20,t21,t70,t71,t72⟩:=ht
 refine bc.up Z.bm.length (fun j T H'=>∃ (Sl:List BV) (A:List (V × List Nat)),cR g a H' W qn cM M uw s e2 (ba a) Sl A []∧Oc (ba a).length Sl A (fun y=>if y=i then oc S0 (Z.bm.take j) else fS y) (fun y=>if y=i then rZ g (ba a) q (Z.bm.take j) else fA y) ∧
  T 0=.ptr W 0 0∧T 2=gi i∧T 4=gi q∧T 19=uw∧T 20=gi (ba a).length∧T 21=gi i∧T 70=.aL (fW Z.bm)∧T 71=gi Z.bm.length∧T 72=gi j) ⟨Sl0,A0,hI0,by simpa [oc,rZ] using hSA0,t0,t2,t4,t19,t20,t21,t70,t71,t72⟩ ?_
 clear hI0 hSA0 t0 t2 t4 t19 t20 t21 t70 t71 t72
 rintro j k T H1 hk ⟨Sl,A,hI,hSA,t0,t2,t4,t19,t20,t21,t70,t71,t72⟩
 simp (disch:=omega) only [↓wr,seval,wq,ah,ag,ak,aa,ab,af,ai,ae,lH,t0,t2,t4,t70,t71,t72]
 refine av.dec (fun hc=>?_) (fun hc=>?_)
 rotate_left
 ·simp (disch:=omega) only [↓wr,seval,wq,ah,ag,ak,aa,ab,af,ai,ae]
  rw[Uo (by omega)] at hSA
  exact hQ _ _ ⟨Sl,A,hI,hSA⟩ t0 t19 t20 t21
 have hy:Z.bm[j]?=some (Z.bm[j]'(by omega)):=T4 (by omega)
 have hym:=Ud (show j < Z.bm.length by omega)
 have htk:Z.bm.take (j+1)=Z.bm.take j ++ [Z.bm[j]'(by omega)]:=by rw[Uw,hy]; rfl
 generalize Z.bm[j]'(by omega)=y at hy hym htk
 have hyb:=hZs y hym
 have hyE:=hEd y hym
 have hyh:=pn (hhas y hym)
 have hT:=hA.cD.az
 have hN:=hA.cD.ax
 have hSi:=hSA i hi
 simp only[if_true] at hSi
 simp (disch:=omega) only [↓wr,seval,wq,ah,ag,ak,aa,ab,af,ai,ae,t0,t2,t4,t70,t71,t72,fW,T8,hy,Ue,kd]
 intro q6 hq6
 have hI6:=hI.fresh hq6 (o:=.arr 2 [[gi y.sym,gi y.to]])
 have hq6':(H1.set q6 (.arr 2 [[gi y.sym,gi y.to]])) q6=.arr 2 [[gi y.sym,gi y.to]]:=by simp[View.set]
 rw[set_set]
 generalize H1.set q6 (.arr 2 [[gi y.sym,gi y.to]])=H6 at hI6 hq6' ⊢
 clear hI hq6
 obtain ⟨hW,⟨w2,huw2,hw⟩,hs,he,n1,n2,n3⟩:=hI6.at hn1
 have hsl:=hI6.sl
 have hsi:=oG (l:=Sl) (i:=i) (by omega)
 refine av.dec (fun h0=>?_) (fun h0=>?_)
 ·simp (disch:=omega) only [↓wr,seval,wq,ah,ag,ak,aa,ab,af,ai,ae,t0,t2,hW,hs,hsi,hq6']
  refine ⟨hi,by omega,fun q7 hq7=>?_⟩
  refine aE.AD (D7 y.sym) (by kernel_rfl) (.val _) ⟨eA.Pm (l:=[y.sym]) (.inr ⟨q7,rfl,by simp[View.set]⟩),trivial⟩ ?_
  have hI7:=hI6.fresh hq7 (o:=.arr 1 [[gi y.sym]])
  generalize H6.set q7 (.arr 1 [[V.val (.int .i64 y.sym)]])=H7 at hI7 ⊢
  obtain ⟨-,-,hs7,-⟩:=hI7.at hn1
  have e1:(bY Sl).set i [gw (sF Sl i ||| eo y.sym)]=bY (Sl.set i (sF Sl i ||| eo y.sym)):=by simp[Vp]
  simp (disch:=omega) only [↓wr,seval,wq,ah,ag,ak,aa,ab,af,ai,ae,t0,t2,t4,t19,t20,t21,t70,t71,t72,hs7,hsi,e1,qO]
  refine ⟨hi,by omega,?_⟩
  refine aN hk (by omega) ⟨Sl.set i (sF Sl i ||| eo y.sym),A,hI7.xC (by simp[hsl]),fun z hz=>?_,t0,t2,t4,t19,t20,t21,t70,t71,by first | rfl | (congr 2)⟩
  have hz2:=hSA z hz
  rw[htk,Bt,DM,T9 h0,T6 (fun h=>by omega),fI]
  refine ⟨?_,hz2.2⟩
  by_cases e:z=i
  ·subst e
   rw[T9 ⟨rfl,by omega⟩]
   simp only[if_true]
   rw[sF,hSi.1]
  ·rw[T6 (fun h=>e h.1.symm)]
   simp only[T6 e] at hz2 ⊢
   exact hz2.1
 ·have hnl3:(-1 - y.sym).toNat < (aA g false).length:=by
   rw[eV hr9]
   unfold jz at hyh
   rw[T9 (by omega)] at hyh
   omega
  have hnu:(aA g false)[(-1 - y.sym).toNat]?=some ((aA g false).getD (-1 - y.sym).toNat false):=getD_some hnl3
  have hsn:=DM g (ba a) q (Z.bm.take j) y
  rw[← htk] at hsn
  have hsr:=Bt S0 (Z.bm.take j) y
  rw[← htk,T6 h0] at hsr
  generalize hb:(aA g false).getD (-1 - y.sym).toNat false=b at hnu hsn
  simp (disch:=omega) only [↓wr,seval,wq,ah,ag,ak,aa,ab,af,ai,ae,t0,hW,hq6',bI,T8,hnu,Ue]
  refine av.split (fun hbt=>?_) (fun hbt=>?_)
  rotate_left
  ·simp (disch:=omega) only [↓wr,seval,wq,ah,ag,ak,aa,ab,af,ai,ae,t0,t2,t4,t19,t20,t21,t70,t71,t72]
   rw[hbt,T6 (by simp)] at hsn
   exact aN hk (by omega) ⟨Sl,A,hI6,fun z hz=>by rw[hsr,hsn]; exact hSA z hz,t0,t2,t4,t19,t20,t21,t70,t71,by first | rfl | (congr 2)⟩
  rw[hbt,T9 ⟨by omega,rfl⟩] at hsn
  have hal:=hI6.al
  obtain ⟨A1,⟨u,l⟩,A2,rfl,hA1,_⟩:=mo (l:=A) (i:=i) (by omega)
  have hRow:=hI6.row rfl
  have hui:(bU (A1 ++ (u,l) :: A2)).getD i []=[u]:=by rw[← hA1]; simp[bU]
  have hli:((A1 ++ (u,l) :: A2).getD i (V.any,([]:List Nat))).2=l:=by rw[← hA1]; simp
  have hrl:(bU (A1 ++ (u,l) :: A2)).length=(ba a).length:=by rw[bU,Uc]; exact hal
  have hk2:(ba a)[tW (ba a) ((q:Int),-1 - y.sym)]?=some ((q:Int),-1 - y.sym):=jx (dr.2 ⟨by omega,by rw[show -1 - (-1 - y.sym)=y.sym by omega]; exact hyE⟩)
  have hgm:=hI6.num _ _ hk2
  have hnlt:=(Uj.1 hk2).1
  generalize tW (ba a) ((q:Int),-1 - y.sym)=kn at hk2 hgm hnlt hsn
  simp (disch:=omega) only [↓wr,seval,wq,ah,ag,ak,aa,ab,af,ai,ae,t0,t2,t4,hW,he,hui,hq6']
  refine ⟨hi,by omega,?_⟩
  have hmt:dz Tryz.prog 110=some (116,3):=by kernel_rfl
  have hz:zeroV Tryz.prog 3=some (gi 0):=by kernel_rfl
  refine Fo (kv:=eK) (kt:=116) (et:=3) (z:=gi 0) (id:=qn) (c:=cM) (m:=M) (k:=((q:Int),-1 - y.sym)) hmt hz (zr wv) (by first | rfl | simp (disch:=omega) only [↓wr,seval,wq,ah,ag,ak,aa,ab,af,ai,ae]) (by first | rfl | (simp (disch:=omega) only [↓wr,seval,wq,ah,ag,ak,aa,ab,af,ai,ae]; rfl)) hI6.mp ?_
  rw[hgm,Un]
  have hll:l.length≤40:=by
   rw[← hli,hSi.2]
   unfold rZ
   rw[Uc]
   have h1:=UW (fun e=>decide (e.sym < 0) && (aA g false).getD (-1 - e.sym).toNat false) (Z.bm.take j)
   rw[UN] at h1
   omega
  simp (disch:=omega) only [↓wr,seval,wq,ah,ag,ak,aa,ab,af,ai,ae]
  intro q8 hq8
  simp (disch:=omega) only [↓wr,seval,wq,ah,ag,ak,aa,ab,af,ai,ae,cb]
  refine c6 (hRow.fresh hq8) (by simp[aX]) (by unfold aK; simp; omega) (by unfold aK; simp; omega) ?_
  intro u2 H8 o8 l8
  have he8:=o8.is 1 rfl (by rw[hrl]; omega)
  have hm8:=l8.map (hRow.fresh hq8).head (b:=qn) (c:=cM) (es:=bN eK M) (by
   have:=hI6.mp
   simp only[View.set]; rw[T6 (fun e=>by rw[← e,this] at hq8; simp at hq8)]; exact this)
  have hse:(bU (A1 ++ (u,l) :: A2)).set i [u2]=bU (A1 ++ (u2,l ++ [kn]) :: A2):=by rw[← hA1]; simp[bU]
  simp (disch:=omega) only [↓wr,seval,wq,ah,ag,ak,aa,ab,af,ai,ae,t0,t2,t4,t19,t20,t21,t70,t71,t72,he8,hui,o8.head.cells,o8.head.jt,hse]
  refine ⟨hi,by omega,?_,?_⟩
  ·rcases hRow.head with ⟨_,kk,h⟩ | ⟨m,h,hm⟩
   ·rw[show u=.emp kk from h,vI]; trivial
   ·rw[show u=.sl m 0 _ 1 from h,zt]
    intro e
    rw[← e,hW] at hm; simp at hm
  ·refine aN hk (by omega) ⟨Sl,A1 ++ (u2,l ++ [kn]) :: A2,hI6.RG rfl (l':=l ++ [kn]) (es:=fa l ++ [[gi (kn:Int)]]) (by simp) o8 hm8,fun z hz=>?_,t0,t2,t4,t19,t20,t21,t70,t71,by first | rfl | (congr 2)⟩
   have hz2:=hSA z hz
   rw[hsr,hsn]
   refine ⟨hz2.1,?_⟩
   by_cases e:z=i
   ·subst e
    simp only[if_true]
    rw[← hSi.2,hli,← hA1]
    simp
   ·rw[AL (y:=(u,l)) (by rw[hA1]; exact e)]
    simp only[T6 e] at hz2 ⊢
    exact hz2.2
theorem lg.congr {n:Nat} {E:Nat→List Nat} {S S':Nat→BV} (hE:∀ x,x < n→∀ y∈E x,y < n) (hS:∀ x,x < n→S x=S' x) {z t:Nat} (hz:z < n):lg E S z t↔lg E S' z t:=by
 have key:∀ {z w:Nat},iU E z w→z < n→w < n:=by
  intro z w h
  induction h with
  | refl=>exact id
  | step h1 _ ih=>exact fun hz=>ih (hE _ hz _ h1)
 constructor
 ·rintro ⟨w,h1,h2⟩
  exact ⟨w,h1,by rw[← hS w (key h1 hz)]; exact h2⟩
 ·rintro ⟨w,h1,h2⟩
  exact ⟨w,h1,by rw[hS w (key h1 hz)]; exact h2⟩
theorem OX {g:aw} {a:List aT} (h:∀ s∈a,s.bm.length≤40) (x:Int × Int):(my g a x).length≤40:=by
 unfold my rZ
 rw[Uc]
 refine U0 (UW _ _) ?_
 generalize dW a x.1.toNat (-1 - x.2)=q
 rcases Uv q a.length with k | k
 ·exact h _ (Ub (getD_some k))
 ·rw[T0,UF k]; simp[bz]
set_option maxHeartbeats 16000000 in
theorem Q2 {g:aw} {a:List aT} (hA:ca g a) (hr9:bR g=true) (ha:a.length≤300) {H:View} {W qn cM:Nat} {M:bV (Int × Int)} {uw:V} {s e:Nat} (hI:cR g a H W qn cM M uw s e (ba a) (List.replicate (ba a).length 0) (List.replicate (ba a).length (.emp 1,[])) []) :
  aC Tryz.prog 73 [.ptr W 0 0] H fun _ H'=>∃ (e':Nat) (Sl:List BV) (A:List (V × List Nat)),cR g a H' W qn cM M uw s e' (ba a) Sl A []∧∀ (x p t:Nat) (B:Int),(ba a)[x]?=some ((p:Int),B)→((sF Sl x).getLsbD t=true↔ou g a p B t):=by
 refine aC.of mixed yl ?_
 have hn1:=pK hA
 have hnl:(ba a).length≤40 * a.length:=ll hA.ok.bm a.length
 obtain ⟨hW,⟨w,huw,hw⟩,hs,he,n1,n2,n3⟩:=hI.at hn1
 have hul:cG uw=some (ba a).length:=by rw[huw]; rfl
 have hWd:∀ q,H q=.dead→W≠q:=fun q hq e=>by rw[e,hq] at hW; simp at hW
 simp (disch:=omega) only [↓wr,seval,wq,ah,ag,ak,aa,ab,af,ai,ae,tw,hW,hul]
 refine ⟨⟨by omega,by unfold aK; omega,by unfold aK; omega⟩,fun h0=>by omega,fun _ e2 he2=>?_⟩
 have w1:=hWd e2 he2
 simp (disch:=omega) only [↓wr,seval,wq,ah,ag,ak,aa,ab,af,ai,ae,w1,hul]
 have hI2:=hI.Ql he2
 generalize ((H.set e2 (.arr 1 (List.replicate (ba a).length [V.emp 1]))).set W (.arr 10 [[V.aL (g.az.map cg),.aL (g.ax.map fun s=>[gs s]),.aL (g.rules.map aP),gi g.start,bO a,bI (aA g false),.mp qn,uw,.sl s 0 (ba a).length 1,.sl e2 0 (ba a).length 1]]))=H2 at hI2 ⊢
 refine bc.up (ba a).length (fun i T H'=>∃ (Sl:List BV) (A:List (V × List Nat)),cR g a H' W qn cM M uw s e2 (ba a) Sl A []∧Oc (ba a).length Sl A (fun y=>if y < i then qN g a (di a y) else 0) (fun y=>if y < i then my g a (di a y) else [])∧T 0=.ptr W 0 0∧T 19=uw∧T 20=gi (ba a).length∧T 21=gi i)
  ⟨_,_,hI2,fun y hy=>by simp[T0,hy],rfl,rfl,rfl,rfl⟩ ?_
 clear hI2 hI he2 hW hw hs he n1 n2 n3 hWd w1
 rintro i k T H' hk ⟨Sl,A,hI,hSA,t0,t19,t20,t21⟩
 obtain ⟨hW,⟨w',huw',hw⟩,hs,he,n1,n2,n3⟩:=hI.at hn1
 have hww:w'=w:=by rw[huw] at huw'; simp only[V.sl.injEq] at huw'; exact huw'.1.symm
 subst hww
 simp (disch:=omega) only [↓wr,seval,wq,ah,ag,ak,aa,ab,af,ai,ae,qZ,t0,t19,t20,t21]
 refine av.dec (fun hc=>?_) (fun hc=>?_)
 rotate_left
 ·have hi:i=(ba a).length:=by omega
  subst hi
  have hSA2:Oc (ba a).length Sl A (fun y=>qN g a (di a y)) (fun y=>my g a (di a y)):=fun y hy=>by
   have:=hSA y hy
   simpa only [hy,if_true] using this
  have hCC:=hI.Ro hn1 (E:=fun y=>my g a (di a y)) (fun x hx=>(hSA2 x hx).2) (fun x hx=>⟨U0 (OX hA.ok.bm _) (by omega),JU hA hx⟩)
  simp (disch:=omega) only [↓wr,seval,wq,ah,ag,ak,aa,ab,af,ai,ae,t0]
  refine aE.ez ((EB hCC hn1 (by omega) Sl hs hI.sl).mono ?_)
  rintro r H5 ⟨Sl',k1,k2,k3,k4⟩
  simp (disch:=omega) only [↓wr,seval,wq,ah,ag,ak,aa,ab,af,ai,ae]
  have hI5:=(hI.xC (Sl':=Sl') k1).stay (H':=H5) fun id hid=>by
   simp only[View.set] at hid ⊢
   by_cases e:id=s
   ·rw[T9 e,e]; exact k2
   ·rw[T6 e] at hid ⊢
    exact k4 id hid e
  refine ⟨e2,Sl',A,hI5,fun x p t B hx=>?_⟩
  have hxl:=(Uj.1 hx).1
  rw[k3 x t hxl,lg.congr (S:=sF Sl) (fun x hx=>JU hA hx) (S':=fun y=>qN g a (di a y)) (fun z hz=>(hSA2 z hz).1) hxl]
  exact LP hA hx
 have hx:(ba a)[i]?=some (di a i):=getD_some (by omega)
 obtain ⟨p,hp⟩:=sf (Ub hx)
 have hmem:=Ub hx
 have hSi:=hSA i (by omega)
 generalize hxe:di a i=x at hx hp hmem
 obtain ⟨x1,B⟩:=x
 simp only at hp
 have hx1:x1=p:=by simpa using Vl Prod.fst hp
 subst hx1
 clear hp
 obtain ⟨hB0,hE⟩:=dr.1 hmem
 obtain ⟨_,_,_,hto,hql,hwd⟩:=hA.dW hE
 have hpl:=ed hE
 have hwg:(mf (ba a)).getD i []=[gi (p:Int),gi B]:=by
  simp[T0,hx]
 have hBb:B≤1000:=by
  obtain ⟨e,h1,h2⟩:=hE
  have:=hA.ok.sym _ (ze h1).2 e h1
  omega
 have hshort:aY a:=by unfold aY; omega
 have hedg:∀ s∈a,aY s.bm∧∀ e∈s.bm,cp e.sym∧cp e.to:=fun s hs=>⟨by have:=hA.ok.bm s hs; unfold aY; omega,fun e he=>by
  have h1:=hA.ok.sym s hs e he
  have h2:=hA.ok.to s hs e he
  unfold cp; omega⟩
 simp (disch:=omega) only [↓wr,seval,wq,ah,ag,ak,aa,ab,af,ai,ae,t0,t19,t20,t21,huw,hw,hwg]
 refine ⟨by omega,by omega,fun q1 hq1=>?_⟩
 rw[set_set]
 have hI1:=hI.fresh hq1 (o:=.arr 2 [[gi (p:Int),gi B]])
 have hq1':(H'.set q1 (.arr 2 [[gi (p:Int),gi B]])) q1=.arr 2 [[gi (p:Int),gi B]]:=by simp[View.set]
 generalize H'.set q1 (.arr 2 [[gi (p:Int),gi B]])=H1 at hI1 hq1' ⊢
 refine aE.ez ((Fs (hI1.at hn1).1 hshort hedg p (-1 - B)).mono ?_)
 rintro r H3 ⟨rfl,hf3⟩
 have hI3:=hI1.stay hf3
 have hq3:H3 q1=.arr 2 [[gi (p:Int),gi B]]:=by rw[hf3 q1 (by rw[hq1']; simp)]; exact hq1'
 clear hI hI1 hq1' hf3 hq1 hW hw hs he n1 n2 n3
 clear H1 H'
 obtain ⟨hW,⟨w2,huw2,hw⟩,hs,he,n1,n2,n3⟩:=hI3.at hn1
 clear huw2
 have hsl:=hI3.sl
 have hsi:=oG (l:=Sl) (i:=i) (by omega)
 rw[hwd]
 simp only[Nat.lt_irrefl,if_false] at hSi
 have hS0:sF Sl i=0:=hSi.1
 simp (disch:=omega) only [↓wr,seval,wq,ah,ag,ak,aa,ab,af,ai,ae,t0,t19,t20,t21,hq3]
 refine av.eq (fun hp0=>?_) (fun hp0=>?_)
 ·simp (disch:=omega) only [↓wr,seval,wq,ah,ag,ak,aa,ab,af,ai,ae,t0,hq3,hW]
  refine av.eq (fun hBs=>?_) (fun hBs=>?_)
  ·simp (disch:=omega) only [↓wr,seval,wq,ah,ag,ak,aa,ab,af,ai,ae,t0,hW,hs,hsi]
   refine ⟨by omega,by omega,fun q5 hq5=>?_⟩
   refine aE.AD (D7 (g.az.length:Int)) (by kernel_rfl) (.val _) ⟨eA.Pm (l:=[(g.az.length:Int)]) (.inr ⟨q5,rfl,by simp[View.set]⟩),trivial⟩ ?_
   have hI5:=hI3.fresh hq5 (o:=.arr 1 [[gi (g.az.length:Int)]])
   generalize H3.set q5 (.arr 1 [[V.val (.int .i64 (g.az.length:Int))]])=H5 at hI5 ⊢
   obtain ⟨hW5,-,hs5,-⟩:=hI5.at hn1
   have e1:(bY Sl).set i [gw (sF Sl i ||| eo (g.az.length:Int))]=bY (Sl.set i (sF Sl i ||| eo (g.az.length:Int))):=by simp[Vp]
   have hIx:=hI5.xC (Sl':=Sl.set i (sF Sl i ||| eo (g.az.length:Int))) (by simp[hsl])
   have hWx:=hW5
   have hgZ:a[dW a p (-1 - B)]?=some (a.getD (dW a p (-1 - B)) bz):=getD_some hql
   simp (disch:=omega) only [↓wr,seval,wq,ah,ag,ak,aa,ab,af,ai,ae,hs5,hsi,e1,qO,hW5,n1,t0,bO,T8,hgZ,Ue,j6]
   refine ⟨by omega,by omega,?_⟩
   refine vx hA hr9 ha (by omega) hql (ov g ((p:Int),B)) (fun y=>if y < i then qN g a (di a y) else 0) (fun y=>if y < i then my g a (di a y) else []) ⟨_,A,hIx,fun z hz=>?_⟩ ⟨t0,rfl,rfl,t19,t20,t21,rfl,by show gi ((fW _).length:Int)=_; simp[fW],rfl⟩ (fun T' H' hF u0 u19 u20 u21=>?_)
   ·have hz2:=hSA z hz
    have hr0:ov g ((p:Int),B)=eo (g.az.length:Int):=by
     unfold ov
     exact T9 ⟨hp0,hBs⟩
    rw[fI]
    by_cases e:z=i
    ·subst e
     rw[T9 ⟨rfl,by omega⟩]
     simp only[if_true]
     rw[hr0,hS0]
     exact ⟨by simp,hSi.2⟩
    ·rw[T6 (fun h=>e h.1.symm)]
     simp only[T6 e]
     exact hz2
   ·obtain ⟨Sl9,A9,hI9,hS9⟩:=hF
    simp (disch:=omega) only [↓wr,seval,wq,ah,ag,ak,aa,ab,af,ai,ae,u0,u19,u20,u21]
    refine aN hk (by omega) ⟨Sl9,A9,hI9,fun z hz=>?_,u0,u19,u20,by first | rfl | (congr 2)⟩
    have:=hS9 z hz
    by_cases e:z=i
    ·subst e
     simp only[if_true,Nat.lt_succ_self] at this ⊢
     rw[hxe]
     simp only[qN,my,Uq]
     exact this
    ·simp only[T6 e,show z < i+1↔z < i by omega] at this ⊢
     exact this
  ·have hIx:=hI3
   have hWx:=hW
   have hgZ:a[dW a p (-1 - B)]?=some (a.getD (dW a p (-1 - B)) bz):=getD_some hql
   simp (disch:=omega) only [↓wr,seval,wq,ah,ag,ak,aa,ab,af,ai,ae,t0,hWx,bO,T8,hgZ,Ue,j6]
   refine vx hA hr9 ha (by omega) hql (ov g ((p:Int),B)) (fun y=>if y < i then qN g a (di a y) else 0) (fun y=>if y < i then my g a (di a y) else []) ⟨_,A,hIx,fun z hz=>?_⟩ ⟨t0,rfl,rfl,t19,t20,t21,rfl,by show gi ((fW _).length:Int)=_; simp[fW],rfl⟩ (fun T' H' hF u0 u19 u20 u21=>?_)
   ·have hz2:=hSA z hz
    have hr0:ov g ((p:Int),B)=0:=by
     unfold ov
     exact T6 fun h=>hBs h.2
    by_cases e:z=i
    ·subst e
     simp only[if_true]
     rw[hr0]; exact hSi
    ·simp only[T6 e]
     exact hz2
   ·obtain ⟨Sl9,A9,hI9,hS9⟩:=hF
    simp (disch:=omega) only [↓wr,seval,wq,ah,ag,ak,aa,ab,af,ai,ae,u0,u19,u20,u21]
    refine aN hk (by omega) ⟨Sl9,A9,hI9,fun z hz=>?_,u0,u19,u20,by first | rfl | (congr 2)⟩
    have:=hS9 z hz
    by_cases e:z=i
    ·subst e
     simp only[if_true,Nat.lt_succ_self] at this ⊢
     rw[hxe]
     simp only[qN,my,Uq]
     exact this
    ·simp only[T6 e,show z < i+1↔z < i by omega] at this ⊢
     exact this
 ·have hIx:=hI3
  have hWx:=hW
  have hgZ:a[dW a p (-1 - B)]?=some (a.getD (dW a p (-1 - B)) bz):=getD_some hql
  simp (disch:=omega) only [↓wr,seval,wq,ah,ag,ak,aa,ab,af,ai,ae,t0,hWx,bO,T8,hgZ,Ue,j6]
  refine vx hA hr9 ha (by omega) hql (ov g ((p:Int),B)) (fun y=>if y < i then qN g a (di a y) else 0) (fun y=>if y < i then my g a (di a y) else []) ⟨_,A,hIx,fun z hz=>?_⟩ ⟨t0,rfl,rfl,t19,t20,t21,rfl,by show gi ((fW _).length:Int)=_; simp[fW],rfl⟩ (fun T' H' hF u0 u19 u20 u21=>?_)
  ·have hz2:=hSA z hz
   have hr0:ov g ((p:Int),B)=0:=by
    unfold ov
    exact T6 fun h=>hp0 h.1
   by_cases e:z=i
   ·subst e
    simp only[if_true]
    rw[hr0]; exact hSi
   ·simp only[T6 e]
    exact hz2
  ·obtain ⟨Sl9,A9,hI9,hS9⟩:=hF
   simp (disch:=omega) only [↓wr,seval,wq,ah,ag,ak,aa,ab,af,ai,ae,u0,u19,u20,u21]
   refine aN hk (by omega) ⟨Sl9,A9,hI9,fun z hz=>?_,u0,u19,u20,by first | rfl | (congr 2)⟩
   have:=hS9 z hz
   by_cases e:z=i
   ·subst e
    simp only[if_true,Nat.lt_succ_self] at this ⊢
    rw[hxe]
    simp only[qN,my,Uq]
    exact this
   ·simp only[T6 e,show z < i+1↔z < i by omega] at this ⊢
    exact this
def qy:SC :=
 .seq (ao [bg 17 .lss 16 15]) <|
 .seq (.cond (.tmp 17) (.skip) (.exit 0)) <|
 .seq (.block 1 (.seq (ao [aj 18 16,aR 19 1 14 16,ay 20 19,aj 8 18,aj 9 20]) <|
 .seq (.seq (.region false [⟨none,[aj 21 9,aQ 22 .lss 21 0,aj 23 22]⟩,⟨(some (23,true)),[aj 24 0,aD 25 1 5,ay 26 25,aj 27 8,aQ 28 .add 27 1,((some 29),.op (.slice 1 (.tmp 26) (some (.tmp 28)) none)),bD 30 121 [24,29]]⟩,⟨none,[eS 31 23 30]⟩]) <|
 .cond (.tmp 31) (.seq (ao [aj 32 0,fZ 33 32,aD 34 6 33,ay 35 34,aj 36 7,aj 37 9,((some 38),.op (.arith .sub (.val (.val (.int .i64 (-1)))) (.tmp 37))),((some 39),.op (.build [(.val (.int .i64 0)),(.val (.int .i64 0))] [(0,1,(.tmp 36)),(1,1,(.tmp 38))])),((some 40),.op (.old (.lookup 110 (.tmp 35) (.tmp 39) false) 3)),aj 10 40]) <|
 .rO [(43,52)] [⟨none,[aj 41 0,fZ 42 41,aD 43 9 42,ay 44 43,aj 45 10,aj 46 0,fZ 47 46,aD 48 9 47,ay 49 48,aj 50 10,aR 51 1 49 50,ay 52 51,aj 53 0,fZ 54 53,aD 55 6 54,ay 56 55,bp 57 2 4,((some 58),.op (.old (.lookup 110 (.tmp 56) (.tmp 57) false) 3)),((some 59),.op (.cw 1 1 [(.val (.int .i64 0))] [(0,(.tmp 58))])),((some 60),.op (.app 1 8 (.tmp 52) (.tmp 59))),aR 61 1 44 45,(none,.op (.store 1 (.tmp 61) (.tmp 60)))]⟩]) (.skip)) <|
 ao [aj 62 0,aj 63 7,aj 64 9,bD 65 119 [62,63,64],aj 7 65])) <|
 ao [aQ 66 .add 16 1,aj 16 66]
def sA:SF:=⟨.seq (ao [cO 4 1,cO 5 2,bj 6 0]) <|
 .seq (ao [aD 11 0 4,ay 12 11,aj 7 12]) <|
 .seq (.seq (ao [aD 13 1 5,ay 14 13,aV 15 14,bj 16 0]) <|
 .block 0 (.loop qy)) <|
 .seq (ao [aj 67 7,aj 6 67]) <|
 .ret,
 [.tmp 6],68⟩
theorem xw:aU Tryz.prog 74 [4,5,100000]=some sA:=by kernel_rfl
def od (g:aw) (a:List aT):Nat→List Int→List Nat
 | _,[]=>[]
 | q,s :: l=>(if s < 0∧cz l (aA g false) false=true then [tW (ba a) ((q:Int),-1 - s)] else []) ++ od g a (dW a q s) l
def jV (a:List aT):Nat→List Int→Nat
 | q,[]=>q
 | q,s :: l=>jV a (dW a q s) l
def jy (f:Nat→List Nat) (x:Nat) (ys:List Nat):Nat→List Nat:=ys.foldl (fun f y=>jq f y (f y ++ [x])) f
theorem LB (f:Nat→List Nat) (x:Nat) (ys zs:List Nat):jy f x (ys ++ zs)=jy (jy f x ys) x zs:=by
 unfold jy; rw[UM]
theorem Ea {x:Nat} : ∀ {ys:List Nat} {f:Nat→List Nat} {y z:Nat},z∈jy f x ys y↔z∈f y∨(z=x∧y∈ys)
 | [],f,y,z=>by simp[jy]
 | w :: ys,f,y,z=>by
  have ih:=Ea (x:=x) (ys:=ys) (f:=jq f w (f w ++ [x])) (y:=y) (z:=z)
  unfold jy at ih ⊢
  rw[Uu,ih]
  by_cases e:y=w
  ·subst e
   rw[eD,Uy,UT]
   simp only[Uk,true_or,and_true]
   constructor
   ·rintro ((h | h) | h)
    ·exact .inl h
    ·exact .inr h
    ·exact .inr h.1
   ·rintro (h | h)
    ·exact .inl (.inl h)
    ·exact .inl (.inr h)
  ·rw[lN e]
   simp only[Uk,e,false_or]
theorem y8 {x c:Nat} : ∀ {ys:List Nat} {f:Nat→List Nat},(∀ z,(f z).length≤c)→∀ z,(jy f x ys z).length≤c+ys.length
 | [],f,h,z=>by simpa [jy] using h z
 | w :: ys,f,h,z=>by
  have ih:=y8 (x:=x) (c:=c+1) (ys:=ys) (f:=jq f w (f w ++ [x])) (fun z=>by
   by_cases e:z=w
   ·subst e; rw[eD,UX]; have:=h z; simp; omega
   ·rw[lN e]; have:=h z; omega) z
  unfold jy at ih ⊢
  rw[Uu,Um]
  omega
theorem I2 (g:aw) (a:List aT):∀ (l:List Int) (q:Nat),(od g a q l).length≤l.length
 | [],_=>by simp[od]
 | s :: l,q=>by
  have ih:=I2 g a l (dW a q s)
  rw[od,UX,Um]
  split <;> simp <;> omega
set_option maxHeartbeats 16000000 in
theorem OO {g:aw} {a:List aT} (hA:ca g a) (hr9:bR g=true) (ha:a.length≤300) {H:View} {W qn cM:Nat} {M:bV (Int × Int)} {uw:V} {s e:Nat} {Sl:List BV} {A:List (V × List Nat)} {L:List cF} (hI:cR g a H W qn cM M uw s e (ba a) Sl A L)
  {fA:Nat→List Nat} {c:Nat} (hfA:∀ z,z < (ba a).length→(A.getD z (.any,[])).2=fA z) (hfl:∀ z,(fA z).length≤c) (hc:c≤100000000) {x p k:Nat} {B:Int} (hx:(ba a)[x]?=some ((p:Int),B)) (hk:k < g.rules.length) (hkl:(aB g k).left=B) :
  aC Tryz.prog 74 [.ptr W 0 0,.agg [gi p,gi B],.agg (aP (aB g k))] H fun r H'=>r=gi (jV a p (aB g k).right)∧(∃ A',cR g a H' W qn cM M uw s e (ba a) Sl A' L∧∀ z,z < (ba a).length→(A'.getD z (.any,[])).2=jy fA x (od g a p (aB g k).right) z)∧∀ b c es,H b=.map es c→H' b=.map es c:=by
 have hn1:=pK hA
 have hnl:(ba a).length≤40 * a.length:=ll hA.ok.bm a.length
 obtain ⟨hB0,hE⟩:=dr.1 (Ub hx)
 have hpl:=ed hE
 have hm0:=ji hA hpl hB0 hk hkl hE
 have hR:g.rules[k]?=some (aB g k):=by unfold aB; exact getD_some hk
 have hrt:aM g (k:Int)=(aB g k).right:=by rw[aM,T6 (by omega)]
 have hr6:=hA.cD.right _ (Ub hR)
 have hrs:=hA.cD.sym _ (Ub hR)
 have hgx:=hI.num _ _ hx
 generalize aB g k=R at *
 refine aC.of mixed xw ?_
 simp (disch:=omega) only [↓wr,seval,wq,ah,ag,ak,aa,ab,af,ai,ae,sA,aP,encI]
 refine bc.up R.right.length (fun i T H'=>∃ (q:Nat) (ys:List Nat) (A':List (V × List Nat)),cR g a H' W qn cM M uw s e (ba a) Sl A' L∧(∀ z,z < (ba a).length→(A'.getD z (.any,[])).2=jy fA x ys z)∧(∀ b c es,H b=.map es c→H' b=.map es c) ∧
  ys.length≤i∧od g a p R.right=ys ++ od g a q (R.right.drop i)∧jV a p R.right=jV a q (R.right.drop i)∧q < a.length∧(⟨k,i⟩:aI)∈iw g a q ∧
  T 0=.ptr W 0 0∧T 4=.aO [gi p,gi B] 0∧T 5=.aO (aP R) 0∧T 7=gi q∧T 14=encI R.right∧T 15=gi R.right.length∧T 16=gi i)
  ⟨p,[],A,hI,hfA,fun _ _ _ h=>h,by simp,by simp,by simp,hpl,hm0,rfl,rfl,rfl,rfl,rfl,rfl,rfl⟩ ?_
 clear hI hfA
 rintro i m T H1 hm ⟨q,ys,A1,hI,hfA1,hmp,hyl,hrc,hen,hql,hit,t0,t4,t5,t7,t14,t15,t16⟩
 simp (disch:=omega) only [↓wr,seval,wq,ah,ag,ak,aa,ab,af,ai,ae,qy,t0,t4,t5,t7,t14,t15,t16]
 refine av.dec (fun hc2=>?_) (fun hc2=>?_)
 rotate_left
 ·simp (disch:=omega) only [↓wr,seval,wq,ah,ag,ak,aa,ab,af,ai,ae,t7]
  rw[UB (by omega)] at hrc hen
  rw[hrc,hen]
  refine ⟨rfl,⟨A1,hI,?_⟩,hmp⟩
  simpa [od] using hfA1
 have hy:R.right[i]?=some (R.right[i]'(by omega)):=T4 (by omega)
 have hym:=Ud (show i < R.right.length by omega)
 have hdr:R.right.drop i=R.right[i]'(by omega) :: R.right.drop (i+1):=UO (by omega)
 generalize R.right[i]'(by omega)=y at hy hym hdr
 obtain ⟨n1,n2,n3⟩:=mX (g:=g) (r:=k) (d:=i) (s:=y) (l:=R.right.drop (i+1)) (by rw[hrt,hdr])
 obtain ⟨s1,s2,s3,s4⟩:=hA.step hql hit n1
 obtain ⟨_,_,_,_,_,hwd⟩:=hA.dW s1
 have hyh:=pn (hrs y hym)
 have hT:=hA.cD.az
 have hN:=hA.cD.ax
 have hylo : -100≤y:=by
  unfold jz at hyh
  split at hyh <;> omega
 rw[hdr,od] at hrc
 rw[hdr,jV] at hen
 obtain ⟨hW,⟨w2,huw2,hw⟩,hs,he,q1,q2,q3⟩:=hI.at hn1
 have hshort:aY a:=by unfold aY; omega
 have hedg:∀ s∈a,aY s.bm∧∀ e∈s.bm,cp e.sym∧cp e.to:=fun s hs=>⟨by have:=hA.ok.bm s hs; unfold aY; omega,fun e he=>by
  have h1:=hA.ok.sym s hs e he
  have h2:=hA.ok.to s hs e he
  unfold cp; omega⟩
 simp (disch:=omega) only [↓wr,seval,wq,ah,ag,ak,aa,ab,af,ai,ae,t0,t4,t5,t7,t14,t15,t16,encI,T8,hy,Ue]
 refine av.dec (fun h0=>?_) (fun h0=>?_)
 ·have hsd:dQ 1 (V.aL (List.map (fun (x:Int)=>[gi x]) R.right)) (some (V.val (.int .i64 ((i:Int)+1)))) none=some (.aL (List.map (fun (x:Int)=>[gi x]) (R.right.drop (i+1))),.none,[]):=by
   have:=Bf (l:=R.right) (k:=i+1) (by omega)
   push_cast at this
   exact this
  simp (disch:=omega) only [↓wr,seval,wq,ah,ag,ak,aa,ab,af,ai,ae,t0,t5,aP,encI,hsd]
  refine aE.ez ((O1 hW (R.right.drop (i+1)) (by unfold aY; simp; omega) (fun z hz=>by
   have h1:=pn (hrs z (List.mem_of_mem_drop hz))
   unfold jz at h1
   rw[eV hr9]
   unfold cp
   split at h1 <;> omega)).mono ?_)
  rintro r H5 ⟨rfl,rfl⟩
  cases hb:cz (R.right.drop (i+1)) (aA g false) false with
  | false =>
   simp (disch:=omega) only [↓wr,seval,wq,ah,ag,ak,aa,ab,af,ai,ae,t0,t7]
   refine aE.ez ((Fs hW hshort hedg q y).mono ?_)
   rintro r H6 ⟨rfl,hf6⟩
   rw[hwd]
   simp (disch:=omega) only [↓wr,seval,wq,ah,ag,ak,aa,ab,af,ai,ae,t0,t4,t5,t7,t14,t15,t16]
   exact aN hm (by omega) ⟨dW a q y,ys,A1,hI.stay hf6,hfA1,fun b c es h=>by rw[hf6 b (by rw[hmp b c es h]; simp)]; exact hmp b c es h,by omega,by rw[hrc,T6 (fun h=>by rw[hb] at h; simp at h),Vb],hen,s4,by push_cast; exact s3,t0,t4,t5,rfl,t14,t15,by first | rfl | (congr 2)⟩
  | true =>
   have hk2:(ba a)[tW (ba a) ((q:Int),-1 - y)]?=some ((q:Int),-1 - y):=jx (dr.2 ⟨by omega,by rw[show -1 - (-1 - y)=y by omega]; exact s1⟩)
   have hgm:=hI.num _ _ hk2
   have hnlt:=(Uj.1 hk2).1
   rw[T9 ⟨h0,hb⟩] at hrc
   generalize tW (ba a) ((q:Int),-1 - y)=kn at hk2 hgm hnlt hrc
   have hmt:dz Tryz.prog 110=some (116,3):=by kernel_rfl
   have hz:zeroV Tryz.prog 3=some (gi 0):=by kernel_rfl
   simp (disch:=omega) only [↓wr,seval,wq,ah,ag,ak,aa,ab,af,ai,ae,t0,t7,hW]
   refine Fo (kv:=eK) (kt:=116) (et:=3) (z:=gi 0) (id:=qn) (c:=cM) (m:=M) (k:=((q:Int),-1 - y)) hmt hz (zr wv) (by first | rfl | simp (disch:=omega) only [↓wr,seval,wq,ah,ag,ak,aa,ab,af,ai,ae]) (by first | rfl | (simp (disch:=omega) only [↓wr,seval,wq,ah,ag,ak,aa,ab,af,ai,ae]; rfl)) hI.mp ?_
   rw[hgm,Un]
   have hal:=hI.al
   obtain ⟨B1,⟨u,l⟩,B2,rfl,hB1,_⟩:=mo (l:=A1) (i:=kn) (by omega)
   have hRow:=hI.row rfl
   have hui:(bU (B1 ++ (u,l) :: B2)).getD kn []=[u]:=by rw[← hB1]; simp[bU]
   have hli:((B1 ++ (u,l) :: B2).getD kn (V.any,([]:List Nat))).2=l:=by rw[← hB1]; simp
   have hrl:(bU (B1 ++ (u,l) :: B2)).length=(ba a).length:=by rw[bU,Uc]; exact hal
   have hll:l.length≤100000010:=by
    rw[← hli,hfA1 kn hnlt]
    have:=y8 (x:=x) (ys:=ys) hfl kn
    omega
   simp (disch:=omega) only [↓wr,seval,wq,ah,ag,ak,aa,ab,af,ai,ae,t0,t4,hW,he,hui]
   refine ⟨hnlt,by omega,?_⟩
   refine Fo (kv:=eK) (kt:=116) (et:=3) (z:=gi 0) (id:=qn) (c:=cM) (m:=M) (k:=((p:Int),B)) hmt hz (zr wv) (by first | rfl | simp (disch:=omega) only [↓wr,seval,wq,ah,ag,ak,aa,ab,af,ai,ae]) (by first | rfl | (simp (disch:=omega) only [↓wr,seval,wq,ah,ag,ak,aa,ab,af,ai,ae]; rfl)) hI.mp ?_
   rw[hgx,Un]
   simp (disch:=omega) only [↓wr,seval,wq,ah,ag,ak,aa,ab,af,ai,ae]
   intro q8 hq8
   simp (disch:=omega) only [↓wr,seval,wq,ah,ag,ak,aa,ab,af,ai,ae,cb]
   refine c6 (hRow.fresh hq8) (by simp[aX]) (by unfold aK; simp; omega) (by unfold aK; simp; omega) ?_
   intro u2 H8 o8 l8
   have he8:=o8.is 1 rfl (by rw[hrl]; omega)
   have hqm:∀ b c es,H5 b=.map es c→H8 b=.map es c:=fun b c es h=>l8.map (hRow.fresh hq8).head (b:=b) (c:=c) (es:=es) (by
    simp only[View.set]; rw[T6 (fun e=>by rw[← e,h] at hq8; simp at hq8)]; exact h)
   have hse:(bU (B1 ++ (u,l) :: B2)).set kn [u2]=bU (B1 ++ (u2,l ++ [x]) :: B2):=by rw[← hB1]; simp[bU]
   have hI9:=hI.RG rfl (l':=l ++ [x]) (es:=fa l ++ [[gi (x:Int)]]) (by simp) o8 (hqm _ _ _ hI.mp)
   have hmp9:∀ b c es,H b=.map es c→(H8.set e (.arr 1 (bU (B1 ++ (u2,l ++ [x]) :: B2)))) b=.map es c:=fun b c es h=>by
    have h8:=hqm b c es (hmp b c es h)
    simp only[View.set]; rw[T6 (fun e=>by rw[← e,h8] at he8; simp at he8)]; exact h8
   simp (disch:=omega) only [↓wr,seval,wq,ah,ag,ak,aa,ab,af,ai,ae,t0,t4,t5,t7,t14,t15,t16,he8,hui,o8.head.cells,o8.head.jt,hse]
   refine ⟨hnlt,by omega,?_,?_⟩
   ·rcases hRow.head with ⟨_,kk,h⟩ | ⟨m,h,hm2⟩
    ·rw[show u=.emp kk from h,vI]; trivial
    ·rw[show u=.sl m 0 _ 1 from h,zt]
     intro e
     rw[← e,hW] at hm2; simp at hm2
   ·generalize H8.set e (.arr 1 (bU (B1 ++ (u2,l ++ [x]) :: B2)))=H9 at hI9 hmp9 ⊢
    refine aE.ez ((Fs (hI9.at hn1).1 hshort hedg q y).mono ?_)
    rintro r H6 ⟨rfl,hf6⟩
    rw[hwd]
    simp (disch:=omega) only [↓wr,seval,wq,ah,ag,ak,aa,ab,af,ai,ae,t0,t4,t5,t7,t14,t15,t16]
    refine aN hm (by omega) ⟨dW a q y,ys ++ [kn],B1 ++ (u2,l ++ [x]) :: B2,hI9.stay hf6,fun z hz=>?_,fun b c es h=>by rw[hf6 b (by rw[hmp9 b c es h]; simp)]; exact hmp9 b c es h,by rw[UX]; simp; omega,by rw[hrc,UL],hen,s4,by push_cast; exact s3,t0,t4,t5,rfl,t14,t15,by first | rfl | (congr 2)⟩
    rw[LB]
    show _=jq (jy fA x ys) kn (jy fA x ys kn ++ [x]) z
    by_cases e:z=kn
    ·subst e
     rw[eD,← hfA1 z hz,hli,← hB1]
     simp
    ·rw[lN e,AL (y:=(u,l)) (by rw[hB1]; exact e)]
     exact hfA1 z hz
 ·simp (disch:=omega) only [↓wr,seval,wq,ah,ag,ak,aa,ab,af,ai,ae,t0,t7]
  refine aE.ez ((Fs hW hshort hedg q y).mono ?_)
  rintro r H6 ⟨rfl,hf6⟩
  rw[hwd]
  simp (disch:=omega) only [↓wr,seval,wq,ah,ag,ak,aa,ab,af,ai,ae,t0,t4,t5,t7,t14,t15,t16]
  exact aN hm (by omega) ⟨dW a q y,ys,A1,hI.stay hf6,hfA1,fun b c es h=>by rw[hf6 b (by rw[hmp b c es h]; simp)]; exact hmp b c es h,by omega,by rw[hrc,T6 (fun h=>h0 h.1),Vb],hen,s4,by push_cast; exact s3,t0,t4,t5,rfl,t14,t15,by first | rfl | (congr 2)⟩
section
variable {g:aw} {a:List aT}
theorem Dv (hA:ca g a) {k y:Nat} (hk:k < g.rules.length):∀ (l:List Int) (d q:Nat),q < a.length→(⟨k,d⟩:aI)∈iw g a q→(aB g k).right.drop d=l →
  (y∈od g a q l↔∃ (j q':Nat) (C:Int),l[j]?=some (-1 - C)∧0≤C∧gZ a q (l.take j) q'∧cz (l.drop (j+1)) (aA g false) false=true∧(ba a)[y]?=some ((q':Int),C))
 | [],d,q,hq,hx,hl=>by simp[od]
 | s :: l,d,q,hq,hx,hl=>by
  have hrt:aM g (k:Int)=(aB g k).right:=by rw[aM,T6 (by omega)]
  obtain ⟨n1,n2,n3⟩:=mX (g:=g) (r:=k) (d:=d) (s:=s) (l:=l) (by rw[hrt,hl])
  obtain ⟨s1,s2,s3,s4⟩:=hA.step hq hx n1
  have ih:=Dv hA hk (y:=y) l (d+1) (dW a q s) s4 (by push_cast; exact s3) (by rw[hrt] at n2; exact n2)
  rw[od,Uy,ih]
  constructor
  ·rintro (h | ⟨j,q',C,h1,h2,h3,h4,h5⟩)
   ·split at h
    ·rename_i hc
     rw[UT] at h
     subst h
     have e : -1 - (-1 - s)=s:=by omega
     exact ⟨0,q,-1 - s,by simp[e],by omega,.nil,by simpa using hc.2,jx (dr.2 ⟨by omega,by rw[e]; exact s1⟩)⟩
    ·simp at h
   ·exact ⟨j+1,q',C,by simpa using h1,h2,.cons s1 h3,by simpa using h4,h5⟩
  ·rintro ⟨j,q',C,h1,h2,h3,h4,h5⟩
   cases j with
   | zero =>
    left
    simp only[List.take_zero] at h3
    cases h3
    have hs:s = -1 - C:=by simpa using h1
    rw[T9 ⟨by omega,by simpa using h4⟩,UT]
    rw[hs,show -1 - (-1 - C)=C by omega]
    exact (FG (x8 hA) h5).symm
   | succ j =>
    right
    rw[VJ] at h3
    cases h3 with
    | cons _ h3=>exact ⟨j,q',C,by simpa using h1,h2,h3,by simpa using h4,h5⟩
def pM (g:aw) (a:List aT) (x:Nat) (f:Nat→List Nat) (k:Nat):Nat→List Nat:=if (aB g k).left=(di a x).2 then jy f x (od g a (di a x).1.toNat (aB g k).right) else f
def Km (g:aw) (a:List aT) (f:Nat→List Nat) (x:Nat):Nat→List Nat:=(List.range g.rules.length).foldl (pM g a x) f
def jD (g:aw) (a:List aT) (n:Nat):Nat→List Nat:=(List.range n).foldl (Km g a) fun _=>[]
theorem DN {x y z:Nat} : ∀ (n:Nat) (f:Nat→List Nat),z∈(List.range n).foldl (pM g a x) f y↔z∈f y∨(z=x∧∃ k,k < n∧(aB g k).left=(di a x).2∧y∈od g a (di a x).1.toNat (aB g k).right)
 | 0,f=>by simp
 | n+1,f=>by
  have ih:=DN (x:=x) (y:=y) (z:=z) n f
  rw[U4,UM,Uu,Vk,pM]
  have key:∀ k,(k < n+1∧(aB g k).left=(di a x).2∧y∈od g a (di a x).1.toNat (aB g k).right)↔(k < n∧(aB g k).left=(di a x).2∧y∈od g a (di a x).1.toNat (aB g k).right)∨(k=n∧(aB g k).left=(di a x).2∧y∈od g a (di a x).1.toNat (aB g k).right):=fun k=>by
   constructor
   ·rintro ⟨h1,h2⟩
    rcases Uv k n with q | q
    ·exact .inl ⟨q,h2⟩
    ·exact .inr ⟨by omega,h2⟩
   ·rintro (⟨h1,h2⟩ | ⟨h1,h2⟩)
    ·exact ⟨by omega,h2⟩
    ·exact ⟨by omega,h2⟩
  split
  ·rename_i hc
   rw[Ea,ih]
   constructor
   ·rintro ((h | ⟨h,k,h1⟩) | ⟨h,h1⟩)
    ·exact .inl h
    ·exact .inr ⟨h,k,(key k).2 (.inl h1)⟩
    ·exact .inr ⟨h,n,by omega,hc,h1⟩
   ·rintro (h | ⟨h,k,h1⟩)
    ·exact .inl (.inl h)
    ·rcases (key k).1 h1 with h1 | ⟨rfl,_,h1⟩
     ·exact .inl (.inr ⟨h,k,h1⟩)
     ·exact .inr ⟨h,h1⟩
  ·rename_i hc
   rw[ih]
   constructor
   ·rintro (h | ⟨h,k,h1⟩)
    ·exact .inl h
    ·exact .inr ⟨h,k,(key k).2 (.inl h1)⟩
   ·rintro (h | ⟨h,k,h1⟩)
    ·exact .inl h
    ·rcases (key k).1 h1 with h1 | ⟨rfl,h2,_⟩
     ·exact .inr ⟨h,k,h1⟩
     ·exact absurd h2 hc
theorem Az {y z:Nat} : ∀ n:Nat,z∈jD g a n y↔z < n∧∃ k,k < g.rules.length∧(aB g k).left=(di a z).2∧y∈od g a (di a z).1.toNat (aB g k).right
 | 0=>by simp[jD]
 | n+1=>by
  have ih:=Az (y:=y) (z:=z) n
  unfold jD at ih ⊢
  rw[U4,UM,Uu,Vk,Km,DN,ih]
  constructor
  ·rintro (⟨h1,h2⟩ | ⟨rfl,h2⟩)
   ·exact ⟨by omega,h2⟩
   ·exact ⟨by omega,h2⟩
  ·rintro ⟨h1,h2⟩
   by_cases e:z=n
   ·subst e; exact .inr ⟨rfl,h2⟩
   ·exact .inl ⟨by omega,h2⟩
theorem uQ {x:Nat} {y:Int × Int} (h:(ba a)[x]?=some y):di a x=y:=by
 rw[di,T0,h]; rfl
theorem Jo (hA:ca g a) {x z p:Nat} {B:Int} (hx:(ba a)[x]?=some ((p:Int),B)):z∈jD g a (ba a).length x↔∃ (p' k d:Nat),k < g.rules.length∧(ba a)[z]?=some ((p':Int),(aB g k).left)∧(aB g k).right[d]?=some (-1 - B)∧gZ a p' ((aB g k).right.take d) p∧cz ((aB g k).right.drop (d+1)) (aA g false) false=true:=by
 rw[Az]
 constructor
 ·rintro ⟨hz,k,hk,hl,hm⟩
  have hzg:(ba a)[z]?=some (di a z):=getD_some hz
  obtain ⟨p',hp'⟩:=sf (Ub hzg)
  have hzm:=Ub hzg
  rw[hp'] at hzm hzg
  obtain ⟨hB0,hE⟩:=dr.1 hzm
  have hpl:=ed hE
  rw[hp'] at hm
  simp only[Uq] at hm
  obtain ⟨j,q',C,h1,h2,h3,h4,h5⟩:=(Dv hA hk _ 0 p' hpl (ji hA hpl hB0 hk hl hE) (by rw[Vj])).1 hm
  rw[hx] at h5
  simp only[T7,Ua,Int.natCast_inj] at h5
  obtain ⟨rfl,rfl⟩:=h5
  exact ⟨p',k,j,hk,by rw[hl]; exact hzg,h1,h3,h4⟩
 ·rintro ⟨p',k,d,hk,hz,h1,h2,h3⟩
  have hzl:=(Uj.1 hz).1
  obtain ⟨hB0,hE⟩:=dr.1 (Ub hz)
  have hpl:=ed hE
  have hB:=(dr.1 (Ub hx)).1
  refine ⟨hzl,k,hk,by rw[uQ hz],?_⟩
  rw[uQ hz]
  simp only[Uq]
  exact (Dv hA hk _ 0 p' hpl (ji hA hpl hB0 hk rfl hE) (by rw[Vj])).2 ⟨d,p,B,h1,hB,h2,h3,hx⟩
theorem PA (hA:ca g a) {S1:Nat→BV} (hS:∀ (x p t:Nat) (B:Int),(ba a)[x]?=some ((p:Int),B)→((S1 x).getLsbD t=true↔ou g a p B t)) {x p t:Nat} {B:Int} (hx:(ba a)[x]?=some ((p:Int),B)) :
  lg (jD g a (ba a).length) S1 x t↔qR g a p B t:=by
 constructor
 ·rintro ⟨w,hr,hw⟩
  induction hr generalizing p B with
  | refl=>exact .read ((hS _ _ _ _ hx).1 hw)
  | @step x y w hy hr ih =>
   obtain ⟨p',k,d,h1,h2,h3,h4,h5⟩:=(Jo hA hx).1 hy
   have hE:=(dr.1 (Ub h2)).2
   have hB:=(dr.1 (Ub hx)).1
   exact .CQ (ih h2 hw) h1 hE hB h3 h4 h5
 ·intro h
  induction h generalizing x with
  | read h=>exact ⟨x,.refl,(hS _ _ _ _ hx).2 h⟩
  | @CQ p p' k d B t hF hk hE hB hd hw hn ih =>
   have hR:g.rules[k]?=some (aB g k):=by unfold aB; exact getD_some hk
   have hz:=jx (dr.2 ⟨(hA.cD.left _ (Ub hR)).1,hE⟩)
   obtain ⟨w,k1,k2⟩:=ih hz
   exact ⟨w,.step ((Jo hA hx).2 ⟨p',k,d,hk,hz,hd,hw,hn⟩) k1,k2⟩
end
section
variable {g:aw} {a:List aT}
theorem Gc {q:Nat} : ∀ {l:List Int} {q':Nat},gZ a q l q'→jV a q l=q':=fun {l q'} h=>by
 induction h with
 | nil=>rfl
 | cons _ _ ih=>rw[jV]; exact ih
def iC (g:aw) (a:List aT) (n k i:Nat):List Nat:=(List.range n).filter fun x=>decide ((aB g k).left=(di a x).2∧jV a (di a x).1.toNat (aB g k).right=i)
theorem tz (hA:ca g a) {k i x:Nat} (hk:k < g.rules.length):x∈iC g a (ba a).length k i↔∃ p:Nat,(ba a)[x]?=some ((p:Int),(aB g k).left)∧gZ a p (aB g k).right i:=by
 unfold iC
 simp only[UQ,UR,Ul]
 have hrt:aM g (k:Int)=(aB g k).right:=by rw[aM,T6 (by omega)]
 constructor
 ·rintro ⟨hx,h1,h2⟩
  have hg:(ba a)[x]?=some (di a x):=getD_some hx
  have hm:=Ub hg
  obtain ⟨p,hp⟩:=sf hm
  rw[hp] at hg hm
  rw[← h1] at hg hm
  obtain ⟨hB0,hE⟩:=dr.1 hm
  have hpl:=ed hE
  obtain ⟨q,q1,q2,q3⟩:=hA.fwd k (aB g k).right 0 p hpl (ji hA hpl hB0 hk rfl hE) ⟨[],by rw[hrt]; simp⟩
  rw[hp] at h2
  simp only[Uq] at h2
  rw[Gc q2] at h2
  subst h2
  exact ⟨p,hg,q2⟩
 ·rintro ⟨p,h1,h2⟩
  refine ⟨(Uj.1 h1).1,by rw[uQ h1],?_⟩
  rw[uQ h1]
  simp only[Uq]
  exact Gc h2
def ma (S:Nat→BV) (l:List Nat):BV:=l.foldl (fun b x=>b ||| S x) 0
theorem I1 {S:Nat→BV} {t:Nat} : ∀ (l:List Nat) (b:BV),(l.foldl (fun b x=>b ||| S x) b).getLsbD t=true↔b.getLsbD t=true∨∃ x∈l,(S x).getLsbD t=true
 | [],b=>by simp
 | x :: l,b=>by
  rw[Uu,I1 l,UU,U8]
  simp only[Uk,exists_eq_or_imp]
  exact or_assoc
def iQ (g:aw) (a:List aT) (S:Nat→BV) (i k:Nat):Option eP:=if iC g a (ba a).length k i=[] then none else some ⟨k,ma S (iC g a (ba a).length k i)⟩
def zd (g:aw) (a:List aT) (S:Nat→BV) (i:Nat):List eP:=(List.range g.rules.length).filterMap (iQ g a S i)
theorem Ed:∀ {l m:List eP},l.Pairwise (fun x y=>x.aH < y.aH)→m.Pairwise (fun x y=>x.aH < y.aH)→(∀ x,x∈l↔x∈m)→l=m
 | [],[],_,_,_=>rfl
 | [],y :: m,_,_,h=>by have:=(h y).2 (by simp); simp at this
 | x :: l,[],_,_,h=>by have:=(h x).1 (by simp); simp at this
 | x :: l,y :: m,h1,h2,h=>by
  rw[Vi] at h1 h2
  have e:x=y:=by
   rcases Uk.1 ((h x).1 (by simp)) with e | hx
   ·exact e
   ·rcases Uk.1 ((h y).2 (by simp)) with e | hy
    ·exact e.symm
    ·have:=h1.1 y hy
     have:=h2.1 x hx
     omega
  subst e
  rw[Ed h1.2 h2.2 fun z=>?_]
  constructor
  ·intro hz
   rcases Uk.1 ((h z).1 (by simp[hz])) with e | hz2
   ·have:=h1.1 z hz; rw[e] at this; omega
   ·exact hz2
  ·intro hz
   rcases Uk.1 ((h z).2 (by simp[hz])) with e | hz2
   ·have:=h2.1 z hz; rw[e] at this; omega
   ·exact hz2
theorem Pz {x:aI} (hx:cq g x) (hn:(bL g x).2=false) (h0:0≤x.aH):∃ k:Nat,k < g.rules.length∧x=⟨k,((aB g k).right.length:Nat)⟩:=by
 obtain ⟨k,hk⟩:∃ k:Nat,x.aH=k:=⟨x.aH.toNat,by omega⟩
 have hkl:k < g.rules.length:=by have:=hx.1; omega
 refine ⟨k,hkl,?_⟩
 have hrt:aM g (k:Int)=(aB g k).right:=by rw[aM,T6 (by omega)]
 unfold bL at hn
 rw[hk,hrt] at hn
 split at hn
 ·rename_i h
  cases x
  simp only at hk h
  rw[hk,h]
 ·simp at hn
theorem OC (hA:ca g a) (hr:isRed g=true) {S:Nat→BV} (hS:∀ (x p t:Nat) (B:Int),(ba a)[x]?=some ((p:Int),B)→((S x).getLsbD t=true↔qR g a p B t)) {i:Nat} (hi:i < a.length):zd g a S i=gK g a i:=by
 have hrt:∀ k:Nat,aM g (k:Int)=(aB g k).right:=fun k=>by rw[aM,T6 (by omega)]
 have hnx:∀ k:Nat,bL g ⟨k,((aB g k).right.length:Nat)⟩=(0,false):=fun k=>by
  unfold bL; simp only[hrt,if_true]
 have hcl:(gL g a).getD i []=iw g a i:=by
  unfold gL iw
  simp[T0,T4 hi]
 have hne:∀ k:Nat,k < g.rules.length→(iC g a (ba a).length k i≠[]↔(⟨k,((aB g k).right.length:Nat)⟩:aI)∈iw g a i):=fun k hk=>by
  have hR:g.rules[k]?=some (aB g k):=by unfold aB; exact getD_some hk
  rw[RO hA hi hk]
  constructor
  ·intro h
   obtain ⟨x,hx⟩:=List.exists_mem_of_ne_nil _ h
   obtain ⟨p,h1,h2⟩:=(tz hA hk).1 hx
   exact ⟨p,h2,(dr.1 (Ub h1)).2⟩
  ·rintro ⟨p,h1,h2⟩
   have hz:=jx (dr.2 ⟨(hA.cD.left _ (Ub hR)).1,h2⟩)
   exact List.ne_nil_of_mem ((tz hA hk).2 ⟨p,hz,h1⟩)
 have hset:∀ k:Nat,k < g.rules.length→ma S (iC g a (ba a).length k i)=uo g a i ⟨k,((aB g k).right.length:Nat)⟩:=fun k hk=>by
  have hR:g.rules[k]?=some (aB g k):=by unfold aB; exact getD_some hk
  refine Mm fun t ht=>?_
  rw[Vc,ma,I1,uo,Au _ 32 t (Ug _)]
  simp only[Ul]
  rw[Ge hA hr hk]
  constructor
  ·rintro (h | ⟨x,hx,hb⟩)
   ·simp at h
   ·obtain ⟨p,h1,h2⟩:=(tz hA hk).1 hx
    exact ⟨ht,p,h2,(dr.1 (Ub h1)).2,(hS x p t _ h1).1 hb⟩
  ·rintro ⟨_,p,q1,q2,q3⟩
   have hz:=jx (dr.2 ⟨(hA.cD.left _ (Ub hR)).1,q2⟩)
   exact .inr ⟨_,(tz hA hk).2 ⟨p,hz,q1⟩,(hS _ _ _ _ hz).2 q3⟩
 refine Ed ?_ ?_ fun x=>?_
 ·rw[zd,List.pairwise_filterMap]
  refine List.pairwise_lt_range.imp fun {k k'} hlt b hb b' hb'=>?_
  unfold iQ at hb hb'
  split at hb
  ·simp at hb
  ·split at hb'
   ·simp at hb'
   ·simp only[T7] at hb hb'
    rw[← hb,← hb']
    simp only
    omega
 ·rw[gK,hcl,List.pairwise_filterMap]
  refine (lh g _).imp fun {x y} hxy b hb b' hb'=>?_
  split at hb
  ·rename_i h1
   split at hb'
   ·rename_i h2
    simp only[T7] at hb hb'
    rw[← hb,← hb']
    simp only
    rw[eY] at hxy
    rcases hxy with h | ⟨h,h3⟩
    ·exact h
    ·exfalso
     have e:∀ z:aI,(bL g z).2=false→z.dot=(aM g z.aH).length:=fun z hz=>by
      unfold bL at hz
      split at hz
      ·assumption
      ·simp at hz
     have e1:=e x h1.1
     have e2:=e y h2.1
     rw[h] at e1
     omega
   ·simp at hb'
  ·simp at hb
 ·rw[zd,gK,hcl,Vd,Vd]
  constructor
  ·rintro ⟨k,hk,h⟩
   have hk:=UR.1 hk
   unfold iQ at h
   split at h
   ·simp at h
   ·rename_i hb
    refine ⟨_,(hne k hk).1 hb,?_⟩
    rw[T9 ⟨by rw[hnx],by simp only; omega⟩,← hset k hk]
    exact h
  ·rintro ⟨y,hy,h⟩
   split at h
   ·rename_i hc
    obtain ⟨k,hk,rfl⟩:=Pz (hA.has hi hy) hc.1 hc.2
    refine ⟨k,UR.2 hk,?_⟩
    unfold iQ
    rw[T6 ((hne k hk).2 hy),hset k hk]
    exact h
   ·simp at h
end
end Gv
