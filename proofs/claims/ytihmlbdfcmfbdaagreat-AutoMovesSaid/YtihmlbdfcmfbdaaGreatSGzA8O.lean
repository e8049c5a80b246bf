/-
  Part 15 of the proof: what the machine does and what the functions answer.
  Conditions: those that each lemma names.
-/
import Derived.Test.YtihmlbdfcmfbdaaGreatSGzA8N
set_option linter.unusedSimpArgs false
set_option linter.unusedVariables false
set_option maxRecDepth 100000
namespace Gv
open Go Go.Proofs
theorem aE.still {P:Program} {f:FuncId} {vs:List V} {H:View} {K:V→View→Prop} {w:cp (H,K)} {Φ:V→View→Prop} (hc:aA P f vs H Φ) (hs:∀ r H',Φ r H'→∀ id,H id≠.dead→H' id=H id) (hk:∀ r H',Φ r H'→K r H'):aE P true f vs H K w:=by
  unfold aE
  simp only[if_true]
  exact (hc.mono fun r H' h=>⟨hs r H' h,hk r H' h⟩).DN
theorem bf.join {H:View} {L M:List eJ} (h:bf H L) (k:bf H M) (hd:∀ x∈L,∀ y∈M,∀ id,owner x.1=some id→owner y.1≠some id):bf H (L ++ M):=by
  refine ⟨fun x hx=>?_,?_⟩
  · rcases List.mem_append.1 hx with hx | hx
    · exact h.1 x hx
    · exact k.1 x hx
  · rw[List.filterMap_append,List.nodup_append]
    refine ⟨h.2,k.2,fun a ha b hb e=>?_⟩
    obtain ⟨x,hx,hxa⟩:=List.mem_filterMap.1 ha
    obtain ⟨y,hy,hyb⟩:=List.mem_filterMap.1 hb
    subst e
    exact hd x hx y hy a hxa hyb
theorem bf.sub {H:View} {L M:List eJ} (h:bf H L) (hs:M.Sublist L):bf H M :=
  ⟨fun x hx=>h.1 x (hs.subset hx),h.2.sublist (hs.filterMap _)⟩
theorem Jv {l:List aJ} (hs:cE l) (hn:l.length≤100000) (u:V) (H:View) (ho:aN H u 2 (aS l)):aA Tryz.prog 64 [u] H fun r H'=>H=H'∧aN H r 2 (aS l)∧(l≠[]→r=u):=by
  refine (Ah l hn u H ho).mono ?_
  rintro r H' ⟨k1,k2,k3⟩
  rw[GZ hs] at k2
  have e:H'=H:=by
    funext id
    by_cases h:owner u=some id
    · rw[(ho.live h).1,(k2.live (by rw[k3]; exact h)).1]
    · exact k1 id h
  subst e
  refine ⟨rfl,k2,fun hne=>?_⟩
  have hp:0 < (aS l).length:=by rw[bb]; exact List.length_pos_iff.2 hne
  obtain ⟨n,e1,_⟩:=ho.sl hp
  obtain ⟨m,e2,_⟩:=k2.sl hp
  rw[e1,e2] at k3
  simp only[owner,Option.some.injEq] at k3
  rw[e1,e2,k3]
def om (g:an) (out:List bz) (M:bY (List UInt8)):Prop:=∀ l:List aJ,(∀ x∈l,cm g x)→getM M (eL l)=if findD out l < 0 then none else some (gi (findD out l))
theorem Be:∀ {a b:List bz},a.map bz.bp=b.map bz.bp→∀ k,findD a k=findD b k
  | [],[],_,_=>rfl
  | [],_ :: _,h,_=>by simp at h
  | _ :: _,[],h,_=>by simp at h
  | s :: a,t :: b,h,k=>by
    simp only[List.map_cons,List.cons.injEq] at h
    rw[findD,findD,h.1,Be h.2 k]
theorem zQ:∀ (a:List bz) (s:bz) (k:List aJ),findD (a ++ [s]) k=if 0≤findD a k then findD a k else if s.bp=k then (a.length:Int) else -1
  | [],s,k=>by by_cases e:s.bp=k <;> simp[findD,e]
  | t :: a,s,k=>by
    have ih:=zQ a s k
    have h1:=sJ a k
    rw[List.cons_append,findD,findD,ih]
    simp only[List.length_cons]
    push_cast
    by_cases e:t.bp=k <;> by_cases e2:s.bp=k <;> by_cases h0:0≤findD a k <;> simp only[e,e2,h0,if_true,if_false] <;> (repeat' split) <;> omega
theorem om.same {g:an} {a b:List bz} {M:bY (List UInt8)} (h:om g a M) (e:a.map bz.bp=b.map bz.bp):om g b M:=fun l hl=>by
  rw[h l hl,Be e]
theorem om.put {g:an} (hf:g.dg) {out:List bz} {M:bY (List UInt8)} (h:om g out M) {k:List aJ} (hk:∀ x∈k,cm g x) (hn:findD out k < 0) (c:Nat):om g (out ++ [⟨k,[]⟩]) (bR (eL k) (gi out.length) c M):=fun l hl=>by
  have h1:=zQ out ⟨k,[]⟩ l
  have h2:=sJ out l
  rw[x3]
  by_cases e:l=k
  · subst e
    rw[if_neg (by omega),if_pos rfl] at h1
    rw[h1,beq_self_eq_true,if_pos rfl,if_neg (by omega)]
  · have e2:(eL l == eL k)=false:=beq_eq_false_iff_ne.2 fun h=>e (D7 hf hl hk h)
    rw[e2,h l hl]
    simp only[Bool.false_eq_true,if_false]
    by_cases h0:0≤findD out l
    · rw[if_pos h0] at h1
      rw[h1]
    · rw[if_neg h0,if_neg (fun h=>e h.symm)] at h1
      rw[h1,if_pos (by omega),if_pos (by omega)]
theorem EG {A:bY Int} {k:Nat} {v:V} (hn:(A.map (·.1)).Nodup) (h:getM A (k:Int)=some v):∃ b,(A.filter (fun x=>decide (((k:Nat):Int)≤x.1))).Perm (((k:Int),v,b) :: A.filter (fun x=>decide (((k+1:Nat):Int)≤x.1))):=by
  obtain ⟨A1,A2,b,rfl,hn1,_⟩:=tu h
  rw[List.map_append,List.map_cons,List.nodup_append] at hn
  have hn2:(k:Int) ∉ A2.map (·.1):=(List.nodup_cons.1 hn.2.1).1
  have e:∀ B:bY Int,(k:Int) ∉ B.map (·.1)→B.filter (fun x=>decide (((k:Nat):Int)≤x.1))=B.filter (fun x=>decide (((k+1:Nat):Int)≤x.1)):=fun B hB=>List.filter_congr fun x hx=>by
    have:x.1≠(k:Int):=fun e=>hB (List.mem_map.2 ⟨x,hx,e⟩)
    rw[decide_eq_decide]; omega
  refine ⟨b,?_⟩
  rw[List.filter_append,List.filter_append,List.filter_cons,List.filter_cons,if_pos (by simp),if_neg (by simp only[decide_eq_true_eq]; push_cast; omega),e A1 hn1,e A2 hn2]
  exact List.perm_middle
theorem N4 {α:Type} {e u r:α} {S X Y:List α} (h:X.Perm (r :: Y)):(e :: u :: (S ++ X)).Perm (u :: ((S ++ [r,e]) ++ Y)):=by
  refine (List.Perm.swap _ _ _).trans (.cons _ ?_)
  rw[List.append_assoc]
  refine ((h.append_left S).cons e).trans ?_
  exact List.perm_middle.symm.trans ((List.Perm.swap _ _ _).append_left S)
theorem Cs {α:Type} {u k e:α} {S R:List α} : (u :: (S ++ k :: e :: R)).Perm (e :: u :: (S ++ k :: R)):=by
  have h:(S ++ k :: e :: R).Perm (e :: (S ++ k :: R)):=by
    have:=List.perm_middle (a:=e) (l₁:=S ++ [k]) (l₂:=R)
    simpa using this
  exact (h.cons u).trans (List.Perm.swap _ _ _)
def rN:SC :=
  .seq (al [aO 49 .lss 48 47]) <|
  .seq (.cond (.tmp 49) (.skip) (.exit 2)) <|
  .seq (.block 3 (.seq (al [aa 50 48,aa 9 50]) <|
  .seq (al [aa 51 8,aa 52 9,((some 53),.op (.old (.lookup 98 (.tmp 51) (.tmp 52) false) 27)),aG 54 64 [53],aa 10 54]) <|
  .seq (.seq (al [aa 55 10,aM 56 55,ax 57 .eql 56 0]) <|
  .cond (.tmp 57) (.exit 3) (.skip)) <|
  .seq (al [aa 58 9,aa 11 58]) <|
  .seq (.seq (al [aa 59 9,ao 60 0 1,aq 61 60,aM 62 61,aO 63 .geq 59 62]) <|
  .cond (.tmp 63) (al [ao 64 0 1,aq 65 64,aM 66 65,ax 67 .sub 66 1,aa 68 9,aO 69 .sub 67 68,aa 11 69]) (.skip)) <|
  .seq (al [aa 71 6,aa 72 10,aG 73 62 [72],((some 74),.op (.old (.lookup 97 (.tmp 71) (.tmp 73) true) 30)),aa 70 74,ct 75 0 70,ct 76 1 70,aa 12 75,aa 13 76]) <|
  .seq (.seq (al [aa 77 13,cb 78 77]) <|
  .cond (.tmp 78) (.seq (al [aa 79 5,aM 80 79,aa 12 80]) <|
  .seq (al [aa 81 6,aa 82 10,aG 83 62 [82],aa 84 12,(none,.op (.old (.mapUpdate 97 (.tmp 81) (.tmp 83) (.tmp 84)) 0))]) <|
  al [aa 85 5,aa 86 10,((some 87),.op (.build [(.emp 1),(.emp 1)] [(0,1,(.tmp 86))])),((some 88),.op (.bD 1 2 [(.emp 1),(.emp 1)] [(0,(.tmp 87))])),((some 89),.op (.app 2 48 (.tmp 85) (.tmp 88))),aa 5 89]) (.skip)) <|
  al [aa 90 5,aa 91 7,aa 92 5,aa 93 7,aZ 94 2 92 93,ao 95 1 94,aq 96 95,aa 97 11,aa 98 12,((some 99),.op (.build [(.val (.int .i64 0)),(.val (.int .i64 0))] [(0,1,(.tmp 97)),(1,1,(.tmp 98))])),((some 100),.op (.bD 1 2 [(.val (.int .i64 0)),(.val (.int .i64 0))] [(0,(.tmp 99))])),((some 101),.op (.app 2 16 (.tmp 96) (.tmp 100))),aZ 102 2 90 91,ao 103 1 102,(none,.op (.store 1 (.tmp 103) (.tmp 101)))])) <|
  al [ax 104 .add 48 1,aa 48 104]
def rL:SC :=
  .seq (.seq (al [aa 26 7,aa 27 5,aM 28 27,aO 29 .lss 26 28]) <|
  .cond (.tmp 29) (.skip) (.exit 0)) <|
  .seq (.block 1 (.seq (.region true [⟨none,[aH 32 4 1,aH 33 4 1,aa 34 5,aa 35 7,aZ 36 2 34 35,ao 37 0 36,aq 38 37,aG 39 56 [33,38],aG 40 63 [32,39],aa 8 40]⟩]) <|
  .seq (.seq (al [ao 41 0 1,aq 42 41,aM 43 42,ao 44 1 1,aq 45 44,aM 46 45,aO 47 .add 43 46,aF 48 0]) <|
  .block 2 (.loop rN)) <|
  .seq (al [aa 105 5,aM 106 105,ax 107 .gtr 106 300]) <|
  .cond (.tmp 107) (.seq (al [((some 2),.op (.bj (.val (.emp 1)))),aF 3 5]) <|
  .ret) (.skip))) <|
  al [aa 30 7,ax 31 .add 30 1,aa 7 31]
def vi:SF:=⟨.seq (al [b6 1 0,((some 2),.op (.bj (.val (.emp 1)))),aF 3 0]) <|
  .seq (.seq (al [aH 14 4 1,aG 15 61 [14],cb 16 15]) <|
  .cond (.tmp 16) (.seq (al [((some 2),.op (.bj (.val (.emp 1)))),aF 3 1]) <|
  .ret) (.skip)) <|
  .seq (al [((some 17),.op (.build [(.val (.int .i64 0)),(.val (.int .i64 0))] [(0,1,(.val (.val (.int .i64 (-1)))))])),((some 18),.op (.bD 1 2 [(.val (.int .i64 0)),(.val (.int .i64 0))] [(0,(.tmp 17))])),aa 4 18]) <|
  .seq (al [aa 19 4,((some 20),.op (.build [(.emp 1),(.emp 1)] [(0,1,(.tmp 19))])),((some 21),.op (.bD 1 2 [(.emp 1),(.emp 1)] [(0,(.tmp 20))])),aa 5 21]) <|
  .seq (al [((some 22),.op (.kX)),aa 23 4,aG 24 62 [23],(none,.op (.old (.insert 97 (.tmp 22) (.tmp 24) (.const (.int .i64 0))) 0)),aa 25 22,aa 6 25]) <|
  .seq (.seq (al [aF 7 0]) <|
  .block 0 (.loop rL)) <|
  .seq (al [aa 108 5,aa 2 108,aF 3 0]) <|
  .ret,
  [.tmp 2,.tmp 3],109⟩
theorem yn:bh Tryz.prog 24 [1]=some vi:=by kernel_rfl
def PA (g:an) (m:Nat) (T:Env) (H:View):Prop:=∃ (at_:Nat) (u:V) (S:List rX) (out:List bz) (q c:Nat) (M:bY (List UInt8)),m+at_=302∧out=S.map (fun x=>x.2.2)∧bf H ((u,2,gX S) :: qC S)∧dd g at_ 0 out∧1≤out.length∧out.length≤300∧fp g m at_ out=dQ g∧at_≤out.length ∧
  H q=.map (bL fK M) c∧om g out M∧T 1=.aU (aw g) 0∧T 5=u∧T 6=.mp q∧T 7=gi at_
set_option maxHeartbeats 32000000 in
theorem IJ (g:an) (hg:g.Ok) (hsm:g.Small):dW Tryz.prog 24 [.agg (aw g)] (.bc [j3 (dQ g).1,gi (dQ g).2]):=by
  refine dW.of (iC g) ?_
  have hIs:=Ek g hg hsm
  refine aA.of mixed yn ?_
  simp only[aw,encS] at hIs
  simp (disch:=omega) only [↓wr,↓reduceIte,wq,ah,ag,aj,ab,ae,af,ai,isNil,Nat.reduceEqDiff,Nat.reduceAdd,Nat.reduceLT,Nat.reduceLeDiff,Int.reduceNeg,Int.reduceToNat,reduceCtorEq,vi,aw,encS]
  refine aE.pure hIs (by kernel_rfl) ?_
  simp (disch:=omega) only [↓wr,↓reduceIte,wq,ah,ag,aj,ab,ae,af,ai,isNil,Nat.reduceEqDiff,Nat.reduceAdd,Nat.reduceLT,Nat.reduceLeDiff,Int.reduceNeg,Int.reduceToNat,reduceCtorEq]
  refine au.split (fun hr=>?_) (fun hr=>?_)
  rotate_left
  · simp (disch:=omega) only [↓wr,↓reduceIte,wq,ah,ag,aj,ab,ae,af,ai,isNil,Nat.reduceEqDiff,Nat.reduceAdd,Nat.reduceLT,Nat.reduceLeDiff,Int.reduceNeg,Int.reduceToNat,reduceCtorEq]
    intro h' _
    have e:dQ g=([],1):=by unfold dQ; rw[if_neg (by rw[hr]; simp)]
    rw[e]
    exact zT (.emp _)
  have hf:g.dg:=zg hr
  have e0:fp g 302 0 dD=dQ g:=by unfold dQ; rw[if_pos hr]
  have hT:=hf.av; have hN:=hf.az
  simp (disch:=omega) only [↓wr,↓reduceIte,wq,ah,ag,aj,ab,ae,af,ai,isNil,Nat.reduceEqDiff,Nat.reduceAdd,Nat.reduceLT,Nat.reduceLeDiff,Int.reduceNeg,Int.reduceToNat,reduceCtorEq]
  intro q1 q2 hq2 q3 hq3
  have hst1:cm g ⟨-1,0⟩:=(nh (g:=g)).bp ⟨[⟨-1,0⟩],[]⟩ (by simp[dD]) |>.2.2 _ (by simp)
  have o0:bf (((View.set (fun _=>bI.dead) q1 (.arr 2 [[gi (-1),gi 0]])).set q2 (.arr 2 [[.sl q1 0 1 2,.emp 1]]))) ((.sl q2 0 1 2,2,gX [(.sl q1 0 1 2,.emp 1,⟨[⟨-1,0⟩],[]⟩)]) :: qC [(.sl q1 0 1 2,.emp 1,⟨[⟨-1,0⟩],[]⟩)]) :=
    (((bf.nil.emp (k:=1) (sz:=2)).new (n:=q1) rfl 2 [[gi (-1),gi 0]]).new (by simpa [View.set] using hq2) 2 [[.sl q1 0 1 2,.emp 1]])
  have o1:=o0.fresh (n:=q3) (by simpa [View.set] using hq3) (o:=.map [] 0)
  have hm3:((((View.set (fun _=>bI.dead) q1 (.arr 2 [[gi (-1),gi 0]])).set q2 (.arr 2 [[.sl q1 0 1 2,.emp 1]])).set q3 (.map [] 0))) q3=.map (bL fK []) 0:=by simp[View.set,bL]
  generalize (((View.set (fun _=>bI.dead) q1 (.arr 2 [[gi (-1),gi 0]])).set q2 (.arr 2 [[.sl q1 0 1 2,.emp 1]])).set q3 (.map [] 0))=H3 at o1 hm3 ⊢
  clear o0 hq2 hq3
  have ok1:aN H3 (.sl q1 0 1 2) 2 (aS [⟨-1,0⟩]):=o1.1 _ (List.mem_cons_of_mem _ (List.mem_cons_self ..))
  refine aE.gF ((EH g hf [⟨-1,0⟩] (fun x hx=>by simp at hx; subst hx; exact hst1) (by simp) (.sl q1 0 1 2) H3 ok1).mono ?_)
  rintro r H4 ⟨rfl,k4⟩
  have hm4:H4 q3=.map (bL fK []) 0:=by rw[k4 q3 (by rw[hm3]; simp),hm3]
  simp (disch:=omega) only [↓wr,↓reduceIte,wq,ah,ag,aj,ab,ae,af,ai,isNil,Nat.reduceEqDiff,Nat.reduceAdd,Nat.reduceLT,Nat.reduceLeDiff,Int.reduceNeg,Int.reduceToNat,reduceCtorEq,NJ]
  refine sd (kt:=9) (et:=3) (by kernel_rfl) (EC Tryz.underlying9) (id:=q3) (c:=0) (m:=[]) (k:=eL [⟨-1,0⟩]) (v:=gi 0) (by simp (disch:=omega) only [↓wr,↓reduceIte,wq,ah,ag,aj,ab,ae,af,ai,isNil,Nat.reduceEqDiff,Nat.reduceAdd,Nat.reduceLT,Nat.reduceLeDiff,Int.reduceNeg,Int.reduceToNat,reduceCtorEq]) (by simp (disch:=omega) only [↓wr,↓reduceIte,wq,ah,ag,aj,ab,ae,af,ai,isNil,Nat.reduceEqDiff,Nat.reduceAdd,Nat.reduceLT,Nat.reduceLeDiff,Int.reduceNeg,Int.reduceToNat,reduceCtorEq]) rfl hm4 ?_
  intro c'
  have hN0:om g dD (bR (eL [⟨-1,0⟩]) (gi 0) 0 []):=om.put (out:=[]) hf (fun l _=>by simp[getM,findD]) (fun x hx=>by simp at hx; subst hx; exact hst1) (by simp[findD]) 0
  have o2:=(o1.stay k4).vJ hm4 (o:=.map (bL fK (bR (eL [⟨-1,0⟩]) (gi 0) 0 [])) c')
  have hm5:(H4.set q3 (.map (bL fK (bR (eL [⟨-1,0⟩]) (gi 0) 0 [])) c')) q3=.map (bL fK (bR (eL [⟨-1,0⟩]) (gi 0) 0 [])) c':=by simp[View.set]
  generalize H4.set q3 (.map (bL fK (bR (eL [⟨-1,0⟩]) (gi 0) 0 [])) c')=H5 at o2 hm5 ⊢
  clear hm4 hm3 k4 ok1 o1
  clear H4 H3
  simp (disch:=omega) only [↓wr,↓reduceIte,wq,ah,ag,aj,ab,ae,af,ai,isNil,Nat.reduceEqDiff,Nat.reduceAdd,Nat.reduceLT,Nat.reduceLeDiff,Int.reduceNeg,Int.reduceToNat,reduceCtorEq]
  refine bK.intro (PA g) 302 ⟨0,_,_,dD,q3,c',_,rfl,rfl,o2,nh,Nat.le_refl _,by simp[dD],e0,by omega,hm5,hN0,rfl,rfl,rfl,rfl⟩ ?_
  clear o2 hm5 hN0
  clear H5 q1 q2 q3 c'
  rintro m T H ⟨at_,u,S,out,q,c,M,hm,rfl,ho,hI,h1,h300,hl,hle,hmq,hNM,t1,t5,t6,t7⟩
  have hlu:cH u=some S.length:=by rw[ho.head.len,fo]
  simp only[List.length_map] at h1 h300 hle
  simp (disch:=omega) only [↓wr,↓reduceIte,wq,ah,ag,aj,ab,ae,af,ai,isNil,Nat.reduceEqDiff,Nat.reduceAdd,Nat.reduceLT,Nat.reduceLeDiff,Int.reduceNeg,Int.reduceToNat,reduceCtorEq,rL,t1,t5,t6,t7,hlu]
  refine au.dec (fun hc=>?_) (fun hc=>?_)
  rotate_left
  · simp (disch:=omega) only [↓wr,↓reduceIte,wq,ah,ag,aj,ab,ae,af,ai,isNil,Nat.reduceEqDiff,Nat.reduceAdd,Nat.reduceLT,Nat.reduceLeDiff,Int.reduceNeg,Int.reduceToNat,reduceCtorEq,t5]
    have e1:dQ g=(S.map (fun x=>x.2.2),0):=by
      rw[← hl]
      cases m with
      | zero=>rfl
      | succ m=>rw[fp,if_neg (by simp; omega)]
    rw[e1]
    rintro h' rfl
    exact zT (MR ho.head fun x hx=>⟨ho.1 _ (List.mem_cons_of_mem _ (AK hx).1),ho.1 _ (List.mem_cons_of_mem _ (AK hx).2)⟩)
  obtain ⟨m,rfl⟩:∃ q,m=q+1:=⟨m - 1,by omega⟩
  have hat:at_ < S.length:=by omega
  obtain ⟨S1,x,S2,rfl,hS1,hx⟩:=CH hat
  have hxm:x∈S1 ++ x :: S2:=by simp
  obtain ⟨hk1,hk2,hk3⟩:=hI.bp x.2.2 (List.mem_map_of_mem hxm)
  have hkl:=sr hf hk1 hk3
  have hh:aN H u 2 (gX (S1 ++ x :: S2)):=ho.head
  obtain ⟨id,hu,hid⟩:=hh.sl (by rw[fo]; omega)
  have hgx:(gX (S1 ++ x :: S2)).getD at_ []=[x.1,x.2.1]:=by simp[gX,List.getD_eq_getElem?_getD,← hS1]
  have hcl:cn g ((List.map (fun x=>x.2.2) (S1 ++ x :: S2)).getD at_ bV).bp=cn g x.2.2.bp:=by
    rw[List.getD_eq_getElem?_getD,List.getElem?_map,hx]; rfl
  have hrow:=fun n hn=>dd.row (hI.nU hf (show at_ < ((S1 ++ x :: S2).map fun x=>x.2.2).length by simpa using hat)).1 (hI.nU hf (show at_ < ((S1 ++ x :: S2).map fun x=>x.2.2).length by simpa using hat)).2 hI n hn
  rw[fp,if_pos (by simpa using hat),z1] at hl
  rw[hcl] at hl hrow
  have hcs:=oP g x.2.2.bp
  have hch:∀ y∈cn g x.2.2.bp,cm g y:=fun y hy=>((pY hf hk3).1 hy).has hk3
  rw[fo] at hu
  simp (disch:=omega) only [↓wr,↓reduceIte,wq,ah,ag,aj,ab,ae,af,ai,isNil,Nat.reduceEqDiff,Nat.reduceAdd,Nat.reduceLT,Nat.reduceLeDiff,Int.reduceNeg,Int.reduceToNat,reduceCtorEq,t1,t5,t7,hu,hid,hgx,aw,encS]
  refine ⟨by omega,by rw[fo]; omega,?_⟩
  refine aE.Fq (wC g hf x.2.2.bp hk3 (by omega) x.1 H (ho.1 _ (List.mem_cons_of_mem _ (AK hxm).1))) ?_
  intro r H2 or fr
  simp (disch:=omega) only [↓wr,↓reduceIte,wq,ah,ag,aj,ab,ae,af,ai,isNil,Nat.reduceEqDiff,Nat.reduceAdd,Nat.reduceLT,Nat.reduceLeDiff,Int.reduceNeg,Int.reduceToNat,reduceCtorEq,aw,encS]
  have hcl':=sr hf hcs hch
  refine aE.still (Lg g hf (cn g x.2.2.bp) hch (by omega) r H2 or) (fun r H' h=>by obtain ⟨q,A,_,h⟩:=h; exact h.old) ?_
  rintro r2 H6 ⟨q',A,rfl,hMv⟩
  have hfr:∀ id,H id≠.dead→H6 id=H id:=fun id hid=>by rw[hMv.old id (by rw[(fr id hid).1]; exact hid),(fr id hid).1]
  have hmq6:H6 q=.map (bL fK M) c:=by rw[hfr q (by rw[hmq]; simp),hmq]
  have o6:bf H6 ((u,2,gX (S1 ++ x :: S2)) :: (qC (S1 ++ x :: S2) ++ gu g (cn g x.2.2.bp) (A.filter fun y=>decide (((0:Nat):Int)≤y.1)))):=by
    have hA:A.filter (fun y=>decide (((0:Nat):Int)≤y.1))=A:=List.filter_eq_self.2 fun y hy=>by simpa using (hMv.ne y hy).1
    rw[hA]
    refine (ho.stay hfr).join (M:=gu g (cn g x.2.2.bp) A) hMv.own fun a ha b hb id h1 h2=>?_
    obtain ⟨y,hy,rfl⟩:=List.mem_map.1 hb
    have h3:=hMv.new y hy id h2
    have h4:=ho.live ha h1
    rw[(fr id h4).1] at h3
    exact h4 h3
  obtain ⟨cA,hmA⟩:=hMv.mp
  have hAnd:=hMv.nd
  have hqq:q'≠q:=by
    rintro rfl
    have:=hMv.q0
    rw[(fr _ (by rw[hmq]; simp)).1,hmq] at this; simp at this
  have hAval:∀ k:Nat,(getM A (k:Int)=none→ba g (cn g x.2.2.bp) (aT g k)=[]):=fun k h=>Decidable.byContradiction fun hne=>getM_none.1 h (hMv.all k hne)
  clear or fr hid hgx hcl hx hfr hMv hmq
  generalize cn g x.2.2.bp=cl at *
  generalize hout0:(S1 ++ x :: S2).map (fun x=>x.2.2)=out0 at *
  have hol:out0.length=(S1 ++ x :: S2).length:=by rw[← hout0]; simp
  simp (disch:=omega) only [↓wr,↓reduceIte,wq,ah,ag,aj,ab,ae,af,ai,isNil,Nat.reduceEqDiff,Nat.reduceAdd,Nat.reduceLT,Nat.reduceLeDiff,Int.reduceNeg,Int.reduceToNat,reduceCtorEq,t1,t5,t6,t7,aw,encS]
  refine bK.up (g.av.length+g.az.length) (fun i T H'=>∃ (u:V) (S:List rX) (M:bY (List UInt8)) (c:Nat),S.map (fun x=>x.2.2)=(List.range i).foldl (dp g cl at_) out0∧bf H' ((u,2,gX S) :: (qC S ++ gu g cl (A.filter fun y=>decide (((i:Nat):Int)≤y.1)))) ∧
    H' q'=.map (bL (Value.int .i64) A) cA∧H' q=.map (bL fK M) c∧om g (S.map fun x=>x.2.2) M∧T 1=.aU (aw g) 0∧T 5=u∧T 6=.mp q∧T 7=gi at_∧T 8=.mp q'∧T 47=gi ((g.av.length+g.az.length:Nat):Int)∧T 48=gi i)
    ⟨u,_,M,c,hout0,o6,hmA,hmq6,by rw[hout0]; exact hNM,t1,by rw[← hu]; exact t5,t6,t7,rfl,?_,rfl⟩ ?_
  · push_cast; rfl
  rw[← hol] at h1 h300 hle hat
  clear o6 ho hh hu t1 t5 t6 t7 hlu hout0 hxm hol hc hk1 hk2 hk3 hkl hS1 hmA hmq6 hNM
  clear u H H2 H6 T id S1 x S2 M c r
  rintro i k T H' hk ⟨u,S,M,c,hA,ho,hmA,hmq,hNM,t1,t5,t6,t7,t8,t47,t48⟩
  obtain ⟨iI,il1,il2⟩:=hrow i (by omega)
  rw[← hA] at iI il1 il2
  rw[List.length_map] at il1 il2
  have hlu:cH u=some S.length:=by rw[ho.head.len,fo]
  simp (disch:=omega) only [↓wr,↓reduceIte,wq,ah,ag,aj,ab,ae,af,ai,isNil,Nat.reduceEqDiff,Nat.reduceAdd,Nat.reduceLT,Nat.reduceLeDiff,Int.reduceNeg,Int.reduceToNat,reduceCtorEq,rN,t1,t5,t6,t7,t8,t47,t48]
  refine au.dec (fun hc=>?_) (fun hc=>?_)
  rotate_left
  · have hi:i=g.av.length+g.az.length:=by omega
    subst hi
    rw[← hA] at hl
    simp (disch:=omega) only [↓wr,↓reduceIte,wq,ah,ag,aj,ab,ae,af,ai,isNil,Nat.reduceEqDiff,Nat.reduceAdd,Nat.reduceLT,Nat.reduceLeDiff,Int.reduceNeg,Int.reduceToNat,reduceCtorEq,t1,t5,t6,t7,hlu]
    refine au.dec (fun h3=>?_) (fun h3=>?_)
    · simp (disch:=omega) only [↓wr,↓reduceIte,wq,ah,ag,aj,ab,ae,af,ai,isNil,Nat.reduceEqDiff,Nat.reduceAdd,Nat.reduceLT,Nat.reduceLeDiff,Int.reduceNeg,Int.reduceToNat,reduceCtorEq]
      intro h' _
      rw[if_pos (by rw[List.length_map]; omega)] at hl
      rw[← hl]
      exact zT (.emp _)
    · simp (disch:=omega) only [↓wr,↓reduceIte,wq,ah,ag,aj,ab,ae,af,ai,isNil,Nat.reduceEqDiff,Nat.reduceAdd,Nat.reduceLT,Nat.reduceLeDiff,Int.reduceNeg,Int.reduceToNat,reduceCtorEq,t1,t5,t6,t7]
      rw[if_neg (by rw[List.length_map]; omega)] at hl
      exact ⟨m,by omega,at_+1,u,S,_,q,c,M,by omega,rfl,ho.sub (List.Sublist.cons_cons _ (List.sublist_append_left _ _)),iI.next,by rw[List.length_map]; omega,by rw[List.length_map]; omega,hl,by rw[List.length_map]; omega,hmq,hNM,t1,t5,t6,rfl⟩
  have hcN:i < g.av.length+g.az.length:=by omega
  have hsb:=HA hf hcN
  have hstep:(List.range (i+1)).foldl (dp g cl at_) out0=dp g cl at_ (S.map fun x=>x.2.2) i:=by rw[List.range_succ,List.foldl_append,← hA]; rfl
  have hval:aN H' ((getM A (i:Int)).getD (.emp 1)) 2 (aS (ba g cl (aT g i))):=by
    cases hg:getM A (i:Int) with
    | none=>rw[hAval i hg]; exact .nil
    | some v =>
      obtain ⟨b,hp⟩:=EG hAnd hg
      refine ho.1 (v,2,aS (ba g cl (aT g i))) (List.mem_cons_of_mem _ (List.mem_append_right _ (List.mem_map.2 ⟨((i:Int),v,b),hp.mem_iff.2 (by simp),?_⟩)))
      simp
  have hsub:(gu g cl (A.filter fun y=>decide (((i+1:Nat):Int)≤y.1))).Sublist (gu g cl (A.filter fun y=>decide (((i:Nat):Int)≤y.1))):=by
    have:A.filter (fun y=>decide (((i+1:Nat):Int)≤y.1))=(A.filter (fun y=>decide (((i:Nat):Int)≤y.1))).filter (fun y=>decide (((i+1:Nat):Int)≤y.1)):=by
      rw[List.filter_filter]
      refine List.filter_congr fun y _=>?_
      rw[← Bool.decide_and,decide_eq_decide]; omega
    rw[this]
    exact (List.filter_sublist).map _
  simp (disch:=omega) only [↓wr,↓reduceIte,wq,ah,ag,aj,ab,ae,af,ai,isNil,Nat.reduceEqDiff,Nat.reduceAdd,Nat.reduceLT,Nat.reduceLeDiff,Int.reduceNeg,Int.reduceToNat,reduceCtorEq,t8,t48]
  refine vU (kt:=3) (et:=27) (z:=.emp 1) (by kernel_rfl) (by kernel_rfl) (jg .i64 Tryz.underlying3) (id:=q') (c:=cA) (m:=A) (k:=(i:Int)) (by simp (disch:=omega) only [↓wr,↓reduceIte,wq,ah,ag,aj,ab,ae,af,ai,isNil,Nat.reduceEqDiff,Nat.reduceAdd,Nat.reduceLT,Nat.reduceLeDiff,Int.reduceNeg,Int.reduceToNat,reduceCtorEq]) (by simp (disch:=omega) only [↓wr,↓reduceIte,wq,ah,ag,aj,ab,ae,af,ai,isNil,Nat.reduceEqDiff,Nat.reduceAdd,Nat.reduceLT,Nat.reduceLeDiff,Int.reduceNeg,Int.reduceToNat,reduceCtorEq]) hmA ?_
  simp (disch:=omega) only [↓wr,↓reduceIte,wq,ah,ag,aj,ab,ae,af,ai,isNil,Nat.reduceEqDiff,Nat.reduceAdd,Nat.reduceLT,Nat.reduceLeDiff,Int.reduceNeg,Int.reduceToNat,reduceCtorEq]
  refine aE.gF ((Jv (Bi (aT g i) hcs) (by have:=xk (g:=g) (l:=cl) (s:=aT g i); omega) _ H' hval).mono ?_)
  rintro r _ ⟨rfl,or,hreq⟩
  have hml:=xk (g:=g) (l:=cl) (s:=aT g i)
  have hmh:=DB (s:=aT g i) hch
  have hl9:cH r=some (ba g cl (aT g i)).length:=by rw[or.len,bb]
  simp (disch:=omega) only [↓wr,↓reduceIte,wq,ah,ag,aj,ab,ae,af,ai,isNil,Nat.reduceEqDiff,Nat.reduceAdd,Nat.reduceLT,Nat.reduceLeDiff,Int.reduceNeg,Int.reduceToNat,reduceCtorEq,hl9]
  refine au.eq (fun he=>?_) (fun he=>?_)
  · have hnil:ba g cl (aT g i)=[]:=List.length_eq_zero_iff.1 (by omega)
    simp (disch:=omega) only [↓wr,↓reduceIte,wq,ah,ag,aj,ab,ae,af,ai,isNil,Nat.reduceEqDiff,Nat.reduceAdd,Nat.reduceLT,Nat.reduceLeDiff,Int.reduceNeg,Int.reduceToNat,reduceCtorEq,t1,t5,t6,t7,t8,t47,t48]
    exact bE hk (by omega) ⟨u,S,M,c,by rw[hstep,dp,if_pos hnil],ho.sub (List.Sublist.cons_cons _ (hsub.append_left _)),hmA,hmq,hNM,t1,t5,t6,t7,t8,t47,rfl⟩
  have hne:ba g cl (aT g i)≠[]:=fun e=>he (by rw[e]; rfl)
  have hgs:∃ v,getM A (i:Int)=some v:=by
    cases hg:getM A (i:Int) with
    | none=>exact absurd (hAval i hg) hne
    | some v=>exact ⟨v,rfl⟩
  obtain ⟨v,hg⟩:=hgs
  have hrv:=hreq hne
  rw[hg] at hrv
  simp only[Option.getD_some] at hrv
  obtain ⟨b,hperm⟩:=EG hAnd hg
  have hperm2:(gu g cl (A.filter fun y=>decide (((i:Nat):Int)≤y.1))).Perm ((r,2,aS (ba g cl (aT g i))) :: gu g cl (A.filter fun y=>decide (((i+1:Nat):Int)≤y.1))):=by
    have:=hperm.map (fun x:Int × V × Nat=>((x.2.1,2,aS (ba g cl (aT g x.1.toNat))):eJ))
    simp only[List.map_cons,Int.toNat_natCast] at this
    rw[hrv]; exact this
  have hfl:=xj (S.map fun x=>x.2.2) (ba g cl (aT g i))
  have hfg:=sJ (S.map fun x=>x.2.2) (ba g cl (aT g i))
  rw[List.length_map] at hfl
  have hNk:=hNM (ba g cl (aT g i)) hmh
  have hat2:at_ < S.length:=by omega
  obtain ⟨S1,x,S2,hSs,hS1,hx⟩:=CH hat2
  have hxe:x.2.2.bU.length≤40:=(iI.bU at_ x.2.2 (by rw[List.getElem?_map,hx]; rfl)).1
  have hgx:∀ B,(gX (S1 ++ x :: B)).getD at_ []=[x.1,x.2.1]:=fun B=>by simp[gX,List.getD_eq_getElem?_getD,← hS1]
  have hput:∀ (B:List rX) (c:gU),((S1 ++ x :: B).map fun x=>x.2.2).modify at_ (fun s=>(⟨s.bp,s.bU ++ [c]⟩:bz))=(S1 ++ (x.1,x.2.1,(⟨x.2.2.bp,x.2.2.bU ++ [c]⟩:bz)) :: B).map fun x=>x.2.2:=fun B c=>by
    rw[List.map_append,List.map_cons,← hS1,← List.length_map (f:=fun x:rX=>x.2.2),Hv,List.map_append,List.map_cons]
  simp (disch:=omega) only [↓wr,↓reduceIte,wq,ah,ag,aj,ab,ae,af,ai,isNil,Nat.reduceEqDiff,Nat.reduceAdd,Nat.reduceLT,Nat.reduceLeDiff,Int.reduceNeg,Int.reduceToNat,reduceCtorEq,t1,t5,t6,t7,t8,aw,encS]
  refine au.dec (fun hge=>?_) (fun hge=>?_)
  simp (disch:=omega) only [↓wr,↓reduceIte,wq,ah,ag,aj,ab,ae,af,ai,isNil,Nat.reduceEqDiff,Nat.reduceAdd,Nat.reduceLT,Nat.reduceLeDiff,Int.reduceNeg,Int.reduceToNat,reduceCtorEq,t1,t5,t6,t7,t8,aw,encS]
  have hs:aT g i=(g.av.length:Int) - 1 - i:=by unfold aT; rw[if_neg (by omega)]; omega
  generalize (g.av.length:Int) - 1 - (i:Int)=sv at hs ⊢
  rotate_left
  simp (disch:=omega) only [↓wr,↓reduceIte,wq,ah,ag,aj,ab,ae,af,ai,isNil,Nat.reduceEqDiff,Nat.reduceAdd,Nat.reduceLT,Nat.reduceLeDiff,Int.reduceNeg,Int.reduceToNat,reduceCtorEq,t1,t5,t6,t7,t8,aw,encS]
  have hs:aT g i=(i:Int):=by unfold aT; rw[if_pos (by omega)]
  generalize ((i:Nat):Int)=sv at hs ⊢
  all_goals (
    refine aE.gF ((EH g hf (ba g cl (aT g i)) hmh (by omega) r H' or).mono ?_)
    rintro rk H3 ⟨rfl,k3⟩
    have hmq3:H3 q=.map (bL fK M) c:=by rw[k3 q (by rw[hmq]; simp),hmq]
    have hmA3:H3 q'=.map (bL (Value.int .i64) A) cA:=by rw[k3 q' (by rw[hmA]; simp),hmA]
    have o3:=ho.stay k3
    have or3:aN H3 r 2 (aS (ba g cl (aT g i))):=or.keep fun id hid=>k3 id (by rw[(or.live hid).1]; simp)
    simp (disch:=omega) only [↓wr,↓reduceIte,wq,ah,ag,aj,ab,ae,af,ai,isNil,Nat.reduceEqDiff,Nat.reduceAdd,Nat.reduceLT,Nat.reduceLeDiff,Int.reduceNeg,Int.reduceToNat,reduceCtorEq,t6]
    refine Me (kt:=9) (et:=3) (z:=gi 0) (by kernel_rfl) (by kernel_rfl) (EC Tryz.underlying9) (id:=q) (c:=c) (m:=M) (k:=eL (ba g cl (aT g i))) (by simp (disch:=omega) only [↓wr,↓reduceIte,wq,ah,ag,aj,ab,ae,af,ai,isNil,Nat.reduceEqDiff,Nat.reduceAdd,Nat.reduceLT,Nat.reduceLeDiff,Int.reduceNeg,Int.reduceToNat,reduceCtorEq]) (by simp (disch:=omega) only [↓wr,↓reduceIte,wq,ah,ag,aj,ab,ae,af,ai,isNil,Nat.reduceEqDiff,Nat.reduceAdd,Nat.reduceLT,Nat.reduceLeDiff,Int.reduceNeg,Int.reduceToNat,reduceCtorEq]) hmq3 ?_
    by_cases hneg:findD (S.map fun x=>x.2.2) (ba g cl (aT g i)) < 0
    rw[if_pos hneg] at hNk
    rw[hNk]
    simp only[Option.getD_none,Option.isSome_none]
    simp (disch:=omega) only [↓wr,↓reduceIte,wq,ah,ag,aj,ab,ae,af,ai,isNil,Nat.reduceEqDiff,Nat.reduceAdd,Nat.reduceLT,Nat.reduceLeDiff,Int.reduceNeg,Int.reduceToNat,reduceCtorEq,t1,t5,t6,t7,t8,hlu]
    refine aE.gF ((EH g hf (ba g cl (aT g i)) hmh (by omega) r H3 or3).mono ?_)
    rintro rk2 H4 ⟨rfl,k4⟩
    have hmq4:H4 q=.map (bL fK M) c:=by rw[k4 q (by rw[hmq3]; simp),hmq3]
    have hmA4:H4 q'=.map (bL (Value.int .i64) A) cA:=by rw[k4 q' (by rw[hmA3]; simp),hmA3]
    have o4:=o3.stay k4
    simp (disch:=omega) only [↓wr,↓reduceIte,wq,ah,ag,aj,ab,ae,af,ai,isNil,Nat.reduceEqDiff,Nat.reduceAdd,Nat.reduceLT,Nat.reduceLeDiff,Int.reduceNeg,Int.reduceToNat,reduceCtorEq,t6]
    refine sd (kt:=9) (et:=3) (by kernel_rfl) (EC Tryz.underlying9) (id:=q) (c:=c) (m:=M) (k:=eL (ba g cl (aT g i))) (v:=gi S.length) (by simp (disch:=omega) only [↓wr,↓reduceIte,wq,ah,ag,aj,ab,ae,af,ai,isNil,Nat.reduceEqDiff,Nat.reduceAdd,Nat.reduceLT,Nat.reduceLeDiff,Int.reduceNeg,Int.reduceToNat,reduceCtorEq]) (by simp (disch:=omega) only [↓wr,↓reduceIte,wq,ah,ag,aj,ab,ae,af,ai,isNil,Nat.reduceEqDiff,Nat.reduceAdd,Nat.reduceLT,Nat.reduceLeDiff,Int.reduceNeg,Int.reduceToNat,reduceCtorEq]) (by simp (disch:=omega) only [↓wr,↓reduceIte,wq,ah,ag,aj,ab,ae,af,ai,isNil,Nat.reduceEqDiff,Nat.reduceAdd,Nat.reduceLT,Nat.reduceLeDiff,Int.reduceNeg,Int.reduceToNat,reduceCtorEq]) hmq4 ?_
    intro c'
    have hN2:om g ((S1 ++ x :: (S2 ++ [(r,.emp 1,(⟨ba g cl (aT g i),[]⟩:bz))])).map fun x=>x.2.2) (bR (eL (ba g cl (aT g i))) (gi S.length) c M):=by
      have:=om.put hf hNM hmh hneg c
      rw[List.length_map] at this
      refine this.same ?_
      rw[hSs]; simp
    have hmq5:(H4.set q (.map (bL fK (bR (eL (ba g cl (aT g i))) (gi S.length) c M)) c')) q=.map (bL fK (bR (eL (ba g cl (aT g i))) (gi S.length) c M)) c':=by simp[View.set]
    have hmA5:(H4.set q (.map (bL fK (bR (eL (ba g cl (aT g i))) (gi S.length) c M)) c')) q'=.map (bL (Value.int .i64) A) cA:=by
      simp only[View.set]; rw[if_neg hqq]; exact hmA4
    have o5:=o4.vJ hmq4 (o:=.map (bL fK (bR (eL (ba g cl (aT g i))) (gi S.length) c M)) c')
    generalize H4.set q (.map (bL fK (bR (eL (ba g cl (aT g i))) (gi S.length) c M)) c')=H5 at hmq5 hmA5 o5 ⊢
    clear hmq4 hmA4 o4 k4
    generalize bR (eL (ba g cl (aT g i))) (gi S.length) c M=M2 at hN2 hmq5
    simp (disch:=omega) only [↓wr,↓reduceIte,wq,ah,ag,aj,ab,ae,af,ai,isNil,Nat.reduceEqDiff,Nat.reduceAdd,Nat.reduceLT,Nat.reduceLeDiff,Int.reduceNeg,Int.reduceToNat,reduceCtorEq,t1,t5,t6,t7,t8,or.cells,or.uV]
    intro q5 hq5
    simp (disch:=omega) only [↓wr,↓reduceIte,wq,ah,ag,aj,ab,ae,af,ai,isNil,Nat.reduceEqDiff,Nat.reduceAdd,Nat.reduceLT,Nat.reduceLeDiff,Int.reduceNeg,Int.reduceToNat,reduceCtorEq,fP]
    have hnq:∀ b,H5 b≠.dead→b≠q5:=fun b hb e=>hb (by rw[e]; exact hq5)
    refine jM (o5.fresh hq5) (by simp[or.uV,AE]) (by unfold aW; rw[fo]; simp; omega) (by unfold aW; rw[fo]; simp; omega) ?_
    intro u2 H10 o11 l11
    have hmq10:=l11.map (o5.fresh (o:=.arr 2 [[r,.emp 1]]) hq5).head (b:=q) (c:=c') (es:=bL fK M2) (by simp only[View.set]; rw[if_neg (hnq q (by rw[hmq5]; simp)),hmq5])
    have hmA10:=l11.map (o5.fresh (o:=.arr 2 [[r,.emp 1]]) hq5).head (b:=q') (c:=cA) (es:=bL (Value.int .i64) A) (by simp only[View.set]; rw[if_neg (hnq q' (by rw[hmA5]; simp)),hmA5])
    have o12:=(o11.emp (k:=1) (sz:=2)).perm (N4 hperm2)
    have hst:dp g cl at_ (S.map fun x=>x.2.2) i=((S1 ++ x :: (S2 ++ [(r,.emp 1,(⟨ba g cl (aT g i),[]⟩:bz))])).map fun x=>x.2.2).modify at_ (fun s=>(⟨s.bp,s.bU ++ [⟨aT g i,(S.length:Int)⟩]⟩:bz)):=by
      rw[dp,if_neg hne,if_pos hneg,List.length_map]
      congr 1
      rw[hSs]; simp
    have o13:bf H10 ((u2,2,gX (S1 ++ x :: (S2 ++ [(r,.emp 1,(⟨ba g cl (aT g i),[]⟩:bz))]))) :: (qC (S1 ++ x :: (S2 ++ [(r,.emp 1,(⟨ba g cl (aT g i),[]⟩:bz))])) ++ gu g cl (A.filter fun y=>decide (((i+1:Nat):Int)≤y.1)))):=by
      have e1:gX (S1 ++ x :: (S2 ++ [(r,.emp 1,(⟨ba g cl (aT g i),[]⟩:bz))]))=gX S ++ [[r,.emp 1]]:=by rw[hSs]; simp[gX]
      have e2:qC (S1 ++ x :: (S2 ++ [(r,.emp 1,(⟨ba g cl (aT g i),[]⟩:bz))]))=qC S ++ [(r,2,aS (ba g cl (aT g i))),(.emp 1,2,[])]:=by rw[hSs]; simp[qC]; rfl
      rw[e1,e2]
      exact o12
    have hBl:(S1 ++ x :: (S2 ++ [(r,V.emp 1,(⟨ba g cl (aT g i),[]⟩:bz))])).length≤400:=by
      have:=congrArg List.length hSs
      simp at this ⊢; omega
    generalize (S2 ++ [(r,V.emp 1,(⟨ba g cl (aT g i),[]⟩:bz))])=B at hst o13 hN2 hBl
    generalize (S.length:Int)=to at hst ⊢
    clear o11 o12 l11 hmq5 hmA5 o5 hnq hq5
    rotate_left
    rw[if_neg hneg] at hNk
    rw[hNk]
    simp only[Option.getD_some,Option.isSome_some]
    simp (disch:=omega) only [↓wr,↓reduceIte,wq,ah,ag,aj,ab,ae,af,ai,isNil,Nat.reduceEqDiff,Nat.reduceAdd,Nat.reduceLT,Nat.reduceLeDiff,Int.reduceNeg,Int.reduceToNat,reduceCtorEq,t1,t5,t6,t7,t8]
    have hst:dp g cl at_ (S.map fun x=>x.2.2) i=((S1 ++ x :: S2).map fun x=>x.2.2).modify at_ (fun s=>(⟨s.bp,s.bU ++ [⟨aT g i,findD (S.map fun x=>x.2.2) (ba g cl (aT g i))⟩]⟩:bz)):=by
      rw[dp,if_neg hne,if_neg hneg,← hSs]
    have o13:=o3.sub (List.Sublist.cons_cons _ (hsub.append_left _))
    have hN2:=hNM
    have hBl:(S1 ++ x :: S2).length≤400:=by rw[← hSs]; omega
    have hmq10:=hmq3
    have hmA10:=hmA3
    generalize H3=H10 at o13 hmq10 hmA10 ⊢
    generalize u=u2 at o13 t5 ⊢
    rw[hSs] at o13 hN2
    generalize findD (S.map fun x=>x.2.2) (ba g cl (aT g i))=to at hst ⊢
    generalize S2=B at hst o13 hN2 hBl
    generalize M=M2 at hmq10 hN2
    generalize c=c' at hmq10
    all_goals (
      obtain ⟨id,hu,hid⟩:=(show aN H10 u2 2 (gX (S1 ++ x :: B)) from o13.head).sl (by rw[fo]; simp; omega)
      rw[fo] at hu
      rw[F0] at o13
      simp only[List.append_assoc,List.cons_append] at o13
      simp (disch:=omega) only [↓wr,↓reduceIte,wq,ah,ag,aj,ab,ae,af,ai,isNil,Nat.reduceEqDiff,Nat.reduceAdd,Nat.reduceLT,Nat.reduceLeDiff,Int.reduceNeg,Int.reduceToNat,reduceCtorEq,t1,t5,t6,t7,t8,hu,hid,hgx B]
      refine ⟨by simp; omega,by rw[fo]; simp; omega,?_⟩
      intro q2 hq2
      have hnq:∀ b,H10 b≠.dead→b≠q2:=fun b hb e=>hb (by rw[e]; exact hq2)
      simp (disch:=omega) only [↓wr,↓reduceIte,wq,ah,ag,aj,ab,ae,af,ai,isNil,Nat.reduceEqDiff,Nat.reduceAdd,Nat.reduceLT,Nat.reduceLeDiff,Int.reduceNeg,Int.reduceToNat,reduceCtorEq,fP]
      refine jM ((o13.perm Cs).fresh hq2) (by simp[aR]) (by unfold aW; simp[jR]; omega) (by unfold aW; simp[jR]; omega) ?_
      intro e2 H11 o14 l14
      have hmq11:=l14.map ((o13.perm Cs).fresh (o:=.arr 2 [[gi sv,gi to]]) hq2).head (b:=q) (c:=c') (es:=bL fK M2) (by simp only[View.set]; rw[if_neg (hnq q (by rw[hmq10]; simp)),hmq10])
      have hmA11:=l14.map ((o13.perm Cs).fresh (o:=.arr 2 [[gi sv,gi to]]) hq2).head (b:=q') (c:=cA) (es:=bL (Value.int .i64) A) (by simp only[View.set]; rw[if_neg (hnq q' (by rw[hmA10]; simp)),hmA10])
      have hid2:H11 id=.arr 2 (gX (S1 ++ x :: B)):=((o14.own 1 rfl).live (by rw[hu]; rfl)).1
      simp (disch:=omega) only [↓wr,↓reduceIte,wq,ah,ag,aj,ab,ae,af,ai,isNil,Nat.reduceEqDiff,Nat.reduceAdd,Nat.reduceLT,Nat.reduceLeDiff,Int.reduceNeg,Int.reduceToNat,reduceCtorEq,t1,t5,t6,t7,t8,t47,t48,hu,hid2,hgx B,o14.head.cells,o14.head.uV]
      have hset:(gX (S1 ++ x :: B)).set at_ [x.1,e2]=gX (S1 ++ (x.1,e2,(⟨x.2.2.bp,x.2.2.bU ++ [⟨aT g i,to⟩]⟩:bz)) :: B):=by
        rw[← hS1]; simp[gX]
      have hpd:jR (x.2.2.bU ++ [⟨aT g i,to⟩])=jR x.2.2.bU ++ [[gi sv,gi to]]:=by rw[hs]; simp[jR,yA]
      have o15:=o14.perm (.swap _ _ _)
      rw[hu] at o15
      have o16:=((o15.put (es':=gX (S1 ++ (x.1,e2,(⟨x.2.2.bp,x.2.2.bU ++ [⟨aT g i,to⟩]⟩:bz)) :: B)) (by rw[fo,fo]; simp) (by rw[fo])).perm (.swap _ _ _)).perm Cs.symm
      rw[← hpd] at o16
      rw[← hu] at o16
      rw[hset]
      have hnid:∀ b c es,H11 b=.map es c→b≠id:=fun b c es hb e=>by rw[e,hid2] at hb; simp at hb
      refine ⟨by simp; omega,by rw[fo]; simp; omega,bE hk (by omega) ⟨u2,_,M2,c',?_,by rw[F0]; simp only[List.append_assoc,List.cons_append]; exact o16,?_,?_,?_,t1,by first | rfl | exact t5 | exact hu.symm,t6,t7,t8,t47,rfl⟩⟩
      · rw[hstep,hst,hput]; simp
      · simp only[View.set]; rw[if_neg (hnid q' _ _ hmA11)]; exact hmA11
      · simp only[View.set]; rw[if_neg (hnid q _ _ hmq11)]; exact hmq11
      · refine hN2.same ?_
        simp))
def lW:DF:=⟨.seq (ak [aV 0 false]) <|
  .seq (ak [((some 16),.op (.bD 16 1 [(.val (.int .u8 0))] [(0,(.val (.val (.int .u8 37)))),(1,(.val (.val (.int .u8 37)))),(2,(.val (.val (.int .u8 32)))),(3,(.val (.val (.int .u8 115)))),(4,(.val (.val (.int .u8 32)))),(5,(.val (.val (.int .u8 58)))),(6,(.val (.val (.int .u8 32)))),(7,(.val (.val (.int .u8 39)))),(8,(.val (.val (.int .u8 97)))),(9,(.val (.val (.int .u8 39)))),(10,(.val (.val (.int .u8 32)))),(11,(.val (.val (.int .u8 115)))),(12,(.val (.val (.int .u8 32)))),(13,(.val (.val (.int .u8 124)))),(14,(.val (.val (.int .u8 32)))),(15,(.val (.val (.int .u8 59))))])),((some 17),.op (.old (.convert 91 91 (.tmp 16)) 91)),aG 18 49 [17],aa 15 18,ct 19 0 15,ct 20 1 15,ct 21 2 15,((some 1),.op (.alloc [(.emp 1),(.emp 1),(.emp 1),(.val (.int .i64 0))])),(none,.op (.store 4 (.tmp 1) (.tmp 19))),aa 2 20,aa 3 21]) <|
  .seq (ak [aH 23 4 1,aG 24 24 [23],aa 22 24,ct 25 0 22,ct 26 1 22,aa 4 25,aa 5 26]) <|
  .seq (ak [((some 28),.op (.build [(.emp 1),(.emp 1),(.emp 1),(.val (.int .i64 0))] [])),aG 29 24 [28],aa 27 29,ct 30 0 27,ct 31 1 27,aa 6 30,aa 7 31]) <|
  .seq (ak [aH 32 4 1,((some 33),.op (.build [(.val (.int .i64 0)),(.val (.int .i64 0))] [(0,1,(.val (.val (.int .i64 (-1)))))])),((some 34),.op (.build [(.val (.int .i64 0)),(.val (.int .i64 0))] [(0,1,(.val (.val (.int .i64 7))))])),((some 35),.op (.bD 2 2 [(.val (.int .i64 0)),(.val (.int .i64 0))] [(0,(.tmp 33)),(1,(.tmp 34))])),aG 36 22 [32,35],aa 8 36]) <|
  .seq (ak [aa 38 4,((some 39),.op (.bD 3 1 [(.val (.int .i64 0))] [(0,(.val (.val (.int .i64 0)))),(1,(.val (.val (.int .i64 0)))),(2,(.val (.val (.int .i64 (-1)))))])),cZ 40 28 [(.tmp 38),(.val (.val (.int .i64 0))),(.tmp 39)],aa 37 40,ct 41 0 37,ct 42 1 37,aa 9 41,aa 10 42]) <|
  .seq (ak [aa 44 4,((some 45),.op (.bD 1 1 [(.val (.int .i64 0))] [(0,(.val (.val (.int .i64 1))))])),cZ 46 28 [(.tmp 44),(.val (.val (.int .i64 0))),(.tmp 45)],aa 43 46,ct 47 0 43,ct 48 1 43,aa 11 47,aa 12 48]) <|
  .seq (ak [aH 50 4 1,((some 51),.op (.build [(.val (.int .i64 0)),(.val (.int .i64 0))] [(0,1,(.val (.val (.int .i64 0)))),(1,1,(.val (.val (.int .i64 1))))])),aG 52 17 [50,51],aa 49 52,ct 53 0 49,ct 54 1 49,aa 13 53,aa 14 54]) <|
  .seq (.region [] [⟨none,[aa 55 5,ax 56 .eql 55 0,aa 57 56]⟩,⟨(some (57,true)),[aa 58 7,ax 59 .eql 58 1]⟩,⟨none,[bB 60 57 59,aa 61 60]⟩,⟨(some (61,true)),[aa 62 4,aM 63 62,ax 64 .eql 63 4]⟩,⟨none,[bB 65 61 64,aa 66 65]⟩,⟨(some (66,true)),[aa 67 4,((some 68),.op (.idx 2 (.tmp 67) (.val (.val (.int .i64 1))))),ao 69 1 68,aq 70 69,aM 71 70,ax 72 .eql 71 2]⟩,⟨none,[bB 73 66 72,aa 74 73]⟩,⟨(some (74,true)),[aa 75 8,aM 76 75,ax 77 .eql 76 3]⟩,⟨none,[bB 78 74 77,aa 79 78]⟩,⟨(some (79,true)),[aa 80 8,((some 81),.op (.idx 2 (.tmp 80) (.val (.val (.int .i64 0))))),ao 82 0 81,aq 83 82,ax 84 .eql 83 (-1)]⟩,⟨none,[bB 85 79 84,aa 86 85]⟩,⟨(some (86,true)),[aa 87 10]⟩,⟨none,[bB 88 86 87,aa 89 88]⟩,⟨(some (89,true)),[aa 90 9,ax 91 .eql 90 3]⟩,⟨none,[bB 92 89 91,aa 93 92]⟩,⟨(some (93,true)),[aa 94 12,cb 95 94]⟩,⟨none,[bB 96 93 95,aa 97 96]⟩,⟨(some (97,true)),[aa 98 14]⟩,⟨none,[bB 99 97 98,aa 100 99]⟩,⟨(some (100,true)),[aa 101 13,ax 102 .eql 101 (-1)]⟩,⟨none,[bB 103 100 102,aa 104 103]⟩,⟨(some (104,true)),[aH 105 4 1,((some 106),.op (.build [(.val (.int .i64 0)),(.val (.int .i64 0))] [(0,1,(.val (.val (.int .i64 1))))])),aG 107 19 [105,106]]⟩,⟨none,[bB 108 104 107,aa 109 108]⟩,⟨(some (109,true)),[aH 110 4 1,((some 111),.op (.build [(.val (.int .i64 0)),(.val (.int .i64 0))] [(0,1,(.val (.val (.int .i64 1)))),(1,1,(.val (.val (.int .i64 1))))])),aG 112 19 [110,111],cb 113 112]⟩,⟨none,[bB 114 109 113,aa 0 114]⟩]) <|
  .ret,
  [.tmp 0],115⟩
theorem qN:aP Tryz.prog 15 []=some lW:=by kernel_rfl
def AJ:DC :=
  .seq (ak [aO 49 .lss 48 47]) <|
  .seq (.cond (.tmp 49) (.skip) (.exit 2)) <|
  .seq (.block 3 (.seq (ak [aa 50 48,aa 9 50]) <|
  .seq (ak [aa 51 8,aa 52 9,((some 53),.op (.old (.lookup 98 (.tmp 51) (.tmp 52) false) 27)),aG 54 64 [53],aa 10 54]) <|
  .seq (.seq (ak [aa 55 10,aM 56 55,ax 57 .eql 56 0]) <|
  .cond (.tmp 57) (.exit 3) (.skip)) <|
  .seq (ak [aa 58 9,aa 11 58]) <|
  .seq (.seq (ak [aa 59 9,ao 60 0 1,aq 61 60,aM 62 61,aO 63 .geq 59 62]) <|
  .cond (.tmp 63) (ak [ao 64 0 1,aq 65 64,aM 66 65,ax 67 .sub 66 1,aa 68 9,aO 69 .sub 67 68,aa 11 69]) (.skip)) <|
  .seq (ak [aa 71 6,aa 72 10,aG 73 62 [72],((some 74),.op (.old (.lookup 97 (.tmp 71) (.tmp 73) true) 30)),aa 70 74,ct 75 0 70,ct 76 1 70,aa 12 75,aa 13 76]) <|
  .seq (.seq (ak [aa 77 13,cb 78 77]) <|
  .cond (.tmp 78) (.seq (ak [aa 79 5,aM 80 79,aa 12 80]) <|
  .seq (ak [aa 81 6,aa 82 10,aG 83 62 [82],aa 84 12,(none,.op (.old (.mapUpdate 97 (.tmp 81) (.tmp 83) (.tmp 84)) 0))]) <|
  ak [aa 85 5,aa 86 10,((some 87),.op (.build [(.emp 1),(.emp 1)] [(0,1,(.tmp 86))])),((some 88),.op (.bD 1 2 [(.emp 1),(.emp 1)] [(0,(.tmp 87))])),((some 89),.op (.app 2 48 (.tmp 85) (.tmp 88))),aa 5 89]) (.skip)) <|
  ak [aa 90 5,aa 91 7,aa 92 5,aa 93 7,aZ 94 2 92 93,ao 95 1 94,aq 96 95,aa 97 11,aa 98 12,((some 99),.op (.build [(.val (.int .i64 0)),(.val (.int .i64 0))] [(0,1,(.tmp 97)),(1,1,(.tmp 98))])),((some 100),.op (.bD 1 2 [(.val (.int .i64 0)),(.val (.int .i64 0))] [(0,(.tmp 99))])),((some 101),.op (.app 2 16 (.tmp 96) (.tmp 100))),aZ 102 2 90 91,ao 103 1 102,(none,.op (.store 1 (.tmp 103) (.tmp 101)))])) <|
  ak [ax 104 .add 48 1,aa 48 104]
def Al:DC :=
  .seq (.seq (ak [aa 26 7,aa 27 5,aM 28 27,aO 29 .lss 26 28]) <|
  .cond (.tmp 29) (.skip) (.exit 0)) <|
  .seq (.block 1 (.seq (.region [(0,7)] [⟨none,[aH 32 4 1,aH 33 4 1,aa 34 5,aa 35 7,aZ 36 2 34 35,ao 37 0 36,aq 38 37,aG 39 56 [33,38],aG 40 63 [32,39],aa 8 40]⟩]) <|
  .seq (.seq (ak [ao 41 0 1,aq 42 41,aM 43 42,ao 44 1 1,aq 45 44,aM 46 45,aO 47 .add 43 46,aF 48 0]) <|
  .block 2 (.loop AJ)) <|
  .seq (ak [aa 105 5,aM 106 105,ax 107 .gtr 106 300]) <|
  .cond (.tmp 107) (.seq (ak [((some 2),.op (.bj (.val (.emp 1)))),aF 3 5]) <|
  .ret) (.skip))) <|
  ak [aa 30 7,ax 31 .add 30 1,aa 7 31]
def uH:DF:=⟨.seq (ak [b6 1 0,((some 2),.op (.bj (.val (.emp 1)))),aF 3 0]) <|
  .seq (.seq (ak [aH 14 4 1,aG 15 61 [14],cb 16 15]) <|
  .cond (.tmp 16) (.seq (ak [((some 2),.op (.bj (.val (.emp 1)))),aF 3 1]) <|
  .ret) (.skip)) <|
  .seq (ak [((some 17),.op (.build [(.val (.int .i64 0)),(.val (.int .i64 0))] [(0,1,(.val (.val (.int .i64 (-1)))))])),((some 18),.op (.bD 1 2 [(.val (.int .i64 0)),(.val (.int .i64 0))] [(0,(.tmp 17))])),aa 4 18]) <|
  .seq (ak [aa 19 4,((some 20),.op (.build [(.emp 1),(.emp 1)] [(0,1,(.tmp 19))])),((some 21),.op (.bD 1 2 [(.emp 1),(.emp 1)] [(0,(.tmp 20))])),aa 5 21]) <|
  .seq (ak [((some 22),.op (.kX)),aa 23 4,aG 24 62 [23],(none,.op (.old (.insert 97 (.tmp 22) (.tmp 24) (.const (.int .i64 0))) 0)),aa 25 22,aa 6 25]) <|
  .seq (.seq (ak [aF 7 0]) <|
  .block 0 (.loop Al)) <|
  .seq (ak [aa 108 5,aa 2 108,aF 3 0]) <|
  .ret,
  [.tmp 2,.tmp 3],109⟩
theorem zk:aP Tryz.prog 24 [1]=some uH:=by kernel_rfl
def wQ:DF:=⟨.seq (ak [((some 2),.op (.bj (.val (.emp 1))))]) <|
  .seq (ak [aa 3 0,cZ 4 112 [(.tmp 3),(.val (.fn 113 [] []))]]) <|
  .seq (ak [aa 5 0,aG 6 114 [5],aa 2 6]) <|
  .ret,
  [.tmp 2],7⟩
theorem AU:aP Tryz.prog 64 []=some wQ:=by kernel_rfl
def eM:DF:=⟨.seq (ak [aa 5 0,aM 6 5,aa 4 6]) <|
  ak [aa 7 0,aa 8 4,aa 9 4,((some 10),.op (.conv .u64 (.tmp 9))),aG 11 167 [10],aa 12 1,cZ 13 166 [(.tmp 7),(.val (.val (.int .i64 0))),(.tmp 8),(.tmp 11),(.tmp 12)]],
  [],14⟩
theorem hD:aP Tryz.prog 112 []=some eM:=by kernel_rfl
def qf:DF:=⟨.seq (ak [aF 2 0]) <|
  .seq (.cond (.val (.val (.bool false))) (.seq (ak [aa 3 0,((some 4),.op (.conv .u32 (.tmp 3))),aG 5 207 [4],aa 2 5]) <|
  .ret) (.skip)) <|
  .seq (ak [aa 6 0,aG 7 208 [6],aa 2 7]) <|
  .ret,
  [.tmp 2],8⟩
theorem uD:aP Tryz.prog 167 []=some qf:=by kernel_rfl
def ot:DF:=⟨.seq (ak [aF 2 0]) <|
  .seq (.seq (ak [aa 3 0,((some 4),.op (.arith .geq (.tmp 3) (.val (.val (.int .u32 65536)))))]) <|
  .cond (.tmp 4) (.seq (ak [aa 5 0,((some 6),.op (.sh false (.tmp 5) (.val (.val (.int .u64 16))))),aa 0 6]) <|
  ak [aF 2 16]) (.skip)) <|
  .seq (.seq (ak [aa 7 0,((some 8),.op (.arith .geq (.tmp 7) (.val (.val (.int .u32 256)))))]) <|
  .cond (.tmp 8) (.seq (ak [aa 9 0,((some 10),.op (.sh false (.tmp 9) (.val (.val (.int .u64 8))))),aa 0 10]) <|
  ak [aa 11 2,ax 12 .add 11 8,aa 2 12]) (.skip)) <|
  .seq (.region [] [⟨none,[aa 13 2,aa 14 0,((some 15),.op (.conv .u8 (.tmp 14))),((some 16),.op (.c7 (.val (.val (.string ⟨#[0,1,2,2,3,3,3,3,4,4,4,4,4,4,4,4,5,5,5,5,5,5,5,5,5,5,5,5,5,5,5,5,6,6,6,6,6,6,6,6,6,6,6,6,6,6,6,6,6,6,6,6,6,6,6,6,6,6,6,6,6,6,6,6,7,7,7,7,7,7,7,7,7,7,7,7,7,7,7,7,7,7,7,7,7,7,7,7,7,7,7,7,7,7,7,7,7,7,7,7,7,7,7,7,7,7,7,7,7,7,7,7,7,7,7,7,7,7,7,7,7,7,7,7,7,7,7,7,8,8,8,8,8,8,8,8,8,8,8,8,8,8,8,8,8,8,8,8,8,8,8,8,8,8,8,8,8,8,8,8,8,8,8,8,8,8,8,8,8,8,8,8,8,8,8,8,8,8,8,8,8,8,8,8,8,8,8,8,8,8,8,8,8,8,8,8,8,8,8,8,8,8,8,8,8,8,8,8,8,8,8,8,8,8,8,8,8,8,8,8,8,8,8,8,8,8,8,8,8,8,8,8,8,8,8,8,8,8,8,8,8,8,8,8,8,8,8,8,8,8,8,8,8,8,8,8]⟩))) (.tmp 15))),((some 17),.op (.conv .i64 (.tmp 16))),aO 18 .add 13 17,aa 2 18]⟩]) <|
  .ret,
  [.tmp 2],19⟩
theorem tx:aP Tryz.prog 207 []=some ot:=by kernel_rfl
def oA:DF:=⟨.seq (ak [aF 2 0]) <|
  .seq (.seq (ak [aa 3 0,((some 4),.op (.arith .geq (.tmp 3) (.val (.val (.int .u64 4294967296)))))]) <|
  .cond (.tmp 4) (.seq (ak [aa 5 0,((some 6),.op (.sh false (.tmp 5) (.val (.val (.int .u64 32))))),aa 0 6]) <|
  ak [aF 2 32]) (.skip)) <|
  .seq (.seq (ak [aa 7 0,((some 8),.op (.arith .geq (.tmp 7) (.val (.val (.int .u64 65536)))))]) <|
  .cond (.tmp 8) (.seq (ak [aa 9 0,((some 10),.op (.sh false (.tmp 9) (.val (.val (.int .u64 16))))),aa 0 10]) <|
  ak [aa 11 2,ax 12 .add 11 16,aa 2 12]) (.skip)) <|
  .seq (.seq (ak [aa 13 0,((some 14),.op (.arith .geq (.tmp 13) (.val (.val (.int .u64 256)))))]) <|
  .cond (.tmp 14) (.seq (ak [aa 15 0,((some 16),.op (.sh false (.tmp 15) (.val (.val (.int .u64 8))))),aa 0 16]) <|
  ak [aa 17 2,ax 18 .add 17 8,aa 2 18]) (.skip)) <|
  .seq (.region [] [⟨none,[aa 19 2,aa 20 0,((some 21),.op (.conv .u8 (.tmp 20))),((some 22),.op (.c7 (.val (.val (.string ⟨#[0,1,2,2,3,3,3,3,4,4,4,4,4,4,4,4,5,5,5,5,5,5,5,5,5,5,5,5,5,5,5,5,6,6,6,6,6,6,6,6,6,6,6,6,6,6,6,6,6,6,6,6,6,6,6,6,6,6,6,6,6,6,6,6,7,7,7,7,7,7,7,7,7,7,7,7,7,7,7,7,7,7,7,7,7,7,7,7,7,7,7,7,7,7,7,7,7,7,7,7,7,7,7,7,7,7,7,7,7,7,7,7,7,7,7,7,7,7,7,7,7,7,7,7,7,7,7,7,8,8,8,8,8,8,8,8,8,8,8,8,8,8,8,8,8,8,8,8,8,8,8,8,8,8,8,8,8,8,8,8,8,8,8,8,8,8,8,8,8,8,8,8,8,8,8,8,8,8,8,8,8,8,8,8,8,8,8,8,8,8,8,8,8,8,8,8,8,8,8,8,8,8,8,8,8,8,8,8,8,8,8,8,8,8,8,8,8,8,8,8,8,8,8,8,8,8,8,8,8,8,8,8,8,8,8,8,8,8,8,8,8,8,8,8,8,8,8,8,8,8,8,8,8,8,8,8]⟩))) (.tmp 21))),((some 23),.op (.conv .i64 (.tmp 22))),aO 24 .add 19 23,aa 2 24]⟩]) <|
  .ret,
  [.tmp 2],25⟩
theorem sN:aP Tryz.prog 208 []=some oA:=by kernel_rfl
def jD:DC :=
  .block 1 (.seq (ak [aa 21 2,aa 22 1,aO 23 .sub 21 22,aa 12 23]) <|
  .seq (.seq (ak [aa 24 12,ax 25 .leq 24 12]) <|
  .cond (.tmp 25) (.seq (ak [aa 26 0,aa 27 1,aa 28 2,aa 29 4,aG 30 199 [26,27,28,29]]) <|
  .ret) (.skip)) <|
  .seq (.seq (ak [aa 31 3,ax 32 .eql 31 0]) <|
  .cond (.tmp 32) (.seq (ak [aa 33 0,aa 34 1,aa 35 2,aa 36 4,aG 37 200 [33,34,35,36]]) <|
  .ret) (.skip)) <|
  .seq (.seq (ak [aa 38 10,cb 39 38]) <|
  .cond (.tmp 39) (.seq (ak [aa 40 0,aa 41 1,aa 42 2,aa 43 4,aG 44 201 [40,41,42,43]]) <|
  ak [aa 45 3,ax 46 .sub 45 1,aa 3 46]) (.skip)) <|
  .seq (ak [aa 48 0,aa 49 1,aa 50 2,aa 51 4,aG 52 202 [48,49,50,51],aa 47 52,ct 53 0 47,ct 54 1 47,aa 13 53,aa 14 54]) <|
  .seq (.seq (ak [aa 55 14,ax 56 .eql 55 2]) <|
  .cond (.tmp 56) (.seq (ak [aa 57 0,aa 58 1,aa 59 2,aa 60 4,aG 61 203 [57,58,59,60]]) <|
  .seq (ak [aa 62 2,ax 63 .sub 62 1,aa 64 13,aa 65 1,aO 66 .sub 64 65,aO 67 .sub 63 66,aa 13 67]) <|
  ak [aF 14 1]) (.skip)) <|
  .seq (.seq (.region [] [⟨none,[aa 68 10,aa 69 68]⟩,⟨(some (69,true)),[aa 70 11]⟩,⟨none,[bB 71 69 70,aa 72 71]⟩,⟨(some (72,true)),[aa 73 14,ax 74 .eql 73 1]⟩,⟨none,[bB 75 72 74]⟩]) <|
  .cond (.tmp 75) (.seq (ak [aa 76 0,aa 77 1,aa 78 2,aa 79 4,aG 80 204 [76,77,78,79]]) <|
  .cond (.tmp 80) (.ret) (.skip)) (.skip)) <|
  .seq (.seq (.region [] [⟨none,[aa 81 1,ax 82 .gtr 81 0,aa 83 82]⟩,⟨(some (83,true)),[aa 84 4,aa 85 0,aa 86 1,ax 87 .sub 86 1,aZ 88 2 85 87,aH 89 2 88,aa 90 0,aa 91 13,aZ 92 2 90 91,aH 93 2 92,((some 94),.call (.tmp 84) [(.tmp 89),(.tmp 93)]),ax 95 .lss 94 0,cb 96 95]⟩,⟨none,[bB 97 83 96]⟩]) <|
  .cond (.tmp 97) (.seq (ak [aa 98 0,aa 99 1,aa 100 2,aa 101 13,aa 102 4,aG 103 205 [98,99,100,101,102],aa 15 103]) <|
  .seq (ak [aa 104 15,aa 1 104]) <|
  .exit 1) (.skip)) <|
  .seq (ak [aa 106 0,aa 107 1,aa 108 2,aa 109 13,aa 110 4,aG 111 206 [106,107,108,109,110],aa 105 111,ct 112 0 105,ct 113 1 105,aa 16 112,aa 17 113]) <|
  .seq (ak [aa 114 17,aa 11 114]) <|
  .seq (ak [aa 115 16,aa 116 1,aO 117 .sub 115 116,aa 118 2,aa 119 16,aO 120 .sub 118 119,aa 18 117,aa 19 120]) <|
  .seq (ak [aa 121 12,ax 122 .quo 121 8,aa 20 122]) <|
  .seq (ak [aa 123 18,aa 124 19,aO 125 .lss 123 124]) <|
  .cond (.tmp 125) (.seq (ak [aa 126 18,aa 127 20,aO 128 .geq 126 127,aa 10 128]) <|
  .seq (ak [aa 129 0,aa 130 1,aa 131 16,aa 132 3,aa 133 4,aG 134 166 [129,130,131,132,133]]) <|
  ak [aa 135 16,ax 136 .add 135 1,aa 1 136]) (.seq (ak [aa 137 19,aa 138 20,aO 139 .geq 137 138,aa 10 139]) <|
  .seq (ak [aa 140 0,aa 141 16,ax 142 .add 141 1,aa 143 2,aa 144 3,aa 145 4,aG 146 166 [140,142,143,144,145]]) <|
  ak [aa 147 16,aa 2 147]))
def fR:DF:=⟨.seq (ak [aV 10 true]) <|
  .seq (ak [aV 11 true]) <|
  .block 0 (.loop jD),
  [],148⟩
theorem jf:aP Tryz.prog 166 []=some fR:=by kernel_rfl
def hZ:DC :=
  .seq (.seq (.region [] [⟨none,[aa 18 9,aa 19 1,aO 20 .gtr 18 19,aa 21 20]⟩,⟨(some (21,true)),[aa 22 3,aa 23 0,aa 24 9,aZ 25 2 23 24,aH 26 2 25,aa 27 0,aa 28 9,ax 29 .sub 28 1,aZ 30 2 27 29,aH 31 2 30,((some 32),.call (.tmp 22) [(.tmp 26),(.tmp 31)]),ax 33 .lss 32 0]⟩,⟨none,[bB 34 21 33]⟩]) <|
  .cond (.tmp 34) (.skip) (.exit 2)) <|
  .seq (.block 3 (ak [aa 37 0,aa 38 9,aa 39 0,aa 40 9,ax 41 .sub 40 1,aa 42 0,aa 43 9,ax 44 .sub 43 1,aZ 45 2 42 44,aH 46 2 45,aa 47 0,aa 48 9,aZ 49 2 47 48,aH 50 2 49,aZ 51 2 37 38,(none,.op (.store 2 (.tmp 51) (.tmp 46))),aZ 52 2 39 41,(none,.op (.store 2 (.tmp 52) (.tmp 50)))])) <|
  ak [aa 35 9,ax 36 .sub 35 1,aa 9 36]
def g9:DC :=
  .seq (.seq (ak [aa 12 8,aa 13 2,aO 14 .lss 12 13]) <|
  .cond (.tmp 14) (.skip) (.exit 0)) <|
  .seq (.block 1 (.seq (ak [aa 17 8,aa 9 17]) <|
  .block 2 (.loop hZ))) <|
  ak [aa 15 8,ax 16 .add 15 1,aa 8 16]
def eH:DF:=⟨.seq (ak [aa 10 1,ax 11 .add 10 1,aa 8 11]) <|
  .block 0 (.loop g9),
  [],53⟩
theorem gR:aP Tryz.prog 199 []=some eH:=by kernel_rfl
def u7:DF:=⟨.seq (ak [b6 2 0,b6 3 1,aF 4 0]) <|
  .seq (.region [(4,6),(4,8)] [⟨none,[ao 5 0 2,aq 6 5,ao 7 0 3,aq 8 7,aG 9 126 [6,8],ao 10 1 2,aq 11 10,ao 12 1 3,aq 13 12,aG 14 126 [11,13],((some 15),.op (.bD 2 1 [(.val (.int .i64 0))] [(0,(.tmp 9)),(1,(.tmp 14))])),aG 16 168 [15],aa 4 16]⟩]) <|
  .ret,
  [.tmp 4],17⟩
theorem yh:aP Tryz.prog 113 [2,3]=some u7:=by kernel_rfl
def ni:DF:=⟨.seq (ak [aF 4 0]) <|
  .seq (ak [aa 7 0,aG 8 173 [7],aa 5 8]) <|
  .seq (ak [aa 9 1,aG 10 173 [9],aa 6 10]) <|
  .seq (.seq (ak [aa 11 5]) <|
  .cond (.tmp 11) (.seq (.seq (ak [aa 12 6]) <|
  .cond (.tmp 12) (.seq (ak [aF 4 0]) <|
  .ret) (.skip)) <|
  .seq (ak [aF 4 (-1)]) <|
  .ret) (.skip)) <|
  .seq (.seq (ak [aa 13 6]) <|
  .cond (.tmp 13) (.seq (ak [aF 4 1]) <|
  .ret) (.skip)) <|
  .seq (.seq (ak [aa 14 0,aa 15 1,aO 16 .lss 14 15]) <|
  .cond (.tmp 16) (.seq (ak [aF 4 (-1)]) <|
  .ret) (.skip)) <|
  .seq (.seq (ak [aa 17 0,aa 18 1,aO 19 .gtr 17 18]) <|
  .cond (.tmp 19) (.seq (ak [aF 4 1]) <|
  .ret) (.skip)) <|
  .seq (ak [aF 4 0]) <|
  .ret,
  [.tmp 4],20⟩
theorem rF:aP Tryz.prog 126 []=some ni:=by kernel_rfl
def pz:DF:=⟨.seq (ak [aV 2 false]) <|
  .seq (ak [aa 3 0,aa 4 0,aO 5 .neq 3 4,aa 2 5]) <|
  .ret,
  [.tmp 2],6⟩
theorem ue:aP Tryz.prog 173 []=some pz:=by kernel_rfl
def yg:DC :=
  .seq (ak [aO 9 .lss 8 7]) <|
  .seq (.cond (.tmp 9) (.skip) (.exit 0)) <|
  .seq (.block 1 (.seq (ak [aZ 10 1 6 8,aq 11 10,aa 5 11]) <|
  .seq (ak [aa 12 5,aa 13 3,aO 14 .neq 12 13]) <|
  .cond (.tmp 14) (.seq (ak [aa 15 5,aa 2 15]) <|
  .ret) (.skip))) <|
  ak [ax 16 .add 8 1,aa 8 16]
def tT:DF:=⟨.seq (ak [aF 2 0]) <|
  .seq (ak [aF 3 0]) <|
  .seq (.seq (ak [aa 6 0,aM 7 6,aF 8 0]) <|
  .block 0 (.loop yg)) <|
  .seq (ak [aa 17 3,aa 2 17]) <|
  .ret,
  [.tmp 2],18⟩
theorem xD:aP Tryz.prog 168 []=some tT:=by kernel_rfl
def iw:DC :=
  .seq (.seq (ak [aa 29 5,aa 30 4,aM 31 30,aO 32 .lss 29 31]) <|
  .cond (.tmp 32) (.skip) (.exit 2)) <|
  .seq (.block 3 (.seq (ak [aa 35 4,aa 36 5,aZ 37 2 35 36,aH 38 2 37,aa 39 4,aa 40 5,ax 41 .sub 40 1,aZ 42 2 39 41,aH 43 2 42,((some 44),.op (.old (.binOp .neq 33 (.tmp 38) (.tmp 43) 33) 4))]) <|
  .cond (.tmp 44) (.seq (ak [aa 45 0,aa 46 3,aa 47 4,aa 48 5,aZ 49 2 47 48,aH 50 2 49,aZ 51 2 45 46,(none,.op (.store 2 (.tmp 51) (.tmp 50)))]) <|
  ak [aa 52 3,ax 53 .add 52 1,aa 3 53]) (.skip))) <|
  ak [aa 33 5,ax 34 .add 33 1,aa 5 34]
def iz:DC :=
  .seq (.seq (ak [aa 10 3,aa 11 0,aM 12 11,aO 13 .lss 10 12]) <|
  .cond (.tmp 13) (.skip) (.exit 0)) <|
  .seq (.block 1 (.seq (ak [aa 16 0,aa 17 3,aZ 18 2 16 17,aH 19 2 18,aa 20 0,aa 21 3,ax 22 .sub 21 1,aZ 23 2 20 22,aH 24 2 23,((some 25),.op (.old (.binOp .eql 33 (.tmp 19) (.tmp 24) 33) 4))]) <|
  .cond (.tmp 25) (.seq (ak [aa 26 0,aa 27 3,((some 28),.op (.slice 2 (.tmp 26) (some (.tmp 27)) none)),aa 4 28]) <|
  .seq (.seq (ak [aF 5 1]) <|
  .block 2 (.loop iw)) <|
  .seq (ak [aa 54 0,aa 55 3,((some 56),.op (.slice 2 (.tmp 54) (some (.tmp 55)) none)),(none,.op (.old (.call { callee:=.builtin .clear,args:=#[(.tmp 56)],argTypes:=#[27] }) 0))]) <|
  .seq (ak [aa 57 0,aa 58 3,((some 59),.op (.slice 2 (.tmp 57) none (some (.tmp 58)))),aa 2 59]) <|
  .ret) (.skip))) <|
  ak [aa 14 3,ax 15 .add 14 1,aa 3 15]
def eW:DF:=⟨.seq (ak [((some 2),.op (.bj (.val (.emp 1))))]) <|
  .seq (.seq (ak [aa 6 0,aM 7 6,ax 8 .lss 7 2]) <|
  .cond (.tmp 8) (.seq (ak [aa 9 0,aa 2 9]) <|
  .ret) (.skip)) <|
  .seq (.seq (ak [aF 3 1]) <|
  .block 0 (.loop iz)) <|
  .seq (ak [aa 60 0,aa 2 60]) <|
  .ret,
  [.tmp 2],61⟩
theorem ir:aP Tryz.prog 114 []=some eW:=by kernel_rfl
def Dp:DC :=
  .seq (ak [aO 9 .lss 8 7]) <|
  .seq (.cond (.tmp 9) (.skip) (.exit 0)) <|
  .seq (.block 1 (.seq (ak [aZ 10 2 6 8,aH 11 2 10,((some 5),.op (.alloc [(.val (.int .i64 0)),(.val (.int .i64 0))])),(none,.op (.store 2 (.tmp 5) (.tmp 11)))]) <|
  ak [aa 12 3,ao 13 0 5,aq 14 13,ax 15 .add 14 1,((some 16),.op (.conv .u8 (.tmp 15))),ao 17 1 5,aq 18 17,((some 19),.op (.conv .u8 (.tmp 18))),((some 20),.op (.bD 2 1 [(.val (.int .u8 0))] [(0,(.tmp 16)),(1,(.tmp 19))])),((some 21),.op (.app 1 1 (.tmp 12) (.tmp 20))),aa 3 21])) <|
  ak [ax 22 .add 8 1,aa 8 22]
def yq:DF:=⟨.seq (.region [] [⟨none,[((some 2),.op (.bj (.val (.val (.string ⟨#[]⟩)))))]⟩]) <|
  .seq (ak [((some 3),.op (.bj (.val (.emp 1))))]) <|
  .seq (.seq (ak [aa 6 0,aM 7 6,aF 8 0]) <|
  .block 0 (.loop Dp)) <|
  .seq (ak [aa 23 3,((some 24),.op (.old (.convert 91 9 (.tmp 23)) 9)),aa 2 24]) <|
  .ret,
  [.tmp 2],25⟩
theorem Ce:aP Tryz.prog 62 []=some yq:=by kernel_rfl
def xi:DC :=
  .seq (ak [aO 54 .lss 53 52]) <|
  .seq (.cond (.tmp 54) (.skip) (.exit 2)) <|
  .seq (.block 3 (.seq (ak [aa 55 53,aZ 56 3 51 53,aH 57 3 56,((some 11),.op (.alloc [(.val (.int .i64 0)),(.emp 1),(.val (.int .i64 0))])),aa 10 55,(none,.op (.store 3 (.tmp 11) (.tmp 57)))]) <|
  .seq (ak [ao 58 0 11,aq 59 58,aa 60 8,((some 61),.op (.arith .sub (.val (.val (.int .i64 (-1)))) (.tmp 60))),aO 62 .eql 59 61]) <|
  .cond (.tmp 62) (ak [aa 63 5,aa 64 10,((some 65),.op (.build [(.val (.int .i64 0)),(.val (.int .i64 0))] [(0,1,(.tmp 64))])),((some 66),.op (.bD 1 2 [(.val (.int .i64 0)),(.val (.int .i64 0))] [(0,(.tmp 65))])),((some 67),.op (.app 2 16 (.tmp 63) (.tmp 66))),aa 5 67]) (.skip))) <|
  ak [ax 68 .add 53 1,aa 53 68]
def xq:DC :=
  .seq (.seq (ak [aa 18 7,aa 19 5,aM 20 19,aO 21 .lss 18 20]) <|
  .cond (.tmp 21) (.skip) (.exit 0)) <|
  .seq (.block 1 (.seq (ak [aH 25 4 2,aa 26 5,aa 27 7,aZ 28 2 26 27,aH 29 2 28,aG 30 50 [25,29],aa 24 30,ct 31 0 24,ct 32 1 24,aa 8 31,aa 9 32]) <|
  .seq (.seq (.region [] [⟨none,[aa 33 9,cb 34 33,aa 35 34]⟩,⟨(some (35,false)),[aa 36 8,ax 37 .geq 36 0]⟩,⟨none,[bF 38 35 37,aa 39 38]⟩,⟨(some (39,false)),[aa 40 6,aa 41 8,((some 42),.op (.arith .sub (.val (.val (.int .i64 (-1)))) (.tmp 41))),aZ 43 1 40 42,aq 44 43]⟩,⟨none,[bF 45 39 44]⟩]) <|
  .cond (.tmp 45) (.exit 1) (.skip)) <|
  .seq (ak [aa 46 6,aa 47 8,((some 48),.op (.arith .sub (.val (.val (.int .i64 (-1)))) (.tmp 47))),aZ 49 1 46 48,(none,.op (.store 1 (.tmp 49) (.val (.val (.bool true)))))]) <|
  .seq (ak [ao 50 2 2,aq 51 50,aM 52 51,aF 53 0]) <|
  .block 2 (.loop xi))) <|
  ak [aa 22 7,ax 23 .add 22 1,aa 7 23]
def ra:DF:=⟨.seq (ak [b6 2 0,((some 4),.op (.bj (.val (.emp 1))))]) <|
  .seq (ak [aa 12 1,aG 13 58 [12],aa 5 13]) <|
  .seq (ak [ao 14 1 2,aq 15 14,aM 16 15,((some 17),.op (.make 1 1 [(.val (.bool false))] (.tmp 16) (.tmp 16))),aa 6 17]) <|
  .seq (.seq (ak [aF 7 0]) <|
  .block 0 (.loop xq)) <|
  .seq (ak [aa 69 5,aG 70 64 [69],aa 4 70]) <|
  .ret,
  [.tmp 4],71⟩
theorem wo:aP Tryz.prog 56 [2]=some ra:=by kernel_rfl
def wZ:DF:=⟨.seq (ak [b6 2 0,b6 3 1,aF 4 0,aV 5 false]) <|
  .seq (.seq (ak [aH 7 4 2,ao 8 0 3,aq 9 8,aG 10 53 [7,9],aa 6 10]) <|
  .seq (ak [ao 11 1 3,aq 12 11,aa 13 6,aM 14 13,aO 15 .lss 12 14]) <|
  .cond (.tmp 15) (.seq (ak [aa 16 6,ao 17 1 3,aq 18 17,aZ 19 1 16 18,aq 20 19,aa 4 20,aV 5 true]) <|
  .ret) (.skip)) <|
  .seq (ak [aF 4 0,aV 5 false]) <|
  .ret,
  [.tmp 4,.tmp 5],21⟩
theorem Aw:aP Tryz.prog 50 [2,3]=some wZ:=by kernel_rfl
def vw:DF:=⟨.seq (ak [b6 2 0,((some 4),.op (.bj (.val (.emp 1))))]) <|
  .seq (.seq (ak [aa 5 1,ax 6 .eql 5 (-1)]) <|
  .cond (.tmp 6) (.seq (ak [ao 7 3 2,aq 8 7,((some 9),.op (.arith .sub (.val (.val (.int .i64 (-1)))) (.tmp 8))),((some 10),.op (.bD 1 1 [(.val (.int .i64 0))] [(0,(.tmp 9))])),aa 4 10]) <|
  .ret) (.skip)) <|
  .seq (ak [ao 11 2 2,aq 12 11,aa 13 1,aZ 14 3 12 13,ao 15 1 14,aq 16 15,aa 4 16]) <|
  .ret,
  [.tmp 4],17⟩
theorem zH:aP Tryz.prog 53 [2]=some vw:=by kernel_rfl
def fw:DF:=⟨.seq (ak [((some 2),.op (.bj (.val (.emp 1))))]) <|
  .seq (.seq (ak [aa 3 0,((some 4),.op (.nil true 0 (.tmp 3) (.val (.emp 1))))]) <|
  .cond (.tmp 4) (.seq (ak [((some 2),.op (.bj (.val (.emp 1))))]) <|
  .ret) (.skip)) <|
  .seq (ak [((some 5),.op (.bj (.val (.emp 2)))),aa 6 0,((some 7),.op (.app 2 16 (.tmp 5) (.tmp 6))),aa 2 7]) <|
  .ret,
  [.tmp 2],8⟩
theorem iG:aP Tryz.prog 58 []=some fw:=by kernel_rfl
def AF:DC :=
  .seq (ak [aO 15 .lss 14 13]) <|
  .seq (.cond (.tmp 15) (.skip) (.exit 0)) <|
  .seq (.block 1 (.seq (ak [aZ 16 2 12 14,aH 17 2 16,((some 7),.op (.alloc [(.val (.int .i64 0)),(.val (.int .i64 0))])),(none,.op (.store 2 (.tmp 7) (.tmp 17)))]) <|
  .seq (ak [aH 19 4 2,aH 20 2 7,aG 21 50 [19,20],aa 18 21,ct 22 0 18,ct 23 1 18,aa 8 22,aa 9 23]) <|
  .seq (ak [aa 24 9]) <|
  .cond (.tmp 24) (.seq (ak [aH 25 4 2,aa 26 8,aG 27 111 [25,26],aa 10 27]) <|
  ak [aa 28 5,aa 29 10,aa 30 5,aa 31 10,((some 32),.op (.old (.lookup 98 (.tmp 30) (.tmp 31) false) 27)),ao 33 0 7,aq 34 33,ao 35 1 7,aq 36 35,ax 37 .add 36 1,((some 38),.op (.build [(.val (.int .i64 0)),(.val (.int .i64 0))] [(0,1,(.tmp 34)),(1,1,(.tmp 37))])),((some 39),.op (.bD 1 2 [(.val (.int .i64 0)),(.val (.int .i64 0))] [(0,(.tmp 38))])),((some 40),.op (.app 2 16 (.tmp 32) (.tmp 39))),(none,.op (.old (.mapUpdate 98 (.tmp 28) (.tmp 29) (.tmp 40)) 0))]) (.skip))) <|
  ak [ax 41 .add 14 1,aa 14 41]
def uj:DF:=⟨.seq (ak [b6 2 0,((some 4),.op (.bj (.val (.val (.map none)))))]) <|
  .seq (ak [((some 11),.op (.kX)),aa 5 11]) <|
  .seq (.seq (ak [aa 12 1,aM 13 12,aF 14 0]) <|
  .block 0 (.loop AF)) <|
  .seq (ak [aa 42 5,aa 4 42]) <|
  .ret,
  [.tmp 4],43⟩
theorem zP:aP Tryz.prog 63 [2]=some uj:=by kernel_rfl
def w5:DF:=⟨.seq (ak [b6 2 0,aF 4 0]) <|
  .seq (.seq (ak [aa 5 1,ax 6 .lss 5 0]) <|
  .cond (.tmp 6) (.seq (ak [ao 7 0 2,aq 8 7,aM 9 8,ax 10 .sub 9 1,aa 11 1,aO 12 .sub 10 11,aa 4 12]) <|
  .ret) (.skip)) <|
  .seq (ak [aa 13 1,aa 4 13]) <|
  .ret,
  [.tmp 4],14⟩
theorem z8:aP Tryz.prog 111 [2]=some w5:=by kernel_rfl
def se:DF:=⟨.seq (ak [b6 2 0,((some 4),.op (.bj (.val (.emp 1))))]) <|
  .seq (.region [(0,2),(0,4)] [⟨none,[aH 5 4 2,aa 6 1,aG 7 58 [6],((some 8),.op (.pL 59 [] [(.tmp 2)])),aG 9 57 [7,8],aG 10 56 [5,9],aa 4 10]⟩]) <|
  .ret,
  [.tmp 4],11⟩
theorem wu:aP Tryz.prog 22 [2,100001]=some se:=by kernel_rfl
def po:DF:=⟨.seq (ak [b6 2 0,aV 3 false]) <|
  .seq (ak [aH 4 4 1,aH 5 2 2,aG 6 19 [4,5],cb 7 6,aa 3 7]) <|
  .ret,
  [.tmp 3],8⟩
theorem ua:aP Tryz.prog 59 [2]=some po:=by kernel_rfl
def yE:DF:=⟨.seq (ak [b6 2 0,b6 3 1,aV 4 false]) <|
  .seq (.seq (.region [] [⟨none,[aH 5 4 2,aG 6 52 [5],cb 7 6,aa 8 7]⟩,⟨(some (8,false)),[ao 9 0 3,aq 10 9,ax 11 .lss 10 (-1)]⟩,⟨none,[bF 12 8 11,aa 13 12]⟩,⟨(some (13,false)),[ao 14 0 3,aq 15 14,ao 16 2 2,aq 17 16,aM 18 17,aO 19 .geq 15 18]⟩,⟨none,[bF 20 13 19]⟩]) <|
  .cond (.tmp 20) (.seq (ak [aV 4 false]) <|
  .ret) (.skip)) <|
  .seq (.region [(5,9)] [⟨none,[ao 21 1 3,aq 22 21,ax 23 .geq 22 0,aa 24 23]⟩,⟨(some (24,true)),[ao 25 1 3,aq 26 25,aH 27 4 2,ao 28 0 3,aq 29 28,aG 30 53 [27,29],aM 31 30,aO 32 .leq 26 31]⟩,⟨none,[bB 33 24 32,aa 4 33]⟩]) <|
  .ret,
  [.tmp 4],34⟩
theorem Cq:aP Tryz.prog 19 [2,3]=some yE:=by kernel_rfl
def gP:DC :=
  .seq (.seq (ak [aa 16 6,aa 17 0,aM 18 17,aO 19 .lss 16 18]) <|
  .cond (.tmp 19) (.skip) (.exit 0)) <|
  .seq (.block 1 (.seq (ak [aa 22 0,aa 23 6,aZ 24 2 22 23,aH 25 2 24,((some 7),.op (.alloc [(.val (.int .i64 0)),(.val (.int .i64 0))])),(none,.op (.store 2 (.tmp 7) (.tmp 25)))]) <|
  .seq (ak [aa 26 1,aH 27 2 7,((some 28),.call (.tmp 26) [(.tmp 27)]),cb 29 28]) <|
  .cond (.tmp 29) (.seq (ak [aa 30 0,aa 31 5,aH 32 2 7,aZ 33 2 30 31,(none,.op (.store 2 (.tmp 33) (.tmp 32)))]) <|
  ak [aa 34 5,ax 35 .add 34 1,aa 5 35]) (.skip))) <|
  ak [aa 20 6,ax 21 .add 20 1,aa 6 21]
def ei:DF:=⟨.seq (ak [((some 4),.op (.bj (.val (.emp 1))))]) <|
  .seq (ak [aa 8 0,aa 9 1,aG 10 107 [8,9],aa 5 10]) <|
  .seq (.seq (ak [aa 11 5,ax 12 .eql 11 (-1)]) <|
  .cond (.tmp 12) (.seq (ak [aa 13 0,aa 4 13]) <|
  .ret) (.skip)) <|
  .seq (.seq (ak [aa 14 5,ax 15 .add 14 1,aa 6 15]) <|
  .block 0 (.loop gP)) <|
  .seq (ak [aa 36 0,aa 37 5,((some 38),.op (.slice 2 (.tmp 36) (some (.tmp 37)) none)),(none,.op (.old (.call { callee:=.builtin .clear,args:=#[(.tmp 38)],argTypes:=#[27] }) 0))]) <|
  .seq (ak [aa 39 0,aa 40 5,((some 41),.op (.slice 2 (.tmp 39) none (some (.tmp 40)))),aa 4 41]) <|
  .ret,
  [.tmp 4],42⟩
theorem gI:aP Tryz.prog 57 []=some ei:=by kernel_rfl
def hQ:DC :=
  .seq (ak [aO 9 .lss 8 7]) <|
  .seq (.cond (.tmp 9) (.skip) (.exit 0)) <|
  .seq (.block 1 (.seq (ak [aa 10 8,aa 5 10]) <|
  .seq (ak [aa 11 1,aa 12 0,aa 13 5,aZ 14 2 12 13,aH 15 2 14,((some 16),.call (.tmp 11) [(.tmp 15)])]) <|
  .cond (.tmp 16) (.seq (ak [aa 17 5,aa 4 17]) <|
  .ret) (.skip))) <|
  ak [ax 18 .add 8 1,aa 8 18]
def eE:DF:=⟨.seq (ak [aF 4 0]) <|
  .seq (.seq (ak [aa 6 0,aM 7 6,aF 8 0]) <|
  .block 0 (.loop hQ)) <|
  .seq (ak [aF 4 (-1)]) <|
  .ret,
  [.tmp 4],19⟩
theorem gQ:aP Tryz.prog 107 []=some eE:=by kernel_rfl
def Co:DC :=
  .seq (ak [aO 24 .lss 23 22]) <|
  .seq (.cond (.tmp 24) (.skip) (.exit 0)) <|
  .seq (.block 1 (.seq (ak [aZ 25 1 21 23,aq 26 25,((some 10),.op (.alloc [(.val (.int .i64 0))])),(none,.op (.store 1 (.tmp 10) (.tmp 26)))]) <|
  .seq (ak [aa 27 0,aa 28 8,aZ 29 2 27 28,ao 30 1 29,aq 31 30,((some 32),.op (.pL 69 [] [(.tmp 10)])),aG 33 68 [31,32],aa 11 33]) <|
  .seq (.seq (ak [aa 34 11,ax 35 .lss 34 0]) <|
  .cond (.tmp 35) (.seq (ak [aF 6 0,aV 7 false]) <|
  .ret) (.skip)) <|
  .seq (ak [aa 36 0,aa 37 8,aZ 38 2 36 37,ao 39 1 38,aq 40 39,aa 41 11,aZ 42 2 40 41,ao 43 1 42,aq 44 43,aa 8 44]) <|
  .seq (.region [] [⟨none,[aa 45 8,ax 46 .lss 45 0,aa 47 46]⟩,⟨(some (47,false)),[aa 48 8,aa 49 0,aM 50 49,aO 51 .geq 48 50]⟩,⟨none,[bF 52 47 51]⟩]) <|
  .cond (.tmp 52) (.seq (ak [aF 6 0,aV 7 false]) <|
  .ret) (.skip))) <|
  ak [ax 53 .add 23 1,aa 23 53]
def wA:DF:=⟨.seq (ak [aF 6 0,aV 7 false]) <|
  .seq (ak [aa 12 1,aa 8 12]) <|
  .seq (.seq (.region [] [⟨none,[aa 13 8,ax 14 .lss 13 0,aa 15 14]⟩,⟨(some (15,false)),[aa 16 8,aa 17 0,aM 18 17,aO 19 .geq 16 18]⟩,⟨none,[bF 20 15 19]⟩]) <|
  .cond (.tmp 20) (.seq (ak [aF 6 0,aV 7 false]) <|
  .ret) (.skip)) <|
  .seq (.seq (ak [aa 21 2,aM 22 21,aF 23 0]) <|
  .block 0 (.loop Co)) <|
  .seq (ak [aa 54 8,aa 6 54,aV 7 true]) <|
  .ret,
  [.tmp 6,.tmp 7],55⟩
theorem Aq:aP Tryz.prog 28 []=some wA:=by kernel_rfl
def tF:DF:=⟨.seq (ak [b6 2 0,aV 3 false]) <|
  .seq (ak [ao 4 0 2,aq 5 4,aq 6 1,aO 7 .eql 5 6,aa 3 7]) <|
  .ret,
  [.tmp 3],8⟩
theorem xM:aP Tryz.prog 69 [2]=some tF:=by kernel_rfl
def hO:DC :=
  .seq (ak [aO 9 .lss 8 7]) <|
  .seq (.cond (.tmp 9) (.skip) (.exit 0)) <|
  .seq (.block 1 (.seq (ak [aa 10 8,aa 5 10]) <|
  .seq (ak [aa 11 1,aa 12 0,aa 13 5,aZ 14 2 12 13,aH 15 2 14,((some 16),.call (.tmp 11) [(.tmp 15)])]) <|
  .cond (.tmp 16) (.seq (ak [aa 17 5,aa 4 17]) <|
  .ret) (.skip))) <|
  ak [ax 18 .add 8 1,aa 8 18]
def eA:DF:=⟨.seq (ak [aF 4 0]) <|
  .seq (.seq (ak [aa 6 0,aM 7 6,aF 8 0]) <|
  .block 0 (.loop hO)) <|
  .seq (ak [aF 4 (-1)]) <|
  .ret,
  [.tmp 4],19⟩
theorem gZ:aP Tryz.prog 68 []=some eA:=by kernel_rfl
def wE:DF:=⟨.seq (ak [b6 2 0,b6 3 1,aF 4 0,aV 5 false]) <|
  .seq (.seq (ak [aH 6 4 2,aH 7 2 3,aG 8 19 [6,7],cb 9 8]) <|
  .cond (.tmp 9) (.seq (ak [aF 4 0,aV 5 false]) <|
  .ret) (.skip)) <|
  .seq (ak [aH 10 4 2,aH 11 2 3,aG 12 50 [10,11],ct 13 0 12,ct 14 1 12,aa 4 13,aa 5 14]) <|
  .ret,
  [.tmp 4,.tmp 5],15⟩
theorem zY:aP Tryz.prog 17 [2,3]=some wE:=by kernel_rfl
def Gu:List (FuncId × DF):=[(15,lW),(24,uH),(64,wQ),(112,eM),(167,qf),(207,ot),(208,oA),(166,fR),(199,eH),(113,u7),(126,ni),(173,pz),(168,tT),(114,eW),(62,yq),(56,ra),(50,wZ),(53,vw),(58,fw),(63,uj),(111,w5),(22,se),(59,po),(19,yE),(57,ei),(107,eE),(28,wA),(69,tF),(68,eA),(17,wE)]
theorem GV:th Tryz.prog Gu:=by
  intro p hp
  simp only[Gu,List.mem_cons,List.not_mem_nil,or_false] at hp
  rcases hp with rfl | rfl | rfl | rfl | rfl | rfl | rfl | rfl | rfl | rfl | rfl | rfl | rfl | rfl | rfl | rfl | rfl | rfl | rfl | rfl | rfl | rfl | rfl | rfl | rfl | rfl | rfl | rfl | rfl | rfl
  · exact ⟨_,qN⟩
  · exact ⟨_,zk⟩
  · exact ⟨_,AU⟩
  · exact ⟨_,hD⟩
  · exact ⟨_,uD⟩
  · exact ⟨_,tx⟩
  · exact ⟨_,sN⟩
  · exact ⟨_,jf⟩
  · exact ⟨_,gR⟩
  · exact ⟨_,yh⟩
  · exact ⟨_,rF⟩
  · exact ⟨_,ue⟩
  · exact ⟨_,xD⟩
  · exact ⟨_,ir⟩
  · exact ⟨_,Ce⟩
  · exact ⟨_,wo⟩
  · exact ⟨_,Aw⟩
  · exact ⟨_,zH⟩
  · exact ⟨_,iG⟩
  · exact ⟨_,zP⟩
  · exact ⟨_,z8⟩
  · exact ⟨_,wu⟩
  · exact ⟨_,ua⟩
  · exact ⟨_,Cq⟩
  · exact ⟨_,gI⟩
  · exact ⟨_,gQ⟩
  · exact ⟨_,Aq⟩
  · exact ⟨_,xM⟩
  · exact ⟨_,gZ⟩
  · exact ⟨_,zY⟩
def LX:List AD:=[(49,[DM Mb],wh mS,false),(61,[.agg (aw mS)],gb true,false),(61,[.agg (aw p7)],gb false,false),(52,[.agg (aw mS)],gb true,false)]
theorem Lw:∀ x∈LX,x.Ok Tryz.prog:=by
  intro x hx
  simp only[LX,List.mem_cons,List.not_mem_nil,or_false] at hx
  rcases hx with rfl | rfl | rfl | rfl
  · exact ⟨by kernel_rfl,by simp only[Bool.false_eq_true,if_false]; exact .inl Oa⟩
  · exact ⟨by kernel_rfl,by simp only[Bool.false_eq_true,if_false]; exact .inr ⟨(show isRed mS=true by kernel_rfl) ▸ Ek mS qd.1 qd.2,.val _⟩⟩
  · exact ⟨by kernel_rfl,by simp only[Bool.false_eq_true,if_false]; exact .inr ⟨(show isRed p7=false by kernel_rfl) ▸ Ek p7 Nv ⟨by decide⟩,.val _⟩⟩
  · exact ⟨by kernel_rfl,by simp only[Bool.false_eq_true,if_false]; exact .inr ⟨(show bt mS=true by kernel_rfl) ▸ np mS qd.1 qd.2.names,.val _⟩⟩
theorem G5:aC Tryz.prog 15 [] (gb true) :=
  (sB mixed GV (K3 Lw) (by simp) (by kernel_rfl)).pure
end Gv
