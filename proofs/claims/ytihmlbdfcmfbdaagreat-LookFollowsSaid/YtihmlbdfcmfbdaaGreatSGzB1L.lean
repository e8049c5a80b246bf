/-
  Part 12 of the proof: what the machine does and what the functions answer.
  Conditions: those that each lemma names.
-/
import Derived.Test.YtihmlbdfcmfbdaaGreatSGzB1K
set_option linter.unusedSimpArgs false
set_option linter.unusedVariables false
set_option maxRecDepth 100000
namespace Gv
open Go Go.Proofs
def lX:SC :=
 .seq (an [bz 30 .lss 29 28]) <|
 .seq (.cond (.tmp 30) (.skip) (.exit 0)) <|
 .seq (.block 1 (.seq (an [aY 31 1 27 29,ay 32 31,aj 8 32]) <|
 .seq (.seq (an [ay 33 2,aj 34 8,aY 35 1 33 34,ay 36 35,aR 37 .eql 36 0]) <|
 .cond (.tmp 37) (an [ay 38 4,aj 39 8,((some 40),.call (.tmp 38) [(.tmp 39)])]) (.skip)) <|
 .seq (an [ay 41 2,aj 42 0,ay 43 2,aj 44 0,aY 45 1 43 44,ay 46 45,ay 47 2,aj 48 8,aY 49 1 47 48,ay 50 49,((some 51),.op (.mm false (.tmp 46) (.tmp 50))),aY 52 1 41 42,(none,.op (.store 1 (.tmp 52) (.tmp 51)))]) <|
 an [ay 53 3,fp 54 53,aC 55 8 54,ay 56 55,aj 57 0,aY 58 1 56 57,ay 59 58,ay 60 3,fp 61 60,aC 62 8 61,ay 63 62,aj 64 8,aY 65 1 63 64,ay 66 65,bz 67 .or 59 66,aY 68 1 56 57,(none,.op (.store 1 (.tmp 68) (.tmp 67)))])) <|
 an [aR 69 .add 29 1,aj 29 69]
def lW:SC :=
 .seq (an [bz 82 .lss 81 80]) <|
 .seq (.cond (.tmp 82) (.skip) (.exit 2)) <|
 .seq (.block 3 (.seq (an [aY 83 1 79 81,ay 84 83,aj 10 84]) <|
 .seq (an [ay 85 2,aj 86 10,aY 87 1 85 86,(none,.op (.store 1 (.tmp 87) (.val (.val (.int .i64 1073741824)))))]) <|
 an [ay 88 3,fp 89 88,aC 90 8 89,ay 91 90,aj 92 10,ay 93 3,fp 94 93,aC 95 8 94,ay 96 95,aj 97 0,aY 98 1 96 97,ay 99 98,aY 100 1 91 92,(none,.op (.store 1 (.tmp 100) (.tmp 99)))])) <|
 an [aR 101 .add 81 1,aj 81 101]
def nk:SF:=⟨.seq (an [ay 11 1,aj 12 0,((some 13),.op (.c4 1 1 [(.val (.int .i64 0))] [(0,(.tmp 12))])),((some 14),.op (.app 1 8 (.tmp 11) (.tmp 13))),(none,.op (.store 1 (.tmp 1) (.tmp 14)))]) <|
 .seq (an [ay 15 1,bj 16 15,aj 6 16]) <|
 .seq (an [ay 17 2,aj 18 0,aj 19 6,aY 20 1 17 18,(none,.op (.store 1 (.tmp 20) (.tmp 19)))]) <|
 .seq (.seq (an [ay 21 3,fp 22 21,aC 23 9 22,ay 24 23,aj 25 0,aY 26 1 24 25,ay 27 26,bj 28 27,bA 29 0]) <|
 .block 0 (.loop lX)) <|
 .seq (.seq (an [ay 70 2,aj 71 0,aY 72 1 70 71,ay 73 72,aj 74 6,bz 75 .neq 73 74]) <|
 .cond (.tmp 75) (.ret) (.skip)) <|
 .seq (.seq (an [ay 76 1,aj 77 6,aR 78 .sub 77 1,((some 79),.op (.slice 1 (.tmp 76) (some (.tmp 78)) none)),bj 80 79,bA 81 0]) <|
 .block 2 (.loop lW)) <|
 an [ay 102 1,aj 103 6,aR 104 .sub 103 1,((some 105),.op (.slice 1 (.tmp 102) none (some (.tmp 104)))),(none,.op (.store 1 (.tmp 1) (.tmp 105)))],
 [],106⟩
theorem r7:aU Tryz.prog 122 []=some nk:=by kernel_rfl
def mX:SC :=
 .seq (an [bz 19 .lss 18 17]) <|
 .seq (.cond (.tmp 19) (.skip) (.exit 0)) <|
 .seq (.block 1 (.seq (an [aj 20 18,aj 5 20]) <|
 .seq (an [ay 21 2,aj 22 5,aY 23 1 21 22,ay 24 23,aR 25 .eql 24 0]) <|
 .cond (.tmp 25) (an [ay 26 4,aj 27 5,((some 28),.call (.tmp 26) [(.tmp 27)])]) (.skip))) <|
 an [aR 29 .add 18 1,aj 18 29]
def pr:SF:=⟨.seq (an [dN 1 0]) <|
 .seq (an [ay 6 1,fp 7 6,aC 8 7 7,ay 9 8,bj 10 9,((some 11),.op (.make 1 8 [(.val (.int .i64 0))] (.tmp 10) (.tmp 10))),((some 2),.op (.alloc [(.emp 1)])),(none,.op (.store 1 (.tmp 2) (.tmp 11)))]) <|
 .seq (an [((some 3),.op (.alloc [(.emp 1)]))]) <|
 .seq (an [((some 4),.op (.alloc [(.val .nilFunc)]))]) <|
 .seq (an [((some 12),.op (.qk 122 [] [(.tmp 3),(.tmp 2),(.tmp 1),(.tmp 4)])),(none,.op (.store 1 (.tmp 4) (.tmp 12)))]) <|
 .seq (an [ay 13 1,fp 14 13,aC 15 7 14,ay 16 15,bj 17 16,bA 18 0]) <|
 .block 0 (.loop mX),
 [],30⟩
theorem tl:aU Tryz.prog 75 [1]=some pr:=by kernel_rfl
abbrev ez (l:List Nat):List (List V):=l.map fun (z:Nat)=>[gi (z:Int)]
structure zK where
 (qs qd qv W d s e:Nat)
 (f0 f1 f2 f3 f4 f5 f6 f7:V)
 us:List V
 H0:View
def zK.fn (c:zK):V:=.fn 122 [] [.ptr c.qs 0 0,.ptr c.qd 0 0,.aL [.ptr c.W 0 0] 0,.ptr c.qv 0 0]
structure zZ (c:zK) (n:Nat) (E:Nat→List Nat):Prop where
 mN:c.H0 c.qd=.arr 1 [[.sl c.d 0 n 1]]
 um:c.H0 c.qv=.arr 1 [[c.fn]]
 hW:c.H0 c.W=.arr 10 [[c.f0,c.f1,c.f2,c.f3,c.f4,c.f5,c.f6,c.f7,.sl c.s 0 n 1,.sl c.e 0 n 1]]
 he:c.H0 c.e=.arr 1 (c.us.map fun u=>[u])
 hl:c.us.length=n
 hu:∀ x,x < n→bc c.H0 (c.us.getD x .any) 1 (ez (E x))
 hE:∀ x,x < n→(E x).length≤1000000000∧∀ y∈E x,y < n
 live:c.H0 c.qs≠.dead∧c.H0 c.d≠.dead∧c.H0 c.s≠.dead
 ne:c.qs≠c.d∧c.qs≠c.s∧c.d≠c.s
 tw:∀ id,(id=c.qd∨id=c.qv∨id=c.W∨id=c.e∨∃ x,x < n∧owner (c.us.getD x .any)=some id)→id≠c.qs∧id≠c.d∧id≠c.s
structure ky (c:zK) (n:Nat) (H:View) (Dl:List Int) (St:List Nat) (Sl:List BV) (u:V):Prop where
 dl:Dl.length=n
 sl:Sl.length=n
 hd:H c.d=.arr 1 (dD Dl)
 hs:H c.s=.arr 1 (bQ Sl)
 hq:H c.qs=.arr 1 [[u]]
 own:bc H u 1 (ez St)
 new:∀ id,owner u=some id→c.H0 id=.dead
 keep:∀ id,c.H0 id≠.dead→id≠c.qs→id≠c.d→id≠c.s→H id=c.H0 id
def dF (l:List Int):Nat→Int:=fun z=>l.getD z 0
def sF (l:List BV):Nat→BV:=fun z=>l.getD z 0
theorem zP {l:List Int} {x:Nat} {v:Int} (h:x < l.length):dF (l.set x v)=iP (dF l) x v:=by
 funext z
 simp only[dF,iP,gz]
 by_cases e:x=z
 ·subst e; simp[h]
 ·rw[Q9 (fun h=>e h.1),Q9 (fun h=>e h.symm)]
theorem Fs {l:List BV} {x:Nat} {v:BV} (h:x < l.length):sF (l.set x v)=iP (sF l) x v:=by
 funext z
 simp only[sF,iP,gz]
 by_cases e:x=z
 ·subst e; simp[h]
 ·rw[Q9 (fun h=>e h.1),Q9 (fun h=>e h.symm)]
section
variable {c:zK} {n:Nat} {E:Nat→List Nat} {H:View} {Dl:List Int} {St:List Nat} {Sl:List BV} {u:V}
theorem ky.I7 (h:ky c n H Dl St Sl u) (hC:zZ c n E) {Dl':List Int} (hl:Dl'.length=n):ky c n (H.set c.d (.arr 1 (dD Dl'))) Dl' St Sl u:=by
 obtain ⟨n1,n2,n3⟩:=hC.ne
 refine ⟨hl,h.sl,by simp[View.set],?_,?_,?_,h.new,fun id h1 h2 h3 h4=>?_⟩
 ·simp only[View.set]; rw[Q9 (Ne.symm n3)]; exact h.hs
 ·simp only[View.set]; rw[Q9 n1]; exact h.hq
 ·rcases h.own with k | ⟨m,k1,k2⟩
  ·exact .inl k
  ·refine .inr ⟨m,k1,?_⟩
   simp only[View.set]
   rw[Q9 (fun e=>hC.live.2.1 (by rw[← e]; exact h.new m (by rw[k1]; rfl)))]; exact k2
 ·simp only[View.set]; rw[Q9 h3]; exact h.keep id h1 h2 h3 h4
theorem ky.vO (h:ky c n H Dl St Sl u) (hC:zZ c n E) {Sl':List BV} (hl:Sl'.length=n):ky c n (H.set c.s (.arr 1 (bQ Sl'))) Dl St Sl' u:=by
 obtain ⟨n1,n2,n3⟩:=hC.ne
 refine ⟨h.dl,hl,?_,by simp[View.set],?_,?_,h.new,fun id h1 h2 h3 h4=>?_⟩
 ·simp only[View.set]; rw[Q9 n3]; exact h.hd
 ·simp only[View.set]; rw[Q9 n2]; exact h.hq
 ·rcases h.own with k | ⟨m,k1,k2⟩
  ·exact .inl k
  ·refine .inr ⟨m,k1,?_⟩
   simp only[View.set]
   rw[Q9 (fun e=>hC.live.2.2 (by rw[← e]; exact h.new m (by rw[k1]; rfl)))]; exact k2
 ·simp only[View.set]; rw[Q9 h4]; exact h.keep id h1 h2 h3 h4
theorem ky.live (h:ky c n H Dl St Sl u) {id:Nat} (h0:c.H0 id≠.dead):H id≠.dead:=by
 by_cases e1:id=c.qs
 ·rw[e1,h.hq]; simp
 ·by_cases e2:id=c.d
  ·rw[e2,h.hd]; simp
  ·by_cases e3:id=c.s
   ·rw[e3,h.hs]; simp
   ·rw[h.keep id h0 e1 e2 e3]; exact h0
theorem ky.push (h:ky c n H Dl St Sl u) (hC:zZ c n E) {q x:Nat} (hq:H q=.dead) {o:dh} {u2:V} {H2:View} (o2:bc H2 u2 1 (ez St ++ [[gi (x:Int)]])) (l2:Left (H.set q o) H2 u u2):ky c n (H2.set c.qs (.arr 1 [[u2]])) Dl (St ++ [x]) Sl u2:=by
 obtain ⟨n1,n2,n3⟩:=hC.ne
 have hid:∀ id,c.H0 id≠.dead→H2 id=H id∧owner u2≠some id:=fun id h0=>by
  have h1:=h.live h0
  have hne:id≠q:=fun e=>h1 (by rw[e]; exact hq)
  have hs:(H.set q o) id=H id:=by simp only[View.set]; rw[Q9 hne]
  have:=l2 id (by rw[hs]; exact h1) (fun e=>h0 (h.new id e))
  rw[hs] at this; exact this
 refine ⟨h.dl,h.sl,?_,?_,by simp[View.set],?_,fun id h1=>?_,fun id h1 h2 h3 h4=>?_⟩
 ·simp only[View.set]; rw[Q9 (Ne.symm n1),(hid _ hC.live.2.1).1]; exact h.hd
 ·simp only[View.set]; rw[Q9 (Ne.symm n2),(hid _ hC.live.2.2).1]; exact h.hs
 ·have e:ez (St ++ [x])=ez St ++ [[gi (x:Int)]]:=by simp
  rw[e]
  rcases o2 with k | ⟨m,k1,k2⟩
  ·exact .inl k
  ·refine .inr ⟨m,k1,?_⟩
   simp only[View.set]
   rw[Q9 (fun e=>(hid _ hC.live.1).2 (by rw[k1,← e]; rfl))]; exact k2
 ·exact Th fun h2=>(hid id h2).2 h1
 ·simp only[View.set]; rw[Q9 h2,(hid id h1).1]; exact h.keep id h1 h2 h3 h4
theorem ky.at (h:ky c n H Dl St Sl u) (hC:zZ c n E):H c.qd=.arr 1 [[.sl c.d 0 n 1]]∧H c.qv=.arr 1 [[c.fn]]∧H c.W=.arr 10 [[c.f0,c.f1,c.f2,c.f3,c.f4,c.f5,c.f6,c.f7,.sl c.s 0 n 1,.sl c.e 0 n 1]]∧H c.e=.arr 1 (c.us.map fun u=>[u]):=by
 have k:∀ id,(id=c.qd∨id=c.qv∨id=c.W∨id=c.e∨∃ x,x < n∧owner (c.us.getD x .any)=some id)→c.H0 id≠.dead→H id=c.H0 id:=fun id h1 h2=>h.keep id h2 (hC.tw id h1).1 (hC.tw id h1).2.1 (hC.tw id h1).2.2
 refine ⟨?_,?_,?_,?_⟩
 ·rw[k c.qd (by simp) (by rw[hC.mN]; simp),hC.mN]
 ·rw[k c.qv (by simp) (by rw[hC.um]; simp),hC.um]
 ·rw[k c.W (by simp) (by rw[hC.hW]; simp),hC.hW]
 ·rw[k c.e (by simp) (by rw[hC.he]; simp),hC.he]
theorem zZ.QY (hC:zZ c n E):(c.qd≠c.qs∧c.qd≠c.d∧c.qd≠c.s)∧(c.qv≠c.qs∧c.qv≠c.d∧c.qv≠c.s)∧(c.W≠c.qs∧c.W≠c.d∧c.W≠c.s)∧(c.e≠c.qs∧c.e≠c.d∧c.e≠c.s)∧(c.d≠c.qs∧c.s≠c.qs∧c.d≠c.s∧c.s≠c.d) :=
 ⟨hC.tw _ (by simp),hC.tw _ (by simp),hC.tw _ (by simp),hC.tw _ (by simp),Ne.symm hC.ne.1,Ne.symm hC.ne.2.1,hC.ne.2.2,Ne.symm hC.ne.2.2⟩
theorem ky.row (h:ky c n H Dl St Sl u) (hC:zZ c n E) {x:Nat} (hx:x < n):bc H (c.us.getD x .any) 1 (ez (E x)):=by
 rcases hC.hu x hx with k | ⟨m,k1,k2⟩
 ·exact .inl k
 ·refine .inr ⟨m,k1,?_⟩
  have ha:=hC.tw m (.inr (.inr (.inr (.inr ⟨x,hx,by rw[k1]; rfl⟩))))
  rw[h.keep m (by rw[k2]; simp) ha.1 ha.2.1 ha.2.2]; exact k2
end
theorem yI {l:List Nat} {i y:Nat} (h:l[i]?=some y):(ez l).getD i []=[gi (y:Int)]:=by
 simp[Q6,h]
theorem Lv (a b:Int):(if b < a then b else a)=min a b:=by split <;> omega
theorem mh {l:List Int} {i:Nat} (h:i < l.length):(dD l).getD i []=[gi (dF l i)]:=by
 simp[dF,Q6,h]
theorem me {l:List BV} {i:Nat} (h:i < l.length):(bQ l).getD i []=[gw (sF l i)]:=by
 simp[sF,Q6,h]
theorem O7 {l:List V} {i:Nat} (h:i < l.length):(l.map fun u=>[u]).getD i []=[l.getD i .any]:=by
 simp[Q6,h]
theorem DZ {id off k m:Nat} (hm:m≤k):eQ 1 (.sl id off k 1) (some (gi m)) none=some (.sl id (off+m) (k - m) 1,.none,[]):=by
 simp[eQ,bound,asNat,hm]
theorem E9 {id off k m:Nat} (hm:m≤k):eQ 1 (.sl id off k 1) none (some (gi m))=some (.sl id off m 1,.none,[]):=by
 simp[eQ,bound,asNat,hm]
def Dg (n:Nat) (D:Nat→Int):Nat:=((List.range n).filter fun z=>decide (D z=0)).length
theorem filter_le {α:Type} {p q:α→Bool} : ∀ {l:List α},(∀ x∈l,p x=true→q x=true)→(l.filter p).length≤(l.filter q).length
 | [],_=>Ri _
 | a :: l,h=>by
  have ih:=filter_le (p:=p) (q:=q) (l:=l) fun x hx=>h x (by simp[hx])
  have ha:=h a (by simp)
  rw[Td,Td]
  cases hp:p a with
  | true=>rw[ha hp]; simp; exact ih
  | false =>
   cases hq:q a with
   | true=>simp; omega
   | false=>simpa using ih
theorem filter_lt {α:Type} {p q:α→Bool} : ∀ {l:List α},(∀ x∈l,p x=true→q x=true)→(∃ x∈l,p x=false∧q x=true)→(l.filter p).length < (l.filter q).length
 | [],_,⟨x,h,_⟩=>by simp at h
 | a :: l,h,⟨x,hx,k1,k2⟩=>by
  have ha:=h a (by simp)
  rw[Td,Td]
  rcases Rm.1 hx with rfl | hx
  ·have:=filter_le (p:=p) (q:=q) (l:=l) fun y hy=>h y (by simp[hy])
   rw[k1,k2]; simp; omega
  ·have ih:=filter_lt (p:=p) (q:=q) (l:=l) (fun y hy=>h y (by simp[hy])) ⟨x,hx,k1,k2⟩
   cases hp:p a with
   | true=>rw[ha hp]; simp; exact ih
   | false =>
    cases hq:q a with
    | true=>simp; omega
    | false=>simpa using ih
theorem FE {n:Nat} {D D':Nat→Int} (h:∀ z,D z≠0→D' z≠0) {x:Nat} (hx:x < n) (h0:D x=0) (h1:D' x≠0):Dg n D' < Dg n D :=
 filter_lt (fun z _ hz=>by
  simp only[Rn] at hz ⊢
  exact RY fun k=>h z k hz) ⟨x,R3.2 hx,by simp[h1],by simp[h0]⟩
set_option maxHeartbeats 16000000 in
theorem Mc {c:zK} {n:Nat} {E:Nat→List Nat} (hC:zZ c n E) (hn:n≤100000) (S0:Nat→BV):∀ (m:Nat) (H:View) (Dl:List Int) (St:List Nat) (Sl:List BV) (x:Nat),Dg n (dF Dl)≤m→(∃ u,ky c n H Dl St Sl u)→mn n E S0 (dF Dl) St (sF Sl)→x < n→dF Dl x=0 →
  aB Tryz.prog 122 [gi x,.ptr c.qs 0 0,.ptr c.qd 0 0,.aL [.ptr c.W 0 0] 0,.ptr c.qv 0 0] H fun _ H'=>∃ (Dl':List Int) (St':List Nat) (Sl':List BV),(∃ u,ky c n H' Dl' St' Sl' u)∧wQ n E S0 (dF Dl) St (sF Sl) x (dF Dl') St' (sF Sl'):=by
 intro m
 induction m with
 | zero =>
  intro H Dl St Sl x hm _ _ hx h0
  have:=FE (n:=n) (D:=dF Dl) (D':=fun _=>1) (fun _ _=>by simp) hx h0 (by simp)
  omega
 | succ m ih =>
 rintro H Dl St Sl x hm ⟨u,hJ⟩ hG hx h0
 have hEn:∀ x,x < n→∀ y∈E x,y < n:=fun x hx=>(hC.hE x hx).2
 have hnf:(n:Int) < dZ:=by unfold dZ; omega
 have hLs:=fK.start hnf hG hx h0
 have hstl:=zC hLs.g.nd hLs.g.lt
 simp only[R5,Rp,RF] at hstl
 refine aB.cut (K:=fun _ H'=>(∃ (Dl':List Int) (St':List Nat) (Sl':List BV),(∃ u,ky c n H' Dl' St' Sl' u)∧wQ n E S0 (dF Dl) St (sF Sl) x (dF Dl') St' (sF Sl'))∨∃ (Dl':List Int) (Sl':List BV) (st:Nat) (rest:List (List V)),Dl'.length=n∧Sl'.length=n∧H' c.d=.arr 1 (dD Dl')∧H' c.s=.arr 1 (bQ Sl') ∧
  H' c.qs=.arr 1 [[.sl st 0 St.length 1]]∧H' st=.arr 1 (ez St ++ rest)∧c.H0 st=.dead∧(∀ id,c.H0 id≠.dead→id≠c.qs→id≠c.d→id≠c.s→H' id=c.H0 id)∧wQ n E S0 (dF Dl) St (sF Sl) x (dF Dl') St (sF Sl')) ?_ ?_
 rotate_left
 ·rintro r H' (h | ⟨Dl',Sl',st,rest,k1,k2,k3,k4,k5,k6,k7,k8,k9⟩)
  ·exact .inl h
  ·have hne:∀ id,c.H0 id≠.dead→id≠st:=fun id h e=>h (by rw[e]; exact k7)
   refine .inr ⟨st,1,ez St,rest,k6,Dl',St,Sl',⟨.sl st 0 St.length 1,k1,k2,?_,?_,?_,.inr ⟨st,by simp,by simp[View.set]⟩,fun id h=>?_,fun id h1 h2 h3 h4=>?_⟩,k9⟩
   ·simp only[View.set]; rw[Q9 (hne _ hC.live.2.1)]; exact k3
   ·simp only[View.set]; rw[Q9 (hne _ hC.live.2.2)]; exact k4
   ·simp only[View.set]; rw[Q9 (hne _ hC.live.1)]; exact k5
   ·simp only[owner,Q8] at h; rw[← h]; exact k7
   ·simp only[View.set]; rw[Q9 (hne _ h1)]; exact k8 id h1 h2 h3 h4
 refine aB.of mixed r7 ?_
 obtain ⟨a1,a2,a3,a4⟩:=hJ.at hC
 have hq:=hJ.hq
 have hus:cY u=some St.length:=by rw[hJ.own.len,Ro]
 simp (disch:=omega) only [↓wr,seval,wq,ah,ag,ak,aa,ab,af,ai,ae,nk,hq]
 intro q mN
 simp (disch:=omega) only [↓wr,seval,wq,ah,ag,ak,aa,ab,af,ai,ae,dW]
 refine oU (hJ.own.fresh mN) (by simp[aS]) (by unfold aK; simp; omega) (by unfold aK; simp; omega) ?_
 intro u2 H2 o2 l2
 have hlen:(ez St ++ [[gi (x:Int)]]).length=St.length+1:=by simp
 obtain ⟨st,hu2,_⟩:=o2.sl (by rw[hlen]; omega)
 rw[hlen] at hu2
 subst hu2
 have hJ2:=hJ.push hC mN o2 l2
 have hq2:H2 c.qs=.arr 1 [[u]]:=by
  have hne:c.qs≠q:=fun e=>hJ.live hC.live.1 (by rw[e]; exact mN)
  have hs:(H.set q (.arr 1 [[gi (x:Int)]])) c.qs=H c.qs:=by simp only[View.set]; rw[Q9 hne]
  have:=(l2 c.qs (by rw[hs,hq]; simp) (fun e=>hC.live.1 (hJ.new _ e))).1
  rw[this,hs,hq]
 obtain ⟨⟨m1,m2,m3⟩,⟨m4,m5,m6⟩,⟨m7,m8,m9⟩,⟨m10,m11,m12⟩,m13,m14,m15,m16⟩:=hC.QY
 obtain ⟨b1,b2,b3,b4⟩:=hJ2.at hC
 have b5:=hJ2.hd
 simp only[View.set,Q9 m1] at b1
 simp only[View.set,Q9 m7] at b3
 simp only[View.set,Q9 m10] at b4
 simp only[View.set,Q9 m13] at b5
 have hdl:=hJ2.dl
 have hset:(dD Dl).set x [gi ((St.length:Int)+1)]=dD (Dl.set x ((St.length:Int)+1)):=ints_set _ _ _
 have hset2:(dD Dl).set x [gi ((St.length+1:Nat):Int)]=dD (Dl.set x ((St.length:Int)+1)):=ints_set _ _ _
 have hex:=O7 (l:=c.us) (i:=x) (by rw[hC.hl]; exact hx)
 have hux:cY (c.us.getD x .any)=some (E x).length:=by rw[(hC.hu x hx).len,Ro]
 have hus2:=hC.hl
 simp (disch:=omega) only [↓wr,seval,wq,ah,ag,ak,aa,ab,af,ai,ae,hq2,b1,b3,b4,b5,m1,m2,m7,m8,m10,m11,m13,hset,hset2,mh (l:=Dl) (i:=x) (by omega),hex,hux]
 refine ⟨hx,by omega,hx,by omega,?_⟩
 refine bg.up (E x).length (fun i T H'=>∃ (Dl':List Int) (Tl:List Nat) (Sl':List BV) (st:Nat),ky c n H' Dl' (St ++ x :: Tl) Sl' (.sl st 0 (St ++ x :: Tl).length 1)∧fK n E S0 (dF Dl) St (sF Sl) x ((E x).take i) (dF Dl') Tl (sF Sl')∧T 0=gi x∧T 1=.ptr c.qs 0 0∧T 2=.ptr c.qd 0 0∧T 3=.aL [.ptr c.W 0 0] 0∧T 4=.ptr c.qv 0 0∧T 6=gi ((St.length+1:Nat):Int)∧T 27=c.us.getD x .any∧T 28=gi (E x).length∧T 29=gi i)
  ⟨Dl.set x ((St.length:Int)+1),[],Sl,st,by simpa using hJ2.I7 hC (Dl':=Dl.set x ((St.length:Int)+1)) (by simp[hdl]),by rw[zP (by omega)]; exact hLs,rfl,rfl,rfl,rfl,rfl,rfl,rfl,rfl,rfl⟩ ?_
 clear b1 b2 b3 b4 b5 hJ2 hq2 mN l2 o2 hus hq a1 a2 a3 a4
 rintro i k T H' hk ⟨Dl',Tl,Sl',st,hJ',hL,t0,t1,t2,t3,t4,t6,t27,t28,t29⟩
 have hEx:=(hC.hE x hx).1
 have hdl':=hJ'.dl
 have hsl':=hJ'.sl
 obtain ⟨a1,a2,a3,a4⟩:=hJ'.at hC
 simp (disch:=omega) only [↓wr,seval,wq,ah,ag,ak,aa,ab,af,ai,ae,lX,t0,t1,t2,t3,t4,t6,t27,t28,t29]
 refine aq.dec (fun hc=>?_) (fun hc=>?_)
 ·have hy:(E x)[i]?=some ((E x)[i]'(by omega)):=Q7 (by omega)
  have hym:=Rj (show i < (E x).length by omega)
  have htk:(E x).take (i+1)=(E x).take i ++ [(E x)[i]'(by omega)]:=by rw[RG,hy]; rfl
  generalize (E x)[i]'(by omega)=y at hy hym htk
  have hny:=yI hy
  have hyn:=hEn x hx y hym
  obtain ⟨id,hu,hid⟩:=(hJ'.row hC hx).sl (by simp; omega)
  rw[Ro] at hu
  simp (disch:=omega) only [↓wr,seval,wq,ah,ag,ak,aa,ab,af,ai,ae,t0,t1,t2,t3,t4,t6,t27,t28,t29,hu,hid,hny,a1,hJ'.hd,mh (l:=Dl') (i:=y) (by omega)]
  refine ⟨by omega,by first | omega | (simp; omega),hyn,by omega,?_⟩
  refine aq.eq (fun hz=>?_) (fun hz=>?_)
  ·have hmm:=FE (n:=n) (D:=dF Dl) (D':=dF Dl') (fun z hz=>by rw[(hL.old z hz).1]; exact hz) hx h0 (by have:=hL.own.1; omega)
   simp (disch:=omega) only [↓wr,seval,wq,ah,ag,ak,aa,ab,af,ai,ae,t4,t6,a2,zK.fn]
   refine aF.eJ ((ih H' Dl' (St ++ x :: Tl) Sl' y (by omega) ⟨_,hJ'⟩ hL.g hyn hz).mono ?_)
   rintro r H5 ⟨Dl5,St5,Sl5,⟨u5,hJ5⟩,hV⟩
   obtain ⟨T5,rfl,hL5⟩:=hL.yA hEn hnf hx h0 hym hz hV
   obtain ⟨st5,hu5,_⟩:=hJ5.own.sl (by simp; omega)
   rw[Ro] at hu5
   subst hu5
   obtain ⟨a1,a2,a3,a4⟩:=hJ5.at hC
   have hdl5:=hJ5.dl
   have hsl5:=hJ5.sl
   have e1:(dD Dl5).set x [gi (min (dF Dl5 x) (dF Dl5 y))]=dD (Dl5.set x (min (dF Dl5 x) (dF Dl5 y))):=ints_set _ _ _
   have e2:(bQ Sl5).set x [gw (sF Sl5 x ||| sF Sl5 y)]=bQ (Sl5.set x (sF Sl5 x ||| sF Sl5 y)):=by simp[Sr]
   simp (disch:=omega) only [↓wr,seval,wq,ah,ag,ak,aa,ab,af,ai,ae,t0,t1,t2,t3,t4,t6,t27,t28,t29,a1,a3,hJ5.hd,hJ5.hs,mh (l:=Dl5) (i:=x) (by omega),mh (l:=Dl5) (i:=y) (by omega),me (l:=Sl5) (i:=x) (by omega),me (l:=Sl5) (i:=y) (by omega),Lv,e1,e2,m1,m2,m3,m7,m8,m9,m13,m14,m15,m16,qq]
   refine ⟨hx,by omega,hyn,by omega,hx,by omega,hx,by omega,hyn,by omega,hx,by omega,?_⟩
   exact aQ hk (by omega) ⟨Dl5.set x (min (dF Dl5 x) (dF Dl5 y)),T5,Sl5.set x (sF Sl5 x ||| sF Sl5 y),st5,(hJ5.I7 hC (by simp[hdl5])).vO hC (by simp[hsl5]),by rw[htk,zP (by omega),Fs (by omega)]; exact hL5,t0,t1,t2,t3,t4,t6,by first | exact t27 | (rw[hu]; exact t27),t28,rfl⟩
  ·have hL5:=hL.Nk hEn hnf hx h0 hym hz
   obtain ⟨a1,a2,a3,a4⟩:=hJ'.at hC
   have hdl6:=hJ'.dl
   have hsl6:=hJ'.sl
   have e1:(dD Dl').set x [gi (min (dF Dl' x) (dF Dl' y))]=dD (Dl'.set x (min (dF Dl' x) (dF Dl' y))):=ints_set _ _ _
   have e2:(bQ Sl').set x [gw (sF Sl' x ||| sF Sl' y)]=bQ (Sl'.set x (sF Sl' x ||| sF Sl' y)):=by simp[Sr]
   simp (disch:=omega) only [↓wr,seval,wq,ah,ag,ak,aa,ab,af,ai,ae,t0,t1,t2,t3,t4,t6,t27,t28,t29,a1,a3,hJ'.hd,hJ'.hs,mh (l:=Dl') (i:=x) (by omega),mh (l:=Dl') (i:=y) (by omega),me (l:=Sl') (i:=x) (by omega),me (l:=Sl') (i:=y) (by omega),Lv,e1,e2,m1,m2,m3,m7,m8,m9,m13,m14,m15,m16,qq]
   refine ⟨hx,by omega,hyn,by omega,hx,by omega,hx,by omega,hyn,by omega,hx,by omega,?_⟩
   exact aQ hk (by omega) ⟨Dl'.set x (min (dF Dl' x) (dF Dl' y)),Tl,Sl'.set x (sF Sl' x ||| sF Sl' y),st,(hJ'.I7 hC (by simp[hdl6])).vO hC (by simp[hsl6]),by rw[htk,zP (by omega),Fs (by omega)]; exact hL5,t0,t1,t2,t3,t4,t6,by first | exact t27 | (rw[hu]; exact t27),t28,rfl⟩
 ·rw[Rz (by omega)] at hL
  simp (disch:=omega) only [↓wr,seval,wq,ah,ag,ak,aa,ab,af,ai,ae,t0,t1,t2,t6,a1,hJ'.hd,mh (l:=Dl') (i:=x) (by omega)]
  refine ⟨hx,by omega,?_⟩
  refine aq.ne (fun hne=>?_) (fun heq=>?_)
  ·simp (disch:=omega) only [↓wr,seval,wq,ah,ag,ak,aa,ab,af,ai,ae]
   exact .inl ⟨Dl',St ++ x :: Tl,Sl',⟨_,hJ'⟩,hL.keep (by omega)⟩
  ·have hq:=hJ'.hq
   have e3:((St.length+1:Nat):Int) - 1=(St.length:Int):=by omega
   have hLl:(St ++ x :: Tl).length=St.length+(x :: Tl).length:=R5
   have hst:H' st=.arr 1 (ez (St ++ x :: Tl)):=by
    rcases hJ'.own with ⟨k1,k2,k3⟩ | ⟨w,k1,k2⟩
    ·simp at k3
    ·simp only[V.sl.injEq] at k1
     rw[k1.1]; exact k2
   have hnewst:=hJ'.new st rfl
   have hsl:eQ 1 (.sl st 0 (St ++ x :: Tl).length 1) (some (gi (St.length:Int))) none=some (.sl st St.length (x :: Tl).length 1,.none,[]):=by
    rw[DZ (by omega),hLl]
    congr 3 <;> omega
   have hsh:eQ 1 (.sl st 0 (St ++ x :: Tl).length 1) none (some (gi (St.length:Int)))=some (.sl st 0 St.length 1,.none,[]):=E9 (by omega)
   have hlst:=zC hL.g.nd hL.g.lt
   have hfr:=hL.fresh hnf hG
   have hpop:=hL.pop hEn hnf hx hfr (by omega)
   simp (disch:=omega) only [↓wr,seval,wq,ah,ag,ak,aa,ab,af,ai,ae,t0,t1,t2,t3,t6,hq,e3,hsl]
   refine bg.up (Tl.length+1) (fun j T H'=>∃ (Dj:List Int) (Sj:List BV),ky c n H' Dj (St ++ x :: Tl) Sj (.sl st 0 (St ++ x :: Tl).length 1)∧dF Dj=(fun z=>if z∈(x :: Tl).take j then dZ else dF Dl' z)∧sF Sj=(fun z=>if z∈(x :: Tl).take j then sF Sl' x else sF Sl' z) ∧
    T 0=gi x∧T 1=.ptr c.qs 0 0∧T 2=.ptr c.qd 0 0∧T 3=.aL [.ptr c.W 0 0] 0∧T 6=gi ((St.length+1:Nat):Int)∧T 79=.sl st St.length (Tl.length+1) 1∧T 80=gi ((Tl.length+1:Nat):Int)∧T 81=gi j) ⟨Dl',Sl',hJ',by simp,by simp,t0,t1,t2,t3,t6,rfl,rfl,rfl⟩ ?_
   clear t0 t1 t2 t3 t4 t6 t27 t28 t29 a1 a2 a3 a4 hq hst hJ' hsl
   rintro j k2 T H6 hk2 ⟨Dj,Sj,hJ6,hDj,hSj,t0,t1,t2,t3,t6,t79,t80,t81⟩
   obtain ⟨a1,a2,a3,a4⟩:=hJ6.at hC
   have hst:H6 st=.arr 1 (ez (St ++ x :: Tl)):=by
    rcases hJ6.own with ⟨k1,k2,k3⟩ | ⟨w,k1,k2⟩
    ·simp at k3
    ·simp only[V.sl.injEq] at k1
     rw[k1.1]; exact k2
   have hdlj:=hJ6.dl
   have hslj:=hJ6.sl
   simp (disch:=omega) only [↓wr,seval,wq,ah,ag,ak,aa,ab,af,ai,ae,lW,t0,t1,t2,t3,t6,t79,t80,t81]
   refine aq.dec (fun hc2=>?_) (fun hc2=>?_)
   ·have hjl:j < (x :: Tl).length:=by simp; omega
    have hy:(x :: Tl)[j]?=some ((x :: Tl)[j]'hjl):=Q7 hjl
    have htk:(x :: Tl).take (j+1)=(x :: Tl).take j ++ [(x :: Tl)[j]'hjl]:=by rw[RG,hy]; rfl
    generalize (x :: Tl)[j]'hjl=y at hy htk
    have hyn:=hL.g.lt y (SN _ (Re hy))
    have hys:(ez (St ++ x :: Tl)).getD (St.length+j) []=[gi (y:Int)]:=yI (by rw[RL (by omega),Nat.add_sub_cancel_left]; exact hy)
    have hsx:sF Sj x=sF Sl' x:=by rw[hSj]; simp only; split <;> rfl
    have e1:(dD Dj).set y [gi 1073741824]=dD (Dj.set y dZ):=ints_set _ _ _
    have e2:(bQ Sj).set y [gw (sF Sj x)]=bQ (Sj.set y (sF Sj x)):=by simp[Sr]
    simp (disch:=omega) only [↓wr,seval,wq,ah,ag,ak,aa,ab,af,ai,ae,t0,t1,t2,t3,t6,t79,t80,t81,hst,hys,a1,a3,hJ6.hd,hJ6.hs,mh (l:=Dj) (i:=y) (by omega),me (l:=Sj) (i:=x) (by omega),me (l:=Sj) (i:=y) (by omega),e1,e2,m1,m2,m3,m7,m8,m9,m13,m14,m15,m16]
    refine ⟨by omega,by omega,hyn,by omega,hx,by omega,hyn,by omega,?_⟩
    have hmem:∀ z,z∈(x :: Tl).take (j+1)↔z=y∨z∈(x :: Tl).take j:=fun z=>by rw[htk,Ry,RU]; exact Or.comm
    refine aQ hk2 (by omega) ⟨Dj.set y dZ,Sj.set y (sF Sj x),(hJ6.I7 hC (by simp[hdlj])).vO hC (by simp[hslj]),?_,?_,t0,t1,t2,t3,t6,t79,t80,rfl⟩
    ·rw[zP (by omega),hDj]
     funext z
     simp only[iP,hmem]
     by_cases q1:z=y
     ·rw[Ra q1,Ra (.inl q1)]
     ·by_cases q2:z∈(x :: Tl).take j
      ·rw[Q9 q1,Ra q2,Ra (.inr q2)]
      ·rw[Q9 q1,Q9 q2,Q9 (fun h=>h.elim q1 q2)]
    ·rw[Fs (by omega),hsx,hSj]
     funext z
     simp only[iP,hmem]
     by_cases q1:z=y
     ·rw[Ra q1,Ra (.inl q1)]
     ·by_cases q2:z∈(x :: Tl).take j
      ·rw[Q9 q1,Ra q2,Ra (.inr q2)]
      ·rw[Q9 q1,Q9 q2,Q9 (fun h=>h.elim q1 q2)]
   ·have hj:j=Tl.length+1:=by omega
    rw[Rz (by simp; omega)] at hDj hSj
    simp (disch:=omega) only [↓wr,seval,wq,ah,ag,ak,aa,ab,af,ai,ae,t1,t6,hJ6.hq,e3,hsh]
    refine .inr ⟨Dj,Sj,st,ez (x :: Tl),hdlj,hslj,?_,?_,?_,?_,hnewst,fun id h1 h2 h3 h4=>?_,by rw[hDj,hSj]; exact hpop⟩
    ·show (H6.set c.qs _) c.d=_
     simp only[View.set]; rw[Q9 m13]; exact hJ6.hd
    ·show (H6.set c.qs _) c.s=_
     simp only[View.set]; rw[Q9 m14]; exact hJ6.hs
    ·simp[View.set]
    ·show (H6.set c.qs _) st=_
     simp only[View.set]; rw[Q9 (fun e=>hC.live.1 (by rw[← e]; exact hnewst)),hst]; exact Sp (dh.arr 1) RI
    ·show (H6.set c.qs _) id=_
     simp only[View.set]; rw[Q9 h2]; exact hJ6.keep id h1 h2 h3 h4
def eL:SC :=
 .seq (an [bz 9 .lss 8 7]) <|
 .seq (.cond (.tmp 9) (.skip) (.exit 0)) <|
 .seq (.block 1 (.seq (an [aj 10 8,aj 5 10]) <|
 .seq (an [aj 11 1,aj 12 0,aj 13 5,aY 14 2 12 13,bM 15 2 14,((some 16),.call (.tmp 11) [(.tmp 15)])]) <|
 .cond (.tmp 16) (.seq (an [aj 17 5,aj 4 17]) <|
 .ret) (.skip))) <|
 an [aR 18 .add 8 1,aj 8 18]
def e9:SF:=⟨.seq (an [bA 4 0]) <|
 .seq (.seq (an [aj 6 0,bj 7 6,bA 8 0]) <|
 .block 0 (.loop eL)) <|
 .seq (an [bA 4 (-1)]) <|
 .ret,
 [.tmp 4],19⟩
theorem iJ:aU Tryz.prog 68 []=some e9:=by kernel_rfl
def uo:SF:=⟨.seq (an [dN 2 0,bK 3 false]) <|
 .seq (an [aC 4 0 2,ay 5 4,ay 6 1,bz 7 .eql 5 6,aj 3 7]) <|
 .ret,
 [.tmp 3],8⟩
theorem ym:aU Tryz.prog 69 [2]=some uo:=by kernel_rfl
def ur:SC :=
 .seq (an [bz 24 .lss 23 22]) <|
 .seq (.cond (.tmp 24) (.skip) (.exit 0)) <|
 .seq (.block 1 (.seq (an [aY 25 1 21 23,ay 26 25,((some 10),.op (.alloc [(.val (.int .i64 0))])),(none,.op (.store 1 (.tmp 10) (.tmp 26)))]) <|
 .seq (an [aj 27 0,aj 28 8,aY 29 2 27 28,aC 30 1 29,ay 31 30,((some 32),.op (.qk 69 [] [(.tmp 10)])),bJ 33 68 [31,32],aj 11 33]) <|
 .seq (.seq (an [aj 34 11,aR 35 .lss 34 0]) <|
 .cond (.tmp 35) (.seq (an [bA 6 0,bK 7 false]) <|
 .ret) (.skip)) <|
 .seq (an [aj 36 0,aj 37 8,aY 38 2 36 37,aC 39 1 38,ay 40 39,aj 41 11,aY 42 2 40 41,aC 43 1 42,ay 44 43,aj 8 44]) <|
 .seq (.region false [⟨none,[aj 45 8,aR 46 .lss 45 0,aj 47 46]⟩,⟨(some (47,false)),[aj 48 8,aj 49 0,bj 50 49,bz 51 .geq 48 50]⟩,⟨none,[cU 52 47 51]⟩]) <|
 .cond (.tmp 52) (.seq (an [bA 6 0,bK 7 false]) <|
 .ret) (.skip))) <|
 an [aR 53 .add 23 1,aj 23 53]
def xp:SF:=⟨.seq (an [bA 6 0,bK 7 false]) <|
 .seq (an [aj 12 1,aj 8 12]) <|
 .seq (.seq (.region false [⟨none,[aj 13 8,aR 14 .lss 13 0,aj 15 14]⟩,⟨(some (15,false)),[aj 16 8,aj 17 0,bj 18 17,bz 19 .geq 16 18]⟩,⟨none,[cU 20 15 19]⟩]) <|
 .cond (.tmp 20) (.seq (an [bA 6 0,bK 7 false]) <|
 .ret) (.skip)) <|
 .seq (.seq (an [aj 21 2,bj 22 21,bA 23 0]) <|
 .block 0 (.loop ur)) <|
 .seq (an [aj 54 8,aj 6 54,bK 7 true]) <|
 .ret,
 [.tmp 6,.tmp 7],55⟩
theorem AM:aU Tryz.prog 28 []=some xp:=by kernel_rfl
set_option maxHeartbeats 2000000 in
theorem IV (l:List c8) (hl:aV l) (f:FuncId) (cap:List V) (p:c8→Bool) (H:View) (hf:∀ x∈l,aB Tryz.prog f (.agg (kr x) :: cap) H fun r H'=>r=gb (p x)∧H'=H) :
  aB Tryz.prog 68 [.aH (gH l),.fn f [] cap] H fun r H'=>r=gi (cB p l 0)∧H'=H:=by
 refine aB.of mixed iJ ?_
 unfold aV at hl
 simp (disch:=omega) only [↓wr,seval,wq,ah,ag,ak,aa,ab,af,ai,ae,e9,gH]
 refine bg.up l.length (fun i T H'=>H=H'∧cB p (l.drop i) i=cB p l 0∧T 0=.aH (l.map kr)∧T 1=.fn f [] cap∧T 7=gi l.length∧T 8=gi i) ⟨rfl,rfl,rfl,rfl,rfl,rfl⟩ ?_
 rintro i k T _ hk ⟨rfl,hi,h0,h1,h7,h8⟩
 simp (disch:=omega) only [↓wr,seval,wq,ah,ag,ak,aa,ab,af,ai,ae,eL,h0,h1,h7,h8]
 refine aq.dec (fun hc=>?_) (fun hc=>?_)
 ·have hg:l[i]?=some (l[i]'(by omega)):=Q7 (by omega)
  have hm:l[i]'(by omega)∈l:=Rj _
  rw[eC (show i < l.length by omega)] at hi
  generalize l[i]'(by omega)=x at hg hm hi
  simp (disch:=omega) only [↓wr,seval,wq,ah,ag,ak,aa,ab,af,ai,ae,h0,h1,h7,h8,Rc,hg,Rk,kr]
  have hcall:=hf x hm
  simp only[kr] at hcall
  refine aF.eJ (hcall.mono ?_)
  rintro r H2 ⟨rfl,rfl⟩
  simp only[cB] at hi
  simp (disch:=omega) only [↓wr,seval,wq,ah,ag,ak,aa,ab,af,ai,ae]
  refine aq.split (fun hp=>?_) (fun hp=>?_)
  ·simp (disch:=omega) only [↓wr,seval,wq,ah,ag,ak,aa,ab,af,ai,ae,h0,h1,h7,h8]
   rw[← hi,Ra hp]
  ·simp (disch:=omega) only [↓wr,seval,wq,ah,ag,ak,aa,ab,af,ai,ae,h0,h1,h7,h8]
   refine aQ hk (by omega) ⟨rfl,?_,h0,h1,h7,rfl⟩
   rw[Q9 (by simp[hp])] at hi
   push_cast; exact hi
 ·rw[RB (by omega)] at hi
  simp (disch:=omega) only [↓wr,seval,wq,ah,ag,ak,aa,ab,af,ai,ae,h0,h1,h7,h8]
  rw[← hi]; rfl
theorem MF (x:c8) (s:Int) (q:Nat) (H:View) (hq:H q=.arr 1 [[gi s]]):aB Tryz.prog 69 [.agg (kr x),.ptr q 0 0] H fun r H'=>r=gb (decide (x.sym=s))∧H'=H:=by
 refine aB.of mixed ym ?_
 simp (disch:=omega) only [↓wr,seval,wq,ah,ag,ak,aa,ab,af,ai,ae,uo,kr,hq]
 congr 2
theorem E1 (s:Int):∀ (l:List c8) (i:Int),0≤i→(cB (fun e=>decide (e.sym=s)) l i < 0→jH l s = -1)∧(0≤cB (fun e=>decide (e.sym=s)) l i→∃ (k:Nat) (e:c8),cB (fun e=>decide (e.sym=s)) l i=i+k∧l[k]?=some e∧jH l s=e.to)
 | [],i,_=>⟨fun _=>rfl,fun h=>by simp[cB] at h⟩
 | x :: l,i,h0=>by
  simp only[cB,jH,Rn]
  by_cases h:x.sym=s
  ·rw[Ra h,Ra h]
   exact ⟨fun h=>by omega,fun _=>⟨0,x,by simp,rfl,rfl⟩⟩
  ·rw[Q9 h,Q9 h]
   obtain ⟨h1,h2⟩:=E1 s l (i+1) (by omega)
   refine ⟨h1,fun h=>?_⟩
   obtain ⟨k,e,k1,k2,k3⟩:=h2 h
   exact ⟨k+1,e,by rw[k1]; push_cast; omega,by simpa using k2,k3⟩
theorem J0 {l:List c8} (h:∀ e∈l,cm e.to) (s:Int):cm (jH l s):=by
 induction l with
 | nil=>unfold cm; simp[jH]
 | cons e l ih =>
  rw[jH]; split
  ·exact h e (by simp)
  ·exact ih fun x hx=>h x (by simp[hx])
set_option maxHeartbeats 8000000 in
theorem Mv (a:List aP) (_:aV a) (he:∀ s∈a,aV s.aX∧∀ e∈s.aX,cm e.sym∧cm e.to) (fr:Int) (syms:List Int) (hs:aV syms):aG Tryz.prog 28 [bS a,gi fr,encI syms] (.bt [gi (jB a fr syms).1,gb (jB a fr syms).2]):=by
 unfold aV at hs
 refine aG.tree (by
  intro v hv; simp at hv
  rcases hv with rfl | rfl | rfl
  ·exact xJ _
  ·exact .val _
  ·exact gD _) (JF (.val _) (.val _)) fun H=>?_
 refine aB.of mixed AM ?_
 unfold jB
 simp (disch:=omega) only [↓wr,seval,wq,ah,ag,ak,aa,ab,af,ai,ae,xp,bS,encI]
 refine aq.dec (fun h1=>?_) (fun h1=>?_)
 ·simp (disch:=omega) only [↓wr,seval,wq,ah,ag,ak,aa,ab,af,ai,ae]
  rw[Ra (by omega)]
 simp (disch:=omega) only [↓wr,seval,wq,ah,ag,ak,aa,ab,af,ai,ae,bS]
 refine aq.dec (fun h2=>?_) (fun h2=>?_)
 ·simp (disch:=omega) only [↓wr,seval,wq,ah,ag,ak,aa,ab,af,ai,ae]
  rw[Ra (by omega)]
 rw[Q9 (by omega)]
 simp (disch:=omega) only [↓wr,seval,wq,ah,ag,ak,aa,ab,af,ai,ae]
 refine bg.up syms.length (fun i T H'=>∃ at_:Int,0≤at_∧at_ < a.length∧kI a at_ (syms.drop i)=kI a fr syms∧T 0=bS a∧T 8=gi at_∧T 21=encI syms∧T 22=gi syms.length∧T 23=gi i) ⟨fr,by omega,by omega,rfl,rfl,rfl,rfl,rfl,rfl⟩ ?_
 rintro i k T H' hk ⟨at_,q1,q2,hw,t0,t8,t21,t22,t23⟩
 simp (disch:=omega) only [↓wr,seval,wq,ah,ag,ak,aa,ab,af,ai,ae,ur,t0,t8,t21,t22,t23,encI]
 refine aq.dec (fun hc=>?_) (fun hc=>?_)
 ·have hx:syms[i]?=some (syms[i]'(by omega)):=Q7 (by omega)
  rw[RX (show i < syms.length by omega)] at hw
  generalize syms[i]'(by omega)=x at hx hw
  have hS:a[at_.toNat]?=some (a.getD at_.toNat bm):=getD_some (by omega)
  obtain ⟨hE1,hE2⟩:=he _ (Re hS)
  rw[kI] at hw
  have hb:=J0 (fun e h=>(hE2 e h).2) x
  generalize a.getD at_.toNat bm=S at hS hE1 hE2 hw hb
  simp (disch:=omega) only [↓wr,seval,wq,ah,ag,ak,aa,ab,af,ai,ae,t0,t8,t21,t22,t23,encI,Rc,hx,Rk]
  intro q hq
  rw[set_set]
  have hqq:(H'.set q (.arr 1 [[gi x]])) q=.arr 1 [[gi x]]:=by simp[View.set]
  generalize H'.set q (.arr 1 [[gi x]])=H4 at hqq
  simp (disch:=omega) only [↓wr,seval,wq,ah,ag,ak,aa,ab,af,ai,ae,t0,t8,bS,Rc,hS,Rk,kZ]
  refine aF.eJ ((IV S.aX hE1 69 [.ptr q 0 0] (fun e=>decide (e.sym=x)) H4 (fun e _=>MF e x q H4 hqq)).mono ?_)
  rintro r H5 ⟨rfl,rfl⟩
  obtain ⟨i1,i2⟩:=E1 x S.aX 0 (by omega)
  unfold aV at hE1
  simp (disch:=omega) only [↓wr,seval,wq,ah,ag,ak,aa,ab,af,ai,ae]
  refine aq.dec (fun h3=>?_) (fun h3=>?_)
  ·simp (disch:=omega) only [↓wr,seval,wq,ah,ag,ak,aa,ab,af,ai,ae]
   rw[← hw,i1 h3,Q9 (by omega)]
  ·obtain ⟨j,e,j1,j2,j3⟩:=i2 (by omega)
   have jl:=(Rl.1 j2).1
   rw[j1]
   have hj:((0:Int)+(j:Int))=(j:Int):=by omega
   rw[hj]
   rw[j3] at hw hb
   unfold cm at hb
   simp (disch:=omega) only [↓wr,seval,wq,ah,ag,ak,aa,ab,af,ai,ae,t0,t8,bS,Rc,hS,Rk,kZ,gH,j2,kr]
   refine aq.dec (fun h4=>?_) (fun h4=>?_)
   ·simp (disch:=omega) only [↓wr,seval,wq,ah,ag,ak,aa,ab,af,ai,ae]
    rw[← hw,Q9 (by omega)]
   ·simp (disch:=omega) only [↓wr,seval,wq,ah,ag,ak,aa,ab,af,ai,ae,t0,bS]
    refine aq.dec (fun h5=>?_) (fun h5=>?_)
    ·simp (disch:=omega) only [↓wr,seval,wq,ah,ag,ak,aa,ab,af,ai,ae]
     rw[← hw,Q9 (by omega)]
    ·simp (disch:=omega) only [↓wr,seval,wq,ah,ag,ak,aa,ab,af,ai,ae,t0,t21,t22,t23]
     rw[Ra ⟨by omega,by omega⟩] at hw
     exact aQ hk (by omega) ⟨e.to,by omega,by omega,hw,t0,rfl,t21,t22,rfl⟩
 ·simp (disch:=omega) only [↓wr,seval,wq,ah,ag,ak,aa,ab,af,ai,ae,t8]
  rw[RB (by omega),kI] at hw
  rw[← hw]
theorem mn.start {n:Nat} {E:Nat→List Nat} {S0:Nat→BV} : mn n E S0 (fun _=>0) [] S0 where
 nd:=.nil
 lt:=fun _ h=>by simp at h
 zero:=fun _ _ _=>⟨rfl,by simp⟩
 CR:=fun _ _ h=>by simp[dZ] at h
 on:=fun _ _ h=>absurd rfl h
 sound:=fun z t _ h=>⟨z,.refl,h⟩
 base:=fun _ _ _ h=>h
theorem Pt (n:Nat):dF (List.replicate n 0)=fun _=>0:=by
 funext z
 simp only[dF,Q6,Tn]
 split <;> rfl
theorem gQ {p:Prop} [Decidable p] {k:Nat} {es:List (List V)} {o:dh} (h:(if p then dh.arr k es else o)=.dead):¬ p∧o=.dead:=by
 split at h
 ·simp at h
 ·rename_i hp; exact ⟨hp,h⟩
structure PF (n:Nat) (E:Nat→List Nat) (H:View) (W s e:Nat) (us:List V) (fs:V × V × V × V × V × V × V × V):Prop where
 hW:H W=.arr 10 [[fs.1,fs.2.1,fs.2.2.1,fs.2.2.2.1,fs.2.2.2.2.1,fs.2.2.2.2.2.1,fs.2.2.2.2.2.2.1,fs.2.2.2.2.2.2.2,.sl s 0 n 1,.sl e 0 n 1]]
 he:H e=.arr 1 (us.map fun u=>[u])
 hl:us.length=n
 hu:∀ x,x < n→bc H (us.getD x .any) 1 (ez (E x))
 hE:∀ x,x < n→(E x).length≤1000000000∧∀ y∈E x,y < n
 hw:cY fs.2.2.2.2.2.2.2=some n
 ns:W≠s∧e≠s∧∀ x,x < n→owner (us.getD x .any)≠some s
set_option maxHeartbeats 16000000 in
theorem Cj {n:Nat} {E:Nat→List Nat} {H:View} {W s e:Nat} {us:List V} {fs:V × V × V × V × V × V × V × V} (hC:PF n E H W s e us fs) (h1:1≤n) (hn:n≤100000) (Sl:List BV) (hs:H s=.arr 1 (bQ Sl)) (hsl:Sl.length=n) :
  aB Tryz.prog 75 [.ptr W 0 0] H fun _ H'=>∃ Sl':List BV,Sl'.length=n∧H' s=.arr 1 (bQ Sl')∧(∀ z t,z < n→((sF Sl' z).getLsbD t=true↔kx E (sF Sl) z t))∧∀ id,H id≠.dead→id≠s→H' id=H id:=by
 obtain ⟨f0,f1,f2,f3,f4,f5,f6,f7⟩:=fs
 refine aB.of mixed tl ?_
 have hW:=hC.hW
 have hw:=hC.hw
 simp only at hW hw
 simp (disch:=omega) only [↓wr,seval,wq,ah,ag,ak,aa,ab,af,ai,ae,pr,hW,hw]
 refine ⟨⟨by omega,by unfold aK; omega,by unfold aK; omega⟩,fun h0=>by omega,fun _ d hdd=>?_⟩
 intro qd mN qs hqs qv um
 obtain ⟨a1,mN⟩:=gQ mN
 obtain ⟨a2,hqs⟩:=gQ hqs
 rw[Q9 a2] at hqs
 obtain ⟨a3,hqs⟩:=gQ hqs
 obtain ⟨a4,um⟩:=gQ um
 obtain ⟨a5,um⟩:=gQ um
 rw[Q9 a5] at um
 obtain ⟨a6,um⟩:=gQ um
 have lw:∀ {id k es},H id=.arr k es→id≠d∧id≠qd∧id≠qs∧id≠qv:=fun {id k es} h=>by
  refine ⟨fun e=>?_,fun e=>?_,fun e=>?_,fun e=>?_⟩ <;> rw[e] at h <;> simp_all
 obtain ⟨w1,w2,w3,w4⟩:=lw hW
 obtain ⟨s1,s2,s3,s4⟩:=lw hs
 obtain ⟨e1,e2,e3,e4⟩:=lw hC.he
 simp (disch:=omega) only [↓wr,seval,wq,ah,ag,ak,aa,ab,af,ai,ae,w1,w2,w3,w4,hw]
 generalize hH0:View.set (View.set _ _ _) qv (dh.arr 1 [[V.fn _ _ _]])=H0
 have hk:∀ id,id≠d→id≠qd→id≠qs→id≠qv→H0 id=H id:=fun id k1 k2 k3 k4=>by
  rw[← hH0]; simp only[View.set]; rw[Q9 k4,Q9 k4,Q9 k3,Q9 k2,Q9 k2,Q9 k1]
 have hqv0:H0 qv=.arr 1 [[.fn 122 [] [.ptr qs 0 0,.ptr qd 0 0,.aL [.ptr W 0 0] 0,.ptr qv 0 0]]]:=by rw[← hH0]; simp[View.set]
 have hqs0:H0 qs=.arr 1 [[.emp 1]]:=by rw[← hH0]; simp only[View.set]; rw[Q9 (Ne.symm a4),Q9 (Ne.symm a4)]; simp
 have hqd0:H0 qd=.arr 1 [[.sl d 0 n 1]]:=by rw[← hH0]; simp only[View.set]; rw[Q9 (Ne.symm a5),Q9 (Ne.symm a5),Q9 (Ne.symm a2)]; simp
 have hd0:H0 d=.arr 1 (dD (List.replicate n 0)):=by rw[← hH0]; simp only[View.set]; rw[Q9 (Ne.symm a6),Q9 (Ne.symm a6),Q9 (Ne.symm a3),Q9 (Ne.symm a1),Q9 (Ne.symm a1)]; simp
 clear hH0
 let c:zK:=⟨qs,qd,qv,W,d,s,e,f0,f1,f2,f3,f4,f5,f6,f7,us,H0⟩
 have hou:∀ x,x < n→∀ id,owner (us.getD x .any)=some id→id≠d∧id≠qd∧id≠qs∧id≠qv:=fun x hx id ho=>by
  rcases hC.hu x hx with ⟨_,k,k2⟩ | ⟨m,k1,k2⟩
  ·rw[k2] at ho; simp[owner] at ho
  ·rw[k1] at ho; simp only[owner,Q8] at ho
   rw[← ho]; exact lw k2
 have hSC:zZ c n E:={
  mN:=hqd0
  um:=hqv0
  hW:=by rw[← hW]; exact hk W w1 w2 w3 w4
  he:=by rw[← hC.he]; exact hk e e1 e2 e3 e4
  hl:=hC.hl
  hu:=fun x hx=>by
   rcases hC.hu x hx with h | ⟨m,k1,k2⟩
   ·exact .inl h
   ·refine .inr ⟨m,k1,?_⟩
    obtain ⟨q1,q2,q3,q4⟩:=lw k2
    rw[← k2]; exact hk m q1 q2 q3 q4
  hE:=hC.hE
  live:=⟨by simp only[c]; rw[hqs0]; simp,by simp only[c]; rw[hd0]; simp,by simp only[c]; rw[hk s s1 s2 s3 s4,hs]; simp⟩
  ne:=⟨a3,Ne.symm s3,Ne.symm s1⟩
  tw:=fun id h=>by
   obtain ⟨n1,n2,n3⟩:=hC.ns
   rcases h with rfl | rfl | rfl | rfl | ⟨x,hx,ho⟩
   ·exact ⟨Ne.symm a2,a1,Ne.symm s2⟩
   ·exact ⟨a4,a6,Ne.symm s4⟩
   ·exact ⟨w3,w1,n1⟩
   ·exact ⟨e3,e1,n2⟩
   ·obtain ⟨q1,q2,q3,q4⟩:=hou x hx id ho
    exact ⟨q3,q1,fun e=>n3 x hx (by have e2:id=s:=e; rw[← e2]; exact ho)⟩ }
 have hJ0:ky c n H0 (List.replicate n 0) [] Sl (.emp 1):=⟨by simp,hsl,hd0,by simp only[c]; rw[hk s s1 s2 s3 s4,hs],hqs0,.nil,fun id h=>by simp[owner] at h,fun id _ _ _ _=>rfl⟩
 refine bg.up n (fun i T H'=>∃ (Dl:List Int) (Sx:List BV) (u:V),ky c n H' Dl [] Sx u∧mn n E (sF Sl) (dF Dl) [] (sF Sx)∧(∀ z,z < i→dF Dl z=dZ)∧T 2=.ptr qd 0 0∧T 4=.ptr qv 0 0∧T 17=gi n∧T 18=gi i) ⟨List.replicate n 0,Sl,.emp 1,hJ0,by rw[Pt]; exact mn.start,fun z hz=>by omega,rfl,rfl,rfl,rfl⟩ ?_
 rintro i k T H' hk2 ⟨Dl,Sx,u,hJ,hG,hall,t2,t4,t17,t18⟩
 obtain ⟨b1,b2,b3,b4⟩:=hJ.at hSC
 have hdl:=hJ.dl
 have hd:=hJ.hd
 simp only[c,zK.fn] at b1 b2 hd
 simp (disch:=omega) only [↓wr,seval,wq,ah,ag,ak,aa,ab,af,ai,ae,mX,t2,t4,t17,t18]
 refine aq.dec (fun hc=>?_) (fun hc=>?_)
 ·have hi:i < n:=by omega
  simp (disch:=omega) only [↓wr,seval,wq,ah,ag,ak,aa,ab,af,ai,ae,t2,t4,t17,t18,b1,hd,mh (l:=Dl) (i:=i) (by omega)]
  refine ⟨hi,by omega,?_⟩
  refine aq.eq (fun hz=>?_) (fun hz=>?_)
  ·simp (disch:=omega) only [↓wr,seval,wq,ah,ag,ak,aa,ab,af,ai,ae,t4,b2]
   refine aF.eJ ((Mc hSC hn (sF Sl) (Dg n (dF Dl)) H' Dl [] Sx i (Ri _) ⟨u,hJ⟩ hG hi hz).mono ?_)
   rintro r H5 ⟨Dl5,St5,Sl5,⟨u5,hJ5⟩,hV⟩
   obtain ⟨rfl,hfar⟩:=hV.top hi
   simp (disch:=omega) only [↓wr,seval,wq,ah,ag,ak,aa,ab,af,ai,ae,t2,t4,t17,t18]
   refine aQ hk2 (by omega) ⟨Dl5,Sl5,u5,hJ5,hV.1,fun z hz2=>?_,t2,t4,t17,rfl⟩
   by_cases e:z=i
   ·rw[e]; exact hfar
   ·have:=hall z (by omega)
    rw[(hV.2.1 z (by rw[this]; decide)).1]; exact this
  ·simp (disch:=omega) only [↓wr,seval,wq,ah,ag,ak,aa,ab,af,ai,ae,t2,t4,t17,t18]
   refine aQ hk2 (by omega) ⟨Dl,Sx,u,hJ,hG,fun z hz2=>?_,t2,t4,t17,rfl⟩
   by_cases e:z=i
   ·rw[e]
    refine RY fun hf=>?_
    obtain ⟨p,k1,_⟩:=hG.on i hi hz hf
    simp at k1
   ·exact hall z (by omega)
 ·simp (disch:=omega) only [↓wr,seval,wq,ah,ag,ak,aa,ab,af,ai,ae]
  refine ⟨Sx,hJ.sl,hJ.hs,fun z t hz=>hG.all (fun z hz=>hall z (by omega)) hz,fun id h1 h2=>?_⟩
  have q:id≠d∧id≠qd∧id≠qs∧id≠qv:=⟨fun e=>h1 (by rw[e]; exact hdd),fun e=>h1 (by rw[e]; exact mN),fun e=>h1 (by rw[e]; exact hqs),fun e=>h1 (by rw[e]; exact um)⟩
  obtain ⟨q1,q2,q3,q4⟩:=q
  have hkk:=hk id q1 q2 q3 q4
  rw[← hkk]
  exact hJ.keep id (by simp only[c]; rw[hkk]; exact h1) q3 q1 h2
def BE:SF:=⟨.seq (an [((some 2),.op (.bN (.val (.val (.int .u32 0)))))]) <|
 .seq (.seq (.region false [⟨none,[aj 3 0,aR 4 .lss 3 0,aj 5 4]⟩,⟨(some (5,false)),[aj 6 0,aR 7 .geq 6 32]⟩,⟨none,[cU 8 5 7]⟩]) <|
 .cond (.tmp 8) (.seq (an [((some 2),.op (.bN (.val (.val (.int .u32 0)))))]) <|
 .ret) (.skip)) <|
 .seq (an [aj 9 0,((some 10),.op (.sh true (.val (.val (.int .u32 1))) (.tmp 9))),aj 2 10]) <|
 .ret,
 [.tmp 2],11⟩
theorem Di:aU Tryz.prog 124 []=some BE:=by kernel_rfl
theorem JE (n:Int):aG Tryz.prog 124 [gi n] (gw (dI n)):=by
 refine aG.val (by intro v hv; simp at hv; subst hv; exact .val _) fun H=>?_
 have bad:¬ (0≤n∧n≤31)→dI n=0:=fun h=>by rw[dI,Q9 h]
 refine aB.of mixed Di ?_
 simp (disch:=omega) only [↓wr,seval,wq,ah,ag,ak,aa,ab,af,ai,ae,BE]
 refine aq.dec (fun h1=>?_) (fun h1=>?_)
 ·simp (disch:=omega) only [↓wr,seval,wq,ah,ag,ak,aa,ab,af,ai,ae]
  rw[bad (by omega)]; rfl
 simp (disch:=omega) only [↓wr,seval,wq,ah,ag,ak,aa,ab,af,ai,ae]
 refine aq.dec (fun h2=>?_) (fun h2=>?_)
 ·simp (disch:=omega) only [↓wr,seval,wq,ah,ag,ak,aa,ab,af,ai,ae]
  rw[bad (by omega)]; rfl
 simp (disch:=omega) only [↓wr,seval,wq,ah,ag,ak,aa,ab,af,ai,ae]
 have h31:(2:Nat) ^ n.toNat≤2 ^ 31:=Nat.pow_le_pow_right (by omega) (by omega)
 have e:AH true .u32 1 n=(((dI n).toNat:Nat):Int):=by
  rw[DY (by omega)]
  unfold AH
  rw[Ra rfl,show min n.toNat IntKind.u32.bits=n.toNat by rw[show IntKind.u32.bits=32 from rfl]; omega]
  have e2:((1:Int) * 2 ^ n.toNat)=((2 ^ n.toNat:Nat):Int):=by rw[Int.one_mul]; push_cast; rfl
  rw[e2]
  generalize (2:Nat) ^ n.toNat=z at h31
  exact IT (by omega) (by omega)
 rw[e]
 first | rfl | exact ⟨by omega,rfl⟩
def Lq:List Int:=[37,37,32,115,32,58,32,108,32,39,61,39,32,114,32,124,32,114,32,59,32,108,32,58,32,39,42,39,32,114,32,124,32,39,105,39,32,59,32,114,32,58,32,108,32,59]
def oO:ao:=⟨[⟨⟨#[39,61,39]⟩,0,0⟩,⟨⟨#[39,42,39]⟩,0,0⟩,⟨⟨#[39,105,39]⟩,0,0⟩],[⟨#[115]⟩,⟨#[108]⟩,⟨#[114]⟩],[⟨0,[-2,0,-3],0⟩,⟨0,[-3],-1⟩,⟨1,[1,-3],1⟩,⟨1,[2],2⟩,⟨2,[-2],-1⟩],0⟩
noncomputable def OL:List (FuncId × DF):=zr Tryz.prog [(31,[]),(33,[1]),(74,[4,5,100000]),(121,[2]),(172,[]),(91,[]),(133,[]),(119,[]),(28,[]),(69,[2]),(68,[]),(24,[1]),(64,[]),(112,[]),(167,[]),(207,[]),(208,[]),(166,[]),(199,[]),(113,[2,3]),(126,[]),(173,[]),(168,[]),(114,[]),(62,[]),(56,[2]),(50,[2,3]),(53,[2]),(58,[]),(63,[2]),(111,[2]),(72,[2]),(73,[100000]),(120,[]),(124,[]),(75,[1]),(122,[]),(38,[]),(79,[]),(37,[])]
theorem ID:rm Tryz.prog OL:=yb _ _
theorem Pr:de Tryz.prog 49 [yk Lq] (pS oO):=Gw (by kernel_rfl)
theorem pz:oO.Ok∧oO.Small:=JG (by kernel_rfl)
def NN:List wN:=[(49,[yk Lq],pS oO,false),(49,[yk N5],pS qX,false),(61,[.agg (aw qX)],gb true,false),(61,[.agg (aw oO)],gb true,false),(61,[.agg (aw ta)],gb false,false),
 (118,[.agg (aw qX)],.aH [[gb true]],false),(118,[.agg (aw oO)],.aH [[gb false],[gb false],[gb false]],false)]
theorem Ns:∀ x∈NN,x.Ok Tryz.prog:=by
 have hi:∀ (g:ao),g.Ok→g.Small→∀ b,isRed g=b→wN.Ok Tryz.prog (61,[.agg (aw g)],gb b,false):=fun g h1 h2 b e=>⟨by kernel_rfl,by simp only[Ru,if_false]; exact .inr ⟨e ▸ KP g h1 h2,.val _⟩⟩
 have hn:∀ (g:ao),g.Ok→g.Small→∀ b,bG (au g false)=b→wN.Ok Tryz.prog (118,[.agg (aw g)],b,false):=fun g h1 h2 b e=>⟨by kernel_rfl,by simp only[Ru,if_false]; exact .inl (e ▸ vH g h1 h2)⟩
 intro x hx
 simp only[NN,Rm,List.not_mem_nil,or_false] at hx
 rcases hx with rfl | rfl | rfl | rfl | rfl | rfl | rfl
 ·exact ⟨by kernel_rfl,by simp only[Ru,if_false]; exact .inl Pr⟩
 ·exact ⟨by kernel_rfl,by simp only[Ru,if_false]; exact .inl PJ⟩
 ·exact hi qX rE.1 rE.2 true (by kernel_rfl)
 ·exact hi oO pz.1 pz.2 true (by kernel_rfl)
 ·exact hi ta Pg ⟨by decide⟩ false (by kernel_rfl)
 ·exact hn qX rE.1 rE.2 _ (by kernel_rfl)
 ·exact hn oO pz.1 pz.2 _ (by kernel_rfl)
theorem HT:aG Tryz.prog 31 [] (gb true) :=
 (tQ mixed ID (Ni Ns) (by simp) (by kernel_rfl)).pure
def we:SF:=⟨.seq (an [dN 2 0,((some 4),.op (.bN (.val (.emp 1))))]) <|
 .seq (.seq (an [aj 5 1,aR 6 .eql 5 (-1)]) <|
 .cond (.tmp 6) (.seq (an [aC 7 3 2,ay 8 7,((some 9),.op (.arith .sub (.val (.val (.int .i64 (-1)))) (.tmp 8))),((some 10),.op (.c4 1 1 [(.val (.int .i64 0))] [(0,(.tmp 9))])),aj 4 10]) <|
 .ret) (.skip)) <|
 .seq (an [aC 11 2 2,ay 12 11,aj 13 1,aY 14 3 12 13,aC 15 1 14,ay 16 15,aj 4 16]) <|
 .ret,
 [.tmp 4],17⟩
theorem Ad:aU Tryz.prog 53 [2]=some we:=by kernel_rfl
def xu:SF:=⟨.seq (an [dN 2 0,dN 3 1,bA 4 0,bK 5 false]) <|
 .seq (.seq (an [bM 7 4 2,aC 8 0 3,ay 9 8,bJ 10 53 [7,9],aj 6 10]) <|
 .seq (an [aC 11 1 3,ay 12 11,aj 13 6,bj 14 13,bz 15 .lss 12 14]) <|
 .cond (.tmp 15) (.seq (an [aj 16 6,aC 17 1 3,ay 18 17,aY 19 1 16 18,ay 20 19,aj 4 20,bK 5 true]) <|
 .ret) (.skip)) <|
 .seq (an [bA 4 0,bK 5 false]) <|
 .ret,
 [.tmp 4,.tmp 5],21⟩
theorem AL:aU Tryz.prog 50 [2,3]=some xu:=by kernel_rfl
def xK:SF:=⟨.seq (an [dN 2 0,bA 4 0]) <|
 .seq (.seq (an [aj 5 1,aR 6 .lss 5 0]) <|
 .cond (.tmp 6) (.seq (an [aC 7 0 2,ay 8 7,bj 9 8,aR 10 .sub 9 1,aj 11 1,bz 12 .sub 10 11,aj 4 12]) <|
 .ret) (.skip)) <|
 .seq (an [aj 13 1,aj 4 13]) <|
 .ret,
 [.tmp 4],14⟩
theorem AB:aU Tryz.prog 111 [2]=some xK:=by kernel_rfl
def cr:SF:=⟨.seq (an [((some 2),.op (.bN (.val (.emp 1))))]) <|
 .seq (.seq (an [aj 3 0,((some 4),.op (.nil true 0 (.tmp 3) (.val (.emp 1))))]) <|
 .cond (.tmp 4) (.seq (an [((some 2),.op (.bN (.val (.emp 1))))]) <|
 .ret) (.skip)) <|
 .seq (an [((some 5),.op (.bN (.val (.emp 2)))),aj 6 0,((some 7),.op (.app 2 16 (.tmp 5) (.tmp 6))),aj 2 7]) <|
 .ret,
 [.tmp 2],8⟩
theorem cG:aU Tryz.prog 58 []=some cr:=by kernel_rfl
def qp:SC :=
 .seq (an [bz 54 .lss 53 52]) <|
 .seq (.cond (.tmp 54) (.skip) (.exit 2)) <|
 .seq (.block 3 (.seq (an [aj 55 53,aY 56 3 51 53,bM 57 3 56,((some 11),.op (.alloc [(.val (.int .i64 0)),(.emp 1),(.val (.int .i64 0))])),aj 10 55,(none,.op (.store 3 (.tmp 11) (.tmp 57)))]) <|
 .seq (an [aC 58 0 11,ay 59 58,aj 60 8,((some 61),.op (.arith .sub (.val (.val (.int .i64 (-1)))) (.tmp 60))),bz 62 .eql 59 61]) <|
 .cond (.tmp 62) (an [aj 63 5,aj 64 10,((some 65),.op (.build [(.val (.int .i64 0)),(.val (.int .i64 0))] [(0,1,(.tmp 64))])),((some 66),.op (.c4 1 2 [(.val (.int .i64 0)),(.val (.int .i64 0))] [(0,(.tmp 65))])),((some 67),.op (.app 2 16 (.tmp 63) (.tmp 66))),aj 5 67]) (.skip))) <|
 an [aR 68 .add 53 1,aj 53 68]
def qE:SC :=
 .seq (.seq (an [aj 18 7,aj 19 5,bj 20 19,bz 21 .lss 18 20]) <|
 .cond (.tmp 21) (.skip) (.exit 0)) <|
 .seq (.block 1 (.seq (an [bM 25 4 2,aj 26 5,aj 27 7,aY 28 2 26 27,bM 29 2 28,bJ 30 50 [25,29],aj 24 30,kH 31 0 24,kH 32 1 24,aj 8 31,aj 9 32]) <|
 .seq (.seq (.region false [⟨none,[aj 33 9,dm 34 33,aj 35 34]⟩,⟨(some (35,false)),[aj 36 8,aR 37 .geq 36 0]⟩,⟨none,[cU 38 35 37,aj 39 38]⟩,⟨(some (39,false)),[aj 40 6,aj 41 8,((some 42),.op (.arith .sub (.val (.val (.int .i64 (-1)))) (.tmp 41))),aY 43 1 40 42,ay 44 43]⟩,⟨none,[cU 45 39 44]⟩]) <|
 .cond (.tmp 45) (.exit 1) (.skip)) <|
 .seq (an [aj 46 6,aj 47 8,((some 48),.op (.arith .sub (.val (.val (.int .i64 (-1)))) (.tmp 47))),aY 49 1 46 48,(none,.op (.store 1 (.tmp 49) (.val (.val (.bool true)))))]) <|
 .seq (an [aC 50 2 2,ay 51 50,bj 52 51,bA 53 0]) <|
 .block 2 (.loop qp))) <|
 an [aj 22 7,aR 23 .add 22 1,aj 7 23]
def sW:SF:=⟨.seq (an [dN 2 0,((some 4),.op (.bN (.val (.emp 1))))]) <|
 .seq (an [aj 12 1,bJ 13 58 [12],aj 5 13]) <|
 .seq (an [aC 14 1 2,ay 15 14,bj 16 15,((some 17),.op (.make 1 1 [(.val (.bool false))] (.tmp 16) (.tmp 16))),aj 6 17]) <|
 .seq (.seq (an [bA 7 0]) <|
 .block 0 (.loop qE)) <|
 .seq (an [aj 69 5,bJ 70 64 [69],aj 4 70]) <|
 .ret,
 [.tmp 4],71⟩
theorem xn:aU Tryz.prog 56 [2]=some sW:=by kernel_rfl
theorem Ld (g:ao) (hs : -100≤g.start∧g.start≤100) (r:Int) (hr : -1≤r∧r < (g.rules.length:Int)):aG Tryz.prog 53 [.agg (aw g),gi r] (encI (aI g r)):=by
 refine aG.of (by
  intro v hv; simp at hv
  rcases hv with rfl | rfl
  ·exact dS _ (eX g)
  ·exact .val _) ?_
 refine aB.of mixed Ad ?_
 unfold aI
 simp (disch:=omega) only [↓wr,seval,wq,ah,ag,ak,aa,ab,af,ai,ae,we,aw,encS]
 refine aq.eq (fun h1=>?_) (fun h1=>?_)
 ·simp (disch:=omega) only [↓wr,seval,wq,ah,ag,ak,aa,ab,af,ai,ae,aw,encS]
  intro n
  rw[Ra h1]
  rintro h' hv
  refine eh.fr (nD (l:=[-1 - g.start]) (.inr ⟨n,rfl,?_⟩))
  rw[hv]; simp[View.set]
 ·have hR:g.rules[r.toNat]?=some (ax g r):=by unfold ax; exact getD_some (by omega)
  rw[Q9 h1]
  generalize ax g r=R at hR
  simp (disch:=omega) only [↓wr,seval,wq,ah,ag,ak,aa,ab,af,ai,ae,aw,encS,Rc,hR,Rk,aO]
  intro h' _
  exact .tree _ (gD R.right)
theorem EP (g:ao) (hf:g.dL) (x:aJ) (hx:dc g x):aG Tryz.prog 50 [.agg (aw g),.agg (gW x)] (.bt [gi (bO g x).1,gb (bO g x).2]):=by
 have h1:=Ld g (zm hf) x.aD hx.1
 have hl:=iz hf hx.1
 have hd:=hx.2
 refine aG.tree (by
  intro v hv; simp at hv
  rcases hv with rfl | rfl
  ·exact dS _ (eX g)
  ·exact dS _ fun v hv=>by simp[gW] at hv; rcases hv with rfl | rfl <;> exact .val _) (.bt _ fun i hi=>by
   match i,hi with
   | 0,_=>exact .val _
   | 1,_=>exact .val _) fun H=>?_
 refine aB.of mixed AL ?_
 simp only[aw,encS,encI] at h1
 unfold bO
 simp (disch:=omega) only [↓wr,seval,wq,ah,ag,ak,aa,ab,af,ai,ae,xu,aw,encS,gW]
 refine aF.pure h1 (by kernel_rfl) ?_
 generalize aI g x.aD=R at hd hl ⊢
 simp (disch:=omega) only [↓wr,seval,wq,ah,ag,ak,aa,ab,af,ai,ae,gW]
 refine aq.dec (fun h2=>?_) (fun h2=>?_)
 ·have hg:R[x.dot.toNat]?=some (R.getD x.dot.toNat 0):=getD_some (by omega)
  simp (disch:=omega) only [↓wr,seval,wq,ah,ag,ak,aa,ab,af,ai,ae,gW,Rc,hg,Rk]
  rw[Q9 (by omega)]
 ·simp (disch:=omega) only [↓wr,seval,wq,ah,ag,ak,aa,ab,af,ai,ae]
  rw[Ra (by omega)]
theorem Nr (g:ao) (hf:g.dL) (s:Int) (hs : -1000≤s∧s≤1000):aG Tryz.prog 111 [.agg (aw g),gi s] (gi (ji g s)):=by
 have hT:=hf.av
 refine aG.val (by
  intro v hv; simp at hv
  rcases hv with rfl | rfl
  ·exact dS _ (eX g)
  ·exact .val _) fun H=>?_
 refine aB.of mixed AB ?_
 unfold ji
 simp (disch:=omega) only [↓wr,seval,wq,ah,ag,ak,aa,ab,af,ai,ae,xK,aw,encS]
 refine aq.dec (fun h1=>?_) (fun h1=>?_)
 ·simp (disch:=omega) only [↓wr,seval,wq,ah,ag,ak,aa,ab,af,ai,ae,aw]
  rw[Ra h1]
 ·simp (disch:=omega) only [↓wr,seval,wq,ah,ag,ak,aa,ab,af,ai,ae]
  rw[Q9 h1]
theorem bH.Qq {P:Program} {f:FuncId} {h:aE} {u:V} (hu:∀ Z μ hp x,aA Z μ hp u x→∃ a cap,x=.slice a 0 cap∧(a=none→cap=0)) (h1:bH P f [.emp 1] h (.emp 1) h) (h2:bH P f [.emp 2] h (.emp 2) h) (h3:bH P f [.dt] h (.emp 2) h):bH P f [u] h (.emp 0) h:=by
 refine ⟨Ri _,fun Z μ F w xs hrel hr hfree=>?_⟩
 obtain ⟨hl,hv⟩:=hrel
 obtain ⟨x,rfl⟩:∃ x,xs=[x]:=by
  match xs,hl with
  | [x],_=>exact ⟨x,rfl⟩
 have h0:aA Z μ w.heap u x:=hv 0 (by simp)
 have one:∀ v,aA Z μ w.heap v x→fi Z μ w.heap [v] [x]:=fun v h=>⟨rfl,fun i hi=>by
  simp at hi; subst hi; exact h⟩
 have weak:∀ k,bH P f [if k=3 then .dt else .emp k] h (if k=3 then .emp 2 else .emp k) h→aA Z μ w.heap (if k=3 then .dt else .emp k) x→Calls P f [x].toArray w fun e w'=>∃ x Z' μ',e=.returned x∧aA Z' μ' w'.heap (.emp 0) x∧gu Z' μ' w'.heap (cat h F)∧Ext Z μ w h.length Z' μ' w'∧(∀ id,id < h.length∨h.length≤id→μ' id=μ id):=by
  intro k hk hx
  refine (hk.2 Z μ F w [x] (one _ hx) hr hfree).mono ?_
  rintro e w' ⟨y,Z',μ',rfl,hy,rest⟩
  refine ⟨y,Z',μ',rfl,?_,rest⟩
  have:∀ k',aA Z' μ' w'.heap (.emp k') y→aA Z' μ' w'.heap (.emp 0) y:=fun k' h=>by
   cases h with | emp _ a _ _=>exact .emp 0 a (by simp) (by simp)
  split at hy <;> exact this _ hy
 obtain ⟨a,cap,rfl,hz⟩:=hu Z μ w.heap x h0
 cases a with
 | none =>
  have:=hz rfl
  subst this
  exact weak 1 (by simpa using h1) (.emp 1 none (by simp) (by simp))
 | some a =>
  cases cap with
  | zero=>exact weak 2 (by simpa using h2) (.emp 2 (some a) (by simp) (by simp))
  | succ c=>exact weak 3 (by simpa using h3) (.dt a (c+1))
theorem Lf {Z:Nat→Prop} {μ:Mu} {hp:Array Obj} {k:Nat} {x:Value} (h:aA Z μ hp (.emp k) x):∃ a cap,x=.slice a 0 cap∧(a=none→cap=0):=by
 cases h with | emp _ a _ _=>exact ⟨a,0,rfl,fun _=>rfl⟩
theorem Ju {Z:Nat→Prop} {μ:Mu} {hp:Array Obj} {id off esz:Nat} {x:Value} (h:aA Z μ hp (.sl id off 0 esz) x):∃ a cap,x=.slice a 0 cap∧(a=none→cap=0):=by
 rcases Fp h with ⟨_,a,e⟩ | ⟨b,o0,cap,c,e,f,e2,_⟩
 ·exact ⟨a,0,e,fun _=>rfl⟩
 ·exact ⟨_,cap,e2,fun h=>by simp at h⟩
theorem F7 (u:V) (hu:∀ Z μ hp x,aA Z μ hp u x→∃ a cap,x=.slice a 0 cap∧(a=none→cap=0)) (h:aE):bH Tryz.prog 58 [u] h (.emp 0) h:=by
 have hp:∀ v t,Tree v→Tree t→(∀ H,aB Tryz.prog 58 [v] H fun r _=>r=t)→aG Tryz.prog 58 [v] t:=fun v t hv ht h=>aG.tree (by intro x hx; simp at hx; subst hx; exact hv) ht h
 have h1:=hp (.emp 1) (.emp 1) (.emp 1) (.emp 1) (fun H=>by
  refine aB.of mixed cG ?_
  simp (disch:=omega) only [↓wr,seval,wq,ah,ag,ak,aa,ab,af,ai,ae,cr])
 have h2:=hp (.emp 2) (.emp 2) (.emp 2) (.emp 2) (fun H=>by
  refine aB.of mixed cG ?_
  simp (disch:=omega) only [↓wr,seval,wq,ah,ag,ak,aa,ab,af,ai,ae,cr,iv,Tc])
 have h3:=hp .dt (.emp 2) .dt (.emp 2) (fun H=>by
  refine aB.of mixed cG ?_
  simp (disch:=omega) only [↓wr,seval,wq,ah,ag,ak,aa,ab,af,ai,ae,cr,ou,iv,Tc])
 exact bH.Qq hu (bH.fy h1 h) (bH.fy h2 h) (bH.fy h3 h)
set_option maxHeartbeats 2000000 in
theorem IP (l:List aJ) (hl:l.length≤100000) (u:V) (H:View) (ho:bc H u 2 (bT l)):aB Tryz.prog 58 [u] H fun r H'=>bc H' r 2 (bT l)∧ei H H' r:=by
 cases l with
 | nil =>
  refine ⟨by kernel_rfl,?_⟩
  rintro h rfl
  refine ⟨.emp 0,h,F7 u (fun Z μ hp x hx=>?_) h,.refl _,.nil,.emp⟩
  rcases ho with ⟨_,k,rfl⟩ | ⟨n,rfl,_⟩
  ·exact Lf hx
  ·exact Ju hx
 | cons x r =>
  obtain ⟨id,hu,hid⟩:=ho.sl (by rw[bI]; simp)
  subst hu
  refine aB.of mixed cG ?_
  have he:=zd (H:=H) id 0 r.length 2 2 (bT (x :: r)) hid (by rw[bI]; simp)
  rw[SK,Rz (by rw[bI]; simp)] at he
  simp only[Rp] at hl
  have hlen:(bT (x :: r)).length=r.length+1:=by rw[bI]; rfl
  rw[hlen]
  simp (disch:=omega) only [↓wr,seval,wq,ah,ag,ak,aa,ab,af,ai,ae,cr,he]
  refine oU (es:=[]) (.inl ⟨rfl,2,rfl⟩) (by simp[bT,gW,List.all_map,aS]) (by unfold aK; rw[hlen]; simp; omega) (by unfold aK; rw[hlen]; simp; omega) ?_
  intro u2 H2 o2 l2
  simp (disch:=omega) only [↓wr,seval,wq,ah,ag,ak,aa,ab,af,ai,ae]
  refine ⟨by simpa using o2,fun j hj=>?_⟩
  exact l2 j hj (by simp[owner])
def cX (ks:List Nat):List aJ:=ks.map fun (k:Nat)=>(⟨k,0⟩:aJ)
theorem vh {ks:List Nat} {n:Nat} (h:ks.Nodup) (hk:∀ k∈ks,k < n):ks.length≤n:=by
 have:=lI ks (List.range n) h fun x hx=>R3.2 (hk x hx)
 simpa using this
theorem K6 {l:List Bool} {i:Nat} (h:i < l.length):(cR l).getD i []=[gb (l.getD i false)]:=by
 simp[Q6,h]
structure Lx (g:ao) (l:List aJ) (H H':View) (i:Nat) (r su:V) (ks:List Nat) (seen:List Bool):Prop where
 own:bk H' [(r,2,bT (l ++ cX ks)),(su,1,cR seen)]
 f1:ei H H' r
 f2:ei H H' su
 nd:ks.Nodup
 kl:∀ k∈ks,k < g.rules.length
 sl:seen.length=g.az.length
 s1:∀ (n k:Nat) (R:aM),seen.getD n false=true→g.rules[k]?=some R→R.left=n→k∈ks
 s2:∀ (k:Nat) (R:aM),k∈ks→g.rules[k]?=some R→seen.getD R.left.toNat false=true
 cl:∀ x∈l ++ cX ks,p8 g l x
 dn:∀ (j:Nat) (x:aJ) (s:Int),j < i→(l ++ cX ks)[j]?=some x→bO g x=(s,true)→s < 0→seen.getD (-1 - s).toNat false=true
 il:i≤(l ++ cX ks).length
theorem Lx.len {g:ao} {l:List aJ} {H H':View} {i:Nat} {r su:V} {ks:List Nat} {seen:List Bool} (h:Lx g l H H' i r su ks seen):ks.length≤g.rules.length∧(l ++ cX ks).length=l.length+ks.length:=by
 refine ⟨vh h.nd h.kl,by simp[cX]⟩
def QS (g:ao) (l:List aJ) (H:View) (m:Nat) (T:Env) (H':View):Prop:=∃ (i:Nat) (r su:V) (ks:List Nat) (seen:List Bool),m=l.length+g.rules.length - i∧Lx g l H H' i r su ks seen∧T 2=.aL (aw g) 0∧T 5=r∧T 6=su∧T 7=gi i
set_option maxHeartbeats 16000000 in
theorem FW (g:ao) (hf:g.dL) (l:List aJ) (hl:∀ x∈l,dc g x) (hn:l.length≤10000) (u:V) (H:View) (ho:bc H u 2 (bT l)):aB Tryz.prog 56 [.agg (aw g),u] H fun r H'=>bc H' r 2 (bT (cQ g l))∧ei H H' r:=by
 refine aB.of mixed xn ?_
 have hru:=hf.rules
 have hno:=hf.az
 simp (disch:=omega) only [↓wr,seval,wq,ah,ag,ak,aa,ab,af,ai,ae,sW,aw,encS]
 refine aF.eJ ((IP l (by omega) u H ho).mono ?_)
 rintro r H1 ⟨o1,f1⟩
 simp (disch:=omega) only [↓wr,seval,wq,ah,ag,ak,aa,ab,af,ai,ae,aw,encS]
 refine ⟨⟨Ri _,by unfold aK; omega,by unfold aK; omega⟩,fun h0=>?_,fun h0 q hq=>?_⟩
 ·exact absurd (by have:=hf.pN; omega) (show ¬ g.az.length=0 by have:=hf.pN; omega)
 have hst:Lx g l H (H1.set q (.arr 1 (List.replicate g.az.length [gb false]))) 0 r (.sl q 0 g.az.length 1) [] (List.replicate g.az.length false):=by
  have e:List.replicate g.az.length [gb false]=cR (List.replicate g.az.length false):=by simp
  have hr1:bk H1 [(r,2,bT l)]:=⟨fun x hx=>by simp at hx; subst hx; exact o1,by
   cases hr:owner r <;> simp[Ss,hr]⟩
  have mN:H q=.dead∨H q≠.dead:=by cases H q <;> simp
  have hqH:H q=.dead:=by
   rcases mN with h | h
   ·exact h
   ·have:=(f1 q h).1; rw[hq] at this; exact absurd this.symm h
  refine ⟨?_,fun id hid=>?_,fun id hid=>?_,.nil,by simp,by simp,fun n k R h=>?_,by simp,fun x hx=>.base (by simpa [cX] using hx),fun j x s h=>by omega,SQ _⟩
  ·have h2:=(hr1.new hq 1 (List.replicate g.az.length [gb false])).perm (.swap _ _ _)
   rw[Te] at h2
   rw[e] at h2 ⊢
   simpa [cX] using h2
  ·have hne:id≠q:=by rintro rfl; exact hid hqH
   exact ⟨by simp only[View.set]; rw[Q9 hne]; exact (f1 id hid).1,(f1 id hid).2⟩
  ·have hne:id≠q:=by rintro rfl; exact hid hqH
   exact ⟨by simp only[View.set]; rw[Q9 hne]; exact (f1 id hid).1,by simp[owner,Ne.symm hne]⟩
  ·simp only[Q6,Tn] at h
   split at h <;> simp at h
 generalize H1.set q (.arr 1 (List.replicate g.az.length [gb false]))=H2 at hst ⊢
 refine bg.intro (QS g l H) (l.length+g.rules.length) ⟨0,r,_,[],_,by omega,hst,rfl,rfl,rfl,rfl⟩ ?_
 clear hst o1 f1 hq
 rintro m T H' ⟨i,r,su,ks,seen,rfl,hI,t2,t5,t6,t7⟩
 obtain ⟨hk1,hk2⟩:=hI.len
 have hlr:cY r=some (l ++ cX ks).length:=by rw[hI.own.head.len,bI]
 simp (disch:=omega) only [↓wr,seval,wq,ah,ag,ak,aa,ab,af,ai,ae,qE,t2,t5,t6,t7,hlr]
 refine aq.dec (fun hc=>?_) (fun hc=>?_)
 rotate_left
 ·
  have hi:i=(l ++ cX ks).length:=by have:=hI.il; omega
  simp (disch:=omega) only [↓wr,seval,wq,ah,ag,ak,aa,ab,af,ai,ae,t5]
  refine aF.eJ ((GH (l ++ cX ks) (by omega) r H' hI.own.head).mono ?_)
  rintro r2 H3 ⟨k3,o3,e3⟩
  simp (disch:=omega) only [↓wr,seval,wq,ah,ag,ak,aa,ab,af,ai,ae]
  have hcl:cQ g l=w7 (l ++ cX ks):=M8 hf hl (yU _) (fun x hx=>hI.cl x (ox.1 hx)) (fun x hx=>ox.2 (by simp[hx])) (fun x hx s k R h1 h2 h3 h4=>by
   obtain ⟨j,hj,e⟩:=Sk.1 (ox.1 hx)
   have h5:=hI.dn j x s (by omega) (by rw[Q7 hj,e]) h1 h2
   have h6:=hI.s1 _ k R h5 h3 (by omega)
   exact ox.2 (SN _ (Rv.2 ⟨k,h6,rfl⟩)))
  rw[hcl]
  refine ⟨o3,fun id hid=>?_⟩
  obtain ⟨q1,q2⟩:=hI.f1 id hid
  exact ⟨by rw[k3 id q2,q1],by rw[e3]; exact q2⟩
 have hx:(l ++ cX ks)[i]?=some ((l ++ cX ks)[i]'(by omega)):=Q7 (by omega)
 have hxm:=Rj (show i < (l ++ cX ks).length by omega)
 have hdn:=hI.dn
 generalize (l ++ cX ks)[i]'(by omega)=x at hx hxm
 have hxC:=hI.cl x hxm
 have hxH:=hxC.has hl
 have h1:=EP g hf x hxH
 cases hny:bO g x with
 | mk s okb =>
 have hsb:=As hf hxH hny
 rw[hny] at h1
 obtain ⟨id,hu,hid⟩:=hI.own.head.sl (by rw[bI]; omega)
 simp only at hu hid
 rw[bI] at hu
 simp only[aw,encS,gW] at h1
 simp (disch:=omega) only [↓wr,seval,wq,ah,ag,ak,aa,ab,af,ai,ae,t2,t5,t6,t7,hu,hid,yX hx,aw,encS]
 refine ⟨by omega,by rw[bI]; omega,?_⟩
 refine aF.pure h1 (by kernel_rfl) ?_
 have skip:(okb=true→s < 0→seen.getD (-1 - s).toNat false=true)→Lx g l H H' (i+1) r su ks seen:=fun h =>
  ⟨hI.own,hI.f1,hI.f2,hI.nd,hI.kl,hI.sl,hI.s1,hI.s2,hI.cl,fun j y t hj hy hn h0=>by
   rcases Rw j i with q | q
   ·exact hI.dn j y t q hy hn h0
   ·have:j=i:=by omega
    subst this
    rw[hx] at hy
    simp only[Q8] at hy
    subst hy
    rw[hny] at hn
    simp only[Rb] at hn
    obtain ⟨rfl,rfl⟩:=hn
    exact h rfl h0,by omega⟩
 cases okb with
 | false =>
  simp (disch:=omega) only [↓wr,seval,wq,ah,ag,ak,aa,ab,af,ai,ae,t2,t5,t6,t7]
  exact ⟨l.length+g.rules.length - (i+1),by omega,i+1,r,su,ks,seen,rfl,skip (by simp),t2,by rw[← hu]; exact t5,t6,rfl⟩
 | true =>
 simp (disch:=omega) only [↓wr,seval,wq,ah,ag,ak,aa,ab,af,ai,ae]
 refine aq.dec (fun h0=>?_) (fun h0=>?_)
 ·simp (disch:=omega) only [↓wr,seval,wq,ah,ag,ak,aa,ab,af,ai,ae,t2,t5,t6,t7]
  exact ⟨l.length+g.rules.length - (i+1),by omega,i+1,r,su,ks,seen,rfl,skip (fun _ h=>by omega),t2,by rw[← hu]; exact t5,t6,rfl⟩
 have hG:=nF hf hxH hny
 have hnl:(-1 - s).toNat < g.az.length:=by
  unfold gP at hG
  rw[Q9 (by omega)] at hG
  simp at hG; omega
 obtain ⟨id2,hu2,hid2⟩:=hI.own.tail.head.sl (by simp[hI.sl]; omega)
 simp only at hu2 hid2
 rw[Ro,hI.sl] at hu2
 have hsn:(-1 - s).toNat < seen.length:=by rw[hI.sl]; exact hnl
 simp (disch:=omega) only [↓wr,seval,wq,ah,ag,ak,aa,ab,af,ai,ae,t6,hu2,hid2,K6 hsn]
 refine ⟨by omega,by simp[hI.sl]; omega,?_⟩
 refine aq.split (fun h2=>?_) (fun h2=>?_)
 ·simp (disch:=omega) only [↓wr,seval,wq,ah,ag,ak,aa,ab,af,ai,ae,t2,t5,t6,t7]
  exact ⟨l.length+g.rules.length - (i+1),by omega,i+1,r,su,ks,seen,rfl,skip (fun _ _=>h2),t2,by rw[← hu]; exact t5,by rw[← hu2]; exact t6,rfl⟩
 obtain ⟨n,hn⟩:∃ n:Nat,-1 - s=(n:Int):=⟨(-1 - s).toNat,by omega⟩
 have hnn:(-1 - s).toNat=n:=by omega
 rw[hnn] at hnl hsn h2
 have hse:(cR seen).set n [gb true]=cR (seen.set n true):=by simp[Sr]
 simp (disch:=omega) only [↓wr,seval,wq,ah,ag,ak,aa,ab,af,ai,ae,t2,t5,t6,t7,hu2,hid2,aw,encS,hn,K6 hsn,hse]
 refine ⟨by omega,by simp[hI.sl]; omega,?_⟩
 have hsg:∀ m,(seen.set n true).getD m false=if n=m then true else seen.getD m false:=fun m=>by
  rw[gz]
  by_cases e:n=m
  ·rw[Ra ⟨e,hsn⟩,Ra e]
  ·rw[Q9 (fun h=>e h.1),Q9 e]
 have o2:bk (H'.set id2 (.arr 1 (cR (seen.set n true)))) [(r,2,bT (l ++ cX ks)),(su,1,cR (seen.set n true))]:=by
  have h3:=hI.own.perm (.swap _ _ _)
  rw[hu2] at h3 ⊢
  exact (h3.put (es':=cR (seen.set n true)) (by simp) (by simp[hI.sl])).perm (.swap _ _ _)
 have hdead:∀ id,H id≠.dead→id≠id2:=fun id hid e=>by
  have:=(hI.f2 id hid).2
  rw[hu2,e] at this
  exact this rfl
 have f1':ei H (H'.set id2 (.arr 1 (cR (seen.set n true)))) r:=fun id hid=>⟨by simp only[View.set]; rw[Q9 (hdead id hid)]; exact (hI.f1 id hid).1,(hI.f1 id hid).2⟩
 have f2':ei H (H'.set id2 (.arr 1 (cR (seen.set n true)))) su:=fun id hid=>⟨by simp only[View.set]; rw[Q9 (hdead id hid)]; exact (hI.f2 id hid).1,(hI.f2 id hid).2⟩
 generalize H'.set id2 (.arr 1 (cR (seen.set n true)))=H4 at o2 f1' f2' ⊢
 refine bg.up g.rules.length (fun k T H5=>∃ (r2:V) (ks2:List Nat),ks2=ks ++ (List.range k).filter (fun (q:Nat)=>decide ((ax g q).left=n))∧bk H5 [(r2,2,bT (l ++ cX ks2)),(su,1,cR (seen.set n true))]∧ei H H5 r2∧ei H H5 su ∧
  T 2=.aL (aw g) 0∧T 5=r2∧T 6=su∧T 7=gi i∧T 8=gi s∧T 51=.aH (g.rules.map aO)∧T 52=gi g.rules.length∧T 53=gi k) ⟨r,ks,by simp,o2,f1',f2',t2,by rw[← hu]; exact t5,by rw[← hu2]; exact t6,t7,rfl,rfl,rfl,rfl⟩ ?_
 clear t2 t5 t6 t7 o2 f1' f2'
 rintro k j T5 H5 hk ⟨r2,ks2,hks,o5,f5,g5,t2,t5,t6,t7,t8,t51,t52,t53⟩
 have hdis:∀ q,q∈ks→¬ (ax g q).left=n:=fun q hq e=>by
  have hR:g.rules[q]?=some (ax g q):=by unfold ax; exact getD_some (hI.kl q hq)
  have:=hI.s2 q _ hq hR
  rw[e] at this
  simp only[Rs] at this
  rw[h2] at this; simp at this
 have hnd2:ks2.Nodup:=by
  rw[hks,RV]
  refine ⟨hI.nd,(List.nodup_range).filter _,fun a ha b hb e=>?_⟩
  subst e
  exact hdis a ha (by simpa using (RQ.1 hb).2)
 simp (disch:=omega) only [↓wr,seval,wq,ah,ag,ak,aa,ab,af,ai,ae,qp,t2,t5,t6,t7,t8,t51,t52,t53]
 refine aq.dec (fun hc5=>?_) (fun hc5=>?_)
 ·have hR:g.rules[k]?=some (ax g k):=by unfold ax; exact getD_some (by omega)
  have hkl2:∀ q∈ks2,q < g.rules.length:=fun q hq=>by
   rw[hks] at hq
   rcases Ry.1 hq with h | h
   ·exact hI.kl q h
   ·have:=R3.1 (RQ.1 h).1; omega
  have hl2:=vh hnd2 hkl2
  have hstep:ks ++ (List.range (k+1)).filter (fun (q:Nat)=>decide ((ax g q).left=n))=if (ax g k).left=n then ks2 ++ [k] else ks2:=by
   rw[Sb,Sw,← RO,← hks]
   by_cases e:(ax g k).left=n <;> simp[e]
  generalize ax g k=R at hR hstep
  simp (disch:=omega) only [↓wr,seval,wq,ah,ag,ak,aa,ab,af,ai,ae,t2,t5,t6,t7,t8,t51,t52,t53,Rc,hR,Rk,aO]
  intro q hq
  rw[set_set]
  have hqq:(H5.set q (.arr 3 [[gi R.left,encI R.right,gi R.prec]])) q=.arr 3 [[gi R.left,encI R.right,gi R.prec]]:=by simp[View.set]
  have hqH:∀ id,H id≠.dead→id≠q:=fun id hid e=>by
   have:=(f5 id hid).1
   rw[e,hq] at this
   exact hid (by rw[e]; exact this.symm)
  have o6:=o5.fresh (o:=.arr 3 [[gi R.left,encI R.right,gi R.prec]]) hq
  have f6:ei H (H5.set q (.arr 3 [[gi R.left,encI R.right,gi R.prec]])) r2:=fun id hid=>⟨by simp only[View.set]; rw[Q9 (hqH id hid)]; exact (f5 id hid).1,(f5 id hid).2⟩
  have g6:ei H (H5.set q (.arr 3 [[gi R.left,encI R.right,gi R.prec]])) su:=fun id hid=>⟨by simp only[View.set]; rw[Q9 (hqH id hid)]; exact (g5 id hid).1,(g5 id hid).2⟩
  generalize H5.set q (.arr 3 [[gi R.left,encI R.right,gi R.prec]])=H6 at hqq o6 f6 g6
  clear o5 f5 g5 hq hqH
  simp (disch:=omega) only [↓wr,seval,wq,ah,ag,ak,aa,ab,af,ai,ae,t2,t5,t6,t7,t8,hqq,hn]
  refine ⟨rfl,?_⟩
  refine aq.eq (fun he=>?_) (fun he=>?_)
  ·simp (disch:=omega) only [↓wr,seval,wq,ah,ag,ak,aa,ab,af,ai,ae,t2,t5,t6,t7,t8]
   intro q2 hq2
   simp (disch:=omega) only [↓wr,seval,wq,ah,ag,ak,aa,ab,af,ai,ae,dW]
   have hqH2:∀ id,H id≠.dead→id≠q2:=fun id hid e=>by
    have:=(f6 id hid).1
    rw[e,hq2] at this
    exact hid (by rw[e]; exact this.symm)
   refine eR (o6.fresh hq2) (by simp[aS]) (by unfold aK; rw[bI]; simp[cX]; omega) (by unfold aK; rw[bI]; simp[cX]; omega) ?_
   intro r3 H7 o7 l7
   simp (disch:=omega) only [↓wr,seval,wq,ah,ag,ak,aa,ab,af,ai,ae,t2,t6,t7,t8,t51,t52,t53]
   rw[Ra he] at hstep
   have f7:∀ v,ei H H6 v→(∀ id,owner v=some id→owner r2≠some id∧owner r3≠some id)→ei H H7 v:=fun v hv hvo id hid=>by
    obtain ⟨e1,e2⟩:=hv id hid
    obtain ⟨k1,k2⟩:=l7 id (by simp only[View.set]; rw[Q9 (hqH2 id hid),e1]; exact hid) (f6 id hid).2
    refine ⟨?_,e2⟩
    rw[k1]
    simp only[View.set]
    rw[Q9 (hqH2 id hid),e1]
   have f8:ei H H7 r3:=fun id hid=>by
    obtain ⟨e1,e2⟩:=f6 id hid
    obtain ⟨k1,k2⟩:=l7 id (by simp only[View.set]; rw[Q9 (hqH2 id hid),e1]; exact hid) e2
    refine ⟨?_,k2⟩
    rw[k1]
    simp only[View.set]
    rw[Q9 (hqH2 id hid),e1]
   refine aQ hk (by omega) ⟨r3,ks2 ++ [k],hstep.symm,?_,f8,fun id hid=>⟨(f8 id hid).1,(g6 id hid).2⟩,t2,rfl,t6,t7,t8,t51,t52,rfl⟩
   have e1:bT (l ++ cX (ks2 ++ [k]))=bT (l ++ cX ks2) ++ [[gi k,gi 0]]:=by simp[bT,cX,gW]
   rw[e1]
   exact o7
  ·simp (disch:=omega) only [↓wr,seval,wq,ah,ag,ak,aa,ab,af,ai,ae,t2,t5,t6,t7,t8,t51,t52,t53]
   rw[Q9 he] at hstep
   exact aQ hk (by omega) ⟨r2,ks2,hstep.symm,o6,f6,g6,t2,t5,t6,t7,t8,t51,t52,rfl⟩
 ·have hke:k=g.rules.length:=by omega
  subst hke
  simp (disch:=omega) only [↓wr,seval,wq,ah,ag,ak,aa,ab,af,ai,ae,t2,t5,t6,t7]
  have hmem:∀ q,q∈ks2↔q∈ks∨(q < g.rules.length∧(ax g q).left=n):=fun q=>by
   rw[hks,Ry,RQ,R3,Rn]
  have hRD:∀ (q:Nat) (R:aM),g.rules[q]?=some R→ax g q=R:=fun q R h=>by
   unfold ax
   rw[Rs,Q6,h]; rfl
  have hpre:∀ (j:Nat),j≤i→(l ++ cX ks2)[j]?=(l ++ cX ks)[j]?:=fun j hj=>by
   rw[hks,cX,RI,← RO]
   exact Rt (by simp only[cX] at hc; omega)
  refine ⟨l.length+g.rules.length - (i+1),by omega,i+1,r2,su,ks2,seen.set n true,rfl,⟨o5,f5,g5,hnd2,fun q hq=>?_,by rw[List.length_set]; exact hI.sl,fun m q R h3 h4 h5=>?_,fun q R h3 h4=>?_,fun y hy=>?_,fun j y t hj hy hn2 h0=>?_,?_⟩,t2,t5,t6,rfl⟩
  ·rcases (hmem q).1 hq with h | h
   ·exact hI.kl q h
   ·exact h.1
  ·rw[hsg] at h3
   split at h3
   ·rename_i e
    subst e
    exact (hmem q).2 (.inr ⟨(Rl.1 h4).1,by rw[hRD q R h4]; exact h5⟩)
   ·exact (hmem q).2 (.inl (hI.s1 m q R h3 h4 h5))
  ·rw[hsg]
   rcases (hmem q).1 h3 with h | h
   ·split
    ·rfl
    ·exact hI.s2 q R h h4
   ·rw[hRD q R h4] at h
    rw[h.2,Rs,Ra rfl]
  ·rcases Ry.1 hy with h | h
   ·exact hI.cl y (SJ _ h)
   ·obtain ⟨q,hq,rfl⟩:=Rv.1 h
    rcases (hmem q).1 hq with h | h
    ·exact hI.cl _ (SN _ (Rv.2 ⟨q,h,rfl⟩))
    ·have hR:g.rules[q]?=some (ax g q):=by unfold ax; exact getD_some h.1
     exact .step hxC hny (by omega) hR (by rw[h.2,hn])
  ·rw[hpre j (by omega)] at hy
   rw[hsg]
   rcases Rw j i with q | q
   ·split
    ·rfl
    ·exact hI.dn j y t q hy hn2 h0
   ·have:j=i:=by omega
    subst this
    rw[hx] at hy
    simp only[Q8] at hy
    subst hy
    rw[hny] at hn2
    simp only[Rb,and_true] at hn2
    subst hn2
    rw[hnn,Ra rfl]
  ·rw[hks,cX,RI,← RO,R5]
   simp only[cX] at hc
   omega
theorem Cs {α:Type} (p:α→Bool):∀ (l:List α) (i:Int),0≤i→cB p l i = -1→∀ x∈l,p x=false
 | [],_,_,_=>by simp
 | x :: l,i,h0,h=>by
  rw[cB] at h
  split at h
  ·omega
  ·rename_i hp
   intro y hy
   rcases Rm.1 hy with rfl | hy
   ·simpa using hp
   ·exact Cs p l (i+1) (by omega) h y hy
theorem Ct {α:Type} (p:α→Bool):∀ (l:List α) (i:Int),0≤i→cB p l i = -1∨∃ (k:Nat) (x:α),cB p l i=i+k∧l[k]?=some x∧p x=true∧∀ y∈l.take k,p y=false
 | [],_,_=>.inl rfl
 | x :: l,i,h0=>by
  rw[cB]
  split
  ·rename_i hp
   exact .inr ⟨0,x,by simp,rfl,hp,by simp⟩
  ·rename_i hp
   rcases Ct p l (i+1) (by omega) with h | ⟨k,y,h1,h2,h3,h4⟩
   ·exact .inl h
   ·refine .inr ⟨k+1,y,by rw[h1]; push_cast; omega,by simpa using h2,h3,fun z hz=>?_⟩
    rw[List.take_succ_cons] at hz
    rcases Rm.1 hz with rfl | hz
    ·simpa using hp
    ·exact h4 z hz
def uz:SF:=⟨.seq (an [bA 6 0]) <|
 .seq (an [aj 10 0,fp 11 10,aC 12 4 11,ay 13 12,aj 14 1,aj 15 2,((some 16),.op (.c4 1 1 [(.val (.int .i64 0))] [(0,(.tmp 15))])),bJ 17 28 [13,14,16],aj 9 17,kH 18 0 9,kH 19 1 9,aj 7 18,aj 8 19]) <|
 .seq (an [aj 20 7,aj 6 20]) <|
 .ret,
 [.tmp 6],21⟩
theorem yF:aU Tryz.prog 119 []=some uz:=by kernel_rfl
def oI:SF:=⟨.seq (an [bK 3 false]) <|
 .seq (.region false [⟨none,[aj 4 0,aR 5 .geq 4 0,aj 6 5]⟩,⟨(some (6,false)),[ay 7 1,fp 8 7,aC 9 5 8,ay 10 9,aj 11 0,((some 12),.op (.arith .sub (.val (.val (.int .i64 (-1)))) (.tmp 11))),aY 13 1 10 12,ay 14 13,dm 15 14]⟩,⟨none,[cU 16 6 15,aj 3 16]⟩]) <|
 .ret,
 [.tmp 3],17⟩
theorem sB:aU Tryz.prog 172 []=some oI:=by kernel_rfl
def qx:SF:=⟨.seq (an [dN 2 0,bK 4 false]) <|
 .seq (an [aj 5 1,((some 6),.op (.qk 172 [] [(.tmp 2)])),bJ 7 91 [5,6],dm 8 7,aj 4 8]) <|
 .ret,
 [.tmp 4],9⟩
theorem uP:aU Tryz.prog 121 [2]=some qx:=by kernel_rfl
def zB:SC :=
 .seq (an [bz 8 .lss 7 6]) <|
 .seq (.cond (.tmp 8) (.skip) (.exit 0)) <|
 .seq (.block 1 (.seq (an [aY 9 1 5 7,ay 10 9,aj 4 10]) <|
 an [aj 11 2,aj 12 4,bJ 13 124 [12],bz 14 .or 11 13,aj 2 14])) <|
 an [aR 15 .add 7 1,aj 7 15]
def D4:SF:=⟨.seq (an [((some 2),.op (.bN (.val (.val (.int .u32 0)))))]) <|
 .seq (.seq (an [aj 5 0,bj 6 5,bA 7 0]) <|
 .block 0 (.loop zB)) <|
 .seq (an [aj 16 2,aj 2 16]) <|
 .ret,
 [.tmp 2],17⟩
theorem FQ:aU Tryz.prog 120 []=some D4:=by kernel_rfl
theorem Dd {H:View} {W:Nat} {f0 f1 f2 f3 f5 f6 f7 f8 f9:V} {a:List aP} (hW:H W=.arr 10 [[f0,f1,f2,f3,bS a,f5,f6,f7,f8,f9]]) (ha:aV a) (he:∀ s∈a,aV s.aX∧∀ e∈s.aX,cm e.sym∧cm e.to) (st sym:Int) :
  aB Tryz.prog 119 [.ptr W 0 0,gi st,gi sym] H fun r H'=>r=gi (jB a st [sym]).1∧∀ id,H id≠.dead→H' id=H id:=by
 refine aB.of mixed yF ?_
 simp (disch:=omega) only [↓wr,seval,wq,ah,ag,ak,aa,ab,af,ai,ae,uz,hW]
 intro q hq
 have hw:=Mv a ha he st [sym] (by unfold aV; simp)
 refine aF.Ds hw (by kernel_rfl) (.bt _ fun i hi=>by
  match i,hi with
  | 0,_=>exact ⟨_,rfl⟩
  | 1,_=>exact ⟨_,rfl⟩) ⟨.tree (xJ a),.tree (.val _),fh.MR (l:=[sym]) (.inr ⟨q,rfl,by simp[View.set]⟩),trivial⟩ ?_
 simp (disch:=omega) only [↓wr,seval,wq,ah,ag,ak,aa,ab,af,ai,ae]
 intro id hid
 rw[Q9 (fun e=>hid (by rw[e]; exact hq))]
set_option maxHeartbeats 2000000 in
theorem Kq (l:List Int) (hl:aV l) (f:FuncId) (cap:List V) (p:Int→Bool) (H:View) (hf:∀ x∈l,aB Tryz.prog f (gi x :: cap) H fun r H'=>r=gb (p x)∧H'=H) :
  aB Tryz.prog 133 [encI l,.fn f [] cap] H fun r H'=>r=gi (cB p l 0)∧H'=H:=by
 refine aB.of mixed gN ?_
 unfold aV at hl
 simp (disch:=omega) only [↓wr,seval,wq,ah,ag,ak,aa,ab,af,ai,ae,fg,encI]
 refine bg.up l.length (fun i T H'=>H=H'∧cB p (l.drop i) i=cB p l 0∧T 0=encI l∧T 1=.fn f [] cap∧T 7=gi l.length∧T 8=gi i) ⟨rfl,rfl,rfl,rfl,rfl,rfl⟩ ?_
 rintro i k T _ hk ⟨rfl,hi,h0,h1,h7,h8⟩
 simp (disch:=omega) only [↓wr,seval,wq,ah,ag,ak,aa,ab,af,ai,ae,eH,h0,h1,h7,h8]
 refine aq.dec (fun hc=>?_) (fun hc=>?_)
 ·have hg:l[i]?=some (l[i]'(by omega)):=Q7 (by omega)
  have hm:l[i]'(by omega)∈l:=Rj _
  rw[eC (show i < l.length by omega)] at hi
  generalize l[i]'(by omega)=x at hg hm hi
  simp (disch:=omega) only [↓wr,seval,wq,ah,ag,ak,aa,ab,af,ai,ae,h0,h1,h7,h8,encI,Rc,hg,Rk]
  refine aF.eJ ((hf x hm).mono ?_)
  rintro r H2 ⟨rfl,rfl⟩
  simp only[cB] at hi
  simp (disch:=omega) only [↓wr,seval,wq,ah,ag,ak,aa,ab,af,ai,ae]
  refine aq.split (fun hp=>?_) (fun hp=>?_)
  ·simp (disch:=omega) only [↓wr,seval,wq,ah,ag,ak,aa,ab,af,ai,ae,h0,h1,h7,h8]
   rw[← hi,Ra hp]
  ·simp (disch:=omega) only [↓wr,seval,wq,ah,ag,ak,aa,ab,af,ai,ae,h0,h1,h7,h8]
   refine aQ hk (by omega) ⟨rfl,?_,h0,h1,h7,rfl⟩
   rw[Q9 (by simp[hp])] at hi
   push_cast; exact hi
 ·rw[RB (by omega)] at hi
  simp (disch:=omega) only [↓wr,seval,wq,ah,ag,ak,aa,ab,af,ai,ae,h0,h1,h7,h8]
  rw[← hi]; rfl
theorem FH (l:List Int) (hl:aV l) (f:FuncId) (cap:List V) (p:Int→Bool) (H:View) (hf:∀ x∈l,aB Tryz.prog f (gi x :: cap) H fun r H'=>r=gb (p x)∧H'=H) :
  aB Tryz.prog 91 [encI l,.fn f [] cap] H fun r H'=>r=gb (l.any p)∧H'=H:=by
 refine aB.of mixed fY ?_
 simp (disch:=omega) only [↓wr,seval,wq,ah,ag,ak,aa,ab,af,ai,ae,eA]
 refine aF.eJ ((Kq l hl f cap p H hf).mono ?_)
 rintro r H2 ⟨rfl,rfl⟩
 simp (disch:=omega) only [↓wr,seval,wq,ah,ag,ak,aa,ab,af,ai,ae]
 rw[← qb p l 0 (Int.le_refl _)]
theorem LC {H:View} {W:Nat} {f0 f1 f2 f3 f4 f6 f7 f8 f9:V} {null:List Bool} (hW:H W=.arr 10 [[f0,f1,f2,f3,f4,bG null,f6,f7,f8,f9]]) (s:Int) (hs:cm s∧(s < 0→-1 - s < null.length)) :
  aB Tryz.prog 172 [gi s,.aL [.ptr W 0 0] 0] H fun r H'=>r=gb (!(if 0≤s then false else null.getD (-1 - s).toNat false))∧H'=H:=by
 obtain ⟨hs1,hs2⟩:=hs
 unfold cm at hs1
 refine aB.of mixed sB ?_
 simp (disch:=omega) only [↓wr,seval,wq,ah,ag,ak,aa,ab,af,ai,ae,oI]
 refine aq.dec (fun h0=>?_) (fun h0=>?_)
 ·simp (disch:=omega) only [↓wr,seval,wq,ah,ag,ak,aa,ab,af,ai,ae]
  rw[Ra h0]; rfl
 ·have hn:null[(-1 - s).toNat]?=some (null.getD (-1 - s).toNat false):=getD_some (by have:=hs2 (by omega); omega)
  generalize null.getD (-1 - s).toNat false=b at hn ⊢
  simp (disch:=omega) only [↓wr,seval,wq,ah,ag,ak,aa,ab,af,ai,ae,hW,bG,Rc,hn,Rk]
  rw[Q9 h0]
theorem NF {H:View} {W:Nat} {f0 f1 f2 f3 f4 f6 f7 f8 f9:V} {null:List Bool} (hW:H W=.arr 10 [[f0,f1,f2,f3,f4,bG null,f6,f7,f8,f9]]) (l:List Int) (hl:aV l) (hs:∀ s∈l,cm s∧(s < 0→-1 - s < null.length)) :
  aB Tryz.prog 121 [.ptr W 0 0,encI l] H fun r H'=>r=gb (bZ l null false)∧H'=H:=by
 refine aB.of mixed uP ?_
 simp (disch:=omega) only [↓wr,seval,wq,ah,ag,ak,aa,ab,af,ai,ae,qx]
 refine aF.eJ ((FH l hl 172 [.aL [.ptr W 0 0] 0] (fun s=>!(if 0≤s then false else null.getD (-1 - s).toNat false)) H (fun s h=>LC hW s (hs s h))).mono ?_)
 rintro r H2 ⟨rfl,rfl⟩
 simp (disch:=omega) only [↓wr,seval,wq,ah,ag,ak,aa,ab,af,ai,ae]
 rw[bZ,List.not_any_eq_all_not]
 simp
theorem Cz (t:Int):aG Tryz.prog 120 [encI [t]] (gw (dI t)):=by
 refine aG.val (by intro v hv; simp at hv; subst hv; exact gD _) fun H=>?_
 refine aB.of mixed FQ ?_
 simp (disch:=omega) only [↓wr,seval,wq,ah,ag,ak,aa,ab,af,ai,ae,D4,encI]
 refine bg.up 1 (fun i T H'=>T 2=gw (if i=0 then 0 else dI t)∧T 5=encI [t]∧T 6=gi 1∧T 7=gi i) ⟨rfl,rfl,rfl,rfl⟩ ?_
 rintro i k T H' hk ⟨t2,t5,t6,t7⟩
 simp (disch:=omega) only [↓wr,seval,wq,ah,ag,ak,aa,ab,af,ai,ae,zB,t2,t5,t6,t7]
 refine aq.dec (fun hc=>?_) (fun hc=>?_)
 ·have hi:i=0:=by omega
  subst hi
  simp (disch:=omega) only [↓wr,seval,wq,ah,ag,ak,aa,ab,af,ai,ae,t2,t5,t6,t7,encI,show ([[gi t]]:List (List V))[0]?=some [gi t] from rfl]
  refine aF.pure (JE t) (by kernel_rfl) ?_
  simp (disch:=omega) only [↓wr,↓reduceIte,wq,ah,ag,ak,aa,ab,af,ai,ae,Nat.reduceEqDiff,Nat.reduceAdd,Nat.reduceLT,Nat.reduceLeDiff,Int.reduceNeg,Int.reduceToNat,reduceCtorEq,t2,t5,t6,t7,qq]
  exact aQ hk (by omega) ⟨by show gw ((0:BV) ||| dI t)=gw (dI t); rw[show ((0:BV) ||| dI t)=dI t by simp],t5,t6,rfl⟩
 ·have hi:i≠0:=by omega
  rw[Q9 hi] at t2
  simp (disch:=omega) only [↓wr,seval,wq,ah,ag,ak,aa,ab,af,ai,ae,t2]
section
variable {κ:Type} [BEq κ] [LawfulBEq κ] {kv:κ→V} {P:Program} {T:Env} {H:View} {kt et t ty:TypeId}
theorem QD {K:V→View→Prop} {w:bX (T,H,K)} {x i y:Operand} {id c:Nat} {m:bF κ} {k:κ} {v:V} (hm:cT P t=some (kt,et)) (hk:Ei P kt kv)
  (hx:ev T x=.mp id) (hi:ev T i=kv k) (hy:ev T y=v) (hH:H id=.map (bw kv m) c) (hb:fH m c)
  (h:∀ c',fH (bu k v c m) c'→K .any (H.set id (.map (bw kv (bu k v c m)) c'))):jD P (.mapUpdate t x i y) ty T H K w:=by
 intro n _
 have hf:=hk.find k false m
 have hg:=lF (kv:=kv) k m
 cases hj:fT k m with
 | some j =>
  rw[hj] at hg hf
  obtain ⟨z,h1,h2,h3,h4,h5,h6⟩:=hg
  refine ⟨.any,.ep id (.map ((bw kv m).set j (kv k,v,z.2.2)) c),[id],?_,?_⟩
  ·simp only[sI,bV,oper,er,hm,hx,hi,hy,hH,hf,h5,hk.same k,if_true]
  ·rw[(h6 v c).1]; exact h c (hb.MX h4 v c)
 | none =>
  rw[hj] at hg hf
  refine ⟨.any,.ep id (.map (bw kv m ++ [(kv k,v,c)]) (c+1)),[id],?_,?_⟩
  ·simp only[sI,bV,oper,er,hm,hx,hi,hy,hH,hf]
  ·rw[(hg.2.2 v c).1]; exact h (c+1) (hb.put k v)
end
def dY (x:Int × Int):V:=.agg [.val (.int .i64 x.1),.val (.int .i64 x.2)]
def nz (x:Int × Int):Value:=.agg #[.int .i64 x.1,.int .i64 x.2]
theorem AQ (x:Int × Int):cJ (dY x)=some (nz x):=rfl
theorem CN:∀ m:bF (Int × Int),gv (bw dY m)=some (m.map fun x=>{ key:=nz x.1,val:=.nilFunc,born:=x.2.2 })
 | []=>rfl
 | x :: r=>by
  have:=CN r
  simp only[bw] at this
  simp[bw,gv,AQ,this]
structure Nc (P:Program) (kt:TypeId):Prop where
 ty:∃ f0 f1:Field,P.underlying kt=some (.struct #[f0,f1])∧f0.name≠ "_" ∧ f1.name≠ "_" ∧ P.underlying f0.type=some (.int .i64)∧P.underlying f1.type=some (.int .i64)∧f0.offset=0∧f1.offset=1
 held:P.stoodInHeld kt=false
theorem wU {P:Program} {kt:TypeId} (h:Nc P kt):Ei P kt dY where
 same:=fun k=>by simp[sameKey,AQ,nz,Instr.sameBits]
 find:=by
  obtain ⟨f0,f1,hu,n0,n1,u0,u1,o0,o1⟩:=h.ty
  have heq:∀ a b:Int × Int,bp P (Op.equal kt (nz a) (nz b))=some (a == b):=by
   intro a b
   have hf:fu P 9998 #[.int .i64 a.1,.int .i64 a.2] #[.int .i64 b.1,.int .i64 b.2] [f0,f1] ((a.1 == b.1) && ((a.2 == b.2) && true)) :=
    .int f0 _ _ .i64 _ _ n0 u0 (by rw[o0]; rfl) (by rw[o0]; rfl) (.int f1 _ _ .i64 _ _ n1 u1 (by rw[o1]; rfl) (by rw[o1]; rfl) .nil)
   rw[nz,nz,qC hu h.held hf]
   congr 1
   rw[Si]
   simp only[Rg,Sd,and_true]
   cases a; cases b; simp
  have hask:∀ (k:Int × Int) (m:bF (Int × Int)) (i:Nat),bp P (Instr.findAsking kt (nz k) (m.map fun x=>{ key:=nz x.1,val:=.nilFunc,born:=x.2.2 }) i)=some ((fT k m).map fun j=>(i+j,.nilFunc)):=by
   intro k m
   induction m with
   | nil=>intro i; rfl
   | cons x r ih =>
    intro i
    simp only[RE,Instr.findAsking,aW,heq,RK,fT]
    cases hk:k == x.1 with
    | true=>simp[uV]
    | false =>
     simp only[Ru,if_false,ih (i+1),Option.map_map]
     congr 2
     funext j
     simp only[Function.comp]
     congr 1
     omega
  have hint:∀ (e:Bool) (ft:TypeId) (v:Value),P.underlying ft=some (.int .i64)→bp P (Instr.checkKey e 9999 ft v)=some ():=fun e ft v hft=>tz hft trivial e 9998 v
  have hchk:∀ (k:Int × Int) (e:Bool),bp P (Instr.checkKey e 10000 kt (nz k))=some ():=by
   intro k e
   unfold Instr.checkKey nz
   rw[aW,dB hu,RK]
   have p0:=iO (P:=P) u0 (.inr ⟨_,rfl⟩) #[.int .i64 k.1,.int .i64 k.2] f0.offset (v:=.int .i64 k.1) (by rw[o0]; rfl)
   have p1:=iO (P:=P) u1 (.inr ⟨_,rfl⟩) #[.int .i64 k.1,.int .i64 k.2] f1.offset (v:=.int .i64 k.2) (by rw[o1]; rfl)
   simp only[← Array.forIn_toList,List.forIn_cons,List.forIn_nil,Ra n0,Ra n1,aW,p0,p1,hint e _ _ u0,hint e _ _ u1,RK,uV]
  intro k e m
  have hu':bp P (underlying kt)=some _:=dB hu
  simp only[kV,AQ,CN,aW,hchk,RK]
  have:bp P (Instr.findKey kt (nz k) (m.map fun x=>{ key:=nz x.1,val:=.nilFunc,born:=x.2.2 }))=some ((fT k m).map fun j=>(0+j,.nilFunc)):=by
   unfold Instr.findKey
   rw[aW,hu',RK]
   cases m with
   | nil=>rfl
   | cons x r=>exact hask k (x :: r) 0
  rw[this]
  cases fT k m with
  | none=>rfl
  | some j=>simp
end Gv
