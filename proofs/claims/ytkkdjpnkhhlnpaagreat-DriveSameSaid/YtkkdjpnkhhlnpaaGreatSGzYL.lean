/-
  Part 12 of the proof: what the machine does and what the functions answer.
  Conditions: those that each lemma names.
-/
import Derived.Test.YtkkdjpnkhhlnpaaGreatSGzYK
set_option linter.unusedSimpArgs false
set_option linter.unusedVariables false
set_option maxRecDepth 100000
namespace Gv
open Go Go.Proofs
def dt (g:ay) (t:dx) (w:List Int) (us ur:V):List V:=[.aX (g.ax.map dP),.aX (g.aA.map fun s=>[gs s]),.aX (g.rules.map bP),gi g.start,.aX (t.aK.map fun r=>[j3 r]),.aX (t.gotos.map fun r=>[encI r]),encI w,us,ur]
def PB (H:View) (c:Nat) (g:ay) (t:dx) (w st rs:List Int) (A:V) (al:List Int):Prop:=∃ us ur,H c=.arr 9 [dt g t w us ur]∧gj H us st∧bc H ur 1 (bA rs)∧bc H A 1 (bA al)∧(∀ id,owner us=some id→owner ur≠some id)∧(∀ id,owner A=some id→owner us≠some id∧owner ur≠some id)
def pN:SF:=⟨.seq (ak [aI 2 0]) <|
  .seq (ak [aa 3 0,bz 4 3,au 5 7 4,ao 6 5,aa 7 0,bz 8 7,au 9 7 8,ao 10 9,aM 11 10,az 12 .sub 11 1,aS 13 1 6 12,ao 14 13,aa 2 14]) <|
  .ret,
  [.tmp 2],15⟩
theorem vF:aY Tryz.prog 103 []=some pN:=by kernel_rfl
def mo:SF:=⟨.seq (ak [aZ 4 false]) <|
  .seq (ak [aa 8 0,bz 9 8,au 10 0 9,au 11 2 10,ao 12 11,aa 13 1,aS 14 3 12 13,aO 15 3 14,((some 5),.op (.alloc [(.val (.int .i64 0)),(.emp 1),(.val (.int .i64 0))])),(none,.op (.store 3 (.tmp 5) (.tmp 15)))]) <|
  .seq (ak [aa 16 0,bz 17 16,au 18 7 17,ao 19 18,aM 20 19,au 21 1 5,ao 22 21,aM 23 22,aR 24 .sub 20 23,aa 6 24]) <|
  .seq (.seq (ak [aa 25 6,az 26 .lss 25 1]) <|
  .cond (.tmp 26) (.seq (ak [aZ 4 false]) <|
  .ret) (.skip)) <|
  .seq (ak [aa 27 0,aa 28 0,bz 29 28,au 30 7 29,ao 31 30,aa 32 6,((some 33),.op (.slice 1 (.tmp 31) none (some (.tmp 32)))),bz 34 27,au 35 7 34,(none,.op (.store 1 (.tmp 35) (.tmp 33)))]) <|
  .seq (.region true [⟨none,[aa 36 0,bz 37 36,au 38 4 37,au 39 1 38,ao 40 39,aa 41 0,aQ 42 103 [41],aS 43 1 40 42,ao 44 43,au 45 0 5,ao 46 45,aS 47 1 44 46,ao 48 47,aa 7 48]⟩]) <|
  .seq (.seq (ak [aa 49 7,az 50 .lss 49 0]) <|
  .cond (.tmp 50) (.seq (ak [aZ 4 false]) <|
  .ret) (.skip)) <|
  .seq (.kH [(62,56)] [⟨none,[aa 51 0,aa 52 0,aa 53 0,bz 54 53,au 55 7 54,ao 56 55,aa 57 7,((some 58),.op (.bh 1 1 [(.val (.int .i64 0))] [(0,(.tmp 57))])),((some 59),.op (.app 1 8 (.tmp 56) (.tmp 58))),aa 60 0,bz 61 60,au 62 8 61,ao 63 62,aa 64 1,((some 65),.op (.bh 1 1 [(.val (.int .i64 0))] [(0,(.tmp 64))])),((some 66),.op (.app 1 8 (.tmp 63) (.tmp 65))),bz 67 51,au 68 7 67,(none,.op (.store 1 (.tmp 68) (.tmp 59))),bz 69 52,au 70 8 69,(none,.op (.store 1 (.tmp 70) (.tmp 66)))]⟩]) <|
  .seq (ak [aZ 4 true]) <|
  .ret,
  [.tmp 4],71⟩
theorem sF:aY Tryz.prog 104 [100000]=some mo:=by kernel_rfl
def nG:SC :=
  .seq (.skip) <|
  .seq (.region true [⟨none,[aa 21 0,bz 22 21,au 23 4 22,au 24 0 23,ao 25 24,aa 26 0,aQ 27 103 [26],aS 28 1 25 27,ao 29 28,aa 30 5,aa 31 2,aS 32 1 30 31,ao 33 32,aS 34 2 29 33,aO 35 2 34,((some 6),.op (.alloc [(.val (.int .i64 0)),(.val (.int .i64 0))])),(none,.op (.store 2 (.tmp 6) (.tmp 35)))]⟩]) <|
  .seq (ak [aa 36 2,aa 37 0,bz 38 37,au 39 6 38,ao 40 39,aM 41 40,aR 42 .eql 36 41,aa 7 42]) <|
  .seq (.block 0 (.seq (.region false [⟨none,[au 45 0 6,ao 46 45,az 47 .eql 46 3,aa 48 47]⟩,⟨(some (48,true)),[aa 49 7]⟩,⟨none,[bF 50 48 49,aa 44 50]⟩]) <|
  .cond (.tmp 44) (.seq (ak [aa 51 2,aa 2 51,aI 3 0]) <|
  .ret) (.seq (.seq (ak [au 53 0 6,ao 54 53,az 55 .eql 54 2,aa 52 55]) <|
  .cond (.tmp 52) (.skip) (.region false [⟨none,[au 56 0 6,ao 57 56,az 58 .eql 57 1,aa 59 58]⟩,⟨(some (59,true)),[aa 60 7,bX 61 60]⟩,⟨none,[bF 62 59 61,aa 52 62]⟩])) <|
  .cond (.tmp 52) (.skip) (.seq (ak [aa 43 2,aa 2 43,aI 3 3]) <|
  .ret)))) <|
  .seq (.seq (ak [aa 63 4,az 64 .eql 63 2000]) <|
  .cond (.tmp 64) (.seq (ak [aa 65 2,aa 2 65,aI 3 14]) <|
  .ret) (.skip)) <|
  .seq (ak [aa 66 4,az 67 .add 66 1,aa 4 67]) <|
  .seq (.seq (ak [au 68 0 6,ao 69 68,az 70 .eql 69 2]) <|
  .cond (.tmp 70) (.seq (.seq (ak [aa 71 0,au 72 1 6,ao 73 72,aQ 74 104 [71,73],bX 75 74]) <|
  .cond (.tmp 75) (.seq (ak [aa 76 2,aa 2 76,aI 3 3]) <|
  .ret) (.skip)) <|
  .goto 0) (.skip)) <|
  .seq (ak [aa 77 0,aa 78 0,bz 79 78,au 80 7 79,ao 81 80,au 82 1 6,ao 83 82,((some 84),.op (.bh 1 1 [(.val (.int .i64 0))] [(0,(.tmp 83))])),((some 85),.op (.app 1 8 (.tmp 81) (.tmp 84))),bz 86 77,au 87 7 86,(none,.op (.store 1 (.tmp 87) (.tmp 85)))]) <|
  .seq (ak [aa 88 2,az 89 .add 88 1,aa 2 89]) <|
  .goto 0
def qp:SF:=⟨.seq (ak [aI 2 0,aI 3 0]) <|
  .scope 0 (.seq (ak [aI 4 0]) <|
  .seq (ak [aa 8 0,bz 9 8,au 10 6 9,ao 11 10,aa 12 0,bz 13 12,au 14 0 13,au 15 0 14,ao 16 15,aM 17 16,((some 18),.op (.bh 1 1 [(.val (.int .i64 0))] [(0,(.tmp 17))])),((some 19),.op (.bh 2 1 [(.emp 1)] [(0,(.tmp 11)),(1,(.tmp 18))])),aQ 20 102 [19],aa 5 20]) <|
  .seq (.label 0) <|
  .seq (.region true [⟨none,[aa 21 0,bz 22 21,au 23 4 22,au 24 0 23,ao 25 24,aa 26 0,aQ 27 103 [26],aS 28 1 25 27,ao 29 28,aa 30 5,aa 31 2,aS 32 1 30 31,ao 33 32,aS 34 2 29 33,aO 35 2 34,((some 6),.op (.alloc [(.val (.int .i64 0)),(.val (.int .i64 0))])),(none,.op (.store 2 (.tmp 6) (.tmp 35)))]⟩]) <|
  .seq (ak [aa 36 2,aa 37 0,bz 38 37,au 39 6 38,ao 40 39,aM 41 40,aR 42 .eql 36 41,aa 7 42]) <|
  .seq (.block 0 (.seq (.region false [⟨none,[au 45 0 6,ao 46 45,az 47 .eql 46 3,aa 48 47]⟩,⟨(some (48,true)),[aa 49 7]⟩,⟨none,[bF 50 48 49,aa 44 50]⟩]) <|
  .cond (.tmp 44) (.seq (ak [aa 51 2,aa 2 51,aI 3 0]) <|
  .ret) (.seq (.seq (ak [au 53 0 6,ao 54 53,az 55 .eql 54 2,aa 52 55]) <|
  .cond (.tmp 52) (.skip) (.region false [⟨none,[au 56 0 6,ao 57 56,az 58 .eql 57 1,aa 59 58]⟩,⟨(some (59,true)),[aa 60 7,bX 61 60]⟩,⟨none,[bF 62 59 61,aa 52 62]⟩])) <|
  .cond (.tmp 52) (.skip) (.seq (ak [aa 43 2,aa 2 43,aI 3 3]) <|
  .ret)))) <|
  .seq (.seq (ak [aa 63 4,az 64 .eql 63 2000]) <|
  .cond (.tmp 64) (.seq (ak [aa 65 2,aa 2 65,aI 3 14]) <|
  .ret) (.skip)) <|
  .seq (ak [aa 66 4,az 67 .add 66 1,aa 4 67]) <|
  .seq (.seq (ak [au 68 0 6,ao 69 68,az 70 .eql 69 2]) <|
  .cond (.tmp 70) (.seq (.seq (ak [aa 71 0,au 72 1 6,ao 73 72,aQ 74 104 [71,73],bX 75 74]) <|
  .cond (.tmp 75) (.seq (ak [aa 76 2,aa 2 76,aI 3 3]) <|
  .ret) (.skip)) <|
  .goto 0) (.skip)) <|
  .seq (ak [aa 77 0,aa 78 0,bz 79 78,au 80 7 79,ao 81 80,au 82 1 6,ao 83 82,((some 84),.op (.bh 1 1 [(.val (.int .i64 0))] [(0,(.tmp 83))])),((some 85),.op (.app 1 8 (.tmp 81) (.tmp 84))),bz 86 77,au 87 7 86,(none,.op (.store 1 (.tmp 87) (.tmp 85)))]) <|
  .seq (ak [aa 88 2,az 89 .add 88 1,aa 2 89]) <|
  .goto 0) nG,
  [.tmp 2,.tmp 3],90⟩
theorem v7:aY Tryz.prog 60 []=some qp:=by kernel_rfl
def xV:SF:=⟨.seq (ak [bW 3 0,bW 4 1,((some 6),.op (.bo (.val (.emp 1)))),aI 7 0,aI 8 0]) <|
  .seq (.seq (.region false [⟨none,[aO 12 4 3,aa 13 2,aQ 14 53 [12,13],bX 15 14,aa 16 15]⟩,⟨(some (16,false)),[aO 17 4 3,aO 18 2 4,aQ 19 46 [17,18],bX 20 19]⟩,⟨none,[bB 21 16 20]⟩]) <|
  .cond (.tmp 21) (.seq (ak [((some 6),.op (.bo (.val (.emp 1)))),aI 7 0,aI 8 1]) <|
  .ret) (.skip)) <|
  .seq (ak [aO 22 4 3,aO 23 2 4,aa 24 2,((some 25),.op (.bh 1 1 [(.val (.int .i64 0))] [(0,(.val (.val (.int .i64 0))))])),((some 26),.op (.build [(.emp 1),(.emp 1),(.emp 1),(.val (.int .i64 0)),(.emp 1),(.emp 1),(.emp 1),(.emp 1),(.emp 1)] [(0,4,(.tmp 22)),(4,2,(.tmp 23)),(6,1,(.tmp 24)),(7,1,(.tmp 25))])),((some 27),.op (.box (.tmp 26))),aa 9 27]) <|
  .seq (ak [aa 29 9,aQ 30 60 [29],aa 28 30,bH 31 0 28,bH 32 1 28,aa 10 31,aa 11 32]) <|
  .seq (.seq (ak [aa 33 11,az 34 .neq 33 0]) <|
  .cond (.tmp 34) (.seq (ak [aa 35 10,aa 36 11,((some 6),.op (.bo (.val (.emp 1)))),aa 7 35,aa 8 36]) <|
  .ret) (.skip)) <|
  .seq (ak [aa 37 9,bz 38 37,au 39 8 38,ao 40 39,aa 41 10,aa 6 40,aa 7 41,aI 8 0]) <|
  .ret,
  [.tmp 6,.tmp 7,.tmp 8],42⟩
theorem AP:aY Tryz.prog 19 [3,4]=some xV:=by kernel_rfl
theorem Il {P:Program} {c:SC} {T:Env} {H:View} {Q:Exit→Env→View→Prop} (h:wS P (.seq .skip c) T H Q):wS P c T H Q:=h
theorem gj.ON {H:View} {u:V} {l:List Int} (h:gj H u l) {q z:Nat} {e:List (List V)} {o:cU} (hq:H q=.arr z e) (hz:z≠1):gj (H.set q o) u l :=
  h.keep fun id es' hid=>by
    have:id≠q:=by rintro rfl; rw[hq] at hid; simp at hid; exact hz hid.1
    simp[View.set,this]
theorem Jq (c:Nat) (g:ay) (t:dx) (w st:List Int) (us ur:V) (H:View) (hc:H c=.arr 9 [dt g t w us ur]) (hus:gj H us st) (hst:0 < st.length) (hs:st.length≤100000):aC Tryz.prog 103 [.ptr c 0 0] H fun r H'=>H'=H∧r=gi (cm st):=by
  refine aC.of mixed vF ?_
  obtain ⟨sid,soff,ses,hu1,hu2,hu3,hu4⟩:=hus.all
  have htope:=Si hu4 hst
  subst hu1
  simp (disch:=omega) only [↓wr,↓reduceIte,wq,ah,ag,aj,Nat.reduceEqDiff,Nat.reduceAdd,Nat.reduceLT,Nat.reduceLeDiff,reduceCtorEq,pN,hc,dt,hu2,htope]
  exact ⟨by omega,by omega⟩
theorem aE.same {P:Program} {q:Bool} {f:FuncId} {vs:List V} {H:View} {K:V→View→Prop} {w:cI (H,K)} {v:V} (hc:aC P f vs H fun r H'=>H'=H∧r=v) (hk:K v H):aE P q f vs H K w:=by
  unfold aE
  cases q with
  | true =>
    simp only[if_true]
    exact (hc.mono fun r H' h=>⟨fun id _=>by rw[h.1],by rw[h.1,h.2]; exact hk⟩).OE
  | false =>
    simp only[Bool.false_eq_true,if_false]
    exact hc.mono fun r H' h=>by rw[h.1,h.2]; exact hk
set_option maxHeartbeats 8000000 in
theorem Lv (c:Nat) (g:ay) (hf:g.dU) (t:dx) (htf:kK g t) (w st rs:List Int) (A:V) (al:List Int) (H:View) (hP:PB H c g t w st rs A al) (hst:Ep t st) (hs:st.length≤100000) (hr:rs.length≤100000) (k:Int) (hk0:0≤k) (hk:k < g.rules.length) :
    aC Tryz.prog 104 [.ptr c 0 0,gi k] H fun r H' =>
      (st.length≤(bk g k).right.length→r=gb false)∧(¬ st.length≤(bk g k).right.length→jb t (cm (st.take (st.length - (bk g k).right.length))) (bk g k).left = -1→r=gb false) ∧
      (¬ st.length≤(bk g k).right.length→jb t (cm (st.take (st.length - (bk g k).right.length))) (bk g k).left≠-1→r=gb true∧PB H' c g t w (st.take (st.length - (bk g k).right.length) ++ [jb t (cm (st.take (st.length - (bk g k).right.length))) (bk g k).left]) (rs ++ [k]) A al):=by
  refine aC.of mixed sF ?_
  obtain ⟨us,ur,hc,hus,hur,hA,hd1,hd2⟩:=hP
  obtain ⟨sid,soff,ses,hu1,hu2,hu3,hu4⟩:=hus.all
  have hst1:=List.length_pos_iff.2 hst.1
  have hR:g.rules[k.toNat]?=some (bk g k):=by unfold bk; exact getD_some (by omega)
  have hmr:=List.mem_of_getElem? hR
  have hr6:=hf.right _ hmr
  have hlf:=hf.left _ hmr
  generalize bk g k=R at hR hmr hr6 hlf
  have hcs:¬ c=sid:=by rintro rfl; rw[hc] at hu2; simp at hu2
  simp (disch:=omega) only [↓wr,↓reduceIte,wq,ah,ab,Nat.reduceEqDiff,Nat.reduceAdd,Nat.reduceLT,Nat.reduceLeDiff,Int.reduceNeg,reduceCtorEq,mo,hc,dt,List.getElem?_map,hR,bP]
  intro b hb
  have hbc:¬ c=b:=by rintro rfl; rw[hc] at hb; simp at hb
  refine ⟨rfl,?_⟩
  rw[set_set]
  have hc5:(H.set b (.arr 3 [[gi R.left,encI R.right,gi R.prec]])) c=.arr 9 [dt g t w us ur]:=by simp[View.set,hbc,hc]
  have hb5:(H.set b (.arr 3 [[gi R.left,encI R.right,gi R.prec]])) b=.arr 3 [[gi R.left,encI R.right,gi R.prec]]:=by simp[View.set]
  have hus5:=hus.fresh hb (o:=.arr 3 [[gi R.left,encI R.right,gi R.prec]])
  have hur5:=hur.fresh hb (o:=.arr 3 [[gi R.left,encI R.right,gi R.prec]])
  have hA5:=hA.fresh hb (o:=.arr 3 [[gi R.left,encI R.right,gi R.prec]])
  generalize H.set b (.arr 3 [[gi R.left,encI R.right,gi R.prec]])=H5 at hc5 hb5 hus5 hur5 hA5
  simp only[dt] at hc5
  simp (disch:=omega) only [↓wr,↓reduceIte,wq,ag,aj,Nat.reduceEqDiff,Nat.reduceAdd,Nat.reduceLT,Int.reduceNeg,hbc,hb5,hus5.len,encI]
  refine av.dec (fun hlen=>?_) (fun hlen=>?_)
  · simp (disch:=omega) only [↓wr,↓reduceIte,wq,Int.reduceNeg,reduceCtorEq]
    exact fun h=>absurd (show st.length≤R.right.length by omega) h
  obtain ⟨m2,hm2⟩:∃ m2,m2=st.length - R.right.length:=⟨_,rfl⟩
  have em2:(st.length:Int) - R.right.length=m2:=by omega
  rw[← hm2]
  have hm2l:m2≤st.length:=by omega
  have htk:gj H5 (.sl sid soff m2 1) (st.take m2):=(hu1 ▸ hus5).take hm2l
  have hin2:Ep t (st.take m2):=hst.take (by omega)
  have hl2:(st.take m2).length=m2:=by simp; omega
  have htop2:=hin2.2 _ (A8 hin2.1)
  obtain ⟨hgo1,hgo2⟩:=htf.go (s:=cm (st.take m2)) (x:=R.left) htop2 hlf
  have hgr:t.gotos[(cm (st.take m2)).toNat]?=some (t.gotos.getD (cm (st.take m2)).toNat []):=getD_some (by have:=htf.len; omega)
  generalize t.gotos.getD (cm (st.take m2)).toNat []=gr at hgr hgo2
  simp (disch:=omega) only [↓wr,↓reduceIte,wq,ab,Nat.reduceEqDiff,Nat.reduceAdd,Nat.reduceLT,Nat.reduceLeDiff,Int.reduceNeg,reduceCtorEq,hc5,em2,hu1,Ak hm2l]
  have hc6:(H5.set c (.arr 9 [dt g t w (.sl sid soff m2 1) ur])) c=.arr 9 [dt g t w (.sl sid soff m2 1) ur]:=by simp[View.set]
  have hb6:(H5.set c (.arr 9 [dt g t w (.sl sid soff m2 1) ur])) b=.arr 3 [[gi R.left,encI R.right,gi R.prec]]:=by simp[View.set,Ne.symm hbc,hb5]
  have htk6:=htk.ON (o:=.arr 9 [dt g t w (.sl sid soff m2 1) ur]) hc5 (by omega)
  have hur6:=hur5.other (o:=.arr 9 [dt g t w (.sl sid soff m2 1) ur]) (oZ hur5 hc5 (by omega))
  have hA6:=hA5.other (o:=.arr 9 [dt g t w (.sl sid soff m2 1) ur]) (oZ hA5 hc5 (by omega))
  refine aE.same (Jq c g t w (st.take m2) (.sl sid soff m2 1) ur _ hc6 htk6 (by omega) (by omega)) ?_
  generalize hH6:H5.set c (.arr 9 [dt g t w (.sl sid soff m2 1) ur])=H6 at hc6 hb6 htk6 hur6 hA6
  simp only[dt] at hH6
  rw[hH6]
  have hdu:∀ id,owner (V.sl sid soff m2 1)=some id→owner ur≠some id:=fun id h=>hd1 id (by rw[hu1]; exact h)
  have hdA:∀ id,owner A=some id→owner (V.sl sid soff m2 1)≠some id∧owner ur≠some id:=fun id h=>⟨fun e=>(hd2 id h).1 (by rw[hu1]; exact e),(hd2 id h).2⟩
  generalize jb t (cm (st.take m2)) R.left=to at hgo1 hgo2 ⊢
  simp (disch:=omega) only [↓wr,↓reduceIte,wq,ag,Nat.reduceEqDiff,Nat.reduceAdd,Nat.reduceLT,Int.reduceNeg,hb6,List.getElem?_map,hgr,hgo2,encI]
  refine av.dec (fun hto=>?_) (fun hto=>?_)
  · simp (disch:=omega) only [↓wr,↓reduceIte,wq,Int.reduceNeg,reduceCtorEq]
    exact fun _ h=>absurd (by omega) h
  have hu7:aU (V.sl sid soff m2 1)=true:=rfl
  simp only[dt] at hc6
  simp (disch:=omega) only [↓wr,↓reduceIte,wq,af,Nat.reduceEqDiff,Nat.reduceAdd,Nat.reduceLT,Int.reduceNeg,reduceCtorEq,hc6]
  intro q hq
  have hcq:¬ c=q:=by rintro rfl; rw[hc6] at hq; simp at hq
  have hc7:(H6.set q (.arr 1 [[gi to]])) c=.arr 9 [dt g t w (.sl sid soff m2 1) ur]:=by simp[View.set,hcq,hc6,dt]
  have htk7:=htk6.fresh hq (o:=.arr 1 [[gi to]])
  have hur7:=hur6.fresh hq (o:=.arr 1 [[gi to]])
  have hA7:=hA6.fresh hq (o:=.arr 1 [[gi to]])
  have hap:∀ i j,fC (.ptr c i j) (.sl sid soff m2 1)=True:=fun i j=>by simp[fC,hcs]
  have hoc:owner (V.sl sid soff m2 1)≠some c:=by simp[owner]; exact fun h=>hcs h.symm
  generalize V.sl sid soff m2 1=u7 at htk7 hdu hdA hap hoc hc7 ⊢
  simp (disch:=omega) only [↓wr,↓reduceIte,wq,Nat.reduceEqDiff,Int.reduceNeg,bp]
  refine Cs (xs:=[to]) htk7 (by simp) (by unfold aJ; simp; omega) (by unfold aJ; simp; omega) ?_
  intro us2 H7 o2 l2
  have hur8:=hur7.left l2 (fun id h1 h2=>hdu id h2 h1)
  have hA8:=hA7.left l2 (fun id h1 h2=>(hdA id h1).1 h2)
  have hc8:H7 c=.arr 9 [dt g t w u7 ur]:=by rw[(l2 c (by rw[hc7]; simp) hoc).1,hc7]
  have hd8:∀ id,owner us2=some id→owner ur≠some id:=fun id h1 h2=>(l2 id (by rw[(hur7.live h2).1]; simp) (fun e=>hdu id e h2)).2 h1
  have hdA8:∀ id,owner A=some id→owner us2≠some id:=fun id h=>(l2 id (by rw[(hA7.live h).1]; simp) (hdA id h).1).2
  simp only[dt] at hc8
  simp (disch:=omega) only [↓wr,↓reduceIte,wq,af,Nat.reduceEqDiff,Nat.reduceAdd,Nat.reduceLT,Int.reduceNeg,reduceCtorEq,hc8]
  intro q2 hq2
  have hcq2:¬ c=q2:=by rintro rfl; rw[hc8] at hq2; simp at hq2
  have o3:=o2.fresh hq2 (o:=.arr 1 [[gi k]])
  have hur9:=hur8.fresh hq2 (o:=.arr 1 [[gi k]])
  have hA9:=hA8.fresh hq2 (o:=.arr 1 [[gi k]])
  have hc9:(H7.set q2 (.arr 1 [[gi k]])) c=.arr 9 [dt g t w u7 ur]:=by simp[View.set,hcq2,hc8,dt]
  have hcu:=hur9.cells
  simp (disch:=omega) only [↓wr,↓reduceIte,wq,Nat.reduceEqDiff,Int.reduceNeg,bp]
  refine yq hur9 (by simp) (by simp[aU]) (by unfold aJ; simp; omega) (by unfold aJ; simp; omega) ?_
  intro ur2 H8 o4 l4
  have hcr:owner ur≠some c:=oZ hur9 hc9 (by omega)
  have hc10:H8 c=.arr 9 [dt g t w u7 ur]:=by rw[(l4 c (by rw[hc9]; simp) hcr).1,hc9]
  have o5:=o3.left l4 hd8
  have hA10:=hA9.left l4 (fun id h1 h2=>(hdA id h1).2 h2)
  have hdd:∀ id,owner us2=some id→owner ur2≠some id:=fun id h1 h2=>(l4 id (by rw[(o3.live h1).1]; simp) (fun e=>hd8 id h1 e)).2 h2
  have hdA10:∀ id,owner A=some id→owner ur2≠some id:=fun id h=>(l4 id (by rw[(hA9.live h).1]; simp) (hdA id h).2).2
  have c1:=o5.cells
  have c2:=o5.fA
  have c3:=o4.cells
  have c4:=o4.fA
  simp only[dt] at hc10
  simp (disch:=omega) only [↓wr,↓reduceIte,wq,ab,Nat.reduceEqDiff,Nat.reduceAdd,Nat.reduceLT,Nat.reduceLeDiff,Int.reduceNeg,reduceCtorEq,hc10,c1,c2,c3,c4,hap]
  rw[set_set]
  refine ⟨fun h=>by omega,fun _ h=>by omega,fun _ _=>⟨us2,ur2,by simp[View.set,dt],?_,?_,?_,hdd,fun id h=>⟨hdA8 id h,hdA10 id h⟩⟩⟩
  · exact (gj.own o5 (by simp)).ON hc10 (by omega)
  · have:=o4.other (o:=.arr 9 [dt g t w us2 ur2]) (oZ o4 hc10 (by omega))
    simpa [dt] using this
  · exact hA10.other (oZ hA10 hc10 (by omega))
set_option maxHeartbeats 8000000 in
theorem Rk (c:Nat) (g:ay) (hg:g.Ok) (hf:g.dU) (t:dx) (htf:kK g t) (w:List Int) (hw60:w.length≤60) (hwin:∀ x∈w,0≤x∧x < (g.ax.length:Int)) (m:Nat) (H:View) (hc:H c=.arr 9 [dt g t w (.sl m 0 1 1) (.emp 1)]) (hm:H m=.arr 1 [[gi 0]]) :
    aC Tryz.prog 60 [.ptr c 0 0] H fun r H'=>r=.bf [gi (iq g t w 2000 [0] [] 0).2.1,gi (iq g t w 2000 [0] [] 0).2.2]∧((iq g t w 2000 [0] [] 0).2.2=0→∃ us ur,H' c=.arr 9 [dt g t w us ur]∧bc H' ur 1 (bA (iq g t w 2000 [0] [] 0).1))∧((iq g t w 2000 [0] [] 0).2.2≠0→(iq g t w 2000 [0] [] 0).1=[]):=by
  refine aC.of mixed v7 ?_
  generalize hX:iq g t w 2000 [0] [] 0=X
  have hcm:¬ c=m:=by rintro rfl; rw[hc] at hm; simp at hm
  have ht24:=hf.ax
  simp (disch:=omega) only [↓wr,wq,ah,Nat.reduceLeDiff,qp]
  refine yG.intro (fun k T H'=>∃ (A:V) (st rs:List Int) (at_:Nat) (s:Int),s+k=2000∧k≤2000∧iq g t w k st rs at_=X∧Ep t st∧PB H' c g t w st rs A (w ++ [(g.ax.length:Int)])∧at_≤w.length∧st.length+k≤2001∧rs.length+k≤2000 ∧
    T 0=.ptr c 0 0∧T 2=gi at_∧T 4=gi s∧T 5=A) 2000 ?_ ?_
  · rintro k T H' ⟨A,st,rs,at_,s,hsk,hk,hrun,hst,hP,hat,hsl,hrl,t0,t2,t4,t5⟩
    obtain ⟨us,ur,hc,hus,hur,hA,hd1,hd2⟩:=hP
    have hst1:=List.length_pos_iff.2 hst.1
    have htop:=hst.2 _ (A8 hst.1)
    obtain ⟨a1,a2⟩:=LJ hwin at_
    obtain ⟨hcf,hcg⟩:=htf.cell (s:=cm st) (x:=bY g w at_) htop ⟨a1,a2⟩
    rw[mz] at hrun
    have hrow:t.aK[(cm st).toNat]?=some (t.aK.getD (cm st).toNat []):=getD_some (by omega)
    have hal:(w ++ [(g.ax.length:Int)]).getD at_ 0=bY g w at_:=by
      unfold bY
      by_cases h:at_ < w.length
      · rw[if_pos h,List.getD_eq_getElem?_getD,List.getD_eq_getElem?_getD,List.getElem?_append_left h]
      · have e:at_=w.length:=by omega
        subst e
        rw[if_neg h]; simp[List.getD_eq_getElem?_getD]
    obtain ⟨aid,hAs,hAo⟩:=hA.sl (by simp)
    have hAe:(bA (w ++ [(g.ax.length:Int)])).getD at_ []=[gi (bY g w at_)]:=by
      rw[List.getD_eq_getElem?_getD,List.getElem?_map,getD_some (d:=0) (show at_ < (w ++ [(g.ax.length:Int)]).length by simp; omega),hal]; rfl
    have hcop:=hc
    simp only[dt] at hcop
    generalize hcc:di t (cm st) (bY g w at_)=cl at hrun hcf hcg
    generalize t.aK.getD (cm st).toNat []=row at hrow hcg
    simp (disch:=omega) only [↓wr,↓reduceIte,wq,Nat.reduceAdd,Nat.reduceLT,reduceCtorEq,nG,t0,hcop]
    refine aE.same (Jq c g t w st us ur H' hc hus hst1 (by omega)) ?_
    simp (disch:=omega) only [↓wr,↓reduceIte,wq,ab,Nat.reduceEqDiff,Nat.reduceAdd,Nat.reduceLT,Nat.reduceLeDiff,reduceCtorEq,t0,t2,t5,hcop,List.getElem?_map,hrow,hcg,hAs,hAo,hAe,bC]
    refine ⟨by simp; omega,by simp; omega,fun b hb=>?_⟩
    have hbc:¬ c=b:=by rintro rfl; rw[hc] at hb; simp at hb
    rw[set_set]
    have hc5:(H'.set b (.arr 2 [[gi cl.kind,gi cl.n]])) c=.arr 9 [dt g t w us ur]:=by simp[View.set,hbc,hc]
    have hb5:(H'.set b (.arr 2 [[gi cl.kind,gi cl.n]])) b=.arr 2 [[gi cl.kind,gi cl.n]]:=by simp[View.set]
    have hus5:=hus.fresh hb (o:=.arr 2 [[gi cl.kind,gi cl.n]])
    have hur5:=hur.fresh hb (o:=.arr 2 [[gi cl.kind,gi cl.n]])
    have hA5:=hA.fresh hb (o:=.arr 2 [[gi cl.kind,gi cl.n]])
    generalize H'.set b (.arr 2 [[gi cl.kind,gi cl.n]])=H5 at hc5 hb5 hus5 hur5 hA5
    have hcop5:=hc5
    simp only[dt] at hcop5
    simp (disch:=omega) only [↓wr,↓reduceIte,wq,ag,aj,Nat.reduceEqDiff,Nat.reduceAdd,Nat.reduceLT,hbc,hb5,encI]
    have bad:∀ (Hx:View) (e:Int),e≠0→X=([],(at_:Int),e)→(V.bf [gi at_,gi e]=.bf [gi X.2.1,gi X.2.2]∧(X.2.2=0→∃ us ur,Hx c=.arr 9 [dt g t w us ur]∧bc Hx ur 1 (bA X.1))∧(X.2.2≠0→X.1=[])):=fun Hx e he hX=>by
      rw[hX]; exact ⟨rfl,fun h=>absurd h he,fun _=>rfl⟩
    refine av.eq (fun k3=>?_) (fun k3=>?_)
    · simp (disch:=omega) only [↓wr,↓reduceIte,wq,Nat.reduceEqDiff]
      refine av.eq (fun ha=>?_) (fun ha=>?_)
      · rw[if_pos ⟨k3,by omega⟩] at hrun
        simp (disch:=omega) only [↓wr,↓reduceIte,wq,ag,Nat.reduceEqDiff,reduceCtorEq,t0,t2,t4,t5]
        rw[← hrun]
        exact ⟨rfl,fun _=>⟨us,ur,hc5,hur5⟩,fun h=>absurd rfl h⟩
      · rw[if_neg (by omega),if_pos (.inr (.inl k3))] at hrun
        simp (disch:=omega) only [↓wr,↓reduceIte,wq,ag,Nat.reduceEqDiff,Nat.reduceAdd,Nat.reduceLT,hb5]
        refine av.eq (fun h=>by omega) (fun _=>?_)
        simp (disch:=omega) only [↓wr,↓reduceIte,wq,ag,Nat.reduceEqDiff,Nat.reduceAdd,Nat.reduceLT,hb5]
        refine av.eq (fun h=>by omega) (fun _=>?_)
        simp (disch:=omega) only [↓wr,↓reduceIte,wq,ag,Nat.reduceEqDiff,reduceCtorEq,t0,t2,t4,t5]
        exact bad _ 3 (by decide) hrun.symm
    simp (disch:=omega) only [↓wr,↓reduceIte,wq,ag,Nat.reduceEqDiff,Nat.reduceAdd,Nat.reduceLT,hb5]
    refine av.eq (fun k2=>?_) (fun k2=>?_)
    · have hcn:0≤cl.n∧cl.n < g.rules.length:=by rcases y8 hcf with h | h | h <;> omega
      rw[if_neg (by omega),if_neg (by omega)] at hrun
      simp (disch:=omega) only [↓wr,↓reduceIte,wq,ag,Nat.reduceEqDiff,reduceCtorEq,t0,t2,t4,t5]
      refine av.eq (fun hn=>?_) (fun hn=>?_)
      · rw[show k=0 by omega] at hrun
        simp (disch:=omega) only [↓wr,↓reduceIte,wq,Nat.reduceEqDiff,reduceCtorEq,t2]
        exact bad _ 14 (by decide) hrun.symm
      obtain ⟨q,rfl⟩:∃ q,k=q+1:=⟨k - 1,by omega⟩
      simp only at hrun
      rw[if_neg (by omega)] at hrun
      simp (disch:=omega) only [↓wr,↓reduceIte,wq,ag,Nat.reduceEqDiff,Nat.reduceAdd,Nat.reduceLT,t4,hb5]
      refine av.eq (fun _=>?_) (fun h=>absurd k2 h)
      simp (disch:=omega) only [↓wr,↓reduceIte,wq,Nat.reduceEqDiff,Nat.reduceAdd,Nat.reduceLT,reduceCtorEq,t0,hb5]
      refine aE.ff ((Lv c g hf t htf w st rs A _ H5 ⟨us,ur,hc5,hus5,hur5,hA5,hd1,hd2⟩ hst (by omega) (by omega) cl.n hcn.1 hcn.2).mono ?_)
      rintro r H6 ⟨e1,e2,e3⟩
      by_cases hl:st.length≤(bk g cl.n).right.length
      · obtain rfl:=e1 hl
        rw[if_pos hl] at hrun
        simp (disch:=omega) only [↓wr,↓reduceIte,wq,Nat.reduceEqDiff,reduceCtorEq,t2]
        exact bad _ 3 (by decide) hrun.symm
      by_cases hgo:jb t (cm (st.take (st.length - (bk g cl.n).right.length))) (bk g cl.n).left = -1
      · obtain rfl:=e2 hl hgo
        rw[if_neg hl,if_pos hgo] at hrun
        simp (disch:=omega) only [↓wr,↓reduceIte,wq,Nat.reduceEqDiff,reduceCtorEq,t2]
        exact bad _ 3 (by decide) hrun.symm
      · obtain ⟨rfl,hP6⟩:=e3 hl hgo
        rw[if_neg hl,if_neg hgo] at hrun
        simp (disch:=omega) only [↓wr,↓reduceIte,wq,Nat.reduceEqDiff,reduceCtorEq,t0,t2,t5]
        have hin2:=hst.take (k:=st.length - (bk g cl.n).right.length) (by omega)
        have hlf:=hf.left _ (List.mem_of_getElem? (show g.rules[cl.n.toNat]?=some (bk g cl.n) by unfold bk; exact getD_some (by omega)))
        have hgr:=(htf.go (hin2.2 _ (A8 hin2.1)) hlf).1
        exact ⟨q,by omega,A,_,_,at_,s+1,by omega,by omega,hrun,.app hin2.2 (by omega),hP6,hat,by simp; omega,by simp; omega,rfl,rfl,rfl⟩
    simp (disch:=omega) only [↓wr,↓reduceIte,wq,ag,Nat.reduceEqDiff,Nat.reduceAdd,Nat.reduceLT,hb5]
    refine av.eq (fun k1=>?_) (fun k1=>?_)
    · have hcn:0≤cl.n∧cl.n < t.aK.length:=by rcases y8 hcf with h | h | h <;> omega
      simp (disch:=omega) only [↓wr,↓reduceIte,wq,Nat.reduceEqDiff]
      refine av.eq (fun ha=>?_) (fun ha=>?_)
      · rw[if_neg (by omega),if_pos (.inr (.inr ⟨k1,by omega⟩))] at hrun
        simp (disch:=omega) only [↓wr,↓reduceIte,wq,ag,Nat.reduceEqDiff,reduceCtorEq,t0,t2,t4,t5]
        exact bad _ 3 (by decide) hrun.symm
      rw[if_neg (by omega),if_neg (by omega)] at hrun
      simp (disch:=omega) only [↓wr,↓reduceIte,wq,ag,Nat.reduceEqDiff,reduceCtorEq,t0,t2,t4,t5]
      refine av.eq (fun hn=>?_) (fun hn=>?_)
      · rw[show k=0 by omega] at hrun
        simp (disch:=omega) only [↓wr,↓reduceIte,wq,Nat.reduceEqDiff,reduceCtorEq,t2]
        exact bad _ 14 (by decide) hrun.symm
      obtain ⟨q,rfl⟩:∃ q,k=q+1:=⟨k - 1,by omega⟩
      simp only at hrun
      rw[if_pos k1] at hrun
      simp (disch:=omega) only [↓wr,↓reduceIte,wq,ag,Nat.reduceEqDiff,Nat.reduceAdd,Nat.reduceLT,t4,hb5]
      refine av.eq (fun h=>absurd h k2) (fun _=>?_)
      obtain ⟨sid,soff,ses,hu1,hu2,_,_⟩:=hus5.all
      have hcs:¬ c=sid:=by rintro rfl; rw[hc5] at hu2; simp at hu2
      have hap:∀ i j,fC (.ptr c i j) us=True:=fun i j=>by rw[hu1]; simp[fC,hcs]
      have hoc:owner us≠some c:=by rw[hu1]; simp[owner]; exact fun h=>hcs h.symm
      simp (disch:=omega) only [↓wr,↓reduceIte,wq,af,Nat.reduceEqDiff,Nat.reduceAdd,Nat.reduceLT,reduceCtorEq,t0,hcop5,hb5]
      intro q2 hq2
      have hcq2:¬ c=q2:=by rintro rfl; rw[hc5] at hq2; simp at hq2
      have hc7:(H5.set q2 (.arr 1 [[gi cl.n]])) c=.arr 9 [dt g t w us ur]:=by simp[View.set,hcq2,hc5]
      have hus7:=hus5.fresh hq2 (o:=.arr 1 [[gi cl.n]])
      have hur7:=hur5.fresh hq2 (o:=.arr 1 [[gi cl.n]])
      have hA7:=hA5.fresh hq2 (o:=.arr 1 [[gi cl.n]])
      simp (disch:=omega) only [↓wr,↓reduceIte,wq,Nat.reduceEqDiff,bp]
      refine Cs (xs:=[cl.n]) hus7 (by simp) (by unfold aJ; simp; omega) (by unfold aJ; simp; omega) ?_
      intro us2 H7 o2 l2
      have hur8:=hur7.left l2 (fun id h1 h2=>hd1 id h2 h1)
      have hA8:=hA7.left l2 (fun id h1 h2=>(hd2 id h1).1 h2)
      have hc8:H7 c=.arr 9 [dt g t w us ur]:=by rw[(l2 c (by rw[hc7]; simp) hoc).1,hc7]
      have hd8:∀ id,owner us2=some id→owner ur≠some id:=fun id h1 h2=>(l2 id (by rw[(hur7.live h2).1]; simp) (fun e=>hd1 id e h2)).2 h1
      have hdA8:∀ id,owner A=some id→owner us2≠some id:=fun id h=>(l2 id (by rw[(hA7.live h).1]; simp) (hd2 id h).1).2
      have c1:=o2.cells
      have c2:=o2.fA
      simp only[dt] at hc8
      simp (disch:=omega) only [↓wr,↓reduceIte,wq,ag,ab,Nat.reduceEqDiff,Nat.reduceAdd,Nat.reduceLT,Nat.reduceLeDiff,reduceCtorEq,t0,t2,t5,hc8,c1,c2]
      refine ⟨q,by omega,A,st ++ [cl.n],rs,at_+1,s+1,by omega,by omega,hrun,.app hst.2 hcn,⟨us2,ur,by simp[View.set,dt],?_,?_,?_,hd8,fun id h=>⟨hdA8 id h,(hd2 id h).2⟩⟩,by omega,by simp; omega,by omega,rfl,rfl,rfl⟩
      · exact (gj.own o2 (by simp)).ON hc8 (by omega)
      · exact hur8.other (oZ hur8 hc8 (by omega))
      · exact hA8.other (oZ hA8 hc8 (by omega))
    · have hk0:cl.kind=0:=by rcases y8 hcf with h | h | h <;> omega
      rw[if_neg (by omega),if_pos (.inl hk0)] at hrun
      simp (disch:=omega) only [↓wr,↓reduceIte,wq,ag,Nat.reduceEqDiff,reduceCtorEq,t0,t2,t4,t5]
      exact bad _ 3 (by decide) hrun.symm
  · intro body
    simp (disch:=omega) only [↓wr,↓reduceIte,wq,reduceCtorEq]
    have hcop:=hc
    simp only[dt] at hcop
    simp (disch:=omega) only [↓wr,↓reduceIte,wq,aj,af,Nat.reduceEqDiff,Nat.reduceAdd,Nat.reduceLT,reduceCtorEq,hcop,encI]
    intro n1 hn1 n2 hn2
    obtain ⟨d21,hn2⟩:=dz hn2 cT
    have hcn1:¬ c=n1:=by rintro rfl; rw[hc] at hn1; simp at hn1
    have hcn2:¬ c=n2:=by rintro rfl; rw[hc] at hn2; simp at hn2
    have hmn1:¬ m=n1:=by rintro rfl; rw[hm] at hn1; simp at hn1
    have hmn2:¬ m=n2:=by rintro rfl; rw[hm] at hn2; simp at hn2
    have hcc:=Mh [(encI w,w),(.sl n1 0 1 1,[(g.ax.length:Int)])] n2 ((H.set n1 (.arr 1 [[gi g.ax.length]])).set n2 (.arr 1 [[encI w],[.sl n1 0 1 1]])) (by simp[View.set]) (by
      intro x hx
      simp only[List.mem_cons,List.not_mem_nil,or_false] at hx
      rcases hx with rfl | rfl
      · exact .inl rfl
      · exact .inr (.inr ⟨n1,by simp,by simp[View.set,Ne.symm d21]⟩)) (by simp; omega) (by simp)
    simp only[encI] at hcc
    refine aE.ff (hcc.mono ?_)
    rintro r H2 ⟨o2,hfr⟩
    have hc2:H2 c=.arr 9 [dt g t w (.sl m 0 1 1) (.emp 1)]:=by
      rw[(hfr c (by simp[View.set,hcn1,hcn2,hc])).1]; simp[View.set,hcn1,hcn2,hc]
    have hm2:H2 m=.arr 1 [[gi 0]]:=by
      rw[(hfr m (by simp[View.set,hmn1,hmn2,hm])).1]; simp[View.set,hmn1,hmn2,hm]
    have hrm:owner r≠some m:=(hfr m (by simp[View.set,hmn1,hmn2,hm])).2
    rw[PS,AH,K0,HI,PS,Dq,De,rF,Gh,AU,rF]
    refine Il (body 2000 _ _ ⟨r,[0],[],0,0,by omega,by omega,hX,⟨by simp,by have:=htf.n1; intro x hx; simp at hx; subst hx; omega⟩,⟨.sl m 0 1 1,.emp 1,hc2,gj.own (.inr ⟨m,rfl,hm2⟩) (by simp),.nil,by simpa using o2,by simp[owner],fun id h=>⟨fun e=>?_,by simp[owner]⟩⟩,by omega,by simp,by simp,rfl,rfl,rfl,rfl⟩)
    simp only[owner,Option.some.injEq] at e
    exact hrm (e ▸ h)
set_option maxHeartbeats 8000000 in
theorem mw (g:ay) (hg:g.Ok) (hsm:g.Small) (t:dx) (ht:t.Ok) (w:List Int) (hw:aL w) (hn:∀ x∈w,bJ x):cH Tryz.prog 19 [.agg (aw g),.agg (bu t),encI w] (sR (gU g t w)):=by
  refine cH.of (Pa g t w) ?_
  have hc1:=A5 g hg hsm w hw hn
  have hc2:=MP g hg hsm t ht
  refine aC.of mixed AP ?_
  simp only[aw,encS,bu,encI] at hc1 hc2
  rw[ki]
  simp (disch:=omega) only [↓wr,↓reduceIte,wq,ah,Nat.reduceEqDiff,Nat.reduceAdd,Nat.reduceLeDiff,xV,aw,encS,bu,encI]
  refine aE.pure hc1 (by kernel_rfl) ?_
  simp (disch:=omega) only [↓wr,↓reduceIte,wq]
  refine av.split (fun hwb=>?_) (fun hwb=>?_)
  rotate_left
  · simp (disch:=omega) only [↓wr,↓reduceIte,wq,Nat.reduceEqDiff,reduceCtorEq]
    intro h' _
    rw[hwb]
    exact wi (x:=([],0,1)) (.emp _)
  simp (disch:=omega) only [↓wr,↓reduceIte,wq,Nat.reduceEqDiff,Nat.reduceAdd,Nat.reduceLeDiff]
  refine aE.pure hc2 (by kernel_rfl) ?_
  simp (disch:=omega) only [↓wr,↓reduceIte,wq,Nat.reduceEqDiff]
  refine av.split (fun hrt=>?_) (fun hrt=>?_)
  rotate_left
  · simp (disch:=omega) only [↓wr,↓reduceIte,wq,Nat.reduceEqDiff,reduceCtorEq]
    intro h' _
    rw[hwb,hrt]
    exact wi (x:=([],0,1)) (.emp _)
  have htf:=zZ hrt
  have hf:=cn htf.right
  obtain ⟨hw60,hwin⟩:=OR hwb
  rw[hwb,hrt]
  simp only[Bool.and_self,if_true]
  simp (disch:=omega) only [↓wr,↓reduceIte,wq,ab,ae,af,Nat.reduceEqDiff,Nat.reduceAdd,Nat.reduceLT,Nat.reduceLeDiff]
  intro m c hcd
  obtain ⟨dcm,_⟩:=dz hcd cT
  refine aE.ff ((Rk c g hg hf t htf w hw60 hwin m _ (by simp[View.set,dt,encI]) (by simp[View.set,Ne.symm dcm])).mono ?_)
  rintro r H2 ⟨rfl,h0,h1⟩
  generalize iq g t w 2000 [0] [] 0=X at h0 h1 ⊢
  obtain ⟨x1,x2,x3⟩:=X
  simp only at h0 h1 ⊢
  simp (disch:=omega) only [↓wr,↓reduceIte,wq,ag,Nat.reduceEqDiff,Nat.reduceAdd,Nat.reduceLT]
  refine av.ne (fun he=>?_) (fun he=>?_)
  · simp (disch:=omega) only [↓wr,↓reduceIte,wq,Nat.reduceEqDiff,reduceCtorEq]
    intro h' _
    rw[h1 he]
    exact wi (x:=([],x2,x3)) (.emp _)
  · obtain rfl:x3=0:=by omega
    obtain ⟨us,ur,hc2,ho⟩:=h0 rfl
    simp only[dt] at hc2
    simp (disch:=omega) only [↓wr,↓reduceIte,wq,Nat.reduceEqDiff,Nat.reduceAdd,Nat.reduceLT,reduceCtorEq,hc2]
    rintro h' rfl
    exact wi (x:=(x1,x2,0)) (sG ho)
def K8:Value→Value→Bool
  | .int k a,.int k' b=>decide (k=k') && decide (a=b)
  | .bool a,.bool b=>a == b
  | .string a,.string b=>hU a b
  | .pointer none,.pointer none=>true
  | _,_=>false
theorem OT:∀ (a b:Value),K8 a b=true→a=b:=by
  intro a b h
  unfold K8 at h
  split at h
  · simp only[Bool.and_eq_true,decide_eq_true_eq] at h
    rw[h.1,h.2]
  · rename_i a b
    rw[show a=b by simpa using h]
  · rename_i a b
    obtain ⟨a⟩:=a
    obtain ⟨b⟩:=b
    simp only[hU,beq_iff_eq] at h
    rw[show a=b from Array.toList_inj.1 h]
  · rfl
  · simp at h
def z2 (q:V→V→Bool):List V→List V→Bool
  | [],[]=>true
  | a :: l,b :: m=>q a b && z2 q l m
  | _,_=>false
def IX (q:V→V→Bool):List (List V)→List (List V)→Bool
  | [],[]=>true
  | a :: l,b :: m=>z2 q a b && IX q l m
  | _,_=>false
def EL:Nat→V→V→Bool
  | 0,_,_=>false
  | k+1,a,b=>match a,b with
    | .val x,.val y=>K8 x y
    | .aX x,.aX y=>IX (EL k) x y
    | .agg x,.agg y=>z2 (EL k) x y
    | .bf x,.bf y=>z2 (EL k) x y
    | _,_=>false
theorem vp {q:V→V→Bool} (hq:∀ a b,q a b=true→a=b):∀ (l m:List V),z2 q l m=true→l=m
  | [],[],_=>rfl
  | a :: l,b :: m,h=>by
    simp only[z2,Bool.and_eq_true] at h
    rw[hq a b h.1,vp hq l m h.2]
  | [],_ :: _,h=>by simp[z2] at h
  | _ :: _,[],h=>by simp[z2] at h
theorem L5 {q:V→V→Bool} (hq:∀ a b,q a b=true→a=b):∀ (l m:List (List V)),IX q l m=true→l=m
  | [],[],_=>rfl
  | a :: l,b :: m,h=>by
    simp only[IX,Bool.and_eq_true] at h
    rw[vp hq a b h.1,L5 hq l m h.2]
  | [],_ :: _,h=>by simp[IX] at h
  | _ :: _,[],h=>by simp[IX] at h
theorem Ha:∀ (k:Nat) (a b:V),EL k a b=true→a=b
  | 0,_,_,h=>by simp[EL] at h
  | k+1,a,b,h=>by
    have ih:=Ha k
    unfold EL at h
    split at h
    · rw[OT _ _ h]
    · rw[L5 ih _ _ h]
    · rw[vp ih _ _ h]
    · rw[vp ih _ _ h]
    · simp at h
def tK:Nat→V→Bool
  | 0,_=>false
  | k+1,v=>match v with
    | .val _=>true
    | .emp _=>true
    | .eh=>true
    | .aX es=>es.all fun e=>e.all (tK k)
    | .agg cs=>cs.all (tK k)
    | .bf cs=>cs.all (tK k)
    | _=>false
theorem xj {q:V→Bool} {l:List V} (h:l.all q=true) {i:Nat} (hi:i < l.length):q (l.getD i .any)=true:=by
  have e:l.getD i .any=l[i]:=by simp[List.getD_eq_getElem?_getD,hi]
  rw[e]
  exact List.all_eq_true.1 h _ (List.getElem_mem _)
theorem AA:∀ (k:Nat) (v:V),tK k v=true→Tree v
  | 0,_,h=>by simp[tK] at h
  | k+1,v,h=>by
    have ih:=AA k
    unfold tK at h
    split at h
    · exact .val _
    · exact .emp _
    · exact .eh
    · rename_i es
      refine .aX _ fun i j hi hj=>ih _ ?_
      have e:es.getD i []=es[i]:=by simp[List.getD_eq_getElem?_getD,hi]
      have h1:=List.all_eq_true.1 h _ (List.getElem_mem hi)
      rw[e] at hj ⊢
      exact xj h1 hj
    · exact .agg _ fun i hi=>ih _ (xj h hi)
    · exact .bf _ fun i hi=>ih _ (xj h hi)
    · simp at h
noncomputable def w5 (H:View):Nat→V→Option V
  | 0,_=>none
  | k+1,v=>match v with
    | .val x=>some (.val x)
    | .emp _=>some (.aX [])
    | .aX es=>match tK 60 (.aX es) with
      | true=>some (.aX es)
      | false=>none
    | .sl id off len _=>match H id with
      | .arr _ es=>match Nat.ble (off+len) es.length with
        | true=>(Dg (w5 H k) ((es.drop off).take len)).map .aX
        | false=>none
      | _=>none
    | .agg cs=>(nI (w5 H k) cs).map .agg
    | .bf cs=>(nI (w5 H k) cs).map .bf
    | _=>none
theorem Dt (h:aH):∀ (k:Nat) (v t:V),w5 h.view k v=some t→Fr h v t
  | 0,v,t,hf=>by simp[w5] at hf
  | k+1,v,t,hf=>by
    have ih:=Dt h k
    simp only[w5] at hf
    split at hf
    · simp only[Option.some.injEq] at hf; subst hf; exact .tree _ (.val _)
    · simp only[Option.some.injEq] at hf; subst hf; exact .emp _
    · split at hf
      · rename_i ht
        simp only[Option.some.injEq] at hf; subst hf; exact .tree _ (AA _ _ ht)
      · simp at hf
    · rename_i id off len esz
      split at hf
      · rename_i z es hH
        split at hf
        · rename_i hle
          have hle:=Nat.le_of_ble_eq_true hle
          simp only[Option.map_eq_some_iff] at hf
          obtain ⟨es',he,rfl⟩:=hf
          obtain ⟨g1,g2⟩:=Db _ _ he
          have hlen:es'.length=len:=by rw[g1]; simp; omega
          have hg:∀ i,i < len→((es.drop off).take len).getD i []=es.getD (off+i) []:=fun i hi=>by
            simp[List.getD_eq_getElem?_getD,hi]
          have g3:∀ i,i < len→nI (w5 h.view k) (es.getD (off+i) [])=some (es'.getD i []):=fun i hi=>by
            rw[← hg i hi]; exact g2 i (by rw[← g1,hlen]; exact hi)
          exact .sl id off len esz z es es' hH hle hlen (fun i hi=>(gE _ _ (g3 i hi)).1) (fun i j hi hj=>ih _ _ ((gE _ _ (g3 i hi)).2 j (by rw[← (gE _ _ (g3 i hi)).1]; exact hj)))
        · simp at hf
      · simp at hf
    · simp only[Option.map_eq_some_iff] at hf
      obtain ⟨l,hl,rfl⟩:=hf
      obtain ⟨g1,g2⟩:=gE _ _ hl
      exact .agg _ _ g1 (fun i hi=>ih _ _ (g2 i hi))
    · simp only[Option.map_eq_some_iff] at hf
      obtain ⟨l,hl,rfl⟩:=hf
      obtain ⟨g1,g2⟩:=gE _ _ hl
      exact .bf _ _ g1 (fun i hi=>ih _ _ (g2 i hi))
    · simp at hf
theorem aD.seen {P:Program} {f:FuncId} {vs ts:List V} {t:V} (hc:aD P f ts t) (ht:∀ i,i < vs.length→Tree (vs.getD i .any)) (hl:ts.length=vs.length) (hfr:∀ i,i < vs.length→Fr [] (vs.getD i .any) (ts.getD i .any)):aD P f vs t:=by
  intro Z μ w xs hrel hz
  have hr0:gG Z (fun _=>none) w.heap (cat [] fun _=>.dead):=by
    rw[Dh]
    exact ⟨fun _=>trivial,fun i j b o s o' s' _ h=>by simp at h,fun id b o s h=>by simp at h,hz,fun id b o s h=>by simp at h⟩
  have hno:∀ b,¬ iu (fun _=>none) b:=fun b ⟨_,_,_,h⟩=>by simp at h
  have hts:fE (fun b=>Z b∨iu (fun _=>none) b) μ w.heap ts xs:=⟨by rw[hl,hrel.1],fun i hi=>Cb hr0 (hfr i (by omega)) (wW (hrel.2 i (by omega)) (ht i (by omega)))⟩
  refine (hc _ μ w xs hts (fun b hb=>hb.elim (hz b) (fun h=>absurd h (hno b)))).mono ?_
  rintro e w' ⟨x,Z',rfl,hv,hs,h1,h2,ho⟩
  exact ⟨x,Z',rfl,hv,hs,fun b hb=>h1 b (.inl hb),fun b hb=>(h2 b hb).elim (fun h=>h.elim .inl (fun h=>absurd h (hno b))) .inr,ho⟩
abbrev lT:=FuncId × List V × V × Bool
def lT.Ok (P:Program) (x:lT):Prop:=dd P x.1=true∧if x.2.2.2=true then aD P x.1 x.2.1 x.2.2.1 else (cH P x.1 x.2.1 x.2.2.1∨(aD P x.1 x.2.1 x.2.2.1∧AE x.2.2.1))
noncomputable def Pu (g:FuncId) (vs:List V) (H:View) (x:lT):Bool:=Nat.beq x.1 g && (match x.2.2.2 with
  | true=>vs.all (tK 60) && (match nI (w5 (fun _=>.dead) 60) vs with
    | some ts=>z2 (EL 60) ts x.2.1
    | none=>false)
  | false=>match nI (w5 H 60) vs with
    | some ts=>z2 (EL 60) ts x.2.1
    | none=>false)
noncomputable def J9 (l:List lT):zd:=fun g vs H=>(l.find? (Pu g vs H)).map fun x=>x.2.2.1
theorem GA {P:Program} {l:List lT} (hl:∀ x∈l,x.Ok P):sX P (J9 l):=by
  intro g vs H t h
  unfold J9 at h
  simp only[Option.map_eq_some_iff] at h
  obtain ⟨⟨f,ts,r,b⟩,hx,rfl⟩:=h
  obtain ⟨h1,h2⟩:=hl _ (List.mem_of_find?_eq_some hx)
  have hq:=List.find?_some hx
  simp only[Pu,Bool.and_eq_true] at hq
  obtain ⟨hg,hq⟩:=hq
  have hg:=Nat.eq_of_beq_eq_true hg
  simp only at hg h1 h2 hq
  subst hg
  refine ⟨h1,?_⟩
  rintro h rfl
  cases b with
  | true =>
    simp only[Bool.and_eq_true] at hq
    obtain ⟨hq1,hq2⟩:=hq
    split at hq2
    · rename_i us hus
      obtain ⟨g1,g2⟩:=gE _ _ hus
      have:=vp (Ha 60) _ _ hq2
      subst this
      simp only[if_true] at h2
      exact cO.r6 (h2.seen (fun i hi=>AA _ _ (xj hq1 hi)) g1 fun i hi=>Dt [] 60 _ _ (g2 i hi)) h
    · simp at hq2
  | false =>
    simp only at hq
    split at hq
    · rename_i us hus
      obtain ⟨g1,g2⟩:=gE _ _ hus
      have:=vp (Ha 60) _ _ hq
      subst this
      have hfr:=fun i hi=>Dt h 60 _ _ (g2 i hi)
      simp only[Bool.false_eq_true,if_false] at h2
      rcases h2 with h2 | ⟨h2,h3⟩
      · exact cO.Qb h2 g1 hfr
      · exact cO.borrow h2 h3 g1 hfr
    · simp at hq
def lQ (x:Int):Bool:=decide (-9223372036854775808≤x) && decide (x≤9223372036854775807)
theorem ie {x:Int} (h:lQ x=true):bJ x:=by
  unfold lQ at h
  simp only[Bool.and_eq_true,decide_eq_true_eq] at h
  exact h
def okB (g:ay):Bool:=decide (g.ax.length≤900) && decide (g.aA.length≤100) && decide (g.rules.length≤900) && lQ g.start && g.ax.all (fun t=>lQ t.level && lQ t.assoc) && g.rules.all fun r=>lQ r.left && lQ r.prec && decide (r.right.length≤900) && r.right.all lQ
theorem FQ {g:ay} (h:okB g=true):g.Ok∧g.Small:=by
  unfold okB at h
  simp only[Bool.and_eq_true,decide_eq_true_eq,List.all_eq_true] at h
  obtain ⟨⟨⟨⟨⟨h1,h2⟩,h3⟩,h4⟩,h5⟩,h6⟩:=h
  refine ⟨⟨by unfold aL; omega,by unfold aL; omega,by unfold aL; omega,ie h4,fun t ht=>⟨ie (h5 t ht).1,ie (h5 t ht).2⟩,fun r hr=>?_⟩,⟨by omega⟩⟩
  have:=h6 r hr
  exact ⟨ie this.1.1.1,ie this.1.1.2,by unfold aL; have:=this.1.2; omega,fun x hx=>ie (this.2 x hx)⟩
theorem gT:fh.Ok∧fh.Small:=FQ (by kernel_rfl)
theorem Fj (t:dx):∀ v∈[V.agg (bu t)],Tree v:=by
  intro v hv; simp at hv; subst hv
  exact bL _ (uC t)
theorem OY (g:ay) (t:dx) (w:List Int):∀ (k:Nat) (st rs:List Int) (at_:Nat),(iq g t w k st rs at_).1.length≤rs.length+k:=by
  intro k
  induction k with
  | zero =>
    intro st rs at_
    rw[mz]
    split
    · simp
    · split <;> simp
  | succ k ih =>
    intro st rs at_
    rw[mz]
    split
    · simp
    · split
      · simp
      · simp only
        split
        · have:=ih (st ++ [(di t (cm st) (bY g w at_)).n]) rs (at_+1); omega
        · split
          · simp
          · split
            · simp
            · refine Nat.le_trans (ih _ _ _) ?_
              simp; omega
theorem G1 (g:ay) (t:dx) (w:List Int):aL (gU g t w).1:=by
  rw[ki]
  unfold aL
  split
  · have:=OY g t w 2000 [0] [] 0
    simp at this; omega
  · simp
structure ej where
  eP:Int
  cell:Cell
  deriving DecidableEq
structure de where
  sym:Int
  to:Int
  deriving DecidableEq
structure ju where
  ax:Int
  aA:Int
  rows:List (List ej)
  of:List Int
  gotos:List (List de)
  to:List Int
def en (x:ej):List V:=[gi x.eP,gi x.cell.kind,gi x.cell.n]
def dn (x:de):List V:=[gi x.sym,gi x.to]
abbrev eR (l:List ej):V:=.aX (l.map en)
abbrev eE (l:List de):V:=.aX (l.map dn)
def cP (p:ju):List V:=[gi p.ax,gi p.aA,.aX (p.rows.map fun r=>[eR r]),encI p.of,.aX (p.gotos.map fun r=>[eE r]),encI p.to]
theorem Cg (p:ju):∀ v∈cP p,Tree v:=by
  intro v hv
  simp[cP] at hv
  rcases hv with rfl | rfl | rfl | rfl | rfl | rfl
  · exact .val _
  · exact .val _
  · exact cL _ _ fun r _ v hv=>by
      simp at hv; subst hv
      exact cL _ _ fun c _ v hv=>by simp[en] at hv; rcases hv with rfl | rfl | rfl <;> exact .val _
  · exact cF _
  · exact cL _ _ fun r _ v hv=>by
      simp at hv; subst hv
      exact cL _ _ fun c _ v hv=>by simp[dn] at hv; rcases hv with rfl | rfl <;> exact .val _
  · exact cF _
structure ju.Ok (p:ju):Prop where
  ax:bJ p.ax
  aA:bJ p.aA
  rows:aL p.rows
  of:aL p.of∧∀ x∈p.of,bJ x
  gotos:aL p.gotos
  to:aL p.to∧∀ x∈p.to,bJ x
  row:∀ r∈p.rows,aL r∧∀ c∈r,bJ c.eP∧bJ c.cell.kind∧bJ c.cell.n
  go:∀ r∈p.gotos,aL r∧∀ x∈r,bJ x.sym∧bJ x.to
def lK (t:Int):Int→List ej→Bool
  | _,[]=>true
  | last,x :: l=>decide (last < x.eP) && decide (x.eP≤t) && decide (x.cell≠⟨0,0⟩) && lK t x.eP l
def lP (t:Int):Int→List de→Bool
  | _,[]=>true
  | last,x :: l=>decide (last < x.sym) && decide (x.sym < t) && decide (x.to≠-1) && lP t x.sym l
def iF (p:ju):Bool:=decide (0≤p.ax∧p.ax≤24∧0≤p.aA∧p.aA≤16∧1≤p.of.length∧p.of.length≤300∧p.to.length=p.of.length∧p.rows.length≤300∧p.gotos.length≤300) &&
  (p.of.all fun x=>decide (0≤x) && decide (x < p.rows.length)) && (p.to.all fun x=>decide (0≤x) && decide (x < p.gotos.length)) && (p.rows.all fun r=>lK p.ax (-1) r) && p.gotos.all fun r=>lP p.aA (-1) r
def ix (l:List ej) (a:List Cell):List Cell:=l.foldl (fun a x=>a.set x.eP.toNat x.cell) a
def jH (l:List de) (a:List Int):List Int:=l.foldl (fun a x=>a.set x.sym.toNat x.to) a
def ec (p:ju):dx:=⟨p.of.map fun n=>ix (p.rows.getD n.toNat []) (List.replicate (p.ax.toNat+1) ⟨0,0⟩),p.to.map fun n=>jH (p.gotos.getD n.toNat []) (List.replicate p.aA.toNat (-1))⟩
theorem Ll (p:ju):∀ v∈[V.agg (cP p)],Tree v:=by
  intro v hv; simp at hv; subst hv
  exact bL _ (Cg p)
theorem Ao (x y:Cell):eX Tryz.prog 9998 #[.int .i64 x.kind,.int .i64 x.n] #[.int .i64 y.kind,.int .i64 y.n]
    [{ name:= "Kind",type:=3,offset:=0,embedded:=false,tag:= "",pkgPath:= "",byteOffset:=0 },{ name:= "N",type:=3,offset:=1,embedded:=false,tag:= "",pkgPath:= "",byteOffset:=8 }] ((x.kind == y.kind) && ((x.n == y.n) && true)) :=
  .int _ _ _ .i64 _ _ (by decide) Tryz.underlying3 rfl rfl (.int _ _ _ .i64 _ _ (by decide) Tryz.underlying3 rfl rfl .nil)
theorem Gm (x y:Cell):((x.kind == y.kind) && ((x.n == y.n) && true))=decide (x=y):=by
  cases x; cases y; rw [Bool.eq_iff_iff]; simp
def IE (n:Nat) (x:Int):Bool:=decide (0≤x) && decide (x < n)
theorem Gb {α:Type} {l:List α} {f:α→Bool} {i:Nat} {x:α} (h:l[i]?=some x):(l.take (i+1)).all f=((l.take i).all f && f x):=by
  rw[List.take_add_one,h]; simp
theorem zF {α:Type} {l:List α} {f:α→Bool} {i:Nat} {x:α} (h:l[i]?=some x) (hx:f x=false):l.all f=false:=by
  rw[Bool.eq_false_iff]
  intro hl
  have:=List.all_eq_true.1 hl x (List.mem_of_getElem? h)
  rw[hx] at this; exact Bool.false_ne_true this
theorem Cy {p:ju} (h:iF p=true):(0≤p.ax∧p.ax≤24∧0≤p.aA∧p.aA≤16∧1≤p.of.length∧p.of.length≤300∧p.to.length=p.of.length∧p.rows.length≤300∧p.gotos.length≤300) ∧
    (∀ x∈p.of,0≤x∧x < (p.rows.length:Int))∧(∀ x∈p.to,0≤x∧x < (p.gotos.length:Int))∧(∀ r∈p.rows,lK p.ax (-1) r=true)∧∀ r∈p.gotos,lP p.aA (-1) r=true:=by
  unfold iF at h
  simp only[Bool.and_eq_true,decide_eq_true_eq,List.all_eq_true] at h
  exact ⟨h.1.1.1.1,h.1.1.1.2,h.1.1.2,h.1.2,h.2⟩
theorem GJ {t:Int} : ∀ {last:Int} {l:List ej},-1≤last→lK t last l=true→∀ x∈l,0≤x.eP∧x.eP≤t
  | _,[],_,_,x,hx=>by simp at hx
  | last,y :: l,h0,h,x,hx=>by
    simp only[lK,Bool.and_eq_true,decide_eq_true_eq] at h
    rcases List.mem_cons.1 hx with rfl | hx
    · omega
    · exact GJ (by omega) h.2 x hx
theorem GB {t:Int} : ∀ {last:Int} {l:List de},-1≤last→lP t last l=true→∀ x∈l,0≤x.sym∧x.sym < t
  | _,[],_,_,x,hx=>by simp at hx
  | last,y :: l,h0,h,x,hx=>by
    simp only[lP,Bool.and_eq_true,decide_eq_true_eq] at h
    rcases List.mem_cons.1 hx with rfl | hx
    · omega
    · exact GB (by omega) h.2 x hx
theorem tx (l:List ej):∀ a:List Cell,(ix l a).length=a.length:=by
  induction l with
  | nil=>intro a; rfl
  | cons x l ih=>intro a; exact (ih _).trans (by simp)
theorem qn (l:List de):∀ a:List Int,(jH l a).length=a.length:=by
  induction l with
  | nil=>intro a; rfl
  | cons x l ih=>intro a; exact (ih _).trans (by simp)
theorem K9 {l:List ej} {a:List Cell} {j:Nat} {x:ej} (h:l[j]?=some x):ix (l.take (j+1)) a=(ix (l.take j) a).set x.eP.toNat x.cell:=by
  unfold ix; rw[List.take_add_one,h]; simp
theorem Ks {l:List de} {a:List Int} {j:Nat} {x:de} (h:l[j]?=some x):jH (l.take (j+1)) a=(jH (l.take j) a).set x.sym.toNat x.to:=by
  unfold jH; rw[List.take_add_one,h]; simp
theorem bK.as {H:View} {u:V} {sz:Nat} {es es':List (List V)} {L:List ep} (h:bK H ((u,sz,es) :: L)) (e:es=es'):bK H ((u,sz,es') :: L):=e ▸ h
theorem Mz (l:List Cell) (i:Nat):List.drop 2 ((l.map bC).getD i [])=[]:=by
  rw[List.getD_eq_getElem?_getD,List.getElem?_map]
  cases l[i]? <;> rfl
theorem Pb (l:List Int) (i:Nat):List.drop 1 ((l.map fun x=>[gi x]).getD i [])=[]:=by
  rw[List.getD_eq_getElem?_getD,List.getElem?_map]
  cases l[i]? <;> rfl
theorem Dr {H:View} {u:V} {sz b i j:Nat} {es:List (List V)} (h:bc H u sz es) (hb:owner u≠some b):fC (.ptr b i j) u:=by
  rcases h with ⟨_,k,rfl⟩ | ⟨z,rfl,_⟩
  · simp[fC]
  · simp[fC,owner] at hb ⊢
    exact fun e=>hb e.symm
abbrev Fg:=List (V × List Cell)
abbrev JR:=List (V × List Int)
def cq {α:Type} (A:List (V × α)):List (List V):=A.map fun x=>[x.1]
def zI (A:Fg):List ep:=A.map fun x=>(x.1,2,x.2.map bC)
def zN (A:JR):List ep:=A.map fun x=>(x.1,1,bA x.2)
theorem D1 {h:aH} {u:V} {A:Fg} (ho:bc h.view u 1 (cq A)) (hb:∀ x∈A,bc h.view x.1 2 (x.2.map bC)):bZ h u (.aX ((A.map (·.2)).map fun r=>[j3 r])):=by
  have hg:∀ i (hi:i < A.length),(cq A).getD i []=[(A[i]).1]∧(((A.map (·.2)).map fun r=>[j3 r]).getD i [])=[j3 (A[i]).2]:=fun i hi=>by
    simp[cq,List.getD_eq_getElem?_getD,hi]
  refine bZ.own ho (by simp[cq]) (fun i hi=>?_) (fun i j hi hj=>?_)
  · have hi':i < A.length:=by simpa [cq] using hi
    rw[(hg i hi').1,(hg i hi').2]; rfl
  · have hi':i < A.length:=by simpa [cq] using hi
    rw[(hg i hi').2] at hj ⊢
    rw[(hg i hi').1]
    have:j=0:=by simp at hj; omega
    subst this
    simp only[List.getD_cons_zero]
    have hx:=hb _ (List.getElem_mem hi')
    generalize (A[i]'hi').2=l at hx
    refine bZ.own hx rfl (fun i _=>rfl) (fun i j hi hj=>?_)
    simp only[List.length_map] at hi
    have e:(l.map bC).getD i []=bC l[i]:=by simp[List.getD_eq_getElem?_getD,hi]
    rw[e] at hj ⊢
    match j,hj with
    | 0,_=>exact .val _
    | 1,_=>exact .val _
theorem Dd {h:aH} {u v s t:V} (h1:bZ h u s) (h2:bZ h v t):bZ h (.agg [u,v]) (.agg [s,t]):=.agg _ _ rfl fun j hj=>by
  match j,hj with
  | 0,_=>exact h1
  | 1,_=>exact h2
theorem I6 {h:aH} {u v s t:V} {e:Int} (h1:bZ h u s) (h2:bZ h v t):bZ h (.bf [.agg [u,v],gi e]) (.bf [.agg [s,t],gi e]):=.bf _ _ rfl fun i hi=>by
  match i,hi with
  | 0,_=>exact Dd h1 h2
  | 1,_=>exact .val _
structure aN where
  aP:Int
  dot:Int
  deriving DecidableEq
def bE (x:aN):List V:=[gi x.aP,gi x.dot]
def bD (l:List aN):List (List V):=l.map bE
def fk (a b:aN):Bool:=decide (a.aP < b.aP) || (decide (a.aP=b.aP) && decide (a.dot < b.dot))
def dF:List aN→aN→List aN
  | [],x=>[x]
  | y :: l,x=>if fk y x=true then y :: dF l x else if y=x then y :: l else x :: y :: l
theorem QN (a b:aN):∀ v∈[V.agg (bE a),.agg (bE b)],Tree v:=by
  intro v hv; simp at hv
  rcases hv with rfl | rfl <;> exact bL _ fun v hv=>by simp[bE] at hv; rcases hv with rfl | rfl <;> exact .val _
def pS:SF:=⟨.seq (ak [bW 2 0,bW 3 1,aZ 4 false]) <|
  .seq (.region false [⟨none,[au 5 0 2,ao 6 5,au 7 0 3,ao 8 7,aR 9 .lss 6 8,aa 10 9]⟩,⟨(some (10,false)),[au 11 0 2,ao 12 11,au 13 0 3,ao 14 13,aR 15 .eql 12 14,aa 16 15]⟩,⟨(some (16,true)),[au 17 1 2,ao 18 17,au 19 1 3,ao 20 19,aR 21 .lss 18 20]⟩,⟨(some (10,false)),[bF 22 16 21]⟩,⟨none,[bB 23 10 22,aa 4 23]⟩]) <|
  .ret,
  [.tmp 4],24⟩
theorem vC:aY Tryz.prog 173 [2,3]=some pS:=by kernel_rfl
def oF:SC :=
  .seq (.seq (.region false [⟨none,[aa 7 5,aa 8 0,aM 9 8,aR 10 .lss 7 9,aa 11 10]⟩,⟨(some (11,true)),[aa 12 0,aa 13 5,aS 14 2 12 13,aO 15 2 14,aO 16 2 3,aQ 17 173 [15,16]]⟩,⟨none,[bF 18 11 17]⟩]) <|
  .cond (.tmp 18) (.skip) (.exit 0)) <|
  .block 1 (ak [aa 19 5,az 20 .add 19 1,aa 5 20])
def qZ:SF:=⟨.seq (ak [bW 3 1,((some 4),.op (.bo (.val (.emp 1))))]) <|
  .seq (ak [aI 5 0]) <|
  .seq (.block 0 (.loop oF)) <|
  .seq (.seq (.region false [⟨none,[aa 21 5,aa 22 0,aM 23 22,aR 24 .lss 21 23,aa 25 24]⟩,⟨(some (25,true)),[aa 26 0,aa 27 5,aS 28 2 26 27,aO 29 2 28,aO 30 2 3,((some 31),.op (.old (.binOp .eql 55 (.tmp 29) (.tmp 30) 55) 4))]⟩,⟨none,[bF 32 25 31]⟩]) <|
  .cond (.tmp 32) (.seq (ak [aa 33 0,aa 4 33]) <|
  .ret) (.skip)) <|
  .seq (ak [((some 34),.op (.bo (.val (.emp 2)))),aa 35 0,aa 36 5,((some 37),.op (.slice 2 (.tmp 35) (some (.tmp 36)) none)),((some 38),.op (.app 2 16 (.tmp 34) (.tmp 37))),aa 6 38]) <|
  .seq (ak [aa 39 0,aa 40 5,((some 41),.op (.slice 2 (.tmp 39) none (some (.tmp 40)))),aO 42 2 3,((some 43),.op (.bh 1 2 [(.val (.int .i64 0)),(.val (.int .i64 0))] [(0,(.tmp 42))])),((some 44),.op (.app 2 16 (.tmp 41) (.tmp 43))),aa 45 6,((some 46),.op (.app 2 16 (.tmp 44) (.tmp 45))),aa 4 46]) <|
  .ret,
  [.tmp 4],47⟩
theorem w6:aY Tryz.prog 119 [3]=some qZ:=by kernel_rfl
theorem MA (a b:aN):aD Tryz.prog 173 [.agg (bE a),.agg (bE b)] (gb (fk a b)):=by
  refine aD.val (QN a b) fun H=>?_
  refine aC.of mixed vC ?_
  unfold fk
  simp (disch:=omega) only [↓wr,↓reduceIte,wq,ah,ag,Nat.reduceEqDiff,Nat.reduceAdd,Nat.reduceLT,Nat.reduceLeDiff,pS,bE]
  refine av.dec (fun h1=>?_) (fun h1=>?_)
  · simp (disch:=omega) only [↓wr,↓reduceIte,wq,Nat.reduceEqDiff,reduceCtorEq]
    rw[decide_eq_true h1]; rfl
  simp (disch:=omega) only [↓wr,↓reduceIte,wq,ag,Nat.reduceEqDiff,Nat.reduceAdd,Nat.reduceLT]
  refine av.eq (fun h2=>?_) (fun h2=>?_)
  · simp (disch:=omega) only [↓wr,↓reduceIte,wq,ag,Nat.reduceEqDiff,Nat.reduceAdd,Nat.reduceLT,reduceCtorEq]
    rw[decide_eq_false h1,decide_eq_true h2]; rfl
  · simp (disch:=omega) only [↓wr,↓reduceIte,wq,Nat.reduceEqDiff,reduceCtorEq]
    rw[decide_eq_false h1,decide_eq_false h2]; rfl
def dy:List aN→aN→Nat
  | [],_=>0
  | y :: l,x=>if fk y x=true then dy l x+1 else 0
theorem BY:∀ (l:List aN) (x:aN),dy l x≤l.length
  | [],_=>Nat.le_refl _
  | y :: l,x=>by
    rw[dy]; split
    · have:=BY l x; simp; omega
    · simp
theorem Bt:∀ (l:List aN) (x:aN) (i:Nat) (y:aN),l[i]?=some y→i < dy l x→fk y x=true
  | [],_,_,_,h,_=>by simp at h
  | z :: l,x,0,y,h,hi=>by
    rw[dy] at hi; split at hi
    · simp at h; subst h; assumption
    · omega
  | z :: l,x,i+1,y,h,hi=>by
    rw[dy] at hi; split at hi
    · exact Bt l x i y (by simpa using h) (by omega)
    · omega
theorem Bm:∀ (l:List aN) (x:aN) (y:aN),l[dy l x]?=some y→fk y x=false
  | [],_,_,h=>by simp at h
  | z :: l,x,y,h=>by
    rw[dy] at h; split at h
    · exact Bm l x y (by simpa using h)
    · rename_i e; simp at h; subst h; simpa using e
theorem wz:∀ (l:List aN) (x:aN),dF l x=if l[dy l x]?=some x then l else l.take (dy l x) ++ [x] ++ l.drop (dy l x)
  | [],x=>by simp[dF,dy]
  | y :: l,x=>by
    rw[dF,dy]
    split
    · have:=wz l x
      simp only[List.getElem?_cons_succ,List.take_succ_cons,List.drop_succ_cons,List.cons_append]
      rw[this]; split <;> simp
    · simp only[List.getElem?_cons_zero,Option.some.injEq,List.take_zero,List.drop_zero,List.nil_append,List.cons_append]
theorem tQ (x y:aN):eX Tryz.prog 9998 #[.int .i64 x.aP,.int .i64 x.dot] #[.int .i64 y.aP,.int .i64 y.dot]
    [{ name:= "Rule",type:=3,offset:=0,embedded:=false,tag:= "",pkgPath:= "",byteOffset:=0 },{ name:= "Dot",type:=3,offset:=1,embedded:=false,tag:= "",pkgPath:= "",byteOffset:=8 }] ((x.aP == y.aP) && ((x.dot == y.dot) && true)) :=
  .int _ _ _ .i64 _ _ (by decide) Tryz.underlying3 rfl rfl (.int _ _ _ .i64 _ _ (by decide) Tryz.underlying3 rfl rfl .nil)
theorem Bv (x y:aN):((x.aP == y.aP) && ((x.dot == y.dot) && true))=decide (x=y):=by
  cases x; cases y; rw [Bool.eq_iff_iff]; simp
theorem y4 {sz id off k m:Nat} (hm:m≤k):dW sz (.sl id off k sz) (some (gi m)) none=some (.sl id (off+m) (k - m) sz,.none,[]):=by
  simp[dW,bound,asNat,hm]
theorem sW {sz id off k m:Nat} (hm:m≤k):dW sz (.sl id off k sz) none (some (gi m))=some (.sl id off m sz,.none,[]):=by
  simp[dW,bound,asNat,hm]
theorem MC (l:List aN):((bD l).all fun e=>e.length == 2 && e.all aU)=true:=by
  simp[bD,List.all_map,bE,aU]
theorem Ns {H:View} {u:V} {sz:Nat} {es:List (List V)} (h:bc H u sz es):∃ rd,bN H u=some (es,rd):=by
  rcases h with ⟨rfl,k,rfl⟩ | ⟨n,rfl,hn⟩
  · exact ⟨_,pv _ k⟩
  · cases es with
    | nil=>exact ⟨[],by simp[bN]⟩
    | cons e es =>
      exact ⟨_,by rw[show (e :: es).length=es.length+1 from rfl,xw _ n 0 es.length sz sz _ hn (by simp),List.drop_zero,List.take_of_length_le (by simp)]⟩
theorem pE {sz bytes:Nat} {u:V} {es:List (List V)} {H:View} {K:V→View→Prop} {w:cI (H,K)} (ho:bc H u sz es) (h:K u H):jB sz bytes u [] H K w:=by
  unfold jB
  rcases ho with ⟨_,k,rfl⟩ | ⟨n,rfl,_⟩ <;> simpa using h
theorem Left.behind {H H':View} {q:Nat} {o:cU} {u r:V} (hq:H q=.dead) (h:Left (H.set q o) H' u r):Left H H' u r:=fun a ha hau=>by
  have e:¬ a=q:=by rintro rfl; exact ha hq
  have:=h a (by simp[View.set,e]; exact ha) hau
  simpa [View.set,e] using this
set_option maxHeartbeats 8000000 in
theorem AD (u:V) (l:List aN) (hl:l.length≤100000) (x:aN) (H:View) (ho:bc H u 2 (bD l)):aC Tryz.prog 119 [u,.agg (bE x)] H fun r H'=>bc H' r 2 (bD (dF l x))∧Left H H' u r:=by
  refine aC.of mixed w6 ?_
  have hlen:dq u=some l.length:=by rw[ho.len]; simp[bD]
  have hle:=BY l x
  simp (disch:=omega) only [↓wr,wq,ah,Nat.reduceAdd,Nat.reduceLeDiff,qZ,bE]
  refine ba.up (dy l x) (fun i T H'=>H'=H∧i≤dy l x∧T 0=u∧T 3=.aT (bE x) 0∧T 5=gi i) ⟨rfl,by omega,rfl,rfl,rfl⟩ ?_
  rintro i k T H' hk ⟨eH,hi,t0,t3,t5⟩
  subst eH
  simp (disch:=omega) only [↓wr,↓reduceIte,wq,ag,aj,Nat.reduceEqDiff,reduceCtorEq,oF,t0,t5,hlen]
  have stop:i=dy l x→True:=fun _=>trivial
  refine av.dec (fun hc=>?_) (fun hc=>?_)
  · have hy:l[i]?=some (l[i]'(by omega)):=List.getElem?_eq_getElem (by omega)
    generalize l[i]'(by omega)=y at hy
    obtain ⟨id,hu,hid⟩:=ho.sl (by simp[bD]; omega)
    have hl3:(bD l).length=l.length:=by simp[bD]
    have hg:(bD l).getD i []=bE y:=by simp[bD,List.getD_eq_getElem?_getD,hy]
    have h15:=MA y x
    simp only[bE] at h15 hg
    simp (disch:=omega) only [↓wr,↓reduceIte,wq,Nat.reduceEqDiff,Nat.reduceAdd,Nat.reduceLeDiff,reduceCtorEq,t0,t3,t5,hu,hid,hg,bE]
    refine ⟨by simp[bD]; omega,by simp[bD]; omega,?_⟩
    refine aE.pure h15 (by kernel_rfl) ?_
    simp (disch:=omega) only [↓wr,↓reduceIte,wq,Nat.reduceEqDiff]
    refine av.split (fun e=>?_) (fun e=>?_)
    · have hlt:i < dy l x:=by
        rcases Nat.lt_or_ge i (dy l x) with h | h
        · exact h
        · have:=Bm l x y (by rw[show dy l x=i by omega]; exact hy)
          rw[this] at e; exact absurd e (by simp)
      simp (disch:=omega) only [↓wr,↓reduceIte,wq,ag,Nat.reduceEqDiff,reduceCtorEq,t0,t5]
      exact aV hk hlt ⟨rfl,hlt,t0,t3,rfl⟩
    have hia:i=dy l x:=by
      rcases Nat.lt_or_ge i (dy l x) with h | h
      · rw[Bt l x i y hy h] at e; exact absurd e (by simp)
      · omega
    simp (disch:=omega) only [↓wr,↓reduceIte,wq,ag,Nat.reduceEqDiff,reduceCtorEq,t0,t5,hlen]
    refine av.dec (fun _=>?_) (fun h=>absurd hc h)
    simp (disch:=omega) only [↓wr,↓reduceIte,wq,Nat.reduceEqDiff,Nat.reduceAdd,Nat.reduceLeDiff,reduceCtorEq,t0,t3,t5,hu,hid,hg,bE]
    refine ⟨by simp[bD]; omega,by simp[bD]; omega,?_⟩
    refine gB (xs:=#[.int .i64 y.aP,.int .i64 y.dot]) (ys:=#[.int .i64 x.aP,.int .i64 x.dot]) Tryz.underlying55 (by kernel_rfl) (by kernel_rfl) ?_ ?_ (tQ y x) (.inl ⟨rfl,rfl⟩) ?_
    · rfl
    · rfl
    rw[Bv]
    simp (disch:=omega) only [↓wr,↓reduceIte,wq,Nat.reduceEqDiff]
    refine av.dec (fun e2=>?_) (fun e2=>?_)
    · subst e2
      simp (disch:=omega) only [↓wr,↓reduceIte,wq,reduceCtorEq,t0]
      rw[wz,if_pos (by rw[← hia]; exact hy)]
      exact ⟨ho,fun id hid ho=>⟨rfl,ho⟩⟩
    rw[hl3] at hu
    have hel:bN H' (.sl id i (l.length - i) 2)=some (bD (l.drop i),[id]):=by
      obtain ⟨q,hq⟩:∃ q,l.length - i=q+1:=⟨l.length - i - 1,by omega⟩
      rw[hq,xw H' id i q 2 2 (bD l) hid (by rw[hl3]; omega)]
      rw[show (bD l).drop i=bD (l.drop i) from List.map_drop.symm,List.take_of_length_le (by simp[bD]; omega)]
    simp (disch:=omega) only [↓wr,↓reduceIte,wq,Nat.reduceEqDiff,reduceCtorEq,t0,t5,hu,y4 (sz:=2) (id:=id) (off:=0) (k:=l.length) (m:=i) (by omega),hel]
    refine gz bc.nil (MC _) (by unfold aJ bD; simp; omega) (by unfold aJ bD; simp; omega) ?_
    intro rest H1 hor lr
    simp (disch:=omega) only [↓wr,↓reduceIte,wq,af,Nat.reduceEqDiff,Nat.reduceAdd,Nat.reduceLT,Nat.reduceLeDiff,reduceCtorEq,t0,t3,t5,hu,sW (sz:=2) (id:=id) (off:=0) (k:=l.length) (m:=i) (by omega),bE]
    intro q hq
    have hidr:owner rest≠some id:=(lr id (by rw[hid]; simp) (by simp[owner])).2
    have hid1:H1 id=.arr 2 (bD l):=by rw[(lr id (by rw[hid]; simp) (by simp[owner])).1,hid]
    have hqid:¬ id=q:=by rintro rfl; rw[hid1] at hq; simp at hq
    simp (disch:=omega) only [↓wr,↓reduceIte,wq,Nat.reduceEqDiff,bp]
    rw[oR _ _ _ _ _ _ _ _ _ _ (by rfl)]
    simp (disch:=omega) only [↓wr,↓reduceIte,wq,Nat.reduceEqDiff,Nat.reduceAdd,hqid,hid1,hl3]
    refine ⟨rfl,⟨by omega,by unfold aJ; omega,by unfold aJ; omega⟩,fun n2 hn2=>?_⟩
    rw[List.drop_zero]
    have n2q:¬ n2=q:=by rintro rfl; simp at hn2
    rw[if_neg n2q] at hn2
    have n2id:¬ n2=id:=by rintro rfl; rw[hid1] at hn2; simp at hn2
    have hor3:=((hor.fresh (o:=.arr 2 [[gi x.aP,gi x.dot]]) hq).other (o:=.dead) hidr).fresh (m:=n2) (o:=.arr 2 (List.take i (bD l) ++ [[gi x.aP,gi x.dot]])) (by simp[View.set,n2q,n2id,hn2])
    have ho3:bc (((H1.set q (.arr 2 [[gi x.aP,gi x.dot]])).set id .dead).set n2 (.arr 2 (List.take i (bD l) ++ [[gi x.aP,gi x.dot]]))) (.sl n2 0 (i+1) 2) 2 (List.take i (bD l) ++ [[gi x.aP,gi x.dot]]):=.inr ⟨n2,by simp[hl3]; omega,by simp[View.set]⟩
    have hk3:∀ a,H' a≠.dead→a≠id→(((H1.set q (.arr 2 [[gi x.aP,gi x.dot]])).set id .dead).set n2 (.arr 2 (List.take i (bD l) ++ [[gi x.aP,gi x.dot]]))) a=H' a∧a≠n2:=fun a ha hai=>by
      have h1:=(lr a ha (by simp[owner])).1
      have aq:¬ a=q:=by rintro rfl; rw[hq] at h1; exact ha h1.symm
      have an:¬ a=n2:=by rintro rfl; rw[hn2] at h1; exact ha h1.symm
      exact ⟨by simp[View.set,aq,an,hai,h1],an⟩
    generalize ((H1.set q (.arr 2 [[gi x.aP,gi x.dot]])).set id .dead).set n2 (.arr 2 (List.take i (bD l) ++ [[gi x.aP,gi x.dot]]))=H3 at hor3 ho3 hk3 ⊢
    rw[List.nil_append] at hor3
    obtain ⟨rd,he⟩:=Ns hor3
    simp (disch:=omega) only [↓wr,↓reduceIte,wq,Nat.reduceEqDiff,he]
    refine gz ho3 (MC _) (by unfold aJ bD; simp; omega) (by unfold aJ bD; simp; omega) ?_
    intro r H4 o4 l4
    simp (disch:=omega) only [↓wr,↓reduceIte,wq,reduceCtorEq]
    refine ⟨?_,fun a ha hau=>?_⟩
    · rw[wz,if_neg (by rw[← hia,hy]; simpa using e2),← hia]
      simpa [bD,bE,List.map_take,List.map_drop] using o4
    · obtain ⟨k1,k2⟩:=hk3 a ha (by rintro rfl; exact hau (by rw[hu]; rfl))
      have:=l4 a (by rw[k1]; exact ha) (by simp[owner]; exact fun h=>k2 h.symm)
      exact ⟨by rw[this.1,k1],this.2⟩
  · simp (disch:=omega) only [↓wr,↓reduceIte,wq,ag,Nat.reduceEqDiff,reduceCtorEq,t0,t5,hlen]
    refine av.dec (fun h=>absurd h hc) (fun _=>?_)
    have hil:i=l.length:=by omega
    subst hil
    have hput:bD (dF l x)=bD l ++ [[gi x.aP,gi x.dot]]:=by
      rw[wz,show dy l x=l.length by omega,List.getElem?_eq_none (Nat.le_refl _),if_neg (by simp),List.take_length,List.drop_length]
      simp[bD,bE]
    rcases ho with ⟨e,k0,hu⟩ | ⟨id,hu,hid⟩
    · have hl0:l=[]:=by simpa [bD] using e
      subst hl0
      simp (disch:=omega) only [↓wr,↓reduceIte,wq,Nat.reduceEqDiff,reduceCtorEq,t0,t5,hu,show ∀ k,dW 2 (.emp k) (some (gi ((0:Nat):Int))) none=some (.emp k,.none,[]) from fun k=>rfl,show ∀ k,dW 2 (.emp k) none (some (gi ((0:Nat):Int)))=some (.emp k,.none,[]) from fun k=>rfl]
      refine pE bc.nil ?_
      simp (disch:=omega) only [↓wr,↓reduceIte,wq,af,Nat.reduceEqDiff,Nat.reduceAdd,Nat.reduceLT,Nat.reduceLeDiff,reduceCtorEq,t0,t3,t5,hu,show ∀ k,dW 2 (.emp k) none (some (gi ((0:Nat):Int)))=some (.emp k,.none,[]) from fun k=>rfl,bE]
      intro q hq
      simp (disch:=omega) only [↓wr,↓reduceIte,wq,Nat.reduceEqDiff,bp]
      refine gz (sz:=2) (u:=.emp k0) bc.nil (by simp[aU]) (by unfold aJ; simp) (by unfold aJ; simp) ?_
      intro r H4 o4 l4
      simp (disch:=omega) only [↓wr,↓reduceIte,wq,Nat.reduceEqDiff]
      refine pE o4 ?_
      simp (disch:=omega) only [↓wr,↓reduceIte,wq,reduceCtorEq]
      exact ⟨by rw[hput]; exact o4,hu ▸ Left.behind hq l4⟩
    · rw[show (bD l).length=l.length by simp[bD]] at hu
      simp (disch:=omega) only [↓wr,↓reduceIte,wq,Nat.reduceEqDiff,reduceCtorEq,t0,t5,hu,y4 (sz:=2) (id:=id) (off:=0) (k:=l.length) (m:=l.length) (by omega)]
      rw[Nat.sub_self,show bN H' (.sl id l.length 0 2)=some ([],[]) from rfl]
      simp (disch:=omega) only [↓wr,↓reduceIte,wq,Nat.reduceEqDiff]
      refine pE bc.nil ?_
      simp (disch:=omega) only [↓wr,↓reduceIte,wq,af,Nat.reduceEqDiff,Nat.reduceAdd,Nat.reduceLT,Nat.reduceLeDiff,reduceCtorEq,t0,t3,t5,hu,sW (sz:=2) (id:=id) (off:=0) (k:=l.length) (m:=l.length) (by omega),bE]
      intro q hq
      simp (disch:=omega) only [↓wr,↓reduceIte,wq,Nat.reduceEqDiff,bp]
      have ho2:bc H' (.sl id 0 l.length 2) 2 (bD l):=.inr ⟨id,by simp[bD],hid⟩
      refine gz (sz:=2) (ho2.fresh hq) (by simp[aU]) (by unfold aJ bD; simp; omega) (by unfold aJ bD; simp; omega) ?_
      intro r H4 o4 l4
      simp (disch:=omega) only [↓wr,↓reduceIte,wq,Nat.reduceEqDiff]
      refine pE o4 ?_
      simp (disch:=omega) only [↓wr,↓reduceIte,wq,reduceCtorEq]
      exact ⟨by rw[hput]; exact o4,hu ▸ Left.behind hq l4⟩
def dR (g:ay) (r:Int):List Int:=if r = -1 then [-1 - g.start] else (bk g r).right
def bI (g:ay) (x:aN):Int × Bool:=if x.dot=(dR g x.aP).length then (0,false) else ((dR g x.aP).getD x.dot.toNat 0,true)
def oN:SF:=⟨.seq (ak [bW 2 0,((some 4),.op (.bo (.val (.emp 1))))]) <|
  .seq (.seq (ak [aa 5 1,az 6 .eql 5 (-1)]) <|
  .cond (.tmp 6) (.seq (ak [au 7 3 2,ao 8 7,((some 9),.op (.arith .sub (.val (.val (.int .i64 (-1)))) (.tmp 8))),((some 10),.op (.bh 1 1 [(.val (.int .i64 0))] [(0,(.tmp 9))])),aa 4 10]) <|
  .ret) (.skip)) <|
  .seq (ak [au 11 2 2,ao 12 11,aa 13 1,aS 14 3 12 13,au 15 1 14,ao 16 15,aa 4 16]) <|
  .ret,
  [.tmp 4],17⟩
theorem ub:aY Tryz.prog 67 [2]=some oN:=by kernel_rfl
def qF:SF:=⟨.seq (ak [bW 2 0,bW 3 1,aI 4 0,aZ 5 false]) <|
  .seq (ak [aO 7 4 2,au 8 0 3,ao 9 8,aQ 10 67 [7,9],aa 6 10]) <|
  .seq (.seq (ak [au 11 1 3,ao 12 11,aa 13 6,aM 14 13,aR 15 .eql 12 14]) <|
  .cond (.tmp 15) (.seq (ak [aI 4 0,aZ 5 false]) <|
  .ret) (.skip)) <|
  .seq (ak [aa 16 6,au 17 1 3,ao 18 17,aS 19 1 16 18,ao 20 19,aa 4 20,aZ 5 true]) <|
  .ret,
  [.tmp 4,.tmp 5],21⟩
theorem vE:aY Tryz.prog 63 [2,3]=some qF:=by kernel_rfl
theorem Bb (g:ay) (hs : -100≤g.start∧g.start≤100) (r:Int) (hr : -1≤r∧r < (g.rules.length:Int)):aD Tryz.prog 67 [.agg (aw g),gi r] (encI (dR g r)):=by
  refine aD.of (by
    intro v hv; simp at hv
    rcases hv with rfl | rfl
    · exact bL _ (bU g)
    · exact .val _) ?_
  refine aC.of mixed ub ?_
  unfold dR
  simp (disch:=omega) only [↓wr,↓reduceIte,wq,ah,ag,Nat.reduceEqDiff,Nat.reduceAdd,Nat.reduceLeDiff,Int.reduceNeg,oN,aw,encS]
  refine av.eq (fun h1=>?_) (fun h1=>?_)
  · simp (disch:=omega) only [↓wr,↓reduceIte,wq,ag,af,Nat.reduceEqDiff,Nat.reduceAdd,Nat.reduceLT,Int.reduceNeg,reduceCtorEq]
    intro n
    rw[if_pos h1]
    rintro h' hv
    refine bZ.fr (sG (l:=[-1 - g.start]) (.inr ⟨n,rfl,?_⟩))
    rw[hv]; simp[View.set]
  · have hR:g.rules[r.toNat]?=some (bk g r):=by unfold bk; exact getD_some (by omega)
    rw[if_neg h1]
    generalize bk g r=R at hR
    simp (disch:=omega) only [↓wr,↓reduceIte,wq,Nat.reduceEqDiff,Nat.reduceAdd,Nat.reduceLT,Int.reduceNeg,reduceCtorEq,List.getElem?_map,hR,bP]
    intro h' _
    exact .tree _ (cF R.right)
theorem Nv (g:ay) (hs : -100≤g.start∧g.start≤100) (x:aN) (hx : -1≤x.aP∧x.aP < (g.rules.length:Int)) (hd:0≤x.dot∧x.dot≤(dR g x.aP).length) (hl:(dR g x.aP).length≤1000) :
    aD Tryz.prog 63 [.agg (aw g),.agg (bE x)] (.bf [gi (bI g x).1,gb (bI g x).2]):=by
  have h1:=Bb g hs x.aP hx
  refine aD.tree (by
    intro v hv; simp at hv
    rcases hv with rfl | rfl
    · exact bL _ (bU g)
    · exact bL _ fun v hv=>by simp[bE] at hv; rcases hv with rfl | rfl <;> exact .val _) (.bf _ fun i hi=>by
      match i,hi with
      | 0,_=>exact .val _
      | 1,_=>exact .val _) fun H=>?_
  refine aC.of mixed vE ?_
  simp only[aw,encS,encI] at h1
  unfold bI
  simp (disch:=omega) only [↓wr,↓reduceIte,wq,ah,Nat.reduceEqDiff,Nat.reduceAdd,Nat.reduceLT,Nat.reduceLeDiff,qF,aw,encS,bE]
  refine aE.pure h1 (by kernel_rfl) ?_
  generalize dR g x.aP=R at hd hl ⊢
  simp (disch:=omega) only [↓wr,↓reduceIte,wq,ag,aj,Nat.reduceEqDiff,Nat.reduceAdd,Nat.reduceLT]
  refine av.eq (fun h2=>?_) (fun h2=>?_)
  · simp (disch:=omega) only [↓wr,↓reduceIte,wq,Nat.reduceEqDiff,reduceCtorEq]
    rw[if_pos h2]
  · have hg:R[x.dot.toNat]?=some (R.getD x.dot.toNat 0):=getD_some (by omega)
    simp (disch:=omega) only [↓wr,↓reduceIte,wq,Nat.reduceEqDiff,Nat.reduceAdd,Nat.reduceLT,reduceCtorEq,List.getElem?_map,hg]
    rw[if_neg h2]
theorem iZ {a b:aN} : fk a b=true↔a.aP < b.aP∨a.aP=b.aP∧a.dot < b.dot:=by
  simp[fk]
theorem yB {a b c:aN} (h:fk a b=true) (k:fk b c=true):fk a c=true:=by
  rw[iZ] at h k ⊢; omega
theorem rL {a:aN} : fk a a=false:=by
  cases h:fk a a with
  | false=>rfl
  | true=>rw[iZ] at h; omega
theorem KW {a b:aN} (h:fk a b=false) (hne:¬ a=b):fk b a=true:=by
  rw[iZ]
  have h1:¬ fk a b=true:=by simp[h]
  rw[iZ] at h1
  obtain ⟨ar,ad⟩:=a
  obtain ⟨br,bd⟩:=b
  simp only[aN.mk.injEq] at hne
  simp only at h1 ⊢
  omega
abbrev b6 (l:List aN):Prop:=l.Pairwise fun a b=>fk a b=true
theorem gX:∀ {l:List aN} {x y:aN},y∈dF l x↔y=x∨y∈l
  | [],x,y=>by simp[dF]
  | z :: l,x,y=>by
    rw[dF]
    split
    · simp only[List.mem_cons,gX (l:=l)]
      constructor
      · rintro (h | h | h) <;> simp[h]
      · rintro (h | h | h) <;> simp[h]
    · split
      · rename_i h; subst h; simp
      · simp
theorem nk:∀ {l:List aN} {x:aN},b6 l→b6 (dF l x)
  | [],x,_=>by simp[dF,b6]
  | z :: l,x,h=>by
    rw[b6,List.pairwise_cons] at h
    rw[dF]
    split
    · rename_i hz
      rw[b6,List.pairwise_cons]
      refine ⟨fun y hy=>?_,nk h.2⟩
      rcases gX.1 hy with rfl | hy
      · exact hz
      · exact h.1 y hy
    · rename_i hz
      split
      · exact List.pairwise_cons.2 h
      · rename_i hne
        have hxz:=KW (by simpa using hz) hne
        rw[b6,List.pairwise_cons]
        refine ⟨fun y hy=>?_,List.pairwise_cons.2 h⟩
        rcases List.mem_cons.1 hy with rfl | hy
        · exact hxz
        · exact yB hxz (h.1 y hy)
theorem Eh:∀ (l:List aN) (x:aN),(dF l x).length=l.length∨(dF l x).length=l.length+1
  | [],x=>.inr rfl
  | z :: l,x=>by
    rw[dF]
    split
    · rcases Eh l x with h | h <;> simp[h]
    · split <;> simp
theorem B2:∀ {l:List aN} {x:aN},b6 l→x∈l→dF l x=l
  | [],x,_,h=>by simp at h
  | z :: l,x,hs,h=>by
    rw[b6,List.pairwise_cons] at hs
    rw[dF]
    rcases List.mem_cons.1 h with rfl | h
    · rw[if_neg (by simp[rL]),if_pos rfl]
    · rw[if_pos (hs.1 x h),B2 hs.2 h]
theorem BK:∀ {l:List aN} {x:aN},x ∉ l→(dF l x).length=l.length+1
  | [],x,_=>rfl
  | z :: l,x,h=>by
    simp only[List.mem_cons,not_or] at h
    rw[dF]
    split
    · simp[BK h.2]
    · rw[if_neg (fun e=>h.1 e.symm)]; rfl
theorem Er:∀ {l:List aN} {x:aN},(∀ y∈l,fk y x=true)→dF l x=l ++ [x]
  | [],x,_=>rfl
  | z :: l,x,h=>by
    rw[dF,if_pos (h z (by simp)),Er fun y hy=>h y (by simp[hy])]; rfl
theorem EC:∀ {a b:List aN},b6 a→b6 b→(∀ x,x∈a↔x∈b)→a=b
  | [],[],_,_,_=>rfl
  | [],y :: b,_,_,h=>by have:=(h y).2 (by simp); simp at this
  | x :: a,[],_,_,h=>by have:=(h x).1 (by simp); simp at this
  | x :: a,y :: b,ha,hb,h=>by
    rw[b6,List.pairwise_cons] at ha hb
    have hxy:x=y:=by
      have h1:=(h x).1 (by simp)
      have h2:=(h y).2 (by simp)
      rcases List.mem_cons.1 h1 with h1 | h1
      · exact h1
      · rcases List.mem_cons.1 h2 with h2 | h2
        · exact h2.symm
        · have:=yB (ha.1 y h2) (hb.1 x h1)
          rw[rL] at this; exact absurd this (by simp)
    subst hxy
    congr 1
    refine EC ha.2 hb.2 fun z=>?_
    have hz:=h z
    simp only[List.mem_cons] at hz
    constructor
    · intro hm
      rcases hz.1 (.inr hm) with rfl | h
      · have:=ha.1 z hm; rw[rL] at this; exact absurd this (by simp)
      · exact h
    · intro hm
      rcases hz.2 (.inr hm) with rfl | h
      · have:=hb.1 z hm; rw[rL] at this; exact absurd this (by simp)
      · exact h
theorem Fi:∀ (l:List Int) (a n:Int),l.Pairwise (· < ·)→(∀ x∈l,a≤x∧x < a+n)→0≤n→(l.length:Int)≤n
  | [],a,n,_,_,hn=>by simpa using hn
  | x :: l,a,n,hp,hm,hn=>by
    rw[List.pairwise_cons] at hp
    have h1:=hm x (by simp)
    have:=Fi l (x+1) (a+n - (x+1)) hp.2 (fun y hy=>by have:=hp.1 y hy; have:=hm y (by simp[hy]); omega) (by omega)
    simp only[List.length_cons]; omega
def cW (g:ay) (x:aN):Prop:=(-1≤x.aP∧x.aP < (g.rules.length:Int))∧0≤x.dot∧x.dot≤(dR g x.aP).length
theorem ig {g:ay} (hf:g.dU) {r:Int} (h : -1≤r∧r < (g.rules.length:Int)):(dR g r).length≤6:=by
  unfold dR
  split
  · simp
  · have hR:g.rules[r.toNat]?=some (bk g r):=by unfold bk; exact getD_some (by omega)
    exact hf.right _ (List.mem_of_getElem? hR)
theorem ia {g:ay} (hf:g.dU) {l:List aN} (hs:b6 l) (hl:∀ x∈l,cW g x):l.length≤287:=by
  have hd:∀ x∈l,0≤x.dot∧x.dot≤6:=fun x hx=>by
    have h1:=hl x hx
    have:=ig hf h1.1
    exact ⟨h1.2.1,by have:=h1.2.2; omega⟩
  have h1:(l.map fun x=>(x.aP+1) * 7+x.dot).Pairwise (· < ·):=by
    rw[List.pairwise_map]
    refine List.Pairwise.imp_of_mem ?_ hs
    intro a b ha hb hab
    rw[iZ] at hab
    have:=hd a ha; have:=hd b hb
    omega
  have:=Fi _ 0 287 h1 (fun y hy=>by
    obtain ⟨x,hx,rfl⟩:=List.mem_map.1 hy
    have h2:=(hl x hx).1
    have:=hd x hx; have:=hf.rules
    omega) (by omega)
  simp at this
  omega
inductive lU (g:ay) (l:List aN):aN→Prop
  | base {x:aN} : x∈l→lU g l x
  | step {x:aN} {s:Int} {k:Nat} {R:cR} : lU g l x→bI g x=(s,true)→s < 0→g.rules[k]?=some R→R.left = -1 - s→lU g l ⟨k,0⟩
theorem lU.has {g:ay} {l:List aN} (hl:∀ x∈l,cW g x) {x:aN} (h:lU g l x):cW g x:=by
  induction h with
  | base h=>exact hl _ h
  | step _ _ _ hk _ _ =>
    have:=(List.getElem?_eq_some_iff.1 hk).1
    exact ⟨⟨by simp only; omega,by simp only; omega⟩,by simp only; omega,by simp only; omega⟩
def GF (g:ay):List aN:=(List.range (g.rules.length+1)).flatMap fun (r:Nat)=>(List.range 7).map fun (d:Nat)=>(⟨(r:Int) - 1,(d:Int)⟩:aN)
theorem KT {g:ay} (hf:g.dU) {x:aN} (h:cW g x):x∈GF g:=by
  have:=ig hf h.1
  obtain ⟨⟨h1,h2⟩,h3,h4⟩:=h
  simp only[GF,List.mem_flatMap,List.mem_map,List.mem_range]
  refine ⟨(x.aP+1).toNat,by omega,x.dot.toNat,by omega,?_⟩
  obtain ⟨r,d⟩:=x
  simp only at h1 h2 h3 h4 this
  simp only[aN.mk.injEq]; omega
theorem si:∀ (l a:List aN),b6 a→b6 (l.foldl dF a)∧∀ x,x∈l.foldl dF a↔x∈a∨x∈l
  | [],a,h=>⟨h,fun x=>by simp⟩
  | y :: l,a,h=>by
    obtain ⟨h1,h2⟩:=si l (dF a y) (nk h)
    refine ⟨h1,fun x=>?_⟩
    rw[List.foldl_cons,h2,gX,List.mem_cons]
    constructor
    · rintro ((h | h) | h) <;> simp[h]
    · rintro (h | h | h) <;> simp[h]
open Classical in
noncomputable def dA (g:ay) (l:List aN):List aN:=((GF g).filter fun x=>decide (lU g l x)).foldl dF []
theorem rQ (g:ay) (l:List aN):b6 (dA g l):=(si _ [] .nil).1
theorem jU {g:ay} (hf:g.dU) {l:List aN} (hl:∀ x∈l,cW g x) {x:aN} : x∈dA g l↔lU g l x:=by
  classical
  rw[dA,(si _ [] .nil).2]
  simp only[List.not_mem_nil,false_or,List.mem_filter,decide_eq_true_eq]
  exact ⟨fun h=>h.2,fun h=>⟨KT hf (h.has hl),h⟩⟩
theorem Gq {g:ay} (hf:g.dU) {l o:List aN} (hl:∀ x∈l,cW g x) (hs:b6 o) (h1:∀ x∈o,lU g l x) (h2:∀ x∈l,x∈o)
    (h3:∀ x∈o,∀ (s:Int) (k:Nat) (R:cR),bI g x=(s,true)→s < 0→g.rules[k]?=some R→R.left = -1 - s→(⟨k,0⟩:aN)∈o):dA g l=o:=by
  refine EC (rQ g l) hs fun x=>?_
  rw[jU hf hl]
  refine ⟨fun h=>?_,h1 x⟩
  induction h with
  | base h=>exact h2 _ h
  | step _ hn hs hk hL ih=>exact h3 _ ih _ _ _ hn hs hk hL
theorem DU {g:ay} (hf:g.dU) {l:List aN} (hl:∀ x∈l,cW g x):(dA g l).length≤287 :=
  ia hf (rQ g l) fun _ hx=>((jU hf hl).1 hx).has hl
def dc (g:ay) (l:List aN) (s:Int):List aN:=(l.filter fun x=>decide (bI g x=(s,true))).map fun x=>⟨x.aP,x.dot+1⟩
theorem FC {g:ay} {l:List aN} {s:Int} {y:aN} : y∈dc g l s↔∃ x∈l,bI g x=(s,true)∧y=⟨x.aP,x.dot+1⟩:=by
  simp only[dc,List.mem_map,List.mem_filter,decide_eq_true_eq]
  constructor
  · rintro ⟨x,⟨h1,h2⟩,rfl⟩; exact ⟨x,h1,h2,rfl⟩
  · rintro ⟨x,h1,h2,rfl⟩; exact ⟨x,⟨h1,h2⟩,rfl⟩
theorem LL {g:ay} {l:List aN} (s:Int) (h:b6 l):b6 (dc g l s):=by
  rw[b6,dc,List.pairwise_map]
  refine (h.filter _).imp ?_
  intro a b hab
  rw[iZ] at hab ⊢
  simp only; omega
theorem An {g:ay} {x:aN} {s:Int} (h:bI g x=(s,true)):x.dot≠(dR g x.aP).length∧(dR g x.aP).getD x.dot.toNat 0=s:=by
  unfold bI at h
  split at h
  · simp at h
  · rename_i hd; exact ⟨hd,by simpa using h⟩
theorem N8 {g:ay} {l:List aN} {s:Int} (hl:∀ x∈l,cW g x):∀ y∈dc g l s,cW g y:=by
  intro y hy
  obtain ⟨x,hx,hn,rfl⟩:=FC.1 hy
  have h1:=hl x hx
  have h2:=(An hn).1
  exact ⟨h1.1,by simp only; have:=h1.2; omega,by simp only; have:=h1.2; omega⟩
theorem Ln {g:ay} {l:List aN} (hs:b6 l) {i:Nat} {x:aN} (hx:l[i]?=some x) (s:Int) :
    dc g (l.take (i+1)) s=if bI g x=(s,true) then dF (dc g (l.take i) s) ⟨x.aP,x.dot+1⟩ else dc g (l.take i) s:=by
  have e:l.take (i+1)=l.take i ++ [x]:=by rw[List.take_add_one,hx]; rfl
  rw[e]
  split
  · rename_i h
    rw[Er]
    · simp[dc,h]
    · intro y hy
      obtain ⟨z,hz,_,rfl⟩:=FC.1 hy
      have h2:b6 (l.take (i+1)):=hs.sublist (List.take_sublist _ _)
      rw[e,b6,List.pairwise_append] at h2
      have:=h2.2.2 z hz x (by simp)
      rw[iZ] at this ⊢
      simp only; omega
  · rename_i h
    simp[dc,h]
theorem Fp {g:ay} {l:List aN} {s:Int} : (dc g l s).length≤l.length:=by
  rw[dc,List.length_map]; exact List.length_filter_le _ _
structure bt where
  bG:List aN
  cp:List de
  deriving DecidableEq
abbrev cK:bt:=⟨[],[]⟩
def c6 (g:ay) (i:Nat):Int:=if i < g.ax.length then i else -1 - ((i:Int) - g.ax.length)
def findD:List bt→List aN→Int
  | [],_=>-1
  | s :: l,k=>if s.bG=k then 0 else if findD l k < 0 then -1 else findD l k+1
theorem FH:∀ (l:List bt) (k:List aN),-1≤findD l k
  | [],_=>by simp[findD]
  | s :: l,k=>by
    have:=FH l k
    rw[findD]; split
    · omega
    · split <;> omega
theorem Az:∀ (l:List bt) (k:List aN),findD l k < l.length
  | [],_=>by simp[findD]
  | s :: l,k=>by
    have:=Az l k
    rw[findD]; simp only[List.length_cons]; split
    · omega
    · split <;> omega
theorem Hs:∀ (l:List bt) (k:List aN) (i:Nat),findD l k=i→∃ s,l[i]?=some s∧s.bG=k
  | [],_,i,h=>by simp[findD] at h
  | s :: l,k,i,h=>by
    rw[findD] at h
    split at h
    · rename_i e
      have:i=0:=by omega
      subst this
      exact ⟨s,rfl,e⟩
    · split at h
      · omega
      · obtain ⟨j,rfl⟩:∃ j,i=j+1:=⟨i - 1,by omega⟩
        obtain ⟨t,h1,h2⟩:=Hs l k j (by omega)
        exact ⟨t,by simpa using h1,h2⟩
theorem G2:∀ (l:List bt) (k:List aN) (i:Nat) (s:bt),l[i]?=some s→s.bG=k→(∀ j t,j < i→l[j]?=some t→t.bG≠k)→findD l k=i
  | [],_,_,_,h,_,_=>by simp at h
  | t :: l,k,0,s,h,hk,_=>by simp at h; subst h; simp[findD,hk]
  | t :: l,k,i+1,s,h,hk,hn=>by
    have h0:=hn 0 t (by omega) rfl
    have:=G2 l k i s (by simpa using h) hk fun j u hj hu=>hn (j+1) u (by omega) (by simpa using hu)
    rw[findD,if_neg h0,this,if_neg (by omega)]; omega
theorem Bw:∀ (l:List bt) (k:List aN),(∀ s∈l,s.bG≠k)→findD l k = -1
  | [],_,_=>rfl
  | t :: l,k,h=>by
    have:=Bw l k fun s hs=>h s (by simp[hs])
    rw[findD,if_neg (h t (by simp)),this]; rfl
def dK (g:ay) (l:List aN) (at_:Nat) (out:List bt) (i:Nat):List bt :=
  if dc g l (c6 g i)=[] then out else
  if findD out (dc g l (c6 g i)) < 0 then (out ++ [(⟨dc g l (c6 g i),[]⟩:bt)]).modify at_ fun s=>(⟨s.bG,s.cp ++ [⟨c6 g i,out.length⟩]⟩:bt)
  else out.modify at_ fun s=>(⟨s.bG,s.cp ++ [⟨c6 g i,findD out (dc g l (c6 g i))⟩]⟩:bt)
noncomputable def yT (g:ay) (at_:Nat) (out:List bt) (n:Nat):List bt:=(List.range n).foldl (dK g (dA g (out.getD at_ cK).bG) at_) out
noncomputable def iD (g:ay):Nat→Nat→List bt→List bt × Int
  | 0,_,out=>(out,0)
  | f+1,at_,out=>if at_ < out.length then
      (if 300 < (yT g at_ out (g.ax.length+g.aA.length)).length then ([],5) else iD g f (at_+1) (yT g at_ out (g.ax.length+g.aA.length)))
    else (out,0)
def gq:List bt:=[⟨[⟨-1,0⟩],[]⟩]
abbrev BV:=BitVec 32
def ib (n:Int):BV:=if 0≤n∧n≤31 then BitVec.twoPow 32 n.toNat else 0
theorem zk {a b:BV} (h:∀ i,i < 32→a.getLsbD i=b.getLsbD i):a=b:=BitVec.eq_of_getLsbD_eq fun i hi=>h i hi
def sg (a b:BV):Prop:=∀ i,a.getLsbD i=true→b.getLsbD i=true
theorem C0 {a b:BV} : (a ||| b)=b↔sg a b:=by
  constructor
  · intro h i hi
    rw[← h,BitVec.getLsbD_or,hi]; rfl
  · intro h
    refine zk fun i _=>?_
    rw[BitVec.getLsbD_or]
    cases ha:a.getLsbD i with
    | false=>rfl
    | true=>rw[h i ha]; rfl
theorem Ac {a b:BV} : (a &&& ~~~b)=0↔sg a b:=by
  constructor
  · intro h i hi
    have hl:i < 32:=BitVec.lt_of_getLsbD hi
    have:=congrArg (fun x:BV=>x.getLsbD i) h
    simp only[BitVec.getLsbD_and,BitVec.getLsbD_not,hi] at this
    simpa [hl] using this
  · intro h
    refine zk fun i hl=>?_
    simp only[BitVec.getLsbD_and,BitVec.getLsbD_not]
    cases ha:a.getLsbD i with
    | false=>simp
    | true=>rw[h i ha]; simp
theorem Mf {a:BV} : a=0↔∀ i,a.getLsbD i=false:=by
  constructor
  · rintro rfl i; simp
  · intro h; exact zk fun i _=>by rw[h]; simp
theorem R4 (a b:BV):b.toNat≤(a ||| b).toNat:=by
  rw[BitVec.toNat_or]; exact Nat.right_le_or
def jk (null:List Bool) (first:List BV) (rest:BV):List Int→BV
  | []=>rest
  | s :: l=>if 0≤s then ib s else if null.getD (-1 - s).toNat false=true then first.getD (-1 - s).toNat 0 ||| jk null first rest l else first.getD (-1 - s).toNat 0
theorem FK {null:List Bool} {first:List BV} {a b:BV} (h:sg a b):∀ l:List Int,sg (jk null first a l) (jk null first b l)
  | []=>h
  | s :: l=>by
    intro i hi
    rw[jk] at hi ⊢
    split
    · rename_i h0; rw[if_pos h0] at hi; exact hi
    · rename_i h0
      rw[if_neg h0] at hi
      split
      · rename_i h1
        rw[if_pos h1] at hi
        rw[BitVec.getLsbD_or,Bool.or_eq_true] at hi ⊢
        exact hi.imp id (FK h l i)
      · rename_i h1; rw[if_neg h1] at hi; exact hi
theorem P0 {null:List Bool} {first:List BV} {a:BV} : ∀ (l:List Int) (i:Nat),(jk null first a l).getLsbD i=true→a≠0→∃ t,a.getLsbD t=true∧(jk null first (BitVec.twoPow 32 t) l).getLsbD i=true:=by
  intro l i
  have hne:a≠0→∃ t,a.getLsbD t=true:=fun h=>Classical.byContradiction fun hn=>h (Mf.2 fun j=>by
    cases hj:a.getLsbD j with
    | false=>rfl
    | true=>exact absurd ⟨j,hj⟩ hn)
  induction l with
  | nil =>
    intro h _
    refine ⟨i,h,?_⟩
    rw[jk,BitVec.getLsbD_twoPow]
    have:=BitVec.lt_of_getLsbD h
    simp[this]
  | cons s l ih =>
    intro h ha
    rw[jk] at h
    split at h
    · rename_i h0
      obtain ⟨t,ht⟩:=hne ha
      exact ⟨t,ht,by rw[jk,if_pos h0]; exact h⟩
    · rename_i h0
      split at h
      · rename_i h1
        rw[BitVec.getLsbD_or,Bool.or_eq_true] at h
        rcases h with h | h
        · obtain ⟨t,ht⟩:=hne ha
          exact ⟨t,ht,by rw[jk,if_neg h0,if_pos h1,BitVec.getLsbD_or,h]; rfl⟩
        · obtain ⟨t,h3,h4⟩:=ih h ha
          exact ⟨t,h3,by rw[jk,if_neg h0,if_pos h1,BitVec.getLsbD_or,h4,Bool.or_true]⟩
      · rename_i h1
        obtain ⟨t,ht⟩:=hne ha
        exact ⟨t,ht,by rw[jk,if_neg h0,if_neg h1]; exact h⟩
theorem Ku {a:BV} {t:Nat} (h:a.getLsbD t=true):sg (BitVec.twoPow 32 t) a:=by
  intro i hi
  rw[BitVec.getLsbD_twoPow] at hi
  simp only[Bool.and_eq_true,decide_eq_true_eq] at hi
  rw[← hi.2]; exact h
def tE (null:List Bool) (fs:List BV) (r:cR):List BV:=fs.set r.left.toNat (fs.getD r.left.toNat 0 ||| jk null fs 0 r.right)
theorem EH (null:List Bool) (fs:List BV) (r:cR):(tE null fs r).length=fs.length:=by simp[tE]
def zo (g:ay) (null:List Bool) (fs:List BV):List BV:=g.rules.foldl (tE null) fs
theorem Ex (null:List Bool):∀ (l:List cR) (fs:List BV),(l.foldl (tE null) fs).length=fs.length
  | [],_=>rfl
  | r :: l,fs=>by rw[List.foldl_cons,Ex null l,EH]
theorem Ka (g:ay) (null:List Bool) (fs:List BV):(zo g null fs).length=fs.length:=Ex _ _ _
def j7 (g:ay) (null:List Bool):List BV:=iter (zo g null) g.aA.length (List.replicate g.aA.length 0)
theorem EU {f:List BV→List BV} (hf:∀ l,(f l).length=l.length):∀ (n:Nat) (l:List BV),(iter f n l).length=l.length
  | 0,_=>rfl
  | n+1,l=>by rw[iter,EU hf n,hf]
theorem K5 (g:ay) (null:List Bool):(j7 g null).length=g.aA.length:=by
  rw[j7,EU (Ka g null)]; simp
end Gv
