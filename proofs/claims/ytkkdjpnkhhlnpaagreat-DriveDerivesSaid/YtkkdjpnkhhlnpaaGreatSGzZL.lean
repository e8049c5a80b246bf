/-
  Part 12 of the proof: what the machine does and what the functions answer.
  Conditions: those that each lemma names.
-/
import Derived.Test.YtkkdjpnkhhlnpaaGreatSGzZK
set_option linter.unusedSimpArgs false
set_option linter.unusedVariables false
set_option maxRecDepth 100000
namespace Gv
open Go Go.Proofs
def pBox (g:Gram) (t:Tab) (w:List Int) (us ur:V):List V:=[.fro (g.terms.map encT),.fro (g.nons.map fun s=>[gs s]),.fro (g.rules.map encR),gi g.start,.fro (t.actions.map fun r=>[encRow r]),.fro (t.gotos.map fun r=>[encI r]),encI w,us,ur]
def PB (H:View) (c:Nat) (g:Gram) (t:Tab) (w st rs:List Int) (A:V) (al:List Int):Prop:=∃ us ur,H c=.arr 9 [pBox g t w us ur]∧Tail H us st∧OwnA H ur 1 (intsE rs)∧OwnA H A 1 (intsE al)∧(∀ id,owner us=some id→owner ur≠some id)∧(∀ id,owner A=some id→owner us≠some id∧owner ur≠some id)
def S_drive_parser_top:SF:=⟨.seq (ab [ai 2 0]) <|
  .seq (ab [aa 3 0,ax 4 3,af 5 7 4,ae 6 5,aa 7 0,ax 8 7,af 9 7 8,ae 10 9,aj 11 10,ah 12 .sub 11 1,av 13 1 6 12,ae 14 13,aa 2 14]) <|
  .ret,
  [.tmp 2],15⟩
theorem S_drive_parser_top_ok:compF Tryz.prog 103 []=some S_drive_parser_top:=by kernel_rfl
def S_drive_parser_reduce:SF:=⟨.seq (ab [aw 4 false]) <|
  .seq (ab [aa 8 0,ax 9 8,af 10 0 9,af 11 2 10,ae 12 11,aa 13 1,av 14 3 12 13,au 15 3 14,((some 5),.op (.alloc [(.val (.int .i64 0)),(.emp 1),(.val (.int .i64 0))])),(none,.op (.store 3 (.tmp 5) (.tmp 15)))]) <|
  .seq (ab [aa 16 0,ax 17 16,af 18 7 17,ae 19 18,aj 20 19,af 21 1 5,ae 22 21,aj 23 22,ak 24 .sub 20 23,aa 6 24]) <|
  .seq (.seq (ab [aa 25 6,ah 26 .lss 25 1]) <|
  .cond (.tmp 26) (.seq (ab [aw 4 false]) <|
  .ret) (.skip)) <|
  .seq (ab [aa 27 0,aa 28 0,ax 29 28,af 30 7 29,ae 31 30,aa 32 6,((some 33),.op (.slice 1 (.tmp 31) none (some (.tmp 32)))),ax 34 27,af 35 7 34,(none,.op (.store 1 (.tmp 35) (.tmp 33)))]) <|
  .seq (.region true [⟨none,[aa 36 0,ax 37 36,af 38 4 37,af 39 1 38,ae 40 39,aa 41 0,ao 42 103 [41],av 43 1 40 42,ae 44 43,af 45 0 5,ae 46 45,av 47 1 44 46,ae 48 47,aa 7 48]⟩]) <|
  .seq (.seq (ab [aa 49 7,ah 50 .lss 49 0]) <|
  .cond (.tmp 50) (.seq (ab [aw 4 false]) <|
  .ret) (.skip)) <|
  .seq (.regionA [(62,56)] [⟨none,[aa 51 0,aa 52 0,aa 53 0,ax 54 53,af 55 7 54,ae 56 55,aa 57 7,((some 58),.op (.bslice 1 1 [(.val (.int .i64 0))] [(0,(.tmp 57))])),((some 59),.op (.app 1 8 (.tmp 56) (.tmp 58))),aa 60 0,ax 61 60,af 62 8 61,ae 63 62,aa 64 1,((some 65),.op (.bslice 1 1 [(.val (.int .i64 0))] [(0,(.tmp 64))])),((some 66),.op (.app 1 8 (.tmp 63) (.tmp 65))),ax 67 51,af 68 7 67,(none,.op (.store 1 (.tmp 68) (.tmp 59))),ax 69 52,af 70 8 69,(none,.op (.store 1 (.tmp 70) (.tmp 66)))]⟩]) <|
  .seq (ab [aw 4 true]) <|
  .ret,
  [.tmp 4],71⟩
theorem S_drive_parser_reduce_ok:compF Tryz.prog 104 [100000]=some S_drive_parser_reduce:=by kernel_rfl
def B_drive_parser_run_0:SC :=
  .seq (.skip) <|
  .seq (.region true [⟨none,[aa 21 0,ax 22 21,af 23 4 22,af 24 0 23,ae 25 24,aa 26 0,ao 27 103 [26],av 28 1 25 27,ae 29 28,aa 30 5,aa 31 2,av 32 1 30 31,ae 33 32,av 34 2 29 33,au 35 2 34,((some 6),.op (.alloc [(.val (.int .i64 0)),(.val (.int .i64 0))])),(none,.op (.store 2 (.tmp 6) (.tmp 35)))]⟩]) <|
  .seq (ab [aa 36 2,aa 37 0,ax 38 37,af 39 6 38,ae 40 39,aj 41 40,ak 42 .eql 36 41,aa 7 42]) <|
  .seq (.block 0 (.seq (.region false [⟨none,[af 45 0 6,ae 46 45,ah 47 .eql 46 3,aa 48 47]⟩,⟨(some (48,true)),[aa 49 7]⟩,⟨none,[az 50 48 49,aa 44 50]⟩]) <|
  .cond (.tmp 44) (.seq (ab [aa 51 2,aa 2 51,ai 3 0]) <|
  .ret) (.seq (.seq (ab [af 53 0 6,ae 54 53,ah 55 .eql 54 2,aa 52 55]) <|
  .cond (.tmp 52) (.skip) (.region false [⟨none,[af 56 0 6,ae 57 56,ah 58 .eql 57 1,aa 59 58]⟩,⟨(some (59,true)),[aa 60 7,aB 61 60]⟩,⟨none,[az 62 59 61,aa 52 62]⟩])) <|
  .cond (.tmp 52) (.skip) (.seq (ab [aa 43 2,aa 2 43,ai 3 3]) <|
  .ret)))) <|
  .seq (.seq (ab [aa 63 4,ah 64 .eql 63 2000]) <|
  .cond (.tmp 64) (.seq (ab [aa 65 2,aa 2 65,ai 3 14]) <|
  .ret) (.skip)) <|
  .seq (ab [aa 66 4,ah 67 .add 66 1,aa 4 67]) <|
  .seq (.seq (ab [af 68 0 6,ae 69 68,ah 70 .eql 69 2]) <|
  .cond (.tmp 70) (.seq (.seq (ab [aa 71 0,af 72 1 6,ae 73 72,ao 74 104 [71,73],aB 75 74]) <|
  .cond (.tmp 75) (.seq (ab [aa 76 2,aa 2 76,ai 3 3]) <|
  .ret) (.skip)) <|
  .goto 0) (.skip)) <|
  .seq (ab [aa 77 0,aa 78 0,ax 79 78,af 80 7 79,ae 81 80,af 82 1 6,ae 83 82,((some 84),.op (.bslice 1 1 [(.val (.int .i64 0))] [(0,(.tmp 83))])),((some 85),.op (.app 1 8 (.tmp 81) (.tmp 84))),ax 86 77,af 87 7 86,(none,.op (.store 1 (.tmp 87) (.tmp 85)))]) <|
  .seq (ab [aa 88 2,ah 89 .add 88 1,aa 2 89]) <|
  .goto 0
def S_drive_parser_run:SF:=⟨.seq (ab [ai 2 0,ai 3 0]) <|
  .scope 0 (.seq (ab [ai 4 0]) <|
  .seq (ab [aa 8 0,ax 9 8,af 10 6 9,ae 11 10,aa 12 0,ax 13 12,af 14 0 13,af 15 0 14,ae 16 15,aj 17 16,((some 18),.op (.bslice 1 1 [(.val (.int .i64 0))] [(0,(.tmp 17))])),((some 19),.op (.bslice 2 1 [(.emp 1)] [(0,(.tmp 11)),(1,(.tmp 18))])),ao 20 102 [19],aa 5 20]) <|
  .seq (.label 0) <|
  .seq (.region true [⟨none,[aa 21 0,ax 22 21,af 23 4 22,af 24 0 23,ae 25 24,aa 26 0,ao 27 103 [26],av 28 1 25 27,ae 29 28,aa 30 5,aa 31 2,av 32 1 30 31,ae 33 32,av 34 2 29 33,au 35 2 34,((some 6),.op (.alloc [(.val (.int .i64 0)),(.val (.int .i64 0))])),(none,.op (.store 2 (.tmp 6) (.tmp 35)))]⟩]) <|
  .seq (ab [aa 36 2,aa 37 0,ax 38 37,af 39 6 38,ae 40 39,aj 41 40,ak 42 .eql 36 41,aa 7 42]) <|
  .seq (.block 0 (.seq (.region false [⟨none,[af 45 0 6,ae 46 45,ah 47 .eql 46 3,aa 48 47]⟩,⟨(some (48,true)),[aa 49 7]⟩,⟨none,[az 50 48 49,aa 44 50]⟩]) <|
  .cond (.tmp 44) (.seq (ab [aa 51 2,aa 2 51,ai 3 0]) <|
  .ret) (.seq (.seq (ab [af 53 0 6,ae 54 53,ah 55 .eql 54 2,aa 52 55]) <|
  .cond (.tmp 52) (.skip) (.region false [⟨none,[af 56 0 6,ae 57 56,ah 58 .eql 57 1,aa 59 58]⟩,⟨(some (59,true)),[aa 60 7,aB 61 60]⟩,⟨none,[az 62 59 61,aa 52 62]⟩])) <|
  .cond (.tmp 52) (.skip) (.seq (ab [aa 43 2,aa 2 43,ai 3 3]) <|
  .ret)))) <|
  .seq (.seq (ab [aa 63 4,ah 64 .eql 63 2000]) <|
  .cond (.tmp 64) (.seq (ab [aa 65 2,aa 2 65,ai 3 14]) <|
  .ret) (.skip)) <|
  .seq (ab [aa 66 4,ah 67 .add 66 1,aa 4 67]) <|
  .seq (.seq (ab [af 68 0 6,ae 69 68,ah 70 .eql 69 2]) <|
  .cond (.tmp 70) (.seq (.seq (ab [aa 71 0,af 72 1 6,ae 73 72,ao 74 104 [71,73],aB 75 74]) <|
  .cond (.tmp 75) (.seq (ab [aa 76 2,aa 2 76,ai 3 3]) <|
  .ret) (.skip)) <|
  .goto 0) (.skip)) <|
  .seq (ab [aa 77 0,aa 78 0,ax 79 78,af 80 7 79,ae 81 80,af 82 1 6,ae 83 82,((some 84),.op (.bslice 1 1 [(.val (.int .i64 0))] [(0,(.tmp 83))])),((some 85),.op (.app 1 8 (.tmp 81) (.tmp 84))),ax 86 77,af 87 7 86,(none,.op (.store 1 (.tmp 87) (.tmp 85)))]) <|
  .seq (ab [aa 88 2,ah 89 .add 88 1,aa 2 89]) <|
  .goto 0) B_drive_parser_run_0,
  [.tmp 2,.tmp 3],90⟩
theorem S_drive_parser_run_ok:compF Tryz.prog 60 []=some S_drive_parser_run:=by kernel_rfl
def S_drive_Plain:SF:=⟨.seq (ab [aC 3 0,aC 4 1,((some 6),.op (.mov (.val (.emp 1)))),ai 7 0,ai 8 0]) <|
  .seq (.seq (.region false [⟨none,[au 12 4 3,aa 13 2,ao 14 53 [12,13],aB 15 14,aa 16 15]⟩,⟨(some (16,false)),[au 17 4 3,au 18 2 4,ao 19 46 [17,18],aB 20 19]⟩,⟨none,[ay 21 16 20]⟩]) <|
  .cond (.tmp 21) (.seq (ab [((some 6),.op (.mov (.val (.emp 1)))),ai 7 0,ai 8 1]) <|
  .ret) (.skip)) <|
  .seq (ab [au 22 4 3,au 23 2 4,aa 24 2,((some 25),.op (.bslice 1 1 [(.val (.int .i64 0))] [(0,(.val (.val (.int .i64 0))))])),((some 26),.op (.build [(.emp 1),(.emp 1),(.emp 1),(.val (.int .i64 0)),(.emp 1),(.emp 1),(.emp 1),(.emp 1),(.emp 1)] [(0,4,(.tmp 22)),(4,2,(.tmp 23)),(6,1,(.tmp 24)),(7,1,(.tmp 25))])),((some 27),.op (.box (.tmp 26))),aa 9 27]) <|
  .seq (ab [aa 29 9,ao 30 60 [29],aa 28 30,aA 31 0 28,aA 32 1 28,aa 10 31,aa 11 32]) <|
  .seq (.seq (ab [aa 33 11,ah 34 .neq 33 0]) <|
  .cond (.tmp 34) (.seq (ab [aa 35 10,aa 36 11,((some 6),.op (.mov (.val (.emp 1)))),aa 7 35,aa 8 36]) <|
  .ret) (.skip)) <|
  .seq (ab [aa 37 9,ax 38 37,af 39 8 38,ae 40 39,aa 41 10,aa 6 40,aa 7 41,ai 8 0]) <|
  .ret,
  [.tmp 6,.tmp 7,.tmp 8],42⟩
theorem S_drive_Plain_ok:compF Tryz.prog 19 [3,4]=some S_drive_Plain:=by kernel_rfl
theorem wS_skip_seq {P:Program} {c:SC} {T:Env} {H:View} {Q:Exit→Env→View→Prop} (h:wS P (.seq .skip c) T H Q):wS P c T H Q:=h
theorem Tail.setz {H:View} {u:V} {l:List Int} (h:Tail H u l) {q z:Nat} {e:List (List V)} {o:AObj} (hq:H q=.arr z e) (hz:z≠1):Tail (H.set q o) u l :=
  h.keep fun id es' hid=>by
    have:id≠q:=by rintro rfl; rw[hq] at hid; simp at hid; exact hz hid.1
    simp[View.set,this]
theorem mc_ptop (c:Nat) (g:Gram) (t:Tab) (w st:List Int) (us ur:V) (H:View) (hc:H c=.arr 9 [pBox g t w us ur]) (hus:Tail H us st) (hst:0 < st.length) (hs:st.length≤100000):MCall Tryz.prog 103 [.ptr c 0 0] H fun r H'=>H'=H∧r=gi (topS st):=by
  refine MCall.of mixed S_drive_parser_top_ok ?_
  obtain ⟨sid,soff,ses,hu1,hu2,hu3,hu4⟩:=hus.all
  have htope:=topE hu4 hst
  subst hu1
  simp (disch:=omega) only [↓wr,↓reduceIte,wq,oneV,intOp,goI,Nat.reduceEqDiff,Nat.reduceAdd,Nat.reduceLT,Nat.reduceLeDiff,reduceCtorEq,S_drive_parser_top,hc,pBox,hu2,htope]
  exact ⟨by omega,by omega⟩
theorem CallG.same {P:Program} {q:Bool} {f:FuncId} {vs:List V} {H:View} {K:V→View→Prop} {w:Veil (H,K)} {v:V} (hc:MCall P f vs H fun r H'=>H'=H∧r=v) (hk:K v H):CallG P q f vs H K w:=by
  unfold CallG
  cases q with
  | true =>
    simp only[if_true]
    exact (hc.mono fun r H' h=>⟨fun id _=>by rw[h.1],by rw[h.1,h.2]; exact hk⟩).to_q
  | false =>
    simp only[Bool.false_eq_true,if_false]
    exact hc.mono fun r H' h=>by rw[h.1,h.2]; exact hk
set_option maxHeartbeats 8000000 in
theorem mc_reduce (c:Nat) (g:Gram) (hf:g.Fine) (t:Tab) (htf:TabFine g t) (w st rs:List Int) (A:V) (al:List Int) (H:View) (hP:PB H c g t w st rs A al) (hst:InT t st) (hs:st.length≤100000) (hr:rs.length≤100000) (k:Int) (hk0:0≤k) (hk:k < g.rules.length) :
    MCall Tryz.prog 104 [.ptr c 0 0,gi k] H fun r H' =>
      (st.length≤(ruleD g k).right.length→r=gb false)∧(¬ st.length≤(ruleD g k).right.length→gotoA t (topS (st.take (st.length - (ruleD g k).right.length))) (ruleD g k).left = -1→r=gb false) ∧
      (¬ st.length≤(ruleD g k).right.length→gotoA t (topS (st.take (st.length - (ruleD g k).right.length))) (ruleD g k).left≠-1→r=gb true∧PB H' c g t w (st.take (st.length - (ruleD g k).right.length) ++ [gotoA t (topS (st.take (st.length - (ruleD g k).right.length))) (ruleD g k).left]) (rs ++ [k]) A al):=by
  refine MCall.of mixed S_drive_parser_reduce_ok ?_
  obtain ⟨us,ur,hc,hus,hur,hA,hd1,hd2⟩:=hP
  obtain ⟨sid,soff,ses,hu1,hu2,hu3,hu4⟩:=hus.all
  have hst1:=List.length_pos_iff.2 hst.1
  have hR:g.rules[k.toNat]?=some (ruleD g k):=by unfold ruleD; exact getD_some (by omega)
  have hmr:=List.mem_of_getElem? hR
  have hr6:=hf.right _ hmr
  have hlf:=hf.left _ hmr
  generalize ruleD g k=R at hR hmr hr6 hlf
  have hcs:¬ c=sid:=by rintro rfl; rw[hc] at hu2; simp at hu2
  simp (disch:=omega) only [↓wr,↓reduceIte,wq,oneV,splice,Nat.reduceEqDiff,Nat.reduceAdd,Nat.reduceLT,Nat.reduceLeDiff,Int.reduceNeg,reduceCtorEq,S_drive_parser_reduce,hc,pBox,List.getElem?_map,hR,encR]
  intro b hb
  have hbc:¬ c=b:=by rintro rfl; rw[hc] at hb; simp at hb
  refine ⟨rfl,?_⟩
  rw[set_set]
  have hc5:(H.set b (.arr 3 [[gi R.left,encI R.right,gi R.prec]])) c=.arr 9 [pBox g t w us ur]:=by simp[View.set,hbc,hc]
  have hb5:(H.set b (.arr 3 [[gi R.left,encI R.right,gi R.prec]])) b=.arr 3 [[gi R.left,encI R.right,gi R.prec]]:=by simp[View.set]
  have hus5:=hus.fresh hb (o:=.arr 3 [[gi R.left,encI R.right,gi R.prec]])
  have hur5:=hur.fresh hb (o:=.arr 3 [[gi R.left,encI R.right,gi R.prec]])
  have hA5:=hA.fresh hb (o:=.arr 3 [[gi R.left,encI R.right,gi R.prec]])
  generalize H.set b (.arr 3 [[gi R.left,encI R.right,gi R.prec]])=H5 at hc5 hb5 hus5 hur5 hA5
  simp only[pBox] at hc5
  simp (disch:=omega) only [↓wr,↓reduceIte,wq,intOp,goI,Nat.reduceEqDiff,Nat.reduceAdd,Nat.reduceLT,Int.reduceNeg,hbc,hb5,hus5.len,encI]
  refine GoB.dec (fun hlen=>?_) (fun hlen=>?_)
  · simp (disch:=omega) only [↓wr,↓reduceIte,wq,Int.reduceNeg,reduceCtorEq]
    exact fun h=>absurd (show st.length≤R.right.length by omega) h
  obtain ⟨m2,hm2⟩:∃ m2,m2=st.length - R.right.length:=⟨_,rfl⟩
  have em2:(st.length:Int) - R.right.length=m2:=by omega
  rw[← hm2]
  have hm2l:m2≤st.length:=by omega
  have htk:Tail H5 (.sl sid soff m2 1) (st.take m2):=(hu1 ▸ hus5).take hm2l
  have hin2:InT t (st.take m2):=hst.take (by omega)
  have hl2:(st.take m2).length=m2:=by simp; omega
  have htop2:=hin2.2 _ (topS_mem hin2.1)
  obtain ⟨hgo1,hgo2⟩:=htf.go (s:=topS (st.take m2)) (x:=R.left) htop2 hlf
  have hgr:t.gotos[(topS (st.take m2)).toNat]?=some (t.gotos.getD (topS (st.take m2)).toNat []):=getD_some (by have:=htf.len; omega)
  generalize t.gotos.getD (topS (st.take m2)).toNat []=gr at hgr hgo2
  simp (disch:=omega) only [↓wr,↓reduceIte,wq,splice,Nat.reduceEqDiff,Nat.reduceAdd,Nat.reduceLT,Nat.reduceLeDiff,Int.reduceNeg,reduceCtorEq,hc5,em2,hu1,sSlice_head hm2l]
  have hc6:(H5.set c (.arr 9 [pBox g t w (.sl sid soff m2 1) ur])) c=.arr 9 [pBox g t w (.sl sid soff m2 1) ur]:=by simp[View.set]
  have hb6:(H5.set c (.arr 9 [pBox g t w (.sl sid soff m2 1) ur])) b=.arr 3 [[gi R.left,encI R.right,gi R.prec]]:=by simp[View.set,Ne.symm hbc,hb5]
  have htk6:=htk.setz (o:=.arr 9 [pBox g t w (.sl sid soff m2 1) ur]) hc5 (by omega)
  have hur6:=hur5.other (o:=.arr 9 [pBox g t w (.sl sid soff m2 1) ur]) (own_off hur5 hc5 (by omega))
  have hA6:=hA5.other (o:=.arr 9 [pBox g t w (.sl sid soff m2 1) ur]) (own_off hA5 hc5 (by omega))
  refine CallG.same (mc_ptop c g t w (st.take m2) (.sl sid soff m2 1) ur _ hc6 htk6 (by omega) (by omega)) ?_
  generalize hH6:H5.set c (.arr 9 [pBox g t w (.sl sid soff m2 1) ur])=H6 at hc6 hb6 htk6 hur6 hA6
  simp only[pBox] at hH6
  rw[hH6]
  have hdu:∀ id,owner (V.sl sid soff m2 1)=some id→owner ur≠some id:=fun id h=>hd1 id (by rw[hu1]; exact h)
  have hdA:∀ id,owner A=some id→owner (V.sl sid soff m2 1)≠some id∧owner ur≠some id:=fun id h=>⟨fun e=>(hd2 id h).1 (by rw[hu1]; exact e),(hd2 id h).2⟩
  generalize gotoA t (topS (st.take m2)) R.left=to at hgo1 hgo2 ⊢
  simp (disch:=omega) only [↓wr,↓reduceIte,wq,intOp,Nat.reduceEqDiff,Nat.reduceAdd,Nat.reduceLT,Int.reduceNeg,hb6,List.getElem?_map,hgr,hgo2,encI]
  refine GoB.dec (fun hto=>?_) (fun hto=>?_)
  · simp (disch:=omega) only [↓wr,↓reduceIte,wq,Int.reduceNeg,reduceCtorEq]
    exact fun _ h=>absurd (by omega) h
  have hu7:cellOk (V.sl sid soff m2 1)=true:=rfl
  simp only[pBox] at hc6
  simp (disch:=omega) only [↓wr,↓reduceIte,wq,fillE,Nat.reduceEqDiff,Nat.reduceAdd,Nat.reduceLT,Int.reduceNeg,reduceCtorEq,hc6]
  intro q hq
  have hcq:¬ c=q:=by rintro rfl; rw[hc6] at hq; simp at hq
  have hc7:(H6.set q (.arr 1 [[gi to]])) c=.arr 9 [pBox g t w (.sl sid soff m2 1) ur]:=by simp[View.set,hcq,hc6,pBox]
  have htk7:=htk6.fresh hq (o:=.arr 1 [[gi to]])
  have hur7:=hur6.fresh hq (o:=.arr 1 [[gi to]])
  have hA7:=hA6.fresh hq (o:=.arr 1 [[gi to]])
  have hap:∀ i j,ApV (.ptr c i j) (.sl sid soff m2 1)=True:=fun i j=>by simp[ApV,hcs]
  have hoc:owner (V.sl sid soff m2 1)≠some c:=by simp[owner]; exact fun h=>hcs h.symm
  generalize V.sl sid soff m2 1=u7 at htk7 hdu hdA hap hoc hc7 ⊢
  simp (disch:=omega) only [↓wr,↓reduceIte,wq,Nat.reduceEqDiff,Int.reduceNeg,elemsOf_new]
  refine goApp_tail (xs:=[to]) htk7 (by simp) (by unfold limit; simp; omega) (by unfold limit; simp; omega) ?_
  intro us2 H7 o2 l2
  have hur8:=hur7.left l2 (fun id h1 h2=>hdu id h2 h1)
  have hA8:=hA7.left l2 (fun id h1 h2=>(hdA id h1).1 h2)
  have hc8:H7 c=.arr 9 [pBox g t w u7 ur]:=by rw[(l2 c (by rw[hc7]; simp) hoc).1,hc7]
  have hd8:∀ id,owner us2=some id→owner ur≠some id:=fun id h1 h2=>(l2 id (by rw[(hur7.live h2).1]; simp) (fun e=>hdu id e h2)).2 h1
  have hdA8:∀ id,owner A=some id→owner us2≠some id:=fun id h=>(l2 id (by rw[(hA7.live h).1]; simp) (hdA id h).1).2
  simp only[pBox] at hc8
  simp (disch:=omega) only [↓wr,↓reduceIte,wq,fillE,Nat.reduceEqDiff,Nat.reduceAdd,Nat.reduceLT,Int.reduceNeg,reduceCtorEq,hc8]
  intro q2 hq2
  have hcq2:¬ c=q2:=by rintro rfl; rw[hc8] at hq2; simp at hq2
  have o3:=o2.fresh hq2 (o:=.arr 1 [[gi k]])
  have hur9:=hur8.fresh hq2 (o:=.arr 1 [[gi k]])
  have hA9:=hA8.fresh hq2 (o:=.arr 1 [[gi k]])
  have hc9:(H7.set q2 (.arr 1 [[gi k]])) c=.arr 9 [pBox g t w u7 ur]:=by simp[View.set,hcq2,hc8,pBox]
  have hcu:=hur9.cells
  simp (disch:=omega) only [↓wr,↓reduceIte,wq,Nat.reduceEqDiff,Int.reduceNeg,elemsOf_new]
  refine goApp_own hur9 (by simp) (by simp[cellOk]) (by unfold limit; simp; omega) (by unfold limit; simp; omega) ?_
  intro ur2 H8 o4 l4
  have hcr:owner ur≠some c:=own_off hur9 hc9 (by omega)
  have hc10:H8 c=.arr 9 [pBox g t w u7 ur]:=by rw[(l4 c (by rw[hc9]; simp) hcr).1,hc9]
  have o5:=o3.left l4 hd8
  have hA10:=hA9.left l4 (fun id h1 h2=>(hdA id h1).2 h2)
  have hdd:∀ id,owner us2=some id→owner ur2≠some id:=fun id h1 h2=>(l4 id (by rw[(o3.live h1).1]; simp) (fun e=>hd8 id h1 e)).2 h2
  have hdA10:∀ id,owner A=some id→owner ur2≠some id:=fun id h=>(l4 id (by rw[(hA9.live h).1]; simp) (hdA id h).2).2
  have c1:=o5.cells
  have c2:=o5.cok
  have c3:=o4.cells
  have c4:=o4.cok
  simp only[pBox] at hc10
  simp (disch:=omega) only [↓wr,↓reduceIte,wq,splice,Nat.reduceEqDiff,Nat.reduceAdd,Nat.reduceLT,Nat.reduceLeDiff,Int.reduceNeg,reduceCtorEq,hc10,c1,c2,c3,c4,hap]
  rw[set_set]
  refine ⟨fun h=>by omega,fun _ h=>by omega,fun _ _=>⟨us2,ur2,by simp[View.set,pBox],?_,?_,?_,hdd,fun id h=>⟨hdA8 id h,hdA10 id h⟩⟩⟩
  · exact (Tail.own o5 (by simp)).setz hc10 (by omega)
  · have:=o4.other (o:=.arr 9 [pBox g t w us2 ur2]) (own_off o4 hc10 (by omega))
    simpa [pBox] using this
  · exact hA10.other (own_off hA10 hc10 (by omega))
set_option maxHeartbeats 8000000 in
theorem mc_run (c:Nat) (g:Gram) (hg:g.Ok) (hf:g.Fine) (t:Tab) (htf:TabFine g t) (w:List Int) (hw60:w.length≤60) (hwin:∀ x∈w,0≤x∧x < (g.terms.length:Int)) (m:Nat) (H:View) (hc:H c=.arr 9 [pBox g t w (.sl m 0 1 1) (.emp 1)]) (hm:H m=.arr 1 [[gi 0]]) :
    MCall Tryz.prog 60 [.ptr c 0 0] H fun r H'=>r=.tup [gi (runD g t w 2000 [0] [] 0).2.1,gi (runD g t w 2000 [0] [] 0).2.2]∧((runD g t w 2000 [0] [] 0).2.2=0→∃ us ur,H' c=.arr 9 [pBox g t w us ur]∧OwnA H' ur 1 (intsE (runD g t w 2000 [0] [] 0).1))∧((runD g t w 2000 [0] [] 0).2.2≠0→(runD g t w 2000 [0] [] 0).1=[]):=by
  refine MCall.of mixed S_drive_parser_run_ok ?_
  generalize hX:runD g t w 2000 [0] [] 0=X
  have hcm:¬ c=m:=by rintro rfl; rw[hc] at hm; simp at hm
  have ht24:=hf.terms
  simp (disch:=omega) only [↓wr,wq,oneV,Nat.reduceLeDiff,S_drive_parser_run]
  refine ScopeG.intro (fun k T H'=>∃ (A:V) (st rs:List Int) (at_:Nat) (s:Int),s+k=2000∧k≤2000∧runD g t w k st rs at_=X∧InT t st∧PB H' c g t w st rs A (w ++ [(g.terms.length:Int)])∧at_≤w.length∧st.length+k≤2001∧rs.length+k≤2000 ∧
    T 0=.ptr c 0 0∧T 2=gi at_∧T 4=gi s∧T 5=A) 2000 ?_ ?_
  · rintro k T H' ⟨A,st,rs,at_,s,hsk,hk,hrun,hst,hP,hat,hsl,hrl,t0,t2,t4,t5⟩
    obtain ⟨us,ur,hc,hus,hur,hA,hd1,hd2⟩:=hP
    have hst1:=List.length_pos_iff.2 hst.1
    have htop:=hst.2 _ (topS_mem hst.1)
    obtain ⟨a1,a2⟩:=aheadT_in hwin at_
    obtain ⟨hcf,hcg⟩:=htf.cell (s:=topS st) (x:=aheadT g w at_) htop ⟨a1,a2⟩
    rw[runD_eq] at hrun
    have hrow:t.actions[(topS st).toNat]?=some (t.actions.getD (topS st).toNat []):=getD_some (by omega)
    have hal:(w ++ [(g.terms.length:Int)]).getD at_ 0=aheadT g w at_:=by
      unfold aheadT
      by_cases h:at_ < w.length
      · rw[if_pos h,List.getD_eq_getElem?_getD,List.getD_eq_getElem?_getD,List.getElem?_append_left h]
      · have e:at_=w.length:=by omega
        subst e
        rw[if_neg h]; simp[List.getD_eq_getElem?_getD]
    obtain ⟨aid,hAs,hAo⟩:=hA.sl (by simp)
    have hAe:(intsE (w ++ [(g.terms.length:Int)])).getD at_ []=[gi (aheadT g w at_)]:=by
      rw[List.getD_eq_getElem?_getD,List.getElem?_map,getD_some (d:=0) (show at_ < (w ++ [(g.terms.length:Int)]).length by simp; omega),hal]; rfl
    have hcop:=hc
    simp only[pBox] at hcop
    generalize hcc:cellA t (topS st) (aheadT g w at_)=cl at hrun hcf hcg
    generalize t.actions.getD (topS st).toNat []=row at hrow hcg
    simp (disch:=omega) only [↓wr,↓reduceIte,wq,Nat.reduceAdd,Nat.reduceLT,reduceCtorEq,B_drive_parser_run_0,t0,hcop]
    refine CallG.same (mc_ptop c g t w st us ur H' hc hus hst1 (by omega)) ?_
    simp (disch:=omega) only [↓wr,↓reduceIte,wq,splice,Nat.reduceEqDiff,Nat.reduceAdd,Nat.reduceLT,Nat.reduceLeDiff,reduceCtorEq,t0,t2,t5,hcop,List.getElem?_map,hrow,hcg,hAs,hAo,hAe,encCell]
    refine ⟨by simp; omega,by simp; omega,fun b hb=>?_⟩
    have hbc:¬ c=b:=by rintro rfl; rw[hc] at hb; simp at hb
    rw[set_set]
    have hc5:(H'.set b (.arr 2 [[gi cl.kind,gi cl.n]])) c=.arr 9 [pBox g t w us ur]:=by simp[View.set,hbc,hc]
    have hb5:(H'.set b (.arr 2 [[gi cl.kind,gi cl.n]])) b=.arr 2 [[gi cl.kind,gi cl.n]]:=by simp[View.set]
    have hus5:=hus.fresh hb (o:=.arr 2 [[gi cl.kind,gi cl.n]])
    have hur5:=hur.fresh hb (o:=.arr 2 [[gi cl.kind,gi cl.n]])
    have hA5:=hA.fresh hb (o:=.arr 2 [[gi cl.kind,gi cl.n]])
    generalize H'.set b (.arr 2 [[gi cl.kind,gi cl.n]])=H5 at hc5 hb5 hus5 hur5 hA5
    have hcop5:=hc5
    simp only[pBox] at hcop5
    simp (disch:=omega) only [↓wr,↓reduceIte,wq,intOp,goI,Nat.reduceEqDiff,Nat.reduceAdd,Nat.reduceLT,hbc,hb5,encI]
    have bad:∀ (Hx:View) (e:Int),e≠0→X=([],(at_:Int),e)→(V.tup [gi at_,gi e]=.tup [gi X.2.1,gi X.2.2]∧(X.2.2=0→∃ us ur,Hx c=.arr 9 [pBox g t w us ur]∧OwnA Hx ur 1 (intsE X.1))∧(X.2.2≠0→X.1=[])):=fun Hx e he hX=>by
      rw[hX]; exact ⟨rfl,fun h=>absurd h he,fun _=>rfl⟩
    refine GoB.eq (fun k3=>?_) (fun k3=>?_)
    · simp (disch:=omega) only [↓wr,↓reduceIte,wq,Nat.reduceEqDiff]
      refine GoB.eq (fun ha=>?_) (fun ha=>?_)
      · rw[if_pos ⟨k3,by omega⟩] at hrun
        simp (disch:=omega) only [↓wr,↓reduceIte,wq,intOp,Nat.reduceEqDiff,reduceCtorEq,t0,t2,t4,t5]
        rw[← hrun]
        exact ⟨rfl,fun _=>⟨us,ur,hc5,hur5⟩,fun h=>absurd rfl h⟩
      · rw[if_neg (by omega),if_pos (.inr (.inl k3))] at hrun
        simp (disch:=omega) only [↓wr,↓reduceIte,wq,intOp,Nat.reduceEqDiff,Nat.reduceAdd,Nat.reduceLT,hb5]
        refine GoB.eq (fun h=>by omega) (fun _=>?_)
        simp (disch:=omega) only [↓wr,↓reduceIte,wq,intOp,Nat.reduceEqDiff,Nat.reduceAdd,Nat.reduceLT,hb5]
        refine GoB.eq (fun h=>by omega) (fun _=>?_)
        simp (disch:=omega) only [↓wr,↓reduceIte,wq,intOp,Nat.reduceEqDiff,reduceCtorEq,t0,t2,t4,t5]
        exact bad _ 3 (by decide) hrun.symm
    simp (disch:=omega) only [↓wr,↓reduceIte,wq,intOp,Nat.reduceEqDiff,Nat.reduceAdd,Nat.reduceLT,hb5]
    refine GoB.eq (fun k2=>?_) (fun k2=>?_)
    · have hcn:0≤cl.n∧cl.n < g.rules.length:=by rcases fitsC_inv hcf with h | h | h <;> omega
      rw[if_neg (by omega),if_neg (by omega)] at hrun
      simp (disch:=omega) only [↓wr,↓reduceIte,wq,intOp,Nat.reduceEqDiff,reduceCtorEq,t0,t2,t4,t5]
      refine GoB.eq (fun hn=>?_) (fun hn=>?_)
      · rw[show k=0 by omega] at hrun
        simp (disch:=omega) only [↓wr,↓reduceIte,wq,Nat.reduceEqDiff,reduceCtorEq,t2]
        exact bad _ 14 (by decide) hrun.symm
      obtain ⟨q,rfl⟩:∃ q,k=q+1:=⟨k - 1,by omega⟩
      simp only at hrun
      rw[if_neg (by omega)] at hrun
      simp (disch:=omega) only [↓wr,↓reduceIte,wq,intOp,Nat.reduceEqDiff,Nat.reduceAdd,Nat.reduceLT,t4,hb5]
      refine GoB.eq (fun _=>?_) (fun h=>absurd k2 h)
      simp (disch:=omega) only [↓wr,↓reduceIte,wq,Nat.reduceEqDiff,Nat.reduceAdd,Nat.reduceLT,reduceCtorEq,t0,hb5]
      refine CallG.loud ((mc_reduce c g hf t htf w st rs A _ H5 ⟨us,ur,hc5,hus5,hur5,hA5,hd1,hd2⟩ hst (by omega) (by omega) cl.n hcn.1 hcn.2).mono ?_)
      rintro r H6 ⟨e1,e2,e3⟩
      by_cases hl:st.length≤(ruleD g cl.n).right.length
      · obtain rfl:=e1 hl
        rw[if_pos hl] at hrun
        simp (disch:=omega) only [↓wr,↓reduceIte,wq,Nat.reduceEqDiff,reduceCtorEq,t2]
        exact bad _ 3 (by decide) hrun.symm
      by_cases hgo:gotoA t (topS (st.take (st.length - (ruleD g cl.n).right.length))) (ruleD g cl.n).left = -1
      · obtain rfl:=e2 hl hgo
        rw[if_neg hl,if_pos hgo] at hrun
        simp (disch:=omega) only [↓wr,↓reduceIte,wq,Nat.reduceEqDiff,reduceCtorEq,t2]
        exact bad _ 3 (by decide) hrun.symm
      · obtain ⟨rfl,hP6⟩:=e3 hl hgo
        rw[if_neg hl,if_neg hgo] at hrun
        simp (disch:=omega) only [↓wr,↓reduceIte,wq,Nat.reduceEqDiff,reduceCtorEq,t0,t2,t5]
        have hin2:=hst.take (k:=st.length - (ruleD g cl.n).right.length) (by omega)
        have hlf:=hf.left _ (List.mem_of_getElem? (show g.rules[cl.n.toNat]?=some (ruleD g cl.n) by unfold ruleD; exact getD_some (by omega)))
        have hgr:=(htf.go (hin2.2 _ (topS_mem hin2.1)) hlf).1
        exact ⟨q,by omega,A,_,_,at_,s+1,by omega,by omega,hrun,.app hin2.2 (by omega),hP6,hat,by simp; omega,by simp; omega,rfl,rfl,rfl⟩
    simp (disch:=omega) only [↓wr,↓reduceIte,wq,intOp,Nat.reduceEqDiff,Nat.reduceAdd,Nat.reduceLT,hb5]
    refine GoB.eq (fun k1=>?_) (fun k1=>?_)
    · have hcn:0≤cl.n∧cl.n < t.actions.length:=by rcases fitsC_inv hcf with h | h | h <;> omega
      simp (disch:=omega) only [↓wr,↓reduceIte,wq,Nat.reduceEqDiff]
      refine GoB.eq (fun ha=>?_) (fun ha=>?_)
      · rw[if_neg (by omega),if_pos (.inr (.inr ⟨k1,by omega⟩))] at hrun
        simp (disch:=omega) only [↓wr,↓reduceIte,wq,intOp,Nat.reduceEqDiff,reduceCtorEq,t0,t2,t4,t5]
        exact bad _ 3 (by decide) hrun.symm
      rw[if_neg (by omega),if_neg (by omega)] at hrun
      simp (disch:=omega) only [↓wr,↓reduceIte,wq,intOp,Nat.reduceEqDiff,reduceCtorEq,t0,t2,t4,t5]
      refine GoB.eq (fun hn=>?_) (fun hn=>?_)
      · rw[show k=0 by omega] at hrun
        simp (disch:=omega) only [↓wr,↓reduceIte,wq,Nat.reduceEqDiff,reduceCtorEq,t2]
        exact bad _ 14 (by decide) hrun.symm
      obtain ⟨q,rfl⟩:∃ q,k=q+1:=⟨k - 1,by omega⟩
      simp only at hrun
      rw[if_pos k1] at hrun
      simp (disch:=omega) only [↓wr,↓reduceIte,wq,intOp,Nat.reduceEqDiff,Nat.reduceAdd,Nat.reduceLT,t4,hb5]
      refine GoB.eq (fun h=>absurd h k2) (fun _=>?_)
      obtain ⟨sid,soff,ses,hu1,hu2,_,_⟩:=hus5.all
      have hcs:¬ c=sid:=by rintro rfl; rw[hc5] at hu2; simp at hu2
      have hap:∀ i j,ApV (.ptr c i j) us=True:=fun i j=>by rw[hu1]; simp[ApV,hcs]
      have hoc:owner us≠some c:=by rw[hu1]; simp[owner]; exact fun h=>hcs h.symm
      simp (disch:=omega) only [↓wr,↓reduceIte,wq,fillE,Nat.reduceEqDiff,Nat.reduceAdd,Nat.reduceLT,reduceCtorEq,t0,hcop5,hb5]
      intro q2 hq2
      have hcq2:¬ c=q2:=by rintro rfl; rw[hc5] at hq2; simp at hq2
      have hc7:(H5.set q2 (.arr 1 [[gi cl.n]])) c=.arr 9 [pBox g t w us ur]:=by simp[View.set,hcq2,hc5]
      have hus7:=hus5.fresh hq2 (o:=.arr 1 [[gi cl.n]])
      have hur7:=hur5.fresh hq2 (o:=.arr 1 [[gi cl.n]])
      have hA7:=hA5.fresh hq2 (o:=.arr 1 [[gi cl.n]])
      simp (disch:=omega) only [↓wr,↓reduceIte,wq,Nat.reduceEqDiff,elemsOf_new]
      refine goApp_tail (xs:=[cl.n]) hus7 (by simp) (by unfold limit; simp; omega) (by unfold limit; simp; omega) ?_
      intro us2 H7 o2 l2
      have hur8:=hur7.left l2 (fun id h1 h2=>hd1 id h2 h1)
      have hA8:=hA7.left l2 (fun id h1 h2=>(hd2 id h1).1 h2)
      have hc8:H7 c=.arr 9 [pBox g t w us ur]:=by rw[(l2 c (by rw[hc7]; simp) hoc).1,hc7]
      have hd8:∀ id,owner us2=some id→owner ur≠some id:=fun id h1 h2=>(l2 id (by rw[(hur7.live h2).1]; simp) (fun e=>hd1 id e h2)).2 h1
      have hdA8:∀ id,owner A=some id→owner us2≠some id:=fun id h=>(l2 id (by rw[(hA7.live h).1]; simp) (hd2 id h).1).2
      have c1:=o2.cells
      have c2:=o2.cok
      simp only[pBox] at hc8
      simp (disch:=omega) only [↓wr,↓reduceIte,wq,intOp,splice,Nat.reduceEqDiff,Nat.reduceAdd,Nat.reduceLT,Nat.reduceLeDiff,reduceCtorEq,t0,t2,t5,hc8,c1,c2]
      refine ⟨q,by omega,A,st ++ [cl.n],rs,at_+1,s+1,by omega,by omega,hrun,.app hst.2 hcn,⟨us2,ur,by simp[View.set,pBox],?_,?_,?_,hd8,fun id h=>⟨hdA8 id h,(hd2 id h).2⟩⟩,by omega,by simp; omega,by omega,rfl,rfl,rfl⟩
      · exact (Tail.own o2 (by simp)).setz hc8 (by omega)
      · exact hur8.other (own_off hur8 hc8 (by omega))
      · exact hA8.other (own_off hA8 hc8 (by omega))
    · have hk0:cl.kind=0:=by rcases fitsC_inv hcf with h | h | h <;> omega
      rw[if_neg (by omega),if_pos (.inl hk0)] at hrun
      simp (disch:=omega) only [↓wr,↓reduceIte,wq,intOp,Nat.reduceEqDiff,reduceCtorEq,t0,t2,t4,t5]
      exact bad _ 3 (by decide) hrun.symm
  · intro body
    simp (disch:=omega) only [↓wr,↓reduceIte,wq,reduceCtorEq]
    have hcop:=hc
    simp only[pBox] at hcop
    simp (disch:=omega) only [↓wr,↓reduceIte,wq,goI,fillE,Nat.reduceEqDiff,Nat.reduceAdd,Nat.reduceLT,reduceCtorEq,hcop,encI]
    intro n1 hn1 n2 hn2
    obtain ⟨d21,hn2⟩:=dead_if hn2 arr_live
    have hcn1:¬ c=n1:=by rintro rfl; rw[hc] at hn1; simp at hn1
    have hcn2:¬ c=n2:=by rintro rfl; rw[hc] at hn2; simp at hn2
    have hmn1:¬ m=n1:=by rintro rfl; rw[hm] at hn1; simp at hn1
    have hmn2:¬ m=n2:=by rintro rfl; rw[hm] at hn2; simp at hn2
    have hcc:=mo_Concat [(encI w,w),(.sl n1 0 1 1,[(g.terms.length:Int)])] n2 ((H.set n1 (.arr 1 [[gi g.terms.length]])).set n2 (.arr 1 [[encI w],[.sl n1 0 1 1]])) (by simp[View.set]) (by
      intro x hx
      simp only[List.mem_cons,List.not_mem_nil,or_false] at hx
      rcases hx with rfl | rfl
      · exact .inl rfl
      · exact .inr (.inr ⟨n1,by simp,by simp[View.set,Ne.symm d21]⟩)) (by simp; omega) (by simp)
    simp only[encI] at hcc
    refine CallG.loud (hcc.mono ?_)
    rintro r H2 ⟨o2,hfr⟩
    have hc2:H2 c=.arr 9 [pBox g t w (.sl m 0 1 1) (.emp 1)]:=by
      rw[(hfr c (by simp[View.set,hcn1,hcn2,hc])).1]; simp[View.set,hcn1,hcn2,hc]
    have hm2:H2 m=.arr 1 [[gi 0]]:=by
      rw[(hfr m (by simp[View.set,hmn1,hmn2,hm])).1]; simp[View.set,hmn1,hmn2,hm]
    have hrm:owner r≠some m:=(hfr m (by simp[View.set,hmn1,hmn2,hm])).2
    rw[go0,wBs_cons,wB_op,wI_mov,go0,wBs_nil,wGs_nil,ifN_normal,wS_seq,wS_label,ifN_normal]
    refine wS_skip_seq (body 2000 _ _ ⟨r,[0],[],0,0,by omega,by omega,hX,⟨by simp,by have:=htf.n1; intro x hx; simp at hx; subst hx; omega⟩,⟨.sl m 0 1 1,.emp 1,hc2,Tail.own (.inr ⟨m,rfl,hm2⟩) (by simp),.nil,by simpa using o2,by simp[owner],fun id h=>⟨fun e=>?_,by simp[owner]⟩⟩,by omega,by simp,by simp,rfl,rfl,rfl,rfl⟩)
    simp only[owner,Option.some.injEq] at e
    exact hrm (e ▸ h)
set_option maxHeartbeats 8000000 in
theorem pn_dPlain (g:Gram) (hg:g.Ok) (hsm:g.Small) (t:Tab) (ht:t.Ok) (w:List Int) (hw:Short w) (hn:∀ x∈w,In64 x):PNew Tryz.prog 19 [.agg (encG g),.agg (encTab t),encI w] (outD (plainA g t w)):=by
  refine PNew.of (gtw_args g t w) ?_
  have hc1:=pc_dWord g hg hsm w hw hn
  have hc2:=pc_tRight g hg hsm t ht
  refine MCall.of mixed S_drive_Plain_ok ?_
  simp only[encG,encS,encTab,encI] at hc1 hc2
  rw[plainA_eq]
  simp (disch:=omega) only [↓wr,↓reduceIte,wq,oneV,Nat.reduceEqDiff,Nat.reduceAdd,Nat.reduceLeDiff,S_drive_Plain,encG,encS,encTab,encI]
  refine CallG.pure hc1 (by kernel_rfl) ?_
  simp (disch:=omega) only [↓wr,↓reduceIte,wq]
  refine GoB.split (fun hwb=>?_) (fun hwb=>?_)
  rotate_left
  · simp (disch:=omega) only [↓wr,↓reduceIte,wq,Nat.reduceEqDiff,reduceCtorEq]
    intro h' _
    rw[hwb]
    exact frn_outD (x:=([],0,1)) (.emp _)
  simp (disch:=omega) only [↓wr,↓reduceIte,wq,Nat.reduceEqDiff,Nat.reduceAdd,Nat.reduceLeDiff]
  refine CallG.pure hc2 (by kernel_rfl) ?_
  simp (disch:=omega) only [↓wr,↓reduceIte,wq,Nat.reduceEqDiff]
  refine GoB.split (fun hrt=>?_) (fun hrt=>?_)
  rotate_left
  · simp (disch:=omega) only [↓wr,↓reduceIte,wq,Nat.reduceEqDiff,reduceCtorEq]
    intro h' _
    rw[hwb,hrt]
    exact frn_outD (x:=([],0,1)) (.emp _)
  have htf:=rightT_fine hrt
  have hf:=right09_fine htf.right
  obtain ⟨hw60,hwin⟩:=wordB_in hwb
  rw[hwb,hrt]
  simp only[Bool.and_self,if_true]
  simp (disch:=omega) only [↓wr,↓reduceIte,wq,splice,sBuild,fillE,Nat.reduceEqDiff,Nat.reduceAdd,Nat.reduceLT,Nat.reduceLeDiff]
  intro m c hcd
  obtain ⟨dcm,_⟩:=dead_if hcd arr_live
  refine CallG.loud ((mc_run c g hg hf t htf w hw60 hwin m _ (by simp[View.set,pBox,encI]) (by simp[View.set,Ne.symm dcm])).mono ?_)
  rintro r H2 ⟨rfl,h0,h1⟩
  generalize runD g t w 2000 [0] [] 0=X at h0 h1 ⊢
  obtain ⟨x1,x2,x3⟩:=X
  simp only at h0 h1 ⊢
  simp (disch:=omega) only [↓wr,↓reduceIte,wq,intOp,Nat.reduceEqDiff,Nat.reduceAdd,Nat.reduceLT]
  refine GoB.ne (fun he=>?_) (fun he=>?_)
  · simp (disch:=omega) only [↓wr,↓reduceIte,wq,Nat.reduceEqDiff,reduceCtorEq]
    intro h' _
    rw[h1 he]
    exact frn_outD (x:=([],x2,x3)) (.emp _)
  · obtain rfl:x3=0:=by omega
    obtain ⟨us,ur,hc2,ho⟩:=h0 rfl
    simp only[pBox] at hc2
    simp (disch:=omega) only [↓wr,↓reduceIte,wq,Nat.reduceEqDiff,Nat.reduceAdd,Nat.reduceLT,reduceCtorEq,hc2]
    rintro h' rfl
    exact frn_outD (x:=(x1,x2,0)) (frn_ints ho)
def eqVal:Value→Value→Bool
  | .int k a,.int k' b=>decide (k=k') && decide (a=b)
  | .bool a,.bool b=>a == b
  | .string a,.string b=>strEq a b
  | .pointer none,.pointer none=>true
  | _,_=>false
theorem eqVal_ok:∀ (a b:Value),eqVal a b=true→a=b:=by
  intro a b h
  unfold eqVal at h
  split at h
  · simp only[Bool.and_eq_true,decide_eq_true_eq] at h
    rw[h.1,h.2]
  · rename_i a b
    rw[show a=b by simpa using h]
  · rename_i a b
    obtain ⟨a⟩:=a
    obtain ⟨b⟩:=b
    simp only[strEq,beq_iff_eq] at h
    rw[show a=b from Array.toList_inj.1 h]
  · rfl
  · simp at h
def eqL (q:V→V→Bool):List V→List V→Bool
  | [],[]=>true
  | a :: l,b :: m=>q a b && eqL q l m
  | _,_=>false
def eqE (q:V→V→Bool):List (List V)→List (List V)→Bool
  | [],[]=>true
  | a :: l,b :: m=>eqL q a b && eqE q l m
  | _,_=>false
def eqV:Nat→V→V→Bool
  | 0,_,_=>false
  | k+1,a,b=>match a,b with
    | .val x,.val y=>eqVal x y
    | .fro x,.fro y=>eqE (eqV k) x y
    | .agg x,.agg y=>eqL (eqV k) x y
    | .tup x,.tup y=>eqL (eqV k) x y
    | _,_=>false
theorem eqL_ok {q:V→V→Bool} (hq:∀ a b,q a b=true→a=b):∀ (l m:List V),eqL q l m=true→l=m
  | [],[],_=>rfl
  | a :: l,b :: m,h=>by
    simp only[eqL,Bool.and_eq_true] at h
    rw[hq a b h.1,eqL_ok hq l m h.2]
  | [],_ :: _,h=>by simp[eqL] at h
  | _ :: _,[],h=>by simp[eqL] at h
theorem eqE_ok {q:V→V→Bool} (hq:∀ a b,q a b=true→a=b):∀ (l m:List (List V)),eqE q l m=true→l=m
  | [],[],_=>rfl
  | a :: l,b :: m,h=>by
    simp only[eqE,Bool.and_eq_true] at h
    rw[eqL_ok hq a b h.1,eqE_ok hq l m h.2]
  | [],_ :: _,h=>by simp[eqE] at h
  | _ :: _,[],h=>by simp[eqE] at h
theorem eqV_ok:∀ (k:Nat) (a b:V),eqV k a b=true→a=b
  | 0,_,_,h=>by simp[eqV] at h
  | k+1,a,b,h=>by
    have ih:=eqV_ok k
    unfold eqV at h
    split at h
    · rw[eqVal_ok _ _ h]
    · rw[eqE_ok ih _ _ h]
    · rw[eqL_ok ih _ _ h]
    · rw[eqL_ok ih _ _ h]
    · simp at h
def treeQ:Nat→V→Bool
  | 0,_=>false
  | k+1,v=>match v with
    | .val _=>true
    | .emp _=>true
    | .nem=>true
    | .fro es=>es.all fun e=>e.all (treeQ k)
    | .agg cs=>cs.all (treeQ k)
    | .tup cs=>cs.all (treeQ k)
    | _=>false
theorem all_getD {q:V→Bool} {l:List V} (h:l.all q=true) {i:Nat} (hi:i < l.length):q (l.getD i .any)=true:=by
  have e:l.getD i .any=l[i]:=by simp[List.getD_eq_getElem?_getD,hi]
  rw[e]
  exact List.all_eq_true.1 h _ (List.getElem_mem _)
theorem treeQ_ok:∀ (k:Nat) (v:V),treeQ k v=true→Tree v
  | 0,_,h=>by simp[treeQ] at h
  | k+1,v,h=>by
    have ih:=treeQ_ok k
    unfold treeQ at h
    split at h
    · exact .val _
    · exact .emp _
    · exact .nem
    · rename_i es
      refine .fro _ fun i j hi hj=>ih _ ?_
      have e:es.getD i []=es[i]:=by simp[List.getD_eq_getElem?_getD,hi]
      have h1:=List.all_eq_true.1 h _ (List.getElem_mem hi)
      rw[e] at hj ⊢
      exact all_getD h1 hj
    · exact .agg _ fun i hi=>ih _ (all_getD h hi)
    · exact .tup _ fun i hi=>ih _ (all_getD h hi)
    · simp at h
noncomputable def frzF (H:View):Nat→V→Option V
  | 0,_=>none
  | k+1,v=>match v with
    | .val x=>some (.val x)
    | .emp _=>some (.fro [])
    | .fro es=>match treeQ 60 (.fro es) with
      | true=>some (.fro es)
      | false=>none
    | .sl id off len _=>match H id with
      | .arr _ es=>match Nat.ble (off+len) es.length with
        | true=>(frzE (frzF H k) ((es.drop off).take len)).map .fro
        | false=>none
      | _=>none
    | .agg cs=>(frzL (frzF H k) cs).map .agg
    | .tup cs=>(frzL (frzF H k) cs).map .tup
    | _=>none
theorem frzF_ok (h:Heap):∀ (k:Nat) (v t:V),frzF h.view k v=some t→Fr h v t
  | 0,v,t,hf=>by simp[frzF] at hf
  | k+1,v,t,hf=>by
    have ih:=frzF_ok h k
    simp only[frzF] at hf
    split at hf
    · simp only[Option.some.injEq] at hf; subst hf; exact .tree _ (.val _)
    · simp only[Option.some.injEq] at hf; subst hf; exact .emp _
    · split at hf
      · rename_i ht
        simp only[Option.some.injEq] at hf; subst hf; exact .tree _ (treeQ_ok _ _ ht)
      · simp at hf
    · rename_i id off len esz
      split at hf
      · rename_i z es hH
        split at hf
        · rename_i hle
          have hle:=Nat.le_of_ble_eq_true hle
          simp only[Option.map_eq_some_iff] at hf
          obtain ⟨es',he,rfl⟩:=hf
          obtain ⟨g1,g2⟩:=frzE_ok _ _ he
          have hlen:es'.length=len:=by rw[g1]; simp; omega
          have hg:∀ i,i < len→((es.drop off).take len).getD i []=es.getD (off+i) []:=fun i hi=>by
            simp[List.getD_eq_getElem?_getD,hi]
          have g3:∀ i,i < len→frzL (frzF h.view k) (es.getD (off+i) [])=some (es'.getD i []):=fun i hi=>by
            rw[← hg i hi]; exact g2 i (by rw[← g1,hlen]; exact hi)
          exact .sl id off len esz z es es' hH hle hlen (fun i hi=>(frzL_ok _ _ (g3 i hi)).1) (fun i j hi hj=>ih _ _ ((frzL_ok _ _ (g3 i hi)).2 j (by rw[← (frzL_ok _ _ (g3 i hi)).1]; exact hj)))
        · simp at hf
      · simp at hf
    · simp only[Option.map_eq_some_iff] at hf
      obtain ⟨l,hl,rfl⟩:=hf
      obtain ⟨g1,g2⟩:=frzL_ok _ _ hl
      exact .agg _ _ g1 (fun i hi=>ih _ _ (g2 i hi))
    · simp only[Option.map_eq_some_iff] at hf
      obtain ⟨l,hl,rfl⟩:=hf
      obtain ⟨g1,g2⟩:=frzL_ok _ _ hl
      exact .tup _ _ g1 (fun i hi=>ih _ _ (g2 i hi))
    · simp at hf
theorem PCall.seen {P:Program} {f:FuncId} {vs ts:List V} {t:V} (hc:PCall P f ts t) (ht:∀ i,i < vs.length→Tree (vs.getD i .any)) (hl:ts.length=vs.length) (hfr:∀ i,i < vs.length→Fr [] (vs.getD i .any) (ts.getD i .any)):PCall P f vs t:=by
  intro Z μ w xs hrel hz
  have hr0:HRel Z (fun _=>none) w.heap (cat [] fun _=>.dead):=by
    rw[cat_nil]
    exact ⟨fun _=>trivial,fun i j b o s o' s' _ h=>by simp at h,fun id b o s h=>by simp at h,hz,fun id b o s h=>by simp at h⟩
  have hno:∀ b,¬ hasMu (fun _=>none) b:=fun b ⟨_,_,_,h⟩=>by simp at h
  have hts:VRels (fun b=>Z b∨hasMu (fun _=>none) b) μ w.heap ts xs:=⟨by rw[hl,hrel.1],fun i hi=>fr_rel hr0 (hfr i (by omega)) (tree_rel (hrel.2 i (by omega)) (ht i (by omega)))⟩
  refine (hc _ μ w xs hts (fun b hb=>hb.elim (hz b) (fun h=>absurd h (hno b)))).mono ?_
  rintro e w' ⟨x,Z',rfl,hv,hs,h1,h2,ho⟩
  exact ⟨x,Z',rfl,hv,hs,fun b hb=>h1 b (.inl hb),fun b hb=>(h2 b hb).elim (fun h=>h.elim .inl (fun h=>absurd h (hno b))) .inr,ho⟩
abbrev ExtE:=FuncId × List V × V × Bool
def ExtE.Ok (P:Program) (x:ExtE):Prop:=calleeOk P x.1=true∧if x.2.2.2=true then PCall P x.1 x.2.1 x.2.2.1 else (PNew P x.1 x.2.1 x.2.2.1∨(PCall P x.1 x.2.1 x.2.2.1∧Bare x.2.2.1))
noncomputable def isExt (g:FuncId) (vs:List V) (H:View) (x:ExtE):Bool:=Nat.beq x.1 g && (match x.2.2.2 with
  | true=>vs.all (treeQ 60) && (match frzL (frzF (fun _=>.dead) 60) vs with
    | some ts=>eqL (eqV 60) ts x.2.1
    | none=>false)
  | false=>match frzL (frzF H 60) vs with
    | some ts=>eqL (eqV 60) ts x.2.1
    | none=>false)
noncomputable def extOf (l:List ExtE):ExtT:=fun g vs H=>(l.find? (isExt g vs H)).map fun x=>x.2.2.1
theorem extOf_ok {P:Program} {l:List ExtE} (hl:∀ x∈l,x.Ok P):ExtSound P (extOf l):=by
  intro g vs H t h
  unfold extOf at h
  simp only[Option.map_eq_some_iff] at h
  obtain ⟨⟨f,ts,r,b⟩,hx,rfl⟩:=h
  obtain ⟨h1,h2⟩:=hl _ (List.mem_of_find?_eq_some hx)
  have hq:=List.find?_some hx
  simp only[isExt,Bool.and_eq_true] at hq
  obtain ⟨hg,hq⟩:=hq
  have hg:=Nat.eq_of_beq_eq_true hg
  simp only at hg h1 h2 hq
  subst hg
  refine ⟨h1,?_⟩
  rintro h rfl
  cases b with
  | true =>
    simp only[Bool.and_eq_true] at hq
    obtain ⟨hq1,hq2⟩:=hq
    split at hq2
    · rename_i us hus
      obtain ⟨g1,g2⟩:=frzL_ok _ _ hus
      have:=eqL_ok (eqV_ok 60) _ _ hq2
      subst this
      simp only[if_true] at h2
      exact ACall.of_pure (h2.seen (fun i hi=>treeQ_ok _ _ (all_getD hq1 hi)) g1 fun i hi=>frzF_ok [] 60 _ _ (g2 i hi)) h
    · simp at hq2
  | false =>
    simp only at hq
    split at hq
    · rename_i us hus
      obtain ⟨g1,g2⟩:=frzL_ok _ _ hus
      have:=eqL_ok (eqV_ok 60) _ _ hq
      subst this
      have hfr:=fun i hi=>frzF_ok h 60 _ _ (g2 i hi)
      simp only[Bool.false_eq_true,if_false] at h2
      rcases h2 with h2 | ⟨h2,h3⟩
      · exact ACall.borrowN h2 g1 hfr
      · exact ACall.borrow h2 h3 g1 hfr
    · simp at hq
def in64B (x:Int):Bool:=decide (-9223372036854775808≤x) && decide (x≤9223372036854775807)
theorem in64B_ok {x:Int} (h:in64B x=true):In64 x:=by
  unfold in64B at h
  simp only[Bool.and_eq_true,decide_eq_true_eq] at h
  exact h
def okB (g:Gram):Bool:=decide (g.terms.length≤900) && decide (g.nons.length≤100) && decide (g.rules.length≤900) && in64B g.start && g.terms.all (fun t=>in64B t.level && in64B t.assoc) && g.rules.all fun r=>in64B r.left && in64B r.prec && decide (r.right.length≤900) && r.right.all in64B
theorem okB_ok {g:Gram} (h:okB g=true):g.Ok∧g.Small:=by
  unfold okB at h
  simp only[Bool.and_eq_true,decide_eq_true_eq,List.all_eq_true] at h
  obtain ⟨⟨⟨⟨⟨h1,h2⟩,h3⟩,h4⟩,h5⟩,h6⟩:=h
  refine ⟨⟨by unfold Short; omega,by unfold Short; omega,by unfold Short; omega,in64B_ok h4,fun t ht=>⟨in64B_ok (h5 t ht).1,in64B_ok (h5 t ht).2⟩,fun r hr=>?_⟩,⟨by omega⟩⟩
  have:=h6 r hr
  exact ⟨in64B_ok this.1.1.1,in64B_ok this.1.1.2,by unfold Short; have:=this.1.2; omega,fun x hx=>in64B_ok (this.2 x hx)⟩
theorem gram5_okB:gram5.Ok∧gram5.Small:=okB_ok (by kernel_rfl)
theorem tab_args (t:Tab):∀ v∈[V.agg (encTab t)],Tree v:=by
  intro v hv; simp at hv; subst hv
  exact tree_agg _ (encTab_tree t)
theorem runD_len (g:Gram) (t:Tab) (w:List Int):∀ (k:Nat) (st rs:List Int) (at_:Nat),(runD g t w k st rs at_).1.length≤rs.length+k:=by
  intro k
  induction k with
  | zero =>
    intro st rs at_
    rw[runD_eq]
    split
    · simp
    · split <;> simp
  | succ k ih =>
    intro st rs at_
    rw[runD_eq]
    split
    · simp
    · split
      · simp
      · simp only
        split
        · have:=ih (st ++ [(cellA t (topS st) (aheadT g w at_)).n]) rs (at_+1); omega
        · split
          · simp
          · split
            · simp
            · refine Nat.le_trans (ih _ _ _) ?_
              simp; omega
structure PEdg where
  sym:Int
  to:Int
  deriving DecidableEq
def encPd (x:PEdg):List V:=[gi x.sym,gi x.to]
theorem apv_own {H:View} {u:V} {sz b i j:Nat} {es:List (List V)} (h:OwnA H u sz es) (hb:owner u≠some b):ApV (.ptr b i j) u:=by
  rcases h with ⟨_,k,rfl⟩ | ⟨z,rfl,_⟩
  · simp[ApV]
  · simp[ApV,owner] at hb ⊢
    exact fun e=>hb e.symm
abbrev RowsC:=List (V × List Cell)
abbrev RowsI:=List (V × List Int)
def rowsE {α:Type} (A:List (V × α)):List (List V):=A.map fun x=>[x.1]
def rowsC (A:RowsC):List Ent:=A.map fun x=>(x.1,2,x.2.map encCell)
def rowsI (A:RowsI):List Ent:=A.map fun x=>(x.1,1,intsE x.2)
theorem rowsC_frn {h:Heap} {u:V} {A:RowsC} (ho:OwnA h.view u 1 (rowsE A)) (hb:∀ x∈A,OwnA h.view x.1 2 (x.2.map encCell)):FrN h u (.fro ((A.map (·.2)).map fun r=>[encRow r])):=by
  have hg:∀ i (hi:i < A.length),(rowsE A).getD i []=[(A[i]).1]∧(((A.map (·.2)).map fun r=>[encRow r]).getD i [])=[encRow (A[i]).2]:=fun i hi=>by
    simp[rowsE,List.getD_eq_getElem?_getD,hi]
  refine FrN.own ho (by simp[rowsE]) (fun i hi=>?_) (fun i j hi hj=>?_)
  · have hi':i < A.length:=by simpa [rowsE] using hi
    rw[(hg i hi').1,(hg i hi').2]; rfl
  · have hi':i < A.length:=by simpa [rowsE] using hi
    rw[(hg i hi').2] at hj ⊢
    rw[(hg i hi').1]
    have:j=0:=by simp at hj; omega
    subst this
    simp only[List.getD_cons_zero]
    have hx:=hb _ (List.getElem_mem hi')
    generalize (A[i]'hi').2=l at hx
    refine FrN.own hx rfl (fun i _=>rfl) (fun i j hi hj=>?_)
    simp only[List.length_map] at hi
    have e:(l.map encCell).getD i []=encCell l[i]:=by simp[List.getD_eq_getElem?_getD,hi]
    rw[e] at hj ⊢
    match j,hj with
    | 0,_=>exact .val _
    | 1,_=>exact .val _
theorem frn_two {h:Heap} {u v s t:V} (h1:FrN h u s) (h2:FrN h v t):FrN h (.agg [u,v]) (.agg [s,t]):=.agg _ _ rfl fun j hj=>by
  match j,hj with
  | 0,_=>exact h1
  | 1,_=>exact h2
structure LrI where
  rule:Int
  dot:Int
  deriving DecidableEq
def encLr (x:LrI):List V:=[gi x.rule,gi x.dot]
def lrE (l:List LrI):List (List V):=l.map encLr
def lessLr (a b:LrI):Bool:=decide (a.rule < b.rule) || (decide (a.rule=b.rule) && decide (a.dot < b.dot))
def putLr:List LrI→LrI→List LrI
  | [],x=>[x]
  | y :: l,x=>if lessLr y x=true then y :: putLr l x else if y=x then y :: l else x :: y :: l
theorem lr_args (a b:LrI):∀ v∈[V.agg (encLr a),.agg (encLr b)],Tree v:=by
  intro v hv; simp at hv
  rcases hv with rfl | rfl <;> exact tree_agg _ fun v hv=>by simp[encLr] at hv; rcases hv with rfl | rfl <;> exact .val _
def S_gerundref15_less:SF:=⟨.seq (ab [aC 2 0,aC 3 1,aw 4 false]) <|
  .seq (.region false [⟨none,[af 5 0 2,ae 6 5,af 7 0 3,ae 8 7,ak 9 .lss 6 8,aa 10 9]⟩,⟨(some (10,false)),[af 11 0 2,ae 12 11,af 13 0 3,ae 14 13,ak 15 .eql 12 14,aa 16 15]⟩,⟨(some (16,true)),[af 17 1 2,ae 18 17,af 19 1 3,ae 20 19,ak 21 .lss 18 20]⟩,⟨(some (10,false)),[az 22 16 21]⟩,⟨none,[ay 23 10 22,aa 4 23]⟩]) <|
  .ret,
  [.tmp 4],24⟩
theorem S_gerundref15_less_ok:compF Tryz.prog 173 [2,3]=some S_gerundref15_less:=by kernel_rfl
def B_gerundref15_put_0:SC :=
  .seq (.seq (.region false [⟨none,[aa 7 5,aa 8 0,aj 9 8,ak 10 .lss 7 9,aa 11 10]⟩,⟨(some (11,true)),[aa 12 0,aa 13 5,av 14 2 12 13,au 15 2 14,au 16 2 3,ao 17 173 [15,16]]⟩,⟨none,[az 18 11 17]⟩]) <|
  .cond (.tmp 18) (.skip) (.exit 0)) <|
  .block 1 (ab [aa 19 5,ah 20 .add 19 1,aa 5 20])
def S_gerundref15_put:SF:=⟨.seq (ab [aC 3 1,((some 4),.op (.mov (.val (.emp 1))))]) <|
  .seq (ab [ai 5 0]) <|
  .seq (.block 0 (.loop B_gerundref15_put_0)) <|
  .seq (.seq (.region false [⟨none,[aa 21 5,aa 22 0,aj 23 22,ak 24 .lss 21 23,aa 25 24]⟩,⟨(some (25,true)),[aa 26 0,aa 27 5,av 28 2 26 27,au 29 2 28,au 30 2 3,((some 31),.op (.old (.binOp .eql 55 (.tmp 29) (.tmp 30) 55) 4))]⟩,⟨none,[az 32 25 31]⟩]) <|
  .cond (.tmp 32) (.seq (ab [aa 33 0,aa 4 33]) <|
  .ret) (.skip)) <|
  .seq (ab [((some 34),.op (.mov (.val (.emp 2)))),aa 35 0,aa 36 5,((some 37),.op (.slice 2 (.tmp 35) (some (.tmp 36)) none)),((some 38),.op (.app 2 16 (.tmp 34) (.tmp 37))),aa 6 38]) <|
  .seq (ab [aa 39 0,aa 40 5,((some 41),.op (.slice 2 (.tmp 39) none (some (.tmp 40)))),au 42 2 3,((some 43),.op (.bslice 1 2 [(.val (.int .i64 0)),(.val (.int .i64 0))] [(0,(.tmp 42))])),((some 44),.op (.app 2 16 (.tmp 41) (.tmp 43))),aa 45 6,((some 46),.op (.app 2 16 (.tmp 44) (.tmp 45))),aa 4 46]) <|
  .ret,
  [.tmp 4],47⟩
theorem S_gerundref15_put_ok:compF Tryz.prog 119 [3]=some S_gerundref15_put:=by kernel_rfl
theorem pc_less15 (a b:LrI):PCall Tryz.prog 173 [.agg (encLr a),.agg (encLr b)] (gb (lessLr a b)):=by
  refine PCall.val (lr_args a b) fun H=>?_
  refine MCall.of mixed S_gerundref15_less_ok ?_
  unfold lessLr
  simp (disch:=omega) only [↓wr,↓reduceIte,wq,oneV,intOp,Nat.reduceEqDiff,Nat.reduceAdd,Nat.reduceLT,Nat.reduceLeDiff,S_gerundref15_less,encLr]
  refine GoB.dec (fun h1=>?_) (fun h1=>?_)
  · simp (disch:=omega) only [↓wr,↓reduceIte,wq,Nat.reduceEqDiff,reduceCtorEq]
    rw[decide_eq_true h1]; rfl
  simp (disch:=omega) only [↓wr,↓reduceIte,wq,intOp,Nat.reduceEqDiff,Nat.reduceAdd,Nat.reduceLT]
  refine GoB.eq (fun h2=>?_) (fun h2=>?_)
  · simp (disch:=omega) only [↓wr,↓reduceIte,wq,intOp,Nat.reduceEqDiff,Nat.reduceAdd,Nat.reduceLT,reduceCtorEq]
    rw[decide_eq_false h1,decide_eq_true h2]; rfl
  · simp (disch:=omega) only [↓wr,↓reduceIte,wq,Nat.reduceEqDiff,reduceCtorEq]
    rw[decide_eq_false h1,decide_eq_false h2]; rfl
def aheadLr:List LrI→LrI→Nat
  | [],_=>0
  | y :: l,x=>if lessLr y x=true then aheadLr l x+1 else 0
theorem aheadLr_le:∀ (l:List LrI) (x:LrI),aheadLr l x≤l.length
  | [],_=>Nat.le_refl _
  | y :: l,x=>by
    rw[aheadLr]; split
    · have:=aheadLr_le l x; simp; omega
    · simp
theorem aheadLr_lt:∀ (l:List LrI) (x:LrI) (i:Nat) (y:LrI),l[i]?=some y→i < aheadLr l x→lessLr y x=true
  | [],_,_,_,h,_=>by simp at h
  | z :: l,x,0,y,h,hi=>by
    rw[aheadLr] at hi; split at hi
    · simp at h; subst h; assumption
    · omega
  | z :: l,x,i+1,y,h,hi=>by
    rw[aheadLr] at hi; split at hi
    · exact aheadLr_lt l x i y (by simpa using h) (by omega)
    · omega
theorem aheadLr_at:∀ (l:List LrI) (x:LrI) (y:LrI),l[aheadLr l x]?=some y→lessLr y x=false
  | [],_,_,h=>by simp at h
  | z :: l,x,y,h=>by
    rw[aheadLr] at h; split at h
    · exact aheadLr_at l x y (by simpa using h)
    · rename_i e; simp at h; subst h; simpa using e
theorem putLr_eq:∀ (l:List LrI) (x:LrI),putLr l x=if l[aheadLr l x]?=some x then l else l.take (aheadLr l x) ++ [x] ++ l.drop (aheadLr l x)
  | [],x=>by simp[putLr,aheadLr]
  | y :: l,x=>by
    rw[putLr,aheadLr]
    split
    · have:=putLr_eq l x
      simp only[List.getElem?_cons_succ,List.take_succ_cons,List.drop_succ_cons,List.cons_append]
      rw[this]; split <;> simp
    · simp only[List.getElem?_cons_zero,Option.some.injEq,List.take_zero,List.drop_zero,List.nil_append,List.cons_append]
theorem fields_lr (x y:LrI):FieldsEq Tryz.prog 9998 #[.int .i64 x.rule,.int .i64 x.dot] #[.int .i64 y.rule,.int .i64 y.dot]
    [{ name:= "Rule",type:=3,offset:=0,embedded:=false,tag:= "",pkgPath:= "",byteOffset:=0 },{ name:= "Dot",type:=3,offset:=1,embedded:=false,tag:= "",pkgPath:= "",byteOffset:=8 }] ((x.rule == y.rule) && ((x.dot == y.dot) && true)) :=
  .int _ _ _ .i64 _ _ (by decide) Tryz.underlying3 rfl rfl (.int _ _ _ .i64 _ _ (by decide) Tryz.underlying3 rfl rfl .nil)
theorem lr_eq0 (x y:LrI):((x.rule == y.rule) && ((x.dot == y.dot) && true))=decide (x=y):=by
  cases x; cases y; rw [Bool.eq_iff_iff]; simp
theorem sSliceG_tail {sz id off k m:Nat} (hm:m≤k):sSlice sz (.sl id off k sz) (some (gi m)) none=some (.sl id (off+m) (k - m) sz,.none,[]):=by
  simp[sSlice,bound,asNat,hm]
theorem sSliceG_head {sz id off k m:Nat} (hm:m≤k):sSlice sz (.sl id off k sz) none (some (gi m))=some (.sl id off m sz,.none,[]):=by
  simp[sSlice,bound,asNat,hm]
theorem lrE_ok (l:List LrI):((lrE l).all fun e=>e.length == 2 && e.all cellOk)=true:=by
  simp[lrE,List.all_map,encLr,cellOk]
theorem own_elems {H:View} {u:V} {sz:Nat} {es:List (List V)} (h:OwnA H u sz es):∃ rd,elemsOf H u=some (es,rd):=by
  rcases h with ⟨rfl,k,rfl⟩ | ⟨n,rfl,hn⟩
  · exact ⟨_,elemsOf_emp _ k⟩
  · cases es with
    | nil=>exact ⟨[],by simp[elemsOf]⟩
    | cons e es =>
      exact ⟨_,by rw[show (e :: es).length=es.length+1 from rfl,elemsOf_sl _ n 0 es.length sz sz _ hn (by simp),List.drop_zero,List.take_of_length_le (by simp)]⟩
theorem goApp_noneO {sz bytes:Nat} {u:V} {es:List (List V)} {H:View} {K:V→View→Prop} {w:Veil (H,K)} (ho:OwnA H u sz es) (h:K u H):GoApp sz bytes u [] H K w:=by
  unfold GoApp
  rcases ho with ⟨_,k,rfl⟩ | ⟨n,rfl,_⟩ <;> simpa using h
theorem Left.behind {H H':View} {q:Nat} {o:AObj} {u r:V} (hq:H q=.dead) (h:Left (H.set q o) H' u r):Left H H' u r:=fun a ha hau=>by
  have e:¬ a=q:=by rintro rfl; exact ha hq
  have:=h a (by simp[View.set,e]; exact ha) hau
  simpa [View.set,e] using this
set_option maxHeartbeats 8000000 in
theorem mo_put15 (u:V) (l:List LrI) (hl:l.length≤100000) (x:LrI) (H:View) (ho:OwnA H u 2 (lrE l)):MCall Tryz.prog 119 [u,.agg (encLr x)] H fun r H'=>OwnA H' r 2 (lrE (putLr l x))∧Left H H' u r:=by
  refine MCall.of mixed S_gerundref15_put_ok ?_
  have hlen:lenV u=some l.length:=by rw[ho.len]; simp[lrE]
  have hle:=aheadLr_le l x
  simp (disch:=omega) only [↓wr,wq,oneV,Nat.reduceAdd,Nat.reduceLeDiff,S_gerundref15_put,encLr]
  refine LoopG.up (aheadLr l x) (fun i T H'=>H'=H∧i≤aheadLr l x∧T 0=u∧T 3=.fptr (encLr x) 0∧T 5=gi i) ⟨rfl,by omega,rfl,rfl,rfl⟩ ?_
  rintro i k T H' hk ⟨eH,hi,t0,t3,t5⟩
  subst eH
  simp (disch:=omega) only [↓wr,↓reduceIte,wq,intOp,goI,Nat.reduceEqDiff,reduceCtorEq,B_gerundref15_put_0,t0,t5,hlen]
  have stop:i=aheadLr l x→True:=fun _=>trivial
  refine GoB.dec (fun hc=>?_) (fun hc=>?_)
  · have hy:l[i]?=some (l[i]'(by omega)):=List.getElem?_eq_getElem (by omega)
    generalize l[i]'(by omega)=y at hy
    obtain ⟨id,hu,hid⟩:=ho.sl (by simp[lrE]; omega)
    have hl3:(lrE l).length=l.length:=by simp[lrE]
    have hg:(lrE l).getD i []=encLr y:=by simp[lrE,List.getD_eq_getElem?_getD,hy]
    have h15:=pc_less15 y x
    simp only[encLr] at h15 hg
    simp (disch:=omega) only [↓wr,↓reduceIte,wq,Nat.reduceEqDiff,Nat.reduceAdd,Nat.reduceLeDiff,reduceCtorEq,t0,t3,t5,hu,hid,hg,encLr]
    refine ⟨by simp[lrE]; omega,by simp[lrE]; omega,?_⟩
    refine CallG.pure h15 (by kernel_rfl) ?_
    simp (disch:=omega) only [↓wr,↓reduceIte,wq,Nat.reduceEqDiff]
    refine GoB.split (fun e=>?_) (fun e=>?_)
    · have hlt:i < aheadLr l x:=by
        rcases Nat.lt_or_ge i (aheadLr l x) with h | h
        · exact h
        · have:=aheadLr_at l x y (by rw[show aheadLr l x=i by omega]; exact hy)
          rw[this] at e; exact absurd e (by simp)
      simp (disch:=omega) only [↓wr,↓reduceIte,wq,intOp,Nat.reduceEqDiff,reduceCtorEq,t0,t5]
      exact up_next hk hlt ⟨rfl,hlt,t0,t3,rfl⟩
    have hia:i=aheadLr l x:=by
      rcases Nat.lt_or_ge i (aheadLr l x) with h | h
      · rw[aheadLr_lt l x i y hy h] at e; exact absurd e (by simp)
      · omega
    simp (disch:=omega) only [↓wr,↓reduceIte,wq,intOp,Nat.reduceEqDiff,reduceCtorEq,t0,t5,hlen]
    refine GoB.dec (fun _=>?_) (fun h=>absurd hc h)
    simp (disch:=omega) only [↓wr,↓reduceIte,wq,Nat.reduceEqDiff,Nat.reduceAdd,Nat.reduceLeDiff,reduceCtorEq,t0,t3,t5,hu,hid,hg,encLr]
    refine ⟨by simp[lrE]; omega,by simp[lrE]; omega,?_⟩
    refine oldStructEq (xs:=#[.int .i64 y.rule,.int .i64 y.dot]) (ys:=#[.int .i64 x.rule,.int .i64 x.dot]) Tryz.underlying55 (by kernel_rfl) (by kernel_rfl) ?_ ?_ (fields_lr y x) (.inl ⟨rfl,rfl⟩) ?_
    · rfl
    · rfl
    rw[lr_eq0]
    simp (disch:=omega) only [↓wr,↓reduceIte,wq,Nat.reduceEqDiff]
    refine GoB.dec (fun e2=>?_) (fun e2=>?_)
    · subst e2
      simp (disch:=omega) only [↓wr,↓reduceIte,wq,reduceCtorEq,t0]
      rw[putLr_eq,if_pos (by rw[← hia]; exact hy)]
      exact ⟨ho,fun id hid ho=>⟨rfl,ho⟩⟩
    rw[hl3] at hu
    have hel:elemsOf H' (.sl id i (l.length - i) 2)=some (lrE (l.drop i),[id]):=by
      obtain ⟨q,hq⟩:∃ q,l.length - i=q+1:=⟨l.length - i - 1,by omega⟩
      rw[hq,elemsOf_sl H' id i q 2 2 (lrE l) hid (by rw[hl3]; omega)]
      rw[show (lrE l).drop i=lrE (l.drop i) from List.map_drop.symm,List.take_of_length_le (by simp[lrE]; omega)]
    simp (disch:=omega) only [↓wr,↓reduceIte,wq,Nat.reduceEqDiff,reduceCtorEq,t0,t5,hu,sSliceG_tail (sz:=2) (id:=id) (off:=0) (k:=l.length) (m:=i) (by omega),hel]
    refine goApp_all OwnA.nil (lrE_ok _) (by unfold limit lrE; simp; omega) (by unfold limit lrE; simp; omega) ?_
    intro rest H1 hor lr
    simp (disch:=omega) only [↓wr,↓reduceIte,wq,fillE,Nat.reduceEqDiff,Nat.reduceAdd,Nat.reduceLT,Nat.reduceLeDiff,reduceCtorEq,t0,t3,t5,hu,sSliceG_head (sz:=2) (id:=id) (off:=0) (k:=l.length) (m:=i) (by omega),encLr]
    intro q hq
    have hidr:owner rest≠some id:=(lr id (by rw[hid]; simp) (by simp[owner])).2
    have hid1:H1 id=.arr 2 (lrE l):=by rw[(lr id (by rw[hid]; simp) (by simp[owner])).1,hid]
    have hqid:¬ id=q:=by rintro rfl; rw[hid1] at hq; simp at hq
    simp (disch:=omega) only [↓wr,↓reduceIte,wq,Nat.reduceEqDiff,elemsOf_new]
    rw[goApp_sl _ _ _ _ _ _ _ _ _ _ (by rfl)]
    simp (disch:=omega) only [↓wr,↓reduceIte,wq,Nat.reduceEqDiff,Nat.reduceAdd,hqid,hid1,hl3]
    refine ⟨rfl,⟨by omega,by unfold limit; omega,by unfold limit; omega⟩,fun n2 hn2=>?_⟩
    rw[List.drop_zero]
    have n2q:¬ n2=q:=by rintro rfl; simp at hn2
    rw[if_neg n2q] at hn2
    have n2id:¬ n2=id:=by rintro rfl; rw[hid1] at hn2; simp at hn2
    have hor3:=((hor.fresh (o:=.arr 2 [[gi x.rule,gi x.dot]]) hq).other (o:=.dead) hidr).fresh (m:=n2) (o:=.arr 2 (List.take i (lrE l) ++ [[gi x.rule,gi x.dot]])) (by simp[View.set,n2q,n2id,hn2])
    have ho3:OwnA (((H1.set q (.arr 2 [[gi x.rule,gi x.dot]])).set id .dead).set n2 (.arr 2 (List.take i (lrE l) ++ [[gi x.rule,gi x.dot]]))) (.sl n2 0 (i+1) 2) 2 (List.take i (lrE l) ++ [[gi x.rule,gi x.dot]]):=.inr ⟨n2,by simp[hl3]; omega,by simp[View.set]⟩
    have hk3:∀ a,H' a≠.dead→a≠id→(((H1.set q (.arr 2 [[gi x.rule,gi x.dot]])).set id .dead).set n2 (.arr 2 (List.take i (lrE l) ++ [[gi x.rule,gi x.dot]]))) a=H' a∧a≠n2:=fun a ha hai=>by
      have h1:=(lr a ha (by simp[owner])).1
      have aq:¬ a=q:=by rintro rfl; rw[hq] at h1; exact ha h1.symm
      have an:¬ a=n2:=by rintro rfl; rw[hn2] at h1; exact ha h1.symm
      exact ⟨by simp[View.set,aq,an,hai,h1],an⟩
    generalize ((H1.set q (.arr 2 [[gi x.rule,gi x.dot]])).set id .dead).set n2 (.arr 2 (List.take i (lrE l) ++ [[gi x.rule,gi x.dot]]))=H3 at hor3 ho3 hk3 ⊢
    rw[List.nil_append] at hor3
    obtain ⟨rd,he⟩:=own_elems hor3
    simp (disch:=omega) only [↓wr,↓reduceIte,wq,Nat.reduceEqDiff,he]
    refine goApp_all ho3 (lrE_ok _) (by unfold limit lrE; simp; omega) (by unfold limit lrE; simp; omega) ?_
    intro r H4 o4 l4
    simp (disch:=omega) only [↓wr,↓reduceIte,wq,reduceCtorEq]
    refine ⟨?_,fun a ha hau=>?_⟩
    · rw[putLr_eq,if_neg (by rw[← hia,hy]; simpa using e2),← hia]
      simpa [lrE,encLr,List.map_take,List.map_drop] using o4
    · obtain ⟨k1,k2⟩:=hk3 a ha (by rintro rfl; exact hau (by rw[hu]; rfl))
      have:=l4 a (by rw[k1]; exact ha) (by simp[owner]; exact fun h=>k2 h.symm)
      exact ⟨by rw[this.1,k1],this.2⟩
  · simp (disch:=omega) only [↓wr,↓reduceIte,wq,intOp,Nat.reduceEqDiff,reduceCtorEq,t0,t5,hlen]
    refine GoB.dec (fun h=>absurd h hc) (fun _=>?_)
    have hil:i=l.length:=by omega
    subst hil
    have hput:lrE (putLr l x)=lrE l ++ [[gi x.rule,gi x.dot]]:=by
      rw[putLr_eq,show aheadLr l x=l.length by omega,List.getElem?_eq_none (Nat.le_refl _),if_neg (by simp),List.take_length,List.drop_length]
      simp[lrE,encLr]
    rcases ho with ⟨e,k0,hu⟩ | ⟨id,hu,hid⟩
    · have hl0:l=[]:=by simpa [lrE] using e
      subst hl0
      simp (disch:=omega) only [↓wr,↓reduceIte,wq,Nat.reduceEqDiff,reduceCtorEq,t0,t5,hu,show ∀ k,sSlice 2 (.emp k) (some (gi ((0:Nat):Int))) none=some (.emp k,.none,[]) from fun k=>rfl,show ∀ k,sSlice 2 (.emp k) none (some (gi ((0:Nat):Int)))=some (.emp k,.none,[]) from fun k=>rfl]
      refine goApp_noneO OwnA.nil ?_
      simp (disch:=omega) only [↓wr,↓reduceIte,wq,fillE,Nat.reduceEqDiff,Nat.reduceAdd,Nat.reduceLT,Nat.reduceLeDiff,reduceCtorEq,t0,t3,t5,hu,show ∀ k,sSlice 2 (.emp k) none (some (gi ((0:Nat):Int)))=some (.emp k,.none,[]) from fun k=>rfl,encLr]
      intro q hq
      simp (disch:=omega) only [↓wr,↓reduceIte,wq,Nat.reduceEqDiff,elemsOf_new]
      refine goApp_all (sz:=2) (u:=.emp k0) OwnA.nil (by simp[cellOk]) (by unfold limit; simp) (by unfold limit; simp) ?_
      intro r H4 o4 l4
      simp (disch:=omega) only [↓wr,↓reduceIte,wq,Nat.reduceEqDiff]
      refine goApp_noneO o4 ?_
      simp (disch:=omega) only [↓wr,↓reduceIte,wq,reduceCtorEq]
      exact ⟨by rw[hput]; exact o4,hu ▸ Left.behind hq l4⟩
    · rw[show (lrE l).length=l.length by simp[lrE]] at hu
      simp (disch:=omega) only [↓wr,↓reduceIte,wq,Nat.reduceEqDiff,reduceCtorEq,t0,t5,hu,sSliceG_tail (sz:=2) (id:=id) (off:=0) (k:=l.length) (m:=l.length) (by omega)]
      rw[Nat.sub_self,show elemsOf H' (.sl id l.length 0 2)=some ([],[]) from rfl]
      simp (disch:=omega) only [↓wr,↓reduceIte,wq,Nat.reduceEqDiff]
      refine goApp_noneO OwnA.nil ?_
      simp (disch:=omega) only [↓wr,↓reduceIte,wq,fillE,Nat.reduceEqDiff,Nat.reduceAdd,Nat.reduceLT,Nat.reduceLeDiff,reduceCtorEq,t0,t3,t5,hu,sSliceG_head (sz:=2) (id:=id) (off:=0) (k:=l.length) (m:=l.length) (by omega),encLr]
      intro q hq
      simp (disch:=omega) only [↓wr,↓reduceIte,wq,Nat.reduceEqDiff,elemsOf_new]
      have ho2:OwnA H' (.sl id 0 l.length 2) 2 (lrE l):=.inr ⟨id,by simp[lrE],hid⟩
      refine goApp_all (sz:=2) (ho2.fresh hq) (by simp[cellOk]) (by unfold limit lrE; simp; omega) (by unfold limit lrE; simp; omega) ?_
      intro r H4 o4 l4
      simp (disch:=omega) only [↓wr,↓reduceIte,wq,Nat.reduceEqDiff]
      refine goApp_noneO o4 ?_
      simp (disch:=omega) only [↓wr,↓reduceIte,wq,reduceCtorEq]
      exact ⟨by rw[hput]; exact o4,hu ▸ Left.behind hq l4⟩
def rightLr (g:Gram) (r:Int):List Int:=if r = -1 then [-1 - g.start] else (ruleD g r).right
def nextLr (g:Gram) (x:LrI):Int × Bool:=if x.dot=(rightLr g x.rule).length then (0,false) else ((rightLr g x.rule).getD x.dot.toNat 0,true)
def S_gerundref15_right:SF:=⟨.seq (ab [aC 2 0,((some 4),.op (.mov (.val (.emp 1))))]) <|
  .seq (.seq (ab [aa 5 1,ah 6 .eql 5 (-1)]) <|
  .cond (.tmp 6) (.seq (ab [af 7 3 2,ae 8 7,((some 9),.op (.arith .sub (.val (.val (.int .i64 (-1)))) (.tmp 8))),((some 10),.op (.bslice 1 1 [(.val (.int .i64 0))] [(0,(.tmp 9))])),aa 4 10]) <|
  .ret) (.skip)) <|
  .seq (ab [af 11 2 2,ae 12 11,aa 13 1,av 14 3 12 13,af 15 1 14,ae 16 15,aa 4 16]) <|
  .ret,
  [.tmp 4],17⟩
theorem S_gerundref15_right_ok:compF Tryz.prog 67 [2]=some S_gerundref15_right:=by kernel_rfl
def S_gerundref15_next:SF:=⟨.seq (ab [aC 2 0,aC 3 1,ai 4 0,aw 5 false]) <|
  .seq (ab [au 7 4 2,af 8 0 3,ae 9 8,ao 10 67 [7,9],aa 6 10]) <|
  .seq (.seq (ab [af 11 1 3,ae 12 11,aa 13 6,aj 14 13,ak 15 .eql 12 14]) <|
  .cond (.tmp 15) (.seq (ab [ai 4 0,aw 5 false]) <|
  .ret) (.skip)) <|
  .seq (ab [aa 16 6,af 17 1 3,ae 18 17,av 19 1 16 18,ae 20 19,aa 4 20,aw 5 true]) <|
  .ret,
  [.tmp 4,.tmp 5],21⟩
theorem S_gerundref15_next_ok:compF Tryz.prog 63 [2,3]=some S_gerundref15_next:=by kernel_rfl
theorem pc_right15 (g:Gram) (hs : -100≤g.start∧g.start≤100) (r:Int) (hr : -1≤r∧r < (g.rules.length:Int)):PCall Tryz.prog 67 [.agg (encG g),gi r] (encI (rightLr g r)):=by
  refine PCall.of (by
    intro v hv; simp at hv
    rcases hv with rfl | rfl
    · exact tree_agg _ (encG_tree g)
    · exact .val _) ?_
  refine MCall.of mixed S_gerundref15_right_ok ?_
  unfold rightLr
  simp (disch:=omega) only [↓wr,↓reduceIte,wq,oneV,intOp,Nat.reduceEqDiff,Nat.reduceAdd,Nat.reduceLeDiff,Int.reduceNeg,S_gerundref15_right,encG,encS]
  refine GoB.eq (fun h1=>?_) (fun h1=>?_)
  · simp (disch:=omega) only [↓wr,↓reduceIte,wq,intOp,fillE,Nat.reduceEqDiff,Nat.reduceAdd,Nat.reduceLT,Int.reduceNeg,reduceCtorEq]
    intro n
    rw[if_pos h1]
    rintro h' hv
    refine FrN.fr (frn_ints (l:=[-1 - g.start]) (.inr ⟨n,rfl,?_⟩))
    rw[hv]; simp[View.set]
  · have hR:g.rules[r.toNat]?=some (ruleD g r):=by unfold ruleD; exact getD_some (by omega)
    rw[if_neg h1]
    generalize ruleD g r=R at hR
    simp (disch:=omega) only [↓wr,↓reduceIte,wq,Nat.reduceEqDiff,Nat.reduceAdd,Nat.reduceLT,Int.reduceNeg,reduceCtorEq,List.getElem?_map,hR,encR]
    intro h' _
    exact .tree _ (encI_tree R.right)
theorem pc_next15 (g:Gram) (hs : -100≤g.start∧g.start≤100) (x:LrI) (hx : -1≤x.rule∧x.rule < (g.rules.length:Int)) (hd:0≤x.dot∧x.dot≤(rightLr g x.rule).length) (hl:(rightLr g x.rule).length≤1000) :
    PCall Tryz.prog 63 [.agg (encG g),.agg (encLr x)] (.tup [gi (nextLr g x).1,gb (nextLr g x).2]):=by
  have h1:=pc_right15 g hs x.rule hx
  refine PCall.tree (by
    intro v hv; simp at hv
    rcases hv with rfl | rfl
    · exact tree_agg _ (encG_tree g)
    · exact tree_agg _ fun v hv=>by simp[encLr] at hv; rcases hv with rfl | rfl <;> exact .val _) (.tup _ fun i hi=>by
      match i,hi with
      | 0,_=>exact .val _
      | 1,_=>exact .val _) fun H=>?_
  refine MCall.of mixed S_gerundref15_next_ok ?_
  simp only[encG,encS,encI] at h1
  unfold nextLr
  simp (disch:=omega) only [↓wr,↓reduceIte,wq,oneV,Nat.reduceEqDiff,Nat.reduceAdd,Nat.reduceLT,Nat.reduceLeDiff,S_gerundref15_next,encG,encS,encLr]
  refine CallG.pure h1 (by kernel_rfl) ?_
  generalize rightLr g x.rule=R at hd hl ⊢
  simp (disch:=omega) only [↓wr,↓reduceIte,wq,intOp,goI,Nat.reduceEqDiff,Nat.reduceAdd,Nat.reduceLT]
  refine GoB.eq (fun h2=>?_) (fun h2=>?_)
  · simp (disch:=omega) only [↓wr,↓reduceIte,wq,Nat.reduceEqDiff,reduceCtorEq]
    rw[if_pos h2]
  · have hg:R[x.dot.toNat]?=some (R.getD x.dot.toNat 0):=getD_some (by omega)
    simp (disch:=omega) only [↓wr,↓reduceIte,wq,Nat.reduceEqDiff,Nat.reduceAdd,Nat.reduceLT,reduceCtorEq,List.getElem?_map,hg]
    rw[if_neg h2]
theorem lessLr_iff {a b:LrI} : lessLr a b=true↔a.rule < b.rule∨a.rule=b.rule∧a.dot < b.dot:=by
  simp[lessLr]
theorem lessLr_trans {a b c:LrI} (h:lessLr a b=true) (k:lessLr b c=true):lessLr a c=true:=by
  rw[lessLr_iff] at h k ⊢; omega
theorem lessLr_irr {a:LrI} : lessLr a a=false:=by
  cases h:lessLr a a with
  | false=>rfl
  | true=>rw[lessLr_iff] at h; omega
theorem lessLr_tri {a b:LrI} (h:lessLr a b=false) (hne:¬ a=b):lessLr b a=true:=by
  rw[lessLr_iff]
  have h1:¬ lessLr a b=true:=by simp[h]
  rw[lessLr_iff] at h1
  obtain ⟨ar,ad⟩:=a
  obtain ⟨br,bd⟩:=b
  simp only[LrI.mk.injEq] at hne
  simp only at h1 ⊢
  omega
abbrev SortLr (l:List LrI):Prop:=l.Pairwise fun a b=>lessLr a b=true
theorem mem_putLr:∀ {l:List LrI} {x y:LrI},y∈putLr l x↔y=x∨y∈l
  | [],x,y=>by simp[putLr]
  | z :: l,x,y=>by
    rw[putLr]
    split
    · simp only[List.mem_cons,mem_putLr (l:=l)]
      constructor
      · rintro (h | h | h) <;> simp[h]
      · rintro (h | h | h) <;> simp[h]
    · split
      · rename_i h; subst h; simp
      · simp
theorem putLr_sort:∀ {l:List LrI} {x:LrI},SortLr l→SortLr (putLr l x)
  | [],x,_=>by simp[putLr,SortLr]
  | z :: l,x,h=>by
    rw[SortLr,List.pairwise_cons] at h
    rw[putLr]
    split
    · rename_i hz
      rw[SortLr,List.pairwise_cons]
      refine ⟨fun y hy=>?_,putLr_sort h.2⟩
      rcases mem_putLr.1 hy with rfl | hy
      · exact hz
      · exact h.1 y hy
    · rename_i hz
      split
      · exact List.pairwise_cons.2 h
      · rename_i hne
        have hxz:=lessLr_tri (by simpa using hz) hne
        rw[SortLr,List.pairwise_cons]
        refine ⟨fun y hy=>?_,List.pairwise_cons.2 h⟩
        rcases List.mem_cons.1 hy with rfl | hy
        · exact hxz
        · exact lessLr_trans hxz (h.1 y hy)
theorem putLr_len:∀ (l:List LrI) (x:LrI),(putLr l x).length=l.length∨(putLr l x).length=l.length+1
  | [],x=>.inr rfl
  | z :: l,x=>by
    rw[putLr]
    split
    · rcases putLr_len l x with h | h <;> simp[h]
    · split <;> simp
theorem putLr_same:∀ {l:List LrI} {x:LrI},SortLr l→x∈l→putLr l x=l
  | [],x,_,h=>by simp at h
  | z :: l,x,hs,h=>by
    rw[SortLr,List.pairwise_cons] at hs
    rw[putLr]
    rcases List.mem_cons.1 h with rfl | h
    · rw[if_neg (by simp[lessLr_irr]),if_pos rfl]
    · rw[if_pos (hs.1 x h),putLr_same hs.2 h]
theorem putLr_grow:∀ {l:List LrI} {x:LrI},x ∉ l→(putLr l x).length=l.length+1
  | [],x,_=>rfl
  | z :: l,x,h=>by
    simp only[List.mem_cons,not_or] at h
    rw[putLr]
    split
    · simp[putLr_grow h.2]
    · rw[if_neg (fun e=>h.1 e.symm)]; rfl
theorem putLr_end:∀ {l:List LrI} {x:LrI},(∀ y∈l,lessLr y x=true)→putLr l x=l ++ [x]
  | [],x,_=>rfl
  | z :: l,x,h=>by
    rw[putLr,if_pos (h z (by simp)),putLr_end fun y hy=>h y (by simp[hy])]; rfl
theorem sort_uniq:∀ {a b:List LrI},SortLr a→SortLr b→(∀ x,x∈a↔x∈b)→a=b
  | [],[],_,_,_=>rfl
  | [],y :: b,_,_,h=>by have:=(h y).2 (by simp); simp at this
  | x :: a,[],_,_,h=>by have:=(h x).1 (by simp); simp at this
  | x :: a,y :: b,ha,hb,h=>by
    rw[SortLr,List.pairwise_cons] at ha hb
    have hxy:x=y:=by
      have h1:=(h x).1 (by simp)
      have h2:=(h y).2 (by simp)
      rcases List.mem_cons.1 h1 with h1 | h1
      · exact h1
      · rcases List.mem_cons.1 h2 with h2 | h2
        · exact h2.symm
        · have:=lessLr_trans (ha.1 y h2) (hb.1 x h1)
          rw[lessLr_irr] at this; exact absurd this (by simp)
    subst hxy
    congr 1
    refine sort_uniq ha.2 hb.2 fun z=>?_
    have hz:=h z
    simp only[List.mem_cons] at hz
    constructor
    · intro hm
      rcases hz.1 (.inr hm) with rfl | h
      · have:=ha.1 z hm; rw[lessLr_irr] at this; exact absurd this (by simp)
      · exact h
    · intro hm
      rcases hz.2 (.inr hm) with rfl | h
      · have:=hb.1 z hm; rw[lessLr_irr] at this; exact absurd this (by simp)
      · exact h
theorem rise_len:∀ (l:List Int) (a n:Int),l.Pairwise (· < ·)→(∀ x∈l,a≤x∧x < a+n)→0≤n→(l.length:Int)≤n
  | [],a,n,_,_,hn=>by simpa using hn
  | x :: l,a,n,hp,hm,hn=>by
    rw[List.pairwise_cons] at hp
    have h1:=hm x (by simp)
    have:=rise_len l (x+1) (a+n - (x+1)) hp.2 (fun y hy=>by have:=hp.1 y hy; have:=hm y (by simp[hy]); omega) (by omega)
    simp only[List.length_cons]; omega
def HasLr (g:Gram) (x:LrI):Prop:=(-1≤x.rule∧x.rule < (g.rules.length:Int))∧0≤x.dot∧x.dot≤(rightLr g x.rule).length
theorem rightLr_len {g:Gram} (hf:g.Fine) {r:Int} (h : -1≤r∧r < (g.rules.length:Int)):(rightLr g r).length≤6:=by
  unfold rightLr
  split
  · simp
  · have hR:g.rules[r.toNat]?=some (ruleD g r):=by unfold ruleD; exact getD_some (by omega)
    exact hf.right _ (List.mem_of_getElem? hR)
theorem sort_len {g:Gram} (hf:g.Fine) {l:List LrI} (hs:SortLr l) (hl:∀ x∈l,HasLr g x):l.length≤287:=by
  have hd:∀ x∈l,0≤x.dot∧x.dot≤6:=fun x hx=>by
    have h1:=hl x hx
    have:=rightLr_len hf h1.1
    exact ⟨h1.2.1,by have:=h1.2.2; omega⟩
  have h1:(l.map fun x=>(x.rule+1) * 7+x.dot).Pairwise (· < ·):=by
    rw[List.pairwise_map]
    refine List.Pairwise.imp_of_mem ?_ hs
    intro a b ha hb hab
    rw[lessLr_iff] at hab
    have:=hd a ha; have:=hd b hb
    omega
  have:=rise_len _ 0 287 h1 (fun y hy=>by
    obtain ⟨x,hx,rfl⟩:=List.mem_map.1 hy
    have h2:=(hl x hx).1
    have:=hd x hx; have:=hf.rules
    omega) (by omega)
  simp at this
  omega
inductive CloM (g:Gram) (l:List LrI):LrI→Prop
  | base {x:LrI} : x∈l→CloM g l x
  | step {x:LrI} {s:Int} {k:Nat} {R:Rule} : CloM g l x→nextLr g x=(s,true)→s < 0→g.rules[k]?=some R→R.left = -1 - s→CloM g l ⟨k,0⟩
theorem CloM.has {g:Gram} {l:List LrI} (hl:∀ x∈l,HasLr g x) {x:LrI} (h:CloM g l x):HasLr g x:=by
  induction h with
  | base h=>exact hl _ h
  | step _ _ _ hk _ _ =>
    have:=(List.getElem?_eq_some_iff.1 hk).1
    exact ⟨⟨by simp only; omega,by simp only; omega⟩,by simp only; omega,by simp only; omega⟩
def itemsG (g:Gram):List LrI:=(List.range (g.rules.length+1)).flatMap fun (r:Nat)=>(List.range 7).map fun (d:Nat)=>(⟨(r:Int) - 1,(d:Int)⟩:LrI)
theorem mem_itemsG {g:Gram} (hf:g.Fine) {x:LrI} (h:HasLr g x):x∈itemsG g:=by
  have:=rightLr_len hf h.1
  obtain ⟨⟨h1,h2⟩,h3,h4⟩:=h
  simp only[itemsG,List.mem_flatMap,List.mem_map,List.mem_range]
  refine ⟨(x.rule+1).toNat,by omega,x.dot.toNat,by omega,?_⟩
  obtain ⟨r,d⟩:=x
  simp only at h1 h2 h3 h4 this
  simp only[LrI.mk.injEq]; omega
theorem foldPut_spec:∀ (l a:List LrI),SortLr a→SortLr (l.foldl putLr a)∧∀ x,x∈l.foldl putLr a↔x∈a∨x∈l
  | [],a,h=>⟨h,fun x=>by simp⟩
  | y :: l,a,h=>by
    obtain ⟨h1,h2⟩:=foldPut_spec l (putLr a y) (putLr_sort h)
    refine ⟨h1,fun x=>?_⟩
    rw[List.foldl_cons,h2,mem_putLr,List.mem_cons]
    constructor
    · rintro ((h | h) | h) <;> simp[h]
    · rintro (h | h | h) <;> simp[h]
open Classical in
noncomputable def closD (g:Gram) (l:List LrI):List LrI:=((itemsG g).filter fun x=>decide (CloM g l x)).foldl putLr []
theorem closD_sort (g:Gram) (l:List LrI):SortLr (closD g l):=(foldPut_spec _ [] .nil).1
theorem mem_closD {g:Gram} (hf:g.Fine) {l:List LrI} (hl:∀ x∈l,HasLr g x) {x:LrI} : x∈closD g l↔CloM g l x:=by
  classical
  rw[closD,(foldPut_spec _ [] .nil).2]
  simp only[List.not_mem_nil,false_or,List.mem_filter,decide_eq_true_eq]
  exact ⟨fun h=>h.2,fun h=>⟨mem_itemsG hf (h.has hl),h⟩⟩
theorem closD_is {g:Gram} (hf:g.Fine) {l o:List LrI} (hl:∀ x∈l,HasLr g x) (hs:SortLr o) (h1:∀ x∈o,CloM g l x) (h2:∀ x∈l,x∈o)
    (h3:∀ x∈o,∀ (s:Int) (k:Nat) (R:Rule),nextLr g x=(s,true)→s < 0→g.rules[k]?=some R→R.left = -1 - s→(⟨k,0⟩:LrI)∈o):closD g l=o:=by
  refine sort_uniq (closD_sort g l) hs fun x=>?_
  rw[mem_closD hf hl]
  refine ⟨fun h=>?_,h1 x⟩
  induction h with
  | base h=>exact h2 _ h
  | step _ hn hs hk hL ih=>exact h3 _ ih _ _ _ hn hs hk hL
theorem closD_len {g:Gram} (hf:g.Fine) {l:List LrI} (hl:∀ x∈l,HasLr g x):(closD g l).length≤287 :=
  sort_len hf (closD_sort g l) fun _ hx=>((mem_closD hf hl).1 hx).has hl
def movD (g:Gram) (l:List LrI) (s:Int):List LrI:=(l.filter fun x=>decide (nextLr g x=(s,true))).map fun x=>⟨x.rule,x.dot+1⟩
theorem mem_movD {g:Gram} {l:List LrI} {s:Int} {y:LrI} : y∈movD g l s↔∃ x∈l,nextLr g x=(s,true)∧y=⟨x.rule,x.dot+1⟩:=by
  simp only[movD,List.mem_map,List.mem_filter,decide_eq_true_eq]
  constructor
  · rintro ⟨x,⟨h1,h2⟩,rfl⟩; exact ⟨x,h1,h2,rfl⟩
  · rintro ⟨x,h1,h2,rfl⟩; exact ⟨x,⟨h1,h2⟩,rfl⟩
theorem movD_sort {g:Gram} {l:List LrI} (s:Int) (h:SortLr l):SortLr (movD g l s):=by
  rw[SortLr,movD,List.pairwise_map]
  refine (h.filter _).imp ?_
  intro a b hab
  rw[lessLr_iff] at hab ⊢
  simp only; omega
theorem nextLr_some {g:Gram} {x:LrI} {s:Int} (h:nextLr g x=(s,true)):x.dot≠(rightLr g x.rule).length∧(rightLr g x.rule).getD x.dot.toNat 0=s:=by
  unfold nextLr at h
  split at h
  · simp at h
  · rename_i hd; exact ⟨hd,by simpa using h⟩
theorem movD_has {g:Gram} {l:List LrI} {s:Int} (hl:∀ x∈l,HasLr g x):∀ y∈movD g l s,HasLr g y:=by
  intro y hy
  obtain ⟨x,hx,hn,rfl⟩:=mem_movD.1 hy
  have h1:=hl x hx
  have h2:=(nextLr_some hn).1
  exact ⟨h1.1,by simp only; have:=h1.2; omega,by simp only; have:=h1.2; omega⟩
theorem movD_take {g:Gram} {l:List LrI} (hs:SortLr l) {i:Nat} {x:LrI} (hx:l[i]?=some x) (s:Int) :
    movD g (l.take (i+1)) s=if nextLr g x=(s,true) then putLr (movD g (l.take i) s) ⟨x.rule,x.dot+1⟩ else movD g (l.take i) s:=by
  have e:l.take (i+1)=l.take i ++ [x]:=by rw[List.take_add_one,hx]; rfl
  rw[e]
  split
  · rename_i h
    rw[putLr_end]
    · simp[movD,h]
    · intro y hy
      obtain ⟨z,hz,_,rfl⟩:=mem_movD.1 hy
      have h2:SortLr (l.take (i+1)):=hs.sublist (List.take_sublist _ _)
      rw[e,SortLr,List.pairwise_append] at h2
      have:=h2.2.2 z hz x (by simp)
      rw[lessLr_iff] at this ⊢
      simp only; omega
  · rename_i h
    simp[movD,h]
theorem movD_len {g:Gram} {l:List LrI} {s:Int} : (movD g l s).length≤l.length:=by
  rw[movD,List.length_map]; exact List.length_filter_le _ _
structure StP where
  ker:List LrI
  edg:List PEdg
  deriving DecidableEq
abbrev noSt:StP:=⟨[],[]⟩
def symL (g:Gram) (i:Nat):Int:=if i < g.terms.length then i else -1 - ((i:Int) - g.terms.length)
def findD:List StP→List LrI→Int
  | [],_=>-1
  | s :: l,k=>if s.ker=k then 0 else if findD l k < 0 then -1 else findD l k+1
theorem findD_ge:∀ (l:List StP) (k:List LrI),-1≤findD l k
  | [],_=>by simp[findD]
  | s :: l,k=>by
    have:=findD_ge l k
    rw[findD]; split
    · omega
    · split <;> omega
theorem findD_lt:∀ (l:List StP) (k:List LrI),findD l k < l.length
  | [],_=>by simp[findD]
  | s :: l,k=>by
    have:=findD_lt l k
    rw[findD]; simp only[List.length_cons]; split
    · omega
    · split <;> omega
theorem findD_at:∀ (l:List StP) (k:List LrI) (i:Nat),findD l k=i→∃ s,l[i]?=some s∧s.ker=k
  | [],_,i,h=>by simp[findD] at h
  | s :: l,k,i,h=>by
    rw[findD] at h
    split at h
    · rename_i e
      have:i=0:=by omega
      subst this
      exact ⟨s,rfl,e⟩
    · split at h
      · omega
      · obtain ⟨j,rfl⟩:∃ j,i=j+1:=⟨i - 1,by omega⟩
        obtain ⟨t,h1,h2⟩:=findD_at l k j (by omega)
        exact ⟨t,by simpa using h1,h2⟩
theorem findD_is:∀ (l:List StP) (k:List LrI) (i:Nat) (s:StP),l[i]?=some s→s.ker=k→(∀ j t,j < i→l[j]?=some t→t.ker≠k)→findD l k=i
  | [],_,_,_,h,_,_=>by simp at h
  | t :: l,k,0,s,h,hk,_=>by simp at h; subst h; simp[findD,hk]
  | t :: l,k,i+1,s,h,hk,hn=>by
    have h0:=hn 0 t (by omega) rfl
    have:=findD_is l k i s (by simpa using h) hk fun j u hj hu=>hn (j+1) u (by omega) (by simpa using hu)
    rw[findD,if_neg h0,this,if_neg (by omega)]; omega
theorem findD_none:∀ (l:List StP) (k:List LrI),(∀ s∈l,s.ker≠k)→findD l k = -1
  | [],_,_=>rfl
  | t :: l,k,h=>by
    have:=findD_none l k fun s hs=>h s (by simp[hs])
    rw[findD,if_neg (h t (by simp)),this]; rfl
def stepA (g:Gram) (l:List LrI) (at_:Nat) (out:List StP) (i:Nat):List StP :=
  if movD g l (symL g i)=[] then out else
  if findD out (movD g l (symL g i)) < 0 then (out ++ [(⟨movD g l (symL g i),[]⟩:StP)]).modify at_ fun s=>(⟨s.ker,s.edg ++ [⟨symL g i,out.length⟩]⟩:StP)
  else out.modify at_ fun s=>(⟨s.ker,s.edg ++ [⟨symL g i,findD out (movD g l (symL g i))⟩]⟩:StP)
noncomputable def rowA (g:Gram) (at_:Nat) (out:List StP) (n:Nat):List StP:=(List.range n).foldl (stepA g (closD g (out.getD at_ noSt).ker) at_) out
noncomputable def loopA (g:Gram):Nat→Nat→List StP→List StP × Int
  | 0,_,out=>(out,0)
  | f+1,at_,out=>if at_ < out.length then
      (if 300 < (rowA g at_ out (g.terms.length+g.nons.length)).length then ([],5) else loopA g f (at_+1) (rowA g at_ out (g.terms.length+g.nons.length)))
    else (out,0)
def startA:List StP:=[⟨[⟨-1,0⟩],[]⟩]
abbrev BV:=BitVec 32
def bitD (n:Int):BV:=if 0≤n∧n≤31 then BitVec.twoPow 32 n.toNat else 0
theorem bv_ext {a b:BV} (h:∀ i,i < 32→a.getLsbD i=b.getLsbD i):a=b:=BitVec.eq_of_getLsbD_eq fun i hi=>h i hi
def SubS (a b:BV):Prop:=∀ i,a.getLsbD i=true→b.getLsbD i=true
theorem subS_or {a b:BV} : (a ||| b)=b↔SubS a b:=by
  constructor
  · intro h i hi
    rw[← h,BitVec.getLsbD_or,hi]; rfl
  · intro h
    refine bv_ext fun i _=>?_
    rw[BitVec.getLsbD_or]
    cases ha:a.getLsbD i with
    | false=>rfl
    | true=>rw[h i ha]; rfl
theorem andNot_zero {a b:BV} : (a &&& ~~~b)=0↔SubS a b:=by
  constructor
  · intro h i hi
    have hl:i < 32:=BitVec.lt_of_getLsbD hi
    have:=congrArg (fun x:BV=>x.getLsbD i) h
    simp only[BitVec.getLsbD_and,BitVec.getLsbD_not,hi] at this
    simpa [hl] using this
  · intro h
    refine bv_ext fun i hl=>?_
    simp only[BitVec.getLsbD_and,BitVec.getLsbD_not]
    cases ha:a.getLsbD i with
    | false=>simp
    | true=>rw[h i ha]; simp
theorem zero_bits {a:BV} : a=0↔∀ i,a.getLsbD i=false:=by
  constructor
  · rintro rfl i; simp
  · intro h; exact bv_ext fun i _=>by rw[h]; simp
theorem or_le (a b:BV):b.toNat≤(a ||| b).toNat:=by
  rw[BitVec.toNat_or]; exact Nat.right_le_or
def ofD (null:List Bool) (first:List BV) (rest:BV):List Int→BV
  | []=>rest
  | s :: l=>if 0≤s then bitD s else if null.getD (-1 - s).toNat false=true then first.getD (-1 - s).toNat 0 ||| ofD null first rest l else first.getD (-1 - s).toNat 0
theorem ofD_mono {null:List Bool} {first:List BV} {a b:BV} (h:SubS a b):∀ l:List Int,SubS (ofD null first a l) (ofD null first b l)
  | []=>h
  | s :: l=>by
    intro i hi
    rw[ofD] at hi ⊢
    split
    · rename_i h0; rw[if_pos h0] at hi; exact hi
    · rename_i h0
      rw[if_neg h0] at hi
      split
      · rename_i h1
        rw[if_pos h1] at hi
        rw[BitVec.getLsbD_or,Bool.or_eq_true] at hi ⊢
        exact hi.imp id (ofD_mono h l i)
      · rename_i h1; rw[if_neg h1] at hi; exact hi
theorem ofD_bit {null:List Bool} {first:List BV} {a:BV} : ∀ (l:List Int) (i:Nat),(ofD null first a l).getLsbD i=true→a≠0→∃ t,a.getLsbD t=true∧(ofD null first (BitVec.twoPow 32 t) l).getLsbD i=true:=by
  intro l i
  have hne:a≠0→∃ t,a.getLsbD t=true:=fun h=>Classical.byContradiction fun hn=>h (zero_bits.2 fun j=>by
    cases hj:a.getLsbD j with
    | false=>rfl
    | true=>exact absurd ⟨j,hj⟩ hn)
  induction l with
  | nil =>
    intro h _
    refine ⟨i,h,?_⟩
    rw[ofD,BitVec.getLsbD_twoPow]
    have:=BitVec.lt_of_getLsbD h
    simp[this]
  | cons s l ih =>
    intro h ha
    rw[ofD] at h
    split at h
    · rename_i h0
      obtain ⟨t,ht⟩:=hne ha
      exact ⟨t,ht,by rw[ofD,if_pos h0]; exact h⟩
    · rename_i h0
      split at h
      · rename_i h1
        rw[BitVec.getLsbD_or,Bool.or_eq_true] at h
        rcases h with h | h
        · obtain ⟨t,ht⟩:=hne ha
          exact ⟨t,ht,by rw[ofD,if_neg h0,if_pos h1,BitVec.getLsbD_or,h]; rfl⟩
        · obtain ⟨t,h3,h4⟩:=ih h ha
          exact ⟨t,h3,by rw[ofD,if_neg h0,if_pos h1,BitVec.getLsbD_or,h4,Bool.or_true]⟩
      · rename_i h1
        obtain ⟨t,ht⟩:=hne ha
        exact ⟨t,ht,by rw[ofD,if_neg h0,if_neg h1]; exact h⟩
theorem twoPow_sub {a:BV} {t:Nat} (h:a.getLsbD t=true):SubS (BitVec.twoPow 32 t) a:=by
  intro i hi
  rw[BitVec.getLsbD_twoPow] at hi
  simp only[Bool.and_eq_true,decide_eq_true_eq] at hi
  rw[← hi.2]; exact h
def stepF (null:List Bool) (fs:List BV) (r:Rule):List BV:=fs.set r.left.toNat (fs.getD r.left.toNat 0 ||| ofD null fs 0 r.right)
theorem stepF_len (null:List Bool) (fs:List BV) (r:Rule):(stepF null fs r).length=fs.length:=by simp[stepF]
def roundF (g:Gram) (null:List Bool) (fs:List BV):List BV:=g.rules.foldl (stepF null) fs
theorem foldF_len (null:List Bool):∀ (l:List Rule) (fs:List BV),(l.foldl (stepF null) fs).length=fs.length
  | [],_=>rfl
  | r :: l,fs=>by rw[List.foldl_cons,foldF_len null l,stepF_len]
theorem roundF_len (g:Gram) (null:List Bool) (fs:List BV):(roundF g null fs).length=fs.length:=foldF_len _ _ _
def firstD (g:Gram) (null:List Bool):List BV:=iter (roundF g null) g.nons.length (List.replicate g.nons.length 0)
theorem iterF_len {f:List BV→List BV} (hf:∀ l,(f l).length=l.length):∀ (n:Nat) (l:List BV),(iter f n l).length=l.length
  | 0,_=>rfl
  | n+1,l=>by rw[iter,iterF_len hf n,hf]
theorem firstD_len (g:Gram) (null:List Bool):(firstD g null).length=g.nons.length:=by
  rw[firstD,iterF_len (roundF_len g null)]; simp
end Gv
