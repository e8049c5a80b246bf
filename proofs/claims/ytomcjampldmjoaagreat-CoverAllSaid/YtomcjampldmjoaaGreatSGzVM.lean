/-
  Part 13 of the proof: what the machine does and what the functions answer.
  Conditions: those that each lemma names.
-/
import Derived.Test.YtomcjampldmjoaaGreatSGzVL
set_option linter.unusedSimpArgs false
set_option linter.unusedVariables false
set_option maxRecDepth 100000
namespace Gv
open Go Go.Proofs
def lk:SC :=
  .seq (.seq (al [ae 11 5,ae 12 0,aL 13 12,aR 14 .lss 11 13]) <|
  .cond (.tmp 14) (.skip) (.exit 0)) <|
  .seq (.block 1 (.seq (al [ae 17 0,ae 18 5,aP 19 1 17 18,ao 20 19,ae 21 1,ae 22 5,aP 23 1 21 22,ao 24 23,((some 25),.op (.beq false (.tmp 20) (.tmp 24)))]) <|
  .cond (.tmp 25) (.seq (al [aV 4 false]) <|
  .ret) (.skip))) <|
  al [ae 15 5,az 16 .add 15 1,ae 5 16]
def nb:SF:=⟨.seq (al [aV 4 false]) <|
  .seq (.seq (al [ae 6 0,aL 7 6,ae 8 1,aL 9 8,aR 10 .neq 7 9]) <|
  .cond (.tmp 10) (.seq (al [aV 4 false]) <|
  .ret) (.skip)) <|
  .seq (.seq (al [aH 5 0]) <|
  .block 0 (.loop lk)) <|
  .seq (al [aV 4 true]) <|
  .ret,
  [.tmp 4],26⟩
theorem sq:aW Tryz.prog 35 []=some nb:=by kernel_rfl
theorem JI (a b:List Bool) (ha:aM a) (H:View):aA Tryz.prog 35 [bw a,bw b] H fun r H'=>r=gb (a == b)∧H'=H:=by
  refine aA.of mixed sq ?_
  unfold aM at ha
  simp (disch:=omega) only [↓wr,↓reduceIte,wq,ai,ah,ak,Nat.reduceEqDiff,Nat.reduceAdd,Nat.reduceLeDiff,reduceCtorEq,nb,bw]
  refine aq.ne (fun h=>?_) (fun h=>?_)
  · simp (disch:=omega) only [↓wr,↓reduceIte,wq,reduceCtorEq]
    rw[AF (by omega)]
  · simp (disch:=omega) only [↓wr,wq]
    refine bb.intro (fun k T H'=>∃ i:Nat,i+k=a.length∧a.take i=b.take i∧T 0=bw a∧T 1=bw b∧T 5=gi i∧H'=H) a.length ?_ ?_
    · exact ⟨0,by omega,by simp,rfl,rfl,rfl,rfl⟩
    · rintro k T H' ⟨i,hk,hi,h0,h1,h5,rfl⟩
      simp (disch:=omega) only [↓wr,↓reduceIte,wq,ah,ak,Nat.reduceEqDiff,reduceCtorEq,lk,h0,h5,bw]
      refine aq.dec (fun hc=>?_) (fun hc=>?_)
      · have h2:a[i]?=some (a[i]'(by omega)):=List.getElem?_eq_getElem (by omega)
        have h3:b[i]?=some (b[i]'(by omega)):=List.getElem?_eq_getElem (by omega)
        simp (disch:=omega) only [↓wr,↓reduceIte,wq,Nat.reduceEqDiff,Nat.reduceLT,reduceCtorEq,h0,h1,h5,bw,List.getElem?_map,h2,h3]
        refine aq.split (fun hd=>?_) (fun hd=>?_)
        · simp (disch:=omega) only [↓wr,↓reduceIte,wq,ah,Nat.reduceEqDiff,reduceCtorEq]
          have:(a == b)=false:=by
            simp only[beq_eq_false_iff_ne]; rintro rfl; simp at hd
          rw[this]
        · simp (disch:=omega) only [↓wr,↓reduceIte,wq,ah,Nat.reduceEqDiff,reduceCtorEq,h0,h1,h5,bw]
          refine ⟨k - 1,by omega,i+1,by omega,?_,rfl⟩
          have hd:a[i]'(by omega)=b[i]'(by omega):=by simpa using hd
          rw[List.take_add_one,List.take_add_one,hi,h2,h3,hd]
      · simp (disch:=omega) only [↓wr,↓reduceIte,wq,Nat.reduceEqDiff,reduceCtorEq]
        have:a=b:=by
          have e:i=a.length:=by omega
          rw[List.take_of_length_le (by omega),List.take_of_length_le (by omega)] at hi
          exact hi
        rw[this]; simp
theorem KN (a b:List Bool) (ha:aM a):aD Tryz.prog 35 [bw a,bw b] (gb (a == b)) :=
  aD.of (by simp[fQ]) ((JI a b ha _).mono fun r H' h h' _=>by rw[h.1]; exact .tree _ (.val _))
theorem bytes_beq (a b:ByteArray):(a == b)=decide (a=b):=by
  cases a with | mk a=>cases b with | mk b =>
  rw[Bool.eq_iff_iff]
  show (ByteArray.beq ⟨a⟩ ⟨b⟩=true)↔_
  simp only[ByteArray.beq]
  simp
theorem BQ (a b:ByteArray):gA a b=decide (a=b):=by
  cases a with | mk a=>cases b with | mk b =>
  rw[Bool.eq_iff_iff]
  simp[gA]
theorem nP {α:Type} {a b:List α} {i:Nat} {x y:α} (hx:a[i]?=some x) (hy:b[i]?=some y) (h:a.take i=b.take i) (e:x=y):a.take (i+1)=b.take (i+1):=by
  rw[List.take_add_one,List.take_add_one,h,hx,hy,e]
theorem qO {α:Type} {a b:List α} {i:Nat} (ha:a.length≤i) (hb:b.length≤i) (h:a.take i=b.take i):a=b:=by
  rwa [List.take_of_length_le ha,List.take_of_length_le hb] at h
theorem uv {α:Type} {a b:List α} {i:Nat} {x y:α} (hx:a[i]?=some x) (hy:b[i]?=some y) (e:x≠y):a≠b:=by
  rintro rfl; rw[hx] at hy; exact e (by simpa using hy)
theorem qV {α:Type} {a b:List α} (h:¬ a.length=b.length):a≠b:=fun e=>h (by rw[e])
theorem yj (x y:Term):gh Tryz.prog 9998 #[.string x.name,.int .i64 x.level,.int .i64 x.assoc] #[.string y.name,.int .i64 y.level,.int .i64 y.assoc]
    [{ name:= "Name",type:=9,offset:=0,embedded:=false,tag:= "",pkgPath:= "",byteOffset:=0 },{ name:= "Level",type:=3,offset:=1,embedded:=false,tag:= "",pkgPath:= "",byteOffset:=16 },
        { name:= "Assoc",type:=3,offset:=2,embedded:=false,tag:= "",pkgPath:= "",byteOffset:=24 }] (x.name == y.name && (x.level == y.level && (x.assoc == y.assoc && true))) :=
  .str _ _ _ _ _ (by decide) Tryz.underlying9 rfl rfl (.int _ _ _ _ _ _ (by decide) Tryz.underlying3 rfl rfl (.int _ _ _ _ _ _ (by decide) Tryz.underlying3 rfl rfl .nil))
theorem Fb (x y:Term):(x.name == y.name && (x.level == y.level && (x.assoc == y.assoc && true)))=decide (x=y):=by
  rw[bytes_beq,Bool.eq_iff_iff]
  cases x; cases y
  simp
theorem MR (a b:Int):(a == b)=decide (a=b):=by rw[Bool.eq_iff_iff]; simp
theorem K7 (x y:aQ):decide (x=y)=(decide (x.left=y.left) && (decide (x.prec=y.prec) && decide (x.right=y.right))):=by
  cases x; cases y
  rw[Bool.eq_iff_iff]
  simp[and_comm]
theorem C1 (x y:an):decide (x=y)=(decide (x.ax=y.ax) && (decide (x.av=y.av) && (decide (x.rules=y.rules) && decide (x.start=y.start)))):=by
  cases x; cases y
  rw[Bool.eq_iff_iff]
  simp
theorem Cr (g k:an):∀ v∈[V.agg (ar g),V.agg (ar k)],Tree v:=by
  intro v hv; simp at hv
  rcases hv with rfl | rfl <;> exact cE _ (cR _)
def lO:SC :=
  .seq (.seq (al [ae 42 5,au 43 0 2,ao 44 43,aL 45 44,aR 46 .lss 42 45]) <|
  .cond (.tmp 46) (.skip) (.exit 0)) <|
  .seq (.block 1 (.seq (al [au 49 0 2,ao 50 49,ae 51 5,aP 52 3 50 51,aU 53 3 52,au 54 0 3,ao 55 54,ae 56 5,aP 57 3 55 56,aU 58 3 57,((some 59),.op (.old (.binOp .neq 119 (.tmp 53) (.tmp 58) 119) 4))]) <|
  .cond (.tmp 59) (.seq (al [aV 4 false]) <|
  .ret) (.skip))) <|
  al [ae 47 5,az 48 .add 47 1,ae 5 48]
def mh:SC :=
  .seq (.seq (al [ae 60 6,au 61 1 2,ao 62 61,aL 63 62,aR 64 .lss 60 63]) <|
  .cond (.tmp 64) (.skip) (.exit 2)) <|
  .seq (.block 3 (.seq (al [au 67 1 2,ao 68 67,ae 69 6,aP 70 1 68 69,ao 71 70,au 72 1 3,ao 73 72,ae 74 6,aP 75 1 73 74,ao 76 75,((some 77),.op (.iE .neq (.tmp 71) (.tmp 76)))]) <|
  .cond (.tmp 77) (.seq (al [aV 4 false]) <|
  .ret) (.skip))) <|
  al [ae 65 6,az 66 .add 65 1,ae 6 66]
def me:SC :=
  .seq (.seq (al [ae 78 7,au 79 2 2,ao 80 79,aL 81 80,aR 82 .lss 78 81]) <|
  .cond (.tmp 82) (.skip) (.exit 4)) <|
  .seq (.block 5 (.seq (al [au 85 2 2,ao 86 85,ae 87 7,aP 88 3 86 87,aU 89 3 88,au 90 2 3,ao 91 90,ae 92 7,aP 93 3 91 92,aU 94 3 93,((some 8),.op (.alloc [(.val (.int .i64 0)),(.emp 1),(.val (.int .i64 0))])),((some 9),.op (.alloc [(.val (.int .i64 0)),(.emp 1),(.val (.int .i64 0))])),(none,.op (.store 3 (.tmp 8) (.tmp 89))),(none,.op (.store 3 (.tmp 9) (.tmp 94)))]) <|
  .seq (.region false [⟨none,[au 95 0 8,ao 96 95,au 97 0 9,ao 98 97,aR 99 .neq 96 98,ae 100 99]⟩,⟨(some (100,false)),[au 101 2 8,ao 102 101,au 103 2 9,ao 104 103,aR 105 .neq 102 104]⟩,⟨none,[bC 106 100 105,ae 107 106]⟩,⟨(some (107,false)),[au 108 1 8,ao 109 108,au 110 1 9,ao 111 110,aN 112 17 [109,111],bZ 113 112]⟩,⟨none,[bC 114 107 113]⟩]) <|
  .cond (.tmp 114) (.seq (al [aV 4 false]) <|
  .ret) (.skip))) <|
  al [ae 83 7,az 84 .add 83 1,ae 7 84]
def oE:SF:=⟨.seq (al [cM 2 0,cM 3 1,aV 4 false]) <|
  .seq (.seq (.region false [⟨none,[au 10 0 2,ao 11 10,aL 12 11,au 13 0 3,ao 14 13,aL 15 14,aR 16 .neq 12 15,ae 17 16]⟩,⟨(some (17,false)),[au 18 1 2,ao 19 18,aL 20 19,au 21 1 3,ao 22 21,aL 23 22,aR 24 .neq 20 23]⟩,⟨none,[bC 25 17 24,ae 26 25]⟩,⟨(some (26,false)),[au 27 2 2,ao 28 27,aL 29 28,au 30 2 3,ao 31 30,aL 32 31,aR 33 .neq 29 32]⟩,⟨none,[bC 34 26 33,ae 35 34]⟩,⟨(some (35,false)),[au 36 3 2,ao 37 36,au 38 3 3,ao 39 38,aR 40 .neq 37 39]⟩,⟨none,[bC 41 35 40]⟩]) <|
  .cond (.tmp 41) (.seq (al [aV 4 false]) <|
  .ret) (.skip)) <|
  .seq (.seq (al [aH 5 0]) <|
  .block 0 (.loop lO)) <|
  .seq (.seq (al [aH 6 0]) <|
  .block 2 (.loop mh)) <|
  .seq (.seq (al [aH 7 0]) <|
  .block 4 (.loop me)) <|
  .seq (al [aV 4 true]) <|
  .ret,
  [.tmp 4],115⟩
theorem s9:aW Tryz.prog 34 [2,3]=some oE:=by kernel_rfl
set_option maxHeartbeats 2000000 in
theorem ID (g k:an) (hg:g.Ok):aD Tryz.prog 34 [.agg (ar g),.agg (ar k)] (gb (decide (g=k))):=by
  refine aD.val (Cr g k) fun H=>?_
  rw[C1]
  refine aA.of mixed s9 ?_
  have h1:=hg.ax
  have h2:=hg.av
  have h3:=hg.rules
  unfold aM at h1 h2 h3
  simp (disch:=omega) only [↓wr,↓reduceIte,wq,ai,ah,ak,Nat.reduceEqDiff,Nat.reduceAdd,Nat.reduceLT,Nat.reduceLeDiff,oE,ar,encS]
  repeat' (first | (refine aq.dec (fun _=>?_) (fun _=>?_)) | (refine aq.eq (fun _=>?_) (fun _=>?_)) | (refine aq.ne (fun _=>?_) (fun _=>?_)) | (refine aq.split (fun _=>?_) (fun _=>?_)) | (simp (disch:=omega) only [↓wr,↓reduceIte,wq,ah,ak,Nat.reduceEqDiff,Nat.reduceAdd,Nat.reduceLT,reduceCtorEq]))
  · rename_i e; rw[decide_eq_false (qV (by omega))]; rfl
  · rename_i e; rw[decide_eq_false (p:=g.av=k.av) (qV (by omega))]; simp
  · rename_i e; rw[decide_eq_false (p:=g.rules=k.rules) (qV (by omega))]; simp
  · rename_i e; rw[decide_eq_false e]; simp
  rename_i l1 l2 l3 l4
  refine bb.up g.ax.length (fun i T _=>g.ax.take i=k.ax.take i∧T 2=.aS (ar g) 0∧T 3=.aS (ar k) 0∧T 5=gi i) ⟨by simp,rfl,rfl,rfl⟩ ?_
  rintro i m T H hm ⟨hi,t2,t3,t5⟩
  simp (disch:=omega) only [↓wr,↓reduceIte,wq,ah,ak,Nat.reduceEqDiff,Nat.reduceAdd,Nat.reduceLT,lO,t2,t5,ar,encS]
  refine aq.dec (fun hc=>?_) (fun hc=>?_)
  · have hx:=List.getElem?_eq_getElem (l:=g.ax) (i:=i) (by omega)
    have hy:=List.getElem?_eq_getElem (l:=k.ax) (i:=i) (by omega)
    generalize g.ax[i]'(by omega)=x at hx
    generalize k.ax[i]'(by omega)=y at hy
    simp (disch:=omega) only [↓wr,↓reduceIte,wq,Nat.reduceEqDiff,Nat.reduceAdd,Nat.reduceLT,Nat.reduceLeDiff,t2,t3,t5,List.getElem?_map,hx,hy,ct,ar,encS]
    refine yb (xs:=#[.string x.name,.int .i64 x.level,.int .i64 x.assoc]) (ys:=#[.string y.name,.int .i64 y.level,.int .i64 y.assoc]) Tryz.underlying119 (by kernel_rfl) (by kernel_rfl) ?_ ?_ (yj x y) (.inr ⟨rfl,rfl⟩) ?_
    · rfl
    · rfl
    rw[Fb]
    simp (disch:=omega) only [↓wr,↓reduceIte,wq]
    refine aq.split (fun e=>?_) (fun e=>?_)
    · simp (disch:=omega) only [↓wr,↓reduceIte,wq,ah,Nat.reduceEqDiff,reduceCtorEq,t5]
      exact aK hm (by omega) ⟨nP hx hy hi (by simpa using e),t2,t3,rfl⟩
    · simp (disch:=omega) only [↓wr,↓reduceIte,wq,ah,Nat.reduceEqDiff,reduceCtorEq,t5]
      rw[decide_eq_false (uv hx hy (by simpa using e))]; rfl
  have e1:g.ax=k.ax:=qO (by omega) (by omega) hi
  simp (disch:=omega) only [↓wr,↓reduceIte,wq,Nat.reduceEqDiff,reduceCtorEq]
  clear hi hc hm
  refine bb.up g.av.length (fun i T _=>g.av.take i=k.av.take i∧T 2=.aS (ar g) 0∧T 3=.aS (ar k) 0∧T 6=gi i) ⟨by simp,t2,t3,rfl⟩ ?_
  clear t2 t3 t5 T H i m
  rintro i m T H hm ⟨hi,t2,t3,t5⟩
  simp (disch:=omega) only [↓wr,↓reduceIte,wq,ah,ak,Nat.reduceEqDiff,Nat.reduceAdd,Nat.reduceLT,mh,t2,t5,ar,encS]
  refine aq.dec (fun hc=>?_) (fun hc=>?_)
  · have hx:=List.getElem?_eq_getElem (l:=g.av) (i:=i) (by omega)
    have hy:=List.getElem?_eq_getElem (l:=k.av) (i:=i) (by omega)
    generalize g.av[i]'(by omega)=x at hx
    generalize k.av[i]'(by omega)=y at hy
    simp (disch:=omega) only [↓wr,↓reduceIte,wq,Nat.reduceEqDiff,Nat.reduceAdd,Nat.reduceLT,t2,t3,t5,List.getElem?_map,hx,hy,ar,encS,BQ]
    refine aq.split (fun e=>?_) (fun e=>?_)
    · simp (disch:=omega) only [↓wr,↓reduceIte,wq,ah,Nat.reduceEqDiff,reduceCtorEq,t5]
      exact aK hm (by omega) ⟨nP hx hy hi (by simpa using e),t2,t3,rfl⟩
    · simp (disch:=omega) only [↓wr,↓reduceIte,wq,ah,Nat.reduceEqDiff,reduceCtorEq,t5]
      rw[decide_eq_false (p:=g.av=k.av) (uv hx hy (by simpa using e))]; simp
  have e2:g.av=k.av:=qO (by omega) (by omega) hi
  simp (disch:=omega) only [↓wr,↓reduceIte,wq,Nat.reduceEqDiff,reduceCtorEq]
  clear hi hc hm
  refine bb.up g.rules.length (fun i T _=>g.rules.take i=k.rules.take i∧T 2=.aS (ar g) 0∧T 3=.aS (ar k) 0∧T 7=gi i) ⟨by simp,t2,t3,rfl⟩ ?_
  clear t2 t3 t5 T H i m
  rintro i m T H hm ⟨hi,t2,t3,t5⟩
  simp (disch:=omega) only [↓wr,↓reduceIte,wq,ah,ak,Nat.reduceEqDiff,Nat.reduceAdd,Nat.reduceLT,reduceCtorEq,me,t2,t5,ar,encS]
  refine aq.dec (fun hc=>?_) (fun hc=>?_)
  · have hx:=List.getElem?_eq_getElem (l:=g.rules) (i:=i) (by omega)
    have hy:=List.getElem?_eq_getElem (l:=k.rules) (i:=i) (by omega)
    have hmx:g.rules[i]'(by omega)∈g.rules:=List.getElem_mem _
    generalize g.rules[i]'(by omega)=x at hx hmx
    generalize k.rules[i]'(by omega)=y at hy
    have hsx:=(hg.bd x hmx).2.2.1
    simp (disch:=omega) only [↓wr,↓reduceIte,wq,aa,Nat.reduceEqDiff,Nat.reduceAdd,Nat.reduceLT,Nat.reduceLeDiff,t2,t3,t5,List.getElem?_map,hx,hy,aO,encI,ar,encS]
    intro n hn
    try simp (disch:=omega) only [↓wr,↓reduceIte,wq,ai,ah,ak,aa,af,ag,aj,isNil,Nat.reduceEqDiff,Nat.reduceAdd,Nat.reduceLT,Nat.reduceLeDiff,Int.reduceNeg,Int.reduceToNat,reduceCtorEq,t2,t3,t5,aO,encI]
    intro n2 hn2
    have hmn:=(cg hn2 ca).1
    try simp (disch:=omega) only [↓wr,↓reduceIte,wq,ah,aa,Nat.reduceEqDiff,Nat.reduceAdd,Nat.reduceLT,Nat.reduceLeDiff,hmn,hmn.symm]
    have hne:x≠y→V.val (Value.bool false)=V.val (Value.bool (decide (g.ax=k.ax) && (decide (g.av=k.av) && (decide (g.rules=k.rules) && decide (g.start=k.start))))):=fun e=>by
      rw[decide_eq_false (p:=g.rules=k.rules) (uv hx hy e)]; simp
    repeat' (first | (refine aq.dec (fun _=>?_) (fun _=>?_)) | (refine aq.eq (fun _=>?_) (fun _=>?_)) | (refine aq.ne (fun _=>?_) (fun _=>?_)) | (refine aq.split (fun _=>?_) (fun _=>?_)) | (refine aF.pure (Bn x.right y.right hsx) (by kernel_rfl) ?_) | (simp (disch:=omega) only [↓wr,↓reduceIte,wq,ah,Nat.reduceEqDiff,Nat.reduceAdd,Nat.reduceLT,reduceCtorEq,t5,hmn.symm]))
    · rename_i e; exact hne fun h=>e (by rw[h])
    · rename_i e; exact hne fun h=>e (by rw[h])
    · rename_i e3 e2 e1
      refine aK hm (by omega) ⟨nP hx hy hi ?_,t2,t3,rfl⟩
      cases x; cases y
      simp_all
    · rename_i e; exact hne fun h=>by rw[h] at e; simp at e
  · have e3:g.rules=k.rules:=qO (by omega) (by omega) hi
    simp (disch:=omega) only [↓wr,↓reduceIte,wq,Nat.reduceEqDiff,reduceCtorEq]
    simp[e1,e2,e3,l4]
def eR:SC :=
  .seq (al [aR 14 .lss 13 12]) <|
  .seq (.cond (.tmp 14) (.skip) (.exit 0)) <|
  .seq (.block 1 (.seq (al [ae 15 13,ae 5 15]) <|
  .seq (al [ae 16 0,ae 17 5,aP 18 3 16 17,aU 19 3 18,ae 20 1,ae 21 5,aP 22 3 20 21,aU 23 3 22,((some 24),.op (.old (.binOp .neq 119 (.tmp 19) (.tmp 23) 119) 4))]) <|
  .cond (.tmp 24) (.seq (al [aV 4 false]) <|
  .ret) (.skip))) <|
  al [az 25 .add 13 1,ae 13 25]
def fo:SF:=⟨.seq (al [aV 4 false]) <|
  .seq (.seq (al [ae 6 0,aL 7 6,ae 8 1,aL 9 8,aR 10 .neq 7 9]) <|
  .cond (.tmp 10) (.seq (al [aV 4 false]) <|
  .ret) (.skip)) <|
  .seq (.seq (al [ae 11 0,aL 12 11,aH 13 0]) <|
  .block 0 (.loop eR)) <|
  .seq (al [aV 4 true]) <|
  .ret,
  [.tmp 4],26⟩
theorem iW:aW Tryz.prog 165 []=some fo:=by kernel_rfl
def fK:SC :=
  .seq (al [aR 14 .lss 13 12]) <|
  .seq (.cond (.tmp 14) (.skip) (.exit 0)) <|
  .seq (.block 1 (.seq (al [ae 15 13,ae 5 15]) <|
  .seq (al [ae 16 0,ae 17 5,aP 18 1 16 17,ao 19 18,ae 20 1,ae 21 5,aP 22 1 20 21,ao 23 22,((some 24),.op (.iE .neq (.tmp 19) (.tmp 23)))]) <|
  .cond (.tmp 24) (.seq (al [aV 4 false]) <|
  .ret) (.skip))) <|
  al [az 25 .add 13 1,ae 13 25]
def gn:SF:=⟨.seq (al [aV 4 false]) <|
  .seq (.seq (al [ae 6 0,aL 7 6,ae 8 1,aL 9 8,aR 10 .neq 7 9]) <|
  .cond (.tmp 10) (.seq (al [aV 4 false]) <|
  .ret) (.skip)) <|
  .seq (.seq (al [ae 11 0,aL 12 11,aH 13 0]) <|
  .block 0 (.loop fK)) <|
  .seq (al [aV 4 true]) <|
  .ret,
  [.tmp 4],26⟩
theorem kn:aW Tryz.prog 166 []=some gn:=by kernel_rfl
def ig:SC :=
  .seq (al [aR 14 .lss 13 12]) <|
  .seq (.cond (.tmp 14) (.skip) (.exit 0)) <|
  .seq (.block 1 (.seq (al [ae 15 13,ae 5 15]) <|
  .seq (al [ae 16 0,ae 17 5,aP 18 1 16 17,ao 19 18,ae 20 1,ae 21 5,aP 22 1 20 21,ao 23 22,aR 24 .neq 19 23]) <|
  .cond (.tmp 24) (.seq (al [aV 4 false]) <|
  .ret) (.skip))) <|
  al [az 25 .add 13 1,ae 13 25]
def jl:SF:=⟨.seq (al [aV 4 false]) <|
  .seq (.seq (al [ae 6 0,aL 7 6,ae 8 1,aL 9 8,aR 10 .neq 7 9]) <|
  .cond (.tmp 10) (.seq (al [aV 4 false]) <|
  .ret) (.skip)) <|
  .seq (.seq (al [ae 11 0,aL 12 11,aH 13 0]) <|
  .block 0 (.loop ig)) <|
  .seq (al [aV 4 true]) <|
  .ret,
  [.tmp 4],26⟩
theorem nC:aW Tryz.prog 208 []=some jl:=by kernel_rfl
def xV:SF:=⟨.seq (al [cM 2 0,cM 3 1,aV 4 false]) <|
  .seq (.region false [⟨none,[au 5 0 2,ao 6 5,au 7 0 3,ao 8 7,aR 9 .eql 6 8,ae 10 9]⟩,⟨(some (10,true)),[au 11 2 2,ao 12 11,au 13 2 3,ao 14 13,aR 15 .eql 12 14]⟩,⟨none,[bO 16 10 15,ae 17 16]⟩,⟨(some (17,true)),[au 18 1 2,ao 19 18,au 20 1 3,ao 21 20,aN 22 208 [19,21]]⟩,⟨none,[bO 23 17 22,ae 4 23]⟩]) <|
  .ret,
  [.tmp 4],24⟩
theorem Bf:aW Tryz.prog 168 [2,3]=some xV:=by kernel_rfl
def cP:SC :=
  .seq (al [aR 18 .lss 17 16]) <|
  .seq (.cond (.tmp 18) (.skip) (.exit 0)) <|
  .seq (.block 1 (.seq (al [ae 19 17,aP 20 3 15 17,aU 21 3 20,((some 8),.op (.alloc [(.val (.int .i64 0)),(.emp 1),(.val (.int .i64 0))])),ae 7 19,(none,.op (.store 3 (.tmp 8) (.tmp 21)))]) <|
  .seq (al [ae 22 1,ae 23 7,aP 24 3 22 23,aU 25 3 24,((some 9),.op (.alloc [(.val (.int .i64 0)),(.emp 1),(.val (.int .i64 0))])),(none,.op (.store 3 (.tmp 9) (.tmp 25)))]) <|
  .seq (al [ae 26 2,aU 27 3 8,aU 28 3 9,((some 29),.call (.tmp 26) [(.tmp 27),(.tmp 28)]),bZ 30 29]) <|
  .cond (.tmp 30) (.seq (al [aV 6 false]) <|
  .ret) (.skip))) <|
  al [az 31 .add 17 1,ae 17 31]
def cU:SF:=⟨.seq (al [aV 6 false]) <|
  .seq (.seq (al [ae 10 0,aL 11 10,ae 12 1,aL 13 12,aR 14 .neq 11 13]) <|
  .cond (.tmp 14) (.seq (al [aV 6 false]) <|
  .ret) (.skip)) <|
  .seq (.seq (al [ae 15 0,aL 16 15,aH 17 0]) <|
  .block 0 (.loop cP)) <|
  .seq (al [aV 6 true]) <|
  .ret,
  [.tmp 6],32⟩
theorem ec:aW Tryz.prog 167 []=some cU:=by kernel_rfl
def zV:SF:=⟨.seq (al [cM 2 0,cM 3 1,aV 4 false]) <|
  .seq (.region false [⟨none,[au 5 0 2,ao 6 5,au 7 0 3,ao 8 7,aN 9 165 [6,8],ae 10 9]⟩,⟨(some (10,true)),[au 11 1 2,ao 12 11,au 13 1 3,ao 14 13,aN 15 166 [12,14]]⟩,⟨none,[bO 16 10 15,ae 17 16]⟩,⟨(some (17,true)),[au 18 2 2,ao 19 18,au 20 2 3,ao 21 20,cT 22 167 [(.tmp 19),(.tmp 21),(.val (.fn 168 [] []))]]⟩,⟨none,[bO 23 17 22,ae 24 23]⟩,⟨(some (24,true)),[au 25 3 2,ao 26 25,au 27 3 3,ao 28 27,aR 29 .eql 26 28]⟩,⟨none,[bO 30 24 29,ae 4 30]⟩]) <|
  .ret,
  [.tmp 4],31⟩
theorem CQ:aW Tryz.prog 108 [2,3]=some zV:=by kernel_rfl
theorem Jr {α:Type} {f g:α→List V} {a b:List α} (hf:∀ x,∀ v∈f x,Tree v) (hg:∀ x,∀ v∈g x,Tree v):∀ v∈[V.aY (a.map f),V.aY (b.map g)],Tree v:=by
  intro v hv; simp at hv
  rcases hv with rfl | rfl
  · exact ee _ _ fun x _=>hf x
  · exact ee _ _ fun x _=>hg x
theorem Ie (a b:List Term) (ha:aM a) (H:View):aA Tryz.prog 165 [.aY (a.map ct),.aY (b.map ct)] H fun r _=>r=gb (decide (a=b)):=by
  refine aA.of mixed iW ?_
  unfold aM at ha
  simp (disch:=omega) only [↓wr,↓reduceIte,wq,ai,ah,ak,Nat.reduceEqDiff,Nat.reduceAdd,Nat.reduceLeDiff,reduceCtorEq,fo]
  refine aq.ne (fun h=>?_) (fun h=>?_)
  · simp (disch:=omega) only [↓wr,↓reduceIte,wq,reduceCtorEq]
    rw[decide_eq_false (qV (by omega))]
  · simp (disch:=omega) only [↓wr,↓reduceIte,wq,ak,reduceCtorEq]
    refine bb.up a.length (fun i T _=>a.take i=b.take i∧T 0=.aY (a.map ct)∧T 1=.aY (b.map ct)∧T 12=gi a.length∧T 13=gi i) ⟨by simp,rfl,rfl,rfl,rfl⟩ ?_
    rintro i k T H hk ⟨hi,h0,h1,h7,h8⟩
    simp (disch:=omega) only [↓wr,↓reduceIte,wq,ah,reduceCtorEq,eR,h7,h8]
    refine aq.dec (fun hc=>?_) (fun hc=>?_)
    · have h2:a[i]?=some (a[i]'(by omega)):=List.getElem?_eq_getElem (by omega)
      have h3:b[i]?=some (b[i]'(by omega)):=List.getElem?_eq_getElem (by omega)
      generalize a[i]'(by omega)=x at h2
      generalize b[i]'(by omega)=y at h3
      simp (disch:=omega) only [↓wr,↓reduceIte,wq,Nat.reduceEqDiff,Nat.reduceAdd,Nat.reduceLeDiff,reduceCtorEq,h0,h1,h8,List.getElem?_map,h2,h3,ct]
      refine yb (xs:=#[.string x.name,.int .i64 x.level,.int .i64 x.assoc]) (ys:=#[.string y.name,.int .i64 y.level,.int .i64 y.assoc]) Tryz.underlying119 (by kernel_rfl) (by kernel_rfl) ?_ ?_ (yj x y) (.inr ⟨rfl,rfl⟩) ?_
      · rfl
      · rfl
      rw[Fb]
      simp (disch:=omega) only [↓wr,↓reduceIte,wq]
      refine aq.split (fun e=>?_) (fun e=>?_)
      · simp (disch:=omega) only [↓wr,↓reduceIte,wq,ah,Nat.reduceEqDiff,reduceCtorEq,h8]
        exact aK hk (by omega) ⟨nP h2 h3 hi (by simpa using e),h0,h1,h7,rfl⟩
      · simp (disch:=omega) only [↓wr,↓reduceIte,wq,ah,Nat.reduceEqDiff,reduceCtorEq,h8]
        rw[decide_eq_false (uv h2 h3 (by simpa using e))]
    · simp (disch:=omega) only [↓wr,↓reduceIte,wq,Nat.reduceEqDiff,reduceCtorEq]
      rw[decide_eq_true (qO (by omega) (by omega) hi)]
theorem Jq (a b:List ByteArray) (ha:aM a) (H:View):aA Tryz.prog 166 [encS a,encS b] H fun r _=>r=gb (decide (a=b)):=by
  refine aA.of mixed kn ?_
  unfold aM at ha
  simp (disch:=omega) only [↓wr,↓reduceIte,wq,ai,ah,ak,Nat.reduceEqDiff,Nat.reduceAdd,Nat.reduceLeDiff,reduceCtorEq,gn,encS]
  refine aq.ne (fun h=>?_) (fun h=>?_)
  · simp (disch:=omega) only [↓wr,↓reduceIte,wq,reduceCtorEq]
    rw[decide_eq_false (qV (by omega))]
  · simp (disch:=omega) only [↓wr,↓reduceIte,wq,ak,reduceCtorEq]
    refine bb.up a.length (fun i T _=>a.take i=b.take i∧T 0=encS a∧T 1=encS b∧T 12=gi a.length∧T 13=gi i) ⟨by simp,rfl,rfl,rfl,rfl⟩ ?_
    rintro i k T H hk ⟨hi,h0,h1,h7,h8⟩
    simp (disch:=omega) only [↓wr,↓reduceIte,wq,ah,reduceCtorEq,fK,h7,h8,encS]
    refine aq.dec (fun hc=>?_) (fun hc=>?_)
    · have h2:a[i]?=some (a[i]'(by omega)):=List.getElem?_eq_getElem (by omega)
      have h3:b[i]?=some (b[i]'(by omega)):=List.getElem?_eq_getElem (by omega)
      generalize a[i]'(by omega)=x at h2
      generalize b[i]'(by omega)=y at h3
      simp (disch:=omega) only [↓wr,↓reduceIte,wq,Nat.reduceEqDiff,Nat.reduceLT,reduceCtorEq,h0,h1,h8,encS,List.getElem?_map,h2,h3,BQ]
      refine aq.split (fun e=>?_) (fun e=>?_)
      · simp (disch:=omega) only [↓wr,↓reduceIte,wq,ah,Nat.reduceEqDiff,reduceCtorEq,h8]
        exact aK hk (by omega) ⟨nP h2 h3 hi (by simpa using e),h0,h1,h7,rfl⟩
      · simp (disch:=omega) only [↓wr,↓reduceIte,wq,ah,Nat.reduceEqDiff,reduceCtorEq,h8]
        rw[decide_eq_false (uv h2 h3 (by simpa using e))]
    · simp (disch:=omega) only [↓wr,↓reduceIte,wq,Nat.reduceEqDiff,reduceCtorEq]
      rw[decide_eq_true (qO (by omega) (by omega) hi)]
theorem Ij (a b:List Int) (ha:aM a) (H:View):aA Tryz.prog 208 [encI a,encI b] H fun r _=>r=gb (decide (a=b)):=by
  refine aA.of mixed nC ?_
  unfold aM at ha
  simp (disch:=omega) only [↓wr,↓reduceIte,wq,ai,ah,ak,Nat.reduceEqDiff,Nat.reduceAdd,Nat.reduceLeDiff,reduceCtorEq,jl,encI]
  refine aq.ne (fun h=>?_) (fun h=>?_)
  · simp (disch:=omega) only [↓wr,↓reduceIte,wq,reduceCtorEq]
    rw[decide_eq_false (qV (by omega))]
  · simp (disch:=omega) only [↓wr,↓reduceIte,wq,ak,reduceCtorEq]
    refine bb.up a.length (fun i T _=>a.take i=b.take i∧T 0=encI a∧T 1=encI b∧T 12=gi a.length∧T 13=gi i) ⟨by simp,rfl,rfl,rfl,rfl⟩ ?_
    rintro i k T H hk ⟨hi,h0,h1,h7,h8⟩
    simp (disch:=omega) only [↓wr,↓reduceIte,wq,ah,reduceCtorEq,ig,h7,h8,encI]
    refine aq.dec (fun hc=>?_) (fun hc=>?_)
    · have h2:a[i]?=some (a[i]'(by omega)):=List.getElem?_eq_getElem (by omega)
      have h3:b[i]?=some (b[i]'(by omega)):=List.getElem?_eq_getElem (by omega)
      generalize a[i]'(by omega)=x at h2
      generalize b[i]'(by omega)=y at h3
      simp (disch:=omega) only [↓wr,↓reduceIte,wq,ah,Nat.reduceEqDiff,Nat.reduceLT,reduceCtorEq,h0,h1,h8,encI,List.getElem?_map,h2,h3]
      refine aq.ne (fun e=>?_) (fun e=>?_)
      · simp (disch:=omega) only [↓wr,↓reduceIte,wq,ah,Nat.reduceEqDiff,reduceCtorEq,h8]
        rw[decide_eq_false (uv h2 h3 e)]
      · simp (disch:=omega) only [↓wr,↓reduceIte,wq,ah,Nat.reduceEqDiff,reduceCtorEq,h8]
        exact aK hk (by omega) ⟨nP h2 h3 hi e,h0,h1,h7,rfl⟩
    · simp (disch:=omega) only [↓wr,↓reduceIte,wq,Nat.reduceEqDiff,reduceCtorEq]
      rw[decide_eq_true (qO (by omega) (by omega) hi)]
theorem I6 (a b:List Term) (ha:aM a):aD Tryz.prog 165 [.aY (a.map ct),.aY (b.map ct)] (gb (decide (a=b))):=aD.val (Jr rU rU) (Ie a b ha)
theorem IL (a b:List ByteArray) (ha:aM a):aD Tryz.prog 166 [encS a,encS b] (gb (decide (a=b))):=aD.val (by
  intro v hv; simp at hv
  rcases hv with rfl | rfl <;> exact wm _) (Jq a b ha)
theorem Im (a b:List Int) (ha:aM a):aD Tryz.prog 208 [encI a,encI b] (gb (decide (a=b))):=aD.val (by
  intro v hv; simp at hv
  rcases hv with rfl | rfl <;> exact bQ _) (Ij a b ha)
theorem Lm (x y:aQ) (hx:aM x.right):aD Tryz.prog 168 [.agg (aO x),.agg (aO y)] (gb (decide (x=y))):=by
  refine aD.val (by
    intro v hv; simp at hv
    rcases hv with rfl | rfl <;> exact cE _ (fL _)) fun H=>?_
  rw[K7]
  refine aA.of mixed Bf ?_
  simp (disch:=omega) only [↓wr,↓reduceIte,wq,ai,ah,Nat.reduceEqDiff,Nat.reduceAdd,Nat.reduceLT,Nat.reduceLeDiff,xV,aO,encI]
  repeat' (first | (refine aq.dec (fun _=>?_) (fun _=>?_)) | (refine aq.eq (fun _=>?_) (fun _=>?_)) | (refine aq.ne (fun _=>?_) (fun _=>?_)) | (refine aq.split (fun _=>?_) (fun _=>?_)) | (refine aF.pure (Im x.right y.right hx) (by kernel_rfl) ?_) | (simp (disch:=omega) only [↓wr,↓reduceIte,wq,ah,Nat.reduceEqDiff,Nat.reduceAdd,Nat.reduceLT,reduceCtorEq]))
  all_goals simp[*]
theorem DG (a b:List aQ) (ha:aM a) (hr:∀ r∈a,aM r.right) (H:View):aA Tryz.prog 167 [.aY (a.map aO),.aY (b.map aO),.fn 168 [] []] H fun r _=>r=gb (decide (a=b)):=by
  refine aA.of mixed ec ?_
  unfold aM at ha
  simp (disch:=omega) only [↓wr,↓reduceIte,wq,ai,ah,ak,Nat.reduceEqDiff,Nat.reduceAdd,Nat.reduceLeDiff,reduceCtorEq,cU]
  refine aq.ne (fun h=>?_) (fun h=>?_)
  · simp (disch:=omega) only [↓wr,↓reduceIte,wq,reduceCtorEq]
    rw[decide_eq_false (qV (by omega))]
  · simp (disch:=omega) only [↓wr,↓reduceIte,wq,ak,reduceCtorEq]
    refine bb.up a.length (fun i T _=>a.take i=b.take i∧T 15=.aY (a.map aO)∧T 1=.aY (b.map aO)∧T 2=.fn 168 [] []∧T 16=gi a.length∧T 17=gi i) ⟨by simp,rfl,rfl,rfl,rfl,rfl⟩ ?_
    rintro i k T H hk ⟨hi,h0,h1,h6,h7,h8⟩
    simp (disch:=omega) only [↓wr,↓reduceIte,wq,ah,reduceCtorEq,cP,h7,h8]
    refine aq.dec (fun hc=>?_) (fun hc=>?_)
    · have h2:a[i]?=some (a[i]'(by omega)):=List.getElem?_eq_getElem (by omega)
      have h3:b[i]?=some (b[i]'(by omega)):=List.getElem?_eq_getElem (by omega)
      have hm:a[i]'(by omega)∈a:=List.getElem_mem _
      generalize a[i]'(by omega)=x at h2 hm
      generalize b[i]'(by omega)=y at h3
      have hsx:=hr x hm
      simp (disch:=omega) only [↓wr,↓reduceIte,wq,aa,Nat.reduceEqDiff,Nat.reduceAdd,Nat.reduceLT,Nat.reduceLeDiff,h0,h1,h6,h8,List.getElem?_map,h2,h3,aO,encI]
      intro n hn
      try simp (disch:=omega) only [↓wr,↓reduceIte,wq,ai,ah,ak,aa,af,ag,aj,isNil,Nat.reduceEqDiff,Nat.reduceAdd,Nat.reduceLT,Nat.reduceLeDiff,Int.reduceNeg,Int.reduceToNat,reduceCtorEq,h0,h1,h6,h7,h8,List.getElem?_map,h2,h3,aO,encI]
      intro m hmd
      have hmn:=(cg hmd ca).1
      try simp (disch:=omega) only [↓wr,↓reduceIte,wq,Nat.reduceEqDiff,Nat.reduceAdd,Nat.reduceLT,Nat.reduceLeDiff,hmn.symm]
      refine aF.pure (Lm x y hsx) (by kernel_rfl) ?_
      simp (disch:=omega) only [↓wr,↓reduceIte,wq]
      refine aq.split (fun e=>?_) (fun e=>?_)
      · simp (disch:=omega) only [↓wr,↓reduceIte,wq,ah,Nat.reduceEqDiff,Nat.reduceAdd,reduceCtorEq,h8]
        exact aK hk (by omega) ⟨nP h2 h3 hi (by simpa using e),h0,h1,h6,h7,rfl⟩
      · simp (disch:=omega) only [↓wr,↓reduceIte,wq,ah,Nat.reduceEqDiff,Nat.reduceAdd,reduceCtorEq,h8]
        rw[decide_eq_false (uv h2 h3 (by simpa using e))]
    · simp (disch:=omega) only [↓wr,↓reduceIte,wq,Nat.reduceEqDiff,reduceCtorEq]
      rw[decide_eq_true (qO (by omega) (by omega) hi)]
theorem D5 (a b:List aQ) (ha:aM a) (hr:∀ r∈a,aM r.right):aD Tryz.prog 167 [.aY (a.map aO),.aY (b.map aO),.fn 168 [] []] (gb (decide (a=b))):=aD.val (by
  intro v hv; simp at hv
  rcases hv with rfl | rfl | rfl
  · exact ee _ _ fun x _=>fL x
  · exact ee _ _ fun x _=>fL x
  · exact AZ (by simp) (by simp)) (DG a b ha hr)
theorem Ke (g k:an) (hg:g.Ok):aD Tryz.prog 108 [.agg (ar g),.agg (ar k)] (gb (decide (g=k))):=by
  refine aD.val (Cr g k) fun H=>?_
  rw[C1]
  refine aA.of mixed CQ ?_
  simp (disch:=omega) only [↓wr,↓reduceIte,wq,ai,Nat.reduceEqDiff,Nat.reduceAdd,Nat.reduceLT,Nat.reduceLeDiff,zV,ar,encS]
  repeat' (first | (refine aq.dec (fun _=>?_) (fun _=>?_)) | (refine aq.eq (fun _=>?_) (fun _=>?_)) | (refine aq.ne (fun _=>?_) (fun _=>?_)) | (refine aq.split (fun _=>?_) (fun _=>?_)) | (refine aF.pure (I6 g.ax k.ax hg.ax) (by kernel_rfl) ?_) | (refine aF.pure (IL g.av k.av hg.av) (by kernel_rfl) ?_) | (refine aF.pure (D5 g.rules k.rules hg.rules (fun r hr=>(hg.bd r hr).2.2.1)) (by kernel_rfl) ?_) | (simp (disch:=omega) only [↓wr,↓reduceIte,wq,ah,Nat.reduceEqDiff,Nat.reduceAdd,Nat.reduceLT,reduceCtorEq]))
  all_goals simp_all [MR]
def BS:SF:=⟨.seq (al [cM 1 0,aV 2 false]) <|
  .seq (al [aU 7 4 1,aN 8 107 [7],ae 6 8,bY 9 0 6,bY 10 1 6,bY 11 2 6,((some 3),.op (.alloc [(.emp 1),(.emp 1),(.emp 1),(.val (.int .i64 0))])),(none,.op (.store 4 (.tmp 3) (.tmp 9))),ae 4 10,ae 5 11]) <|
  .seq (.region false [⟨none,[ae 12 5,az 13 .eql 12 0,ae 14 13]⟩,⟨(some (14,true)),[aU 15 4 1,aU 16 4 3,aN 17 108 [15,16]]⟩,⟨none,[bO 18 14 17,ae 2 18]⟩]) <|
  .ret,
  [.tmp 2],19⟩
theorem DP:aW Tryz.prog 60 [1]=some BS:=by kernel_rfl
def qJ:SF:=⟨.seq (al [cM 1 0,aV 2 false]) <|
  .seq (al [aU 7 4 1,aN 8 67 [7],ae 6 8,bY 9 0 6,bY 10 1 6,bY 11 2 6,((some 3),.op (.alloc [(.emp 1),(.emp 1),(.emp 1),(.val (.int .i64 0))])),(none,.op (.store 4 (.tmp 3) (.tmp 9))),ae 4 10,ae 5 11]) <|
  .seq (.region false [⟨none,[ae 12 5,az 13 .eql 12 0,ae 14 13]⟩,⟨(some (14,true)),[aU 15 4 1,aU 16 4 3,aN 17 34 [15,16]]⟩,⟨none,[bO 18 14 17,ae 2 18]⟩]) <|
  .ret,
  [.tmp 2],19⟩
theorem vJ:aW Tryz.prog 38 [1]=some qJ:=by kernel_rfl
theorem IX (g:an) (hg:g.Ok) (hs:g.Small):aD Tryz.prog 60 [.agg (ar g)] (gb (isRed g)):=by
  refine aD.val (eA g) fun H=>?_
  refine aA.of mixed DP ?_
  simp (disch:=omega) only [↓wr,↓reduceIte,wq,ai,Nat.reduceEqDiff,Nat.reduceAdd,Nat.reduceLeDiff,BS,ar,encS]
  refine aF.pure (GR g hg hs).pure (by kernel_rfl) ?_
  unfold isRed
  generalize eP g=x
  obtain ⟨k,il,e⟩:=x
  simp (disch:=omega) only [↓wr,↓reduceIte,wq,ah,aa,Nat.reduceEqDiff,Nat.reduceAdd,Nat.reduceLT,Nat.reduceLeDiff,ug,ar,encS]
  intro n hn
  refine aq.eq (fun h=>?_) (fun h=>?_)
  · simp (disch:=omega) only [↓wr,↓reduceIte,wq,Nat.reduceEqDiff,Nat.reduceAdd,Nat.reduceLT,Nat.reduceLeDiff]
    refine aF.pure (Ke g k hg) (by kernel_rfl) ?_
    simp (disch:=omega) only [↓wr,↓reduceIte,wq,Nat.reduceEqDiff,reduceCtorEq]
    simp[h]
  · simp (disch:=omega) only [↓wr,↓reduceIte,wq,Nat.reduceEqDiff,reduceCtorEq]
    simp[h]
theorem Ps (g:an) (hg:g.Ok):aD Tryz.prog 38 [.agg (ar g)] (gb (isRed g)):=by
  refine aD.val (eA g) fun H=>?_
  refine aA.of mixed vJ ?_
  simp (disch:=omega) only [↓wr,↓reduceIte,wq,ai,Nat.reduceEqDiff,Nat.reduceAdd,Nat.reduceLeDiff,qJ,ar,encS]
  refine aF.pure (EU g hg).pure (by kernel_rfl) ?_
  unfold isRed
  generalize eP g=x
  obtain ⟨k,il,e⟩:=x
  simp (disch:=omega) only [↓wr,↓reduceIte,wq,ah,aa,Nat.reduceEqDiff,Nat.reduceAdd,Nat.reduceLT,Nat.reduceLeDiff,ug,ar,encS]
  intro n hn
  refine aq.eq (fun h=>?_) (fun h=>?_)
  · simp (disch:=omega) only [↓wr,↓reduceIte,wq,Nat.reduceEqDiff,Nat.reduceAdd,Nat.reduceLT,Nat.reduceLeDiff]
    refine aF.pure (ID g k hg) (by kernel_rfl) ?_
    simp (disch:=omega) only [↓wr,↓reduceIte,wq,Nat.reduceEqDiff,reduceCtorEq]
    simp[h]
  · simp (disch:=omega) only [↓wr,↓reduceIte,wq,Nat.reduceEqDiff,reduceCtorEq]
    simp[h]
def PU:an:=⟨[⟨⟨#[39,97,39]⟩,0,0⟩,⟨⟨#[39,98,39]⟩,0,0⟩,⟨⟨#[39,99,39]⟩,0,0⟩,⟨⟨#[39,100,39]⟩,0,0⟩],[⟨#[115]⟩,⟨#[117]⟩,⟨#[118]⟩],[⟨0,[0,(-2)],0⟩,⟨0,[1],1⟩,⟨0,[],(-1)⟩,⟨1,[(-2),2],2⟩,⟨2,[3,(-1)],3⟩],0⟩
def Oj:an:=⟨PU.ax,[⟨#[115]⟩],[⟨0,[1],1⟩,⟨0,[],(-1)⟩],0⟩
theorem nj:isRed Oj=true:=by kernel_rfl
structure an.Qq (g:an):Prop where
  ax:g.ax.length≤40
  av:g.av.length≤40
  rules:g.rules.length≤60
  right:∀ r∈g.rules,r.right.length≤20
theorem c7.fr {h:aE} {v t:V} (f:c7 h v t):Fr h v t:=by
  induction f with
  | val v=>exact .tree _ (.val _)
  | emp k=>exact .emp k
  | sl id off len esz z es es' h1 h2 h3 h4 _ ih=>exact .sl id off len esz z es es' h1 h2 h3 h4 ih
  | agg cs cs' h1 _ ih=>exact .agg cs cs' h1 ih
  | bo cs cs' h1 _ ih=>exact .bo cs cs' h1 ih
def gU:DC :=
  .seq (.seq (ay [ae 34 8,ae 35 7,aL 36 35,aR 37 .lss 34 36]) <|
  .cond (.tmp 37) (.skip) (.exit 0)) <|
  .block 1 (ay [ae 38 8,ae 39 7,ae 40 8,((some 41),.op (.slice 4 (.tmp 39) (some (.tmp 40)) none)),ae 42 7,ae 43 8,((some 44),.op (.slice 4 (.tmp 42) none (some (.tmp 43)))),((some 45),.op (.old (.call { callee:=.builtin .copy,args:=#[(.tmp 41),(.tmp 44)],argTypes:=#[284,284] }) 3)),aR 46 .add 38 45,ae 8 46])
def ey:DF:=⟨.seq (ay [((some 4),.op (.bc (.val (.emp 1))))]) <|
  .seq (.seq (ay [ae 9 1,az 10 .lss 9 0]) <|
  .cond (.tmp 10) (.region [] [⟨none,[((some 11),.op (.old (.makeInterface 9 (.const (.string ⟨#[99,97,110,110,111,116,32,98,101,32,110,101,103,97,116,105,118,101]⟩))) 20)),(none,.op (.old (.panic (.tmp 11)) 0))]⟩]) (.skip)) <|
  .seq (ay [ae 13 0,aL 14 13,((some 15),.op (.conv .u64 (.tmp 14))),ae 16 1,((some 17),.op (.conv .u64 (.tmp 16))),aN 18 153 [15,17],ae 12 18,bY 19 0 12,bY 20 1 12,ae 5 19,ae 6 20]) <|
  .seq (.seq (.region [] [⟨none,[ae 21 5,((some 22),.op (.arith .gtr (.tmp 21) (.val (.val (.int .u64 0))))),ae 23 22]⟩,⟨(some (23,false)),[ae 24 6,((some 25),.op (.arith .gtr (.tmp 24) (.val (.val (.int .u64 9223372036854775807)))))]⟩,⟨none,[bC 26 23 25]⟩]) <|
  .cond (.tmp 26) (.region [] [⟨none,[((some 27),.op (.old (.makeInterface 9 (.const (.string ⟨#[116,104,101,32,114,101,115,117,108,116,32,111,102,32,40,108,101,110,40,120,41,32,42,32,99,111,117,110,116,41,32,111,118,101,114,102,108,111,119,115]⟩))) 20)),(none,.op (.old (.panic (.tmp 27)) 0))]⟩]) (.skip)) <|
  .seq (ay [ae 28 6,((some 29),.op (.conv .i64 (.tmp 28))),((some 30),.op (.make 4 32 [(.val (.int .i64 0)),(.val (.int .i64 0)),(.val (.int .i64 0)),(.val (.int .i64 0))] (.tmp 29) (.tmp 29))),ae 7 30]) <|
  .seq (ay [ae 31 7,ae 32 0,((some 33),.op (.old (.call { callee:=.builtin .copy,args:=#[(.tmp 31),(.tmp 32)],argTypes:=#[284,284] }) 3)),ae 8 33]) <|
  .seq (.block 0 (.loop gU)) <|
  .seq (ay [ae 47 7,ae 4 47]) <|
  .ret,
  [.tmp 4],48⟩
theorem gM:bH Tryz.prog 248 []=some ey:=by kernel_rfl
def rD:DF:=⟨.seq (ay [((some 4),.op (.bc (.val (.val (.int .u64 0))))),((some 5),.op (.bc (.val (.val (.int .u64 0)))))]) <|
  .seq (.cond (.val (.val (.bool false))) (.seq (ay [ae 11 0,((some 12),.op (.conv .u32 (.tmp 11))),ae 13 1,((some 14),.op (.conv .u32 (.tmp 13))),aN 15 197 [12,14],ae 10 15,bY 16 0 10,bY 17 1 10,ae 6 16,ae 7 17]) <|
  .seq (ay [ae 18 6,((some 19),.op (.conv .u64 (.tmp 18))),ae 20 7,((some 21),.op (.conv .u64 (.tmp 20))),ae 4 19,ae 5 21]) <|
  .ret) (.skip)) <|
  .seq (ay [ae 23 0,ae 24 1,aN 25 198 [23,24],ae 22 25,bY 26 0 22,bY 27 1 22,ae 8 26,ae 9 27]) <|
  .seq (ay [ae 28 8,ae 29 9,ae 4 28,ae 5 29]) <|
  .ret,
  [.tmp 4,.tmp 5],30⟩
theorem xh:bH Tryz.prog 153 []=some rD:=by kernel_rfl
def pO:DF:=⟨.seq (ay [((some 4),.op (.bc (.val (.val (.int .u32 0))))),((some 5),.op (.bc (.val (.val (.int .u32 0)))))]) <|
  .seq (ay [ae 7 0,((some 8),.op (.conv .u64 (.tmp 7))),ae 9 1,((some 10),.op (.conv .u64 (.tmp 9))),aR 11 .mul 8 10,ae 6 11]) <|
  .seq (ay [ae 12 6,((some 13),.op (.sh false (.tmp 12) (.val (.val (.int .u64 32))))),((some 14),.op (.conv .u32 (.tmp 13))),ae 15 6,((some 16),.op (.conv .u32 (.tmp 15))),ae 4 14,ae 5 16]) <|
  .ret,
  [.tmp 4,.tmp 5],17⟩
theorem uZ:bH Tryz.prog 197 []=some pO:=by kernel_rfl
def pT:DF:=⟨.seq (ay [((some 4),.op (.bc (.val (.val (.int .u64 0))))),((some 5),.op (.bc (.val (.val (.int .u64 0)))))]) <|
  .seq (ay [ae 14 0,((some 15),.op (.arith .and (.tmp 14) (.val (.val (.int .u64 4294967295))))),ae 6 15]) <|
  .seq (ay [ae 16 0,((some 17),.op (.sh false (.tmp 16) (.val (.val (.int .u64 32))))),ae 7 17]) <|
  .seq (ay [ae 18 1,((some 19),.op (.arith .and (.tmp 18) (.val (.val (.int .u64 4294967295))))),ae 8 19]) <|
  .seq (ay [ae 20 1,((some 21),.op (.sh false (.tmp 20) (.val (.val (.int .u64 32))))),ae 9 21]) <|
  .seq (ay [ae 22 6,ae 23 8,aR 24 .mul 22 23,ae 10 24]) <|
  .seq (ay [ae 25 7,ae 26 8,aR 27 .mul 25 26,ae 28 10,((some 29),.op (.sh false (.tmp 28) (.val (.val (.int .u64 32))))),aR 30 .add 27 29,ae 11 30]) <|
  .seq (ay [ae 31 11,((some 32),.op (.arith .and (.tmp 31) (.val (.val (.int .u64 4294967295))))),ae 12 32]) <|
  .seq (ay [ae 33 11,((some 34),.op (.sh false (.tmp 33) (.val (.val (.int .u64 32))))),ae 13 34]) <|
  .seq (ay [ae 35 12,ae 36 6,ae 37 9,aR 38 .mul 36 37,aR 39 .add 35 38,ae 12 39]) <|
  .seq (ay [ae 40 7,ae 41 9,aR 42 .mul 40 41,ae 43 13,aR 44 .add 42 43,ae 45 12,((some 46),.op (.sh false (.tmp 45) (.val (.val (.int .u64 32))))),aR 47 .add 44 46,ae 4 47]) <|
  .seq (ay [ae 48 0,ae 49 1,aR 50 .mul 48 49,ae 5 50]) <|
  .ret,
  [.tmp 4,.tmp 5],51⟩
theorem ud:bH Tryz.prog 198 []=some pT:=by kernel_rfl
def DX:List (FuncId × DF):=[(248,ey),(153,rD),(197,pO),(198,pT)]
theorem Jp:r6 Tryz.prog DX:=by
  intro p hp
  simp only[DX,List.mem_cons,List.not_mem_nil,or_false] at hp
  rcases hp with rfl | rfl | rfl | rfl
  · exact ⟨_,gM⟩
  · exact ⟨_,xh⟩
  · exact ⟨_,uZ⟩
  · exact ⟨_,ud⟩
def bM (p:bk):List V:=[gi p.bd,gi p.bE,gi p.rules,gi p.ax]
abbrev gD (P:List bk):V:=.aY (P.map bM)
theorem pZ (P:List bk):Tree (gD P):=ee _ _ fun x _ v hv=>by
  simp[bM] at hv
  rcases hv with rfl | rfl | rfl | rfl <;> exact .val _
theorem Oz {n:Nat} (h:sT Tryz.prog DX (fun _ _ _=>none) 248 [gD [ic],gi n]=some (gD (List.replicate n ic))):cd Tryz.prog 248 [gD [ic],gi n] (gD (List.replicate n ic)) :=
  pX mixed Jp (G0 _) (by
    intro v hv; simp at hv
    rcases hv with rfl | rfl
    · exact pZ [ic]
    · exact .val _) h
theorem Iy {n:Nat} (h1:1≤n) (h2:n≤16):cd Tryz.prog 248 [gD [ic],gi n] (gD (List.replicate n ic)):=by
  have:n=1∨n=2∨n=3∨n=4∨n=5∨n=6∨n=7∨n=8∨n=9∨n=10∨n=11∨n=12∨n=13∨n=14∨n=15∨n=16:=by omega
  rcases this with rfl | rfl | rfl | rfl | rfl | rfl | rfl | rfl | rfl | rfl | rfl | rfl | rfl | rfl | rfl | rfl <;> exact Oz (by kernel_rfl)
theorem Ay (p:bk):∀ v∈bM p,Tree v:=by
  intro v hv; simp[bM] at hv
  rcases hv with rfl | rfl | rfl | rfl <;> exact .val _
theorem OL (h:aE) (p:bk):c7 h (.agg (bM p)) (.agg (bM p)):=.agg _ _ rfl fun i hi=>by
  match i,hi with
  | 0,_=>exact .val _
  | 1,_=>exact .val _
  | 2,_=>exact .val _
  | 3,_=>exact .val _
  | n+4,h=>exact absurd h (by simp[bM])
def yn (p:bk):Prop:=dL p∧(-1≤p.bd∧p.bd≤1000000)∧0≤p.bE∧p.bE≤1000000
theorem JH:yn bz:=by unfold yn dL bz; decide
theorem Ev {x:Int} : (if x < 1048576 then x else 1048576)=min 1048576 x:=by omega
theorem Od {x y:Int} : (if y > x then y else x)=max x y:=by omega
def vy:SC :=
  .seq (al [aR 12 .lss 11 10]) <|
  .seq (.cond (.tmp 12) (.skip) (.exit 0)) <|
  .seq (.block 1 (.seq (al [aP 13 1 9 11,ao 14 13,ae 7 14]) <|
  .seq (.seq (al [ae 15 7,az 16 .geq 15 0]) <|
  .cond (.tmp 16) (.seq (al [au 17 3 4,ao 18 17,az 19 .add 18 1,((some 20),.op (.mm false (.val (.val (.int .i64 1048576))) (.tmp 19))),au 21 3 4,(none,.op (.store 1 (.tmp 21) (.tmp 20)))]) <|
  .exit 1) (.skip)) <|
  .seq (al [ae 22 1,ae 23 7,((some 24),.op (.arith .sub (.val (.val (.int .i64 (-1)))) (.tmp 23))),aP 25 4 22 24,aU 26 4 25,((some 8),.op (.alloc [(.val (.int .i64 0)),(.val (.int .i64 0)),(.val (.int .i64 0)),(.val (.int .i64 0))])),(none,.op (.store 4 (.tmp 8) (.tmp 26)))]) <|
  .seq (.seq (al [au 27 0 8,ao 28 27,az 29 .lss 28 0]) <|
  .cond (.tmp 29) (.seq (al [aU 30 4 4,(none,.op (.store 4 (.tmp 4) (.tmp 30))),aV 5 false]) <|
  .ret) (.skip)) <|
  .seq (al [au 31 1 4,ao 32 31,au 33 1 8,ao 34 33,((some 35),.op (.mm true (.tmp 32) (.tmp 34))),au 36 1 4,(none,.op (.store 1 (.tmp 36) (.tmp 35)))]) <|
  .lh [(45,49)] [⟨none,[au 37 2 4,ao 38 37,au 39 2 8,ao 40 39,aR 41 .add 38 40,((some 42),.op (.mm false (.val (.val (.int .i64 1048576))) (.tmp 41))),au 43 3 4,ao 44 43,au 45 3 8,ao 46 45,aR 47 .add 44 46,((some 48),.op (.mm false (.val (.val (.int .i64 1048576))) (.tmp 47))),au 49 2 4,(none,.op (.store 1 (.tmp 49) (.tmp 42))),au 50 3 4,(none,.op (.store 1 (.tmp 50) (.tmp 48)))]⟩])) <|
  al [az 51 .add 11 1,ae 11 51]
def yx:SF:=⟨.seq (al [((some 4),.op (.alloc [(.val (.int .i64 0)),(.val (.int .i64 0)),(.val (.int .i64 0)),(.val (.int .i64 0))])),aV 5 false]) <|
  .seq (.seq (al [ae 9 0,aL 10 9,aH 11 0]) <|
  .block 0 (.loop vy)) <|
  .seq (al [aU 52 4 4,(none,.op (.store 4 (.tmp 4) (.tmp 52))),aV 5 true]) <|
  .ret,
  [.cell 4 (some 4),.tmp 5],53⟩
theorem Bw:aW Tryz.prog 232 []=some yx:=by kernel_rfl
theorem xn {P:List bk} {m:Nat} (h:m < P.length):(P.map bM)[m]?=some (bM (bj P m)):=by
  simp[bj,List.getD_eq_getElem?_getD,h]
set_option maxHeartbeats 2000000 in
theorem HG (P:List bk) (hP:∀ m,yn (bj P m)) (l:List Int) (hl:aM l) (hn:∀ x∈l,bW x∧(x < 0→-1 - x < P.length)) :
    cd Tryz.prog 232 [encI l,gD P] (.bo [.agg (bM (bK P l bz).1),gb (bK P l bz).2]):=by
  have key:∀ H,aA Tryz.prog 232 [encI l,gD P] H fun r _=>r=.bo [.agg (bM (bK P l bz).1),gb (bK P l bz).2]:=?_
  · refine cd.of (by
      intro v hv; simp at hv
      rcases hv with rfl | rfl
      · exact bQ l
      · exact pZ P) ((key _).mono fun r H' e h' _=>?_)
    rw[e]; exact yI (OL _ _) (.val _)
  intro H
  refine aA.of mixed Bw ?_
  unfold aM at hl
  simp (disch:=omega) only [↓wr,↓reduceIte,wq,ai,ak,Nat.reduceAdd,Nat.reduceLeDiff,reduceCtorEq,yx,encI]
  intro m hm
  try simp (disch:=omega) only [↓wr,↓reduceIte,wq,ai,ah,ak,aa,af,ag,aj,isNil,Nat.reduceEqDiff,Nat.reduceAdd,Nat.reduceLT,Nat.reduceLeDiff,Int.reduceNeg,Int.reduceToNat,reduceCtorEq,encI]
  refine bb.up l.length (fun i T H'=>∃ s:bk,yn s∧s.bd=0∧bK P (l.drop i) s=bK P l bz∧H' m=.arr 4 [bM s]∧T 1=gD P∧T 4=.ptr m 0 0∧T 9=encI l∧T 10=gi l.length∧T 11=gi i) ?_ ?_
  · exact ⟨bz,JH,rfl,rfl,by simp[View.set,bM,bz],rfl,rfl,rfl,rfl,rfl⟩
  rintro i k T H hk ⟨s,hs,hs0,hsum,hH,t1,t4,t9,t10,t11⟩
  unfold yn dL at hs
  simp (disch:=omega) only [↓wr,↓reduceIte,wq,ah,Int.reduceNeg,vy,t10,t11,encI]
  refine aq.dec (fun hc=>?_) (fun hc=>?_)
  · have hg:l[i]?=some (l[i]'(by omega)):=List.getElem?_eq_getElem (by omega)
    have hmem:l[i]'(by omega)∈l:=List.getElem_mem _
    rw[dA (show i < l.length by omega)] at hsum
    generalize l[i]'(by omega)=x at hg hmem hsum
    obtain ⟨⟨hx1,hx2⟩,hx3⟩:=hn x hmem
    simp (disch:=omega) only [↓wr,↓reduceIte,wq,ah,Nat.reduceEqDiff,Nat.reduceLT,Int.reduceNeg,t9,t11,encI,List.getElem?_map,hg]
    refine aq.dec (fun hd=>?_) (fun hd=>?_)
    · simp (disch:=omega) only [↓wr,↓reduceIte,wq,ah,aa,Nat.reduceEqDiff,Nat.reduceAdd,Nat.reduceLT,Nat.reduceLeDiff,Int.reduceNeg,reduceCtorEq,t4,t11,hH,bM,Ev]
      rw[Cq (show 0≤x from hd)] at hsum
      refine aK hk (by omega) ⟨_,?_,?_,hsum,?_,t1,t4,t9,t10,rfl⟩
      · unfold yn dL; simp only; omega
      · exact hs0
      · simp[View.set]
    · have hm:(bS x) < P.length:=by have:=hx3 (by omega); unfold bS; omega
      have hp:=hP (bS x)
      unfold yn dL at hp
      simp (disch:=omega) only [↓wr,↓reduceIte,wq,ah,aa,Nat.reduceEqDiff,Nat.reduceAdd,Nat.reduceLT,Int.reduceNeg,t1,xn hm]
      simp (disch:=omega) only [↓wr,↓reduceIte,wq,Nat.reduceAdd,Nat.reduceLT,Nat.reduceLeDiff,Int.reduceNeg,bM]
      intro q hq
      have hqm:m≠q:=by rintro rfl; rw[hH] at hq; simp at hq
      try simp (disch:=omega) only [↓wr,↓reduceIte,wq,ai,ah,ak,aa,af,ag,aj,isNil,Nat.reduceEqDiff,Nat.reduceAdd,Nat.reduceLT,Nat.reduceLeDiff,Int.reduceNeg,Int.reduceToNat,reduceCtorEq,t1,t4,t9,t10,t11,encI,hH,hqm,hqm.symm,bM]
      refine aq.dec (fun he=>?_) (fun he=>?_)
      · simp (disch:=omega) only [↓wr,↓reduceIte,wq,ah,aa,Nat.reduceEqDiff,Nat.reduceAdd,Nat.reduceLT,Nat.reduceLeDiff,Int.reduceNeg,reduceCtorEq,t4,t11,hH,hqm,bM]
        rw[Jd (by omega) he] at hsum
        rw[← hsum]
      · simp (disch:=omega) only [↓wr,↓reduceIte,wq,ah,aa,Nat.reduceEqDiff,Nat.reduceAdd,Nat.reduceLT,Nat.reduceLeDiff,Int.reduceNeg,reduceCtorEq,t4,t11,hH,hqm,hqm.symm,bM,Ev,Od]
        rw[yD (by omega) he] at hsum
        refine aK hk (by omega) ⟨_,?_,?_,hsum,?_,t1,t4,t9,t10,rfl⟩
        · unfold yn dL; simp only; omega
        · exact hs0
        · simp[View.set]
  · simp (disch:=omega) only [↓wr,↓reduceIte,wq,aa,Nat.reduceEqDiff,Nat.reduceAdd,Nat.reduceLT,Nat.reduceLeDiff,reduceCtorEq,t4,hH,bM]
    rw[List.drop_eq_nil_of_le (by omega)] at hsum
    rw[← hsum]; try rfl
def df:SF:=⟨.seq (al [((some 2),.op (.bc (.val (.emp 1))))]) <|
  .seq (.seq (al [ae 3 0,((some 4),.op (.nil true 0 (.tmp 3) (.val (.emp 1))))]) <|
  .cond (.tmp 4) (.seq (al [((some 2),.op (.bc (.val (.emp 1))))]) <|
  .ret) (.skip)) <|
  .seq (al [((some 5),.op (.bc (.val (.emp 2)))),ae 6 0,((some 7),.op (.app 4 32 (.tmp 5) (.tmp 6))),ae 2 7]) <|
  .ret,
  [.tmp 2],8⟩
theorem hQ:aW Tryz.prog 249 []=some df:=by kernel_rfl
theorem GD (P:List bk) (hl:P.length≤100000) (h1:1≤P.length) (u:V) (H:View) (hu:u=gD P∨aX H u 4 (P.map bM)) :
    aA Tryz.prog 249 [u] H fun r H'=>aX H' r 4 (P.map bM)∧dw H H' r:=by
  have hall:((P.map bM).all fun e=>e.length == 4 && e.all aT)=true:=by simp[List.all_map,bM,aT]
  refine aA.of mixed hQ ?_
  cases P with
  | nil=>simp at h1
  | cons p r =>
    simp only[List.length_cons] at hl
    rcases hu with rfl | hu
    · simp (disch:=omega) only [↓wr,↓reduceIte,wq,ai,aj,isNil,Nat.reduceEqDiff,Nat.reduceLeDiff,reduceCtorEq,df,gD]
      refine ⟨by simpa using hall,by unfold aI; simp; omega,fun m hm=>?_⟩
      simp (disch:=omega) only [↓wr,↓reduceIte,wq,reduceCtorEq]
      have:=aX.new (H:=H) (n:=m) (sz:=4) (es:=(p :: r).map bM)
      simp only[List.length_map,List.length_cons] at this
      exact ⟨by simpa using this,.new hm⟩
    · obtain ⟨n,rfl,hn⟩:=hu.sl (by simp)
      simp only[List.length_map,List.length_cons] at hn ⊢
      have he:cb H (.sl n 0 (r.length+1) 4)=some ((p :: r).map bM,[n]):=by
        rw[uH _ n 0 r.length 4 4 _ hn (by simp),List.drop_zero,List.take_of_length_le (by simp)]
      simp (disch:=omega) only [↓wr,↓reduceIte,wq,ai,aj,isNil,Nat.reduceEqDiff,Nat.reduceLeDiff,reduceCtorEq,df,he]
      refine ⟨by simpa using hall,by unfold aI; simp; omega,fun m hm=>?_⟩
      simp (disch:=omega) only [↓wr,↓reduceIte,wq,reduceCtorEq]
      have:=aX.new (H:=H) (n:=m) (sz:=4) (es:=(p :: r).map bM)
      simp only[List.length_map,List.length_cons] at this
      exact ⟨by simpa using this,.new hm⟩
theorem De {g:an} (hr:g.rules.length≤40) {k:Nat} (hk:k≤16) (m:Nat):yn (bj (aG g k) m):=by
  refine ⟨ie g k m,?_⟩
  by_cases h:bt (aG g k) m
  · obtain ⟨a,b,_⟩:=fj g k m h
    obtain ⟨j,hj,hn',hh,hc⟩:=ui h
    obtain ⟨i,r,hr',_,_,hp,_⟩:=jC hc
    have hi:i < g.rules.length:=(List.getElem?_eq_some_iff.1 hr').1
    have:(bj (aG g k) m).bd=i:=by rw[hp]; simp[fD]
    omega
  · rw[kY h]; unfold ic; decide
def sQ (H:View) (u:V) (P:List bk):Prop:=u=gD P∨aX H u 4 (P.map bM)
theorem sQ.zd {H:View} {u:V} {P:List bk} (h:sQ H u P):di H u (gD P):=by
  rcases h with rfl | h
  · exact di.tree (pZ P)
  · exact di.own h fun e he v hv=>by
      obtain ⟨p,_,rfl⟩:=List.mem_map.1 he
      exact Ay p v hv
theorem sQ.keep {H H':View} {u:V} {P:List bk} (h:sQ H u P) (hk:∀ id,owner u=some id→H' id=H id):sQ H' u P:=h.imp id fun h=>h.keep hk
theorem sQ.live {H:View} {u:V} {P:List bk} (h:sQ H u P) {id:Nat} (hid:owner u=some id):H id≠.dead:=by
  rcases h with rfl | h
  · simp[owner] at hid
  · rw[(h.live hid).1]; simp
theorem HO {N:List bk} {i m:Nat} {p:bk} (hp:0≤p.bd) (h:bt N m):bt (N.set i p) m:=by
  have hm:=C2 h
  unfold bt at h ⊢
  rw[xJ hm]; split
  · exact hp
  · exact h
def rq:SC :=
  .seq (al [aR 24 .lss 23 22]) <|
  .seq (.cond (.tmp 24) (.skip) (.exit 2)) <|
  .seq (.block 3 (.seq (al [ae 25 23,aP 26 3 21 23,aU 27 3 26,((some 7),.op (.alloc [(.val (.int .i64 0)),(.emp 1),(.val (.int .i64 0))])),ae 6 25,(none,.op (.store 3 (.tmp 7) (.tmp 27)))]) <|
  .seq (.seq (al [ae 28 5,au 29 0 7,ao 30 29,aP 31 4 28 30,au 32 0 31,ao 33 32,az 34 .geq 33 0]) <|
  .cond (.tmp 34) (.exit 3) (.skip)) <|
  .seq (al [au 36 1 7,ao 37 36,ae 38 3,aN 39 232 [37,38],ae 35 39,bY 40 0 35,bY 41 1 35,((some 8),.op (.alloc [(.val (.int .i64 0)),(.val (.int .i64 0)),(.val (.int .i64 0)),(.val (.int .i64 0))])),(none,.op (.store 4 (.tmp 8) (.tmp 40))),ae 9 41]) <|
  .seq (al [ae 42 9]) <|
  .cond (.tmp 42) (.seq (al [ae 43 5,au 44 0 7,ao 45 44,ae 46 6,au 47 1 8,ao 48 47,az 49 .add 48 1,au 50 2 8,ao 51 50,az 52 .add 51 1,((some 53),.op (.mm false (.val (.val (.int .i64 1048576))) (.tmp 52))),au 54 3 8,ao 55 54,((some 56),.op (.build [(.val (.int .i64 0)),(.val (.int .i64 0)),(.val (.int .i64 0)),(.val (.int .i64 0))] [(0,1,(.tmp 46)),(1,1,(.tmp 49)),(2,1,(.tmp 53)),(3,1,(.tmp 55))])),aP 57 4 43 45,(none,.op (.store 4 (.tmp 57) (.tmp 56)))]) <|
  al [aV 4 false]) (.skip))) <|
  al [az 58 .add 23 1,ae 23 58]
def lY:SC :=
  .seq (.seq (al [ae 16 4,bZ 17 16]) <|
  .cond (.tmp 17) (.skip) (.exit 0)) <|
  .block 1 (.seq (al [aV 4 true]) <|
  .seq (al [ae 18 3,aN 19 249 [18],ae 5 19]) <|
  .seq (.seq (al [au 20 2 1,ao 21 20,aL 22 21,aH 23 0]) <|
  .block 2 (.loop rq)) <|
  al [ae 59 5,ae 3 59])
def vt:SF:=⟨.seq (al [cM 1 0,((some 2),.op (.bc (.val (.emp 1))))]) <|
  .seq (al [((some 10),.op (.build [(.val (.int .i64 0)),(.val (.int .i64 0)),(.val (.int .i64 0)),(.val (.int .i64 0))] [(0,1,(.val (.val (.int .i64 (-1)))))])),((some 11),.op (.bJ 1 4 [(.val (.int .i64 0)),(.val (.int .i64 0)),(.val (.int .i64 0)),(.val (.int .i64 0))] [(0,(.tmp 10))])),au 12 1 1,ao 13 12,aL 14 13,aN 15 248 [11,14],ae 3 15]) <|
  .seq (.seq (al [aV 4 false]) <|
  .block 0 (.loop lY)) <|
  .seq (al [ae 60 3,ae 2 60]) <|
  .ret,
  [.tmp 2],61⟩
theorem zi:aW Tryz.prog 231 [1]=some vt:=by kernel_rfl
def Pv (g:an) (H0:View) (P:List bk) (d i:Nat) (T:Env) (H:View):Prop :=
  ∃ (N:List bk) (u:V),N.length=g.av.length∧kM P i N (g.rules.drop i)=we g.rules P∧(∀ m,bt P m→bt N m)∧sQ H u P∧owner u≠some d∧H d=.arr 4 (N.map bM) ∧
    (∀ id,H0 id≠.dead→H id=H0 id∧id≠d)∧((T 4=gb true∧N=P)∨(T 4=gb false∧∃ m,¬ bt P m∧bt N m)) ∧
    T 1=.aS (ar g) 0∧T 3=u∧T 5=.sl d 0 g.av.length 4∧T 21=.aY (g.rules.map aO)∧T 22=gi g.rules.length∧T 23=gi i
set_option maxHeartbeats 4000000 in
theorem KT (g:an) (hg:g.Ok) (hf:g.iw) (H:View):aA Tryz.prog 231 [.agg (ar g)] H fun r H'=>aX H' r 4 ((aw g).map bM)∧dw H H' r:=by
  refine aA.of mixed zi ?_
  have z1:=hf.p8
  have z2:=hf.av
  have z3:=hf.rules
  simp (disch:=omega) only [↓wr,↓reduceIte,wq,ai,ak,aa,af,ag,Nat.reduceEqDiff,Nat.reduceAdd,Nat.reduceLT,Nat.reduceLeDiff,Int.reduceNeg,vt,ar,encS]
  intro n1 hn1
  try simp (disch:=omega) only [↓wr,↓reduceIte,wq,ai,ah,ak,aa,af,ag,aj,isNil,Nat.reduceEqDiff,Nat.reduceAdd,Nat.reduceLT,Nat.reduceLeDiff,Int.reduceNeg,Int.reduceToNat,reduceCtorEq]
  refine aF.rE (Iy z1 z2) (by kernel_rfl) ⟨di.sl (off:=0) (len:=1) (esz:=4) (z:=4) (es:=[bM ic]) (by simp[View.set,bM,ic]) (by simp) (fun e he v hv=>by simp at he; subst he; exact Ay _ v hv),di.tree (.val _),trivial⟩ ?_
  simp (disch:=omega) only [↓wr,↓reduceIte,wq,Int.reduceNeg]
  refine bb.intro (fun k T H'=>∃ (j:Nat) (u:V),j≤g.av.length∧j≤cr (qU (aG g j))∧sQ H' u (aG g j)∧dw H H' u∧T 1=.aS (ar g) 0∧T 3=u ∧
      ((T 4=gb false∧j+k=g.av.length+1)∨(T 4=gb true∧aG g j=aw g∧aX H' u 4 ((aw g).map bM)))) (g.av.length+1) ?_ ?_
  · refine ⟨0,_,by omega,by omega,.inl rfl,fun id hid=>⟨?_,by simp[owner]⟩,rfl,rfl,.inl ⟨rfl,by omega⟩⟩
    have e:id≠n1:=by rintro rfl; exact hid hn1
    simp[View.set,e]
  clear hn1
  rintro k T H1 ⟨j,u,hj,hjt,hu,hfr,t1,t3,h4⟩
  rcases h4 with ⟨t4,hjk⟩ | ⟨t4,hst,how⟩
  · have hlen:=fi g j
    simp (disch:=omega) only [↓wr,↓reduceIte,wq,Nat.reduceEqDiff,reduceCtorEq,lY,t3,t4,ar,encS]
    refine aF.iy ((GD (aG g j) (by omega) (by omega) u H1 hu).mono ?_)
    rintro v H2 ⟨hv,hfv⟩
    obtain ⟨d,rfl,hd⟩:=hv.sl (by simp; omega)
    simp only[List.length_map,hlen]
    simp (disch:=omega) only [↓wr,↓reduceIte,wq,ak,Nat.reduceEqDiff,Nat.reduceAdd,Nat.reduceLT,t1,ar,encS]
    refine bb.up g.rules.length (Pv g H (aG g j) d) ?_ ?_
    · refine ⟨aG g j,u,hlen,rfl,fun _ h=>h,hu.keep fun id hid=>(hfv id (hu.live hid)).1,fun e=>?_,hd,fun id hid=>?_,.inl ⟨rfl,rfl⟩,t1,t3,rfl,rfl,rfl,rfl⟩
      · exact (hfv d (hu.live e)).2 rfl
      · have h1:=hfr id hid
        have h2:=hfv id (by rw[h1.1]; exact hid)
        exact ⟨by rw[h2.1,h1.1],fun e=>h2.2 (by rw[e]; rfl)⟩
    clear t1 t3 t4 hu hfr hfv hd hv
    rintro i q T H3 hq ⟨N,u,hN,hfold,hle,hu,hud,hd,hfr,h4,t1,t3,t5,t21,t22,t23⟩
    simp (disch:=omega) only [↓wr,↓reduceIte,wq,ah,Nat.reduceEqDiff,reduceCtorEq,rq,t22,t23]
    refine aq.dec (fun hc=>?_) (fun hc=>?_)
    · have hg2:g.rules[i]?=some (g.rules[i]'(by omega)):=List.getElem?_eq_getElem (by omega)
      have hmem:g.rules[i]'(by omega)∈g.rules:=List.getElem_mem _
      rw[dA (show i < g.rules.length by omega)] at hfold
      generalize g.rules[i]'(by omega)=r at hg2 hmem hfold
      have hl:=hf.left r hmem
      have hrw:=hg.bd r hmem
      have hlt:r.left.toNat < N.length:=by omega
      have hgN:(N.map bM).getD r.left.toNat []=bM (bj N r.left.toNat):=by simp[bj,List.getD_eq_getElem?_getD,hlt]
      have hP:=fun m=>De (g:=g) z3 (show j≤16 by omega) m
      simp (disch:=omega) only [↓wr,↓reduceIte,wq,aa,Nat.reduceEqDiff,Nat.reduceAdd,Nat.reduceLT,Nat.reduceLeDiff,t5,t21,t23,List.getElem?_map,hg2,aO,encI]
      intro n hn
      have hnd:d≠n:=by rintro rfl; rw[hd] at hn; simp at hn
      have hu':∀ o,sQ (H3.set n o) u (aG g j):=fun o=>hu.keep fun id hid=>by
        have:id≠n:=by rintro rfl; exact hu.live hid hn
        simp[View.set,this]
      have hfr':∀ o,∀ id,H id≠.dead→(H3.set n o) id=H id∧id≠d:=fun o id hid=>by
        have h1:=hfr id hid
        have:id≠n:=by rintro rfl; rw[h1.1] at hn; exact hid hn
        exact ⟨by simp[View.set,this,h1.1],h1.2⟩
      try simp (disch:=omega) only [↓wr,↓reduceIte,wq,ah,hd,hnd]
      refine ⟨by omega,by omega,?_⟩
      try simp (disch:=omega) only [↓wr,↓reduceIte,wq,Nat.reduceAdd,Nat.reduceLT,hgN,bM]
      have hsum:=rm (aG g j) r.right bz
      refine aq.dec (fun hk=>?_) (fun hk=>?_)
      · simp (disch:=omega) only [↓wr,↓reduceIte,wq,ah,Nat.reduceEqDiff,Nat.reduceAdd,reduceCtorEq,t1,t3,t5,t23]
        have hst:og (aG g j) i N r=N:=by unfold og; rw[if_pos hk]
        rw[kM,hst] at hfold
        rw[set_set]
        exact aK hq (by omega) ⟨N,u,hN,hfold,hle,hu' _,hud,by simp[View.set,hnd,hd],hfr' _,h4,t1,t3,t5,t21,t22,rfl⟩
      · simp (disch:=omega) only [↓wr,↓reduceIte,wq,Nat.reduceEqDiff,Nat.reduceAdd,Nat.reduceLT,t3]
        refine aF.rE (HG (aG g j) hP r.right hrw.2.2.1 fun x hx=>⟨hrw.2.2.2 x hx,fun hn=>by rw[hlen]; exact hf.neg hmem hx hn⟩) (by kernel_rfl) ⟨di.tree (bQ r.right),by rw[set_set]; exact (hu' _).zd,trivial⟩ ?_
        have hs1:=qK (fun m=>ie g j m) r.right bz nQ
        have hs2:(0:Int)≤(bK (aG g j) r.right bz).1.bE:=hsum
        have hs3:kp (aG g j) r.right→(bK (aG g j) r.right bz).1.bE≤16:=fun ha=>(gH (aG g j) 16 r.right bz ha).2 ⟨by simp[bz],fun x hx hn=>by have:=(fj g j _ (ha x hx hn)).2.1; omega⟩
        have hs4:=lr (aG g j) r.right bz
        generalize hsp:bK (aG g j) r.right bz=sp at hs1 hs2 hs3 hs4
        unfold dL at hs1
        simp (disch:=omega) only [↓wr,↓reduceIte,wq,aa,Nat.reduceEqDiff,Nat.reduceAdd,Nat.reduceLT,Nat.reduceLeDiff,bM]
        intro q2 hq2
        have hqn:=(cg hq2 ca).1
        have hq3:=(cg (cg hq2 ca).2 ca).2
        have hqd:d≠q2:=by rintro rfl; rw[hd] at hq3; simp at hq3
        try simp (disch:=omega) only [↓wr,↓reduceIte,wq,ai,ah,ak,aa,af,ag,aj,isNil,Nat.reduceEqDiff,Nat.reduceAdd,Nat.reduceLT,Nat.reduceLeDiff,Int.reduceNeg,Int.reduceToNat,reduceCtorEq,t1,t3,t5,t21,t22,t23,hd,hnd,hnd.symm,hqn,hqn.symm,hqd,hqd.symm,bM]
        refine aq.split (fun hb=>?_) (fun hb=>?_)
        · have hs5:=hs3 (hs4.1 hb)
          simp (disch:=omega) only [↓wr,↓reduceIte,wq,ah,aa,af,Nat.reduceEqDiff,Nat.reduceAdd,Nat.reduceLT,Nat.reduceLeDiff,reduceCtorEq,t1,t3,t5,t23,hd,hnd,hqn.symm,hqd]
          refine ⟨by omega,by omega,?_⟩
          have hst:og (aG g j) i N r=N.set r.left.toNat (fD (aG g j) i r):=by unfold og; rw[if_neg hk,hsp,if_pos hb]
          rw[kM,hst] at hfold
          have hpl:(fD (aG g j) i r)=⟨i,sp.1.bE+1,min 1048576 (sp.1.rules+1),sp.1.ax⟩:=by rw[fD,hsp]
          have hpr:0≤(fD (aG g j) i r).bd:=by rw[hpl]; simp only; omega
          have hnew:¬ bt N r.left.toNat:=hk
          refine aK hq (by omega) ⟨_,u,by simp[hN],hfold,fun m hm=>HO hpr (hle m hm),?_,hud,?_,?_,.inr ⟨rfl,r.left.toNat,fun hkn=>hnew (hle _ hkn),?_⟩,t1,t3,t5,t21,t22,rfl⟩
          · refine hu.keep fun id hid=>?_
            have e1:id≠n:=by rintro rfl; exact hu.live hid hn
            have e2:id≠q2:=by rintro rfl; exact hu.live hid hq3
            have e3:id≠d:=by rintro rfl; exact hud hid
            simp[View.set,e1,e2,e3]
          · simp only[View.set,if_true]
            rw[List.map_set,hpl,hgN]; simp only[bM,List.drop_succ_cons,List.drop_nil,Ev]
          · intro id hid
            have h1:=hfr id hid
            have e1:id≠n:=by rintro rfl; rw[h1.1] at hn; exact hid hn
            have e2:id≠q2:=by rintro rfl; rw[h1.1] at hq3; exact hid hq3
            exact ⟨by simp[View.set,e1,e2,h1.2,h1.1],h1.2⟩
          · unfold bt; rw[xJ hlt,if_pos rfl]; exact hpr
        · simp (disch:=omega) only [↓wr,↓reduceIte,wq,ah,Nat.reduceEqDiff,Nat.reduceAdd,reduceCtorEq,t1,t3,t5,t23]
          have hst:og (aG g j) i N r=N:=by unfold og; rw[if_neg hk,hsp,if_neg (by rw[hb]; simp)]
          rw[kM,hst] at hfold
          refine aK hq (by omega) ⟨N,u,hN,hfold,hle,?_,hud,by simp[View.set,hnd,hqd,hd],?_,h4,t1,t3,t5,t21,t22,rfl⟩
          · refine hu.keep fun id hid=>?_
            have e1:id≠n:=by rintro rfl; exact hu.live hid hn
            have e2:id≠q2:=by rintro rfl; exact hu.live hid hq3
            simp[View.set,e1,e2]
          · intro id hid
            have h1:=hfr id hid
            have e1:id≠n:=by rintro rfl; rw[h1.1] at hn; exact hid hn
            have e2:id≠q2:=by rintro rfl; rw[h1.1] at hq3; exact hid hq3
            exact ⟨by simp[View.set,e1,e2,h1.1],h1.2⟩
    · simp (disch:=omega) only [↓wr,↓reduceIte,wq,Nat.reduceEqDiff,reduceCtorEq,t1,t3,t5]
      rw[List.drop_eq_nil_of_le (by omega),kM,← l8] at hfold
      have how:aX H3 (.sl d 0 g.av.length 4) 4 (N.map bM):=.inr ⟨d,by simp[hN],hd⟩
      have hfd:dw H H3 (.sl d 0 g.av.length 4):=fun id hid=>⟨(hfr id hid).1,fun e=>(hfr id hid).2 (by simp[owner] at e; exact e.symm)⟩
      rw[hfold] at how
      rcases h4 with ⟨h4,he⟩ | ⟨h4,m,hm1,hm2⟩
      · have hstay:aG g (j+1)=aG g j:=by rw[← hfold,he]
        have hpl:=Lo hj hstay
        rw[hstay] at how
        exact ⟨0,by omega,j,_,hj,hjt,.inr how,hfd,rfl,rfl,.inr ⟨h4,hpl,by rw[← hpl]; exact how⟩⟩
      · rw[hfold] at hm2
        rcases FU hjt with e | e
        · rw[e] at hm2; exact absurd hm2 hm1
        · have:=EN g (j+1)
          exact ⟨k - 1,by omega,j+1,_,by omega,e,.inr how,hfd,rfl,rfl,.inl ⟨h4,by omega⟩⟩
  · simp (disch:=omega) only [↓wr,↓reduceIte,wq,Nat.reduceEqDiff,reduceCtorEq,lY,t3,t4]
    exact ⟨how,hfr⟩
theorem Ip {h:aE} {u:V} {P:List bk} (ho:aX h.view u 4 (P.map bM)):c7 h u (gD P):=by
  refine c7.own ho rfl (fun i _=>rfl) (fun i j hi hj=>?_)
  simp only[List.length_map] at hi
  have e:(P.map bM).getD i []=bM P[i]:=by simp[List.getD_eq_getElem?_getD,hi]
  rw[e] at hj ⊢
  match j,hj with
  | 0,_=>exact .val _
  | 1,_=>exact .val _
  | 2,_=>exact .val _
  | 3,_=>exact .val _
  | n+4,h=>exact absurd h (by simp[bM])
theorem KI (g:an) (hg:g.Ok) (hf:g.iw):cd Tryz.prog 231 [.agg (ar g)] (gD (aw g)) :=
  cd.of (eA g) ((KT g hg hf _).mono fun r H' h h' hh=>Ip (by rw[hh]; exact h.1))
def Mc (s:Int × Int):Prop:=(0≤s.1∧s.1≤1000)∧(0≤s.2∧s.2≤1000)
def xG (g:an):List (Int × Int):=(aw g).map vQ
theorem xE:vQ ic=(0,0):=by decide
theorem K4 (g:an) (m:Nat):qT (xG g) m=vQ (bj (aw g) m):=by
  simp only[xG,qT,bj,List.getD_eq_getElem?_getD,List.getElem?_map]
  cases (aw g)[m]? <;> rfl
theorem OI (g:an) (m:Nat):Mc (vQ (bj (aw g) m)):=by
  have h:dL (bj (aw g) m):=ie g _ m
  unfold dL at h
  unfold Mc vQ; simp only; omega
def iB (g:an) (j i:Nat) (S:List (Int × Int)):Prop:=S.length=g.av.length∧∀ m,qT S m=if (bj (aw g) m).bE≤j∨((bj (aw g) m).bE=j+1∧m < i) then vQ (bj (aw g) m) else (0,0)
theorem iB.ok {g:an} {j i:Nat} {S:List (Int × Int)} (h:iB g j i S) (m:Nat):Mc (qT S m):=by
  rw[h.2 m]; split
  · exact OI g m
  · unfold Mc; simp
theorem Ml {S:List (Int × Int)} {i m:Nat} {v:Int × Int} (hm:m < S.length):qT (S.set i v) m=if i=m then v else qT S m:=by
  simp only[qT,List.getD_eq_getElem?_getD,List.getElem?_set]
  split
  · rename_i e; subst e; simp[hm]
  · rfl
theorem iB.next {g:an} {j i:Nat} {S:List (Int × Int)} (h:iB g j i S) (hi:(bj (aw g) i).bE≠(j:Int)+1):iB g j (i+1) S:=⟨h.1,fun m=>by
  rw[h.2 m]
  by_cases e:m=i
  · subst e
    by_cases h1:(bj (aw g) m).bE≤j
    · rw[if_pos (.inl h1),if_pos (.inl h1)]
    · rw[if_neg (by omega),if_neg (by omega)]
  · congr 1
    simp only[eq_iff_iff]
    constructor <;> rintro (h1 | h1) <;> first | exact .inl h1 | exact .inr ⟨h1.1,by omega⟩⟩
theorem iB.put {g:an} {j i:Nat} {S:List (Int × Int)} (h:iB g j i S) (hi:(bj (aw g) i).bE=(j:Int)+1) (hn:i < g.av.length):iB g j (i+1) (S.set i (vQ (bj (aw g) i))):=⟨by simp[h.1],fun m=>by
  by_cases hm:m < S.length
  · rw[Ml hm]
    by_cases e:i=m
    · subst e; rw[if_pos rfl,if_pos (.inr ⟨hi,by omega⟩)]
    · rw[if_neg e,h.2 m]
      congr 1
      simp only[eq_iff_iff]
      constructor <;> rintro (h1 | h1) <;> first | exact .inl h1 | exact .inr ⟨h1.1,by omega⟩
  · have:bj (aw g) m=ic:=tI (by rw[lq,← h.1]; omega)
    have e:qT (S.set i (vQ (bj (aw g) i))) m=(0,0):=by
      simp only[qT,List.getD_eq_getElem?_getD]; rw[List.getElem?_eq_none (by simp; omega)]; rfl
    rw[e,this]
    split <;> simp[xE]⟩
theorem iB.Ow {g:an} {j:Nat} {S:List (Int × Int)} (h:iB g j g.av.length S):iB g (j+1) 0 S:=⟨h.1,fun m=>by
  rw[h.2 m]
  by_cases hm:m < g.av.length
  · congr 1
    simp only[eq_iff_iff]
    push_cast
    constructor
    · rintro (h1 | h1) <;> left <;> omega
    · rintro (h1 | h1)
      · omega
      · omega
  · have:bj (aw g) m=ic:=tI (by rw[lq]; omega)
    rw[this]; split <;> split <;> simp[xE]⟩
theorem iB.start (g:an):iB g 0 0 (List.replicate g.av.length (0,0)):=⟨by simp,fun m=>by
  have e:qT (List.replicate g.av.length (0,0)) m=(0,0):=by
    simp only[qT,List.getD_eq_getElem?_getD,List.getElem?_replicate]
    split <;> rfl
  rw[e]
  split
  · rename_i h
    by_cases hk:bt (aw g) m
    · have:=(iP hk).1; omega
    · rw[EE hk]; simp[xE]
  · rfl⟩
theorem iB.done {g:an} {S:List (Int × Int)} (h:iB g g.av.length 0 S):S=xG g:=by
  apply List.ext_getElem (by simp[h.1,xG,lq])
  intro m h1 h2
  have e:S[m]=qT S m:=by simp[qT,List.getD_eq_getElem?_getD,h1]
  have e2:(xG g)[m]=qT (xG g) m:=by simp[qT,List.getD_eq_getElem?_getD,h2]
  rw[e,e2,h.2 m,K4]
  by_cases hk:bt (aw g) m
  · rw[if_pos (.inl (iP hk).2)]
  · rw[EE hk]; split <;> simp[xE]
theorem Jb (g:an) (f:Nat) (l:List Int) (i:Nat):(c8 g (aw g) f (l.take i)).length≤(c8 g (aw g) f l).length:=by
  have:=ik g (aw g) f (l.take i) (l.drop i)
  rw[List.take_append_drop] at this
  rw[this]; simp
theorem HH (g:an) (f:Nat) (l:List Int) (i:Nat):(dy g (aw g) f (l.take i)).length≤(dy g (aw g) f l).length:=by
  have:=ib g (aw g) f (l.take i) (l.drop i)
  rw[List.take_append_drop] at this
  rw[this]; simp
def kX (x:List Int × Int):V:=.bo [encI x.1,gi x.2]
theorem fv {h:aE} {u:V} {x:List Int × Int} (hu:c7 h u (encI x.1)):c7 h (.bo [u,gi x.2]) (kX x):=yI hu (.val _)
theorem EC {g:an} {l:List Int} (h:kp (aw g) l):zH (aw g) g.av.length l:=fun x hx hn=>⟨h x hx hn,(iP (h x hx hn)).2⟩
theorem KA {g:an} {n:Int} (h0:0≤n) (hk:bt (aw g) n.toNat):((c8 g (aw g) g.av.length [-1 - n]).length:Int)=(c8 g (aw g) g.av.length [-1 - n]).length∧kp (aw g) [-1 - n]:=by
  refine ⟨rfl,fun x hx hn=>?_⟩
  simp at hx; subst hx
  rw[show bS (-1 - n)=n.toNat by unfold bS; omega]; exact hk
theorem B2 {g:an} {l:List Int} (h:kp (aw g) l) (hs:(bK (aw g) l bz).1.rules≤300):((c8 g (aw g) g.av.length l).length:Int)=(bK (aw g) l bz).1.rules:=by
  have:=(wE g g.av.length l bz (EC h) nQ).1
  simp only[bz] at this hs ⊢
  omega
theorem A0 {g:an} {n:Int} (h0:0≤n) (hk:bt (aw g) n.toNat):(bK (aw g) [-1 - n] bz).1.rules=(bj (aw g) n.toNat).rules∧(bK (aw g) [-1 - n] bz).1.ax=(bj (aw g) n.toNat).ax:=by
  have hp:dL (bj (aw g) n.toNat):=ie g _ _
  have e:bS (-1 - n)=n.toNat:=by unfold bS; omega
  unfold bt at hk
  rw[yD (by omega) (by rw[e]; omega),e]
  unfold dL at hp
  simp only[bK,bz]; omega
def wK (P:List bk) (l:List Int):Bool:=l.any fun x=>decide (x < 0) && decide ((bj P (bS x)).bd < 0)
theorem Gy (P:List bk) (l:List Int) (s:bk):(bK P l s).2 = !wK P l:=by
  have h:=lr P l s
  cases hb:wK P l with
  | true =>
    simp only[wK,List.any_eq_true,Bool.and_eq_true,decide_eq_true_eq] at hb
    obtain ⟨x,hx,hn,hk⟩:=hb
    cases hs:(bK P l s).2 with
    | true=>have:=h.1 hs x hx hn; unfold bt at this; omega
    | false=>rfl
  | false =>
    rw[Bool.not_false,h]
    intro x hx hn
    simp only[wK,List.any_eq_false,Bool.and_eq_true,decide_eq_true_eq] at hb
    have:=hb x hx
    unfold bt; omega
theorem In.app {p:List Int} {T:Nat→Nat→Nat→Prop} {a:List Int} {i k:Nat} (h:In p T a i k):∀ {b:List Int} {j:Nat},In p T b k j→In p T (a ++ b) i j:=by
  induction h with
  | nil=>exact fun h=>h
  | term s l i _ h0 hf _ ih=>exact fun hb=>.term s _ i _ h0 hf (ih hb)
  | bU s l i k _ h0 h1 _ ih=>exact fun hb=>.bU s _ i k _ h0 h1 (ih hb)
theorem In.split {p:List Int} {T:Nat→Nat→Nat→Prop} : ∀ {a b:List Int} {i j:Nat},In p T (a ++ b) i j→∃ k,In p T a i k∧In p T b k j
  | [],b,i,j,h=>⟨i,.nil i,h⟩
  | s :: a,b,i,j,h=>by
    cases h with
    | term _ _ _ _ h0 hf h =>
      obtain ⟨k,h1,h2⟩:=In.split h
      exact ⟨k,.term s a i k h0 hf h1,h2⟩
    | bU _ _ _ m _ h0 h1 h =>
      obtain ⟨k,h2,h3⟩:=In.split h
      exact ⟨k,.bU s a i m k h0 h1 h2,h3⟩
theorem In.le {p:List Int} {T:Nat→Nat→Nat→Prop} (hT:∀ n i j,T n i j→i≤j) {l:List Int} {i j:Nat} (h:In p T l i j):i≤j:=by
  induction h with
  | nil=>exact Nat.le_refl _
  | term _ _ _ _ _ _ _ ih=>omega
  | bU _ _ _ _ _ _ h1 _ ih=>have:=hT _ _ _ h1; omega
def stepT (p:List Int) (T:Nat→Nat→Nat→Prop) (s:Int) (i j:Nat):Prop:=if 0≤s then oZ p i s∧j=i+1 else T (-1 - s).toNat i j
theorem In.one {p:List Int} {T:Nat→Nat→Nat→Prop} {s:Int} {i j:Nat} : In p T [s] i j↔stepT p T s i j:=by
  unfold stepT
  constructor
  · intro h
    cases h with
    | term _ _ _ _ h0 hf h=>cases h; rw[if_pos h0]; exact ⟨hf,rfl⟩
    | bU _ _ _ _ _ h0 h1 h=>cases h; rw[if_neg (by omega)]; exact h1
  · intro h
    by_cases h0:0≤s
    · rw[if_pos h0] at h
      obtain ⟨hf,rfl⟩:=h
      exact .term s [] i _ h0 hf (.nil _)
    · rw[if_neg h0] at h
      exact .bU s [] i j j (by omega) h (.nil _)
theorem In.snoc {p:List Int} {T:Nat→Nat→Nat→Prop} {a:List Int} {s:Int} {i j:Nat} : In p T (a ++ [s]) i j↔∃ k,In p T a i k∧stepT p T s k j :=
  ⟨fun h=>by obtain ⟨k,h1,h2⟩:=h.split; exact ⟨k,h1,In.one.1 h2⟩,fun ⟨k,h1,h2⟩=>h1.app (In.one.2 h2)⟩
abbrev Tb:=List (List (List Bool))
def fa (T:Tb) (n i j:Nat):Bool:=((T.getD n []).getD i []).getD j false
def hD (T:Tb) (N M:Nat):Prop:=T.length=N∧∀ r∈T,r.length=M∧∀ c∈r,c.length=M
theorem hD.row {T:Tb} {N M n:Nat} (h:hD T N M) (hn:n < N):∃ r,T[n]?=some r∧r.length=M∧T.getD n []=r:=by
  have:n < T.length:=by rw[h.1]; exact hn
  exact ⟨T[n],List.getElem?_eq_getElem this,(h.2 _ (List.getElem_mem _)).1,by simp[List.getD_eq_getElem?_getD,this]⟩
theorem hD.cell {T:Tb} {N M n i:Nat} (h:hD T N M) (hn:n < N) (hi:i < M):∃ r c,T[n]?=some r∧r[i]?=some c∧c.length=M∧(T.getD n []).getD i []=c:=by
  obtain ⟨r,hr,hl,hg⟩:=h.row hn
  have h1:i < r.length:=by omega
  refine ⟨r,r[i],hr,List.getElem?_eq_getElem h1,(h.2 r (List.mem_of_getElem? hr)).2 _ (List.getElem_mem _),?_⟩
  rw[hg]; simp[List.getD_eq_getElem?_getD,h1]
def mA (T:Tb) (n i j:Nat):Tb:=T.set n ((T.getD n []).set i (((T.getD n []).getD i []).set j true))
def w7 (N M:Nat):Tb:=List.replicate N (List.replicate M (List.replicate M false))
theorem Fl (N M:Nat):hD (w7 N M) N M:=by
  refine ⟨by simp[w7],fun r hr=>?_⟩
  simp only[w7,List.mem_replicate] at hr
  obtain ⟨_,rfl⟩:=hr
  refine ⟨by simp,fun c hc=>?_⟩
  simp only[List.mem_replicate] at hc
  obtain ⟨_,rfl⟩:=hc
  simp
theorem NR (N M n i j:Nat):fa (w7 N M) n i j=false:=by
  simp only[fa,w7,List.getD_eq_getElem?_getD,List.getElem?_replicate]
  split
  · simp only[Option.getD_some,List.getElem?_replicate]
    split
    · simp only[Option.getD_some,List.getElem?_replicate]
      split <;> rfl
    · rfl
  · rfl
theorem KS {T:Tb} {N M n i j:Nat} (h:hD T N M) (hn:n < N) (hi:i < M):hD (mA T n i j) N M:=by
  obtain ⟨r,c,hr,hc,hcl,hg⟩:=h.cell hn hi
  obtain ⟨r',hr',hrl,hg'⟩:=h.row hn
  rw[hr] at hr'; simp at hr'; subst hr'
  refine ⟨by simp[mA,h.1],fun x hx=>?_⟩
  rw[mA,hg',] at hx
  rcases List.mem_or_eq_of_mem_set hx with hx | rfl
  · exact h.2 x hx
  · refine ⟨by simp[hrl],fun y hy=>?_⟩
    rcases List.mem_or_eq_of_mem_set hy with hy | rfl
    · exact (h.2 r (List.mem_of_getElem? hr)).2 y hy
    · rw[hg'] at hg
      rw[hg]; simp[hcl]
theorem KL {T:Tb} {N M n i j n' i' j':Nat} (h:hD T N M) (hn:n < N) (hi:i < M) (hj:j < M):fa (mA T n i j) n' i' j'=if n'=n∧i'=i∧j'=j then true else fa T n' i' j':=by
  obtain ⟨r,c,hr,hc,hcl,hg⟩:=h.cell hn hi
  obtain ⟨r',hr',hrl,hg'⟩:=h.row hn
  rw[hr] at hr'; simp at hr'; subst hr'
  have hT:n < T.length:=by rw[h.1]; exact hn
  have hi':i < r.length:=by omega
  have hj':j < c.length:=by omega
  rw[hg'] at hg
  have hcc:r.getD i []=c:=hg
  simp only[fa,mA,hg',hcc]
  by_cases e1:n'=n
  · subst e1
    have a1:(T.set n' (r.set i (c.set j true))).getD n' []=r.set i (c.set j true):=by simp[List.getD_eq_getElem?_getD,hT]
    rw[a1,hg']
    by_cases e2:i'=i
    · subst e2
      have a2:(r.set i' (c.set j true)).getD i' []=c.set j true:=by simp[List.getD_eq_getElem?_getD,hi']
      rw[a2,hcc]
      by_cases e3:j'=j
      · subst e3
        rw[if_pos ⟨rfl,rfl,rfl⟩]
        simp[List.getD_eq_getElem?_getD,hj']
      · rw[if_neg (fun e=>e3 e.2.2)]
        simp[List.getD_eq_getElem?_getD,Ne.symm e3]
    · rw[if_neg (fun e=>e2 e.2.1)]
      simp[List.getD_eq_getElem?_getD,Ne.symm e2]
  · rw[if_neg (fun e=>e1 e.1)]
    simp[List.getD_eq_getElem?_getD,Ne.symm e1]
end Gv
