/-
  Part 16 of the proof: what the machine does and what the functions answer.
  Conditions: those that each lemma names.
-/
import Derived.Test.YtomcjampldmjoaaGreatSGzXO
set_option linter.unusedSimpArgs false
set_option linter.unusedVariables false
set_option maxRecDepth 100000
namespace Gv
open Go Go.Proofs
section
variable {P:Program} {T:Env} {H:View} {K:V→View→Prop} {w:ct (T,H,K)} {t t1 e ty:TypeId}
theorem HC {d x:Operand} {id off len sz bytes s:Nat} {z:List V} {es xs:List (List V)} {rd:List Nat} (he:nJ P t=some (sz,bytes,z)) (hd:ev T d=.sl id off len sz) (hx:bF H (ev T x)=some (xs,rd)) (hH:H id=.arr s es) (hl:off+len≤es.length)
    (hc:(xs.all fun e=>e.length == sz && e.all aU)=true) (h0:(xs.take len).isEmpty=false) (hk:K (ak (xs.take len).length) (H.set id (.arr sz (fg es off (xs.take len))))) :
    pS P (.call { callee:=.builtin .copy,args:=#[d,x],argTypes:=#[t,t1] }) ty T H K w:=by
  obtain ⟨e,ti,hse,hi,hti,hz,hzl,hzok,hs0,rfl,rfl⟩:=iX he
  intro n _
  refine ⟨ak (xs.take len).length,.eW id (.arr ti.size (fg es off (xs.take len))),id :: rd,?_,hk⟩
  simp only[sI,bK,oper]
  simp[ve,hse,hd,hx,dh,hti,h0,hH,hl,hs0,hc]
theorem L2 {d x:Operand} {k:Nat} {sz bytes:Nat} {z:List V} {xs:List (List V)} {rd:List Nat} (he:nJ P t=some (sz,bytes,z)) (hd:ev T d=.emp k) (hx:bF H (ev T x)=some (xs,rd)) (hk:K (ak 0) H) :
    pS P (.call { callee:=.builtin .copy,args:=#[d,x],argTypes:=#[t,t1] }) ty T H K w:=by
  obtain ⟨e,ti,hse,hi,hti,hz,hzl,hzok,hs0,rfl,rfl⟩:=iX he
  intro n _
  refine ⟨ak 0,.none,[],?_,hk⟩
  simp only[sI,bK,oper]
  simp[ve,hse,hd,hx,dh,hti]
end
theorem sR:∀ (xs A B:List (List V)),xs.length≤B.length→fg (A ++ B) A.length xs=A ++ xs ++ B.drop xs.length
  | [],A,B,_=>by simp[fg]
  | x :: r,A,[],h=>by simp at h
  | x :: r,A,b :: B,h=>by
    rw[fg,List.set_append_right _ _ (Nat.le_refl _),Nat.sub_self,List.set_cons_zero]
    have:=sR r (A ++ [x]) B (by simpa using h)
    simpa using this
theorem GN {id off k m:Nat} (hm:m≤k):gG 1 (.sl id off k 1) (some (gi m)) none=some (.sl id (off+m) (k - m) 1,.none,[]):=by
  simp[gG,bound,asNat,hm]
def u64 (n:Int):V:=.val (.int .u64 n)
theorem Ov {n:Nat} (h:n≤16):aI Tryz.prog 153 [u64 1,u64 n] (.bf [u64 0,u64 n]):=by
  have key:∀ {n:Nat},qg Tryz.prog y7 (Ed []) 153 [u64 1,u64 n]=some (.bf [u64 0,u64 n])→aI Tryz.prog 153 [u64 1,u64 n] (.bf [u64 0,u64 n]):=fun h =>
    (je mixed pY (vm (l:=[]) (by simp)) (by intro v hv; simp at hv; rcases hv with rfl | rfl <;> exact .val _) h).pure
  have:n=0∨n=1∨n=2∨n=3∨n=4∨n=5∨n=6∨n=7∨n=8∨n=9∨n=10∨n=11∨n=12∨n=13∨n=14∨n=15∨n=16:=by omega
  rcases this with rfl | rfl | rfl | rfl | rfl | rfl | rfl | rfl | rfl | rfl | rfl | rfl | rfl | rfl | rfl | rfl | rfl <;> exact key (by kernel_rfl)
def eD:SC :=
  .seq (.seq (aq [aa 34 8,aa 35 7,aA 36 35,aC 37 .lss 34 36]) <|
  .cond (.tmp 37) (.skip) (.exit 0)) <|
  .block 1 (aq [aa 38 8,aa 39 7,aa 40 8,((some 41),.op (.slice 1 (.tmp 39) (some (.tmp 40)) none)),aa 42 7,aa 43 8,((some 44),.op (.slice 1 (.tmp 42) none (some (.tmp 43)))),((some 45),.op (.old (.call { callee:=.builtin .copy,args:=#[(.tmp 41),(.tmp 44)],argTypes:=#[31,31] }) 3)),aC 46 .add 38 45,aa 8 46])
def g9:SF:=⟨.seq (aq [((some 4),.op (.aX (.val (.emp 1))))]) <|
  .seq (.seq (aq [aa 9 1,au 10 .lss 9 0]) <|
  .cond (.tmp 10) (.region false [⟨none,[((some 11),.op (.old (.makeInterface 9 (.const (.string ⟨#[99,97,110,110,111,116,32,98,101,32,110,101,103,97,116,105,118,101]⟩))) 20)),(none,.op (.old (.panic (.tmp 11)) 0))]⟩]) (.skip)) <|
  .seq (aq [aa 13 0,aA 14 13,((some 15),.op (.conv .u64 (.tmp 14))),aa 16 1,((some 17),.op (.conv .u64 (.tmp 16))),aJ 18 153 [15,17],aa 12 18,bu 19 0 12,bu 20 1 12,aa 5 19,aa 6 20]) <|
  .seq (.seq (.region false [⟨none,[aa 21 5,((some 22),.op (.arith .gtr (.tmp 21) (.val (.val (.int .u64 0))))),aa 23 22]⟩,⟨(some (23,false)),[aa 24 6,((some 25),.op (.arith .gtr (.tmp 24) (.val (.val (.int .u64 9223372036854775807)))))]⟩,⟨none,[aS 26 23 25]⟩]) <|
  .cond (.tmp 26) (.region false [⟨none,[((some 27),.op (.old (.makeInterface 9 (.const (.string ⟨#[116,104,101,32,114,101,115,117,108,116,32,111,102,32,40,108,101,110,40,120,41,32,42,32,99,111,117,110,116,41,32,111,118,101,114,102,108,111,119,115]⟩))) 20)),(none,.op (.old (.panic (.tmp 27)) 0))]⟩]) (.skip)) <|
  .seq (aq [aa 28 6,((some 29),.op (.conv .i64 (.tmp 28))),((some 30),.op (.make 1 8 [(.val (.int .i64 0))] (.tmp 29) (.tmp 29))),aa 7 30]) <|
  .seq (aq [aa 31 7,aa 32 0,((some 33),.op (.old (.call { callee:=.builtin .copy,args:=#[(.tmp 31),(.tmp 32)],argTypes:=#[31,31] }) 3)),aa 8 33]) <|
  .seq (.block 0 (.loop eD)) <|
  .seq (aq [aa 47 7,aa 4 47]) <|
  .ret,
  [.tmp 4],48⟩
theorem mg:ba Tryz.prog 93 []=some g9:=by kernel_rfl
set_option maxHeartbeats 4000000 in
theorem IE (n:Nat) (hn:n≤16) (m:Nat) (H:View) (hm:H m=.arr 1 [[gi (-1)]]):aG Tryz.prog 93 [.sl m 0 1 1,gi n] H fun r H'=>bj H' r 1 (bb (List.replicate n (-1)))∧er H H' r:=by
  refine aG.of mixed mg ?_
  have hmul:=Ov hn
  unfold u64 at hmul
  have hw1:IntKind.u64.wrap 1=1:=by decide
  have hw2:IntKind.u64.wrap (n:Int)=n:=by
    have:n=0∨n=1∨n=2∨n=3∨n=4∨n=5∨n=6∨n=7∨n=8∨n=9∨n=10∨n=11∨n=12∨n=13∨n=14∨n=15∨n=16:=by omega
    rcases this with rfl | rfl | rfl | rfl | rfl | rfl | rfl | rfl | rfl | rfl | rfl | rfl | rfl | rfl | rfl | rfl | rfl <;> decide
  have hw3:IntKind.i64.wrap (n:Int)=n:=by
    have:n=0∨n=1∨n=2∨n=3∨n=4∨n=5∨n=6∨n=7∨n=8∨n=9∨n=10∨n=11∨n=12∨n=13∨n=14∨n=15∨n=16:=by omega
    rcases this with rfl | rfl | rfl | rfl | rfl | rfl | rfl | rfl | rfl | rfl | rfl | rfl | rfl | rfl | rfl | rfl | rfl <;> decide
  simp (disch:=omega) only [↓wr,↓reduceIte,wq,ah,ag,ak,ab,ae,af,ai,isNil,Nat.reduceEqDiff,Nat.reduceAdd,Nat.reduceLT,Nat.reduceLeDiff,Int.reduceNeg,Int.reduceToNat,reduceCtorEq,g9]
  refine ar.dec (fun h=>absurd h (by omega)) (fun _=>?_)
  simp (disch:=omega) only [↓wr,↓reduceIte,wq,ah,ag,ak,ab,ae,af,ai,isNil,Nat.reduceEqDiff,Nat.reduceAdd,Nat.reduceLT,Nat.reduceLeDiff,Int.reduceNeg,Int.reduceToNat,reduceCtorEq]
  rw[show ((1:Nat):Int)=1 from rfl,hw1,hw2]
  refine aN.pure hmul (by kernel_rfl) ?_
  simp (disch:=omega) only [↓wr,↓reduceIte,wq,ah,ag,ak,ab,ae,af,ai,isNil,Nat.reduceEqDiff,Nat.reduceAdd,Nat.reduceLT,Nat.reduceLeDiff,Int.reduceNeg,Int.reduceToNat,reduceCtorEq,hw3]
  refine ar.dec (fun h=>absurd h (by omega)) (fun _=>?_)
  simp (disch:=omega) only [↓wr,↓reduceIte,wq,ah,ag,ak,ab,ae,af,ai,isNil,Nat.reduceEqDiff,Nat.reduceAdd,Nat.reduceLT,Nat.reduceLeDiff,Int.reduceNeg,Int.reduceToNat,reduceCtorEq,hw3]
  refine ar.dec (fun h=>absurd h (by omega)) (fun _=>?_)
  simp (disch:=omega) only [↓wr,↓reduceIte,wq,ah,ag,ak,ab,ae,af,ai,isNil,Nat.reduceEqDiff,Nat.reduceAdd,Nat.reduceLT,Nat.reduceLeDiff,Int.reduceNeg,Int.reduceToNat,reduceCtorEq,hw3]
  refine ⟨⟨by omega,by unfold aP; omega,by unfold aP; omega⟩,fun h0=>?_,fun h0 b hb=>?_⟩
  · refine L2 (k:=2) (sz:=1) (bytes:=8) (z:=[gi 0]) (xs:=[[gi (-1)]]) (rd:=[m]) (by kernel_rfl) (by simp (disch:=omega) only [↓wr,↓reduceIte,wq,ah,ag,ak,ab,ae,af,ai,isNil,Nat.reduceEqDiff,Nat.reduceAdd,Nat.reduceLT,Nat.reduceLeDiff,Int.reduceNeg,Int.reduceToNat,reduceCtorEq]) (by simp (disch:=omega) only [↓wr,↓reduceIte,wq,ah,ag,ak,ab,ae,af,ai,isNil,Nat.reduceEqDiff,Nat.reduceAdd,Nat.reduceLT,Nat.reduceLeDiff,Int.reduceNeg,Int.reduceToNat,reduceCtorEq]; simp[bF,hm]) ?_
    simp (disch:=omega) only [↓wr,↓reduceIte,wq,ah,ag,ak,ab,ae,af,ai,isNil,Nat.reduceEqDiff,Nat.reduceAdd,Nat.reduceLT,Nat.reduceLeDiff,Int.reduceNeg,Int.reduceToNat,reduceCtorEq]
    refine bp.intro (fun k T H'=>H'=H∧T 7=.emp 2∧T 8=ak 0) 0 ⟨rfl,rfl,rfl⟩ ?_
    rintro k T _ ⟨rfl,t7,t8⟩
    simp (disch:=omega) only [↓wr,↓reduceIte,wq,ah,ag,ak,ab,ae,af,ai,isNil,Nat.reduceEqDiff,Nat.reduceAdd,Nat.reduceLT,Nat.reduceLeDiff,Int.reduceNeg,Int.reduceToNat,reduceCtorEq,eD,t7,t8]
    refine ar.dec (fun h=>absurd h (by omega)) (fun _=>?_)
    simp (disch:=omega) only [↓wr,↓reduceIte,wq,ah,ag,ak,ab,ae,af,ai,isNil,Nat.reduceEqDiff,Nat.reduceAdd,Nat.reduceLT,Nat.reduceLeDiff,Int.reduceNeg,Int.reduceToNat,reduceCtorEq,t7]
    refine ⟨?_,fun id hid=>⟨rfl,by simp[owner]⟩⟩
    rw[h0]; exact .nil
  have hmb:¬ m=b:=by rintro rfl; rw[hm] at hb; simp at hb
  refine HC (id:=b) (off:=0) (len:=n) (sz:=1) (bytes:=8) (z:=[gi 0]) (s:=1) (es:=List.replicate n [gi 0]) (xs:=[[gi (-1)]]) (rd:=[m]) (by kernel_rfl) (by simp (disch:=omega) only [↓wr,↓reduceIte,wq,ah,ag,ak,ab,ae,af,ai,isNil,Nat.reduceEqDiff,Nat.reduceAdd,Nat.reduceLT,Nat.reduceLeDiff,Int.reduceNeg,Int.reduceToNat,reduceCtorEq]) (by simp (disch:=omega) only [↓wr,↓reduceIte,wq,ah,ag,ak,ab,ae,af,ai,isNil,Nat.reduceEqDiff,Nat.reduceAdd,Nat.reduceLT,Nat.reduceLeDiff,Int.reduceNeg,Int.reduceToNat,reduceCtorEq]; simp[bF,View.set,hmb,hm]) (by simp[View.set]) (by simp) (by simp[aU]) (by obtain ⟨q,rfl⟩:∃ q,n=q+1:=⟨n - 1,by omega⟩; rfl) ?_
  rw[show ([[gi (-1)]]:List (List V)).take n=List.replicate 1 [gi (-1)] by obtain ⟨q,rfl⟩:∃ q,n=q+1:=⟨n - 1,by omega⟩; simp,
    show fg (List.replicate n [gi 0]) 0 (List.replicate 1 [gi (-1)])=List.replicate 1 [gi (-1)] ++ List.replicate (n - 1) [gi 0] by
      have:=sR (List.replicate 1 [gi (-1)]) [] (List.replicate n [gi 0]) (by simp; omega)
      simpa using this,List.length_replicate]
  simp (disch:=omega) only [↓wr,↓reduceIte,wq,ah,ag,ak,ab,ae,af,ai,isNil,Nat.reduceEqDiff,Nat.reduceAdd,Nat.reduceLT,Nat.reduceLeDiff,Int.reduceNeg,Int.reduceToNat,reduceCtorEq]
  rw[set_set]
  refine bp.intro (fun k T H'=>∃ c:Nat,1≤c∧c+k=n∧H' b=.arr 1 (List.replicate c [gi (-1)] ++ List.replicate (n - c) [gi 0])∧(∀ id,H id≠.dead→H' id=H id)∧T 7=.sl b 0 n 1∧T 8=gi c) (n - 1) ⟨1,by omega,by omega,by simp[View.set],fun id hid=>?_,rfl,rfl⟩ ?_
  · have:¬ id=b:=by rintro rfl; exact hid hb
    simp[View.set,this]
  rintro k T H' ⟨c,c1,ck,hH,hkeep,t7,t8⟩
  simp (disch:=omega) only [↓wr,↓reduceIte,wq,ah,ag,ak,ab,ae,af,ai,isNil,Nat.reduceEqDiff,Nat.reduceAdd,Nat.reduceLT,Nat.reduceLeDiff,Int.reduceNeg,Int.reduceToNat,reduceCtorEq,eD,t7,t8]
  refine ar.dec (fun hc=>?_) (fun hc=>?_)
  · simp (disch:=omega) only [↓wr,↓reduceIte,wq,ah,ag,ak,ab,ae,af,ai,isNil,Nat.reduceEqDiff,Nat.reduceAdd,Nat.reduceLT,Nat.reduceLeDiff,Int.reduceNeg,Int.reduceToNat,reduceCtorEq,t7,t8,GN (id:=b) (off:=0) (k:=n) (m:=c) (by omega),sB (id:=b) (off:=0) (k:=n) (m:=c) (by omega)]
    have hel:bF H' (.sl b 0 c 1)=some (List.replicate c [gi (-1)],[b]):=by
      obtain ⟨q,rfl⟩:∃ q,c=q+1:=⟨c - 1,by omega⟩
      simp only[bF,hH]
      rw[if_pos (by simp)]
      simp
    obtain ⟨d,hd⟩:∃ d,d=min (n - c) c:=⟨_,rfl⟩
    refine HC (id:=b) (off:=c) (len:=n - c) (sz:=1) (bytes:=8) (z:=[gi 0]) (s:=1) (es:=List.replicate c [gi (-1)] ++ List.replicate (n - c) [gi 0]) (xs:=List.replicate c [gi (-1)]) (rd:=[b]) (by kernel_rfl) (by simp (disch:=omega) only [↓wr,↓reduceIte,wq,ah,ag,ak,ab,ae,af,ai,isNil,Nat.reduceEqDiff,Nat.reduceAdd,Nat.reduceLT,Nat.reduceLeDiff,Int.reduceNeg,Int.reduceToNat,reduceCtorEq]) (by simp (disch:=omega) only [↓wr,↓reduceIte,wq,ah,ag,ak,ab,ae,af,ai,isNil,Nat.reduceEqDiff,Nat.reduceAdd,Nat.reduceLT,Nat.reduceLeDiff,Int.reduceNeg,Int.reduceToNat,reduceCtorEq]; exact hel) hH (by simp) (by simp[aU]) ?_ ?_
    · rw[List.take_replicate,← hd]
      obtain ⟨q,hq⟩:∃ q,d=q+1:=⟨d - 1,by omega⟩
      rw[hq]; rfl
    have hs:=sR (List.replicate d [gi (-1)]) (List.replicate c [gi (-1)]) (List.replicate (n - c) [gi 0]) (by simp; omega)
    rw[List.length_replicate] at hs
    rw[List.take_replicate,← hd,hs,List.length_replicate]
    simp (disch:=omega) only [↓wr,↓reduceIte,wq,ah,ag,ak,ab,ae,af,ai,isNil,Nat.reduceEqDiff,Nat.reduceAdd,Nat.reduceLT,Nat.reduceLeDiff,Int.reduceNeg,Int.reduceToNat,reduceCtorEq,t7,t8]
    trace_state
    refine ⟨n - (c+d),by omega,c+d,by omega,by omega,?_,fun id hid=>?_,rfl⟩
    · simp[View.set,List.drop_replicate,← List.replicate_append_replicate,show n - c - d=n - (c+d) by omega]
    · have:¬ id=b:=by rintro rfl; exact hid hb
      simp[View.set,this]; exact hkeep id hid
  · simp (disch:=omega) only [↓wr,↓reduceIte,wq,ah,ag,ak,ab,ae,af,ai,isNil,Nat.reduceEqDiff,Nat.reduceAdd,Nat.reduceLT,Nat.reduceLeDiff,Int.reduceNeg,Int.reduceToNat,reduceCtorEq,t7]
    obtain rfl:c=n:=by omega
    refine ⟨.inr ⟨b,by simp,by rw[hH]; simp[bb]⟩,fun id hid=>⟨hkeep id hid,?_⟩⟩
    simp only[owner,ne_eq,Option.some.injEq]
    rintro rfl; exact hid hb
theorem O9 {α:Type} {X Y:α} {C I:List α} : (Y :: X :: (C ++ I)).Perm ((C ++ [X]) ++ (I ++ [Y])):=by
  rw[← List.append_assoc]
  refine .trans (.cons Y ?_) (List.perm_append_singleton Y _).symm
  rw[List.append_assoc]
  exact List.perm_middle.symm
def QK (p:fp) (b2:Nat) (i:Nat) (T:Env) (H:View):Prop:=(∃ (ua ug:V) (A:D2) (G:ID),A.map (·.2)=(cm p).aK.take i∧G.map (·.2)=(cm p).gotos.take i ∧
  bA H ((.sl b2 0 1 2,2,[[ua,ug]]) :: (ua,1,dL A) :: (ug,1,dL G) :: (zf A ++ zg G)))∧T 1=.aQ (aZ p) 0∧T 2=.ptr b2 0 0∧T 17=gi p.of.length∧T 18=gi i
def r7:SC :=
  .seq (aq [aC 36 .lss 35 34]) <|
  .seq (.cond (.tmp 36) (.skip) (.exit 2)) <|
  .seq (.block 3 (.seq (aq [aD 37 3 33 35,aF 38 3 37,((some 7),.op (.alloc [(.val (.int .i64 0)),(.val (.int .i64 0)),(.val (.int .i64 0))])),(none,.op (.store 3 (.tmp 7) (.tmp 38)))]) <|
  aq [aa 39 5,ao 40 0 7,an 41 40,ao 42 1 7,aF 43 2 42,aD 44 2 39 41,(none,.op (.store 2 (.tmp 44) (.tmp 43)))])) <|
  aq [au 45 .add 35 1,aa 35 45]
def sj:SC :=
  .seq (aq [aC 61 .lss 60 59]) <|
  .seq (.cond (.tmp 61) (.skip) (.exit 4)) <|
  .seq (.block 5 (.seq (aq [aD 62 2 58 60,aF 63 2 62,((some 10),.op (.alloc [(.val (.int .i64 0)),(.val (.int .i64 0))])),(none,.op (.store 2 (.tmp 10) (.tmp 63)))]) <|
  aq [aa 64 8,ao 65 0 10,an 66 65,ao 67 1 10,an 68 67,aD 69 1 64 66,(none,.op (.store 1 (.tmp 69) (.tmp 68)))])) <|
  aq [au 70 .add 60 1,aa 60 70]
def rQ:SC :=
  .seq (aq [aC 19 .lss 18 17]) <|
  .seq (.cond (.tmp 19) (.skip) (.exit 0)) <|
  .seq (.block 1 (.seq (aq [aa 20 18,aa 4 20]) <|
  .seq (aq [ao 21 0 1,an 22 21,au 23 .add 22 1,((some 24),.op (.make 2 16 [(.val (.int .i64 0)),(.val (.int .i64 0))] (.tmp 23) (.tmp 23))),aa 5 24]) <|
  .seq (.seq (aq [ao 25 2 1,an 26 25,ao 27 3 1,an 28 27,aa 29 4,aD 30 1 28 29,an 31 30,aD 32 1 26 31,an 33 32,aA 34 33,az 35 0]) <|
  .block 2 (.loop r7)) <|
  .seq (aq [((some 46),.op (.aT 1 1 [(.val (.int .i64 0))] [(0,(.val (.val (.int .i64 (-1)))))])),ao 47 1 1,an 48 47,aJ 49 93 [46,48],aa 8 49]) <|
  .seq (.seq (aq [ao 50 4 1,an 51 50,ao 52 5 1,an 53 52,aa 54 4,aD 55 1 53 54,an 56 55,aD 57 1 51 56,an 58 57,aA 59 58,az 60 0]) <|
  .block 4 (.loop sj)) <|
  .nz [(76,72)] [⟨none,[ao 71 0 2,an 72 71,aa 73 5,((some 74),.op (.aT 1 1 [(.emp 1)] [(0,(.tmp 73))])),((some 75),.op (.app 1 24 (.tmp 72) (.tmp 74))),ao 76 1 2,an 77 76,aa 78 8,((some 79),.op (.aT 1 1 [(.emp 1)] [(0,(.tmp 78))])),((some 80),.op (.app 1 24 (.tmp 77) (.tmp 79))),ao 81 0 2,(none,.op (.store 1 (.tmp 81) (.tmp 75))),ao 82 1 2,(none,.op (.store 1 (.tmp 82) (.tmp 80)))]⟩])) <|
  aq [au 83 .add 18 1,aa 18 83]
def wO:SF:=⟨.seq (aq [bz 1 0,((some 2),.op (.alloc [(.emp 1),(.emp 1)])),az 3 0]) <|
  .seq (.seq (aq [aF 11 6 1,aJ 12 92 [11],bC 13 12]) <|
  .cond (.tmp 13) (.seq (aq [aF 14 2 2,(none,.op (.store 2 (.tmp 2) (.tmp 14))),az 3 1]) <|
  .ret) (.skip)) <|
  .seq (.seq (aq [ao 15 3 1,an 16 15,aA 17 16,az 18 0]) <|
  .block 0 (.loop rQ)) <|
  .seq (aq [aF 84 2 2,(none,.op (.store 2 (.tmp 2) (.tmp 84))),az 3 0]) <|
  .ret,
  [.cell 2 (some 2),.tmp 3],85⟩
theorem z8:ba Tryz.prog 49 [1,100000]=some wO:=by kernel_rfl
set_option maxHeartbeats 8000000 in
theorem IQ (p:fp) (hp:p.Ok):bY Tryz.prog 49 [.agg (aZ p)] (.bf (if ez p=true then [.agg (aW (cm p)),gi 0] else [.agg (aW ⟨[],[]⟩),gi 1])):=by
  refine bY.of (yE p) ?_
  have hr:=Kj p hp
  refine aG.of mixed z8 ?_
  simp only[aZ,encI] at hr
  simp (disch:=omega) only [↓wr,↓reduceIte,wq,ah,ag,ak,ab,ae,af,ai,isNil,Nat.reduceEqDiff,Nat.reduceAdd,Nat.reduceLT,Nat.reduceLeDiff,Int.reduceNeg,Int.reduceToNat,reduceCtorEq,wO,aZ,encI]
  intro b2
  refine aN.pure hr (by kernel_rfl) ?_
  simp (disch:=omega) only [↓wr,↓reduceIte,wq,ah,ag,ak,ab,ae,af,ai,isNil,Nat.reduceEqDiff,Nat.reduceAdd,Nat.reduceLT,Nat.reduceLeDiff,Int.reduceNeg,Int.reduceToNat,reduceCtorEq]
  refine ar.split (fun hrt=>?_) (fun hrt=>?_)
  rotate_left
  · simp (disch:=omega) only [↓wr,↓reduceIte,wq,ah,ag,ak,ab,ae,af,ai,isNil,Nat.reduceEqDiff,Nat.reduceAdd,Nat.reduceLT,Nat.reduceLeDiff,Int.reduceNeg,Int.reduceToNat,reduceCtorEq]
    rw[hrt]
    intro h' _
    exact yT (.emp _) (.emp _)
  obtain ⟨⟨q1,q2,q3,q4,q5,q6,q7,q8,q9⟩,hof,hto,hrows,hgos⟩:=vg hrt
  rw[hrt]
  simp (disch:=omega) only [↓wr,↓reduceIte,wq,ah,ag,ak,ab,ae,af,ai,isNil,Nat.reduceEqDiff,Nat.reduceAdd,Nat.reduceLT,Nat.reduceLeDiff,Int.reduceNeg,Int.reduceToNat,reduceCtorEq,aZ,encI]
  have o0:=(bA.nil.new (n:=b2) (H:=fun _=>bM.dead) rfl 2 [[.emp 1,.emp 1]])
  refine bp.up p.of.length (QK p b2) ⟨⟨.emp 1,.emp 1,[],[],by simp,by simp,?_⟩,rfl,rfl,rfl,rfl⟩ ?_
  · exact ((o0.emp (k:=1) (sz:=1)).emp (k:=1) (sz:=1)).perm B0.symm
  rintro i k T H hk ⟨⟨ua,ug,A,G,hA,hG,ho⟩,t1,t2,t17,t18⟩
  simp (disch:=omega) only [↓wr,↓reduceIte,wq,ah,ag,ak,ab,ae,af,ai,isNil,Nat.reduceEqDiff,Nat.reduceAdd,Nat.reduceLT,Nat.reduceLeDiff,Int.reduceNeg,Int.reduceToNat,reduceCtorEq,rQ,t1,t2,t17,t18,aZ,encI]
  refine ar.dec (fun hc=>?_) (fun hc=>?_)
  · have hn:p.of[i]?=some (p.of[i]'(by omega)):=List.getElem?_eq_getElem (by omega)
    have hm:p.to[i]?=some (p.to[i]'(by omega)):=List.getElem?_eq_getElem (by omega)
    have hnr:=hof _ (List.mem_of_getElem? hn)
    have hmr:=hto _ (List.mem_of_getElem? hm)
    generalize p.of[i]'(by omega)=n at hn hnr
    generalize p.to[i]'(by omega)=m at hm hmr
    have hrow:p.rows[n.toNat]?=some (p.rows.getD n.toNat []):=getD_some (by omega)
    have hgo:p.gotos[m.toNat]?=some (p.gotos.getD m.toNat []):=getD_some (by omega)
    have hA2:(cm p).aK[i]?=some (eL (p.rows.getD n.toNat []) (List.replicate (p.av.toNat+1) (⟨0,0⟩:Cell))):=by simp[cm,hn]
    have hG2:(cm p).gotos[i]?=some (gv (p.gotos.getD m.toNat []) (List.replicate p.aw.toNat (-1))):=by simp[cm,hm]
    have hZ:(List.replicate (p.av.toNat+1) (⟨0,0⟩:Cell)).length=p.av.toNat+1:=by simp
    have hZ2:(List.replicate (p.av.toNat+1) (⟨0,0⟩:Cell)).map bo=List.replicate (p.av.toNat+1) [gi 0,gi 0]:=by simp[bo]
    generalize List.replicate (p.av.toNat+1) (⟨0,0⟩:Cell)=Z at hA2 hZ hZ2
    have hrin:=Aq (by omega) (hrows _ (List.mem_of_getElem? hrow))
    have hgin:=zZ (by omega) (hgos _ (List.mem_of_getElem? hgo))
    have hrl:=(hp.row _ (List.mem_of_getElem? hrow)).1
    have hgl:=(hp.go _ (List.mem_of_getElem? hgo)).1
    unfold aR at hrl hgl
    generalize p.rows.getD n.toNat []=row at hrow hA2 hrin hrl
    generalize p.gotos.getD m.toNat []=gor at hgo hG2 hgin hgl
    simp (disch:=omega) only [↓wr,↓reduceIte,wq,ah,ag,ak,ab,ae,af,ai,isNil,Nat.reduceEqDiff,Nat.reduceAdd,Nat.reduceLT,Nat.reduceLeDiff,Int.reduceNeg,Int.reduceToNat,reduceCtorEq,t1,t2,t17,t18,aZ,encI]
    refine ⟨⟨by omega,by unfold aP; omega,by unfold aP; omega⟩,fun h=>absurd h (by omega),fun _ na hna=>?_⟩
    have o1:=ho.new hna 2 (List.replicate (p.av+1).toNat [gi 0,gi 0])
    rw[List.length_replicate] at o1
    generalize H.set na (.arr 2 (List.replicate (p.av+1).toNat [gi 0,gi 0]))=HH at o1 ⊢
    rw[show (p.av+1).toNat=p.av.toNat+1 by omega,show List.replicate (p.av.toNat+1) [gi 0,gi 0]=(eL (row.take 0) Z).map bo by rw[← hZ2]; rfl] at o1
    rw[show (p.av+1).toNat=p.av.toNat+1 by omega]
    clear ho
    generalize hB:(((.sl b2 0 1 2,2,[[ua,ug]]) :: (ua,1,dL A) :: (ug,1,dL G) :: (zf A ++ zg G)):List e9)=B at o1
    simp (disch:=omega) only [↓wr,↓reduceIte,wq,ah,ag,ak,ab,ae,af,ai,isNil,Nat.reduceEqDiff,Nat.reduceAdd,Nat.reduceLT,Nat.reduceLeDiff,Int.reduceNeg,Int.reduceToNat,reduceCtorEq,t1,t2,t17,t18,aZ,encI,List.getElem?_map,hn,hrow,Option.map_some]
    refine bp.up row.length (fun j T H'=>bA H' ((.sl na 0 (p.av.toNat+1) 2,2,(eL (row.take j) Z).map bo) :: B)∧T 1=.aQ (aZ p) 0∧T 2=.ptr b2 0 0∧T 17=gi p.of.length∧T 18=gi i∧T 4=gi i∧T 5=.sl na 0 (p.av.toNat+1) 2∧T 33=xz row∧T 34=gi row.length∧T 35=gi j) ⟨o1,t1,t2,t17,t18,rfl,rfl,rfl,rfl,rfl⟩ ?_
    clear o1
    rintro j k2 T2 H2 hk2 ⟨o2,t1,t2,t17,t18,t4,t5,t33,t34,t35⟩
    simp (disch:=omega) only [↓wr,↓reduceIte,wq,ah,ag,ak,ab,ae,af,ai,isNil,Nat.reduceEqDiff,Nat.reduceAdd,Nat.reduceLT,Nat.reduceLeDiff,Int.reduceNeg,Int.reduceToNat,reduceCtorEq,r7,t1,t2,t17,t18,t4,t5,t33,t34,t35]
    refine ar.dec (fun hc2=>?_) (fun hc2=>?_)
    · have hx:row[j]?=some (row[j]'(by omega)):=List.getElem?_eq_getElem (by omega)
      have hxr:=hrin _ (List.mem_of_getElem? hx)
      generalize row[j]'(by omega)=x at hx hxr
      simp (disch:=omega) only [↓wr,↓reduceIte,wq,ah,ag,ak,ab,ae,af,ai,isNil,Nat.reduceEqDiff,Nat.reduceAdd,Nat.reduceLT,Nat.reduceLeDiff,Int.reduceNeg,Int.reduceToNat,reduceCtorEq,t1,t2,t17,t18,t4,t5,t33,t34,t35,List.getElem?_map,hx,Option.map_some,ep]
      have hna2:=o2.is 0 rfl (by simp[iZ,hZ])
      intro b hb
      have hbn:¬ na=b:=by rintro rfl; rw[hna2] at hb; simp at hb
      refine ⟨by omega,?_⟩
      simp (disch:=omega) only [↓wr,↓reduceIte,wq,ah,ag,ak,ab,ae,af,ai,isNil,Nat.reduceEqDiff,Nat.reduceAdd,Nat.reduceLT,Nat.reduceLeDiff,Int.reduceNeg,Int.reduceToNat,reduceCtorEq,t1,t2,t17,t18,t4,t5,t33,t34,t35,hbn,hna2,List.length_map,iZ,hZ]
      refine ⟨by omega,?_⟩
      rw[set_set]
      refine br hk2 (by omega) ⟨?_,t1,t2,t17,t18,t4,t5,t33,t34,rfl⟩
      rw[BQ hx]
      rw[CJ]
      have o3:=(o2.fresh hb (o:=.arr 3 [[gi x.dA,gi x.cell.kind,gi x.cell.n]])).put (es':=((eL (row.take j) Z).map bo).set x.dA.toNat (bo x.cell)) (by simp) (by simp[iZ,hZ])
      exact o3.as (es':=((eL (row.take j) Z).set x.dA.toNat x.cell).map bo) (by rw[List.map_set])
    rw[List.take_of_length_le (by omega)] at o2
    simp (disch:=omega) only [↓wr,↓reduceIte,wq,ah,ag,ak,ab,ae,af,ai,isNil,Nat.reduceEqDiff,Nat.reduceAdd,Nat.reduceLT,Nat.reduceLeDiff,Int.reduceNeg,Int.reduceToNat,reduceCtorEq,t1,t2,t17,t18,t4,t5,aZ]
    intro q0 hq0
    have hnn:gi p.aw=gi (p.aw.toNat:Int):=by rw[show ((p.aw.toNat:Nat):Int)=p.aw by omega]
    rw[hnn]
    refine aN.ig ((IE p.aw.toNat (by omega) q0 _ (by simp[View.set])).mono ?_)
    rintro u7 H3 ⟨ho7,hf7⟩
    have o3:=(o2.fresh (o:=.arr 1 [[gi (-1)]]) hq0).Qx ho7 hf7
    clear o2 ho7 hf7 hq0
    have hY:(List.replicate p.aw.toNat (-1:Int)).length=p.aw.toNat:=by simp
    generalize List.replicate p.aw.toNat (-1:Int)=Y at hG2 hY o3
    simp (disch:=omega) only [↓wr,↓reduceIte,wq,ah,ag,ak,ab,ae,af,ai,isNil,Nat.reduceEqDiff,Nat.reduceAdd,Nat.reduceLT,Nat.reduceLeDiff,Int.reduceNeg,Int.reduceToNat,reduceCtorEq,t1,t2,t17,t18,t4,t5,aZ,encI,List.getElem?_map,hm,hgo,Option.map_some]
    refine bp.up gor.length (fun j T H'=>bA H' ((u7,1,bb (gv (gor.take j) Y)) :: (.sl na 0 (p.av.toNat+1) 2,2,(eL row Z).map bo) :: B)∧T 1=.aQ (aZ p) 0∧T 2=.ptr b2 0 0∧T 17=gi p.of.length∧T 18=gi i∧T 5=.sl na 0 (p.av.toNat+1) 2∧T 8=u7∧T 58=yd gor∧T 59=gi gor.length∧T 60=gi j) ⟨o3,t1,t2,t17,t18,t5,rfl,rfl,rfl,rfl⟩ ?_
    clear o3
    rintro j4 k4 T4 H4 hk4 ⟨o2,t1,t2,t17,t18,t5,t8,t58,t59,t60⟩
    simp (disch:=omega) only [↓wr,↓reduceIte,wq,ah,ag,ak,ab,ae,af,ai,isNil,Nat.reduceEqDiff,Nat.reduceAdd,Nat.reduceLT,Nat.reduceLeDiff,Int.reduceNeg,Int.reduceToNat,reduceCtorEq,sj,t1,t2,t17,t18,t5,t8,t58,t59,t60]
    refine ar.dec (fun hc4=>?_) (fun hc4=>?_)
    · have hx:gor[j4]?=some (gor[j4]'(by omega)):=List.getElem?_eq_getElem (by omega)
      have hxr:=hgin _ (List.mem_of_getElem? hx)
      generalize gor[j4]'(by omega)=x at hx hxr
      obtain ⟨id,hu,hid⟩:=o2.head.sl (by simp[fU,hY]; omega)
      simp only[List.length_map,fU,hY] at hu
      subst hu
      simp (disch:=omega) only [↓wr,↓reduceIte,wq,ah,ag,ak,ab,ae,af,ai,isNil,Nat.reduceEqDiff,Nat.reduceAdd,Nat.reduceLT,Nat.reduceLeDiff,Int.reduceNeg,Int.reduceToNat,reduceCtorEq,t1,t2,t17,t18,t5,t8,t58,t59,t60,List.getElem?_map,hx,Option.map_some,en]
      intro b hb
      have hbn:¬ id=b:=by rintro rfl; rw[hid] at hb; simp at hb
      refine ⟨by omega,?_⟩
      simp (disch:=omega) only [↓wr,↓reduceIte,wq,ah,ag,ak,ab,ae,af,ai,isNil,Nat.reduceEqDiff,Nat.reduceAdd,Nat.reduceLT,Nat.reduceLeDiff,Int.reduceNeg,Int.reduceToNat,reduceCtorEq,t1,t2,t17,t18,t5,t8,t58,t59,t60,hbn,hid,List.length_map,fU,hY]
      refine ⟨by omega,?_⟩
      rw[set_set]
      refine br hk4 (by omega) ⟨?_,t1,t2,t17,t18,t5,t8,t58,t59,rfl⟩
      rw[BM hx,Ak]
      have o3:=(o2.fresh hb (o:=.arr 2 [[gi x.sym,gi x.to]])).put (es':=(bb (gv (gor.take j4) Y)).set x.sym.toNat [gi x.to]) (by simp) (by simp[fU,hY])
      exact o3.as (es':=bb ((gv (gor.take j4) Y).set x.sym.toNat x.to)) (by simp only[bb,List.map_set])
    · rw[List.take_of_length_le (by omega)] at o2
      have c7:=o2.head.cells
      have k7:=o2.head.jC
      subst hB
      have hb4:=o2.is 2 rfl (by simp)
      simp (disch:=omega) only [↓wr,↓reduceIte,wq,ah,ag,ak,ab,ae,af,ai,isNil,Nat.reduceEqDiff,Nat.reduceAdd,Nat.reduceLT,Nat.reduceLeDiff,Int.reduceNeg,Int.reduceToNat,reduceCtorEq,t1,t2,t17,t18,t5,t8,c7,k7,hb4]
      intro q hq
      have lA:=congrArg List.length hA
      have lG:=congrArg List.length hG
      simp only[List.length_map,List.length_take] at lA lG
      simp (disch:=omega) only [↓wr,↓reduceIte,wq,ah,ag,ak,ab,ae,af,ai,isNil,Nat.reduceEqDiff,Nat.reduceAdd,Nat.reduceLT,Nat.reduceLeDiff,Int.reduceNeg,Int.reduceToNat,reduceCtorEq,cn]
      have o4:=(o2.fresh (o:=.arr 1 [[.sl na 0 (p.av.toNat+1) 2]]) hq).at 3 (by simp)
      refine eQ o4 (by simp[aU]) (by unfold aP dL; simp; omega) (by unfold aP dL; simp; omega) ?_
      intro ua2 H5 o5 _
      simp only[List.getElem_cons_succ,List.getElem_cons_zero,List.eraseIdx_cons_succ,List.eraseIdx_cons_zero] at o5
      have hb5:=o5.is 3 rfl (by simp)
      simp (disch:=omega) only [↓wr,↓reduceIte,wq,ah,ag,ak,ab,ae,af,ai,isNil,Nat.reduceEqDiff,Nat.reduceAdd,Nat.reduceLT,Nat.reduceLeDiff,Int.reduceNeg,Int.reduceToNat,reduceCtorEq,t1,t2,t17,t18,t5,t8,c7,k7,hb5]
      intro q2 hq2
      simp (disch:=omega) only [↓wr,↓reduceIte,wq,ah,ag,ak,ab,ae,af,ai,isNil,Nat.reduceEqDiff,Nat.reduceAdd,Nat.reduceLT,Nat.reduceLeDiff,Int.reduceNeg,Int.reduceToNat,reduceCtorEq,cn]
      have o6:=(o5.fresh (o:=.arr 1 [[u7]]) hq2).at 4 (by simp)
      refine eQ o6 (by simp[k7]) (by unfold aP dL; simp; omega) (by unfold aP dL; simp; omega) ?_
      intro ug2 H6 o7 _
      simp only[List.getElem_cons_succ,List.getElem_cons_zero,List.eraseIdx_cons_succ,List.eraseIdx_cons_zero] at o7
      have hb7:=o7.is 4 rfl (by simp)
      have ca:=(o7.own 1 rfl).cells
      have ka:=(o7.own 1 rfl).jC
      have cg:=(o7.own 0 rfl).cells
      have kg:=(o7.own 0 rfl).jC
      simp (disch:=omega) only [↓wr,↓reduceIte,wq,ah,ag,ak,ab,ae,af,ai,isNil,Nat.reduceEqDiff,Nat.reduceAdd,Nat.reduceLT,Nat.reduceLeDiff,Int.reduceNeg,Int.reduceToNat,reduceCtorEq,t1,t2,t17,t18,t5,t8,ca,ka,cg,kg,hb7]
      refine ⟨Hr (o2.own 3 rfl) ((o2.at 2 (by simp)).off rfl _ (List.mem_of_getElem? (i:=2) rfl)),?_⟩
      rw[set_set]
      refine br hk (by omega) ⟨⟨ua2,ug2,A ++ [(.sl na 0 (p.av.toNat+1) 2,eL row Z)],G ++ [(u7,gv gor Y)],?_,?_,?_⟩,t1,t2,t17,rfl⟩
      · rw[List.map_append,hA,List.take_add_one,hA2]; rfl
      · rw[List.map_append,hG,List.take_add_one,hG2]; rfl
      · have o8:=(o7.at 4 (by simp)).put (es':=[[ua2,ug2]]) rfl rfl
        simp only[List.getElem_cons_succ,List.getElem_cons_zero,List.eraseIdx_cons_succ,List.eraseIdx_cons_zero] at o8
        refine o8.perm (.cons _ ((List.Perm.swap _ _ _).trans ?_))
        simp only[dL,zf,zg,List.map_append,List.map_cons,List.map_nil]
        exact .cons _ (.cons _ O9)
  · rw[List.take_of_length_le (by simp[cm]; omega)] at hA hG
    have hb2:=ho.is 0 rfl (by simp)
    have ca:=(ho.own 1 rfl).cells
    have ka:=(ho.own 1 rfl).jC
    have cg:=(ho.own 2 rfl).cells
    have kg:=(ho.own 2 rfl).jC
    simp (disch:=omega) only [↓wr,↓reduceIte,wq,ah,ag,ak,ab,ae,af,ai,isNil,Nat.reduceEqDiff,Nat.reduceAdd,Nat.reduceLT,Nat.reduceLeDiff,Int.reduceNeg,Int.reduceToNat,reduceCtorEq,t1,t2,t17,t18,hb2,ca,ka,cg,kg]
    intro h' hv
    have o9:=ho.put (es':=[[ua,ug]]) rfl rfl
    rw[← hv] at o9
    unfold aW
    rw[← hA,← hG]
    refine yT (CZ (o9.own 1 rfl) fun x hx=>o9.1 (x.1,2,x.2.map bo) ?_) (ie.Nz ⟨G,rfl,o9.own 2 rfl,fun x hx=>o9.1 (x.1,1,bb x.2) ?_⟩)
    · simp only[List.mem_cons,List.mem_append]
      exact .inr (.inr (.inr (.inl (List.mem_map.2 ⟨x,hx,rfl⟩))))
    · simp only[List.mem_cons,List.mem_append]
      exact .inr (.inr (.inr (.inr (List.mem_map.2 ⟨x,hx,rfl⟩))))
def LB (t:dJ):Bool:=decide (t.aK.length≤900) && decide (t.gotos.length≤900) && t.aK.all (fun r=>decide (r.length≤900) && r.all fun c=>j1 c.kind && j1 c.n) && t.gotos.all fun r=>decide (r.length≤900) && r.all j1
theorem yB {t:dJ} (h:LB t=true):t.Ok:=by
  unfold LB at h
  simp only[Bool.and_eq_true,decide_eq_true_eq,List.all_eq_true] at h
  obtain ⟨⟨⟨h1,h2⟩,h3⟩,h4⟩:=h
  exact ⟨by unfold aR; omega,by unfold aR; omega,fun r hr=>⟨by unfold aR; have:=(h3 r hr).1; omega,fun c hc=>⟨gf ((h3 r hr).2 c hc).1,gf ((h3 r hr).2 c hc).2⟩⟩,fun r hr=>⟨by unfold aR; have:=(h4 r hr).1; omega,fun x hx=>gf ((h4 r hr).2 x hx)⟩⟩
theorem eE.Ok.new {P:Program} {f:FuncId} {vs:List V} {t:V} (hc:bY P f vs t) (hk:cA P f=true):eE.Ok P (f,vs,t,false):=⟨hk,by simp only[Bool.false_eq_true,if_false]; exact .inl hc⟩
theorem eE.Ok.A8 {P:Program} {f:FuncId} {vs:List V} {b:Bool} (hc:aI P f vs (gb b)) (hk:cA P f=true):eE.Ok P (f,vs,gb b,false):=⟨hk,by simp only[Bool.false_eq_true,if_false]; exact .inr ⟨hc,.val _⟩⟩
theorem ext_cons {P:Program} {x:eE} {l:List eE} (h:x.Ok P) (hl:∀ y∈l,y.Ok P):∀ y∈x :: l,y.Ok P:=fun y hy=>by
  rcases List.mem_cons.1 hy with rfl | hy
  · exact h
  · exact hl y hy
def FF (g:ay):List eE:=[(48,[.agg (ax g)],gb true,false),(38,[.agg (ax g)],gb true,false)]
theorem FB {g:ay} (hg:g.Ok) (h1:bB g=true) (h2:isRed g=true):∀ x∈FF g,x.Ok Tryz.prog :=
  ext_cons (.A8 (h1 ▸ jm g hg) (by kernel_rfl)) (ext_cons (.A8 (h2 ▸ O3 g hg) (by kernel_rfl)) (by simp))
theorem ke {l:List eE} (hl:∀ x∈l,x.Ok Tryz.prog) {g:ay} {f:FuncId} {t:V} (h:qg Tryz.prog y7 (Ed l) f [.agg (ax g)]=some t):bY Tryz.prog f [.agg (ax g)] t :=
  je mixed pY (vm hl) (hQ g) h
def po:dJ:=⟨[[⟨1,1⟩,⟨2,1⟩],[⟨1,1⟩,⟨2,1⟩],[⟨0,0⟩,⟨3,0⟩],[⟨0,0⟩,⟨2,0⟩]],[[2],[3],[-1],[-1]]⟩
theorem G1:po.Ok:=yB (by kernel_rfl)
theorem NL:∀ x∈FF cO,x.Ok Tryz.prog:=FB fP.1 (by kernel_rfl) (by kernel_rfl)
def Hv:V:=.aL [[.val (.int .u32 1)]]
theorem Jd:bY Tryz.prog 203 [.agg (ax cO)] Hv:=ke NL (by kernel_rfl)
def Pl:List eE:=(203,[.agg (ax cO)],Hv,false) :: FF cO
theorem Ny:∀ x∈Pl,x.Ok Tryz.prog:=ext_cons (.new Jd (by kernel_rfl)) NL
def Kp:V:=.aL [[gb true]]
theorem K6:bY Tryz.prog 202 [.agg (ax cO)] Kp:=ke Ny (by kernel_rfl)
def O5:List eE:=(202,[.agg (ax cO)],Kp,false) :: Pl
theorem NA:∀ x∈O5,x.Ok Tryz.prog:=ext_cons (.new K6 (by kernel_rfl)) Ny
def Ip:V:=.bf [.aL [[.aL [[.val (.int .i64 (-1)),.val (.int .i64 (0))]],.aL [[.val (.int .i64 (0)),.val (.int .i64 (1))],[.val (.int .i64 (-1)),.val (.int .i64 (2))]]],[.aL [[.val (.int .i64 (0)),.val (.int .i64 (1))]],.aL [[.val (.int .i64 (0)),.val (.int .i64 (1))],[.val (.int .i64 (-1)),.val (.int .i64 (3))]]],[.aL [[.val (.int .i64 (-1)),.val (.int .i64 (1))]],.aL []],[.aL [[.val (.int .i64 (0)),.val (.int .i64 (2))]],.aL []]],.val (.int .i64 (0))]
theorem JB:bY Tryz.prog 51 [.agg (ax cO)] Ip:=ke NA (by kernel_rfl)
def Py:List eE:=(51,[.agg (ax cO)],Ip,false) :: O5
theorem NR:∀ x∈Py,x.Ok Tryz.prog:=ext_cons (.new JB (by kernel_rfl)) NA
def KF:V:=.bf [.aL [[.aL [[.val (.int .i64 (1)),.val (.int .u32 2)]]],[.aL [[.val (.int .i64 (1)),.val (.int .u32 2)]]],[.aL []],[.aL [[.val (.int .i64 (0)),.val (.int .u32 2)]]]],.val (.int .i64 (0))]
theorem Lf:bY Tryz.prog 52 [.agg (ax cO)] KF:=ke NR (by kernel_rfl)
def QI:List eE:=(52,[.agg (ax cO)],KF,false) :: Py
theorem P8:∀ x∈QI,x.Ok Tryz.prog:=ext_cons (.new Lf (by kernel_rfl)) NR
def Kr:V:=.bf [.agg (aW po),.aL [],gi 0]
theorem K2:bY Tryz.prog 23 [.agg (ax cO)] Kr:=ke P8 (by kernel_rfl)
theorem Qo:bY Tryz.prog 41 [wz Np] (kS di):=Ct (by kernel_rfl)
theorem xZ:di.Ok∧di.Small:=Er (by kernel_rfl)
def s8:dJ:=⟨[[⟨2,2⟩,⟨0,0⟩,⟨0,0⟩],[⟨0,0⟩,⟨0,0⟩,⟨2,1⟩],[⟨0,0⟩,⟨0,0⟩,⟨3,0⟩],[⟨2,2⟩,⟨0,0⟩,⟨0,0⟩],[⟨0,0⟩,⟨0,0⟩,⟨2,0⟩]],[[2,3],[-1,-1],[-1,-1],[4,3],[-1,-1]]⟩
theorem OL:s8.Ok:=yB (by kernel_rfl)
theorem Nv:∀ x∈FF di,x.Ok Tryz.prog:=FB xZ.1 (by kernel_rfl) (by kernel_rfl)
def Ij:V:=.aL [[.val (.int .u32 1)],[.val (.int .u32 0)]]
theorem Jk:bY Tryz.prog 203 [.agg (ax di)] Ij:=ke Nv (by kernel_rfl)
def O0:List eE:=(203,[.agg (ax di)],Ij,false) :: FF di
theorem Nw:∀ x∈O0,x.Ok Tryz.prog:=ext_cons (.new Jk (by kernel_rfl)) Nv
def Kl:V:=.aL [[gb false],[gb true]]
theorem Lu:bY Tryz.prog 202 [.agg (ax di)] Kl:=ke Nw (by kernel_rfl)
def PD:List eE:=(202,[.agg (ax di)],Kl,false) :: O0
theorem NP:∀ x∈PD,x.Ok Tryz.prog:=ext_cons (.new Lu (by kernel_rfl)) Nw
def Hm:V:=.bf [.aL [[.aL [[.val (.int .i64 (-1)),.val (.int .i64 (0))]],.aL [[.val (.int .i64 (0)),.val (.int .i64 (1))],[.val (.int .i64 (-1)),.val (.int .i64 (2))],[.val (.int .i64 (-2)),.val (.int .i64 (3))]]],[.aL [[.val (.int .i64 (1)),.val (.int .i64 (1))]],.aL []],[.aL [[.val (.int .i64 (-1)),.val (.int .i64 (1))]],.aL []],[.aL [[.val (.int .i64 (0)),.val (.int .i64 (1))]],.aL [[.val (.int .i64 (0)),.val (.int .i64 (1))],[.val (.int .i64 (-1)),.val (.int .i64 (4))],[.val (.int .i64 (-2)),.val (.int .i64 (3))]]],[.aL [[.val (.int .i64 (0)),.val (.int .i64 (2))]],.aL []]],.val (.int .i64 (0))]
theorem Jz:bY Tryz.prog 51 [.agg (ax di)] Hm:=ke NP (by kernel_rfl)
def PO:List eE:=(51,[.agg (ax di)],Hm,false) :: PD
theorem ND:∀ x∈PO,x.Ok Tryz.prog:=ext_cons (.new Jz (by kernel_rfl)) NP
def LR:V:=.bf [.aL [[.aL [[.val (.int .i64 (2)),.val (.int .u32 1)]]],[.aL [[.val (.int .i64 (1)),.val (.int .u32 4)]]],[.aL []],[.aL [[.val (.int .i64 (2)),.val (.int .u32 1)]]],[.aL [[.val (.int .i64 (0)),.val (.int .u32 4)]]]],.val (.int .i64 (0))]
theorem Kg:bY Tryz.prog 52 [.agg (ax di)] LR:=ke ND (by kernel_rfl)
def QF:List eE:=(52,[.agg (ax di)],LR,false) :: PO
theorem Qf:∀ x∈QF,x.Ok Tryz.prog:=ext_cons (.new Kg (by kernel_rfl)) ND
def Ld:V:=.bf [.agg (aW s8),.aL [[gi 0,gi 0,gi 1,gi 2,gi (-1)],[gi 3,gi 0,gi 1,gi 2,gi (-1)]],gi 0]
theorem KU:bY Tryz.prog 23 [.agg (ax di)] Ld:=ke Qf (by kernel_rfl)
theorem Qn:bY Tryz.prog 41 [wz NQ] (kS fq):=Ct (by kernel_rfl)
theorem xO:fq.Ok∧fq.Small:=Er (by kernel_rfl)
def E5:dJ:=⟨[[⟨1,1⟩,⟨0,0⟩,⟨0,0⟩],[⟨0,0⟩,⟨1,3⟩,⟨0,0⟩],[⟨0,0⟩,⟨0,0⟩,⟨3,0⟩],[⟨0,0⟩,⟨0,0⟩,⟨2,0⟩]],[[2],[-1],[-1],[-1]]⟩
theorem N5:E5.Ok:=yB (by kernel_rfl)
theorem NC:∀ x∈FF fq,x.Ok Tryz.prog:=FB xO.1 (by kernel_rfl) (by kernel_rfl)
def Hc:V:=.aL [[.val (.int .u32 1)]]
theorem Jy:bY Tryz.prog 203 [.agg (ax fq)] Hc:=ke NC (by kernel_rfl)
def PS:List eE:=(203,[.agg (ax fq)],Hc,false) :: FF fq
theorem NZ:∀ x∈PS,x.Ok Tryz.prog:=ext_cons (.new Jy (by kernel_rfl)) NC
def JZ:V:=.aL [[gb false]]
theorem Kk:bY Tryz.prog 202 [.agg (ax fq)] JZ:=ke NZ (by kernel_rfl)
def Pu:List eE:=(202,[.agg (ax fq)],JZ,false) :: PS
theorem NK:∀ x∈Pu,x.Ok Tryz.prog:=ext_cons (.new Kk (by kernel_rfl)) NZ
def Hq:V:=.bf [.aL [[.aL [[.val (.int .i64 (-1)),.val (.int .i64 (0))]],.aL [[.val (.int .i64 (0)),.val (.int .i64 (1))],[.val (.int .i64 (-1)),.val (.int .i64 (2))]]],[.aL [[.val (.int .i64 (0)),.val (.int .i64 (1))]],.aL [[.val (.int .i64 (1)),.val (.int .i64 (3))]]],[.aL [[.val (.int .i64 (-1)),.val (.int .i64 (1))]],.aL []],[.aL [[.val (.int .i64 (0)),.val (.int .i64 (2))]],.aL []]],.val (.int .i64 (0))]
theorem Jf:bY Tryz.prog 51 [.agg (ax fq)] Hq:=ke NK (by kernel_rfl)
def PF:List eE:=(51,[.agg (ax fq)],Hq,false) :: Pu
theorem Nu:∀ x∈PF,x.Ok Tryz.prog:=ext_cons (.new Jf (by kernel_rfl)) NK
def K0:V:=.bf [.aL [[.aL []],[.aL []],[.aL []],[.aL [[.val (.int .i64 (0)),.val (.int .u32 4)]]]],.val (.int .i64 (0))]
theorem KD:bY Tryz.prog 52 [.agg (ax fq)] K0:=ke Nu (by kernel_rfl)
def QA:List eE:=(52,[.agg (ax fq)],K0,false) :: PF
theorem Qi:∀ x∈QA,x.Ok Tryz.prog:=ext_cons (.new KD (by kernel_rfl)) Nu
def LH:V:=.bf [.agg (aW E5),.aL [],gi 0]
theorem KK:bY Tryz.prog 23 [.agg (ax fq)] LH:=ke Qi (by kernel_rfl)
theorem P5:∀ (k:Nat) (st rs:List Int),0 < st.length→bH st=3→fW di s8 [0] k st rs 0=([],0,14):=by
  have hc:cB s8 3 (bG di [0] 0)=⟨2,2⟩:=by kernel_rfl
  have hr:(bZ di 2).right=[]:=by kernel_rfl
  have hg:gu s8 3 (bZ di 2).left=3:=by kernel_rfl
  intro k
  induction k with
  | zero =>
    intro st rs hs ht
    rw[mY,ht,hc]
    rfl
  | succ k ih =>
    intro st rs hs ht
    rw[mY,ht,hc]
    simp only[hr,List.length_nil,Nat.sub_zero,List.take_length,ht,hg]
    rw[if_neg (by decide),if_neg (by decide),if_neg (by decide),if_neg (by omega),if_neg (by decide)]
    exact ih _ _ (by simp) (by simp[bH,List.getD_eq_getElem?_getD])
theorem Pm:gU di s8 [0]=([],0,14):=by
  have hc:cB s8 0 (bG di [0] 0)=⟨2,2⟩:=by kernel_rfl
  have hr:(bZ di 2).right=[]:=by kernel_rfl
  have hg:gu s8 0 (bZ di 2).left=3:=by kernel_rfl
  have ht:bH [0]=0:=rfl
  rw[iP,if_pos (by kernel_rfl),show (2000:Nat)=1999+1 from rfl,mY,ht,hc]
  simp only[hr,List.length_cons,List.length_nil,Nat.sub_zero,Nat.zero_add,List.take_succ_cons,List.take_zero,ht,hg]
  rw[if_neg (by decide),if_neg (by decide),if_neg (by decide),if_neg (by omega),if_neg (by decide)]
  exact P5 1999 _ _ (by simp) rfl
theorem O7:gU cO po [0,0]=([1,0,0],2,0):=by
  rw[iP,if_pos (by kernel_rfl)]; kernel_rfl
theorem Ob:gU cO po [1]=([],0,1):=by
  rw[iP,if_neg (by rw[show (fQ cO [1] && fh cO po)=false by kernel_rfl]; simp)]
theorem Pw:gU fq E5 [0,0]=([],1,3):=by
  rw[iP,if_pos (by kernel_rfl)]; kernel_rfl
theorem qf {w:List Int} (h:w.all j1=true):∀ x∈w,bJ x:=fun x hx=>gf (List.all_eq_true.1 h x hx)
theorem kk {w:List Int} (h:w.length≤100):aR w:=by unfold aR; omega
def NS:List V:=[gi 1,gi 1,.aL [[.aL [[.val (.int .i64 (0)),.val (.int .i64 (1)),.val (.int .i64 (1))],[.val (.int .i64 (1)),.val (.int .i64 (2)),.val (.int .i64 (1))]]],[.aL [[.val (.int .i64 (1)),.val (.int .i64 (3)),.val (.int .i64 (0))]]],[.aL [[.val (.int .i64 (1)),.val (.int .i64 (2)),.val (.int .i64 (0))]]]],.aL [[.val (.int .i64 (0))],[.val (.int .i64 (0))],[.val (.int .i64 (1))],[.val (.int .i64 (2))]],.aL [[.aL [[.val (.int .i64 (0)),.val (.int .i64 (2))]]],[.aL [[.val (.int .i64 (0)),.val (.int .i64 (3))]]],[.aL []]],.aL [[.val (.int .i64 (0))],[.val (.int .i64 (1))],[.val (.int .i64 (2))],[.val (.int .i64 (2))]]]
theorem MO:bY Tryz.prog 24 [.agg (aW po)] (.bf [.agg NS,gi 0]) :=
  je mixed pY (vm (l:=[]) (by simp)) (Nc po) (by kernel_rfl)
def NF:List eE:=[(15,[.agg (ax cO),.agg (aW po),encI [0,0]],kd ([1,0,0],2,0),false)]
theorem ME:∀ x∈NF,x.Ok Tryz.prog :=
  ext_cons (.new (O7 ▸ oq cO fP.1 fP.2 po G1 [0,0] (kk (by decide)) (qf (by kernel_rfl))) (by kernel_rfl)) (by simp)
def Qe:List eE:=(41,[wz NN],kS cO,false) :: (41,[wz Np],kS di,false) :: (41,[wz NQ],kS fq,false) ::
  (23,[.agg (ax cO)],Kr,false) :: (23,[.agg (ax di)],Ld,false) :: (23,[.agg (ax fq)],LH,false) ::
  (24,[.agg (aW po)],.bf [.agg NS,gi 0],false) ::
  (15,[.agg (ax cO),.agg (aW po),encI [1]],kd ([],0,1),false) :: (15,[.agg (ax di),.agg (aW s8),encI [0]],kd ([],0,14),false) :: (15,[.agg (ax fq),.agg (aW E5),encI [0,0]],kd ([],1,3),false) ::
  (17,[encI [1,0,0],encI [1,0,0]],gb true,false) :: (18,[.agg (ax cO),encI [0]],gb true,false) :: (18,[.agg (ax cO),encI [-1]],gb false,false) :: NF
theorem MW:∀ x∈Qe,x.Ok Tryz.prog :=
  ext_cons (.new Qc (by kernel_rfl)) <| ext_cons (.new Qo (by kernel_rfl)) <| ext_cons (.new Qn (by kernel_rfl)) <|
  ext_cons (.new K2 (by kernel_rfl)) <| ext_cons (.new KU (by kernel_rfl)) <| ext_cons (.new KK (by kernel_rfl)) <|
  ext_cons (.new MO (by kernel_rfl)) <|
  ext_cons (.new (Ob ▸ oq cO fP.1 fP.2 po G1 [1] (kk (by decide)) (qf (by kernel_rfl))) (by kernel_rfl)) <|
  ext_cons (.new (Pm ▸ oq di xZ.1 xZ.2 s8 OL [0] (kk (by decide)) (qf (by kernel_rfl))) (by kernel_rfl)) <|
  ext_cons (.new (Pw ▸ oq fq xO.1 xO.2 E5 N5 [0,0] (kk (by decide)) (qf (by kernel_rfl))) (by kernel_rfl)) <|
  ext_cons (.A8 ((show ([1,0,0]:List Int) == [1,0,0] by kernel_rfl) ▸ B6 [1,0,0] [1,0,0] (kk (by decide))) (by kernel_rfl)) <|
  ext_cons (.A8 ((show fQ cO [0]=true by kernel_rfl) ▸ AF cO fP.1 fP.2 [0] (kk (by decide)) (qf (by kernel_rfl))) (by kernel_rfl)) <|
  ext_cons (.A8 ((show fQ cO [-1]=false by kernel_rfl) ▸ AF cO fP.1 fP.2 [-1] (kk (by decide)) (qf (by kernel_rfl))) (by kernel_rfl)) ME
theorem Ju:aI Tryz.prog 11 [] (gb true) :=
  (je mixed pY (vm MW) (by simp) (by kernel_rfl)).pure
theorem CW:∀ (l:List gz) (a:List Cell),∀ c∈eL l a,c∈a∨∃ x∈l,c=x.cell
  | [],a,c,h=>.inl h
  | x :: l,a,c,h=>by
    rcases CW l (a.set x.dA.toNat x.cell) c h with h | ⟨y,hy,e⟩
    · rcases List.mem_or_eq_of_mem_set h with h | h
      · exact .inl h
      · exact .inr ⟨x,by simp,h⟩
    · exact .inr ⟨y,by simp[hy],e⟩
theorem DG:∀ (l:List gI) (a:List Int),∀ c∈gv l a,c∈a∨∃ x∈l,c=x.to
  | [],a,c,h=>.inl h
  | x :: l,a,c,h=>by
    rcases DG l (a.set x.sym.toNat x.to) c h with h | ⟨y,hy,e⟩
    · rcases List.mem_or_eq_of_mem_set h with h | h
      · exact .inl h
      · exact .inr ⟨x,by simp,h⟩
    · exact .inr ⟨y,by simp[hy],e⟩
theorem AR {p:fp} (hp:p.Ok) (h:ez p=true):(cm p).Ok:=by
  obtain ⟨⟨q1,q2,q3,q4,q5,q6,q7,q8,q9⟩,hof,hto,_,_⟩:=vg h
  refine ⟨by simp[cm,aR]; omega,by simp[cm,aR]; omega,fun r hr=>?_,fun r hr=>?_⟩
  · simp only[cm,List.mem_map] at hr
    obtain ⟨n,hn,rfl⟩:=hr
    have hrow:=List.mem_of_getElem? (getD_some (d:=[]) (show n.toNat < p.rows.length by have:=hof n hn; omega))
    refine ⟨by unfold aR; rw[iZ]; simp; omega,fun c hc=>?_⟩
    rcases CW _ _ c hc with hc | ⟨x,hx,rfl⟩
    · rw[(List.mem_replicate.1 hc).2]; unfold bJ; decide
    · exact ((hp.row _ hrow).2 x hx).2
  · simp only[cm,List.mem_map] at hr
    obtain ⟨n,hn,rfl⟩:=hr
    have hrow:=List.mem_of_getElem? (getD_some (d:=[]) (show n.toNat < p.gotos.length by have:=hto n hn; omega))
    refine ⟨by unfold aR; rw[fU]; simp; omega,fun c hc=>?_⟩
    rcases DG _ _ c hc with hc | ⟨x,hx,rfl⟩
    · rw[(List.mem_replicate.1 hc).2]; unfold bJ; decide
    · exact ((hp.go _ hrow).2 x hx).2
def runK (g:ay) (p:fp) (w:List Int):List Int × Int × Int:=if ez p=true then gU g (cm p) w else ([],0,1)
theorem Ad (g:ay) (p:fp) (w:List Int):∀ v∈[V.agg (ax g),.agg (aZ p),encI w],Tree v:=by
  intro v hv; simp at hv
  rcases hv with rfl | rfl | rfl
  · exact b9 _ (cP g)
  · exact b9 _ (A6 p)
  · exact c6 w
theorem Hw {h:aH} {u:V} {x:List Int × Int × Int} (hu:Fr h u (encI x.1)):Fr h (.bf [u,gi x.2.1,gi x.2.2]) (kd x):=.bf _ _ rfl fun i hi=>by
  match i,hi with
  | 0,_=>exact hu
  | 1,_=>exact .tree _ (.val _)
  | 2,_=>exact .tree _ (.val _)
def pB:SF:=⟨.seq (aq [bz 3 0,bz 4 1,((some 6),.op (.aX (.val (.emp 1)))),az 7 0,az 8 0]) <|
  .seq (aq [aF 12 6 4,aJ 13 50 [12],aa 11 13,bu 14 0 11,bu 15 1 11,((some 9),.op (.alloc [(.emp 1),(.emp 1)])),(none,.op (.store 2 (.tmp 9) (.tmp 14))),aa 10 15]) <|
  .seq (.seq (aq [aa 16 10,au 17 .neq 16 0]) <|
  .cond (.tmp 17) (.seq (aq [aa 18 10,((some 6),.op (.aX (.val (.emp 1)))),az 7 0,aa 8 18]) <|
  .ret) (.skip)) <|
  .seq (aq [aF 19 4 3,aF 20 2 9,aa 21 2,aJ 22 16 [19,20,21],bu 23 0 22,bu 24 1 22,bu 25 2 22,aa 6 23,aa 7 24,aa 8 25]) <|
  .ret,
  [.tmp 6,.tmp 7,.tmp 8],26⟩
theorem wc:ba Tryz.prog 22 [3,4]=some pB:=by kernel_rfl
def zQ:SF:=⟨.seq (aq [bz 3 0,bz 4 1,((some 6),.op (.aX (.val (.emp 1)))),az 7 0,az 8 0]) <|
  .seq (aq [aF 12 6 4,aJ 13 49 [12],aa 11 13,bu 14 0 11,bu 15 1 11,((some 9),.op (.alloc [(.emp 1),(.emp 1)])),(none,.op (.store 2 (.tmp 9) (.tmp 14))),aa 10 15]) <|
  .seq (.seq (aq [aa 16 10,au 17 .neq 16 0]) <|
  .cond (.tmp 17) (.seq (aq [aa 18 10,((some 6),.op (.aX (.val (.emp 1)))),az 7 0,aa 8 18]) <|
  .ret) (.skip)) <|
  .seq (aq [aF 19 4 3,aF 20 2 9,aa 21 2,aJ 22 15 [19,20,21],bu 23 0 22,bu 24 1 22,bu 25 2 22,aa 6 23,aa 7 24,aa 8 25]) <|
  .ret,
  [.tmp 6,.tmp 7,.tmp 8],26⟩
theorem Cw:ba Tryz.prog 21 [3,4]=some zQ:=by kernel_rfl
def iB:SF:=⟨.seq (aq [bz 3 0,bz 4 1,aM 6 false]) <|
  .seq (.seq (aq [aJ 13 11 [],bC 14 13]) <|
  .cond (.tmp 14) (.seq (aq [aM 6 false]) <|
  .ret) (.skip)) <|
  .seq (.seq (.region false [⟨none,[aF 15 4 3,aJ 16 12 [15],aa 17 16]⟩,⟨(some (17,false)),[aF 18 6 4,aJ 19 20 [18]]⟩,⟨none,[aS 20 17 19,aa 21 20]⟩,⟨(some (21,false)),[aa 22 2,aA 23 22,au 24 .gtr 23 100]⟩,⟨none,[aS 25 21 24]⟩]) <|
  .cond (.tmp 25) (.seq (aq [aM 6 true]) <|
  .ret) (.skip)) <|
  .seq (aq [aF 27 4 3,aF 28 6 4,aa 29 2,aJ 30 21 [27,28,29],aa 26 30,bu 31 0 26,bu 32 1 26,bu 33 2 26,aa 7 31,aa 8 32,aa 9 33]) <|
  .seq (aq [aF 35 4 3,aF 36 6 4,aa 37 2,aJ 38 22 [35,36,37],aa 34 38,bu 39 0 34,bu 40 1 34,bu 41 2 34,aa 10 39,aa 11 40,aa 12 41]) <|
  .seq (.region false [⟨none,[aa 42 7,aa 43 10,aJ 44 17 [42,43],aa 45 44]⟩,⟨(some (45,true)),[aa 46 8,aa 47 11,aC 48 .eql 46 47]⟩,⟨none,[bq 49 45 48,aa 50 49]⟩,⟨(some (50,true)),[aa 51 9,aa 52 12,aC 53 .eql 51 52]⟩,⟨none,[bq 54 50 53,aa 6 54]⟩]) <|
  .ret,
  [.tmp 6],55⟩
theorem nv:ba Tryz.prog 4 [3,4]=some iB:=by kernel_rfl
set_option maxHeartbeats 4000000 in
theorem Nj (g:ay) (hg:g.Ok) (p:fp) (hp:p.Ok) (w:List Int) (hw:aR w) (hn:∀ x∈w,bJ x):aI Tryz.prog 22 [.agg (ax g),.agg (aZ p),encI w] (kd (runK g p w)):=by
  refine aI.of (Ad g p w) ?_
  have h1:=(GA p hp).pure
  refine aG.of mixed wc ?_
  simp only[aZ,encI] at h1
  simp (disch:=omega) only [↓wr,↓reduceIte,wq,ah,ag,ak,ab,ae,af,ai,isNil,Nat.reduceEqDiff,Nat.reduceAdd,Nat.reduceLT,Nat.reduceLeDiff,Int.reduceNeg,Int.reduceToNat,reduceCtorEq,pB,ax,encS,aZ,encI]
  refine aN.pure h1 (by kernel_rfl) ?_
  unfold runK
  by_cases hr:ez p=true
  · rw[if_pos hr,if_pos hr]
    have h2:=(Jr g hg (cm p) (AR hp hr) w hw hn).pure
    simp only[ax,encS,aW,encI] at h2
    simp (disch:=omega) only [↓wr,↓reduceIte,wq,ah,ag,ak,ab,ae,af,ai,isNil,Nat.reduceEqDiff,Nat.reduceAdd,Nat.reduceLT,Nat.reduceLeDiff,Int.reduceNeg,Int.reduceToNat,reduceCtorEq,aW]
    intro b
    rw[set_set]
    refine ar.ne (fun h=>absurd rfl h) (fun _=>?_)
    simp (disch:=omega) only [↓wr,↓reduceIte,wq,ah,ag,ak,ab,ae,af,ai,isNil,Nat.reduceEqDiff,Nat.reduceAdd,Nat.reduceLT,Nat.reduceLeDiff,Int.reduceNeg,Int.reduceToNat,reduceCtorEq,ax,encS,aW,encI]
    refine aN.pure h2 (by kernel_rfl) ?_
    simp (disch:=omega) only [↓wr,↓reduceIte,wq,ah,ag,ak,ab,ae,af,ai,isNil,Nat.reduceEqDiff,Nat.reduceAdd,Nat.reduceLT,Nat.reduceLeDiff,Int.reduceNeg,Int.reduceToNat,reduceCtorEq,kd]
    intro h' _
    exact .tree _ (C9 (gU g (cm p) w))
  · rw[if_neg hr,if_neg hr]
    simp (disch:=omega) only [↓wr,↓reduceIte,wq,ah,ag,ak,ab,ae,af,ai,isNil,Nat.reduceEqDiff,Nat.reduceAdd,Nat.reduceLT,Nat.reduceLeDiff,Int.reduceNeg,Int.reduceToNat,reduceCtorEq,aW]
    intro b
    rw[set_set]
    refine ar.ne (fun _=>?_) (fun h=>absurd h (by decide))
    simp (disch:=omega) only [↓wr,↓reduceIte,wq,ah,ag,ak,ab,ae,af,ai,isNil,Nat.reduceEqDiff,Nat.reduceAdd,Nat.reduceLT,Nat.reduceLeDiff,Int.reduceNeg,Int.reduceToNat,reduceCtorEq]
    intro h' _
    exact Hw (x:=([],0,1)) (.emp _)
set_option maxHeartbeats 4000000 in
theorem Oc (g:ay) (hg:g.Ok) (hsm:g.Small) (p:fp) (hp:p.Ok) (w:List Int) (hw:aR w) (hn:∀ x∈w,bJ x):aI Tryz.prog 21 [.agg (ax g),.agg (aZ p),encI w] (kd (runK g p w)):=by
  refine aI.of (Ad g p w) ?_
  have h1:=(IQ p hp).pure
  refine aG.of mixed Cw ?_
  simp only[aZ,encI] at h1
  simp (disch:=omega) only [↓wr,↓reduceIte,wq,ah,ag,ak,ab,ae,af,ai,isNil,Nat.reduceEqDiff,Nat.reduceAdd,Nat.reduceLT,Nat.reduceLeDiff,Int.reduceNeg,Int.reduceToNat,reduceCtorEq,zQ,ax,encS,aZ,encI]
  refine aN.pure h1 (by kernel_rfl) ?_
  unfold runK
  by_cases hr:ez p=true
  · rw[if_pos hr,if_pos hr]
    have h2:=(oq g hg hsm (cm p) (AR hp hr) w hw hn).pure
    simp only[ax,encS,aW,encI] at h2
    simp (disch:=omega) only [↓wr,↓reduceIte,wq,ah,ag,ak,ab,ae,af,ai,isNil,Nat.reduceEqDiff,Nat.reduceAdd,Nat.reduceLT,Nat.reduceLeDiff,Int.reduceNeg,Int.reduceToNat,reduceCtorEq,aW]
    intro b
    rw[set_set]
    refine ar.ne (fun h=>absurd rfl h) (fun _=>?_)
    simp (disch:=omega) only [↓wr,↓reduceIte,wq,ah,ag,ak,ab,ae,af,ai,isNil,Nat.reduceEqDiff,Nat.reduceAdd,Nat.reduceLT,Nat.reduceLeDiff,Int.reduceNeg,Int.reduceToNat,reduceCtorEq,ax,encS,aW,encI]
    refine aN.pure h2 (by kernel_rfl) ?_
    simp (disch:=omega) only [↓wr,↓reduceIte,wq,ah,ag,ak,ab,ae,af,ai,isNil,Nat.reduceEqDiff,Nat.reduceAdd,Nat.reduceLT,Nat.reduceLeDiff,Int.reduceNeg,Int.reduceToNat,reduceCtorEq,kd]
    intro h' _
    exact .tree _ (C9 (gU g (cm p) w))
  · rw[if_neg hr,if_neg hr]
    simp (disch:=omega) only [↓wr,↓reduceIte,wq,ah,ag,ak,ab,ae,af,ai,isNil,Nat.reduceEqDiff,Nat.reduceAdd,Nat.reduceLT,Nat.reduceLeDiff,Int.reduceNeg,Int.reduceToNat,reduceCtorEq,aW]
    intro b
    rw[set_set]
    refine ar.ne (fun _=>?_) (fun h=>absurd h (by decide))
    simp (disch:=omega) only [↓wr,↓reduceIte,wq,ah,ag,ak,ab,ae,af,ai,isNil,Nat.reduceEqDiff,Nat.reduceAdd,Nat.reduceLT,Nat.reduceLeDiff,Int.reduceNeg,Int.reduceToNat,reduceCtorEq]
    intro h' _
    exact Hw (x:=([],0,1)) (.emp _)
def uS (p:fp):Bool:=decide (310 < p.rows.length) || decide (310 < p.gotos.length) || decide (310 < p.of.length) || decide (310 < p.to.length) || p.rows.any (fun r=>decide (50 < r.length)) || p.gotos.any fun r=>decide (50 < r.length)
set_option maxHeartbeats 4000000 in
theorem I3 (p:fp) (hp:p.Ok):aI Tryz.prog 20 [.agg (aZ p)] (gb (uS p)):=by
  refine aI.val (yE p) fun H=>?_
  have h1:=hp.of.1
  have h2:=hp.to.1
  have h3:=hp.rows
  have h4:=hp.gotos
  unfold aR at h1 h2 h3 h4
  refine aG.of mixed tf ?_
  have hbig:(310 < p.rows.length∨310 < p.gotos.length∨310 < p.of.length∨310 < p.to.length)→gb true=gb (uS p):=fun h=>by
    have:uS p=true:=by
      unfold uS
      simp only[Bool.or_eq_true,decide_eq_true_eq]
      rcases h with h | h | h | h <;> simp[h]
    rw[this]
  simp (disch:=omega) only [↓wr,↓reduceIte,wq,ah,ag,ak,ab,ae,af,ai,isNil,Nat.reduceEqDiff,Nat.reduceAdd,Nat.reduceLT,Nat.reduceLeDiff,Int.reduceNeg,Int.reduceToNat,reduceCtorEq,mB,aZ]
  repeat' (first | (refine ar.dec (fun _=>?_) (fun _=>?_)) | (refine ar.eq (fun _=>?_) (fun _=>?_)) | (refine ar.ne (fun _=>?_) (fun _=>?_)) | (refine ar.split (fun _=>?_) (fun _=>?_)) | (simp (disch:=omega) only [↓wr,↓reduceIte,wq,ah,ag,ak,ab,ae,af,ai,isNil,Nat.reduceEqDiff,Nat.reduceAdd,Nat.reduceLT,Nat.reduceLeDiff,Int.reduceNeg,Int.reduceToNat,reduceCtorEq,aZ,encI]))
  all_goals try exact hbig (by omega)
  rw[show uS p=(p.rows.any (fun r=>decide (50 < r.length)) || p.gotos.any fun r=>decide (50 < r.length)) by
    unfold uS
    rw[decide_eq_false (show ¬ 310 < p.rows.length by omega),decide_eq_false (show ¬ 310 < p.gotos.length by omega),decide_eq_false (show ¬ 310 < p.of.length by omega),decide_eq_false (show ¬ 310 < p.to.length by omega)]; rfl]
  refine bp.up p.rows.length (fun i T H'=>(p.rows.take i).any (fun r=>decide (50 < r.length))=false∧T 1=.aQ (aZ p) 0∧T 3=gi i) ⟨by simp,rfl,rfl⟩ ?_
  rintro i k T H' hk ⟨hall,t1,t3⟩
  simp (disch:=omega) only [↓wr,↓reduceIte,wq,ah,ag,ak,ab,ae,af,ai,isNil,Nat.reduceEqDiff,Nat.reduceAdd,Nat.reduceLT,Nat.reduceLeDiff,Int.reduceNeg,Int.reduceToNat,reduceCtorEq,kV,t1,t3,aZ]
  refine ar.dec (fun hc=>?_) (fun hc=>?_)
  · have ha:p.rows[i]?=some (p.rows[i]'(by omega)):=List.getElem?_eq_getElem (by omega)
    have htk:p.rows.take (i+1)=p.rows.take i ++ [p.rows[i]'(by omega)]:=by rw[List.take_add_one,ha]; rfl
    have hmem:=List.mem_of_getElem? ha
    generalize p.rows[i]'(by omega)=r at ha htk hmem
    have hsr:=(hp.row r hmem).1
    unfold aR at hsr
    simp (disch:=omega) only [↓wr,↓reduceIte,wq,ah,ag,ak,ab,ae,af,ai,isNil,Nat.reduceEqDiff,Nat.reduceAdd,Nat.reduceLT,Nat.reduceLeDiff,Int.reduceNeg,Int.reduceToNat,reduceCtorEq,t1,t3,aZ,List.getElem?_map,ha,Option.map_some]
    refine ar.dec (fun hl=>?_) (fun hl=>?_)
    · simp (disch:=omega) only [↓wr,↓reduceIte,wq,ah,ag,ak,ab,ae,af,ai,isNil,Nat.reduceEqDiff,Nat.reduceAdd,Nat.reduceLT,Nat.reduceLeDiff,Int.reduceNeg,Int.reduceToNat,reduceCtorEq]
      rw[show p.rows.any (fun r=>decide (50 < r.length))=true from List.any_eq_true.2 ⟨r,hmem,by simp; omega⟩]; rfl
    · simp (disch:=omega) only [↓wr,↓reduceIte,wq,ah,ag,ak,ab,ae,af,ai,isNil,Nat.reduceEqDiff,Nat.reduceAdd,Nat.reduceLT,Nat.reduceLeDiff,Int.reduceNeg,Int.reduceToNat,reduceCtorEq,t1,t3]
      exact br hk (by omega) ⟨by rw[htk,List.any_append,hall]; simp; omega,t1,rfl⟩
  rw[List.take_of_length_le (by omega)] at hall
  rw[hall,Bool.false_or]
  simp (disch:=omega) only [↓wr,↓reduceIte,wq,ah,ag,ak,ab,ae,af,ai,isNil,Nat.reduceEqDiff,Nat.reduceAdd,Nat.reduceLT,Nat.reduceLeDiff,Int.reduceNeg,Int.reduceToNat,reduceCtorEq,t1,t3]
  refine bp.up p.gotos.length (fun i T H'=>(p.gotos.take i).any (fun r=>decide (50 < r.length))=false∧T 1=.aQ (aZ p) 0∧T 4=gi i) ⟨by simp,t1,rfl⟩ ?_
  rintro i2 k2 T2 H2 hk2 ⟨hall2,t1,t4⟩
  simp (disch:=omega) only [↓wr,↓reduceIte,wq,ah,ag,ak,ab,ae,af,ai,isNil,Nat.reduceEqDiff,Nat.reduceAdd,Nat.reduceLT,Nat.reduceLeDiff,Int.reduceNeg,Int.reduceToNat,reduceCtorEq,kM,t1,t4,aZ]
  refine ar.dec (fun hc=>?_) (fun hc=>?_)
  · have ha:p.gotos[i2]?=some (p.gotos[i2]'(by omega)):=List.getElem?_eq_getElem (by omega)
    have htk:p.gotos.take (i2+1)=p.gotos.take i2 ++ [p.gotos[i2]'(by omega)]:=by rw[List.take_add_one,ha]; rfl
    have hmem:=List.mem_of_getElem? ha
    generalize p.gotos[i2]'(by omega)=r at ha htk hmem
    have hsr:=(hp.go r hmem).1
    unfold aR at hsr
    simp (disch:=omega) only [↓wr,↓reduceIte,wq,ah,ag,ak,ab,ae,af,ai,isNil,Nat.reduceEqDiff,Nat.reduceAdd,Nat.reduceLT,Nat.reduceLeDiff,Int.reduceNeg,Int.reduceToNat,reduceCtorEq,t1,t4,aZ,List.getElem?_map,ha,Option.map_some]
    refine ar.dec (fun hl=>?_) (fun hl=>?_)
    · simp (disch:=omega) only [↓wr,↓reduceIte,wq,ah,ag,ak,ab,ae,af,ai,isNil,Nat.reduceEqDiff,Nat.reduceAdd,Nat.reduceLT,Nat.reduceLeDiff,Int.reduceNeg,Int.reduceToNat,reduceCtorEq]
      rw[show p.gotos.any (fun r=>decide (50 < r.length))=true from List.any_eq_true.2 ⟨r,hmem,by simp; omega⟩]
    · simp (disch:=omega) only [↓wr,↓reduceIte,wq,ah,ag,ak,ab,ae,af,ai,isNil,Nat.reduceEqDiff,Nat.reduceAdd,Nat.reduceLT,Nat.reduceLeDiff,Int.reduceNeg,Int.reduceToNat,reduceCtorEq,t1,t4]
      exact br hk2 (by omega) ⟨by rw[htk,List.any_append,hall2]; simp; omega,t1,rfl⟩
  rw[List.take_of_length_le (by omega)] at hall2
  rw[hall2]
  simp (disch:=omega) only [↓wr,↓reduceIte,wq,ah,ag,ak,ab,ae,af,ai,isNil,Nat.reduceEqDiff,Nat.reduceAdd,Nat.reduceLT,Nat.reduceLeDiff,Int.reduceNeg,Int.reduceToNat,reduceCtorEq]
theorem Iv (g:ay) (p:fp) (w:List Int):aR (runK g p w).1:=by
  unfold runK
  split
  · exact FN _ _ _
  · unfold aR; simp
set_option maxHeartbeats 4000000 in
theorem B2 (g:ay) (hg:g.Ok) (p:fp) (hp:p.Ok) (w:List Int) (hw:aR w) (hn:∀ x∈w,bJ x):aI Tryz.prog 4 [.agg (ax g),.agg (aZ p),encI w] (gb true):=by
  refine aI.val (Ad g p w) fun H=>?_
  refine aG.of mixed nv ?_
  have hw':=hw
  unfold aR at hw'
  have hb:=I3 p hp
  simp (disch:=omega) only [↓wr,↓reduceIte,wq,ah,ag,ak,ab,ae,af,ai,isNil,Nat.reduceEqDiff,Nat.reduceAdd,Nat.reduceLT,Nat.reduceLeDiff,Int.reduceNeg,Int.reduceToNat,reduceCtorEq,iB,ax,encS,aZ,encI]
  refine aN.pure Ju (by kernel_rfl) ?_
  simp (disch:=omega) only [↓wr,↓reduceIte,wq,ah,ag,ak,ab,ae,af,ai,isNil,Nat.reduceEqDiff,Nat.reduceAdd,Nat.reduceLT,Nat.reduceLeDiff,Int.reduceNeg,Int.reduceToNat,reduceCtorEq,ax,encS]
  refine aN.pure (Md g) (by kernel_rfl) ?_
  simp (disch:=omega) only [↓wr,↓reduceIte,wq,ah,ag,ak,ab,ae,af,ai,isNil,Nat.reduceEqDiff,Nat.reduceAdd,Nat.reduceLT,Nat.reduceLeDiff,Int.reduceNeg,Int.reduceToNat,reduceCtorEq]
  refine ar.split (fun e=>?_) (fun e=>?_)
  · simp (disch:=omega) only [↓wr,↓reduceIte,wq,ah,ag,ak,ab,ae,af,ai,isNil,Nat.reduceEqDiff,Nat.reduceAdd,Nat.reduceLT,Nat.reduceLeDiff,Int.reduceNeg,Int.reduceToNat,reduceCtorEq]
  have hsm:g.Small:=Gp e
  simp only[aZ,encI] at hb
  simp (disch:=omega) only [↓wr,↓reduceIte,wq,ah,ag,ak,ab,ae,af,ai,isNil,Nat.reduceEqDiff,Nat.reduceAdd,Nat.reduceLT,Nat.reduceLeDiff,Int.reduceNeg,Int.reduceToNat,reduceCtorEq,aZ]
  refine aN.pure hb (by kernel_rfl) ?_
  simp (disch:=omega) only [↓wr,↓reduceIte,wq,ah,ag,ak,ab,ae,af,ai,isNil,Nat.reduceEqDiff,Nat.reduceAdd,Nat.reduceLT,Nat.reduceLeDiff,Int.reduceNeg,Int.reduceToNat,reduceCtorEq]
  refine ar.split (fun _=>?_) (fun _=>?_)
  · simp (disch:=omega) only [↓wr,↓reduceIte,wq,ah,ag,ak,ab,ae,af,ai,isNil,Nat.reduceEqDiff,Nat.reduceAdd,Nat.reduceLT,Nat.reduceLeDiff,Int.reduceNeg,Int.reduceToNat,reduceCtorEq]
  simp (disch:=omega) only [↓wr,↓reduceIte,wq,ah,ag,ak,ab,ae,af,ai,isNil,Nat.reduceEqDiff,Nat.reduceAdd,Nat.reduceLT,Nat.reduceLeDiff,Int.reduceNeg,Int.reduceToNat,reduceCtorEq,encI]
  refine ar.dec (fun hl=>?_) (fun hl=>?_)
  · simp (disch:=omega) only [↓wr,↓reduceIte,wq,ah,ag,ak,ab,ae,af,ai,isNil,Nat.reduceEqDiff,Nat.reduceAdd,Nat.reduceLT,Nat.reduceLeDiff,Int.reduceNeg,Int.reduceToNat,reduceCtorEq]
  have p1:=Oc g hg hsm p hp w hw hn
  have p2:=Nj g hg p hp w hw hn
  have p3:=Iv g p w
  generalize runK g p w=y at p1 p2 p3
  obtain ⟨y1,y2,y3⟩:=y
  have he:=B6 y1 y1 p3
  rw[beq_self_eq_true] at he
  simp only[ax,encS,aZ,encI,kd] at p1 p2 he
  simp (disch:=omega) only [↓wr,↓reduceIte,wq,ah,ag,ak,ab,ae,af,ai,isNil,Nat.reduceEqDiff,Nat.reduceAdd,Nat.reduceLT,Nat.reduceLeDiff,Int.reduceNeg,Int.reduceToNat,reduceCtorEq,ax,encS,aZ,encI]
  refine aN.pure p1 (by kernel_rfl) ?_
  simp (disch:=omega) only [↓wr,↓reduceIte,wq,ah,ag,ak,ab,ae,af,ai,isNil,Nat.reduceEqDiff,Nat.reduceAdd,Nat.reduceLT,Nat.reduceLeDiff,Int.reduceNeg,Int.reduceToNat,reduceCtorEq,ax,encS,aZ,encI]
  refine aN.pure p2 (by kernel_rfl) ?_
  simp (disch:=omega) only [↓wr,↓reduceIte,wq,ah,ag,ak,ab,ae,af,ai,isNil,Nat.reduceEqDiff,Nat.reduceAdd,Nat.reduceLT,Nat.reduceLeDiff,Int.reduceNeg,Int.reduceToNat,reduceCtorEq,encI]
  refine aN.pure he (by kernel_rfl) ?_
  simp (disch:=omega) only [↓wr,↓reduceIte,wq,ah,ag,ak,ab,ae,af,ai,isNil,Nat.reduceEqDiff,Nat.reduceAdd,Nat.reduceLT,Nat.reduceLeDiff,Int.reduceNeg,Int.reduceToNat,reduceCtorEq]
  refine ar.split (fun _=>?_) (fun h=>absurd h (by simp))
  simp (disch:=omega) only [↓wr,↓reduceIte,wq,ah,ag,ak,ab,ae,af,ai,isNil,Nat.reduceEqDiff,Nat.reduceAdd,Nat.reduceLT,Nat.reduceLeDiff,Int.reduceNeg,Int.reduceToNat,reduceCtorEq]
  rw[beq_self_eq_true]
end Gv
