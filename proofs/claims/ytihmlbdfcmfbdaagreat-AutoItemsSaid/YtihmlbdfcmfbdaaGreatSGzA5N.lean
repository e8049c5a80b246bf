/-
  Part 14 of the proof: what the machine does and what the functions answer.
  Conditions: those that each lemma names.
-/
import Derived.Test.YtihmlbdfcmfbdaaGreatSGzA5M
set_option linter.unusedSimpArgs false
set_option linter.unusedVariables false
set_option maxRecDepth 100000
namespace Gv
open Go Go.Proofs
section
variable {P:Program} {T:Env} {H:View} {K:V→View→Prop} {w:cq (T,H,K)} {t ty:TypeId}
theorem Cm {d:Operand} {id off len sz bytes s:Nat} {z:List V} {es:List (List V)} (he:qk P t=some (sz,bytes,z)) (hd:ev T d=.sl id off len sz) (hH:H id=.arr s es) (hl:off+len≤es.length) (h0:len≠0)
    (hk:K (.bg []) (H.set id (.arr sz (eh es off (List.replicate len z))))):tc P (.call { callee:=.builtin .clear,args:=#[d],argTypes:=#[t] }) ty T H K w:=by
  obtain ⟨e,ti,hse,hi,hti,hz,hzl,hzok,hs0,rfl,rfl⟩:=mq he
  intro n _
  refine ⟨.bg [],.eF id (.arr ti.size (eh es off (List.replicate len z))),[id],?_,hk⟩
  simp only[sI,bO,oper]
  simp only[List.all_eq_true] at hzok
  simp[rz,hse,hd,cF,hti,h0,hH,hl,hs0,hz,hzl,hzok]
  exact hzok
end
theorem pq:∀ (xs A B:List (List V)),xs.length≤B.length→eh (A ++ B) A.length xs=A ++ xs ++ B.drop xs.length
  | [],A,B,_=>by simp[eh]
  | x :: r,A,[],h=>by simp at h
  | x :: r,A,b :: B,h=>by
    rw[eh,List.set_append_right _ _ (Nat.le_refl _),Nat.sub_self,List.set_cons_zero]
    have:=pq r (A ++ [x]) B (by simpa using h)
    simpa using this
theorem pa {id off k m:Nat} (hm:m≤k):fi 2 (.sl id off k 2) (some (gi m)) none=some (.sl id (off+m) (k - m) 2,.none,[]):=by
  simp[fi,bound,asNat,hm]
theorem uP {id off k m:Nat} (hm:m≤k):fi 2 (.sl id off k 2) none (some (gi m))=some (.sl id off m 2,.none,[]):=by
  simp[fi,bound,asNat,hm]
def eE:SC :=
  .seq (.seq (al [aa 29 5,aa 30 4,aR 31 30,aS 32 .lss 29 31]) <|
  .cond (.tmp 32) (.skip) (.exit 2)) <|
  .seq (.block 3 (.seq (al [aa 35 4,aa 36 5,aZ 37 2 35 36,aK 38 2 37,aa 39 4,aa 40 5,az 41 .sub 40 1,aZ 42 2 39 41,aK 43 2 42,((some 44),.op (.old (.binOp .neq 33 (.tmp 38) (.tmp 43) 33) 4))]) <|
  .cond (.tmp 44) (.seq (al [aa 45 0,aa 46 3,aa 47 4,aa 48 5,aZ 49 2 47 48,aK 50 2 49,aZ 51 2 45 46,(none,.op (.store 2 (.tmp 51) (.tmp 50)))]) <|
  al [aa 52 3,az 53 .add 52 1,aa 3 53]) (.skip))) <|
  al [aa 33 5,az 34 .add 33 1,aa 5 34]
def eJ:SC :=
  .seq (.seq (al [aa 10 3,aa 11 0,aR 12 11,aS 13 .lss 10 12]) <|
  .cond (.tmp 13) (.skip) (.exit 0)) <|
  .seq (.block 1 (.seq (al [aa 16 0,aa 17 3,aZ 18 2 16 17,aK 19 2 18,aa 20 0,aa 21 3,az 22 .sub 21 1,aZ 23 2 20 22,aK 24 2 23,((some 25),.op (.old (.binOp .eql 33 (.tmp 19) (.tmp 24) 33) 4))]) <|
  .cond (.tmp 25) (.seq (al [aa 26 0,aa 27 3,((some 28),.op (.slice 2 (.tmp 26) (some (.tmp 27)) none)),aa 4 28]) <|
  .seq (.seq (al [aJ 5 1]) <|
  .block 2 (.loop eE)) <|
  .seq (al [aa 54 0,aa 55 3,((some 56),.op (.slice 2 (.tmp 54) (some (.tmp 55)) none)),(none,.op (.old (.call { callee:=.builtin .clear,args:=#[(.tmp 56)],argTypes:=#[27] }) 0))]) <|
  .seq (al [aa 57 0,aa 58 3,((some 59),.op (.slice 2 (.tmp 57) none (some (.tmp 58)))),aa 2 59]) <|
  .ret) (.skip))) <|
  al [aa 14 3,az 15 .add 14 1,aa 3 15]
def eS:SF:=⟨.seq (al [((some 2),.op (.bk (.val (.emp 1))))]) <|
  .seq (.seq (al [aa 6 0,aR 7 6,az 8 .lss 7 2]) <|
  .cond (.tmp 8) (.seq (al [aa 9 0,aa 2 9]) <|
  .ret) (.skip)) <|
  .seq (.seq (al [aJ 3 1]) <|
  .block 0 (.loop eJ)) <|
  .seq (al [aa 60 0,aa 2 60]) <|
  .ret,
  [.tmp 2],61⟩
theorem ij:bf Tryz.prog 114 []=some eS:=by kernel_rfl
def wO:SF:=⟨.seq (al [((some 2),.op (.bk (.val (.emp 1))))]) <|
  .seq (al [aa 3 0,cX 4 112 [(.tmp 3),(.val (.fn 113 [] []))]]) <|
  .seq (al [aa 5 0,aH 6 114 [5],aa 2 6]) <|
  .ret,
  [.tmp 2],7⟩
theorem zS:bf Tryz.prog 64 []=some wO:=by kernel_rfl
theorem km {l:List aI} {i:Nat} (h:i < l.length):(aL l).getD i []=[gi (l.getD i dK).aF,gi (l.getD i dK).dot]:=uT (getD_some h)
theorem y6 (l:List aI) (i j:Nat) (x d:aI) (hi:i < l.length):(l.set i x).getD j d=if i=j then x else l.getD j d:=by
  rw[BN]
  by_cases e:i=j
  · rw[if_pos ⟨e,hi⟩,if_pos e]
  · rw[if_neg (fun h=>e h.1),if_neg e]
set_option maxHeartbeats 16000000 in
theorem Hm (l:List aI) (hn:l.length≤100000) (u:V) (H:View) (ho:aO H u 2 (aL l)):aB Tryz.prog 114 [u] H fun r H'=>(∀ id,owner u≠some id→H' id=H id)∧aO H' r 2 (aL (dX l l.length))∧owner r=owner u:=by
  refine aB.cut (K:=fun r H'=>(H'=H∧r=u∧dX l l.length=l)∨∃ id rest,u=.sl id 0 l.length 2∧r=.sl id 0 (dX l l.length).length 2∧H'=H.set id (.arr 2 (aL (dX l l.length) ++ rest))) ?_ ?_
  rotate_left
  · rintro r H' (⟨rfl,rfl,e⟩ | ⟨id,rest,rfl,rfl,rfl⟩)
    · exact .inl ⟨fun _ _=>rfl,by rw[e]; exact ho,rfl⟩
    · refine .inr ⟨id,2,aL (dX l l.length),rest,by simp[View.set],fun j hj=>?_,?_,rfl⟩
      · rw[set_set]
        simp only[View.set]
        rw[if_neg (fun e=>hj (by rw[e]; rfl))]
      · rw[set_set]
        exact .inr ⟨id,by rw[bj],by simp[View.set]⟩
  refine aB.of mixed ij ?_
  have hlen:cF u=some l.length:=by rw[ho.len,bj]
  simp (disch:=omega) only [↓wr,↓reduceIte,wq,ah,ag,aj,ab,ae,af,ai,isNil,Nat.reduceEqDiff,Nat.reduceAdd,Nat.reduceLT,Nat.reduceLeDiff,Int.reduceNeg,Int.reduceToNat,reduceCtorEq,eS,hlen]
  refine av.dec (fun h2=>?_) (fun h2=>?_)
  · simp (disch:=omega) only [↓wr,↓reduceIte,wq,ah,ag,aj,ab,ae,af,ai,isNil,Nat.reduceEqDiff,Nat.reduceAdd,Nat.reduceLT,Nat.reduceLeDiff,Int.reduceNeg,Int.reduceToNat,reduceCtorEq]
    left
    try refine ⟨rfl,rfl,?_⟩
    match l,h2 with
    | [],_=>rfl
    | [x],_=>rfl
    | _ :: _ :: _,h2=>simp at h2; omega
  obtain ⟨id,hu,hid⟩:=ho.sl (by rw[bj]; omega)
  rw[bj] at hu
  subst hu
  simp (disch:=omega) only [↓wr,↓reduceIte,wq,ah,ag,aj,ab,ae,af,ai,isNil,Nat.reduceEqDiff,Nat.reduceAdd,Nat.reduceLT,Nat.reduceLeDiff,Int.reduceNeg,Int.reduceToNat,reduceCtorEq]
  refine bH.up (l.length - 1) (fun i T H'=>H=H'∧(∀ j,0 < j→j < i+1→l.getD j dK≠l.getD (j - 1) dK)∧T 0=.sl id 0 l.length 2∧T 3=gi ((i+1:Nat):Int)) ⟨rfl,fun j h1 h2=>by omega,rfl,rfl⟩ ?_
  rintro i k T _ hk ⟨rfl,hne,t0,t3⟩
  simp (disch:=omega) only [↓wr,↓reduceIte,wq,ah,ag,aj,ab,ae,af,ai,isNil,Nat.reduceEqDiff,Nat.reduceAdd,Nat.reduceLT,Nat.reduceLeDiff,Int.reduceNeg,Int.reduceToNat,reduceCtorEq,eJ,t0,t3]
  refine av.dec (fun hc=>?_) (fun hc=>?_)
  rotate_left
  · simp (disch:=omega) only [↓wr,↓reduceIte,wq,ah,ag,aj,ab,ae,af,ai,isNil,Nat.reduceEqDiff,Nat.reduceAdd,Nat.reduceLT,Nat.reduceLeDiff,Int.reduceNeg,Int.reduceToNat,reduceCtorEq,t0]
    left
    try refine ⟨rfl,rfl,?_⟩
    rw[vn l _ (Nat.le_refl _) (fun j h1 h2=>hne j h1 (by omega)),List.take_length]
  have hi1:i+1 < l.length:=by omega
  have e1:(((i+1:Nat):Int) - 1)=(i:Int):=by omega
  simp (disch:=omega) only [↓wr,↓reduceIte,wq,ah,ag,aj,ab,ae,af,ai,isNil,Nat.reduceEqDiff,Nat.reduceAdd,Nat.reduceLT,Nat.reduceLeDiff,Int.reduceNeg,Int.reduceToNat,reduceCtorEq,t0,t3,hid,km hi1,km (show i < l.length by omega),e1]
  refine ⟨by omega,by rw[bj]; omega,?_⟩
  refine ⟨by omega,by rw[bj]; omega,?_⟩
  generalize hx:l.getD (i+1) dK=x
  generalize hy:l.getD i dK=y
  refine jY (xs:=#[.int .i64 x.aF,.int .i64 x.dot]) (ys:=#[.int .i64 y.aF,.int .i64 y.dot]) Tryz.underlying33 (by kernel_rfl) (by kernel_rfl) ?_ ?_ (qz x y) (.inl ⟨rfl,rfl⟩) ?_
  · rfl
  · rfl
  rw[zb]
  simp (disch:=omega) only [↓wr,↓reduceIte,wq,ah,ag,aj,ab,ae,af,ai,isNil,Nat.reduceEqDiff,Nat.reduceAdd,Nat.reduceLT,Nat.reduceLeDiff,Int.reduceNeg,Int.reduceToNat,reduceCtorEq,t0,t3]
  refine av.dec (fun heq=>?_) (fun heq=>?_)
  rotate_left
  · simp (disch:=omega) only [↓wr,↓reduceIte,wq,ah,ag,aj,ab,ae,af,ai,isNil,Nat.reduceEqDiff,Nat.reduceAdd,Nat.reduceLT,Nat.reduceLeDiff,Int.reduceNeg,Int.reduceToNat,reduceCtorEq,t0,t3]
    refine bD hk (by omega) ⟨rfl,fun j h1 h2=>?_,t0,by push_cast; rfl⟩
    rcases Nat.lt_or_ge j (i+1) with q | q
    · exact hne j h1 q
    · have:j=i+1:=by omega
      subst this
      rw[Nat.add_sub_cancel,hx,hy]; exact heq
  have hstart:dX l (i+1+1)=l.take (i+1):=by
    rw[dX,if_neg,vn l (i+1) (by omega) hne]
    rw[Nat.add_sub_cancel,hx,hy]
    simp[heq]
  simp (disch:=omega) only [↓wr,↓reduceIte,wq,ah,ag,aj,ab,ae,af,ai,isNil,Nat.reduceEqDiff,Nat.reduceAdd,Nat.reduceLT,Nat.reduceLeDiff,Int.reduceNeg,Int.reduceToNat,reduceCtorEq,t0,t3,pa (id:=id) (off:=0) (k:=l.length) (m:=i+1) (by omega)]
  refine bH.up (l.length - (i+1) - 1) (fun i2 T H'=>∃ (kk:Nat) (cur:List aI),H'=H.set id (.arr 2 (aL cur))∧cur.length=l.length∧i+1≤kk∧kk≤i+1+i2∧cur.take kk=dX l (i+1+(i2+1))∧(∀ j,kk≤j→cur.getD j dK=l.getD j dK) ∧
    T 0=.sl id 0 l.length 2∧T 3=gi kk∧T 4=.sl id (i+1) (l.length - (i+1)) 2∧T 5=gi ((i2+1:Nat):Int)) ⟨i+1,l,?_,rfl,Nat.le_refl _,by omega,by rw[hstart],fun _ _=>rfl,t0,t3,?_,rfl⟩ ?_
  · funext j; simp only[View.set]; split
    · rename_i e; rw[e,hid]
    · rfl
  · rfl
  clear t0 t3 hk
  rintro i2 k2 T2 _ hk2 ⟨kk,cur,rfl,hcl,k1,k3,hct,hcj,t0,t3,t4,t5⟩
  have hset:(H.set id (.arr 2 (aL cur))) id=.arr 2 (aL cur):=by simp[View.set]
  simp (disch:=omega) only [↓wr,↓reduceIte,wq,ah,ag,aj,ab,ae,af,ai,isNil,Nat.reduceEqDiff,Nat.reduceAdd,Nat.reduceLT,Nat.reduceLeDiff,Int.reduceNeg,Int.reduceToNat,reduceCtorEq,eE,t0,t3,t4,t5]
  refine av.dec (fun hc2=>?_) (fun hc2=>?_)
  · have hp:i+1+(i2+1) < l.length:=by omega
    have e2:(((i2+1:Nat):Int) - 1)=(i2:Int):=by omega
    simp (disch:=omega) only [↓wr,↓reduceIte,wq,ah,ag,aj,ab,ae,af,ai,isNil,Nat.reduceEqDiff,Nat.reduceAdd,Nat.reduceLT,Nat.reduceLeDiff,Int.reduceNeg,Int.reduceToNat,reduceCtorEq,t0,t3,t4,t5,hset,e2,km (l:=cur) (show i+1+(i2+1) < cur.length by omega),km (l:=cur) (show i+1+i2 < cur.length by omega)]
    refine ⟨by omega,by rw[bj]; omega,?_⟩
    refine ⟨by omega,by rw[bj]; omega,?_⟩
    rw[hcj _ (show kk≤i+1+(i2+1) by omega),hcj _ (show kk≤i+1+i2 by omega)]
    generalize hx2:l.getD (i+1+(i2+1)) dK=x2
    generalize hy2:l.getD (i+1+i2) dK=y2
    refine jY (xs:=#[.int .i64 x2.aF,.int .i64 x2.dot]) (ys:=#[.int .i64 y2.aF,.int .i64 y2.dot]) Tryz.underlying33 (by kernel_rfl) (by kernel_rfl) ?_ ?_ (qz x2 y2) (.inr ⟨rfl,rfl⟩) ?_
    · rfl
    · rfl
    rw[zb]
    simp (disch:=omega) only [↓wr,↓reduceIte,wq,ah,ag,aj,ab,ae,af,ai,isNil,Nat.reduceEqDiff,Nat.reduceAdd,Nat.reduceLT,Nat.reduceLeDiff,Int.reduceNeg,Int.reduceToNat,reduceCtorEq,t0,t3,t4,t5]
    have hcu:dX l (i+1+(i2+1+1))=if x2=y2 then dX l (i+1+(i2+1)) else dX l (i+1+(i2+1)) ++ [x2]:=by
      rw[show i+1+(i2+1+1)=(i+1+(i2+1))+1 by omega,dX,hx2,show i+1+(i2+1) - 1=i+1+i2 by omega,hy2]
      by_cases e:x2=y2
      · rw[if_pos e,if_neg (by simp[e])]
      · rw[if_neg e,if_pos (.inr e)]
    refine av.dec (fun he=>?_) (fun he=>?_)
    · simp (disch:=omega) only [↓wr,↓reduceIte,wq,ah,ag,aj,ab,ae,af,ai,isNil,Nat.reduceEqDiff,Nat.reduceAdd,Nat.reduceLT,Nat.reduceLeDiff,Int.reduceNeg,Int.reduceToNat,reduceCtorEq,t0,t3,t4,t5]
      rw[if_pos he] at hcu
      exact bD hk2 (by omega) ⟨kk,cur,rfl,hcl,k1,by omega,by rw[hcu]; exact hct,hcj,t0,t3,t4,by push_cast; rfl⟩
    · simp (disch:=omega) only [↓wr,↓reduceIte,wq,ah,ag,aj,ab,ae,af,ai,isNil,Nat.reduceEqDiff,Nat.reduceAdd,Nat.reduceLT,Nat.reduceLeDiff,Int.reduceNeg,Int.reduceToNat,reduceCtorEq,t0,t3,t4,t5,hset,km (l:=cur) (show i+1+(i2+1) < cur.length by omega)]
      rw[hcj _ (show kk≤i+1+(i2+1) by omega),hx2]
      have hkl:(aL cur).getD kk []=[gi (cur.getD kk dK).aF,gi (cur.getD kk dK).dot]:=km (by omega)
      have hse:(aL cur).set kk [gi x2.aF,gi x2.dot]=aL (cur.set kk x2):=by simp[aL,List.map_set,aQ]
      simp (disch:=omega) only [↓wr,↓reduceIte,wq,ah,ag,aj,ab,ae,af,ai,isNil,Nat.reduceEqDiff,Nat.reduceAdd,Nat.reduceLT,Nat.reduceLeDiff,Int.reduceNeg,Int.reduceToNat,reduceCtorEq,t0,t3,t4,t5,hset,hkl,hse]
      rw[set_set]
      rw[if_neg he] at hcu
      refine ⟨by omega,by rw[bj]; omega,?_⟩
      refine ⟨by omega,by rw[bj]; omega,?_⟩
      refine bD hk2 (by omega) ⟨kk+1,cur.set kk x2,rfl,by simp[hcl],by omega,by omega,?_,fun j hj=>?_,t0,by push_cast; rfl,t4,by push_cast; rfl⟩
      · rw[hcu,← hct,List.take_add_one,List.take_set_of_le (Nat.le_refl _),List.getElem?_set_self (by omega)]; rfl
      · rw[y6 _ _ _ _ _ (by omega),if_neg (by omega)]
        exact hcj j (by omega)
  · have hi2:i+1+(i2+1)=l.length:=by omega
    rw[hi2] at hct
    have hz:l.length - kk≠0:=by omega
    have hkl:kk=(dX l l.length).length:=by rw[← hct,List.length_take]; omega
    simp (disch:=omega) only [↓wr,↓reduceIte,wq,ah,ag,aj,ab,ae,af,ai,isNil,Nat.reduceEqDiff,Nat.reduceAdd,Nat.reduceLT,Nat.reduceLeDiff,Int.reduceNeg,Int.reduceToNat,reduceCtorEq,t0,t3,pa (id:=id) (off:=0) (k:=l.length) (m:=kk) (by omega)]
    refine Cm (id:=id) (off:=kk) (len:=l.length - kk) (sz:=2) (bytes:=16) (s:=2) (z:=[gi 0,gi 0]) (es:=aL cur) (by kernel_rfl) (by simp (disch:=omega) only [↓wr,↓reduceIte,wq,ah,ag,aj,ab,ae,af,ai,isNil,Nat.reduceEqDiff,Nat.reduceAdd,Nat.reduceLT,Nat.reduceLeDiff,Int.reduceNeg,Int.reduceToNat,reduceCtorEq]; try rw[Nat.zero_add]) hset (by rw[bj]; omega) hz ?_
    rw[set_set]
    have hsr:eh (aL cur) kk (List.replicate (l.length - kk) [gi 0,gi 0])=aL (dX l l.length) ++ List.replicate (l.length - kk) [gi 0,gi 0]:=by
      have h1:=pq (List.replicate (l.length - kk) [gi 0,gi 0]) (aL (cur.take kk)) (aL (cur.drop kk)) (by simp[aL]; omega)
      rw[show aL (cur.take kk) ++ aL (cur.drop kk)=aL cur by rw[aL,aL,← List.map_append,List.take_append_drop]; rfl] at h1
      rw[show (aL (cur.take kk)).length=kk by rw[bj,List.length_take]; omega] at h1
      rw[h1,hct,List.drop_eq_nil_of_le (by simp[aL]; omega),List.append_nil]
    rw[hsr]
    simp (disch:=omega) only [↓wr,↓reduceIte,wq,ah,ag,aj,ab,ae,af,ai,isNil,Nat.reduceEqDiff,Nat.reduceAdd,Nat.reduceLT,Nat.reduceLeDiff,Int.reduceNeg,Int.reduceToNat,reduceCtorEq,t0,t3,uP (id:=id) (off:=0) (k:=l.length) (m:=kk) (by omega)]
    right
    exact ⟨id,List.replicate (l.length - kk) [gi 0,gi 0],rfl,by rw[hkl],rfl⟩
set_option maxHeartbeats 4000000 in
theorem Fy (l:List aI) (hn:l.length≤100000) (u:V) (H:View) (ho:aO H u 2 (aL l)):aB Tryz.prog 64 [u] H fun r H'=>(∀ id,owner u≠some id→H' id=H id)∧aO H' r 2 (aL (yn l))∧owner r=owner u:=by
  refine aB.of mixed zS ?_
  simp (disch:=omega) only [↓wr,↓reduceIte,wq,ah,ag,aj,ab,ae,af,ai,isNil,Nat.reduceEqDiff,Nat.reduceAdd,Nat.reduceLT,Nat.reduceLeDiff,Int.reduceNeg,Int.reduceToNat,reduceCtorEq,wO]
  refine aG.gT ((K8 l (by omega) u H ho).mono ?_)
  rintro r H2 ⟨rfl,k2,o2⟩
  simp (disch:=omega) only [↓wr,↓reduceIte,wq,ah,ag,aj,ab,ae,af,ai,isNil,Nat.reduceEqDiff,Nat.reduceAdd,Nat.reduceLT,Nat.reduceLeDiff,Int.reduceNeg,Int.reduceToNat,reduceCtorEq]
  refine aG.gT ((Hm (dt l) (by rw[gx]; omega) u H2 o2).mono ?_)
  rintro r H3 ⟨k3,o3,e3⟩
  simp (disch:=omega) only [↓wr,↓reduceIte,wq,ah,ag,aj,ab,ae,af,ai,isNil,Nat.reduceEqDiff,Nat.reduceAdd,Nat.reduceLT,Nat.reduceLeDiff,Int.reduceNeg,Int.reduceToNat,reduceCtorEq]
  rw[gx] at o3
  exact ⟨fun id hid=>by rw[k3 id hid,k2 id hid],o3,e3⟩
structure lC (g:ao) (a:List bR):Prop where
  first:(a.getD 0 cn).bV=[⟨-1,0⟩]
  KF:∀ s∈a,∀ e∈s.dH,(a.getD e.to.toNat cn).bV=cJ g (dq g s.bV) e.sym
theorem jx (l:List bR) (i:Nat) (c:jJ) (j:Nat):((l.modify i fun x=>(⟨x.bV,x.dH ++ [c]⟩:bR)).getD j cn).bV=(l.getD j cn).bV:=by
  simp only[List.getD_eq_getElem?_getD,List.getElem?_modify]
  cases l[j]? with
  | none=>rfl
  | some x =>
    by_cases e:i=j
    · subst e; simp
    · simp[e]
theorem lC.put {g:ao} {out:List bR} (h:lC g out) {at_:Nat} {s to:Int} (ht:(out.getD to.toNat cn).bV=cJ g (dq g (out.getD at_ cn).bV) s):lC g (out.modify at_ fun x=>(⟨x.bV,x.dH ++ [⟨s,to⟩]⟩:bR)):=by
  refine ⟨by rw[jx]; exact h.first,fun y hy e he=>?_⟩
  rw[jx]
  rcases mem_modify hy with hy | ⟨x,hx,rfl⟩
  · exact h.KF y hy e he
  · rcases List.mem_append.1 he with he | he
    · exact h.KF x (List.mem_of_getElem? hx) e he
    · simp at he; subst he
      rw[ht,List.getD_eq_getElem?_getD,hx]; rfl
theorem lC.add {g:ao} {out:List bR} (h:lC g out) (h1:1≤out.length) (ht:∀ s∈out,∀ e∈s.dH,0≤e.to∧e.to < out.length) (k:List aI):lC g (out ++ [⟨k,[]⟩]):=by
  have hg:∀ j:Nat,j < out.length→((out ++ [(⟨k,[]⟩:bR)]).getD j cn)=out.getD j cn:=fun j hj=>by
    simp[List.getD_eq_getElem?_getD,List.getElem?_append_left hj]
  refine ⟨by rw[hg 0 (by omega)]; exact h.first,fun y hy e he=>?_⟩
  rcases List.mem_append.1 hy with hy | hy
  · have:=ht y hy e he
    rw[hg _ (by omega)]; exact h.KF y hy e he
  · simp at hy; subst hy; simp at he
theorem JE (g:ao) (l:List aI) (at_:Nat) (out:List bR) (i:Nat) {j:Nat} (hj:j < out.length):((fW g l at_ out i).getD j cn).bV=(out.getD j cn).bV:=by
  unfold fW
  split
  · rfl
  · split
    · rw[jx]
      simp[List.getD_eq_getElem?_getD,List.getElem?_append_left hj]
    · rw[jx]
theorem lC.step {g:ao} {l:List aI} {at_ i:Nat} {out:List bR} (h:lC g out) (hi:ef g at_ i out) (ha:at_ < out.length) (hl:dq g (out.getD at_ cn).bV=l):lC g (fW g l at_ out i):=by
  unfold fW
  split
  · exact h
  · split
    · refine (h.add (by omega) hi.to _).put ?_
      rw[Int.toNat_natCast]
      have e1:((out ++ [(⟨cJ g l (cO g i),[]⟩:bR)]).getD out.length cn).bV=cJ g l (cO g i):=by
        simp[List.getD_eq_getElem?_getD]
      have e2:(out ++ [(⟨cJ g l (cO g i),[]⟩:bR)]).getD at_ cn=out.getD at_ cn:=by
        simp[List.getD_eq_getElem?_getD,List.getElem?_append_left ha]
      rw[e1,e2,hl]
    · rename_i hf
      refine h.put ?_
      obtain ⟨n,hn⟩:∃ n:Nat,findD out (cJ g l (cO g i))=n:=⟨(findD out (cJ g l (cO g i))).toNat,by omega⟩
      obtain ⟨s,h1,h2⟩:=Cs _ _ _ hn
      rw[hn,Int.toNat_natCast,List.getD_eq_getElem?_getD,h1,hl]
      exact h2
theorem lC.row {g:ao} (hf:g.fA) {at_:Nat} {out:List bR} (h:lC g out) (hi:ef g at_ 0 out) (ha:at_ < out.length):∀ n:Nat,n≤40→lC g ((List.range n).foldl (fW g (dq g (out.getD at_ cn).bV) at_) out)∧(((List.range n).foldl (fW g (dq g (out.getD at_ cn).bV) at_) out).getD at_ cn).bV=(out.getD at_ cn).bV
  | 0,_=>⟨h,rfl⟩
  | n+1,hn=>by
    obtain ⟨h1,h2⟩:=lC.row hf h hi ha n (by omega)
    obtain ⟨i1,i2,i3⟩:=ef.row (hi.Hz hf ha).1 (hi.Hz hf ha).2 hi n (by omega)
    rw[List.range_succ,List.foldl_append]
    simp only[List.foldl_cons,List.foldl_nil]
    refine ⟨h1.step i1 (by omega) (by rw[h2]),?_⟩
    rw[JE _ _ _ _ _ (by omega),h2]
inductive mY (a:List bR):List Int→List Int→Prop
  | nil:mY a [] [0]
  | snoc {X st:List Int} {e:jJ} : mY a X st→e∈(a.getD (zW st).toNat cn).dH→mY a (X ++ [e.sym]) (st ++ [e.to])
theorem mY.len {a:List bR} {X st:List Int} (h:mY a X st):st.length=X.length+1:=by
  induction h with
  | nil=>rfl
  | snoc _ _ ih=>simp[ih]
theorem mY.take {a:List bR} {X st:List Int} (h:mY a X st):∀ k:Nat,k≤X.length→mY a (X.take k) (st.take (k+1)):=by
  induction h with
  | nil =>
           intro k hk; have:k=0:=by simpa using hk
           subst this; exact .nil
  | @snoc X st e h he ih =>
    intro k hk
    have hl:=h.len
    simp only[List.length_append,List.length_cons,List.length_nil] at hk
    by_cases hk2:k≤X.length
    · rw[List.take_append_of_le_length hk2,List.take_append_of_le_length (by omega)]
      exact ih k hk2
    · rw[List.take_of_length_le (by simp; omega),List.take_of_length_le (by simp; omega)]
      exact .snoc h he
theorem Mj {a:List bR} {i:Nat} {e:jJ} (h:e∈(a.getD i cn).dH):i < a.length∧a.getD i cn∈a:=by
  rcases Nat.lt_or_ge i a.length with hi | hi
  · exact ⟨hi,List.mem_of_getElem? (getD_some hi)⟩
  · rw[List.getD_eq_getElem?_getD,List.getElem?_eq_none hi] at h; simp at h
theorem mY.top {g:ao} {a:List bR} (ha:LR g a) (h1:1≤a.length) {X st:List Int} (h:mY a X st):0≤zW st∧zW st < a.length:=by
  cases h with
  | nil=>simp[zW]; omega
  | snoc h he =>
    rw[Kf]
    exact ha.to _ (Mj he).2 _ he
theorem ke.bV {g:ao} {l:List aI} {x:aI} (h:ke g l x) (hd:x.dot≠0∨x.aF < 0):x∈l:=by
  cases h with
  | base h=>exact h
  | step=>simp at hd; omega
def mS (g:ao) (l:List aI) (n:Nat):List Int:=((List.range n).filter fun i=>decide (cJ g l (cO g i)≠[])).map fun (i:Nat)=>cO g i
theorem y9 (g:ao) (l:List aI) (n:Nat):mS g l (n+1)=if cJ g l (cO g n)=[] then mS g l n else mS g l n ++ [cO g n]:=by
  unfold mS
  rw[List.range_succ,List.filter_append,List.map_append]
  by_cases h:cJ g l (cO g n)=[]
  · rw[if_pos h]; simp[h]
  · rw[if_neg h]; simp[h]
structure kY (g:ao) (at_ i:Nat) (out:List bR):Prop where
  one:(out.map bR.bV).Nodup
  back:∀ j:Nat,0 < j→j < out.length→∃ (i:Nat) (e:jJ),i < j∧e∈(out.getD i cn).dH∧e.to=j
  done:∀ j:Nat,j < at_→j < out.length→(out.getD j cn).dH.map jJ.sym=mS g (dq g (out.getD j cn).bV) (g.aA.length+g.aC.length)
  here:at_ < out.length→(out.getD at_ cn).dH.map jJ.sym=mS g (dq g (out.getD at_ cn).bV) i
theorem oy (l:List bR) (i:Nat) (c:jJ) (j:Nat) (hi:i < l.length):((l.modify i fun x=>(⟨x.bV,x.dH ++ [c]⟩:bR)).getD j cn).dH=if i=j then (l.getD j cn).dH ++ [c] else (l.getD j cn).dH:=by
  simp only[List.getD_eq_getElem?_getD,List.getElem?_modify]
  by_cases e:i=j
  · subst e; simp[hi]
  · cases l[j]? with
    | none=>simp[e]
    | some x=>simp[e]
theorem Ax (l:List bR) (i:Nat) (c:jJ):(l.modify i fun x=>(⟨x.bV,x.dH ++ [c]⟩:bR)).map bR.bV=l.map bR.bV:=by
  apply List.ext_getElem?
  intro j
  simp only[List.getElem?_map,List.getElem?_modify]
  cases l[j]? with
  | none=>rfl
  | some x=>by_cases e:i=j <;> simp[e]
theorem kY.put {g:ao} {at_ i:Nat} {out:List bR} {to:Int} (ha:at_ < out.length) (h1:(out.map bR.bV).Nodup) (h2:∀ j:Nat,0 < j→j < out.length→(∃ (i:Nat) (e:jJ),i < j∧e∈(out.getD i cn).dH∧e.to=j)∨(at_ < j∧to=j))
    (h3:∀ j:Nat,j < at_→j < out.length→(out.getD j cn).dH.map jJ.sym=mS g (dq g (out.getD j cn).bV) (g.aA.length+g.aC.length)) (h4:(out.getD at_ cn).dH.map jJ.sym=mS g (dq g (out.getD at_ cn).bV) i)
    (hne:cJ g (dq g (out.getD at_ cn).bV) (cO g i)≠[]):kY g at_ (i+1) (out.modify at_ fun x=>(⟨x.bV,x.dH ++ [⟨cO g i,to⟩]⟩:bR)):=by
  refine ⟨by rw[Ax]; exact h1,fun j hj hl=>?_,fun j hj hl=>?_,fun _=>?_⟩
  · rw[List.length_modify] at hl
    rcases h2 j hj hl with ⟨k,e,a1,a2,a3⟩ | ⟨a1,a2⟩
    · refine ⟨k,e,a1,?_,a3⟩
      rw[oy _ _ _ _ ha]
      split
      · exact List.mem_append_left _ a2
      · exact a2
    · refine ⟨at_,⟨cO g i,to⟩,a1,?_,a2⟩
      rw[oy _ _ _ _ ha,if_pos rfl]
      simp
  · rw[List.length_modify] at hl
    rw[oy _ _ _ _ ha,if_neg (by omega),jx]
    exact h3 j hj hl
  · rw[oy _ _ _ _ ha,if_pos rfl,jx,List.map_append,h4,y9,if_neg hne]; rfl
theorem kY.step {g:ao} {at_ i:Nat} {out:List bR} (h:kY g at_ i out) (ha:at_ < out.length):kY g at_ (i+1) (fW g (dq g (out.getD at_ cn).bV) at_ out i):=by
  unfold fW
  split
  · rename_i hm
    exact ⟨h.one,h.back,h.done,fun _=>by rw[y9,if_pos hm]; exact h.here ha⟩
  · rename_i hm
    split
    · rename_i hf
      have hg:∀ j:Nat,j < out.length→((out ++ [(⟨cJ g (dq g (out.getD at_ cn).bV) (cO g i),[]⟩:bR)]).getD j cn)=out.getD j cn:=fun j hj=>by
        simp[List.getD_eq_getElem?_getD,List.getElem?_append_left hj]
      refine kY.put (by simp; omega) ?_ (fun j hj hl=>?_) (fun j hj hl=>?_) ?_ ?_
      · rw[List.map_append,List.nodup_append]
        refine ⟨h.one,by simp,fun a hA b hB=>?_⟩
        obtain ⟨s,hs,rfl⟩:=List.mem_map.1 hA
        simp at hB; subst hB
        exact CX _ _ hf s hs
      · rcases Nat.lt_or_ge j out.length with q | q
        · obtain ⟨k,e,a1,a2,a3⟩:=h.back j hj q
          exact .inl ⟨k,e,a1,by rw[hg k (by omega)]; exact a2,a3⟩
        · right
          simp at hl
          exact ⟨by omega,by omega⟩
      · rw[hg j (by omega)]; exact h.done j hj (by omega)
      · rw[hg at_ ha]; exact h.here ha
      · rw[hg at_ ha]; exact hm
    · exact kY.put ha h.one (fun j hj hl=>.inl (h.back j hj hl)) h.done (h.here ha) hm
theorem kY.row {g:ao} (hf:g.fA) {at_:Nat} {out:List bR} (h:kY g at_ 0 out) (hi:ef g at_ 0 out) (he:lC g out) (ha:at_ < out.length):∀ n:Nat,n≤40→kY g at_ n ((List.range n).foldl (fW g (dq g (out.getD at_ cn).bV) at_) out)
  | 0,_=>h
  | n+1,hn=>by
    have h1:=kY.row hf h hi he ha n (by omega)
    obtain ⟨i1,i2,i3⟩:=ef.row (hi.Hz hf ha).1 (hi.Hz hf ha).2 hi n (by omega)
    obtain ⟨e1,e2⟩:=he.row hf hi ha n (by omega)
    rw[List.range_succ,List.foldl_append]
    simp only[List.foldl_cons,List.foldl_nil]
    have:=h1.step (by omega)
    rw[e2] at this
    exact this
theorem kY.next {g:ao} {at_:Nat} {out:List bR} (h:kY g at_ (g.aA.length+g.aC.length) out) (hi:ef g at_ (g.aA.length+g.aC.length) out):kY g (at_+1) 0 out:=by
  refine ⟨h.one,h.back,fun j hj hl=>?_,fun hl=>?_⟩
  · rcases Nat.lt_or_ge j at_ with q | q
    · exact h.done j q hl
    · have:j=at_:=by omega
      subst this
      exact h.here hl
  · have:=(hi.dH (at_+1) _ (getD_some (d:=cn) hl)).2.2 (by omega)
    rw[this]; simp[mS]
structure O8 (g:ao) (a:List bR):Prop where
  one:(a.map bR.bV).Nodup
  back:∀ j:Nat,0 < j→j < a.length→∃ (i:Nat) (e:jJ),i < j∧e∈(a.getD i cn).dH∧e.to=j
  all:∀ s∈a,s.dH.map jJ.sym=mS g (dq g s.bV) (g.aA.length+g.aC.length)
theorem Kp {g:ao} (hf:g.fA) {x:aI} (hx:cw g x) {s:Int} (h:cY g x=(s,true)):iB g s=true:=by
  obtain ⟨h1,h2⟩:=wN h
  have hlt:x.dot.toNat < (di g x.aF).length:=by have:=hx.2; omega
  have hm:s∈di g x.aF:=by
    rw[← h2,List.getD_eq_getElem?_getD,List.getElem?_eq_getElem hlt]; exact List.getElem_mem _
  unfold di at hm
  split at hm
  · simp at hm; subst hm
    have:=hf.lF; have:=hf.start
    unfold iB
    rw[if_neg (by omega)]
    simp; omega
  · have hR:g.rules[x.aF.toNat]?=some (dh g x.aF):=by unfold dh; exact getD_some (by have:=hx.1; omega)
    exact hf.sym _ (List.mem_of_getElem? hR) s hm
def vz:SF:=⟨.seq (al [bQ 2 0,((some 4),.op (.bk (.val (.emp 1))))]) <|
  .seq (.seq (al [aa 5 1,az 6 .eql 5 (-1)]) <|
  .cond (.tmp 6) (.seq (al [au 7 3 2,aw 8 7,((some 9),.op (.arith .sub (.val (.val (.int .i64 (-1)))) (.tmp 8))),((some 10),.op (.bF 1 1 [(.val (.int .i64 0))] [(0,(.tmp 9))])),aa 4 10]) <|
  .ret) (.skip)) <|
  .seq (al [au 11 2 2,aw 12 11,aa 13 1,aZ 14 3 12 13,au 15 1 14,aw 16 15,aa 4 16]) <|
  .ret,
  [.tmp 4],17⟩
theorem zw:bf Tryz.prog 53 [2]=some vz:=by kernel_rfl
def wJ:SF:=⟨.seq (al [bQ 2 0,bQ 3 1,aJ 4 0,aY 5 false]) <|
  .seq (.seq (al [aK 7 4 2,au 8 0 3,aw 9 8,aH 10 53 [7,9],aa 6 10]) <|
  .seq (al [au 11 1 3,aw 12 11,aa 13 6,aR 14 13,aS 15 .lss 12 14]) <|
  .cond (.tmp 15) (.seq (al [aa 16 6,au 17 1 3,aw 18 17,aZ 19 1 16 18,aw 20 19,aa 4 20,aY 5 true]) <|
  .ret) (.skip)) <|
  .seq (al [aJ 4 0,aY 5 false]) <|
  .ret,
  [.tmp 4,.tmp 5],21⟩
theorem zB:bf Tryz.prog 50 [2,3]=some wJ:=by kernel_rfl
def bJ:SF:=⟨.seq (al [((some 2),.op (.bk (.val (.emp 1))))]) <|
  .seq (.seq (al [aa 3 0,((some 4),.op (.nil true 0 (.tmp 3) (.val (.emp 1))))]) <|
  .cond (.tmp 4) (.seq (al [((some 2),.op (.bk (.val (.emp 1))))]) <|
  .ret) (.skip)) <|
  .seq (al [((some 5),.op (.bk (.val (.emp 2)))),aa 6 0,((some 7),.op (.app 2 16 (.tmp 5) (.tmp 6))),aa 2 7]) <|
  .ret,
  [.tmp 2],8⟩
theorem bP:bf Tryz.prog 58 []=some bJ:=by kernel_rfl
def pv:SC :=
  .seq (al [aS 54 .lss 53 52]) <|
  .seq (.cond (.tmp 54) (.skip) (.exit 2)) <|
  .seq (.block 3 (.seq (al [aa 55 53,aZ 56 3 51 53,aK 57 3 56,((some 11),.op (.alloc [(.val (.int .i64 0)),(.emp 1),(.val (.int .i64 0))])),aa 10 55,(none,.op (.store 3 (.tmp 11) (.tmp 57)))]) <|
  .seq (al [au 58 0 11,aw 59 58,aa 60 8,((some 61),.op (.arith .sub (.val (.val (.int .i64 (-1)))) (.tmp 60))),aS 62 .eql 59 61]) <|
  .cond (.tmp 62) (al [aa 63 5,aa 64 10,((some 65),.op (.build [(.val (.int .i64 0)),(.val (.int .i64 0))] [(0,1,(.tmp 64))])),((some 66),.op (.bF 1 2 [(.val (.int .i64 0)),(.val (.int .i64 0))] [(0,(.tmp 65))])),((some 67),.op (.app 2 16 (.tmp 63) (.tmp 66))),aa 5 67]) (.skip))) <|
  al [az 68 .add 53 1,aa 53 68]
def kc:SC :=
  .seq (.seq (al [aa 18 7,aa 19 5,aR 20 19,aS 21 .lss 18 20]) <|
  .cond (.tmp 21) (.skip) (.exit 0)) <|
  .seq (.block 1 (.seq (al [aK 25 4 2,aa 26 5,aa 27 7,aZ 28 2 26 27,aK 29 2 28,aH 30 50 [25,29],aa 24 30,cB 31 0 24,cB 32 1 24,aa 8 31,aa 9 32]) <|
  .seq (.seq (.region false [⟨none,[aa 33 9,b7 34 33,aa 35 34]⟩,⟨(some (35,false)),[aa 36 8,az 37 .geq 36 0]⟩,⟨none,[bC 38 35 37,aa 39 38]⟩,⟨(some (39,false)),[aa 40 6,aa 41 8,((some 42),.op (.arith .sub (.val (.val (.int .i64 (-1)))) (.tmp 41))),aZ 43 1 40 42,aw 44 43]⟩,⟨none,[bC 45 39 44]⟩]) <|
  .cond (.tmp 45) (.exit 1) (.skip)) <|
  .seq (al [aa 46 6,aa 47 8,((some 48),.op (.arith .sub (.val (.val (.int .i64 (-1)))) (.tmp 47))),aZ 49 1 46 48,(none,.op (.store 1 (.tmp 49) (.val (.val (.bool true)))))]) <|
  .seq (al [au 50 2 2,aw 51 50,aR 52 51,aJ 53 0]) <|
  .block 2 (.loop pv))) <|
  al [aa 22 7,az 23 .add 22 1,aa 7 23]
def mF:SF:=⟨.seq (al [bQ 2 0,((some 4),.op (.bk (.val (.emp 1))))]) <|
  .seq (al [aa 12 1,aH 13 58 [12],aa 5 13]) <|
  .seq (al [au 14 1 2,aw 15 14,aR 16 15,((some 17),.op (.make 1 1 [(.val (.bool false))] (.tmp 16) (.tmp 16))),aa 6 17]) <|
  .seq (.seq (al [aJ 7 0]) <|
  .block 0 (.loop kc)) <|
  .seq (al [aa 69 5,aH 70 64 [69],aa 4 70]) <|
  .ret,
  [.tmp 4],71⟩
theorem ot:bf Tryz.prog 56 [2]=some mF:=by kernel_rfl
theorem AY (g:ao) (hs : -100≤g.start∧g.start≤100) (r:Int) (hr : -1≤r∧r < (g.rules.length:Int)):aE Tryz.prog 53 [.agg (ax g),gi r] (encI (di g r)):=by
  refine aE.of (by
    intro v hv; simp at hv
    rcases hv with rfl | rfl
    · exact cg _ (c8 g)
    · exact .val _) ?_
  refine aB.of mixed zw ?_
  unfold di
  simp (disch:=omega) only [↓wr,↓reduceIte,wq,ah,ag,aj,ab,ae,af,ai,isNil,Nat.reduceEqDiff,Nat.reduceAdd,Nat.reduceLT,Nat.reduceLeDiff,Int.reduceNeg,Int.reduceToNat,reduceCtorEq,vz,ax,encS]
  refine av.eq (fun h1=>?_) (fun h1=>?_)
  · simp (disch:=omega) only [↓wr,↓reduceIte,wq,ah,ag,aj,ab,ae,af,ai,isNil,Nat.reduceEqDiff,Nat.reduceAdd,Nat.reduceLT,Nat.reduceLeDiff,Int.reduceNeg,Int.reduceToNat,reduceCtorEq,ax,encS]
    intro n
    rw[if_pos h1]
    rintro h' hv
    refine dJ.fr (mC (l:=[-1 - g.start]) (.inr ⟨n,rfl,?_⟩))
    rw[hv]; simp[View.set]
  · have hR:g.rules[r.toNat]?=some (dh g r):=by unfold dh; exact getD_some (by omega)
    rw[if_neg h1]
    generalize dh g r=R at hR
    simp (disch:=omega) only [↓wr,↓reduceIte,wq,ah,ag,aj,ab,ae,af,ai,isNil,Nat.reduceEqDiff,Nat.reduceAdd,Nat.reduceLT,Nat.reduceLeDiff,Int.reduceNeg,Int.reduceToNat,reduceCtorEq,ax,encS,List.getElem?_map,hR,Option.map_some,bo]
    intro h' _
    exact .tree _ (jc R.right)
theorem CD (g:ao) (hf:g.fA) (x:aI) (hx:cw g x):aE Tryz.prog 50 [.agg (ax g),.agg (aQ x)] (.bg [gi (cY g x).1,gb (cY g x).2]):=by
  have h1:=AY g (ln hf) x.aF hx.1
  have hl:=fK hf hx.1
  have hd:=hx.2
  refine aE.tree (by
    intro v hv; simp at hv
    rcases hv with rfl | rfl
    · exact cg _ (c8 g)
    · exact cg _ fun v hv=>by simp[aQ] at hv; rcases hv with rfl | rfl <;> exact .val _) (.bg _ fun i hi=>by
      match i,hi with
      | 0,_=>exact .val _
      | 1,_=>exact .val _) fun H=>?_
  refine aB.of mixed zB ?_
  simp only[ax,encS,encI] at h1
  unfold cY
  simp (disch:=omega) only [↓wr,↓reduceIte,wq,ah,ag,aj,ab,ae,af,ai,isNil,Nat.reduceEqDiff,Nat.reduceAdd,Nat.reduceLT,Nat.reduceLeDiff,Int.reduceNeg,Int.reduceToNat,reduceCtorEq,wJ,ax,encS,aQ]
  refine aG.pure h1 (by kernel_rfl) ?_
  generalize di g x.aF=R at hd hl ⊢
  simp (disch:=omega) only [↓wr,↓reduceIte,wq,ah,ag,aj,ab,ae,af,ai,isNil,Nat.reduceEqDiff,Nat.reduceAdd,Nat.reduceLT,Nat.reduceLeDiff,Int.reduceNeg,Int.reduceToNat,reduceCtorEq,aQ]
  refine av.dec (fun h2=>?_) (fun h2=>?_)
  · have hg:R[x.dot.toNat]?=some (R.getD x.dot.toNat 0):=getD_some (by omega)
    simp (disch:=omega) only [↓wr,↓reduceIte,wq,ah,ag,aj,ab,ae,af,ai,isNil,Nat.reduceEqDiff,Nat.reduceAdd,Nat.reduceLT,Nat.reduceLeDiff,Int.reduceNeg,Int.reduceToNat,reduceCtorEq,aQ,List.getElem?_map,hg,Option.map_some]
    rw[if_neg (by omega)]
  · simp (disch:=omega) only [↓wr,↓reduceIte,wq,ah,ag,aj,ab,ae,af,ai,isNil,Nat.reduceEqDiff,Nat.reduceAdd,Nat.reduceLT,Nat.reduceLeDiff,Int.reduceNeg,Int.reduceToNat,reduceCtorEq]
    rw[if_pos (by omega)]
theorem bw.N6 {P:Program} {f:FuncId} {h:aD} {u:V} (hu:∀ Z μ hp x,ay Z μ hp u x→∃ a cap,x=.slice a 0 cap∧(a=none→cap=0)) (h1:bw P f [.emp 1] h (.emp 1) h) (h2:bw P f [.emp 2] h (.emp 2) h) (h3:bw P f [.c7] h (.emp 2) h):bw P f [u] h (.emp 0) h:=by
  refine ⟨Nat.le_refl _,fun Z μ F w xs hrel hr hfree=>?_⟩
  obtain ⟨hl,hv⟩:=hrel
  obtain ⟨x,rfl⟩:∃ x,xs=[x]:=by
    match xs,hl with
    | [x],_=>exact ⟨x,rfl⟩
  have h0:ay Z μ w.heap u x:=hv 0 (by simp)
  have one:∀ v,ay Z μ w.heap v x→dL Z μ w.heap [v] [x]:=fun v h=>⟨rfl,fun i hi=>by
    simp at hi; subst hi; exact h⟩
  have weak:∀ k,bw P f [if k=3 then .c7 else .emp k] h (if k=3 then .emp 2 else .emp k) h→ay Z μ w.heap (if k=3 then .c7 else .emp k) x→Calls P f [x].toArray w fun e w'=>∃ x Z' μ',e=.returned x∧ay Z' μ' w'.heap (.emp 0) x∧fG Z' μ' w'.heap (cat h F)∧Ext Z μ w h.length Z' μ' w'∧(∀ id,id < h.length∨h.length≤id→μ' id=μ id):=by
    intro k hk hx
    refine (hk.2 Z μ F w [x] (one _ hx) hr hfree).mono ?_
    rintro e w' ⟨y,Z',μ',rfl,hy,rest⟩
    refine ⟨y,Z',μ',rfl,?_,rest⟩
    have:∀ k',ay Z' μ' w'.heap (.emp k') y→ay Z' μ' w'.heap (.emp 0) y:=fun k' h=>by
      cases h with | emp _ a _ _=>exact .emp 0 a (by simp) (by simp)
    split at hy <;> exact this _ hy
  obtain ⟨a,cap,rfl,hz⟩:=hu Z μ w.heap x h0
  cases a with
  | none =>
    have:=hz rfl
    subst this
    exact weak 1 (by simpa using h1) (.emp 1 none (by simp) (by simp))
  | some a =>
    cases cap with
    | zero=>exact weak 2 (by simpa using h2) (.emp 2 (some a) (by simp) (by simp))
    | succ c=>exact weak 3 (by simpa using h3) (.c7 a (c+1))
theorem HQ {Z:Nat→Prop} {μ:Mu} {hp:Array Obj} {k:Nat} {x:Value} (h:ay Z μ hp (.emp k) x):∃ a cap,x=.slice a 0 cap∧(a=none→cap=0):=by
  cases h with | emp _ a _ _=>exact ⟨a,0,rfl,fun _=>rfl⟩
theorem I9 {Z:Nat→Prop} {μ:Mu} {hp:Array Obj} {id off esz:Nat} {x:Value} (h:ay Z μ hp (.sl id off 0 esz) x):∃ a cap,x=.slice a 0 cap∧(a=none→cap=0):=by
  rcases DV h with ⟨_,a,e⟩ | ⟨b,o0,cap,c,e,f,e2,_⟩
  · exact ⟨a,0,e,fun _=>rfl⟩
  · exact ⟨_,cap,e2,fun h=>by simp at h⟩
theorem wm (u:V) (hu:∀ Z μ hp x,ay Z μ hp u x→∃ a cap,x=.slice a 0 cap∧(a=none→cap=0)) (h:aD):bw Tryz.prog 58 [u] h (.emp 0) h:=by
  have hp:∀ v t,Tree v→Tree t→(∀ H,aB Tryz.prog 58 [v] H fun r _=>r=t)→aE Tryz.prog 58 [v] t:=fun v t hv ht h=>aE.tree (by intro x hx; simp at hx; subst hx; exact hv) ht h
  have h1:=hp (.emp 1) (.emp 1) (.emp 1) (.emp 1) (fun H=>by
    refine aB.of mixed bP ?_
    simp (disch:=omega) only [↓wr,↓reduceIte,wq,ah,ag,aj,ab,ae,af,ai,isNil,Nat.reduceEqDiff,Nat.reduceAdd,Nat.reduceLT,Nat.reduceLeDiff,Int.reduceNeg,Int.reduceToNat,reduceCtorEq,bJ])
  have h2:=hp (.emp 2) (.emp 2) (.emp 2) (.emp 2) (fun H=>by
    refine aB.of mixed bP ?_
    simp (disch:=omega) only [↓wr,↓reduceIte,wq,ah,ag,aj,ab,ae,af,ai,isNil,Nat.reduceEqDiff,Nat.reduceAdd,Nat.reduceLT,Nat.reduceLeDiff,Int.reduceNeg,Int.reduceToNat,reduceCtorEq,bJ,gv,List.isEmpty_nil])
  have h3:=hp .c7 (.emp 2) .c7 (.emp 2) (fun H=>by
    refine aB.of mixed bP ?_
    simp (disch:=omega) only [↓wr,↓reduceIte,wq,ah,ag,aj,ab,ae,af,ai,isNil,Nat.reduceEqDiff,Nat.reduceAdd,Nat.reduceLT,Nat.reduceLeDiff,Int.reduceNeg,Int.reduceToNat,reduceCtorEq,bJ,mQ,gv,List.isEmpty_nil])
  exact bw.N6 hu (bw.eQ h1 h) (bw.eQ h2 h) (bw.eQ h3 h)
set_option maxHeartbeats 2000000 in
theorem yW (l:List aI) (hl:l.length≤100000) (u:V) (H:View) (ho:aO H u 2 (aL l)):aB Tryz.prog 58 [u] H fun r H'=>aO H' r 2 (aL l)∧b6 H H' r:=by
  cases l with
  | nil =>
    refine ⟨by kernel_rfl,?_⟩
    rintro h rfl
    refine ⟨.emp 0,h,wm u (fun Z μ hp x hx=>?_) h,.refl _,.nil,.emp⟩
    rcases ho with ⟨_,k,rfl⟩ | ⟨n,rfl,_⟩
    · exact HQ hx
    · exact I9 hx
  | cons x r =>
    obtain ⟨id,hu,hid⟩:=ho.sl (by rw[bj]; simp)
    subst hu
    refine aB.of mixed bP ?_
    have he:=lA (H:=H) id 0 r.length 2 2 (aL (x :: r)) hid (by rw[bj]; simp)
    rw[List.drop_zero,List.take_of_length_le (by rw[bj]; simp)] at he
    simp only[List.length_cons] at hl
    have hlen:(aL (x :: r)).length=r.length+1:=by rw[bj]; rfl
    rw[hlen]
    simp (disch:=omega) only [↓wr,↓reduceIte,wq,ah,ag,aj,ab,ae,af,ai,isNil,Nat.reduceEqDiff,Nat.reduceAdd,Nat.reduceLT,Nat.reduceLeDiff,Int.reduceNeg,Int.reduceToNat,reduceCtorEq,bJ,he]
    refine gm (es:=[]) (.inl ⟨rfl,2,rfl⟩) (by simp[aL,aQ,List.all_map,aU]) (by unfold aW; rw[hlen]; simp; omega) (by unfold aW; rw[hlen]; simp; omega) ?_
    intro u2 H2 o2 l2
    simp (disch:=omega) only [↓wr,↓reduceIte,wq,ah,ag,aj,ab,ae,af,ai,isNil,Nat.reduceEqDiff,Nat.reduceAdd,Nat.reduceLT,Nat.reduceLeDiff,Int.reduceNeg,Int.reduceToNat,reduceCtorEq]
    refine ⟨by simpa using o2,fun j hj=>?_⟩
    exact l2 j hj (by simp[owner])
def cG (ks:List Nat):List aI:=ks.map fun (k:Nat)=>(⟨k,0⟩:aI)
theorem vq {ks:List Nat} {n:Nat} (h:ks.Nodup) (hk:∀ k∈ks,k < n):ks.length≤n:=by
  have:=kD ks (List.range n) h fun x hx=>List.mem_range.2 (hk x hx)
  simpa using this
theorem Ji {l:List Bool} {i:Nat} (h:i < l.length):(cQ l).getD i []=[gb (l.getD i false)]:=by
  simp[List.getD_eq_getElem?_getD,h]
structure ID (g:ao) (l:List aI) (H H':View) (i:Nat) (r su:V) (ks:List Nat) (seen:List Bool):Prop where
  own:bq H' [(r,2,aL (l ++ cG ks)),(su,1,cQ seen)]
  f1:b6 H H' r
  f2:b6 H H' su
  nd:ks.Nodup
  kl:∀ k∈ks,k < g.rules.length
  sl:seen.length=g.aC.length
  s1:∀ (n k:Nat) (R:aN),seen.getD n false=true→g.rules[k]?=some R→R.left=n→k∈ks
  s2:∀ (k:Nat) (R:aN),k∈ks→g.rules[k]?=some R→seen.getD R.left.toNat false=true
  cl:∀ x∈l ++ cG ks,ke g l x
  dn:∀ (j:Nat) (x:aI) (s:Int),j < i→(l ++ cG ks)[j]?=some x→cY g x=(s,true)→s < 0→seen.getD (-1 - s).toNat false=true
  il:i≤(l ++ cG ks).length
theorem ID.len {g:ao} {l:List aI} {H H':View} {i:Nat} {r su:V} {ks:List Nat} {seen:List Bool} (h:ID g l H H' i r su ks seen):ks.length≤g.rules.length∧(l ++ cG ks).length=l.length+ks.length:=by
  refine ⟨vq h.nd h.kl,by simp[cG]⟩
def OK (g:ao) (l:List aI) (H:View) (m:Nat) (T:Env) (H':View):Prop:=∃ (i:Nat) (r su:V) (ks:List Nat) (seen:List Bool),m=l.length+g.rules.length - i∧ID g l H H' i r su ks seen∧T 2=.aX (ax g) 0∧T 5=r∧T 6=su∧T 7=gi i
set_option maxHeartbeats 16000000 in
theorem EM (g:ao) (hf:g.fA) (l:List aI) (hl:∀ x∈l,cw g x) (hn:l.length≤10000) (u:V) (H:View) (ho:aO H u 2 (aL l)):aB Tryz.prog 56 [.agg (ax g),u] H fun r H'=>aO H' r 2 (aL (dq g l))∧b6 H H' r:=by
  refine aB.of mixed ot ?_
  have hru:=hf.rules
  have hno:=hf.aC
  simp (disch:=omega) only [↓wr,↓reduceIte,wq,ah,ag,aj,ab,ae,af,ai,isNil,Nat.reduceEqDiff,Nat.reduceAdd,Nat.reduceLT,Nat.reduceLeDiff,Int.reduceNeg,Int.reduceToNat,reduceCtorEq,mF,ax,encS]
  refine aG.gT ((yW l (by omega) u H ho).mono ?_)
  rintro r H1 ⟨o1,f1⟩
  simp (disch:=omega) only [↓wr,↓reduceIte,wq,ah,ag,aj,ab,ae,af,ai,isNil,Nat.reduceEqDiff,Nat.reduceAdd,Nat.reduceLT,Nat.reduceLeDiff,Int.reduceNeg,Int.reduceToNat,reduceCtorEq,ax,encS]
  refine ⟨⟨Nat.le_refl _,by unfold aW; omega,by unfold aW; omega⟩,fun h0=>?_,fun h0 q hq=>?_⟩
  · exact absurd (by have:=hf.yO; omega) (show ¬ g.aC.length=0 by have:=hf.yO; omega)
  have hst:ID g l H (H1.set q (.arr 1 (List.replicate g.aC.length [gb false]))) 0 r (.sl q 0 g.aC.length 1) [] (List.replicate g.aC.length false):=by
    have e:List.replicate g.aC.length [gb false]=cQ (List.replicate g.aC.length false):=by simp
    have hr1:bq H1 [(r,2,aL l)]:=⟨fun x hx=>by simp at hx; subst hx; exact o1,by
      cases hr:owner r <;> simp[List.filterMap_cons,hr]⟩
    have hqd:H q=.dead∨H q≠.dead:=by cases H q <;> simp
    have hqH:H q=.dead:=by
      rcases hqd with h | h
      · exact h
      · have:=(f1 q h).1; rw[hq] at this; exact absurd this.symm h
    refine ⟨?_,fun id hid=>?_,fun id hid=>?_,.nil,by simp,by simp,fun n k R h=>?_,by simp,fun x hx=>.base (by simpa [cG] using hx),fun j x s h=>by omega,Nat.zero_le _⟩
    · have h2:=(hr1.new hq 1 (List.replicate g.aC.length [gb false])).perm (.swap _ _ _)
      rw[List.length_replicate] at h2
      rw[e] at h2 ⊢
      simpa [cG] using h2
    · have hne:id≠q:=by rintro rfl; exact hid hqH
      exact ⟨by simp only[View.set]; rw[if_neg hne]; exact (f1 id hid).1,(f1 id hid).2⟩
    · have hne:id≠q:=by rintro rfl; exact hid hqH
      exact ⟨by simp only[View.set]; rw[if_neg hne]; exact (f1 id hid).1,by simp[owner,Ne.symm hne]⟩
    · simp only[List.getD_eq_getElem?_getD,List.getElem?_replicate] at h
      split at h <;> simp at h
  generalize H1.set q (.arr 1 (List.replicate g.aC.length [gb false]))=H2 at hst ⊢
  refine bH.intro (OK g l H) (l.length+g.rules.length) ⟨0,r,_,[],_,by omega,hst,rfl,rfl,rfl,rfl⟩ ?_
  clear hst o1 f1 hq
  rintro m T H' ⟨i,r,su,ks,seen,rfl,hI,t2,t5,t6,t7⟩
  obtain ⟨hk1,hk2⟩:=hI.len
  have hlr:cF r=some (l ++ cG ks).length:=by rw[hI.own.head.len,bj]
  simp (disch:=omega) only [↓wr,↓reduceIte,wq,ah,ag,aj,ab,ae,af,ai,isNil,Nat.reduceEqDiff,Nat.reduceAdd,Nat.reduceLT,Nat.reduceLeDiff,Int.reduceNeg,Int.reduceToNat,reduceCtorEq,kc,t2,t5,t6,t7,hlr]
  refine av.dec (fun hc=>?_) (fun hc=>?_)
  rotate_left
  ·
    have hi:i=(l ++ cG ks).length:=by have:=hI.il; omega
    simp (disch:=omega) only [↓wr,↓reduceIte,wq,ah,ag,aj,ab,ae,af,ai,isNil,Nat.reduceEqDiff,Nat.reduceAdd,Nat.reduceLT,Nat.reduceLeDiff,Int.reduceNeg,Int.reduceToNat,reduceCtorEq,t5]
    refine aG.gT ((Fy (l ++ cG ks) (by omega) r H' hI.own.head).mono ?_)
    rintro r2 H3 ⟨k3,o3,e3⟩
    simp (disch:=omega) only [↓wr,↓reduceIte,wq,ah,ag,aj,ab,ae,af,ai,isNil,Nat.reduceEqDiff,Nat.reduceAdd,Nat.reduceLT,Nat.reduceLeDiff,Int.reduceNeg,Int.reduceToNat,reduceCtorEq]
    have hcl:dq g l=yn (l ++ cG ks):=Du hf hl (Gl _) (fun x hx=>hI.cl x (qv.1 hx)) (fun x hx=>qv.2 (by simp[hx])) (fun x hx s k R h1 h2 h3 h4=>by
      obtain ⟨j,hj,e⟩:=List.mem_iff_getElem.1 (qv.1 hx)
      have h5:=hI.dn j x s (by omega) (by rw[List.getElem?_eq_getElem hj,e]) h1 h2
      have h6:=hI.s1 _ k R h5 h3 (by omega)
      exact qv.2 (List.mem_append_right _ (List.mem_map.2 ⟨k,h6,rfl⟩)))
    rw[hcl]
    refine ⟨o3,fun id hid=>?_⟩
    obtain ⟨q1,q2⟩:=hI.f1 id hid
    exact ⟨by rw[k3 id q2,q1],by rw[e3]; exact q2⟩
  have hx:(l ++ cG ks)[i]?=some ((l ++ cG ks)[i]'(by omega)):=List.getElem?_eq_getElem (by omega)
  have hxm:=List.getElem_mem (show i < (l ++ cG ks).length by omega)
  have hdn:=hI.dn
  generalize (l ++ cG ks)[i]'(by omega)=x at hx hxm
  have hxC:=hI.cl x hxm
  have hxH:=hxC.has hl
  have h1:=CD g hf x hxH
  cases hny:cY g x with
  | mk s okb =>
  have hsb:=zo hf hxH hny
  rw[hny] at h1
  obtain ⟨id,hu,hid⟩:=hI.own.head.sl (by rw[bj]; omega)
  simp only at hu hid
  rw[bj] at hu
  simp only[ax,encS,aQ] at h1
  simp (disch:=omega) only [↓wr,↓reduceIte,wq,ah,ag,aj,ab,ae,af,ai,isNil,Nat.reduceEqDiff,Nat.reduceAdd,Nat.reduceLT,Nat.reduceLeDiff,Int.reduceNeg,Int.reduceToNat,reduceCtorEq,t2,t5,t6,t7,hu,hid,uT hx,ax,encS]
  refine ⟨by omega,by rw[bj]; omega,?_⟩
  refine aG.pure h1 (by kernel_rfl) ?_
  have skip:(okb=true→s < 0→seen.getD (-1 - s).toNat false=true)→ID g l H H' (i+1) r su ks seen:=fun h =>
    ⟨hI.own,hI.f1,hI.f2,hI.nd,hI.kl,hI.sl,hI.s1,hI.s2,hI.cl,fun j y t hj hy hn h0=>by
      rcases Nat.lt_or_ge j i with q | q
      · exact hI.dn j y t q hy hn h0
      · have:j=i:=by omega
        subst this
        rw[hx] at hy
        simp only[Option.some.injEq] at hy
        subst hy
        rw[hny] at hn
        simp only[Prod.mk.injEq] at hn
        obtain ⟨rfl,rfl⟩:=hn
        exact h rfl h0,by omega⟩
  cases okb with
  | false =>
    simp (disch:=omega) only [↓wr,↓reduceIte,wq,ah,ag,aj,ab,ae,af,ai,isNil,Nat.reduceEqDiff,Nat.reduceAdd,Nat.reduceLT,Nat.reduceLeDiff,Int.reduceNeg,Int.reduceToNat,reduceCtorEq,t2,t5,t6,t7]
    exact ⟨l.length+g.rules.length - (i+1),by omega,i+1,r,su,ks,seen,rfl,skip (by simp),t2,by rw[← hu]; exact t5,t6,rfl⟩
  | true =>
  simp (disch:=omega) only [↓wr,↓reduceIte,wq,ah,ag,aj,ab,ae,af,ai,isNil,Nat.reduceEqDiff,Nat.reduceAdd,Nat.reduceLT,Nat.reduceLeDiff,Int.reduceNeg,Int.reduceToNat,reduceCtorEq]
  refine av.dec (fun h0=>?_) (fun h0=>?_)
  · simp (disch:=omega) only [↓wr,↓reduceIte,wq,ah,ag,aj,ab,ae,af,ai,isNil,Nat.reduceEqDiff,Nat.reduceAdd,Nat.reduceLT,Nat.reduceLeDiff,Int.reduceNeg,Int.reduceToNat,reduceCtorEq,t2,t5,t6,t7]
    exact ⟨l.length+g.rules.length - (i+1),by omega,i+1,r,su,ks,seen,rfl,skip (fun _ h=>by omega),t2,by rw[← hu]; exact t5,t6,rfl⟩
  have hG:=Kp hf hxH hny
  have hnl:(-1 - s).toNat < g.aC.length:=by
    unfold iB at hG
    rw[if_neg (by omega)] at hG
    simp at hG; omega
  obtain ⟨id2,hu2,hid2⟩:=hI.own.tail.head.sl (by simp[hI.sl]; omega)
  simp only at hu2 hid2
  rw[List.length_map,hI.sl] at hu2
  have hsn:(-1 - s).toNat < seen.length:=by rw[hI.sl]; exact hnl
  simp (disch:=omega) only [↓wr,↓reduceIte,wq,ah,ag,aj,ab,ae,af,ai,isNil,Nat.reduceEqDiff,Nat.reduceAdd,Nat.reduceLT,Nat.reduceLeDiff,Int.reduceNeg,Int.reduceToNat,reduceCtorEq,t6,hu2,hid2,Ji hsn]
  refine ⟨by omega,by simp[hI.sl]; omega,?_⟩
  refine av.split (fun h2=>?_) (fun h2=>?_)
  · simp (disch:=omega) only [↓wr,↓reduceIte,wq,ah,ag,aj,ab,ae,af,ai,isNil,Nat.reduceEqDiff,Nat.reduceAdd,Nat.reduceLT,Nat.reduceLeDiff,Int.reduceNeg,Int.reduceToNat,reduceCtorEq,t2,t5,t6,t7]
    exact ⟨l.length+g.rules.length - (i+1),by omega,i+1,r,su,ks,seen,rfl,skip (fun _ _=>h2),t2,by rw[← hu]; exact t5,by rw[← hu2]; exact t6,rfl⟩
  obtain ⟨n,hn⟩:∃ n:Nat,-1 - s=(n:Int):=⟨(-1 - s).toNat,by omega⟩
  have hnn:(-1 - s).toNat=n:=by omega
  rw[hnn] at hnl hsn h2
  have hse:(cQ seen).set n [gb true]=cQ (seen.set n true):=by simp[List.map_set]
  simp (disch:=omega) only [↓wr,↓reduceIte,wq,ah,ag,aj,ab,ae,af,ai,isNil,Nat.reduceEqDiff,Nat.reduceAdd,Nat.reduceLT,Nat.reduceLeDiff,Int.reduceNeg,Int.reduceToNat,reduceCtorEq,t2,t5,t6,t7,hu2,hid2,ax,encS,hn,Ji hsn,hse]
  refine ⟨by omega,by simp[hI.sl]; omega,?_⟩
  have hsg:∀ m,(seen.set n true).getD m false=if n=m then true else seen.getD m false:=fun m=>by
    rw[BN]
    by_cases e:n=m
    · rw[if_pos ⟨e,hsn⟩,if_pos e]
    · rw[if_neg (fun h=>e h.1),if_neg e]
  have o2:bq (H'.set id2 (.arr 1 (cQ (seen.set n true)))) [(r,2,aL (l ++ cG ks)),(su,1,cQ (seen.set n true))]:=by
    have h3:=hI.own.perm (.swap _ _ _)
    rw[hu2] at h3 ⊢
    exact (h3.put (es':=cQ (seen.set n true)) (by simp) (by simp[hI.sl])).perm (.swap _ _ _)
  have hdead:∀ id,H id≠.dead→id≠id2:=fun id hid e=>by
    have:=(hI.f2 id hid).2
    rw[hu2,e] at this
    exact this rfl
  have f1':b6 H (H'.set id2 (.arr 1 (cQ (seen.set n true)))) r:=fun id hid=>⟨by simp only[View.set]; rw[if_neg (hdead id hid)]; exact (hI.f1 id hid).1,(hI.f1 id hid).2⟩
  have f2':b6 H (H'.set id2 (.arr 1 (cQ (seen.set n true)))) su:=fun id hid=>⟨by simp only[View.set]; rw[if_neg (hdead id hid)]; exact (hI.f2 id hid).1,(hI.f2 id hid).2⟩
  generalize H'.set id2 (.arr 1 (cQ (seen.set n true)))=H4 at o2 f1' f2' ⊢
  refine bH.up g.rules.length (fun k T H5=>∃ (r2:V) (ks2:List Nat),ks2=ks ++ (List.range k).filter (fun (q:Nat)=>decide ((dh g q).left=n))∧bq H5 [(r2,2,aL (l ++ cG ks2)),(su,1,cQ (seen.set n true))]∧b6 H H5 r2∧b6 H H5 su ∧
    T 2=.aX (ax g) 0∧T 5=r2∧T 6=su∧T 7=gi i∧T 8=gi s∧T 51=.aP (g.rules.map bo)∧T 52=gi g.rules.length∧T 53=gi k) ⟨r,ks,by simp,o2,f1',f2',t2,by rw[← hu]; exact t5,by rw[← hu2]; exact t6,t7,rfl,rfl,rfl,rfl⟩ ?_
  clear t2 t5 t6 t7 o2 f1' f2'
  rintro k j T5 H5 hk ⟨r2,ks2,hks,o5,f5,g5,t2,t5,t6,t7,t8,t51,t52,t53⟩
  have hdis:∀ q,q∈ks→¬ (dh g q).left=n:=fun q hq e=>by
    have hR:g.rules[q]?=some (dh g q):=by unfold dh; exact getD_some (hI.kl q hq)
    have:=hI.s2 q _ hq hR
    rw[e] at this
    simp only[Int.toNat_natCast] at this
    rw[h2] at this; simp at this
  have hnd2:ks2.Nodup:=by
    rw[hks,List.nodup_append]
    refine ⟨hI.nd,(List.nodup_range).filter _,fun a ha b hb e=>?_⟩
    subst e
    exact hdis a ha (by simpa using (List.mem_filter.1 hb).2)
  simp (disch:=omega) only [↓wr,↓reduceIte,wq,ah,ag,aj,ab,ae,af,ai,isNil,Nat.reduceEqDiff,Nat.reduceAdd,Nat.reduceLT,Nat.reduceLeDiff,Int.reduceNeg,Int.reduceToNat,reduceCtorEq,pv,t2,t5,t6,t7,t8,t51,t52,t53]
  refine av.dec (fun hc5=>?_) (fun hc5=>?_)
  · have hR:g.rules[k]?=some (dh g k):=by unfold dh; exact getD_some (by omega)
    have hkl2:∀ q∈ks2,q < g.rules.length:=fun q hq=>by
      rw[hks] at hq
      rcases List.mem_append.1 hq with h | h
      · exact hI.kl q h
      · have:=List.mem_range.1 (List.mem_filter.1 h).1; omega
    have hl2:=vq hnd2 hkl2
    have hstep:ks ++ (List.range (k+1)).filter (fun (q:Nat)=>decide ((dh g q).left=n))=if (dh g k).left=n then ks2 ++ [k] else ks2:=by
      rw[List.range_succ,List.filter_append,← List.append_assoc,← hks]
      by_cases e:(dh g k).left=n <;> simp[e]
    generalize dh g k=R at hR hstep
    simp (disch:=omega) only [↓wr,↓reduceIte,wq,ah,ag,aj,ab,ae,af,ai,isNil,Nat.reduceEqDiff,Nat.reduceAdd,Nat.reduceLT,Nat.reduceLeDiff,Int.reduceNeg,Int.reduceToNat,reduceCtorEq,t2,t5,t6,t7,t8,t51,t52,t53,List.getElem?_map,hR,Option.map_some,bo]
    intro q hq
    rw[set_set]
    have hqq:(H5.set q (.arr 3 [[gi R.left,encI R.right,gi R.prec]])) q=.arr 3 [[gi R.left,encI R.right,gi R.prec]]:=by simp[View.set]
    have hqH:∀ id,H id≠.dead→id≠q:=fun id hid e=>by
      have:=(f5 id hid).1
      rw[e,hq] at this
      exact hid (by rw[e]; exact this.symm)
    have o6:=o5.fresh (o:=.arr 3 [[gi R.left,encI R.right,gi R.prec]]) hq
    have f6:b6 H (H5.set q (.arr 3 [[gi R.left,encI R.right,gi R.prec]])) r2:=fun id hid=>⟨by simp only[View.set]; rw[if_neg (hqH id hid)]; exact (f5 id hid).1,(f5 id hid).2⟩
    have g6:b6 H (H5.set q (.arr 3 [[gi R.left,encI R.right,gi R.prec]])) su:=fun id hid=>⟨by simp only[View.set]; rw[if_neg (hqH id hid)]; exact (g5 id hid).1,(g5 id hid).2⟩
    generalize H5.set q (.arr 3 [[gi R.left,encI R.right,gi R.prec]])=H6 at hqq o6 f6 g6
    clear o5 f5 g5 hq hqH
    simp (disch:=omega) only [↓wr,↓reduceIte,wq,ah,ag,aj,ab,ae,af,ai,isNil,Nat.reduceEqDiff,Nat.reduceAdd,Nat.reduceLT,Nat.reduceLeDiff,Int.reduceNeg,Int.reduceToNat,reduceCtorEq,t2,t5,t6,t7,t8,hqq,hn]
    refine ⟨rfl,?_⟩
    refine av.eq (fun he=>?_) (fun he=>?_)
    · simp (disch:=omega) only [↓wr,↓reduceIte,wq,ah,ag,aj,ab,ae,af,ai,isNil,Nat.reduceEqDiff,Nat.reduceAdd,Nat.reduceLT,Nat.reduceLeDiff,Int.reduceNeg,Int.reduceToNat,reduceCtorEq,t2,t5,t6,t7,t8]
      intro q2 hq2
      simp (disch:=omega) only [↓wr,↓reduceIte,wq,ah,ag,aj,ab,ae,af,ai,isNil,Nat.reduceEqDiff,Nat.reduceAdd,Nat.reduceLT,Nat.reduceLeDiff,Int.reduceNeg,Int.reduceToNat,reduceCtorEq,ed]
      have hqH2:∀ id,H id≠.dead→id≠q2:=fun id hid e=>by
        have:=(f6 id hid).1
        rw[e,hq2] at this
        exact hid (by rw[e]; exact this.symm)
      refine oG (o6.fresh hq2) (by simp[aU]) (by unfold aW; rw[bj]; simp[cG]; omega) (by unfold aW; rw[bj]; simp[cG]; omega) ?_
      intro r3 H7 o7 l7
      simp (disch:=omega) only [↓wr,↓reduceIte,wq,ah,ag,aj,ab,ae,af,ai,isNil,Nat.reduceEqDiff,Nat.reduceAdd,Nat.reduceLT,Nat.reduceLeDiff,Int.reduceNeg,Int.reduceToNat,reduceCtorEq,t2,t6,t7,t8,t51,t52,t53]
      rw[if_pos he] at hstep
      have f7:∀ v,b6 H H6 v→(∀ id,owner v=some id→owner r2≠some id∧owner r3≠some id)→b6 H H7 v:=fun v hv hvo id hid=>by
        obtain ⟨e1,e2⟩:=hv id hid
        obtain ⟨k1,k2⟩:=l7 id (by simp only[View.set]; rw[if_neg (hqH2 id hid),e1]; exact hid) (f6 id hid).2
        refine ⟨?_,e2⟩
        rw[k1]
        simp only[View.set]
        rw[if_neg (hqH2 id hid),e1]
      have f8:b6 H H7 r3:=fun id hid=>by
        obtain ⟨e1,e2⟩:=f6 id hid
        obtain ⟨k1,k2⟩:=l7 id (by simp only[View.set]; rw[if_neg (hqH2 id hid),e1]; exact hid) e2
        refine ⟨?_,k2⟩
        rw[k1]
        simp only[View.set]
        rw[if_neg (hqH2 id hid),e1]
      refine bD hk (by omega) ⟨r3,ks2 ++ [k],hstep.symm,?_,f8,fun id hid=>⟨(f8 id hid).1,(g6 id hid).2⟩,t2,rfl,t6,t7,t8,t51,t52,rfl⟩
      have e1:aL (l ++ cG (ks2 ++ [k]))=aL (l ++ cG ks2) ++ [[gi k,gi 0]]:=by simp[aL,cG,aQ]
      rw[e1]
      exact o7
    · simp (disch:=omega) only [↓wr,↓reduceIte,wq,ah,ag,aj,ab,ae,af,ai,isNil,Nat.reduceEqDiff,Nat.reduceAdd,Nat.reduceLT,Nat.reduceLeDiff,Int.reduceNeg,Int.reduceToNat,reduceCtorEq,t2,t5,t6,t7,t8,t51,t52,t53]
      rw[if_neg he] at hstep
      exact bD hk (by omega) ⟨r2,ks2,hstep.symm,o6,f6,g6,t2,t5,t6,t7,t8,t51,t52,rfl⟩
  · have hke:k=g.rules.length:=by omega
    subst hke
    simp (disch:=omega) only [↓wr,↓reduceIte,wq,ah,ag,aj,ab,ae,af,ai,isNil,Nat.reduceEqDiff,Nat.reduceAdd,Nat.reduceLT,Nat.reduceLeDiff,Int.reduceNeg,Int.reduceToNat,reduceCtorEq,t2,t5,t6,t7]
    have hmem:∀ q,q∈ks2↔q∈ks∨(q < g.rules.length∧(dh g q).left=n):=fun q=>by
      rw[hks,List.mem_append,List.mem_filter,List.mem_range,decide_eq_true_eq]
    have hRD:∀ (q:Nat) (R:aN),g.rules[q]?=some R→dh g q=R:=fun q R h=>by
      unfold dh
      rw[Int.toNat_natCast,List.getD_eq_getElem?_getD,h]; rfl
    have hpre:∀ (j:Nat),j≤i→(l ++ cG ks2)[j]?=(l ++ cG ks)[j]?:=fun j hj=>by
      rw[hks,cG,List.map_append,← List.append_assoc]
      exact List.getElem?_append_left (by simp only[cG] at hc; omega)
    refine ⟨l.length+g.rules.length - (i+1),by omega,i+1,r2,su,ks2,seen.set n true,rfl,⟨o5,f5,g5,hnd2,fun q hq=>?_,by rw[List.length_set]; exact hI.sl,fun m q R h3 h4 h5=>?_,fun q R h3 h4=>?_,fun y hy=>?_,fun j y t hj hy hn2 h0=>?_,?_⟩,t2,t5,t6,rfl⟩
    · rcases (hmem q).1 hq with h | h
      · exact hI.kl q h
      · exact h.1
    · rw[hsg] at h3
      split at h3
      · rename_i e
        subst e
        exact (hmem q).2 (.inr ⟨(List.getElem?_eq_some_iff.1 h4).1,by rw[hRD q R h4]; exact h5⟩)
      · exact (hmem q).2 (.inl (hI.s1 m q R h3 h4 h5))
    · rw[hsg]
      rcases (hmem q).1 h3 with h | h
      · split
        · rfl
        · exact hI.s2 q R h h4
      · rw[hRD q R h4] at h
        rw[h.2,Int.toNat_natCast,if_pos rfl]
    · rcases List.mem_append.1 hy with h | h
      · exact hI.cl y (List.mem_append_left _ h)
      · obtain ⟨q,hq,rfl⟩:=List.mem_map.1 h
        rcases (hmem q).1 hq with h | h
        · exact hI.cl _ (List.mem_append_right _ (List.mem_map.2 ⟨q,h,rfl⟩))
        · have hR:g.rules[q]?=some (dh g q):=by unfold dh; exact getD_some h.1
          exact .step hxC hny (by omega) hR (by rw[h.2,hn])
    · rw[hpre j (by omega)] at hy
      rw[hsg]
      rcases Nat.lt_or_ge j i with q | q
      · split
        · rfl
        · exact hI.dn j y t q hy hn2 h0
      · have:j=i:=by omega
        subst this
        rw[hx] at hy
        simp only[Option.some.injEq] at hy
        subst hy
        rw[hny] at hn2
        simp only[Prod.mk.injEq,and_true] at hn2
        subst hn2
        rw[hnn,if_pos rfl]
    · rw[hks,cG,List.map_append,← List.append_assoc,List.length_append]
      simp only[cG] at hc
      omega
def tz:SF:=⟨.seq (al [bQ 2 0,bQ 3 1,aY 4 false]) <|
  .seq (.seq (.region false [⟨none,[aK 5 4 2,aH 6 52 [5],b7 7 6,aa 8 7]⟩,⟨(some (8,false)),[au 9 0 3,aw 10 9,az 11 .lss 10 (-1)]⟩,⟨none,[bC 12 8 11,aa 13 12]⟩,⟨(some (13,false)),[au 14 0 3,aw 15 14,au 16 2 2,aw 17 16,aR 18 17,aS 19 .geq 15 18]⟩,⟨none,[bC 20 13 19]⟩]) <|
  .cond (.tmp 20) (.seq (al [aY 4 false]) <|
  .ret) (.skip)) <|
  .seq (.region true [⟨none,[au 21 1 3,aw 22 21,az 23 .geq 22 0,aa 24 23]⟩,⟨(some (24,true)),[au 25 1 3,aw 26 25,aK 27 4 2,au 28 0 3,aw 29 28,aH 30 53 [27,29],aR 31 30,aS 32 .leq 26 31]⟩,⟨none,[bz 33 24 32,aa 4 33]⟩]) <|
  .ret,
  [.tmp 4],34⟩
theorem BT:bf Tryz.prog 19 [2,3]=some tz:=by kernel_rfl
def wu:SF:=⟨.seq (al [bQ 2 0,bQ 3 1,aJ 4 0,aY 5 false]) <|
  .seq (.seq (al [aK 6 4 2,aK 7 2 3,aH 8 19 [6,7],b7 9 8]) <|
  .cond (.tmp 9) (.seq (al [aJ 4 0,aY 5 false]) <|
  .ret) (.skip)) <|
  .seq (al [aK 10 4 2,aK 11 2 3,aH 12 50 [10,11],cB 13 0 12,cB 14 1 12,aa 4 13,aa 5 14]) <|
  .ret,
  [.tmp 4,.tmp 5],15⟩
theorem zH:bf Tryz.prog 17 [2,3]=some wu:=by kernel_rfl
def ec:SC :=
  .seq (al [aS 9 .lss 8 7]) <|
  .seq (.cond (.tmp 9) (.skip) (.exit 0)) <|
  .seq (.block 1 (.seq (al [aa 10 8,aa 5 10]) <|
  .seq (al [aa 11 1,aa 12 0,aa 13 5,aZ 14 2 12 13,aK 15 2 14,((some 16),.call (.tmp 11) [(.tmp 15)])]) <|
  .cond (.tmp 16) (.seq (al [aa 17 5,aa 4 17]) <|
  .ret) (.skip))) <|
  al [az 18 .add 8 1,aa 8 18]
def eD:SF:=⟨.seq (al [aJ 4 0]) <|
  .seq (.seq (al [aa 6 0,aR 7 6,aJ 8 0]) <|
  .block 0 (.loop ec)) <|
  .seq (al [aJ 4 (-1)]) <|
  .ret,
  [.tmp 4],19⟩
theorem gU:bf Tryz.prog 107 []=some eD:=by kernel_rfl
def dU:SC :=
  .seq (.seq (al [aa 16 6,aa 17 0,aR 18 17,aS 19 .lss 16 18]) <|
  .cond (.tmp 19) (.skip) (.exit 0)) <|
  .seq (.block 1 (.seq (al [aa 22 0,aa 23 6,aZ 24 2 22 23,aK 25 2 24,((some 7),.op (.alloc [(.val (.int .i64 0)),(.val (.int .i64 0))])),(none,.op (.store 2 (.tmp 7) (.tmp 25)))]) <|
  .seq (al [aa 26 1,aK 27 2 7,((some 28),.call (.tmp 26) [(.tmp 27)]),b7 29 28]) <|
  .cond (.tmp 29) (.seq (al [aa 30 0,aa 31 5,aK 32 2 7,aZ 33 2 30 31,(none,.op (.store 2 (.tmp 33) (.tmp 32)))]) <|
  al [aa 34 5,az 35 .add 34 1,aa 5 35]) (.skip))) <|
  al [aa 20 6,az 21 .add 20 1,aa 6 21]
def ei:SF:=⟨.seq (al [((some 4),.op (.bk (.val (.emp 1))))]) <|
  .seq (al [aa 8 0,aa 9 1,aH 10 107 [8,9],aa 5 10]) <|
  .seq (.seq (al [aa 11 5,az 12 .eql 11 (-1)]) <|
  .cond (.tmp 12) (.seq (al [aa 13 0,aa 4 13]) <|
  .ret) (.skip)) <|
  .seq (.seq (al [aa 14 5,az 15 .add 14 1,aa 6 15]) <|
  .block 0 (.loop dU)) <|
  .seq (al [aa 36 0,aa 37 5,((some 38),.op (.slice 2 (.tmp 36) (some (.tmp 37)) none)),(none,.op (.old (.call { callee:=.builtin .clear,args:=#[(.tmp 38)],argTypes:=#[27] }) 0))]) <|
  .seq (al [aa 39 0,aa 40 5,((some 41),.op (.slice 2 (.tmp 39) none (some (.tmp 40)))),aa 4 41]) <|
  .ret,
  [.tmp 4],42⟩
theorem gE:bf Tryz.prog 57 []=some ei:=by kernel_rfl
def pg:SF:=⟨.seq (al [bQ 2 0,aY 3 false]) <|
  .seq (al [aK 4 4 1,aK 5 2 2,aH 6 19 [4,5],b7 7 6,aa 3 7]) <|
  .ret,
  [.tmp 3],8⟩
theorem ud:bf Tryz.prog 59 [2]=some pg:=by kernel_rfl
def rM:SF:=⟨.seq (al [bQ 2 0,((some 4),.op (.bk (.val (.emp 1))))]) <|
  .seq (al [((some 5),.op (.tu (some 4) (.tmp 2))),aa 6 1,aH 7 58 [6],((some 8),.op (.o9 59 [] [(.tmp 2)])),aH 9 57 [7,8],aH 10 56 [5,9],aa 4 10]) <|
  .ret,
  [.tmp 4],11⟩
theorem wb:bf Tryz.prog 22 [2,100001]=some rM:=by kernel_rfl
set_option maxHeartbeats 4000000 in
theorem z8 (g:ao) (hg:g.Ok) (hsm:g.Small) (x:aI) (hx:bB x.aF∧bB x.dot):aE Tryz.prog 19 [.agg (ax g),.agg (aQ x)] (gb (bY g x)):=by
  refine aE.val (vJ g x) fun H=>?_
  have hr9:=nb g hg hsm.names
  obtain ⟨hx1,hx2⟩:=hx
  unfold bB at hx1 hx2
  refine aB.of mixed BT ?_
  simp only[ax,encS] at hr9
  have bad:¬ cw g x→gb false=gb (bY g x):=fun h=>by unfold bY; rw[decide_eq_false h,Bool.and_false]
  cases hr:bt g with
  | false =>
    rw[hr] at hr9
    simp (disch:=omega) only [↓wr,↓reduceIte,wq,ah,ag,aj,ab,ae,af,ai,isNil,Nat.reduceEqDiff,Nat.reduceAdd,Nat.reduceLT,Nat.reduceLeDiff,Int.reduceNeg,Int.reduceToNat,reduceCtorEq,tz,ax,encS,aQ]
    refine aG.pure hr9 (by kernel_rfl) ?_
    simp (disch:=omega) only [↓wr,↓reduceIte,wq,ah,ag,aj,ab,ae,af,ai,isNil,Nat.reduceEqDiff,Nat.reduceAdd,Nat.reduceLT,Nat.reduceLeDiff,Int.reduceNeg,Int.reduceToNat,reduceCtorEq]
    unfold bY; rw[hr]; rfl
  | true =>
  rw[hr] at hr9
  have hf:=bu hr
  simp (disch:=omega) only [↓wr,↓reduceIte,wq,ah,ag,aj,ab,ae,af,ai,isNil,Nat.reduceEqDiff,Nat.reduceAdd,Nat.reduceLT,Nat.reduceLeDiff,Int.reduceNeg,Int.reduceToNat,reduceCtorEq,tz,ax,encS,aQ]
  refine aG.pure hr9 (by kernel_rfl) ?_
  simp (disch:=omega) only [↓wr,↓reduceIte,wq,ah,ag,aj,ab,ae,af,ai,isNil,Nat.reduceEqDiff,Nat.reduceAdd,Nat.reduceLT,Nat.reduceLeDiff,Int.reduceNeg,Int.reduceToNat,reduceCtorEq,aQ]
  refine av.dec (fun h1=>?_) (fun h1=>?_)
  · simp (disch:=omega) only [↓wr,↓reduceIte,wq,ah,ag,aj,ab,ae,af,ai,isNil,Nat.reduceEqDiff,Nat.reduceAdd,Nat.reduceLT,Nat.reduceLeDiff,Int.reduceNeg,Int.reduceToNat,reduceCtorEq]
    exact bad fun h=>by have:=h.1; omega
  simp (disch:=omega) only [↓wr,↓reduceIte,wq,ah,ag,aj,ab,ae,af,ai,isNil,Nat.reduceEqDiff,Nat.reduceAdd,Nat.reduceLT,Nat.reduceLeDiff,Int.reduceNeg,Int.reduceToNat,reduceCtorEq,aQ,ax]
  refine av.dec (fun h2=>?_) (fun h2=>?_)
  · simp (disch:=omega) only [↓wr,↓reduceIte,wq,ah,ag,aj,ab,ae,af,ai,isNil,Nat.reduceEqDiff,Nat.reduceAdd,Nat.reduceLT,Nat.reduceLeDiff,Int.reduceNeg,Int.reduceToNat,reduceCtorEq]
    exact bad fun h=>by have:=h.1; omega
  simp (disch:=omega) only [↓wr,↓reduceIte,wq,ah,ag,aj,ab,ae,af,ai,isNil,Nat.reduceEqDiff,Nat.reduceAdd,Nat.reduceLT,Nat.reduceLeDiff,Int.reduceNeg,Int.reduceToNat,reduceCtorEq,aQ]
  refine av.dec (fun h3=>?_) (fun h3=>?_)
  rotate_left
  · simp (disch:=omega) only [↓wr,↓reduceIte,wq,ah,ag,aj,ab,ae,af,ai,isNil,Nat.reduceEqDiff,Nat.reduceAdd,Nat.reduceLT,Nat.reduceLeDiff,Int.reduceNeg,Int.reduceToNat,reduceCtorEq]
    exact bad fun h=>by have:=h.2; omega
  have hrt:=AY g (ln hf) x.aF ⟨by omega,by omega⟩
  have hl6:=fK hf (r:=x.aF) ⟨by omega,by omega⟩
  simp only[ax,encS,encI] at hrt
  simp (disch:=omega) only [↓wr,↓reduceIte,wq,ah,ag,aj,ab,ae,af,ai,isNil,Nat.reduceEqDiff,Nat.reduceAdd,Nat.reduceLT,Nat.reduceLeDiff,Int.reduceNeg,Int.reduceToNat,reduceCtorEq,aQ,ax,encS]
  refine aG.pure hrt (by kernel_rfl) ?_
  simp (disch:=omega) only [↓wr,↓reduceIte,wq,ah,ag,aj,ab,ae,af,ai,isNil,Nat.reduceEqDiff,Nat.reduceAdd,Nat.reduceLT,Nat.reduceLeDiff,Int.reduceNeg,Int.reduceToNat,reduceCtorEq,aQ]
  congr 2
  unfold bY
  rw[hr,Bool.true_and]
  congr 1
  unfold cw
  simp only[eq_iff_iff]
  omega
set_option maxHeartbeats 4000000 in
theorem KV (g:ao) (hg:g.Ok) (hsm:g.Small) (x:aI) (hx:bB x.aF∧bB x.dot):aE Tryz.prog 17 [.agg (ax g),.agg (aQ x)] (.bg [gi (sQ g x).1,gb (sQ g x).2]):=by
  have hh:=z8 g hg hsm x hx
  refine aE.tree (vJ g x) (AD (.val _) (.val _)) fun H=>?_
  refine aB.of mixed zH ?_
  simp only[ax,encS,aQ] at hh
  simp (disch:=omega) only [↓wr,↓reduceIte,wq,ah,ag,aj,ab,ae,af,ai,isNil,Nat.reduceEqDiff,Nat.reduceAdd,Nat.reduceLT,Nat.reduceLeDiff,Int.reduceNeg,Int.reduceToNat,reduceCtorEq,wu,ax,encS,aQ]
  refine aG.pure hh (by kernel_rfl) ?_
  unfold sQ
  simp (disch:=omega) only [↓wr,↓reduceIte,wq,ah,ag,aj,ab,ae,af,ai,isNil,Nat.reduceEqDiff,Nat.reduceAdd,Nat.reduceLT,Nat.reduceLeDiff,Int.reduceNeg,Int.reduceToNat,reduceCtorEq]
  refine av.split (fun h=>?_) (fun h=>?_)
  · obtain ⟨h1,h2⟩:=k8.1 h
    have hn:=CD g (bu h1) x h2
    simp only[ax,encS,aQ] at hn
    simp (disch:=omega) only [↓wr,↓reduceIte,wq,ah,ag,aj,ab,ae,af,ai,isNil,Nat.reduceEqDiff,Nat.reduceAdd,Nat.reduceLT,Nat.reduceLeDiff,Int.reduceNeg,Int.reduceToNat,reduceCtorEq,ax,encS,aQ]
    refine aG.pure hn (by kernel_rfl) ?_
    simp (disch:=omega) only [↓wr,↓reduceIte,wq,ah,ag,aj,ab,ae,af,ai,isNil,Nat.reduceEqDiff,Nat.reduceAdd,Nat.reduceLT,Nat.reduceLeDiff,Int.reduceNeg,Int.reduceToNat,reduceCtorEq]
    rw[if_pos h]
  · simp (disch:=omega) only [↓wr,↓reduceIte,wq,ah,ag,aj,ab,ae,af,ai,isNil,Nat.reduceEqDiff,Nat.reduceAdd,Nat.reduceLT,Nat.reduceLeDiff,Int.reduceNeg,Int.reduceToNat,reduceCtorEq]
    rw[h]; simp
theorem AB {α:Type} (p:α→Bool):∀ (l:List α) (i:Int),0≤i→c4 p l i = -1→∀ x∈l,p x=false
  | [],_,_,_=>by simp
  | x :: l,i,h0,h=>by
    rw[c4] at h
    split at h
    · omega
    · rename_i hp
      intro y hy
      rcases List.mem_cons.1 hy with rfl | hy
      · simpa using hp
      · exact AB p l (i+1) (by omega) h y hy
theorem Bm {α:Type} (p:α→Bool):∀ (l:List α) (i:Int),0≤i→c4 p l i = -1∨∃ (k:Nat) (x:α),c4 p l i=i+k∧l[k]?=some x∧p x=true∧∀ y∈l.take k,p y=false
  | [],_,_=>.inl rfl
  | x :: l,i,h0=>by
    rw[c4]
    split
    · rename_i hp
      exact .inr ⟨0,x,by simp,rfl,hp,by simp⟩
    · rename_i hp
      rcases Bm p l (i+1) (by omega) with h | ⟨k,y,h1,h2,h3,h4⟩
      · exact .inl h
      · refine .inr ⟨k+1,y,by rw[h1]; push_cast; omega,by simpa using h2,h3,fun z hz=>?_⟩
        rw[List.take_succ_cons] at hz
        rcases List.mem_cons.1 hz with rfl | hz
        · simpa using hp
        · exact h4 z hz
set_option maxHeartbeats 4000000 in
theorem GN (l:List aI) (hl:l.length≤100000) (u:V) (f:FuncId) (cap:List V) (p:aI→Bool) (H:View) (ho:aO H u 2 (aL l)) (hf:∀ x∈l,aB Tryz.prog f (.agg (aQ x) :: cap) H fun r H'=>r=gb (p x)∧H'=H) :
    aB Tryz.prog 107 [u,.fn f [] cap] H fun r H'=>r=gi (c4 p l 0)∧H'=H:=by
  refine aB.of mixed gU ?_
  have hlen:cF u=some l.length:=by rw[ho.len,bj]
  simp (disch:=omega) only [↓wr,↓reduceIte,wq,ah,ag,aj,ab,ae,af,ai,isNil,Nat.reduceEqDiff,Nat.reduceAdd,Nat.reduceLT,Nat.reduceLeDiff,Int.reduceNeg,Int.reduceToNat,reduceCtorEq,eD,hlen]
  refine bH.up l.length (fun i T H'=>H=H'∧c4 p (l.drop i) i=c4 p l 0∧T 0=u∧T 1=.fn f [] cap∧T 7=gi l.length∧T 8=gi i) ⟨rfl,rfl,rfl,rfl,rfl,rfl⟩ ?_
  rintro i k T _ hk ⟨rfl,hi,h0,h1,h7,h8⟩
  simp (disch:=omega) only [↓wr,↓reduceIte,wq,ah,ag,aj,ab,ae,af,ai,isNil,Nat.reduceEqDiff,Nat.reduceAdd,Nat.reduceLT,Nat.reduceLeDiff,Int.reduceNeg,Int.reduceToNat,reduceCtorEq,ec,h0,h1,h7,h8]
  refine av.dec (fun hc=>?_) (fun hc=>?_)
  · obtain ⟨id,hu,hid⟩:=ho.sl (by rw[bj]; omega)
    rw[bj] at hu
    have hm:l[i]'(by omega)∈l:=List.getElem_mem _
    rw[fk (show i < l.length by omega)] at hi
    have hgx:l[i]?=some (l[i]'(by omega)):=List.getElem?_eq_getElem (by omega)
    generalize l[i]'(by omega)=x at hm hi hgx
    simp (disch:=omega) only [↓wr,↓reduceIte,wq,ah,ag,aj,ab,ae,af,ai,isNil,Nat.reduceEqDiff,Nat.reduceAdd,Nat.reduceLT,Nat.reduceLeDiff,Int.reduceNeg,Int.reduceToNat,reduceCtorEq,h0,h1,h7,h8,hu,hid,uT hgx]
    refine ⟨by omega,by rw[bj]; omega,?_⟩
    have hcall:=hf x hm
    simp only[aQ] at hcall
    refine aG.gT (hcall.mono ?_)
    rintro r H2 ⟨rfl,rfl⟩
    simp only[c4] at hi
    simp (disch:=omega) only [↓wr,↓reduceIte,wq,ah,ag,aj,ab,ae,af,ai,isNil,Nat.reduceEqDiff,Nat.reduceAdd,Nat.reduceLT,Nat.reduceLeDiff,Int.reduceNeg,Int.reduceToNat,reduceCtorEq]
    refine av.split (fun hp=>?_) (fun hp=>?_)
    · simp (disch:=omega) only [↓wr,↓reduceIte,wq,ah,ag,aj,ab,ae,af,ai,isNil,Nat.reduceEqDiff,Nat.reduceAdd,Nat.reduceLT,Nat.reduceLeDiff,Int.reduceNeg,Int.reduceToNat,reduceCtorEq,h0,h1,h7,h8]
      rw[← hi,if_pos hp]
    · simp (disch:=omega) only [↓wr,↓reduceIte,wq,ah,ag,aj,ab,ae,af,ai,isNil,Nat.reduceEqDiff,Nat.reduceAdd,Nat.reduceLT,Nat.reduceLeDiff,Int.reduceNeg,Int.reduceToNat,reduceCtorEq,h0,h1,h7,h8]
      refine bD hk (by omega) ⟨rfl,?_,by first | exact h0 | (rw[← hu]; exact h0),h1,h7,rfl⟩
      rw[if_neg (by simp[hp])] at hi
      push_cast; exact hi
  · rw[List.drop_eq_nil_of_le (by omega)] at hi
    simp (disch:=omega) only [↓wr,↓reduceIte,wq,ah,ag,aj,ab,ae,af,ai,isNil,Nat.reduceEqDiff,Nat.reduceAdd,Nat.reduceLT,Nat.reduceLeDiff,Int.reduceNeg,Int.reduceToNat,reduceCtorEq,h0,h1,h7,h8]
    rw[← hi]; rfl
set_option maxHeartbeats 16000000 in
theorem Eu (l:List aI) (hl:l.length≤100000) (u:V) (f:FuncId) (cap:List V) (p:aI→Bool) (H:View) (ho:aO H u 2 (aL l)) (hf:∀ H,∀ x∈l,aB Tryz.prog f (.agg (aQ x) :: cap) H fun r H'=>r=gb (p x)∧H'=H) :
    aB Tryz.prog 57 [u,.fn f [] cap] H fun r H'=>(∀ id,H id≠.dead→owner u≠some id→H' id=H id)∧aO H' r 2 (aL (l.filter fun x=>!p x))∧owner r=owner u:=by
  refine aB.cut (K:=fun r H'=>(H'=H∧r=u∧l.filter (fun x=>!p x)=l)∨∃ id rest,u=.sl id 0 l.length 2∧r=.sl id 0 (l.filter fun x=>!p x).length 2∧H' id=.arr 2 (aL (l.filter fun x=>!p x) ++ rest)∧∀ j,H j≠.dead→j≠id→H' j=H j) ?_ ?_
  rotate_left
  · rintro r H' (⟨rfl,rfl,e⟩ | ⟨id,rest,rfl,rfl,h1,h2⟩)
    · exact .inl ⟨fun _ _ _=>rfl,by rw[e]; exact ho,rfl⟩
    · refine .inr ⟨id,2,aL (l.filter fun x=>!p x),rest,h1,fun j hd hj=>?_,?_,rfl⟩
      · simp only[View.set]
        rw[if_neg (fun e=>hj (by rw[e]; rfl))]
        exact h2 j hd (fun e=>hj (by rw[e]; rfl))
      · exact .inr ⟨id,by rw[bj],by simp[View.set]⟩
  refine aB.of mixed gE ?_
  have hlen:cF u=some l.length:=by rw[ho.len,bj]
  simp (disch:=omega) only [↓wr,↓reduceIte,wq,ah,ag,aj,ab,ae,af,ai,isNil,Nat.reduceEqDiff,Nat.reduceAdd,Nat.reduceLT,Nat.reduceLeDiff,Int.reduceNeg,Int.reduceToNat,reduceCtorEq,ei,hlen]
  refine aG.gT ((GN l hl u f cap p H ho (hf H)).mono ?_)
  rintro r H2 ⟨rfl,e2⟩
  replace e2:=e2.symm
  subst e2
  rcases Bm p l 0 (Int.le_refl _) with hn | ⟨k0,x0,hi,hx0,hp0,hall0⟩
  · have hno:=AB p l 0 (Int.le_refl _) hn
    rw[hn]
    simp (disch:=omega) only [↓wr,↓reduceIte,wq,ah,ag,aj,ab,ae,af,ai,isNil,Nat.reduceEqDiff,Nat.reduceAdd,Nat.reduceLT,Nat.reduceLeDiff,Int.reduceNeg,Int.reduceToNat,reduceCtorEq]
    refine av.eq (fun _=>?_) (fun h=>absurd rfl h)
    simp (disch:=omega) only [↓wr,↓reduceIte,wq,ah,ag,aj,ab,ae,af,ai,isNil,Nat.reduceEqDiff,Nat.reduceAdd,Nat.reduceLT,Nat.reduceLeDiff,Int.reduceNeg,Int.reduceToNat,reduceCtorEq]
    left
    try refine ⟨rfl,rfl,?_⟩
    exact List.filter_eq_self.2 fun x hx=>by simp[hno x hx]
  rw[hi,show (0:Int)+(k0:Int)=k0 by omega]
  obtain ⟨hk0,_⟩:=List.getElem?_eq_some_iff.1 hx0
  obtain ⟨id,hu,hid⟩:=ho.sl (by rw[bj]; omega)
  rw[bj] at hu
  subst hu
  have hst:(l.take (k0+1)).filter (fun x=>!p x)=l.take k0:=by
    rw[List.take_add_one,hx0,List.filter_append,List.filter_eq_self.2 (fun y hy=>by simp[hall0 y hy])]
    simp[hp0]
  simp (disch:=omega) only [↓wr,↓reduceIte,wq,ah,ag,aj,ab,ae,af,ai,isNil,Nat.reduceEqDiff,Nat.reduceAdd,Nat.reduceLT,Nat.reduceLeDiff,Int.reduceNeg,Int.reduceToNat,reduceCtorEq]
  refine av.eq (fun h=>by omega) (fun _=>?_)
  simp (disch:=omega) only [↓wr,↓reduceIte,wq,ah,ag,aj,ab,ae,af,ai,isNil,Nat.reduceEqDiff,Nat.reduceAdd,Nat.reduceLT,Nat.reduceLeDiff,Int.reduceNeg,Int.reduceToNat,reduceCtorEq]
  refine bH.up (l.length - (k0+1)) (fun i T H'=>∃ (kk:Nat) (cur:List aI),H' id=.arr 2 (aL cur)∧cur.length=l.length∧kk≤k0+i∧cur.take kk=(l.take (k0+1+i)).filter (fun x=>!p x)∧(∀ m,k0+1+i≤m→cur.getD m dK=l.getD m dK)∧(∀ j,H j≠.dead→j≠id→H' j=H j) ∧
    T 0=.sl id 0 l.length 2∧T 1=.fn f [] cap∧T 5=gi kk∧T 6=gi ((k0+1+i:Nat):Int)) ⟨k0,l,hid,rfl,by omega,by rw[Nat.add_zero,hst],fun _ _=>rfl,fun _ _ _=>rfl,rfl,rfl,rfl,rfl⟩ ?_
  rintro i k T H' hk ⟨kk,cur,hc,hcl,hkk,hct,hcj,hold,t0,t1,t5,t6⟩
  simp (disch:=omega) only [↓wr,↓reduceIte,wq,ah,ag,aj,ab,ae,af,ai,isNil,Nat.reduceEqDiff,Nat.reduceAdd,Nat.reduceLT,Nat.reduceLeDiff,Int.reduceNeg,Int.reduceToNat,reduceCtorEq,dU,t0,t1,t5,t6]
  refine av.dec (fun hc2=>?_) (fun hc2=>?_)
  · have hp:k0+1+i < l.length:=by omega
    have hgx:l[k0+1+i]?=some (l.getD (k0+1+i) dK):=getD_some (by omega)
    have hg:=km (l:=cur) (show k0+1+i < cur.length by omega)
    rw[hcj _ (Nat.le_refl _)] at hg
    have hm:l.getD (k0+1+i) dK∈l:=List.mem_of_getElem? hgx
    have hft:=Bv (p:=fun x=>!p x) hgx
    generalize l.getD (k0+1+i) dK=x at hg hgx hm hft
    simp (disch:=omega) only [↓wr,↓reduceIte,wq,ah,ag,aj,ab,ae,af,ai,isNil,Nat.reduceEqDiff,Nat.reduceAdd,Nat.reduceLT,Nat.reduceLeDiff,Int.reduceNeg,Int.reduceToNat,reduceCtorEq,t0,t1,t5,t6,hc,hg]
    refine ⟨by omega,by rw[bj]; omega,?_⟩
    intro q hq
    rw[set_set]
    have hqid:id≠q:=fun e=>by rw[← e,hc] at hq; simp at hq
    have hqH:∀ j,H j≠.dead→j≠id→j≠q:=fun j hd hj e=>by
      have:=hold j hd hj
      rw[e,hq] at this
      rw[e] at hd
      exact hd this.symm
    have hqq:(H'.set q (.arr 2 [[gi x.aF,gi x.dot]])) q=.arr 2 [[gi x.aF,gi x.dot]]:=by simp[View.set]
    have hc4:(H'.set q (.arr 2 [[gi x.aF,gi x.dot]])) id=.arr 2 (aL cur):=by simp only[View.set]; rw[if_neg hqid]; exact hc
    have hold4:∀ j,H j≠.dead→j≠id→(H'.set q (.arr 2 [[gi x.aF,gi x.dot]])) j=H j:=fun j hd hj=>by
      simp only[View.set]; rw[if_neg (hqH j hd hj)]; exact hold j hd hj
    generalize H'.set q (.arr 2 [[gi x.aF,gi x.dot]])=H4 at hqq hc4 hold4
    have hcall:=hf H4 x hm
    simp only[aQ] at hcall
    refine aG.gT (hcall.mono ?_)
    rintro r H5 ⟨rfl,rfl⟩
    cases hpx:p x with
    | true =>
      simp (disch:=omega) only [↓wr,↓reduceIte,wq,ah,ag,aj,ab,ae,af,ai,isNil,Nat.reduceEqDiff,Nat.reduceAdd,Nat.reduceLT,Nat.reduceLeDiff,Int.reduceNeg,Int.reduceToNat,reduceCtorEq,t0,t1,t5,t6]
      rw[if_neg (by simp[hpx])] at hft
      exact bD hk (by omega) ⟨kk,cur,hc4,hcl,by omega,by rw[← Nat.add_assoc,hft]; exact hct,fun m hm=>hcj m (by omega),hold4,t0,t1,t5,by push_cast; rfl⟩
    | false =>
      have hkl:(aL cur).getD kk []=[gi (cur.getD kk dK).aF,gi (cur.getD kk dK).dot]:=km (by omega)
      have hse:(aL cur).set kk [gi x.aF,gi x.dot]=aL (cur.set kk x):=by simp[aL,List.map_set,aQ]
      simp (disch:=omega) only [↓wr,↓reduceIte,wq,ah,ag,aj,ab,ae,af,ai,isNil,Nat.reduceEqDiff,Nat.reduceAdd,Nat.reduceLT,Nat.reduceLeDiff,Int.reduceNeg,Int.reduceToNat,reduceCtorEq,t0,t1,t5,t6,hqq,hc4,hkl,hse]
      refine ⟨by omega,by rw[bj]; omega,?_⟩
      rw[if_pos (by simp[hpx])] at hft
      refine bD hk (by omega) ⟨kk+1,cur.set kk x,by simp[View.set],by simp[hcl],by omega,?_,fun j hj=>?_,fun j hd hj=>by simp only[View.set]; rw[if_neg hj]; exact hold4 j hd hj,t0,t1,by push_cast; rfl,by push_cast; rfl⟩
      · rw[← Nat.add_assoc,hft,← hct,List.take_add_one,List.take_set_of_le (Nat.le_refl _),List.getElem?_set_self (by omega)]; rfl
      · rw[y6 _ _ _ _ _ (by omega),if_neg (by omega)]
        exact hcj j (by omega)
  · have hi2:k0+1+i=l.length:=by omega
    rw[hi2,List.take_length] at hct
    have hz:l.length - kk≠0:=by omega
    have hkl:kk=(l.filter fun x=>!p x).length:=by rw[← hct,List.length_take]; omega
    simp (disch:=omega) only [↓wr,↓reduceIte,wq,ah,ag,aj,ab,ae,af,ai,isNil,Nat.reduceEqDiff,Nat.reduceAdd,Nat.reduceLT,Nat.reduceLeDiff,Int.reduceNeg,Int.reduceToNat,reduceCtorEq,t0,t5,pa (id:=id) (off:=0) (k:=l.length) (m:=kk) (by omega)]
    refine Cm (id:=id) (off:=kk) (len:=l.length - kk) (sz:=2) (bytes:=16) (s:=2) (z:=[gi 0,gi 0]) (es:=aL cur) (by kernel_rfl) (by first | rfl | (simp (disch:=omega) only [↓wr,↓reduceIte,wq,ah,ag,aj,ab,ae,af,ai,isNil,Nat.reduceEqDiff,Nat.reduceAdd,Nat.reduceLT,Nat.reduceLeDiff,Int.reduceNeg,Int.reduceToNat,reduceCtorEq]; try rw[Nat.zero_add])) hc (by rw[bj]; omega) hz ?_
    have hsr:eh (aL cur) kk (List.replicate (l.length - kk) [gi 0,gi 0])=aL (l.filter fun x=>!p x) ++ List.replicate (l.length - kk) [gi 0,gi 0]:=by
      have h1:=pq (List.replicate (l.length - kk) [gi 0,gi 0]) (aL (cur.take kk)) (aL (cur.drop kk)) (by simp[aL]; omega)
      rw[show aL (cur.take kk) ++ aL (cur.drop kk)=aL cur by rw[aL,aL,← List.map_append,List.take_append_drop]; rfl] at h1
      rw[show (aL (cur.take kk)).length=kk by rw[bj,List.length_take]; omega] at h1
      rw[h1,hct,List.drop_eq_nil_of_le (by simp[aL]; omega),List.append_nil]
    rw[hsr]
    simp (disch:=omega) only [↓wr,↓reduceIte,wq,ah,ag,aj,ab,ae,af,ai,isNil,Nat.reduceEqDiff,Nat.reduceAdd,Nat.reduceLT,Nat.reduceLeDiff,Int.reduceNeg,Int.reduceToNat,reduceCtorEq,t0,t5,uP (id:=id) (off:=0) (k:=l.length) (m:=kk) (by omega)]
    right
    exact ⟨id,List.replicate (l.length - kk) [gi 0,gi 0],rfl,by rw[hkl],by simp[View.set],fun j hd hj=>(show (H'.set id _) j=H j by simp only[View.set]; rw[if_neg hj]; exact hold j hd hj)⟩
set_option maxHeartbeats 2000000 in
theorem Jq (l:List aI) (hl:l.length≤100000) (H:View):aB Tryz.prog 58 [.aP (aL l)] H fun r H'=>aO H' r 2 (aL l)∧b6 H H' r:=by
  cases l with
  | nil =>
    refine ⟨by kernel_rfl,?_⟩
    rintro h rfl
    refine ⟨.emp 0,h,wm (.aP []) (fun Z μ hp x hx=>?_) h,.refl _,.nil,.emp⟩
    rcases Al hx with ⟨_,a,cap,rfl,hz⟩ | ⟨b,off,esz,cap,c,rfl,_,_,_⟩
    · exact ⟨a,cap,rfl,hz⟩
    · exact ⟨_,cap,rfl,fun h=>by simp at h⟩
  | cons x r =>
    refine aB.of mixed bP ?_
    simp only[List.length_cons] at hl
    have hlen:(aL (x :: r)).length=r.length+1:=by rw[bj]; rfl
    have hne:aL (x :: r)=aQ x :: aL r:=rfl
    simp (disch:=omega) only [↓wr,↓reduceIte,wq,ah,ag,aj,ab,ae,af,ai,isNil,Nat.reduceEqDiff,Nat.reduceAdd,Nat.reduceLT,Nat.reduceLeDiff,Int.reduceNeg,Int.reduceToNat,reduceCtorEq,bJ,hne]
    rw[← hne]
    refine gm (es:=[]) (.inl ⟨rfl,2,rfl⟩) (by simp[aL,aQ,List.all_map,aU]) (by unfold aW; rw[hlen]; simp; omega) (by unfold aW; rw[hlen]; simp; omega) ?_
    intro u2 H2 o2 l2
    simp (disch:=omega) only [↓wr,↓reduceIte,wq,ah,ag,aj,ab,ae,af,ai,isNil,Nat.reduceEqDiff,Nat.reduceAdd,Nat.reduceLT,Nat.reduceLeDiff,Int.reduceNeg,Int.reduceToNat,reduceCtorEq]
    refine ⟨by simpa using o2,fun j hj=>?_⟩
    exact l2 j hj (by simp[owner])
theorem DQ (g:ao) (hsm:g.Small) (u:V) (H:View) (ho:aO H u 2 (aL [])):aB Tryz.prog 56 [.agg (ax g),u] H fun r H'=>aO H' r 2 (aL []):=by
  refine aB.of mixed ot ?_
  have hno:=hsm.names
  simp (disch:=omega) only [↓wr,↓reduceIte,wq,ah,ag,aj,ab,ae,af,ai,isNil,Nat.reduceEqDiff,Nat.reduceAdd,Nat.reduceLT,Nat.reduceLeDiff,Int.reduceNeg,Int.reduceToNat,reduceCtorEq,mF,ax,encS]
  refine aG.gT ((yW [] (by simp) u H ho).mono ?_)
  rintro r H1 ⟨o1,_⟩
  simp (disch:=omega) only [↓wr,↓reduceIte,wq,ah,ag,aj,ab,ae,af,ai,isNil,Nat.reduceEqDiff,Nat.reduceAdd,Nat.reduceLT,Nat.reduceLeDiff,Int.reduceNeg,Int.reduceToNat,reduceCtorEq,ax,encS]
  refine ⟨⟨Nat.le_refl _,by unfold aW; omega,by unfold aW; omega⟩,fun h0=>?_,fun h0 q hq=>?_⟩
  all_goals
    try have o1:=(show bq H1 [(r,2,aL [])] from ⟨fun x hx=>by simp at hx; subst hx; exact o1,by cases hr:owner r <;> simp[List.filterMap_cons,hr]⟩).fresh (o:=.arr 1 (List.replicate g.aC.length [gb false])) hq |>.head
    have hlr:cF r=some 0:=o1.len
    refine bH.intro (fun m T H'=>aO H' r 2 (aL [])∧T 5=r∧T 7=gi 0) 0 ⟨o1,rfl,rfl⟩ ?_
    rintro m T H' ⟨o2,t5,t7⟩
    simp (disch:=omega) only [↓wr,↓reduceIte,wq,ah,ag,aj,ab,ae,af,ai,isNil,Nat.reduceEqDiff,Nat.reduceAdd,Nat.reduceLT,Nat.reduceLeDiff,Int.reduceNeg,Int.reduceToNat,reduceCtorEq,kc,t5,t7,hlr]
    refine av.dec (fun h=>by simp at h) (fun _=>?_)
    simp (disch:=omega) only [↓wr,↓reduceIte,wq,ah,ag,aj,ab,ae,af,ai,isNil,Nat.reduceEqDiff,Nat.reduceAdd,Nat.reduceLT,Nat.reduceLeDiff,Int.reduceNeg,Int.reduceToNat,reduceCtorEq,t5]
    refine aG.gT ((Fy [] (by simp) r H' o2).mono ?_)
    rintro r2 H3 ⟨_,o3,_⟩
    simp (disch:=omega) only [↓wr,↓reduceIte,wq,ah,ag,aj,ab,ae,af,ai,isNil,Nat.reduceEqDiff,Nat.reduceAdd,Nat.reduceLT,Nat.reduceLeDiff,Int.reduceNeg,Int.reduceToNat,reduceCtorEq]
    exact o3
theorem Dx (g:ao) (hg:g.Ok) (hsm:g.Small) (x:aI) (hx:bB x.aF∧bB x.dot) (H:View):aB Tryz.prog 59 [.agg (aQ x),.aX (ax g) 0] H fun r H'=>r=gb (!bY g x)∧H'=H:=by
  refine aB.of mixed ud ?_
  have hh:=z8 g hg hsm x hx
  simp only[ax,encS,aQ] at hh
  simp (disch:=omega) only [↓wr,↓reduceIte,wq,ah,ag,aj,ab,ae,af,ai,isNil,Nat.reduceEqDiff,Nat.reduceAdd,Nat.reduceLT,Nat.reduceLeDiff,Int.reduceNeg,Int.reduceToNat,reduceCtorEq,pg,ax,encS,aQ]
  refine aG.pure hh (by kernel_rfl) ?_
  simp (disch:=omega) only [↓wr,↓reduceIte,wq,ah,ag,aj,ab,ae,af,ai,isNil,Nat.reduceEqDiff,Nat.reduceAdd,Nat.reduceLT,Nat.reduceLeDiff,Int.reduceNeg,Int.reduceToNat,reduceCtorEq]
set_option maxHeartbeats 4000000 in
theorem EP (g:ao) (hg:g.Ok) (hsm:g.Small) (l:List aI) (hl:l.length≤10000) (hn:∀ x∈l,bB x.aF∧bB x.dot):dR Tryz.prog 22 [.agg (ax g),.aP (aL l)] (.aP (aL (dq g (l.filter (bY g))))):=by
  refine dR.of (by
    intro v hv; simp at hv
    rcases hv with rfl | rfl
    · exact cg _ (c8 g)
    · exact rL _) ?_
  refine aB.of mixed wb ?_
  simp (disch:=omega) only [↓wr,↓reduceIte,wq,ah,ag,aj,ab,ae,af,ai,isNil,Nat.reduceEqDiff,Nat.reduceAdd,Nat.reduceLT,Nat.reduceLeDiff,Int.reduceNeg,Int.reduceToNat,reduceCtorEq,rM,ax,encS]
  refine aG.gT ((Jq l (by omega) _).mono ?_)
  rintro r H1 ⟨o1,_⟩
  simp (disch:=omega) only [↓wr,↓reduceIte,wq,ah,ag,aj,ab,ae,af,ai,isNil,Nat.reduceEqDiff,Nat.reduceAdd,Nat.reduceLT,Nat.reduceLeDiff,Int.reduceNeg,Int.reduceToNat,reduceCtorEq]
  refine aG.gT ((Eu l (by omega) r 59 [.aX (ax g) 0] (fun x=>!bY g x) H1 o1 (fun H x hx=>Dx g hg hsm x (hn x hx) H)).mono ?_)
  rintro r2 H2 ⟨_,o2,_⟩
  have hfe:l.filter (fun x=>!(!bY g x))=l.filter (bY g):=by simp
  have hfl:=List.length_filter_le (bY g) l
  rw[hfe] at o2
  have hall:∀ x∈l.filter (bY g),bt g=true∧cw g x:=fun x hx=>k8.1 (List.mem_filter.1 hx).2
  generalize l.filter (bY g)=l' at *
  simp (disch:=omega) only [↓wr,↓reduceIte,wq,ah,ag,aj,ab,ae,af,ai,isNil,Nat.reduceEqDiff,Nat.reduceAdd,Nat.reduceLT,Nat.reduceLeDiff,Int.reduceNeg,Int.reduceToNat,reduceCtorEq]
  cases l' with
  | nil =>
    refine aG.gT ((DQ g hsm r2 H2 o2).mono ?_)
    rintro r3 H3 o3
    simp (disch:=omega) only [↓wr,↓reduceIte,wq,ah,ag,aj,ab,ae,af,ai,isNil,Nat.reduceEqDiff,Nat.reduceAdd,Nat.reduceLT,Nat.reduceLeDiff,Int.reduceNeg,Int.reduceToNat,reduceCtorEq]
    rintro h' rfl
    rw[uY]
    exact Cn o3
  | cons y l' =>
    have hf:=bu (hall y (by simp)).1
    refine aG.gT ((EM g hf (y :: l') (fun x hx=>(hall x hx).2) (by omega) r2 H2 o2).mono ?_)
    rintro r3 H3 ⟨o3,_⟩
    simp (disch:=omega) only [↓wr,↓reduceIte,wq,ah,ag,aj,ab,ae,af,ai,isNil,Nat.reduceEqDiff,Nat.reduceAdd,Nat.reduceLT,Nat.reduceLeDiff,Int.reduceNeg,Int.reduceToNat,reduceCtorEq]
    rintro h' rfl
    exact Cn o3
theorem uQ (g:ao) (p:List aI) (y:aI) (s:Int):cJ g (p ++ [y]) s=if cY g y=(s,true) then cJ g p s ++ [⟨y.aF,y.dot+1⟩] else cJ g p s:=by
  unfold cJ
  rw[List.filter_append,List.map_append]
  split
  · rename_i h; simp[h]
  · rename_i h; simp[h]
def lz (g:ao) (p:List aI) (A:cd Int):List fa:=A.map fun x=>(x.2.1,2,aL (cJ g p (cO g x.1.toNat)))
structure uE (g:ao) (p:List aI) (H0 H:View) (q:Nat) (A:cd Int):Prop where
  mp:∃ c,H q=.map (dC (Value.int .i64) A) c
  nd:(A.map (·.1)).Nodup
  own:bq H (lz g p A)
  ne:∀ x∈A,0≤x.1∧cJ g p (cO g x.1.toNat)≠[]
  all:∀ k:Nat,cJ g p (cO g k)≠[]→((k:Nat):Int)∈A.map (·.1)
  old:∀ id,H0 id≠.dead→H id=H0 id
  q0:H0 q=.dead
  new:∀ x∈A,∀ id,owner x.2.1=some id→H0 id=.dead
theorem getM_none {A:cd Int} {k:Int} : getM A k=none↔k ∉ A.map (·.1):=by
  induction A with
  | nil=>simp[getM]
  | cons x A ih =>
    unfold getM at ih ⊢
    rw[List.find?_cons]
    by_cases h:k=x.1
    · simp[h]
    · simp only[beq_eq_false_iff_ne.2 h,List.map_cons,List.mem_cons,not_or]
      rw[ih]
      simp[h]
theorem xA {A:cd Int} {k:Int} {v:V} (h:getM A k=some v):∃ A1 A2 b,A=A1 ++ (k,v,b) :: A2∧k ∉ A1.map (·.1)∧∀ v' c,cy k v' c A=A1 ++ (k,v',b) :: A2:=by
  induction A with
  | nil=>simp[getM] at h
  | cons x A ih =>
    unfold getM at h ih
    rw[List.find?_cons] at h
    by_cases e:k=x.1
    · simp only[e,beq_self_eq_true,Option.map_some,Option.some.injEq] at h
      refine ⟨[],A,x.2.2,by rw[e,← h]; rfl,by simp,fun v' c=>?_⟩
      rw[cy,e,beq_self_eq_true,if_pos rfl]; rfl
    · rw[beq_eq_false_iff_ne.2 e] at h
      obtain ⟨A1,A2,b,rfl,h2,h3⟩:=ih h
      refine ⟨x :: A1,A2,b,rfl,by simp only[List.map_cons,List.mem_cons,not_or]; exact ⟨e,h2⟩,fun v' c=>?_⟩
      rw[cy,beq_eq_false_iff_ne.2 e,h3]; rfl
theorem KA {A:cd Int} {k:Int} (h:k ∉ A.map (·.1)) (v:V) (c:Nat):cy k v c A=A ++ [(k,v,c)]:=by
  induction A with
  | nil=>rfl
  | cons x A ih =>
    simp only[List.map_cons,List.mem_cons,not_or] at h
    rw[cy,beq_eq_false_iff_ne.2 h.1,ih h.2]; rfl
theorem uE.skip {g:ao} {p:List aI} {H0 H:View} {q:Nat} {A:cd Int} (h:uE g p H0 H q A) {y:aI} (hy:(cY g y).2=false):uE g (p ++ [y]) H0 H q A:=by
  have e:∀ s,cJ g (p ++ [y]) s=cJ g p s:=fun s=>by rw[uQ,if_neg (fun h=>by rw[h] at hy; simp at hy)]
  have e2:lz g (p ++ [y]) A=lz g p A:=by simp only[lz,e]
  exact ⟨h.mp,h.nd,by rw[e2]; exact h.own,fun x hx=>by rw[e]; exact h.ne x hx,fun k hk=>by rw[e] at hk; exact h.all k hk,h.old,h.q0,h.new⟩
theorem uE.val {g:ao} {p:List aI} {H0 H:View} {q:Nat} {A:cd Int} (h:uE g p H0 H q A) (r:Nat):aO H ((getM A r).getD (.emp 1)) 2 (aL (cJ g p (cO g r))):=by
  cases hg:getM A r with
  | none =>
    have hn:=getM_none.1 hg
    have:cJ g p (cO g r)=[]:=Decidable.byContradiction fun hne=>hn (h.all r hne)
    rw[this]; exact .nil
  | some v =>
    obtain ⟨A1,A2,b,rfl,_,_⟩:=xA hg
    have:=h.own.1 (v,2,aL (cJ g p (cO g r))) (by simp[lz])
    exact this
theorem uE.put {g:ao} {p:List aI} {H0 H:View} {q:Nat} {A:cd Int} (h:uE g p H0 H q A) {y:aI} {r:Nat} (hy:cY g y=(cO g r,true)) {H1:View} {v':V} (o1:aO H1 v' 2 (aL (cJ g p (cO g r) ++ [⟨y.aF,y.dot+1⟩]))) (l1:Left H H1 ((getM A r).getD (.emp 1)) v') (c c':Nat) :
    uE g (p ++ [y]) H0 (H1.set q (.map (dC (Value.int .i64) (cy (r:Int) v' c A)) c')) q (cy (r:Int) v' c A):=by
  obtain ⟨c0,hq⟩:=h.mp
  have hr:cJ g (p ++ [y]) (cO g r)=cJ g p (cO g r) ++ [⟨y.aF,y.dot+1⟩]:=by rw[uQ,if_pos hy]
  have hne:∀ x:Int × V × Nat,0≤x.1→x.1≠r→cJ g (p ++ [y]) (cO g x.1.toNat)=cJ g p (cO g x.1.toNat):=fun x h0 hx=>by
    rw[uQ,if_neg]
    intro e
    rw[hy] at e
    simp only[Prod.mk.injEq,and_true] at e
    have h1:=D6 g r
    rw[e,D6] at h1
    omega
  have howq:owner ((getM A r).getD (.emp 1))≠some q:=fun e=>by
    have:=((h.val r).live e).1
    rw[hq] at this; simp at this
  have hq1:H1 q≠.dead∧owner v'≠some q:=by
    obtain ⟨k1,k2⟩:=l1 q (by rw[hq]; simp) howq
    exact ⟨by rw[k1,hq]; simp,k2⟩
  have hold:∀ id,H0 id≠.dead→id≠q∧owner ((getM A r).getD (.emp 1))≠some id:=fun id hid=>by
    refine ⟨fun e=>hid (by rw[e]; exact h.q0),fun e=>?_⟩
    cases hg:getM A r with
    | none=>rw[hg] at e; simp[owner] at e
    | some v =>
      rw[hg] at e
      obtain ⟨A1,A2,b,rfl,_,_⟩:=xA hg
      exact hid (h.new (r,v,b) (by simp) id e)
  have hold2:∀ id,H0 id≠.dead→(H1.set q (.map (dC (Value.int .i64) (cy (r:Int) v' c A)) c')) id=H0 id:=fun id hid=>by
    simp only[View.set]
    rw[if_neg (hold id hid).1,(l1 id (by rw[h.old id hid]; exact hid) (hold id hid).2).1,h.old id hid]
  have hv':∀ id,owner v'=some id→H0 id=.dead:=fun id e=>Classical.byContradiction fun hid=>(l1 id (by rw[h.old id hid]; exact hid) (hold id hid).2).2 e
  have hset:∀ {L:List fa},bq H1 L→(∀ x∈L,owner x.1≠some q)→bq (H1.set q (.map (dC (Value.int .i64) (cy (r:Int) v' c A)) c')) L:=fun hL hx=>⟨fun x hxm=>(hL.1 x hxm).other (hx x hxm),hL.2⟩
  have hmapq:∀ x∈A,owner x.2.1≠some q:=fun x hx=>h.own.Gw hq _ (List.mem_map.2 ⟨x,hx,rfl⟩)
  cases hg:getM A r with
  | none =>
    have hn:=getM_none.1 hg
    rw[hg] at l1
    rw[KA hn] at *
    have e1:lz g (p ++ [y]) (A ++ [((r:Int),v',c)])=lz g p A ++ [(v',2,aL (cJ g p (cO g r) ++ [⟨y.aF,y.dot+1⟩]))]:=by
      simp only[lz,List.map_append,List.map_cons,List.map_nil,Int.toNat_natCast,hr]
      congr 1
      refine List.map_congr_left fun x hx=>?_
      rw[hne x (h.ne x hx).1 (fun e=>hn (List.mem_map.2 ⟨x,hx,e⟩))]
    refine ⟨⟨c',by simp[View.set]⟩,?_,?_,fun x hx=>?_,fun k hk=>?_,hold2,h.q0,fun x hx id e=>?_⟩
    · rw[List.map_append,List.nodup_append]
      refine ⟨h.nd,by simp,fun a ha b hb e=>?_⟩
      simp at hb; subst hb; subst e; exact hn ha
    · rw[e1]
      have ho:bq H1 ((v',2,aL (cJ g p (cO g r) ++ [⟨y.aF,y.dot+1⟩])) :: lz g p A):=(h.own.emp (k:=1) (sz:=2)).left (by simpa using o1) l1
      refine hset (ho.perm (List.perm_append_comm (l₁:=[_]))) fun x hx=>?_
      rcases List.mem_append.1 hx with hx | hx
      · obtain ⟨z,hz,rfl⟩:=List.mem_map.1 hx
        exact hmapq z hz
      · simp at hx; subst hx; exact hq1.2
    · rcases List.mem_append.1 hx with hx | hx
      · rw[hne x (h.ne x hx).1 (fun e=>hn (List.mem_map.2 ⟨x,hx,e⟩))]; exact h.ne x hx
      · simp at hx; subst hx; simp[hr]
    · rw[List.map_append,List.mem_append]
      by_cases e:k=r
      · right; simp[e]
      · left
        refine h.all k ?_
        have:=hne ((k:Int),.any,0) (by simp) (by simp only; omega)
        simp only[Int.toNat_natCast] at this
        rw[← this]; exact hk
    · rcases List.mem_append.1 hx with hx | hx
      · exact h.new x hx id e
      · simp at hx; subst hx; exact hv' id e
  | some v =>
    obtain ⟨A1,A2,b,rfl,hn1,hput⟩:=xA hg
    rw[hg] at l1
    rw[hput] at *
    have hnd:=h.nd
    rw[List.map_append,List.map_cons,List.nodup_append] at hnd
    have hn2:(r:Int) ∉ A2.map (·.1):=(List.nodup_cons.1 hnd.2.1).1
    have hx1:∀ x∈A1,x.1≠r:=fun x hx e=>hn1 (List.mem_map.2 ⟨x,hx,e⟩)
    have hx2:∀ x∈A2,x.1≠r:=fun x hx e=>hn2 (List.mem_map.2 ⟨x,hx,e⟩)
    have hm1:∀ x∈A1,x∈A1 ++ ((r:Int),v,b) :: A2:=fun x hx=>List.mem_append_left _ hx
    have hm2:∀ x∈A2,x∈A1 ++ ((r:Int),v,b) :: A2:=fun x hx=>List.mem_append_right _ (List.mem_cons_of_mem _ hx)
    have e1:lz g (p ++ [y]) (A1 ++ ((r:Int),v',b) :: A2)=lz g p A1 ++ (v',2,aL (cJ g p (cO g r) ++ [⟨y.aF,y.dot+1⟩])) :: lz g p A2:=by
      simp only[lz,List.map_append,List.map_cons,Int.toNat_natCast,hr]
      congr 1
      · refine List.map_congr_left fun x hx=>?_
        rw[hne x (h.ne x (hm1 x hx)).1 (hx1 x hx)]
      · congr 1
        refine List.map_congr_left fun x hx=>?_
        rw[hne x (h.ne x (hm2 x hx)).1 (hx2 x hx)]
    have e0:lz g p (A1 ++ ((r:Int),v,b) :: A2)=lz g p A1 ++ (v,2,aL (cJ g p (cO g r))) :: lz g p A2:=by
      simp only[lz,List.map_append,List.map_cons,Int.toNat_natCast]
    refine ⟨⟨c',by simp[View.set]⟩,by simpa using h.nd,?_,fun x hx=>?_,fun k hk=>?_,hold2,h.q0,fun x hx id e=>?_⟩
    · rw[e1]
      have h0:=h.own
      rw[e0] at h0
      have ho:bq H1 ((v',2,aL (cJ g p (cO g r) ++ [⟨y.aF,y.dot+1⟩])) :: (lz g p A1 ++ lz g p A2)):=(h0.perm List.perm_middle).left o1 l1
      refine hset (ho.perm List.perm_middle.symm) fun x hx=>?_
      rcases List.mem_append.1 hx with hx | hx
      · obtain ⟨z,hz,rfl⟩:=List.mem_map.1 hx
        exact hmapq z (hm1 z hz)
      · rcases List.mem_cons.1 hx with rfl | hx
        · exact hq1.2
        · obtain ⟨z,hz,rfl⟩:=List.mem_map.1 hx
          exact hmapq z (hm2 z hz)
    · rcases List.mem_append.1 hx with hx | hx
      · rw[hne x (h.ne x (hm1 x hx)).1 (hx1 x hx)]; exact h.ne x (hm1 x hx)
      · rcases List.mem_cons.1 hx with rfl | hx
        · simp[hr]
        · rw[hne x (h.ne x (hm2 x hx)).1 (hx2 x hx)]; exact h.ne x (hm2 x hx)
    · by_cases e:k=r
      · subst e; simp
      · have:=hne ((k:Int),.any,0) (by simp) (by simp only; omega)
        simp only[Int.toNat_natCast] at this
        rw[this] at hk
        have:=h.all k hk
        simpa using this
    · rcases List.mem_append.1 hx with hx | hx
      · exact h.new x (hm1 x hx) id e
      · rcases List.mem_cons.1 hx with rfl | hx
        · exact hv' id e
        · exact h.new x (hm2 x hx) id e
theorem uE.fresh {g:ao} {p:List aI} {H0 H:View} {q:Nat} {A:cd Int} (h:uE g p H0 H q A) {n:Nat} (hn:H n=.dead) (o:bM):uE g p H0 (H.set n o) q A:=by
  obtain ⟨c,hq⟩:=h.mp
  have e1:q≠n:=by rintro rfl; rw[hn] at hq; simp at hq
  refine ⟨⟨c,by simp[View.set,e1,hq]⟩,h.nd,h.own.fresh hn,h.ne,h.all,fun id hid=>?_,h.q0,h.new⟩
  have e2:id≠n:=by rintro rfl; rw[h.old id hid] at hn; exact hid hn
  simp[View.set,e2,h.old id hid]
theorem bq.sub {H:View} {L M:List fa} (h:bq H L) (hs:M.Sublist L):bq H M :=
  ⟨fun x hx=>h.1 x (hs.subset hx),h.2.sublist (hs.filterMap _)⟩
def zI (g:ao) (out:List bR) (M:cd (List UInt8)):Prop:=∀ l:List aI,(∀ x∈l,cw g x)→getM M (sL l)=if findD out l < 0 then none else some (gi (findD out l))
theorem BO:∀ {a b:List bR},a.map bR.bV=b.map bR.bV→∀ k,findD a k=findD b k
  | [],[],_,_=>rfl
  | [],_ :: _,h,_=>by simp at h
  | _ :: _,[],h,_=>by simp at h
  | s :: a,t :: b,h,k=>by
    simp only[List.map_cons,List.cons.injEq] at h
    rw[findD,findD,h.1,BO h.2 k]
theorem zp:∀ (a:List bR) (s:bR) (k:List aI),findD (a ++ [s]) k=if 0≤findD a k then findD a k else if s.bV=k then (a.length:Int) else -1
  | [],s,k=>by by_cases e:s.bV=k <;> simp[findD,e]
  | t :: a,s,k=>by
    have ih:=zp a s k
    have h1:=xC a k
    rw[List.cons_append,findD,findD,ih]
    simp only[List.length_cons]
    push_cast
    by_cases e:t.bV=k <;> by_cases e2:s.bV=k <;> by_cases h0:0≤findD a k <;> simp only[e,e2,h0,if_true,if_false] <;> (repeat' split) <;> omega
theorem zI.same {g:ao} {a b:List bR} {M:cd (List UInt8)} (h:zI g a M) (e:a.map bR.bV=b.map bR.bV):zI g b M:=fun l hl=>by
  rw[h l hl,BO e]
theorem zI.put {g:ao} (hf:g.fA) {out:List bR} {M:cd (List UInt8)} (h:zI g out M) {k:List aI} (hk:∀ x∈k,cw g x) (hn:findD out k < 0) (c:Nat):zI g (out ++ [⟨k,[]⟩]) (cy (sL k) (gi out.length) c M):=fun l hl=>by
  have h1:=zp out ⟨k,[]⟩ l
  have h2:=xC out l
  rw[xh]
  by_cases e:l=k
  · subst e
    rw[if_neg (by omega),if_pos rfl] at h1
    rw[h1,beq_self_eq_true,if_pos rfl,if_neg (by omega)]
  · have e2:(sL l == sL k)=false:=beq_eq_false_iff_ne.2 fun h=>e (D1 hf hl hk h)
    rw[e2,h l hl]
    simp only[Bool.false_eq_true,if_false]
    by_cases h0:0≤findD out l
    · rw[if_pos h0] at h1
      rw[h1]
    · rw[if_neg h0,if_neg (fun h=>e h.symm)] at h1
      rw[h1,if_pos (by omega),if_pos (by omega)]
end Gv
