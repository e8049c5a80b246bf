/-
  Part 13 of the proof: what the machine does and what the functions answer.
  Conditions: those that each lemma names.
-/
import Derived.Shelf.SlSortCmp.NoneTotal
import Derived.Shelf.SlicesG.Cmp
import Derived.StillTailTactics
import Derived.Test.YtihmlbdfcmfbdaaGreatSGzA5L
set_option linter.unusedSimpArgs false
set_option linter.unusedVariables false
set_option maxRecDepth 100000
namespace Gv
open Go Go.Proofs
structure aI where
  aF:Int
  dot:Int
  deriving DecidableEq
def aQ (x:aI):List V:=[gi x.aF,gi x.dot]
def aL (l:List aI):List (List V):=l.map aQ
def bT (a b:aI):Bool:=decide (a.aF < b.aF) || (decide (a.aF=b.aF) && decide (a.dot < b.dot))
def dD:List aI→aI→List aI
  | [],x=>[x]
  | y :: l,x=>if bT y x=true then y :: dD l x else if y=x then y :: l else x :: y :: l
theorem Mn (a b:aI):∀ v∈[V.agg (aQ a),.agg (aQ b)],Tree v:=by
  intro v hv; simp at hv
  rcases hv with rfl | rfl <;> exact cg _ fun v hv=>by simp[aQ] at hv; rcases hv with rfl | rfl <;> exact .val _
def nC:SF:=⟨.seq (al [bQ 2 0,bQ 3 1,aY 4 false]) <|
  .seq (.region false [⟨none,[au 5 0 2,aw 6 5,au 7 0 3,aw 8 7,aS 9 .lss 6 8,aa 10 9]⟩,⟨(some (10,false)),[au 11 0 2,aw 12 11,au 13 0 3,aw 14 13,aS 15 .eql 12 14,aa 16 15]⟩,⟨(some (16,true)),[au 17 1 2,aw 18 17,au 19 1 3,aw 20 19,aS 21 .lss 18 20]⟩,⟨(some (10,false)),[bz 22 16 21]⟩,⟨none,[bC 23 10 22,aa 4 23]⟩]) <|
  .ret,
  [.tmp 4],24⟩
theorem rm:bf Tryz.prog 156 [2,3]=some nC:=by kernel_rfl
def lZ:SC :=
  .seq (.seq (.region false [⟨none,[aa 7 5,aa 8 0,aR 9 8,aS 10 .lss 7 9,aa 11 10]⟩,⟨(some (11,true)),[aa 12 0,aa 13 5,aZ 14 2 12 13,aK 15 2 14,aK 16 2 3,aH 17 156 [15,16]]⟩,⟨none,[bz 18 11 17]⟩]) <|
  .cond (.tmp 18) (.skip) (.exit 0)) <|
  .block 1 (al [aa 19 5,az 20 .add 19 1,aa 5 20])
def ow:SF:=⟨.seq (al [bQ 3 1,((some 4),.op (.bk (.val (.emp 1))))]) <|
  .seq (al [aJ 5 0]) <|
  .seq (.block 0 (.loop lZ)) <|
  .seq (.seq (.region false [⟨none,[aa 21 5,aa 22 0,aR 23 22,aS 24 .lss 21 23,aa 25 24]⟩,⟨(some (25,true)),[aa 26 0,aa 27 5,aZ 28 2 26 27,aK 29 2 28,aK 30 2 3,((some 31),.op (.old (.binOp .eql 33 (.tmp 29) (.tmp 30) 33) 4))]⟩,⟨none,[bz 32 25 31]⟩]) <|
  .cond (.tmp 32) (.seq (al [aa 33 0,aa 4 33]) <|
  .ret) (.skip)) <|
  .seq (al [((some 34),.op (.bk (.val (.emp 2)))),aa 35 0,aa 36 5,((some 37),.op (.slice 2 (.tmp 35) (some (.tmp 36)) none)),((some 38),.op (.app 2 16 (.tmp 34) (.tmp 37))),aa 6 38]) <|
  .seq (al [aa 39 0,aa 40 5,((some 41),.op (.slice 2 (.tmp 39) none (some (.tmp 40)))),aK 42 2 3,((some 43),.op (.bF 1 2 [(.val (.int .i64 0)),(.val (.int .i64 0))] [(0,(.tmp 42))])),((some 44),.op (.app 2 16 (.tmp 41) (.tmp 43))),aa 45 6,((some 46),.op (.app 2 16 (.tmp 44) (.tmp 45))),aa 4 46]) <|
  .ret,
  [.tmp 4],47⟩
theorem ta:bf Tryz.prog 108 [3]=some ow:=by kernel_rfl
theorem Jt (a b:aI):aE Tryz.prog 156 [.agg (aQ a),.agg (aQ b)] (gb (bT a b)):=by
  refine aE.val (Mn a b) fun H=>?_
  refine aB.of mixed rm ?_
  unfold bT
  simp (disch:=omega) only [↓wr,↓reduceIte,wq,ah,ag,aj,ab,ae,af,ai,isNil,Nat.reduceEqDiff,Nat.reduceAdd,Nat.reduceLT,Nat.reduceLeDiff,Int.reduceNeg,Int.reduceToNat,reduceCtorEq,nC,aQ]
  refine av.dec (fun h1=>?_) (fun h1=>?_)
  · simp (disch:=omega) only [↓wr,↓reduceIte,wq,ah,ag,aj,ab,ae,af,ai,isNil,Nat.reduceEqDiff,Nat.reduceAdd,Nat.reduceLT,Nat.reduceLeDiff,Int.reduceNeg,Int.reduceToNat,reduceCtorEq]
    rw[decide_eq_true h1]; rfl
  simp (disch:=omega) only [↓wr,↓reduceIte,wq,ah,ag,aj,ab,ae,af,ai,isNil,Nat.reduceEqDiff,Nat.reduceAdd,Nat.reduceLT,Nat.reduceLeDiff,Int.reduceNeg,Int.reduceToNat,reduceCtorEq,aQ]
  refine av.eq (fun h2=>?_) (fun h2=>?_)
  · simp (disch:=omega) only [↓wr,↓reduceIte,wq,ah,ag,aj,ab,ae,af,ai,isNil,Nat.reduceEqDiff,Nat.reduceAdd,Nat.reduceLT,Nat.reduceLeDiff,Int.reduceNeg,Int.reduceToNat,reduceCtorEq,aQ]
    rw[decide_eq_false h1,decide_eq_true h2]; rfl
  · simp (disch:=omega) only [↓wr,↓reduceIte,wq,ah,ag,aj,ab,ae,af,ai,isNil,Nat.reduceEqDiff,Nat.reduceAdd,Nat.reduceLT,Nat.reduceLeDiff,Int.reduceNeg,Int.reduceToNat,reduceCtorEq]
    rw[decide_eq_false h1,decide_eq_false h2]; rfl
def c9:List aI→aI→Nat
  | [],_=>0
  | y :: l,x=>if bT y x=true then c9 l x+1 else 0
theorem ye:∀ (l:List aI) (x:aI),c9 l x≤l.length
  | [],_=>Nat.le_refl _
  | y :: l,x=>by
    rw[c9]; split
    · have:=ye l x; simp; omega
    · simp
theorem y3:∀ (l:List aI) (x:aI) (i:Nat) (y:aI),l[i]?=some y→i < c9 l x→bT y x=true
  | [],_,_,_,h,_=>by simp at h
  | z :: l,x,0,y,h,hi=>by
    rw[c9] at hi; split at hi
    · simp at h; subst h; assumption
    · omega
  | z :: l,x,i+1,y,h,hi=>by
    rw[c9] at hi; split at hi
    · exact y3 l x i y (by simpa using h) (by omega)
    · omega
theorem yN:∀ (l:List aI) (x:aI) (y:aI),l[c9 l x]?=some y→bT y x=false
  | [],_,_,h=>by simp at h
  | z :: l,x,y,h=>by
    rw[c9] at h; split at h
    · exact yN l x y (by simpa using h)
    · rename_i e; simp at h; subst h; simpa using e
theorem th:∀ (l:List aI) (x:aI),dD l x=if l[c9 l x]?=some x then l else l.take (c9 l x) ++ [x] ++ l.drop (c9 l x)
  | [],x=>by simp[dD,c9]
  | y :: l,x=>by
    rw[dD,c9]
    split
    · have:=th l x
      simp only[List.getElem?_cons_succ,List.take_succ_cons,List.drop_succ_cons,List.cons_append]
      rw[this]; split <;> simp
    · simp only[List.getElem?_cons_zero,Option.some.injEq,List.take_zero,List.drop_zero,List.nil_append,List.cons_append]
theorem qz (x y:aI):fw Tryz.prog 9998 #[.int .i64 x.aF,.int .i64 x.dot] #[.int .i64 y.aF,.int .i64 y.dot]
    [{ name:= "Rule",type:=3,offset:=0,embedded:=false,tag:= "",pkgPath:= "",byteOffset:=0 },{ name:= "Dot",type:=3,offset:=1,embedded:=false,tag:= "",pkgPath:= "",byteOffset:=8 }] ((x.aF == y.aF) && ((x.dot == y.dot) && true)) :=
  .int _ _ _ .i64 _ _ (by decide) Tryz.underlying3 rfl rfl (.int _ _ _ .i64 _ _ (by decide) Tryz.underlying3 rfl rfl .nil)
theorem zb (x y:aI):((x.aF == y.aF) && ((x.dot == y.dot) && true))=decide (x=y):=by
  cases x; cases y; rw[Bool.eq_iff_iff]; simp
theorem vB {sz id off k m:Nat} (hm:m≤k):fi sz (.sl id off k sz) (some (gi m)) none=some (.sl id (off+m) (k - m) sz,.none,[]):=by
  simp[fi,bound,asNat,hm]
theorem pK {sz id off k m:Nat} (hm:m≤k):fi sz (.sl id off k sz) none (some (gi m))=some (.sl id off m sz,.none,[]):=by
  simp[fi,bound,asNat,hm]
theorem Jd (l:List aI):((aL l).all fun e=>e.length == 2 && e.all aU)=true:=by
  simp[aL,List.all_map,aQ,aU]
theorem HO {H:View} {u:V} {sz:Nat} {es:List (List V)} (h:aO H u sz es):∃ rd,bG H u=some (es,rd):=by
  rcases h with ⟨rfl,k,rfl⟩ | ⟨n,rfl,hn⟩
  · exact ⟨_,mW _ k⟩
  · cases es with
    | nil=>exact ⟨[],by simp[bG]⟩
    | cons e es =>
      exact ⟨_,by rw[show (e :: es).length=es.length+1 from rfl,lA _ n 0 es.length sz sz _ hn (by simp),List.drop_zero,List.take_of_length_le (by simp)]⟩
theorem mM {sz bytes:Nat} {u:V} {es:List (List V)} {H:View} {K:V→View→Prop} {w:cq (H,K)} (ho:aO H u sz es) (h:K u H):lB sz bytes u [] H K w:=by
  unfold lB
  rcases ho with ⟨_,k,rfl⟩ | ⟨n,rfl,_⟩ <;> simpa using h
theorem Left.behind {H H':View} {q:Nat} {o:bM} {u r:V} (hq:H q=.dead) (h:Left (H.set q o) H' u r):Left H H' u r:=fun a ha hau=>by
  have e:¬ a=q:=by rintro rfl; exact ha hq
  have:=h a (by simp[View.set,e]; exact ha) hau
  simpa [View.set,e] using this
set_option maxHeartbeats 8000000 in
theorem Dc (u:V) (l:List aI) (hl:l.length≤100000) (x:aI) (H:View) (ho:aO H u 2 (aL l)):aB Tryz.prog 108 [u,.agg (aQ x)] H fun r H'=>aO H' r 2 (aL (dD l x))∧Left H H' u r:=by
  refine aB.of mixed ta ?_
  have hlen:cF u=some l.length:=by rw[ho.len]; simp[aL]
  have hle:=ye l x
  simp (disch:=omega) only [↓wr,↓reduceIte,wq,ah,ag,aj,ab,ae,af,ai,isNil,Nat.reduceEqDiff,Nat.reduceAdd,Nat.reduceLT,Nat.reduceLeDiff,Int.reduceNeg,Int.reduceToNat,reduceCtorEq,ow,aQ]
  refine bH.up (c9 l x) (fun i T H'=>H'=H∧i≤c9 l x∧T 0=u∧T 3=.aX (aQ x) 0∧T 5=gi i) ⟨rfl,by omega,rfl,rfl,rfl⟩ ?_
  rintro i k T H' hk ⟨eH,hi,t0,t3,t5⟩
  subst eH
  simp (disch:=omega) only [↓wr,↓reduceIte,wq,ah,ag,aj,ab,ae,af,ai,isNil,Nat.reduceEqDiff,Nat.reduceAdd,Nat.reduceLT,Nat.reduceLeDiff,Int.reduceNeg,Int.reduceToNat,reduceCtorEq,lZ,t0,t3,t5,hlen]
  have stop:i=c9 l x→True:=fun _=>trivial
  refine av.dec (fun hc=>?_) (fun hc=>?_)
  · have hy:l[i]?=some (l[i]'(by omega)):=List.getElem?_eq_getElem (by omega)
    generalize l[i]'(by omega)=y at hy
    obtain ⟨id,hu,hid⟩:=ho.sl (by simp[aL]; omega)
    have hl3:(aL l).length=l.length:=by simp[aL]
    have hg:(aL l).getD i []=aQ y:=by simp[aL,List.getD_eq_getElem?_getD,hy]
    have h15:=Jt y x
    simp only[aQ] at h15 hg
    simp (disch:=omega) only [↓wr,↓reduceIte,wq,ah,ag,aj,ab,ae,af,ai,isNil,Nat.reduceEqDiff,Nat.reduceAdd,Nat.reduceLT,Nat.reduceLeDiff,Int.reduceNeg,Int.reduceToNat,reduceCtorEq,t0,t3,t5,hu,hid,hg,aQ]
    refine ⟨by simp[aL]; omega,by simp[aL]; omega,?_⟩
    refine aG.pure h15 (by kernel_rfl) ?_
    simp (disch:=omega) only [↓wr,↓reduceIte,wq,ah,ag,aj,ab,ae,af,ai,isNil,Nat.reduceEqDiff,Nat.reduceAdd,Nat.reduceLT,Nat.reduceLeDiff,Int.reduceNeg,Int.reduceToNat,reduceCtorEq,t0,t3,t5]
    refine av.split (fun e=>?_) (fun e=>?_)
    · have hlt:i < c9 l x:=by
        rcases Nat.lt_or_ge i (c9 l x) with h | h
        · exact h
        · have:=yN l x y (by rw[show c9 l x=i by omega]; exact hy)
          rw[this] at e; exact absurd e (by simp)
      simp (disch:=omega) only [↓wr,↓reduceIte,wq,ah,ag,aj,ab,ae,af,ai,isNil,Nat.reduceEqDiff,Nat.reduceAdd,Nat.reduceLT,Nat.reduceLeDiff,Int.reduceNeg,Int.reduceToNat,reduceCtorEq,t0,t3,t5]
      exact bD hk hlt ⟨rfl,hlt,t0,t3,rfl⟩
    have hia:i=c9 l x:=by
      rcases Nat.lt_or_ge i (c9 l x) with h | h
      · rw[y3 l x i y hy h] at e; exact absurd e (by simp)
      · omega
    simp (disch:=omega) only [↓wr,↓reduceIte,wq,ah,ag,aj,ab,ae,af,ai,isNil,Nat.reduceEqDiff,Nat.reduceAdd,Nat.reduceLT,Nat.reduceLeDiff,Int.reduceNeg,Int.reduceToNat,reduceCtorEq,t0,t3,t5,hlen]
    refine av.dec (fun _=>?_) (fun h=>absurd hc h)
    simp (disch:=omega) only [↓wr,↓reduceIte,wq,ah,ag,aj,ab,ae,af,ai,isNil,Nat.reduceEqDiff,Nat.reduceAdd,Nat.reduceLT,Nat.reduceLeDiff,Int.reduceNeg,Int.reduceToNat,reduceCtorEq,t0,t3,t5,hu,hid,hg,aQ]
    refine ⟨by simp[aL]; omega,by simp[aL]; omega,?_⟩
    refine jY (xs:=#[.int .i64 y.aF,.int .i64 y.dot]) (ys:=#[.int .i64 x.aF,.int .i64 x.dot]) Tryz.underlying33 (by kernel_rfl) (by kernel_rfl) ?_ ?_ (qz y x) (.inl ⟨rfl,rfl⟩) ?_
    · rfl
    · rfl
    rw[zb]
    simp (disch:=omega) only [↓wr,↓reduceIte,wq,ah,ag,aj,ab,ae,af,ai,isNil,Nat.reduceEqDiff,Nat.reduceAdd,Nat.reduceLT,Nat.reduceLeDiff,Int.reduceNeg,Int.reduceToNat,reduceCtorEq,t0,t3,t5]
    refine av.dec (fun e2=>?_) (fun e2=>?_)
    · subst e2
      simp (disch:=omega) only [↓wr,↓reduceIte,wq,ah,ag,aj,ab,ae,af,ai,isNil,Nat.reduceEqDiff,Nat.reduceAdd,Nat.reduceLT,Nat.reduceLeDiff,Int.reduceNeg,Int.reduceToNat,reduceCtorEq,t0]
      rw[th,if_pos (by rw[← hia]; exact hy)]
      exact ⟨ho,fun id hid ho=>⟨rfl,ho⟩⟩
    rw[hl3] at hu
    have hel:bG H' (.sl id i (l.length - i) 2)=some (aL (l.drop i),[id]):=by
      obtain ⟨q,hq⟩:∃ q,l.length - i=q+1:=⟨l.length - i - 1,by omega⟩
      rw[hq,lA H' id i q 2 2 (aL l) hid (by rw[hl3]; omega)]
      rw[show (aL l).drop i=aL (l.drop i) from List.map_drop.symm,List.take_of_length_le (by simp[aL]; omega)]
    simp (disch:=omega) only [↓wr,↓reduceIte,wq,ah,ag,aj,ab,ae,af,ai,isNil,Nat.reduceEqDiff,Nat.reduceAdd,Nat.reduceLT,Nat.reduceLeDiff,Int.reduceNeg,Int.reduceToNat,reduceCtorEq,t0,t3,t5,hu,vB (sz:=2) (id:=id) (off:=0) (k:=l.length) (m:=i) (by omega),hel]
    refine gm aO.nil (Jd _) (by unfold aW aL; simp; omega) (by unfold aW aL; simp; omega) ?_
    intro rest H1 hor lr
    simp (disch:=omega) only [↓wr,↓reduceIte,wq,ah,ag,aj,ab,ae,af,ai,isNil,Nat.reduceEqDiff,Nat.reduceAdd,Nat.reduceLT,Nat.reduceLeDiff,Int.reduceNeg,Int.reduceToNat,reduceCtorEq,t0,t3,t5,hu,pK (sz:=2) (id:=id) (off:=0) (k:=l.length) (m:=i) (by omega),aQ]
    intro q hq
    have hidr:owner rest≠some id:=(lr id (by rw[hid]; simp) (by simp[owner])).2
    have hid1:H1 id=.arr 2 (aL l):=by rw[(lr id (by rw[hid]; simp) (by simp[owner])).1,hid]
    have hqid:¬ id=q:=by rintro rfl; rw[hid1] at hq; simp at hq
    simp (disch:=omega) only [↓wr,↓reduceIte,wq,ah,ag,aj,ab,ae,af,ai,isNil,Nat.reduceEqDiff,Nat.reduceAdd,Nat.reduceLT,Nat.reduceLeDiff,Int.reduceNeg,Int.reduceToNat,reduceCtorEq,ed]
    rw[sH _ _ _ _ _ _ _ _ _ _ (by rfl)]
    simp (disch:=omega) only [↓wr,↓reduceIte,wq,ah,ag,aj,ab,ae,af,ai,isNil,Nat.reduceEqDiff,Nat.reduceAdd,Nat.reduceLT,Nat.reduceLeDiff,Int.reduceNeg,Int.reduceToNat,reduceCtorEq,hqid,hid1,hl3]
    refine ⟨rfl,⟨by omega,by unfold aW; omega,by unfold aW; omega⟩,fun n2 hn2=>?_⟩
    rw[List.drop_zero]
    have n2q:¬ n2=q:=by rintro rfl; simp at hn2
    rw[if_neg n2q] at hn2
    have n2id:¬ n2=id:=by rintro rfl; rw[hid1] at hn2; simp at hn2
    have hor3:=((hor.fresh (o:=.arr 2 [[gi x.aF,gi x.dot]]) hq).other (o:=.dead) hidr).fresh (m:=n2) (o:=.arr 2 (List.take i (aL l) ++ [[gi x.aF,gi x.dot]])) (by simp[View.set,n2q,n2id,hn2])
    have ho3:aO (((H1.set q (.arr 2 [[gi x.aF,gi x.dot]])).set id .dead).set n2 (.arr 2 (List.take i (aL l) ++ [[gi x.aF,gi x.dot]]))) (.sl n2 0 (i+1) 2) 2 (List.take i (aL l) ++ [[gi x.aF,gi x.dot]]):=.inr ⟨n2,by simp[hl3]; omega,by simp[View.set]⟩
    have hk3:∀ a,H' a≠.dead→a≠id→(((H1.set q (.arr 2 [[gi x.aF,gi x.dot]])).set id .dead).set n2 (.arr 2 (List.take i (aL l) ++ [[gi x.aF,gi x.dot]]))) a=H' a∧a≠n2:=fun a ha hai=>by
      have h1:=(lr a ha (by simp[owner])).1
      have aq:¬ a=q:=by rintro rfl; rw[hq] at h1; exact ha h1.symm
      have an:¬ a=n2:=by rintro rfl; rw[hn2] at h1; exact ha h1.symm
      exact ⟨by simp[View.set,aq,an,hai,h1],an⟩
    generalize ((H1.set q (.arr 2 [[gi x.aF,gi x.dot]])).set id .dead).set n2 (.arr 2 (List.take i (aL l) ++ [[gi x.aF,gi x.dot]]))=H3 at hor3 ho3 hk3 ⊢
    rw[List.nil_append] at hor3
    obtain ⟨rd,he⟩:=HO hor3
    simp (disch:=omega) only [↓wr,↓reduceIte,wq,ah,ag,aj,ab,ae,af,ai,isNil,Nat.reduceEqDiff,Nat.reduceAdd,Nat.reduceLT,Nat.reduceLeDiff,Int.reduceNeg,Int.reduceToNat,reduceCtorEq,he]
    refine gm ho3 (Jd _) (by unfold aW aL; simp; omega) (by unfold aW aL; simp; omega) ?_
    intro r H4 o4 l4
    simp (disch:=omega) only [↓wr,↓reduceIte,wq,ah,ag,aj,ab,ae,af,ai,isNil,Nat.reduceEqDiff,Nat.reduceAdd,Nat.reduceLT,Nat.reduceLeDiff,Int.reduceNeg,Int.reduceToNat,reduceCtorEq]
    refine ⟨?_,fun a ha hau=>?_⟩
    · rw[th,if_neg (by rw[← hia,hy]; simpa using e2),← hia]
      simpa [aL,aQ,List.map_take,List.map_drop] using o4
    · obtain ⟨k1,k2⟩:=hk3 a ha (by rintro rfl; exact hau (by rw[hu]; rfl))
      have:=l4 a (by rw[k1]; exact ha) (by simp[owner]; exact fun h=>k2 h.symm)
      exact ⟨by rw[this.1,k1],this.2⟩
  · simp (disch:=omega) only [↓wr,↓reduceIte,wq,ah,ag,aj,ab,ae,af,ai,isNil,Nat.reduceEqDiff,Nat.reduceAdd,Nat.reduceLT,Nat.reduceLeDiff,Int.reduceNeg,Int.reduceToNat,reduceCtorEq,t0,t3,t5,hlen]
    refine av.dec (fun h=>absurd h hc) (fun _=>?_)
    have hil:i=l.length:=by omega
    subst hil
    have hput:aL (dD l x)=aL l ++ [[gi x.aF,gi x.dot]]:=by
      rw[th,show c9 l x=l.length by omega,List.getElem?_eq_none (Nat.le_refl _),if_neg (by simp),List.take_length,List.drop_length]
      simp[aL,aQ]
    rcases ho with ⟨e,k0,hu⟩ | ⟨id,hu,hid⟩
    · have hl0:l=[]:=by simpa [aL] using e
      subst hl0
      simp (disch:=omega) only [↓wr,↓reduceIte,wq,ah,ag,aj,ab,ae,af,ai,isNil,Nat.reduceEqDiff,Nat.reduceAdd,Nat.reduceLT,Nat.reduceLeDiff,Int.reduceNeg,Int.reduceToNat,reduceCtorEq,t0,t3,t5,hu,show ∀ k,fi 2 (.emp k) (some (gi ((0:Nat):Int))) none=some (.emp k,.none,[]) from fun k=>rfl,show ∀ k,fi 2 (.emp k) none (some (gi ((0:Nat):Int)))=some (.emp k,.none,[]) from fun k=>rfl]
      refine mM aO.nil ?_
      simp (disch:=omega) only [↓wr,↓reduceIte,wq,ah,ag,aj,ab,ae,af,ai,isNil,Nat.reduceEqDiff,Nat.reduceAdd,Nat.reduceLT,Nat.reduceLeDiff,Int.reduceNeg,Int.reduceToNat,reduceCtorEq,t0,t3,t5,hu,show ∀ k,fi 2 (.emp k) none (some (gi ((0:Nat):Int)))=some (.emp k,.none,[]) from fun k=>rfl,aQ]
      intro q hq
      simp (disch:=omega) only [↓wr,↓reduceIte,wq,ah,ag,aj,ab,ae,af,ai,isNil,Nat.reduceEqDiff,Nat.reduceAdd,Nat.reduceLT,Nat.reduceLeDiff,Int.reduceNeg,Int.reduceToNat,reduceCtorEq,ed]
      refine gm (sz:=2) (u:=.emp k0) aO.nil (by simp[aU]) (by unfold aW; simp) (by unfold aW; simp) ?_
      intro r H4 o4 l4
      simp (disch:=omega) only [↓wr,↓reduceIte,wq,ah,ag,aj,ab,ae,af,ai,isNil,Nat.reduceEqDiff,Nat.reduceAdd,Nat.reduceLT,Nat.reduceLeDiff,Int.reduceNeg,Int.reduceToNat,reduceCtorEq]
      refine mM o4 ?_
      simp (disch:=omega) only [↓wr,↓reduceIte,wq,ah,ag,aj,ab,ae,af,ai,isNil,Nat.reduceEqDiff,Nat.reduceAdd,Nat.reduceLT,Nat.reduceLeDiff,Int.reduceNeg,Int.reduceToNat,reduceCtorEq]
      exact ⟨by rw[hput]; exact o4,hu ▸ Left.behind hq l4⟩
    · rw[show (aL l).length=l.length by simp[aL]] at hu
      simp (disch:=omega) only [↓wr,↓reduceIte,wq,ah,ag,aj,ab,ae,af,ai,isNil,Nat.reduceEqDiff,Nat.reduceAdd,Nat.reduceLT,Nat.reduceLeDiff,Int.reduceNeg,Int.reduceToNat,reduceCtorEq,t0,t3,t5,hu,vB (sz:=2) (id:=id) (off:=0) (k:=l.length) (m:=l.length) (by omega),pK (sz:=2) (id:=id) (off:=0) (k:=l.length) (m:=l.length) (by omega)]
      rw[Nat.sub_self,show bG H' (.sl id l.length 0 2)=some ([],[]) from rfl]
      simp (disch:=omega) only [↓wr,↓reduceIte,wq,ah,ag,aj,ab,ae,af,ai,isNil,Nat.reduceEqDiff,Nat.reduceAdd,Nat.reduceLT,Nat.reduceLeDiff,Int.reduceNeg,Int.reduceToNat,reduceCtorEq]
      refine mM aO.nil ?_
      simp (disch:=omega) only [↓wr,↓reduceIte,wq,ah,ag,aj,ab,ae,af,ai,isNil,Nat.reduceEqDiff,Nat.reduceAdd,Nat.reduceLT,Nat.reduceLeDiff,Int.reduceNeg,Int.reduceToNat,reduceCtorEq,t0,t3,t5,hu,pK (sz:=2) (id:=id) (off:=0) (k:=l.length) (m:=l.length) (by omega),aQ]
      intro q hq
      simp (disch:=omega) only [↓wr,↓reduceIte,wq,ah,ag,aj,ab,ae,af,ai,isNil,Nat.reduceEqDiff,Nat.reduceAdd,Nat.reduceLT,Nat.reduceLeDiff,Int.reduceNeg,Int.reduceToNat,reduceCtorEq,ed]
      have ho2:aO H' (.sl id 0 l.length 2) 2 (aL l):=.inr ⟨id,by simp[aL],hid⟩
      refine gm (sz:=2) (ho2.fresh hq) (by simp[aU]) (by unfold aW aL; simp; omega) (by unfold aW aL; simp; omega) ?_
      intro r H4 o4 l4
      simp (disch:=omega) only [↓wr,↓reduceIte,wq,ah,ag,aj,ab,ae,af,ai,isNil,Nat.reduceEqDiff,Nat.reduceAdd,Nat.reduceLT,Nat.reduceLeDiff,Int.reduceNeg,Int.reduceToNat,reduceCtorEq]
      refine mM o4 ?_
      simp (disch:=omega) only [↓wr,↓reduceIte,wq,ah,ag,aj,ab,ae,af,ai,isNil,Nat.reduceEqDiff,Nat.reduceAdd,Nat.reduceLT,Nat.reduceLeDiff,Int.reduceNeg,Int.reduceToNat,reduceCtorEq]
      exact ⟨by rw[hput]; exact o4,hu ▸ Left.behind hq l4⟩
def di (g:ao) (r:Int):List Int:=if r = -1 then [-1 - g.start] else (dh g r).right
def cY (g:ao) (x:aI):Int × Bool:=if x.dot=(di g x.aF).length then (0,false) else ((di g x.aF).getD x.dot.toNat 0,true)
def l6:SF:=⟨.seq (al [bQ 2 0,((some 4),.op (.bk (.val (.emp 1))))]) <|
  .seq (.seq (al [aa 5 1,az 6 .eql 5 (-1)]) <|
  .cond (.tmp 6) (.seq (al [au 7 3 2,aw 8 7,((some 9),.op (.arith .sub (.val (.val (.int .i64 (-1)))) (.tmp 8))),((some 10),.op (.bF 1 1 [(.val (.int .i64 0))] [(0,(.tmp 9))])),aa 4 10]) <|
  .ret) (.skip)) <|
  .seq (al [au 11 2 2,aw 12 11,aa 13 1,aZ 14 3 12 13,au 15 1 14,aw 16 15,aa 4 16]) <|
  .ret,
  [.tmp 4],17⟩
theorem qH:bf Tryz.prog 55 [2]=some l6:=by kernel_rfl
def m5:SF:=⟨.seq (al [bQ 2 0,bQ 3 1,aJ 4 0,aY 5 false]) <|
  .seq (al [aK 7 4 2,au 8 0 3,aw 9 8,aH 10 55 [7,9],aa 6 10]) <|
  .seq (.seq (al [au 11 1 3,aw 12 11,aa 13 6,aR 14 13,aS 15 .eql 12 14]) <|
  .cond (.tmp 15) (.seq (al [aJ 4 0,aY 5 false]) <|
  .ret) (.skip)) <|
  .seq (al [aa 16 6,au 17 1 3,aw 18 17,aZ 19 1 16 18,aw 20 19,aa 4 20,aY 5 true]) <|
  .ret,
  [.tmp 4,.tmp 5],21⟩
theorem rC:bf Tryz.prog 51 [2,3]=some m5:=by kernel_rfl
theorem y0 (g:ao) (hs : -100≤g.start∧g.start≤100) (r:Int) (hr : -1≤r∧r < (g.rules.length:Int)):aE Tryz.prog 55 [.agg (ax g),gi r] (encI (di g r)):=by
  refine aE.of (by
    intro v hv; simp at hv
    rcases hv with rfl | rfl
    · exact cg _ (c8 g)
    · exact .val _) ?_
  refine aB.of mixed qH ?_
  unfold di
  simp (disch:=omega) only [↓wr,↓reduceIte,wq,ah,ag,aj,ab,ae,af,ai,isNil,Nat.reduceEqDiff,Nat.reduceAdd,Nat.reduceLT,Nat.reduceLeDiff,Int.reduceNeg,Int.reduceToNat,reduceCtorEq,l6,ax,encS]
  refine av.eq (fun h1=>?_) (fun h1=>?_)
  · simp (disch:=omega) only [↓wr,↓reduceIte,wq,ah,ag,aj,ab,ae,af,ai,isNil,Nat.reduceEqDiff,Nat.reduceAdd,Nat.reduceLT,Nat.reduceLeDiff,Int.reduceNeg,Int.reduceToNat,reduceCtorEq,ax,encS]
    intro n
    rw[if_pos h1]
    rintro h' hv
    refine dJ.fr (mC (l:=[-1 - g.start]) (.inr ⟨n,rfl,?_⟩))
    rw[hv]; simp[View.set]
  · have hR:g.rules[r.toNat]?=some (dh g r):=by unfold dh; exact getD_some (by omega)
    rw[if_neg h1]
    generalize dh g r=R at hR
    simp (disch:=omega) only [↓wr,↓reduceIte,wq,ah,ag,aj,ab,ae,af,ai,isNil,Nat.reduceEqDiff,Nat.reduceAdd,Nat.reduceLT,Nat.reduceLeDiff,Int.reduceNeg,Int.reduceToNat,reduceCtorEq,ax,encS,List.getElem?_map,hR,Option.map_some,bo]
    intro h' _
    exact .tree _ (jc R.right)
theorem JR (g:ao) (hs : -100≤g.start∧g.start≤100) (x:aI) (hx : -1≤x.aF∧x.aF < (g.rules.length:Int)) (hd:0≤x.dot∧x.dot≤(di g x.aF).length) (hl:(di g x.aF).length≤1000) :
    aE Tryz.prog 51 [.agg (ax g),.agg (aQ x)] (.bg [gi (cY g x).1,gb (cY g x).2]):=by
  have h1:=y0 g hs x.aF hx
  refine aE.tree (by
    intro v hv; simp at hv
    rcases hv with rfl | rfl
    · exact cg _ (c8 g)
    · exact cg _ fun v hv=>by simp[aQ] at hv; rcases hv with rfl | rfl <;> exact .val _) (.bg _ fun i hi=>by
      match i,hi with
      | 0,_=>exact .val _
      | 1,_=>exact .val _) fun H=>?_
  refine aB.of mixed rC ?_
  simp only[ax,encS,encI] at h1
  unfold cY
  simp (disch:=omega) only [↓wr,↓reduceIte,wq,ah,ag,aj,ab,ae,af,ai,isNil,Nat.reduceEqDiff,Nat.reduceAdd,Nat.reduceLT,Nat.reduceLeDiff,Int.reduceNeg,Int.reduceToNat,reduceCtorEq,m5,ax,encS,aQ]
  refine aG.pure h1 (by kernel_rfl) ?_
  generalize di g x.aF=R at hd hl ⊢
  simp (disch:=omega) only [↓wr,↓reduceIte,wq,ah,ag,aj,ab,ae,af,ai,isNil,Nat.reduceEqDiff,Nat.reduceAdd,Nat.reduceLT,Nat.reduceLeDiff,Int.reduceNeg,Int.reduceToNat,reduceCtorEq,aQ]
  refine av.eq (fun h2=>?_) (fun h2=>?_)
  · simp (disch:=omega) only [↓wr,↓reduceIte,wq,ah,ag,aj,ab,ae,af,ai,isNil,Nat.reduceEqDiff,Nat.reduceAdd,Nat.reduceLT,Nat.reduceLeDiff,Int.reduceNeg,Int.reduceToNat,reduceCtorEq]
    rw[if_pos h2]
  · have hg:R[x.dot.toNat]?=some (R.getD x.dot.toNat 0):=getD_some (by omega)
    simp (disch:=omega) only [↓wr,↓reduceIte,wq,ah,ag,aj,ab,ae,af,ai,isNil,Nat.reduceEqDiff,Nat.reduceAdd,Nat.reduceLT,Nat.reduceLeDiff,Int.reduceNeg,Int.reduceToNat,reduceCtorEq,aQ,List.getElem?_map,hg,Option.map_some]
    rw[if_neg h2]
theorem eY {a b:aI} : bT a b=true↔a.aF < b.aF∨a.aF=b.aF∧a.dot < b.dot:=by
  simp[bT]
theorem k5 {a b c:aI} (h:bT a b=true) (k:bT b c=true):bT a c=true:=by
  rw[eY] at h k ⊢; omega
theorem jm {a:aI} : bT a a=false:=by
  cases h:bT a a with
  | false=>rfl
  | true=>rw[eY] at h; omega
theorem ED {a b:aI} (h:bT a b=true):bT b a=false:=by
  cases k:bT b a with
  | false=>rfl
  | true=>have:=k5 h k; rw[jm] at this; exact absurd this (by simp)
theorem sy {a b:aI} (h:bT a b=false) (hne:¬ a=b):bT b a=true:=by
  rw[eY]
  have h1:¬ bT a b=true:=by simp[h]
  rw[eY] at h1
  obtain ⟨ar,ad⟩:=a
  obtain ⟨br,bd⟩:=b
  simp only[aI.mk.injEq] at hne
  simp only at h1 ⊢
  omega
abbrev cm (l:List aI):Prop:=l.Pairwise fun a b=>bT a b=true
theorem hE:∀ {l:List aI} {x y:aI},y∈dD l x↔y=x∨y∈l
  | [],x,y=>by simp[dD]
  | z :: l,x,y=>by
    rw[dD]
    split
    · simp only[List.mem_cons,hE (l:=l)]
      constructor
      · rintro (h | h | h) <;> simp[h]
      · rintro (h | h | h) <;> simp[h]
    · split
      · rename_i h; subst h; simp
      · simp
theorem oE:∀ {l:List aI} {x:aI},cm l→cm (dD l x)
  | [],x,_=>by simp[dD,cm]
  | z :: l,x,h=>by
    rw[cm,List.pairwise_cons] at h
    rw[dD]
    split
    · rename_i hz
      rw[cm,List.pairwise_cons]
      refine ⟨fun y hy=>?_,oE h.2⟩
      rcases hE.1 hy with rfl | hy
      · exact hz
      · exact h.1 y hy
    · rename_i hz
      split
      · exact List.pairwise_cons.2 h
      · rename_i hne
        have hxz:=sy (by simpa using hz) hne
        rw[cm,List.pairwise_cons]
        refine ⟨fun y hy=>?_,List.pairwise_cons.2 h⟩
        rcases List.mem_cons.1 hy with rfl | hy
        · exact hxz
        · exact k5 hxz (h.1 y hy)
theorem Bk:∀ (l:List aI) (x:aI),(dD l x).length=l.length∨(dD l x).length=l.length+1
  | [],x=>.inr rfl
  | z :: l,x=>by
    rw[dD]
    split
    · rcases Bk l x with h | h <;> simp[h]
    · split <;> simp
theorem yz:∀ {l:List aI} {x:aI},cm l→x∈l→dD l x=l
  | [],x,_,h=>by simp at h
  | z :: l,x,hs,h=>by
    rw[cm,List.pairwise_cons] at hs
    rw[dD]
    rcases List.mem_cons.1 h with rfl | h
    · rw[if_neg (by simp[jm]),if_pos rfl]
    · rw[if_pos (hs.1 x h),yz hs.2 h]
theorem x8:∀ {l:List aI} {x:aI},x ∉ l→(dD l x).length=l.length+1
  | [],x,_=>rfl
  | z :: l,x,h=>by
    simp only[List.mem_cons,not_or] at h
    rw[dD]
    split
    · simp[x8 h.2]
    · rw[if_neg (fun e=>h.1 e.symm)]; rfl
theorem Bu:∀ {a b:List aI},cm a→cm b→(∀ x,x∈a↔x∈b)→a=b
  | [],[],_,_,_=>rfl
  | [],y :: b,_,_,h=>by have:=(h y).2 (by simp); simp at this
  | x :: a,[],_,_,h=>by have:=(h x).1 (by simp); simp at this
  | x :: a,y :: b,ha,hb,h=>by
    rw[cm,List.pairwise_cons] at ha hb
    have hxy:x=y:=by
      have h1:=(h x).1 (by simp)
      have h2:=(h y).2 (by simp)
      rcases List.mem_cons.1 h1 with h1 | h1
      · exact h1
      · rcases List.mem_cons.1 h2 with h2 | h2
        · exact h2.symm
        · have:=k5 (ha.1 y h2) (hb.1 x h1)
          rw[jm] at this; exact absurd this (by simp)
    subst hxy
    congr 1
    refine Bu ha.2 hb.2 fun z=>?_
    have hz:=h z
    simp only[List.mem_cons] at hz
    constructor
    · intro hm
      rcases hz.1 (.inr hm) with rfl | h
      · have:=ha.1 z hm; rw[jm] at this; exact absurd this (by simp)
      · exact h
    · intro hm
      rcases hz.2 (.inr hm) with rfl | h
      · have:=hb.1 z hm; rw[jm] at this; exact absurd this (by simp)
      · exact h
theorem DB:∀ (l:List Int) (a n:Int),l.Pairwise (· < ·)→(∀ x∈l,a≤x∧x < a+n)→0≤n→(l.length:Int)≤n
  | [],a,n,_,_,hn=>by simpa using hn
  | x :: l,a,n,hp,hm,hn=>by
    rw[List.pairwise_cons] at hp
    have h1:=hm x (by simp)
    have:=DB l (x+1) (a+n - (x+1)) hp.2 (fun y hy=>by have:=hp.1 y hy; have:=hm y (by simp[hy]); omega) (by omega)
    simp only[List.length_cons]; omega
def cw (g:ao) (x:aI):Prop:=(-1≤x.aF∧x.aF < (g.rules.length:Int))∧0≤x.dot∧x.dot≤(di g x.aF).length
theorem fK {g:ao} (hf:g.fA) {r:Int} (h : -1≤r∧r < (g.rules.length:Int)):(di g r).length≤6:=by
  unfold di
  split
  · simp
  · have hR:g.rules[r.toNat]?=some (dh g r):=by unfold dh; exact getD_some (by omega)
    exact hf.right _ (List.mem_of_getElem? hR)
theorem tb {g:ao} (hf:g.fA) {l:List aI} (hs:cm l) (hl:∀ x∈l,cw g x):l.length≤287:=by
  have hd:∀ x∈l,0≤x.dot∧x.dot≤6:=fun x hx=>by
    have h1:=hl x hx
    have:=fK hf h1.1
    exact ⟨h1.2.1,by have:=h1.2.2; omega⟩
  have h1:(l.map fun x=>(x.aF+1) * 7+x.dot).Pairwise (· < ·):=by
    rw[List.pairwise_map]
    refine List.Pairwise.imp_of_mem ?_ hs
    intro a b ha hb hab
    rw[eY] at hab
    have:=hd a ha; have:=hd b hb
    omega
  have:=DB _ 0 287 h1 (fun y hy=>by
    obtain ⟨x,hx,rfl⟩:=List.mem_map.1 hy
    have h2:=(hl x hx).1
    have:=hd x hx; have:=hf.rules
    omega) (by omega)
  simp at this
  omega
inductive ke (g:ao) (l:List aI):aI→Prop
  | base {x:aI} : x∈l→ke g l x
  | step {x:aI} {s:Int} {k:Nat} {R:aN} : ke g l x→cY g x=(s,true)→s < 0→g.rules[k]?=some R→R.left = -1 - s→ke g l ⟨k,0⟩
theorem ke.has {g:ao} {l:List aI} (hl:∀ x∈l,cw g x) {x:aI} (h:ke g l x):cw g x:=by
  induction h with
  | base h=>exact hl _ h
  | step _ _ _ hk _ _ =>
    have:=(List.getElem?_eq_some_iff.1 hk).1
    exact ⟨⟨by simp only; omega,by simp only; omega⟩,by simp only; omega,by simp only; omega⟩
def DD (g:ao):List aI:=(List.range (g.rules.length+1)).flatMap fun (r:Nat)=>(List.range 7).map fun (d:Nat)=>(⟨(r:Int) - 1,(d:Int)⟩:aI)
theorem GF {g:ao} (hf:g.fA) {x:aI} (h:cw g x):x∈DD g:=by
  have:=fK hf h.1
  obtain ⟨⟨h1,h2⟩,h3,h4⟩:=h
  simp only[DD,List.mem_flatMap,List.mem_map,List.mem_range]
  refine ⟨(x.aF+1).toNat,by omega,x.dot.toNat,by omega,?_⟩
  obtain ⟨r,d⟩:=x
  simp only at h1 h2 h3 h4 this
  simp only[aI.mk.injEq]; omega
theorem oX:∀ (l a:List aI),cm a→cm (l.foldl dD a)∧∀ x,x∈l.foldl dD a↔x∈a∨x∈l
  | [],a,h=>⟨h,fun x=>by simp⟩
  | y :: l,a,h=>by
    obtain ⟨h1,h2⟩:=oX l (dD a y) (oE h)
    refine ⟨h1,fun x=>?_⟩
    rw[List.foldl_cons,h2,hE,List.mem_cons]
    constructor
    · rintro ((h | h) | h) <;> simp[h]
    · rintro (h | h | h) <;> simp[h]
open Classical in
noncomputable def dq (g:ao) (l:List aI):List aI:=((DD g).filter fun x=>decide (ke g l x)).foldl dD []
theorem sZ (g:ao) (l:List aI):cm (dq g l):=(oX _ [] .nil).1
theorem vE {g:ao} (hf:g.fA) {l:List aI} (hl:∀ x∈l,cw g x) {x:aI} : x∈dq g l↔ke g l x:=by
  classical
  rw[dq,(oX _ [] .nil).2]
  simp only[List.not_mem_nil,false_or,List.mem_filter,decide_eq_true_eq]
  exact ⟨fun h=>h.2,fun h=>⟨GF hf (h.has hl),h⟩⟩
theorem Du {g:ao} (hf:g.fA) {l o:List aI} (hl:∀ x∈l,cw g x) (hs:cm o) (h1:∀ x∈o,ke g l x) (h2:∀ x∈l,x∈o)
    (h3:∀ x∈o,∀ (s:Int) (k:Nat) (R:aN),cY g x=(s,true)→s < 0→g.rules[k]?=some R→R.left = -1 - s→(⟨k,0⟩:aI)∈o):dq g l=o:=by
  refine Bu (sZ g l) hs fun x=>?_
  rw[vE hf hl]
  refine ⟨fun h=>?_,h1 x⟩
  induction h with
  | base h=>exact h2 _ h
  | step _ hn hs hk hL ih=>exact h3 _ ih _ _ _ hn hs hk hL
def cJ (g:ao) (l:List aI) (s:Int):List aI:=(l.filter fun x=>decide (cY g x=(s,true))).map fun x=>⟨x.aF,x.dot+1⟩
theorem Le {g:ao} {l:List aI} {s:Int} {y:aI} : y∈cJ g l s↔∃ x∈l,cY g x=(s,true)∧y=⟨x.aF,x.dot+1⟩:=by
  simp only[cJ,List.mem_map,List.mem_filter,decide_eq_true_eq]
  constructor
  · rintro ⟨x,⟨h1,h2⟩,rfl⟩; exact ⟨x,h1,h2,rfl⟩
  · rintro ⟨x,h1,h2,rfl⟩; exact ⟨x,⟨h1,h2⟩,rfl⟩
theorem Iy {g:ao} {l:List aI} (s:Int) (h:cm l):cm (cJ g l s):=by
  rw[cm,cJ,List.pairwise_map]
  refine (h.filter _).imp ?_
  intro a b hab
  rw[eY] at hab ⊢
  simp only; omega
theorem wN {g:ao} {x:aI} {s:Int} (h:cY g x=(s,true)):x.dot≠(di g x.aF).length∧(di g x.aF).getD x.dot.toNat 0=s:=by
  unfold cY at h
  split at h
  · simp at h
  · rename_i hd; exact ⟨hd,by simpa using h⟩
theorem Ld {g:ao} {l:List aI} {s:Int} (hl:∀ x∈l,cw g x):∀ y∈cJ g l s,cw g y:=by
  intro y hy
  obtain ⟨x,hx,hn,rfl⟩:=Le.1 hy
  have h1:=hl x hx
  have h2:=(wN hn).1
  exact ⟨h1.1,by simp only; have:=h1.2; omega,by simp only; have:=h1.2; omega⟩
structure bR where
  bV:List aI
  dH:List jJ
  deriving DecidableEq
abbrev cn:bR:=⟨[],[]⟩
def cO (g:ao) (i:Nat):Int:=if i < g.aA.length then i else -1 - ((i:Int) - g.aA.length)
def findD:List bR→List aI→Int
  | [],_=>-1
  | s :: l,k=>if s.bV=k then 0 else if findD l k < 0 then -1 else findD l k+1
theorem xC:∀ (l:List bR) (k:List aI),-1≤findD l k
  | [],_=>by simp[findD]
  | s :: l,k=>by
    have:=xC l k
    rw[findD]; split
    · omega
    · split <;> omega
theorem CJ:∀ (l:List bR) (k:List aI),findD l k < l.length
  | [],_=>by simp[findD]
  | s :: l,k=>by
    have:=CJ l k
    rw[findD]; simp only[List.length_cons]; split
    · omega
    · split <;> omega
theorem Cs:∀ (l:List bR) (k:List aI) (i:Nat),findD l k=i→∃ s,l[i]?=some s∧s.bV=k
  | [],_,i,h=>by simp[findD] at h
  | s :: l,k,i,h=>by
    rw[findD] at h
    split at h
    · rename_i e
      have:i=0:=by omega
      subst this
      exact ⟨s,rfl,e⟩
    · split at h
      · omega
      · obtain ⟨j,rfl⟩:∃ j,i=j+1:=⟨i - 1,by omega⟩
        obtain ⟨t,h1,h2⟩:=Cs l k j (by omega)
        exact ⟨t,by simpa using h1,h2⟩
theorem CX:∀ (l:List bR) (k:List aI),findD l k < 0→∀ s∈l,s.bV≠k
  | [],_,_,s,hs=>by simp at hs
  | t :: l,k,h,s,hs=>by
    rw[findD] at h
    split at h
    · omega
    · rename_i hne
      have hl:findD l k < 0:=by
        split at h
        · assumption
        · omega
      rcases List.mem_cons.1 hs with rfl | hs
      · exact hne
      · exact CX l k hl s hs
def fW (g:ao) (l:List aI) (at_:Nat) (out:List bR) (i:Nat):List bR :=
  if cJ g l (cO g i)=[] then out else
  if findD out (cJ g l (cO g i)) < 0 then (out ++ [(⟨cJ g l (cO g i),[]⟩:bR)]).modify at_ fun s=>(⟨s.bV,s.dH ++ [⟨cO g i,out.length⟩]⟩:bR)
  else out.modify at_ fun s=>(⟨s.bV,s.dH ++ [⟨cO g i,findD out (cJ g l (cO g i))⟩]⟩:bR)
abbrev BV:=BitVec 32
def Oc (n:Int):BV:=if 0≤n∧n≤31 then BitVec.twoPow 32 n.toNat else 0
theorem MR {a b:BV} (h:∀ i,i < 32→a.getLsbD i=b.getLsbD i):a=b:=BitVec.eq_of_getLsbD_eq fun i hi=>h i hi
def Ol (a b:BV):Prop:=∀ i,a.getLsbD i=true→b.getLsbD i=true
def MM (null:List Bool) (first:List BV) (rest:BV):List Int→BV
  | []=>rest
  | s :: l=>if 0≤s then Oc s else if null.getD (-1 - s).toNat false=true then first.getD (-1 - s).toNat 0 ||| MM null first rest l else first.getD (-1 - s).toNat 0
def NM (null:List Bool) (fs:List BV) (r:aN):List BV:=fs.set r.left.toNat (fs.getD r.left.toNat 0 ||| MM null fs 0 r.right)
def Nb (g:ao) (null:List Bool) (fs:List BV):List BV:=g.rules.foldl (NM null) fs
def MV (g:ao) (null:List Bool):List BV:=iter (Nb g null) g.aC.length (List.replicate g.aC.length 0)
def Cf:List jJ→Int→Int
  | [],_=>-1
  | e :: l,s=>if e.sym=s then e.to else Cf l s
def I4 (a:List bR):Int→List Int→Int × Bool
  | at_,[]=>(at_,true)
  | at_,s :: l=>if 0≤Cf (a.getD at_.toNat cn).dH s∧Cf (a.getD at_.toNat cn).dH s < a.length then I4 a (Cf (a.getD at_.toNat cn).dH s) l else (0,false)
def Lw (a:List bR) (at_:Int) (l:List Int):Int × Bool:=if at_ < 0∨(a.length:Int)≤at_ then (0,false) else I4 a at_ l
abbrev Sets:=List (List BV)
def uX (ss:Sets) (i k:Nat):BV:=(ss.getD i []).getD k 0
def Fi (ls:List (List aI)) (ss:Sets):Prop:=ss.length=ls.length∧∀ i:Nat,(ss.getD i []).length=(ls.getD i []).length
def wM (a b:Sets):Prop:=a.length=b.length∧(∀ i:Nat,(a.getD i []).length=(b.getD i []).length)∧∀ i k,Ol (uX a i k) (uX b i k)
theorem wM.refl {a:Sets} : wM a a:=⟨rfl,fun _=>rfl,fun _ _ _ h=>h⟩
theorem wM.trans {a b c:Sets} (h:wM a b) (k:wM b c):wM a c:=⟨h.1.trans k.1,fun i=>(h.2.1 i).trans (k.2.1 i),fun i j t ht=>k.2.2 i j t (h.2.2 i j t ht)⟩
theorem wM.GC {a b:Sets} (h:wM a b) (k:wM b a):a=b:=by
  refine List.ext_getElem h.1 fun i h1 h2=>?_
  have e1:a.getD i []=a[i]:=by simp[List.getD_eq_getElem?_getD,h1]
  have e2:b.getD i []=b[i]:=by simp[List.getD_eq_getElem?_getD,h2]
  refine List.ext_getElem (by rw[← e1,← e2]; exact h.2.1 i) fun j h3 h4=>?_
  have g1:uX a i j=a[i][j]:=by rw[uX,e1]; simp[List.getD_eq_getElem?_getD,h3]
  have g2:uX b i j=b[i][j]:=by rw[uX,e2]; simp[List.getD_eq_getElem?_getD,h4]
  rw[← g1,← g2]
  refine MR fun t _=>?_
  have p:=h.2.2 i j t
  have q:=k.2.2 i j t
  cases hx:(uX a i j).getLsbD t with
  | true=>rw[p hx]
  | false =>
    cases hy:(uX b i j).getLsbD t with
    | false=>rfl
    | true=>rw[q hy] at hx; exact absurd hx (by simp)
theorem Fi.le {ls:List (List aI)} {a b:Sets} (h:Fi ls a) (k:wM a b):Fi ls b:=⟨k.1.symm.trans h.1,fun i=>(k.2.1 i).symm.trans (h.2 i)⟩
theorem BN {α:Type} (l:List α) (i j:Nat) (x d:α):(l.set i x).getD j d=if i=j∧i < l.length then x else l.getD j d:=by
  simp only[List.getD_eq_getElem?_getD,List.getElem?_set]
  by_cases e:i=j
  · subst e
    by_cases h:i < l.length
    · simp[h]
    · simp[h]
  · simp[e]
theorem Fi.eq {ls:List (List aI)} {a b:Sets} (h:Fi ls a) (k:Fi ls b):a.length=b.length∧∀ i:Nat,(a.getD i []).length=(b.getD i []).length:=⟨h.1.trans k.1.symm,fun i=>(h.2 i).trans (k.2 i).symm⟩
def M4 (g:ao) (x:aI):List Int:=if 0≤x.aF then (dh g x.aF).right.drop (x.dot+1).toNat else []
inductive Es (g:ao) (null:List Bool) (a:List bR) (ls:List (List aI)):Nat→aI→Nat→Prop
  | start:(⟨-1,0⟩:aI)∈ls.getD 0 []→Es g null a ls 0 ⟨-1,0⟩ g.aA.length
  | move {i:Nat} {x:aI} {t:Nat} {s:Int} : Es g null a ls i x t→cY g x=(s,true)→(⟨x.aF,x.dot+1⟩:aI)∈ls.getD (Lw a i [s]).1.toNat []→Es g null a ls (Lw a i [s]).1.toNat ⟨x.aF,x.dot+1⟩ t
  | begin {i:Nat} {x:aI} {t u:Nat} {s:Int} {k:Nat} : Es g null a ls i x t→cY g x=(s,true)→s < 0→k < g.rules.length→(dh g k).left = -1 - s→(⟨k,0⟩:aI)∈ls.getD i [] →
      (MM null (MV g null) (BitVec.twoPow 32 t) (M4 g x)).getLsbD u=true→Es g null a ls i ⟨k,0⟩ u
theorem Es.mem {g:ao} {null:List Bool} {a:List bR} {ls:List (List aI)} {i:Nat} {x:aI} {t:Nat} (h:Es g null a ls i x t):x∈ls.getD i []:=by
  cases h <;> assumption
section
variable {g:ao} {null:List Bool} {a:List bR} {ls:List (List aI)}
end
theorem ln {g:ao} (hf:g.fA) : -100≤g.start∧g.start≤100:=by
  have:=hf.lF; have:=hf.start; have:=hf.aC; omega
theorem CZ (g:ao) (hf:g.fA) (x:aI) (hx:cw g x):aE Tryz.prog 51 [.agg (ax g),.agg (aQ x)] (.bg [gi (cY g x).1,gb (cY g x).2]) :=
  JR g (ln hf) x hx.1 hx.2 (by have:=fK hf hx.1; omega)
theorem uT {l:List aI} {i:Nat} {y:aI} (h:l[i]?=some y):(aL l).getD i []=[gi y.aF,gi y.dot]:=by simp[aL,List.getD_eq_getElem?_getD,h,aQ]
theorem bj (l:List aI):(aL l).length=l.length:=by simp[aL]
theorem zo {g:ao} {x:aI} {s:Int} {b:Bool} (hf:g.fA) (hx:cw g x) (h:cY g x=(s,b)) : -1000≤s∧s≤1000:=by
  have hsym:∀ s∈di g x.aF,-1000≤s∧s≤1000:=by
    intro s hs
    unfold di at hs
    split at hs
    · simp at hs; subst hs; have:=ln hf; omega
    · have hR:g.rules[x.aF.toNat]?=some (dh g x.aF):=by unfold dh; exact getD_some (by have:=hx.1; omega)
      have h1:=hf.sym _ (List.mem_of_getElem? hR) s hs
      have:=hf.aA; have:=hf.aC
      unfold iB at h1
      split at h1 <;> simp at h1 <;> omega
  unfold cY at h
  split at h
  · simp at h; omega
  · rename_i hd
    simp only[Prod.mk.injEq] at h
    have hlt:x.dot.toNat < (di g x.aF).length:=by have:=hx.2; omega
    rw[← h.1]
    exact hsym _ (List.mem_of_getElem? (getD_some hlt))
def jE:SC :=
  .seq (.seq (al [aa 12 6,aa 13 1,aR 14 13,aS 15 .lss 12 14]) <|
  .cond (.tmp 15) (.skip) (.exit 0)) <|
  .seq (.block 1 (al [aa 18 5,aa 19 1,aa 20 6,aZ 21 2 19 20,aK 22 2 21,aH 23 108 [18,22],aa 5 23])) <|
  al [aa 16 6,az 17 .add 16 1,aa 6 17]
def ga:SC :=
  .seq (.seq (.region false [⟨none,[aa 41 9,aa 42 41]⟩,⟨(some (42,true)),[aa 43 8,az 44 .lss 43 0]⟩,⟨none,[bz 45 42 44,aa 46 45]⟩,⟨(some (46,true)),[aa 47 11,au 48 2 2,aw 49 48,aR 50 49,aS 51 .lss 47 50]⟩,⟨none,[bz 52 46 51]⟩]) <|
  .cond (.tmp 52) (.skip) (.exit 4)) <|
  .seq (.block 5 (.seq (al [au 55 2 2,aw 56 55,aa 57 11,aZ 58 3 56 57,au 59 0 58,aw 60 59,aa 61 8,((some 62),.op (.arith .sub (.val (.val (.int .i64 (-1)))) (.tmp 61))),aS 63 .eql 60 62]) <|
  .cond (.tmp 63) (al [aa 64 5,aa 65 11,((some 66),.op (.build [(.val (.int .i64 0)),(.val (.int .i64 0))] [(0,1,(.tmp 65))])),aH 67 108 [64,66],aa 5 67]) (.skip))) <|
  al [aa 53 11,az 54 .add 53 1,aa 11 54]
def jH:SC :=
  .seq (.seq (al [aa 24 7,aa 25 5,aR 26 25,aS 27 .lss 24 26]) <|
  .cond (.tmp 27) (.skip) (.exit 2)) <|
  .seq (.block 3 (.seq (al [aK 31 4 2,aa 32 5,aa 33 7,aZ 34 2 32 33,aK 35 2 34,aH 36 51 [31,35],aa 30 36,cB 37 0 30,cB 38 1 30,aa 8 37,aa 9 38]) <|
  .seq (al [aa 39 5,aR 40 39,aa 10 40]) <|
  .seq (.seq (al [aJ 11 0]) <|
  .block 4 (.loop ga)) <|
  .seq (al [aa 68 5,aR 69 68,aa 70 10,aS 71 .gtr 69 70]) <|
  .cond (.tmp 71) (al [aJ 7 (-1)]) (.skip))) <|
  al [aa 28 7,az 29 .add 28 1,aa 7 29]
def kj:SF:=⟨.seq (al [bQ 2 0,((some 4),.op (.bk (.val (.emp 1))))]) <|
  .seq (al [((some 5),.op (.bk (.val (.emp 1))))]) <|
  .seq (.seq (al [aJ 6 0]) <|
  .block 0 (.loop jE)) <|
  .seq (.seq (al [aJ 7 0]) <|
  .block 2 (.loop jH)) <|
  .seq (al [aa 72 5,aa 4 72]) <|
  .ret,
  [.tmp 4],73⟩
theorem pB:bf Tryz.prog 60 [2]=some kj:=by kernel_rfl
def kE:SC :=
  .seq (.seq (al [aa 11 5,aa 12 0,aR 13 12,aS 14 .lss 11 13]) <|
  .cond (.tmp 14) (.skip) (.exit 0)) <|
  .seq (.block 1 (.seq (al [aa 17 0,aa 18 5,aZ 19 2 17 18,aK 20 2 19,aa 21 1,aa 22 5,aZ 23 2 21 22,aK 24 2 23,((some 25),.op (.old (.binOp .neq 33 (.tmp 20) (.tmp 24) 33) 4))]) <|
  .cond (.tmp 25) (.seq (al [aY 4 false]) <|
  .ret) (.skip))) <|
  al [aa 15 5,az 16 .add 15 1,aa 5 16]
def mb:SF:=⟨.seq (al [aY 4 false]) <|
  .seq (.seq (al [aa 6 0,aR 7 6,aa 8 1,aR 9 8,aS 10 .neq 7 9]) <|
  .cond (.tmp 10) (.seq (al [aY 4 false]) <|
  .ret) (.skip)) <|
  .seq (.seq (al [aJ 5 0]) <|
  .block 0 (.loop kE)) <|
  .seq (al [aY 4 true]) <|
  .ret,
  [.tmp 4],26⟩
theorem qE:bf Tryz.prog 21 []=some mb:=by kernel_rfl
def NI (g:ao) (out:List aI) (x:aI):Prop:=∀ (s:Int) (k:Nat) (R:aN),cY g x=(s,true)→s < 0→g.rules[k]?=some R→R.left = -1 - s→(⟨k,0⟩:aI)∈out
def Ks (g:ao) (l:List aI) (H:View) (m:Nat) (T:Env) (H':View):Prop:=∃ (i:Nat) (r:V) (out:List aI),m=(300 - out.length) * 1000+(300 - i)∧i≤out.length∧aO H' r 2 (aL out)∧b6 H H' r∧cm out∧(∀ x∈out,ke g l x)∧(∀ x∈l,x∈out)∧(∀ j x,j < i→out[j]?=some x→NI g out x) ∧
  T 2=.aX (ax g) 0∧T 5=r∧T 7=gi i
set_option maxHeartbeats 8000000 in
theorem C4 (g:ao) (hf:g.fA) (l:List aI) (hl:∀ x∈l,cw g x) (hn:l.length≤10000) (u:V) (H:View) (ho:aO H u 2 (aL l)):aB Tryz.prog 60 [.agg (ax g),u] H fun r H'=>aO H' r 2 (aL (dq g l))∧b6 H H' r:=by
  refine aB.of mixed pB ?_
  have hlen:cF u=some l.length:=by rw[ho.len]; simp[aL]
  have hru:=hf.rules
  simp (disch:=omega) only [↓wr,↓reduceIte,wq,ah,ag,aj,ab,ae,af,ai,isNil,Nat.reduceEqDiff,Nat.reduceAdd,Nat.reduceLT,Nat.reduceLeDiff,Int.reduceNeg,Int.reduceToNat,reduceCtorEq,kj,ax,encS]
  refine bH.up l.length (fun i T H'=>∃ (r:V) (out:List aI),aO H' r 2 (aL out)∧b6 H H' r∧cm out∧(∀ x,x∈out↔x∈l.take i)∧out.length≤287∧T 1=u∧T 2=.aX (ax g) 0∧T 5=r∧T 6=gi i)
    ⟨.emp 1,[],.nil,.emp,.nil,by simp,by simp,rfl,rfl,rfl,rfl⟩ ?_
  rintro i k T H' hk ⟨r,out,o1,fr,hso,hm,hle,t1,t2,t5,t6⟩
  simp (disch:=omega) only [↓wr,↓reduceIte,wq,ah,ag,aj,ab,ae,af,ai,isNil,Nat.reduceEqDiff,Nat.reduceAdd,Nat.reduceLT,Nat.reduceLeDiff,Int.reduceNeg,Int.reduceToNat,reduceCtorEq,jE,t1,t2,t5,t6,hlen]
  refine av.dec (fun hc=>?_) (fun hc=>?_)
  · have hy:l[i]?=some (l[i]'(by omega)):=List.getElem?_eq_getElem (by omega)
    have htk:l.take (i+1)=l.take i ++ [l[i]'(by omega)]:=by rw[List.take_add_one,hy]; rfl
    generalize l[i]'(by omega)=y at hy htk
    obtain ⟨id,hu,hid⟩:=ho.sl (by simp[aL]; omega)
    have hid':H' id=.arr 2 (aL l):=by rw[(fr id (by rw[hid]; simp)).1,hid]
    simp (disch:=omega) only [↓wr,↓reduceIte,wq,ah,ag,aj,ab,ae,af,ai,isNil,Nat.reduceEqDiff,Nat.reduceAdd,Nat.reduceLT,Nat.reduceLeDiff,Int.reduceNeg,Int.reduceToNat,reduceCtorEq,t1,t2,t5,t6,hu,hid',uT hy]
    refine ⟨by first | omega | (simp[aL]; omega),by first | omega | (simp[aL]; omega),?_⟩
    refine aG.gT ((Dc r out (by omega) y H' o1).mono ?_)
    rintro r2 H2 ⟨o2,l2⟩
    simp (disch:=omega) only [↓wr,↓reduceIte,wq,ah,ag,aj,ab,ae,af,ai,isNil,Nat.reduceEqDiff,Nat.reduceAdd,Nat.reduceLT,Nat.reduceLeDiff,Int.reduceNeg,Int.reduceToNat,reduceCtorEq,t1,t2,t5,t6]
    have hmm:∀ x,x∈dD out y↔x∈l.take (i+1):=fun x=>by
      rw[hE,htk,List.mem_append,hm,List.mem_singleton,or_comm]
    have hs2:=oE (x:=y) hso
    exact bD hk (by omega) ⟨r2,dD out y,o2,fr.step l2,hs2,hmm,tb hf hs2 (fun x hx=>hl x (List.mem_of_mem_take ((hmm x).1 hx))),t1,t2,rfl,rfl⟩
  rw[List.take_of_length_le (by omega)] at hm
  simp (disch:=omega) only [↓wr,↓reduceIte,wq,ah,ag,aj,ab,ae,af,ai,isNil,Nat.reduceEqDiff,Nat.reduceAdd,Nat.reduceLT,Nat.reduceLeDiff,Int.reduceNeg,Int.reduceToNat,reduceCtorEq,t1,t2,t5,t6]
  refine bH.intro (Ks g l H) ((300 - out.length) * 1000+300)
    ⟨0,r,out,by omega,Nat.zero_le _,o1,fr,hso,fun x hx=>.base ((hm x).1 hx),fun x hx=>(hm x).2 hx,fun j x hj=>by omega,t2,t5,rfl⟩ ?_
  clear o1 fr hso hm hle t1 t2 t5 t6 hc hk
  rintro m T1 H1 ⟨i,r,out,rfl,hi,o1,fr,hso,hcl,hba,hdn,t2,t5,t7⟩
  have hhas:∀ x∈out,cw g x:=fun x hx=>(hcl x hx).has hl
  have hle:=tb hf hso hhas
  have hlr:cF r=some out.length:=by rw[o1.len,bj]
  simp (disch:=omega) only [↓wr,↓reduceIte,wq,ah,ag,aj,ab,ae,af,ai,isNil,Nat.reduceEqDiff,Nat.reduceAdd,Nat.reduceLT,Nat.reduceLeDiff,Int.reduceNeg,Int.reduceToNat,reduceCtorEq,jH,t2,t5,t7,hlr]
  refine av.dec (fun hc=>?_) (fun hc=>?_)
  · have hy:out[i]?=some (out[i]'(by omega)):=List.getElem?_eq_getElem (by omega)
    have hyH:=hhas _ (List.getElem_mem (show i < out.length by omega))
    have hyC:=hcl _ (List.getElem_mem (show i < out.length by omega))
    generalize out[i]'(by omega)=y at hy hyH hyC
    have h1:=CZ g hf y hyH
    cases hny:cY g y with
    | mk s okb =>
    have hsb:=zo hf hyH hny
    rw[hny] at h1
    obtain ⟨id,hu,hid⟩:=o1.sl (by simp[aL]; omega)
    rw[bj] at hu
    simp only[ax,encS,aQ] at h1
    simp (disch:=omega) only [↓wr,↓reduceIte,wq,ah,ag,aj,ab,ae,af,ai,isNil,Nat.reduceEqDiff,Nat.reduceAdd,Nat.reduceLT,Nat.reduceLeDiff,Int.reduceNeg,Int.reduceToNat,reduceCtorEq,t2,t5,t7,hu,hid,uT hy,ax,encS]
    refine ⟨by first | omega | (simp[aL]; omega),by first | omega | (simp[aL]; omega),?_⟩
    refine aG.pure h1 (by kernel_rfl) ?_
    simp (disch:=omega) only [↓wr,↓reduceIte,wq,ah,ag,aj,ab,ae,af,ai,isNil,Nat.reduceEqDiff,Nat.reduceAdd,Nat.reduceLT,Nat.reduceLeDiff,Int.reduceNeg,Int.reduceToNat,reduceCtorEq,t2,t5,t7,hu]
    refine bH.up g.rules.length (fun k T H'=>∃ (r2:V) (out2:List aI),aO H' r2 2 (aL out2)∧b6 H H' r2∧cm out2∧(∀ x∈out2,ke g l x)∧(∀ x∈out,x∈out2)∧out.length≤out2.length∧(out2.length=out.length→out2=out) ∧
      (∀ (q:Nat) (R:aN),q < k→okb=true→s < 0→g.rules[q]?=some R→R.left = -1 - s→(⟨q,0⟩:aI)∈out2)∧T 2=.aX (ax g) 0∧T 5=r2∧T 7=gi i∧T 8=gi s∧T 9=gb okb∧T 10=gi out.length∧T 11=gi k)
      ⟨r,out,o1,fr,hso,hcl,fun x hx=>hx,Nat.le_refl _,fun _=>rfl,fun q R hq=>by omega,t2,by rw[← hu]; exact t5,t7,rfl,rfl,rfl,rfl⟩ ?_
    clear o1 fr t2 t5 t7 hid hu
    rintro k j T2 H2 hk ⟨r2,out2,o2,fr2,hso2,hcl2,hsub,hlen2,hsame,hall,t2,t5,t7,t8,t9,t10,t11⟩
    have hhas2:∀ x∈out2,cw g x:=fun x hx=>(hcl2 x hx).has hl
    have hle2:=tb hf hso2 hhas2
    have hlr2:cF r2=some out2.length:=by rw[o2.len,bj]
    have more:out.length < out2.length→∀ T':Env,T' 2=.aX (ax g) 0→T' 5=r2→T' 7=gi 0→∃ k',k' < (300 - out.length) * 1000+(300 - i)∧Ks g l H k' T' H2:=fun h T' e2 e5 e7 =>
      ⟨(300 - out2.length) * 1000+300,by omega,0,r2,out2,by omega,Nat.zero_le _,o2,fr2,hso2,hcl2,fun x hx=>hsub x (hba x hx),fun j x hj=>by omega,e2,e5,e7⟩
    have stay:(okb=true→s < 0→g.rules.length≤k)→¬ out.length < out2.length→∀ T':Env,T' 2=.aX (ax g) 0→T' 5=r2→T' 7=gi ((i:Int)+1)→∃ k',k' < (300 - out.length) * 1000+(300 - i)∧Ks g l H k' T' H2:=fun hend h T' e2 e5 e7=>by
      have e:=hsame (by omega)
      subst e
      refine ⟨(300 - out2.length) * 1000+(300 - (i+1)),by omega,i+1,r2,out2,rfl,by omega,o2,fr2,hso2,hcl2,hba,fun j x hj hx=>?_,e2,e5,e7⟩
      rcases Nat.lt_or_ge j i with hji | hji
      · exact hdn j x hji hx
      · have:j=i:=by omega
        subst this
        rw[hy] at hx
        simp only[Option.some.injEq] at hx
        subst hx
        intro s' q R h1 h2 h3 h4
        rw[hny] at h1
        simp only[Prod.mk.injEq] at h1
        obtain ⟨rfl,rfl⟩:=h1
        have:=(List.getElem?_eq_some_iff.1 h3).1
        exact hall q R (by have:=hend rfl h2; omega) rfl h2 h3 h4
    cases okb with
    | false =>
      simp (disch:=omega) only [↓wr,↓reduceIte,wq,ah,ag,aj,ab,ae,af,ai,isNil,Nat.reduceEqDiff,Nat.reduceAdd,Nat.reduceLT,Nat.reduceLeDiff,Int.reduceNeg,Int.reduceToNat,reduceCtorEq,ga,t2,t5,t7,t8,t9,t10,t11,hlr2]
      refine av.dec (fun hg=>?_) (fun hg=>?_)
      · simp (disch:=omega) only [↓wr,↓reduceIte,wq,ah,ag,aj,ab,ae,af,ai,isNil,Nat.reduceEqDiff,Nat.reduceAdd,Nat.reduceLT,Nat.reduceLeDiff,Int.reduceNeg,Int.reduceToNat,reduceCtorEq,t2,t5,t7]
        exact more (by omega) _ t2 t5 rfl
      · simp (disch:=omega) only [↓wr,↓reduceIte,wq,ah,ag,aj,ab,ae,af,ai,isNil,Nat.reduceEqDiff,Nat.reduceAdd,Nat.reduceLT,Nat.reduceLeDiff,Int.reduceNeg,Int.reduceToNat,reduceCtorEq,t2,t5,t7]
        exact stay (fun h=>by simp at h) (by omega) _ t2 t5 rfl
    | true =>
      simp (disch:=omega) only [↓wr,↓reduceIte,wq,ah,ag,aj,ab,ae,af,ai,isNil,Nat.reduceEqDiff,Nat.reduceAdd,Nat.reduceLT,Nat.reduceLeDiff,Int.reduceNeg,Int.reduceToNat,reduceCtorEq,ga,t2,t5,t7,t8,t9,t10,t11,hlr2,ax]
      refine av.dec (fun hneg=>?_) (fun hneg=>?_)
      · simp (disch:=omega) only [↓wr,↓reduceIte,wq,ah,ag,aj,ab,ae,af,ai,isNil,Nat.reduceEqDiff,Nat.reduceAdd,Nat.reduceLT,Nat.reduceLeDiff,Int.reduceNeg,Int.reduceToNat,reduceCtorEq,t2,t5,t7,t8,t9,t10,t11,hlr2,ax]
        refine av.dec (fun hkl=>?_) (fun hkl=>?_)
        · have hR:g.rules[k]?=some (g.rules[k]'(by omega)):=List.getElem?_eq_getElem (by omega)
          have hL:=hf.left _ (List.getElem_mem (show k < g.rules.length by omega))
          generalize g.rules[k]'(by omega)=R at hR hL
          simp (disch:=omega) only [↓wr,↓reduceIte,wq,ah,ag,aj,ab,ae,af,ai,isNil,Nat.reduceEqDiff,Nat.reduceAdd,Nat.reduceLT,Nat.reduceLeDiff,Int.reduceNeg,Int.reduceToNat,reduceCtorEq,t2,t5,t7,t8,t9,t10,t11,ax,bo,List.getElem?_map,hR,Option.map_some]
          refine av.eq (fun he=>?_) (fun he=>?_)
          · simp (disch:=omega) only [↓wr,↓reduceIte,wq,ah,ag,aj,ab,ae,af,ai,isNil,Nat.reduceEqDiff,Nat.reduceAdd,Nat.reduceLT,Nat.reduceLeDiff,Int.reduceNeg,Int.reduceToNat,reduceCtorEq,t2,t5,t7,t8,t9,t10,t11]
            refine aG.gT ((Dc r2 out2 (by omega) ⟨k,0⟩ H2 o2).mono ?_)
            rintro r3 H3 ⟨o3,l3⟩
            simp (disch:=omega) only [↓wr,↓reduceIte,wq,ah,ag,aj,ab,ae,af,ai,isNil,Nat.reduceEqDiff,Nat.reduceAdd,Nat.reduceLT,Nat.reduceLeDiff,Int.reduceNeg,Int.reduceToNat,reduceCtorEq,t2,t5,t7,t8,t9,t10,t11]
            have hnew:ke g l ⟨k,0⟩:=.step hyC hny hneg hR he
            refine bD hk (by omega) ⟨r3,dD out2 ⟨k,0⟩,o3,fr2.step l3,oE hso2,fun x hx=>?_,fun x hx=>hE.2 (.inr (hsub x hx)),by have:=Bk out2 ⟨k,0⟩; omega,fun h=>?_,fun q R' hq h2 h3 h4=>?_,t2,rfl,t7,t8,t9,t10,rfl⟩
            · rcases hE.1 hx with rfl | hx
              · exact hnew
              · exact hcl2 x hx
            · have hin:(⟨k,0⟩:aI)∈out2:=Classical.byContradiction fun hno=>by
                have:=x8 hno; omega
              rw[yz hso2 hin] at h ⊢
              exact hsame h
            · rcases Nat.lt_or_ge q k with hqk | hqk
              · exact hE.2 (.inr (hall q R' hqk rfl h2 h3 h4))
              · have:q=k:=by omega
                subst this
                exact hE.2 (.inl rfl)
          · simp (disch:=omega) only [↓wr,↓reduceIte,wq,ah,ag,aj,ab,ae,af,ai,isNil,Nat.reduceEqDiff,Nat.reduceAdd,Nat.reduceLT,Nat.reduceLeDiff,Int.reduceNeg,Int.reduceToNat,reduceCtorEq,t2,t5,t7,t8,t9,t10,t11]
            refine bD hk (by omega) ⟨r2,out2,o2,fr2,hso2,hcl2,hsub,hlen2,hsame,fun q R' hq h2 h3 h4=>?_,t2,t5,t7,t8,t9,t10,rfl⟩
            rcases Nat.lt_or_ge q k with hqk | hqk
            · exact hall q R' hqk rfl h2 h3 h4
            · have:q=k:=by omega
              subst this
              rw[hR] at h3
              simp only[Option.some.injEq] at h3
              subst h3
              exact absurd h4 he
        · simp (disch:=omega) only [↓wr,↓reduceIte,wq,ah,ag,aj,ab,ae,af,ai,isNil,Nat.reduceEqDiff,Nat.reduceAdd,Nat.reduceLT,Nat.reduceLeDiff,Int.reduceNeg,Int.reduceToNat,reduceCtorEq,t2,t5,t7,t8,t9,t10,t11,hlr2]
          refine av.dec (fun hg=>?_) (fun hg=>?_)
          · simp (disch:=omega) only [↓wr,↓reduceIte,wq,ah,ag,aj,ab,ae,af,ai,isNil,Nat.reduceEqDiff,Nat.reduceAdd,Nat.reduceLT,Nat.reduceLeDiff,Int.reduceNeg,Int.reduceToNat,reduceCtorEq,t2,t5,t7]
            exact more (by omega) _ t2 t5 rfl
          · simp (disch:=omega) only [↓wr,↓reduceIte,wq,ah,ag,aj,ab,ae,af,ai,isNil,Nat.reduceEqDiff,Nat.reduceAdd,Nat.reduceLT,Nat.reduceLeDiff,Int.reduceNeg,Int.reduceToNat,reduceCtorEq,t2,t5,t7]
            exact stay (fun _ _=>by omega) (by omega) _ t2 t5 rfl
      · simp (disch:=omega) only [↓wr,↓reduceIte,wq,ah,ag,aj,ab,ae,af,ai,isNil,Nat.reduceEqDiff,Nat.reduceAdd,Nat.reduceLT,Nat.reduceLeDiff,Int.reduceNeg,Int.reduceToNat,reduceCtorEq,t2,t5,t7,t8,t9,t10,t11,hlr2]
        refine av.dec (fun hg=>?_) (fun hg=>?_)
        · simp (disch:=omega) only [↓wr,↓reduceIte,wq,ah,ag,aj,ab,ae,af,ai,isNil,Nat.reduceEqDiff,Nat.reduceAdd,Nat.reduceLT,Nat.reduceLeDiff,Int.reduceNeg,Int.reduceToNat,reduceCtorEq,t2,t5,t7]
          exact more (by omega) _ t2 t5 rfl
        · simp (disch:=omega) only [↓wr,↓reduceIte,wq,ah,ag,aj,ab,ae,af,ai,isNil,Nat.reduceEqDiff,Nat.reduceAdd,Nat.reduceLT,Nat.reduceLeDiff,Int.reduceNeg,Int.reduceToNat,reduceCtorEq,t2,t5,t7]
          exact stay (fun _ h=>absurd h hneg) (by omega) _ t2 t5 rfl
  · simp (disch:=omega) only [↓wr,↓reduceIte,wq,ah,ag,aj,ab,ae,af,ai,isNil,Nat.reduceEqDiff,Nat.reduceAdd,Nat.reduceLT,Nat.reduceLeDiff,Int.reduceNeg,Int.reduceToNat,reduceCtorEq,t2,t5,t7]
    have hi2:i=out.length:=by omega
    rw[Du hf hl hso hcl hba (fun x hx s k R h1 h2 h3 h4=>by
      obtain ⟨j,hj,e⟩:=List.mem_iff_getElem.1 hx
      exact hdn j x (by omega) (by rw[List.getElem?_eq_getElem hj,e]) s k R h1 h2 h3 h4)]
    exact ⟨o1,fr⟩
theorem rL (l:List aI):Tree (.aP (aL l)):=fv _ _ fun x _ v hv=>by simp[aQ] at hv; rcases hv with rfl | rfl <;> exact .val _
theorem zk (a b:List aI) (ha:bc a) (hb:bc b):aE Tryz.prog 21 [.aP (aL a),.aP (aL b)] (gb (a == b)):=by
  unfold bc at ha hb
  refine aE.val (by
    intro v hv; simp at hv
    rcases hv with rfl | rfl <;> exact rL _) fun H=>?_
  refine aB.of mixed qE ?_
  simp (disch:=omega) only [↓wr,↓reduceIte,wq,ah,ag,aj,ab,ae,af,ai,isNil,Nat.reduceEqDiff,Nat.reduceAdd,Nat.reduceLT,Nat.reduceLeDiff,Int.reduceNeg,Int.reduceToNat,reduceCtorEq,mb,aL]
  refine av.ne (fun h=>?_) (fun h=>?_)
  · simp (disch:=omega) only [↓wr,↓reduceIte,wq,ah,ag,aj,ab,ae,af,ai,isNil,Nat.reduceEqDiff,Nat.reduceAdd,Nat.reduceLT,Nat.reduceLeDiff,Int.reduceNeg,Int.reduceToNat,reduceCtorEq]
    have:(a == b)=false:=by simp; rintro rfl; exact h rfl
    rw[this]
  · simp (disch:=omega) only [↓wr,↓reduceIte,wq,ah,ag,aj,ab,ae,af,ai,isNil,Nat.reduceEqDiff,Nat.reduceAdd,Nat.reduceLT,Nat.reduceLeDiff,Int.reduceNeg,Int.reduceToNat,reduceCtorEq]
    refine bH.up a.length (fun i T H'=>a.take i=b.take i∧T 0=.aP (aL a)∧T 1=.aP (aL b)∧T 5=gi i) ⟨rfl,rfl,rfl,rfl⟩ ?_
    rintro i k T H' hk ⟨he,t0,t1,t5⟩
    simp (disch:=omega) only [↓wr,↓reduceIte,wq,ah,ag,aj,ab,ae,af,ai,isNil,Nat.reduceEqDiff,Nat.reduceAdd,Nat.reduceLT,Nat.reduceLeDiff,Int.reduceNeg,Int.reduceToNat,reduceCtorEq,kE,t0,t1,t5,aL]
    refine av.dec (fun hc=>?_) (fun hc=>?_)
    · have hx:a[i]?=some (a[i]'(by omega)):=List.getElem?_eq_getElem (by omega)
      have hy:b[i]?=some (b[i]'(by omega)):=List.getElem?_eq_getElem (by omega)
      generalize a[i]'(by omega)=x at hx
      generalize b[i]'(by omega)=y at hy
      simp (disch:=omega) only [↓wr,↓reduceIte,wq,ah,ag,aj,ab,ae,af,ai,isNil,Nat.reduceEqDiff,Nat.reduceAdd,Nat.reduceLT,Nat.reduceLeDiff,Int.reduceNeg,Int.reduceToNat,reduceCtorEq,t0,t1,t5,aL,List.getElem?_map,hx,hy,Option.map_some,aQ]
      refine jY (xs:=#[.int .i64 x.aF,.int .i64 x.dot]) (ys:=#[.int .i64 y.aF,.int .i64 y.dot]) Tryz.underlying33 (by kernel_rfl) (by kernel_rfl) ?_ ?_ (qz x y) (.inr ⟨rfl,rfl⟩) ?_
      · rfl
      · rfl
      rw[zb]
      simp (disch:=omega) only [↓wr,↓reduceIte,wq,ah,ag,aj,ab,ae,af,ai,isNil,Nat.reduceEqDiff,Nat.reduceAdd,Nat.reduceLT,Nat.reduceLeDiff,Int.reduceNeg,Int.reduceToNat,reduceCtorEq,t0,t1,t5]
      refine av.dec (fun e2=>?_) (fun e2=>?_)
      · simp (disch:=omega) only [↓wr,↓reduceIte,wq,ah,ag,aj,ab,ae,af,ai,isNil,Nat.reduceEqDiff,Nat.reduceAdd,Nat.reduceLT,Nat.reduceLeDiff,Int.reduceNeg,Int.reduceToNat,reduceCtorEq,t0,t1,t5]
        exact bD hk (by omega) ⟨by rw[List.take_add_one,List.take_add_one,he,hx,hy,e2],t0,t1,rfl⟩
      · simp (disch:=omega) only [↓wr,↓reduceIte,wq,ah,ag,aj,ab,ae,af,ai,isNil,Nat.reduceEqDiff,Nat.reduceAdd,Nat.reduceLT,Nat.reduceLeDiff,Int.reduceNeg,Int.reduceToNat,reduceCtorEq]
        have:(a == b)=false:=by
          simp; rintro rfl
          rw[hx] at hy; simp at hy; exact e2 hy
        rw[this]
    · simp (disch:=omega) only [↓wr,↓reduceIte,wq,ah,ag,aj,ab,ae,af,ai,isNil,Nat.reduceEqDiff,Nat.reduceAdd,Nat.reduceLT,Nat.reduceLeDiff,Int.reduceNeg,Int.reduceToNat,reduceCtorEq,t0,t1,t5]
      rw[List.take_of_length_le (by omega),List.take_of_length_le (by omega)] at he
      rw[he,beq_self_eq_true]
structure O7 where
  aF:Int
  set:BV
  deriving DecidableEq
structure O5 where
  state:Int
  term:Int
  kind:Int
  aF:Int
  other:Int
  deriving DecidableEq
structure ef (g:ao) (at_ i:Nat) (out:List bR):Prop where
  bV:∀ s∈out,cm s.bV∧s.bV≠[]∧∀ x∈s.bV,cw g x
  dH:∀ j s,out[j]?=some s→s.dH.length≤40∧(j=at_→s.dH.length≤i)∧(at_ < j→s.dH=[])
  to:∀ s∈out,∀ e∈s.dH,0≤e.to∧e.to < out.length
  sym:∀ s∈out,∀ e∈s.dH,-1000≤e.sym∧e.sym≤1000
theorem mem_modify {α:Type} {l:List α} {i:Nat} {f:α→α} {y:α} (h:y∈l.modify i f):y∈l∨∃ x,l[i]?=some x∧y=f x:=by
  obtain ⟨j,hj,e⟩:=List.mem_iff_getElem.1 h
  simp only[List.length_modify] at hj
  rw[List.getElem_modify] at e
  split at e
  · rename_i hij
    subst hij
    exact .inr ⟨l[i],List.getElem?_eq_getElem hj,e.symm⟩
  · exact .inl (e ▸ List.getElem_mem hj)
theorem J5 (g:ao) (l:List aI) (at_:Nat) (out:List bR) (i:Nat):out.length≤(fW g l at_ out i).length∧(fW g l at_ out i).length≤out.length+1:=by
  unfold fW
  split
  · omega
  · split
    · simp
    · simp
theorem ef.put {g:ao} {at_ i:Nat} {out:List bR} (h:ef g at_ i out) (hi:i < 40) {s:Int} (hs : -1000≤s∧s≤1000) {to:Int} (ht:0≤to∧to < out.length):ef g at_ (i+1) (out.modify at_ fun x=>(⟨x.bV,x.dH ++ [⟨s,to⟩]⟩:bR)):=by
  refine ⟨fun y hy=>?_,fun j y hy=>?_,fun y hy e he=>?_,fun y hy e he=>?_⟩
  rotate_right
  · rcases mem_modify hy with hy | ⟨x,hx,rfl⟩
    · exact h.sym y hy e he
    · rcases List.mem_append.1 he with he | he
      · exact h.sym x (List.mem_of_getElem? hx) e he
      · simp at he; subst he; exact hs
  · rcases mem_modify hy with hy | ⟨x,hx,rfl⟩
    · exact h.bV y hy
    · exact h.bV x (List.mem_of_getElem? hx)
  · rw[List.getElem?_modify] at hy
    cases hx:out[j]? with
    | none=>rw[hx] at hy; simp at hy
    | some x =>
      rw[hx] at hy
      have h1:=h.dH j x hx
      by_cases e:at_=j
      · subst e
        simp at hy
        subst hy
        have:=h1.2.1 rfl
        refine ⟨by simp; omega,fun _=>by simp; omega,fun h=>by omega⟩
      · simp[e] at hy
        subst hy
        exact ⟨h1.1,fun h=>absurd h.symm e,h1.2.2⟩
  · rw[List.length_modify]
    rcases mem_modify hy with hy | ⟨x,hx,rfl⟩
    · exact h.to y hy e he
    · rcases List.mem_append.1 he with he | he
      · exact h.to x (List.mem_of_getElem? hx) e he
      · simp at he; subst he; exact ht
theorem ef.up {g:ao} {at_ i:Nat} {out:List bR} (h:ef g at_ i out):ef g at_ (i+1) out :=
  ⟨h.bV,fun j s hs=>by have:=h.dH j s hs; exact ⟨this.1,fun e=>by have:=this.2.1 e; omega,this.2.2⟩,h.to,h.sym⟩
theorem ef.add {g:ao} {at_ i:Nat} {out:List bR} (h:ef g at_ i out) {k:List aI} (hk:cm k∧k≠[]∧∀ x∈k,cw g x):ef g at_ i (out ++ [⟨k,[]⟩]):=by
  refine ⟨fun y hy=>?_,fun j y hy=>?_,fun y hy e he=>?_,fun y hy e he=>?_⟩
  rotate_right
  · rcases List.mem_append.1 hy with hy | hy
    · exact h.sym y hy e he
    · simp at hy; subst hy; simp at he
  · rcases List.mem_append.1 hy with hy | hy
    · exact h.bV y hy
    · simp at hy; subst hy; exact hk
  · rcases Nat.lt_or_ge j out.length with hj | hj
    · rw[List.getElem?_append_left hj] at hy; exact h.dH j y hy
    · rw[List.getElem?_append_right hj] at hy
      cases hq:j - out.length with
      | zero=>rw[hq] at hy; simp at hy; subst hy; exact ⟨by simp,fun _=>by simp,fun _=>rfl⟩
      | succ q=>rw[hq] at hy; simp at hy
  · rcases List.mem_append.1 hy with hy | hy
    · have:=h.to y hy e he; simp; omega
    · simp at hy; subst hy; simp at he
theorem ef.step {g:ao} {l:List aI} (hs:cm l) (hl:∀ x∈l,cw g x) {at_ i:Nat} {out:List bR} (h:ef g at_ i out) (hi:i < 40):ef g at_ (i+1) (fW g l at_ out i):=by
  unfold fW
  split
  · exact h.up
  · rename_i hne
    have hb : -1000≤cO g i∧cO g i≤1000:=by unfold cO; split <;> omega
    split
    · exact (h.add ⟨Iy _ hs,hne,Ld hl⟩).put hi hb (by simp; omega)
    · have:=CJ out (cJ g l (cO g i))
      exact h.put hi hb ⟨by omega,this⟩
theorem ef.next {g:ao} {at_ i:Nat} {out:List bR} (h:ef g at_ i out):ef g (at_+1) 0 out :=
  ⟨h.bV,fun j s hs=>by
    have:=h.dH j s hs
    exact ⟨this.1,fun e=>by have:=this.2.2 (by omega); simp[this],fun e=>this.2.2 (by omega)⟩,h.to,h.sym⟩
theorem ef.row {g:ao} {l:List aI} (hs:cm l) (hl:∀ x∈l,cw g x) {at_:Nat} {out:List bR} (h:ef g at_ 0 out):∀ n:Nat,n≤40→ef g at_ n ((List.range n).foldl (fW g l at_) out)∧out.length≤((List.range n).foldl (fW g l at_) out).length∧((List.range n).foldl (fW g l at_) out).length≤out.length+n
  | 0,_=>⟨h,Nat.le_refl _,Nat.le_refl _⟩
  | n+1,hn=>by
    obtain ⟨h1,h2,h3⟩:=ef.row hs hl h n (by omega)
    rw[List.range_succ,List.foldl_append]
    simp only[List.foldl_cons,List.foldl_nil]
    have:=J5 g l at_ ((List.range n).foldl (fW g l at_) out) n
    exact ⟨h1.step hs hl (by omega),by omega,by omega⟩
theorem ef.Hz {g:ao} (hf:g.fA) {at_ i:Nat} {out:List bR} (h:ef g at_ i out) {j:Nat} (hj:j < out.length):cm (dq g (out.getD j cn).bV)∧∀ x∈dq g (out.getD j cn).bV,cw g x:=by
  have hm:=List.mem_of_getElem? (getD_some (d:=cn) hj)
  exact ⟨sZ _ _,fun x hx=>((vE hf (h.bV _ hm).2.2).1 hx).has (h.bV _ hm).2.2⟩
structure LR (g:ao) (a:List bR):Prop where
  bV:∀ s∈a,cm s.bV∧s.bV≠[]∧∀ x∈s.bV,cw g x
  dH:∀ s∈a,s.dH.length≤40
  to:∀ s∈a,∀ e∈s.dH,0≤e.to∧e.to < a.length
  sym:∀ s∈a,∀ e∈s.dH,-1000≤e.sym∧e.sym≤1000
theorem ef.ok {g:ao} {at_ i:Nat} {out:List bR} (h:ef g at_ i out):LR g out :=
  ⟨h.bV,fun s hs=>by obtain ⟨j,hj,e⟩:=List.mem_iff_getElem.1 hs; exact (h.dH j s (by rw[List.getElem?_eq_getElem hj,e])).1,h.to,h.sym⟩
theorem dQ.lr {H:View} {u:V} {l:List aI} (h:aO H u 2 (aL l)):dQ H u (.aP (aL l)) :=
  dQ.own h fun e he v hv=>by
    obtain ⟨x,_,rfl⟩:=List.mem_map.1 he
    simp[aQ] at hv; rcases hv with rfl | rfl <;> exact .val _
theorem toNat_zero {s:BV} : ((s.toNat:Nat):Int)=0↔s=0:=by
  constructor
  · intro h; exact BitVec.eq_of_toNat_eq (by simpa using h)
  · rintro rfl; rfl
def oh:SF:=⟨.seq (al [bQ 2 0,bQ 3 1,aY 4 false]) <|
  .seq (.region true [⟨none,[aK 5 4 2,aH 6 54 [5],aa 7 6]⟩,⟨(some (7,true)),[au 8 0 3,aw 9 8,az 10 .geq 9 (-1)]⟩,⟨none,[bz 11 7 10,aa 12 11]⟩,⟨(some (12,true)),[au 13 0 3,aw 14 13,au 15 2 2,aw 16 15,aR 17 16,aS 18 .lss 14 17]⟩,⟨none,[bz 19 12 18,aa 20 19]⟩,⟨(some (20,true)),[au 21 1 3,aw 22 21,az 23 .geq 22 0]⟩,⟨none,[bz 24 20 23,aa 25 24]⟩,⟨(some (25,true)),[au 26 1 3,aw 27 26,aK 28 4 2,au 29 0 3,aw 30 29,aH 31 55 [28,30],aR 32 31,aS 33 .leq 27 32]⟩,⟨none,[bz 34 25 33,aa 4 34]⟩]) <|
  .ret,
  [.tmp 4],35⟩
theorem sS:bf Tryz.prog 20 [2,3]=some oh:=by kernel_rfl
def mZ:SF:=⟨.seq (al [bQ 2 0,bQ 3 1,aJ 4 0,aY 5 false]) <|
  .seq (.seq (al [aK 6 4 2,aK 7 2 3,aH 8 20 [6,7],b7 9 8]) <|
  .cond (.tmp 9) (.seq (al [aJ 4 0,aY 5 false]) <|
  .ret) (.skip)) <|
  .seq (al [aK 10 4 2,aK 11 2 3,aH 12 51 [10,11],cB 13 0 12,cB 14 1 12,aa 4 13,aa 5 14]) <|
  .ret,
  [.tmp 4,.tmp 5],15⟩
theorem rR:bf Tryz.prog 18 [2,3]=some mZ:=by kernel_rfl
def jz:SC :=
  .seq (.seq (al [aa 7 6,aa 8 1,aR 9 8,aS 10 .lss 7 9]) <|
  .cond (.tmp 10) (.skip) (.exit 0)) <|
  .seq (.block 1 (.seq (al [aK 13 4 2,aa 14 1,aa 15 6,aZ 16 2 14 15,aK 17 2 16,aH 18 20 [13,17]]) <|
  .cond (.tmp 18) (al [aa 19 5,aa 20 1,aa 21 6,aZ 22 2 20 21,aK 23 2 22,((some 24),.op (.bF 1 2 [(.val (.int .i64 0)),(.val (.int .i64 0))] [(0,(.tmp 23))])),((some 25),.op (.app 2 16 (.tmp 19) (.tmp 24))),aa 5 25]) (.skip))) <|
  al [aa 11 6,az 12 .add 11 1,aa 6 12]
def kx:SF:=⟨.seq (al [bQ 2 0,((some 4),.op (.bk (.val (.emp 1))))]) <|
  .seq (al [((some 5),.op (.bk (.val (.emp 1))))]) <|
  .seq (.seq (al [aJ 6 0]) <|
  .block 0 (.loop jz)) <|
  .seq (.seq (al [aa 26 5,aR 27 26,az 28 .eql 27 0]) <|
  .cond (.tmp 28) (.seq (al [((some 4),.op (.bk (.val (.emp 1))))]) <|
  .ret) (.skip)) <|
  .seq (al [aK 29 4 2,aa 30 5,aH 31 60 [29,30],aa 4 31]) <|
  .ret,
  [.tmp 4],32⟩
theorem pN:bf Tryz.prog 23 [2]=some kx:=by kernel_rfl
instance (g:ao) (x:aI):Decidable (cw g x):=by unfold cw; infer_instance
def bY (g:ao) (x:aI):Bool:=bt g && decide (cw g x)
theorem vJ (g:ao) (x:aI):∀ v∈[V.agg (ax g),.agg (aQ x)],Tree v:=by
  intro v hv; simp at hv
  rcases hv with rfl | rfl
  · exact cg _ (c8 g)
  · exact cg _ fun v hv=>by simp[aQ] at hv; rcases hv with rfl | rfl <;> exact .val _
set_option maxHeartbeats 4000000 in
theorem xE (g:ao) (hg:g.Ok) (x:aI) (hx:bB x.aF∧bB x.dot):aE Tryz.prog 20 [.agg (ax g),.agg (aQ x)] (gb (bY g x)):=by
  refine aE.val (vJ g x) fun H=>?_
  have hr9:=GY g hg
  obtain ⟨hx1,hx2⟩:=hx
  unfold bB at hx1 hx2
  refine aB.of mixed sS ?_
  simp only[ax,encS] at hr9
  simp (disch:=omega) only [↓wr,↓reduceIte,wq,ah,ag,aj,ab,ae,af,ai,isNil,Nat.reduceEqDiff,Nat.reduceAdd,Nat.reduceLT,Nat.reduceLeDiff,Int.reduceNeg,Int.reduceToNat,reduceCtorEq,oh,ax,encS,aQ]
  refine aG.pure hr9 (by kernel_rfl) ?_
  have bad:¬ cw g x→gb false=gb (bY g x):=fun h=>by unfold bY; rw[decide_eq_false h,Bool.and_false]
  simp (disch:=omega) only [↓wr,↓reduceIte,wq,ah,ag,aj,ab,ae,af,ai,isNil,Nat.reduceEqDiff,Nat.reduceAdd,Nat.reduceLT,Nat.reduceLeDiff,Int.reduceNeg,Int.reduceToNat,reduceCtorEq]
  refine av.split (fun hr=>?_) (fun hr=>?_)
  rotate_left
  · simp (disch:=omega) only [↓wr,↓reduceIte,wq,ah,ag,aj,ab,ae,af,ai,isNil,Nat.reduceEqDiff,Nat.reduceAdd,Nat.reduceLT,Nat.reduceLeDiff,Int.reduceNeg,Int.reduceToNat,reduceCtorEq]
    unfold bY; rw[hr]; rfl
  have hf:=bu hr
  simp (disch:=omega) only [↓wr,↓reduceIte,wq,ah,ag,aj,ab,ae,af,ai,isNil,Nat.reduceEqDiff,Nat.reduceAdd,Nat.reduceLT,Nat.reduceLeDiff,Int.reduceNeg,Int.reduceToNat,reduceCtorEq,aQ]
  refine av.dec (fun h1=>?_) (fun h1=>?_)
  rotate_left
  · simp (disch:=omega) only [↓wr,↓reduceIte,wq,ah,ag,aj,ab,ae,af,ai,isNil,Nat.reduceEqDiff,Nat.reduceAdd,Nat.reduceLT,Nat.reduceLeDiff,Int.reduceNeg,Int.reduceToNat,reduceCtorEq]
    exact bad fun h=>by have:=h.1; omega
  simp (disch:=omega) only [↓wr,↓reduceIte,wq,ah,ag,aj,ab,ae,af,ai,isNil,Nat.reduceEqDiff,Nat.reduceAdd,Nat.reduceLT,Nat.reduceLeDiff,Int.reduceNeg,Int.reduceToNat,reduceCtorEq,aQ,ax]
  refine av.dec (fun h2=>?_) (fun h2=>?_)
  rotate_left
  · simp (disch:=omega) only [↓wr,↓reduceIte,wq,ah,ag,aj,ab,ae,af,ai,isNil,Nat.reduceEqDiff,Nat.reduceAdd,Nat.reduceLT,Nat.reduceLeDiff,Int.reduceNeg,Int.reduceToNat,reduceCtorEq]
    exact bad fun h=>by have:=h.1; omega
  simp (disch:=omega) only [↓wr,↓reduceIte,wq,ah,ag,aj,ab,ae,af,ai,isNil,Nat.reduceEqDiff,Nat.reduceAdd,Nat.reduceLT,Nat.reduceLeDiff,Int.reduceNeg,Int.reduceToNat,reduceCtorEq,aQ]
  refine av.dec (fun h3=>?_) (fun h3=>?_)
  rotate_left
  · simp (disch:=omega) only [↓wr,↓reduceIte,wq,ah,ag,aj,ab,ae,af,ai,isNil,Nat.reduceEqDiff,Nat.reduceAdd,Nat.reduceLT,Nat.reduceLeDiff,Int.reduceNeg,Int.reduceToNat,reduceCtorEq]
    exact bad fun h=>by have:=h.2; omega
  have hrt:=y0 g (ln hf) x.aF ⟨by omega,by omega⟩
  have hl6:=fK hf (r:=x.aF) ⟨by omega,by omega⟩
  simp only[ax,encS,encI] at hrt
  simp (disch:=omega) only [↓wr,↓reduceIte,wq,ah,ag,aj,ab,ae,af,ai,isNil,Nat.reduceEqDiff,Nat.reduceAdd,Nat.reduceLT,Nat.reduceLeDiff,Int.reduceNeg,Int.reduceToNat,reduceCtorEq,aQ,ax,encS]
  refine aG.pure hrt (by kernel_rfl) ?_
  simp (disch:=omega) only [↓wr,↓reduceIte,wq,ah,ag,aj,ab,ae,af,ai,isNil,Nat.reduceEqDiff,Nat.reduceAdd,Nat.reduceLT,Nat.reduceLeDiff,Int.reduceNeg,Int.reduceToNat,reduceCtorEq,aQ]
  congr 2
  unfold bY
  rw[hr,Bool.true_and]
  congr 1
  unfold cw
  simp only[eq_iff_iff]
  omega
def sQ (g:ao) (x:aI):Int × Bool:=if bY g x=true then cY g x else (0,false)
theorem k8 {g:ao} {x:aI} : bY g x=true↔bt g=true∧cw g x:=by simp[bY]
set_option maxHeartbeats 4000000 in
theorem J7 (g:ao) (hg:g.Ok) (x:aI) (hx:bB x.aF∧bB x.dot):aE Tryz.prog 18 [.agg (ax g),.agg (aQ x)] (.bg [gi (sQ g x).1,gb (sQ g x).2]):=by
  have hh:=xE g hg x hx
  refine aE.tree (vJ g x) (AD (.val _) (.val _)) fun H=>?_
  refine aB.of mixed rR ?_
  simp only[ax,encS,aQ] at hh
  simp (disch:=omega) only [↓wr,↓reduceIte,wq,ah,ag,aj,ab,ae,af,ai,isNil,Nat.reduceEqDiff,Nat.reduceAdd,Nat.reduceLT,Nat.reduceLeDiff,Int.reduceNeg,Int.reduceToNat,reduceCtorEq,mZ,ax,encS,aQ]
  refine aG.pure hh (by kernel_rfl) ?_
  unfold sQ
  simp (disch:=omega) only [↓wr,↓reduceIte,wq,ah,ag,aj,ab,ae,af,ai,isNil,Nat.reduceEqDiff,Nat.reduceAdd,Nat.reduceLT,Nat.reduceLeDiff,Int.reduceNeg,Int.reduceToNat,reduceCtorEq]
  refine av.split (fun h=>?_) (fun h=>?_)
  · obtain ⟨h1,h2⟩:=k8.1 h
    have hn:=CZ g (bu h1) x h2
    simp only[ax,encS,aQ] at hn
    simp (disch:=omega) only [↓wr,↓reduceIte,wq,ah,ag,aj,ab,ae,af,ai,isNil,Nat.reduceEqDiff,Nat.reduceAdd,Nat.reduceLT,Nat.reduceLeDiff,Int.reduceNeg,Int.reduceToNat,reduceCtorEq,ax,encS,aQ]
    refine aG.pure hn (by kernel_rfl) ?_
    simp (disch:=omega) only [↓wr,↓reduceIte,wq,ah,ag,aj,ab,ae,af,ai,isNil,Nat.reduceEqDiff,Nat.reduceAdd,Nat.reduceLT,Nat.reduceLeDiff,Int.reduceNeg,Int.reduceToNat,reduceCtorEq]
    rw[if_pos h]
  · simp (disch:=omega) only [↓wr,↓reduceIte,wq,ah,ag,aj,ab,ae,af,ai,isNil,Nat.reduceEqDiff,Nat.reduceAdd,Nat.reduceLT,Nat.reduceLeDiff,Int.reduceNeg,Int.reduceToNat,reduceCtorEq]
    rw[h]; simp
theorem uY (g:ao):dq g []=[]:=by
  have:∀ x,¬ ke g [] x:=fun x h=>by
    induction h with
    | base h=>simp at h
    | step _ _ _ _ _ ih=>exact ih
  unfold dq
  rw[List.filter_eq_nil_iff.2 fun x _=>by simp[this x]]
  rfl
theorem Cn {h:aD} {u:V} {l:List aI} (ho:aO h.view u 2 (aL l)):dJ h u (.aP (aL l)):=by
  refine dJ.own ho rfl (fun i _=>rfl) (fun i j hi hj=>?_)
  rw[bj] at hi
  have e:(aL l).getD i []=aQ l[i]:=by simp[aL,List.getD_eq_getElem?_getD,hi]
  rw[e] at hj ⊢
  match j,hj with
  | 0,_=>exact .val _
  | 1,_=>exact .val _
theorem Bv {α:Type} {l:List α} {p:α→Bool} {i:Nat} {x:α} (h:l[i]?=some x):(l.take (i+1)).filter p=if p x=true then (l.take i).filter p ++ [x] else (l.take i).filter p:=by
  rw[List.take_add_one,h,List.filter_append]
  split
  · rename_i hp; simp[hp]
  · rename_i hp; simp[hp]
set_option maxHeartbeats 4000000 in
theorem CQ (g:ao) (hg:g.Ok) (l:List aI) (hl:l.length≤10000) (hn:∀ x∈l,bB x.aF∧bB x.dot):dR Tryz.prog 23 [.agg (ax g),.aP (aL l)] (.aP (aL (dq g (l.filter (bY g))))):=by
  refine dR.of (by
    intro v hv; simp at hv
    rcases hv with rfl | rfl
    · exact cg _ (c8 g)
    · exact rL _) ?_
  refine aB.of mixed pN ?_
  simp (disch:=omega) only [↓wr,↓reduceIte,wq,ah,ag,aj,ab,ae,af,ai,isNil,Nat.reduceEqDiff,Nat.reduceAdd,Nat.reduceLT,Nat.reduceLeDiff,Int.reduceNeg,Int.reduceToNat,reduceCtorEq,kx,ax,encS,aL]
  refine bH.up l.length (fun i T H'=>∃ r:V,aO H' r 2 (aL ((l.take i).filter (bY g)))∧T 1=.aP (aL l)∧T 2=.aX (ax g) 0∧T 5=r∧T 6=gi i) ⟨.emp 1,.nil,rfl,rfl,rfl,rfl⟩ ?_
  rintro i k T H' hk ⟨r,ho,t1,t2,t5,t6⟩
  simp (disch:=omega) only [↓wr,↓reduceIte,wq,ah,ag,aj,ab,ae,af,ai,isNil,Nat.reduceEqDiff,Nat.reduceAdd,Nat.reduceLT,Nat.reduceLeDiff,Int.reduceNeg,Int.reduceToNat,reduceCtorEq,jz,t1,t2,t5,t6,aL]
  refine av.dec (fun hc=>?_) (fun hc=>?_)
  · have hx:l[i]?=some (l[i]'(by omega)):=List.getElem?_eq_getElem (by omega)
    have hm:=hn _ (List.getElem_mem (show i < l.length by omega))
    generalize l[i]'(by omega)=x at hx hm
    have hh:=xE g hg x hm
    have hft:=Bv (p:=bY g) hx
    have hfl:=List.length_filter_le (bY g) (l.take i)
    rw[List.length_take] at hfl
    simp only[ax,encS,aQ] at hh
    simp (disch:=omega) only [↓wr,↓reduceIte,wq,ah,ag,aj,ab,ae,af,ai,isNil,Nat.reduceEqDiff,Nat.reduceAdd,Nat.reduceLT,Nat.reduceLeDiff,Int.reduceNeg,Int.reduceToNat,reduceCtorEq,t1,t2,t5,t6,ax,encS,aL,List.getElem?_map,hx,Option.map_some,aQ]
    refine aG.pure hh (by kernel_rfl) ?_
    simp (disch:=omega) only [↓wr,↓reduceIte,wq,ah,ag,aj,ab,ae,af,ai,isNil,Nat.reduceEqDiff,Nat.reduceAdd,Nat.reduceLT,Nat.reduceLeDiff,Int.reduceNeg,Int.reduceToNat,reduceCtorEq,t1,t2,t5,t6]
    refine av.split (fun he=>?_) (fun he=>?_)
    · simp (disch:=omega) only [↓wr,↓reduceIte,wq,ah,ag,aj,ab,ae,af,ai,isNil,Nat.reduceEqDiff,Nat.reduceAdd,Nat.reduceLT,Nat.reduceLeDiff,Int.reduceNeg,Int.reduceToNat,reduceCtorEq,t1,t2,t5,t6,aL,List.getElem?_map,hx,Option.map_some,aQ]
      intro q hq
      simp (disch:=omega) only [↓wr,↓reduceIte,wq,ah,ag,aj,ab,ae,af,ai,isNil,Nat.reduceEqDiff,Nat.reduceAdd,Nat.reduceLT,Nat.reduceLeDiff,Int.reduceNeg,Int.reduceToNat,reduceCtorEq,ed]
      refine gm (ho.fresh hq) (by simp[aU]) (by unfold aW; rw[bj]; simp; omega) (by unfold aW; rw[bj]; simp; omega) ?_
      intro r2 H2 o2 _
      simp (disch:=omega) only [↓wr,↓reduceIte,wq,ah,ag,aj,ab,ae,af,ai,isNil,Nat.reduceEqDiff,Nat.reduceAdd,Nat.reduceLT,Nat.reduceLeDiff,Int.reduceNeg,Int.reduceToNat,reduceCtorEq,t1,t2,t5,t6]
      rw[if_pos he] at hft
      exact bD hk (by omega) ⟨r2,by rw[hft]; simpa [aL,aQ] using o2,t1,t2,rfl,rfl⟩
    · simp (disch:=omega) only [↓wr,↓reduceIte,wq,ah,ag,aj,ab,ae,af,ai,isNil,Nat.reduceEqDiff,Nat.reduceAdd,Nat.reduceLT,Nat.reduceLeDiff,Int.reduceNeg,Int.reduceToNat,reduceCtorEq,t1,t2,t5,t6]
      rw[if_neg (by rw[he]; simp)] at hft
      exact bD hk (by omega) ⟨r,by rw[hft]; exact ho,t1,t2,t5,rfl⟩
  · rw[List.take_of_length_le (by omega)] at ho
    have hfl:=List.length_filter_le (bY g) l
    have hlr:cF r=some (l.filter (bY g)).length:=by rw[ho.len,bj]
    have hall:∀ x∈l.filter (bY g),bt g=true∧cw g x:=fun x hx=>k8.1 (List.mem_filter.1 hx).2
    generalize l.filter (bY g)=l' at *
    simp (disch:=omega) only [↓wr,↓reduceIte,wq,ah,ag,aj,ab,ae,af,ai,isNil,Nat.reduceEqDiff,Nat.reduceAdd,Nat.reduceLT,Nat.reduceLeDiff,Int.reduceNeg,Int.reduceToNat,reduceCtorEq,t1,t2,t5,t6,hlr]
    refine av.eq (fun he=>?_) (fun he=>?_)
    · have:l'=[]:=List.length_eq_zero_iff.1 (by omega)
      subst this
      simp (disch:=omega) only [↓wr,↓reduceIte,wq,ah,ag,aj,ab,ae,af,ai,isNil,Nat.reduceEqDiff,Nat.reduceAdd,Nat.reduceLT,Nat.reduceLeDiff,Int.reduceNeg,Int.reduceToNat,reduceCtorEq]
      intro h' _
      rw[uY]
      exact .emp _
    · cases l' with
      | nil=>exact absurd rfl he
      | cons y l' =>
      have hf:=bu (hall y (by simp)).1
      simp (disch:=omega) only [↓wr,↓reduceIte,wq,ah,ag,aj,ab,ae,af,ai,isNil,Nat.reduceEqDiff,Nat.reduceAdd,Nat.reduceLT,Nat.reduceLeDiff,Int.reduceNeg,Int.reduceToNat,reduceCtorEq,t1,t2,t5,ax,encS]
      refine aG.gT ((C4 g hf (y :: l') (fun x hx=>(hall x hx).2) (by omega) r H' ho).mono ?_)
      rintro r2 H2 ⟨o2,_⟩
      simp (disch:=omega) only [↓wr,↓reduceIte,wq,ah,ag,aj,ab,ae,af,ai,isNil,Nat.reduceEqDiff,Nat.reduceAdd,Nat.reduceLT,Nat.reduceLeDiff,Int.reduceNeg,Int.reduceToNat,reduceCtorEq]
      rintro h' rfl
      exact Cn o2
open Go Go.Proofs Go.Shelf Go.RowKit Go.Sort
theorem bw.cut {P:Program} {f:FuncId} {vs:List V} {h h':aD} {r:V} (hc:bw P f vs h r h') {id sz:Nat} {es rest:List (List V)} (hid:h'.view id=.arr sz (es ++ rest)):bw P f vs h r (h'.set id (.arr sz es)):=by
  have hlt:id < h'.length:=fP (by rw[hid]; simp)
  refine ⟨by simpa using hc.1,fun Z μ F w xs hr hh hf=>(hc.2 Z μ F w xs hr hh (by simpa using hf)).mono ?_⟩
  rintro e w' ⟨x,Z',μ',rfl,hv,hh',hex,hmu⟩
  refine ⟨x,Z',μ',rfl,hv,?_,hex,by simpa using hmu⟩
  have e1:∀ k,cat (h'.set id (.arr sz es)) F k=if k=id then .arr sz es else cat h' F k:=fun k=>by
    simp only[cat,List.length_set]
    by_cases hk:k < h'.length
    · rw[if_pos hk,if_pos hk,hQ hlt]; rfl
    · rw[if_neg hk,if_neg hk,if_neg (by omega)]
  have e2:cat h' F id=.arr sz (es ++ rest):=by simp only[cat]; rw[if_pos hlt,hid]
  refine ⟨fun k=>?_,fun i j b o s o' s' hne h1 h2=>?_,hh'.lt,hh'.bU,hh'.fo⟩
  · rw[e1]
    split
    · rename_i hk
      subst hk
      have h3:=hh'.obj k
      rw[e2] at h3
      intro b o0 s hm
      obtain ⟨k1,⟨c,e,f,hc,hf,hs⟩,k3,k4⟩:=h3 b o0 s hm
      have hg:∀ i,i < es.length→(es ++ rest).getD i []=es.getD i []:=fun i hi=>by
        simp[List.getD_eq_getElem?_getD,List.getElem?_append_left hi]
      refine ⟨k1,⟨c,e,f,hc,hf,?_⟩,fun i hi=>?_,fun i j hi hj=>?_⟩
      · rw[List.length_append,Nat.add_mul] at hs; omega
      · rw[← hg i hi]; exact k3 i (by rw[List.length_append]; omega)
      · rw[← hg i hi]; exact k4 i j (by rw[List.length_append]; omega) hj
    · exact hh'.obj k
  · have h3:=hh'.inj i j b o s o' s' hne h1 h2
    rw[e1,e1]
    rcases h3 with h3 | h3
    · left
      rw[if_neg (fun e=>by rw[e,e2] at h3; simp at h3)]; exact h3
    · right
      rw[if_neg (fun e=>by rw[e,e2] at h3; simp at h3)]; exact h3
theorem aB.cut {P:Program} {f:FuncId} {vs:List V} {H:View} {K K':V→View→Prop} (h:aB P f vs H K) (hk:∀ r H',K r H'→K' r H'∨∃ id sz es rest,H' id=.arr sz (es ++ rest)∧K' r (H'.set id (.arr sz es))):aB P f vs H K':=by
  refine ⟨h.1,fun h0 hv=>?_⟩
  obtain ⟨r,h',ha,hs,hK⟩:=h.2 h0 hv
  rcases hk r _ hK with h1 | ⟨id,sz,es,rest,hid,h1⟩
  · exact ⟨r,h',ha,hs,h1⟩
  · have hlt:id < h'.length:=fP (by rw[hid]; simp)
    refine ⟨r,h'.set id (.arr sz es),ha.cut hid,fun k hk0 hd=>?_,by rw[hQ hlt]; exact h1⟩
    have h2:=hs k hk0 hd
    rw[hQ hlt]
    simp only[View.set]
    rw[if_neg (fun e=>by rw[e,hid] at h2; simp at h2)]
    exact h2
instance:Inhabited aI:=⟨⟨0,0⟩⟩
def gh (x:aI):List Value:=[.int .i64 x.aF,.int .i64 x.dot]
def ld (a b:aI):Int:=if Lib.compareInt a.aF b.aF≠0 then Lib.compareInt a.aF b.aF else Lib.compareInt a.dot b.dot
theorem Kj (a b:aI):(Lib.compareInt a.aF b.aF≠0→ld a b=Lib.compareInt a.aF b.aF)∧(Lib.compareInt a.aF b.aF=0→ld a b=Lib.compareInt a.dot b.dot):=by
  unfold ld
  exact ⟨fun h=>by rw[if_pos h],fun h=>by rw[if_neg (by simp[h])]⟩
theorem pr (a b:aI):ltOf ld a b=bT a b:=by
  have hc:∀ x y:Int,(x < y∧Lib.compareInt x y = -1)∨(x=y∧Lib.compareInt x y=0)∨(y < x∧Lib.compareInt x y=1):=fun x y=>by
    unfold Lib.compareInt; (repeat' split) <;> omega
  rw[Bool.eq_iff_iff,eY]
  simp only[ltOf,decide_eq_true_eq,ld]
  rcases hc a.aF b.aF with ⟨h,e⟩ | ⟨h,e⟩ | ⟨h,e⟩ <;> rcases hc a.dot b.dot with ⟨k,e2⟩ | ⟨k,e2⟩ | ⟨k,e2⟩ <;> simp[e,e2] <;> omega
theorem GO:SWO (ltOf ld) where
  irrefl x:=by rw[pr]; exact jm
  trans x y z h k:=by rw[pr] at *; exact k5 h k
  ntrans x y z h k:=by
    rw[pr] at *
    cases e:bT x z with
    | false=>rfl
    | true =>
      have h1:¬ bT x y=true:=by simp[h]
      have h2:¬ bT y z=true:=by simp[k]
      rw[eY] at h1 h2 e
      omega
def dt (l:List aI):List aI:=l.mergeSort fun x y=>!bT y x
theorem Iv (l:List aI):(l.toArray.toList.mergeSort fun x y=>!(ltOf ld) y x)=dt l:=by
  have e:(fun x y=>!(ltOf ld) y x)=fun x y=>!bT y x:=by funext x y; rw[pr]
  rw[e]; rfl
theorem wk (l:List aI):(dt l).Perm l:=List.mergeSort_perm _ _
theorem gx (l:List aI):(dt l).length=l.length:=(wk l).length_eq
theorem wC (l:List aI):(dt l).Pairwise fun x y=>bT y x=false:=by
  have:=List.pairwise_mergeSort (le:=fun x y:aI=>!bT y x) (fun a b c h k=>by
      simp only[Bool.not_eq_true',Bool.not_eq_false'] at h k ⊢
      cases e:bT c a with
      | false=>simp
      | true =>
        have h1:¬ bT b a=true:=by simpa using h
        have h2:¬ bT c b=true:=by simpa using k
        rw[eY] at h1 h2 e
        omega) (fun a b=>by
      cases e:bT b a with
      | false=>simp
      | true=>simp[ED e]) l
  exact this.imp fun h=>by simpa using h
def Ix:Ren where
  f:=fun
    | 6=>112
    | 15=>167
    | 14=>166
    | 28=>207
    | 29=>208
    | 20=>199
    | 21=>200
    | 22=>201
    | 23=>202
    | 24=>203
    | 25=>204
    | 26=>205
    | 27=>206
    | 46=>227
    | 47=>228
    | 48=>229
    | 49=>230
    | 50=>231
    | 57=>244
    | n=>n
  t:=fun
    | 22=>27
    | 24=>33
    | 25=>164
    | 3=>3
    | 39=>212
    | 0=>0
    | 53=>67
    | 55=>249
    | 4=>4
    | 46=>242
    | 45=>241
    | 50=>30
    | 5=>5
    | 9=>9
    | 66=>269
    | 70=>273
    | 76=>282
    | 77=>283
    | n=>n
  g:=fun n=>n
theorem LQ:Go.Proofs.SlLaysF0.n6 Tryz.prog Ix where
  mixed:=by kernel_rfl
  f6:=⟨Tryz.f112.name,by kernel_rfl,by kernel_rfl⟩
  f14:=⟨Tryz.f166.name,by kernel_rfl,by kernel_rfl⟩
  f15:=by kernel_rfl
  f20:=⟨Tryz.f199.name,by kernel_rfl,by kernel_rfl⟩
  f21:=⟨Tryz.f200.name,by kernel_rfl,by kernel_rfl⟩
  f22:=⟨Tryz.f201.name,by kernel_rfl,by kernel_rfl⟩
  f23:=⟨Tryz.f202.name,by kernel_rfl,by kernel_rfl⟩
  f24:=⟨Tryz.f203.name,by kernel_rfl,by kernel_rfl⟩
  f25:=⟨Tryz.f204.name,by kernel_rfl,by kernel_rfl⟩
  f26:=⟨Tryz.f205.name,by kernel_rfl,by kernel_rfl⟩
  f27:=⟨Tryz.f206.name,by kernel_rfl,by kernel_rfl⟩
  f28:=by kernel_rfl
  f29:=by kernel_rfl
  f46:=⟨Tryz.f227.name,by kernel_rfl,by kernel_rfl⟩
  f47:=by kernel_rfl
  f48:=by kernel_rfl
  f49:=⟨Tryz.f230.name,by kernel_rfl,by kernel_rfl⟩
  f50:=⟨Tryz.f231.name,by kernel_rfl,by kernel_rfl⟩
  f57:=⟨Tryz.f244.name,by kernel_rfl,by kernel_rfl⟩
  t0:=Tryz.underlying0
  a0:=Tryz.isAgg0
  z0:=Tryz.sizeOf0
  v0:=Tryz.zeroValue0
  t3:=Tryz.underlying3
  a3:=Tryz.isAgg3
  z3:=Tryz.sizeOf3
  v3:=Tryz.zeroValue3
  t4:=Tryz.underlying4
  a4:=Tryz.isAgg4
  z4:=Tryz.sizeOf4
  v4:=Tryz.zeroValue4
  t5:=Tryz.underlying5
  a5:=Tryz.isAgg5
  z5:=Tryz.sizeOf5
  v5:=Tryz.zeroValue5
  t9:=Tryz.underlying9
  a9:=Tryz.isAgg9
  z9:=Tryz.sizeOf9
  v9:=Tryz.zeroValue9
  t22:=Tryz.underlying27
  a22:=Tryz.isAgg27
  z22:=Tryz.sizeOf27
  v22:=Tryz.zeroValue27
  t25:=Tryz.underlying164
  a25:=Tryz.isAgg164
  z25:=Tryz.sizeOf164
  v25:=Tryz.zeroValue164
  t39:=Tryz.underlying212
  a39:=Tryz.isAgg212
  z39:=Tryz.sizeOf212
  v39:=Tryz.zeroValue212
  t45:=Tryz.underlying241
  a45:=Tryz.isAgg241
  z45:=Tryz.sizeOf241
  v45:=Tryz.zeroValue241
  t46:=Tryz.underlying242
  a46:=Tryz.isAgg242
  z46:=Tryz.sizeOf242
  v46:=Tryz.zeroValue242
  t50:=Tryz.underlying30
  a50:=Tryz.isAgg30
  z50:=Tryz.sizeOf30
  v50:=Tryz.zeroValue30
  t53:=Tryz.underlying67
  a53:=Tryz.isAgg67
  z53:=Tryz.sizeOf67
  v53:=Tryz.zeroValue67
  t55:=Tryz.underlying249
  a55:=Tryz.isAgg249
  z55:=Tryz.sizeOf249
  v55:=Tryz.zeroValue249
  t66:=Tryz.underlying269
  a66:=Tryz.isAgg269
  z66:=Tryz.sizeOf269
  v66:=Tryz.zeroValue269
  t70:=Tryz.underlying273
  a70:=Tryz.isAgg273
  z70:=Tryz.sizeOf273
  v70:=Tryz.zeroValue273
  t76:=Tryz.underlying282
  a76:=Tryz.isAgg282
  z76:=Tryz.sizeOf282
  v76:=Tryz.zeroValue282
  t77:=Tryz.underlying283
  a77:=Tryz.isAgg283
  z77:=Tryz.sizeOf283
  v77:=Tryz.zeroValue283
def Lk:Ren where
  f:=fun
    | 5=>126
    | 7=>173
    | n=>n
  t:=fun
    | 22=>3
    | 3=>3
    | 4=>4
    | n=>n
  g:=fun n=>n
theorem Ns:Go.Proofs.SlLaysC2.n5 Tryz.prog Lk where
  mixed:=by kernel_rfl
  f5:=⟨Tryz.f126.name,by kernel_rfl,by kernel_rfl⟩
  f7:=⟨Tryz.f173.name,by kernel_rfl,by kernel_rfl⟩
  t3:=Tryz.underlying3
  a3:=Tryz.isAgg3
  z3:=Tryz.sizeOf3
  v3:=Tryz.zeroValue3
  t4:=Tryz.underlying4
  a4:=Tryz.isAgg4
  z4:=Tryz.sizeOf4
  v4:=Tryz.zeroValue4
  t22:=Tryz.underlying3
  a22:=Tryz.isAgg3
  z22:=Tryz.sizeOf3
  v22:=Tryz.zeroValue3
section
attribute [local go_sem] Oper.semAt_some
set_option maxHeartbeats 4000000 in
theorem EB (x y:Int) (b cap:Nat) (W:World) (h0:W.cell? ⟨b,0,none⟩=some (.int .i64 x)) (h1:W.cell? ⟨b,1,none⟩=some (.int .i64 y)) (r:Int) (hr:(x≠0→r=x)∧(x=0→r=y)) :
    Calls Tryz.prog 168 #[.slice (some ⟨b,0,none⟩) 2 cap] W fun e w'=>e=.returned (.int .i64 r)∧w'=W:=by
  go_enter Tryz.func168,Tryz.ntmps168
  go_wp2
  refine wp_loop_rounds 3 ?_
  rw[rounds_succ]
  go_wp2
  · rename_i h
    go_ret
    exact ⟨by rw[hr.1 (by simpa using h)]; rfl,rfl⟩
  · rename_i h
    have hx:x=0:=by simpa using h
    rw[rounds_succ]
    go_wp2
    · rename_i h
      go_ret
      exact ⟨by rw[hr.2 hx]; rfl,rfl⟩
    · rename_i h
      rw[rounds_succ]
      go_wp2
      go_ret
      exact ⟨by rw[hr.2 hx,show y=0 by simpa using h]; rfl,rfl⟩
structure ND (p:Prop):Prop where
  out:p
set_option maxHeartbeats 4000000 in
theorem EE (x1 x2 y1 y2:Int) (W:World) (r:Int) (hr:(Lib.compareInt x1 y1≠0→r=Lib.compareInt x1 y1)∧(Lib.compareInt x1 y1=0→r=Lib.compareInt x2 y2)) :
    Calls Tryz.prog 113 #[.agg #[.int .i64 x1,.int .i64 x2],.agg #[.int .i64 y1,.int .i64 y2]] W fun e w'=>e=.returned (.int .i64 r)∧∃ q os',w'=grow (W.drewN q) os':=by
  have hcon1:=fun W'=>AnyG.cmp_Compare_int Ns x1 y1 W'
  change ∀ W',Calls Tryz.prog 126 _ _ _ at hcon1
  have hcon2:=fun W'=>AnyG.cmp_Compare_int Ns x2 y2 W'
  change ∀ W',Calls Tryz.prog 126 _ _ _ at hcon2
  generalize Lib.compareInt x1 y1=c1 at *
  generalize Lib.compareInt x2 y2=c2 at *
  go_enter Tryz.func113,Tryz.ntmps113
  go_wp2_with (first | (go_at_call 126; refine (hcon1 _).mono ?_; rintro e w' ⟨rfl,rfl⟩) | (go_at_call 126; refine (hcon2 _).mono ?_; rintro e w' ⟨rfl,rfl⟩))
  obtain ⟨b1,hb1⟩:∃ b1,b1=W.heap.size:=⟨_,rfl⟩
  obtain ⟨b2,hb2⟩:∃ b2,b2=W.heap.size+1:=⟨_,rfl⟩
  rw[← hb2,← hb1]
  generalize hW1:(W.alloc (Obj.cells #[Value.int IntKind.i64 x1,Value.int IntKind.i64 x2] 33)).alloc (Obj.cells #[Value.int IntKind.i64 y1,Value.int IntKind.i64 y2] 33)=W1
  have hh1:W1.heap[b1]?=some (.cells #[Value.int IntKind.i64 x1,Value.int IntKind.i64 x2] 33 (0,0)):=by
    rw[← hW1,hb1]; exact (Below.heap_alloc _ _ _ (by simp)).trans (World.alloc_heap_new W _)
  have hh2:W1.heap[b2]?=some (.cells #[Value.int IntKind.i64 y1,Value.int IntKind.i64 y2] 33 (0,0)):=by
    rw[← hW1,hb2]
    have:=World.alloc_heap_new (W.alloc (Obj.cells #[Value.int IntKind.i64 x1,Value.int IntKind.i64 x2] 33)) (Obj.cells #[Value.int IntKind.i64 y1,Value.int IntKind.i64 y2] 33)
    rwa [World.size_alloc] at this
  have k0:W1.cell? ⟨b1,0,none⟩=some (.int .i64 x1):=by unfold World.cell?; rw[hh1]; rfl
  have k1:W1.cell? ⟨b1,1,none⟩=some (.int .i64 x2):=by unfold World.cell?; rw[hh1]; rfl
  have k2:W1.cell? ⟨b2,0,none⟩=some (.int .i64 y1):=by unfold World.cell?; rw[hh2]; rfl
  have k3:W1.cell? ⟨b2,1,none⟩=some (.int .i64 y2):=by unfold World.cell?; rw[hh2]; rfl
  clear hh1 hh2
  refine wp_region_still_tail 10 (by kernel_rfl) (by kernel_rfl) ?_
  change wpStill _ _ W1.drew (fun a'=>wpList _ _ _ _ a' W1.drew) _ _
  generalize hW2:W1.drew=W2
  replace k0:W2.cell? ⟨b1,0,none⟩=some (.int .i64 x1):=by rw[← hW2]; exact k0
  replace k1:W2.cell? ⟨b1,1,none⟩=some (.int .i64 x2):=by rw[← hW2]; exact k1
  replace k2:W2.cell? ⟨b2,0,none⟩=some (.int .i64 y1):=by rw[← hW2]; exact k2
  replace k3:W2.cell? ⟨b2,1,none⟩=some (.int .i64 y2):=by rw[← hW2]; exact k3
  have hgr:ND (W2=grow (W.drewN 1) #[Obj.cells #[Value.int IntKind.i64 x1,Value.int IntKind.i64 x2] 33,Obj.cells #[Value.int IntKind.i64 y1,Value.int IntKind.i64 y2] 33]):=by
    refine ⟨?_⟩
    rw[← hW2,← hW1,alloc_eq_grow,alloc_eq_grow,grow_grow]; rfl
  clear hW1 hW2 hb1 hb2
  simp only[List.take_succ_cons,List.take_zero,List.drop_succ_cons,List.drop_zero]
  iterate 4 still_step
  still_call (hcon1 _)
  iterate 4 still_step
  still_call (hcon2 _)
  refine wpStill_nil ?_
  go_wp2_with (go_at_call 168; refine (EB c1 c2 _ _ _ ?_ ?_ r hr).mono ?_)
  · unfold World.cell?; rw[World.alloc_heap_new]; rfl
  · unfold World.cell?; rw[World.alloc_heap_new]; rfl
  · rintro e w' ⟨rfl,rfl⟩
    go_wp2
    go_ret
    refine ⟨rfl,1,#[Obj.cells #[Value.int IntKind.i64 x1,Value.int IntKind.i64 x2] 33,Obj.cells #[Value.int IntKind.i64 y1,Value.int IntKind.i64 y2] 33,Obj.cells #[Value.int IntKind.i64 c1,Value.int IntKind.i64 c2] 3],?_⟩
    rw[hgr.out,alloc_eq_grow,grow_grow]; rfl
end
theorem DV {Z:Nat→Prop} {μ:Mu} {hp:Array Obj} {id off len esz:Nat} {x:Value} (h:ay Z μ hp (.sl id off len esz) x) :
    (len=0∧∃ a,x=.slice a 0 0)∨∃ b o0 cap,∃ c:Array Value,∃ e f,x=.slice (some ⟨b,o0+off * esz,none⟩) len cap∧μ id=some (b,o0,esz)∧len≤cap∧hp[b]?=some (.cells c e f)∧o0+(off+cap) * esz≤c.size:=by
  cases h with
  | lS _ _ _ a=>exact .inl ⟨rfl,a,rfl⟩
  | sl _ _ _ _ b o0 cap c e f h1 h2 h3 h4=>exact .inr ⟨b,o0,cap,c,e,f,rfl,h1,h2,h3,h4⟩
theorem ML {Z:Nat→Prop} {μ:Mu} {hp:Array Obj} {f:FuncId} {x:Value} (h:ay Z μ hp (.fn f [] []) x):x=.func (.func f) #[] #[]:=by
  cases h with
  | fn _ _ _ aas bs h1 h2 _ _ =>
    rw[Array.eq_empty_of_size_eq_zero h1.symm,Array.eq_empty_of_size_eq_zero h2.symm]
theorem zC (w:World) (b o0 m:Nat) (d:Array aI) (os:Array Obj) {j:Nat} (hj:j < w.heap.size):(sortWorldK gh 2 w b o0 m d os).heap[j]?=if b=j then (w.heap[j]?).map (onCells (putCells id o0 (flatK gh 2 d))) else w.heap[j]?:=by
  unfold sortWorldK grow putRowK putRow mapBlock
  simp only[Sort.ahead]
  rw[Array.getElem?_append_left (by simpa using hj),Array.getElem?_modify]
set_option maxHeartbeats 4000000 in
theorem K8 (l:List aI) (hl:l.length < 1152921504606846976) (u:V) (H:View) (ho:aO H u 2 (aL l)):aB Tryz.prog 112 [u,.fn 113 [] []] H fun r H'=>r=.bg []∧(∀ id,owner u≠some id→H' id=H id)∧aO H' u 2 (aL (dt l)):=by
  refine ⟨by kernel_rfl,?_⟩
  rintro h rfl
  have eg:∀ args w,(callFunc 113 args).run Tryz.prog w=.ok (.enter 113 args) w:=enters_of Tryz.func113 (by kernel_rfl) rfl
  by_cases hnil:l=[]
  · subst hnil
    refine ⟨.bg [],h,⟨Nat.le_refl _,fun Z μ F w xs hrel hr hfree=>?_⟩,.refl _,rfl,fun _ _=>rfl,by simpa [dt] using ho⟩
    obtain ⟨hlen,hv⟩:=hrel
    obtain ⟨x,y,rfl⟩:∃ x y,xs=[x,y]:=by
      match xs,hlen with
      | [x,y],_=>exact ⟨x,y,rfl⟩
    have h0:ay Z μ w.heap u x:=hv 0 (by simp)
    obtain ⟨p,cap,rfl⟩:∃ p cap,x=.slice p 0 cap:=by
      rcases ho with ⟨_,k,rfl⟩ | ⟨n,rfl,_⟩
      · cases h0 with | emp _ a _ _=>exact ⟨a,0,rfl⟩
      · rcases DV h0 with ⟨_,a,e⟩ | ⟨b,o0,cap,c,e,f,e2,_⟩
        · exact ⟨a,0,e⟩
        · exact ⟨_,cap,e2⟩
    refine (AnyF.slices_SortFunc_none LQ p cap y w).mono ?_
    rintro e w' ⟨rfl,rfl⟩
    exact ⟨.tuple #[],Z,μ,rfl,.bg [] #[] rfl (fun i hi=>by simp at hi),hr,Ext.refl _ _ _ _,fun _ _=>rfl⟩
  have hpos:0 < l.length:=List.length_pos_iff.2 hnil
  obtain ⟨n,rfl,hn⟩:=ho.sl (by rw[bj]; exact hpos)
  rw[bj]
  have hlt:n < h.length:=fP (by rw[hn]; simp)
  refine ⟨.bg [],h.set n (.arr 2 (aL (dt l))),⟨by simp,fun Z μ F w xs hrel hr hfree=>?_⟩,fun k hk hd=>?_,rfl,fun id hid=>?_,?_⟩
  rotate_left
  · rw[hQ hlt]
    simp only[View.set]
    rw[if_neg (fun e=>by rw[e,hn] at hd; simp at hd)]; exact hd
  · rw[hQ hlt]
    simp only[View.set]
    rw[if_neg (fun e=>hid (by rw[e]; rfl))]
  · refine .inr ⟨n,by rw[bj,gx],?_⟩
    rw[hQ hlt]; simp[View.set]
  obtain ⟨hlen,hv⟩:=hrel
  obtain ⟨x,y,rfl⟩:∃ x y,xs=[x,y]:=by
    match xs,hlen with
    | [x,y],_=>exact ⟨x,y,rfl⟩
  have h0:ay Z μ w.heap (.sl n 0 l.length 2) x:=hv 0 (by simp)
  have h1:ay Z μ w.heap (.fn 113 [] []) y:=hv 1 (by simp)
  have hy:=ML h1
  subst hy
  rcases DV h0 with ⟨e,_⟩ | ⟨b,o0,cap,c0,e0,f0,rfl,hμ,hcap,_,_⟩
  · omega
  rw[Nat.zero_mul,Nat.add_zero]
  have hcat:cat h F n=.arr 2 (aL l):=by simp only[cat]; rw[if_pos hlt,hn]
  have hob:=hr.obj n
  rw[hcat] at hob
  obtain ⟨_,⟨c,ty,fz,hc,hfz,hsz⟩,hq,hcell⟩:=hob b o0 2 hμ
  rw[bj] at hsz hq hcell
  have hbl:b < w.heap.size:=hr.lt _ _ _ _ hμ
  have hgl:∀ (m:List aI) (i:Nat) (hi:i < m.length),(aL m).getD i []=aQ m[i]:=fun m i hi=>by simp[aL,List.getD_eq_getElem?_getD,hi]
  have hH:HoldsK gh 2 w b o0 l.toArray:=by
    intro j hj
    rw[size_flatK] at hj
    have hj':j < l.length * 2:=by simpa using hj
    have hi:j / 2 < l.length:=by omega
    obtain ⟨x,hx,hxv⟩:=hcell (j / 2) (j % 2) hi (by omega)
    rw[show o0+j / 2 * 2+j % 2=o0+j by omega] at hx
    have hxe:x=(flatK gh 2 l.toArray)[j]!:=by
      rw[get_flatK _ _ _ _ hj]
      rw[hgl l _ hi] at hxv
      have e1:l.toArray[j / 2]! = l[j / 2]:=by simp[hi]
      rw[e1]
      rcases Nat.lt_or_ge (j % 2) 1 with h2 | h2
      · rw[show j % 2=0 by omega] at hxv ⊢
        simp only[aQ,List.getD_cons_zero] at hxv
        cases hxv; rfl
      · rw[show j % 2=1 by omega] at hxv ⊢
        simp only[aQ,List.getD_cons_succ,List.getD_cons_zero] at hxv
        cases hxv; rfl
    refine ⟨by rw[kF,hx,hxe]; rfl,?_⟩
    simp only[World.frozen?,hc]
    rcases hfz with e | e
    · simp only[e,Bool.and_eq_false_iff,decide_eq_false_iff_not]; omega
    · simp only[Bool.and_eq_false_iff,decide_eq_false_iff_not]; omega
  have hT:∀ x y,(ltOf ld) x y=false→(ltOf ld) y x=false→x=y:=fun x y h1 h2=>by
    rw[pr] at h1 h2
    exact Decidable.byContradiction fun hne=>by rw[sy h1 hne] at h2; simp at h2
  have hrun:=AnyQ.slices_SortFunc_total LQ 2 Tryz.isAgg33 Tryz.sizeOf33 gh (fun _=>rfl) (fun x v hv=>by simp[gh] at hv; rcases hv with rfl | rfl <;> rfl) ld GO 113 #[] b o0 cap l.toArray w eg (fun _ _ _ _ x y=>EE x.aF x.dot y.aF y.dot _ _ (Kj x y)) hH hbl (by simp; omega) hT
  rw[Iv] at hrun
  refine Calls.mono (show Calls Tryz.prog 112 _ w _ from hrun) ?_
  rintro e w' ⟨rfl,m,os,rfl⟩
  have hsl:=gx l
  have hheap:=fun {j:Nat} (hj:j < w.heap.size)=>zC w b o0 m (dt l).toArray os hj
  have hafter:HoldsK gh 2 (sortWorldK gh 2 w b o0 m (dt l).toArray os) b o0 (dt l).toArray:=SWK.holds ⟨m,os,rfl⟩ hbl hH (by simp[hsl])
  have hsize:w.heap.size≤(sortWorldK gh 2 w b o0 m (dt l).toArray os).heap.size:=SWK.le (dk:=(dt l).toArray) ⟨m,os,rfl⟩
  have hsame:dx w (sortWorldK gh 2 w b o0 m (dt l).toArray os):=⟨rfl,rfl,rfl,hsize⟩
  generalize sortWorldK gh 2 w b o0 m (dt l).toArray os=w' at *
  have hb':w'.heap[b]?=some (.cells (putCells id o0 (flatK gh 2 (dt l).toArray) c) ty fz):=by
    rw[hheap hbl,if_pos rfl,hc]; rfl
  have heff:j8 Z μ μ w.heap w'.heap h.length (.eF n (.arr 2 (aL (dt l)))):=by
    refine ⟨b,o0,2,hμ,rfl,fun j hj hne=>by rw[hheap hj,if_neg (fun e=>hne e.symm)],fun j cc ee ff hjj=>?_,?_⟩
    · have hjl:j < w.heap.size:=by
        rcases Nat.lt_or_ge j w.heap.size with q | q
        · exact q
        · simp[Array.getElem?_eq_none q] at hjj
      by_cases e:b=j
      · subst e
        rw[hc] at hjj
        simp only[Option.some.injEq,Obj.cells.injEq] at hjj
        obtain ⟨rfl,rfl,rfl⟩:=hjj
        exact ⟨_,_,hb',by simp[putCells]⟩
      · exact ⟨cc,ff,by rw[hheap hjl,if_neg e]; exact hjj,rfl⟩
    · intro b1 o1 s1 h1
      rw[hμ] at h1
      simp only[Option.some.injEq,Prod.mk.injEq] at h1
      obtain ⟨rfl,rfl,rfl⟩:=h1
      refine ⟨rfl,⟨_,ty,fz,hb',?_,?_⟩,fun i hi=>?_,fun i j hi hj=>?_⟩
      · simpa [putCells] using hfz
      · rw[bj,hsl]; simpa [putCells] using hsz
      · rw[bj] at hi; rw[hgl _ i hi]; rfl
      · rw[bj] at hi
        have:=(hafter.cell (i:=i) (c:=j) (by simpa using hi) hj).1
        rw[kF] at this
        refine ⟨_,this,?_⟩
        rw[hgl _ i hi]
        have e1:(dt l).toArray[i]! = (dt l)[i]:=by simp[hi]
        rw[e1]
        match j,hj with
        | 0,_=>exact .val _ rfl
        | 1,_=>exact .val _ rfl
  have hne:cat h F n≠.dead:=by rw[hcat]; simp
  have hrel':=hr.eff (n:=h.length) (eff:=.eF n (.arr 2 (aL (dt l)))) (by trivial) hsize heff (fun id o e=>by cases e; exact hne) (fun id o e=>by cases e)
  obtain ⟨hext,hmu⟩:=heff.ext hsame (by trivial) hr.bU hr.fo
  refine ⟨.tuple #[],Z,μ,rfl,.bg [] #[] rfl (fun i hi=>by simp at hi),?_,hext,fun _ _=>rfl⟩
  have ev:cat (h.set n (.arr 2 (aL (dt l)))) F=bb.view (cat h F) h.length (.eF n (.arr 2 (aL (dt l)))):=by
    funext k
    simp only[cat,bb.view,View.set,List.length_set]
    by_cases hk:k < h.length
    · rw[if_pos hk,if_pos hk,hQ hlt]; rfl
    · rw[if_neg hk,if_neg hk,if_neg (by omega)]
  rw[ev]
  exact hrel'
abbrev dK:aI:=⟨0,0⟩
def dX (l:List aI):Nat→List aI
  | 0=>[]
  | n+1=>if n=0∨l.getD n dK≠l.getD (n - 1) dK then dX l n ++ [l.getD n dK] else dX l n
theorem vn (l:List aI):∀ n,n≤l.length→(∀ j,0 < j→j < n→l.getD j dK≠l.getD (j - 1) dK)→dX l n=l.take n
  | 0,_,_=>by simp[dX]
  | n+1,hn,h=>by
    have ih:=vn l n (by omega) fun j h1 h2=>h j h1 (by omega)
    have hx:l[n]?=some (l.getD n dK):=getD_some (by omega)
    rw[dX,if_pos,ih,List.take_add_one,hx]
    · rfl
    · by_cases e:n=0
      · exact .inl e
      · exact .inr (h n (by omega) (by omega))
def yn (l:List aI):List aI:=dX (dt l) l.length
theorem sP {l:List aI} (hp:l.Pairwise fun x y=>bT y x=false):∀ n,n≤l.length→cm (dX l n)∧(∀ x,x∈dX l n↔∃ i,i < n∧l.getD i dK=x)
  | 0,_=>by simp[dX,cm]
  | n+1,hn=>by
    obtain ⟨h1,h2⟩:=sP hp n (by omega)
    have hge:∀ i j,i < j→j < l.length→bT (l.getD j dK) (l.getD i dK)=false:=fun i j hij hj=>by
      have:=List.pairwise_iff_getElem.1 hp i j (by omega) hj hij
      simpa [List.getD_eq_getElem?_getD,List.getElem?_eq_getElem hj,List.getElem?_eq_getElem (show i < l.length by omega)] using this
    rw[dX]
    split
    · rename_i hc
      refine ⟨?_,fun x=>?_⟩
      · rw[cm,List.pairwise_append]
        refine ⟨h1,by simp,fun a ha b hb=>?_⟩
        rw[List.mem_singleton] at hb; subst hb
        obtain ⟨i,hi,rfl⟩:=(h2 a).1 ha
        have hc:l.getD n dK≠l.getD (n - 1) dK:=hc.resolve_left (by omega)
        have k1:=sy (hge (n - 1) n (by omega) (by omega)) hc
        rcases Nat.lt_or_ge i (n - 1) with h | h
        · have k2:=hge i (n - 1) h (by omega)
          have k3:¬ bT (l.getD (n - 1) dK) (l.getD i dK)=true:=by rw[k2]; simp
          rw[eY] at k1 k3 ⊢
          omega
        · have:i=n - 1:=by omega
          subst this; exact k1
      · rw[List.mem_append,h2,List.mem_singleton]
        constructor
        · rintro (⟨i,hi,e⟩ | e)
          · exact ⟨i,by omega,e⟩
          · exact ⟨n,by omega,e.symm⟩
        · rintro ⟨i,hi,e⟩
          rcases Nat.lt_or_ge i n with h | h
          · exact .inl ⟨i,h,e⟩
          · have:i=n:=by omega
            subst this; exact .inr e.symm
    · rename_i hc
      simp only[not_or,Decidable.not_not] at hc
      refine ⟨h1,fun x=>?_⟩
      rw[h2]
      constructor
      · rintro ⟨i,hi,e⟩; exact ⟨i,by omega,e⟩
      · rintro ⟨i,hi,e⟩
        rcases Nat.lt_or_ge i n with h | h
        · exact ⟨i,h,e⟩
        · have:i=n:=by omega
          subst this
          exact ⟨i - 1,by omega,by rw[← hc.2]; exact e⟩
theorem Gl (l:List aI):cm (yn l):=(sP (wC l) _ (by rw[gx]; exact Nat.le_refl _)).1
theorem qv {l:List aI} {x:aI} : x∈yn l↔x∈l:=by
  rw[yn,(sP (wC l) _ (by rw[gx]; exact Nat.le_refl _)).2,← (wk l).mem_iff,List.mem_iff_getElem]
  constructor
  · rintro ⟨i,hi,e⟩
    have hi':i < (dt l).length:=by rw[gx]; exact hi
    exact ⟨i,hi',by rw[List.getD_eq_getElem?_getD,List.getElem?_eq_getElem hi'] at e; exact e⟩
  · rintro ⟨i,hi,e⟩
    exact ⟨i,by rw[gx] at hi; exact hi,by rw[List.getD_eq_getElem?_getD,List.getElem?_eq_getElem hi]; exact e⟩
def Lz (g:ao) (s:Int):Int:=if s < 0 then (g.aA.length:Int) - 1 - s else s
theorem D6 (g:ao) (k:Nat):Lz g (cO g k)=k:=by
  unfold Lz cO; split <;> split <;> omega
def sL (l:List aI):List UInt8:=l.flatMap fun x=>[UInt8.ofNat (x.aF+1).toNat,UInt8.ofNat x.dot.toNat]
theorem JN {a b:Nat} (ha:a < 256) (hb:b < 256) (h:UInt8.ofNat a=UInt8.ofNat b):a=b:=by
  have:=congrArg UInt8.toNat h
  simp at this
  omega
theorem D1 {g:ao} (hf:g.fA):∀ {a b:List aI},(∀ x∈a,cw g x)→(∀ x∈b,cw g x)→sL a=sL b→a=b
  | [],[],_,_,_=>rfl
  | [],y :: b,_,_,h=>by simp[sL] at h
  | x :: a,[],_,_,h=>by simp[sL] at h
  | x :: a,y :: b,ha,hb,h=>by
    simp only[sL,List.flatMap_cons,List.cons_append,List.nil_append,List.cons.injEq] at h
    obtain ⟨h1,h2,h3⟩:=h
    have hx:=ha x (by simp)
    have hy:=hb y (by simp)
    have hr:=hf.rules
    have e1:=fK hf hx.1
    have e2:=fK hf hy.1
    have:=hx.1; have:=hx.2; have:=hy.1; have:=hy.2
    have k1:=JN (by omega) (by omega) h1
    have k2:=JN (by omega) (by omega) h2
    have ih:=D1 hf (fun z hz=>ha z (by simp[hz])) (fun z hz=>hb z (by simp[hz])) h3
    obtain ⟨xr,xd⟩:=x
    obtain ⟨yr,yd⟩:=y
    simp only at *
    have:xr=yr:=by omega
    have:xd=yd:=by omega
    subst_vars; rfl
end Gv
