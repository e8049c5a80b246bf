/-
  Part 14 of the proof: what the machine does and what the functions answer.
  Conditions: those that each lemma names.
-/
import Derived.Test.YtkkdjpnkhhlnpaaGreatSGzYM
set_option linter.unusedSimpArgs false
set_option linter.unusedVariables false
set_option maxRecDepth 100000
namespace Gv
open Go Go.Proofs
abbrev gw (s:BV):V:=.val (.int .u32 s.toNat)
abbrev dC (l:List BV):List (List V):=l.map fun x=>[gw x]
abbrev Ax (l:List BV):V:=.aX (dC l)
theorem ME (l:List BV):Tree (Ax l):=cL _ _ fun x _ v hv=>by simp at hv; subst hv; exact .val _
theorem Pv {x:Int} (h1:0≤x) (h2:x < 4294967296):IntKind.wrap .u32 x=x:=by
  unfold IntKind.wrap
  have e1:(2:Int) ^ IntKind.u32.bits=4294967296:=by rfl
  have e3:IntKind.u32.signed=false:=by rfl
  simp only[e1,e3,Bool.false_and]
  simp
  omega
theorem J3 (s:BV):IntKind.wrap .u32 (s.toNat:Int)=s.toNat:=Pv (by omega) (by have:=s.isLt; omega)
theorem wb (s:BV):BitVec.ofInt IntKind.u32.bits (s.toNat:Int)=s:=by
  show BitVec.ofInt 32 (s.toNat:Int)=s
  rw[BitVec.ofInt_natCast,BitVec.ofNat_toNat,BitVec.setWidth_eq]
theorem FR (s t:BV):IntKind.wrap .u32 ((BitVec.ofInt IntKind.u32.bits (s.toNat:Int) ||| BitVec.ofInt IntKind.u32.bits (t.toNat:Int)).toNat:Int)=((s ||| t).toNat:Int):=by
  rw[wb,wb]; exact J3 (s ||| t)
theorem RM (s t:BV):IntKind.wrap .u32 ((BitVec.ofInt IntKind.u32.bits (s.toNat:Int) &&& BitVec.ofInt IntKind.u32.bits (t.toNat:Int)).toNat:Int)=((s &&& t).toNat:Int):=by
  rw[wb,wb]; exact J3 (s &&& t)
theorem OK (s t:BV):IntKind.wrap .u32 ((BitVec.ofInt IntKind.u32.bits (s.toNat:Int) &&& ~~~(BitVec.ofInt IntKind.u32.bits (t.toNat:Int))).toNat:Int)=((s &&& ~~~t).toNat:Int):=by
  rw[wb,wb]; exact J3 (s &&& ~~~t)
theorem toNat_zero {s:BV} : ((s.toNat:Nat):Int)=0↔s=0:=by
  constructor
  · intro h; exact BitVec.eq_of_toNat_eq (by simpa using h)
  · rintro rfl; rfl
def oH:SC :=
  .seq (.seq (ak [aa 11 4,aa 12 0,aR 13 .lss 11 12]) <|
  .cond (.tmp 13) (.skip) (.exit 0)) <|
  .seq (.block 1 (ak [aa 16 3,((some 17),.op (.arith .mul (.tmp 16) (.val (.val (.int .u32 2))))),aa 3 17])) <|
  ak [aa 14 4,az 15 .add 14 1,aa 4 15]
def rf:SF:=⟨.seq (ak [((some 2),.op (.bo (.val (.val (.int .u32 0)))))]) <|
  .seq (.seq (.region false [⟨none,[aa 5 0,az 6 .lss 5 0,aa 7 6]⟩,⟨(some (7,false)),[aa 8 0,az 9 .gtr 8 31]⟩,⟨none,[bB 10 7 9]⟩]) <|
  .cond (.tmp 10) (.seq (ak [((some 2),.op (.bo (.val (.val (.int .u32 0)))))]) <|
  .ret) (.skip)) <|
  .seq (ak [((some 3),.op (.bo (.val (.val (.int .u32 1)))))]) <|
  .seq (.seq (ak [aI 4 0]) <|
  .block 0 (.loop oH)) <|
  .seq (ak [aa 18 3,aa 2 18]) <|
  .ret,
  [.tmp 2],19⟩
theorem xt:aY Tryz.prog 95 []=some rf:=by kernel_rfl
def ri:SF:=⟨.seq (ak [aZ 4 false]) <|
  .seq (ak [aa 5 0,aa 6 1,aQ 7 95 [6],aR 8 .and 5 7,((some 9),.op (.arith .neq (.tmp 8) (.val (.val (.int .u32 0))))),aa 4 9]) <|
  .ret,
  [.tmp 4],10⟩
theorem xp:aY Tryz.prog 97 []=some ri:=by kernel_rfl
def qK:SC :=
  .seq (.seq (ak [aa 11 10,aa 12 0,aM 13 12,aR 14 .lss 11 13]) <|
  .cond (.tmp 14) (.skip) (.exit 0)) <|
  .seq (.block 1 (.seq (.seq (ak [aa 17 0,aa 18 10,aS 19 1 17 18,ao 20 19,az 21 .geq 20 0]) <|
  .cond (.tmp 21) (.seq (ak [aa 22 9,aa 23 0,aa 24 10,aS 25 1 23 24,ao 26 25,aQ 27 95 [26],aR 28 .or 22 27,aa 8 28]) <|
  .ret) (.skip)) <|
  .seq (ak [aa 29 9,aa 30 2,aa 31 0,aa 32 10,aS 33 1 31 32,ao 34 33,((some 35),.op (.arith .sub (.val (.val (.int .i64 (-1)))) (.tmp 34))),aS 36 1 30 35,ao 37 36,aR 38 .or 29 37,aa 9 38]) <|
  .seq (ak [aa 39 1,aa 40 0,aa 41 10,aS 42 1 40 41,ao 43 42,((some 44),.op (.arith .sub (.val (.val (.int .i64 (-1)))) (.tmp 43))),aS 45 1 39 44,ao 46 45,bX 47 46]) <|
  .cond (.tmp 47) (.seq (ak [aa 48 9,aa 8 48]) <|
  .ret) (.skip))) <|
  ak [aa 15 10,az 16 .add 15 1,aa 10 16]
def sw:SF:=⟨.seq (ak [((some 8),.op (.bo (.val (.val (.int .u32 0)))))]) <|
  .seq (ak [((some 9),.op (.bo (.val (.val (.int .u32 0)))))]) <|
  .seq (.seq (ak [aI 10 0]) <|
  .block 0 (.loop qK)) <|
  .seq (ak [aa 49 9,aa 50 3,aR 51 .or 49 50,aa 8 51]) <|
  .ret,
  [.tmp 8],52⟩
theorem yb:aY Tryz.prog 195 []=some sw:=by kernel_rfl
def mK:SC :=
  .seq (.seq (ak [aa 24 6,au 25 2 1,ao 26 25,aM 27 26,aR 28 .lss 24 27]) <|
  .cond (.tmp 28) (.skip) (.exit 2)) <|
  .seq (.block 3 (.seq (ak [au 31 2 1,ao 32 31,aa 33 6,aS 34 3 32 33,aO 35 3 34,((some 7),.op (.alloc [(.val (.int .i64 0)),(.emp 1),(.val (.int .i64 0))])),(none,.op (.store 3 (.tmp 7) (.tmp 35)))]) <|
  .region true [⟨none,[aa 36 4,au 37 0 7,ao 38 37,aa 39 4,au 40 0 7,ao 41 40,aS 42 1 39 41,ao 43 42,au 44 1 7,ao 45 44,aa 46 3,aa 47 4,cZ 48 195 [(.tmp 45),(.tmp 46),(.tmp 47),(.val (.val (.int .u32 0)))],aR 49 .or 43 48,aS 50 1 36 38,(none,.op (.store 1 (.tmp 50) (.tmp 49)))]⟩])) <|
  ak [aa 29 6,az 30 .add 29 1,aa 6 30]
def mr:SC :=
  .seq (.seq (ak [aa 17 5,au 18 1 1,ao 19 18,aM 20 19,aR 21 .lss 17 20]) <|
  .cond (.tmp 21) (.skip) (.exit 0)) <|
  .seq (.block 1 (.seq (ak [aI 6 0]) <|
  .block 2 (.loop mK))) <|
  ak [aa 22 5,az 23 .add 22 1,aa 5 23]
def oG:SF:=⟨.seq (ak [bW 1 0,((some 2),.op (.bo (.val (.emp 1))))]) <|
  .seq (.seq (ak [aO 8 4 1,aQ 9 66 [8],bX 10 9]) <|
  .cond (.tmp 10) (.seq (ak [((some 2),.op (.bo (.val (.emp 1))))]) <|
  .ret) (.skip)) <|
  .seq (ak [aO 11 4 1,aQ 12 196 [11],aa 3 12]) <|
  .seq (ak [au 13 1 1,ao 14 13,aM 15 14,((some 16),.op (.make 1 4 [(.val (.int .u32 0))] (.tmp 15) (.tmp 15))),aa 4 16]) <|
  .seq (.seq (ak [aI 5 0]) <|
  .block 0 (.loop mr)) <|
  .seq (ak [aa 51 4,aa 2 51]) <|
  .ret,
  [.tmp 2],52⟩
theorem uF:aY Tryz.prog 197 [1]=some oG:=by kernel_rfl
theorem Of {n:Int} (h:0≤n∧n≤31):(ib n).toNat=2 ^ n.toNat:=by
  rw[ib,if_pos h,BitVec.toNat_twoPow]
  exact Nat.mod_eq_of_lt (Nat.pow_lt_pow_right (by omega) (by omega))
theorem As (n:Int):aD Tryz.prog 95 [gi n] (gw (ib n)):=by
  refine aD.val (by intro v hv; simp at hv; subst hv; exact .val _) fun H=>?_
  refine aC.of mixed xt ?_
  simp (disch:=omega) only [↓wr,↓reduceIte,wq,ah,ag,Nat.reduceLeDiff,reduceCtorEq,rf]
  have bad:¬ (0≤n∧n≤31)→ib n=0:=fun h=>by rw[ib,if_neg h]
  refine av.dec (fun h1=>?_) (fun h1=>?_)
  · simp (disch:=omega) only [↓wr,↓reduceIte,wq,Nat.reduceEqDiff,reduceCtorEq]
    rw[bad (by omega)]; rfl
  simp (disch:=omega) only [↓wr,↓reduceIte,wq,ag,Nat.reduceEqDiff,reduceCtorEq]
  refine av.dec (fun h2=>?_) (fun h2=>?_)
  · simp (disch:=omega) only [↓wr,↓reduceIte,wq,reduceCtorEq]
    rw[bad (by omega)]; rfl
  simp (disch:=omega) only [↓wr,wq]
  refine ba.up n.toNat (fun i T H'=>T 0=gi n∧T 3=.val (.int .u32 ((2 ^ i:Nat):Int))∧T 4=gi i) ⟨rfl,rfl,rfl⟩ ?_
  rintro i k T H' hk ⟨t0,t3,t4⟩
  simp (disch:=omega) only [↓wr,↓reduceIte,wq,ag,Nat.reduceEqDiff,reduceCtorEq,oH,t0,t4]
  refine av.dec (fun hc=>?_) (fun hc=>?_)
  · have h31:2 ^ (i+1)≤2 ^ 31:=Nat.pow_le_pow_right (by omega) (by omega)
    have e:2 ^ (i+1)=2 ^ i * 2:=Nat.pow_succ _ _
    have hw:IntKind.wrap .u32 (((2 ^ i:Nat):Int) * 2)=((2 ^ (i+1):Nat):Int):=by
      rw[e,Int.natCast_mul]
      exact Pv (by omega) (by omega)
    simp (disch:=omega) only [↓wr,↓reduceIte,wq,ag,Nat.reduceEqDiff,reduceCtorEq,t3,t4,hw]
    exact aV hk (by omega) ⟨t0,rfl,rfl⟩
  · simp (disch:=omega) only [↓wr,↓reduceIte,wq,Nat.reduceEqDiff,reduceCtorEq,t3]
    rw[Of (by omega),show i=n.toNat by omega]
theorem Ph (s:BV) (n:Int):aD Tryz.prog 97 [gw s,gi n] (gb (hasB s n)):=by
  refine aD.val (by
    intro v hv; simp at hv
    rcases hv with rfl | rfl <;> exact .val _) fun H=>?_
  refine aC.of mixed xp ?_
  simp (disch:=omega) only [↓wr,↓reduceIte,wq,ah,Nat.reduceEqDiff,Nat.reduceAdd,Nat.reduceLeDiff,reduceCtorEq,ri]
  refine aE.pure (As n) (by kernel_rfl) ?_
  simp (disch:=omega) only [↓wr,↓reduceIte,wq,ag,Nat.reduceEqDiff,reduceCtorEq,RM]
  congr 2
  unfold hasB
  rw[Bool.eq_iff_iff]
  simp only[bne_iff_ne,ne_eq,decide_eq_true_eq,toNat_zero]
theorem u4 {l:List BV} {i:Nat} {x:BV} (h:l[i]?=some x):(dC l).getD i []=[gw x]:=by simp[List.getD_eq_getElem?_getD,h]
set_option maxHeartbeats 4000000 in
theorem IL (syms:List Int) (null:List Bool) (first:List BV) (rest:BV) (hs:aL syms) (hn:∀ s∈syms,bJ s∧(s < 0→(-1 - s).toNat < null.length∧(-1 - s).toNat < first.length)) :
    aD Tryz.prog 195 [encI syms,dI null,Ax first,gw rest] (gw (jk null first rest syms)):=by
  unfold aL at hs
  refine aD.val (by
    intro v hv; simp at hv
    rcases hv with rfl | rfl | rfl | rfl
    · exact cF _
    · exact pM _
    · exact ME _
    · exact .val _) fun H=>?_
  refine aC.of mixed yb ?_
  simp (disch:=omega) only [↓wr,wq,ah,Nat.reduceAdd,Nat.reduceLeDiff,sw,encI,dI]
  refine ba.up syms.length (fun i T H'=>∃ s:BV,s ||| jk null first rest (syms.drop i)=jk null first rest syms∧T 0=encI syms∧T 1=dI null∧T 2=Ax first∧T 3=gw rest∧T 9=gw s∧T 10=gi i) ⟨0,by simp,rfl,rfl,rfl,rfl,rfl,rfl⟩ ?_
  rintro i k T H' hk ⟨s,he,t0,t1,t2,t3,t9,t10⟩
  simp (disch:=omega) only [↓wr,↓reduceIte,wq,ag,aj,Nat.reduceEqDiff,Int.reduceNeg,reduceCtorEq,qK,t0,t10,encI]
  refine av.dec (fun hc=>?_) (fun hc=>?_)
  · have hx:syms[i]?=some (syms[i]'(by omega)):=List.getElem?_eq_getElem (by omega)
    have hdr:syms.drop i=syms[i]'(by omega) :: syms.drop (i+1):=List.drop_eq_getElem_cons (by omega)
    have hm:=hn _ (List.getElem_mem (show i < syms.length by omega))
    generalize syms[i]'(by omega)=x at hx hdr hm
    obtain ⟨hm1,hm2⟩:=hm
    unfold bJ at hm1
    rw[hdr,jk] at he
    simp (disch:=omega) only [↓wr,↓reduceIte,wq,ag,Nat.reduceEqDiff,Nat.reduceLT,Int.reduceNeg,reduceCtorEq,t0,t10,encI,List.getElem?_map,hx]
    refine av.dec (fun h0=>?_) (fun h0=>?_)
    · rw[if_pos h0] at he
      simp (disch:=omega) only [↓wr,↓reduceIte,wq,Nat.reduceEqDiff,Nat.reduceLT,Int.reduceNeg,reduceCtorEq,t0,t9,t10,encI,List.getElem?_map,hx]
      refine aE.pure (As x) (by kernel_rfl) ?_
      simp (disch:=omega) only [↓wr,↓reduceIte,wq,ag,Nat.reduceEqDiff,Int.reduceNeg,reduceCtorEq,FR]
      rw[he]
    · rw[if_neg h0] at he
      obtain ⟨q1,q2⟩:=hm2 (by omega)
      have hb:null[(-1 - x).toNat]?=some (null.getD (-1 - x).toNat false):=getD_some q1
      have hf:first[(-1 - x).toNat]?=some (first.getD (-1 - x).toNat 0):=getD_some q2
      simp (disch:=omega) only [↓wr,↓reduceIte,wq,ag,Nat.reduceEqDiff,Nat.reduceLT,Int.reduceNeg,reduceCtorEq,t0,t1,t2,t9,t10,encI,dI,Ax,List.getElem?_map,hx,hb,hf,FR]
      refine av.split (fun hnb=>?_) (fun hnb=>?_)
      · simp (disch:=omega) only [↓wr,↓reduceIte,wq,ag,Nat.reduceEqDiff,Int.reduceNeg,reduceCtorEq,t3,t10]
        rw[if_pos hnb,← BitVec.or_assoc] at he
        exact aV hk (by omega) ⟨_,he,t0,t1,t2,t3,rfl,rfl⟩
      · simp (disch:=omega) only [↓wr,↓reduceIte,wq,ag,Nat.reduceEqDiff,Int.reduceNeg,reduceCtorEq]
        rw[if_neg (by rw[hnb]; simp)] at he
        rw[he]
  · rw[List.drop_eq_nil_of_le (by omega),jk] at he
    simp (disch:=omega) only [↓wr,↓reduceIte,wq,Nat.reduceEqDiff,reduceCtorEq,t3,t9,FR]
    rw[he]
theorem LI {h:aH} {u:V} {l:List BV} (ho:bc h.view u 1 (dC l)):bZ h u (Ax l):=bZ.KL (f:=fun x:BV=>.int .u32 x.toNat) ho
theorem Kz {H:View} {u:V} {l:List BV} (h:bc H u 1 (dC l)):eL H u (Ax l) :=
  eL.own h fun e he v hv=>by
    obtain ⟨x,_,rfl⟩:=List.mem_map.1 he
    simp at hv; subst hv; exact .val _
def Gd (g:ay):List BV:=if bS g=true then j7 g (bm g false) else []
set_option maxHeartbeats 8000000 in
theorem JU (g:ay) (hg:g.Ok):cH Tryz.prog 197 [.agg (aw g)] (Ax (Gd g)):=by
  refine cH.of (fY g) ?_
  have hr9:=iW g hg
  have hnl:=xB g hg
  refine aC.of mixed uF ?_
  simp only[aw,encS] at hr9 hnl
  simp (disch:=omega) only [↓wr,↓reduceIte,wq,ah,Nat.reduceEqDiff,Nat.reduceAdd,Nat.reduceLeDiff,oG,aw,encS]
  refine aE.pure hr9 (by kernel_rfl) ?_
  unfold Gd
  simp (disch:=omega) only [↓wr,↓reduceIte,wq]
  refine av.split (fun hr=>?_) (fun hr=>?_)
  rotate_left
  · simp (disch:=omega) only [↓wr,↓reduceIte,wq,reduceCtorEq]
    rintro h' _
    rw[if_neg (by rw[hr]; simp)]
    exact .emp _
  have hf:=cn hr
  have hN:=hf.aA; have hN1:=hf.Fe
  rw[if_pos hr]
  have hnlen:=pB hr false
  simp (disch:=omega) only [↓wr,↓reduceIte,wq,Nat.reduceEqDiff,Nat.reduceAdd,Nat.reduceLeDiff]
  refine aE.pure hnl (by kernel_rfl) ?_
  generalize bm g false=null at hnlen ⊢
  simp (disch:=omega) only [↓wr,↓reduceIte,wq,aj,Nat.reduceEqDiff,Nat.reduceAdd,Nat.reduceLT]
  refine ⟨⟨by omega,by unfold aJ; omega,by unfold aJ; omega⟩,fun hz=>absurd hz (by omega),fun _ m=>?_⟩
  have hrep:List.replicate g.aA.length [V.val (Value.int IntKind.u32 0)]=dC (List.replicate g.aA.length (0:BV)):=by simp
  rw[hrep]
  have h0l:(List.replicate g.aA.length (0:BV)).length=g.aA.length:=by simp
  unfold j7
  generalize List.replicate g.aA.length (0:BV)=fs0 at h0l ⊢
  refine ba.intro (fun k T H'=>∃ (i:Nat) (fs:List BV),i+k=g.aA.length∧fs.length=g.aA.length∧iter (zo g null) k fs=iter (zo g null) g.aA.length fs0∧T 1=.aT (aw g) 0∧T 3=dI null∧T 4=.sl m 0 g.aA.length 1∧H' m=.arr 1 (dC fs)∧T 5=gi i) g.aA.length
    ⟨0,fs0,by omega,h0l,rfl,rfl,rfl,rfl,by simp[View.set],rfl⟩ ?_
  rintro k T H' ⟨i,fs,hk,hlen,hi,t1,t3,t4,tm,t5⟩
  simp (disch:=omega) only [↓wr,↓reduceIte,wq,ag,aj,Nat.reduceEqDiff,Nat.reduceAdd,Nat.reduceLT,reduceCtorEq,mr,t1,t5,aw,encS]
  refine av.dec (fun hc=>?_) (fun hc=>?_)
  · simp (disch:=omega) only [↓wr,wq]
    refine ba.up g.rules.length (fun j T H'=>∃ fs':List BV,fs'.length=g.aA.length∧(g.rules.drop j).foldl (tE null) fs'=zo g null fs∧T 1=.aT (aw g) 0∧T 3=dI null∧T 4=.sl m 0 g.aA.length 1∧H' m=.arr 1 (dC fs')∧T 5=gi i∧T 6=gi j)
      ⟨fs,hlen,rfl,t1,t3,t4,tm,t5,rfl⟩ ?_
    clear t1 t3 t4 tm t5
    rintro j k2 T2 H2 hk2 ⟨fs',hl',hj,t1,t3,t4,tm,t5,t6⟩
    simp (disch:=omega) only [↓wr,↓reduceIte,wq,ag,aj,Nat.reduceEqDiff,Nat.reduceAdd,Nat.reduceLT,mK,t1,t6,aw]
    refine av.dec (fun hd=>?_) (fun hd=>?_)
    · have hru:=hf.rules
      have hg2:g.rules[j]?=some (g.rules[j]'(by omega)):=List.getElem?_eq_getElem (by omega)
      rw[dJ (show j < g.rules.length by omega)] at hj
      have hmem:g.rules[j]'(by omega)∈g.rules:=List.getElem_mem _
      generalize g.rules[j]'(by omega)=R at hg2 hj hmem
      simp only[List.foldl_cons] at hj
      obtain ⟨hl1,hl2⟩:=hf.left R hmem
      obtain ⟨_,_,hs1,hs2⟩:=hg.aP R hmem
      have hof:=IL R.right null fs' 0 hs1 fun s hs=>⟨hs2 s hs,fun hn=>by have:=hf.neg hmem hs hn; omega⟩
      have hfl:fs'[R.left.toNat]?=some (fs'.getD R.left.toNat 0):=getD_some (by omega)
      simp (disch:=omega) only [↓wr,↓reduceIte,wq,ab,Nat.reduceEqDiff,Nat.reduceAdd,Nat.reduceLT,Nat.reduceLeDiff,t1,t4,t6,aw,encS,bP,List.getElem?_map,hg2]
      intro b hb
      have hbm:¬ m=b:=by rintro rfl; rw[tm] at hb; simp at hb
      rw[set_set]
      simp (disch:=omega) only [↓wr,↓reduceIte,wq,Nat.reduceEqDiff,Nat.reduceAdd,Nat.reduceLT,t3,t4,tm,hbm,u4 hfl]
      refine ⟨rfl,by omega,by omega,?_⟩
      refine aE.A9 hof (by kernel_rfl) (.val _) ⟨.tree (cF _),.tree (pM _),Kz (.inr ⟨m,by simp[hl'],by simp[View.set,hbm,tm]⟩),.tree (.val _),trivial⟩ ?_
      simp (disch:=omega) only [↓wr,↓reduceIte,wq,ag,ab,Nat.reduceEqDiff,Nat.reduceLeDiff,reduceCtorEq,t1,t3,t4,t5,t6,tm,hbm,u4 hfl,FR]
      refine ⟨by omega,by first | omega | (simp; omega),aV hk2 (by omega) ⟨tE null fs' R,by rw[EH]; exact hl',hj,t1,t3,t4,?_,t5,rfl⟩⟩
      rw[show dC (tE null fs' R)=(dC fs').set R.left.toNat [gw (fs'.getD R.left.toNat 0 ||| jk null fs' 0 R.right)] from by rw[tE,dC,List.map_set]]
      simp only[View.set,if_true]
    · rw[List.drop_eq_nil_of_le (by omega),List.foldl_nil] at hj
      simp (disch:=omega) only [↓wr,↓reduceIte,wq,Nat.reduceEqDiff,reduceCtorEq,t1,t3,t4,t5]
      obtain ⟨q,rfl⟩:∃ q,k=q+1:=⟨k - 1,by omega⟩
      exact ⟨q,by omega,i+1,fs',by omega,hl',by rw[hj]; exact hi,rfl,tm,rfl⟩
  · simp (disch:=omega) only [↓wr,↓reduceIte,wq,Nat.reduceEqDiff,reduceCtorEq,t4]
    have:k=0:=by omega
    subst this
    rintro h' rfl
    rw[← hi,← hlen]
    exact LI (.inr ⟨m,by simp[iter],tm⟩)
def qc:SC :=
  .seq (.seq (ak [aa 11 7,aa 12 1,aM 13 12,aR 14 .lss 11 13]) <|
  .cond (.tmp 14) (.skip) (.exit 0)) <|
  .seq (.block 1 (.seq (ak [aO 17 4 3,aa 18 1,aa 19 7,aS 20 1 18 19,ao 21 20,aQ 22 172 [17,21],bX 23 22]) <|
  .cond (.tmp 23) (.seq (ak [((some 6),.op (.bo (.val (.val (.int .u32 0)))))]) <|
  .ret) (.skip))) <|
  ak [aa 15 7,az 16 .add 15 1,aa 7 16]
def sy:SF:=⟨.seq (ak [bW 3 0,((some 6),.op (.bo (.val (.val (.int .u32 0)))))]) <|
  .seq (.seq (ak [aO 8 4 3,aQ 9 66 [8],bX 10 9]) <|
  .cond (.tmp 10) (.seq (ak [((some 6),.op (.bo (.val (.val (.int .u32 0)))))]) <|
  .ret) (.skip)) <|
  .seq (.seq (ak [aI 7 0]) <|
  .block 0 (.loop qc)) <|
  .seq (.region true [⟨none,[aa 24 1,aO 25 4 3,aQ 26 196 [25],aO 27 4 3,aQ 28 197 [27],aa 29 2,aQ 30 195 [24,26,28,29],aa 6 30]⟩]) <|
  .ret,
  [.tmp 6],31⟩
theorem ye:aY Tryz.prog 139 [3]=some sy:=by kernel_rfl
def rb:SF:=⟨.seq (ak [bW 2 0,bW 3 1,aZ 4 false]) <|
  .seq (.region true [⟨none,[aO 5 4 2,aQ 6 66 [5],aa 7 6]⟩,⟨(some (7,true)),[au 8 0 3,ao 9 8,az 10 .geq 9 (-1)]⟩,⟨none,[bF 11 7 10,aa 12 11]⟩,⟨(some (12,true)),[au 13 0 3,ao 14 13,au 15 2 2,ao 16 15,aM 17 16,aR 18 .lss 14 17]⟩,⟨none,[bF 19 12 18,aa 20 19]⟩,⟨(some (20,true)),[au 21 1 3,ao 22 21,az 23 .geq 22 0]⟩,⟨none,[bF 24 20 23,aa 25 24]⟩,⟨(some (25,true)),[au 26 1 3,ao 27 26,aO 28 4 2,au 29 0 3,ao 30 29,aQ 31 67 [28,30],aM 32 31,aR 33 .leq 27 32]⟩,⟨none,[bF 34 25 33,aa 4 34]⟩]) <|
  .ret,
  [.tmp 4],35⟩
theorem xz:aY Tryz.prog 28 [2,3]=some rb:=by kernel_rfl
def pP:SF:=⟨.seq (ak [bW 2 0,bW 3 1,aI 4 0,aZ 5 false]) <|
  .seq (.seq (ak [aO 6 4 2,aO 7 2 3,aQ 8 28 [6,7],bX 9 8]) <|
  .cond (.tmp 9) (.seq (ak [aI 4 0,aZ 5 false]) <|
  .ret) (.skip)) <|
  .seq (ak [aO 10 4 2,aO 11 2 3,aQ 12 63 [10,11],bH 13 0 12,bH 14 1 12,aa 4 13,aa 5 14]) <|
  .ret,
  [.tmp 4,.tmp 5],15⟩
theorem vr:aY Tryz.prog 26 [2,3]=some pP:=by kernel_rfl
def ld:SC :=
  .seq (.seq (ak [aa 7 6,aa 8 1,aM 9 8,aR 10 .lss 7 9]) <|
  .cond (.tmp 10) (.skip) (.exit 0)) <|
  .seq (.block 1 (.seq (ak [aO 13 4 2,aa 14 1,aa 15 6,aS 16 2 14 15,aO 17 2 16,aQ 18 28 [13,17]]) <|
  .cond (.tmp 18) (ak [aa 19 5,aa 20 1,aa 21 6,aS 22 2 20 21,aO 23 2 22,((some 24),.op (.bh 1 2 [(.val (.int .i64 0)),(.val (.int .i64 0))] [(0,(.tmp 23))])),((some 25),.op (.app 2 16 (.tmp 19) (.tmp 24))),aa 5 25]) (.skip))) <|
  ak [aa 11 6,az 12 .add 11 1,aa 6 12]
def mD:SF:=⟨.seq (ak [bW 2 0,((some 4),.op (.bo (.val (.emp 1))))]) <|
  .seq (ak [((some 5),.op (.bo (.val (.emp 1))))]) <|
  .seq (.seq (ak [aI 6 0]) <|
  .block 0 (.loop ld)) <|
  .seq (.seq (ak [aa 26 5,aM 27 26,az 28 .eql 27 0]) <|
  .cond (.tmp 28) (.seq (ak [((some 4),.op (.bo (.val (.emp 1))))]) <|
  .ret) (.skip)) <|
  .seq (ak [aO 29 4 2,aa 30 5,aQ 31 72 [29,30],aa 4 31]) <|
  .ret,
  [.tmp 4],32⟩
theorem sn:aY Tryz.prog 31 [2]=some mD:=by kernel_rfl
def iT:SC :=
  .seq (.seq (.region false [⟨none,[aa 26 11,aa 27 0,aa 28 1,aS 29 2 27 28,au 30 1 29,ao 31 30,aM 32 31,aR 33 .lss 26 32,aa 34 33]⟩,⟨(some (34,true)),[aa 35 10,bX 36 35]⟩,⟨none,[bF 37 34 36]⟩]) <|
  .cond (.tmp 37) (.skip) (.exit 2)) <|
  .seq (.block 3 (.seq (ak [aa 40 0,aa 41 1,aS 42 2 40 41,au 43 1 42,ao 44 43,aa 45 11,aS 46 2 44 45,au 47 0 46,ao 48 47,aa 49 2,aa 50 8,aS 51 1 49 50,ao 52 51,aR 53 .eql 48 52]) <|
  .cond (.tmp 53) (ak [aa 54 0,aa 55 1,aS 56 2 54 55,au 57 1 56,ao 58 57,aa 59 11,aS 60 2 58 59,au 61 1 60,ao 62 61,aa 9 62,aZ 10 true]) (.skip))) <|
  ak [aa 38 11,az 39 .add 38 1,aa 11 39]
def nO:SC :=
  .seq (.seq (ak [aa 20 8,aa 21 2,aM 22 21,aR 23 .lss 20 22]) <|
  .cond (.tmp 23) (.skip) (.exit 0)) <|
  .seq (.block 1 (.seq (ak [aI 9 (-1),aZ 10 false]) <|
  .seq (.seq (ak [aI 11 0]) <|
  .block 2 (.loop iT)) <|
  .seq (.seq (.region false [⟨none,[aa 63 9,az 64 .lss 63 0,aa 65 64]⟩,⟨(some (65,false)),[aa 66 9,aa 67 0,aM 68 67,aR 69 .geq 66 68]⟩,⟨none,[bB 70 65 69]⟩]) <|
  .cond (.tmp 70) (.seq (ak [aI 6 0,aZ 7 false]) <|
  .ret) (.skip)) <|
  ak [aa 71 9,aa 1 71])) <|
  ak [aa 24 8,az 25 .add 24 1,aa 8 25]
def qk:SF:=⟨.seq (ak [aI 6 0,aZ 7 false]) <|
  .seq (.seq (.region false [⟨none,[aa 12 1,az 13 .lss 12 0,aa 14 13]⟩,⟨(some (14,false)),[aa 15 1,aa 16 0,aM 17 16,aR 18 .geq 15 17]⟩,⟨none,[bB 19 14 18]⟩]) <|
  .cond (.tmp 19) (.seq (ak [aI 6 0,aZ 7 false]) <|
  .ret) (.skip)) <|
  .seq (.seq (ak [aI 8 0]) <|
  .block 0 (.loop nO)) <|
  .seq (ak [aa 72 1,aa 6 72,aZ 7 true]) <|
  .ret,
  [.tmp 6,.tmp 7],73⟩
theorem wa:aY Tryz.prog 37 []=some qk:=by kernel_rfl
def Jd (g:ay) (syms:List Int) (rest:BV):BV:=if bS g=true∧∀ s∈syms,lh g s=true then jk (bm g false) (j7 g (bm g false)) rest syms else 0
set_option maxHeartbeats 4000000 in
theorem QS (g:ay) (hg:g.Ok) (syms:List Int) (rest:BV) (hs:aL syms) (hn:∀ s∈syms,bJ s):aD Tryz.prog 139 [.agg (aw g),encI syms,gw rest] (gw (Jd g syms rest)):=by
  have hs':=hs
  unfold aL at hs'
  refine aD.val (by
    intro v hv; simp at hv
    rcases hv with rfl | rfl | rfl
    · exact bL _ (bU g)
    · exact cF _
    · exact .val _) fun H=>?_
  have hr9:=iW g hg
  have hnl:=xB g hg
  have hfi:=(JU g hg).pure
  have hH:=fun s h=>Nd g s (hn s h)
  refine aC.of mixed ye ?_
  simp only[aw,encS] at hr9 hnl hfi hH
  simp (disch:=omega) only [↓wr,↓reduceIte,wq,ah,Nat.reduceEqDiff,Nat.reduceAdd,Nat.reduceLeDiff,sy,aw,encS,encI]
  refine aE.pure hr9 (by kernel_rfl) ?_
  simp (disch:=omega) only [↓wr,↓reduceIte,wq]
  refine av.split (fun hr=>?_) (fun hr=>?_)
  rotate_left
  · simp (disch:=omega) only [↓wr,↓reduceIte,wq,reduceCtorEq]
    rw[Jd,if_neg (by rw[hr]; simp)]; rfl
  have hf:=cn hr
  have hnlen:=pB hr false
  have hflen:=K5 g (bm g false)
  rw[Gd,if_pos hr] at hfi
  simp (disch:=omega) only [↓wr,wq]
  refine ba.up syms.length (fun i T H'=>(∀ s∈syms.take i,lh g s=true)∧T 1=encI syms∧T 2=gw rest∧T 3=.aT (aw g) 0∧T 7=gi i) ⟨by simp,rfl,rfl,rfl,rfl⟩ ?_
  rintro i k T H' hk ⟨hall,t1,t2,t3,t7⟩
  simp (disch:=omega) only [↓wr,↓reduceIte,wq,ag,aj,Nat.reduceEqDiff,qc,t1,t7,encI]
  refine av.dec (fun hc=>?_) (fun hc=>?_)
  · have hx:syms[i]?=some (syms[i]'(by omega)):=List.getElem?_eq_getElem (by omega)
    have hm:=List.getElem_mem (show i < syms.length by omega)
    have htk:syms.take (i+1)=syms.take i ++ [syms[i]'(by omega)]:=by rw[List.take_add_one,hx]; rfl
    generalize syms[i]'(by omega)=x at hx hm htk
    simp (disch:=omega) only [↓wr,↓reduceIte,wq,Nat.reduceEqDiff,Nat.reduceAdd,Nat.reduceLT,Nat.reduceLeDiff,t1,t3,t7,aw,encS,encI,List.getElem?_map,hx]
    refine aE.pure (hH x hm) (by kernel_rfl) ?_
    simp (disch:=omega) only [↓wr,↓reduceIte,wq]
    refine av.split (fun he=>?_) (fun he=>?_)
    · simp (disch:=omega) only [↓wr,↓reduceIte,wq,ag,Nat.reduceEqDiff,reduceCtorEq,t1,t3,t7]
      refine aV hk (by omega) ⟨fun s hs=>?_,t1,t2,t3,rfl⟩
      rw[htk] at hs
      rcases List.mem_append.1 hs with hs | hs
      · exact hall s hs
      · simp at hs; subst hs; exact he
    · simp (disch:=omega) only [↓wr,↓reduceIte,wq,ag,Nat.reduceEqDiff,reduceCtorEq]
      rw[Jd,if_neg (fun h=>by have:=h.2 x hm; rw[he] at this; simp at this)]; rfl
  · rw[List.take_of_length_le (by omega)] at hall
    have hof:=IL syms (bm g false) (j7 g (bm g false)) rest hs fun s h=>⟨hn s h,fun hneg=>by
      have:=hall s h
      unfold lh at this
      rw[if_neg (by omega)] at this
      simp at this
      omega⟩
    simp (disch:=omega) only [↓wr,↓reduceIte,wq,Nat.reduceEqDiff,Nat.reduceAdd,Nat.reduceLeDiff,reduceCtorEq,t1,t3,aw,encS]
    refine aE.pure hnl (by kernel_rfl) ?_
    simp (disch:=omega) only [↓wr,↓reduceIte,wq,Nat.reduceEqDiff,Nat.reduceAdd,Nat.reduceLeDiff,t1,t3,aw,encS]
    refine aE.pure hfi (by kernel_rfl) ?_
    simp (disch:=omega) only [↓wr,↓reduceIte,wq,Nat.reduceEqDiff,t1,t2]
    refine aE.pure hof (by kernel_rfl) ?_
    simp (disch:=omega) only [↓wr,↓reduceIte,wq,reduceCtorEq]
    rw[Jd,if_pos ⟨hr,hall⟩]
instance (g:ay) (x:aN):Decidable (cW g x):=by unfold cW; infer_instance
def gn (g:ay) (x:aN):Bool:=bS g && decide (cW g x)
theorem Jp (g:ay) (x:aN):∀ v∈[V.agg (aw g),.agg (bE x)],Tree v:=by
  intro v hv; simp at hv
  rcases hv with rfl | rfl
  · exact bL _ (bU g)
  · exact bL _ fun v hv=>by simp[bE] at hv; rcases hv with rfl | rfl <;> exact .val _
set_option maxHeartbeats 4000000 in
theorem HD (g:ay) (hg:g.Ok) (x:aN) (hx:bJ x.aP∧bJ x.dot):aD Tryz.prog 28 [.agg (aw g),.agg (bE x)] (gb (gn g x)):=by
  refine aD.val (Jp g x) fun H=>?_
  have hr9:=iW g hg
  obtain ⟨hx1,hx2⟩:=hx
  unfold bJ at hx1 hx2
  refine aC.of mixed xz ?_
  simp only[aw,encS] at hr9
  simp (disch:=omega) only [↓wr,↓reduceIte,wq,ah,Nat.reduceEqDiff,Nat.reduceAdd,Nat.reduceLeDiff,Int.reduceNeg,rb,aw,encS,bE]
  refine aE.pure hr9 (by kernel_rfl) ?_
  have bad:¬ cW g x→gb false=gb (gn g x):=fun h=>by unfold gn; rw[decide_eq_false h,Bool.and_false]
  simp (disch:=omega) only [↓wr,↓reduceIte,wq,Int.reduceNeg]
  refine av.split (fun hr=>?_) (fun hr=>?_)
  rotate_left
  · simp (disch:=omega) only [↓wr,↓reduceIte,wq,Nat.reduceEqDiff,Int.reduceNeg,reduceCtorEq]
    unfold gn; rw[hr]; rfl
  have hf:=cn hr
  simp (disch:=omega) only [↓wr,↓reduceIte,wq,ag,Nat.reduceEqDiff,Nat.reduceAdd,Nat.reduceLT,Int.reduceNeg]
  refine av.dec (fun h1=>?_) (fun h1=>?_)
  rotate_left
  · simp (disch:=omega) only [↓wr,↓reduceIte,wq,Nat.reduceEqDiff,Int.reduceNeg,reduceCtorEq]
    exact bad fun h=>by have:=h.1; omega
  simp (disch:=omega) only [↓wr,↓reduceIte,wq,ag,aj,Nat.reduceEqDiff,Nat.reduceAdd,Nat.reduceLT,Int.reduceNeg]
  refine av.dec (fun h2=>?_) (fun h2=>?_)
  rotate_left
  · simp (disch:=omega) only [↓wr,↓reduceIte,wq,Nat.reduceEqDiff,Int.reduceNeg,reduceCtorEq]
    exact bad fun h=>by have:=h.1; omega
  simp (disch:=omega) only [↓wr,↓reduceIte,wq,ag,Nat.reduceEqDiff,Nat.reduceAdd,Nat.reduceLT,Int.reduceNeg]
  refine av.dec (fun h3=>?_) (fun h3=>?_)
  rotate_left
  · simp (disch:=omega) only [↓wr,↓reduceIte,wq,Nat.reduceEqDiff,Int.reduceNeg,reduceCtorEq]
    exact bad fun h=>by have:=h.2; omega
  have hrt:=Bb g (xq hf) x.aP ⟨by omega,by omega⟩
  have hl6:=ig hf (r:=x.aP) ⟨by omega,by omega⟩
  simp only[aw,encS,encI] at hrt
  simp (disch:=omega) only [↓wr,↓reduceIte,wq,Nat.reduceEqDiff,Nat.reduceAdd,Nat.reduceLT,Nat.reduceLeDiff,Int.reduceNeg]
  refine aE.pure hrt (by kernel_rfl) ?_
  simp (disch:=omega) only [↓wr,↓reduceIte,wq,ag,aj,Nat.reduceEqDiff,Int.reduceNeg,reduceCtorEq]
  congr 2
  unfold gn
  rw[hr,Bool.true_and]
  congr 1
  unfold cW
  simp only[eq_iff_iff]
  omega
def BP (g:ay) (x:aN):Int × Bool:=if gn g x=true then bI g x else (0,false)
theorem mV {g:ay} {x:aN} : gn g x=true↔bS g=true∧cW g x:=by simp[gn]
set_option maxHeartbeats 4000000 in
theorem DL (g:ay) (hg:g.Ok) (x:aN) (hx:bJ x.aP∧bJ x.dot):aD Tryz.prog 26 [.agg (aw g),.agg (bE x)] (.bf [gi (BP g x).1,gb (BP g x).2]):=by
  have hh:=HD g hg x hx
  refine aD.tree (Jp g x) (Eu (.val _) (.val _)) fun H=>?_
  refine aC.of mixed vr ?_
  simp only[aw,encS,bE] at hh
  simp (disch:=omega) only [↓wr,↓reduceIte,wq,ah,Nat.reduceEqDiff,Nat.reduceAdd,Nat.reduceLeDiff,pP,aw,encS,bE]
  refine aE.pure hh (by kernel_rfl) ?_
  unfold BP
  simp (disch:=omega) only [↓wr,↓reduceIte,wq]
  refine av.split (fun h=>?_) (fun h=>?_)
  · obtain ⟨h1,h2⟩:=mV.1 h
    have hn:=AZ g (cn h1) x h2
    simp only[aw,encS,bE] at hn
    simp (disch:=omega) only [↓wr,↓reduceIte,wq,Nat.reduceEqDiff,Nat.reduceAdd,Nat.reduceLeDiff]
    refine aE.pure hn (by kernel_rfl) ?_
    simp (disch:=omega) only [↓wr,↓reduceIte,wq,Nat.reduceEqDiff,Nat.reduceAdd,Nat.reduceLT,reduceCtorEq]
    rw[if_pos h]
  · simp (disch:=omega) only [↓wr,↓reduceIte,wq,Nat.reduceEqDiff,reduceCtorEq]
    rw[h]; simp
theorem Mo (g:ay):dA g []=[]:=by
  have:∀ x,¬ lU g [] x:=fun x h=>by
    induction h with
    | base h=>simp at h
    | step _ _ _ _ _ ih=>exact ih
  unfold dA
  rw[List.filter_eq_nil_iff.2 fun x _=>by simp[this x]]
  rfl
theorem Q0 {h:aH} {u:V} {l:List aN} (ho:bc h.view u 2 (bD l)):bZ h u (.aX (bD l)):=by
  refine bZ.own ho rfl (fun i _=>rfl) (fun i j hi hj=>?_)
  rw[fR] at hi
  have e:(bD l).getD i []=bE l[i]:=by simp[bD,List.getD_eq_getElem?_getD,hi]
  rw[e] at hj ⊢
  match j,hj with
  | 0,_=>exact .val _
  | 1,_=>exact .val _
theorem Es {α:Type} {l:List α} {p:α→Bool} {i:Nat} {x:α} (h:l[i]?=some x):(l.take (i+1)).filter p=if p x=true then (l.take i).filter p ++ [x] else (l.take i).filter p:=by
  rw[List.take_add_one,h,List.filter_append]
  split
  · rename_i hp; simp[hp]
  · rename_i hp; simp[hp]
set_option maxHeartbeats 4000000 in
theorem G3 (g:ay) (hg:g.Ok) (l:List aN) (hl:l.length≤10000) (hn:∀ x∈l,bJ x.aP∧bJ x.dot):cH Tryz.prog 31 [.agg (aw g),.aX (bD l)] (.aX (bD (dA g (l.filter (gn g))))):=by
  refine cH.of (by
    intro v hv; simp at hv
    rcases hv with rfl | rfl
    · exact bL _ (bU g)
    · exact zx _) ?_
  refine aC.of mixed sn ?_
  simp (disch:=omega) only [↓wr,wq,ah,Nat.reduceAdd,Nat.reduceLeDiff,mD,aw,encS,bD]
  refine ba.up l.length (fun i T H'=>∃ r:V,bc H' r 2 (bD ((l.take i).filter (gn g)))∧T 1=.aX (bD l)∧T 2=.aT (aw g) 0∧T 5=r∧T 6=gi i) ⟨.emp 1,.nil,rfl,rfl,rfl,rfl⟩ ?_
  rintro i k T H' hk ⟨r,ho,t1,t2,t5,t6⟩
  simp (disch:=omega) only [↓wr,↓reduceIte,wq,ag,aj,Nat.reduceEqDiff,ld,t1,t6,bD]
  refine av.dec (fun hc=>?_) (fun hc=>?_)
  · have hx:l[i]?=some (l[i]'(by omega)):=List.getElem?_eq_getElem (by omega)
    have hm:=hn _ (List.getElem_mem (show i < l.length by omega))
    generalize l[i]'(by omega)=x at hx hm
    have hh:=HD g hg x hm
    have hft:=Es (p:=gn g) hx
    have hfl:=List.length_filter_le (gn g) (l.take i)
    rw[List.length_take] at hfl
    simp only[aw,encS,bE] at hh
    simp (disch:=omega) only [↓wr,↓reduceIte,wq,Nat.reduceEqDiff,Nat.reduceAdd,Nat.reduceLeDiff,t1,t2,t6,aw,encS,bD,List.getElem?_map,hx,bE]
    refine aE.pure hh (by kernel_rfl) ?_
    simp (disch:=omega) only [↓wr,↓reduceIte,wq]
    refine av.split (fun he=>?_) (fun he=>?_)
    · simp (disch:=omega) only [↓wr,↓reduceIte,wq,af,Nat.reduceEqDiff,Nat.reduceAdd,Nat.reduceLT,Nat.reduceLeDiff,t1,t5,t6,bD,List.getElem?_map,hx,bE]
      intro q hq
      simp (disch:=omega) only [↓wr,↓reduceIte,wq,Nat.reduceEqDiff,bp]
      refine gz (ho.fresh hq) (by simp[aU]) (by unfold aJ; rw[fR]; simp; omega) (by unfold aJ; rw[fR]; simp; omega) ?_
      intro r2 H2 o2 _
      simp (disch:=omega) only [↓wr,↓reduceIte,wq,ag,Nat.reduceEqDiff,reduceCtorEq,t6]
      rw[if_pos he] at hft
      exact aV hk (by omega) ⟨r2,by rw[hft]; simpa [bD,bE] using o2,t1,t2,rfl,rfl⟩
    · simp (disch:=omega) only [↓wr,↓reduceIte,wq,ag,Nat.reduceEqDiff,reduceCtorEq,t5,t6]
      rw[if_neg (by rw[he]; simp)] at hft
      exact aV hk (by omega) ⟨r,by rw[hft]; exact ho,t1,t2,t5,rfl⟩
  · rw[List.take_of_length_le (by omega)] at ho
    have hfl:=List.length_filter_le (gn g) l
    have hlr:dq r=some (l.filter (gn g)).length:=by rw[ho.len,fR]
    have hall:∀ x∈l.filter (gn g),bS g=true∧cW g x:=fun x hx=>mV.1 (List.mem_filter.1 hx).2
    generalize l.filter (gn g)=l' at *
    simp (disch:=omega) only [↓wr,↓reduceIte,wq,ag,Nat.reduceEqDiff,reduceCtorEq,t5,hlr]
    refine av.eq (fun he=>?_) (fun he=>?_)
    · have:l'=[]:=List.length_eq_zero_iff.1 (by omega)
      subst this
      simp (disch:=omega) only [↓wr,↓reduceIte,wq,reduceCtorEq]
      intro h' _
      rw[Mo]
      exact .emp _
    · cases l' with
      | nil=>exact absurd rfl he
      | cons y l' =>
      have hf:=cn (hall y (by simp)).1
      simp (disch:=omega) only [↓wr,↓reduceIte,wq,Nat.reduceEqDiff,Nat.reduceAdd,Nat.reduceLeDiff,t2,t5,aw,encS]
      refine aE.ff ((zl g hf (y :: l') (fun x hx=>(hall x hx).2) (by omega) r H' ho).mono ?_)
      rintro r2 H2 ⟨o2,_⟩
      simp (disch:=omega) only [↓wr,↓reduceIte,wq,reduceCtorEq]
      rintro h' rfl
      exact Q0 o2
theorem JY:∀ (l:List de) (s:Int) (k:Nat) (e:de),l[k]?=some e→ni (l.drop k) s=if e.sym=s then e.to else ni (l.drop (k+1)) s:=by
  intro l s k e h
  obtain ⟨hk,he⟩:=List.getElem?_eq_some_iff.1 h
  rw[List.drop_eq_getElem_cons hk,he,ni]
set_option maxHeartbeats 8000000 in
theorem DJ (a:List bt) (ha:aL a) (he:∀ s∈a,aL s.cp∧∀ e∈s.cp,bJ e.sym∧bJ e.to) (fr:Int) (syms:List Int) (hs:aL syms):aD Tryz.prog 37 [bR a,gi fr,encI syms] (.bf [gi (ga a fr syms).1,gb (ga a fr syms).2]):=by
  unfold aL at ha hs
  refine aD.tree (by
    intro v hv; simp at hv
    rcases hv with rfl | rfl | rfl
    · exact pD _
    · exact .val _
    · exact cF _) (Eu (.val _) (.val _)) fun H=>?_
  refine aC.of mixed wa ?_
  unfold ga
  simp (disch:=omega) only [↓wr,↓reduceIte,wq,ah,ag,Nat.reduceEqDiff,Nat.reduceAdd,Nat.reduceLeDiff,qk,bR,encI]
  refine av.dec (fun h1=>?_) (fun h1=>?_)
  · simp (disch:=omega) only [↓wr,↓reduceIte,wq,Nat.reduceEqDiff,reduceCtorEq]
    rw[if_pos (by omega)]
  simp (disch:=omega) only [↓wr,↓reduceIte,wq,ag,aj,Nat.reduceEqDiff,reduceCtorEq]
  refine av.dec (fun h2=>?_) (fun h2=>?_)
  · simp (disch:=omega) only [↓wr,↓reduceIte,wq,Nat.reduceEqDiff,reduceCtorEq]
    rw[if_pos (by omega)]
  rw[if_neg (by omega)]
  simp (disch:=omega) only [↓wr,wq]
  refine ba.up syms.length (fun i T H'=>∃ at_:Int,0≤at_∧at_ < a.length∧nq a at_ (syms.drop i)=nq a fr syms∧T 0=bR a∧T 1=gi at_∧T 2=encI syms∧T 8=gi i) ⟨fr,by omega,by omega,rfl,rfl,rfl,rfl,rfl⟩ ?_
  rintro i k T H' hk ⟨at_,q1,q2,hw,t0,t1,t2,t8⟩
  simp (disch:=omega) only [↓wr,↓reduceIte,wq,ag,aj,Nat.reduceEqDiff,Int.reduceNeg,reduceCtorEq,nO,t2,t8,encI]
  refine av.dec (fun hc=>?_) (fun hc=>?_)
  · have hx:syms[i]?=some (syms[i]'(by omega)):=List.getElem?_eq_getElem (by omega)
    rw[List.drop_eq_getElem_cons (show i < syms.length by omega)] at hw
    generalize syms[i]'(by omega)=x at hx hw
    have hS:a[at_.toNat]?=some (a.getD at_.toNat cK):=getD_some (by omega)
    obtain ⟨hE1,hE2⟩:=he _ (List.mem_of_getElem? hS)
    rw[nq] at hw
    generalize a.getD at_.toNat cK=S at hS hE1 hE2 hw
    unfold aL at hE1
    simp (disch:=omega) only [↓wr,wq,Int.reduceNeg]
    refine ba.up S.cp.length (fun j T H'=>∃ (to:Int) (ok:Bool),(ok=true→to=ni S.cp x)∧(ok=false→to = -1∧ni (S.cp.drop j) x=ni S.cp x)∧T 0=bR a∧T 1=gi at_∧T 2=encI syms∧T 8=gi i∧T 9=gi to∧T 10=gb ok∧T 11=gi j)
      ⟨-1,false,by simp,fun _=>⟨rfl,rfl⟩,t0,t1,t2,t8,rfl,rfl,rfl⟩ ?_
    clear t0 t1 t2 t8
    rintro j k2 T2 H2 hk2 ⟨to,ok,p1,p2,t0,t1,t2,t8,t9,t10,t11⟩
    cases ok with
    | true =>
      have hto:=p1 rfl
      simp (disch:=omega) only [↓wr,↓reduceIte,wq,ag,aj,Nat.reduceEqDiff,Nat.reduceAdd,Nat.reduceLT,Int.reduceNeg,reduceCtorEq,iT,t0,t1,t11,bR,List.getElem?_map,hS,eo,lB]
      refine av.dec (fun _=>?_) (fun _=>?_)
      all_goals (
        simp (disch:=omega) only [↓wr,↓reduceIte,wq,Nat.reduceEqDiff,Int.reduceNeg,reduceCtorEq,t1,t8,t9,t10,hto]
        refine av.dec (fun h3=>?_) (fun h3=>?_)
        · simp (disch:=omega) only [↓wr,↓reduceIte,wq,ag,Nat.reduceEqDiff,reduceCtorEq]
          rw[← hw,if_neg (by omega)]
        · simp (disch:=omega) only [↓wr,↓reduceIte,wq,ag,aj,Nat.reduceEqDiff,reduceCtorEq,t0,t9,bR,hto]
          refine av.dec (fun h4=>?_) (fun h4=>?_)
          · simp (disch:=omega) only [↓wr,↓reduceIte,wq,ag,Nat.reduceEqDiff,reduceCtorEq]
            rw[← hw,if_neg (by omega)]
          · simp (disch:=omega) only [↓wr,↓reduceIte,wq,ag,Nat.reduceEqDiff,reduceCtorEq,t8,t9,hto]
            rw[if_pos ⟨by omega,by omega⟩] at hw
            exact aV hk (by omega) ⟨_,by omega,by omega,hw,t0,rfl,t2,rfl⟩)
    | false =>
      obtain ⟨p3,p4⟩:=p2 rfl
      simp (disch:=omega) only [↓wr,↓reduceIte,wq,ag,aj,Nat.reduceEqDiff,Nat.reduceAdd,Nat.reduceLT,Int.reduceNeg,reduceCtorEq,iT,t0,t1,t11,bR,List.getElem?_map,hS,eo,lB]
      refine av.dec (fun hc2=>?_) (fun hc2=>?_)
      · have hE:S.cp[j]?=some (S.cp[j]'(by omega)):=List.getElem?_eq_getElem (by omega)
        generalize S.cp[j]'(by omega)=E at hE
        rw[JY _ _ _ _ hE] at p4
        simp (disch:=omega) only [↓wr,↓reduceIte,wq,ag,Nat.reduceEqDiff,Nat.reduceAdd,Nat.reduceLT,Int.reduceNeg,reduceCtorEq,t0,t1,t2,t8,t10,t11,bR,encI,List.getElem?_map,hS,hx,eo,lB,hE,dn]
        refine av.eq (fun h5=>?_) (fun h5=>?_)
        · rw[if_pos h5] at p4
          simp (disch:=omega) only [↓wr,↓reduceIte,wq,ag,Nat.reduceEqDiff,Nat.reduceAdd,Nat.reduceLT,Int.reduceNeg,reduceCtorEq,t0,t1,t8,t11,bR,List.getElem?_map,hS,eo,lB,hE,dn]
          exact aV hk2 (by omega) ⟨E.to,true,fun _=>p4,by simp,t0,t1,t2,t8,rfl,rfl,rfl⟩
        · rw[if_neg h5] at p4
          simp (disch:=omega) only [↓wr,↓reduceIte,wq,ag,Nat.reduceEqDiff,Int.reduceNeg,reduceCtorEq,t1,t8,t9,t11]
          exact aV hk2 (by omega) ⟨to,false,by simp,fun _=>⟨p3,p4⟩,t0,t1,t2,t8,t9,t10,rfl⟩
      · rw[List.drop_eq_nil_of_le (by omega),ni,← p3] at p4
        have hto:=p4
        simp (disch:=omega) only [↓wr,↓reduceIte,wq,Nat.reduceEqDiff,Int.reduceNeg,reduceCtorEq,t1,t8,t9,hto]
        refine av.dec (fun h3=>?_) (fun h3=>?_)
        · simp (disch:=omega) only [↓wr,↓reduceIte,wq,ag,Nat.reduceEqDiff,reduceCtorEq]
          rw[← hw,if_neg (by omega)]
        · simp (disch:=omega) only [↓wr,↓reduceIte,wq,ag,aj,Nat.reduceEqDiff,reduceCtorEq,t0,t9,bR,hto]
          refine av.dec (fun h4=>?_) (fun h4=>?_)
          · simp (disch:=omega) only [↓wr,↓reduceIte,wq,ag,Nat.reduceEqDiff,reduceCtorEq]
            rw[← hw,if_neg (by omega)]
          · simp (disch:=omega) only [↓wr,↓reduceIte,wq,ag,Nat.reduceEqDiff,reduceCtorEq,t8,t9,hto]
            rw[if_pos ⟨by omega,by omega⟩] at hw
            exact aV hk (by omega) ⟨_,by omega,by omega,hw,t0,rfl,t2,rfl⟩
  · simp (disch:=omega) only [↓wr,↓reduceIte,wq,Nat.reduceEqDiff,reduceCtorEq,t1]
    rw[List.drop_eq_nil_of_le (by omega),nq] at hw
    rw[← hw]
def xW (ls:List (List aN)):List (List V):=ls.map fun l=>[.aX (bD l)]
def dL (g:ay) (a:List bt) (ul us:V) (more:Bool):List V:=[.aX (g.ax.map dP),.aX (g.aA.map fun s=>[gs s]),.aX (g.rules.map bP),gi g.start,bR a,ul,us,gb more]
def uH:List V→Sets→List ep
  | v :: vs,s :: ss=>(v,1,dC s) :: uH vs ss
  | _,_=>[]
structure bO (H:View) (b:Nat) (g:ay) (a:List bt) (ul us:V) (vs:List V) (ls:List (List aN)) (ss:Sets) (more:Bool) (L:List ep):Prop where
  len:vs.length=ss.length
  own:bK H ((.sl b 0 1 8,8,[dL g a ul us more]) :: (ul,1,xW ls) :: (us,1,vs.map fun v=>[v]) :: (uH vs ss ++ L))
theorem xu:∀ (vs:List V) (ss:Sets) (i:Nat) (v:V),vs.length=ss.length→vs[i]?=some v→∃ P Q,uH vs ss=P ++ (v,1,dC (ss.getD i [])) :: Q∧∀ r,uH vs (ss.set i r)=P ++ (v,1,dC r) :: Q
  | [],_,i,v,_,h=>by simp at h
  | x :: vs,[],i,v,h,_=>by simp at h
  | x :: vs,s :: ss,0,v,_,h=>by
    simp at h; subst h
    exact ⟨[],uH vs ss,rfl,fun r=>rfl⟩
  | x :: vs,s :: ss,i+1,v,hl,h=>by
    obtain ⟨P,Q,h1,h2⟩:=xu vs ss i v (by simpa using hl) (by simpa using h)
    refine ⟨(x,1,dC s) :: P,Q,?_,fun r=>?_⟩
    · simp[uH,h1]
    · simp[uH,h2]
section
variable {H:View} {b:Nat} {g:ay} {a:List bt} {ul us:V} {vs:List V} {ls:List (List aN)} {ss:Sets} {more:Bool} {L:List ep}
theorem bO.box (h:bO H b g a ul us vs ls ss more L):H b=.arr 8 [dL g a ul us more]:=h.own.is 0 rfl (by simp)
theorem bO.lists (h:bO H b g a ul us vs ls ss more L) (hl:0 < ls.length):∃ n,ul=.sl n 0 ls.length 1∧H n=.arr 1 (xW ls):=by
  obtain ⟨n,h1,h2⟩:=(h.own.own 1 rfl).sl (by simpa [xW] using hl)
  exact ⟨n,by simpa [xW] using h1,h2⟩
theorem bO.JS (h:bO H b g a ul us vs ls ss more L) (hl:0 < ss.length):∃ n,us=.sl n 0 ss.length 1∧H n=.arr 1 (vs.map fun v=>[v]):=by
  obtain ⟨n,h1,h2⟩:=(h.own.own 2 rfl).sl (by simpa [h.len] using hl)
  exact ⟨n,by simpa [h.len] using h1,h2⟩
theorem bO.Dm {n k:Nat} (h:bO H b g a (.sl n 0 k 1) us vs ls ss more L) (hl:0 < ls.length):H n=.arr 1 (xW ls)∧k=ls.length:=by
  obtain ⟨m,h1,h2⟩:=h.lists hl
  simp only[V.sl.injEq] at h1
  obtain ⟨rfl,_,rfl,_⟩:=h1
  exact ⟨h2,rfl⟩
theorem bO.Ly {n k:Nat} (h:bO H b g a ul (.sl n 0 k 1) vs ls ss more L) (hl:0 < ss.length):H n=.arr 1 (vs.map fun v=>[v])∧k=ss.length:=by
  obtain ⟨m,h1,h2⟩:=h.JS hl
  simp only[V.sl.injEq] at h1
  obtain ⟨rfl,_,rfl,_⟩:=h1
  exact ⟨h2,rfl⟩
theorem bO.row (h:bO H b g a ul us vs ls ss more L) {i:Nat} {v:V} (hv:vs[i]?=some v):bc H v 1 (dC (ss.getD i [])):=by
  obtain ⟨P,Q,h1,_⟩:=xu vs ss i v h.len hv
  refine h.own.1 (v,1,dC (ss.getD i [])) (List.mem_cons_of_mem _ (List.mem_cons_of_mem _ (List.mem_cons_of_mem _ (List.mem_append_left _ ?_))))
  rw[h1]; simp
theorem Ho {α:Type} {x y z e:α} {P Q L:List α} : (x :: y :: z :: ((P ++ e :: Q) ++ L)).Perm (e :: x :: y :: z :: ((P ++ Q) ++ L)):=by
  have h:((P ++ e :: Q) ++ L).Perm (e :: ((P ++ Q) ++ L)):=by
    simp
  exact (((h.cons z).cons y).cons x).trans (List.perm_middle (a:=e) (l₁:=[x,y,z]) (l₂:=(P ++ Q) ++ L))
theorem bO.put (h:bO H b g a ul us vs ls ss more L) {i n k:Nat} (hv:vs[i]?=some (.sl n 0 k 1)) {r:List BV} (hr:r.length=(ss.getD i []).length) (hk:k=(ss.getD i []).length):bO (H.set n (.arr 1 (dC r))) b g a ul us vs ls (ss.set i r) more L:=by
  obtain ⟨P,Q,h1,h2⟩:=xu vs ss i _ h.len hv
  refine ⟨by rw[List.length_set]; exact h.len,?_⟩
  have o:=h.own
  rw[h1] at o
  have o2:=(o.perm Ho).put (es':=dC r) (by simp[hr]) (by simp[hk])
  rw[h2]
  exact o2.perm Ho.symm
theorem bO.flag (h:bO H b g a ul us vs ls ss more L) (m:Bool):bO (H.set b (.arr 8 [dL g a ul us m])) b g a ul us vs ls ss m L:=⟨h.len,h.own.put rfl rfl⟩
theorem bO.fresh (h:bO H b g a ul us vs ls ss more L) {n:Nat} {o:cU} (hn:H n=.dead):bO (H.set n o) b g a ul us vs ls ss more L:=⟨h.len,h.own.fresh hn⟩
end
theorem Ce {ls:List (List aN)} {i:Nat} (h:i < ls.length):(xW ls).getD i []=[.aX (bD (ls.getD i []))]:=by simp[xW,List.getD_eq_getElem?_getD,h]
theorem Bx {vs:List V} {i:Nat} {v:V} (h:vs[i]?=some v):(vs.map fun v=>[v]).getD i []=[v]:=by simp[List.getD_eq_getElem?_getD,h]
def jO:SC :=
  .seq (.seq (ak [aa 9 8,aa 10 0,bz 11 10,au 12 5 11,ao 13 12,aa 14 1,aS 15 1 13 14,ao 16 15,aM 17 16,aR 18 .lss 9 17]) <|
  .cond (.tmp 18) (.skip) (.exit 0)) <|
  .seq (.block 1 (.seq (.region false [⟨none,[aa 21 0,bz 22 21,au 23 5 22,ao 24 23,aa 25 1,aS 26 1 24 25,ao 27 26,aa 28 8,aS 29 2 27 28,aO 30 2 29,aO 31 2 6,((some 32),.op (.old (.binOp .eql 55 (.tmp 30) (.tmp 31) 55) 4)),aa 33 32]⟩,⟨(some (33,true)),[aa 34 3,aa 35 0,bz 36 35,au 37 6 36,ao 38 37,aa 39 1,aS 40 1 38 39,ao 41 40,aa 42 8,aS 43 1 41 42,ao 44 43,aR 45 .andNot 34 44,((some 46),.op (.arith .neq (.tmp 45) (.val (.val (.int .u32 0)))))]⟩,⟨none,[bF 47 33 46]⟩]) <|
  .cond (.tmp 47) (.seq (ak [aa 48 0,bz 49 48,au 50 6 49,ao 51 50,aa 52 1,aS 53 1 51 52,ao 54 53,aa 55 8,aa 56 0,bz 57 56,au 58 6 57,ao 59 58,aa 60 1,aS 61 1 59 60,ao 62 61,aa 63 8,aS 64 1 62 63,ao 65 64,aa 66 3,aR 67 .or 65 66,aS 68 1 54 55,(none,.op (.store 1 (.tmp 68) (.tmp 67)))]) <|
  ak [aa 69 0,bz 70 69,au 71 7 70,(none,.op (.store 1 (.tmp 71) (.val (.val (.bool true)))))]) (.skip))) <|
  ak [aa 19 8,az 20 .add 19 1,aa 8 20]
def kX:SF:=⟨.seq (ak [bW 6 2]) <|
  .seq (ak [aI 8 0]) <|
  .block 0 (.loop jO),
  [],72⟩
theorem qN:aY Tryz.prog 94 [6]=some kX:=by kernel_rfl
def fF (l:List aN) (row:List BV) (x:aN) (s:BV) (i:Nat):List BV:=(gQ l row x s).take i ++ row.drop i
theorem LW {l:List aN} {row:List BV} {x:aN} {s:BV} (h:row.length=l.length) (i:Nat) (hi:i≤l.length):(fF l row x s i).length=row.length:=by
  simp[fF,jr h]; omega
theorem MU {l:List aN} {row:List BV} {x:aN} {s:BV} (h:row.length=l.length) {i:Nat} (hi:i < l.length):(fF l row x s i)[i]?=row[i]?:=by
  unfold fF
  rw[List.getElem?_append_right (by simp[jr h]; omega)]
  simp[jr h,Nat.min_eq_left (show i≤row.length by omega)]
theorem KH {l:List aN} {row:List BV} {x:aN} {s:BV} (h:row.length=l.length) {i:Nat} {y:aN} {v:BV} (hy:l[i]?=some y) (hv:row[i]?=some v):fF l row x s (i+1)=if y=x then (fF l row x s i).set i (v ||| s) else fF l row x s i:=by
  have hi:=(List.getElem?_eq_some_iff.1 hy).1
  have hg:(gQ l row x s)[i]?=some (if y=x then v ||| s else v):=by simp[gQ,List.getElem?_zipWith,hy,hv]
  have hd:row.drop i=v :: row.drop (i+1):=by
    obtain ⟨q,e⟩:=List.getElem?_eq_some_iff.1 hv
    rw[List.drop_eq_getElem_cons q,e]
  have hl:((gQ l row x s).take i).length=i:=by simp[jr h]; omega
  unfold fF
  rw[List.take_add_one,hg,hd]
  split
  · rw[List.set_append_right _ _ (by omega),hl,Nat.sub_self,List.set_cons_zero]
    simp
  · simp
theorem Gz {α:Type} {l:List α} {i:Nat} {d:α} (h:i < l.length):l.set i (l.getD i d)=l:=by
  rw[List.getD_eq_getElem?_getD,List.getElem?_eq_getElem h]
  exact List.set_getElem_self h
theorem js (ls:List (List aN)):(xW ls).length=ls.length:=by simp[xW]
theorem Mm (l:List BV) (i:Nat) (z:BV):(dC l).set i [gw z]=dC (l.set i z):=by rw[dC,dC,List.map_set]
theorem kJ (l:List BV):(dC l).length=l.length:=by simp
theorem MK {α:Type} (l:List α) (i:Nat) (x y:α):(l.set i x).set i y=l.set i y:=by simp
theorem HR {α:Type} {l:List α} {i:Nat} {r d:α} (h:i < l.length):l.set i r=l↔r=l.getD i d:=by
  constructor
  · intro e
    have h2:(l.set i r).getD i d=l.getD i d:=by rw[e]
    rw[tS,if_pos ⟨rfl,h⟩] at h2
    exact h2
  · rintro rfl; exact Gz h
set_option maxHeartbeats 8000000 in
theorem C1 (g:ay) (a:List bt) (ul us:V) (vs:List V) (ls:List (List aN)) (ss:Sets) (more:Bool) (L:List ep) (b:Nat) (H:View) (hc:bO H b g a ul us vs ls ss more L) (hsh:iR ls ss) (hsm:∀ l∈ls,l.length≤10000) (st:Nat) (hst:st < ls.length) (x:aN) (s:BV) :
    aC Tryz.prog 94 [.ptr b 0 0,gi st,.agg (bE x),gw s] H fun _ H'=>bO H' b g a ul us vs ls (dT ls ss st x s) (more || decide (dT ls ss st x s≠ss)) L:=by
  refine aC.of mixed qN ?_
  have hss:st < ss.length:=by rw[hsh.1]; exact hst
  have hl:=Ce hst
  have hlm:=hsm _ (List.mem_of_getElem? (getD_some (d:=[]) hst))
  have hrl:=hsh.2 st
  have hv:vs[st]?=some (vs[st]'(by rw[hc.len]; exact hss)):=List.getElem?_eq_getElem _
  generalize vs[st]'(by rw[hc.len]; exact hss)=v at hv
  obtain ⟨nl,rfl,_⟩:=hc.lists (by omega)
  obtain ⟨nu,rfl,_⟩:=hc.JS (by omega)
  simp (disch:=omega) only [↓wr,wq,ah,Nat.reduceAdd,Nat.reduceLeDiff,kX,bE]
  unfold dT
  generalize ls.getD st []=l at *
  generalize hrow:ss.getD st []=row at *
  refine ba.up l.length (fun i T H'=>∃ m:Bool,(m=(more || decide (fF l row x s i≠row)))∧bO H' b g a (.sl nl 0 ls.length 1) (.sl nu 0 ss.length 1) vs ls (ss.set st (fF l row x s i)) m L∧T 0=.ptr b 0 0∧T 1=gi st∧T 3=gw s∧T 6=.aT (bE x) 0∧T 8=gi i) ?_ ?_
  · have e0:fF l row x s 0=row:=by simp[fF]
    refine ⟨more,by rw[e0]; simp,?_,rfl,rfl,rfl,rfl,rfl⟩
    rw[e0,← hrow,Gz hss]
    exact hc
  rintro i k T H' hk ⟨m,hm,hc,t0,t1,t3,t6,t8⟩
  have hb:=hc.box
  have hnl:=(hc.Dm (by omega)).1
  simp (disch:=omega) only [↓wr,↓reduceIte,wq,ag,aj,Nat.reduceEqDiff,Nat.reduceAdd,Nat.reduceLT,reduceCtorEq,jO,t0,t1,t8,hb,dL,hnl,hl,js,fR]
  refine ⟨hst,hst,?_⟩
  refine av.dec (fun hc2=>?_) (fun hc2=>?_)
  · have hil:i < l.length:=by omega
    have hy:l[i]?=some (l[i]'hil):=List.getElem?_eq_getElem hil
    have hw:row[i]?=some (row[i]'(by omega)):=List.getElem?_eq_getElem (by omega)
    generalize l[i]'hil=y at hy
    generalize row[i]'(by omega)=w at hw
    have hcur:=MU (x:=x) (s:=s) hrl hil
    rw[hw] at hcur
    have hclen:=LW (x:=x) (s:=s) hrl i (by omega)
    have hnx:=KH (x:=x) (s:=s) hrl hy hw
    have hcs:(ss.set st (fF l row x s i)).getD st []=fF l row x s i:=by rw[tS,if_pos ⟨rfl,hss⟩]
    have hro:=hc.row hv
    rw[hcs] at hro
    obtain ⟨nv,hv',hnv⟩:=hro.sl (by rw[kJ]; omega)
    have hnu:=(hc.Ly (by rw[List.length_set]; omega)).1
    have hbn:¬ b=nv:=by rintro rfl; rw[hb] at hnv; simp at hnv
    rw[kJ] at hv'
    generalize hcu:fF l row x s i=cur at *
    simp (disch:=omega) only [↓wr,↓reduceIte,wq,Nat.reduceEqDiff,Nat.reduceAdd,Nat.reduceLT,Nat.reduceLeDiff,reduceCtorEq,t0,t1,t6,t8,hb,dL,hnl,hl,js,bD,List.getElem?_map,hy,bE]
    refine ⟨hst,hst,?_⟩
    refine gB (xs:=#[.int .i64 y.aP,.int .i64 y.dot]) (ys:=#[.int .i64 x.aP,.int .i64 x.dot]) Tryz.underlying55 (by kernel_rfl) (by kernel_rfl) ?_ ?_ (tQ y x) (.inl ⟨rfl,rfl⟩) ?_
    · rfl
    · rfl
    rw[Bv]
    simp (disch:=omega) only [↓wr,↓reduceIte,wq]
    have same:fF l row x s (i+1)=cur→∀ T':Env,T' 0=.ptr b 0 0→T' 1=gi st→T' 3=gw s→T' 6=.aT (bE x) 0→T' 8=gi ((i:Int)+1)→∃ k',k' < k∧Ez l.length k' (fun i T H'=>∃ m:Bool,(m=(more || decide (fF l row x s i≠row)))∧bO H' b g a (.sl nl 0 ls.length 1) (.sl nu 0 ss.length 1) vs ls (ss.set st (fF l row x s i)) m L∧T 0=.ptr b 0 0∧T 1=gi st∧T 3=gw s∧T 6=.aT (bE x) 0∧T 8=gi i) T' H':=fun e T' e0 e1 e3 e6 e8 =>
      aV hk hil ⟨m,by rw[e]; exact hm,by rw[e]; exact hc,e0,e1,e3,e6,e8⟩
    refine av.dec (fun he=>?_) (fun he=>?_)
    rotate_left
    · rw[if_neg he] at hnx
      simp (disch:=omega) only [↓wr,↓reduceIte,wq,ag,Nat.reduceEqDiff,reduceCtorEq,t8]
      exact same hnx _ t0 t1 t3 t6 rfl
    rw[if_pos he] at hnx
    simp (disch:=omega) only [↓wr,↓reduceIte,wq,ag,Nat.reduceEqDiff,Nat.reduceAdd,Nat.reduceLT,reduceCtorEq,t0,t1,t3,t8,hb,dL,hnu,Bx hv,hv',hnv,u4 hcur,OK]
    refine ⟨by omega,by rw[hc.len,List.length_set]; omega,by omega,by omega,?_⟩
    refine av.ne (fun hz=>?_) (fun hz=>?_)
    · have hnsub:¬ sg s w:=fun h=>hz (toNat_zero.2 (Ac.2 h))
      have hc2:=hc.put (r:=cur.set i (w ||| s)) (by rw[← hv']; exact hv) (by rw[hcs,List.length_set]) (by rw[hcs])
      rw[MK] at hc2
      have hb2:=hc2.box
      simp (disch:=omega) only [↓wr,↓reduceIte,wq,ag,ab,Nat.reduceEqDiff,Nat.reduceAdd,Nat.reduceLT,Nat.reduceLeDiff,reduceCtorEq,t0,t1,t3,t8,hb,dL,hnu,Bx hv,hv',hnv,u4 hcur,FR,Mm,hbn]
      have hvl:st < vs.length:=by rw[hc.len,List.length_set]; exact hss
      have hch:fF l row x s (i+1)≠row:=fun e=>by
        have h1:(cur.set i (w ||| s))[i]?=some (w ||| s):=by rw[List.getElem?_set_self (by omega)]
        rw[← hnx,e,hw] at h1
        simp only[Option.some.injEq] at h1
        rw[BitVec.or_comm] at h1
        exact hnsub (C0.1 h1.symm)
      refine ⟨hss,hvl,hss,hvl,by omega,by omega,by omega,by omega,aV hk hil ⟨true,by rw[decide_eq_true hch,Bool.or_true],?_,t0,t1,t3,t6,rfl⟩⟩
      rw[hnx]
      exact hc2.flag true
    · have hsub:sg s w:=Ac.1 (toNat_zero.1 hz)
      simp (disch:=omega) only [↓wr,↓reduceIte,wq,ag,Nat.reduceEqDiff,reduceCtorEq,t8]
      refine same ?_ _ t0 t1 t3 t6 rfl
      rw[hnx,show w ||| s=w by rw[BitVec.or_comm]; exact C0.2 hsub]
      obtain ⟨q,e⟩:=List.getElem?_eq_some_iff.1 hcur
      rw[← e]; exact List.set_getElem_self q
  · have hil:i=l.length:=by omega
    have e:fF l row x s i=gQ l row x s:=by
      subst hil
      unfold fF
      rw[List.take_of_length_le (by rw[jr hrl]; omega),List.drop_eq_nil_of_le (by omega),List.append_nil]
    rw[e] at hm hc
    simp (disch:=omega) only [↓wr,↓reduceIte,wq,reduceCtorEq]
    rw[hm] at hc
    rw[show decide (ss.set st (gQ l row x s)≠ss)=decide (gQ l row x s≠row) by
      simp only[ne_eq,HR (d:=[]) hss,hrow]]
    exact hc
theorem mE {α:Type} {x y z e:α} {Z L:List α} : (x :: y :: z :: (Z ++ e :: L)).Perm (e :: x :: y :: z :: (Z ++ L)) :=
  ((((List.perm_middle (a:=e) (l₁:=Z) (l₂:=L)).cons z).cons y).cons x).trans (List.perm_middle (a:=e) (l₁:=[x,y,z]) (l₂:=Z ++ L))
section
variable {H:View} {b:Nat} {g:ay} {a:List bt} {ul us:V} {vs:List V} {ls:List (List aN)} {ss:Sets} {more:Bool} {L:List ep}
theorem bO.Ss (h:bO H b g a ul us vs ls ss more L) {n:Nat} (hn:H n=.dead) (sz:Nat) (es:List (List V)):bO (H.set n (.arr sz es)) b g a ul us vs ls ss more ((.sl n 0 es.length sz,sz,es) :: L) :=
  ⟨h.len,(h.own.new hn sz es).perm mE.symm⟩
theorem bO.drop {e:ep} (h:bO H b g a ul us vs ls ss more (e :: L)):bO H b g a ul us vs ls ss more L :=
  ⟨h.len,(h.own.perm mE).tail⟩
theorem bO.Rx {n k sz:Nat} {es:List (List V)} (h:bO H b g a ul us vs ls ss more ((.sl n 0 k sz,sz,es) :: L)) (he:0 < es.length):H n=.arr sz es :=
  (h.own.perm mE).is 0 rfl he
end
theorem Hl {s0 s1 s2:Sets} (h:ji s0 s1) (k:ji s1 s2):(decide (s1≠s0) || decide (s2≠s1))=decide (s2≠s0):=by
  rw[Bool.eq_iff_iff]
  simp only[Bool.or_eq_true,decide_eq_true_eq]
  constructor
  · rintro (e | e) e2
    · subst e2; exact e (k.C5 h)
    · subst e2; exact e (h.C5 k)
  · intro e
    by_cases e1:s1=s0
    · exact .inr (by rw[e1]; exact e)
    · exact .inl e1
theorem N2 {g:ay} (hr:bS g=true) {x:aN} (hx:cW g x) (s:BV):Jd g (eV g x) s=jk (bm g false) (j7 g (bm g false)) s (eV g x):=by
  have h:bS g=true∧∀ s∈eV g x,lh g s=true:=⟨hr,fun y hy=>by
    unfold eV at hy
    split at hy
    · have hR:g.rules[x.aP.toNat]?=some (bk g x.aP):=by unfold bk; exact getD_some (by have:=hx.1; omega)
      exact (cn hr).sym _ (List.mem_of_getElem? hR) y (List.mem_of_mem_drop hy)
    · simp at hy⟩
  rw[Jd,if_pos h]
structure Md (g:ay) (a:List bt) (ls:List (List aN)):Prop where
  PI:g.Ok
  right:bS g=true
  len:ls.length=a.length
  qQ:1≤a.length
  short:a.length≤300
  cp:∀ s∈a,aL s.cp∧∀ e∈s.cp,bJ e.sym∧bJ e.to
  item:∀ l∈ls,l.length≤10000∧∀ x∈l,cW g x
def jK:SC :=
  .seq (.seq (ak [aa 96 13,aa 97 0,bz 98 97,au 99 0 98,au 100 2 99,ao 101 100,aM 102 101,aR 103 .lss 96 102]) <|
  .cond (.tmp 103) (.skip) (.exit 0)) <|
  .seq (.block 1 (.seq (ak [aa 106 0,bz 107 106,au 108 0 107,au 109 2 108,ao 110 109,aa 111 13,aS 112 3 110 111,au 113 0 112,ao 114 113,aa 115 8,((some 116),.op (.arith .sub (.val (.val (.int .i64 (-1)))) (.tmp 115))),aR 117 .eql 114 116]) <|
  .cond (.tmp 117) (ak [aa 118 0,aa 119 1,aa 120 13,((some 121),.op (.build [(.val (.int .i64 0)),(.val (.int .i64 0))] [(0,1,(.tmp 120))])),aa 122 7,aQ 123 94 [118,119,121,122]]) (.skip))) <|
  ak [aa 104 13,az 105 .add 104 1,aa 13 105]
def kV:SF:=⟨.seq (ak [aa 14 0,bz 15 14,au 16 5 15,ao 17 16,aa 18 1,aS 19 1 17 18,ao 20 19,aa 21 2,aS 22 2 20 21,aO 23 2 22,aa 24 0,bz 25 24,au 26 6 25,ao 27 26,aa 28 1,aS 29 1 27 28,ao 30 29,aa 31 2,aS 32 1 30 31,ao 33 32,((some 6),.op (.alloc [(.val (.int .i64 0)),(.val (.int .i64 0))])),(none,.op (.store 2 (.tmp 6) (.tmp 23))),aa 7 33]) <|
  .seq (ak [aa 35 0,bz 36 35,au 37 0 36,aO 38 4 37,aO 39 2 6,aQ 40 26 [38,39],aa 34 40,bH 41 0 34,bH 42 1 34,aa 8 41,aa 9 42]) <|
  .seq (.seq (.region false [⟨none,[aa 43 9,bX 44 43,aa 45 44]⟩,⟨(some (45,false)),[aa 46 7,((some 47),.op (.arith .eql (.tmp 46) (.val (.val (.int .u32 0)))))]⟩,⟨none,[bB 48 45 47]⟩]) <|
  .cond (.tmp 48) (.ret) (.skip)) <|
  .seq (ak [aa 50 0,bz 51 50,au 52 4 51,ao 53 52,aa 54 1,aa 55 8,((some 56),.op (.bh 1 1 [(.val (.int .i64 0))] [(0,(.tmp 55))])),aQ 57 37 [53,54,56],aa 49 57,bH 58 0 49,bH 59 1 49,aa 10 58,aa 11 59]) <|
  .seq (ak [aa 60 0,aa 61 10,au 62 0 6,ao 63 62,au 64 1 6,ao 65 64,az 66 .add 65 1,((some 67),.op (.build [(.val (.int .i64 0)),(.val (.int .i64 0))] [(0,1,(.tmp 63)),(1,1,(.tmp 66))])),aa 68 7,aQ 69 94 [60,61,67,68]]) <|
  .seq (.seq (ak [aa 70 8,az 71 .geq 70 0]) <|
  .cond (.tmp 71) (.ret) (.skip)) <|
  .seq (ak [((some 12),.op (.bo (.val (.emp 1))))]) <|
  .seq (.seq (ak [au 72 0 6,ao 73 72,az 74 .geq 73 0]) <|
  .cond (.tmp 74) (ak [aa 75 0,bz 76 75,au 77 0 76,au 78 2 77,ao 79 78,au 80 0 6,ao 81 80,aS 82 3 79 81,au 83 1 82,ao 84 83,au 85 1 6,ao 86 85,az 87 .add 86 1,((some 88),.op (.slice 1 (.tmp 84) (some (.tmp 87)) none)),aa 12 88]) (.skip)) <|
  .seq (ak [aa 89 0,bz 90 89,au 91 0 90,aO 92 4 91,aa 93 12,aa 94 7,aQ 95 139 [92,93,94],aa 7 95]) <|
  .seq (ak [aI 13 0]) <|
  .block 0 (.loop jK),
  [],124⟩
theorem qP:aY Tryz.prog 96 []=some kV:=by kernel_rfl
theorem wo {g:ay} (hf:g.dU) {x:aN} (h:cW g x):bJ x.aP∧bJ x.dot:=by
  have:=ig hf h.1
  have:=hf.rules
  obtain ⟨⟨h1,h2⟩,h3,h4⟩:=h
  unfold bJ; omega
theorem eL.nil {H:View} {k:Nat} : eL H (.emp k) (encI []):=fun _ _=>.emp k
set_option maxHeartbeats 16000000 in
theorem Qv (g:ay) (a:List bt) (ul us:V) (vs:List V) (ls:List (List aN)) (ss:Sets) (more:Bool) (L:List ep) (b:Nat) (H:View) (hW:Md g a ls) (hc:bO H b g a ul us vs ls ss more L) (hsh:iR ls ss) (i k:Nat) (hi:i < ls.length) (hk:k < (ls.getD i []).length) :
    aC Tryz.prog 96 [.ptr b 0 0,gi i,gi k] H fun _ H'=>bO H' b g a ul us vs ls (fJ g (bm g false) a ls i k ss) (more || decide (fJ g (bm g false) a ls i k ss≠ss)) L:=by
  refine aC.of mixed qP ?_
  have hf:=cn hW.right
  have hsm:∀ l∈ls,l.length≤10000:=fun l hl=>(hW.item l hl).1
  have hla:=hW.len
  have h300:=hW.short
  have hru:=hf.rules
  have hss:i < ss.length:=by rw[hsh.1]; exact hi
  have hl:=Ce hi
  have hlm:=hW.item _ (List.mem_of_getElem? (getD_some (d:=[]) hi))
  have hrl:=hsh.2 i
  have hx:(ls.getD i [])[k]?=some ((ls.getD i []).getD k ⟨0,0⟩):=getD_some hk
  have hw:(ss.getD i [])[k]?=some (cY ss i k):=getD_some (by omega)
  have hxH:=hlm.2 _ (List.mem_of_getElem? hx)
  have hpk:=Au (null:=bm g false) (g:=g) hla hW.qQ hi k hsh
  have hv:vs[i]?=some (vs[i]'(by rw[hc.len]; exact hss)):=List.getElem?_eq_getElem _
  generalize vs[i]'(by rw[hc.len]; exact hss)=v at hv
  obtain ⟨nl,rfl,hnl⟩:=hc.lists (by omega)
  obtain ⟨nu,rfl,hnu⟩:=hc.JS (by omega)
  obtain ⟨nv,rfl,hnv⟩:=(hc.row hv).sl (by rw[kJ]; omega)
  have hvl:i < vs.length:=by rw[hc.len]; exact hss
  have hb:=hc.box
  unfold fJ at hpk ⊢
  generalize (ls.getD i []).getD k ⟨0,0⟩=x at *
  generalize cY ss i k=w at *
  have hnext:=DL g hW.PI x (wo hf hxH)
  rw[BP,if_pos (mV.2 ⟨hW.right,hxH⟩)] at hnext
  have hrest:=N2 hW.right hxH
  cases hnx:bI g x with
  | mk sym okb =>
  have hsb:=Bc hf hxH hnx
  have hx64:=wo hf hxH
  have hd6:=ig hf hxH.1
  have hdd:0≤x.dot∧x.dot≤6:=⟨hxH.2.1,by have:=hxH.2.2; omega⟩
  rw[hnx] at hnext hpk
  simp only[aw,encS,bE] at hnext
  simp (disch:=omega) only [↓wr,↓reduceIte,wq,ah,ab,Nat.reduceEqDiff,Nat.reduceAdd,Nat.reduceLT,Nat.reduceLeDiff,reduceCtorEq,kV,hb,dL,hnl,hl,js,bD,List.getElem?_map,hx,bE,hnu,Bx hv,hnv,u4 hw]
  refine ⟨hi,hi,hss,hvl,by omega,by omega,?_⟩
  intro bx hbx
  rw[set_set]
  have hc1:=hc.Ss hbx 2 [[gi x.aP,gi x.dot]]
  have hb1:=hc1.box
  have hx1:=hc1.Rx (by simp)
  have hbb:¬ b=bx:=by rintro rfl; rw[hb] at hbx; simp at hbx
  simp (disch:=omega) only [↓wr,↓reduceIte,wq,Nat.reduceEqDiff,Nat.reduceAdd,Nat.reduceLT,Nat.reduceLeDiff,hbb]
  refine aE.pure hnext (by kernel_rfl) ?_
  generalize H.set bx (.arr 2 [[gi x.aP,gi x.dot]])=H1 at hc1 hb1 hx1 ⊢
  clear hc hnl hnu hnv hb
  simp (disch:=omega) only [↓wr,↓reduceIte,wq,Nat.reduceEqDiff,Nat.reduceAdd,Nat.reduceLT]
  cases okb with
  | false =>
    simp (disch:=omega) only [↓wr,↓reduceIte,wq,Nat.reduceEqDiff,reduceCtorEq]
    simp
    exact hc1.drop
  | true =>
    simp (disch:=omega) only [↓wr,↓reduceIte,wq,ag,Nat.reduceEqDiff]
    refine av.eq (fun hz=>?_) (fun hz=>?_)
    · have hz2:w=0:=toNat_zero.1 hz
      simp (disch:=omega) only [↓wr,wq,reduceCtorEq]
      rw[if_pos hz2]
      simp
      exact hc1.drop
    · have hz2:¬ w=0:=fun e=>hz (toNat_zero.2 e)
      rw[if_neg (fun h=>h.elim (by simp) hz2)] at hpk
      simp only at hpk
      have hwk:=DJ a (by unfold aL; omega) hW.cp i [sym] (by unfold aL; simp)
      have hwin:=sN hla hW.qQ i [sym]
      have hw0:0≤(ga a i [sym]).1:=by
        unfold ga
        split
        · simp
        · exact (tL (a:=a) _ _ (by omega) (by omega)).1
      simp (disch:=omega) only [↓wr,↓reduceIte,wq,af,Nat.reduceEqDiff,Nat.reduceAdd,Nat.reduceLT,reduceCtorEq,hb1,dL]
      intro q hq
      refine aE.A9 hwk (by kernel_rfl) (.bf _ fun j hj=>by
        match j,hj with
        | 0,_=>exact ⟨_,rfl⟩
        | 1,_=>exact ⟨_,rfl⟩) ⟨.tree (pD a),.tree (.val _),Co (l:=[sym]) (by simp[View.set]) rfl,trivial⟩ ?_
      have hc2:=hc1.fresh (o:=.arr 1 [[gi sym]]) hq
      have hx2:=hc2.Rx (by simp)
      generalize H1.set q (.arr 1 [[gi sym]])=H2 at hc2 hx2 ⊢
      clear hc1 hb1 hx1 hq
      generalize (ga a i [sym]).1=to at *
      obtain ⟨ton,rfl⟩:∃ n:Nat,to=n:=⟨to.toNat,by omega⟩
      rw[Int.toNat_natCast] at *
      simp (disch:=omega) only [↓wr,↓reduceIte,wq,ag,ab,ae,Nat.reduceEqDiff,Nat.reduceAdd,Nat.reduceLT,Nat.reduceLeDiff,reduceCtorEq,hx2]
      refine aE.ff ((C1 g a _ _ vs ls ss more _ b H2 hc2 hsh hsm ton hwin ⟨x.aP,x.dot+1⟩ w).mono ?_)
      intro _ H3 hc3
      have hsh1:=fM hsh hwin ⟨x.aP,x.dot+1⟩ w
      have hle1:=jT hsh hwin ⟨x.aP,x.dot+1⟩ w
      generalize dT ls ss ton ⟨x.aP,x.dot+1⟩ w=ss1 at *
      have hb3:=hc3.box
      have hx3:=hc3.Rx (by simp)
      simp (disch:=omega) only [↓wr,↓reduceIte,wq,ag,Nat.reduceEqDiff]
      refine av.dec (fun hs=>?_) (fun hs=>?_)
      · simp (disch:=omega) only [↓wr,wq,reduceCtorEq]
        rw[if_neg hz2,if_pos hs]
        exact hc3.drop
      · rw[if_neg hs] at hpk
        have hdl:=(An hnx).1
        have hxe:=hxH.2
        have h64:∀ s∈eV g x,bJ s:=by
          intro s hs
          unfold eV at hs
          split at hs
          · have hR:g.rules[x.aP.toNat]?=some (bk g x.aP):=by unfold bk; exact getD_some (by have:=hxH.1; omega)
            exact (hW.PI.aP _ (List.mem_of_getElem? hR)).2.2.2 s (List.mem_of_mem_drop hs)
          · simp at hs
        have hsh12:(eV g x).length≤6:=by
          unfold eV
          split
          · rename_i h0
            rw[dR,if_neg (by omega)] at hd6
            simp; omega
          · simp
        have h2:=QS g hW.PI (eV g x) w (by unfold aL; omega) h64
        rw[hrest w] at h2
        simp only[aw,encS] at h2
        generalize hs2:jk (bm g false) (j7 g (bm g false)) w (eV g x)=s2 at *
        simp (disch:=omega) only [↓wr,↓reduceIte,wq,ag,Nat.reduceEqDiff,Nat.reduceAdd,Nat.reduceLT,hx3]
        have key:∀ v12:V,eL H3 v12 (encI (eV g x))→rI H3 [.agg [.aX (g.ax.map dP),.aX (g.aA.map fun s=>[gs s]),.aX (g.rules.map bP),gi g.start],v12,gw w] [.agg [.aX (g.ax.map dP),.aX (g.aA.map fun s=>[gs s]),.aX (g.rules.map bP),gi g.start],encI (eV g x),gw w]:=fun v12 h =>
          ⟨.tree (bL _ (bU g)),h,.tree (.val _),trivial⟩
        refine av.dec (fun h0=>?_) (fun h0=>?_)
        have hR:g.rules[x.aP.toNat]?=some (bk g x.aP):=by unfold bk; exact getD_some (by have:=hxH.1; omega)
        have hrr:dR g x.aP=(bk g x.aP).right:=by rw[dR,if_neg (by omega)]
        rw[hrr] at hdl hxe
        have hsl:=Ky (l:=(bk g x.aP).right) (k:=(x.dot+1).toNat) (by omega)
        rw[show (((x.dot+1).toNat:Nat):Int)=x.dot+1 by omega] at hsl
        have hre:eV g x=(bk g x.aP).right.drop (x.dot+1).toNat:=by rw[eV,if_pos (by omega)]
        generalize bk g x.aP=R at hR hsl hre
        simp (disch:=omega) only [↓wr,↓reduceIte,wq,ag,Nat.reduceEqDiff,Nat.reduceAdd,Nat.reduceLT,Nat.reduceLeDiff,reduceCtorEq,hx3,hb3,dL,List.getElem?_map,hR,bP,encI,hsl]
        refine aE.A9 h2 (by kernel_rfl) (.val _) (key _ (by rw[hre]; exact .tree (cF _))) ?_
        rotate_left
        have hre:eV g x=[]:=by rw[eV,if_neg (by omega)]
        simp (disch:=omega) only [↓wr,↓reduceIte,wq,Nat.reduceEqDiff,Nat.reduceAdd,Nat.reduceLT,Nat.reduceLeDiff,reduceCtorEq,hb3,dL]
        refine aE.A9 h2 (by kernel_rfl) (.val _) (key _ (by rw[hre]; exact .nil)) ?_
        all_goals (
          simp (disch:=omega) only [↓wr,↓reduceIte,wq]
          refine ba.up g.rules.length (fun q T H'=>bO H' b g a (.sl nl 0 ls.length 1) (.sl nu 0 ss.length 1) vs ls (dS g ls i sym s2 ss1 q) (more || decide (dS g ls i sym s2 ss1 q≠ss)) ((.sl bx 0 1 2,2,[[gi x.aP,gi x.dot]]) :: L)∧T 0=.ptr b 0 0∧T 1=gi i∧T 7=gw s2∧T 8=gi sym∧T 13=gi q) ⟨hc3,rfl,rfl,rfl,rfl,rfl⟩ ?_
          rintro q k2 T4 H4 hk2 ⟨hc4,t0,t1,t7,t8,t13⟩
          have hb4:=hc4.box
          simp (disch:=omega) only [↓wr,↓reduceIte,wq,ag,aj,Nat.reduceEqDiff,Nat.reduceAdd,Nat.reduceLT,Int.reduceNeg,reduceCtorEq,jK,t0,t13,hb4,dL]
          refine av.dec (fun hcq=>?_) (fun hcq=>?_)
          · have hql:q < g.rules.length:=by omega
            have hR2:g.rules[q]?=some (bk g (q:Int)):=by unfold bk; rw[Int.toNat_natCast]; exact getD_some hql
            have hL:=hf.left _ (List.mem_of_getElem? hR2)
            obtain ⟨hq1,hq2⟩:=iY (g:=g) hi sym s2 q ss1 hsh1
            have e1:dS g ls i sym s2 ss1 (q+1)=if (bk g (q:Int)).left = -1 - sym then dT ls (dS g ls i sym s2 ss1 q) i ⟨q,0⟩ s2 else dS g ls i sym s2 ss1 q:=by
              unfold dS
              rw[List.range_succ,List.foldl_append]
              rfl
            generalize bk g (q:Int)=R at hR2 hL e1
            generalize dS g ls i sym s2 ss1 q=ssq at *
            simp (disch:=omega) only [↓wr,↓reduceIte,wq,ag,Nat.reduceEqDiff,Nat.reduceAdd,Nat.reduceLT,Int.reduceNeg,reduceCtorEq,t0,t8,t13,hb4,dL,List.getElem?_map,hR2,bP]
            refine av.eq (fun he=>?_) (fun he=>?_)
            · simp (disch:=omega) only [↓wr,↓reduceIte,wq,ab,ae,Nat.reduceEqDiff,Nat.reduceAdd,Nat.reduceLeDiff,Int.reduceNeg,reduceCtorEq,t0,t1,t7,t13]
              refine aE.ff ((C1 g a _ _ vs ls _ _ _ b H4 hc4 hq1 hsm i hi ⟨q,0⟩ s2).mono ?_)
              intro _ H5 hc5
              simp (disch:=omega) only [↓wr,↓reduceIte,wq,ag,Nat.reduceEqDiff,Int.reduceNeg,reduceCtorEq,t13]
              rw[if_pos he] at e1
              rw[Bool.or_assoc,Hl (hle1.trans hq2) (jT hq1 hi _ _),← e1] at hc5
              exact aV hk2 hql ⟨hc5,t0,t1,t7,t8,rfl⟩
            · simp (disch:=omega) only [↓wr,↓reduceIte,wq,ag,Nat.reduceEqDiff,Int.reduceNeg,reduceCtorEq,t13]
              rw[if_neg he] at e1
              exact aV hk2 hql ⟨by rw[e1]; exact hc4,t0,t1,t7,t8,rfl⟩
          · simp (disch:=omega) only [↓wr,↓reduceIte,wq,reduceCtorEq]
            rw[if_neg hz2,if_neg hs]
            have hqe:q=g.rules.length:=by omega
            subst hqe
            exact hc4.drop)
end Gv
