/-
  Part 12 of the proof: what the machine does and what the functions answer.
  Conditions: those that each lemma names.
-/
import Derived.Shelf.SlSortCmp.NoneTotal
import Derived.Shelf.SlicesG.Cmp
import Derived.StillTailTactics
import Derived.Test.YtihmlbdfcmfbdaaGreatSGzB2K
set_option linter.unusedSimpArgs false
set_option linter.unusedVariables false
set_option maxRecDepth 100000
namespace Gv
open Go Go.Proofs
abbrev gw (s:BV):V:=.val (.int .u32 s.toNat)
abbrev bY (l:List BV):List (List V):=l.map fun x=>[gw x]
abbrev lD (l:List BV):V:=.aL (bY l)
theorem xA (l:List BV):Tree (lD l):=fD _ _ fun x _ v hv=>by simp at hv; subst hv; exact .val _
theorem Lp {x:Int} (h1:0≤x) (h2:x < 4294967296):IntKind.wrap .u32 x=x:=by
 unfold IntKind.wrap
 have e1:(2:Int) ^ IntKind.u32.bits=4294967296:=by rfl
 have e3:IntKind.u32.signed=false:=by rfl
 simp only[e1,e3,VA,Ul]
 simp
 omega
theorem Sv (s:BV):IntKind.wrap .u32 (s.toNat:Int)=s.toNat:=Lp (by omega) (by have:=s.isLt; omega)
theorem NF (s:BV):BitVec.ofInt IntKind.u32.bits (s.toNat:Int)=s:=by
 show BitVec.ofInt 32 (s.toNat:Int)=s
 rw[BitVec.ofInt_natCast,BitVec.ofNat_toNat,BitVec.setWidth_eq]
theorem qO (s t:BV):IntKind.wrap .u32 ((BitVec.ofInt IntKind.u32.bits (s.toNat:Int) ||| BitVec.ofInt IntKind.u32.bits (t.toNat:Int)).toNat:Int)=((s ||| t).toNat:Int):=by
 rw[NF,NF]; exact Sv (s ||| t)
def oQ:SC :=
 .seq (.seq (ao [aj 11 4,aj 12 0,bg 13 .lss 11 12]) <|
 .cond (.tmp 13) (.skip) (.exit 0)) <|
 .seq (.block 1 (ao [aj 16 3,((some 17),.op (.arith .mul (.tmp 16) (.val (.val (.int .u32 2))))),aj 3 17])) <|
 ao [aj 14 4,aQ 15 .add 14 1,aj 4 15]
def ri:SF:=⟨.seq (ao [((some 2),.op (.bP (.val (.val (.int .u32 0)))))]) <|
 .seq (.seq (.region false [⟨none,[aj 5 0,aQ 6 .lss 5 0,aj 7 6]⟩,⟨(some (7,false)),[aj 8 0,aQ 9 .gtr 8 31]⟩,⟨none,[cU 10 7 9]⟩]) <|
 .cond (.tmp 10) (.seq (ao [((some 2),.op (.bP (.val (.val (.int .u32 0)))))]) <|
 .ret) (.skip)) <|
 .seq (ao [((some 3),.op (.bP (.val (.val (.int .u32 1)))))]) <|
 .seq (.seq (ao [bj 4 0]) <|
 .block 0 (.loop oQ)) <|
 .seq (ao [aj 18 3,aj 2 18]) <|
 .ret,
 [.tmp 2],19⟩
theorem wK:aU Tryz.prog 77 []=some ri:=by kernel_rfl
def qI:SC :=
 .seq (.seq (ao [aj 11 10,aj 12 0,aV 13 12,bg 14 .lss 11 13]) <|
 .cond (.tmp 14) (.skip) (.exit 0)) <|
 .seq (.block 1 (.seq (.seq (ao [aj 17 0,aj 18 10,aR 19 1 17 18,ay 20 19,aQ 21 .geq 20 0]) <|
 .cond (.tmp 21) (.seq (ao [aj 22 9,aj 23 0,aj 24 10,aR 25 1 23 24,ay 26 25,bD 27 77 [26],bg 28 .or 22 27,aj 8 28]) <|
 .ret) (.skip)) <|
 .seq (ao [aj 29 9,aj 30 2,aj 31 0,aj 32 10,aR 33 1 31 32,ay 34 33,((some 35),.op (.arith .sub (.val (.val (.int .i64 (-1)))) (.tmp 34))),aR 36 1 30 35,ay 37 36,bg 38 .or 29 37,aj 9 38]) <|
 .seq (ao [aj 39 1,aj 40 0,aj 41 10,aR 42 1 40 41,ay 43 42,((some 44),.op (.arith .sub (.val (.val (.int .i64 (-1)))) (.tmp 43))),aR 45 1 39 44,ay 46 45,dp 47 46]) <|
 .cond (.tmp 47) (.seq (ao [aj 48 9,aj 8 48]) <|
 .ret) (.skip))) <|
 ao [aj 15 10,aQ 16 .add 15 1,aj 10 16]
def sM:SF:=⟨.seq (ao [((some 8),.op (.bP (.val (.val (.int .u32 0)))))]) <|
 .seq (ao [((some 9),.op (.bP (.val (.val (.int .u32 0)))))]) <|
 .seq (.seq (ao [bj 10 0]) <|
 .block 0 (.loop qI)) <|
 .seq (ao [aj 49 9,aj 50 3,bg 51 .or 49 50,aj 8 51]) <|
 .ret,
 [.tmp 8],52⟩
theorem xq:aU Tryz.prog 83 []=some sM:=by kernel_rfl
def mR:SC :=
 .seq (.seq (ao [aj 24 6,aD 25 2 1,ay 26 25,aV 27 26,bg 28 .lss 24 27]) <|
 .cond (.tmp 28) (.skip) (.exit 2)) <|
 .seq (.block 3 (.seq (ao [aD 31 2 1,ay 32 31,aj 33 6,aR 34 3 32 33,bp 35 3 34,((some 7),.op (.alloc [(.val (.int .i64 0)),(.emp 1),(.val (.int .i64 0))])),(none,.op (.store 3 (.tmp 7) (.tmp 35)))]) <|
 .region true [⟨none,[aj 36 4,aD 37 0 7,ay 38 37,aj 39 4,aD 40 0 7,ay 41 40,aR 42 1 39 41,ay 43 42,aD 44 1 7,ay 45 44,aj 46 3,aj 47 4,pc 48 83 [(.tmp 45),(.tmp 46),(.tmp 47),(.val (.val (.int .u32 0)))],bg 49 .or 43 48,aR 50 1 36 38,(none,.op (.store 1 (.tmp 50) (.tmp 49)))]⟩])) <|
 ao [aj 29 6,aQ 30 .add 29 1,aj 6 30]
def np:SC :=
 .seq (.seq (ao [aj 17 5,aD 18 1 1,ay 19 18,aV 20 19,bg 21 .lss 17 20]) <|
 .cond (.tmp 21) (.skip) (.exit 0)) <|
 .seq (.block 1 (.seq (ao [bj 6 0]) <|
 .block 2 (.loop mR))) <|
 ao [aj 22 5,aQ 23 .add 22 1,aj 5 23]
def oY:SF:=⟨.seq (ao [cO 1 0,((some 2),.op (.bP (.val (.emp 1))))]) <|
 .seq (.seq (ao [bp 8 4 1,bD 9 54 [8],dp 10 9]) <|
 .cond (.tmp 10) (.seq (ao [((some 2),.op (.bP (.val (.emp 1))))]) <|
 .ret) (.skip)) <|
 .seq (ao [bp 11 4 1,bD 12 81 [11],aj 3 12]) <|
 .seq (ao [aD 13 1 1,ay 14 13,aV 15 14,((some 16),.op (.make 1 4 [(.val (.int .u32 0))] (.tmp 15) (.tmp 15))),aj 4 16]) <|
 .seq (.seq (ao [bj 5 0]) <|
 .block 0 (.loop np)) <|
 .seq (ao [aj 51 4,aj 2 51]) <|
 .ret,
 [.tmp 2],52⟩
theorem uk:aU Tryz.prog 82 [1]=some oY:=by kernel_rfl
theorem FC {n:Int} (h:0≤n∧n≤31):(eo n).toNat=2 ^ n.toNat:=by
 rw[eo,T9 h,BitVec.toNat_twoPow]
 exact Nat.mod_eq_of_lt (Nat.pow_lt_pow_right (by omega) (by omega))
theorem Gs (n:Int):aG Tryz.prog 77 [gi n] (gw (eo n)):=by
 refine aG.val (by intro v hv; simp at hv; subst hv; exact .val _) fun H=>?_
 refine aC.of mixed wK ?_
 simp (disch:=omega) only [↓wr,seval,wq,ah,ag,ak,aa,ab,af,ai,ae,ri]
 have bad:¬ (0≤n∧n≤31)→eo n=0:=fun h=>by rw[eo,T6 h]
 refine av.dec (fun h1=>?_) (fun h1=>?_)
 ·simp (disch:=omega) only [↓wr,seval,wq,ah,ag,ak,aa,ab,af,ai,ae]
  rw[bad (by omega)]; rfl
 simp (disch:=omega) only [↓wr,seval,wq,ah,ag,ak,aa,ab,af,ai,ae]
 refine av.dec (fun h2=>?_) (fun h2=>?_)
 ·simp (disch:=omega) only [↓wr,seval,wq,ah,ag,ak,aa,ab,af,ai,ae]
  rw[bad (by omega)]; rfl
 simp (disch:=omega) only [↓wr,seval,wq,ah,ag,ak,aa,ab,af,ai,ae]
 refine bc.up n.toNat (fun i T H'=>T 0=gi n∧T 3=.val (.int .u32 ((2 ^ i:Nat):Int))∧T 4=gi i) ⟨rfl,rfl,rfl⟩ ?_
 rintro i k T H' hk ⟨t0,t3,t4⟩
 simp (disch:=omega) only [↓wr,seval,wq,ah,ag,ak,aa,ab,af,ai,ae,oQ,t0,t3,t4]
 refine av.dec (fun hc=>?_) (fun hc=>?_)
 ·have h31:2 ^ (i+1)≤2 ^ 31:=Nat.pow_le_pow_right (by omega) (by omega)
  have e:2 ^ (i+1)=2 ^ i * 2:=Nat.pow_succ _ _
  have hw:IntKind.wrap .u32 (((2 ^ i:Nat):Int) * 2)=((2 ^ (i+1):Nat):Int):=by
   rw[e,Int.natCast_mul]
   exact Lp (by omega) (by omega)
  simp (disch:=omega) only [↓wr,seval,wq,ah,ag,ak,aa,ab,af,ai,ae,t0,t3,t4,hw]
  exact aN hk (by omega) ⟨t0,rfl,rfl⟩
 ·simp (disch:=omega) only [↓wr,seval,wq,ah,ag,ak,aa,ab,af,ai,ae,t0,t3,t4]
  rw[FC (by omega),show i=n.toNat by omega]
theorem r6 {l:List BV} {i:Nat} {x:BV} (h:l[i]?=some x):(bY l).getD i []=[gw x]:=by simp[T0,h]
set_option maxHeartbeats 4000000 in
theorem IQ (syms:List Int) (null:List Bool) (first:List BV) (rest:BV) (hs:aY syms) (hn:∀ s∈syms,cp s∧(s < 0→(-1 - s).toNat < null.length∧(-1 - s).toNat < first.length)) :
  aG Tryz.prog 83 [encI syms,bI null,lD first,gw rest] (gw (fe null first rest syms)):=by
 unfold aY at hs
 refine aG.val (by
  intro v hv; simp at hv
  rcases hv with rfl | rfl | rfl | rfl
  ·exact fM _
  ·exact gG _
  ·exact xA _
  ·exact .val _) fun H=>?_
 refine aC.of mixed xq ?_
 simp (disch:=omega) only [↓wr,seval,wq,ah,ag,ak,aa,ab,af,ai,ae,sM,encI,bI]
 refine bc.up syms.length (fun i T H'=>∃ s:BV,s ||| fe null first rest (syms.drop i)=fe null first rest syms∧T 0=encI syms∧T 1=bI null∧T 2=lD first∧T 3=gw rest∧T 9=gw s∧T 10=gi i) ⟨0,by simp,rfl,rfl,rfl,rfl,rfl,rfl⟩ ?_
 rintro i k T H' hk ⟨s,he,t0,t1,t2,t3,t9,t10⟩
 simp (disch:=omega) only [↓wr,seval,wq,ah,ag,ak,aa,ab,af,ai,ae,qI,t0,t1,t2,t3,t9,t10,encI]
 refine av.dec (fun hc=>?_) (fun hc=>?_)
 ·have hx:syms[i]?=some (syms[i]'(by omega)):=T4 (by omega)
  have hdr:syms.drop i=syms[i]'(by omega) :: syms.drop (i+1):=UO (by omega)
  have hm:=hn _ (Ud (show i < syms.length by omega))
  generalize syms[i]'(by omega)=x at hx hdr hm
  obtain ⟨hm1,hm2⟩:=hm
  unfold cp at hm1
  rw[hdr,fe] at he
  simp (disch:=omega) only [↓wr,seval,wq,ah,ag,ak,aa,ab,af,ai,ae,t0,t1,t2,t3,t9,t10,encI,T8,hx,Ue]
  refine av.dec (fun h0=>?_) (fun h0=>?_)
  ·rw[T9 h0] at he
   simp (disch:=omega) only [↓wr,seval,wq,ah,ag,ak,aa,ab,af,ai,ae,t0,t1,t2,t3,t9,t10,encI,T8,hx,Ue]
   refine aE.pure (Gs x) (by kernel_rfl) ?_
   simp (disch:=omega) only [↓wr,seval,wq,ah,ag,ak,aa,ab,af,ai,ae,qO]
   rw[he]
  ·rw[T6 h0] at he
   obtain ⟨q1,q2⟩:=hm2 (by omega)
   have hb:null[(-1 - x).toNat]?=some (null.getD (-1 - x).toNat false):=getD_some q1
   have hf:first[(-1 - x).toNat]?=some (first.getD (-1 - x).toNat 0):=getD_some q2
   simp (disch:=omega) only [↓wr,seval,wq,ah,ag,ak,aa,ab,af,ai,ae,t0,t1,t2,t3,t9,t10,encI,bI,lD,T8,hx,hb,hf,Ue,qO]
   refine av.split (fun hnb=>?_) (fun hnb=>?_)
   ·simp (disch:=omega) only [↓wr,seval,wq,ah,ag,ak,aa,ab,af,ai,ae,t0,t1,t2,t3,t9,t10]
    rw[T9 hnb,← BitVec.or_assoc] at he
    exact aN hk (by omega) ⟨_,he,t0,t1,t2,t3,rfl,rfl⟩
   ·simp (disch:=omega) only [↓wr,seval,wq,ah,ag,ak,aa,ab,af,ai,ae]
    rw[T6 (by rw[hnb]; simp)] at he
    exact Vl (fun z:BV=>gw z) he
 ·rw[UB (by omega),fe] at he
  simp (disch:=omega) only [↓wr,seval,wq,ah,ag,ak,aa,ab,af,ai,ae,t3,t9,qO]
  rw[he]
theorem El {h:aJ} {u:V} {l:List BV} (ho:bf h.view u 1 (bY l)):er h u (lD l):=er.On (f:=fun x:BV=>.int .u32 x.toNat) ho
theorem Ba {H:View} {u:V} {l:List BV} (h:bf H u 1 (bY l)):eA H u (lD l) :=
 eA.own h fun e he v hv=>by
  obtain ⟨x,_,rfl⟩:=Ur.1 he
  simp at hv; subst hv; exact .val _
def HI (g:aw):List BV:=if bR g=true then cJ g (aA g false) else []
set_option maxHeartbeats 8000000 in
theorem KA (g:aw) (hg:g.Ok):cX Tryz.prog 82 [.agg (au g)] (lD (HI g)):=by
 refine cX.of (ef g) ?_
 have hr9:=kY g hg
 have hnl:=wV g hg
 refine aC.of mixed uk ?_
 simp only[au,encS] at hr9 hnl
 simp (disch:=omega) only [↓wr,seval,wq,ah,ag,ak,aa,ab,af,ai,ae,oY,au,encS]
 refine aE.pure hr9 (by kernel_rfl) ?_
 unfold HI
 simp (disch:=omega) only [↓wr,seval,wq,ah,ag,ak,aa,ab,af,ai,ae]
 refine av.split (fun hr=>?_) (fun hr=>?_)
 rotate_left
 ·simp (disch:=omega) only [↓wr,seval,wq,ah,ag,ak,aa,ab,af,ai,ae]
  rintro h' _
  rw[T6 (by rw[hr]; simp)]
  exact .emp _
 have hf:=bM hr
 have hN:=hf.ax; have hN1:=hf.mc
 rw[T9 hr]
 have hnlen:=eV hr false
 simp (disch:=omega) only [↓wr,seval,wq,ah,ag,ak,aa,ab,af,ai,ae,au,encS]
 refine aE.pure hnl (by kernel_rfl) ?_
 generalize aA g false=null at hnlen ⊢
 simp (disch:=omega) only [↓wr,seval,wq,ah,ag,ak,aa,ab,af,ai,ae,au,encS]
 refine ⟨⟨by omega,by unfold aK; omega,by unfold aK; omega⟩,fun hz=>absurd hz (by omega),fun _ m=>?_⟩
 have hrep:List.replicate g.ax.length [V.val (Value.int IntKind.u32 0)]=bY (List.replicate g.ax.length (0:BV)):=by simp
 rw[hrep]
 have h0l:(List.replicate g.ax.length (0:BV)).length=g.ax.length:=by simp
 unfold cJ
 generalize List.replicate g.ax.length (0:BV)=fs0 at h0l ⊢
 refine bc.intro (fun k T H'=>∃ (i:Nat) (fs:List BV),i+k=g.ax.length∧fs.length=g.ax.length∧iter (sq g null) k fs=iter (sq g null) g.ax.length fs0∧T 1=.aO (au g) 0∧T 3=bI null∧T 4=.sl m 0 g.ax.length 1∧H' m=.arr 1 (bY fs)∧T 5=gi i) g.ax.length
  ⟨0,fs0,by omega,h0l,rfl,rfl,rfl,rfl,by simp[View.set],rfl⟩ ?_
 rintro k T H' ⟨i,fs,hk,hlen,hi,t1,t3,t4,tm,t5⟩
 simp (disch:=omega) only [↓wr,seval,wq,ah,ag,ak,aa,ab,af,ai,ae,np,t1,t3,t4,t5,au,encS]
 refine av.dec (fun hc=>?_) (fun hc=>?_)
 ·simp (disch:=omega) only [↓wr,seval,wq,ah,ag,ak,aa,ab,af,ai,ae,t1,t3,t4,t5]
  refine bc.up g.rules.length (fun j T H'=>∃ fs':List BV,fs'.length=g.ax.length∧(g.rules.drop j).foldl (j0 null) fs'=sq g null fs∧T 1=.aO (au g) 0∧T 3=bI null∧T 4=.sl m 0 g.ax.length 1∧H' m=.arr 1 (bY fs')∧T 5=gi i∧T 6=gi j)
   ⟨fs,hlen,rfl,t1,t3,t4,tm,t5,rfl⟩ ?_
  clear t1 t3 t4 tm t5
  rintro j k2 T2 H2 hk2 ⟨fs',hl',hj,t1,t3,t4,tm,t5,t6⟩
  simp (disch:=omega) only [↓wr,seval,wq,ah,ag,ak,aa,ab,af,ai,ae,mR,t1,t3,t4,t5,t6,au]
  refine av.dec (fun hd=>?_) (fun hd=>?_)
  ·have hru:=hf.rules
   have hg2:g.rules[j]?=some (g.rules[j]'(by omega)):=T4 (by omega)
   rw[eM (show j < g.rules.length by omega)] at hj
   have hmem:g.rules[j]'(by omega)∈g.rules:=Ud _
   generalize g.rules[j]'(by omega)=R at hg2 hj hmem
   simp only[Uu] at hj
   obtain ⟨hl1,hl2⟩:=hf.left R hmem
   obtain ⟨_,_,hs1,hs2⟩:=hg.aH R hmem
   have hof:=IQ R.right null fs' 0 hs1 fun s hs=>⟨hs2 s hs,fun hn=>by have:=hf.neg hmem hs hn; omega⟩
   have hfl:fs'[R.left.toNat]?=some (fs'.getD R.left.toNat 0):=getD_some (by omega)
   simp (disch:=omega) only [↓wr,seval,wq,ah,ag,ak,aa,ab,af,ai,ae,t1,t3,t4,t5,t6,au,encS,aP,T8,hg2,Ue]
   intro b hb
   have hbm:¬ m=b:=by rintro rfl; rw[tm] at hb; simp at hb
   rw[set_set]
   simp (disch:=omega) only [↓wr,seval,wq,ah,ag,ak,aa,ab,af,ai,ae,t1,t3,t4,t5,t6,tm,hbm,r6 hfl]
   refine ⟨rfl,by omega,by omega,?_⟩
   refine aE.AD hof (by kernel_rfl) (.val _) ⟨.tree (fM _),.tree (gG _),Ba (.inr ⟨m,by simp[hl'],by simp[View.set,hbm,tm]⟩),.tree (.val _),trivial⟩ ?_
   simp (disch:=omega) only [↓wr,seval,wq,ah,ag,ak,aa,ab,af,ai,ae,t1,t3,t4,t5,t6,tm,hbm,r6 hfl,qO]
   refine ⟨by omega,by first | omega | (simp; omega),aN hk2 (by omega) ⟨j0 null fs' R,by rw[EI]; exact hl',hj,t1,t3,t4,?_,t5,rfl⟩⟩
   rw[show bY (j0 null fs' R)=(bY fs').set R.left.toNat [gw (fs'.getD R.left.toNat 0 ||| fe null fs' 0 R.right)] from by rw[j0,bY,Vp]]
   simp only[View.set,if_true]
   rfl
  ·rw[UB (by omega),Vk] at hj
   simp (disch:=omega) only [↓wr,seval,wq,ah,ag,ak,aa,ab,af,ai,ae,t1,t3,t4,t5]
   obtain ⟨q,rfl⟩:∃ q,k=q+1:=⟨k - 1,by omega⟩
   exact ⟨q,by omega,i+1,fs',by omega,hl',by rw[hj]; exact hi,rfl,tm,rfl⟩
 ·simp (disch:=omega) only [↓wr,seval,wq,ah,ag,ak,aa,ab,af,ai,ae,t4]
  have:k=0:=by omega
  subst this
  rintro h' rfl
  rw[← hi,← hlen]
  exact El (.inr ⟨m,by simp[iter],tm⟩)
def qW:SF:=⟨.seq (ao [cO 2 0,cO 3 1,bH 4 false]) <|
 .seq (.region true [⟨none,[bp 5 4 2,bD 6 54 [5],aj 7 6]⟩,⟨(some (7,true)),[aD 8 0 3,ay 9 8,aQ 10 .geq 9 (-1)]⟩,⟨none,[eS 11 7 10,aj 12 11]⟩,⟨(some (12,true)),[aD 13 0 3,ay 14 13,aD 15 2 2,ay 16 15,aV 17 16,bg 18 .lss 14 17]⟩,⟨none,[eS 19 12 18,aj 20 19]⟩,⟨(some (20,true)),[aD 21 1 3,ay 22 21,aQ 23 .geq 22 0]⟩,⟨none,[eS 24 20 23,aj 25 24]⟩,⟨(some (25,true)),[aD 26 1 3,ay 27 26,bp 28 4 2,aD 29 0 3,ay 30 29,bD 31 55 [28,30],aV 32 31,bg 33 .leq 27 32]⟩,⟨none,[eS 34 25 33,aj 4 34]⟩]) <|
 .ret,
 [.tmp 4],35⟩
theorem wy:aU Tryz.prog 20 [2,3]=some qW:=by kernel_rfl
def qE:SF:=⟨.seq (ao [cO 2 0,cO 3 1,bj 4 0,bH 5 false]) <|
 .seq (.seq (ao [bp 6 4 2,bp 7 2 3,bD 8 20 [6,7],dp 9 8]) <|
 .cond (.tmp 9) (.seq (ao [bj 4 0,bH 5 false]) <|
 .ret) (.skip)) <|
 .seq (ao [bp 10 4 2,bp 11 2 3,bD 12 51 [10,11],gP 13 0 12,gP 14 1 12,aj 4 13,aj 5 14]) <|
 .ret,
 [.tmp 4,.tmp 5],15⟩
theorem vw:aU Tryz.prog 18 [2,3]=some qE:=by kernel_rfl
def lA:SC :=
 .seq (.seq (ao [aj 7 6,aj 8 1,aV 9 8,bg 10 .lss 7 9]) <|
 .cond (.tmp 10) (.skip) (.exit 0)) <|
 .seq (.block 1 (.seq (ao [bp 13 4 2,aj 14 1,aj 15 6,aR 16 2 14 15,bp 17 2 16,bD 18 20 [13,17]]) <|
 .cond (.tmp 18) (ao [aj 19 5,aj 20 1,aj 21 6,aR 22 2 20 21,bp 23 2 22,((some 24),.op (.cw 1 2 [(.val (.int .i64 0)),(.val (.int .i64 0))] [(0,(.tmp 23))])),((some 25),.op (.app 2 16 (.tmp 19) (.tmp 24))),aj 5 25]) (.skip))) <|
 ao [aj 11 6,aQ 12 .add 11 1,aj 6 12]
def nh:SF:=⟨.seq (ao [cO 2 0,((some 4),.op (.bP (.val (.emp 1))))]) <|
 .seq (ao [((some 5),.op (.bP (.val (.emp 1))))]) <|
 .seq (.seq (ao [bj 6 0]) <|
 .block 0 (.loop lA)) <|
 .seq (.seq (ao [aj 26 5,aV 27 26,aQ 28 .eql 27 0]) <|
 .cond (.tmp 28) (.seq (ao [((some 4),.op (.bP (.val (.emp 1))))]) <|
 .ret) (.skip)) <|
 .seq (ao [bp 29 4 2,aj 30 5,bD 31 60 [29,30],aj 4 31]) <|
 .ret,
 [.tmp 4],32⟩
theorem rX:aU Tryz.prog 23 [2]=some nh:=by kernel_rfl
instance (g:aw) (x:aI):Decidable (cq g x):=by unfold cq; infer_instance
def gU (g:aw) (x:aI):Bool:=bR g && decide (cq g x)
theorem Jh (g:aw) (x:aI):∀ v∈[V.agg (au g),.agg (bK x)],Tree v:=by
 intro v hv; simp at hv
 rcases hv with rfl | rfl
 ·exact cT _ (dR g)
 ·exact cT _ fun v hv=>by simp[bK] at hv; rcases hv with rfl | rfl <;> exact .val _
set_option maxHeartbeats 4000000 in
theorem HF (g:aw) (hg:g.Ok) (x:aI) (hx:cp x.aH∧cp x.dot):aG Tryz.prog 20 [.agg (au g),.agg (bK x)] (gb (gU g x)):=by
 refine aG.val (Jh g x) fun H=>?_
 have hr9:=kY g hg
 obtain ⟨hx1,hx2⟩:=hx
 unfold cp at hx1 hx2
 refine aC.of mixed wy ?_
 simp only[au,encS] at hr9
 simp (disch:=omega) only [↓wr,seval,wq,ah,ag,ak,aa,ab,af,ai,ae,qW,au,encS,bK]
 refine aE.pure hr9 (by kernel_rfl) ?_
 have bad:¬ cq g x→gb false=gb (gU g x):=fun h=>by unfold gU; rw[decide_eq_false h,Bool.and_false]
 simp (disch:=omega) only [↓wr,seval,wq,ah,ag,ak,aa,ab,af,ai,ae]
 refine av.split (fun hr=>?_) (fun hr=>?_)
 rotate_left
 ·simp (disch:=omega) only [↓wr,seval,wq,ah,ag,ak,aa,ab,af,ai,ae]
  unfold gU; rw[hr]; rfl
 have hf:=bM hr
 simp (disch:=omega) only [↓wr,seval,wq,ah,ag,ak,aa,ab,af,ai,ae,bK]
 refine av.dec (fun h1=>?_) (fun h1=>?_)
 rotate_left
 ·simp (disch:=omega) only [↓wr,seval,wq,ah,ag,ak,aa,ab,af,ai,ae]
  exact bad fun h=>by have:=h.1; omega
 simp (disch:=omega) only [↓wr,seval,wq,ah,ag,ak,aa,ab,af,ai,ae,bK,au]
 refine av.dec (fun h2=>?_) (fun h2=>?_)
 rotate_left
 ·simp (disch:=omega) only [↓wr,seval,wq,ah,ag,ak,aa,ab,af,ai,ae]
  exact bad fun h=>by have:=h.1; omega
 simp (disch:=omega) only [↓wr,seval,wq,ah,ag,ak,aa,ab,af,ai,ae,bK]
 refine av.dec (fun h3=>?_) (fun h3=>?_)
 rotate_left
 ·simp (disch:=omega) only [↓wr,seval,wq,ah,ag,ak,aa,ab,af,ai,ae]
  exact bad fun h=>by have:=h.2; omega
 have hrt:=CA g (rv hf) x.aH ⟨by omega,by omega⟩
 have hl6:=eU hf (r:=x.aH) ⟨by omega,by omega⟩
 simp only[au,encS,encI] at hrt
 simp (disch:=omega) only [↓wr,seval,wq,ah,ag,ak,aa,ab,af,ai,ae,bK,au,encS]
 refine aE.pure hrt (by kernel_rfl) ?_
 simp (disch:=omega) only [↓wr,seval,wq,ah,ag,ak,aa,ab,af,ai,ae,bK]
 congr 2
 unfold gU
 rw[hr,Vh]
 congr 1
 unfold cq
 simp only[eq_iff_iff]
 omega
def Bv (g:aw) (x:aI):Int × Bool:=if gU g x=true then bL g x else (0,false)
theorem ry {g:aw} {x:aI} : gU g x=true↔bR g=true∧cq g x:=by simp[gU]
set_option maxHeartbeats 4000000 in
theorem MW (g:aw) (hg:g.Ok) (x:aI) (hx:cp x.aH∧cp x.dot):aG Tryz.prog 18 [.agg (au g),.agg (bK x)] (.bE [gi (Bv g x).1,gb (Bv g x).2]):=by
 have hh:=HF g hg x hx
 refine aG.tree (Jh g x) (D3 (.val _) (.val _)) fun H=>?_
 refine aC.of mixed vw ?_
 simp only[au,encS,bK] at hh
 simp (disch:=omega) only [↓wr,seval,wq,ah,ag,ak,aa,ab,af,ai,ae,qE,au,encS,bK]
 refine aE.pure hh (by kernel_rfl) ?_
 unfold Bv
 simp (disch:=omega) only [↓wr,seval,wq,ah,ag,ak,aa,ab,af,ai,ae]
 refine av.split (fun h=>?_) (fun h=>?_)
 ·obtain ⟨h1,h2⟩:=ry.1 h
  have hn:=Am g (bM h1) x h2
  simp only[au,encS,bK] at hn
  simp (disch:=omega) only [↓wr,seval,wq,ah,ag,ak,aa,ab,af,ai,ae,au,encS,bK]
  refine aE.pure hn (by kernel_rfl) ?_
  simp (disch:=omega) only [↓wr,seval,wq,ah,ag,ak,aa,ab,af,ai,ae]
  rw[T9 h]
 ·simp (disch:=omega) only [↓wr,seval,wq,ah,ag,ak,aa,ab,af,ai,ae]
  rw[h]; simp
theorem MU (g:aw):cr g []=[]:=by
 have:∀ x,¬ mr g [] x:=fun x h=>by
  induction h with
  | base h=>simp at h
  | step _ _ _ _ _ ih=>exact ih
 unfold cr
 rw[List.filter_eq_nil_iff.2 fun x _=>by simp[this x]]
 rfl
theorem Rn {h:aJ} {u:V} {l:List aI} (ho:bf h.view u 2 (aS l)):er h u (.aL (aS l)):=by
 refine er.own ho rfl (fun i _=>rfl) (fun i j hi hj=>?_)
 rw[bF] at hi
 have e:(aS l).getD i []=bK l[i]:=by simp[aS,T0,hi]
 rw[e] at hj ⊢
 match j,hj with
 | 0,_=>exact .val _
 | 1,_=>exact .val _
theorem DD {α:Type} {l:List α} {p:α→Bool} {i:Nat} {x:α} (h:l[i]?=some x):(l.take (i+1)).filter p=if p x=true then (l.take i).filter p ++ [x] else (l.take i).filter p:=by
 rw[Uw,h,Vq]
 split
 ·rename_i hp; simp[hp]
 ·rename_i hp; simp[hp]
set_option maxHeartbeats 4000000 in
theorem FZ (g:aw) (hg:g.Ok) (l:List aI) (hl:l.length≤10000) (hn:∀ x∈l,cp x.aH∧cp x.dot):cX Tryz.prog 23 [.agg (au g),.aL (aS l)] (.aL (aS (cr g (l.filter (gU g))))):=by
 refine cX.of (by
  intro v hv; simp at hv
  rcases hv with rfl | rfl
  ·exact cT _ (dR g)
  ·exact zq _) ?_
 refine aC.of mixed rX ?_
 simp (disch:=omega) only [↓wr,seval,wq,ah,ag,ak,aa,ab,af,ai,ae,nh,au,encS,aS]
 refine bc.up l.length (fun i T H'=>∃ r:V,bf H' r 2 (aS ((l.take i).filter (gU g)))∧T 1=.aL (aS l)∧T 2=.aO (au g) 0∧T 5=r∧T 6=gi i) ⟨.emp 1,.nil,rfl,rfl,rfl,rfl⟩ ?_
 rintro i k T H' hk ⟨r,ho,t1,t2,t5,t6⟩
 simp (disch:=omega) only [↓wr,seval,wq,ah,ag,ak,aa,ab,af,ai,ae,lA,t1,t2,t5,t6,aS]
 refine av.dec (fun hc=>?_) (fun hc=>?_)
 ·have hx:l[i]?=some (l[i]'(by omega)):=T4 (by omega)
  have hm:=hn _ (Ud (show i < l.length by omega))
  generalize l[i]'(by omega)=x at hx hm
  have hh:=HF g hg x hm
  have hft:=DD (p:=gU g) hx
  have hfl:=UW (gU g) (l.take i)
  rw[UN] at hfl
  simp only[au,encS,bK] at hh
  simp (disch:=omega) only [↓wr,seval,wq,ah,ag,ak,aa,ab,af,ai,ae,t1,t2,t5,t6,au,encS,aS,T8,hx,Ue,bK]
  refine aE.pure hh (by kernel_rfl) ?_
  simp (disch:=omega) only [↓wr,seval,wq,ah,ag,ak,aa,ab,af,ai,ae,t1,t2,t5,t6]
  refine av.split (fun he=>?_) (fun he=>?_)
  ·simp (disch:=omega) only [↓wr,seval,wq,ah,ag,ak,aa,ab,af,ai,ae,t1,t2,t5,t6,aS,T8,hx,Ue,bK]
   intro q hq
   simp (disch:=omega) only [↓wr,seval,wq,ah,ag,ak,aa,ab,af,ai,ae,cb]
   refine ib (ho.fresh hq) (by simp[aX]) (by unfold aK; rw[bF]; simp; omega) (by unfold aK; rw[bF]; simp; omega) ?_
   intro r2 H2 o2 _
   simp (disch:=omega) only [↓wr,seval,wq,ah,ag,ak,aa,ab,af,ai,ae,t1,t2,t5,t6]
   rw[T9 he] at hft
   exact aN hk (by omega) ⟨r2,by rw[hft]; simpa [aS,bK] using o2,t1,t2,rfl,rfl⟩
  ·simp (disch:=omega) only [↓wr,seval,wq,ah,ag,ak,aa,ab,af,ai,ae,t1,t2,t5,t6]
   rw[T6 (by rw[he]; simp)] at hft
   exact aN hk (by omega) ⟨r,by rw[hft]; exact ho,t1,t2,t5,rfl⟩
 ·rw[Uo (by omega)] at ho
  have hfl:=UW (gU g) l
  have hlr:cG r=some (l.filter (gU g)).length:=by rw[ho.len,bF]
  have hall:∀ x∈l.filter (gU g),bR g=true∧cq g x:=fun x hx=>ry.1 (UQ.1 hx).2
  generalize l.filter (gU g)=l' at *
  simp (disch:=omega) only [↓wr,seval,wq,ah,ag,ak,aa,ab,af,ai,ae,t1,t2,t5,t6,hlr]
  refine av.eq (fun he=>?_) (fun he=>?_)
  ·have:l'=[]:=Vn.1 (by omega)
   subst this
   simp (disch:=omega) only [↓wr,seval,wq,ah,ag,ak,aa,ab,af,ai,ae]
   intro h' _
   rw[MU]
   exact .emp _
  ·cases l' with
   | nil=>exact absurd rfl he
   | cons y l' =>
   have hf:=bM (hall y (by simp)).1
   simp (disch:=omega) only [↓wr,seval,wq,ah,ag,ak,aa,ab,af,ai,ae,t1,t2,t5,au,encS]
   refine aE.ez ((yX g hf (y :: l') (fun x hx=>(hall x hx).2) (by omega) r H' ho).mono ?_)
   rintro r2 H2 ⟨o2,_⟩
   simp (disch:=omega) only [↓wr,seval,wq,ah,ag,ak,aa,ab,af,ai,ae]
   rintro h' rfl
   exact Rn o2
section
variable {H:View} {b:Nat} {g:aw} {a:List aT} {ul us:V} {vs:List V} {ls:List (List aI)} {ss:Sets} {more:Bool} {L:List cF}
end
section
variable {H:View} {b:Nat} {g:aw} {a:List aT} {ul us:V} {vs:List V} {ls:List (List aI)} {ss:Sets} {more:Bool} {L:List cF}
end
theorem FD {g:aw} (hf:g.dt) {x:aI} (h:cq g x):cp x.aH∧cp x.dot:=by
 have:=eU hf h.1
 have:=hf.rules
 obtain ⟨⟨h1,h2⟩,h3,h4⟩:=h
 unfold cp; omega
section
variable {H:View} {b:Nat} {g:aw} {a:List aT} {ul us:V} {vs:List V} {ls:List (List aI)} {ss:Sets} {more:Bool} {L:List cF}
end
def B7 (p:eP):List V:=[gi p.aH,gw p.set]
def mW (l:List eP):List (List V):=l.map B7
def lQ (l:List (List eP)):V:=.aL (l.map fun r=>[.aL (mW r)])
abbrev JK:=List (V × List eP)
def oK (B:JK):List cF:=B.map fun x=>(x.1,2,mW x.2)
theorem QV {h:aJ} {u:V} {B:JK} (ho:bf h.view u 1 (bU B)) (hb:∀ x∈B,bf h.view x.1 2 (mW x.2)):er h u (lQ (B.map (·.2))):=by
 have hg:∀ i (hi:i < B.length),(bU B).getD i []=[(B[i]).1]∧(((B.map (·.2)).map fun r=>[V.aL (mW r)]).getD i [])=[.aL (mW (B[i]).2)]:=fun i hi=>by
  simp[bU,T0,hi]
 refine er.own ho (by simp[bU]) (fun i hi=>?_) (fun i j hi hj=>?_)
 ·have hi':i < B.length:=by simpa [bU] using hi
  rw[(hg i hi').1,(hg i hi').2]; rfl
 ·have hi':i < B.length:=by simpa [bU] using hi
  rw[(hg i hi').2] at hj ⊢
  rw[(hg i hi').1]
  have:j=0:=by simp at hj; omega
  subst this
  simp only[Ve]
  have hx:=hb _ (Ud hi')
  generalize (B[i]'hi').2=l at hx
  refine er.own hx rfl (fun i _=>rfl) (fun i j hi hj=>?_)
  simp only[mW,Uc] at hi
  have e:(mW l).getD i []=B7 l[i]:=by simp[mW,T0,hi]
  rw[e] at hj ⊢
  match j,hj with
  | 0,_=>exact .val _
  | 1,_=>exact .val _
open Go Go.Proofs Go.Shelf Go.RowKit Go.Sort
theorem bW.cut {P:Program} {f:FuncId} {vs:List V} {h h':aJ} {r:V} (hc:bW P f vs h r h') {id sz:Nat} {es rest:List (List V)} (hid:h'.view id=.arr sz (es ++ rest)):bW P f vs h r (h'.set id (.arr sz es)):=by
 have hlt:id < h'.length:=ig (by rw[hid]; simp)
 refine ⟨by simpa using hc.1,fun Z μ F w xs hr hh hf=>(hc.2 Z μ F w xs hr hh (by simpa using hf)).mono ?_⟩
 rintro e w' ⟨x,Z',μ',rfl,hv,hh',hex,hmu⟩
 refine ⟨x,Z',μ',rfl,hv,?_,hex,by simpa using hmu⟩
 have e1:∀ k,cat (h'.set id (.arr sz es)) F k=if k=id then .arr sz es else cat h' F k:=fun k=>by
  simp only[cat,List.length_set]
  by_cases hk:k < h'.length
  ·rw[T9 hk,T9 hk,jI hlt]; rfl
  ·rw[T6 hk,T6 hk,T6 (by omega)]
 have e2:cat h' F id=.arr sz (es ++ rest):=by simp only[cat]; rw[T9 hlt,hid]
 refine ⟨fun k=>?_,fun i j b o s o' s' hne h1 h2=>?_,hh'.lt,hh'.cL,hh'.gM⟩
 ·rw[e1]
  split
  ·rename_i hk
   subst hk
   have h3:=hh'.obj k
   rw[e2] at h3
   intro b o0 s hm
   obtain ⟨k1,⟨c,e,f,hc,hf,hs⟩,k3,k4⟩:=h3 b o0 s hm
   have hg:∀ i,i < es.length→(es ++ rest).getD i []=es.getD i []:=fun i hi=>by
    simp[T0,Us hi]
   refine ⟨k1,⟨c,e,f,hc,hf,?_⟩,fun i hi=>?_,fun i j hi hj=>?_⟩
   ·rw[UX,US] at hs; omega
   ·rw[← hg i hi]; exact k3 i (by rw[UX]; omega)
   ·rw[← hg i hi]; exact k4 i j (by rw[UX]; omega) hj
  ·exact hh'.obj k
 ·have h3:=hh'.inj i j b o s o' s' hne h1 h2
  rw[e1,e1]
  rcases h3 with h3 | h3
  ·left
   rw[T6 (fun e=>by rw[e,e2] at h3; simp at h3)]; exact h3
  ·right
   rw[T6 (fun e=>by rw[e,e2] at h3; simp at h3)]; exact h3
theorem aC.cut {P:Program} {f:FuncId} {vs:List V} {H:View} {K K':V→View→Prop} (h:aC P f vs H K) (hk:∀ r H',K r H'→K' r H'∨∃ id sz es rest,H' id=.arr sz (es ++ rest)∧K' r (H'.set id (.arr sz es))):aC P f vs H K':=by
 refine ⟨h.1,fun h0 hv=>?_⟩
 obtain ⟨r,h',ha,hs,hK⟩:=h.2 h0 hv
 rcases hk r _ hK with h1 | ⟨id,sz,es,rest,hid,h1⟩
 ·exact ⟨r,h',ha,hs,h1⟩
 ·have hlt:id < h'.length:=ig (by rw[hid]; simp)
  refine ⟨r,h'.set id (.arr sz es),ha.cut hid,fun k hk0 hd=>?_,by rw[jI hlt]; exact h1⟩
  have h2:=hs k hk0 hd
  rw[jI hlt]
  simp only[View.set]
  rw[T6 (fun e=>by rw[e,hid] at h2; simp at h2)]
  exact h2
instance:Inhabited aI:=⟨⟨0,0⟩⟩
def iG (x:aI):List Value:=[.int .i64 x.aH,.int .i64 x.dot]
def nH (a b:aI):Int:=if Lib.compareInt a.aH b.aH≠0 then Lib.compareInt a.aH b.aH else Lib.compareInt a.dot b.dot
theorem O4 (a b:aI):(Lib.compareInt a.aH b.aH≠0→nH a b=Lib.compareInt a.aH b.aH)∧(Lib.compareInt a.aH b.aH=0→nH a b=Lib.compareInt a.dot b.dot):=by
 unfold nH
 exact ⟨fun h=>by rw[T9 h],fun h=>by rw[T6 (by simp[h])]⟩
theorem r8 (a b:aI):ltOf nH a b=cH a b:=by
 have hc:∀ x y:Int,(x < y∧Lib.compareInt x y = -1)∨(x=y∧Lib.compareInt x y=0)∨(y < x∧Lib.compareInt x y=1):=fun x y=>by
  unfold Lib.compareInt; (repeat' split) <;> omega
 rw[Vc,eY]
 simp only[ltOf,Ul,nH]
 rcases hc a.aH b.aH with ⟨h,e⟩ | ⟨h,e⟩ | ⟨h,e⟩ <;> rcases hc a.dot b.dot with ⟨k,e2⟩ | ⟨k,e2⟩ | ⟨k,e2⟩ <;> simp[e,e2] <;> omega
theorem Kq:SWO (ltOf nH) where
 irrefl x:=by rw[r8]; exact kU
 trans x y z h k:=by rw[r8] at *; exact nF h k
 ntrans x y z h k:=by
  rw[r8] at *
  cases e:cH x z with
  | false=>rfl
  | true =>
   have h1:¬ cH x y=true:=by simp[h]
   have h2:¬ cH y z=true:=by simp[k]
   rw[eY] at h1 h2 e
   omega
def ew (l:List aI):List aI:=l.mergeSort fun x y=>!cH y x
theorem Mg (l:List aI):(l.toArray.toList.mergeSort fun x y=>!(ltOf nH) y x)=ew l:=by
 have e:(fun x y=>!(ltOf nH) y x)=fun x y=>!cH y x:=by funext x y; rw[r8]
 rw[e]; rfl
theorem zR (l:List aI):(ew l).Perm l:=List.mergeSort_perm _ _
theorem iL (l:List aI):(ew l).length=l.length:=(zR l).length_eq
theorem z6 (l:List aI):(ew l).Pairwise fun x y=>cH y x=false:=by
 have:=List.pairwise_mergeSort (le:=fun x y:aI=>!cH y x) (fun a b c h k=>by
  simp only[V6,Bool.not_eq_false'] at h k ⊢
  cases e:cH c a with
  | false=>simp
  | true =>
   have h1:¬ cH b a=true:=by simpa using h
   have h2:¬ cH c b=true:=by simpa using k
   rw[eY] at h1 h2 e
   omega) (fun a b=>by
  cases e:cH b a with
  | false=>simp
  | true=>simp[Ix e]) l
 exact this.imp fun h=>by simpa using h
def Me:Ren where
 f:=fun
  | 6=>112
  | 15=>167
  | 14=>166
  | 28=>207
  | 29=>208
  | 20=>199
  | 21=>200
  | 22=>201
  | 23=>202
  | 24=>203
  | 25=>204
  | 26=>205
  | 27=>206
  | 46=>227
  | 47=>228
  | 48=>229
  | 49=>230
  | 50=>231
  | 57=>244
  | n=>n
 t:=fun
  | 22=>27
  | 24=>33
  | 25=>164
  | 3=>3
  | 39=>212
  | 0=>0
  | 53=>67
  | 55=>249
  | 4=>4
  | 46=>242
  | 45=>241
  | 50=>30
  | 5=>5
  | 9=>9
  | 66=>269
  | 70=>273
  | 76=>282
  | 77=>283
  | n=>n
 g:=fun n=>n
theorem Qj:Go.Proofs.SlLaysF0.n6 Tryz.prog Me where
 mixed:=by kernel_rfl
 f6:=⟨Tryz.f112.name,by kernel_rfl,by kernel_rfl⟩
 f14:=⟨Tryz.f166.name,by kernel_rfl,by kernel_rfl⟩
 f15:=by kernel_rfl
 f20:=⟨Tryz.f199.name,by kernel_rfl,by kernel_rfl⟩
 f21:=⟨Tryz.f200.name,by kernel_rfl,by kernel_rfl⟩
 f22:=⟨Tryz.f201.name,by kernel_rfl,by kernel_rfl⟩
 f23:=⟨Tryz.f202.name,by kernel_rfl,by kernel_rfl⟩
 f24:=⟨Tryz.f203.name,by kernel_rfl,by kernel_rfl⟩
 f25:=⟨Tryz.f204.name,by kernel_rfl,by kernel_rfl⟩
 f26:=⟨Tryz.f205.name,by kernel_rfl,by kernel_rfl⟩
 f27:=⟨Tryz.f206.name,by kernel_rfl,by kernel_rfl⟩
 f28:=by kernel_rfl
 f29:=by kernel_rfl
 f46:=⟨Tryz.f227.name,by kernel_rfl,by kernel_rfl⟩
 f47:=by kernel_rfl
 f48:=by kernel_rfl
 f49:=⟨Tryz.f230.name,by kernel_rfl,by kernel_rfl⟩
 f50:=⟨Tryz.f231.name,by kernel_rfl,by kernel_rfl⟩
 f57:=⟨Tryz.f244.name,by kernel_rfl,by kernel_rfl⟩
 t0:=Tryz.underlying0
 a0:=Tryz.isAgg0
 z0:=Tryz.sizeOf0
 v0:=Tryz.zeroValue0
 t3:=Tryz.underlying3
 a3:=Tryz.isAgg3
 z3:=Tryz.sizeOf3
 v3:=Tryz.zeroValue3
 t4:=Tryz.underlying4
 a4:=Tryz.isAgg4
 z4:=Tryz.sizeOf4
 v4:=Tryz.zeroValue4
 t5:=Tryz.underlying5
 a5:=Tryz.isAgg5
 z5:=Tryz.sizeOf5
 v5:=Tryz.zeroValue5
 t9:=Tryz.underlying9
 a9:=Tryz.isAgg9
 z9:=Tryz.sizeOf9
 v9:=Tryz.zeroValue9
 t22:=Tryz.underlying27
 a22:=Tryz.isAgg27
 z22:=Tryz.sizeOf27
 v22:=Tryz.zeroValue27
 t25:=Tryz.underlying164
 a25:=Tryz.isAgg164
 z25:=Tryz.sizeOf164
 v25:=Tryz.zeroValue164
 t39:=Tryz.underlying212
 a39:=Tryz.isAgg212
 z39:=Tryz.sizeOf212
 v39:=Tryz.zeroValue212
 t45:=Tryz.underlying241
 a45:=Tryz.isAgg241
 z45:=Tryz.sizeOf241
 v45:=Tryz.zeroValue241
 t46:=Tryz.underlying242
 a46:=Tryz.isAgg242
 z46:=Tryz.sizeOf242
 v46:=Tryz.zeroValue242
 t50:=Tryz.underlying30
 a50:=Tryz.isAgg30
 z50:=Tryz.sizeOf30
 v50:=Tryz.zeroValue30
 t53:=Tryz.underlying67
 a53:=Tryz.isAgg67
 z53:=Tryz.sizeOf67
 v53:=Tryz.zeroValue67
 t55:=Tryz.underlying249
 a55:=Tryz.isAgg249
 z55:=Tryz.sizeOf249
 v55:=Tryz.zeroValue249
 t66:=Tryz.underlying269
 a66:=Tryz.isAgg269
 z66:=Tryz.sizeOf269
 v66:=Tryz.zeroValue269
 t70:=Tryz.underlying273
 a70:=Tryz.isAgg273
 z70:=Tryz.sizeOf273
 v70:=Tryz.zeroValue273
 t76:=Tryz.underlying282
 a76:=Tryz.isAgg282
 z76:=Tryz.sizeOf282
 v76:=Tryz.zeroValue282
 t77:=Tryz.underlying283
 a77:=Tryz.isAgg283
 z77:=Tryz.sizeOf283
 v77:=Tryz.zeroValue283
def Ps:Ren where
 f:=fun
  | 5=>126
  | 7=>173
  | n=>n
 t:=fun
  | 22=>3
  | 3=>3
  | 4=>4
  | n=>n
 g:=fun n=>n
theorem Ru:Go.Proofs.SlLaysC2.n5 Tryz.prog Ps where
 mixed:=by kernel_rfl
 f5:=⟨Tryz.f126.name,by kernel_rfl,by kernel_rfl⟩
 f7:=⟨Tryz.f173.name,by kernel_rfl,by kernel_rfl⟩
 t3:=Tryz.underlying3
 a3:=Tryz.isAgg3
 z3:=Tryz.sizeOf3
 v3:=Tryz.zeroValue3
 t4:=Tryz.underlying4
 a4:=Tryz.isAgg4
 z4:=Tryz.sizeOf4
 v4:=Tryz.zeroValue4
 t22:=Tryz.underlying3
 a22:=Tryz.isAgg3
 z22:=Tryz.sizeOf3
 v22:=Tryz.zeroValue3
section
attribute [local go_sem] Oper.semAt_some
set_option maxHeartbeats 4000000 in
theorem IA (x y:Int) (b cap:Nat) (W:World) (h0:W.cell? ⟨b,0,none⟩=some (.int .i64 x)) (h1:W.cell? ⟨b,1,none⟩=some (.int .i64 y)) (r:Int) (hr:(x≠0→r=x)∧(x=0→r=y)) :
  Calls Tryz.prog 168 #[.slice (some ⟨b,0,none⟩) 2 cap] W fun e w'=>e=.returned (.int .i64 r)∧w'=W:=by
 go_enter Tryz.func168,Tryz.ntmps168
 go_wp2
 refine wp_loop_rounds 3 ?_
 rw[rounds_succ]
 go_wp2
 ·rename_i h
  go_ret
  exact ⟨by rw[hr.1 (by simpa using h)]; rfl,rfl⟩
 ·rename_i h
  have hx:x=0:=by simpa using h
  rw[rounds_succ]
  go_wp2
  ·rename_i h
   go_ret
   exact ⟨by rw[hr.2 hx]; rfl,rfl⟩
  ·rename_i h
   rw[rounds_succ]
   go_wp2
   go_ret
   exact ⟨by rw[hr.2 hx,show y=0 by simpa using h]; rfl,rfl⟩
structure Sq (p:Prop):Prop where
 out:p
set_option maxHeartbeats 4000000 in
theorem Iv (x1 x2 y1 y2:Int) (W:World) (r:Int) (hr:(Lib.compareInt x1 y1≠0→r=Lib.compareInt x1 y1)∧(Lib.compareInt x1 y1=0→r=Lib.compareInt x2 y2)) :
  Calls Tryz.prog 113 #[.agg #[.int .i64 x1,.int .i64 x2],.agg #[.int .i64 y1,.int .i64 y2]] W fun e w'=>e=.returned (.int .i64 r)∧∃ q os',w'=grow (W.drewN q) os':=by
 have hcon1:=fun W'=>AnyG.cmp_Compare_int Ru x1 y1 W'
 change ∀ W',Calls Tryz.prog 126 _ _ _ at hcon1
 have hcon2:=fun W'=>AnyG.cmp_Compare_int Ru x2 y2 W'
 change ∀ W',Calls Tryz.prog 126 _ _ _ at hcon2
 generalize Lib.compareInt x1 y1=c1 at *
 generalize Lib.compareInt x2 y2=c2 at *
 go_enter Tryz.func113,Tryz.ntmps113
 go_wp2_with (first | (go_at_call 126; refine (hcon1 _).mono ?_; rintro e w' ⟨rfl,rfl⟩) | (go_at_call 126; refine (hcon2 _).mono ?_; rintro e w' ⟨rfl,rfl⟩))
 obtain ⟨b1,hb1⟩:∃ b1,b1=W.heap.size:=⟨_,rfl⟩
 obtain ⟨b2,hb2⟩:∃ b2,b2=W.heap.size+1:=⟨_,rfl⟩
 rw[← hb2,← hb1]
 generalize hW1:(W.alloc (Obj.cells #[Value.int IntKind.i64 x1,Value.int IntKind.i64 x2] 33)).alloc (Obj.cells #[Value.int IntKind.i64 y1,Value.int IntKind.i64 y2] 33)=W1
 have hh1:W1.heap[b1]?=some (.cells #[Value.int IntKind.i64 x1,Value.int IntKind.i64 x2] 33 (0,0)):=by
  rw[← hW1,hb1]; exact (Below.heap_alloc _ _ _ (by simp)).trans (World.alloc_heap_new W _)
 have hh2:W1.heap[b2]?=some (.cells #[Value.int IntKind.i64 y1,Value.int IntKind.i64 y2] 33 (0,0)):=by
  rw[← hW1,hb2]
  have:=World.alloc_heap_new (W.alloc (Obj.cells #[Value.int IntKind.i64 x1,Value.int IntKind.i64 x2] 33)) (Obj.cells #[Value.int IntKind.i64 y1,Value.int IntKind.i64 y2] 33)
  rwa [World.size_alloc] at this
 have k0:W1.cell? ⟨b1,0,none⟩=some (.int .i64 x1):=by unfold World.cell?; rw[hh1]; rfl
 have k1:W1.cell? ⟨b1,1,none⟩=some (.int .i64 x2):=by unfold World.cell?; rw[hh1]; rfl
 have k2:W1.cell? ⟨b2,0,none⟩=some (.int .i64 y1):=by unfold World.cell?; rw[hh2]; rfl
 have k3:W1.cell? ⟨b2,1,none⟩=some (.int .i64 y2):=by unfold World.cell?; rw[hh2]; rfl
 clear hh1 hh2
 refine wp_region_still_tail 10 (by kernel_rfl) (by kernel_rfl) ?_
 change wpStill _ _ W1.drew (fun a'=>wpList _ _ _ _ a' W1.drew) _ _
 generalize hW2:W1.drew=W2
 replace k0:W2.cell? ⟨b1,0,none⟩=some (.int .i64 x1):=by rw[← hW2]; exact k0
 replace k1:W2.cell? ⟨b1,1,none⟩=some (.int .i64 x2):=by rw[← hW2]; exact k1
 replace k2:W2.cell? ⟨b2,0,none⟩=some (.int .i64 y1):=by rw[← hW2]; exact k2
 replace k3:W2.cell? ⟨b2,1,none⟩=some (.int .i64 y2):=by rw[← hW2]; exact k3
 have hgr:Sq (W2=grow (W.drewN 1) #[Obj.cells #[Value.int IntKind.i64 x1,Value.int IntKind.i64 x2] 33,Obj.cells #[Value.int IntKind.i64 y1,Value.int IntKind.i64 y2] 33]):=by
  refine ⟨?_⟩
  rw[← hW2,← hW1,alloc_eq_grow,alloc_eq_grow,grow_grow]; rfl
 clear hW1 hW2 hb1 hb2
 simp only[VJ,List.take_zero,List.drop_succ_cons,Vj]
 iterate 4 still_step
 still_call (hcon1 _)
 iterate 4 still_step
 still_call (hcon2 _)
 refine wpStill_nil ?_
 go_wp2_with (go_at_call 168; refine (IA c1 c2 _ _ _ ?_ ?_ r hr).mono ?_)
 ·unfold World.cell?; rw[World.alloc_heap_new]; rfl
 ·unfold World.cell?; rw[World.alloc_heap_new]; rfl
 ·rintro e w' ⟨rfl,rfl⟩
  go_wp2
  go_ret
  refine ⟨rfl,1,#[Obj.cells #[Value.int IntKind.i64 x1,Value.int IntKind.i64 x2] 33,Obj.cells #[Value.int IntKind.i64 y1,Value.int IntKind.i64 y2] 33,Obj.cells #[Value.int IntKind.i64 c1,Value.int IntKind.i64 c2] 3],?_⟩
  rw[hgr.out,alloc_eq_grow,grow_grow]; rfl
end
theorem GQ {Z:Nat→Prop} {μ:Mu} {hp:Array Obj} {id off len esz:Nat} {x:Value} (h:aF Z μ hp (.sl id off len esz) x) :
  (len=0∧∃ a,x=.slice a 0 0)∨∃ b o0 cap,∃ c:Array Value,∃ e f,x=.slice (some ⟨b,o0+off * esz,none⟩) len cap∧μ id=some (b,o0,esz)∧len≤cap∧hp[b]?=some (.cells c e f)∧o0+(off+cap) * esz≤c.size:=by
 cases h with
 | oZ _ _ _ a=>exact .inl ⟨rfl,a,rfl⟩
 | sl _ _ _ _ b o0 cap c e f h1 h2 h3 h4=>exact .inr ⟨b,o0,cap,c,e,f,rfl,h1,h2,h3,h4⟩
theorem RZ {Z:Nat→Prop} {μ:Mu} {hp:Array Obj} {f:FuncId} {x:Value} (h:aF Z μ hp (.fn f [] []) x):x=.func (.func f) #[] #[]:=by
 cases h with
 | fn _ _ _ aas bs h1 h2 _ _ =>
  rw[Array.eq_empty_of_size_eq_zero h1.symm,Array.eq_empty_of_size_eq_zero h2.symm]
theorem Ds (w:World) (b o0 m:Nat) (d:Array aI) (os:Array Obj) {j:Nat} (hj:j < w.heap.size):(sortWorldK iG 2 w b o0 m d os).heap[j]?=if b=j then (w.heap[j]?).map (onCells (putCells id o0 (flatK iG 2 d))) else w.heap[j]?:=by
 unfold sortWorldK grow putRowK putRow mapBlock
 simp only[Sort.ahead]
 rw[Vo (by simpa using hj),Array.getElem?_modify]
set_option maxHeartbeats 4000000 in
theorem Pk (l:List aI) (hl:l.length < 1152921504606846976) (u:V) (H:View) (ho:bf H u 2 (aS l)):aC Tryz.prog 112 [u,.fn 113 [] []] H fun r H'=>r=.bE []∧(∀ id,owner u≠some id→H' id=H id)∧bf H' u 2 (aS (ew l)):=by
 refine ⟨by kernel_rfl,?_⟩
 rintro h rfl
 have eg:∀ args w,(callFunc 113 args).run Tryz.prog w=.ok (.enter 113 args) w:=enters_of Tryz.func113 (by kernel_rfl) rfl
 by_cases hnil:l=[]
 ·subst hnil
  refine ⟨.bE [],h,⟨Ug _,fun Z μ F w xs hrel hr hfree=>?_⟩,.refl _,rfl,fun _ _=>rfl,by simpa [ew] using ho⟩
  obtain ⟨hlen,hv⟩:=hrel
  obtain ⟨x,y,rfl⟩:∃ x y,xs=[x,y]:=by
   match xs,hlen with
   | [x,y],_=>exact ⟨x,y,rfl⟩
  have h0:aF Z μ w.heap u x:=hv 0 (by simp)
  obtain ⟨p,cap,rfl⟩:∃ p cap,x=.slice p 0 cap:=by
   rcases ho with ⟨_,k,rfl⟩ | ⟨n,rfl,_⟩
   ·cases h0 with | emp _ a _ _=>exact ⟨a,0,rfl⟩
   ·rcases GQ h0 with ⟨_,a,e⟩ | ⟨b,o0,cap,c,e,f,e2,_⟩
    ·exact ⟨a,0,e⟩
    ·exact ⟨_,cap,e2⟩
  refine (AnyF.slices_SortFunc_none Qj p cap y w).mono ?_
  rintro e w' ⟨rfl,rfl⟩
  exact ⟨.tuple #[],Z,μ,rfl,.bE [] #[] rfl (fun i hi=>by simp at hi),hr,Ext.refl _ _ _ _,fun _ _=>rfl⟩
 have hpos:0 < l.length:=VY.2 hnil
 obtain ⟨n,rfl,hn⟩:=ho.sl (by rw[bF]; exact hpos)
 rw[bF]
 have hlt:n < h.length:=ig (by rw[hn]; simp)
 refine ⟨.bE [],h.set n (.arr 2 (aS (ew l))),⟨by simp,fun Z μ F w xs hrel hr hfree=>?_⟩,fun k hk hd=>?_,rfl,fun id hid=>?_,?_⟩
 rotate_left
 ·rw[jI hlt]
  simp only[View.set]
  rw[T6 (fun e=>by rw[e,hn] at hd; simp at hd)]; exact hd
 ·rw[jI hlt]
  simp only[View.set]
  rw[T6 (fun e=>hid (by rw[e]; rfl))]
 ·refine .inr ⟨n,by rw[bF,iL],?_⟩
  rw[jI hlt]; simp[View.set]
 obtain ⟨hlen,hv⟩:=hrel
 obtain ⟨x,y,rfl⟩:∃ x y,xs=[x,y]:=by
  match xs,hlen with
  | [x,y],_=>exact ⟨x,y,rfl⟩
 have h0:aF Z μ w.heap (.sl n 0 l.length 2) x:=hv 0 (by simp)
 have h1:aF Z μ w.heap (.fn 113 [] []) y:=hv 1 (by simp)
 have hy:=RZ h1
 subst hy
 rcases GQ h0 with ⟨e,_⟩ | ⟨b,o0,cap,c0,e0,f0,rfl,hμ,hcap,_,_⟩
 ·omega
 rw[Nat.zero_mul,VM]
 have hcat:cat h F n=.arr 2 (aS l):=by simp only[cat]; rw[T9 hlt,hn]
 have hob:=hr.obj n
 rw[hcat] at hob
 obtain ⟨_,⟨c,ty,fz,hc,hfz,hsz⟩,hq,hcell⟩:=hob b o0 2 hμ
 rw[bF] at hsz hq hcell
 have hbl:b < w.heap.size:=hr.lt _ _ _ _ hμ
 have hgl:∀ (m:List aI) (i:Nat) (hi:i < m.length),(aS m).getD i []=bK m[i]:=fun m i hi=>by simp[aS,T0,hi]
 have hH:HoldsK iG 2 w b o0 l.toArray:=by
  intro j hj
  rw[size_flatK] at hj
  have hj':j < l.length * 2:=by simpa using hj
  have hi:j / 2 < l.length:=by omega
  obtain ⟨x,hx,hxv⟩:=hcell (j / 2) (j % 2) hi (by omega)
  rw[show o0+j / 2 * 2+j % 2=o0+j by omega] at hx
  have hxe:x=(flatK iG 2 l.toArray)[j]!:=by
   rw[get_flatK _ _ _ _ hj]
   rw[hgl l _ hi] at hxv
   have e1:l.toArray[j / 2]! = l[j / 2]:=by simp[hi]
   rw[e1]
   rcases Uv (j % 2) 1 with h2 | h2
   ·rw[show j % 2=0 by omega] at hxv ⊢
    simp only[bK,Ve] at hxv
    cases hxv; rfl
   ·rw[show j % 2=1 by omega] at hxv ⊢
    simp only[bK,VK,Ve] at hxv
    cases hxv; rfl
  refine ⟨by rw[nq,hx,hxe]; rfl,?_⟩
  simp only[World.frozen?,hc]
  rcases hfz with e | e
  ·simp only[e,Bool.and_eq_false_iff,Vw]; omega
  ·simp only[Bool.and_eq_false_iff,Vw]; omega
 have hT:∀ x y,(ltOf nH) x y=false→(ltOf nH) y x=false→x=y:=fun x y h1 h2=>by
  rw[r8] at h1 h2
  exact U7 fun hne=>by rw[vS h1 hne] at h2; simp at h2
 have hrun:=AnyQ.slices_SortFunc_total Qj 2 Tryz.isAgg33 Tryz.sizeOf33 iG (fun _=>rfl) (fun x v hv=>by simp[iG] at hv; rcases hv with rfl | rfl <;> rfl) nH Kq 113 #[] b o0 cap l.toArray w eg (fun _ _ _ _ x y=>Iv x.aH x.dot y.aH y.dot _ _ (O4 x y)) hH hbl (by simp; omega) hT
 rw[Mg] at hrun
 refine Calls.mono (show Calls Tryz.prog 112 _ w _ from hrun) ?_
 rintro e w' ⟨rfl,m,os,rfl⟩
 have hsl:=iL l
 have hheap:=fun {j:Nat} (hj:j < w.heap.size)=>Ds w b o0 m (ew l).toArray os hj
 have hafter:HoldsK iG 2 (sortWorldK iG 2 w b o0 m (ew l).toArray os) b o0 (ew l).toArray:=SWK.holds ⟨m,os,rfl⟩ hbl hH (by simp[hsl])
 have hsize:w.heap.size≤(sortWorldK iG 2 w b o0 m (ew l).toArray os).heap.size:=SWK.le (dk:=(ew l).toArray) ⟨m,os,rfl⟩
 have hsame:eE w (sortWorldK iG 2 w b o0 m (ew l).toArray os):=⟨rfl,rfl,rfl,hsize⟩
 generalize sortWorldK iG 2 w b o0 m (ew l).toArray os=w' at *
 have hb':w'.heap[b]?=some (.cells (putCells id o0 (flatK iG 2 (ew l).toArray) c) ty fz):=by
  rw[hheap hbl,T9 rfl,hc]; rfl
 have heff:mh Z μ μ w.heap w'.heap h.length (.eW n (.arr 2 (aS (ew l)))):=by
  refine ⟨b,o0,2,hμ,rfl,fun j hj hne=>by rw[hheap hj,T6 (fun e=>hne e.symm)],fun j cc ee ff hjj=>?_,?_⟩
  ·have hjl:j < w.heap.size:=by
    rcases Uv j w.heap.size with q | q
    ·exact q
    ·simp[Vr q] at hjj
   by_cases e:b=j
   ·subst e
    rw[hc] at hjj
    simp only[T7,Obj.cells.injEq] at hjj
    obtain ⟨rfl,rfl,rfl⟩:=hjj
    exact ⟨_,_,hb',by simp[putCells]⟩
   ·exact ⟨cc,ff,by rw[hheap hjl,T6 e]; exact hjj,rfl⟩
  ·intro b1 o1 s1 h1
   rw[hμ] at h1
   simp only[T7,Ua] at h1
   obtain ⟨rfl,rfl,rfl⟩:=h1
   refine ⟨rfl,⟨_,ty,fz,hb',?_,?_⟩,fun i hi=>?_,fun i j hi hj=>?_⟩
   ·simpa [putCells] using hfz
   ·rw[bF,hsl]; simpa [putCells] using hsz
   ·rw[bF] at hi; rw[hgl _ i hi]; rfl
   ·rw[bF] at hi
    have:=(hafter.cell (i:=i) (c:=j) (by simpa using hi) hj).1
    rw[nq] at this
    refine ⟨_,this,?_⟩
    rw[hgl _ i hi]
    have e1:(ew l).toArray[i]! = (ew l)[i]:=by simp[hi]
    rw[e1]
    match j,hj with
    | 0,_=>exact .val _ rfl
    | 1,_=>exact .val _ rfl
 have hne:cat h F n≠.dead:=by rw[hcat]; simp
 have hrel':=hr.eff (n:=h.length) (eff:=.eW n (.arr 2 (aS (ew l)))) (by trivial) hsize heff (fun id o e=>by cases e; exact hne) (fun id o e=>by cases e)
 obtain ⟨hext,hmu⟩:=heff.ext hsame (by trivial) hr.cL hr.gM
 refine ⟨.tuple #[],Z,μ,rfl,.bE [] #[] rfl (fun i hi=>by simp at hi),?_,hext,fun _ _=>rfl⟩
 have ev:cat (h.set n (.arr 2 (aS (ew l)))) F=bC.view (cat h F) h.length (.eW n (.arr 2 (aS (ew l)))):=by
  funext k
  simp only[cat,bC.view,View.set,List.length_set]
  by_cases hk:k < h.length
  ·rw[T9 hk,T9 hk,jI hlt]; rfl
  ·rw[T6 hk,T6 hk,T6 (by omega)]
 rw[ev]
 exact hrel'
abbrev gQ:aI:=⟨0,0⟩
def fj (l:List aI):Nat→List aI
 | 0=>[]
 | n+1=>if n=0∨l.getD n gQ≠l.getD (n - 1) gQ then fj l n ++ [l.getD n gQ] else fj l n
theorem xI (l:List aI):∀ n,n≤l.length→(∀ j,0 < j→j < n→l.getD j gQ≠l.getD (j - 1) gQ)→fj l n=l.take n
 | 0,_,_=>by simp[fj]
 | n+1,hn,h=>by
  have ih:=xI l n (by omega) fun j h1 h2=>h j h1 (by omega)
  have hx:l[n]?=some (l.getD n gQ):=getD_some (by omega)
  rw[fj,T9,ih,Uw,hx]
  ·rfl
  ·by_cases e:n=0
   ·exact .inl e
   ·exact .inr (h n (by omega) (by omega))
def zg (l:List aI):List aI:=fj (ew l) l.length
theorem wJ {l:List aI} (hp:l.Pairwise fun x y=>cH y x=false):∀ n,n≤l.length→cx (fj l n)∧(∀ x,x∈fj l n↔∃ i,i < n∧l.getD i gQ=x)
 | 0,_=>by simp[fj,cx]
 | n+1,hn=>by
  obtain ⟨h1,h2⟩:=wJ hp n (by omega)
  have hge:∀ i j,i < j→j < l.length→cH (l.getD j gQ) (l.getD i gQ)=false:=fun i j hij hj=>by
   have:=List.pairwise_iff_getElem.1 hp i j (by omega) hj hij
   simpa [T0,T4 hj,T4 (show i < l.length by omega)] using this
  rw[fj]
  split
  ·rename_i hc
   refine ⟨?_,fun x=>?_⟩
   ·rw[cx,List.pairwise_append]
    refine ⟨h1,by simp,fun a ha b hb=>?_⟩
    rw[UT] at hb; subst hb
    obtain ⟨i,hi,rfl⟩:=(h2 a).1 ha
    have hc:l.getD n gQ≠l.getD (n - 1) gQ:=hc.resolve_left (by omega)
    have k1:=vS (hge (n - 1) n (by omega) (by omega)) hc
    rcases Uv i (n - 1) with h | h
    ·have k2:=hge i (n - 1) h (by omega)
     have k3:¬ cH (l.getD (n - 1) gQ) (l.getD i gQ)=true:=by rw[k2]; simp
     rw[eY] at k1 k3 ⊢
     omega
    ·have:i=n - 1:=by omega
     subst this; exact k1
   ·rw[Uy,h2,UT]
    constructor
    ·rintro (⟨i,hi,e⟩ | e)
     ·exact ⟨i,by omega,e⟩
     ·exact ⟨n,by omega,e.symm⟩
    ·rintro ⟨i,hi,e⟩
     rcases Uv i n with h | h
     ·exact .inl ⟨i,h,e⟩
     ·have:i=n:=by omega
      subst this; exact .inr e.symm
  ·rename_i hc
   simp only[not_or,Decidable.not_not] at hc
   refine ⟨h1,fun x=>?_⟩
   rw[h2]
   constructor
   ·rintro ⟨i,hi,e⟩; exact ⟨i,by omega,e⟩
   ·rintro ⟨i,hi,e⟩
    rcases Uv i n with h | h
    ·exact ⟨i,h,e⟩
    ·have:i=n:=by omega
     subst this
     exact ⟨i - 1,by omega,by rw[← hc.2]; exact e⟩
theorem Bl (l:List aI):cx (zg l):=(wJ (z6 l) _ (by rw[iL]; exact Ug _)).1
theorem qi {l:List aI} {x:aI} : x∈zg l↔x∈l:=by
 rw[zg,(wJ (z6 l) _ (by rw[iL]; exact Ug _)).2,← (zR l).mem_iff,U6]
 constructor
 ·rintro ⟨i,hi,e⟩
  have hi':i < (ew l).length:=by rw[iL]; exact hi
  exact ⟨i,hi',by rw[T0,T4 hi'] at e; exact e⟩
 ·rintro ⟨i,hi,e⟩
  exact ⟨i,by rw[iL] at hi; exact hi,by rw[T0,T4 hi]; exact e⟩
theorem Kj {l:List aI} (h:cx l):zg l=l:=yR (Bl l) h fun _=>qi
def jz (g:aw) (s:Int):Int:=if s < 0 then (g.az.length:Int) - 1 - s else s
theorem wx (g:aw) (k:Nat):jz g (aZ g k)=k:=by
 unfold jz aZ; split <;> split <;> omega
theorem HS {g:aw} {s:Int} (h1:s < g.az.length):0≤jz g s∧aZ g (jz g s).toNat=s:=by
 unfold jz aZ; split
 ·rw[T6 (by omega)]; omega
 ·rw[T9 (by omega)]; omega
theorem pn {g:aw} {s:Int} (h:iz g s=true):s < g.az.length∧jz g s < g.az.length+g.ax.length:=by
 unfold iz at h
 unfold jz
 by_cases h0:0≤s
 ·rw[T9 h0] at h
  rw[T6 (by omega)]
  simp at h
  omega
 ·rw[T6 h0] at h
  rw[T9 (by omega)]
  simp at h
  omega
def fP (l:List aI):List UInt8:=l.flatMap fun x=>[UInt8.ofNat (x.aH+1).toNat,UInt8.ofNat x.dot.toNat]
theorem L4 {a b:Nat} (ha:a < 256) (hb:b < 256) (h:UInt8.ofNat a=UInt8.ofNat b):a=b:=by
 have:=Vl UInt8.toNat h
 simp at this
 omega
theorem Gd {g:aw} (hf:g.dt):∀ {a b:List aI},(∀ x∈a,cq g x)→(∀ x∈b,cq g x)→fP a=fP b→a=b
 | [],[],_,_,_=>rfl
 | [],y :: b,_,_,h=>by simp[fP] at h
 | x :: a,[],_,_,h=>by simp[fP] at h
 | x :: a,y :: b,ha,hb,h=>by
  simp only[fP,List.flatMap_cons,UI,Vb,V3] at h
  obtain ⟨h1,h2,h3⟩:=h
  have hx:=ha x (by simp)
  have hy:=hb y (by simp)
  have hr:=hf.rules
  have e1:=eU hf hx.1
  have e2:=eU hf hy.1
  have:=hx.1; have:=hx.2; have:=hy.1; have:=hy.2
  have k1:=L4 (by omega) (by omega) h1
  have k2:=L4 (by omega) (by omega) h2
  have ih:=Gd hf (fun z hz=>ha z (by simp[hz])) (fun z hz=>hb z (by simp[hz])) h3
  obtain ⟨xr,xd⟩:=x
  obtain ⟨yr,yd⟩:=y
  simp only at *
  have:xr=yr:=by omega
  have:xd=yd:=by omega
  subst_vars; rfl
structure jw (g:aw) (a:List aT):Prop where
 first:(a.getD 0 bz).bh=[⟨-1,0⟩]
 kI:∀ s∈a,∀ e∈s.bm,(a.getD e.to.toNat bz).bh=bu g (cr g s.bh) e.sym
theorem kQ (l:List aT) (i:Nat) (c:dC) (j:Nat):((l.modify i fun x=>(⟨x.bh,x.bm ++ [c]⟩:aT)).getD j bz).bh=(l.getD j bz).bh:=by
 simp only[T0,List.getElem?_modify]
 cases l[j]? with
 | none=>rfl
 | some x =>
  by_cases e:i=j
  ·subst e; simp
  ·simp[e]
theorem jw.put {g:aw} {out:List aT} (h:jw g out) {at_:Nat} {s to:Int} (ht:(out.getD to.toNat bz).bh=bu g (cr g (out.getD at_ bz).bh) s):jw g (out.modify at_ fun x=>(⟨x.bh,x.bm ++ [⟨s,to⟩]⟩:aT)):=by
 refine ⟨by rw[kQ]; exact h.first,fun y hy e he=>?_⟩
 rw[kQ]
 rcases mem_modify hy with hy | ⟨x,hx,rfl⟩
 ·exact h.kI y hy e he
 ·rcases Uy.1 he with he | he
  ·exact h.kI x (Ub hx) e he
  ·simp at he; subst he
   rw[ht,T0,hx]; rfl
theorem jw.add {g:aw} {out:List aT} (h:jw g out) (h1:1≤out.length) (ht:∀ s∈out,∀ e∈s.bm,0≤e.to∧e.to < out.length) (k:List aI):jw g (out ++ [⟨k,[]⟩]):=by
 have hg:∀ j:Nat,j < out.length→((out ++ [(⟨k,[]⟩:aT)]).getD j bz)=out.getD j bz:=fun j hj=>by
  simp[T0,Us hj]
 refine ⟨by rw[hg 0 (by omega)]; exact h.first,fun y hy e he=>?_⟩
 rcases Uy.1 hy with hy | hy
 ·have:=ht y hy e he
  rw[hg _ (by omega)]; exact h.kI y hy e he
 ·simp at hy; subst hy; simp at he
theorem Mp (g:aw) (l:List aI) (at_:Nat) (out:List aT) (i:Nat) {j:Nat} (hj:j < out.length):((c8 g l at_ out i).getD j bz).bh=(out.getD j bz).bh:=by
 unfold c8
 split
 ·rfl
 ·split
  ·rw[kQ]
   simp[T0,Us hj]
  ·rw[kQ]
theorem jw.step {g:aw} {l:List aI} {at_ i:Nat} {out:List aT} (h:jw g out) (hi:dN g at_ i out) (ha:at_ < out.length) (hl:cr g (out.getD at_ bz).bh=l):jw g (c8 g l at_ out i):=by
 unfold c8
 split
 ·exact h
 ·split
  ·refine (h.add (by omega) hi.to _).put ?_
   rw[Uq]
   have e1:((out ++ [(⟨bu g l (aZ g i),[]⟩:aT)]).getD out.length bz).bh=bu g l (aZ g i):=by
    simp[T0]
   have e2:(out ++ [(⟨bu g l (aZ g i),[]⟩:aT)]).getD at_ bz=out.getD at_ bz:=by
    simp[T0,Us ha]
   rw[e1,e2,hl]
  ·rename_i hf
   refine h.put ?_
   obtain ⟨n,hn⟩:∃ n:Nat,findD out (bu g l (aZ g i))=n:=⟨(findD out (bu g l (aZ g i))).toNat,by omega⟩
   obtain ⟨s,h1,h2⟩:=GH _ _ _ hn
   rw[hn,Uq,T0,h1,hl]
   exact h2
theorem jw.row {g:aw} (hf:g.dt) {at_:Nat} {out:List aT} (h:jw g out) (hi:dN g at_ 0 out) (ha:at_ < out.length):∀ n:Nat,n≤40→jw g ((List.range n).foldl (c8 g (cr g (out.getD at_ bz).bh) at_) out)∧(((List.range n).foldl (c8 g (cr g (out.getD at_ bz).bh) at_) out).getD at_ bz).bh=(out.getD at_ bz).bh
 | 0,_=>⟨h,rfl⟩
 | n+1,hn=>by
  obtain ⟨h1,h2⟩:=jw.row hf h hi ha n (by omega)
  obtain ⟨i1,i2,i3⟩:=dN.row (hi.nU hf ha).1 (hi.nU hf ha).2 hi n (by omega)
  rw[U4,UM]
  simp only[Uu,Vk]
  refine ⟨h1.step i1 (by omega) (by rw[h2]),?_⟩
  rw[Mp _ _ _ _ _ (by omega),h2]
theorem BN {g:aw} (hf:g.dt):∀ (f at_:Nat) (out:List aT),dN g at_ 0 out→jw g out→(fh g f at_ out).2=0→jw g (fh g f at_ out).1
 | 0,_,out,_,h,_=>h
 | f+1,at_,out,hi,h,h3=>by
  rw[fh] at h3 ⊢
  split
  ·rename_i ha
   rw[T9 ha] at h3
   have hr:=dN.row (hi.nU hf ha).1 (hi.nU hf ha).2 hi (g.az.length+g.ax.length) (by have:=hf.az; have:=hf.ax; omega)
   have he:=h.row hf hi ha (g.az.length+g.ax.length) (by have:=hf.az; have:=hf.ax; omega)
   rw[show (List.range (g.az.length+g.ax.length)).foldl (c8 g (cr g (out.getD at_ bz).bh) at_) out=AW g at_ out (g.az.length+g.ax.length) from rfl] at hr he
   split
   ·rename_i hc; rw[T9 hc] at h3; simp at h3
   ·rename_i hc
    rw[T6 hc] at h3
    exact BN hf f (at_+1) _ hr.1.next he.1 h3
  ·exact h
theorem Bx {g:aw} (hf:g.dt) (h:(cy g).2=0):jw g (cy g).1:=by
 unfold cy at h ⊢
 split
 ·rename_i hr
  rw[T9 hr] at h
  exact BN hf 302 0 dO mM ⟨rfl,fun s hs e he=>by simp[dO] at hs; subst hs; simp at he⟩ h
 ·rename_i hr
  rw[T6 hr] at h
  simp at h
theorem ze {a:List aT} {i:Nat} {e:dC} (h:e∈(a.getD i bz).bm):i < a.length∧a.getD i bz∈a:=by
 rcases Uv i a.length with hi | hi
 ·exact ⟨hi,Ub (getD_some hi)⟩
 ·rw[T0,UF hi] at h; simp at h
theorem mr.bh {g:aw} {l:List aI} {x:aI} (h:mr g l x) (hd:x.dot≠0∨x.aH < 0):x∈l:=by
 cases h with
 | base h=>exact h
 | step=>simp at hd; omega
def kf (g:aw) (l:List aI) (n:Nat):List Int:=((List.range n).filter fun i=>decide (bu g l (aZ g i)≠[])).map fun (i:Nat)=>aZ g i
theorem CE (g:aw) (l:List aI) (n:Nat):kf g l (n+1)=if bu g l (aZ g n)=[] then kf g l n else kf g l n ++ [aZ g n]:=by
 unfold kf
 rw[U4,Vq,UA]
 by_cases h:bu g l (aZ g n)=[]
 ·rw[T9 h]; simp[h]
 ·rw[T6 h]; simp[h]
structure mA (g:aw) (at_ i:Nat) (out:List aT):Prop where
 one:(out.map aT.bh).Nodup
 back:∀ j:Nat,0 < j→j < out.length→∃ (i:Nat) (e:dC),i < j∧e∈(out.getD i bz).bm∧e.to=j
 done:∀ j:Nat,j < at_→j < out.length→(out.getD j bz).bm.map dC.sym=kf g (cr g (out.getD j bz).bh) (g.az.length+g.ax.length)
 here:at_ < out.length→(out.getD at_ bz).bm.map dC.sym=kf g (cr g (out.getD at_ bz).bh) i
theorem rC (l:List aT) (i:Nat) (c:dC) (j:Nat) (hi:i < l.length):((l.modify i fun x=>(⟨x.bh,x.bm ++ [c]⟩:aT)).getD j bz).bm=if i=j then (l.getD j bz).bm ++ [c] else (l.getD j bz).bm:=by
 simp only[T0,List.getElem?_modify]
 by_cases e:i=j
 ·subst e; simp[hi]
 ·cases l[j]? with
  | none=>simp[e]
  | some x=>simp[e]
theorem Db (l:List aT) (i:Nat) (c:dC):(l.modify i fun x=>(⟨x.bh,x.bm ++ [c]⟩:aT)).map aT.bh=l.map aT.bh:=by
 apply List.ext_getElem?
 intro j
 simp only[T8,List.getElem?_modify]
 cases l[j]? with
 | none=>rfl
 | some x=>by_cases e:i=j <;> simp[e]
theorem mA.put {g:aw} {at_ i:Nat} {out:List aT} {to:Int} (ha:at_ < out.length) (h1:(out.map aT.bh).Nodup) (h2:∀ j:Nat,0 < j→j < out.length→(∃ (i:Nat) (e:dC),i < j∧e∈(out.getD i bz).bm∧e.to=j)∨(at_ < j∧to=j))
  (h3:∀ j:Nat,j < at_→j < out.length→(out.getD j bz).bm.map dC.sym=kf g (cr g (out.getD j bz).bh) (g.az.length+g.ax.length)) (h4:(out.getD at_ bz).bm.map dC.sym=kf g (cr g (out.getD at_ bz).bh) i)
  (hne:bu g (cr g (out.getD at_ bz).bh) (aZ g i)≠[]):mA g at_ (i+1) (out.modify at_ fun x=>(⟨x.bh,x.bm ++ [⟨aZ g i,to⟩]⟩:aT)):=by
 refine ⟨by rw[Db]; exact h1,fun j hj hl=>?_,fun j hj hl=>?_,fun _=>?_⟩
 ·rw[List.length_modify] at hl
  rcases h2 j hj hl with ⟨k,e,a1,a2,a3⟩ | ⟨a1,a2⟩
  ·refine ⟨k,e,a1,?_,a3⟩
   rw[rC _ _ _ _ ha]
   split
   ·exact Vz _ a2
   ·exact a2
  ·refine ⟨at_,⟨aZ g i,to⟩,a1,?_,a2⟩
   rw[rC _ _ _ _ ha,T9 rfl]
   simp
 ·rw[List.length_modify] at hl
  rw[rC _ _ _ _ ha,T6 (by omega),kQ]
  exact h3 j hj hl
 ·rw[rC _ _ _ _ ha,T9 rfl,kQ,UA,h4,CE,T6 hne]; rfl
theorem mA.step {g:aw} {at_ i:Nat} {out:List aT} (h:mA g at_ i out) (ha:at_ < out.length):mA g at_ (i+1) (c8 g (cr g (out.getD at_ bz).bh) at_ out i):=by
 unfold c8
 split
 ·rename_i hm
  exact ⟨h.one,h.back,h.done,fun _=>by rw[CE,T9 hm]; exact h.here ha⟩
 ·rename_i hm
  split
  ·rename_i hf
   have hg:∀ j:Nat,j < out.length→((out ++ [(⟨bu g (cr g (out.getD at_ bz).bh) (aZ g i),[]⟩:aT)]).getD j bz)=out.getD j bz:=fun j hj=>by
    simp[T0,Us hj]
   refine mA.put (by simp; omega) ?_ (fun j hj hl=>?_) (fun j hj hl=>?_) ?_ ?_
   ·rw[UA,UY]
    refine ⟨h.one,by simp,fun a hA b hB=>?_⟩
    obtain ⟨s,hs,rfl⟩:=Ur.1 hA
    simp at hB; subst hB
    exact Gm _ _ hf s hs
   ·rcases Uv j out.length with q | q
    ·obtain ⟨k,e,a1,a2,a3⟩:=h.back j hj q
     exact .inl ⟨k,e,a1,by rw[hg k (by omega)]; exact a2,a3⟩
    ·right
     simp at hl
     exact ⟨by omega,by omega⟩
   ·rw[hg j (by omega)]; exact h.done j hj (by omega)
   ·rw[hg at_ ha]; exact h.here ha
   ·rw[hg at_ ha]; exact hm
  ·exact mA.put ha h.one (fun j hj hl=>.inl (h.back j hj hl)) h.done (h.here ha) hm
theorem mA.row {g:aw} (hf:g.dt) {at_:Nat} {out:List aT} (h:mA g at_ 0 out) (hi:dN g at_ 0 out) (he:jw g out) (ha:at_ < out.length):∀ n:Nat,n≤40→mA g at_ n ((List.range n).foldl (c8 g (cr g (out.getD at_ bz).bh) at_) out)
 | 0,_=>h
 | n+1,hn=>by
  have h1:=mA.row hf h hi he ha n (by omega)
  obtain ⟨i1,i2,i3⟩:=dN.row (hi.nU hf ha).1 (hi.nU hf ha).2 hi n (by omega)
  obtain ⟨e1,e2⟩:=he.row hf hi ha n (by omega)
  rw[U4,UM]
  simp only[Uu,Vk]
  have:=h1.step (by omega)
  rw[e2] at this
  exact this
theorem mA.next {g:aw} {at_:Nat} {out:List aT} (h:mA g at_ (g.az.length+g.ax.length) out) (hi:dN g at_ (g.az.length+g.ax.length) out):mA g (at_+1) 0 out:=by
 refine ⟨h.one,h.back,fun j hj hl=>?_,fun hl=>?_⟩
 ·rcases Uv j at_ with q | q
  ·exact h.done j q hl
  ·have:j=at_:=by omega
   subst this
   exact h.here hl
 ·have:=(hi.bm (at_+1) _ (getD_some (d:=bz) hl)).2.2 (by omega)
  rw[this]; simp[kf]
structure Pn (g:aw) (a:List aT):Prop where
 one:(a.map aT.bh).Nodup
 back:∀ j:Nat,0 < j→j < a.length→∃ (i:Nat) (e:dC),i < j∧e∈(a.getD i bz).bm∧e.to=j
 all:∀ s∈a,s.bm.map dC.sym=kf g (cr g s.bh) (g.az.length+g.ax.length)
theorem BQ {g:aw} (hf:g.dt):∀ (f at_:Nat) (out:List aT),302≤f+at_→dN g at_ 0 out→jw g out→mA g at_ 0 out→out.length≤300→(fh g f at_ out).2=0→Pn g (fh g f at_ out).1
 | 0,at_,out,h0,_,_,h,hl,_=>⟨h.one,h.back,fun s hs=>by
   change s∈out at hs
   obtain ⟨j,hj,e⟩:=U6.1 hs
   have:=h.done j (by omega) hj
   rwa [show out.getD j bz=s by rw[T0,T4 hj]; exact e] at this⟩
 | f+1,at_,out,h0,hi,he,h,hl,h3=>by
  have hT:=hf.az
  have hN:=hf.ax
  rw[fh] at h3 ⊢
  split
  ·rename_i ha
   rw[T9 ha] at h3
   have hr:=dN.row (hi.nU hf ha).1 (hi.nU hf ha).2 hi (g.az.length+g.ax.length) (by omega)
   have hE:=he.row hf hi ha (g.az.length+g.ax.length) (by omega)
   have hF:=h.row hf hi he ha (g.az.length+g.ax.length) (by omega)
   rw[show (List.range (g.az.length+g.ax.length)).foldl (c8 g (cr g (out.getD at_ bz).bh) at_) out=AW g at_ out (g.az.length+g.ax.length) from rfl] at hr hE hF
   split
   ·rename_i hc; rw[T9 hc] at h3; simp at h3
   ·rename_i hc
    rw[T6 hc] at h3
    exact BQ hf f (at_+1) _ (by omega) hr.1.next hE.1 (hF.next hr.1) (by omega) h3
  ·rename_i ha
   exact ⟨h.one,h.back,fun s hs=>by
    change s∈out at hs
    obtain ⟨j,hj,e⟩:=U6.1 hs
    have:=h.done j (by omega) hj
    rwa [show out.getD j bz=s by rw[T0,T4 hj]; exact e] at this⟩
theorem CB {g:aw} (hf:g.dt) (h:(cy g).2=0):Pn g (cy g).1:=by
 unfold cy at h ⊢
 split
 ·rename_i hr
  rw[T9 hr] at h
  refine BQ hf 302 0 dO (by omega) mM ⟨rfl,fun s hs e he=>by simp[dO] at hs; subst hs; simp at he⟩ ⟨by simp[dO],fun j h1 h2=>by simp[dO] at h2; omega,fun j h1=>by omega,fun _=>?_⟩ (by simp[dO]) h
  simp[dO,kf]
 ·rename_i hr
  rw[T6 hr] at h
  simp at h
theorem DJ (g:aw):∀ (f at_:Nat) (out:List aT),(fh g f at_ out).2=0∨fh g f at_ out=([],5)
 | 0,_,_=>.inl rfl
 | f+1,at_,out=>by
  rw[fh]
  split
  ·split
   ·exact .inr rfl
   ·exact DJ g f _ _
  ·exact .inl rfl
theorem yF (g:aw):((cy g).2=0∧isRed g=true)∨(cy g=([],5)∧isRed g=true)∨(cy g=([],1)∧isRed g=false):=by
 unfold cy
 cases h:isRed g with
 | false=>exact .inr (.inr ⟨by simp,rfl⟩)
 | true =>
  rw[T9 rfl]
  rcases DJ g 302 0 dO with h | h
  ·exact .inl ⟨h,rfl⟩
  ·exact .inr (.inl ⟨h,rfl⟩)
theorem pr {g:aw} (hf:g.dt) {x:aI} (hx:cq g x) {s:Int} (h:bL g x=(s,true)):iz g s=true:=by
 obtain ⟨h1,h2⟩:=tS h
 have hlt:x.dot.toNat < (aM g x.aH).length:=by have:=hx.2; omega
 have hm:s∈aM g x.aH:=by
  rw[← h2,T0,T4 hlt]; exact Ud _
 unfold aM at hm
 split at hm
 ·simp at hm; subst hm
  have:=hf.iX; have:=hf.start
  unfold iz
  rw[T6 (by omega)]
  simp; omega
 ·have hR:g.rules[x.aH.toNat]?=some (aB g x.aH):=by unfold aB; exact getD_some (by have:=hx.1; omega)
  exact hf.sym _ (Ub hR) s hm
def dW (a:List aT) (p:Nat) (s:Int):Nat:=(jY a p [s]).1.toNat
def dJ (a:List aT) (p:Nat) (s:Int):Prop:=∃ e∈(a.getD p bz).bm,e.sym=s
noncomputable abbrev iw (g:aw) (a:List aT) (p:Nat):List aI:=cr g (a.getD p bz).bh
inductive gZ (a:List aT):Nat→List Int→Nat→Prop
 | nil {p:Nat} : gZ a p [] p
 | cons {p q:Nat} {s:Int} {X:List Int} : dJ a p s→gZ a (dW a p s) X q→gZ a p (s :: X) q
theorem gZ.snoc {a:List aT} {p q:Nat} {X:List Int} (h:gZ a p X q) {s:Int} (he:dJ a q s):gZ a p (X ++ [s]) (dW a q s):=by
 induction h with
 | nil=>exact .cons he .nil
 | cons h1 _ ih=>exact .cons h1 (ih he)
theorem gZ.one {a:List aT} {p q r:Nat} {X:List Int} (h:gZ a p X q) (k:gZ a p X r):q=r:=by
 induction h with
 | nil=>cases k; rfl
 | cons h1 _ ih=>cases k with | cons _ k=>exact ih k
theorem ed {a:List aT} {p:Nat} {s:Int} (h:dJ a p s):p < a.length:=by
 obtain ⟨e,he,_⟩:=h; exact (ze he).1
theorem Il {l:List dC} {s:Int} (h:∃ e∈l,e.sym=s):∃ e∈l,e.sym=s∧kg l s=e.to:=by
 induction l with
 | nil=>obtain ⟨e,he,_⟩:=h; simp at he
 | cons e l ih =>
  rw[kg]
  by_cases hs:e.sym=s
  ·rw[T9 hs]; exact ⟨e,by simp,hs,rfl⟩
  ·rw[T6 hs]
   obtain ⟨e2,h1,h2⟩:=h
   rcases Uk.1 h1 with rfl | h1
   ·exact absurd h2 hs
   ·obtain ⟨e3,k1,k2⟩:=ih ⟨e2,h1,h2⟩
    exact ⟨e3,by simp[k1],k2⟩
theorem OM {g:aw} {i j:Nat} (h:aZ g i=aZ g j):i=j:=by
 have h1:=wx g i
 rw[h,wx] at h1
 omega
theorem zW (g:aw) (l:List aI) (n:Nat):(kf g l n).Nodup:=by
 unfold kf
 unfold List.Nodup
 rw[VX]
 exact ((List.nodup_range (n:=n)).filter _).imp fun hij e=>hij (OM e)
theorem Ou {l:List dC} (h:(l.map dC.sym).Nodup) {e:dC} (he:e∈l):kg l e.sym=e.to:=by
 induction l with
 | nil=>simp at he
 | cons x l ih =>
  simp only[Uz,U1] at h
  rw[kg]
  rcases Uk.1 he with rfl | he
  ·rw[T9 rfl]
  ·rw[T6 (fun e2=>h.1 (by rw[e2]; exact List.mem_map_of_mem he))]
   exact ih h.2 he
structure ca (g:aw) (a:List aT):Prop where
 cD:g.dt
 ok:Fx g a
 e:jw g a
 x:Pn g a
 pos:1≤a.length
section
variable {g:aw} {a:List aT}
theorem ca.bh (h:ca g a) {p:Nat} (hp:p < a.length):∀ x∈(a.getD p bz).bh,cq g x:=(h.ok.bh _ (Ub (getD_some hp))).2.2
theorem ca.has (h:ca g a) {p:Nat} (hp:p < a.length) {x:aI} (hx:x∈iw g a p):cq g x:=((c7 h.cD (h.bh hp)).1 hx).has (h.bh hp)
theorem ca.kI (h:ca g a) {p:Nat} (hp:p < a.length) {s:Int} : dJ a p s↔∃ x∈iw g a p,bL g x=(s,true):=by
 have hs:=h.x.all _ (Ub (getD_some (d:=bz) hp))
 have hmm:dJ a p s↔s∈((a.getD p bz).bm.map dC.sym):=by
  simp only[dJ,Ur]
 rw[hmm,hs]
 simp only[kf,Ur,UQ,UR,Ul]
 constructor
 ·rintro ⟨i,⟨hi,hne⟩,rfl⟩
  obtain ⟨y,hy⟩:=List.exists_mem_of_ne_nil _ hne
  obtain ⟨x,hx,hn,_⟩:=kC.1 hy
  exact ⟨x,hx,hn⟩
 ·rintro ⟨x,hx,hn⟩
  obtain ⟨r1,r2⟩:=pn (pr h.cD (h.has hp hx) hn)
  obtain ⟨r3,r4⟩:=HS r1
  refine ⟨(jz g s).toNat,⟨by omega,?_⟩,r4⟩
  rw[r4]
  exact List.ne_nil_of_mem (kC.2 ⟨x,hx,hn,rfl⟩)
theorem ca.dW (h:ca g a) {p:Nat} {s:Int} (he:dJ a p s):∃ e∈(a.getD p bz).bm,e.sym=s∧e.to=dW a p s∧dW a p s < a.length∧jY a p [s]=((dW a p s:Int),true):=by
 have hp:=ed he
 have hm:=Ub (getD_some (d:=bz) hp)
 obtain ⟨e,h1,h2,h3⟩:=Il he
 obtain ⟨t1,t2⟩:=h.ok.to _ hm _ h1
 have hw:jY a p [s]=(e.to,true):=by
  unfold jY
  rw[T6 (by omega),lJ,Uq,h3,T9 ⟨t1,t2⟩,lJ]
 have hg:((Gv.dW a p s:Nat):Int)=e.to:=by unfold Gv.dW; rw[hw]; simp; omega
 exact ⟨e,h1,h2,hg.symm,by omega,by rw[hw,hg]⟩
theorem ca.OD (h:ca g a) {p:Nat} {s:Int} (he:dJ a p s):(a.getD (Gv.dW a p s) bz).bh=bu g (iw g a p) s:=by
 have hm:=Ub (getD_some (d:=bz) (ed he))
 obtain ⟨e,h1,h2,h3,_⟩:=h.dW he
 have:=h.e.kI _ hm e h1
 rw[h3,Uq,h2] at this
 exact this
theorem ca.step (h:ca g a) {p:Nat} (hp:p < a.length) {x:aI} (hx:x∈iw g a p) {s:Int} (hn:bL g x=(s,true)):dJ a p s∧(⟨x.aH,x.dot+1⟩:aI)∈(a.getD (Gv.dW a p s) bz).bh∧(⟨x.aH,x.dot+1⟩:aI)∈iw g a (Gv.dW a p s)∧Gv.dW a p s < a.length:=by
 have he:=(h.kI hp).2 ⟨x,hx,hn⟩
 obtain ⟨_,_,_,_,hl,_⟩:=h.dW he
 have hk:(⟨x.aH,x.dot+1⟩:aI)∈(a.getD (Gv.dW a p s) bz).bh:=by
  rw[h.OD he]; exact kC.2 ⟨x,hx,hn,rfl⟩
 exact ⟨he,hk,(c7 h.cD (h.bh hl)).2 (.base hk),hl⟩
theorem ca.TC (h:ca g a) {p:Nat} {s:Int} (he:dJ a p s):∀ y∈(a.getD (Gv.dW a p s) bz).bh,1≤y.dot:=by
 intro y hy
 rw[h.OD he] at hy
 obtain ⟨x,hx,_,rfl⟩:=kC.1 hy
 have:=(h.has (ed he) hx).2
 simp only; omega
theorem ca.TP (h:ca g a) {p:Nat} {s:Int} (he:dJ a p s):Gv.dW a p s≠0:=fun e=>by
 have:=h.TC he ⟨-1,0⟩ (by rw[e,h.e.first]; simp)
 simp at this
theorem ca.prev (h:ca g a) {i:Nat} (hi:i < a.length) {x:aI} (hx:x∈(a.getD i bz).bh) (h0:0 < i):∃ (p:Nat) (y:aI) (s:Int),p < i∧p < a.length∧y∈iw g a p∧bL g y=(s,true)∧x=⟨y.aH,y.dot+1⟩∧dJ a p s∧Gv.dW a p s=i:=by
 obtain ⟨p,e,hp,he,ht⟩:=h.x.back i h0 hi
 obtain ⟨hpl,hm⟩:=ze he
 have hk:=h.e.kI _ hm e he
 rw[ht,Uq] at hk
 rw[hk] at hx
 obtain ⟨y,hy,hn,rfl⟩:=kC.1 hx
 have hE:dJ a p e.sym:=⟨e,he,rfl⟩
 refine ⟨p,y,e.sym,hp,hpl,hy,hn,rfl,hE,?_⟩
 have h1:=Ou (by rw[h.x.all _ hm]; exact zW _ _ _) he
 have hw:jY a p [e.sym]=(e.to,true):=by
  have:=h.ok.to _ hm _ he
  unfold jY
  rw[T6 (by omega),lJ,Uq,h1,T9 this,lJ]
 unfold Gv.dW
 rw[hw,ht]; rfl
theorem vc {x:aI} {s:Int} (hx:cq g x) (h:bL g x=(s,true)):∃ d:Nat,x.dot=d∧d < (aM g x.aH).length∧(aM g x.aH).drop d=s :: (aM g x.aH).drop (d+1):=by
 obtain ⟨h1,h2⟩:=tS h
 have:=hx.2
 refine ⟨x.dot.toNat,by omega,by omega,?_⟩
 rw[UO (show x.dot.toNat < (aM g x.aH).length by omega)]
 rw[T0,T4 (show x.dot.toNat < (aM g x.aH).length by omega)] at h2
 simp at h2
 rw[h2]
theorem mX {r:Int} {d:Nat} {s:Int} {l:List Int} (h:(aM g r).drop d=s :: l):bL g ⟨r,d⟩=(s,true)∧(aM g r).drop (d+1)=l∧d < (aM g r).length:=by
 have hlt:d < (aM g r).length:=by
  rcases Uv d (aM g r).length with q | q
  ·exact q
  ·rw[UB q] at h; simp at h
 rw[UO hlt] at h
 simp only[V3] at h
 refine ⟨?_,h.2,hlt⟩
 unfold bL
 rw[T6 (by simp only; omega)]
 simp only[Uq,T0,T4 hlt,Un,h.1]
theorem ca.fwd (h:ca g a) (r:Int):∀ (X:List Int) (d:Nat) (p:Nat),p < a.length→(⟨r,d⟩:aI)∈iw g a p→(∃ l,(aM g r).drop d=X ++ l)→∃ q,q < a.length∧gZ a p X q∧(⟨r,((d+X.length:Nat):Int)⟩:aI)∈iw g a q
 | [],d,p,hp,hx,_=>⟨p,hp,.nil,by simpa using hx⟩
 | s :: X,d,p,hp,hx,⟨l,hl⟩=>by
  obtain ⟨n1,n2,n3⟩:=mX hl
  obtain ⟨s1,s2,s3,s4⟩:=h.step hp hx n1
  obtain ⟨q,q1,q2,q3⟩:=ca.fwd h r X (d+1) (Gv.dW a p s) s4 (by simpa using s3) ⟨l,n2⟩
  refine ⟨q,q1,.cons s1 q2,?_⟩
  rw[show d+(s :: X).length=d+1+X.length by simp; omega]
  exact q3
theorem ca.bwd (h:ca g a) (r:Int):∀ (d:Nat) (i:Nat),i < a.length→(⟨r,d⟩:aI)∈iw g a i→∃ p,p < a.length∧gZ a p ((aM g r).take d) i∧(⟨r,0⟩:aI)∈iw g a p
 | 0,i,hi,hx=>⟨i,hi,by simpa using gZ.nil,hx⟩
 | d+1,i,hi,hx=>by
  have hk:=((c7 h.cD (h.bh hi)).1 hx).bh (.inl (by simp only; omega))
  have h0:0 < i:=Nat.pos_of_ne_zero fun e=>by
   subst e
   rw[h.e.first] at hk
   simp at hk
   omega
  obtain ⟨p,y,s,_,q2,q3,q4,q5,q6,q7⟩:=h.prev hi hk h0
  simp only[aI.mk.injEq] at q5
  obtain ⟨yr,yd⟩:=y
  simp only at q5
  obtain ⟨rfl,q5⟩:=q5
  have hyd:yd=(d:Int):=by omega
  subst hyd
  obtain ⟨p',k1,k2,k3⟩:=ca.bwd h r d p q2 q3
  obtain ⟨d',e1,e2,e3⟩:=vc (h.has q2 q3) q4
  simp only at e1 e2 e3
  have:d'=d:=by omega
  subst this
  refine ⟨p',k1,?_,k3⟩
  have ht:(aM g r).take (d'+1)=(aM g r).take d' ++ [s]:=by
   rw[Uw]
   congr 1
   have:=Vl (·[0]?) e3
   simp at this
   simp[this]
  rw[ht,← q7]
  exact k2.snoc q6
end
inductive ou (g:aw) (a:List aT):Nat→Int→Nat→Prop
 | fin:ou g a 0 g.start g.az.length
 | term {p:Nat} {B:Int} {t:Nat} : t < g.az.length→dJ a (dW a p (-1 - B)) t→ou g a p B t
 | null {p:Nat} {B C:Int} {t:Nat} : 0≤C→dJ a (dW a p (-1 - B)) (-1 - C)→(aA g false).getD C.toNat false=true→ou g a (dW a p (-1 - B)) C t→ou g a p B t
inductive qR (g:aw) (a:List aT):Nat→Int→Nat→Prop
 | read {p:Nat} {B:Int} {t:Nat} : ou g a p B t→qR g a p B t
 | CQ {p p' k d:Nat} {B:Int} {t:Nat} : qR g a p' (aB g k).left t→k < g.rules.length→dJ a p' (-1 - (aB g k).left)→0≤B→(aB g k).right[d]?=some (-1 - B)→gZ a p' ((aB g k).right.take d) p→cz ((aB g k).right.drop (d+1)) (aA g false) false=true→qR g a p B t
theorem mK (null:List Bool) (first:List BV) (b:BV):∀ (l:List Int) (t:Nat),(fe null first b l).getLsbD t=true↔(fe null first 0 l).getLsbD t=true∨(cz l null false=true∧b.getLsbD t=true)
 | [],t=>by simp[fe,cz]
 | s :: l,t=>by
  have ih:=mK null first b l t
  rw[fe,fe]
  by_cases h0:0≤s
  ·rw[T9 h0,T9 h0]; simp[cz,h0]
  ·rw[T6 h0,T6 h0]
   by_cases h1:null.getD (-1 - s).toNat false=true
   ·rw[T9 h1,T9 h1,UU,UU,U8,U8,ih]
    have:cz (s :: l) null false=cz l null false:=by
     rw[cz,Vg,T6 h0,h1]; rfl
    rw[this]
    constructor
    ·rintro (h | h | h)
     ·exact .inl (.inl h)
     ·exact .inl (.inr h)
     ·exact .inr h
    ·rintro ((h | h) | h)
     ·exact .inl h
     ·exact .inr (.inl h)
     ·exact .inr (.inr h)
   ·rw[T6 h1,T6 h1]
    have:cz (s :: l) null false=false:=by
     rw[cz,Vg,T6 h0]
     simp only[Bool.not_eq_true] at h1
     rw[h1]; rfl
    rw[this]; simp
theorem xQ {F:List Bool→List Bool} (hF:∀ is,fq is (F is)):∀ (k:Nat) (is:List Bool),is.length≤ec is+k→F (iter F k is)=iter F k is
 | 0,is,h=>by
  have h1:=hF is
  have h2:=sH (F is)
  have h3:=h1.ec
  rw[← h1.1] at h2
  have h4:=sH is
  exact (h3.2 (by omega)).symm
 | k+1,is,h=>by
  rw[iter]
  by_cases e:F is=is
  ·rw[e]
   have:iter F k is=is:=vy e k
   rw[this,e]
  ·refine xQ hF k (F is) ?_
   have h1:=hF is
   have h3:=h1.ec
   have:ec is≠ec (F is):=fun q=>e (h3.2 q).symm
   rw[← h1.1]; omega
def pt (t:Nat) (fs:List BV):List Bool:=fs.map fun b=>b.getLsbD t
def M7 (null:List Bool) (t:Nat) (is:List Bool):List Int→Bool
 | []=>false
 | s :: l=>if 0≤s then (eo s).getLsbD t else if null.getD (-1 - s).toNat false=true then is.getD (-1 - s).toNat false || M7 null t is l else is.getD (-1 - s).toNat false
theorem qF (t:Nat) (fs:List BV) (i:Nat):(pt t fs).getD i false=(fs.getD i 0).getLsbD t:=by
 simp only[pt,T0,T8]
 cases fs[i]? with
 | none=>simp
 | some x=>rfl
theorem Gh (null:List Bool) (t:Nat) (fs:List BV):∀ l:List Int,(fe null fs 0 l).getLsbD t=M7 null t (pt t fs) l
 | []=>by simp[fe,M7]
 | s :: l=>by
  rw[fe,M7]
  split
  ·rfl
  ·split
   ·rw[UU,Gh null t fs l,qF]
   ·rw[qF]
def ki (null:List Bool) (t:Nat) (is:List Bool) (r:aW):List Bool:=is.set r.left.toNat (is.getD r.left.toNat false || M7 null t is r.right)
theorem OI (null:List Bool) (t:Nat) (fs:List BV) (r:aW):pt t (j0 null fs r)=ki null t (pt t fs) r:=by
 unfold j0 ki
 rw[qF,← Gh,← UU]
 simp[pt,Vp]
theorem Hn (null:List Bool) (t:Nat):∀ (l:List aW) (fs:List BV),pt t (l.foldl (j0 null) fs)=l.foldl (ki null t) (pt t fs)
 | [],_=>rfl
 | r :: l,fs=>by rw[Uu,Hn null t l,OI]; rfl
theorem G9 (g:aw) (null:List Bool) (t:Nat):∀ (n:Nat) (fs:List BV),pt t (iter (sq g null) n fs)=iter (fun is=>g.rules.foldl (ki null t) is) n (pt t fs)
 | 0,_=>rfl
 | n+1,fs=>by rw[iter,iter,G9 g null t n]; exact Vl _ (Hn null t g.rules fs)
theorem G0 (null:List Bool) (t:Nat) (is:List Bool) (r:aW):fq is (ki null t is r):=by
 refine ⟨by simp[ki],fun i hi=>?_⟩
 unfold ki
 simp only[T0,Vm] at hi ⊢
 split
 ·rename_i e
  subst e
  split
  ·simp[hi]
  ·rename_i h; rw[UF (by omega)] at hi; simp at hi
 ·exact hi
theorem AR (null:List Bool) (t:Nat):∀ (l:List aW) (is:List Bool),fq is (l.foldl (ki null t) is)
 | [],is=>.refl _
 | r :: l,is=>(G0 null t is r).trans (AR null t l _)
theorem EX {null:List Bool} {t:Nat} : ∀ {l:List aW} {is:List Bool},l.foldl (ki null t) is=is→∀ R∈l,ki null t is R=is
 | [],_,_,_,h=>by simp at h
 | R :: l,is,h,x,hx=>by
  rw[Uu] at h
  have h1:=AR null t l (ki null t is R)
  rw[h] at h1
  have h2:=(h1.G4 (G0 null t is R))
  rcases Uk.1 hx with rfl | hx
  ·exact h2
  ·rw[h2] at h; exact EX h x hx
theorem yy {g:aw} (hf:g.dt) (null:List Bool) {R:aW} (hR:R∈g.rules):nB (fe null (cJ g null) 0 R.right) ((cJ g null).getD R.left.toNat 0):=by
 intro t ht
 have e:=G9 g null t g.ax.length (List.replicate g.ax.length 0)
 have hfix:=xQ (F:=fun is=>g.rules.foldl (ki null t) is) (fun is=>AR null t g.rules is) g.ax.length (pt t (List.replicate g.ax.length 0)) (by simp[pt])
 rw[← e] at hfix
 have h1:=EX hfix R hR
 rw[Gh] at ht
 rw[← qF]
 have hb:=hf.left R hR
 have hl:R.left.toNat < (pt t (cJ g null)).length:=by simp[pt,BD]; omega
 change ki null t (pt t (cJ g null)) R=pt t (cJ g null) at h1
 rw[← h1]
 unfold ki
 rw[T0,VN hl,ht,Bool.or_true]; rfl
theorem oB {t:Nat} (h:t≤31) (i:Nat):(eo (t:Int)).getLsbD i=true↔i=t:=by
 unfold eo
 rw[T9 ⟨by omega,by omega⟩,VV,Uq]
 simp only[Uh,Ul]
 omega
theorem DR {g:aw} (h:isRed g=true):∀ i:Nat,i < g.ax.length→(aA g true).getD i false=true:=by
 have hr:=fv h
 unfold isRed at h
 simp only[Uh,Va,Ul] at h
 obtain ⟨h1,h2⟩:=h
 have hp:(aA g true).getD g.start.toNat false=true:=by
  refine U7 fun hn=>?_
  rw[kK hr,T6 hn] at h1
  simp at h1
 have hred:=Mz hr hp
 have e:(fy g).1=pF g (bQ (cn (aA g true) (bS g) g.rules)) (aA g true) (bS g):=by rw[kK hr,T9 hp]
 rw[← e,← h2] at hred
 intro i hi
 rw[hred.len] at hi
 exact hred.ED hi
theorem KH {g:aw} (h:isRed g=true) {x:Int} (hd:ta g x):(aA g false).getD x.toNat false=true∨∃ t,((cJ g (aA g false)).getD x.toNat 0).getLsbD t=true:=by
 have hr:=fv h
 have hf:=bM hr
 induction hd with
 | mk R hR _ ih =>
  have key:∀ l:List Int,(∀ s∈l,s∈R.right)→cz l (aA g false) false=true∨∃ t,(fe (aA g false) (cJ g (aA g false)) 0 l).getLsbD t=true:=by
   intro l
   induction l with
   | nil=>intro _; exact .inl rfl
   | cons s l il =>
    intro hs
    rw[fe]
    by_cases h0:0≤s
    ·rw[T9 h0]
     have h1:=hf.sym R hR s (hs s (by simp))
     have:=hf.az
     unfold iz at h1
     rw[T9 h0] at h1
     simp at h1
     obtain ⟨t,rfl⟩:∃ t:Nat,s=t:=⟨s.toNat,by omega⟩
     exact .inr ⟨t,(oB (by omega) t).2 rfl⟩
    ·rw[T6 h0]
     rcases ih s (hs s (by simp)) (by omega) with h1 | ⟨t,ht⟩
     ·rw[T9 h1]
      rcases il fun x hx=>hs x (by simp[hx]) with h2 | ⟨t,ht⟩
      ·left
       rw[cz,Vg,T6 h0,h1]; exact h2
      ·exact .inr ⟨t,by rw[UU,ht,Bool.or_true]⟩
     ·right
      split
      ·exact ⟨t,by rw[UU,ht,Bool.true_or]⟩
      ·exact ⟨t,ht⟩
  rcases key R.right (fun _ h=>h) with h1 | ⟨t,ht⟩
  ·exact .inl (r5 hr hR h1)
  ·exact .inr ⟨t,yy hf _ hR t ht⟩
theorem Co {g:aw} (h:isRed g=true) {t0:Nat} (ht:t0 < 32):∀ l:List Int,(∀ s∈l,iz g s=true)→∃ t,(fe (aA g false) (cJ g (aA g false)) (BitVec.twoPow 32 t0) l).getLsbD t=true
 | [],_=>⟨t0,by rw[fe,VV]; simp[ht]⟩
 | s :: l,hs=>by
  have hr:=fv h
  have hf:=bM hr
  have h1:=hs s (by simp)
  have:=hf.az
  rw[fe]
  unfold iz at h1
  by_cases h0:0≤s
  ·rw[T9 h0]
   rw[T9 h0] at h1
   simp at h1
   obtain ⟨t,rfl⟩:∃ t:Nat,s=t:=⟨s.toNat,by omega⟩
   exact ⟨t,(oB (by omega) t).2 rfl⟩
  ·rw[T6 h0]
   rw[T6 h0] at h1
   simp at h1
   have hd:=sw hr (-1 - s).toNat (DR h _ (by omega))
   obtain ⟨t2,ht2⟩:=Co h ht l fun x hx=>hs x (by simp[hx])
   split
   ·exact ⟨t2,by rw[UU,ht2,Bool.or_true]⟩
   ·rename_i hn
    rcases KH h hd with h2 | ⟨t,h2⟩
    ·rw[Uq] at h2; exact absurd h2 hn
    ·rw[Uq] at h2; exact ⟨t,h2⟩
section
variable {g:aw} {a:List aT}
theorem gA {i:Nat} {x:aI} : x∈(gL g a).getD i []↔i < a.length∧x∈iw g a i:=by
 unfold gL
 rw[T0,T8]
 rcases Uv i a.length with h | h
 ·rw[T4 h]
  simp[h,iw,T0,T4 h]
 ·rw[UF h]
  simp; omega
theorem pC {x:aI} {s:Int} (hx:cq g x) (h:bL g x=(s,true)):∃ d:Nat,x.dot=d∧(aM g x.aH).drop d=s :: jh g x∧(aM g x.aH).drop (d+1)=jh g x:=by
 obtain ⟨d,h1,h2,h3⟩:=vc hx h
 have e:(aM g x.aH).drop (d+1)=jh g x:=by
  unfold jh
  by_cases h0:0≤x.aH
  ·rw[T9 h0,h1,aM,T6 (by omega)]; rfl
  ·rw[T6 h0]
   have hr:x.aH = -1:=by have:=hx.1; omega
   rw[hr] at h2 ⊢
   simp only[aM,if_true] at h2 ⊢
   exact UB (by simp)
 exact ⟨d,h1,by rw[h3,e],e⟩
theorem wQ {null:List Bool} {fs:List BV} {s:Int} {l:List Int} {u:Nat} : (fe null fs 0 (s :: l)).getLsbD u=true↔(0≤s∧(eo s).getLsbD u=true)∨(s < 0∧((fs.getD (-1 - s).toNat 0).getLsbD u=true∨(null.getD (-1 - s).toNat false=true∧(fe null fs 0 l).getLsbD u=true))):=by
 rw[fe]
 by_cases h0:0≤s
 ·rw[T9 h0]
  constructor
  ·intro h; exact .inl ⟨h0,h⟩
  ·rintro (h | h)
   ·exact h.2
   ·omega
 ·rw[T6 h0]
  split
  ·rename_i hn
   rw[UU,U8]
   constructor
   ·rintro (h | h)
    ·exact .inr ⟨by omega,.inl h⟩
    ·exact .inr ⟨by omega,.inr ⟨hn,h⟩⟩
   ·rintro (h | ⟨_,h | h⟩)
    ·omega
    ·exact .inl h
    ·exact .inr h.2
  ·rename_i hn
   constructor
   ·intro h; exact .inr ⟨by omega,.inl h⟩
   ·rintro (h | ⟨_,h | h⟩)
    ·omega
    ·exact h
    ·exact absurd h.1 hn
def F5 (g:aw) (a:List aT) (q u:Nat):Prop:=(u < g.az.length∧dJ a q u)∨∃ C:Int,0≤C∧dJ a q (-1 - C)∧(aA g false).getD C.toNat false=true∧ou g a q C u
theorem F5.read {p u:Nat} {B:Int} (h:F5 g a (dW a p (-1 - B)) u):ou g a p B u:=by
 rcases h with ⟨h1,h2⟩ | ⟨C,h1,h2,h3,h4⟩
 ·exact .term h1 h2
 ·exact .null h1 h2 h3 h4
def tx (g:aw) (a:List aT) (fs:List BV):Prop:=∀ (C:Int) (q u:Nat),0≤C→(fs.getD C.toNat 0).getLsbD u=true→dJ a q (-1 - C)→F5 g a q u
theorem Fm (hA:ca g a) {fs:List BV} (hG:tx g a fs) {r:Int} {u:Nat} : ∀ (l:List Int) (d q:Nat),q < a.length→(⟨r,d⟩:aI)∈iw g a q→(aM g r).drop d=l→(fe (aA g false) fs 0 l).getLsbD u=true→F5 g a q u
 | [],_,_,_,_,_,h=>by simp[fe] at h
 | s :: l,d,q,hq,hx,hl,h=>by
  obtain ⟨n1,n2,n3⟩:=mX hl
  obtain ⟨s1,s2,s3,s4⟩:=hA.step hq hx n1
  rcases wQ.1 h with ⟨h0,h1⟩ | ⟨h0,h1⟩
  ·have h2:=pn (pr hA.cD (hA.has hq hx) n1)
   have:=hA.cD.az
   obtain ⟨t,rfl⟩:∃ t:Nat,s=t:=⟨s.toNat,by omega⟩
   have:=(oB (by omega) u).1 h1
   subst this
   exact .inl ⟨by omega,s1⟩
  ·have e : -1 - (-1 - s)=s:=by omega
   rcases h1 with h1 | ⟨h1,h2⟩
   ·exact hG (-1 - s) q u (by omega) h1 (by rw[e]; exact s1)
   ·refine .inr ⟨-1 - s,by omega,by rw[e]; exact s1,h1,F5.read ?_⟩
    rw[e]
    exact Fm hA hG l (d+1) _ s4 (by simpa using s3) n2 h2
theorem ji (hA:ca g a) {q:Nat} (hq:q < a.length) {C:Int} {k:Nat} (hC:0≤C) (hk:k < g.rules.length) (hl:(aB g k).left=C) (he:dJ a q (-1 - C)):(⟨k,0⟩:aI)∈iw g a q:=by
 obtain ⟨x,hx,hn⟩:=(hA.kI hq).1 he
 have hR:g.rules[k]?=some (aB g k):=by unfold aB; exact getD_some hk
 exact (c7 hA.cD (hA.bh hq)).2 (.step ((c7 hA.cD (hA.bh hq)).1 hx) hn (by omega) hR (by omega))
theorem Nw (hA:ca g a) {fs:List BV} (hG:tx g a fs) {k:Nat} (hk:k < g.rules.length):tx g a (j0 (aA g false) fs (aB g k)):=by
 intro C q u hC hu he
 have hR:g.rules[k]?=some (aB g k):=by unfold aB; exact getD_some hk
 have h0:=(hA.cD.left _ (Ub hR)).1
 unfold j0 at hu
 rw[fI] at hu
 split at hu
 ·rename_i hc
  rw[UU,U8] at hu
  have hl:(aB g k).left=C:=by omega
  rcases hu with hu | hu
  ·exact hG C q u hC (by rw[← hl]; exact hu) he
  ·have hq:=ed he
   have hm:=ji hA hq hC hk hl he
   refine Fm hA hG _ 0 q hq hm ?_ hu
   rw[Vj,aM,T6 (by omega)]
 ·exact hG C q u hC hu he
theorem EK (hA:ca g a):∀ (l:List aW) (fs:List BV),(∀ R∈l,R∈g.rules)→tx g a fs→tx g a (l.foldl (j0 (aA g false)) fs)
 | [],_,_,h=>h
 | R :: l,fs,hl,h=>by
  obtain ⟨k,hk,e⟩:=U6.1 (hl R (by simp))
  have hR:R=aB g k:=by
   have h2:g.rules[k]?=some (aB g k):=by unfold aB; exact getD_some hk
   rw[T4 hk,e] at h2
   simpa using h2
  rw[Uu]
  refine EK hA l _ (fun x hx=>hl x (by simp[hx])) ?_
  rw[hR]
  exact Nw hA h hk
theorem DA (hA:ca g a):∀ (n:Nat) (fs:List BV),tx g a fs→tx g a (iter (sq g (aA g false)) n fs)
 | 0,_,h=>h
 | n+1,fs,h=>by
  rw[iter]
  exact DA hA n _ (EK hA g.rules fs (fun _ h=>h) h)
theorem Cr (hA:ca g a):tx g a (cJ g (aA g false)):=by
 refine DA hA _ _ fun C q u hC hu he=>?_
 simp only[T0,Vx] at hu
 split at hu <;> simp at hu
theorem RB (hA:ca g a) {i:Nat} {x:aI} {t:Nat} (h:oM g (aA g false) a (gL g a) i x t) :
  (x.aH < 0→t=g.az.length)∧(0≤x.aH→∃ p,gZ a p ((aM g x.aH).take x.dot.toNat) i∧dJ a p (-1 - (aB g x.aH).left)∧qR g a p (aB g x.aH).left t):=by
 induction h with
 | start=>exact ⟨fun _=>rfl,fun h=>by simp at h⟩
 | @move i x t s hl hn hm ih =>
  obtain ⟨hi,hx⟩:=gA.1 hl.mem
  have hH:=hA.has hi hx
  refine ⟨ih.1,fun h0=>?_⟩
  obtain ⟨p,q1,q2,q3⟩:=ih.2 h0
  obtain ⟨d,d1,d2,d3⟩:=pC hH hn
  refine ⟨p,?_,q2,q3⟩
  have hE:=((hA.kI hi).2 ⟨x,hx,hn⟩)
  have:=q1.snoc hE
  rw[d1] at this ⊢
  rw[show ((d:Int)+1).toNat=d+1 by omega,Uw]
  have hg:(aM g x.aH)[d]?=some s:=by
   have:=Vl (·[0]?) d2
   simpa using this
  rw[hg]
  exact this
 | @begin i x t u s k hl hn hneg hk hL hm hu ih =>
  obtain ⟨hi,hx⟩:=gA.1 hl.mem
  have hH:=hA.has hi hx
  refine ⟨fun h=>by simp only at h; omega,fun _=>?_⟩
  obtain ⟨d,d1,d2,d3⟩:=pC hH hn
  obtain ⟨s1,s2,s3,s4⟩:=hA.step hi hx hn
  have e : -1 - (-1 - s)=s:=by omega
  refine ⟨i,by simpa using gZ.nil,by simp only; rw[hL,e]; exact s1,?_⟩
  simp only
  rw[hL]
  rcases (mK _ _ _ _ _).1 hu with h1 | ⟨h1,h2⟩
  ·refine .read (F5.read ?_)
   rw[e]
   refine Fm hA (Cr hA) (jh g x) (d+1) _ s4 (by rw[d1] at s3; simpa using s3) d3 h1
  ·have htu:u=t:=by
    rw[VV] at h2
    simp at h2; omega
   subst htu
   by_cases h0:0≤x.aH
   ·obtain ⟨p,q1,q2,q3⟩:=ih.2 h0
    obtain ⟨k',hk'⟩:∃ k':Nat,x.aH=k':=⟨x.aH.toNat,by omega⟩
    have hkl:k' < g.rules.length:=by have:=hH.1; omega
    rw[hk'] at q1 q2 q3 d2 d3
    have hrt:aM g (k':Int)=(aB g k').right:=by rw[aM,T6 (by omega)]
    rw[hrt] at q1 d2 d3
    rw[d1] at q1
    refine .CQ q3 hkl q2 (by omega) (d:=d) ?_ (by simpa using q1) (by rw[d3]; exact h1)
    have:=Vl (·[0]?) d2
    rw[e]
    simpa using this
   ·have ht:=ih.1 (by omega)
    have hr:x.aH = -1:=by have:=hH.1; omega
    have hk0:=((c7 hA.cD (hA.bh hi)).1 hx).bh (.inr (by omega))
    have hi0:i=0:=Nat.eq_zero_of_not_pos fun h0=>by
     obtain ⟨p,y,s',_,y2,y3,y4,y5,y6,y7⟩:=hA.prev hi hk0 h0
     have hyr:=Vl aI.aH y5
     have hyd:=Vl aI.dot y5
     simp only at hyr hyd
     obtain ⟨d',e1,e2,e3⟩:=vc (hA.has y2 y3) y4
     obtain ⟨d'',e4,e5,e6⟩:=vc hH hn
     rw[← hyr,hr] at e2
     rw[hr] at e5
     simp only[aM,if_true,List.length_singleton] at e2 e5
     omega
    have hd0:d=0:=by
     obtain ⟨d'',e4,e5,e6⟩:=vc hH hn
     rw[hr] at e5
     simp only[aM,if_true,List.length_singleton] at e5
     omega
    subst hd0
    rw[hr] at d2
    simp only[aM,if_true,Vj,V3] at d2
    rw[hi0,ht,show -1 - s=g.start by omega]
    exact .read .fin
theorem M1 (hA:ca g a) {q:Nat} (hq:q < a.length) {u:Nat} {z:aI} (hz:z∈iw g a q):∀ d:Nat,z.dot=d→(fe (aA g false) (cJ g (aA g false)) 0 ((aM g z.aH).drop d)).getLsbD u=true →
  ∃ (y:aI) (e:Nat),y∈(a.getD q bz).bh∧y.dot=e∧(fe (aA g false) (cJ g (aA g false)) 0 ((aM g y.aH).drop e)).getLsbD u=true:=by
 have hz2:=(c7 hA.cD (hA.bh hq)).1 hz
 clear hz
 induction hz2 with
 | base h=>exact fun d h1 h2=>⟨_,d,h,h1,h2⟩
 | @step x s k R hx hn hneg hR hl ih =>
  intro d h1 h2
  have hd:d=0:=by simp only at h1; omega
  subst hd
  obtain ⟨d',e1,e2,e3⟩:=pC (hx.has (hA.bh hq)) hn
  refine ih d' e1 ?_
  rw[e2]
  refine wQ.2 (.inr ⟨hneg,.inl ?_⟩)
  have hk:k < g.rules.length:=(Uj.1 hR).1
  have hRk:aB g k=R:=by unfold aB; rw[T0,Uq,hR]; rfl
  rw[← hl]
  refine yy hA.cD _ (Ub hR) u ?_
  rw[Vj,aM,T6 (by simp only; omega)] at h2
  simp only at h2
  rw[hRk] at h2
  exact h2
theorem EY (hA:ca g a) {p:Nat} {s:Int} {u:Nat} (he:dJ a p s) (h:∃ y∈iw g a (dW a p s),∃ d:Nat,y.dot=d∧(fe (aA g false) (cJ g (aA g false)) 0 ((aM g y.aH).drop d)).getLsbD u=true) :
  ∃ x∈iw g a p,bL g x=(s,true)∧(fe (aA g false) (cJ g (aA g false)) 0 (jh g x)).getLsbD u=true:=by
 obtain ⟨y,hy,d,h1,h2⟩:=h
 obtain ⟨_,_,_,_,hl,_⟩:=hA.dW he
 obtain ⟨z,e,z1,z2,z3⟩:=M1 hA hl hy d h1 h2
 rw[hA.OD he] at z1
 obtain ⟨x,hx,hn,rfl⟩:=kC.1 z1
 refine ⟨x,hx,hn,?_⟩
 obtain ⟨d',e1,e2,e3⟩:=pC (hA.has (ed he) hx) hn
 simp only at z2 z3
 rw[← e3,show d'+1=e by omega]
 exact z3
theorem Cd (hA:ca g a) {p u:Nat} {B:Int} (h:ou g a p B u):dJ a p (-1 - B)→(p=0∧B=g.start∧u=g.az.length)∨∃ x∈iw g a p,bL g x=(-1 - B,true)∧(fe (aA g false) (cJ g (aA g false)) 0 (jh g x)).getLsbD u=true:=by
 induction h with
 | fin=>exact fun _=>.inl ⟨rfl,rfl,rfl⟩
 | @term p B t ht he =>
  intro hB
  right
  refine EY hA hB ?_
  have hq:=ed he
  obtain ⟨y,hy,hn⟩:=(hA.kI hq).1 he
  obtain ⟨d,e1,e2,e3⟩:=pC (hA.has hq hy) hn
  refine ⟨y,hy,d,e1,?_⟩
  have:=hA.cD.az
  rw[e2]
  exact wQ.2 (.inl ⟨by omega,(oB (by omega) _).2 rfl⟩)
 | @null p B C t hC he hn hr ih =>
  intro hB
  rcases ih he with ⟨h1,_,_⟩ | ⟨y,y1,y2,y3⟩
  ·exact absurd h1 (hA.TP hB)
  ·right
   refine EY hA hB ?_
   obtain ⟨d,e1,e2,e3⟩:=pC (hA.has (ed he) y1) y2
   refine ⟨y,y1,d,e1,?_⟩
   rw[e2]
   refine wQ.2 (.inr ⟨by omega,.inr ⟨?_,y3⟩⟩)
   rw[show -1 - (-1 - C)=C by omega]; exact hn
theorem K0 (hA:ca g a) (hr:isRed g=true):∀ (n i:Nat),i < n→i < a.length→∀ x∈iw g a i,∃ t,t < 32∧oM g (aA g false) a (gL g a) i x t
 | 0,_,h,_,_,_=>by omega
 | n+1,i,_,hi,x,hx=>by
  have hx2:=(c7 hA.cD (hA.bh hi)).1 hx
  clear hx
  induction hx2 with
  | @base x h =>
   by_cases h0:0 < i
   ·obtain ⟨p,y,s,y1,y2,y3,y4,y5,y6,y7⟩:=hA.prev hi h h0
    obtain ⟨t,ht,hL⟩:=K0 hA hr n p (by omega) y2 y y3
    refine ⟨t,ht,?_⟩
    obtain ⟨s1,s2,s3,s4⟩:=hA.step y2 y3 y4
    have hm:(⟨y.aH,y.dot+1⟩:aI)∈(gL g a).getD (jY a p [s]).1.toNat []:=gA.2 ⟨s4,s3⟩
    have:=oM.move hL y4 hm
    rw[y5,← y7]
    exact this
   ·have hi0:i=0:=by omega
    subst hi0
    rw[hA.e.first] at h
    simp at h; subst h
    have:=hA.cD.az
    exact ⟨g.az.length,by omega,.start (gA.2 ⟨hi,(c7 hA.cD (hA.bh hi)).2 (.base (by rw[hA.e.first]; simp))⟩)⟩
  | @step x s k R hx hn hneg hR hl ih =>
   obtain ⟨t,ht,hL⟩:=ih
   have hH:=hx.has (hA.bh hi)
   have hk:k < g.rules.length:=(Uj.1 hR).1
   have hRk:aB g k=R:=by unfold aB; rw[T0,Uq,hR]; rfl
   obtain ⟨u,hu⟩:=Co hr ht (jh g x) (fun s hs=>by
    unfold jh at hs
    split at hs
    ·rename_i h0
     have h2:g.rules[x.aH.toNat]?=some (aB g x.aH):=by
      have:=hH.1
      unfold aB; exact getD_some (by omega)
     exact hA.cD.sym _ (Ub h2) s (List.mem_of_mem_drop hs)
    ·simp at hs)
   have hu32:u < 32:=Nat.lt_of_not_le fun h=>by rw[BitVec.getLsbD_of_ge _ _ h] at hu; simp at hu
   exact ⟨u,hu32,.begin hL hn hneg hk (by rw[hRk]; omega) (gA.2 ⟨hi,(c7 hA.cD (hA.bh hi)).2 (.step hx hn hneg hR hl)⟩) hu⟩
theorem FR (hA:ca g a) {k:Nat} {t:Nat} : ∀ (X:List Int) (d p i:Nat),gZ a p X i→oM g (aA g false) a (gL g a) p ⟨k,d⟩ t→(∃ l,(aM g k).drop d=X ++ l)→oM g (aA g false) a (gL g a) i ⟨k,((d+X.length:Nat):Int)⟩ t
 | [],d,p,i,hw,h,_=>by cases hw; simpa using h
 | s :: X,d,p,i,hw,h,⟨l,hl⟩=>by
  cases hw with
  | cons h1 h2 =>
   obtain ⟨n1,n2,n3⟩:=mX hl
   obtain ⟨hp,hx⟩:=gA.1 h.mem
   obtain ⟨s1,s2,s3,s4⟩:=hA.step hp hx n1
   have hm:(⟨(⟨k,d⟩:aI).aH,(⟨k,d⟩:aI).dot+1⟩:aI)∈(gL g a).getD (jY a p [s]).1.toNat []:=gA.2 ⟨s4,s3⟩
   have h3:=oM.move h n1 hm
   have h4:=FR hA X (d+1) _ i h2 (by rw[show (((d+1:Nat):Int))=(d:Int)+1 by omega]; exact h3) ⟨l,n2⟩
   rw[show d+(s :: X).length=d+1+X.length by simp; omega]
   exact h4
theorem R3 (hA:ca g a) (hr:isRed g=true) {p t:Nat} {B:Int} (h:qR g a p B t):0≤B→dJ a p (-1 - B)→∀ k:Nat,k < g.rules.length→(aB g k).left=B→oM g (aA g false) a (gL g a) p ⟨k,0⟩ t:=by
 induction h with
 | @read p B t h =>
  intro hB he k hk hl
  have hp:=ed he
  have hm:=gA.2 ⟨hp,ji hA hp hB hk hl he⟩
  rcases Cd hA h he with ⟨rfl,rfl,rfl⟩ | ⟨x,x1,x2,x3⟩
  ·have h0:(⟨-1,0⟩:aI)∈iw g a 0:=(c7 hA.cD (hA.bh hp)).2 (.base (by rw[hA.e.first]; simp))
   refine .begin (.start (gA.2 ⟨hp,h0⟩)) (s:=-1 - g.start) ?_ (by omega) hk (by omega) hm ?_
   ·unfold bL; rw[T6 (by simp[aM])]; simp[aM]
   ·have:=hA.cD.az
    rw[jh,T6 (by simp),fe,VV]
    simp; omega
  ·obtain ⟨t0,ht,hL⟩:=K0 hA hr (p+1) p (by omega) hp x x1
   refine .begin hL x2 (by omega) hk (by omega) hm ((mK _ _ _ _ _).2 (.inl x3))
 | @CQ p p' k' d B t hF hk' he' hB' hd hw hnull ih =>
  intro hB he k hk hl
  have hR:g.rules[k']?=some (aB g k'):=by unfold aB; exact getD_some hk'
  have h1:=ih (hA.cD.left _ (Ub hR)).1 he' k' hk' rfl
  have hrt:aM g (k':Int)=(aB g k').right:=by rw[aM,T6 (by omega)]
  have hdl:=(Uj.1 hd).1
  have h2:=FR hA _ 0 p' p hw (by simpa using h1) ⟨(aB g k').right.drop d,by rw[hrt,Vj,List.take_append_drop]⟩
  rw[UN,U3,V2 (by omega)] at h2
  have hp:=ed he
  have hnx:bL g ⟨k',d⟩=(-1 - B,true):=(mX (l:=(aB g k').right.drop (d+1)) (by
   rw[hrt,UO hdl]
   congr 1
   rw[T4 hdl] at hd
   simpa using hd)).1
  refine .begin h2 hnx (by omega) hk (by omega) (gA.2 ⟨hp,ji hA hp hB hk hl he⟩) ((mK _ _ _ _ _).2 (.inr ⟨?_,?_⟩))
  ·rw[jh,T9 (by simp only; omega)]
   simpa using hnull
  ·obtain ⟨i3,_⟩:=gA.1 h2.mem
   have ht:t < 32:=by
    have key:∀ {i:Nat} {x:aI} {t:Nat},oM g (aA g false) a (gL g a) i x t→t < 32:=by
     intro i x t h
     have:=hA.cD.az
     induction h with
     | start=>omega
     | move _ _ _ ih=>exact ih
     | begin _ _ _ _ _ _ hu _=>exact Nat.lt_of_not_le fun h=>by rw[BitVec.getLsbD_of_ge _ _ h] at hu; simp at hu
    exact key h2
   rw[VV]
   simp[ht]
theorem Ge (hA:ca g a) (hr:isRed g=true) {i k t:Nat} (hk:k < g.rules.length):oM g (aA g false) a (gL g a) i ⟨k,((aB g k).right.length:Nat)⟩ t↔∃ p,gZ a p (aB g k).right i∧dJ a p (-1 - (aB g k).left)∧qR g a p (aB g k).left t:=by
 have hR:g.rules[k]?=some (aB g k):=by unfold aB; exact getD_some hk
 have hrt:aM g (k:Int)=(aB g k).right:=by rw[aM,T6 (by omega)]
 constructor
 ·intro h
  obtain ⟨p,q1,q2,q3⟩:=(RB hA h).2 (by simp only; omega)
  simp only at q1 q2 q3
  rw[hrt,Uq,List.take_length] at q1
  exact ⟨p,q1,q2,q3⟩
 ·rintro ⟨p,q1,q2,q3⟩
  have h1:=R3 hA hr q3 (hA.cD.left _ (Ub hR)).1 q2 k hk rfl
  have h2:=FR hA _ 0 p i q1 (by simpa using h1) ⟨[],by rw[hrt]; simp⟩
  rw[U3] at h2
  exact h2
theorem RO (hA:ca g a) {i k:Nat} (hi:i < a.length) (hk:k < g.rules.length):(⟨k,((aB g k).right.length:Nat)⟩:aI)∈iw g a i↔∃ p,gZ a p (aB g k).right i∧dJ a p (-1 - (aB g k).left):=by
 have hR:g.rules[k]?=some (aB g k):=by unfold aB; exact getD_some hk
 have hrt:aM g (k:Int)=(aB g k).right:=by rw[aM,T6 (by omega)]
 constructor
 ·intro h
  obtain ⟨p,p1,p2,p3⟩:=hA.bwd k _ i hi h
  rw[hrt,List.take_length] at p2
  refine ⟨p,p2,?_⟩
  cases (c7 hA.cD (hA.bh p1)).1 p3 with
  | base h =>
   exfalso
   by_cases h0:0 < p
   ·obtain ⟨_,y,s,y1,y2,y3,y4,y5,_,_⟩:=hA.prev p1 h h0
    have:=Vl aI.dot y5
    simp only at this
    have:=(hA.has y2 y3).2
    omega
   ·have:p=0:=by omega
    subst this
    rw[hA.e.first] at h
    simp at h
  | @step x s k2 R hx hn hneg hR2 hl =>
   rw[hR] at hR2
   simp only[T7] at hR2
   rw[hR2,hl,show -1 - (-1 - s)=s by omega]
   exact (hA.kI p1).2 ⟨x,(c7 hA.cD (hA.bh p1)).2 hx,hn⟩
 ·rintro ⟨p,p1,p2⟩
  have hp:=ed p2
  have hm:=ji hA hp (hA.cD.left _ (Ub hR)).1 hk rfl p2
  obtain ⟨q,q1,q2,q3⟩:=hA.fwd k (aB g k).right 0 p hp hm ⟨[],by rw[hrt]; simp⟩
  rw[p1.one q2]
  simpa using q3
end
end Gv
