/-
  Part 16 of the proof: what the machine does and what the functions answer.
  Conditions: those that each lemma names.
-/
import Derived.Test.YtomcjampldmjoaaGreatSGzVO
set_option linter.unusedSimpArgs false
set_option linter.unusedVariables false
set_option maxRecDepth 100000
namespace Gv
open Go Go.Proofs
def eZ:SC :=
  .seq (al [aR 10 .lss 9 8]) <|
  .seq (.cond (.tmp 10) (.skip) (.exit 0)) <|
  .seq (.block 1 (.seq (al [aP 11 1 7 9,ao 12 11,ae 5 12]) <|
  .seq (.seq (al [ae 13 5,az 14 .geq 13 0]) <|
  .cond (.tmp 14) (.seq (al [ae 15 0,ae 16 0,bG 17 16,au 18 6 17,ao 19 18,ae 20 5,((some 21),.op (.bJ 1 1 [(.val (.int .i64 0))] [(0,(.tmp 20))])),((some 22),.op (.app 1 8 (.tmp 19) (.tmp 21))),bG 23 15,au 24 6 23,(none,.op (.store 1 (.tmp 24) (.tmp 22)))]) <|
  .exit 1) (.skip)) <|
  .seq (al [ae 25 0,bG 26 25,au 27 4 26,ao 28 27,ae 29 5,((some 30),.op (.arith .sub (.val (.val (.int .i64 (-1)))) (.tmp 29))),aP 31 4 28 30,au 32 0 31,ao 33 32,ae 6 33]) <|
  .seq (al [ae 34 0,ae 35 0,bG 36 35,au 37 5 36,ao 38 37,ae 39 6,((some 40),.op (.bJ 1 1 [(.val (.int .i64 0))] [(0,(.tmp 39))])),((some 41),.op (.app 1 8 (.tmp 38) (.tmp 40))),bG 42 34,au 43 5 42,(none,.op (.store 1 (.tmp 43) (.tmp 41)))]) <|
  al [ae 44 0,ae 45 0,bG 46 45,au 47 0 46,au 48 2 47,ao 49 48,ae 50 6,aP 51 3 49 50,au 52 1 51,ao 53 52,aN 54 233 [44,53]])) <|
  al [az 55 .add 9 1,ae 9 55]
def iA:SF:=⟨.seq (al [ae 7 1,aL 8 7,aH 9 0]) <|
  .block 0 (.loop eZ),
  [],56⟩
theorem kj:aW Tryz.prog 233 []=some iA:=by kernel_rfl
def gE (g:an) (r w:V):List V:=[.aY (g.ax.map ct),.aY (g.av.map fun s=>[gs s]),.aY (g.rules.map aO),gi g.start,gD (aw g),r,w]
def D1 (g:an) (b:Nat) (R W:List Int) (H:View):Prop:=∃ ur uw,bI H [(.sl b 0 1 7,7,[gE g ur uw]),(ur,1,bq R),(uw,1,bq W)]
set_option maxHeartbeats 4000000 in
theorem C4 (g:an) (hg:g.Ok) (hf:g.iw) (b:Nat):∀ (f:Nat) (l:List Int),aM l→(∀ x∈l,bW x∧(x < 0→-1 - x < g.av.length))→zH (aw g) f l→∀ (R W:List Int) (H:View),(R ++ c8 g (aw g) f l).length≤100000→(W ++ dy g (aw g) f l).length≤100000 →
    D1 g b R W H→aA Tryz.prog 233 [.ptr b 0 0,encI l] H fun _ H'=>D1 g b (R ++ c8 g (aw g) f l) (W ++ dy g (aw g) f l) H':=by
  intro f
  induction f using Nat.strongRecOn with
  | _ f ih =>
    intro l hl hn hu R W H0 hbR hbW ho0
    refine aA.of mixed kj ?_
    unfold aM at hl
    simp (disch:=omega) only [↓wr,↓reduceIte,wq,ai,ak,Nat.reduceAdd,Nat.reduceLeDiff,iA,encI]
    refine bb.up l.length (fun i T H'=>D1 g b (R ++ c8 g (aw g) f (l.take i)) (W ++ dy g (aw g) f (l.take i)) H'∧T 0=.ptr b 0 0∧T 7=encI l∧T 8=gi l.length∧T 9=gi i) ⟨by rw[List.take_zero,rn,oD,List.append_nil,List.append_nil]; exact ho0,rfl,rfl,rfl,rfl⟩ ?_
    rintro i k T H hk ⟨⟨ur,uw,ho⟩,t0,t7,t8,t9⟩
    simp (disch:=omega) only [↓wr,↓reduceIte,wq,ah,Int.reduceNeg,eZ,t8,t9,encI]
    refine aq.dec (fun hc=>?_) (fun hc=>?_)
    · have hg1:l[i]?=some (l[i]'(by omega)):=List.getElem?_eq_getElem (by omega)
      have hmem:l[i]'(by omega)∈l:=List.getElem_mem _
      have htk:l.take (i+1)=l.take i ++ [l[i]'(by omega)]:=by rw[List.take_add_one,hg1]; rfl
      have hbt:=Jb g f l (i+1)
      have hbw:=HH g f l (i+1)
      generalize l[i]'(by omega)=x at hg1 hmem htk
      obtain ⟨⟨hx1,hx2⟩,hx3⟩:=hn x hmem
      rw[htk,ik] at hbt
      rw[htk,ib] at hbw
      simp only[List.length_append] at hbR hbW hbt hbw
      have hb:=ho.is 0 rfl (by simp)
      simp (disch:=omega) only [↓wr,↓reduceIte,wq,ah,Nat.reduceEqDiff,Nat.reduceLT,Int.reduceNeg,t7,t9,encI,List.getElem?_map,hg1]
      refine aq.dec (fun hx=>?_) (fun hx=>?_)
      · rw[jX (show 0≤x from hx)] at hbw
        simp only[List.length_cons,List.length_nil] at hbw
        simp (disch:=omega) only [↓wr,↓reduceIte,wq,ag,Nat.reduceEqDiff,Nat.reduceAdd,Nat.reduceLT,Int.reduceNeg,reduceCtorEq,t0,hb,gE]
        intro n hn1
        rw[cp]
        simp (disch:=omega) only [↓wr,↓reduceIte,wq,Nat.reduceEqDiff,Int.reduceNeg]
        refine cH ((ho.at 2 (by simp)).fresh hn1) (by simp[aT]) (by unfold aI; simp; omega) (by unfold aI; simp; omega) ?_
        intro u1 H1 o1 _
        simp only[List.eraseIdx_cons_succ,List.eraseIdx_cons_zero] at o1
        have hb1:=o1.is 1 rfl (by simp)
        have c1:=o1.head.cells
        have k1:=o1.head.gL
        simp (disch:=omega) only [↓wr,↓reduceIte,wq,ah,aa,Nat.reduceEqDiff,Nat.reduceAdd,Nat.reduceLT,Nat.reduceLeDiff,Int.reduceNeg,reduceCtorEq,t9,hb1,gE,c1,k1]
        have o2:=(o1.at 1 (by simp)).put (es':=[gE g ur u1]) rfl rfl
        simp only[List.eraseIdx_cons_succ,List.eraseIdx_cons_zero] at o2
        refine aK hk (by omega) ⟨⟨ur,u1,?_⟩,t0,t7,t8,rfl⟩
        rw[htk,ik,ib,l9 (show 0≤x from hx),jX (show 0≤x from hx),List.append_nil]
        have o3:=o2.perm (.cons _ (.swap _ _ _))
        simpa [gE] using o3
      · obtain ⟨f,rfl⟩:∃ f',f=f'+1:=by
          cases f with
          | zero=>have:=AG hu x hmem; omega
          | succ f=>exact ⟨f,rfl⟩
        obtain ⟨hkn,hh⟩:=hu x hmem (by omega)
        obtain ⟨ri,r,hi,hr,hra,hur,_⟩:=uz (f:=f) hkn (by push_cast at hh; exact hh)
        have hgp:=xn (P:=aw g) (m:=bS x) (by rw[lq]; have:=hx3 (by omega); unfold bS; omega)
        have hmr:=List.mem_of_getElem? hr
        have hrl:ri < g.rules.length:=(List.getElem?_eq_some_iff.1 hr).1
        have hrw:=hg.bd r hmr
        rw[ld (by omega),hra,hi] at hbt
        rw[lJ (by omega),hra] at hbw
        simp only[List.length_cons] at hbt
        generalize hpx:bj (aw g) (bS x)=p at hgp hi hra
        simp (disch:=omega) only [↓wr,↓reduceIte,wq,ah,Nat.reduceEqDiff,Nat.reduceAdd,Nat.reduceLT,Int.reduceNeg,reduceCtorEq,t0,hb,gE]
        simp (disch:=omega) only [↓wr,↓reduceIte,wq,ag,Nat.reduceEqDiff,Nat.reduceAdd,Nat.reduceLT,Int.reduceNeg,reduceCtorEq,t0,hb,gE,hgp,bM,hi]
        intro n hn1
        rw[cp]
        simp (disch:=omega) only [↓wr,↓reduceIte,wq,Nat.reduceEqDiff,Int.reduceNeg]
        refine cH ((ho.at 1 (by simp)).fresh hn1) (by simp[aT]) (by unfold aI; simp; omega) (by unfold aI; simp; omega) ?_
        intro u1 H1 o1 _
        simp only[List.eraseIdx_cons_succ,List.eraseIdx_cons_zero] at o1
        have hb1:=o1.is 1 rfl (by simp)
        have c1:=o1.head.cells
        have k1:=o1.head.gL
        simp (disch:=omega) only [↓wr,↓reduceIte,wq,aa,Nat.reduceEqDiff,Nat.reduceAdd,Nat.reduceLT,Nat.reduceLeDiff,Int.reduceNeg,reduceCtorEq,t0,hb1,gE,c1,k1,aO,List.getElem?_map,hr,encI]
        have o2:=(o1.at 1 (by simp)).put (es':=[gE g u1 uw]) rfl rfl
        simp only[List.eraseIdx_cons_succ,List.eraseIdx_cons_zero] at o2
        have hcall:=ih f (by omega) r.right hrw.2.2.1 (fun y hy=>⟨hrw.2.2.2 y hy,fun hn=>hf.neg hmr hy hn⟩) hur (R ++ c8 g (aw g) (f+1) (l.take i) ++ [(ri:Int)]) (W ++ dy g (aw g) (f+1) (l.take i)) _
          (by simp only[List.length_append,List.length_cons,List.length_nil]; omega) (by simp only[List.length_append]; omega) ⟨u1,uw,by simpa using o2⟩
        simp only[gE,encI] at hcall
        refine aF.iy (hcall.mono ?_)
        rintro v H2 ⟨ur2,uw2,o3⟩
        simp (disch:=omega) only [↓wr,↓reduceIte,wq,ah,Nat.reduceEqDiff,Int.reduceNeg,reduceCtorEq,t9]
        refine aK hk (by omega) ⟨⟨ur2,uw2,?_⟩,t0,t7,t8,rfl⟩
        rw[htk,ik,ib,ld (by omega),lJ (by omega),hpx,hi,← hi,hra,hi]
        simpa using o3
    · rw[List.take_of_length_le (by omega)] at ho
      simp (disch:=omega) only [↓wr,↓reduceIte,wq,reduceCtorEq]
      exact ⟨ur,uw,ho⟩
def wX (H:View) (u:V) (l:List Int):Prop:=u=encI l∨∃ (m:Nat) (x:Int),l=[x]∧x < 0∧u=.sl m 0 1 1∧H m=.arr 1 [[gi x]]
theorem wX.zd {H:View} {u:V} {l:List Int} (h:wX H u l):di H u (encI l):=by
  rcases h with rfl | ⟨m,x,rfl,_,rfl,hm⟩
  · exact di.tree (bQ l)
  · exact zX (l:=[x]) hm rfl
theorem wX.keep {H H':View} {u:V} {l:List Int} (h:wX H u l) (hk:∀ id,H id≠.dead→H' id=H id):wX H' u l:=by
  rcases h with rfl | ⟨m,x,rfl,hx,rfl,hm⟩
  · exact .inl rfl
  · exact .inr ⟨m,x,rfl,hx,rfl,by rw[hk m (by rw[hm]; simp)]; exact hm⟩
set_option maxHeartbeats 4000000 in
theorem C9 (g:an) (hg:g.Ok) (hf:g.iw) (b:Nat) (f:Nat) (l:List Int) (hl:aM l) (hn:∀ x∈l,bW x∧(x < 0→-1 - x < g.av.length)) (hu:zH (aw g) f l) (R W:List Int) (H:View) (hbR:(R ++ c8 g (aw g) f l).length≤100000) (hbW:(W ++ dy g (aw g) f l).length≤100000)
    (hw:D1 g b R W H) (u:V) (hi:wX H u l):aA Tryz.prog 233 [.ptr b 0 0,u] H fun _ H'=>D1 g b (R ++ c8 g (aw g) f l) (W ++ dy g (aw g) f l) H':=by
  rcases hi with rfl | ⟨m,x,rfl,hx0,rfl,hm⟩
  · exact C4 g hg hf b f l hl hn hu R W H hbR hbW hw
  · obtain ⟨⟨hx1,hx2⟩,hx3⟩:=hn x (by simp)
    refine aA.of mixed kj ?_
    simp (disch:=omega) only [↓wr,↓reduceIte,wq,ai,ak,Nat.reduceAdd,Nat.reduceLeDiff,iA]
    refine bb.up 1 (fun i T H'=>((i=0∧H'=H)∨(i=1∧D1 g b (R ++ c8 g (aw g) f [x]) (W ++ dy g (aw g) f [x]) H'))∧T 0=.ptr b 0 0∧T 7=.sl m 0 1 1∧T 8=gi 1∧T 9=gi i) ⟨.inl ⟨rfl,rfl⟩,rfl,rfl,rfl,rfl⟩ ?_
    rintro i k T H1 hk ⟨h7,t0,t7,t8,t9⟩
    rcases h7 with ⟨rfl,rfl⟩ | ⟨rfl,ho⟩
    · obtain ⟨ur,uw,ho⟩:=hw
      have hb:=ho.is 0 rfl (by simp)
      simp (disch:=omega) only [↓wr,↓reduceIte,wq,ah,Int.reduceNeg,eZ,t8,t9]
      refine aq.dec (fun _=>?_) (fun hc=>absurd hc (by decide))
      simp (disch:=omega) only [↓wr,↓reduceIte,wq,ah,Nat.reduceEqDiff,Nat.reduceLT,Int.reduceNeg,t7,t9,hm]
      refine aq.dec (fun hc=>absurd hc (by omega)) (fun _=>?_)
      obtain ⟨f,rfl⟩:∃ f',f=f'+1:=by
        cases f with
        | zero=>have:=AG hu x (by simp); omega
        | succ f=>exact ⟨f,rfl⟩
      obtain ⟨hkn,hh⟩:=hu x (by simp) (by omega)
      obtain ⟨ri,r,hi,hr,hra,hur,_⟩:=uz (f:=f) hkn (by push_cast at hh; exact hh)
      have hgp:=xn (P:=aw g) (m:=bS x) (by rw[lq]; have:=hx3 (by omega); unfold bS; omega)
      have hmr:=List.mem_of_getElem? hr
      have hrl:ri < g.rules.length:=(List.getElem?_eq_some_iff.1 hr).1
      have hrw:=hg.bd r hmr
      rw[ld (by omega),hra,hi] at hbR ⊢
      rw[lJ (by omega),hra] at hbW ⊢
      simp only[List.length_append,List.length_cons] at hbR hbW
      generalize hpx:bj (aw g) (bS x)=p at hgp hi hra
      simp (disch:=omega) only [↓wr,↓reduceIte,wq,ah,Nat.reduceEqDiff,Nat.reduceAdd,Nat.reduceLT,Int.reduceNeg,reduceCtorEq,t0,hb,gE]
      simp (disch:=omega) only [↓wr,↓reduceIte,wq,ag,Nat.reduceEqDiff,Nat.reduceAdd,Nat.reduceLT,Int.reduceNeg,reduceCtorEq,t0,hb,gE,hgp,bM,hi]
      intro n hn1
      rw[cp]
      simp (disch:=omega) only [↓wr,↓reduceIte,wq,Nat.reduceEqDiff,Int.reduceNeg]
      refine cH ((ho.at 1 (by simp)).fresh hn1) (by simp[aT]) (by unfold aI; simp; omega) (by unfold aI; simp; omega) ?_
      intro u1 H1 o1 _
      simp only[List.eraseIdx_cons_succ,List.eraseIdx_cons_zero] at o1
      have hb1:=o1.is 1 rfl (by simp)
      have c1:=o1.head.cells
      have k1:=o1.head.gL
      simp (disch:=omega) only [↓wr,↓reduceIte,wq,aa,Nat.reduceEqDiff,Nat.reduceAdd,Nat.reduceLT,Nat.reduceLeDiff,Int.reduceNeg,reduceCtorEq,t0,hb1,gE,c1,k1,aO,List.getElem?_map,hr,encI]
      have o2:=(o1.at 1 (by simp)).put (es':=[gE g u1 uw]) rfl rfl
      simp only[List.eraseIdx_cons_succ,List.eraseIdx_cons_zero] at o2
      have hcall:=C4 g hg hf b f r.right hrw.2.2.1 (fun y hy=>⟨hrw.2.2.2 y hy,fun hn=>hf.neg hmr hy hn⟩) hur (R ++ [(ri:Int)]) W _
        (by simp only[List.length_append,List.length_cons,List.length_nil]; omega) (by simp only[List.length_append]; omega) ⟨u1,uw,by simpa using o2⟩
      simp only[gE,encI] at hcall
      refine aF.iy (hcall.mono ?_)
      rintro v H2 ⟨ur2,uw2,o3⟩
      simp (disch:=omega) only [↓wr,↓reduceIte,wq,ah,Nat.reduceEqDiff,Int.reduceNeg,reduceCtorEq,t9]
      exact ⟨0,by omega,1,by omega,.inr ⟨rfl,ur2,uw2,by simpa using o3⟩,t0,t7,t8,rfl⟩
    · simp (disch:=omega) only [↓wr,↓reduceIte,wq,ah,Int.reduceNeg,eZ,t8,t9]
      refine aq.dec (fun hc=>absurd hc (by decide)) (fun _=>?_)
      simp (disch:=omega) only [↓wr,↓reduceIte,wq,reduceCtorEq]
      exact ho
def rV:SF:=⟨.seq (al [cM 3 0,((some 6),.op (.bc (.val (.val (.pointer none))))),aH 7 0]) <|
  .seq (.region true [⟨none,[aU 11 4 3,aU 12 4 3,aN 13 231 [12],((some 14),.op (.build [(.emp 1),(.emp 1),(.emp 1),(.val (.int .i64 0)),(.emp 1),(.emp 1),(.emp 1)] [(0,4,(.tmp 11)),(4,1,(.tmp 13))])),((some 15),.op (.box (.tmp 14))),ae 8 15]⟩]) <|
  .seq (al [ae 17 1,ae 18 8,bG 19 18,au 20 4 19,ao 21 20,aN 22 232 [17,21],ae 16 22,bY 23 0 16,bY 24 1 16,((some 9),.op (.alloc [(.val (.int .i64 0)),(.val (.int .i64 0)),(.val (.int .i64 0)),(.val (.int .i64 0))])),(none,.op (.store 4 (.tmp 9) (.tmp 23))),ae 10 24]) <|
  .seq (.block 0 (.seq (al [ae 26 10,bZ 27 26,ae 25 27]) <|
  .cond (.tmp 25) (.seq (al [((some 6),.op (.bc (.val (.val (.pointer none))))),aH 7 9]) <|
  .ret) (.seq (.region false [⟨none,[au 29 2 9,ao 30 29,az 31 .gtr 30 300,ae 32 31]⟩,⟨(some (32,false)),[au 33 3 9,ao 34 33,ae 35 2,aR 36 .gtr 34 35]⟩,⟨none,[bC 37 32 36,ae 28 37]⟩]) <|
  .cond (.tmp 28) (.seq (al [((some 6),.op (.bc (.val (.val (.pointer none))))),aH 7 13]) <|
  .ret) (.skip)))) <|
  .seq (al [ae 38 8,ae 39 1,aN 40 233 [38,39]]) <|
  .seq (al [ae 41 8,ae 6 41,aH 7 0]) <|
  .ret,
  [.tmp 6,.tmp 7],42⟩
theorem wo:aW Tryz.prog 209 [3]=some rV:=by kernel_rfl
def A5:V:=.val (.pointer none)
def N8 (g:an) (l:List Int) (t:Int) (r:V) (H:View):Prop :=
  ((bK (aw g) l bz).2=false∧r=.bo [A5,gi 9]) ∨
  ((bK (aw g) l bz).2=true∧(300 < (bK (aw g) l bz).1.rules∨t < (bK (aw g) l bz).1.ax)∧r=.bo [A5,gi 13]) ∨
  ((bK (aw g) l bz).2=true∧¬ (300 < (bK (aw g) l bz).1.rules∨t < (bK (aw g) l bz).1.ax)∧∃ b,r=.bo [.ptr b 0 0,gi 0]∧D1 g b (c8 g (aw g) g.av.length l) (dy g (aw g) g.av.length l) H)
set_option maxHeartbeats 4000000 in
theorem FK (g:an) (hg:g.Ok) (hf:g.iw) (l:List Int) (hl:l.length≤50) (hn:∀ x∈l,bW x∧(x < 0→-1 - x < g.av.length)) (t:Int) (u:V) (H:View) (hi:wX H u l) :
    aA Tryz.prog 209 [.agg (ar g),u,gi t] H (N8 g l t):=by
  have hsl:aM l:=by unfold aM; omega
  have z2:=hf.av
  have z3:=hf.rules
  refine aA.of mixed wo ?_
  simp (disch:=omega) only [↓wr,↓reduceIte,wq,ai,Nat.reduceEqDiff,Nat.reduceAdd,Nat.reduceLeDiff,rV,ar,encS]
  refine aF.pure (KI g hg hf).pure (by kernel_rfl) ?_
  simp (disch:=omega) only [↓wr,↓reduceIte,wq,aa,af,Nat.reduceEqDiff,Nat.reduceAdd,Nat.reduceLT,Nat.reduceLeDiff]
  intro b hb
  have hi1:wX (H.set b (.arr 7 [gE g (.emp 1) (.emp 1)])) u l:=hi.keep fun id hid=>by
    have:id≠b:=by rintro rfl; exact hid hb
    simp[View.set,this]
  try simp (disch:=omega) only [↓wr,↓reduceIte,wq,ai,ah,ak,aa,af,ag,aj,isNil,Nat.reduceEqDiff,Nat.reduceAdd,Nat.reduceLT,Nat.reduceLeDiff,Int.reduceNeg,Int.reduceToNat,reduceCtorEq]
  have hP:∀ m,yn (bj (aw g) m):=fun m=>De z3 z2 m
  refine aF.rE (HG (aw g) hP l hsl fun x hx=>⟨(hn x hx).1,fun h=>by rw[lq]; exact (hn x hx).2 h⟩) (by kernel_rfl) ⟨hi1.zd,di.tree (pZ _),trivial⟩ ?_
  have hsz:=fun (h:kp (aw g) l)=>And.intro (B2 h) (wE g g.av.length l bz (EC h) nQ)
  have hok:=lr (aw g) l bz
  have hwt:=BW hf.right g.av.length l
  have hps:=qK (fun m=>(hP m).1) l bz nQ
  unfold N8
  generalize hsp:bK (aw g) l bz=sp at hok hps hsz ⊢
  unfold dL at hps
  simp (disch:=omega) only [↓wr,↓reduceIte,wq,aa,Nat.reduceEqDiff,Nat.reduceAdd,Nat.reduceLT,Nat.reduceLeDiff,bM]
  intro n hn1
  have hnb:=(cg hn1 ca).1
  have hnH:=(cg hn1 ca).2
  try simp (disch:=omega) only [↓wr,↓reduceIte,wq,ai,ah,ak,aa,af,ag,aj,isNil,Nat.reduceEqDiff,Nat.reduceAdd,Nat.reduceLT,Nat.reduceLeDiff,Int.reduceNeg,Int.reduceToNat,reduceCtorEq,bM]
  refine aq.split (fun hs=>?_) (fun hs=>?_)
  · have hak:=hok.1 hs
    simp (disch:=omega) only [↓wr,↓reduceIte,wq,ah,Nat.reduceEqDiff,Nat.reduceAdd,Nat.reduceLT]
    refine aq.dec (fun h3=>?_) (fun h3=>?_)
    · simp (disch:=omega) only [↓wr,↓reduceIte,wq,Nat.reduceEqDiff,Nat.reduceAdd,reduceCtorEq]
      exact .inr (.inl ⟨hs,.inl h3,rfl⟩)
    · simp (disch:=omega) only [↓wr,↓reduceIte,wq,ah,Nat.reduceEqDiff,Nat.reduceAdd,Nat.reduceLT]
      refine aq.dec (fun h4=>?_) (fun h4=>?_)
      · simp (disch:=omega) only [↓wr,↓reduceIte,wq,Nat.reduceEqDiff,Nat.reduceAdd,reduceCtorEq]
        exact .inr (.inl ⟨hs,.inr h4,rfl⟩)
      · simp (disch:=omega) only [↓wr,↓reduceIte,wq,Nat.reduceEqDiff,Nat.reduceAdd,reduceCtorEq]
        have ho:=(bI.nil (H:=H)).new hb 7 [gE g (.emp 1) (.emp 1)]
        have hlt:=(hsz hak).1 (by omega)
        have hx:=C9 g hg hf b g.av.length l hsl hn (EC hak) [] [] (((H.set b (.arr 7 [gE g (.emp 1) (.emp 1)])).set n (.arr 4 [[gi 0,gi 0,gi 0,gi 0]])).set n (.arr 4 [bM sp.1]))
          (by simp only[List.nil_append]; omega) (by simp only[List.nil_append]; omega)
          ⟨.emp 1,.emp 1,by
            rw[set_set]
            have o2:=ho.fresh (n:=n) (o:=.arr 4 [bM sp.1]) (by simp[View.set,hnb,hnH])
            exact ((o2.emp (k:=1) (sz:=1)).emp (k:=1) (sz:=1)).perm (Bo.trans (.swap _ _ _))⟩ u
          (hi1.keep fun id hid=>by
            have:id≠n:=by rintro rfl; simp[View.set,hnb,hnH] at hid
            simp[View.set,this])
        simp only[List.nil_append,gE,bM] at hx
        refine aF.iy (hx.mono ?_)
        intro v H1 hw
        simp (disch:=omega) only [↓wr,↓reduceIte,wq,Nat.reduceEqDiff,reduceCtorEq]
        exact .inr (.inr ⟨hs,by omega,b,rfl,hw⟩)
  · simp (disch:=omega) only [↓wr,↓reduceIte,wq,Nat.reduceEqDiff,Nat.reduceAdd,reduceCtorEq]
    exact .inl ⟨hs,rfl⟩
def wb:SF:=⟨.seq (al [cM 2 0,((some 4),.op (.bc (.val (.emp 1)))),aH 5 0]) <|
  .seq (.seq (.region false [⟨none,[aU 8 4 2,aN 9 45 [8],bZ 10 9,ae 11 10]⟩,⟨(some (11,false)),[ae 12 1,az 13 .lss 12 0]⟩,⟨none,[bC 14 11 13,ae 15 14]⟩,⟨(some (15,false)),[ae 16 1,au 17 1 2,ao 18 17,aL 19 18,aR 20 .geq 16 19]⟩,⟨none,[bC 21 15 20]⟩]) <|
  .cond (.tmp 21) (.seq (al [((some 4),.op (.bc (.val (.emp 1)))),aH 5 1]) <|
  .ret) (.skip)) <|
  .seq (al [aU 23 4 2,ae 24 1,((some 25),.op (.arith .sub (.val (.val (.int .i64 (-1)))) (.tmp 24))),((some 26),.op (.bJ 1 1 [(.val (.int .i64 0))] [(0,(.tmp 25))])),cT 27 209 [(.tmp 23),(.tmp 26),(.val (.val (.int .i64 1048576)))],ae 22 27,bY 28 0 22,bY 29 1 22,ae 6 28,ae 7 29]) <|
  .seq (.seq (al [ae 30 7,az 31 .neq 30 0]) <|
  .cond (.tmp 31) (.seq (al [ae 32 7,((some 4),.op (.bc (.val (.emp 1)))),ae 5 32]) <|
  .ret) (.skip)) <|
  .seq (al [ae 33 6,bG 34 33,au 35 5 34,ao 36 35,ae 4 36,aH 5 0]) <|
  .ret,
  [.tmp 4,.tmp 5],37⟩
theorem AB:aW Tryz.prog 169 [2]=some wb:=by kernel_rfl
set_option maxHeartbeats 4000000 in
theorem KC (g:an) (hg:g.Ok) (hs:g.Small) (n:Int) (hn:bW n):cd Tryz.prog 169 [.agg (ar g),gi n] (kX (gO g n)):=by
  have hsh:=hg.av
  unfold aM at hsh
  unfold bW at hn
  refine cd.of (y7 g n) ?_
  refine aA.of mixed AB ?_
  simp (disch:=omega) only [↓wr,↓reduceIte,wq,ai,Nat.reduceEqDiff,Nat.reduceAdd,Nat.reduceLeDiff,Int.reduceNeg,wb,ar,encS]
  refine aF.pure (lD g hg hs.names) (by kernel_rfl) ?_
  have bad:∀ h':aE,(bp g && decide (0≤n) && decide (n < g.av.length))=false→c7 h' (.bo [.emp 1,gi 1]) (kX (gO g n)):=fun h' e=>by
    unfold gO; rw[if_neg (by rw[e]; simp)]; exact fv (x:=([],1)) (.emp _)
  repeat' (first | (refine aq.dec (fun _=>?_) (fun _=>?_)) | (refine aq.eq (fun _=>?_) (fun _=>?_)) | (refine aq.ne (fun _=>?_) (fun _=>?_)) | (refine aq.split (fun _=>?_) (fun _=>?_)) | (simp (disch:=omega) only [↓wr,↓reduceIte,wq,ah,ak,ag,Nat.reduceEqDiff,Nat.reduceAdd,Nat.reduceLT,Nat.reduceLeDiff,Int.reduceNeg,reduceCtorEq]))
  all_goals first
    | (intro h' _; refine bad h' ?_; simp only[Bool.and_eq_false_iff,decide_eq_false_iff_not]; first | (left; left; assumption) | (left; right; omega) | (right; omega))
    | skip
  have hr:bp g=true:=by assumption
  have h0:0≤n:=by omega
  have h1:n < g.av.length:=by omega
  have hf:=aZ hr
  have hA:gO g n=_:=if_pos (by simp[hr,h0,h1])
  intro m
  try simp (disch:=omega) only [↓wr,↓reduceIte,wq,ai,ah,ak,aa,af,ag,aj,isNil,Nat.reduceEqDiff,Nat.reduceAdd,Nat.reduceLT,Nat.reduceLeDiff,Int.reduceNeg,Int.reduceToNat,reduceCtorEq,ar,encS]
  have hw:=FK g hg hf [-1 - n] (by simp) (fun x hx=>by simp at hx; subst hx; exact ⟨by unfold bW; omega,fun _=>by omega⟩) 1048576 (.sl m 0 1 1) (View.set (fun _=>.dead) m (.arr 1 [[gi (-1 - n)]])) (.inr ⟨m,-1 - n,rfl,by omega,rfl,by simp[View.set]⟩)
  simp only[ar,encS] at hw
  refine aF.iy (hw.mono ?_)
  have hb:=Gy (aw g) [-1 - n] bz
  have e:bS (-1 - n)=n.toNat:=by unfold bS; omega
  simp only[wK,List.any_cons,List.any_nil,Bool.or_false,decide_eq_true (show -1 - n < 0 by omega),Bool.true_and,e] at hb
  have hpos:dL (bj (aw g) n.toNat):=ie g _ _
  unfold dL at hpos
  rintro r H1 (⟨h2,rfl⟩ | ⟨h2,h3,rfl⟩ | ⟨h2,h3,b,rfl,ur,uw,ho⟩)
  · simp (disch:=omega) only [↓wr,↓reduceIte,wq,ah,Nat.reduceEqDiff,Nat.reduceAdd,Nat.reduceLT,Int.reduceNeg,A5]
    refine aq.ne (fun _=>?_) (fun hc=>absurd hc (by decide))
    simp (disch:=omega) only [↓wr,↓reduceIte,wq,Nat.reduceEqDiff,Int.reduceNeg,reduceCtorEq]
    rw[hb] at h2
    rw[if_pos (by simpa using h2)] at hA
    intro h' _
    rw[hA]; exact fv (x:=([],9)) (.emp _)
  · simp (disch:=omega) only [↓wr,↓reduceIte,wq,ah,Nat.reduceEqDiff,Nat.reduceAdd,Nat.reduceLT,Int.reduceNeg,A5]
    refine aq.ne (fun _=>?_) (fun hc=>absurd hc (by decide))
    simp (disch:=omega) only [↓wr,↓reduceIte,wq,Nat.reduceEqDiff,Int.reduceNeg,reduceCtorEq]
    rw[hb] at h2
    have hk:¬ (bj (aw g) n.toNat).bd < 0:=by simpa using h2
    obtain ⟨s1,s2⟩:=A0 h0 (show bt (aw g) n.toNat by unfold bt; omega)
    rw[if_neg hk,if_pos (by omega)] at hA
    intro h' _
    rw[hA]; exact fv (x:=([],13)) (.emp _)
  · rw[hb] at h2
    have hk:¬ (bj (aw g) n.toNat).bd < 0:=by simpa using h2
    obtain ⟨s1,s2⟩:=A0 h0 (show bt (aw g) n.toNat by unfold bt; omega)
    rw[if_neg hk,if_neg (by omega)] at hA
    have hbo:=ho.is 0 rfl (by simp)
    simp (disch:=omega) only [↓wr,↓reduceIte,wq,ah,Nat.reduceEqDiff,Nat.reduceAdd,Nat.reduceLT,Int.reduceNeg]
    refine aq.ne (fun hc=>absurd rfl hc) (fun _=>?_)
    simp (disch:=omega) only [↓wr,↓reduceIte,wq,Nat.reduceEqDiff,Nat.reduceAdd,Nat.reduceLT,Int.reduceNeg,reduceCtorEq,hbo,gE]
    intro h' hh
    rw[hA]; exact fv (x:=(_,0)) (ix (by rw[hh]; exact ho.own 1 rfl))
def tT:SC :=
  .seq (al [aR 26 .lss 25 24]) <|
  .seq (.cond (.tmp 26) (.skip) (.exit 0)) <|
  .seq (.block 1 (.seq (al [ae 27 25,aP 28 1 23 25,ao 29 28,ae 11 27,ae 12 29]) <|
  .seq (.seq (al [ae 30 12,az 31 .geq 30 0]) <|
  .cond (.tmp 31) (.exit 1) (.skip)) <|
  .seq (al [ae 32 3,ae 13 32]) <|
  .seq (.seq (al [ae 33 11,ae 34 2,aR 35 .neq 33 34]) <|
  .cond (.tmp 35) (.seq (al [aU 37 4 4,ae 38 12,((some 39),.op (.arith .sub (.val (.val (.int .i64 (-1)))) (.tmp 38))),aN 40 169 [37,39],ae 36 40,bY 41 0 36,bY 42 1 36,ae 14 41,ae 15 42]) <|
  .seq (.seq (al [ae 43 15,az 44 .neq 43 0]) <|
  .cond (.tmp 44) (.seq (al [((some 8),.op (.bc (.val (.emp 1)))),aV 9 false]) <|
  .ret) (.skip)) <|
  al [ae 45 14,ae 13 45]) (.skip)) <|
  al [ae 46 10,ae 47 13,((some 48),.op (.bJ 2 1 [(.emp 1)] [(0,(.tmp 46)),(1,(.tmp 47))])),aN 49 76 [48],ae 10 49])) <|
  al [az 50 .add 25 1,ae 25 50]
def wO:SF:=⟨.seq (al [cM 4 0,((some 8),.op (.bc (.val (.emp 1)))),aV 9 false]) <|
  .seq (al [ae 16 1,((some 17),.op (.bJ 1 1 [(.val (.int .i64 0))] [(0,(.tmp 16))])),ae 10 17]) <|
  .seq (.seq (al [au 18 2 4,ao 19 18,ae 20 1,aP 21 3 19 20,au 22 1 21,ao 23 22,aL 24 23,aH 25 0]) <|
  .block 0 (.loop tT)) <|
  .seq (al [ae 51 10,ae 52 10,aL 53 52,az 54 .leq 53 300,ae 8 51,ae 9 54]) <|
  .ret,
  [.tmp 8,.tmp 9],55⟩
theorem zq:aW Tryz.prog 110 [4]=some wO:=by kernel_rfl
set_option maxHeartbeats 4000000 in
theorem Eu (g:an) (hg:g.Ok) (hsm:g.Small) (hf:g.iw) (k:Nat) (hk:k < g.rules.length) (p:Int) (hp:bW p) (inn:List Int) (hi:inn.length≤300) :
    cd Tryz.prog 110 [.agg (ar g),gi k,gi p,encI inn] (.bo [encI (eU g k p inn).1,gb (eU g k p inn).2]):=by
  refine cd.of (by
    intro v hv; simp at hv
    rcases hv with rfl | rfl | rfl | rfl
    · exact cE _ (cR g)
    · exact .val _
    · exact .val _
    · exact bQ _) ?_
  refine aA.of mixed zq ?_
  have hR:g.rules[k]?=some (g.rules[k]'(by omega)):=List.getElem?_eq_getElem (by omega)
  have hmr:=List.mem_of_getElem? hR
  have hrt:rz g k=(g.rules[k]'hk).right:=by simp[rz,hR]
  generalize g.rules[k]'hk=R at hR hmr hrt
  have hrw:=hg.bd R hmr
  have hr6:=hf.right R hmr
  have hrl:=hf.rules
  unfold eU
  rw[hrt]
  simp (disch:=omega) only [↓wr,↓reduceIte,wq,ai,ak,ag,Nat.reduceEqDiff,Nat.reduceAdd,Nat.reduceLT,Nat.reduceLeDiff,wO,ar,encS,encI,aO,List.getElem?_map,hR]
  intro m
  refine bb.up R.right.length (fun i T H'=>∃ u a,cD g p inn 0 (R.right.take i)=some a∧aX H' u 1 (bq (k :: a))∧T 2=gi p∧T 3=encI inn∧T 4=.aS (ar g) 0∧T 10=u∧T 23=encI R.right∧T 24=gi R.right.length∧T 25=gi i) ?_ ?_
  · refine ⟨_,[],rfl,?_,rfl,rfl,rfl,rfl,rfl,rfl,rfl⟩
    exact ((bI.nil (H:=fun _=>bN.dead)).new (n:=m) rfl 1 [[gi k]]).head
  · rintro i j T H1 hj ⟨u,a,ha,ho,t2,t3,t4,t10,t23,t24,t25⟩
    simp (disch:=omega) only [↓wr,↓reduceIte,wq,ah,ak,Nat.reduceEqDiff,Int.reduceNeg,tT,t24,t25,encI]
    have hal:=Gm hi _ _ _ ha
    simp only[List.length_take] at hal
    refine aq.dec (fun hc=>?_) (fun hc=>?_)
    · have h2:R.right[i]?=some (R.right[i]'(by omega)):=List.getElem?_eq_getElem (by omega)
      have htk:R.right.take (i+1)=R.right.take i ++ [R.right[i]'(by omega)]:=by rw[List.take_add_one,h2]; rfl
      have hs64:=hrw.2.2.2 _ (List.mem_of_getElem? h2)
      generalize R.right[i]'(by omega)=s at h2 htk hs64
      unfold bW at hs64
      have hap:=zn (g:=g) (p:=p) (inn:=inn) (R.right.take i) [s] 0
      have ei:(0:Int)+((R.right.take i).length:Nat)=i:=by simp; omega
      rw[← htk,ha,ei] at hap
      simp only[cD,Option.map_some,List.append_nil] at hap
      simp (disch:=omega) only [↓wr,↓reduceIte,wq,ah,Nat.reduceEqDiff,Nat.reduceLT,Int.reduceNeg,t23,t25,encI,List.getElem?_map,h2]
      refine aq.dec (fun hs=>?_) (fun hs=>?_)
      · simp (disch:=omega) only [↓wr,↓reduceIte,wq,ah,Nat.reduceEqDiff,reduceCtorEq,t10,t25]
        rw[if_pos hs] at hap
        exact aK hj (by omega) ⟨u,a,by simpa using hap,ho,t2,t3,t4,t10,t23,t24,rfl⟩
      · rw[if_neg hs] at hap
        simp (disch:=omega) only [↓wr,↓reduceIte,wq,ah,Nat.reduceEqDiff,Int.reduceNeg,t2,t3,encI]
        refine aq.ne (fun he=>?_) (fun he=>?_)
        rotate_left
        · simp (disch:=omega) only [↓wr,↓reduceIte,wq,ag,Nat.reduceEqDiff,Nat.reduceAdd,Nat.reduceLT,t10]
          rw[if_pos he] at hap
          have cu:=aX.cells ho
          have ck:=aX.gL ho
          simp (disch:=omega) only [↓wr,↓reduceIte,wq,cu,ck]
          intro q hq
          have hcc:=Cm [(u,(k:Int) :: a),(encI (inn),inn)] q (H1.set q (.arr 1 [[u],[encI (inn)]])) (by simp[View.set]) (by
            intro x hx
            simp only[List.mem_cons,List.not_mem_nil,or_false] at hx
            rcases hx with rfl | rfl
            · exact .inr (ho.other (o:=.arr 1 [[u],[encI (inn)]]) (fun e=>by have e2:=(ho.live e).1; rw[hq] at e2; simp at e2))
            · exact .inl rfl) (by simp; omega) (by simp)
          simp only[encI] at hcc
          refine aF.iy (hcc.mono ?_)
          rintro r H2 ⟨o2,_⟩
          simp (disch:=omega) only [↓wr,↓reduceIte,wq,ah,Nat.reduceEqDiff,reduceCtorEq,t25]
          refine aK hj (by omega) ⟨r,a ++ inn,by simpa using hap,?_,t2,t3,t4,rfl,t23,t24,rfl⟩
          simpa using o2
        · rw[if_neg he] at hap
          simp (disch:=omega) only [↓wr,↓reduceIte,wq,ah,Nat.reduceEqDiff,Nat.reduceAdd,Nat.reduceLeDiff,Int.reduceNeg,t4,ar,encS]
          have hcall:=(KC g hg hsm (-1 - s) (by unfold bW; omega)).pure
          have ht:=Ek g (-1 - s)
          simp only[ar,encS,kX,encI] at hcall
          refine aF.pure hcall (by kernel_rfl) ?_
          simp (disch:=omega) only [↓wr,↓reduceIte,wq,ah,Nat.reduceEqDiff,Nat.reduceAdd,Nat.reduceLT,Int.reduceNeg]
          refine aq.ne (fun h0=>?_) (fun h0=>?_)
          · simp (disch:=omega) only [↓wr,↓reduceIte,wq,ah,Nat.reduceEqDiff,Int.reduceNeg,reduceCtorEq]
            intro h' _
            rw[if_neg h0] at hap
            have e:=zn (g:=g) (p:=p) (inn:=inn) (R.right.take (i+1)) (R.right.drop (i+1)) 0
            rw[List.take_append_drop,hap] at e
            simp only[Option.map_none] at e
            rw[e]
            exact Dl (x:=([],false)) (.emp _)
          · rw[if_pos h0] at hap
            simp (disch:=omega) only [↓wr,↓reduceIte,wq,ag,Nat.reduceEqDiff,Nat.reduceAdd,Nat.reduceLT,Int.reduceNeg,t10]
            have cu:=aX.cells ho
            have ck:=aX.gL ho
            simp (disch:=omega) only [↓wr,↓reduceIte,wq,Int.reduceNeg,cu,ck]
            intro q hq
            have hcc:=Cm [(u,(k:Int) :: a),(encI ((gO g (-1 - s)).1),(gO g (-1 - s)).1)] q (H1.set q (.arr 1 [[u],[encI ((gO g (-1 - s)).1)]])) (by simp[View.set]) (by
              intro x hx
              simp only[List.mem_cons,List.not_mem_nil,or_false] at hx
              rcases hx with rfl | rfl
              · exact .inr (ho.other (o:=.arr 1 [[u],[encI ((gO g (-1 - s)).1)]]) (fun e=>by have e2:=(ho.live e).1; rw[hq] at e2; simp at e2))
              · exact .inl rfl) (by simp; omega) (by simp)
            simp only[encI] at hcc
            refine aF.iy (hcc.mono ?_)
            rintro r H2 ⟨o2,_⟩
            simp (disch:=omega) only [↓wr,↓reduceIte,wq,ah,Nat.reduceEqDiff,Int.reduceNeg,reduceCtorEq,t25]
            refine aK hj (by omega) ⟨r,a ++ (gO g (-1 - s)).1,by simpa using hap,?_,t2,t3,t4,rfl,t23,t24,rfl⟩
            simpa using o2
    · rw[List.take_of_length_le (by omega)] at ha
      have l2:=aX.len ho
      simp (disch:=omega) only [↓wr,↓reduceIte,wq,ah,Nat.reduceEqDiff,reduceCtorEq,t10,l2]
      rintro h' rfl
      rw[ha]
      have f1:=Dl (h:=h') (u:=u) (x:=((k:Int) :: a,decide (((k:Int) :: a).length≤300))) (ix ho)
      have e:(decide ((((bq ((k:Int) :: a)).length:Nat):Int)≤300))=decide (((k:Int) :: a).length≤300):=by
        apply decide_eq_decide.2; simp; omega
      simp[encI] at f1 e ⊢
      rw[decide_eq_decide.2 e]
      exact f1
theorem I3 {F:List Way} {w:Way} {n:Int} : lookW (F ++ [w]) n=match lookW F n with
    | some x=>some x
    | none=>if w.bU=n then some w else none:=by
  unfold lookW
  rw[List.find?_append]
  cases h:F.find? fun x=>x.bU == n with
  | some x=>rfl
  | none =>
    simp only[Option.none_or,List.find?_cons,List.find?_nil]
    by_cases e:w.bU=n
    · simp[e]
    · have:(w.bU == n)=false:=by simpa using e
      rw[this]; simp[e]
theorem BD {F:List Way} {n:Int} (h:n ∉ bR F):lookW F n=none:=by
  rw[lookW,List.find?_eq_none]
  intro x hx e
  exact h (List.mem_map.2 ⟨x,hx,by simpa using e⟩)
theorem M6 {g:an} (hf:g.iw) (i:Nat):du g (eH g i)∧(eH g i).length≤g.av.length:=by
  have h:=(EB g i).1
  exact ⟨h,h.len ⟨hf.dW,hf.start⟩ fun R hR s hs hn=>by
    have:=hf.sym R hR s hs
    unfold gu at this
    rw[if_neg (by omega)] at this
    simpa using this⟩
theorem du.le {g:an} (hf:g.iw) {F:List Way} (h:du g F):F.length≤g.av.length :=
  h.len ⟨hf.dW,hf.start⟩ fun R hR s hs hn=>by
    have:=hf.sym R hR s hs
    unfold gu at this
    rw[if_neg (by omega)] at this
    simpa using this
theorem NG {g:an} {i:Nat} (h:(eH g i).length≤i) (hi:i≤g.av.length):fH g=eH g i:=by
  have:=DR h (g.av.length - i)
  rw[show i+(g.av.length - i)=g.av.length by omega] at this
  exact this
theorem Ga {g:an} {F:List Way} (hF:du g F):∀ (f:Nat) (n:Int) (x:List Int × Bool),n∈bR F→dF F n≤f→cy g F f n x=cy g F (dF F n) n x:=by
  intro f
  induction f using Nat.strongRecOn with
  | _ f ih =>
    intro n x hn hf
    cases f with
    | zero=>rw[show dF F n=0 by omega]
    | succ f =>
      by_cases he:dF F n=f+1
      · rw[he]
      by_cases hx:x.2=true
      · by_cases hs:n=g.start
        · subst hs
          have h1:=mU hF
          have e1:∀ d,cy g F d g.start x=x:=fun d=>by
            cases d with
            | zero=>rw[cy]
            | succ d=>rw[cy,if_pos hx,h1]; simp only; rw[if_neg (by omega)]
          rw[e1,e1]
        · obtain ⟨k,j,R,h1,h2,h3,h4,h5,h6⟩:=wW hF hn hs
          have e1:∀ d,cy g F (d+1) n x=cy g F d R.left (eU g k j x.1):=fun d=>by
            rw[cy,if_pos hx,h1]; simp only; rw[if_pos (by omega),(kc h2).2]
          obtain ⟨m,hm⟩:∃ m,dF F n=m+1:=⟨dF F n - 1,by omega⟩
          rw[e1,hm,e1,ih f (by omega) _ _ h5 (by omega),ih m (by omega) _ _ h5 (by omega)]
      · have e1:∀ d,cy g F d n x=x:=fun d=>by
          cases d with
          | zero=>rw[cy]
          | succ d=>rw[cy,if_neg hx]
        rw[e1,e1]
theorem Al {g:an} {F:List Way} (hF:du g F) {n:Int} {x:List Int × Bool} (h:x.2=false∨n=g.start):cy g F (dF F n) n x=x:=by
  cases hd:dF F n with
  | zero=>rw[cy]
  | succ d =>
    rw[cy]
    rcases h with h | h
    · rw[if_neg (by rw[h]; simp)]
    · subst h
      split
      · rw[mU hF]; simp only; rw[if_neg (by omega)]
      · rfl
theorem GN {g:an} {F:List Way} (hF:du g F) {n:Int} {x:List Int × Bool} (hn:n∈bR F) (hs:n≠g.start) (hx:x.2=true) :
    ∃ (k j:Nat) (R:aQ),lookW F n=some ⟨n,k,j⟩∧g.rules[k]?=some R∧R.right[j]?=some (-1 - n)∧0≤n∧R.left∈bR F∧dF F R.left < dF F n∧cy g F (dF F n) n x=cy g F (dF F R.left) R.left (eU g k j x.1):=by
  obtain ⟨k,j,R,h1,h2,h3,h4,h5,h6⟩:=wW hF hn hs
  refine ⟨k,j,R,h1,h2,h3,h4,h5,h6,?_⟩
  obtain ⟨m,hm⟩:∃ m,dF F n=m+1:=⟨dF F n - 1,by omega⟩
  rw[hm,cy,if_pos hx,h1]
  simp only
  rw[if_pos (by omega),(kc h2).2,Ga hF m _ _ h5 (by omega)]
theorem FE (x:List Int × Int):Tree (kX x):=.bo _ fun i hi=>by
  match i,hi with
  | 0,_=>exact bQ _
  | 1,_=>exact .val _
theorem IB {g:an} (h:isRed g=true) {i:Nat} (hi:i < g.rules.length) (hc:(eD g i).2=true):(iY g (eD g i).1).2=0∧(eD g i).1.length≤300:=by
  obtain ⟨w,h1,h2⟩:=DV h hi hc
  obtain ⟨x,h3,_⟩:=B1 (iv h).1 h1 h2
  exact ⟨by rw[iY,h3],h2⟩
theorem FB (g:an) (i:Int):∀ v∈[V.agg (ar g),gi i],Tree v:=by
  intro v hv; simp at hv
  rcases hv with rfl | rfl
  · exact cE _ (cR g)
  · exact .val _
def r9 (x:List (List Int) × Int):V:=.bo [cn x.1,gi x.2]
abbrev Df (l:List (List Int)):List (List V):=l.map fun w=>[encI w]
theorem yo {g:an} {i:Nat} (h:(bP g i).2≠0):∀ d,bP g (i+d)=bP g i
  | 0=>rfl
  | d+1=>by
    have ih:=yo h d
    rw[← Nat.add_assoc,bP,ih,if_pos h]
theorem Hd {g:an} {i n:Nat} (h:(bP g i).2≠0) (hi:i≤n):bP g n=bP g i:=by
  have:=yo h (n - i)
  rwa [show i+(n - i)=n by omega] at this
theorem MN {l:List (List Int)} : ∀ e∈Df l,∀ v∈e,Tree v:=by
  intro e he v hv
  simp only[List.mem_map] at he
  obtain ⟨w,_,rfl⟩:=he
  simp at hv; subst hv
  exact bQ w
theorem y5 {h:aE} {u:V} {x:List (List Int) × Int} (ho:aX h.view u 1 (Df x.1)):Fr h (.bo [u,gi x.2]) (r9 x):=.bo _ _ rfl fun j hj=>match j,hj with
  | 0,_=>di.own ho MN h rfl
  | 1,_=>.tree _ (.val _)
  | n+2,hj=>absurd hj (by simp only[List.length_cons,List.length_nil]; omega)
theorem PV (t:List Int):(([[encI t]]:List (List V)).all fun e=>e.length == 1 && e.all aT)=true:=by simp[aT,encI]
def fh (H:View) (u:V) (l:List Int):Prop:=∃ (id off:Nat) (es:List (List V)),u=.sl id off l.length 1∧H id=.arr 1 es∧off+l.length≤es.length∧(es.drop off).take l.length=bq l
theorem fh.len {H:View} {u:V} {l:List Int} (h:fh H u l):dM u=some l.length:=by
  obtain ⟨id,off,es,rfl,_⟩:=h; rfl
theorem fh.keep {H H':View} {u:V} {l:List Int} (h:fh H u l) (hk:∀ id es,H id=.arr 1 es→H' id=H id):fh H' u l:=by
  obtain ⟨id,off,es,h1,h2,h3,h4⟩:=h
  exact ⟨id,off,es,h1,by rw[hk id es h2]; exact h2,h3,h4⟩
theorem fh.fresh {H:View} {u:V} {l:List Int} (h:fh H u l) {n:Nat} {o:bN} (hn:H n=.dead):fh (H.set n o) u l :=
  h.keep fun id es hid=>by
    have:id≠n:=by rintro rfl; rw[hn] at hid; simp at hid
    simp[View.set,this]
theorem fh.vX {H:View} {u:V} {l:List Int} (h:fh H u l) {q c:Nat} {es:List (V × V × Nat)} {o:bN} (hq:H q=.map es c):fh (H.set q o) u l :=
  h.keep fun id es' hid=>by
    have:id≠q:=by rintro rfl; rw[hq] at hid; simp at hid
    simp[View.set,this]
theorem fh.own {H:View} {u:V} {l:List Int} (h:aX H u 1 (bq l)) (hl:l≠[]):fh H u l:=by
  rcases h with ⟨e,_⟩ | ⟨n,rfl,hn⟩
  · rw[List.map_eq_nil_iff] at e; exact absurd e hl
  · exact ⟨n,0,_,by simp,hn,by simp,by rw[List.drop_zero,List.take_of_length_le (by simp)]⟩
theorem fh.at {H:View} {u:V} {x:Int} {l:List Int} (h:fh H u (x :: l)):∃ (id off:Nat) (es:List (List V)),u=.sl id off (l.length+1) 1∧H id=.arr 1 es∧off < es.length∧es.getD off []=[gi x]∧off+(l.length+1)≤es.length:=by
  obtain ⟨id,off,es,h1,h2,h3,h4⟩:=h
  simp only[List.length_cons] at h1 h3 h4
  refine ⟨id,off,es,h1,h2,by omega,?_,h3⟩
  have h5:=congrArg (fun z=>z[0]?) h4
  simp at h5
  have:es[off]?=some (es[off]'(by omega)):=List.getElem?_eq_getElem (by omega)
  rw[this] at h5
  simp at h5
  rw[List.getD_eq_getElem?_getD,this,h5]; rfl
theorem fh.next {H:View} {id off k:Nat} {x:Int} {l:List Int} (h:fh H (.sl id off k 1) (x :: l)):fh H (.sl id (off+1) (k - 1) 1) l:=by
  obtain ⟨id',off',es,h1,h2,h3,h4⟩:=h
  simp only[V.sl.injEq,and_true] at h1
  obtain ⟨rfl,rfl,rfl⟩:=h1
  simp only[List.length_cons] at h3 h4 ⊢
  refine ⟨id,off+1,es,by simp,h2,by omega,?_⟩
  have h5:=congrArg (List.drop 1) h4
  rw[List.drop_take,List.drop_drop] at h5
  simpa using h5
theorem F8 {bytes:Nat} {u:V} {l xs:List Int} {H:View} {K:V→View→Prop} {w:cF (H,K)} (ho:fh H u l) (hx:xs≠[])
    (hl:(l.length+xs.length) * bytes < aI) (hl2:l.length+xs.length < aI) (hk:∀ u' H',aX H' u' 1 (bq (l ++ xs))→Left H H' u u'→K u' H'):mQ 1 bytes u (bq xs) H K w:=by
  have he:(bq xs).isEmpty=false:=by cases xs with | nil=>exact absurd rfl hx | cons=>rfl
  obtain ⟨id,off,es,rfl,h2,h3,h4⟩:=ho
  rw[u4 _ _ _ _ _ _ _ _ _ _ he,h2]
  refine ⟨by simp[List.all_map,aT],⟨h3,rfl,by simpa using hl,by simpa using hl2⟩,fun m hm=>hk _ _ ?_ ?_⟩
  · refine .inr ⟨m,by simp,?_⟩
    rw[h4]; simp[View.set]
  · intro id' hid ho
    have e:id'≠m:=by rintro rfl; exact hid hm
    have e2:id'≠id:=by rintro rfl; exact ho rfl
    exact ⟨by simp[View.set,e,e2],by simp[owner,Ne.symm e]⟩
def Bp (H:View) (w:Option Way) (v:Option V):Prop:=match w with
  | none=>v=none
  | some w=>(w.bd = -1∧v=some (.val (.pointer none)))∨(0≤w.bd∧∃ p,v=some (.ptr p 0 0)∧H p=.arr 2 [[gi w.bd,gi w.place]])
def eW (H:View) (F:List Way) (m:dp Int):Prop:=∀ n,Bp H (lookW F n) (getM m n)
theorem Bp.keep {H H':View} {w:Option Way} {v:Option V} (h:Bp H w v) (hk:∀ id es,H id=.arr 2 es→H' id=H id):Bp H' w v:=by
  cases w with
  | none=>exact h
  | some w =>
    rcases h with h | ⟨h1,p,h2,h3⟩
    · exact .inl h
    · exact .inr ⟨h1,p,h2,by rw[hk p _ h3]; exact h3⟩
theorem eW.keep {H H':View} {F:List Way} {m:dp Int} (h:eW H F m) (hk:∀ id es,H id=.arr 2 es→H' id=H id):eW H' F m:=fun n=>(h n).keep hk
theorem eW.fresh {H:View} {F:List Way} {m:dp Int} (h:eW H F m) {n:Nat} {o:bN} (hn:H n=.dead):eW (H.set n o) F m :=
  h.keep fun id es hid=>by
    have:id≠n:=by rintro rfl; rw[hn] at hid; simp at hid
    simp[View.set,this]
theorem eW.vX {H:View} {F:List Way} {m:dp Int} (h:eW H F m) {q c:Nat} {es:List (V × V × Nat)} {o:bN} (hq:H q=.map es c):eW (H.set q o) F m :=
  h.keep fun id es' hid=>by
    have:id≠q:=by rintro rfl; rw[hq] at hid; simp at hid
    simp[View.set,this]
theorem zQ {H:View} {u:V} {l:List Int} (h:fh H u l) {id:Nat} (hid:owner u=some id):∃ es,H id=.arr 1 es:=by
  obtain ⟨i,off,es,rfl,h2,_⟩:=h
  simp[owner] at hid; subst hid
  exact ⟨es,h2⟩
theorem eW.left {H H':View} {F:List Way} {m:dp Int} (h:eW H F m) {u u':V} {l:List Int} (ht:fh H u l) (hl:Left H H' u u'):eW H' F m :=
  h.keep fun id es hid=>(hl id (by rw[hid]; simp) (fun e=>by obtain ⟨es',h2⟩:=zQ ht e; rw[hid] at h2; simp at h2)).1
theorem JF {H H':View} {u u':V} {l:List Int} {q c:Nat} {es:List (V × V × Nat)} (ht:fh H u l) (hl:Left H H' u u') (hq:H q=.map es c):H' q=.map es c:=by
  rw[(hl q (by rw[hq]; simp) (fun e=>by obtain ⟨es',h2⟩:=zQ ht e; rw[hq] at h2; simp at h2)).1]; exact hq
theorem eW.put {H:View} {F:List Way} {m:dp Int} (h:eW H F m) {p c k j:Nat} {n:Int} (hn:n ∉ bR F) (hp:H p=.arr 2 [[gi k,gi j]]):eW H (F ++ [⟨n,k,j⟩]) (cW n (.ptr p 0 0) c m):=by
  intro n'
  rw[I3,y4]
  by_cases e:n=n'
  · subst e
    rw[BD hn]
    simp only[if_true,beq_self_eq_true]
    exact .inr ⟨by simp only; omega,p,rfl,hp⟩
  · have e2:(n' == n)=false:=by simpa using Ne.symm e
    rw[e2]
    have h1:=h n'
    cases hl:lookW F n' with
    | some w=>rw[hl] at h1; simpa using h1
    | none =>
      rw[hl] at h1
      simp only
      rw[if_neg e]
      simpa using h1
theorem eW.has {H:View} {F:List Way} {m:dp Int} (h:eW H F m) (n:Int):(getM m n).isSome=decide (n∈bR F):=by
  have h1:=h n
  by_cases e:n∈bR F
  · obtain ⟨x,hx,_⟩:=E8 e
    rw[hx] at h1
    rcases h1 with ⟨_,h1⟩ | ⟨_,p,h1,_⟩ <;> rw[h1] <;> simp[e]
  · rw[BD e] at h1
    have h2:getM m n=none:=h1
    rw[h2]; simp[e]
theorem F1 {id off k:Nat} : hE 1 (.sl id off (k+1) 1) (some (.val (.int .i64 1))) none=some (.sl id (off+1) k 1,.none,[]):=by
  simp[hE,bound,asNat]
def tU:SC :=
  .seq (al [aR 41 .lss 40 39]) <|
  .seq (.cond (.tmp 41) (.skip) (.exit 4)) <|
  .seq (.block 5 (.seq (al [ae 42 40,aP 43 1 38 40,ao 44 43,ae 7 42,ae 8 44]) <|
  .seq (al [ae 46 3,ae 47 8,((some 48),.op (.arith .sub (.val (.val (.int .i64 (-1)))) (.tmp 47))),((some 49),.op (.old (.lookup 175 (.tmp 46) (.tmp 48) true) 236)),ae 45 49,bY 50 0 45,bY 51 1 45,ae 9 50,ae 10 51]) <|
  .seq (.region false [⟨none,[ae 52 8,az 53 .lss 52 0,ae 54 53]⟩,⟨(some (54,true)),[ae 55 10,bZ 56 55]⟩,⟨none,[bO 57 54 56]⟩]) <|
  .cond (.tmp 57) (.seq (al [ae 58 3,ae 59 8,((some 60),.op (.arith .sub (.val (.val (.int .i64 (-1)))) (.tmp 59))),ae 61 5,ae 62 7,((some 63),.op (.build [(.val (.int .i64 0)),(.val (.int .i64 0))] [(0,1,(.tmp 61)),(1,1,(.tmp 62))])),((some 64),.op (.box (.tmp 63))),(none,.op (.old (.mapUpdate 175 (.tmp 58) (.tmp 60) (.tmp 64)) 0))]) <|
  al [ae 65 4,ae 66 8,((some 67),.op (.arith .sub (.val (.val (.int .i64 (-1)))) (.tmp 66))),((some 68),.op (.bJ 1 1 [(.val (.int .i64 0))] [(0,(.tmp 67))])),((some 69),.op (.app 1 8 (.tmp 65) (.tmp 68))),ae 4 69]) (.skip))) <|
  al [az 70 .add 40 1,ae 40 70]
def th:SC :=
  .seq (al [aR 27 .lss 26 25]) <|
  .seq (.cond (.tmp 27) (.skip) (.exit 2)) <|
  .seq (.block 3 (.seq (al [ae 28 26,aP 29 3 24 26,aU 30 3 29,((some 6),.op (.alloc [(.val (.int .i64 0)),(.emp 1),(.val (.int .i64 0))])),ae 5 28,(none,.op (.store 3 (.tmp 6) (.tmp 30)))]) <|
  .seq (.seq (al [au 31 0 6,ao 32 31,ae 33 4,((some 34),.op (.idx 1 (.tmp 33) (.val (.val (.int .i64 0))))),ao 35 34,aR 36 .neq 32 35]) <|
  .cond (.tmp 36) (.exit 3) (.skip)) <|
  .seq (al [au 37 1 6,ao 38 37,aL 39 38,aH 40 0]) <|
  .block 4 (.loop tU))) <|
  al [az 71 .add 26 1,ae 26 71]
def sS:SC :=
  .seq (.seq (al [ae 18 4,aL 19 18,az 20 .gtr 19 0]) <|
  .cond (.tmp 20) (.skip) (.exit 0)) <|
  .seq (.block 1 (.seq (al [au 23 2 1,ao 24 23,aL 25 24,aH 26 0]) <|
  .block 2 (.loop th))) <|
  al [ae 21 4,((some 22),.op (.slice 1 (.tmp 21) (some (.val (.val (.int .i64 1)))) none)),ae 4 22]
def vW:SF:=⟨.seq (al [cM 1 0,((some 2),.op (.bc (.val (.val (.map none)))))]) <|
  .seq (al [((some 11),.op (.rr)),au 12 3 1,ao 13 12,(none,.op (.old (.insert 175 (.tmp 11) (.tmp 13) (.const (.pointer none))) 0)),ae 14 11,ae 3 14]) <|
  .seq (.seq (al [au 15 3 1,ao 16 15,((some 17),.op (.bJ 1 1 [(.val (.int .i64 0))] [(0,(.tmp 16))])),ae 4 17]) <|
  .block 0 (.loop sS)) <|
  .seq (al [ae 72 3,ae 2 72]) <|
  .ret,
  [.tmp 2],73⟩
theorem zl:aW Tryz.prog 109 [1]=some vW:=by kernel_rfl
set_option maxHeartbeats 8000000 in
theorem MQ (g:an) (hg:g.Ok) (hf:g.iw) (H:View):aA Tryz.prog 109 [.agg (ar g)] H fun r H'=>∃ q c m,r=.mp q∧H' q=.map (c4 (Value.int .i64) m) c∧eW H' (fH g) m:=by
  refine aA.of mixed zl ?_
  obtain ⟨n1,n2,r1,r2,s1,s2⟩:=And.intro hf.p8 (And.intro hf.av (And.intro hf.DD (And.intro hf.rules (And.intro hf.dW hf.start))))
  simp (disch:=omega) only [↓wr,↓reduceIte,wq,ai,Nat.reduceEqDiff,Nat.reduceAdd,Nat.reduceLT,Nat.reduceLeDiff,vW,ar,encS]
  intro q hq
  simp (disch:=omega) only [OO]
  refine wQ (kt:=3) (et:=177) (by kernel_rfl) (gX .i64 Tryz.underlying3) (id:=q) (c:=0) (m:=[]) (k:=g.start) (v:=.val (.pointer none)) (by simp (disch:=omega) only [↓wr,↓reduceIte,Nat.reduceEqDiff]) (by simp (disch:=omega) only [↓wr,↓reduceIte]) rfl (by simp[View.set]; rfl) ?_
  intro c'
  simp (disch:=omega) only [↓wr,↓reduceIte,wq,ag,Nat.reduceEqDiff,Nat.reduceAdd,Nat.reduceLT]
  intro n hn
  obtain ⟨hnq,_⟩:=cg hn (by simp)
  refine bb.up g.av.length (fun i T H'=>∃ u m c,fh H' u ((bR (eH g i)).drop i)∧H' q=.map (c4 (Value.int .i64) m) c∧eW H' (eH g i) m∧T 1=.aS (ar g) 0∧T 3=.mp q∧T 4=u) ?_ ?_
  · refine ⟨.sl n 0 1 1,cW g.start (.val (.pointer none)) 0 [],c',?_,by simp[View.set,Ne.symm hnq],?_,rfl,rfl,rfl⟩
    · exact ⟨n,0,[[gi g.start]],rfl,by simp[View.set],by simp[eH,bR],rfl⟩
    · intro n'
      rw[y4]
      by_cases e:n'=g.start
      · subst e; simp[eH,lookW,Bp]
      · simp[eH,lookW,Bp,e,Ne.symm e,getM]
  · rintro i k T H' hk ⟨u,m,c,ht,hq',hM,t1,t3,t4⟩
    have lu:=ht.len
    have hW:=M6 hf i
    have hkl:(bR (eH g i)).length=(eH g i).length:=by simp[bR]
    simp (disch:=omega) only [↓wr,↓reduceIte,wq,ah,ak,reduceCtorEq,sS,t4,lu,ar,encS,List.length_drop,hkl]
    refine aq.dec (fun hc=>?_) (fun hc=>?_)
    · have hil:i < (eH g i).length:=by omega
      have hx:(eH g i)[i]?=some ((eH g i)[i]'hil):=List.getElem?_eq_getElem hil
      generalize (eH g i)[i]'hil=x at hx
      have hst:eH g (i+1)=fW x.bU 0 g.rules (eH g i):=by rw[eH,hx]
      simp (disch:=omega) only [↓wr,↓reduceIte,wq,ak,Nat.reduceEqDiff,Nat.reduceAdd,Nat.reduceLT,t1,ar,encS]
      refine bb.up g.rules.length (fun k T H'=>∃ u F m c,F=fW x.bU 0 (g.rules.take k) (eH g i)∧du g F∧F[i]?=some x∧fh H' u ((bR F).drop i)∧H' q=.map (c4 (Value.int .i64) m) c∧eW H' F m ∧
        T 1=.aS (ar g) 0∧T 3=.mp q∧T 4=u∧T 24=.aY (g.rules.map aO)∧T 25=gi g.rules.length∧T 26=gi k) ?_ ?_
      · exact ⟨u,_,m,c,rfl,hW.1,hx,ht,hq',hM,t1,t3,t4,rfl,rfl,rfl⟩
      · rintro kk k2 T2 H2 hk2 ⟨u,F,m,c,hF,hok,hFx,ht,hq',hM,t1,t3,t4,t24,t25,t26⟩
        simp (disch:=omega) only [↓wr,↓reduceIte,wq,ah,th,t25,t26,ar,encS]
        have hFk:(bR F).drop i=x.bU :: (bR F).drop (i+1):=by
          have hkx:(bR F)[i]?=some x.bU:=by simp[bR,hFx]
          obtain ⟨h1,h2⟩:=List.getElem?_eq_some_iff.1 hkx
          rw[List.drop_eq_getElem_cons h1,h2]
        rw[hFk] at ht
        obtain ⟨id,off,es,hu,hid,hof,hes,hle⟩:=ht.at
        subst hu
        refine aq.dec (fun hd=>?_) (fun hd=>?_)
        · have hR:g.rules[kk]?=some (g.rules[kk]'(by omega)):=List.getElem?_eq_getElem (by omega)
          have htk:g.rules.take (kk+1)=g.rules.take kk ++ [g.rules[kk]'(by omega)]:=by rw[List.take_add_one,hR]; rfl
          have hmr:=List.mem_of_getElem? hR
          generalize g.rules[kk]'(by omega)=R at hR htk hmr
          simp (disch:=omega) only [↓wr,↓reduceIte,wq,aa,Nat.reduceEqDiff,Nat.reduceAdd,Nat.reduceLT,Nat.reduceLeDiff,Int.reduceToNat,t4,t24,t26,aO,List.getElem?_map,hR]
          intro b hb
          have hib:¬ b=id:=by rintro rfl; rw[hid] at hb; simp at hb
          have hib':¬ id=b:=fun e=>hib e.symm
          simp (disch:=omega) only [↓wr,↓reduceIte,wq,ah,Nat.reduceEqDiff,Nat.reduceLT,hib',hid,hes]
          refine ⟨rfl,by omega,hof,?_⟩
          have hsn:fW x.bU 0 (g.rules.take (kk+1)) (eH g i)=ml x.bU kk R F:=by
            rw[htk,xY,← hF]; simp[show min kk g.rules.length=kk by omega]
          rw[set_set]
          have ht':=ht.fresh hb (o:=.arr 3 [[gi R.left,encI R.right,gi R.prec]])
          have hM':=hM.fresh hb (o:=.arr 3 [[gi R.left,encI R.right,gi R.prec]])
          have hqb:q≠b:=by rintro rfl; rw[hq'] at hb; simp at hb
          have hq2:(H2.set b (.arr 3 [[gi R.left,encI R.right,gi R.prec]])) q=.map (c4 (Value.int .i64) m) c:=by simp[View.set,hqb,hq']
          refine aq.ne (fun hne=>?_) (fun hne=>?_)
          · simp (disch:=omega) only [↓wr,↓reduceIte,wq,ah,Nat.reduceEqDiff,reduceCtorEq,t3,t4,t26]
            exact aK hk2 (by omega) ⟨_,F,m,c,by rw[hsn,ml,if_neg hne],hok,hFx,by rw[hFk]; exact ht',hq2,hM',t1,t3,t4,t24,t25,rfl⟩
          · have hr6:=hf.right R hmr
            have hHb:(H2.set b (.arr 3 [[gi R.left,encI R.right,gi R.prec]])) b=.arr 3 [[gi R.left,encI R.right,gi R.prec]]:=by simp[View.set]
            generalize hH5:H2.set b (.arr 3 [[gi R.left,encI R.right,gi R.prec]])=H5 at ht' hM' hq2 hHb
            simp (disch:=omega) only [↓wr,↓reduceIte,wq,ak,Nat.reduceEqDiff,Nat.reduceAdd,Nat.reduceLT,hHb,encI]
            refine bb.up R.right.length (fun j T H'=>∃ u F2 m c,F2=ji kk 0 (R.right.take j) F∧du g F2∧F2[i]?=some x∧fh H' u ((bR F2).drop i)∧H' q=.map (c4 (Value.int .i64) m) c∧eW H' F2 m ∧
              T 1=.aS (ar g) 0∧T 3=.mp q∧T 4=u∧T 24=.aY (g.rules.map aO)∧T 25=gi g.rules.length∧T 26=gi kk∧T 5=gi kk∧T 38=encI R.right∧T 39=gi R.right.length∧T 40=gi j) ?_ ?_
            · exact ⟨_,F,m,c,rfl,hok,hFx,by rw[hFk]; exact ht',hq2,hM',t1,t3,t4,t24,t25,t26,rfl,rfl,rfl,rfl⟩
            · rintro j k3 T3 H3 hk3 ⟨u,F2,m,c,hF2,hok2,hFx2,ht2,hq3,hM2,t1,t3,t4,t24,t25,t26,t5,t38,t39,t40⟩
              simp (disch:=omega) only [↓wr,↓reduceIte,wq,ah,Int.reduceNeg,tU,t39,t40,encI]
              refine aq.dec (fun he=>?_) (fun he=>?_)
              · have hS:R.right[j]?=some (R.right[j]'(by omega)):=List.getElem?_eq_getElem (by omega)
                have htj:R.right.take (j+1)=R.right.take j ++ [R.right[j]'(by omega)]:=by rw[List.take_add_one,hS]; rfl
                have hms:=List.mem_of_getElem? hS
                generalize R.right[j]'(by omega)=s at hS htj hms
                have hss:ji kk 0 (R.right.take (j+1)) F=ks kk j s F2:=by
                  rw[htj,Ax,← hF2]; simp[show min j R.right.length=j by omega]
                have h64:=(hg.bd R hmr).2.2.2 s hms
                unfold bW at h64
                have hnx:=E3 (k:=kk) (j:=j) hok2 hR hS hFx2 (Eq.symm hne)
                have hlen:=hok2.le hf
                simp (disch:=omega) only [↓wr,↓reduceIte,wq,ah,Nat.reduceEqDiff,Nat.reduceLT,Int.reduceNeg,t3,t38,t40,encI,List.getElem?_map,hS]
                refine L3 (kt:=3) (et:=177) (z:=.val (.pointer none)) (by kernel_rfl) (by kernel_rfl) (gX .i64 Tryz.underlying3) (id:=q) (c:=c) (m:=m) (k:=-1 - s) (by simp (disch:=omega) only [↓wr,↓reduceIte,Nat.reduceEqDiff]) (by simp (disch:=omega) only [↓wr,↓reduceIte,Int.reduceNeg]) hq3 ?_
                rw[hM2.has]
                simp (disch:=omega) only [↓wr,↓reduceIte,wq,ah,Nat.reduceEqDiff,Nat.reduceAdd,Nat.reduceLT,Int.reduceNeg]
                refine aq.dec (fun hs=>?_) (fun hs=>?_)
                · simp (disch:=omega) only [↓wr,↓reduceIte,wq,Nat.reduceEqDiff,Int.reduceNeg]
                  refine aq.dec (fun hmem=>?_) (fun hmem=>?_)
                  · simp (disch:=omega) only [↓wr,↓reduceIte,wq,ah,Nat.reduceEqDiff,Int.reduceNeg,reduceCtorEq,t3,t4,t26,t40]
                    exact aK hk3 (by omega) ⟨u,F2,m,c,by rw[hss,ks,if_neg (by rintro ⟨_,h⟩; exact h hmem)],hok2,hFx2,ht2,hq3,hM2,t1,t3,t4,t24,t25,t26,t5,t38,t39,rfl⟩
                  · have hsym:ks kk j s F2=F2 ++ [⟨-1 - s,kk,j⟩]:=by rw[ks,if_pos ⟨by omega,hmem⟩]
                    simp (disch:=omega) only [↓wr,↓reduceIte,wq,ah,aa,af,Nat.reduceEqDiff,Nat.reduceAdd,Nat.reduceLeDiff,Int.reduceNeg,t3,t5]
                    intro p hp
                    have hpq:¬ p=q:=by rintro rfl; rw[hq3] at hp; simp at hp
                    have hqp:¬ q=p:=fun e=>hpq e.symm
                    have M1:=hM2.fresh hp (o:=.arr 2 [[gi kk,gi j]])
                    have T1:=ht2.fresh hp (o:=.arr 2 [[gi kk,gi j]])
                    have q1:(H3.set p (.arr 2 [[gi kk,gi j]])) q=.map (c4 (Value.int .i64) m) c:=by simp[View.set,hqp,hq3]
                    have P1:(H3.set p (.arr 2 [[gi kk,gi j]])) p=.arr 2 [[gi kk,gi j]]:=by simp[View.set]
                    refine wQ (kt:=3) (et:=177) (by kernel_rfl) (gX .i64 Tryz.underlying3) (id:=q) (c:=c) (m:=m) (k:=-1 - s) (v:=.ptr p 0 0) (by simp (disch:=omega) only [↓wr,↓reduceIte,Nat.reduceEqDiff]) (by simp (disch:=omega) only [↓wr,↓reduceIte,Nat.reduceEqDiff,Int.reduceNeg]) (by simp (disch:=omega) only [↓wr,↓reduceIte]) q1 ?_
                    intro c2
                    have M2:=(M1.put (c:=c) hmem P1).vX q1 (o:=.map (c4 (Value.int .i64) (cW (-1 - s) (.ptr p 0 0) c m)) c2)
                    have T2':=T1.vX q1 (o:=.map (c4 (Value.int .i64) (cW (-1 - s) (.ptr p 0 0) c m)) c2)
                    have q2:((H3.set p (.arr 2 [[gi kk,gi j]])).set q (.map (c4 (Value.int .i64) (cW (-1 - s) (.ptr p 0 0) c m)) c2)) q=.map (c4 (Value.int .i64) (cW (-1 - s) (.ptr p 0 0) c m)) c2:=by simp[View.set]
                    generalize hH6:(H3.set p (.arr 2 [[gi kk,gi j]])).set q (.map (c4 (Value.int .i64) (cW (-1 - s) (.ptr p 0 0) c m)) c2)=H6 at M2 T2' q2
                    simp (disch:=omega) only [↓wr,↓reduceIte,wq,ah,ag,Nat.reduceEqDiff,Nat.reduceLT,Int.reduceNeg,t4]
                    intro n2 hn2
                    simp (disch:=omega) only [↓wr,↓reduceIte,wq,Nat.reduceEqDiff,Int.reduceNeg,cp]
                    have T3':=T2'.fresh hn2 (o:=.arr 1 [[gi (-1 - s)]])
                    have M3:=M2.fresh hn2 (o:=.arr 1 [[gi (-1 - s)]])
                    have q3:(H6.set n2 (.arr 1 [[gi (-1 - s)]])) q=.map (c4 (Value.int .i64) (cW (-1 - s) (.ptr p 0 0) c m)) c2:=by
                      have:q≠n2:=by rintro rfl; rw[q2] at hn2; simp at hn2
                      simp[View.set,this,q2]
                    have hfl:(bR F2).length≤16:=by simp[bR]; omega
                    have hil2:i < (bR F2).length:=by simp[bR]; exact (List.getElem?_eq_some_iff.1 hFx2).1
                    refine F8 (xs:=[-1 - s]) T3' (by simp) (by unfold aI; simp; omega) (by unfold aI; simp; omega) ?_
                    intro u2 H7 o2 hl2
                    simp (disch:=omega) only [↓wr,↓reduceIte,wq,ah,Nat.reduceEqDiff,Int.reduceNeg,reduceCtorEq,t3,t26,t40]
                    refine aK hk3 (by omega) ⟨u2,ks kk j s F2,_,c2,hss.symm,hnx,by rw[hsym]; exact xP hFx2,?_,JF T3' hl2 q3,?_,t1,t3,rfl,t24,t25,t26,t5,t38,t39,rfl⟩
                    · rw[hsym,bR,List.map_append,List.drop_append_of_le_length (by simpa [bR] using Nat.le_of_lt hil2)]
                      exact fh.own o2 (by simp)
                    · rw[hsym]; exact M3.left T3' hl2
                · simp (disch:=omega) only [↓wr,↓reduceIte,wq,ah,Nat.reduceEqDiff,Int.reduceNeg,reduceCtorEq,t3,t4,t26,t40]
                  exact aK hk3 (by omega) ⟨u,F2,m,c,by rw[hss,ks,if_neg (by omega)],hok2,hFx2,ht2,hq3,hM2,t1,t3,t4,t24,t25,t26,t5,t38,t39,rfl⟩
              · simp (disch:=omega) only [↓wr,↓reduceIte,wq,Nat.reduceEqDiff,reduceCtorEq,t3,t4,t26]
                rw[List.take_of_length_le (by omega)] at hF2
                exact aK hk2 (by omega) ⟨u,F2,m,c,by rw[hsn,ml,if_pos hne,hF2],hok2,hFx2,ht2,hq3,hM2,t1,t3,t4,t24,t25,rfl⟩
        · simp (disch:=omega) only [↓wr,↓reduceIte,wq,Nat.reduceEqDiff,reduceCtorEq,t3,t4,F1]
          rw[List.take_of_length_le (by omega)] at hF
          refine aK hk (by omega) ⟨_,m,c,?_,hq',?_,t1,t3,rfl⟩
          · rw[hst,← hF]
            exact ht.next
          · rw[hst,← hF]; exact hM
    · simp (disch:=omega) only [↓wr,↓reduceIte,wq,Nat.reduceEqDiff,reduceCtorEq,t3]
      refine ⟨q,c,m,rfl,hq',?_⟩
      rw[NG (i:=i) (by omega) (by omega)]
      exact hM
def pN:SC :=
  .seq (.seq (.region false [⟨none,[ae 28 8,ae 29 28]⟩,⟨(some (29,true)),[ae 30 9,((some 31),.op (.nil false 1 (.tmp 30) (.val (.val (.pointer none)))))]⟩,⟨none,[bO 32 29 31]⟩]) <|
  .cond (.tmp 32) (.skip) (.exit 0)) <|
  .seq (.block 1 (al [aU 45 4 2,ae 46 9,bG 47 46,au 48 0 47,ao 49 48,ae 50 9,bG 51 50,au 52 1 51,ao 53 52,ae 54 7,aN 55 110 [45,49,53,54],ae 44 55,bY 56 0 44,bY 57 1 44,ae 7 56,ae 8 57])) <|
  al [ae 33 6,au 34 2 2,ao 35 34,ae 36 9,bG 37 36,au 38 0 37,ao 39 38,aP 40 3 35 39,au 41 0 40,ao 42 41,((some 43),.op (.old (.lookup 175 (.tmp 33) (.tmp 42) false) 177)),ae 9 43]
def rP:SF:=⟨.seq (al [cM 2 0,((some 4),.op (.bc (.val (.emp 1)))),aH 5 0]) <|
  .seq (al [aU 12 4 2,aN 13 109 [12],ae 6 13]) <|
  .seq (al [aU 15 4 2,ae 16 1,cT 17 110 [(.tmp 15),(.tmp 16),(.val (.val (.int .i64 (-1)))),(.val (.emp 1))],ae 14 17,bY 18 0 14,bY 19 1 14,ae 7 18,ae 8 19]) <|
  .seq (.seq (al [ae 20 6,au 21 2 2,ao 22 21,ae 23 1,aP 24 3 22 23,au 25 0 24,ao 26 25,((some 27),.op (.old (.lookup 175 (.tmp 20) (.tmp 26) false) 177)),ae 9 27]) <|
  .block 0 (.loop pN)) <|
  .seq (.seq (al [ae 58 8,bZ 59 58]) <|
  .cond (.tmp 59) (.seq (al [((some 4),.op (.bc (.val (.emp 1)))),aH 5 13]) <|
  .ret) (.skip)) <|
  .seq (.seq (al [aU 61 4 2,ae 62 7,aN 63 111 [61,62],ae 60 63,bY 64 0 60,bY 65 1 60,ae 10 64,ae 11 65]) <|
  .seq (.region false [⟨none,[ae 66 11,az 67 .neq 66 0,ae 68 67]⟩,⟨(some (68,false)),[ae 69 10,aL 70 69,az 71 .gtr 70 60]⟩,⟨none,[bC 72 68 71]⟩]) <|
  .cond (.tmp 72) (.seq (al [((some 4),.op (.bc (.val (.emp 1)))),aH 5 13]) <|
  .ret) (.skip)) <|
  .seq (al [ae 73 7,ae 4 73,aH 5 0]) <|
  .ret,
  [.tmp 4,.tmp 5],74⟩
theorem wy:aW Tryz.prog 61 [2]=some rP:=by kernel_rfl
def r8:SF:=⟨.seq (al [cM 2 0,((some 4),.op (.bc (.val (.emp 1)))),aH 5 0]) <|
  .seq (.seq (.region false [⟨none,[aU 6 4 2,aN 7 60 [6],bZ 8 7,ae 9 8]⟩,⟨(some (9,false)),[ae 10 1,az 11 .lss 10 0]⟩,⟨none,[bC 12 9 11,ae 13 12]⟩,⟨(some (13,false)),[ae 14 1,au 15 2 2,ao 16 15,aL 17 16,aR 18 .geq 14 17]⟩,⟨none,[bC 19 13 18]⟩]) <|
  .cond (.tmp 19) (.seq (al [((some 4),.op (.bc (.val (.emp 1)))),aH 5 1]) <|
  .ret) (.skip)) <|
  .seq (al [aU 20 4 2,ae 21 1,aN 22 61 [20,21],bY 23 0 22,bY 24 1 22,ae 4 23,ae 5 24]) <|
  .ret,
  [.tmp 4,.tmp 5],25⟩
theorem xy:aW Tryz.prog 28 [2]=some r8:=by kernel_rfl
set_option maxHeartbeats 8000000 in
theorem yf (g:an) (hg:g.Ok) (hsm:g.Small) (hr:isRed g=true) (r:Nat) (hkr:r < g.rules.length):aD Tryz.prog 61 [.agg (ar g),gi r] (kX (dT g r)):=by
  refine aD.of (FB g r) ?_
  have hrl:=hg.rules
  unfold aM at hrl
  refine aA.of mixed wy ?_
  obtain ⟨hri,hW,hall⟩:=iv hr
  have hf:=aZ hri
  have p2:=Eu g hg hsm hf r hkr (-1) (by unfold bW; omega) [] (by simp)
  have hR:g.rules[r]?=some (g.rules[r]'hkr):=List.getElem?_eq_getElem hkr
  have hlf:=(kc hR).2
  have hmr:=List.mem_of_getElem? hR
  generalize g.rules[r]'hkr=R at hR hlf hmr
  have hleft:=hf.left R hmr
  have hin:=hall R.left.toNat (by omega)
  rw[show ((R.left.toNat:Nat):Int)=R.left by omega] at hin
  have ht0:eD g r=cy g (fH g) (dF (fH g) R.left) R.left (eU g r (-1) []):=by rw[eD,hlf]
  have p1:=MQ g hg hf
  simp only[ar,encS] at p1 p2
  simp (disch:=omega) only [↓wr,↓reduceIte,wq,ai,Nat.reduceEqDiff,Nat.reduceAdd,Nat.reduceLeDiff,Int.reduceNeg,rP,ar,encS]
  refine aF.iy ((p1 _).mono ?_)
  rintro _ H1 ⟨q,c,m,rfl,hq,hM⟩
  simp (disch:=omega) only [↓wr,↓reduceIte,wq,Nat.reduceEqDiff,Nat.reduceAdd,Nat.reduceLeDiff,Int.reduceNeg]
  refine aF.rE p2 (by kernel_rfl) ⟨.tree (cE _ (cR g)),.tree (.val _),.tree (.val _),fun _ _=>.emp 1,trivial⟩ ?_
  simp (disch:=omega) only [↓wr,↓reduceIte,wq,Nat.reduceEqDiff,Nat.reduceAdd,Nat.reduceLT,Int.reduceNeg,aO,List.getElem?_map,hR]
  refine xS (kt:=3) (et:=177) (z:=.val (.pointer none)) (by kernel_rfl) (by kernel_rfl) (gX .i64 Tryz.underlying3) (id:=q) (c:=c) (m:=m) (k:=R.left) (by simp (disch:=omega) only [↓wr,↓reduceIte,Nat.reduceEqDiff]) (by simp (disch:=omega) only [↓wr,↓reduceIte]) hq ?_
  simp (disch:=omega) only [↓wr,↓reduceIte,wq,Int.reduceNeg]
  refine bb.up (dF (fH g) R.left) (fun d T H'=>∃ (n:Int) (x:List Int × Bool),n∈bR (fH g)∧dF (fH g) n+d≤dF (fH g) R.left∧(x.2=true→x.1.length≤300)∧cy g (fH g) (dF (fH g) n) n x=eD g r ∧
    H1=H'∧T 1=gi r∧T 2=.aS (ar g) 0∧T 6=.mp q∧T 7=encI x.1∧T 8=gb x.2∧T 9=(getM m n).getD (.val (.pointer none))) ?_ ?_
  · exact ⟨R.left,eU g r (-1) [],hin,by omega,Dp,ht0.symm,rfl,rfl,rfl,rfl,rfl,rfl,rfl⟩
  rintro d k T _ hk ⟨n,x,hn,hd,hx3,hcl,rfl,t1,t2,t6,t7,t8,t9⟩
  have hMn:=hM n
  simp (disch:=omega) only [↓wr,↓reduceIte,wq,pN,t8,encI,ar,encS]
  refine aq.split (fun hx=>?_) (fun hx=>?_)
  · by_cases hs:n=g.start
    · have hst:x=eD g r:=by rw[← hcl]; exact (Al hW (.inr hs)).symm
      have hls:=mU hW
      rw[← hs] at hls
      rw[hls] at hMn
      obtain ⟨_,hv⟩:(-1:Int) = -1∧getM m n=some (.val (.pointer none)):=by
        rcases hMn with h | ⟨h,_⟩
        · exact h
        · exact absurd h (by simp)
      rw[hv] at t9
      simp (disch:=omega) only [↓wr,↓reduceIte,wq,aj,isNil,Nat.reduceEqDiff,reduceCtorEq,t8,t9,Option.getD_some]
      have h300:=hx3 hx
      have p4:=(Kj g hg hsm x.1 (by unfold aM; omega)).pure
      simp only[ar,encS,encI,kX] at p4
      have eu:dT g r=if 60 < (iY g x.1).1.length then ([],13) else (x.1,0):=by rw[dT,← hst,if_neg (by rw[hx]; simp)]
      have hw0:=(IB hr hkr (by rw[← hst]; exact hx)).1
      rw[← hst] at hw0
      rw[hw0] at p4
      try simp (disch:=omega) only [↓wr,↓reduceIte,wq,ai,ah,ak,aa,af,ag,aj,isNil,Nat.reduceEqDiff,Nat.reduceAdd,Nat.reduceLT,Nat.reduceLeDiff,Int.reduceNeg,Int.reduceToNat,reduceCtorEq,t1,t2,t6,t7,t8,t9]
      refine aq.split (fun _=>?_) (fun h=>by rw[hx] at h; simp at h)
      simp (disch:=omega) only [↓wr,↓reduceIte,wq,Nat.reduceEqDiff,Nat.reduceAdd,Nat.reduceLeDiff,t2,t7,t8,encI,ar,encS]
      refine aF.pure p4 (by kernel_rfl) ?_
      simp (disch:=omega) only [↓wr,↓reduceIte,wq,ah,Nat.reduceEqDiff,Nat.reduceAdd,Nat.reduceLT]
      refine aq.ne (fun h=>absurd rfl h) (fun _=>?_)
      simp (disch:=omega) only [↓wr,↓reduceIte,wq,ah,ak,Nat.reduceEqDiff]
      refine aq.dec (fun hl=>?_) (fun hl=>?_)
      · simp (disch:=omega) only [↓wr,↓reduceIte,wq,Nat.reduceEqDiff,reduceCtorEq]
        intro h' _
        rw[eu,if_pos (by omega)]
        exact (fv (x:=([],13)) (.emp _)).pF
      · simp (disch:=omega) only [↓wr,↓reduceIte,wq,Nat.reduceEqDiff,reduceCtorEq,t7]
        intro h' _
        rw[eu,if_neg (by omega)]
        exact .tree _ (FE (x.1,0))
    · obtain ⟨k2,j,R2,h1,h2,h3,h4,h5,h6,h7⟩:=GN (x:=x) hW hn hs hx
      rw[h1] at hMn
      obtain ⟨p,hv,hp⟩:∃ p,getM m n=some (.ptr p 0 0)∧H1 p=.arr 2 [[gi k2,gi j]]:=by
        rcases hMn with ⟨h,_⟩ | ⟨_,p,h⟩
        · simp at h
        · exact ⟨p,h⟩
      rw[hv] at t9
      simp (disch:=omega) only [↓wr,↓reduceIte,wq,aj,isNil,Nat.reduceEqDiff,t2,t9,Option.getD_some]
      have hk2:k2 < g.rules.length:=(List.getElem?_eq_some_iff.1 h2).1
      have hj6:=hf.right R2 (List.mem_of_getElem? h2)
      have hjl:=(List.getElem?_eq_some_iff.1 h3).1
      have p3:=(Eu g hg hsm hf k2 hk2 j (by unfold bW; omega) x.1 (hx3 hx)).pure
      have hl2:=hf.left R2 (List.mem_of_getElem? h2)
      simp only[ar,encS,encI] at p3
      simp (disch:=omega) only [↓wr,↓reduceIte,wq,Nat.reduceEqDiff,Nat.reduceAdd,Nat.reduceLT,Nat.reduceLeDiff,t7,t9,hp,encI,ar,encS,Option.getD_some]
      try simp (disch:=omega) only [↓wr,↓reduceIte,wq,ai,ah,ak,aa,af,ag,aj,isNil,Nat.reduceEqDiff,Nat.reduceAdd,Nat.reduceLT,Nat.reduceLeDiff,Int.reduceNeg,Int.reduceToNat,reduceCtorEq,t1,t2,t6,t7,t8,t9,hp,encI,ar,encS,Option.getD_some]
      refine aF.pure p3 (by kernel_rfl) ?_
      simp (disch:=omega) only [↓wr,↓reduceIte,wq,Nat.reduceEqDiff,Nat.reduceAdd,Nat.reduceLT,reduceCtorEq,t2,t6,t9,hp,encI,ar,encS,aO,List.getElem?_map,h2,Option.getD_some]
      refine xS (kt:=3) (et:=177) (z:=.val (.pointer none)) (by kernel_rfl) (by kernel_rfl) (gX .i64 Tryz.underlying3) (id:=q) (c:=c) (m:=m) (k:=R2.left) (by simp (disch:=omega) only [↓wr,↓reduceIte,Nat.reduceEqDiff]) (by simp (disch:=omega) only [↓wr,↓reduceIte]) hq ?_
      simp (disch:=omega) only [↓wr,↓reduceIte,wq]
      refine aK hk (by omega) ⟨R2.left,eU g k2 j x.1,h5,by omega,Dp,by rw[← h7]; exact hcl,rfl,t1,t2,t6,rfl,rfl,rfl⟩
  · have hst:x=eD g r:=by rw[← hcl]; exact (Al hW (.inl hx)).symm
    simp (disch:=omega) only [↓wr,↓reduceIte,wq,Nat.reduceEqDiff,reduceCtorEq,t8]
    refine aq.split (fun h=>by rw[hx] at h; simp at h) (fun _=>?_)
    simp (disch:=omega) only [↓wr,↓reduceIte,wq,Nat.reduceEqDiff,reduceCtorEq]
    intro h' _
    rw[dT,← hst,if_pos hx]
    exact (fv (x:=([],13)) (.emp _)).pF
set_option maxHeartbeats 4000000 in
theorem xW (g:an) (hg:g.Ok) (hsm:g.Small) (i:Int) (hi:bW i):aD Tryz.prog 28 [.agg (ar g),gi i] (kX (ov g i)):=by
  refine aD.of (FB g i) ?_
  have hc:=IX g hg hsm
  have hrl:=hg.rules
  unfold aM at hrl
  unfold bW at hi
  refine aA.of mixed xy ?_
  simp only[ar,encS] at hc
  simp (disch:=omega) only [↓wr,↓reduceIte,wq,ai,Nat.reduceEqDiff,Nat.reduceAdd,Nat.reduceLeDiff,r8,ar,encS]
  refine aF.pure hc (by kernel_rfl) ?_
  have hno:(isRed g && decide (0≤i) && decide (i < g.rules.length))=false→ov g i=([],1):=fun h=>by rw[ov,if_neg (by rw[h]; simp)]
  simp (disch:=omega) only [↓wr,↓reduceIte,wq]
  refine aq.split (fun hr=>?_) (fun hr=>?_)
  rotate_left
  · simp (disch:=omega) only [↓wr,↓reduceIte,wq,Nat.reduceEqDiff,reduceCtorEq]
    intro h' _
    rw[hno (by rw[hr]; rfl)]
    exact (fv (x:=([],1)) (.emp _)).pF
  simp (disch:=omega) only [↓wr,↓reduceIte,wq,ah,Nat.reduceEqDiff]
  refine aq.dec (fun h0=>?_) (fun h0=>?_)
  · simp (disch:=omega) only [↓wr,↓reduceIte,wq,Nat.reduceEqDiff,reduceCtorEq]
    intro h' _
    rw[hno (by rw[hr]; simp; omega)]
    exact (fv (x:=([],1)) (.emp _)).pF
  simp (disch:=omega) only [↓wr,↓reduceIte,wq,ah,ak,Nat.reduceEqDiff,Nat.reduceAdd,Nat.reduceLT]
  refine aq.dec (fun h1=>?_) (fun h1=>?_)
  · simp (disch:=omega) only [↓wr,↓reduceIte,wq,Nat.reduceEqDiff,reduceCtorEq]
    intro h' _
    rw[hno (by rw[hr]; simp; omega)]
    exact (fv (x:=([],1)) (.emp _)).pF
  obtain ⟨r,rfl⟩:∃ r:Nat,i=(r:Int):=⟨i.toNat,by omega⟩
  have e0:ov g r=dT g r:=by rw[ov,if_pos (by rw[hr]; simp; omega)]
  have p1:=yf g hg hsm hr r (by omega)
  rw[← e0] at p1
  simp only[ar,encS,kX] at p1
  simp (disch:=omega) only [↓wr,↓reduceIte,wq,Nat.reduceEqDiff,Nat.reduceAdd,Nat.reduceLeDiff]
  refine aF.pure p1 (by kernel_rfl) ?_
  simp (disch:=omega) only [↓wr,↓reduceIte,wq,Nat.reduceEqDiff,Nat.reduceAdd,Nat.reduceLT,reduceCtorEq]
  intro h' _
  exact .tree _ (FE (ov g r))
def ia:SC :=
  .seq (al [aR 9 .lss 8 7]) <|
  .seq (.cond (.tmp 9) (.skip) (.exit 0)) <|
  .seq (.block 1 (.seq (al [ae 10 8,ae 5 10]) <|
  .seq (al [ae 11 1,ae 12 0,ae 13 5,aP 14 1 12 13,ao 15 14,aR 16 .eql 11 15]) <|
  .cond (.tmp 16) (.seq (al [ae 17 5,ae 4 17]) <|
  .ret) (.skip))) <|
  al [az 18 .add 8 1,ae 8 18]
def iZ:SF:=⟨.seq (al [aH 4 0]) <|
  .seq (.seq (al [ae 6 0,aL 7 6,aH 8 0]) <|
  .block 0 (.loop ia)) <|
  .seq (al [aH 4 (-1)]) <|
  .ret,
  [.tmp 4],19⟩
theorem nM:aW Tryz.prog 114 []=some iZ:=by kernel_rfl
def gV:SF:=⟨.seq (al [aV 4 false]) <|
  .seq (al [ae 5 0,ae 6 1,aN 7 114 [5,6],az 8 .geq 7 0,ae 4 8]) <|
  .ret,
  [.tmp 4],9⟩
theorem lN:aW Tryz.prog 66 []=some gV:=by kernel_rfl
def rY:SF:=⟨.seq (al [aV 3 false]) <|
  .seq (al [ae 4 0,ao 5 1,aN 6 66 [4,5],ae 3 6]) <|
  .ret,
  [.tmp 3],7⟩
theorem xl:aW Tryz.prog 65 []=some rY:=by kernel_rfl
def fu:SC :=
  .seq (al [aR 9 .lss 8 7]) <|
  .seq (.cond (.tmp 9) (.skip) (.exit 0)) <|
  .seq (.block 1 (.seq (al [ae 10 8,ae 5 10]) <|
  .seq (al [ae 11 1,ae 12 0,ae 13 5,aP 14 1 12 13,ao 15 14,((some 16),.call (.tmp 11) [(.tmp 15)])]) <|
  .cond (.tmp 16) (.seq (al [ae 17 5,ae 4 17]) <|
  .ret) (.skip))) <|
  al [az 18 .add 8 1,ae 8 18]
def fP:SF:=⟨.seq (al [aH 4 0]) <|
  .seq (.seq (al [ae 6 0,aL 7 6,aH 8 0]) <|
  .block 0 (.loop fu)) <|
  .seq (al [aH 4 (-1)]) <|
  .ret,
  [.tmp 4],19⟩
theorem jK:aW Tryz.prog 113 []=some fP:=by kernel_rfl
def fg:SF:=⟨.seq (al [aV 4 false]) <|
  .seq (al [ae 5 0,ae 6 1,aN 7 113 [5,6],az 8 .geq 7 0,ae 4 8]) <|
  .ret,
  [.tmp 4],9⟩
theorem iH:aW Tryz.prog 64 []=some fg:=by kernel_rfl
def se:SC :=
  .seq (al [aR 15 .lss 14 13]) <|
  .seq (.cond (.tmp 15) (.skip) (.exit 0)) <|
  .seq (.block 1 (.seq (al [ae 16 14,((some 5),.op (.alloc [(.val (.int .i64 0))])),(none,.op (.store 1 (.tmp 5) (.tmp 16)))]) <|
  .seq (.seq (al [ae 17 4,((some 18),.op (.uI 65 [] [(.tmp 5)])),aN 19 64 [17,18]]) <|
  .cond (.tmp 19) (.exit 1) (.skip)) <|
  .seq (al [aU 21 4 1,ao 22 5,aN 23 61 [21,22],ae 20 23,bY 24 0 20,bY 25 1 20,ae 6 24,ae 7 25]) <|
  .seq (.seq (al [ae 26 7,az 27 .neq 26 0]) <|
  .cond (.tmp 27) (.seq (al [ae 28 7,((some 2),.op (.bc (.val (.emp 1)))),ae 3 28]) <|
  .ret) (.skip)) <|
  al [ae 29 4,ae 30 6,((some 31),.op (.bJ 1 1 [(.emp 1)] [(0,(.tmp 30))])),((some 32),.op (.app 1 24 (.tmp 29) (.tmp 31))),ae 4 32])) <|
  al [az 33 .add 14 1,ae 14 33]
def vi:SF:=⟨.seq (al [cM 1 0,((some 2),.op (.bc (.val (.emp 1)))),aH 3 0]) <|
  .seq (.seq (al [aU 8 4 1,aN 9 60 [8],bZ 10 9]) <|
  .cond (.tmp 10) (.seq (al [((some 2),.op (.bc (.val (.emp 1)))),aH 3 1]) <|
  .ret) (.skip)) <|
  .seq (al [((some 4),.op (.bc (.val (.emp 1))))]) <|
  .seq (.seq (al [au 11 2 1,ao 12 11,aL 13 12,aH 14 0]) <|
  .block 0 (.loop se)) <|
  .seq (al [ae 34 4,ae 2 34,aH 3 0]) <|
  .ret,
  [.tmp 2,.tmp 3],35⟩
theorem yQ:aW Tryz.prog 31 [1]=some vi:=by kernel_rfl
theorem E6 (l:List Int) (x:Int):∀ v∈[encI l,gi x],Tree v:=by
  intro v hv; simp at hv
  rcases hv with rfl | rfl
  · exact bQ l
  · exact .val _
theorem Iu (l:List Int) (hl:aM l) (x:Int):aD Tryz.prog 114 [encI l,gi x] (gi (cK (fun y=>x == y) l 0)):=by
  refine aD.val (E6 l x) fun H=>?_
  refine aA.of mixed nM ?_
  unfold aM at hl
  simp (disch:=omega) only [↓wr,↓reduceIte,wq,ai,ak,Nat.reduceAdd,Nat.reduceLeDiff,Int.reduceNeg,reduceCtorEq,iZ,encI]
  refine bb.up l.length (fun i T _=>cK (fun y=>x == y) (l.drop i) i=cK (fun y=>x == y) l 0∧T 0=encI l∧T 1=gi x∧T 7=gi l.length∧T 8=gi i) ⟨rfl,rfl,rfl,rfl,rfl⟩ ?_
  rintro i k T H hk ⟨hi,h0,h1,h7,h8⟩
  simp (disch:=omega) only [↓wr,↓reduceIte,wq,ah,Int.reduceNeg,reduceCtorEq,ia,h7,h8,encI]
  refine aq.dec (fun hc=>?_) (fun hc=>?_)
  · have hg:l[i]?=some (l[i]'(by omega)):=List.getElem?_eq_getElem (by omega)
    rw[dA (show i < l.length by omega)] at hi
    generalize l[i]'(by omega)=y at hg hi
    simp (disch:=omega) only [↓wr,↓reduceIte,wq,ah,Nat.reduceEqDiff,Nat.reduceLT,Int.reduceNeg,reduceCtorEq,h0,h1,h8,encI,List.getElem?_map,hg]
    simp only[cK] at hi
    refine aq.eq (fun e=>?_) (fun e=>?_)
    · simp (disch:=omega) only [↓wr,↓reduceIte,wq,ah,Nat.reduceEqDiff,Int.reduceNeg,reduceCtorEq]
      rw[← hi,if_pos (by simpa using e)]
    · simp (disch:=omega) only [↓wr,↓reduceIte,wq,ah,Nat.reduceEqDiff,Int.reduceNeg,reduceCtorEq,h8]
      refine aK hk (by omega) ⟨?_,h0,h1,h7,rfl⟩
      rw[if_neg (by simpa using e)] at hi
      push_cast; exact hi
  · rw[List.drop_eq_nil_of_le (by omega)] at hi
    simp (disch:=omega) only [↓wr,↓reduceIte,wq,Nat.reduceEqDiff,Int.reduceNeg,reduceCtorEq]
    rw[← hi]; rfl
theorem Mp (l:List Int) (x:Int):(l.any fun y=>x == y)=decide (x∈l):=by
  rw[Bool.eq_iff_iff,List.any_eq_true,decide_eq_true_eq]
  constructor
  · rintro ⟨y,hy,e⟩
    rw[show x=y by simpa using e]; exact hy
  · exact fun h=>⟨x,h,by simp⟩
theorem Dg (l:List Int) (hl:aM l) (x:Int):aD Tryz.prog 66 [encI l,gi x] (gb (decide (x∈l))):=by
  refine aD.val (E6 l x) fun H=>?_
  refine aA.of mixed lN ?_
  simp (disch:=omega) only [↓wr,↓reduceIte,wq,ai,Nat.reduceEqDiff,Nat.reduceAdd,Nat.reduceLeDiff,reduceCtorEq,gV]
  refine aF.pure (Iu l hl x) (by kernel_rfl) ?_
  simp (disch:=omega) only [↓wr,↓reduceIte,wq,ah,reduceCtorEq]
  rw[← Mp,← nS _ l 0 (by omega)]
theorem Hz (w:List Int) (hw:aM w) (b:Nat) (i:Int) (H:View) (hb:H b=.arr 1 [[gi i]]):aA Tryz.prog 65 [encI w,.ptr b 0 0] H fun r H'=>r=gb (decide (i∈w))∧H'=H:=by
  refine aA.of mixed xl ?_
  simp (disch:=omega) only [↓wr,↓reduceIte,wq,ai,Nat.reduceEqDiff,Nat.reduceAdd,Nat.reduceLT,Nat.reduceLeDiff,reduceCtorEq,rY,hb]
  refine aF.pure (Dg w hw i) (by kernel_rfl) ?_
  simp (disch:=omega) only [↓wr,↓reduceIte,wq,reduceCtorEq]
set_option maxHeartbeats 4000000 in
theorem GU (l:List (List Int)) (hl:l.length≤100000) (hs:∀ w∈l,aM w) (u:V) (b:Nat) (x:Int) (H:View) (hb:H b=.arr 1 [[gi x]]) (ho:aX H u 1 (Df l)) :
    aA Tryz.prog 113 [u,.fn 65 [] [.ptr b 0 0]] H fun r H'=>r=gi (cK (fun w=>decide (x∈w)) l 0)∧H'=H:=by
  refine aA.of mixed jK ?_
  simp (disch:=omega) only [↓wr,↓reduceIte,wq,ai,ak,Nat.reduceAdd,Nat.reduceLeDiff,Int.reduceNeg,reduceCtorEq,fP,ho.len]
  refine bb.up l.length (fun i T H'=>H=H'∧cK (fun w=>decide (x∈w)) (l.drop i) i=cK (fun w=>decide (x∈w)) l 0∧T 0=u∧T 1=.fn 65 [] [.ptr b 0 0]∧T 7=gi l.length∧T 8=gi i) ⟨rfl,rfl,rfl,rfl,rfl,rfl⟩ ?_
  rintro i k T _ hk ⟨rfl,hi,h0,h1,h7,h8⟩
  simp (disch:=omega) only [↓wr,↓reduceIte,wq,ah,Int.reduceNeg,reduceCtorEq,fu,h7,h8]
  refine aq.dec (fun hc=>?_) (fun hc=>?_)
  · obtain ⟨m,hsv,hm⟩:=ho.sl (by simp; omega)
    have hg:l[i]?=some (l[i]'(by omega)):=List.getElem?_eq_getElem (by omega)
    have hmem:l[i]'(by omega)∈l:=List.getElem_mem _
    rw[dA (show i < l.length by omega)] at hi
    generalize l[i]'(by omega)=w at hg hi hmem
    have hgw:(Df l).getD i []=[encI w]:=by simp[List.getD_eq_getElem?_getD,hg]
    simp (disch:=omega) only [↓wr,↓reduceIte,wq,Nat.reduceEqDiff,Nat.reduceLT,Int.reduceNeg,reduceCtorEq,h0,h1,h8,hsv,hm,hgw]
    refine ⟨by omega,by omega,?_⟩
    refine aF.iy ((Hz w (hs w hmem) b x H hb).mono ?_)
    rintro r H2 ⟨rfl,rfl⟩
    simp only[cK] at hi
    simp (disch:=omega) only [↓wr,↓reduceIte,wq,Int.reduceNeg]
    refine aq.dec (fun e=>?_) (fun e=>?_)
    · simp (disch:=omega) only [↓wr,↓reduceIte,wq,ah,Nat.reduceEqDiff,Int.reduceNeg,reduceCtorEq,h8]
      rw[← hi,if_pos (by simpa using e)]
    · simp (disch:=omega) only [↓wr,↓reduceIte,wq,ah,Nat.reduceEqDiff,Int.reduceNeg,reduceCtorEq,h8]
      refine aK hk (by omega) ⟨rfl,?_,h0.trans rfl,h1,h7,rfl⟩
      rw[if_neg (by simpa using e)] at hi
      push_cast; exact hi
  · rw[List.drop_eq_nil_of_le (by omega)] at hi
    simp (disch:=omega) only [↓wr,↓reduceIte,wq,Nat.reduceEqDiff,Int.reduceNeg,reduceCtorEq]
    rw[← hi]; rfl
theorem CO (l:List (List Int)) (hl:l.length≤100000) (hs:∀ w∈l,aM w) (u:V) (b:Nat) (x:Int) (H:View) (hb:H b=.arr 1 [[gi x]]) (ho:aX H u 1 (Df l)) :
    aA Tryz.prog 64 [u,.fn 65 [] [.ptr b 0 0]] H fun r H'=>r=gb (l.any fun w=>decide (x∈w))∧H'=H:=by
  refine aA.of mixed iH ?_
  simp (disch:=omega) only [↓wr,↓reduceIte,wq,ai,Nat.reduceEqDiff,Nat.reduceAdd,Nat.reduceLeDiff,reduceCtorEq,fg]
  refine aF.iy ((GU l hl hs u b x H hb ho).mono ?_)
  rintro r H2 ⟨rfl,rfl⟩
  simp (disch:=omega) only [↓wr,↓reduceIte,wq,ah,reduceCtorEq]
  rw[← nS _ l 0 (by omega)]
set_option maxHeartbeats 8000000 in
theorem xd (g:an) (hg:g.Ok) (hsm:g.Small):aD Tryz.prog 31 [.agg (ar g)] (r9 (iJ g)):=by
  refine aD.of (eA g) ?_
  have hc:=IX g hg hsm
  have hrl:=hg.rules
  unfold aM at hrl
  refine aA.of mixed yQ ?_
  simp only[ar,encS] at hc
  simp (disch:=omega) only [↓wr,↓reduceIte,wq,ai,Nat.reduceEqDiff,Nat.reduceAdd,Nat.reduceLeDiff,vi,ar,encS]
  refine aF.pure hc (by kernel_rfl) ?_
  simp (disch:=omega) only [↓wr,↓reduceIte,wq]
  refine aq.split (fun hr=>?_) (fun hr=>?_)
  rotate_left
  · simp (disch:=omega) only [↓wr,↓reduceIte,wq,Nat.reduceEqDiff,reduceCtorEq]
    intro h' _
    rw[iJ,if_neg (by rw[hr]; simp)]
    exact y5 (x:=([],1)) .nil
  have hri:=(iv hr).1
  have hf:=aZ hri
  have e0:iJ g=bP g g.rules.length:=by rw[iJ,if_pos hr]
  have h40:=hf.rules
  simp (disch:=omega) only [↓wr,↓reduceIte,wq,ak,Nat.reduceEqDiff,Nat.reduceAdd,Nat.reduceLT]
  refine bb.up g.rules.length (fun i T H'=>∃ u,(bP g i).2=0∧aX H' u 1 (Df (bP g i).1)∧T 1=.aS (ar g) 0∧T 4=u∧T 13=gi g.rules.length∧T 14=gi i) ?_ ?_
  · exact ⟨_,rfl,.nil,rfl,rfl,rfl,rfl⟩
  rintro i k T H' hk ⟨u,hz,ho,t1,t4,t13,t14⟩
  simp (disch:=omega) only [↓wr,↓reduceIte,wq,ah,Nat.reduceEqDiff,reduceCtorEq,se,t13,t14,ar,encS]
  refine aq.dec (fun hd=>?_) (fun hd=>?_)
  · obtain ⟨a1,a2,a3,a4⟩:=xp hr i (by omega)
    have hw:∀ t∈(bP g i).1,t.length≤300:=fun t ht=>by obtain ⟨_,_,h,_⟩:=a2 t ht; exact h
    simp (disch:=omega) only [↓wr,↓reduceIte,wq,aa,Nat.reduceEqDiff,Nat.reduceLT,Nat.reduceLeDiff,t4,t14]
    intro b hb
    have ho':=ho.fresh hb (o:=.arr 1 [[gi i]])
    have hbb:(H'.set b (.arr 1 [[gi i]])) b=.arr 1 [[gi i]]:=by simp[View.set]
    refine aF.iy (P:=Tryz.prog) ((CO (bP g i).1 (by omega) (fun w h=>by unfold aM; have:=hw w h; omega) u b i _ (by simp[View.set]) (by rw[set_set]; exact ho')).mono ?_)
    rintro r H2 ⟨rfl,rfl⟩
    rw[set_set]
    simp (disch:=omega) only [↓wr,↓reduceIte,wq]
    refine aq.split (fun hany=>?_) (fun hany=>?_)
    · simp (disch:=omega) only [↓wr,↓reduceIte,wq,ah,Nat.reduceEqDiff,reduceCtorEq,t4,t14]
      have en:bP g (i+1)=bP g i:=by rw[bP,if_neg (by rw[hz]; simp),if_pos hany]
      exact aK hk (by omega) ⟨u,by rw[en]; exact hz,by rw[en]; exact ho',t1,t4,t13,rfl⟩
    · have p2:=yf g hg hsm hr i (by omega)
      simp only[ar,encS,kX] at p2
      generalize H'.set b (.arr 1 [[gi i]])=H5 at ho' hbb
      simp (disch:=omega) only [↓wr,↓reduceIte,wq,Nat.reduceEqDiff,Nat.reduceAdd,Nat.reduceLT,Nat.reduceLeDiff,t1,ar,encS,hbb]
      refine aF.pure p2 (by kernel_rfl) ?_
      simp (disch:=omega) only [↓wr,↓reduceIte,wq,ah,Nat.reduceEqDiff,Nat.reduceAdd,Nat.reduceLT]
      refine aq.ne (fun hne=>?_) (fun hne=>?_)
      · simp (disch:=omega) only [↓wr,↓reduceIte,wq,ah,Nat.reduceEqDiff,reduceCtorEq,t4,t14]
        have en:bP g (i+1)=([],(dT g i).2):=by rw[bP,if_neg (by rw[hz]; simp),if_neg (by rw[hany]; simp),if_neg hne]
        intro h' _
        rw[e0,Hd (i:=i+1) (by rw[en]; exact hne) (by omega),en]
        exact y5 (x:=([],(dT g i).2)) .nil
      · have en:bP g (i+1)=((bP g i).1 ++ [(dT g i).1],0):=by rw[bP,if_neg (by rw[hz]; simp),if_neg (by rw[hany]; simp),if_pos hne]
        simp (disch:=omega) only [↓wr,↓reduceIte,wq,ag,Nat.reduceEqDiff,Nat.reduceLT,t4,encI]
        intro q hq
        simp (disch:=omega) only [↓wr,↓reduceIte,wq,Nat.reduceEqDiff,cp]
        refine rT (ho'.fresh hq) (by simp) (PV _) (by unfold aI; simp; omega) (by unfold aI; simp; omega) ?_
        intro u2 H2 o2 _
        simp (disch:=omega) only [↓wr,↓reduceIte,wq,ah,Nat.reduceEqDiff,reduceCtorEq,t14]
        exact aK hk (by omega) ⟨u2,by rw[en],by rw[en,Df,List.map_append]; exact o2,t1,rfl,t13,rfl⟩
  · simp (disch:=omega) only [↓wr,↓reduceIte,wq,Nat.reduceEqDiff,reduceCtorEq,t4]
    rintro h' rfl
    rw[e0,show g.rules.length=i by omega]
    have:=y5 (x:=bP g i) ho
    rwa [hz] at this
end Gv
