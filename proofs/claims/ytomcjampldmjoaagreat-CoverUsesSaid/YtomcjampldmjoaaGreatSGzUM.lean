/-
  Part 13 of the proof: what the machine does and what the functions answer.
  Conditions: those that each lemma names.
-/
import Derived.Test.YtomcjampldmjoaaGreatSGzUL
set_option linter.unusedSimpArgs false
set_option linter.unusedVariables false
set_option linter.unusedSimpArgs false
set_option maxRecDepth 100000
namespace Gv
open Go Go.Proofs
theorem CK {g:al} (hr:g.rules.length≤40) {k:Nat} (hk:k≤16) (m:Nat):vT (aX (aD g k) m):=by
  refine ⟨gA g k m,?_⟩
  by_cases h:bj (aD g k) m
  · obtain ⟨a,b,_⟩:=eC g k m h
    obtain ⟨j,hj,hn',hh,hc⟩:=sC h
    obtain ⟨i,r,hr',_,_,hp,_⟩:=iP hc
    have hi:i < g.rules.length:=(List.getElem?_eq_some_iff.1 hr').1
    have:(aX (aD g k) m).bb=i:=by rw[hp]; simp[eN]
    omega
  · rw[jU h]; unfold gx; decide
def qh (H:View) (u:V) (P:List aY):Prop:=u=fD P∨aO H u 4 (P.map bB)
theorem qh.yY {H:View} {u:V} {P:List aY} (h:qh H u P):dt H u (fD P):=by
  rcases h with rfl | h
  · exact dt.tree (nZ P)
  · exact dt.own h fun e he v hv=>by
      obtain ⟨p,_,rfl⟩:=List.mem_map.1 he
      exact xh p v hv
theorem qh.keep {H H':View} {u:V} {P:List aY} (h:qh H u P) (hk:∀ id,owner u=some id→H' id=H id):qh H' u P:=h.imp id fun h=>h.keep hk
theorem qh.live {H:View} {u:V} {P:List aY} (h:qh H u P) {id:Nat} (hid:owner u=some id):H id≠.dead:=by
  rcases h with rfl | h
  · simp[owner] at hid
  · rw[(h.live hid).1]; simp
theorem Hz {N:List aY} {i m:Nat} {p:aY} (hp:0≤p.bb) (h:bj N m):bj (N.set i p) m:=by
  have hm:=Bq h
  unfold bj at h ⊢
  rw[u6 hm]; split
  · exact hp
  · exact h
def pt:SC :=
  .seq (ak [aS 24 .lss 23 22]) <|
  .seq (.cond (.tmp 24) (.skip) (.exit 2)) <|
  .seq (.block 3 (.seq (ak [aa 25 23,bo 26 3 21 23,aZ 27 3 26,((some 7),.op (.alloc [(.val (.int .i64 0)),(.emp 1),(.val (.int .i64 0))])),aa 6 25,(none,.op (.store 3 (.tmp 7) (.tmp 27)))]) <|
  .seq (.seq (ak [aa 28 5,ao 29 0 7,aq 30 29,bo 31 4 28 30,ao 32 0 31,aq 33 32,aA 34 .geq 33 0]) <|
  .cond (.tmp 34) (.exit 3) (.skip)) <|
  .seq (ak [ao 36 1 7,aq 37 36,aa 38 3,aK 39 232 [37,38],aa 35 39,b6 40 0 35,b6 41 1 35,((some 8),.op (.alloc [(.val (.int .i64 0)),(.val (.int .i64 0)),(.val (.int .i64 0)),(.val (.int .i64 0))])),(none,.op (.store 4 (.tmp 8) (.tmp 40))),aa 9 41]) <|
  .seq (ak [aa 42 9]) <|
  .cond (.tmp 42) (.seq (ak [aa 43 5,ao 44 0 7,aq 45 44,aa 46 6,ao 47 1 8,aq 48 47,aA 49 .add 48 1,ao 50 2 8,aq 51 50,aA 52 .add 51 1,((some 53),.op (.mm false (.val (.val (.int .i64 1048576))) (.tmp 52))),ao 54 3 8,aq 55 54,((some 56),.op (.build [(.val (.int .i64 0)),(.val (.int .i64 0)),(.val (.int .i64 0)),(.val (.int .i64 0))] [(0,1,(.tmp 46)),(1,1,(.tmp 49)),(2,1,(.tmp 53)),(3,1,(.tmp 55))])),bo 57 4 43 45,(none,.op (.store 4 (.tmp 57) (.tmp 56)))]) <|
  ak [aW 4 false]) (.skip))) <|
  ak [aA 58 .add 23 1,aa 23 58]
def lj:SC :=
  .seq (.seq (ak [aa 16 4,cn 17 16]) <|
  .cond (.tmp 17) (.skip) (.exit 0)) <|
  .block 1 (.seq (ak [aW 4 true]) <|
  .seq (ak [aa 18 3,aK 19 249 [18],aa 5 19]) <|
  .seq (.seq (ak [ao 20 2 1,aq 21 20,aQ 22 21,aI 23 0]) <|
  .block 2 (.loop pt)) <|
  ak [aa 59 5,aa 3 59])
def s7:SF:=⟨.seq (ak [c8 1 0,((some 2),.op (.bd (.val (.emp 1))))]) <|
  .seq (ak [((some 10),.op (.build [(.val (.int .i64 0)),(.val (.int .i64 0)),(.val (.int .i64 0)),(.val (.int .i64 0))] [(0,1,(.val (.val (.int .i64 (-1)))))])),((some 11),.op (.bE 1 4 [(.val (.int .i64 0)),(.val (.int .i64 0)),(.val (.int .i64 0)),(.val (.int .i64 0))] [(0,(.tmp 10))])),ao 12 1 1,aq 13 12,aQ 14 13,aK 15 248 [11,14],aa 3 15]) <|
  .seq (.seq (ak [aW 4 false]) <|
  .block 0 (.loop lj)) <|
  .seq (ak [aa 60 3,aa 2 60]) <|
  .ret,
  [.tmp 2],61⟩
theorem wD:aV Tryz.prog 231 [1]=some s7:=by kernel_rfl
def Mr (g:al) (H0:View) (P:List aY) (d i:Nat) (T:Env) (H:View):Prop :=
  ∃ (N:List aY) (u:V),N.length=g.ax.length∧jO P i N (g.rules.drop i)=uu g.rules P∧(∀ m,bj P m→bj N m)∧qh H u P∧owner u≠some d∧H d=.arr 4 (N.map bB) ∧
    (∀ id,H0 id≠.dead→H id=H0 id∧id≠d)∧((T 4=gb true∧N=P)∨(T 4=gb false∧∃ m,¬ bj P m∧bj N m)) ∧
    T 1=.aR (av g) 0∧T 3=u∧T 5=.sl d 0 g.ax.length 4∧T 21=.aN (g.rules.map bf)∧T 22=gi g.rules.length∧T 23=gi i
set_option maxHeartbeats 4000000 in
theorem Jv (g:al) (hg:g.Ok) (hf:g.iJ) (H:View):aB Tryz.prog 231 [.agg (av g)] H fun r H'=>aO H' r 4 ((ar g).map bB)∧c6 H H' r:=by
  refine aB.of mixed wD ?_
  have z1:=hf.xS
  have z2:=hf.ax
  have z3:=hf.rules
  simp (disch:=omega) only [↓wr,↓reduceIte,wq,ah,ag,aj,ab,ae,af,ai,isNil,Nat.reduceEqDiff,Nat.reduceAdd,Nat.reduceLT,Nat.reduceLeDiff,Int.reduceNeg,Int.reduceToNat,reduceCtorEq,s7,av,encS]
  intro n1 hn1
  try simp (disch:=omega) only [↓wr,↓reduceIte,wq,ah,ag,aj,ab,ae,af,ai,isNil,Nat.reduceEqDiff,Nat.reduceAdd,Nat.reduceLT,Nat.reduceLeDiff,Int.reduceNeg,Int.reduceToNat,reduceCtorEq]
  refine aF.xg (IM z1 z2) (by kernel_rfl) ⟨dt.sl (off:=0) (len:=1) (esz:=4) (z:=4) (es:=[bB gx]) (by simp[View.set,bB,gx]) (by simp) (fun e he v hv=>by simp at he; subst he; exact xh _ v hv),dt.tree (.val _),trivial⟩ ?_
  simp (disch:=omega) only [↓wr,↓reduceIte,wq,ah,ag,aj,ab,ae,af,ai,isNil,Nat.reduceEqDiff,Nat.reduceAdd,Nat.reduceLT,Nat.reduceLeDiff,Int.reduceNeg,Int.reduceToNat,reduceCtorEq]
  refine bw.intro (fun k T H'=>∃ (j:Nat) (u:V),j≤g.ax.length∧j≤cL (oJ (aD g j))∧qh H' u (aD g j)∧c6 H H' u∧T 1=.aR (av g) 0∧T 3=u ∧
      ((T 4=gb false∧j+k=g.ax.length+1)∨(T 4=gb true∧aD g j=ar g∧aO H' u 4 ((ar g).map bB)))) (g.ax.length+1) ?_ ?_
  · refine ⟨0,_,by omega,by omega,.inl rfl,fun id hid=>⟨?_,by simp[owner]⟩,rfl,rfl,.inl ⟨rfl,by omega⟩⟩
    have e:id≠n1:=by rintro rfl; exact hid hn1
    simp[View.set,e]
  clear hn1
  rintro k T H1 ⟨j,u,hj,hjt,hu,hfr,t1,t3,h4⟩
  rcases h4 with ⟨t4,hjk⟩ | ⟨t4,hst,how⟩
  · have hlen:=ey g j
    simp (disch:=omega) only [↓wr,↓reduceIte,wq,ah,ag,aj,ab,ae,af,ai,isNil,Nat.reduceEqDiff,Nat.reduceAdd,Nat.reduceLT,Nat.reduceLeDiff,Int.reduceNeg,Int.reduceToNat,reduceCtorEq,lj,t1,t3,t4,av,encS]
    refine aF.gH ((Fk (aD g j) (by omega) (by omega) u H1 hu).mono ?_)
    rintro v H2 ⟨hv,hfv⟩
    obtain ⟨d,rfl,hd⟩:=hv.sl (by simp; omega)
    simp only[List.length_map,hlen]
    simp (disch:=omega) only [↓wr,↓reduceIte,wq,ah,ag,aj,ab,ae,af,ai,isNil,Nat.reduceEqDiff,Nat.reduceAdd,Nat.reduceLT,Nat.reduceLeDiff,Int.reduceNeg,Int.reduceToNat,reduceCtorEq,t1,t3,t4,av,encS]
    refine bw.up g.rules.length (Mr g H (aD g j) d) ?_ ?_
    · refine ⟨aD g j,u,hlen,rfl,fun _ h=>h,hu.keep fun id hid=>(hfv id (hu.live hid)).1,fun e=>?_,hd,fun id hid=>?_,.inl ⟨rfl,rfl⟩,t1,t3,rfl,rfl,rfl,rfl⟩
      · exact (hfv d (hu.live e)).2 rfl
      · have h1:=hfr id hid
        have h2:=hfv id (by rw[h1.1]; exact hid)
        exact ⟨by rw[h2.1,h1.1],fun e=>h2.2 (by rw[e]; rfl)⟩
    clear t1 t3 t4 hu hfr hfv hd hv
    rintro i q T H3 hq ⟨N,u,hN,hfold,hle,hu,hud,hd,hfr,h4,t1,t3,t5,t21,t22,t23⟩
    simp (disch:=omega) only [↓wr,↓reduceIte,wq,ah,ag,aj,ab,ae,af,ai,isNil,Nat.reduceEqDiff,Nat.reduceAdd,Nat.reduceLT,Nat.reduceLeDiff,Int.reduceNeg,Int.reduceToNat,reduceCtorEq,pt,t1,t3,t5,t21,t22,t23]
    refine an.dec (fun hc=>?_) (fun hc=>?_)
    · have hg2:g.rules[i]?=some (g.rules[i]'(by omega)):=List.getElem?_eq_getElem (by omega)
      have hmem:g.rules[i]'(by omega)∈g.rules:=List.getElem_mem _
      rw[dC (show i < g.rules.length by omega)] at hfold
      generalize g.rules[i]'(by omega)=r at hg2 hmem hfold
      have hl:=hf.left r hmem
      have hrw:=hg.bb r hmem
      have hlt:r.left.toNat < N.length:=by omega
      have hgN:(N.map bB).getD r.left.toNat []=bB (aX N r.left.toNat):=by simp[aX,List.getD_eq_getElem?_getD,hlt]
      have hP:=fun m=>CK (g:=g) z3 (show j≤16 by omega) m
      simp (disch:=omega) only [↓wr,↓reduceIte,wq,ah,ag,aj,ab,ae,af,ai,isNil,Nat.reduceEqDiff,Nat.reduceAdd,Nat.reduceLT,Nat.reduceLeDiff,Int.reduceNeg,Int.reduceToNat,reduceCtorEq,t1,t3,t5,t21,t22,t23,List.getElem?_map,hg2,bf,encI]
      intro n hn
      have hnd:d≠n:=by rintro rfl; rw[hd] at hn; simp at hn
      have hu':∀ o,qh (H3.set n o) u (aD g j):=fun o=>hu.keep fun id hid=>by
        have:id≠n:=by rintro rfl; exact hu.live hid hn
        simp[View.set,this]
      have hfr':∀ o,∀ id,H id≠.dead→(H3.set n o) id=H id∧id≠d:=fun o id hid=>by
        have h1:=hfr id hid
        have:id≠n:=by rintro rfl; rw[h1.1] at hn; exact hid hn
        exact ⟨by simp[View.set,this,h1.1],h1.2⟩
      try simp (disch:=omega) only [↓wr,↓reduceIte,wq,ah,ag,aj,ab,ae,af,ai,isNil,Nat.reduceEqDiff,Nat.reduceAdd,Nat.reduceLT,Nat.reduceLeDiff,Int.reduceNeg,Int.reduceToNat,reduceCtorEq,t1,t3,t5,t21,t22,t23,hd,hnd,hnd.symm]
      refine ⟨by omega,by omega,?_⟩
      try simp (disch:=omega) only [↓wr,↓reduceIte,wq,ah,ag,aj,ab,ae,af,ai,isNil,Nat.reduceEqDiff,Nat.reduceAdd,Nat.reduceLT,Nat.reduceLeDiff,Int.reduceNeg,Int.reduceToNat,reduceCtorEq,t1,t3,t5,t21,t22,t23,hd,hnd,hnd.symm,hgN,bB]
      have hsum:=pA (aD g j) r.right bm
      refine an.dec (fun hk=>?_) (fun hk=>?_)
      · simp (disch:=omega) only [↓wr,↓reduceIte,wq,ah,ag,aj,ab,ae,af,ai,isNil,Nat.reduceEqDiff,Nat.reduceAdd,Nat.reduceLT,Nat.reduceLeDiff,Int.reduceNeg,Int.reduceToNat,reduceCtorEq,t1,t3,t5,t21,t22,t23,hd,hnd,hnd.symm]
        have hst:mD (aD g j) i N r=N:=by unfold mD; rw[if_pos hk]
        rw[jO,hst] at hfold
        rw[set_set]
        exact aT hq (by omega) ⟨N,u,hN,hfold,hle,hu' _,hud,by simp[View.set,hnd,hd],hfr' _,h4,t1,t3,t5,t21,t22,rfl⟩
      · simp (disch:=omega) only [↓wr,↓reduceIte,wq,ah,ag,aj,ab,ae,af,ai,isNil,Nat.reduceEqDiff,Nat.reduceAdd,Nat.reduceLT,Nat.reduceLeDiff,Int.reduceNeg,Int.reduceToNat,reduceCtorEq,t1,t3,t5,t21,t22,t23,hd,hnd,hnd.symm]
        refine aF.xg (Hr (aD g j) hP r.right hrw.2.2.1 fun x hx=>⟨hrw.2.2.2 x hx,fun hn=>by rw[hlen]; exact hf.neg hmem hx hn⟩) (by kernel_rfl) ⟨dt.tree (du r.right),by rw[set_set]; exact (hu' _).yY,trivial⟩ ?_
        have hs1:=oO (fun m=>gA g j m) r.right bm lV
        have hs2:(0:Int)≤(bA (aD g j) r.right bm).1.bq:=hsum
        have hs3:ju (aD g j) r.right→(bA (aD g j) r.right bm).1.bq≤16:=fun ha=>(fL (aD g j) 16 r.right bm ha).2 ⟨by simp[bm],fun x hx hn=>by have:=(eC g j _ (ha x hx hn)).2.1; omega⟩
        have hs4:=j3 (aD g j) r.right bm
        generalize hsp:bA (aD g j) r.right bm=sp at hs1 hs2 hs3 hs4
        unfold dq at hs1
        simp (disch:=omega) only [↓wr,↓reduceIte,wq,ah,ag,aj,ab,ae,af,ai,isNil,Nat.reduceEqDiff,Nat.reduceAdd,Nat.reduceLT,Nat.reduceLeDiff,Int.reduceNeg,Int.reduceToNat,reduceCtorEq,t1,t3,t5,t21,t22,t23,hd,hnd,hnd.symm,bB]
        intro q2 hq2
        have hqn:=(dk hq2 dr).1
        have hq3:=(dk (dk hq2 dr).2 dr).2
        have hqd:d≠q2:=by rintro rfl; rw[hd] at hq3; simp at hq3
        try simp (disch:=omega) only [↓wr,↓reduceIte,wq,ah,ag,aj,ab,ae,af,ai,isNil,Nat.reduceEqDiff,Nat.reduceAdd,Nat.reduceLT,Nat.reduceLeDiff,Int.reduceNeg,Int.reduceToNat,reduceCtorEq,t1,t3,t5,t21,t22,t23,hd,hnd,hnd.symm,hqn,hqn.symm,hqd,hqd.symm,bB]
        refine an.split (fun hb=>?_) (fun hb=>?_)
        · have hs5:=hs3 (hs4.1 hb)
          simp (disch:=omega) only [↓wr,↓reduceIte,wq,ah,ag,aj,ab,ae,af,ai,isNil,Nat.reduceEqDiff,Nat.reduceAdd,Nat.reduceLT,Nat.reduceLeDiff,Int.reduceNeg,Int.reduceToNat,reduceCtorEq,t1,t3,t5,t21,t22,t23,hd,hnd,hnd.symm,hqn,hqn.symm,hqd,hqd.symm,bB]
          refine ⟨by omega,by omega,?_⟩
          have hst:mD (aD g j) i N r=N.set r.left.toNat (eN (aD g j) i r):=by unfold mD; rw[if_neg hk,hsp,if_pos hb]
          rw[jO,hst] at hfold
          have hpl:(eN (aD g j) i r)=⟨i,sp.1.bq+1,min 1048576 (sp.1.rules+1),sp.1.ay⟩:=by rw[eN,hsp]
          have hpr:0≤(eN (aD g j) i r).bb:=by rw[hpl]; simp only; omega
          have hnew:¬ bj N r.left.toNat:=hk
          refine aT hq (by omega) ⟨_,u,by simp[hN],hfold,fun m hm=>Hz hpr (hle m hm),?_,hud,?_,?_,.inr ⟨rfl,r.left.toNat,fun hkn=>hnew (hle _ hkn),?_⟩,t1,t3,t5,t21,t22,rfl⟩
          · refine hu.keep fun id hid=>?_
            have e1:id≠n:=by rintro rfl; exact hu.live hid hn
            have e2:id≠q2:=by rintro rfl; exact hu.live hid hq3
            have e3:id≠d:=by rintro rfl; exact hud hid
            simp[View.set,e1,e2,e3]
          · simp only[View.set,if_true]
            rw[List.map_set,hpl,hgN]; simp only[bB,List.drop_succ_cons,List.drop_nil,List.drop_zero,CI]
          · intro id hid
            have h1:=hfr id hid
            have e1:id≠n:=by rintro rfl; rw[h1.1] at hn; exact hid hn
            have e2:id≠q2:=by rintro rfl; rw[h1.1] at hq3; exact hid hq3
            exact ⟨by simp[View.set,e1,e2,h1.2,h1.1],h1.2⟩
          · unfold bj; rw[u6 hlt,if_pos rfl]; exact hpr
        · simp (disch:=omega) only [↓wr,↓reduceIte,wq,ah,ag,aj,ab,ae,af,ai,isNil,Nat.reduceEqDiff,Nat.reduceAdd,Nat.reduceLT,Nat.reduceLeDiff,Int.reduceNeg,Int.reduceToNat,reduceCtorEq,t1,t3,t5,t21,t22,t23,hd,hnd,hnd.symm,hqn,hqn.symm,hqd,hqd.symm,bB]
          have hst:mD (aD g j) i N r=N:=by unfold mD; rw[if_neg hk,hsp,if_neg (by rw[hb]; simp)]
          rw[jO,hst] at hfold
          refine aT hq (by omega) ⟨N,u,hN,hfold,hle,?_,hud,by simp[View.set,hnd,hqd,hd],?_,h4,t1,t3,t5,t21,t22,rfl⟩
          · refine hu.keep fun id hid=>?_
            have e1:id≠n:=by rintro rfl; exact hu.live hid hn
            have e2:id≠q2:=by rintro rfl; exact hu.live hid hq3
            simp[View.set,e1,e2]
          · intro id hid
            have h1:=hfr id hid
            have e1:id≠n:=by rintro rfl; rw[h1.1] at hn; exact hid hn
            have e2:id≠q2:=by rintro rfl; rw[h1.1] at hq3; exact hid hq3
            exact ⟨by simp[View.set,e1,e2,h1.1],h1.2⟩
    · simp (disch:=omega) only [↓wr,↓reduceIte,wq,ah,ag,aj,ab,ae,af,ai,isNil,Nat.reduceEqDiff,Nat.reduceAdd,Nat.reduceLT,Nat.reduceLeDiff,Int.reduceNeg,Int.reduceToNat,reduceCtorEq,t1,t3,t5,t21,t22,t23]
      rw[List.drop_eq_nil_of_le (by omega),jO,← ln] at hfold
      have how:aO H3 (.sl d 0 g.ax.length 4) 4 (N.map bB):=.inr ⟨d,by simp[hN],hd⟩
      have hfd:c6 H H3 (.sl d 0 g.ax.length 4):=fun id hid=>⟨(hfr id hid).1,fun e=>(hfr id hid).2 (by simp[owner] at e; exact e.symm)⟩
      rw[hfold] at how
      rcases h4 with ⟨h4,he⟩ | ⟨h4,m,hm1,hm2⟩
      · have hstay:aD g (j+1)=aD g j:=by rw[← hfold,he]
        have hpl:=Jy hj hstay
        rw[hstay] at how
        exact ⟨0,by omega,j,_,hj,hjt,.inr how,hfd,rfl,rfl,.inr ⟨h4,hpl,by rw[← hpl]; exact how⟩⟩
      · rw[hfold] at hm2
        rcases FH hjt with e | e
        · rw[e] at hm2; exact absurd hm2 hm1
        · have:=Dl g (j+1)
          exact ⟨k - 1,by omega,j+1,_,by omega,e,.inr how,hfd,rfl,rfl,.inl ⟨h4,by omega⟩⟩
  · simp (disch:=omega) only [↓wr,↓reduceIte,wq,ah,ag,aj,ab,ae,af,ai,isNil,Nat.reduceEqDiff,Nat.reduceAdd,Nat.reduceLT,Nat.reduceLeDiff,Int.reduceNeg,Int.reduceToNat,reduceCtorEq,lj,t1,t3,t4]
    exact ⟨how,hfr⟩
theorem HA {h:aC} {u:V} {P:List aY} (ho:aO h.view u 4 (P.map bB)):cX h u (fD P):=by
  refine cX.own ho rfl (fun i _=>rfl) (fun i j hi hj=>?_)
  simp only[List.length_map] at hi
  have e:(P.map bB).getD i []=bB P[i]:=by simp[List.getD_eq_getElem?_getD,hi]
  rw[e] at hj ⊢
  match j,hj with
  | 0,_=>exact .val _
  | 1,_=>exact .val _
  | 2,_=>exact .val _
  | 3,_=>exact .val _
  | n+4,h=>exact absurd h (by simp[bB])
theorem Kc (g:al) (hg:g.Ok) (hf:g.iJ):cr Tryz.prog 231 [.agg (av g)] (fD (ar g)) :=
  cr.of (gn g) ((Jv g hg hf _).mono fun r H' h h' hh=>HA (by rw[hh]; exact h.1))
end Gv
set_option linter.unusedSimpArgs false
set_option maxRecDepth 100000
namespace Gv
open Go Go.Proofs
end Gv
set_option linter.unusedSimpArgs false
set_option maxRecDepth 100000
namespace Gv
open Go Go.Proofs
def KB (s:Int × Int):Prop:=(0≤s.1∧s.1≤1000)∧(0≤s.2∧s.2≤1000)
def vu (g:al):List (Int × Int):=(ar g).map tK
theorem vd:tK gx=(0,0):=by decide
theorem Jg (g:al) (m:Nat):oT (vu g) m=tK (aX (ar g) m):=by
  simp only[vu,oT,aX,List.getD_eq_getElem?_getD,List.getElem?_map]
  cases (ar g)[m]? <;> rfl
theorem LJ (g:al) (m:Nat):KB (tK (aX (ar g) m)):=by
  have h:dq (aX (ar g) m):=gA g _ m
  unfold dq at h
  unfold KB tK; simp only; omega
def gO (g:al) (j i:Nat) (S:List (Int × Int)):Prop:=S.length=g.ax.length∧∀ m,oT S m=if (aX (ar g) m).bq≤j∨((aX (ar g) m).bq=j+1∧m < i) then tK (aX (ar g) m) else (0,0)
theorem gO.ok {g:al} {j i:Nat} {S:List (Int × Int)} (h:gO g j i S) (m:Nat):KB (oT S m):=by
  rw[h.2 m]; split
  · exact LJ g m
  · unfold KB; simp
theorem KZ {S:List (Int × Int)} {i m:Nat} {v:Int × Int} (hm:m < S.length):oT (S.set i v) m=if i=m then v else oT S m:=by
  simp only[oT,List.getD_eq_getElem?_getD,List.getElem?_set]
  split
  · rename_i e; subst e; simp[hm]
  · rfl
theorem gO.next {g:al} {j i:Nat} {S:List (Int × Int)} (h:gO g j i S) (hi:(aX (ar g) i).bq≠(j:Int)+1):gO g j (i+1) S:=⟨h.1,fun m=>by
  rw[h.2 m]
  by_cases e:m=i
  · subst e
    by_cases h1:(aX (ar g) m).bq≤j
    · rw[if_pos (.inl h1),if_pos (.inl h1)]
    · rw[if_neg (by omega),if_neg (by omega)]
  · congr 1
    simp only[eq_iff_iff]
    constructor <;> rintro (h1 | h1) <;> first | exact .inl h1 | exact .inr ⟨h1.1,by omega⟩⟩
theorem gO.put {g:al} {j i:Nat} {S:List (Int × Int)} (h:gO g j i S) (hi:(aX (ar g) i).bq=(j:Int)+1) (hn:i < g.ax.length):gO g j (i+1) (S.set i (tK (aX (ar g) i))):=⟨by simp[h.1],fun m=>by
  by_cases hm:m < S.length
  · rw[KZ hm]
    by_cases e:i=m
    · subst e; rw[if_pos rfl,if_pos (.inr ⟨hi,by omega⟩)]
    · rw[if_neg e,h.2 m]
      congr 1
      simp only[eq_iff_iff]
      constructor <;> rintro (h1 | h1) <;> first | exact .inl h1 | exact .inr ⟨h1.1,by omega⟩
  · have:aX (ar g) m=gx:=rq (by rw[ki,← h.1]; omega)
    have e:oT (S.set i (tK (aX (ar g) i))) m=(0,0):=by
      simp only[oT,List.getD_eq_getElem?_getD]; rw[List.getElem?_eq_none (by simp; omega)]; rfl
    rw[e,this]
    split <;> simp[vd]⟩
theorem gO.MN {g:al} {j:Nat} {S:List (Int × Int)} (h:gO g j g.ax.length S):gO g (j+1) 0 S:=⟨h.1,fun m=>by
  rw[h.2 m]
  by_cases hm:m < g.ax.length
  · congr 1
    simp only[eq_iff_iff]
    push_cast
    constructor
    · rintro (h1 | h1) <;> left <;> omega
    · rintro (h1 | h1)
      · omega
      · omega
  · have:aX (ar g) m=gx:=rq (by rw[ki]; omega)
    rw[this]; split <;> split <;> simp[vd]⟩
theorem gO.start (g:al):gO g 0 0 (List.replicate g.ax.length (0,0)):=⟨by simp,fun m=>by
  have e:oT (List.replicate g.ax.length (0,0)) m=(0,0):=by
    simp only[oT,List.getD_eq_getElem?_getD,List.getElem?_replicate]
    split <;> rfl
  rw[e]
  split
  · rename_i h
    by_cases hk:bj (ar g) m
    · have:=(gZ hk).1; omega
    · rw[C0 hk]; simp[vd]
  · rfl⟩
theorem gO.done {g:al} {S:List (Int × Int)} (h:gO g g.ax.length 0 S):S=vu g:=by
  apply List.ext_getElem (by simp[h.1,vu,ki])
  intro m h1 h2
  have e:S[m]=oT S m:=by simp[oT,List.getD_eq_getElem?_getD,h1]
  have e2:(vu g)[m]=oT (vu g) m:=by simp[oT,List.getD_eq_getElem?_getD,h2]
  rw[e,e2,h.2 m,Jg]
  by_cases hk:bj (ar g) m
  · rw[if_pos (.inl (gZ hk).2)]
  · rw[C0 hk]; split <;> simp[vd]
end Gv
set_option linter.unusedSimpArgs false
set_option maxRecDepth 100000
namespace Gv
open Go Go.Proofs
theorem Gy (g:al) (f:Nat) (l:List Int) (i:Nat):(cK g (ar g) f (l.take i)).length≤(cK g (ar g) f l).length:=by
  have:=gC g (ar g) f (l.take i) (l.drop i)
  rw[List.take_append_drop] at this
  rw[this]; simp
theorem ID (g:al) (f:Nat) (l:List Int) (i:Nat):(c7 g (ar g) f (l.take i)).length≤(c7 g (ar g) f l).length:=by
  have:=gE g (ar g) f (l.take i) (l.drop i)
  rw[List.take_append_drop] at this
  rw[this]; simp
end Gv
set_option linter.unusedSimpArgs false
set_option maxRecDepth 100000
namespace Gv
open Go Go.Proofs
def mh (x:List Int × Int):V:=.bg [encI x.1,gi x.2]
theorem fi {h:aC} {u:V} {x:List Int × Int} (hu:cX h u (encI x.1)):cX h (.bg [u,gi x.2]) (mh x):=w5 hu (.val _)
theorem Cg {g:al} {l:List Int} (h:ju (ar g) l):yi (ar g) g.ax.length l:=fun x hx hn=>⟨h x hx hn,(gZ (h x hx hn)).2⟩
theorem Kb {g:al} {n:Int} (h0:0≤n) (hk:bj (ar g) n.toNat):((cK g (ar g) g.ax.length [-1 - n]).length:Int)=(cK g (ar g) g.ax.length [-1 - n]).length∧ju (ar g) [-1 - n]:=by
  refine ⟨rfl,fun x hx hn=>?_⟩
  simp at hx; subst hx
  rw[show bK (-1 - n)=n.toNat by unfold bK; omega]; exact hk
theorem zx {g:al} {l:List Int} (h:ju (ar g) l) (hs:(bA (ar g) l bm).1.rules≤300):((cK g (ar g) g.ax.length l).length:Int)=(bA (ar g) l bm).1.rules:=by
  have:=(uc g g.ax.length l bm (Cg h) lV).1
  simp only[bm] at this hs ⊢
  omega
theorem yK {g:al} {n:Int} (h0:0≤n) (hk:bj (ar g) n.toNat):(bA (ar g) [-1 - n] bm).1.rules=(aX (ar g) n.toNat).rules∧(bA (ar g) [-1 - n] bm).1.ay=(aX (ar g) n.toNat).ay:=by
  have hp:dq (aX (ar g) n.toNat):=gA g _ _
  have e:bK (-1 - n)=n.toNat:=by unfold bK; omega
  unfold bj at hk
  rw[wc (by omega) (by rw[e]; omega),e]
  unfold dq at hp
  simp only[bA,bm]; omega
def uB (P:List aY) (l:List Int):Bool:=l.any fun x=>decide (x < 0) && decide ((aX P (bK x)).bb < 0)
theorem FF (P:List aY) (l:List Int) (s:aY):(bA P l s).2 = !uB P l:=by
  have h:=j3 P l s
  cases hb:uB P l with
  | true =>
    simp only[uB,List.any_eq_true,Bool.and_eq_true,decide_eq_true_eq] at hb
    obtain ⟨x,hx,hn,hk⟩:=hb
    cases hs:(bA P l s).2 with
    | true=>have:=h.1 hs x hx hn; unfold bj at this; omega
    | false=>rfl
  | false =>
    rw[Bool.not_false,h]
    intro x hx hn
    simp only[uB,List.any_eq_false,Bool.and_eq_true,decide_eq_true_eq] at hb
    have:=hb x hx
    unfold bj; omega
end Gv
set_option linter.unusedSimpArgs false
namespace Gv
open Go Go.Proofs
theorem In.app {p:List Int} {T:Nat→Nat→Nat→Prop} {a:List Int} {i k:Nat} (h:In p T a i k):∀ {b:List Int} {j:Nat},In p T b k j→In p T (a ++ b) i j:=by
  induction h with
  | nil=>exact fun h=>h
  | term s l i _ h0 hf _ ih=>exact fun hb=>.term s _ i _ h0 hf (ih hb)
  | bU s l i k _ h0 h1 _ ih=>exact fun hb=>.bU s _ i k _ h0 h1 (ih hb)
theorem In.split {p:List Int} {T:Nat→Nat→Nat→Prop} : ∀ {a b:List Int} {i j:Nat},In p T (a ++ b) i j→∃ k,In p T a i k∧In p T b k j
  | [],b,i,j,h=>⟨i,.nil i,h⟩
  | s :: a,b,i,j,h=>by
    cases h with
    | term _ _ _ _ h0 hf h =>
      obtain ⟨k,h1,h2⟩:=In.split h
      exact ⟨k,.term s a i k h0 hf h1,h2⟩
    | bU _ _ _ m _ h0 h1 h =>
      obtain ⟨k,h2,h3⟩:=In.split h
      exact ⟨k,.bU s a i m k h0 h1 h2,h3⟩
theorem In.le {p:List Int} {T:Nat→Nat→Nat→Prop} (hT:∀ n i j,T n i j→i≤j) {l:List Int} {i j:Nat} (h:In p T l i j):i≤j:=by
  induction h with
  | nil=>exact Nat.le_refl _
  | term _ _ _ _ _ _ _ ih=>omega
  | bU _ _ _ _ _ _ h1 _ ih=>have:=hT _ _ _ h1; omega
def stepT (p:List Int) (T:Nat→Nat→Nat→Prop) (s:Int) (i j:Nat):Prop:=if 0≤s then mJ p i s∧j=i+1 else T (-1 - s).toNat i j
theorem In.one {p:List Int} {T:Nat→Nat→Nat→Prop} {s:Int} {i j:Nat} : In p T [s] i j↔stepT p T s i j:=by
  unfold stepT
  constructor
  · intro h
    cases h with
    | term _ _ _ _ h0 hf h=>cases h; rw[if_pos h0]; exact ⟨hf,rfl⟩
    | bU _ _ _ _ _ h0 h1 h=>cases h; rw[if_neg (by omega)]; exact h1
  · intro h
    by_cases h0:0≤s
    · rw[if_pos h0] at h
      obtain ⟨hf,rfl⟩:=h
      exact .term s [] i _ h0 hf (.nil _)
    · rw[if_neg h0] at h
      exact .bU s [] i j j (by omega) h (.nil _)
abbrev Tb:=List (List (List Bool))
def vZ (T:Tb) (N M:Nat):Prop:=T.length=N∧∀ r∈T,r.length=M∧∀ c∈r,c.length=M
theorem vZ.row {T:Tb} {N M n:Nat} (h:vZ T N M) (hn:n < N):∃ r,T[n]?=some r∧r.length=M∧T.getD n []=r:=by
  have:n < T.length:=by rw[h.1]; exact hn
  exact ⟨T[n],List.getElem?_eq_getElem this,(h.2 _ (List.getElem_mem _)).1,by simp[List.getD_eq_getElem?_getD,this]⟩
theorem vZ.cell {T:Tb} {N M n i:Nat} (h:vZ T N M) (hn:n < N) (hi:i < M):∃ r c,T[n]?=some r∧r[i]?=some c∧c.length=M∧(T.getD n []).getD i []=c:=by
  obtain ⟨r,hr,hl,hg⟩:=h.row hn
  have h1:i < r.length:=by omega
  refine ⟨r,r[i],hr,List.getElem?_eq_getElem h1,(h.2 r (List.mem_of_getElem? hr)).2 _ (List.getElem_mem _),?_⟩
  rw[hg]; simp[List.getD_eq_getElem?_getD,h1]
def Ge (T:Tb) (n i j:Nat):Tb:=T.set n ((T.getD n []).set i (((T.getD n []).getD i []).set j true))
def LL (N M:Nat):Tb:=List.replicate N (List.replicate M (List.replicate M false))
end Gv
set_option linter.unusedSimpArgs false
set_option maxRecDepth 100000
namespace Gv
open Go Go.Proofs
def Ki (T:Tb):V:=.aN (T.map fun r=>[.aN (r.map fun c=>[bR c])])
end Gv
set_option linter.unusedSimpArgs false
set_option maxRecDepth 100000
namespace Gv
open Go Go.Proofs
end Gv
set_option linter.unusedSimpArgs false
set_option maxRecDepth 100000
namespace Gv
open Go Go.Proofs
structure oH (H:View) (I N M:Nat) (R:Nat→Nat) (C:Nat→Nat→Nat) (T:Tb):Prop where
  top:H I=.arr 1 ((List.range N).map fun n=>[.sl (R n) 0 M 1])
  row:∀ n,n < N→H (R n)=.arr 1 ((List.range M).map fun i=>[.sl (C n i) 0 M 1])
  cell:∀ n i,n < N→i < M→H (C n i)=.arr 1 (db ((T.getD n []).getD i []))
  inj:∀ n i n' i',n < N→i < M→n' < N→i' < M→C n i=C n' i'→n=n'∧i=i'
theorem wM {c:List Bool} {k:Nat} {F:Nat→List V} (hc:0 < c.length) (h:db c=(List.range k).map F) (hF:∀ n x,F n≠[gb x]):False:=by
  cases c with
  | nil=>simp at hc
  | cons x c =>
    cases k with
    | zero=>simp at h
    | succ k =>
      rw[List.range_succ_eq_map] at h
      simp only[List.map_cons,List.cons.injEq] at h
      exact hF 0 x h.1.symm
theorem oH.keep {H H':View} {I N M:Nat} {R:Nat→Nat} {C:Nat→Nat→Nat} {T:Tb} (h:oH H I N M R C T) (hk:∀ id,H id≠.dead→H' id=H id):oH H' I N M R C T :=
  ⟨by rw[hk _ (by rw[h.top]; simp)]; exact h.top,fun n hn=>by rw[hk _ (by rw[h.row n hn]; simp)]; exact h.row n hn,fun n i hn hi=>by rw[hk _ (by rw[h.cell n i hn hi]; simp)]; exact h.cell n i hn hi,h.inj⟩
theorem oH.put {H:View} {I N M:Nat} {R:Nat→Nat} {C:Nat→Nat→Nat} {T:Tb} (h:oH H I N M R C T) (hT:vZ T N M) {n i j:Nat} (hn:n < N) (hi:i < M) (hj:j < M) :
    oH (H.set (C n i) (.arr 1 (db (((T.getD n []).getD i []).set j true)))) I N M R C (Ge T n i j):=by
  obtain ⟨r,c,hr,hc,hcl,hg⟩:=hT.cell hn hi
  have hcell:=h.cell n i hn hi
  rw[hg] at hcell
  have e1:I≠C n i:=fun e=>by
    have:=h.top
    rw[e,hcell] at this
    simp only[bN.arr.injEq,true_and] at this
    exact wM (by omega) this fun _ _=>by simp
  have e2:∀ m,m < N→R m≠C n i:=fun m hm e=>by
    have:=h.row m hm
    rw[e,hcell] at this
    simp only[bN.arr.injEq,true_and] at this
    exact wM (by omega) this fun _ _=>by simp
  refine ⟨by simp only[View.set,if_neg e1]; exact h.top,fun m hm=>by simp only[View.set,if_neg (e2 m hm)]; exact h.row m hm,fun m q hm hq=>?_,h.inj⟩
  obtain ⟨r',hr',hrl,hg'⟩:=hT.row hn
  rw[hr] at hr'; simp at hr'; subst hr'
  have hnl:n < T.length:=by rw[hT.1]; exact hn
  by_cases e:C m q=C n i
  · obtain ⟨rfl,rfl⟩:=h.inj m q n i hm hq hn hi e
    simp only[View.set,if_true]
    congr 2
    rw[Ge]
    simp[List.getD_eq_getElem?_getD,hnl]
    rw[List.getElem?_set]
    have:q < T[m].length:=by
      have:=(List.getElem?_eq_some_iff.1 hr).2
      rw[this,hrl]; exact hq
    simp[this]
  · simp only[View.set,if_neg e]
    rw[h.cell m q hm hq]
    congr 2
    rw[Ge]
    by_cases em:n=m
    · subst em
      have eq:i≠q:=fun e'=>e (by rw[e'])
      simp[List.getD_eq_getElem?_getD,hnl,List.getElem?_set,eq]
    · simp[List.getD_eq_getElem?_getD,List.getElem?_set,em]
theorem oH.MF {h:aC} {I N M:Nat} {R:Nat→Nat} {C:Nat→Nat→Nat} {T:Tb} (hG:oH h.view I N M R C T) (hT:vZ T N M):cX h (.sl I 0 N 1) (Ki T):=by
  refine .sl I 0 N 1 1 _ _ hG.top (by simp) (by simp[hT.1]) (fun n hn=>?_) (fun n j hn hj=>?_)
  · obtain ⟨r,hr,_⟩:=hT.row hn
    simp[List.getD_eq_getElem?_getD,hr,hn]
  · obtain ⟨r,hr,hrl,hrg⟩:=hT.row hn
    have e1:((T.map fun r=>[V.aN (r.map fun c=>[bR c])]).getD n [])=[V.aN (r.map fun c=>[bR c])]:=by simp[List.getD_eq_getElem?_getD,hr]
    have e2:(((List.range N).map fun n=>[V.sl (R n) 0 M 1]).getD (0+n) [])=[V.sl (R n) 0 M 1]:=by simp[List.getD_eq_getElem?_getD,hn]
    rw[e1] at hj ⊢
    rw[e2]
    have:j=0:=by simp at hj; omega
    subst this
    simp only[List.getD_cons_zero]
    refine .sl (R n) 0 M 1 1 _ _ (hG.row n hn) (by simp) (by simp[hrl]) (fun i hi=>?_) (fun i q hi hq=>?_)
    · simp[List.getD_eq_getElem?_getD,hi,show i < r.length by omega]
    · have hic:i < r.length:=by omega
      have f1:((r.map fun c=>[bR c]).getD i [])=[bR r[i]]:=by simp[List.getD_eq_getElem?_getD,hic]
      have f2:(((List.range M).map fun i=>[V.sl (C n i) 0 M 1]).getD (0+i) [])=[V.sl (C n i) 0 M 1]:=by simp[List.getD_eq_getElem?_getD,hi]
      rw[f1] at hq ⊢
      rw[f2]
      have:q=0:=by simp at hq; omega
      subst this
      simp only[List.getD_cons_zero]
      have hcell:=hG.cell n i hn hi
      have e3:(T.getD n []).getD i []=r[i]:=by rw[hrg]; simp[List.getD_eq_getElem?_getD,hic]
      rw[e3] at hcell
      have hcl:=(hT.2 r (List.mem_of_getElem? hr)).2 _ (List.getElem_mem hic)
      have:=mY (h:=h) (id:=C n i) (is:=r[i]) hcell
      rwa [hcl] at this
theorem cX.wC {h:aC} {v t:V} (f:cX h v t):Fr h v t:=by
  induction f with
  | val v=>exact .tree _ (.val v)
  | emp k=>exact .emp k
  | sl id off len esz z es es' hH hle hlen hl _ ih=>exact .sl id off len esz z es es' hH hle hlen hl ih
  | agg cs cs' hl _ ih=>exact .agg cs cs' hl ih
  | bg cs cs' hl _ ih=>exact .bg cs cs' hl ih
theorem oH.yY {H:View} {I N M:Nat} {R:Nat→Nat} {C:Nat→Nat→Nat} {T:Tb} (hG:oH H I N M R C T) (hT:vZ T N M):dt H (.sl I 0 N 1) (Ki T):=by
  rintro h rfl
  exact (hG.MF hT).wC
end Gv
set_option linter.unusedSimpArgs false
set_option maxRecDepth 100000
namespace Gv
open Go Go.Proofs
structure LR (H:View) (I N M k:Nat) (R:Nat→Nat) (C:Nat→Nat→Nat):Prop where
  top:H I=.arr 1 ((List.range N).map fun n=>[if n < k then .sl (R n) 0 M 1 else .emp 1])
  row:∀ n,n < k→H (R n)=.arr 1 ((List.range M).map fun i=>[.sl (C n i) 0 M 1])
  cell:∀ n i,n < k→i < M→H (C n i)=.arr 1 (List.replicate M [gb false])
  inj:∀ n i n' i',n < k→i < M→n' < k→i' < M→C n i=C n' i'→n=n'∧i=i'
  ne:∀ n,n < k→I≠R n
structure BB (H:View) (I N M k:Nat) (R:Nat→Nat) (C:Nat→Nat→Nat) (r i:Nat) (D:Nat→Nat):Prop where
  top:H I=.arr 1 ((List.range N).map fun n=>[if n < k then .sl (R n) 0 M 1 else if n=k then .sl r 0 M 1 else .emp 1])
  row:∀ n,n < k→H (R n)=.arr 1 ((List.range M).map fun i=>[.sl (C n i) 0 M 1])
  cell:∀ n i,n < k→i < M→H (C n i)=.arr 1 (List.replicate M [gb false])
  inj:∀ n i n' i',n < k→i < M→n' < k→i' < M→C n i=C n' i'→n=n'∧i=i'
  ne:∀ n,n < k→I≠R n
  Ly:H r=.arr 1 ((List.range M).map fun j=>[if j < i then .sl (D j) 0 M 1 else .emp 1])
  A4:∀ j,j < i→H (D j)=.arr 1 (List.replicate M [gb false])
  Md:∀ j j',j < i→j' < i→D j=D j'→j=j'
  Ay:I≠r∧(∀ n,n < k→R n≠r)∧∀ n q j,n < k→q < M→j < i→C n q≠D j
theorem DI {M i:Nat} {F:Nat→List V} {v:List V} : ((List.range M).map F).set i v=(List.range M).map fun j=>if j=i then v else F j:=by
  apply List.ext_getElem (by simp)
  intro j h1 h2
  simp only[List.getElem_set,List.getElem_map,List.getElem_range]
  by_cases e:i=j
  · subst e; simp
  · rw[if_neg e,if_neg (Ne.symm e)]
theorem LR.done {H:View} {I N M:Nat} {R:Nat→Nat} {C:Nat→Nat→Nat} (h:LR H I N M N R C):oH H I N M R C (LL N M):=by
  refine ⟨?_,h.row,fun n i hn hi=>?_,h.inj⟩
  · rw[h.top]
    congr 1
    apply List.map_congr_left
    intro n hn
    rw[if_pos (by simpa using hn)]
  · rw[h.cell n i hn hi]
    simp[LL,List.getD_eq_getElem?_getD,hn,hi]
theorem BB.MN {H:View} {I N M k:Nat} {R:Nat→Nat} {C:Nat→Nat→Nat} {r:Nat} {D:Nat→Nat} (h:BB H I N M k R C r M D):LR H I N M (k+1) (fun n=>if n=k then r else R n) (fun n=>if n=k then D else C n):=by
  refine ⟨?_,fun n hn=>?_,fun n i hn hi=>?_,fun n i n' i' hn hi hn' hi' e=>?_,fun n hn=>?_⟩
  · rw[h.top]
    congr 1
    apply List.map_congr_left
    intro n _
    by_cases e1:n < k
    · rw[if_pos e1,if_pos (by omega),if_neg (by omega)]
    · by_cases e2:n=k
      · rw[if_neg e1,if_pos e2,if_pos (by omega),if_pos e2]
      · rw[if_neg e1,if_neg e2,if_neg (by omega)]
  · by_cases e:n=k
    · simp only[if_pos e]
      rw[h.Ly]
      congr 1
      apply List.map_congr_left
      intro i hi
      rw[if_pos (by simpa using hi)]
    · simp only[if_neg e]; exact h.row n (by omega)
  · by_cases e:n=k
    · simp only[if_pos e]; exact h.A4 i hi
    · simp only[if_neg e]; exact h.cell n i (by omega) hi
  · by_cases e1:n=k
    · by_cases e2:n'=k
      · simp only[if_pos e1,if_pos e2] at e
        exact ⟨by omega,h.Md i i' hi hi' e⟩
      · simp only[if_pos e1,if_neg e2] at e
        exact absurd e.symm (h.Ay.2.2 n' i' i (by omega) hi' hi)
    · by_cases e2:n'=k
      · simp only[if_neg e1,if_pos e2] at e
        exact absurd e (h.Ay.2.2 n i i' (by omega) hi hi')
      · simp only[if_neg e1,if_neg e2] at e
        exact h.inj n i n' i' (by omega) hi (by omega) hi' e
  · by_cases e:n=k
    · simp only[if_pos e]; exact h.Ay.1
    · simp only[if_neg e]; exact h.ne n (by omega)
theorem BB.next {H H':View} {I N M k:Nat} {R:Nat→Nat} {C:Nat→Nat→Nat} {r i d:Nat} {D:Nat→Nat} (h:BB H I N M k R C r i D) (hN:0 < N) (hM:0 < M) (hd:H d=.dead)
    (hr':H' r=.arr 1 (((List.range M).map fun j=>[if j < i then V.sl (D j) 0 M 1 else .emp 1]).set i [.sl d 0 M 1])) (hd':H' d=.arr 1 (List.replicate M [gb false])) (ho:∀ id,H id≠.dead→id≠r→H' id=H id) :
    BB H' I N M k R C r (i+1) (fun j=>if j=i then d else D j):=by
  have live:∀ id,H id≠.dead→id≠d:=fun id hid e=>by subst e; exact hid hd
  have boolr:∀ id,H id=.arr 1 (List.replicate M [gb false])→id≠r:=fun id hid e=>by
    rw[e,h.Ly] at hid
    simp only[bN.arr.injEq,true_and] at hid
    have:=congrArg (·[0]?) hid
    simp[hM] at this
    split at this <;> simp at this
  refine ⟨?_,fun n hn=>?_,fun n q hn hq=>?_,h.inj,h.ne,?_,fun j hj=>?_,fun j j' hj hj' e=>?_,⟨h.Ay.1,h.Ay.2.1,fun n q j hn hq hj=>?_⟩⟩
  · rw[ho I (by rw[h.top]; simp) h.Ay.1]; exact h.top
  · rw[ho _ (by rw[h.row n hn]; simp) (h.Ay.2.1 n hn)]; exact h.row n hn
  · have:=h.cell n q hn hq
    rw[ho _ (by rw[this]; simp) (boolr _ this)]; exact this
  · rw[hr',DI]
    congr 1
    apply List.map_congr_left
    intro j _
    by_cases e:j=i
    · rw[if_pos e,if_pos (by omega),if_pos e]
    · rw[if_neg e]
      by_cases e2:j < i
      · rw[if_pos e2,if_pos (by omega),if_neg e]
      · rw[if_neg e2,if_neg (by omega)]
  · by_cases e:j=i
    · simp only[if_pos e]; exact hd'
    · simp only[if_neg e]
      have:=h.A4 j (by omega)
      rw[ho _ (by rw[this]; simp) (boolr _ this)]; exact this
  · by_cases e1:j=i
    · by_cases e2:j'=i
      · omega
      · simp only[if_pos e1,if_neg e2] at e
        exact absurd e.symm (live _ (by rw[h.A4 j' (by omega)]; simp))
    · by_cases e2:j'=i
      · simp only[if_neg e1,if_pos e2] at e
        exact absurd e (live _ (by rw[h.A4 j (by omega)]; simp))
      · simp only[if_neg e1,if_neg e2] at e
        exact h.Md j j' (by omega) (by omega) e
  · by_cases e:j=i
    · simp only[if_pos e]; exact live _ (by rw[h.cell n q hn hq]; simp)
    · simp only[if_neg e]; exact h.Ay.2.2 n q j hn hq (by omega)
end Gv
set_option linter.unusedSimpArgs false
set_option maxRecDepth 100000
namespace Gv
open Go Go.Proofs
end Gv
set_option linter.unusedSimpArgs false
set_option maxRecDepth 100000
namespace Gv
open Go Go.Proofs
theorem IT (g:al) (w:List Int):∀ v∈[V.agg (av g),encI w],Tree v:=by
  intro v hv; simp at hv
  rcases hv with rfl | rfl
  · exact dp _ (dD g)
  · exact du w
end Gv
set_option linter.unusedSimpArgs false
set_option maxRecDepth 100000
namespace Gv
open Go Go.Proofs
def K2 (g:al) (o:Option Wk) (r:V) (H:View):Prop:=match o with
  | some x=>1≤x.high∧∃ b,r=.bg [.ptr b 0 0,gi x.high]∧BS g b x.rest x.word x.post H
  | none=>∃ p,r=.bg [p,gi 0]
set_option maxHeartbeats 4000000 in
theorem GQ (g:al) (hg:g.Ok) (hs:g.Small) (t:List Int) (ht:aH t) (H:View):aB Tryz.prog 170 [.agg (av g),encI t] H fun r H'=>K2 g (jG g t) r H':=by
  have hc:=kp g hg hs.names
  unfold aH at ht
  refine aB.of mixed yW ?_
  simp only[av,encS] at hc
  simp (disch:=omega) only [↓wr,↓reduceIte,wq,ah,ag,aj,ab,ae,af,ai,isNil,Nat.reduceEqDiff,Nat.reduceAdd,Nat.reduceLT,Nat.reduceLeDiff,Int.reduceNeg,Int.reduceToNat,reduceCtorEq,vW,av,encS]
  refine aF.pure hc (by kernel_rfl) ?_
  simp (disch:=omega) only [↓wr,↓reduceIte,wq,ah,ag,aj,ab,ae,af,ai,isNil,Nat.reduceEqDiff,Nat.reduceAdd,Nat.reduceLT,Nat.reduceLeDiff,Int.reduceNeg,Int.reduceToNat,reduceCtorEq]
  refine an.split (fun hr=>?_) (fun hr=>?_)
  · simp (disch:=omega) only [↓wr,↓reduceIte,wq,ah,ag,aj,ab,ae,af,ai,isNil,Nat.reduceEqDiff,Nat.reduceAdd,Nat.reduceLT,Nat.reduceLeDiff,Int.reduceNeg,Int.reduceToNat,reduceCtorEq,encI]
    refine an.dec (fun hl=>?_) (fun hl=>?_)
    · simp (disch:=omega) only [↓wr,↓reduceIte,wq,ah,ag,aj,ab,ae,af,ai,isNil,Nat.reduceEqDiff,Nat.reduceAdd,Nat.reduceLT,Nat.reduceLeDiff,Int.reduceNeg,Int.reduceToNat,reduceCtorEq]
      rw[jG,if_neg (by rintro ⟨_,h⟩; omega)]
      exact ⟨_,rfl⟩
    · simp (disch:=omega) only [↓wr,↓reduceIte,wq,ah,ag,aj,ab,ae,af,ai,isNil,Nat.reduceEqDiff,Nat.reduceAdd,Nat.reduceLT,Nat.reduceLeDiff,Int.reduceNeg,Int.reduceToNat,reduceCtorEq]
      intro b hb
      have hf:=bc hr
      have h0:=hf.gY
      have h1:=hf.start
      have hw0:BS g b t [] [] (H.set b (.arr 7 [eU g t (.emp 1) (.emp 1)])):=by
        refine ⟨.emp 1,.emp 1,?_⟩
        have o:=(bD.nil (H:=H)).new hb 7 [eU g t (.emp 1) (.emp 1)]
        exact (o.perm (.refl _)).perm (.refl _) |> fun o=>⟨fun x hx=>by
          rcases List.mem_cons.1 hx with rfl | hx
          · exact o.head
          · rcases List.mem_cons.1 hx with rfl | hx
            · exact .nil
            · simp at hx; subst hx; exact .nil,by simp[owner]⟩
      have hcall:=KU g hg hf b t.length g.start t [] [] _ (by omega) h0 h1 (Nat.le_refl _) (by simp; omega) (by simp; omega) hw0
      simp only[eU,encI] at hcall
      try simp (disch:=omega) only [↓wr,↓reduceIte,wq,ah,ag,aj,ab,ae,af,ai,isNil,Nat.reduceEqDiff,Nat.reduceAdd,Nat.reduceLT,Nat.reduceLeDiff,Int.reduceNeg,Int.reduceToNat,reduceCtorEq,encI]
      refine aF.gH (hcall.mono ?_)
      intro r H1 hr1
      have hwh:jG g t=match bP g t.length [-1 - g.start] t with
          | some x=>if x.rest=[] then some x else none
          | none=>none:=by rw[jG,if_pos ⟨hr,by omega⟩]; rfl
      rw[hwh]
      cases hx:bP g t.length [-1 - g.start] t with
      | none =>
        rw[hx] at hr1
        obtain ⟨rfl,rest',W',Po',_,uw,up,ho⟩:=hr1
        have hb1:=ho.is 0 rfl (by simp)
        simp (disch:=omega) only [↓wr,↓reduceIte,wq,ah,ag,aj,ab,ae,af,ai,isNil,Nat.reduceEqDiff,Nat.reduceAdd,Nat.reduceLT,Nat.reduceLeDiff,Int.reduceNeg,Int.reduceToNat,reduceCtorEq,hb1,eU,encI]
        refine an.dec (fun _=>?_) (fun _=>?_)
        · simp (disch:=omega) only [↓wr,↓reduceIte,wq,ah,ag,aj,ab,ae,af,ai,isNil,Nat.reduceEqDiff,Nat.reduceAdd,Nat.reduceLT,Nat.reduceLeDiff,Int.reduceNeg,Int.reduceToNat,reduceCtorEq]
          exact ⟨_,rfl⟩
        · simp (disch:=omega) only [↓wr,↓reduceIte,wq,ah,ag,aj,ab,ae,af,ai,isNil,Nat.reduceEqDiff,Nat.reduceAdd,Nat.reduceLT,Nat.reduceLeDiff,Int.reduceNeg,Int.reduceToNat,reduceCtorEq]
          exact ⟨_,rfl⟩
      | some x =>
        rw[hx] at hr1
        obtain ⟨rfl,hw1⟩:=hr1
        have hh:=x7 (by omega) hx
        have hw2:=hw1
        obtain ⟨uw,up,ho⟩:=hw1
        have hb1:=ho.is 0 rfl (by simp)
        simp (disch:=omega) only [↓wr,↓reduceIte,wq,ah,ag,aj,ab,ae,af,ai,isNil,Nat.reduceEqDiff,Nat.reduceAdd,Nat.reduceLT,Nat.reduceLeDiff,Int.reduceNeg,Int.reduceToNat,reduceCtorEq,hb1,eU,encI]
        refine an.dec (fun hc=>?_) (fun hc=>?_)
        · simp (disch:=omega) only [↓wr,↓reduceIte,wq,ah,ag,aj,ab,ae,af,ai,isNil,Nat.reduceEqDiff,Nat.reduceAdd,Nat.reduceLT,Nat.reduceLeDiff,Int.reduceNeg,Int.reduceToNat,reduceCtorEq]
          try simp only
          rw[if_neg (by intro e; rw[e] at hc; simp at hc)]
          exact ⟨_,rfl⟩
        · simp (disch:=omega) only [↓wr,↓reduceIte,wq,ah,ag,aj,ab,ae,af,ai,isNil,Nat.reduceEqDiff,Nat.reduceAdd,Nat.reduceLT,Nat.reduceLeDiff,Int.reduceNeg,Int.reduceToNat,reduceCtorEq]
          try simp only
          rw[if_pos (List.length_eq_zero_iff.1 (by omega))]
          exact ⟨hh,b,rfl,by simpa using hw2⟩
  · simp (disch:=omega) only [↓wr,↓reduceIte,wq,ah,ag,aj,ab,ae,af,ai,isNil,Nat.reduceEqDiff,Nat.reduceAdd,Nat.reduceLT,Nat.reduceLeDiff,Int.reduceNeg,Int.reduceToNat,reduceCtorEq]
    rw[jG,if_neg (by rintro ⟨h,_⟩; rw[h] at hr; simp at hr)]
    exact ⟨_,rfl⟩
set_option maxHeartbeats 4000000 in
theorem JO (g:al) (hg:g.Ok) (hs:g.Small) (t:List Int) (ht:aH t):cr Tryz.prog 111 [.agg (av g),encI t] (mh (jJ g t)):=by
  refine cr.of (IT g t) ?_
  refine aB.of mixed yS ?_
  have hr:=GQ g hg hs t ht (fun _=>.dead)
  simp only[av,encS] at hr
  simp (disch:=omega) only [↓wr,↓reduceIte,wq,ah,ag,aj,ab,ae,af,ai,isNil,Nat.reduceEqDiff,Nat.reduceAdd,Nat.reduceLT,Nat.reduceLeDiff,Int.reduceNeg,Int.reduceToNat,reduceCtorEq,vG,av,encS]
  refine aF.gH (hr.mono ?_)
  intro r H1 hr
  unfold jJ
  cases hw:jG g t with
  | none =>
    rw[hw] at hr
    obtain ⟨p,rfl⟩:=hr
    simp (disch:=omega) only [↓wr,↓reduceIte,wq,ah,ag,aj,ab,ae,af,ai,isNil,Nat.reduceEqDiff,Nat.reduceAdd,Nat.reduceLT,Nat.reduceLeDiff,Int.reduceNeg,Int.reduceToNat,reduceCtorEq]
    refine an.eq (fun _=>?_) (fun e=>absurd rfl e)
    simp (disch:=omega) only [↓wr,↓reduceIte,wq,ah,ag,aj,ab,ae,af,ai,isNil,Nat.reduceEqDiff,Nat.reduceAdd,Nat.reduceLT,Nat.reduceLeDiff,Int.reduceNeg,Int.reduceToNat,reduceCtorEq]
    intro h' _
    exact fi (x:=([],1)) (.emp _)
  | some x =>
    rw[hw] at hr
    obtain ⟨h1,b,rfl,uw,up,ho⟩:=hr
    have hb:=ho.is 0 rfl (by simp)
    simp (disch:=omega) only [↓wr,↓reduceIte,wq,ah,ag,aj,ab,ae,af,ai,isNil,Nat.reduceEqDiff,Nat.reduceAdd,Nat.reduceLT,Nat.reduceLeDiff,Int.reduceNeg,Int.reduceToNat,reduceCtorEq]
    refine an.eq (fun e=>absurd e (by omega)) (fun _=>?_)
    simp (disch:=omega) only [↓wr,↓reduceIte,wq,ah,ag,aj,ab,ae,af,ai,isNil,Nat.reduceEqDiff,Nat.reduceAdd,Nat.reduceLT,Nat.reduceLeDiff,Int.reduceNeg,Int.reduceToNat,reduceCtorEq,hb,eU]
    rintro h' rfl
    exact fi (x:=(x.word,0)) (jX (ho.own 1 rfl))
end Gv
set_option linter.unusedSimpArgs false
set_option maxRecDepth 100000
namespace Gv
open Go Go.Proofs
end Gv
set_option linter.unusedSimpArgs false
namespace Gv
open Go
def jP {κ:Type} (kv:κ→V) (m:cZ κ):List (V × V × Nat):=m.map fun x=>(kv x.1,x.2.1,x.2.2)
structure Nc {κ:Type} [BEq κ] (P:Program) (kt:TypeId) (kv:κ→V):Prop where
  find:∀ k e m,kI P kt (kv k) e (jP kv m)=some (iI k m)
  same:∀ k,sameKey (kv k) (kv k)=true
def AY {κ:Type} (m:cZ κ) (c:Nat):Prop:=(m.map (·.2.2)).Nodup∧∀ x∈m,x.2.2 < c
def kT {κ:Type} [BEq κ] (m:cZ κ) (k:κ):Option Nat:=(m.find? fun x=>k == x.1).map (·.2.2)
section
variable {κ:Type} [BEq κ] [LawfulBEq κ] {kv:κ→V}
theorem CF (k:κ):∀ m:cZ κ,match iI k m with
    | some i=>∃ x,m[i]?=some x∧x.1=k∧getM m k=some x.2.1∧kT m k=some x.2.2∧(jP kv m)[i]?=some (kv k,x.2.1,x.2.2)∧∀ v c,(jP kv m).set i (kv k,v,x.2.2)=jP kv (cA k v c m)∧kT (cA k v c m) k=some x.2.2∧(cA k v c m).map (·.2.2)=m.map (·.2.2)
    | none=>getM m k=none∧kT m k=none∧∀ v c,jP kv m ++ [(kv k,v,c)]=jP kv (cA k v c m)∧kT (cA k v c m) k=some c∧(cA k v c m).map (·.2.2)=m.map (·.2.2) ++ [c]
  | []=>⟨rfl,rfl,fun v c=>⟨rfl,by simp[cA,kT],rfl⟩⟩
  | x :: r=>by
    have ih:=CF k r
    simp only[iI]
    cases hk:k == x.1 with
    | true =>
      have hx:x.1=k:=(eq_of_beq hk).symm
      exact ⟨x,rfl,hx,by simp[getM,hk],by simp[kT,hk],by simp[jP,hx],fun v c=>by simp[cA,hk,jP,kT]⟩
    | false =>
      simp only[Bool.false_eq_true,if_false]
      cases hi:iI k r with
      | some i =>
        rw[hi] at ih
        obtain ⟨y,h1,h2,h3,h4,h5,h6⟩:=ih
        refine ⟨y,by simpa using h1,h2,by simpa [getM,hk] using h3,by simpa [kT,hk] using h4,by simpa [jP] using h5,fun v c=>?_⟩
        obtain ⟨g1,g2,g3⟩:=h6 v c
        exact ⟨by simp only[jP] at g1 ⊢; simp[cA,hk,g1],by simpa [cA,hk,kT] using g2,by simp[cA,hk,g3]⟩
      | none =>
        rw[hi] at ih
        refine ⟨by simpa [getM,hk] using ih.1,by simpa [kT,hk] using ih.2.1,fun v c=>?_⟩
        obtain ⟨g1,g2,g3⟩:=ih.2.2 v c
        exact ⟨by simp only[jP] at g1 ⊢; simp[cA,hk,g1],by simpa [cA,hk,kT] using g2,by simp[cA,hk,g3]⟩
theorem AY.put {m:cZ κ} {c:Nat} (h:AY m c) (k:κ) (v:V):AY (cA k v c m) (c+1):=by
  have hg:=CF (kv:=fun _=>V.any) k m
  cases hj:iI k m with
  | some j =>
    rw[hj] at hg
    obtain ⟨y,_,_,_,_,_,h6⟩:=hg
    have e:=(h6 v c).2.2
    refine ⟨by rw[e]; exact h.1,fun x hx=>?_⟩
    have:x.2.2∈m.map (·.2.2):=by rw[← e]; exact List.mem_map.2 ⟨x,hx,rfl⟩
    obtain ⟨y,hy,e2⟩:=List.mem_map.1 this
    have:=h.2 y hy
    omega
  | none =>
    rw[hj] at hg
    have e:=(hg.2.2 v c).2.2
    refine ⟨?_,fun x hx=>?_⟩
    · rw[e,List.nodup_append]
      refine ⟨h.1,by simp,fun a ha b hb=>?_⟩
      simp at hb; subst hb
      obtain ⟨y,hy,rfl⟩:=List.mem_map.1 ha
      have:=h.2 y hy
      omega
    · have:x.2.2∈m.map (·.2.2) ++ [c]:=by rw[← e]; exact List.mem_map.2 ⟨x,hx,rfl⟩
      rcases List.mem_append.1 this with h1 | h1
      · obtain ⟨y,hy,e2⟩:=List.mem_map.1 h1
        have:=h.2 y hy
        omega
      · simp at h1; omega
variable {P:Program} {T:Env} {H:View} {kt et t ty:TypeId}
end
def sB (x:Item):List V:=[aj x.bb,aj x.dot,aj x.kr]
def MP (x:Item):V:=.agg (sB x)
structure Nd (P:Program) (kt:TypeId):Prop where
  ty:∃ f0 f1 f2:Field,P.underlying kt=some (.struct #[f0,f1,f2])∧f0.name≠ "_" ∧ f1.name≠ "_" ∧ f2.name≠ "_" ∧ P.underlying f0.type=some (.int .i64)∧P.underlying f1.type=some (.int .i64)∧P.underlying f2.type=some (.int .i64)∧f0.offset=0∧f1.offset=1∧f2.offset=2
  held:P.stoodInHeld kt=false
end Gv
set_option linter.unusedSimpArgs false
set_option maxRecDepth 100000
namespace Gv
open Go Go.Proofs
def M5 (m:cZ Item) (s:List Item) (B:Nat):Prop:=∀ x,(x∈s→∃ k:Nat,getM m x=some (aj k)∧1≤k∧k≤B)∧(x ∉ s→getM m x=none)
structure oB (H:View) (c sid mid:Nat) (sv:Nat→V) (mi:Nat→Nat) (mm:Nat→cZ Item) (cl:Nat→Nat) (g:al) (p:List Int) (nu:V) (S S1:Nat→List Item) (B n:Nat) (K:List (Nat × bN)):Prop where
  box:H c=.arr 8 [[.aN (g.ay.map cz),encS g.ax,.aN (g.rules.map bf),gi g.start,encI p,nu,.sl sid 0 n 1,.sl mid 0 n 1]]
  iK:H sid=.arr 1 ((List.range n).map fun j=>[sv j])
  seen:H mid=.arr 1 ((List.range n).map fun j=>[.mp (mi j)])
  set:∀ j,j < n→aO H (sv j) 3 ((S j).map sB)
  map:∀ j,j < n→H (mi j)=.map (jP MP (mm j)) (cl j)∧AY (mm j) (cl j)∧M5 (mm j) (S1 j) B
  ne:sid≠mid
  wH:∀ i j o,i < n→j < n→owner (sv i)=some o→owner (sv j)=some o→i=j
  Fu:∀ i j,i < n→j < n→mi i=mi j→i=j
  off:∀ q∈K,H q.1=q.2∧q.2≠.dead∧q.1≠sid∧(∀ j,j < n→q.1≠mi j)∧∀ j,j < n→owner (sv j)≠some q.1
def Ch (H:View) (c:Nat) (g:al) (p:List Int) (nu:V) (S:Nat→List Item) (B n:Nat) (K:List (Nat × bN)):Prop:=∃ sid mid sv mi mm cl,oB H c sid mid sv mi mm cl g p nu S S B n K
def uS (S:Nat→List Item) (a:Nat) (x:Item):Nat→List Item:=fun b=>if b=a then (if x∈S a then S a else S a ++ [x]) else S b
theorem Ch.more {H:View} {c:Nat} {g:al} {p:List Int} {nu:V} {S:Nat→List Item} {B B' n:Nat} {K:List (Nat × bN)} (h:Ch H c g p nu S B n K) (hB:B≤B'):Ch H c g p nu S B' n K:=by
  obtain ⟨sid,mid,sv,mi,mm,cl,h⟩:=h
  refine ⟨sid,mid,sv,mi,mm,cl,h.box,h.iK,h.seen,h.set,fun j hj=>⟨(h.map j hj).1,(h.map j hj).2.1,fun x=>⟨fun hx=>?_,((h.map j hj).2.2 x).2⟩⟩,h.ne,h.wH,h.Fu,h.off⟩
  obtain ⟨k,h1,h2,h3⟩:=((h.map j hj).2.2 x).1 hx
  exact ⟨k,h1,h2,by omega⟩
theorem Ch.drop {H:View} {c:Nat} {g:al} {p:List Int} {nu:V} {S:Nat→List Item} {B n:Nat} {q:Nat × bN} {K:List (Nat × bN)} (h:Ch H c g p nu S B n (q :: K)):Ch H c g p nu S B n K:=by
  obtain ⟨sid,mid,sv,mi,mm,cl,h⟩:=h
  exact ⟨sid,mid,sv,mi,mm,cl,h.box,h.iK,h.seen,h.set,h.map,h.ne,h.wH,h.Fu,fun q hq=>h.off q (by simp[hq])⟩
theorem oB.new {H:View} {c sid mid:Nat} {sv:Nat→V} {mi:Nat→Nat} {mm:Nat→cZ Item} {cl:Nat→Nat} {g:al} {p:List Int} {nu:V} {S S1:Nat→List Item} {B n:Nat} {K:List (Nat × bN)} (h:oB H c sid mid sv mi mm cl g p nu S S1 B n K)
    {b:Nat} {o:bN} (hb:H b=.dead) (ho:o≠.dead):oB (H.set b o) c sid mid sv mi mm cl g p nu S S1 B n ((b,o) :: K):=by
  have keep:∀ id,H id≠.dead→(H.set b o) id=H id:=fun id hid=>by
    have e:id≠b:=by rintro rfl; exact hid hb
    simp[View.set,e]
  have live:∀ {id},H id≠.dead→b≠id:=fun hid e=>hid (e ▸ hb)
  refine ⟨?_,?_,?_,fun j hj=>?_,fun j hj=>?_,h.ne,h.wH,h.Fu,fun q hq=>?_⟩
  · rw[keep _ (by rw[h.box]; simp)]; exact h.box
  · rw[keep _ (by rw[h.iK]; simp)]; exact h.iK
  · rw[keep _ (by rw[h.seen]; simp)]; exact h.seen
  · exact (h.set j hj).fresh hb
  · rw[keep _ (by rw[(h.map j hj).1]; simp)]; exact h.map j hj
  · rcases List.mem_cons.1 hq with rfl | hq
    · refine ⟨by simp[View.set],ho,live (by rw[h.iK]; simp),fun j hj=>live (by rw[(h.map j hj).1]; simp),fun j hj=>?_⟩
      have:=(h.set j hj).ne hb
      exact this
    · obtain ⟨h1,h2,h3⟩:=h.off q hq
      exact ⟨by rw[keep _ (by rw[h1]; exact h2)]; exact h1,h2,h3⟩
theorem Ch.new {H:View} {c:Nat} {g:al} {p:List Int} {nu:V} {S:Nat→List Item} {B n b:Nat} {o:bN} {K:List (Nat × bN)} (h:Ch H c g p nu S B n K) (hb:H b=.dead) (ho:o≠.dead):Ch (H.set b o) c g p nu S B n ((b,o) :: K):=by
  obtain ⟨sid,mid,sv,mi,mm,cl,h⟩:=h
  exact ⟨sid,mid,sv,mi,mm,cl,h.new hb ho⟩
theorem Ch.kept {H:View} {c:Nat} {g:al} {p:List Int} {nu:V} {S:Nat→List Item} {B n:Nat} {K:List (Nat × bN)} (h:Ch H c g p nu S B n K):∀ q∈K,H q.1=q.2:=by
  obtain ⟨sid,mid,sv,mi,mm,cl,h⟩:=h
  exact fun q hq=>(h.off q hq).1
theorem oB.M4 {H H':View} {c sid mid:Nat} {sv:Nat→V} {mi:Nat→Nat} {mm:Nat→cZ Item} {cl:Nat→Nat} {g:al} {p:List Int} {nu:V} {S S1:Nat→List Item} {B n:Nat} {K:List (Nat × bN)} (h:oB H c sid mid sv mi mm cl g p nu S S1 B n K)
    {at0:Nat} (ha:at0 < n) {x:Item} (hx:¬ x∈S at0) {u':V} (ho:aO H' u' 3 ((S at0).map sB ++ [sB x])) (hl:Left H H' (sv at0) u') :
    oB (H'.set sid (.arr 1 (((List.range n).map fun j=>[sv j]).set at0 [u']))) c sid mid (fun j=>if j=at0 then u' else sv j) mi mm cl g p nu (uS S at0 x) S1 B n K:=by
  have own:∀ {id},owner (sv at0)=some id→H id=.arr 3 ((S at0).map sB):=fun hid=>((h.set at0 ha).live hid).1
  have n1:owner (sv at0)≠some sid:=fun e=>by
    have:=own e
    rw[h.iK] at this; simp at this
  have keep:∀ id,H id≠.dead→owner (sv at0)≠some id→H' id=H id∧owner u'≠some id:=hl
  have ns:=keep sid (by rw[h.iK]; simp) n1
  have keep2:∀ id,H id≠.dead→owner (sv at0)≠some id→id≠sid→(H'.set sid (.arr 1 (((List.range n).map fun j=>[sv j]).set at0 [u']))) id=H id:=fun id h1 h2 h3=>by
    simp only[View.set,if_neg h3]; exact (keep id h1 h2).1
  have no3:∀ {id o},H id=o→o≠.arr 3 ((S at0).map sB)→owner (sv at0)≠some id:=fun h1 h2 e=>h2 (by rw[← h1]; exact own e)
  refine ⟨?_,?_,?_,fun j hj=>?_,fun j hj=>?_,h.ne,fun i j o hi hj h1 h2=>?_,h.Fu,fun q hq=>?_⟩
  · rw[keep2 c (by rw[h.box]; simp) (no3 h.box (by simp)) (by rintro rfl; have:=h.box; rw[h.iK] at this; simp at this)]; exact h.box
  · simp only[View.set,if_true]
    congr 1
    rw[DI]
    apply List.map_congr_left
    intro j _
    split <;> rfl
  · rw[keep2 mid (by rw[h.seen]; simp) (no3 h.seen (by simp)) h.ne.symm]; exact h.seen
  · by_cases e:j=at0
    · subst e
      simp only[if_true,uS,if_neg hx,List.map_append,List.map_cons,List.map_nil]
      exact ho.other ns.2
    · simp only[if_neg e,uS]
      refine (h.set j hj).keep fun id hid=>?_
      have hlv:=((h.set j hj).live hid).1
      refine keep2 id (by rw[hlv]; simp) (fun e2=>e (h.wH j at0 id hj ha hid e2)) ?_
      rintro rfl; rw[h.iK] at hlv; simp at hlv
  · obtain ⟨g1,g2,g3⟩:=h.map j hj
    refine ⟨?_,g2,g3⟩
    rw[keep2 (mi j) (by rw[g1]; simp) (no3 g1 (by simp)) (by intro e; rw[e,h.iK] at g1; simp at g1)]; exact g1
  · by_cases e1:i=at0
    · by_cases e2:j=at0
      · omega
      · simp only[if_pos e1,if_neg e2] at h1 h2
        exfalso
        have hlv:=((h.set j hj).live h2).1
        exact (keep o (by rw[hlv]; simp) (fun e3=>e2 (h.wH j at0 o hj ha h2 e3))).2 h1
    · by_cases e2:j=at0
      · simp only[if_neg e1,if_pos e2] at h1 h2
        exfalso
        have hlv:=((h.set i hi).live h1).1
        exact (keep o (by rw[hlv]; simp) (fun e3=>e1 (h.wH i at0 o hi ha h1 e3))).2 h2
      · simp only[if_neg e1,if_neg e2] at h1 h2
        exact h.wH i j o hi hj h1 h2
  · obtain ⟨h1,h2,h3,h4,h5⟩:=h.off q hq
    refine ⟨?_,h2,h3,h4,fun j hj=>?_⟩
    · rw[keep2 q.1 (by rw[h1]; exact h2) (h5 at0 ha) h3]; exact h1
    · by_cases e:j=at0
      · simp only[if_pos e]; exact (keep q.1 (by rw[h1]; exact h2) (h5 at0 ha)).2
      · simp only[if_neg e]; exact h5 j hj
end Gv
set_option linter.unusedSimpArgs false
namespace Gv
open Go Go.Proofs
inductive B2 (g:al) (p:List Int):Int→Nat→Prop
  | start:B2 g p g.start 0
  | step (R:aJ) (l1 l2:List Int) (n:Int) (f a:Nat):R∈g.rules→R.right=l1 ++ (-1 - n) :: l2→B2 g p R.left f→Sp g p l1 f a→B2 g p n a
def FP (g:al) (p:List Int) (x:Item):Prop:=∃ R,g.rules[x.bb]?=some R∧B2 g p R.left x.kr
inductive Ba (g:al) (p:List Int):Int→Nat→Prop
  | full (R:aJ) (l1 l2:List Int) (f:Nat):R∈g.rules→R.right=l1 ++ l2→Sp g p l1 f p.length→Ba g p R.left f
  | deep (R:aJ) (l1 l2:List Int) (s:Int) (f a:Nat):R∈g.rules→R.right=l1 ++ s :: l2→s < 0→Sp g p l1 f a→a < p.length→Ba g p (-1 - s) a→Ba g p R.left f
theorem B2.len {g:al} {p:List Int} {n:Int} {a:Nat} (h:B2 g p n a):a≤p.length:=by
  induction h with
  | start=>omega
  | step _ _ _ _ _ _ _ _ _ hs ih=>exact hs.len ih
theorem Lk {l:List Int} {d:Nat} {s:Int} (h:l[d]?=some s):l=l.take d ++ s :: l.drop (d+1):=by
  have h1:=(List.getElem?_eq_some_iff.1 h)
  obtain ⟨hl,he⟩:=h1
  rw[← he]
  simp
theorem FP.ask {g:al} {p:List Int} {a:Nat} {x:Item} (h:FP g p x) (hs:Sound g p a x) {R:aJ} (hR:g.rules[x.bb]?=some R) {s:Int} (hd:R.right[x.dot]?=some s):B2 g p (-1 - s) a:=by
  obtain ⟨R1,h1,h2⟩:=h
  obtain ⟨R2,h3,_,_,h4⟩:=hs
  rw[hR] at h1 h3; simp at h1 h3; subst h1; subst h3
  refine .step R (R.right.take x.dot) (R.right.drop (x.dot+1)) (-1 - s) x.kr a (List.mem_of_getElem? hR) ?_ h2 h4
  rw[show -1 - (-1 - s)=s by omega]
  exact Lk hd
theorem Sp.cut {g:al} {p:List Int} {k:Nat} {l:List Int} {i j:Nat} (h:Sp g p l i j):j≤k→Sp g (p.take k) l i j:=by
  induction h with
  | nil i=>exact fun _=>.nil i
  | term s l i j h0 hf h ih =>
    intro hk
    have:=h.le
    obtain ⟨c,hc,h2⟩:=hf
    exact .term s l i j h0 ⟨c,by rw[List.getElem?_take,if_pos (by omega)]; exact hc,h2⟩ (ih hk)
  | bU s l R i m j h0 hR hl h1 h2 ih1 ih2 =>
    intro hk
    have:=h2.le
    exact .bU s l R i m j h0 hR hl (ih1 (by omega)) (ih2 hk)
end Gv
set_option linter.unusedSimpArgs false
set_option maxRecDepth 100000
namespace Gv
open Go Go.Proofs
def Grow (a:Nat) (S S':Nat→List Item):Prop:=∀ b,S b <+: S' b∧(b < a→S' b=S b)
structure Good (g:al) (p:List Int) (S:Nat→List Item):Prop where
  nodup:∀ a,(S a).Nodup
  sound:∀ a x,x∈S a→Sound g p a x
  top:∀ a x,x∈S a→FP g p x
  out:∀ a,p.length < a→S a=[]
theorem Grow.refl (a:Nat) (S:Nat→List Item):Grow a S S:=fun _=>⟨List.prefix_refl _,fun _=>rfl⟩
theorem Grow.trans {a:Nat} {S S' S'':Nat→List Item} (h:Grow a S S') (h':Grow a S' S''):Grow a S S'':=fun b=>⟨(h b).1.trans (h' b).1,fun hb=>((h' b).2 hb).trans ((h b).2 hb)⟩
theorem Grow.mem {a b:Nat} {S S':Nat→List Item} (h:Grow a S S') {x:Item} (hx:x∈S b):x∈S' b:=(h b).1.subset hx
theorem Good.put {g:al} {p:List Int} {S:Nat→List Item} (h:Good g p S) {a:Nat} {x:Item} (hx:Sound g p a x) (ht:FP g p x) (ha:a≤p.length):Good g p (uS S a x):=by
  refine ⟨fun b=>?_,fun b y hy=>?_,fun b y hy=>?_,fun b hb=>?_⟩
  · unfold uS
    split
    · rename_i e
      subst e
      split
      · exact h.nodup _
      · rename_i hn
        rw[List.nodup_append]
        refine ⟨h.nodup _,by simp,fun u hu v hv=>?_⟩
        simp at hv
        rintro rfl
        exact hn (hv ▸ hu)
    · exact h.nodup _
  · unfold uS at hy
    split at hy
    · rename_i e
      subst e
      split at hy
      · exact h.sound _ _ hy
      · rcases List.mem_append.1 hy with hy | hy
        · exact h.sound _ _ hy
        · simp at hy; subst hy; exact hx
    · exact h.sound _ _ hy
  · unfold uS at hy
    split at hy
    · rename_i e
      subst e
      split at hy
      · exact h.top _ _ hy
      · rcases List.mem_append.1 hy with hy | hy
        · exact h.top _ _ hy
        · simp at hy; subst hy; exact ht
    · exact h.top _ _ hy
  · unfold uS
    rw[if_neg (by omega)]
    exact h.out b hb
theorem qD:∀ (N:Nat) (l:List Nat),l.Nodup→(∀ x∈l,x < N)→l.length≤N
  | 0,l,_,h=>by
    cases l with
    | nil=>simp
    | cons x l=>exact absurd (h x (by simp)) (by omega)
  | N+1,l,hd,h=>by
    by_cases e:N∈l
    · have h1:=qD N (l.erase N) (hd.erase N) fun x hx=>by
        have h2:=(hd.mem_erase_iff).1 hx
        have:=h x h2.2
        have:=h2.1
        omega
      rw[List.length_erase_of_mem e] at h1
      omega
    · have:=qD N l hd fun x hx=>by
        have:=h x hx
        have:x≠N:=by rintro rfl; exact e hx
        omega
      omega
theorem AE {α:Type} {f:α→Nat} : ∀ {l:List α},l.Nodup→(∀ x∈l,∀ y∈l,f x=f y→x=y)→(l.map f).Nodup
  | [],_,_=>by simp
  | x :: l,hd,h=>by
    rw[List.nodup_cons] at hd
    rw[List.map_cons,List.nodup_cons]
    refine ⟨fun hm=>?_,AE hd.2 fun a ha b hb=>h a (by simp[ha]) b (by simp[hb])⟩
    obtain ⟨y,hy,e⟩:=List.mem_map.1 hm
    have:=h y (by simp[hy]) x (by simp) e
    exact hd.1 (this ▸ hy)
theorem Sound.small {g:al} (hf:g.iJ) {p:List Int} {a:Nat} {x:Item} (h:Sound g p a x):x.bb < 40∧x.dot < 7∧x.kr≤a:=by
  obtain ⟨R,hR,hd,hfr,_⟩:=h
  have h1:=(List.getElem?_eq_some_iff.1 hR).1
  have h2:=hf.rules
  have h3:=hf.right R (List.mem_of_getElem? hR)
  omega
theorem Good.len {g:al} (hf:g.iJ) {p:List Int} (hp:p.length≤60) {S:Nat→List Item} (h:Good g p S) (a:Nat):(S a).length≤17080:=by
  by_cases ha:p.length < a
  · rw[h.out a ha]; simp
  · have hb:∀ x∈S a,x.bb < 40∧x.dot < 7∧x.kr < 61:=fun x hx=>by
      have:=(h.sound a x hx).small hf
      omega
    have:=qD 17080 ((S a).map fun x=>x.bb * 427+x.dot * 61+x.kr) (AE (h.nodup a) fun x hx y hy e=>by
      have h1:=hb x hx
      have h2:=hb y hy
      cases x; cases y
      simp only at e h1 h2
      simp only[Item.mk.injEq]
      omega) (fun v hv=>by
      obtain ⟨x,hx,rfl⟩:=List.mem_map.1 hv
      have:=hb x hx
      omega)
    simpa using this
theorem Ch.box {H:View} {c:Nat} {g:al} {p:List Int} {nu:V} {S:Nat→List Item} {B n:Nat} {K:List (Nat × bN)} (h:Ch H c g p nu S B n K) :
    ∃ sid mid,H c=.arr 8 [[.aN (g.ay.map cz),encS g.ax,.aN (g.rules.map bf),gi g.start,encI p,nu,.sl sid 0 n 1,.sl mid 0 n 1]]:=by
  obtain ⟨sid,mid,sv,mi,mm,cl,h⟩:=h
  exact ⟨sid,mid,h.box⟩
theorem Ch.set {H:View} {c:Nat} {g:al} {p:List Int} {nu:V} {S:Nat→List Item} {B n:Nat} {K:List (Nat × bN)} (h:Ch H c g p nu S B n K) {a:Nat} (ha:a < n) :
    ∃ (sid mid:Nat) (sv:Nat→V),H c=.arr 8 [[.aN (g.ay.map cz),encS g.ax,.aN (g.rules.map bf),gi g.start,encI p,nu,.sl sid 0 n 1,.sl mid 0 n 1]]∧H sid=.arr 1 ((List.range n).map fun j=>[sv j])∧aO H (sv a) 3 ((S a).map sB):=by
  obtain ⟨sid,mid,sv,mi,mm,cl,h⟩:=h
  exact ⟨sid,mid,sv,h.box,h.iK,h.set a ha⟩
def MW (g:al) (bU:Int) (S:Nat→List Item) (at_:Nat) (x:Item):Prop:=∀ R,g.rules[x.bb]?=some R→R.right[x.dot]?=some (-1 - bU)→(⟨x.bb,x.dot+1,x.kr⟩:Item)∈S at_
theorem Sound.on {g:al} {p:List Int} {f a:Nat} {x:Item} (h:Sound g p f x) {R:aJ} (hR:g.rules[x.bb]?=some R) {s:Int} (hs:R.right[x.dot]?=some s) (hsp:Sp g p [s] f a):Sound g p a ⟨x.bb,x.dot+1,x.kr⟩:=by
  obtain ⟨R',hR',h1,h2,h3⟩:=h
  rw[hR] at hR'; simp at hR'; subst hR'
  have hlt:=(List.getElem?_eq_some_iff.1 hs).1
  refine ⟨R,hR,hlt,Nat.le_trans h2 hsp.le,?_⟩
  have:R.right.take (x.dot+1)=R.right.take x.dot ++ [s]:=by rw[List.take_add_one,hs]; rfl
  rw[this]
  exact h3.app hsp
structure J6 (g:al) (p:List Int) (S:Nat→List Item) (a:Nat) (x:Item):Prop where
  term:∀ R s,g.rules[x.bb]?=some R→R.right[x.dot]?=some s→0≤s→mJ p a s→(⟨x.bb,x.dot+1,x.kr⟩:Item)∈S (a+1)
  pred:∀ R s i R',g.rules[x.bb]?=some R→R.right[x.dot]?=some s→s < 0→g.rules[i]?=some R'→R'.left = -1 - s→(⟨i,0,a⟩:Item)∈S a
  null:∀ R s,g.rules[x.bb]?=some R→R.right[x.dot]?=some s→s < 0→(aG g false).getD (-1 - s).toNat false=true→(⟨x.bb,x.dot+1,x.kr⟩:Item)∈S a
  comp:∀ R,g.rules[x.bb]?=some R→x.dot=R.right.length→x.kr < a→∀ y∈S x.kr,MW g R.left S a y
theorem J6.grow {g:al} {p:List Int} {S S':Nat→List Item} {a:Nat} {x:Item} (h:J6 g p S a x) (hg:Grow a S S'):J6 g p S' a x where
  term:=fun R s h1 h2 h3 h4=>hg.mem (h.term R s h1 h2 h3 h4)
  pred:=fun R s i R' h1 h2 h3 h4 h5=>hg.mem (h.pred R s i R' h1 h2 h3 h4 h5)
  null:=fun R s h1 h2 h3 h4=>hg.mem (h.null R s h1 h2 h3 h4)
  comp:=fun R h1 h2 h3 y hy R' h4 h5=>hg.mem (h.comp R h1 h2 h3 y (by rw[(hg x.kr).2 h3] at hy; exact hy) R' h4 h5)
end Gv
set_option linter.unusedSimpArgs false
set_option maxRecDepth 100000
namespace Gv
open Go Go.Proofs
structure sm (H:View) (c sid:Nat) (u:V) (mi:Nat→Nat) (g:al) (p:List Int) (nu:V) (n k:Nat):Prop where
  box:H c=.arr 8 [[.aN (g.ay.map cz),encS g.ax,.aN (g.rules.map bf),gi g.start,encI p,nu,.sl sid 0 n 1,u]]
  iK:H sid=.arr 1 ((List.range n).map fun _=>[.emp 1])
  seen:aO H u 1 ((List.range k).map fun j=>[.mp (mi j)])
  map:∀ j,j < k→H (mi j)=.map [] 0
  inj:∀ i j,i < k→j < k→mi i=mi j→i=j
theorem sm.Mb {H:View} {c sid:Nat} {u:V} {mi:Nat→Nat} {g:al} {p:List Int} {nu:V} {n k:Nat} (h:sm H c sid u mi g p nu n k) (hn:0 < n):owner u≠some sid:=fun e=>by
  have h1:=(h.seen.live e).1
  rw[h.iK] at h1
  simp only[bN.arr.injEq,true_and] at h1
  have h2:=congrArg (·[0]?) h1
  simp[hn] at h2
  by_cases hk:0 < k
  · simp[hk] at h2
  · have:k=0:=by omega
    subst this
    simp at h2
theorem sm.MS {H:View} {c sid:Nat} {u:V} {mi:Nat→Nat} {g:al} {p:List Int} {nu:V} {n k:Nat} (h:sm H c sid u mi g p nu n k):owner u≠some c:=fun e=>by
  have h1:=(h.seen.live e).1
  rw[h.box] at h1
  simp at h1
theorem sm.Na {H:View} {c sid:Nat} {u:V} {mi:Nat→Nat} {g:al} {p:List Int} {nu:V} {n:Nat} (h:sm H c sid u mi g p nu n n) (hn:0 < n):Ch H c g p nu (fun _=>[]) 0 n []:=by
  obtain ⟨mid,hu,hm⟩:=h.seen.sl (by simp; omega)
  have hoff:=h.Mb hn
  refine ⟨sid,mid,fun _=>.emp 1,mi,fun _=>[],fun _=>0,?_,h.iK,hm,fun j hj=>aO.nil,fun j hj=>⟨h.map j hj,?_,fun x=>⟨fun hx=>by simp at hx,fun _=>rfl⟩⟩,?_,fun i j o _ _ h1=>by simp[owner] at h1,fun i j hi hj e=>h.inj i j hi hj e,fun q hq=>by simp at hq⟩
  · have:=h.box
    rw[hu] at this
    simpa using this
  · exact ⟨by simp,fun x hx=>by simp at hx⟩
  · rintro rfl
    rw[hu] at hoff
    exact hoff rfl
theorem sm.next {H H2:View} {c sid m:Nat} {u u':V} {mi:Nat→Nat} {g:al} {p:List Int} {nu:V} {n k:Nat} (h:sm H c sid u mi g p nu n k) (hn:0 < n) (hm:H m=.dead) (ho:aO H2 u' 1 (((List.range k).map fun j=>[.mp (mi j)]) ++ [[.mp m]])) (hm2:H2 m=.map [] 0)
    (hl:∀ id,H id≠.dead→owner u≠some id→H2 id=H id∧owner u'≠some id) :
    sm (H2.set c (.arr 8 [[.aN (g.ay.map cz),encS g.ax,.aN (g.rules.map bf),gi g.start,encI p,nu,.sl sid 0 n 1,u']])) c sid u' (fun j=>if j=k then m else mi j) g p nu n (k+1):=by
  have hC:=hl c (by rw[h.box]; simp) h.MS
  have hS:=hl sid (by rw[h.iK]; simp) (h.Mb hn)
  have hcs:sid≠c:=by rintro rfl; have:=h.box; rw[h.iK] at this; simp at this
  have hmn:∀ j,j < k→mi j≠m:=fun j hj e=>by have:=h.map j hj; rw[e,hm] at this; simp at this
  refine ⟨by simp[View.set],?_,?_,fun j hj=>?_,fun i j hi hj e=>?_⟩
  · simp only[View.set,if_neg hcs]
    rw[hS.1]; exact h.iK
  · refine aO.other ?_ hC.2
    have:(List.range (k+1)).map (fun j=>[V.mp (if j=k then m else mi j)])=(List.range k).map (fun j=>[V.mp (mi j)]) ++ [[.mp m]]:=by
      rw[List.range_succ,List.map_append,List.map_cons,List.map_nil,if_pos rfl]
      congr 1
      apply List.map_congr_left
      intro j hj
      rw[if_neg (by have:=List.mem_range.1 hj; omega)]
    rw[this]; exact ho
  · by_cases e:j=k
    · simp only[if_pos e]
      have:m≠c:=by rintro rfl; rw[h.box] at hm; simp at hm
      simp only[View.set,if_neg this]
      exact hm2
    · simp only[if_neg e]
      have h1:=h.map j (by omega)
      have:mi j≠c:=by intro e2; rw[e2,h.box] at h1; simp at h1
      simp only[View.set,if_neg this]
      rw[(hl (mi j) (by rw[h1]; simp) (fun e2=>by have:=(h.seen.live e2).1; rw[h1] at this; simp at this)).1]
      exact h1
  · by_cases e1:i=k
    · by_cases e2:j=k
      · omega
      · simp only[if_pos e1,if_neg e2] at e
        exact absurd e.symm (hmn j (by omega))
    · by_cases e2:j=k
      · simp only[if_neg e1,if_pos e2] at e
        exact absurd e (hmn i (by omega))
      · simp only[if_neg e1,if_neg e2] at e
        exact h.inj i j (by omega) (by omega) e
end Gv
set_option linter.unusedSimpArgs false
set_option maxRecDepth 100000
namespace Gv
open Go Go.Proofs
def Kept (H H':View):Prop:=∀ id,H id≠.dead→H' id=H id
theorem Kept.refl (H:View):Kept H H:=fun _ _=>rfl
theorem Kept.trans {H H' H'':View} (h:Kept H H') (h':Kept H' H''):Kept H H'':=fun id hid=>by
  have h1:=h id hid
  rw[← h1] at hid
  rw[h' id hid,h1]
theorem Kept.new {H:View} {b:Nat} {o:bN} (hb:H b=.dead):Kept H (H.set b o):=fun id hid=>by
  have:id≠b:=by rintro rfl; exact hid hb
  simp[View.set,this]
def JM (H:View) (c:Nat) (g:al) (p:List Int):Prop:=∃ nu sid mid n,H c=.arr 8 [[.aN (g.ay.map cz),encS g.ax,.aN (g.rules.map bf),gi g.start,encI p,nu,.sl sid 0 n 1,.sl mid 0 n 1]]
theorem JM.keep {H H':View} {c:Nat} {g:al} {p:List Int} (h:JM H c g p) (hs:Kept H H'):JM H' c g p:=by
  obtain ⟨nu,sid,mid,n,h⟩:=h
  exact ⟨nu,sid,mid,n,by rw[hs c (by rw[h]; simp)]; exact h⟩
end Gv
set_option linter.unusedSimpArgs false
set_option maxRecDepth 100000
namespace Gv
open Go Go.Proofs
end Gv
set_option linter.unusedSimpArgs false
set_option maxRecDepth 100000
namespace Gv
open Go Go.Proofs
abbrev Pt:=List (List Bool)
def Bv (P:Pt) (N M:Nat):Prop:=P.length=N∧∀ r∈P,r.length=M
def Mp (P:Pt):V:=.aN (P.map fun c=>[bR c])
theorem Bv.row {P:Pt} {N M n:Nat} (h:Bv P N M) (hn:n < N):∃ r,P[n]?=some r∧r.length=M∧P.getD n []=r:=by
  have hl:n < P.length:=by rw[h.1]; exact hn
  exact ⟨P[n],List.getElem?_eq_getElem hl,h.2 _ (List.getElem_mem hl),by simp[List.getD_eq_getElem?_getD,hl]⟩
end Gv
set_option linter.unusedSimpArgs false
set_option maxRecDepth 100000
namespace Gv
open Go Go.Proofs
structure lh (H:View) (I N M:Nat) (R:Nat→Nat) (P:Pt):Prop where
  top:H I=.arr 1 ((List.range N).map fun n=>[.sl (R n) 0 M 1])
  row:∀ n,n < N→H (R n)=.arr 1 (db (P.getD n []))
  inj:∀ n n',n < N→n' < N→R n=R n'→n=n'
structure Cj (H:View) (I N M k:Nat) (R:Nat→Nat):Prop where
  top:H I=.arr 1 ((List.range N).map fun n=>[if n < k then .sl (R n) 0 M 1 else .emp 1])
  row:∀ n,n < k→H (R n)=.arr 1 (List.replicate M [gb false])
  inj:∀ n n',n < k→n' < k→R n=R n'→n=n'
def Mf (N M:Nat):Pt:=List.replicate N (List.replicate M false)
def Fx (P:Pt) (n i:Nat):Pt:=P.set n ((P.getD n []).set i true)
theorem lh.MZ {H:View} {I N M:Nat} {R:Nat→Nat} {P:Pt} (h:lh H I N M R P) (hP:Bv P N M) (hM:0 < M) {n:Nat} (hn:n < N):I≠R n:=fun e=>by
  have h1:=h.row n hn
  obtain ⟨r,_,h2,h3⟩:=hP.row hn
  rw[← e,h.top,h3] at h1
  simp only[bN.arr.injEq,true_and] at h1
  exact wM (by omega) h1.symm fun _ _=>by simp
theorem lh.keep {H H':View} {I N M:Nat} {R:Nat→Nat} {P:Pt} (h:lh H I N M R P) (hk:∀ id,H id≠.dead→H' id=H id):lh H' I N M R P :=
  ⟨by rw[hk _ (by rw[h.top]; simp)]; exact h.top,fun n hn=>by rw[hk _ (by rw[h.row n hn]; simp)]; exact h.row n hn,h.inj⟩
theorem lh.put {H:View} {I N M:Nat} {R:Nat→Nat} {P:Pt} (h:lh H I N M R P) (hP:Bv P N M) {n i:Nat} (hn:n < N) (hi:i < M) :
    lh (H.set (R n) (.arr 1 (db ((P.getD n []).set i true)))) I N M R (Fx P n i):=by
  have hI:=h.MZ hP (by omega) hn
  have hnl:n < P.length:=by rw[hP.1]; exact hn
  refine ⟨by simp only[View.set,if_neg hI]; exact h.top,fun m hm=>?_,h.inj⟩
  by_cases e:R m=R n
  · have:=h.inj m n hm hn e
    subst this
    simp only[View.set,if_true]
    congr 2
    simp[Fx,List.getD_eq_getElem?_getD,hnl]
  · simp only[View.set,if_neg e]
    rw[h.row m hm]
    congr 2
    have:n≠m:=fun e2=>e (by rw[e2])
    simp[Fx,List.getD_eq_getElem?_getD,List.getElem?_set,this]
theorem lh.yY {H:View} {I N M:Nat} {R:Nat→Nat} {P:Pt} (hG:lh H I N M R P) (hP:Bv P N M):dt H (.sl I 0 N 1) (Mp P):=by
  rintro h rfl
  refine cX.wC ?_
  refine .sl I 0 N 1 1 _ _ hG.top (by simp) (by simp[hP.1]) (fun n hn=>?_) (fun n j hn hj=>?_)
  · obtain ⟨r,hr,_⟩:=hP.row hn
    simp[List.getD_eq_getElem?_getD,hr,hn]
  · obtain ⟨r,hr,hrl,hrg⟩:=hP.row hn
    have e1:((P.map fun c=>[bR c]).getD n [])=[bR r]:=by simp[List.getD_eq_getElem?_getD,hr]
    have e2:(((List.range N).map fun n=>[V.sl (R n) 0 M 1]).getD (0+n) [])=[V.sl (R n) 0 M 1]:=by simp[List.getD_eq_getElem?_getD,hn]
    rw[e1] at hj ⊢
    rw[e2]
    have:j=0:=by simp at hj; omega
    subst this
    simp only[List.getD_cons_zero]
    have hro:=hG.row n hn
    rw[hrg] at hro
    have:=mY (h:=h) (id:=R n) (is:=r) hro
    rwa [hrl] at this
theorem Cj.done {H:View} {I N M:Nat} {R:Nat→Nat} (h:Cj H I N M N R):lh H I N M R (Mf N M):=by
  refine ⟨?_,fun n hn=>?_,h.inj⟩
  · rw[h.top]
    congr 1
    apply List.map_congr_left
    intro n hn
    rw[if_pos (by simpa using hn)]
  · rw[h.row n hn]
    simp[Mf,List.getD_eq_getElem?_getD,hn]
theorem Cj.next {H:View} {I N M k:Nat} {R:Nat→Nat} {r:Nat} (h:Cj H I N M k R) (hk:k < N) (hr:H r=.dead) :
    Cj ((H.set r (.arr 1 (List.replicate M [gb false]))).set I (.arr 1 ((List.range N).map fun n=>[if n < k+1 then .sl (if n=k then r else R n) 0 M 1 else .emp 1]))) I N M (k+1) (fun n=>if n=k then r else R n):=by
  have hI:r≠I:=by rintro rfl; rw[h.top] at hr; simp at hr
  have hRI:∀ n,n < k→R n≠I:=fun n hn e=>by
    have h1:=h.row n hn
    rw[e,h.top] at h1
    simp only[bN.arr.injEq,true_and] at h1
    have h2:=congrArg (·[0]?) h1
    simp only[List.getElem?_map,List.getElem?_range (show 0 < N by omega),List.getElem?_replicate] at h2
    split at h2 <;> simp at h2
    split at h2 <;> simp at h2
  have hRr:∀ n,n < k→R n≠r:=fun n hn e=>by have:=h.row n hn; rw[e,hr] at this; simp at this
  refine ⟨by simp[View.set],fun n hn=>?_,fun n n' hn hn' e=>?_⟩
  · by_cases e:n=k
    · simp only[if_pos e,View.set,if_neg hI,if_true]
    · simp only[if_neg e,View.set,if_neg (hRI n (by omega)),if_neg (hRr n (by omega))]
      exact h.row n (by omega)
  · by_cases e1:n=k
    · by_cases e2:n'=k
      · omega
      · simp only[if_pos e1,if_neg e2] at e
        exact absurd e.symm (hRr n' (by omega))
    · by_cases e2:n'=k
      · simp only[if_neg e1,if_pos e2] at e
        exact absurd e (hRr n (by omega))
      · simp only[if_neg e1,if_neg e2] at e
        exact h.inj n n' (by omega) (by omega) e
end Gv
set_option linter.unusedSimpArgs false
set_option maxRecDepth 100000
namespace Gv
open Go Go.Proofs
end Gv
set_option linter.unusedSimpArgs false
set_option maxRecDepth 100000
namespace Gv
open Go Go.Proofs
def KD:List Int:=[37,37,32,115,32,58,32,39,97,39,32,115,32,124,32,59]
def od:al:=⟨[⟨⟨#[39,97,39]⟩,0,0⟩],[⟨#[115]⟩],[⟨0,[0,(-1)],0⟩,⟨0,[],(-1)⟩],0⟩
def Ky:al:=⟨[⟨⟨#[39,97,39]⟩,0,0⟩,⟨⟨#[39,98,39]⟩,0,0⟩],[⟨#[115]⟩,⟨#[110]⟩],[⟨0,[(-1),(-1)],(-1)⟩,⟨0,[(-2),0,(-2),1],1⟩,⟨0,[],(-1)⟩,⟨1,[(-2)],(-1)⟩,⟨1,[],(-1)⟩],0⟩
theorem Mz:cr Tryz.prog 41 [wv KD] (oq od):=DZ (by kernel_rfl)
end Gv
set_option linter.unusedSimpArgs false
set_option maxRecDepth 100000
namespace Gv
open Go Go.Proofs
section
variable {g:al} {p:List Int} {T:Tb} {N:Nat}
end
theorem n6 (p:List Int) (i:Nat):Sp Ky p [-2] i i:=.bU (-2) [] ⟨1,[],-1⟩ i i i (by decide) (by simp[Ky]) (by decide) (.nil i) (.nil i)
end Gv
set_option linter.unusedSimpArgs false
set_option maxRecDepth 100000
namespace Gv
open Go Go.Proofs
end Gv
set_option linter.unusedSimpArgs false
set_option maxRecDepth 100000
namespace Gv
open Go Go.Proofs
end Gv
set_option linter.unusedSimpArgs false
namespace Gv
open Go Go.Proofs
theorem KF {g:al} (hr:bk g=true) {p l:List Int} {i j:Nat} (h:Sp g p l i j):ep l (aG g true) true=true:=by
  induction h with
  | nil=>rfl
  | term s l i j h0 _ _ ih =>
    simp only[ep,List.all_cons,Bool.and_eq_true] at ih ⊢
    rw[if_pos h0]
    exact ⟨rfl,ih⟩
  | bU s l R i k j h0 hR hl _ _ ih1 ih2 =>
    have g1:=oS hr hR ih1
    rw[hl] at g1
    simp only[ep,List.all_cons,Bool.and_eq_true] at ih2 ⊢
    rw[if_neg (by omega)]
    exact ⟨g1,ih2⟩
section
variable {g r:al} {p q:List Bool} {o:List Int}
theorem dy.sp (h:dy g p q o r) {w l:List Int} {i j:Nat} (hs:Sp g w l i j):(∀ s∈l,s < 0→-1 - s∈o)→Sp r w (l.map fun s=>if s < 0 then -1 - bJ o (-1 - s) else s) i j:=by
  induction hs with
  | nil=>exact fun _=>.nil _
  | term s l i j h0 hf _ ih =>
    intro hl
    rw[List.map_cons,if_neg (by omega)]
    exact .term s _ i j h0 hf (ih fun s hs=>hl s (by simp[hs]))
  | bU s l R i k j h0 hR hle h1 _ ih1 ih2 =>
    intro hl
    have hso:=hl s (by simp) h0
    obtain ⟨R1,hR1,hk1,e1⟩:=h.from_ _ hso
    have hk:bH p q R=true:=by
      rw[bH,Bool.and_eq_true] at hk1 ⊢
      refine ⟨by rw[hle,← e1]; exact hk1.1,?_⟩
      rw[h.pe]
      exact KF h.right h1
    have hin:=(h.kept R hR hk).2
    have hm:bz (bJ o) R∈r.rules:=by rw[h.rules]; exact List.mem_map.2 ⟨R,List.mem_filter.2 ⟨hR,hk⟩,rfl⟩
    have hb:=iV hso
    rw[List.map_cons,if_pos h0]
    exact .bU _ _ (bz (bJ o) R) i k j (by omega) hm (by simp only[bz]; rw[hle]; omega) (ih1 hin) (ih2 fun s hs=>hl s (by simp[hs]))
end
theorem HP {g:al} {p:List Int} {k:Nat} (hk:k≤p.length) {l:List Int} {i j:Nat} (h:Sp g p l i j):i≤k→k≤j →
    (∃ l1 l2,l=l1 ++ l2∧Sp g (p.take k) l1 i k)∨(∃ l1 s l2 a,l=l1 ++ s :: l2∧s < 0∧Sp g (p.take k) l1 i a∧a < k∧Ba g (p.take k) (-1 - s) a):=by
  induction h with
  | nil i =>
    intro h1 h2
    have:i=k:=by omega
    subst this
    exact .inl ⟨[],[],rfl,.nil _⟩
  | term s l i j h0 hf hs ih =>
    intro h1 h2
    by_cases e:i=k
    · subst e; exact .inl ⟨[],s :: l,rfl,.nil _⟩
    · have hf':mJ (p.take k) i s:=by
        obtain ⟨c,hc,h3⟩:=hf
        exact ⟨c,by rw[List.getElem?_take,if_pos (by omega)]; exact hc,h3⟩
      rcases ih (by omega) h2 with ⟨l1,l2,e2,h3⟩ | ⟨l1,s',l2,a,e2,h3,h4,h5,h6⟩
      · exact .inl ⟨s :: l1,l2,by rw[e2]; rfl,.term s l1 i k h0 hf' h3⟩
      · exact .inr ⟨s :: l1,s',l2,a,by rw[e2]; rfl,h3,.term s l1 i a h0 hf' h4,h5,h6⟩
  | bU s l R i m j h0 hR hl hs1 hs2 ih1 ih2 =>
    intro h1 h2
    by_cases e:i=k
    · subst e; exact .inl ⟨[],s :: l,rfl,.nil _⟩
    · by_cases hm:m≤k
      · have c1:=hs1.cut (k:=k) hm
        rcases ih2 hm h2 with ⟨l1,l2,e2,h3⟩ | ⟨l1,s',l2,a,e2,h3,h4,h5,h6⟩
        · exact .inl ⟨s :: l1,l2,by rw[e2]; rfl,.bU s l1 R i m k h0 hR hl c1 h3⟩
        · exact .inr ⟨s :: l1,s',l2,a,by rw[e2]; rfl,h3,.bU s l1 R i m a h0 hR hl c1 h4,h5,h6⟩
      · have hlen:(p.take k).length=k:=by simp; omega
        refine .inr ⟨[],s,l,i,rfl,h0,.nil _,by omega,?_⟩
        rw[← hl]
        rcases ih1 h1 (by omega) with ⟨l1,l2,e2,h3⟩ | ⟨l1,s',l2,a,e2,h3,h4,h5,h6⟩
        · exact .full R l1 l2 i hR e2 (by rw[hlen]; exact h3)
        · exact .deep R l1 l2 s' i a hR e2 h3 h4 (by rw[hlen]; exact h5) h6
theorem Ba.cut {g:al} {p:List Int} {k:Nat} (hk:k≤p.length) {n:Int} {f:Nat} (h:Ba g p n f):f≤k→Ba g (p.take k) n f:=by
  have hlen:(p.take k).length=k:=by simp; omega
  induction h with
  | full R l1 l2 f hR e hs =>
    intro hf
    rcases HP hk hs hf hk with ⟨a1,a2,e2,h3⟩ | ⟨a1,s',a2,a,e2,h3,h4,h5,h6⟩
    · exact .full R a1 (a2 ++ l2) f hR (by rw[e,e2]; simp) (by rw[hlen]; exact h3)
    · exact .deep R a1 (a2 ++ l2) s' f a hR (by rw[e,e2]; simp) h3 h4 (by rw[hlen]; exact h5) h6
  | deep R l1 l2 s f a hR e h0 h1 h2 _ ih =>
    intro hf
    by_cases ha:a < k
    · exact .deep R l1 l2 s f a hR e h0 (h1.cut (by omega)) (by rw[hlen]; exact ha) (ih (by omega))
    · rcases HP hk h1 hf (by omega) with ⟨a1,a2,e2,h3⟩ | ⟨a1,s',a2,b,e2,h3,h4,h5,h6⟩
      · exact .full R a1 (a2 ++ s :: l2) f hR (by rw[e,e2]; simp) (by rw[hlen]; exact h3)
      · exact .deep R a1 (a2 ++ s :: l2) s' f b hR (by rw[e,e2]; simp) h3 h4 (by rw[hlen]; exact h5) h6
theorem Sp.wide {g:al} {p p':List Int} (hp:∀ i s,mJ p i s→mJ p' i s) {l:List Int} {i j:Nat} (h:Sp g p l i j):Sp g p' l i j:=by
  induction h with
  | nil i=>exact .nil i
  | term s l i j h0 hf _ ih=>exact .term s l i j h0 (hp _ _ hf) ih
  | bU s l R i k j h0 hR hl _ _ ih1 ih2=>exact .bU s l R i k j h0 hR hl ih1 ih2
end Gv
set_option linter.unusedSimpArgs false
namespace Gv
open Go
section
variable {fit:List Int→Bool} {T b:Nat}
end
end Gv
set_option linter.unusedSimpArgs false
set_option maxRecDepth 100000
namespace Gv
open Go Go.Proofs
def bQ (l:List (List Int)):V:=.aN (l.map fun w=>[encI w])
theorem x6 (l:List (List Int)):Tree (bQ l):=eM _ _ fun x _ v hv=>by
  simp at hv; subst hv; exact du x
abbrev KE:=List (V × List Int)
def l6 (b:KE):List (List V):=b.map fun x=>[x.1]
def jA (H:View) (u:V) (out:List (List Int)):Prop:=∃ b:KE,b.map (·.2)=out∧aO H u 1 (l6 b)∧∀ x∈b,aO H x.1 1 (bY x.2)
theorem jA.nil {H:View} {k:Nat} : jA H (.emp k) []:=⟨[],rfl,.nil,by simp⟩
theorem jA.len {H:View} {u:V} {out:List (List Int)} (h:jA H u out):dB u=some out.length:=by
  obtain ⟨b,rfl,ho,_⟩:=h
  rw[ho.len]; simp[l6]
theorem jA.cells {H:View} {u:V} {out:List (List Int)} (h:jA H u out):V.cells u=[u]∧aM u=true:=by
  obtain ⟨b,_,ho,_⟩:=h
  exact ⟨ho.cells,ho.oQ⟩
theorem Li {H:View} {u:V} {b:KE} (ho:aO H u 1 (l6 b)) (hb:∀ x∈b,aO H x.1 1 (bY x.2)) {x:V × List Int} (hx:x∈b) {id:Nat} (hid:owner x.1=some id):owner u≠some id:=by
  intro e
  have h1:=(ho.live e).1
  have h2:=((hb x hx).live hid).1
  rw[h2] at h1
  simp only[bN.arr.injEq,true_and] at h1
  cases b with
  | nil=>simp at hx
  | cons y r =>
    have h3:=hb y (by simp)
    cases hw:x.2 with
    | nil=>rw[hw] at h1; simp[l6] at h1
    | cons c w =>
      rw[hw] at h1
      simp only[l6,List.map_cons,List.cons.injEq] at h1
      rcases h3 with ⟨_,k,e2⟩ | ⟨n,e2,_⟩
      · rw[e2] at h1; simp at h1
      · rw[e2] at h1; simp at h1
theorem jA.keep {H H':View} {u:V} {out:List (List Int)} (h:jA H u out) (hk:∀ id,H id≠.dead→H' id=H id):jA H' u out:=by
  obtain ⟨b,e,ho,hb⟩:=h
  exact ⟨b,e,ho.keep fun id hid=>hk id (by rw[(ho.live hid).1]; simp),fun x hx=>(hb x hx).keep fun id hid=>hk id (by rw[((hb x hx).live hid).1]; simp)⟩
theorem jA.add {H H':View} {u u' v:V} {b:KE} {w:List Int} (ho:aO H u 1 (l6 b)) (hb:∀ x∈b,aO H x.1 1 (bY x.2)) (hv:aO H v 1 (bY w)) (hd:∀ id,owner v=some id→owner u≠some id)
    (h1:aO H' u' 1 (l6 b ++ [[v]])) (h2:Left H H' u u'):jA H' u' (b.map (·.2) ++ [w]):=by
  refine ⟨b ++ [(v,w)],by simp,by simpa [l6] using h1,fun x hx=>?_⟩
  rcases List.mem_append.1 hx with hx | hx
  · exact (hb x hx).left h2 fun id hid=>Li ho hb hx hid
  · simp at hx; subst hx
    exact hv.left h2 hd
theorem jA.MF {h:aC} {u:V} {out:List (List Int)} (ho:jA h.view u out):cX h u (bQ out):=by
  obtain ⟨b,rfl,ho,hb⟩:=ho
  have hg:∀ i (hi:i < b.length),(l6 b).getD i []=[(b[i]).1]∧(((b.map (·.2)).map fun w=>[encI w]).getD i [])=[encI (b[i]).2]:=fun i hi=>by
    simp[l6,List.getD_eq_getElem?_getD,hi]
  refine cX.own ho (by simp[l6]) (fun i hi=>?_) (fun i j hi hj=>?_)
  · have hi':i < b.length:=by simpa [l6] using hi
    rw[(hg i hi').1,(hg i hi').2]; rfl
  · have hi':i < b.length:=by simpa [l6] using hi
    rw[(hg i hi').2] at hj ⊢
    rw[(hg i hi').1]
    have:j=0:=by simp at hj; omega
    subst this
    simp only[List.getD_cons_zero]
    exact cX.IU (hb _ (List.getElem_mem hi'))
def Fh (H:View) (v:V) (p:List Int):Prop:=v=encI p∨(p≠[]∧∃ n,v=.sl n 0 p.length 1∧H n=.arr 1 (bY p))
theorem Fh.yY {H:View} {v:V} {p:List Int} (h:Fh H v p):dt H v (encI p):=by
  rcases h with rfl | ⟨_,n,rfl,hn⟩
  · exact .tree (du p)
  · exact xQ hn rfl
theorem Fh.len {H:View} {v:V} {p:List Int} (h:Fh H v p):dB v=some p.length:=by
  rcases h with rfl | ⟨_,n,rfl,hn⟩
  · simp[encI,dB]
  · rfl
def pY (H H':View) (f:Nat) (u u':V):Prop:=∀ id,H id≠.dead→id≠f→owner u≠some id→H' id=H id∧owner u'≠some id
theorem pY.refl {H:View} {f:Nat} {u:V} : pY H H f u u:=fun _ _ _ h=>⟨rfl,h⟩
theorem pY.trans {H H1 H2:View} {f:Nat} {u u1 u2:V} (h1:pY H H1 f u u1) (h2:pY H1 H2 f u1 u2):pY H H2 f u u2:=fun id hd hf hu=>by
  obtain ⟨a,b⟩:=h1 id hd hf hu
  obtain ⟨c,d⟩:=h2 id (by rw[a]; exact hd) hf b
  exact ⟨c.trans a,d⟩
theorem pY.kept {H H':View} {f:Nat} {u:V} (h:∀ id,H id≠.dead→H' id=H id):pY H H' f u u:=fun id hd _ hu=>⟨h id hd,hu⟩
theorem EG {H:View} {u:V} {sz f z:Nat} {es:List (List V)} {e:List (List V)} (ho:aO H u sz es) (hf:H f=.arr z e) (hz:sz≠z):owner u≠some f:=fun e2=>by
  have:=(ho.live e2).1
  rw[hf] at this
  simp only[bN.arr.injEq] at this
  exact hz this.1.symm
theorem jA.box {H:View} {u:V} {out:List (List Int)} {f:Nat} {e:List (List V)} {o:bN} (h:jA H u out) (hf:H f=.arr 6 e):jA (H.set f o) u out:=by
  obtain ⟨b,e1,ho,hb⟩:=h
  exact ⟨b,e1,ho.other (EG ho hf (by decide)),fun x hx=>(hb x hx).other (EG (hb x hx) hf (by decide))⟩
end Gv
set_option linter.unusedSimpArgs false
set_option maxRecDepth 100000
namespace Gv
open Go Go.Proofs
def ky:SC :=
  .seq (.seq (ak [aa 21 7,aa 22 1,aa 23 6,bo 24 1 22 23,aq 25 24,aQ 26 25,aS 27 .lss 21 26]) <|
  .cond (.tmp 27) (.skip) (.exit 2)) <|
  .seq (.block 3 (.seq (.region false [⟨none,[aa 30 1,aa 31 6,bo 32 1 30 31,aq 33 32,aa 34 7,bo 35 1 33 34,aq 36 35,aA 37 .geq 36 0,aa 38 37]⟩,⟨(some (38,true)),[aa 39 1,aa 40 6,bo 41 1 39 40,aq 42 41,aa 43 7,bo 44 1 42 43,aq 45 44,aa 46 5,aQ 47 46,aS 48 .lss 45 47]⟩,⟨none,[bI 49 38 48]⟩]) <|
  .cond (.tmp 49) (ak [aa 50 5,aa 51 1,aa 52 6,bo 53 1 51 52,aq 54 53,aa 55 7,bo 56 1 54 55,aq 57 56,bo 58 1 50 57,(none,.op (.store 1 (.tmp 58) (.val (.val (.bool true)))))]) (.skip))) <|
  ak [aa 28 7,aA 29 .add 28 1,aa 7 29]
def lf:SC :=
  .seq (.seq (ak [aa 15 6,aa 16 1,aQ 17 16,aS 18 .lss 15 17]) <|
  .cond (.tmp 18) (.skip) (.exit 0)) <|
  .seq (.block 1 (.seq (ak [aI 7 0]) <|
  .block 2 (.loop ky))) <|
  ak [aa 19 6,aA 20 .add 19 1,aa 6 20]
def nk:SF:=⟨.seq (ak [c8 2 0,((some 4),.op (.bd (.val (.emp 1))))]) <|
  .seq (.seq (ak [aZ 8 4 2,aK 9 48 [8],cn 10 9]) <|
  .cond (.tmp 10) (.seq (ak [((some 4),.op (.bd (.val (.emp 1))))]) <|
  .ret) (.skip)) <|
  .seq (ak [ao 11 2 2,aq 12 11,aQ 13 12,((some 14),.op (.make 1 1 [(.val (.bool false))] (.tmp 13) (.tmp 13))),aa 5 14]) <|
  .seq (.seq (ak [aI 6 0]) <|
  .block 0 (.loop lf)) <|
  .seq (ak [aa 59 5,aa 4 59]) <|
  .ret,
  [.tmp 4],60⟩
theorem ry:aV Tryz.prog 37 [2]=some nk:=by kernel_rfl
def qL:SC :=
  .seq (ak [aS 26 .lss 25 24]) <|
  .seq (.cond (.tmp 26) (.skip) (.exit 2)) <|
  .seq (.block 3 (.seq (ak [bo 27 1 23 25,aq 28 27,aa 9 28]) <|
  .seq (.region false [⟨none,[aa 29 9,aA 30 .geq 29 0,aa 31 30]⟩,⟨(some (31,true)),[aa 32 9,aa 33 5,aQ 34 33,aS 35 .lss 32 34]⟩,⟨none,[bI 36 31 35]⟩]) <|
  .cond (.tmp 36) (ak [aa 37 5,aa 38 9,bo 39 1 37 38,(none,.op (.store 1 (.tmp 39) (.val (.val (.bool true)))))]) (.skip))) <|
  ak [aA 40 .add 25 1,aa 25 40]
def rh:SC :=
  .seq (ak [aS 20 .lss 19 18]) <|
  .seq (.cond (.tmp 20) (.skip) (.exit 0)) <|
  .seq (.block 1 (.seq (ak [bo 21 1 17 19,aq 22 21,aa 7 22]) <|
  .seq (ak [aa 23 7,aQ 24 23,aI 25 0]) <|
  .block 2 (.loop qL))) <|
  ak [aA 41 .add 19 1,aa 19 41]
def ub:SF:=⟨.seq (ak [c8 2 0,((some 4),.op (.bd (.val (.emp 1))))]) <|
  .seq (.seq (ak [aZ 10 4 2,aK 11 45 [10],cn 12 11]) <|
  .cond (.tmp 12) (.seq (ak [((some 4),.op (.bd (.val (.emp 1))))]) <|
  .ret) (.skip)) <|
  .seq (ak [ao 13 2 2,aq 14 13,aQ 15 14,((some 16),.op (.make 1 1 [(.val (.bool false))] (.tmp 15) (.tmp 15))),aa 5 16]) <|
  .seq (.seq (ak [aa 17 1,aQ 18 17,aI 19 0]) <|
  .block 0 (.loop rh)) <|
  .seq (ak [aa 42 5,aa 4 42]) <|
  .ret,
  [.tmp 4],43⟩
theorem xk:aV Tryz.prog 36 [2]=some ub:=by kernel_rfl
def gJ (o:List Bool) (x:Int):List Bool:=if 0≤x∧x < o.length then o.set x.toNat true else o
def kN (o:List Bool) (t:List Int):List Bool:=t.foldl gJ o
theorem Jt (o:List Bool) (x:Int):(gJ o x).length=o.length:=by unfold gJ; split <;> simp
theorem po:∀ (t:List Int) (o:List Bool),(kN o t).length=o.length:=by
  intro t
  induction t with
  | nil=>intro o; rfl
  | cons x t ih=>intro o; exact (ih (gJ o x)).trans (Jt o x)
theorem JJ (o:List Bool) (x:Int) (i:Nat):(gJ o x)[i]?=(o[i]?).map fun b=>b || decide ((i:Int)=x):=by
  unfold gJ
  split
  · rename_i h
    rw[List.getElem?_set]
    split
    · rename_i hi
      rw[if_pos (by omega)]
      have:o[i]?=some (o[i]'(by omega)):=List.getElem?_eq_getElem (by omega)
      rw[this]
      simp; omega
    · rename_i hi
      cases o[i]? with
      | none=>rfl
      | some b=>simp; omega
  · rename_i h
    by_cases hi:i < o.length
    · rw[List.getElem?_eq_getElem hi]
      simp; omega
    · rw[List.getElem?_eq_none (by omega)]; rfl
theorem GK:∀ (t:List Int) (o:List Bool) (i:Nat),(kN o t)[i]?=(o[i]?).map fun b=>b || decide ((i:Int)∈t):=by
  intro t
  induction t with
  | nil=>intro o i; simp[kN]
  | cons x t ih =>
    intro o i
    have h:=ih (gJ o x) i
    rw[JJ] at h
    refine Eq.trans h ?_
    cases o[i]? with
    | none=>rfl
    | some b=>simp[Bool.or_assoc]
theorem Dr:∀ (l:List (List Int)) (o:List Bool) (i:Nat),(l.foldl kN o)[i]?=(o[i]?).map fun b=>b || l.any fun t=>decide ((i:Int)∈t):=by
  intro l
  induction l with
  | nil=>intro o i; simp
  | cons t l ih =>
    intro o i
    rw[List.foldl_cons,ih,GK]
    cases o[i]? with
    | none=>rfl
    | some b=>simp[Bool.or_assoc]
theorem AI (g:al) (l:List (List Int)) (h:bk g=true):l.foldl kN (List.replicate g.rules.length false)=k6 g l:=by
  rw[k6,if_pos h]
  refine List.ext_getElem? fun i=>?_
  rw[Dr,List.getElem?_map]
  by_cases hi:i < g.rules.length
  · rw[List.getElem?_eq_getElem (by simpa using hi),List.getElem?_eq_getElem (by simpa using hi)]
    simp
  · rw[List.getElem?_eq_none (by simp; omega),List.getElem?_eq_none (by simp; omega)]; rfl
theorem ze (g:al) (l:List (List Int)):∀ v∈[V.agg (av g),bQ l],Tree v:=by
  intro v hv; simp at hv
  rcases hv with rfl | rfl
  · exact dp _ (dD g)
  · exact x6 l
set_option maxHeartbeats 4000000 in
theorem I4 (g:al) (hg:g.Ok) (l:List (List Int)) (hl:aH l) (hs:∀ w∈l,aH w):cr Tryz.prog 37 [.agg (av g),bQ l] (bR (k6 g l)):=by
  refine cr.of (ze g l) ?_
  have hc:=FW g hg
  unfold aH at hl
  refine aB.of mixed ry ?_
  simp only[av,encS] at hc
  simp (disch:=omega) only [↓wr,↓reduceIte,wq,ah,ag,aj,ab,ae,af,ai,isNil,Nat.reduceEqDiff,Nat.reduceAdd,Nat.reduceLT,Nat.reduceLeDiff,Int.reduceNeg,Int.reduceToNat,reduceCtorEq,nk,av,encS]
  refine aF.pure hc (by kernel_rfl) ?_
  simp (disch:=omega) only [↓wr,↓reduceIte,wq,ah,ag,aj,ab,ae,af,ai,isNil,Nat.reduceEqDiff,Nat.reduceAdd,Nat.reduceLT,Nat.reduceLeDiff,Int.reduceNeg,Int.reduceToNat,reduceCtorEq]
  refine an.split (fun hr=>?_) (fun hr=>?_)
  · have hf:=bc hr
    obtain ⟨hR1,hR2⟩:=And.intro hf.CU hf.rules
    simp (disch:=omega) only [↓wr,↓reduceIte,wq,ah,ag,aj,ab,ae,af,ai,isNil,Nat.reduceEqDiff,Nat.reduceAdd,Nat.reduceLT,Nat.reduceLeDiff,Int.reduceNeg,Int.reduceToNat,reduceCtorEq,av,encS]
    refine ⟨⟨by omega,by unfold aL; omega,by unfold aL; omega⟩,fun hz=>by omega,fun _ m=>?_⟩
    refine bw.up l.length (fun i T H'=>∃ is:List Bool,(l.take i).foldl kN (List.replicate g.rules.length false)=is∧T 1=bQ l∧T 5=.sl m 0 g.rules.length 1∧H' m=.arr 1 (db is)∧T 6=gi i) ?_ ?_
    · refine ⟨_,rfl,rfl,rfl,?_,rfl⟩
      simp[View.set,db]
    · rintro i k T H' hk ⟨is,hi,t1,t5,hm1,t6⟩
      have hlen:is.length=g.rules.length:=by
        rw[← hi]
        have:∀ (q:List (List Int)) (o:List Bool),(q.foldl kN o).length=o.length:=by
          intro q
          induction q with
          | nil=>intro o; rfl
          | cons x q ih=>intro o; exact (ih _).trans (po x o)
        rw[this]; simp
      simp (disch:=omega) only [↓wr,↓reduceIte,wq,ah,ag,aj,ab,ae,af,ai,isNil,Nat.reduceEqDiff,Nat.reduceAdd,Nat.reduceLT,Nat.reduceLeDiff,Int.reduceNeg,Int.reduceToNat,reduceCtorEq,lf,t1,t5,t6,bQ]
      refine an.dec (fun hc=>?_) (fun hc=>?_)
      · have h2:l[i]?=some (l[i]'(by omega)):=List.getElem?_eq_getElem (by omega)
        have htk:l.take (i+1)=l.take i ++ [l[i]'(by omega)]:=by rw[List.take_add_one,h2]; rfl
        have hw:=hs _ (List.mem_of_getElem? h2)
        generalize l[i]'(by omega)=w at h2 htk hw
        unfold aH at hw
        simp (disch:=omega) only [↓wr,↓reduceIte,wq,ah,ag,aj,ab,ae,af,ai,isNil,Nat.reduceEqDiff,Nat.reduceAdd,Nat.reduceLT,Nat.reduceLeDiff,Int.reduceNeg,Int.reduceToNat,reduceCtorEq,t1,t5,t6,bQ]
        refine bw.up w.length (fun j T H'=>∃ js:List Bool,(w.take j).foldl gJ is=js∧T 1=bQ l∧T 5=.sl m 0 g.rules.length 1∧H' m=.arr 1 (db js)∧T 6=gi i∧T 7=gi j) ?_ ?_
        · exact ⟨is,rfl,t1,t5,hm1,t6,rfl⟩
        · rintro j k' T' H'' hk' ⟨js,hj,e1,e5,em,e6,e7⟩
          have hjl:js.length=g.rules.length:=by rw[← hj,← hlen]; exact po _ _
          simp (disch:=omega) only [↓wr,↓reduceIte,wq,ah,ag,aj,ab,ae,af,ai,isNil,Nat.reduceEqDiff,Nat.reduceAdd,Nat.reduceLT,Nat.reduceLeDiff,Int.reduceNeg,Int.reduceToNat,reduceCtorEq,ky,e1,e5,e6,e7,bQ,encI,List.getElem?_map,h2,Option.map_some]
          refine an.dec (fun hd=>?_) (fun hd=>?_)
          · have h3:w[j]?=some (w[j]'(by omega)):=List.getElem?_eq_getElem (by omega)
            have htj:w.take (j+1)=w.take j ++ [w[j]'(by omega)]:=by rw[List.take_add_one,h3]; rfl
            generalize w[j]'(by omega)=x at h3 htj
            have hn:(w.take (j+1)).foldl gJ is=gJ js x:=by rw[htj,List.foldl_append,hj]; rfl
            simp (disch:=omega) only [↓wr,↓reduceIte,wq,ah,ag,aj,ab,ae,af,ai,isNil,Nat.reduceEqDiff,Nat.reduceAdd,Nat.reduceLT,Nat.reduceLeDiff,Int.reduceNeg,Int.reduceToNat,reduceCtorEq,e1,e5,e6,e7,bQ,encI,List.getElem?_map,h2,h3,Option.map_some]
            have keep:¬(0≤x∧x < js.length)→gJ js x=js:=fun h=>by rw[gJ,if_neg h]
            refine an.dec (fun hx=>?_) (fun hx=>?_)
            · simp (disch:=omega) only [↓wr,↓reduceIte,wq,ah,ag,aj,ab,ae,af,ai,isNil,Nat.reduceEqDiff,Nat.reduceAdd,Nat.reduceLT,Nat.reduceLeDiff,Int.reduceNeg,Int.reduceToNat,reduceCtorEq,e1,e5,e6,e7,em,bQ,encI,List.getElem?_map,h2,h3,Option.map_some]
              refine an.dec (fun hy=>?_) (fun hy=>?_)
              · simp (disch:=omega) only [↓wr,↓reduceIte,wq,ah,ag,aj,ab,ae,af,ai,isNil,Nat.reduceEqDiff,Nat.reduceAdd,Nat.reduceLT,Nat.reduceLeDiff,Int.reduceNeg,Int.reduceToNat,reduceCtorEq,e1,e5,e6,e7,em,bQ,encI,List.getElem?_map,h2,h3,Option.map_some]
                refine ⟨by omega,by omega,aT hk' (by omega) ⟨_,by rw[hn,gJ,if_pos ⟨by omega,by omega⟩],e1,e5,?_,e6,rfl⟩⟩
                rw[pv (by omega),← m5]
                simp[View.set]
              · simp (disch:=omega) only [↓wr,↓reduceIte,wq,ah,ag,aj,ab,ae,af,ai,isNil,Nat.reduceEqDiff,Nat.reduceAdd,Nat.reduceLT,Nat.reduceLeDiff,Int.reduceNeg,Int.reduceToNat,reduceCtorEq,e1,e5,e6,e7]
                exact aT hk' (by omega) ⟨js,by rw[hn,keep (by omega)],e1,e5,em,e6,rfl⟩
            · simp (disch:=omega) only [↓wr,↓reduceIte,wq,ah,ag,aj,ab,ae,af,ai,isNil,Nat.reduceEqDiff,Nat.reduceAdd,Nat.reduceLT,Nat.reduceLeDiff,Int.reduceNeg,Int.reduceToNat,reduceCtorEq,e1,e5,e6,e7]
              exact aT hk' (by omega) ⟨js,by rw[hn,keep (by omega)],e1,e5,em,e6,rfl⟩
          · rw[List.take_of_length_le (by omega)] at hj
            simp (disch:=omega) only [↓wr,↓reduceIte,wq,ah,ag,aj,ab,ae,af,ai,isNil,Nat.reduceEqDiff,Nat.reduceAdd,Nat.reduceLT,Nat.reduceLeDiff,Int.reduceNeg,Int.reduceToNat,reduceCtorEq,e1,e5,e6,e7]
            refine aT hk (by omega) ⟨_,rfl,e1,e5,?_,rfl⟩
            rw[htk,List.foldl_append,hi,List.foldl_cons,List.foldl_nil,kN,hj]
            exact em
      · rw[List.take_of_length_le (by omega)] at hi
        simp (disch:=omega) only [↓wr,↓reduceIte,wq,ah,ag,aj,ab,ae,af,ai,isNil,Nat.reduceEqDiff,Nat.reduceAdd,Nat.reduceLT,Nat.reduceLeDiff,Int.reduceNeg,Int.reduceToNat,reduceCtorEq,t1,t5,t6]
        rintro h' rfl
        rw[← AI g l hr,hi,← hlen]
        exact mY hm1
  · simp (disch:=omega) only [↓wr,↓reduceIte,wq,ah,ag,aj,ab,ae,af,ai,isNil,Nat.reduceEqDiff,Nat.reduceAdd,Nat.reduceLT,Nat.reduceLeDiff,Int.reduceNeg,Int.reduceToNat,reduceCtorEq]
    intro h' _
    rw[k6,if_neg (by rw[hr]; simp)]
    exact .emp _
set_option maxHeartbeats 4000000 in
theorem Bi (g:al) (hg:g.Ok) (hsm:g.Small) (l:List (List Int)) (hl:aH l) (hs:∀ w∈l,aH w):cr Tryz.prog 36 [.agg (av g),bQ l] (bR (k6 g l)):=by
  refine cr.of (ze g l) ?_
  have hc:=kp g hg hsm.names
  unfold aH at hl
  refine aB.of mixed xk ?_
  simp only[av,encS] at hc
  simp (disch:=omega) only [↓wr,↓reduceIte,wq,ah,ag,aj,ab,ae,af,ai,isNil,Nat.reduceEqDiff,Nat.reduceAdd,Nat.reduceLT,Nat.reduceLeDiff,Int.reduceNeg,Int.reduceToNat,reduceCtorEq,ub,av,encS]
  refine aF.pure hc (by kernel_rfl) ?_
  simp (disch:=omega) only [↓wr,↓reduceIte,wq,ah,ag,aj,ab,ae,af,ai,isNil,Nat.reduceEqDiff,Nat.reduceAdd,Nat.reduceLT,Nat.reduceLeDiff,Int.reduceNeg,Int.reduceToNat,reduceCtorEq]
  refine an.split (fun hr=>?_) (fun hr=>?_)
  · have hf:=bc hr
    obtain ⟨hR1,hR2⟩:=And.intro hf.CU hf.rules
    simp (disch:=omega) only [↓wr,↓reduceIte,wq,ah,ag,aj,ab,ae,af,ai,isNil,Nat.reduceEqDiff,Nat.reduceAdd,Nat.reduceLT,Nat.reduceLeDiff,Int.reduceNeg,Int.reduceToNat,reduceCtorEq,av,encS,bQ]
    refine ⟨⟨by omega,by unfold aL; omega,by unfold aL; omega⟩,fun hz=>by omega,fun _ m=>?_⟩
    try simp (disch:=omega) only [↓wr,↓reduceIte,wq,ah,ag,aj,ab,ae,af,ai,isNil,Nat.reduceEqDiff,Nat.reduceAdd,Nat.reduceLT,Nat.reduceLeDiff,Int.reduceNeg,Int.reduceToNat,reduceCtorEq,bQ]
    refine bw.up l.length (fun i T H'=>∃ is:List Bool,(l.take i).foldl kN (List.replicate g.rules.length false)=is∧T 17=bQ l∧T 18=gi l.length∧T 5=.sl m 0 g.rules.length 1∧H' m=.arr 1 (db is)∧T 19=gi i) ?_ ?_
    · refine ⟨_,rfl,rfl,rfl,rfl,?_,rfl⟩
      simp[View.set,db]
    · rintro i k T H' hk ⟨is,hi,t1,t2,t5,hm1,t6⟩
      have hlen:is.length=g.rules.length:=by
        rw[← hi]
        have:∀ (q:List (List Int)) (o:List Bool),(q.foldl kN o).length=o.length:=by
          intro q
          induction q with
          | nil=>intro o; rfl
          | cons x q ih=>intro o; exact (ih _).trans (po x o)
        rw[this]; simp
      simp (disch:=omega) only [↓wr,↓reduceIte,wq,ah,ag,aj,ab,ae,af,ai,isNil,Nat.reduceEqDiff,Nat.reduceAdd,Nat.reduceLT,Nat.reduceLeDiff,Int.reduceNeg,Int.reduceToNat,reduceCtorEq,rh,t1,t2,t5,t6,bQ]
      refine an.dec (fun hc=>?_) (fun hc=>?_)
      · have h2:l[i]?=some (l[i]'(by omega)):=List.getElem?_eq_getElem (by omega)
        have htk:l.take (i+1)=l.take i ++ [l[i]'(by omega)]:=by rw[List.take_add_one,h2]; rfl
        have hw:=hs _ (List.mem_of_getElem? h2)
        generalize l[i]'(by omega)=w at h2 htk hw
        unfold aH at hw
        simp (disch:=omega) only [↓wr,↓reduceIte,wq,ah,ag,aj,ab,ae,af,ai,isNil,Nat.reduceEqDiff,Nat.reduceAdd,Nat.reduceLT,Nat.reduceLeDiff,Int.reduceNeg,Int.reduceToNat,reduceCtorEq,t1,t2,t5,t6,bQ,encI,List.getElem?_map,h2,Option.map_some]
        refine bw.up w.length (fun j T H'=>∃ js:List Bool,(w.take j).foldl gJ is=js∧T 17=bQ l∧T 18=gi l.length∧T 5=.sl m 0 g.rules.length 1∧H' m=.arr 1 (db js)∧T 19=gi i∧T 23=encI w∧T 24=gi w.length∧T 25=gi j) ?_ ?_
        · exact ⟨is,rfl,t1,t2,t5,hm1,t6,rfl,rfl,rfl⟩
        · rintro j k' T' H'' hk' ⟨js,hj,e1,e2,e5,em,e6,e7,e8,e9⟩
          have hjl:js.length=g.rules.length:=by rw[← hj,← hlen]; exact po _ _
          simp (disch:=omega) only [↓wr,↓reduceIte,wq,ah,ag,aj,ab,ae,af,ai,isNil,Nat.reduceEqDiff,Nat.reduceAdd,Nat.reduceLT,Nat.reduceLeDiff,Int.reduceNeg,Int.reduceToNat,reduceCtorEq,qL,e1,e2,e5,e6,e7,e8,e9,bQ,encI,List.getElem?_map,h2,Option.map_some]
          refine an.dec (fun hd=>?_) (fun hd=>?_)
          · have h3:w[j]?=some (w[j]'(by omega)):=List.getElem?_eq_getElem (by omega)
            have htj:w.take (j+1)=w.take j ++ [w[j]'(by omega)]:=by rw[List.take_add_one,h3]; rfl
            generalize w[j]'(by omega)=x at h3 htj
            have hn:(w.take (j+1)).foldl gJ is=gJ js x:=by rw[htj,List.foldl_append,hj]; rfl
            simp (disch:=omega) only [↓wr,↓reduceIte,wq,ah,ag,aj,ab,ae,af,ai,isNil,Nat.reduceEqDiff,Nat.reduceAdd,Nat.reduceLT,Nat.reduceLeDiff,Int.reduceNeg,Int.reduceToNat,reduceCtorEq,e1,e2,e5,e6,e7,e8,e9,bQ,encI,List.getElem?_map,h2,h3,Option.map_some]
            have keep:¬(0≤x∧x < js.length)→gJ js x=js:=fun h=>by rw[gJ,if_neg h]
            refine an.dec (fun hx=>?_) (fun hx=>?_)
            · simp (disch:=omega) only [↓wr,↓reduceIte,wq,ah,ag,aj,ab,ae,af,ai,isNil,Nat.reduceEqDiff,Nat.reduceAdd,Nat.reduceLT,Nat.reduceLeDiff,Int.reduceNeg,Int.reduceToNat,reduceCtorEq,e1,e2,e5,e6,e7,e8,e9,em,bQ,encI,List.getElem?_map,h2,h3,Option.map_some]
              refine an.dec (fun hy=>?_) (fun hy=>?_)
              · simp (disch:=omega) only [↓wr,↓reduceIte,wq,ah,ag,aj,ab,ae,af,ai,isNil,Nat.reduceEqDiff,Nat.reduceAdd,Nat.reduceLT,Nat.reduceLeDiff,Int.reduceNeg,Int.reduceToNat,reduceCtorEq,e1,e2,e5,e6,e7,e8,e9,em,bQ,encI,List.getElem?_map,h2,h3,Option.map_some]
                refine ⟨by omega,by omega,aT hk' (by omega) ⟨_,by rw[hn,gJ,if_pos ⟨by omega,by omega⟩],e1,e2,e5,?_,e6,e7,e8,rfl⟩⟩
                rw[pv (by omega),← m5]
                simp[View.set]
              · simp (disch:=omega) only [↓wr,↓reduceIte,wq,ah,ag,aj,ab,ae,af,ai,isNil,Nat.reduceEqDiff,Nat.reduceAdd,Nat.reduceLT,Nat.reduceLeDiff,Int.reduceNeg,Int.reduceToNat,reduceCtorEq,e1,e2,e5,e6,e7,e8,e9]
                exact aT hk' (by omega) ⟨js,by rw[hn,keep (by omega)],e1,e2,e5,em,e6,e7,e8,rfl⟩
            · simp (disch:=omega) only [↓wr,↓reduceIte,wq,ah,ag,aj,ab,ae,af,ai,isNil,Nat.reduceEqDiff,Nat.reduceAdd,Nat.reduceLT,Nat.reduceLeDiff,Int.reduceNeg,Int.reduceToNat,reduceCtorEq,e1,e2,e5,e6,e7,e8,e9]
              exact aT hk' (by omega) ⟨js,by rw[hn,keep (by omega)],e1,e2,e5,em,e6,e7,e8,rfl⟩
          · rw[List.take_of_length_le (by omega)] at hj
            simp (disch:=omega) only [↓wr,↓reduceIte,wq,ah,ag,aj,ab,ae,af,ai,isNil,Nat.reduceEqDiff,Nat.reduceAdd,Nat.reduceLT,Nat.reduceLeDiff,Int.reduceNeg,Int.reduceToNat,reduceCtorEq,e1,e2,e5,e6,e7,e8,e9]
            refine aT hk (by omega) ⟨_,rfl,e1,e2,e5,?_,rfl⟩
            rw[htk,List.foldl_append,hi,List.foldl_cons,List.foldl_nil,kN,hj]
            exact em
      · rw[List.take_of_length_le (by omega)] at hi
        simp (disch:=omega) only [↓wr,↓reduceIte,wq,ah,ag,aj,ab,ae,af,ai,isNil,Nat.reduceEqDiff,Nat.reduceAdd,Nat.reduceLT,Nat.reduceLeDiff,Int.reduceNeg,Int.reduceToNat,reduceCtorEq,t1,t2,t5,t6]
        rintro h' rfl
        rw[← AI g l hr,hi,← hlen]
        exact mY hm1
  · simp (disch:=omega) only [↓wr,↓reduceIte,wq,ah,ag,aj,ab,ae,af,ai,isNil,Nat.reduceEqDiff,Nat.reduceAdd,Nat.reduceLT,Nat.reduceLeDiff,Int.reduceNeg,Int.reduceToNat,reduceCtorEq]
    intro h' _
    rw[k6,if_neg (by rw[hr]; simp)]
    exact .emp _
end Gv
set_option linter.unusedSimpArgs false
set_option maxRecDepth 100000
namespace Gv
open Go Go.Proofs
theorem JS:sS Tryz.prog 28 (fun l:List (List Int)=>[bQ l]) (fun l=>aH l∧∀ x∈l,aH x∧∀ y∈x,bT y) :=
  oM Tryz.underlying28 (of_decide_eq_true (by kernel_rfl)) (of_decide_eq_true (by kernel_rfl)) Dw
def ik:SC :=
  .seq (.seq (ak [aa 15 5,aa 16 1,aQ 17 16,aS 18 .lss 15 17]) <|
  .cond (.tmp 18) (.skip) (.exit 0)) <|
  .seq (.block 1 (.seq (ak [aa 21 1,aa 22 5,bo 23 1 21 22,aq 24 23,aQ 25 24,aA 26 .gtr 25 400]) <|
  .cond (.tmp 26) (.seq (ak [aW 4 true]) <|
  .ret) (.skip))) <|
  ak [aa 19 5,aA 20 .add 19 1,aa 5 20]
def jo:SF:=⟨.seq (ak [c8 2 0,aW 4 false]) <|
  .seq (.seq (ak [aK 6 27 [],cn 7 6]) <|
  .cond (.tmp 7) (.seq (ak [aW 4 false]) <|
  .ret) (.skip)) <|
  .seq (.seq (.region false [⟨none,[aZ 8 4 2,aK 9 12 [8],aa 10 9]⟩,⟨(some (10,false)),[aa 11 1,aQ 12 11,aA 13 .gtr 12 50]⟩,⟨none,[bC 14 10 13]⟩]) <|
  .cond (.tmp 14) (.seq (ak [aW 4 true]) <|
  .ret) (.skip)) <|
  .seq (.seq (ak [aI 5 0]) <|
  .block 0 (.loop ik)) <|
  .seq (.region true [⟨none,[aZ 27 4 2,aa 28 1,aK 29 36 [27,28],aZ 30 4 2,aa 31 1,aK 32 37 [30,31],aK 33 35 [29,32],aa 4 33]⟩]) <|
  .ret,
  [.tmp 4],34⟩
theorem nq:aV Tryz.prog 9 [2]=some jo:=by kernel_rfl
theorem Dj (g:al) (hg:g.Ok) (l:List (List Int)):aH (k6 g l):=by
  unfold k6
  split
  · rename_i h
    have:=(bc h).rules
    unfold aH; simp; omega
  · unfold aH; simp
set_option maxHeartbeats 4000000 in
theorem xI (hal:aE Tryz.prog 27 [] (gb true)) (g:al) (hg:g.Ok) (l:List (List Int)) (hl:aH l) (hs:∀ w∈l,aH w∧∀ y∈w,bT y):aE Tryz.prog 9 [.agg (av g),bQ l] (gb true):=by
  refine aE.val (ze g l) fun H=>?_
  refine aB.of mixed nq ?_
  have hl':=hl
  unfold aH at hl
  simp (disch:=omega) only [↓wr,↓reduceIte,wq,ah,ag,aj,ab,ae,af,ai,isNil,Nat.reduceEqDiff,Nat.reduceAdd,Nat.reduceLT,Nat.reduceLeDiff,Int.reduceNeg,Int.reduceToNat,reduceCtorEq,jo,av,encS]
  refine aF.pure hal (by kernel_rfl) ?_
  simp (disch:=omega) only [↓wr,↓reduceIte,wq,ah,ag,aj,ab,ae,af,ai,isNil,Nat.reduceEqDiff,Nat.reduceAdd,Nat.reduceLT,Nat.reduceLeDiff,Int.reduceNeg,Int.reduceToNat,reduceCtorEq,av,encS]
  refine aF.pure (J9 g) (by kernel_rfl) ?_
  simp (disch:=omega) only [↓wr,↓reduceIte,wq,ah,ag,aj,ab,ae,af,ai,isNil,Nat.reduceEqDiff,Nat.reduceAdd,Nat.reduceLT,Nat.reduceLeDiff,Int.reduceNeg,Int.reduceToNat,reduceCtorEq]
  refine an.split (fun e=>?_) (fun e=>?_)
  · simp (disch:=omega) only [↓wr,↓reduceIte,wq,ah,ag,aj,ab,ae,af,ai,isNil,Nat.reduceEqDiff,Nat.reduceAdd,Nat.reduceLT,Nat.reduceLeDiff,Int.reduceNeg,Int.reduceToNat,reduceCtorEq]
  · have hsm:g.Small:=Da e
    have p1:=(Bi g hg hsm l hl' fun w hw=>(hs w hw).1).pure
    have p2:=(I4 g hg l hl' fun w hw=>(hs w hw).1).pure
    have p3:=Cy (k6 g l) (k6 g l) (Dj g hg l)
    rw[beq_self_eq_true] at p3
    simp only[av,encS,bQ,encI,bR] at p1 p2 p3
    simp (disch:=omega) only [↓wr,↓reduceIte,wq,ah,ag,aj,ab,ae,af,ai,isNil,Nat.reduceEqDiff,Nat.reduceAdd,Nat.reduceLT,Nat.reduceLeDiff,Int.reduceNeg,Int.reduceToNat,reduceCtorEq,bQ]
    refine an.dec (fun hc=>?_) (fun hc=>?_)
    · simp (disch:=omega) only [↓wr,↓reduceIte,wq,ah,ag,aj,ab,ae,af,ai,isNil,Nat.reduceEqDiff,Nat.reduceAdd,Nat.reduceLT,Nat.reduceLeDiff,Int.reduceNeg,Int.reduceToNat,reduceCtorEq]
    · simp (disch:=omega) only [↓wr,↓reduceIte,wq,ah,ag,aj,ab,ae,af,ai,isNil,Nat.reduceEqDiff,Nat.reduceAdd,Nat.reduceLT,Nat.reduceLeDiff,Int.reduceNeg,Int.reduceToNat,reduceCtorEq,bQ]
      refine bw.up l.length (fun i T H'=>T 1=bQ l∧T 2=.aR (av g) 0∧T 5=gi i) ⟨rfl,rfl,rfl⟩ ?_
      rintro i k T H' hk ⟨t1,t2,t5⟩
      simp (disch:=omega) only [↓wr,↓reduceIte,wq,ah,ag,aj,ab,ae,af,ai,isNil,Nat.reduceEqDiff,Nat.reduceAdd,Nat.reduceLT,Nat.reduceLeDiff,Int.reduceNeg,Int.reduceToNat,reduceCtorEq,ik,t1,t2,t5,bQ]
      refine an.dec (fun hd=>?_) (fun hd=>?_)
      · have h2:l[i]?=some (l[i]'(by omega)):=List.getElem?_eq_getElem (by omega)
        have hw:=(hs _ (List.mem_of_getElem? h2)).1
        generalize l[i]'(by omega)=w at h2 hw
        simp (disch:=omega) only [↓wr,↓reduceIte,wq,ah,ag,aj,ab,ae,af,ai,isNil,Nat.reduceEqDiff,Nat.reduceAdd,Nat.reduceLT,Nat.reduceLeDiff,Int.reduceNeg,Int.reduceToNat,reduceCtorEq,t1,t2,t5,bQ,encI,List.getElem?_map,h2,Option.map_some]
        refine an.dec (fun hw=>?_) (fun hw=>?_)
        · simp (disch:=omega) only [↓wr,↓reduceIte,wq,ah,ag,aj,ab,ae,af,ai,isNil,Nat.reduceEqDiff,Nat.reduceAdd,Nat.reduceLT,Nat.reduceLeDiff,Int.reduceNeg,Int.reduceToNat,reduceCtorEq]
        · simp (disch:=omega) only [↓wr,↓reduceIte,wq,ah,ag,aj,ab,ae,af,ai,isNil,Nat.reduceEqDiff,Nat.reduceAdd,Nat.reduceLT,Nat.reduceLeDiff,Int.reduceNeg,Int.reduceToNat,reduceCtorEq,t1,t2,t5]
          exact aT hk (by omega) ⟨t1,t2,rfl⟩
      · simp (disch:=omega) only [↓wr,↓reduceIte,wq,ah,ag,aj,ab,ae,af,ai,isNil,Nat.reduceEqDiff,Nat.reduceAdd,Nat.reduceLT,Nat.reduceLeDiff,Int.reduceNeg,Int.reduceToNat,reduceCtorEq,t1,t2,t5,bQ,encI,av,encS]
        refine aF.pure p1 (by kernel_rfl) ?_
        simp (disch:=omega) only [↓wr,↓reduceIte,wq,ah,ag,aj,ab,ae,af,ai,isNil,Nat.reduceEqDiff,Nat.reduceAdd,Nat.reduceLT,Nat.reduceLeDiff,Int.reduceNeg,Int.reduceToNat,reduceCtorEq,t1,t2,t5,bQ,encI,av,encS]
        refine aF.pure p2 (by kernel_rfl) ?_
        simp (disch:=omega) only [↓wr,↓reduceIte,wq,ah,ag,aj,ab,ae,af,ai,isNil,Nat.reduceEqDiff,Nat.reduceAdd,Nat.reduceLT,Nat.reduceLeDiff,Int.reduceNeg,Int.reduceToNat,reduceCtorEq]
        refine aF.pure p3 (by kernel_rfl) ?_
        simp (disch:=omega) only [↓wr,↓reduceIte,wq,ah,ag,aj,ab,ae,af,ai,isNil,Nat.reduceEqDiff,Nat.reduceAdd,Nat.reduceLT,Nat.reduceLeDiff,Int.reduceNeg,Int.reduceToNat,reduceCtorEq]
end Gv
