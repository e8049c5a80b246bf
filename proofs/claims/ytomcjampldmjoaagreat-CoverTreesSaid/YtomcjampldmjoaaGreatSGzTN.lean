/-
  Part 14 of the proof: what the machine does and what the functions answer.
  Conditions: those that each lemma names.
-/
import Derived.Test.YtomcjampldmjoaaGreatSGzTM
set_option linter.unusedSimpArgs false
set_option linter.unusedVariables false
set_option linter.unusedSimpArgs false
set_option maxRecDepth 100000
namespace Gv
open Go Go.Proofs
theorem Aa {g:ao} (hr:g.rules.length≤40) {k:Nat} (hk:k≤16) (m:Nat):wb (bc (aA g k) m):=by
  refine ⟨fY g k m,?_⟩
  by_cases h:bf (aA g k) m
  · obtain ⟨a,b,_⟩:=dG g k m h
    obtain ⟨j,hj,hn',hh,hc⟩:=vr h
    obtain ⟨i,r,hr',_,_,hp,_⟩:=gQ hc
    have hi:i < g.rules.length:=(List.getElem?_eq_some_iff.1 hr').1
    have:(bc (aA g k) m).ba=i:=by rw[hp]; simp[ef]
    omega
  · rw[gR h]; unfold gP; decide
def th (H:View) (u:V) (P:List bh):Prop:=u=gJ P∨aV H u 4 (P.map bR)
theorem th.BU {H:View} {u:V} {P:List bh} (h:th H u P):dg H u (gJ P):=by
  rcases h with rfl | h
  · exact dg.tree (qJ P)
  · exact dg.own h fun e he v hv=>by
      obtain ⟨p,_,rfl⟩:=List.mem_map.1 he
      exact Bt p v hv
theorem th.keep {H H':View} {u:V} {P:List bh} (h:th H u P) (hk:∀ id,owner u=some id→H' id=H id):th H' u P:=h.imp id fun h=>h.keep hk
theorem th.live {H:View} {u:V} {P:List bh} (h:th H u P) {id:Nat} (hid:owner u=some id):H id≠.dead:=by
  rcases h with rfl | h
  · simp[owner] at hid
  · rw[(h.live hid).1]; simp
theorem LI {N:List bh} {i m:Nat} {p:bh} (hp:0≤p.ba) (h:bf N m):bf (N.set i p) m:=by
  have hm:=Fw h
  unfold bf at h ⊢
  rw[yz hm]; split
  · exact hp
  · exact h
def sE:SC :=
  .seq (ak [aR 24 .lss 23 22]) <|
  .seq (.cond (.tmp 24) (.skip) (.exit 2)) <|
  .seq (.block 3 (.seq (ak [ae 25 23,aN 26 3 21 23,aS 27 3 26,((some 7),.op (.alloc [(.val (.int .i64 0)),(.emp 1),(.val (.int .i64 0))])),ae 6 25,(none,.op (.store 3 (.tmp 7) (.tmp 27)))]) <|
  .seq (.seq (ak [ae 28 5,aq 29 0 7,an 30 29,aN 31 4 28 30,aq 32 0 31,an 33 32,ay 34 .geq 33 0]) <|
  .cond (.tmp 34) (.exit 3) (.skip)) <|
  .seq (ak [aq 36 1 7,an 37 36,ae 38 3,aM 39 232 [37,38],ae 35 39,bV 40 0 35,bV 41 1 35,((some 8),.op (.alloc [(.val (.int .i64 0)),(.val (.int .i64 0)),(.val (.int .i64 0)),(.val (.int .i64 0))])),(none,.op (.store 4 (.tmp 8) (.tmp 40))),ae 9 41]) <|
  .seq (ak [ae 42 9]) <|
  .cond (.tmp 42) (.seq (ak [ae 43 5,aq 44 0 7,an 45 44,ae 46 6,aq 47 1 8,an 48 47,ay 49 .add 48 1,aq 50 2 8,an 51 50,ay 52 .add 51 1,((some 53),.op (.mm false (.val (.val (.int .i64 1048576))) (.tmp 52))),aq 54 3 8,an 55 54,((some 56),.op (.build [(.val (.int .i64 0)),(.val (.int .i64 0)),(.val (.int .i64 0)),(.val (.int .i64 0))] [(0,1,(.tmp 46)),(1,1,(.tmp 49)),(2,1,(.tmp 53)),(3,1,(.tmp 55))])),aN 57 4 43 45,(none,.op (.store 4 (.tmp 57) (.tmp 56)))]) <|
  ak [bg 4 false]) (.skip))) <|
  ak [ay 58 .add 23 1,ae 23 58]
def mW:SC :=
  .seq (.seq (ak [ae 16 4,cm 17 16]) <|
  .cond (.tmp 17) (.skip) (.exit 0)) <|
  .block 1 (.seq (ak [bg 4 true]) <|
  .seq (ak [ae 18 3,aM 19 249 [18],ae 5 19]) <|
  .seq (.seq (ak [aq 20 2 1,an 21 20,aQ 22 21,aH 23 0]) <|
  .block 2 (.loop sE)) <|
  ak [ae 59 5,ae 3 59])
def wA:SF:=⟨.seq (ak [cr 1 0,((some 2),.op (.aX (.val (.emp 1))))]) <|
  .seq (ak [((some 10),.op (.build [(.val (.int .i64 0)),(.val (.int .i64 0)),(.val (.int .i64 0)),(.val (.int .i64 0))] [(0,1,(.val (.val (.int .i64 (-1)))))])),((some 11),.op (.bB 1 4 [(.val (.int .i64 0)),(.val (.int .i64 0)),(.val (.int .i64 0)),(.val (.int .i64 0))] [(0,(.tmp 10))])),aq 12 1 1,an 13 12,aQ 14 13,aM 15 248 [11,14],ae 3 15]) <|
  .seq (.seq (ak [bg 4 false]) <|
  .block 0 (.loop mW)) <|
  .seq (ak [ae 60 3,ae 2 60]) <|
  .ret,
  [.tmp 2],61⟩
theorem zR:aU Tryz.prog 231 [1]=some wA:=by kernel_rfl
def PT (g:ao) (H0:View) (P:List bh) (d i:Nat) (T:Env) (H:View):Prop :=
  ∃ (N:List bh) (u:V),N.length=g.au.length∧lk P i N (g.rules.drop i)=xd g.rules P∧(∀ m,bf P m→bf N m)∧th H u P∧owner u≠some d∧H d=.arr 4 (N.map bR) ∧
    (∀ id,H0 id≠.dead→H id=H0 id∧id≠d)∧((T 4=gb true∧N=P)∨(T 4=gb false∧∃ m,¬ bf P m∧bf N m)) ∧
    T 1=.aT (al g) 0∧T 3=u∧T 5=.sl d 0 g.au.length 4∧T 21=.aY (g.rules.map aJ)∧T 22=gi g.rules.length∧T 23=gi i
set_option maxHeartbeats 4000000 in
theorem Nl (g:ao) (hg:g.Ok) (hf:g.gm) (H:View):az Tryz.prog 231 [.agg (al g)] H fun r H'=>aV H' r 4 ((av g).map bR)∧cP H H' r:=by
  refine az.of mixed zR ?_
  have z1:=hf.kx
  have z2:=hf.au
  have z3:=hf.rules
  simp (disch:=omega) only [↓wr,↓reduceIte,wq,ah,aj,aa,ab,af,Nat.reduceEqDiff,Nat.reduceAdd,Nat.reduceLT,Nat.reduceLeDiff,Int.reduceNeg,wA,al,encS]
  intro n1 hn1
  try simp (disch:=omega) only [↓wr,↓reduceIte,wq,ah,ag,aj,aa,ab,af,ai,isNil,Nat.reduceEqDiff,Nat.reduceAdd,Nat.reduceLT,Nat.reduceLeDiff,Int.reduceNeg,Int.reduceToNat,reduceCtorEq]
  refine aB.oJ (Lh z1 z2) (by kernel_rfl) ⟨dg.sl (off:=0) (len:=1) (esz:=4) (z:=4) (es:=[bR gP]) (by simp[View.set,bR,gP]) (by simp) (fun e he v hv=>by simp at he; subst he; exact Bt _ v hv),dg.tree (.val _),trivial⟩ ?_
  simp (disch:=omega) only [↓wr,↓reduceIte,wq,Int.reduceNeg]
  refine bb.intro (fun k T H'=>∃ (j:Nat) (u:V),j≤g.au.length∧j≤de (q9 (aA g j))∧th H' u (aA g j)∧cP H H' u∧T 1=.aT (al g) 0∧T 3=u ∧
      ((T 4=gb false∧j+k=g.au.length+1)∨(T 4=gb true∧aA g j=av g∧aV H' u 4 ((av g).map bR)))) (g.au.length+1) ?_ ?_
  · refine ⟨0,_,by omega,by omega,.inl rfl,fun id hid=>⟨?_,by simp[owner]⟩,rfl,rfl,.inl ⟨rfl,by omega⟩⟩
    have e:id≠n1:=by rintro rfl; exact hid hn1
    simp[View.set,e]
  clear hn1
  rintro k T H1 ⟨j,u,hj,hjt,hu,hfr,t1,t3,h4⟩
  rcases h4 with ⟨t4,hjk⟩ | ⟨t4,hst,how⟩
  · have hlen:=dF g j
    simp (disch:=omega) only [↓wr,↓reduceIte,wq,Nat.reduceEqDiff,reduceCtorEq,mW,t3,t4,al,encS]
    refine aB.gq ((Iv (aA g j) (by omega) (by omega) u H1 hu).mono ?_)
    rintro v H2 ⟨hv,hfv⟩
    obtain ⟨d,rfl,hd⟩:=hv.sl (by simp; omega)
    simp only[List.length_map,hlen]
    simp (disch:=omega) only [↓wr,↓reduceIte,wq,aj,Nat.reduceEqDiff,Nat.reduceAdd,Nat.reduceLT,t1,al,encS]
    refine bb.up g.rules.length (PT g H (aA g j) d) ?_ ?_
    · refine ⟨aA g j,u,hlen,rfl,fun _ h=>h,hu.keep fun id hid=>(hfv id (hu.live hid)).1,fun e=>?_,hd,fun id hid=>?_,.inl ⟨rfl,rfl⟩,t1,t3,rfl,rfl,rfl,rfl⟩
      · exact (hfv d (hu.live e)).2 rfl
      · have h1:=hfr id hid
        have h2:=hfv id (by rw[h1.1]; exact hid)
        exact ⟨by rw[h2.1,h1.1],fun e=>h2.2 (by rw[e]; rfl)⟩
    clear t1 t3 t4 hu hfr hfv hd hv
    rintro i q T H3 hq ⟨N,u,hN,hfold,hle,hu,hud,hd,hfr,h4,t1,t3,t5,t21,t22,t23⟩
    simp (disch:=omega) only [↓wr,↓reduceIte,wq,ag,Nat.reduceEqDiff,reduceCtorEq,sE,t22,t23]
    refine ar.dec (fun hc=>?_) (fun hc=>?_)
    · have hg2:g.rules[i]?=some (g.rules[i]'(by omega)):=List.getElem?_eq_getElem (by omega)
      have hmem:g.rules[i]'(by omega)∈g.rules:=List.getElem_mem _
      rw[c8 (show i < g.rules.length by omega)] at hfold
      generalize g.rules[i]'(by omega)=r at hg2 hmem hfold
      have hl:=hf.left r hmem
      have hrw:=hg.ba r hmem
      have hlt:r.left.toNat < N.length:=by omega
      have hgN:(N.map bR).getD r.left.toNat []=bR (bc N r.left.toNat):=by simp[bc,List.getD_eq_getElem?_getD,hlt]
      have hP:=fun m=>Aa (g:=g) z3 (show j≤16 by omega) m
      simp (disch:=omega) only [↓wr,↓reduceIte,wq,aa,Nat.reduceEqDiff,Nat.reduceAdd,Nat.reduceLT,Nat.reduceLeDiff,t5,t21,t23,List.getElem?_map,hg2,aJ,encI]
      intro n hn
      have hnd:d≠n:=by rintro rfl; rw[hd] at hn; simp at hn
      have hu':∀ o,th (H3.set n o) u (aA g j):=fun o=>hu.keep fun id hid=>by
        have:id≠n:=by rintro rfl; exact hu.live hid hn
        simp[View.set,this]
      have hfr':∀ o,∀ id,H id≠.dead→(H3.set n o) id=H id∧id≠d:=fun o id hid=>by
        have h1:=hfr id hid
        have:id≠n:=by rintro rfl; rw[h1.1] at hn; exact hid hn
        exact ⟨by simp[View.set,this,h1.1],h1.2⟩
      try simp (disch:=omega) only [↓wr,↓reduceIte,wq,ag,hd,hnd]
      refine ⟨by omega,by omega,?_⟩
      try simp (disch:=omega) only [↓wr,↓reduceIte,wq,Nat.reduceAdd,Nat.reduceLT,hgN,bR]
      have hsum:=pD (aA g j) r.right bq
      refine ar.dec (fun hk=>?_) (fun hk=>?_)
      · simp (disch:=omega) only [↓wr,↓reduceIte,wq,ag,Nat.reduceEqDiff,Nat.reduceAdd,reduceCtorEq,t1,t3,t5,t23]
        have hst:oT (aA g j) i N r=N:=by unfold oT; rw[if_pos hk]
        rw[lk,hst] at hfold
        rw[set_set]
        exact aI hq (by omega) ⟨N,u,hN,hfold,hle,hu' _,hud,by simp[View.set,hnd,hd],hfr' _,h4,t1,t3,t5,t21,t22,rfl⟩
      · simp (disch:=omega) only [↓wr,↓reduceIte,wq,Nat.reduceEqDiff,Nat.reduceAdd,Nat.reduceLT,t3]
        refine aB.oJ (KN (aA g j) hP r.right hrw.2.2.1 fun x hx=>⟨hrw.2.2.2 x hx,fun hn=>by rw[hlen]; exact hf.neg hmem hx hn⟩) (by kernel_rfl) ⟨dg.tree (bX r.right),by rw[set_set]; exact (hu' _).BU,trivial⟩ ?_
        have hs1:=oI (fun m=>fY g j m) r.right bq j3
        have hs2:(0:Int)≤(bF (aA g j) r.right bq).1.br:=hsum
        have hs3:fF (aA g j) r.right→(bF (aA g j) r.right bq).1.br≤16:=fun ha=>(fZ (aA g j) 16 r.right bq ha).2 ⟨by simp[bq],fun x hx hn=>by have:=(dG g j _ (ha x hx hn)).2.1; omega⟩
        have hs4:=jc (aA g j) r.right bq
        generalize hsp:bF (aA g j) r.right bq=sp at hs1 hs2 hs3 hs4
        unfold c9 at hs1
        simp (disch:=omega) only [↓wr,↓reduceIte,wq,aa,Nat.reduceEqDiff,Nat.reduceAdd,Nat.reduceLT,Nat.reduceLeDiff,bR]
        intro q2 hq2
        have hqn:=(bU hq2 bT).1
        have hq3:=(bU (bU hq2 bT).2 bT).2
        have hqd:d≠q2:=by rintro rfl; rw[hd] at hq3; simp at hq3
        try simp (disch:=omega) only [↓wr,↓reduceIte,wq,ah,ag,aj,aa,ab,af,ai,isNil,Nat.reduceEqDiff,Nat.reduceAdd,Nat.reduceLT,Nat.reduceLeDiff,Int.reduceNeg,Int.reduceToNat,reduceCtorEq,t1,t3,t5,t21,t22,t23,hd,hnd,hnd.symm,hqn,hqn.symm,hqd,hqd.symm,bR]
        refine ar.split (fun hb=>?_) (fun hb=>?_)
        · have hs5:=hs3 (hs4.1 hb)
          simp (disch:=omega) only [↓wr,↓reduceIte,wq,ag,aa,ab,Nat.reduceEqDiff,Nat.reduceAdd,Nat.reduceLT,Nat.reduceLeDiff,reduceCtorEq,t1,t3,t5,t23,hd,hnd,hqn.symm,hqd]
          refine ⟨by omega,by omega,?_⟩
          have hst:oT (aA g j) i N r=N.set r.left.toNat (ef (aA g j) i r):=by unfold oT; rw[if_neg hk,hsp,if_pos hb]
          rw[lk,hst] at hfold
          have hpl:(ef (aA g j) i r)=⟨i,sp.1.br+1,min 1048576 (sp.1.rules+1),sp.1.ax⟩:=by rw[ef,hsp]
          have hpr:0≤(ef (aA g j) i r).ba:=by rw[hpl]; simp only; omega
          have hnew:¬ bf N r.left.toNat:=hk
          refine aI hq (by omega) ⟨_,u,by simp[hN],hfold,fun m hm=>LI hpr (hle m hm),?_,hud,?_,?_,.inr ⟨rfl,r.left.toNat,fun hkn=>hnew (hle _ hkn),?_⟩,t1,t3,t5,t21,t22,rfl⟩
          · refine hu.keep fun id hid=>?_
            have e1:id≠n:=by rintro rfl; exact hu.live hid hn
            have e2:id≠q2:=by rintro rfl; exact hu.live hid hq3
            have e3:id≠d:=by rintro rfl; exact hud hid
            simp[View.set,e1,e2,e3]
          · simp only[View.set,if_true]
            rw[List.map_set,hpl,hgN]; simp only[bR,List.drop_succ_cons,List.drop_nil,FO]
          · intro id hid
            have h1:=hfr id hid
            have e1:id≠n:=by rintro rfl; rw[h1.1] at hn; exact hid hn
            have e2:id≠q2:=by rintro rfl; rw[h1.1] at hq3; exact hid hq3
            exact ⟨by simp[View.set,e1,e2,h1.2,h1.1],h1.2⟩
          · unfold bf; rw[yz hlt,if_pos rfl]; exact hpr
        · simp (disch:=omega) only [↓wr,↓reduceIte,wq,ag,Nat.reduceEqDiff,Nat.reduceAdd,reduceCtorEq,t1,t3,t5,t23]
          have hst:oT (aA g j) i N r=N:=by unfold oT; rw[if_neg hk,hsp,if_neg (by rw[hb]; simp)]
          rw[lk,hst] at hfold
          refine aI hq (by omega) ⟨N,u,hN,hfold,hle,?_,hud,by simp[View.set,hnd,hqd,hd],?_,h4,t1,t3,t5,t21,t22,rfl⟩
          · refine hu.keep fun id hid=>?_
            have e1:id≠n:=by rintro rfl; exact hu.live hid hn
            have e2:id≠q2:=by rintro rfl; exact hu.live hid hq3
            simp[View.set,e1,e2]
          · intro id hid
            have h1:=hfr id hid
            have e1:id≠n:=by rintro rfl; rw[h1.1] at hn; exact hid hn
            have e2:id≠q2:=by rintro rfl; rw[h1.1] at hq3; exact hid hq3
            exact ⟨by simp[View.set,e1,e2,h1.1],h1.2⟩
    · simp (disch:=omega) only [↓wr,↓reduceIte,wq,Nat.reduceEqDiff,reduceCtorEq,t1,t3,t5]
      rw[List.drop_eq_nil_of_le (by omega),lk,← me] at hfold
      have how:aV H3 (.sl d 0 g.au.length 4) 4 (N.map bR):=.inr ⟨d,by simp[hN],hd⟩
      have hfd:cP H H3 (.sl d 0 g.au.length 4):=fun id hid=>⟨(hfr id hid).1,fun e=>(hfr id hid).2 (by simp[owner] at e; exact e.symm)⟩
      rw[hfold] at how
      rcases h4 with ⟨h4,he⟩ | ⟨h4,m,hm1,hm2⟩
      · have hstay:aA g (j+1)=aA g j:=by rw[← hfold,he]
        have hpl:=M9 hj hstay
        rw[hstay] at how
        exact ⟨0,by omega,j,_,hj,hjt,.inr how,hfd,rfl,rfl,.inr ⟨h4,hpl,by rw[← hpl]; exact how⟩⟩
      · rw[hfold] at hm2
        rcases Ir hjt with e | e
        · rw[e] at hm2; exact absurd hm2 hm1
        · have:=Gh g (j+1)
          exact ⟨k - 1,by omega,j+1,_,by omega,e,.inr how,hfd,rfl,rfl,.inl ⟨h4,by omega⟩⟩
  · simp (disch:=omega) only [↓wr,↓reduceIte,wq,Nat.reduceEqDiff,reduceCtorEq,mW,t3,t4]
    exact ⟨how,hfr⟩
theorem Kt {h:aG} {u:V} {P:List bh} (ho:aV h.view u 4 (P.map bR)):cK h u (gJ P):=by
  refine cK.own ho rfl (fun i _=>rfl) (fun i j hi hj=>?_)
  simp only[List.length_map] at hi
  have e:(P.map bR).getD i []=bR P[i]:=by simp[List.getD_eq_getElem?_getD,hi]
  rw[e] at hj ⊢
  match j,hj with
  | 0,_=>exact .val _
  | 1,_=>exact .val _
  | 2,_=>exact .val _
  | 3,_=>exact .val _
  | n+4,h=>exact absurd h (by simp[bR])
theorem Mb (g:ao) (hg:g.Ok) (hf:g.gm):bN Tryz.prog 231 [.agg (al g)] (gJ (av g)) :=
  bN.of (di g) ((Nl g hg hf _).mono fun r H' h h' hh=>Kt (by rw[hh]; exact h.1))
def fv (g:ao):List Int:=(av g).map bh.ba
end Gv
set_option linter.unusedSimpArgs false
set_option maxRecDepth 100000
namespace Gv
open Go Go.Proofs
def mO:SC :=
  .seq (.seq (ak [ae 8 6,aq 9 1 2,an 10 9,aQ 11 10,aR 12 .lss 8 11]) <|
  .cond (.tmp 12) (.skip) (.exit 0)) <|
  .seq (.block 1 (.seq (.seq (ak [aq 15 1 2,an 16 15,ae 17 6,aN 18 1 16 17,an 19 18,ay 20 .geq 19 0]) <|
  .cond (.tmp 20) (.exit 1) (.skip)) <|
  .seq (ak [ae 21 1,aq 22 1 2,an 23 22,ae 24 6,aN 25 1 23 24,an 26 25,((some 27),.op (.arith .sub (.val (.val (.int .i64 (-1)))) (.tmp 26))),aN 28 1 21 27,an 29 28,ae 7 29]) <|
  .seq (.seq (ak [ae 30 7,ay 31 .eql 30 0]) <|
  .cond (.tmp 31) (.seq (ak [aH 4 0]) <|
  .ret) (.skip)) <|
  ak [ae 32 5,ae 33 7,((some 34),.op (.mm true (.tmp 32) (.tmp 33))),ae 5 34])) <|
  ak [ae 13 6,ay 14 .add 13 1,ae 6 14]
def oX:SF:=⟨.seq (ak [cr 2 0,aH 4 0]) <|
  .seq (ak [aH 5 0]) <|
  .seq (.seq (ak [aH 6 0]) <|
  .block 0 (.loop mO)) <|
  .seq (ak [ae 35 5,ay 36 .add 35 1,ae 4 36]) <|
  .ret,
  [.tmp 4],37⟩
theorem uI:aU Tryz.prog 212 [2]=some oX:=by kernel_rfl
def kJ:SC :=
  .seq (.seq (ak [ae 25 6,aq 26 2 1,an 27 26,aQ 28 27,aR 29 .lss 25 28]) <|
  .cond (.tmp 29) (.skip) (.exit 2)) <|
  .seq (.block 3 (.seq (ak [aq 32 2 1,an 33 32,ae 34 6,aN 35 3 33 34,aS 36 3 35,((some 7),.op (.alloc [(.val (.int .i64 0)),(.emp 1),(.val (.int .i64 0))])),(none,.op (.store 3 (.tmp 7) (.tmp 36)))]) <|
  .seq (.region false [⟨none,[ae 37 3,aq 38 0 7,an 39 38,aN 40 1 37 39,an 41 40,ay 42 .eql 41 0,ae 43 42]⟩,⟨(some (43,true)),[aS 44 3 7,ae 45 5,aM 46 212 [44,45],ae 47 4,aR 48 .eql 46 47]⟩,⟨none,[bM 49 43 48]⟩]) <|
  .cond (.tmp 49) (ak [ae 50 3,aq 51 0 7,an 52 51,ae 53 4,aN 54 1 50 52,(none,.op (.store 1 (.tmp 54) (.tmp 53)))]) (.skip))) <|
  ak [ae 30 6,ay 31 .add 30 1,ae 6 31]
def kI:SC :=
  .seq (.seq (ak [ae 15 4,aq 16 1 1,an 17 16,aQ 18 17,aR 19 .leq 15 18]) <|
  .cond (.tmp 19) (.skip) (.exit 0)) <|
  .seq (.block 1 (.seq (ak [((some 22),.op (.aX (.val (.emp 2)))),ae 23 3,((some 24),.op (.app 1 8 (.tmp 22) (.tmp 23))),ae 5 24]) <|
  .seq (ak [aH 6 0]) <|
  .block 2 (.loop kJ))) <|
  ak [ae 20 4,ay 21 .add 20 1,ae 4 21]
def l8:SF:=⟨.seq (ak [cr 1 0,((some 2),.op (.aX (.val (.emp 1))))]) <|
  .seq (.seq (ak [aS 8 4 1,aM 9 48 [8],cm 10 9]) <|
  .cond (.tmp 10) (.seq (ak [((some 2),.op (.aX (.val (.emp 1))))]) <|
  .ret) (.skip)) <|
  .seq (ak [aq 11 1 1,an 12 11,aQ 13 12,((some 14),.op (.make 1 8 [(.val (.int .i64 0))] (.tmp 13) (.tmp 13))),ae 3 14]) <|
  .seq (.seq (ak [aH 4 1]) <|
  .block 0 (.loop kI)) <|
  .seq (ak [ae 55 3,ae 2 55]) <|
  .ret,
  [.tmp 2],56⟩
theorem rj:aU Tryz.prog 211 [1]=some l8:=by kernel_rfl
theorem yO {h:List Int} {m:Nat} (hm:m < h.length):h[m]?=some (ey h m):=by simp[ey,List.getD_eq_getElem?_getD,hm]
theorem Lg {h:List Int} {m:Nat} (hm:m < h.length):(aZ h).getD m []=[gi (ey h m)]:=by simp[ey,List.getD_eq_getElem?_getD,hm]
def Mi (h:List Int):Prop:=∀ m,0≤ey h m∧ey h m≤1000
theorem F0 {g:ao} (hr:g.rules.length≤40) {k:Nat} (hk:k≤16):Mi (dX (aA g k)):=fun m=>by
  rw[kp]
  by_cases h:bf (aA g k) m
  · obtain ⟨a,b,_⟩:=dG g k m h
    omega
  · rw[gR h]; unfold gP; decide
set_option maxHeartbeats 2000000 in
theorem DD (r:aO) (h:List Int) (hh:Mi h) (hl:Be h.length r):aF Tryz.prog 212 [.agg (aJ r),encI h] (gi (ej h r.right 0)):=by
  obtain ⟨_,_,_,hl6,hs⟩:=hl
  refine aF.val (by
    intro v hv; simp at hv
    rcases hv with rfl | rfl
    · exact ch _ (eJ r)
    · exact bX h) fun H=>?_
  refine az.of mixed uI ?_
  simp (disch:=omega) only [↓wr,wq,ah,Nat.reduceAdd,Nat.reduceLeDiff,oX,aJ,encI]
  refine bb.up r.right.length (fun i T H'=>∃ top:Int,0≤top∧top≤1000∧ej h (r.right.drop i) top=ej h r.right 0∧T 1=encI h∧T 2=.aT (aJ r) 0∧T 5=gi top∧T 6=gi i) ⟨0,by omega,by omega,rfl,rfl,rfl,rfl,rfl⟩ ?_
  rintro i k T H hk ⟨top,h0,h1,hd,t1,t2,t5,t6⟩
  simp (disch:=omega) only [↓wr,↓reduceIte,wq,ag,aj,Nat.reduceEqDiff,Nat.reduceAdd,Nat.reduceLT,Int.reduceNeg,mO,t2,t6,aJ,encI]
  refine ar.dec (fun hc=>?_) (fun hc=>?_)
  · have hg:r.right[i]?=some (r.right[i]'(by omega)):=List.getElem?_eq_getElem (by omega)
    have hmem:r.right[i]'(by omega)∈r.right:=List.getElem_mem _
    rw[c8 (show i < r.right.length by omega)] at hd
    generalize r.right[i]'(by omega)=x at hg hmem hd
    obtain ⟨⟨hx1,hx2⟩,hx3⟩:=hs x hmem
    simp (disch:=omega) only [↓wr,↓reduceIte,wq,ag,Nat.reduceEqDiff,Nat.reduceAdd,Nat.reduceLT,Int.reduceNeg,t2,t6,aJ,encI,List.getElem?_map,hg]
    refine ar.dec (fun hx=>?_) (fun hx=>?_)
    · simp (disch:=omega) only [↓wr,↓reduceIte,wq,ag,Nat.reduceEqDiff,reduceCtorEq,t5,t6]
      rw[ej,if_pos (show 0≤x from hx)] at hd
      exact aI hk (by omega) ⟨top,h0,h1,hd,t1,t2,t5,rfl⟩
    · have hm:bG x < h.length:=by have:=hx3 (by omega); unfold bG; omega
      have hgm:=yO hm
      have hb:=hh (bG x)
      rw[ej,if_neg hx] at hd
      generalize ey h (bG x)=v at hgm hb hd
      simp (disch:=omega) only [↓wr,↓reduceIte,wq,ag,Nat.reduceEqDiff,Nat.reduceAdd,Nat.reduceLT,Int.reduceNeg,t1,t2,t6,aJ,encI,List.getElem?_map,hg,hgm]
      refine ar.eq (fun hv=>?_) (fun hv=>?_)
      · simp (disch:=omega) only [↓wr,↓reduceIte,wq,ag,Nat.reduceEqDiff,Int.reduceNeg,reduceCtorEq,t5,t6]
        rw[if_pos hv] at hd
        rw[← hd]
      · simp (disch:=omega) only [↓wr,↓reduceIte,wq,ag,Nat.reduceEqDiff,Int.reduceNeg,reduceCtorEq,t5,t6,JC]
        rw[if_neg hv] at hd
        exact aI hk (by omega) ⟨_,by omega,by omega,hd,t1,t2,rfl,rfl⟩
  · simp (disch:=omega) only [↓wr,↓reduceIte,wq,Nat.reduceEqDiff,reduceCtorEq,t5]
    rw[List.drop_eq_nil_of_le (by omega),ej] at hd
    rw[hd]
def Ql (g:ao) (old:List Int) (k:Int) (b d i:Nat) (T:Env) (H:View):Prop :=
  ∃ out:List Int,out.length=g.au.length∧(g.rules.drop i).foldl (iS old k) out=g.rules.foldl (iS old k) old∧b≠d∧H b=.arr 1 (aZ out)∧H d=.arr 1 (aZ old) ∧
    T 1=.aT (al g) 0∧T 3=.sl b 0 g.au.length 1∧T 4=gi k∧T 5=.sl d 0 g.au.length 1∧T 6=gi i
set_option maxHeartbeats 4000000 in
theorem xf (g:ao) (hg:g.Ok):bN Tryz.prog 211 [.agg (al g)] (encI (if bo g=true then dX (av g) else [])):=by
  refine bN.of (di g) ?_
  refine az.of mixed rj ?_
  have hn:=hg.au
  unfold aL at hn
  simp (disch:=omega) only [↓wr,↓reduceIte,wq,ah,Nat.reduceEqDiff,Nat.reduceAdd,Nat.reduceLeDiff,l8,al,encS]
  refine aB.pure (iG g hg) (by kernel_rfl) ?_
  repeat' (first | (refine ar.dec (fun _=>?_) (fun _=>?_)) | (refine ar.eq (fun _=>?_) (fun _=>?_)) | (refine ar.ne (fun _=>?_) (fun _=>?_)) | (refine ar.split (fun _=>?_) (fun _=>?_)) | (simp (disch:=omega) only [↓wr,↓reduceIte,wq,aj,Nat.reduceEqDiff,Nat.reduceAdd,Nat.reduceLT,reduceCtorEq]))
  · rename_i hr
    have hf:=aW hr
    have z1:=hf.kx
    have z2:=hf.au
    have z3:=hf.rules
    rw[if_pos hr]
    try simp (disch:=omega) only [↓wr,↓reduceIte,wq,ah,ag,aj,aa,ab,af,ai,isNil,Nat.reduceEqDiff,Nat.reduceAdd,Nat.reduceLT,Nat.reduceLeDiff,Int.reduceNeg,Int.reduceToNat,reduceCtorEq,al,encS]
    refine ⟨⟨by omega,by unfold aE; omega,by unfold aE; omega⟩,fun h=>by omega,?_⟩
    intro _ b
    try simp (disch:=omega) only [↓wr,↓reduceIte,wq,ah,ag,aj,aa,ab,af,ai,isNil,Nat.reduceEqDiff,Nat.reduceAdd,Nat.reduceLT,Nat.reduceLeDiff,Int.reduceNeg,Int.reduceToNat,reduceCtorEq,al,encS]
    refine bb.up g.au.length (fun j T H'=>H' b=.arr 1 (aZ (dX (aA g j)))∧T 1=.aT (al g) 0∧T 3=.sl b 0 g.au.length 1∧T 4=gi ((j:Int)+1)) ?_ ?_
    · refine ⟨?_,rfl,rfl,rfl⟩
      simp[View.set,aA,iter,gP]
    rintro j k T H hk ⟨hb,t1,t3,t4⟩
    simp (disch:=omega) only [↓wr,↓reduceIte,wq,ag,aj,Nat.reduceEqDiff,Nat.reduceAdd,Nat.reduceLT,reduceCtorEq,kI,t1,t4,al,encS]
    refine ar.dec (fun hc=>?_) (fun hc=>?_)
    · have hlen:=dF g j
      obtain ⟨nl,hnl⟩:∃ nl,g.au.length=nl+1:=⟨g.au.length - 1,by omega⟩
      have he:cb H (.sl b 0 g.au.length 1)=some (aZ (dX (aA g j)),[b]):=by
        rw[hnl,qA _ b 0 nl 1 1 _ hb (by simp[hlen,hnl]),List.drop_zero,List.take_of_length_le (by simp[hlen,hnl])]
      have hne:(aZ (dX (aA g j))).isEmpty=false:=by
        cases hx:aA g j with
        | nil=>rw[hx] at hlen; simp at hlen; omega
        | cons=>rfl
      simp (disch:=omega) only [↓wr,↓reduceIte,wq,Nat.reduceEqDiff,t3,he,sL _ _ _ _ _ _ _ hne,hlen]
      refine ⟨by simp[List.all_map,aP],⟨by unfold aE; omega,by unfold aE; omega⟩,fun d hd=>?_⟩
      have hbd:b≠d:=by rintro rfl; rw[hb] at hd; simp at hd
      refine bb.up g.rules.length (Ql g (dX (aA g j)) ((j:Int)+1) b d) ⟨dX (aA g j),by simp[hlen],rfl,hbd,by simp[View.set,hbd,hb],by simp[View.set],t1,t3,t4,rfl,rfl⟩ ?_
      clear t1 t3 t4 hb he hd
      rintro i q T H hq ⟨out,hol,hfold,_,hb,hd,t1,t3,t4,t5,t6⟩
      simp (disch:=omega) only [↓wr,↓reduceIte,wq,ag,aj,Nat.reduceEqDiff,Nat.reduceAdd,Nat.reduceLT,kJ,t1,t6,al]
      refine ar.dec (fun hc2=>?_) (fun hc2=>?_)
      · have hg2:g.rules[i]?=some (g.rules[i]'(by omega)):=List.getElem?_eq_getElem (by omega)
        have hmem:g.rules[i]'(by omega)∈g.rules:=List.getElem_mem _
        rw[c8 (show i < g.rules.length by omega),List.foldl_cons] at hfold
        generalize g.rules[i]'(by omega)=r at hg2 hmem hfold
        have hri:=hf.pJ hg hmem
        have hl:=hf.left r hmem
        have hgo:=Lg (h:=out) (m:=r.left.toNat) (by omega)
        have hso:=F0 (g:=g) z3 (show j≤16 by omega)
        have hhl:(dX (aA g j)).length=g.au.length:=by simp[hlen]
        unfold iS at hfold
        generalize dX (aA g j)=old at hd hso hhl hfold ⊢
        simp (disch:=omega) only [↓wr,↓reduceIte,wq,aa,Nat.reduceEqDiff,Nat.reduceAdd,Nat.reduceLT,Nat.reduceLeDiff,t1,t3,t6,al,aJ,encI,List.getElem?_map,hg2]
        intro n hn
        have hnb:b≠n:=by rintro rfl; rw[hb] at hn; simp at hn
        have hnd:d≠n:=by rintro rfl; rw[hd] at hn; simp at hn
        try simp (disch:=omega) only [↓wr,↓reduceIte,wq,ag,Nat.reduceLT,hb,hnb,hgo]
        refine ⟨by omega,by omega,?_⟩
        refine ar.eq (fun hz=>?_) (fun hz=>?_)
        · simp (disch:=omega) only [↓wr,↓reduceIte,wq,Nat.reduceEqDiff,Nat.reduceAdd,Nat.reduceLT,Nat.reduceLeDiff,t5]
          refine aB.Pn (DD r old hso (by rw[hhl]; exact hri)) (by kernel_rfl) (.val _) ⟨dg.tree (ch _ (eJ r)),vO (l:=old) (by simp[View.set,hnd,hd]) hhl.symm,trivial⟩ ?_
          simp (disch:=omega) only [↓wr,↓reduceIte,wq,ag,Nat.reduceEqDiff,t4]
          refine ar.eq (fun hh=>?_) (fun hh=>?_)
          · simp (disch:=omega) only [↓wr,↓reduceIte,wq,ag,aa,Nat.reduceEqDiff,Nat.reduceAdd,Nat.reduceLT,Nat.reduceLeDiff,reduceCtorEq,t3,t4,t6,hb,hnb,hgo]
            refine ⟨by omega,by omega,?_⟩
            rw[if_pos ⟨hz,hh⟩] at hfold
            refine aI hq (by omega) ⟨_,by simp[hol],hfold,hbd,?_,by simp[View.set,hbd.symm,hnd,hd],t1,t3,t4,t5,rfl⟩
            simp only[View.set,if_true]
            rw[← Ky]
          · simp (disch:=omega) only [↓wr,↓reduceIte,wq,ag,Nat.reduceEqDiff,Nat.reduceAdd,reduceCtorEq,t3,t4,t6]
            rw[if_neg (fun e=>hh e.2)] at hfold
            exact aI hq (by omega) ⟨out,hol,hfold,hbd,by simp[View.set,hnb,hb],by simp[View.set,hnd,hd],t1,t3,t4,t5,rfl⟩
        · simp (disch:=omega) only [↓wr,↓reduceIte,wq,ag,Nat.reduceEqDiff,Nat.reduceAdd,reduceCtorEq,t3,t4,t6]
          rw[if_neg (fun e=>hz e.1)] at hfold
          exact aI hq (by omega) ⟨out,hol,hfold,hbd,by simp[View.set,hnb,hb],by simp[View.set,hnd,hd],t1,t3,t4,t5,rfl⟩
      · simp (disch:=omega) only [↓wr,↓reduceIte,wq,Nat.reduceEqDiff,reduceCtorEq,t3,t4]
        rw[List.drop_eq_nil_of_le (by omega),List.foldl_nil,OL] at hfold
        rw[hfold] at hb
        exact aI hk (by omega) ⟨hb,t1,t3,rfl⟩
    · simp (disch:=omega) only [↓wr,↓reduceIte,wq,Nat.reduceEqDiff,reduceCtorEq,t3]
      intro h' hh
      have:j=g.au.length:=by omega
      subst this
      exact eW (by rw[hh]; exact .inr ⟨b,by simp[eF],hb⟩)
  · rename_i hr
    rw[hr]
    intro h' hh
    exact .emp _
def l9:SC :=
  .seq (.seq (ak [ae 20 7,ay 21 .geq 20 0]) <|
  .cond (.tmp 21) (.skip) (.exit 2)) <|
  .seq (.block 3 (.seq (.region true [⟨none,[aq 24 2 1,an 25 24,ae 26 7,aN 27 3 25 26,aq 28 0 27,an 29 28,ae 30 5,aR 31 .eql 29 30,ae 32 31]⟩,⟨(some (32,true)),[ae 33 3,ae 34 5,aN 35 1 33 34,an 36 35,ay 37 .gtr 36 0]⟩,⟨none,[bM 38 32 37,ae 39 38]⟩,⟨(some (39,true)),[aq 40 2 1,an 41 40,ae 42 7,aN 43 3 41 42,aS 44 3 43,ae 45 3,aM 46 212 [44,45],ae 47 3,ae 48 5,aN 49 1 47 48,an 50 49,aR 51 .eql 46 50]⟩,⟨none,[bM 52 39 51]⟩]) <|
  .cond (.tmp 52) (ak [ae 53 7,ae 6 53]) (.skip))) <|
  ak [ae 22 7,ay 23 .sub 22 1,ae 7 23]
def ib:SC :=
  .seq (.seq (ak [ae 10 5,ae 11 3,aQ 12 11,aR 13 .lss 10 12]) <|
  .cond (.tmp 13) (.skip) (.exit 0)) <|
  .seq (.block 1 (.seq (ak [aH 6 (-1)]) <|
  .seq (.seq (ak [aq 16 2 1,an 17 16,aQ 18 17,ay 19 .sub 18 1,ae 7 19]) <|
  .block 2 (.loop l9)) <|
  ak [ae 54 4,ae 55 6,((some 56),.op (.bB 1 1 [(.val (.int .i64 0))] [(0,(.tmp 55))])),((some 57),.op (.app 1 8 (.tmp 54) (.tmp 56))),ae 4 57])) <|
  ak [ae 14 5,ay 15 .add 14 1,ae 5 15]
def nr:SF:=⟨.seq (ak [cr 1 0,((some 2),.op (.aX (.val (.emp 1))))]) <|
  .seq (ak [aS 8 4 1,aM 9 211 [8],ae 3 9]) <|
  .seq (ak [((some 4),.op (.aX (.val (.emp 1))))]) <|
  .seq (.seq (ak [aH 5 0]) <|
  .block 0 (.loop ib)) <|
  .seq (ak [ae 58 4,ae 2 58]) <|
  .ret,
  [.tmp 2],59⟩
theorem sR:aU Tryz.prog 171 [1]=some nr:=by kernel_rfl
theorem Io {h:List Int} {m:Nat} {l:List aO} {c:Nat} {r:aO} (hr:l[c]?=some r):ju h m (l.drop c) c=if r.left=(m:Int)∧0 < ey h m∧ej h r.right 0=ey h m then (c:Int) else ju h m (l.drop (c+1)) ((c:Int)+1):=by
  have hc:c < l.length:=(List.getElem?_eq_some_iff.1 hr).1
  have he:l[c]=r:=(List.getElem?_eq_some_iff.1 hr).2
  rw[List.drop_eq_getElem_cons hc,he,ju]
def Qb (g:ao) (h:List Int) (u:V) (j c:Nat) (T:Env) (H:View):Prop :=
  c≤g.rules.length∧T 1=.aT (al g) 0∧T 3=encI h∧T 4=u∧aV H u 1 (aZ ((List.range j).map fun m=>ju h m g.rules 0))∧T 5=gi j∧T 6=gi (ju h j (g.rules.drop c) c)∧T 7=gi ((c:Int) - 1)
set_option maxHeartbeats 4000000 in
theorem Ai (g:ao) (hg:g.Ok):bN Tryz.prog 171 [.agg (al g)] (encI (if bo g=true then fv g else [])):=by
  refine bN.of (di g) ?_
  refine az.of mixed sR ?_
  simp (disch:=omega) only [↓wr,↓reduceIte,wq,ah,Nat.reduceEqDiff,Nat.reduceAdd,Nat.reduceLeDiff,nr,al,encS]
  refine aB.pure (xf g hg).pure (by kernel_rfl) ?_
  by_cases hr:bo g=true
  · have hf:=aW hr
    have z1:=hf.kx
    have z2:=hf.au
    have z3:=hf.rules
    rw[if_pos hr,if_pos hr]
    have hrl:fv g=(List.range g.au.length).map fun m=>ju (dX (av g)) m g.rules 0:=by
      apply List.ext_getElem (by simp[fv,eF])
      intro m h1 h2
      simp only[fv,List.getElem_map,List.getElem_range]
      rw[Ju (fun r hr'=>(hf.left r hr').1)]
      have:m < (av g).length:=by simpa [fv] using h1
      simp[bc,List.getD_eq_getElem?_getD,this]
    have hso:Mi (dX (av g)):=F0 z3 z2
    have hhl:(dX (av g)).length=g.au.length:=by simp[eF]
    rw[hrl]
    generalize dX (av g)=h at hso hhl ⊢
    simp (disch:=omega) only [↓wr,↓reduceIte,wq,encI]
    refine bb.up g.au.length (fun j T H'=>∃ u,T 4=u∧aV H' u 1 (aZ ((List.range j).map fun m=>ju h m g.rules 0))∧T 1=.aT (al g) 0∧T 3=encI h∧T 5=gi j) ⟨_,rfl,.nil,rfl,rfl,rfl⟩ ?_
    rintro j k T H hk ⟨u,t4,ho,t1,t3,t5⟩
    simp (disch:=omega) only [↓wr,↓reduceIte,wq,ag,aj,Nat.reduceEqDiff,Int.reduceNeg,reduceCtorEq,ib,t3,t5,encI]
    refine ar.dec (fun hc=>?_) (fun hc=>?_)
    · have hjm:=yO (h:=h) (m:=j) (by omega)
      simp (disch:=omega) only [↓wr,↓reduceIte,wq,ag,aj,Nat.reduceEqDiff,Nat.reduceAdd,Nat.reduceLT,Int.reduceNeg,t1,al]
      refine bb.intro (Qb g h u j) g.rules.length ?_ ?_
      · refine ⟨by omega,t1,t3,t4,ho,t5,?_,rfl⟩
        rw[List.drop_eq_nil_of_le (by omega)]; rfl
      clear t1 t3 t4 t5 ho
      rintro c T H ⟨hcl,t1,t3,t4,ho,t5,t6,t7⟩
      simp (disch:=omega) only [↓wr,↓reduceIte,wq,ag,af,Nat.reduceEqDiff,Nat.reduceLT,l9,t7]
      refine ar.dec (fun hc2=>?_) (fun hc2=>?_)
      · obtain ⟨c,rfl⟩:∃ c',c=c'+1:=⟨c - 1,by omega⟩
        have hg2:g.rules[c]?=some (g.rules[c]'(by omega)):=List.getElem?_eq_getElem (by omega)
        have hmem:g.rules[c]'(by omega)∈g.rules:=List.getElem_mem _
        generalize g.rules[c]'(by omega)=r at hg2 hmem
        have hri:=hf.pJ hg hmem
        have hbc:=Io (h:=h) (m:=j) hg2
        have e1:(((c+1:Nat):Int) - 1)=(c:Int):=by omega
        rw[e1] at t7
        try simp only[e1]
        rw[show (((c+1:Nat):Int))=(c:Int)+1 by omega] at t6
        simp (disch:=omega) only [↓wr,↓reduceIte,wq,ag,Nat.reduceEqDiff,Nat.reduceAdd,Nat.reduceLT,t1,t5,t7,encI,al,aJ,List.getElem?_map,hg2]
        refine ar.eq (fun h1=>?_) (fun h1=>?_)
        · simp (disch:=omega) only [↓wr,↓reduceIte,wq,ag,Nat.reduceEqDiff,Nat.reduceLT,t3,t5,encI,List.getElem?_map,hjm]
          refine ar.dec (fun h2=>?_) (fun h2=>?_)
          · simp (disch:=omega) only [↓wr,↓reduceIte,wq,Nat.reduceEqDiff,Nat.reduceAdd,Nat.reduceLT,Nat.reduceLeDiff,t1,t3,t7,encI,al,aJ,List.getElem?_map,hg2]
            refine aB.pure (DD r h hso (by rw[hhl]; exact hri)) (by kernel_rfl) ?_
            simp (disch:=omega) only [↓wr,↓reduceIte,wq,ag,Nat.reduceEqDiff,Nat.reduceLT,t3,t5,encI,List.getElem?_map,hjm]
            refine ar.eq (fun h3=>?_) (fun h3=>?_)
            · simp (disch:=omega) only [↓wr,↓reduceIte,wq,ag,Nat.reduceEqDiff,reduceCtorEq,t4,t5,t7]
              refine ⟨c,by omega,by omega,t1,t3,t4,ho,t5,?_,rfl⟩
              rw[hbc,if_pos ⟨h1,h2,h3⟩]; rfl
            · simp (disch:=omega) only [↓wr,↓reduceIte,wq,ag,Nat.reduceEqDiff,reduceCtorEq,t4,t5,t6,t7]
              refine ⟨c,by omega,by omega,t1,t3,t4,ho,t5,?_,rfl⟩
              rw[hbc,if_neg (fun e=>h3 e.2.2)]; exact t6
          · simp (disch:=omega) only [↓wr,↓reduceIte,wq,ag,Nat.reduceEqDiff,reduceCtorEq,t4,t5,t6,t7]
            refine ⟨c,by omega,by omega,t1,t3,t4,ho,t5,?_,rfl⟩
            rw[hbc,if_neg (fun e=>h2 e.2.1)]; exact t6
        · simp (disch:=omega) only [↓wr,↓reduceIte,wq,ag,Nat.reduceEqDiff,reduceCtorEq,t4,t5,t6,t7]
          refine ⟨c,by omega,by omega,t1,t3,t4,ho,t5,?_,rfl⟩
          rw[hbc,if_neg (fun e=>h1 e.1)]; exact t6
      · have e0:c=0:=by omega
        subst e0
        simp only[List.drop_zero,Int.natCast_zero] at t6
        simp (disch:=omega) only [↓wr,↓reduceIte,wq,Nat.reduceEqDiff,reduceCtorEq,t4,t5,t6]
        intro n hn
        rw[bO]
        simp (disch:=omega) only [↓wr,↓reduceIte,wq,Nat.reduceEqDiff,t4]
        refine iB (ho.fresh hn) (by simp[aP]) (by unfold aE; simp; omega) (by unfold aE; simp; omega) ?_
        intro u' H' ho' _
        simp (disch:=omega) only [↓wr,↓reduceIte,wq,ag,Nat.reduceEqDiff,reduceCtorEq,t4,t5,t6]
        refine aI hk (by omega) ⟨u',rfl,?_,t1,t3,rfl⟩
        rw[List.range_succ]; simpa using ho'
    · simp (disch:=omega) only [↓wr,↓reduceIte,wq,Nat.reduceEqDiff,reduceCtorEq,t4]
      intro h' hh
      have:j=g.au.length:=by omega
      subst this
      exact eW (by rw[hh]; exact ho)
  · have hr:bo g=false:=by simpa using hr
    rw[hr]
    simp (disch:=omega) only [↓wr,↓reduceIte,wq,encI]
    refine bb.up 0 (fun j T H'=>T 3=.aY []∧T 4=.emp 1∧T 5=gi j) ⟨rfl,rfl,rfl⟩ ?_
    rintro j k T H hk ⟨t3,t4,t5⟩
    simp (disch:=omega) only [↓wr,↓reduceIte,wq,ag,aj,Nat.reduceEqDiff,Int.reduceNeg,reduceCtorEq,ib,t3,t5]
    refine ar.dec (fun hc=>absurd hc (by simp)) (fun hc=>?_)
    simp (disch:=omega) only [↓wr,↓reduceIte,wq,Nat.reduceEqDiff,reduceCtorEq,t4]
    intro h' hh
    exact .emp _
end Gv
set_option linter.unusedSimpArgs false
set_option maxRecDepth 100000
namespace Gv
open Go Go.Proofs
def dP (s:Int × Int):List V:=[gi s.1,gi s.2]
abbrev A4 (S:List (Int × Int)):V:=.aY (S.map dP)
theorem r5 (s:Int × Int):∀ v∈dP s,Tree v:=by
  intro v hv; simp[dP] at hv
  rcases hv with rfl | rfl <;> exact .val _
theorem IS (S:List (Int × Int)):Tree (A4 S):=eU _ _ fun s _ v hv=>r5 s v hv
theorem NT (h:aG) (s:Int × Int):cK h (.agg (dP s)) (.agg (dP s)):=.agg _ _ rfl fun i hi=>by
  match i,hi with
  | 0,_=>exact .val _
  | 1,_=>exact .val _
  | n+2,h=>exact absurd h (by simp[dP])
def iR (s:Int × Int):Prop:=(0≤s.1∧s.1≤1000)∧(0≤s.2∧s.2≤1000)
theorem Bx {a b:Int × Int} (ha:iR a) (hb:iR b):iR (na a b):=by unfold iR na at *; simp only; omega
theorem PI {x:Int} : (if x < 1000 then x else 1000)=min 1000 x:=by omega
def pq:SF:=⟨.seq (ak [cr 2 0,cr 3 1,((some 4),.op (.alloc [(.val (.int .i64 0)),(.val (.int .i64 0))]))]) <|
  .seq (ak [aq 5 0 2,an 6 5,aq 7 0 3,an 8 7,aR 9 .add 6 8,((some 10),.op (.mm false (.val (.val (.int .i64 1000))) (.tmp 9))),aq 11 1 2,an 12 11,aq 13 1 3,an 14 13,aR 15 .add 12 14,((some 16),.op (.mm false (.val (.val (.int .i64 1000))) (.tmp 15))),((some 17),.op (.build [(.val (.int .i64 0)),(.val (.int .i64 0))] [(0,1,(.tmp 10)),(1,1,(.tmp 16))])),(none,.op (.store 2 (.tmp 4) (.tmp 17)))]) <|
  .ret,
  [.cell 4 (some 2)],18⟩
theorem uH:aU Tryz.prog 213 [2,3]=some pq:=by kernel_rfl
def m8:SC :=
  .seq (.seq (ak [ae 8 6,ae 9 0,aQ 10 9,aR 11 .lss 8 10]) <|
  .cond (.tmp 11) (.skip) (.exit 0)) <|
  .seq (.block 1 (.seq (ak [ae 14 0,ae 15 6,aN 16 1 14 15,an 17 16,ay 18 .geq 17 0]) <|
  .cond (.tmp 18) (ak [aS 19 2 5,((some 20),.op (.build [(.val (.int .i64 0)),(.val (.int .i64 0))] [(1,1,(.val (.val (.int .i64 1))))])),aM 21 213 [19,20],(none,.op (.store 2 (.tmp 5) (.tmp 21)))]) (ak [aS 22 2 5,ae 23 1,ae 24 0,ae 25 6,aN 26 1 24 25,an 27 26,((some 28),.op (.arith .sub (.val (.val (.int .i64 (-1)))) (.tmp 27))),aN 29 2 23 28,aS 30 2 29,aM 31 213 [22,30],(none,.op (.store 2 (.tmp 5) (.tmp 31)))]))) <|
  ak [ae 12 6,ay 13 .add 12 1,ae 6 13]
def o9:SF:=⟨.seq (ak [((some 4),.op (.alloc [(.val (.int .i64 0)),(.val (.int .i64 0))]))]) <|
  .seq (ak [((some 7),.op (.build [(.val (.int .i64 0)),(.val (.int .i64 0))] [])),((some 5),.op (.alloc [(.val (.int .i64 0)),(.val (.int .i64 0))])),(none,.op (.store 2 (.tmp 5) (.tmp 7)))]) <|
  .seq (.seq (ak [aH 6 0]) <|
  .block 0 (.loop m8)) <|
  .seq (ak [aS 32 2 5,(none,.op (.store 2 (.tmp 4) (.tmp 32)))]) <|
  .ret,
  [.cell 4 (some 2)],33⟩
theorem uo:aU Tryz.prog 214 []=some o9:=by kernel_rfl
theorem B3 (a b:Int × Int) (ha:iR a) (hb:iR b):bN Tryz.prog 213 [.agg (dP a),.agg (dP b)] (.agg (dP (na a b))):=by
  unfold iR at ha hb
  refine bN.of (by
    intro v hv; simp at hv
    rcases hv with rfl | rfl
    · exact ch _ (r5 a)
    · exact ch _ (r5 b)) ?_
  refine az.of mixed uH ?_
  simp (disch:=omega) only [↓wr,↓reduceIte,wq,ah,ag,aa,ab,Nat.reduceEqDiff,Nat.reduceAdd,Nat.reduceLT,Nat.reduceLeDiff,reduceCtorEq,pq,dP,PI]
  intro n h' _
  exact NT h' (na a b)
theorem NZ {H:View} {id n:Nat} {S:List (Int × Int)} (hv:H id=.arr 2 (S.map dP)) (hn:n=S.length):dg H (.sl id 0 n 2) (A4 S):=by
  subst hn
  exact dg.own (sz:=2) (.inr ⟨id,by simp,hv⟩) fun e he v hv=>by
    obtain ⟨x,_,rfl⟩:=List.mem_map.1 he
    exact r5 x v hv
theorem G1 {S:List (Int × Int)} {m:Nat} (hm:m < S.length):(S.map dP)[m]?=some (dP (iW S m)):=by simp[iW,List.getD_eq_getElem?_getD,hm]
set_option maxHeartbeats 2000000 in
theorem OA (l:List Int) (S:List (Int × Int)) (hl:aL l) (hS:∀ m,iR (iW S m)) (hn:∀ x∈l,bP x∧(x < 0→-1 - x < S.length)):bN Tryz.prog 214 [encI l,A4 S] (.agg (dP (ld S l (0,0)))):=by
  unfold aL at hl
  refine bN.of (by
    intro v hv; simp at hv
    rcases hv with rfl | rfl
    · exact bX l
    · exact IS S) ?_
  refine az.of mixed uo ?_
  simp (disch:=omega) only [↓wr,↓reduceIte,wq,ah,aa,ab,Nat.reduceEqDiff,Nat.reduceAdd,Nat.reduceLT,Nat.reduceLeDiff,o9,encI]
  intro n1 n2 hn2
  try simp (disch:=omega) only [↓wr,↓reduceIte,wq,ah,ag,aj,aa,ab,af,ai,isNil,Nat.reduceEqDiff,Nat.reduceAdd,Nat.reduceLT,Nat.reduceLeDiff,Int.reduceNeg,Int.reduceToNat,reduceCtorEq,encI]
  have h12:n1≠n2:=fun e=>by subst e; simp at hn2
  refine bb.up l.length (fun i T H'=>∃ s:Int × Int,iR s∧ld S (l.drop i) s=ld S l (0,0)∧H' n2=.arr 2 [dP s]∧(∃ z,H' n1=.arr 2 [[z,z]])∧T 0=encI l∧T 1=A4 S∧T 4=.ptr n1 0 0∧T 5=.ptr n2 0 0∧T 6=gi i) ?_ ?_
  · exact ⟨(0,0),by unfold iR; simp,rfl,by simp[View.set,dP],⟨gi 0,by simp[View.set,h12]⟩,rfl,rfl,rfl,rfl,rfl⟩
  clear hn2
  rintro i k T H hk ⟨s,hs,hd,hH,⟨z,hz⟩,t0,t1,t4,t5,t6⟩
  have hs0:=hs
  unfold iR at hs0
  simp (disch:=omega) only [↓wr,↓reduceIte,wq,ag,aj,Nat.reduceEqDiff,Int.reduceNeg,reduceCtorEq,m8,t0,t6,encI]
  refine ar.dec (fun hc=>?_) (fun hc=>?_)
  · have hg:l[i]?=some (l[i]'(by omega)):=List.getElem?_eq_getElem (by omega)
    have hmem:l[i]'(by omega)∈l:=List.getElem_mem _
    rw[c8 (show i < l.length by omega),ld] at hd
    generalize l[i]'(by omega)=x at hg hmem hd
    obtain ⟨⟨hx1,hx2⟩,hx3⟩:=hn x hmem
    simp (disch:=omega) only [↓wr,↓reduceIte,wq,ag,Nat.reduceEqDiff,Nat.reduceLT,Int.reduceNeg,reduceCtorEq,t0,t6,encI,List.getElem?_map,hg]
    refine ar.dec (fun hx=>?_) (fun hx=>?_)
    · rw[if_pos (show 0≤x from hx)] at hd
      simp (disch:=omega) only [↓wr,↓reduceIte,wq,aa,ab,Nat.reduceEqDiff,Nat.reduceAdd,Nat.reduceLT,Nat.reduceLeDiff,t5,hH,dP]
      refine aB.pure (B3 s (0,1) hs (by unfold iR; simp)).pure (by kernel_rfl) ?_
      have hb:=Bx hs (show iR (0,1) by unfold iR; simp)
      generalize na s (0,1)=s2 at hd hb
      simp (disch:=omega) only [↓wr,↓reduceIte,wq,ag,aa,Nat.reduceEqDiff,Nat.reduceAdd,Nat.reduceLT,Nat.reduceLeDiff,reduceCtorEq,t4,t5,t6,hH,dP]
      refine aI hk (by omega) ⟨s2,hb,hd,by simp[View.set],⟨z,by simp[View.set,h12,hz]⟩,t0,t1,t4,t5,rfl⟩
    · rw[if_neg (show ¬ 0≤x from hx)] at hd
      have hm:bG x < S.length:=by have:=hx3 (by omega); unfold bG; omega
      have hgm:=G1 hm
      have hb0:=hS (bG x)
      generalize iW S (bG x)=s1 at hd hgm hb0
      simp (disch:=omega) only [↓wr,↓reduceIte,wq,ag,Nat.reduceEqDiff,Nat.reduceAdd,Nat.reduceLT,Nat.reduceLeDiff,Int.reduceNeg,reduceCtorEq,t0,t1,t5,t6,hH,encI,List.getElem?_map,hg,hgm,dP]
      refine aB.pure (B3 s s1 hs hb0).pure (by kernel_rfl) ?_
      have hb:=Bx hs hb0
      generalize na s s1=s2 at hd hb
      simp (disch:=omega) only [↓wr,↓reduceIte,wq,ag,aa,Nat.reduceEqDiff,Nat.reduceAdd,Nat.reduceLT,Nat.reduceLeDiff,Int.reduceNeg,reduceCtorEq,t4,t5,t6,hH,dP]
      refine aI hk (by omega) ⟨s2,hb,hd,by simp[View.set],⟨z,by simp[View.set,h12,hz]⟩,t0,t1,t4,t5,rfl⟩
  · simp (disch:=omega) only [↓wr,↓reduceIte,wq,aa,Nat.reduceEqDiff,Nat.reduceAdd,Nat.reduceLT,Nat.reduceLeDiff,reduceCtorEq,t4,t5,hH,hz,dP]
    rw[List.drop_eq_nil_of_le (by omega),ld] at hd
    intro h' _
    rw[← hd]
    exact NT h' s
def lS:SC :=
  .seq (.seq (ak [ae 21 7,ae 22 3,aQ 23 22,aR 24 .lss 21 23]) <|
  .cond (.tmp 24) (.skip) (.exit 2)) <|
  .seq (.block 3 (.seq (ak [ae 27 3,ae 28 7,aN 29 1 27 28,an 30 29,ae 31 6,aR 32 .eql 30 31]) <|
  .cond (.tmp 32) (ak [ae 33 5,ae 34 7,((some 35),.op (.build [(.val (.int .i64 0)),(.val (.int .i64 0))] [(0,1,(.val (.val (.int .i64 1))))])),aq 36 2 1,an 37 36,ae 38 4,ae 39 7,aN 40 1 38 39,an 41 40,aN 42 3 37 41,aq 43 1 42,an 44 43,ae 45 5,aM 46 214 [44,45],aM 47 213 [35,46],aN 48 2 33 34,(none,.op (.store 2 (.tmp 48) (.tmp 47)))]) (.skip))) <|
  ak [ae 25 7,ay 26 .add 25 1,ae 7 26]
def l0:SC :=
  .seq (.seq (ak [ae 15 6,ae 16 3,aQ 17 16,aR 18 .leq 15 17]) <|
  .cond (.tmp 18) (.skip) (.exit 0)) <|
  .seq (.block 1 (.seq (ak [aH 7 0]) <|
  .block 2 (.loop lS))) <|
  ak [ae 19 6,ay 20 .add 19 1,ae 6 20]
def nL:SF:=⟨.seq (ak [cr 1 0,((some 2),.op (.aX (.val (.emp 1))))]) <|
  .seq (.region true [⟨none,[aS 8 4 1,aM 9 211 [8],aS 10 4 1,aM 11 171 [10],ae 3 9,ae 4 11]⟩]) <|
  .seq (ak [ae 12 3,aQ 13 12,((some 14),.op (.make 2 16 [(.val (.int .i64 0)),(.val (.int .i64 0))] (.tmp 13) (.tmp 13))),ae 5 14]) <|
  .seq (.seq (ak [aH 6 1]) <|
  .block 0 (.loop l0)) <|
  .seq (ak [ae 49 5,ae 2 49]) <|
  .ret,
  [.tmp 2],50⟩
theorem s6:aU Tryz.prog 172 [1]=some nL:=by kernel_rfl
theorem FH {S:List (Int × Int)} (hS:∀ m,iR (iW S m)):∀ (l:List Int) (s:Int × Int),iR s→iR (ld S l s)
  | [],_,h=>h
  | x :: l,s,h=>FH hS l _ (Bx h (by
                                                   split; · unfold iR; simp
                                                   · exact hS _))
def lj (g:ao):List (Int × Int):=(av g).map jP
theorem yu:jP gP=(0,0):=by decide
theorem FF (g:ao) (m:Nat):iW (lj g) m=jP (bc (av g) m):=by
  simp only[lj,iW,bc,List.getD_eq_getElem?_getD,List.getElem?_map]
  cases (av g)[m]? <;> rfl
theorem OZ (g:ao) (m:Nat):iR (jP (bc (av g) m)):=by
  have h:c9 (bc (av g) m):=fY g _ m
  unfold c9 at h
  unfold iR jP; simp only; omega
def gK (g:ao) (j i:Nat) (S:List (Int × Int)):Prop:=S.length=g.au.length∧∀ m,iW S m=if (bc (av g) m).br≤j∨((bc (av g) m).br=j+1∧m < i) then jP (bc (av g) m) else (0,0)
theorem gK.ok {g:ao} {j i:Nat} {S:List (Int × Int)} (h:gK g j i S) (m:Nat):iR (iW S m):=by
  rw[h.2 m]; split
  · exact OZ g m
  · unfold iR; simp
theorem OR {S:List (Int × Int)} {i m:Nat} {v:Int × Int} (hm:m < S.length):iW (S.set i v) m=if i=m then v else iW S m:=by
  simp only[iW,List.getD_eq_getElem?_getD,List.getElem?_set]
  split
  · rename_i e; subst e; simp[hm]
  · rfl
theorem gK.next {g:ao} {j i:Nat} {S:List (Int × Int)} (h:gK g j i S) (hi:(bc (av g) i).br≠(j:Int)+1):gK g j (i+1) S:=⟨h.1,fun m=>by
  rw[h.2 m]
  by_cases e:m=i
  · subst e
    by_cases h1:(bc (av g) m).br≤j
    · rw[if_pos (.inl h1),if_pos (.inl h1)]
    · rw[if_neg (by omega),if_neg (by omega)]
  · congr 1
    simp only[eq_iff_iff]
    constructor <;> rintro (h1 | h1) <;> first | exact .inl h1 | exact .inr ⟨h1.1,by omega⟩⟩
theorem gK.put {g:ao} {j i:Nat} {S:List (Int × Int)} (h:gK g j i S) (hi:(bc (av g) i).br=(j:Int)+1) (hn:i < g.au.length):gK g j (i+1) (S.set i (jP (bc (av g) i))):=⟨by simp[h.1],fun m=>by
  by_cases hm:m < S.length
  · rw[OR hm]
    by_cases e:i=m
    · subst e; rw[if_pos rfl,if_pos (.inr ⟨hi,by omega⟩)]
    · rw[if_neg e,h.2 m]
      congr 1
      simp only[eq_iff_iff]
      constructor <;> rintro (h1 | h1) <;> first | exact .inl h1 | exact .inr ⟨h1.1,by omega⟩
  · have:bc (av g) m=gP:=uk (by rw[eF,← h.1]; omega)
    have e:iW (S.set i (jP (bc (av g) i))) m=(0,0):=by
      simp only[iW,List.getD_eq_getElem?_getD]; rw[List.getElem?_eq_none (by simp; omega)]; rfl
    rw[e,this]
    split <;> simp[yu]⟩
theorem gK.O9 {g:ao} {j:Nat} {S:List (Int × Int)} (h:gK g j g.au.length S):gK g (j+1) 0 S:=⟨h.1,fun m=>by
  rw[h.2 m]
  by_cases hm:m < g.au.length
  · congr 1
    simp only[eq_iff_iff]
    push_cast
    constructor
    · rintro (h1 | h1) <;> left <;> omega
    · rintro (h1 | h1)
      · omega
      · omega
  · have:bc (av g) m=gP:=uk (by rw[eF]; omega)
    rw[this]; split <;> split <;> simp[yu]⟩
theorem gK.start (g:ao):gK g 0 0 (List.replicate g.au.length (0,0)):=⟨by simp,fun m=>by
  have e:iW (List.replicate g.au.length (0,0)) m=(0,0):=by
    simp only[iW,List.getD_eq_getElem?_getD,List.getElem?_replicate]
    split <;> rfl
  rw[e]
  split
  · rename_i h
    by_cases hk:bf (av g) m
    · have:=(gV hk).1; omega
    · rw[vJ hk]; simp[yu]
  · rfl⟩
theorem gK.done {g:ao} {S:List (Int × Int)} (h:gK g g.au.length 0 S):S=lj g:=by
  apply List.ext_getElem (by simp[h.1,lj,eF])
  intro m h1 h2
  have e:S[m]=iW S m:=by simp[iW,List.getD_eq_getElem?_getD,h1]
  have e2:(lj g)[m]=iW (lj g) m:=by simp[iW,List.getD_eq_getElem?_getD,h2]
  rw[e,e2,h.2 m,FF]
  by_cases hk:bf (av g) m
  · rw[if_pos (.inl (gV hk).2)]
  · rw[vJ hk]; split <;> simp[yu]
set_option maxHeartbeats 4000000 in
theorem L4 (g:ao) (hg:g.Ok) (hr:bo g=true):bN Tryz.prog 172 [.agg (al g)] (A4 (lj g)):=by
  refine bN.of (di g) ?_
  refine az.of mixed s6 ?_
  simp (disch:=omega) only [↓wr,↓reduceIte,wq,ah,Nat.reduceEqDiff,Nat.reduceAdd,Nat.reduceLeDiff,nL,al,encS]
  refine aB.pure (xf g hg).pure (by kernel_rfl) ?_
  simp (disch:=omega) only [↓wr,↓reduceIte,wq,Nat.reduceEqDiff,Nat.reduceAdd,Nat.reduceLeDiff]
  refine aB.pure (Ai g hg).pure (by kernel_rfl) ?_
  have hf:=aW hr
  have z1:=hf.kx
  have z2:=hf.au
  have z3:=hf.rules
  rw[if_pos hr,if_pos hr]
  have hhl:=eF g
  simp (disch:=omega) only [↓wr,↓reduceIte,wq,aj,Nat.reduceEqDiff,encI,hhl]
  refine ⟨⟨by omega,by unfold aE; omega,by unfold aE; omega⟩,fun h=>by omega,?_⟩
  intro _ b
  try simp (disch:=omega) only [↓wr,↓reduceIte,wq,ah,ag,aj,aa,ab,af,ai,isNil,Nat.reduceEqDiff,Nat.reduceAdd,Nat.reduceLT,Nat.reduceLeDiff,Int.reduceNeg,Int.reduceToNat,reduceCtorEq]
  refine bb.up g.au.length (fun j T H'=>∃ S,gK g j 0 S∧H' b=.arr 2 (S.map dP)∧T 1=.aT (al g) 0∧T 3=encI (dX (av g))∧T 4=encI (fv g)∧T 5=.sl b 0 g.au.length 2∧T 6=gi ((j:Int)+1)) ?_ ?_
  · refine ⟨_,.start g,?_,rfl,rfl,rfl,rfl,rfl⟩
    simp[View.set,dP]
  rintro j k T H hk ⟨S,hS,hb,t1,t3,t4,t5,t6⟩
  simp (disch:=omega) only [↓wr,↓reduceIte,wq,ag,aj,Nat.reduceEqDiff,reduceCtorEq,l0,t3,t6,encI,hhl]
  refine ar.dec (fun hc=>?_) (fun hc=>?_)
  · simp (disch:=omega) only [↓wr,wq]
    refine bb.up g.au.length (fun i T H'=>∃ S,gK g j i S∧H' b=.arr 2 (S.map dP)∧T 1=.aT (al g) 0∧T 3=encI (dX (av g))∧T 4=encI (fv g)∧T 5=.sl b 0 g.au.length 2∧T 6=gi ((j:Int)+1)∧T 7=gi i) ⟨S,hS,hb,t1,t3,t4,t5,t6,rfl⟩ ?_
    clear t1 t3 t4 t5 t6 hS hb
    rintro i q T H hq ⟨S,hS,hb,t1,t3,t4,t5,t6,t7⟩
    simp (disch:=omega) only [↓wr,↓reduceIte,wq,ag,aj,Nat.reduceEqDiff,lS,t3,t7,encI,hhl]
    refine ar.dec (fun hc2=>?_) (fun hc2=>?_)
    · have hgh:=yO (h:=dX (av g)) (m:=i) (by simp; omega)
      rw[kp] at hgh
      simp (disch:=omega) only [↓wr,↓reduceIte,wq,ag,Nat.reduceEqDiff,Nat.reduceLT,t3,t6,t7,encI,List.getElem?_map,hgh]
      refine ar.eq (fun hi=>?_) (fun hi=>?_)
      · have hk2:bf (av g) i:=by
          by_cases h:bf (av g) i
          · exact h
          · rw[vJ h] at hi; simp[gP] at hi; omega
        obtain ⟨ri,r,hr2,hl2,ha2,hp2,_⟩:=kZ hk2
        have hri:(bc (av g) i).ba=ri:=by rw[hp2]; rfl
        have hgr:=yO (h:=fv g) (m:=i) (by simp[fv,hhl]; omega)
        have hrv:ey (fv g) i=ri:=by
          rw[← hri]; simp[fv,ey,bc,List.getD_eq_getElem?_getD,hhl,show i < g.au.length by omega]
        rw[hrv] at hgr
        have hmem:=List.mem_of_getElem? hr2
        have hrl:ri < g.rules.length:=(List.getElem?_eq_some_iff.1 hr2).1
        have hrw:=hg.ba r hmem
        simp (disch:=omega) only [↓wr,↓reduceIte,wq,aa,ab,Nat.reduceEqDiff,Nat.reduceAdd,Nat.reduceLT,Nat.reduceLeDiff,t1,t4,t5,t7,encI,al,aJ,List.getElem?_map,hgr,hr2]
        refine aB.oJ (OA r.right S hrw.2.2.1 hS.ok fun x hx=>⟨hrw.2.2.2 x hx,fun hn=>by rw[hS.1]; exact hf.neg hmem hx hn⟩) (by kernel_rfl) ⟨dg.tree (bX r.right),NZ hb hS.1.symm,trivial⟩ ?_
        have hsz:=JB (S:=S) hk2 hr2 hri fun k hk3 hk4=>by rw[hS.2 k,if_pos (.inl (by omega))]
        have hz0:iR (ld S r.right (0,0)):=FH hS.ok _ _ (by unfold iR; simp)
        generalize ld S r.right (0,0)=z at hsz hz0
        simp (disch:=omega) only [↓wr,↓reduceIte,wq,Nat.reduceEqDiff]
        refine aB.pure (B3 (1,0) z (by unfold iR; simp) hz0).pure (by kernel_rfl) ?_
        rw[hsz]
        simp (disch:=omega) only [↓wr,↓reduceIte,wq,ag,aa,Nat.reduceEqDiff,Nat.reduceAdd,Nat.reduceLeDiff,reduceCtorEq,t5,t6,t7,hb,dP]
        have hSl:=hS.1
        have hgS:(S.map dP).getD i []=dP (iW S i):=by simp[iW,List.getD_eq_getElem?_getD,show i < S.length by omega]
        refine ⟨by omega,by omega,aI hq (by omega) ⟨_,hS.put hi (by omega),?_,t1,t3,t4,t5,t6,rfl⟩⟩
        simp only[View.set,if_true]
        rw[List.map_set,hgS]; simp only[dP,List.drop_succ_cons,List.drop_nil]
      · simp (disch:=omega) only [↓wr,↓reduceIte,wq,ag,Nat.reduceEqDiff,reduceCtorEq,t5,t6,t7]
        exact aI hq (by omega) ⟨S,hS.next hi,hb,t1,t3,t4,t5,t6,rfl⟩
    · simp (disch:=omega) only [↓wr,↓reduceIte,wq,Nat.reduceEqDiff,reduceCtorEq,t5,t6]
      have hS':i=g.au.length:=by omega
      subst hS'
      exact aI hk (by omega) ⟨S,hS.O9,hb,t1,t3,t4,t5,rfl⟩
  · simp (disch:=omega) only [↓wr,↓reduceIte,wq,Nat.reduceEqDiff,reduceCtorEq,t5]
    have hS':j=g.au.length:=by omega
    subst hS'
    rw[hS.done] at hb
    intro h' hh
    exact cK.own (sz:=2) (.inr ⟨b,by simp[lj,hhl],by rw[hh]; exact hb⟩) rfl (fun i _=>rfl) (fun i j hi hj=>by
      simp only[List.length_map] at hi
      have e:((lj g).map dP).getD i []=dP (lj g)[i]:=by simp[List.getD_eq_getElem?_getD,hi]
      rw[e] at hj ⊢
      match j,hj with
      | 0,_=>exact .val _
      | 1,_=>exact .val _
      | n+2,h=>exact absurd h (by simp[dP]))
end Gv
set_option linter.unusedSimpArgs false
set_option maxRecDepth 100000
namespace Gv
open Go Go.Proofs
def fP:SC :=
  .seq (.seq (ak [ae 10 8,ae 11 1,aQ 12 11,aR 13 .lss 10 12]) <|
  .cond (.tmp 13) (.skip) (.exit 0)) <|
  .seq (.block 1 (.seq (ak [ae 16 1,ae 17 8,aN 18 1 16 17,an 19 18,ay 20 .lss 19 0]) <|
  .cond (.tmp 20) (.seq (ak [ae 21 2,ae 22 1,ae 23 8,aN 24 1 22 23,an 25 24,((some 26),.op (.arith .sub (.val (.val (.int .i64 (-1)))) (.tmp 25))),aN 27 1 21 26,an 28 27,ae 9 28]) <|
  ak [ae 29 7,ae 30 9,((some 31),.op (.bB 1 1 [(.val (.int .i64 0))] [(0,(.tmp 30))])),((some 32),.op (.app 1 8 (.tmp 29) (.tmp 31))),((some 33),.op (.qD (some 4) (.tmp 3))),aq 34 2 3,((some 35),.op (.qD none (.tmp 34))),ae 36 9,aN 37 3 35 36,aq 38 1 37,((some 39),.op (.qD none (.tmp 38))),ae 40 2,aM 41 173 [33,39,40],((some 42),.op (.app 1 8 (.tmp 32) (.tmp 41))),ae 7 42]) (.skip))) <|
  ak [ae 14 8,ay 15 .add 14 1,ae 8 15]
def jO:SF:=⟨.seq (ak [cr 3 0,((some 6),.op (.aX (.val (.emp 1))))]) <|
  .seq (ak [((some 7),.op (.aX (.val (.emp 1))))]) <|
  .seq (.seq (ak [aH 8 0]) <|
  .block 0 (.loop fP)) <|
  .seq (ak [ae 43 7,ae 6 43]) <|
  .ret,
  [.tmp 6],44⟩
theorem lC:aU Tryz.prog 173 [3]=some jO:=by kernel_rfl
theorem vd {g:ao} {m:Nat} (h:m < g.au.length):(fv g)[m]?=some (bc (av g) m).ba:=by
  have:m < (av g).length:=by rw[eF]; exact h
  simp[fv,bc,List.getD_eq_getElem?_getD,this]
theorem C5 (g:ao) (f:Nat) (l:List Int) (i:Nat):(cB g (av g) f (l.take i)).length≤(cB g (av g) f l).length:=by
  have:=fu g (av g) f (l.take i) (l.drop i)
  rw[List.take_append_drop] at this
  rw[this]; simp
theorem Kc (g:ao) (f:Nat) (l:List Int) (i:Nat):(dD g (av g) f (l.take i)).length≤(dD g (av g) f l).length:=by
  have:=iD g (av g) f (l.take i) (l.drop i)
  rw[List.take_append_drop] at this
  rw[this]; simp
set_option maxHeartbeats 4000000 in
theorem JY (g:ao) (hg:g.Ok) (hf:g.gm):∀ (f:Nat) (l:List Int),aL l→(∀ x∈l,bP x∧(x < 0→-1 - x < g.au.length))→xV (av g) f l→(cB g (av g) f l).length≤100000→∀ H:View,
    az Tryz.prog 173 [.agg (al g),encI l,encI (fv g)] H fun r H'=>aV H' r 1 (aZ (cB g (av g) f l))∧cP H H' r:=by
  intro f
  induction f using Nat.strongRecOn with
  | _ f ih =>
    intro l hl hn hu hb H0
    refine az.of mixed lC ?_
    unfold aL at hl
    simp (disch:=omega) only [↓wr,wq,ah,Nat.reduceAdd,Nat.reduceLeDiff,jO,encI,al,encS]
    refine bb.up l.length (fun i T H'=>∃ u,T 7=u∧aV H' u 1 (aZ (cB g (av g) f (l.take i)))∧cP H0 H' u∧T 1=encI l∧T 2=encI (fv g)∧T 3=.aT (al g) 0∧T 8=gi i) ⟨.emp 1,rfl,by rw[List.take_zero,pO]; exact .nil,.emp,rfl,rfl,rfl,rfl⟩ ?_
    rintro i k T H hk ⟨u,t7,ho,hfr,t1,t2,t3,t8⟩
    simp (disch:=omega) only [↓wr,↓reduceIte,wq,ag,aj,Nat.reduceEqDiff,Int.reduceNeg,reduceCtorEq,fP,t1,t8,encI]
    refine ar.dec (fun hc=>?_) (fun hc=>?_)
    · have hg1:l[i]?=some (l[i]'(by omega)):=List.getElem?_eq_getElem (by omega)
      have hmem:l[i]'(by omega)∈l:=List.getElem_mem _
      have htk:l.take (i+1)=l.take i ++ [l[i]'(by omega)]:=by rw[List.take_add_one,hg1]; rfl
      have hbt:=C5 g f l (i+1)
      generalize l[i]'(by omega)=x at hg1 hmem htk
      obtain ⟨⟨hx1,hx2⟩,hx3⟩:=hn x hmem
      rw[htk,fu] at hbt
      simp (disch:=omega) only [↓wr,↓reduceIte,wq,ag,Nat.reduceEqDiff,Nat.reduceLT,Int.reduceNeg,t1,t8,encI,List.getElem?_map,hg1]
      refine ar.dec (fun hx=>?_) (fun hx=>?_)
      · obtain ⟨f,rfl⟩:∃ f',f=f'+1:=by
          cases f with
          | zero=>have:=ua hu x hmem; omega
          | succ f=>exact ⟨f,rfl⟩
        obtain ⟨hkn,hh⟩:=hu x hmem hx
        obtain ⟨ri,r,hi,hr,hra,hur,_⟩:=ov (f:=f) hkn (by push_cast at hh; exact hh)
        have hgr:=vd (g:=g) (m:=bG x) (by have:=hx3 hx; unfold bG; omega)
        have hmr:=List.mem_of_getElem? hr
        have hrl:ri < g.rules.length:=(List.getElem?_eq_some_iff.1 hr).1
        have hrw:=hg.ba r hmr
        rw[gG hx,hra,hi] at hbt
        rw[hi] at hgr
        simp only[List.length_append,List.length_cons] at hbt
        simp (disch:=omega) only [↓wr,↓reduceIte,wq,ag,af,Nat.reduceEqDiff,Nat.reduceLT,Int.reduceNeg,t1,t2,t7,t8,encI,List.getElem?_map,hg1,hgr]
        intro n hn1
        rw[bO]
        simp (disch:=omega) only [↓wr,↓reduceIte,wq,Nat.reduceEqDiff,Int.reduceNeg]
        refine iB (ho.fresh hn1) (by simp[aP]) (by unfold aE; simp; omega) (by unfold aE; simp; omega) ?_
        intro u1 H1 ho1 hl1
        have hf1:=(hfr.put hn1).step hl1
        simp (disch:=omega) only [↓wr,↓reduceIte,wq,Nat.reduceEqDiff,Nat.reduceAdd,Nat.reduceLT,Nat.reduceLeDiff,Int.reduceNeg,t2,t3,al,aJ,encI,encS,List.getElem?_map,hr]
        have ihc:=ih f (by omega) r.right hrw.2.2.1 (fun y hy=>⟨hrw.2.2.2 y hy,fun hn=>hf.neg hmr hy hn⟩) hur (by omega) H1
        simp only[al,encI,encS] at ihc
        refine aB.gq (ihc.mono ?_)
        rintro v H2 ⟨hv,hfv⟩
        obtain ⟨rd,he⟩:=hv.elems
        simp (disch:=omega) only [↓wr,↓reduceIte,wq,Nat.reduceEqDiff,Int.reduceNeg,he]
        refine iB (ho1.Ew hfv) (by simp[List.all_map,aP]) (by unfold aE; simp; omega) (by unfold aE; simp; omega) ?_
        intro u3 H3 ho3 hl3
        simp (disch:=omega) only [↓wr,↓reduceIte,wq,ag,Nat.reduceEqDiff,Int.reduceNeg,reduceCtorEq,t8]
        refine aI hk (by omega) ⟨u3,rfl,?_,(hf1.call hfv).step hl3,t1,t2,t3,rfl⟩
        rw[htk,fu,gG hx,hra,hi]
        simpa using ho3
      · simp (disch:=omega) only [↓wr,↓reduceIte,wq,ag,Nat.reduceEqDiff,reduceCtorEq,t7,t8]
        refine aI hk (by omega) ⟨u,t7,?_,hfr,t1,t2,t3,rfl⟩
        rw[htk,fu,kr (by omega),List.append_nil]; exact ho
    · simp (disch:=omega) only [↓wr,↓reduceIte,wq,Nat.reduceEqDiff,reduceCtorEq,t7]
      rw[List.take_of_length_le (by omega)] at ho
      exact ⟨ho,hfr⟩
set_option maxHeartbeats 4000000 in
theorem DR (g:ao) (hg:g.Ok) (hf:g.gm) (f:Nat) (x:Int) (hx:bP x) (hx0:x < 0) (hx1 : -1 - x < g.au.length) (hu:xV (av g) f [x]) (hb:(cB g (av g) f [x]).length≤100000) (H0:View) (m:Nat) (hm:H0 m=.arr 1 [[gi x]]) :
    az Tryz.prog 173 [.agg (al g),.sl m 0 1 1,encI (fv g)] H0 fun r H'=>aV H' r 1 (aZ (cB g (av g) f [x]))∧cP H0 H' r:=by
  unfold bP at hx
  refine az.of mixed lC ?_
  simp (disch:=omega) only [↓wr,wq,ah,Nat.reduceAdd,Nat.reduceLeDiff,jO,encI,al,encS]
  refine bb.up 1 (fun i T H'=>((i=0∧T 7=.emp 1∧H'=H0)∨(i=1∧∃ u,T 7=u∧aV H' u 1 (aZ (cB g (av g) f [x]))∧cP H0 H' u))∧T 1=.sl m 0 1 1∧T 2=encI (fv g)∧T 3=.aT (al g) 0∧T 8=gi i) ⟨.inl ⟨rfl,rfl,rfl⟩,rfl,rfl,rfl,rfl⟩ ?_
  rintro i k T H hk ⟨h7,t1,t2,t3,t8⟩
  rcases h7 with ⟨rfl,t7,rfl⟩ | ⟨rfl,u,t7,ho,hfr⟩
  · simp (disch:=omega) only [↓wr,↓reduceIte,wq,ag,aj,Nat.reduceEqDiff,Int.reduceNeg,reduceCtorEq,fP,t1,t8]
    refine ar.dec (fun _=>?_) (fun hc=>absurd hc (by decide))
    simp (disch:=omega) only [↓wr,↓reduceIte,wq,ag,Nat.reduceEqDiff,Nat.reduceLT,Int.reduceNeg,t1,t8,hm]
    refine ar.dec (fun _=>?_) (fun hc=>absurd hx0 hc)
    obtain ⟨f,rfl⟩:∃ f',f=f'+1:=by
      cases f with
      | zero=>have:=ua hu x (by simp); omega
      | succ f=>exact ⟨f,rfl⟩
    obtain ⟨hkn,hh⟩:=hu x (by simp) hx0
    obtain ⟨ri,r,hi,hr,hra,hur,_⟩:=ov (f:=f) hkn (by push_cast at hh; exact hh)
    have hgr:=vd (g:=g) (m:=bG x) (by unfold bG; omega)
    have hmr:=List.mem_of_getElem? hr
    have hrl:ri < g.rules.length:=(List.getElem?_eq_some_iff.1 hr).1
    have hrw:=hg.ba r hmr
    rw[gG hx0,hra,hi] at hb ⊢
    rw[hi] at hgr
    simp only[List.length_cons] at hb
    simp (disch:=omega) only [↓wr,↓reduceIte,wq,ag,af,Nat.reduceEqDiff,Nat.reduceLT,Int.reduceNeg,t1,t2,t7,t8,hm,encI,List.getElem?_map,hgr]
    intro n hn1
    rw[bO]
    simp (disch:=omega) only [↓wr,↓reduceIte,wq,Nat.reduceEqDiff,Int.reduceNeg]
    refine iB (aV.nil (sz:=1) (k:=1)) (by simp[aP]) (by unfold aE; simp) (by unfold aE; simp) ?_
    intro u1 H1 ho1 hl1
    have hf1:=((cP.emp (H:=H) (k:=1)).put hn1).step hl1
    simp (disch:=omega) only [↓wr,↓reduceIte,wq,Nat.reduceEqDiff,Nat.reduceAdd,Nat.reduceLT,Nat.reduceLeDiff,Int.reduceNeg,t2,t3,al,aJ,encI,encS,List.getElem?_map,hr]
    have ihc:=JY g hg hf f r.right hrw.2.2.1 (fun y hy=>⟨hrw.2.2.2 y hy,fun hn=>hf.neg hmr hy hn⟩) hur (by omega) H1
    simp only[al,encI,encS] at ihc
    refine aB.gq (ihc.mono ?_)
    rintro v H2 ⟨hv,hfv⟩
    obtain ⟨rd,he⟩:=hv.elems
    simp (disch:=omega) only [↓wr,↓reduceIte,wq,Nat.reduceEqDiff,Int.reduceNeg,he]
    refine iB (ho1.Ew hfv) (by simp[List.all_map,aP]) (by unfold aE; simp; omega) (by unfold aE; simp; omega) ?_
    intro u3 H3 ho3 hl3
    simp (disch:=omega) only [↓wr,↓reduceIte,wq,ag,Nat.reduceEqDiff,Int.reduceNeg,reduceCtorEq,t8]
    exact ⟨0,by omega,1,by omega,.inr ⟨rfl,u3,rfl,by simpa using ho3,(hf1.call hfv).step hl3⟩,t1,t2,t3,rfl⟩
  · simp (disch:=omega) only [↓wr,↓reduceIte,wq,ag,aj,Nat.reduceEqDiff,Int.reduceNeg,reduceCtorEq,fP,t1,t8]
    refine ar.dec (fun hc=>absurd hc (by decide)) (fun _=>?_)
    simp (disch:=omega) only [↓wr,↓reduceIte,wq,Nat.reduceEqDiff,reduceCtorEq,t7]
    exact ⟨ho,hfr⟩
end Gv
set_option linter.unusedSimpArgs false
set_option maxRecDepth 100000
namespace Gv
open Go Go.Proofs
def iq (x:List Int × Int):V:=.bt [encI x.1,gi x.2]
theorem cR {h:aG} {u:V} {x:List Int × Int} (hu:cK h u (encI x.1)):cK h (.bt [u,gi x.2]) (iq x):=zo hu (.val _)
theorem AB {g:ao} {l:List Int} (h:fF (av g) l):xV (av g) g.au.length l:=fun x hx hn=>⟨h x hx hn,(gV (h x hx hn)).2⟩
theorem Eb {g:ao} {n:Int} (h0:0≤n) (hk:bf (av g) n.toNat):((cB g (av g) g.au.length [-1 - n]).length:Int)=(cB g (av g) g.au.length [-1 - n]).length∧fF (av g) [-1 - n]:=by
  refine ⟨rfl,fun x hx hn=>?_⟩
  simp at hx; subst hx
  rw[show bG (-1 - n)=n.toNat by unfold bG; omega]; exact hk
theorem xS {g:ao} {l:List Int} (h:fF (av g) l) (hs:(bF (av g) l bq).1.rules≤300):((cB g (av g) g.au.length l).length:Int)=(bF (av g) l bq).1.rules:=by
  have:=(x7 g g.au.length l bq (AB h) j3).1
  simp only[bq] at this hs ⊢
  omega
theorem yL {g:ao} {n:Int} (h0:0≤n) (hk:bf (av g) n.toNat):(bF (av g) [-1 - n] bq).1.rules=(bc (av g) n.toNat).rules∧(bF (av g) [-1 - n] bq).1.ax=(bc (av g) n.toNat).ax:=by
  have hp:c9 (bc (av g) n.toNat):=fY g _ _
  have e:bG (-1 - n)=n.toNat:=by unfold bG; omega
  unfold bf at hk
  rw[vZ (by omega) (by rw[e]; omega),e]
  unfold c9 at hp
  simp only[bF,bq]; omega
def py:SF:=⟨.seq (ak [cr 2 0,((some 4),.op (.aX (.val (.emp 1)))),aH 5 0]) <|
  .seq (.seq (.region false [⟨none,[aS 7 4 2,aM 8 48 [7],cm 9 8,ae 10 9]⟩,⟨(some (10,false)),[ae 11 1,ay 12 .lss 11 0]⟩,⟨none,[bI 13 10 12,ae 14 13]⟩,⟨(some (14,false)),[ae 15 1,aq 16 1 2,an 17 16,aQ 18 17,aR 19 .geq 15 18]⟩,⟨none,[bI 20 14 19]⟩]) <|
  .cond (.tmp 20) (.seq (ak [((some 4),.op (.aX (.val (.emp 1)))),aH 5 1]) <|
  .ret) (.skip)) <|
  .seq (ak [aS 21 4 2,aM 22 171 [21],ae 6 22]) <|
  .seq (.seq (ak [ae 23 6,ae 24 1,aN 25 1 23 24,an 26 25,ay 27 .lss 26 0]) <|
  .cond (.tmp 27) (.seq (ak [((some 4),.op (.aX (.val (.emp 1)))),aH 5 9]) <|
  .ret) (.skip)) <|
  .seq (.seq (ak [aS 28 4 2,aM 29 172 [28],ae 30 1,aN 31 2 29 30,aq 32 0 31,an 33 32,ay 34 .gtr 33 300]) <|
  .cond (.tmp 34) (.seq (ak [((some 4),.op (.aX (.val (.emp 1)))),aH 5 13]) <|
  .ret) (.skip)) <|
  .seq (ak [aS 35 4 2,ae 36 1,((some 37),.op (.arith .sub (.val (.val (.int .i64 (-1)))) (.tmp 36))),((some 38),.op (.bB 1 1 [(.val (.int .i64 0))] [(0,(.tmp 37))])),ae 39 6,aM 40 173 [35,38,39],ae 4 40,aH 5 0]) <|
  .ret,
  [.tmp 4,.tmp 5],41⟩
theorem uf:aU Tryz.prog 112 [2]=some py:=by kernel_rfl
set_option maxHeartbeats 4000000 in
theorem J3 (g:ao) (hg:g.Ok) (n:Int) (hn:bP n):bN Tryz.prog 112 [.agg (al g),gi n] (iq (fb g n)):=by
  have hsh:=hg.au
  unfold aL at hsh
  unfold bP at hn
  refine bN.of (vL g n) ?_
  refine az.of mixed uf ?_
  simp (disch:=omega) only [↓wr,↓reduceIte,wq,ah,Nat.reduceEqDiff,Nat.reduceAdd,Nat.reduceLeDiff,Int.reduceNeg,py,al,encS]
  refine aB.pure (iG g hg) (by kernel_rfl) ?_
  have bad:∀ h':aG,(bo g && decide (0≤n) && decide (n < g.au.length))=false→cK h' (.bt [.emp 1,gi 1]) (iq (fb g n)):=fun h' e=>by
    unfold fb; rw[if_neg (by rw[e]; simp)]; exact cR (x:=([],1)) (.emp _)
  repeat' (first | (refine ar.dec (fun _=>?_) (fun _=>?_)) | (refine ar.eq (fun _=>?_) (fun _=>?_)) | (refine ar.ne (fun _=>?_) (fun _=>?_)) | (refine ar.split (fun _=>?_) (fun _=>?_)) | (simp (disch:=omega) only [↓wr,↓reduceIte,wq,ag,aj,Nat.reduceEqDiff,Nat.reduceAdd,Nat.reduceLT,Nat.reduceLeDiff,Int.reduceNeg,reduceCtorEq]))
  all_goals first
    | (intro h' _; refine bad h' ?_; simp only[Bool.and_eq_false_iff,decide_eq_false_iff_not]; first | (left; left; assumption) | (left; right; omega) | (right; omega))
    | skip
  have hr:bo g=true:=by assumption
  have h0:0≤n:=by omega
  have h1:n < g.au.length:=by omega
  have hf:=aW hr
  have z1:=hf.kx
  have z2:=hf.au
  have z3:=hf.rules
  have hR:=Ai g hg
  have hA:fb g n=_:=if_pos (by simp[hr,h0,h1])
  rw[if_pos hr] at hR
  refine aB.pure hR.pure (by kernel_rfl) ?_
  have hgr:=vd (g:=g) (m:=n.toNat) (by omega)
  have hok:=(Aa (g:=g) z3 z2 n.toNat)
  have hok:wb (bc (av g) n.toNat):=hok
  unfold wb c9 at hok
  simp (disch:=omega) only [↓wr,↓reduceIte,wq,ag,Nat.reduceEqDiff,Nat.reduceLT,Int.reduceNeg,encI,List.getElem?_map,hgr]
  refine ar.dec (fun hk=>?_) (fun hk=>?_)
  · simp (disch:=omega) only [↓wr,↓reduceIte,wq,Nat.reduceEqDiff,Int.reduceNeg,reduceCtorEq]
    rw[if_pos hk] at hA
    intro h' _
    rw[hA]; exact cR (x:=([],9)) (.emp _)
  · rw[if_neg hk] at hA
    have hkn:bf (av g) n.toNat:=by unfold bf; omega
    simp (disch:=omega) only [↓wr,↓reduceIte,wq,Nat.reduceEqDiff,Nat.reduceAdd,Nat.reduceLeDiff,Int.reduceNeg]
    refine aB.pure (L4 g hg hr).pure (by kernel_rfl) ?_
    have hgs:=G1 (S:=lj g) (m:=n.toNat) (by simp[lj,eF]; omega)
    rw[FF] at hgs
    simp (disch:=omega) only [↓wr,↓reduceIte,wq,ag,Nat.reduceEqDiff,Nat.reduceAdd,Nat.reduceLT,Int.reduceNeg,hgs,dP,jP]
    refine ar.dec (fun hs=>?_) (fun hs=>?_)
    · simp (disch:=omega) only [↓wr,↓reduceIte,wq,Nat.reduceEqDiff,Int.reduceNeg,reduceCtorEq]
      rw[if_pos (by omega)] at hA
      intro h' _
      rw[hA]; exact cR (x:=([],13)) (.emp _)
    · rw[if_neg (by omega)] at hA
      simp (disch:=omega) only [↓wr,↓reduceIte,wq,ag,af,Nat.reduceEqDiff,Nat.reduceAdd,Nat.reduceLT,Nat.reduceLeDiff,Int.reduceNeg]
      intro m
      try simp (disch:=omega) only [↓wr,↓reduceIte,wq,ah,ag,aj,aa,ab,af,ai,isNil,Nat.reduceEqDiff,Nat.reduceAdd,Nat.reduceLT,Nat.reduceLeDiff,Int.reduceNeg,Int.reduceToNat,reduceCtorEq,encI,al,encS]
      have hall:=(Eb h0 hkn).2
      have hso:=yL h0 hkn
      have htl:=xS hall (by rw[hso.1]; omega)
      have hone:=DR g hg hf g.au.length (-1 - n) (by unfold bP; omega) (by omega) (by omega) (AB hall) (by omega) (View.set (fun _=>.dead) m (.arr 1 [[gi (-1 - n)]])) m (by simp[View.set])
      simp only[al,encI,encS] at hone
      refine aB.gq (hone.mono ?_)
      rintro v H1 ⟨hv,_⟩
      simp (disch:=omega) only [↓wr,↓reduceIte,wq,Nat.reduceEqDiff,Int.reduceNeg,reduceCtorEq]
      intro h' hh
      rw[hA]; exact cR (x:=(_,0)) (eW (by rw[hh]; exact hv))
def x8 (P:List bh) (l:List Int):Bool:=l.any fun x=>decide (x < 0) && decide ((bc P (bG x)).ba < 0)
theorem Ja (P:List bh) (l:List Int) (s:bh):(bF P l s).2 = !x8 P l:=by
  have h:=jc P l s
  cases hb:x8 P l with
  | true =>
    simp only[x8,List.any_eq_true,Bool.and_eq_true,decide_eq_true_eq] at hb
    obtain ⟨x,hx,hn,hk⟩:=hb
    cases hs:(bF P l s).2 with
    | true=>have:=h.1 hs x hx hn; unfold bf at this; omega
    | false=>rfl
  | false =>
    rw[Bool.not_false,h]
    intro x hx hn
    simp only[x8,List.any_eq_false,Bool.and_eq_true,decide_eq_true_eq] at hb
    have:=hb x hx
    unfold bf; omega
end Gv
set_option linter.unusedSimpArgs false
namespace Gv
open Go Go.Proofs
theorem In.app {p:List Int} {T:Nat→Nat→Nat→Prop} {a:List Int} {i k:Nat} (h:In p T a i k):∀ {b:List Int} {j:Nat},In p T b k j→In p T (a ++ b) i j:=by
  induction h with
  | nil=>exact fun h=>h
  | term s l i _ h0 hf _ ih=>exact fun hb=>.term s _ i _ h0 hf (ih hb)
  | bY s l i k _ h0 h1 _ ih=>exact fun hb=>.bY s _ i k _ h0 h1 (ih hb)
theorem In.split {p:List Int} {T:Nat→Nat→Nat→Prop} : ∀ {a b:List Int} {i j:Nat},In p T (a ++ b) i j→∃ k,In p T a i k∧In p T b k j
  | [],b,i,j,h=>⟨i,.nil i,h⟩
  | s :: a,b,i,j,h=>by
    cases h with
    | term _ _ _ _ h0 hf h =>
      obtain ⟨k,h1,h2⟩:=In.split h
      exact ⟨k,.term s a i k h0 hf h1,h2⟩
    | bY _ _ _ m _ h0 h1 h =>
      obtain ⟨k,h2,h3⟩:=In.split h
      exact ⟨k,.bY s a i m k h0 h1 h2,h3⟩
theorem In.le {p:List Int} {T:Nat→Nat→Nat→Prop} (hT:∀ n i j,T n i j→i≤j) {l:List Int} {i j:Nat} (h:In p T l i j):i≤j:=by
  induction h with
  | nil=>exact Nat.le_refl _
  | term _ _ _ _ _ _ _ ih=>omega
  | bY _ _ _ _ _ _ h1 _ ih=>have:=hT _ _ _ h1; omega
def stepT (p:List Int) (T:Nat→Nat→Nat→Prop) (s:Int) (i j:Nat):Prop:=if 0≤s then pA p i s∧j=i+1 else T (-1 - s).toNat i j
theorem In.one {p:List Int} {T:Nat→Nat→Nat→Prop} {s:Int} {i j:Nat} : In p T [s] i j↔stepT p T s i j:=by
  unfold stepT
  constructor
  · intro h
    cases h with
    | term _ _ _ _ h0 hf h=>cases h; rw[if_pos h0]; exact ⟨hf,rfl⟩
    | bY _ _ _ _ _ h0 h1 h=>cases h; rw[if_neg (by omega)]; exact h1
  · intro h
    by_cases h0:0≤s
    · rw[if_pos h0] at h
      obtain ⟨hf,rfl⟩:=h
      exact .term s [] i _ h0 hf (.nil _)
    · rw[if_neg h0] at h
      exact .bY s [] i j j (by omega) h (.nil _)
abbrev Tb:=List (List (List Bool))
def zM (T:Tb) (N M:Nat):Prop:=T.length=N∧∀ r∈T,r.length=M∧∀ c∈r,c.length=M
theorem zM.row {T:Tb} {N M n:Nat} (h:zM T N M) (hn:n < N):∃ r,T[n]?=some r∧r.length=M∧T.getD n []=r:=by
  have:n < T.length:=by rw[h.1]; exact hn
  exact ⟨T[n],List.getElem?_eq_getElem this,(h.2 _ (List.getElem_mem _)).1,by simp[List.getD_eq_getElem?_getD,this]⟩
theorem zM.cell {T:Tb} {N M n i:Nat} (h:zM T N M) (hn:n < N) (hi:i < M):∃ r c,T[n]?=some r∧r[i]?=some c∧c.length=M∧(T.getD n []).getD i []=c:=by
  obtain ⟨r,hr,hl,hg⟩:=h.row hn
  have h1:i < r.length:=by omega
  refine ⟨r,r[i],hr,List.getElem?_eq_getElem h1,(h.2 r (List.mem_of_getElem? hr)).2 _ (List.getElem_mem _),?_⟩
  rw[hg]; simp[List.getD_eq_getElem?_getD,h1]
def Ik (T:Tb) (n i j:Nat):Tb:=T.set n ((T.getD n []).set i (((T.getD n []).getD i []).set j true))
def PF (N M:Nat):Tb:=List.replicate N (List.replicate M (List.replicate M false))
end Gv
set_option linter.unusedSimpArgs false
set_option maxRecDepth 100000
namespace Gv
open Go Go.Proofs
def Nx (T:Tb):V:=.aY (T.map fun r=>[.aY (r.map fun c=>[bE c])])
end Gv
set_option linter.unusedSimpArgs false
set_option maxRecDepth 100000
namespace Gv
open Go Go.Proofs
end Gv
set_option linter.unusedSimpArgs false
set_option maxRecDepth 100000
namespace Gv
open Go Go.Proofs
structure rF (H:View) (I N M:Nat) (R:Nat→Nat) (C:Nat→Nat→Nat) (T:Tb):Prop where
  top:H I=.arr 1 ((List.range N).map fun n=>[.sl (R n) 0 M 1])
  row:∀ n,n < N→H (R n)=.arr 1 ((List.range M).map fun i=>[.sl (C n i) 0 M 1])
  cell:∀ n i,n < N→i < M→H (C n i)=.arr 1 (ct ((T.getD n []).getD i []))
  inj:∀ n i n' i',n < N→i < M→n' < N→i' < M→C n i=C n' i'→n=n'∧i=i'
theorem zp {c:List Bool} {k:Nat} {F:Nat→List V} (hc:0 < c.length) (h:ct c=(List.range k).map F) (hF:∀ n x,F n≠[gb x]):False:=by
  cases c with
  | nil=>simp at hc
  | cons x c =>
    cases k with
    | zero=>simp at h
    | succ k =>
      rw[List.range_succ_eq_map] at h
      simp only[List.map_cons,List.cons.injEq] at h
      exact hF 0 x h.1.symm
theorem rF.keep {H H':View} {I N M:Nat} {R:Nat→Nat} {C:Nat→Nat→Nat} {T:Tb} (h:rF H I N M R C T) (hk:∀ id,H id≠.dead→H' id=H id):rF H' I N M R C T :=
  ⟨by rw[hk _ (by rw[h.top]; simp)]; exact h.top,fun n hn=>by rw[hk _ (by rw[h.row n hn]; simp)]; exact h.row n hn,fun n i hn hi=>by rw[hk _ (by rw[h.cell n i hn hi]; simp)]; exact h.cell n i hn hi,h.inj⟩
theorem rF.put {H:View} {I N M:Nat} {R:Nat→Nat} {C:Nat→Nat→Nat} {T:Tb} (h:rF H I N M R C T) (hT:zM T N M) {n i j:Nat} (hn:n < N) (hi:i < M) (hj:j < M) :
    rF (H.set (C n i) (.arr 1 (ct (((T.getD n []).getD i []).set j true)))) I N M R C (Ik T n i j):=by
  obtain ⟨r,c,hr,hc,hcl,hg⟩:=hT.cell hn hi
  have hcell:=h.cell n i hn hi
  rw[hg] at hcell
  have e1:I≠C n i:=fun e=>by
    have:=h.top
    rw[e,hcell] at this
    simp only[bS.arr.injEq,true_and] at this
    exact zp (by omega) this fun _ _=>by simp
  have e2:∀ m,m < N→R m≠C n i:=fun m hm e=>by
    have:=h.row m hm
    rw[e,hcell] at this
    simp only[bS.arr.injEq,true_and] at this
    exact zp (by omega) this fun _ _=>by simp
  refine ⟨by simp only[View.set,if_neg e1]; exact h.top,fun m hm=>by simp only[View.set,if_neg (e2 m hm)]; exact h.row m hm,fun m q hm hq=>?_,h.inj⟩
  obtain ⟨r',hr',hrl,hg'⟩:=hT.row hn
  rw[hr] at hr'; simp at hr'; subst hr'
  have hnl:n < T.length:=by rw[hT.1]; exact hn
  by_cases e:C m q=C n i
  · obtain ⟨rfl,rfl⟩:=h.inj m q n i hm hq hn hi e
    simp only[View.set,if_true]
    congr 2
    rw[Ik]
    simp[List.getD_eq_getElem?_getD,hnl]
    rw[List.getElem?_set]
    have:q < T[m].length:=by
      have:=(List.getElem?_eq_some_iff.1 hr).2
      rw[this,hrl]; exact hq
    simp[this]
  · simp only[View.set,if_neg e]
    rw[h.cell m q hm hq]
    congr 2
    rw[Ik]
    by_cases em:n=m
    · subst em
      have eq:i≠q:=fun e'=>e (by rw[e'])
      simp[List.getD_eq_getElem?_getD,hnl,eq]
    · simp[List.getD_eq_getElem?_getD,em]
theorem rF.P4 {h:aG} {I N M:Nat} {R:Nat→Nat} {C:Nat→Nat→Nat} {T:Tb} (hG:rF h.view I N M R C T) (hT:zM T N M):cK h (.sl I 0 N 1) (Nx T):=by
  refine .sl I 0 N 1 1 _ _ hG.top (by simp) (by simp[hT.1]) (fun n hn=>?_) (fun n j hn hj=>?_)
  · obtain ⟨r,hr,_⟩:=hT.row hn
    simp[List.getD_eq_getElem?_getD,hr,hn]
  · obtain ⟨r,hr,hrl,hrg⟩:=hT.row hn
    have e1:((T.map fun r=>[V.aY (r.map fun c=>[bE c])]).getD n [])=[V.aY (r.map fun c=>[bE c])]:=by simp[List.getD_eq_getElem?_getD,hr]
    have e2:(((List.range N).map fun n=>[V.sl (R n) 0 M 1]).getD (0+n) [])=[V.sl (R n) 0 M 1]:=by simp[List.getD_eq_getElem?_getD,hn]
    rw[e1] at hj ⊢
    rw[e2]
    have:j=0:=by simp at hj; omega
    subst this
    simp only[List.getD_cons_zero]
    refine .sl (R n) 0 M 1 1 _ _ (hG.row n hn) (by simp) (by simp[hrl]) (fun i hi=>?_) (fun i q hi hq=>?_)
    · simp[List.getD_eq_getElem?_getD,hi,show i < r.length by omega]
    · have hic:i < r.length:=by omega
      have f1:((r.map fun c=>[bE c]).getD i [])=[bE r[i]]:=by simp[List.getD_eq_getElem?_getD,hic]
      have f2:(((List.range M).map fun i=>[V.sl (C n i) 0 M 1]).getD (0+i) [])=[V.sl (C n i) 0 M 1]:=by simp[List.getD_eq_getElem?_getD,hi]
      rw[f1] at hq ⊢
      rw[f2]
      have:q=0:=by simp at hq; omega
      subst this
      simp only[List.getD_cons_zero]
      have hcell:=hG.cell n i hn hi
      have e3:(T.getD n []).getD i []=r[i]:=by rw[hrg]; simp[List.getD_eq_getElem?_getD,hic]
      rw[e3] at hcell
      have hcl:=(hT.2 r (List.mem_of_getElem? hr)).2 _ (List.getElem_mem hic)
      have:=jS (h:=h) (id:=C n i) (is:=r[i]) hcell
      rwa [hcl] at this
theorem cK.jT {h:aG} {v t:V} (f:cK h v t):Fr h v t:=by
  induction f with
  | val v=>exact .tree _ (.val v)
  | emp k=>exact .emp k
  | sl id off len esz z es es' hH hle hlen hl _ ih=>exact .sl id off len esz z es es' hH hle hlen hl ih
  | agg cs cs' hl _ ih=>exact .agg cs cs' hl ih
  | bt cs cs' hl _ ih=>exact .bt cs cs' hl ih
theorem rF.BU {H:View} {I N M:Nat} {R:Nat→Nat} {C:Nat→Nat→Nat} {T:Tb} (hG:rF H I N M R C T) (hT:zM T N M):dg H (.sl I 0 N 1) (Nx T):=by
  rintro h rfl
  exact (hG.P4 hT).jT
end Gv
set_option linter.unusedSimpArgs false
set_option maxRecDepth 100000
namespace Gv
open Go Go.Proofs
structure PD (H:View) (I N M k:Nat) (R:Nat→Nat) (C:Nat→Nat→Nat):Prop where
  top:H I=.arr 1 ((List.range N).map fun n=>[if n < k then .sl (R n) 0 M 1 else .emp 1])
  row:∀ n,n < k→H (R n)=.arr 1 ((List.range M).map fun i=>[.sl (C n i) 0 M 1])
  cell:∀ n i,n < k→i < M→H (C n i)=.arr 1 (List.replicate M [gb false])
  inj:∀ n i n' i',n < k→i < M→n' < k→i' < M→C n i=C n' i'→n=n'∧i=i'
  ne:∀ n,n < k→I≠R n
structure FK (H:View) (I N M k:Nat) (R:Nat→Nat) (C:Nat→Nat→Nat) (r i:Nat) (D:Nat→Nat):Prop where
  top:H I=.arr 1 ((List.range N).map fun n=>[if n < k then .sl (R n) 0 M 1 else if n=k then .sl r 0 M 1 else .emp 1])
  row:∀ n,n < k→H (R n)=.arr 1 ((List.range M).map fun i=>[.sl (C n i) 0 M 1])
  cell:∀ n i,n < k→i < M→H (C n i)=.arr 1 (List.replicate M [gb false])
  inj:∀ n i n' i',n < k→i < M→n' < k→i' < M→C n i=C n' i'→n=n'∧i=i'
  ne:∀ n,n < k→I≠R n
  PB:H r=.arr 1 ((List.range M).map fun j=>[if j < i then .sl (D j) 0 M 1 else .emp 1])
  D6:∀ j,j < i→H (D j)=.arr 1 (List.replicate M [gb false])
  OU:∀ j j',j < i→j' < i→D j=D j'→j=j'
  Cr:I≠r∧(∀ n,n < k→R n≠r)∧∀ n q j,n < k→q < M→j < i→C n q≠D j
theorem GK {M i:Nat} {F:Nat→List V} {v:List V} : ((List.range M).map F).set i v=(List.range M).map fun j=>if j=i then v else F j:=by
  apply List.ext_getElem (by simp)
  intro j h1 h2
  simp only[List.getElem_set,List.getElem_map,List.getElem_range]
  by_cases e:i=j
  · subst e; simp
  · rw[if_neg e,if_neg (Ne.symm e)]
theorem PD.done {H:View} {I N M:Nat} {R:Nat→Nat} {C:Nat→Nat→Nat} (h:PD H I N M N R C):rF H I N M R C (PF N M):=by
  refine ⟨?_,h.row,fun n i hn hi=>?_,h.inj⟩
  · rw[h.top]
    congr 1
    apply List.map_congr_left
    intro n hn
    rw[if_pos (by simpa using hn)]
  · rw[h.cell n i hn hi]
    simp[PF,List.getD_eq_getElem?_getD,hn,hi]
theorem FK.O9 {H:View} {I N M k:Nat} {R:Nat→Nat} {C:Nat→Nat→Nat} {r:Nat} {D:Nat→Nat} (h:FK H I N M k R C r M D):PD H I N M (k+1) (fun n=>if n=k then r else R n) (fun n=>if n=k then D else C n):=by
  refine ⟨?_,fun n hn=>?_,fun n i hn hi=>?_,fun n i n' i' hn hi hn' hi' e=>?_,fun n hn=>?_⟩
  · rw[h.top]
    congr 1
    apply List.map_congr_left
    intro n _
    by_cases e1:n < k
    · rw[if_pos e1,if_pos (by omega),if_neg (by omega)]
    · by_cases e2:n=k
      · rw[if_neg e1,if_pos e2,if_pos (by omega),if_pos e2]
      · rw[if_neg e1,if_neg e2,if_neg (by omega)]
  · by_cases e:n=k
    · simp only[if_pos e]
      rw[h.PB]
      congr 1
      apply List.map_congr_left
      intro i hi
      rw[if_pos (by simpa using hi)]
    · simp only[if_neg e]; exact h.row n (by omega)
  · by_cases e:n=k
    · simp only[if_pos e]; exact h.D6 i hi
    · simp only[if_neg e]; exact h.cell n i (by omega) hi
  · by_cases e1:n=k
    · by_cases e2:n'=k
      · simp only[if_pos e1,if_pos e2] at e
        exact ⟨by omega,h.OU i i' hi hi' e⟩
      · simp only[if_pos e1,if_neg e2] at e
        exact absurd e.symm (h.Cr.2.2 n' i' i (by omega) hi' hi)
    · by_cases e2:n'=k
      · simp only[if_neg e1,if_pos e2] at e
        exact absurd e (h.Cr.2.2 n i i' (by omega) hi hi')
      · simp only[if_neg e1,if_neg e2] at e
        exact h.inj n i n' i' (by omega) hi (by omega) hi' e
  · by_cases e:n=k
    · simp only[if_pos e]; exact h.Cr.1
    · simp only[if_neg e]; exact h.ne n (by omega)
theorem FK.next {H H':View} {I N M k:Nat} {R:Nat→Nat} {C:Nat→Nat→Nat} {r i d:Nat} {D:Nat→Nat} (h:FK H I N M k R C r i D) (hN:0 < N) (hM:0 < M) (hd:H d=.dead)
    (hr':H' r=.arr 1 (((List.range M).map fun j=>[if j < i then V.sl (D j) 0 M 1 else .emp 1]).set i [.sl d 0 M 1])) (hd':H' d=.arr 1 (List.replicate M [gb false])) (ho:∀ id,H id≠.dead→id≠r→H' id=H id) :
    FK H' I N M k R C r (i+1) (fun j=>if j=i then d else D j):=by
  have live:∀ id,H id≠.dead→id≠d:=fun id hid e=>by subst e; exact hid hd
  have boolr:∀ id,H id=.arr 1 (List.replicate M [gb false])→id≠r:=fun id hid e=>by
    rw[e,h.PB] at hid
    simp only[bS.arr.injEq,true_and] at hid
    have:=congrArg (·[0]?) hid
    simp[hM] at this
    split at this <;> simp at this
  refine ⟨?_,fun n hn=>?_,fun n q hn hq=>?_,h.inj,h.ne,?_,fun j hj=>?_,fun j j' hj hj' e=>?_,⟨h.Cr.1,h.Cr.2.1,fun n q j hn hq hj=>?_⟩⟩
  · rw[ho I (by rw[h.top]; simp) h.Cr.1]; exact h.top
  · rw[ho _ (by rw[h.row n hn]; simp) (h.Cr.2.1 n hn)]; exact h.row n hn
  · have:=h.cell n q hn hq
    rw[ho _ (by rw[this]; simp) (boolr _ this)]; exact this
  · rw[hr',GK]
    congr 1
    apply List.map_congr_left
    intro j _
    by_cases e:j=i
    · rw[if_pos e,if_pos (by omega),if_pos e]
    · rw[if_neg e]
      by_cases e2:j < i
      · rw[if_pos e2,if_pos (by omega),if_neg e]
      · rw[if_neg e2,if_neg (by omega)]
  · by_cases e:j=i
    · simp only[if_pos e]; exact hd'
    · simp only[if_neg e]
      have:=h.D6 j (by omega)
      rw[ho _ (by rw[this]; simp) (boolr _ this)]; exact this
  · by_cases e1:j=i
    · by_cases e2:j'=i
      · omega
      · simp only[if_pos e1,if_neg e2] at e
        exact absurd e.symm (live _ (by rw[h.D6 j' (by omega)]; simp))
    · by_cases e2:j'=i
      · simp only[if_neg e1,if_pos e2] at e
        exact absurd e (live _ (by rw[h.D6 j (by omega)]; simp))
      · simp only[if_neg e1,if_neg e2] at e
        exact h.OU j j' (by omega) (by omega) e
  · by_cases e:j=i
    · simp only[if_pos e]; exact live _ (by rw[h.cell n q hn hq]; simp)
    · simp only[if_neg e]; exact h.Cr.2.2 n q j hn hq (by omega)
end Gv
set_option linter.unusedSimpArgs false
set_option maxRecDepth 100000
namespace Gv
open Go Go.Proofs
end Gv
set_option linter.unusedSimpArgs false
set_option maxRecDepth 100000
namespace Gv
open Go Go.Proofs
theorem zN (g:ao) (w:List Int):∀ v∈[V.agg (al g),encI w],Tree v:=by
  intro v hv; simp at hv
  rcases hv with rfl | rfl
  · exact ch _ (cE g)
  · exact bX w
end Gv
set_option linter.unusedSimpArgs false
set_option maxRecDepth 100000
namespace Gv
open Go Go.Proofs
def OQ (g:ao) (o:Option Wk) (r:V) (H:View):Prop:=match o with
  | some x=>1≤x.high∧∃ b,r=.bt [.ptr b 0 0,gi x.high]∧FA g b x.rest x.word x.post H
  | none=>∃ p,r=.bt [p,gi 0]
set_option maxHeartbeats 4000000 in
theorem LP (g:ao) (hg:g.Ok) (hs:g.Small) (t:List Int) (ht:aL t) (H:View):az Tryz.prog 170 [.agg (al g),encI t] H fun r H'=>OQ g (eQ g t) r H':=by
  have hc:=lK g hg hs.names
  unfold aL at ht
  refine az.of mixed BA ?_
  simp only[al,encS] at hc
  simp (disch:=omega) only [↓wr,↓reduceIte,wq,ah,Nat.reduceEqDiff,Nat.reduceAdd,Nat.reduceLeDiff,y0,al,encS]
  refine aB.pure hc (by kernel_rfl) ?_
  simp (disch:=omega) only [↓wr,↓reduceIte,wq]
  refine ar.split (fun hr=>?_) (fun hr=>?_)
  · simp (disch:=omega) only [↓wr,↓reduceIte,wq,ag,aj,Nat.reduceEqDiff,encI]
    refine ar.dec (fun hl=>?_) (fun hl=>?_)
    · simp (disch:=omega) only [↓wr,↓reduceIte,wq,Nat.reduceEqDiff,reduceCtorEq]
      rw[eQ,if_neg (by rintro ⟨_,h⟩; omega)]
      exact ⟨_,rfl⟩
    · simp (disch:=omega) only [↓wr,↓reduceIte,wq,aa,ab,Nat.reduceEqDiff,Nat.reduceAdd,Nat.reduceLT,Nat.reduceLeDiff]
      intro b hb
      have hf:=aW hr
      have h0:=hf.eA
      have h1:=hf.start
      have hw0:FA g b t [] [] (H.set b (.arr 7 [fO g t (.emp 1) (.emp 1)])):=by
        refine ⟨.emp 1,.emp 1,?_⟩
        have o:=(bC.nil (H:=H)).new hb 7 [fO g t (.emp 1) (.emp 1)]
        exact (o.perm (.refl _)).perm (.refl _) |> fun o=>⟨fun x hx=>by
          rcases List.mem_cons.1 hx with rfl | hx
          · exact o.head
          · rcases List.mem_cons.1 hx with rfl | hx
            · exact .nil
            · simp at hx; subst hx; exact .nil,by simp[owner]⟩
      have hcall:=Oo g hg hf b t.length g.start t [] [] _ (by omega) h0 h1 (Nat.le_refl _) (by simp; omega) (by simp; omega) hw0
      simp only[fO,encI] at hcall
      try simp (disch:=omega) only [↓wr,↓reduceIte,wq,ah,ag,aj,aa,ab,af,ai,isNil,Nat.reduceEqDiff,Nat.reduceAdd,Nat.reduceLT,Nat.reduceLeDiff,Int.reduceNeg,Int.reduceToNat,reduceCtorEq,encI]
      refine aB.gq (hcall.mono ?_)
      intro r H1 hr1
      have hwh:eQ g t=match bJ g t.length [-1 - g.start] t with
          | some x=>if x.rest=[] then some x else none
          | none=>none:=by rw[eQ,if_pos ⟨hr,by omega⟩]; rfl
      rw[hwh]
      cases hx:bJ g t.length [-1 - g.start] t with
      | none =>
        rw[hx] at hr1
        obtain ⟨rfl,rest',W',Po',_,uw,up,ho⟩:=hr1
        have hb1:=ho.is 0 rfl (by simp)
        simp (disch:=omega) only [↓wr,↓reduceIte,wq,ag,aj,Nat.reduceEqDiff,Nat.reduceAdd,Nat.reduceLT,hb1,fO,encI]
        refine ar.dec (fun _=>?_) (fun _=>?_)
        · simp (disch:=omega) only [↓wr,↓reduceIte,wq,Nat.reduceEqDiff,reduceCtorEq]
          exact ⟨_,rfl⟩
        · simp (disch:=omega) only [↓wr,↓reduceIte,wq,Nat.reduceEqDiff,reduceCtorEq]
          exact ⟨_,rfl⟩
      | some x =>
        rw[hx] at hr1
        obtain ⟨rfl,hw1⟩:=hr1
        have hh:=vB (by omega) hx
        have hw2:=hw1
        obtain ⟨uw,up,ho⟩:=hw1
        have hb1:=ho.is 0 rfl (by simp)
        simp (disch:=omega) only [↓wr,↓reduceIte,wq,ag,aj,Nat.reduceEqDiff,Nat.reduceAdd,Nat.reduceLT,hb1,fO,encI]
        refine ar.dec (fun hc=>?_) (fun hc=>?_)
        · simp (disch:=omega) only [↓wr,↓reduceIte,wq,Nat.reduceEqDiff,reduceCtorEq]
          try simp only
          rw[if_neg (by intro e; rw[e] at hc; simp at hc)]
          exact ⟨_,rfl⟩
        · simp (disch:=omega) only [↓wr,↓reduceIte,wq,Nat.reduceEqDiff,reduceCtorEq]
          try simp only
          rw[if_pos (List.length_eq_zero_iff.1 (by omega))]
          exact ⟨hh,b,rfl,by simpa using hw2⟩
  · simp (disch:=omega) only [↓wr,↓reduceIte,wq,Nat.reduceEqDiff,reduceCtorEq]
    rw[eQ,if_neg (by rintro ⟨h,_⟩; rw[h] at hr; simp at hr)]
    exact ⟨_,rfl⟩
set_option maxHeartbeats 4000000 in
theorem Ms (g:ao) (hg:g.Ok) (hs:g.Small) (t:List Int) (ht:aL t):bN Tryz.prog 111 [.agg (al g),encI t] (iq (iM g t)):=by
  refine bN.of (zN g t) ?_
  refine az.of mixed BP ?_
  have hr:=LP g hg hs t ht (fun _=>.dead)
  simp only[al,encS] at hr
  simp (disch:=omega) only [↓wr,↓reduceIte,wq,ah,Nat.reduceEqDiff,Nat.reduceAdd,Nat.reduceLeDiff,yQ,al,encS]
  refine aB.gq (hr.mono ?_)
  intro r H1 hr
  unfold iM
  cases hw:eQ g t with
  | none =>
    rw[hw] at hr
    obtain ⟨p,rfl⟩:=hr
    simp (disch:=omega) only [↓wr,↓reduceIte,wq,ag,Nat.reduceEqDiff,Nat.reduceAdd,Nat.reduceLT]
    refine ar.eq (fun _=>?_) (fun e=>absurd rfl e)
    simp (disch:=omega) only [↓wr,↓reduceIte,wq,Nat.reduceEqDiff,reduceCtorEq]
    intro h' _
    exact cR (x:=([],1)) (.emp _)
  | some x =>
    rw[hw] at hr
    obtain ⟨h1,b,rfl,uw,up,ho⟩:=hr
    have hb:=ho.is 0 rfl (by simp)
    simp (disch:=omega) only [↓wr,↓reduceIte,wq,ag,Nat.reduceEqDiff,Nat.reduceAdd,Nat.reduceLT]
    refine ar.eq (fun e=>absurd e (by omega)) (fun _=>?_)
    simp (disch:=omega) only [↓wr,↓reduceIte,wq,Nat.reduceEqDiff,Nat.reduceAdd,Nat.reduceLT,reduceCtorEq,hb,fO]
    rintro h' rfl
    exact cR (x:=(x.word,0)) (eW (ho.own 1 rfl))
end Gv
