/-
  Part 14 of the proof: what the machine does and what the functions answer.
  Conditions: those that each lemma names.
-/
import Derived.Test.YtomcjampldmjoaaGreatSGzSM
set_option linter.unusedSimpArgs false
set_option linter.unusedVariables false
set_option maxRecDepth 100000
namespace Gv
open Go Go.Proofs
theorem zN {g:ao} (hr:g.rules.length≤40) {k:Nat} (hk:k≤16) (m:Nat):vT (bb (aA g k) m):=by
  refine ⟨fW g k m,?_⟩
  by_cases h:bf (aA g k) m
  · obtain ⟨a,b,_⟩:=dF g k m h
    obtain ⟨j,hj,hn',hh,hc⟩:=vn h
    obtain ⟨i,r,hr',_,_,hp,_⟩:=gF hc
    have hi:i < g.rules.length:=(List.getElem?_eq_some_iff.1 hr').1
    have:(bb (aA g k) m).ba=i:=by rw[hp]; simp[ef]
    omega
  · rw[gR h]; unfold gL; decide
def sE (H:View) (u:V) (P:List bh):Prop:=u=gH P∨aV H u 4 (P.map bO)
theorem sE.BY {H:View} {u:V} {P:List bh} (h:sE H u P):dh H u (gH P):=by
  rcases h with rfl | h
  · exact dh.tree (qu P)
  · exact dh.own h fun e he v hv=>by
      obtain ⟨p,_,rfl⟩:=List.mem_map.1 he
      exact z6 p v hv
theorem sE.keep {H H':View} {u:V} {P:List bh} (h:sE H u P) (hk:∀ id,owner u=some id→H' id=H id):sE H' u P:=h.imp id fun h=>h.keep hk
theorem sE.live {H:View} {u:V} {P:List bh} (h:sE H u P) {id:Nat} (hid:owner u=some id):H id≠.dead:=by
  rcases h with rfl | h
  · simp[owner] at hid
  · rw[(h.live hid).1]; simp
theorem JE {N:List bh} {i m:Nat} {p:bh} (hp:0≤p.ba) (h:bf N m):bf (N.set i p) m:=by
  have hm:=DG h
  unfold bf at h ⊢
  rw[yp hm]; split
  · exact hp
  · exact h
def rU:SC :=
  .seq (ak [aR 24 .lss 23 22]) <|
  .seq (.cond (.tmp 24) (.skip) (.exit 2)) <|
  .seq (.block 3 (.seq (ak [ae 25 23,aQ 26 3 21 23,aT 27 3 26,((some 7),.op (.alloc [(.val (.int .i64 0)),(.emp 1),(.val (.int .i64 0))])),ae 6 25,(none,.op (.store 3 (.tmp 7) (.tmp 27)))]) <|
  .seq (.seq (ak [ae 28 5,aq 29 0 7,an 30 29,aQ 31 4 28 30,aq 32 0 31,an 33 32,ax 34 .geq 33 0]) <|
  .cond (.tmp 34) (.exit 3) (.skip)) <|
  .seq (ak [aq 36 1 7,an 37 36,ae 38 3,aL 39 232 [37,38],ae 35 39,bU 40 0 35,bU 41 1 35,((some 8),.op (.alloc [(.val (.int .i64 0)),(.val (.int .i64 0)),(.val (.int .i64 0)),(.val (.int .i64 0))])),(none,.op (.store 4 (.tmp 8) (.tmp 40))),ae 9 41]) <|
  .seq (ak [ae 42 9]) <|
  .cond (.tmp 42) (.seq (ak [ae 43 5,aq 44 0 7,an 45 44,ae 46 6,aq 47 1 8,an 48 47,ax 49 .add 48 1,aq 50 2 8,an 51 50,ax 52 .add 51 1,((some 53),.op (.mm false (.val (.val (.int .i64 1048576))) (.tmp 52))),aq 54 3 8,an 55 54,((some 56),.op (.build [(.val (.int .i64 0)),(.val (.int .i64 0)),(.val (.int .i64 0)),(.val (.int .i64 0))] [(0,1,(.tmp 46)),(1,1,(.tmp 49)),(2,1,(.tmp 53)),(3,1,(.tmp 55))])),aQ 57 4 43 45,(none,.op (.store 4 (.tmp 57) (.tmp 56)))]) <|
  ak [bg 4 false]) (.skip))) <|
  ak [ax 58 .add 23 1,ae 23 58]
def mF:SC :=
  .seq (.seq (ak [ae 16 4,cd 17 16]) <|
  .cond (.tmp 17) (.skip) (.exit 0)) <|
  .block 1 (.seq (ak [bg 4 true]) <|
  .seq (ak [ae 18 3,aL 19 249 [18],ae 5 19]) <|
  .seq (.seq (ak [aq 20 2 1,an 21 20,aP 22 21,aH 23 0]) <|
  .block 2 (.loop rU)) <|
  ak [ae 59 5,ae 3 59])
def vO:SF:=⟨.seq (ak [cx 1 0,((some 2),.op (.aZ (.val (.emp 1))))]) <|
  .seq (ak [((some 10),.op (.build [(.val (.int .i64 0)),(.val (.int .i64 0)),(.val (.int .i64 0)),(.val (.int .i64 0))] [(0,1,(.val (.val (.int .i64 (-1)))))])),((some 11),.op (.bA 1 4 [(.val (.int .i64 0)),(.val (.int .i64 0)),(.val (.int .i64 0)),(.val (.int .i64 0))] [(0,(.tmp 10))])),aq 12 1 1,an 13 12,aP 14 13,aL 15 248 [11,14],ae 3 15]) <|
  .seq (.seq (ak [bg 4 false]) <|
  .block 0 (.loop mF)) <|
  .seq (ak [ae 60 3,ae 2 60]) <|
  .ret,
  [.tmp 2],61⟩
theorem zA:aU Tryz.prog 231 [1]=some vO:=by kernel_rfl
def PV (g:ao) (H0:View) (P:List bh) (d i:Nat) (T:Env) (H:View):Prop :=
  ∃ (N:List bh) (u:V),N.length=g.au.length∧k6 P i N (g.rules.drop i)=xI g.rules P∧(∀ m,bf P m→bf N m)∧sE H u P∧owner u≠some d∧H d=.arr 4 (N.map bO) ∧
    (∀ id,H0 id≠.dead→H id=H0 id∧id≠d)∧((T 4=gb true∧N=P)∨(T 4=gb false∧∃ m,¬ bf P m∧bf N m)) ∧
    T 1=.aS (al g) 0∧T 3=u∧T 5=.sl d 0 g.au.length 4∧T 21=.aY (g.rules.map aK)∧T 22=gi g.rules.length∧T 23=gi i
set_option maxHeartbeats 4000000 in
theorem Lz (g:ao) (hg:g.Ok) (hf:g.gp) (H:View):az Tryz.prog 231 [.agg (al g)] H fun r H'=>aV H' r 4 ((av g).map bO)∧cY H H' r:=by
  refine az.of mixed zA ?_
  have z1:=hf.ka
  have z2:=hf.au
  have z3:=hf.rules
  simp (disch:=omega) only [↓wr,↓reduceIte,wq,ah,aj,aa,ab,af,Nat.reduceEqDiff,Nat.reduceAdd,Nat.reduceLT,Nat.reduceLeDiff,Int.reduceNeg,vO,al,encS]
  intro n1 hn1
  try simp (disch:=omega) only [↓wr,↓reduceIte,wq,ah,ag,aj,aa,ab,af,ai,isNil,Nat.reduceEqDiff,Nat.reduceAdd,Nat.reduceLT,Nat.reduceLeDiff,Int.reduceNeg,Int.reduceToNat,reduceCtorEq]
  refine aC.qq (Jy z1 z2) (by kernel_rfl) ⟨dh.sl (off:=0) (len:=1) (esz:=4) (z:=4) (es:=[bO gL]) (by simp[View.set,bO,gL]) (by simp) (fun e he v hv=>by simp at he; subst he; exact z6 _ v hv),dh.tree (.val _),trivial⟩ ?_
  simp (disch:=omega) only [↓wr,↓reduceIte,wq,Int.reduceNeg]
  refine bc.intro (fun k T H'=>∃ (j:Nat) (u:V),j≤g.au.length∧j≤dd (qZ (aA g j))∧sE H' u (aA g j)∧cY H H' u∧T 1=.aS (al g) 0∧T 3=u ∧
      ((T 4=gb false∧j+k=g.au.length+1)∨(T 4=gb true∧aA g j=av g∧aV H' u 4 ((av g).map bO)))) (g.au.length+1) ?_ ?_
  · refine ⟨0,_,by omega,by omega,.inl rfl,fun id hid=>⟨?_,by simp[owner]⟩,rfl,rfl,.inl ⟨rfl,by omega⟩⟩
    have e:id≠n1:=by rintro rfl; exact hid hn1
    simp[View.set,e]
  clear hn1
  rintro k T H1 ⟨j,u,hj,hjt,hu,hfr,t1,t3,h4⟩
  rcases h4 with ⟨t4,hjk⟩ | ⟨t4,hst,how⟩
  · have hlen:=dG g j
    simp (disch:=omega) only [↓wr,↓reduceIte,wq,Nat.reduceEqDiff,reduceCtorEq,mF,t3,t4,al,encS]
    refine aC.gA ((GN (aA g j) (by omega) (by omega) u H1 hu).mono ?_)
    rintro v H2 ⟨hv,hfv⟩
    obtain ⟨d,rfl,hd⟩:=hv.sl (by simp; omega)
    simp only[List.length_map,hlen]
    simp (disch:=omega) only [↓wr,↓reduceIte,wq,aj,Nat.reduceEqDiff,Nat.reduceAdd,Nat.reduceLT,t1,al,encS]
    refine bc.up g.rules.length (PV g H (aA g j) d) ?_ ?_
    · refine ⟨aA g j,u,hlen,rfl,fun _ h=>h,hu.keep fun id hid=>(hfv id (hu.live hid)).1,fun e=>?_,hd,fun id hid=>?_,.inl ⟨rfl,rfl⟩,t1,t3,rfl,rfl,rfl,rfl⟩
      · exact (hfv d (hu.live e)).2 rfl
      · have h1:=hfr id hid
        have h2:=hfv id (by rw[h1.1]; exact hid)
        exact ⟨by rw[h2.1,h1.1],fun e=>h2.2 (by rw[e]; rfl)⟩
    clear t1 t3 t4 hu hfr hfv hd hv
    rintro i q T H3 hq ⟨N,u,hN,hfold,hle,hu,hud,hd,hfr,h4,t1,t3,t5,t21,t22,t23⟩
    simp (disch:=omega) only [↓wr,↓reduceIte,wq,ag,Nat.reduceEqDiff,reduceCtorEq,rU,t22,t23]
    refine ar.dec (fun hc=>?_) (fun hc=>?_)
    · have hg2:g.rules[i]?=some (g.rules[i]'(by omega)):=List.getElem?_eq_getElem (by omega)
      have hmem:g.rules[i]'(by omega)∈g.rules:=List.getElem_mem _
      rw[c9 (show i < g.rules.length by omega)] at hfold
      generalize g.rules[i]'(by omega)=r at hg2 hmem hfold
      have hl:=hf.left r hmem
      have hrw:=hg.ba r hmem
      have hlt:r.left.toNat < N.length:=by omega
      have hgN:(N.map bO).getD r.left.toNat []=bO (bb N r.left.toNat):=by simp[bb,List.getD_eq_getElem?_getD,hlt]
      have hP:=fun m=>zN (g:=g) z3 (show j≤16 by omega) m
      simp (disch:=omega) only [↓wr,↓reduceIte,wq,aa,Nat.reduceEqDiff,Nat.reduceAdd,Nat.reduceLT,Nat.reduceLeDiff,t5,t21,t23,List.getElem?_map,hg2,aK,encI]
      intro n hn
      have hnd:d≠n:=by rintro rfl; rw[hd] at hn; simp at hn
      have hu':∀ o,sE (H3.set n o) u (aA g j):=fun o=>hu.keep fun id hid=>by
        have:id≠n:=by rintro rfl; exact hu.live hid hn
        simp[View.set,this]
      have hfr':∀ o,∀ id,H id≠.dead→(H3.set n o) id=H id∧id≠d:=fun o id hid=>by
        have h1:=hfr id hid
        have:id≠n:=by rintro rfl; rw[h1.1] at hn; exact hid hn
        exact ⟨by simp[View.set,this,h1.1],h1.2⟩
      try simp (disch:=omega) only [↓wr,↓reduceIte,wq,ag,hd,hnd]
      refine ⟨by omega,by omega,?_⟩
      try simp (disch:=omega) only [↓wr,↓reduceIte,wq,Nat.reduceAdd,Nat.reduceLT,hgN,bO]
      have hsum:=pc (aA g j) r.right bq
      refine ar.dec (fun hk=>?_) (fun hk=>?_)
      · simp (disch:=omega) only [↓wr,↓reduceIte,wq,ag,Nat.reduceEqDiff,Nat.reduceAdd,reduceCtorEq,t1,t3,t5,t23]
        have hst:oI (aA g j) i N r=N:=by unfold oI; rw[if_pos hk]
        rw[k6,hst] at hfold
        rw[set_set]
        exact aJ hq (by omega) ⟨N,u,hN,hfold,hle,hu' _,hud,by simp[View.set,hnd,hd],hfr' _,h4,t1,t3,t5,t21,t22,rfl⟩
      · simp (disch:=omega) only [↓wr,↓reduceIte,wq,Nat.reduceEqDiff,Nat.reduceAdd,Nat.reduceLT,t3]
        refine aC.qq (Jl (aA g j) hP r.right hrw.2.2.1 fun x hx=>⟨hrw.2.2.2 x hx,fun hn=>by rw[hlen]; exact hf.neg hmem hx hn⟩) (by kernel_rfl) ⟨dh.tree (bX r.right),by rw[set_set]; exact (hu' _).BY,trivial⟩ ?_
        have hs1:=nZ (fun m=>fW g j m) r.right bq jX
        have hs2:(0:Int)≤(bE (aA g j) r.right bq).1.br:=hsum
        have hs3:fG (aA g j) r.right→(bE (aA g j) r.right bq).1.br≤16:=fun ha=>(fS (aA g j) 16 r.right bq ha).2 ⟨by simp[bq],fun x hx hn=>by have:=(dF g j _ (ha x hx hn)).2.1; omega⟩
        have hs4:=jc (aA g j) r.right bq
        generalize hsp:bE (aA g j) r.right bq=sp at hs1 hs2 hs3 hs4
        unfold dc at hs1
        simp (disch:=omega) only [↓wr,↓reduceIte,wq,aa,Nat.reduceEqDiff,Nat.reduceAdd,Nat.reduceLT,Nat.reduceLeDiff,bO]
        intro q2 hq2
        have hqn:=(bV hq2 bT).1
        have hq3:=(bV (bV hq2 bT).2 bT).2
        have hqd:d≠q2:=by rintro rfl; rw[hd] at hq3; simp at hq3
        try simp (disch:=omega) only [↓wr,↓reduceIte,wq,ah,ag,aj,aa,ab,af,ai,isNil,Nat.reduceEqDiff,Nat.reduceAdd,Nat.reduceLT,Nat.reduceLeDiff,Int.reduceNeg,Int.reduceToNat,reduceCtorEq,t1,t3,t5,t21,t22,t23,hd,hnd,hnd.symm,hqn,hqn.symm,hqd,hqd.symm,bO]
        refine ar.split (fun hb=>?_) (fun hb=>?_)
        · have hs5:=hs3 (hs4.1 hb)
          simp (disch:=omega) only [↓wr,↓reduceIte,wq,ag,aa,ab,Nat.reduceEqDiff,Nat.reduceAdd,Nat.reduceLT,Nat.reduceLeDiff,reduceCtorEq,t1,t3,t5,t23,hd,hnd,hqn.symm,hqd]
          refine ⟨by omega,by omega,?_⟩
          have hst:oI (aA g j) i N r=N.set r.left.toNat (ef (aA g j) i r):=by unfold oI; rw[if_neg hk,hsp,if_pos hb]
          rw[k6,hst] at hfold
          have hpl:(ef (aA g j) i r)=⟨i,sp.1.br+1,min 1048576 (sp.1.rules+1),sp.1.ay⟩:=by rw[ef,hsp]
          have hpr:0≤(ef (aA g j) i r).ba:=by rw[hpl]; simp only; omega
          have hnew:¬ bf N r.left.toNat:=hk
          refine aJ hq (by omega) ⟨_,u,by simp[hN],hfold,fun m hm=>JE hpr (hle m hm),?_,hud,?_,?_,.inr ⟨rfl,r.left.toNat,fun hkn=>hnew (hle _ hkn),?_⟩,t1,t3,t5,t21,t22,rfl⟩
          · refine hu.keep fun id hid=>?_
            have e1:id≠n:=by rintro rfl; exact hu.live hid hn
            have e2:id≠q2:=by rintro rfl; exact hu.live hid hq3
            have e3:id≠d:=by rintro rfl; exact hud hid
            simp[View.set,e1,e2,e3]
          · simp only[View.set,if_true]
            rw[List.map_set,hpl,hgN]; simp only[bO,List.drop_succ_cons,List.drop_nil,Er]
          · intro id hid
            have h1:=hfr id hid
            have e1:id≠n:=by rintro rfl; rw[h1.1] at hn; exact hid hn
            have e2:id≠q2:=by rintro rfl; rw[h1.1] at hq3; exact hid hq3
            exact ⟨by simp[View.set,e1,e2,h1.2,h1.1],h1.2⟩
          · unfold bf; rw[yp hlt,if_pos rfl]; exact hpr
        · simp (disch:=omega) only [↓wr,↓reduceIte,wq,ag,Nat.reduceEqDiff,Nat.reduceAdd,reduceCtorEq,t1,t3,t5,t23]
          have hst:oI (aA g j) i N r=N:=by unfold oI; rw[if_neg hk,hsp,if_neg (by rw[hb]; simp)]
          rw[k6,hst] at hfold
          refine aJ hq (by omega) ⟨N,u,hN,hfold,hle,?_,hud,by simp[View.set,hnd,hqd,hd],?_,h4,t1,t3,t5,t21,t22,rfl⟩
          · refine hu.keep fun id hid=>?_
            have e1:id≠n:=by rintro rfl; exact hu.live hid hn
            have e2:id≠q2:=by rintro rfl; exact hu.live hid hq3
            simp[View.set,e1,e2]
          · intro id hid
            have h1:=hfr id hid
            have e1:id≠n:=by rintro rfl; rw[h1.1] at hn; exact hid hn
            have e2:id≠q2:=by rintro rfl; rw[h1.1] at hq3; exact hid hq3
            exact ⟨by simp[View.set,e1,e2,h1.1],h1.2⟩
    · simp (disch:=omega) only [↓wr,↓reduceIte,wq,Nat.reduceEqDiff,reduceCtorEq,t1,t3,t5]
      rw[List.drop_eq_nil_of_le (by omega),k6,← mQ] at hfold
      have how:aV H3 (.sl d 0 g.au.length 4) 4 (N.map bO):=.inr ⟨d,by simp[hN],hd⟩
      have hfd:cY H H3 (.sl d 0 g.au.length 4):=fun id hid=>⟨(hfr id hid).1,fun e=>(hfr id hid).2 (by simp[owner] at e; exact e.symm)⟩
      rw[hfold] at how
      rcases h4 with ⟨h4,he⟩ | ⟨h4,m,hm1,hm2⟩
      · have hstay:aA g (j+1)=aA g j:=by rw[← hfold,he]
        have hpl:=KF hj hstay
        rw[hstay] at how
        exact ⟨0,by omega,j,_,hj,hjt,.inr how,hfd,rfl,rfl,.inr ⟨h4,hpl,by rw[← hpl]; exact how⟩⟩
      · rw[hfold] at hm2
        rcases Hj hjt with e | e
        · rw[e] at hm2; exact absurd hm2 hm1
        · have:=Fp g (j+1)
          exact ⟨k - 1,by omega,j+1,_,by omega,e,.inr how,hfd,rfl,rfl,.inl ⟨h4,by omega⟩⟩
  · simp (disch:=omega) only [↓wr,↓reduceIte,wq,Nat.reduceEqDiff,reduceCtorEq,mF,t3,t4]
    exact ⟨how,hfr⟩
theorem JF {h:aE} {u:V} {P:List bh} (ho:aV h.view u 4 (P.map bO)):cP h u (gH P):=by
  refine cP.own ho rfl (fun i _=>rfl) (fun i j hi hj=>?_)
  simp only[List.length_map] at hi
  have e:(P.map bO).getD i []=bO P[i]:=by simp[List.getD_eq_getElem?_getD,hi]
  rw[e] at hj ⊢
  match j,hj with
  | 0,_=>exact .val _
  | 1,_=>exact .val _
  | 2,_=>exact .val _
  | 3,_=>exact .val _
  | n+4,h=>exact absurd h (by simp[bO])
theorem Ka (g:ao) (hg:g.Ok) (hf:g.gp):bP Tryz.prog 231 [.agg (al g)] (gH (av g)) :=
  bP.of (dM g) ((Lz g hg hf _).mono fun r H' h h' hh=>JF (by rw[hh]; exact h.1))
def fo (g:ao):List Int:=(av g).map bh.ba
def mV:SC :=
  .seq (.seq (ak [ae 8 6,aq 9 1 2,an 10 9,aP 11 10,aR 12 .lss 8 11]) <|
  .cond (.tmp 12) (.skip) (.exit 0)) <|
  .seq (.block 1 (.seq (.seq (ak [aq 15 1 2,an 16 15,ae 17 6,aQ 18 1 16 17,an 19 18,ax 20 .geq 19 0]) <|
  .cond (.tmp 20) (.exit 1) (.skip)) <|
  .seq (ak [ae 21 1,aq 22 1 2,an 23 22,ae 24 6,aQ 25 1 23 24,an 26 25,((some 27),.op (.arith .sub (.val (.val (.int .i64 (-1)))) (.tmp 26))),aQ 28 1 21 27,an 29 28,ae 7 29]) <|
  .seq (.seq (ak [ae 30 7,ax 31 .eql 30 0]) <|
  .cond (.tmp 31) (.seq (ak [aH 4 0]) <|
  .ret) (.skip)) <|
  ak [ae 32 5,ae 33 7,((some 34),.op (.mm true (.tmp 32) (.tmp 33))),ae 5 34])) <|
  ak [ae 13 6,ax 14 .add 13 1,ae 6 14]
def o9:SF:=⟨.seq (ak [cx 2 0,aH 4 0]) <|
  .seq (ak [aH 5 0]) <|
  .seq (.seq (ak [aH 6 0]) <|
  .block 0 (.loop mV)) <|
  .seq (ak [ae 35 5,ax 36 .add 35 1,ae 4 36]) <|
  .ret,
  [.tmp 4],37⟩
theorem uc:aU Tryz.prog 212 [2]=some o9:=by kernel_rfl
def kG:SC :=
  .seq (.seq (ak [ae 25 6,aq 26 2 1,an 27 26,aP 28 27,aR 29 .lss 25 28]) <|
  .cond (.tmp 29) (.skip) (.exit 2)) <|
  .seq (.block 3 (.seq (ak [aq 32 2 1,an 33 32,ae 34 6,aQ 35 3 33 34,aT 36 3 35,((some 7),.op (.alloc [(.val (.int .i64 0)),(.emp 1),(.val (.int .i64 0))])),(none,.op (.store 3 (.tmp 7) (.tmp 36)))]) <|
  .seq (.region false [⟨none,[ae 37 3,aq 38 0 7,an 39 38,aQ 40 1 37 39,an 41 40,ax 42 .eql 41 0,ae 43 42]⟩,⟨(some (43,true)),[aT 44 3 7,ae 45 5,aL 46 212 [44,45],ae 47 4,aR 48 .eql 46 47]⟩,⟨none,[bN 49 43 48]⟩]) <|
  .cond (.tmp 49) (ak [ae 50 3,aq 51 0 7,an 52 51,ae 53 4,aQ 54 1 50 52,(none,.op (.store 1 (.tmp 54) (.tmp 53)))]) (.skip))) <|
  ak [ae 30 6,ax 31 .add 30 1,ae 6 31]
def kA:SC :=
  .seq (.seq (ak [ae 15 4,aq 16 1 1,an 17 16,aP 18 17,aR 19 .leq 15 18]) <|
  .cond (.tmp 19) (.skip) (.exit 0)) <|
  .seq (.block 1 (.seq (ak [((some 22),.op (.aZ (.val (.emp 2)))),ae 23 3,((some 24),.op (.app 1 8 (.tmp 22) (.tmp 23))),ae 5 24]) <|
  .seq (ak [aH 6 0]) <|
  .block 2 (.loop kG))) <|
  ak [ae 20 4,ax 21 .add 20 1,ae 4 21]
def lO:SF:=⟨.seq (ak [cx 1 0,((some 2),.op (.aZ (.val (.emp 1))))]) <|
  .seq (.seq (ak [aT 8 4 1,aL 9 48 [8],cd 10 9]) <|
  .cond (.tmp 10) (.seq (ak [((some 2),.op (.aZ (.val (.emp 1))))]) <|
  .ret) (.skip)) <|
  .seq (ak [aq 11 1 1,an 12 11,aP 13 12,((some 14),.op (.make 1 8 [(.val (.int .i64 0))] (.tmp 13) (.tmp 13))),ae 3 14]) <|
  .seq (.seq (ak [aH 4 1]) <|
  .block 0 (.loop kA)) <|
  .seq (ak [ae 55 3,ae 2 55]) <|
  .ret,
  [.tmp 2],56⟩
theorem qR:aU Tryz.prog 211 [1]=some lO:=by kernel_rfl
theorem yj {h:List Int} {m:Nat} (hm:m < h.length):h[m]?=some (ez h m):=by simp[ez,List.getD_eq_getElem?_getD,hm]
theorem H8 {h:List Int} {m:Nat} (hm:m < h.length):(aW h).getD m []=[gi (ez h m)]:=by simp[ez,List.getD_eq_getElem?_getD,hm]
def K4 (h:List Int):Prop:=∀ m,0≤ez h m∧ez h m≤1000
theorem DX {g:ao} (hr:g.rules.length≤40) {k:Nat} (hk:k≤16):K4 (dW (aA g k)):=fun m=>by
  rw[kp]
  by_cases h:bf (aA g k) m
  · obtain ⟨a,b,_⟩:=dF g k m h
    omega
  · rw[gR h]; unfold gL; decide
set_option maxHeartbeats 2000000 in
theorem C7 (r:aM) (h:List Int) (hh:K4 h) (hl:AI h.length r):aF Tryz.prog 212 [.agg (aK r),encI h] (gi (ep h r.right 0)):=by
  obtain ⟨_,_,_,hl6,hs⟩:=hl
  refine aF.val (by
    intro v hv; simp at hv
    rcases hv with rfl | rfl
    · exact cg _ (eK r)
    · exact bX h) fun H=>?_
  refine az.of mixed uc ?_
  simp (disch:=omega) only [↓wr,wq,ah,Nat.reduceAdd,Nat.reduceLeDiff,o9,aK,encI]
  refine bc.up r.right.length (fun i T H'=>∃ top:Int,0≤top∧top≤1000∧ep h (r.right.drop i) top=ep h r.right 0∧T 1=encI h∧T 2=.aS (aK r) 0∧T 5=gi top∧T 6=gi i) ⟨0,by omega,by omega,rfl,rfl,rfl,rfl,rfl⟩ ?_
  rintro i k T H hk ⟨top,h0,h1,hd,t1,t2,t5,t6⟩
  simp (disch:=omega) only [↓wr,↓reduceIte,wq,ag,aj,Nat.reduceEqDiff,Nat.reduceAdd,Nat.reduceLT,Int.reduceNeg,mV,t2,t6,aK,encI]
  refine ar.dec (fun hc=>?_) (fun hc=>?_)
  · have hg:r.right[i]?=some (r.right[i]'(by omega)):=List.getElem?_eq_getElem (by omega)
    have hmem:r.right[i]'(by omega)∈r.right:=List.getElem_mem _
    rw[c9 (show i < r.right.length by omega)] at hd
    generalize r.right[i]'(by omega)=x at hg hmem hd
    obtain ⟨⟨hx1,hx2⟩,hx3⟩:=hs x hmem
    simp (disch:=omega) only [↓wr,↓reduceIte,wq,ag,Nat.reduceEqDiff,Nat.reduceAdd,Nat.reduceLT,Int.reduceNeg,t2,t6,aK,encI,List.getElem?_map,hg]
    refine ar.dec (fun hx=>?_) (fun hx=>?_)
    · simp (disch:=omega) only [↓wr,↓reduceIte,wq,ag,Nat.reduceEqDiff,reduceCtorEq,t5,t6]
      rw[ep,if_pos (show 0≤x from hx)] at hd
      exact aJ hk (by omega) ⟨top,h0,h1,hd,t1,t2,t5,rfl⟩
    · have hm:bD x < h.length:=by have:=hx3 (by omega); unfold bD; omega
      have hgm:=yj hm
      have hb:=hh (bD x)
      rw[ep,if_neg hx] at hd
      generalize ez h (bD x)=v at hgm hb hd
      simp (disch:=omega) only [↓wr,↓reduceIte,wq,ag,Nat.reduceEqDiff,Nat.reduceAdd,Nat.reduceLT,Int.reduceNeg,t1,t2,t6,aK,encI,List.getElem?_map,hg,hgm]
      refine ar.eq (fun hv=>?_) (fun hv=>?_)
      · simp (disch:=omega) only [↓wr,↓reduceIte,wq,ag,Nat.reduceEqDiff,Int.reduceNeg,reduceCtorEq,t5,t6]
        rw[if_pos hv] at hd
        rw[← hd]
      · simp (disch:=omega) only [↓wr,↓reduceIte,wq,ag,Nat.reduceEqDiff,Int.reduceNeg,reduceCtorEq,t5,t6,JC]
        rw[if_neg hv] at hd
        exact aJ hk (by omega) ⟨_,by omega,by omega,hd,t1,t2,rfl,rfl⟩
  · simp (disch:=omega) only [↓wr,↓reduceIte,wq,Nat.reduceEqDiff,reduceCtorEq,t5]
    rw[List.drop_eq_nil_of_le (by omega),ep] at hd
    rw[hd]
def Qt (g:ao) (old:List Int) (k:Int) (b d i:Nat) (T:Env) (H:View):Prop :=
  ∃ out:List Int,out.length=g.au.length∧(g.rules.drop i).foldl (iO old k) out=g.rules.foldl (iO old k) old∧b≠d∧H b=.arr 1 (aW out)∧H d=.arr 1 (aW old) ∧
    T 1=.aS (al g) 0∧T 3=.sl b 0 g.au.length 1∧T 4=gi k∧T 5=.sl d 0 g.au.length 1∧T 6=gi i
set_option maxHeartbeats 4000000 in
theorem wV (g:ao) (hg:g.Ok):bP Tryz.prog 211 [.agg (al g)] (encI (if bm g=true then dW (av g) else [])):=by
  refine bP.of (dM g) ?_
  refine az.of mixed qR ?_
  have hn:=hg.au
  unfold aN at hn
  simp (disch:=omega) only [↓wr,↓reduceIte,wq,ah,Nat.reduceEqDiff,Nat.reduceAdd,Nat.reduceLeDiff,lO,al,encS]
  refine aC.pure (kh g hg) (by kernel_rfl) ?_
  repeat' (first | (refine ar.dec (fun _=>?_) (fun _=>?_)) | (refine ar.eq (fun _=>?_) (fun _=>?_)) | (refine ar.ne (fun _=>?_) (fun _=>?_)) | (refine ar.split (fun _=>?_) (fun _=>?_)) | (simp (disch:=omega) only [↓wr,↓reduceIte,wq,aj,Nat.reduceEqDiff,Nat.reduceAdd,Nat.reduceLT,reduceCtorEq]))
  · rename_i hr
    have hf:=aX hr
    have z1:=hf.ka
    have z2:=hf.au
    have z3:=hf.rules
    rw[if_pos hr]
    try simp (disch:=omega) only [↓wr,↓reduceIte,wq,ah,ag,aj,aa,ab,af,ai,isNil,Nat.reduceEqDiff,Nat.reduceAdd,Nat.reduceLT,Nat.reduceLeDiff,Int.reduceNeg,Int.reduceToNat,reduceCtorEq,al,encS]
    refine ⟨⟨by omega,by unfold aG; omega,by unfold aG; omega⟩,fun h=>by omega,?_⟩
    intro _ b
    try simp (disch:=omega) only [↓wr,↓reduceIte,wq,ah,ag,aj,aa,ab,af,ai,isNil,Nat.reduceEqDiff,Nat.reduceAdd,Nat.reduceLT,Nat.reduceLeDiff,Int.reduceNeg,Int.reduceToNat,reduceCtorEq,al,encS]
    refine bc.up g.au.length (fun j T H'=>H' b=.arr 1 (aW (dW (aA g j)))∧T 1=.aS (al g) 0∧T 3=.sl b 0 g.au.length 1∧T 4=gi ((j:Int)+1)) ?_ ?_
    · refine ⟨?_,rfl,rfl,rfl⟩
      simp[View.set,aA,iter,gL]
    rintro j k T H hk ⟨hb,t1,t3,t4⟩
    simp (disch:=omega) only [↓wr,↓reduceIte,wq,ag,aj,Nat.reduceEqDiff,Nat.reduceAdd,Nat.reduceLT,reduceCtorEq,kA,t1,t4,al,encS]
    refine ar.dec (fun hc=>?_) (fun hc=>?_)
    · have hlen:=dG g j
      obtain ⟨nl,hnl⟩:∃ nl,g.au.length=nl+1:=⟨g.au.length - 1,by omega⟩
      have he:ca H (.sl b 0 g.au.length 1)=some (aW (dW (aA g j)),[b]):=by
        rw[hnl,qD _ b 0 nl 1 1 _ hb (by simp[hlen,hnl]),List.drop_zero,List.take_of_length_le (by simp[hlen,hnl])]
      have hne:(aW (dW (aA g j))).isEmpty=false:=by
        cases hx:aA g j with
        | nil=>rw[hx] at hlen; simp at hlen; omega
        | cons=>rfl
      simp (disch:=omega) only [↓wr,↓reduceIte,wq,Nat.reduceEqDiff,t3,he,xn _ _ _ _ _ _ _ hne,hlen]
      refine ⟨by simp[List.all_map,aO],⟨by unfold aG; omega,by unfold aG; omega⟩,fun d hd=>?_⟩
      have hbd:b≠d:=by rintro rfl; rw[hb] at hd; simp at hd
      refine bc.up g.rules.length (Qt g (dW (aA g j)) ((j:Int)+1) b d) ⟨dW (aA g j),by simp[hlen],rfl,hbd,by simp[View.set,hbd,hb],by simp[View.set],t1,t3,t4,rfl,rfl⟩ ?_
      clear t1 t3 t4 hb he hd
      rintro i q T H hq ⟨out,hol,hfold,_,hb,hd,t1,t3,t4,t5,t6⟩
      simp (disch:=omega) only [↓wr,↓reduceIte,wq,ag,aj,Nat.reduceEqDiff,Nat.reduceAdd,Nat.reduceLT,kG,t1,t6,al]
      refine ar.dec (fun hc2=>?_) (fun hc2=>?_)
      · have hg2:g.rules[i]?=some (g.rules[i]'(by omega)):=List.getElem?_eq_getElem (by omega)
        have hmem:g.rules[i]'(by omega)∈g.rules:=List.getElem_mem _
        rw[c9 (show i < g.rules.length by omega),List.foldl_cons] at hfold
        generalize g.rules[i]'(by omega)=r at hg2 hmem hfold
        have hri:=hf.pG hg hmem
        have hl:=hf.left r hmem
        have hgo:=H8 (h:=out) (m:=r.left.toNat) (by omega)
        have hso:=DX (g:=g) z3 (show j≤16 by omega)
        have hhl:(dW (aA g j)).length=g.au.length:=by simp[hlen]
        unfold iO at hfold
        generalize dW (aA g j)=old at hd hso hhl hfold ⊢
        simp (disch:=omega) only [↓wr,↓reduceIte,wq,aa,Nat.reduceEqDiff,Nat.reduceAdd,Nat.reduceLT,Nat.reduceLeDiff,t1,t3,t6,al,aK,encI,List.getElem?_map,hg2]
        intro n hn
        have hnb:b≠n:=by rintro rfl; rw[hb] at hn; simp at hn
        have hnd:d≠n:=by rintro rfl; rw[hd] at hn; simp at hn
        try simp (disch:=omega) only [↓wr,↓reduceIte,wq,ag,Nat.reduceLT,hb,hnb,hgo]
        refine ⟨by omega,by omega,?_⟩
        refine ar.eq (fun hz=>?_) (fun hz=>?_)
        · simp (disch:=omega) only [↓wr,↓reduceIte,wq,Nat.reduceEqDiff,Nat.reduceAdd,Nat.reduceLT,Nat.reduceLeDiff,t5]
          refine aC.OS (C7 r old hso (by rw[hhl]; exact hri)) (by kernel_rfl) (.val _) ⟨dh.tree (cg _ (eK r)),vp (l:=old) (by simp[View.set,hnd,hd]) hhl.symm,trivial⟩ ?_
          simp (disch:=omega) only [↓wr,↓reduceIte,wq,ag,Nat.reduceEqDiff,t4]
          refine ar.eq (fun hh=>?_) (fun hh=>?_)
          · simp (disch:=omega) only [↓wr,↓reduceIte,wq,ag,aa,Nat.reduceEqDiff,Nat.reduceAdd,Nat.reduceLT,Nat.reduceLeDiff,reduceCtorEq,t3,t4,t6,hb,hnb,hgo]
            refine ⟨by omega,by omega,?_⟩
            rw[if_pos ⟨hz,hh⟩] at hfold
            refine aJ hq (by omega) ⟨_,by simp[hol],hfold,hbd,?_,by simp[View.set,hbd.symm,hnd,hd],t1,t3,t4,t5,rfl⟩
            simp only[View.set,if_true]
            rw[← JO]
          · simp (disch:=omega) only [↓wr,↓reduceIte,wq,ag,Nat.reduceEqDiff,Nat.reduceAdd,reduceCtorEq,t3,t4,t6]
            rw[if_neg (fun e=>hh e.2)] at hfold
            exact aJ hq (by omega) ⟨out,hol,hfold,hbd,by simp[View.set,hnb,hb],by simp[View.set,hnd,hd],t1,t3,t4,t5,rfl⟩
        · simp (disch:=omega) only [↓wr,↓reduceIte,wq,ag,Nat.reduceEqDiff,Nat.reduceAdd,reduceCtorEq,t3,t4,t6]
          rw[if_neg (fun e=>hz e.1)] at hfold
          exact aJ hq (by omega) ⟨out,hol,hfold,hbd,by simp[View.set,hnb,hb],by simp[View.set,hnd,hd],t1,t3,t4,t5,rfl⟩
      · simp (disch:=omega) only [↓wr,↓reduceIte,wq,Nat.reduceEqDiff,reduceCtorEq,t3,t4]
        rw[List.drop_eq_nil_of_le (by omega),List.foldl_nil,M7] at hfold
        rw[hfold] at hb
        exact aJ hk (by omega) ⟨hb,t1,t3,rfl⟩
    · simp (disch:=omega) only [↓wr,↓reduceIte,wq,Nat.reduceEqDiff,reduceCtorEq,t3]
      intro h' hh
      have:j=g.au.length:=by omega
      subst this
      exact eU (by rw[hh]; exact .inr ⟨b,by simp[eH],hb⟩)
  · rename_i hr
    rw[hr]
    intro h' hh
    exact .emp _
def lF:SC :=
  .seq (.seq (ak [ae 20 7,ax 21 .geq 20 0]) <|
  .cond (.tmp 21) (.skip) (.exit 2)) <|
  .seq (.block 3 (.seq (.region true [⟨none,[aq 24 2 1,an 25 24,ae 26 7,aQ 27 3 25 26,aq 28 0 27,an 29 28,ae 30 5,aR 31 .eql 29 30,ae 32 31]⟩,⟨(some (32,true)),[ae 33 3,ae 34 5,aQ 35 1 33 34,an 36 35,ax 37 .gtr 36 0]⟩,⟨none,[bN 38 32 37,ae 39 38]⟩,⟨(some (39,true)),[aq 40 2 1,an 41 40,ae 42 7,aQ 43 3 41 42,aT 44 3 43,ae 45 3,aL 46 212 [44,45],ae 47 3,ae 48 5,aQ 49 1 47 48,an 50 49,aR 51 .eql 46 50]⟩,⟨none,[bN 52 39 51]⟩]) <|
  .cond (.tmp 52) (ak [ae 53 7,ae 6 53]) (.skip))) <|
  ak [ae 22 7,ax 23 .sub 22 1,ae 7 23]
def ic:SC :=
  .seq (.seq (ak [ae 10 5,ae 11 3,aP 12 11,aR 13 .lss 10 12]) <|
  .cond (.tmp 13) (.skip) (.exit 0)) <|
  .seq (.block 1 (.seq (ak [aH 6 (-1)]) <|
  .seq (.seq (ak [aq 16 2 1,an 17 16,aP 18 17,ax 19 .sub 18 1,ae 7 19]) <|
  .block 2 (.loop lF)) <|
  ak [ae 54 4,ae 55 6,((some 56),.op (.bA 1 1 [(.val (.int .i64 0))] [(0,(.tmp 55))])),((some 57),.op (.app 1 8 (.tmp 54) (.tmp 56))),ae 4 57])) <|
  ak [ae 14 5,ax 15 .add 14 1,ae 5 15]
def nh:SF:=⟨.seq (ak [cx 1 0,((some 2),.op (.aZ (.val (.emp 1))))]) <|
  .seq (ak [aT 8 4 1,aL 9 211 [8],ae 3 9]) <|
  .seq (ak [((some 4),.op (.aZ (.val (.emp 1))))]) <|
  .seq (.seq (ak [aH 5 0]) <|
  .block 0 (.loop ic)) <|
  .seq (ak [ae 58 4,ae 2 58]) <|
  .ret,
  [.tmp 2],59⟩
theorem td:aU Tryz.prog 171 [1]=some nh:=by kernel_rfl
theorem HA {h:List Int} {m:Nat} {l:List aM} {c:Nat} {r:aM} (hr:l[c]?=some r):jz h m (l.drop c) c=if r.left=(m:Int)∧0 < ez h m∧ep h r.right 0=ez h m then (c:Int) else jz h m (l.drop (c+1)) ((c:Int)+1):=by
  have hc:c < l.length:=(List.getElem?_eq_some_iff.1 hr).1
  have he:l[c]=r:=(List.getElem?_eq_some_iff.1 hr).2
  rw[List.drop_eq_getElem_cons hc,he,jz]
def Qj (g:ao) (h:List Int) (u:V) (j c:Nat) (T:Env) (H:View):Prop :=
  c≤g.rules.length∧T 1=.aS (al g) 0∧T 3=encI h∧T 4=u∧aV H u 1 (aW ((List.range j).map fun m=>jz h m g.rules 0))∧T 5=gi j∧T 6=gi (jz h j (g.rules.drop c) c)∧T 7=gi ((c:Int) - 1)
set_option maxHeartbeats 4000000 in
theorem A6 (g:ao) (hg:g.Ok):bP Tryz.prog 171 [.agg (al g)] (encI (if bm g=true then fo g else [])):=by
  refine bP.of (dM g) ?_
  refine az.of mixed td ?_
  simp (disch:=omega) only [↓wr,↓reduceIte,wq,ah,Nat.reduceEqDiff,Nat.reduceAdd,Nat.reduceLeDiff,nh,al,encS]
  refine aC.pure (wV g hg).pure (by kernel_rfl) ?_
  by_cases hr:bm g=true
  · have hf:=aX hr
    have z1:=hf.ka
    have z2:=hf.au
    have z3:=hf.rules
    rw[if_pos hr,if_pos hr]
    have hrl:fo g=(List.range g.au.length).map fun m=>jz (dW (av g)) m g.rules 0:=by
      apply List.ext_getElem (by simp[fo,eH])
      intro m h1 h2
      simp only[fo,List.getElem_map,List.getElem_range]
      rw[GF (fun r hr'=>(hf.left r hr').1)]
      have:m < (av g).length:=by simpa [fo] using h1
      simp[bb,List.getD_eq_getElem?_getD,this]
    have hso:K4 (dW (av g)):=DX z3 z2
    have hhl:(dW (av g)).length=g.au.length:=by simp[eH]
    rw[hrl]
    generalize dW (av g)=h at hso hhl ⊢
    simp (disch:=omega) only [↓wr,↓reduceIte,wq,encI]
    refine bc.up g.au.length (fun j T H'=>∃ u,T 4=u∧aV H' u 1 (aW ((List.range j).map fun m=>jz h m g.rules 0))∧T 1=.aS (al g) 0∧T 3=encI h∧T 5=gi j) ⟨_,rfl,.nil,rfl,rfl,rfl⟩ ?_
    rintro j k T H hk ⟨u,t4,ho,t1,t3,t5⟩
    simp (disch:=omega) only [↓wr,↓reduceIte,wq,ag,aj,Nat.reduceEqDiff,Int.reduceNeg,reduceCtorEq,ic,t3,t5,encI]
    refine ar.dec (fun hc=>?_) (fun hc=>?_)
    · have hjm:=yj (h:=h) (m:=j) (by omega)
      simp (disch:=omega) only [↓wr,↓reduceIte,wq,ag,aj,Nat.reduceEqDiff,Nat.reduceAdd,Nat.reduceLT,Int.reduceNeg,t1,al]
      refine bc.intro (Qj g h u j) g.rules.length ?_ ?_
      · refine ⟨by omega,t1,t3,t4,ho,t5,?_,rfl⟩
        rw[List.drop_eq_nil_of_le (by omega)]; rfl
      clear t1 t3 t4 t5 ho
      rintro c T H ⟨hcl,t1,t3,t4,ho,t5,t6,t7⟩
      simp (disch:=omega) only [↓wr,↓reduceIte,wq,ag,af,Nat.reduceEqDiff,Nat.reduceLT,lF,t7]
      refine ar.dec (fun hc2=>?_) (fun hc2=>?_)
      · obtain ⟨c,rfl⟩:∃ c',c=c'+1:=⟨c - 1,by omega⟩
        have hg2:g.rules[c]?=some (g.rules[c]'(by omega)):=List.getElem?_eq_getElem (by omega)
        have hmem:g.rules[c]'(by omega)∈g.rules:=List.getElem_mem _
        generalize g.rules[c]'(by omega)=r at hg2 hmem
        have hri:=hf.pG hg hmem
        have hbc:=HA (h:=h) (m:=j) hg2
        have e1:(((c+1:Nat):Int) - 1)=(c:Int):=by omega
        rw[e1] at t7
        try simp only[e1]
        rw[show (((c+1:Nat):Int))=(c:Int)+1 by omega] at t6
        simp (disch:=omega) only [↓wr,↓reduceIte,wq,ag,Nat.reduceEqDiff,Nat.reduceAdd,Nat.reduceLT,t1,t5,t7,encI,al,aK,List.getElem?_map,hg2]
        refine ar.eq (fun h1=>?_) (fun h1=>?_)
        · simp (disch:=omega) only [↓wr,↓reduceIte,wq,ag,Nat.reduceEqDiff,Nat.reduceLT,t3,t5,encI,List.getElem?_map,hjm]
          refine ar.dec (fun h2=>?_) (fun h2=>?_)
          · simp (disch:=omega) only [↓wr,↓reduceIte,wq,Nat.reduceEqDiff,Nat.reduceAdd,Nat.reduceLT,Nat.reduceLeDiff,t1,t3,t7,encI,al,aK,List.getElem?_map,hg2]
            refine aC.pure (C7 r h hso (by rw[hhl]; exact hri)) (by kernel_rfl) ?_
            simp (disch:=omega) only [↓wr,↓reduceIte,wq,ag,Nat.reduceEqDiff,Nat.reduceLT,t3,t5,encI,List.getElem?_map,hjm]
            refine ar.eq (fun h3=>?_) (fun h3=>?_)
            · simp (disch:=omega) only [↓wr,↓reduceIte,wq,ag,Nat.reduceEqDiff,reduceCtorEq,t4,t5,t7]
              refine ⟨c,by omega,by omega,t1,t3,t4,ho,t5,?_,rfl⟩
              rw[hbc,if_pos ⟨h1,h2,h3⟩]; rfl
            · simp (disch:=omega) only [↓wr,↓reduceIte,wq,ag,Nat.reduceEqDiff,reduceCtorEq,t4,t5,t6,t7]
              refine ⟨c,by omega,by omega,t1,t3,t4,ho,t5,?_,rfl⟩
              rw[hbc,if_neg (fun e=>h3 e.2.2)]; exact t6
          · simp (disch:=omega) only [↓wr,↓reduceIte,wq,ag,Nat.reduceEqDiff,reduceCtorEq,t4,t5,t6,t7]
            refine ⟨c,by omega,by omega,t1,t3,t4,ho,t5,?_,rfl⟩
            rw[hbc,if_neg (fun e=>h2 e.2.1)]; exact t6
        · simp (disch:=omega) only [↓wr,↓reduceIte,wq,ag,Nat.reduceEqDiff,reduceCtorEq,t4,t5,t6,t7]
          refine ⟨c,by omega,by omega,t1,t3,t4,ho,t5,?_,rfl⟩
          rw[hbc,if_neg (fun e=>h1 e.1)]; exact t6
      · have e0:c=0:=by omega
        subst e0
        simp only[List.drop_zero,Int.natCast_zero] at t6
        simp (disch:=omega) only [↓wr,↓reduceIte,wq,Nat.reduceEqDiff,reduceCtorEq,t4,t5,t6]
        intro n hn
        rw[bQ]
        simp (disch:=omega) only [↓wr,↓reduceIte,wq,Nat.reduceEqDiff,t4]
        refine jL (ho.fresh hn) (by simp[aO]) (by unfold aG; simp; omega) (by unfold aG; simp; omega) ?_
        intro u' H' ho' _
        simp (disch:=omega) only [↓wr,↓reduceIte,wq,ag,Nat.reduceEqDiff,reduceCtorEq,t4,t5,t6]
        refine aJ hk (by omega) ⟨u',rfl,?_,t1,t3,rfl⟩
        rw[List.range_succ]; simpa using ho'
    · simp (disch:=omega) only [↓wr,↓reduceIte,wq,Nat.reduceEqDiff,reduceCtorEq,t4]
      intro h' hh
      have:j=g.au.length:=by omega
      subst this
      exact eU (by rw[hh]; exact ho)
  · have hr:bm g=false:=by simpa using hr
    rw[hr]
    simp (disch:=omega) only [↓wr,↓reduceIte,wq,encI]
    refine bc.up 0 (fun j T H'=>T 3=.aY []∧T 4=.emp 1∧T 5=gi j) ⟨rfl,rfl,rfl⟩ ?_
    rintro j k T H hk ⟨t3,t4,t5⟩
    simp (disch:=omega) only [↓wr,↓reduceIte,wq,ag,aj,Nat.reduceEqDiff,Int.reduceNeg,reduceCtorEq,ic,t3,t5]
    refine ar.dec (fun hc=>absurd hc (by simp)) (fun hc=>?_)
    simp (disch:=omega) only [↓wr,↓reduceIte,wq,Nat.reduceEqDiff,reduceCtorEq,t4]
    intro h' hh
    exact .emp _
def dQ (s:Int × Int):List V:=[gi s.1,gi s.2]
abbrev Ag (S:List (Int × Int)):V:=.aY (S.map dQ)
theorem sC (s:Int × Int):∀ v∈dQ s,Tree v:=by
  intro v hv; simp[dQ] at hv
  rcases hv with rfl | rfl <;> exact .val _
theorem Hf (S:List (Int × Int)):Tree (Ag S):=eV _ _ fun s _ v hv=>sC s v hv
theorem Me (h:aE) (s:Int × Int):cP h (.agg (dQ s)) (.agg (dQ s)):=.agg _ _ rfl fun i hi=>by
  match i,hi with
  | 0,_=>exact .val _
  | 1,_=>exact .val _
  | n+2,h=>exact absurd h (by simp[dQ])
def iR (s:Int × Int):Prop:=(0≤s.1∧s.1≤1000)∧(0≤s.2∧s.2≤1000)
theorem B1 {a b:Int × Int} (ha:iR a) (hb:iR b):iR (mU a b):=by unfold iR mU at *; simp only; omega
theorem PI {x:Int} : (if x < 1000 then x else 1000)=min 1000 x:=by omega
def oW:SF:=⟨.seq (ak [cx 2 0,cx 3 1,((some 4),.op (.alloc [(.val (.int .i64 0)),(.val (.int .i64 0))]))]) <|
  .seq (ak [aq 5 0 2,an 6 5,aq 7 0 3,an 8 7,aR 9 .add 6 8,((some 10),.op (.mm false (.val (.val (.int .i64 1000))) (.tmp 9))),aq 11 1 2,an 12 11,aq 13 1 3,an 14 13,aR 15 .add 12 14,((some 16),.op (.mm false (.val (.val (.int .i64 1000))) (.tmp 15))),((some 17),.op (.build [(.val (.int .i64 0)),(.val (.int .i64 0))] [(0,1,(.tmp 10)),(1,1,(.tmp 16))])),(none,.op (.store 2 (.tmp 4) (.tmp 17)))]) <|
  .ret,
  [.cell 4 (some 2)],18⟩
theorem tA:aU Tryz.prog 213 [2,3]=some oW:=by kernel_rfl
def mW:SC :=
  .seq (.seq (ak [ae 8 6,ae 9 0,aP 10 9,aR 11 .lss 8 10]) <|
  .cond (.tmp 11) (.skip) (.exit 0)) <|
  .seq (.block 1 (.seq (ak [ae 14 0,ae 15 6,aQ 16 1 14 15,an 17 16,ax 18 .geq 17 0]) <|
  .cond (.tmp 18) (ak [aT 19 2 5,((some 20),.op (.build [(.val (.int .i64 0)),(.val (.int .i64 0))] [(1,1,(.val (.val (.int .i64 1))))])),aL 21 213 [19,20],(none,.op (.store 2 (.tmp 5) (.tmp 21)))]) (ak [aT 22 2 5,ae 23 1,ae 24 0,ae 25 6,aQ 26 1 24 25,an 27 26,((some 28),.op (.arith .sub (.val (.val (.int .i64 (-1)))) (.tmp 27))),aQ 29 2 23 28,aT 30 2 29,aL 31 213 [22,30],(none,.op (.store 2 (.tmp 5) (.tmp 31)))]))) <|
  ak [ae 12 6,ax 13 .add 12 1,ae 6 13]
def ph:SF:=⟨.seq (ak [((some 4),.op (.alloc [(.val (.int .i64 0)),(.val (.int .i64 0))]))]) <|
  .seq (ak [((some 7),.op (.build [(.val (.int .i64 0)),(.val (.int .i64 0))] [])),((some 5),.op (.alloc [(.val (.int .i64 0)),(.val (.int .i64 0))])),(none,.op (.store 2 (.tmp 5) (.tmp 7)))]) <|
  .seq (.seq (ak [aH 6 0]) <|
  .block 0 (.loop mW)) <|
  .seq (ak [aT 32 2 5,(none,.op (.store 2 (.tmp 4) (.tmp 32)))]) <|
  .ret,
  [.cell 4 (some 2)],33⟩
theorem uu:aU Tryz.prog 214 []=some ph:=by kernel_rfl
theorem BA (a b:Int × Int) (ha:iR a) (hb:iR b):bP Tryz.prog 213 [.agg (dQ a),.agg (dQ b)] (.agg (dQ (mU a b))):=by
  unfold iR at ha hb
  refine bP.of (by
    intro v hv; simp at hv
    rcases hv with rfl | rfl
    · exact cg _ (sC a)
    · exact cg _ (sC b)) ?_
  refine az.of mixed tA ?_
  simp (disch:=omega) only [↓wr,↓reduceIte,wq,ah,ag,aa,ab,Nat.reduceEqDiff,Nat.reduceAdd,Nat.reduceLT,Nat.reduceLeDiff,reduceCtorEq,oW,dQ,PI]
  intro n h' _
  exact Me h' (mU a b)
theorem MZ {H:View} {id n:Nat} {S:List (Int × Int)} (hv:H id=.arr 2 (S.map dQ)) (hn:n=S.length):dh H (.sl id 0 n 2) (Ag S):=by
  subst hn
  exact dh.own (sz:=2) (.inr ⟨id,by simp,hv⟩) fun e he v hv=>by
    obtain ⟨x,_,rfl⟩:=List.mem_map.1 he
    exact sC x v hv
theorem F8 {S:List (Int × Int)} {m:Nat} (hm:m < S.length):(S.map dQ)[m]?=some (dQ (iP S m)):=by simp[iP,List.getD_eq_getElem?_getD,hm]
set_option maxHeartbeats 2000000 in
theorem Nn (l:List Int) (S:List (Int × Int)) (hl:aN l) (hS:∀ m,iR (iP S m)) (hn:∀ x∈l,bM x∧(x < 0→-1 - x < S.length)):bP Tryz.prog 214 [encI l,Ag S] (.agg (dQ (lh S l (0,0)))):=by
  unfold aN at hl
  refine bP.of (by
    intro v hv; simp at hv
    rcases hv with rfl | rfl
    · exact bX l
    · exact Hf S) ?_
  refine az.of mixed uu ?_
  simp (disch:=omega) only [↓wr,↓reduceIte,wq,ah,aa,ab,Nat.reduceEqDiff,Nat.reduceAdd,Nat.reduceLT,Nat.reduceLeDiff,ph,encI]
  intro n1 n2 hn2
  try simp (disch:=omega) only [↓wr,↓reduceIte,wq,ah,ag,aj,aa,ab,af,ai,isNil,Nat.reduceEqDiff,Nat.reduceAdd,Nat.reduceLT,Nat.reduceLeDiff,Int.reduceNeg,Int.reduceToNat,reduceCtorEq,encI]
  have h12:n1≠n2:=fun e=>by subst e; simp at hn2
  refine bc.up l.length (fun i T H'=>∃ s:Int × Int,iR s∧lh S (l.drop i) s=lh S l (0,0)∧H' n2=.arr 2 [dQ s]∧(∃ z,H' n1=.arr 2 [[z,z]])∧T 0=encI l∧T 1=Ag S∧T 4=.ptr n1 0 0∧T 5=.ptr n2 0 0∧T 6=gi i) ?_ ?_
  · exact ⟨(0,0),by unfold iR; simp,rfl,by simp[View.set,dQ],⟨gi 0,by simp[View.set,h12]⟩,rfl,rfl,rfl,rfl,rfl⟩
  clear hn2
  rintro i k T H hk ⟨s,hs,hd,hH,⟨z,hz⟩,t0,t1,t4,t5,t6⟩
  have hs0:=hs
  unfold iR at hs0
  simp (disch:=omega) only [↓wr,↓reduceIte,wq,ag,aj,Nat.reduceEqDiff,Int.reduceNeg,reduceCtorEq,mW,t0,t6,encI]
  refine ar.dec (fun hc=>?_) (fun hc=>?_)
  · have hg:l[i]?=some (l[i]'(by omega)):=List.getElem?_eq_getElem (by omega)
    have hmem:l[i]'(by omega)∈l:=List.getElem_mem _
    rw[c9 (show i < l.length by omega),lh] at hd
    generalize l[i]'(by omega)=x at hg hmem hd
    obtain ⟨⟨hx1,hx2⟩,hx3⟩:=hn x hmem
    simp (disch:=omega) only [↓wr,↓reduceIte,wq,ag,Nat.reduceEqDiff,Nat.reduceLT,Int.reduceNeg,reduceCtorEq,t0,t6,encI,List.getElem?_map,hg]
    refine ar.dec (fun hx=>?_) (fun hx=>?_)
    · rw[if_pos (show 0≤x from hx)] at hd
      simp (disch:=omega) only [↓wr,↓reduceIte,wq,aa,ab,Nat.reduceEqDiff,Nat.reduceAdd,Nat.reduceLT,Nat.reduceLeDiff,t5,hH,dQ]
      refine aC.pure (BA s (0,1) hs (by unfold iR; simp)).pure (by kernel_rfl) ?_
      have hb:=B1 hs (show iR (0,1) by unfold iR; simp)
      generalize mU s (0,1)=s2 at hd hb
      simp (disch:=omega) only [↓wr,↓reduceIte,wq,ag,aa,Nat.reduceEqDiff,Nat.reduceAdd,Nat.reduceLT,Nat.reduceLeDiff,reduceCtorEq,t4,t5,t6,hH,dQ]
      refine aJ hk (by omega) ⟨s2,hb,hd,by simp[View.set],⟨z,by simp[View.set,h12,hz]⟩,t0,t1,t4,t5,rfl⟩
    · rw[if_neg (show ¬ 0≤x from hx)] at hd
      have hm:bD x < S.length:=by have:=hx3 (by omega); unfold bD; omega
      have hgm:=F8 hm
      have hb0:=hS (bD x)
      generalize iP S (bD x)=s1 at hd hgm hb0
      simp (disch:=omega) only [↓wr,↓reduceIte,wq,ag,Nat.reduceEqDiff,Nat.reduceAdd,Nat.reduceLT,Nat.reduceLeDiff,Int.reduceNeg,reduceCtorEq,t0,t1,t5,t6,hH,encI,List.getElem?_map,hg,hgm,dQ]
      refine aC.pure (BA s s1 hs hb0).pure (by kernel_rfl) ?_
      have hb:=B1 hs hb0
      generalize mU s s1=s2 at hd hb
      simp (disch:=omega) only [↓wr,↓reduceIte,wq,ag,aa,Nat.reduceEqDiff,Nat.reduceAdd,Nat.reduceLT,Nat.reduceLeDiff,Int.reduceNeg,reduceCtorEq,t4,t5,t6,hH,dQ]
      refine aJ hk (by omega) ⟨s2,hb,hd,by simp[View.set],⟨z,by simp[View.set,h12,hz]⟩,t0,t1,t4,t5,rfl⟩
  · simp (disch:=omega) only [↓wr,↓reduceIte,wq,aa,Nat.reduceEqDiff,Nat.reduceAdd,Nat.reduceLT,Nat.reduceLeDiff,reduceCtorEq,t4,t5,hH,hz,dQ]
    rw[List.drop_eq_nil_of_le (by omega),lh] at hd
    intro h' _
    rw[← hd]
    exact Me h' s
def lQ:SC :=
  .seq (.seq (ak [ae 21 7,ae 22 3,aP 23 22,aR 24 .lss 21 23]) <|
  .cond (.tmp 24) (.skip) (.exit 2)) <|
  .seq (.block 3 (.seq (ak [ae 27 3,ae 28 7,aQ 29 1 27 28,an 30 29,ae 31 6,aR 32 .eql 30 31]) <|
  .cond (.tmp 32) (ak [ae 33 5,ae 34 7,((some 35),.op (.build [(.val (.int .i64 0)),(.val (.int .i64 0))] [(0,1,(.val (.val (.int .i64 1))))])),aq 36 2 1,an 37 36,ae 38 4,ae 39 7,aQ 40 1 38 39,an 41 40,aQ 42 3 37 41,aq 43 1 42,an 44 43,ae 45 5,aL 46 214 [44,45],aL 47 213 [35,46],aQ 48 2 33 34,(none,.op (.store 2 (.tmp 48) (.tmp 47)))]) (.skip))) <|
  ak [ae 25 7,ax 26 .add 25 1,ae 7 26]
def lL:SC :=
  .seq (.seq (ak [ae 15 6,ae 16 3,aP 17 16,aR 18 .leq 15 17]) <|
  .cond (.tmp 18) (.skip) (.exit 0)) <|
  .seq (.block 1 (.seq (ak [aH 7 0]) <|
  .block 2 (.loop lQ))) <|
  ak [ae 19 6,ax 20 .add 19 1,ae 6 20]
def nL:SF:=⟨.seq (ak [cx 1 0,((some 2),.op (.aZ (.val (.emp 1))))]) <|
  .seq (.region true [⟨none,[aT 8 4 1,aL 9 211 [8],aT 10 4 1,aL 11 171 [10],ae 3 9,ae 4 11]⟩]) <|
  .seq (ak [ae 12 3,aP 13 12,((some 14),.op (.make 2 16 [(.val (.int .i64 0)),(.val (.int .i64 0))] (.tmp 13) (.tmp 13))),ae 5 14]) <|
  .seq (.seq (ak [aH 6 1]) <|
  .block 0 (.loop lL)) <|
  .seq (ak [ae 49 5,ae 2 49]) <|
  .ret,
  [.tmp 2],50⟩
theorem tb:aU Tryz.prog 172 [1]=some nL:=by kernel_rfl
theorem Ev {S:List (Int × Int)} (hS:∀ m,iR (iP S m)):∀ (l:List Int) (s:Int × Int),iR s→iR (lh S l s)
  | [],_,h=>h
  | x :: l,s,h=>Ev hS l _ (B1 h (by
                                                   split; · unfold iR; simp
                                                   · exact hS _))
def k9 (g:ao):List (Int × Int):=(av g).map jP
theorem ym:jP gL=(0,0):=by decide
theorem EZ (g:ao) (m:Nat):iP (k9 g) m=jP (bb (av g) m):=by
  simp only[k9,iP,bb,List.getD_eq_getElem?_getD,List.getElem?_map]
  cases (av g)[m]? <;> rfl
theorem OW (g:ao) (m:Nat):iR (jP (bb (av g) m)):=by
  have h:dc (bb (av g) m):=fW g _ m
  unfold dc at h
  unfold iR jP; simp only; omega
def gE (g:ao) (j i:Nat) (S:List (Int × Int)):Prop:=S.length=g.au.length∧∀ m,iP S m=if (bb (av g) m).br≤j∨((bb (av g) m).br=j+1∧m < i) then jP (bb (av g) m) else (0,0)
theorem gE.ok {g:ao} {j i:Nat} {S:List (Int × Int)} (h:gE g j i S) (m:Nat):iR (iP S m):=by
  rw[h.2 m]; split
  · exact OW g m
  · unfold iR; simp
theorem M6 {S:List (Int × Int)} {i m:Nat} {v:Int × Int} (hm:m < S.length):iP (S.set i v) m=if i=m then v else iP S m:=by
  simp only[iP,List.getD_eq_getElem?_getD,List.getElem?_set]
  split
  · rename_i e; subst e; simp[hm]
  · rfl
theorem gE.next {g:ao} {j i:Nat} {S:List (Int × Int)} (h:gE g j i S) (hi:(bb (av g) i).br≠(j:Int)+1):gE g j (i+1) S:=⟨h.1,fun m=>by
  rw[h.2 m]
  by_cases e:m=i
  · subst e
    by_cases h1:(bb (av g) m).br≤j
    · rw[if_pos (.inl h1),if_pos (.inl h1)]
    · rw[if_neg (by omega),if_neg (by omega)]
  · congr 1
    simp only[eq_iff_iff]
    constructor <;> rintro (h1 | h1) <;> first | exact .inl h1 | exact .inr ⟨h1.1,by omega⟩⟩
theorem gE.put {g:ao} {j i:Nat} {S:List (Int × Int)} (h:gE g j i S) (hi:(bb (av g) i).br=(j:Int)+1) (hn:i < g.au.length):gE g j (i+1) (S.set i (jP (bb (av g) i))):=⟨by simp[h.1],fun m=>by
  by_cases hm:m < S.length
  · rw[M6 hm]
    by_cases e:i=m
    · subst e; rw[if_pos rfl,if_pos (.inr ⟨hi,by omega⟩)]
    · rw[if_neg e,h.2 m]
      congr 1
      simp only[eq_iff_iff]
      constructor <;> rintro (h1 | h1) <;> first | exact .inl h1 | exact .inr ⟨h1.1,by omega⟩
  · have:bb (av g) m=gL:=uo (by rw[eH,← h.1]; omega)
    have e:iP (S.set i (jP (bb (av g) i))) m=(0,0):=by
      simp only[iP,List.getD_eq_getElem?_getD]; rw[List.getElem?_eq_none (by simp; omega)]; rfl
    rw[e,this]
    split <;> simp[ym]⟩
theorem gE.O5 {g:ao} {j:Nat} {S:List (Int × Int)} (h:gE g j g.au.length S):gE g (j+1) 0 S:=⟨h.1,fun m=>by
  rw[h.2 m]
  by_cases hm:m < g.au.length
  · congr 1
    simp only[eq_iff_iff]
    push_cast
    constructor
    · rintro (h1 | h1) <;> left <;> omega
    · rintro (h1 | h1)
      · omega
      · omega
  · have:bb (av g) m=gL:=uo (by rw[eH]; omega)
    rw[this]; split <;> split <;> simp[ym]⟩
theorem gE.start (g:ao):gE g 0 0 (List.replicate g.au.length (0,0)):=⟨by simp,fun m=>by
  have e:iP (List.replicate g.au.length (0,0)) m=(0,0):=by
    simp only[iP,List.getD_eq_getElem?_getD,List.getElem?_replicate]
    split <;> rfl
  rw[e]
  split
  · rename_i h
    by_cases hk:bf (av g) m
    · have:=(gQ hk).1; omega
    · rw[vu hk]; simp[ym]
  · rfl⟩
theorem gE.done {g:ao} {S:List (Int × Int)} (h:gE g g.au.length 0 S):S=k9 g:=by
  apply List.ext_getElem (by simp[h.1,k9,eH])
  intro m h1 h2
  have e:S[m]=iP S m:=by simp[iP,List.getD_eq_getElem?_getD,h1]
  have e2:(k9 g)[m]=iP (k9 g) m:=by simp[iP,List.getD_eq_getElem?_getD,h2]
  rw[e,e2,h.2 m,EZ]
  by_cases hk:bf (av g) m
  · rw[if_pos (.inl (gQ hk).2)]
  · rw[vu hk]; split <;> simp[ym]
set_option maxHeartbeats 4000000 in
theorem LR (g:ao) (hg:g.Ok) (hr:bm g=true):bP Tryz.prog 172 [.agg (al g)] (Ag (k9 g)):=by
  refine bP.of (dM g) ?_
  refine az.of mixed tb ?_
  simp (disch:=omega) only [↓wr,↓reduceIte,wq,ah,Nat.reduceEqDiff,Nat.reduceAdd,Nat.reduceLeDiff,nL,al,encS]
  refine aC.pure (wV g hg).pure (by kernel_rfl) ?_
  simp (disch:=omega) only [↓wr,↓reduceIte,wq,Nat.reduceEqDiff,Nat.reduceAdd,Nat.reduceLeDiff]
  refine aC.pure (A6 g hg).pure (by kernel_rfl) ?_
  have hf:=aX hr
  have z1:=hf.ka
  have z2:=hf.au
  have z3:=hf.rules
  rw[if_pos hr,if_pos hr]
  have hhl:=eH g
  simp (disch:=omega) only [↓wr,↓reduceIte,wq,aj,Nat.reduceEqDiff,encI,hhl]
  refine ⟨⟨by omega,by unfold aG; omega,by unfold aG; omega⟩,fun h=>by omega,?_⟩
  intro _ b
  try simp (disch:=omega) only [↓wr,↓reduceIte,wq,ah,ag,aj,aa,ab,af,ai,isNil,Nat.reduceEqDiff,Nat.reduceAdd,Nat.reduceLT,Nat.reduceLeDiff,Int.reduceNeg,Int.reduceToNat,reduceCtorEq]
  refine bc.up g.au.length (fun j T H'=>∃ S,gE g j 0 S∧H' b=.arr 2 (S.map dQ)∧T 1=.aS (al g) 0∧T 3=encI (dW (av g))∧T 4=encI (fo g)∧T 5=.sl b 0 g.au.length 2∧T 6=gi ((j:Int)+1)) ?_ ?_
  · refine ⟨_,.start g,?_,rfl,rfl,rfl,rfl,rfl⟩
    simp[View.set,dQ]
  rintro j k T H hk ⟨S,hS,hb,t1,t3,t4,t5,t6⟩
  simp (disch:=omega) only [↓wr,↓reduceIte,wq,ag,aj,Nat.reduceEqDiff,reduceCtorEq,lL,t3,t6,encI,hhl]
  refine ar.dec (fun hc=>?_) (fun hc=>?_)
  · simp (disch:=omega) only [↓wr,wq]
    refine bc.up g.au.length (fun i T H'=>∃ S,gE g j i S∧H' b=.arr 2 (S.map dQ)∧T 1=.aS (al g) 0∧T 3=encI (dW (av g))∧T 4=encI (fo g)∧T 5=.sl b 0 g.au.length 2∧T 6=gi ((j:Int)+1)∧T 7=gi i) ⟨S,hS,hb,t1,t3,t4,t5,t6,rfl⟩ ?_
    clear t1 t3 t4 t5 t6 hS hb
    rintro i q T H hq ⟨S,hS,hb,t1,t3,t4,t5,t6,t7⟩
    simp (disch:=omega) only [↓wr,↓reduceIte,wq,ag,aj,Nat.reduceEqDiff,lQ,t3,t7,encI,hhl]
    refine ar.dec (fun hc2=>?_) (fun hc2=>?_)
    · have hgh:=yj (h:=dW (av g)) (m:=i) (by simp; omega)
      rw[kp] at hgh
      simp (disch:=omega) only [↓wr,↓reduceIte,wq,ag,Nat.reduceEqDiff,Nat.reduceLT,t3,t6,t7,encI,List.getElem?_map,hgh]
      refine ar.eq (fun hi=>?_) (fun hi=>?_)
      · have hk2:bf (av g) i:=by
          by_cases h:bf (av g) i
          · exact h
          · rw[vu h] at hi; simp[gL] at hi; omega
        obtain ⟨ri,r,hr2,hl2,ha2,hp2,_⟩:=kU hk2
        have hri:(bb (av g) i).ba=ri:=by rw[hp2]; rfl
        have hgr:=yj (h:=fo g) (m:=i) (by simp[fo,hhl]; omega)
        have hrv:ez (fo g) i=ri:=by
          rw[← hri]; simp[fo,ez,bb,List.getD_eq_getElem?_getD,hhl,show i < g.au.length by omega]
        rw[hrv] at hgr
        have hmem:=List.mem_of_getElem? hr2
        have hrl:ri < g.rules.length:=(List.getElem?_eq_some_iff.1 hr2).1
        have hrw:=hg.ba r hmem
        simp (disch:=omega) only [↓wr,↓reduceIte,wq,aa,ab,Nat.reduceEqDiff,Nat.reduceAdd,Nat.reduceLT,Nat.reduceLeDiff,t1,t4,t5,t7,encI,al,aK,List.getElem?_map,hgr,hr2]
        refine aC.qq (Nn r.right S hrw.2.2.1 hS.ok fun x hx=>⟨hrw.2.2.2 x hx,fun hn=>by rw[hS.1]; exact hf.neg hmem hx hn⟩) (by kernel_rfl) ⟨dh.tree (bX r.right),MZ hb hS.1.symm,trivial⟩ ?_
        have hsz:=Ij (S:=S) hk2 hr2 hri fun k hk3 hk4=>by rw[hS.2 k,if_pos (.inl (by omega))]
        have hz0:iR (lh S r.right (0,0)):=Ev hS.ok _ _ (by unfold iR; simp)
        generalize lh S r.right (0,0)=z at hsz hz0
        simp (disch:=omega) only [↓wr,↓reduceIte,wq,Nat.reduceEqDiff]
        refine aC.pure (BA (1,0) z (by unfold iR; simp) hz0).pure (by kernel_rfl) ?_
        rw[hsz]
        simp (disch:=omega) only [↓wr,↓reduceIte,wq,ag,aa,Nat.reduceEqDiff,Nat.reduceAdd,Nat.reduceLeDiff,reduceCtorEq,t5,t6,t7,hb,dQ]
        have hSl:=hS.1
        have hgS:(S.map dQ).getD i []=dQ (iP S i):=by simp[iP,List.getD_eq_getElem?_getD,show i < S.length by omega]
        refine ⟨by omega,by omega,aJ hq (by omega) ⟨_,hS.put hi (by omega),?_,t1,t3,t4,t5,t6,rfl⟩⟩
        simp only[View.set,if_true]
        rw[List.map_set,hgS]; simp only[dQ,List.drop_succ_cons,List.drop_nil]
      · simp (disch:=omega) only [↓wr,↓reduceIte,wq,ag,Nat.reduceEqDiff,reduceCtorEq,t5,t6,t7]
        exact aJ hq (by omega) ⟨S,hS.next hi,hb,t1,t3,t4,t5,t6,rfl⟩
    · simp (disch:=omega) only [↓wr,↓reduceIte,wq,Nat.reduceEqDiff,reduceCtorEq,t5,t6]
      have hS':i=g.au.length:=by omega
      subst hS'
      exact aJ hk (by omega) ⟨S,hS.O5,hb,t1,t3,t4,t5,rfl⟩
  · simp (disch:=omega) only [↓wr,↓reduceIte,wq,Nat.reduceEqDiff,reduceCtorEq,t5]
    have hS':j=g.au.length:=by omega
    subst hS'
    rw[hS.done] at hb
    intro h' hh
    exact cP.own (sz:=2) (.inr ⟨b,by simp[k9,hhl],by rw[hh]; exact hb⟩) rfl (fun i _=>rfl) (fun i j hi hj=>by
      simp only[List.length_map] at hi
      have e:((k9 g).map dQ).getD i []=dQ (k9 g)[i]:=by simp[List.getD_eq_getElem?_getD,hi]
      rw[e] at hj ⊢
      match j,hj with
      | 0,_=>exact .val _
      | 1,_=>exact .val _
      | n+2,h=>exact absurd h (by simp[dQ]))
def fN:SC :=
  .seq (.seq (ak [ae 10 8,ae 11 1,aP 12 11,aR 13 .lss 10 12]) <|
  .cond (.tmp 13) (.skip) (.exit 0)) <|
  .seq (.block 1 (.seq (ak [ae 16 1,ae 17 8,aQ 18 1 16 17,an 19 18,ax 20 .lss 19 0]) <|
  .cond (.tmp 20) (.seq (ak [ae 21 2,ae 22 1,ae 23 8,aQ 24 1 22 23,an 25 24,((some 26),.op (.arith .sub (.val (.val (.int .i64 (-1)))) (.tmp 25))),aQ 27 1 21 26,an 28 27,ae 9 28]) <|
  ak [ae 29 7,ae 30 9,((some 31),.op (.bA 1 1 [(.val (.int .i64 0))] [(0,(.tmp 30))])),((some 32),.op (.app 1 8 (.tmp 29) (.tmp 31))),((some 33),.op (.qw (some 4) (.tmp 3))),aq 34 2 3,((some 35),.op (.qw none (.tmp 34))),ae 36 9,aQ 37 3 35 36,aq 38 1 37,((some 39),.op (.qw none (.tmp 38))),ae 40 2,aL 41 173 [33,39,40],((some 42),.op (.app 1 8 (.tmp 32) (.tmp 41))),ae 7 42]) (.skip))) <|
  ak [ae 14 8,ax 15 .add 14 1,ae 8 15]
def jO:SF:=⟨.seq (ak [cx 3 0,((some 6),.op (.aZ (.val (.emp 1))))]) <|
  .seq (ak [((some 7),.op (.aZ (.val (.emp 1))))]) <|
  .seq (.seq (ak [aH 8 0]) <|
  .block 0 (.loop fN)) <|
  .seq (ak [ae 43 7,ae 6 43]) <|
  .ret,
  [.tmp 6],44⟩
theorem l6:aU Tryz.prog 173 [3]=some jO:=by kernel_rfl
theorem vz {g:ao} {m:Nat} (h:m < g.au.length):(fo g)[m]?=some (bb (av g) m).ba:=by
  have:m < (av g).length:=by rw[eH]; exact h
  simp[fo,bb,List.getD_eq_getElem?_getD,this]
theorem CT (g:ao) (f:Nat) (l:List Int) (i:Nat):(cE g (av g) f (l.take i)).length≤(cE g (av g) f l).length:=by
  have:=fv g (av g) f (l.take i) (l.drop i)
  rw[List.take_append_drop] at this
  rw[this]; simp
theorem Jw (g:ao) (f:Nat) (l:List Int) (i:Nat):(dA g (av g) f (l.take i)).length≤(dA g (av g) f l).length:=by
  have:=iA g (av g) f (l.take i) (l.drop i)
  rw[List.take_append_drop] at this
  rw[this]; simp
set_option maxHeartbeats 4000000 in
theorem HT (g:ao) (hg:g.Ok) (hf:g.gp):∀ (f:Nat) (l:List Int),aN l→(∀ x∈l,bM x∧(x < 0→-1 - x < g.au.length))→wW (av g) f l→(cE g (av g) f l).length≤100000→∀ H:View,
    az Tryz.prog 173 [.agg (al g),encI l,encI (fo g)] H fun r H'=>aV H' r 1 (aW (cE g (av g) f l))∧cY H H' r:=by
  intro f
  induction f using Nat.strongRecOn with
  | _ f ih =>
    intro l hl hn hu hb H0
    refine az.of mixed l6 ?_
    unfold aN at hl
    simp (disch:=omega) only [↓wr,wq,ah,Nat.reduceAdd,Nat.reduceLeDiff,jO,encI,al,encS]
    refine bc.up l.length (fun i T H'=>∃ u,T 7=u∧aV H' u 1 (aW (cE g (av g) f (l.take i)))∧cY H0 H' u∧T 1=encI l∧T 2=encI (fo g)∧T 3=.aS (al g) 0∧T 8=gi i) ⟨.emp 1,rfl,by rw[List.take_zero,oR]; exact .nil,.emp,rfl,rfl,rfl,rfl⟩ ?_
    rintro i k T H hk ⟨u,t7,ho,hfr,t1,t2,t3,t8⟩
    simp (disch:=omega) only [↓wr,↓reduceIte,wq,ag,aj,Nat.reduceEqDiff,Int.reduceNeg,reduceCtorEq,fN,t1,t8,encI]
    refine ar.dec (fun hc=>?_) (fun hc=>?_)
    · have hg1:l[i]?=some (l[i]'(by omega)):=List.getElem?_eq_getElem (by omega)
      have hmem:l[i]'(by omega)∈l:=List.getElem_mem _
      have htk:l.take (i+1)=l.take i ++ [l[i]'(by omega)]:=by rw[List.take_add_one,hg1]; rfl
      have hbt:=CT g f l (i+1)
      generalize l[i]'(by omega)=x at hg1 hmem htk
      obtain ⟨⟨hx1,hx2⟩,hx3⟩:=hn x hmem
      rw[htk,fv] at hbt
      simp (disch:=omega) only [↓wr,↓reduceIte,wq,ag,Nat.reduceEqDiff,Nat.reduceLT,Int.reduceNeg,t1,t8,encI,List.getElem?_map,hg1]
      refine ar.dec (fun hx=>?_) (fun hx=>?_)
      · obtain ⟨f,rfl⟩:∃ f',f=f'+1:=by
          cases f with
          | zero=>have:=tv hu x hmem; omega
          | succ f=>exact ⟨f,rfl⟩
        obtain ⟨hkn,hh⟩:=hu x hmem hx
        obtain ⟨ri,r,hi,hr,hra,hur,_⟩:=oD (f:=f) hkn (by push_cast at hh; exact hh)
        have hgr:=vz (g:=g) (m:=bD x) (by have:=hx3 hx; unfold bD; omega)
        have hmr:=List.mem_of_getElem? hr
        have hrl:ri < g.rules.length:=(List.getElem?_eq_some_iff.1 hr).1
        have hrw:=hg.ba r hmr
        rw[gG hx,hra,hi] at hbt
        rw[hi] at hgr
        simp only[List.length_append,List.length_cons] at hbt
        simp (disch:=omega) only [↓wr,↓reduceIte,wq,ag,af,Nat.reduceEqDiff,Nat.reduceLT,Int.reduceNeg,t1,t2,t7,t8,encI,List.getElem?_map,hg1,hgr]
        intro n hn1
        rw[bQ]
        simp (disch:=omega) only [↓wr,↓reduceIte,wq,Nat.reduceEqDiff,Int.reduceNeg]
        refine jL (ho.fresh hn1) (by simp[aO]) (by unfold aG; simp; omega) (by unfold aG; simp; omega) ?_
        intro u1 H1 ho1 hl1
        have hf1:=(hfr.put hn1).step hl1
        simp (disch:=omega) only [↓wr,↓reduceIte,wq,Nat.reduceEqDiff,Nat.reduceAdd,Nat.reduceLT,Nat.reduceLeDiff,Int.reduceNeg,t2,t3,al,aK,encI,encS,List.getElem?_map,hr]
        have ihc:=ih f (by omega) r.right hrw.2.2.1 (fun y hy=>⟨hrw.2.2.2 y hy,fun hn=>hf.neg hmr hy hn⟩) hur (by omega) H1
        simp only[al,encI,encS] at ihc
        refine aC.gA (ihc.mono ?_)
        rintro v H2 ⟨hv,hfv⟩
        obtain ⟨rd,he⟩:=hv.elems
        simp (disch:=omega) only [↓wr,↓reduceIte,wq,Nat.reduceEqDiff,Int.reduceNeg,he]
        refine jL (ho1.Ep hfv) (by simp[List.all_map,aO]) (by unfold aG; simp; omega) (by unfold aG; simp; omega) ?_
        intro u3 H3 ho3 hl3
        simp (disch:=omega) only [↓wr,↓reduceIte,wq,ag,Nat.reduceEqDiff,Int.reduceNeg,reduceCtorEq,t8]
        refine aJ hk (by omega) ⟨u3,rfl,?_,(hf1.call hfv).step hl3,t1,t2,t3,rfl⟩
        rw[htk,fv,gG hx,hra,hi]
        simpa using ho3
      · simp (disch:=omega) only [↓wr,↓reduceIte,wq,ag,Nat.reduceEqDiff,reduceCtorEq,t7,t8]
        refine aJ hk (by omega) ⟨u,t7,?_,hfr,t1,t2,t3,rfl⟩
        rw[htk,fv,kc (by omega),List.append_nil]; exact ho
    · simp (disch:=omega) only [↓wr,↓reduceIte,wq,Nat.reduceEqDiff,reduceCtorEq,t7]
      rw[List.take_of_length_le (by omega)] at ho
      exact ⟨ho,hfr⟩
set_option maxHeartbeats 4000000 in
theorem Di (g:ao) (hg:g.Ok) (hf:g.gp) (f:Nat) (x:Int) (hx:bM x) (hx0:x < 0) (hx1 : -1 - x < g.au.length) (hu:wW (av g) f [x]) (hb:(cE g (av g) f [x]).length≤100000) (H0:View) (m:Nat) (hm:H0 m=.arr 1 [[gi x]]) :
    az Tryz.prog 173 [.agg (al g),.sl m 0 1 1,encI (fo g)] H0 fun r H'=>aV H' r 1 (aW (cE g (av g) f [x]))∧cY H0 H' r:=by
  unfold bM at hx
  refine az.of mixed l6 ?_
  simp (disch:=omega) only [↓wr,wq,ah,Nat.reduceAdd,Nat.reduceLeDiff,jO,encI,al,encS]
  refine bc.up 1 (fun i T H'=>((i=0∧T 7=.emp 1∧H'=H0)∨(i=1∧∃ u,T 7=u∧aV H' u 1 (aW (cE g (av g) f [x]))∧cY H0 H' u))∧T 1=.sl m 0 1 1∧T 2=encI (fo g)∧T 3=.aS (al g) 0∧T 8=gi i) ⟨.inl ⟨rfl,rfl,rfl⟩,rfl,rfl,rfl,rfl⟩ ?_
  rintro i k T H hk ⟨h7,t1,t2,t3,t8⟩
  rcases h7 with ⟨rfl,t7,rfl⟩ | ⟨rfl,u,t7,ho,hfr⟩
  · simp (disch:=omega) only [↓wr,↓reduceIte,wq,ag,aj,Nat.reduceEqDiff,Int.reduceNeg,reduceCtorEq,fN,t1,t8]
    refine ar.dec (fun _=>?_) (fun hc=>absurd hc (by decide))
    simp (disch:=omega) only [↓wr,↓reduceIte,wq,ag,Nat.reduceEqDiff,Nat.reduceLT,Int.reduceNeg,t1,t8,hm]
    refine ar.dec (fun _=>?_) (fun hc=>absurd hx0 hc)
    obtain ⟨f,rfl⟩:∃ f',f=f'+1:=by
      cases f with
      | zero=>have:=tv hu x (by simp); omega
      | succ f=>exact ⟨f,rfl⟩
    obtain ⟨hkn,hh⟩:=hu x (by simp) hx0
    obtain ⟨ri,r,hi,hr,hra,hur,_⟩:=oD (f:=f) hkn (by push_cast at hh; exact hh)
    have hgr:=vz (g:=g) (m:=bD x) (by unfold bD; omega)
    have hmr:=List.mem_of_getElem? hr
    have hrl:ri < g.rules.length:=(List.getElem?_eq_some_iff.1 hr).1
    have hrw:=hg.ba r hmr
    rw[gG hx0,hra,hi] at hb ⊢
    rw[hi] at hgr
    simp only[List.length_cons] at hb
    simp (disch:=omega) only [↓wr,↓reduceIte,wq,ag,af,Nat.reduceEqDiff,Nat.reduceLT,Int.reduceNeg,t1,t2,t7,t8,hm,encI,List.getElem?_map,hgr]
    intro n hn1
    rw[bQ]
    simp (disch:=omega) only [↓wr,↓reduceIte,wq,Nat.reduceEqDiff,Int.reduceNeg]
    refine jL (aV.nil (sz:=1) (k:=1)) (by simp[aO]) (by unfold aG; simp) (by unfold aG; simp) ?_
    intro u1 H1 ho1 hl1
    have hf1:=((cY.emp (H:=H) (k:=1)).put hn1).step hl1
    simp (disch:=omega) only [↓wr,↓reduceIte,wq,Nat.reduceEqDiff,Nat.reduceAdd,Nat.reduceLT,Nat.reduceLeDiff,Int.reduceNeg,t2,t3,al,aK,encI,encS,List.getElem?_map,hr]
    have ihc:=HT g hg hf f r.right hrw.2.2.1 (fun y hy=>⟨hrw.2.2.2 y hy,fun hn=>hf.neg hmr hy hn⟩) hur (by omega) H1
    simp only[al,encI,encS] at ihc
    refine aC.gA (ihc.mono ?_)
    rintro v H2 ⟨hv,hfv⟩
    obtain ⟨rd,he⟩:=hv.elems
    simp (disch:=omega) only [↓wr,↓reduceIte,wq,Nat.reduceEqDiff,Int.reduceNeg,he]
    refine jL (ho1.Ep hfv) (by simp[List.all_map,aO]) (by unfold aG; simp; omega) (by unfold aG; simp; omega) ?_
    intro u3 H3 ho3 hl3
    simp (disch:=omega) only [↓wr,↓reduceIte,wq,ag,Nat.reduceEqDiff,Int.reduceNeg,reduceCtorEq,t8]
    exact ⟨0,by omega,1,by omega,.inr ⟨rfl,u3,rfl,by simpa using ho3,(hf1.call hfv).step hl3⟩,t1,t2,t3,rfl⟩
  · simp (disch:=omega) only [↓wr,↓reduceIte,wq,ag,aj,Nat.reduceEqDiff,Int.reduceNeg,reduceCtorEq,fN,t1,t8]
    refine ar.dec (fun hc=>absurd hc (by decide)) (fun _=>?_)
    simp (disch:=omega) only [↓wr,↓reduceIte,wq,Nat.reduceEqDiff,reduceCtorEq,t7]
    exact ⟨ho,hfr⟩
def gV (x:List Int × Int):V:=.bt [encI x.1,gi x.2]
theorem cW {h:aE} {u:V} {x:List Int × Int} (hu:cP h u (encI x.1)):cP h (.bt [u,gi x.2]) (gV x):=zQ hu (.val _)
theorem As {g:ao} {l:List Int} (h:fG (av g) l):wW (av g) g.au.length l:=fun x hx hn=>⟨h x hx hn,(gQ (h x hx hn)).2⟩
theorem Eo {g:ao} {n:Int} (h0:0≤n) (hk:bf (av g) n.toNat):((cE g (av g) g.au.length [-1 - n]).length:Int)=(cE g (av g) g.au.length [-1 - n]).length∧fG (av g) [-1 - n]:=by
  refine ⟨rfl,fun x hx hn=>?_⟩
  simp at hx; subst hx
  rw[show bD (-1 - n)=n.toNat by unfold bD; omega]; exact hk
theorem xU {g:ao} {l:List Int} (h:fG (av g) l) (hs:(bE (av g) l bq).1.rules≤300):((cE g (av g) g.au.length l).length:Int)=(bE (av g) l bq).1.rules:=by
  have:=(xZ g g.au.length l bq (As h) jX).1
  simp only[bq] at this hs ⊢
  omega
theorem ye {g:ao} {n:Int} (h0:0≤n) (hk:bf (av g) n.toNat):(bE (av g) [-1 - n] bq).1.rules=(bb (av g) n.toNat).rules∧(bE (av g) [-1 - n] bq).1.ay=(bb (av g) n.toNat).ay:=by
  have hp:dc (bb (av g) n.toNat):=fW g _ _
  have e:bD (-1 - n)=n.toNat:=by unfold bD; omega
  unfold bf at hk
  rw[vw (by omega) (by rw[e]; omega),e]
  unfold dc at hp
  simp only[bE,bq]; omega
def oY:SF:=⟨.seq (ak [cx 2 0,((some 4),.op (.aZ (.val (.emp 1)))),aH 5 0]) <|
  .seq (.seq (.region false [⟨none,[aT 7 4 2,aL 8 48 [7],cd 9 8,ae 10 9]⟩,⟨(some (10,false)),[ae 11 1,ax 12 .lss 11 0]⟩,⟨none,[bH 13 10 12,ae 14 13]⟩,⟨(some (14,false)),[ae 15 1,aq 16 1 2,an 17 16,aP 18 17,aR 19 .geq 15 18]⟩,⟨none,[bH 20 14 19]⟩]) <|
  .cond (.tmp 20) (.seq (ak [((some 4),.op (.aZ (.val (.emp 1)))),aH 5 1]) <|
  .ret) (.skip)) <|
  .seq (ak [aT 21 4 2,aL 22 171 [21],ae 6 22]) <|
  .seq (.seq (ak [ae 23 6,ae 24 1,aQ 25 1 23 24,an 26 25,ax 27 .lss 26 0]) <|
  .cond (.tmp 27) (.seq (ak [((some 4),.op (.aZ (.val (.emp 1)))),aH 5 9]) <|
  .ret) (.skip)) <|
  .seq (.seq (ak [aT 28 4 2,aL 29 172 [28],ae 30 1,aQ 31 2 29 30,aq 32 0 31,an 33 32,ax 34 .gtr 33 300]) <|
  .cond (.tmp 34) (.seq (ak [((some 4),.op (.aZ (.val (.emp 1)))),aH 5 13]) <|
  .ret) (.skip)) <|
  .seq (ak [aT 35 4 2,ae 36 1,((some 37),.op (.arith .sub (.val (.val (.int .i64 (-1)))) (.tmp 36))),((some 38),.op (.bA 1 1 [(.val (.int .i64 0))] [(0,(.tmp 37))])),ae 39 6,aL 40 173 [35,38,39],ae 4 40,aH 5 0]) <|
  .ret,
  [.tmp 4,.tmp 5],41⟩
theorem tJ:aU Tryz.prog 112 [2]=some oY:=by kernel_rfl
set_option maxHeartbeats 4000000 in
theorem IH (g:ao) (hg:g.Ok) (n:Int) (hn:bM n):bP Tryz.prog 112 [.agg (al g),gi n] (gV (fg g n)):=by
  have hsh:=hg.au
  unfold aN at hsh
  unfold bM at hn
  refine bP.of (u7 g n) ?_
  refine az.of mixed tJ ?_
  simp (disch:=omega) only [↓wr,↓reduceIte,wq,ah,Nat.reduceEqDiff,Nat.reduceAdd,Nat.reduceLeDiff,Int.reduceNeg,oY,al,encS]
  refine aC.pure (kh g hg) (by kernel_rfl) ?_
  have bad:∀ h':aE,(bm g && decide (0≤n) && decide (n < g.au.length))=false→cP h' (.bt [.emp 1,gi 1]) (gV (fg g n)):=fun h' e=>by
    unfold fg; rw[if_neg (by rw[e]; simp)]; exact cW (x:=([],1)) (.emp _)
  repeat' (first | (refine ar.dec (fun _=>?_) (fun _=>?_)) | (refine ar.eq (fun _=>?_) (fun _=>?_)) | (refine ar.ne (fun _=>?_) (fun _=>?_)) | (refine ar.split (fun _=>?_) (fun _=>?_)) | (simp (disch:=omega) only [↓wr,↓reduceIte,wq,ag,aj,Nat.reduceEqDiff,Nat.reduceAdd,Nat.reduceLT,Nat.reduceLeDiff,Int.reduceNeg,reduceCtorEq]))
  all_goals first
    | (intro h' _; refine bad h' ?_; simp only[Bool.and_eq_false_iff,decide_eq_false_iff_not]; first | (left; left; assumption) | (left; right; omega) | (right; omega))
    | skip
  have hr:bm g=true:=by assumption
  have h0:0≤n:=by omega
  have h1:n < g.au.length:=by omega
  have hf:=aX hr
  have z1:=hf.ka
  have z2:=hf.au
  have z3:=hf.rules
  have hR:=A6 g hg
  have hA:fg g n=_:=if_pos (by simp[hr,h0,h1])
  rw[if_pos hr] at hR
  refine aC.pure hR.pure (by kernel_rfl) ?_
  have hgr:=vz (g:=g) (m:=n.toNat) (by omega)
  have hok:=(zN (g:=g) z3 z2 n.toNat)
  have hok:vT (bb (av g) n.toNat):=hok
  unfold vT dc at hok
  simp (disch:=omega) only [↓wr,↓reduceIte,wq,ag,Nat.reduceEqDiff,Nat.reduceLT,Int.reduceNeg,encI,List.getElem?_map,hgr]
  refine ar.dec (fun hk=>?_) (fun hk=>?_)
  · simp (disch:=omega) only [↓wr,↓reduceIte,wq,Nat.reduceEqDiff,Int.reduceNeg,reduceCtorEq]
    rw[if_pos hk] at hA
    intro h' _
    rw[hA]; exact cW (x:=([],9)) (.emp _)
  · rw[if_neg hk] at hA
    have hkn:bf (av g) n.toNat:=by unfold bf; omega
    simp (disch:=omega) only [↓wr,↓reduceIte,wq,Nat.reduceEqDiff,Nat.reduceAdd,Nat.reduceLeDiff,Int.reduceNeg]
    refine aC.pure (LR g hg hr).pure (by kernel_rfl) ?_
    have hgs:=F8 (S:=k9 g) (m:=n.toNat) (by simp[k9,eH]; omega)
    rw[EZ] at hgs
    simp (disch:=omega) only [↓wr,↓reduceIte,wq,ag,Nat.reduceEqDiff,Nat.reduceAdd,Nat.reduceLT,Int.reduceNeg,hgs,dQ,jP]
    refine ar.dec (fun hs=>?_) (fun hs=>?_)
    · simp (disch:=omega) only [↓wr,↓reduceIte,wq,Nat.reduceEqDiff,Int.reduceNeg,reduceCtorEq]
      rw[if_pos (by omega)] at hA
      intro h' _
      rw[hA]; exact cW (x:=([],13)) (.emp _)
    · rw[if_neg (by omega)] at hA
      simp (disch:=omega) only [↓wr,↓reduceIte,wq,ag,af,Nat.reduceEqDiff,Nat.reduceAdd,Nat.reduceLT,Nat.reduceLeDiff,Int.reduceNeg]
      intro m
      try simp (disch:=omega) only [↓wr,↓reduceIte,wq,ah,ag,aj,aa,ab,af,ai,isNil,Nat.reduceEqDiff,Nat.reduceAdd,Nat.reduceLT,Nat.reduceLeDiff,Int.reduceNeg,Int.reduceToNat,reduceCtorEq,encI,al,encS]
      have hall:=(Eo h0 hkn).2
      have hso:=ye h0 hkn
      have htl:=xU hall (by rw[hso.1]; omega)
      have hone:=Di g hg hf g.au.length (-1 - n) (by unfold bM; omega) (by omega) (by omega) (As hall) (by omega) (View.set (fun _=>.dead) m (.arr 1 [[gi (-1 - n)]])) m (by simp[View.set])
      simp only[al,encI,encS] at hone
      refine aC.gA (hone.mono ?_)
      rintro v H1 ⟨hv,_⟩
      simp (disch:=omega) only [↓wr,↓reduceIte,wq,Nat.reduceEqDiff,Int.reduceNeg,reduceCtorEq]
      intro h' hh
      rw[hA]; exact cW (x:=(_,0)) (eU (by rw[hh]; exact hv))
def xR (P:List bh) (l:List Int):Bool:=l.any fun x=>decide (x < 0) && decide ((bb P (bD x)).ba < 0)
theorem Hp (P:List bh) (l:List Int) (s:bh):(bE P l s).2 = !xR P l:=by
  have h:=jc P l s
  cases hb:xR P l with
  | true =>
    simp only[xR,List.any_eq_true,Bool.and_eq_true,decide_eq_true_eq] at hb
    obtain ⟨x,hx,hn,hk⟩:=hb
    cases hs:(bE P l s).2 with
    | true=>have:=h.1 hs x hx hn; unfold bf at this; omega
    | false=>rfl
  | false =>
    rw[Bool.not_false,h]
    intro x hx hn
    simp only[xR,List.any_eq_false,Bool.and_eq_true,decide_eq_true_eq] at hb
    have:=hb x hx
    unfold bf; omega
theorem In.app {p:List Int} {T:Nat→Nat→Nat→Prop} {a:List Int} {i k:Nat} (h:In p T a i k):∀ {b:List Int} {j:Nat},In p T b k j→In p T (a ++ b) i j:=by
  induction h with
  | nil=>exact fun h=>h
  | term s l i _ h0 hf _ ih=>exact fun hb=>.term s _ i _ h0 hf (ih hb)
  | bW s l i k _ h0 h1 _ ih=>exact fun hb=>.bW s _ i k _ h0 h1 (ih hb)
theorem In.split {p:List Int} {T:Nat→Nat→Nat→Prop} : ∀ {a b:List Int} {i j:Nat},In p T (a ++ b) i j→∃ k,In p T a i k∧In p T b k j
  | [],b,i,j,h=>⟨i,.nil i,h⟩
  | s :: a,b,i,j,h=>by
    cases h with
    | term _ _ _ _ h0 hf h =>
      obtain ⟨k,h1,h2⟩:=In.split h
      exact ⟨k,.term s a i k h0 hf h1,h2⟩
    | bW _ _ _ m _ h0 h1 h =>
      obtain ⟨k,h2,h3⟩:=In.split h
      exact ⟨k,.bW s a i m k h0 h1 h2,h3⟩
theorem In.le {p:List Int} {T:Nat→Nat→Nat→Prop} (hT:∀ n i j,T n i j→i≤j) {l:List Int} {i j:Nat} (h:In p T l i j):i≤j:=by
  induction h with
  | nil=>exact Nat.le_refl _
  | term _ _ _ _ _ _ _ ih=>omega
  | bW _ _ _ _ _ _ h1 _ ih=>have:=hT _ _ _ h1; omega
def stepT (p:List Int) (T:Nat→Nat→Nat→Prop) (s:Int) (i j:Nat):Prop:=if 0≤s then oP p i s∧j=i+1 else T (-1 - s).toNat i j
theorem In.one {p:List Int} {T:Nat→Nat→Nat→Prop} {s:Int} {i j:Nat} : In p T [s] i j↔stepT p T s i j:=by
  unfold stepT
  constructor
  · intro h
    cases h with
    | term _ _ _ _ h0 hf h=>cases h; rw[if_pos h0]; exact ⟨hf,rfl⟩
    | bW _ _ _ _ _ h0 h1 h=>cases h; rw[if_neg (by omega)]; exact h1
  · intro h
    by_cases h0:0≤s
    · rw[if_pos h0] at h
      obtain ⟨hf,rfl⟩:=h
      exact .term s [] i _ h0 hf (.nil _)
    · rw[if_neg h0] at h
      exact .bW s [] i j j (by omega) h (.nil _)
abbrev Tb:=List (List (List Bool))
def zf (T:Tb) (N M:Nat):Prop:=T.length=N∧∀ r∈T,r.length=M∧∀ c∈r,c.length=M
theorem zf.row {T:Tb} {N M n:Nat} (h:zf T N M) (hn:n < N):∃ r,T[n]?=some r∧r.length=M∧T.getD n []=r:=by
  have:n < T.length:=by rw[h.1]; exact hn
  exact ⟨T[n],List.getElem?_eq_getElem this,(h.2 _ (List.getElem_mem _)).1,by simp[List.getD_eq_getElem?_getD,this]⟩
theorem zf.cell {T:Tb} {N M n i:Nat} (h:zf T N M) (hn:n < N) (hi:i < M):∃ r c,T[n]?=some r∧r[i]?=some c∧c.length=M∧(T.getD n []).getD i []=c:=by
  obtain ⟨r,hr,hl,hg⟩:=h.row hn
  have h1:i < r.length:=by omega
  refine ⟨r,r[i],hr,List.getElem?_eq_getElem h1,(h.2 r (List.mem_of_getElem? hr)).2 _ (List.getElem_mem _),?_⟩
  rw[hg]; simp[List.getD_eq_getElem?_getD,h1]
def Hv (T:Tb) (n i j:Nat):Tb:=T.set n ((T.getD n []).set i (((T.getD n []).getD i []).set j true))
def OV (N M:Nat):Tb:=List.replicate N (List.replicate M (List.replicate M false))
def Mh (T:Tb):V:=.aY (T.map fun r=>[.aY (r.map fun c=>[bF c])])
structure q5 (H:View) (I N M:Nat) (R:Nat→Nat) (C:Nat→Nat→Nat) (T:Tb):Prop where
  top:H I=.arr 1 ((List.range N).map fun n=>[.sl (R n) 0 M 1])
  row:∀ n,n < N→H (R n)=.arr 1 ((List.range M).map fun i=>[.sl (C n i) 0 M 1])
  cell:∀ n i,n < N→i < M→H (C n i)=.arr 1 (cD ((T.getD n []).getD i []))
  inj:∀ n i n' i',n < N→i < M→n' < N→i' < M→C n i=C n' i'→n=n'∧i=i'
theorem zl {c:List Bool} {k:Nat} {F:Nat→List V} (hc:0 < c.length) (h:cD c=(List.range k).map F) (hF:∀ n x,F n≠[gb x]):False:=by
  cases c with
  | nil=>simp at hc
  | cons x c =>
    cases k with
    | zero=>simp at h
    | succ k =>
      rw[List.range_succ_eq_map] at h
      simp only[List.map_cons,List.cons.injEq] at h
      exact hF 0 x h.1.symm
theorem q5.keep {H H':View} {I N M:Nat} {R:Nat→Nat} {C:Nat→Nat→Nat} {T:Tb} (h:q5 H I N M R C T) (hk:∀ id,H id≠.dead→H' id=H id):q5 H' I N M R C T :=
  ⟨by rw[hk _ (by rw[h.top]; simp)]; exact h.top,fun n hn=>by rw[hk _ (by rw[h.row n hn]; simp)]; exact h.row n hn,fun n i hn hi=>by rw[hk _ (by rw[h.cell n i hn hi]; simp)]; exact h.cell n i hn hi,h.inj⟩
theorem q5.put {H:View} {I N M:Nat} {R:Nat→Nat} {C:Nat→Nat→Nat} {T:Tb} (h:q5 H I N M R C T) (hT:zf T N M) {n i j:Nat} (hn:n < N) (hi:i < M) (hj:j < M) :
    q5 (H.set (C n i) (.arr 1 (cD (((T.getD n []).getD i []).set j true)))) I N M R C (Hv T n i j):=by
  obtain ⟨r,c,hr,hc,hcl,hg⟩:=hT.cell hn hi
  have hcell:=h.cell n i hn hi
  rw[hg] at hcell
  have e1:I≠C n i:=fun e=>by
    have:=h.top
    rw[e,hcell] at this
    simp only[bR.arr.injEq,true_and] at this
    exact zl (by omega) this fun _ _=>by simp
  have e2:∀ m,m < N→R m≠C n i:=fun m hm e=>by
    have:=h.row m hm
    rw[e,hcell] at this
    simp only[bR.arr.injEq,true_and] at this
    exact zl (by omega) this fun _ _=>by simp
  refine ⟨by simp only[View.set,if_neg e1]; exact h.top,fun m hm=>by simp only[View.set,if_neg (e2 m hm)]; exact h.row m hm,fun m q hm hq=>?_,h.inj⟩
  obtain ⟨r',hr',hrl,hg'⟩:=hT.row hn
  rw[hr] at hr'; simp at hr'; subst hr'
  have hnl:n < T.length:=by rw[hT.1]; exact hn
  by_cases e:C m q=C n i
  · obtain ⟨rfl,rfl⟩:=h.inj m q n i hm hq hn hi e
    simp only[View.set,if_true]
    congr 2
    rw[Hv]
    simp[List.getD_eq_getElem?_getD,hnl]
    rw[List.getElem?_set]
    have:q < T[m].length:=by
      have:=(List.getElem?_eq_some_iff.1 hr).2
      rw[this,hrl]; exact hq
    simp[this]
  · simp only[View.set,if_neg e]
    rw[h.cell m q hm hq]
    congr 2
    rw[Hv]
    by_cases em:n=m
    · subst em
      have eq:i≠q:=fun e'=>e (by rw[e'])
      simp[List.getD_eq_getElem?_getD,hnl,eq]
    · simp[List.getD_eq_getElem?_getD,em]
theorem q5.P8 {h:aE} {I N M:Nat} {R:Nat→Nat} {C:Nat→Nat→Nat} {T:Tb} (hG:q5 h.view I N M R C T) (hT:zf T N M):cP h (.sl I 0 N 1) (Mh T):=by
  refine .sl I 0 N 1 1 _ _ hG.top (by simp) (by simp[hT.1]) (fun n hn=>?_) (fun n j hn hj=>?_)
  · obtain ⟨r,hr,_⟩:=hT.row hn
    simp[List.getD_eq_getElem?_getD,hr,hn]
  · obtain ⟨r,hr,hrl,hrg⟩:=hT.row hn
    have e1:((T.map fun r=>[V.aY (r.map fun c=>[bF c])]).getD n [])=[V.aY (r.map fun c=>[bF c])]:=by simp[List.getD_eq_getElem?_getD,hr]
    have e2:(((List.range N).map fun n=>[V.sl (R n) 0 M 1]).getD (0+n) [])=[V.sl (R n) 0 M 1]:=by simp[List.getD_eq_getElem?_getD,hn]
    rw[e1] at hj ⊢
    rw[e2]
    have:j=0:=by simp at hj; omega
    subst this
    simp only[List.getD_cons_zero]
    refine .sl (R n) 0 M 1 1 _ _ (hG.row n hn) (by simp) (by simp[hrl]) (fun i hi=>?_) (fun i q hi hq=>?_)
    · simp[List.getD_eq_getElem?_getD,hi,show i < r.length by omega]
    · have hic:i < r.length:=by omega
      have f1:((r.map fun c=>[bF c]).getD i [])=[bF r[i]]:=by simp[List.getD_eq_getElem?_getD,hic]
      have f2:(((List.range M).map fun i=>[V.sl (C n i) 0 M 1]).getD (0+i) [])=[V.sl (C n i) 0 M 1]:=by simp[List.getD_eq_getElem?_getD,hi]
      rw[f1] at hq ⊢
      rw[f2]
      have:q=0:=by simp at hq; omega
      subst this
      simp only[List.getD_cons_zero]
      have hcell:=hG.cell n i hn hi
      have e3:(T.getD n []).getD i []=r[i]:=by rw[hrg]; simp[List.getD_eq_getElem?_getD,hic]
      rw[e3] at hcell
      have hcl:=(hT.2 r (List.mem_of_getElem? hr)).2 _ (List.getElem_mem hic)
      have:=lP (h:=h) (id:=C n i) (is:=r[i]) hcell
      rwa [hcl] at this
theorem cP.jH {h:aE} {v t:V} (f:cP h v t):Fr h v t:=by
  induction f with
  | val v=>exact .tree _ (.val v)
  | emp k=>exact .emp k
  | sl id off len esz z es es' hH hle hlen hl _ ih=>exact .sl id off len esz z es es' hH hle hlen hl ih
  | agg cs cs' hl _ ih=>exact .agg cs cs' hl ih
  | bt cs cs' hl _ ih=>exact .bt cs cs' hl ih
theorem q5.BY {H:View} {I N M:Nat} {R:Nat→Nat} {C:Nat→Nat→Nat} {T:Tb} (hG:q5 H I N M R C T) (hT:zf T N M):dh H (.sl I 0 N 1) (Mh T):=by
  rintro h rfl
  exact (hG.P8 hT).jH
structure OL (H:View) (I N M k:Nat) (R:Nat→Nat) (C:Nat→Nat→Nat):Prop where
  top:H I=.arr 1 ((List.range N).map fun n=>[if n < k then .sl (R n) 0 M 1 else .emp 1])
  row:∀ n,n < k→H (R n)=.arr 1 ((List.range M).map fun i=>[.sl (C n i) 0 M 1])
  cell:∀ n i,n < k→i < M→H (C n i)=.arr 1 (List.replicate M [gb false])
  inj:∀ n i n' i',n < k→i < M→n' < k→i' < M→C n i=C n' i'→n=n'∧i=i'
  ne:∀ n,n < k→I≠R n
structure Et (H:View) (I N M k:Nat) (R:Nat→Nat) (C:Nat→Nat→Nat) (r i:Nat) (D:Nat→Nat):Prop where
  top:H I=.arr 1 ((List.range N).map fun n=>[if n < k then .sl (R n) 0 M 1 else if n=k then .sl r 0 M 1 else .emp 1])
  row:∀ n,n < k→H (R n)=.arr 1 ((List.range M).map fun i=>[.sl (C n i) 0 M 1])
  cell:∀ n i,n < k→i < M→H (C n i)=.arr 1 (List.replicate M [gb false])
  inj:∀ n i n' i',n < k→i < M→n' < k→i' < M→C n i=C n' i'→n=n'∧i=i'
  ne:∀ n,n < k→I≠R n
  Px:H r=.arr 1 ((List.range M).map fun j=>[if j < i then .sl (D j) 0 M 1 else .emp 1])
  DA:∀ j,j < i→H (D j)=.arr 1 (List.replicate M [gb false])
  OJ:∀ j j',j < i→j' < i→D j=D j'→j=j'
  C1:I≠r∧(∀ n,n < k→R n≠r)∧∀ n q j,n < k→q < M→j < i→C n q≠D j
theorem F1 {M i:Nat} {F:Nat→List V} {v:List V} : ((List.range M).map F).set i v=(List.range M).map fun j=>if j=i then v else F j:=by
  apply List.ext_getElem (by simp)
  intro j h1 h2
  simp only[List.getElem_set,List.getElem_map,List.getElem_range]
  by_cases e:i=j
  · subst e; simp
  · rw[if_neg e,if_neg (Ne.symm e)]
theorem OL.done {H:View} {I N M:Nat} {R:Nat→Nat} {C:Nat→Nat→Nat} (h:OL H I N M N R C):q5 H I N M R C (OV N M):=by
  refine ⟨?_,h.row,fun n i hn hi=>?_,h.inj⟩
  · rw[h.top]
    congr 1
    apply List.map_congr_left
    intro n hn
    rw[if_pos (by simpa using hn)]
  · rw[h.cell n i hn hi]
    simp[OV,List.getD_eq_getElem?_getD,hn,hi]
theorem Et.O5 {H:View} {I N M k:Nat} {R:Nat→Nat} {C:Nat→Nat→Nat} {r:Nat} {D:Nat→Nat} (h:Et H I N M k R C r M D):OL H I N M (k+1) (fun n=>if n=k then r else R n) (fun n=>if n=k then D else C n):=by
  refine ⟨?_,fun n hn=>?_,fun n i hn hi=>?_,fun n i n' i' hn hi hn' hi' e=>?_,fun n hn=>?_⟩
  · rw[h.top]
    congr 1
    apply List.map_congr_left
    intro n _
    by_cases e1:n < k
    · rw[if_pos e1,if_pos (by omega),if_neg (by omega)]
    · by_cases e2:n=k
      · rw[if_neg e1,if_pos e2,if_pos (by omega),if_pos e2]
      · rw[if_neg e1,if_neg e2,if_neg (by omega)]
  · by_cases e:n=k
    · simp only[if_pos e]
      rw[h.Px]
      congr 1
      apply List.map_congr_left
      intro i hi
      rw[if_pos (by simpa using hi)]
    · simp only[if_neg e]; exact h.row n (by omega)
  · by_cases e:n=k
    · simp only[if_pos e]; exact h.DA i hi
    · simp only[if_neg e]; exact h.cell n i (by omega) hi
  · by_cases e1:n=k
    · by_cases e2:n'=k
      · simp only[if_pos e1,if_pos e2] at e
        exact ⟨by omega,h.OJ i i' hi hi' e⟩
      · simp only[if_pos e1,if_neg e2] at e
        exact absurd e.symm (h.C1.2.2 n' i' i (by omega) hi' hi)
    · by_cases e2:n'=k
      · simp only[if_neg e1,if_pos e2] at e
        exact absurd e (h.C1.2.2 n i i' (by omega) hi hi')
      · simp only[if_neg e1,if_neg e2] at e
        exact h.inj n i n' i' (by omega) hi (by omega) hi' e
  · by_cases e:n=k
    · simp only[if_pos e]; exact h.C1.1
    · simp only[if_neg e]; exact h.ne n (by omega)
theorem Et.next {H H':View} {I N M k:Nat} {R:Nat→Nat} {C:Nat→Nat→Nat} {r i d:Nat} {D:Nat→Nat} (h:Et H I N M k R C r i D) (hN:0 < N) (hM:0 < M) (hd:H d=.dead)
    (hr':H' r=.arr 1 (((List.range M).map fun j=>[if j < i then V.sl (D j) 0 M 1 else .emp 1]).set i [.sl d 0 M 1])) (hd':H' d=.arr 1 (List.replicate M [gb false])) (ho:∀ id,H id≠.dead→id≠r→H' id=H id) :
    Et H' I N M k R C r (i+1) (fun j=>if j=i then d else D j):=by
  have live:∀ id,H id≠.dead→id≠d:=fun id hid e=>by subst e; exact hid hd
  have boolr:∀ id,H id=.arr 1 (List.replicate M [gb false])→id≠r:=fun id hid e=>by
    rw[e,h.Px] at hid
    simp only[bR.arr.injEq,true_and] at hid
    have:=congrArg (·[0]?) hid
    simp[hM] at this
    split at this <;> simp at this
  refine ⟨?_,fun n hn=>?_,fun n q hn hq=>?_,h.inj,h.ne,?_,fun j hj=>?_,fun j j' hj hj' e=>?_,⟨h.C1.1,h.C1.2.1,fun n q j hn hq hj=>?_⟩⟩
  · rw[ho I (by rw[h.top]; simp) h.C1.1]; exact h.top
  · rw[ho _ (by rw[h.row n hn]; simp) (h.C1.2.1 n hn)]; exact h.row n hn
  · have:=h.cell n q hn hq
    rw[ho _ (by rw[this]; simp) (boolr _ this)]; exact this
  · rw[hr',F1]
    congr 1
    apply List.map_congr_left
    intro j _
    by_cases e:j=i
    · rw[if_pos e,if_pos (by omega),if_pos e]
    · rw[if_neg e]
      by_cases e2:j < i
      · rw[if_pos e2,if_pos (by omega),if_neg e]
      · rw[if_neg e2,if_neg (by omega)]
  · by_cases e:j=i
    · simp only[if_pos e]; exact hd'
    · simp only[if_neg e]
      have:=h.DA j (by omega)
      rw[ho _ (by rw[this]; simp) (boolr _ this)]; exact this
  · by_cases e1:j=i
    · by_cases e2:j'=i
      · omega
      · simp only[if_pos e1,if_neg e2] at e
        exact absurd e.symm (live _ (by rw[h.DA j' (by omega)]; simp))
    · by_cases e2:j'=i
      · simp only[if_neg e1,if_pos e2] at e
        exact absurd e (live _ (by rw[h.DA j (by omega)]; simp))
      · simp only[if_neg e1,if_neg e2] at e
        exact h.OJ j j' (by omega) (by omega) e
  · by_cases e:j=i
    · simp only[if_pos e]; exact live _ (by rw[h.cell n q hn hq]; simp)
    · simp only[if_neg e]; exact h.C1.2.2 n q j hn hq (by omega)
theorem zp (g:ao) (w:List Int):∀ v∈[V.agg (al g),encI w],Tree v:=by
  intro v hv; simp at hv
  rcases hv with rfl | rfl
  · exact cg _ (cO g)
  · exact bX w
def ND (g:ao) (o:Option Wk) (r:V) (H:View):Prop:=match o with
  | some x=>1≤x.high∧∃ b,r=.bt [.ptr b 0 0,gi x.high]∧D1 g b x.rest x.word x.post H
  | none=>∃ p,r=.bt [p,gi 0]
set_option maxHeartbeats 4000000 in
theorem Iq (g:ao) (hg:g.Ok) (hs:g.Small) (t:List Int) (ht:aN t) (H:View):az Tryz.prog 170 [.agg (al g),encI t] H fun r H'=>ND g (eO g t) r H':=by
  have hc:=lR g hg hs.names
  unfold aN at ht
  refine az.of mixed BR ?_
  simp only[al,encS] at hc
  simp (disch:=omega) only [↓wr,↓reduceIte,wq,ah,Nat.reduceEqDiff,Nat.reduceAdd,Nat.reduceLeDiff,y4,al,encS]
  refine aC.pure hc (by kernel_rfl) ?_
  simp (disch:=omega) only [↓wr,↓reduceIte,wq]
  refine ar.split (fun hr=>?_) (fun hr=>?_)
  · simp (disch:=omega) only [↓wr,↓reduceIte,wq,ag,aj,Nat.reduceEqDiff,encI]
    refine ar.dec (fun hl=>?_) (fun hl=>?_)
    · simp (disch:=omega) only [↓wr,↓reduceIte,wq,Nat.reduceEqDiff,reduceCtorEq]
      rw[eO,if_neg (by rintro ⟨_,h⟩; omega)]
      exact ⟨_,rfl⟩
    · simp (disch:=omega) only [↓wr,↓reduceIte,wq,aa,ab,Nat.reduceEqDiff,Nat.reduceAdd,Nat.reduceLT,Nat.reduceLeDiff]
      intro b hb
      have hf:=aX hr
      have h0:=hf.eA
      have h1:=hf.start
      have hw0:D1 g b t [] [] (H.set b (.arr 7 [fO g t (.emp 1) (.emp 1)])):=by
        refine ⟨.emp 1,.emp 1,?_⟩
        have o:=(bC.nil (H:=H)).new hb 7 [fO g t (.emp 1) (.emp 1)]
        exact (o.perm (.refl _)).perm (.refl _) |> fun o=>⟨fun x hx=>by
          rcases List.mem_cons.1 hx with rfl | hx
          · exact o.head
          · rcases List.mem_cons.1 hx with rfl | hx
            · exact .nil
            · simp at hx; subst hx; exact .nil,by simp[owner]⟩
      have hcall:=No g hg hf b t.length g.start t [] [] _ (by omega) h0 h1 (Nat.le_refl _) (by simp; omega) (by simp; omega) hw0
      simp only[fO,encI] at hcall
      try simp (disch:=omega) only [↓wr,↓reduceIte,wq,ah,ag,aj,aa,ab,af,ai,isNil,Nat.reduceEqDiff,Nat.reduceAdd,Nat.reduceLT,Nat.reduceLeDiff,Int.reduceNeg,Int.reduceToNat,reduceCtorEq,encI]
      refine aC.gA (hcall.mono ?_)
      intro r H1 hr1
      have hwh:eO g t=match bI g t.length [-1 - g.start] t with
          | some x=>if x.rest=[] then some x else none
          | none=>none:=by rw[eO,if_pos ⟨hr,by omega⟩]; rfl
      rw[hwh]
      cases hx:bI g t.length [-1 - g.start] t with
      | none =>
        rw[hx] at hr1
        obtain ⟨rfl,rest',W',Po',_,uw,up,ho⟩:=hr1
        have hb1:=ho.is 0 rfl (by simp)
        simp (disch:=omega) only [↓wr,↓reduceIte,wq,ag,aj,Nat.reduceEqDiff,Nat.reduceAdd,Nat.reduceLT,hb1,fO,encI]
        refine ar.dec (fun _=>?_) (fun _=>?_)
        · simp (disch:=omega) only [↓wr,↓reduceIte,wq,Nat.reduceEqDiff,reduceCtorEq]
          exact ⟨_,rfl⟩
        · simp (disch:=omega) only [↓wr,↓reduceIte,wq,Nat.reduceEqDiff,reduceCtorEq]
          exact ⟨_,rfl⟩
      | some x =>
        rw[hx] at hr1
        obtain ⟨rfl,hw1⟩:=hr1
        have hh:=vt (by omega) hx
        have hw2:=hw1
        obtain ⟨uw,up,ho⟩:=hw1
        have hb1:=ho.is 0 rfl (by simp)
        simp (disch:=omega) only [↓wr,↓reduceIte,wq,ag,aj,Nat.reduceEqDiff,Nat.reduceAdd,Nat.reduceLT,hb1,fO,encI]
        refine ar.dec (fun hc=>?_) (fun hc=>?_)
        · simp (disch:=omega) only [↓wr,↓reduceIte,wq,Nat.reduceEqDiff,reduceCtorEq]
          try simp only
          rw[if_neg (by intro e; rw[e] at hc; simp at hc)]
          exact ⟨_,rfl⟩
        · simp (disch:=omega) only [↓wr,↓reduceIte,wq,Nat.reduceEqDiff,reduceCtorEq]
          try simp only
          rw[if_pos (List.length_eq_zero_iff.1 (by omega))]
          exact ⟨hh,b,rfl,by simpa using hw2⟩
  · simp (disch:=omega) only [↓wr,↓reduceIte,wq,Nat.reduceEqDiff,reduceCtorEq]
    rw[eO,if_neg (by rintro ⟨h,_⟩; rw[h] at hr; simp at hr)]
    exact ⟨_,rfl⟩
set_option maxHeartbeats 4000000 in
theorem LG (g:ao) (hg:g.Ok) (hs:g.Small) (t:List Int) (ht:aN t):bP Tryz.prog 111 [.agg (al g),encI t] (gV (iI g t)):=by
  refine bP.of (zp g t) ?_
  refine az.of mixed BO ?_
  have hr:=Iq g hg hs t ht (fun _=>.dead)
  simp only[al,encS] at hr
  simp (disch:=omega) only [↓wr,↓reduceIte,wq,ah,Nat.reduceEqDiff,Nat.reduceAdd,Nat.reduceLeDiff,yM,al,encS]
  refine aC.gA (hr.mono ?_)
  intro r H1 hr
  unfold iI
  cases hw:eO g t with
  | none =>
    rw[hw] at hr
    obtain ⟨p,rfl⟩:=hr
    simp (disch:=omega) only [↓wr,↓reduceIte,wq,ag,Nat.reduceEqDiff,Nat.reduceAdd,Nat.reduceLT]
    refine ar.eq (fun _=>?_) (fun e=>absurd rfl e)
    simp (disch:=omega) only [↓wr,↓reduceIte,wq,Nat.reduceEqDiff,reduceCtorEq]
    intro h' _
    exact cW (x:=([],1)) (.emp _)
  | some x =>
    rw[hw] at hr
    obtain ⟨h1,b,rfl,uw,up,ho⟩:=hr
    have hb:=ho.is 0 rfl (by simp)
    simp (disch:=omega) only [↓wr,↓reduceIte,wq,ag,Nat.reduceEqDiff,Nat.reduceAdd,Nat.reduceLT]
    refine ar.eq (fun e=>absurd e (by omega)) (fun _=>?_)
    simp (disch:=omega) only [↓wr,↓reduceIte,wq,Nat.reduceEqDiff,Nat.reduceAdd,Nat.reduceLT,reduceCtorEq,hb,fO]
    rintro h' rfl
    exact cW (x:=(x.word,0)) (eU (ho.own 1 rfl))
end Gv
