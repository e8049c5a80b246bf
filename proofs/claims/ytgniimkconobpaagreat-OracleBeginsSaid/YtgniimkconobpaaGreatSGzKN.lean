/-
  Part 14 of the proof: what the machine does and what the functions answer.
  Conditions: those that each lemma names.
-/
import Derived.Test.YtgniimkconobpaaGreatSGzKM
set_option linter.unusedSimpArgs false
set_option linter.unusedVariables false
set_option linter.unusedSimpArgs false
set_option maxRecDepth 100000
namespace Gv
open Go Go.Proofs
structure p8 (H:View) (c sid:Nat) (u:V) (mi:Nat→Nat) (g:av) (p:List Int) (nu:V) (n k:Nat):Prop where
  box:H c=.arr 8 [[.bc (g.aC.map ch),encS g.au,.bc (g.rules.map aJ),gi g.start,encI p,nu,.sl sid 0 n 1,u]]
  eX:H sid=.arr 1 ((List.range n).map fun _=>[.emp 1])
  seen:bp H u 1 ((List.range k).map fun j=>[.mp (mi j)])
  map:∀ j,j < k→H (mi j)=.map [] 0
  inj:∀ i j,i < k→j < k→mi i=mi j→i=j
theorem p8.I6 {H:View} {c sid:Nat} {u:V} {mi:Nat→Nat} {g:av} {p:List Int} {nu:V} {n k:Nat} (h:p8 H c sid u mi g p nu n k) (hn:0 < n):owner u≠some sid:=fun e=>by
  have h1:=(h.seen.live e).1
  rw[h.eX] at h1
  simp only[bE.arr.injEq,true_and] at h1
  have h2:=congrArg (·[0]?) h1
  simp[hn] at h2
  by_cases hk:0 < k
  · simp[hk] at h2
  · have:k=0:=by omega
    subst this
    simp at h2
theorem p8.Jr {H:View} {c sid:Nat} {u:V} {mi:Nat→Nat} {g:av} {p:List Int} {nu:V} {n k:Nat} (h:p8 H c sid u mi g p nu n k):owner u≠some c:=fun e=>by
  have h1:=(h.seen.live e).1
  rw[h.box] at h1
  simp at h1
theorem p8.JJ {H:View} {c sid:Nat} {u:V} {mi:Nat→Nat} {g:av} {p:List Int} {nu:V} {n:Nat} (h:p8 H c sid u mi g p nu n n) (hn:0 < n):Ch H c g p nu (fun _=>[]) 0 n []:=by
  obtain ⟨mid,hu,hm⟩:=h.seen.sl (by simp; omega)
  have hoff:=h.I6 hn
  refine ⟨sid,mid,fun _=>.emp 1,mi,fun _=>[],fun _=>0,?_,h.eX,hm,fun j hj=>bp.nil,fun j hj=>⟨h.map j hj,?_,fun x=>⟨fun hx=>by simp at hx,fun _=>rfl⟩⟩,?_,fun i j o _ _ h1=>by simp[owner] at h1,fun i j hi hj e=>h.inj i j hi hj e,fun q hq=>by simp at hq⟩
  · have:=h.box
    rw[hu] at this
    simpa using this
  · exact ⟨by simp,fun x hx=>by simp at hx⟩
  · rintro rfl
    rw[hu] at hoff
    exact hoff rfl
theorem p8.next {H H2:View} {c sid m:Nat} {u u':V} {mi:Nat→Nat} {g:av} {p:List Int} {nu:V} {n k:Nat} (h:p8 H c sid u mi g p nu n k) (hn:0 < n) (hm:H m=.dead) (ho:bp H2 u' 1 (((List.range k).map fun j=>[.mp (mi j)]) ++ [[.mp m]])) (hm2:H2 m=.map [] 0)
    (hl:∀ id,H id≠.dead→owner u≠some id→H2 id=H id∧owner u'≠some id) :
    p8 (H2.set c (.arr 8 [[.bc (g.aC.map ch),encS g.au,.bc (g.rules.map aJ),gi g.start,encI p,nu,.sl sid 0 n 1,u']])) c sid u' (fun j=>if j=k then m else mi j) g p nu n (k+1):=by
  have hC:=hl c (by rw[h.box]; simp) h.Jr
  have hS:=hl sid (by rw[h.eX]; simp) (h.I6 hn)
  have hcs:sid≠c:=by rintro rfl; have:=h.box; rw[h.eX] at this; simp at this
  have hmn:∀ j,j < k→mi j≠m:=fun j hj e=>by have:=h.map j hj; rw[e,hm] at this; simp at this
  refine ⟨by simp[View.set],?_,?_,fun j hj=>?_,fun i j hi hj e=>?_⟩
  · simp only[View.set,if_neg hcs]
    rw[hS.1]; exact h.eX
  · refine bp.other ?_ hC.2
    have:(List.range (k+1)).map (fun j=>[V.mp (if j=k then m else mi j)])=(List.range k).map (fun j=>[V.mp (mi j)]) ++ [[.mp m]]:=by
      rw[List.range_succ,List.map_append,List.map_cons,List.map_nil,if_pos rfl]
      congr 1
      apply List.map_congr_left
      intro j hj
      rw[if_neg (by have:=List.mem_range.1 hj; omega)]
    rw[this]; exact ho
  · by_cases e:j=k
    · simp only[if_pos e]
      have:m≠c:=by rintro rfl; rw[h.box] at hm; simp at hm
      simp only[View.set,if_neg this]
      exact hm2
    · simp only[if_neg e]
      have h1:=h.map j (by omega)
      have:mi j≠c:=by intro e2; rw[e2,h.box] at h1; simp at h1
      simp only[View.set,if_neg this]
      rw[(hl (mi j) (by rw[h1]; simp) (fun e2=>by have:=(h.seen.live e2).1; rw[h1] at this; simp at this)).1]
      exact h1
  · by_cases e1:i=k
    · by_cases e2:j=k
      · omega
      · simp only[if_pos e1,if_neg e2] at e
        exact absurd e.symm (hmn j (by omega))
    · by_cases e2:j=k
      · simp only[if_neg e1,if_pos e2] at e
        exact absurd e (hmn i (by omega))
      · simp only[if_neg e1,if_neg e2] at e
        exact h.inj i j (by omega) (by omega) e
def pC:SC :=
  .seq (al [bb 22 .lss 21 20]) <|
  .seq (.cond (.tmp 22) (.skip) (.exit 0)) <|
  .seq (.block 1 (al [aa 23 6,aa 24 6,bA 25 24,ar 26 7 25,an 27 26,((some 28),.op (.pa)),((some 29),.op (.bH 1 1 [(.val (.map none))] [(0,(.tmp 28))])),((some 30),.op (.app 1 8 (.tmp 27) (.tmp 29))),bA 31 23,ar 32 7 31,(none,.op (.store 1 (.tmp 32) (.tmp 30)))])) <|
  al [ay 33 .add 21 1,aa 21 33]
def pw:SC :=
  .seq (.seq (al [aa 42 8,aa 43 6,bA 44 43,ar 45 6 44,an 46 45,aa 47 7,aN 48 1 46 47,an 49 48,aL 50 49,bb 51 .lss 42 50]) <|
  .cond (.tmp 51) (.skip) (.exit 4)) <|
  .seq (.block 5 (al [aa 54 6,aa 55 7,aa 56 6,bA 57 56,ar 58 6 57,an 59 58,aa 60 7,aN 61 1 59 60,an 62 61,aa 63 8,aN 64 3 62 63,aM 65 3 64,aG 66 56 [54,55,65]])) <|
  al [aa 52 8,ay 53 .add 52 1,aa 8 53]
def o8:SC :=
  .seq (al [bb 40 .lss 39 38]) <|
  .seq (.cond (.tmp 40) (.skip) (.exit 2)) <|
  .seq (.block 3 (.seq (al [aa 41 39,aa 7 41]) <|
  .seq (al [aH 8 0]) <|
  .block 4 (.loop pw))) <|
  al [ay 67 .add 39 1,aa 39 67]
def sJ:SF:=⟨.seq (al [cE 2 0,((some 4),.op (.bu (.val (.val (.pointer none)))))]) <|
  .seq (al [aa 9 1,aL 10 9,ay 11 .add 10 1,aa 5 11]) <|
  .seq (.region true [⟨none,[aM 12 4 2,aa 13 1,aM 14 4 2,aG 15 54 [14],aa 16 5,((some 17),.op (.make 1 24 [(.emp 1)] (.tmp 16) (.tmp 16))),((some 18),.op (.build [(.emp 1),(.emp 1),(.emp 1),(.val (.int .i64 0)),(.emp 1),(.emp 1),(.emp 1),(.emp 1)] [(0,4,(.tmp 12)),(4,1,(.tmp 13)),(5,1,(.tmp 15)),(6,1,(.tmp 17))])),((some 19),.op (.box (.tmp 18))),aa 6 19]⟩]) <|
  .seq (.seq (al [aa 20 5,aH 21 0]) <|
  .block 0 (.loop pC)) <|
  .seq (al [aa 34 6,ar 35 3 2,an 36 35,cG 37 55 [(.tmp 34),(.val (.val (.int .i64 0))),(.tmp 36)]]) <|
  .seq (.seq (al [aa 38 5,aH 39 0]) <|
  .block 2 (.loop o8)) <|
  .seq (al [aa 68 6,aa 4 68]) <|
  .ret,
  [.tmp 4],69⟩
theorem vu:aX Tryz.prog 35 [2]=some sJ:=by kernel_rfl
set_option maxHeartbeats 4000000 in
theorem xW (g:av) (hg:g.Ok) (hr:aR g=true) (hsm:g.Small) (p:List Int) (hp:p.length≤60) (H:View):aD Tryz.prog 35 [.agg (ao g),encI p] H fun r H'=>∃ c S B,r=.ptr c 0 0∧Ch H' c g p (bk (aw g false)) S B (p.length+1) []∧Good g p S∧oC g p S:=by
  have hf:=aO hr
  refine aD.of mixed vu ?_
  simp (disch:=omega) only [↓wr,↓reduceIte,wq,ai,ah,ak,ae,af,ag,aj,isNil,Nat.reduceEqDiff,Nat.reduceAdd,Nat.reduceLT,Nat.reduceLeDiff,Int.reduceNeg,Int.reduceToNat,reduceCtorEq,sJ,ao,encI]
  have hcl:=(Be g hg hsm).pure
  simp only[ao] at hcl
  refine ⟨rfl,az.pure hcl (by kernel_rfl) ?_⟩
  have hM:((p.length:Int)+1).toNat=p.length+1:=by omega
  have hcs:aS (encS g.au)=true:=rfl
  simp (disch:=omega) only [↓wr,↓reduceIte,wq,ai,ah,ak,ae,af,ag,aj,isNil,Nat.reduceEqDiff,Nat.reduceAdd,Nat.reduceLT,Nat.reduceLeDiff,Int.reduceNeg,Int.reduceToNat,reduceCtorEq,hM,bk,hcs,Bool.and_self]
  refine ⟨⟨Nat.le_refl _,by unfold aI; omega,by unfold aI; omega⟩,fun sid hsid=>?_⟩
  intro c hc
  obtain ⟨hcsid,hcd⟩:=bJ hc (by simp)
  refine bo.up (p.length+1) (fun k T' H'=>(∃ u mi,p8 H' c sid u mi g p (bk (aw g false)) (p.length+1) k)∧T' 2=.aK (ao g) 0∧T' 5=gi (p.length+1)∧T' 6=.ptr c 0 0∧T' 20=gi (p.length+1)∧T' 21=gi k) ?_ ?_
  · refine ⟨⟨.emp 1,fun _=>0,⟨by simp[View.set,bk,encI],?_,bp.nil,fun j hj=>by omega,fun i j hi=>by omega⟩⟩,rfl,rfl,rfl,rfl,rfl⟩
    simp[View.set,Ne.symm hcsid]
    apply List.ext_getElem (by simp)
    intro n h1 h2
    cases n <;> simp
  clear hc hcd hsid
  rintro k m T' H' hk ⟨⟨u,mi,hh⟩,t2,t5,t6,t20,t21⟩
  simp (disch:=omega) only [↓wr,↓reduceIte,wq,ai,ah,ak,ae,af,ag,aj,isNil,Nat.reduceEqDiff,Nat.reduceAdd,Nat.reduceLT,Nat.reduceLeDiff,Int.reduceNeg,Int.reduceToNat,reduceCtorEq,pC,t2,t5,t6,t20,t21]
  refine aq.dec (fun hlt=>?_) (fun hlt=>?_)
  · simp (disch:=omega) only [↓wr,↓reduceIte,wq,ai,ah,ak,ae,af,ag,aj,isNil,Nat.reduceEqDiff,Nat.reduceAdd,Nat.reduceLT,Nat.reduceLeDiff,Int.reduceNeg,Int.reduceToNat,reduceCtorEq,t2,t5,t6,t20,t21,hh.box]
    intro m1 hm1 b1 hb1
    obtain ⟨hne,hb1⟩:=bJ hb1 (by simp)
    rw[de]
    have ho:=(hh.seen.fresh (o:=.map [] 0) hm1).fresh (o:=.arr 1 [[.mp m1]]) (m:=b1) (by simp[View.set,hne,hb1])
    simp (disch:=omega) only [↓wr,↓reduceIte,wq,ai,ah,ak,ae,af,ag,aj,isNil,Nat.reduceEqDiff,Nat.reduceAdd,Nat.reduceLT,Nat.reduceLeDiff,Int.reduceNeg,Int.reduceToNat,reduceCtorEq]
    refine mY ho (by simp) (by simp[V.cells,aS]) (by simp[aI]; omega) (by simp[aI]; omega) fun u' H3 ho' hl'=>?_
    have hlv:∀ id,H' id≠.dead→owner u≠some id→H3 id=H' id∧owner u'≠some id:=fun id h1 h2=>by
      have n1:id≠m1:=by rintro rfl; exact h1 hm1
      have n2:id≠b1:=by rintro rfl; exact h1 hb1
      have:=hl' id (by simp[View.set,n1,n2,h1]) h2
      rw[this.1]
      exact ⟨by simp[View.set,n1,n2],this.2⟩
    have hcc:=(hlv c (by rw[hh.box]; simp) hh.Jr).1
    rw[hh.box] at hcc
    have hm3:H3 m1=.map [] 0:=by
      have n3:owner u≠some m1:=hh.seen.ne hm1
      rw[(hl' m1 (by simp[View.set,Ne.symm hne]) n3).1]
      simp[View.set,Ne.symm hne]
    simp (disch:=omega) only [↓wr,↓reduceIte,wq,ai,ah,ak,ae,af,ag,aj,isNil,Nat.reduceEqDiff,Nat.reduceAdd,Nat.reduceLT,Nat.reduceLeDiff,Int.reduceNeg,Int.reduceToNat,reduceCtorEq,hcc,ho'.cells,ho'.ld,t21]
    exact aV hk (by omega) ⟨⟨u',_,hh.next (by omega) hm1 ho' hm3 hlv⟩,t2,t5,t6,t20,rfl⟩
  · have hkn:k=p.length+1:=by omega
    subst hkn
    have hC:=hh.JJ (by omega)
    clear hh t20 t21
    simp (disch:=omega) only [↓wr,↓reduceIte,wq,ai,ah,ak,ae,af,ag,aj,isNil,Nat.reduceEqDiff,Nat.reduceAdd,Nat.reduceLT,Nat.reduceLeDiff,Int.reduceNeg,Int.reduceToNat,reduceCtorEq,t2,t5,t6,ao]
    have hG0:Good g p (fun _=>[]):=⟨fun _=>by simp,fun a x hx=>by simp at hx,fun a x hx=>by simp at hx,fun _ _=>rfl⟩
    refine az.ez ((ra c g hf p hp _ _ _ 0 _ _ hC hG0 (by omega) (by omega) g.start .start).mono ?_)
    rintro r0 H2 ⟨S0,hC,hG,hgr,hst⟩
    simp (disch:=omega) only [↓wr,↓reduceIte,wq,ai,ah,ak,ae,af,ag,aj,isNil,Nat.reduceEqDiff,Nat.reduceAdd,Nat.reduceLT,Nat.reduceLeDiff,Int.reduceNeg,Int.reduceToNat,reduceCtorEq,t2,t5,t6]
    refine bo.up (p.length+1) (fun a T' H'=>(∃ S,Ch H' c g p (bk (aw g false)) S (40+a * 293776000) (p.length+1) []∧Good g p S∧(∀ i R,g.rules[i]?=some R→R.left=g.start→(⟨i,0,0⟩:Item)∈S 0)∧∀ b,b < a→∀ x∈S b,rF g p S b x)∧T' 5=gi (p.length+1)∧T' 6=.ptr c 0 0∧T' 38=gi (p.length+1)∧T' 39=gi a) ?_ ?_
    · exact ⟨⟨S0,hC.more (by omega),hG,hst,fun b hb=>by omega⟩,t5,t6,rfl,rfl⟩
    clear hC hG hgr hst t2 t5 t6
    rintro a m T' H hk ⟨⟨S,hC,hG,hst,hall⟩,t5,t6,t38,t39⟩
    simp (disch:=omega) only [↓wr,↓reduceIte,wq,ai,ah,ak,ae,af,ag,aj,isNil,Nat.reduceEqDiff,Nat.reduceAdd,Nat.reduceLT,Nat.reduceLeDiff,Int.reduceNeg,Int.reduceToNat,reduceCtorEq,o8,t5,t6,t38,t39]
    refine aq.dec (fun hlt=>?_) (fun hlt=>?_)
    · simp (disch:=omega) only [↓wr,↓reduceIte,wq,ai,ah,ak,ae,af,ag,aj,isNil,Nat.reduceEqDiff,Nat.reduceAdd,Nat.reduceLT,Nat.reduceLeDiff,Int.reduceNeg,Int.reduceToNat,reduceCtorEq,t5,t6,t38,t39]
      refine bo.up 17080 (fun i T' H'=>(∃ S,Ch H' c g p (bk (aw g false)) S (40+a * 293776000+i * 17200) (p.length+1) []∧Good g p S∧(∀ i R,g.rules[i]?=some R→R.left=g.start→(⟨i,0,0⟩:Item)∈S 0)∧(∀ b,b < a→∀ x∈S b,rF g p S b x)∧i≤(S a).length∧∀ x∈(S a).take i,rF g p S a x)∧T' 5=gi (p.length+1)∧T' 6=.ptr c 0 0∧T' 7=gi a∧T' 8=gi i∧T' 38=gi (p.length+1)∧T' 39=gi a) ?_ ?_
      · exact ⟨⟨S,hC.more (by omega),hG,hst,hall,Nat.zero_le _,fun x hx=>by simp at hx⟩,t5,t6,rfl,rfl,t38,t39⟩
      clear hC hG hst hall t5 t6 t38 t39
      rintro i k T' H hi ⟨⟨S,hC,hG,hst,hall,hil,hdn⟩,t5,t6,t7,t8,t38,t39⟩
      have han:a < p.length+1:=by omega
      obtain ⟨sid,mid,sv,hbox,hsets,ho⟩:=hC.set (a:=a) han
      simp (disch:=omega) only [↓wr,↓reduceIte,wq,ai,ah,ak,ae,af,ag,aj,isNil,Nat.reduceEqDiff,Nat.reduceAdd,Nat.reduceLT,Nat.reduceLeDiff,Int.reduceNeg,Int.reduceToNat,reduceCtorEq,pw,t5,t6,t7,t8,t38,t39,hbox,hsets,cY han,ho.len]
      refine ⟨han,by simp; omega,?_⟩
      have hla:=hG.len hf hp a
      refine aq.dec (fun hc=>?_) (fun hc=>?_)
      · obtain ⟨m,hsv,hm⟩:=ho.sl (by simp; omega)
        have hxi:(S a)[i]?=some ((S a)[i]'(by omega)):=List.getElem?_eq_getElem (by omega)
        have hxm:(S a)[i]'(by omega)∈S a:=List.getElem_mem _
        have htk:(S a).take (i+1)=(S a).take i ++ [(S a)[i]'(by omega)]:=by rw[List.take_add_one,hxi]; rfl
        generalize (S a)[i]'(by omega)=x at hxi hxm htk
        have hgx:((S a).map dx).getD i []=[ak x.bj,ak x.dot,ak x.cd]:=by simp[List.getD_eq_getElem?_getD,hxi,dx]
        simp (disch:=omega) only [↓wr,↓reduceIte,wq,ai,ah,ak,ae,af,ag,aj,isNil,Nat.reduceEqDiff,Nat.reduceAdd,Nat.reduceLT,Nat.reduceLeDiff,Int.reduceNeg,Int.reduceToNat,reduceCtorEq,t5,t6,t7,t8,t38,t39,hbox,hsets,cY han,hsv,hm,hgx]
        refine ⟨han,by simp; omega,by omega,by omega,?_⟩
        refine az.ez ((Ij c g hr p hp S _ a x _ _ hC hG (by omega) (by omega) hxm).mono ?_)
        rintro r1 H4 ⟨S',hC',hG',hgr',hd'⟩
        simp (disch:=omega) only [↓wr,↓reduceIte,wq,ai,ah,ak,ae,af,ag,aj,isNil,Nat.reduceEqDiff,Nat.reduceAdd,Nat.reduceLT,Nat.reduceLeDiff,Int.reduceNeg,Int.reduceToNat,reduceCtorEq,t8]
        refine aV hi (by omega) ⟨⟨S',hC'.more (by omega),hG',fun j R h1 h2=>hgr'.mem (hst j R h1 h2),fun b hb x hx=>(hall b hb x (by rw[(hgr' b).2 hb] at hx; exact hx)).grow (hgr'.low (by omega)),?_,?_⟩,t5,t6,t7,rfl,t38,t39⟩
        · have:=(hgr' a).1.length_le
          omega
        · obtain ⟨t,ht⟩:=(hgr' a).1
          rw[← ht,List.take_append_of_le_length (by omega),htk]
          intro y hy
          rcases List.mem_append.1 hy with hy | hy
          · exact (hdn y hy).grow hgr'
          · simp at hy; subst hy; exact hd'
      · simp (disch:=omega) only [↓wr,↓reduceIte,wq,ai,ah,ak,ae,af,ag,aj,isNil,Nat.reduceEqDiff,Nat.reduceAdd,Nat.reduceLT,Nat.reduceLeDiff,Int.reduceNeg,Int.reduceToNat,reduceCtorEq,t5,t6,t7,t8,t38,t39]
        have hil2:i=(S a).length:=by omega
        rw[hil2,List.take_length] at hdn
        refine aV hk (by omega) ⟨⟨S,hC.more (by omega),hG,hst,fun b hb x hx=>?_⟩,t5,t6,t38,rfl⟩
        by_cases e:b=a
        · subst e; exact hdn x hx
        · exact hall b (by omega) x hx
    · simp (disch:=omega) only [↓wr,↓reduceIte,wq,ai,ah,ak,ae,af,ag,aj,isNil,Nat.reduceEqDiff,Nat.reduceAdd,Nat.reduceLT,Nat.reduceLeDiff,Int.reduceNeg,Int.reduceToNat,reduceCtorEq,t5,t6,t38,t39]
      have hpa:∀ b x,x∈S b→b≤p.length:=fun b x hx=>by
        apply Decidable.byContradiction
        intro hn
        rw[hG.out b (by omega)] at hx
        simp at hx
      have hd:=fun b x (hx:x∈S b)=>hall b (by have:=hpa b x hx; omega) x hx
      refine ⟨c,S,_,rfl,hC,hG,⟨hst,fun a x R s hx h1 h2 h3 h4=>(hd a x hx).term R s h1 h2 h3 h4,fun a x R s i R' hx h1 h2 h3 h4 h5 _=>(hd a x hx).pred R s i R' h1 h2 h3 h4 h5,fun a x R s hx h1 h2 h3 h4 _=>(hd a x hx).null R s h1 h2 h3 h4,fun a y R' x R s hy h1 h2 h3 hx h4 h5 h6 h7 _=>?_⟩⟩
      refine (hd a y hy).comp R' h1 h2 h3 x hx R h4 ?_
      rw[h5,h7]
      congr 1
      omega
end Gv
set_option linter.unusedSimpArgs false
set_option maxRecDepth 100000
namespace Gv
open Go Go.Proofs
def jt (g:av) (x:Item):Bool:=match g.rules[x.bj]? with
  | some R=>decide (R.left=g.start) && decide (x.cd=0) && decide (x.dot=R.right.length)
  | none=>false
def Kept (H H':View):Prop:=∀ id,H id≠.dead→H' id=H id
theorem Kept.refl (H:View):Kept H H:=fun _ _=>rfl
theorem Kept.trans {H H' H'':View} (h:Kept H H') (h':Kept H' H''):Kept H H'':=fun id hid=>by
  have h1:=h id hid
  rw[← h1] at hid
  rw[h' id hid,h1]
theorem Kept.new {H:View} {b:Nat} {o:bE} (hb:H b=.dead):Kept H (H.set b o):=fun id hid=>by
  have:id≠b:=by rintro rfl; exact hid hb
  simp[View.set,this]
def xY (H:View) (c:Nat) (g:av) (p:List Int):Prop:=∃ nu sid mid n,H c=.arr 8 [[.bc (g.aC.map ch),encS g.au,.bc (g.rules.map aJ),gi g.start,encI p,nu,.sl sid 0 n 1,.sl mid 0 n 1]]
theorem xY.keep {H H':View} {c:Nat} {g:av} {p:List Int} (h:xY H c g p) (hs:Kept H H'):xY H' c g p:=by
  obtain ⟨nu,sid,mid,n,h⟩:=h
  exact ⟨nu,sid,mid,n,by rw[hs c (by rw[h]; simp)]; exact h⟩
def jb:SF:=⟨.seq (al [cE 2 0,aU 3 false]) <|
  .seq (al [an 5 1,bA 6 5,ar 7 0 6,ar 8 2 7,an 9 8,ar 10 0 2,an 11 10,aN 12 3 9 11,aM 13 3 12,((some 4),.op (.alloc [(.val (.int .i64 0)),(.emp 1),(.val (.int .i64 0))])),(none,.op (.store 3 (.tmp 4) (.tmp 13)))]) <|
  .seq (.region false [⟨none,[ar 14 0 4,an 15 14,an 16 1,bA 17 16,ar 18 0 17,ar 19 3 18,an 20 19,bb 21 .eql 15 20,aa 22 21]⟩,⟨(some (22,true)),[ar 23 2 2,an 24 23,ay 25 .eql 24 0]⟩,⟨none,[br 26 22 25,aa 27 26]⟩,⟨(some (27,true)),[ar 28 1 2,an 29 28,ar 30 1 4,an 31 30,aL 32 31,bb 33 .eql 29 32]⟩,⟨none,[br 34 27 33,aa 3 34]⟩]) <|
  .ret,
  [.tmp 3],35⟩
theorem nJ:aX Tryz.prog 58 [2]=some jb:=by kernel_rfl
def df:SC :=
  .seq (al [bb 9 .lss 8 7]) <|
  .seq (.cond (.tmp 9) (.skip) (.exit 0)) <|
  .seq (.block 1 (.seq (al [aa 10 8,aa 5 10]) <|
  .seq (al [aa 11 1,aa 12 0,aa 13 5,aN 14 3 12 13,aM 15 3 14,((some 16),.call (.tmp 11) [(.tmp 15)])]) <|
  .cond (.tmp 16) (.seq (al [aa 17 5,aa 4 17]) <|
  .ret) (.skip))) <|
  al [ay 18 .add 8 1,aa 8 18]
def dq:SF:=⟨.seq (al [aH 4 0]) <|
  .seq (.seq (al [aa 6 0,aL 7 6,aH 8 0]) <|
  .block 0 (.loop df)) <|
  .seq (al [aH 4 (-1)]) <|
  .ret,
  [.tmp 4],19⟩
theorem fe:aX Tryz.prog 102 []=some dq:=by kernel_rfl
def dd:SF:=⟨.seq (al [aU 4 false]) <|
  .seq (al [aa 5 0,aa 6 1,aG 7 102 [5,6],ay 8 .geq 7 0,aa 4 8]) <|
  .ret,
  [.tmp 4],9⟩
theorem eC:aX Tryz.prog 57 []=some dd:=by kernel_rfl
def kJ:SF:=⟨.seq (al [cE 1 0,aU 2 false]) <|
  .seq (al [an 3 1,bA 4 3,ar 5 6 4,an 6 5,an 7 1,bA 8 7,ar 9 4 8,an 10 9,aL 11 10,aN 12 1 6 11,an 13 12,((some 14),.op (.oL 58 [] [(.tmp 1)])),aG 15 57 [13,14],aa 2 15]) <|
  .ret,
  [.tmp 2],16⟩
theorem o4:aX Tryz.prog 36 [1]=some kJ:=by kernel_rfl
set_option maxHeartbeats 4000000 in
theorem FC (c:Nat) (g:av) (p:List Int) (x:Item) (H:View) (hb:xY H c g p) (hx:x.bj < g.rules.length):aD Tryz.prog 58 [.agg (dx x),.aK [.ptr c 0 0] 0] H fun r H'=>r=gb (jt g x)∧Kept H H':=by
  obtain ⟨nu,sid,mid,n,hbox⟩:=hb
  have hR:g.rules[x.bj]?=some (g.rules[x.bj]'hx):=List.getElem?_eq_getElem hx
  generalize g.rules[x.bj]'hx=R at hR
  have hw:jt g x=(decide (R.left=g.start) && decide (x.cd=0) && decide (x.dot=R.right.length)):=by unfold jt; rw[hR]
  refine aD.of mixed nJ ?_
  simp (disch:=omega) only [↓wr,↓reduceIte,wq,ai,ah,ak,ae,af,ag,aj,isNil,Nat.reduceEqDiff,Nat.reduceAdd,Nat.reduceLT,Nat.reduceLeDiff,Int.reduceNeg,Int.reduceToNat,reduceCtorEq,jb,dx,hbox,aJ,encI,List.getElem?_map,hR]
  intro b hb
  have hcb:c≠b:=by rintro rfl; rw[hbox] at hb; simp at hb
  simp only[if_neg hcb]
  simp (disch:=omega) only [↓wr,↓reduceIte,wq,ai,ah,ak,ae,af,ag,aj,isNil,Nat.reduceEqDiff,Nat.reduceAdd,Nat.reduceLT,Nat.reduceLeDiff,Int.reduceNeg,Int.reduceToNat,reduceCtorEq,hbox]
  refine aq.eq (fun e1=>?_) (fun e1=>?_)
  · simp (disch:=omega) only [↓wr,↓reduceIte,wq,ai,ah,ak,ae,af,ag,aj,isNil,Nat.reduceEqDiff,Nat.reduceAdd,Nat.reduceLT,Nat.reduceLeDiff,Int.reduceNeg,Int.reduceToNat,reduceCtorEq]
    refine aq.eq (fun e2=>?_) (fun e2=>?_)
    · simp (disch:=omega) only [↓wr,↓reduceIte,wq,ai,ah,ak,ae,af,ag,aj,isNil,Nat.reduceEqDiff,Nat.reduceAdd,Nat.reduceLT,Nat.reduceLeDiff,Int.reduceNeg,Int.reduceToNat,reduceCtorEq]
      refine ⟨?_,?_⟩
      · rw[hw,decide_eq_true e1,decide_eq_true (show x.cd=0 by omega),gb]
        congr 2
        rw[Bool.eq_iff_iff]
        simp
        omega
      · rw[set_set]; exact Kept.new hb
    · simp (disch:=omega) only [↓wr,↓reduceIte,wq,ai,ah,ak,ae,af,ag,aj,isNil,Nat.reduceEqDiff,Nat.reduceAdd,Nat.reduceLT,Nat.reduceLeDiff,Int.reduceNeg,Int.reduceToNat,reduceCtorEq]
      refine ⟨?_,?_⟩
      · rw[hw,decide_eq_true e1,decide_eq_false (show ¬ x.cd=0 by omega)]; rfl
      · rw[set_set]; exact Kept.new hb
  · simp (disch:=omega) only [↓wr,↓reduceIte,wq,ai,ah,ak,ae,af,ag,aj,isNil,Nat.reduceEqDiff,Nat.reduceAdd,Nat.reduceLT,Nat.reduceLeDiff,Int.reduceNeg,Int.reduceToNat,reduceCtorEq]
    refine ⟨?_,?_⟩
    · rw[hw,decide_eq_false e1]; rfl
    · rw[set_set]; exact Kept.new hb
set_option maxHeartbeats 4000000 in
theorem Ep (c:Nat) (g:av) (p:List Int) (u:V) (l:List Item) (H:View) (hb:xY H c g p) (ho:bp H u 3 (l.map dx)) (hl:∀ x∈l,x.bj < g.rules.length) (hll:l.length < 1000000) :
    aD Tryz.prog 102 [u,.fn 58 [] [.aK [.ptr c 0 0] 0]] H fun r H'=>∃ k:Int,r=gi k∧-1≤k∧k < 1000000∧(0≤k↔l.any (jt g)=true)∧Kept H H':=by
  refine aD.of mixed fe ?_
  simp (disch:=omega) only [↓wr,↓reduceIte,wq,ai,ah,ak,ae,af,ag,aj,isNil,Nat.reduceEqDiff,Nat.reduceAdd,Nat.reduceLT,Nat.reduceLeDiff,Int.reduceNeg,Int.reduceToNat,reduceCtorEq,dq,ho.len]
  refine bo.up l.length (fun i T' H'=>Kept H H'∧(l.take i).any (jt g)=false∧T' 0=u∧T' 1=.fn 58 [] [.aK [.ptr c 0 0] 0]∧T' 7=ak l.length∧T' 8=ak i) ?_ ?_
  · exact ⟨.refl _,by simp,rfl,rfl,rfl,rfl⟩
  rintro i k T' H' hk ⟨hkp,hany,t0,t1,t7,t8⟩
  have hb':=hb.keep hkp
  have ho':bp H' u 3 (l.map dx):=ho.keep fun id hid=>hkp id (by rw[(ho.live hid).1]; simp)
  simp (disch:=omega) only [↓wr,↓reduceIte,wq,ai,ah,ak,ae,af,ag,aj,isNil,Nat.reduceEqDiff,Nat.reduceAdd,Nat.reduceLT,Nat.reduceLeDiff,Int.reduceNeg,Int.reduceToNat,reduceCtorEq,df,t0,t1,t7,t8]
  refine aq.dec (fun hc=>?_) (fun hc=>?_)
  · obtain ⟨m,hsv,hm⟩:=ho'.sl (by simp; omega)
    have hxi:l[i]?=some (l[i]'(by omega)):=List.getElem?_eq_getElem (by omega)
    have hxm:l[i]'(by omega)∈l:=List.getElem_mem _
    have htk:l.take (i+1)=l.take i ++ [l[i]'(by omega)]:=by rw[List.take_add_one,hxi]; rfl
    generalize l[i]'(by omega)=x at hxi hxm htk
    have hgx:(l.map dx).getD i []=[ak x.bj,ak x.dot,ak x.cd]:=by simp[List.getD_eq_getElem?_getD,hxi,dx]
    have hx1:=hl x hxm
    simp (disch:=omega) only [↓wr,↓reduceIte,wq,ai,ah,ak,ae,af,ag,aj,isNil,Nat.reduceEqDiff,Nat.reduceAdd,Nat.reduceLT,Nat.reduceLeDiff,Int.reduceNeg,Int.reduceToNat,reduceCtorEq,t0,t1,t7,t8,hsv,hm,hgx]
    refine ⟨by omega,by omega,?_⟩
    refine az.ez ((FC c g p x H' hb' hx1).mono ?_)
    rintro r H2 ⟨rfl,hk2⟩
    simp (disch:=omega) only [↓wr,↓reduceIte,wq,ai,ah,ak,ae,af,ag,aj,isNil,Nat.reduceEqDiff,Nat.reduceAdd,Nat.reduceLT,Nat.reduceLeDiff,Int.reduceNeg,Int.reduceToNat,reduceCtorEq]
    refine aq.split (fun e=>?_) (fun e=>?_)
    · simp (disch:=omega) only [↓wr,↓reduceIte,wq,ai,ah,ak,ae,af,ag,aj,isNil,Nat.reduceEqDiff,Nat.reduceAdd,Nat.reduceLT,Nat.reduceLeDiff,Int.reduceNeg,Int.reduceToNat,reduceCtorEq,t8]
      refine ⟨(i:Int),rfl,by omega,by omega,⟨fun _=>List.any_eq_true.2 ⟨x,hxm,e⟩,fun _=>by omega⟩,hkp.trans hk2⟩
    · simp (disch:=omega) only [↓wr,↓reduceIte,wq,ai,ah,ak,ae,af,ag,aj,isNil,Nat.reduceEqDiff,Nat.reduceAdd,Nat.reduceLT,Nat.reduceLeDiff,Int.reduceNeg,Int.reduceToNat,reduceCtorEq,t8]
      exact aV hk (by omega) ⟨hkp.trans hk2,by rw[htk,List.any_append,hany]; simp[e],t0.trans rfl,t1,t7,rfl⟩
  · simp (disch:=omega) only [↓wr,↓reduceIte,wq,ai,ah,ak,ae,af,ag,aj,isNil,Nat.reduceEqDiff,Nat.reduceAdd,Nat.reduceLT,Nat.reduceLeDiff,Int.reduceNeg,Int.reduceToNat,reduceCtorEq]
    have:i=l.length:=by omega
    subst this
    rw[List.take_length] at hany
    exact ⟨-1,rfl,by omega,by omega,⟨fun h=>by omega,fun h=>by rw[hany] at h; simp at h⟩,hkp⟩
set_option maxHeartbeats 4000000 in
theorem AE (c:Nat) (g:av) (p:List Int) (u:V) (l:List Item) (H:View) (hb:xY H c g p) (ho:bp H u 3 (l.map dx)) (hl:∀ x∈l,x.bj < g.rules.length) (hll:l.length < 1000000) :
    aD Tryz.prog 57 [u,.fn 58 [] [.aK [.ptr c 0 0] 0]] H fun r H'=>r=gb (l.any (jt g))∧Kept H H':=by
  refine aD.of mixed eC ?_
  simp (disch:=omega) only [↓wr,↓reduceIte,wq,ai,ah,ak,ae,af,ag,aj,isNil,Nat.reduceEqDiff,Nat.reduceAdd,Nat.reduceLT,Nat.reduceLeDiff,Int.reduceNeg,Int.reduceToNat,reduceCtorEq,dd]
  refine az.ez ((Ep c g p u l H hb ho hl hll).mono ?_)
  rintro r H2 ⟨k,rfl,h1,h2,h3,h4⟩
  simp (disch:=omega) only [↓wr,↓reduceIte,wq,ai,ah,ak,ae,af,ag,aj,isNil,Nat.reduceEqDiff,Nat.reduceAdd,Nat.reduceLT,Nat.reduceLeDiff,Int.reduceNeg,Int.reduceToNat,reduceCtorEq]
  refine ⟨?_,h4⟩
  rw[gb]
  congr 2
  rw[Bool.eq_iff_iff,← h3]
  simp
set_option maxHeartbeats 4000000 in
theorem Bu (c:Nat) (g:av) (hf:g.oO) (p:List Int) (hp:p.length≤60) (nu:V) (S:Nat→List Item) (B:Nat) (K:List (Nat × bE)) (H:View) (hC:Ch H c g p nu S B (p.length+1) K) (hG:Good g p S) :
    aD Tryz.prog 36 [.ptr c 0 0] H fun r _=>r=gb ((S p.length).any (jt g)):=by
  obtain ⟨sid,mid,sv,hbox,hsets,ho⟩:=hC.set (a:=p.length) (by omega)
  have hps:p.length < p.length+1:=by omega
  have hr:=hf.rules
  refine aD.of mixed o4 ?_
  simp (disch:=omega) only [↓wr,↓reduceIte,wq,ai,ah,ak,ae,af,ag,aj,isNil,Nat.reduceEqDiff,Nat.reduceAdd,Nat.reduceLT,Nat.reduceLeDiff,Int.reduceNeg,Int.reduceToNat,reduceCtorEq,kJ,hbox,encI,hsets,cY hps]
  refine ⟨by omega,by simp,?_⟩
  refine az.ez ((AE c g p (sv p.length) (S p.length) H ⟨_,_,_,_,hbox⟩ ho (fun x hx=>?_) (by have:=hG.len hf hp p.length; omega)).mono ?_)
  · obtain ⟨R,hR,_⟩:=hG.sound _ _ hx
    exact (List.getElem?_eq_some_iff.1 hR).1
  rintro r H2 ⟨rfl,_⟩
  simp (disch:=omega) only [↓wr,↓reduceIte,wq,ai,ah,ak,ae,af,ag,aj,isNil,Nat.reduceEqDiff,Nat.reduceAdd,Nat.reduceLT,Nat.reduceLeDiff,Int.reduceNeg,Int.reduceToNat,reduceCtorEq]
theorem zj {g:av} (hr:aR g=true) {p:List Int} {S:Nat→List Item} (hG:Good g p S) (hc:oC g p S):(S p.length).any (jt g)=fN g p:=by
  rw[Bool.eq_iff_iff,jG hr,← E2 hr hc hG.sound,List.any_eq_true]
  constructor
  · rintro ⟨x,hx,hw⟩
    refine ⟨x,hx,?_⟩
    unfold jt at hw
    split at hw
    · rename_i R hR
      simp only[Bool.and_eq_true,decide_eq_true_eq] at hw
      exact ⟨R,hR,hw.1.1,hw.1.2,hw.2⟩
    · simp at hw
  · rintro ⟨x,hx,R,hR,h1,h2,h3⟩
    refine ⟨x,hx,?_⟩
    unfold jt
    rw[hR]
    simp only[Bool.and_eq_true,decide_eq_true_eq]
    exact ⟨⟨h1,h2⟩,h3⟩
def sG:SF:=⟨.seq (al [cE 2 0,aU 4 false,aH 5 0]) <|
  .seq (.seq (.region false [⟨none,[aM 6 4 2,aG 7 38 [6],bL 8 7,aa 9 8]⟩,⟨(some (9,false)),[aa 10 1,aL 11 10,ay 12 .gtr 11 60]⟩,⟨none,[bt 13 9 12,aa 14 13]⟩,⟨(some (14,false)),[aa 15 1,((some 16),.op (.oL 40 [] [(.tmp 2)])),aG 17 39 [15,16]]⟩,⟨none,[bt 18 14 17]⟩]) <|
  .cond (.tmp 18) (.seq (al [aU 4 false,aH 5 1]) <|
  .ret) (.skip)) <|
  .seq (al [aM 19 4 2,aa 20 1,aG 21 35 [19,20],aG 22 36 [21],aa 4 22,aH 5 0]) <|
  .ret,
  [.tmp 4,.tmp 5],23⟩
theorem vU:aX Tryz.prog 17 [2]=some sG:=by kernel_rfl
def uv:SF:=⟨.seq (al [cE 2 0,aU 4 false,aH 5 0]) <|
  .seq (.seq (al [aM 6 4 2,aa 7 1,aG 8 34 [6,7],bL 9 8]) <|
  .cond (.tmp 9) (.seq (al [aU 4 false,aH 5 1]) <|
  .ret) (.skip)) <|
  .seq (al [aM 10 4 2,aa 11 1,aG 12 35 [10,11],aG 13 36 [12],aa 4 13,aH 5 0]) <|
  .ret,
  [.tmp 4,.tmp 5],14⟩
theorem xw:aX Tryz.prog 15 [2]=some uv:=by kernel_rfl
set_option maxHeartbeats 4000000 in
theorem nZ (g:av) (hg:g.Ok) (hs:g.Small) (w:List Int) (hw:aP w) (hn:∀ x∈w,bF x):aE Tryz.prog 15 [.agg (ao g),encI w] (dn (fc g w)):=by
  refine aE.tree (fW g w) (jQ _) fun H=>?_
  refine aD.of mixed xw ?_
  simp (disch:=omega) only [↓wr,↓reduceIte,wq,ai,ah,ak,ae,af,ag,aj,isNil,Nat.reduceEqDiff,Nat.reduceAdd,Nat.reduceLT,Nat.reduceLeDiff,Int.reduceNeg,Int.reduceToNat,reduceCtorEq,uv,ao,encS]
  have hcl:=A1 g hg hs w hw hn
  simp only[ao,encS] at hcl
  refine az.pure hcl (by kernel_rfl) ?_
  simp (disch:=omega) only [↓wr,↓reduceIte,wq,ai,ah,ak,ae,af,ag,aj,isNil,Nat.reduceEqDiff,Nat.reduceAdd,Nat.reduceLT,Nat.reduceLeDiff,Int.reduceNeg,Int.reduceToNat,reduceCtorEq]
  refine aq.split (fun h=>?_) (fun h=>?_)
  · have hwb:=h
    simp only[dw,Bool.and_eq_true,decide_eq_true_eq] at hwb
    simp (disch:=omega) only [↓wr,↓reduceIte,wq,ai,ah,ak,ae,af,ag,aj,isNil,Nat.reduceEqDiff,Nat.reduceAdd,Nat.reduceLT,Nat.reduceLeDiff,Int.reduceNeg,Int.reduceToNat,reduceCtorEq]
    have hrd:=xW g hg hwb.1.1 hs w hwb.1.2 H
    simp only[ao,encS] at hrd
    refine az.ez (hrd.mono ?_)
    rintro r H1 ⟨c,S,B,rfl,hC,hG,hc⟩
    simp (disch:=omega) only [↓wr,↓reduceIte,wq,ai,ah,ak,ae,af,ag,aj,isNil,Nat.reduceEqDiff,Nat.reduceAdd,Nat.reduceLT,Nat.reduceLeDiff,Int.reduceNeg,Int.reduceToNat,reduceCtorEq]
    refine az.ez ((Bu c g (aO hwb.1.1) w hwb.1.2 _ S B _ H1 hC hG).mono ?_)
    rintro r H2 rfl
    simp (disch:=omega) only [↓wr,↓reduceIte,wq,ai,ah,ak,ae,af,ag,aj,isNil,Nat.reduceEqDiff,Nat.reduceAdd,Nat.reduceLT,Nat.reduceLeDiff,Int.reduceNeg,Int.reduceToNat,reduceCtorEq]
    rw[fc,if_pos h,zj hwb.1.1 hG hc]; rfl
  · simp (disch:=omega) only [↓wr,↓reduceIte,wq,ai,ah,ak,ae,af,ag,aj,isNil,Nat.reduceEqDiff,Nat.reduceAdd,Nat.reduceLT,Nat.reduceLeDiff,Int.reduceNeg,Int.reduceToNat,reduceCtorEq]
    rw[fc,h]; rfl
set_option maxHeartbeats 4000000 in
theorem oV (g:av) (hg:g.Ok) (hs:g.Small) (p:List Int) (hp:aP p) (hn:∀ x∈p,bF x):aE Tryz.prog 17 [.agg (ao g),encI p] (dn (dy g p)):=by
  refine aE.tree (fW g p) (jQ _) fun H=>?_
  have hcf:=ff p hp 40 [.aK (ao g) 0] (by intro v hv; simp at hv; subst hv; exact en (bK g)) (fun x=>!(decide (-1≤x) && decide (x < g.aC.length))) (fun x hx=>Gn g hg x (hn x hx)) (by kernel_rfl)
  refine aD.of mixed vU ?_
  unfold aP at hp
  simp (disch:=omega) only [↓wr,↓reduceIte,wq,ai,ah,ak,ae,af,ag,aj,isNil,Nat.reduceEqDiff,Nat.reduceAdd,Nat.reduceLT,Nat.reduceLeDiff,Int.reduceNeg,Int.reduceToNat,reduceCtorEq,sG,ao,encS]
  refine az.pure (jV g hg hs.names) (by kernel_rfl) ?_
  simp only[ao,encS] at hcf
  have bad:(aR g && decide (p.length≤60) && jK g p)=false→dn (dy g p)=.bz [gb false,gi 1]:=fun e=>by
    unfold dy; rw[if_neg (by rw[e]; simp)]; rfl
  simp (disch:=omega) only [↓wr,↓reduceIte,wq,ai,ah,ak,ae,af,ag,aj,isNil,Nat.reduceEqDiff,Nat.reduceAdd,Nat.reduceLT,Nat.reduceLeDiff,Int.reduceNeg,Int.reduceToNat,reduceCtorEq]
  refine aq.split (fun hr=>?_) (fun hr=>?_)
  · simp (disch:=omega) only [↓wr,↓reduceIte,wq,ai,ah,ak,ae,af,ag,aj,isNil,Nat.reduceEqDiff,Nat.reduceAdd,Nat.reduceLT,Nat.reduceLeDiff,Int.reduceNeg,Int.reduceToNat,reduceCtorEq,encI]
    refine aq.dec (fun h6=>?_) (fun h6=>?_)
    · simp (disch:=omega) only [↓wr,↓reduceIte,wq,ai,ah,ak,ae,af,ag,aj,isNil,Nat.reduceEqDiff,Nat.reduceAdd,Nat.reduceLT,Nat.reduceLeDiff,Int.reduceNeg,Int.reduceToNat,reduceCtorEq]
      exact (bad (by rw[decide_eq_false (show ¬ p.length≤60 by omega)]; simp)).symm
    · simp (disch:=omega) only [↓wr,↓reduceIte,wq,ai,ah,ak,ae,af,ag,aj,isNil,Nat.reduceEqDiff,Nat.reduceAdd,Nat.reduceLT,Nat.reduceLeDiff,Int.reduceNeg,Int.reduceToNat,reduceCtorEq]
      refine az.pure hcf (by kernel_rfl) ?_
      simp (disch:=omega) only [↓wr,↓reduceIte,wq,ai,ah,ak,ae,af,ag,aj,isNil,Nat.reduceEqDiff,Nat.reduceAdd,Nat.reduceLT,Nat.reduceLeDiff,Int.reduceNeg,Int.reduceToNat,reduceCtorEq]
      refine aq.split (fun hc=>?_) (fun hc=>?_)
      · simp (disch:=omega) only [↓wr,↓reduceIte,wq,ai,ah,ak,ae,af,ag,aj,isNil,Nat.reduceEqDiff,Nat.reduceAdd,Nat.reduceLT,Nat.reduceLeDiff,Int.reduceNeg,Int.reduceToNat,reduceCtorEq]
        rw[← List.not_all_eq_any_not] at hc
        exact (bad (by rw[show jK g p=false by simpa [jK] using hc]; simp)).symm
      · rw[← List.not_all_eq_any_not] at hc
        have hpt:jK g p=true:=by simpa [jK] using hc
        have h60:p.length≤60:=by omega
        simp (disch:=omega) only [↓wr,↓reduceIte,wq,ai,ah,ak,ae,af,ag,aj,isNil,Nat.reduceEqDiff,Nat.reduceAdd,Nat.reduceLT,Nat.reduceLeDiff,Int.reduceNeg,Int.reduceToNat,reduceCtorEq]
        have hrd:=xW g hg hr hs p h60 H
        simp only[ao,encS] at hrd
        refine az.ez (hrd.mono ?_)
        rintro r H1 ⟨c,S,B,rfl,hC,hG,hc⟩
        simp (disch:=omega) only [↓wr,↓reduceIte,wq,ai,ah,ak,ae,af,ag,aj,isNil,Nat.reduceEqDiff,Nat.reduceAdd,Nat.reduceLT,Nat.reduceLeDiff,Int.reduceNeg,Int.reduceToNat,reduceCtorEq]
        refine az.ez ((Bu c g (aO hr) p h60 _ S B _ H1 hC hG).mono ?_)
        rintro r H2 rfl
        simp (disch:=omega) only [↓wr,↓reduceIte,wq,ai,ah,ak,ae,af,ag,aj,isNil,Nat.reduceEqDiff,Nat.reduceAdd,Nat.reduceLT,Nat.reduceLeDiff,Int.reduceNeg,Int.reduceToNat,reduceCtorEq]
        rw[dy,if_pos (by rw[hr,hpt,decide_eq_true h60]; rfl),zj hr hG hc]; rfl
  · simp (disch:=omega) only [↓wr,↓reduceIte,wq,ai,ah,ak,ae,af,ag,aj,isNil,Nat.reduceEqDiff,Nat.reduceAdd,Nat.reduceLT,Nat.reduceLeDiff,Int.reduceNeg,Int.reduceToNat,reduceCtorEq]
    exact (bad (by rw[hr]; simp)).symm
end Gv
set_option linter.unusedSimpArgs false
set_option maxRecDepth 100000
namespace Gv
open Go Go.Proofs
theorem qK:∀ (l:List aT) (acc:List Int),(l.foldl cH acc).length≤acc.length+l.length
  | [],acc=>by simp
  | r :: l,acc=>by
    have h1:=qK l (cH acc r)
    have h2:(cH acc r).length≤acc.length+1:=by unfold cH; split <;> simp
    simp only[List.foldl_cons,List.length_cons]
    omega
theorem Ha (p q:List Bool) (l:List aT):(bw p q l).length≤l.length:=by
  have h1:=qK (l.filter (bq p q)) []
  have h2:=List.length_filter_le (bq p q) l
  unfold bw
  simp only[List.length_nil] at h1
  omega
theorem IG {g:av} (hg:g.Ok) (p q:List Bool):(eO g (aW (bw p q g.rules)) p q).Ok:=by
  have ho:=Ha p q g.rules
  have h3:=hg.rules
  unfold aP at h3
  have hb:∀ x,bF (aW (bw p q g.rules) x):=fun x=>by
    have:=xO (bw p q g.rules) x
    unfold bF; omega
  have hb2:∀ x,bF (-1 - aW (bw p q g.rules) x):=fun x=>by
    have:=xO (bw p q g.rules) x
    unfold bF; omega
  refine ⟨hg.aC,?_,?_,hb _,hg.term,fun r hr=>?_⟩
  · unfold aP; simp only[eO,List.length_map]; omega
  · have:=List.length_filter_le (bq p q) g.rules
    unfold aP; simp only[eO,List.length_map]; omega
  · simp only[eO,List.mem_map,List.mem_filter] at hr
    obtain ⟨r0,⟨h0,_⟩,rfl⟩:=hr
    obtain ⟨_,i2,i3,i4⟩:=hg.bj r0 h0
    refine ⟨hb _,i2,by unfold aP at i3 ⊢; simpa [aZ] using i3,fun x hx=>?_⟩
    simp only[aZ,List.mem_map] at hx
    obtain ⟨s,hs,rfl⟩:=hx
    split
    · exact hb2 _
    · exact i4 s hs
section
variable {g r:av} {p q:List Bool} {o:List Int}
theorem dk.ok (h:dk g p q o r) (hg:g.Ok):r.Ok:=by
  have:=IG hg p q
  rw[← h.oe,← h.re] at this
  exact this
theorem dk.small (h:dk g p q o r) (hs:g.Small):r.Small:=by
  have:=sn h.nodup h.inside
  have:=hs.names
  exact ⟨by rw[h.len,h.aC]; omega⟩
end
end Gv
set_option linter.unusedSimpArgs false
set_option maxRecDepth 100000
namespace Gv
open Go Go.Proofs
noncomputable def preB (g:av) (w:List Int):Bool:=@decide (jm g w g.start 0) (Classical.propDecidable _)
theorem lL {g:av} {w:List Int} : preB g w=true↔jm g w g.start 0:=by
  unfold preB
  simp
noncomputable def bY (g:av) (w:List Int):Bool × Int:=if dw g w=true then (if (dp g).2.2=0 then preB (dp g).1 w else false,0) else (false,1)
def pB:SF:=⟨.seq (al [cE 2 0,aU 4 false,aH 5 0]) <|
  .seq (.seq (al [aM 9 4 2,aa 10 1,aG 11 34 [9,10],bL 12 11]) <|
  .cond (.tmp 12) (.seq (al [aU 4 false,aH 5 1]) <|
  .ret) (.skip)) <|
  .seq (al [aM 14 4 2,aG 15 43 [14],aa 13 15,bQ 16 0 13,bQ 17 1 13,bQ 18 2 13,((some 6),.op (.alloc [(.emp 1),(.emp 1),(.emp 1),(.val (.int .i64 0))])),(none,.op (.store 4 (.tmp 6) (.tmp 16))),aa 7 17,aa 8 18]) <|
  .seq (.seq (al [aa 19 8,ay 20 .neq 19 0]) <|
  .cond (.tmp 20) (.seq (al [aU 4 false,aH 5 0]) <|
  .ret) (.skip)) <|
  .seq (al [aM 21 4 6,aa 22 1,aG 23 35 [21,22],bA 24 23,ar 25 6 24,an 26 25,aa 27 1,aL 28 27,aN 29 1 26 28,an 30 29,aL 31 30,ay 32 .gtr 31 0,aa 4 32,aH 5 0]) <|
  .ret,
  [.tmp 4,.tmp 5],33⟩
theorem tH:aX Tryz.prog 20 [2]=some pB:=by kernel_rfl
set_option maxHeartbeats 4000000 in
theorem kU (g:av) (hg:g.Ok) (hs:g.Small) (w:List Int) (hw:aP w) (hn:∀ x∈w,bF x):aE Tryz.prog 20 [.agg (ao g),encI w] (dn (bY g w)):=by
  refine aE.tree (fW g w) (jQ _) fun H=>?_
  refine aD.of mixed tH ?_
  simp (disch:=omega) only [↓wr,↓reduceIte,wq,ai,ah,ak,ae,af,ag,aj,isNil,Nat.reduceEqDiff,Nat.reduceAdd,Nat.reduceLT,Nat.reduceLeDiff,Int.reduceNeg,Int.reduceToNat,reduceCtorEq,pB,ao,encS]
  have hcl:=A1 g hg hs w hw hn
  have hrd:=(En g hg hs).pure
  simp only[ao,encS] at hcl hrd
  refine az.pure hcl (by kernel_rfl) ?_
  simp (disch:=omega) only [↓wr,↓reduceIte,wq,ai,ah,ak,ae,af,ag,aj,isNil,Nat.reduceEqDiff,Nat.reduceAdd,Nat.reduceLT,Nat.reduceLeDiff,Int.reduceNeg,Int.reduceToNat,reduceCtorEq]
  refine aq.split (fun h=>?_) (fun h=>?_)
  · have hwb:=h
    simp only[dw,Bool.and_eq_true,decide_eq_true_eq] at hwb
    have hr:=hwb.1.1
    simp (disch:=omega) only [↓wr,↓reduceIte,wq,ai,ah,ak,ae,af,ag,aj,isNil,Nat.reduceEqDiff,Nat.reduceAdd,Nat.reduceLT,Nat.reduceLeDiff,Int.reduceNeg,Int.reduceToNat,reduceCtorEq]
    refine az.pure hrd (by kernel_rfl) ?_
    by_cases hp:(aw g true).getD g.start.toNat false=true
    · have hred:=Bq hr hp
      have he:dp g=(eO g (aW (bw (aw g true) (aQ g) g.rules)) (aw g true) (aQ g),bO (aw g true) (aQ g) g.rules 0,0):=by rw[fa hr,if_pos hp]
      have hA:bY g w=(preB (eO g (aW (bw (aw g true) (aQ g) g.rules)) (aw g true) (aQ g)) w,0):=by rw[bY,if_pos h,he]; rfl
      rw[hA,he]
      generalize eO g (aW (bw (aw g true) (aQ g) g.rules)) (aw g true) (aQ g)=r at hred
      have hrr:=hred.fB
      simp (disch:=omega) only [↓wr,↓reduceIte,wq,ai,ah,ak,ae,af,ag,aj,isNil,Nat.reduceEqDiff,Nat.reduceAdd,Nat.reduceLT,Nat.reduceLeDiff,Int.reduceNeg,Int.reduceToNat,reduceCtorEq,sg,ao,encS]
      intro b hb
      refine aq.ne (fun e=>absurd rfl e) (fun _=>?_)
      have hrd:=xW r (hred.ok hg) hrr (hred.small hs) w hwb.1.2 ((H.set b (.arr 4 [[.emp 1,.emp 1,.emp 1,gi 0]])).set b (.arr 4 [[.bc (r.aC.map ch),.bc (r.au.map fun s=>[gs s]),.bc (r.rules.map aJ),gi r.start]]))
      simp only[ao,encS] at hrd
      simp (disch:=omega) only [↓wr,↓reduceIte,wq,ai,ah,ak,ae,af,ag,aj,isNil,Nat.reduceEqDiff,Nat.reduceAdd,Nat.reduceLT,Nat.reduceLeDiff,Int.reduceNeg,Int.reduceToNat,reduceCtorEq]
      refine az.ez (hrd.mono ?_)
      rintro x H1 ⟨c,S,B,rfl,hC,hG,hc⟩
      obtain ⟨sid,mid,sv,hbox,hsets,ho⟩:=hC.set (a:=w.length) (by omega)
      have hps:w.length < w.length+1:=by omega
      simp (disch:=omega) only [↓wr,↓reduceIte,wq,ai,ah,ak,ae,af,ag,aj,isNil,Nat.reduceEqDiff,Nat.reduceAdd,Nat.reduceLT,Nat.reduceLeDiff,Int.reduceNeg,Int.reduceToNat,reduceCtorEq,hbox,encI,hsets,cY hps,ho.len]
      refine ⟨by omega,by simp,?_⟩
      have hv:decide (((S w.length).length:Int) > 0)=preB r w:=by
        have hiff:=DX hrr hc hG.sound hG.top
        rw[Bool.eq_iff_iff,lL,← hiff]
        simp only[decide_eq_true_eq]
        constructor
        · intro h0
          cases hS:S w.length with
          | nil=>rw[hS] at h0; simp at h0
          | cons x l=>exact ⟨x,by simp⟩
        · rintro ⟨x,hx⟩
          have:=List.length_pos_of_mem hx
          omega
      rw[← hv]; rfl
    · have he:dp g=(u6,[],9):=by rw[fa hr,if_neg hp]
      have hA:bY g w=(false,0):=by rw[bY,if_pos h,he]; rfl
      rw[hA,he]
      simp (disch:=omega) only [↓wr,↓reduceIte,wq,ai,ah,ak,ae,af,ag,aj,isNil,Nat.reduceEqDiff,Nat.reduceAdd,Nat.reduceLT,Nat.reduceLeDiff,Int.reduceNeg,Int.reduceToNat,reduceCtorEq,sg,ao,encS]
      intro b hb
      refine aq.ne (fun _=>?_) (fun e=>absurd e (by decide))
      simp (disch:=omega) only [↓wr,↓reduceIte,wq,ai,ah,ak,ae,af,ag,aj,isNil,Nat.reduceEqDiff,Nat.reduceAdd,Nat.reduceLT,Nat.reduceLeDiff,Int.reduceNeg,Int.reduceToNat,reduceCtorEq]
      rfl
  · simp (disch:=omega) only [↓wr,↓reduceIte,wq,ai,ah,ak,ae,af,ag,aj,isNil,Nat.reduceEqDiff,Nat.reduceAdd,Nat.reduceLT,Nat.reduceLeDiff,Int.reduceNeg,Int.reduceToNat,reduceCtorEq]
    rw[bY,h]; rfl
end Gv
set_option linter.unusedSimpArgs false
set_option maxRecDepth 100000
namespace Gv
open Go Go.Proofs
abbrev Pt:=List (List Bool)
def di (P:Pt) (n i:Nat):Bool:=(P.getD n []).getD i false
def kS (P:Pt) (N M:Nat):Prop:=P.length=N∧∀ r∈P,r.length=M
def uR (P:Pt):V:=.bc (P.map fun c=>[bk c])
theorem DK (P:Pt):Tree (uR P):=fX _ _ fun r _ v hv=>by simp at hv; subst hv; exact eQ r
theorem kS.row {P:Pt} {N M n:Nat} (h:kS P N M) (hn:n < N):∃ r,P[n]?=some r∧r.length=M∧P.getD n []=r:=by
  have hl:n < P.length:=by rw[h.1]; exact hn
  exact ⟨P[n],List.getElem?_eq_getElem hl,h.2 _ (List.getElem_mem hl),by simp[List.getD_eq_getElem?_getD,hl]⟩
def iv (P:Pt) (l:List Int) (now:List Bool) (i f a:Nat):Bool:=decide (f≤a) && now.getD a false && decide (l.getD i 0 < 0) && di P (-1 - l.getD i 0).toNat a
def rW (p:List Int) (T:Tb) (P:Pt) (l:List Int) (f i:Nat):Bool:=(dQ p T (l.take i) f).getD p.length false || (decide (i < l.length) && (List.range p.length).any fun a=>iv P l (dQ p T (l.take i) f) i f a)
def eJ (p:List Int) (T:Tb) (P:Pt) (l:List Int) (f:Nat):Bool:=(List.range (l.length+1)).any fun i=>rW p T P l f i
theorem any_succ (F:Nat→Bool) (n:Nat):(List.range (n+1)).any F=((List.range n).any F || F n):=by
  rw[List.range_succ,List.any_append]; simp
theorem zY {F:Nat→Bool} {n m:Nat} (h:(List.range n).any F=true) (hn:n≤m):(List.range m).any F=true:=by
  rw[List.any_eq_true] at h ⊢
  obtain ⟨x,hx,h2⟩:=h
  exact ⟨x,by simp at hx ⊢; omega,h2⟩
def kN:SC :=
  .seq (.seq (.region false [⟨none,[aa 33 11,aa 34 0,aL 35 34,bb 36 .lss 33 35,aa 37 36]⟩,⟨(some (37,true)),[aa 38 13,aa 39 1,aL 40 39,bb 41 .lss 38 40]⟩,⟨none,[br 42 37 41]⟩]) <|
  .cond (.tmp 42) (.skip) (.exit 2)) <|
  .seq (.block 3 (.seq (.region false [⟨none,[aa 45 12,aa 46 13,aN 47 1 45 46,an 48 47,aa 49 48]⟩,⟨(some (49,true)),[aa 50 0,aa 51 11,aN 52 1 50 51,an 53 52,ay 54 .lss 53 0]⟩,⟨none,[br 55 49 54,aa 56 55]⟩,⟨(some (56,true)),[aa 57 3,aa 58 0,aa 59 11,aN 60 1 58 59,an 61 60,((some 62),.op (.arith .sub (.val (.val (.int .i64 (-1)))) (.tmp 61))),aN 63 1 57 62,an 64 63,aa 65 13,aN 66 1 64 65,an 67 66]⟩,⟨none,[br 68 56 67]⟩]) <|
  .cond (.tmp 68) (.seq (al [aU 10 true]) <|
  .ret) (.skip))) <|
  al [aa 43 13,ay 44 .add 43 1,aa 13 44]
def kB:SC :=
  .seq (.seq (al [aa 14 11,aa 15 0,aL 16 15,bb 17 .leq 14 16]) <|
  .cond (.tmp 17) (.skip) (.exit 0)) <|
  .seq (.block 1 (.seq (al [aa 20 0,aa 21 11,((some 22),.op (.slice 1 (.tmp 20) none (some (.tmp 21)))),aa 23 1,aa 24 2,aa 25 4,aG 26 71 [22,23,24,25],aa 12 26]) <|
  .seq (.seq (al [aa 27 12,aa 28 1,aL 29 28,aN 30 1 27 29,an 31 30]) <|
  .cond (.tmp 31) (.seq (al [aU 10 true]) <|
  .ret) (.skip)) <|
  .seq (al [aa 32 4,aa 13 32]) <|
  .block 2 (.loop kN))) <|
  al [aa 18 11,ay 19 .add 18 1,aa 11 19]
def mW:SF:=⟨.seq (al [aU 10 false]) <|
  .seq (.seq (al [aH 11 0]) <|
  .block 0 (.loop kB)) <|
  .seq (al [aU 10 false]) <|
  .ret,
  [.tmp 10],69⟩
theorem qN:aX Tryz.prog 45 []=some mW:=by kernel_rfl
set_option maxHeartbeats 4000000 in
theorem H8 (l p:List Int) (T:Tb) (P:Pt) (f N:Nat) (hl:aP l) (hp:p.length≤1000) (hT:dz T N (p.length+1)) (hP:kS P N (p.length+1)) (hf:f≤p.length) (hn:∀ x∈l,bF x∧(x < 0→-1 - x < N)) :
    aE Tryz.prog 45 [encI l,encI p,eL T,uR P,gi f] (gb (eJ p T P l f)):=by
  unfold aP at hl
  refine aE.val (by
    intro v hv; simp at hv
    rcases hv with rfl | rfl | rfl | rfl | rfl
    · exact cz l
    · exact cz p
    · exact q8 T
    · exact DK P
    · exact .val _) fun H=>?_
  refine aD.of mixed qN ?_
  simp (disch:=omega) only [↓wr,↓reduceIte,wq,ai,ah,ak,ae,af,ag,aj,isNil,Nat.reduceEqDiff,Nat.reduceAdd,Nat.reduceLT,Nat.reduceLeDiff,Int.reduceNeg,Int.reduceToNat,reduceCtorEq,mW]
  refine bo.up (l.length+1) (fun i T' H'=>(List.range i).any (rW p T P l f)=false∧T' 0=encI l∧T' 1=encI p∧T' 2=eL T∧T' 3=uR P∧T' 4=gi f∧T' 11=gi i) ?_ ?_
  · exact ⟨by simp,rfl,rfl,rfl,rfl,rfl,rfl⟩
  rintro i k T' H' hk ⟨hany,t0,t1,t2,t3,t4,t11⟩
  simp (disch:=omega) only [↓wr,↓reduceIte,wq,ai,ah,ak,ae,af,ag,aj,isNil,Nat.reduceEqDiff,Nat.reduceAdd,Nat.reduceLT,Nat.reduceLeDiff,Int.reduceNeg,Int.reduceToNat,reduceCtorEq,kB,t0,t1,t2,t3,t4,t11,encI]
  refine aq.dec (fun hc=>?_) (fun hc=>?_)
  · have hst:=wQ (l:=l) (k:=i) (by omega)
    have hen:=(Dq (l.take i) p T f N (by unfold aP; simp; omega) hp hT hf (fun x hx=>hn x (List.mem_of_mem_take hx))).pure
    have hel:=tZ p T (l.take i) f
    have hrow:rW p T P l f i=((dQ p T (l.take i) f).getD p.length false || (decide (i < l.length) && (List.range p.length).any fun a=>iv P l (dQ p T (l.take i) f) i f a)):=rfl
    generalize dQ p T (l.take i) f=now at hen hel hrow
    simp (disch:=omega) only [↓wr,↓reduceIte,wq,ai,ah,ak,ae,af,ag,aj,isNil,Nat.reduceEqDiff,Nat.reduceAdd,Nat.reduceLT,Nat.reduceLeDiff,Int.reduceNeg,Int.reduceToNat,reduceCtorEq,t0,t1,t2,t3,t4,t11,encI,hst]
    refine az.pure hen (by kernel_rfl) ?_
    have hgn:now[p.length]?=some (now.getD p.length false):=by simp[List.getD_eq_getElem?_getD,show p.length < now.length by omega]
    simp (disch:=omega) only [↓wr,↓reduceIte,wq,ai,ah,ak,ae,af,ag,aj,isNil,Nat.reduceEqDiff,Nat.reduceAdd,Nat.reduceLT,Nat.reduceLeDiff,Int.reduceNeg,Int.reduceToNat,reduceCtorEq,bk,t1,encI,List.getElem?_map,hgn]
    refine aq.split (fun hb=>?_) (fun hb=>?_)
    · simp (disch:=omega) only [↓wr,↓reduceIte,wq,ai,ah,ak,ae,af,ag,aj,isNil,Nat.reduceEqDiff,Nat.reduceAdd,Nat.reduceLT,Nat.reduceLeDiff,Int.reduceNeg,Int.reduceToNat,reduceCtorEq]
      rw[eJ,zY (n:=i+1) (by rw[any_succ,hrow,hb]; simp) (by omega)]
    · simp (disch:=omega) only [↓wr,↓reduceIte,wq,ai,ah,ak,ae,af,ag,aj,isNil,Nat.reduceEqDiff,Nat.reduceAdd,Nat.reduceLT,Nat.reduceLeDiff,Int.reduceNeg,Int.reduceToNat,reduceCtorEq,t0,t1,t2,t3,t4,t11]
      refine bo.up (p.length+1 - f) (fun j T' H'=>f+j≤p.length∧(decide (i < l.length) && (List.range (f+j)).any fun a=>iv P l now i f a)=false∧T' 0=encI l∧T' 1=encI p∧T' 2=eL T∧T' 3=uR P∧T' 4=gi f∧T' 11=gi i∧T' 12=bk now∧T' 13=gi ((f+j:Nat):Int)) ?_ ?_
      · refine ⟨hf,?_,t0,t1,t2,t3,t4,t11,rfl,rfl⟩
        rw[Bool.and_eq_false_iff]
        right
        rw[List.any_eq_false]
        intro a ha
        simp at ha
        simp[iv,show ¬ f≤a by omega]
      rintro j m T' H' hm ⟨hfj,hcell,t0,t1,t2,t3,t4,t11,t12,t13⟩
      simp (disch:=omega) only [↓wr,↓reduceIte,wq,ai,ah,ak,ae,af,ag,aj,isNil,Nat.reduceEqDiff,Nat.reduceAdd,Nat.reduceLT,Nat.reduceLeDiff,Int.reduceNeg,Int.reduceToNat,reduceCtorEq,kN,t0,t1,t2,t3,t4,t11,t12,t13,encI]
      have hnext:(decide (i < l.length) && (List.range p.length).any fun a=>iv P l now i f a)=false→(List.range (i+1)).any (rW p T P l f)=false:=fun h=>by
        rw[any_succ,hany,hrow,hb,h]; rfl
      refine aq.dec (fun h1=>?_) (fun h1=>?_)
      · simp (disch:=omega) only [↓wr,↓reduceIte,wq,ai,ah,ak,ae,af,ag,aj,isNil,Nat.reduceEqDiff,Nat.reduceAdd,Nat.reduceLT,Nat.reduceLeDiff,Int.reduceNeg,Int.reduceToNat,reduceCtorEq,t0,t1,t2,t3,t4,t11,t12,t13,encI]
        refine aq.dec (fun h2=>?_) (fun h2=>?_)
        · have hga:now[f+j]?=some (now.getD (f+j) false):=by simp[List.getD_eq_getElem?_getD,show f+j < now.length by omega]
          have hcs:=any_succ (fun a=>iv P l now i f a) (f+j)
          rw[decide_eq_true (show i < l.length by omega),Bool.true_and] at hcell
          rw[hcell,Bool.false_or] at hcs
          have hcd:iv P l now i f (f+j)=(decide (f≤f+j) && now.getD (f+j) false && decide (l.getD i 0 < 0) && di P (-1 - l.getD i 0).toNat (f+j)):=rfl
          rw[decide_eq_true (show f≤f+j by omega),Bool.true_and] at hcd
          generalize now.getD (f+j) false=b1 at hga hcd
          have hgl:l[i]?=some (l.getD i 0):=by simp[List.getD_eq_getElem?_getD,show i < l.length by omega]
          have hsm:l.getD i 0∈l:=List.mem_of_getElem? hgl
          generalize l.getD i 0=s at hgl hcd hsm
          obtain ⟨⟨hs1,hs2⟩,hs3⟩:=hn s hsm
          have hgo:iv P l now i f (f+j)=false→(decide (i < l.length) && (List.range (f+(j+1))).any fun a=>iv P l now i f a)=false:=fun h=>by
            rw[show f+(j+1)=f+j+1 by omega,hcs,h]; simp
          simp (disch:=omega) only [↓wr,↓reduceIte,wq,ai,ah,ak,ae,af,ag,aj,isNil,Nat.reduceEqDiff,Nat.reduceAdd,Nat.reduceLT,Nat.reduceLeDiff,Int.reduceNeg,Int.reduceToNat,reduceCtorEq,t0,t1,t2,t3,t4,t11,t12,t13,bk,List.getElem?_map,hga]
          refine aq.split (fun hb1=>?_) (fun hb1=>?_)
          · subst hb1
            simp (disch:=omega) only [↓wr,↓reduceIte,wq,ai,ah,ak,ae,af,ag,aj,isNil,Nat.reduceEqDiff,Nat.reduceAdd,Nat.reduceLT,Nat.reduceLeDiff,Int.reduceNeg,Int.reduceToNat,reduceCtorEq,t0,t1,t2,t3,t4,t11,t12,t13,encI,List.getElem?_map,hgl]
            refine aq.dec (fun h3=>?_) (fun h3=>?_)
            · have hs4:=hs3 h3
              obtain ⟨row,hr1,hr2,hr3⟩:=hP.row (n:=(-1 - s).toNat) (by omega)
              have hpt:row[f+j]?=some (di P (-1 - s).toNat (f+j)):=by rw[di,hr3]; simp[List.getD_eq_getElem?_getD,show f+j < row.length by omega]
              generalize di P (-1 - s).toNat (f+j)=b2 at hpt hcd
              simp (disch:=omega) only [↓wr,↓reduceIte,wq,ai,ah,ak,ae,af,ag,aj,isNil,Nat.reduceEqDiff,Nat.reduceAdd,Nat.reduceLT,Nat.reduceLeDiff,Int.reduceNeg,Int.reduceToNat,reduceCtorEq,t0,t1,t2,t3,t4,t11,t12,t13,encI,uR,bk,List.getElem?_map,hgl,hr1,hpt]
              refine aq.split (fun hb2=>?_) (fun hb2=>?_)
              · subst hb2
                simp (disch:=omega) only [↓wr,↓reduceIte,wq,ai,ah,ak,ae,af,ag,aj,isNil,Nat.reduceEqDiff,Nat.reduceAdd,Nat.reduceLT,Nat.reduceLeDiff,Int.reduceNeg,Int.reduceToNat,reduceCtorEq]
                rw[eJ,zY (n:=i+1) ?_ (by omega)]
                have hA:((List.range p.length).any fun a=>iv P l now i f a)=true:=zY (n:=f+j+1) (by rw[hcs,hcd,decide_eq_true h3]; rfl) (by omega)
                rw[any_succ,hrow,decide_eq_true (show i < l.length by omega),hA]; simp
              · subst hb2
                simp (disch:=omega) only [↓wr,↓reduceIte,wq,ai,ah,ak,ae,af,ag,aj,isNil,Nat.reduceEqDiff,Nat.reduceAdd,Nat.reduceLT,Nat.reduceLeDiff,Int.reduceNeg,Int.reduceToNat,reduceCtorEq,t13]
                exact aV hm (by omega) ⟨by omega,hgo (by rw[hcd]; simp),t0,t1,t2,t3,t4,t11,t12,rfl⟩
            · simp (disch:=omega) only [↓wr,↓reduceIte,wq,ai,ah,ak,ae,af,ag,aj,isNil,Nat.reduceEqDiff,Nat.reduceAdd,Nat.reduceLT,Nat.reduceLeDiff,Int.reduceNeg,Int.reduceToNat,reduceCtorEq,t13]
              exact aV hm (by omega) ⟨by omega,hgo (by rw[hcd,decide_eq_false h3]; simp),t0,t1,t2,t3,t4,t11,t12,rfl⟩
          · subst hb1
            simp (disch:=omega) only [↓wr,↓reduceIte,wq,ai,ah,ak,ae,af,ag,aj,isNil,Nat.reduceEqDiff,Nat.reduceAdd,Nat.reduceLT,Nat.reduceLeDiff,Int.reduceNeg,Int.reduceToNat,reduceCtorEq,t13]
            exact aV hm (by omega) ⟨by omega,hgo (by rw[hcd]; simp),t0,t1,t2,t3,t4,t11,t12,rfl⟩
        · have hfp:f+j=p.length:=by omega
          rw[hfp] at hcell
          simp (disch:=omega) only [↓wr,↓reduceIte,wq,ai,ah,ak,ae,af,ag,aj,isNil,Nat.reduceEqDiff,Nat.reduceAdd,Nat.reduceLT,Nat.reduceLeDiff,Int.reduceNeg,Int.reduceToNat,reduceCtorEq,t11]
          exact aV hk (by omega) ⟨hnext hcell,t0,t1,t2,t3,t4,rfl⟩
      · simp (disch:=omega) only [↓wr,↓reduceIte,wq,ai,ah,ak,ae,af,ag,aj,isNil,Nat.reduceEqDiff,Nat.reduceAdd,Nat.reduceLT,Nat.reduceLeDiff,Int.reduceNeg,Int.reduceToNat,reduceCtorEq,t11]
        exact aV hk (by omega) ⟨hnext (by rw[decide_eq_false (show ¬ i < l.length by omega)]; rfl),t0,t1,t2,t3,t4,rfl⟩
  · simp (disch:=omega) only [↓wr,↓reduceIte,wq,ai,ah,ak,ae,af,ag,aj,isNil,Nat.reduceEqDiff,Nat.reduceAdd,Nat.reduceLT,Nat.reduceLeDiff,Int.reduceNeg,Int.reduceToNat,reduceCtorEq]
    have:i=l.length+1:=by omega
    subst this
    rw[eJ,hany]
end Gv
set_option linter.unusedSimpArgs false
set_option maxRecDepth 100000
namespace Gv
open Go Go.Proofs
theorem ET {g:av} {p:List Int} {n i j:Nat} (h:c8 (fy g p) n i j=true):Sp g p [-1 - (n:Int)] i j:=by
  by_cases hn:n < g.au.length
  · by_cases hi:i≤p.length
    · by_cases hj:j≤p.length
      · exact (xI hn hi hj).1 h
      · simp[c8,fy,List.getD_eq_getElem?_getD,hn,show i < p.length+1 by omega,show ¬ j < p.length+1 by omega] at h
    · simp[c8,fy,List.getD_eq_getElem?_getD,hn,show ¬ i < p.length+1 by omega] at h
  · simp[c8,fy,List.getD_eq_getElem?_getD,hn] at h
theorem rK {g:av} (hr:aR g=true) {p l:List Int} {f j:Nat} (hf:f≤p.length) (hj:j≤p.length):(dQ p (fy g p) l f).getD j false=true↔Sp g p l f j:=by
  have hF:=aO hr
  rw[oo hf hj]
  constructor
  · exact zN fun n i j h=>ET h.2
  · intro h
    refine zX (fun r hr=>(hF.left r hr).1) (fun R hR i j hi hin=>?_) h hf
    have hs:Sp g p R.right i j:=zN (fun n i j h=>ET h.2) hin
    have hl:=hF.left R hR
    refine ⟨hs.le,(xI (by omega) hi (hs.len hi)).2 ?_⟩
    exact .ca _ _ R i j j (by omega) hR (by omega) hs (.nil _)
theorem td {g:av} (hr:aR g=true) {p l:List Int} {P:Pt} {f:Nat} (hf:f≤p.length):eJ p (fy g p) P l f=true ↔
    (∃ l1 l2,l=l1 ++ l2∧Sp g p l1 f p.length)∨(∃ l1 l2 s a,l=l1 ++ s :: l2∧s < 0∧Sp g p l1 f a∧a < p.length∧di P (-1 - s).toNat a=true):=by
  unfold eJ
  rw[List.any_eq_true]
  constructor
  · rintro ⟨i,hi,h⟩
    simp only[rW,Bool.or_eq_true,Bool.and_eq_true,decide_eq_true_eq,List.any_eq_true] at h
    rcases h with h | ⟨hil,a,ha,h⟩
    · exact .inl ⟨l.take i,l.drop i,by simp,(rK hr hf (Nat.le_refl _)).1 h⟩
    · simp at ha
      simp only[iv,Bool.and_eq_true,decide_eq_true_eq] at h
      obtain ⟨⟨⟨h1,h2⟩,h3⟩,h4⟩:=h
      have hgl:l[i]?=some (l.getD i 0):=by simp[List.getD_eq_getElem?_getD,hil]
      exact .inr ⟨l.take i,l.drop (i+1),l.getD i 0,a,CO hgl,h3,(rK hr hf (by omega)).1 h2,ha,h4⟩
  · rintro (⟨l1,l2,rfl,h⟩ | ⟨l1,l2,s,a,rfl,h0,h1,h2,h3⟩)
    · refine ⟨l1.length,by simp; omega,?_⟩
      simp only[rW,Bool.or_eq_true]
      left
      rw[List.take_left]
      exact (rK hr hf (Nat.le_refl _)).2 h
    · refine ⟨l1.length,by simp; omega,?_⟩
      simp only[rW,Bool.or_eq_true,Bool.and_eq_true,decide_eq_true_eq,List.any_eq_true]
      right
      refine ⟨by simp,a,by simpa using h2,?_⟩
      have e:(l1 ++ s :: l2).getD l1.length 0=s:=by simp[List.getD_eq_getElem?_getD]
      simp only[iv,e,Bool.and_eq_true,decide_eq_true_eq]
      rw[List.take_left]
      exact ⟨⟨⟨h1.le,(rK hr hf (by omega)).2 h1⟩,h0⟩,h3⟩
theorem GH {g:av} (hr:aR g=true) {p:List Int} {P:Pt} {f:Nat} (hf:f≤p.length) {R:aT} (hR:R∈g.rules) (hP:∀ n i,di P n i=true→jm g p n i) (h:eJ p (fy g p) P R.right f=true):jm g p R.left f:=by
  rcases (td hr hf).1 h with ⟨l1,l2,e,h⟩ | ⟨l1,l2,s,a,e,h0,h1,h2,h3⟩
  · exact .full R l1 l2 f hR e h
  · refine .deep R l1 l2 s f a hR e h0 h1 h2 ?_
    have:=hP _ _ h3
    rwa [show (((-1 - s).toNat:Nat):Int) = -1 - s by omega] at this
theorem Gu {g:av} (hr:aR g=true) {p:List Int} {P:Pt} (hc:∀ R∈g.rules,∀ f,f≤p.length→eJ p (fy g p) P R.right f=true→di P R.left.toNat f=true) {n:Int} {f:Nat} (h:jm g p n f):f≤p.length→di P n.toNat f=true:=by
  induction h with
  | full R l1 l2 f hR e h=>exact fun hf=>hc R hR f hf ((td hr hf).2 (.inl ⟨l1,l2,e,h⟩))
  | deep R l1 l2 s f a hR e h0 h1 h2 _ ih=>exact fun hf=>hc R hR f hf ((td hr hf).2 (.inr ⟨l1,l2,s,a,e,h0,h1,h2,ih (by omega)⟩))
structure iC (H:View) (I N M:Nat) (R:Nat→Nat) (P:Pt):Prop where
  top:H I=.arr 1 ((List.range N).map fun n=>[.sl (R n) 0 M 1])
  row:∀ n,n < N→H (R n)=.arr 1 (bB (P.getD n []))
  inj:∀ n n',n < N→n' < N→R n=R n'→n=n'
structure xV (H:View) (I N M k:Nat) (R:Nat→Nat):Prop where
  top:H I=.arr 1 ((List.range N).map fun n=>[if n < k then .sl (R n) 0 M 1 else .emp 1])
  row:∀ n,n < k→H (R n)=.arr 1 (List.replicate M [gb false])
  inj:∀ n n',n < k→n' < k→R n=R n'→n=n'
def uq (N M:Nat):Pt:=List.replicate N (List.replicate M false)
def iw (P:Pt) (n i:Nat):Pt:=P.set n ((P.getD n []).set i true)
theorem CI (N M:Nat):kS (uq N M) N M:=by
  refine ⟨by simp[uq],fun r hr=>?_⟩
  simp only[uq,List.mem_replicate] at hr
  rw[hr.2]; simp
theorem H6 (N M n i:Nat):di (uq N M) n i=false:=by
  by_cases hn:n < N <;> by_cases hi:i < M <;> simp[di,uq,List.getD_eq_getElem?_getD,hn,hi]
theorem GG {P:Pt} {N M n i:Nat} (h:kS P N M) (hn:n < N):kS (iw P n i) N M:=by
  obtain ⟨r,h1,h2,h3⟩:=h.row hn
  refine ⟨by simp[iw,h.1],fun c hc=>?_⟩
  rcases List.mem_or_eq_of_mem_set hc with hc | rfl
  · exact h.2 c hc
  · rw[h3]; simp[h2]
theorem GR {P:Pt} {N M n i n' i':Nat} (h:kS P N M) (hn:n < N) (hi:i < M):di (iw P n i) n' i'=if n'=n∧i'=i then true else di P n' i':=by
  obtain ⟨r,h1,h2,h3⟩:=h.row hn
  have hnl:n < P.length:=by rw[h.1]; exact hn
  by_cases e:n'=n
  · subst e
    have e1:(iw P n' i).getD n' []=r.set i true:=by
      rw[iw,h3]
      simp[List.getD_eq_getElem?_getD,hnl]
    rw[di,e1,di,h3]
    by_cases e2:i'=i
    · subst e2
      simp[List.getD_eq_getElem?_getD,show i' < r.length by omega]
    · simp[List.getD_eq_getElem?_getD,List.getElem?_set,e2,Ne.symm e2]
  · have e1:(iw P n i).getD n' []=P.getD n' []:=by simp[iw,List.getD_eq_getElem?_getD,List.getElem?_set,Ne.symm e]
    rw[di,e1,if_neg (by omega)]; rfl
theorem xX {P:Pt} {N M:Nat} (h:kS P N M):gE P≤N * M:=by
  have:=w5 (P.map bX) M (fun y hy=>by
    obtain ⟨c,hc,rfl⟩:=List.mem_map.1 hy
    rw[← h.2 c hc]; exact oH c)
  rw[List.length_map,h.1] at this
  exact this
theorem GY {P:Pt} {N M n i:Nat} (h:kS P N M) (hn:n < N) (hi:i < M) (hf:di P n i=false):gE (iw P n i)=gE P+1:=by
  obtain ⟨r,h1,h2,h3⟩:=h.row hn
  have hnl:n < P.length:=by rw[h.1]; exact hn
  have hPn:P[n]=r:=(List.getElem?_eq_some_iff.1 h1).2
  have k1:bX (r.set i true)=bX r+1:=tz r i (by omega) (by rw[← h3]; exact hf)
  have:=uz (P.map bX) n (bX (r.set i true)) (by simpa using hnl)
  unfold gE iw
  rw[h3,List.map_set]
  simp only[List.getElem_map,hPn] at this
  omega
theorem iC.Kh {H:View} {I N M:Nat} {R:Nat→Nat} {P:Pt} (h:iC H I N M R P) (hP:kS P N M) (hM:0 < M) {n:Nat} (hn:n < N):I≠R n:=fun e=>by
  have h1:=h.row n hn
  obtain ⟨r,_,h2,h3⟩:=hP.row hn
  rw[← e,h.top,h3] at h1
  simp only[bE.arr.injEq,true_and] at h1
  exact vA (by omega) h1.symm fun _ _=>by simp
theorem iC.keep {H H':View} {I N M:Nat} {R:Nat→Nat} {P:Pt} (h:iC H I N M R P) (hk:∀ id,H id≠.dead→H' id=H id):iC H' I N M R P :=
  ⟨by rw[hk _ (by rw[h.top]; simp)]; exact h.top,fun n hn=>by rw[hk _ (by rw[h.row n hn]; simp)]; exact h.row n hn,h.inj⟩
theorem iC.put {H:View} {I N M:Nat} {R:Nat→Nat} {P:Pt} (h:iC H I N M R P) (hP:kS P N M) {n i:Nat} (hn:n < N) (hi:i < M) :
    iC (H.set (R n) (.arr 1 (bB ((P.getD n []).set i true)))) I N M R (iw P n i):=by
  have hI:=h.Kh hP (by omega) hn
  have hnl:n < P.length:=by rw[hP.1]; exact hn
  refine ⟨by simp only[View.set,if_neg hI]; exact h.top,fun m hm=>?_,h.inj⟩
  by_cases e:R m=R n
  · have:=h.inj m n hm hn e
    subst this
    simp only[View.set,if_true]
    congr 2
    simp[iw,List.getD_eq_getElem?_getD,hnl]
  · simp only[View.set,if_neg e]
    rw[h.row m hm]
    congr 2
    have:n≠m:=fun e2=>e (by rw[e2])
    simp[iw,List.getD_eq_getElem?_getD,List.getElem?_set,this]
theorem iC.HD {H:View} {I N M:Nat} {R:Nat→Nat} {P:Pt} (hG:iC H I N M R P) (hP:kS P N M):bW H (.sl I 0 N 1) (uR P):=by
  rintro h rfl
  refine dW.Jv ?_
  refine .sl I 0 N 1 1 _ _ hG.top (by simp) (by simp[hP.1]) (fun n hn=>?_) (fun n j hn hj=>?_)
  · obtain ⟨r,hr,_⟩:=hP.row hn
    simp[List.getD_eq_getElem?_getD,hr,hn]
  · obtain ⟨r,hr,hrl,hrg⟩:=hP.row hn
    have e1:((P.map fun c=>[bk c]).getD n [])=[bk r]:=by simp[List.getD_eq_getElem?_getD,hr]
    have e2:(((List.range N).map fun n=>[V.sl (R n) 0 M 1]).getD (0+n) [])=[V.sl (R n) 0 M 1]:=by simp[List.getD_eq_getElem?_getD,hn]
    rw[e1] at hj ⊢
    rw[e2]
    have:j=0:=by simp at hj; omega
    subst this
    simp only[List.getD_cons_zero]
    have hro:=hG.row n hn
    rw[hrg] at hro
    have:=jT (h:=h) (id:=R n) (is:=r) hro
    rwa [hrl] at this
theorem xV.done {H:View} {I N M:Nat} {R:Nat→Nat} (h:xV H I N M N R):iC H I N M R (uq N M):=by
  refine ⟨?_,fun n hn=>?_,h.inj⟩
  · rw[h.top]
    congr 1
    apply List.map_congr_left
    intro n hn
    rw[if_pos (by simpa using hn)]
  · rw[h.row n hn]
    simp[uq,List.getD_eq_getElem?_getD,hn]
theorem xV.next {H:View} {I N M k:Nat} {R:Nat→Nat} {r:Nat} (h:xV H I N M k R) (hk:k < N) (hr:H r=.dead) :
    xV ((H.set r (.arr 1 (List.replicate M [gb false]))).set I (.arr 1 ((List.range N).map fun n=>[if n < k+1 then .sl (if n=k then r else R n) 0 M 1 else .emp 1]))) I N M (k+1) (fun n=>if n=k then r else R n):=by
  have hI:r≠I:=by rintro rfl; rw[h.top] at hr; simp at hr
  have hRI:∀ n,n < k→R n≠I:=fun n hn e=>by
    have h1:=h.row n hn
    rw[e,h.top] at h1
    simp only[bE.arr.injEq,true_and] at h1
    have h2:=congrArg (·[0]?) h1
    simp only[List.getElem?_map,List.getElem?_range (show 0 < N by omega),List.getElem?_replicate] at h2
    split at h2 <;> simp at h2
    split at h2 <;> simp at h2
  have hRr:∀ n,n < k→R n≠r:=fun n hn e=>by have:=h.row n hn; rw[e,hr] at this; simp at this
  refine ⟨by simp[View.set],fun n hn=>?_,fun n n' hn hn' e=>?_⟩
  · by_cases e:n=k
    · simp only[if_pos e,View.set,if_neg hI,if_true]
    · simp only[if_neg e,View.set,if_neg (hRI n (by omega)),if_neg (hRr n (by omega))]
      exact h.row n (by omega)
  · by_cases e1:n=k
    · by_cases e2:n'=k
      · omega
      · simp only[if_pos e1,if_neg e2] at e
        exact absurd e.symm (hRr n' (by omega))
    · by_cases e2:n'=k
      · simp only[if_neg e1,if_pos e2] at e
        exact absurd e (hRr n (by omega))
      · simp only[if_neg e1,if_neg e2] at e
        exact h.inj n n' (by omega) (by omega) e
end Gv
set_option linter.unusedSimpArgs false
set_option maxRecDepth 100000
namespace Gv
open Go Go.Proofs
def Jk (g:av) (p:List Int) (I:Nat) (R:Nat→Nat) (P0:Pt) (D:Prop) (bh:Nat) (T:Env) (H:View):Prop :=
  ∃ P1,iC H I g.au.length (p.length+1) R P1∧kS P1 g.au.length (p.length+1)∧(∀ n i,di P1 n i=true→jm g p (n:Int) i) ∧
    ((T 12=gb false∧P1=P0∧D)∨(T 12=gb true∧gE P0 < gE P1))∧T 1=encI p∧T 6=.ptr bh 0 0∧T 9=eL (fy g p)∧T 10=.sl I 0 g.au.length 1∧H bh=.arr 4 [ao g]
def jk:SC :=
  .seq (.seq (al [aa 35 11,aa 36 10,aL 37 36,bb 38 .lss 35 37]) <|
  .cond (.tmp 38) (.skip) (.exit 0)) <|
  .seq (.block 1 (al [aa 41 10,aa 42 11,aa 43 1,aL 44 43,ay 45 .add 44 1,((some 46),.op (.make 1 1 [(.val (.bool false))] (.tmp 45) (.tmp 45))),aN 47 1 41 42,(none,.op (.store 1 (.tmp 47) (.tmp 46)))])) <|
  al [aa 39 11,ay 40 .add 39 1,aa 11 40]
def iY:SC :=
  .seq (.seq (al [aa 61 15,aa 62 1,aL 63 62,bb 64 .leq 61 63]) <|
  .cond (.tmp 64) (.skip) (.exit 6)) <|
  .seq (.block 7 (.seq (.region false [⟨none,[aa 67 10,ar 68 0 14,an 69 68,aN 70 1 67 69,an 71 70,aa 72 15,aN 73 1 71 72,an 74 73,bL 75 74,aa 76 75]⟩,⟨(some (76,true)),[ar 77 1 14,an 78 77,aa 79 1,aa 80 9,aa 81 10,aa 82 15,aG 83 45 [78,79,80,81,82]]⟩,⟨none,[br 84 76 83]⟩]) <|
  .cond (.tmp 84) (.seq (al [aa 85 10,ar 86 0 14,an 87 86,aN 88 1 85 87,an 89 88,aa 90 15,aN 91 1 89 90,(none,.op (.store 1 (.tmp 91) (.val (.val (.bool true)))))]) <|
  al [aU 12 true]) (.skip))) <|
  al [aa 65 15,ay 66 .add 65 1,aa 15 66]
def jf:SC :=
  .seq (.seq (al [aa 49 13,ar 50 2 6,an 51 50,aL 52 51,bb 53 .lss 49 52]) <|
  .cond (.tmp 53) (.skip) (.exit 4)) <|
  .seq (.block 5 (.seq (al [ar 56 2 6,an 57 56,aa 58 13,aN 59 3 57 58,aM 60 3 59,((some 14),.op (.alloc [(.val (.int .i64 0)),(.emp 1),(.val (.int .i64 0))])),(none,.op (.store 3 (.tmp 14) (.tmp 60)))]) <|
  .seq (al [aH 15 0]) <|
  .block 6 (.loop iY))) <|
  al [aa 54 13,ay 55 .add 54 1,aa 13 55]
def fD:SC :=
  .seq (.seq (al [aa 48 12]) <|
  .cond (.tmp 48) (.skip) (.exit 2)) <|
  .block 3 (.seq (al [aU 12 false]) <|
  .seq (al [aH 13 0]) <|
  .block 4 (.loop jf))
def kQ:SF:=⟨.seq (al [cE 2 0,aU 4 false,aH 5 0]) <|
  .seq (.seq (al [aM 16 4 2,aa 17 1,aG 18 37 [16,17],bL 19 18]) <|
  .cond (.tmp 19) (.seq (al [aU 4 false,aH 5 1]) <|
  .ret) (.skip)) <|
  .seq (al [aM 21 4 2,aG 22 44 [21],aa 20 22,bQ 23 0 20,bQ 24 1 20,bQ 25 2 20,((some 6),.op (.alloc [(.emp 1),(.emp 1),(.emp 1),(.val (.int .i64 0))])),(none,.op (.store 4 (.tmp 6) (.tmp 23))),aa 7 24,aa 8 25]) <|
  .seq (.seq (al [aa 26 8,ay 27 .neq 26 0]) <|
  .cond (.tmp 27) (.seq (al [aU 4 false,aH 5 0]) <|
  .ret) (.skip)) <|
  .seq (al [aM 28 4 6,aa 29 1,aG 30 42 [28,29],aa 9 30]) <|
  .seq (al [ar 31 1 6,an 32 31,aL 33 32,((some 34),.op (.make 1 24 [(.emp 1)] (.tmp 33) (.tmp 33))),aa 10 34]) <|
  .seq (.seq (al [aH 11 0]) <|
  .block 0 (.loop jk)) <|
  .seq (al [aU 12 true]) <|
  .seq (.block 2 (.loop fD)) <|
  .seq (al [aa 92 10,ar 93 3 6,an 94 93,aN 95 1 92 94,an 96 95,((some 97),.op (.idx 1 (.tmp 96) (.val (.val (.int .i64 0))))),an 98 97,aa 4 98,aH 5 0]) <|
  .ret,
  [.tmp 4,.tmp 5],99⟩
theorem oZ:aX Tryz.prog 21 [2]=some kQ:=by kernel_rfl
set_option maxHeartbeats 8000000 in
theorem B6 (g:av) (hg:g.Ok) (w:List Int) (hw:aP w) (hn:∀ x∈w,bF x):aE Tryz.prog 21 [.agg (ao g),encI w] (dn (bY g w)):=by
  refine aE.tree (fW g w) (jQ _) fun H=>?_
  refine aD.of mixed oZ ?_
  simp (disch:=omega) only [↓wr,↓reduceIte,wq,ai,ah,ak,ae,af,ag,aj,isNil,Nat.reduceEqDiff,Nat.reduceAdd,Nat.reduceLT,Nat.reduceLeDiff,Int.reduceNeg,Int.reduceToNat,reduceCtorEq,kQ,ao,encS]
  have hcl:=yJ g hg w hw hn
  have hrd:=(B0 g hg).pure
  simp only[ao,encS] at hcl hrd
  refine az.pure hcl (by kernel_rfl) ?_
  simp (disch:=omega) only [↓wr,↓reduceIte,wq,ai,ah,ak,ae,af,ag,aj,isNil,Nat.reduceEqDiff,Nat.reduceAdd,Nat.reduceLT,Nat.reduceLeDiff,Int.reduceNeg,Int.reduceToNat,reduceCtorEq]
  refine aq.split (fun h=>?_) (fun h=>?_)
  · have hwb:=h
    simp only[dw,Bool.and_eq_true,decide_eq_true_eq] at hwb
    have hr:=hwb.1.1
    have h60:=hwb.1.2
    simp (disch:=omega) only [↓wr,↓reduceIte,wq,ai,ah,ak,ae,af,ag,aj,isNil,Nat.reduceEqDiff,Nat.reduceAdd,Nat.reduceLT,Nat.reduceLeDiff,Int.reduceNeg,Int.reduceToNat,reduceCtorEq]
    refine az.pure hrd (by kernel_rfl) ?_
    by_cases hp:(aw g true).getD g.start.toNat false=true
    · have hred:=Bq hr hp
      have he:dp g=(eO g (aW (bw (aw g true) (aQ g) g.rules)) (aw g true) (aQ g),bO (aw g true) (aQ g) g.rules 0,0):=by rw[fa hr,if_pos hp]
      have hA:bY g w=(preB (eO g (aW (bw (aw g true) (aQ g) g.rules)) (aw g true) (aQ g)) w,0):=by rw[bY,if_pos h,he]; rfl
      rw[hA,he]
      generalize eO g (aW (bw (aw g true) (aQ g) g.rules)) (aw g true) (aQ g)=r at hred
      have hrr:=hred.fB
      have hrf:=aO hrr
      have z1:=hrf.nN
      have z2:=hrf.au
      have z3:=hrf.rules
      have hrok:=hred.ok hg
      simp (disch:=omega) only [↓wr,↓reduceIte,wq,ai,ah,ak,ae,af,ag,aj,isNil,Nat.reduceEqDiff,Nat.reduceAdd,Nat.reduceLT,Nat.reduceLeDiff,Int.reduceNeg,Int.reduceToNat,reduceCtorEq,sg,ao,encS]
      intro b hb
      refine aq.ne (fun e=>absurd rfl e) (fun _=>?_)
      have hof:=(HV r hrok hrf w (by omega)).pure
      simp only[ao,encS] at hof
      simp (disch:=omega) only [↓wr,↓reduceIte,wq,ai,ah,ak,ae,af,ag,aj,isNil,Nat.reduceEqDiff,Nat.reduceAdd,Nat.reduceLT,Nat.reduceLeDiff,Int.reduceNeg,Int.reduceToNat,reduceCtorEq]
      refine az.pure hof (by kernel_rfl) ?_
      rw[set_set]
      simp (disch:=omega) only [↓wr,↓reduceIte,wq,ai,ah,ak,ae,af,ag,aj,isNil,Nat.reduceEqDiff,Nat.reduceAdd,Nat.reduceLT,Nat.reduceLeDiff,Int.reduceNeg,Int.reduceToNat,reduceCtorEq,eL,encS]
      refine ⟨⟨by omega,by unfold aI; omega,by unfold aI; omega⟩,fun h=>by omega,?_⟩
      intro _ I hI
      obtain ⟨hIb,hI⟩:=bJ hI (by simp)
      have hM:((w.length:Int)+1).toNat=w.length+1:=by omega
      refine bo.up r.au.length (fun k T' H'=>(∃ R,xV H' I r.au.length (w.length+1) k R)∧H' b=.arr 4 [ao r]∧T' 1=encI w∧T' 6=.ptr b 0 0∧T' 9=eL (fy r w)∧T' 10=.sl I 0 r.au.length 1∧T' 11=gi k) ?_ ?_
      · refine ⟨⟨fun _=>0,⟨?_,fun n hn=>by omega,fun n n' hn=>by omega⟩⟩,?_,rfl,rfl,rfl,rfl,rfl⟩
        · simp[View.set]
          apply List.ext_getElem (by simp)
          intro n h1 h2
          simp
        · simp[View.set,Ne.symm hIb,ao,encS]
      clear hI hb hIb
      rintro k m T' H hk ⟨⟨R,hB⟩,hbx,t1,t6,t9,t10,t11⟩
      simp (disch:=omega) only [↓wr,↓reduceIte,wq,ai,ah,ak,ae,af,ag,aj,isNil,Nat.reduceEqDiff,Nat.reduceAdd,Nat.reduceLT,Nat.reduceLeDiff,Int.reduceNeg,Int.reduceToNat,reduceCtorEq,jk,t1,t6,t9,t10,t11]
      refine aq.dec (fun hc=>?_) (fun hc=>?_)
      · have ht:=hB.top
        simp (disch:=omega) only [↓wr,↓reduceIte,wq,ai,ah,ak,ae,af,ag,aj,isNil,Nat.reduceEqDiff,Nat.reduceAdd,Nat.reduceLT,Nat.reduceLeDiff,Int.reduceNeg,Int.reduceToNat,reduceCtorEq,t1,t6,t9,t10,t11,encI,ht]
        refine ⟨⟨by omega,by unfold aI; omega,by unfold aI; omega⟩,fun h=>by omega,?_⟩
        intro _ d hd
        have hId:I≠d:=by rintro rfl; rw[ht] at hd; simp at hd
        try simp (disch:=omega) only [↓wr,↓reduceIte,wq,ai,ah,ak,ae,af,ag,aj,isNil,Nat.reduceEqDiff,Nat.reduceAdd,Nat.reduceLT,Nat.reduceLeDiff,Int.reduceNeg,Int.reduceToNat,reduceCtorEq,t1,t6,t9,t10,t11,encI,ht,hM,hId]
        refine ⟨by omega,by simp; omega,?_⟩
        try simp (disch:=omega) only [↓wr,↓reduceIte,wq,ai,ah,ak,ae,af,ag,aj,isNil,Nat.reduceEqDiff,Nat.reduceAdd,Nat.reduceLT,Nat.reduceLeDiff,Int.reduceNeg,Int.reduceToNat,reduceCtorEq,t1,t6,t9,t10,t11,encI,ht,hM,hId]
        have hdb:b≠d:=by rintro rfl; rw[hbx] at hd; simp at hd
        have hbI:b≠I:=by rintro rfl; rw[hbx] at ht; simp at ht
        have hnx:=hB.next (r:=d) (by omega) hd
        have hset:((List.range r.au.length).map fun n=>[if n < k then V.sl (R n) 0 (w.length+1) 1 else V.emp 1]).set k (V.sl d 0 (w.length+1) 1 :: List.drop 1 (((List.range r.au.length).map fun n=>[if n < k then V.sl (R n) 0 (w.length+1) 1 else V.emp 1]).getD k []))=(List.range r.au.length).map fun n=>[if n < k+1 then .sl (if n=k then d else R n) 0 (w.length+1) 1 else .emp 1]:=by
          rw[cY (by omega),uP]
          apply List.map_congr_left
          intro n _
          by_cases e1:n=k
          · subst e1; simp
          · by_cases e2:n < k
            · rw[if_neg e1,if_pos e2,if_pos (by omega),if_neg e1]
            · rw[if_neg e1,if_neg e2,if_neg (by omega)]
        rw[hset]
        exact aV hk (by omega) ⟨⟨_,hnx⟩,by simp[View.set,hdb,hbI,hbx],t1,t6,t9,t10,rfl⟩
      · simp (disch:=omega) only [↓wr,↓reduceIte,wq,ai,ah,ak,ae,af,ag,aj,isNil,Nat.reduceEqDiff,Nat.reduceAdd,Nat.reduceLT,Nat.reduceLeDiff,Int.reduceNeg,Int.reduceToNat,reduceCtorEq,t1,t6,t9,t10,t11]
        have hk':k=r.au.length:=by omega
        subst hk'
        have hG:=hB.done
        clear hB t11
        refine bo.intro (fun k T' H'=>∃ P0,iC H' I r.au.length (w.length+1) R P0∧kS P0 r.au.length (w.length+1)∧(∀ n i,di P0 n i=true→jm r w (n:Int) i) ∧
          ((T' 12=gb true∧k+gE P0=r.au.length * (w.length+1)+1)∨(T' 12=gb false∧∀ Q∈r.rules,∀ f,f≤w.length→eJ w (fy r w) P0 Q.right f=true→di P0 Q.left.toNat f=true))∧T' 1=encI w∧T' 6=.ptr b 0 0∧T' 9=eL (fy r w)∧T' 10=.sl I 0 r.au.length 1∧H' b=.arr 4 [ao r]) (r.au.length * (w.length+1)+1 - gE (uq r.au.length (w.length+1))) ?_ ?_
        · have:=xX (CI r.au.length (w.length+1))
          exact ⟨_,hG,CI _ _,fun n i h=>by rw[H6] at h; simp at h,.inl ⟨rfl,by omega⟩,t1,t6,t9,t10,hbx⟩
        clear hG t1 t6 t9 t10 hbx
        rintro k T' H ⟨P0,hG,hok,hsd,h12,t1,t6,t9,t10,hbx⟩
        rcases h12 with ⟨t12,hcnt⟩ | ⟨t12,hcl⟩
        · simp (disch:=omega) only [↓wr,↓reduceIte,wq,ai,ah,ak,ae,af,ag,aj,isNil,Nat.reduceEqDiff,Nat.reduceAdd,Nat.reduceLT,Nat.reduceLeDiff,Int.reduceNeg,Int.reduceToNat,reduceCtorEq,fD,t1,t6,t9,t10,t12]
          refine bo.up r.rules.length (fun i T' H'=>Jk r w I R P0 (∀ q Q,q < i→r.rules[q]?=some Q→∀ f,f≤w.length→eJ w (fy r w) P0 Q.right f=true→di P0 Q.left.toNat f=true) b T' H'∧T' 13=gi i) ⟨⟨P0,hG,hok,hsd,.inl ⟨rfl,rfl,fun q r hq=>by omega⟩,t1,t6,t9,t10,hbx⟩,rfl⟩ ?_
          clear hG t1 t6 t9 t10 hbx t12
          rintro i m T' H hm ⟨⟨P1,hG,hok1,hsd1,h12,t1,t6,t9,t10,hbx⟩,t13⟩
          simp (disch:=omega) only [↓wr,↓reduceIte,wq,ai,ah,ak,ae,af,ag,aj,isNil,Nat.reduceEqDiff,Nat.reduceAdd,Nat.reduceLT,Nat.reduceLeDiff,Int.reduceNeg,Int.reduceToNat,reduceCtorEq,jf,t1,t6,t9,t10,t13,hbx,ao]
          refine aq.dec (fun hc2=>?_) (fun hc2=>?_)
          · have hg2:r.rules[i]?=some (r.rules[i]'(by omega)):=List.getElem?_eq_getElem (by omega)
            have hmem:r.rules[i]'(by omega)∈r.rules:=List.getElem_mem _
            generalize r.rules[i]'(by omega)=Q at hg2 hmem
            simp (disch:=omega) only [↓wr,↓reduceIte,wq,ai,ah,ak,ae,af,ag,aj,isNil,Nat.reduceEqDiff,Nat.reduceAdd,Nat.reduceLT,Nat.reduceLeDiff,Int.reduceNeg,Int.reduceToNat,reduceCtorEq,t1,t6,t9,t10,t13,hbx,ao,aJ,encI,List.getElem?_map,hg2]
            intro b2 hb2
            try simp (disch:=omega) only [↓wr,↓reduceIte,wq,ai,ah,ak,ae,af,ag,aj,isNil,Nat.reduceEqDiff,Nat.reduceAdd,Nat.reduceLT,Nat.reduceLeDiff,Int.reduceNeg,Int.reduceToNat,reduceCtorEq,t1,t6,t9,t10,t13]
            have hl:=hrf.left Q hmem
            have hrw:=hrok.bj Q hmem
            have hb2b:b≠b2:=by rintro rfl; rw[hbx] at hb2; simp at hb2
            refine bo.up (w.length+1) (fun f T' H'=>Jk r w I R P0 ((∀ q Q,q < i→r.rules[q]?=some Q→∀ f,f≤w.length→eJ w (fy r w) P0 Q.right f=true→di P0 Q.left.toNat f=true)∧∀ f',f' < f→eJ w (fy r w) P0 Q.right f'=true→di P0 Q.left.toNat f'=true) b T' H'∧T' 13=gi i∧T' 14=.ptr b2 0 0∧H' b2=.arr 3 [aJ Q]∧T' 15=gi f) ?_ ?_
            · refine ⟨⟨P1,hG.keep fun id hid=>?_,hok1,hsd1,?_,t1,t6,t9,t10,by simp[View.set,hb2b,hbx]⟩,t13,rfl,by simp[View.set,aJ,encI],rfl⟩
              · have:id≠b2:=by rintro rfl; exact hid hb2
                simp[View.set,this]
              · rcases h12 with ⟨a1,a2,a3⟩ | h
                · exact .inl ⟨a1,a2,a3,fun f' hf'=>by omega⟩
                · exact .inr h
            clear hG h12 t1 t6 t9 t10 t13 hb2 hok1 hsd1 hbx
            rintro f u T' H hu ⟨⟨P1,hG,hok1,hsd1,h12,t1,t6,t9,t10,hbx⟩,t13,t14,hb2,t15⟩
            simp (disch:=omega) only [↓wr,↓reduceIte,wq,ai,ah,ak,ae,af,ag,aj,isNil,Nat.reduceEqDiff,Nat.reduceAdd,Nat.reduceLT,Nat.reduceLeDiff,Int.reduceNeg,Int.reduceToNat,reduceCtorEq,iY,t1,t6,t9,t10,t13,t14,t15,encI]
            refine aq.dec (fun hc3=>?_) (fun hc3=>?_)
            · have hln:Q.left.toNat < r.au.length:=by omega
              have ht:=hG.top
              have htg:=cY (F:=fun n=>[V.sl (R n) 0 (w.length+1) 1]) hln
              have hro:=hG.row Q.left.toNat hln
              obtain ⟨row,hr1,hr2,hr3⟩:=hok1.row hln
              rw[hr3] at hro
              have hcd:=iy (l:=row) (i:=f) (by omega)
              have hpt:di P1 Q.left.toNat f=row.getD f false:=by rw[di,hr3]
              have hpart:=H8 Q.right w (fy r w) P1 f r.au.length hrw.2.2.1 (by omega) (A0 r w) hok1 (by omega) (fun x hx=>⟨hrw.2.2.2 x hx,fun hn=>hrf.neg hmem hx hn⟩)
              have hbR:b≠R Q.left.toNat:=fun e=>by rw[e,hro] at hbx; simp at hbx
              have hb2R:b2≠R Q.left.toNat:=fun e=>by rw[e,hro] at hb2; simp at hb2
              generalize hrv:row.getD f false=rv at hcd
              simp (disch:=omega) only [↓wr,↓reduceIte,wq,ai,ah,ak,ae,af,ag,aj,isNil,Nat.reduceEqDiff,Nat.reduceAdd,Nat.reduceLT,Nat.reduceLeDiff,Int.reduceNeg,Int.reduceToNat,reduceCtorEq,t1,t6,t9,t10,t13,t14,t15,hb2,aJ,ht,htg,hro,hcd]
              refine ⟨by omega,by simp; omega,?_⟩
              try simp (disch:=omega) only [↓wr,↓reduceIte,wq,ai,ah,ak,ae,af,ag,aj,isNil,Nat.reduceEqDiff,Nat.reduceAdd,Nat.reduceLT,Nat.reduceLeDiff,Int.reduceNeg,Int.reduceToNat,reduceCtorEq,t1,t6,t9,t10,t13,t14,t15,hb2,aJ,ht,htg,hro,hcd]
              refine ⟨by omega,by omega,?_⟩
              have hkeep:(eJ w (fy r w) P0 Q.right f=true→P1=P0→di P0 Q.left.toNat f=true)→((T' 12=gb false∧P1=P0∧((∀ q Q,q < i→r.rules[q]?=some Q→∀ f,f≤w.length→eJ w (fy r w) P0 Q.right f=true→di P0 Q.left.toNat f=true)∧∀ f',f' < f+1→eJ w (fy r w) P0 Q.right f'=true→di P0 Q.left.toNat f'=true))∨(T' 12=gb true∧gE P0 < gE P1)):=fun hx=>by
                rcases h12 with ⟨a1,a2,a3,a4⟩ | h
                · refine .inl ⟨a1,a2,a3,fun f' hf' hp'=>?_⟩
                  by_cases ef:f'=f
                  · subst ef
                    exact hx hp' a2
                  · exact a4 f' (by omega) hp'
                · exact .inr h
              refine aq.split (fun hb1=>?_) (fun hb1=>?_)
              · simp (disch:=omega) only [↓wr,↓reduceIte,wq,ai,ah,ak,ae,af,ag,aj,isNil,Nat.reduceEqDiff,Nat.reduceAdd,Nat.reduceLT,Nat.reduceLeDiff,Int.reduceNeg,Int.reduceToNat,reduceCtorEq,t1,t6,t9,t10,t13,t14,t15]
                exact aV hu (by omega) ⟨⟨P1,hG,hok1,hsd1,hkeep (fun _ e=>by rw[← e,hpt,hrv,hb1]),t1,t6,t9,t10,hbx⟩,t13,t14,hb2,rfl⟩
              · simp (disch:=omega) only [↓wr,↓reduceIte,wq,ai,ah,ak,ae,af,ag,aj,isNil,Nat.reduceEqDiff,Nat.reduceAdd,Nat.reduceLT,Nat.reduceLeDiff,Int.reduceNeg,Int.reduceToNat,reduceCtorEq,t1,t6,t9,t10,t13,t14,t15,hb2,aJ]
                refine az.wa hpart (by kernel_rfl) (.val _) ⟨bW.tree (cz Q.right),bW.tree (cz w),bW.tree (q8 _),hG.HD hok1,bW.tree (.val _),trivial⟩ ?_
                simp (disch:=omega) only [↓wr,↓reduceIte,wq,ai,ah,ak,ae,af,ag,aj,isNil,Nat.reduceEqDiff,Nat.reduceAdd,Nat.reduceLT,Nat.reduceLeDiff,Int.reduceNeg,Int.reduceToNat,reduceCtorEq]
                refine aq.split (fun hb3=>?_) (fun hb3=>?_)
                · simp (disch:=omega) only [↓wr,↓reduceIte,wq,ai,ah,ak,ae,af,ag,aj,isNil,Nat.reduceEqDiff,Nat.reduceAdd,Nat.reduceLT,Nat.reduceLeDiff,Int.reduceNeg,Int.reduceToNat,reduceCtorEq,t1,t6,t9,t10,t13,t14,t15,hb2,aJ,ht,htg,hro,hcd]
                  refine ⟨by omega,by simp; omega,?_⟩
                  try simp (disch:=omega) only [↓wr,↓reduceIte,wq,ai,ah,ak,ae,af,ag,aj,isNil,Nat.reduceEqDiff,Nat.reduceAdd,Nat.reduceLT,Nat.reduceLeDiff,Int.reduceNeg,Int.reduceToNat,reduceCtorEq,t1,t6,t9,t10,t13,t14,t15,hb2,aJ,ht,htg,hro,hcd]
                  have hput:=hG.put hok1 hln (show f < w.length+1 by omega)
                  have hcs:=GY hok1 hln (show f < w.length+1 by omega) (by rw[hpt,hrv]; exact hb1)
                  rw[hr3,← dM] at hput
                  refine ⟨by omega,by omega,aV hu (by omega) ⟨⟨iw P1 Q.left.toNat f,hput,GG hok1 hln,fun n i' h=>?_,.inr ⟨rfl,?_⟩,t1,t6,t9,t10,by simp[View.set,hbR,hbx]⟩,t13,t14,by simp[View.set,hb2R,hb2,aJ],rfl⟩⟩
                  · rw[GR hok1 hln (show f < w.length+1 by omega)] at h
                    split at h
                    · rename_i e
                      obtain ⟨rfl,rfl⟩:=e
                      rw[show ((Q.left.toNat:Nat):Int)=Q.left by omega]
                      exact GH hrr (by omega) hmem hsd1 hb3
                    · exact hsd1 n i' h
                  · rcases h12 with ⟨_,e,_⟩ | ⟨_,e⟩
                    · rw[hcs,e]; omega
                    · omega
                · simp (disch:=omega) only [↓wr,↓reduceIte,wq,ai,ah,ak,ae,af,ag,aj,isNil,Nat.reduceEqDiff,Nat.reduceAdd,Nat.reduceLT,Nat.reduceLeDiff,Int.reduceNeg,Int.reduceToNat,reduceCtorEq,t1,t6,t9,t10,t13,t14,t15]
                  exact aV hu (by omega) ⟨⟨P1,hG,hok1,hsd1,hkeep (fun h e=>by rw[← e,hb3] at h; simp at h),t1,t6,t9,t10,hbx⟩,t13,t14,hb2,rfl⟩
            · simp (disch:=omega) only [↓wr,↓reduceIte,wq,ai,ah,ak,ae,af,ag,aj,isNil,Nat.reduceEqDiff,Nat.reduceAdd,Nat.reduceLT,Nat.reduceLeDiff,Int.reduceNeg,Int.reduceToNat,reduceCtorEq,t1,t6,t9,t10,t13,t14,t15]
              refine aV hm (by omega) ⟨⟨P1,hG,hok1,hsd1,?_,t1,t6,t9,t10,hbx⟩,rfl⟩
              rcases h12 with ⟨a1,a2,a3,a4⟩ | h
              · refine .inl ⟨a1,a2,fun q Q' hq hQ' f' hf' hp'=>?_⟩
                by_cases eq:q=i
                · subst eq
                  rw[hg2] at hQ'; simp at hQ'; subst hQ'
                  exact a4 f' (by omega) hp'
                · exact a3 q Q' (by omega) hQ' f' hf' hp'
              · exact .inr h
          · simp (disch:=omega) only [↓wr,↓reduceIte,wq,ai,ah,ak,ae,af,ag,aj,isNil,Nat.reduceEqDiff,Nat.reduceAdd,Nat.reduceLT,Nat.reduceLeDiff,Int.reduceNeg,Int.reduceToNat,reduceCtorEq,t1,t6,t9,t10,t13]
            rcases h12 with ⟨a1,a2,a3⟩ | ⟨a1,a2⟩
            · subst a2
              refine ⟨0,by have:=xX hok; omega,P1,hG,hok,hsd,.inr ⟨a1,fun Q hQ f hf hp=>?_⟩,?_⟩
              · obtain ⟨q,hq,hqe⟩:=List.getElem_of_mem hQ
                exact a3 q Q (by omega) (by rw[List.getElem?_eq_getElem hq,hqe]) f hf hp
              · exact hbx
            · have:=xX hok1
              refine ⟨r.au.length * (w.length+1)+1 - gE P1,by omega,P1,hG,hok1,hsd1,.inl ⟨a1,by omega⟩,?_⟩
              exact hbx
        · have h0:=hrf.dS
          have h1:=hrf.start
          have ht:=hG.top
          have hsn:r.start.toNat < r.au.length:=by omega
          have htg:=cY (F:=fun n=>[V.sl (R n) 0 (w.length+1) 1]) hsn
          have hro:=hG.row r.start.toNat hsn
          obtain ⟨row,hr1,hr2,hr3⟩:=hok.row hsn
          rw[hr3] at hro
          have hcd:=iy (l:=row) (i:=0) (by omega)
          have hpt:di P0 r.start.toNat 0=row.getD 0 false:=by rw[di,hr3]
          generalize row.getD 0 false=rv at hcd hpt
          have hrv:rv=preB r w:=by
            rw[Bool.eq_iff_iff,lL,← hpt]
            constructor
            · intro h
              have:=hsd _ _ h
              rwa [show ((r.start.toNat:Nat):Int)=r.start by omega] at this
            · intro h
              exact Gu hrr hcl h (by omega)
          simp (disch:=omega) only [↓wr,↓reduceIte,wq,ai,ah,ak,ae,af,ag,aj,isNil,Nat.reduceEqDiff,Nat.reduceAdd,Nat.reduceLT,Nat.reduceLeDiff,Int.reduceNeg,Int.reduceToNat,reduceCtorEq,fD,t1,t6,t9,t10,t12,hbx,ao,ht,htg,hro,hcd]
          refine ⟨hsn,by simp; omega,by omega,by omega,?_⟩
          rw[hrv]; rfl
    · have he:dp g=(u6,[],9):=by rw[fa hr,if_neg hp]
      have hA:bY g w=(false,0):=by rw[bY,if_pos h,he]; rfl
      rw[hA,he]
      simp (disch:=omega) only [↓wr,↓reduceIte,wq,ai,ah,ak,ae,af,ag,aj,isNil,Nat.reduceEqDiff,Nat.reduceAdd,Nat.reduceLT,Nat.reduceLeDiff,Int.reduceNeg,Int.reduceToNat,reduceCtorEq,sg,ao,encS]
      intro b hb
      refine aq.ne (fun _=>?_) (fun e=>absurd e (by decide))
      simp (disch:=omega) only [↓wr,↓reduceIte,wq,ai,ah,ak,ae,af,ag,aj,isNil,Nat.reduceEqDiff,Nat.reduceAdd,Nat.reduceLT,Nat.reduceLeDiff,Int.reduceNeg,Int.reduceToNat,reduceCtorEq]
      rfl
  · simp (disch:=omega) only [↓wr,↓reduceIte,wq,ai,ah,ak,ae,af,ag,aj,isNil,Nat.reduceEqDiff,Nat.reduceAdd,Nat.reduceLT,Nat.reduceLeDiff,Int.reduceNeg,Int.reduceToNat,reduceCtorEq]
    rw[bY,h]; rfl
end Gv
set_option linter.unusedSimpArgs false
set_option maxRecDepth 100000
namespace Gv
open Go Go.Proofs
def wL:List Int:=[37,37,32,115,32,58,32,39,97,39,32,115,32,124,32,59]
def xj:List Int:=[37,37,32,115,32,58,32,115,32,115,32,124,32,110,32,39,97,39,32,110,32,39,98,39,32,124,32,59,32,110,32,58,32,110,32,124,32,59]
def fF:av:=⟨[⟨⟨#[39,97,39]⟩,0,0⟩],[⟨#[115]⟩],[⟨0,[0,(-1)],0⟩,⟨0,[],(-1)⟩],0⟩
def c6:av:=⟨[⟨⟨#[39,97,39]⟩,0,0⟩,⟨⟨#[39,98,39]⟩,0,0⟩],[⟨#[115]⟩,⟨#[110]⟩],[⟨0,[(-1),(-1)],(-1)⟩,⟨0,[(-2),0,(-2),1],1⟩,⟨0,[],(-1)⟩,⟨1,[(-2)],(-1)⟩,⟨1,[],(-1)⟩],0⟩
theorem JS:cx Tryz.prog 33 [tx wL] (j8 fF):=Ci (by kernel_rfl)
theorem JM:cx Tryz.prog 33 [tx xj] (j8 c6):=Ci (by kernel_rfl)
theorem G4:fF.Ok:=by
  refine ⟨by unfold aP; decide,by unfold aP; decide,by unfold aP; decide,by unfold bF; decide,?_,?_⟩
  · intro t ht; simp[fF] at ht; rcases ht with rfl; unfold bF; decide
  · intro r hr; simp[fF] at hr; rcases hr with rfl | rfl <;> unfold bF aP <;> decide
theorem GJ:c6.Ok:=by
  refine ⟨by unfold aP; decide,by unfold aP; decide,by unfold aP; decide,by unfold bF; decide,?_,?_⟩
  · intro t ht; simp[c6] at ht; rcases ht with rfl | rfl <;> unfold bF <;> decide
  · intro r hr; simp[c6] at hr; rcases hr with rfl | rfl | rfl | rfl | rfl <;> unfold bF aP <;> decide
theorem BU:fF.Small:=⟨by decide⟩
theorem B5:c6.Small:=⟨by decide⟩
end Gv
set_option linter.unusedSimpArgs false
set_option maxRecDepth 100000
namespace Gv
open Go Go.Proofs
def j1 (g:av) (p:List Int) (T:Tb):Bool:=g.rules.all fun R=>decide (0≤R.left) && (List.range (p.length+1)).all fun i=>(List.range (p.length+1)).all fun j=>!(decide (i≤j)) || !((dQ p T R.right i).getD j false) || c8 T R.left.toNat i j
def yu (g:av) (p:List Int) (T:Tb) (P:Pt):Bool:=g.rules.all fun R=>(List.range (p.length+1)).all fun f=>!(eJ p T P R.right f) || di P R.left.toNat f
theorem JR {T:Tb} {N M n i j:Nat} (hT:dz T N M) (h:c8 T n i j=true):n < N∧i < M∧j < M:=by
  have hn:n < T.length:=by
    apply Decidable.byContradiction
    intro hn
    simp[c8,List.getD_eq_getElem?_getD,hn] at h
  have hr:=hT.2 T[n] (List.getElem_mem hn)
  have hi:i < T[n].length:=by
    apply Decidable.byContradiction
    intro hi
    simp[c8,List.getD_eq_getElem?_getD,hn,hi] at h
  have hc:=hr.2 T[n][i] (List.getElem_mem hi)
  have hj:j < T[n][i].length:=by
    apply Decidable.byContradiction
    intro hj
    simp[c8,List.getD_eq_getElem?_getD,hn,hi,hj] at h
  exact ⟨by rw[← hT.1]; exact hn,by omega,by omega⟩
section
variable {g:av} {p:List Int} {T:Tb} {N:Nat}
theorem I2 (hT:dz T N (p.length+1)) {l:List Int} {i j:Nat} (h:In p (sE T) l i j):i≤p.length→j≤p.length:=by
  induction h with
  | nil=>exact id
  | term s l i j h0 hf _ ih =>
    intro _
    obtain ⟨c,hc,_⟩:=hf
    have:=(List.getElem?_eq_some_iff.1 hc).1
    exact ih (by omega)
  | ca s l i k j h0 hk _ ih=>exact fun _=>ih (by have:=JR hT hk.2; omega)
theorem xz (hT:dz T N (p.length+1)) (h:j1 g p T=true):∀ R∈g.rules,∀ i j,i≤p.length→In p (sE T) R.right i j→sE T R.left.toNat i j:=by
  intro R hR i j hi hin
  have hle:=hin.le wy
  unfold j1 at h
  rw[List.all_eq_true] at h
  have h1:=h R hR
  rw[Bool.and_eq_true,List.all_eq_true] at h1
  have h2:=h1.2 i (by simp; omega)
  rw[List.all_eq_true] at h2
  have hj:=I2 hT hin hi
  have h3:=h2 j (by simp; omega)
  simp only[Bool.or_eq_true,Bool.not_eq_true',decide_eq_false_iff_not] at h3
  rcases h3 with (h3 | h3) | h3
  · exact absurd hle h3
  · rw[(oo hi hj).2 hin] at h3; simp at h3
  · exact ⟨hle,h3⟩
theorem tV (h:j1 g p T=true):∀ R∈g.rules,0≤R.left:=by
  intro R hR
  unfold j1 at h
  rw[List.all_eq_true] at h
  have h1:=h R hR
  rw[Bool.and_eq_true] at h1
  simpa using h1.1
theorem B8 (hT:dz T N (p.length+1)) (h:j1 g p T=true) {l:List Int} {i j:Nat} (hs:Sp g p l i j) (hi:i≤p.length):(dQ p T l i).getD j false=true :=
  (oo hi (hs.len hi)).2 (zX (tV h) (xz hT h) hs hi)
theorem EP (hT:dz T N (p.length+1)) (h:j1 g p T=true) (hr:aR g=true) (hf:c8 T g.start.toNat 0 p.length=false):fN g p=false:=by
  have hF:=aO hr
  have h0:=hF.dS
  rw[Bool.eq_false_iff,Ne,jG hr]
  intro hs
  have hin:=zX (tV h) (xz hT h) hs (by omega)
  rw[In.one,stepT,if_neg (by omega)] at hin
  rw[show -1 - (-1 - g.start)=g.start by omega] at hin
  rw[hin.2] at hf; simp at hf
theorem Jy (hT:dz T N (p.length+1)) (h:j1 g p T=true) {P:Pt} (hP:yu g p T P=true) {n:Int} {f:Nat} (hp:jm g p n f):f≤p.length→di P n.toNat f=true:=by
  have hpt:∀ R∈g.rules,∀ f,f≤p.length→eJ p T P R.right f=true→di P R.left.toNat f=true:=by
    intro R hR f hf hd
    unfold yu at hP
    rw[List.all_eq_true] at hP
    have h1:=hP R hR
    rw[List.all_eq_true] at h1
    have h2:=h1 f (by simp; omega)
    rw[hd] at h2
    simpa using h2
  induction hp with
  | full R l1 l2 f hR e hs =>
    intro hf
    refine hpt R hR f hf ?_
    unfold eJ
    rw[List.any_eq_true]
    refine ⟨l1.length,by simp[e]; omega,?_⟩
    simp only[rW,Bool.or_eq_true]
    left
    rw[e,List.take_left]
    exact B8 hT h hs hf
  | deep R l1 l2 s f a hR e h0 h1 h2 _ ih =>
    intro hf
    refine hpt R hR f hf ?_
    unfold eJ
    rw[List.any_eq_true]
    refine ⟨l1.length,by simp[e]; omega,?_⟩
    simp only[rW,Bool.or_eq_true,Bool.and_eq_true,decide_eq_true_eq,List.any_eq_true]
    right
    refine ⟨by simp[e],a,by simpa using h2,?_⟩
    have e2:R.right.getD l1.length 0=s:=by simp[List.getD_eq_getElem?_getD,e]
    simp only[iv,e2,Bool.and_eq_true,decide_eq_true_eq]
    rw[e,List.take_left]
    exact ⟨⟨⟨h1.le,B8 hT h h1 hf⟩,h0⟩,ih (by omega)⟩
theorem Io (hT:dz T N (p.length+1)) (h:j1 g p T=true) {P:Pt} (hP:yu g p T P=true) (hf:di P g.start.toNat 0=false):preB g p=false:=by
  rw[Bool.eq_false_iff,Ne,lL]
  intro hp
  rw[Jy hT h hP hp (by omega)] at hf; simp at hf
end
theorem Kj:aR fF=true:=by kernel_rfl
theorem HQ:aR c6=true:=by kernel_rfl
theorem J2:dp c6=(c6,[0,1,2,3,4],0):=by kernel_rfl
theorem il {p:List Int} {i:Nat} {s c:Int} (h:p[i]?=some c) (hc:c=s∨c = -1):eu p i s:=⟨c,h,hc⟩
theorem n6 (p:List Int) (i:Nat):Sp c6 p [-2] i i:=.ca (-2) [] ⟨1,[],-1⟩ i i i (by decide) (by simp[c6]) (by decide) (.nil i) (.nil i)
theorem r6 {p:List Int} {i:Nat} (h0:eu p i 0) (h1:eu p (i+1) 1):Sp c6 p [-2,0,-2,1] i (i+2) :=
  (n6 p i).app (.term 0 [-2,1] i (i+2) (by decide) h0 ((n6 p (i+1)).app (.term 1 [] (i+1) (i+2) (by decide) h1 (.nil _))))
theorem s6 {p:List Int} {i:Nat} (h0:eu p i 0) (h1:eu p (i+1) 1):Sp c6 p [-1] i (i+2) :=
  .ca (-1) [] ⟨0,[(-2),0,(-2),1],1⟩ i (i+2) (i+2) (by decide) (by simp[c6]) (by decide) (r6 h0 h1) (.nil _)
theorem Ki:fc fF [0,0]=(true,0):=by
  have:fN fF [0,0]=true:=(jG Kj _).2 (by
    have e:Sp fF [0,0] [-1] 2 2:=.ca (-1) [] ⟨0,[],-1⟩ 2 2 2 (by decide) (by simp[fF]) (by decide) (.nil _) (.nil _)
    have f:Sp fF [0,0] [-1] 1 2:=.ca (-1) [] ⟨0,[0,-1],0⟩ 1 2 2 (by decide) (by simp[fF]) (by decide) (.term 0 [-1] 1 2 (by decide) (il rfl (.inl rfl)) e) (.nil _)
    exact .ca (-1) [] ⟨0,[0,-1],0⟩ 0 2 2 (by decide) (by simp[fF]) (by decide) (.term 0 [-1] 0 2 (by decide) (il rfl (.inl rfl)) f) (.nil _))
  rw[fc,if_pos (by kernel_rfl),this]
theorem Kq:fc fF [1]=(false,1):=by
  rw[fc,if_neg (by rw[show dw fF [1]=false by kernel_rfl]; simp)]
theorem Kt:fc c6 [0,1,0,1]=(true,0):=by
  have:fN c6 [0,1,0,1]=true:=(jG HQ _).2 (.ca (-1) [] ⟨0,[-1,-1],-1⟩ 0 4 4 (by decide) (by simp[c6]) (by decide) ((s6 (il rfl (.inl rfl)) (il rfl (.inl rfl))).app (s6 (il rfl (.inl rfl)) (il rfl (.inl rfl)))) (.nil _))
  rw[fc,if_pos (by kernel_rfl),this]
def HK:Tb:=[[[true,false,false],[false,true,false],[false,false,true]],[[true,false,false],[false,true,false],[false,false,true]]]
theorem Ko:fc c6 [0,0]=(false,0):=by
  have:fN c6 [0,0]=false:=EP (T:=HK) (N:=2) (by unfold dz HK; decide) (by kernel_rfl) HQ (by kernel_rfl)
  rw[fc,if_pos (by kernel_rfl),this]
theorem Kp:dy c6 [-1,1]=(true,0):=by
  have:fN c6 [-1,1]=true:=(jG HQ _).2 (s6 (il rfl (.inr rfl)) (il rfl (.inl rfl)))
  rw[dy,if_pos (by kernel_rfl),this]
def zM:Tb:=[[[true,false],[false,true]],[[true,false],[false,true]]]
theorem Kr:dy c6 [-1]=(false,0):=by
  have:fN c6 [-1]=false:=EP (T:=zM) (N:=2) (by unfold dz zM; decide) (by kernel_rfl) HQ (by kernel_rfl)
  rw[dy,if_pos (by kernel_rfl),this]
theorem Kl:bY c6 [0,1,0]=(true,0):=by
  have:preB c6 [0,1,0]=true:=lL.2 (.deep ⟨0,[-1,-1],-1⟩ [-1] [] (-1) 0 2 (by simp[c6]) rfl (by decide) (s6 (il rfl (.inl rfl)) (il rfl (.inl rfl))) (by decide)
    (.full ⟨0,[(-2),0,(-2),1],1⟩ [-2,0] [-2,1] 2 (by simp[c6]) rfl ((n6 _ 2).app (.term 0 [] 2 3 (by decide) (il rfl (.inl rfl)) (.nil _)))))
  rw[bY,if_pos (by kernel_rfl),J2]
  simp[this]
theorem Ku:bY c6 [1]=(false,0):=by
  have:preB c6 [1]=false:=Io (T:=zM) (N:=2) (P:=[[false,true],[false,true]]) (by unfold dz zM; decide) (by kernel_rfl) (by kernel_rfl) (by kernel_rfl)
  rw[bY,if_pos (by kernel_rfl),J2]
  simp[this]
end Gv
