/-
  Part 14 of the proof: what the machine does and what the functions answer.
  Conditions: those that each lemma names.
-/
import Derived.Test.YtomcjampldmjoaaGreatSGzVM
set_option linter.unusedSimpArgs false
set_option linter.unusedVariables false
set_option maxRecDepth 100000
namespace Gv
open Go Go.Proofs
def gN (p:List Int) (T:Tb) (s:Int) (a j:Nat):Bool :=
  if 0≤s then decide (a < p.length) && (p.getD a 0 == s || p.getD a 0 == -1) && decide (j=a+1) else decide (a≤j) && fa T (-1 - s).toNat a j
def dC (p:List Int) (T:Tb) (s:Int) (now:List Bool) (f a0 j:Nat):Bool:=(List.range a0).any fun a=>decide (f≤a) && now.getD a false && gN p T s a j
def ep (M:Nat) (F:Nat→Bool):List Bool:=(List.range M).map F
def kT (p:List Int) (T:Tb) (f:Nat) (now:List Bool) (s:Int):List Bool:=ep (p.length+1) (dC p T s now f (p.length+1))
def jd (p:List Int) (T:Tb) (l:List Int) (f:Nat):List Bool:=l.foldl (kT p T f) (ep (p.length+1) fun j=>decide (j=f))
theorem iM (M:Nat) (F:Nat→Bool):(ep M F).length=M:=by simp[ep]
theorem DJ {M j:Nat} {F:Nat→Bool} (h:j < M):(ep M F).getD j false=F j:=by simp[ep,List.getD_eq_getElem?_getD,h]
theorem Fh {M i:Nat} {F:Nat→Bool} (v:Bool):(ep M F).set i v=ep M fun j=>if j=i then v else F j:=by
  apply List.ext_getElem (by simp[ep])
  intro j h1 h2
  simp only[ep,List.length_map,List.length_range] at h2
  simp only[ep,List.getElem_set,List.getElem_map,List.getElem_range]
  by_cases e:i=j
  · subst e; simp
  · rw[if_neg e,if_neg (Ne.symm e)]
theorem jQ {M:Nat} {F G:Nat→Bool} (h:∀ j,j < M→F j=G j):ep M F=ep M G:=by
  unfold ep
  apply List.map_congr_left
  intro j hj
  exact h j (by simpa using hj)
theorem xA (p:List Int) (T:Tb) (f:Nat):∀ (l:List Int) (now:List Bool),now.length=p.length+1→(l.foldl (kT p T f) now).length=p.length+1
  | [],_,h=>h
  | s :: l,now,_=>xA p T f l _ (by rw[kT,iM])
theorem Cv (p:List Int) (T:Tb) (l:List Int) (f:Nat):(jd p T l f).length=p.length+1:=xA p T f l _ (iM _ _)
theorem F7 (p:List Int) (T:Tb) (s:Int) (now:List Bool) (f a j:Nat):dC p T s now f (a+1) j=(dC p T s now f a j || (decide (f≤a) && now.getD a false && gN p T s a j)):=by
  simp[dC,List.range_succ]
theorem EY (p:List Int) (T:Tb) (s:Int) (now:List Bool) (f j:Nat):dC p T s now f f j=false:=by
  simp only[dC,List.any_eq_false,List.mem_range]
  intro a ha
  rw[decide_eq_false (by omega)]; simp
def kP (T:Tb):V:=.aY (T.map fun r=>[.aY (r.map fun c=>[bw c])])
theorem GA (T:Tb):Tree (kP T):=ee _ _ fun r _ v hv=>by
  simp at hv; subst hv
  exact ee _ _ fun c _ v hv=>by simp at hv; subst hv; exact fQ c
def mw:SC :=
  .seq (.seq (al [ae 75 13,ae 76 1,aL 77 76,aR 78 .leq 75 77]) <|
  .cond (.tmp 78) (.skip) (.exit 4)) <|
  .seq (.block 5 (.region false [⟨none,[ae 81 11,ae 82 13,ae 83 11,ae 84 13,aP 85 1 83 84,ao 86 85,ae 87 86]⟩,⟨(some (87,false)),[ae 88 2,ae 89 0,ae 90 10,aP 91 1 89 90,ao 92 91,((some 93),.op (.arith .sub (.val (.val (.int .i64 (-1)))) (.tmp 92))),aP 94 1 88 93,ao 95 94,ae 96 12,aP 97 1 95 96,ao 98 97,ae 99 13,aP 100 1 98 99,ao 101 100]⟩,⟨none,[bC 102 87 101,aP 103 1 81 82,(none,.op (.store 1 (.tmp 103) (.tmp 102)))]⟩])) <|
  al [ae 79 13,az 80 .add 79 1,ae 13 80]
def mF:SC :=
  .seq (.seq (al [ae 32 12,ae 33 1,aL 34 33,aR 35 .leq 32 34]) <|
  .cond (.tmp 35) (.skip) (.exit 2)) <|
  .seq (.block 3 (.seq (.seq (al [ae 38 9,ae 39 12,aP 40 1 38 39,ao 41 40,bZ 42 41]) <|
  .cond (.tmp 42) (.exit 3) (.skip)) <|
  .seq (.seq (al [ae 43 0,ae 44 10,aP 45 1 43 44,ao 46 45,az 47 .geq 46 0]) <|
  .cond (.tmp 47) (.seq (.seq (.region false [⟨none,[ae 48 12,ae 49 1,aL 50 49,aR 51 .lss 48 50,ae 52 51]⟩,⟨(some (52,true)),[ae 53 1,ae 54 12,aP 55 1 53 54,ao 56 55,ae 57 0,ae 58 10,aP 59 1 57 58,ao 60 59,aR 61 .eql 56 60,ae 62 61]⟩,⟨(some (62,false)),[ae 63 1,ae 64 12,aP 65 1 63 64,ao 66 65,az 67 .eql 66 (-1)]⟩,⟨(some (52,true)),[bC 68 62 67]⟩,⟨none,[bO 69 52 68]⟩]) <|
  .cond (.tmp 69) (al [ae 70 11,ae 71 12,az 72 .add 71 1,aP 73 1 70 72,(none,.op (.store 1 (.tmp 73) (.val (.val (.bool true)))))]) (.skip)) <|
  .exit 3) (.skip)) <|
  .seq (al [ae 74 12,ae 13 74]) <|
  .block 4 (.loop mw))) <|
  al [ae 36 12,az 37 .add 36 1,ae 12 37]
def lW:SC :=
  .seq (.seq (al [ae 21 10,ae 22 0,aL 23 22,aR 24 .lss 21 23]) <|
  .cond (.tmp 24) (.skip) (.exit 0)) <|
  .seq (.block 1 (.seq (al [ae 27 1,aL 28 27,az 29 .add 28 1,((some 30),.op (.make 1 1 [(.val (.bool false))] (.tmp 29) (.tmp 29))),ae 11 30]) <|
  .seq (.seq (al [ae 31 3,ae 12 31]) <|
  .block 2 (.loop mF)) <|
  al [ae 104 11,ae 9 104])) <|
  al [ae 25 10,az 26 .add 25 1,ae 10 26]
def oz:SF:=⟨.seq (al [((some 8),.op (.bc (.val (.emp 1))))]) <|
  .seq (al [ae 14 1,aL 15 14,az 16 .add 15 1,((some 17),.op (.make 1 1 [(.val (.bool false))] (.tmp 16) (.tmp 16))),ae 9 17]) <|
  .seq (al [ae 18 9,ae 19 3,aP 20 1 18 19,(none,.op (.store 1 (.tmp 20) (.val (.val (.bool true)))))]) <|
  .seq (.seq (al [aH 10 0]) <|
  .block 0 (.loop lW)) <|
  .seq (al [ae 105 9,ae 8 105]) <|
  .ret,
  [.tmp 8],106⟩
theorem tX:aW Tryz.prog 175 []=some oz:=by kernel_rfl
theorem qc {l:List Bool} {i:Nat} (h:i < l.length):(bB l).getD i []=[gb (l.getD i false)]:=by simp[List.getD_eq_getElem?_getD,h]
set_option maxHeartbeats 4000000 in
theorem NM (l p:List Int) (T:Tb) (f N:Nat) (hl:aM l) (hp:p.length≤1000) (hT:hD T N (p.length+1)) (hf:f≤p.length) (hn:∀ x∈l,bW x∧(x < 0→-1 - x < N)) :
    cd Tryz.prog 175 [encI l,encI p,kP T,gi f] (bw (jd p T l f)):=by
  unfold aM at hl
  have hM:((p.length:Int)+1).toNat=p.length+1:=by omega
  refine cd.of (by
    intro v hv; simp at hv
    rcases hv with rfl | rfl | rfl | rfl
    · exact bQ l
    · exact bQ p
    · exact GA T
    · exact .val _) ?_
  refine aA.of mixed tX ?_
  simp (disch:=omega) only [↓wr,↓reduceIte,wq,ai,ah,ak,aa,Nat.reduceEqDiff,Nat.reduceAdd,Nat.reduceLeDiff,oz,encI]
  refine ⟨⟨by omega,by unfold aI; omega,by unfold aI; omega⟩,fun h=>by omega,?_⟩
  intro _ b
  try simp (disch:=omega) only [↓wr,↓reduceIte,wq,ai,ah,ak,aa,af,ag,aj,isNil,Nat.reduceEqDiff,Nat.reduceAdd,Nat.reduceLT,Nat.reduceLeDiff,Int.reduceNeg,Int.reduceToNat,reduceCtorEq,encI]
  refine ⟨by omega,by simp; omega,?_⟩
  have hinit:(List.replicate (p.length+1) [gb false]).set f [gb true]=bB (ep (p.length+1) fun j=>decide (j=f)):=by
    rw[show List.replicate (p.length+1) [gb false]=bB (List.replicate (p.length+1) false) by simp,dN]
    congr 1
    apply List.ext_getElem (by simp[ep])
    intro j h1 h2
    simp only[ep,List.getElem_set,List.getElem_replicate,List.getElem_map,List.getElem_range]
    by_cases e:f=j
    · subst e; simp
    · rw[if_neg e]; simp[Ne.symm e]
  refine bb.up l.length (fun q T' H'=>∃ (b:Nat),T' 9=.sl b 0 (p.length+1) 1∧H' b=.arr 1 (bB ((l.take q).foldl (kT p T f) (ep (p.length+1) fun j=>decide (j=f))))∧T' 0=encI l∧T' 1=encI p∧T' 2=kP T∧T' 3=gi f∧T' 10=gi q) ?_ ?_
  · refine ⟨b,rfl,?_,rfl,rfl,rfl,rfl,rfl⟩
    simp only[View.set,if_true]
    rw[List.getD_eq_getElem?_getD,List.getElem?_replicate,if_pos (by omega)]
    rw[List.take_zero,List.foldl_nil,← hinit]; rfl
  rintro q k T' H hk ⟨b,t9,hb,t0,t1,t2,t3,t10⟩
  have hnl:=xA p T f (l.take q) (ep (p.length+1) fun j=>decide (j=f)) (iM _ _)
  have hfold:∀ x,l[q]?=some x→(l.take (q+1)).foldl (kT p T f) (ep (p.length+1) fun j=>decide (j=f))=kT p T f ((l.take q).foldl (kT p T f) (ep (p.length+1) fun j=>decide (j=f))) x:=fun x hx=>by
    rw[List.take_add_one,hx,List.foldl_append]; rfl
  simp (disch:=omega) only [↓wr,↓reduceIte,wq,ah,ak,Nat.reduceEqDiff,reduceCtorEq,lW,t0,t10,encI]
  refine aq.dec (fun hc=>?_) (fun hc=>?_)
  · have hg:l[q]?=some (l[q]'(by omega)):=List.getElem?_eq_getElem (by omega)
    have hmem:l[q]'(by omega)∈l:=List.getElem_mem _
    have hf2:=hfold _ hg
    generalize l[q]'(by omega)=s at hg hmem hf2
    generalize (l.take q).foldl (kT p T f) (ep (p.length+1) fun j=>decide (j=f))=now at hb hnl hf2
    obtain ⟨⟨hs1,hs2⟩,hs3⟩:=hn s hmem
    simp (disch:=omega) only [↓wr,↓reduceIte,wq,ah,ak,Nat.reduceEqDiff,t1,t3,encI]
    refine ⟨⟨by omega,by unfold aI; omega,by unfold aI; omega⟩,fun h=>by omega,?_⟩
    intro _ d hd
    have hbd:b≠d:=by rintro rfl; rw[hb] at hd; simp at hd
    try simp (disch:=omega) only [↓wr,↓reduceIte,wq,ai,ah,ak,aa,af,ag,aj,isNil,Nat.reduceEqDiff,Nat.reduceAdd,Nat.reduceLT,Nat.reduceLeDiff,Int.reduceNeg,Int.reduceToNat,reduceCtorEq,t0,t1,t2,t3,t9,t10,encI]
    refine bb.up (p.length+1 - f) (fun i T' H'=>H' b=.arr 1 (bB now)∧H' d=.arr 1 (bB (ep (p.length+1) (dC p T s now f (f+i))))∧T' 9=.sl b 0 (p.length+1) 1∧T' 11=.sl d 0 (p.length+1) 1∧T' 0=encI l∧T' 1=encI p∧T' 2=kP T∧T' 3=gi f∧T' 10=gi q∧T' 12=gi ((f+i:Nat):Int)) ?_ ?_
    · refine ⟨by simp[View.set,hbd,hb],?_,t9,rfl,t0,t1,t2,t3,t10,rfl⟩
      simp only[View.set,if_true]
      rw[hM,show List.replicate (p.length+1) [V.val (Value.bool false)]=bB (List.replicate (p.length+1) false) by simp]
      congr 2
      apply List.ext_getElem (by simp[ep])
      intro j h1 h2
      simp only[ep,List.getElem_replicate,List.getElem_map,List.getElem_range]
      rw[Nat.add_zero,EY]
    clear hd hb t0 t1 t2 t3 t9 t10
    rintro i m T' H hm ⟨hb,hd,t9,t11,t0,t1,t2,t3,t10,t12⟩
    simp (disch:=omega) only [↓wr,↓reduceIte,wq,ah,ak,Nat.reduceEqDiff,Int.reduceNeg,reduceCtorEq,mF,t1,t12,encI]
    refine aq.dec (fun hc2=>?_) (fun hc2=>?_)
    · have hgn:=qc (l:=now) (i:=f+i) (by omega)
      simp (disch:=omega) only [↓wr,↓reduceIte,wq,Nat.reduceEqDiff,Nat.reduceLT,Int.reduceNeg,t9,t12,hb,hgn]
      refine ⟨by omega,by omega,?_⟩
      have hpb:=F7 p T s now f (f+i)
      rw[decide_eq_true (show f≤f+i by omega),Bool.true_and] at hpb
      have hdd:∀ j,(fun j=>dC p T s now f (f+i) j) j=dC p T s now f (f+i) j:=fun _=>rfl
      generalize now.getD (f+i) false=bn at hpb
      refine aq.split (fun hbn=>?_) (fun hbn=>?_)
      · subst hbn
        simp only[Bool.true_and] at hpb
        simp (disch:=omega) only [↓wr,↓reduceIte,wq,ah,Nat.reduceEqDiff,Nat.reduceLT,Int.reduceNeg,reduceCtorEq,t0,t10,encI,List.getElem?_map,hg]
        refine aq.dec (fun hs0=>?_) (fun hs0=>?_)
        · have hst:∀ j,gN p T s (f+i) j=(decide (f+i < p.length) && (p.getD (f+i) 0 == s || p.getD (f+i) 0 == -1) && decide (j=f+i+1)):=fun j=>by rw[gN,if_pos (show 0≤s from hs0)]
          simp (disch:=omega) only [↓wr,↓reduceIte,wq,ah,ak,Nat.reduceEqDiff,Int.reduceNeg,t1,t12,encI]
          refine aq.dec (fun ha=>?_) (fun ha=>?_)
          · have hgp:p[f+i]?=some (p.getD (f+i) 0):=by simp[List.getD_eq_getElem?_getD,show f+i < p.length by omega]
            generalize p.getD (f+i) 0=c at hgp hst
            have hset:∀ v:Bool,(bB (ep (p.length+1) (dC p T s now f (f+i)))).set (f+i+1) [gb v]=bB (ep (p.length+1) fun j=>if j=f+i+1 then v else dC p T s now f (f+i) j):=fun v=>by rw[dN,Fh]
            have hgd:=qc (l:=ep (p.length+1) (dC p T s now f (f+i))) (i:=f+i+1) (by rw[iM]; omega)
            have hup:(c=s∨c = -1)→bB (ep (p.length+1) (dC p T s now f (f+(i+1))))=bB (ep (p.length+1) fun j=>if j=f+i+1 then true else dC p T s now f (f+i) j):=fun hcs=>by
              congr 1
              refine jQ fun j _=>?_
              rw[← Nat.add_assoc,hpb,hst]
              by_cases e:j=f+i+1
              · rw[if_pos e,decide_eq_true (show f+i < p.length by omega),decide_eq_true e]
                rcases hcs with h | h <;> simp[h]
              · rw[if_neg e,decide_eq_false e]; simp
            have hno:¬ (c=s∨c = -1)→bB (ep (p.length+1) (dC p T s now f (f+(i+1))))=bB (ep (p.length+1) (dC p T s now f (f+i))):=fun hcs=>by
              congr 1
              refine jQ fun j _=>?_
              rw[← Nat.add_assoc,hpb,hst,show (c == s || c == -1)=false by simp; omega]; simp
            have eat:((f+i:Nat):Int)+1=((f+i+1:Nat):Int):=by omega
            have ga:∀ {T2:Env} {H2:View},T2 9=.sl b 0 (p.length+1) 1→T2 11=.sl d 0 (p.length+1) 1→T2 0=encI l→T2 1=encI p→T2 2=kP T→T2 3=gi f→T2 10=gi q→T2 12=gi (((f+i:Nat):Int)+1)→H2 b=.arr 1 (bB now)→H2 d=.arr 1 (bB (ep (p.length+1) (dC p T s now f (f+(i+1))))) →
                ∃ k',k' < m∧Ck (p.length+1 - f) k' (fun i T' H'=>H' b=.arr 1 (bB now)∧H' d=.arr 1 (bB (ep (p.length+1) (dC p T s now f (f+i))))∧T' 9=.sl b 0 (p.length+1) 1∧T' 11=.sl d 0 (p.length+1) 1∧T' 0=encI l∧T' 1=encI p∧T' 2=kP T∧T' 3=gi f∧T' 10=gi q∧T' 12=gi ((f+i:Nat):Int)) T2 H2:=fun a9 a11 a0 a1 a2 a3 a10 a12 ab ad=>aK hm (by omega) ⟨ab,ad,a9,a11,a0,a1,a2,a3,a10,by rw[a12]; rfl⟩
            simp (disch:=omega) only [↓wr,↓reduceIte,wq,ah,Nat.reduceEqDiff,Nat.reduceLT,Int.reduceNeg,reduceCtorEq,t0,t1,t10,t12,encI,List.getElem?_map,hg,hgp]
            refine aq.eq (fun hcs=>?_) (fun hcs=>?_)
            · simp (disch:=omega) only [↓wr,↓reduceIte,wq,ah,aa,Nat.reduceEqDiff,Nat.reduceLeDiff,Int.reduceNeg,reduceCtorEq,t9,t10,t11,t12,eat,hd]
              refine ⟨by omega,by rw[iM]; omega,?_⟩
              refine ga t9 t11 t0 t1 t2 t3 t10 rfl (by simp[View.set,hbd,hb]) ?_
              simp only[View.set,if_true]
              rw[hgd,hup (.inl hcs),← hset true]; rfl
            · simp (disch:=omega) only [↓wr,↓reduceIte,wq,ah,Nat.reduceEqDiff,Nat.reduceLT,Int.reduceNeg,t1,t12,encI,List.getElem?_map,hgp]
              refine aq.eq (fun hcm=>?_) (fun hcm=>?_)
              · simp (disch:=omega) only [↓wr,↓reduceIte,wq,ah,aa,Nat.reduceEqDiff,Nat.reduceLeDiff,Int.reduceNeg,reduceCtorEq,t9,t10,t11,t12,eat,hd]
                refine ⟨by omega,by rw[iM]; omega,?_⟩
                refine ga t9 t11 t0 t1 t2 t3 t10 rfl (by simp[View.set,hbd,hb]) ?_
                simp only[View.set,if_true]
                rw[hgd,hup (.inr hcm),← hset true]; rfl
              · simp (disch:=omega) only [↓wr,↓reduceIte,wq,ah,Nat.reduceEqDiff,Int.reduceNeg,reduceCtorEq,t9,t10,t11,t12]
                exact ga t9 t11 t0 t1 t2 t3 t10 rfl hb (by rw[hno (by omega)]; exact hd)
          · simp (disch:=omega) only [↓wr,↓reduceIte,wq,ah,Nat.reduceEqDiff,Int.reduceNeg,reduceCtorEq,t9,t10,t11,t12]
            refine aK hm (by omega) ⟨hb,?_,t9,t11,t0,t1,t2,t3,t10,rfl⟩
            rw[hd,← Nat.add_assoc]
            refine congrArg (fun l=>bN.arr 1 (bB l)) (jQ fun j _=>?_)
            rw[hpb,hst,decide_eq_false (show ¬ f+i < p.length by omega)]; simp
        · have hsn : -1 - s < N:=hs3 (by omega)
          obtain ⟨row,cell,hrow,hcell,hcl,hcg⟩:=hT.cell (n:=(-1 - s).toNat) (i:=f+i) (by omega) (by omega)
          have hst:∀ j,gN p T s (f+i) j=(decide (f+i≤j) && cell.getD j false):=fun j=>by
            rw[gN,if_neg (show ¬ 0≤s from hs0),fa,hcg]
          simp (disch:=omega) only [↓wr,↓reduceIte,wq,Nat.reduceEqDiff,t12]
          refine bb.up (p.length+1 - (f+i)) (fun r T' H'=>H' b=.arr 1 (bB now)∧H' d=.arr 1 (bB (ep (p.length+1) fun j=>dC p T s now f (f+i) j || (decide (j < f+i+r) && gN p T s (f+i) j)))∧T' 9=.sl b 0 (p.length+1) 1∧T' 11=.sl d 0 (p.length+1) 1∧T' 0=encI l∧T' 1=encI p∧T' 2=kP T∧T' 3=gi f∧T' 10=gi q∧T' 12=gi ((f+i:Nat):Int)∧T' 13=gi ((f+i+r:Nat):Int)) ?_ ?_
          · refine ⟨hb,?_,t9,t11,t0,t1,t2,t3,t10,t12,rfl⟩
            rw[hd]
            refine congrArg (fun l=>bN.arr 1 (bB l)) (jQ fun j _=>?_)
            rw[hst]
            by_cases e:j < f+i
            · rw[decide_eq_false (show ¬ f+i≤j by omega)]; simp
            · rw[decide_eq_false (show ¬ j < f+i+0 by omega)]; simp
          clear hd hb t0 t1 t2 t3 t9 t10 t11 t12
          rintro r u T' H hu ⟨hb,hd,t9,t11,t0,t1,t2,t3,t10,t12,t13⟩
          simp (disch:=omega) only [↓wr,↓reduceIte,wq,ah,ak,Nat.reduceEqDiff,Int.reduceNeg,mw,t1,t13,encI]
          refine aq.dec (fun hc3=>?_) (fun hc3=>?_)
          · have hF:∀ j,(dC p T s now f (f+i) j || (decide (j < f+i+(r+1)) && gN p T s (f+i) j))=if j=f+i+r then (dC p T s now f (f+i) j || gN p T s (f+i) j) else (dC p T s now f (f+i) j || (decide (j < f+i+r) && gN p T s (f+i) j)):=fun j=>by
              by_cases e:j=f+i+r
              · rw[if_pos e,decide_eq_true (show j < f+i+(r+1) by omega),Bool.true_and]
              · rw[if_neg e]
                congr 2
                simp only[decide_eq_decide]; omega
            have hgd:=qc (l:=ep (p.length+1) fun j=>dC p T s now f (f+i) j || (decide (j < f+i+r) && gN p T s (f+i) j)) (i:=f+i+r) (by rw[iM]; omega)
            rw[DJ (by omega),decide_eq_false (show ¬ f+i+r < f+i+r by omega),Bool.false_and,Bool.or_false] at hgd
            have hsb:=hst (f+i+r)
            rw[decide_eq_true (show f+i≤f+i+r by omega),Bool.true_and] at hsb
            have hcr:cell[f+i+r]?=some (cell.getD (f+i+r) false):=by simp[List.getD_eq_getElem?_getD,show f+i+r < cell.length by omega]
            have hset:∀ v,v=(dC p T s now f (f+i) (f+i+r) || gN p T s (f+i) (f+i+r))→(bB (ep (p.length+1) fun j=>dC p T s now f (f+i) j || (decide (j < f+i+r) && gN p T s (f+i) j))).set (f+i+r) [gb v]=bB (ep (p.length+1) fun j=>dC p T s now f (f+i) j || (decide (j < f+i+(r+1)) && gN p T s (f+i) j)):=fun v hv=>by
              rw[dN,Fh]
              refine congrArg bB (jQ fun j _=>?_)
              rw[hF]
              by_cases e:j=f+i+r
              · subst e; rw[if_pos rfl,if_pos rfl,hv]
              · rw[if_neg e,if_neg e]
            rw[hsb] at hset
            generalize cell.getD (f+i+r) false=cv at hcr hset
            generalize dC p T s now f (f+i) (f+i+r)=pv at hgd hset
            simp (disch:=omega) only [↓wr,↓reduceIte,wq,Nat.reduceEqDiff,Nat.reduceLT,Int.reduceNeg,t11,t13,hd,hgd]
            refine ⟨by omega,by rw[iM]; omega,?_⟩
            refine aq.split (fun hpv=>?_) (fun hpv=>?_)
            · simp (disch:=omega) only [↓wr,↓reduceIte,wq,ah,aa,Nat.reduceEqDiff,Nat.reduceLeDiff,Int.reduceNeg,reduceCtorEq,t9,t10,t11,t12,t13,hd]
              refine ⟨by omega,by rw[iM]; omega,aK hu (by omega) ⟨by simp[View.set,hbd,hb],?_,t9,t11,t0,t1,t2,t3,t10,t12,rfl⟩⟩
              simp only[View.set,if_true]
              rw[hgd,← hset true (by rw[hpv]; rfl)]; rfl
            · simp (disch:=omega) only [↓wr,↓reduceIte,wq,ah,aa,Nat.reduceEqDiff,Nat.reduceLT,Nat.reduceLeDiff,Int.reduceNeg,reduceCtorEq,t0,t2,t9,t10,t11,t12,t13,encI,kP,bw,List.getElem?_map,hg,hrow,hcell,hcr,hd]
              refine ⟨by omega,by rw[iM]; omega,aK hu (by omega) ⟨by simp[View.set,hbd,hb],?_,t9,t11,t0,t1,t2,t3,t10,t12,rfl⟩⟩
              simp only[View.set,if_true]
              rw[hgd,← hset cv (by rw[hpv]; rfl)]; rfl
          · simp (disch:=omega) only [↓wr,↓reduceIte,wq,Nat.reduceEqDiff,reduceCtorEq,t9,t10,t11,t12]
            have hr:f+i+r=p.length+1:=by omega
            refine aK hm (by omega) ⟨hb,?_,t9,t11,t0,t1,t2,t3,t10,rfl⟩
            rw[hd,← Nat.add_assoc]
            refine congrArg (fun l=>bN.arr 1 (bB l)) (jQ fun j hj=>?_)
            rw[hpb,hr,decide_eq_true hj,Bool.true_and]
      · subst hbn
        simp only[Bool.false_and,Bool.or_false] at hpb
        simp (disch:=omega) only [↓wr,↓reduceIte,wq,ah,Nat.reduceEqDiff,reduceCtorEq,t9,t10,t11,t12]
        refine aK hm (by omega) ⟨hb,?_,t9,t11,t0,t1,t2,t3,t10,by rfl⟩
        rw[hd,← Nat.add_assoc]
        exact congrArg (fun l=>bN.arr 1 (bB l)) (jQ fun j _=>(hpb j).symm)
    · have hi:f+i=p.length+1:=by omega
      rw[hi] at hd
      simp (disch:=omega) only [↓wr,↓reduceIte,wq,Nat.reduceEqDiff,reduceCtorEq,t9,t10,t11]
      refine aK hk (by omega) ⟨d,rfl,?_,t0,t1,t2,t3,rfl⟩
      rw[hf2]; exact hd
  · have e:q=l.length:=by omega
    subst e
    rw[List.take_length] at hb hnl
    simp (disch:=omega) only [↓wr,↓reduceIte,wq,Nat.reduceEqDiff,reduceCtorEq,t9]
    intro h' hh
    have:=jB (h:=h') (id:=b) (is:=jd p T l f) (by rw[hh]; exact hb)
    rwa [Cv] at this
def zL (T:Tb) (n i j:Nat):Prop:=i≤j∧fa T n i j=true
theorem Cz {p:List Int} {T:Tb} {s:Int} {a j:Nat} : gN p T s a j=true↔stepT p (zL T) s a j:=by
  unfold gN stepT
  split
  · simp only[Bool.and_eq_true,decide_eq_true_eq,Bool.or_eq_true,beq_iff_eq]
    constructor
    · rintro ⟨⟨h1,h2⟩,h3⟩
      exact ⟨⟨p.getD a 0,by simp[List.getD_eq_getElem?_getD,h1],h2⟩,h3⟩
    · rintro ⟨⟨c,hc,h2⟩,h3⟩
      have h1:=(List.getElem?_eq_some_iff.1 hc).1
      have:p.getD a 0=c:=by simp[List.getD_eq_getElem?_getD,hc]
      exact ⟨⟨h1,by rw[this]; exact h2⟩,h3⟩
  · simp only[Bool.and_eq_true,decide_eq_true_eq]; rfl
theorem Eb {T:Tb} : ∀ n i j,zL T n i j→i≤j:=fun _ _ _ h=>h.1
theorem DS {p:List Int} {T:Tb} {f:Nat} (hf:f≤p.length):∀ (l pre:List Int) (now:List Bool),(∀ j,j≤p.length→(now.getD j false=true↔In p (zL T) pre f j)) →
    ∀ j,j≤p.length→((l.foldl (kT p T f) now).getD j false=true↔In p (zL T) (pre ++ l) f j)
  | [],pre,now,h,j,hj=>by rw[List.append_nil]; exact h j hj
  | s :: l,pre,now,h,j,hj=>by
    have h2:∀ j,j≤p.length→((kT p T f now s).getD j false=true↔In p (zL T) (pre ++ [s]) f j):=fun j hj=>by
      rw[kT,DJ (by omega),In.snoc]
      simp only[dC,List.any_eq_true,List.mem_range,Bool.and_eq_true,decide_eq_true_eq]
      constructor
      · rintro ⟨a,ha,⟨_,h3⟩,h4⟩
        exact ⟨a,(h a (by omega)).1 h3,Cz.1 h4⟩
      · rintro ⟨a,h3,h4⟩
        have hle:=h3.le Eb
        have ha:a≤p.length:=by
          have h5:=h4
          unfold stepT at h5
          split at h5
          · omega
          · have:=h5.1; omega
        exact ⟨a,by omega,⟨hle,(h a ha).2 h3⟩,Cz.2 h4⟩
    have:=DS hf l (pre ++ [s]) (kT p T f now s) h2 j hj
    rwa [List.append_assoc] at this
theorem DT {p:List Int} {T:Tb} {l:List Int} {f:Nat} (hf:f≤p.length) {j:Nat} (hj:j≤p.length):(jd p T l f).getD j false=true↔In p (zL T) l f j:=by
  have:=DS (T:=T) hf l [] (ep (p.length+1) fun j=>decide (j=f)) (fun j hj=>by
    rw[DJ (by omega),decide_eq_true_eq]
    constructor
    · rintro rfl; exact .nil _
    · intro h; cases h; rfl) j hj
  exact this
open Classical in
noncomputable def yh (g:an) (p:List Int):Tb:=(List.range g.av.length).map fun (n:Nat)=>(List.range (p.length+1)).map fun (i:Nat)=>(List.range (p.length+1)).map fun (j:Nat)=>decide (Sp g p [-1 - (n:Int)] i j)
theorem JB (g:an) (p:List Int):hD (yh g p) g.av.length (p.length+1):=by
  refine ⟨by simp[yh],fun r hr=>?_⟩
  simp only[yh,List.mem_map] at hr
  obtain ⟨n,_,rfl⟩:=hr
  refine ⟨by simp,fun c hc=>?_⟩
  simp only[List.mem_map] at hc
  obtain ⟨i,_,rfl⟩:=hc
  simp
theorem Ih {g:an} {p:List Int} {n i j:Nat} (hn:n < g.av.length) (hi:i≤p.length) (hj:j≤p.length):fa (yh g p) n i j=true↔Sp g p [-1 - (n:Int)] i j:=by
  simp[fa,yh,List.getD_eq_getElem?_getD,hn,show i < p.length+1 by omega,show j < p.length+1 by omega]
theorem OK {S T:Tb} {N M:Nat} (hS:hD S N M) (hT:hD T N M) (h:∀ n i j,n < N→i < M→j < M→fa S n i j=fa T n i j):S=T:=by
  apply List.ext_getElem (by rw[hS.1,hT.1])
  intro n h1 h2
  have hn:n < N:=by rw[← hS.1]; exact h1
  have a1:=(hS.2 _ (List.getElem_mem h1)).1
  have a2:=(hT.2 _ (List.getElem_mem h2)).1
  apply List.ext_getElem (by rw[a1,a2])
  intro i h3 h4
  have hi:i < M:=by omega
  have b1:=(hS.2 _ (List.getElem_mem h1)).2 _ (List.getElem_mem h3)
  have b2:=(hT.2 _ (List.getElem_mem h2)).2 _ (List.getElem_mem h4)
  apply List.ext_getElem (by rw[b1,b2])
  intro j h5 h6
  have:=h n i j hn hi (by omega)
  simpa [fa,List.getD_eq_getElem?_getD,h1,h2,h3,h4,h5,h6] using this
theorem O1 {g:an} {p:List Int} {T:Tb} (hf:∀ r∈g.rules,0≤r.left) (hl:∀ r∈g.rules,r.left < g.av.length) (hT:hD T g.av.length (p.length+1)) (hs:∀ n i j,zL T n i j→Sp g p [-1 - (n:Int)] i j)
    (ht:∀ n i j,fa T n i j=true→i≤j) (hc:∀ R∈g.rules,∀ i j,i≤j→j≤p.length→(jd p T R.right i).getD j false=true→fa T R.left.toNat i j=true):T=yh g p:=by
  refine OK hT (JB g p) fun n i j hn hi hj=>?_
  rw[Bool.eq_iff_iff,Ih hn (by omega) (by omega)]
  have hc':∀ R∈g.rules,∀ i j,i≤p.length→In p (zL T) R.right i j→zL T R.left.toNat i j:=fun R hR i j hi h=>by
    have hle:=h.le Eb
    have hlen:=(L0 hs h).len hi
    exact ⟨hle,hc R hR i j hle hlen ((DT hi hlen).2 h)⟩
  rw[← Hv hf hs hc' (by omega)]
  exact ⟨fun h=>⟨ht n i j h,h⟩,fun h=>h.2⟩
structure mg (H:View) (I N M:Nat) (R:Nat→Nat) (C:Nat→Nat→Nat) (T:Tb):Prop where
  top:H I=.arr 1 ((List.range N).map fun n=>[.sl (R n) 0 M 1])
  row:∀ n,n < N→H (R n)=.arr 1 ((List.range M).map fun i=>[.sl (C n i) 0 M 1])
  cell:∀ n i,n < N→i < M→H (C n i)=.arr 1 (bB ((T.getD n []).getD i []))
  inj:∀ n i n' i',n < N→i < M→n' < N→i' < M→C n i=C n' i'→n=n'∧i=i'
theorem yW {c:List Bool} {k:Nat} {F:Nat→List V} (hc:0 < c.length) (h:bB c=(List.range k).map F) (hF:∀ n x,F n≠[gb x]):False:=by
  cases c with
  | nil=>simp at hc
  | cons x c =>
    cases k with
    | zero=>simp at h
    | succ k =>
      rw[List.range_succ_eq_map] at h
      simp only[List.map_cons,List.cons.injEq] at h
      exact hF 0 x h.1.symm
theorem mg.keep {H H':View} {I N M:Nat} {R:Nat→Nat} {C:Nat→Nat→Nat} {T:Tb} (h:mg H I N M R C T) (hk:∀ id,H id≠.dead→H' id=H id):mg H' I N M R C T :=
  ⟨by rw[hk _ (by rw[h.top]; simp)]; exact h.top,fun n hn=>by rw[hk _ (by rw[h.row n hn]; simp)]; exact h.row n hn,fun n i hn hi=>by rw[hk _ (by rw[h.cell n i hn hi]; simp)]; exact h.cell n i hn hi,h.inj⟩
theorem mg.put {H:View} {I N M:Nat} {R:Nat→Nat} {C:Nat→Nat→Nat} {T:Tb} (h:mg H I N M R C T) (hT:hD T N M) {n i j:Nat} (hn:n < N) (hi:i < M) (hj:j < M) :
    mg (H.set (C n i) (.arr 1 (bB (((T.getD n []).getD i []).set j true)))) I N M R C (mA T n i j):=by
  obtain ⟨r,c,hr,hc,hcl,hg⟩:=hT.cell hn hi
  have hcell:=h.cell n i hn hi
  rw[hg] at hcell
  have e1:I≠C n i:=fun e=>by
    have:=h.top
    rw[e,hcell] at this
    simp only[bN.arr.injEq,true_and] at this
    exact yW (by omega) this fun _ _=>by simp
  have e2:∀ m,m < N→R m≠C n i:=fun m hm e=>by
    have:=h.row m hm
    rw[e,hcell] at this
    simp only[bN.arr.injEq,true_and] at this
    exact yW (by omega) this fun _ _=>by simp
  refine ⟨by simp only[View.set,if_neg e1]; exact h.top,fun m hm=>by simp only[View.set,if_neg (e2 m hm)]; exact h.row m hm,fun m q hm hq=>?_,h.inj⟩
  obtain ⟨r',hr',hrl,hg'⟩:=hT.row hn
  rw[hr] at hr'; simp at hr'; subst hr'
  have hnl:n < T.length:=by rw[hT.1]; exact hn
  by_cases e:C m q=C n i
  · obtain ⟨rfl,rfl⟩:=h.inj m q n i hm hq hn hi e
    simp only[View.set,if_true]
    congr 2
    rw[mA]
    simp[List.getD_eq_getElem?_getD,hnl]
    rw[List.getElem?_set]
    have:q < T[m].length:=by
      have:=(List.getElem?_eq_some_iff.1 hr).2
      rw[this,hrl]; exact hq
    simp[this]
  · simp only[View.set,if_neg e]
    rw[h.cell m q hm hq]
    congr 2
    rw[mA]
    by_cases em:n=m
    · subst em
      have eq:i≠q:=fun e'=>e (by rw[e'])
      simp[List.getD_eq_getElem?_getD,hnl,eq]
    · simp[List.getD_eq_getElem?_getD,em]
theorem mg.OM {h:aE} {I N M:Nat} {R:Nat→Nat} {C:Nat→Nat→Nat} {T:Tb} (hG:mg h.view I N M R C T) (hT:hD T N M):c7 h (.sl I 0 N 1) (kP T):=by
  refine .sl I 0 N 1 1 _ _ hG.top (by simp) (by simp[hT.1]) (fun n hn=>?_) (fun n j hn hj=>?_)
  · obtain ⟨r,hr,_⟩:=hT.row hn
    simp[List.getD_eq_getElem?_getD,hr,hn]
  · obtain ⟨r,hr,hrl,hrg⟩:=hT.row hn
    have e1:((T.map fun r=>[V.aY (r.map fun c=>[bw c])]).getD n [])=[V.aY (r.map fun c=>[bw c])]:=by simp[List.getD_eq_getElem?_getD,hr]
    have e2:(((List.range N).map fun n=>[V.sl (R n) 0 M 1]).getD (0+n) [])=[V.sl (R n) 0 M 1]:=by simp[List.getD_eq_getElem?_getD,hn]
    rw[e1] at hj ⊢
    rw[e2]
    have:j=0:=by simp at hj; omega
    subst this
    simp only[List.getD_cons_zero]
    refine .sl (R n) 0 M 1 1 _ _ (hG.row n hn) (by simp) (by simp[hrl]) (fun i hi=>?_) (fun i q hi hq=>?_)
    · simp[List.getD_eq_getElem?_getD,hi,show i < r.length by omega]
    · have hic:i < r.length:=by omega
      have f1:((r.map fun c=>[bw c]).getD i [])=[bw r[i]]:=by simp[List.getD_eq_getElem?_getD,hic]
      have f2:(((List.range M).map fun i=>[V.sl (C n i) 0 M 1]).getD (0+i) [])=[V.sl (C n i) 0 M 1]:=by simp[List.getD_eq_getElem?_getD,hi]
      rw[f1] at hq ⊢
      rw[f2]
      have:q=0:=by simp at hq; omega
      subst this
      simp only[List.getD_cons_zero]
      have hcell:=hG.cell n i hn hi
      have e3:(T.getD n []).getD i []=r[i]:=by rw[hrg]; simp[List.getD_eq_getElem?_getD,hic]
      rw[e3] at hcell
      have hcl:=(hT.2 r (List.mem_of_getElem? hr)).2 _ (List.getElem_mem hic)
      have:=jB (h:=h) (id:=C n i) (is:=r[i]) hcell
      rwa [hcl] at this
theorem c7.pF {h:aE} {v t:V} (f:c7 h v t):Fr h v t:=by
  induction f with
  | val v=>exact .tree _ (.val v)
  | emp k=>exact .emp k
  | sl id off len esz z es es' hH hle hlen hl _ ih=>exact .sl id off len esz z es es' hH hle hlen hl ih
  | agg cs cs' hl _ ih=>exact .agg cs cs' hl ih
  | bo cs cs' hl _ ih=>exact .bo cs cs' hl ih
theorem mg.zd {H:View} {I N M:Nat} {R:Nat→Nat} {C:Nat→Nat→Nat} {T:Tb} (hG:mg H I N M R C T) (hT:hD T N M):di H (.sl I 0 N 1) (kP T):=by
  rintro h rfl
  exact (hG.OM hT).pF
structure LV (H:View) (I N M k:Nat) (R:Nat→Nat) (C:Nat→Nat→Nat):Prop where
  top:H I=.arr 1 ((List.range N).map fun n=>[if n < k then .sl (R n) 0 M 1 else .emp 1])
  row:∀ n,n < k→H (R n)=.arr 1 ((List.range M).map fun i=>[.sl (C n i) 0 M 1])
  cell:∀ n i,n < k→i < M→H (C n i)=.arr 1 (List.replicate M [gb false])
  inj:∀ n i n' i',n < k→i < M→n' < k→i' < M→C n i=C n' i'→n=n'∧i=i'
  ne:∀ n,n < k→I≠R n
structure Bx (H:View) (I N M k:Nat) (R:Nat→Nat) (C:Nat→Nat→Nat) (r i:Nat) (D:Nat→Nat):Prop where
  top:H I=.arr 1 ((List.range N).map fun n=>[if n < k then .sl (R n) 0 M 1 else if n=k then .sl r 0 M 1 else .emp 1])
  row:∀ n,n < k→H (R n)=.arr 1 ((List.range M).map fun i=>[.sl (C n i) 0 M 1])
  cell:∀ n i,n < k→i < M→H (C n i)=.arr 1 (List.replicate M [gb false])
  inj:∀ n i n' i',n < k→i < M→n' < k→i' < M→C n i=C n' i'→n=n'∧i=i'
  ne:∀ n,n < k→I≠R n
  K3:H r=.arr 1 ((List.range M).map fun j=>[if j < i then .sl (D j) 0 M 1 else .emp 1])
  CZ:∀ j,j < i→H (D j)=.arr 1 (List.replicate M [gb false])
  OY:∀ j j',j < i→j' < i→D j=D j'→j=j'
  BU:I≠r∧(∀ n,n < k→R n≠r)∧∀ n q j,n < k→q < M→j < i→C n q≠D j
theorem AL {M i:Nat} {F:Nat→List V} {v:List V} : ((List.range M).map F).set i v=(List.range M).map fun j=>if j=i then v else F j:=by
  apply List.ext_getElem (by simp)
  intro j h1 h2
  simp only[List.getElem_set,List.getElem_map,List.getElem_range]
  by_cases e:i=j
  · subst e; simp
  · rw[if_neg e,if_neg (Ne.symm e)]
theorem qM {M i:Nat} {F:Nat→List V} (h:i < M):((List.range M).map F).getD i []=F i:=by simp[List.getD_eq_getElem?_getD,h]
theorem LV.done {H:View} {I N M:Nat} {R:Nat→Nat} {C:Nat→Nat→Nat} (h:LV H I N M N R C):mg H I N M R C (w7 N M):=by
  refine ⟨?_,h.row,fun n i hn hi=>?_,h.inj⟩
  · rw[h.top]
    congr 1
    apply List.map_congr_left
    intro n hn
    rw[if_pos (by simpa using hn)]
  · rw[h.cell n i hn hi]
    simp[w7,List.getD_eq_getElem?_getD,hn,hi]
theorem Bx.Ow {H:View} {I N M k:Nat} {R:Nat→Nat} {C:Nat→Nat→Nat} {r:Nat} {D:Nat→Nat} (h:Bx H I N M k R C r M D):LV H I N M (k+1) (fun n=>if n=k then r else R n) (fun n=>if n=k then D else C n):=by
  refine ⟨?_,fun n hn=>?_,fun n i hn hi=>?_,fun n i n' i' hn hi hn' hi' e=>?_,fun n hn=>?_⟩
  · rw[h.top]
    congr 1
    apply List.map_congr_left
    intro n _
    by_cases e1:n < k
    · rw[if_pos e1,if_pos (by omega),if_neg (by omega)]
    · by_cases e2:n=k
      · rw[if_neg e1,if_pos e2,if_pos (by omega),if_pos e2]
      · rw[if_neg e1,if_neg e2,if_neg (by omega)]
  · by_cases e:n=k
    · simp only[if_pos e]
      rw[h.K3]
      congr 1
      apply List.map_congr_left
      intro i hi
      rw[if_pos (by simpa using hi)]
    · simp only[if_neg e]; exact h.row n (by omega)
  · by_cases e:n=k
    · simp only[if_pos e]; exact h.CZ i hi
    · simp only[if_neg e]; exact h.cell n i (by omega) hi
  · by_cases e1:n=k
    · by_cases e2:n'=k
      · simp only[if_pos e1,if_pos e2] at e
        exact ⟨by omega,h.OY i i' hi hi' e⟩
      · simp only[if_pos e1,if_neg e2] at e
        exact absurd e.symm (h.BU.2.2 n' i' i (by omega) hi' hi)
    · by_cases e2:n'=k
      · simp only[if_neg e1,if_pos e2] at e
        exact absurd e (h.BU.2.2 n i i' (by omega) hi hi')
      · simp only[if_neg e1,if_neg e2] at e
        exact h.inj n i n' i' (by omega) hi (by omega) hi' e
  · by_cases e:n=k
    · simp only[if_pos e]; exact h.BU.1
    · simp only[if_neg e]; exact h.ne n (by omega)
theorem Bx.next {H H':View} {I N M k:Nat} {R:Nat→Nat} {C:Nat→Nat→Nat} {r i d:Nat} {D:Nat→Nat} (h:Bx H I N M k R C r i D) (hN:0 < N) (hM:0 < M) (hd:H d=.dead)
    (hr':H' r=.arr 1 (((List.range M).map fun j=>[if j < i then V.sl (D j) 0 M 1 else .emp 1]).set i [.sl d 0 M 1])) (hd':H' d=.arr 1 (List.replicate M [gb false])) (ho:∀ id,H id≠.dead→id≠r→H' id=H id) :
    Bx H' I N M k R C r (i+1) (fun j=>if j=i then d else D j):=by
  have live:∀ id,H id≠.dead→id≠d:=fun id hid e=>by subst e; exact hid hd
  have boolr:∀ id,H id=.arr 1 (List.replicate M [gb false])→id≠r:=fun id hid e=>by
    rw[e,h.K3] at hid
    simp only[bN.arr.injEq,true_and] at hid
    have:=congrArg (·[0]?) hid
    simp[hM] at this
    split at this <;> simp at this
  refine ⟨?_,fun n hn=>?_,fun n q hn hq=>?_,h.inj,h.ne,?_,fun j hj=>?_,fun j j' hj hj' e=>?_,⟨h.BU.1,h.BU.2.1,fun n q j hn hq hj=>?_⟩⟩
  · rw[ho I (by rw[h.top]; simp) h.BU.1]; exact h.top
  · rw[ho _ (by rw[h.row n hn]; simp) (h.BU.2.1 n hn)]; exact h.row n hn
  · have:=h.cell n q hn hq
    rw[ho _ (by rw[this]; simp) (boolr _ this)]; exact this
  · rw[hr',AL]
    congr 1
    apply List.map_congr_left
    intro j _
    by_cases e:j=i
    · rw[if_pos e,if_pos (by omega),if_pos e]
    · rw[if_neg e]
      by_cases e2:j < i
      · rw[if_pos e2,if_pos (by omega),if_neg e]
      · rw[if_neg e2,if_neg (by omega)]
  · by_cases e:j=i
    · simp only[if_pos e]; exact hd'
    · simp only[if_neg e]
      have:=h.CZ j (by omega)
      rw[ho _ (by rw[this]; simp) (boolr _ this)]; exact this
  · by_cases e1:j=i
    · by_cases e2:j'=i
      · omega
      · simp only[if_pos e1,if_neg e2] at e
        exact absurd e.symm (live _ (by rw[h.CZ j' (by omega)]; simp))
    · by_cases e2:j'=i
      · simp only[if_neg e1,if_pos e2] at e
        exact absurd e (live _ (by rw[h.CZ j (by omega)]; simp))
      · simp only[if_neg e1,if_neg e2] at e
        exact h.OY j j' (by omega) (by omega) e
  · by_cases e:j=i
    · simp only[if_pos e]; exact live _ (by rw[h.cell n q hn hq]; simp)
    · simp only[if_neg e]; exact h.BU.2.2 n q j hn hq (by omega)
theorem AY:∀ (l:List Nat) (i v:Nat) (h:i < l.length),(l.set i v).sum+l[i]=l.sum+v
  | x :: l,0,v,_=>by simp; omega
  | x :: l,i+1,v,h=>by
    have:=AY l i v (by simpa using h)
    simp; omega
theorem Dq:∀ (l:List Nat) (b:Nat),(∀ x∈l,x≤b)→l.sum≤l.length * b
  | [],_,_=>by simp
  | x :: l,b,h=>by
    have h1:=Dq l b fun y hy=>h y (by simp[hy])
    have h2:=h x (by simp)
    simp only[List.sum_cons,List.length_cons,Nat.add_mul]; omega
theorem BC:∀ (c:List Bool) (j:Nat),j < c.length→c.getD j false=false→cr (c.set j true)=cr c+1
  | x :: c,0,_,h=>by
    have:x=false:=by simpa using h
    subst this
    simp[cr]
  | x :: c,j+1,hj,h=>by
    have:=BC c j (by simpa using hj) (by simpa using h)
    unfold cr at this ⊢
    simp only[List.set_cons_succ,List.countP_cons,this]; omega
def yP (r:List (List Bool)):Nat:=(r.map cr).sum
def nJ (T:Tb):Nat:=(T.map yP).sum
theorem DY {T:Tb} {N M:Nat} (h:hD T N M):nJ T≤N * (M * M):=by
  have:=Dq (T.map yP) (M * M) (fun x hx=>by
    obtain ⟨r,hr,rfl⟩:=List.mem_map.1 hx
    have:=Dq (r.map cr) M (fun y hy=>by
      obtain ⟨c,hc,rfl⟩:=List.mem_map.1 hy
      rw[← (h.2 r hr).2 c hc]; exact qY c)
    rw[List.length_map,(h.2 r hr).1] at this
    exact this)
  rw[List.length_map,h.1] at this
  exact this
theorem Mi {T:Tb} {N M n i j:Nat} (h:hD T N M) (hn:n < N) (hi:i < M) (hj:j < M) (hf:fa T n i j=false):nJ (mA T n i j)=nJ T+1:=by
  obtain ⟨r,c,hr,hc,hcl,hg⟩:=h.cell hn hi
  obtain ⟨r',hr',hrl,hg'⟩:=h.row hn
  rw[hr] at hr'; simp at hr'; subst hr'
  have hcc:r.getD i []=c:=by rw[← hg']; exact hg
  have hnl:n < T.length:=by rw[h.1]; exact hn
  have hil:i < r.length:=by omega
  have hTn:T[n]=r:=(List.getElem?_eq_some_iff.1 hr).2
  have hri:r[i]=c:=(List.getElem?_eq_some_iff.1 hc).2
  have h1:cr (c.set j true)=cr c+1:=BC c j (by omega) (by rw[← hg]; exact hf)
  have h2:yP (r.set i (c.set j true))=yP r+1:=by
    have:=AY (r.map cr) i (cr (c.set j true)) (by simpa using hil)
    unfold yP
    rw[List.map_set]
    simp only[List.getElem_map,hri] at this
    omega
  have:=AY (T.map yP) n (yP (r.set i (c.set j true))) (by simpa using hnl)
  unfold nJ mA
  rw[hg',hcc,List.map_set]
  simp only[List.getElem_map,hTn] at this
  omega
def o8:SC :=
  .seq (.seq (al [ae 31 7,ae 32 1,aL 33 32,aR 34 .leq 31 33]) <|
  .cond (.tmp 34) (.skip) (.exit 2)) <|
  .seq (.block 3 (al [ae 37 5,ae 38 6,aP 39 1 37 38,ao 40 39,ae 41 7,ae 42 1,aL 43 42,az 44 .add 43 1,((some 45),.op (.make 1 1 [(.val (.bool false))] (.tmp 44) (.tmp 44))),aP 46 1 40 41,(none,.op (.store 1 (.tmp 46) (.tmp 45)))])) <|
  al [ae 35 7,az 36 .add 35 1,ae 7 36]
def oG:SC :=
  .seq (.seq (al [ae 18 6,ae 19 5,aL 20 19,aR 21 .lss 18 20]) <|
  .cond (.tmp 21) (.skip) (.exit 0)) <|
  .seq (.block 1 (.seq (al [ae 24 5,ae 25 6,ae 26 1,aL 27 26,az 28 .add 27 1,((some 29),.op (.make 1 24 [(.emp 1)] (.tmp 28) (.tmp 28))),aP 30 1 24 25,(none,.op (.store 1 (.tmp 30) (.tmp 29)))]) <|
  .seq (al [aH 7 0]) <|
  .block 2 (.loop o8))) <|
  al [ae 22 6,az 23 .add 22 1,ae 6 23]
def oT:SC :=
  .seq (.seq (al [ae 73 13,ae 74 1,aL 75 74,aR 76 .leq 73 75]) <|
  .cond (.tmp 76) (.skip) (.exit 10)) <|
  .seq (.block 11 (.seq (.region false [⟨none,[ae 79 12,ae 80 13,aP 81 1 79 80,ao 82 81,ae 83 82]⟩,⟨(some (83,true)),[ae 84 5,au 85 0 10,ao 86 85,aP 87 1 84 86,ao 88 87,ae 89 11,aP 90 1 88 89,ao 91 90,ae 92 13,aP 93 1 91 92,ao 94 93,bZ 95 94]⟩,⟨none,[bO 96 83 95]⟩]) <|
  .cond (.tmp 96) (.seq (al [ae 97 5,au 98 0 10,ao 99 98,aP 100 1 97 99,ao 101 100,ae 102 11,aP 103 1 101 102,ao 104 103,ae 105 13,aP 106 1 104 105,(none,.op (.store 1 (.tmp 106) (.val (.val (.bool true)))))]) <|
  al [aV 8 true]) (.skip))) <|
  al [ae 77 13,az 78 .add 77 1,ae 13 78]
def oJ:SC :=
  .seq (.seq (al [ae 60 11,ae 61 1,aL 62 61,aR 63 .leq 60 62]) <|
  .cond (.tmp 63) (.skip) (.exit 8)) <|
  .seq (.block 9 (.seq (al [au 66 1 10,ao 67 66,ae 68 1,ae 69 5,ae 70 11,aN 71 175 [67,68,69,70],ae 12 71]) <|
  .seq (al [ae 72 11,ae 13 72]) <|
  .block 10 (.loop oT))) <|
  al [ae 64 11,az 65 .add 64 1,ae 11 65]
def oA:SC :=
  .seq (.seq (al [ae 48 9,au 49 2 2,ao 50 49,aL 51 50,aR 52 .lss 48 51]) <|
  .cond (.tmp 52) (.skip) (.exit 6)) <|
  .seq (.block 7 (.seq (al [au 55 2 2,ao 56 55,ae 57 9,aP 58 3 56 57,aU 59 3 58,((some 10),.op (.alloc [(.val (.int .i64 0)),(.emp 1),(.val (.int .i64 0))])),(none,.op (.store 3 (.tmp 10) (.tmp 59)))]) <|
  .seq (al [aH 11 0]) <|
  .block 8 (.loop oJ))) <|
  al [ae 53 9,az 54 .add 53 1,ae 9 54]
def jA:SC :=
  .seq (.seq (al [ae 47 8]) <|
  .cond (.tmp 47) (.skip) (.exit 4)) <|
  .block 5 (.seq (al [aV 8 false]) <|
  .seq (al [aH 9 0]) <|
  .block 6 (.loop oA))
def qA:SF:=⟨.seq (al [cM 2 0,((some 4),.op (.bc (.val (.emp 1))))]) <|
  .seq (al [au 14 1 2,ao 15 14,aL 16 15,((some 17),.op (.make 1 24 [(.emp 1)] (.tmp 16) (.tmp 16))),ae 5 17]) <|
  .seq (.seq (al [aH 6 0]) <|
  .block 0 (.loop oG)) <|
  .seq (al [aV 8 true]) <|
  .seq (.block 4 (.loop jA)) <|
  .seq (al [ae 107 5,ae 4 107]) <|
  .ret,
  [.tmp 4],108⟩
theorem vH:aW Tryz.prog 119 [2]=some qA:=by kernel_rfl
def JT (g:an) (p:List Int) (I:Nat) (R:Nat→Nat) (C:Nat→Nat→Nat) (T0:Tb) (D:Prop) (T:Env) (H:View):Prop :=
  ∃ T1,mg H I g.av.length (p.length+1) R C T1∧hD T1 g.av.length (p.length+1)∧(∀ n i j,fa T1 n i j=true→i≤j∧Sp g p [-1 - (n:Int)] i j) ∧
    ((T 8=gb false∧T1=T0∧D)∨(T 8=gb true∧nJ T0 < nJ T1))∧T 1=encI p∧T 2=.aS (ar g) 0∧T 5=.sl I 0 g.av.length 1
def iQ (p:List Int) (T0:Tb) (r:aQ) (f:Nat):Prop:=∀ j,f≤j→j≤p.length→(jd p T0 r.right f).getD j false=true→fa T0 r.left.toNat f j=true
set_option maxHeartbeats 4000000 in
theorem PO (g:an) (hg:g.Ok) (hf:g.iw) (p:List Int) (hp:p.length≤1000):cd Tryz.prog 119 [.agg (ar g),encI p] (kP (yh g p)):=by
  have z1:=hf.p8
  have z2:=hf.av
  have z3:=hf.rules
  refine cd.of (by
    intro v hv; simp at hv
    rcases hv with rfl | rfl
    · exact cE _ (cR g)
    · exact bQ p) ?_
  refine aA.of mixed vH ?_
  have hM:((p.length:Int)+1).toNat=p.length+1:=by omega
  simp (disch:=omega) only [↓wr,↓reduceIte,wq,ai,ak,Nat.reduceEqDiff,Nat.reduceAdd,Nat.reduceLT,Nat.reduceLeDiff,qA,ar,encS]
  refine ⟨⟨by omega,by unfold aI; omega,by unfold aI; omega⟩,fun h=>by omega,?_⟩
  intro _ I
  try simp (disch:=omega) only [↓wr,↓reduceIte,wq,ai,ah,ak,aa,af,ag,aj,isNil,Nat.reduceEqDiff,Nat.reduceAdd,Nat.reduceLT,Nat.reduceLeDiff,Int.reduceNeg,Int.reduceToNat,reduceCtorEq,ar,encS]
  refine bb.up g.av.length (fun k T' H'=>(∃ R C,LV H' I g.av.length (p.length+1) k R C)∧T' 1=encI p∧T' 2=.aS (ar g) 0∧T' 5=.sl I 0 g.av.length 1∧T' 6=gi k) ?_ ?_
  · refine ⟨⟨fun _=>0,fun _ _=>0,⟨?_,fun n hn=>by omega,fun n i hn=>by omega,fun n i n' i' hn=>by omega,fun n hn=>by omega⟩⟩,rfl,rfl,rfl,rfl⟩
    simp[View.set]
    apply List.ext_getElem (by simp)
    intro n h1 h2
    simp
  rintro k m T' H hk ⟨⟨R,C,hB⟩,t1,t2,t5,t6⟩
  simp (disch:=omega) only [↓wr,↓reduceIte,wq,ah,ak,Nat.reduceEqDiff,oG,t5,t6]
  refine aq.dec (fun hc=>?_) (fun hc=>?_)
  · have ht:=hB.top
    simp (disch:=omega) only [↓wr,↓reduceIte,wq,ah,ak,aa,Nat.reduceEqDiff,Nat.reduceLeDiff,t1,t5,t6,encI,ht]
    refine ⟨⟨by omega,by unfold aI; omega,by unfold aI; omega⟩,fun h=>by omega,?_⟩
    intro _ r hr
    have hIr:I≠r:=by rintro rfl; rw[ht] at hr; simp at hr
    try simp (disch:=omega) only [↓wr,↓reduceIte,wq,Nat.reduceEqDiff,Nat.reduceLeDiff,hM,hIr]
    refine ⟨by omega,by simp; omega,?_⟩
    try simp (disch:=omega) only [↓wr,↓reduceIte,wq,ai,ah,ak,aa,af,ag,aj,isNil,Nat.reduceEqDiff,Nat.reduceAdd,Nat.reduceLT,Nat.reduceLeDiff,Int.reduceNeg,Int.reduceToNat,reduceCtorEq,t1,t2,t5,t6,encI,ht,hM,hIr]
    refine bb.up (p.length+1) (fun i T' H'=>(∃ D,Bx H' I g.av.length (p.length+1) k R C r i D)∧T' 1=encI p∧T' 2=.aS (ar g) 0∧T' 5=.sl I 0 g.av.length 1∧T' 6=gi k∧T' 7=gi i) ?_ ?_
    · refine ⟨⟨fun _=>0,?_⟩,t1,t2,t5,t6,rfl⟩
      have old:∀ id,H id≠.dead→id≠I→∀ o1 o2,((H.set r o1).set I o2) id=H id:=fun id hid hI o1 o2=>by
        have:id≠r:=by rintro rfl; exact hid hr
        simp[View.set,hI,this]
      have rne:∀ n,n < k→R n≠r:=fun n hn e=>by have:=hB.row n hn; rw[e,hr] at this; simp at this
      have cI:∀ n i,n < k→i < p.length+1→C n i≠I:=fun n i hn hi e=>by
        have h1:=hB.cell n i hn hi
        rw[e,ht] at h1
        simp only[bN.arr.injEq,true_and] at h1
        have:=congrArg (·[0]?) h1
        simp[show 0 < g.av.length by omega] at this
        split at this <;> simp at this
      refine ⟨?_,fun n hn=>?_,fun n i hn hi=>?_,hB.inj,hB.ne,?_,fun j hj=>by omega,fun j j' hj=>by omega,⟨hIr,rne,fun n q j _ _ hj=>by omega⟩⟩
      · simp only[View.set,if_true]
        rw[qM (by omega)]
        simp only[List.drop_succ_cons,List.drop_nil]
        rw[AL]
        congr 1
        apply List.map_congr_left
        intro n _
        by_cases e1:n=k
        · rw[if_pos e1,if_neg (by omega),if_pos e1]
        · rw[if_neg e1]
          by_cases e2:n < k
          · rw[if_pos e2,if_pos e2]
          · rw[if_neg e2,if_neg e2,if_neg e1]
      · rw[old _ (by rw[hB.row n hn]; simp) (hB.ne n hn).symm]; exact hB.row n hn
      · rw[old _ (by rw[hB.cell n i hn hi]; simp) (cI n i hn hi)]; exact hB.cell n i hn hi
      · simp only[View.set,if_neg hIr.symm,if_true]
        congr 1
        apply List.ext_getElem (by simp)
        intro n h1 h2
        simp
    clear ht hr hB t1 t2 t5 t6
    rintro i q T' H hq ⟨⟨D,hB⟩,t1,t2,t5,t6,t7⟩
    simp (disch:=omega) only [↓wr,↓reduceIte,wq,ah,ak,Nat.reduceEqDiff,o8,t1,t7,encI]
    refine aq.dec (fun hc2=>?_) (fun hc2=>?_)
    · have ht:=hB.top
      have htg:=qM (F:=fun n=>[if n < k then V.sl (R n) 0 (p.length+1) 1 else if n=k then .sl r 0 (p.length+1) 1 else .emp 1]) (show k < g.av.length by omega)
      simp only[if_neg (show ¬ k < k by omega),if_true] at htg
      have hrr:=hB.K3
      simp (disch:=omega) only [↓wr,↓reduceIte,wq,ah,ak,aa,Nat.reduceEqDiff,Nat.reduceLT,t1,t5,t6,t7,encI,ht,htg]
      refine ⟨by omega,by simp; omega,⟨by omega,by unfold aI; omega,by unfold aI; omega⟩,fun h=>by omega,?_⟩
      intro _ d hd
      have hrd:r≠d:=by rintro rfl; rw[hrr] at hd; simp at hd
      try simp (disch:=omega) only [↓wr,↓reduceIte,wq,ah,Nat.reduceEqDiff,Nat.reduceLeDiff,reduceCtorEq,t6,t7,hM,hrr,hrd]
      refine ⟨by omega,by simp; omega,aK hq (by omega) ⟨⟨_,hB.next (d:=d) (by omega) (by omega) hd ?_ ?_ ?_⟩,t1,t2,t5,t6,rfl⟩⟩
      · simp only[View.set,if_true]
        rw[qM (by omega)]; rfl
      · simp only[View.set,if_neg hrd.symm,if_true]; rfl
      · intro id hid hidr
        have:id≠d:=by rintro rfl; exact hid hd
        simp[View.set,hidr,this]
    · simp (disch:=omega) only [↓wr,↓reduceIte,wq,Nat.reduceEqDiff,reduceCtorEq,t6]
      have hi':i=p.length+1:=by omega
      subst hi'
      exact aK hk (by omega) ⟨⟨_,_,hB.Ow⟩,t1,t2,t5,rfl⟩
  · simp (disch:=omega) only [↓wr,↓reduceIte,wq,Nat.reduceEqDiff,reduceCtorEq]
    have hk':k=g.av.length:=by omega
    subst hk'
    have hG:=hB.done
    refine bb.intro (fun k T' H'=>∃ T0,mg H' I g.av.length (p.length+1) R C T0∧hD T0 g.av.length (p.length+1)∧(∀ n i j,fa T0 n i j=true→i≤j∧Sp g p [-1 - (n:Int)] i j) ∧
      ((T' 8=gb true∧k+nJ T0=g.av.length * ((p.length+1) * (p.length+1))+1)∨(T' 8=gb false∧∀ r∈g.rules,∀ f,f≤p.length→iQ p T0 r f))∧T' 1=encI p∧T' 2=.aS (ar g) 0∧T' 5=.sl I 0 g.av.length 1) (g.av.length * ((p.length+1) * (p.length+1))+1 - nJ (w7 g.av.length (p.length+1))) ?_ ?_
    · have:=DY (Fl g.av.length (p.length+1))
      exact ⟨_,hG,Fl _ _,fun n i j h=>by rw[NR] at h; simp at h,.inl ⟨rfl,by omega⟩,t1,t2,t5⟩
    clear hB hG t1 t2 t5 t6
    rintro k T' H ⟨T0,hG,hok,hsd,h8,t1,t2,t5⟩
    rcases h8 with ⟨t8,hcnt⟩ | ⟨t8,hcl⟩
    · simp (disch:=omega) only [↓wr,↓reduceIte,wq,Int.reduceNeg,reduceCtorEq,jA,t8]
      refine bb.up g.rules.length (fun i T' H'=>JT g p I R C T0 (∀ q r,q < i→g.rules[q]?=some r→∀ f,f≤p.length→iQ p T0 r f) T' H'∧T' 9=gi i) ⟨⟨T0,hG,hok,hsd,.inl ⟨rfl,rfl,fun q r hq=>by omega⟩,t1,t2,t5⟩,rfl⟩ ?_
      clear hG t1 t2 t5 t8
      rintro i m T' H hm ⟨⟨T1,hG,hok1,hsd1,h8,t1,t2,t5⟩,t9⟩
      simp (disch:=omega) only [↓wr,↓reduceIte,wq,ah,ak,Nat.reduceEqDiff,Nat.reduceAdd,Nat.reduceLT,Int.reduceNeg,oA,t2,t9,ar]
      refine aq.dec (fun hc2=>?_) (fun hc2=>?_)
      · have hg2:g.rules[i]?=some (g.rules[i]'(by omega)):=List.getElem?_eq_getElem (by omega)
        have hmem:g.rules[i]'(by omega)∈g.rules:=List.getElem_mem _
        generalize g.rules[i]'(by omega)=r at hg2 hmem
        simp (disch:=omega) only [↓wr,↓reduceIte,wq,aa,Nat.reduceEqDiff,Nat.reduceAdd,Nat.reduceLT,Nat.reduceLeDiff,Int.reduceNeg,t2,t9,ar,aO,encI,List.getElem?_map,hg2]
        intro b hb
        try simp (disch:=omega) only [↓wr,↓reduceIte,wq,ai,ah,ak,aa,af,ag,aj,isNil,Nat.reduceEqDiff,Nat.reduceAdd,Nat.reduceLT,Nat.reduceLeDiff,Int.reduceNeg,Int.reduceToNat,reduceCtorEq,t1,t2,t5,t9]
        have hl:=hf.left r hmem
        have hrw:=hg.bd r hmem
        refine bb.up (p.length+1) (fun f T' H'=>JT g p I R C T0 ((∀ q r,q < i→g.rules[q]?=some r→∀ f,f≤p.length→iQ p T0 r f)∧∀ f',f' < f→iQ p T0 r f') T' H'∧T' 9=gi i∧T' 10=.ptr b 0 0∧H' b=.arr 3 [aO r]∧T' 11=gi f) ?_ ?_
        · refine ⟨⟨T1,hG.keep fun id hid=>?_,hok1,hsd1,?_,t1,t2,t5⟩,t9,rfl,by simp[View.set,aO,encI],rfl⟩
          · have:id≠b:=by rintro rfl; exact hid hb
            simp[View.set,this]
          · rcases h8 with ⟨a,b,c⟩ | h
            · exact .inl ⟨a,b,c,fun f' hf'=>by omega⟩
            · exact .inr h
        clear hG h8 t1 t2 t5 t9 hb hok1 hsd1
        rintro f u T' H hu ⟨⟨T1,hG,hok1,hsd1,h8,t1,t2,t5⟩,t9,t10,hb,t11⟩
        simp (disch:=omega) only [↓wr,↓reduceIte,wq,ah,ak,Nat.reduceEqDiff,Int.reduceNeg,oJ,t1,t11,encI]
        refine aq.dec (fun hc3=>?_) (fun hc3=>?_)
        · simp (disch:=omega) only [↓wr,↓reduceIte,wq,Nat.reduceEqDiff,Nat.reduceAdd,Nat.reduceLT,Int.reduceNeg,t1,t5,t10,t11,hb,aO,encI]
          have hen:=NM r.right p T1 f g.av.length hrw.2.2.1 hp hok1 (by omega) (fun x hx=>⟨hrw.2.2.2 x hx,fun hn=>hf.neg hmem hx hn⟩)
          refine aF.rE hen (by kernel_rfl) ⟨di.tree (bQ r.right),di.tree (bQ p),hG.zd hok1,di.tree (.val _),trivial⟩ ?_
          have hel:=Cv p T1 r.right f
          have hls:∀ j,j≤p.length→(jd p T1 r.right f).getD j false=true→f≤j∧Sp g p r.right f j:=fun j hj he=>by
            have h1:=(DT (show f≤p.length by omega) hj).1 he
            exact ⟨h1.le Eb,L0 (fun n i j h=>(hsd1 n i j h.2).2) h1⟩
          have hl0:T1=T0→jd p T1 r.right f=jd p T0 r.right f:=fun e=>by rw[e]
          have h8':(T' 8=gb false∧T1=T0∧((∀ q r,q < i→g.rules[q]?=some r→∀ f,f≤p.length→iQ p T0 r f)∧∀ f',f' < f→iQ p T0 r f')∧jd p T1 r.right f=jd p T0 r.right f)∨(T' 8=gb true∧nJ T0 < nJ T1):=by
            rcases h8 with ⟨a,b,c⟩ | h
            · exact .inl ⟨a,b,c,hl0 b⟩
            · exact .inr h
          clear h8 hl0
          generalize jd p T1 r.right f=lst at hel hls h8'
          simp (disch:=omega) only [↓wr,↓reduceIte,wq,Nat.reduceEqDiff,Int.reduceNeg,t11]
          refine bb.up (p.length+1 - f) (fun s T' H'=>JT g p I R C T0 (((∀ q r,q < i→g.rules[q]?=some r→∀ f,f≤p.length→iQ p T0 r f)∧∀ f',f' < f→iQ p T0 r f')∧lst=jd p T0 r.right f∧∀ j,f≤j→j < f+s→lst.getD j false=true→fa T0 r.left.toNat f j=true) T' H'∧T' 9=gi i∧T' 10=.ptr b 0 0∧H' b=.arr 3 [aO r]∧T' 11=gi f∧T' 12=bw lst∧T' 13=gi ((f+s:Nat):Int)) ?_ ?_
          · refine ⟨⟨T1,hG,hok1,hsd1,?_,t1,t2,t5⟩,t9,t10,hb,t11,rfl,rfl⟩
            rcases h8' with ⟨a,b,c,d⟩ | h
            · exact .inl ⟨a,b,c,d,fun j h1 h2=>by omega⟩
            · exact .inr h
          clear hG h8' t1 t2 t5 t9 t10 t11 hb hok1 hsd1
          rintro s w T' H hw ⟨⟨T1,hG,hok1,hsd1,h8,t1,t2,t5⟩,t9,t10,hb,t11,t12,t13⟩
          simp (disch:=omega) only [↓wr,↓reduceIte,wq,ah,ak,Nat.reduceEqDiff,Int.reduceNeg,oT,t1,t13,encI]
          refine aq.dec (fun hc4=>?_) (fun hc4=>?_)
          · have hgl:lst[f+s]?=some (lst.getD (f+s) false):=by simp[List.getD_eq_getElem?_getD,show f+s < lst.length by omega]
            have hls':=hls (f+s) (by omega)
            simp (disch:=omega) only [↓wr,↓reduceIte,wq,Nat.reduceEqDiff,Nat.reduceLT,Int.reduceNeg,t12,t13,bw,List.getElem?_map,hgl]
            generalize hlve:lst.getD (f+s) false=lv at hls'
            have hln:r.left.toNat < g.av.length:=by omega
            have ht:=hG.top
            have htg:=qM (F:=fun n=>[V.sl (R n) 0 (p.length+1) 1]) hln
            have hro:=hG.row r.left.toNat hln
            have hrg:=qM (F:=fun i=>[V.sl (C r.left.toNat i) 0 (p.length+1) 1]) (show f < p.length+1 by omega)
            have hce:=hG.cell r.left.toNat f hln (by omega)
            obtain ⟨row,cell,hrow,hcell,hcl,hcg⟩:=hok1.cell hln (show f < p.length+1 by omega)
            rw[hcg] at hce
            have hcd:=qc (l:=cell) (i:=f+s) (by omega)
            have htb:fa T1 r.left.toNat f (f+s)=cell.getD (f+s) false:=by rw[fa,hcg]
            have hkeep:∀ (lv':Bool),(lv'=true→fa T1 r.left.toNat f (f+s)=true)→lst.getD (f+s) false=lv'→((T' 8=gb false∧T1=T0∧((∀ q r,q < i→g.rules[q]?=some r→∀ f,f≤p.length→iQ p T0 r f)∧∀ f',f' < f→iQ p T0 r f')∧lst=jd p T0 r.right f∧∀ j,f≤j→j < f+(s+1)→lst.getD j false=true→fa T0 r.left.toNat f j=true)∨(T' 8=gb true∧nJ T0 < nJ T1)):=fun lv' hlv hlv2=>by
              rcases h8 with ⟨a,b,c,d,e⟩ | h
              · refine .inl ⟨a,b,c,d,fun j h1 h2 h3=>?_⟩
                by_cases ej:j=f+s
                · subst ej
                  rw[hlv2] at h3
                  rw[← b]; exact hlv h3
                · exact e j h1 (by omega) h3
              · exact .inr h
            refine aq.split (fun hlv=>?_) (fun hlv=>?_)
            · subst hlv
              obtain ⟨_,hsp⟩:=hls' rfl
              simp (disch:=omega) only [↓wr,↓reduceIte,wq,Nat.reduceEqDiff,Nat.reduceAdd,Nat.reduceLT,Int.reduceNeg,t5,t10,t11,t13,hb,aO,ht,htg,hro,hrg,hce,hcd]
              refine ⟨by omega,by simp; omega,?_⟩
              try simp (disch:=omega) only [↓wr,↓reduceIte,wq,ai,ah,ak,aa,af,ag,aj,isNil,Nat.reduceEqDiff,Nat.reduceAdd,Nat.reduceLT,Nat.reduceLeDiff,Int.reduceNeg,Int.reduceToNat,reduceCtorEq,t1,t2,t5,t9,t10,t11,t12,t13,hb,aO,ht,htg,hro,hrg,hce,hcd]
              refine ⟨by omega,by simp; omega,by omega,by omega,?_⟩
              refine aq.split (fun hcv=>?_) (fun hcv=>?_)
              · simp (disch:=omega) only [↓wr,↓reduceIte,wq,ah,Nat.reduceEqDiff,Int.reduceNeg,reduceCtorEq,t1,t2,t5,t9,t11,t13]
                exact aK hw (by omega) ⟨⟨T1,hG,hok1,hsd1,hkeep true (fun _=>by rw[htb]; exact hcv) hlve,t1,t2,t5⟩,t9,t10,hb,t11,t12,rfl⟩
              · simp (disch:=omega) only [↓wr,↓reduceIte,wq,ah,aa,Nat.reduceEqDiff,Nat.reduceAdd,Nat.reduceLT,Nat.reduceLeDiff,Int.reduceNeg,reduceCtorEq,t1,t2,t5,t9,t10,t11,t13,hb,aO,ht,htg,hro,hrg,hce,hcd]
                refine ⟨by omega,by simp; omega,?_⟩
                try simp (disch:=omega) only [↓wr,↓reduceIte,wq,ai,ah,ak,aa,af,ag,aj,isNil,Nat.reduceEqDiff,Nat.reduceAdd,Nat.reduceLT,Nat.reduceLeDiff,Int.reduceNeg,Int.reduceToNat,reduceCtorEq,t1,t2,t5,t9,t10,t11,t12,t13,hb,aO,ht,htg,hro,hrg,hce,hcd]
                refine ⟨by omega,by simp; omega,by omega,by omega,?_⟩
                have hput:=hG.put hok1 hln (show f < p.length+1 by omega) (show f+s < p.length+1 by omega)
                have hcs:=Mi hok1 hln (show f < p.length+1 by omega) (show f+s < p.length+1 by omega) (by rw[htb]; exact hcv)
                rw[hcg,← dN] at hput
                have hbC:b≠C r.left.toNat f:=fun e=>by rw[e,hce] at hb; simp at hb
                refine aK hw (by omega) ⟨⟨mA T1 r.left.toNat f (f+s),?_,KS hok1 hln (by omega),fun n i' j' h=>?_,.inr ⟨rfl,?_⟩,t1,t2,t5⟩,t9,t10,by simp[View.set,hbC,hb,aO],t11,t12,rfl⟩
                · exact hput
                · rw[KL hok1 hln (by omega) (by omega)] at h
                  split at h
                  · rename_i e
                    obtain ⟨rfl,rfl,rfl⟩:=e
                    refine ⟨by omega,?_⟩
                    exact .bU _ _ r _ _ _ (by omega) hmem (by omega) hsp (.nil _)
                  · exact hsd1 n i' j' h
                · rcases h8 with ⟨_,e,_⟩ | ⟨_,e⟩
                  · rw[hcs,e]; omega
                  · omega
            · subst hlv
              simp (disch:=omega) only [↓wr,↓reduceIte,wq,ah,Nat.reduceEqDiff,Int.reduceNeg,reduceCtorEq,t1,t2,t5,t9,t11,t13]
              exact aK hw (by omega) ⟨⟨T1,hG,hok1,hsd1,hkeep false (fun h=>by simp at h) hlve,t1,t2,t5⟩,t9,t10,hb,t11,t12,rfl⟩
          · simp (disch:=omega) only [↓wr,↓reduceIte,wq,Nat.reduceEqDiff,Int.reduceNeg,reduceCtorEq,t1,t2,t5,t9,t11]
            refine aK hu (by omega) ⟨⟨T1,hG,hok1,hsd1,?_,t1,t2,t5⟩,t9,t10,hb,rfl⟩
            rcases h8 with ⟨a,b,c,d,e⟩ | h
            · refine .inl ⟨a,b,c.1,fun f' hf'=>?_⟩
              by_cases ef:f'=f
              · subst ef
                exact fun j h1 h2 h3=>e j h1 (by omega) (by rw[d]; exact h3)
              · exact c.2 f' (by omega)
            · exact .inr h
        · simp (disch:=omega) only [↓wr,↓reduceIte,wq,Nat.reduceEqDiff,Int.reduceNeg,reduceCtorEq,t1,t2,t5,t9]
          refine aK hm (by omega) ⟨⟨T1,hG,hok1,hsd1,?_,t1,t2,t5⟩,rfl⟩
          rcases h8 with ⟨a,b,c,d⟩ | h
          · refine .inl ⟨a,b,fun q r' hq hr' f' hf'=>?_⟩
            by_cases eq:q=i
            · subst eq
              rw[hg2] at hr'; simp at hr'; subst hr'
              exact d f' (by omega)
            · exact c q r' (by omega) hr' f' hf'
          · exact .inr h
      · simp (disch:=omega) only [↓wr,↓reduceIte,wq,Nat.reduceEqDiff,Int.reduceNeg,reduceCtorEq,t1,t2,t5]
        rcases h8 with ⟨a,b,c⟩ | ⟨a,b⟩
        · subst b
          refine ⟨0,by have:=DY hok; omega,T1,hG,hok,hsd,.inr ⟨a,fun r hr f hf'=>?_⟩,rfl⟩
          obtain ⟨q,hq,hqe⟩:=List.getElem_of_mem hr
          exact c q r (by omega) (by rw[List.getElem?_eq_getElem hq,hqe]) f hf'
        · have:=DY hok1
          exact ⟨g.av.length * ((p.length+1) * (p.length+1))+1 - nJ T1,by omega,T1,hG,hok1,hsd1,.inl ⟨a,by omega⟩,rfl⟩
    · simp (disch:=omega) only [↓wr,↓reduceIte,wq,Nat.reduceEqDiff,Int.reduceNeg,reduceCtorEq,jA,t5,t8]
      intro h' hh
      have hT:T0=yh g p:=O1 (fun r hr=>(hf.left r hr).1) (fun r hr=>(hf.left r hr).2) hok (fun n i j h=>(hsd n i j h.2).2) (fun n i j h=>(hsd n i j h).1) fun r hr f j hfj hj he=>hcl r hr f (by omega) j hfj hj he
      rw[← hT]
      exact mg.OM (by rw[hh]; exact hG) hok
def wZ (g:an) (p:List Int):Bool:=p.all fun x=>decide (-1≤x) && decide (x < g.ax.length)
noncomputable def uY (g:an) (p:List Int):Bool:=fa (yh g p) g.start.toNat 0 p.length
noncomputable def zU (g:an) (p:List Int):Bool × Int:=if (bp g && decide (p.length≤60) && wZ g p)=true then (uY g p,0) else (false,1)
def AU (x:Bool × Int):V:=.bo [gb x.1,gi x.2]
theorem BN (x:Bool × Int):Tree (AU x):=HW (.val _) (.val _)
theorem KW {g:an} (hr:bp g=true) (p:List Int):uY g p=true↔Sp g p [-1 - g.start] 0 p.length:=by
  have hf:=aZ hr
  have h0:=hf.dW
  have h1:=hf.start
  rw[uY,Ih (by omega) (by omega) (by omega)]
  rw[show ((g.start.toNat:Nat):Int)=g.start by omega]
def mS:SC :=
  .seq (.seq (al [ae 15 6,ae 16 1,aL 17 16,aR 18 .lss 15 17]) <|
  .cond (.tmp 18) (.skip) (.exit 0)) <|
  .seq (.block 1 (.seq (.region false [⟨none,[ae 21 1,ae 22 6,aP 23 1 21 22,ao 24 23,az 25 .lss 24 (-1),ae 26 25]⟩,⟨(some (26,false)),[ae 27 1,ae 28 6,aP 29 1 27 28,ao 30 29,au 31 0 2,ao 32 31,aL 33 32,aR 34 .geq 30 33]⟩,⟨none,[bC 35 26 34]⟩]) <|
  .cond (.tmp 35) (.seq (al [aV 4 false,aH 5 1]) <|
  .ret) (.skip))) <|
  al [ae 19 6,az 20 .add 19 1,ae 6 20]
def pj:SF:=⟨.seq (al [cM 2 0,aV 4 false,aH 5 0]) <|
  .seq (.seq (.region false [⟨none,[aU 7 4 2,aN 8 48 [7],bZ 9 8,ae 10 9]⟩,⟨(some (10,false)),[ae 11 1,aL 12 11,az 13 .gtr 12 60]⟩,⟨none,[bC 14 10 13]⟩]) <|
  .cond (.tmp 14) (.seq (al [aV 4 false,aH 5 1]) <|
  .ret) (.skip)) <|
  .seq (.seq (al [aH 6 0]) <|
  .block 0 (.loop mS)) <|
  .seq (.region true [⟨none,[aU 36 4 2,ae 37 1,aN 38 119 [36,37],au 39 3 2,ao 40 39,aP 41 1 38 40,ao 42 41,((some 43),.op (.idx 1 (.tmp 42) (.val (.val (.int .i64 0))))),ao 44 43,ae 45 1,aL 46 45,aP 47 1 44 46,ao 48 47,ae 4 48,aH 5 0]⟩]) <|
  .ret,
  [.tmp 4,.tmp 5],49⟩
theorem tE:aW Tryz.prog 69 [2]=some pj:=by kernel_rfl
set_option maxHeartbeats 4000000 in
theorem IQ (g:an) (hg:g.Ok) (p:List Int) (hp:aM p) (hn:∀ x∈p,bW x):aD Tryz.prog 69 [.agg (ar g),encI p] (AU (zU g p)):=by
  refine aD.tree (by
    intro v hv; simp at hv
    rcases hv with rfl | rfl
    · exact cE _ (cR g)
    · exact bQ p) (BN _) fun H=>?_
  refine aA.of mixed tE ?_
  unfold aM at hp
  have hgt:=hg.ax
  unfold aM at hgt
  have bad:(bp g && decide (p.length≤60) && wZ g p)=false→AU (zU g p)=.bo [gb false,gi 1]:=fun e=>by
    unfold zU; rw[if_neg (by rw[e]; simp)]; rfl
  simp (disch:=omega) only [↓wr,↓reduceIte,wq,ai,Nat.reduceEqDiff,Nat.reduceAdd,Nat.reduceLeDiff,pj,ar,encS,encI]
  refine aF.pure (jY g hg) (by kernel_rfl) ?_
  simp (disch:=omega) only [↓wr,↓reduceIte,wq]
  refine aq.split (fun hr=>?_) (fun hr=>?_)
  · have hf:=aZ hr
    simp (disch:=omega) only [↓wr,↓reduceIte,wq,ah,ak,Nat.reduceEqDiff]
    refine aq.dec (fun h6=>?_) (fun h6=>?_)
    · simp (disch:=omega) only [↓wr,↓reduceIte,wq,Nat.reduceEqDiff,reduceCtorEq]
      exact (bad (by rw[decide_eq_false (by omega)]; simp)).symm
    · simp (disch:=omega) only [↓wr,wq]
      refine bb.up p.length (fun i T' H'=>wZ g (p.take i)=true∧T' 1=encI p∧T' 2=.aS (ar g) 0∧T' 6=gi i) ⟨rfl,rfl,rfl,rfl⟩ ?_
      rintro i k T' H' hk ⟨hpt,t1,t2,t6⟩
      simp (disch:=omega) only [↓wr,↓reduceIte,wq,ah,ak,Nat.reduceEqDiff,Int.reduceNeg,mS,t1,t6,encI]
      refine aq.dec (fun hc=>?_) (fun hc=>?_)
      · have hg1:p[i]?=some (p[i]'(by omega)):=List.getElem?_eq_getElem (by omega)
        have hmem:p[i]'(by omega)∈p:=List.getElem_mem _
        have htk:p.take (i+1)=p.take i ++ [p[i]'(by omega)]:=by rw[List.take_add_one,hg1]; rfl
        generalize p[i]'(by omega)=x at hg1 hmem htk
        have hpn:wZ g (p.take (i+1))=(decide (-1≤x) && decide (x < g.ax.length)):=by
          unfold wZ at hpt ⊢
          rw[htk,List.all_append,hpt]; simp
        have hbx:(decide (-1≤x) && decide (x < g.ax.length))=false→wZ g p=false:=fun e=>by
          unfold wZ
          rw[List.all_eq_false]
          exact ⟨x,hmem,by rw[e]; simp⟩
        simp (disch:=omega) only [↓wr,↓reduceIte,wq,ah,Nat.reduceEqDiff,Nat.reduceLT,Int.reduceNeg,t1,t6,encI,ar,encS,List.getElem?_map,hg1]
        refine aq.dec (fun h1=>?_) (fun h1=>?_)
        · simp (disch:=omega) only [↓wr,↓reduceIte,wq,ah,Nat.reduceEqDiff,Int.reduceNeg,reduceCtorEq,t1,t2,t6]
          exact (bad (by rw[hbx (by rw[decide_eq_false (by omega)]; rfl),Bool.and_false])).symm
        · simp (disch:=omega) only [↓wr,↓reduceIte,wq,ah,ak,Nat.reduceEqDiff,Nat.reduceAdd,Nat.reduceLT,Int.reduceNeg,t1,t2,t6,encI,ar,encS,List.getElem?_map,hg1]
          refine aq.dec (fun h2=>?_) (fun h2=>?_)
          · simp (disch:=omega) only [↓wr,↓reduceIte,wq,ah,Nat.reduceEqDiff,Int.reduceNeg,reduceCtorEq,t1,t2,t6]
            exact (bad (by rw[hbx (by rw[decide_eq_false (show ¬ x < (g.ax.length:Int) by omega),Bool.and_false]),Bool.and_false])).symm
          · simp (disch:=omega) only [↓wr,↓reduceIte,wq,ah,Nat.reduceEqDiff,Int.reduceNeg,reduceCtorEq,t1,t2,t6]
            exact aK hk (by omega) ⟨by rw[hpn,decide_eq_true (by omega),decide_eq_true (by omega)]; rfl,t1,t2,rfl⟩
      · rw[List.take_of_length_le (by omega)] at hpt
        simp (disch:=omega) only [↓wr,↓reduceIte,wq,Nat.reduceEqDiff,Nat.reduceAdd,Nat.reduceLeDiff,reduceCtorEq,t1,t2,ar,encS]
        have hof:=PO g hg hf p (by omega)
        simp only[ar,encS] at hof
        refine aF.pure hof.pure (by kernel_rfl) ?_
        have h0:=hf.dW
        have h1:=hf.start
        obtain ⟨row,cell,hrow,hcell,hcl,hcg⟩:=(JB g p).cell (n:=g.start.toNat) (i:=0) (by omega) (by omega)
        have hcr:cell[p.length]?=some (uY g p):=by
          rw[uY,fa,hcg]; simp[List.getD_eq_getElem?_getD,show p.length < cell.length by omega]
        have hA:zU g p=(uY g p,0):=if_pos (by rw[hr,hpt,decide_eq_true (by omega)]; rfl)
        generalize yh g p=S at hrow ⊢
        have hc0:cell[(p.length:Int).toNat]?=some (uY g p):=by rw[Int.toNat_natCast]; exact hcr
        simp (disch:=omega) only [↓wr,↓reduceIte,wq,ak,Nat.reduceEqDiff,Nat.reduceAdd,Nat.reduceLT,Int.reduceToNat,reduceCtorEq,t1,t2,encI,ar,encS,kP,bw,List.getElem?_map,hrow,hcell,hcr]
        rw[hA]; rfl
  · simp (disch:=omega) only [↓wr,↓reduceIte,wq,Nat.reduceEqDiff,reduceCtorEq]
    exact (bad (by rw[hr]; simp)).symm
def yJ (g:an) (w:List Int):Bool:=w.all fun x=>decide (0≤x) && decide (x < g.ax.length)
def mz (g:an) (w:List Int):Bool:=bp g && decide (w.length≤60) && yJ g w
theorem qE (g:an) (w:List Int):∀ v∈[V.agg (ar g),encI w],Tree v:=by
  intro v hv; simp at hv
  rcases hv with rfl | rfl
  · exact cE _ (cR g)
  · exact bQ w
def mL:SC :=
  .seq (.seq (al [ae 14 5,ae 15 1,aL 16 15,aR 17 .lss 14 16]) <|
  .cond (.tmp 17) (.skip) (.exit 0)) <|
  .seq (.block 1 (.seq (.region false [⟨none,[ae 20 1,ae 21 5,aP 22 1 20 21,ao 23 22,az 24 .lss 23 0,ae 25 24]⟩,⟨(some (25,false)),[ae 26 1,ae 27 5,aP 28 1 26 27,ao 29 28,au 30 0 2,ao 31 30,aL 32 31,aR 33 .geq 29 32]⟩,⟨none,[bC 34 25 33]⟩]) <|
  .cond (.tmp 34) (.seq (al [aV 4 false]) <|
  .ret) (.skip))) <|
  al [ae 18 5,az 19 .add 18 1,ae 5 19]
def oQ:SF:=⟨.seq (al [cM 2 0,aV 4 false]) <|
  .seq (.seq (.region false [⟨none,[aU 6 4 2,aN 7 48 [6],bZ 8 7,ae 9 8]⟩,⟨(some (9,false)),[ae 10 1,aL 11 10,az 12 .gtr 11 60]⟩,⟨none,[bC 13 9 12]⟩]) <|
  .cond (.tmp 13) (.seq (al [aV 4 false]) <|
  .ret) (.skip)) <|
  .seq (.seq (al [aH 5 0]) <|
  .block 0 (.loop mL)) <|
  .seq (al [aV 4 true]) <|
  .ret,
  [.tmp 4],35⟩
theorem tb:aW Tryz.prog 19 [2]=some oQ:=by kernel_rfl
def pI:SF:=⟨.seq (al [cM 2 0,aV 4 false,aH 5 0]) <|
  .seq (.seq (al [aU 6 4 2,ae 7 1,aN 8 19 [6,7],bZ 9 8]) <|
  .cond (.tmp 9) (.seq (al [aV 4 false,aH 5 1]) <|
  .ret) (.skip)) <|
  .seq (al [aU 10 4 2,ae 11 1,aN 12 69 [10,11],bY 13 0 12,bY 14 1 12,ae 4 13,ae 5 14]) <|
  .ret,
  [.tmp 4,.tmp 5],15⟩
theorem uk:aW Tryz.prog 40 [2]=some pI:=by kernel_rfl
set_option maxHeartbeats 2000000 in
theorem Jj (g:an) (hg:g.Ok) (p:List Int) (hp:aM p) (hn:∀ x∈p,bW x):aD Tryz.prog 19 [.agg (ar g),encI p] (gb (mz g p)):=by
  refine aD.val (qE g p) fun H=>?_
  refine aA.of mixed tb ?_
  unfold aM at hp
  have hgt:=hg.ax
  unfold aM at hgt
  simp (disch:=omega) only [↓wr,↓reduceIte,wq,ai,Nat.reduceEqDiff,Nat.reduceAdd,Nat.reduceLeDiff,oQ,ar,encS,encI]
  refine aF.pure (jY g hg) (by kernel_rfl) ?_
  simp (disch:=omega) only [↓wr,↓reduceIte,wq]
  refine aq.split (fun hr=>?_) (fun hr=>?_)
  · simp (disch:=omega) only [↓wr,↓reduceIte,wq,ah,ak,Nat.reduceEqDiff]
    refine aq.dec (fun h6=>?_) (fun h6=>?_)
    · simp (disch:=omega) only [↓wr,↓reduceIte,wq,reduceCtorEq]
      rw[mz,decide_eq_false (show ¬ p.length≤60 by omega)]; simp
    · simp (disch:=omega) only [↓wr,wq]
      refine bb.up p.length (fun i T' H'=>yJ g (p.take i)=true∧T' 1=encI p∧T' 2=.aS (ar g) 0∧T' 5=gi i) ⟨rfl,rfl,rfl,rfl⟩ ?_
      rintro i k T' H' hk ⟨hpt,t1,t2,t6⟩
      simp (disch:=omega) only [↓wr,↓reduceIte,wq,ah,ak,Nat.reduceEqDiff,reduceCtorEq,mL,t1,t6,encI]
      refine aq.dec (fun hc=>?_) (fun hc=>?_)
      · have hg1:p[i]?=some (p[i]'(by omega)):=List.getElem?_eq_getElem (by omega)
        have hmem:p[i]'(by omega)∈p:=List.getElem_mem _
        have htk:p.take (i+1)=p.take i ++ [p[i]'(by omega)]:=by rw[List.take_add_one,hg1]; rfl
        generalize p[i]'(by omega)=x at hg1 hmem htk
        have hpn:yJ g (p.take (i+1))=(decide (0≤x) && decide (x < g.ax.length)):=by
          unfold yJ at hpt ⊢
          rw[htk,List.all_append,hpt]; simp
        have hbx:(decide (0≤x) && decide (x < g.ax.length))=false→mz g p=false:=fun e=>by
          have:yJ g p=false:=by
            unfold yJ
            rw[List.all_eq_false]
            exact ⟨x,hmem,by rw[e]; simp⟩
          rw[mz,this,Bool.and_false]
        simp (disch:=omega) only [↓wr,↓reduceIte,wq,ah,Nat.reduceEqDiff,Nat.reduceLT,t1,t6,encI,ar,encS,List.getElem?_map,hg1]
        refine aq.dec (fun h1=>?_) (fun h1=>?_)
        · simp (disch:=omega) only [↓wr,↓reduceIte,wq,ah,Nat.reduceEqDiff,reduceCtorEq,t6]
          rw[hbx (by rw[decide_eq_false (by omega)]; rfl)]
        · simp (disch:=omega) only [↓wr,↓reduceIte,wq,ah,ak,Nat.reduceEqDiff,Nat.reduceAdd,Nat.reduceLT,t1,t2,t6,encI,ar,encS,List.getElem?_map,hg1]
          refine aq.dec (fun h2=>?_) (fun h2=>?_)
          · simp (disch:=omega) only [↓wr,↓reduceIte,wq,ah,Nat.reduceEqDiff,reduceCtorEq,t6]
            rw[hbx (by rw[decide_eq_false (show ¬ x < (g.ax.length:Int) by omega),Bool.and_false])]
          · simp (disch:=omega) only [↓wr,↓reduceIte,wq,ah,Nat.reduceEqDiff,reduceCtorEq,t6]
            exact aK hk (by omega) ⟨by rw[hpn,decide_eq_true (by omega),decide_eq_true (by omega)]; rfl,t1,t2,rfl⟩
      · rw[List.take_of_length_le (by omega)] at hpt
        simp (disch:=omega) only [↓wr,↓reduceIte,wq,Nat.reduceEqDiff,reduceCtorEq]
        rw[mz,hr,hpt,decide_eq_true (by omega)]; rfl
  · simp (disch:=omega) only [↓wr,↓reduceIte,wq,Nat.reduceEqDiff,reduceCtorEq]
    rw[mz,hr]; rfl
noncomputable def Hb (g:an) (w:List Int):Bool × Int:=if mz g w=true then (uY g w,0) else (false,1)
theorem Lt {g:an} {w:List Int} (h:mz g w=true):zU g w=(uY g w,0):=by
  unfold mz at h
  simp only[Bool.and_eq_true,decide_eq_true_eq] at h
  refine if_pos ?_
  rw[h.1.1,decide_eq_true h.1.2]
  simp only[Bool.true_and,wZ,List.all_eq_true,Bool.and_eq_true,decide_eq_true_eq]
  intro x hx
  have:=List.all_eq_true.1 h.2 x hx
  simp only[Bool.and_eq_true,decide_eq_true_eq] at this
  omega
theorem J6 (g:an) (hg:g.Ok) (w:List Int) (hw:aM w) (hn:∀ x∈w,bW x):aD Tryz.prog 40 [.agg (ar g),encI w] (AU (Hb g w)):=by
  refine aD.tree (qE g w) (BN _) fun H=>?_
  refine aA.of mixed uk ?_
  simp (disch:=omega) only [↓wr,↓reduceIte,wq,ai,Nat.reduceEqDiff,Nat.reduceAdd,Nat.reduceLeDiff,pI,ar,encS]
  have h1:=Jj g hg w hw hn
  have h2:=IQ g hg w hw hn
  simp only[ar,encS] at h1 h2
  refine aF.pure h1 (by kernel_rfl) ?_
  simp (disch:=omega) only [↓wr,↓reduceIte,wq]
  refine aq.split (fun hb=>?_) (fun hb=>?_)
  · simp (disch:=omega) only [↓wr,↓reduceIte,wq,Nat.reduceEqDiff,Nat.reduceAdd,Nat.reduceLeDiff]
    refine aF.pure h2 (by kernel_rfl) ?_
    rw[Lt hb]
    simp (disch:=omega) only [↓wr,↓reduceIte,wq,Nat.reduceEqDiff,Nat.reduceAdd,Nat.reduceLT,reduceCtorEq,AU]
    rw[Hb,if_pos hb]
  · simp (disch:=omega) only [↓wr,↓reduceIte,wq,Nat.reduceEqDiff,reduceCtorEq]
    rw[Hb,if_neg (by rw[hb]; simp)]; rfl
def Nl (g:an) (o:Option Wk) (r:V) (H:View):Prop:=match o with
  | some x=>1≤x.high∧∃ b,r=.bo [.ptr b 0 0,gi x.high]∧Ey g b x.rest x.word x.post H
  | none=>∃ p,r=.bo [p,gi 0]
set_option maxHeartbeats 4000000 in
theorem IZ (g:an) (hg:g.Ok) (hs:g.Small) (t:List Int) (ht:aM t) (H:View):aA Tryz.prog 170 [.agg (ar g),encI t] H fun r H'=>Nl g (eF g t) r H':=by
  have hc:=lD g hg hs.names
  unfold aM at ht
  refine aA.of mixed AX ?_
  simp only[ar,encS] at hc
  simp (disch:=omega) only [↓wr,↓reduceIte,wq,ai,Nat.reduceEqDiff,Nat.reduceAdd,Nat.reduceLeDiff,yz,ar,encS]
  refine aF.pure hc (by kernel_rfl) ?_
  simp (disch:=omega) only [↓wr,↓reduceIte,wq]
  refine aq.split (fun hr=>?_) (fun hr=>?_)
  · simp (disch:=omega) only [↓wr,↓reduceIte,wq,ah,ak,Nat.reduceEqDiff,encI]
    refine aq.dec (fun hl=>?_) (fun hl=>?_)
    · simp (disch:=omega) only [↓wr,↓reduceIte,wq,Nat.reduceEqDiff,reduceCtorEq]
      rw[eF,if_neg (by rintro ⟨_,h⟩; omega)]
      exact ⟨_,rfl⟩
    · simp (disch:=omega) only [↓wr,↓reduceIte,wq,aa,af,Nat.reduceEqDiff,Nat.reduceAdd,Nat.reduceLT,Nat.reduceLeDiff]
      intro b hb
      have hf:=aZ hr
      have h0:=hf.dW
      have h1:=hf.start
      have hw0:Ey g b t [] [] (H.set b (.arr 7 [fI g t (.emp 1) (.emp 1)])):=by
        refine ⟨.emp 1,.emp 1,?_⟩
        have o:=(bI.nil (H:=H)).new hb 7 [fI g t (.emp 1) (.emp 1)]
        exact (o.perm (.refl _)).perm (.refl _) |> fun o=>⟨fun x hx=>by
          rcases List.mem_cons.1 hx with rfl | hx
          · exact o.head
          · rcases List.mem_cons.1 hx with rfl | hx
            · exact .nil
            · simp at hx; subst hx; exact .nil,by simp[owner]⟩
      have hcall:=M7 g hg hf b t.length g.start t [] [] _ (by omega) h0 h1 (Nat.le_refl _) (by simp; omega) (by simp; omega) hw0
      simp only[fI,encI] at hcall
      try simp (disch:=omega) only [↓wr,↓reduceIte,wq,ai,ah,ak,aa,af,ag,aj,isNil,Nat.reduceEqDiff,Nat.reduceAdd,Nat.reduceLT,Nat.reduceLeDiff,Int.reduceNeg,Int.reduceToNat,reduceCtorEq,encI]
      refine aF.iy (hcall.mono ?_)
      intro r H1 hr1
      have hwh:eF g t=match bF g t.length [-1 - g.start] t with
          | some x=>if x.rest=[] then some x else none
          | none=>none:=by rw[eF,if_pos ⟨hr,by omega⟩]; rfl
      rw[hwh]
      cases hx:bF g t.length [-1 - g.start] t with
      | none =>
        rw[hx] at hr1
        obtain ⟨rfl,rest',W',Po',_,uw,up,ho⟩:=hr1
        have hb1:=ho.is 0 rfl (by simp)
        simp (disch:=omega) only [↓wr,↓reduceIte,wq,ah,ak,Nat.reduceEqDiff,Nat.reduceAdd,Nat.reduceLT,hb1,fI,encI]
        refine aq.dec (fun _=>?_) (fun _=>?_)
        · simp (disch:=omega) only [↓wr,↓reduceIte,wq,Nat.reduceEqDiff,reduceCtorEq]
          exact ⟨_,rfl⟩
        · simp (disch:=omega) only [↓wr,↓reduceIte,wq,Nat.reduceEqDiff,reduceCtorEq]
          exact ⟨_,rfl⟩
      | some x =>
        rw[hx] at hr1
        obtain ⟨rfl,hw1⟩:=hr1
        have hh:=uS (by omega) hx
        have hw2:=hw1
        obtain ⟨uw,up,ho⟩:=hw1
        have hb1:=ho.is 0 rfl (by simp)
        simp (disch:=omega) only [↓wr,↓reduceIte,wq,ah,ak,Nat.reduceEqDiff,Nat.reduceAdd,Nat.reduceLT,hb1,fI,encI]
        refine aq.dec (fun hc=>?_) (fun hc=>?_)
        · simp (disch:=omega) only [↓wr,↓reduceIte,wq,Nat.reduceEqDiff,reduceCtorEq]
          try simp only
          rw[if_neg (by intro e; rw[e] at hc; simp at hc)]
          exact ⟨_,rfl⟩
        · simp (disch:=omega) only [↓wr,↓reduceIte,wq,Nat.reduceEqDiff,reduceCtorEq]
          try simp only
          rw[if_pos (List.length_eq_zero_iff.1 (by omega))]
          exact ⟨hh,b,rfl,by simpa using hw2⟩
  · simp (disch:=omega) only [↓wr,↓reduceIte,wq,Nat.reduceEqDiff,reduceCtorEq]
    rw[eF,if_neg (by rintro ⟨h,_⟩; rw[h] at hr; simp at hr)]
    exact ⟨_,rfl⟩
set_option maxHeartbeats 4000000 in
theorem Kj (g:an) (hg:g.Ok) (hs:g.Small) (t:List Int) (ht:aM t):cd Tryz.prog 111 [.agg (ar g),encI t] (kX (iY g t)):=by
  refine cd.of (qE g t) ?_
  refine aA.of mixed A9 ?_
  have hr:=IZ g hg hs t ht (fun _=>.dead)
  simp only[ar,encS] at hr
  simp (disch:=omega) only [↓wr,↓reduceIte,wq,ai,Nat.reduceEqDiff,Nat.reduceAdd,Nat.reduceLeDiff,x8,ar,encS]
  refine aF.iy (hr.mono ?_)
  intro r H1 hr
  unfold iY
  cases hw:eF g t with
  | none =>
    rw[hw] at hr
    obtain ⟨p,rfl⟩:=hr
    simp (disch:=omega) only [↓wr,↓reduceIte,wq,ah,Nat.reduceEqDiff,Nat.reduceAdd,Nat.reduceLT]
    refine aq.eq (fun _=>?_) (fun e=>absurd rfl e)
    simp (disch:=omega) only [↓wr,↓reduceIte,wq,Nat.reduceEqDiff,reduceCtorEq]
    intro h' _
    exact fv (x:=([],1)) (.emp _)
  | some x =>
    rw[hw] at hr
    obtain ⟨h1,b,rfl,uw,up,ho⟩:=hr
    have hb:=ho.is 0 rfl (by simp)
    simp (disch:=omega) only [↓wr,↓reduceIte,wq,ah,Nat.reduceEqDiff,Nat.reduceAdd,Nat.reduceLT]
    refine aq.eq (fun e=>absurd e (by omega)) (fun _=>?_)
    simp (disch:=omega) only [↓wr,↓reduceIte,wq,Nat.reduceEqDiff,Nat.reduceAdd,Nat.reduceLT,reduceCtorEq,hb,fI]
    rintro h' rfl
    exact fv (x:=(x.word,0)) (ix (ho.own 1 rfl))
end Gv
