/-
  Part 11 of the proof: what the machine does and what the functions answer.
  Conditions: those that each lemma names.
-/
import Derived.ProofKit
import Derived.SizedLaws
import Derived.Test.YtomcjampldmjoaaGreatSGzVJ
set_option linter.unusedSimpArgs false
set_option linter.unusedVariables false
set_option maxRecDepth 100000
namespace Gv
open Go Go.Proofs
def kC:SC :=
  .seq (.seq (al [ae 42 9,ae 43 8,aL 44 43,aR 45 .lss 42 44]) <|
  .cond (.tmp 45) (.skip) (.exit 0)) <|
  .seq (.block 1 (al [ae 48 8,ae 49 9,aP 50 1 48 49,(none,.op (.store 1 (.tmp 50) (.val (.val (.int .i64 (-1))))))])) <|
  al [ae 46 9,az 47 .add 46 1,ae 9 47]
def ky:SC :=
  .seq (.seq (al [ae 51 11,au 52 2 1,ao 53 52,aL 54 53,aR 55 .lss 51 54]) <|
  .cond (.tmp 55) (.skip) (.exit 2)) <|
  .seq (.block 3 (.seq (al [au 58 2 1,ao 59 58,ae 60 11,aP 61 3 59 60,aU 62 3 61,((some 12),.op (.alloc [(.val (.int .i64 0)),(.emp 1),(.val (.int .i64 0))])),(none,.op (.store 3 (.tmp 12) (.tmp 62)))]) <|
  .seq (.seq (.region false [⟨none,[ae 63 6,au 64 0 12,ao 65 64,aP 66 1 63 65,ao 67 66,bZ 68 67,ae 69 68]⟩,⟨(some (69,false)),[au 70 1 12,ao 71 70,ae 72 5,cT 73 117 [(.tmp 71),(.tmp 72),(.val (.val (.bool true)))],bZ 74 73]⟩,⟨none,[bC 75 69 74]⟩]) <|
  .cond (.tmp 75) (.exit 3) (.skip)) <|
  .seq (al [ae 76 10,ae 77 11,((some 78),.op (.bJ 1 1 [(.val (.int .i64 0))] [(0,(.tmp 77))])),((some 79),.op (.app 1 8 (.tmp 76) (.tmp 78))),ae 10 79]) <|
  .seq (al [ae 80 8,au 81 0 12,ao 82 81,aP 83 1 80 82,ao 84 83,az 85 .lss 84 0]) <|
  .cond (.tmp 85) (.seq (al [ae 86 8,au 87 0 12,ao 88 87,au 89 1 7,ao 90 89,aL 91 90,aP 92 1 86 88,(none,.op (.store 1 (.tmp 92) (.tmp 91)))]) <|
  .region false [⟨none,[au 93 1 7,ao 94 93,au 95 1 1,ao 96 95,au 97 0 12,ao 98 97,aP 99 1 96 98,ao 100 99,((some 101),.op (.bJ 1 1 [(.val (.string ⟨#[]⟩))] [(0,(.tmp 100))])),((some 102),.op (.app 1 16 (.tmp 94) (.tmp 101))),au 103 1 7,(none,.op (.store 1 (.tmp 103) (.tmp 102)))]⟩]) (.skip))) <|
  al [ae 56 11,az 57 .add 56 1,ae 11 57]
def kB:SC :=
  .seq (.seq (al [ae 126 16,au 127 1 14,ao 128 127,aL 129 128,aR 130 .lss 126 129]) <|
  .cond (.tmp 130) (.skip) (.exit 6)) <|
  .seq (.block 7 (.seq (al [au 133 1 14,ao 134 133,ae 135 16,aP 136 1 134 135,ao 137 136,ae 17 137]) <|
  .seq (.seq (al [ae 138 17,az 139 .lss 138 0]) <|
  .cond (.tmp 139) (al [ae 140 8,ae 141 17,((some 142),.op (.arith .sub (.val (.val (.int .i64 (-1)))) (.tmp 141))),aP 143 1 140 142,ao 144 143,((some 145),.op (.arith .sub (.val (.val (.int .i64 (-1)))) (.tmp 144))),ae 17 145]) (.skip)) <|
  al [au 146 1 15,ao 147 146,ae 148 17,((some 149),.op (.bJ 1 1 [(.val (.int .i64 0))] [(0,(.tmp 148))])),((some 150),.op (.app 1 8 (.tmp 147) (.tmp 149))),au 151 1 15,(none,.op (.store 1 (.tmp 151) (.tmp 150)))])) <|
  al [ae 131 16,az 132 .add 131 1,ae 16 132]
def kK:SC :=
  .seq (.seq (al [ae 104 13,ae 105 10,aL 106 105,aR 107 .lss 104 106]) <|
  .cond (.tmp 107) (.skip) (.exit 4)) <|
  .seq (.block 5 (.seq (al [au 110 2 1,ao 111 110,ae 112 10,ae 113 13,aP 114 1 112 113,ao 115 114,aP 116 3 111 115,aU 117 3 116,((some 14),.op (.alloc [(.val (.int .i64 0)),(.emp 1),(.val (.int .i64 0))])),(none,.op (.store 3 (.tmp 14) (.tmp 117)))]) <|
  .seq (al [ae 118 8,au 119 0 14,ao 120 119,aP 121 1 118 120,ao 122 121,au 123 2 14,ao 124 123,((some 125),.op (.build [(.val (.int .i64 0)),(.emp 1),(.val (.int .i64 0))] [(0,1,(.tmp 122)),(2,1,(.tmp 124))])),((some 15),.op (.alloc [(.val (.int .i64 0)),(.emp 1),(.val (.int .i64 0))])),(none,.op (.store 3 (.tmp 15) (.tmp 125)))]) <|
  .seq (.seq (al [aH 16 0]) <|
  .block 6 (.loop kB)) <|
  al [au 152 2 7,ao 153 152,aU 154 3 15,((some 155),.op (.bJ 1 3 [(.val (.int .i64 0)),(.emp 1),(.val (.int .i64 0))] [(0,(.tmp 154))])),((some 156),.op (.app 3 40 (.tmp 153) (.tmp 155))),au 157 2 7,(none,.op (.store 1 (.tmp 157) (.tmp 156)))])) <|
  al [ae 108 13,az 109 .add 108 1,ae 13 109]
def mD:SF:=⟨.seq (al [cM 1 0,((some 2),.op (.alloc [(.emp 1),(.emp 1),(.emp 1),(.val (.int .i64 0))])),((some 3),.op (.bc (.val (.emp 1)))),aH 4 0]) <|
  .seq (.seq (al [aU 18 4 1,aN 19 48 [18],bZ 20 19]) <|
  .cond (.tmp 20) (.seq (al [((some 21),.op (.build [(.emp 1),(.emp 1),(.emp 1),(.val (.int .i64 0))] [])),(none,.op (.store 4 (.tmp 2) (.tmp 21))),((some 3),.op (.bc (.val (.emp 1)))),aH 4 1]) <|
  .ret) (.skip)) <|
  .seq (.region true [⟨none,[aU 22 4 1,aN 23 115 [22],aU 24 4 1,aN 25 116 [24],ae 5 23,ae 6 25]⟩]) <|
  .seq (.seq (al [ae 26 5,au 27 3 1,ao 28 27,aP 29 1 26 28,ao 30 29,bZ 31 30]) <|
  .cond (.tmp 31) (.seq (al [((some 32),.op (.build [(.emp 1),(.emp 1),(.emp 1),(.val (.int .i64 0))] [])),(none,.op (.store 4 (.tmp 2) (.tmp 32))),((some 3),.op (.bc (.val (.emp 1)))),aH 4 9]) <|
  .ret) (.skip)) <|
  .seq (al [((some 33),.op (.bc (.val (.emp 2)))),au 34 0 1,ao 35 34,((some 36),.op (.app 3 32 (.tmp 33) (.tmp 35))),((some 37),.op (.build [(.emp 1),(.emp 1),(.emp 1),(.val (.int .i64 0))] [(0,1,(.tmp 36))])),((some 7),.op (.alloc [(.emp 1),(.emp 1),(.emp 1),(.val (.int .i64 0))])),(none,.op (.store 4 (.tmp 7) (.tmp 37)))]) <|
  .seq (al [au 38 1 1,ao 39 38,aL 40 39,((some 41),.op (.make 1 8 [(.val (.int .i64 0))] (.tmp 40) (.tmp 40))),ae 8 41]) <|
  .seq (.seq (al [aH 9 0]) <|
  .block 0 (.loop kC)) <|
  .seq (al [((some 10),.op (.bc (.val (.emp 1))))]) <|
  .seq (.seq (al [aH 11 0]) <|
  .block 2 (.loop ky)) <|
  .seq (.seq (al [aH 13 0]) <|
  .block 4 (.loop kK)) <|
  .seq (al [ae 158 8,au 159 3 1,ao 160 159,aP 161 1 158 160,ao 162 161,au 163 3 7,(none,.op (.store 1 (.tmp 163) (.tmp 162)))]) <|
  .seq (al [aU 164 4 7,ae 165 10,(none,.op (.store 4 (.tmp 2) (.tmp 164))),ae 3 165,aH 4 0]) <|
  .ret,
  [.cell 2 (some 4),.tmp 3,.tmp 4],166⟩
theorem rb:aW Tryz.prog 67 [1]=some mD:=by kernel_rfl
abbrev bq (l:List Int):List (List V):=l.map fun x=>[gi x]
abbrev jf (l:List ByteArray):List (List V):=l.map fun s=>[gs s]
theorem jM {l:List Int} {i:Nat} (h:i < l.length):(bq l).getD i []=[gi l[i]]:=by simp[List.getD_eq_getElem?_getD,h]
theorem ints_set (l:List Int) (i:Nat) (x:Int):(bq l).set i [gi x]=bq (l.set i x):=by simp[List.map_set]
theorem N2 {l:List Int} (h:0 < l.length):bq l≠[]:=by intro e; rw[List.map_eq_nil_iff] at e; rw[e] at h; simp at h
theorem vw {α:Type} {x:α} : ∀ {l:List α} {i:Nat},i < l.length→(l.set i x).take (i+1)=l.take i ++ [x]
  | y :: l,0,_=>by simp
  | y :: l,i+1,h=>by
    have:=vw (x:=x) (l:=l) (i:=i) (by simpa using h)
    simp only[List.set_cons_succ,List.take_succ_cons,this,List.cons_append]
def dV (n:Nat) (o:List Int):List Int:=(List.range n).map fun (x:Nat)=>bh o (x:Int)
theorem Nm (n:Nat):dV n []=List.replicate n (-1):=by
  apply List.ext_getElem
  · simp[dV]
  · intro i h1 h2
    simp[dV,bh,cK]
theorem xF {n:Nat} {o:List Int} {x:Int} (h0:0≤x) (h1:x < n):(dV n o)[x.toNat]'(by simp[dV]; omega)=bh o x:=by
  simp[dV,show ((x.toNat:Nat):Int)=x by omega]
theorem Mq {n:Nat} {o:List Int} {x:Int} (h0:0≤x) (h1:x < n) (hx:x ∉ o):(dV n o).set x.toNat o.length=dV n (o ++ [x]):=by
  apply List.ext_getElem
  · simp[dV]
  · intro i h2 h3
    rw[List.getElem_set]
    simp only[dV,List.getElem_map,List.getElem_range]
    rw[Ho hx]
    by_cases e:x.toNat=i
    · rw[if_pos e,if_pos (by omega)]
    · rw[if_neg e,if_neg (by omega)]
abbrev xD:=List (V × aQ)
def fB (b:xD):List (List V):=b.map fun x=>[gi x.2.left,x.1,gi x.2.prec]
def kF (b:xD):List fE:=b.map fun x=>(x.1,1,bq x.2.right)
theorem HX {h:aE} {u:V} {b:xD} (ho:aX h.view u 3 (fB b)) (hb:∀ x∈kF b,aX h.view x.1 x.2.1 x.2.2):c7 h u (.aY ((b.map (·.2)).map aO)):=by
  refine c7.own ho (by simp[fB]) (fun i hi=>?_) (fun i j hi hj=>?_)
  all_goals
    simp only[fB,List.length_map] at hi
    have e1:(fB b).getD i []=[gi b[i].2.left,b[i].1,gi b[i].2.prec]:=by simp[fB,List.getD_eq_getElem?_getD,hi]
    have e2:((b.map (·.2)).map aO).getD i []=aO b[i].2:=by simp[List.getD_eq_getElem?_getD,hi]
  · rw[e1,e2]; rfl
  · rw[e1,e2]
    rw[e2] at hj
    have hm:b[i]∈b:=List.getElem_mem _
    have ho:=hb (b[i].1,1,bq b[i].2.right) (List.mem_map.2 ⟨_,hm,rfl⟩)
    match j,hj with
    | 0,_=>exact .val _
    | 1,_=>exact ix ho
    | 2,_=>exact .val _
    | n+3,hj=>exact absurd hj (by simp only[aO,List.length_cons,List.length_nil]; omega)
theorem Lh {h:aE} {u:V} {l:List ByteArray} (ho:aX h.view u 1 (jf l)):c7 h u (encS l):=c7.JM (f:=Value.string) ho
theorem Hs {h:aE} {u:V} {l:List Term} (ho:aX h.view u 3 (l.map ct)):c7 h u (dB l):=by
  refine c7.own ho rfl (fun _ _=>rfl) (fun i j hi hj=>?_)
  simp only[List.length_map] at hi
  have e1:(l.map ct).getD i []=ct l[i]:=by simp[List.getD_eq_getElem?_getD,hi]
  rw[e1] at hj ⊢
  match j,hj with
  | 0,_=>exact .val _
  | 1,_=>exact .val _
  | 2,_=>exact .val _
  | n+3,hj=>exact absurd hj (by simp only[ct,List.length_cons,List.length_nil]; omega)
def ug (x:an × List Int × Int):V:=.bo [.agg (ar x.1),encI x.2.1,gi x.2.2]
theorem uB {h:aE} {e:Int} {k1 k2 k3 k4:Nat} : c7 h (.bo [.agg [.emp k1,.emp k2,.emp k3,gi 0],.emp k4,gi e]) (ug (q6,[],e)):=by
  refine .bo _ _ rfl fun i hi=>?_
  match i,hi with
  | 0,_ =>
    refine .agg _ _ rfl fun j hj=>?_
    match j,hj with
    | 0,_=>exact .emp _
    | 1,_=>exact .emp _
    | 2,_=>exact .emp _
    | 3,_=>exact .val _
    | n+4,hj=>exact absurd hj (by simp only[List.length_cons,List.length_nil]; omega)
  | 1,_=>exact .emp _
  | 2,_=>exact .val _
  | n+3,hi=>exact absurd hi (by simp only[List.length_cons,List.length_nil]; omega)
def Pj (g:an) (p q:List Bool) (b2 b7 b8:Nat) (u0:V) (i:Nat) (T:Env) (H:View):Prop :=
  (∃ u1 u3:V,T 10=u3∧(∀ x∈bL p q (g.rules.take i),0≤x∧x < g.av.length)∧(bL p q (g.rules.take i)).Nodup∧(bL p q (g.rules.take i)).length≤i ∧
    bI H [(.sl b7 0 1 4,4,[[u0,u1,.emp 1,gi 0]]),(.sl b8 0 g.av.length 1,1,bq (dV g.av.length (bL p q (g.rules.take i)))),(u3,1,bq (cq p q (g.rules.take i) 0)),
      (u1,1,jf ((bL p q (g.rules.take i)).map fun x=>g.av.getD x.toNat ⟨#[]⟩)),(u0,3,g.ax.map ct),(.sl b2 0 1 4,4,[[.emp 1,.emp 1,.emp 1,gi 0]])]) ∧
  T 1=.aS (ar g) 0∧T 2=.ptr b2 0 0∧T 5=bw p∧T 6=bw q∧T 7=.ptr b7 0 0∧T 8=.sl b8 0 g.av.length 1∧T 11=gi i
def P3 (g:an) (p q:List Bool) (b2 b7 b8:Nat) (u0 u1 u3:V) (o kl:List Int) (i:Nat) (T:Env) (H:View):Prop :=
  (∃ (u2:V) (bs:xD),bs.map (·.2)=((g.rules.filter (bD p q)).take i).map (bf (bh o)) ∧
    bI H ((.sl b7 0 1 4,4,[[u0,u1,u2,gi 0]]) :: (.sl b8 0 g.av.length 1,1,bq (dV g.av.length o)) :: (u3,1,bq kl) ::
      (u1,1,jf (o.map fun x=>g.av.getD x.toNat ⟨#[]⟩)) :: (u0,3,g.ax.map ct) :: (u2,3,fB bs) :: (.sl b2 0 1 4,4,[[.emp 1,.emp 1,.emp 1,gi 0]]) :: kF bs)) ∧
  T 1=.aS (ar g) 0∧T 2=.ptr b2 0 0∧T 7=.ptr b7 0 0∧T 8=.sl b8 0 g.av.length 1∧T 10=u3∧T 13=gi i
def Qa (g:an) (b2 b7 b8 b14 b15:Nat) (u3:V) (o:List Int) (r:aQ) (L:List fE) (i k:Nat) (T:Env) (H:View):Prop :=
  (∃ v:V,bI H ((.sl b15 0 1 3,3,[[gi (bh o r.left),v,gi r.prec]]) :: (v,1,bq ((bf (bh o) r).right.take k)) :: (.sl b14 0 1 3,3,[aO r]) :: L)) ∧
  T 1=.aS (ar g) 0∧T 2=.ptr b2 0 0∧T 7=.ptr b7 0 0∧T 8=.sl b8 0 g.av.length 1∧T 10=u3∧T 13=gi i∧T 14=.ptr b14 0 0∧T 15=.ptr b15 0 0∧T 16=gi k
theorem FF {h:aE} {u0 u1 u2 u3:V} {x:an × List Int × Int} {b:xD} (h0:aX h.view u0 3 (x.1.ax.map ct)) (h1:aX h.view u1 1 (jf x.1.av)) (h2:aX h.view u2 3 (fB b)) (hb:∀ y∈kF b,aX h.view y.1 y.2.1 y.2.2)
    (hr:b.map (·.2)=x.1.rules) (h3:aX h.view u3 1 (bq x.2.1)):c7 h (.bo [.agg [u0,u1,u2,gi x.1.start],u3,gi x.2.2]) (ug x):=by
  refine .bo _ _ rfl fun i hi=>?_
  match i,hi with
  | 0,_ =>
    refine .agg _ _ rfl fun j hj=>?_
    match j,hj with
    | 0,_=>exact Hs h0
    | 1,_=>exact Lh h1
    | 2,_=>have:=HX h2 hb; rw[hr] at this; exact this
    | 3,_=>exact .val _
    | n+4,hj=>exact absurd hj (by simp only[List.length_cons,List.length_nil]; omega)
  | 1,_=>exact ix h3
  | 2,_=>exact .val _
  | n+3,hi=>exact absurd hi (by simp only[List.length_cons,List.length_nil]; omega)
set_option maxHeartbeats 8000000 in
theorem EU (g:an) (hg:g.Ok):cd Tryz.prog 67 [.agg (ar g)] (ug (eP g)):=by
  refine cd.of (eA g) ?_
  refine aA.of mixed rb ?_
  simp (disch:=omega) only [↓wr,↓reduceIte,wq,ai,Nat.reduceEqDiff,Nat.reduceAdd,Nat.reduceLeDiff,mD,ar,encS]
  intro b2
  try simp (disch:=omega) only [↓wr,↓reduceIte,wq,ai,ah,ak,aa,af,ag,aj,isNil,Nat.reduceEqDiff,Nat.reduceAdd,Nat.reduceLT,Nat.reduceLeDiff,Int.reduceNeg,Int.reduceToNat,reduceCtorEq,ar,encS]
  refine aF.pure (jY g hg) (by kernel_rfl) ?_
  repeat' (first | (refine aq.dec (fun _=>?_) (fun _=>?_)) | (refine aq.eq (fun _=>?_) (fun _=>?_)) | (refine aq.ne (fun _=>?_) (fun _=>?_)) | (refine aq.split (fun _=>?_) (fun _=>?_)) | (simp (disch:=omega) only [↓wr,↓reduceIte,wq,aa,af,Nat.reduceEqDiff,Nat.reduceAdd,Nat.reduceLT,Nat.reduceLeDiff,reduceCtorEq,set_set]))
  · rename_i hr
    refine aF.pure (rI g hg) (by kernel_rfl) ?_
    simp (disch:=omega) only [↓wr,↓reduceIte,wq,Nat.reduceEqDiff,Nat.reduceAdd,Nat.reduceLeDiff]
    refine aF.pure (Bi g hg).pure (by kernel_rfl) ?_
    have hf:=aZ hr
    have h3:=hf.dW
    have h4:=hf.start
    have hpl:=iN hr true
    have hql:=ou hr
    have hred:=mC hr
    generalize aJ g true=p at hpl hred
    generalize bu g=q at hql hred
    have hps:p[g.start.toNat]?=some (p[g.start.toNat]'(by omega)):=List.getElem?_eq_getElem (by omega)
    have hpd:p.getD g.start.toNat false=p[g.start.toNat]'(by omega):=by simp[List.getD_eq_getElem?_getD,hps]
    generalize p[g.start.toNat]'(by omega)=s at hps hpd
    rw[hpd] at hred
    simp (disch:=omega) only [↓wr,↓reduceIte,wq,Nat.reduceEqDiff,Nat.reduceAdd,Nat.reduceLT,bw,List.getElem?_map,hps]
    cases s with
    | false =>
      rw[if_neg (by simp)] at hred
      simp (disch:=omega) only [↓wr,↓reduceIte,wq,aa,af,Nat.reduceEqDiff,Nat.reduceAdd,Nat.reduceLT,Nat.reduceLeDiff,reduceCtorEq,set_set]
      rintro h' hh
      rw[hred]
      exact uB
    | true =>
      rw[if_pos rfl] at hred
      simp (disch:=omega) only [↓wr,↓reduceIte,wq,Nat.reduceEqDiff,Nat.reduceAdd,Nat.reduceLT]
      have hN:=hf.av
      have hN1:=hf.p8
      have hT:=hf.ax
      have hR:=hf.rules
      refine cH (L:=[(.sl b2 0 1 4,4,[[.emp 1,.emp 1,.emp 1,gi 0]])]) (bI.emp (bI.nil.new rfl 4 _)) (by simp[ct,aT]) (by unfold aI; simp; omega) (by unfold aI; simp; omega) ?_
      intro u0 H1 ho1 _
      have c0:=ho1.head.cells
      have k0:=ho1.head.gL
      simp (disch:=omega) only [↓wr,↓reduceIte,wq,ak,aa,af,Nat.reduceEqDiff,Nat.reduceAdd,Nat.reduceLT,Nat.reduceLeDiff,c0,k0]
      intro b7 hb7
      have ho2:=ho1.new hb7 4 [[u0,.emp 1,.emp 1,gi 0]]
      try simp (disch:=omega) only [↓wr,↓reduceIte,wq,ai,ah,ak,aa,af,ag,aj,isNil,Nat.reduceEqDiff,Nat.reduceAdd,Nat.reduceLT,Nat.reduceLeDiff,Int.reduceNeg,Int.reduceToNat,reduceCtorEq,ar,encS,c0,k0,set_set]
      refine ⟨⟨by omega,by unfold aI; omega,by unfold aI; omega⟩,fun h=>by omega,?_⟩
      intro _ b8 hb8
      have hb87:=(cg hb8 ca).1
      have ho3:=ho2.new (n:=b8) (by simp only[View.set,if_neg hb87]; exact (cg (cg hb8 ca).2 ca).2) 1 (bq (List.replicate g.av.length 0))
      try simp (disch:=omega) only [↓wr,↓reduceIte,wq,ai,ah,ak,aa,af,ag,aj,isNil,Nat.reduceEqDiff,Nat.reduceAdd,Nat.reduceLT,Nat.reduceLeDiff,Int.reduceNeg,Int.reduceToNat,reduceCtorEq,ar,encS,c0,k0,set_set]
      refine bb.up g.av.length (fun i T H=>(∃ l:List Int,l.length=g.av.length∧l.take i=List.replicate i (-1) ∧
        bI H [(.sl b8 0 g.av.length 1,1,bq l),(.sl b7 0 1 4,4,[[u0,.emp 1,.emp 1,gi 0]]),(u0,3,g.ax.map ct),(.sl b2 0 1 4,4,[[.emp 1,.emp 1,.emp 1,gi 0]])]) ∧
        T 1=.aS (ar g) 0∧T 2=.ptr b2 0 0∧T 5=bw p∧T 6=bw q∧T 7=.ptr b7 0 0∧T 8=.sl b8 0 g.av.length 1∧T 9=gi i) ?_ ?_
      · exact ⟨⟨List.replicate g.av.length 0,by simp,by simp,by simpa [set_set] using ho3⟩,rfl,rfl,rfl,rfl,rfl,rfl,rfl⟩
      rintro i k T H2 hk ⟨⟨l,hl1,hl2,ho⟩,t1,t2,t5,t6,t7,t8,t9⟩
      simp (disch:=omega) only [↓wr,↓reduceIte,wq,ah,ak,Nat.reduceEqDiff,Int.reduceNeg,kC,t8,t9]
      refine aq.dec (fun hc=>?_) (fun hc=>?_)
      · have hne:bq l≠[]:=by intro e; rw[List.map_eq_nil_iff] at e; rw[e] at hl1; simp at hl1; omega
        have hb:=(ho.obj hne).1
        have hbg:=jM (show i < l.length by omega)
        simp (disch:=omega) only [↓wr,↓reduceIte,wq,ah,aa,Nat.reduceEqDiff,Nat.reduceLeDiff,Int.reduceNeg,reduceCtorEq,t2,t8,t9,hb,hbg]
        refine ⟨by omega,by omega,?_⟩
        refine aK hk (by omega) ⟨⟨l.set i (-1),by simp[hl1],?_,?_⟩,t1,t2,t5,t6,t7,t8,rfl⟩
        · rw[vw (by omega),hl2,List.replicate_succ']
        · rw[ints_set]
          exact ho.put (by simp) (by simp[hl1])
      · rw[List.take_of_length_le (by omega)] at hl2
        rw[hl2] at ho
        have ei:i=g.av.length:=by omega
        subst ei
        simp (disch:=omega) only [↓wr,↓reduceIte,wq,Nat.reduceEqDiff,reduceCtorEq,t2]
        have name_in:∀ o:List Int,(o.map fun x=>g.av.getD x.toNat ⟨#[]⟩).length=o.length:=fun o=>by simp
        refine bb.up g.rules.length (Pj g p q b2 b7 b8 u0) ?_ ?_
        · refine ⟨⟨.emp 1,.emp 1,rfl,by simp[bL],by simp[bL],by simp[bL],?_⟩,t1,t2,t5,t6,t7,t8,rfl⟩
          have h4:=((((ho.emp (k:=1) (sz:=1)).emp (k:=1) (sz:=1)).at 3 (by simp)).perm (Bo.symm.cons _))
          have e0:bL p q (g.rules.take 0)=[]:=rfl
          rw[e0,Nm]
          exact h4
        clear ho t1 t2 t5 t6 t7 t8 t9 hl1 hl2
        rintro i k T H2 hk ⟨⟨u1,u3,t10,hin,hnd,holen,ho⟩,t1,t2,t5,t6,t7,t8,t11⟩
        simp (disch:=omega) only [↓wr,↓reduceIte,wq,ah,ak,Nat.reduceEqDiff,Nat.reduceAdd,Nat.reduceLT,ky,t1,t11,ar]
        refine aq.dec (fun hc=>?_) (fun hc=>?_)
        · have hg2:g.rules[i]?=some (g.rules[i]'(by omega)):=List.getElem?_eq_getElem (by omega)
          have hmem:g.rules[i]'(by omega)∈g.rules:=List.getElem_mem _
          have htk:g.rules.take (i+1)=g.rules.take i ++ [g.rules[i]'(by omega)]:=by rw[List.take_add_one,hg2]; rfl
          generalize g.rules[i]'(by omega)=r at hg2 hmem htk
          obtain ⟨hl1,hl2,hl3,hr6,hsy⟩:=hf.tB hg hmem
          have hqs:q[r.left.toNat]?=some (q[r.left.toNat]'(by omega)):=List.getElem?_eq_getElem (by omega)
          have hqd:q.getD r.left.toNat false=q[r.left.toNat]'(by omega):=by simp[List.getD_eq_getElem?_getD,hqs]
          generalize q[r.left.toNat]'(by omega)=qs at hqs hqd
          simp (disch:=omega) only [↓wr,↓reduceIte,wq,aa,Nat.reduceEqDiff,Nat.reduceAdd,Nat.reduceLT,Nat.reduceLeDiff,t1,t6,t11,ar,aO,List.getElem?_map,hg2]
          intro b12 hb12
          have hoA:=ho.new hb12 3 [aO r]
          try simp (disch:=omega) only [↓wr,↓reduceIte,wq,Nat.reduceLT,encI,bw,List.getElem?_map,hqs]
          have hskip:∀ (T2:Env) (H':View),bD p q r=false→H'=H2.set b12 (.arr 3 [aO r])→T2 10=u3→T2 1=.aS (ar g) 0→T2 2=.ptr b2 0 0→T2 5=bw p→T2 6=bw q→T2 7=.ptr b7 0 0→T2 8=.sl b8 0 g.av.length 1→T2 11=gi ((i:Int)+1) →
              ∃ k',k' < k∧Ck g.rules.length k' (Pj g p q b2 b7 b8 u0) T2 H':=by
            intro T2 H' hkr hH' a10 a1 a2 a5 a6 a7 a8 a11
            have e1:bL p q (g.rules.take (i+1))=bL p q (g.rules.take i):=by rw[htk,rH,if_neg (by simp[hkr])]
            have e2:cq p q (g.rules.take (i+1)) 0=cq p q (g.rules.take i) 0:=by rw[htk,jS]; simp[cq,hkr]
            refine aK hk (by omega) ⟨⟨u1,u3,a10,by rw[e1]; exact hin,by rw[e1]; exact hnd,by rw[e1]; omega,by rw[e1,e2,hH']; exact hoA.tail⟩,a1,a2,a5,a6,a7,a8,by rw[a11]; rfl⟩
          cases qs with
          | false =>
            simp (disch:=omega) only [↓wr,↓reduceIte,wq,ah,Nat.reduceEqDiff,Nat.reduceAdd,reduceCtorEq,t2,t11]
            refine hskip _ _ (by rw[bD,hqd]; rfl) ?_ ?_ ?_ ?_ ?_ ?_ ?_ ?_ ?_
            all_goals first | exact t10 | exact t1 | exact t2 | exact t5 | exact t6 | exact t7 | exact t8 | rfl | (rw[set_set]; rfl)
          | true =>
            simp (disch:=omega) only [↓wr,↓reduceIte,wq,Nat.reduceEqDiff,Nat.reduceAdd,Nat.reduceLT,t5,bw]
            refine aF.pure (Dz r.right p true (hg.bd r hmem).2.2.1 (fun s hs=>⟨(hsy s hs).1,fun h=>by rw[hpl]; exact (hsy s hs).2 h⟩)) (by kernel_rfl) ?_
            simp (disch:=omega) only [↓wr,↓reduceIte,wq,Nat.reduceEqDiff]
            refine aq.split (fun hal=>?_) (fun hal=>?_)
            · simp (disch:=omega) only [↓wr,↓reduceIte,wq,ag,Nat.reduceEqDiff,Nat.reduceAdd,Nat.reduceLT,t10,t11]
              have hkr:bD p q r=true:=by rw[bD,hqd,hal]; rfl
              intro m hm
              try simp (disch:=omega) only [↓wr,↓reduceIte,wq,Nat.reduceEqDiff,cp]
              have hm12:=(cg hm ca).1
              have hm:=(cg (cg hm ca).2 ca).2
              have hoB:=(hoA.fresh (n:=m) (o:=.arr 1 [[gi i]]) (by simp only[View.set,if_neg hm12]; exact hm)).at 3 (by simp)
              have hkl:(cq p q (g.rules.take i) 0).length≤40:=by
                rw[ju]
                have h1:=List.length_filter_le (bD p q) (g.rules.take i)
                have h2:(g.rules.take i).length≤i:=List.length_take_le _ _
                have:=hf.rules
                omega
              refine cH (by rw[set_set]; exact hoB) (by simp[aT]) (by unfold aI; simp at hkl ⊢; omega) (by unfold aI; simp at hkl ⊢; omega) ?_
              intro u3' H3 ho3 _
              have f12:=((ho3.at 1 (by simp)).obj (by simp)).1
              have f7:=((ho3.at 2 (by simp)).obj (by simp)).1
              have f8:=((ho3.at 3 (by simp)).obj (N2 (by simp[dV]; omega))).1
              have hu1:dM u1=some (jf ((bL p q (g.rules.take i)).map fun x=>g.av.getD x.toNat ⟨#[]⟩)).length:=(ho3.at 4 (by simp)).head.len
              have hbg:=jM (l:=dV g.av.length (bL p q (g.rules.take i))) (i:=r.left.toNat) (by simp[dV]; omega)
              rw[xF hl2 hl3] at hbg
              simp only[aO,encI] at f12
              simp (disch:=omega) only [↓wr,↓reduceIte,wq,ah,Nat.reduceEqDiff,Nat.reduceAdd,Nat.reduceLT,t8,f12,f8,hbg]
              refine ⟨by omega,by simp[dV]; omega,?_⟩
              have e2:cq p q (g.rules.take (i+1)) 0=cq p q (g.rules.take i) 0 ++ [(i:Int)]:=by
                rw[htk,jS]; simp[cq,hkr,show i≤g.rules.length by omega]
              have e1:bL p q (g.rules.take (i+1))=dd (bL p q (g.rules.take i)) r:=by rw[htk,rH,if_pos hkr]
              generalize bL p q (g.rules.take i)=o at *
              generalize cq p q (g.rules.take i) 0=kl at *
              refine aq.dec (fun hlt=>?_) (fun hlt=>?_)
              · have hx:r.left ∉ o:=q7.1 hlt
                have e1':dd o r=o ++ [r.left]:=by rw[dd,if_neg hx]
                have hne78:b7≠b8:=ho3.Fw 2 3 rfl rfl (by omega)
                have hne12:b12≠b8:=ho3.Fw 1 3 rfl rfl (by omega)
                have hgn:g.av[r.left.toNat]?=some (g.av[r.left.toNat]'(by omega)):=List.getElem?_eq_getElem (by omega)
                have hgnd:g.av.getD r.left.toNat ⟨#[]⟩=g.av[r.left.toNat]'(by omega):=by simp[List.getD_eq_getElem?_getD,hgn]
                generalize g.av[r.left.toNat]'(by omega)=nm at hgn hgnd
                simp (disch:=omega) only [↓wr,↓reduceIte,wq,ak,aa,Nat.reduceEqDiff,Nat.reduceAdd,Nat.reduceLT,Nat.reduceLeDiff,t7,t8,f12,f7,f8,hbg,hu1]
                try refine ⟨by omega,by simp[dV]; omega,?_⟩
                try simp (disch:=omega) only [↓wr,↓reduceIte,wq,ag,Nat.reduceEqDiff,Nat.reduceAdd,Nat.reduceLT,t1,f12,hne78,hne12,ar,encS,List.getElem?_map,hgn]
                intro m2 hm2
                have hm28:=(cg hm2 ca).1
                have hm2:=(cg hm2 ca).2
                have hes:(bq (dV g.av.length o)).set r.left.toNat [gi o.length]=bq (dV g.av.length (o ++ [r.left])):=by rw[ints_set,Mq hl2 hl3 hx]
                have ho4:=(ho3.at 3 (by simp)).put (es':=(bq (dV g.av.length o)).set r.left.toNat [gi o.length]) (by simp) (by simp[dV])
                have ho5:=(ho4.fresh (n:=m2) (o:=.arr 1 [[gs nm]]) (by simp only[View.set,if_neg hm28]; exact hm2)).at 4 (by simp)
                have hN16:o.length≤40:=by omega
                try simp (disch:=omega) only [↓wr,↓reduceIte,wq,Nat.reduceEqDiff,cp]
                refine cH ho5 (by simp[aT]) (by unfold aI; simp; omega) (by unfold aI; simp; omega) ?_
                intro u1' H5 ho6 _
                have c1:=ho6.head.cells
                have k1:=ho6.head.gL
                have f7':=((ho6.at 4 (by simp)).obj (by simp)).1
                simp (disch:=omega) only [↓wr,↓reduceIte,wq,ah,aa,Nat.reduceEqDiff,Nat.reduceAdd,Nat.reduceLT,Nat.reduceLeDiff,reduceCtorEq,t2,t7,t11,f7',c1,k1]
                have ho7:=(ho6.at 4 (by simp)).put (es':=[[u0,u1',.emp 1,gi 0]]) rfl rfl
                have ho8:=(((ho7.at 4 (by simp)).tail).perm (Bo.cons _))
                refine aK hk (by omega) ⟨⟨u1',u3',rfl,?_,?_,?_,?_⟩,t1,t2,t5,t6,t7,t8,rfl⟩
                · rw[e1,e1']; intro x hx'; rcases List.mem_append.1 hx' with h | h
                  · exact hin x h
                  · simp at h; subst h; exact ⟨hl2,hl3⟩
                · rw[e1]; exact zN hnd
                · rw[e1,e1']; simp; omega
                · rw[e1,e1',e2]
                  have:=ho8
                  rw[hes] at this
                  simp only[List.map_append,List.map_cons,List.map_nil,hgnd]
                  exact this
              · have hx:r.left∈o:=by
                  refine Classical.byContradiction fun h=>?_
                  have:=q7.2 h
                  omega
                have e1':dd o r=o:=by rw[dd,if_pos hx]
                simp (disch:=omega) only [↓wr,↓reduceIte,wq,ah,Nat.reduceEqDiff,reduceCtorEq,t2,t11]
                have ho4:=(((ho3.at 1 (by simp)).tail).perm Bo)
                refine aK hk (by omega) ⟨⟨u1,u3',rfl,?_,?_,?_,?_⟩,t1,t2,t5,t6,t7,t8,rfl⟩
                · rw[e1,e1']; exact hin
                · rw[e1,e1']; exact hnd
                · rw[e1,e1']; omega
                · rw[e1,e1',e2]
                  simp only[List.map_append,List.map_cons,List.map_nil]
                  exact ho4
            · simp (disch:=omega) only [↓wr,↓reduceIte,wq,ah,Nat.reduceEqDiff,Nat.reduceAdd,reduceCtorEq,t2,t11]
              refine hskip _ _ (by rw[bD,hqd,hal]; rfl) ?_ ?_ ?_ ?_ ?_ ?_ ?_ ?_ ?_
              all_goals first | exact t10 | exact t1 | exact t2 | exact t5 | exact t6 | exact t7 | exact t8 | rfl | (rw[set_set]; rfl)
        · rw[List.take_of_length_le (by omega)] at ho hin hnd holen
          have hkl40:(cq p q g.rules 0).length≤40:=by
            rw[ju]; have h1:=List.length_filter_le (bD p q) g.rules; omega
          have hkg:=r5 p q g.rules 0
          have hkln:=ju p q g.rules 0
          have hstin:g.start.toNat < (dV g.av.length (bL p q g.rules)).length:=by simp[dV]; omega
          have hstb:=jM hstin
          rw[xF h3 h4] at hstb
          have hrg:iX g (bh (bL p q g.rules)) p q=⟨g.ax,(bL p q g.rules).map fun x=>g.av.getD x.toNat ⟨#[]⟩,(g.rules.filter (bD p q)).map (bf (bh (bL p q g.rules))),bh (bL p q g.rules) g.start⟩:=rfl
          rw[hrg] at hred
          clear hrg
          generalize bL p q g.rules=o at *
          generalize cq p q g.rules 0=kl at *
          simp (disch:=omega) only [↓wr,↓reduceIte,wq,Nat.reduceEqDiff,reduceCtorEq,t2]
          refine bb.up kl.length (P3 g p q b2 b7 b8 u0 u1 u3 o kl) ?_ ?_
          · refine ⟨⟨.emp 1,[],by simp,?_⟩,t1,t2,t7,t8,t10,rfl⟩
            exact (ho.emp (k:=1) (sz:=3)).perm (qv [(.sl b7 0 1 4,4,[[u0,u1,.emp 1,gi 0]]),(.sl b8 0 g.av.length 1,1,bq (dV g.av.length o)),(u3,1,bq kl),(u1,1,jf (o.map fun x=>g.av.getD x.toNat ⟨#[]⟩)),(u0,3,g.ax.map ct),(.emp 1,3,[]),(.sl b2 0 1 4,4,[[.emp 1,.emp 1,.emp 1,gi 0]])] 5 (by simp)).symm
          clear ho t1 t2 t5 t6 t7 t8 t10 t11
          rintro i k T H2 hk ⟨⟨u2,bs,hbs,ho⟩,t1,t2,t7,t8,t10,t13⟩
          have hu3:dM u3=some (bq kl).length:=(ho.own 2 rfl).len
          simp (disch:=omega) only [↓wr,↓reduceIte,wq,ah,ak,Nat.reduceEqDiff,kK,t10,t13,hu3]
          refine aq.dec (fun hc=>?_) (fun hc=>?_)
          · obtain ⟨n3,e3,hn3⟩:=(ho.own 2 rfl).sl (by simp; omega)
            rw[List.length_map] at e3
            subst e3
            obtain ⟨m,hm1,hm2,hm3⟩:=hkg i (by omega)
            have hbg:=jM (show i < kl.length by omega)
            rw[Int.zero_add] at hm1
            have hki:kl[i]'(by omega)=(m:Int):=by
              rw[List.getElem?_eq_getElem (show i < kl.length by omega)] at hm1; simpa using hm1
            rw[hki] at hbg
            have hg2:g.rules[m]?=some (g.rules[m]'hm3):=List.getElem?_eq_getElem hm3
            have hmem:g.rules[m]'hm3∈g.rules:=List.getElem_mem _
            have htk:(g.rules.filter (bD p q)).take (i+1)=(g.rules.filter (bD p q)).take i ++ [g.rules[m]'hm3]:=by
              rw[List.take_add_one,← hm2,hg2]; rfl
            generalize g.rules[m]'hm3=r at hg2 hmem htk
            obtain ⟨hl1,hl2,hl3,hr6,hsy⟩:=hf.tB hg hmem
            simp (disch:=omega) only [↓wr,↓reduceIte,wq,aa,Nat.reduceEqDiff,Nat.reduceAdd,Nat.reduceLT,Nat.reduceLeDiff,t1,t8,t10,t13,hn3,hbg,ar,aO,List.getElem?_map,hg2]
            refine ⟨by omega,by omega,?_⟩
            intro b14 hb14
            have hoA:=ho.new hb14 3 [aO r]
            have f8:=hoA.is 2 rfl (by simp[dV]; omega)
            have hbg2:=jM (l:=dV g.av.length o) (i:=r.left.toNat) (by simp[dV]; omega)
            rw[xF hl2 hl3] at hbg2
            have hn814:b8≠b14:=hoA.Fw 2 0 rfl rfl (by omega)
            have g8:H2 b8=.arr 1 (bq (dV g.av.length o)):=ho.is 1 rfl (by simp[dV]; omega)
            try simp (disch:=omega) only [↓wr,↓reduceIte,wq,aa,af,Nat.reduceEqDiff,Nat.reduceAdd,Nat.reduceLT,Nat.reduceLeDiff,g8,hn814,hbg2,set_set,encI]
            refine ⟨by omega,by simp[dV]; omega,?_⟩
            intro b15 hb15
            have hbne:=(cg hb15 ca).1
            have hb15:=(cg (cg hb15 ca).2 ca).2
            have hoB:=(((hoA.new (n:=b15) (by simp only[View.set,if_neg hbne]; exact hb15) 3 [[gi (bh o r.left),.emp 1,gi r.prec]]).emp (k:=1) (sz:=1)).perm (.swap _ _ _))
            generalize hL:((V.sl b7 0 1 4,4,[[u0,u1,u2,gi 0]]) :: (V.sl b8 0 g.av.length 1,1,bq (dV g.av.length o)) :: (V.sl n3 0 kl.length 1,1,bq kl) ::
              (u1,1,jf (o.map fun x=>g.av.getD x.toNat ⟨#[]⟩)) :: (u0,3,g.ax.map ct) :: (u2,3,fB bs) :: (V.sl b2 0 1 4,4,[[V.emp 1,V.emp 1,V.emp 1,gi 0]]) :: kF bs:List fE)=L at hoB
            have hL1:L[1]?=some (.sl b8 0 g.av.length 1,1,bq (dV g.av.length o)):=by rw[← hL]; rfl
            try simp (disch:=omega) only [↓wr,↓reduceIte,wq,ai,ah,ak,aa,af,ag,aj,isNil,Nat.reduceEqDiff,Nat.reduceAdd,Nat.reduceLT,Nat.reduceLeDiff,Int.reduceNeg,Int.reduceToNat,reduceCtorEq,t1,t2,t7,t8,t10,t13,set_set]
            refine bb.up r.right.length (Qa g b2 b7 b8 b14 b15 (.sl n3 0 kl.length 1) o r L i) ?_ ?_
            · exact ⟨⟨.emp 1,by rw[set_set,set_set]; exact hoB⟩,t1,t2,t7,t8,t10,t13,rfl,rfl,rfl⟩
            clear hoA hoB f8 g8 hb14 hb15 t1 t2 t7 t8 t10 t13
            rintro k k2 T H3 hk2 ⟨⟨v,hoC⟩,t1,t2,t7,t8,t10,t13,t14,t15,t16⟩
            have f14:=hoC.is 2 rfl (by simp)
            have f15:=hoC.is 0 rfl (by simp)
            have f8:H3 b8=.arr 1 (bq (dV g.av.length o)):=hoC.is 4 (by simpa using hL1) (by simp[dV]; omega)
            simp only[aO] at f14
            simp (disch:=omega) only [↓wr,↓reduceIte,wq,ah,ak,Nat.reduceEqDiff,Nat.reduceAdd,Nat.reduceLT,Int.reduceNeg,kB,t14,t16,f14,encI]
            refine aq.dec (fun hcc=>?_) (fun hcc=>?_)
            · have hgs:r.right[k]?=some (r.right[k]'(by omega)):=List.getElem?_eq_getElem (by omega)
              have hms:r.right[k]'(by omega)∈r.right:=List.getElem_mem _
              have hts:(bf (bh o) r).right.take (k+1)=(bf (bh o) r).right.take k ++ [if r.right[k]'(by omega) < 0 then -1 - bh o (-1 - r.right[k]'(by omega)) else r.right[k]'(by omega)]:=by
                rw[List.take_add_one]; simp[bf,hgs]
              have hlk:((bf (bh o) r).right.take k).length≤6:=by
                have h1:(bf (bh o) r).right.length=r.right.length:=by simp[bf]
                have h2:((bf (bh o) r).right.take k).length≤(bf (bh o) r).right.length:=by rw[List.length_take]; omega
                omega
              generalize r.right[k]'(by omega)=s at hgs hms hts
              obtain ⟨⟨s1,s2⟩,s3⟩:=hsy s hms
              simp (disch:=omega) only [↓wr,↓reduceIte,wq,ah,Nat.reduceEqDiff,Nat.reduceAdd,Nat.reduceLT,Int.reduceNeg,t14,t16,f14,encI,List.getElem?_map,hgs]
              have hbd:=AJ o (-1 - s)
              have hob:o.length≤40:=by omega
              refine aq.dec (fun hneg=>?_) (fun hneg=>?_)
              · rw[if_pos hneg] at hts
                have hin1:=s3 hneg
                have hbg3:=jM (l:=dV g.av.length o) (i:=(-1 - s).toNat) (by simp[dV]; omega)
                rw[xF (by omega) hin1] at hbg3
                simp (disch:=omega) only [↓wr,↓reduceIte,wq,ah,ag,Nat.reduceEqDiff,Nat.reduceAdd,Nat.reduceLT,Int.reduceNeg,t8,t15,f15,f8,hbg3]
                refine ⟨by omega,by simp[dV]; omega,?_⟩
                intro m hm
                try simp (disch:=omega) only [↓wr,↓reduceIte,wq,Nat.reduceEqDiff,Int.reduceNeg,cp]
                have hoD:=(hoC.fresh (o:=.arr 1 [[gi (-1 - bh o (-1 - s))]]) hm).at 1 (by simp)
                refine cH hoD (by simp[aT]) (by unfold aI; simp at hlk ⊢; omega) (by unfold aI; simp at hlk ⊢; omega) ?_
                intro v' H4 hoE _
                have cv:=hoE.head.cells
                have kv:=hoE.head.gL
                have f15':=hoE.is 1 rfl (by simp)
                simp (disch:=omega) only [↓wr,↓reduceIte,wq,ah,aa,Nat.reduceEqDiff,Nat.reduceAdd,Nat.reduceLT,Nat.reduceLeDiff,Int.reduceNeg,reduceCtorEq,t1,t2,t7,t13,t15,t16,f15',cv,kv]
                have hoF:=(hoE.at 1 (by simp)).put (es':=[[gi (bh o r.left),v',gi r.prec]]) rfl rfl
                refine aK hk2 (by omega) ⟨⟨v',?_⟩,t1,t2,t7,t8,t10,t13,t14,t15,rfl⟩
                rw[hts]
                simp only[List.map_append,List.map_cons,List.map_nil]
                exact hoF
              · rw[if_neg hneg] at hts
                simp (disch:=omega) only [↓wr,↓reduceIte,wq,ag,Nat.reduceEqDiff,Nat.reduceAdd,Nat.reduceLT,t15,f15]
                intro m hm
                try simp (disch:=omega) only [↓wr,↓reduceIte,wq,Nat.reduceEqDiff,cp]
                have hoD:=(hoC.fresh (o:=.arr 1 [[gi s]]) hm).at 1 (by simp)
                refine cH hoD (by simp[aT]) (by unfold aI; simp at hlk ⊢; omega) (by unfold aI; simp at hlk ⊢; omega) ?_
                intro v' H4 hoE _
                have cv:=hoE.head.cells
                have kv:=hoE.head.gL
                have f15':=hoE.is 1 rfl (by simp)
                simp (disch:=omega) only [↓wr,↓reduceIte,wq,ah,aa,Nat.reduceEqDiff,Nat.reduceAdd,Nat.reduceLT,Nat.reduceLeDiff,reduceCtorEq,t1,t2,t7,t13,t15,t16,f15',cv,kv]
                have hoF:=(hoE.at 1 (by simp)).put (es':=[[gi (bh o r.left),v',gi r.prec]]) rfl rfl
                refine aK hk2 (by omega) ⟨⟨v',?_⟩,t1,t2,t7,t8,t10,t13,t14,t15,rfl⟩
                rw[hts]
                simp only[List.map_append,List.map_cons,List.map_nil]
                exact hoF
            · rw[List.take_of_length_le (by simp[bf]; omega)] at hoC
              subst hL
              have f7:=hoC.is 3 rfl (by simp)
              have cv:=(hoC.own 1 rfl).cells
              have kv:=(hoC.own 1 rfl).gL
              have hbl:(fB bs).length≤40:=by
                have h1:=congrArg List.length hbs
                simp only[List.length_map,List.length_take] at h1
                simp only[fB,List.length_map]
                omega
              simp (disch:=omega) only [↓wr,↓reduceIte,wq,ag,Nat.reduceEqDiff,Nat.reduceAdd,Nat.reduceLT,Nat.reduceLeDiff,reduceCtorEq,t1,t2,t7,t13,t15,f7,f15,kv]
              intro m hm
              try simp (disch:=omega) only [↓wr,↓reduceIte,wq,Nat.reduceEqDiff,cp]
              have hoD:=(hoC.fresh (o:=.arr 3 [[gi (bh o r.left),v,gi r.prec]]) hm).at 8 (by simp)
              refine cH hoD (by simp[Bk,kv]) (by unfold aI; simp at hbl ⊢; omega) (by unfold aI; simp at hbl ⊢; omega) ?_
              intro u2' H4 hoE _
              have cu:=hoE.head.cells
              have ku:=hoE.head.gL
              have f7':=hoE.is 4 rfl (by simp)
              simp (disch:=omega) only [↓wr,↓reduceIte,wq,ah,aa,Nat.reduceEqDiff,Nat.reduceAdd,Nat.reduceLT,Nat.reduceLeDiff,reduceCtorEq,t1,t2,t7,t13,f7',cu,ku]
              have hoF:=(hoE.at 4 (by simp)).put (es':=[[u0,u1,u2',gi 0]]) rfl rfl
              have hoG:=((((hoF.at 2 (by simp)).tail).at 3 (by simp)).tail)
              refine aK hk (by omega) ⟨⟨u2',bs ++ [(v,bf (bh o) r)],?_,?_⟩,t1,t2,t7,t8,t10,rfl⟩
              · rw[List.map_append,hbs,htk,List.map_append]; rfl
              · refine hoG.perm (.cons _ ?_)
                simp only[kF,fB,List.map_append,List.map_cons,List.map_nil]
                refine .trans ?_ (qv _ 4 (by simp)).symm
                refine .cons _ ?_
                exact (List.perm_append_singleton (v,1,bq (bf (bh o) r).right) ((.sl b8 0 g.av.length 1,1,bq (dV g.av.length o)) :: (.sl n3 0 kl.length 1,1,bq kl) :: (u1,1,jf (o.map fun x=>g.av.getD x.toNat ⟨#[]⟩)) :: (u0,3,g.ax.map ct) :: (.sl b2 0 1 4,4,[[.emp 1,.emp 1,.emp 1,gi 0]]) :: kF bs)).symm
          · rw[List.take_of_length_le (by omega)] at hbs
            have f7:=ho.is 0 rfl (by simp)
            have f8:H2 b8=.arr 1 (bq (dV g.av.length o)):=ho.is 1 rfl (by simp[dV]; omega)
            have f2:=ho.is 6 rfl (by simp)
            have n72:b7≠b2:=ho.Fw 0 6 rfl rfl (by omega)
            have c1:=(ho.own 3 rfl).cells
            have k1:=(ho.own 3 rfl).gL
            have c2:=(ho.own 5 rfl).cells
            have k2:=(ho.own 5 rfl).gL
            simp (disch:=omega) only [↓wr,↓reduceIte,wq,aa,Nat.reduceEqDiff,Nat.reduceAdd,Nat.reduceLT,Nat.reduceLeDiff,reduceCtorEq,t1,t2,t7,t8,t10,f7,f8,f2,n72.symm,hstb,k0,k1,k2,ar]
            refine ⟨by omega,by simp[dV]; omega,fun h' hh=>?_⟩
            have hoA:=ho.put (es':=[[u0,u1,u2,gi (bh o g.start)]]) rfl rfl
            have hoB:=(hoA.at 6 (by simp)).put (es':=[[u0,u1,u2,gi (bh o g.start)]]) rfl rfl
            have hv:h'.view=(H2.set b7 (.arr 4 [[u0,u1,u2,gi (bh o g.start)]])).set b2 (.arr 4 [[u0,u1,u2,gi (bh o g.start)]]):=hh
            rw[← hv] at hoB
            rw[hred]
            exact FF (x:=(⟨g.ax,o.map fun x=>g.av.getD x.toNat ⟨#[]⟩,(g.rules.filter (bD p q)).map (bf (bh o)),bh o g.start⟩,kl,0)) (b:=bs) (hoB.own 5 rfl) (hoB.own 4 rfl) (hoB.own 6 rfl) (fun y hy=>hoB.1 y (by
              refine List.mem_cons_of_mem _ (List.mem_cons_of_mem _ (List.mem_cons_of_mem _ (List.mem_cons_of_mem _ (List.mem_cons_of_mem _ (List.mem_cons_of_mem _ (List.mem_cons_of_mem _ ?_))))))
              exact hy)) hbs (hoB.own 3 rfl)
  · rename_i hr
    intro h' hh
    rw[eP,if_neg (by simp[hr])]
    exact uB
theorem EL {g:an} (e:lT g=false):g.Small:=by
  simp only[lT,Bool.or_eq_false_iff,decide_eq_false_iff_not] at e
  exact ⟨by omega⟩
theorem KK (g:an):aD Tryz.prog 12 [.agg (ar g)] (gb (lT g)):=aD.val (eA g) fun H=>(Kd g H).mono fun _ _ h=>h.1
theorem HW {a b:V} (ha:Tree a) (hb:Tree b):Tree (.bo [a,b]):=.bo _ fun i hi=>by
  match i,hi with
  | 0,_=>exact ha
  | 1,_=>exact hb
  | n+2,h=>exact absurd h (by simp)
theorem yI {h:aE} {a b c d:V} (ha:c7 h a c) (hb:c7 h b d):c7 h (.bo [a,b]) (.bo [c,d]):=.bo _ _ rfl fun i hi=>by
  match i,hi with
  | 0,_=>exact ha
  | 1,_=>exact hb
  | n+2,h=>exact absurd h (by simp)
theorem zX {H:View} {id n:Nat} {l:List Int} (hv:H id=.arr 1 (bq l)) (hn:n=l.length):di H (.sl id 0 n 1) (encI l):=by
  subst hn
  exact di.own (sz:=1) (.inr ⟨id,by simp,hv⟩) fun e he v hv=>by
    obtain ⟨x,_,rfl⟩:=List.mem_map.1 he
    simp at hv; subst hv; exact .val _
theorem aX.elems {H:View} {u:V} {sz:Nat} {es:List (List V)} (h:aX H u sz es):∃ rd,cb H u=some (es,rd):=by
  rcases h with ⟨rfl,k,rfl⟩ | ⟨n,rfl,hn⟩
  · exact ⟨[],rfl⟩
  · cases es with
    | nil=>exact ⟨[],rfl⟩
    | cons e r =>
      refine ⟨[n],?_⟩
      rw[List.length_cons,uH _ n 0 r.length sz sz _ hn (by simp),List.drop_zero,List.take_of_length_le (by simp)]
theorem dw.step {H H' H1:View} {u u1:V} (h:dw H H' u) (l:Left H' H1 u u1):dw H H1 u1:=fun id hid=>by
  have h1:=h id hid
  have h2:=l id (by rw[h1.1]; exact hid) h1.2
  exact ⟨h2.1.trans h1.1,h2.2⟩
theorem dw.put {H H':View} {u:V} {n:Nat} {o:bN} (h:dw H H' u) (hn:H' n=.dead):dw H (H'.set n o) u:=fun id hid=>by
  have h1:=h id hid
  have e:id≠n:=by rintro rfl; rw[h1.1] at hn; exact hid hn
  exact ⟨by simp[View.set,e,h1.1],h1.2⟩
theorem dw.call {H H' H2:View} {u r:V} (h:dw H H' u) (k:dw H' H2 r):dw H H2 u:=fun id hid=>by
  have h1:=h id hid
  have h2:=k id (by rw[h1.1]; exact hid)
  exact ⟨h2.1.trans h1.1,h1.2⟩
theorem mn {P:Program} {t:TypeId} {d:TypeDesc} (hu:P.underlying t=some d) (hd:d=.string∨∃ k,d=.int k) (cs:Array Value) (off:Nat) {v:Value} (hv:cs[off]?=some v):bA P (part t cs off)=some v:=by
  have h0:bA P (isAgg t)=some false:=by
    rcases hd with rfl | ⟨k,rfl⟩
    all_goals simp only[isAgg,br,dS hu,Option.bind_some]; rfl
  simp only[part,br,h0,Option.bind_some,Bool.false_eq_true,if_false,hv]
  rfl
inductive gh (P:Program) (d:Nat) (xs ys:Array Value):List Field→Bool→Prop
  | nil:gh P d xs ys [] true
  | str (f:Field) (l:List Field) (c:Bool) (a b:ByteArray):(f.name≠ "_")→P.underlying f.type=some .string→xs[f.offset]?=some (.string a)→ys[f.offset]?=some (.string b)→gh P d xs ys l c→gh P d xs ys (f :: l) (a == b && c)
  | int (f:Field) (l:List Field) (c:Bool) (k:IntKind) (a b:Int):(f.name≠ "_")→P.underlying f.type=some (.int k)→xs[f.offset]?=some (.int k a)→ys[f.offset]?=some (.int k b)→gh P d xs ys l c→gh P d xs ys (f :: l) (a == b && c)
theorem gh.forIn {P:Program} {d e:Nat} {xs ys:Array Value} {l:List Field} {c:Bool} (h:gh P d xs ys l c) (hd:e=d+1) :
    bA P (forIn l ((none:Option Bool),()) fun f _ =>
        if f.name≠ "_" then do
          let a ← part f.type xs f.offset
          let b ← part f.type ys f.offset
          let e ← Op.equalIn e f.type a b
          if (!e)=true then pure (ForInStep.done (some false,())) else pure (ForInStep.yield (none,()))
        else pure (ForInStep.yield (none,())))=some (if c=true then (none,()) else (some false,())):=by
  subst hd
  induction h with
  | nil=>rfl
  | str f l c a b hn hu hx hy _ ih =>
    have he:bA P (Op.equalIn (d+1) f.type (.string a) (.string b))=some (a == b):=by
      simp only[Op.equalIn,br,dS hu,Option.bind_some]; rfl
    rw[List.forIn_cons,br,if_pos hn,br,mn hu (.inl rfl) xs _ hx,Option.bind_some,br,mn hu (.inl rfl) ys _ hy,Option.bind_some,br,he,Option.bind_some]
    cases a == b with
    | false=>rfl
    | true=>exact ih
  | int f l c k a b hn hu hx hy _ ih =>
    have he:bA P (Op.equalIn (d+1) f.type (.int k a) (.int k b))=some (a == b):=by
      simp only[Op.equalIn,br,dS hu,Option.bind_some]; rfl
    rw[List.forIn_cons,br,if_pos hn,br,mn hu (.inr ⟨k,rfl⟩) xs _ hx,Option.bind_some,br,mn hu (.inr ⟨k,rfl⟩) ys _ hy,Option.bind_some,br,he,Option.bind_some]
    cases a == b with
    | false=>rfl
    | true=>exact ih
theorem yY {P:Program} {t:TypeId} {fs:Array Field} {xs ys:Array Value} {c:Bool} (hu:P.underlying t=some (.struct fs)) (hs:P.stoodInHeld t=false) (h:gh P 9998 xs ys fs.toList c) :
    bA P (Op.equal t (.agg xs) (.agg ys))=some c:=by
  rw[ke]
  rw[Op.equalIn,br,dS hu,Option.bind_some]
  have hst:(bA P program)=some P:=rfl
  rw[br,hst,Option.bind_some,hs]
  simp only[← Array.forIn_toList,Bool.false_eq_true,if_false]
  rw[br,h.forIn (e:=9999) rfl,Option.bind_some]
  cases c <;> rfl
theorem Bc {P:Program} {o:Oper} {T:Env} {op:BinOp} {t u:TypeId} {x y:Operand} {fs:Array Field} {xs ys:Array Value} {c r:Bool} (ho:o.op=.binOp op t x y u) (hu:P.underlying t=some (.struct fs)) (hs:P.stoodInHeld t=false) (hg:P.eqGuardType P.depth t=false)
    (hx:cO (ev T x)=some (.agg xs)) (hy:cO (ev T y)=some (.agg ys)) (h:gh P 9998 xs ys fs.toList c) (hr:(op=.eql∧r=c)∨(op=.neq∧r = !c)) :
    dc P o T=some (.val (.bool r),.none,[]):=by
  have he:=yY hu hs h
  have hst:(bA P program)=some P:=rfl
  unfold dc
  simp only[ho,Op.operands]
  rcases hr with ⟨rfl,rfl⟩ | ⟨rfl,rfl⟩
  · simp[execOp,ho,hx,hy,eqGuard,binOp,gI,br,hst,hg,he,plain]
    try simp[bA,pure]
  · simp[execOp,ho,hx,hy,eqGuard,binOp,gI,br,hst,hg,he,plain]
    try simp[bA,pure]
theorem yb {P:Program} {T:Env} {H:View} {K:V→View→Prop} {w:cF (T,H,K)} {op:BinOp} {t u ty:TypeId} {x y:Operand} {fs:Array Field} {xs ys:Array Value} {c r:Bool} (hu:P.underlying t=some (.struct fs)) (hs:P.stoodInHeld t=false) (hg:P.eqGuardType P.depth t=false)
    (hx:cO (ev T x)=some (.agg xs)) (hy:cO (ev T y)=some (.agg ys)) (h:gh P 9998 xs ys fs.toList c) (hr:(op=.eql∧r=c)∨(op=.neq∧r = !c)) (hk:K (.val (.bool r)) H):ot P (.binOp op t x y u) ty T H K w:=by
  intro n _
  refine ⟨.val (.bool r),.none,[],?_,hk⟩
  have hn:gW P t=none:=by simp[gW,hu]
  simp only[sI,bX,oper,hn]
  simp only[Option.isSome_none,Bool.false_eq_true,if_false]
  exact Bc rfl hu hs hg hx hy h hr
def wx (hp:Array Obj) (cs:List Value) (vs:List V):Prop :=
  vs.length=cs.length∧∀ μ i,i < vs.length→aB (fun b=>b < hp.size) μ hp (vs.getD i .any) (cs.getD i undef)
def Wt {H:Type} (P:Program) (t:TypeId) (d:DataW H):Prop:=∀ n∈d.weights P t,n≤reachBytes
def wP (P:Program) (t:TypeId) {α:Type} (f:α→List V) (ok:α→Prop):Prop :=
  ∀ {H:Type} (enc:TypeId × Value→H) (w:World) (base:Nat) (sp:Nat→Bool) (held:Bool) (fuel:Nat) (cs:List Value) (x:DataW H × List MemPlace),
    DataW.trod enc P w base sp held fuel t cs=some x→Wt P t x.1→∃ a,ok a∧wx w.heap cs (f a)
theorem uN {hp:Array Obj} {c:Value} {v:V} (h:∀ μ,aB (fun b=>b < hp.size) μ hp v c):wx hp [c] [v]:=by
  refine ⟨rfl,fun μ i hi=>?_⟩
  match i,hi with
  | 0,_=>exact h μ
theorem Ot {P:Program} {t:TypeId} {k:IntKind} (ht:P.underlying t=some (.int k)):wP P t (fun n=>[.val (.int k n)]) (fun n=>(Lit.int k n).wf=true):=by
  intro H enc w base sp held fuel cs x h _
  obtain ⟨n,rfl,_,hw⟩:=DataW.trod_int ht h
  exact ⟨n,hw,uN fun μ=>.val _ rfl⟩
theorem Ca {P:Program} {t:TypeId} (ht:P.underlying t=some .string):wP P t (fun s=>[.val (.string s)]) (fun _=>True):=by
  intro H enc w base sp held fuel cs x h _
  obtain ⟨s,rfl,_,_⟩:=DataW.trod_string ht h
  exact ⟨s,trivial,uN fun μ=>.val _ rfl⟩
theorem Er {w:World} {base:Nat} {a:Addr} {n:Nat} {cs:List Value} (h:w.cells? base a n=some cs):cs.length=n∧∀ i,i < n→w.cell? (a.add i)=some (cs.getD i undef):=by
  obtain ⟨_,h2,h3⟩:=World.cells?_some h
  refine ⟨h2,fun i hi=>?_⟩
  rw[h3 i hi,List.getD_eq_getElem?_getD,List.getElem?_eq_getElem (by omega)]
  rfl
theorem Hk {w:World} {a:Addr} {v:Value} (h:w.cell? a=some v):a.spot=none∧a.block < w.heap.size:=by
  unfold World.cell? at h
  split at h
  · rename_i c _ _ hb
    split at h
    · simp at h
    · rename_i hs
      exact ⟨by simpa using hs,(Array.getElem?_eq_some_iff.1 hb).1⟩
  · simp at h
theorem Ji {H:Type} {P:Program} {e:TypeId} : ∀ {l:List (DataW H)},(∀ n∈DataW.weightsAll P e l,n≤reachBytes)→∀ d∈l,Wt P e d
  | [],_,d,hd=>by simp at hd
  | x :: l,h,d,hd=>by
    simp only[DataW.weightsAll,List.mem_append] at h
    rcases List.mem_cons.1 hd with rfl | hd
    · exact fun n hn=>h n (.inl hn)
    · exact Ji (fun n hn=>h n (.inr hn)) d hd
theorem JK {H:Type} {P:Program} {t e:TypeId} {elems spare:List (DataW H)} (ht:P.underlying t=some (.slice e)) (h:Wt P t (.slice elems spare)) :
    (elems.length+spare.length) * P.bytesOf e≤reachBytes∧∀ d∈elems,Wt P e d:=by
  unfold Wt at h
  unfold DataW.weights at h
  rw[ht] at h
  simp only[List.mem_cons,List.mem_append] at h
  exact ⟨h _ (.inl rfl),Ji fun n hn=>h n (.inr (.inl hn))⟩
theorem IH {H:Type} {P:Program} {t:TypeId} {fs:Array Field} {parts:List (DataW H)} (ht:P.underlying t=some (.struct fs)) (h:Wt P t (.agg parts)) {j:Nat} {f:Field} {d:DataW H} (hf:fs[j]?=some f) (hd:parts[j]?=some d):Wt P f.type d:=by
  intro n hn
  refine h n ?_
  unfold DataW.weights
  rw[ht]
  exact DataW.weights_mem_each (j:=j) (t:=f.type) (by simp[hf]) hd n hn
theorem Fv {α:Type} {φ:Nat→α→Prop} : ∀ (n:Nat),(∀ i,i < n→∃ a,φ i a)→∃ l:List α,l.length=n∧∀ i (hi:i < l.length),φ i l[i]
  | 0,_=>⟨[],rfl,fun i hi=>by simp at hi⟩
  | n+1,h=>by
    obtain ⟨l,hl,hφ⟩:=Fv n fun i hi=>h i (by omega)
    obtain ⟨a,ha⟩:=h n (by omega)
    refine ⟨l ++ [a],by simp[hl],fun i hi=>?_⟩
    by_cases e:i < l.length
    · rw[List.getElem_append_left e]; exact hφ i e
    · have:i=n:=by simp at hi; omega
      subst this
      rw[List.getElem_append_right (by omega)]
      simp only[hl,Nat.sub_self,List.getElem_cons_zero]; exact ha
theorem uF {P:Program} {t e:TypeId} {α:Type} {f:α→List V} {ok:α→Prop} (ht:P.underlying t=some (.slice e)) (hc:0 < P.cellsOf e) (hb:0 < P.bytesOf e) (he:wP P e f ok) :
    wP P t (fun l:List α=>[.aY (l.map f)]) (fun l=>l.length < 4611686018427387904∧∀ a∈l,ok a):=by
  intro H enc w base sp held fuel cs x h hw
  rcases DataW.trod_slice ht h with ⟨rfl,rfl⟩ | ⟨a,len,cap,elems,rest,n,_,rfl,rfl,hba,hl,hm,hlen,hel,_,_⟩
  · exact ⟨[],⟨by simp,by simp⟩,uN fun μ=>.fY none 0 (by simp)⟩
  obtain ⟨hw1,hw2⟩:=JK ht hw
  simp only[List.length_map] at hw1
  have hlt:len < 4611686018427387904:=by
    have h1:len * 1≤(elems.length+rest.length) * P.bytesOf e:=Nat.mul_le_mul (by omega) hb
    unfold reachBytes at hw1
    omega
  have each:∀ i,i < len→∃ y,ok y∧∃ ci,w.cells? base (a.add (i * P.cellsOf e)) (P.cellsOf e)=some ci∧wx w.heap ci (f y):=by
    intro i hi
    have h1:=hel i hi
    have h2:elems[i]?=some (elems[i]'(by omega)):=List.getElem?_eq_getElem (by omega)
    have hmem:elems[i]'(by omega)∈elems:=List.getElem_mem _
    rw[h2,Option.bind_eq_some_iff] at h1
    obtain ⟨ci,h3,h4⟩:=h1
    obtain ⟨y,h5,h6⟩:=he enc w base sp held n ci _ h4 (hw2 _ (List.mem_map.2 ⟨_,hmem,rfl⟩))
    exact ⟨y,h5,ci,h3,h6⟩
  obtain ⟨l,hll,hφ⟩:=Fv len each
  subst hll
  refine ⟨l,⟨hlt,fun y hy=>?_⟩,uN fun μ=>?_⟩
  · obtain ⟨i,hi,rfl⟩:=List.getElem_of_mem hy
    exact (hφ i hi).1
  by_cases h0:l=[]
  · subst h0
    exact .fY (some a) cap (by simp)
  have hpos:0 < l.length:=List.length_pos_iff.2 h0
  have hcell:∀ i j,i < l.length→j < P.cellsOf e→∃ c,cellAt w.heap a.block (a.off+i * P.cellsOf e+j)=some c∧a.block < w.heap.size∧(i=0→j=0→a.spot=none)∧∀ (hi:i < l.length),aB (fun b=>b < w.heap.size) μ w.heap ((f l[i]).getD j .any) c:=by
    intro i j hi hj
    obtain ⟨_,ci,h1,h2⟩:=hφ i hi
    obtain ⟨h3,h4⟩:=Er h1
    have h5:=h4 j hj
    have h6:=Hk h5
    have hbk:((a.add (i * P.cellsOf e)).add j).block=a.block:=by simp only[Addr.add]; split <;> split <;> rfl
    have hof:((a.add (i * P.cellsOf e)).add j).off=a.off+i * P.cellsOf e+j:=by
      simp only[Addr.add]; split <;> split <;> simp_all
    refine ⟨ci.getD j undef,?_,by rw[← hbk]; exact h6.2,?_,fun _=>?_⟩
    · rw[← hof,← hbk,← qp]
      rw[← h5]
      congr 1
      generalize (a.add (i * P.cellsOf e)).add j=b at h6
      cases b
      simp at h6 ⊢
      exact h6.1.symm
    · rintro rfl rfl
      simp[Addr.add] at h6
      exact h6.1
    · exact h2.2 μ j (by rw[h2.1,h3]; exact hj)
  obtain ⟨_,_,hz,hs,_⟩:=hcell 0 0 hpos hc
  have ha:a=⟨a.block,a.off,none⟩:=by
    cases a; simp at hs ⊢; exact hs
  have hlf:∀ i,i < l.length→(f (l[i]?.getD (l[0]'hpos))).length=P.cellsOf e:=fun i hi=>by
    obtain ⟨_,ci,h1,h2⟩:=hφ i hi
    rw[List.getElem?_eq_getElem hi,Option.getD_some,h2.1,(Er h1).1]
  have hgd:∀ i (hi:i < l.length),(l.map f).getD i []=f l[i]:=fun i hi=>by simp[List.getD_eq_getElem?_getD,hi]
  have hcl:(l.map f).length=l.length:=by simp
  have:=aB.aY (Z:=fun b=>b < w.heap.size) (μ:=μ) (hp:=w.heap) (l.map f) a.block a.off (P.cellsOf e) cap (fun i j=>(cellAt w.heap a.block (a.off+i * P.cellsOf e+j)).getD undef) hz (by rw[hcl]; exact hl)
    (fun i hi=>by
      rw[hcl] at hi
      have:=hlf i hi
      rw[List.getElem?_eq_getElem hi,Option.getD_some] at this
      rw[hgd i hi]; exact this)
    (fun i j hi hj=>by
      rw[hcl] at hi
      obtain ⟨c,h1,_⟩:=hcell i j hi hj
      rw[h1]; rfl)
    (fun i j hi hj=>by
      rw[hcl] at hi
      obtain ⟨c,h1,_,_,h2⟩:=hcell i j hi hj
      rw[h1,hgd i hi]; exact h2 hi)
  rw[hcl,← ha] at this
  exact this
theorem w9 {P:Program} {t:TypeId} {fs:Array Field} (ht:P.underlying t=some (.struct fs)) (hf:∀ (i:Nat) (f:Field),fs[i]?=some f→f.offset=i∧P.cellsOf f.type=1) (hn:P.cellsOf t=fs.size)
    {H:Type} {enc:TypeId × Value→H} {w:World} {base:Nat} {sp:Nat→Bool} {held:Bool} {fuel:Nat} {cs:List Value} {x:DataW H × List MemPlace} (h:DataW.trod enc P w base sp held fuel t cs=some x) (hw:Wt P t x.1) :
    cs.length=fs.size∧∀ (i:Nat) (f:Field),fs[i]?=some f→∀ {α:Type} {g:α→List V} {ok:α→Prop},wP P f.type g ok→∃ a,ok a∧wx w.heap [cs.getD i undef] (g a):=by
  obtain ⟨xs,n,rfl,rfl,hl,hlen,hx⟩:=DataW.trod_struct ht h
  refine ⟨by rw[hl,hn],fun i f hi α g ok hr=>?_⟩
  obtain ⟨h1,h2⟩:=hf i f hi
  have hi2:i < fs.size:=(Array.getElem?_eq_some_iff.1 hi).1
  have h3:=hx i f hi
  have h4:xs[i]?=some (xs[i]'(by omega)):=List.getElem?_eq_getElem (by omega)
  rw[h4,h1,h2] at h3
  have h5:(cs.drop i).take 1=[cs.getD i undef]:=by
    rw[List.getD_eq_getElem?_getD,List.getElem?_eq_getElem (by omega),List.drop_eq_getElem_cons (by omega)]
    rfl
  rw[h5] at h3
  exact hr enc w base sp held n _ _ h3 (IH ht hw hi (by simp[h4]))
theorem fO {hp:Array Obj} {c:Value} {cs:List Value} {v:V} {vs:List V} (h:wx hp [c] [v]) (k:wx hp cs vs):wx hp (c :: cs) (v :: vs):=by
  refine ⟨by simp[k.1],fun μ i hi=>?_⟩
  cases i with
  | zero=>exact h.2 μ 0 (by simp)
  | succ i=>exact k.2 μ i (by simpa using hi)
theorem y8 {hp:Array Obj} : wx hp [] []:=⟨rfl,fun μ i hi=>by simp at hi⟩
theorem MO {n:Int} (h:(Lit.int .i64 n).wf=true):bW n:=by
  simp only[Lit.wf,Bool.and_eq_true,decide_eq_true_eq] at h
  exact h
theorem nD:wP Tryz.prog 3 (fun n=>[gi n]) bW:=fun enc w base sp held fuel cs x h hw=>by
  obtain ⟨n,h1,h2⟩:=Ot Tryz.underlying3 enc w base sp held fuel cs x h hw
  exact ⟨n,MO h1,h2⟩
theorem NX:wP Tryz.prog 31 (fun l:List Int=>[encI l]) (fun l=>aM l∧∀ x∈l,bW x) :=
  uF Tryz.underlying31 (of_decide_eq_true (by kernel_rfl)) (of_decide_eq_true (by kernel_rfl)) nD
theorem F6:wP Tryz.prog 23 (fun l:List ByteArray=>[encS l]) (fun l=>aM l∧∀ x∈l,True) :=
  uF Tryz.underlying23 (of_decide_eq_true (by kernel_rfl)) (of_decide_eq_true (by kernel_rfl)) (Ca Tryz.underlying9)
theorem PW {cs:List Value} (h:cs.length=3):cs=[cs.getD 0 undef,cs.getD 1 undef,cs.getD 2 undef]:=by
  match cs,h with
  | [a,b,c],_=>rfl
theorem Qm {cs:List Value} (h:cs.length=4):cs=[cs.getD 0 undef,cs.getD 1 undef,cs.getD 2 undef,cs.getD 3 undef]:=by
  match cs,h with
  | [a,b,c,d],_=>rfl
theorem NC:wP Tryz.prog 119 ct (fun t=>bW t.level∧bW t.assoc):=fun enc w base sp held fuel cs x h hw=>by
  obtain ⟨hl,hf⟩:=w9 Tryz.underlying119 (by
    intro i f hi
    match i,hi with
    | 0,hi=>simp at hi; subst hi; exact ⟨rfl,by kernel_rfl⟩
    | 1,hi=>simp at hi; subst hi; exact ⟨rfl,by kernel_rfl⟩
    | 2,hi=>simp at hi; subst hi; exact ⟨rfl,by kernel_rfl⟩
    | n+3,hi=>simp at hi) (by kernel_rfl) h hw
  obtain ⟨a,_,h1⟩:=hf 0 _ rfl (Ca Tryz.underlying9)
  obtain ⟨b,h2,h3⟩:=hf 1 _ rfl nD
  obtain ⟨c,h4,h5⟩:=hf 2 _ rfl nD
  refine ⟨⟨a,b,c⟩,⟨h2,h4⟩,?_⟩
  rw[PW hl]
  exact fO h1 (fO h3 (fO h5 y8))
theorem NW:wP Tryz.prog 75 aO (fun r=>bW r.left∧bW r.prec∧aM r.right∧∀ x∈r.right,bW x):=fun enc w base sp held fuel cs x h hw=>by
  obtain ⟨hl,hf⟩:=w9 Tryz.underlying75 (by
    intro i f hi
    match i,hi with
    | 0,hi=>simp at hi; subst hi; exact ⟨rfl,by kernel_rfl⟩
    | 1,hi=>simp at hi; subst hi; exact ⟨rfl,by kernel_rfl⟩
    | 2,hi=>simp at hi; subst hi; exact ⟨rfl,by kernel_rfl⟩
    | n+3,hi=>simp at hi) (by kernel_rfl) h hw
  obtain ⟨a,h0,h1⟩:=hf 0 _ rfl nD
  obtain ⟨b,h2,h3⟩:=hf 1 _ rfl NX
  obtain ⟨c,h4,h5⟩:=hf 2 _ rfl nD
  refine ⟨⟨a,b,c⟩,⟨h0,h4,h2.1,h2.2⟩,?_⟩
  rw[PW hl]
  exact fO h1 (fO h3 (fO h5 y8))
theorem MW:wP Tryz.prog 26 ar an.Ok:=fun enc w base sp held fuel cs x h hw=>by
  obtain ⟨hl,hf⟩:=w9 Tryz.underlying26 (by
    intro i f hi
    match i,hi with
    | 0,hi=>simp at hi; subst hi; exact ⟨rfl,by kernel_rfl⟩
    | 1,hi=>simp at hi; subst hi; exact ⟨rfl,by kernel_rfl⟩
    | 2,hi=>simp at hi; subst hi; exact ⟨rfl,by kernel_rfl⟩
    | 3,hi=>simp at hi; subst hi; exact ⟨rfl,by kernel_rfl⟩
    | n+4,hi=>simp at hi) (by kernel_rfl) h hw
  obtain ⟨a,h0,h1⟩:=hf 0 _ rfl (uF Tryz.underlying22 (of_decide_eq_true (by kernel_rfl)) (of_decide_eq_true (by kernel_rfl)) NC)
  obtain ⟨b,h2,h3⟩:=hf 1 _ rfl F6
  obtain ⟨c,h4,h5⟩:=hf 2 _ rfl (uF Tryz.underlying24 (of_decide_eq_true (by kernel_rfl)) (of_decide_eq_true (by kernel_rfl)) NW)
  obtain ⟨d,h6,h7⟩:=hf 3 _ rfl nD
  refine ⟨⟨a,b,c,d⟩,⟨h0.1,h2.1,h4.1,h6,h0.2,h4.2⟩,?_⟩
  rw[Qm hl]
  exact fO h1 (fO h3 (fO h5 (fO h7 y8)))
def rN:SC :=
  .seq (al [aR 44 .lss 43 42]) <|
  .seq (.cond (.tmp 44) (.skip) (.exit 0)) <|
  .seq (.block 1 (.seq (al [ae 45 43,aP 46 3 41 43,aU 47 3 46,((some 11),.op (.alloc [(.val (.int .i64 0)),(.emp 1),(.val (.int .i64 0))])),ae 10 45,(none,.op (.store 3 (.tmp 11) (.tmp 47)))]) <|
  .seq (.seq (.region false [⟨none,[ae 48 6,au 49 0 11,ao 50 49,aP 51 1 48 50,ao 52 51,bZ 53 52,ae 54 53]⟩,⟨(some (54,false)),[aU 55 3 11,ae 56 5,aN 57 163 [55,56],bZ 58 57]⟩,⟨none,[bC 59 54 58]⟩]) <|
  .cond (.tmp 59) (.exit 1) (.skip)) <|
  .seq (al [ae 60 7,ae 61 10,((some 62),.op (.bJ 1 1 [(.val (.int .i64 0))] [(0,(.tmp 61))])),((some 63),.op (.app 1 8 (.tmp 60) (.tmp 62))),ae 7 63]) <|
  .seq (al [ae 65 9,au 66 0 11,ao 67 66,((some 68),.op (.old (.lookup 230 (.tmp 65) (.tmp 67) true) 103)),ae 64 68,bY 69 0 64,bY 70 1 64,ae 12 69,ae 13 70]) <|
  .seq (al [ae 71 13,bZ 72 71]) <|
  .cond (.tmp 72) (.seq (al [ae 73 9,au 74 0 11,ao 75 74,au 76 1 8,ao 77 76,aL 78 77,(none,.op (.old (.mapUpdate 230 (.tmp 73) (.tmp 75) (.tmp 78)) 0))]) <|
  .region false [⟨none,[au 79 1 8,ao 80 79,au 81 1 1,ao 82 81,au 83 0 11,ao 84 83,aP 85 1 82 84,ao 86 85,((some 87),.op (.bJ 1 1 [(.val (.string ⟨#[]⟩))] [(0,(.tmp 86))])),((some 88),.op (.app 1 16 (.tmp 80) (.tmp 87))),au 89 1 8,(none,.op (.store 1 (.tmp 89) (.tmp 88)))]⟩]) (.skip))) <|
  al [az 90 .add 43 1,ae 43 90]
def rG:SC :=
  .seq (al [aR 116 .lss 115 114]) <|
  .seq (.cond (.tmp 116) (.skip) (.exit 4)) <|
  .seq (.block 5 (.seq (al [ae 117 115,aP 118 1 113 115,ao 119 118,ae 18 117,ae 19 119]) <|
  .seq (al [ae 120 19,az 121 .lss 120 0]) <|
  .cond (.tmp 121) (al [au 122 1 17,ao 123 122,ae 124 18,ae 125 9,ae 126 19,((some 127),.op (.arith .sub (.val (.val (.int .i64 (-1)))) (.tmp 126))),((some 128),.op (.old (.lookup 230 (.tmp 125) (.tmp 127) false) 3)),((some 129),.op (.arith .sub (.val (.val (.int .i64 (-1)))) (.tmp 128))),aP 130 1 123 124,(none,.op (.store 1 (.tmp 130) (.tmp 129)))]) (.skip))) <|
  al [az 131 .add 115 1,ae 115 131]
def rX:SC :=
  .seq (al [aR 94 .lss 93 92]) <|
  .seq (.cond (.tmp 94) (.skip) (.exit 2)) <|
  .seq (.block 3 (.seq (al [aP 95 1 91 93,ao 96 95,ae 15 96]) <|
  .seq (al [au 97 2 1,ao 98 97,ae 99 15,aP 100 3 98 99,aU 101 3 100,((some 16),.op (.alloc [(.val (.int .i64 0)),(.emp 1),(.val (.int .i64 0))])),(none,.op (.store 3 (.tmp 16) (.tmp 101)))]) <|
  .seq (.region true [⟨none,[ae 102 9,au 103 0 16,ao 104 103,((some 105),.op (.old (.lookup 230 (.tmp 102) (.tmp 104) false) 3)),au 106 1 16,ao 107 106,aN 108 164 [107],au 109 2 16,ao 110 109,((some 111),.op (.build [(.val (.int .i64 0)),(.emp 1),(.val (.int .i64 0))] [(0,1,(.tmp 105)),(1,1,(.tmp 108)),(2,1,(.tmp 110))])),((some 17),.op (.alloc [(.val (.int .i64 0)),(.emp 1),(.val (.int .i64 0))])),(none,.op (.store 3 (.tmp 17) (.tmp 111)))]⟩]) <|
  .seq (.seq (al [au 112 1 17,ao 113 112,aL 114 113,aH 115 0]) <|
  .block 4 (.loop rG)) <|
  al [au 132 2 8,ao 133 132,aU 134 3 17,((some 135),.op (.bJ 1 3 [(.val (.int .i64 0)),(.emp 1),(.val (.int .i64 0))] [(0,(.tmp 134))])),((some 136),.op (.app 3 40 (.tmp 133) (.tmp 135))),au 137 2 8,(none,.op (.store 1 (.tmp 137) (.tmp 136)))])) <|
  al [az 138 .add 93 1,ae 93 138]
def vo:SF:=⟨.seq (al [cM 1 0,((some 2),.op (.alloc [(.emp 1),(.emp 1),(.emp 1),(.val (.int .i64 0))])),((some 3),.op (.bc (.val (.emp 1)))),aH 4 0]) <|
  .seq (.seq (al [aU 20 4 1,aN 21 45 [20],bZ 22 21]) <|
  .cond (.tmp 22) (.seq (al [((some 23),.op (.build [(.emp 1),(.emp 1),(.emp 1),(.val (.int .i64 0))] [])),(none,.op (.store 4 (.tmp 2) (.tmp 23))),((some 3),.op (.bc (.val (.emp 1)))),aH 4 1]) <|
  .ret) (.skip)) <|
  .seq (.region true [⟨none,[aU 24 4 1,aN 25 160 [24],aU 26 4 1,aN 27 161 [26],ae 5 25,ae 6 27]⟩]) <|
  .seq (.seq (al [ae 28 5,au 29 3 1,ao 30 29,aP 31 1 28 30,ao 32 31,bZ 33 32]) <|
  .cond (.tmp 33) (.seq (al [((some 34),.op (.build [(.emp 1),(.emp 1),(.emp 1),(.val (.int .i64 0))] [])),(none,.op (.store 4 (.tmp 2) (.tmp 34))),((some 3),.op (.bc (.val (.emp 1)))),aH 4 9]) <|
  .ret) (.skip)) <|
  .seq (al [((some 7),.op (.bc (.val (.emp 1))))]) <|
  .seq (al [au 35 0 1,ao 36 35,aN 37 162 [36],((some 38),.op (.build [(.emp 1),(.emp 1),(.emp 1),(.val (.int .i64 0))] [(0,1,(.tmp 37))])),((some 8),.op (.alloc [(.emp 1),(.emp 1),(.emp 1),(.val (.int .i64 0))])),(none,.op (.store 4 (.tmp 8) (.tmp 38)))]) <|
  .seq (al [((some 39),.op (.rr)),ae 9 39]) <|
  .seq (.seq (al [au 40 2 1,ao 41 40,aL 42 41,aH 43 0]) <|
  .block 0 (.loop rN)) <|
  .seq (.seq (al [ae 91 7,aL 92 91,aH 93 0]) <|
  .block 2 (.loop rX)) <|
  .seq (al [ae 139 9,au 140 3 1,ao 141 140,((some 142),.op (.old (.lookup 230 (.tmp 139) (.tmp 141) false) 3)),au 143 3 8,(none,.op (.store 1 (.tmp 143) (.tmp 142)))]) <|
  .seq (al [aU 144 4 8,ae 145 7,(none,.op (.store 4 (.tmp 2) (.tmp 144))),ae 3 145,aH 4 0]) <|
  .ret,
  [.cell 2 (some 4),.tmp 3,.tmp 4],146⟩
theorem y6:aW Tryz.prog 107 [1]=some vo:=by kernel_rfl
abbrev xb (m:dp Int):List (V × V × Nat):=c4 (Value.int .i64) m
def Ox (g:an) (p q:List Bool) (b2 b8 b9:Nat) (u0:V) (i:Nat) (T:Env) (H:View):Prop :=
  (∃ u1 u3:V,T 7=u3∧(∀ x∈bL p q (g.rules.take i),0≤x∧x < g.av.length)∧(bL p q (g.rules.take i)).length≤i ∧
    bI H [(.sl b8 0 1 4,4,[[u0,u1,.emp 1,gi 0]]),(u3,1,bq (cq p q (g.rules.take i) 0)),
      (u1,1,jf ((bL p q (g.rules.take i)).map fun x=>g.av.getD x.toNat ⟨#[]⟩)),(u0,3,g.ax.map ct),(.sl b2 0 1 4,4,[[.emp 1,.emp 1,.emp 1,gi 0]])] ∧
    ∃ m c,H b9=.map (xb m) c∧l0 gi (iC (bL p q (g.rules.take i)) 0) m) ∧
  T 1=.aS (ar g) 0∧T 2=.ptr b2 0 0∧T 5=bw p∧T 6=bw q∧T 8=.ptr b8 0 0∧T 9=.mp b9∧T 41=.aY (g.rules.map aO)∧T 42=gi g.rules.length∧T 43=gi i
theorem Bt {α:Type} {x s:α} : ∀ {a d:List α} {k:Nat},a.length=k→(a ++ s :: d).set k x=a ++ x :: d
  | [],d,k,h=>by simp at h; subst h; rfl
  | y :: a,d,k,h=>by
    cases k with
    | zero=>simp at h
    | succ k=>simp only[List.cons_append,List.set_cons_succ]; rw[Bt (by simpa using h)]
def P7 (g:an) (p q:List Bool) (b2 b8 b9:Nat) (u0 u1 u3:V) (o kl:List Int) (mm:dp Int) (cc:Nat) (i:Nat) (T:Env) (H:View):Prop :=
  (∃ (u2:V) (bs:xD),bs.map (·.2)=((g.rules.filter (bD p q)).take i).map (bf (dg o)) ∧
    bI H ((.sl b8 0 1 4,4,[[u0,u1,u2,gi 0]]) :: (u3,1,bq kl) ::
      (u1,1,jf (o.map fun x=>g.av.getD x.toNat ⟨#[]⟩)) :: (u0,3,g.ax.map ct) :: (u2,3,fB bs) :: (.sl b2 0 1 4,4,[[.emp 1,.emp 1,.emp 1,gi 0]]) :: kF bs) ∧
    H b9=.map (xb mm) cc) ∧
  T 1=.aS (ar g) 0∧T 2=.ptr b2 0 0∧T 7=u3∧T 8=.ptr b8 0 0∧T 9=.mp b9∧T 91=u3∧T 92=gi kl.length∧T 93=gi i
def PZ (g:an) (b2 b8 b9 b16 b17:Nat) (u3 v:V) (o kl:List Int) (mm:dp Int) (cc:Nat) (r:aQ) (L:List fE) (i k:Nat) (T:Env) (H:View):Prop :=
  bI H ((.sl b17 0 1 3,3,[[gi (dg o r.left),v,gi r.prec]]) :: (v,1,bq ((bf (dg o) r).right.take k ++ r.right.drop k)) :: (.sl b16 0 1 3,3,[aO r]) :: L) ∧
  H b9=.map (xb mm) cc∧T 1=.aS (ar g) 0∧T 2=.ptr b2 0 0∧T 7=u3∧T 8=.ptr b8 0 0∧T 9=.mp b9∧T 91=u3∧T 92=gi kl.length∧T 93=gi i∧T 17=.ptr b17 0 0∧T 113=v∧T 114=gi r.right.length∧T 115=gi k
set_option maxHeartbeats 8000000 in
theorem EW (g:an) (hg:g.Ok) (hs:g.Small):cd Tryz.prog 107 [.agg (ar g)] (ug (if bp g=true then
    if (aJ g true).getD g.start.toNat false=true then (iX g (dg (bL (aJ g true) (bu g) g.rules)) (aJ g true) (bu g),cq (aJ g true) (bu g) g.rules 0,0)
    else (q6,[],9)
  else (q6,[],1))):=by
  refine cd.of (eA g) ?_
  refine aA.of mixed y6 ?_
  simp (disch:=omega) only [↓wr,↓reduceIte,wq,ai,Nat.reduceEqDiff,Nat.reduceAdd,Nat.reduceLeDiff,vo,ar,encS]
  intro b2
  try simp (disch:=omega) only [↓wr,↓reduceIte,wq,ai,ah,ak,aa,af,ag,aj,isNil,Nat.reduceEqDiff,Nat.reduceAdd,Nat.reduceLT,Nat.reduceLeDiff,Int.reduceNeg,Int.reduceToNat,reduceCtorEq,ar,encS]
  refine aF.pure (lD g hg hs.names) (by kernel_rfl) ?_
  repeat' (first | (refine aq.dec (fun _=>?_) (fun _=>?_)) | (refine aq.eq (fun _=>?_) (fun _=>?_)) | (refine aq.ne (fun _=>?_) (fun _=>?_)) | (refine aq.split (fun _=>?_) (fun _=>?_)) | (simp (disch:=omega) only [↓wr,↓reduceIte,wq,aa,af,Nat.reduceEqDiff,Nat.reduceAdd,Nat.reduceLT,Nat.reduceLeDiff,reduceCtorEq,set_set]))
  · rename_i hr
    rw[if_pos hr]
    refine aF.pure (tJ g hg hs).pure (by kernel_rfl) ?_
    simp (disch:=omega) only [↓wr,↓reduceIte,wq,Nat.reduceEqDiff,Nat.reduceAdd,Nat.reduceLeDiff]
    refine aF.pure (CI g hg hs).pure (by kernel_rfl) ?_
    have hf:=aZ hr
    have h3:=hf.dW
    have h4:=hf.start
    have hpl:=iN hr true
    have hql:=ou hr
    generalize aJ g true=p at hpl ⊢
    generalize bu g=q at hql ⊢
    have hps:p[g.start.toNat]?=some (p[g.start.toNat]'(by omega)):=List.getElem?_eq_getElem (by omega)
    have hpd:p.getD g.start.toNat false=p[g.start.toNat]'(by omega):=by simp[List.getD_eq_getElem?_getD,hps]
    generalize p[g.start.toNat]'(by omega)=s at hps hpd
    rw[hpd]
    simp (disch:=omega) only [↓wr,↓reduceIte,wq,Nat.reduceEqDiff,Nat.reduceAdd,Nat.reduceLT,bw,List.getElem?_map,hps]
    cases s with
    | false =>
      simp (disch:=omega) only [↓wr,↓reduceIte,wq,aa,af,Nat.reduceEqDiff,Nat.reduceAdd,Nat.reduceLT,Nat.reduceLeDiff,reduceCtorEq,set_set]
      rintro h' hh
      exact uB
    | true =>
      simp (disch:=omega) only [↓wr,↓reduceIte,wq,Nat.reduceEqDiff,Nat.reduceAdd,Nat.reduceLT]
      have hN:=hf.av
      have hN1:=hf.p8
      have hT:=hf.ax
      have hR:=hf.rules
      refine aF.iy ((Jx g.ax (by omega) _).mono ?_)
      rintro u0 H1 ⟨hu0,hfr⟩
      have ho1:=(bI.nil.new (H:=fun _=>bN.dead) (n:=b2) rfl 4 [[.emp 1,.emp 1,.emp 1,gi 0]]).O5 hu0 hfr
      have c0:=ho1.head.cells
      have k0:=ho1.head.gL
      simp (disch:=omega) only [↓wr,↓reduceIte,wq,ak,aa,af,Nat.reduceEqDiff,Nat.reduceAdd,Nat.reduceLT,Nat.reduceLeDiff,c0,k0]
      intro b8 hb8
      have ho2:=ho1.new hb8 4 [[u0,.emp 1,.emp 1,gi 0]]
      try simp (disch:=omega) only [↓wr,↓reduceIte,wq,ai,ah,ak,aa,af,ag,aj,isNil,Nat.reduceEqDiff,Nat.reduceAdd,Nat.reduceLT,Nat.reduceLeDiff,Int.reduceNeg,Int.reduceToNat,reduceCtorEq,ar,encS,c0,k0,set_set]
      intro b9 hb9
      have hb98:=(cg hb9 ca).1
      have hb9:=(cg (cg hb9 ca).2 ca).2
      have ho3:=(((ho2.fresh (n:=b9) (o:=.map [] 0) (by simp only[View.set,if_neg hb98]; exact hb9)).emp (k:=1) (sz:=1)).emp (k:=1) (sz:=1)).perm Bo.symm
      try simp (disch:=omega) only [↓wr,↓reduceIte,wq,ai,ah,ak,aa,af,ag,aj,isNil,Nat.reduceEqDiff,Nat.reduceAdd,Nat.reduceLT,Nat.reduceLeDiff,Int.reduceNeg,Int.reduceToNat,reduceCtorEq,ar,encS,c0,k0,set_set]
      refine bb.up g.rules.length (Ox g p q b2 b8 b9 u0) ?_ ?_
      · refine ⟨⟨.emp 1,.emp 1,rfl,by simp[bL],by simp[bL],by rw[set_set]; exact ho3,[],0,by simp[View.set,c4],trivial⟩,rfl,rfl,rfl,rfl,rfl,rfl,rfl,rfl,rfl⟩
      clear ho1 ho2 ho3 hb8 hb9 hb98
      rintro i k T H2 hk ⟨⟨u1,u3,t7,hin,holen,ho,mm,cc,h9,hm9⟩,t1,t2,t5,t6,t8,t9,t41,t42,t43⟩
      simp (disch:=omega) only [↓wr,↓reduceIte,wq,ah,ak,rN,t42,t43]
      refine aq.dec (fun hc=>?_) (fun hc=>?_)
      · have hg2:g.rules[i]?=some (g.rules[i]'(by omega)):=List.getElem?_eq_getElem (by omega)
        have hmem:g.rules[i]'(by omega)∈g.rules:=List.getElem_mem _
        have htk:g.rules.take (i+1)=g.rules.take i ++ [g.rules[i]'(by omega)]:=by rw[List.take_add_one,hg2]; rfl
        generalize g.rules[i]'(by omega)=r at hg2 hmem htk
        obtain ⟨hl1,hl2,hl3,hr6,hsy⟩:=hf.tB hg hmem
        have hqs:q[r.left.toNat]?=some (q[r.left.toNat]'(by omega)):=List.getElem?_eq_getElem (by omega)
        have hqd:q.getD r.left.toNat false=q[r.left.toNat]'(by omega):=by simp[List.getD_eq_getElem?_getD,hqs]
        generalize q[r.left.toNat]'(by omega)=qs at hqs hqd
        simp (disch:=omega) only [↓wr,↓reduceIte,wq,aa,Nat.reduceEqDiff,Nat.reduceAdd,Nat.reduceLT,Nat.reduceLeDiff,t6,t41,t43,aO,encI,List.getElem?_map,hg2]
        intro b11 hb11
        have hoA:=ho.new hb11 3 [aO r]
        have n911:b9≠b11:=by rintro rfl; rw[h9] at hb11; simp at hb11
        try simp (disch:=omega) only [↓wr,↓reduceIte,wq,Nat.reduceLT,bw,List.getElem?_map,hqs]
        have hskip:∀ (T2:Env) (H':View),bD p q r=false→H'=H2.set b11 (.arr 3 [aO r])→T2 7=u3→T2 1=.aS (ar g) 0→T2 2=.ptr b2 0 0→T2 5=bw p→T2 6=bw q→T2 8=.ptr b8 0 0→T2 9=.mp b9→T2 41=.aY (g.rules.map aO)→T2 42=gi g.rules.length→T2 43=gi ((i:Int)+1) →
            ∃ k',k' < k∧Ck g.rules.length k' (Ox g p q b2 b8 b9 u0) T2 H':=by
          intro T2 H' hkr hH' a7 a1 a2 a5 a6 a8 a9 a41 a42 a43
          have e1:bL p q (g.rules.take (i+1))=bL p q (g.rules.take i):=by rw[htk,rH,if_neg (by simp[hkr])]
          have e2:cq p q (g.rules.take (i+1)) 0=cq p q (g.rules.take i) 0:=by rw[htk,jS]; simp[cq,hkr]
          refine aK hk (by omega) ⟨⟨u1,u3,a7,by rw[e1]; exact hin,by rw[e1]; omega,by rw[e1,e2,hH']; exact hoA.tail,mm,cc,by rw[hH']; simp[View.set,n911,h9],by rw[e1]; exact hm9⟩,a1,a2,a5,a6,a8,a9,a41,a42,by rw[a43]; rfl⟩
        cases qs with
        | false =>
          simp (disch:=omega) only [↓wr,↓reduceIte,wq,ah,Nat.reduceEqDiff,Nat.reduceAdd,reduceCtorEq,t2,t7,t43]
          refine hskip _ _ (by rw[bD,hqd]; rfl) ?_ ?_ ?_ ?_ ?_ ?_ ?_ ?_ ?_ ?_ ?_
          all_goals first | exact t7 | exact t1 | exact t2 | exact t5 | exact t6 | exact t8 | exact t9 | exact t41 | exact t42 | rfl | (rw[set_set]; rfl)
        | true =>
          simp (disch:=omega) only [↓wr,↓reduceIte,wq,Nat.reduceEqDiff,Nat.reduceAdd,Nat.reduceLT,Nat.reduceLeDiff,t5,bw]
          refine aF.pure (wu r p (hg.bd r hmem).2.2.1 (fun s hs'=>⟨(hsy s hs').1,fun h=>by rw[hpl]; exact (hsy s hs').2 h⟩)) (by kernel_rfl) ?_
          simp (disch:=omega) only [↓wr,↓reduceIte,wq,Nat.reduceEqDiff]
          refine aq.split (fun hal=>?_) (fun hal=>?_)
          · simp (disch:=omega) only [↓wr,↓reduceIte,wq,ag,Nat.reduceEqDiff,Nat.reduceAdd,Nat.reduceLT,t7]
            have hkr:bD p q r=true:=by rw[bD,hqd,hal]; rfl
            intro m hm
            try simp (disch:=omega) only [↓wr,↓reduceIte,wq,Nat.reduceEqDiff,cp]
            have hm11:=(cg hm ca).1
            have hm:=(cg (cg hm ca).2 ca).2
            have hoB:=(hoA.fresh (n:=m) (o:=.arr 1 [[gi i]]) (by simp only[View.set,if_neg hm11]; exact hm)).at 2 (by simp)
            have n9m:b9≠m:=by rintro rfl; rw[h9] at hm; simp at hm
            have hkl:(cq p q (g.rules.take i) 0).length≤40:=by
              rw[ju]
              have h1:=List.length_filter_le (bD p q) (g.rules.take i)
              have h2:(g.rules.take i).length≤i:=List.length_take_le _ _
              omega
            refine cH (by rw[set_set]; exact hoB) (by simp[aT]) (by unfold aI; simp at hkl ⊢; omega) (by unfold aI; simp at hkl ⊢; omega) ?_
            intro u3' H3 ho3 hleft
            have f11:=ho3.is 1 rfl (by simp)
            have f8:=ho3.is 2 rfl (by simp)
            have hleft':Left ((H2.set b11 (.arr 3 [aO r])).set m (.arr 1 [[gi i]])) H3 u3 u3':=by rw[set_set] at hleft; exact hleft
            have f9:H3 b9=.map (xb mm) cc:=hleft'.map (b:=b9) hoB.head (by simp[View.set,n911,n9m,h9])
            have hu1:dM u1=some (jf ((bL p q (g.rules.take i)).map fun x=>g.av.getD x.toNat ⟨#[]⟩)).length:=(ho3.own 3 rfl).len
            simp only[aO,encI] at f11
            have e2:cq p q (g.rules.take (i+1)) 0=cq p q (g.rules.take i) 0 ++ [(i:Int)]:=by
              rw[htk,jS]; simp[cq,hkr,show i≤g.rules.length by omega]
            have e1:bL p q (g.rules.take (i+1))=dd (bL p q (g.rules.take i)) r:=by rw[htk,rH,if_pos hkr]
            generalize bL p q (g.rules.take i)=o at *
            generalize cq p q (g.rules.take i) 0=kl at *
            simp (disch:=omega) only [↓wr,↓reduceIte,wq,Nat.reduceEqDiff,Nat.reduceAdd,Nat.reduceLT,t9,f11]
            refine L3 (kt:=3) (et:=3) (z:=gi 0) (by kernel_rfl) (by kernel_rfl) (gX .i64 Tryz.underlying3) (id:=b9) (c:=cc) (m:=mm) (k:=r.left) (by simp (disch:=omega) only [↓wr,↓reduceIte,Nat.reduceEqDiff]) (by simp (disch:=omega) only [↓wr,↓reduceIte]) f9 ?_
            rw[hm9.get,rW]
            have hob:o.length≤40:=by omega
            by_cases hx:r.left∈o
            · have e1':dd o r=o:=by rw[dd,if_pos hx]
              rw[if_pos hx]
              simp (disch:=omega) only [↓wr,↓reduceIte,wq,ah,Nat.reduceEqDiff,Nat.reduceAdd,Nat.reduceLT,reduceCtorEq,t2,t43,Option.isSome_some]
              have ho4:=(((ho3.at 1 (by simp)).tail).perm (.swap _ _ _))
              refine aK hk (by omega) ⟨⟨u1,u3',rfl,by rw[e1,e1']; exact hin,by rw[e1,e1']; omega,?_,mm,cc,f9,by rw[e1,e1']; exact hm9⟩,t1,t2,t5,t6,t8,t9,t41,t42,rfl⟩
              rw[e1,e1',e2]
              simp only[List.map_append,List.map_cons,List.map_nil]
              exact ho4
            · have e1':dd o r=o ++ [r.left]:=by rw[dd,if_neg hx]
              rw[if_neg hx]
              have hgn:g.av[r.left.toNat]?=some (g.av[r.left.toNat]'(by omega)):=List.getElem?_eq_getElem (by omega)
              have hgnd:g.av.getD r.left.toNat ⟨#[]⟩=g.av[r.left.toNat]'(by omega):=by simp[List.getD_eq_getElem?_getD,hgn]
              generalize g.av[r.left.toNat]'(by omega)=nm at hgn hgnd
              simp (disch:=omega) only [↓wr,↓reduceIte,wq,ak,Nat.reduceEqDiff,Nat.reduceAdd,Nat.reduceLT,t8,t9,Option.isSome_none,f11,f8,hu1]
              refine wQ (kt:=3) (et:=3) (by kernel_rfl) (gX .i64 Tryz.underlying3) (id:=b9) (c:=cc) (m:=mm) (k:=r.left) (v:=gi o.length) (by simp (disch:=omega) only [↓wr,↓reduceIte,Nat.reduceEqDiff]) (by simp (disch:=omega) only [↓wr,↓reduceIte,Nat.reduceEqDiff]) (by simp (disch:=omega) only [↓wr,↓reduceIte]) f9 ?_
              intro c'
              have n89:b8≠b9:=z8 ho3 2 rfl f9
              have n119:b11≠b9:=z8 ho3 1 rfl f9
              simp (disch:=omega) only [↓wr,↓reduceIte,wq,ag,Nat.reduceEqDiff,Nat.reduceAdd,Nat.reduceLT,t1,t8,f11,f8,n89,n119,ar,encS,List.getElem?_map,hgn]
              intro m2 hm2
              have hm29:=(cg hm2 (by simp)).1
              have hm2:=(cg hm2 (by simp)).2
              have ho5:=((ho3.vX f9 (o:=.map (xb (cW r.left (gi o.length) cc mm)) c')).fresh (n:=m2) (o:=.arr 1 [[gs nm]]) (by simp only[View.set,if_neg hm29]; exact hm2)).at 3 (by simp)
              try simp (disch:=omega) only [↓wr,↓reduceIte,wq,Nat.reduceEqDiff,cp]
              refine cH ho5 (by simp[aT]) (by unfold aI; simp; omega) (by unfold aI; simp; omega) ?_
              intro u1' H5 ho6 hleft2
              have c1:=ho6.head.cells
              have k1:=ho6.head.gL
              have f8':=ho6.is 3 rfl (by simp)
              have f9':=hleft2.map (b:=b9) (es:=xb (cW r.left (gi o.length) cc mm)) (c:=c') ho5.head (by simp[View.set,Ne.symm hm29])
              have n89':b9≠b8:=n89.symm
              simp (disch:=omega) only [↓wr,↓reduceIte,wq,ah,aa,Nat.reduceEqDiff,Nat.reduceAdd,Nat.reduceLT,Nat.reduceLeDiff,reduceCtorEq,t2,t8,t43,f8',c1,k1]
              have ho7:=(ho6.at 3 (by simp)).put (es':=[[u0,u1',.emp 1,gi 0]]) rfl rfl
              have ho8:=(((ho7.at 3 (by simp)).tail).perm (.cons _ (.swap _ _ _)))
              refine aK hk (by omega) ⟨⟨u1',u3',rfl,?_,?_,?_,_,c',(by simp only[View.set,if_neg n89']; exact f9'),?_⟩,t1,t2,t5,t6,t8,t9,t41,t42,rfl⟩
              · rw[e1,e1']; intro x hx'; rcases List.mem_append.1 hx' with h | h
                · exact hin x h
                · simp at h; subst h; exact ⟨hl2,hl3⟩
              · rw[e1,e1']; simp; omega
              · rw[e1,e1',e2]
                simp only[List.map_append,List.map_cons,List.map_nil,hgnd]
                exact ho8
              · rw[e1,e1',zJ,Int.zero_add,← BZ hx]
                exact hm9.put r.left (o.length:Int) cc
          · simp (disch:=omega) only [↓wr,↓reduceIte,wq,ah,Nat.reduceEqDiff,Nat.reduceAdd,reduceCtorEq,t2,t7,t43]
            refine hskip _ _ (by rw[bD,hqd,hal]; rfl) ?_ ?_ ?_ ?_ ?_ ?_ ?_ ?_ ?_ ?_ ?_
            all_goals first | exact t7 | exact t1 | exact t2 | exact t5 | exact t6 | exact t8 | exact t9 | exact t41 | exact t42 | rfl | (rw[set_set]; rfl)
      · rw[List.take_of_length_le (by omega)] at ho hin holen hm9
        have hkl40:(cq p q g.rules 0).length≤40:=by
          rw[ju]; have h1:=List.length_filter_le (bD p q) g.rules; omega
        have hkg:=r5 p q g.rules 0
        have hkln:=ju p q g.rules 0
        have hrg:iX g (dg (bL p q g.rules)) p q=⟨g.ax,(bL p q g.rules).map fun x=>g.av.getD x.toNat ⟨#[]⟩,(g.rules.filter (bD p q)).map (bf (dg (bL p q g.rules))),dg (bL p q g.rules) g.start⟩:=rfl
        rw[hrg,if_pos rfl]
        clear hrg
        generalize bL p q g.rules=o at *
        generalize cq p q g.rules 0=kl at *
        have hob:o.length≤40:=by omega
        have hu3:dM u3=some (bq kl).length:=(ho.own 1 rfl).len
        simp (disch:=omega) only [↓wr,↓reduceIte,wq,Nat.reduceEqDiff,reduceCtorEq,t2,t7,hu3]
        refine bb.up kl.length (P7 g p q b2 b8 b9 u0 u1 u3 o kl mm cc) ?_ ?_
        · refine ⟨⟨.emp 1,[],by simp,?_,h9⟩,t1,t2,t7,t8,t9,t7,rfl,rfl⟩
          exact (ho.emp (k:=1) (sz:=3)).perm (qv [(.sl b8 0 1 4,4,[[u0,u1,.emp 1,gi 0]]),(u3,1,bq kl),(u1,1,jf (o.map fun x=>g.av.getD x.toNat ⟨#[]⟩)),(u0,3,g.ax.map ct),(.emp 1,3,[]),(.sl b2 0 1 4,4,[[.emp 1,.emp 1,.emp 1,gi 0]])] 4 (by simp)).symm
        clear ho h9 t1 t2 t5 t6 t7 t8 t9 t41 t42 t43
        rintro i k T H2 hk ⟨⟨u2,bs,hbs,ho,h9⟩,t1,t2,t7,t8,t9,t91,t92,t93⟩
        simp (disch:=omega) only [↓wr,↓reduceIte,wq,ah,Nat.reduceEqDiff,rX,t92,t93]
        refine aq.dec (fun hc=>?_) (fun hc=>?_)
        · obtain ⟨n3,e3,hn3⟩:=(ho.own 1 rfl).sl (by simp; omega)
          rw[List.length_map] at e3
          subst e3
          obtain ⟨m,hm1,hm2,hm3⟩:=hkg i (by omega)
          have hbg:=jM (show i < kl.length by omega)
          rw[Int.zero_add] at hm1
          have hki:kl[i]'(by omega)=(m:Int):=by
            rw[List.getElem?_eq_getElem (show i < kl.length by omega)] at hm1; simpa using hm1
          rw[hki] at hbg
          have hg2:g.rules[m]?=some (g.rules[m]'hm3):=List.getElem?_eq_getElem hm3
          have hmem:g.rules[m]'hm3∈g.rules:=List.getElem_mem _
          have htk:(g.rules.filter (bD p q)).take (i+1)=(g.rules.filter (bD p q)).take i ++ [g.rules[m]'hm3]:=by
            rw[List.take_add_one,← hm2,hg2]; rfl
          generalize g.rules[m]'hm3=r at hg2 hmem htk
          obtain ⟨hl1,hl2,hl3,hr6,hsy⟩:=hf.tB hg hmem
          simp (disch:=omega) only [↓wr,↓reduceIte,wq,aa,Nat.reduceEqDiff,Nat.reduceAdd,Nat.reduceLT,Nat.reduceLeDiff,t1,t9,t91,t93,hn3,hbg,ar,aO,encI,List.getElem?_map,hg2]
          refine ⟨by omega,by omega,?_⟩
          intro b16 hb16
          have hoA:=ho.new hb16 3 [aO r]
          have n916:b9≠b16:=by rintro rfl; rw[h9] at hb16; simp at hb16
          try simp (disch:=omega) only [↓wr,↓reduceIte,wq,ai,ah,ak,aa,af,ag,aj,isNil,Nat.reduceEqDiff,Nat.reduceAdd,Nat.reduceLT,Nat.reduceLeDiff,Int.reduceNeg,Int.reduceToNat,reduceCtorEq,t1,t2,t7,t8,t9,t91,t92,t93,set_set]
          refine xS (kt:=3) (et:=3) (z:=gi 0) (by kernel_rfl) (by kernel_rfl) (gX .i64 Tryz.underlying3) (id:=b9) (c:=cc) (m:=mm) (k:=r.left) (by simp (disch:=omega) only [↓wr,↓reduceIte,Nat.reduceEqDiff]) (by simp (disch:=omega) only [↓wr,↓reduceIte]) (by simp[View.set,n916,h9]) ?_
          have hgt:∀ x,(getM mm x).getD (gi 0)=gi (dg o x):=fun x=>by
            rw[hm9.get,dg]; cases dr (iC o 0) x <;> rfl
          rw[hgt]
          simp (disch:=omega) only [↓wr,↓reduceIte,wq,Nat.reduceEqDiff,Nat.reduceAdd,Nat.reduceLT]
          refine aF.MC (HL r.right (by omega) _) ?_
          intro v H3 hv hfr
          have hoB:=bI.O5 (H:=H2.set b16 (.arr 3 [aO r])) hoA hv (by rw[set_set] at hfr; exact hfr)
          have h9B:H3 b9=.map (xb mm) cc:=by
            rw[(hfr b9 (by simp[View.set,n916,h9])).1]; simp[View.set,n916,h9]
          have cv:=hv.cells
          have kv:=hv.gL
          have lv:=hv.len
          have f16:=hoB.is 1 rfl (by simp)
          simp only[aO,encI] at f16
          simp (disch:=omega) only [↓wr,↓reduceIte,wq,ak,aa,af,Nat.reduceEqDiff,Nat.reduceAdd,Nat.reduceLT,Nat.reduceLeDiff,f16,cv,kv]
          intro b17 hb17
          have hoC:=hoB.new hb17 3 [[gi (dg o r.left),v,gi r.prec]]
          have n917:b9≠b17:=by rintro rfl; rw[h9B] at hb17; simp at hb17
          try simp (disch:=omega) only [↓wr,wq,lv]
          generalize hL:((V.sl b8 0 1 4,4,[[u0,u1,u2,gi 0]]) :: (V.sl n3 0 kl.length 1,1,bq kl) ::
              (u1,1,jf (o.map fun x=>g.av.getD x.toNat ⟨#[]⟩)) :: (u0,3,g.ax.map ct) :: (u2,3,fB bs) :: (V.sl b2 0 1 4,4,[[V.emp 1,V.emp 1,V.emp 1,gi 0]]) :: kF bs:List fE)=L at hoC
          refine bb.up r.right.length (PZ g b2 b8 b9 b16 b17 (.sl n3 0 kl.length 1) v o kl mm cc r L i) ?_ ?_
          · exact ⟨by rw[set_set]; exact hoC,by simp[View.set,n917,h9B],t1,t2,t7,t8,t9,t91,t92,t93,rfl,rfl,rfl,rfl⟩
          clear hoA hoB hoC hb16 hb17 h9 h9B f16 hv hfr t1 t2 t7 t8 t9 t91 t92 t93
          rintro k k2 T H3 hk2 ⟨hoC,h9,t1,t2,t7,t8,t9,t91,t92,t93,t17,t113,t114,t115⟩
          have f17:=hoC.is 0 rfl (by simp)
          simp (disch:=omega) only [↓wr,↓reduceIte,wq,ah,Int.reduceNeg,rG,t114,t115]
          refine aq.dec (fun hcc=>?_) (fun hcc=>?_)
          · have hgs:r.right[k]?=some (r.right[k]'(by omega)):=List.getElem?_eq_getElem (by omega)
            have hms:r.right[k]'(by omega)∈r.right:=List.getElem_mem _
            have hrl:(bf (dg o) r).right.length=r.right.length:=by simp[bf]
            have hts:(bf (dg o) r).right.take (k+1)=(bf (dg o) r).right.take k ++ [if r.right[k]'(by omega) < 0 then -1 - dg o (-1 - r.right[k]'(by omega)) else r.right[k]'(by omega)]:=by
              rw[List.take_add_one]; simp[bf,hgs]
            have hdr:=dA (show k < r.right.length by omega)
            generalize r.right[k]'(by omega)=s at hgs hms hts hdr
            obtain ⟨⟨s1,s2⟩,s3⟩:=hsy s hms
            have hbd:=MM o (-1 - s)
            rw[hdr] at hoC
            have hlen:(((bf (dg o) r).right.take k ++ s :: r.right.drop (k+1)).map fun x=>[gi x]).length=r.right.length:=by simp; omega
            obtain ⟨nv,ev,hnv⟩:=(hoC.own 1 rfl).sl (by rw[hlen]; omega)
            rw[hlen] at ev
            subst ev
            have hlt:k < ((bf (dg o) r).right.take k ++ s :: r.right.drop (k+1)).length:=by simp; omega
            have hbg2:=jM hlt
            have hel:((bf (dg o) r).right.take k ++ s :: r.right.drop (k+1))[k]'hlt=s:=by
              rw[List.getElem_append_right (by simp; omega)]
              simp[show k - min k r.right.length=0 by omega,hrl]
            rw[hel] at hbg2
            simp (disch:=omega) only [↓wr,↓reduceIte,wq,ah,Nat.reduceEqDiff,Nat.reduceLT,Int.reduceNeg,t113,t115,hnv,hbg2]
            refine ⟨by omega,hlt,?_⟩
            have hlk:((bf (dg o) r).right.take k).length=k:=by rw[List.length_take]; omega
            have nv9:nv≠b9:=z8 hoC 1 rfl h9
            refine aq.dec (fun hneg=>?_) (fun hneg=>?_)
            · rw[if_pos hneg] at hts
              simp (disch:=omega) only [↓wr,↓reduceIte,wq,ah,Nat.reduceEqDiff,Nat.reduceAdd,Nat.reduceLT,Int.reduceNeg,t9,t17,f17]
              refine xS (kt:=3) (et:=3) (z:=gi 0) (by kernel_rfl) (by kernel_rfl) (gX .i64 Tryz.underlying3) (id:=b9) (c:=cc) (m:=mm) (k:=-1 - s) (by simp (disch:=omega) only [↓wr,↓reduceIte,Nat.reduceEqDiff]) (by simp (disch:=omega) only [↓wr,↓reduceIte,Int.reduceNeg]) h9 ?_
              rw[hgt]
              simp (disch:=omega) only [↓wr,↓reduceIte,wq,ah,aa,Nat.reduceEqDiff,Nat.reduceLeDiff,Int.reduceNeg,reduceCtorEq,t1,t2,t8,t93,t115,hnv,hbg2]
              refine ⟨by omega,hlt,?_⟩
              have hoD:=((hoC.at 1 (by simp)).put (es':=((((bf (dg o) r).right.take k ++ s :: r.right.drop (k+1)).map fun x=>[gi x]).set k [gi (-1 - dg o (-1 - s))])) (by simp) (by rw[hlen])).perm (.swap _ _ _)
              refine aK hk2 (by omega) ⟨?_,by simp only[View.set,if_neg nv9.symm]; exact h9,t1,t2,t7,t8,t9,t91,t92,t93,t17,t113,t114,rfl⟩
              rw[ints_set,Bt hlk] at hoD
              rw[hts,List.append_assoc]
              rw[ints_set,Bt hlk]
              exact hoD
            · rw[if_neg hneg] at hts
              simp (disch:=omega) only [↓wr,↓reduceIte,wq,ah,Nat.reduceEqDiff,reduceCtorEq,t1,t2,t8,t93,t115]
              refine aK hk2 (by omega) ⟨?_,h9,t1,t2,t7,t8,t9,t91,t92,t93,t17,t113,t114,rfl⟩
              rw[hts,List.append_assoc]
              exact hoC
          · rw[List.take_of_length_le (by simp[bf]; omega),List.drop_eq_nil_of_le (by omega),List.append_nil] at hoC
            subst hL
            have f8:=hoC.is 3 rfl (by simp)
            have cv:=(hoC.own 1 rfl).cells
            have kv:=(hoC.own 1 rfl).gL
            have hbl:(fB bs).length≤40:=by
              have h1:=congrArg List.length hbs
              simp only[List.length_map,List.length_take] at h1
              simp only[fB,List.length_map]
              omega
            simp (disch:=omega) only [↓wr,↓reduceIte,wq,ag,Nat.reduceEqDiff,Nat.reduceAdd,Nat.reduceLT,Nat.reduceLeDiff,reduceCtorEq,t1,t2,t8,t93,t17,f8,f17,kv]
            intro m hm
            have n9m:b9≠m:=by rintro rfl; rw[h9] at hm; simp at hm
            try simp (disch:=omega) only [↓wr,↓reduceIte,wq,Nat.reduceEqDiff,cp]
            have hoD:=(hoC.fresh (o:=.arr 3 [[gi (dg o r.left),v,gi r.prec]]) hm).at 7 (by simp)
            refine cH hoD (by simp[Bk,kv]) (by unfold aI; simp at hbl ⊢; omega) (by unfold aI; simp at hbl ⊢; omega) ?_
            intro u2' H4 hoE hleft
            have cu:=hoE.head.cells
            have ku:=hoE.head.gL
            have f8':=hoE.is 4 rfl (by simp)
            have h9':H4 b9=.map (xb mm) cc:=hleft.map (b:=b9) hoD.head (by simp[View.set,n9m,h9])
            have n98:b9≠b8:=(z8 hoE 4 rfl h9').symm
            simp (disch:=omega) only [↓wr,↓reduceIte,wq,ah,aa,Nat.reduceEqDiff,Nat.reduceAdd,Nat.reduceLT,Nat.reduceLeDiff,reduceCtorEq,t1,t2,t8,t93,f8',cu,ku]
            have hoF:=(hoE.at 4 (by simp)).put (es':=[[u0,u1,u2',gi 0]]) rfl rfl
            have hoG:=((((hoF.at 2 (by simp)).tail).at 3 (by simp)).tail)
            refine aK hk (by omega) ⟨⟨u2',bs ++ [(v,bf (dg o) r)],?_,?_,by simp only[View.set,if_neg n98]; exact h9'⟩,t1,t2,t7,t8,t9,t91,t92,rfl⟩
            · rw[List.map_append,hbs,htk,List.map_append]; rfl
            · refine hoG.perm (.cons _ ?_)
              simp only[kF,fB,List.map_append,List.map_cons,List.map_nil]
              refine .trans ?_ (qv _ 3 (by simp)).symm
              refine .cons _ ?_
              exact (List.perm_append_singleton (v,1,bq (bf (dg o) r).right) ((.sl n3 0 kl.length 1,1,bq kl) :: (u1,1,jf (o.map fun x=>g.av.getD x.toNat ⟨#[]⟩)) :: (u0,3,g.ax.map ct) :: (.sl b2 0 1 4,4,[[.emp 1,.emp 1,.emp 1,gi 0]]) :: kF bs)).symm
        · rw[List.take_of_length_le (by omega)] at hbs
          have f8:=ho.is 0 rfl (by simp)
          have f2:=ho.is 5 rfl (by simp)
          have n82:b8≠b2:=ho.Fw 0 5 rfl rfl (by omega)
          have c1:=(ho.own 2 rfl).cells
          have k1:=(ho.own 2 rfl).gL
          have c2:=(ho.own 4 rfl).cells
          have k2:=(ho.own 4 rfl).gL
          have hgt:∀ x,(getM mm x).getD (gi 0)=gi (dg o x):=fun x=>by
            rw[hm9.get,dg]; cases dr (iC o 0) x <;> rfl
          simp (disch:=omega) only [↓wr,↓reduceIte,wq,Nat.reduceEqDiff,Nat.reduceAdd,Nat.reduceLT,reduceCtorEq,t1,t2,ar]
          refine xS (kt:=3) (et:=3) (z:=gi 0) (by kernel_rfl) (by kernel_rfl) (gX .i64 Tryz.underlying3) (id:=b9) (c:=cc) (m:=mm) (k:=g.start) (by simp (disch:=omega) only [↓wr,↓reduceIte,Nat.reduceEqDiff,t9]) (by simp (disch:=omega) only [↓wr,↓reduceIte]) h9 ?_
          rw[hgt]
          simp (disch:=omega) only [↓wr,↓reduceIte,wq,aa,Nat.reduceEqDiff,Nat.reduceAdd,Nat.reduceLT,Nat.reduceLeDiff,reduceCtorEq,t2,t7,t8,f8,f2,n82.symm,k0,k1,k2]
          intro h' hh
          have hoA:=ho.put (es':=[[u0,u1,u2,gi (dg o g.start)]]) rfl rfl
          have hoB:=(hoA.at 5 (by simp)).put (es':=[[u0,u1,u2,gi (dg o g.start)]]) rfl rfl
          have hv:h'.view=(H2.set b8 (.arr 4 [[u0,u1,u2,gi (dg o g.start)]])).set b2 (.arr 4 [[u0,u1,u2,gi (dg o g.start)]]):=hh
          rw[← hv] at hoB
          exact FF (x:=(⟨g.ax,o.map fun x=>g.av.getD x.toNat ⟨#[]⟩,(g.rules.filter (bD p q)).map (bf (dg o)),dg o g.start⟩,kl,0)) (b:=bs) (hoB.own 4 rfl) (hoB.own 3 rfl) (hoB.own 5 rfl) (fun y hy=>hoB.1 y (by
            refine List.mem_cons_of_mem _ (List.mem_cons_of_mem _ (List.mem_cons_of_mem _ (List.mem_cons_of_mem _ (List.mem_cons_of_mem _ (List.mem_cons_of_mem _ ?_)))))
            exact hy)) hbs (hoB.own 2 rfl)
  · rename_i hr
    intro h' hh
    rw[if_neg (by simp[hr])]
    exact uB
theorem Fg {l:List Int} {a b:List Bool} {t:Bool} (h:fq a b) (k:dt l a t=true):dt l b t=true:=by
  simp only[dt,List.all_eq_true] at k ⊢
  intro s hs
  have:=k s hs
  by_cases h0:0≤s
  · rw[if_pos h0] at this ⊢; exact this
  · rw[if_neg h0] at this ⊢; exact h.2 _ this
theorem fq.Ki {a b:List Bool} (h:fq a b) (k:fq b a):a=b:=by
  have h1:=h.cr
  have h2:=k.cr
  exact h1.2 (by omega)
def mf (g:an) (t:Bool) (is:List Bool):Prop:=∀ i,is.getD i false=true→∃ r∈g.rules,r.left.toNat=i∧dt r.right is t=true
theorem mf.step {g:an} {t:Bool} {is:List Bool} {r:aQ} (h:mf g t is) (hr:r∈g.rules):mf g t (dx t is r):=by
  have hle:fq is (dx t is r):=by
    unfold dx
    split
    · exact .set _ _
    · exact .refl _
  intro i hi
  by_cases e:is.getD i false=true
  · obtain ⟨r',h1,h2,h3⟩:=h i e
    exact ⟨r',h1,h2,Fg hle h3⟩
  · unfold dx at hi
    by_cases ha:dt r.right is t=true
    · rw[if_pos ha] at hi
      have:r.left.toNat=i:=by
        refine Classical.byContradiction fun hne=>e ?_
        simp only[List.getD_eq_getElem?_getD,List.getElem?_set,if_neg hne] at hi ⊢
        exact hi
      exact ⟨r,hr,this,Fg hle ha⟩
    · rw[if_neg ha] at hi; exact absurd hi e
theorem mf.fold {g:an} {t:Bool} : ∀ (l:List aQ) (is:List Bool),(∀ r∈l,r∈g.rules)→mf g t is→mf g t (l.foldl (dx t) is)
  | [],is,_,h=>h
  | r :: l,is,hl,h=>mf.fold l _ (fun x hx=>hl x (by simp[hx])) (h.step (hl r (by simp)))
theorem mf.iter {g:an} {t:Bool} : ∀ (n:Nat) (is:List Bool),mf g t is→mf g t (iter (iO g t) n is)
  | 0,_,h=>h
  | n+1,is,h=>mf.iter n _ (mf.fold g.rules is (fun _ h=>h) h)
theorem G1 (g:an) (t:Bool):mf g t (aJ g t):=by
  unfold aJ
  split
  · refine mf.iter _ _ ?_
    intro i hi
    simp only[bV,List.getD_eq_getElem?_getD,List.getElem?_replicate] at hi
    split at hi <;> simp at hi
  · intro i hi; simp at hi
theorem Fp (is:List Bool) (s:Int):fq is (mark is s):=by
  unfold mark
  split
  · exact .set _ _
  · exact .refl _
theorem yM:∀ (l:List Int) (is:List Bool),fq is (l.foldl mark is)
  | [],is=>.refl _
  | s :: l,is=>(Fp is s).trans (yM l _)
theorem Ez (p is:List Bool) (r:aQ):fq is (eE p is r):=by
  unfold eE
  split
  · exact yM _ _
  · exact .refl _
theorem ED (p:List Bool):∀ (l:List aQ) (is:List Bool),fq is (l.foldl (eE p) is)
  | [],is=>.refl _
  | r :: l,is=>(Ez p is r).trans (ED p l _)
theorem Cu {p:List Bool} : ∀ {l:List aQ} {is:List Bool},l.foldl (eE p) is=is→∀ r∈l,eE p is r=is
  | [],_,_,_,h=>by simp at h
  | r :: l,is,h,x,hx=>by
    rw[List.foldl_cons] at h
    have h1:=ED p l (eE p is r)
    rw[h] at h1
    have h2:=(h1.Ki (Ez p is r))
    rcases List.mem_cons.1 hx with rfl | hx
    · exact h2
    · rw[h2] at h; exact Cu h x hx
theorem BR:∀ {l:List Int} {is:List Bool},l.foldl mark is=is→∀ s∈l,mark is s=is
  | [],_,_,_,h=>by simp at h
  | r :: l,is,h,x,hx=>by
    rw[List.foldl_cons] at h
    have h1:=yM l (mark is r)
    rw[h] at h1
    have h2:=(h1.Ki (Fp is r))
    rcases List.mem_cons.1 hx with rfl | hx
    · exact h2
    · rw[h2] at h; exact BR h x hx
theorem B8 {g:an} (hr:bp g=true):mq g (aJ g true) (bu g)=bu g∧fq ((bV g).set g.start.toNat true) (bu g):=by
  have hf:=aZ hr
  have h:=rC (qZ (aJ g true)) g.rules 16 ((bV g).set g.start.toNat true) (by have:=hf.av; simp[bV]; omega)
  rw[FC,Jh hr] at h
  exact h
theorem sB {g:an} (hr:bp g=true):(bu g).getD g.start.toNat false=true:=by
  have hf:=aZ hr
  refine (B8 hr).2.2 _ ?_
  have h3:=hf.dW
  have h4:=hf.start
  simp only[List.getD_eq_getElem?_getD]
  rw[List.getElem?_set_self (by simp[bV]; omega)]
  rfl
theorem ue {g:an} (hr:bp g=true) {r:aQ} (hm:r∈g.rules) (hk:bD (aJ g true) (bu g) r=true) {s:Int} (hs:s∈r.right) (hn:s < 0):(bu g).getD (-1 - s).toNat false=true:=by
  have hf:=aZ hr
  have h1:=Cu (B8 hr).1 r hm
  unfold eE at h1
  rw[bD] at hk
  rw[if_pos hk] at h1
  have h2:=BR h1 s hs
  unfold mark at h2
  rw[if_pos hn] at h2
  rw[← h2]
  have hl:=ou hr
  have:=hf.neg hm hs hn
  simp only[List.getD_eq_getElem?_getD]
  rw[List.getElem?_set_self (by omega)]
  rfl
theorem zt {g:an} (hr:bp g=true) {x:Int} (h0:0≤x) (hp:(aJ g true).getD x.toNat false=true) (hq:(bu g).getD x.toNat false=true):x∈bL (aJ g true) (bu g) g.rules:=by
  obtain ⟨r,h1,h2,h3⟩:=G1 g true _ hp
  have hf:=aZ hr
  have h4:=hf.left r h1
  have:r.left=x:=by omega
  refine q8.2 ⟨r,h1,?_,this⟩
  rw[bD,this,hq,h3]; rfl
theorem G4 (g:an):(if bp g=true then
    if (aJ g true).getD g.start.toNat false=true then (iX g (dg (bL (aJ g true) (bu g) g.rules)) (aJ g true) (bu g),cq (aJ g true) (bu g) g.rules 0,0)
    else (q6,[],9)
  else (q6,[],1))=eP g:=by
  unfold eP
  by_cases hr:bp g=true
  · rw[if_pos hr,if_pos hr]
    by_cases hp:(aJ g true).getD g.start.toNat false=true
    · rw[if_pos hp,if_pos hp]
      have hf:=aZ hr
      rw[Io]
      · exact zt hr hf.dW hp (sB hr)
      · intro r hm
        obtain ⟨h1,h2⟩:=List.mem_filter.1 hm
        refine ⟨q8.2 ⟨r,h1,h2,rfl⟩,fun s hs hn=>?_⟩
        refine zt hr (by omega) ?_ (ue hr h1 h2 hs hn)
        rw[bD,Bool.and_eq_true] at h2
        have:=h2.2
        simp only[dt,List.all_eq_true] at this
        have:=this s hs
        rwa [if_neg (by omega)] at this
    · rw[if_neg hp,if_neg hp]
  · rw[if_neg hr,if_neg hr]
theorem GR (g:an) (hg:g.Ok) (hs:g.Small):cd Tryz.prog 107 [.agg (ar g)] (ug (eP g)):=by
  rw[← G4]; exact EW g hg hs
end Gv
